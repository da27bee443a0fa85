/- A part of the proof. -/
import Derived.Test.YtlobiioioicmhaaGreatDoorBQ7
set_option linter.all false
set_option maxHeartbeats 8000000
namespace Go.Proofs.YtlobiioioicmhaaGreatDoor
open _root_.Bool renaming not_true→Bv,not_false→Bf
open _root_.List renaming getElem?_eq_some_iff→Bs,getElem?_append_left→Ba,getElem?_append_right→Br,getElem?_set_self→Be,getElem?_set_ne→Bn,length_append→Bp,append_assoc→Bo,getElem?_eq_none→Bq,length_drop→Bd,mem_singleton→Bj,length_cons→BC,length_nil→BD,getElem?_drop→BX,getElem?_take→BY
open _root_.Nat renaming le_refl→BL,le_trans→BM
open Go.Proofs.Tryz renaming prog→Tp
open Go Go.Ev
set_option maxRecDepth 20000
variable {γ:List (Nat×AV)}
def TakeP(ts:List Tk)(L:AV)(i p:Nat)(N:AV)(s:List UInt8)(h:List ABlk)(o:Out)(h':List ABlk):Prop:=
 if mkA ts p=s then o=.ret (.tup [])∧h'=h.set i ⟨0,104,[L,.v (.int .i64 ((p+1:Nat):Int)),N]⟩else o=.pan (faultA p)∧h'=h
theorem take_ev{ts:List Tk}{h:List ABlk}{i p:Nat}{L N:AV}{ns:List Nd}(hL:LAt L ts)(hr:RS h i L p N ns)(hb:p<4611686018427387904)(s:List UInt8):
  EvM Tp γ 282 [.ptr i 0 0,.v (.string ⟨s.toArray⟩)] h (TakeP ts L i p N s h):=by
 have hi:=hr.1;have w1:IntKind.i64.wrap ((p:Int)+1)=((p+1:Nat):Int):=(i64w (by omega) (by omega)).trans (by omega);refine EvM.of Tryz.func282 rfl ?_;simp only[Tryz.f282,evE,Nat.reduceAdd,Nat.reduceSub,Nat.reduceLT,Nat.reduceEqDiff,reduceCtorEq];refine CallE.intro c186 _ (mark_ev hL hr) (fun r h' hh=>?_) (fun v h' hh=>by cases hh.1);obtain⟨e,rfl⟩:=hh;cases e
 by_cases hm:mkA ts p=s
 ·have d1:(mkA ts p==s)=true:=by simpa using hm
  simp only[hi,d1,w1,evE,tyX,Bv,Nat.reduceAdd,Nat.reduceLT,Nat.reduceLeDiff,Nat.reduceEqDiff,reduceCtorEq]
  (repeat' (first|(with_reducible refine aI ?_ ?_)|((first|refine GuardK.intro_f (fun h=>?_) (fun h=>?_)|refine GuardK.intro_t (fun h=>?_) (fun h=>?_)|refine CondK.intro (fun h=>?_) (fun h=>?_)|refine PickK.intro (fun h=>?_) (fun h=>?_))<;>simp only[h,hi,d1,w1,evE,tyX,Bv,Bf,Nat.reduceAdd,Nat.reduceSub,Nat.reduceMul,Nat.reduceLT,Nat.reduceLeDiff,Nat.reduceEqDiff,reduceCtorEq,List.reduceReplicate,Int.reduceToNat,Int.reduceLE,Int.reduceLT])|(refine dI ?_;simp only[hi,d1,w1,evE,tyX,Bv,Bf,Nat.reduceAdd,Nat.reduceSub,Nat.reduceMul,Nat.reduceLT,Nat.reduceLeDiff,Nat.reduceEqDiff,reduceCtorEq,List.reduceReplicate,Int.reduceToNat,Int.reduceLE,Int.reduceLT])))
  unfold TakeP;rw[if_pos hm];exact⟨rfl,rfl⟩
 ·have d1:(mkA ts p==s)=false:=by simpa using hm
  simp only[hi,d1,evE,tyX,Bf,Nat.reduceLT,Nat.reduceLeDiff,Nat.reduceEqDiff,reduceCtorEq]
  (repeat' (first|(with_reducible refine aI ?_ ?_)|((first|refine GuardK.intro_f (fun h=>?_) (fun h=>?_)|refine GuardK.intro_t (fun h=>?_) (fun h=>?_)|refine CondK.intro (fun h=>?_) (fun h=>?_)|refine PickK.intro (fun h=>?_) (fun h=>?_))<;>simp only[h,hi,d1,w1,evE,tyX,Bv,Bf,Nat.reduceAdd,Nat.reduceSub,Nat.reduceMul,Nat.reduceLT,Nat.reduceLeDiff,Nat.reduceEqDiff,reduceCtorEq,List.reduceReplicate,Int.reduceToNat,Int.reduceLE,Int.reduceLT])|(refine dI ?_;simp only[hi,d1,w1,evE,tyX,Bv,Bf,Nat.reduceAdd,Nat.reduceSub,Nat.reduceMul,Nat.reduceLT,Nat.reduceLeDiff,Nat.reduceEqDiff,reduceCtorEq,List.reduceReplicate,Int.reduceToNat,Int.reduceLE,Int.reduceLT])))
  unfold TakeP;rw[if_neg hm];exact⟨rfl,rfl⟩
def PutP(L:AV)(i p:Nat)(N:AV)(ns:List Nd)(nd:Nd)(h:List ABlk)(o:Out)(h':List ABlk):Prop:=
 o=.ret (.v (.int .i64 (ns.length:Int)))∧Fr (RP i N) h h'∧∃ N',RS h' i L p N' (ns++[nd])∧∀ k,nbk N' k→nbk N k∨h.length≤k
theorem put_ev{h:List ABlk}{i p:Nat}{L N:AV}{ns:List Nd}(hr:RS h i L p N ns)(nd:Nd)(hb:(ns.length+1) * 96≤140737488355328):
  EvM Tp γ 188 [.ptr i 0 0,.agg nd.cells] h (PutP L i p N ns nd h):=by
 obtain⟨hi,hn⟩:=hr;have hlt:i<h.length:=(Bs.1 hi).1;have g1:∀ l,(h++l)[i]?=some ⟨0,104,[L,.v (.int .i64 p),N]⟩:=fun l=>(Ba hlt).trans hi
 have g2:∀ (x:ABlk) l,(h++x::l)[h.length]?=some x:=fun x l=>by simp
 have g3:∀ (x y:ABlk) l,(h++x::y::l)[h.length+1]?=some y:=fun x y l=>by simp
 have g4:∀ l b,((h++l).set i b)[i]?=some b:=fun l b=>Be (by simp;omega)
 have g6:∀ x y z l b,((h++x::y::z::l).set i b)[h.length+2]?=some z:=fun x y z l b=>by rw[Bn (by omega)];simp
 have g5:∀ l j x b,(((h++l).set j x).set i b)[i]?=some b:=fun l j x b=>Be (by simp;omega)
 obtain⟨k,a,b,nm,vk,vi,vr,vt⟩:=nd;refine EvM.of Tryz.func188 rfl ?_
 rcases hn with⟨rfl,rfl⟩|⟨j,ver,rfl,hj⟩
 ·simp only[Tryz.f188,Nd.cells,evE,Nat.reduceAdd,Nat.reduceSub,Nat.reduceLT,reduceCtorEq]
  (repeat' (first|(with_reducible refine aI ?_ ?_)|((first|refine GuardK.intro_f (fun h=>?_) (fun h=>?_)|refine GuardK.intro_t (fun h=>?_) (fun h=>?_)|refine CondK.intro (fun h=>?_) (fun h=>?_)|refine PickK.intro (fun h=>?_) (fun h=>?_))<;>simp only[h,hi,g1,g2,g3,g4,g6,Bo,evE,tyX,Bv,Bf,Nat.reduceAdd,Nat.reduceSub,Nat.reduceMul,Nat.reduceLT,Nat.reduceLeDiff,Nat.reduceEqDiff,reduceCtorEq,List.reduceReplicate,Int.reduceToNat,Int.reduceLE,Int.reduceLT])|(refine dX ?_;simp only[g1,g2,g3,g4,g6,Bo,evE,tyX,Nat.reduceAdd,Nat.reduceLT,Nat.reduceLeDiff,Nat.reduceEqDiff,reduceCtorEq,List.reduceReplicate])))
  refine⟨by rw[i64w (by decide) (by decide)];rfl,Fr.trans (Fr.app h _) (Fr.set (S:=RP i (.v (.slice none 0 0))) _ (.inl rfl)) (fun k hk=>.inl hk),_,⟨g4 _ _,.inr ⟨_,_,rfl,g6 _ _ _ _ _⟩⟩,fun k hk=>.inr (by have:k=h.length+2:=hk;omega)⟩
 ·have hjl:j<h.length:=(Bs.1 hj).1;have hji:j≠i:=fun e=>by subst e;rw[hi]at hj;cases hj
  have q1:∀ l,(h++l)[j]?=some ⟨ver,115,ndCells ns⟩:=fun l=>(Ba hjl).trans hj
  have q2:∀ l x,((h++l).set j x)[i]?=some ⟨0,104,[L,.v (.int .i64 p),.own j ver ns.length]⟩:=fun l x=>(Bn hji).trans (g1 l)
  have q3:∀ l x b,(((h++l).set j x).set i b)[j]?=some x:=fun l x b=>(Bn hji.symm).trans (Be (by simp;omega))
  have q4:=ndCells_take ns;have q5:=ndCells_length ns;have q6:ns.length * 9≤(ndCells ns).length:=by omega
  simp only[Tryz.f188,Nd.cells,evE,Nat.reduceAdd,Nat.reduceSub,Nat.reduceLT,reduceCtorEq]
  (repeat' (first|(with_reducible refine aI ?_ ?_)|((first|refine GuardK.intro_f (fun h=>?_) (fun h=>?_)|refine GuardK.intro_t (fun h=>?_) (fun h=>?_)|refine CondK.intro (fun h=>?_) (fun h=>?_)|refine PickK.intro (fun h=>?_) (fun h=>?_))<;>simp only[h,hi,g1,g2,g3,g4,g5,q1,q2,q3,q4,q5,q6,Bo,evE,tyX,Bv,Bf,Nat.reduceAdd,Nat.reduceSub,Nat.reduceMul,Nat.reduceLT,Nat.reduceLeDiff,Nat.reduceEqDiff,reduceCtorEq,List.reduceReplicate,Int.reduceToNat,Int.reduceLE,Int.reduceLT])|(refine dX ?_;simp only[g1,g2,g3,g5,q1,q2,q3,q4,q5,Bo,evE,tyX,Nat.reduceAdd,Nat.reduceLT,Nat.reduceLeDiff,Nat.reduceEqDiff,reduceCtorEq,List.reduceReplicate])))
  ·omega
  ·exact hb
  ·have e:IntKind.i64.wrap (((ns.length+1:Nat):Int)-1)=(ns.length:Int):=(i64w (by omega) (by omega)).trans (by omega);refine⟨by rw[e],Fr.trans (Fr.trans (Fr.app h _) (Fr.set (S:=RP i (.own j ver ns.length)) _ (.inr rfl)) (fun k hk=>.inl hk)) (Fr.set (S:=RP i (.own j ver ns.length)) _ (.inl rfl)) (fun k hk=>.inl hk),.own j (ver+1) (ns.length+1),⟨g5 _ _ _ _,.inr ⟨j,ver+1,by rw[Bp];rfl,?_⟩⟩,fun k hk=>.inl hk⟩;rw[q3,ndCells_app];rfl
theorem operator_ev(s:List UInt8):Ev Tp γ 185 [.v (.string ⟨s.toArray⟩)] (.v (.int .i64 (opK s))):=by
 refine Ev.of Tryz.func185 rfl ?_;unfold opK;simp only[←beq_iff_eq (α:=List UInt8)];simp only[Tryz.f185,evE,Nat.reduceAdd,Nat.reduceSub,Nat.reduceLT,Nat.reduceEqDiff,reduceCtorEq]
 (repeat' (first|(with_reducible refine aI ?_ ?_)|(first|(first|refine gF ?_ ?_|refine gT ?_ ?_|refine cI ?_ ?_|refine pI ?_ ?_)<;>intro h|(refine dI ?_;have h:=trivial))<;>simp only[h,evE,Nat.reduceLT,Nat.reduceEqDiff,reduceCtorEq,tyX,Bv,Bf,Nat.reduceAdd,Nat.reduceSub,Nat.reduceMul,Nat.reduceLeDiff,List.reduceReplicate,Int.reduceToNat,Int.reduceLE,Int.reduceLT]))
 all_goals (try (simp only[*,if_true,if_false,Bool.false_eq_true];done))
 all_goals trace_state
theorem word_ev(s:List UInt8):Ev Tp γ 299 [.v (.string ⟨s.toArray⟩)] (.v (.int .i64 (wordK s))):=by
 refine Ev.of Tryz.func299 rfl ?_;unfold wordK;simp only[←beq_iff_eq (α:=List UInt8)];simp only[Tryz.f299,evE,Nat.reduceAdd,Nat.reduceSub,Nat.reduceLT,Nat.reduceEqDiff,reduceCtorEq]
 (repeat' (first|(with_reducible refine aI ?_ ?_)|(first|(first|refine gF ?_ ?_|refine gT ?_ ?_|refine cI ?_ ?_|refine pI ?_ ?_)<;>intro h|(refine dI ?_;have h:=trivial))<;>simp only[h,evE,Nat.reduceLT,Nat.reduceEqDiff,reduceCtorEq,tyX,Bv,Bf,Nat.reduceAdd,Nat.reduceSub,Nat.reduceMul,Nat.reduceLeDiff,List.reduceReplicate,Int.reduceToNat,Int.reduceLE,Int.reduceLT]))
 all_goals (try (simp only[*,if_true,if_false,Bool.false_eq_true];done))
 all_goals trace_state
theorem level_ev(s:Int):Ev Tp γ 187 [.v (.int .i64 s)] (.v (.int .i64 (levK s))):=by
 refine Ev.of Tryz.func187 rfl ?_;unfold levK;simp only[←beq_iff_eq (α:=Int),←Bool.or_eq_true];simp only[Tryz.f187,evE,Nat.reduceAdd,Nat.reduceSub,Nat.reduceLT,Nat.reduceEqDiff,reduceCtorEq]
 (repeat' (first|(with_reducible refine aI ?_ ?_)|(first|(first|refine gF ?_ ?_|refine gT ?_ ?_|refine cI ?_ ?_|refine pI ?_ ?_)<;>intro h|(refine dI ?_;have h:=trivial))<;>simp only[h,evE,Nat.reduceLT,Nat.reduceEqDiff,reduceCtorEq,tyX,Bv,Bf,Nat.reduceAdd,Nat.reduceSub,Nat.reduceMul,Nat.reduceLeDiff,List.reduceReplicate,Int.reduceToNat,Int.reduceLE,Int.reduceLT]))
 all_goals (try (simp only[*,if_true,if_false,Bool.false_eq_true,Bool.or_false,Bool.or_true,Bool.or_self];done))
 all_goals trace_state
theorem children_ev(s:Int):Ev Tp γ 115 [.v (.int .i64 s)] (.v (.int .i64 (kidsK s))):=by
 refine Ev.of Tryz.func115 rfl ?_;generalize hk:kidsK s=r;simp only[Tryz.f115,evE,Nat.reduceAdd,Nat.reduceSub,Nat.reduceLT,Nat.reduceEqDiff,reduceCtorEq]
 (repeat' (first|(with_reducible refine aI ?_ ?_)|(first|(first|refine gF ?_ ?_|refine gT ?_ ?_|refine cI ?_ ?_|refine pI ?_ ?_)<;>intro h|(refine dI ?_;have h:=trivial))<;>simp only[h,evE,Nat.reduceLT,Nat.reduceEqDiff,reduceCtorEq,tyX,Bv,Bf,Nat.reduceAdd,Nat.reduceSub,Nat.reduceMul,Nat.reduceLeDiff,List.reduceReplicate,Int.reduceToNat,Int.reduceLE,Int.reduceLT]))
 all_goals (simp only[beq_iff_eq,beq_eq_false_iff_ne,ne_eq,decide_eq_true_eq,decide_eq_false_iff_not]at *)
 all_goals (unfold kidsK at hk;subst hk)
 all_goals (first|(rw[if_pos (by omega)])|(rw[if_neg (by omega),if_pos (by omega)])|(rw[if_neg (by omega),if_neg (by omega),if_pos (by omega)])|(rw[if_neg (by omega),if_neg (by omega),if_neg (by omega)]))
def Tr.wf:Tr→Prop
 |.lf k .. =>kidsK k=0
 |.un k a=>kidsK k=1∧a.wf
 |.bi k a b=>kidsK k=2∧a.wf∧b.wf
theorem opK_vals(s:List UInt8):opK s=17∨opK s=16∨opK s=10∨opK s=11∨opK s=12∨opK s=13∨opK s=14∨opK s=15∨opK s=5∨opK s=6∨opK s=7∨opK s=8∨opK s=9∨opK s=0:=by
 unfold opK
 by_cases h0:s=[124,124]
 ·exact .inl (by rw[if_pos h0])
 by_cases h1:s=[38,38]
 ·exact .inr (.inl (by rw[if_neg h0,if_pos h1]))
 by_cases h2:s=[61,61]
 ·exact .inr (.inr (.inl (by rw[if_neg h0,if_neg h1,if_pos h2])))
 by_cases h3:s=[33,61]
 ·exact .inr (.inr (.inr (.inl (by rw[if_neg h0,if_neg h1,if_neg h2,if_pos h3]))))
 by_cases h4:s=[60]
 ·exact .inr (.inr (.inr (.inr (.inl (by rw[if_neg h0,if_neg h1,if_neg h2,if_neg h3,if_pos h4])))))
 by_cases h5:s=[60,61]
 ·exact .inr (.inr (.inr (.inr (.inr (.inl (by rw[if_neg h0,if_neg h1,if_neg h2,if_neg h3,if_neg h4,if_pos h5]))))))
 by_cases h6:s=[62]
 ·exact .inr (.inr (.inr (.inr (.inr (.inr (.inl (by rw[if_neg h0,if_neg h1,if_neg h2,if_neg h3,if_neg h4,if_neg h5,if_pos h6])))))))
 by_cases h7:s=[62,61]
 ·exact .inr (.inr (.inr (.inr (.inr (.inr (.inr (.inl (by rw[if_neg h0,if_neg h1,if_neg h2,if_neg h3,if_neg h4,if_neg h5,if_neg h6,if_pos h7]))))))))
 by_cases h8:s=[43]
 ·exact .inr (.inr (.inr (.inr (.inr (.inr (.inr (.inr (.inl (by rw[if_neg h0,if_neg h1,if_neg h2,if_neg h3,if_neg h4,if_neg h5,if_neg h6,if_neg h7,if_pos h8])))))))))
 by_cases h9:s=[45]
 ·exact .inr (.inr (.inr (.inr (.inr (.inr (.inr (.inr (.inr (.inl (by rw[if_neg h0,if_neg h1,if_neg h2,if_neg h3,if_neg h4,if_neg h5,if_neg h6,if_neg h7,if_neg h8,if_pos h9]))))))))))
 by_cases h10:s=[42]
 ·exact .inr (.inr (.inr (.inr (.inr (.inr (.inr (.inr (.inr (.inr (.inl (by rw[if_neg h0,if_neg h1,if_neg h2,if_neg h3,if_neg h4,if_neg h5,if_neg h6,if_neg h7,if_neg h8,if_neg h9,if_pos h10])))))))))))
 by_cases h11:s=[47]
 ·exact .inr (.inr (.inr (.inr (.inr (.inr (.inr (.inr (.inr (.inr (.inr (.inl (by rw[if_neg h0,if_neg h1,if_neg h2,if_neg h3,if_neg h4,if_neg h5,if_neg h6,if_neg h7,if_neg h8,if_neg h9,if_neg h10,if_pos h11]))))))))))))
 by_cases h12:s=[37]
 ·exact .inr (.inr (.inr (.inr (.inr (.inr (.inr (.inr (.inr (.inr (.inr (.inr (.inl (by rw[if_neg h0,if_neg h1,if_neg h2,if_neg h3,if_neg h4,if_neg h5,if_neg h6,if_neg h7,if_neg h8,if_neg h9,if_neg h10,if_neg h11,if_pos h12])))))))))))))
 exact .inr (.inr (.inr (.inr (.inr (.inr (.inr (.inr (.inr (.inr (.inr (.inr (.inr (by rw[if_neg h0,if_neg h1,if_neg h2,if_neg h3,if_neg h4,if_neg h5,if_neg h6,if_neg h7,if_neg h8,if_neg h9,if_neg h10,if_neg h11,if_neg h12])))))))))))))
theorem wordK_vals(s:List UInt8):wordK s=18∨wordK s=19∨wordK s=20∨wordK s=21∨wordK s=22∨wordK s=23∨wordK s=24∨wordK s=25∨wordK s=26∨wordK s=0:=by
 unfold wordK
 by_cases h0:s=[114,101]
 ·exact .inl (by rw[if_pos h0])
 by_cases h1:s=[105,109]
 ·exact .inr (.inl (by rw[if_neg h0,if_pos h1]))
 by_cases h2:s=[115,105,122,101,50]
 ·exact .inr (.inr (.inl (by rw[if_neg h0,if_neg h1,if_pos h2])))
 by_cases h3:s=[99,111,109,112]
 ·exact .inr (.inr (.inr (.inl (by rw[if_neg h0,if_neg h1,if_neg h2,if_pos h3]))))
 by_cases h4:s=[114,101,97,108]
 ·exact .inr (.inr (.inr (.inr (.inl (by rw[if_neg h0,if_neg h1,if_neg h2,if_neg h3,if_pos h4])))))
 by_cases h5:s=[108,101,110]
 ·exact .inr (.inr (.inr (.inr (.inr (.inl (by rw[if_neg h0,if_neg h1,if_neg h2,if_neg h3,if_neg h4,if_pos h5]))))))
 by_cases h6:s=[97,116]
 ·exact .inr (.inr (.inr (.inr (.inr (.inr (.inl (by rw[if_neg h0,if_neg h1,if_neg h2,if_neg h3,if_neg h4,if_neg h5,if_pos h6])))))))
 by_cases h7:s=[99,97,116]
 ·exact .inr (.inr (.inr (.inr (.inr (.inr (.inr (.inl (by rw[if_neg h0,if_neg h1,if_neg h2,if_neg h3,if_neg h4,if_neg h5,if_neg h6,if_pos h7]))))))))
 by_cases h8:s=[115,116,114]
 ·exact .inr (.inr (.inr (.inr (.inr (.inr (.inr (.inr (.inl (by rw[if_neg h0,if_neg h1,if_neg h2,if_neg h3,if_neg h4,if_neg h5,if_neg h6,if_neg h7,if_pos h8])))))))))
 exact .inr (.inr (.inr (.inr (.inr (.inr (.inr (.inr (.inr (by rw[if_neg h0,if_neg h1,if_neg h2,if_neg h3,if_neg h4,if_neg h5,if_neg h6,if_neg h7,if_neg h8])))))))))
theorem opK_kids{s:List UInt8}(h:opK s≠0):kidsK (opK s)=2:=by
 rcases opK_vals s with e|e|e|e|e|e|e|e|e|e|e|e|e|e<;>first|exact absurd e h|(rw[e];decide)
theorem wordK_kids{s:List UInt8}(h:wordK s≠0):kidsK (wordK s)=1∨kidsK (wordK s)=2:=by
 rcases wordK_vals s with e|e|e|e|e|e|e|e|e|e<;>first|exact absurd e h|(rw[e];decide)
theorem pr_wf(ts:List Tk):∀ (f:Nat) (m:Md) (p:Nat) (t:Tr) (q:Nat),(∀ n a,m=.lp n a→a.wf)→pr ts f m p=.ok t q→t.wf:=by
 intro f
 induction f with
 |zero=>intro m p t q _ h;cases m<;>cases h
 |succ f ih=>
  intro m p t q hm h;cases m with
  |bin n=>
   rw[pr]at h
   split at h
   ·exact ih .un _ _ _ (fun _ _ e=>by cases e) h
   ·split at h
    ·cases h
    ·rename_i a q' e;have ha:=ih (.bin (n+1)) _ _ _ (fun _ _ e=>by cases e) e;exact ih (.lp n a) _ _ _ (fun _ _ e=>by cases e;exact ha) h
  |lp n a=>
   have ha:=hm n a rfl;rw[pr]at h
   split at h
   ·cases h;exact ha
   ·rename_i hk;have hk0:opK (mkA ts p)≠0:=fun e=>hk (.inl e)
    split at h
    ·cases h
    ·rename_i b q' e;have hb:=ih (.bin (n+1)) _ _ _ (fun _ _ e=>by cases e) e
     split at h
     ·cases h;exact⟨opK_kids hk0,ha,hb⟩
     ·exact ih _ _ _ _ (fun _ _ e=>by cases e;exact⟨opK_kids hk0,ha,hb⟩) h
  |un=>
   rw[pr]at h
   split at h
   ·split at h
    ·cases h
    ·rename_i a q' e;have ha:=ih .un _ _ _ (fun _ _ e=>by cases e) e;cases h;refine⟨?_,ha⟩
     split<;>decide
   ·exact ih .fs _ _ _ (fun _ _ e=>by cases e) h
  |fs=>
   rw[pr]at h
   split at h
   ·split at h
    ·cases h
    ·rename_i a q' e;have ha:=ih (.bin 1) _ _ _ (fun _ _ e=>by cases e) e
     split at h
     ·cases h;exact ha
     ·cases h
   ·split at h
    ·cases h
    ·split at h
     ·cases h
     ·split at h
      ·cases h;show kidsK 1=0;decide
      ·split at h
       ·cases h;show kidsK 1=0;decide
       ·split at h
        ·cases h;show kidsK 1=0;decide
        ·exact ih (.nm _) _ _ _ (fun _ _ e=>by cases e) h
  |nm s=>
   rw[pr]at h
   split at h
   ·cases h;show kidsK 1=0;decide
   split at h
   ·cases h;show kidsK 1=0;decide
   split at h
   ·cases h;show kidsK 2=0;decide
   rename_i hw
   split at h
   ·cases h
   split at h
   ·cases h
   rename_i a q' e;have ha:=ih (.bin 1) _ _ _ (fun _ _ e=>by cases e) e
   split at h
   ·rename_i hk2
    split at h
    ·cases h
    split at h
    ·cases h
    rename_i b r e2;have hb:=ih (.bin 1) _ _ _ (fun _ _ e=>by cases e) e2
    split at h
    ·cases h;exact⟨hk2,ha,hb⟩
    ·cases h
   ·rename_i hk2
    split at h
    ·cases h;exact⟨(wordK_kids hw).resolve_right hk2,ha⟩
    ·cases h
def dps:Tr→List Nat
 |.lf .. =>[1]
 |.un k a=>dps a++[a.deep+1]
 |.bi k a b=>dps a++dps b++[max a.deep b.deep+1]
theorem dps_length(t:Tr):(dps t).length=t.size:=by
 induction t with
 |lf=>rfl
 |un k a ih=>simp[dps,Tr.size,ih]
 |bi k a b iha ihb=>simp[dps,Tr.size,iha,ihb];omega
theorem dps_last(t:Tr):(dps t)[t.size-1]?=some t.deep:=by
 cases t with
 |lf=>rfl
 |un k a=>simp[dps,Tr.size,Tr.deep,dps_length]
 |bi k a b=>simp[dps,Tr.size,Tr.deep,dps_length]
theorem dps_le(t:Tr):∀ d∈dps t,d≤t.deep:=by
 induction t with
 |lf=>intro d h;simp only[dps,Bj]at h;subst h;exact BL _
 |un k a ih=>
  intro d h;simp only[dps,List.mem_append,Bj]at h
  rcases h with h|rfl
  ·exact BM (ih d h) (Nat.le_succ _)
  ·exact BL _
 |bi k a b iha ihb=>
  intro d h;simp only[dps,List.mem_append,Bj]at h;simp only[Tr.deep]
  rcases h with (h|h)|rfl
  ·have:=iha d h;omega
  ·have:=ihb d h;omega
  ·exact BL _
theorem deep_pos(t:Tr):1≤t.deep:=by cases t<;>simp only[Tr.deep]<;>omega
def NodeAt(n:Nat)(ds:List Nat)(nd:Nd)(i:Nat)(d:Nat):Prop:=
 (kidsK nd.k=0∧d=1)∨(kidsK nd.k=1∧∃ a x:Nat,nd.a=((n+a:Nat):Int)∧a<i∧ds[a]?=some x∧1≤x∧d=x+1)∨
  (kidsK nd.k=2∧∃ a x b y:Nat,nd.a=((n+a:Nat):Int)∧nd.b=((n+b:Nat):Int)∧a<i∧b<i∧ds[a]?=some x∧ds[b]?=some y∧d=max x y+1)
theorem NodeAt.more{n:Nat}{ds:List Nat}{nd:Nd}{i d:Nat}(h:NodeAt n ds nd i d)(l:List Nat):NodeAt n (ds++l) nd i d:=by
 have app:∀ {a x:Nat},ds[a]?=some x→(ds++l)[a]?=some x:=fun {a x} e=>(Ba (Bs.1 e).1).trans e
 rcases h with h|⟨h,a,x,h1,h2,h3,h4⟩|⟨h,a,x,b,y,h1,h2,h3,h4,h5,h6,h7⟩
 ·exact .inl h
 ·exact .inr (.inl ⟨h,a,x,h1,h2,app h3,h4⟩)
 ·exact .inr (.inr ⟨h,a,x,b,y,h1,h2,h3,h4,app h5,app h6,h7⟩)
theorem NodeAt.shift{n m:Nat}{ds pre:List Nat}{nd:Nd}{i d:Nat}(h:NodeAt (n+m) ds nd i d)(hm:pre.length=m):NodeAt n (pre++ds) nd (m+i) d:=by
 have app:∀ {a x:Nat},ds[a]?=some x→(pre++ds)[m+a]?=some x:=fun {a x} e=>by rw[Br (by omega)];rw[show m+a-pre.length=a by omega];exact e
 rcases h with h|⟨h,a,x,h1,h2,h3,h4⟩|⟨h,a,x,b,y,h1,h2,h3,h4,h5,h6,h7⟩
 ·exact .inl h
 ·exact .inr (.inl ⟨h,m+a,x,by rw[h1,Nat.add_assoc],by omega,app h3,h4⟩)
 ·exact .inr (.inr ⟨h,m+a,x,m+b,y,by rw[h1,Nat.add_assoc],by rw[h2,Nat.add_assoc],by omega,by omega,app h5,app h6,h7⟩)
theorem nodes_at(t:Tr)(hw:t.wf):∀ (n i:Nat) (nd:Nd),(lay t n)[i]?=some nd→∃ d,(dps t)[i]?=some d∧NodeAt n (dps t) nd i d:=by
 induction t with
 |lf k nm vk vi vr vt=>
  intro n i nd h;cases i with
  |succ i=>cases h
  |zero=>cases h;exact⟨1,rfl,.inl ⟨hw,rfl⟩⟩
 |un k a ih=>
  intro n i nd h;have hl:=lay_length a n;have hd:=dps_length a;have hp:=size_pos a
  by_cases hi:i<a.size
  ·rw[lay,Ba (by omega)]at h;obtain⟨d,h1,h2⟩:=ih hw.2 n i nd h;exact⟨d,by rw[dps,Ba (by omega)];exact h1,h2.more _⟩
  ·rw[lay,Br (by omega),hl]at h
   have hi2:i=a.size:=by
    cases e:i-a.size with
    |zero=>omega
    |succ j=>rw[e]at h;cases h
   subst hi2;rw[Nat.sub_self]at h;cases h;have hlast:=dps_last a;refine⟨a.deep+1,by rw[dps,Br (by omega),hd,Nat.sub_self];rfl,.inr (.inl ⟨hw.1,a.size-1,a.deep,by rw[Nat.add_sub_assoc hp],by omega,?_,deep_pos a,rfl⟩)⟩;rw[dps,Ba (by omega)];exact hlast
 |bi k a b iha ihb=>
  intro n i nd h;have hla:=lay_length a n;have hda:=dps_length a;have hpa:=size_pos a;have hlb:=lay_length b (n+a.size);have hdb:=dps_length b;have hpb:=size_pos b;rw[lay]at h
  by_cases hi:i<a.size
  ·rw[Bo,Ba (by omega)]at h;obtain⟨d,h1,h2⟩:=iha hw.2.1 n i nd h;exact⟨d,by rw[dps,Bo,Ba (by omega)];exact h1,by rw[dps,Bo];exact h2.more _⟩
  ·by_cases hj:i<a.size+b.size
   ·rw[Bo,Br (by omega),Ba (by omega),hla]at h;obtain⟨d,h1,h2⟩:=ihb hw.2.2 (n+a.size) (i-a.size) nd h;refine⟨d,by rw[dps,Bo,Br (by omega),Ba (by omega),hda];exact h1,?_⟩;rw[dps];have:=(h2.shift hda).more [max a.deep b.deep+1]
    rwa [show a.size+(i-a.size)=i by omega]at this
   ·rw[Br (by rw[Bp];omega),Bp,hla,hlb]at h
    have hi2:i=a.size+b.size:=by
     cases e:i-(a.size+b.size)with
     |zero=>omega
     |succ j=>rw[e]at h;cases h
    subst hi2;rw[Nat.sub_self]at h;cases h;refine⟨max a.deep b.deep+1,by rw[dps,Br (by rw[Bp];omega),Bp,hda,hdb,Nat.sub_self];rfl,.inr (.inr ⟨hw.1,a.size-1,a.deep,a.size+b.size-1,b.deep,by rw[Nat.add_sub_assoc hpa],?_,by omega,by omega,?_,?_,rfl⟩)⟩
    ·show ((n+a.size+b.size-1:Nat):Int)=_;rw[show n+a.size+b.size-1=n+(a.size+b.size-1)by omega]
    ·rw[dps,Bo,Ba (by omega)];exact dps_last a
    ·rw[dps,Ba (by rw[Bp];omega),Br (by omega),hda,show a.size+b.size-1-a.size=b.size-1 by omega];exact dps_last b
def limK(n d:Nat):Int:=if 64<n then 52 else if 12<d then 51 else 0
theorem c184:bodyT Tp 184:=⟨_,Tryz.func184,by kernel_rfl,by kernel_rfl⟩
theorem c114:bodyT Tp 114:=⟨_,Tryz.func114,by kernel_rfl,by kernel_rfl⟩
theorem c245:bodyT Tp 245:=⟨_,Tryz.func245,by kernel_rfl,by kernel_rfl⟩
theorem c283:bodyT Tp 283:=⟨_,Tryz.func283,by kernel_rfl,by kernel_rfl⟩
def CallOk(γ:List (Nat×AV))(ts:List Tk)(L:AV)(f:Nat)(g:FuncId)(xs:List AV)(m:Md):Prop:=
 ∀ (h:List ABlk) (i p:Nat) (N:AV) (ns:List Nd),p≤ts.length→m.need ts p≤f→RS h i L p N ns→(ns.length+(ts.length-p)+1) * 96≤140737488355328→
  EvM Tp γ g (.ptr i 0 0::xs) h (ResP L i N h ns (pr ts f m p))
structure PrOk(γ:List (Nat×AV))(ts:List Tk)(L:AV)(f:Nat):Prop where
 bin:∀ n:Nat,1≤n→n≤6→CallOk γ ts L f 114 [.v (.int .i64 (n:Int))] (.bin n)
 un:CallOk γ ts L f 184 [] .un
 fs:CallOk γ ts L f 245 [] .fs
 nm:∀ s,CallOk γ ts L f 283 [.v (.string ⟨s.toArray⟩)] (.nm s)
theorem ResP.bad_of{L:AV}{i:Nat}{N N':AV}{h h1 h':List ABlk}{ns ns':List Nd}{q:Nat}{v:AV}(r:ResP L i N' h1 ns' (.bad q) (.pan v) h')(f:Fr (RP i N) h h1)(hn:∀ k,nbk N' k→nbk N k∨h.length≤k):
  ResP L i N h ns (.bad q) (.pan v) h':=
 ⟨f.trans r.1 fun k hk=>hk.elim (fun e=>.inl (.inl e)) fun e=>(hn k e).elim (fun e=>.inl (.inr e)) .inr,r.2⟩
theorem ResP.ok_ret{L:AV}{i:Nat}{N:AV}{h h':List ABlk}{ns:List Nd}{t:Tr}{q:Nat}{r:AV}(hh:ResP L i N h ns (.ok t q) (.ret r) h'):
  r=.v (.int .i64 ((ns.length+t.size-1:Nat):Int))∧Fr (RP i N) h h'∧∃ N',RS h' i L q N' (ns++lay t ns.length)∧∀ k,nbk N' k→nbk N k∨h.length≤k:=
 ⟨by have:=hh.2.1;cases this;rfl,hh.1,hh.2.2⟩
theorem ResP.ok_pan{L:AV}{i:Nat}{N:AV}{h h':List ABlk}{ns:List Nd}{t:Tr}{q:Nat}{r:AV}(hh:ResP L i N h ns (.ok t q) (.pan r) h'):False:=by
 have:=hh.2.1;cases this
theorem ResP.bad_ret{L:AV}{i:Nat}{N:AV}{h h':List ABlk}{ns:List Nd}{q:Nat}{r:AV}(hh:ResP L i N h ns (.bad q) (.ret r) h'):False:=by
 have:=hh.2;cases this
theorem Fr.more{i:Nat}{N N':AV}{h h1 h2:List ABlk}(a:Fr (RP i N) h h1)(b:Fr (RP i N') h1 h2)(hn:∀ k,nbk N' k→nbk N k∨h.length≤k):Fr (RP i N) h h2:=
 a.trans b fun k hk=>hk.elim (fun e=>.inl (.inl e)) fun e=>(hn k e).elim (fun e=>.inl (.inr e)) .inr
theorem more_nbk{N N1 N2:AV}{h h1:List ABlk}(hl:h.length≤h1.length)(a:∀ k,nbk N1 k→nbk N k∨h.length≤k)(b:∀ k,nbk N2 k→nbk N1 k∨h1.length≤k):∀ k,nbk N2 k→nbk N k∨h.length≤k:=
 fun k hk=>(b k hk).elim (a k) fun e=>.inr (BM hl e)
theorem bnd1{n n2 l p p2:Nat}(h:(n+(l-p)+1) * 96≤140737488355328)(hk:n2+(l-p2)≤n+(l-p)):(n2+(l-p2)+1) * 96≤140737488355328:=BM (Nat.mul_le_mul_right 96 (by omega)) h
theorem w64{p l:Nat}(hp:p≤l)(hb:l<4611686018427387904):IntKind.i64.wrap ((p:Int)+1)=((p+1:Nat):Int):=(i64w (by omega) (by omega)).trans (by omega)
theorem fr_move{h:List ABlk}{i:Nat}{N:AV}(b:ABlk):Fr (RP i N) h (h.set i b):=Fr.set _ (.inl rfl)
theorem ResP.ok_mk{L:AV}{i:Nat}{N N':AV}{h h':List ABlk}{ns ns':List Nd}{t:Tr}{q:Nat}{v:Int}{res:Res}(hp:res=.ok t q)(hv:v=((ns.length+t.size-1:Nat):Int))(f:Fr (RP i N) h h')(hr:RS h' i L q N' ns')(hn:ns'=ns++lay t ns.length)
  (hk:∀ k,nbk N' k→nbk N k∨h.length≤k):ResP L i N h ns res (.ret (.v (.int .i64 v))) h':=by
 subst hp;subst hv;subst hn;exact⟨f,rfl,N',hr,hk⟩
variable {γ:List (Nat×AV)} {ts:List Tk} {L:AV}
theorem un_step(hL:LAt L ts)(hb:ts.length<4611686018427387904){f:Nat}(H:PrOk γ ts L f):CallOk γ ts L (f+1) 184 [] .un:=by
 intro h i p N ns hp hf hr hB;have hi:=hr.1;have w1:IntKind.i64.wrap ((p:Int)+1)=((p+1:Nat):Int):=w64 hp hb;refine EvM.of Tryz.func184 rfl ?_;simp only[Tryz.f184,evE,Nat.reduceAdd,Nat.reduceSub,Nat.reduceLT,Nat.reduceEqDiff,reduceCtorEq];refine CallE.intro c186 _ (mark_ev hL hr) (fun r h' hh=>?_) (fun v h' hh=>by cases hh.1);obtain⟨e,rfl⟩:=hh;cases e
 have main:∀ k:Int,(if mkA ts p=[45]then (3:Int)else 4)=k→(mkA ts p=[45]∨mkA ts p=[33])→∀ (K:St→Prop) (s:Slots),s.g=γ→
   (∀ (a:Tr) (q:Nat) (h1:List ABlk) (r:AV) (N':AV),pr ts f .un (p+1)=.ok a q→r=.v (.int .i64 ((ns.length+a.size-1:Nat):Int))→Fr (RP i N) h' h1→RS h1 i L q N' (ns++lay a ns.length)→(∀ k,nbk N' k→nbk N k∨h'.length≤k)→K (pt ⟨s,h1⟩ (some 22) r))→
   CallE Tp (panE (ResP L i N h' ns (pr ts (f+1) .un p))) 184 [.ptr i 0 0] (some 22) K ⟨s,h'.set i ⟨0,104,[L,.v (.int .i64 ((p+1:Nat):Int)),N]⟩⟩:=by
  intro k hk hm K s hs hK;have hlt:p<ts.length:=hm.elim mkA_eq mkA_eq;subst hs;have hn:Md.need ts (p+1) .un≤f:=by clear w1;simp only[Md.need]at hf⊢;omega
  have hB':(ns.length+(ts.length-(p+1))+1) * 96≤140737488355328:=bnd1 hB (by clear w1;omega);have hp':p+1≤ts.length:=hlt;have hc:=H.un (h'.set i ⟨0,104,[L,.v (.int .i64 ((p+1:Nat):Int)),N]⟩) i (p+1) N ns hp' hn (hr.move (p+1)) hB';refine CallE.intro c184 _ hc (fun r h1 hh=>?_) (fun v h1 hh=>?_)
  ·cases e:pr ts f .un (p+1)with
   |bad q=>rw[e]at hh;exact hh.bad_ret.elim
   |ok a q=>
    rw[e]at hh;obtain⟨e1,f1,N',r1,n1⟩:=hh.ok_ret;exact hK a q h1 r N' e e1 (Fr.more (fr_move _) f1 fun k hk=>.inl hk) r1 fun k hk=>(n1 k hk).imp id fun e=>by simpa using e
  ·cases e:pr ts f .un (p+1)with
   |bad q=>
    rw[e]at hh;show ResP L i N h' ns (pr ts (f+1) .un p) (.pan v) h1;rw[pr,if_pos hm,e];exact hh.bad_of (fr_move _) fun k hk=>.inl hk
   |ok a q=>rw[e]at hh;exact hh.ok_pan.elim
 have fin:∀ k:Int,(if mkA ts p=[45]then (3:Int)else 4)=k→(mkA ts p=[45]∨mkA ts p=[33])→∀ (a:Tr) (q:Nat) (h1 h2:List ABlk) (N':AV),pr ts f .un (p+1)=.ok a q→Fr (RP i N) h' h1→(∀ k,nbk N' k→nbk N k∨h'.length≤k)→∀ r,
   PutP L i q N' (ns++lay a ns.length) ⟨k,((ns.length+a.size-1:Nat):Int),0,[],0,0,0,[]⟩ h1 (.ret r) h2→ResP L i N h' ns (pr ts (f+1) .un p) (.ret r) h2:=by
  intro k hk hm a q h1 h2 N' e f1 n1 r hh;obtain⟨e2,f2,N2,r2,n2⟩:=hh;cases e2;refine ResP.ok_mk (t:=.un k a) (by rw[pr,if_pos hm,e,hk]) (by rw[Bp,lay_length];rfl) (Fr.more f1 f2 n1) r2 ?_ (more_nbk f1.1 n1 n2);rw[Bo];rfl
 have bnd:∀ (a:Tr) (q:Nat),p<ts.length→pr ts f .un (p+1)=.ok a q→((ns++lay a ns.length).length+1) * 96≤140737488355328:=by
  intro a q hlt e;clear w1;obtain⟨⟨g1,g2⟩,g3⟩:=pr_adv ts f .un (p+1) a q hlt e;rw[Bp,lay_length];exact BM (Nat.mul_le_mul_right 96 (by omega)) hB
 by_cases h1:mkA ts p=[45]
 ·have d1:(mkA ts p==[45])=true:=by simpa using h1
  simp only[hi,d1,w1,evE,tyX,Nat.reduceAdd,Nat.reduceLT,Nat.reduceLeDiff,Nat.reduceEqDiff,reduceCtorEq];refine main 3 (by rw[if_pos h1]) (.inl h1) _ _ rfl ?_;intro a q h1' r N' e er f1 r1 n1;subst er;simp only[evE,tyX,Nat.reduceAdd,Nat.reduceLT,Nat.reduceLeDiff,Nat.reduceEqDiff,reduceCtorEq];refine CallE.intro c188 _ (put_ev r1 ⟨3,((ns.length+a.size-1:Nat):Int),0,[],0,0,0,[]⟩ (bnd a q (mkA_eq h1) e)) (fun r h2 hh=>?_) (fun v h2 hh=>by cases hh.1);simp only[evE,Nat.reduceLT,Nat.reduceEqDiff,reduceCtorEq];exact fin 3 (by rw[if_pos h1]) (.inl h1) a q h1' h2 N' e f1 n1 r hh
 ·have d1:(mkA ts p==[45])=false:=by simpa using h1
  by_cases h2:mkA ts p=[33]
  ·have d2:(mkA ts p==[33])=true:=by simpa using h2
   simp only[hi,d1,d2,w1,evE,tyX,Nat.reduceAdd,Nat.reduceLT,Nat.reduceLeDiff,Nat.reduceEqDiff,reduceCtorEq];refine main 4 (by rw[if_neg h1]) (.inr h2) _ _ rfl ?_;intro a q h1' r N' e er f1 r1 n1;subst er;simp only[evE,tyX,Nat.reduceAdd,Nat.reduceLT,Nat.reduceLeDiff,Nat.reduceEqDiff,reduceCtorEq];refine CallE.intro c188 _ (put_ev r1 ⟨4,((ns.length+a.size-1:Nat):Int),0,[],0,0,0,[]⟩ (bnd a q (mkA_eq h2) e)) (fun r h3 hh=>?_) (fun v h2 hh=>by cases hh.1);simp only[evE,Nat.reduceLT,Nat.reduceEqDiff,reduceCtorEq];exact fin 4 (by rw[if_neg h1]) (.inr h2) a q h1' _ N' e f1 n1 r hh
  ·have d2:(mkA ts p==[33])=false:=by simpa using h2
   have epr:pr ts (f+1) .un p=pr ts f .fs p:=by rw[pr,if_neg (fun e=>e.elim h1 h2)]
   simp only[d1,d2,evE,Nat.reduceLT,Nat.reduceEqDiff,reduceCtorEq];have hn:Md.need ts p .fs≤f:=by clear w1;simp only[Md.need]at hf⊢;omega
   refine CallE.intro c245 _ (H.fs h' i p N ns hp hn hr hB) (fun r h2 hh=>?_) (fun v h2 hh=>?_)
   ·simp only[evE,Nat.reduceLT,Nat.reduceEqDiff,reduceCtorEq];rw[epr];exact hh
   ·show ResP L i N h' ns (pr ts (f+1) .un p) (.pan v) h2
    rw[epr];exact hh
structure LpI where
 a:Tr
 q:Nat
 h:List ABlk
 N:AV
 g:Nat
def lpS(γ:List (Nat×AV))(i n:Nat)(ns:List Nd)(x:LpI):St:=⟨⟨46,[(0,.ptr i 0 0),(1,.v (.int .i64 (n:Int))),(5,.v (.int .i64 ((ns.length+x.a.size-1:Nat):Int)))],γ⟩,x.h⟩
def lpI(ts:List Tk)(L:AV)(h:List ABlk)(i n p:Nat)(N:AV)(ns:List Nd)(f:Nat)(x:LpI):Prop:=
 p<x.q∧x.q≤ts.length∧x.a.size+p≤x.q∧Fr (RP i N) h x.h∧RS x.h i L x.q x.N (ns++lay x.a ns.length)∧(∀ k,nbk x.N k→nbk N k∨h.length≤k)∧pr ts f (.bin n) p=pr ts x.g (.lp n x.a) x.q∧(Md.lp n x.a).need ts x.q≤x.g∧x.g+1≤f
theorem bin_step(hL:LAt L ts)(hb:ts.length<4611686018427387904){f:Nat}(H:∀ g≤f,PrOk γ ts L g){n:Nat}(hn1:1≤n)(hn6:n≤6):CallOk γ ts L (f+1) 114 [.v (.int .i64 (n:Int))] (.bin n):=by
 intro h i p N ns hp hf hr hB;have hi:=hr.1;refine EvM.of Tryz.func114 rfl ?_
 by_cases h6:n=6
 ·subst h6;have epr:pr ts (f+1) (.bin 6) p=pr ts f .un p:=by rw[pr,if_pos (by decide)]
  have hn:Md.need ts p .un≤f:=by simp only[Md.need]at hf⊢;omega
  have d0:decide ((5:Int)<((6:Nat):Int))=true:=by decide
  simp only[Tryz.f114,d0,evE,Nat.reduceAdd,Nat.reduceSub,Nat.reduceLT,Nat.reduceEqDiff,reduceCtorEq];refine CallE.intro c184 _ ((H f (BL _)).un h i p N ns hp hn hr hB) (fun r h2 hh=>?_) (fun v h2 hh=>?_)
  ·simp only[evE,Nat.reduceLT,Nat.reduceEqDiff,reduceCtorEq];rw[epr];exact hh
  ·show ResP L i N h ns (pr ts (f+1) (.bin 6) p) (.pan v) h2
   rw[epr];exact hh
 ·have d1:decide (5<(n:Int))=false:=decide_eq_false (by omega);have w1:IntKind.i64.wrap ((n:Int)+1)=((n+1:Nat):Int):=(i64w (by omega) (by omega)).trans (by omega);have hn:Md.need ts p (.bin (n+1))≤f:=by clear w1;simp only[Md.need]at hf⊢;omega
  have hc:=(H f (BL _)).bin (n+1) (by clear w1;omega) (by clear w1;omega) h i p N ns hp hn hr hB
  have epr:pr ts (f+1) (.bin n) p=match pr ts f (.bin (n+1)) p with
   |.bad q=>.bad q
   |.ok a q=>pr ts f (.lp n a) q:=by rw[pr,if_neg (by clear w1;omega)]<;>cases pr ts f (.bin (n+1)) p<;>rfl
  simp only[Tryz.f114,d1,w1,evE,Nat.reduceAdd,Nat.reduceSub,Nat.reduceLT,Nat.reduceEqDiff,reduceCtorEq];refine CallE.intro c114 _ hc (fun r h1 hh=>?_) (fun v h2 hh=>?_)
  rotate_left
  ·cases e:pr ts f (.bin (n+1)) p with
   |ok a q=>rw[e]at hh;exact hh.ok_pan.elim
   |bad q=>
    rw[e]at hh epr;show ResP L i N h ns (pr ts (f+1) (.bin n) p) (.pan v) h2;rw[epr];exact hh
  cases e:pr ts f (.bin (n+1)) p with
  |bad q=>rw[e]at hh;exact hh.bad_ret.elim
  |ok a q=>
   rw[e]at hh epr;obtain⟨er,f1,N',r1,n1⟩:=hh.ok_ret;subst er;have hadv:=pr_adv ts f (.bin (n+1)) p a q hp e;simp only[evE,Nat.reduceLT,Nat.reduceEqDiff,reduceCtorEq];refine LoopE.intro (lpS γ i n ns) (lpI ts L h i n p N ns (f+1)) (fun x=>ts.length-x.q) ⟨a,q,h1,N',f⟩ ?_ ?_ (fun x hx=>?_)
   ·exact⟨rfl,rfl,⟨rfl,rfl,rfl,trivial⟩,rfl⟩
   ·obtain⟨⟨g1,g2⟩,g3⟩:=hadv;refine⟨g1,g3,g2,f1,r1,n1,epr,?_,BL _⟩;clear w1;simp only[Md.need]at hf⊢;omega
   ·clear e epr hadv hh r1 n1 f1 hc hn;obtain⟨a,q,h1,N1,g⟩:=x;obtain⟨x1,x2,x3,f1,r1,n1,epr,hneed,hg⟩:=hx;simp only at x1 x2 x3 f1 r1 n1 epr hneed hg;obtain⟨g,rfl⟩:∃ g',g=g'+1:=⟨g-1,by clear w1;simp only[Md.need]at hneed;omega⟩;have w2:IntKind.i64.wrap ((q:Int)+1)=((q+1:Nat):Int):=w64 x2 hb;have hi1:=r1.1;simp only[lpS,evE,Nat.reduceLT,Nat.reduceEqDiff,reduceCtorEq];refine CallE.intro c186 _ (mark_ev hL r1) (fun r h2 hh=>?_) (fun v h' hh=>by cases hh.1);obtain⟨e,rfl⟩:=hh;cases e;simp only[evE,Nat.reduceLT,Nat.reduceEqDiff,reduceCtorEq];refine CallE.pure (CallK.intro c185 rfl (operator_ev _) ?_)
    have stop:(opK (mkA ts q)=0∨levK (opK (mkA ts q))≠n)→ResP L i N h ns (pr ts (f+1) (.bin n) p) (.ret (.v (.int .i64 ((ns.length+a.size-1:Nat):Int)))) h2:=by
     intro hs;refine ResP.ok_mk (t:=a) (q:=q) ?_ rfl f1 r1 rfl n1;rw[epr,pr,if_pos hs]
    by_cases hk0:opK (mkA ts q)=0
    ·have d2:(opK (mkA ts q)==0)=true:=by simpa using hk0
     simp only[d2,evE,Nat.reduceLT,Nat.reduceEqDiff,reduceCtorEq];exact stop (.inl hk0)
    ·have d2:(opK (mkA ts q)==0)=false:=by simpa using hk0
     simp only[d2,evE,Nat.reduceLT,Nat.reduceEqDiff,reduceCtorEq];refine CallE.pure (CallK.intro c187 rfl (level_ev _) ?_)
     by_cases hl:levK (opK (mkA ts q))=n
     ·have d3:(levK (opK (mkA ts q)) != (n:Int))=false:=by simpa using hl
      simp only[d3,hi1,w1,w2,evE,tyX,Nat.reduceAdd,Nat.reduceLT,Nat.reduceLeDiff,Nat.reduceEqDiff,reduceCtorEq];have hlt:q<ts.length:=opK_lt hk0;have hstop:¬(opK (mkA ts q)=0∨levK (opK (mkA ts q))≠n):=fun h=>h.elim hk0 fun h=>h hl
      have hgf:g≤f:=by clear w1 w2;omega
      have hn2:Md.need ts (q+1) (.bin (n+1))≤g:=by clear w1 w2;simp only[Md.need]at hneed⊢;omega
      have hlen:(ns++lay a ns.length).length=ns.length+a.size:=by rw[Bp,lay_length]
      have hB2:((ns++lay a ns.length).length+(ts.length-(q+1))+1) * 96≤140737488355328:=by rw[hlen];exact bnd1 hB (by clear w1 w2;omega)
      have hc:=(H g hgf).bin (n+1) (by clear w1 w2;omega) (by clear w1 w2;omega) (h2.set i ⟨0,104,[L,.v (.int .i64 ((q+1:Nat):Int)),N1]⟩) i (q+1) N1 (ns++lay a ns.length) hlt hn2 (r1.move (q+1)) hB2
      have epr2:pr ts (g+1) (.lp n a) q=match pr ts g (.bin (n+1)) (q+1)with
       |.bad q=>.bad q
       |.ok b q'=>if n=3 then .ok (.bi (opK (mkA ts q)) a b) q' else pr ts g (.lp n (.bi (opK (mkA ts q)) a b)) q':=by rw[pr,if_neg hstop]<;>cases pr ts g (.bin (n+1)) (q+1)<;>rfl
      refine CallE.intro c114 _ hc (fun r h3 hh=>?_) (fun v h3 hh=>?_)
      rotate_left
      ·cases e:pr ts g (.bin (n+1)) (q+1)with
       |ok b q'=>rw[e]at hh;exact hh.ok_pan.elim
       |bad q'=>
        rw[e]at hh epr2;show ResP L i N h ns (pr ts (f+1) (.bin n) p) (.pan v) h3;rw[epr,epr2];exact hh.bad_of (Fr.more f1 (fr_move _) n1) n1
      cases e:pr ts g (.bin (n+1)) (q+1)with
      |bad q'=>rw[e]at hh;exact hh.bad_ret.elim
      |ok b q'=>
       rw[e]at hh epr2;obtain⟨er,f3,N3,r3,n3⟩:=hh.ok_ret;subst er;have n3':∀ k,nbk N3 k→nbk N1 k∨h2.length≤k:=fun k hk=>(n3 k hk).imp id fun e=>by simpa using e
       have f13:Fr (RP i N) h h3:=Fr.more f1 (Fr.more (fr_move _) f3 fun k hk=>.inl hk) n1;have n13:=more_nbk f1.1 n1 n3';obtain⟨⟨g1,g2⟩,g3⟩:=pr_adv ts g (.bin (n+1)) (q+1) b q' hlt e;have hlen3:(ns++lay a ns.length++lay b (ns++lay a ns.length).length).length=ns.length+a.size+b.size:=by rw[Bp,lay_length,hlen]
       have hlay:lay (.bi (opK (mkA ts q)) a b) ns.length=lay a ns.length++lay b (ns.length+a.size)++[⟨opK (mkA ts q),((ns.length+a.size-1:Nat):Int),((ns.length+a.size+b.size-1:Nat):Int),[],0,0,0,[]⟩]:=rfl;rw[hlen]at *;simp only[evE,tyX,Nat.reduceAdd,Nat.reduceLT,Nat.reduceLeDiff,Nat.reduceEqDiff,reduceCtorEq];refine CallE.intro c188 _ (put_ev r3 ⟨opK (mkA ts q),((ns.length+a.size-1:Nat):Int),((ns.length+a.size+b.size-1:Nat):Int),[],0,0,0,[]⟩ (by rw[hlen3];exact BM (Nat.mul_le_mul_right 96 (by clear w1 w2;omega)) hB)) (fun r h4 hh=>?_) (fun v h2 hh=>by cases hh.1);obtain⟨e4,f4,N4,r4,n4⟩:=hh;cases e4;rw[hlen3];have f14:Fr (RP i N) h h4:=Fr.more f13 f4 n13;have n14:=more_nbk f13.1 n13 n4;have r4':RS h4 i L q' N4 (ns++lay (.bi (opK (mkA ts q)) a b) ns.length):=by rw[hlay];simpa[Bo]using r4
       by_cases h3n:n=3
       ·have d4:((n:Int)==3)=true:=by subst h3n;rfl
        simp only[d4,evE,Nat.reduceLT,Nat.reduceEqDiff,reduceCtorEq];exact ResP.ok_mk (t:=.bi (opK (mkA ts q)) a b) (q:=q') (by rw[epr,epr2,h3n];rfl) (by simp only[Tr.size];clear w1 w2;omega) f14 r4' rfl n14
       ·have d4:((n:Int)==3)=false:=by simp only[beq_eq_false_iff_ne,ne_eq];clear w1 w2;omega
        simp only[d4,evE,Nat.reduceLT,Nat.reduceEqDiff,reduceCtorEq];refine loopCE.intro ⟨.bi (opK (mkA ts q)) a b,q',h4,N4,g⟩ ⟨?_,g3,?_,f14,r4',n14,?_,?_,?_⟩ ⟨rfl,rfl,?_,rfl⟩ ?_
        ·show p<q';clear w1 w2;omega
        ·simp only[Tr.size];clear w1 w2;omega
        ·rw[epr,epr2];exact if_neg h3n
        ·clear w1 w2;simp only[Md.need]at hneed⊢;omega
        ·show g+1≤f+1;clear w1 w2;omega
        ·refine⟨rfl,rfl,?_,trivial⟩;show AV.v (.int .i64 ((ns.length+a.size+b.size:Nat):Int))=AV.v (.int .i64 ((ns.length+(a.size+b.size+1)-1:Nat):Int));rw[show ns.length+(a.size+b.size+1)-1=ns.length+a.size+b.size by clear w1 w2;omega]
        ·show ts.length-q'<ts.length-q;clear w1 w2;omega
     ·have d3:(levK (opK (mkA ts q)) != (n:Int))=true:=by simpa using hl
      simp only[d3,evE,Nat.reduceLT,Nat.reduceEqDiff,reduceCtorEq];exact stop (.inr hl)
theorem RS.app{h:List ABlk}{i p:Nat}{L N:AV}{ns:List Nd}(a:RS h i L p N ns)(l:List ABlk):RS (h++l) i L p N ns:=
 ⟨(Ba a.lt).trans a.1,a.2.fr (S:=fun _=>False) (Fr.app h l) fun _ _ h=>h⟩
theorem RS.nlt{h:List ABlk}{i p:Nat}{L N:AV}{ns:List Nd}(a:RS h i L p N ns){k:Nat}(hk:nbk N k):k<h.length:=by
 rcases a.2 with⟨rfl,_⟩|⟨j,ver,rfl,hj⟩
 ·exact hk.elim
 ·have hk':k=j:=hk;subst hk';exact (Bs.1 hj).1
theorem RS.setO{h:List ABlk}{i p:Nat}{L N:AV}{ns:List Nd}(a:RS h i L p N ns){j:Nat}{b:ABlk}(hj:j≠i)(hn:¬nbk N j):RS (h.set j b) i L p N ns:=
 ⟨(Bn hj).trans a.1,a.2.fr (S:=fun k=>k=j) (Fr.set _ rfl) fun k hk e=>hn (e▸hk)⟩
theorem nm_step(hL:LAt L ts)(hb:ts.length<4611686018427387904){f:Nat}(H:∀ g≤f,PrOk γ ts L g)(s:List UInt8):CallOk γ ts L (f+1) 283 [.v (.string ⟨s.toArray⟩)] (.nm s):=by
 intro h i p N ns hp hf hr hB;have hi:=hr.1
 have leaf:∀ (k:Int) (nm:List UInt8) (vk vi:Int) (vr:Nat) (vt:List UInt8) (r:AV) (h2:List ABlk),pr ts (f+1) (.nm s) p=.ok (.lf k nm vk vi vr vt) p→PutP L i p N ns ⟨k,0,0,nm,vk,vi,vr,vt⟩ h (.ret r) h2→
   ResP L i N h ns (pr ts (f+1) (.nm s) p) (.ret r) h2:=by
  intro k nm vk vi vr vt r h2 e ⟨e2,f2,N2,r2,n2⟩;cases e2;exact ResP.ok_mk (t:=.lf k nm vk vi vr vt) e (by show (ns.length:Int)=((ns.length+1-1:Nat):Int);rw[Nat.add_sub_cancel]) f2 r2 rfl n2
 have hB1:(ns.length+1) * 96≤140737488355328:=BM (Nat.mul_le_mul_right 96 (by omega)) hB;refine EvM.of Tryz.func283 rfl ?_;simp only[Tryz.f283,evE,Nat.reduceAdd,Nat.reduceSub,Nat.reduceLT,Nat.reduceEqDiff,reduceCtorEq];refine CallE.pure (CallK.intro c299 rfl (word_ev _) ?_)
 by_cases ht:s=trueB
 ·have d1:(s==[116,114,117,101])=true:=by rw[ht];rfl
  simp only[d1,evE,tyX,Nat.reduceAdd,Nat.reduceLT,Nat.reduceLeDiff,Nat.reduceEqDiff,reduceCtorEq];refine CallE.intro c188 _ (put_ev hr ⟨1,0,0,[],5,1,0,[]⟩ hB1) (fun r h2 hh=>?_) (fun v h2 hh=>by cases hh.1);simp only[evE,Nat.reduceLT,Nat.reduceEqDiff,reduceCtorEq];exact leaf _ _ _ _ _ _ _ _ (by rw[pr,if_pos ht]) hh
 have d1:(s==[116,114,117,101])=false:=by simpa[trueB]using ht
 by_cases hfa:s=falseB
 ·have d2:(s==[102,97,108,115,101])=true:=by rw[hfa];rfl
  simp only[d1,d2,evE,tyX,Nat.reduceAdd,Nat.reduceLT,Nat.reduceLeDiff,Nat.reduceEqDiff,reduceCtorEq];refine CallE.intro c188 _ (put_ev hr ⟨1,0,0,[],5,0,0,[]⟩ hB1) (fun r h2 hh=>?_) (fun v h2 hh=>by cases hh.1);simp only[evE,Nat.reduceLT,Nat.reduceEqDiff,reduceCtorEq];exact leaf _ _ _ _ _ _ _ _ (by rw[pr,if_neg ht,if_pos hfa]) hh
 have d2:(s==[102,97,108,115,101])=false:=by simpa[falseB]using hfa
 by_cases hw:wordK s=0
 ·have d3:(wordK s==0)=true:=by simpa using hw
  simp only[d1,d2,d3,evE,tyX,Nat.reduceAdd,Nat.reduceLT,Nat.reduceLeDiff,Nat.reduceEqDiff,reduceCtorEq];refine CallE.intro c188 _ (put_ev hr ⟨2,0,0,s,0,0,0,[]⟩ hB1) (fun r h2 hh=>?_) (fun v h2 hh=>by cases hh.1);simp only[evE,Nat.reduceLT,Nat.reduceEqDiff,reduceCtorEq];exact leaf _ _ _ _ _ _ _ _ (by rw[pr,if_neg ht,if_neg hfa,if_pos hw]) hh
 have d3:(wordK s==0)=false:=by simpa using hw
 simp only[d1,d2,d3,evE,Nat.reduceLT,Nat.reduceEqDiff,reduceCtorEq];refine CallE.intro c282 _ (take_ev hL hr (by omega) [40]) (fun r h2 hh=>?_) (fun v h2 hh=>?_)
 rotate_left
 ·unfold TakeP at hh
  split at hh
  ·cases hh.1
  ·rename_i hm;obtain⟨e,rfl⟩:=hh;cases e;show ResP L i N h2 ns (pr ts (f+1) (.nm s) p) (.pan (faultA p)) h2;rw[pr,if_neg ht,if_neg hfa,if_neg hw,if_pos hm];exact⟨Fr.refl _ _,rfl⟩
 unfold TakeP at hh
 split at hh
 rotate_left
 ·cases hh.1
 rename_i hm;obtain⟨e,rfl⟩:=hh;cases e;have hlt:p<ts.length:=mkA_eq hm;have hn2:Md.need ts (p+1) (.bin 1)≤f:=by simp only[Md.need]at hf⊢;omega
 have epr:pr ts (f+1) (.nm s) p=match pr ts f (.bin 1) (p+1)with
   |.bad q=>.bad q
   |.ok a q=>if kidsK (wordK s)=2 then (if mkA ts q≠[44]then .bad q else match pr ts f (.bin 1) (q+1)with
     |.bad r=>.bad r
     |.ok b r=>if mkA ts r=[41]then .ok (.bi (wordK s) a b) (r+1)else .bad r)
    else if mkA ts q=[41]then .ok (.un (wordK s) a) (q+1)else .bad q:=by
  rw[pr,if_neg ht,if_neg hfa,if_neg hw,if_neg (fun h=>h hm)];cases pr ts f (.bin 1) (p+1)with
  |bad q=>rfl
  |ok a q=>
   show (if _ then (if _ then _ else _)else _)=(if _ then (if _ then _ else _)else _)
   cases pr ts f (.bin 1) (q+1)<;>rfl
 simp only[evE,Nat.reduceLT,Nat.reduceEqDiff,reduceCtorEq];refine CallE.intro c114 _ ((H f (BL _)).bin 1 (by decide) (by decide) _ i (p+1) N ns hlt hn2 (hr.move (p+1)) (bnd1 hB (by omega))) (fun r h3 hh=>?_) (fun v h3 hh=>?_)
 rotate_left
 ·cases e:pr ts f (.bin 1) (p+1)with
  |ok b q'=>rw[e]at hh;exact hh.ok_pan.elim
  |bad q'=>
   rw[e]at hh epr;show ResP L i N h ns (pr ts (f+1) (.nm s) p) (.pan v) h3;rw[epr];exact hh.bad_of (fr_move _) fun k hk=>.inl hk
 cases e:pr ts f (.bin 1) (p+1)with
 |bad q'=>rw[e]at hh;exact hh.bad_ret.elim
 |ok a q=>
  rw[e]at hh epr;obtain⟨er,f3,N3,r3,n3⟩:=hh.ok_ret;subst er;have n3':∀ k,nbk N3 k→nbk N k∨h.length≤k:=fun k hk=>(n3 k hk).imp id fun e=>by simpa using e
  have f03:Fr (RP i N) h h3:=Fr.more (fr_move _) f3 fun k hk=>.inl hk
  obtain⟨⟨g1,g2⟩,g3⟩:=pr_adv ts f (.bin 1) (p+1) a q hlt e;have s1:∀ x,(h3++[x])[h3.length]?=some x:=fun x=>by simp
  have s2:∀ x y,(h3++[x]).set h3.length y=h3++[y]:=fun x y=>by simp
  simp only[s1,s2,evE,tyX,Nat.reduceAdd,Nat.reduceLT,Nat.reduceLeDiff,Nat.reduceEqDiff,reduceCtorEq];refine CallE.pure (CallK.intro c115 rfl (children_ev _) ?_);simp only[evE,Nat.reduceLT,Nat.reduceEqDiff,reduceCtorEq];have hlen:(ns++lay a ns.length).length=ns.length+a.size:=by rw[Bp,lay_length]
  have ra:RS (h3++[⟨0,115,Nd.cells ⟨wordK s,((ns.length+a.size-1:Nat):Int),0,[],0,0,0,[]⟩⟩]) i L q N3 (ns++lay a ns.length):=r3.app _;have fa:Fr (RP i N) h (h3++[⟨0,115,Nd.cells ⟨wordK s,((ns.length+a.size-1:Nat):Int),0,[],0,0,0,[]⟩⟩]):=Fr.more (N':=N3) f03 (Fr.app _ _) n3'
  by_cases hk:kidsK (wordK s)=2
  ·have d4:(kidsK (wordK s)==2)=true:=by simpa using hk
   simp only[d4,evE,Nat.reduceLT,Nat.reduceEqDiff,reduceCtorEq]
   have epr2:pr ts (f+1) (.nm s) p=if mkA ts q≠[44]then .bad q else match pr ts f (.bin 1) (q+1)with
     |.bad r=>.bad r
     |.ok b r=>if mkA ts r=[41]then .ok (.bi (wordK s) a b) (r+1)else .bad r:=by rw[epr];exact if_pos hk
   refine CallE.intro c282 _ (take_ev hL ra (by omega) [44]) (fun r h6 hh=>?_) (fun v h6 hh=>?_)
   rotate_left
   ·unfold TakeP at hh
    split at hh
    ·cases hh.1
    ·rename_i hm;obtain⟨e,rfl⟩:=hh;cases e;show ResP L i N h ns (pr ts (f+1) (.nm s) p) (.pan (faultA q)) _;rw[epr2,if_pos hm];exact⟨fa,rfl⟩
   unfold TakeP at hh
   split at hh
   rotate_left
   ·cases hh.1
   rename_i hm6;obtain⟨e,rfl⟩:=hh;cases e;have hltq:q<ts.length:=mkA_eq hm6;rw[if_neg (fun h=>h hm6)]at epr2;have hn4:Md.need ts (q+1) (.bin 1)≤f:=by simp only[Md.need]at hf⊢;omega
   simp only[evE,Nat.reduceLT,Nat.reduceEqDiff,reduceCtorEq];refine CallE.intro c114 _ ((H f (BL _)).bin 1 (by decide) (by decide) _ i (q+1) N3 (ns++lay a ns.length) hltq hn4 (ra.move (q+1)) (by rw[hlen];exact bnd1 hB (by omega))) (fun r h4 hh=>?_) (fun v h4 hh=>?_)
   rotate_left
   ·cases e:pr ts f (.bin 1) (q+1)with
    |ok b q'=>rw[e]at hh;exact hh.ok_pan.elim
    |bad q'=>
     rw[e]at hh epr2;show ResP L i N h ns (pr ts (f+1) (.nm s) p) (.pan v) h4;rw[epr2];exact hh.bad_of (Fr.more fa (fr_move _) n3') n3'
   cases e:pr ts f (.bin 1) (q+1)with
   |bad q'=>rw[e]at hh;exact hh.bad_ret.elim
   |ok b q5=>
    rw[e]at hh epr2;have epr3:pr ts (f+1) (.nm s) p=if mkA ts q5=[41]then .ok (.bi (wordK s) a b) (q5+1)else .bad q5:=epr2
    obtain⟨er,f4,N4,r4,n4⟩:=hh.ok_ret;subst er;rw[hlen]at r4;obtain⟨⟨j1,j2⟩,j3⟩:=pr_adv ts f (.bin 1) (q+1) b q5 hltq e;have hil:i<h3.length:=r3.lt;have nlt:∀ k,nbk N3 k→k<h3.length:=fun k hk=>r3.nlt hk
    have k4:h4[h3.length]?=some ⟨0,115,Nd.cells ⟨wordK s,((ns.length+a.size-1:Nat):Int),0,[],0,0,0,[]⟩⟩:=by
     refine f4.at ?_ (fun hk=>hk.elim (fun e=>by omega) fun e=>Nat.lt_irrefl _ (nlt _ e));rw[Bn (by omega)];exact s1 _
    have n4a:∀ k,nbk N4 k→nbk N3 k∨h3.length+1≤k:=fun k hk=>(n4 k hk).imp id fun e=>by simpa using e
    have n4':∀ k,nbk N4 k→nbk N k∨h.length≤k:=fun k hk=>(n4a k hk).elim (n3' k) fun e=>.inr (by have:=f03.1;omega)
    have hlen4:(ns++lay a ns.length++lay b (ns.length+a.size)).length=ns.length+a.size+b.size:=by rw[Bp,lay_length,hlen]
    have k4':=k4;simp only[Nd.cells]at k4';simp only[k4',hlen,evE,tyX,Nat.reduceAdd,Nat.reduceLT,Nat.reduceLeDiff,Nat.reduceEqDiff,reduceCtorEq];obtain⟨h5,hh5⟩:∃ h5,h5=h4.set h3.length ⟨0,115,Nd.cells ⟨wordK s,((ns.length+a.size-1:Nat):Int),((ns.length+a.size+b.size-1:Nat):Int),[],0,0,0,[]⟩⟩:=⟨_,rfl⟩;have hS:∀ k,k=h3.length→k≠i∧¬nbk N4 k:=fun k e=>⟨by omega,fun hk=>(n4a k hk).elim (fun hk=>by have:=nlt k hk;omega) fun hk=>by omega⟩
    have r5:RS h5 i L q5 N4 (ns++lay a ns.length++lay b (ns.length+a.size)):=by rw[hh5];exact r4.setO (hS _ rfl).1 (hS _ rfl).2
    have k5:h5[h3.length]?=some ⟨0,115,Nd.cells ⟨wordK s,((ns.length+a.size-1:Nat):Int),((ns.length+a.size+b.size-1:Nat):Int),[],0,0,0,[]⟩⟩:=by rw[hh5];exact Be ((Bs.1 k4).1)
    have f04:Fr (RP i N) h h4:=Fr.more (Fr.more fa (fr_move _) n3') f4 n3';have f5:Fr (RP i N) h h5:=by rw[hh5];exact f04.trans (S1:=fun k=>k=h3.length) (Fr.set _ rfl) fun k e=>.inr (by have:=f03.1;omega)
    have hh5':=hh5;simp only[Nd.cells]at hh5';rw[←hh5'];refine CallE.intro c282 _ (take_ev hL r5 (by omega) [41]) (fun r h6 hh=>?_) (fun v h6 hh=>?_)
    rotate_left
    ·unfold TakeP at hh
     split at hh
     ·cases hh.1
     ·rename_i hm;obtain⟨e,rfl⟩:=hh;cases e;show ResP L i N h ns (pr ts (f+1) (.nm s) p) (.pan (faultA q5)) _;rw[epr3,if_neg hm];exact⟨f5,rfl⟩
    unfold TakeP at hh
    split at hh
    rotate_left
    ·cases hh.1
    rename_i hm6;obtain⟨e,rfl⟩:=hh;cases e;have l6:=Bn (l:=h5) (a:=(⟨0,104,[L,.v (.int .i64 ((q5+1:Nat):Int)),N4]⟩:ABlk)) (i:=i) (j:=h3.length) (by have:=r3.lt;omega);rw[k5]at l6;simp only[Nd.cells]at l6;simp only[l6,evE,tyX,Nat.reduceAdd,Nat.reduceLT,Nat.reduceLeDiff,Nat.reduceEqDiff,reduceCtorEq];refine CallE.intro c188 _ (put_ev (RS.move r5 (q5+1)) ⟨wordK s,((ns.length+a.size-1:Nat):Int),((ns.length+a.size+b.size-1:Nat):Int),[],0,0,0,[]⟩ (by rw[hlen4];exact BM (Nat.mul_le_mul_right 96 (by omega)) hB)) (fun r h7 hh=>?_) (fun v h2 hh=>by cases hh.1);obtain⟨e7,f7,N7,r7,n7⟩:=hh;cases e7;simp only[evE,Nat.reduceLT,Nat.reduceEqDiff,reduceCtorEq];have FR7:=Fr.more f5 (fr_move (N:=N4) ⟨0,104,[L,.v (.int .i64 ((q5+1:Nat):Int)),N4]⟩) n4';have n7':∀ k,nbk N7 k→nbk N4 k∨h5.length≤k:=fun k hk=>(n7 k hk).imp id fun e=>by simpa using e
    exact ResP.ok_mk (t:=.bi (wordK s) a b) (q:=q5+1) (by rw[epr3,if_pos hm6]) (by simp only[lay_length,Tr.size];omega) (Fr.more FR7 f7 n4') r7 (by simp only[lay,Bo]) (more_nbk f5.1 n4' n7')
  ·have d4:(kidsK (wordK s)==2)=false:=by simpa using hk
   have epr2:pr ts (f+1) (.nm s) p=if mkA ts q=[41]then .ok (.un (wordK s) a) (q+1)else .bad q:=by rw[epr];exact if_neg hk
   simp only[d4,evE,Nat.reduceLT,Nat.reduceEqDiff,reduceCtorEq];refine CallE.intro c282 _ (take_ev hL ra (by omega) [41]) (fun r h6 hh=>?_) (fun v h6 hh=>?_)
   rotate_left
   ·unfold TakeP at hh
    split at hh
    ·cases hh.1
    ·rename_i hm;obtain⟨e,rfl⟩:=hh;cases e;show ResP L i N h ns (pr ts (f+1) (.nm s) p) (.pan (faultA q)) _;rw[epr2,if_neg hm];exact⟨fa,rfl⟩
   unfold TakeP at hh
   split at hh
   rotate_left
   ·cases hh.1
   rename_i hm6;obtain⟨e,rfl⟩:=hh;cases e;have l6:=Bn (l:=(h3++[⟨0,115,Nd.cells ⟨wordK s,((ns.length+a.size-1:Nat):Int),0,[],0,0,0,[]⟩⟩])) (a:=(⟨0,104,[L,.v (.int .i64 ((q+1:Nat):Int)),N3]⟩:ABlk)) (i:=i) (j:=h3.length) (by have:=r3.lt;omega);rw[s1]at l6;simp only[Nd.cells]at l6;simp only[l6,Nd.cells,evE,tyX,Nat.reduceAdd,Nat.reduceLT,Nat.reduceLeDiff,Nat.reduceEqDiff,reduceCtorEq];refine CallE.intro c188 _ (put_ev (RS.move ra (q+1)) ⟨wordK s,((ns.length+a.size-1:Nat):Int),0,[],0,0,0,[]⟩ (by rw[hlen];exact BM (Nat.mul_le_mul_right 96 (by omega)) hB)) (fun r h7 hh=>?_) (fun v h2 hh=>by cases hh.1);obtain⟨e7,f7,N7,r7,n7⟩:=hh;cases e7;simp only[evE,Nat.reduceLT,Nat.reduceEqDiff,reduceCtorEq];have FR7:=Fr.more fa (fr_move (N:=N3) ⟨0,104,[L,.v (.int .i64 ((q+1:Nat):Int)),N3]⟩) n3';have n7':∀ k,nbk N7 k→nbk N3 k∨(h3++[(⟨0,115,Nd.cells ⟨wordK s,((ns.length+a.size-1:Nat):Int),0,[],0,0,0,[]⟩⟩:ABlk)]).length≤k:=fun k hk=>(n7 k hk).imp id fun e=>by simpa using e
   exact ResP.ok_mk (t:=.un (wordK s) a) (q:=q+1) (by rw[epr2,if_pos hm6]) (by simp only[lay_length,Tr.size];omega) (Fr.more FR7 f7 n3') r7 (by rw[Bo];rfl) (more_nbk fa.1 n3' n7')
theorem LAt.take{ts:List Tk}{cs:List AV}(h:tkCells ts<+:cs){p:Nat}{t:Tk}(hp:ts[p]?=some t):(cs.drop (p * 6)).take 6=t.cells:=by
 obtain⟨h0,h1,h2,h3,h4,h5⟩:=LAt.at h hp
 apply List.ext_getElem?
 intro j;rw[BY]
 split
 ·rename_i hj;rw[BX];have:j=0∨j=1∨j=2∨j=3∨j=4∨j=5:=by omega
  rcases this with rfl|rfl|rfl|rfl|rfl|rfl
  ·exact h0
  ·exact h1
  ·exact h2
  ·exact h3
  ·exact h4
  ·exact h5
 ·rename_i hj;rw[Bq];simp only[Tk.cells,BC,BD];omega
theorem LAt.len{ts:List Tk}{cs:List AV}(h:tkCells ts<+:cs){p:Nat}(hp:p<ts.length):p * 6+6≤cs.length:=by
 have:=h.length_le;rw[tkCells_length]at this
 omega
theorem fs_step(hL:LAt L ts)(hb:ts.length<4611686018427387904){f:Nat}(H:∀ g≤f,PrOk γ ts L g):CallOk γ ts L (f+1) 245 [] .fs:=by
 intro h i p N ns hp hf hr hB;have hi:=hr.1;have w1:IntKind.i64.wrap ((p:Int)+1)=((p+1:Nat):Int):=w64 hp hb;refine EvM.of Tryz.func245 rfl ?_;simp only[Tryz.f245,evE,Nat.reduceAdd,Nat.reduceSub,Nat.reduceLT,Nat.reduceEqDiff,reduceCtorEq];refine CallE.intro c186 _ (mark_ev hL hr) (fun r h2 hh=>?_) (fun v h' hh=>by cases hh.1);obtain⟨e,rfl⟩:=hh;cases e
 by_cases hm:mkA ts p=[40]
 ·have d1:(mkA ts p==[40])=true:=by simpa using hm
  have hlt:p<ts.length:=mkA_eq hm;have hn2:Md.need ts (p+1) (.bin 1)≤f:=by clear w1;simp only[Md.need]at hf⊢;omega
  have epr:pr ts (f+1) .fs p=match pr ts f (.bin 1) (p+1)with
   |.bad q=>.bad q
   |.ok a q=>if mkA ts q=[41]then .ok a (q+1)else .bad q:=by
   rw[pr,if_pos hm]<;>cases pr ts f (.bin 1) (p+1)<;>rfl
  simp only[d1,hi,w1,evE,tyX,Nat.reduceAdd,Nat.reduceLT,Nat.reduceLeDiff,Nat.reduceEqDiff,reduceCtorEq];refine CallE.intro c114 _ ((H f (BL _)).bin 1 (by decide) (by decide) _ i (p+1) N ns hlt hn2 (hr.move (p+1)) (bnd1 hB (by clear w1;omega))) (fun r h3 hh=>?_) (fun v h3 hh=>?_)
  rotate_left
  ·cases e:pr ts f (.bin 1) (p+1)with
   |ok b q'=>rw[e]at hh;exact hh.ok_pan.elim
   |bad q'=>
    rw[e]at hh epr;show ResP L i N h2 ns (pr ts (f+1) .fs p) (.pan v) h3;rw[epr];exact hh.bad_of (fr_move _) fun k hk=>.inl hk
  cases e:pr ts f (.bin 1) (p+1)with
  |bad q'=>rw[e]at hh;exact hh.bad_ret.elim
  |ok a q=>
   rw[e]at hh epr;obtain⟨er,f3,N3,r3,n3⟩:=hh.ok_ret;subst er;have n3':∀ k,nbk N3 k→nbk N k∨h2.length≤k:=fun k hk=>(n3 k hk).imp id fun e=>by simpa using e
   have f03:Fr (RP i N) h2 h3:=Fr.more (fr_move _) f3 fun k hk=>.inl hk
   obtain⟨⟨g1,g2⟩,g3⟩:=pr_adv ts f (.bin 1) (p+1) a q hlt e;have epr2:pr ts (f+1) .fs p=if mkA ts q=[41]then .ok a (q+1)else .bad q:=epr
   simp only[evE,Nat.reduceLT,Nat.reduceEqDiff,reduceCtorEq];refine CallE.intro c282 _ (take_ev hL r3 (by clear w1;omega) [41]) (fun r h6 hh=>?_) (fun v h6 hh=>?_)
   rotate_left
   ·unfold TakeP at hh
    split at hh
    ·cases hh.1
    ·rename_i hm;obtain⟨e,rfl⟩:=hh;cases e;show ResP L i N h2 ns (pr ts (f+1) .fs p) (.pan (faultA q)) _;rw[epr2,if_neg hm];exact⟨f03,rfl⟩
   unfold TakeP at hh
   split at hh
   rotate_left
   ·cases hh.1
   rename_i hm6;obtain⟨e,rfl⟩:=hh;cases e;simp only[evE,Nat.reduceLT,Nat.reduceEqDiff,reduceCtorEq];exact ResP.ok_mk (t:=a) (q:=q+1) (by rw[epr2,if_pos hm6]) rfl (Fr.more f03 (fr_move _) n3') (r3.move (q+1)) rfl n3'
 ·have d1:(mkA ts p==[40])=false:=by simpa using hm
  have stop:pr ts (f+1) .fs p=.bad p→ResP L i N h2 ns (pr ts (f+1) .fs p) (.pan (faultA p)) h2:=fun e=>by rw[e];exact⟨Fr.refl _ _,rfl⟩
  have leaf:∀ (nd:Nd) (t:Tr) (h3 h4:List ABlk) (r:AV),pr ts (f+1) .fs p=.ok t (p+1)→lay t ns.length=[nd]→t.size=1→Fr (RP i N) h2 h3→PutP L i (p+1) N ns nd h3 (.ret r) h4→ResP L i N h2 ns (pr ts (f+1) .fs p) (.ret r) h4:=by
   intro nd t h3 h4 r e hl ht f3 ⟨e2,f4,N4,r4,n4⟩;cases e2;refine ResP.ok_mk (t:=t) (q:=p+1) e ?_ (Fr.more f3 f4 fun k hk=>.inl hk) r4 (by rw[hl]) (more_nbk f3.1 (fun k hk=>.inl hk) n4);rw[ht,Nat.add_sub_cancel]
  rcases hL with⟨rfl,rfl⟩|⟨b,m,cs,rfl,hcs⟩
  ·have hp0:p=0:=Nat.le_zero.1 hp;subst hp0;have d0:(((0:Nat):Int)==0)=true:=rfl;simp only[d1,evE,Nat.reduceLT,Nat.reduceEqDiff,reduceCtorEq]
   (repeat' (first|(with_reducible refine aI ?_ ?_)|(first|(first|refine gF ?_ ?_|refine gT ?_ ?_|refine cI ?_ ?_|refine pI ?_ ?_)<;>intro h|(refine dI ?_;have h:=trivial))<;>simp only[h,d1,hi,d0,evE,tyX,Bv,Bf,Nat.reduceAdd,Nat.reduceSub,Nat.reduceMul,Nat.reduceLT,Nat.reduceLeDiff,Nat.reduceEqDiff,reduceCtorEq,List.reduceReplicate,Int.reduceToNat,Int.reduceLE,Int.reduceLT]))
   exact stop (by rw[pr,if_neg hm];rfl)
  ·by_cases hlt:p<ts.length
   ·have d2:((p:Int)==(ts.length:Int))=false:=by simp only[beq_eq_false_iff_ne,ne_eq];clear w1;omega
    have ht:ts[p]?=some ts[p]:=by simp[hlt]
    generalize ts[p]=t at ht;have htk:=LAt.take hcs ht;have htl:=LAt.len hcs hlt;obtain⟨k0,k1,k2,k3,k4,k5⟩:=LAt.at hcs ht;have g1:∀ l,(h2++l)[i]?=some ⟨0,104,[.sl b ts.length m cs,.v (.int .i64 p),N]⟩:=fun l=>(Ba hr.lt).trans hi
    have s1:∀ x,(h2++[x])[h2.length]?=some x:=fun x=>by simp
    have s2:∀ x y,(h2++[x]).set h2.length y=h2++[y]:=fun x y=>by simp
    by_cases hk5:t.kind=5
    ·have d3:(t.kind==5)=true:=by simpa using hk5
     simp only[d1,evE,Nat.reduceLT,Nat.reduceEqDiff,reduceCtorEq]
     (repeat' (first|(with_reducible refine aI ?_ ?_)|(first|(first|refine gF ?_ ?_|refine gT ?_ ?_|refine cI ?_ ?_|refine pI ?_ ?_)<;>intro h|(refine dI ?_;have h:=trivial))<;>simp only[h,d1,hi,d2,d3,k0,evE,tyX,Bv,Bf,Nat.reduceAdd,Nat.reduceSub,Nat.reduceMul,Nat.reduceLT,Nat.reduceLeDiff,Nat.reduceEqDiff,reduceCtorEq,List.reduceReplicate,Int.reduceToNat,Int.reduceLE,Int.reduceLT]))
     ·exact hlt
     ·exact stop (by rw[pr,if_neg hm,ht];exact if_pos hk5)
    ·have d3:(t.kind==5)=false:=by simpa using hk5
     simp only[d1,evE,Nat.reduceLT,Nat.reduceEqDiff,reduceCtorEq];refine dI ?_;simp only[hi,d2,d3,k0,evE,tyX,Nat.reduceLT,Nat.reduceEqDiff,reduceCtorEq];refine⟨hlt,?_⟩;refine dX ?_;have htl2:6≤(cs.drop (p * 6)).length:=by rw[Bd];clear w1;omega
     have s3:∀ x y,((h2++[x]).set i y)[h2.length]?=some x:=fun x y=>(Bn (by have:=hr.lt;omega)).trans (s1 x)
     have rm:=(hr.app [⟨0,53,t.cells⟩]).move (p+1);have fm:Fr (RP i N) h2 ((h2++[(⟨0,53,t.cells⟩:ABlk)]).set i ⟨0,104,[.sl b ts.length m cs,.v (.int .i64 ((p+1:Nat):Int)),N]⟩):=Fr.more (N':=N) (Fr.app _ _) (fr_move _) fun k hk=>.inl hk
     have hB1:(ns.length+1) * 96≤140737488355328:=BM (Nat.mul_le_mul_right 96 (by clear w1;omega)) hB
     by_cases h2':t.kind=2
     ·have e2:(t.kind==2)=true:=by simpa using h2'
      simp only[hi,htk,htl2,Tk.cells,g1,s1,s2,s3,w1,e2,evE,tyX,Nat.reduceAdd,Nat.reduceLT,Nat.reduceLeDiff,Nat.reduceEqDiff,reduceCtorEq];refine⟨hlt,?_⟩;refine CallE.intro c188 _ (put_ev rm ⟨1,0,0,[],1,t.int,0,[]⟩ hB1) (fun r h4 hh=>?_) (fun v h2 hh=>by cases hh.1);simp only[evE,Nat.reduceLT,Nat.reduceEqDiff,reduceCtorEq];exact leaf _ (.lf 1 [] 1 t.int 0 []) _ _ _ (by rw[pr,if_neg hm,ht];simp only[if_neg hk5,if_pos h2']) rfl rfl fm hh
     have e2:(t.kind==2)=false:=by simpa using h2'
     by_cases h3':t.kind=3
     ·have e3:(t.kind==3)=true:=by simpa using h3'
      simp only[hi,htk,htl2,Tk.cells,g1,s1,s2,s3,w1,e2,e3,evE,tyX,Nat.reduceAdd,Nat.reduceLT,Nat.reduceLeDiff,Nat.reduceEqDiff,reduceCtorEq];refine⟨hlt,?_⟩;refine CallE.intro c188 _ (put_ev rm ⟨1,0,0,[],2,0,t.real,[]⟩ hB1) (fun r h4 hh=>?_) (fun v h2 hh=>by cases hh.1);simp only[evE,Nat.reduceLT,Nat.reduceEqDiff,reduceCtorEq];exact leaf _ (.lf 1 [] 2 0 t.real []) _ _ _ (by rw[pr,if_neg hm,ht];simp only[if_neg hk5,if_neg h2',if_pos h3']) rfl rfl fm hh
     have e3:(t.kind==3)=false:=by simpa using h3'
     by_cases h4':t.kind=4
     ·have e4:(t.kind==4)=true:=by simpa using h4'
      simp only[hi,htk,htl2,Tk.cells,g1,s1,s2,s3,w1,e2,e3,e4,evE,tyX,Nat.reduceAdd,Nat.reduceLT,Nat.reduceLeDiff,Nat.reduceEqDiff,reduceCtorEq];refine⟨hlt,?_⟩;refine CallE.intro c188 _ (put_ev rm ⟨1,0,0,[],4,0,0,t.text⟩ hB1) (fun r h4 hh=>?_) (fun v h2 hh=>by cases hh.1);simp only[evE,Nat.reduceLT,Nat.reduceEqDiff,reduceCtorEq];exact leaf _ (.lf 1 [] 4 0 0 t.text) _ _ _ (by rw[pr,if_neg hm,ht];simp only[if_neg hk5,if_neg h2',if_neg h3',if_pos h4']) rfl rfl fm hh
     have e4:(t.kind==4)=false:=by simpa using h4'
     simp only[hi,htk,htl2,Tk.cells,g1,s1,s2,s3,w1,e2,e3,e4,evE,tyX,Nat.reduceAdd,Nat.reduceLT,Nat.reduceLeDiff,Nat.reduceEqDiff,reduceCtorEq];refine⟨hlt,?_⟩;have epr:pr ts (f+1) .fs p=pr ts f (.nm t.text) (p+1):=by rw[pr,if_neg hm,ht];simp only[if_neg hk5,if_neg h2',if_neg h3',if_neg h4']
     have hn2:Md.need ts (p+1) (.nm t.text)≤f:=by clear w1;simp only[Md.need]at hf⊢;omega
     refine CallE.intro c283 _ ((H f (BL _)).nm t.text _ i (p+1) N ns hlt hn2 rm (bnd1 hB (by clear w1;omega))) (fun r h4 hh=>?_) (fun v h4 hh=>?_)
     ·simp only[evE,Nat.reduceLT,Nat.reduceEqDiff,reduceCtorEq];rw[epr];cases e:pr ts f (.nm t.text) (p+1)with
      |bad q=>rw[e]at hh;exact hh.bad_ret.elim
      |ok a q=>
       rw[e]at hh;obtain⟨er,f4,N4,r4,n4⟩:=hh.ok_ret;subst er;exact ResP.ok_mk (t:=a) (q:=q) rfl rfl (Fr.more fm f4 fun k hk=>.inl hk) r4 rfl (more_nbk fm.1 (fun k hk=>.inl hk) n4)
     ·show ResP (.sl b ts.length m cs) i N h2 ns (pr ts (f+1) .fs p) (.pan v) h4
      rw[epr];cases e:pr ts f (.nm t.text) (p+1)with
      |bad q=>rw[e]at hh;exact hh.bad_of fm fun k hk=>.inl hk
      |ok a q=>rw[e]at hh;exact hh.ok_pan.elim
   ·have d2:((p:Int)==(ts.length:Int))=true:=by simp only[beq_iff_eq];clear w1;omega
    simp only[d1,evE,Nat.reduceLT,Nat.reduceEqDiff,reduceCtorEq]
    (repeat' (first|(with_reducible refine aI ?_ ?_)|(first|(first|refine gF ?_ ?_|refine gT ?_ ?_|refine cI ?_ ?_|refine pI ?_ ?_)<;>intro h|(refine dI ?_;have h:=trivial))<;>simp only[h,d1,hi,d2,evE,tyX,Bv,Bf,Nat.reduceAdd,Nat.reduceSub,Nat.reduceMul,Nat.reduceLT,Nat.reduceLeDiff,Nat.reduceEqDiff,reduceCtorEq,List.reduceReplicate,Int.reduceToNat,Int.reduceLE,Int.reduceLT]))
    exact stop (by rw[pr,if_neg hm,Bq (by clear w1;omega)])
abbrev NoB:Nat→Prop:=fun _=>False
variable {sB:Tk→Bool} {all ts:List Tk} {from_:Nat} {L:AV}
end Go.Proofs.YtlobiioioicmhaaGreatDoor
