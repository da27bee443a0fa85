/- A part of the proof. -/
import Derived.Test.YtlobiioioicmhaaGreatDoorCQ7
set_option linter.all false
set_option maxHeartbeats 8000000
namespace Go.Proofs.YtlobiioioicmhaaGreatDoor
open _root_.Bool renaming not_true→Bv,not_false→Bf
open _root_.List renaming getElem?_eq_some_iff→Bs,getElem?_append_left→Ba,getElem?_append_right→Br,getElem?_set_self→Be,getElem?_set_ne→Bn,length_append→Bp,append_assoc→Bo,getElem?_map→Bm,mem_singleton→Bj,prefix_rfl→BB,mem_cons→BI
open _root_.Nat renaming le_refl→BL,le_trans→BM,zero_le→BN
open Go.Proofs.Tryz renaming prog→Tp
open Go Go.Ev
set_option maxRecDepth 20000
variable {γ:List (Nat×AV)}
def HL(ts:List Tk)(L:AV)(i p:Nat)(N:AV)(s:List UInt8)(h:List Aa)(o:Out)(h':List Aa):Prop:=
 if Cv ts p=s then o=.ret (.tup [])∧h'=h.set i ⟨0,104,[L,.v (.int .i64 ((p+1:Nat):Int)),N]⟩else o=.pan (Hm p)∧h'=h
theorem Ll{ts:List Tk}{h:List Aa}{i p:Nat}{L N:AV}{ns:List Nd}(hL:EV L ts)(hr:RS h i L p N ns)(hb:p<4611686018427387904)(s:List UInt8):
  Ck Tp γ 282 [.ptr i 0 0,.v (.string ⟨s.toArray⟩)] h (HL ts L i p N s h):=by
 have hi:=hr.1;have w1:IntKind.i64.wrap ((p:Int)+1)=((p+1:Nat):Int):=(A4 (by omega) (by omega)).trans (by omega);refine Ck.of Tryz.func282 rfl ?_;simp only[Tryz.f282,Af,seval];refine Ao.intro fU _ (MM hL hr) (fun r h' hh=>?_) (fun v h' hh=>by cases hh.1);obtain⟨e,rfl⟩:=hh;cases e
 by_cases hm:Cv ts p=s
 ·have d1:(Cv ts p==s)=true:=by simpa using hm
  simp only[hi,d1,w1,Af,A7,Bv,seval]
  (repeat' (first|(with_reducible refine aI ?_ ?_)|((first|refine Co.intro_f (fun h=>?_) (fun h=>?_)|refine Co.intro_t (fun h=>?_) (fun h=>?_)|refine BZ.intro (fun h=>?_) (fun h=>?_)|refine Fc.intro (fun h=>?_) (fun h=>?_))<;>simp only[h,hi,d1,w1,Af,A7,Bv,Bf,seval])|(refine dI ?_;simp only[hi,d1,w1,Af,A7,Bv,Bf,seval])))
  unfold HL;rw[if_pos hm];exact⟨rfl,rfl⟩
 ·have d1:(Cv ts p==s)=false:=by simpa using hm
  simp only[hi,d1,Af,A7,Bf,seval]
  (repeat' (first|(with_reducible refine aI ?_ ?_)|((first|refine Co.intro_f (fun h=>?_) (fun h=>?_)|refine Co.intro_t (fun h=>?_) (fun h=>?_)|refine BZ.intro (fun h=>?_) (fun h=>?_)|refine Fc.intro (fun h=>?_) (fun h=>?_))<;>simp only[h,hi,d1,w1,Af,A7,Bv,Bf,seval])|(refine dI ?_;simp only[hi,d1,w1,Af,A7,Bv,Bf,seval])))
  unfold HL;rw[if_neg hm];exact⟨rfl,rfl⟩
def cF(L:AV)(i p:Nat)(N:AV)(ns:List Nd)(nd:Nd)(h:List Aa)(o:Out)(h':List Aa):Prop:=
 o=.ret (.v (.int .i64 (ns.length:Int)))∧Fr (RP i N) h h'∧∃ N',RS h' i L p N' (ns++[nd])∧∀ k,AZ N' k→AZ N k∨h.length≤k
theorem GY{h:List Aa}{i p:Nat}{L N:AV}{ns:List Nd}(hr:RS h i L p N ns)(nd:Nd)(hb:(ns.length+1) * 96≤140737488355328):
  Ck Tp γ 188 [.ptr i 0 0,.agg nd.cells] h (cF L i p N ns nd h):=by
 obtain⟨hi,hn⟩:=hr;have hlt:i<h.length:=(Bs.1 hi).1;have g1:∀ l,(h++l)[i]?=some ⟨0,104,[L,.v (.int .i64 p),N]⟩:=fun l=>(Ba hlt).trans hi
 have g2:∀ (x:Aa) l,(h++x::l)[h.length]?=some x:=fun x l=>by simp
 have g3:∀ (x y:Aa) l,(h++x::y::l)[h.length+1]?=some y:=fun x y l=>by simp
 have g4:∀ l b,((h++l).set i b)[i]?=some b:=fun l b=>Be (by simp;omega)
 have g6:∀ x y z l b,((h++x::y::z::l).set i b)[h.length+2]?=some z:=fun x y z l b=>by rw[Bn (by omega)];simp
 have g5:∀ l j x b,(((h++l).set j x).set i b)[i]?=some b:=fun l j x b=>Be (by simp;omega)
 obtain⟨k,a,b,nm,vk,vi,vr,vt⟩:=nd;refine Ck.of Tryz.func188 rfl ?_
 rcases hn with⟨rfl,rfl⟩|⟨j,ver,rfl,hj⟩
 ·simp only[Tryz.f188,Nd.cells,Af,seval]
  (repeat' (first|(with_reducible refine aI ?_ ?_)|((first|refine Co.intro_f (fun h=>?_) (fun h=>?_)|refine Co.intro_t (fun h=>?_) (fun h=>?_)|refine BZ.intro (fun h=>?_) (fun h=>?_)|refine Fc.intro (fun h=>?_) (fun h=>?_))<;>simp only[h,hi,g1,g2,g3,g4,g6,Bo,Af,A7,Bv,Bf,seval])|(refine dX ?_;simp only[g1,g2,g3,g4,g6,Bo,Af,A7,seval])))
  refine⟨by rw[A4 (by decide) (by decide)];rfl,Fr.trans (Fr.app h _) (Fr.set (S:=RP i (.v (.slice none 0 0))) _ (.inl rfl)) (fun k hk=>.inl hk),_,⟨g4 _ _,.inr ⟨_,_,rfl,g6 _ _ _ _ _⟩⟩,fun k hk=>.inr (by have:k=h.length+2:=hk;omega)⟩
 ·have hjl:j<h.length:=(Bs.1 hj).1;have hji:j≠i:=fun e=>by subst e;rw[hi]at hj;cases hj
  have q1:∀ l,(h++l)[j]?=some ⟨ver,115,Cj ns⟩:=fun l=>(Ba hjl).trans hj
  have q2:∀ l x,((h++l).set j x)[i]?=some ⟨0,104,[L,.v (.int .i64 p),.own j ver ns.length]⟩:=fun l x=>(Bn hji).trans (g1 l)
  have q3:∀ l x b,(((h++l).set j x).set i b)[j]?=some x:=fun l x b=>(Bn hji.symm).trans (Be (by simp;omega))
  have q4:=GG ns;have q5:=Dg ns;have q6:ns.length * 9≤(Cj ns).length:=by omega
  simp only[Tryz.f188,Nd.cells,Af,seval]
  (repeat' (first|(with_reducible refine aI ?_ ?_)|((first|refine Co.intro_f (fun h=>?_) (fun h=>?_)|refine Co.intro_t (fun h=>?_) (fun h=>?_)|refine BZ.intro (fun h=>?_) (fun h=>?_)|refine Fc.intro (fun h=>?_) (fun h=>?_))<;>simp only[h,hi,g1,g2,g3,g4,g5,q1,q2,q3,q4,q5,q6,Bo,Af,A7,Bv,Bf,seval])|(refine dX ?_;simp only[g1,g2,g3,g5,q1,q2,q3,q4,q5,Bo,Af,A7,seval])))
  ·omega
  ·exact hb
  ·have e:IntKind.i64.wrap (((ns.length+1:Nat):Int)-1)=(ns.length:Int):=(A4 (by omega) (by omega)).trans (by omega);refine⟨by rw[e],Fr.trans (Fr.trans (Fr.app h _) (Fr.set (S:=RP i (.own j ver ns.length)) _ (.inr rfl)) (fun k hk=>.inl hk)) (Fr.set (S:=RP i (.own j ver ns.length)) _ (.inl rfl)) (fun k hk=>.inl hk),.own j (ver+1) (ns.length+1),⟨g5 _ _ _ _,.inr ⟨j,ver+1,by rw[Bp];rfl,?_⟩⟩,fun k hk=>.inl hk⟩;rw[q3,Hy];rfl
theorem So(s:List UInt8):Ev Tp γ 185 [.v (.string ⟨s.toArray⟩)] (.v (.int .i64 (Fw s))):=by
 refine Ev.of Tryz.func185 rfl ?_;unfold Fw;simp only[←beq_iff_eq (α:=List UInt8)];simp only[Tryz.f185,Af,seval]
 (repeat' (first|(with_reducible refine aI ?_ ?_)|(first|(first|refine gF ?_ ?_|refine gT ?_ ?_|refine cI ?_ ?_|refine pI ?_ ?_)<;>intro h|(refine dI ?_;have h:=trivial))<;>simp only[h,Af,A7,Bv,Bf,seval]))
 all_goals (try (simp only[*,if_true,if_false,Bool.false_eq_true];done))
 all_goals trace_state
theorem dH(s:List UInt8):Ev Tp γ 299 [.v (.string ⟨s.toArray⟩)] (.v (.int .i64 (B0 s))):=by
 refine Ev.of Tryz.func299 rfl ?_;unfold B0;simp only[←beq_iff_eq (α:=List UInt8)];simp only[Tryz.f299,Af,seval]
 (repeat' (first|(with_reducible refine aI ?_ ?_)|(first|(first|refine gF ?_ ?_|refine gT ?_ ?_|refine cI ?_ ?_|refine pI ?_ ?_)<;>intro h|(refine dI ?_;have h:=trivial))<;>simp only[h,Af,A7,Bv,Bf,seval]))
 all_goals (try (simp only[*,if_true,if_false,Bool.false_eq_true];done))
 all_goals trace_state
theorem YI(s:Int):Ev Tp γ 187 [.v (.int .i64 s)] (.v (.int .i64 (Fg s))):=by
 refine Ev.of Tryz.func187 rfl ?_;unfold Fg;simp only[←beq_iff_eq (α:=Int),←Bool.or_eq_true];simp only[Tryz.f187,Af,seval]
 (repeat' (first|(with_reducible refine aI ?_ ?_)|(first|(first|refine gF ?_ ?_|refine gT ?_ ?_|refine cI ?_ ?_|refine pI ?_ ?_)<;>intro h|(refine dI ?_;have h:=trivial))<;>simp only[h,Af,A7,Bv,Bf,seval]))
 all_goals (try (simp only[*,if_true,if_false,Bool.false_eq_true,Bool.or_false,Bool.or_true,Bool.or_self];done))
 all_goals trace_state
theorem Ma(s:Int):Ev Tp γ 115 [.v (.int .i64 s)] (.v (.int .i64 (De s))):=by
 refine Ev.of Tryz.func115 rfl ?_;generalize hk:De s=r;simp only[Tryz.f115,Af,seval]
 (repeat' (first|(with_reducible refine aI ?_ ?_)|(first|(first|refine gF ?_ ?_|refine gT ?_ ?_|refine cI ?_ ?_|refine pI ?_ ?_)<;>intro h|(refine dI ?_;have h:=trivial))<;>simp only[h,Af,A7,Bv,Bf,seval]))
 all_goals (simp only[beq_iff_eq,beq_eq_false_iff_ne,ne_eq,decide_eq_true_eq,decide_eq_false_iff_not]at *)
 all_goals (unfold De at hk;subst hk)
 all_goals (first|(rw[if_pos (by omega)])|(rw[if_neg (by omega),if_pos (by omega)])|(rw[if_neg (by omega),if_neg (by omega),if_pos (by omega)])|(rw[if_neg (by omega),if_neg (by omega),if_neg (by omega)]))
def Tr.wf:Tr→Prop
 |.lf k .. =>De k=0
 |.un k a=>De k=1∧a.wf
 |.bi k a b=>De k=2∧a.wf∧b.wf
theorem YO(s:List UInt8):Fw s=17∨Fw s=16∨Fw s=10∨Fw s=11∨Fw s=12∨Fw s=13∨Fw s=14∨Fw s=15∨Fw s=5∨Fw s=6∨Fw s=7∨Fw s=8∨Fw s=9∨Fw s=0:=by
 unfold Fw
 by_cases h0:s=[124,124]
 ·exact .inl (by rw[if_pos h0])
 by_cases h1:s=[38,38]
 ·exact .inr (.inl (by rw[if_neg h0,if_pos h1]))
 by_cases h2:s=[61,61]
 ·exact .inr (.inr (.inl (by rw[if_neg h0,if_neg h1,if_pos h2])))
 by_cases h3:s=[33,61]
 ·exact .inr (.inr (.inr (.inl (by rw[if_neg h0,if_neg h1,if_neg h2,if_pos h3]))))
 by_cases h4:s=[60]
 ·exact .inr (.inr (.inr (.inr (.inl (by rw[if_neg h0,if_neg h1,if_neg h2,if_neg h3,if_pos h4])))))
 by_cases h5:s=[60,61]
 ·exact .inr (.inr (.inr (.inr (.inr (.inl (by rw[if_neg h0,if_neg h1,if_neg h2,if_neg h3,if_neg h4,if_pos h5]))))))
 by_cases h6:s=[62]
 ·exact .inr (.inr (.inr (.inr (.inr (.inr (.inl (by rw[if_neg h0,if_neg h1,if_neg h2,if_neg h3,if_neg h4,if_neg h5,if_pos h6])))))))
 by_cases h7:s=[62,61]
 ·exact .inr (.inr (.inr (.inr (.inr (.inr (.inr (.inl (by rw[if_neg h0,if_neg h1,if_neg h2,if_neg h3,if_neg h4,if_neg h5,if_neg h6,if_pos h7]))))))))
 by_cases h8:s=[43]
 ·exact .inr (.inr (.inr (.inr (.inr (.inr (.inr (.inr (.inl (by rw[if_neg h0,if_neg h1,if_neg h2,if_neg h3,if_neg h4,if_neg h5,if_neg h6,if_neg h7,if_pos h8])))))))))
 by_cases h9:s=[45]
 ·exact .inr (.inr (.inr (.inr (.inr (.inr (.inr (.inr (.inr (.inl (by rw[if_neg h0,if_neg h1,if_neg h2,if_neg h3,if_neg h4,if_neg h5,if_neg h6,if_neg h7,if_neg h8,if_pos h9]))))))))))
 by_cases h10:s=[42]
 ·exact .inr (.inr (.inr (.inr (.inr (.inr (.inr (.inr (.inr (.inr (.inl (by rw[if_neg h0,if_neg h1,if_neg h2,if_neg h3,if_neg h4,if_neg h5,if_neg h6,if_neg h7,if_neg h8,if_neg h9,if_pos h10])))))))))))
 by_cases h11:s=[47]
 ·exact .inr (.inr (.inr (.inr (.inr (.inr (.inr (.inr (.inr (.inr (.inr (.inl (by rw[if_neg h0,if_neg h1,if_neg h2,if_neg h3,if_neg h4,if_neg h5,if_neg h6,if_neg h7,if_neg h8,if_neg h9,if_neg h10,if_pos h11]))))))))))))
 by_cases h12:s=[37]
 ·exact .inr (.inr (.inr (.inr (.inr (.inr (.inr (.inr (.inr (.inr (.inr (.inr (.inl (by rw[if_neg h0,if_neg h1,if_neg h2,if_neg h3,if_neg h4,if_neg h5,if_neg h6,if_neg h7,if_neg h8,if_neg h9,if_neg h10,if_neg h11,if_pos h12])))))))))))))
 exact .inr (.inr (.inr (.inr (.inr (.inr (.inr (.inr (.inr (.inr (.inr (.inr (.inr (by rw[if_neg h0,if_neg h1,if_neg h2,if_neg h3,if_neg h4,if_neg h5,if_neg h6,if_neg h7,if_neg h8,if_neg h9,if_neg h10,if_neg h11,if_neg h12])))))))))))))
theorem O5(s:List UInt8):B0 s=18∨B0 s=19∨B0 s=20∨B0 s=21∨B0 s=22∨B0 s=23∨B0 s=24∨B0 s=25∨B0 s=26∨B0 s=0:=by
 unfold B0
 by_cases h0:s=[114,101]
 ·exact .inl (by rw[if_pos h0])
 by_cases h1:s=[105,109]
 ·exact .inr (.inl (by rw[if_neg h0,if_pos h1]))
 by_cases h2:s=[115,105,122,101,50]
 ·exact .inr (.inr (.inl (by rw[if_neg h0,if_neg h1,if_pos h2])))
 by_cases h3:s=[99,111,109,112]
 ·exact .inr (.inr (.inr (.inl (by rw[if_neg h0,if_neg h1,if_neg h2,if_pos h3]))))
 by_cases h4:s=[114,101,97,108]
 ·exact .inr (.inr (.inr (.inr (.inl (by rw[if_neg h0,if_neg h1,if_neg h2,if_neg h3,if_pos h4])))))
 by_cases h5:s=[108,101,110]
 ·exact .inr (.inr (.inr (.inr (.inr (.inl (by rw[if_neg h0,if_neg h1,if_neg h2,if_neg h3,if_neg h4,if_pos h5]))))))
 by_cases h6:s=[97,116]
 ·exact .inr (.inr (.inr (.inr (.inr (.inr (.inl (by rw[if_neg h0,if_neg h1,if_neg h2,if_neg h3,if_neg h4,if_neg h5,if_pos h6])))))))
 by_cases h7:s=[99,97,116]
 ·exact .inr (.inr (.inr (.inr (.inr (.inr (.inr (.inl (by rw[if_neg h0,if_neg h1,if_neg h2,if_neg h3,if_neg h4,if_neg h5,if_neg h6,if_pos h7]))))))))
 by_cases h8:s=[115,116,114]
 ·exact .inr (.inr (.inr (.inr (.inr (.inr (.inr (.inr (.inl (by rw[if_neg h0,if_neg h1,if_neg h2,if_neg h3,if_neg h4,if_neg h5,if_neg h6,if_neg h7,if_pos h8])))))))))
 exact .inr (.inr (.inr (.inr (.inr (.inr (.inr (.inr (.inr (by rw[if_neg h0,if_neg h1,if_neg h2,if_neg h3,if_neg h4,if_neg h5,if_neg h6,if_neg h7,if_neg h8])))))))))
theorem SQ{s:List UInt8}(h:Fw s≠0):De (Fw s)=2:=by
 rcases YO s with e|e|e|e|e|e|e|e|e|e|e|e|e|e<;>first|exact absurd e h|(rw[e];decide)
theorem O0{s:List UInt8}(h:B0 s≠0):De (B0 s)=1∨De (B0 s)=2:=by
 rcases O5 s with e|e|e|e|e|e|e|e|e|e<;>first|exact absurd e h|(rw[e];decide)
theorem VU(ts:List Tk):∀ (f:Nat) (m:Md) (p:Nat) (t:Tr) (q:Nat),(∀ n a,m=.lp n a→a.wf)→pr ts f m p=.ok t q→t.wf:=by
 intro f
 induction f with
 |zero=>intro m p t q _ h;cases m<;>cases h
 |succ f ih=>
  intro m p t q hm h;cases m with
  |bin n=>
   rw[pr]at h
   split at h
   ·exact ih .un _ _ _ (fun _ _ e=>by cases e) h
   ·split at h
    ·cases h
    ·rename_i a q' e;have ha:=ih (.bin (n+1)) _ _ _ (fun _ _ e=>by cases e) e;exact ih (.lp n a) _ _ _ (fun _ _ e=>by cases e;exact ha) h
  |lp n a=>
   have ha:=hm n a rfl;rw[pr]at h
   split at h
   ·cases h;exact ha
   ·rename_i hk;have hk0:Fw (Cv ts p)≠0:=fun e=>hk (.inl e)
    split at h
    ·cases h
    ·rename_i b q' e;have hb:=ih (.bin (n+1)) _ _ _ (fun _ _ e=>by cases e) e
     split at h
     ·cases h;exact⟨SQ hk0,ha,hb⟩
     ·exact ih _ _ _ _ (fun _ _ e=>by cases e;exact⟨SQ hk0,ha,hb⟩) h
  |un=>
   rw[pr]at h
   split at h
   ·split at h
    ·cases h
    ·rename_i a q' e;have ha:=ih .un _ _ _ (fun _ _ e=>by cases e) e;cases h;refine⟨?_,ha⟩
     split<;>decide
   ·exact ih .fs _ _ _ (fun _ _ e=>by cases e) h
  |fs=>
   rw[pr]at h
   split at h
   ·split at h
    ·cases h
    ·rename_i a q' e;have ha:=ih (.bin 1) _ _ _ (fun _ _ e=>by cases e) e
     split at h
     ·cases h;exact ha
     ·cases h
   ·split at h
    ·cases h
    ·split at h
     ·cases h
     ·split at h
      ·cases h;show De 1=0;decide
      ·split at h
       ·cases h;show De 1=0;decide
       ·split at h
        ·cases h;show De 1=0;decide
        ·exact ih (.nm _) _ _ _ (fun _ _ e=>by cases e) h
  |nm s=>
   rw[pr]at h
   split at h
   ·cases h;show De 1=0;decide
   split at h
   ·cases h;show De 1=0;decide
   split at h
   ·cases h;show De 2=0;decide
   rename_i hw
   split at h
   ·cases h
   split at h
   ·cases h
   rename_i a q' e;have ha:=ih (.bin 1) _ _ _ (fun _ _ e=>by cases e) e
   split at h
   ·rename_i hk2
    split at h
    ·cases h
    split at h
    ·cases h
    rename_i b r e2;have hb:=ih (.bin 1) _ _ _ (fun _ _ e=>by cases e) e2
    split at h
    ·cases h;exact⟨hk2,ha,hb⟩
    ·cases h
   ·rename_i hk2
    split at h
    ·cases h;exact⟨(O0 hw).resolve_right hk2,ha⟩
    ·cases h
def Fu:Tr→List Nat
 |.lf .. =>[1]
 |.un k a=>Fu a++[a.deep+1]
 |.bi k a b=>Fu a++Fu b++[max a.deep b.deep+1]
theorem F0(t:Tr):(Fu t).length=t.size:=by
 induction t with
 |lf=>rfl
 |un k a ih=>simp[Fu,Tr.size,ih]
 |bi k a b iha ihb=>simp[Fu,Tr.size,iha,ihb];omega
theorem KV(t:Tr):(Fu t)[t.size-1]?=some t.deep:=by
 cases t with
 |lf=>rfl
 |un k a=>simp[Fu,Tr.size,Tr.deep,F0]
 |bi k a b=>simp[Fu,Tr.size,Tr.deep,F0]
theorem bI(t:Tr):∀ d∈Fu t,d≤t.deep:=by
 induction t with
 |lf=>intro d h;simp only[Fu,Bj]at h;subst h;exact BL _
 |un k a ih=>
  intro d h;simp only[Fu,List.mem_append,Bj]at h
  rcases h with h|rfl
  ·exact BM (ih d h) (Nat.le_succ _)
  ·exact BL _
 |bi k a b iha ihb=>
  intro d h;simp only[Fu,List.mem_append,Bj]at h;simp only[Tr.deep]
  rcases h with (h|h)|rfl
  ·have:=iha d h;omega
  ·have:=ihb d h;omega
  ·exact BL _
theorem Z1(t:Tr):1≤t.deep:=by cases t<;>simp only[Tr.deep]<;>omega
def Kl(n:Nat)(ds:List Nat)(nd:Nd)(i:Nat)(d:Nat):Prop:=
 (De nd.k=0∧d=1)∨(De nd.k=1∧∃ a x:Nat,nd.a=((n+a:Nat):Int)∧a<i∧ds[a]?=some x∧1≤x∧d=x+1)∨
  (De nd.k=2∧∃ a x b y:Nat,nd.a=((n+a:Nat):Int)∧nd.b=((n+b:Nat):Int)∧a<i∧b<i∧ds[a]?=some x∧ds[b]?=some y∧d=max x y+1)
theorem Kl.more{n:Nat}{ds:List Nat}{nd:Nd}{i d:Nat}(h:Kl n ds nd i d)(l:List Nat):Kl n (ds++l) nd i d:=by
 have app:∀ {a x:Nat},ds[a]?=some x→(ds++l)[a]?=some x:=fun {a x} e=>(Ba (Bs.1 e).1).trans e
 rcases h with h|⟨h,a,x,h1,h2,h3,h4⟩|⟨h,a,x,b,y,h1,h2,h3,h4,h5,h6,h7⟩
 ·exact .inl h
 ·exact .inr (.inl ⟨h,a,x,h1,h2,app h3,h4⟩)
 ·exact .inr (.inr ⟨h,a,x,b,y,h1,h2,h3,h4,app h5,app h6,h7⟩)
theorem Kl.shift{n m:Nat}{ds pre:List Nat}{nd:Nd}{i d:Nat}(h:Kl (n+m) ds nd i d)(hm:pre.length=m):Kl n (pre++ds) nd (m+i) d:=by
 have app:∀ {a x:Nat},ds[a]?=some x→(pre++ds)[m+a]?=some x:=fun {a x} e=>by rw[Br (by omega)];rw[show m+a-pre.length=a by omega];exact e
 rcases h with h|⟨h,a,x,h1,h2,h3,h4⟩|⟨h,a,x,b,y,h1,h2,h3,h4,h5,h6,h7⟩
 ·exact .inl h
 ·exact .inr (.inl ⟨h,m+a,x,by rw[h1,Nat.add_assoc],by omega,app h3,h4⟩)
 ·exact .inr (.inr ⟨h,m+a,x,m+b,y,by rw[h1,Nat.add_assoc],by rw[h2,Nat.add_assoc],by omega,by omega,app h5,app h6,h7⟩)
theorem bE(t:Tr)(hw:t.wf):∀ (n i:Nat) (nd:Nd),(lay t n)[i]?=some nd→∃ d,(Fu t)[i]?=some d∧Kl n (Fu t) nd i d:=by
 induction t with
 |lf k nm vk vi vr vt=>
  intro n i nd h;cases i with
  |succ i=>cases h
  |zero=>cases h;exact⟨1,rfl,.inl ⟨hw,rfl⟩⟩
 |un k a ih=>
  intro n i nd h;have hl:=B2 a n;have hd:=F0 a;have hp:=size_pos a
  by_cases hi:i<a.size
  ·rw[lay,Ba (by omega)]at h;obtain⟨d,h1,h2⟩:=ih hw.2 n i nd h;exact⟨d,by rw[Fu,Ba (by omega)];exact h1,h2.more _⟩
  ·rw[lay,Br (by omega),hl]at h
   have hi2:i=a.size:=by
    cases e:i-a.size with
    |zero=>omega
    |succ j=>rw[e]at h;cases h
   subst hi2;rw[Nat.sub_self]at h;cases h;have hlast:=KV a;refine⟨a.deep+1,by rw[Fu,Br (by omega),hd,Nat.sub_self];rfl,.inr (.inl ⟨hw.1,a.size-1,a.deep,by rw[Nat.add_sub_assoc hp],by omega,?_,Z1 a,rfl⟩)⟩;rw[Fu,Ba (by omega)];exact hlast
 |bi k a b iha ihb=>
  intro n i nd h;have hla:=B2 a n;have hda:=F0 a;have hpa:=size_pos a;have hlb:=B2 b (n+a.size);have hdb:=F0 b;have hpb:=size_pos b;rw[lay]at h
  by_cases hi:i<a.size
  ·rw[Bo,Ba (by omega)]at h;obtain⟨d,h1,h2⟩:=iha hw.2.1 n i nd h;exact⟨d,by rw[Fu,Bo,Ba (by omega)];exact h1,by rw[Fu,Bo];exact h2.more _⟩
  ·by_cases hj:i<a.size+b.size
   ·rw[Bo,Br (by omega),Ba (by omega),hla]at h;obtain⟨d,h1,h2⟩:=ihb hw.2.2 (n+a.size) (i-a.size) nd h;refine⟨d,by rw[Fu,Bo,Br (by omega),Ba (by omega),hda];exact h1,?_⟩;rw[Fu];have:=(h2.shift hda).more [max a.deep b.deep+1]
    rwa [show a.size+(i-a.size)=i by omega]at this
   ·rw[Br (by rw[Bp];omega),Bp,hla,hlb]at h
    have hi2:i=a.size+b.size:=by
     cases e:i-(a.size+b.size)with
     |zero=>omega
     |succ j=>rw[e]at h;cases h
    subst hi2;rw[Nat.sub_self]at h;cases h;refine⟨max a.deep b.deep+1,by rw[Fu,Br (by rw[Bp];omega),Bp,hda,hdb,Nat.sub_self];rfl,.inr (.inr ⟨hw.1,a.size-1,a.deep,a.size+b.size-1,b.deep,by rw[Nat.add_sub_assoc hpa],?_,by omega,by omega,?_,?_,rfl⟩)⟩
    ·show ((n+a.size+b.size-1:Nat):Int)=_;rw[show n+a.size+b.size-1=n+(a.size+b.size-1)by omega]
    ·rw[Fu,Bo,Ba (by omega)];exact KV a
    ·rw[Fu,Ba (by rw[Bp];omega),Br (by omega),hda,show a.size+b.size-1-a.size=b.size-1 by omega];exact KV b
def Fa(n d:Nat):Int:=if 64<n then 52 else if 12<d then 51 else 0
theorem Dt:UU Tp 110=true∧AX Tp 110=some false∧
  AX Tp 115=some true∧
  AX Tp 188=some false∧
  AX Tp 2=some false∧
  AX Tp 22=some false∧
  AX Tp 25=some true∧
  AX Tp 3=some false∧
  AX Tp 47=some false∧
  AX Tp 54=some true∧
  AX Tp 9=some false∧
  I0 Tp 188 188=some (110,1,8)∧
  I0 Tp 39 39=some (115,9,96)∧
  Az Tp 128=some 9∧
  Az Tp 188=some 110∧
  Az Tp 37=some 5∧
  Az Tp 39=some 115∧
  Az Tp 47=some 54∧
  Az Tp 78=some 3∧
  Al Tp 109 0=some (0,47)∧
  Al Tp 109 1=some (1,3)∧
  Al Tp 109 2=some (2,3)∧
  Al Tp 115 1=some (1,3)∧
  Al Tp 115 2=some (2,3)∧
  Al Tp 190 0=some (0,3)∧
  Al Tp 190 1=some (1,9)∧
  Al Tp 190 2=some (2,25)∧
  Al Tp 190 3=some (7,188)∧
  Al Tp 54 0=some (0,3)∧
  Al Tp 54 1=some (1,9)∧
  Al Tp 54 2=some (2,2)∧
  Al Tp 54 3=some (3,22)∧
  Al Tp 54 4=some (4,3)∧
  Al Tp 54 5=some (5,3)∧
  JZ Tp 37=none∧
  CO Tp 37=none∧
  CO Tp 5=some .u8∧
  Od Tp 128=some (9,1,[.v (.string ⟨#[]⟩)])∧
  Od Tp 188=some (110,1,[.v (.pointer none)])∧
  Od Tp 39=some (115,9,[.v (.int .i64 0),.v (.int .i64 0),.v (.int .i64 0),.v (.string ⟨#[]⟩),.v (.int .i64 0),.v (.int .i64 0),.v (.float .f64 0),.v (.complex .f64 0 0),.v (.string ⟨#[]⟩)])∧
  Od Tp 78=some (3,1,[.v (.int .i64 0)])∧
  BW Tp 109=some [(0,1),(1,1),(2,1)]∧
  BW Tp 115=some [(0,1),(1,1),(2,1),(3,1),(4,5)]∧
  BW Tp 190=some [(0,1),(1,1),(2,5),(7,1)]∧
  BW Tp 25=some [(0,1),(1,1),(2,1),(3,1),(4,1)]∧
  BW Tp 41=some [(0,1)]∧
  BW Tp 54=some [(0,1),(1,1),(2,1),(3,1),(4,1),(5,1)]∧
  Aq Tp 109=some 3∧
  Aq Tp 110=some 1∧
  Aq Tp 115=some 9∧
  Aq Tp 188=some 1∧
  Aq Tp 190=some 8∧
  Aq Tp 2=some 1∧
  Aq Tp 22=some 1∧
  Aq Tp 25=some 5∧
  Aq Tp 3=some 1∧
  Aq Tp 41=some 1∧
  Aq Tp 47=some 1∧
  Aq Tp 5=some 1∧
  Aq Tp 54=some 6∧
  Aq Tp 9=some 1∧
  Dl Tp 37=false∧
  Dl Tp 9=true∧
  (Tryz.prog.underlying 9).isSome=true∧
  Hw Tp 109=some [.v (.slice none 0 0),.v (.int .i64 0),.v (.int .i64 0)]∧
  Hw Tp 115=some [.v (.int .i64 0),.v (.int .i64 0),.v (.int .i64 0),.v (.string ⟨#[]⟩),.v (.int .i64 0),.v (.int .i64 0),.v (.float .f64 0),.v (.complex .f64 0 0),.v (.string ⟨#[]⟩)]∧
  Hw Tp 190=some [.v (.int .i64 0),.v (.string ⟨#[]⟩),.v (.int .i64 0),.v (.int .i64 0),.v (.float .f64 0),.v (.complex .f64 0 0),.v (.string ⟨#[]⟩),.v (.slice none 0 0)]∧
  Hw Tp 25=some [.v (.int .i64 0),.v (.int .i64 0),.v (.float .f64 0),.v (.complex .f64 0 0),.v (.string ⟨#[]⟩)]∧
  Hw Tp 41=some [.v (.slice none 0 0)]∧
  Hw Tp 54=some [.v (.int .i64 0),.v (.string ⟨#[]⟩),.v (.int .i64 0),.v (.float .f64 0),.v (.int .i64 0),.v (.int .i64 0)]:=
 (by and_intros<;>kernel_rfl)
def opsL:Nat→List (List UInt8×Int)
 |1=>[([124,124],17)]
 |2=>[([38,38],16)]
 |3=>[([61,61],10),([33,61],11),([60],12),([60,61],13),([62],14),([62,61],15)]
 |4=>[([43],5),([45],6)]
 |5=>[([42],7),([47],8),([37],9)]
 |6=>[([45],3),([33],4)]
 |_=>[]
def NZ:List (List UInt8×Int):=[([114,101],18),([105,109],19),([115,105,122,101,50],20),([99,111,109,112],21),([114,101,97,108],22),([108,101,110],23),([97,116],24),([99,97,116],25),([115,116,114],26)]
def nA(l:List (List UInt8×Int)):List AV:=l.map fun x=>.v (.string ⟨x.1.toArray⟩)
def mK(l:List (List UInt8×Int)):List AV:=l.map fun x=>.v (.int .i64 x.2)
def Yf(l:List (List UInt8×Int)):AV:=.sl false l.length l.length (nA l)
def cH(l:List (List UInt8×Int)):AV:=.sl false l.length l.length (mK l)
theorem La(n:Nat)(h1:1≤n)(h6:n≤6):Ev Tp γ 194 [.v (.int .i64 (n:Int))] (.tup [Yf (opsL n),cH (opsL n)]):=by
 refine Ev.of Tryz.func194 rfl ?_;have:n=1∨n=2∨n=3∨n=4∨n=5∨n=6:=by omega
 rcases this with rfl|rfl|rfl|rfl|rfl|rfl
 all_goals (
  simp only[Tryz.f194,Dt,Int.reduceBEq,Int.cast_ofNat_Int,opsL,Yf,cH,nA,mK,Af,seval]
  (repeat' (first|(with_reducible refine aI ?_ ?_)|(first|(first|refine gF ?_ ?_|refine gT ?_ ?_|refine cI ?_ ?_|refine pI ?_ ?_)<;>intro h|(refine dI ?_;have h:=trivial))<;>simp only[h,Dt,Af,A7,Bv,Bf,seval]))
  all_goals exact ZZ rfl (BL _) (by kernel_rfl) (.inl rfl) BB (by simp only[O6,lP,QV,and_self]))
theorem ZT:Ev Tp γ 247 [] (Yf NZ):=by
 refine Ev.of Tryz.func247 rfl ?_;simp only[Tryz.f247,Dt,NZ,Yf,nA,Af,seval];exact ZZ rfl (BL _) (by kernel_rfl) (.inl rfl) BB (by simp only[O6,lP,QV,and_self])
def Vn:List (List UInt8×Int)→List UInt8→Int
 |[],_=>0
 |x::l,s=>if x.1=s then x.2 else Vn l s
theorem T8{l:List (List UInt8×Int)}{i:Nat}{x:List UInt8×Int}(h:l[i]?=some x)(s:List UInt8):Vn (l.drop i) s=if x.1=s then x.2 else Vn (l.drop (i+1)) s:=by
 have hi:=(Bs.1 h).1;rw[List.drop_eq_getElem_cons hi,Vn];have:l[i]=x:=(Bs.1 h).2;rw[this]
theorem Xf(s:List UInt8):Vn NZ s=B0 s:=by
 by_cases h0:s=[114,101]
 ·subst h0;rfl
 by_cases h1:s=[105,109]
 ·subst h1;rfl
 by_cases h2:s=[115,105,122,101,50]
 ·subst h2;rfl
 by_cases h3:s=[99,111,109,112]
 ·subst h3;rfl
 by_cases h4:s=[114,101,97,108]
 ·subst h4;rfl
 by_cases h5:s=[108,101,110]
 ·subst h5;rfl
 by_cases h6:s=[97,116]
 ·subst h6;rfl
 by_cases h7:s=[99,97,116]
 ·subst h7;rfl
 by_cases h8:s=[115,116,114]
 ·subst h8;rfl
 simp only[Vn,NZ,B0,if_neg h0,if_neg (Ne.symm h0),if_neg h1,if_neg (Ne.symm h1),if_neg h2,if_neg (Ne.symm h2),if_neg h3,if_neg (Ne.symm h3),if_neg h4,if_neg (Ne.symm h4),if_neg h5,if_neg (Ne.symm h5),if_neg h6,if_neg (Ne.symm h6),if_neg h7,if_neg (Ne.symm h7),if_neg h8,if_neg (Ne.symm h8)]
theorem dU(s:List UInt8)(n:Nat)(g1:1≤n)(g5:n≤5):Vn (opsL n) s=if Fg (Fw s)=n then Fw s else 0:=by
 have hn:n=1∨n=2∨n=3∨n=4∨n=5:=by omega
 by_cases h0:s=[124,124]
 ·subst h0;rcases hn with rfl|rfl|rfl|rfl|rfl<;>rfl
 by_cases h1:s=[38,38]
 ·subst h1;rcases hn with rfl|rfl|rfl|rfl|rfl<;>rfl
 by_cases h2:s=[61,61]
 ·subst h2;rcases hn with rfl|rfl|rfl|rfl|rfl<;>rfl
 by_cases h3:s=[33,61]
 ·subst h3;rcases hn with rfl|rfl|rfl|rfl|rfl<;>rfl
 by_cases h4:s=[60]
 ·subst h4;rcases hn with rfl|rfl|rfl|rfl|rfl<;>rfl
 by_cases h5:s=[60,61]
 ·subst h5;rcases hn with rfl|rfl|rfl|rfl|rfl<;>rfl
 by_cases h6:s=[62]
 ·subst h6;rcases hn with rfl|rfl|rfl|rfl|rfl<;>rfl
 by_cases h7:s=[62,61]
 ·subst h7;rcases hn with rfl|rfl|rfl|rfl|rfl<;>rfl
 by_cases h8:s=[43]
 ·subst h8;rcases hn with rfl|rfl|rfl|rfl|rfl<;>rfl
 by_cases h9:s=[45]
 ·subst h9;rcases hn with rfl|rfl|rfl|rfl|rfl<;>rfl
 by_cases h10:s=[42]
 ·subst h10;rcases hn with rfl|rfl|rfl|rfl|rfl<;>rfl
 by_cases h11:s=[47]
 ·subst h11;rcases hn with rfl|rfl|rfl|rfl|rfl<;>rfl
 by_cases h12:s=[37]
 ·subst h12;rcases hn with rfl|rfl|rfl|rfl|rfl<;>rfl
 have e:Fw s=0:=by simp only[Fw,if_neg h0,if_neg h1,if_neg h2,if_neg h3,if_neg h4,if_neg h5,if_neg h6,if_neg h7,if_neg h8,if_neg h9,if_neg h10,if_neg h11,if_neg h12]
 have z:Fg 0=7:=rfl;rw[e,z,if_neg (by omega)]
 rcases hn with rfl|rfl|rfl|rfl|rfl<;>simp only[Vn,opsL,if_neg (Ne.symm h0),if_neg (Ne.symm h1),if_neg (Ne.symm h2),if_neg (Ne.symm h3),if_neg (Ne.symm h4),if_neg (Ne.symm h5),if_neg (Ne.symm h6),if_neg (Ne.symm h7),if_neg (Ne.symm h8),if_neg (Ne.symm h9),if_neg (Ne.symm h10),if_neg (Ne.symm h11),if_neg (Ne.symm h12)]
theorem gE(s:List UInt8):Vn (opsL 6) s=if s=[45]then 3 else if s=[33]then 4 else 0:=by
 by_cases h0:s=[45]
 ·subst h0;rfl
 by_cases h1:s=[33]
 ·subst h1;rfl
 simp only[Vn,opsL,if_neg h0,if_neg h1,if_neg (Ne.symm h0),if_neg (Ne.symm h1)]
theorem ZD{l:List (List UInt8×Int)}{i:Nat}{x:List UInt8×Int}(h:l[i]?=some x):(nA l)[i]?=some (.v (.string ⟨x.1.toArray⟩)):=by rw[nA,Bm,h];rfl
theorem Um{l:List (List UInt8×Int)}{i:Nat}{x:List UInt8×Int}(h:l[i]?=some x):(mK l)[i]?=some (.v (.int .i64 x.2)):=by rw[mK,Bm,h];rfl
theorem c247:Ak Tp 247:=⟨_,Tryz.func247,by kernel_rfl,by kernel_rfl⟩
theorem c194:Ak Tp 194:=⟨_,Tryz.func194,by kernel_rfl,by kernel_rfl⟩
theorem c192:Ak Tp 192:=⟨_,Tryz.func192,by kernel_rfl,by kernel_rfl⟩
theorem c248:Ak Tp 248:=⟨_,Tryz.func248,by kernel_rfl,by kernel_rfl⟩
theorem c193:Ak Tp 193:=⟨_,Tryz.func193,by kernel_rfl,by kernel_rfl⟩
def o5(γ:List (Nat×AV))(s:List UInt8)(i:Nat):St:=⟨⟨24,[(0,.v (.string ⟨s.toArray⟩)),(3,Yf NZ),(4,.own 0 0 9),(5,.v (.int .i64 (i:Int)))],γ⟩,[⟨0,3,mK NZ⟩]⟩
def wkI(s:List UInt8)(i:Nat):Prop:=i≤9∧B0 s=Vn (NZ.drop i) s
theorem RL(s:List UInt8):Ev Tp γ 192 [.v (.string ⟨s.toArray⟩)] (.v (.int .i64 (B0 s))):=by
 refine Ev.of Tryz.func192 rfl ?_;simp only[Tryz.f192,Af,Nat.reduceAdd,Nat.reduceSub,Nat.reduceLT];refine Ag.intro c247 rfl ZT ?_;simp only[Dt,Af,Nat.reduceAdd,Nat.reduceLT,Nat.reduceLeDiff,Nat.reduceEqDiff,reduceCtorEq,List.reduceReplicate];refine Ea.intro (o5 γ s) (wkI s) (fun i=>9-i) 0 ?_ ⟨by decide,(Xf s).symm⟩ (fun i hi=>?_)
 ·exact⟨rfl,rfl,⟨rfl,rfl,rfl,rfl,trivial⟩,.inl rfl⟩
 ·obtain⟨hi1,hi2⟩:=hi;have hl:NZ.length=9:=rfl;have hlk:(mK NZ).length=9:=rfl
  by_cases h9:i<9
  ·have d1:decide (i<9)=true:=decide_eq_true h9;have d1':decide ((i:Int)<9)=true:=decide_eq_true (by omega);obtain⟨x,hx⟩:∃ x,NZ[i]?=some x:=⟨NZ[i]'(by omega),by simp[hl,h9]⟩;have t1:=ZD hx;have t2:=Um hx;have w1:IntKind.i64.wrap ((i:Int)+1)=((i+1:Nat):Int):=(A4 (by omega) (by omega)).trans (by omega);rw[T8 hx]at hi2
   by_cases hs:x.1=s
   ·have d2:(x.1==s)=true:=by simpa using hs
    rw[if_pos hs]at hi2;rw[hi2];simp only[o5,Yf,hl,Dt,d1,t1,t2,d2,Af,A7,Nat.reduceLT,Nat.reduceEqDiff,reduceCtorEq]
    (repeat' (first|(with_reducible refine aI ?_ ?_)|(first|(first|refine gF ?_ ?_|refine gT ?_ ?_|refine cI ?_ ?_|refine pI ?_ ?_)<;>intro h|(refine dI ?_;have h:=trivial))<;>simp only[h,Dt,t1,t2,d2,Af,A7,Bv,Bf,Nat.reduceAdd,Nat.reduceSub,Nat.reduceMul,Nat.reduceLT,Nat.reduceLeDiff,Nat.reduceEqDiff,reduceCtorEq,List.reduceReplicate,Int.reduceToNat,Int.reduceLE,Int.reduceLT]))
    all_goals exact h9
   ·have d2:(x.1==s)=false:=by simpa using hs
    rw[if_neg hs]at hi2;simp only[o5,Yf,hl,Dt,d1,t1,d2,w1,Af,A7,Nat.reduceLT,Nat.reduceEqDiff,reduceCtorEq];refine⟨by omega,?_⟩;refine Cg.intro (i+1) ⟨by omega,hi2⟩ ?_ (by omega);exact⟨rfl,rfl,⟨rfl,rfl,rfl,rfl,trivial⟩,.inl rfl⟩
  ·have d1':decide (i<9)=false:=decide_eq_false (by omega);have e:B0 s=0:=by rw[hi2,List.drop_eq_nil_of_le (by omega)];rfl
   rw[e];simp only[o5,Yf,hl,Dt,d1',Af,Nat.reduceLT,Nat.reduceEqDiff,reduceCtorEq]
theorem kL{n j:Nat}{x:List UInt8×Int}(h1:1≤n)(h6:n≤6)(h:(opsL n)[j]?=some x):Fg x.2=n:=by
 have hm:=List.mem_of_getElem? h;have hn:n=1∨n=2∨n=3∨n=4∨n=5∨n=6:=by omega
 rcases hn with rfl|rfl|rfl|rfl|rfl|rfl<;>simp only[opsL,BI,List.not_mem_nil,or_false]at hm
 ·subst hm;rfl
 ·subst hm;rfl
 ·rcases hm with rfl|rfl|rfl|rfl|rfl|rfl<;>rfl
 ·rcases hm with rfl|rfl<;>rfl
 ·rcases hm with rfl|rfl|rfl<;>rfl
 ·rcases hm with rfl|rfl<;>rfl
theorem eZ{n:Nat}{k:Int}(h1:1≤n)(h6:n≤6)(h:Fg k=n):∃ (j:Nat) (x:List UInt8×Int),(opsL n)[j]?=some x∧x.2=k:=by
 unfold Fg at h
 split at h
 ·rename_i e;have:n=1:=by omega
  subst this;exact⟨0,_,rfl,e.symm⟩
 split at h
 ·rename_i e;have:n=2:=by omega
  subst this;exact⟨0,_,rfl,e.symm⟩
 split at h
 ·rename_i e;have:n=3:=by omega
  subst this
  rcases e with e|e|e|e|e|e
  ·exact⟨0,_,rfl,e.symm⟩
  ·exact⟨1,_,rfl,e.symm⟩
  ·exact⟨2,_,rfl,e.symm⟩
  ·exact⟨3,_,rfl,e.symm⟩
  ·exact⟨4,_,rfl,e.symm⟩
  ·exact⟨5,_,rfl,e.symm⟩
 split at h
 ·rename_i e;have:n=4:=by omega
  subst this
  rcases e with e|e
  ·exact⟨0,_,rfl,e.symm⟩
  ·exact⟨1,_,rfl,e.symm⟩
 split at h
 ·rename_i e;have:n=5:=by omega
  subst this
  rcases e with e|e|e
  ·exact⟨0,_,rfl,e.symm⟩
  ·exact⟨1,_,rfl,e.symm⟩
  ·exact⟨2,_,rfl,e.symm⟩
 split at h
 ·rename_i e;have:n=6:=by omega
  subst this
  rcases e with e|e
  ·exact⟨0,_,rfl,e.symm⟩
  ·exact⟨1,_,rfl,e.symm⟩
 ·omega
theorem fY(k:Int):1≤Fg k∧Fg k≤7:=by
 unfold Fg;(repeat' split)<;>omega
def lvS(γ:List (Nat×AV))(k:Int)(n:Nat):St:=⟨⟨29,[(0,.v (.int .i64 k)),(3,.v (.int .i64 (n:Int)))],γ⟩,[]⟩
def lvI(k:Int)(n:Nat):Prop:=1≤n∧n≤7∧∀ m:Nat,1≤m→m<n→Fg k≠m
def o7(γ:List (Nat×AV))(k:Int)(n j:Nat):St:=⟨⟨29,[(0,.v (.int .i64 k)),(3,.v (.int .i64 (n:Int))),(5,cH (opsL n)),(6,.v (.int .i64 (j:Int)))],γ⟩,[]⟩
def lwI(k:Int)(n j:Nat):Prop:=j≤(opsL n).length∧∀ i x,i<j→(opsL n)[i]?=some x→x.2≠k
theorem SW(k:Int):Ev Tp γ 248 [.v (.int .i64 k)] (.v (.int .i64 (Fg k))):=by
 refine Ev.of Tryz.func248 rfl ?_;simp only[Tryz.f248,Af,Nat.reduceAdd,Nat.reduceSub,Nat.reduceLT];refine Ea.intro (lvS γ k) (lvI k) (fun n=>7-n) 1 ⟨rfl,rfl,⟨rfl,rfl,trivial⟩,.inl rfl⟩ ⟨BL _,by decide,fun m h1 h2=>by omega⟩ (fun n hn=>?_);obtain⟨h1,h7,hno⟩:=hn
 by_cases h6:n≤6
 ·have d1:decide ((n:Int)≤6)=true:=decide_eq_true (by omega);have w1:IntKind.i64.wrap ((n:Int)+1)=((n+1:Nat):Int):=(A4 (by omega) (by omega)).trans (by omega);simp only[lvS,d1,Af,Nat.reduceLT,Nat.reduceEqDiff,reduceCtorEq];refine Ag.intro c194 rfl (La n h1 h6) ?_;simp only[Af,Nat.reduceLT,Nat.reduceEqDiff,reduceCtorEq];refine Ea.intro (o7 γ k n) (lwI k n) (fun j=>(opsL n).length-j) 0 ⟨rfl,rfl,⟨rfl,rfl,rfl,rfl,trivial⟩,.inl rfl⟩ ⟨BN _,fun i x h=>by omega⟩ (fun j hj=>?_);obtain⟨hj1,hj2⟩:=hj
  by_cases hlt:j<(opsL n).length
  ·have d2:decide (j<(opsL n).length)=true:=decide_eq_true hlt;obtain⟨x,hx⟩:∃ x,(opsL n)[j]?=some x:=⟨(opsL n)[j],by simp[hlt]⟩;have t2:=Um hx
   have w2:IntKind.i64.wrap ((j:Int)+1)=((j+1:Nat):Int):=by
    have:(opsL n).length≤6:=by
     have hn:n=1∨n=2∨n=3∨n=4∨n=5∨n=6:=by clear w1;omega
     rcases hn with rfl|rfl|rfl|rfl|rfl|rfl<;>decide
    clear w1;exact (A4 (by omega) (by omega)).trans (by omega)
   by_cases he:x.2=k
   ·have d3:(x.2==k)=true:=by simpa using he
    have e:Fg k=n:=by rw[←he];exact kL h1 h6 hx
    rw[e];simp only[o7,cH,Dt,d2,t2,d3,Af,A7,Nat.reduceLT,Nat.reduceEqDiff,reduceCtorEq];exact hlt
   ·have d3:(x.2==k)=false:=by simpa using he
    simp only[o7,cH,Dt,d2,t2,d3,w2,Af,A7,Nat.reduceLT,Nat.reduceEqDiff,reduceCtorEq];refine⟨hlt,?_⟩;refine Cg.intro (j+1) ⟨hlt,fun i y hi hy=>?_⟩ ⟨rfl,rfl,⟨rfl,rfl,rfl,rfl,trivial⟩,.inl rfl⟩ (by clear w1 w2;omega)
    by_cases hij:i=j
    ·subst hij;rw[hx]at hy;cases hy;exact he
    ·exact hj2 i y (by clear w1 w2;omega) hy
  ·have d2:decide (j<(opsL n).length)=false:=decide_eq_false hlt;simp only[o7,cH,Dt,d2,w1,Af,Nat.reduceLT,Nat.reduceEqDiff,reduceCtorEq];refine Cg.intro (n+1) ⟨by clear w1;omega,by clear w1;omega,fun m g1 g2=>?_⟩ ⟨rfl,rfl,⟨rfl,rfl,trivial⟩,.inl rfl⟩ (by clear w1;omega)
   by_cases hmn:m=n
   ·subst hmn;intro e;obtain⟨i,x,hx,hxk⟩:=eZ h1 h6 e;exact hj2 i x (by have:=(Bs.1 hx).1;clear w1;omega) hx hxk
   ·exact hno m g1 (by clear w1;omega)
 ·have d1:decide ((n:Int)≤6)=false:=decide_eq_false (by omega)
  have e:Fg k=7:=by
   have:=fY k
   by_cases h:Fg k=7
   ·exact h
   ·exact absurd (show Fg k=((Fg k).toNat:Int)by omega) (hno (Fg k).toNat (by omega) (by omega))
  rw[e];simp only[lvS,d1,Af,Nat.reduceLT,Nat.reduceEqDiff,reduceCtorEq]
theorem cL(k:Int)(h:18≤k∧k≤26):Ev Tp γ 193 [.v (.int .i64 k)] (.v (.int .i64 (De k))):=by
 refine Ev.of Tryz.func193 rfl ?_;simp only[Tryz.f193,Af,Nat.reduceAdd,Nat.reduceSub,Nat.reduceLT,Nat.reduceEqDiff,reduceCtorEq];refine Ag.intro c248 rfl (SW k) ?_;have e:Fg k=7:=by unfold Fg;(repeat' split)<;>omega
 have hk:k=18∨k=19∨k=20∨k=21∨k=22∨k=23∨k=24∨k=25∨k=26:=by omega
 rw[e]
 rcases hk with rfl|rfl|rfl|rfl|rfl|rfl|rfl|rfl|rfl<;>simp only[Int.reduceBEq,Af,Nat.reduceLT,Nat.reduceEqDiff,reduceCtorEq,Int.reduceLT]<;>rfl
theorem mR:Ak Tp 184:=⟨_,Tryz.func184,by kernel_rfl,by kernel_rfl⟩
theorem XE:Ak Tp 114:=⟨_,Tryz.func114,by kernel_rfl,by kernel_rfl⟩
theorem c245:Ak Tp 245:=⟨_,Tryz.func245,by kernel_rfl,by kernel_rfl⟩
theorem c283:Ak Tp 283:=⟨_,Tryz.func283,by kernel_rfl,by kernel_rfl⟩
def Jd(γ:List (Nat×AV))(ts:List Tk)(L:AV)(f:Nat)(g:FuncId)(xs:List AV)(m:Md):Prop:=
 ∀ (h:List Aa) (i p:Nat) (N:AV) (ns:List Nd),p≤ts.length→m.need ts p≤f→RS h i L p N ns→(ns.length+(ts.length-p)+1) * 96≤140737488355328→
  Ck Tp γ g (.ptr i 0 0::xs) h (D8 L i N h ns (pr ts f m p))
structure Wu(γ:List (Nat×AV))(ts:List Tk)(L:AV)(f:Nat):Prop where
 bin:∀ n:Nat,1≤n→n≤6→Jd γ ts L f 114 [.v (.int .i64 (n:Int))] (.bin n)
 un:Jd γ ts L f 184 [] .un
 fs:Jd γ ts L f 245 [] .fs
 nm:∀ s,Jd γ ts L f 283 [.v (.string ⟨s.toArray⟩)] (.nm s)
theorem D8.bad_of{L:AV}{i:Nat}{N N':AV}{h h1 h':List Aa}{ns ns':List Nd}{q:Nat}{v:AV}(r:D8 L i N' h1 ns' (.bad q) (.pan v) h')(f:Fr (RP i N) h h1)(hn:∀ k,AZ N' k→AZ N k∨h.length≤k):
  D8 L i N h ns (.bad q) (.pan v) h':=
 ⟨f.trans r.1 fun k hk=>hk.elim (fun e=>.inl (.inl e)) fun e=>(hn k e).elim (fun e=>.inl (.inr e)) .inr,r.2⟩
theorem D8.ok_ret{L:AV}{i:Nat}{N:AV}{h h':List Aa}{ns:List Nd}{t:Tr}{q:Nat}{r:AV}(hh:D8 L i N h ns (.ok t q) (.ret r) h'):
  r=.v (.int .i64 ((ns.length+t.size-1:Nat):Int))∧Fr (RP i N) h h'∧∃ N',RS h' i L q N' (ns++lay t ns.length)∧∀ k,AZ N' k→AZ N k∨h.length≤k:=
 ⟨by have:=hh.2.1;cases this;rfl,hh.1,hh.2.2⟩
theorem D8.ok_pan{L:AV}{i:Nat}{N:AV}{h h':List Aa}{ns:List Nd}{t:Tr}{q:Nat}{r:AV}(hh:D8 L i N h ns (.ok t q) (.pan r) h'):False:=by
 have:=hh.2.1;cases this
theorem D8.bad_ret{L:AV}{i:Nat}{N:AV}{h h':List Aa}{ns:List Nd}{q:Nat}{r:AV}(hh:D8 L i N h ns (.bad q) (.ret r) h'):False:=by
 have:=hh.2;cases this
theorem Fr.more{i:Nat}{N N':AV}{h h1 h2:List Aa}(a:Fr (RP i N) h h1)(b:Fr (RP i N') h1 h2)(hn:∀ k,AZ N' k→AZ N k∨h.length≤k):Fr (RP i N) h h2:=
 a.trans b fun k hk=>hk.elim (fun e=>.inl (.inl e)) fun e=>(hn k e).elim (fun e=>.inl (.inr e)) .inr
theorem Hs{N N1 N2:AV}{h h1:List Aa}(hl:h.length≤h1.length)(a:∀ k,AZ N1 k→AZ N k∨h.length≤k)(b:∀ k,AZ N2 k→AZ N1 k∨h1.length≤k):∀ k,AZ N2 k→AZ N k∨h.length≤k:=
 fun k hk=>(b k hk).elim (a k) fun e=>.inr (BM hl e)
theorem WW{n n2 l p p2:Nat}(h:(n+(l-p)+1) * 96≤140737488355328)(hk:n2+(l-p2)≤n+(l-p)):(n2+(l-p2)+1) * 96≤140737488355328:=BM (Nat.mul_le_mul_right 96 (by omega)) h
theorem bR{p l:Nat}(hp:p≤l)(hb:l<4611686018427387904):IntKind.i64.wrap ((p:Int)+1)=((p+1:Nat):Int):=(A4 (by omega) (by omega)).trans (by omega)
theorem Ej{h:List Aa}{i:Nat}{N:AV}(b:Aa):Fr (RP i N) h (h.set i b):=Fr.set _ (.inl rfl)
theorem D8.ok_mk{L:AV}{i:Nat}{N N':AV}{h h':List Aa}{ns ns':List Nd}{t:Tr}{q:Nat}{v:Int}{res:Z5}(hp:res=.ok t q)(hv:v=((ns.length+t.size-1:Nat):Int))(f:Fr (RP i N) h h')(hr:RS h' i L q N' ns')(hn:ns'=ns++lay t ns.length)
  (hk:∀ k,AZ N' k→AZ N k∨h.length≤k):D8 L i N h ns res (.ret (.v (.int .i64 v))) h':=by
 subst hp;subst hv;subst hn;exact⟨f,rfl,N',hr,hk⟩
variable {γ:List (Nat×AV)} {ts:List Tk} {L:AV}
theorem fO(hL:EV L ts)(hb:ts.length<4611686018427387904){f:Nat}(H:Wu γ ts L f):Jd γ ts L (f+1) 184 [] .un:=by
 intro h i p N ns hp hf hr hB;have hi:=hr.1;have w1:IntKind.i64.wrap ((p:Int)+1)=((p+1:Nat):Int):=bR hp hb;refine Ck.of Tryz.func184 rfl ?_;simp only[Tryz.f184,Af,seval];refine Ao.intro fU _ (MM hL hr) (fun r h' hh=>?_) (fun v h' hh=>by cases hh.1);obtain⟨e,rfl⟩:=hh;cases e
 have main:∀ k:Int,(if Cv ts p=[45]then (3:Int)else 4)=k→(Cv ts p=[45]∨Cv ts p=[33])→∀ (K:St→Prop) (s:Db),s.g=γ→
   (∀ (a:Tr) (q:Nat) (h1:List Aa) (r:AV) (N':AV),pr ts f .un (p+1)=.ok a q→r=.v (.int .i64 ((ns.length+a.size-1:Nat):Int))→Fr (RP i N) h' h1→RS h1 i L q N' (ns++lay a ns.length)→(∀ k,AZ N' k→AZ N k∨h'.length≤k)→K (pt ⟨s,h1⟩ (some 22) r))→
   Ao Tp (WD (D8 L i N h' ns (pr ts (f+1) .un p))) 184 [.ptr i 0 0] (some 22) K ⟨s,h'.set i ⟨0,104,[L,.v (.int .i64 ((p+1:Nat):Int)),N]⟩⟩:=by
  intro k hk hm K s hs hK;have hlt:p<ts.length:=hm.elim CW CW;subst hs;have hn:Md.need ts (p+1) .un≤f:=by clear w1;simp only[Md.need]at hf⊢;omega
  have hB':(ns.length+(ts.length-(p+1))+1) * 96≤140737488355328:=WW hB (by clear w1;omega);have hp':p+1≤ts.length:=hlt;have hc:=H.un (h'.set i ⟨0,104,[L,.v (.int .i64 ((p+1:Nat):Int)),N]⟩) i (p+1) N ns hp' hn (hr.move (p+1)) hB';refine Ao.intro mR _ hc (fun r h1 hh=>?_) (fun v h1 hh=>?_)
  ·cases e:pr ts f .un (p+1)with
   |bad q=>rw[e]at hh;exact hh.bad_ret.elim
   |ok a q=>
    rw[e]at hh;obtain⟨e1,f1,N',r1,n1⟩:=hh.ok_ret;exact hK a q h1 r N' e e1 (Fr.more (Ej _) f1 fun k hk=>.inl hk) r1 fun k hk=>(n1 k hk).imp id fun e=>by simpa using e
  ·cases e:pr ts f .un (p+1)with
   |bad q=>
    rw[e]at hh;show D8 L i N h' ns (pr ts (f+1) .un p) (.pan v) h1;rw[pr,if_pos hm,e];exact hh.bad_of (Ej _) fun k hk=>.inl hk
   |ok a q=>rw[e]at hh;exact hh.ok_pan.elim
 have fin:∀ k:Int,(if Cv ts p=[45]then (3:Int)else 4)=k→(Cv ts p=[45]∨Cv ts p=[33])→∀ (a:Tr) (q:Nat) (h1 h2:List Aa) (N':AV),pr ts f .un (p+1)=.ok a q→Fr (RP i N) h' h1→(∀ k,AZ N' k→AZ N k∨h'.length≤k)→∀ r,
   cF L i q N' (ns++lay a ns.length) ⟨k,((ns.length+a.size-1:Nat):Int),0,[],0,0,0,[]⟩ h1 (.ret r) h2→D8 L i N h' ns (pr ts (f+1) .un p) (.ret r) h2:=by
  intro k hk hm a q h1 h2 N' e f1 n1 r hh;obtain⟨e2,f2,N2,r2,n2⟩:=hh;cases e2;refine D8.ok_mk (t:=.un k a) (by rw[pr,if_pos hm,e,hk]) (by rw[Bp,B2];rfl) (Fr.more f1 f2 n1) r2 ?_ (Hs f1.1 n1 n2);rw[Bo];rfl
 have bnd:∀ (a:Tr) (q:Nat),p<ts.length→pr ts f .un (p+1)=.ok a q→((ns++lay a ns.length).length+1) * 96≤140737488355328:=by
  intro a q hlt e;clear w1;obtain⟨⟨g1,g2⟩,g3⟩:=Eo ts f .un (p+1) a q hlt e;rw[Bp,B2];exact BM (Nat.mul_le_mul_right 96 (by omega)) hB
 by_cases h1:Cv ts p=[45]
 ·have d1:(Cv ts p==[45])=true:=by simpa using h1
  simp only[hi,d1,w1,Af,A7,seval];refine main 3 (by rw[if_pos h1]) (.inl h1) _ _ rfl ?_;intro a q h1' r N' e er f1 r1 n1;subst er;simp only[Af,A7,seval];refine Ao.intro NF _ (GY r1 ⟨3,((ns.length+a.size-1:Nat):Int),0,[],0,0,0,[]⟩ (bnd a q (CW h1) e)) (fun r h2 hh=>?_) (fun v h2 hh=>by cases hh.1);simp only[Af,seval];exact fin 3 (by rw[if_pos h1]) (.inl h1) a q h1' h2 N' e f1 n1 r hh
 ·have d1:(Cv ts p==[45])=false:=by simpa using h1
  by_cases h2:Cv ts p=[33]
  ·have d2:(Cv ts p==[33])=true:=by simpa using h2
   simp only[hi,d1,d2,w1,Af,A7,seval];refine main 4 (by rw[if_neg h1]) (.inr h2) _ _ rfl ?_;intro a q h1' r N' e er f1 r1 n1;subst er;simp only[Af,A7,seval];refine Ao.intro NF _ (GY r1 ⟨4,((ns.length+a.size-1:Nat):Int),0,[],0,0,0,[]⟩ (bnd a q (CW h2) e)) (fun r h3 hh=>?_) (fun v h2 hh=>by cases hh.1);simp only[Af,seval];exact fin 4 (by rw[if_neg h1]) (.inr h2) a q h1' _ N' e f1 n1 r hh
  ·have d2:(Cv ts p==[33])=false:=by simpa using h2
   have epr:pr ts (f+1) .un p=pr ts f .fs p:=by rw[pr,if_neg (fun e=>e.elim h1 h2)]
   simp only[d1,d2,Af,seval];have hn:Md.need ts p .fs≤f:=by clear w1;simp only[Md.need]at hf⊢;omega
   refine Ao.intro c245 _ (H.fs h' i p N ns hp hn hr hB) (fun r h2 hh=>?_) (fun v h2 hh=>?_)
   ·simp only[Af,seval];rw[epr];exact hh
   ·show D8 L i N h' ns (pr ts (f+1) .un p) (.pan v) h2
    rw[epr];exact hh
structure LpI where
 a:Tr
 q:Nat
 h:List Aa
 N:AV
 g:Nat
def lpS(γ:List (Nat×AV))(i n:Nat)(ns:List Nd)(x:LpI):St:=⟨⟨46,[(0,.ptr i 0 0),(1,.v (.int .i64 (n:Int))),(5,.v (.int .i64 ((ns.length+x.a.size-1:Nat):Int)))],γ⟩,x.h⟩
def lpI(ts:List Tk)(L:AV)(h:List Aa)(i n p:Nat)(N:AV)(ns:List Nd)(f:Nat)(x:LpI):Prop:=
 p<x.q∧x.q≤ts.length∧x.a.size+p≤x.q∧Fr (RP i N) h x.h∧RS x.h i L x.q x.N (ns++lay x.a ns.length)∧(∀ k,AZ x.N k→AZ N k∨h.length≤k)∧pr ts f (.bin n) p=pr ts x.g (.lp n x.a) x.q∧(Md.lp n x.a).need ts x.q≤x.g∧x.g+1≤f
theorem ZH(hL:EV L ts)(hb:ts.length<4611686018427387904){f:Nat}(H:∀ g≤f,Wu γ ts L g){n:Nat}(hn1:1≤n)(hn6:n≤6):Jd γ ts L (f+1) 114 [.v (.int .i64 (n:Int))] (.bin n):=by
 intro h i p N ns hp hf hr hB;have hi:=hr.1;refine Ck.of Tryz.func114 rfl ?_
 by_cases h6:n=6
 ·subst h6;have epr:pr ts (f+1) (.bin 6) p=pr ts f .un p:=by rw[pr,if_pos (by decide)]
  have hn:Md.need ts p .un≤f:=by simp only[Md.need]at hf⊢;omega
  have d0:decide ((5:Int)<((6:Nat):Int))=true:=by decide
  simp only[Tryz.f114,d0,Af,seval];refine Ao.intro mR _ ((H f (BL _)).un h i p N ns hp hn hr hB) (fun r h2 hh=>?_) (fun v h2 hh=>?_)
  ·simp only[Af,seval];rw[epr];exact hh
  ·show D8 L i N h ns (pr ts (f+1) (.bin 6) p) (.pan v) h2
   rw[epr];exact hh
 ·have d1:decide (5<(n:Int))=false:=decide_eq_false (by omega);have w1:IntKind.i64.wrap ((n:Int)+1)=((n+1:Nat):Int):=(A4 (by omega) (by omega)).trans (by omega);have hn:Md.need ts p (.bin (n+1))≤f:=by clear w1;simp only[Md.need]at hf⊢;omega
  have hc:=(H f (BL _)).bin (n+1) (by clear w1;omega) (by clear w1;omega) h i p N ns hp hn hr hB
  have epr:pr ts (f+1) (.bin n) p=match pr ts f (.bin (n+1)) p with
   |.bad q=>.bad q
   |.ok a q=>pr ts f (.lp n a) q:=by rw[pr,if_neg (by clear w1;omega)]<;>cases pr ts f (.bin (n+1)) p<;>rfl
  simp only[Tryz.f114,d1,w1,Af,seval];refine Ao.intro XE _ hc (fun r h1 hh=>?_) (fun v h2 hh=>?_)
  rotate_left
  ·cases e:pr ts f (.bin (n+1)) p with
   |ok a q=>rw[e]at hh;exact hh.ok_pan.elim
   |bad q=>
    rw[e]at hh epr;show D8 L i N h ns (pr ts (f+1) (.bin n) p) (.pan v) h2;rw[epr];exact hh
  cases e:pr ts f (.bin (n+1)) p with
  |bad q=>rw[e]at hh;exact hh.bad_ret.elim
  |ok a q=>
   rw[e]at hh epr;obtain⟨er,f1,N',r1,n1⟩:=hh.ok_ret;subst er;have hadv:=Eo ts f (.bin (n+1)) p a q hp e;simp only[Af,seval];refine Cp.intro (lpS γ i n ns) (lpI ts L h i n p N ns (f+1)) (fun x=>ts.length-x.q) ⟨a,q,h1,N',f⟩ ?_ ?_ (fun x hx=>?_)
   ·exact⟨rfl,rfl,⟨rfl,rfl,rfl,trivial⟩,rfl⟩
   ·obtain⟨⟨g1,g2⟩,g3⟩:=hadv;refine⟨g1,g3,g2,f1,r1,n1,epr,?_,BL _⟩;clear w1;simp only[Md.need]at hf⊢;omega
   ·clear e epr hadv hh r1 n1 f1 hc hn;obtain⟨a,q,h1,N1,g⟩:=x;obtain⟨x1,x2,x3,f1,r1,n1,epr,hneed,hg⟩:=hx;simp only at x1 x2 x3 f1 r1 n1 epr hneed hg;obtain⟨g,rfl⟩:∃ g',g=g'+1:=⟨g-1,by clear w1;simp only[Md.need]at hneed;omega⟩;have w2:IntKind.i64.wrap ((q:Int)+1)=((q+1:Nat):Int):=bR x2 hb;have hi1:=r1.1;simp only[lpS,Af,seval];refine Ao.intro fU _ (MM hL r1) (fun r h2 hh=>?_) (fun v h' hh=>by cases hh.1);obtain⟨e,rfl⟩:=hh;cases e;simp only[Af,seval];refine Ao.pure (Ag.intro c185 rfl (So _) ?_)
    have stop:(Fw (Cv ts q)=0∨Fg (Fw (Cv ts q))≠n)→D8 L i N h ns (pr ts (f+1) (.bin n) p) (.ret (.v (.int .i64 ((ns.length+a.size-1:Nat):Int)))) h2:=by
     intro hs;refine D8.ok_mk (t:=a) (q:=q) ?_ rfl f1 r1 rfl n1;rw[epr,pr,if_pos hs]
    by_cases hk0:Fw (Cv ts q)=0
    ·have d2:(Fw (Cv ts q)==0)=true:=by simpa using hk0
     simp only[d2,Af,seval];exact stop (.inl hk0)
    ·have d2:(Fw (Cv ts q)==0)=false:=by simpa using hk0
     simp only[d2,Af,seval];refine Ao.pure (Ag.intro c187 rfl (YI _) ?_)
     by_cases hl:Fg (Fw (Cv ts q))=n
     ·have d3:(Fg (Fw (Cv ts q)) != (n:Int))=false:=by simpa using hl
      simp only[d3,hi1,w1,w2,Af,A7,seval];have hlt:q<ts.length:=Qf hk0;have hstop:¬(Fw (Cv ts q)=0∨Fg (Fw (Cv ts q))≠n):=fun h=>h.elim hk0 fun h=>h hl
      have hgf:g≤f:=by clear w1 w2;omega
      have hn2:Md.need ts (q+1) (.bin (n+1))≤g:=by clear w1 w2;simp only[Md.need]at hneed⊢;omega
      have hlen:(ns++lay a ns.length).length=ns.length+a.size:=by rw[Bp,B2]
      have hB2:((ns++lay a ns.length).length+(ts.length-(q+1))+1) * 96≤140737488355328:=by rw[hlen];exact WW hB (by clear w1 w2;omega)
      have hc:=(H g hgf).bin (n+1) (by clear w1 w2;omega) (by clear w1 w2;omega) (h2.set i ⟨0,104,[L,.v (.int .i64 ((q+1:Nat):Int)),N1]⟩) i (q+1) N1 (ns++lay a ns.length) hlt hn2 (r1.move (q+1)) hB2
      have epr2:pr ts (g+1) (.lp n a) q=match pr ts g (.bin (n+1)) (q+1)with
       |.bad q=>.bad q
       |.ok b q'=>if n=3 then .ok (.bi (Fw (Cv ts q)) a b) q' else pr ts g (.lp n (.bi (Fw (Cv ts q)) a b)) q':=by rw[pr,if_neg hstop]<;>cases pr ts g (.bin (n+1)) (q+1)<;>rfl
      refine Ao.intro XE _ hc (fun r h3 hh=>?_) (fun v h3 hh=>?_)
      rotate_left
      ·cases e:pr ts g (.bin (n+1)) (q+1)with
       |ok b q'=>rw[e]at hh;exact hh.ok_pan.elim
       |bad q'=>
        rw[e]at hh epr2;show D8 L i N h ns (pr ts (f+1) (.bin n) p) (.pan v) h3;rw[epr,epr2];exact hh.bad_of (Fr.more f1 (Ej _) n1) n1
      cases e:pr ts g (.bin (n+1)) (q+1)with
      |bad q'=>rw[e]at hh;exact hh.bad_ret.elim
      |ok b q'=>
       rw[e]at hh epr2;obtain⟨er,f3,N3,r3,n3⟩:=hh.ok_ret;subst er;have n3':∀ k,AZ N3 k→AZ N1 k∨h2.length≤k:=fun k hk=>(n3 k hk).imp id fun e=>by simpa using e
       have f13:Fr (RP i N) h h3:=Fr.more f1 (Fr.more (Ej _) f3 fun k hk=>.inl hk) n1;have n13:=Hs f1.1 n1 n3';obtain⟨⟨g1,g2⟩,g3⟩:=Eo ts g (.bin (n+1)) (q+1) b q' hlt e;have hlen3:(ns++lay a ns.length++lay b (ns++lay a ns.length).length).length=ns.length+a.size+b.size:=by rw[Bp,B2,hlen]
       have hlay:lay (.bi (Fw (Cv ts q)) a b) ns.length=lay a ns.length++lay b (ns.length+a.size)++[⟨Fw (Cv ts q),((ns.length+a.size-1:Nat):Int),((ns.length+a.size+b.size-1:Nat):Int),[],0,0,0,[]⟩]:=rfl;rw[hlen]at *;simp only[Af,A7,seval];refine Ao.intro NF _ (GY r3 ⟨Fw (Cv ts q),((ns.length+a.size-1:Nat):Int),((ns.length+a.size+b.size-1:Nat):Int),[],0,0,0,[]⟩ (by rw[hlen3];exact BM (Nat.mul_le_mul_right 96 (by clear w1 w2;omega)) hB)) (fun r h4 hh=>?_) (fun v h2 hh=>by cases hh.1);obtain⟨e4,f4,N4,r4,n4⟩:=hh;cases e4;rw[hlen3];have f14:Fr (RP i N) h h4:=Fr.more f13 f4 n13;have n14:=Hs f13.1 n13 n4;have r4':RS h4 i L q' N4 (ns++lay (.bi (Fw (Cv ts q)) a b) ns.length):=by rw[hlay];simpa[Bo]using r4
       by_cases h3n:n=3
       ·have d4:((n:Int)==3)=true:=by subst h3n;rfl
        simp only[d4,Af,seval];exact D8.ok_mk (t:=.bi (Fw (Cv ts q)) a b) (q:=q') (by rw[epr,epr2,h3n];rfl) (by simp only[Tr.size];clear w1 w2;omega) f14 r4' rfl n14
       ·have d4:((n:Int)==3)=false:=by simp only[beq_eq_false_iff_ne,ne_eq];clear w1 w2;omega
        simp only[d4,Af,seval];refine AF.intro ⟨.bi (Fw (Cv ts q)) a b,q',h4,N4,g⟩ ⟨?_,g3,?_,f14,r4',n14,?_,?_,?_⟩ ⟨rfl,rfl,?_,rfl⟩ ?_
        ·show p<q';clear w1 w2;omega
        ·simp only[Tr.size];clear w1 w2;omega
        ·rw[epr,epr2];exact if_neg h3n
        ·clear w1 w2;simp only[Md.need]at hneed⊢;omega
        ·show g+1≤f+1;clear w1 w2;omega
        ·refine⟨rfl,rfl,?_,trivial⟩;show AV.v (.int .i64 ((ns.length+a.size+b.size:Nat):Int))=AV.v (.int .i64 ((ns.length+(a.size+b.size+1)-1:Nat):Int));rw[show ns.length+(a.size+b.size+1)-1=ns.length+a.size+b.size by clear w1 w2;omega]
        ·show ts.length-q'<ts.length-q;clear w1 w2;omega
     ·have d3:(Fg (Fw (Cv ts q)) != (n:Int))=true:=by simpa using hl
      simp only[d3,Af,seval];exact stop (.inr hl)
end Go.Proofs.YtlobiioioicmhaaGreatDoor
