/- A part of the proof. -/
import Derived.Test.YtlobiioioicmhaaGreatDoorBQ16
import Derived.Test.YtlobiioioicmhaaGreatDoorCards
import Derived.Test.YtlobiioioicmhaaGreatDoorTie
import Derived.WalkKit
import Derived.ProofKit
import Derived.OpenShut
import Derived.ShutString
import Derived.ChangeOld
import Derived.SizedLaws
import Derived.Deep.DeepHandedRow
import Derived.Deep.DeepWitnessRowRef
import Derived.Stop.LaidErr
import Derived.Lib.LaidIn
import Derived.Lib.LaidTab
set_option linter.all false
set_option maxHeartbeats 8000000
namespace Go.Proofs.YtlobiioioicmhaaGreatDoor
open _root_.Array renaming getElem?_eq_some_iff→BP,getElem?_eq_none→BQ
open _root_.Bool renaming not_true→Bv,not_false→Bf
open _root_.List renaming getElem?_eq_some_iff→Bs,getElem?_append_left→Ba,getElem?_set_self→Be,length_append→Bp,append_assoc→Bo,cons_append→Bc,nil_append→Bi,getElem?_map→Bm,length_map→Bk,getElem?_eq_none→Bq,take_of_length_le→Bt,length_drop→Bd,length_take→Bh,mem_singleton→Bj,map_cons→BA,prefix_rfl→BB,length_cons→BC,getElem_cons_zero→BF,getElem_toArray→BH,mem_cons→BI,append_nil→BS,set_append_right→BV,getElem?_take→BY
open _root_.Nat renaming le_refl→BL,le_trans→BM,zero_le→BN
open Go.Proofs.Tryz renaming prog→Tp
open Go Go.Ev Go.RowKit
variable {γ:List (Nat×AV)}
set_option maxRecDepth 20000 in
theorem next_nil:Ev Tp γ 183 [.v (.slice none 0 0),.v (.int .i64 0)] (.tup [zeroT.av 0,.v (.bool false),.v (.int .i64 0)]):=by
 refine Ev.of Tryz.func183 rfl ?_;simp only[Tryz.f183,TokD.av,tokA,zeroT,evS,tyS,Nat.reduceAdd,Nat.reduceSub,Nat.reduceLT];refine SemK.scope (α:=Empty) (fun a=>a.elim) (fun _=>False) (fun _=>0) (fun _=>0) ?_ (fun a=>a.elim);have zz:decide ((0:Int)≤0)=true:=by decide
 simp only[lS,evS,tyS,Nat.reduceAdd,Nat.reduceLT,Nat.reduceLeDiff,Nat.reduceEqDiff,reduceCtorEq,Int.reduceLE]
 (repeat' (first|(with_reducible refine aI ?_ ?_)|(first|(first|refine gF ?_ ?_|refine gT ?_ ?_|refine cI ?_ ?_|refine pI ?_ ?_)<;>intro h|(refine dI ?_;have h:=trivial))<;>simp only[h,lS,zz,evS,tyS,Bv,Bf,Nat.reduceAdd,Nat.reduceSub,Nat.reduceMul,Nat.reduceLT,Nat.reduceLeDiff,Nat.reduceEqDiff,reduceCtorEq,List.reduceReplicate,Int.reduceToNat,Int.reduceLE,Int.reduceLT]))
 all_goals rfl
theorem each13_nil(w:World):Calls Tp 112 #[.slice none 0 0] w fun e w'=>∃ N,e=.returned (.func (.func 182) #[] #[.pointer (some ⟨N,0,none⟩)])∧w'.heap[N]?=some (.cells #[.slice none 0 0] 37 (0,0))∧w.heap.size≤N∧Below w.heap.size w w':=by
 go_enter Tryz.func112,Tryz.ntmps112
 go_wp2
 go_ret
 exact⟨_,rfl,Go.Ev.heap_alloc_new w _,BL _,(Below.refl _ w).alloc (BL _) _⟩
def eachBase0(γ:List (Nat×AV))(Nb:Nat)(W:World):Prop:=(∃ fr,W.heap[Nb]?=some (.cells #[.slice none 0 0] 37 fr))∧glOK γ W
def box0:AV:=.ela true [.v (.slice none 0 0)]
theorem box0_lt{Nb:Nat}{W:World}(h:eachBase0 γ Nb W):Nb<W.heap.size:=by
 obtain⟨⟨fr,h1⟩,_⟩:=h;exact (BP.1 h1).1
theorem box0_rel{Nb:Nat}{W:World}(h:eachBase0 γ Nb W):rel box0 (cx (eachX Tp W Nb (box0_lt h)) [] [] W) (.pointer (some ⟨Nb,0,none⟩)):=by
 have hlt:=box0_lt h;obtain⟨⟨fr,h1⟩,_⟩:=h;unfold box0;rw[rel];refine⟨Nb,0,rfl,⟨hlt,by simp,by show Nb=Nb;rfl⟩,?_⟩;simp only[relAt,rel];refine⟨⟨_,?_,rfl⟩,trivial⟩;show W.cell? _=_;unfold World.cell?;simp only[h1];rfl
set_option maxRecDepth 20000 in
theorem each_seq0(hγ2:GlW γ)(Nb:Nat)(item:Nat→Array Value):SeqC Tp 182 #[.pointer (some ⟨Nb,0,none⟩)] 0 item (eachBase0 γ Nb):=by
 intro ly J Jx W hJb hJw hJxw hY hJ0;refine callsIn_wide.1 (callsIn_of_wp (F:=Fence.wide) (n:=0) Tryz.func182 rfl trivial ?_);generalize hPE:bodyPost Tp Tryz.f182 _=PE
 have hret:∀ (a:Act) (w:World),a.defers=[]→(J 0 w∨Jx w)→PE .ret a w:=fun a w h1 h2=>by
  rw[←hPE];refine⟨h1,.tuple #[],?_,⟨_,rfl⟩,h2⟩;unfold results;rw[show Tryz.f182.results = #[]from rfl,Sem.run_bind,Array.mapM_eq_mapM_toList,Sem.run_map]
  rfl
 have hb0:=hJb 0 W hJ0;have hnt:Tryz.f182.ntmps=38:=by kernel_rfl
 rw[hnt];obtain⟨A,hA,hAd,hAn,hA0,hA1⟩:=frame2 38 (.func (.yield ly) #[] #[]) (.pointer (some ⟨Nb,0,none⟩)) (by decide);rw[←hA]
 have hsr:SR (eachX Tp W Nb (box0_lt hb0)) [] ⟨⟨38,[(0,yv ly),(1,box0)],γ⟩,[]⟩ A W:=by
  refine SR.fresh hAd hAn (fun t=>?_) (fun k=>gl_rel hγ2 hb0.2 (c:=cx (eachX Tp W Nb (box0_lt hb0)) [] [] W) rfl (fun r hr=>⟨hr,by simp,by show ¬False;exact fun h=>h⟩) k)
  by_cases e0:t=0
  ·subst e0;rw[hA0];show rel (yv ly) _ _;simp only[yv,rel]
  ·by_cases e1:t=1
   ·subst e1;rw[hA1];exact box0_rel hb0
   ·have:Go.Ev.look [(0,yv ly),(1,box0)] t=.bad:=by
     simp only[Go.Ev.look];rw[if_neg (fun e=>e0 e.symm),if_neg (fun e=>e1 e.symm)]
    rw[this];simp only[rel]
 refine wpIn_seq (wpIn_seq (pieceIn (X:=eachX Tp W Nb (box0_lt hb0)) (r:=none) ⟨⟨38,[(0,yv ly),(1,box0),(9,.v (.bool false))],γ⟩,[]⟩ (by kernel_rfl) rfl hsr ?_ ?_))
 ·show kwp Tp _ _ _
  have hd:decide ((32768:Int)<0)=false:=by decide
  simp only[box0,yv,wkQ_normal,evS,tyS,Nat.reduceLT,Nat.reduceEqDiff,reduceCtorEq,Int.reduceLT]
  (repeat' (first|(with_reducible refine aI ?_ ?_)|(first|(first|refine gF ?_ ?_|refine gT ?_ ?_|refine cI ?_ ?_|refine pI ?_ ?_)<;>intro h|(refine dI ?_;have h:=trivial))<;>simp only[h,evS,tyS,Bv,Bf,Nat.reduceAdd,Nat.reduceSub,Nat.reduceMul,Nat.reduceLT,Nat.reduceLeDiff,Nat.reduceEqDiff,reduceCtorEq,List.reduceReplicate,Int.reduceToNat,Int.reduceLE,Int.reduceLT]))
  all_goals first|done|rfl|exact .inl rfl|trace_state
 intro φ1 a1 W1 h1;refine wpIn_cond_false (h1.getv rfl) (wpIn_skip ?_);refine wpIn_seq (pieceIn (X:=eachX Tp W Nb (box0_lt hb0)) (r:=none) ⟨⟨38,[(0,yv ly),(1,box0),(3,.v (.int .i64 0))],γ⟩,[]⟩ (by kernel_rfl) rfl h1 ?_ ?_)
 ·show kwp Tp _ _ _
  simp only[box0,yv,wkQ_normal,evS,Nat.reduceLT,Nat.reduceEqDiff,reduceCtorEq]
  (repeat' (first|(with_reducible refine aI ?_ ?_)|(first|(first|refine gF ?_ ?_|refine gT ?_ ?_|refine cI ?_ ?_|refine pI ?_ ?_)<;>intro h|(refine dI ?_;have h:=trivial))<;>simp only[h,evS,tyS,Bv,Bf,Nat.reduceAdd,Nat.reduceSub,Nat.reduceMul,Nat.reduceLT,Nat.reduceLeDiff,Nat.reduceEqDiff,reduceCtorEq,List.reduceReplicate,Int.reduceToNat,Int.reduceLE,Int.reduceLT]))
  all_goals first|done|rfl|exact .inl rfl|trace_state
 intro φ2 a2 W2 h2;refine wpIn_block (wpIn_loop_rounds 1 ?_);rw[roundsIn_succ];refine wpIn_block (wpIn_seq (pieceIn (X:=eachX Tp W Nb (box0_lt hb0)) (r:=none) ⟨⟨38,[(0,yv ly),(1,box0),(5,.v (.bool false))],γ⟩,[]⟩ (by kernel_rfl) rfl h2 ?_ ?_))
 ·show kwp Tp _ _ _
  simp only[box0,yv,evS,tyS,Nat.reduceLT,Nat.reduceEqDiff,reduceCtorEq];refine CallK.intro b31 rfl next_nil ?_;simp only[TokD.av,tokA,wkQ_normal,zeroT,evS,tyS,Nat.reduceAdd,Nat.reduceLT,Nat.reduceLeDiff,Nat.reduceEqDiff,reduceCtorEq]
  (repeat' (first|(with_reducible refine aI ?_ ?_)|(first|(first|refine gF ?_ ?_|refine gT ?_ ?_|refine cI ?_ ?_|refine pI ?_ ?_)<;>intro h|(refine dI ?_;have h:=trivial))<;>simp only[h,evS,tyS,Bv,Bf,Nat.reduceAdd,Nat.reduceSub,Nat.reduceMul,Nat.reduceLT,Nat.reduceLeDiff,Nat.reduceEqDiff,reduceCtorEq,List.reduceReplicate,Int.reduceToNat,Int.reduceLE,Int.reduceLT]))
  all_goals first|done|rfl|exact .inl rfl|exact .inr ⟨by simp[okRefL,okRef,yv,box0],rfl⟩|trace_state
 intro φ3 a3 W3 h3;refine wpIn_seq (wpIn_seq (pieceIn (X:=eachX Tp W Nb (box0_lt hb0)) (r:=none) ⟨⟨38,[(32,.v (.bool true))],γ⟩,[]⟩ (by kernel_rfl) rfl h3 ?_ ?_))
 ·show kwp Tp _ _ _
  simp only[yv,box0,wkQ_normal,evS,Bf,Nat.reduceLT,Nat.reduceEqDiff,reduceCtorEq]
  (repeat' (first|(with_reducible refine aI ?_ ?_)|(first|(first|refine gF ?_ ?_|refine gT ?_ ?_|refine cI ?_ ?_|refine pI ?_ ?_)<;>intro h|(refine dI ?_;have h:=trivial))<;>simp only[h,evS,tyS,Bv,Bf,Nat.reduceAdd,Nat.reduceSub,Nat.reduceMul,Nat.reduceLT,Nat.reduceLeDiff,Nat.reduceEqDiff,reduceCtorEq,List.reduceReplicate,Int.reduceToNat,Int.reduceLE,Int.reduceLT]))
  all_goals first|rfl|exact .inl rfl|trace_state
 ·intro φ4 a4 W4 h4;refine wpIn_cond_true (h4.getv rfl) (wpIn_ret ?_);exact hret a4 W4 h4.defers (.inl (hJw 0 W W4 hJ0 h4.below))
def nilV:AV:=.v (.slice none 0 0)
def cloA(Nb:Nat):AV:=.v (.func (.func 182) #[] #[.pointer (some ⟨Nb,0,none⟩)])
def scan0L:List (Nat×AV):=[(0,nilV),(2,.ptr 0 0 0),(3,.ptr 1 0 0),(4,.ptr 2 0 0),(5,.ptr 3 0 0)]
def scan0S(γ:List (Nat×AV)):Slots:=⟨22,(8,nilV)::scan0L,γ⟩
def onlyQ(S:St):Post
 |.normal,s=>s=S
 |_,_=>False
set_option maxRecDepth 20000 in
theorem lexScan_nil(hγ2:GlW γ):Ev Tp γ 58 [.v (.slice none 0 0)] (.tup [.v (.slice none 0 0),.v (.int .i64 0),.v (.int .i64 0)]):=by
 refine Ev.of_wpM Tryz.func58 rfl ?_;intro X hP hc0 hXK hXdf a w hs;have hnt:Tryz.f58.ntmps=22:=by kernel_rfl
 rw[hnt]at hs;refine wpIn_seq (pieceP hP (r:=none) ⟨⟨22,[(0,nilV),(2,.ptr 0 0 0),(3,.ptr 1 0 0),(4,.ptr 2 0 0)],γ⟩,[⟨0,48,[.v (.slice none 0 0)]⟩,⟨0,3,[.v (.int .i64 0)]⟩,⟨0,26,[.v (.int .i64 0)]⟩]⟩ (by kernel_rfl) hc0 hs ?_ fun φ1 a1 w1 h1=>?_)
 ·simp only[startA,idxL,wkQ_normal,nilV,evS,tyS,Nat.reduceAdd,Nat.reduceSub,Nat.reduceLT,Nat.reduceEqDiff,reduceCtorEq]
  (repeat' (first|(with_reducible refine aI ?_ ?_)|(first|(first|refine gF ?_ ?_|refine gT ?_ ?_|refine cI ?_ ?_|refine pI ?_ ?_)<;>intro h|(refine dI ?_;have h:=trivial))<;>simp only[h,evS,tyS,Bv,Bf,Nat.reduceAdd,Nat.reduceSub,Nat.reduceMul,Nat.reduceLT,Nat.reduceLeDiff,Nat.reduceEqDiff,reduceCtorEq,List.reduceReplicate,Int.reduceToNat,Int.reduceLE,Int.reduceLT]))
  all_goals first|done|rfl|exact .inl rfl|trace_state
 refine wpIn_seq (pieceP hP (r:=none) ⟨⟨22,scan0L,γ⟩,base4 nilV⟩ (by kernel_rfl) hc0 h1 ?_ fun φ2 a2 w2 h2=>?_)
 ·simp only[scan0L,base4,wkQ_normal,nilV,evS,tyS,Nat.reduceAdd,Nat.reduceLT,Nat.reduceEqDiff,reduceCtorEq]
  (repeat' (first|(with_reducible refine aI ?_ ?_)|(first|(first|refine gF ?_ ?_|refine gT ?_ ?_|refine cI ?_ ?_|refine pI ?_ ?_)<;>intro h|(refine dI ?_;have h:=trivial))<;>simp only[h,evS,tyS,Bv,Bf,Nat.reduceAdd,Nat.reduceSub,Nat.reduceMul,Nat.reduceLT,Nat.reduceLeDiff,Nat.reduceEqDiff,reduceCtorEq,List.reduceReplicate,Int.reduceToNat,Int.reduceLE,Int.reduceLT]))
  all_goals first|done|rfl|exact .inl rfl|trace_state
 refine wpIn_seq (wpIn_seq (wpIn_region ?_));show wpOpsIn (Go.Ev.Fr none) 0 Tp _ _ ([0]++(1::[])) a2 w2;refine wpOpsIn_split _ _ _ _ (opsP hP ⟨scan0S γ,base4 nilV⟩ (by kernel_rfl) hc0 [_] [0] rfl h2 ?_ fun φ3 a3 w3 h3=>?_)
 ·simp only[scan0S,scan0L,base4,nilV,BH,BF,evS,Nat.reduceAdd,Nat.reduceLT,Nat.reduceEqDiff,reduceCtorEq]
  (repeat' (first|(with_reducible refine aI ?_ ?_)|(first|(first|refine gF ?_ ?_|refine gT ?_ ?_|refine cI ?_ ?_|refine pI ?_ ?_)<;>intro h|(refine dI ?_;have h:=trivial))<;>simp only[h,evS,tyS,Bv,Bf,Nat.reduceAdd,Nat.reduceSub,Nat.reduceMul,Nat.reduceLT,Nat.reduceLeDiff,Nat.reduceEqDiff,reduceCtorEq,List.reduceReplicate,Int.reduceToNat,Int.reduceLE,Int.reduceLT]))
  all_goals first|done|rfl|exact .inl rfl|trace_state
 rw[wpOpsIn_cons];have e8:a3.tmps.getD 8 undef=.slice none 0 0:=h3.getv rfl;refine wpOpIn_some rfl rfl (call_wpIn (vs:= #[.slice none 0 0]) rfl ?_ (enters_of Tryz.func112 (by kernel_rfl) rfl) (each13_nil w3) ?_)
 ·rw[List.map_toArray,BA,List.map_nil];show #[a3.tmps.getD 8 undef]=_;rw[e8]
 rintro e' w4 ⟨Nb,rfl,hbox,hNb,hbel⟩
 refine⟨_,rfl,?_⟩;have hput:=(h3.world hbel).put (some 9) (r:=cloA Nb) (u:=.func (.func 182) #[] #[.pointer (some ⟨Nb,0,none⟩)]) (by simp only[cloA,rel]);obtain⟨X1,hX1⟩:∃ X1,X1=X.with [(Nb,.cells #[.slice none 0 0] 37 (0,0))] [] none:=⟨_,rfl⟩;have hP1:X1.P=Tp:=by rw[hX1];exact hP
 have hc1:X1.c0=none:=by rw[hX1];rfl
 have h5:SR X1 φ3 ⟨⟨22,(9,cloA Nb)::(scan0S γ).l,γ⟩,base4 nilV⟩ (a3.put (some 9) (.func (.func 182) #[] #[.pointer (some ⟨Nb,0,none⟩)])) w4:=by
  rw[hX1];refine hput.move (Below.refl _ _) (fun r _=>.inl rfl) (by rw[hput.defers,hXdf]) hput.len hput.gl_le (fun c' hc t=>hput.slots_le c' hc t) ?_ ?_ (fun c c' h=>by cases h)
  ·intro p hp;simp only[Bj]at hp;subst hp;exact hbox
  ·intro p hp hm;simp only[Bj]at hp;subst hp;have:=(h3.rng _ hm).2
   omega
 show Code.wpIn (Go.Ev.Fr none) 0 Tp _ _ (a3.put (some 9) (.func (.func 182) #[] #[.pointer (some ⟨Nb,0,none⟩)])) w4
 generalize (a3.put (some 9) (.func (.func 182) #[] #[.pointer (some ⟨Nb,0,none⟩)]))=a4 at h5⊢;have hg:a4.eval (.tmp 9)=.func (.func 182) #[] #[.pointer (some ⟨Nb,0,none⟩)]:=h5.getv rfl
 refine wpIn_block (wpIn_mono (range_ruleP (X:=X1) (Q:=onlyQ ⟨scan0S γ,base4 nilV⟩) hP1 h5 hc1 (by kernel_rfl) (by kernel_rfl) hg (enters_of Tryz.func182 (by kernel_rfl) rfl) 0 (fun _=>(.nilFunc,.nilFunc)) (each_seq0 hγ2 Nb _)
  (scan0S γ) (fun _=>base4 nilV) (fun _=>True) trivial ?_ ?_ (fun _=>.bad) (fun _=>.bad) (fun k hk=>by omega) (fun k hk=>by omega) (fun _=>rfl)) ?_)
 ·simp only[scan0S,scan0L,base4,nilV,evS,Nat.reduceAdd,Nat.reduceEqDiff,reduceCtorEq]
  (repeat' (first|(with_reducible refine aI ?_ ?_)|(first|(first|refine gF ?_ ?_|refine gT ?_ ?_|refine cI ?_ ?_|refine pI ?_ ?_)<;>intro h|(refine dI ?_;have h:=trivial))<;>simp only[h,evS,tyS,Bv,Bf,Nat.reduceAdd,Nat.reduceSub,Nat.reduceMul,Nat.reduceLT,Nat.reduceLeDiff,Nat.reduceEqDiff,reduceCtorEq,List.reduceReplicate,Int.reduceToNat,Int.reduceLE,Int.reduceLT]))
  all_goals first|done|rfl|exact .inl rfl|trace_state
 ·intro X' φ' k a' W hP' hG hB hK ht hsr;exact⟨⟨_,hK (Nb,_) (by rw[hX1];exact List.mem_cons_self)⟩,gl_of_rel (c:=cx X' φ' (base4 nilV) W) rfl (fun r hr=>hr.1) (fun k=>(hsr.gl k).2)⟩
 ·rintro e a5 w5 ⟨D,φ5,st5,⟨hD,hDK⟩,h6,hq⟩
  cases e with
  |normal=>
   obtain rfl:st5=⟨scan0S γ,base4 nilV⟩:=hq;have t25:aggT Tp 26=some false:=by kernel_rfl
   refine wpIn_mono (kwp_soundP (X:=X1.marked D) (r:=none) hP1 _ (retQ (.tup [.v (.slice none 0 0),.v (.int .i64 0),.v (.int .i64 0)])) (by kernel_rfl) h6 ?_) ?_
   ·simp only[scan0S,scan0L,base4,nilV,retQ_ret,t25,evS,tyS,Nat.reduceLT,Nat.reduceLeDiff,Nat.reduceEqDiff,reduceCtorEq]
    (repeat' (first|(with_reducible refine aI ?_ ?_)|(first|(first|refine gF ?_ ?_|refine gT ?_ ?_|refine cI ?_ ?_|refine pI ?_ ?_)<;>intro h|(refine dI ?_;have h:=trivial))<;>simp only[h,retQ_ret,t25,evS,tyS,Bv,Bf,Nat.reduceAdd,Nat.reduceSub,Nat.reduceMul,Nat.reduceLT,Nat.reduceLeDiff,Nat.reduceEqDiff,reduceCtorEq,List.reduceReplicate,Int.reduceToNat,Int.reduceLE,Int.reduceLT]))
    all_goals first|done|rfl|trace_state
   ·rintro e a6 w6 ⟨φ6,st6,h7,hq6⟩
    cases e with
    |ret=>
     refine⟨[D],φ6,st6,by simp,fun D' h=>by rw[Bj.1 h];rw[hX1]at hD;exact hD,?_,endS_endA hq6⟩;rw[hX1]at h7;have:X.marks [D]=X.with [(D,Obj.deferred (some []))] [markD D] none:=by simp[Fix.marks,hXK,hXdf]
     rw[this];exact SR.fewer (X:=X) (K:=(D,Obj.deferred (some []))::[(Nb,.cells #[.slice none 0 0] 37 (0,0))]) h7 (fun p hp=>by rw[Bj.1 hp];simp)
    |_=>exact hq6.elim
  |_=>exact hq.elim
theorem scanA_nil:scanA []=.tup [.v (.slice none 0 0),.v (.int .i64 0),.v (.int .i64 0)]:=by
 have e:eachItems []=[]:=by
  unfold eachItems;rw[if_neg (by decide)];show itemsF _ [] 0=[];unfold itemsF
  rfl
 unfold scanA;rw[e];rfl
open Go Go.Ev
set_option maxRecDepth 20000
theorem parse8_nil(hγ:Gl γ)(hγ2:GlW γ):Ev Tp γ 38 [.v (.slice none 0 0)] (progOA []):=by
 have e37:elemT Tp 37=some 5:=by kernel_rfl
 exact parse8_of hγ hγ2 _ [] rfl (by rw[scanA_nil];exact lexScan_nil hγ2) (fun s=>by simp only[lenS,e37];rfl)
def pickK(ps:List Int)(k:Nat):Int:=match ps[k]? with
 |some p=>p.tmod 4
 |none=>0
def pickG(ps:List Int)(k:Nat):List UInt8:=if pickK ps k=1 then [9,10]else if pickK ps k=2 then comL else [32]
theorem pickG_ok(ps:List Int)(k:Nat):GapG (pickG ps k):=by
 unfold pickG
 split
 ·exact gapG2
 ·split
  ·exact gapG3
  ·exact gapG1
theorem pickG_len(ps:List Int)(k:Nat):(pickG ps k).length≤12:=by
 unfold pickG
 split
 ·decide
 ·split<;>decide
theorem other_len(l:List UInt8){g:Nat→List UInt8}(hg:∀ k,(g k).length≤12):∀ (T:List (TokD×Nat)) (k:Nat),(otherF l g k T).length≤T.length * (12+l.length)
 |[],k=>by simp[otherF]
 |x::T,k=>by
  have h1:=hg k;have h2:=other_len l hg T (k+1);have h3:((l.drop x.2).take x.1.size).length≤l.length:=by rw[Bh,Bd];omega
  rw[otherF,Bp,Bp,BC,Nat.succ_mul]
  omega
def intsC(ps:List Int):List AV:=ps.map intC
def IntsA(y:AV)(ps:List Int):Prop:=(y=.v (.slice none 0 0)∧ps=[])∨∃ b,y=.sl b ps.length ps.length (intsC ps)
def TxtA(x:AV)(l:List UInt8):Prop:=(x=.v (.slice none 0 0)∧l=[])∨∃ b,x=.sl b l.length l.length (l.map byteC)
def bkS(γ:List (Nat×AV))(x y LA:AV)(a:Nat×AV×List ABlk):St:=⟨⟨112,[(0,x),(1,y),(5,LA),(11,a.2.1),(12,.v (.int .i64 (a.1:Int)))],γ⟩,a.2.2⟩
def OthAt(h:List ABlk)(A:AV)(o:List UInt8):Prop:=(A=.v (.slice none 0 0)∧o=[])∨∃ j ver,A=.own j ver o.length∧h[j]?=some ⟨ver,5,o.map byteC⟩
theorem pre_end{l:List UInt8}:∀ {T:List (TokD×Nat)} {i j:Nat},Pre l i T j→∀ x∈T,x.2+x.1.size≤l.length
 |[],i,j,h,x,hx=>by cases hx
 |y::T,i,j,h,x,hx=>by
  rcases BI.1 hx with rfl|hx
  ·exact (head_size2 h.2.1 h.2.2.1).2
  ·exact pre_end h.2.2.2 x hx
theorem toks_end{l:List UInt8}{T:List (TokD×Nat)}(h:okToks l=some T):l.length≤32768∧∀ x∈T,x.2+x.1.size≤l.length:=by
 rcases toks_cases l with⟨_,e,_⟩|⟨h1,T1,j,hp,_,e⟩|⟨_,T1,j,er,_,_,_,e,_⟩
 ·rw[e]at h;cases h
 ·rw[e]at h;cases h;exact⟨h1,pre_end hp⟩
 ·rw[e]at h;cases h
theorem listC_sz{L:List (TokD×Nat)}{q:Nat}{x:TokD×Nat}(h:L[q]?=some x):(listCells L)[q * 6+5]?=some (.v (.int .i64 (x.1.size:Int))):=by
 have h2:(L.map tkOf)[q]?=some (tkOf x):=by rw[Bm,h];rfl
 exact (LAt.at (cs:=listCells L) (by rw[tks_cells];exact BB) h2).2.2.2.2.2
theorem other_next(l:List UInt8)(g:Nat→List UInt8){T:List (TokD×Nat)}{k:Nat}{t:TokD×Nat}(h:T[k]?=some t):otherF l g 0 (T.take (k+1))=otherF l g 0 (T.take k)++g k++(l.drop t.2).take t.1.size:=by
 have hk:k<T.length:=(Bs.1 h).1;have e:T.take (k+1)=T.take k++[t]:=by rw[List.take_add_one,h];rfl
 rw[e,otherF_app,Bh,Nat.min_eq_left (by omega),Nat.zero_add,otherF,otherF,BS,Bo]
theorem declBlanks_ev(hγ:Gl γ)(hγ2:GlW γ){x y:AV}{l:List UInt8}{ps:List Int}(hx:TxtA x l)(hy:IntsA y ps)(hl:l.length≤140737488351232):Ev Tp γ 9 [x,y] (.v (.bool true)):=by
 have hX:TxtQ x l:=hx.elim (fun h=>by rw[h.1,h.2];exact txt_nil) fun⟨b,h⟩=>by rw[h];exact txt_sl b l
 obtain⟨⟨px,hpx,sx⟩,lx⟩:=hX;have hsc:Ev Tp γ 41 [x] (rscanA l):=hx.elim (fun h=>by rw[h.1,h.2];exact refScan_nil) fun⟨b,h⟩=>by rw[h];exact refScan_ev b l hl
 have hxt:treeL [x]=true:=hx.elim (fun h=>by rw[h.1];rfl) fun⟨b,h⟩=>by rw[h];rfl
 have hp1:=parse8_ev hγ hγ2 true l hl;have hn1:=noBor_progO l;have hc1:=progs_ev (γ:=γ) (progO l).1 (progO_bnd l);have p1:∀ l,oneA (tagsA l)=true∧flat (tagsA l)=some [tagsA l]:=fun l=>by cases l<;>exact⟨rfl,rfl⟩
 have p2:∀ l,oneA (kindsA l)=true∧flat (kindsA l)=some [kindsA l]:=fun l=>by cases l<;>exact⟨rfl,rfl⟩
 obtain⟨o1,g1⟩:=p1 (progO l).1.tags;obtain⟨o2,g2⟩:=p2 (progO l).1.kinds;refine Ev.ofE Tryz.func9 rfl ?_;simp only[Tryz.f9,evE,Nat.reduceAdd,Nat.reduceSub,Nat.reduceLT];refine CallE.pure (CallK.intro c40 rfl (awake8_ev hγ hγ2) ?_);simp only[evE,Bv,Nat.reduceLT,Nat.reduceEqDiff,reduceCtorEq];refine CallE.pure (CallK.intro c41 hxt hsc ?_);cases e:okToks l with
 |none=>
  obtain⟨L,z,hz,hk,hr⟩:=rscan_noToks e;have d1:(z.2 != 0)=true:=by simpa using hk
  have z1:((progO l).2.2 != 0)=true:=by simpa using blanks_none e
  rw[hr];simp only[tyL,d1,sx,evE,Nat.reduceLT,Nat.reduceEqDiff,reduceCtorEq,List.reduceReplicate];refine⟨⟨hpx,all_one_map l,by omega⟩,CallE.pure (CallK.lend c38 _ (lend1 (k:=⟨1,5,l.map byteC⟩) rfl BB (bytes_v l)) hp1 hn1 ?_)⟩;simp only[tyD,progOA,Pg.av,Pg.cells,intC,o1,o2,z1,evE,Nat.reduceAdd,Nat.reduceLT,Nat.reduceLeDiff,Nat.reduceEqDiff,reduceCtorEq]
 |some T=>
  have z0:((0:Int) != 0)=false:=rfl;have fl:=flat_list T;have fo:=one_list T;have e47:elemT Tp 47=some 54:=by kernel_rfl
  have ll:∀ s,lenS Tp 47 s (listA T)=some (.v (.int .i64 T.length)):=fun s=>by
   cases T<;>(simp only[listA,lenS,e47];rfl)
  have ly:∀ s,lenS Tp 78 s y=some (.v (.int .i64 ps.length)):=fun s=>by
   have e78:elemT Tp 78=some 3:=by kernel_rfl
   rcases hy with⟨rfl,rfl⟩|⟨b,rfl⟩<;>(simp only[lenS,e78];rfl)
  have hT:=small_toks e;have oB:∀ c,oneA (byteC c)=true:=fun _=>rfl
  have app9:appT Tp 37 9=some (5,1,1):=by kernel_rfl
  rw[rscan_okToks e];simp only[z0,evE,Nat.reduceLT,Nat.reduceEqDiff,reduceCtorEq];refine LoopE.intro (bkS γ x y (listA T)) (fun a=>a.1≤T.length∧OthAt a.2.2 a.2.1 (otherF l (pickG ps) 0 (T.take a.1))) (fun a=>T.length-a.1) (0,.v (.slice none 0 0),_) ⟨rfl,rfl,⟨rfl,rfl,rfl,rfl,rfl,trivial⟩,rfl⟩ ⟨BN _,.inl ⟨rfl,rfl⟩⟩ (fun a ha=>?_);obtain⟨k,A,H⟩:=a;obtain⟨hk,hA⟩:=ha;simp only at hk hA
  by_cases hlt:k<T.length
  ·have d2:decide (k<T.length)=true:=decide_eq_true hlt;obtain⟨t,htk⟩:∃ t,T[k]?=some t:=⟨T[k],by simp[hlt]⟩;have hl2:=(toks_end e).1;have ht2:=(toks_end e).2 t (List.mem_of_getElem? htk);have hon:=other_len l (pickG_len ps) (T.take k) 0;have hok:(T.take k).length=k:=by rw[Bh];omega
   have hom:k * (12+l.length)≤32769 * 32780:=Nat.mul_le_mul (by omega) (by omega);rw[hok]at hon;have hnx:=other_next l (pickG ps) htk;have q4:=listC_at htk;have q5:=listC_sz htk;obtain⟨b,rfl⟩:∃ b,x=.sl b l.length l.length (l.map byteC):=hx.elim (fun h=>by have:=toks_pos e t (List.mem_of_getElem? htk);rw[h.2]at this;simp at this) id;have hL:listA T=.sl false T.length T.length (listCells T):=listA_sl htk;rw[hL]at ll;rw[hL];have w2:IntKind.i64.wrap ((t.2:Int)+(t.1.size:Int))=((t.2+t.1.size:Nat):Int):=(i64w (by omega) (by omega)).trans (by omega);have w3:IntKind.i64.wrap ((k:Int)+1)=((k+1:Nat):Int):=(i64w (by omega) (by omega)).trans (by omega);have n0:∀ (x:ABlk) l,(H++x::l)[H.length]?=some x:=fun x l=>by simp
   have n1:∀ (x y:ABlk) l,(H++x::y::l)[H.length+1]?=some y:=fun x y l=>by simp
   have n2:∀ (x y:ABlk) l,(H++x::l).set H.length y=H++y::l:=fun x y l=>by simp
   have n3:∀ (x y z:ABlk) l,(H++x::y::l).set (H.length+1) z=H++x::z::l:=fun x y z l=>by rw[BV _ _ (by omega),show H.length+1-H.length=1 by omega];rfl
   have pn:t.2+t.1.size-t.2=((l.drop t.2).take t.1.size).length:=by rw[Bh,Bd];omega
   have pl:t.2+t.1.size-t.2≤((l.map byteC).drop t.2).length:=by rw[Bd,Bk];omega
   have pc:((l.map byteC).drop t.2).take (t.2+t.1.size-t.2)=((l.drop t.2).take t.1.size).map byteC:=by rw[Nat.add_sub_cancel_left,←List.map_drop,←List.map_take]
   have pa:(((l.map byteC).drop t.2).take (t.2+t.1.size-t.2)).all oneA=true:=by rw[pc];exact all_one_map _
   generalize otherF l (pickG ps) 0 (T.take k)=o at *
   by_cases hkp:k<ps.length
   ·have d3:decide (k<ps.length)=true:=decide_eq_true hkp;obtain⟨b',rfl⟩:∃ b,y=.sl b ps.length ps.length (intsC ps):=hy.elim (fun h=>by rw[h.2]at hkp;exact absurd hkp (by simp)) id;obtain⟨p,hpk⟩:∃ p,ps[k]?=some p:=⟨ps[k],by simp[hkp]⟩;have hp6:(intsC ps)[k]?=some (.v (.int .i64 p)):=by unfold intsC;rw[Bm,hpk];rfl
    have hpK:pickK ps k=p.tmod 4:=by unfold pickK;rw[hpk]
    by_cases m1:p.tmod 4=1
    ·have hG:pickG ps k=[9,10]:=by unfold pickG;rw[hpK,if_pos m1]
     have b1:(p.tmod 4==1)=true:=by simpa using m1
     rw[hG]at hnx
     rcases hA with⟨rfl,rfl⟩|⟨j,ver,rfl,hj⟩
     ·simp only[bkS,tyL,tyP8,ll,ly,d2,d3,hp6,b1,Bool.and_self,Bo,Bc,Bi,n0,evE,tyX,Nat.reduceAdd,Nat.reduceLT,Nat.reduceLeDiff,Nat.reduceEqDiff,reduceCtorEq,List.reduceReplicate]
      repeat' (with_reducible refine aI ?_ ?_)
      all_goals try (first|exact hkp|omega)
      refine dI ?_;simp only[tyL,ty47,tyR3,q4,q5,w2,w3,Bc,Bi,n1,n3,evE,tyX,Nat.reduceAdd,Nat.reduceLT,Nat.reduceLeDiff,Nat.reduceEqDiff,reduceCtorEq];refine⟨hlt,hlt,hlt,⟨BL _,by omega,by omega⟩,⟨pl,pa,by omega⟩,loopCE.intro (k+1,_,_) ⟨hlt,.inr ⟨H.length+1,1,?_,?_⟩⟩ ⟨rfl,rfl,⟨rfl,rfl,rfl,rfl,rfl,trivial⟩,rfl⟩ (by show T.length-(k+1)<T.length-k;omega)⟩
      ·rw[hnx,pn];first|(simp[];done)|(simp[];omega)
      ·rw[hnx];first|(simp[];done)|(simp[];exact⟨rfl,rfl⟩)|(simp[comL];rfl)
     ·have hjl:j<H.length:=(Bs.1 hj).1;have g1:∀ l',(H++l')[j]?=_:=fun l'=>(Ba hjl).trans hj
      have n5:∀ l' x,((H++l').set j x)[j]?=some x:=fun l' x=>Be (by simp;omega)
      have n6:∀ x,(H.set j x)[j]?=some x:=fun x=>Be hjl
      have q6:(o.map byteC).take o.length=o.map byteC:=Bt (by simp);have q7:(o.map byteC++[AV.v (.int .u8 9),AV.v (.int .u8 10)]).take (o.length+2)=o.map byteC++[AV.v (.int .u8 9),AV.v (.int .u8 10)]:=Bt (by simp);simp only[bkS,tyL,tyP8,ll,ly,d2,d3,hp6,b1,Bool.and_self,Bc,Bi,g1,n0,q6,evE,tyX,Nat.reduceAdd,Nat.reduceLT,Nat.reduceLeDiff,Nat.reduceEqDiff,reduceCtorEq,List.reduceReplicate]
      repeat' (with_reducible refine aI ?_ ?_)
      all_goals try (first|exact hkp|omega)
      refine dI ?_;simp only[tyL,ty47,tyR3,q4,q5,w2,w3,Bo,Bc,Bi,q7,n5,evE,tyX,Nat.reduceAdd,Nat.reduceLT,Nat.reduceLeDiff,Nat.reduceEqDiff,reduceCtorEq];refine⟨hlt,hlt,hlt,⟨BL _,by omega,by omega⟩,⟨pl,pa,by omega⟩,loopCE.intro (k+1,_,_) ⟨hlt,.inr ⟨j,ver+1+1,?_,?_⟩⟩ ⟨rfl,rfl,⟨rfl,rfl,rfl,rfl,rfl,trivial⟩,rfl⟩ (by show T.length-(k+1)<T.length-k;omega)⟩
      ·rw[hnx,pn];first|(simp[];done)|(simp[];omega)
      ·rw[hnx];refine (Be (by simp;omega)).trans ?_;first|(simp[];done)|(simp[];exact⟨rfl,rfl⟩)|(simp[comL];rfl)
    have b1:(p.tmod 4==1)=false:=by simpa using m1
    by_cases m2:p.tmod 4=2
    ·have hG:pickG ps k=comL:=by unfold pickG;rw[hpK,if_neg m1,if_pos m2]
     have b2:(p.tmod 4==2)=true:=by simpa using m2
     rw[hG]at hnx
     rcases hA with⟨rfl,rfl⟩|⟨j,ver,rfl,hj⟩
     ·simp only[bkS,tyP8,ll,ly,d2,d3,hp6,b1,b2,app9,oB,Bool.and_self,evE,tyX,Nat.reduceAdd,Nat.reduceLT,Nat.reduceLeDiff,Nat.reduceEqDiff,reduceCtorEq]
      repeat' (with_reducible refine aI ?_ ?_)
      all_goals try (first|exact hkp|omega)
      refine dI ?_;simp only[tyL,ty47,tyR3,q4,q5,w2,w3,Bc,Bi,n0,n2,evE,tyX,Nat.reduceAdd,Nat.reduceLT,Nat.reduceLeDiff,Nat.reduceEqDiff,reduceCtorEq];refine⟨hlt,hlt,hlt,⟨BL _,by omega,by omega⟩,⟨pl,pa,by omega⟩,loopCE.intro (k+1,_,_) ⟨hlt,.inr ⟨H.length,1,?_,?_⟩⟩ ⟨rfl,rfl,⟨rfl,rfl,rfl,rfl,rfl,trivial⟩,rfl⟩ (by show T.length-(k+1)<T.length-k;omega)⟩
      ·rw[hnx,pn];first|(simp[comL];done)|(simp[comL];omega)
      ·rw[hnx];first|(simp[comL];done)|(simp[comL];exact⟨rfl,rfl⟩)|(simp[comL];rfl)
     ·have hjl:j<H.length:=(Bs.1 hj).1;have g1:∀ l',(H++l')[j]?=_:=fun l'=>(Ba hjl).trans hj
      have n5:∀ l' x,((H++l').set j x)[j]?=some x:=fun l' x=>Be (by simp;omega)
      have n6:∀ x,(H.set j x)[j]?=some x:=fun x=>Be hjl
      have q6:(o.map byteC).take o.length=o.map byteC:=Bt (by simp);have q7:(o.map byteC++[byteC 32,byteC 35,byteC 32,byteC 115,byteC 111,byteC 32,byteC 105,byteC 116,byteC 32,byteC 105,byteC 115,byteC 10]).take (o.length+12)=o.map byteC++[byteC 32,byteC 35,byteC 32,byteC 115,byteC 111,byteC 32,byteC 105,byteC 116,byteC 32,byteC 105,byteC 115,byteC 10]:=Bt (by simp);simp only[bkS,tyP8,ll,ly,d2,d3,hp6,b1,b2,app9,oB,Bool.and_self,q6,hj,evE,tyX,Nat.reduceAdd,Nat.reduceLT,Nat.reduceLeDiff,Nat.reduceEqDiff,reduceCtorEq]
      repeat' (with_reducible refine aI ?_ ?_)
      all_goals try (first|exact hkp|omega)
      refine dI ?_;simp only[tyL,ty47,tyR3,q4,q5,w2,w3,Bo,Bc,Bi,q7,n6,evE,tyX,Nat.reduceAdd,Nat.reduceLT,Nat.reduceLeDiff,Nat.reduceEqDiff,reduceCtorEq];refine⟨hlt,hlt,hlt,⟨BL _,by omega,by omega⟩,⟨pl,pa,by omega⟩,loopCE.intro (k+1,_,_) ⟨hlt,.inr ⟨j,ver+1+1,?_,?_⟩⟩ ⟨rfl,rfl,⟨rfl,rfl,rfl,rfl,rfl,trivial⟩,rfl⟩ (by show T.length-(k+1)<T.length-k;omega)⟩
      ·rw[hnx,pn];first|(simp[comL];done)|(simp[comL];omega)
      ·rw[hnx];refine (Be (by simp;omega)).trans ?_;first|(simp[comL];done)|(simp[comL];exact⟨rfl,rfl⟩)|(simp[comL];rfl)
    have b2:(p.tmod 4==2)=false:=by simpa using m2
    have hG:pickG ps k=[32]:=by unfold pickG;rw[hpK,if_neg m1,if_neg m2]
    rw[hG]at hnx
    rcases hA with⟨rfl,rfl⟩|⟨j,ver,rfl,hj⟩
    ·simp only[bkS,tyL,tyP8,ll,ly,d2,d3,hp6,b1,b2,Bool.and_self,Bo,Bc,Bi,n0,evE,tyX,Nat.reduceLT,Nat.reduceLeDiff,Nat.reduceEqDiff,reduceCtorEq,List.reduceReplicate]
     repeat' (with_reducible refine aI ?_ ?_)
     all_goals try (first|exact hkp|omega)
     refine dI ?_;simp only[tyL,ty47,tyR3,q4,q5,w2,w3,Bc,Bi,n1,n3,evE,tyX,Nat.reduceLT,Nat.reduceLeDiff,Nat.reduceEqDiff,reduceCtorEq];refine⟨hlt,hlt,hlt,⟨BL _,by omega,by omega⟩,⟨pl,pa,by omega⟩,loopCE.intro (k+1,_,_) ⟨hlt,.inr ⟨H.length+1,1,?_,?_⟩⟩ ⟨rfl,rfl,⟨rfl,rfl,rfl,rfl,rfl,trivial⟩,rfl⟩ (by show T.length-(k+1)<T.length-k;omega)⟩
     ·rw[hnx,pn];first|(simp[];done)|(simp[];omega)
     ·rw[hnx];first|(simp[];done)|(simp[];exact⟨rfl,rfl⟩)|(simp[];rfl)
    ·have hjl:j<H.length:=(Bs.1 hj).1;have g1:∀ l',(H++l')[j]?=_:=fun l'=>(Ba hjl).trans hj
     have n5:∀ l' x,((H++l').set j x)[j]?=some x:=fun l' x=>Be (by simp;omega)
     have n6:∀ x,(H.set j x)[j]?=some x:=fun x=>Be hjl
     have q6:(o.map byteC).take o.length=o.map byteC:=Bt (by simp);have q7:(o.map byteC++[AV.v (.int .u8 32)]).take (o.length+1)=o.map byteC++[AV.v (.int .u8 32)]:=Bt (by simp);simp only[bkS,tyL,tyP8,ll,ly,d2,d3,hp6,b1,b2,Bool.and_self,g1,n0,q6,evE,tyX,Nat.reduceLT,Nat.reduceLeDiff,Nat.reduceEqDiff,reduceCtorEq,List.reduceReplicate]
     repeat' (with_reducible refine aI ?_ ?_)
     all_goals try (first|exact hkp|omega)
     refine dI ?_;simp only[tyL,ty47,tyR3,q4,q5,w2,w3,Bo,Bc,Bi,q7,n5,evE,tyX,Nat.reduceLT,Nat.reduceLeDiff,Nat.reduceEqDiff,reduceCtorEq];refine⟨hlt,hlt,hlt,⟨BL _,by omega,by omega⟩,⟨pl,pa,by omega⟩,loopCE.intro (k+1,_,_) ⟨hlt,.inr ⟨j,ver+1+1,?_,?_⟩⟩ ⟨rfl,rfl,⟨rfl,rfl,rfl,rfl,rfl,trivial⟩,rfl⟩ (by show T.length-(k+1)<T.length-k;omega)⟩
     ·rw[hnx,pn];first|(simp[];done)|(simp[];omega)
     ·rw[hnx];refine (Be (by simp;omega)).trans ?_;first|(simp[];done)|(simp[];exact⟨rfl,rfl⟩)|(simp[];rfl)
   have d3:decide (k<ps.length)=false:=decide_eq_false hkp;have hpK:pickK ps k=0:=by unfold pickK;rw[Bq (by omega)]
   have hG:pickG ps k=[32]:=by unfold pickG;rw[hpK];rfl
   rw[hG]at hnx;have b1:((0:Int)==1)=false:=rfl;have b2:((0:Int)==2)=false:=rfl
   rcases hA with⟨rfl,rfl⟩|⟨j,ver,rfl,hj⟩
   ·simp only[bkS,tyL,ll,ly,d2,d3,b1,b2,Bool.and_self,Bo,Bc,Bi,n0,evE,Nat.reduceLT,Nat.reduceLeDiff,Nat.reduceEqDiff,reduceCtorEq,List.reduceReplicate]
    repeat' (with_reducible refine aI ?_ ?_)
    all_goals try (first|exact hkp|omega)
    refine dI ?_;simp only[tyL,ty47,tyR3,q4,q5,w2,w3,Bc,Bi,n1,n3,evE,tyX,Nat.reduceLT,Nat.reduceLeDiff,Nat.reduceEqDiff,reduceCtorEq];refine⟨hlt,hlt,hlt,⟨BL _,by omega,by omega⟩,⟨pl,pa,by omega⟩,loopCE.intro (k+1,_,_) ⟨hlt,.inr ⟨H.length+1,1,?_,?_⟩⟩ ⟨rfl,rfl,⟨rfl,rfl,rfl,rfl,rfl,trivial⟩,rfl⟩ (by show T.length-(k+1)<T.length-k;omega)⟩
    ·rw[hnx,pn];first|(simp[];done)|(simp[];omega)
    ·rw[hnx];first|(simp[];done)|(simp[];exact⟨rfl,rfl⟩)|(simp[];rfl)
   ·have hjl:j<H.length:=(Bs.1 hj).1;have g1:∀ l',(H++l')[j]?=_:=fun l'=>(Ba hjl).trans hj
    have n5:∀ l' x,((H++l').set j x)[j]?=some x:=fun l' x=>Be (by simp;omega)
    have n6:∀ x,(H.set j x)[j]?=some x:=fun x=>Be hjl
    have q6:(o.map byteC).take o.length=o.map byteC:=Bt (by simp);have q7:(o.map byteC++[AV.v (.int .u8 32)]).take (o.length+1)=o.map byteC++[AV.v (.int .u8 32)]:=Bt (by simp);simp only[bkS,tyL,ll,ly,d2,d3,b1,b2,Bool.and_self,g1,n0,q6,evE,Nat.reduceLT,Nat.reduceLeDiff,Nat.reduceEqDiff,reduceCtorEq,List.reduceReplicate]
    repeat' (with_reducible refine aI ?_ ?_)
    all_goals try (first|exact hkp|omega)
    refine dI ?_;simp only[tyL,ty47,tyR3,q4,q5,w2,w3,Bo,Bc,Bi,q7,n5,evE,tyX,Nat.reduceLT,Nat.reduceLeDiff,Nat.reduceEqDiff,reduceCtorEq];refine⟨hlt,hlt,hlt,⟨BL _,by omega,by omega⟩,⟨pl,pa,by omega⟩,loopCE.intro (k+1,_,_) ⟨hlt,.inr ⟨j,ver+1+1,?_,?_⟩⟩ ⟨rfl,rfl,⟨rfl,rfl,rfl,rfl,rfl,trivial⟩,rfl⟩ (by show T.length-(k+1)<T.length-k;omega)⟩
    ·rw[hnx,pn];first|(simp[];done)|(simp[];omega)
    ·rw[hnx];refine (Be (by simp;omega)).trans ?_;first|(simp[];done)|(simp[];exact⟨rfl,rfl⟩)|(simp[];rfl)
  ·have d2:decide (k<T.length)=false:=decide_eq_false hlt;have ek:k=T.length:=by omega
   have hG:=pickG_ok ps;have hS:=fun h=>blanks_same (l:=l) hG e h
   have hon:=other_len l (pickG_len ps) T 0;have hl2:=(toks_end e).1;have hom:T.length * (12+l.length)≤32769 * 32780:=Nat.mul_le_mul (by omega) (by omega);have htk:T.take k=T:=by rw[ek];exact List.take_length
   rw[htk]at hA;have hp2:=parse8_ev hγ hγ2 true (otherF l (pickG ps) 0 T) (by omega);have hn2:=noBor_progO (otherF l (pickG ps) 0 T);generalize otherF l (pickG ps) 0 T=o at *;obtain⟨o3,g3⟩:=p1 (progO o).1.tags;obtain⟨o4,g4⟩:=p2 (progO o).1.kinds;have n0:∀ (x:ABlk) l,(H++x::l)[H.length]?=some x:=fun x l=>by simp
   have n1:∀ (x y:ABlk) l,(H++x::y::l)[H.length+1]?=some y:=fun x y l=>by simp
   have n2:∀ (x y:ABlk) l,(H++x::l).set H.length y=H++y::l:=fun x y l=>by simp
   have n3:∀ (x y z:ABlk) l,(H++x::y::l).set (H.length+1) z=H++x::z::l:=fun x y z l=>by rw[BV _ _ (by omega),show H.length+1-H.length=1 by omega];rfl
   have n4:∀ (x y z:ABlk) l,(H++x::y::z::l)[H.length+2]?=some z:=fun x y z l=>by simp
   have n7:∀ (x y z w:ABlk) l,(H++x::y::z::l).set (H.length+2) w=H++x::y::w::l:=fun x y z w l=>by rw[BV _ _ (by omega),show H.length+2-H.length=2 by omega];rfl
   have htr:treeL [(progO l).1.av,(progO l).1.av]=true:=by
    simp only[Pg.av,Pg.cells];generalize (progO l).1.tags=A;generalize (progO l).1.kinds=B;cases A<;>cases B<;>rfl
   simp only[Pg.av,Pg.cells]at htr hc1
   rcases hA with⟨rfl,rfl⟩|⟨j,ver,rfl,hj⟩
   ·obtain⟨h1,h2⟩:=hS (by decide);have zE:((progO l).2.2==(progO []).2.2)=true:=by rw[h2];simp
    simp only[bkS,tyL,ll,d2,sx,n0,n2,Bi,evE,Nat.reduceLT,Nat.reduceEqDiff,reduceCtorEq,List.reduceReplicate,Int.reduceLT];refine⟨⟨hpx,all_one_map l,by omega⟩,CallE.pure (CallK.lend c38 _ (lend1 (k:=⟨1,5,l.map byteC⟩) (by simp) BB (bytes_v l)) hp1 hn1 ?_)⟩;simp only[tyD,progOA,Pg.av,Pg.cells,intC,o1,o2,n1,n3,Bo,Bc,Bi,evE,Nat.reduceAdd,Nat.reduceLT,Nat.reduceLeDiff,Nat.reduceEqDiff,reduceCtorEq];refine CallE.pure (CallK.intro c38 rfl (parse8_nil hγ hγ2) ?_);simp only[tyD,progOA,Pg.av,Pg.cells,intC,o3,o4,zE,n4,n7,n1,Bo,Bc,Bi,evE,Nat.reduceAdd,Nat.reduceLT,Nat.reduceLeDiff,Nat.reduceEqDiff,reduceCtorEq];rw[h1];refine CallE.pure (CallK.intro c39 htr hc1 ?_);simp only[evE,Nat.reduceLT,Nat.reduceEqDiff,reduceCtorEq]
   ·have hjl:j<H.length:=(Bs.1 hj).1;have m1:∀ l',(H++l')[j]?=_:=fun l'=>(Ba hjl).trans hj
    by_cases hb:32768<o.length
    ·have d4:decide ((32768:Int)<(o.length:Int))=true:=decide_eq_true (by omega);simp only[bkS,tyL,ll,d2,d4,hj,evE,Nat.reduceLT,Nat.reduceEqDiff,reduceCtorEq]
    have d4:decide ((32768:Int)<(o.length:Int))=false:=decide_eq_false (by omega);obtain⟨h1,h2⟩:=hS (by omega);have zE:((progO l).2.2==(progO o).2.2)=true:=by rw[h2];simp
    simp only[bkS,tyL,ll,d2,d4,sx,hj,n0,n2,Bi,evE,Nat.reduceLT,Nat.reduceEqDiff,reduceCtorEq,List.reduceReplicate];refine⟨⟨hpx,all_one_map l,by omega⟩,CallE.pure (CallK.lend c38 _ (lend1 (k:=⟨1,5,l.map byteC⟩) (by simp) BB (bytes_v l)) hp1 hn1 ?_)⟩;simp only[tyD,progOA,Pg.av,Pg.cells,intC,o1,o2,n1,n3,Bo,Bc,Bi,evE,Nat.reduceAdd,Nat.reduceLT,Nat.reduceLeDiff,Nat.reduceEqDiff,reduceCtorEq];refine CallE.pure (CallK.lend c38 _ (lend1 (m1 _) BB (bytes_v o)) hp2 hn2 ?_);simp only[tyD,progOA,Pg.av,Pg.cells,intC,o3,o4,zE,n4,n7,n1,Bo,Bc,Bi,evE,Nat.reduceAdd,Nat.reduceLT,Nat.reduceLeDiff,Nat.reduceEqDiff,reduceCtorEq];rw[h1];refine CallE.pure (CallK.intro c39 htr hc1 ?_);simp only[evE,Nat.reduceLT,Nat.reduceEqDiff,reduceCtorEq]
open Go Go.Ev Go.Lib
open Go.ChangeShapes Go.WideShapes Go.ChangeAt Go.RowKit
open Go.ChangeMaps (open_string shut_string)
theorem own:ownKnob Tryz.prog.godebug=none:=by kernel_rfl
theorem laidOut:laidOutB Tp=true:=by kernel_rfl
abbrev laidL:List (String×DataW Unit):=[("math/bits.deBruijn32tab",Rows.laid_math_bits_deBruijn32tab),("math/bits.deBruijn64tab",Rows.laid_math_bits_deBruijn64tab),("internal/strconv.uint64pow10",Rows.laid_internal_strconv_uint64pow10),("strconv.ErrRange",Rows.laid_strconv_ErrRange),("strconv.ErrSyntax",Rows.laid_strconv_ErrSyntax)]
def bytesOfL:DataW Unit→List Value
 |.agg ds=>ds.map fun|.lit (.int k n)=>.int k n|_=>.nilIface
 |_=>[]
abbrev txtRange:ByteArray:={ data:= #[118,97,108,117,101,32,111,117,116,32,111,102,32,114,97,110,103,101] }
abbrev txtSyntax:ByteArray:={ data:= #[105,110,118,97,108,105,100,32,115,121,110,116,97,120] }
noncomputable abbrev N0:Nat:=(World.settled Tp default).heap.size
noncomputable def laidWorld(os:Os):World:=
 let N:=(World.settled Tp os).heap.size
 let w0:=World.holding Tp os ⟨#[.cells #[.string txtRange] 308,.cells #[.string txtSyntax] 308],#[],[]⟩
 let put (h:Array Obj) (g:Nat) (cs:Array Value):Array Obj:=h.modify g fun
  |.cells _ t frozen=>.cells cs t frozen
  |o=>o
 let h1:=put w0.heap 5 (bytesOfL Rows.laid_math_bits_deBruijn32tab).toArray
 let h2:=put h1 6 (bytesOfL Rows.laid_math_bits_deBruijn64tab).toArray
 let h3:=put h2 4 (bytesOfL Rows.laid_internal_strconv_uint64pow10).toArray
 let h4:=put h3 3 #[.iface 306 (.pointer (some ⟨N,0,none⟩))]
 let h5:=put h4 2 #[.iface 306 (.pointer (some ⟨N+1,0,none⟩))]
 {w0 with heap:=h5 }
theorem pieceLaid(os:Os)(args:Array Value):LaidIn Tp ((laidWorld os).forCall (fun _ _=>0) ⟨#[],args,[]⟩).memory laidL [5,6,4,3,N0,2,N0+1]:=
 LaidIn.of_run [5,6,4,3,N0,2,N0+1] 8 (by kernel_rfl) (by kernel_rfl) (by kernel_rfl) (by kernel_rfl)
theorem laid_met(os:Os)(args:Array Value):laidMet Tp laidL ((laidWorld os).forCall (fun _ _=>0) ⟨#[],args,[]⟩).memory:=(pieceLaid os args).met
theorem errRange_cell{W:World}(h:laidMet Tp laidL W):∃ te pe,W.cell? ⟨3,0,none⟩=some (.iface te pe):=by
 have gR:Tryz.prog.globalNamed "strconv.ErrRange" = some 3:=by kernel_rfl
 obtain⟨a,s,hv,_⟩:=laid_sentinel (n := "strconv.ErrRange") (nm := "*errors.errorString") (ti:=169) (tp:=306) (te:=308) (ts:=9) h.tail.tail.tail gR (by kernel_rfl) Tryz.underlying169
  (fun u hu=>typeName_ptr_named (nm := "errors.errorString") (by kernel_rfl) (by kernel_rfl) (by decide) u hu) Tryz.underlying306 Tryz.underlying308 rfl rfl Tryz.underlying9 (by kernel_rfl) (by kernel_rfl)
 exact⟨306,.pointer (some a),by simpa using World.var?_cell gR hv 0⟩
theorem int_of_shape{P:Program}{w:World}{g:Nat}{t:TypeId}{k:IntKind}{zero:Array Value}(h:w.ShapedOpen P)(hg:g<P.globals.size)
  (h0:((begin P (fun _ _=>0) default).world.heap[g]?).bind Obj.row?=some (zero,t)) (hz:zero.size=1)
  (hb:P.buildable t=true) (hc:P.cellTypes P.depth t=some [t]) (hu:P.underlying t=some (.int k)):∃ n,w.cell? ⟨g,0,none⟩=some (.int k n):=by
 obtain⟨cs,hh,hs,hr⟩:=h.1 g zero t hg h0;obtain⟨ts,hts,_,hall⟩:=hr hb;rw[hc]at hts;cases hts;have h1:0<cs.size:=by omega
 obtain⟨u,hu',hok⟩:=hall 0 cs[0] (by simp[h1]);have:u=t:=by simpa using hu'.symm
 subst this;have hcell:w.cell? ⟨g,0,none⟩=some cs[0]:=by simp[World.cell?,hh,h1]
 rw[hcell];unfold Cell.ok at hok;rw[hu]at hok;cases hv:cs[0]<;>rw[hv]at hok<;>first|exact hok.elim|(obtain⟨rfl,_⟩:=hok;exact⟨_,rfl⟩)
theorem maxLen_cell{W:World}(h:W.ShapedOpen Tp):∃ m,W.cell? ⟨1,0,none⟩=some (.int .i64 m):=
 int_of_shape (zero:= #[.int .i64 0]) h (of_decide_eq_true (by kernel_rfl)) (by kernel_rfl) rfl (by kernel_rfl) (by kernel_rfl) Tryz.underlying3
theorem okWide_sl{P:Program}{w:World}{r:Reach}{base:Nat}{t e:TypeId}{v:Value}(ht:P.underlying t=some (.slice e))(h:Value.okWide P w r base t v):
  v=.slice none 0 0∨∃ b off len cap,v=.slice (some ⟨b,off,none⟩) len cap∧len≤cap∧b<w.heap.size:=by
 simp only[Value.okWide,ht,Cell.okWide]at h;cases v<;>simp_all [Cell.ok]
 rename_i a len cap;cases a with
 |none=>left;cases len<;>cases cap<;>simp_all
 |some a=>
  right
  have h':len≤cap∧(cap:Int)≤9223372036854775807∧World.has P w r base a e cap:=h;obtain⟨h1,_,_,hs,row,cells,hsh,_⟩:=h';obtain⟨b,off,spot⟩:=a;simp only at hs hsh;subst hs;refine⟨b,off,len,cap,⟨rfl,rfl,rfl⟩,h1,?_⟩;unfold World.shape? at hsh
  by_cases hb:b<w.heap.size
  ·exact hb
  ·rw[BQ (by omega)]at hsh;cases hsh
theorem size_ints{H:Type}{enc:TypeId×Value→H}{P:Program}{W:World}{base:Nat}{spare:Nat→Bool}{held:Bool}{t e:TypeId}{k:IntKind}{a:Option Addr}{len cap:Nat}{d:DataW H}{ps:List MemPlace}{ts:List TypeId}{ds:List (DataW H)}{j:Nat}
  (hsz:(DataW.weightsEach P ts ds).all (·≤ reachBytes)=true) (ht:ts[j]?=some t) (hd:ds[j]?=some d) (hu:P.underlying t=some (.slice e)) (he:P.underlying e=some (.int k)) (hc:P.cellsOf e=1) {B:Nat} (hB:P.bytesOf e=B)
  (h:DataW.Trod enc P W base spare held t (.slice a len cap) d ps):len * B≤140737488351232:=by
 obtain⟨fuel,hf⟩:=h
 rcases open_ints hu he hc hf with⟨hcs,_⟩|⟨x,l,c,zs,hcs,_,hl,_,hz,hx,_,_⟩
 ·simp[Value.cells]at hcs;obtain⟨rfl,rfl,rfl⟩:=hcs;simp
 ·simp[Value.cells]at hcs;obtain⟨rfl,rfl,rfl⟩:=hcs;obtain⟨hx,_⟩:=Prod.mk.inj hx;subst hx;have z:=sized_slice hsz ht hd hu;rw[hB]at z
  have hl2:len≤zs.length:=by
   rw[hz]
   split
   ·exact hl
   ·exact BL _
  have h1:(lits (H:=H) k (zs.take len)).length+(lits (H:=H) k (zs.drop len)).length=zs.length:=by
   simp[lits]
   omega
  rw[h1]at z;exact BM (Nat.mul_le_mul_right _ hl2) z
theorem rowAV{W:World}{c:Cx}(hcw:c.w=W)(hok:∀ r,r<W.heap.size→c.ok false r){v:Value}{a:Option Addr}{len cap:Nat}{zs:List Int}(hv:v=.slice a len cap)
  (hs:v=.slice none 0 0∨∃ b off len cap,v=.slice (some ⟨b,off,none⟩) len cap∧len≤cap∧b<W.heap.size)
  (hz:zs.length=cap) (hcell:∀ x,a=some x→∀ i,i<zs.length→W.cell? (x.add i)=some (.int .u8 (zs.getD i 0))) (hw:∀ n∈zs,(Lit.int .u8 n).wf=true) :
  ∃ l:List UInt8,l.length=len∧((v=.slice none 0 0∧l=[]∧rel (.v (.slice none 0 0)) c v)∨rel (.sl false l.length l.length (l.map byteC)) c v):=by
 rcases hs with rfl|⟨b,off,len',cap',rfl,h1,h2⟩
 ·cases hv;exact⟨[],rfl,.inl ⟨rfl,rfl,by simp only[rel]⟩⟩
 ·cases hv;have hl:((zs.take len).map fun n=>UInt8.ofNat n.toNat).length=len:=by rw[Bk,Bh];omega
  refine⟨(zs.take len).map fun n=>UInt8.ofNat n.toNat,hl,.inr ?_⟩;rw[hl];simp only[rel];refine⟨b,off,cap,rfl,BL _,h1,hok b h2,relAt_of_get fun j x hj=>?_⟩;simp only[List.map_map,Bm,BY]at hj
  split at hj
  ·rename_i hjl;have hjz:j<zs.length:=by omega
   have hg:zs[j]?=some zs[j]:=by simp[hjz]
   rw[hg]at hj;simp only[Option.map_some,Option.some.injEq,Function.comp]at hj;subst hj;refine⟨.int .u8 (UInt8.ofNat zs[j].toNat).toNat,?_,by simp only[byteC,rel]⟩;have:=hcell _ rfl j hjz
   have ea:(⟨b,off,none⟩:Addr).add j=⟨b,off+j,none⟩:=by
    simp only[Addr.add]
    by_cases h0:j=0
    ·subst h0;simp
    ·simp[h0]
   rw[ea]at this;rw[show c.shut.w=W from hcw,this];have hw':=hw zs[j] (List.getElem_mem hjz);have hzd:zs.getD j 0=zs[j]:=by simp[List.getD,hg]
   rw[hzd];have hb:0≤zs[j]∧zs[j]≤255:=by simpa[Lit.wf,IntKind.min,IntKind.max,IntKind.signed,IntKind.bits]using hw'
   have:((UInt8.ofNat zs[j].toNat).toNat:Int)=zs[j]:=by
    rw[UInt8.toNat_ofNat_of_lt' (by show _<256;omega)]
    omega
   rw[this]
  ·simp at hj
def gam(m:Int)(te:TypeId)(pe:Value):List (Nat×AV):=[(1,.ela false [.v (.int .i64 m)]),(3,.ela false [.v (.iface te pe)])]
theorem gam_gl(m:Int)(te:TypeId)(pe:Value):Gl (gam m te pe):=⟨⟨m,rfl⟩,te,pe,rfl⟩
theorem gam_glw(m:Int)(te:TypeId)(pe:Value):GlW (gam m te pe):=by
 intro k;unfold gam;simp only[Go.Ev.look]
 split
 ·exact .inr ⟨_,rfl⟩
 ·split
  ·exact .inr ⟨_,rfl⟩
  ·exact .inl rfl
theorem gam_ok{m:Int}{te:TypeId}{pe:Value}{W:World}(h1:W.cell? ⟨1,0,none⟩=some (.int .i64 m))(h4:W.cell? ⟨3,0,none⟩=some (.iface te pe)):glOK (gam m te pe) W:=by
 have lt:∀ g u,W.cell? ⟨g,0,none⟩=some u→g<W.heap.size:=fun g u h=>by
  by_cases hg:g<W.heap.size
  ·exact hg
  ·unfold World.cell? at h;simp only[BQ (Nat.le_of_not_lt hg)]at h;cases h
 intro k x e;unfold gam at e;simp only[Go.Ev.look]at e
 split at e
 ·rename_i hk;subst hk;simp only[AV.ela.injEq,List.cons.injEq,AV.v.injEq,and_true,true_and]at e;subst e;exact⟨lt _ _ h1,h1⟩
 ·split at e
  ·rename_i hk;subst hk;simp only[AV.ela.injEq,List.cons.injEq,AV.v.injEq,and_true,true_and]at e;subst e;exact⟨lt _ _ h4,h4⟩
  ·cases e
theorem calls_of_ev{f:FuncId}{args:List AV}{res:AV}{m:Int}{te:TypeId}{pe:Value}{W:World}{vs:Array Value}(h:Ev Tp (gam m te pe) f args res)
  (h1:W.cell? ⟨1,0,none⟩=some (.int .i64 m)) (h4:W.cell? ⟨3,0,none⟩=some (.iface te pe)) (hr:relL args (cx0 Tp (fun _=>False) (fun _=>False) W) vs.toList) :
  Calls Tp f vs W fun e w'=>∃ u,e=.returned u∧rel res (cx0 Tp (fun _=>False) (fun _=>False) w') u∧Below W.heap.size W w':=
 h _ _ W vs (fun _ h=>h.elim) (fun k=>gl_rel (c:=cx0 Tp (fun _=>False) (fun _=>False) W) (gam_glw m te pe) (gam_ok h1 h4) rfl (fun r hr=>⟨hr,fun h=>h⟩) k) hr
theorem rowInts{W:World}{c:Cx}(hcw:c.w=W)(hok:∀ r,r<W.heap.size→c.ok false r){v:Value}{a:Option Addr}{len cap:Nat}{zs:List Int}(hv:v=.slice a len cap)
  (hs:v=.slice none 0 0∨∃ b off len cap,v=.slice (some ⟨b,off,none⟩) len cap∧len≤cap∧b<W.heap.size)
  (hz:zs.length=cap) (hcell:∀ x,a=some x→∀ i,i<zs.length→W.cell? (x.add i)=some (.int .i64 (zs.getD i 0))) :
  ∃ y ps,IntsA y ps∧rel y c v:=by
 rcases hs with rfl|⟨b,off,len',cap',rfl,h1,h2⟩
 ·exact⟨_,[],.inl ⟨rfl,rfl⟩,by simp only[rel]⟩
 ·cases hv;have hl:(zs.take len).length=len:=by rw[Bh];omega
  refine⟨.sl false (zs.take len).length (zs.take len).length (intsC (zs.take len)),zs.take len,.inr ⟨false,rfl⟩,?_⟩;rw[hl];simp only[rel];refine⟨b,off,cap,rfl,BL _,h1,hok b h2,relAt_of_get fun j x hj=>?_⟩;simp only[intsC,Bm,BY]at hj
  split at hj
  ·rename_i hjl;have hjz:j<zs.length:=by omega
   have hg:zs[j]?=some zs[j]:=by simp[hjz]
   rw[hg]at hj;simp only[Option.map_some,Option.some.injEq]at hj;subst hj;refine⟨.int .i64 zs[j],?_,by simp only[intC,rel]⟩;have:=hcell _ rfl j hjz
   have ea:(⟨b,off,none⟩:Addr).add j=⟨b,off+j,none⟩:=by
    simp only[Addr.add]
    by_cases h0:j=0
    ·subst h0;simp
    ·simp[h0]
   rw[ea]at this;rw[show c.shut.w=W from hcw,this];have hzd:zs.getD j 0=zs[j]:=by simp[List.getD,hg]
   rw[hzd]
  ·simp at hj
set_option maxRecDepth 100000 in
theorem open_txtA{H:Type}{enc:TypeId×Value→H}{W:World}{base:Nat}{v:Value}{d:DataW H}{p:List MemPlace}(hv:Value.okWide Tp W .any base 37 v)(h0:DataW.Trod enc Tp W 0 (fun _=>true) true 37 v d p):
  ∃ x l a len cap,TxtA x l∧rel x (cx0 Tp (fun _=>False) (fun _=>False) W) v∧v=.slice a len cap∧l.length=len:=by
 let c:Cx:=cx0 Tp (fun _=>False) (fun _=>False) W
 have hs0:=okWide_sl Tryz.underlying37 hv;obtain⟨a0,len0,cap0,hv0⟩:=okWide_slice Tryz.underlying37 hv;rw[hv0]at h0;obtain⟨fuel,hf⟩:=h0
 rcases open_ints Tryz.underlying37 Tryz.underlying5 (by kernel_rfl) hf with⟨hcs,_⟩|⟨x,l,cp,zs,hcs,_,hl,hm,hz,hd,hcell,hwz⟩
 ·simp[Value.cells]at hcs;obtain⟨rfl,rfl,rfl⟩:=hcs;exact⟨_,[],_,_,_,.inl ⟨rfl,rfl⟩,by simp only[rel];exact hv0,hv0,rfl⟩
 ·simp[Value.cells]at hcs;obtain⟨rfl,rfl,rfl⟩:=hcs;obtain⟨l,hl,hr⟩:=rowAV (c:=c) rfl (fun r hr=>⟨hr,by simp⟩) hv0 hs0 (by simpa using hz) (fun y hy=>by cases hy;exact hcell) hwz
  rcases hr with⟨hn,rfl,hr⟩|hr
  ·exact⟨_,[],_,_,_,.inl ⟨rfl,rfl⟩,hr,hv0,hl⟩
  ·exact⟨_,l,_,_,_,.inr ⟨false,rfl⟩,hr,hv0,hl⟩
set_option maxRecDepth 100000 in
theorem open_picks{H:Type}{enc:TypeId×Value→H}{W:World}{base:Nat}{v:Value}{d:DataW H}{p:List MemPlace}(hv:Value.okWide Tp W .any base 78 v)(h0:DataW.Trod enc Tp W 0 (fun _=>true) true 78 v d p):
  ∃ y ps,IntsA y ps∧rel y (cx0 Tp (fun _=>False) (fun _=>False) W) v:=by
 let c:Cx:=cx0 Tp (fun _=>False) (fun _=>False) W
 have hs0:=okWide_sl Tryz.underlying78 hv;obtain⟨a0,len0,cap0,hv0⟩:=okWide_slice Tryz.underlying78 hv;rw[hv0]at h0;obtain⟨fuel,hf⟩:=h0
 rcases open_ints Tryz.underlying78 Tryz.underlying3 (by kernel_rfl) hf with⟨hcs,_⟩|⟨x,l,cp,zs,hcs,_,hl,hm,hz,hd,hcell,hwz⟩
 ·simp[Value.cells]at hcs;obtain⟨rfl,rfl,rfl⟩:=hcs;exact⟨_,[],.inl ⟨rfl,rfl⟩,by simp only[rel];exact hv0⟩
 ·simp[Value.cells]at hcs;obtain⟨rfl,rfl,rfl⟩:=hcs;exact rowInts (c:=c) rfl (fun r hr=>⟨hr,by simp⟩) hv0 hs0 (by simpa using hz) (fun y hy=>by cases hy;exact hcell)
namespace declBlanks
set_option maxRecDepth 100000 in
theorem contract(H:Type)(enc:TypeId×Value→H)(W:World)(base:Nat)(args:Array Value)(ds gs:List (DataW H))(before:List MemPlace)
  (hval:∀ (j:Nat) t v,Tryz.f9.params[j]?=some t→args[j]?=some v→Value.okWide Tp W .any base t v)
  (hW:DataW.Whole enc Tp Tryz.f9.params.toList Rows.declBlanksSpec.vars false W args.toList ds gs before)
  (hsz:(DataW.weightsEach Tp (Tryz.f9.params.toList++Rows.declBlanksSpec.plain.varTypes Tp) (ds++gs)).all (·≤ reachBytes)=true)
  (hL:laidMet Tp laidL W) (hS:W.ShapedOpen Tp) :
  Calls Tp 9 args W fun e W'=>∃ v,e=.returned v∧Rows.declBlanksSpec.post enc Tp Tryz.f9 false true false false W args v W':=by
 have hW':=hW;obtain⟨p,q,hA0,hV,rfl,hfz,hnd⟩:=hW;have hA:DataW.TrodAll enc Tp W 0 (fun _=>true) true Tryz.f9.params.toList args.toList ds p:=hA0;rw[Tryz.params9]at hA hval hsz;obtain⟨v0,vs0,d0,ds0,p0,q0,hargs,rfl,rfl,h0,r0⟩:=trodAll_cons hA;obtain⟨v1,vs1,d1,ds1,p1,q1,rfl,rfl,rfl,h1,r1⟩:=trodAll_cons r0;obtain⟨rfl,rfl,rfl⟩:=trodAll_nil r1;obtain rfl:args = #[v0,v1]:=by cases args;simp_all
 obtain⟨rfl,rfl⟩:=trodVars_none hV;have k0:=h0;have k1:=h1;have lt0:∀ x∈p0,x.block<W.heap.size:=by obtain⟨m,hm⟩:=k0;exact DataW.trod_lt m _ _ _ hm
 have lt1:∀ x∈p1,x.block<W.heap.size:=by obtain⟨m,hm⟩:=k1;exact DataW.trod_lt m _ _ _ hm
 obtain⟨x0,l0,a0,len0,cap0,hx0,hr0,hv0,hl0⟩:=open_txtA (hval 0 37 v0 rfl rfl) h0;obtain⟨y1,ps,hy1,hr1⟩:=open_picks (hval 1 78 v1 rfl rfl) h1
 have y0:len0 * 1≤140737488351232:=by
  rw[hv0]at h0;exact size_ints hsz (j:=0) (t:=37) rfl rfl Tryz.underlying37 Tryz.underlying5 (by kernel_rfl) (by kernel_rfl) h0
 clear hA0 hsz;obtain⟨m,hm⟩:=maxLen_cell hS;obtain⟨te,pe,hpe⟩:=errRange_cell hL
 have hcalls:Calls Tp 9 #[v0,v1] W fun e w'=>∃ u,e=.returned u∧rel (.v (.bool true)) (cx0 Tp (fun _=>False) (fun _=>False) w') u∧Below W.heap.size W w':=by
  refine calls_of_ev (declBlanks_ev (gam_gl m te pe) (gam_glw m te pe) hx0 hy1 (by omega)) hm hpe ?_;simp only[relL];exact⟨_,_,rfl,hr0,_,_,rfl,hr1,rfl⟩
 refine hcalls.mono fun e W' ⟨u,he,hu,bel⟩=>?_
 simp only[rel]at hu;subst he;subst hu;exact⟨_,rfl,_,_,_,[],_,[],hW',trodAll_mk1 (shut_bool Tryz.underlying4 _),(trodAll_cons_mk (Below.trod laidOut (by kernel_rfl) (of_decide_eq_true (by kernel_rfl)) k0 bel lt0) (trodAll_cons_mk (Below.trod laidOut (by kernel_rfl) (of_decide_eq_true (by kernel_rfl)) k1 bel lt1) trodAll_mk0)),rfl,bel.frame _,fun h=>by cases h⟩
theorem witness_row(os:Os){H:Type}(enc:TypeId×Value→H):(OpenSpec.ofChange Rows.declBlanksSpec).preRow enc Tp Tryz.f9 Rows.declBlanksRow.domain false Rows.declBlanksRow.laid ((laidWorld os).forCall (fun _ _=>0) ⟨#[],#[.slice none 0 0,.slice none 0 0],[]⟩).memory #[.slice none 0 0,.slice none 0 0]:=by
 have hw:((DataW.whole enc Tp ((laidWorld os).forCall (fun _ _=>0) ⟨#[],#[.slice none 0 0,.slice none 0 0],[]⟩).memory Tryz.f9.params.toList Rows.declBlanksSpec.vars false #[Value.slice none 0 0,.slice none 0 0].toList 8).map (fun x=>(x.1,x.2.1))).isSome=true:=by kernel_rfl
 obtain⟨x,hx⟩:=Option.isSome_iff_exists.1 hw;obtain⟨⟨x1,x2,x3⟩,hx',hx1⟩:=Option.map_eq_some_iff.1 hx;exact OpenSpec.preRow_of_cond 8 hx' (by kernel_rfl) (fun k hk=>by cases hk) (by kernel_rfl) (laid_met os _)
set_option maxRecDepth 100000 in
theorem lifted(os:Os)(started:os.Started)(H:Type)(enc:TypeId×Value→H)(F:Stop.Interp):
  ReturnsInHanded {} Tryz.checked os 9 .any ((OpenSpec.ofChange Rows.declBlanksSpec).preRow enc Tp Tryz.f9 Rows.declBlanksRow.domain false Rows.declBlanksRow.laid) (((OpenSpec.ofChange Rows.declBlanksSpec).at F).post enc Tp Tryz.f9 false true false false):=by
 refine returnsInHanded_of_row (C:=Tryz.checked) (s:=OpenSpec.ofChange Rows.declBlanksSpec) own started (by kernel_rfl) Tryz.func9
  (witness_row_atRef (enc:=enc) (C:=Tryz.checked) false (laidWorld os) #[.slice none 0 0,.slice none 0 0] rfl (by kernel_rfl) (by kernel_rfl) (by kernel_rfl) (witness_row os enc)) ?_
 intro W base args ds gs before hval hW _ _ hsz hL hS _;exact contract H enc W base args ds gs before hval hW hsz hL hS
theorem facts1:(Rows.declBlanksRow.inPlace==Tryz.prog.inPlace 9)=true:=by kernel_rfl
theorem facts2:(Rows.declBlanksRow.unfollowed==Tryz.prog.unfollowed 9)=true:=by kernel_rfl
theorem facts3:(Rows.declBlanksRow.recurses==Tryz.prog.recurses 9)=true:=by kernel_rfl
theorem facts4:(Rows.declBlanksRow.named==Tryz.prog.varsNamed 9)=true:=by kernel_rfl
theorem facts:joinedFacts Tp 9 Tryz.f9 (OpenSpec.ofChange Rows.declBlanksSpec).bare Rows.declBlanksRow=true:=by
 unfold joinedFacts;rw[facts1,facts2,facts3,facts4]
 kernel_rfl
theorem said:Rows.DeclBlanksSaid:=
 OpenClaim.holds_of_cond 9 Tryz.f9 rfl rfl rfl rfl rfl rfl rfl ⟨rfl,rfl,rfl,rfl,rfl⟩ rfl rfl rfl rfl rfl (by kernel_rfl) Tryz.func9 facts
  (of_decide_eq_true (by kernel_rfl)) (by unfold Func.isWrapper;first|(rw[if_pos (by decide +kernel)];kernel_rfl)|(rw[if_neg (by decide +kernel)];exact⟨rfl,rfl⟩))
  (fun os started H enc _ F=>by rw[OpenClaim.pre_eq_preRow];exact lifted os started H enc F)
theorem plain(f:FuncId)(fn:Func)(hf:Tryz.pinned.checked.prog.funcNamed "chordmail/chordmaillaw08.DeclBlanks" = some f)(hfn:Tryz.pinned.checked.prog.funcs[f]?=some fn):
  true=Tryz.pinned.checked.prog.looks []∧∀ (j:Nat) t,fn.params[j]?=some t→Tryz.pinned.checked.prog.wantsStandIn t=false:=by
 obtain rfl:f=9:=Option.some.inj ((show Tryz.prog.funcNamed "chordmail/chordmaillaw08.DeclBlanks" = some 9 by kernel_rfl).symm.trans hf) |>.symm
 obtain rfl:fn=Tryz.f9:=(Option.some.inj (Tryz.func9.symm.trans hfn)).symm;refine⟨by kernel_rfl,fun j t ht=>?_⟩;rw[Tryz.params9]at ht;have hm:t=37∨t=78:=by simpa using Array.mem_of_getElem? ht
 rcases hm with rfl|rfl
 ·exact (show Tryz.prog.wantsStandIn 37=false by kernel_rfl)
 ·exact (show Tryz.prog.wantsStandIn 78=false by kernel_rfl)
end declBlanks
theorem declBlanks_holds:Rows.DeclBlanksCardSaid:=
 Claim7.holds_tied_plain_at .later [] _ _ _ _ declBlanks.said (fun _ h=>by cases h) (by kernel_rfl) (fun _ h=>by cases h) declBlanks_row_tie rfl ⟨rfl,rfl⟩ (by kernel_rfl) rfl declBlanks.plain (by kernel_rfl)
#print axioms declBlanks_holds
end Go.Proofs.YtlobiioioicmhaaGreatDoor
