/- A part of the proof. -/
import Derived.Test.YtlobiioioicmhaaGreatDoorBQ12
set_option linter.all false
set_option maxHeartbeats 8000000
namespace Go.Proofs.YtlobiioioicmhaaGreatDoor
open _root_.Bool renaming not_true→Bv,not_false→Bf
open _root_.List renaming length_append→Bp,nil_append→Bi,getElem?_cons_zero→Bz,getElem?_cons_succ→Bu,getElem?_map→Bm,length_map→Bk,length_drop→Bd,length_cons→BC,length_nil→BD,flatMap_cons→BE,mem_cons→BI,getElem?_toArray→BU,getElem?_drop→BX,getElem?_take→BY
open _root_.Nat renaming zero_le→BN
open Go.Proofs.Tryz renaming prog→Tp
open Go Go.Ev
set_option maxRecDepth 20000
variable {γ:List (Nat×AV)}
theorem c56:bodyT Tp 56:=⟨_,Tryz.func56,by kernel_rfl,by kernel_rfl⟩
theorem c14:bodyT Tp 14:=⟨_,Tryz.func14,by kernel_rfl,by kernel_rfl⟩
theorem c180:bodyT Tp 180:=⟨_,Tryz.func180,by kernel_rfl,by kernel_rfl⟩
theorem c111:bodyT Tp 111:=⟨_,Tryz.func111,by kernel_rfl,by kernel_rfl⟩
def strA(l:List UInt8):AV:=.v (.string ⟨l.toArray⟩)
theorem tyN:zcT Tp 97=some [strA [],strA [],strA [],strA [],strA [],strA []]∧arrT Tp 97=some (6,9)∧aggT Tp 97=some true∧sizeT Tp 97=some 6∧placesT Tp 97=none∧sizeT Tp 9=some 1∧aggT Tp 9=some false:=
 (by and_intros<;>kernel_rfl)
theorem names_ev:Ev Tp γ 56 [] (.agg [strA [],strA n1,strA n2,strA n3,strA n4,strA n5]):=by
 refine Ev.of Tryz.func56 rfl ?_;simp only[strA,n1,n2,n3,n4,n5];have h:=tyN;simp only[strA]at h;simp only[Tryz.f56,h,evS,Nat.reduceAdd,Nat.reduceLT,Nat.reduceLeDiff,reduceCtorEq]
 (repeat' (first|(with_reducible refine aI ?_ ?_)|(first|(first|refine gF ?_ ?_|refine gT ?_ ?_|refine cI ?_ ?_|refine pI ?_ ?_)<;>intro h|(refine dI ?_;have h:=trivial))<;>simp only[h,evS,tyS,Bv,Bf,Nat.reduceAdd,Nat.reduceSub,Nat.reduceMul,Nat.reduceLT,Nat.reduceLeDiff,Nat.reduceEqDiff,reduceCtorEq,List.reduceReplicate,Int.reduceToNat,Int.reduceLE,Int.reduceLT]))
 all_goals first|done|rfl|trace_state
def nameF(k:Int):List UInt8:=if k=1 then n1 else if k=2 then n2 else if k=3 then n3 else if k=4 then n4 else if k=5 then n5 else []
def typA(r:Int×Bool):AV:=.tup [.v (.int .i64 r.1),.v (.bool r.2)]
theorem reals_ev(a b:Nat)(ha:a<18446744073709551616)(hb:b<18446744073709551616)(h:rsame a b):Ev Tp γ 180 [.v (.float .f64 a),.v (.float .f64 b)] (.v (.int .i64 0)):=by
 refine Ev.of Tryz.func180 rfl ?_;have hna:(FloatKind.f64.format.order a a != some .eq)=nanB a:=rfl;have hnb:(FloatKind.f64.format.order b b != some .eq)=nanB b:=rfl
 by_cases hn:nanB a=true∧nanB b=true
 ·simp only[Tryz.f180,hna,hnb,hn.1,hn.2,evS,Nat.reduceAdd,Nat.reduceSub,Nat.reduceLT,Nat.reduceEqDiff,reduceCtorEq]
  (repeat' (first|(with_reducible refine aI ?_ ?_)|(first|(first|refine gF ?_ ?_|refine gT ?_ ?_|refine cI ?_ ?_|refine pI ?_ ?_)<;>intro h|(refine dI ?_;have h:=trivial))<;>simp only[h,hna,hnb,hn.1,hn.2,evS,tyS,Bv,Bf,Nat.reduceAdd,Nat.reduceSub,Nat.reduceMul,Nat.reduceLT,Nat.reduceLeDiff,Nat.reduceEqDiff,reduceCtorEq,List.reduceReplicate,Int.reduceToNat,Int.reduceLE,Int.reduceLT]))
  all_goals first|done|rfl|trace_state
 ·have hab:a=b:=by
   rcases h with h|h
   ·exact h
   ·exact absurd h hn
  subst hab
  have hf:nanB a=false:=by
   cases hc:nanB a with
   |false=>rfl
   |true=>exact absurd ⟨hc,hc⟩ hn
  have oe:FloatKind.f64.format.order a a=some .eq:=by
   have:(FloatKind.f64.format.order a a != some .eq)=false:=hf;simpa using this
  have q1:(FloatKind.f64.format.order a a==some .lt)=false:=by rw[oe];rfl
  have q2:(FloatKind.f64.format.order a a==some .eq)=true:=by rw[oe];rfl
  have q3:(FloatKind.f64.format.order a a==some .gt)=false:=by rw[oe];rfl
  have kb:=below_ev (γ:=γ) a ha hf;cases hs:sgB a with
  |true=>
   rw[hs]at kb;simp only[Tryz.f180,hna,hf,q1,q2,evS,Nat.reduceAdd,Nat.reduceSub,Nat.reduceLT,Nat.reduceEqDiff,reduceCtorEq]
   (repeat' (first|(with_reducible refine aI ?_ ?_)|(first|(first|refine gF ?_ ?_|refine gT ?_ ?_|refine cI ?_ ?_|refine pI ?_ ?_)<;>intro h|(refine dI ?_;have h:=trivial))<;>simp only[h,hna,hf,q1,q2,q3,evS,tyS,Bv,Bf,Nat.reduceAdd,Nat.reduceSub,Nat.reduceMul,Nat.reduceLT,Nat.reduceLeDiff,Nat.reduceEqDiff,reduceCtorEq,List.reduceReplicate,Int.reduceToNat,Int.reduceLE,Int.reduceLT]))
   refine CallK.intro c178 rfl kb ?_;simp only[evS,Nat.reduceLT,Nat.reduceEqDiff,reduceCtorEq]
   (repeat' (first|(with_reducible refine aI ?_ ?_)|(first|(first|refine gF ?_ ?_|refine gT ?_ ?_|refine cI ?_ ?_|refine pI ?_ ?_)<;>intro h|(refine dI ?_;have h:=trivial))<;>simp only[h,q1,q2,q3,evS,tyS,Bv,Bf,Nat.reduceAdd,Nat.reduceSub,Nat.reduceMul,Nat.reduceLT,Nat.reduceLeDiff,Nat.reduceEqDiff,reduceCtorEq,List.reduceReplicate,Int.reduceToNat,Int.reduceLE,Int.reduceLT]))
   refine CallK.intro c178 rfl kb ?_;simp only[q2,q3,evS,Bv,Nat.reduceLT,Nat.reduceEqDiff,reduceCtorEq]
   (repeat' (first|(with_reducible refine aI ?_ ?_)|(first|(first|refine gF ?_ ?_|refine gT ?_ ?_|refine cI ?_ ?_|refine pI ?_ ?_)<;>intro h|(refine dI ?_;have h:=trivial))<;>simp only[h,q1,q2,q3,evS,tyS,Bv,Bf,Nat.reduceAdd,Nat.reduceSub,Nat.reduceMul,Nat.reduceLT,Nat.reduceLeDiff,Nat.reduceEqDiff,reduceCtorEq,List.reduceReplicate,Int.reduceToNat,Int.reduceLE,Int.reduceLT]))
   refine CallK.intro c178 rfl kb ?_;simp only[evS,Nat.reduceLT,Nat.reduceEqDiff,reduceCtorEq]
   (repeat' (first|(with_reducible refine aI ?_ ?_)|(first|(first|refine gF ?_ ?_|refine gT ?_ ?_|refine cI ?_ ?_|refine pI ?_ ?_)<;>intro h|(refine dI ?_;have h:=trivial))<;>simp only[h,q1,q2,q3,evS,tyS,Bv,Bf,Nat.reduceAdd,Nat.reduceSub,Nat.reduceMul,Nat.reduceLT,Nat.reduceLeDiff,Nat.reduceEqDiff,reduceCtorEq,List.reduceReplicate,Int.reduceToNat,Int.reduceLE,Int.reduceLT]))
   refine CallK.intro c178 rfl kb ?_;simp only[evS,Bv,Nat.reduceLT,Nat.reduceEqDiff,reduceCtorEq]
   (repeat' (first|(with_reducible refine aI ?_ ?_)|(first|(first|refine gF ?_ ?_|refine gT ?_ ?_|refine cI ?_ ?_|refine pI ?_ ?_)<;>intro h|(refine dI ?_;have h:=trivial))<;>simp only[h,q1,q2,q3,evS,tyS,Bv,Bf,Nat.reduceAdd,Nat.reduceSub,Nat.reduceMul,Nat.reduceLT,Nat.reduceLeDiff,Nat.reduceEqDiff,reduceCtorEq,List.reduceReplicate,Int.reduceToNat,Int.reduceLE,Int.reduceLT]))
   all_goals first|done|rfl|trace_state
  |false=>
   rw[hs]at kb;simp only[Tryz.f180,hna,hf,q1,q2,evS,Nat.reduceAdd,Nat.reduceSub,Nat.reduceLT,Nat.reduceEqDiff,reduceCtorEq]
   (repeat' (first|(with_reducible refine aI ?_ ?_)|(first|(first|refine gF ?_ ?_|refine gT ?_ ?_|refine cI ?_ ?_|refine pI ?_ ?_)<;>intro h|(refine dI ?_;have h:=trivial))<;>simp only[h,hna,hf,q1,q2,q3,evS,tyS,Bv,Bf,Nat.reduceAdd,Nat.reduceSub,Nat.reduceMul,Nat.reduceLT,Nat.reduceLeDiff,Nat.reduceEqDiff,reduceCtorEq,List.reduceReplicate,Int.reduceToNat,Int.reduceLE,Int.reduceLT]))
   refine CallK.intro c178 rfl kb ?_;simp only[q2,q3,evS,Nat.reduceLT,Nat.reduceEqDiff,reduceCtorEq]
   (repeat' (first|(with_reducible refine aI ?_ ?_)|(first|(first|refine gF ?_ ?_|refine gT ?_ ?_|refine cI ?_ ?_|refine pI ?_ ?_)<;>intro h|(refine dI ?_;have h:=trivial))<;>simp only[h,q1,q2,q3,evS,tyS,Bv,Bf,Nat.reduceAdd,Nat.reduceSub,Nat.reduceMul,Nat.reduceLT,Nat.reduceLeDiff,Nat.reduceEqDiff,reduceCtorEq,List.reduceReplicate,Int.reduceToNat,Int.reduceLE,Int.reduceLT]))
   refine CallK.intro c178 rfl kb ?_;simp only[evS,Nat.reduceLT,Nat.reduceEqDiff,reduceCtorEq]
   (repeat' (first|(with_reducible refine aI ?_ ?_)|(first|(first|refine gF ?_ ?_|refine gT ?_ ?_|refine cI ?_ ?_|refine pI ?_ ?_)<;>intro h|(refine dI ?_;have h:=trivial))<;>simp only[h,q1,q2,q3,evS,tyS,Bv,Bf,Nat.reduceAdd,Nat.reduceSub,Nat.reduceMul,Nat.reduceLT,Nat.reduceLeDiff,Nat.reduceEqDiff,reduceCtorEq,List.reduceReplicate,Int.reduceToNat,Int.reduceLE,Int.reduceLT]))
   all_goals first|done|rfl|trace_state
theorem same_of{v w:VD}(h:Ev Tp γ 111 [vA v,vA w] (.v (.int .i64 0))):Ev Tp γ 57 [vA v,vA w] (.v (.bool true)):=by
 refine Ev.of Tryz.func57 rfl ?_;have z:((0:Int)==0)=true:=rfl;simp only[vA,vC]at h⊢;simp only[Tryz.f57,tyV,evS,Nat.reduceAdd,Nat.reduceSub,Nat.reduceLT,Nat.reduceLeDiff,Nat.reduceEqDiff,reduceCtorEq]
 (repeat' (first|(with_reducible refine aI ?_ ?_)|(first|(first|refine gF ?_ ?_|refine gT ?_ ?_|refine cI ?_ ?_|refine pI ?_ ?_)<;>intro h|(refine dI ?_;have h:=trivial))<;>simp only[h,tyV,evS,tyS,Bv,Bf,Nat.reduceAdd,Nat.reduceSub,Nat.reduceMul,Nat.reduceLT,Nat.reduceLeDiff,Nat.reduceEqDiff,reduceCtorEq,List.reduceReplicate,Int.reduceToNat,Int.reduceLE,Int.reduceLT]))
 refine CallK.intro c111 rfl h ?_;simp only[z,evS,Nat.reduceLT,Nat.reduceEqDiff,reduceCtorEq]
 (repeat' (first|(with_reducible refine aI ?_ ?_)|(first|(first|refine gF ?_ ?_|refine gT ?_ ?_|refine cI ?_ ?_|refine pI ?_ ?_)<;>intro h|(refine dI ?_;have h:=trivial))<;>simp only[h,tyV,z,evS,tyS,Bv,Bf,Nat.reduceAdd,Nat.reduceSub,Nat.reduceMul,Nat.reduceLT,Nat.reduceLeDiff,Nat.reduceEqDiff,reduceCtorEq,List.reduceReplicate,Int.reduceToNat,Int.reduceLE,Int.reduceLT]))
 all_goals first|done|rfl|trace_state
theorem c181:bodyT Tp 181:=⟨_,Tryz.func181,by kernel_rfl,by kernel_rfl⟩
def tsS(γ:List (Nat×AV))(s:List UInt8)(k:Nat):St:=⟨⟨42,[(0,.v (.string ⟨s.toArray⟩)),(1,.v (.string ⟨s.toArray⟩)),(5,.v (.int .i64 (k:Int)))],γ⟩,[]⟩
theorem rtexts_self(s:List UInt8)(hs:s.length≤140737488351232):Ev Tp γ 181 [.v (.string ⟨s.toArray⟩),.v (.string ⟨s.toArray⟩)] (.v (.int .i64 0)):=by
 refine Ev.of Tryz.func181 rfl ?_;simp only[Tryz.f181,evS,Nat.reduceAdd,Nat.reduceSub,Nat.reduceLT];refine LoopK.intro (tsS γ s) (fun k=>k≤s.length) (fun k=>s.length-k) 0 ⟨rfl,rfl,⟨rfl,rfl,rfl,trivial⟩,.inl rfl⟩ (BN _) (fun k hk=>?_)
 by_cases hlt:k<s.length
 ·have d1:decide (k<s.length)=true:=decide_eq_true hlt;have w1:IntKind.i64.wrap ((k:Int)+1)=((k+1:Nat):Int):=(i64w (by omega) (by omega)).trans (by omega);have dx:decide ((s.getD k 0).toNat<(s.getD k 0).toNat)=false:=decide_eq_false (Nat.lt_irrefl _);simp only[tsS,d1,evS,tyS,Nat.reduceLT,Nat.reduceEqDiff,reduceCtorEq]
  (repeat' (first|(with_reducible refine aI ?_ ?_)|(first|(first|refine gF ?_ ?_|refine gT ?_ ?_|refine cI ?_ ?_|refine pI ?_ ?_)<;>intro h|(refine dI ?_;have h:=trivial))<;>simp only[h,tyV,d1,dx,w1,evS,tyS,Bv,Bf,Nat.reduceAdd,Nat.reduceSub,Nat.reduceMul,Nat.reduceLT,Nat.reduceLeDiff,Nat.reduceEqDiff,reduceCtorEq,List.reduceReplicate,Int.reduceToNat,Int.reduceLE,Int.reduceLT]))
  all_goals first|exact hlt|exact loopC.intro (k+1) hlt ⟨rfl,rfl,⟨rfl,rfl,rfl,trivial⟩,.inl rfl⟩ (by show s.length-(k+1)<s.length-k;clear w1;omega)|trace_state
 ·have d1:decide (k<s.length)=false:=decide_eq_false hlt;have hk2:k=s.length:=by omega
  have dx:decide (s.length<s.length)=false:=decide_eq_false (Nat.lt_irrefl _);have dy:decide ((s.length:Int)<(s.length:Int))=false:=decide_eq_false (Int.lt_irrefl _);simp only[tsS,d1,dx,evS,tyS,Nat.reduceLT,Nat.reduceEqDiff,reduceCtorEq]
  (repeat' (first|(with_reducible refine aI ?_ ?_)|(first|(first|refine gF ?_ ?_|refine gT ?_ ?_|refine cI ?_ ?_|refine pI ?_ ?_)<;>intro h|(refine dI ?_;have h:=trivial))<;>simp only[h,tyV,d1,dx,dy,evS,tyS,Bv,Bf,Nat.reduceAdd,Nat.reduceSub,Nat.reduceMul,Nat.reduceLT,Nat.reduceLeDiff,Nat.reduceEqDiff,reduceCtorEq,List.reduceReplicate,Int.reduceToNat,Int.reduceLE,Int.reduceLT]))
  all_goals trace_state
theorem cmp_self(v:VD)(h3:v.kind≠3)(hr:v.real<18446744073709551616)(ht:v.text.length≤140737488351232):Ev Tp γ 111 [vA v,vA v] (.v (.int .i64 0)):=by
 refine Ev.of Tryz.func111 rfl ?_;have k1:Ev Tp γ 54 [vA v] (.v (.bool (mayF v))):=rmay_ev (γ:=γ) v;have kr:=reals_ev (γ:=γ) v.real v.real hr hr (.inl rfl);have kt:=rtexts_self (γ:=γ) v.text ht;have z1:(v.kind != v.kind)=false:=by simp
 have z3:(v.kind==3)=false:=by simpa using h3
 have dx:decide (v.int<v.int)=false:=decide_eq_false (Int.lt_irrefl _);simp only[vA,vC]at k1⊢;simp only[Tryz.f111,evS,Nat.reduceAdd,Nat.reduceSub,Nat.reduceLT,Nat.reduceEqDiff,reduceCtorEq]
 (repeat' (first|(with_reducible refine aI ?_ ?_)|(first|(first|refine gF ?_ ?_|refine gT ?_ ?_|refine cI ?_ ?_|refine pI ?_ ?_)<;>intro h|(refine dI ?_;have h:=trivial))<;>simp only[h,tyV,evS,tyS,Bv,Bf,Nat.reduceAdd,Nat.reduceSub,Nat.reduceMul,Nat.reduceLT,Nat.reduceLeDiff,Nat.reduceEqDiff,reduceCtorEq,List.reduceReplicate,Int.reduceToNat,Int.reduceLE,Int.reduceLT]))
 refine CallK.intro c54 rfl k1 ?_;simp only[tyV,evS,Nat.reduceAdd,Nat.reduceLT,Nat.reduceLeDiff,Nat.reduceEqDiff,reduceCtorEq]
 (repeat' (first|(with_reducible refine aI ?_ ?_)|(first|(first|refine gF ?_ ?_|refine gT ?_ ?_|refine cI ?_ ?_|refine pI ?_ ?_)<;>intro h|(refine dI ?_;have h:=trivial))<;>simp only[h,tyV,evS,tyS,Bv,Bf,Nat.reduceAdd,Nat.reduceSub,Nat.reduceMul,Nat.reduceLT,Nat.reduceLeDiff,Nat.reduceEqDiff,reduceCtorEq,List.reduceReplicate,Int.reduceToNat,Int.reduceLE,Int.reduceLT]))
 refine CallK.intro c54 rfl k1 ?_;cases hm:mayF v with
 |false=>
  simp only[evS,Bf,Nat.reduceLT,Nat.reduceEqDiff,reduceCtorEq]
  (repeat' (first|(with_reducible refine aI ?_ ?_)|(first|(first|refine gF ?_ ?_|refine gT ?_ ?_|refine cI ?_ ?_|refine pI ?_ ?_)<;>intro h|(refine dI ?_;have h:=trivial))<;>simp only[h,tyV,evS,tyS,Bv,Bf,Nat.reduceAdd,Nat.reduceSub,Nat.reduceMul,Nat.reduceLT,Nat.reduceLeDiff,Nat.reduceEqDiff,reduceCtorEq,List.reduceReplicate,Int.reduceToNat,Int.reduceLE,Int.reduceLT]))
  all_goals first|done|rfl|trace_state
 |true=>
  cases z2:(v.kind==2)with
  |true=>
   simp only[tyV,z1,z2,evS,tyS,Bv,Nat.reduceLT,Nat.reduceEqDiff,reduceCtorEq]
   (repeat' (first|(with_reducible refine aI ?_ ?_)|(first|(first|refine gF ?_ ?_|refine gT ?_ ?_|refine cI ?_ ?_|refine pI ?_ ?_)<;>intro h|(refine dI ?_;have h:=trivial))<;>simp only[h,tyV,z1,z2,evS,tyS,Bv,Bf,Nat.reduceAdd,Nat.reduceSub,Nat.reduceMul,Nat.reduceLT,Nat.reduceLeDiff,Nat.reduceEqDiff,reduceCtorEq,List.reduceReplicate,Int.reduceToNat,Int.reduceLE,Int.reduceLT]))
   refine CallK.intro c180 rfl kr ?_;simp only[evS,Nat.reduceLT,Nat.reduceEqDiff,reduceCtorEq]
   (repeat' (first|(with_reducible refine aI ?_ ?_)|(first|(first|refine gF ?_ ?_|refine gT ?_ ?_|refine cI ?_ ?_|refine pI ?_ ?_)<;>intro h|(refine dI ?_;have h:=trivial))<;>simp only[h,tyV,evS,tyS,Bv,Bf,Nat.reduceAdd,Nat.reduceSub,Nat.reduceMul,Nat.reduceLT,Nat.reduceLeDiff,Nat.reduceEqDiff,reduceCtorEq,List.reduceReplicate,Int.reduceToNat,Int.reduceLE,Int.reduceLT]))
   all_goals first|done|rfl|trace_state
  |false=>
   cases z4:(v.kind==4)with
   |true=>
    simp only[tyV,z1,z2,z3,z4,evS,tyS,Bv,Nat.reduceLT,Nat.reduceEqDiff,reduceCtorEq]
    (repeat' (first|(with_reducible refine aI ?_ ?_)|(first|(first|refine gF ?_ ?_|refine gT ?_ ?_|refine cI ?_ ?_|refine pI ?_ ?_)<;>intro h|(refine dI ?_;have h:=trivial))<;>simp only[h,tyV,z1,z2,z3,z4,evS,tyS,Bv,Bf,Nat.reduceAdd,Nat.reduceSub,Nat.reduceMul,Nat.reduceLT,Nat.reduceLeDiff,Nat.reduceEqDiff,reduceCtorEq,List.reduceReplicate,Int.reduceToNat,Int.reduceLE,Int.reduceLT]))
    refine CallK.intro c181 rfl kt ?_;simp only[evS,Nat.reduceLT,Nat.reduceEqDiff,reduceCtorEq]
    (repeat' (first|(with_reducible refine aI ?_ ?_)|(first|(first|refine gF ?_ ?_|refine gT ?_ ?_|refine cI ?_ ?_|refine pI ?_ ?_)<;>intro h|(refine dI ?_;have h:=trivial))<;>simp only[h,tyV,evS,tyS,Bv,Bf,Nat.reduceAdd,Nat.reduceSub,Nat.reduceMul,Nat.reduceLT,Nat.reduceLeDiff,Nat.reduceEqDiff,reduceCtorEq,List.reduceReplicate,Int.reduceToNat,Int.reduceLE,Int.reduceLT]))
    all_goals first|done|rfl|trace_state
   |false=>
    simp only[tyV,z1,z2,z3,z4,dx,evS,tyS,Bv,Nat.reduceLT,Nat.reduceEqDiff,reduceCtorEq]
    (repeat' (first|(with_reducible refine aI ?_ ?_)|(first|(first|refine gF ?_ ?_|refine gT ?_ ?_|refine cI ?_ ?_|refine pI ?_ ?_)<;>intro h|(refine dI ?_;have h:=trivial))<;>simp only[h,tyV,z1,z2,z3,z4,dx,evS,tyS,Bv,Bf,Nat.reduceAdd,Nat.reduceSub,Nat.reduceMul,Nat.reduceLT,Nat.reduceLeDiff,Nat.reduceEqDiff,reduceCtorEq,List.reduceReplicate,Int.reduceToNat,Int.reduceLE,Int.reduceLT]))
    all_goals first|done|rfl|trace_state
theorem same_self(v:VD)(h3:v.kind≠3)(hr:v.real<18446744073709551616)(ht:v.text.length≤140737488351232):Ev Tp γ 57 [vA v,vA v] (.v (.bool true)):=same_of (cmp_self v h3 hr ht)
theorem tyL:aggT Tp 115=some true∧
  aggT Tp 2=some false∧
  aggT Tp 22=some false∧
  aggT Tp 23=some false∧
  aggT Tp 25=some true∧
  aggT Tp 3=some false∧
  aggT Tp 39=some false∧
  aggT Tp 41=some true∧
  aggT Tp 5=some false∧
  aggT Tp 9=some false∧
  appT Tp 37 37=some (5,1,1)∧
  elemT Tp 37=some 5∧
  elemT Tp 39=some 115∧
  fieldT Tp 115 0=some (0,3)∧
  fieldT Tp 115 1=some (1,3)∧
  fieldT Tp 115 2=some (2,3)∧
  fieldT Tp 115 3=some (3,9)∧
  fieldT Tp 115 4=some (4,25)∧
  fieldT Tp 25 0=some (0,3)∧
  fieldT Tp 25 1=some (1,2)∧
  fieldT Tp 25 2=some (2,22)∧
  fieldT Tp 25 3=some (3,23)∧
  fieldT Tp 25 4=some (4,9)∧
  fieldT Tp 41 0=some (0,39)∧
  fltT Tp 9=none∧
  intT Tp 5=some .u8∧
  intT Tp 9=none∧
  mkT Tp 37=some (5,1,[.v (.int .u8 0)])∧
  sizeT Tp 115=some 9∧
  sizeT Tp 2=some 1∧
  sizeT Tp 22=some 1∧
  sizeT Tp 23=some 1∧
  sizeT Tp 25=some 5∧
  sizeT Tp 3=some 1∧
  sizeT Tp 39=some 1∧
  sizeT Tp 41=some 1∧
  sizeT Tp 5=some 1∧
  sizeT Tp 9=some 1∧
  strT Tp 37=false∧
  strT Tp 9=true∧
  (Tryz.prog.underlying 37).isSome=true∧
  zcT Tp 115=some [.v (.int .i64 0),.v (.int .i64 0),.v (.int .i64 0),.v (.string ⟨#[]⟩),.v (.int .i64 0),.v (.int .i64 0),.v (.float .f64 0),.v (.complex .f64 0 0),.v (.string ⟨#[]⟩)]∧
  zcT Tp 25=some [.v (.int .i64 0),.v (.int .i64 0),.v (.float .f64 0),.v (.complex .f64 0 0),.v (.string ⟨#[]⟩)]∧
  zcT Tp 41=some [.v (.slice none 0 0)]:=
 (by and_intros<;>kernel_rfl)
theorem DrawK.via{P:Program}{ops:Array Oper}{Q:Post}{s:St}(F:St→Prop)(h:∀ K:Post,(∀ s',F s'→K .normal s')→DrawK P ops K s)(h2:∀ s',F s'→Q .normal s'):DrawK P ops Q s:=h Q h2
def Nd.valC(n:Nd):List AV:=[.v (.int .i64 n.vk),.v (.int .i64 n.vi),.v (.float .f64 n.vr),.v (.complex .f64 0 0),.v (.string ⟨n.vt.toArray⟩)]
theorem lenS39(s:List ABlk)(ns:List Nd):lenS Tp 39 s (nodesA ns)=some (.v (.int .i64 ns.length)):=by
 have e24:elemT Tp 39=some 115:=by kernel_rfl
 cases ns with
 |nil=>simp only[nodesA,lenS,e24];rfl
 |cons y T=>simp only[nodesA,lenS,e24];rfl
theorem one_nodes(ns:List Nd):oneA (nodesA ns)=true:=by cases ns<;>rfl
theorem nodesA_sl{ns:List Nd}{i:Nat}{nd:Nd}(h:ns[i]?=some nd):nodesA ns=.sl false ns.length ns.length (ndCells ns):=by
 cases ns with
 |nil=>cases h
 |cons x r=>rfl
theorem c74:bodyT Tp 74:=⟨_,Tryz.func74,by kernel_rfl,by kernel_rfl⟩
theorem c57':bodyT Tp 57:=⟨_,Tryz.func57,by kernel_rfl,by kernel_rfl⟩
def okNd(nd:Nd):Prop:=nd.vk≠3∧nd.vr<18446744073709551616∧nd.vt.length≤140737488351232
def exS8(γ:List (Nat×AV))(ns:List Nd)(i:Nat):St:=⟨⟨81,[(2,.ptr 0 0 0),(3,.ptr 1 0 0),(5,.v (.int .i64 (i:Int)))],γ⟩,[⟨0,41,[nodesA ns]⟩,⟨0,41,[nodesA ns]⟩]⟩
theorem node_same{nd:Nd}(h:okNd nd):Ev Tp γ 57 [.agg nd.valC,.agg nd.valC] (.v (.bool true)):=same_self ⟨nd.vk,nd.vi,nd.vr,0,0,nd.vt⟩ h.1 h.2.1 h.2.2
theorem exprs_ev(ns:List Nd)(hb:ns.length≤2000000)(hok:∀ nd∈ns,okNd nd):Ev Tp γ 74 [.agg [nodesA ns],.agg [nodesA ns]] (.v (.bool true)):=by
 have ll:=fun s=>lenS39 s ns
 have fo:=one_nodes ns;refine Ev.of Tryz.func74 rfl ?_;have d1:(((ns.length:Nat):Int) != ((ns.length:Nat):Int))=false:=by simp
 simp only[Tryz.f74,tyW,fo,ll,d1,evE,tyX,Nat.reduceAdd,Nat.reduceSub,Nat.reduceLT,Nat.reduceEqDiff,reduceCtorEq];refine LoopK.intro (exS8 γ ns) (fun i=>i≤ns.length) (fun i=>ns.length-i) 0 ⟨rfl,rfl,⟨rfl,rfl,rfl,trivial⟩,.inl rfl⟩ (BN _) (fun i hi=>?_)
 by_cases hlt:i<ns.length
 ·have d2:decide (i<ns.length)=true:=decide_eq_true hlt;obtain⟨nd,hnd⟩:∃ nd,ns[i]?=some nd:=⟨ns[i],by simp[hlt]⟩;have eN:=nodesA_sl hnd;have h9:=ndCells_take9 hnd;have h9l:9≤((ndCells ns).drop (i * 9)).length:=by rw[Bd,ndCells_length];omega
  have w1:IntKind.i64.wrap ((i:Int)+1)=((i+1:Nat):Int):=(i64w (by omega) (by omega)).trans (by omega);simp only[exS8,tyW,ll,d2,evE,tyX,Nat.reduceLT,Nat.reduceEqDiff,reduceCtorEq];refine DrawK.via (fun s'=>∃ l0,s'=⟨⟨81,l0,γ⟩,[⟨0,41,[nodesA ns]⟩,⟨0,41,[nodesA ns]⟩,⟨0,115,nd.cells⟩,⟨0,115,nd.cells⟩]⟩∧Go.Ev.look l0 2=.ptr 0 0 0∧Go.Ev.look l0 3=.ptr 1 0 0∧Go.Ev.look l0 5=.v (.int .i64 (i:Int))∧((Go.Ev.look l0 6=.ptr 2 0 0∧Go.Ev.look l0 7=.ptr 3 0 0)∨(Go.Ev.look l0 6=.ptr 3 0 0∧Go.Ev.look l0 7=.ptr 2 0 0))) (fun K hK=>?_) (fun s' hs'=>?_)
  ·refine DrawK.orders2 [[0,1,2,3,4,5,6,7,8,9,10,11,12,13],[0,1,2,3,4,5,6,7,8,9,11,10,12,13],[0,1,2,3,4,10,11,12,5,6,7,8,9,13],[0,1,2,3,4,5,10,11,12,6,7,8,9,13],[0,1,2,3,4,5,6,10,11,12,7,8,9,13],[0,1,2,3,4,5,6,7,10,11,12,8,9,13],[0,1,2,3,4,5,6,7,8,10,11,12,9,13],[0,1,2,3,4,11,10,12,5,6,7,8,9,13],[0,1,2,3,4,5,11,10,12,6,7,8,9,13],[0,1,2,3,4,5,6,11,10,12,7,8,9,13],[0,1,2,3,4,5,6,7,11,10,12,8,9,13],[0,1,2,3,4,5,6,7,8,11,10,12,9,13]] (by kernel_rfl) (by kernel_rfl) (by kernel_rfl) (fun p hp=>?_);simp only[BI,List.not_mem_nil,or_false]at hp
   rcases hp with rfl|rfl|rfl|rfl|rfl|rfl|rfl|rfl|rfl|rfl|rfl|rfl
   all_goals simp only[seqT,BU,Bu,Bz,tyW,eN,h9,h9l,Nd.cells,evE,tyX,Nat.reduceAdd,Nat.reduceLT,Nat.reduceLeDiff,Nat.reduceEqDiff,reduceCtorEq]
   all_goals simp only[eN]at hK
   all_goals refine⟨hlt,hlt,hK _ ⟨_,rfl,?_⟩⟩
   all_goals simp only[evE,Nat.reduceEqDiff]
  ·obtain⟨l0,rfl,a2,a3,a5,hii⟩:=hs';have hs:=node_same (γ:=γ) (hok nd (List.mem_of_getElem? hnd));have z1:(nd.k != nd.k)=false:=by simp
   have z2:(nd.a != nd.a)=false:=by simp
   have z3:(nd.b != nd.b)=false:=by simp
   have z4:(nd.nm != nd.nm)=false:=by simp
   have z5:(nd.vk != nd.vk)=false:=by simp
   simp only[Nd.valC]at hs
   rcases hii with⟨a6,a7⟩|⟨a6,a7⟩
   all_goals cases z6:(nd.vk != 0)with
    |false=>
     simp only[tyW,a5,a6,a7,Nd.cells,z1,z2,z3,z5,z6,w1,evE,tyX,Bv,Nat.reduceLT,Nat.reduceEqDiff,reduceCtorEq];exact loopC.intro (i+1) hlt ⟨rfl,rfl,⟨by simp only[a2,evE,Nat.reduceEqDiff],by simp only[a3,evE,Nat.reduceEqDiff],rfl,trivial⟩,.inr ⟨rfl,rfl,by cases ns<;>rfl⟩⟩ (by show ns.length-(i+1)<ns.length-i;clear w1;omega)
    |true=>
     simp only[tyW,a6,a7,Nd.cells,z1,z2,z3,z5,z6,evE,tyX,Bv,Nat.reduceAdd,Nat.reduceLT,Nat.reduceLeDiff,Nat.reduceEqDiff,reduceCtorEq];refine CallK.intro c57' rfl hs ?_;simp only[a5,w1,evE,Bv,Nat.reduceLT,Nat.reduceEqDiff,reduceCtorEq];exact loopC.intro (i+1) hlt ⟨rfl,rfl,⟨by simp only[a2,evE,Nat.reduceEqDiff],by simp only[a3,evE,Nat.reduceEqDiff],rfl,trivial⟩,.inr ⟨rfl,rfl,by cases ns<;>rfl⟩⟩ (by show ns.length-(i+1)<ns.length-i;clear w1;omega)
 ·have d2:decide (i<ns.length)=false:=decide_eq_false hlt;simp only[exS8,tyW,ll,d2,evE,tyX,Nat.reduceLT,Nat.reduceEqDiff,reduceCtorEq]
theorem c76:bodyT Tp 76:=⟨_,Tryz.func76,by kernel_rfl,by kernel_rfl⟩
def okX(ns:List Nd):Prop:=ns.length≤2000000∧∀ nd∈ns,okNd nd
def okAc(a:Ac):Prop:=okX a.to∧a.args.length≤2000000∧∀ x∈a.args,okX x
theorem lenExps(s:List ABlk)(l:List (List Nd)):lenS Tp 133 s (expsA l)=some (.v (.int .i64 l.length)):=by
 have e:elemT Tp 133=some 41:=by kernel_rfl
 cases l with
 |nil=>simp only[expsA,slA,BD,lenS,e];rfl
 |cons x l=>simp only[expsA,slA,BC,lenS,e];rfl
theorem expsA_sl{l:List (List Nd)}{k:Nat}{x:List Nd}(h:l[k]?=some x):expsA l=.sl false l.length l.length (l.map nodesA):=by
 cases l with
 |nil=>cases h
 |cons y l=>rfl
theorem treeL_x(ns:List Nd):treeL [.agg [nodesA ns],.agg [nodesA ns]]=true:=by cases ns<;>rfl
def acS(γ:List (Nat×AV))(a:Ac)(k:Nat):St:=⟨⟨61,[(2,.ptr 0 0 0),(3,.ptr 1 0 0),(5,.v (.int .i64 (k:Int)))],γ⟩,[⟨0,135,a.cells⟩,⟨0,135,a.cells⟩]⟩
theorem acts_ev(a:Ac)(ok:okAc a):Ev Tp γ 76 [a.av,a.av] (.v (.bool true)):=by
 have ll:=fun s=>lenExps s a.args
 have hx:=exprs_ev (γ:=γ) a.to ok.1.1 ok.1.2;have fo:oneA (nodesA a.to)=true:=by cases a.to<;>rfl
 have fe:oneA (expsA a.args)=true:=by cases a.args<;>rfl
 have z1:(a.kind != a.kind)=false:=by simp
 have z2:(a.name != a.name)=false:=by simp
 have z3:(a.var != a.var)=false:=by simp
 have d1:(((a.args.length:Nat):Int) != ((a.args.length:Nat):Int))=false:=by simp
 refine Ev.ofE Tryz.func76 rfl ?_;simp only[Tryz.f76,tyD,tyW,Ac.av,Ac.cells,intC,strC,fo,fe,z1,evE,tyX,Bv,Nat.reduceAdd,Nat.reduceSub,Nat.reduceLT,Nat.reduceLeDiff,Nat.reduceEqDiff,reduceCtorEq];refine CallE.pure (CallK.intro c74 (treeL_x _) hx ?_);simp only[tyD,ll,d1,evE,Bv,Nat.reduceLT,Nat.reduceEqDiff,reduceCtorEq];refine LoopE.intro (acS γ a) (fun k=>k≤a.args.length) (fun k=>a.args.length-k) 0 ⟨rfl,rfl,⟨rfl,rfl,rfl,trivial⟩,rfl⟩ (BN _) (fun k hk=>?_)
 by_cases hlt:k<a.args.length
 ·have d2:decide (k<a.args.length)=true:=decide_eq_true hlt;obtain⟨x,hxk⟩:∃ x,a.args[k]?=some x:=⟨a.args[k],by simp[hlt]⟩;have eS:=expsA_sl hxk;have hc:(a.args.map nodesA)[k]?=some (nodesA x):=by rw[Bm,hxk];rfl
  have okx:=ok.2.2 x (List.mem_of_getElem? hxk);have hex:=exprs_ev (γ:=γ) x okx.1 okx.2;have ox:oneA (nodesA x)=true:=by cases x<;>rfl
  have h1l:1≤((a.args.map nodesA).drop k).length:=by rw[Bd,Bk];omega
  have ht1:((a.args.map nodesA).drop k).take 1=[nodesA x]:=by
   rw[List.drop_eq_getElem_cons (by rw[Bk];exact hlt)];have:(a.args.map nodesA)[k]?=some ((a.args.map nodesA)[k]'(by rw[Bk];exact hlt)):=List.getElem?_eq_getElem _;rw[hc]at this;simp only[List.take_succ_cons,List.take_zero];rw[←Option.some.inj this]
  have hn:=ok.2.1;have w1:IntKind.i64.wrap ((k:Int)+1)=((k+1:Nat):Int):=(i64w (by omega) (by omega)).trans (by omega);simp only[acS,tyD,Ac.cells,intC,strC,ll,d2,evE,Nat.reduceLT,Nat.reduceEqDiff,reduceCtorEq];refine dI ?_;simp only[tyD,tyW,eS,hc,h1l,ht1,evE,Nat.reduceLT,Nat.reduceEqDiff,reduceCtorEq];refine⟨hlt,hlt,CallK.intro c74 (treeL_x _) hex ?_⟩;simp only[w1,evE,Bv,Nat.reduceLT,Nat.reduceEqDiff,reduceCtorEq];exact loopCE.intro (k+1) hlt ⟨rfl,rfl,⟨rfl,rfl,rfl,trivial⟩,by simp only[acS,Ac.cells,intC,strC,eS]⟩ (by show a.args.length-(k+1)<a.args.length-k;clear w1;omega)
 ·have d2:decide (k<a.args.length)=false:=decide_eq_false hlt;simp only[acS,tyD,Ac.cells,intC,strC,ll,d2,evE,Nat.reduceLT,Nat.reduceEqDiff,reduceCtorEq]
def okCh(c:Ch):Prop:=c.parts.length≤2000000∧(∀ p∈c.parts,p.vars.length≤2000000)∧okX c.guard∧c.body.length≤2000000∧∀ a∈c.body,okAc a
theorem c34:bodyT Tp 34:=⟨_,Tryz.func34,by kernel_rfl,by kernel_rfl⟩
theorem lenParts(s:List ABlk)(l:List Pt):lenS Tp 56 s (partsA l)=some (.v (.int .i64 l.length)):=by
 have e:elemT Tp 56=some 130:=by kernel_rfl
 cases l with
 |nil=>simp only[partsA,slA,BD,lenS,e];rfl
 |cons x l=>simp only[partsA,slA,BC,lenS,e];rfl
theorem lenActs(s:List ABlk)(l:List Ac):lenS Tp 57 s (actsA l)=some (.v (.int .i64 l.length)):=by
 have e:elemT Tp 57=some 135:=by kernel_rfl
 cases l with
 |nil=>simp only[actsA,slA,BD,lenS,e];rfl
 |cons x l=>simp only[actsA,slA,BC,lenS,e];rfl
theorem partsA_sl{l:List Pt}{k:Nat}{x:Pt}(h:l[k]?=some x):partsA l=.sl false l.length l.length (l.flatMap Pt.cells):=by
 cases l with
 |nil=>cases h
 |cons y l=>rfl
theorem actsA_sl{l:List Ac}{k:Nat}{x:Ac}(h:l[k]?=some x):actsA l=.sl false l.length l.length (l.flatMap Ac.cells):=by
 cases l with
 |nil=>cases h
 |cons y l=>rfl
theorem flat_drop{α:Type}{f:α→List AV}{m:Nat}(hf:∀ x,(f x).length=m):∀ (l:List α) (k:Nat) (x:α),l[k]?=some x→((l.flatMap f).drop (k * m)).take m=f x∧k * m+m≤(l.flatMap f).length
 |[],k,x,h=>by cases h
 |y::l,0,x,h=>by
  cases h;rw[Nat.zero_mul,List.drop_zero,BE];exact⟨List.take_left' (hf y),by rw[Bp,hf];omega⟩
 |y::l,k+1,x,h=>by
  have ih:=flat_drop hf l k x (by simpa using h);rw[BE];have e:(k+1) * m=(f y).length+k * m:=by rw[hf,Nat.add_mul,Nat.one_mul,Nat.add_comm]
  rw[e,List.drop_append];refine⟨?_,by rw[Bp];omega⟩;rw[show (f y).length+k * m-(f y).length=k * m by omega,List.drop_eq_nil_of_le (by omega),Bi];exact ih.1
theorem treeL_s(l:List (List UInt8)):treeL [strsA l,strsA l]=true:=by cases l<;>rfl
def chdS(γ:List (Nat×AV))(c:Ch)(k:Nat):St:=⟨⟨93,[(2,.ptr 0 0 0),(3,.ptr 1 0 0),(5,.v (.int .i64 (k:Int)))],γ⟩,[⟨0,59,c.cells⟩,⟨0,59,c.cells⟩]⟩
def che(γ:List (Nat×AV))(c:Ch)(k:Nat):St:=⟨⟨93,[(2,.ptr 0 0 0),(3,.ptr 1 0 0),(6,.v (.int .i64 (k:Int)))],γ⟩,[⟨0,59,c.cells⟩,⟨0,59,c.cells⟩]⟩
theorem chords_ev(c:Ch)(ok:okCh c):Ev Tp γ 34 [c.av,c.av] (.v (.bool true)):=by
 obtain⟨ok1,ok2,ok3,ok4,ok5⟩:=ok;have lp:=fun s=>lenParts s c.parts
 have la:=fun s=>lenActs s c.body
 have hx:=exprs_ev (γ:=γ) c.guard ok3.1 ok3.2;have fo:oneA (nodesA c.guard)=true:=by cases c.guard<;>rfl
 have fp:oneA (partsA c.parts)=true:=by cases c.parts<;>rfl
 have fa:oneA (actsA c.body)=true:=by cases c.body<;>rfl
 have z1:(c.name != c.name)=false:=by simp
 have d1:(((c.parts.length:Nat):Int) != ((c.parts.length:Nat):Int))=false:=by simp
 have d2:(((c.body.length:Nat):Int) != ((c.body.length:Nat):Int))=false:=by simp
 refine Ev.ofE Tryz.func34 rfl ?_;simp only[Tryz.f34,tyD,tyW,Ch.av,Ch.cells,strC,fo,fp,fa,lp,la,d1,d2,evE,tyX,Bv,Nat.reduceAdd,Nat.reduceSub,Nat.reduceLT,Nat.reduceLeDiff,Nat.reduceEqDiff,reduceCtorEq];refine CallE.pure (CallK.intro c74 (treeL_x _) hx ?_);simp only[evE,Bv,Nat.reduceLT,Nat.reduceEqDiff,reduceCtorEq];refine LoopE.intro (chdS γ c) (fun k=>k≤c.parts.length) (fun k=>c.parts.length-k) 0 ⟨rfl,rfl,⟨rfl,rfl,rfl,trivial⟩,rfl⟩ (BN _) (fun k hk=>?_)
 by_cases hlt:k<c.parts.length
 ·have e1:decide (k<c.parts.length)=true:=decide_eq_true hlt;obtain⟨x,hxk⟩:∃ x,c.parts[k]?=some x:=⟨c.parts[k],by simp[hlt]⟩;have eS:=partsA_sl hxk;obtain⟨t2,l2⟩:=flat_drop (f:=Pt.cells) (m:=2) (fun _=>rfl) c.parts k x hxk
  have c0:(c.parts.flatMap Pt.cells)[k * 2]?=some (strC x.tag):=by
   have:=congrArg (fun l=>l[0]?) t2;simpa[BY,BX,Pt.cells]using this
  have c1:(c.parts.flatMap Pt.cells)[k * 2+1]?=some (strsA x.vars):=by
   have:=congrArg (fun l=>l[1]?) t2;simpa[BY,BX,Pt.cells]using this
  have ht:=texts_ev (γ:=γ) x.vars (ok2 x (List.mem_of_getElem? hxk));have zt:(x.tag != x.tag)=false:=by simp
  have ov:oneA (strsA x.vars)=true:=by cases x.vars<;>rfl
  have w1:IntKind.i64.wrap ((k:Int)+1)=((k+1:Nat):Int):=(i64w (by omega) (by omega)).trans (by omega);simp only[chdS,tyD,Ch.cells,strC,lp,e1,evE,Nat.reduceLT,Nat.reduceEqDiff,reduceCtorEq];refine dI ?_;simp only[strC]at c0;simp only[tyD,tyW,eS,c0,c1,evE,tyX,Bv,Nat.reduceLT,Nat.reduceEqDiff,reduceCtorEq];refine⟨hlt,hlt,hlt,hlt,CallK.intro c75 (treeL_s _) ht ?_⟩;simp only[w1,evE,Bv,Nat.reduceLT,Nat.reduceEqDiff,reduceCtorEq];exact loopCE.intro (k+1) hlt ⟨rfl,rfl,⟨rfl,rfl,rfl,trivial⟩,by simp only[chdS,Ch.cells,strC,eS]⟩ (by show c.parts.length-(k+1)<c.parts.length-k;clear w1;omega)
 ·have e1:decide (k<c.parts.length)=false:=decide_eq_false hlt;simp only[chdS,tyD,Ch.cells,strC,lp,e1,evE,Nat.reduceLT,Nat.reduceEqDiff,reduceCtorEq];refine LoopE.intro (che γ c) (fun k=>k≤c.body.length) (fun k=>c.body.length-k) 0 ⟨rfl,rfl,⟨rfl,rfl,rfl,trivial⟩,rfl⟩ (BN _) (fun k hk=>?_)
  by_cases hlt:k<c.body.length
  ·have e1:decide (k<c.body.length)=true:=decide_eq_true hlt;obtain⟨x,hxk⟩:∃ x,c.body[k]?=some x:=⟨c.body[k],by simp[hlt]⟩;have eS:=actsA_sl hxk;obtain⟨t5,l5⟩:=flat_drop (f:=Ac.cells) (m:=5) (fun _=>rfl) c.body k x hxk;have h5l:5≤((c.body.flatMap Ac.cells).drop (k * 5)).length:=by rw[Bd];omega
   have hac:=acts_ev (γ:=γ) x (ok5 x (List.mem_of_getElem? hxk))
   have htr:treeL [x.av,x.av]=true:=by
    cases h1:x.to<;>cases h2:x.args<;>simp only[Ac.av,Ac.cells,h1,h2]<;>rfl
   have w1:IntKind.i64.wrap ((k:Int)+1)=((k+1:Nat):Int):=(i64w (by omega) (by omega)).trans (by omega);simp only[che,tyD,tyW,Ch.cells,strC,la,e1,evE,Nat.reduceLT,Nat.reduceEqDiff,reduceCtorEq];refine dI ?_;simp only[tyD,tyW,eS,t5,h5l,evE,Nat.reduceLT,Nat.reduceEqDiff,reduceCtorEq];refine⟨hlt,hlt,CallK.intro c76 htr hac ?_⟩;simp only[w1,evE,Bv,Nat.reduceLT,Nat.reduceEqDiff,reduceCtorEq];exact loopCE.intro (k+1) hlt ⟨rfl,rfl,⟨rfl,rfl,rfl,trivial⟩,by simp only[che,Ch.cells,strC,eS]⟩ (by show c.body.length-(k+1)<c.body.length-k;clear w1;omega)
  ·have e1:decide (k<c.body.length)=false:=decide_eq_false hlt;simp only[che,tyD,tyW,Ch.cells,strC,la,e1,evE,Nat.reduceLT,Nat.reduceEqDiff,reduceCtorEq]
theorem nf1:nameF 1=n1:=by kernel_rfl
theorem nf2:nameF 2=n2:=by kernel_rfl
theorem nf3:nameF 3=n3:=by kernel_rfl
theorem nf4:nameF 4=n4:=by kernel_rfl
theorem nf5:nameF 5=n5:=by kernel_rfl
theorem typeF_none{l:List UInt8}(h:∀ k:Int,1≤k→k<6→l≠nameF k):typeF l=(0,false):=by
 have a1:l≠n1:=h 1 (by omega) (by omega);have a2:l≠n2:=h 2 (by omega) (by omega);have a3:l≠n3:=h 3 (by omega) (by omega);have a4:l≠n4:=h 4 (by omega) (by omega);have a5:l≠n5:=h 5 (by omega) (by omega);unfold typeF;rw[if_neg (fun e=>a1 e),if_neg (fun e=>a2 e),if_neg (fun e=>a3 e),if_neg (fun e=>a4 e),if_neg (fun e=>a5 e)]
theorem type_ev(l:List UInt8):Ev Tp γ 14 [strA l] (typA (typeF l)):=by
 refine Ev.of Tryz.func14 rfl ?_;have h:=tyN;have w1:IntKind.i64.wrap (0+1)=1:=rfl;have w2:IntKind.i64.wrap (1+1)=2:=rfl;have w3:IntKind.i64.wrap (2+1)=3:=rfl;have w4:IntKind.i64.wrap (3+1)=4:=rfl;have w5:IntKind.i64.wrap (4+1)=5:=rfl;have w6:IntKind.i64.wrap (5+1)=6:=rfl;simp only[strA]at h;simp only[Tryz.f14,strA,evS,Nat.reduceAdd,Nat.reduceSub,Nat.reduceLT]
 (repeat' (first|(with_reducible refine aI ?_ ?_)|(first|(first|refine gF ?_ ?_|refine gT ?_ ?_|refine cI ?_ ?_|refine pI ?_ ?_)<;>intro h|(refine dI ?_;have h:=trivial))<;>simp only[h,evS,tyS,Bv,Bf,Nat.reduceAdd,Nat.reduceSub,Nat.reduceMul,Nat.reduceLT,Nat.reduceLeDiff,Nat.reduceEqDiff,reduceCtorEq,List.reduceReplicate,Int.reduceToNat,Int.reduceLE,Int.reduceLT]))
 refine CallK.intro c56 rfl names_ev ?_;simp only[strA,evS,Nat.reduceLT]
 (repeat' (first|(with_reducible refine aI ?_ ?_)|(first|(first|refine gF ?_ ?_|refine gT ?_ ?_|refine cI ?_ ?_|refine pI ?_ ?_)<;>intro h|(refine dI ?_;have h:=trivial))<;>simp only[h,evS,tyS,Bv,Bf,Nat.reduceAdd,Nat.reduceSub,Nat.reduceMul,Nat.reduceLT,Nat.reduceLeDiff,Nat.reduceEqDiff,reduceCtorEq,List.reduceReplicate,Int.reduceToNat,Int.reduceLE,Int.reduceLT]))
 refine LoopK.intro (fun j:Int=>⟨⟨20,[(0,.v (.string ⟨l.toArray⟩)),(7,.v (.int .i64 j)),(6,.agg [strA [],strA n1,strA n2,strA n3,strA n4,strA n5])],γ⟩,[]⟩) (fun j=>0≤j∧j≤6∧∀ k:Int,1≤k→k<j→l≠nameF k) (fun j=>(6-j).toNat) 0 ?_ ⟨by omega,by omega,fun k _ _=>by omega⟩ (fun j hj=>?_)
 ·simp only[evS,Nat.reduceEqDiff,reduceCtorEq]
  (repeat' (first|(with_reducible refine aI ?_ ?_)|(first|(first|refine gF ?_ ?_|refine gT ?_ ?_|refine cI ?_ ?_|refine pI ?_ ?_)<;>intro h|(refine dI ?_;have h:=trivial))<;>simp only[h,evS,tyS,Bv,Bf,Nat.reduceAdd,Nat.reduceSub,Nat.reduceMul,Nat.reduceLT,Nat.reduceLeDiff,Nat.reduceEqDiff,reduceCtorEq,List.reduceReplicate,Int.reduceToNat,Int.reduceLE,Int.reduceLT]))
  all_goals first|rfl|exact .inl rfl|trace_state
 ·obtain⟨h0,h6,hn⟩:=hj
  rcases (show j=0∨j=1∨j=2∨j=3∨j=4∨j=5∨j=6 by omega)with rfl|rfl|rfl|rfl|rfl|rfl|rfl
  all_goals
   simp only[strA,h,Int.reduceToNat,List.drop_zero,take1_cons,Option.bind_some,evS,Nat.reduceAdd,Nat.reduceLT,Nat.reduceLeDiff,Nat.reduceEqDiff,reduceCtorEq,Int.reduceToNat,Int.reduceLE,Int.reduceLT]
   (repeat' (first|(with_reducible refine aI ?_ ?_)|(first|(first|refine gF ?_ ?_|refine gT ?_ ?_|refine cI ?_ ?_|refine pI ?_ ?_)<;>intro h|(refine dI ?_;have h:=trivial))<;>simp only[h,evS,Nat.reduceLT,Nat.reduceEqDiff,reduceCtorEq,tyS,Bv,Bf,Nat.reduceAdd,Nat.reduceSub,Nat.reduceMul,Nat.reduceLeDiff,List.reduceReplicate,Int.reduceToNat,Int.reduceLE,Int.reduceLT]))
  all_goals try (((try simp only[beq_iff_eq,ne_eq,beq_eq_false_iff_ne]at *)<;>(try omega));done)
  ·refine loopC.intro (0+1:Int) ⟨by omega,by omega,fun k a b=>by omega⟩ ?_ (by decide);rw[w1];simp only[evS,Nat.reduceEqDiff,reduceCtorEq]
   (repeat' (first|(with_reducible refine aI ?_ ?_)|(first|(first|refine gF ?_ ?_|refine gT ?_ ?_|refine cI ?_ ?_|refine pI ?_ ?_)<;>intro h|(refine dI ?_;have h:=trivial))<;>simp only[h,evS,tyS,Bv,Bf,Nat.reduceAdd,Nat.reduceSub,Nat.reduceMul,Nat.reduceLT,Nat.reduceLeDiff,Nat.reduceEqDiff,reduceCtorEq,List.reduceReplicate,Int.reduceToNat,Int.reduceLE,Int.reduceLT]))
   all_goals first|rfl|exact .inl rfl|trace_state
  ·have e:=eq_of_beq (by assumption:(n1==l)=true);subst e;rw[show typeF n1=(1,true)by kernel_rfl,typA];simp only[evS]
   (repeat' (first|(with_reducible refine aI ?_ ?_)|(first|(first|refine gF ?_ ?_|refine gT ?_ ?_|refine cI ?_ ?_|refine pI ?_ ?_)<;>intro h|(refine dI ?_;have h:=trivial))<;>simp only[h,evS,tyS,Bv,Bf,Nat.reduceAdd,Nat.reduceSub,Nat.reduceMul,Nat.reduceLT,Nat.reduceLeDiff,Nat.reduceEqDiff,reduceCtorEq,List.reduceReplicate,Int.reduceToNat,Int.reduceLE,Int.reduceLT]))
   all_goals first|rfl|exact .inl rfl|trace_state
  ·refine loopC.intro (1+1:Int) ⟨by omega,by omega,fun k a b=>?_⟩ ?_ (by decide)
   ·rcases (show k<1∨k=1 by omega)with c|c
    ·exact hn k a c
    ·subst c;intro e;rw[nf1]at e;subst e;simp at *
   ·rw[w2];simp only[evS,Nat.reduceEqDiff,reduceCtorEq]
    (repeat' (first|(with_reducible refine aI ?_ ?_)|(first|(first|refine gF ?_ ?_|refine gT ?_ ?_|refine cI ?_ ?_|refine pI ?_ ?_)<;>intro h|(refine dI ?_;have h:=trivial))<;>simp only[h,evS,tyS,Bv,Bf,Nat.reduceAdd,Nat.reduceSub,Nat.reduceMul,Nat.reduceLT,Nat.reduceLeDiff,Nat.reduceEqDiff,reduceCtorEq,List.reduceReplicate,Int.reduceToNat,Int.reduceLE,Int.reduceLT]))
    all_goals first|rfl|exact .inl rfl|trace_state
  ·have e:=eq_of_beq (by assumption:(n2==l)=true);subst e;rw[show typeF n2=(2,true)by kernel_rfl,typA];simp only[evS]
   (repeat' (first|(with_reducible refine aI ?_ ?_)|(first|(first|refine gF ?_ ?_|refine gT ?_ ?_|refine cI ?_ ?_|refine pI ?_ ?_)<;>intro h|(refine dI ?_;have h:=trivial))<;>simp only[h,evS,tyS,Bv,Bf,Nat.reduceAdd,Nat.reduceSub,Nat.reduceMul,Nat.reduceLT,Nat.reduceLeDiff,Nat.reduceEqDiff,reduceCtorEq,List.reduceReplicate,Int.reduceToNat,Int.reduceLE,Int.reduceLT]))
   all_goals first|rfl|exact .inl rfl|trace_state
  ·refine loopC.intro (2+1:Int) ⟨by omega,by omega,fun k a b=>?_⟩ ?_ (by decide)
   ·rcases (show k<2∨k=2 by omega)with c|c
    ·exact hn k a c
    ·subst c;intro e;rw[nf2]at e;subst e;simp at *
   ·rw[w3];simp only[evS,Nat.reduceEqDiff,reduceCtorEq]
    (repeat' (first|(with_reducible refine aI ?_ ?_)|(first|(first|refine gF ?_ ?_|refine gT ?_ ?_|refine cI ?_ ?_|refine pI ?_ ?_)<;>intro h|(refine dI ?_;have h:=trivial))<;>simp only[h,evS,tyS,Bv,Bf,Nat.reduceAdd,Nat.reduceSub,Nat.reduceMul,Nat.reduceLT,Nat.reduceLeDiff,Nat.reduceEqDiff,reduceCtorEq,List.reduceReplicate,Int.reduceToNat,Int.reduceLE,Int.reduceLT]))
    all_goals first|rfl|exact .inl rfl|trace_state
  ·have e:=eq_of_beq (by assumption:(n3==l)=true);subst e;rw[show typeF n3=(3,true)by kernel_rfl,typA];simp only[evS]
   (repeat' (first|(with_reducible refine aI ?_ ?_)|(first|(first|refine gF ?_ ?_|refine gT ?_ ?_|refine cI ?_ ?_|refine pI ?_ ?_)<;>intro h|(refine dI ?_;have h:=trivial))<;>simp only[h,evS,tyS,Bv,Bf,Nat.reduceAdd,Nat.reduceSub,Nat.reduceMul,Nat.reduceLT,Nat.reduceLeDiff,Nat.reduceEqDiff,reduceCtorEq,List.reduceReplicate,Int.reduceToNat,Int.reduceLE,Int.reduceLT]))
   all_goals first|rfl|exact .inl rfl|trace_state
  ·refine loopC.intro (3+1:Int) ⟨by omega,by omega,fun k a b=>?_⟩ ?_ (by decide)
   ·rcases (show k<3∨k=3 by omega)with c|c
    ·exact hn k a c
    ·subst c;intro e;rw[nf3]at e;subst e;simp at *
   ·rw[w4];simp only[evS,Nat.reduceEqDiff,reduceCtorEq]
    (repeat' (first|(with_reducible refine aI ?_ ?_)|(first|(first|refine gF ?_ ?_|refine gT ?_ ?_|refine cI ?_ ?_|refine pI ?_ ?_)<;>intro h|(refine dI ?_;have h:=trivial))<;>simp only[h,evS,tyS,Bv,Bf,Nat.reduceAdd,Nat.reduceSub,Nat.reduceMul,Nat.reduceLT,Nat.reduceLeDiff,Nat.reduceEqDiff,reduceCtorEq,List.reduceReplicate,Int.reduceToNat,Int.reduceLE,Int.reduceLT]))
    all_goals first|rfl|exact .inl rfl|trace_state
  ·have e:=eq_of_beq (by assumption:(n4==l)=true);subst e;rw[show typeF n4=(4,true)by kernel_rfl,typA];simp only[evS]
   (repeat' (first|(with_reducible refine aI ?_ ?_)|(first|(first|refine gF ?_ ?_|refine gT ?_ ?_|refine cI ?_ ?_|refine pI ?_ ?_)<;>intro h|(refine dI ?_;have h:=trivial))<;>simp only[h,evS,tyS,Bv,Bf,Nat.reduceAdd,Nat.reduceSub,Nat.reduceMul,Nat.reduceLT,Nat.reduceLeDiff,Nat.reduceEqDiff,reduceCtorEq,List.reduceReplicate,Int.reduceToNat,Int.reduceLE,Int.reduceLT]))
   all_goals first|rfl|exact .inl rfl|trace_state
  ·refine loopC.intro (4+1:Int) ⟨by omega,by omega,fun k a b=>?_⟩ ?_ (by decide)
   ·rcases (show k<4∨k=4 by omega)with c|c
    ·exact hn k a c
    ·subst c;intro e;rw[nf4]at e;subst e;simp at *
   ·rw[w5];simp only[evS,Nat.reduceEqDiff,reduceCtorEq]
    (repeat' (first|(with_reducible refine aI ?_ ?_)|(first|(first|refine gF ?_ ?_|refine gT ?_ ?_|refine cI ?_ ?_|refine pI ?_ ?_)<;>intro h|(refine dI ?_;have h:=trivial))<;>simp only[h,evS,tyS,Bv,Bf,Nat.reduceAdd,Nat.reduceSub,Nat.reduceMul,Nat.reduceLT,Nat.reduceLeDiff,Nat.reduceEqDiff,reduceCtorEq,List.reduceReplicate,Int.reduceToNat,Int.reduceLE,Int.reduceLT]))
    all_goals first|rfl|exact .inl rfl|trace_state
  ·have e:=eq_of_beq (by assumption:(n5==l)=true);subst e;rw[show typeF n5=(5,true)by kernel_rfl,typA];simp only[evS]
   (repeat' (first|(with_reducible refine aI ?_ ?_)|(first|(first|refine gF ?_ ?_|refine gT ?_ ?_|refine cI ?_ ?_|refine pI ?_ ?_)<;>intro h|(refine dI ?_;have h:=trivial))<;>simp only[h,evS,tyS,Bv,Bf,Nat.reduceAdd,Nat.reduceSub,Nat.reduceMul,Nat.reduceLT,Nat.reduceLeDiff,Nat.reduceEqDiff,reduceCtorEq,List.reduceReplicate,Int.reduceToNat,Int.reduceLE,Int.reduceLT]))
   all_goals first|rfl|exact .inl rfl|trace_state
  ·refine loopC.intro (5+1:Int) ⟨by omega,by omega,fun k a b=>?_⟩ ?_ (by decide)
   ·rcases (show k<5∨k=5 by omega)with c|c
    ·exact hn k a c
    ·subst c;intro e;rw[nf5]at e;subst e;simp at *
   ·rw[w6];simp only[evS,Nat.reduceEqDiff,reduceCtorEq]
    (repeat' (first|(with_reducible refine aI ?_ ?_)|(first|(first|refine gF ?_ ?_|refine gT ?_ ?_|refine cI ?_ ?_|refine pI ?_ ?_)<;>intro h|(refine dI ?_;have h:=trivial))<;>simp only[h,evS,tyS,Bv,Bf,Nat.reduceAdd,Nat.reduceSub,Nat.reduceMul,Nat.reduceLT,Nat.reduceLeDiff,Nat.reduceEqDiff,reduceCtorEq,List.reduceReplicate,Int.reduceToNat,Int.reduceLE,Int.reduceLT]))
    all_goals first|rfl|exact .inl rfl|trace_state
  ·rw[typeF_none hn];rw[typA];simp only[evS]
   (repeat' (first|(with_reducible refine aI ?_ ?_)|(first|(first|refine gF ?_ ?_|refine gT ?_ ?_|refine cI ?_ ?_|refine pI ?_ ?_)<;>intro h|(refine dI ?_;have h:=trivial))<;>simp only[h,evS,tyS,Bv,Bf,Nat.reduceAdd,Nat.reduceSub,Nat.reduceMul,Nat.reduceLT,Nat.reduceLeDiff,Nat.reduceEqDiff,reduceCtorEq,List.reduceReplicate,Int.reduceToNat,Int.reduceLE,Int.reduceLT]))
   all_goals first|rfl|exact .inl rfl|trace_state
end Go.Proofs.YtlobiioioicmhaaGreatDoor
