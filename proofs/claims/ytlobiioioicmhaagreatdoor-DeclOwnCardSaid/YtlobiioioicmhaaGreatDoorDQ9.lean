/- A part of the proof. -/
import Derived.Test.YtlobiioioicmhaaGreatDoorDQ8
set_option linter.all false
set_option maxHeartbeats 8000000
namespace Go.Proofs.YtlobiioioicmhaaGreatDoor
open _root_.Bool renaming not_true→Bv,not_false→Bf
open _root_.List renaming getElem?_eq_some_iff→Bs,getElem?_append_left→Ba,getElem?_set_self→Be,getElem?_set_ne→Bn,length_set→Bl,append_assoc→Bo,cons_append→Bc,nil_append→Bi,getElem?_eq_none→Bq,set_append_left→Bg,take_of_length_le→Bt,flatMap_cons→BE
open Go.Proofs.Tryz renaming prog→Tp
open Go Go.Ev
def sgB(x:Nat):Bool:=decide (x / 9223372036854775808=1)
theorem rd_bits(x:Nat)(hx:x<18446744073709551616):Ieee.double.read x=if eB x=2047 then (if mB x=0 then .infinity (sgB x)else .nan (sgB x) (mB x))else .number (sgB x) (mM x) (mE x):=by
 have e1:Ieee.double.signWeight=9223372036854775808:=by rfl
 have e2:Ieee.double.binade=4503599627370496:=by rfl
 have e3:Ieee.double.infRung=9218868437227405312:=by rfl
 have e4:Ieee.double.leastPlace = -1074:=by rfl
 have hs:(x / 9223372036854775808%2==1)=sgB x:=by
  unfold sgB;rw[Nat.mod_eq_of_lt (by omega)];cases h:decide (x / 9223372036854775808=1)with
  |true=>simpa using h
  |false=>simpa using h
 unfold Ieee.Format.read;simp only[e1,e2,e3,e4,hs];have hB:eB x=x%9223372036854775808 / 4503599627370496:=by unfold eB;omega
 have hM:mB x=x%9223372036854775808%4503599627370496:=by unfold mB;omega
 have hr:x%9223372036854775808<9223372036854775808:=Nat.mod_lt _ (by decide);generalize x%9223372036854775808=r at *
 by_cases h1:r<4503599627370496
 ·rw[if_pos h1,if_neg (by omega)];unfold mM mE;rw[if_neg (by omega),if_neg (by omega)]
  congr 1
  omega
 ·rw[if_neg h1]
  by_cases h2:r<9218868437227405312
  ·rw[if_pos h2,if_neg (by omega)];unfold mM mE;rw[if_pos (by omega),if_pos (by omega)]
   congr 1<;>omega
  ·have hE:eB x=2047:=by omega
   by_cases h3:r=9218868437227405312
   ·rw[if_neg h2,if_pos h3,if_pos hE,if_pos (by omega)]
   ·rw[if_neg h2,if_neg h3,if_pos hE,if_neg (by omega)];exact congrArg (Ieee.Datum.nan (sgB x)) (by omega)
theorem nanB_eq(x:Nat)(hx:x<18446744073709551616):nanB x=decide (eB x=2047∧mB x≠0):=by
 unfold nanB;show (Ieee.double.order x x != some .eq)=_;unfold Ieee.Format.order;rw[rd_bits x hx]
 by_cases h1:eB x=2047
 ·rw[if_pos h1]
  by_cases h2:mB x=0
  ·rw[if_pos h2,decide_eq_false (by omega)];simp only[Ieee.Datum.order];cases sgB x<;>rfl
  ·rw[if_neg h2,decide_eq_true ⟨h1,h2⟩]
   rfl
 ·rw[if_neg h1,decide_eq_false (by omega)];simp only[Ieee.Datum.order];simp
section
variable {m:Nat} {e:Int}
theorem signed_f(n k:Nat):Ieee.signed false n k=((n * 2^k:Nat):Int):=by
 unfold Ieee.signed;rw[if_neg (by simp),Nat.shiftLeft_eq]
end
def rsame(x y:Nat):Prop:=x=y∨nanB x=true∧nanB y=true
set_option maxRecDepth 20000
variable {γ:List (Nat×AV)}
theorem c54:bodyT Tp 54:=⟨_,Tryz.func54,by kernel_rfl,by kernel_rfl⟩
theorem rmay_ev(v:VD):Ev Tp γ 54 [vA v] (.v (.bool (mayF v))):=by
 refine Ev.of Tryz.func54 rfl ?_;obtain⟨k,n,x,a,b,t⟩:=v;simp only[vA,vC]
 by_cases h4:k=4
 ·subst h4;have z:((4:Int)==4)=true:=rfl
  have e:decide ((t.length:Int)≤256)=decide (t.length≤256):=by
   by_cases h:t.length≤256
   ·rw[decide_eq_true h,decide_eq_true (by omega)]
   ·rw[decide_eq_false h,decide_eq_false (by omega)]
  have em:mayF ⟨4,n,x,a,b,t⟩=decide (t.length≤256):=by unfold mayF;rw[if_neg (by show ¬((4:Int)=1∨(4:Int)=2∨(4:Int)=3);decide),if_pos rfl]
  rw[em];simp only[Tryz.f54,tyV,z,e,evS,tyS,Nat.reduceAdd,Nat.reduceSub,Nat.reduceLT,Nat.reduceEqDiff,reduceCtorEq]
  (repeat' (first|(with_reducible refine aI ?_ ?_)|(first|(first|refine gF ?_ ?_|refine gT ?_ ?_|refine cI ?_ ?_|refine pI ?_ ?_)<;>intro h|(refine dI ?_;have h:=trivial))<;>simp only[h,tyV,z,e,evS,tyS,Bv,Bf,Nat.reduceAdd,Nat.reduceSub,Nat.reduceMul,Nat.reduceLT,Nat.reduceLeDiff,Nat.reduceEqDiff,reduceCtorEq,List.reduceReplicate,Int.reduceToNat,Int.reduceLE,Int.reduceLT]))
  all_goals first|done|rfl|trace_state
 ·have z4:=beq_f h4
  by_cases h5:k=5
  ·subst h5;have z:((5:Int)==5)=true:=rfl;have em:mayF ⟨5,n,x,a,b,t⟩=((n==0) || (n==1)):=by unfold mayF;rw[if_neg (by show ¬((5:Int)=1∨(5:Int)=2∨(5:Int)=3);decide),if_neg (by show ¬((5:Int)=4);decide),if_pos rfl]
   rw[em];cases hn:(n==0)with
   |true=>
    simp only[Tryz.f54,tyV,z4,z,hn,evS,tyS,Nat.reduceAdd,Nat.reduceSub,Nat.reduceLT,Nat.reduceEqDiff,reduceCtorEq]
    (repeat' (first|(with_reducible refine aI ?_ ?_)|(first|(first|refine gF ?_ ?_|refine gT ?_ ?_|refine cI ?_ ?_|refine pI ?_ ?_)<;>intro h|(refine dI ?_;have h:=trivial))<;>simp only[h,tyV,z4,z,hn,evS,tyS,Bv,Bf,Nat.reduceAdd,Nat.reduceSub,Nat.reduceMul,Nat.reduceLT,Nat.reduceLeDiff,Nat.reduceEqDiff,reduceCtorEq,List.reduceReplicate,Int.reduceToNat,Int.reduceLE,Int.reduceLT]))
    all_goals first|done|rfl|trace_state
   |false=>
    simp only[Tryz.f54,tyV,z4,z,hn,evS,tyS,Nat.reduceAdd,Nat.reduceSub,Nat.reduceLT,Nat.reduceEqDiff,reduceCtorEq]
    (repeat' (first|(with_reducible refine aI ?_ ?_)|(first|(first|refine gF ?_ ?_|refine gT ?_ ?_|refine cI ?_ ?_|refine pI ?_ ?_)<;>intro h|(refine dI ?_;have h:=trivial))<;>simp only[h,tyV,z4,z,hn,evS,tyS,Bv,Bf,Nat.reduceAdd,Nat.reduceSub,Nat.reduceMul,Nat.reduceLT,Nat.reduceLeDiff,Nat.reduceEqDiff,reduceCtorEq,List.reduceReplicate,Int.reduceToNat,Int.reduceLE,Int.reduceLT]))
    all_goals first|done|rfl|trace_state
  ·have z5:=beq_f h5
   have em:mayF ⟨k,n,x,a,b,t⟩=(decide (1≤k)&&decide (k≤3)):=by
    unfold mayF;simp only
    by_cases h:k=1∨k=2∨k=3
    ·rw[if_pos h,decide_eq_true (by omega),decide_eq_true (by omega)];rfl
    ·rw[if_neg h,if_neg h4,if_neg h5]
     by_cases h1:1≤k
     ·rw[decide_eq_false (show ¬k≤3 by omega)];simp
     ·rw[decide_eq_false h1];rfl
   rw[em];cases d1:decide (1≤k)with
   |true=>
    simp only[Tryz.f54,tyV,z4,z5,d1,evS,tyS,Nat.reduceAdd,Nat.reduceSub,Nat.reduceLT,Nat.reduceEqDiff,reduceCtorEq]
    (repeat' (first|(with_reducible refine aI ?_ ?_)|(first|(first|refine gF ?_ ?_|refine gT ?_ ?_|refine cI ?_ ?_|refine pI ?_ ?_)<;>intro h|(refine dI ?_;have h:=trivial))<;>simp only[h,tyV,z4,z5,d1,evS,tyS,Bv,Bf,Nat.reduceAdd,Nat.reduceSub,Nat.reduceMul,Nat.reduceLT,Nat.reduceLeDiff,Nat.reduceEqDiff,reduceCtorEq,List.reduceReplicate,Int.reduceToNat,Int.reduceLE,Int.reduceLT]))
    all_goals first|done|rfl|trace_state
   |false=>
    simp only[Tryz.f54,tyV,z4,z5,d1,evS,tyS,Nat.reduceAdd,Nat.reduceSub,Nat.reduceLT,Nat.reduceEqDiff,reduceCtorEq]
    (repeat' (first|(with_reducible refine aI ?_ ?_)|(first|(first|refine gF ?_ ?_|refine gT ?_ ?_|refine cI ?_ ?_|refine pI ?_ ?_)<;>intro h|(refine dI ?_;have h:=trivial))<;>simp only[h,tyV,z4,z5,d1,evS,tyS,Bv,Bf,Nat.reduceAdd,Nat.reduceSub,Nat.reduceMul,Nat.reduceLT,Nat.reduceLeDiff,Nat.reduceEqDiff,reduceCtorEq,List.reduceReplicate,Int.reduceToNat,Int.reduceLE,Int.reduceLT]))
    all_goals first|done|rfl|trace_state
theorem c178:bodyT Tp 178:=⟨_,Tryz.func178,by kernel_rfl,by kernel_rfl⟩
theorem read0:Ieee.double.read 0=.number false 0 (-1074):=rd0
theorem ord0(x:Nat)(hx:x<18446744073709551616)(hn:nanB x=false):(FloatKind.f64.format.order x 0==some .lt)=(sgB x && !decide (eB x=0∧mB x=0))∧(FloatKind.f64.format.order x 0==some .eq)=decide (eB x=0∧mB x=0):=by
 rw[nanB_eq x hx]at hn;have hn':¬(eB x=2047∧mB x≠0):=of_decide_eq_false hn;show (Ieee.double.order x 0==some .lt)=_∧(Ieee.double.order x 0==some .eq)=_;unfold Ieee.Format.order;rw[rd_bits x hx,read0]
 by_cases h1:eB x=2047
 ·have h2:mB x=0:=by omega
  rw[if_pos h1,if_pos h2,decide_eq_false (by omega)];cases sgB x<;>exact⟨rfl,rfl⟩
 ·rw[if_neg h1];have hE : -1074≤mE x:=by unfold mE;split<;>omega
  have hz:(mM x=0)↔(eB x=0∧mB x=0):=by
   unfold mM
   split<;>omega
  simp only[Ieee.Datum.order];rw[Int.min_eq_right hE];have hp:0<2^(mE x - -1074).toNat:=Nat.two_pow_pos _;have e0:Ieee.signed false 0 (-1074 - -1074:Int).toNat=0:=rfl;rw[e0];generalize hk:(mE x - -1074).toNat=k at hp⊢
  by_cases h2:mM x=0
  ·rw[decide_eq_true (hz.1 h2),h2];have:Ieee.signed (sgB x) 0 k=0:=by unfold Ieee.signed;simp
   rw[this];cases sgB x<;>exact⟨rfl,rfl⟩
  ·rw[decide_eq_false (fun h=>h2 (hz.2 h))];have hpos:0<mM x * 2^k:=Nat.mul_pos (by omega) hp;cases sgB x with
   |true=>
    have:Ieee.signed true (mM x) k = -((mM x * 2^k:Nat):Int):=by unfold Ieee.signed;rw[if_pos rfl,Nat.shiftLeft_eq]
    rw[this];have hc:compare (-((mM x * 2^k:Nat):Int)) 0=.lt:=by rw[Int.compare_eq_lt];omega
    rw[hc];exact⟨rfl,rfl⟩
   |false=>
    rw[signed_f];have hc:compare (((mM x * 2^k:Nat):Int)) 0=.gt:=by rw[Int.compare_eq_gt];omega
    rw[hc];exact⟨rfl,rfl⟩
theorem zero_cases{x:Nat}(hx:x<18446744073709551616)(h:eB x=0∧mB x=0):x=0∨x=9223372036854775808:=by
 unfold eB mB at h
 omega
theorem below_ev(x:Nat)(hx:x<18446744073709551616)(hn:nanB x=false):Ev Tp γ 178 [.v (.float .f64 x)] (.v (.bool (sgB x))):=by
 refine Ev.of Tryz.func178 rfl ?_;obtain⟨h1,h2⟩:=ord0 x hx hn
 by_cases hz:eB x=0∧mB x=0
 ·rw[decide_eq_true hz]at h1 h2
  rcases zero_cases hx hz with rfl|rfl
  ·have d:fltRes (FloatKind.f64.format.div 4607182418800017408 0)=.v (.float .f64 9218868437227405312):=by kernel_rfl
   have o:(FloatKind.f64.format.order 9218868437227405312 0==some .lt)=false:=by kernel_rfl
   have h1':(FloatKind.f64.format.order 0 0==some .lt)=false:=by kernel_rfl
   have h2':(FloatKind.f64.format.order 0 0==some .eq)=true:=by kernel_rfl
   have e:sgB 0=false:=by kernel_rfl
   rw[e];simp only[Tryz.f178,h1',h2',d,o,evS,Nat.reduceAdd,Nat.reduceSub,Nat.reduceLT,Nat.reduceEqDiff,reduceCtorEq]
   (repeat' (first|(with_reducible refine aI ?_ ?_)|(first|(first|refine gF ?_ ?_|refine gT ?_ ?_|refine cI ?_ ?_|refine pI ?_ ?_)<;>intro h|(refine dI ?_;have h:=trivial))<;>simp only[h,h1',h2',d,o,evS,tyS,Bv,Bf,Nat.reduceAdd,Nat.reduceSub,Nat.reduceMul,Nat.reduceLT,Nat.reduceLeDiff,Nat.reduceEqDiff,reduceCtorEq,List.reduceReplicate,Int.reduceToNat,Int.reduceLE,Int.reduceLT]))
   all_goals first|done|rfl|trace_state
  ·have d:fltRes (FloatKind.f64.format.div 4607182418800017408 9223372036854775808)=.v (.float .f64 18442240474082181120):=by kernel_rfl
   have o:(FloatKind.f64.format.order 18442240474082181120 0==some .lt)=true:=by kernel_rfl
   have h1':(FloatKind.f64.format.order 9223372036854775808 0==some .lt)=false:=by kernel_rfl
   have h2':(FloatKind.f64.format.order 9223372036854775808 0==some .eq)=true:=by kernel_rfl
   have e:sgB 9223372036854775808=true:=by kernel_rfl
   rw[e];simp only[Tryz.f178,h1',h2',d,o,evS,Nat.reduceAdd,Nat.reduceSub,Nat.reduceLT,Nat.reduceEqDiff,reduceCtorEq]
   (repeat' (first|(with_reducible refine aI ?_ ?_)|(first|(first|refine gF ?_ ?_|refine gT ?_ ?_|refine cI ?_ ?_|refine pI ?_ ?_)<;>intro h|(refine dI ?_;have h:=trivial))<;>simp only[h,h1',h2',d,o,evS,tyS,Bv,Bf,Nat.reduceAdd,Nat.reduceSub,Nat.reduceMul,Nat.reduceLT,Nat.reduceLeDiff,Nat.reduceEqDiff,reduceCtorEq,List.reduceReplicate,Int.reduceToNat,Int.reduceLE,Int.reduceLT]))
   all_goals first|done|rfl|trace_state
 ·rw[decide_eq_false hz]at h1 h2;cases hs:sgB x with
  |true=>
   rw[hs]at h1;have h1':(FloatKind.f64.format.order x 0==some .lt)=true:=h1;simp only[Tryz.f178,h1',evS,Nat.reduceAdd,Nat.reduceSub,Nat.reduceLT,Nat.reduceEqDiff,reduceCtorEq]
   (repeat' (first|(with_reducible refine aI ?_ ?_)|(first|(first|refine gF ?_ ?_|refine gT ?_ ?_|refine cI ?_ ?_|refine pI ?_ ?_)<;>intro h|(refine dI ?_;have h:=trivial))<;>simp only[h,h1',h2,evS,tyS,Bv,Bf,Nat.reduceAdd,Nat.reduceSub,Nat.reduceMul,Nat.reduceLT,Nat.reduceLeDiff,Nat.reduceEqDiff,reduceCtorEq,List.reduceReplicate,Int.reduceToNat,Int.reduceLE,Int.reduceLT]))
   all_goals first|done|rfl|trace_state
  |false=>
   rw[hs]at h1;have h1':(FloatKind.f64.format.order x 0==some .lt)=false:=h1;simp only[Tryz.f178,h1',h2,evS,Nat.reduceAdd,Nat.reduceSub,Nat.reduceLT,Nat.reduceEqDiff,reduceCtorEq]
   (repeat' (first|(with_reducible refine aI ?_ ?_)|(first|(first|refine gF ?_ ?_|refine gT ?_ ?_|refine cI ?_ ?_|refine pI ?_ ?_)<;>intro h|(refine dI ?_;have h:=trivial))<;>simp only[h,h1',h2,evS,tyS,Bv,Bf,Nat.reduceAdd,Nat.reduceSub,Nat.reduceMul,Nat.reduceLT,Nat.reduceLeDiff,Nat.reduceEqDiff,reduceCtorEq,List.reduceReplicate,Int.reduceToNat,Int.reduceLE,Int.reduceLT]))
   all_goals first|done|rfl|trace_state
theorem c56:bodyT Tp 56:=⟨_,Tryz.func56,by kernel_rfl,by kernel_rfl⟩
theorem c14:bodyT Tp 14:=⟨_,Tryz.func14,by kernel_rfl,by kernel_rfl⟩
theorem c180:bodyT Tp 180:=⟨_,Tryz.func180,by kernel_rfl,by kernel_rfl⟩
theorem c111:bodyT Tp 111:=⟨_,Tryz.func111,by kernel_rfl,by kernel_rfl⟩
def strA(l:List UInt8):AV:=.v (.string ⟨l.toArray⟩)
theorem tyN:zcT Tp 97=some [strA [],strA [],strA [],strA [],strA [],strA []]∧arrT Tp 97=some (6,9)∧aggT Tp 97=some true∧sizeT Tp 97=some 6∧placesT Tp 97=none∧sizeT Tp 9=some 1∧aggT Tp 9=some false:=
 (by and_intros<;>kernel_rfl)
theorem names_ev:Ev Tp γ 56 [] (.agg [strA [],strA n1,strA n2,strA n3,strA n4,strA n5]):=by
 refine Ev.of Tryz.func56 rfl ?_;simp only[strA,n1,n2,n3,n4,n5];have h:=tyN;simp only[strA]at h;simp only[Tryz.f56,h,evS,Nat.reduceAdd,Nat.reduceLT,Nat.reduceLeDiff,reduceCtorEq]
 (repeat' (first|(with_reducible refine aI ?_ ?_)|(first|(first|refine gF ?_ ?_|refine gT ?_ ?_|refine cI ?_ ?_|refine pI ?_ ?_)<;>intro h|(refine dI ?_;have h:=trivial))<;>simp only[h,evS,tyS,Bv,Bf,Nat.reduceAdd,Nat.reduceSub,Nat.reduceMul,Nat.reduceLT,Nat.reduceLeDiff,Nat.reduceEqDiff,reduceCtorEq,List.reduceReplicate,Int.reduceToNat,Int.reduceLE,Int.reduceLT]))
 all_goals first|done|rfl|trace_state
def nameF(k:Int):List UInt8:=if k=1 then n1 else if k=2 then n2 else if k=3 then n3 else if k=4 then n4 else if k=5 then n5 else []
def typA(r:Int×Bool):AV:=.tup [.v (.int .i64 r.1),.v (.bool r.2)]
theorem reals_ev(a b:Nat)(ha:a<18446744073709551616)(hb:b<18446744073709551616)(h:rsame a b):Ev Tp γ 180 [.v (.float .f64 a),.v (.float .f64 b)] (.v (.int .i64 0)):=by
 refine Ev.of Tryz.func180 rfl ?_;have hna:(FloatKind.f64.format.order a a != some .eq)=nanB a:=rfl;have hnb:(FloatKind.f64.format.order b b != some .eq)=nanB b:=rfl
 by_cases hn:nanB a=true∧nanB b=true
 ·simp only[Tryz.f180,hna,hnb,hn.1,hn.2,evS,Nat.reduceAdd,Nat.reduceSub,Nat.reduceLT,Nat.reduceEqDiff,reduceCtorEq]
  (repeat' (first|(with_reducible refine aI ?_ ?_)|(first|(first|refine gF ?_ ?_|refine gT ?_ ?_|refine cI ?_ ?_|refine pI ?_ ?_)<;>intro h|(refine dI ?_;have h:=trivial))<;>simp only[h,hna,hnb,hn.1,hn.2,evS,tyS,Bv,Bf,Nat.reduceAdd,Nat.reduceSub,Nat.reduceMul,Nat.reduceLT,Nat.reduceLeDiff,Nat.reduceEqDiff,reduceCtorEq,List.reduceReplicate,Int.reduceToNat,Int.reduceLE,Int.reduceLT]))
  all_goals first|done|rfl|trace_state
 ·have hab:a=b:=by
   rcases h with h|h
   ·exact h
   ·exact absurd h hn
  subst hab
  have hf:nanB a=false:=by
   cases hc:nanB a with
   |false=>rfl
   |true=>exact absurd ⟨hc,hc⟩ hn
  have oe:FloatKind.f64.format.order a a=some .eq:=by
   have:(FloatKind.f64.format.order a a != some .eq)=false:=hf;simpa using this
  have q1:(FloatKind.f64.format.order a a==some .lt)=false:=by rw[oe];rfl
  have q2:(FloatKind.f64.format.order a a==some .eq)=true:=by rw[oe];rfl
  have q3:(FloatKind.f64.format.order a a==some .gt)=false:=by rw[oe];rfl
  have kb:=below_ev (γ:=γ) a ha hf;cases hs:sgB a with
  |true=>
   rw[hs]at kb;simp only[Tryz.f180,hna,hf,q1,q2,evS,Nat.reduceAdd,Nat.reduceSub,Nat.reduceLT,Nat.reduceEqDiff,reduceCtorEq]
   (repeat' (first|(with_reducible refine aI ?_ ?_)|(first|(first|refine gF ?_ ?_|refine gT ?_ ?_|refine cI ?_ ?_|refine pI ?_ ?_)<;>intro h|(refine dI ?_;have h:=trivial))<;>simp only[h,hna,hf,q1,q2,q3,evS,tyS,Bv,Bf,Nat.reduceAdd,Nat.reduceSub,Nat.reduceMul,Nat.reduceLT,Nat.reduceLeDiff,Nat.reduceEqDiff,reduceCtorEq,List.reduceReplicate,Int.reduceToNat,Int.reduceLE,Int.reduceLT]))
   refine CallK.intro c178 rfl kb ?_;simp only[evS,Nat.reduceLT,Nat.reduceEqDiff,reduceCtorEq]
   (repeat' (first|(with_reducible refine aI ?_ ?_)|(first|(first|refine gF ?_ ?_|refine gT ?_ ?_|refine cI ?_ ?_|refine pI ?_ ?_)<;>intro h|(refine dI ?_;have h:=trivial))<;>simp only[h,q1,q2,q3,evS,tyS,Bv,Bf,Nat.reduceAdd,Nat.reduceSub,Nat.reduceMul,Nat.reduceLT,Nat.reduceLeDiff,Nat.reduceEqDiff,reduceCtorEq,List.reduceReplicate,Int.reduceToNat,Int.reduceLE,Int.reduceLT]))
   refine CallK.intro c178 rfl kb ?_;simp only[q2,q3,evS,Bv,Nat.reduceLT,Nat.reduceEqDiff,reduceCtorEq]
   (repeat' (first|(with_reducible refine aI ?_ ?_)|(first|(first|refine gF ?_ ?_|refine gT ?_ ?_|refine cI ?_ ?_|refine pI ?_ ?_)<;>intro h|(refine dI ?_;have h:=trivial))<;>simp only[h,q1,q2,q3,evS,tyS,Bv,Bf,Nat.reduceAdd,Nat.reduceSub,Nat.reduceMul,Nat.reduceLT,Nat.reduceLeDiff,Nat.reduceEqDiff,reduceCtorEq,List.reduceReplicate,Int.reduceToNat,Int.reduceLE,Int.reduceLT]))
   refine CallK.intro c178 rfl kb ?_;simp only[evS,Nat.reduceLT,Nat.reduceEqDiff,reduceCtorEq]
   (repeat' (first|(with_reducible refine aI ?_ ?_)|(first|(first|refine gF ?_ ?_|refine gT ?_ ?_|refine cI ?_ ?_|refine pI ?_ ?_)<;>intro h|(refine dI ?_;have h:=trivial))<;>simp only[h,q1,q2,q3,evS,tyS,Bv,Bf,Nat.reduceAdd,Nat.reduceSub,Nat.reduceMul,Nat.reduceLT,Nat.reduceLeDiff,Nat.reduceEqDiff,reduceCtorEq,List.reduceReplicate,Int.reduceToNat,Int.reduceLE,Int.reduceLT]))
   refine CallK.intro c178 rfl kb ?_;simp only[evS,Bv,Nat.reduceLT,Nat.reduceEqDiff,reduceCtorEq]
   (repeat' (first|(with_reducible refine aI ?_ ?_)|(first|(first|refine gF ?_ ?_|refine gT ?_ ?_|refine cI ?_ ?_|refine pI ?_ ?_)<;>intro h|(refine dI ?_;have h:=trivial))<;>simp only[h,q1,q2,q3,evS,tyS,Bv,Bf,Nat.reduceAdd,Nat.reduceSub,Nat.reduceMul,Nat.reduceLT,Nat.reduceLeDiff,Nat.reduceEqDiff,reduceCtorEq,List.reduceReplicate,Int.reduceToNat,Int.reduceLE,Int.reduceLT]))
   all_goals first|done|rfl|trace_state
  |false=>
   rw[hs]at kb;simp only[Tryz.f180,hna,hf,q1,q2,evS,Nat.reduceAdd,Nat.reduceSub,Nat.reduceLT,Nat.reduceEqDiff,reduceCtorEq]
   (repeat' (first|(with_reducible refine aI ?_ ?_)|(first|(first|refine gF ?_ ?_|refine gT ?_ ?_|refine cI ?_ ?_|refine pI ?_ ?_)<;>intro h|(refine dI ?_;have h:=trivial))<;>simp only[h,hna,hf,q1,q2,q3,evS,tyS,Bv,Bf,Nat.reduceAdd,Nat.reduceSub,Nat.reduceMul,Nat.reduceLT,Nat.reduceLeDiff,Nat.reduceEqDiff,reduceCtorEq,List.reduceReplicate,Int.reduceToNat,Int.reduceLE,Int.reduceLT]))
   refine CallK.intro c178 rfl kb ?_;simp only[q2,q3,evS,Nat.reduceLT,Nat.reduceEqDiff,reduceCtorEq]
   (repeat' (first|(with_reducible refine aI ?_ ?_)|(first|(first|refine gF ?_ ?_|refine gT ?_ ?_|refine cI ?_ ?_|refine pI ?_ ?_)<;>intro h|(refine dI ?_;have h:=trivial))<;>simp only[h,q1,q2,q3,evS,tyS,Bv,Bf,Nat.reduceAdd,Nat.reduceSub,Nat.reduceMul,Nat.reduceLT,Nat.reduceLeDiff,Nat.reduceEqDiff,reduceCtorEq,List.reduceReplicate,Int.reduceToNat,Int.reduceLE,Int.reduceLT]))
   refine CallK.intro c178 rfl kb ?_;simp only[evS,Nat.reduceLT,Nat.reduceEqDiff,reduceCtorEq]
   (repeat' (first|(with_reducible refine aI ?_ ?_)|(first|(first|refine gF ?_ ?_|refine gT ?_ ?_|refine cI ?_ ?_|refine pI ?_ ?_)<;>intro h|(refine dI ?_;have h:=trivial))<;>simp only[h,q1,q2,q3,evS,tyS,Bv,Bf,Nat.reduceAdd,Nat.reduceSub,Nat.reduceMul,Nat.reduceLT,Nat.reduceLeDiff,Nat.reduceEqDiff,reduceCtorEq,List.reduceReplicate,Int.reduceToNat,Int.reduceLE,Int.reduceLT]))
   all_goals first|done|rfl|trace_state
theorem same_of{v w:VD}(h:Ev Tp γ 111 [vA v,vA w] (.v (.int .i64 0))):Ev Tp γ 57 [vA v,vA w] (.v (.bool true)):=by
 refine Ev.of Tryz.func57 rfl ?_;have z:((0:Int)==0)=true:=rfl;simp only[vA,vC]at h⊢;simp only[Tryz.f57,tyV,evS,Nat.reduceAdd,Nat.reduceSub,Nat.reduceLT,Nat.reduceLeDiff,Nat.reduceEqDiff,reduceCtorEq]
 (repeat' (first|(with_reducible refine aI ?_ ?_)|(first|(first|refine gF ?_ ?_|refine gT ?_ ?_|refine cI ?_ ?_|refine pI ?_ ?_)<;>intro h|(refine dI ?_;have h:=trivial))<;>simp only[h,tyV,evS,tyS,Bv,Bf,Nat.reduceAdd,Nat.reduceSub,Nat.reduceMul,Nat.reduceLT,Nat.reduceLeDiff,Nat.reduceEqDiff,reduceCtorEq,List.reduceReplicate,Int.reduceToNat,Int.reduceLE,Int.reduceLT]))
 refine CallK.intro c111 rfl h ?_;simp only[z,evS,Nat.reduceLT,Nat.reduceEqDiff,reduceCtorEq]
 (repeat' (first|(with_reducible refine aI ?_ ?_)|(first|(first|refine gF ?_ ?_|refine gT ?_ ?_|refine cI ?_ ?_|refine pI ?_ ?_)<;>intro h|(refine dI ?_;have h:=trivial))<;>simp only[h,tyV,z,evS,tyS,Bv,Bf,Nat.reduceAdd,Nat.reduceSub,Nat.reduceMul,Nat.reduceLT,Nat.reduceLeDiff,Nat.reduceEqDiff,reduceCtorEq,List.reduceReplicate,Int.reduceToNat,Int.reduceLE,Int.reduceLT]))
 all_goals first|done|rfl|trace_state
theorem nf1:nameF 1=n1:=by kernel_rfl
theorem nf2:nameF 2=n2:=by kernel_rfl
theorem nf3:nameF 3=n3:=by kernel_rfl
theorem nf4:nameF 4=n4:=by kernel_rfl
theorem nf5:nameF 5=n5:=by kernel_rfl
theorem typeF_none{l:List UInt8}(h:∀ k:Int,1≤k→k<6→l≠nameF k):typeF l=(0,false):=by
 have a1:l≠n1:=h 1 (by omega) (by omega);have a2:l≠n2:=h 2 (by omega) (by omega);have a3:l≠n3:=h 3 (by omega) (by omega);have a4:l≠n4:=h 4 (by omega) (by omega);have a5:l≠n5:=h 5 (by omega) (by omega);unfold typeF;rw[if_neg (fun e=>a1 e),if_neg (fun e=>a2 e),if_neg (fun e=>a3 e),if_neg (fun e=>a4 e),if_neg (fun e=>a5 e)]
theorem type_ev(l:List UInt8):Ev Tp γ 14 [strA l] (typA (typeF l)):=by
 refine Ev.of Tryz.func14 rfl ?_;have h:=tyN;have w1:IntKind.i64.wrap (0+1)=1:=rfl;have w2:IntKind.i64.wrap (1+1)=2:=rfl;have w3:IntKind.i64.wrap (2+1)=3:=rfl;have w4:IntKind.i64.wrap (3+1)=4:=rfl;have w5:IntKind.i64.wrap (4+1)=5:=rfl;have w6:IntKind.i64.wrap (5+1)=6:=rfl;simp only[strA]at h;simp only[Tryz.f14,strA,evS,Nat.reduceAdd,Nat.reduceSub,Nat.reduceLT]
 (repeat' (first|(with_reducible refine aI ?_ ?_)|(first|(first|refine gF ?_ ?_|refine gT ?_ ?_|refine cI ?_ ?_|refine pI ?_ ?_)<;>intro h|(refine dI ?_;have h:=trivial))<;>simp only[h,evS,tyS,Bv,Bf,Nat.reduceAdd,Nat.reduceSub,Nat.reduceMul,Nat.reduceLT,Nat.reduceLeDiff,Nat.reduceEqDiff,reduceCtorEq,List.reduceReplicate,Int.reduceToNat,Int.reduceLE,Int.reduceLT]))
 refine CallK.intro c56 rfl names_ev ?_;simp only[strA,evS,Nat.reduceLT]
 (repeat' (first|(with_reducible refine aI ?_ ?_)|(first|(first|refine gF ?_ ?_|refine gT ?_ ?_|refine cI ?_ ?_|refine pI ?_ ?_)<;>intro h|(refine dI ?_;have h:=trivial))<;>simp only[h,evS,tyS,Bv,Bf,Nat.reduceAdd,Nat.reduceSub,Nat.reduceMul,Nat.reduceLT,Nat.reduceLeDiff,Nat.reduceEqDiff,reduceCtorEq,List.reduceReplicate,Int.reduceToNat,Int.reduceLE,Int.reduceLT]))
 refine LoopK.intro (fun j:Int=>⟨⟨20,[(0,.v (.string ⟨l.toArray⟩)),(7,.v (.int .i64 j)),(6,.agg [strA [],strA n1,strA n2,strA n3,strA n4,strA n5])],γ⟩,[]⟩) (fun j=>0≤j∧j≤6∧∀ k:Int,1≤k→k<j→l≠nameF k) (fun j=>(6-j).toNat) 0 ?_ ⟨by omega,by omega,fun k _ _=>by omega⟩ (fun j hj=>?_)
 ·simp only[evS,Nat.reduceEqDiff,reduceCtorEq]
  (repeat' (first|(with_reducible refine aI ?_ ?_)|(first|(first|refine gF ?_ ?_|refine gT ?_ ?_|refine cI ?_ ?_|refine pI ?_ ?_)<;>intro h|(refine dI ?_;have h:=trivial))<;>simp only[h,evS,tyS,Bv,Bf,Nat.reduceAdd,Nat.reduceSub,Nat.reduceMul,Nat.reduceLT,Nat.reduceLeDiff,Nat.reduceEqDiff,reduceCtorEq,List.reduceReplicate,Int.reduceToNat,Int.reduceLE,Int.reduceLT]))
  all_goals first|rfl|exact .inl rfl|trace_state
 ·obtain⟨h0,h6,hn⟩:=hj
  rcases (show j=0∨j=1∨j=2∨j=3∨j=4∨j=5∨j=6 by omega)with rfl|rfl|rfl|rfl|rfl|rfl|rfl
  all_goals
   simp only[strA,h,Int.reduceToNat,List.drop_zero,take1_cons,Option.bind_some,evS,Nat.reduceAdd,Nat.reduceLT,Nat.reduceLeDiff,Nat.reduceEqDiff,reduceCtorEq,Int.reduceToNat,Int.reduceLE,Int.reduceLT]
   (repeat' (first|(with_reducible refine aI ?_ ?_)|(first|(first|refine gF ?_ ?_|refine gT ?_ ?_|refine cI ?_ ?_|refine pI ?_ ?_)<;>intro h|(refine dI ?_;have h:=trivial))<;>simp only[h,evS,Nat.reduceLT,Nat.reduceEqDiff,reduceCtorEq,tyS,Bv,Bf,Nat.reduceAdd,Nat.reduceSub,Nat.reduceMul,Nat.reduceLeDiff,List.reduceReplicate,Int.reduceToNat,Int.reduceLE,Int.reduceLT]))
  all_goals try (((try simp only[beq_iff_eq,ne_eq,beq_eq_false_iff_ne]at *)<;>(try omega));done)
  ·refine loopC.intro (0+1:Int) ⟨by omega,by omega,fun k a b=>by omega⟩ ?_ (by decide);rw[w1];simp only[evS,Nat.reduceEqDiff,reduceCtorEq]
   (repeat' (first|(with_reducible refine aI ?_ ?_)|(first|(first|refine gF ?_ ?_|refine gT ?_ ?_|refine cI ?_ ?_|refine pI ?_ ?_)<;>intro h|(refine dI ?_;have h:=trivial))<;>simp only[h,evS,tyS,Bv,Bf,Nat.reduceAdd,Nat.reduceSub,Nat.reduceMul,Nat.reduceLT,Nat.reduceLeDiff,Nat.reduceEqDiff,reduceCtorEq,List.reduceReplicate,Int.reduceToNat,Int.reduceLE,Int.reduceLT]))
   all_goals first|rfl|exact .inl rfl|trace_state
  ·have e:=eq_of_beq (by assumption:(n1==l)=true);subst e;rw[show typeF n1=(1,true)by kernel_rfl,typA];simp only[evS]
   (repeat' (first|(with_reducible refine aI ?_ ?_)|(first|(first|refine gF ?_ ?_|refine gT ?_ ?_|refine cI ?_ ?_|refine pI ?_ ?_)<;>intro h|(refine dI ?_;have h:=trivial))<;>simp only[h,evS,tyS,Bv,Bf,Nat.reduceAdd,Nat.reduceSub,Nat.reduceMul,Nat.reduceLT,Nat.reduceLeDiff,Nat.reduceEqDiff,reduceCtorEq,List.reduceReplicate,Int.reduceToNat,Int.reduceLE,Int.reduceLT]))
   all_goals first|rfl|exact .inl rfl|trace_state
  ·refine loopC.intro (1+1:Int) ⟨by omega,by omega,fun k a b=>?_⟩ ?_ (by decide)
   ·rcases (show k<1∨k=1 by omega)with c|c
    ·exact hn k a c
    ·subst c;intro e;rw[nf1]at e;subst e;simp at *
   ·rw[w2];simp only[evS,Nat.reduceEqDiff,reduceCtorEq]
    (repeat' (first|(with_reducible refine aI ?_ ?_)|(first|(first|refine gF ?_ ?_|refine gT ?_ ?_|refine cI ?_ ?_|refine pI ?_ ?_)<;>intro h|(refine dI ?_;have h:=trivial))<;>simp only[h,evS,tyS,Bv,Bf,Nat.reduceAdd,Nat.reduceSub,Nat.reduceMul,Nat.reduceLT,Nat.reduceLeDiff,Nat.reduceEqDiff,reduceCtorEq,List.reduceReplicate,Int.reduceToNat,Int.reduceLE,Int.reduceLT]))
    all_goals first|rfl|exact .inl rfl|trace_state
  ·have e:=eq_of_beq (by assumption:(n2==l)=true);subst e;rw[show typeF n2=(2,true)by kernel_rfl,typA];simp only[evS]
   (repeat' (first|(with_reducible refine aI ?_ ?_)|(first|(first|refine gF ?_ ?_|refine gT ?_ ?_|refine cI ?_ ?_|refine pI ?_ ?_)<;>intro h|(refine dI ?_;have h:=trivial))<;>simp only[h,evS,tyS,Bv,Bf,Nat.reduceAdd,Nat.reduceSub,Nat.reduceMul,Nat.reduceLT,Nat.reduceLeDiff,Nat.reduceEqDiff,reduceCtorEq,List.reduceReplicate,Int.reduceToNat,Int.reduceLE,Int.reduceLT]))
   all_goals first|rfl|exact .inl rfl|trace_state
  ·refine loopC.intro (2+1:Int) ⟨by omega,by omega,fun k a b=>?_⟩ ?_ (by decide)
   ·rcases (show k<2∨k=2 by omega)with c|c
    ·exact hn k a c
    ·subst c;intro e;rw[nf2]at e;subst e;simp at *
   ·rw[w3];simp only[evS,Nat.reduceEqDiff,reduceCtorEq]
    (repeat' (first|(with_reducible refine aI ?_ ?_)|(first|(first|refine gF ?_ ?_|refine gT ?_ ?_|refine cI ?_ ?_|refine pI ?_ ?_)<;>intro h|(refine dI ?_;have h:=trivial))<;>simp only[h,evS,tyS,Bv,Bf,Nat.reduceAdd,Nat.reduceSub,Nat.reduceMul,Nat.reduceLT,Nat.reduceLeDiff,Nat.reduceEqDiff,reduceCtorEq,List.reduceReplicate,Int.reduceToNat,Int.reduceLE,Int.reduceLT]))
    all_goals first|rfl|exact .inl rfl|trace_state
  ·have e:=eq_of_beq (by assumption:(n3==l)=true);subst e;rw[show typeF n3=(3,true)by kernel_rfl,typA];simp only[evS]
   (repeat' (first|(with_reducible refine aI ?_ ?_)|(first|(first|refine gF ?_ ?_|refine gT ?_ ?_|refine cI ?_ ?_|refine pI ?_ ?_)<;>intro h|(refine dI ?_;have h:=trivial))<;>simp only[h,evS,tyS,Bv,Bf,Nat.reduceAdd,Nat.reduceSub,Nat.reduceMul,Nat.reduceLT,Nat.reduceLeDiff,Nat.reduceEqDiff,reduceCtorEq,List.reduceReplicate,Int.reduceToNat,Int.reduceLE,Int.reduceLT]))
   all_goals first|rfl|exact .inl rfl|trace_state
  ·refine loopC.intro (3+1:Int) ⟨by omega,by omega,fun k a b=>?_⟩ ?_ (by decide)
   ·rcases (show k<3∨k=3 by omega)with c|c
    ·exact hn k a c
    ·subst c;intro e;rw[nf3]at e;subst e;simp at *
   ·rw[w4];simp only[evS,Nat.reduceEqDiff,reduceCtorEq]
    (repeat' (first|(with_reducible refine aI ?_ ?_)|(first|(first|refine gF ?_ ?_|refine gT ?_ ?_|refine cI ?_ ?_|refine pI ?_ ?_)<;>intro h|(refine dI ?_;have h:=trivial))<;>simp only[h,evS,tyS,Bv,Bf,Nat.reduceAdd,Nat.reduceSub,Nat.reduceMul,Nat.reduceLT,Nat.reduceLeDiff,Nat.reduceEqDiff,reduceCtorEq,List.reduceReplicate,Int.reduceToNat,Int.reduceLE,Int.reduceLT]))
    all_goals first|rfl|exact .inl rfl|trace_state
  ·have e:=eq_of_beq (by assumption:(n4==l)=true);subst e;rw[show typeF n4=(4,true)by kernel_rfl,typA];simp only[evS]
   (repeat' (first|(with_reducible refine aI ?_ ?_)|(first|(first|refine gF ?_ ?_|refine gT ?_ ?_|refine cI ?_ ?_|refine pI ?_ ?_)<;>intro h|(refine dI ?_;have h:=trivial))<;>simp only[h,evS,tyS,Bv,Bf,Nat.reduceAdd,Nat.reduceSub,Nat.reduceMul,Nat.reduceLT,Nat.reduceLeDiff,Nat.reduceEqDiff,reduceCtorEq,List.reduceReplicate,Int.reduceToNat,Int.reduceLE,Int.reduceLT]))
   all_goals first|rfl|exact .inl rfl|trace_state
  ·refine loopC.intro (4+1:Int) ⟨by omega,by omega,fun k a b=>?_⟩ ?_ (by decide)
   ·rcases (show k<4∨k=4 by omega)with c|c
    ·exact hn k a c
    ·subst c;intro e;rw[nf4]at e;subst e;simp at *
   ·rw[w5];simp only[evS,Nat.reduceEqDiff,reduceCtorEq]
    (repeat' (first|(with_reducible refine aI ?_ ?_)|(first|(first|refine gF ?_ ?_|refine gT ?_ ?_|refine cI ?_ ?_|refine pI ?_ ?_)<;>intro h|(refine dI ?_;have h:=trivial))<;>simp only[h,evS,tyS,Bv,Bf,Nat.reduceAdd,Nat.reduceSub,Nat.reduceMul,Nat.reduceLT,Nat.reduceLeDiff,Nat.reduceEqDiff,reduceCtorEq,List.reduceReplicate,Int.reduceToNat,Int.reduceLE,Int.reduceLT]))
    all_goals first|rfl|exact .inl rfl|trace_state
  ·have e:=eq_of_beq (by assumption:(n5==l)=true);subst e;rw[show typeF n5=(5,true)by kernel_rfl,typA];simp only[evS]
   (repeat' (first|(with_reducible refine aI ?_ ?_)|(first|(first|refine gF ?_ ?_|refine gT ?_ ?_|refine cI ?_ ?_|refine pI ?_ ?_)<;>intro h|(refine dI ?_;have h:=trivial))<;>simp only[h,evS,tyS,Bv,Bf,Nat.reduceAdd,Nat.reduceSub,Nat.reduceMul,Nat.reduceLT,Nat.reduceLeDiff,Nat.reduceEqDiff,reduceCtorEq,List.reduceReplicate,Int.reduceToNat,Int.reduceLE,Int.reduceLT]))
   all_goals first|rfl|exact .inl rfl|trace_state
  ·refine loopC.intro (5+1:Int) ⟨by omega,by omega,fun k a b=>?_⟩ ?_ (by decide)
   ·rcases (show k<5∨k=5 by omega)with c|c
    ·exact hn k a c
    ·subst c;intro e;rw[nf5]at e;subst e;simp at *
   ·rw[w6];simp only[evS,Nat.reduceEqDiff,reduceCtorEq]
    (repeat' (first|(with_reducible refine aI ?_ ?_)|(first|(first|refine gF ?_ ?_|refine gT ?_ ?_|refine cI ?_ ?_|refine pI ?_ ?_)<;>intro h|(refine dI ?_;have h:=trivial))<;>simp only[h,evS,tyS,Bv,Bf,Nat.reduceAdd,Nat.reduceSub,Nat.reduceMul,Nat.reduceLT,Nat.reduceLeDiff,Nat.reduceEqDiff,reduceCtorEq,List.reduceReplicate,Int.reduceToNat,Int.reduceLE,Int.reduceLT]))
    all_goals first|rfl|exact .inl rfl|trace_state
  ·rw[typeF_none hn];rw[typA];simp only[evS]
   (repeat' (first|(with_reducible refine aI ?_ ?_)|(first|(first|refine gF ?_ ?_|refine gT ?_ ?_|refine cI ?_ ?_|refine pI ?_ ?_)<;>intro h|(refine dI ?_;have h:=trivial))<;>simp only[h,evS,tyS,Bv,Bf,Nat.reduceAdd,Nat.reduceSub,Nat.reduceMul,Nat.reduceLT,Nat.reduceLeDiff,Nat.reduceEqDiff,reduceCtorEq,List.reduceReplicate,Int.reduceToNat,Int.reduceLE,Int.reduceLT]))
   all_goals first|rfl|exact .inl rfl|trace_state
variable {γ:List (Nat×AV)} {ts:List Tk} {L:AV}
theorem c137:bodyT Tp 137:=⟨_,Tryz.func137,by kernel_rfl,by kernel_rfl⟩
def encI(x:Int):List AV:=[intC x]
def Tg.av(t:Tg):AV:=.agg t.cells
theorem intsA_eq(xs:List Int):slA xs.length (xs.flatMap encI)=intsA xs:=by
 have:xs.flatMap encI=xs.map intC:=by
  induction xs with
  |nil=>rfl
  |cons x xs ih=>rw[BE,ih];rfl
 rw[this];rfl
end Go.Proofs.YtlobiioioicmhaaGreatDoor
namespace Go.Proofs.YtlobiioioicmhaaGreatDoor.O
open _root_.Bool renaming not_true→Bv,not_false→Bf
open _root_.List renaming getElem?_eq_some_iff→Bs,getElem?_append_left→Ba,getElem?_set_self→Be,getElem?_set_ne→Bn,length_set→Bl,append_assoc→Bo,cons_append→Bc,nil_append→Bi,getElem?_eq_none→Bq,set_append_left→Bg,take_of_length_le→Bt,flatMap_cons→BE
open Go.Proofs.Tryz renaming prog→Tp
open Go Go.Ev
set_option maxRecDepth 20000
variable {γ:List (Nat×AV)} {ts:List Tk} {L:AV}
theorem dtag1_ev(E:EnvD γ L ts){i n n0 b rb p:Nat}{h:List ABlk}{nm:List UInt8}{xs:List Int}(hp:p≤ts.length)(hr:RD h i L p n)(hB:BoxL i n0 b rb 137 [strC nm] 3 1 encI h xs)(hxs:(xs.length+1) * 8≤140737488355328):
  EvM Tp γ 204 [.ptr rb 0 0,.ptr b 0 0] h (ResS (IN i b n0) ts n L i h (fun x a h'=>a=.tup []∧BoxL i n0 b rb 137 [strC nm] 3 1 encI h' (xs++[x])) (kindD ts p)):=by
 obtain⟨N,hB'⟩:=hB;have hB2:=hB';obtain⟨a1,a2,a3,a4,a5,a6,a7,a8,a9,a10⟩:=hB2;have hi:h[i]?=_:=hr;have ll:=E.len;refine EvM.of Tryz.func204 rfl ?_
 by_cases hlt:p<ts.length
 ·obtain⟨bb,m,cs,rfl,hcs⟩:=E.sl hlt;obtain⟨t,ht⟩:∃ t,ts[p]?=some t:=⟨ts[p],by simp[hlt]⟩;have h6l:=LAt.len hcs hlt;have h0:cs[p * 6]?=some (.v (.int .i64 t.kind)):=LAt.cell (b:=bb) hcs ht (k:=0) (by decide);have h1:cs[p * 6+1]?=_:=LAt.cell (b:=bb) hcs ht (k:=1) (by decide);have d1:((p:Int)==(ts.length:Int))=false:=by simp only[beq_eq_false_iff_ne,ne_eq];omega
  have hK:kindD ts p=if t.kind=1∧(typeF t.text).2=true∧(typeF t.text).1≠5 then .ok (typeF t.text).1 (p+1)else .bad p 80:=by unfold kindD;rw[ht]
  rw[hK]
  by_cases hk:t.kind=1
  ·have dk:(t.kind != 1)=false:=by simp[hk]
   have hty:=type_ev (γ:=γ) t.text;simp only[Tryz.f204,evE,Nat.reduceAdd,Nat.reduceSub];refine dI ?_;simp only[tyD,a8,hi,ll,d1,h0,dk,evE,tyX,Nat.reduceLT,Nat.reduceEqDiff,reduceCtorEq];refine⟨hlt,?_⟩;refine dI ?_;simp only[tyD,a8,hi,h1,Tk.cells,evE,tyX,Nat.reduceLT,Nat.reduceEqDiff,reduceCtorEq];refine⟨hlt,CallK.intro c14 rfl hty ?_⟩;generalize typeF t.text=R;obtain⟨k,ok⟩:=R;cases ok with
   |false=>
    rw[if_neg (fun h=>by cases h.2.1)];simp only[tyD,a8,typA,evE,Bf,Nat.reduceLT,Nat.reduceEqDiff,reduceCtorEq];refine CallE.intro c127 _ (dfail_ev E hr 80) (fun r h2 hh=>by cases hh.1) (fun v h2 hh=>?_);obtain⟨e,rfl⟩:=hh;cases e;exact⟨Fr.refl _ _,rfl⟩
   |true=>
    by_cases h5:k=5
    ·have d5:(k==5)=true:=by simp[h5]
     rw[if_neg (fun h=>h.2.2 h5)];simp only[tyD,a8,typA,d5,evE,Bv,Nat.reduceLT,Nat.reduceEqDiff,reduceCtorEq];refine CallE.intro c127 _ (dfail_ev E hr 80) (fun r h2 hh=>by cases hh.1) (fun v h2 hh=>?_);obtain⟨e,rfl⟩:=hh;cases e;exact⟨Fr.refl _ _,rfl⟩
    ·have d5:(k==5)=false:=by simp[h5]
     rw[if_pos ⟨hk,rfl,h5⟩];have hn:=E.n;have w1:IntKind.i64.wrap ((p:Int)+1)=((p+1:Nat):Int):=(i64w (by omega) (by omega)).trans (by omega);obtain⟨x,hx⟩:∃ x,x=k:=⟨_,rfl⟩;rw[←hx]at d5⊢;have f1:Fr (IsI i) h (h.set i ⟨0,199,[.sl bb ts.length m cs,.v (.int .i64 ((p+1:Nat):Int)),.v (.int .i64 (n:Int))]⟩):=Fr.set _ rfl;have r1:RD (h.set i ⟨0,199,[.sl bb ts.length m cs,.v (.int .i64 ((p+1:Nat):Int)),.v (.int .i64 (n:Int))]⟩) i (.sl bb ts.length m cs) (p+1) n:=hr.set (p+1);obtain⟨h1,ee⟩:∃ h1,h.set i ⟨0,199,[.sl bb ts.length m cs,.v (.int .i64 ((p+1:Nat):Int)),.v (.int .i64 (n:Int))]⟩=h1:=⟨_,rfl⟩;rw[ee]at f1 r1;obtain⟨b1,b2,b3,b4,b5,b6,b7,b8,b9,b10⟩:=hB'.fr f1
     all_goals have hbl:=(Bs.1 b9).1
     all_goals have hrl:=r1.lt
     all_goals have g7:∀ l,(h1++l)[b]?=some ⟨0,137,[strC nm,N]⟩:=fun l=>(Ba hbl).trans b9
     all_goals have s6:∀ l c,(h1++l).set b c=h1.set b c++l:=fun l c=>Bg _ _ hbl
     all_goals have he:RdL (kT 3) (Old h.length) h1 [intC x] [intC x]:=RdL.int1 x
     all_goals have hxe:(xs++[x]).length=xs.length+1:=by simp
     all_goals have hxf:(xs++[x]).flatMap encI=xs.flatMap encI++[intC x]:=by simp[encI]
     all_goals have hB3:=hB'.fr f1
     all_goals rcases b10 with⟨rfl,e0,e1⟩|⟨j,ver,cs,rfl,hn,hj0,hj,hl,hrd⟩
     all_goals first
      |(have e0':=e0
        simp only[tyD,a8,hi,typA,d5,w1,ee,b9,g7,at_len,s6,Bi,Bo,Bc,strC,evE,tyX,Bv,Nat.reduceAdd,Nat.reduceLT,Nat.reduceLeDiff,Nat.reduceEqDiff,reduceCtorEq,List.reduceReplicate];obtain⟨k1,k2⟩:=hB'.push f1 (h':=h1.set b ⟨0,137,[strC nm,.own (h1.length+1) 0 1]⟩++[⟨0,3,[intC x]⟩,⟨0,3,[intC x]⟩]) (j':=h1.length+1) (ver':=0) (cs:=[]) (es:=[intC x]) (ecs:=[intC x]) (fun j ver e=>by cases e) (fun _=>⟨by omega,rfl⟩) ((Fr.set _ (.inl rfl)).trans (Fr.app (S:=NoB) _ _) fun k e=>e.elim) (at_lenS1 _ _ _ _ _ _) (by rw[e0];exact (Ba (by rw[Bl];exact hbl)).trans (Be hbl)) rfl he;rw[e0]at k1;refine⟨(IN.i f1).trans k2 fun k e=>.inl e,_,rfl,?_,rfl,.own (h1.length+1) 0 1,?_⟩
        ·exact (Ba (by rw[Bl];exact hrl)).trans ((Bn a5.symm).trans r1)
        ·rw[hxe,hxf,e0];exact k1)
      |(have hjl:=(Bs.1 hj).1
        have hjb:j≠b:=by omega
        have hji:j≠i:=by omega
        have q1:∀ l,(h1++l)[j]?=some ⟨ver,3,cs⟩:=fun l=>(Ba hjl).trans hj
        have s8:∀ l c,(h1++l).set j c=h1.set j c++l:=fun l c=>Bg _ _ hjl
        have g9:∀ l c,(h1.set j c++l)[b]?=some ⟨0,137,[strC nm,.own j ver xs.length]⟩:=fun l c=>(Ba (by rw[Bl];exact hbl)).trans ((Bn hjb).trans b9)
        have s9:∀ l c d,(h1.set j c++l).set b d=(h1.set j c).set b d++l:=fun l c d=>Bg _ _ (by rw[Bl];exact hbl)
        have hl':cs.length=xs.length * 1:=by omega
        have q4:List.take (xs.length * 1) cs=cs:=Bt (by omega);have q6:xs.length * 1≤cs.length:=by omega
        simp only[Nat.mul_one]at q4 q6;simp only[tyD,a8,hi,typA,d5,w1,ee,b9,at_len,Bi,Bc,strC,q1,s8,g9,s9,q4,q6,evE,tyX,Bv,Nat.reduceAdd,Nat.reduceLT,Nat.reduceLeDiff,Nat.reduceEqDiff,reduceCtorEq,List.reduceReplicate];obtain⟨k1,k2⟩:=hB'.push f1 (h':=(h1.set j ⟨ver+1,3,cs++[intC x]⟩).set b ⟨0,137,[strC nm,.own j (ver+1) (xs.length+1)]⟩++[⟨0,3,[intC x]⟩]) (j':=j) (ver':=ver+1) (cs:=cs) (es:=[intC x]) (ecs:=[intC x]) (fun j2 ver2 e=>by cases e;exact⟨rfl,hj⟩) (fun e=>by cases e) (((Fr.set (S:=fun k=>k=b∨nbk (.own j ver xs.length) k) _ (.inr rfl)).trans (Fr.set (S:=fun k=>k=b∨nbk (.own j ver xs.length) k) _ (.inl rfl)) fun k e=>.inl e).trans (Fr.app (S:=NoB) _ _) fun k e=>e.elim) ((Ba (by rw[Bl,Bl];exact hjl)).trans ((Bn hjb.symm).trans (Be hjl))) ((Ba (by rw[Bl,Bl];exact hbl)).trans (Be (by rw[Bl];exact hbl))) rfl he;refine⟨hxs,(IN.i f1).trans k2 fun k e=>.inl e,_,rfl,?_,rfl,.own j (ver+1) (xs.length+1),?_⟩
        ·exact (Ba (by rw[Bl,Bl];exact hrl)).trans ((Bn a5.symm).trans ((Bn hji).trans r1))
        ·rw[hxe,hxf];exact k1)
  ·have dk:(t.kind != 1)=true:=by simp[hk]
   rw[if_neg (fun h=>hk h.1)];simp only[Tryz.f204,evE,Nat.reduceAdd,Nat.reduceSub];refine dI ?_;simp only[tyD,a8,hi,ll,d1,h0,dk,evE,tyX,Nat.reduceLT,Nat.reduceEqDiff,reduceCtorEq];refine⟨hlt,CallE.intro c127 _ (dfail_ev E hr 80) (fun r h2 hh=>by cases hh.1) (fun v h2 hh=>?_)⟩;obtain⟨e,rfl⟩:=hh;cases e;exact⟨Fr.refl _ _,rfl⟩
 ·have d1:((p:Int)==(ts.length:Int))=true:=by simp only[beq_iff_eq];omega
  have hK:kindD ts p=.bad p 80:=by unfold kindD;rw[Bq (by omega)]
  rw[hK];simp only[Tryz.f204,evE,Nat.reduceAdd,Nat.reduceSub];refine dI ?_;simp only[tyD,a8,hi,ll,d1,evE,tyX,Nat.reduceLT,Nat.reduceEqDiff,reduceCtorEq];refine CallE.intro c127 _ (dfail_ev E hr 80) (fun r h2 hh=>by cases hh.1) (fun v h2 hh=>?_);obtain⟨e,rfl⟩:=hh;cases e;exact⟨Fr.refl _ _,rfl⟩
theorem dtag_ev(E:EnvD γ L ts){h:List ABlk}{i p n:Nat}(hp:p≤ts.length)(hr:RD h i L p n):
  EvM Tp γ 137 [.ptr i 0 0] h (ResD ts n L i h (RdA (.g (kT 137)) Tg.av h.length) (tagD ts p)):=by
 have hil:=hr.lt;have hn:=E.n;refine EvM.of Tryz.func137 rfl ?_;simp only[Tryz.f137,tyD,at_len,Bo,Bc,Bi,evE,Nat.reduceAdd,Nat.reduceSub,Nat.reduceLT,Nat.reduceEqDiff,reduceCtorEq];refine callD c129 (dword_ev E hp (hr.app _)) (fun nm p1 a h1 e f1 r1 hA=>?_) (fun q e' h1 e f1=>?_)
 rotate_left
 ·unfold tagD;rw[e];exact⟨f1.pre,rfl⟩
 have adv1:=word_adv hp;rw[e]at adv1;obtain⟨_,hp1⟩:=adv1;have eD:tagD ts p=(listD ts (kindD ts) p1).bind fun l p2=>(wantD ts [59] p2).bind fun _ p3=>.ok ⟨nm,l⟩ p3:=by unfold tagD;rw[e];rfl
 rw[eD];subst hA;have k0:h1[h.length]?=some ⟨0,127,[.ptr i 0 0]⟩:=f1.at (at_len _ _ _) (fun e=>by have e:h.length=i:=e;omega);have k1:h1[h.length+1]?=some ⟨0,137,[strC [],.v (.slice none 0 0)]⟩:=f1.at (at_len1 _ _ _ _) (fun e=>by have e:h.length+1=i:=e;omega);have hl1:=(Bs.1 k1).1;have g0:∀ l,(h1++l)[h.length]?=some ⟨0,127,[.ptr i 0 0]⟩:=fun l=>(Ba (by omega)).trans k0
 simp only[tyD,g0,strC,at_len,set_len,evE,Nat.reduceAdd,Nat.reduceLT,Nat.reduceLeDiff,Nat.reduceEqDiff,reduceCtorEq]
 have hlist:=dlisted_ev (b:=h1.length) (n0:=h1.length+1) E (I:=kindD ts) (fun p hp=>kind_adv hp) (Φ:=BoxL i (h1.length+1) h1.length h.length 137 [strC nm] 3 1 encI) (fs:=[]) (cs:=[.ptr h.length 0 0,.ptr h1.length 0 0]) c204
  (fun h h1 xs a f=>a.fr f) (fun h p xs hp hx hr hB=>dtag1_ev E hp hr hB (by omega)) hp1 (r1.app [⟨0,137,[strC nm,.v (.slice none 0 0)]⟩]) ⟨.v (.slice none 0 0),by omega,by omega,by omega,by omega,by omega,by omega,by simp,g0 _,at_len _ _ _,GL.nil⟩
 refine callSE c200 hlist (fun xs q a h2 e2 f2 r2 hA=>?_) (fun q e' h2 e2 f2=>?_)
 rotate_left
 ·rw[e2];exact⟨f1.pre.trans (f2.drop (by omega) (by omega)) fun k e=>.inl e,rfl⟩
 have adv2:=list_adv (ts:=ts) (I:=kindD ts) (fun _=>kind_adv) hp1;rw[e2]at adv2⊢;have eD2:(DR.ok xs q).bind (fun l p2=>(wantD ts [59] p2).bind fun _ p3=>DR.ok (⟨nm,l⟩:Tg) p3)=(wantD ts [59] q).bind fun _ p3=>.ok ⟨nm,xs⟩ p3:=rfl
 rw[eD2];obtain⟨rfl,hB2⟩:=hA;have b8':h2[h.length]?=some ⟨0,127,[.ptr i 0 0]⟩:=by obtain⟨_,_,_,_,_,_,_,_,b8,_⟩:=hB2;exact b8
 have k2:h2[h.length+1]?=some ⟨0,137,[strC [],.v (.slice none 0 0)]⟩:=f2.at ((Ba (by omega)).trans k1) (fun e=>by rcases e with e|e|e<;>omega);simp only[tyD,b8',evE,Nat.reduceLT,Nat.reduceEqDiff,reduceCtorEq];refine callD c128 (dwant_ev E adv2.2 r2 [59]) (fun x q3 a h3 e3 f3 r3 hA=>?_) (fun q' e' h3 e3 f3=>?_)
 rotate_left
 ·rw[e3];exact⟨(f1.pre.trans (f2.drop (by omega) (by omega)) fun k e=>.inl e).trans f3 fun k e=>.inl e,rfl⟩
 rw[e3];subst hA;obtain⟨N,b1,b2,b3,b4,b5,b6,b7,b8,b9,b10⟩:=hB2.fr f3;have hbl:=(Bs.1 b9).1;obtain⟨oN,fN⟩:=b10.one;have k3:=f3.at k2 (fun e=>by have e:h.length+1=i:=e;omega);have s5:∀ c,(h3.set (h.length+1) c)[h.length+1]?=some c:=fun c=>Be (Bs.1 k3).1
 simp only[tyD,b9,k3,s5,oN,setMany,strC,Bc,Bi,evE,Nat.reduceAdd,Nat.reduceLT,Nat.reduceLeDiff,Nat.reduceEqDiff,reduceCtorEq];have rd:=b10.rdS (m:=h.length) (Fr.set (S:=IsI (h.length+1)) (h:=h3) ⟨0,137,[strC nm,N]⟩ rfl) (fun k e _=>by have e:k=h.length+1:=e;omega) (by omega);rw[intsA_eq]at rd;have f12:Fr (IsI i) h h3:=(f1.pre.trans (f2.drop (by omega) (by omega)) fun k e=>.inl e).trans f3 fun k e=>.inl e
 exact⟨f12.trans (Fr.set (S:=IsI (h.length+1)) _ rfl) fun k e=>.inr (by have e:k=h.length+1:=e;omega),_,rfl,(Bn (by omega)).trans r3,Rd.agg (RdL.tg rd)⟩
end Go.Proofs.YtlobiioioicmhaaGreatDoor.O
namespace Go.Proofs.YtlobiioioicmhaaGreatDoor
open _root_.Bool renaming not_true→Bv,not_false→Bf
open _root_.List renaming getElem?_eq_some_iff→Bs,getElem?_append_left→Ba,getElem?_set_self→Be,getElem?_set_ne→Bn,length_set→Bl,append_assoc→Bo,cons_append→Bc,nil_append→Bi,getElem?_eq_none→Bq,set_append_left→Bg,take_of_length_le→Bt,flatMap_cons→BE
open Go.Proofs.Tryz renaming prog→Tp
open Go Go.Ev
def L1(n0:Nat)(t:TypeId)(sz:Nat)(h:List ABlk)(N:AV)(n:Nat)(xs:List AV):Prop:=
 (N=.v (.slice none 0 0)∧n=0∧xs=[])∨∃ j ver,N=.own j ver n∧0<n∧n0≤j∧h[j]?=some ⟨ver,t,xs⟩∧xs.length=n * sz
theorem L1.lt{n0:Nat}{t:TypeId}{sz:Nat}{h:List ABlk}{N:AV}{n:Nat}{xs:List AV}(a:L1 n0 t sz h N n xs){k:Nat}(hk:nbk N k):n0≤k∧k<h.length:=by
 rcases a with⟨rfl,_⟩|⟨j,ver,rfl,hn,hj0,hj,hl⟩
 ·exact hk.elim
 ·have hk':k=j:=hk;subst hk';exact⟨hj0,(Bs.1 hj).1⟩
theorem L1.fr{n0:Nat}{t:TypeId}{sz:Nat}{h h':List ABlk}{N:AV}{n:Nat}{xs:List AV}{S:Nat→Prop}(a:L1 n0 t sz h N n xs)(f:Fr S h h')(hS:∀ k,nbk N k→¬S k):L1 n0 t sz h' N n xs:=by
 rcases a with a|⟨j,ver,rfl,hn,hj0,hj,hl⟩
 ·exact .inl a
 ·exact .inr ⟨j,ver,rfl,hn,hj0,f.at hj (hS j rfl),hl⟩
theorem L1.one{n0:Nat}{t:TypeId}{sz:Nat}{h:List ABlk}{N:AV}{n:Nat}{xs:List AV}(a:L1 n0 t sz h N n xs):oneA N=true∧flat N=some [N]:=by rcases a with⟨rfl,_⟩|⟨j,ver,rfl,_⟩<;>exact⟨rfl,rfl⟩
def S3(n0:Nat)(N1 N2:AV)(k:Nat):Prop:=k<n0∨nbk N1 k∨nbk N2 k
variable {n0:Nat} {t1:TypeId} {s1:Nat} {t2:TypeId} {s2:Nat} {h h':List ABlk} {N1 N2:AV} {n1 n2:Nat} {ys1 ys2:List AV}
end Go.Proofs.YtlobiioioicmhaaGreatDoor
