/- A part of the proof. -/
import Derived.Test.YtlobiioioicmhaaGreatDoorCQ17
import Derived.Shelf.Strconv.Itoa0
import Derived.Shelf.Strconv.Itoa1
import Derived.Shelf.LaysM
import Derived.Shelf.Strconv.Itoa2
import Derived.Shelf.Strconv.Itoa3
import Derived.Test.YtlobiioioicmhaaGreatDoorProg
import Derived.Shelf.Strconv.ToError
import Derived.Lib.Walk
import Derived.Lib.ItoaMem
import Derived.Lib.AppendIntMem
import Derived.WalkKit
import Derived.BigCall
import Derived.BigGuard
import Derived.Lib.IndexLaws
import Derived.Lib.ItoaLen
set_option linter.all false
set_option maxHeartbeats 8000000
namespace Go.Proofs.YtlobiioioicmhaaGreatDoor
open _root_.Bool renaming not_true→Bv,not_false→Bf
open _root_.List renaming getElem?_cons_zero→Bz,getElem?_cons_succ→Bu,getElem?_map→Bm,length_drop→Bd,length_cons→BC,length_nil→BD,mem_cons→BI,getElem?_toArray→BU
open _root_.Nat renaming zero_le→BN
open Go.Proofs.Tryz renaming prog→Tp
open Go Go.Ev
set_option maxRecDepth 20000
variable {γ:List (Nat×AV)}
theorem SB:AX Tp 115=some true∧
  AX Tp 25=some true∧
  AX Tp 39=some false∧
  AX Tp 5=some false∧
  AX Tp 57=some false∧
  I0 Tp 37 37=some (5,1,1)∧
  Az Tp 128=some 9∧
  Az Tp 133=some 41∧
  Az Tp 39=some 115∧
  Az Tp 56=some 130∧
  Az Tp 57=some 135∧
  Az Tp 68=some 137∧
  Az Tp 69=some 90∧
  Az Tp 78=some 3∧
  Az Tp 88=some 59∧
  Al Tp 115 0=some (0,3)∧
  Al Tp 115 1=some (1,3)∧
  Al Tp 115 2=some (2,3)∧
  Al Tp 115 3=some (3,9)∧
  Al Tp 115 4=some (4,25)∧
  Al Tp 130 0=some (0,9)∧
  Al Tp 135 0=some (0,3)∧
  Al Tp 135 1=some (1,41)∧
  Al Tp 137 0=some (0,9)∧
  Al Tp 25 0=some (0,3)∧
  Al Tp 41 0=some (0,39)∧
  Al Tp 59 0=some (0,9)∧
  Al Tp 90 0=some (0,9)∧
  I7.isBoolT Tp 4=true∧
  Od Tp 37=some (5,1,[.v (.int .u8 0)])∧
  Aq Tp 115=some 9∧
  Aq Tp 25=some 5∧
  Aq Tp 39=some 1∧
  Hw Tp 115=some [.v (.int .i64 0),.v (.int .i64 0),.v (.int .i64 0),.v (.string ⟨#[]⟩),.v (.int .i64 0),.v (.int .i64 0),.v (.float .f64 0),.v (.complex .f64 0 0),.v (.string ⟨#[]⟩)]:=
 (by and_intros<;>kernel_rfl)
theorem c75:Ak Tp 75:=⟨_,Tryz.func75,by kernel_rfl,by kernel_rfl⟩
theorem c73:Ak Tp 73:=⟨_,Tryz.func73,by kernel_rfl,by kernel_rfl⟩
theorem c33:Ak Tp 33:=⟨_,Tryz.func33,by kernel_rfl,by kernel_rfl⟩
theorem dP(k:Int):Ev Tp γ 33 [.v (.int .i64 k)] (.v (.int .i64 k)):=by
 refine Ev.ofE Tryz.func33 rfl ?_;simp only[Tryz.f33,Af,seval]
def txS(γ:List (Nat×AV))(A:AV)(k:Nat):St:=⟨⟨26,[(0,A),(1,A),(5,.v (.int .i64 (k:Int)))],γ⟩,[]⟩
theorem kG(s:List Aa)(l:List (List UInt8)):CE Tp 128 s (GZ l)=some (.v (.int .i64 l.length)):=by
 have e:Az Tp 128=some 9:=by kernel_rfl
 cases l with
 |nil=>simp only[GZ,IP,BD,CE,e];rfl
 |cons x l=>simp only[GZ,IP,BC,CE,e];rfl
theorem YB{l:List (List UInt8)}{k:Nat}{x:List UInt8}(h:l[k]?=some x):GZ l=.sl false l.length l.length (l.map Ae):=by
 cases l with
 |nil=>cases h
 |cons y l=>rfl
theorem Z6(l:List (List UInt8))(hn:l.length≤2000000):Ev Tp γ 75 [GZ l,GZ l] (.v (.bool true)):=by
 have ll:=fun s=>kG s l
 have d0:(((l.length:Nat):Int) != ((l.length:Nat):Int))=false:=by simp
 refine Ev.ofE Tryz.func75 rfl ?_;simp only[Tryz.f75,ll,d0,Af,seval];refine Cp.intro (txS γ (GZ l)) (fun k=>k≤l.length) (fun k=>l.length-k) 0 ⟨rfl,rfl,⟨rfl,rfl,rfl,trivial⟩,rfl⟩ (BN _) (fun k hk=>?_)
 by_cases hlt:k<l.length
 ·have d1:decide (k<l.length)=true:=decide_eq_true hlt;obtain⟨x,hx⟩:∃ x,l[k]?=some x:=⟨l[k],by simp[hlt]⟩;have eS:=YB hx;have hc:(l.map Ae)[k]?=some (.v (.string ⟨x.toArray⟩)):=by rw[Bm,hx];rfl
  have w1:IntKind.i64.wrap ((k:Int)+1)=((k+1:Nat):Int):=(A4 (by omega) (by omega)).trans (by omega);have dx:(x != x)=false:=by simp
  simp only[txS,ll,d1,Af,seval];refine dI ?_;simp only[SB,eS,hc,w1,Af,A7,Bv,seval];exact⟨hlt,hlt,AF.intro (k+1) hlt ⟨rfl,rfl,⟨rfl,rfl,rfl,trivial⟩,rfl⟩ (by show l.length-(k+1)<l.length-k;clear w1;omega)⟩
 ·have d1:decide (k<l.length)=false:=decide_eq_false hlt;simp only[txS,ll,d1,Af,seval]
def PU(b:Bool):List UInt8:=if b then [116,114,117,101]else [102,97,108,115,101]
def mB(x:Nat):Nat:=x%4503599627370496
def eB(x:Nat):Nat:=(x / 4503599627370496)%2048
def Mx(x:Nat):Bool:=FloatKind.f64.format.order x x != some .eq
def mM(x:Nat):Nat:=if 0<eB x then mB x+4503599627370496 else mB x
def mE(x:Nat):Int:=if 0<eB x then (eB x:Int)-1075 else -1074
theorem L9:AX Tp 23=some false∧
  AX Tp 25=some true∧
  Al Tp 25 0=some (0,3)∧
  Al Tp 25 1=some (1,2)∧
  Al Tp 25 2=some (2,22)∧
  Al Tp 25 3=some (3,23)∧
  Al Tp 25 4=some (4,9)∧
  BW Tp 25=some [(0,1),(1,1),(2,1),(3,1),(4,1)]∧
  Aq Tp 23=some 1∧
  Aq Tp 25=some 5∧
  Hw Tp 25=some [.v (.int .i64 0),.v (.int .i64 0),.v (.float .f64 0),.v (.complex .f64 0 0),.v (.string ⟨#[]⟩)]∧AX Tp 4=some false:=
 (by and_intros<;>kernel_rfl)
structure VD where
 kind:Int
 int:Int
 real:Nat
 re:Nat
 im:Nat
 text:List UInt8
def vC(v:VD):List AV:=[.v (.int .i64 v.kind),.v (.int .i64 v.int),.v (.float .f64 v.real),.v (.complex .f64 v.re v.im),.v (.string ⟨v.text.toArray⟩)]
def vA(v:VD):AV:=.agg (vC v)
def Qk(v:VD):Bool:=if v.kind=1∨v.kind=2∨v.kind=3 then true else if v.kind=4 then decide (v.text.length≤256)else if v.kind=5 then (v.int==0) || (v.int==1)else false
theorem Ot{a b:Int}(h:a≠b):(a==b)=false:=by
 cases hb:(a==b)with
 |false=>rfl
 |true=>exact absurd (eq_of_beq hb) h
def TA(x:Nat):Bool:=decide (x / 9223372036854775808=1)
theorem Wi(x:Nat)(hx:x<18446744073709551616):Ieee.double.read x=if eB x=2047 then (if mB x=0 then .infinity (TA x)else .nan (TA x) (mB x))else .number (TA x) (mM x) (mE x):=by
 have e1:Ieee.double.signWeight=9223372036854775808:=by rfl
 have e2:Ieee.double.binade=4503599627370496:=by rfl
 have e3:Ieee.double.infRung=9218868437227405312:=by rfl
 have e4:Ieee.double.leastPlace = -1074:=by rfl
 have hs:(x / 9223372036854775808%2==1)=TA x:=by
  unfold TA;rw[Nat.mod_eq_of_lt (by omega)];cases h:decide (x / 9223372036854775808=1)with
  |true=>simpa using h
  |false=>simpa using h
 unfold Ieee.Format.read;simp only[e1,e2,e3,e4,hs];have hB:eB x=x%9223372036854775808 / 4503599627370496:=by unfold eB;omega
 have hM:mB x=x%9223372036854775808%4503599627370496:=by unfold mB;omega
 have hr:x%9223372036854775808<9223372036854775808:=Nat.mod_lt _ (by decide);generalize x%9223372036854775808=r at *
 by_cases h1:r<4503599627370496
 ·rw[if_pos h1,if_neg (by omega)];unfold mM mE;rw[if_neg (by omega),if_neg (by omega)]
  congr 1
  omega
 ·rw[if_neg h1]
  by_cases h2:r<9218868437227405312
  ·rw[if_pos h2,if_neg (by omega)];unfold mM mE;rw[if_pos (by omega),if_pos (by omega)]
   congr 1<;>omega
  ·have hE:eB x=2047:=by omega
   by_cases h3:r=9218868437227405312
   ·rw[if_neg h2,if_pos h3,if_pos hE,if_pos (by omega)]
   ·rw[if_neg h2,if_neg h3,if_pos hE,if_neg (by omega)];exact congrArg (Ieee.Datum.nan (TA x)) (by omega)
theorem dV(x:Nat)(hx:x<18446744073709551616):Mx x=decide (eB x=2047∧mB x≠0):=by
 unfold Mx;show (Ieee.double.order x x != some .eq)=_;unfold Ieee.Format.order;rw[Wi x hx]
 by_cases h1:eB x=2047
 ·rw[if_pos h1]
  by_cases h2:mB x=0
  ·rw[if_pos h2,decide_eq_false (by omega)];simp only[Ieee.Datum.order];cases TA x<;>rfl
  ·rw[if_neg h2,decide_eq_true ⟨h1,h2⟩]
   rfl
 ·rw[if_neg h1,decide_eq_false (by omega)];simp only[Ieee.Datum.order];simp
section
variable {m:Nat} {e:Int}
theorem Z4(n k:Nat):Ieee.signed false n k=((n * 2^k:Nat):Int):=by
 unfold Ieee.signed;rw[if_neg (by simp),Nat.shiftLeft_eq]
end
def oQ(x y:Nat):Prop:=x=y∨Mx x=true∧Mx y=true
theorem c54:Ak Tp 54:=⟨_,Tryz.func54,by kernel_rfl,by kernel_rfl⟩
theorem eM(v:VD):Ev Tp γ 54 [vA v] (.v (.bool (Qk v))):=by
 refine Ev.of Tryz.func54 rfl ?_;obtain⟨k,n,x,a,b,t⟩:=v;simp only[vA,vC]
 by_cases h4:k=4
 ·subst h4;have z:((4:Int)==4)=true:=rfl
  have e:decide ((t.length:Int)≤256)=decide (t.length≤256):=by
   by_cases h:t.length≤256
   ·rw[decide_eq_true h,decide_eq_true (by omega)]
   ·rw[decide_eq_false h,decide_eq_false (by omega)]
  have em:Qk ⟨4,n,x,a,b,t⟩=decide (t.length≤256):=by unfold Qk;rw[if_neg (by show ¬((4:Int)=1∨(4:Int)=2∨(4:Int)=3);decide),if_pos rfl]
  rw[em];simp only[Tryz.f54,L9,z,e,Ad,An,seval]
  (repeat' (first|(with_reducible refine aI ?_ ?_)|(first|(first|refine gF ?_ ?_|refine gT ?_ ?_|refine cI ?_ ?_|refine pI ?_ ?_)<;>intro h|(refine dI ?_;have h:=trivial))<;>simp only[h,L9,z,e,Ad,An,Bv,Bf,seval]))
  all_goals first|done|rfl|trace_state
 ·have z4:=Ot h4
  by_cases h5:k=5
  ·subst h5;have z:((5:Int)==5)=true:=rfl;have em:Qk ⟨5,n,x,a,b,t⟩=((n==0) || (n==1)):=by unfold Qk;rw[if_neg (by show ¬((5:Int)=1∨(5:Int)=2∨(5:Int)=3);decide),if_neg (by show ¬((5:Int)=4);decide),if_pos rfl]
   rw[em];cases hn:(n==0)with
   |true=>
    simp only[Tryz.f54,L9,z4,z,hn,Ad,An,seval]
    (repeat' (first|(with_reducible refine aI ?_ ?_)|(first|(first|refine gF ?_ ?_|refine gT ?_ ?_|refine cI ?_ ?_|refine pI ?_ ?_)<;>intro h|(refine dI ?_;have h:=trivial))<;>simp only[h,L9,z4,z,hn,Ad,An,Bv,Bf,seval]))
    all_goals first|done|rfl|trace_state
   |false=>
    simp only[Tryz.f54,L9,z4,z,hn,Ad,An,seval]
    (repeat' (first|(with_reducible refine aI ?_ ?_)|(first|(first|refine gF ?_ ?_|refine gT ?_ ?_|refine cI ?_ ?_|refine pI ?_ ?_)<;>intro h|(refine dI ?_;have h:=trivial))<;>simp only[h,L9,z4,z,hn,Ad,An,Bv,Bf,seval]))
    all_goals first|done|rfl|trace_state
  ·have z5:=Ot h5
   have em:Qk ⟨k,n,x,a,b,t⟩=(decide (1≤k)&&decide (k≤3)):=by
    unfold Qk;simp only
    by_cases h:k=1∨k=2∨k=3
    ·rw[if_pos h,decide_eq_true (by omega),decide_eq_true (by omega)];rfl
    ·rw[if_neg h,if_neg h4,if_neg h5]
     by_cases h1:1≤k
     ·rw[decide_eq_false (show ¬k≤3 by omega)];simp
     ·rw[decide_eq_false h1];rfl
   rw[em];cases d1:decide (1≤k)with
   |true=>
    simp only[Tryz.f54,L9,z4,z5,d1,Ad,An,seval]
    (repeat' (first|(with_reducible refine aI ?_ ?_)|(first|(first|refine gF ?_ ?_|refine gT ?_ ?_|refine cI ?_ ?_|refine pI ?_ ?_)<;>intro h|(refine dI ?_;have h:=trivial))<;>simp only[h,L9,z4,z5,d1,Ad,An,Bv,Bf,seval]))
    all_goals first|done|rfl|trace_state
   |false=>
    simp only[Tryz.f54,L9,z4,z5,d1,Ad,An,seval]
    (repeat' (first|(with_reducible refine aI ?_ ?_)|(first|(first|refine gF ?_ ?_|refine gT ?_ ?_|refine cI ?_ ?_|refine pI ?_ ?_)<;>intro h|(refine dI ?_;have h:=trivial))<;>simp only[h,L9,z4,z5,d1,Ad,An,Bv,Bf,seval]))
    all_goals first|done|rfl|trace_state
theorem Xu:Ak Tp 178:=⟨_,Tryz.func178,by kernel_rfl,by kernel_rfl⟩
theorem mQ:Ieee.double.read 0=.number false 0 (-1074):=nL
theorem ord0(x:Nat)(hx:x<18446744073709551616)(hn:Mx x=false):(FloatKind.f64.format.order x 0==some .lt)=(TA x && !decide (eB x=0∧mB x=0))∧(FloatKind.f64.format.order x 0==some .eq)=decide (eB x=0∧mB x=0):=by
 rw[dV x hx]at hn;have hn':¬(eB x=2047∧mB x≠0):=of_decide_eq_false hn;show (Ieee.double.order x 0==some .lt)=_∧(Ieee.double.order x 0==some .eq)=_;unfold Ieee.Format.order;rw[Wi x hx,mQ]
 by_cases h1:eB x=2047
 ·have h2:mB x=0:=by omega
  rw[if_pos h1,if_pos h2,decide_eq_false (by omega)];cases TA x<;>exact⟨rfl,rfl⟩
 ·rw[if_neg h1];have hE : -1074≤mE x:=by unfold mE;split<;>omega
  have hz:(mM x=0)↔(eB x=0∧mB x=0):=by
   unfold mM
   split<;>omega
  simp only[Ieee.Datum.order];rw[Int.min_eq_right hE];have hp:0<2^(mE x - -1074).toNat:=Nat.two_pow_pos _;have e0:Ieee.signed false 0 (-1074 - -1074:Int).toNat=0:=rfl;rw[e0];generalize hk:(mE x - -1074).toNat=k at hp⊢
  by_cases h2:mM x=0
  ·rw[decide_eq_true (hz.1 h2),h2];have:Ieee.signed (TA x) 0 k=0:=by unfold Ieee.signed;simp
   rw[this];cases TA x<;>exact⟨rfl,rfl⟩
  ·rw[decide_eq_false (fun h=>h2 (hz.2 h))];have hpos:0<mM x * 2^k:=Nat.mul_pos (by omega) hp;cases TA x with
   |true=>
    have:Ieee.signed true (mM x) k = -((mM x * 2^k:Nat):Int):=by unfold Ieee.signed;rw[if_pos rfl,Nat.shiftLeft_eq]
    rw[this];have hc:compare (-((mM x * 2^k:Nat):Int)) 0=.lt:=by rw[Int.compare_eq_lt];omega
    rw[hc];exact⟨rfl,rfl⟩
   |false=>
    rw[Z4];have hc:compare (((mM x * 2^k:Nat):Int)) 0=.gt:=by rw[Int.compare_eq_gt];omega
    rw[hc];exact⟨rfl,rfl⟩
theorem Ur{x:Nat}(hx:x<18446744073709551616)(h:eB x=0∧mB x=0):x=0∨x=9223372036854775808:=by
 unfold eB mB at h
 omega
theorem YU(x:Nat)(hx:x<18446744073709551616)(hn:Mx x=false):Ev Tp γ 178 [.v (.float .f64 x)] (.v (.bool (TA x))):=by
 refine Ev.of Tryz.func178 rfl ?_;obtain⟨h1,h2⟩:=ord0 x hx hn
 by_cases hz:eB x=0∧mB x=0
 ·rw[decide_eq_true hz]at h1 h2
  rcases Ur hx hz with rfl|rfl
  ·have d:En (FloatKind.f64.format.div 4607182418800017408 0)=.v (.float .f64 9218868437227405312):=by kernel_rfl
   have o:(FloatKind.f64.format.order 9218868437227405312 0==some .lt)=false:=by kernel_rfl
   have h1':(FloatKind.f64.format.order 0 0==some .lt)=false:=by kernel_rfl
   have h2':(FloatKind.f64.format.order 0 0==some .eq)=true:=by kernel_rfl
   have e:TA 0=false:=by kernel_rfl
   rw[e];simp only[Tryz.f178,h1',h2',d,o,Ad,seval]
   (repeat' (first|(with_reducible refine aI ?_ ?_)|(first|(first|refine gF ?_ ?_|refine gT ?_ ?_|refine cI ?_ ?_|refine pI ?_ ?_)<;>intro h|(refine dI ?_;have h:=trivial))<;>simp only[h,h1',h2',d,o,Ad,An,Bv,Bf,seval]))
   all_goals first|done|rfl|trace_state
  ·have d:En (FloatKind.f64.format.div 4607182418800017408 9223372036854775808)=.v (.float .f64 18442240474082181120):=by kernel_rfl
   have o:(FloatKind.f64.format.order 18442240474082181120 0==some .lt)=true:=by kernel_rfl
   have h1':(FloatKind.f64.format.order 9223372036854775808 0==some .lt)=false:=by kernel_rfl
   have h2':(FloatKind.f64.format.order 9223372036854775808 0==some .eq)=true:=by kernel_rfl
   have e:TA 9223372036854775808=true:=by kernel_rfl
   rw[e];simp only[Tryz.f178,h1',h2',d,o,Ad,seval]
   (repeat' (first|(with_reducible refine aI ?_ ?_)|(first|(first|refine gF ?_ ?_|refine gT ?_ ?_|refine cI ?_ ?_|refine pI ?_ ?_)<;>intro h|(refine dI ?_;have h:=trivial))<;>simp only[h,h1',h2',d,o,Ad,An,Bv,Bf,seval]))
   all_goals first|done|rfl|trace_state
 ·rw[decide_eq_false hz]at h1 h2;cases hs:TA x with
  |true=>
   rw[hs]at h1;have h1':(FloatKind.f64.format.order x 0==some .lt)=true:=h1;simp only[Tryz.f178,h1',Ad,seval]
   (repeat' (first|(with_reducible refine aI ?_ ?_)|(first|(first|refine gF ?_ ?_|refine gT ?_ ?_|refine cI ?_ ?_|refine pI ?_ ?_)<;>intro h|(refine dI ?_;have h:=trivial))<;>simp only[h,h1',h2,Ad,An,Bv,Bf,seval]))
   all_goals first|done|rfl|trace_state
  |false=>
   rw[hs]at h1;have h1':(FloatKind.f64.format.order x 0==some .lt)=false:=h1;simp only[Tryz.f178,h1',h2,Ad,seval]
   (repeat' (first|(with_reducible refine aI ?_ ?_)|(first|(first|refine gF ?_ ?_|refine gT ?_ ?_|refine cI ?_ ?_|refine pI ?_ ?_)<;>intro h|(refine dI ?_;have h:=trivial))<;>simp only[h,h1',h2,Ad,An,Bv,Bf,seval]))
   all_goals first|done|rfl|trace_state
theorem c56:Ak Tp 56:=⟨_,Tryz.func56,by kernel_rfl,by kernel_rfl⟩
theorem c19:Ak Tp 19:=⟨_,Tryz.func19,by kernel_rfl,by kernel_rfl⟩
theorem c14:Ak Tp 14:=⟨_,Tryz.func14,by kernel_rfl,by kernel_rfl⟩
theorem c15:Ak Tp 15:=⟨_,Tryz.func15,by kernel_rfl,by kernel_rfl⟩
theorem c180:Ak Tp 180:=⟨_,Tryz.func180,by kernel_rfl,by kernel_rfl⟩
theorem c111:Ak Tp 111:=⟨_,Tryz.func111,by kernel_rfl,by kernel_rfl⟩
def Ew(l:List UInt8):AV:=.v (.string ⟨l.toArray⟩)
theorem tyN:Hw Tp 97=some [Ew [],Ew [],Ew [],Ew [],Ew [],Ew []]∧OL Tp 97=some (6,9)∧AX Tp 97=some true∧Aq Tp 97=some 6∧BW Tp 97=none∧Aq Tp 9=some 1∧AX Tp 9=some false:=
 (by and_intros<;>kernel_rfl)
theorem ZB:Ev Tp γ 56 [] (.agg [Ew [],Ew n1,Ew n2,Ew n3,Ew n4,Ew n5]):=by
 refine Ev.of Tryz.func56 rfl ?_;simp only[Ew,n1,n2,n3,n4,n5];have h:=tyN;simp only[Ew]at h;simp only[Tryz.f56,h,Ad,seval]
 (repeat' (first|(with_reducible refine aI ?_ ?_)|(first|(first|refine gF ?_ ?_|refine gT ?_ ?_|refine cI ?_ ?_|refine pI ?_ ?_)<;>intro h|(refine dI ?_;have h:=trivial))<;>simp only[h,Ad,An,Bv,Bf,seval]))
 all_goals first|done|rfl|trace_state
def HN(k:Int):List UInt8:=if k=1 then n1 else if k=2 then n2 else if k=3 then n3 else if k=4 then n4 else if k=5 then n5 else []
theorem aJ(k:Int):Ev Tp γ 19 [.v (.int .i64 k)] (Ew (HN k)):=by
 refine Ev.of Tryz.func19 rfl ?_;unfold HN Ew
 by_cases h1:k=1
 ·subst h1;have z:((1:Int)==1)=true:=rfl;rw[if_pos rfl];simp only[Tryz.f19,z,n1,Ad,seval]
  (repeat' (first|(with_reducible refine aI ?_ ?_)|(first|(first|refine gF ?_ ?_|refine gT ?_ ?_|refine cI ?_ ?_|refine pI ?_ ?_)<;>intro h|(refine dI ?_;have h:=trivial))<;>simp only[h,z,Ad,An,Bv,Bf,seval]))
  all_goals first|done|rfl|trace_state
 ·have z1:=Ot h1;rw[if_neg h1]
  by_cases h2:k=2
  ·subst h2;have z:((2:Int)==2)=true:=rfl;rw[if_pos rfl];simp only[Tryz.f19,z1,z,n2,Ad,seval]
   (repeat' (first|(with_reducible refine aI ?_ ?_)|(first|(first|refine gF ?_ ?_|refine gT ?_ ?_|refine cI ?_ ?_|refine pI ?_ ?_)<;>intro h|(refine dI ?_;have h:=trivial))<;>simp only[h,z1,z,Ad,An,Bv,Bf,seval]))
   all_goals first|done|rfl|trace_state
  ·have z2:=Ot h2;rw[if_neg h2]
   by_cases h3:k=3
   ·subst h3;have z:((3:Int)==3)=true:=rfl;rw[if_pos rfl];simp only[Tryz.f19,z1,z2,z,n3,Ad,seval]
    (repeat' (first|(with_reducible refine aI ?_ ?_)|(first|(first|refine gF ?_ ?_|refine gT ?_ ?_|refine cI ?_ ?_|refine pI ?_ ?_)<;>intro h|(refine dI ?_;have h:=trivial))<;>simp only[h,z1,z2,z,Ad,An,Bv,Bf,seval]))
    all_goals first|done|rfl|trace_state
   ·have z3:=Ot h3;rw[if_neg h3]
    by_cases h4:k=4
    ·subst h4;have z:((4:Int)==4)=true:=rfl;rw[if_pos rfl];simp only[Tryz.f19,z1,z2,z3,z,n4,Ad,seval]
     (repeat' (first|(with_reducible refine aI ?_ ?_)|(first|(first|refine gF ?_ ?_|refine gT ?_ ?_|refine cI ?_ ?_|refine pI ?_ ?_)<;>intro h|(refine dI ?_;have h:=trivial))<;>simp only[h,z1,z2,z3,z,Ad,An,Bv,Bf,seval]))
     all_goals first|done|rfl|trace_state
    ·have z4:=Ot h4;rw[if_neg h4]
     by_cases h5:k=5
     ·subst h5;have z:((5:Int)==5)=true:=rfl;rw[if_pos rfl];simp only[Tryz.f19,z1,z2,z3,z4,z,n5,Ad,seval]
      (repeat' (first|(with_reducible refine aI ?_ ?_)|(first|(first|refine gF ?_ ?_|refine gT ?_ ?_|refine cI ?_ ?_|refine pI ?_ ?_)<;>intro h|(refine dI ?_;have h:=trivial))<;>simp only[h,z1,z2,z3,z4,z,Ad,An,Bv,Bf,seval]))
      all_goals first|done|rfl|trace_state
     ·have z5:=Ot h5;rw[if_neg h5];simp only[Tryz.f19,z1,z2,z3,z4,z5,Ad,seval]
      (repeat' (first|(with_reducible refine aI ?_ ?_)|(first|(first|refine gF ?_ ?_|refine gT ?_ ?_|refine cI ?_ ?_|refine pI ?_ ?_)<;>intro h|(refine dI ?_;have h:=trivial))<;>simp only[h,z1,z2,z3,z4,z5,Ad,An,Bv,Bf,seval]))
      all_goals first|done|rfl|trace_state
def IQ(r:Int×Bool):AV:=.tup [.v (.int .i64 r.1),.v (.bool r.2)]
theorem aW(a b:Nat)(ha:a<18446744073709551616)(hb:b<18446744073709551616)(h:oQ a b):Ev Tp γ 180 [.v (.float .f64 a),.v (.float .f64 b)] (.v (.int .i64 0)):=by
 refine Ev.of Tryz.func180 rfl ?_;have hna:(FloatKind.f64.format.order a a != some .eq)=Mx a:=rfl;have hnb:(FloatKind.f64.format.order b b != some .eq)=Mx b:=rfl
 by_cases hn:Mx a=true∧Mx b=true
 ·simp only[Tryz.f180,hna,hnb,hn.1,hn.2,Ad,seval]
  (repeat' (first|(with_reducible refine aI ?_ ?_)|(first|(first|refine gF ?_ ?_|refine gT ?_ ?_|refine cI ?_ ?_|refine pI ?_ ?_)<;>intro h|(refine dI ?_;have h:=trivial))<;>simp only[h,hna,hnb,hn.1,hn.2,Ad,An,Bv,Bf,seval]))
  all_goals first|done|rfl|trace_state
 ·have hab:a=b:=by
   rcases h with h|h
   ·exact h
   ·exact absurd h hn
  subst hab
  have hf:Mx a=false:=by
   cases hc:Mx a with
   |false=>rfl
   |true=>exact absurd ⟨hc,hc⟩ hn
  have oe:FloatKind.f64.format.order a a=some .eq:=by
   have:(FloatKind.f64.format.order a a != some .eq)=false:=hf;simpa using this
  have q1:(FloatKind.f64.format.order a a==some .lt)=false:=by rw[oe];rfl
  have q2:(FloatKind.f64.format.order a a==some .eq)=true:=by rw[oe];rfl
  have q3:(FloatKind.f64.format.order a a==some .gt)=false:=by rw[oe];rfl
  have kb:=YU (γ:=γ) a ha hf;cases hs:TA a with
  |true=>
   rw[hs]at kb;simp only[Tryz.f180,hna,hf,q1,q2,Ad,seval]
   (repeat' (first|(with_reducible refine aI ?_ ?_)|(first|(first|refine gF ?_ ?_|refine gT ?_ ?_|refine cI ?_ ?_|refine pI ?_ ?_)<;>intro h|(refine dI ?_;have h:=trivial))<;>simp only[h,hna,hf,q1,q2,q3,Ad,An,Bv,Bf,seval]))
   refine Ag.intro Xu rfl kb ?_;simp only[Ad,seval]
   (repeat' (first|(with_reducible refine aI ?_ ?_)|(first|(first|refine gF ?_ ?_|refine gT ?_ ?_|refine cI ?_ ?_|refine pI ?_ ?_)<;>intro h|(refine dI ?_;have h:=trivial))<;>simp only[h,q1,q2,q3,Ad,An,Bv,Bf,seval]))
   refine Ag.intro Xu rfl kb ?_;simp only[q2,q3,Ad,Bv,seval]
   (repeat' (first|(with_reducible refine aI ?_ ?_)|(first|(first|refine gF ?_ ?_|refine gT ?_ ?_|refine cI ?_ ?_|refine pI ?_ ?_)<;>intro h|(refine dI ?_;have h:=trivial))<;>simp only[h,q1,q2,q3,Ad,An,Bv,Bf,seval]))
   refine Ag.intro Xu rfl kb ?_;simp only[Ad,seval]
   (repeat' (first|(with_reducible refine aI ?_ ?_)|(first|(first|refine gF ?_ ?_|refine gT ?_ ?_|refine cI ?_ ?_|refine pI ?_ ?_)<;>intro h|(refine dI ?_;have h:=trivial))<;>simp only[h,q1,q2,q3,Ad,An,Bv,Bf,seval]))
   refine Ag.intro Xu rfl kb ?_;simp only[Ad,Bv,seval]
   (repeat' (first|(with_reducible refine aI ?_ ?_)|(first|(first|refine gF ?_ ?_|refine gT ?_ ?_|refine cI ?_ ?_|refine pI ?_ ?_)<;>intro h|(refine dI ?_;have h:=trivial))<;>simp only[h,q1,q2,q3,Ad,An,Bv,Bf,seval]))
   all_goals first|done|rfl|trace_state
  |false=>
   rw[hs]at kb;simp only[Tryz.f180,hna,hf,q1,q2,Ad,seval]
   (repeat' (first|(with_reducible refine aI ?_ ?_)|(first|(first|refine gF ?_ ?_|refine gT ?_ ?_|refine cI ?_ ?_|refine pI ?_ ?_)<;>intro h|(refine dI ?_;have h:=trivial))<;>simp only[h,hna,hf,q1,q2,q3,Ad,An,Bv,Bf,seval]))
   refine Ag.intro Xu rfl kb ?_;simp only[q2,q3,Ad,seval]
   (repeat' (first|(with_reducible refine aI ?_ ?_)|(first|(first|refine gF ?_ ?_|refine gT ?_ ?_|refine cI ?_ ?_|refine pI ?_ ?_)<;>intro h|(refine dI ?_;have h:=trivial))<;>simp only[h,q1,q2,q3,Ad,An,Bv,Bf,seval]))
   refine Ag.intro Xu rfl kb ?_;simp only[Ad,seval]
   (repeat' (first|(with_reducible refine aI ?_ ?_)|(first|(first|refine gF ?_ ?_|refine gT ?_ ?_|refine cI ?_ ?_|refine pI ?_ ?_)<;>intro h|(refine dI ?_;have h:=trivial))<;>simp only[h,q1,q2,q3,Ad,An,Bv,Bf,seval]))
   all_goals first|done|rfl|trace_state
theorem gQ{v w:VD}(h:Ev Tp γ 111 [vA v,vA w] (.v (.int .i64 0))):Ev Tp γ 57 [vA v,vA w] (.v (.bool true)):=by
 refine Ev.of Tryz.func57 rfl ?_;have z:((0:Int)==0)=true:=rfl;simp only[vA,vC]at h⊢;simp only[Tryz.f57,L9,Ad,seval]
 (repeat' (first|(with_reducible refine aI ?_ ?_)|(first|(first|refine gF ?_ ?_|refine gT ?_ ?_|refine cI ?_ ?_|refine pI ?_ ?_)<;>intro h|(refine dI ?_;have h:=trivial))<;>simp only[h,L9,Ad,An,Bv,Bf,seval]))
 refine Ag.intro c111 rfl h ?_;simp only[z,Ad,seval]
 (repeat' (first|(with_reducible refine aI ?_ ?_)|(first|(first|refine gF ?_ ?_|refine gT ?_ ?_|refine cI ?_ ?_|refine pI ?_ ?_)<;>intro h|(refine dI ?_;have h:=trivial))<;>simp only[h,L9,z,Ad,An,Bv,Bf,seval]))
 all_goals first|done|rfl|trace_state
theorem c181:Ak Tp 181:=⟨_,Tryz.func181,by kernel_rfl,by kernel_rfl⟩
def tsS(γ:List (Nat×AV))(s:List UInt8)(k:Nat):St:=⟨⟨42,[(0,.v (.string ⟨s.toArray⟩)),(1,.v (.string ⟨s.toArray⟩)),(5,.v (.int .i64 (k:Int)))],γ⟩,[]⟩
theorem Tu(s:List UInt8)(hs:s.length≤140737488351232):Ev Tp γ 181 [.v (.string ⟨s.toArray⟩),.v (.string ⟨s.toArray⟩)] (.v (.int .i64 0)):=by
 refine Ev.of Tryz.func181 rfl ?_;simp only[Tryz.f181,Ad,seval];refine Ea.intro (tsS γ s) (fun k=>k≤s.length) (fun k=>s.length-k) 0 ⟨rfl,rfl,⟨rfl,rfl,rfl,trivial⟩,.inl rfl⟩ (BN _) (fun k hk=>?_)
 by_cases hlt:k<s.length
 ·have d1:decide (k<s.length)=true:=decide_eq_true hlt;have w1:IntKind.i64.wrap ((k:Int)+1)=((k+1:Nat):Int):=(A4 (by omega) (by omega)).trans (by omega);have dx:decide ((s.getD k 0).toNat<(s.getD k 0).toNat)=false:=decide_eq_false (Nat.lt_irrefl _);simp only[tsS,d1,Ad,An,seval]
  (repeat' (first|(with_reducible refine aI ?_ ?_)|(first|(first|refine gF ?_ ?_|refine gT ?_ ?_|refine cI ?_ ?_|refine pI ?_ ?_)<;>intro h|(refine dI ?_;have h:=trivial))<;>simp only[h,L9,d1,dx,w1,Ad,An,Bv,Bf,seval]))
  all_goals first|exact hlt|exact Cg.intro (k+1) hlt ⟨rfl,rfl,⟨rfl,rfl,rfl,trivial⟩,.inl rfl⟩ (by show s.length-(k+1)<s.length-k;clear w1;omega)|trace_state
 ·have d1:decide (k<s.length)=false:=decide_eq_false hlt;have hk2:k=s.length:=by omega
  have dx:decide (s.length<s.length)=false:=decide_eq_false (Nat.lt_irrefl _);have dy:decide ((s.length:Int)<(s.length:Int))=false:=decide_eq_false (Int.lt_irrefl _);simp only[tsS,d1,dx,Ad,An,seval]
  (repeat' (first|(with_reducible refine aI ?_ ?_)|(first|(first|refine gF ?_ ?_|refine gT ?_ ?_|refine cI ?_ ?_|refine pI ?_ ?_)<;>intro h|(refine dI ?_;have h:=trivial))<;>simp only[h,L9,d1,dx,dy,Ad,An,Bv,Bf,seval]))
  all_goals trace_state
theorem ZQ(v:VD)(h3:v.kind≠3)(hr:v.real<18446744073709551616)(ht:v.text.length≤140737488351232):Ev Tp γ 111 [vA v,vA v] (.v (.int .i64 0)):=by
 refine Ev.of Tryz.func111 rfl ?_;have k1:Ev Tp γ 54 [vA v] (.v (.bool (Qk v))):=eM (γ:=γ) v;have kr:=aW (γ:=γ) v.real v.real hr hr (.inl rfl);have kt:=Tu (γ:=γ) v.text ht;have z1:(v.kind != v.kind)=false:=by simp
 have z3:(v.kind==3)=false:=by simpa using h3
 have dx:decide (v.int<v.int)=false:=decide_eq_false (Int.lt_irrefl _);simp only[vA,vC]at k1⊢;simp only[Tryz.f111,Ad,seval]
 (repeat' (first|(with_reducible refine aI ?_ ?_)|(first|(first|refine gF ?_ ?_|refine gT ?_ ?_|refine cI ?_ ?_|refine pI ?_ ?_)<;>intro h|(refine dI ?_;have h:=trivial))<;>simp only[h,L9,Ad,An,Bv,Bf,seval]))
 refine Ag.intro c54 rfl k1 ?_;simp only[L9,Ad,seval]
 (repeat' (first|(with_reducible refine aI ?_ ?_)|(first|(first|refine gF ?_ ?_|refine gT ?_ ?_|refine cI ?_ ?_|refine pI ?_ ?_)<;>intro h|(refine dI ?_;have h:=trivial))<;>simp only[h,L9,Ad,An,Bv,Bf,seval]))
 refine Ag.intro c54 rfl k1 ?_;cases hm:Qk v with
 |false=>
  simp only[Ad,Bf,seval]
  (repeat' (first|(with_reducible refine aI ?_ ?_)|(first|(first|refine gF ?_ ?_|refine gT ?_ ?_|refine cI ?_ ?_|refine pI ?_ ?_)<;>intro h|(refine dI ?_;have h:=trivial))<;>simp only[h,L9,Ad,An,Bv,Bf,seval]))
  all_goals first|done|rfl|trace_state
 |true=>
  cases z2:(v.kind==2)with
  |true=>
   simp only[L9,z1,z2,Ad,An,Bv,seval]
   (repeat' (first|(with_reducible refine aI ?_ ?_)|(first|(first|refine gF ?_ ?_|refine gT ?_ ?_|refine cI ?_ ?_|refine pI ?_ ?_)<;>intro h|(refine dI ?_;have h:=trivial))<;>simp only[h,L9,z1,z2,Ad,An,Bv,Bf,seval]))
   refine Ag.intro c180 rfl kr ?_;simp only[Ad,seval]
   (repeat' (first|(with_reducible refine aI ?_ ?_)|(first|(first|refine gF ?_ ?_|refine gT ?_ ?_|refine cI ?_ ?_|refine pI ?_ ?_)<;>intro h|(refine dI ?_;have h:=trivial))<;>simp only[h,L9,Ad,An,Bv,Bf,seval]))
   all_goals first|done|rfl|trace_state
  |false=>
   cases z4:(v.kind==4)with
   |true=>
    simp only[L9,z1,z2,z3,z4,Ad,An,Bv,seval]
    (repeat' (first|(with_reducible refine aI ?_ ?_)|(first|(first|refine gF ?_ ?_|refine gT ?_ ?_|refine cI ?_ ?_|refine pI ?_ ?_)<;>intro h|(refine dI ?_;have h:=trivial))<;>simp only[h,L9,z1,z2,z3,z4,Ad,An,Bv,Bf,seval]))
    refine Ag.intro c181 rfl kt ?_;simp only[Ad,seval]
    (repeat' (first|(with_reducible refine aI ?_ ?_)|(first|(first|refine gF ?_ ?_|refine gT ?_ ?_|refine cI ?_ ?_|refine pI ?_ ?_)<;>intro h|(refine dI ?_;have h:=trivial))<;>simp only[h,L9,Ad,An,Bv,Bf,seval]))
    all_goals first|done|rfl|trace_state
   |false=>
    simp only[L9,z1,z2,z3,z4,dx,Ad,An,Bv,seval]
    (repeat' (first|(with_reducible refine aI ?_ ?_)|(first|(first|refine gF ?_ ?_|refine gT ?_ ?_|refine cI ?_ ?_|refine pI ?_ ?_)<;>intro h|(refine dI ?_;have h:=trivial))<;>simp only[h,L9,z1,z2,z3,z4,dx,Ad,An,Bv,Bf,seval]))
    all_goals first|done|rfl|trace_state
theorem W9(v:VD)(h3:v.kind≠3)(hr:v.real<18446744073709551616)(ht:v.text.length≤140737488351232):Ev Tp γ 57 [vA v,vA v] (.v (.bool true)):=gQ (ZQ v h3 hr ht)
theorem Ry:AX Tp 115=some true∧
  AX Tp 2=some false∧
  AX Tp 22=some false∧
  AX Tp 23=some false∧
  AX Tp 25=some true∧
  AX Tp 3=some false∧
  AX Tp 39=some false∧
  AX Tp 41=some true∧
  AX Tp 5=some false∧
  AX Tp 9=some false∧
  I0 Tp 37 37=some (5,1,1)∧
  Az Tp 37=some 5∧
  Az Tp 39=some 115∧
  Al Tp 115 0=some (0,3)∧
  Al Tp 115 1=some (1,3)∧
  Al Tp 115 2=some (2,3)∧
  Al Tp 115 3=some (3,9)∧
  Al Tp 115 4=some (4,25)∧
  Al Tp 25 0=some (0,3)∧
  Al Tp 25 1=some (1,2)∧
  Al Tp 25 2=some (2,22)∧
  Al Tp 25 3=some (3,23)∧
  Al Tp 25 4=some (4,9)∧
  Al Tp 41 0=some (0,39)∧
  JZ Tp 9=none∧
  CO Tp 5=some .u8∧
  CO Tp 9=none∧
  Od Tp 37=some (5,1,[.v (.int .u8 0)])∧
  Aq Tp 115=some 9∧
  Aq Tp 2=some 1∧
  Aq Tp 22=some 1∧
  Aq Tp 23=some 1∧
  Aq Tp 25=some 5∧
  Aq Tp 3=some 1∧
  Aq Tp 39=some 1∧
  Aq Tp 41=some 1∧
  Aq Tp 5=some 1∧
  Aq Tp 9=some 1∧
  Dl Tp 37=false∧
  Dl Tp 9=true∧
  (Tryz.prog.underlying 37).isSome=true∧
  Hw Tp 115=some [.v (.int .i64 0),.v (.int .i64 0),.v (.int .i64 0),.v (.string ⟨#[]⟩),.v (.int .i64 0),.v (.int .i64 0),.v (.float .f64 0),.v (.complex .f64 0 0),.v (.string ⟨#[]⟩)]∧
  Hw Tp 25=some [.v (.int .i64 0),.v (.int .i64 0),.v (.float .f64 0),.v (.complex .f64 0 0),.v (.string ⟨#[]⟩)]∧
  Hw Tp 41=some [.v (.slice none 0 0)]:=
 (by and_intros<;>kernel_rfl)
theorem Cr.via{P:Program}{ops:Array Oper}{Q:AY}{s:St}(F:St→Prop)(h:∀ K:AY,(∀ s',F s'→K .normal s')→Cr P ops K s)(h2:∀ s',F s'→Q .normal s'):Cr P ops Q s:=h Q h2
def Nd.valC(n:Nd):List AV:=[.v (.int .i64 n.vk),.v (.int .i64 n.vi),.v (.float .f64 n.vr),.v (.complex .f64 0 0),.v (.string ⟨n.vt.toArray⟩)]
theorem kR(s:List Aa)(ns:List Nd):CE Tp 39 s (Ab ns)=some (.v (.int .i64 ns.length)):=by
 have e24:Az Tp 39=some 115:=by kernel_rfl
 cases ns with
 |nil=>simp only[Ab,CE,e24];rfl
 |cons y T=>simp only[Ab,CE,e24];rfl
theorem X4(ns:List Nd):Cl (Ab ns)=true:=by cases ns<;>rfl
theorem Wk{ns:List Nd}{i:Nat}{nd:Nd}(h:ns[i]?=some nd):Ab ns=.sl false ns.length ns.length (Cj ns):=by
 cases ns with
 |nil=>cases h
 |cons x r=>rfl
theorem c74:Ak Tp 74:=⟨_,Tryz.func74,by kernel_rfl,by kernel_rfl⟩
theorem c57':Ak Tp 57:=⟨_,Tryz.func57,by kernel_rfl,by kernel_rfl⟩
def Yc(nd:Nd):Prop:=nd.vk≠3∧nd.vr<18446744073709551616∧nd.vt.length≤140737488351232
def lL(γ:List (Nat×AV))(ns:List Nd)(i:Nat):St:=⟨⟨81,[(2,.ptr 0 0 0),(3,.ptr 1 0 0),(5,.v (.int .i64 (i:Int)))],γ⟩,[⟨0,41,[Ab ns]⟩,⟨0,41,[Ab ns]⟩]⟩
theorem WB{nd:Nd}(h:Yc nd):Ev Tp γ 57 [.agg nd.valC,.agg nd.valC] (.v (.bool true)):=W9 ⟨nd.vk,nd.vi,nd.vr,0,0,nd.vt⟩ h.1 h.2.1 h.2.2
theorem Nf(ns:List Nd)(hb:ns.length≤2000000)(hok:∀ nd∈ns,Yc nd):Ev Tp γ 74 [.agg [Ab ns],.agg [Ab ns]] (.v (.bool true)):=by
 have ll:=fun s=>kR s ns
 have fo:=X4 ns;refine Ev.of Tryz.func74 rfl ?_;have d1:(((ns.length:Nat):Int) != ((ns.length:Nat):Int))=false:=by simp
 simp only[Tryz.f74,SB,fo,ll,d1,Af,A7,seval];refine Ea.intro (lL γ ns) (fun i=>i≤ns.length) (fun i=>ns.length-i) 0 ⟨rfl,rfl,⟨rfl,rfl,rfl,trivial⟩,.inl rfl⟩ (BN _) (fun i hi=>?_)
 by_cases hlt:i<ns.length
 ·have d2:decide (i<ns.length)=true:=decide_eq_true hlt;obtain⟨nd,hnd⟩:∃ nd,ns[i]?=some nd:=⟨ns[i],by simp[hlt]⟩;have eN:=Wk hnd;have h9:=JR hnd;have h9l:9≤((Cj ns).drop (i * 9)).length:=by rw[Bd,Dg];omega
  have w1:IntKind.i64.wrap ((i:Int)+1)=((i+1:Nat):Int):=(A4 (by omega) (by omega)).trans (by omega);simp only[lL,SB,ll,d2,Af,A7,seval];refine Cr.via (fun s'=>∃ l0,s'=⟨⟨81,l0,γ⟩,[⟨0,41,[Ab ns]⟩,⟨0,41,[Ab ns]⟩,⟨0,115,nd.cells⟩,⟨0,115,nd.cells⟩]⟩∧Go.Ev.look l0 2=.ptr 0 0 0∧Go.Ev.look l0 3=.ptr 1 0 0∧Go.Ev.look l0 5=.v (.int .i64 (i:Int))∧((Go.Ev.look l0 6=.ptr 2 0 0∧Go.Ev.look l0 7=.ptr 3 0 0)∨(Go.Ev.look l0 6=.ptr 3 0 0∧Go.Ev.look l0 7=.ptr 2 0 0))) (fun K hK=>?_) (fun s' hs'=>?_)
  ·refine Cr.orders2 [[0,1,2,3,4,5,6,7,8,9,10,11,12,13],[0,1,2,3,4,5,6,7,8,9,11,10,12,13],[0,1,2,3,4,10,11,12,5,6,7,8,9,13],[0,1,2,3,4,5,10,11,12,6,7,8,9,13],[0,1,2,3,4,5,6,10,11,12,7,8,9,13],[0,1,2,3,4,5,6,7,10,11,12,8,9,13],[0,1,2,3,4,5,6,7,8,10,11,12,9,13],[0,1,2,3,4,11,10,12,5,6,7,8,9,13],[0,1,2,3,4,5,11,10,12,6,7,8,9,13],[0,1,2,3,4,5,6,11,10,12,7,8,9,13],[0,1,2,3,4,5,6,7,11,10,12,8,9,13],[0,1,2,3,4,5,6,7,8,11,10,12,9,13]] (by kernel_rfl) (by kernel_rfl) (by kernel_rfl) (fun p hp=>?_);simp only[BI,List.not_mem_nil,or_false]at hp
   rcases hp with rfl|rfl|rfl|rfl|rfl|rfl|rfl|rfl|rfl|rfl|rfl|rfl
   all_goals simp only[CI,BU,Bu,Bz,SB,eN,h9,h9l,Nd.cells,Af,A7,seval]
   all_goals simp only[eN]at hK
   all_goals refine⟨hlt,hlt,hK _ ⟨_,rfl,?_⟩⟩
   all_goals simp only[Af,seval]
  ·obtain⟨l0,rfl,a2,a3,a5,hii⟩:=hs';have hs:=WB (γ:=γ) (hok nd (List.mem_of_getElem? hnd));have z1:(nd.k != nd.k)=false:=by simp
   have z2:(nd.a != nd.a)=false:=by simp
   have z3:(nd.b != nd.b)=false:=by simp
   have z4:(nd.nm != nd.nm)=false:=by simp
   have z5:(nd.vk != nd.vk)=false:=by simp
   simp only[Nd.valC]at hs
   rcases hii with⟨a6,a7⟩|⟨a6,a7⟩
   all_goals cases z6:(nd.vk != 0)with
    |false=>
     simp only[SB,a5,a6,a7,Nd.cells,z1,z2,z3,z5,z6,w1,Af,A7,Bv,seval];exact Cg.intro (i+1) hlt ⟨rfl,rfl,⟨by simp only[a2,Af,seval],by simp only[a3,Af,seval],rfl,trivial⟩,.inr ⟨rfl,rfl,by cases ns<;>rfl⟩⟩ (by show ns.length-(i+1)<ns.length-i;clear w1;omega)
    |true=>
     simp only[SB,a6,a7,Nd.cells,z1,z2,z3,z5,z6,Af,A7,Bv,seval];refine Ag.intro c57' rfl hs ?_;simp only[a5,w1,Af,Bv,seval];exact Cg.intro (i+1) hlt ⟨rfl,rfl,⟨by simp only[a2,Af,seval],by simp only[a3,Af,seval],rfl,trivial⟩,.inr ⟨rfl,rfl,by cases ns<;>rfl⟩⟩ (by show ns.length-(i+1)<ns.length-i;clear w1;omega)
 ·have d2:decide (i<ns.length)=false:=decide_eq_false hlt;simp only[lL,SB,ll,d2,Af,A7,seval]
end Go.Proofs.YtlobiioioicmhaaGreatDoor
