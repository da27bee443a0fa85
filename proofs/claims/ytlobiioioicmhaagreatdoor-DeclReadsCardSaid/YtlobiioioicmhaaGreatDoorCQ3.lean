/- A part of the proof. -/
import Derived.Test.YtlobiioioicmhaaGreatDoorCQ2
import GoSem.Core.Float
set_option linter.all false
set_option maxHeartbeats 8000000
namespace Go.Ev
open _root_.Bool renaming not_true→Bv,not_false→Bf
open _root_.List renaming length_drop→Bd,length_take→Bh,getElem?_drop→BX,getElem?_take→BY
open Go
def Ax(m:Nat)(e:Int):Int:=max (e+m.log2-52) (-1074)
def CF(m:Nat)(e:Int):Nat:=min ((Ax m e+1074).toNat * 4503599627370496+m * 2^(e-Ax m e).toNat) 9218868437227405312
theorem D7{m:Nat}(h0:0<m)(h:m<9007199254740992):m.log2≤52:=by
 have:m.log2<53:=(Nat.log2_lt (by omega)).2 (by simpa using h)
 omega
theorem HU{m:Nat}{e:Int}(h0:0<m)(h:m<9007199254740992)(he : -1074≤e):Ax m e≤e:=by
 have:=D7 h0 h;unfold Ax;omega
theorem K9{m:Nat}(h0:0<m)(k:Nat):(m * 2^k).log2=m.log2+k:=by
 have hp:0<2^k:=Nat.pos_of_ne_zero (by simp);have hm:0<m * 2^k:=Nat.mul_pos h0 hp;have hlt:m<2^(m.log2+1):=Nat.lt_log2_self;have hge:2^m.log2≤m:=Nat.log2_self_le (by omega)
 have a:(m * 2^k).log2<m.log2+k+1:=(Nat.log2_lt (by omega)).2 (by
  rw[show m.log2+k+1=(m.log2+1)+k from by omega,Nat.pow_add];exact Nat.mul_lt_mul_of_pos_right hlt hp)
 have b:¬(m * 2^k).log2<m.log2+k:=fun hc=>by
  have:=(Nat.log2_lt (by omega)).1 hc;rw[Nat.pow_add]at this;exact absurd (Nat.mul_le_mul_right (2^k) hge) (by omega)
 omega
theorem WC(n d:Nat)(h0:0<n):Ieee.Toward.even.cut false (n * 2^d) d=n:=by
 have h2:0<2^d:=Nat.pos_of_ne_zero (by simp);have hm:min d ((n * 2^d).log2+2)=d:=by rw[K9 h0];omega
 unfold Ieee.Toward.cut;simp only[hm,Nat.one_shiftLeft,Nat.mul_mod_left,Nat.mul_div_left _ h2];have:¬(2^d<2 * 0):=by omega
 have h3:(2^d==2 * 0)=false:=by simp
 simp[this,h3]
theorem Zi(n:Nat):Ieee.Toward.even.cut false n 0=n:=by
 unfold Ieee.Toward.cut;have:(min 0 (n.log2+2))=0:=by omega
 simp[this,Nat.mod_one]
theorem FT(m:Nat)(e:Int)(k:Nat)(h0:0<m)(h:m<9007199254740992)(he : -1074≤e):Ieee.double.nearest false (m * 2^k) (e-k)=CF m e:=by
 have hl:=D7 h0 h;have hle:=HU h0 h he
 have hp:m * 2^k≠0:=by have:0<2^k:=Nat.pos_of_ne_zero (by simp)
                       exact Nat.ne_of_gt (Nat.mul_pos h0 this)
 have e1:Ieee.double.leastPlace = -1074:=by rfl
 have e2:Ieee.double.binade=4503599627370496:=by rfl
 have e3:Ieee.double.infRung=9218868437227405312:=by rfl
 have e4:Ieee.double.fractionBits=52:=rfl;have e5:max (e-k+((m * 2^k).log2:Nat)-(52:Nat)) (-1074)=Ax m e:=by rw[K9 h0];unfold Ax;omega
 unfold Ieee.Format.nearest;rw[if_neg hp];simp only[e1,e2,e3,e4,e5];unfold Ieee.Format.word CF;simp only[Bool.false_eq_true,if_false];have e6:(Ax m e - -1074).toNat=(Ax m e+1074).toNat:=by congr 1
 rw[e6]
 have key:Ieee.Toward.even.cut false ((m * 2^k) <<< (e-k-Ax m e).toNat) (Ax m e-(e-k)).toNat=m * 2^(e-Ax m e).toNat:=by
  by_cases hk:(k:Int)≤e-Ax m e
  ·have a1:(Ax m e-(e-k)).toNat=0:=by omega
   have a2:k+(e-k-Ax m e).toNat=(e-Ax m e).toNat:=by omega
   rw[a1,Zi,Nat.shiftLeft_eq,Nat.mul_assoc,←Nat.pow_add,a2]
  ·have a1:(e-k-Ax m e).toNat=0:=by omega
   have a2:k=(e-Ax m e).toNat+(Ax m e-(e-k)).toNat:=by omega
   rw[a1]
   have:(m * 2^k) <<< 0=(m * 2^(e-Ax m e).toNat) * 2^(Ax m e-(e-k)).toNat:=by
    rw[Nat.shiftLeft_eq,Nat.pow_zero,Nat.mul_one,Nat.mul_assoc,←Nat.pow_add,←a2]
   rw[this,WC];exact Nat.mul_pos h0 (Nat.pos_of_ne_zero (by simp))
 rw[key]
theorem Ht{m:Nat}{e:Int}(h0:0<m)(h:m<9007199254740992)(he : -1074≤e):m * 2^(e-Ax m e).toNat<9007199254740992∧(-1074<Ax m e→4503599627370496≤m * 2^(e-Ax m e).toNat):=by
 have hl:=D7 h0 h;have hle:=HU h0 h he;have hlt:m<2^(m.log2+1):=Nat.lt_log2_self;have hge:2^m.log2≤m:=Nat.log2_self_le (by omega)
 constructor
 ·have:(e-Ax m e).toNat≤52-m.log2:=by unfold Ax;omega
  calc m * 2^(e-Ax m e).toNat<2^(m.log2+1) * 2^(e-Ax m e).toNat:=Nat.mul_lt_mul_of_pos_right hlt (Nat.pos_of_ne_zero (by simp))
   _=2^(m.log2+1+(e-Ax m e).toNat):=(Nat.pow_add _ _ _).symm
   _≤2^53:=Nat.pow_le_pow_right (by omega) (by omega)
   _=9007199254740992:=by rfl
 ·intro hg;have:(e-Ax m e).toNat=52-m.log2:=by unfold Ax at *;omega
  rw[this]
  calc 4503599627370496=2^(m.log2+(52-m.log2)):=by rw[show m.log2+(52-m.log2)=52 from by omega]
   _=2^m.log2 * 2^(52-m.log2):=by rw[Nat.pow_add]
   _≤m * 2^(52-m.log2):=Nat.mul_le_mul_right _ hge
theorem Ql{m:Nat}{e:Int}(h0:0<m)(h:m<9007199254740992)(he : -1074≤e):(e+m.log2≤1023→(Ax m e+1074).toNat * 4503599627370496+m * 2^(e-Ax m e).toNat<9218868437227405312)∧(1024≤e+m.log2→9218868437227405312≤(Ax m e+1074).toNat * 4503599627370496+m * 2^(e-Ax m e).toNat):=by
 have hl:=D7 h0 h;have hle:=HU h0 h he;have hp:=Ht h0 h he;generalize m * 2^(e-Ax m e).toNat=K at *
 constructor
 ·intro hf;have:Ax m e≤971:=by unfold Ax;omega
  omega
 ·intro hf;have h2:972≤Ax m e:=by unfold Ax;omega
  have:=hp.2 (by omega)
  omega
theorem Gd{m:Nat}{e:Int}(h0:0<m)(h:m<9007199254740992)(he : -1074≤e)(hf:e+m.log2≤1023):Ieee.double.read (CF m e)=.number false (m * 2^(e-Ax m e).toNat) (Ax m e):=by
 have hlt:=(Ql h0 h he).1 hf;have hp:=Ht h0 h he;have hge : -1074≤Ax m e:=by unfold Ax;omega
 have hd:CF m e=(Ax m e+1074).toNat * 4503599627370496+m * 2^(e-Ax m e).toNat:=by unfold CF;omega
 have e1:Ieee.double.leastPlace = -1074:=by rfl
 have e2:Ieee.double.binade=4503599627370496:=by rfl
 have e3:Ieee.double.infRung=9218868437227405312:=by rfl
 have e4:Ieee.double.signWeight=9223372036854775808:=by rfl
 rw[hd];unfold Ieee.Format.read;simp only[e1,e2,e3,e4];generalize m * 2^(e-Ax m e).toNat=K at *;generalize Ax m e=L at *;have b1:((L+1074).toNat * 4503599627370496+K) / 9223372036854775808=0:=Nat.div_eq_of_lt (by omega);have b2:((L+1074).toNat * 4503599627370496+K)%9223372036854775808=(L+1074).toNat * 4503599627370496+K:=Nat.mod_eq_of_lt (by omega);rw[b1,b2];have b3:((0%2:Nat)==1)=false:=by rfl
 rw[b3]
 by_cases hs:(L+1074).toNat * 4503599627370496+K<4503599627370496
 ·rw[if_pos hs];have:L = -1074:=by omega
  subst this;simp
 ·rw[if_neg hs,if_pos hlt]
  by_cases hK:4503599627370496≤K
  ·have c1:4503599627370496+((L+1074).toNat * 4503599627370496+K)%4503599627370496=K:=by omega
   have c2:(-1074:Int)+((((L+1074).toNat * 4503599627370496+K) / 4503599627370496-1:Nat):Int)=L:=by omega
   rw[c1,c2]
  ·have:L = -1074:=by
    rcases Int.lt_or_le (-1074) L with hne|hne
    ·exact absurd (hp.2 hne) hK
    ·omega
   omega
theorem K6{m:Nat}{e:Int}(h0:0<m)(h:m<9007199254740992)(he : -1074≤e)(hf:1024≤e+m.log2):CF m e=9218868437227405312:=by
 have:=(Ql h0 h he).2 hf;unfold CF;omega
theorem mul_two{m:Nat}{e:Int}(h0:0<m)(h:m<9007199254740992)(he : -1074≤e):Ieee.double.mul (CF m e) 4611686018427387904=some (CF m (e+1)):=by
 have r2:Ieee.double.read 4611686018427387904=.number false 4503599627370496 (-51):=by rfl
 unfold Ieee.Format.mul;rw[r2]
 by_cases hf:e+m.log2≤1023
 ·rw[Gd h0 h he hf];have hle:=HU h0 h he;simp only[Ieee.Datum.product,Option.map_some,Ieee.Format.write]
  have a1:m * 2^(e-Ax m e).toNat * 4503599627370496=m * 2^((e-Ax m e).toNat+52):=by
   rw[Nat.pow_add,Nat.mul_assoc]
  have a2:Ax m e + -51=(e+1)-(((e-Ax m e).toNat+52:Nat):Int):=by omega
  rw[a1,a2,show (false ^^ false)=false from rfl,FT m (e+1) _ h0 h (by omega)]
 ·rw[K6 h0 h he (by omega),K6 h0 h (by omega) (by omega)]
  rfl
theorem gJ{m:Nat}{e:Int}(h0:0<m)(h:m<9007199254740992)(he : -1073≤e)(hf:e+m.log2≤1023):Ieee.double.div (CF m e) 4611686018427387904=some (CF m (e-1)):=by
 have r2:Ieee.double.read 4611686018427387904=.number false 4503599627370496 (-51):=by rfl
 have hle:=HU h0 h (by omega : -1074≤e);have hK:=(Ht h0 h (by omega : -1074≤e)).1;have hK0:0<m * 2^(e-Ax m e).toNat:=Nat.mul_pos h0 (Nat.pos_of_ne_zero (by simp));unfold Ieee.Format.div;rw[r2,Gd h0 h (by omega) hf];have hlg:=D7 hK0 hK;have l2:(4503599627370496:Nat).log2=52:=by rfl
 have f52:Ieee.double.fractionBits=52:=rfl;simp only[Ieee.Datum.quotient,l2,f52,Option.map_some,Ieee.Format.write];rw[if_neg (by omega)];generalize hM:m * 2^(e-Ax m e).toNat=M at *;have hmore:54≤52+2+52-M.log2:=by omega
 generalize 52+2+52-M.log2=more at *
 have d1:M <<< more=(M * 2^(more-52)) * 4503599627370496:=by
  rw[Nat.shiftLeft_eq,Nat.mul_assoc,show (4503599627370496:Nat)=2^52 from rfl,←Nat.pow_add,show more-52+52=more from by omega]
 rw[d1,Nat.mul_div_cancel _ (by omega),Nat.mul_mod_left]
 have d2:2 * (M * 2^(more-52))+((0:Nat) != 0).toNat=m * 2^((e-Ax m e).toNat+(more-51)):=by
  rw[←hM,Nat.pow_add,←Nat.mul_assoc,show more-51=(more-52)+1 from by omega,Nat.pow_succ];have:((0:Nat) != 0).toNat=0:=rfl;rw[this];rw[Nat.add_zero];ac_rfl
 have d3:Ax m e - -51-(more:Int)-1=(e-1)-(((e-Ax m e).toNat+(more-51):Nat):Int):=by omega
 have d4:(Ieee.double.nearest false (m * 2^((e-Ax m e).toNat+(more-51))) ((e-1)-(((e-Ax m e).toNat+(more-51):Nat):Int)))=CF m (e-1):=FT m (e-1) _ h0 h (by omega);simp only[Option.map_some,Ieee.Format.write,show (false ^^ false)=false from rfl];rw[d2,d3,d4]
theorem nL:Ieee.double.read 0=.number false 0 (-1074):=by rfl
theorem nH:Ieee.double.read 4503599627370496=.number false 4503599627370496 (-1074):=by rfl
theorem VH:Ieee.double.read 9218868437227405311=.number false 9007199254740991 971:=by rfl
theorem oC:Ieee.double.read 9218868437227405312=.infinity false:=by rfl
theorem one_le_pow(k:Nat):1≤2^k:=Nat.pos_of_ne_zero (by simp)
section
variable {m:Nat} {e:Int}
theorem Vd(h0:0<m)(h:m<9007199254740992)(he : -1074≤e)(hf:1024≤e+m.log2):Ieee.double.read (CF m e)=.infinity false:=by
 rw[K6 h0 h he hf,oC]
theorem ZM(h0:0<m)(h:m<9007199254740992)(he : -1074≤e):Ieee.double.order (CF m e) 0=some .gt:=by
 unfold Ieee.Format.order
 by_cases hf:e+m.log2≤1023
 ·rw[Gd h0 h he hf,nL];have hM:0<m * 2^(e-Ax m e).toNat:=Nat.mul_pos h0 (Nat.pos_of_ne_zero (by simp));have hl : -1074≤Ax m e:=by unfold Ax;omega
  simp only[Ieee.Datum.order,Ieee.signed,Bool.false_eq_true,if_false,Nat.shiftLeft_eq,Nat.zero_mul];generalize m * 2^(e-Ax m e).toNat=M at *;have hp:=one_le_pow (Ax m e-min (Ax m e) (-1074)).toNat;have:0<M * 2^(Ax m e-min (Ax m e) (-1074)).toNat:=Nat.mul_pos hM hp;generalize M * 2^(Ax m e-min (Ax m e) (-1074)).toNat=A at *
  have:compare ((A:Nat):Int) ((0:Nat):Int)=.gt:=by
   rw[Int.compare_eq_gt];omega
  rw[this]
 ·rw[Vd h0 h he (by omega),nL];rfl
theorem fI(h0:0<m)(h:m<9007199254740992):Ieee.double.order (CF m 0) 4503599627370496=some .gt:=by
 have hlg:=D7 h0 h;have hf:(0:Int)+m.log2≤1023:=by omega
 unfold Ieee.Format.order;rw[Gd h0 h (by omega) hf,nH];have hl:Ax m 0=(m.log2:Int)-52:=by unfold Ax;omega
 have hM:=(Ht h0 h (by omega:(-1074:Int)≤0)).2 (by omega);simp only[Ieee.Datum.order,Ieee.signed,Bool.false_eq_true,if_false,Nat.shiftLeft_eq];generalize m * 2^((0:Int)-Ax m 0).toNat=M at *;have e1:((-1074:Int)-min (Ax m 0) (-1074)).toNat=0:=by omega
 obtain⟨k,hk⟩:∃ k,(Ax m 0-min (Ax m 0) (-1074)).toNat=k+1:=⟨(Ax m 0-min (Ax m 0) (-1074)).toNat-1,by omega⟩;rw[e1,hk];have hp:=one_le_pow k
 have:9007199254740992≤M * 2^(k+1):=by
  rw[Nat.pow_succ]
  calc 9007199254740992=4503599627370496 * (1 * 2):=by omega
   _≤M * (2^k * 2):=Nat.mul_le_mul hM (Nat.mul_le_mul_right _ hp)
 generalize M * 2^(k+1)=A at *
 have:compare ((A:Nat):Int) ((4503599627370496 * 2^0:Nat):Int)=.gt:=by
  rw[Int.compare_eq_gt];omega
 rw[this]
theorem VO(h0:0<m)(h:m<9007199254740992)(he : -1074≤e):(Ieee.double.order (CF m e) 9218868437227405311==some .gt)=decide (1024≤e+m.log2):=by
 unfold Ieee.Format.order
 by_cases hf:e+m.log2≤1023
 ·rw[Gd h0 h he hf,VH];have hlg:=D7 h0 h;have hM:=(Ht h0 h he).1;have hl:Ax m e≤971:=by unfold Ax;omega
  simp only[Ieee.Datum.order,Ieee.signed,Bool.false_eq_true,if_false,Nat.shiftLeft_eq];generalize m * 2^(e-Ax m e).toNat=M at *;have e1:(Ax m e-min (Ax m e) 971).toNat=0:=by omega
  rw[e1];have hp:=one_le_pow (971-min (Ax m e) 971).toNat;have:9007199254740991≤9007199254740991 * 2^(971-min (Ax m e) 971).toNat:=Nat.le_mul_of_pos_right _ hp;generalize 9007199254740991 * 2^(971-min (Ax m e) 971).toNat=A at *
  have:compare ((M * 2^0:Nat):Int) ((A:Nat):Int)≠.gt:=by
   rw[Ne,Int.compare_eq_gt];omega
  cases hc:compare ((M * 2^0:Nat):Int) ((A:Nat):Int)with
  |gt=>exact absurd hc this
  |lt=>simp;omega
  |eq=>simp;omega
 ·rw[Vd h0 h he (by omega),VH];have:1024≤e+(m.log2:Int):=by omega
  simp only[this,decide_true];rfl
theorem ZL(h0:0<m)(h:m<9007199254740992)(he : -1074≤e):Ieee.double.order (CF m e) (CF m e)=some .eq:=by
 unfold Ieee.Format.order
 by_cases hf:e+m.log2≤1023
 ·rw[Gd h0 h he hf];simp only[Ieee.Datum.order]
  congr 1
  rw[Int.compare_eq_eq]
 ·rw[Vd h0 h he (by omega)];rfl
theorem Qm(h0:0<m)(h:m<9007199254740992)(he : -1074≤e)(hf:e+m.log2≤1023):Ieee.double.sub (CF m e) (CF m e)=some 0:=by
 unfold Ieee.Format.sub;rw[Gd h0 h he hf];simp only[Ieee.Datum.opposite,Ieee.Datum.sum,Bf,Ieee.signed,Bool.false_eq_true,if_false,if_true,Option.map_some,Ieee.Format.write];generalize ((m * 2^(e-Ax m e).toNat) <<< (Ax m e-min (Ax m e) (Ax m e)).toNat:Nat)=A;have:((A:Nat):Int) + -((A:Nat):Int)=0:=by omega
 rw[this]
 rfl
theorem Qt(h0:0<m)(h:m<9007199254740992)(he : -1074≤e)(hf:1024≤e+m.log2):Ieee.double.sub (CF m e) (CF m e)=none:=by
 rw[K6 h0 h he hf];rfl
end
theorem RH{m:Nat}{e:Int}(h0:0<m)(h:m<9007199254740992)(he : -1074≤e)(hf:e+m.log2≤1023)(C:Nat)(p:Int)(hC:Ieee.double.read C=.number false 4503599627370496 (p-52))(hp : -1074≤e+p):
  Ieee.double.mul C (CF m e)=some (CF m (e+p)):=by
 unfold Ieee.Format.mul;rw[hC,Gd h0 h he hf];have hle:=HU h0 h he;simp only[Ieee.Datum.product,Option.map_some,Ieee.Format.write]
 have a1:4503599627370496 * (m * 2^(e-Ax m e).toNat)=m * 2^((e-Ax m e).toNat+52):=by
  rw[Nat.pow_add,Nat.mul_comm,Nat.mul_assoc]
 have a2:p-52+Ax m e=(e+p)-(((e-Ax m e).toNat+52:Nat):Int):=by omega
 rw[a1,a2,show (false ^^ false)=false from rfl,FT m (e+p) _ h0 h (by omega)]
theorem V0{m:Nat}{e:Int}(h0:0<m)(h:m<9007199254740992)(h1 : -1022≤e+m.log2)(h2:e+m.log2≤1023):
  CF m e=(e+m.log2+1023).toNat * 4503599627370496+(m * 2^(52-m.log2)-4503599627370496)∧4503599627370496≤m * 2^(52-m.log2)∧m * 2^(52-m.log2)<9007199254740992:=by
 have hlg:=D7 h0 h;have he : -1074≤e:=by omega
 have hl:Ax m e=e+m.log2-52:=by unfold Ax;omega
 have hk:(e-Ax m e).toNat=52-m.log2:=by omega
 have hM:=Ht h0 h he;have hq:=(Ql h0 h he).1 h2;rw[hk]at hM hq;have hl0:Ax m 0=(m.log2:Int)-52:=by unfold Ax;omega
 have hk0:((0:Int)-Ax m 0).toNat=52-m.log2:=by omega
 have hM0:=(Ht h0 h (by omega:(-1074:Int)≤0)).2 (by omega);rw[hk0]at hM0;refine⟨?_,hM0,hM.1⟩;unfold CF;rw[hk,hl];rw[hl]at hq;generalize m * 2^(52-m.log2)=K at *;generalize (m.log2:Int)=L at *;have ht:(e+L+1023).toNat=(e+L-52+1074).toNat+1:=by omega
 rw[ht,Nat.add_mul,Nat.one_mul,Nat.min_eq_left (Nat.le_of_lt hq),Nat.add_assoc,Nat.add_sub_cancel' hM0]
theorem Uc{m:Nat}(h0:0<m)(h:m<9007199254740992):∃ L F:Nat,m.log2=L∧L≤52∧F<4503599627370496∧CF m 0=(L+1023) * 4503599627370496+F∧
  ∀ (e:Int) (E:Nat),-1022≤e+L→e+L≤1023→(E:Int)=e+L+1023→(E:Int) * 4503599627370496+(F:Int)=((CF m e:Nat):Int):=by
 have hlg:=D7 h0 h;obtain⟨a1,a2,a3⟩:=V0 (e:=0) h0 h (by omega) (by omega);refine⟨m.log2,m * 2^(52-m.log2)-4503599627370496,rfl,hlg,?_,?_,fun e E g1 g2 g3=>?_⟩
 ·generalize m * 2^(52-m.log2)=K at *
  omega
 ·rw[a1]
  congr 2
  omega
 ·obtain⟨b1,_,_⟩:=V0 (e:=e) h0 h g1 g2;rw[b1,←g3];generalize m * 2^(52-m.log2)-4503599627370496=F;rw[Int.natCast_add,Int.natCast_mul]
  rfl
theorem XK(X:Nat):X=X / 2^52 * 2^52+X%2^52:=by rw[Nat.mul_comm];exact (Nat.div_add_mod _ _).symm
theorem HY(n:Nat)(h:n<18446744073709551616):(BitVec.ofInt 64 (n:Int)).toNat=n:=by
 rw[BitVec.ofInt_natCast,BitVec.toNat_ofNat];exact Nat.mod_eq_of_lt h
theorem aG(n:Nat)(h:n<9223372036854775808):IntKind.u64.wrap (BitVec.ofInt IntKind.u64.bits (n:Int) &&& ~~~BitVec.ofInt IntKind.u64.bits 9223372036854775808).toNat=n:=by
 have e1:(BitVec.ofInt 64 (n:Int) &&& ~~~BitVec.ofInt 64 9223372036854775808).toNat=n:=by
  rw[BitVec.toNat_and,HY n (by omega)];have:(~~~BitVec.ofInt 64 9223372036854775808).toNat=2^63-1:=by rfl
  rw[this,Nat.and_two_pow_sub_one_eq_mod];exact Nat.mod_eq_of_lt (by omega)
 show IntKind.u64.wrap ((BitVec.ofInt 64 (n:Int) &&& ~~~BitVec.ofInt 64 9223372036854775808).toNat:Int)=n
 rw[e1,IL]<;>omega
theorem Qc{T:Nat}(hT:T<2048):T &&& 2^11=0:=by
 apply Nat.eq_of_testBit_eq
 intro i;rw[Nat.testBit_and,Nat.testBit_two_pow,Nat.zero_testBit]
 by_cases hi:11=i
 ·subst hi;rw[Nat.testBit_lt_two_pow (by omega)];rfl
 ·simp[hi]
theorem X3(T F:Nat)(hT:T<2048)(hF:F<4503599627370496):IntKind.u64.wrap (BitVec.ofInt IntKind.u64.bits ((T * 4503599627370496+F:Nat):Int) &&& ~~~BitVec.ofInt IntKind.u64.bits 9218868437227405312).toNat=F:=by
 have e1:(BitVec.ofInt 64 ((T * 4503599627370496+F:Nat):Int) &&& ~~~BitVec.ofInt 64 9218868437227405312).toNat=F:=by
  rw[BitVec.toNat_and,HY _ (by omega)];have:(~~~BitVec.ofInt 64 9218868437227405312).toNat=9227875636482146303:=by rfl
  rw[this,XK ((T * 4503599627370496+F) &&& 9227875636482146303),Nat.and_div_two_pow,Nat.and_mod_two_pow];have a1:(T * 4503599627370496+F) / 2^52=T:=by omega
  have a2:(T * 4503599627370496+F)%2^52=F:=by omega
  have a3:9227875636482146303 / 2^52=2^11:=by rfl
  have a4:9227875636482146303%2^52=2^52-1:=by rfl
  rw[a1,a2,a3,a4,Nat.and_two_pow_sub_one_eq_mod,Qc hT];have:=Nat.mod_eq_of_lt (show F<2^52 by omega)
  omega
 show IntKind.u64.wrap ((BitVec.ofInt 64 ((T * 4503599627370496+F:Nat):Int) &&& ~~~BitVec.ofInt 64 9218868437227405312).toNat:Int)=F
 rw[e1,IL]<;>omega
theorem Wh(E F:Nat)(hE:E<4096)(hF:F<4503599627370496):IntKind.u64.wrap (BitVec.ofInt IntKind.u64.bits (F:Int) ||| BitVec.ofInt IntKind.u64.bits ((E:Int) * 4503599627370496)).toNat=(E:Int) * 4503599627370496+(F:Int):=by
 have ec:(E:Int) * 4503599627370496=((E * 4503599627370496:Nat):Int):=by omega
 rw[ec];generalize hG:E * 4503599627370496=G
 have e1:(BitVec.ofInt 64 (F:Int) ||| BitVec.ofInt 64 ((G:Nat):Int)).toNat=G+F:=by
  rw[BitVec.toNat_or,HY _ (by omega),HY _ (by omega),Nat.or_comm];have:=Nat.shiftLeft_add_eq_or_of_lt (show F<2^52 by omega) E;rw[Nat.shiftLeft_eq]at this;rw[←hG];exact this.symm
 show IntKind.u64.wrap ((BitVec.ofInt 64 (F:Int) ||| BitVec.ofInt 64 ((G:Nat):Int)).toNat:Int)=_
 rw[e1];exact (IL (by omega) (by omega)).trans (by omega)
theorem Yu(T:Nat)(hT:T<2048):IntKind.i64.wrap (BitVec.ofInt IntKind.i64.bits (T:Int) &&& BitVec.ofInt IntKind.i64.bits 2047).toNat=T:=by
 have e1:(BitVec.ofInt 64 (T:Int) &&& BitVec.ofInt 64 2047).toNat=T:=by
  rw[BitVec.toNat_and,HY _ (by omega)];have:(BitVec.ofInt 64 2047).toNat=2^11-1:=by rfl
  rw[this,Nat.and_two_pow_sub_one_eq_mod];exact Nat.mod_eq_of_lt (by omega)
 show IntKind.i64.wrap ((BitVec.ofInt 64 (T:Int) &&& BitVec.ofInt 64 2047).toNat:Int)=T
 rw[e1,A4]<;>omega
end Go.Ev
namespace Go.Proofs.YtlobiioioicmhaaGreatDoor
open _root_.Bool renaming not_true→Bv,not_false→Bf
open _root_.List renaming length_drop→Bd,length_take→Bh,getElem?_drop→BX,getElem?_take→BY
open Go.Proofs.Tryz renaming prog→Tp
open Go Go.Ev
set_option maxRecDepth 20000
variable {γ:List (Nat×AV)}
theorem mO:Ak Tp 196:=⟨_,Tryz.func196,by kernel_rfl,by kernel_rfl⟩
theorem b130:Ak Tp 264:=⟨_,Tryz.func264,by kernel_rfl,by kernel_rfl⟩
theorem b131:Ak Tp 265:=⟨_,Tryz.func265,by kernel_rfl,by kernel_rfl⟩
theorem bW:Ak Tp 119:=⟨_,Tryz.func119,by kernel_rfl,by kernel_rfl⟩
theorem b86:Ak Tp 165:=⟨_,Tryz.func165,by kernel_rfl,by kernel_rfl⟩
theorem nW:Ak Tp 226:=⟨_,Tryz.func226,by kernel_rfl,by kernel_rfl⟩
theorem b89:Ak Tp 168:=⟨_,Tryz.func168,by kernel_rfl,by kernel_rfl⟩
theorem Yv(b:Nat):My Tp 172 [.v (.float .f64 b)] (.v (.int .u64 b)):=Mu Tryz.func172 (by kernel_rfl) (by kernel_rfl) (by kernel_rfl) (by kernel_rfl) b
theorem QI(n:Int):My Tp 222 [.v (.int .u64 n)] (.v (.float .f64 n.toNat)):=JK Tryz.func222 (by kernel_rfl) (by kernel_rfl) (by kernel_rfl) (by kernel_rfl) n
theorem Es(r:Nat):En (some r)=.v (.float .f64 r):=rfl
theorem QE(m:Nat)(e:Int):CF m e≤9218868437227405312:=Nat.min_le_right _ _
theorem aO(V:Nat)(h:V<9223372036854775808):Ev Tp γ 196 [.v (.float .f64 V)] (.v (.float .f64 V)):=by
 refine Ev.of Tryz.func196 rfl ?_;simp only[Tryz.f196,Ad,seval];refine Ag.ext (Yv V) ?_;simp only[aG V h,Ad,seval];refine Ag.ext (QI V) ?_;simp only[Ad,seval]
theorem bH(V:Nat)(h:FloatKind.f64.format.order V V=some .eq):Ev Tp γ 264 [.v (.float .f64 V)] (.v (.bool false)):=by
 refine Ev.of Tryz.func264 rfl ?_;simp only[Tryz.f264,h,Ad,seval]
 rfl
theorem O8(V:Nat)(h:V<9223372036854775808):Ev Tp γ 119 [.v (.float .f64 V),.v (.int .i64 0)] (.v (.bool (FloatKind.f64.format.order V 9218868437227405311==some .gt))):=by
 refine Ev.of Tryz.func119 rfl ?_;have h00:((0:Int)==0)=true:=by decide
 simp only[Tryz.f119,h00,Ad,seval];refine Ag.intro mO rfl (aO V h) ?_;simp only[Ad,seval]
theorem kU:Ev Tp γ 165 [.v (.int .i64 1)] (.v (.float .f64 9218868437227405312)):=by
 refine Ev.of Tryz.func165 rfl ?_;simp only[Tryz.f165,Ad,seval];refine Ag.ext (QI 9218868437227405312) ?_;simp only[Ad,seval]
theorem Rk{m:Nat}(h0:0<m)(h:m<9007199254740992):Ev Tp γ 265 [.v (.float .f64 (CF m 0))] (.tup [.v (.float .f64 (CF m 0)),.v (.int .i64 0)]):=by
 have ho:FloatKind.f64.format.order (CF m 0) 4503599627370496=some .gt:=fI h0 h;have hl:=QE m 0;have hgl:((some Ordering.gt:Option Ordering)==some .lt)=false:=by decide
 refine Ev.of Tryz.func265 rfl ?_;simp only[Tryz.f265,Ad,seval];refine Ag.intro mO rfl (aO (CF m 0) (by omega)) ?_;simp only[ho,hgl,Ad,seval]
set_option maxRecDepth 20000 in
set_option maxRecDepth 20000 in
theorem Yb(m:Nat)(h0:0<m)(h:m<9007199254740992)(x:Int)(hx : -1074≤x)(hx2:x≤1074):Ev Tp γ 226 [.v (.float .f64 (CF m 0)),.v (.int .i64 x)] (.v (.float .f64 (CF m x))):=by
 have o0:FloatKind.f64.format.order (CF m 0) 0=some .gt:=ZM h0 h (by omega);have os:FloatKind.f64.format.order (CF m 0) (CF m 0)=some .eq:=ZL h0 h (by omega)
 have om:(FloatKind.f64.format.order (CF m 0) 9218868437227405311==some .gt)=false:=by
  have:=VO h0 h (by omega:(-1074:Int)≤0);have hlg:=D7 h0 h;rw[show FloatKind.f64.format=Ieee.double from rfl,this];simp;omega
 have hnorm:=Rk (γ:=γ) h0 h;have hinf:=K6 (e:=x) h0 h hx
 have hm1:∀ e:Int,-1074≤e→e+m.log2≤1023→FloatKind.f64.format.mul 4607182418800017408 (CF m e)=some (CF m e):=fun e g1 g2=>by
  have:=RH (e:=e) h0 h g1 g2 4607182418800017408 0 (by rfl) (by omega);rw[Int.add_zero]at this;exact this
 have hm2:∀ e:Int,-1074≤e+53 → -1074≤e→e+53+m.log2≤1023→FloatKind.f64.format.mul 4368491638549381120 (CF m (e+53))=some (CF m e):=fun e g1 g3 g2=>by
  have:=RH (e:=e+53) h0 h g1 g2 4368491638549381120 (-53) (by rfl) (by omega);rw[show e+53 + -53=e from by omega]at this;exact this
 obtain⟨L,F,hL,hL52,hF,hV,hword⟩:=Uc h0 h;rw[hL]at hinf hm1 hm2;have hl:=QE m 0;generalize hD:CF m=D at *;clear h0 h hD hL;have c1:decide (1023<x+(L:Int))=true→1024≤x+(L:Int):=fun h=>by have:=of_decide_eq_true h;omega
 have c2:decide (1023<x+(L:Int))=false→x+(L:Int)≤1023:=fun h=>by have:=of_decide_eq_false h;omega
 have c3:decide (x+(L:Int) < -1022)=true→∃ E G:Nat,IntKind.i64.wrap (x+(L:Int)+53)=x+(L:Int)+53∧IntKind.i64.wrap (x+(L:Int)+53+1023)=(E:Int)∧IntKind.u64.wrap (E:Int)=(E:Int)∧IntKind.u64.wrap ((E:Int) * 2^min 52 IntKind.u64.bits)=(G:Int)∧
   IntKind.u64.wrap (BitVec.ofInt IntKind.u64.bits (F:Int) ||| BitVec.ofInt IntKind.u64.bits (G:Int)).toNat=((D (x+53):Nat):Int)∧FloatKind.f64.format.mul 4368491638549381120 (D (x+53))=some (D x):=fun h=>by
  have hd':=of_decide_eq_true h;obtain⟨E,hE⟩:∃ E:Nat,(E:Int)=x+(L:Int)+53+1023:=⟨(x+(L:Int)+53+1023).toNat,by omega⟩;have p52':(2:Int)^min 52 IntKind.u64.bits=4503599627370496:=by decide
  have w9:=Wh E F (by omega) hF;obtain⟨G,hG⟩:∃ G:Nat,(E:Int) * 4503599627370496=(G:Int):=⟨E * 4503599627370496,by omega⟩;have wq:=hword (x+53) E (by omega) (by omega) (by omega);rw[wq,hG]at w9;exact⟨E,G,A4 (by omega) (by omega),(A4 (by omega) (by omega)).trans hE.symm,IL (by omega) (by omega),by rw[p52',hG];exact IL (by omega) (by omega),w9,hm2 x (by omega) hx (by omega)⟩
 have c4:decide (1023<x+(L:Int))=false→decide (x+(L:Int) < -1022)=false→∃ E G:Nat,IntKind.i64.wrap (x+(L:Int)+1023)=(E:Int)∧IntKind.u64.wrap (E:Int)=(E:Int)∧IntKind.u64.wrap ((E:Int) * 2^min 52 IntKind.u64.bits)=(G:Int)∧
   IntKind.u64.wrap (BitVec.ofInt IntKind.u64.bits (F:Int) ||| BitVec.ofInt IntKind.u64.bits (G:Int)).toNat=((D x:Nat):Int)∧FloatKind.f64.format.mul 4607182418800017408 (D x)=some (D x):=fun h1 h=>by
  have hd':=of_decide_eq_false h;have hd2:=of_decide_eq_false h1;obtain⟨E,hE⟩:∃ E:Nat,(E:Int)=x+(L:Int)+1023:=⟨(x+(L:Int)+1023).toNat,by omega⟩;have p52':(2:Int)^min 52 IntKind.u64.bits=4503599627370496:=by decide
  have w9:=Wh E F (by omega) hF;obtain⟨G,hG⟩:∃ G:Nat,(E:Int) * 4503599627370496=(G:Int):=⟨E * 4503599627370496,by omega⟩;have wq:=hword x E (by omega) (by omega) (by omega);rw[wq,hG]at w9;exact⟨E,G,(A4 (by omega) (by omega)).trans hE.symm,IL (by omega) (by omega),by rw[p52',hG];exact IL (by omega) (by omega),w9,hm1 x hx (by omega)⟩
 have w1:IntKind.i64.wrap ((L+1023:Nat):Int)=((L+1023:Nat):Int):=A4 (by omega) (by omega);have w3:IntKind.i64.wrap (((L+1023:Nat):Int)-1023)=(L:Int):=(A4 (by omega) (by omega)).trans (by omega);have w4:IntKind.i64.wrap (x+(L:Int))=x+(L:Int):=A4 (by omega) (by omega);have w0:IntKind.i64.wrap (x+0)=x:=by rw[Int.add_zero];exact A4 (by omega) (by omega)
 have l1:decide (x+(L:Int) < -1075)=false:=decide_eq_false (by omega);have hD0:D 0<9223372036854775808:=by omega
 have w2:=Yu (L+1023) (by omega);have hdiv:((D 0:Nat):Int) / 4503599627370496=((L+1023:Nat):Int):=by rw[hV];omega
 have fr:IntKind.u64.wrap (BitVec.ofInt IntKind.u64.bits ((D 0:Nat):Int) &&& ~~~BitVec.ofInt IntKind.u64.bits 9218868437227405312).toNat=(F:Int):=by
  have:=X3 (L+1023) F (by omega) hF;rw[hV];exact this
 have esh:((D 0:Nat):Int).fdiv (2^min (Int.toNat 52) IntKind.u64.bits)=((L+1023:Nat):Int):=by
  have e1:(2:Int)^min (Int.toNat 52) IntKind.u64.bits=4503599627370496:=by decide
  rw[e1,Int.fdiv_eq_ediv_of_nonneg _ (by decide),hdiv]
 have esh':((D 0:Nat):Int).fdiv (2^min 52 IntKind.u64.bits)=((L+1023:Nat):Int):=esh;have ge:((some Ordering.gt:Option Ordering)==some .eq)=false:=by decide
 have gl:((some Ordering.gt:Option Ordering)==some .lt)=false:=by decide
 clear hV hdiv hword hm1 hm2;refine Ev.of Tryz.func226 rfl ?_;simp only[Tryz.f226,o0,ge,Ad,seval];refine Ag.intro bW rfl (O8 (D 0) hD0) ?_;simp only[om,Ad,seval];refine Ag.intro b130 rfl (bH (D 0) os) ?_;simp only[Ad,seval];refine Ag.intro b131 rfl hnorm ?_;simp only[Ad,seval];refine Ag.ext (Yv (D 0)) ?_;simp only[esh',w0,w1,w2,w3,w4,l1,Ad,An,seval];refine BZ.intro (fun hg=>?_) (fun hg=>?_)<;>simp only[hg,o0,gl,Ad,seval]
 ·refine Ag.intro b86 rfl kU ?_;rw[hinf (c1 hg)];simp only[Ad,seval]
 ·refine BZ.intro (fun hd=>?_) (fun hd=>?_)
  ·obtain⟨E,G,w5,w6,w7,w8,w9,mm⟩:=c3 hd;simp only[hd,w5,w6,w7,w8,w9,fr,Ad,An,seval];refine Ag.ext (QI (D (x+53))) ?_;simp only[mm,Es,Ad,seval]
  ·obtain⟨E,G,w6,w7,w8,w9,mm⟩:=c4 hg hd;simp only[hd,w6,w7,w8,w9,fr,Ad,An,seval];refine Ag.ext (QI (D x)) ?_;simp only[mm,Es,Ad,seval]
theorem Yh(m:Nat)(h0:0<m)(h:m<9007199254740992)(x:Int)(hx : -1074≤x)(hx2:x≤1074):Ev Tp γ 168 [.v (.float .f64 (CF m 0)),.v (.int .i64 x)] (.v (.float .f64 (CF m x))):=by
 refine Ev.of Tryz.func168 rfl ?_;simp only[Tryz.f168,Ad,seval];refine Ag.intro nW rfl (Yb m h0 h x hx hx2) ?_;simp only[Ad,seval]
theorem Xe:Ev Tp γ 168 [.v (.float .f64 0),.v (.int .i64 0)] (.v (.float .f64 0)):=by
 have o0:(FloatKind.f64.format.order 0 0==some .eq)=true:=by rfl
 have h1:Ev Tp γ 226 [.v (.float .f64 0),.v (.int .i64 0)] (.v (.float .f64 0)):=by
  refine Ev.of Tryz.func226 rfl ?_;simp only[Tryz.f226,o0,Ad,seval]
 refine Ev.of Tryz.func168 rfl ?_;simp only[Tryz.f168,Ad,seval];refine Ag.intro nW rfl h1 ?_;simp only[Ad,seval]
theorem Iz(l:List UInt8)(i:Nat):i≤Ai l i:=by unfold Ai;omega
theorem CS{l:List UInt8}{i:Nat}(h:i≤l.length):Ai l i≤l.length:=by
 have:=(I4 (p:=A5) h).2
 rwa [←Em]at this
theorem E8{l:List UInt8}:∀ (k:Nat) {i j:Nat},j=i+k→j<Ai l i→A5 (Ar l j)=true
 |0,i,j,e,h=>by
  obtain rfl:j=i:=by omega
  cases hd:A5 (Ar l j)with
  |true=>rfl
  |false=>rw[Fl hd]at h;omega
 |k+1,i,j,e,h=>by
  cases hd:A5 (Ar l i)with
  |true=>exact E8 k (i:=i+1) (by omega) (by rwa [(C9 hd).1]at h)
  |false=>rw[Fl hd]at h;omega
theorem Ex{l:List UInt8}{i:Nat}(h:A5 (Ar l i)=true):i<Ai l i:=by
 rw[(C9 h).1];have:=Iz l (i+1)
 omega
theorem Hl{l:List UInt8}{n j:Nat}(h:j<n):Ar (l.take n) j=Ar l j:=by
 simp only[Ar,List.getD,BY,if_pos h]
theorem B8(l:List UInt8)(k j:Nat):Ar (l.drop k) j=Ar l (k+j):=by
 simp only[Ar,List.getD,BX]
def DX(l:List UInt8)(i:Nat):List UInt8:=(l.drop i).take (Ai l i-i)
theorem MT{l:List UInt8}{i:Nat}(h:i≤l.length):(DX l i).length=Ai l i-i:=by
 have h1:=CS h;rw[DX,Bh,Bd];omega
theorem UW{l:List UInt8}{i:Nat}(h:i≤l.length)(j:Nat)(hj:j<(DX l i).length):A5 (Ar (DX l i) j)=true:=by
 rw[MT h]at hj;rw[DX,Hl hj,B8];exact E8 j rfl (by omega)
def Yt(l:List UInt8):Int:=if 1<l.length∧Ar l 0=48 then 0 else if Ay l<9223372036854775808 then Ay l else 9223372036854775807
def EK(l:List UInt8)(most:Int):Bool:=decide (¬(1<l.length∧Ar l 0=48)∧Ay l<9223372036854775808∧(Ay l:Int)≤most)
theorem dY(l:List UInt8)(most:Int):XO l most=.tup [.v (.int .i64 (Yt l)),.v (.bool (EK l most))]:=by
 unfold XO Yt EK
 by_cases h1:1<l.length∧Ar l 0=48
 ·simp[h1]
 ·by_cases h2:Ay l<9223372036854775808
  ·simp[h1,h2]
  ·simp[h1,h2]
theorem Ow{l:List UInt8}{most:Int}(h:EK l most=true):Yt l=Ay l∧(Ay l:Int)≤most:=by
 unfold EK at h;have h:=of_decide_eq_true h;unfold Yt;rw[if_neg h.1,if_pos h.2.1];exact⟨rfl,h.2.2⟩
theorem Ik(hγ:Gl γ)(b:Bool)(l:List UInt8)(i:Nat)(most:Int)(h1:i<Ai l i)(hi:i≤l.length)(hl:l.length≤140737488351232):
  Ev Tp γ 279 [.sl b (Ai l i-i) (l.length-i) (List.drop i (l.map Am)),.v (.int .i64 most)] (.tup [.v (.int .i64 (Yt (DX l i))),.v (.bool (EK (DX l i) most))]):=by
 have hle:=CS hi;rw[←List.map_drop];refine Wc (by omega) (by rw[Bd];omega) ?_;have:=OE hγ b (DX l i) most (by rw[MT hi];omega) (by rw[MT hi];omega) (UW hi)
 rwa [dY]at this
def Dv(m:Nat)(e:Int):Nat:=if m=0 then 0 else CF m e
def Lx(m:Nat)(e:Int):Bool:=decide (m=0∨e+m.log2≤1023)
def CD(sg:Nat)(x:Nat):Int:=if sg=1 then -(x:Int)else x
def K3(sg:Nat)(a b:List UInt8)(follow:Nat):Bool:=
 EK a 9007199254740991&&EK b (1023+51 * sg)&&(decide (Ay a%2=1) || (decide (Ay a=0)&&decide (Ay b=0))) && !(decide (sg=1)&&decide (Ay b=0)) && !Ca follow&&Lx (Ay a) (CD sg (Ay b))
def B6(k:Int):AV:=.tup [AM 0 [] 0 f0 0 0,.v (.int .i64 k)]
def Dh(t:AV):AV:=.tup [t,.v (.int .i64 0)]
def KW(l:List UInt8)(p sg:Nat):AV:=
 if K3 sg (DX l 0) (DX l (p+1+sg)) (Ar l (Ai l (p+1+sg)))=true then
  Dh (AM 3 [] 0 (.v (.float .f64 (Dv (Ay (DX l 0)) (CD sg (Ay (DX l (p+1+sg))))))) 0 (Ai l (p+1+sg)))
 else B6 12
theorem VF(m:Nat)(h:m<9007199254740992):FloatKind.f64.nearest (m:Int)=Dv m 0:=by
 unfold Dv
 by_cases h0:m=0
 ·subst h0;rfl
 ·rw[if_neg h0];have:=FT m 0 0 (by omega) h (by omega);have e1:(decide ((m:Int)<0))=false:=decide_eq_false (by omega);show Ieee.double.nearest (decide ((m:Int)<0)) (m:Int).natAbs 0=_;rw[e1,Int.natAbs_natCast,←this];rw[Nat.pow_zero,Nat.mul_one]
  rfl
theorem WZ(m:Nat)(h:m<9007199254740992)(x:Int)(hx : -1074≤x)(hx2:x≤1074)(h0:m=0→x=0):Ev Tp γ 168 [.v (.float .f64 (Dv m 0)),.v (.int .i64 x)] (.v (.float .f64 (Dv m x))):=by
 unfold Dv
 by_cases hm:m=0
 ·rw[if_pos hm,if_pos hm,h0 hm];exact Xe
 ·rw[if_neg hm,if_neg hm];exact Yh m (by omega) h x hx hx2
theorem LV(m:Nat)(h:m<9007199254740992)(x:Int)(hx : -1074≤x):Ev Tp γ 119 [.v (.float .f64 (Dv m x)),.v (.int .i64 0)] (.v (.bool (!Lx m x))):=by
 unfold Dv Lx
 by_cases hm:m=0
 ·rw[if_pos hm];have:=O8 (γ:=γ) 0 (by omega)
  have e:(FloatKind.f64.format.order 0 9218868437227405311==some .gt) = !decide (m=0∨x+m.log2≤1023):=by
   rw[decide_eq_true (.inl hm)];rfl
  rwa [e]at this
 ·rw[if_neg hm];have hl:=QE m x;have:=O8 (γ:=γ) (CF m x) (by omega)
  have e:(FloatKind.f64.format.order (CF m x) 9218868437227405311==some .gt) = !decide (m=0∨x+m.log2≤1023):=by
   have:=VO (e:=x) (by omega) h hx;rw[show FloatKind.f64.format=Ieee.double from rfl,this,←decide_not]
   congr 1
   simp only[eq_iff_iff];omega
  rwa [e]at this
theorem HZ{sg:Nat}{a b:List UInt8}{f:Nat}:K3 sg a b f=true↔EK a 9007199254740991=true∧EK b (1023+51 * sg)=true∧(Ay a%2=1∨Ay a=0∧Ay b=0)∧¬(sg=1∧Ay b=0)∧Ca f=false∧Lx (Ay a) (CD sg (Ay b))=true:=by
 unfold K3;simp only[Bool.and_eq_true,Bool.or_eq_true,Bool.not_eq_true',decide_eq_true_eq,Bool.and_eq_false_iff,decide_eq_false_iff_not]
 constructor
 ·rintro⟨⟨⟨⟨⟨a1,a2⟩,a3⟩,a4⟩,a5⟩,a6⟩
  exact⟨a1,a2,a3,by omega,a5,a6⟩
 ·rintro⟨a1,a2,a3,a4,a5,a6⟩
  exact⟨⟨⟨⟨⟨a1,a2⟩,a3⟩,by omega⟩,a5⟩,a6⟩
set_option maxRecDepth 20000 in
theorem UM(hγ:Gl γ)(b:Bool)(l:List UInt8)(p sg:Nat)(hp:p=Ai l 0)(hp1:1≤p)(hsg:sg=0∨sg=1)(hd:A5 (Ar l (p+1+sg))=true)(hl:l.length≤140737488351232):
  Ev Tp γ 278 [.sl b l.length l.length (l.map Am),.v (.int .i64 p),.v (.int .i64 sg)] (KW l p sg):=by
 refine Ev.of Tryz.func278 rfl ?_;have hlt:=Ex hd;have hpl:=(C9 hd).2;have hle:=CS (l:=l) (i:=p+1+sg) (by omega);have w1:IntKind.i64.wrap ((p:Int)+1)=((p+1:Nat):Int):=A4 (by omega) (by omega);have w2:IntKind.i64.wrap (((p+1:Nat):Int)+(sg:Int))=((p+1+sg:Nat):Int):=A4 (by omega) (by omega);have w3:IntKind.i64.wrap (51 * (sg:Int))=51 * (sg:Int):=A4 (by omega) (by omega);have w4:IntKind.i64.wrap (1023+51 * (sg:Int))=1023+51 * (sg:Int):=A4 (by omega) (by omega);have ha:=Ik hγ b l 0 9007199254740991 (by omega) (by omega) hl;rw[List.drop_zero,Nat.sub_zero,Nat.sub_zero,←hp]at ha;have hb:=Ik hγ b l (p+1+sg) (1023+51 * sg) hlt (by omega) hl
 have hR:KW l p sg=if K3 sg (DX l 0) (DX l (p+1+sg)) (Ar l (Ai l (p+1+sg)))=true then
  Dh (AM 3 [] 0 (.v (.float .f64 (Dv (Ay (DX l 0)) (CD sg (Ay (DX l (p+1+sg))))))) 0 (Ai l (p+1+sg)))
  else B6 12:=rfl
 generalize KW l p sg=R at hR⊢;have hLd:=fun (m:Nat) (h:m<9007199254740992) (x:Int) hx hx2 h0=>WZ (γ:=γ) m h x hx hx2 h0
 have hat:=DC (γ:=γ) b l (Ai l (p+1+sg));have hnE:Ai l (p+1+sg)≤140737488351232:=by omega
 generalize hA:DX l 0=a at *;generalize hB:DX l (p+1+sg)=c at *;generalize Ar l (Ai l (p+1+sg))=f at *;have hdg:=K4 (γ:=γ) b l (p+1+sg) (by omega) (by omega);have hge:=Iz l (p+1+sg);generalize Ai l (p+1+sg)=n at *;clear hd hA hB;simp only[Tryz.f278,w1,w2,Ad,An,seval];refine Ag.intro b70 (by simp[A0,A6]) hdg ?_;simp only[Ad,An,seval]
 (repeat' (first|(with_reducible refine aI ?_ ?_)|(first|(first|refine gF ?_ ?_|refine gT ?_ ?_|refine cI ?_ ?_|refine pI ?_ ?_)<;>intro h|(refine dI ?_;have h:=trivial))<;>simp only[h,w1,w2,w3,w4,Ad,An,Bv,Bf,seval]))
 all_goals try (((try simp only[decide_eq_true_eq,decide_eq_false_iff_not,beq_iff_eq,bne_iff_ne,ne_eq,beq_eq_false_iff_ne,bne_eq_false_iff_eq]at *)<;>(try omega));done)
 refine Ag.intro mV (by simp[A0,A6]) ha ?_;simp only[w1,w2,w3,w4,Ad,An,seval]
 (repeat' (first|(with_reducible refine aI ?_ ?_)|(first|(first|refine gF ?_ ?_|refine gT ?_ ?_|refine cI ?_ ?_|refine pI ?_ ?_)<;>intro h|(refine dI ?_;have h:=trivial))<;>simp only[h,w1,w2,w3,w4,Ad,An,Bv,Bf,seval]))
 all_goals try (((try simp only[decide_eq_true_eq,decide_eq_false_iff_not,beq_iff_eq,bne_iff_ne,ne_eq,beq_eq_false_iff_ne,bne_eq_false_iff_eq]at *)<;>(try omega));done)
 refine Ag.intro mV (by simp[A0,A6]) hb ?_;clear ha hb hdg
 by_cases hOa:EK a 9007199254740991=true
 ·by_cases hOb:EK c (1023+51 * sg)=true
  ·obtain⟨ea,eb⟩:=Ow hOa;obtain⟨ec,ed⟩:=Ow hOb;rw[ea,ec,hOa,hOb];simp only[HZ,hOa,hOb,true_and]at hR
   have etm:∀ n:Nat,((n:Int).tmod 2==1)=decide (n%2=1):=fun n=>by
    rw[Int.tmod_eq_emod_of_nonneg (by omega)]
    by_cases h:n%2=1
    ·rw[decide_eq_true h];simp;omega
    ·rw[decide_eq_false h];simp;omega
   have ez:∀ n:Nat,((n:Int)==0)=decide (n=0):=fun n=>by
    by_cases h:n=0
    ·simp[h]
    ·rw[decide_eq_false h];simp[h]
   have e1:∀ n:Nat,((n:Int)==1)=decide (n=1):=fun n=>by
    by_cases h:n=1
    ·simp[h]
    ·rw[decide_eq_false h];simp;omega
   generalize Ay a=A at *;generalize Ay c=B at *;have nq:FloatKind.f64.nearest (A:Int)=Dv A 0:=VF A (by omega);have wn:IntKind.i64.wrap (0-(B:Int)) = -(B:Int):=(A4 (by omega) (by omega)).trans (by omega);have x1:sg=1→CD sg B = -(B:Int):=fun h=>by rw[CD,if_pos h]
   have x0:sg≠1→CD sg B=(B:Int):=fun h=>by rw[CD,if_neg h]
   simp only[etm,Ad,seval]
   (repeat' (first|(with_reducible refine aI ?_ ?_)|(first|(first|refine gF ?_ ?_|refine gT ?_ ?_|refine cI ?_ ?_|refine pI ?_ ?_)<;>intro h|(refine dI ?_;have h:=trivial))<;>simp only[h,ez,e1,Ad,An,Bv,Bf,etm,seval]))
   all_goals try (((try simp only[decide_eq_true_eq,decide_eq_false_iff_not,ne_eq]at *)<;>(try omega));done)
   all_goals (try simp only[Bool.not_eq_true',Bool.not_eq_false',decide_eq_true_eq,decide_eq_false_iff_not]at *)
   all_goals try (rw[hR,if_neg (by rintro⟨q1,q2,q3,q4⟩;omega)];simp only[B6,AM,f0,Ad];done)
   all_goals
    (refine Ag.intro WT (by simp[A0,A6]) hat ?_
     simp only[Ad,seval];refine Ag.intro n8 rfl (Fi f) ?_;simp only[Ad,seval];refine BZ.intro (fun hn=>?_) (fun hn=>?_)<;>simp only[hn,e1,Ad,An,seval])
   all_goals try (rw[hR,if_neg (by rintro⟨q1,q2,q3,q4⟩;rw[hn]at q3;cases q3)];simp only[B6,AM,f0,Ad];done)
   all_goals (refine BZ.intro (fun h9=>?_) (fun h9=>?_)<;>simp only[h9,wn,nq,Ad,An,seval])
   all_goals (try simp only[decide_eq_true_eq,decide_eq_false_iff_not]at *)
   all_goals try omega
   ·refine Ag.intro b89 rfl (hLd A (by omega) (B:Int) (by omega) (by omega) (by omega)) ?_;simp only[Ad,seval];refine Ag.intro bW rfl (LV A (by omega) _ (by omega)) ?_;rw[x0 (by omega)]at hR;simp only[Ad,seval];cases hf:Lx A (B:Int)with
    |false=>rw[hR,if_neg (by rintro⟨q1,q2,q3,q4⟩;rw[hf]at q4;cases q4)];simp only[B6,AM,f0,Ad,An,Bf,seval]
    |true=>rw[hR,if_pos ⟨by omega,by omega,hn,hf⟩];simp only[Dh,AM,Ad,An,Bv,seval]
   ·refine Ag.intro b89 rfl (hLd A (by omega) (-(B:Int)) (by omega) (by omega) (by omega)) ?_;simp only[Ad,seval];refine Ag.intro bW rfl (LV A (by omega) _ (by omega)) ?_;rw[x1 (by omega)]at hR;simp only[Ad,seval];cases hf:Lx A (-(B:Int))with
    |false=>rw[hR,if_neg (by rintro⟨q1,q2,q3,q4⟩;rw[hf]at q4;cases q4)];simp only[B6,AM,f0,Ad,An,Bf,seval]
    |true=>rw[hR,if_pos ⟨by omega,by omega,hn,hf⟩];simp only[Dh,AM,Ad,An,Bv,seval]
   ·refine Ag.intro b89 rfl (hLd A (by omega) (B:Int) (by omega) (by omega) (by omega)) ?_;simp only[Ad,seval];refine Ag.intro bW rfl (LV A (by omega) _ (by omega)) ?_;rw[x0 (by omega)]at hR;simp only[Ad,seval];cases hf:Lx A (B:Int)with
    |false=>rw[hR,if_neg (by rintro⟨q1,q2,q3,q4⟩;rw[hf]at q4;cases q4)];simp only[B6,AM,f0,Ad,An,Bf,seval]
    |true=>rw[hR,if_pos ⟨by omega,by omega,hn,hf⟩];simp only[Dh,AM,Ad,An,Bv,seval]
  ·have hb':EK c (1023+51 * sg)=false:=by simpa using hOb
   rw[hR,if_neg (by rw[HZ];rintro⟨q1,q2,_⟩;exact hOb q2),hOa,hb'];simp only[Ad,seval]
   (repeat' (first|(with_reducible refine aI ?_ ?_)|(first|(first|refine gF ?_ ?_|refine gT ?_ ?_|refine cI ?_ ?_|refine pI ?_ ?_)<;>intro h|(refine dI ?_;have h:=trivial))<;>simp only[h,Ad,An,Bv,Bf,seval]))
   all_goals try (((try simp only[beq_iff_eq,ne_eq,beq_eq_false_iff_ne]at *)<;>(try omega));done)
   all_goals (simp only[B6,AM,f0,Ad];done)
 ·have ha':EK a 9007199254740991=false:=by simpa using hOa
  rw[hR,if_neg (by rw[HZ];rintro⟨q1,_⟩;exact hOa q1),ha'];simp only[Ad,seval]
  (repeat' (first|(with_reducible refine aI ?_ ?_)|(first|(first|refine gF ?_ ?_|refine gT ?_ ?_|refine cI ?_ ?_|refine pI ?_ ?_)<;>intro h|(refine dI ?_;have h:=trivial))<;>simp only[h,Ad,An,Bf,Bv,seval]))
  all_goals try (((try simp only[beq_iff_eq,ne_eq,beq_eq_false_iff_ne]at *)<;>(try omega));done)
  all_goals (simp only[B6,AM,f0,Ad];done)
def Jp(l:List UInt8):Nat:=if Ar l (Ai l 0)=112∧Ar l (Ai l 0+1)=45 then 1 else 0
def KS(l:List UInt8):AV:=
 if Ar l (Ai l 0)=112∧A5 (Ar l (Ai l 0+1+Jp l))=true then KW l (Ai l 0) (Jp l)
 else if EK (DX l 0) 9223372036854775807=true∧Ca (Ar l (Ai l 0))=false then Dh (AM 2 [] (Ay (DX l 0)) f0 0 (Ai l 0))else B6 12
theorem Ms(l:List UInt8)(p sg:Nat):∃ k t i r z e,KW l p sg=.tup [.agg [.v (.int .i64 k),.v (.string t),.v (.int .i64 i),.v (.float .f64 r),.v (.int .i64 0),.v (.int .i64 z)],.v (.int .i64 e)]:=by
 unfold KW
 split
 ·exact⟨_,_,_,_,_,_,rfl⟩
 ·exact⟨_,_,_,_,_,_,rfl⟩
set_option maxRecDepth 20000 in
theorem QB(hγ:Gl γ)(b:Bool)(l:List UInt8)(hd:A5 (Ar l 0)=true)(hl:l.length≤140737488351232):
  Ev Tp γ 242 [.sl b l.length l.length (l.map Am)] (KS l):=by
 refine Ev.of Tryz.func242 rfl ?_;have hlt:=Ex hd;have hle:=CS (l:=l) (i:=0) (by omega);have hdg:=K4 (γ:=γ) b l 0 (by omega) (by omega);have ha:=Ik hγ b l 0 9223372036854775807 (by omega) (by omega) (by omega);rw[List.drop_zero,Nat.sub_zero,Nat.sub_zero]at ha;have hreal:=fun sg hsg hd'=>UM hγ b l (Ai l 0) sg rfl (by omega) hsg hd' (by omega)
 have hN:KS l=if Ar l (Ai l 0)=112∧A5 (Ar l (Ai l 0+1+Jp l))=true then KW l (Ai l 0) (Jp l)
  else if EK (DX l 0) 9223372036854775807=true∧Ca (Ar l (Ai l 0))=false then Dh (AM 2 [] (Ay (DX l 0)) f0 0 (Ai l 0))else B6 12:=rfl
 have hS:Jp l=if Ar l (Ai l 0)=112∧Ar l (Ai l 0+1)=45 then 1 else 0:=rfl
 generalize KS l=R at hN⊢;generalize Jp l=sg at *;have hdm:=fun h=>(Ow (l:=DX l 0) (most:=9223372036854775807) h).1
 generalize DX l 0=a at *;generalize Ai l 0=n at *;have w1:IntKind.i64.wrap ((n:Int)+1)=((n+1:Nat):Int):=A4 (by omega) (by omega);have w2:IntKind.i64.wrap (((n+1:Nat):Int)+1)=((n+1+1:Nat):Int):=A4 (by omega) (by omega);have w3:IntKind.i64.wrap (((n+1:Nat):Int)+0)=((n+1+0:Nat):Int):=A4 (by omega) (by omega)
 have e112:∀ k:Nat,((k:Int)==112)=decide (k=112):=fun k=>by
  by_cases h:k=112
  ·simp[h]
  ·rw[decide_eq_false h];simp;omega
 have e45:∀ k:Nat,((k:Int)==45)=decide (k=45):=fun k=>by
  by_cases h:k=45
  ·simp[h]
  ·rw[decide_eq_false h];simp;omega
 simp only[Tryz.f242,Ad,An,seval];refine Ag.intro b70 (by simp[A0,A6]) hdg ?_;simp only[Ad,seval];refine Ag.intro WT (by simp[A0,A6]) (DC b l n) ?_
 by_cases hp:Ar l n=112
 ·have dp:decide (Ar l n=112)=true:=decide_eq_true hp;simp only[e112,w1,dp,Ad,seval];refine Ag.intro WT (by simp[A0,A6]) (DC b l (n+1)) ?_
  by_cases hm:Ar l (n+1)=45
  ·have dm:decide (Ar l (n+1)=45)=true:=decide_eq_true hm;rw[if_pos ⟨hp,hm⟩]at hS;subst hS;simp only[e45,dm,Ad,seval];refine Ag.intro WT (by simp[A0,A6]) (DC b l n) ?_;simp only[e112,w1,w2,dp,Ad,seval];refine Ag.intro WT (by simp[A0,A6]) (DC b l (n+1+1)) ?_;simp only[Ad,seval];refine Ag.intro mF rfl (EW _) ?_;simp only[Ad,seval];refine BZ.intro (fun hdg2=>?_) (fun hdg2=>?_)<;>simp only[hdg2,Ad,An,seval]
   ·rw[if_pos ⟨hp,hdg2⟩]at hN;obtain⟨k1,k2,k3,k4,k5,k6,hsh⟩:=Ms l n 1;have hr:=hreal 1 (by omega) hdg2;rw[hsh]at hr hN;refine Ag.intro b72 (by simp[A0,A6]) hr ?_;rw[hN];simp only[Ad,An,seval]
   ·rw[if_neg (by rintro⟨_,q1⟩;rw[hdg2]at q1;cases q1)]at hN
    (repeat' (first|(with_reducible refine aI ?_ ?_)|(first|(first|refine gF ?_ ?_|refine gT ?_ ?_|refine cI ?_ ?_|refine pI ?_ ?_)<;>intro h|(refine dI ?_;have h:=trivial))<;>simp only[h,Ad,An,Bv,Bf,seval]))
    all_goals try (((try simp only[decide_eq_true_eq]at *)<;>(try omega));done)
    refine Ag.intro mV (by simp[A0,A6]) ha ?_;cases hO:EK a 9223372036854775807 with
    |false=>
     rw[if_neg (by rintro⟨q1,_⟩;rw[hO]at q1;cases q1)]at hN;rw[hN];simp only[B6,AM,f0,Ad,An,Bf,seval]
    |true=>
     simp only[Ad,Bv,seval];refine Ag.intro WT (by simp[A0,A6]) (DC b l n) ?_;simp only[Ad,seval];refine Ag.intro n8 rfl (Fi _) ?_;simp only[Ad,seval];cases hn:Ca (Ar l n)with
     |true=>
      rw[if_neg (by rintro⟨_,q1⟩;rw[hn]at q1;cases q1)]at hN;rw[hN];simp only[B6,AM,f0,Ad,An,seval]
     |false=>
      rw[if_pos ⟨hO,hn⟩]at hN;rw[hN];simp only[Dh,AM,f0,hdm hO,Ad,An,seval]
  ·have dm:decide (Ar l (n+1)=45)=false:=decide_eq_false hm;rw[if_neg (fun q=>hm q.2)]at hS;subst hS;simp only[e45,dm,Ad,seval];refine Ag.intro WT (by simp[A0,A6]) (DC b l n) ?_;simp only[e112,w1,w3,dp,Ad,seval];refine Ag.intro WT (by simp[A0,A6]) (DC b l (n+1+0)) ?_;simp only[Ad,seval];refine Ag.intro mF rfl (EW _) ?_;simp only[Ad,seval];refine BZ.intro (fun hdg2=>?_) (fun hdg2=>?_)<;>simp only[hdg2,Ad,An,seval]
   ·rw[if_pos ⟨hp,hdg2⟩]at hN;obtain⟨k1,k2,k3,k4,k5,k6,hsh⟩:=Ms l n 0;have hr:=hreal 0 (by omega) hdg2;rw[hsh]at hr hN;refine Ag.intro b72 (by simp[A0,A6]) hr ?_;rw[hN];simp only[Ad,An,seval]
   ·rw[if_neg (by rintro⟨_,q1⟩;rw[hdg2]at q1;cases q1)]at hN
    (repeat' (first|(with_reducible refine aI ?_ ?_)|(first|(first|refine gF ?_ ?_|refine gT ?_ ?_|refine cI ?_ ?_|refine pI ?_ ?_)<;>intro h|(refine dI ?_;have h:=trivial))<;>simp only[h,Ad,An,Bv,Bf,seval]))
    all_goals try (((try simp only[decide_eq_true_eq,decide_eq_false_iff_not]at *)<;>(try omega));done)
    refine Ag.intro mV (by simp[A0,A6]) ha ?_;cases hO:EK a 9223372036854775807 with
    |false=>
     rw[if_neg (by rintro⟨q1,_⟩;rw[hO]at q1;cases q1)]at hN;rw[hN];simp only[B6,AM,f0,Ad,An,Bf,seval]
    |true=>
     simp only[Ad,Bv,seval];refine Ag.intro WT (by simp[A0,A6]) (DC b l n) ?_;simp only[Ad,seval];refine Ag.intro n8 rfl (Fi _) ?_;simp only[Ad,seval];cases hn:Ca (Ar l n)with
     |true=>
      rw[if_neg (by rintro⟨_,q1⟩;rw[hn]at q1;cases q1)]at hN;rw[hN];simp only[B6,AM,f0,Ad,An,seval]
     |false=>
      rw[if_pos ⟨hO,hn⟩]at hN;rw[hN];simp only[Dh,AM,f0,hdm hO,Ad,An,seval]
 ·have dp:decide (Ar l n=112)=false:=decide_eq_false hp;rw[if_neg (fun q=>hp q.1)]at hN;simp only[e112,dp,Ad,seval];refine Ag.intro WT (by simp[A0,A6]) (DC b l n) ?_;simp only[e112,dp,Ad,An,seval]
  (repeat' (first|(with_reducible refine aI ?_ ?_)|(first|(first|refine gF ?_ ?_|refine gT ?_ ?_|refine cI ?_ ?_|refine pI ?_ ?_)<;>intro h|(refine dI ?_;have h:=trivial))<;>simp only[h,Ad,An,Bv,Bf,seval]))
  all_goals try (((try simp only[decide_eq_false_iff_not]at *)<;>(try omega));done)
  refine Ag.intro mV (by simp[A0,A6]) ha ?_;cases hO:EK a 9223372036854775807 with
  |false=>
   rw[if_neg (by rintro⟨q1,_⟩;rw[hO]at q1;cases q1)]at hN;rw[hN];simp only[B6,AM,f0,Ad,An,Bf,seval]
  |true=>
   simp only[Ad,Bv,seval];refine Ag.intro WT (by simp[A0,A6]) (DC b l n) ?_;simp only[Ad,seval];refine Ag.intro n8 rfl (Fi _) ?_;simp only[Ad,seval];cases hn:Ca (Ar l n)with
   |true=>
    rw[if_neg (by rintro⟨_,q1⟩;rw[hn]at q1;cases q1)]at hN;rw[hN];simp only[B6,AM,f0,Ad,An,seval]
   |false=>
    rw[if_pos ⟨hO,hn⟩]at hN;rw[hN];simp only[Dh,AM,f0,hdm hO,Ad,An,seval]
structure AG where
 kind:Int
 text:List UInt8
 int:Int
 real:Nat
 size:Nat
def AG.av(t:AG)(pos:Int):AV:=AM t.kind t.text t.int (.v (.float .f64 t.real)) pos t.size
def zeroT:AG:=⟨0,[],0,0,0⟩
def Jk:Except Int AG→AV
 |.ok t=>Dh (t.av 0)
 |.error e=>B6 e
def KG(l:List UInt8)(p sg:Nat):Except Int AG:=
 if K3 sg (DX l 0) (DX l (p+1+sg)) (Ar l (Ai l (p+1+sg)))=true then
  .ok ⟨3,[],0,Dv (Ay (DX l 0)) (CD sg (Ay (DX l (p+1+sg)))),Ai l (p+1+sg)⟩
 else .error 12
theorem Zg(l:List UInt8)(p sg:Nat):KW l p sg=Jk (KG l p sg):=by
 unfold KW KG;split<;>rfl
def C2(l:List UInt8):Except Int AG:=
 if Ar l (Ai l 0)=112∧A5 (Ar l (Ai l 0+1+Jp l))=true then KG l (Ai l 0) (Jp l)
 else if EK (DX l 0) 9223372036854775807=true∧Ca (Ar l (Ai l 0))=false then .ok ⟨2,[],Ay (DX l 0),0,Ai l 0⟩else .error 12
theorem Nu(l:List UInt8):KS l=Jk (C2 l):=by
 unfold KS C2
 split
 ·exact Zg _ _ _
 ·split<;>rfl
def Gz(l:List UInt8):Except Int AG:=
 match E0 l.length l 1 []with
 |none=>.error 11
 |some (d,n)=>.ok ⟨4,d,0,0,n⟩
theorem Su(l:List UInt8):Hj (E0 l.length l 1 [])=Jk (Gz l):=by
 unfold Gz;cases E0 l.length l 1 []with
 |none=>rfl
 |some q=>rfl
def headD(s:List UInt8):Except Int AG:=
 if Eh (Ar s 0)=true then (if 32<AI Ca s 1 then .error 13 else .ok ⟨1,s.take (AI Ca s 1),0,0,AI Ca s 1⟩)
 else if A5 (Ar s 0)=true then C2 s
 else if Ar s 0=34 then Gz s
 else if C6 s=0 then .error 10 else .ok ⟨5,s.take (C6 s),0,0,C6 s⟩
def Gr:Bool→List UInt8→Nat
 |_,[]=>0
 |true,c::r=>if c.toNat=10 then 1+Gr false r else 1+Gr true r
 |false,c::r=>if Hb c.toNat=true then 1+Gr false r else if c.toNat=35 then 1+Gr true r else 0
theorem Lp{l:List UInt8}{i:Nat}(h:i<l.length):∃ c,l.drop i=c::l.drop (i+1)∧c.toNat=Ar l i:=by
 refine⟨l[i],List.drop_eq_getElem_cons h,?_⟩;simp[Ar,List.getD,h]
theorem L7{l:List UInt8}{i:Nat}(h:i<l.length)(hb:Hb (Ar l i)=true):Gr false (l.drop i)=1+Gr false (l.drop (i+1)):=by
 obtain⟨c,e,hc⟩:=Lp h;rw[e,Gr,hc,if_pos hb]
theorem M9{l:List UInt8}{i:Nat}(h:i<l.length)(hb:Hb (Ar l i)=false)(h2:Ar l i=35):Gr false (l.drop i)=1+Gr true (l.drop (i+1)):=by
 obtain⟨c,e,hc⟩:=Lp h;rw[e,Gr,hc,if_neg (by rw[hb];decide),if_pos h2]
theorem Ov{l:List UInt8}{i:Nat}(h:i<l.length)(hb:Hb (Ar l i)=false)(h2:Ar l i≠35):Gr false (l.drop i)=0:=by
 obtain⟨c,e,hc⟩:=Lp h;rw[e,Gr,hc,if_neg (by rw[hb];decide),if_neg h2]
theorem FV{l:List UInt8}{i:Nat}{b:Bool}(h:l.length≤i):Gr b (l.drop i)=0:=by
 rw[List.drop_eq_nil_of_le h];cases b<;>rfl
theorem U1{l:List UInt8}{i:Nat}(h:i<l.length)(h2:Ar l i=10):Gr true (l.drop i)=Gr false (l.drop i):=by
 obtain⟨c,e,hc⟩:=Lp h;rw[e,Gr,Gr,hc,if_pos h2,if_pos (by rw[h2];decide)]
theorem Nr{l:List UInt8}{i:Nat}(h:i<l.length)(h2:Ar l i≠10):Gr true (l.drop i)=1+Gr true (l.drop (i+1)):=by
 obtain⟨c,e,hc⟩:=Lp h;rw[e,Gr,hc,if_neg h2]
def AQ(l:List UInt8)(i:Nat):Nat:=i+Gr false (l.drop i)
def KU(l:List UInt8)(i:Nat):AV:=
 if l.length≤AQ l i then .tup [AM 0 [] 0 f0 0 0,.v (.bool false),.v (.int .i64 0)]
 else match headD (l.drop (AQ l i))with
  |.error e=>.tup [AM 0 [] 0 f0 (AQ l i) 0,.v (.bool true),.v (.int .i64 e)]
  |.ok t=>.tup [t.av (AQ l i),.v (.bool true),.v (.int .i64 0)]
end Go.Proofs.YtlobiioioicmhaaGreatDoor
