/- A part of the proof. -/
import Derived.Test.YtlobiioioicmhaaGreatDoorDQ1
import GoSem.Core.Float
set_option linter.all false
set_option maxHeartbeats 8000000
namespace Go.Proofs.YtlobiioioicmhaaGreatDoor
open _root_.Bool renaming not_true→Bv,not_false→Bf
open _root_.List renaming length_drop→Bd,length_take→Bh,getElem?_drop→BX,getElem?_take→BY
open Go.Proofs.Tryz renaming prog→Tp
open Go Go.Ev
set_option maxRecDepth 20000
variable {γ:List (Nat×AV)}
def Gl(γ:List (Nat×AV)):Prop:=(∃ m,Go.Ev.look γ 1=AV.ela false [AV.v (.int .i64 m)])∧∃ te pe,Go.Ev.look γ 3=AV.ela false [AV.v (.iface te pe)]
theorem toError_ev(hγ:Gl γ)(fn s:ByteArray)(hs:s.size≤281474976710656)(b n:Int):Ev Tp γ 170 [.v (.string fn),.v (.string s),.v (.int .i64 b),.v (.int .i64 n),.ifc 260 (.v (.int .i64 1))] (.ifc 261 .bad):=by
 intro G B w vs hG hg hr;obtain⟨te,pe,h4⟩:=hγ.2;have hm:=(hg 3).2;rw[h4]at hm;simp only[rel,relAt,Cx.shut]at hm;obtain⟨r,off,e1,_,⟨u,hc,rfl⟩,_⟩:=hm;cases e1;simp only[relL,rel]at hr;obtain⟨u1,us,e1,rfl,u2,us2,rfl,rfl,u3,us3,rfl,rfl,u4,us4,rfl,rfl,u5,us5,rfl,⟨y,rfl,rfl⟩,rfl⟩:=hr;obtain rfl:vs = #[.string fn,.string s,.int .i64 b,.int .i64 n,.iface 260 (.int .i64 1)]:=by cases vs;simp_all
 refine (Any.strconv_toError_range Go.Proofs.Tryz.laysC245 fn s b n (.iface te pe) w hs hc (.inr ⟨_,_,rfl⟩)).mono ?_
 rintro e w' ⟨N,rfl,_,_,hb⟩
 refine⟨_,rfl,?_,hb⟩;simp only[rel];exact⟨_,rfl,trivial⟩
def intR(l:List UInt8):AV:=if decV l<9223372036854775808 then .tup [.v (.int .i64 (decV l)),.v .nilIface]else .tup [.v (.int .i64 9223372036854775807),.ifc 260 (.v (.int .i64 1))]
theorem b109:bodyT Tp 223:=⟨_,Tryz.func223,by kernel_rfl,by kernel_rfl⟩
theorem b90:bodyT Tp 169:=⟨_,Tryz.func169,by kernel_rfl,by kernel_rfl⟩
theorem b91:bodyT Tp 170:=⟨_,Tryz.func170,by kernel_rfl,by kernel_rfl⟩
theorem b59:bodyT Tp 100:=⟨_,Tryz.func100,by kernel_rfl,by kernel_rfl⟩
set_option maxRecDepth 20000 in
theorem parseInt_ev(l:List UInt8)(h1:1≤l.length)(hl:l.length≤140737488351232)(hd:∀ j,j<l.length→digitN (atL l j)=true):
  Ev Tp γ 169 [.v (.string ⟨l.toArray⟩),.v (.int .i64 10),.v (.int .i64 64)] (intR l):=by
 refine Ev.of Tryz.func169 rfl ?_
 have hne:(l==([]:List UInt8))=false:=by
  cases l with
  |nil=>simp at h1
  |cons=>rfl
 have hd0:48≤atL l 0∧atL l 0≤57:=by simpa[digitN]using hd 0 (by omega)
 have ea:∀ j,(l.getD j 0).toNat=atL l j:=fun _=>rfl
 have n43:((atL l 0:Int)==43)=false:=by simp;omega
 have n45:((atL l 0:Int)==45)=false:=by simp;omega
 have h640:((64:Int)==0)=false:=by decide
 have w63:IntKind.u64.wrap 63=63:=by rw[u64w]<;>omega
 have w631:IntKind.i64.wrap (64-1)=63:=by decide
 have wsh:IntKind.u64.wrap (1 * 2^min (Int.toNat 63) IntKind.u64.bits)=9223372036854775808:=by decide
 have wsh':IntKind.u64.wrap (1 * 2^min 63 IntKind.u64.bits)=9223372036854775808:=by decide
 have wm1:IntKind.u64.wrap (9223372036854775808-1)=9223372036854775807:=by decide
 have wm2:IntKind.i64.wrap 9223372036854775807=9223372036854775807:=by decide
 simp only[Tryz.f169,hne,ea,n43,n45,evS,tyS,Nat.reduceAdd,Nat.reduceSub,Nat.reduceLT,Nat.reduceEqDiff,reduceCtorEq,Int.reduceLE]
 (repeat' (first|(with_reducible refine aI ?_ ?_)|(first|(first|refine gF ?_ ?_|refine gT ?_ ?_|refine cI ?_ ?_|refine pI ?_ ?_)<;>intro h|(refine dI ?_;have h:=trivial))<;>simp only[h,tyP,tyQ,hne,ea,n43,n45,evS,tyS,Bv,Bf,Nat.reduceAdd,Nat.reduceSub,Nat.reduceMul,Nat.reduceLT,Nat.reduceLeDiff,Nat.reduceEqDiff,reduceCtorEq,List.reduceReplicate,Int.reduceToNat,Int.reduceLE,Int.reduceLT]))
 all_goals try (((try simp only[ne_eq,beq_eq_false_iff_ne]at *)<;>(try omega));done)
 refine CallK.intro b109 rfl (parseUint_ev l h1 hl hd) ?_
 by_cases h64:decV l<18446744073709551616
 ·rw[uintR,if_pos h64]
  by_cases h63:decV l<9223372036854775808
  ·have e1:IntKind.i64.wrap (decV l:Int)=decV l:=by rw[i64w]<;>omega
   have e2:(decide (9223372036854775808≤(decV l:Int)))=false:=by simp;omega
   rw[intR,if_pos h63];simp only[tyP,h640,w63,w631,wsh',e1,e2,evS,tyS,Bv,Bf,Nat.reduceLT,Nat.reduceEqDiff,reduceCtorEq,Int.reduceToNat,Int.reduceLE]
   (repeat' (first|(with_reducible refine aI ?_ ?_)|(first|(first|refine gF ?_ ?_|refine gT ?_ ?_|refine cI ?_ ?_|refine pI ?_ ?_)<;>intro h|(refine dI ?_;have h:=trivial))<;>simp only[h,tyP,tyQ,hne,ea,h640,w63,w631,wsh,wsh',wm1,wm2,e1,e2,evS,tyS,Bv,Bf,Nat.reduceAdd,Nat.reduceSub,Nat.reduceMul,Nat.reduceLT,Nat.reduceLeDiff,Nat.reduceEqDiff,reduceCtorEq,List.reduceReplicate,Int.reduceToNat,Int.reduceLE,Int.reduceLT]))
   all_goals try (((try simp only[decide_eq_true_eq,decide_eq_false_iff_not,beq_iff_eq,bne_iff_ne,ne_eq,beq_eq_false_iff_ne,bne_eq_false_iff_eq]at *)<;>(try omega));done)
  ·have e2:(decide (9223372036854775808≤(decV l:Int)))=true:=by simp;omega
   rw[intR,if_neg h63];simp only[tyP,h640,w63,w631,wsh',wm1,wm2,e2,evS,tyS,Bv,Bf,Nat.reduceLT,Nat.reduceEqDiff,reduceCtorEq,Int.reduceToNat,Int.reduceLE]
   (repeat' (first|(with_reducible refine aI ?_ ?_)|(first|(first|refine gF ?_ ?_|refine gT ?_ ?_|refine cI ?_ ?_|refine pI ?_ ?_)<;>intro h|(refine dI ?_;have h:=trivial))<;>simp only[h,tyP,tyQ,hne,ea,h640,w63,w631,wsh,wsh',wm1,wm2,e2,evS,tyS,Bv,Bf,Nat.reduceAdd,Nat.reduceSub,Nat.reduceMul,Nat.reduceLT,Nat.reduceLeDiff,Nat.reduceEqDiff,reduceCtorEq,List.reduceReplicate,Int.reduceToNat,Int.reduceLE,Int.reduceLT]))
   all_goals try (((try simp only[decide_eq_true_eq,decide_eq_false_iff_not,beq_iff_eq,bne_iff_ne,ne_eq,beq_eq_false_iff_ne,bne_eq_false_iff_eq]at *)<;>(try omega));done)
 ·rw[uintR,if_neg h64,intR,if_neg (by omega)];simp only[tyP,tyQ,h640,w63,w631,wsh',wm1,wm2,evS,tyS,Bv,Bf,Nat.reduceLT,Nat.reduceEqDiff,reduceCtorEq,Int.reduceToNat,Int.reduceLE]
  (repeat' (first|(with_reducible refine aI ?_ ?_)|(first|(first|refine gF ?_ ?_|refine gT ?_ ?_|refine cI ?_ ?_|refine pI ?_ ?_)<;>intro h|(refine dI ?_;have h:=trivial))<;>simp only[h,tyP,tyQ,hne,ea,h640,w63,w631,wsh,wsh',wm1,wm2,evS,tyS,Bv,Bf,Nat.reduceAdd,Nat.reduceSub,Nat.reduceMul,Nat.reduceLT,Nat.reduceLeDiff,Nat.reduceEqDiff,reduceCtorEq,List.reduceReplicate,Int.reduceToNat,Int.reduceLE,Int.reduceLT]))
  all_goals try (((try simp only[decide_eq_true_eq,decide_eq_false_iff_not,beq_iff_eq,bne_iff_ne,ne_eq,beq_eq_false_iff_ne,bne_eq_false_iff_eq]at *)<;>(try omega));done)
def int59R(l:List UInt8):AV:=if decV l<9223372036854775808 then .tup [.v (.int .i64 (decV l)),.v .nilIface]else .tup [.v (.int .i64 9223372036854775807),.ifc 261 .bad]
set_option maxRecDepth 20000 in
theorem parseInt59_ev(hγ:Gl γ)(l:List UInt8)(h1:1≤l.length)(hl:l.length≤140737488351232)(hd:∀ j,j<l.length→digitN (atL l j)=true):
  Ev Tp γ 100 [.v (.string ⟨l.toArray⟩),.v (.int .i64 10),.v (.int .i64 64)] (int59R l):=by
 refine Ev.of Tryz.func100 rfl ?_;simp only[Tryz.f100,evS,Nat.reduceAdd,Nat.reduceSub,Nat.reduceLT,Nat.reduceEqDiff,reduceCtorEq];refine CallK.intro b90 rfl (parseInt_ev l h1 hl hd) ?_
 by_cases h63:decV l<9223372036854775808
 ·rw[intR,if_pos h63,int59R,if_pos h63];simp only[tyP,evS,Bv,Nat.reduceLT,Nat.reduceEqDiff,reduceCtorEq]
  (repeat' (first|(with_reducible refine aI ?_ ?_)|(first|(first|refine gF ?_ ?_|refine gT ?_ ?_|refine cI ?_ ?_|refine pI ?_ ?_)<;>intro h|(refine dI ?_;have h:=trivial))<;>simp only[h,tyP,tyQ,evS,tyS,Bv,Bf,Nat.reduceAdd,Nat.reduceSub,Nat.reduceMul,Nat.reduceLT,Nat.reduceLeDiff,Nat.reduceEqDiff,reduceCtorEq,List.reduceReplicate,Int.reduceToNat,Int.reduceLE,Int.reduceLT]))
  all_goals try (((try simp only[decide_eq_true_eq,decide_eq_false_iff_not,beq_iff_eq,bne_iff_ne,ne_eq,beq_eq_false_iff_ne,bne_eq_false_iff_eq]at *)<;>(try omega));done)
 ·rw[intR,if_neg h63,int59R,if_neg h63];simp only[tyP,evS,Bf,Nat.reduceLT,Nat.reduceEqDiff,reduceCtorEq];refine CallK.intro b91 rfl (toError_ev hγ _ _ (by show l.toArray.size≤_;rw[List.size_toArray];omega) _ _) ?_;simp only[evS,Nat.reduceLT,Nat.reduceEqDiff,reduceCtorEq]
  (repeat' (first|(with_reducible refine aI ?_ ?_)|(first|(first|refine gF ?_ ?_|refine gT ?_ ?_|refine cI ?_ ?_|refine pI ?_ ?_)<;>intro h|(refine dI ?_;have h:=trivial))<;>simp only[h,tyP,tyQ,evS,tyS,Bv,Bf,Nat.reduceAdd,Nat.reduceSub,Nat.reduceMul,Nat.reduceLT,Nat.reduceLeDiff,Nat.reduceEqDiff,reduceCtorEq,List.reduceReplicate,Int.reduceToNat,Int.reduceLE,Int.reduceLT]))
  all_goals try (((try simp only[decide_eq_true_eq,decide_eq_false_iff_not,beq_iff_eq,bne_iff_ne,ne_eq,beq_eq_false_iff_ne,bne_eq_false_iff_eq]at *)<;>(try omega));done)
def decR(l:List UInt8)(most:Int):AV:=if 1<l.length∧atL l 0=48 then .tup [.v (.int .i64 0),.v (.bool false)]else if decV l<9223372036854775808 then .tup [.v (.int .i64 (decV l)),.v (.bool (decide ((decV l:Int)≤most)))]else .tup [.v (.int .i64 9223372036854775807),.v (.bool false)]
set_option maxRecDepth 20000 in
theorem lexDecimal_ev(hγ:Gl γ)(b:Bool)(l:List UInt8)(most:Int)(h1:1≤l.length)(hl:l.length≤140737488351232)(hd:∀ j,j<l.length→digitN (atL l j)=true):
  Ev Tp γ 279 [.sl b l.length l.length (l.map byteC),.v (.int .i64 most)] (decR l most):=by
 refine Ev.of Tryz.func279 rfl ?_
 have t0:take1 (l.map byteC)=some (.v (.int .u8 (atL l 0))):=by
  have:=take1_byte (l:=l) (n:=0) (by omega);rw[List.drop_zero]at this;rw[this];simp[atL,List.getD,List.getElem?_eq_getElem (show 0<l.length by omega)]
 simp only[Tryz.f279,evS,tyS,Nat.reduceAdd,Nat.reduceSub,Nat.reduceLT,Nat.reduceEqDiff,reduceCtorEq]
 (repeat' (first|(with_reducible refine aI ?_ ?_)|(first|(first|refine gF ?_ ?_|refine gT ?_ ?_|refine cI ?_ ?_|refine pI ?_ ?_)<;>intro h|(refine dI ?_;have h:=trivial))<;>simp only[h,t0,evS,tyS,Nat.reduceLT,Nat.reduceEqDiff,reduceCtorEq,Int.reduceLE,Bv,Bf,Nat.reduceAdd,Nat.reduceSub,Nat.reduceMul,Nat.reduceLeDiff,List.reduceReplicate,Int.reduceToNat,Int.reduceLT]))
 all_goals try (((try simp only[decide_eq_true_eq,decide_eq_false_iff_not,beq_iff_eq,ne_eq,beq_eq_false_iff_ne]at *)<;>(try omega));done)
 ·((try simp only[decide_eq_true_eq,beq_iff_eq]at *)<;>(try omega))
  rw[decR,if_pos (by omega)];simp only[evS]
 all_goals
  (have hz:¬(1<l.length∧atL l 0=48):=by ((try simp only[decide_eq_true_eq,decide_eq_false_iff_not,ne_eq,beq_eq_false_iff_ne]at *)<;>(try omega))
   refine CallK.intro b59 rfl (parseInt59_ev hγ l h1 hl hd) ?_
   by_cases h63:decV l<9223372036854775808
   ·rw[int59R,if_pos h63,decR,if_neg hz,if_pos h63];simp only[tyP,evS,Nat.reduceLT,Nat.reduceEqDiff,reduceCtorEq]
   ·rw[int59R,if_neg h63,decR,if_neg hz,if_neg h63];simp only[tyP,evS,Nat.reduceLT,Nat.reduceEqDiff,reduceCtorEq])
end Go.Proofs.YtlobiioioicmhaaGreatDoor
namespace Go.Ev
open _root_.Bool renaming not_true→Bv,not_false→Bf
open _root_.List renaming length_drop→Bd,length_take→Bh,getElem?_drop→BX,getElem?_take→BY
open Go
def lastP(m:Nat)(e:Int):Int:=max (e+m.log2-52) (-1074)
def dblN(m:Nat)(e:Int):Nat:=min ((lastP m e+1074).toNat * 4503599627370496+m * 2^(e-lastP m e).toNat) 9218868437227405312
theorem log2_lt53{m:Nat}(h0:0<m)(h:m<9007199254740992):m.log2≤52:=by
 have:m.log2<53:=(Nat.log2_lt (by omega)).2 (by simpa using h)
 omega
theorem lastP_le{m:Nat}{e:Int}(h0:0<m)(h:m<9007199254740992)(he : -1074≤e):lastP m e≤e:=by
 have:=log2_lt53 h0 h;unfold lastP;omega
theorem log2_mul_pow{m:Nat}(h0:0<m)(k:Nat):(m * 2^k).log2=m.log2+k:=by
 have hp:0<2^k:=Nat.pos_of_ne_zero (by simp);have hm:0<m * 2^k:=Nat.mul_pos h0 hp;have hlt:m<2^(m.log2+1):=Nat.lt_log2_self;have hge:2^m.log2≤m:=Nat.log2_self_le (by omega)
 have a:(m * 2^k).log2<m.log2+k+1:=(Nat.log2_lt (by omega)).2 (by
  rw[show m.log2+k+1=(m.log2+1)+k from by omega,Nat.pow_add];exact Nat.mul_lt_mul_of_pos_right hlt hp)
 have b:¬(m * 2^k).log2<m.log2+k:=fun hc=>by
  have:=(Nat.log2_lt (by omega)).1 hc;rw[Nat.pow_add]at this;exact absurd (Nat.mul_le_mul_right (2^k) hge) (by omega)
 omega
theorem cut_exact(n d:Nat)(h0:0<n):Ieee.Toward.even.cut false (n * 2^d) d=n:=by
 have h2:0<2^d:=Nat.pos_of_ne_zero (by simp);have hm:min d ((n * 2^d).log2+2)=d:=by rw[log2_mul_pow h0];omega
 unfold Ieee.Toward.cut;simp only[hm,Nat.one_shiftLeft,Nat.mul_mod_left,Nat.mul_div_left _ h2];have:¬(2^d<2 * 0):=by omega
 have h3:(2^d==2 * 0)=false:=by simp
 simp[this,h3]
theorem cut_zero(n:Nat):Ieee.Toward.even.cut false n 0=n:=by
 unfold Ieee.Toward.cut;have:(min 0 (n.log2+2))=0:=by omega
 simp[this,Nat.mod_one]
theorem nearest_exact(m:Nat)(e:Int)(k:Nat)(h0:0<m)(h:m<9007199254740992)(he : -1074≤e):Ieee.double.nearest false (m * 2^k) (e-k)=dblN m e:=by
 have hl:=log2_lt53 h0 h;have hle:=lastP_le h0 h he
 have hp:m * 2^k≠0:=by have:0<2^k:=Nat.pos_of_ne_zero (by simp)
                       exact Nat.ne_of_gt (Nat.mul_pos h0 this)
 have e1:Ieee.double.leastPlace = -1074:=by rfl
 have e2:Ieee.double.binade=4503599627370496:=by rfl
 have e3:Ieee.double.infRung=9218868437227405312:=by rfl
 have e4:Ieee.double.fractionBits=52:=rfl;have e5:max (e-k+((m * 2^k).log2:Nat)-(52:Nat)) (-1074)=lastP m e:=by rw[log2_mul_pow h0];unfold lastP;omega
 unfold Ieee.Format.nearest;rw[if_neg hp];simp only[e1,e2,e3,e4,e5];unfold Ieee.Format.word dblN;simp only[Bool.false_eq_true,if_false];have e6:(lastP m e - -1074).toNat=(lastP m e+1074).toNat:=by congr 1
 rw[e6]
 have key:Ieee.Toward.even.cut false ((m * 2^k) <<< (e-k-lastP m e).toNat) (lastP m e-(e-k)).toNat=m * 2^(e-lastP m e).toNat:=by
  by_cases hk:(k:Int)≤e-lastP m e
  ·have a1:(lastP m e-(e-k)).toNat=0:=by omega
   have a2:k+(e-k-lastP m e).toNat=(e-lastP m e).toNat:=by omega
   rw[a1,cut_zero,Nat.shiftLeft_eq,Nat.mul_assoc,←Nat.pow_add,a2]
  ·have a1:(e-k-lastP m e).toNat=0:=by omega
   have a2:k=(e-lastP m e).toNat+(lastP m e-(e-k)).toNat:=by omega
   rw[a1]
   have:(m * 2^k) <<< 0=(m * 2^(e-lastP m e).toNat) * 2^(lastP m e-(e-k)).toNat:=by
    rw[Nat.shiftLeft_eq,Nat.pow_zero,Nat.mul_one,Nat.mul_assoc,←Nat.pow_add,←a2]
   rw[this,cut_exact];exact Nat.mul_pos h0 (Nat.pos_of_ne_zero (by simp))
 rw[key]
theorem pow_le52{m:Nat}{e:Int}(h0:0<m)(h:m<9007199254740992)(he : -1074≤e):m * 2^(e-lastP m e).toNat<9007199254740992∧(-1074<lastP m e→4503599627370496≤m * 2^(e-lastP m e).toNat):=by
 have hl:=log2_lt53 h0 h;have hle:=lastP_le h0 h he;have hlt:m<2^(m.log2+1):=Nat.lt_log2_self;have hge:2^m.log2≤m:=Nat.log2_self_le (by omega)
 constructor
 ·have:(e-lastP m e).toNat≤52-m.log2:=by unfold lastP;omega
  calc m * 2^(e-lastP m e).toNat<2^(m.log2+1) * 2^(e-lastP m e).toNat:=Nat.mul_lt_mul_of_pos_right hlt (Nat.pos_of_ne_zero (by simp))
   _=2^(m.log2+1+(e-lastP m e).toNat):=(Nat.pow_add _ _ _).symm
   _≤2^53:=Nat.pow_le_pow_right (by omega) (by omega)
   _=9007199254740992:=by rfl
 ·intro hg;have:(e-lastP m e).toNat=52-m.log2:=by unfold lastP at *;omega
  rw[this]
  calc 4503599627370496=2^(m.log2+(52-m.log2)):=by rw[show m.log2+(52-m.log2)=52 from by omega]
   _=2^m.log2 * 2^(52-m.log2):=by rw[Nat.pow_add]
   _≤m * 2^(52-m.log2):=Nat.mul_le_mul_right _ hge
theorem fin_iff{m:Nat}{e:Int}(h0:0<m)(h:m<9007199254740992)(he : -1074≤e):(e+m.log2≤1023→(lastP m e+1074).toNat * 4503599627370496+m * 2^(e-lastP m e).toNat<9218868437227405312)∧(1024≤e+m.log2→9218868437227405312≤(lastP m e+1074).toNat * 4503599627370496+m * 2^(e-lastP m e).toNat):=by
 have hl:=log2_lt53 h0 h;have hle:=lastP_le h0 h he;have hp:=pow_le52 h0 h he;generalize m * 2^(e-lastP m e).toNat=K at *
 constructor
 ·intro hf;have:lastP m e≤971:=by unfold lastP;omega
  omega
 ·intro hf;have h2:972≤lastP m e:=by unfold lastP;omega
  have:=hp.2 (by omega)
  omega
theorem read_dbl{m:Nat}{e:Int}(h0:0<m)(h:m<9007199254740992)(he : -1074≤e)(hf:e+m.log2≤1023):Ieee.double.read (dblN m e)=.number false (m * 2^(e-lastP m e).toNat) (lastP m e):=by
 have hlt:=(fin_iff h0 h he).1 hf;have hp:=pow_le52 h0 h he;have hge : -1074≤lastP m e:=by unfold lastP;omega
 have hd:dblN m e=(lastP m e+1074).toNat * 4503599627370496+m * 2^(e-lastP m e).toNat:=by unfold dblN;omega
 have e1:Ieee.double.leastPlace = -1074:=by rfl
 have e2:Ieee.double.binade=4503599627370496:=by rfl
 have e3:Ieee.double.infRung=9218868437227405312:=by rfl
 have e4:Ieee.double.signWeight=9223372036854775808:=by rfl
 rw[hd];unfold Ieee.Format.read;simp only[e1,e2,e3,e4];generalize m * 2^(e-lastP m e).toNat=K at *;generalize lastP m e=L at *;have b1:((L+1074).toNat * 4503599627370496+K) / 9223372036854775808=0:=Nat.div_eq_of_lt (by omega);have b2:((L+1074).toNat * 4503599627370496+K)%9223372036854775808=(L+1074).toNat * 4503599627370496+K:=Nat.mod_eq_of_lt (by omega);rw[b1,b2];have b3:((0%2:Nat)==1)=false:=by rfl
 rw[b3]
 by_cases hs:(L+1074).toNat * 4503599627370496+K<4503599627370496
 ·rw[if_pos hs];have:L = -1074:=by omega
  subst this;simp
 ·rw[if_neg hs,if_pos hlt]
  by_cases hK:4503599627370496≤K
  ·have c1:4503599627370496+((L+1074).toNat * 4503599627370496+K)%4503599627370496=K:=by omega
   have c2:(-1074:Int)+((((L+1074).toNat * 4503599627370496+K) / 4503599627370496-1:Nat):Int)=L:=by omega
   rw[c1,c2]
  ·have:L = -1074:=by
    rcases Int.lt_or_le (-1074) L with hne|hne
    ·exact absurd (hp.2 hne) hK
    ·omega
   omega
theorem dbl_inf{m:Nat}{e:Int}(h0:0<m)(h:m<9007199254740992)(he : -1074≤e)(hf:1024≤e+m.log2):dblN m e=9218868437227405312:=by
 have:=(fin_iff h0 h he).2 hf;unfold dblN;omega
theorem rd0:Ieee.double.read 0=.number false 0 (-1074):=by rfl
theorem rdMin:Ieee.double.read 4503599627370496=.number false 4503599627370496 (-1074):=by rfl
theorem rdMax:Ieee.double.read 9218868437227405311=.number false 9007199254740991 971:=by rfl
theorem rdInf:Ieee.double.read 9218868437227405312=.infinity false:=by rfl
theorem one_le_pow(k:Nat):1≤2^k:=Nat.pos_of_ne_zero (by simp)
section
variable {m:Nat} {e:Int}
theorem rd_inf(h0:0<m)(h:m<9007199254740992)(he : -1074≤e)(hf:1024≤e+m.log2):Ieee.double.read (dblN m e)=.infinity false:=by
 rw[dbl_inf h0 h he hf,rdInf]
theorem ord_zero(h0:0<m)(h:m<9007199254740992)(he : -1074≤e):Ieee.double.order (dblN m e) 0=some .gt:=by
 unfold Ieee.Format.order
 by_cases hf:e+m.log2≤1023
 ·rw[read_dbl h0 h he hf,rd0];have hM:0<m * 2^(e-lastP m e).toNat:=Nat.mul_pos h0 (Nat.pos_of_ne_zero (by simp));have hl : -1074≤lastP m e:=by unfold lastP;omega
  simp only[Ieee.Datum.order,Ieee.signed,Bool.false_eq_true,if_false,Nat.shiftLeft_eq,Nat.zero_mul];generalize m * 2^(e-lastP m e).toNat=M at *;have hp:=one_le_pow (lastP m e-min (lastP m e) (-1074)).toNat;have:0<M * 2^(lastP m e-min (lastP m e) (-1074)).toNat:=Nat.mul_pos hM hp;generalize M * 2^(lastP m e-min (lastP m e) (-1074)).toNat=A at *
  have:compare ((A:Nat):Int) ((0:Nat):Int)=.gt:=by
   rw[Int.compare_eq_gt];omega
  rw[this]
 ·rw[rd_inf h0 h he (by omega),rd0];rfl
theorem ord_min(h0:0<m)(h:m<9007199254740992):Ieee.double.order (dblN m 0) 4503599627370496=some .gt:=by
 have hlg:=log2_lt53 h0 h;have hf:(0:Int)+m.log2≤1023:=by omega
 unfold Ieee.Format.order;rw[read_dbl h0 h (by omega) hf,rdMin];have hl:lastP m 0=(m.log2:Int)-52:=by unfold lastP;omega
 have hM:=(pow_le52 h0 h (by omega:(-1074:Int)≤0)).2 (by omega);simp only[Ieee.Datum.order,Ieee.signed,Bool.false_eq_true,if_false,Nat.shiftLeft_eq];generalize m * 2^((0:Int)-lastP m 0).toNat=M at *;have e1:((-1074:Int)-min (lastP m 0) (-1074)).toNat=0:=by omega
 obtain⟨k,hk⟩:∃ k,(lastP m 0-min (lastP m 0) (-1074)).toNat=k+1:=⟨(lastP m 0-min (lastP m 0) (-1074)).toNat-1,by omega⟩;rw[e1,hk];have hp:=one_le_pow k
 have:9007199254740992≤M * 2^(k+1):=by
  rw[Nat.pow_succ]
  calc 9007199254740992=4503599627370496 * (1 * 2):=by omega
   _≤M * (2^k * 2):=Nat.mul_le_mul hM (Nat.mul_le_mul_right _ hp)
 generalize M * 2^(k+1)=A at *
 have:compare ((A:Nat):Int) ((4503599627370496 * 2^0:Nat):Int)=.gt:=by
  rw[Int.compare_eq_gt];omega
 rw[this]
theorem ord_max(h0:0<m)(h:m<9007199254740992)(he : -1074≤e):(Ieee.double.order (dblN m e) 9218868437227405311==some .gt)=decide (1024≤e+m.log2):=by
 unfold Ieee.Format.order
 by_cases hf:e+m.log2≤1023
 ·rw[read_dbl h0 h he hf,rdMax];have hlg:=log2_lt53 h0 h;have hM:=(pow_le52 h0 h he).1;have hl:lastP m e≤971:=by unfold lastP;omega
  simp only[Ieee.Datum.order,Ieee.signed,Bool.false_eq_true,if_false,Nat.shiftLeft_eq];generalize m * 2^(e-lastP m e).toNat=M at *;have e1:(lastP m e-min (lastP m e) 971).toNat=0:=by omega
  rw[e1];have hp:=one_le_pow (971-min (lastP m e) 971).toNat;have:9007199254740991≤9007199254740991 * 2^(971-min (lastP m e) 971).toNat:=Nat.le_mul_of_pos_right _ hp;generalize 9007199254740991 * 2^(971-min (lastP m e) 971).toNat=A at *
  have:compare ((M * 2^0:Nat):Int) ((A:Nat):Int)≠.gt:=by
   rw[Ne,Int.compare_eq_gt];omega
  cases hc:compare ((M * 2^0:Nat):Int) ((A:Nat):Int)with
  |gt=>exact absurd hc this
  |lt=>simp;omega
  |eq=>simp;omega
 ·rw[rd_inf h0 h he (by omega),rdMax];have:1024≤e+(m.log2:Int):=by omega
  simp only[this,decide_true];rfl
theorem ord_self(h0:0<m)(h:m<9007199254740992)(he : -1074≤e):Ieee.double.order (dblN m e) (dblN m e)=some .eq:=by
 unfold Ieee.Format.order
 by_cases hf:e+m.log2≤1023
 ·rw[read_dbl h0 h he hf];simp only[Ieee.Datum.order]
  congr 1
  rw[Int.compare_eq_eq]
 ·rw[rd_inf h0 h he (by omega)];rfl
end
theorem mul_pow2{m:Nat}{e:Int}(h0:0<m)(h:m<9007199254740992)(he : -1074≤e)(hf:e+m.log2≤1023)(C:Nat)(p:Int)(hC:Ieee.double.read C=.number false 4503599627370496 (p-52))(hp : -1074≤e+p):
  Ieee.double.mul C (dblN m e)=some (dblN m (e+p)):=by
 unfold Ieee.Format.mul;rw[hC,read_dbl h0 h he hf];have hle:=lastP_le h0 h he;simp only[Ieee.Datum.product,Option.map_some,Ieee.Format.write]
 have a1:4503599627370496 * (m * 2^(e-lastP m e).toNat)=m * 2^((e-lastP m e).toNat+52):=by
  rw[Nat.pow_add,Nat.mul_comm,Nat.mul_assoc]
 have a2:p-52+lastP m e=(e+p)-(((e-lastP m e).toNat+52:Nat):Int):=by omega
 rw[a1,a2,show (false ^^ false)=false from rfl,nearest_exact m (e+p) _ h0 h (by omega)]
theorem word_eq{m:Nat}{e:Int}(h0:0<m)(h:m<9007199254740992)(h1 : -1022≤e+m.log2)(h2:e+m.log2≤1023):
  dblN m e=(e+m.log2+1023).toNat * 4503599627370496+(m * 2^(52-m.log2)-4503599627370496)∧4503599627370496≤m * 2^(52-m.log2)∧m * 2^(52-m.log2)<9007199254740992:=by
 have hlg:=log2_lt53 h0 h;have he : -1074≤e:=by omega
 have hl:lastP m e=e+m.log2-52:=by unfold lastP;omega
 have hk:(e-lastP m e).toNat=52-m.log2:=by omega
 have hM:=pow_le52 h0 h he;have hq:=(fin_iff h0 h he).1 h2;rw[hk]at hM hq;have hl0:lastP m 0=(m.log2:Int)-52:=by unfold lastP;omega
 have hk0:((0:Int)-lastP m 0).toNat=52-m.log2:=by omega
 have hM0:=(pow_le52 h0 h (by omega:(-1074:Int)≤0)).2 (by omega);rw[hk0]at hM0;refine⟨?_,hM0,hM.1⟩;unfold dblN;rw[hk,hl];rw[hl]at hq;generalize m * 2^(52-m.log2)=K at *;generalize (m.log2:Int)=L at *;have ht:(e+L+1023).toNat=(e+L-52+1074).toNat+1:=by omega
 rw[ht,Nat.add_mul,Nat.one_mul,Nat.min_eq_left (Nat.le_of_lt hq),Nat.add_assoc,Nat.add_sub_cancel' hM0]
theorem ldexp_word{m:Nat}(h0:0<m)(h:m<9007199254740992):∃ L F:Nat,m.log2=L∧L≤52∧F<4503599627370496∧dblN m 0=(L+1023) * 4503599627370496+F∧
  ∀ (e:Int) (E:Nat),-1022≤e+L→e+L≤1023→(E:Int)=e+L+1023→(E:Int) * 4503599627370496+(F:Int)=((dblN m e:Nat):Int):=by
 have hlg:=log2_lt53 h0 h;obtain⟨a1,a2,a3⟩:=word_eq (e:=0) h0 h (by omega) (by omega);refine⟨m.log2,m * 2^(52-m.log2)-4503599627370496,rfl,hlg,?_,?_,fun e E g1 g2 g3=>?_⟩
 ·generalize m * 2^(52-m.log2)=K at *
  omega
 ·rw[a1]
  congr 2
  omega
 ·obtain⟨b1,_,_⟩:=word_eq (e:=e) h0 h g1 g2;rw[b1,←g3];generalize m * 2^(52-m.log2)-4503599627370496=F;rw[Int.natCast_add,Int.natCast_mul]
  rfl
theorem nat_split(X:Nat):X=X / 2^52 * 2^52+X%2^52:=by rw[Nat.mul_comm];exact (Nat.div_add_mod _ _).symm
theorem ofInt_nat(n:Nat)(h:n<18446744073709551616):(BitVec.ofInt 64 (n:Int)).toNat=n:=by
 rw[BitVec.ofInt_natCast,BitVec.toNat_ofNat];exact Nat.mod_eq_of_lt h
theorem bits_abs(n:Nat)(h:n<9223372036854775808):IntKind.u64.wrap (BitVec.ofInt IntKind.u64.bits (n:Int) &&& ~~~BitVec.ofInt IntKind.u64.bits 9223372036854775808).toNat=n:=by
 have e1:(BitVec.ofInt 64 (n:Int) &&& ~~~BitVec.ofInt 64 9223372036854775808).toNat=n:=by
  rw[BitVec.toNat_and,ofInt_nat n (by omega)];have:(~~~BitVec.ofInt 64 9223372036854775808).toNat=2^63-1:=by rfl
  rw[this,Nat.and_two_pow_sub_one_eq_mod];exact Nat.mod_eq_of_lt (by omega)
 show IntKind.u64.wrap ((BitVec.ofInt 64 (n:Int) &&& ~~~BitVec.ofInt 64 9223372036854775808).toNat:Int)=n
 rw[e1,u64w]<;>omega
theorem and_pow_zero{T:Nat}(hT:T<2048):T &&& 2^11=0:=by
 apply Nat.eq_of_testBit_eq
 intro i;rw[Nat.testBit_and,Nat.testBit_two_pow,Nat.zero_testBit]
 by_cases hi:11=i
 ·subst hi;rw[Nat.testBit_lt_two_pow (by omega)];rfl
 ·simp[hi]
theorem bits_frac(T F:Nat)(hT:T<2048)(hF:F<4503599627370496):IntKind.u64.wrap (BitVec.ofInt IntKind.u64.bits ((T * 4503599627370496+F:Nat):Int) &&& ~~~BitVec.ofInt IntKind.u64.bits 9218868437227405312).toNat=F:=by
 have e1:(BitVec.ofInt 64 ((T * 4503599627370496+F:Nat):Int) &&& ~~~BitVec.ofInt 64 9218868437227405312).toNat=F:=by
  rw[BitVec.toNat_and,ofInt_nat _ (by omega)];have:(~~~BitVec.ofInt 64 9218868437227405312).toNat=9227875636482146303:=by rfl
  rw[this,nat_split ((T * 4503599627370496+F) &&& 9227875636482146303),Nat.and_div_two_pow,Nat.and_mod_two_pow];have a1:(T * 4503599627370496+F) / 2^52=T:=by omega
  have a2:(T * 4503599627370496+F)%2^52=F:=by omega
  have a3:9227875636482146303 / 2^52=2^11:=by rfl
  have a4:9227875636482146303%2^52=2^52-1:=by rfl
  rw[a1,a2,a3,a4,Nat.and_two_pow_sub_one_eq_mod,and_pow_zero hT];have:=Nat.mod_eq_of_lt (show F<2^52 by omega)
  omega
 show IntKind.u64.wrap ((BitVec.ofInt 64 ((T * 4503599627370496+F:Nat):Int) &&& ~~~BitVec.ofInt 64 9218868437227405312).toNat:Int)=F
 rw[e1,u64w]<;>omega
theorem bits_or(E F:Nat)(hE:E<4096)(hF:F<4503599627370496):IntKind.u64.wrap (BitVec.ofInt IntKind.u64.bits (F:Int) ||| BitVec.ofInt IntKind.u64.bits ((E:Int) * 4503599627370496)).toNat=(E:Int) * 4503599627370496+(F:Int):=by
 have ec:(E:Int) * 4503599627370496=((E * 4503599627370496:Nat):Int):=by omega
 rw[ec];generalize hG:E * 4503599627370496=G
 have e1:(BitVec.ofInt 64 (F:Int) ||| BitVec.ofInt 64 ((G:Nat):Int)).toNat=G+F:=by
  rw[BitVec.toNat_or,ofInt_nat _ (by omega),ofInt_nat _ (by omega),Nat.or_comm];have:=Nat.shiftLeft_add_eq_or_of_lt (show F<2^52 by omega) E;rw[Nat.shiftLeft_eq]at this;rw[←hG];exact this.symm
 show IntKind.u64.wrap ((BitVec.ofInt 64 (F:Int) ||| BitVec.ofInt 64 ((G:Nat):Int)).toNat:Int)=_
 rw[e1];exact (u64w (by omega) (by omega)).trans (by omega)
theorem bits_low(T:Nat)(hT:T<2048):IntKind.i64.wrap (BitVec.ofInt IntKind.i64.bits (T:Int) &&& BitVec.ofInt IntKind.i64.bits 2047).toNat=T:=by
 have e1:(BitVec.ofInt 64 (T:Int) &&& BitVec.ofInt 64 2047).toNat=T:=by
  rw[BitVec.toNat_and,ofInt_nat _ (by omega)];have:(BitVec.ofInt 64 2047).toNat=2^11-1:=by rfl
  rw[this,Nat.and_two_pow_sub_one_eq_mod];exact Nat.mod_eq_of_lt (by omega)
 show IntKind.i64.wrap ((BitVec.ofInt 64 (T:Int) &&& BitVec.ofInt 64 2047).toNat:Int)=T
 rw[e1,i64w]<;>omega
end Go.Ev
namespace Go.Proofs.YtlobiioioicmhaaGreatDoor
open _root_.Bool renaming not_true→Bv,not_false→Bf
open _root_.List renaming length_drop→Bd,length_take→Bh,getElem?_drop→BX,getElem?_take→BY
open Go.Proofs.Tryz renaming prog→Tp
open Go Go.Ev
set_option maxRecDepth 20000
variable {γ:List (Nat×AV)}
theorem b122:bodyT Tp 196:=⟨_,Tryz.func196,by kernel_rfl,by kernel_rfl⟩
theorem b130:bodyT Tp 264:=⟨_,Tryz.func264,by kernel_rfl,by kernel_rfl⟩
theorem b131:bodyT Tp 265:=⟨_,Tryz.func265,by kernel_rfl,by kernel_rfl⟩
theorem b100:bodyT Tp 119:=⟨_,Tryz.func119,by kernel_rfl,by kernel_rfl⟩
theorem b86:bodyT Tp 165:=⟨_,Tryz.func165,by kernel_rfl,by kernel_rfl⟩
theorem b112:bodyT Tp 226:=⟨_,Tryz.func226,by kernel_rfl,by kernel_rfl⟩
theorem b89:bodyT Tp 168:=⟨_,Tryz.func168,by kernel_rfl,by kernel_rfl⟩
theorem ext33(b:Nat):ExtV Tp 172 [.v (.float .f64 b)] (.v (.int .u64 b)):=ext_float64bits Tryz.func172 (by kernel_rfl) (by kernel_rfl) (by kernel_rfl) (by kernel_rfl) b
theorem ext108(n:Int):ExtV Tp 222 [.v (.int .u64 n)] (.v (.float .f64 n.toNat)):=ext_float64frombits Tryz.func222 (by kernel_rfl) (by kernel_rfl) (by kernel_rfl) (by kernel_rfl) n
theorem fltRes_some(r:Nat):fltRes (some r)=.v (.float .f64 r):=rfl
theorem dblN_le(m:Nat)(e:Int):dblN m e≤9218868437227405312:=Nat.min_le_right _ _
theorem abs_ev(V:Nat)(h:V<9223372036854775808):Ev Tp γ 196 [.v (.float .f64 V)] (.v (.float .f64 V)):=by
 refine Ev.of Tryz.func196 rfl ?_;simp only[Tryz.f196,evS,Nat.reduceAdd,Nat.reduceSub,Nat.reduceLT,Nat.reduceEqDiff,reduceCtorEq];refine CallK.ext (ext33 V) ?_;simp only[bits_abs V h,evS,Nat.reduceLT,Nat.reduceEqDiff,reduceCtorEq];refine CallK.ext (ext108 V) ?_;simp only[evS,Nat.reduceLT,Nat.reduceEqDiff,reduceCtorEq]
theorem isNaN_ev(V:Nat)(h:FloatKind.f64.format.order V V=some .eq):Ev Tp γ 264 [.v (.float .f64 V)] (.v (.bool false)):=by
 refine Ev.of Tryz.func264 rfl ?_;simp only[Tryz.f264,h,evS,Nat.reduceAdd,Nat.reduceSub,Nat.reduceLT,Nat.reduceEqDiff,reduceCtorEq]
 rfl
theorem isInf_ev(V:Nat)(h:V<9223372036854775808):Ev Tp γ 119 [.v (.float .f64 V),.v (.int .i64 0)] (.v (.bool (FloatKind.f64.format.order V 9218868437227405311==some .gt))):=by
 refine Ev.of Tryz.func119 rfl ?_;have h00:((0:Int)==0)=true:=by decide
 simp only[Tryz.f119,h00,evS,Nat.reduceAdd,Nat.reduceSub,Nat.reduceLT,Nat.reduceEqDiff,reduceCtorEq];refine CallK.intro b122 rfl (abs_ev V h) ?_;simp only[evS,Nat.reduceLT,Nat.reduceEqDiff,reduceCtorEq]
theorem inf_ev:Ev Tp γ 165 [.v (.int .i64 1)] (.v (.float .f64 9218868437227405312)):=by
 refine Ev.of Tryz.func165 rfl ?_;simp only[Tryz.f165,evS,Nat.reduceAdd,Nat.reduceSub,Nat.reduceLT,Nat.reduceEqDiff,reduceCtorEq,Int.reduceLE];refine CallK.ext (ext108 9218868437227405312) ?_;simp only[evS,Nat.reduceLT,Nat.reduceEqDiff,reduceCtorEq,Int.reduceToNat]
theorem normalize_ev{m:Nat}(h0:0<m)(h:m<9007199254740992):Ev Tp γ 265 [.v (.float .f64 (dblN m 0))] (.tup [.v (.float .f64 (dblN m 0)),.v (.int .i64 0)]):=by
 have ho:FloatKind.f64.format.order (dblN m 0) 4503599627370496=some .gt:=ord_min h0 h;have hl:=dblN_le m 0;have hgl:((some Ordering.gt:Option Ordering)==some .lt)=false:=by decide
 refine Ev.of Tryz.func265 rfl ?_;simp only[Tryz.f265,evS,Nat.reduceAdd,Nat.reduceSub,Nat.reduceLT,Nat.reduceEqDiff,reduceCtorEq];refine CallK.intro b122 rfl (abs_ev (dblN m 0) (by omega)) ?_;simp only[ho,hgl,evS,Nat.reduceLT,Nat.reduceEqDiff,reduceCtorEq]
set_option maxRecDepth 20000 in
set_option maxRecDepth 20000 in
theorem ldexp_ev(m:Nat)(h0:0<m)(h:m<9007199254740992)(x:Int)(hx : -1074≤x)(hx2:x≤1074):Ev Tp γ 226 [.v (.float .f64 (dblN m 0)),.v (.int .i64 x)] (.v (.float .f64 (dblN m x))):=by
 have o0:FloatKind.f64.format.order (dblN m 0) 0=some .gt:=ord_zero h0 h (by omega);have os:FloatKind.f64.format.order (dblN m 0) (dblN m 0)=some .eq:=ord_self h0 h (by omega)
 have om:(FloatKind.f64.format.order (dblN m 0) 9218868437227405311==some .gt)=false:=by
  have:=ord_max h0 h (by omega:(-1074:Int)≤0);have hlg:=log2_lt53 h0 h;rw[show FloatKind.f64.format=Ieee.double from rfl,this];simp;omega
 have hnorm:=normalize_ev (γ:=γ) h0 h;have hinf:=dbl_inf (e:=x) h0 h hx
 have hm1:∀ e:Int,-1074≤e→e+m.log2≤1023→FloatKind.f64.format.mul 4607182418800017408 (dblN m e)=some (dblN m e):=fun e g1 g2=>by
  have:=mul_pow2 (e:=e) h0 h g1 g2 4607182418800017408 0 (by rfl) (by omega);rw[Int.add_zero]at this;exact this
 have hm2:∀ e:Int,-1074≤e+53 → -1074≤e→e+53+m.log2≤1023→FloatKind.f64.format.mul 4368491638549381120 (dblN m (e+53))=some (dblN m e):=fun e g1 g3 g2=>by
  have:=mul_pow2 (e:=e+53) h0 h g1 g2 4368491638549381120 (-53) (by rfl) (by omega);rw[show e+53 + -53=e from by omega]at this;exact this
 obtain⟨L,F,hL,hL52,hF,hV,hword⟩:=ldexp_word h0 h;rw[hL]at hinf hm1 hm2;have hl:=dblN_le m 0;generalize hD:dblN m=D at *;clear h0 h hD hL;have c1:decide (1023<x+(L:Int))=true→1024≤x+(L:Int):=fun h=>by have:=of_decide_eq_true h;omega
 have c2:decide (1023<x+(L:Int))=false→x+(L:Int)≤1023:=fun h=>by have:=of_decide_eq_false h;omega
 have c3:decide (x+(L:Int) < -1022)=true→∃ E G:Nat,IntKind.i64.wrap (x+(L:Int)+53)=x+(L:Int)+53∧IntKind.i64.wrap (x+(L:Int)+53+1023)=(E:Int)∧IntKind.u64.wrap (E:Int)=(E:Int)∧IntKind.u64.wrap ((E:Int) * 2^min 52 IntKind.u64.bits)=(G:Int)∧
   IntKind.u64.wrap (BitVec.ofInt IntKind.u64.bits (F:Int) ||| BitVec.ofInt IntKind.u64.bits (G:Int)).toNat=((D (x+53):Nat):Int)∧FloatKind.f64.format.mul 4368491638549381120 (D (x+53))=some (D x):=fun h=>by
  have hd':=of_decide_eq_true h;obtain⟨E,hE⟩:∃ E:Nat,(E:Int)=x+(L:Int)+53+1023:=⟨(x+(L:Int)+53+1023).toNat,by omega⟩;have p52':(2:Int)^min 52 IntKind.u64.bits=4503599627370496:=by decide
  have w9:=bits_or E F (by omega) hF;obtain⟨G,hG⟩:∃ G:Nat,(E:Int) * 4503599627370496=(G:Int):=⟨E * 4503599627370496,by omega⟩;have wq:=hword (x+53) E (by omega) (by omega) (by omega);rw[wq,hG]at w9;exact⟨E,G,i64w (by omega) (by omega),(i64w (by omega) (by omega)).trans hE.symm,u64w (by omega) (by omega),by rw[p52',hG];exact u64w (by omega) (by omega),w9,hm2 x (by omega) hx (by omega)⟩
 have c4:decide (1023<x+(L:Int))=false→decide (x+(L:Int) < -1022)=false→∃ E G:Nat,IntKind.i64.wrap (x+(L:Int)+1023)=(E:Int)∧IntKind.u64.wrap (E:Int)=(E:Int)∧IntKind.u64.wrap ((E:Int) * 2^min 52 IntKind.u64.bits)=(G:Int)∧
   IntKind.u64.wrap (BitVec.ofInt IntKind.u64.bits (F:Int) ||| BitVec.ofInt IntKind.u64.bits (G:Int)).toNat=((D x:Nat):Int)∧FloatKind.f64.format.mul 4607182418800017408 (D x)=some (D x):=fun h1 h=>by
  have hd':=of_decide_eq_false h;have hd2:=of_decide_eq_false h1;obtain⟨E,hE⟩:∃ E:Nat,(E:Int)=x+(L:Int)+1023:=⟨(x+(L:Int)+1023).toNat,by omega⟩;have p52':(2:Int)^min 52 IntKind.u64.bits=4503599627370496:=by decide
  have w9:=bits_or E F (by omega) hF;obtain⟨G,hG⟩:∃ G:Nat,(E:Int) * 4503599627370496=(G:Int):=⟨E * 4503599627370496,by omega⟩;have wq:=hword x E (by omega) (by omega) (by omega);rw[wq,hG]at w9;exact⟨E,G,(i64w (by omega) (by omega)).trans hE.symm,u64w (by omega) (by omega),by rw[p52',hG];exact u64w (by omega) (by omega),w9,hm1 x hx (by omega)⟩
 have w1:IntKind.i64.wrap ((L+1023:Nat):Int)=((L+1023:Nat):Int):=i64w (by omega) (by omega);have w3:IntKind.i64.wrap (((L+1023:Nat):Int)-1023)=(L:Int):=(i64w (by omega) (by omega)).trans (by omega);have w4:IntKind.i64.wrap (x+(L:Int))=x+(L:Int):=i64w (by omega) (by omega);have w0:IntKind.i64.wrap (x+0)=x:=by rw[Int.add_zero];exact i64w (by omega) (by omega)
 have l1:decide (x+(L:Int) < -1075)=false:=decide_eq_false (by omega);have hD0:D 0<9223372036854775808:=by omega
 have w2:=bits_low (L+1023) (by omega);have hdiv:((D 0:Nat):Int) / 4503599627370496=((L+1023:Nat):Int):=by rw[hV];omega
 have fr:IntKind.u64.wrap (BitVec.ofInt IntKind.u64.bits ((D 0:Nat):Int) &&& ~~~BitVec.ofInt IntKind.u64.bits 9218868437227405312).toNat=(F:Int):=by
  have:=bits_frac (L+1023) F (by omega) hF;rw[hV];exact this
 have esh:((D 0:Nat):Int).fdiv (2^min (Int.toNat 52) IntKind.u64.bits)=((L+1023:Nat):Int):=by
  have e1:(2:Int)^min (Int.toNat 52) IntKind.u64.bits=4503599627370496:=by decide
  rw[e1,Int.fdiv_eq_ediv_of_nonneg _ (by decide),hdiv]
 have esh':((D 0:Nat):Int).fdiv (2^min 52 IntKind.u64.bits)=((L+1023:Nat):Int):=esh;have ge:((some Ordering.gt:Option Ordering)==some .eq)=false:=by decide
 have gl:((some Ordering.gt:Option Ordering)==some .lt)=false:=by decide
 clear hV hdiv hword hm1 hm2;refine Ev.of Tryz.func226 rfl ?_;simp only[Tryz.f226,o0,ge,evS,Nat.reduceAdd,Nat.reduceSub,Nat.reduceLT,Nat.reduceEqDiff,reduceCtorEq];refine CallK.intro b100 rfl (isInf_ev (D 0) hD0) ?_;simp only[om,evS,Nat.reduceLT,Nat.reduceEqDiff,reduceCtorEq];refine CallK.intro b130 rfl (isNaN_ev (D 0) os) ?_;simp only[evS,Nat.reduceLT,Nat.reduceEqDiff,reduceCtorEq];refine CallK.intro b131 rfl hnorm ?_;simp only[evS,Nat.reduceLT,Nat.reduceEqDiff,reduceCtorEq];refine CallK.ext (ext33 (D 0)) ?_;simp only[esh',w0,w1,w2,w3,w4,l1,evS,tyS,Nat.reduceLT,Nat.reduceEqDiff,reduceCtorEq,Int.reduceToNat,Int.reduceLE];refine CondK.intro (fun hg=>?_) (fun hg=>?_)<;>simp only[hg,o0,gl,evS,Nat.reduceLT,Nat.reduceEqDiff,reduceCtorEq]
 ·refine CallK.intro b86 rfl inf_ev ?_;rw[hinf (c1 hg)];simp only[evS,Nat.reduceLT,Nat.reduceEqDiff,reduceCtorEq]
 ·refine CondK.intro (fun hd=>?_) (fun hd=>?_)
  ·obtain⟨E,G,w5,w6,w7,w8,w9,mm⟩:=c3 hd;simp only[hd,w5,w6,w7,w8,w9,fr,evS,tyS,Nat.reduceLT,Nat.reduceEqDiff,reduceCtorEq,Int.reduceToNat,Int.reduceLE];refine CallK.ext (ext108 (D (x+53))) ?_;simp only[mm,fltRes_some,evS,Nat.reduceLT,Nat.reduceEqDiff,reduceCtorEq]
  ·obtain⟨E,G,w6,w7,w8,w9,mm⟩:=c4 hg hd;simp only[hd,w6,w7,w8,w9,fr,evS,tyS,Nat.reduceLT,Nat.reduceEqDiff,reduceCtorEq,Int.reduceToNat,Int.reduceLE];refine CallK.ext (ext108 (D x)) ?_;simp only[mm,fltRes_some,evS,Nat.reduceLT,Nat.reduceEqDiff,reduceCtorEq]
theorem Ldexp_ev(m:Nat)(h0:0<m)(h:m<9007199254740992)(x:Int)(hx : -1074≤x)(hx2:x≤1074):Ev Tp γ 168 [.v (.float .f64 (dblN m 0)),.v (.int .i64 x)] (.v (.float .f64 (dblN m x))):=by
 refine Ev.of Tryz.func168 rfl ?_;simp only[Tryz.f168,evS,Nat.reduceAdd,Nat.reduceSub,Nat.reduceLT,Nat.reduceEqDiff,reduceCtorEq];refine CallK.intro b112 rfl (ldexp_ev m h0 h x hx hx2) ?_;simp only[evS,Nat.reduceLT,Nat.reduceEqDiff,reduceCtorEq]
theorem Ldexp0_ev:Ev Tp γ 168 [.v (.float .f64 0),.v (.int .i64 0)] (.v (.float .f64 0)):=by
 have o0:(FloatKind.f64.format.order 0 0==some .eq)=true:=by rfl
 have h1:Ev Tp γ 226 [.v (.float .f64 0),.v (.int .i64 0)] (.v (.float .f64 0)):=by
  refine Ev.of Tryz.func226 rfl ?_;simp only[Tryz.f226,o0,evS,Nat.reduceAdd,Nat.reduceSub,Nat.reduceLT,Nat.reduceEqDiff,reduceCtorEq]
 refine Ev.of Tryz.func168 rfl ?_;simp only[Tryz.f168,evS,Nat.reduceAdd,Nat.reduceSub,Nat.reduceLT,Nat.reduceEqDiff,reduceCtorEq];refine CallK.intro b112 rfl h1 ?_;simp only[evS,Nat.reduceLT,Nat.reduceEqDiff,reduceCtorEq]
theorem digitsEnd_ge(l:List UInt8)(i:Nat):i≤digitsEnd l i:=by unfold digitsEnd;omega
theorem digitsEnd_le{l:List UInt8}{i:Nat}(h:i≤l.length):digitsEnd l i≤l.length:=by
 have:=(spanEnd_le (p:=digitN) h).2
 rwa [←digitsEnd_span]at this
theorem digitsEnd_all{l:List UInt8}:∀ (k:Nat) {i j:Nat},j=i+k→j<digitsEnd l i→digitN (atL l j)=true
 |0,i,j,e,h=>by
  obtain rfl:j=i:=by omega
  cases hd:digitN (atL l j)with
  |true=>rfl
  |false=>rw[digitsEnd_stop hd]at h;omega
 |k+1,i,j,e,h=>by
  cases hd:digitN (atL l i)with
  |true=>exact digitsEnd_all k (i:=i+1) (by omega) (by rwa [(digitsEnd_step hd).1]at h)
  |false=>rw[digitsEnd_stop hd]at h;omega
theorem digitsEnd_lt{l:List UInt8}{i:Nat}(h:digitN (atL l i)=true):i<digitsEnd l i:=by
 rw[(digitsEnd_step h).1];have:=digitsEnd_ge l (i+1)
 omega
theorem atL_take{l:List UInt8}{n j:Nat}(h:j<n):atL (l.take n) j=atL l j:=by
 simp only[atL,List.getD,BY,if_pos h]
theorem atL_dropk(l:List UInt8)(k j:Nat):atL (l.drop k) j=atL l (k+j):=by
 simp only[atL,List.getD,BX]
def numL(l:List UInt8)(i:Nat):List UInt8:=(l.drop i).take (digitsEnd l i-i)
theorem numL_len{l:List UInt8}{i:Nat}(h:i≤l.length):(numL l i).length=digitsEnd l i-i:=by
 have h1:=digitsEnd_le h;rw[numL,Bh,Bd];omega
theorem numL_digit{l:List UInt8}{i:Nat}(h:i≤l.length)(j:Nat)(hj:j<(numL l i).length):digitN (atL (numL l i) j)=true:=by
 rw[numL_len h]at hj;rw[numL,atL_take hj,atL_dropk];exact digitsEnd_all j rfl (by omega)
def decM(l:List UInt8):Int:=if 1<l.length∧atL l 0=48 then 0 else if decV l<9223372036854775808 then decV l else 9223372036854775807
def decO(l:List UInt8)(most:Int):Bool:=decide (¬(1<l.length∧atL l 0=48)∧decV l<9223372036854775808∧(decV l:Int)≤most)
theorem decR_eq(l:List UInt8)(most:Int):decR l most=.tup [.v (.int .i64 (decM l)),.v (.bool (decO l most))]:=by
 unfold decR decM decO
 by_cases h1:1<l.length∧atL l 0=48
 ·simp[h1]
 ·by_cases h2:decV l<9223372036854775808
  ·simp[h1,h2]
  ·simp[h1,h2]
theorem decO_iff{l:List UInt8}{most:Int}(h:decO l most=true):decM l=decV l∧(decV l:Int)≤most:=by
 unfold decO at h;have h:=of_decide_eq_true h;unfold decM;rw[if_neg h.1,if_pos h.2.1];exact⟨rfl,h.2.2⟩
theorem decimalAt_ev(hγ:Gl γ)(b:Bool)(l:List UInt8)(i:Nat)(most:Int)(h1:i<digitsEnd l i)(hi:i≤l.length)(hl:l.length≤140737488351232):
  Ev Tp γ 279 [.sl b (digitsEnd l i-i) (l.length-i) (List.drop i (l.map byteC)),.v (.int .i64 most)] (.tup [.v (.int .i64 (decM (numL l i))),.v (.bool (decO (numL l i) most))]):=by
 have hle:=digitsEnd_le hi;rw[←List.map_drop];refine Ev_cut1 (by omega) (by rw[Bd];omega) ?_;have:=lexDecimal_ev hγ b (numL l i) most (by rw[numL_len hi];omega) (by rw[numL_len hi];omega) (numL_digit hi)
 rwa [decR_eq]at this
def realB(m:Nat)(e:Int):Nat:=if m=0 then 0 else dblN m e
def finB(m:Nat)(e:Int):Bool:=decide (m=0∨e+m.log2≤1023)
def expOf(sg:Nat)(x:Nat):Int:=if sg=1 then -(x:Int)else x
def realO(sg:Nat)(a b:List UInt8)(follow:Nat):Bool:=
 decO a 9007199254740991&&decO b (1023+51 * sg)&&(decide (decV a%2=1) || (decide (decV a=0)&&decide (decV b=0))) && !(decide (sg=1)&&decide (decV b=0)) && !nameN follow&&finB (decV a) (expOf sg (decV b))
def errTok(k:Int):AV:=.tup [tokA 0 [] 0 f0 0 0,.v (.int .i64 k)]
def okTok(t:AV):AV:=.tup [t,.v (.int .i64 0)]
def realA(l:List UInt8)(p sg:Nat):AV:=
 if realO sg (numL l 0) (numL l (p+1+sg)) (atL l (digitsEnd l (p+1+sg)))=true then
  okTok (tokA 3 [] 0 (.v (.float .f64 (realB (decV (numL l 0)) (expOf sg (decV (numL l (p+1+sg))))))) 0 (digitsEnd l (p+1+sg)))
 else errTok 12
theorem near_eq(m:Nat)(h:m<9007199254740992):FloatKind.f64.nearest (m:Int)=realB m 0:=by
 unfold realB
 by_cases h0:m=0
 ·subst h0;rfl
 ·rw[if_neg h0];have:=nearest_exact m 0 0 (by omega) h (by omega);have e1:(decide ((m:Int)<0))=false:=decide_eq_false (by omega);show Ieee.double.nearest (decide ((m:Int)<0)) (m:Int).natAbs 0=_;rw[e1,Int.natAbs_natCast,←this];rw[Nat.pow_zero,Nat.mul_one]
  rfl
theorem LdexpB_ev(m:Nat)(h:m<9007199254740992)(x:Int)(hx : -1074≤x)(hx2:x≤1074)(h0:m=0→x=0):Ev Tp γ 168 [.v (.float .f64 (realB m 0)),.v (.int .i64 x)] (.v (.float .f64 (realB m x))):=by
 unfold realB
 by_cases hm:m=0
 ·rw[if_pos hm,if_pos hm,h0 hm];exact Ldexp0_ev
 ·rw[if_neg hm,if_neg hm];exact Ldexp_ev m (by omega) h x hx hx2
theorem isInfB_ev(m:Nat)(h:m<9007199254740992)(x:Int)(hx : -1074≤x):Ev Tp γ 119 [.v (.float .f64 (realB m x)),.v (.int .i64 0)] (.v (.bool (!finB m x))):=by
 unfold realB finB
 by_cases hm:m=0
 ·rw[if_pos hm];have:=isInf_ev (γ:=γ) 0 (by omega)
  have e:(FloatKind.f64.format.order 0 9218868437227405311==some .gt) = !decide (m=0∨x+m.log2≤1023):=by
   rw[decide_eq_true (.inl hm)];rfl
  rwa [e]at this
 ·rw[if_neg hm];have hl:=dblN_le m x;have:=isInf_ev (γ:=γ) (dblN m x) (by omega)
  have e:(FloatKind.f64.format.order (dblN m x) 9218868437227405311==some .gt) = !decide (m=0∨x+m.log2≤1023):=by
   have:=ord_max (e:=x) (by omega) h hx;rw[show FloatKind.f64.format=Ieee.double from rfl,this,←decide_not]
   congr 1
   simp only[eq_iff_iff];omega
  rwa [e]at this
theorem realO_iff{sg:Nat}{a b:List UInt8}{f:Nat}:realO sg a b f=true↔decO a 9007199254740991=true∧decO b (1023+51 * sg)=true∧(decV a%2=1∨decV a=0∧decV b=0)∧¬(sg=1∧decV b=0)∧nameN f=false∧finB (decV a) (expOf sg (decV b))=true:=by
 unfold realO;simp only[Bool.and_eq_true,Bool.or_eq_true,Bool.not_eq_true',decide_eq_true_eq,Bool.and_eq_false_iff,decide_eq_false_iff_not]
 constructor
 ·rintro⟨⟨⟨⟨⟨a1,a2⟩,a3⟩,a4⟩,a5⟩,a6⟩
  exact⟨a1,a2,a3,by omega,a5,a6⟩
 ·rintro⟨a1,a2,a3,a4,a5,a6⟩
  exact⟨⟨⟨⟨⟨a1,a2⟩,a3⟩,by omega⟩,a5⟩,a6⟩
set_option maxRecDepth 20000 in
theorem lexReal_ev(hγ:Gl γ)(b:Bool)(l:List UInt8)(p sg:Nat)(hp:p=digitsEnd l 0)(hp1:1≤p)(hsg:sg=0∨sg=1)(hd:digitN (atL l (p+1+sg))=true)(hl:l.length≤140737488351232):
  Ev Tp γ 278 [.sl b l.length l.length (l.map byteC),.v (.int .i64 p),.v (.int .i64 sg)] (realA l p sg):=by
 refine Ev.of Tryz.func278 rfl ?_;have hlt:=digitsEnd_lt hd;have hpl:=(digitsEnd_step hd).2;have hle:=digitsEnd_le (l:=l) (i:=p+1+sg) (by omega);have w1:IntKind.i64.wrap ((p:Int)+1)=((p+1:Nat):Int):=i64w (by omega) (by omega);have w2:IntKind.i64.wrap (((p+1:Nat):Int)+(sg:Int))=((p+1+sg:Nat):Int):=i64w (by omega) (by omega);have w3:IntKind.i64.wrap (51 * (sg:Int))=51 * (sg:Int):=i64w (by omega) (by omega);have w4:IntKind.i64.wrap (1023+51 * (sg:Int))=1023+51 * (sg:Int):=i64w (by omega) (by omega);have ha:=decimalAt_ev hγ b l 0 9007199254740991 (by omega) (by omega) hl;rw[List.drop_zero,Nat.sub_zero,Nat.sub_zero,←hp]at ha;have hb:=decimalAt_ev hγ b l (p+1+sg) (1023+51 * sg) hlt (by omega) hl
 have hR:realA l p sg=if realO sg (numL l 0) (numL l (p+1+sg)) (atL l (digitsEnd l (p+1+sg)))=true then
  okTok (tokA 3 [] 0 (.v (.float .f64 (realB (decV (numL l 0)) (expOf sg (decV (numL l (p+1+sg))))))) 0 (digitsEnd l (p+1+sg)))
  else errTok 12:=rfl
 generalize realA l p sg=R at hR⊢;have hLd:=fun (m:Nat) (h:m<9007199254740992) (x:Int) hx hx2 h0=>LdexpB_ev (γ:=γ) m h x hx hx2 h0
 have hat:=lexAt_ev (γ:=γ) b l (digitsEnd l (p+1+sg));have hnE:digitsEnd l (p+1+sg)≤140737488351232:=by omega
 generalize hA:numL l 0=a at *;generalize hB:numL l (p+1+sg)=c at *;generalize atL l (digitsEnd l (p+1+sg))=f at *;have hdg:=lexDigits_ev (γ:=γ) b l (p+1+sg) (by omega) (by omega);have hge:=digitsEnd_ge l (p+1+sg);generalize digitsEnd l (p+1+sg)=n at *;clear hd hA hB;simp only[Tryz.f278,w1,w2,evS,tyS,Nat.reduceAdd,Nat.reduceSub,Nat.reduceLT,Nat.reduceEqDiff,reduceCtorEq];refine CallK.intro b70 (by simp[treeL,treeA]) hdg ?_;simp only[evS,tyS,Nat.reduceLT,Nat.reduceEqDiff,reduceCtorEq]
 (repeat' (first|(with_reducible refine aI ?_ ?_)|(first|(first|refine gF ?_ ?_|refine gT ?_ ?_|refine cI ?_ ?_|refine pI ?_ ?_)<;>intro h|(refine dI ?_;have h:=trivial))<;>simp only[h,w1,w2,w3,w4,evS,tyS,Bv,Bf,Nat.reduceAdd,Nat.reduceSub,Nat.reduceMul,Nat.reduceLT,Nat.reduceLeDiff,Nat.reduceEqDiff,reduceCtorEq,List.reduceReplicate,Int.reduceToNat,Int.reduceLE,Int.reduceLT]))
 all_goals try (((try simp only[decide_eq_true_eq,decide_eq_false_iff_not,beq_iff_eq,bne_iff_ne,ne_eq,beq_eq_false_iff_ne,bne_eq_false_iff_eq]at *)<;>(try omega));done)
 refine CallK.intro b73 (by simp[treeL,treeA]) ha ?_;simp only[w1,w2,w3,w4,evS,tyS,Nat.reduceLT,Nat.reduceEqDiff,reduceCtorEq]
 (repeat' (first|(with_reducible refine aI ?_ ?_)|(first|(first|refine gF ?_ ?_|refine gT ?_ ?_|refine cI ?_ ?_|refine pI ?_ ?_)<;>intro h|(refine dI ?_;have h:=trivial))<;>simp only[h,w1,w2,w3,w4,evS,tyS,Bv,Bf,Nat.reduceAdd,Nat.reduceSub,Nat.reduceMul,Nat.reduceLT,Nat.reduceLeDiff,Nat.reduceEqDiff,reduceCtorEq,List.reduceReplicate,Int.reduceToNat,Int.reduceLE,Int.reduceLT]))
 all_goals try (((try simp only[decide_eq_true_eq,decide_eq_false_iff_not,beq_iff_eq,bne_iff_ne,ne_eq,beq_eq_false_iff_ne,bne_eq_false_iff_eq]at *)<;>(try omega));done)
 refine CallK.intro b73 (by simp[treeL,treeA]) hb ?_;clear ha hb hdg
 by_cases hOa:decO a 9007199254740991=true
 ·by_cases hOb:decO c (1023+51 * sg)=true
  ·obtain⟨ea,eb⟩:=decO_iff hOa;obtain⟨ec,ed⟩:=decO_iff hOb;rw[ea,ec,hOa,hOb];simp only[realO_iff,hOa,hOb,true_and]at hR
   have etm:∀ n:Nat,((n:Int).tmod 2==1)=decide (n%2=1):=fun n=>by
    rw[Int.tmod_eq_emod_of_nonneg (by omega)]
    by_cases h:n%2=1
    ·rw[decide_eq_true h];simp;omega
    ·rw[decide_eq_false h];simp;omega
   have ez:∀ n:Nat,((n:Int)==0)=decide (n=0):=fun n=>by
    by_cases h:n=0
    ·simp[h]
    ·rw[decide_eq_false h];simp[h]
   have e1:∀ n:Nat,((n:Int)==1)=decide (n=1):=fun n=>by
    by_cases h:n=1
    ·simp[h]
    ·rw[decide_eq_false h];simp;omega
   generalize decV a=A at *;generalize decV c=B at *;have nq:FloatKind.f64.nearest (A:Int)=realB A 0:=near_eq A (by omega);have wn:IntKind.i64.wrap (0-(B:Int)) = -(B:Int):=(i64w (by omega) (by omega)).trans (by omega);have x1:sg=1→expOf sg B = -(B:Int):=fun h=>by rw[expOf,if_pos h]
   have x0:sg≠1→expOf sg B=(B:Int):=fun h=>by rw[expOf,if_neg h]
   simp only[etm,evS,Nat.reduceLT,Nat.reduceEqDiff,reduceCtorEq]
   (repeat' (first|(with_reducible refine aI ?_ ?_)|(first|(first|refine gF ?_ ?_|refine gT ?_ ?_|refine cI ?_ ?_|refine pI ?_ ?_)<;>intro h|(refine dI ?_;have h:=trivial))<;>simp only[h,ez,e1,evS,tyS,Bv,Bf,Nat.reduceAdd,Nat.reduceLT,Nat.reduceLeDiff,Nat.reduceEqDiff,reduceCtorEq,etm,Nat.reduceSub,Nat.reduceMul,List.reduceReplicate,Int.reduceToNat,Int.reduceLE,Int.reduceLT]))
   all_goals try (((try simp only[decide_eq_true_eq,decide_eq_false_iff_not,ne_eq]at *)<;>(try omega));done)
   all_goals (try simp only[Bool.not_eq_true',Bool.not_eq_false',decide_eq_true_eq,decide_eq_false_iff_not]at *)
   all_goals try (rw[hR,if_neg (by rintro⟨q1,q2,q3,q4⟩;omega)];simp only[errTok,tokA,f0,evS];done)
   all_goals
    (refine CallK.intro b71 (by simp[treeL,treeA]) hat ?_
     simp only[evS,Nat.reduceLT,Nat.reduceEqDiff,reduceCtorEq];refine CallK.intro b69 rfl (lexInName_ev f) ?_;simp only[evS,Nat.reduceLT,Nat.reduceEqDiff,reduceCtorEq];refine CondK.intro (fun hn=>?_) (fun hn=>?_)<;>simp only[hn,e1,evS,tyS,Nat.reduceAdd,Nat.reduceLT,Nat.reduceLeDiff,Nat.reduceEqDiff,reduceCtorEq])
   all_goals try (rw[hR,if_neg (by rintro⟨q1,q2,q3,q4⟩;rw[hn]at q3;cases q3)];simp only[errTok,tokA,f0,evS];done)
   all_goals (refine CondK.intro (fun h9=>?_) (fun h9=>?_)<;>simp only[h9,wn,nq,evS,tyS,Nat.reduceLT,Nat.reduceEqDiff,reduceCtorEq])
   all_goals (try simp only[decide_eq_true_eq,decide_eq_false_iff_not]at *)
   all_goals try omega
   ·refine CallK.intro b89 rfl (hLd A (by omega) (B:Int) (by omega) (by omega) (by omega)) ?_;simp only[evS,Nat.reduceLT,Nat.reduceEqDiff,reduceCtorEq];refine CallK.intro b100 rfl (isInfB_ev A (by omega) _ (by omega)) ?_;rw[x0 (by omega)]at hR;simp only[evS,Nat.reduceLT,Nat.reduceEqDiff,reduceCtorEq];cases hf:finB A (B:Int)with
    |false=>rw[hR,if_neg (by rintro⟨q1,q2,q3,q4⟩;rw[hf]at q4;cases q4)];simp only[errTok,tokA,f0,evS,tyS,Bf,Nat.reduceAdd,Nat.reduceLT,Nat.reduceLeDiff,Nat.reduceEqDiff,reduceCtorEq]
    |true=>rw[hR,if_pos ⟨by omega,by omega,hn,hf⟩];simp only[okTok,tokA,evS,tyS,Bv,Nat.reduceAdd,Nat.reduceLT,Nat.reduceLeDiff,Nat.reduceEqDiff,reduceCtorEq]
   ·refine CallK.intro b89 rfl (hLd A (by omega) (-(B:Int)) (by omega) (by omega) (by omega)) ?_;simp only[evS,Nat.reduceLT,Nat.reduceEqDiff,reduceCtorEq];refine CallK.intro b100 rfl (isInfB_ev A (by omega) _ (by omega)) ?_;rw[x1 (by omega)]at hR;simp only[evS,Nat.reduceLT,Nat.reduceEqDiff,reduceCtorEq];cases hf:finB A (-(B:Int))with
    |false=>rw[hR,if_neg (by rintro⟨q1,q2,q3,q4⟩;rw[hf]at q4;cases q4)];simp only[errTok,tokA,f0,evS,tyS,Bf,Nat.reduceAdd,Nat.reduceLT,Nat.reduceLeDiff,Nat.reduceEqDiff,reduceCtorEq]
    |true=>rw[hR,if_pos ⟨by omega,by omega,hn,hf⟩];simp only[okTok,tokA,evS,tyS,Bv,Nat.reduceAdd,Nat.reduceLT,Nat.reduceLeDiff,Nat.reduceEqDiff,reduceCtorEq]
   ·refine CallK.intro b89 rfl (hLd A (by omega) (B:Int) (by omega) (by omega) (by omega)) ?_;simp only[evS,Nat.reduceLT,Nat.reduceEqDiff,reduceCtorEq];refine CallK.intro b100 rfl (isInfB_ev A (by omega) _ (by omega)) ?_;rw[x0 (by omega)]at hR;simp only[evS,Nat.reduceLT,Nat.reduceEqDiff,reduceCtorEq];cases hf:finB A (B:Int)with
    |false=>rw[hR,if_neg (by rintro⟨q1,q2,q3,q4⟩;rw[hf]at q4;cases q4)];simp only[errTok,tokA,f0,evS,tyS,Bf,Nat.reduceAdd,Nat.reduceLT,Nat.reduceLeDiff,Nat.reduceEqDiff,reduceCtorEq]
    |true=>rw[hR,if_pos ⟨by omega,by omega,hn,hf⟩];simp only[okTok,tokA,evS,tyS,Bv,Nat.reduceAdd,Nat.reduceLT,Nat.reduceLeDiff,Nat.reduceEqDiff,reduceCtorEq]
  ·have hb':decO c (1023+51 * sg)=false:=by simpa using hOb
   rw[hR,if_neg (by rw[realO_iff];rintro⟨q1,q2,_⟩;exact hOb q2),hOa,hb'];simp only[evS,Nat.reduceLT,Nat.reduceEqDiff,reduceCtorEq]
   (repeat' (first|(with_reducible refine aI ?_ ?_)|(first|(first|refine gF ?_ ?_|refine gT ?_ ?_|refine cI ?_ ?_|refine pI ?_ ?_)<;>intro h|(refine dI ?_;have h:=trivial))<;>simp only[h,evS,tyS,Bv,Bf,Nat.reduceAdd,Nat.reduceLT,Nat.reduceLeDiff,Nat.reduceEqDiff,reduceCtorEq,Nat.reduceSub,Nat.reduceMul,List.reduceReplicate,Int.reduceToNat,Int.reduceLE,Int.reduceLT]))
   all_goals try (((try simp only[beq_iff_eq,ne_eq,beq_eq_false_iff_ne]at *)<;>(try omega));done)
   all_goals (simp only[errTok,tokA,f0,evS];done)
 ·have ha':decO a 9007199254740991=false:=by simpa using hOa
  rw[hR,if_neg (by rw[realO_iff];rintro⟨q1,_⟩;exact hOa q1),ha'];simp only[evS,Nat.reduceLT,Nat.reduceEqDiff,reduceCtorEq]
  (repeat' (first|(with_reducible refine aI ?_ ?_)|(first|(first|refine gF ?_ ?_|refine gT ?_ ?_|refine cI ?_ ?_|refine pI ?_ ?_)<;>intro h|(refine dI ?_;have h:=trivial))<;>simp only[h,evS,tyS,Bf,Nat.reduceAdd,Nat.reduceLT,Nat.reduceLeDiff,Nat.reduceEqDiff,reduceCtorEq,Bv,Nat.reduceSub,Nat.reduceMul,List.reduceReplicate,Int.reduceToNat,Int.reduceLE,Int.reduceLT]))
  all_goals try (((try simp only[beq_iff_eq,ne_eq,beq_eq_false_iff_ne]at *)<;>(try omega));done)
  all_goals (simp only[errTok,tokA,f0,evS];done)
def sgOf(l:List UInt8):Nat:=if atL l (digitsEnd l 0)=112∧atL l (digitsEnd l 0+1)=45 then 1 else 0
def numberA(l:List UInt8):AV:=
 if atL l (digitsEnd l 0)=112∧digitN (atL l (digitsEnd l 0+1+sgOf l))=true then realA l (digitsEnd l 0) (sgOf l)
 else if decO (numL l 0) 9223372036854775807=true∧nameN (atL l (digitsEnd l 0))=false then okTok (tokA 2 [] (decV (numL l 0)) f0 0 (digitsEnd l 0))else errTok 12
theorem realA_shape(l:List UInt8)(p sg:Nat):∃ k t i r z e,realA l p sg=.tup [.agg [.v (.int .i64 k),.v (.string t),.v (.int .i64 i),.v (.float .f64 r),.v (.int .i64 0),.v (.int .i64 z)],.v (.int .i64 e)]:=by
 unfold realA
 split
 ·exact⟨_,_,_,_,_,_,rfl⟩
 ·exact⟨_,_,_,_,_,_,rfl⟩
set_option maxRecDepth 20000 in
theorem lexNumber_ev(hγ:Gl γ)(b:Bool)(l:List UInt8)(hd:digitN (atL l 0)=true)(hl:l.length≤140737488351232):
  Ev Tp γ 242 [.sl b l.length l.length (l.map byteC)] (numberA l):=by
 refine Ev.of Tryz.func242 rfl ?_;have hlt:=digitsEnd_lt hd;have hle:=digitsEnd_le (l:=l) (i:=0) (by omega);have hdg:=lexDigits_ev (γ:=γ) b l 0 (by omega) (by omega);have ha:=decimalAt_ev hγ b l 0 9223372036854775807 (by omega) (by omega) (by omega);rw[List.drop_zero,Nat.sub_zero,Nat.sub_zero]at ha;have hreal:=fun sg hsg hd'=>lexReal_ev hγ b l (digitsEnd l 0) sg rfl (by omega) hsg hd' (by omega)
 have hN:numberA l=if atL l (digitsEnd l 0)=112∧digitN (atL l (digitsEnd l 0+1+sgOf l))=true then realA l (digitsEnd l 0) (sgOf l)
  else if decO (numL l 0) 9223372036854775807=true∧nameN (atL l (digitsEnd l 0))=false then okTok (tokA 2 [] (decV (numL l 0)) f0 0 (digitsEnd l 0))else errTok 12:=rfl
 have hS:sgOf l=if atL l (digitsEnd l 0)=112∧atL l (digitsEnd l 0+1)=45 then 1 else 0:=rfl
 generalize numberA l=R at hN⊢;generalize sgOf l=sg at *;have hdm:=fun h=>(decO_iff (l:=numL l 0) (most:=9223372036854775807) h).1
 generalize numL l 0=a at *;generalize digitsEnd l 0=n at *;have w1:IntKind.i64.wrap ((n:Int)+1)=((n+1:Nat):Int):=i64w (by omega) (by omega);have w2:IntKind.i64.wrap (((n+1:Nat):Int)+1)=((n+1+1:Nat):Int):=i64w (by omega) (by omega);have w3:IntKind.i64.wrap (((n+1:Nat):Int)+0)=((n+1+0:Nat):Int):=i64w (by omega) (by omega)
 have e112:∀ k:Nat,((k:Int)==112)=decide (k=112):=fun k=>by
  by_cases h:k=112
  ·simp[h]
  ·rw[decide_eq_false h];simp;omega
 have e45:∀ k:Nat,((k:Int)==45)=decide (k=45):=fun k=>by
  by_cases h:k=45
  ·simp[h]
  ·rw[decide_eq_false h];simp;omega
 simp only[Tryz.f242,evS,tyS,Nat.reduceAdd,Nat.reduceSub,Nat.reduceLT,Nat.reduceEqDiff,reduceCtorEq];refine CallK.intro b70 (by simp[treeL,treeA]) hdg ?_;simp only[evS,Nat.reduceLT,Nat.reduceEqDiff,reduceCtorEq];refine CallK.intro b71 (by simp[treeL,treeA]) (lexAt_ev b l n) ?_
 by_cases hp:atL l n=112
 ·have dp:decide (atL l n=112)=true:=decide_eq_true hp;simp only[e112,w1,dp,evS,Nat.reduceLT,Nat.reduceEqDiff,reduceCtorEq];refine CallK.intro b71 (by simp[treeL,treeA]) (lexAt_ev b l (n+1)) ?_
  by_cases hm:atL l (n+1)=45
  ·have dm:decide (atL l (n+1)=45)=true:=decide_eq_true hm;rw[if_pos ⟨hp,hm⟩]at hS;subst hS;simp only[e45,dm,evS,Nat.reduceLT,Nat.reduceEqDiff,reduceCtorEq];refine CallK.intro b71 (by simp[treeL,treeA]) (lexAt_ev b l n) ?_;simp only[e112,w1,w2,dp,evS,Nat.reduceLT,Nat.reduceEqDiff,reduceCtorEq];refine CallK.intro b71 (by simp[treeL,treeA]) (lexAt_ev b l (n+1+1)) ?_;simp only[evS,Nat.reduceLT,Nat.reduceEqDiff,reduceCtorEq];refine CallK.intro b47 rfl (lexDigit_ev _) ?_;simp only[evS,Nat.reduceLT,Nat.reduceEqDiff,reduceCtorEq];refine CondK.intro (fun hdg2=>?_) (fun hdg2=>?_)<;>simp only[hdg2,evS,tyS,Nat.reduceLT,Nat.reduceEqDiff,reduceCtorEq]
   ·rw[if_pos ⟨hp,hdg2⟩]at hN;obtain⟨k1,k2,k3,k4,k5,k6,hsh⟩:=realA_shape l n 1;have hr:=hreal 1 (by omega) hdg2;rw[hsh]at hr hN;refine CallK.intro b72 (by simp[treeL,treeA]) hr ?_;rw[hN];simp only[evS,tyS,Nat.reduceAdd,Nat.reduceLT,Nat.reduceLeDiff,Nat.reduceEqDiff,reduceCtorEq]
   ·rw[if_neg (by rintro⟨_,q1⟩;rw[hdg2]at q1;cases q1)]at hN
    (repeat' (first|(with_reducible refine aI ?_ ?_)|(first|(first|refine gF ?_ ?_|refine gT ?_ ?_|refine cI ?_ ?_|refine pI ?_ ?_)<;>intro h|(refine dI ?_;have h:=trivial))<;>simp only[h,evS,tyS,Bv,Bf,Nat.reduceAdd,Nat.reduceSub,Nat.reduceMul,Nat.reduceLT,Nat.reduceLeDiff,Nat.reduceEqDiff,reduceCtorEq,List.reduceReplicate,Int.reduceToNat,Int.reduceLE,Int.reduceLT]))
    all_goals try (((try simp only[decide_eq_true_eq]at *)<;>(try omega));done)
    refine CallK.intro b73 (by simp[treeL,treeA]) ha ?_;cases hO:decO a 9223372036854775807 with
    |false=>
     rw[if_neg (by rintro⟨q1,_⟩;rw[hO]at q1;cases q1)]at hN;rw[hN];simp only[errTok,tokA,f0,evS,tyS,Bf,Nat.reduceAdd,Nat.reduceLT,Nat.reduceLeDiff,Nat.reduceEqDiff,reduceCtorEq]
    |true=>
     simp only[evS,Bv,Nat.reduceLT,Nat.reduceEqDiff,reduceCtorEq];refine CallK.intro b71 (by simp[treeL,treeA]) (lexAt_ev b l n) ?_;simp only[evS,Nat.reduceLT,Nat.reduceEqDiff,reduceCtorEq];refine CallK.intro b69 rfl (lexInName_ev _) ?_;simp only[evS,Nat.reduceLT,Nat.reduceEqDiff,reduceCtorEq];cases hn:nameN (atL l n)with
     |true=>
      rw[if_neg (by rintro⟨_,q1⟩;rw[hn]at q1;cases q1)]at hN;rw[hN];simp only[errTok,tokA,f0,evS,tyS,Nat.reduceAdd,Nat.reduceLT,Nat.reduceLeDiff,Nat.reduceEqDiff,reduceCtorEq]
     |false=>
      rw[if_pos ⟨hO,hn⟩]at hN;rw[hN];simp only[okTok,tokA,f0,hdm hO,evS,tyS,Nat.reduceAdd,Nat.reduceLT,Nat.reduceLeDiff,Nat.reduceEqDiff,reduceCtorEq]
  ·have dm:decide (atL l (n+1)=45)=false:=decide_eq_false hm;rw[if_neg (fun q=>hm q.2)]at hS;subst hS;simp only[e45,dm,evS,Nat.reduceLT,Nat.reduceEqDiff,reduceCtorEq];refine CallK.intro b71 (by simp[treeL,treeA]) (lexAt_ev b l n) ?_;simp only[e112,w1,w3,dp,evS,Nat.reduceLT,Nat.reduceEqDiff,reduceCtorEq];refine CallK.intro b71 (by simp[treeL,treeA]) (lexAt_ev b l (n+1+0)) ?_;simp only[evS,Nat.reduceLT,Nat.reduceEqDiff,reduceCtorEq];refine CallK.intro b47 rfl (lexDigit_ev _) ?_;simp only[evS,Nat.reduceLT,Nat.reduceEqDiff,reduceCtorEq];refine CondK.intro (fun hdg2=>?_) (fun hdg2=>?_)<;>simp only[hdg2,evS,tyS,Nat.reduceLT,Nat.reduceEqDiff,reduceCtorEq]
   ·rw[if_pos ⟨hp,hdg2⟩]at hN;obtain⟨k1,k2,k3,k4,k5,k6,hsh⟩:=realA_shape l n 0;have hr:=hreal 0 (by omega) hdg2;rw[hsh]at hr hN;refine CallK.intro b72 (by simp[treeL,treeA]) hr ?_;rw[hN];simp only[evS,tyS,Nat.reduceAdd,Nat.reduceLT,Nat.reduceLeDiff,Nat.reduceEqDiff,reduceCtorEq]
   ·rw[if_neg (by rintro⟨_,q1⟩;rw[hdg2]at q1;cases q1)]at hN
    (repeat' (first|(with_reducible refine aI ?_ ?_)|(first|(first|refine gF ?_ ?_|refine gT ?_ ?_|refine cI ?_ ?_|refine pI ?_ ?_)<;>intro h|(refine dI ?_;have h:=trivial))<;>simp only[h,evS,tyS,Bv,Bf,Nat.reduceAdd,Nat.reduceSub,Nat.reduceMul,Nat.reduceLT,Nat.reduceLeDiff,Nat.reduceEqDiff,reduceCtorEq,List.reduceReplicate,Int.reduceToNat,Int.reduceLE,Int.reduceLT]))
    all_goals try (((try simp only[decide_eq_true_eq,decide_eq_false_iff_not]at *)<;>(try omega));done)
    refine CallK.intro b73 (by simp[treeL,treeA]) ha ?_;cases hO:decO a 9223372036854775807 with
    |false=>
     rw[if_neg (by rintro⟨q1,_⟩;rw[hO]at q1;cases q1)]at hN;rw[hN];simp only[errTok,tokA,f0,evS,tyS,Bf,Nat.reduceAdd,Nat.reduceLT,Nat.reduceLeDiff,Nat.reduceEqDiff,reduceCtorEq]
    |true=>
     simp only[evS,Bv,Nat.reduceLT,Nat.reduceEqDiff,reduceCtorEq];refine CallK.intro b71 (by simp[treeL,treeA]) (lexAt_ev b l n) ?_;simp only[evS,Nat.reduceLT,Nat.reduceEqDiff,reduceCtorEq];refine CallK.intro b69 rfl (lexInName_ev _) ?_;simp only[evS,Nat.reduceLT,Nat.reduceEqDiff,reduceCtorEq];cases hn:nameN (atL l n)with
     |true=>
      rw[if_neg (by rintro⟨_,q1⟩;rw[hn]at q1;cases q1)]at hN;rw[hN];simp only[errTok,tokA,f0,evS,tyS,Nat.reduceAdd,Nat.reduceLT,Nat.reduceLeDiff,Nat.reduceEqDiff,reduceCtorEq]
     |false=>
      rw[if_pos ⟨hO,hn⟩]at hN;rw[hN];simp only[okTok,tokA,f0,hdm hO,evS,tyS,Nat.reduceAdd,Nat.reduceLT,Nat.reduceLeDiff,Nat.reduceEqDiff,reduceCtorEq]
 ·have dp:decide (atL l n=112)=false:=decide_eq_false hp;rw[if_neg (fun q=>hp q.1)]at hN;simp only[e112,dp,evS,Nat.reduceLT,Nat.reduceEqDiff,reduceCtorEq];refine CallK.intro b71 (by simp[treeL,treeA]) (lexAt_ev b l n) ?_;simp only[e112,dp,evS,tyS,Nat.reduceLT,Nat.reduceEqDiff,reduceCtorEq]
  (repeat' (first|(with_reducible refine aI ?_ ?_)|(first|(first|refine gF ?_ ?_|refine gT ?_ ?_|refine cI ?_ ?_|refine pI ?_ ?_)<;>intro h|(refine dI ?_;have h:=trivial))<;>simp only[h,evS,tyS,Bv,Bf,Nat.reduceAdd,Nat.reduceSub,Nat.reduceMul,Nat.reduceLT,Nat.reduceLeDiff,Nat.reduceEqDiff,reduceCtorEq,List.reduceReplicate,Int.reduceToNat,Int.reduceLE,Int.reduceLT]))
  all_goals try (((try simp only[decide_eq_false_iff_not]at *)<;>(try omega));done)
  refine CallK.intro b73 (by simp[treeL,treeA]) ha ?_;cases hO:decO a 9223372036854775807 with
  |false=>
   rw[if_neg (by rintro⟨q1,_⟩;rw[hO]at q1;cases q1)]at hN;rw[hN];simp only[errTok,tokA,f0,evS,tyS,Bf,Nat.reduceAdd,Nat.reduceLT,Nat.reduceLeDiff,Nat.reduceEqDiff,reduceCtorEq]
  |true=>
   simp only[evS,Bv,Nat.reduceLT,Nat.reduceEqDiff,reduceCtorEq];refine CallK.intro b71 (by simp[treeL,treeA]) (lexAt_ev b l n) ?_;simp only[evS,Nat.reduceLT,Nat.reduceEqDiff,reduceCtorEq];refine CallK.intro b69 rfl (lexInName_ev _) ?_;simp only[evS,Nat.reduceLT,Nat.reduceEqDiff,reduceCtorEq];cases hn:nameN (atL l n)with
   |true=>
    rw[if_neg (by rintro⟨_,q1⟩;rw[hn]at q1;cases q1)]at hN;rw[hN];simp only[errTok,tokA,f0,evS,tyS,Nat.reduceAdd,Nat.reduceLT,Nat.reduceLeDiff,Nat.reduceEqDiff,reduceCtorEq]
   |false=>
    rw[if_pos ⟨hO,hn⟩]at hN;rw[hN];simp only[okTok,tokA,f0,hdm hO,evS,tyS,Nat.reduceAdd,Nat.reduceLT,Nat.reduceLeDiff,Nat.reduceEqDiff,reduceCtorEq]
end Go.Proofs.YtlobiioioicmhaaGreatDoor
