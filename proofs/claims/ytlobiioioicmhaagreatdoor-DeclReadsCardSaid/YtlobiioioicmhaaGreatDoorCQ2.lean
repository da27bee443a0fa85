/- A part of the proof. -/
import Derived.Test.YtlobiioioicmhaaGreatDoorCQ1
import Derived.Shelf.Strings.Search3
import Derived.Test.YtlobiioioicmhaaGreatDoorProg
import Derived.Shelf.Strconv.ToErrorRange
set_option linter.all false
set_option maxHeartbeats 8000000
namespace Go.Proofs.YtlobiioioicmhaaGreatDoor
open _root_.Bool renaming not_true→Bv,not_false→Bf
open _root_.List renaming getElem?_eq_none→Bq,length_take→Bh
open _root_.Nat renaming le_refl→BL,zero_le→BN
open Go.Proofs.Tryz renaming prog→Tp
open Go Go.Ev
set_option maxRecDepth 20000
variable {γ:List (Nat×AV)}
set_option maxRecDepth 20000 in
theorem GI(b:Bool)(l:List UInt8)(i:Nat)(hl:l.length≤140737488351232)(hi:i≤l.length+8):Ev Tp γ 205 [.sl b l.length l.length (l.map Am),.v (.int .i64 i)] (.v (.int .i64 (AI A5 l i-i:Nat))):=by
 refine Ev.of Tryz.func205 rfl ?_;have ea:∀ j,(l.getD j 0).toNat=Ar l j:=fun _=>rfl
 simp only[Tryz.f205,Ad,Nat.reduceAdd,Nat.reduceSub,Nat.reduceLT];refine Ea.intro (fun j:Nat=>⟨⟨24,[(0,.sl b l.length l.length (l.map Am)),(1,.v (.int .i64 i)),(5,.v (.int .i64 j))],γ⟩,[]⟩) (fun j=>i+j≤l.length+8∧AI A5 l (i+j)=AI A5 l i) (fun j=>l.length-(i+j)) 0 ?_ ⟨by omega,rfl⟩ (fun j hj=>?_)
 ·simp only[Ad,Nat.reduceEqDiff,reduceCtorEq]
  rfl
 ·have ew:IntKind.i64.wrap ((i:Int)+j)=((i+j:Nat):Int):=by rw[A4]<;>omega
  have ej:IntKind.i64.wrap ((j:Int)+1)=((j+1:Nat):Int):=by rw[A4]<;>omega
  have hstop:(i+j<l.length→A5 (Ar l (i+j))=false)→AI A5 l i-i=j:=fun h=>by
   rw[←hj.2,GD h];omega
  simp only[ew,Ad,An,Nat.reduceLT,Nat.reduceEqDiff,reduceCtorEq]
  (repeat' (first|(with_reducible refine aI ?_ ?_)|(first|(first|refine gF ?_ ?_|refine gT ?_ ?_|refine cI ?_ ?_|refine pI ?_ ?_)<;>intro h|(refine dI ?_;have h:=trivial))<;>simp only[h,ew,ea,Ad,An,Nat.reduceLT,Nat.reduceEqDiff,reduceCtorEq,Bv,Bf,Nat.reduceAdd,Nat.reduceSub,Nat.reduceMul,Nat.reduceLeDiff,List.reduceReplicate,Int.reduceToNat,Int.reduceLE,Int.reduceLT]))
  all_goals try (((try simp only[decide_eq_true_eq,decide_eq_false_iff_not]at *)<;>(try omega));done)
  ·((try simp only[decide_eq_true_eq]at *)<;>(try omega))
   refine Ag.intro mC rfl (ET _) ?_;simp only[Ad,Nat.reduceLT,Nat.reduceEqDiff,reduceCtorEq];refine BZ.intro (fun h=>?_) (fun h=>?_)<;>simp only[h,ej,Ad,Nat.reduceLT,Nat.reduceEqDiff,reduceCtorEq]
   ·refine Cg.intro (j+1) ⟨by omega,by rw[←hj.2,Iy (by omega) h];congr 1⟩ ?_ (by omega);simp only[Ad,Nat.reduceEqDiff,reduceCtorEq]
   ·rw[hstop fun _=>h]
  ·((try simp only[decide_eq_false_iff_not]at *)<;>(try omega))
   rw[hstop fun h'=>by omega]
def DT:List (List UInt8):=[[40],[41],[123],[125],[44],[59],[58],[46],[38],[43],[45],[42],[47],[37],[60],[62],[33],[61],[95],[61,61],[33,61],[60,61],[62,61],[38,38],[124,124],[45,62]]
set_option maxRecDepth 40000 in
theorem KQ(l:List UInt8):Ev Tp γ 142 [.v (.string ⟨l.toArray⟩)] (.v (.bool (DT.contains l))):=by
 refine Ev.of Tryz.func142 rfl ?_;simp only[Tryz.f142,Ad,seval]
 (repeat' (first|(with_reducible refine aI ?_ ?_)|(first|(first|refine gF ?_ ?_|refine gT ?_ ?_|refine cI ?_ ?_|refine pI ?_ ?_)<;>intro h|(refine dI ?_;have h:=trivial))<;>simp only[h,Ad,An,Bv,Bf,seval]))
 all_goals try (have e:=eq_of_beq h;subst e;rfl)
 all_goals simp only[AV.v.injEq,Value.bool.injEq]
 all_goals (simp only[DT,List.contains,List.elem, *])
theorem Wc{P:Program}{f:FuncId}{b:Bool}{n m:Nat}{L:List UInt8}{rest:List AV}{r:AV}(h1:n≤m)(h2:n≤L.length)(hev:Ev P γ f (.sl b (L.take n).length (L.take n).length ((L.take n).map Am)::rest) r):Ev P γ f (.sl b n m (L.map Am)::rest) r:=by
 have e:(L.take n).length=n:=by rw[Bh];omega
 rw[e]at hev;intro G B w vs hG hγ hr;refine hev G B w vs hG hγ ?_;simp only[Aw]at hr⊢;obtain⟨u,us,e1,h3,h4⟩:=hr;refine⟨u,us,e1,?_,h4⟩;simp only[rel]at h3⊢;obtain⟨r,off,cap,e2,g1,g2,g3,g4⟩:=h3;exact⟨r,off,cap,e2,BL _,by omega,g3,by rw[List.map_take];exact FB g4 n⟩
def Hz(n:Nat)(l:List UInt8):Nat:=l.foldl (fun n c=>10 * n+(c.toNat-48)) n
def Ay(l:List UInt8):Nat:=Hz 0 l
theorem Uy(l:List UInt8):∀ n,n≤Hz n l:=by
 induction l with
 |nil=>intro n;exact BL _
 |cons c l ih=>intro n;have:=ih (10 * n+(c.toNat-48));simp only[Hz,List.foldl_cons]at *;omega
theorem Pz(l:List UInt8)(c:UInt8):Ay (l++[c])=10 * Ay l+(c.toNat-48):=by simp[Ay,Hz]
theorem PW(l:List UInt8)(j:Nat):Ay (l.take j)≤Ay l:=by
 have e:Ay l=Hz (Ay (l.take j)) (l.drop j):=by
  conv=>lhs;rw[←List.take_append_drop j l]
  simp only[Ay,Hz,List.foldl_append]
 rw[e];exact Uy _ _
theorem PA{l:List UInt8}{j:Nat}(h:j<l.length):l.take (j+1)=l.take j++[l.getD j 0]:=by
 rw[List.take_add_one];simp[h]
def LJ(l:List UInt8):AV:=if Ay l≤9223372036854775807 then .tup [.v (.int .i64 (Ay l)),.v (.bool true)]else .tup [.v (.int .i64 0),.v (.bool false)]
set_option maxRecDepth 20000 in
theorem SK(b:Bool)(l:List UInt8)(hl:l.length≤140737488351232)(hd:∀ j,j<l.length→A5 (Ar l j)=true):Ev Tp γ 208 [.sl b l.length l.length (l.map Am)] (LJ l):=by
 refine Ev.of Tryz.func208 rfl ?_;simp only[Tryz.f208,Ad,seval];refine Ea.intro (fun j:Nat=>⟨⟨30,[(0,.sl b l.length l.length (l.map Am)),(5,.v (.int .i64 j)),(4,.v (.int .u64 (Ay (l.take j))))],γ⟩,[]⟩) (fun j=>j≤l.length∧Ay (l.take j)≤9223372036854775807) (fun j=>l.length-j) 0 ?_ ⟨by omega,by simp[Ay,Hz]⟩ (fun j hj=>?_)
 ·simp only[Ad,seval]
  (repeat' (first|(with_reducible refine aI ?_ ?_)|(first|(first|refine gF ?_ ?_|refine gT ?_ ?_|refine cI ?_ ?_|refine pI ?_ ?_)<;>intro h|(refine dI ?_;have h:=trivial))<;>simp only[h,Ad,An,Bv,Bf,seval]))
  all_goals rfl
 ·have ea:∀ j,(l.getD j 0).toNat=Ar l j:=fun _=>rfl
  have ej:IntKind.i64.wrap ((j:Int)+1)=((j+1:Nat):Int):=by rw[A4]<;>omega
  by_cases hjl:j<l.length
  ·have hdj:48≤Ar l j∧Ar l j≤57:=by simpa[A5]using hd j hjl
   have e1:IntKind.u8.wrap ((Ar l j:Int)-48)=((Ar l j-48:Nat):Int):=by rw[jI]<;>omega
   have e2:IntKind.u64.wrap ((Ar l j-48:Nat):Int)=((Ar l j-48:Nat):Int):=by rw[IL]<;>omega
   have e3:IntKind.u64.wrap (9223372036854775807-((Ar l j-48:Nat):Int))=((9223372036854775807-(Ar l j-48):Nat):Int):=by rw[IL]<;>omega
   have e4:IntKind.u64.wrap (((9223372036854775807-(Ar l j-48):Nat):Int).tdiv 10)=(((9223372036854775807-(Ar l j-48)) / 10:Nat):Int):=by
    rw[Int.tdiv_eq_ediv_of_nonneg (by omega),IL]<;>omega
   have hsn:Ay (l.take (j+1))=10 * Ay (l.take j)+(Ar l j-48):=by rw[PA hjl,Pz];rfl
   simp only[Ad,An,seval]
   (repeat' (first|(with_reducible refine aI ?_ ?_)|(first|(first|refine gF ?_ ?_|refine gT ?_ ?_|refine cI ?_ ?_|refine pI ?_ ?_)<;>intro h|(refine dI ?_;have h:=trivial))<;>simp only[h,ea,e1,e2,e3,e4,Ad,An,Bv,Bf,seval]))
   all_goals try (((try simp only[decide_eq_true_eq,decide_eq_false_iff_not]at *)<;>(try omega));done)
   ·((try simp only[decide_eq_true_eq]at *)<;>(try omega))
    have hbig:9223372036854775807<Ay l:=by
     have:=PW l (j+1);omega
    rw[LJ,if_neg (by omega)];simp only[Ad]
   ·((try simp only[decide_eq_true_eq,decide_eq_false_iff_not]at *)<;>(try omega))
    have hle:10 * Ay (l.take j)+(Ar l j-48)≤9223372036854775807:=by omega
    have e5:IntKind.u64.wrap (10 * (Ay (l.take j):Int))=((10 * Ay (l.take j):Nat):Int):=by rw[IL]<;>omega
    have e6:IntKind.u64.wrap (((10 * Ay (l.take j):Nat):Int)+((Ar l j-48:Nat):Int))=((Ay (l.take (j+1)):Nat):Int):=by rw[hsn,IL]<;>omega
    refine Cg.intro (j+1) ⟨by omega,by omega⟩ ?_ (by omega);simp only[ej,e5,e6,Ad,seval]
  ·have hjn:j=l.length:=by omega
   have et:l.take j=l:=by rw[hjn,List.take_length]
   rw[et]at hj⊢;have ef:((j:Int)<l.length)=False:=by simp;omega
   have e7:IntKind.i64.wrap ((Ay l:Nat):Int)=((Ay l:Nat):Int):=by rw[A4]<;>omega
   simp only[Ad,An,seval]
   (repeat' (first|(with_reducible refine aI ?_ ?_)|(first|(first|refine gF ?_ ?_|refine gT ?_ ?_|refine cI ?_ ?_|refine pI ?_ ?_)<;>intro h|(refine dI ?_;have h:=trivial))<;>simp only[h,Ad,An,Bv,Bf,seval]))
   all_goals try (((try simp only[decide_eq_true_eq,decide_eq_false_iff_not]at *)<;>(try omega));done)
   rw[LJ,if_pos hj.2];simp only[e7,Ad]
def GU(l:List UInt8)(i:Nat):Nat:=if Ar l (i+1)=45 then 2 else 1
def H3(l:List UInt8)(i:Nat):Nat:=AI A5 l i-i
def JO(l:List UInt8)(i:Nat):Nat×Nat:=
 if Ar l i≠112 then (0,0)
 else if H3 l (i+GU l i)=0 then (0,0)
 else (GU l i+H3 l (i+GU l i),GU l i)
theorem KB{l:List UInt8}{i:Nat}(h:l.length≤i):Ar l i=0:=by
 simp only[Ar,List.getD];rw[Bq (by omega)];rfl
theorem SZ(l:List UInt8)(i:Nat):H3 l i≤l.length:=by
 unfold H3
 by_cases h:i≤l.length
 ·have:=I4 (p:=A5) h;omega
 ·rw[GD (by omega)];omega
set_option maxRecDepth 20000 in
theorem PI(b:Bool)(l:List UInt8)(i:Nat)(hl:l.length≤140737488351232)(hi:i≤l.length):Ev Tp γ 206 [.sl b l.length l.length (l.map Am),.v (.int .i64 i)] (.tup [.v (.int .i64 (JO l i).1),.v (.int .i64 (JO l i).2)]):=by
 refine Ev.of Tryz.func206 rfl ?_;have ea:∀ j,(l.getD j 0).toNat=Ar l j:=fun _=>rfl
 have e1:IntKind.i64.wrap ((i:Int)+1)=((i+1:Nat):Int):=by rw[A4]<;>omega
 have e2:IntKind.i64.wrap ((i:Int)+2)=((i+2:Nat):Int):=by rw[A4]<;>omega
 have ho:=KB (l:=l) (i:=i);have ho1:=KB (l:=l) (i:=i+1);have c1:=GI (γ:=γ) b l (i+1) hl (by omega);have c2:=GI (γ:=γ) b l (i+2) hl (by omega);have s1:=SZ l (i+1);have s2:=SZ l (i+2);have w1:IntKind.i64.wrap (1+((H3 l (i+1):Nat):Int))=((1+H3 l (i+1):Nat):Int):=by rw[A4]<;>omega
 have w2:IntKind.i64.wrap (2+((H3 l (i+2):Nat):Int))=((2+H3 l (i+2):Nat):Int):=by rw[A4]<;>omega
 simp only[Tryz.f206,Ad,An,seval]
 (repeat' (first|(with_reducible refine aI ?_ ?_)|(first|(first|refine gF ?_ ?_|refine gT ?_ ?_|refine cI ?_ ?_|refine pI ?_ ?_)<;>intro h|(refine dI ?_;have h:=trivial))<;>simp only[h,e1,e2,ea,Ad,An,Bv,Bf,seval]))
 all_goals try (((try simp only[decide_eq_true_eq,decide_eq_false_iff_not,beq_iff_eq,bne_iff_ne,ne_eq,beq_eq_false_iff_ne,bne_eq_false_iff_eq]at *)<;>(try omega));done)
 ·((try simp only[decide_eq_false_iff_not,bne_iff_ne,ne_eq]at *)<;>(try omega));rw[JO,if_pos (by omega)];rfl
 ·((try simp only[decide_eq_false_iff_not,bne_iff_ne,ne_eq]at *)<;>(try omega));rw[JO,if_pos (by omega)];rfl
 ·((try simp only[decide_eq_true_eq,decide_eq_false_iff_not,beq_iff_eq,bne_eq_false_iff_eq]at *)<;>(try omega))
  have hh:GU l i=2:=by unfold GU;rw[if_pos (by omega)]
  refine Ag.intro nG (by simp only[A0,A6,Bool.and_self]) c2 ?_;rw[show AI A5 l (i+2)-(i+2)=H3 l (i+2)from rfl];simp only[Ad,seval];refine BZ.intro (fun h=>?_) (fun h=>?_)
  ·simp only[h,Ad,seval]
   ((try simp only[beq_iff_eq]at *)<;>(try omega))
   rw[JO,if_neg (by omega),hh,if_pos (by omega)];simp only[Ad]
   (repeat' (first|(with_reducible refine aI ?_ ?_)|(first|(first|refine gF ?_ ?_|refine gT ?_ ?_|refine cI ?_ ?_|refine pI ?_ ?_)<;>intro h|(refine dI ?_;have h:=trivial))<;>simp only[h,Ad,An,Bv,Bf,seval]))
   all_goals rfl
  ·simp only[h,w2,Ad,seval]
   ((try simp only[ne_eq,beq_eq_false_iff_ne]at *)<;>(try omega))
   rw[JO,if_neg (by omega),hh,if_neg (by omega)]
   (repeat' (first|(with_reducible refine aI ?_ ?_)|(first|(first|refine gF ?_ ?_|refine gT ?_ ?_|refine cI ?_ ?_|refine pI ?_ ?_)<;>intro h|(refine dI ?_;have h:=trivial))<;>simp only[h,Ad,An,Bv,Bf,seval]))
   all_goals rfl
 ·((try simp only[decide_eq_true_eq,decide_eq_false_iff_not,ne_eq,beq_eq_false_iff_ne,bne_eq_false_iff_eq]at *)<;>(try omega))
  have hh:GU l i=1:=by unfold GU;rw[if_neg (by omega)]
  refine Ag.intro nG (by simp only[A0,A6,Bool.and_self]) c1 ?_;rw[show AI A5 l (i+1)-(i+1)=H3 l (i+1)from rfl];simp only[Ad,seval];refine BZ.intro (fun h=>?_) (fun h=>?_)
  ·simp only[h,Ad,seval]
   ((try simp only[beq_iff_eq]at *)<;>(try omega))
   rw[JO,if_neg (by omega),hh,if_pos (by omega)];simp only[Ad]
   (repeat' (first|(with_reducible refine aI ?_ ?_)|(first|(first|refine gF ?_ ?_|refine gT ?_ ?_|refine cI ?_ ?_|refine pI ?_ ?_)<;>intro h|(refine dI ?_;have h:=trivial))<;>simp only[h,Ad,An,Bv,Bf,seval]))
   all_goals rfl
  ·simp only[h,w1,Ad,seval]
   ((try simp only[ne_eq,beq_eq_false_iff_ne]at *)<;>(try omega))
   rw[JO,if_neg (by omega),hh,if_neg (by omega)]
   (repeat' (first|(with_reducible refine aI ?_ ?_)|(first|(first|refine gF ?_ ?_|refine gT ?_ ?_|refine cI ?_ ?_|refine pI ?_ ?_)<;>intro h|(refine dI ?_;have h:=trivial))<;>simp only[h,Ad,An,Bv,Bf,seval]))
   all_goals rfl
 ·((try simp only[decide_eq_false_iff_not,bne_eq_false_iff_eq]at *)<;>(try omega))
  have hh:GU l i=1:=by unfold GU;rw[if_neg (by omega)]
  refine Ag.intro nG (by simp only[A0,A6,Bool.and_self]) c1 ?_;rw[show AI A5 l (i+1)-(i+1)=H3 l (i+1)from rfl];simp only[Ad,seval];refine BZ.intro (fun h=>?_) (fun h=>?_)
  ·simp only[h,Ad,seval]
   ((try simp only[beq_iff_eq]at *)<;>(try omega))
   rw[JO,if_neg (by omega),hh,if_pos (by omega)];simp only[Ad]
   (repeat' (first|(with_reducible refine aI ?_ ?_)|(first|(first|refine gF ?_ ?_|refine gT ?_ ?_|refine cI ?_ ?_|refine pI ?_ ?_)<;>intro h|(refine dI ?_;have h:=trivial))<;>simp only[h,Ad,An,Bv,Bf,seval]))
   all_goals rfl
  ·simp only[h,w1,Ad,seval]
   ((try simp only[ne_eq,beq_eq_false_iff_ne]at *)<;>(try omega))
   rw[JO,if_neg (by omega),hh,if_neg (by omega)]
   (repeat' (first|(with_reducible refine aI ?_ ?_)|(first|(first|refine gF ?_ ?_|refine gT ?_ ?_|refine cI ?_ ?_|refine pI ?_ ?_)<;>intro h|(refine dI ?_;have h:=trivial))<;>simp only[h,Ad,An,Bv,Bf,seval]))
   all_goals rfl
 ·((try simp only[decide_eq_true_eq]at *)<;>(try omega));rw[JO,if_pos (by omega)];rfl
 ·((try simp only[decide_eq_true_eq]at *)<;>(try omega));rw[JO,if_pos (by omega)];rfl
def Hb(n:Nat):Bool:=decide (n=32∨n=9∨n=10∨n=13)
theorem DJ(n:Nat):Ev Tp γ 85 [.v (.int .u8 n)] (.v (.bool (Hb n))):=by
 refine Ev.of Tryz.func85 rfl ?_;simp only[Tryz.f85,Ad,seval]
 (repeat' (first|(with_reducible refine aI ?_ ?_)|(first|(first|refine gF ?_ ?_|refine gT ?_ ?_|refine cI ?_ ?_|refine pI ?_ ?_)<;>intro h|(refine dI ?_;have h:=trivial))<;>simp only[h,Ad,An,Bv,Bf,seval]))
 all_goals (((try simp only[beq_iff_eq,ne_eq,beq_eq_false_iff_ne]at *)<;>(try omega))<;>simp only[Hb,AV.v.injEq,Value.bool.injEq]<;>first|exact (decide_eq_true (by omega)).symm|exact (decide_eq_false (by omega)).symm|(rw[Bool.eq_iff_iff];simp;omega))
theorem b67:Ak Tp 208:=⟨_,Tryz.func208,by kernel_rfl,by kernel_rfl⟩
theorem b65:Ak Tp 206:=⟨_,Tryz.func206,by kernel_rfl,by kernel_rfl⟩
theorem b43:Ak Tp 141:=⟨_,Tryz.func141,by kernel_rfl,by kernel_rfl⟩
theorem b44:Ak Tp 142:=⟨_,Tryz.func142,by kernel_rfl,by kernel_rfl⟩
theorem b42:Ak Tp 140:=⟨_,Tryz.func140,by kernel_rfl,by kernel_rfl⟩
theorem b66:Ak Tp 207:=⟨_,Tryz.func207,by kernel_rfl,by kernel_rfl⟩
theorem b98:Ak Tp 250:=⟨_,Tryz.func250,by kernel_rfl,by kernel_rfl⟩
theorem pB:Ak Tp 86:=⟨_,Tryz.func86,by kernel_rfl,by kernel_rfl⟩
theorem b46:Ak Tp 240:=⟨_,Tryz.func240,by kernel_rfl,by kernel_rfl⟩
theorem pE:Ak Tp 242:=⟨_,Tryz.func242,by kernel_rfl,by kernel_rfl⟩
theorem pA:Ak Tp 243:=⟨_,Tryz.func243,by kernel_rfl,by kernel_rfl⟩
theorem b50:Ak Tp 244:=⟨_,Tryz.func244,by kernel_rfl,by kernel_rfl⟩
theorem b72:Ak Tp 278:=⟨_,Tryz.func278,by kernel_rfl,by kernel_rfl⟩
theorem mV:Ak Tp 279:=⟨_,Tryz.func279,by kernel_rfl,by kernel_rfl⟩
theorem b31:Ak Tp 183:=⟨_,Tryz.func183,by kernel_rfl,by kernel_rfl⟩
theorem LZ(m:Int)(x:Nat)(below:Bool)(f:Nat→Nat)(hx:x≤4611686018427387904)(h0:FloatKind.f64.nearest m=f 0)
  (hs:∀ j,j<x→(if below=true then FloatKind.f64.format.div (f j) 4611686018427387904 else FloatKind.f64.format.mul (f j) 4611686018427387904)=some (f (j+1))) :
  Ev Tp γ 250 [.v (.int .i64 m),.v (.int .i64 x),.v (.bool below)] (.v (.float .f64 (f x))):=by
 refine Ev.of Tryz.func250 rfl ?_;simp only[Tryz.f250,h0,Ad,An,seval];refine Ea.intro (fun j:Nat=>⟨⟨22,[(1,.v (.int .i64 x)),(2,.v (.bool below)),(7,.v (.float .f64 (f j))),(8,.v (.int .i64 j))],γ⟩,[]⟩) (fun j=>j≤x) (fun j=>x-j) 0 ?_ (BN _) (fun j hj=>?_)
 ·simp only[Ad,seval]
  (repeat' (first|(with_reducible refine aI ?_ ?_)|(first|(first|refine gF ?_ ?_|refine gT ?_ ?_|refine cI ?_ ?_|refine pI ?_ ?_)<;>intro h|(refine dI ?_;have h:=trivial))<;>simp only[h,Ad,An,Bv,Bf,seval]))
  all_goals rfl
 ·have ej:IntKind.i64.wrap ((j:Int)+1)=((j+1:Nat):Int):=by rw[A4]<;>omega
  simp only[Ad,seval];refine BZ.intro (fun h=>?_) (fun h=>?_)<;>simp only[h,Ad,seval]
  ·have hjx:j<x:=by ((try simp only[decide_eq_true_eq]at *)<;>(try omega))
   have hsj:=hs j hjx;refine BZ.intro (fun hb=>?_) (fun hb=>?_)
   ·rw[if_pos hb]at hsj;simp only[hb,hsj,En,ej,Ad,seval];refine Cg.intro (j+1) (by omega) ?_ (by omega);simp only[Ad,seval]
   ·rw[if_neg (by simp[hb])]at hsj;simp only[hb,hsj,En,ej,Ad,seval];refine Cg.intro (j+1) (by omega) ?_ (by omega);simp only[Ad,seval]
  ·have hjx:j=x:=by ((try simp only[decide_eq_false_iff_not]at *)<;>(try omega))
   rw[hjx]
theorem R1:JZ Tp 219=none∧
  Gt Tp 260=some false∧
  Gt Tp 261=some false∧
  Gt Tp 169=some true∧
  CO Tp 219=some .u64∧
  Dl Tp 219=false∧
  (Tryz.prog.underlying 9).isSome=true:=
 (by and_intros<;>kernel_rfl)
theorem Y5:CO Tp 260=some .i64∧fJ Tp 260=some true:=by
 refine⟨?_,?_⟩<;>kernel_rfl
def P3(l:List UInt8):AV:=if Ay l<18446744073709551616 then .tup [.v (.int .u64 (Ay l)),.v .nilIface]else .tup [.v (.int .u64 18446744073709551615),.ifc 260 (.v (.int .i64 1))]
set_option maxRecDepth 20000 in
theorem Qq(l:List UInt8)(h1:1≤l.length)(hl:l.length≤140737488351232)(hd:∀ j,j<l.length→A5 (Ar l j)=true):
  Ev Tp γ 223 [.v (.string ⟨l.toArray⟩),.v (.int .i64 10),.v (.int .i64 64)] (P3 l):=by
 refine Ev.of Tryz.func223 rfl ?_
 have hne:(l==([]:List UInt8))=false:=by
  cases l with
  |nil=>simp at h1
  |cons=>rfl
 have bR:IntKind.u64.wrap 64=64:=by rw[IL]<;>omega
 have wsh:IntKind.u64.wrap (1 * 2^min (Int.toNat 64) IntKind.u64.bits)=0:=by decide
 have wsh':IntKind.u64.wrap (1 * 2^min 64 IntKind.u64.bits)=0:=by decide
 have wm1:IntKind.u64.wrap (0-1)=18446744073709551615:=by decide
 have h100:((10:Int)==0)=false:=by decide
 have h640:((64:Int)==0)=false:=by decide
 simp only[Tryz.f223,R1,hne,bR,wsh',wm1,h100,h640,Ad,An,seval]
 (repeat' (first|(with_reducible refine aI ?_ ?_)|(first|(first|refine gF ?_ ?_|refine gT ?_ ?_|refine cI ?_ ?_|refine pI ?_ ?_)<;>intro h|(refine dI ?_;have h:=trivial))<;>simp only[h,R1,Y5,bR,wsh,wsh',wm1,h100,h640,Ad,An,Bv,Bf,seval]))
 all_goals try (((try simp only[ne_eq,beq_eq_false_iff_ne]at *)<;>(try omega));done)
 refine Ea.intro (fun j:Nat=>⟨⟨172,[(101,.v (.int .i64 j)),(100,.v (.int .i64 l.length)),(99,.own 0 0 l.length),(13,.v (.int .u64 (Ay (l.take j)))),(12,.v (.bool false)),(11,.v (.int .u64 18446744073709551615)),(10,.v (.int .u64 1844674407370955162)),(9,.v (.string ⟨l.toArray⟩)),(8,.v (.bool false)),(1,.v (.int .i64 10))],γ⟩,[⟨0,5,l.map Am⟩]⟩) (fun j=>j≤l.length∧Ay (l.take j)<18446744073709551616) (fun j=>l.length-j) 0 ?_ ⟨by omega,by simp[Ay,Hz]⟩ (fun j hj=>?_)
 ·simp only[Ad,seval]
  (repeat' (first|(with_reducible refine aI ?_ ?_)|(first|(first|refine gF ?_ ?_|refine gT ?_ ?_|refine cI ?_ ?_|refine pI ?_ ?_)<;>intro h|(refine dI ?_;have h:=trivial))<;>simp only[h,Ad,An,Bv,Bf,seval]))
  all_goals rfl
 ·have ea:∀ j,(l.getD j 0).toNat=Ar l j:=fun _=>rfl
  have ej:IntKind.i64.wrap ((j:Int)+1)=((j+1:Nat):Int):=by rw[A4]<;>omega
  have w10:IntKind.u64.wrap 10=10:=by rw[IL]<;>omega
  have v10:IntKind.u8.wrap 10=10:=by rw[jI]<;>omega
  by_cases hjl:j<l.length
  ·have hdj:48≤Ar l j∧Ar l j≤57:=by simpa[A5]using hd j hjl
   have e1:IntKind.u8.wrap ((Ar l j:Int)-48)=((Ar l j-48:Nat):Int):=by rw[jI]<;>omega
   have e2:IntKind.u64.wrap ((Ar l j-48:Nat):Int)=((Ar l j-48:Nat):Int):=by rw[IL]<;>omega
   have hsn:Ay (l.take (j+1))=10 * Ay (l.take j)+(Ar l j-48):=by rw[PA hjl,Pz];rfl
   have hmo:=PW l (j+1);have h95:((Ar l j:Int)==95)=false:=by simp;omega
   by_cases hc:Ay (l.take j)<1844674407370955162
   ·have e5:IntKind.u64.wrap ((Ay (l.take j):Int) * 10)=((Ay (l.take j) * 10:Nat):Int):=by rw[IL]<;>omega
    by_cases ho:Ay (l.take (j+1))<18446744073709551616
    ·have e6:IntKind.u64.wrap (((Ay (l.take j) * 10:Nat):Int)+((Ar l j-48:Nat):Int))=((Ay (l.take (j+1)):Nat):Int):=by rw[IL]<;>omega
     simp only[Ad,seval]
     (repeat' (first|(with_reducible refine aI ?_ ?_)|(first|(first|refine gF ?_ ?_|refine gT ?_ ?_|refine cI ?_ ?_|refine pI ?_ ?_)<;>intro h|(refine dI ?_;have h:=trivial))<;>simp only[h,R1,ea,e1,e2,w10,v10,h95,e5,e6,Ad,An,Y5,Bv,Bf,seval]))
     all_goals try (((try simp only[decide_eq_true_eq,decide_eq_false_iff_not,ne_eq,beq_eq_false_iff_ne]at *)<;>(try omega));done)
     refine Cg.intro (j+1) ⟨by omega,ho⟩ ?_ (by omega);simp only[ej,Ad,seval]
     (repeat' (first|(with_reducible refine aI ?_ ?_)|(first|(first|refine gF ?_ ?_|refine gT ?_ ?_|refine cI ?_ ?_|refine pI ?_ ?_)<;>intro h|(refine dI ?_;have h:=trivial))<;>simp only[h,Ad,An,Bv,Bf,seval]))
     all_goals rfl
    ·have e6:IntKind.u64.wrap (((Ay (l.take j) * 10:Nat):Int)+((Ar l j-48:Nat):Int))=((Ay (l.take (j+1))-18446744073709551616:Nat):Int):=by
      have:(((Ay (l.take j) * 10:Nat):Int)+((Ar l j-48:Nat):Int))=((Ay (l.take (j+1)):Nat):Int):=by omega
      rw[this];show ((Ay (l.take (j+1)):Nat):Int)%18446744073709551616=_
      omega
     simp only[Ad,seval]
     (repeat' (first|(with_reducible refine aI ?_ ?_)|(first|(first|refine gF ?_ ?_|refine gT ?_ ?_|refine cI ?_ ?_|refine pI ?_ ?_)<;>intro h|(refine dI ?_;have h:=trivial))<;>simp only[h,R1,ea,e1,e2,w10,v10,h95,e5,e6,Ad,An,Y5,Bv,Bf,seval]))
     all_goals try (((try simp only[decide_eq_true_eq,decide_eq_false_iff_not,ne_eq,beq_eq_false_iff_ne]at *)<;>(try omega));done)
     all_goals (rw[P3,if_neg (by omega)];simp only[Ad])
   ·simp only[Ad,seval]
    (repeat' (first|(with_reducible refine aI ?_ ?_)|(first|(first|refine gF ?_ ?_|refine gT ?_ ?_|refine cI ?_ ?_|refine pI ?_ ?_)<;>intro h|(refine dI ?_;have h:=trivial))<;>simp only[h,R1,ea,e1,e2,w10,v10,h95,Ad,An,Y5,Bv,Bf,seval]))
    all_goals try (((try simp only[decide_eq_true_eq,decide_eq_false_iff_not,ne_eq,beq_eq_false_iff_ne]at *)<;>(try omega));done)
    all_goals (rw[P3,if_neg (by omega)];simp only[Ad])
  ·have hjn:j=l.length:=by omega
   have et:l.take j=l:=by rw[hjn,List.take_length]
   rw[et]at hj⊢;simp only[Ad,seval]
   (repeat' (first|(with_reducible refine aI ?_ ?_)|(first|(first|refine gF ?_ ?_|refine gT ?_ ?_|refine cI ?_ ?_|refine pI ?_ ?_)<;>intro h|(refine dI ?_;have h:=trivial))<;>simp only[h,Ad,An,Bv,Bf,seval]))
   all_goals try (((try simp only[decide_eq_true_eq,decide_eq_false_iff_not,beq_iff_eq,ne_eq,beq_eq_false_iff_ne]at *)<;>(try omega));done)
   rw[P3,if_pos hj.2];simp only[Ad]
end Go.Proofs.YtlobiioioicmhaaGreatDoor
namespace Go.Proofs
open Go.Shelf
def Tryz.lays144_ren:Go.Shelf.Ren:=⟨fun|144=>281|143=>298|219=>219|217=>218|225=>258|224=>259|267=>260|266=>257|314=>294|n=>n,fun|9=>9|4=>4|3=>3|5=>5|46=>219|146=>304|51=>289|n=>n,fun|1=>1|n=>n⟩
theorem Tryz.lays144:Go.Proofs.Lays.n144 Tryz.prog Tryz.lays144_ren:={
 mixed:=by kernel_rfl
 f143:=Tryz.func298.trans (congrArg some (by kernel_rfl))
 f144:=Tryz.func281.trans (congrArg some (by kernel_rfl))
 f217:=Tryz.func218.trans (congrArg some (by kernel_rfl))
 f219:=Tryz.func219.trans (congrArg some (by kernel_rfl))
 f224:=Tryz.func259.trans (congrArg some (by kernel_rfl))
 f225:=Tryz.func258.trans (congrArg some (by kernel_rfl))
 f266:=Tryz.func257.trans (congrArg some (by kernel_rfl))
 f267:=Tryz.func260.trans (congrArg some (by kernel_rfl))
 f314:=Tryz.func294.trans (congrArg some (by kernel_rfl))
 t3:=Tryz.underlying3
 a3:=Tryz.isAgg3
 z3:=Tryz.sizeOf3
 v3:=Tryz.zeroValue3
 t4:=Tryz.underlying4
 a4:=Tryz.isAgg4
 z4:=Tryz.sizeOf4
 v4:=Tryz.zeroValue4
 t5:=Tryz.underlying5
 a5:=Tryz.isAgg5
 z5:=Tryz.sizeOf5
 v5:=Tryz.zeroValue5
 t9:=Tryz.underlying9
 a9:=Tryz.isAgg9
 z9:=Tryz.sizeOf9
 v9:=Tryz.zeroValue9
 t46:=Tryz.underlying219
 a46:=Tryz.isAgg219
 z46:=Tryz.sizeOf219
 v46:=Tryz.zeroValue219
 t51:=Tryz.underlying289
 a51:=Tryz.isAgg289
 z51:=Tryz.sizeOf289
 v51:=Tryz.zeroValue289
 t146:=Tryz.underlying304
 a146:=Tryz.isAgg304
 z146:=Tryz.sizeOf304
 v146:=Tryz.zeroValue304
 g1:=by kernel_rfl }
open Go.RowKit Go.Lib in
theorem Tryz.strings_Contains(s sub:ByteArray)(m:Int)(w:World)(hs:s.size<4294967281)(hm:w.cell? ⟨1,0,none⟩=some (.int .i64 m)):
  Calls Tryz.prog 281 #[.string s,.string sub] w fun e w'=>e=.returned (.bool (Lib.contains s.data.toList sub.data.toList))∧w'=w:=Any.strings_Contains Tryz.lays144 s sub m w hs hm
end Go.Proofs
namespace Go.Proofs.YtlobiioioicmhaaGreatDoor
open _root_.Bool renaming not_true→Bv,not_false→Bf
open _root_.List renaming getElem?_eq_none→Bq,length_take→Bh
open _root_.Nat renaming le_refl→BL,zero_le→BN
open Go.Proofs.Tryz renaming prog→Tp
open Go Go.Ev
set_option maxRecDepth 20000
variable {γ:List (Nat×AV)}
def Hq:List UInt8→List UInt8→Bool
 |[],sub=>sub.isEmpty
 |b::l,sub=>sub.isPrefixOf (b::l) || Hq l sub
theorem M4(s sub:List UInt8):Lib.contains s sub=Hq s sub:=by
 unfold Lib.contains
 induction s with
 |nil=>unfold Lib.index Hq;cases sub.isEmpty<;>rfl
 |cons b l ih=>
  unfold Lib.index Hq;have hg:=Lib.index_ge l sub;rw[←ih];cases sub.isPrefixOf (b::l)with
  |true=>rfl
  |false=>
   simp only[Bool.false_eq_true,if_false,Bool.false_or]
   by_cases h:Lib.index l sub = -1
   ·simp[h]
   ·have:¬(Lib.index l sub == -1)=true:=by simpa using h
    rw[if_neg this];have h1:0≤Lib.index l sub:=by omega
    have h2:0≤Lib.index l sub+1:=by omega
    simp[h1,h2]
theorem Sn(m:Int)(hγ:Go.Ev.look γ 1=AV.ela false [.v (.int .i64 m)])(s sub:ByteArray)(hs:s.size<4294967281):Ev Tp γ 281 [.v (.string s),.v (.string sub)] (.v (.bool (Hq s.data.toList sub.data.toList))):=by
 intro G B w vs hG hg hr;have hm:=(hg 1).2;rw[hγ]at hm;simp only[rel,B5,Cx.shut]at hm;obtain⟨r,off,e1,_,⟨u,hc,rfl⟩,_⟩:=hm;cases e1;simp only[Aw,rel]at hr;obtain⟨u1,us,e1,rfl,u2,us2,rfl,rfl,rfl⟩:=hr;obtain rfl:vs = #[.string s,.string sub]:=by cases vs;simp_all
 refine (Go.Proofs.Tryz.strings_Contains s sub m w hs hc).mono ?_
 rintro e w' ⟨rfl,rfl⟩
 refine⟨_,rfl,?_,Go.RowKit.Below.refl _ _⟩;rw[M4];simp only[rel]
theorem b75:Ak Tp 281:=⟨_,Tryz.func281,by kernel_rfl,by kernel_rfl⟩
def Q4:List UInt8:=[61,61,32,33,61,32,60,61,32,62,61,32,38,38,32,124,124,32,45,62]
def Uw:List UInt8:=[40,41,123,125,44,59,58,46,38,43,45,42,47,37,60,62,33,61,95]
def C6(l:List UInt8):Nat:=if 1<l.length∧Ar l 0≠32∧Ar l 1≠32∧Hq Q4 (l.take 2)=true then 2 else if 0≤Lib.indexByte Uw (Ar l 0).toUInt8 then 1 else 0
def Mh(l:List UInt8):AV:=if C6 l=0 then AM 0 [] 0 f0 0 0 else AM 5 (l.take (C6 l)) 0 f0 0 (C6 l)
set_option maxRecDepth 20000 in
theorem UY(m:Int)(hγ:Go.Ev.look γ 1=AV.ela false [.v (.int .i64 m)])(b:Bool)(l:List UInt8)(h1:1≤l.length)(hl:l.length≤140737488355328):Ev Tp γ 244 [.sl b l.length l.length (l.map Am)] (Mh l):=by
 refine Ev.of Tryz.func244 rfl ?_;have ea:∀ j,(l.getD j 0).toNat=Ar l j:=fun _=>rfl
 have t0:Mg (l.map Am)=some (.v (.int .u8 (Ar l 0))):=by
  have:=Nw (l:=l) (n:=0) (by omega);rw[List.drop_zero]at this;rw[this];simp[Ar,List.getD,List.getElem?_eq_getElem (show 0<l.length by omega)]
 simp only[Tryz.f244,Ad,An,seval]
 (repeat' (first|(with_reducible refine aI ?_ ?_)|(first|(first|refine gF ?_ ?_|refine gT ?_ ?_|refine cI ?_ ?_|refine pI ?_ ?_)<;>intro h|(refine dI ?_;have h:=trivial))<;>simp only[h,ea,t0,Ad,An,Bv,Bf,seval]))
 all_goals try (((try simp only[decide_eq_true_eq,decide_eq_false_iff_not,bne_iff_ne,ne_eq,bne_eq_false_iff_eq]at *)<;>(try omega));done)
 all_goals try
  (refine Ag.intro b75 rfl (Sn m hγ _ _ (by decide)) ?_
   simp only[Ad,seval];refine BZ.intro (fun h=>?_) (fun h=>?_)<;>simp only[h,t0,Ad,An,seval])
 all_goals try refine⟨by omega,?_⟩
 all_goals try
  (refine Ag.intro b76 rfl (Gc _ _) ?_
   simp only[Ad,seval];refine BZ.intro (fun h=>?_) (fun h=>?_)<;>simp only[h,Ad,An,seval])
 all_goals try refine⟨by omega,?_⟩
 all_goals try refine⟨by omega,?_⟩
 all_goals ((try simp only[decide_eq_true_eq,decide_eq_false_iff_not,bne_iff_ne,ne_eq,bne_eq_false_iff_eq]at *)<;>(try omega))
 all_goals try refine⟨⟨by omega,by omega⟩,by omega,?_⟩
 all_goals first
  |(have hm:C6 l=2:=by rw[C6,if_pos ⟨by omega,by omega,by omega,by unfold Q4;assumption⟩]
    rw[Mh,hm,if_neg (by omega)];simp only[AM,f0,Ad];first|done|rfl)
  |(have hm:C6 l=1:=by rw[C6,if_neg (by rintro⟨g1,g2,g3,g4⟩;first|omega|(have g5:Hq Q4 (l.take 2)=false:=(by unfold Q4;assumption);rw[g5]at g4;cases g4)),if_pos (by unfold Uw;assumption)]
    rw[Mh,hm,if_neg (by omega)];simp only[AM,f0,Ad];first|done|rfl)
  |(have hm:C6 l=0:=by rw[C6,if_neg (by rintro⟨g1,g2,g3,g4⟩;first|omega|(have g5:Hq Q4 (l.take 2)=false:=(by unfold Q4;assumption);rw[g5]at g4;cases g4)),if_neg (by unfold Uw;assumption)]
    rw[Mh,hm,if_pos rfl];simp only[AM,f0,Ad];first|done|rfl)
  |trace_state
end Go.Proofs.YtlobiioioicmhaaGreatDoor
namespace Go.Proofs
open Go.Shelf
def Tryz.laysC245_ren:Go.Shelf.Ren:=⟨fun|245=>170|279=>227|280=>228|281=>229|282=>230|316=>267|171=>174|205=>268|243=>236|246=>171|283=>231|284=>232|285=>233|286=>234|129=>270|317=>269|318=>271|319=>272|320=>273|337=>295|338=>296|n=>n,fun|9=>9|3=>3|75=>169|167=>260|4=>4|168=>261|210=>285|37=>37|0=>0|127=>252|145=>308|143=>306|2=>2|171=>264|53=>176|5=>5|173=>267|212=>288|51=>289|20=>20|213=>290|46=>219|232=>312|233=>313|80=>140|n=>n,fun|15=>2|16=>3|17=>4|18=>5|19=>6|n=>n⟩
theorem Tryz.laysC245:Go.Proofs.LaysC.n245 Tryz.prog Tryz.laysC245_ren:={
 mixed:=by kernel_rfl
 f129:=Tryz.func270.trans (congrArg some (by kernel_rfl))
 f171:=Tryz.func174.trans (congrArg some (by kernel_rfl))
 f205:=Tryz.func268.trans (congrArg some (by kernel_rfl))
 f243:=Tryz.func236.trans (congrArg some (by kernel_rfl))
 f245:=Tryz.func170.trans (congrArg some (by kernel_rfl))
 f246:=Tryz.func171.trans (congrArg some (by kernel_rfl))
 f279:=Tryz.func227.trans (congrArg some (by kernel_rfl))
 f280:=Tryz.func228.trans (congrArg some (by kernel_rfl))
 f281:=Tryz.func229.trans (congrArg some (by kernel_rfl))
 f282:=Tryz.func230.trans (congrArg some (by kernel_rfl))
 f283:=Tryz.func231.trans (congrArg some (by kernel_rfl))
 f284:=Tryz.func232.trans (congrArg some (by kernel_rfl))
 f285:=Tryz.func233.trans (congrArg some (by kernel_rfl))
 f286:=Tryz.func234.trans (congrArg some (by kernel_rfl))
 f316:=Tryz.func267.trans (congrArg some (by kernel_rfl))
 f317:=Tryz.func269.trans (congrArg some (by kernel_rfl))
 f318:=Tryz.func271.trans (congrArg some (by kernel_rfl))
 f319:=Tryz.func272.trans (congrArg some (by kernel_rfl))
 f320:=Tryz.func273.trans (congrArg some (by kernel_rfl))
 f337:=Tryz.func295.trans (congrArg some (by kernel_rfl))
 f338:=Tryz.func296.trans (congrArg some (by kernel_rfl))
 t0:=Tryz.underlying0
 a0:=Tryz.isAgg0
 z0:=Tryz.sizeOf0
 v0:=Tryz.zeroValue0
 t2:=Tryz.underlying2
 a2:=Tryz.isAgg2
 z2:=Tryz.sizeOf2
 v2:=Tryz.zeroValue2
 t3:=Tryz.underlying3
 a3:=Tryz.isAgg3
 z3:=Tryz.sizeOf3
 v3:=Tryz.zeroValue3
 t4:=Tryz.underlying4
 a4:=Tryz.isAgg4
 z4:=Tryz.sizeOf4
 v4:=Tryz.zeroValue4
 t5:=Tryz.underlying5
 a5:=Tryz.isAgg5
 z5:=Tryz.sizeOf5
 v5:=Tryz.zeroValue5
 t9:=Tryz.underlying9
 a9:=Tryz.isAgg9
 z9:=Tryz.sizeOf9
 v9:=Tryz.zeroValue9
 t20:=Tryz.underlying20
 a20:=Tryz.isAgg20
 z20:=Tryz.sizeOf20
 v20:=Tryz.zeroValue20
 t37:=Tryz.underlying37
 a37:=Tryz.isAgg37
 z37:=Tryz.sizeOf37
 v37:=Tryz.zeroValue37
 t46:=Tryz.underlying219
 a46:=Tryz.isAgg219
 z46:=Tryz.sizeOf219
 v46:=Tryz.zeroValue219
 t51:=Tryz.underlying289
 a51:=Tryz.isAgg289
 z51:=Tryz.sizeOf289
 v51:=Tryz.zeroValue289
 t53:=Tryz.underlying176
 a53:=Tryz.isAgg176
 z53:=Tryz.sizeOf176
 v53:=Tryz.zeroValue176
 t75:=Tryz.underlying169
 a75:=Tryz.isAgg169
 z75:=Tryz.sizeOf169
 v75:=Tryz.zeroValue169
 t127:=Tryz.underlying252
 a127:=Tryz.isAgg252
 z127:=Tryz.sizeOf252
 v127:=Tryz.zeroValue252
 t143:=Tryz.underlying306
 a143:=Tryz.isAgg306
 z143:=Tryz.sizeOf306
 v143:=Tryz.zeroValue306
 t145:=Tryz.underlying308
 a145:=Tryz.isAgg308
 z145:=Tryz.sizeOf308
 v145:=Tryz.zeroValue308
 t167:=Tryz.underlying260
 a167:=Tryz.isAgg260
 z167:=Tryz.sizeOf260
 v167:=Tryz.zeroValue260
 t168:=Tryz.underlying261
 a168:=Tryz.isAgg261
 z168:=Tryz.sizeOf261
 v168:=Tryz.zeroValue261
 t171:=Tryz.underlying264
 a171:=Tryz.isAgg264
 z171:=Tryz.sizeOf264
 v171:=Tryz.zeroValue264
 t173:=Tryz.underlying267
 a173:=Tryz.isAgg267
 z173:=Tryz.sizeOf267
 v173:=Tryz.zeroValue267
 t210:=Tryz.underlying285
 a210:=Tryz.isAgg285
 z210:=Tryz.sizeOf285
 v210:=Tryz.zeroValue285
 t212:=Tryz.underlying288
 a212:=Tryz.isAgg288
 z212:=Tryz.sizeOf288
 v212:=Tryz.zeroValue288
 t213:=Tryz.underlying290
 a213:=Tryz.isAgg290
 z213:=Tryz.sizeOf290
 t232:=Tryz.underlying312
 a232:=Tryz.isAgg312
 z232:=Tryz.sizeOf312
 v232:=Tryz.zeroValue312
 t233:=Tryz.underlying313
 a233:=Tryz.isAgg313
 z233:=Tryz.sizeOf313
 v233:=Tryz.zeroValue313
 g15:=by kernel_rfl
 g16:=by kernel_rfl
 g17:=by kernel_rfl
 g18:=by kernel_rfl
 g19:=by kernel_rfl
 t80:=Tryz.underlying140
 a80:=Tryz.isAgg140
 z80:=Tryz.sizeOf140
 v80:=Tryz.zeroValue140
 i0:=by kernel_rfl
 i2:=by kernel_rfl
 i3:=by kernel_rfl
 i4:=by kernel_rfl
 i5:=by kernel_rfl
 i9:=by kernel_rfl
 i20:=by kernel_rfl
 i37:=by kernel_rfl
 i46:=by kernel_rfl
 i51:=by kernel_rfl
 i53:=by kernel_rfl
 i75:=by kernel_rfl
 i80:=by kernel_rfl
 i127:=by kernel_rfl
 i143:=by kernel_rfl
 i145:=by kernel_rfl
 i167:=by kernel_rfl
 i168:=by kernel_rfl
 i171:=by kernel_rfl
 i173:=by kernel_rfl
 i210:=by kernel_rfl
 i212:=by kernel_rfl
 i232:=by kernel_rfl
 i233:=by kernel_rfl
 m15:=by kernel_rfl
 m16:=by kernel_rfl
 m17:=by kernel_rfl
 m18:=by kernel_rfl
 m19:=by kernel_rfl
 c0:=by kernel_rfl
 c2:=by kernel_rfl
 c3:=by kernel_rfl
 c4:=by kernel_rfl
 c5:=by kernel_rfl
 c9:=by kernel_rfl
 c20:=by kernel_rfl
 c37:=by kernel_rfl
 c46:=by kernel_rfl
 c51:=by kernel_rfl
 c53:=by kernel_rfl
 c75:=by kernel_rfl
 c80:=by kernel_rfl
 c127:=by kernel_rfl
 c143:=by kernel_rfl
 c145:=by kernel_rfl
 c167:=by kernel_rfl
 c168:=by kernel_rfl
 c171:=by kernel_rfl
 c173:=by kernel_rfl
 c210:=by kernel_rfl
 c212:=by kernel_rfl
 c213:=by kernel_rfl
 c232:=by kernel_rfl
 c233:=by kernel_rfl }
end Go.Proofs
namespace Go.Proofs.YtlobiioioicmhaaGreatDoor
open _root_.Bool renaming not_true→Bv,not_false→Bf
open _root_.List renaming getElem?_eq_none→Bq,length_take→Bh
open _root_.Nat renaming le_refl→BL,zero_le→BN
open Go.Proofs.Tryz renaming prog→Tp
open Go Go.Ev
set_option maxRecDepth 20000
variable {γ:List (Nat×AV)}
def Gl(γ:List (Nat×AV)):Prop:=(∃ m,Go.Ev.look γ 1=AV.ela false [AV.v (.int .i64 m)])∧∃ te pe,Go.Ev.look γ 3=AV.ela false [AV.v (.iface te pe)]
theorem Ve(hγ:Gl γ)(fn s:ByteArray)(hs:s.size≤281474976710656)(b n:Int):Ev Tp γ 170 [.v (.string fn),.v (.string s),.v (.int .i64 b),.v (.int .i64 n),.ifc 260 (.v (.int .i64 1))] (.ifc 261 .bad):=by
 intro G B w vs hG hg hr;obtain⟨te,pe,h4⟩:=hγ.2;have hm:=(hg 3).2;rw[h4]at hm;simp only[rel,B5,Cx.shut]at hm;obtain⟨r,off,e1,_,⟨u,hc,rfl⟩,_⟩:=hm;cases e1;simp only[Aw,rel]at hr;obtain⟨u1,us,e1,rfl,u2,us2,rfl,rfl,u3,us3,rfl,rfl,u4,us4,rfl,rfl,u5,us5,rfl,⟨y,rfl,rfl⟩,rfl⟩:=hr;obtain rfl:vs = #[.string fn,.string s,.int .i64 b,.int .i64 n,.iface 260 (.int .i64 1)]:=by cases vs;simp_all
 refine (Any.strconv_toError_range Go.Proofs.Tryz.laysC245 fn s b n (.iface te pe) w hs hc (.inr ⟨_,_,rfl⟩)).mono ?_
 rintro e w' ⟨N,rfl,_,_,hb⟩
 refine⟨_,rfl,?_,hb⟩;simp only[rel];exact⟨_,rfl,trivial⟩
def XX(l:List UInt8):AV:=if Ay l<9223372036854775808 then .tup [.v (.int .i64 (Ay l)),.v .nilIface]else .tup [.v (.int .i64 9223372036854775807),.ifc 260 (.v (.int .i64 1))]
theorem b109:Ak Tp 223:=⟨_,Tryz.func223,by kernel_rfl,by kernel_rfl⟩
theorem b90:Ak Tp 169:=⟨_,Tryz.func169,by kernel_rfl,by kernel_rfl⟩
theorem b91:Ak Tp 170:=⟨_,Tryz.func170,by kernel_rfl,by kernel_rfl⟩
theorem b59:Ak Tp 100:=⟨_,Tryz.func100,by kernel_rfl,by kernel_rfl⟩
set_option maxRecDepth 20000 in
theorem Tm(l:List UInt8)(h1:1≤l.length)(hl:l.length≤140737488351232)(hd:∀ j,j<l.length→A5 (Ar l j)=true):
  Ev Tp γ 169 [.v (.string ⟨l.toArray⟩),.v (.int .i64 10),.v (.int .i64 64)] (XX l):=by
 refine Ev.of Tryz.func169 rfl ?_
 have hne:(l==([]:List UInt8))=false:=by
  cases l with
  |nil=>simp at h1
  |cons=>rfl
 have hd0:48≤Ar l 0∧Ar l 0≤57:=by simpa[A5]using hd 0 (by omega)
 have ea:∀ j,(l.getD j 0).toNat=Ar l j:=fun _=>rfl
 have n43:((Ar l 0:Int)==43)=false:=by simp;omega
 have n45:((Ar l 0:Int)==45)=false:=by simp;omega
 have h640:((64:Int)==0)=false:=by decide
 have w63:IntKind.u64.wrap 63=63:=by rw[IL]<;>omega
 have w631:IntKind.i64.wrap (64-1)=63:=by decide
 have wsh:IntKind.u64.wrap (1 * 2^min (Int.toNat 63) IntKind.u64.bits)=9223372036854775808:=by decide
 have wsh':IntKind.u64.wrap (1 * 2^min 63 IntKind.u64.bits)=9223372036854775808:=by decide
 have wm1:IntKind.u64.wrap (9223372036854775808-1)=9223372036854775807:=by decide
 have wm2:IntKind.i64.wrap 9223372036854775807=9223372036854775807:=by decide
 simp only[Tryz.f169,hne,ea,n43,n45,Ad,An,Nat.reduceAdd,Nat.reduceSub,Nat.reduceLT,Nat.reduceEqDiff,reduceCtorEq,Int.reduceLE]
 (repeat' (first|(with_reducible refine aI ?_ ?_)|(first|(first|refine gF ?_ ?_|refine gT ?_ ?_|refine cI ?_ ?_|refine pI ?_ ?_)<;>intro h|(refine dI ?_;have h:=trivial))<;>simp only[h,R1,Y5,hne,ea,n43,n45,Ad,An,Bv,Bf,Nat.reduceAdd,Nat.reduceSub,Nat.reduceMul,Nat.reduceLT,Nat.reduceLeDiff,Nat.reduceEqDiff,reduceCtorEq,List.reduceReplicate,Int.reduceToNat,Int.reduceLE,Int.reduceLT]))
 all_goals try (((try simp only[ne_eq,beq_eq_false_iff_ne]at *)<;>(try omega));done)
 refine Ag.intro b109 rfl (Qq l h1 hl hd) ?_
 by_cases h64:Ay l<18446744073709551616
 ·rw[P3,if_pos h64]
  by_cases h63:Ay l<9223372036854775808
  ·have e1:IntKind.i64.wrap (Ay l:Int)=Ay l:=by rw[A4]<;>omega
   have e2:(decide (9223372036854775808≤(Ay l:Int)))=false:=by simp;omega
   rw[XX,if_pos h63];simp only[R1,h640,w63,w631,wsh',e1,e2,Ad,An,Bv,Bf,Nat.reduceLT,Nat.reduceEqDiff,reduceCtorEq,Int.reduceToNat,Int.reduceLE]
   (repeat' (first|(with_reducible refine aI ?_ ?_)|(first|(first|refine gF ?_ ?_|refine gT ?_ ?_|refine cI ?_ ?_|refine pI ?_ ?_)<;>intro h|(refine dI ?_;have h:=trivial))<;>simp only[h,R1,Y5,hne,ea,h640,w63,w631,wsh,wsh',wm1,wm2,e1,e2,Ad,An,Bv,Bf,Nat.reduceAdd,Nat.reduceSub,Nat.reduceMul,Nat.reduceLT,Nat.reduceLeDiff,Nat.reduceEqDiff,reduceCtorEq,List.reduceReplicate,Int.reduceToNat,Int.reduceLE,Int.reduceLT]))
   all_goals try (((try simp only[decide_eq_true_eq,decide_eq_false_iff_not,beq_iff_eq,bne_iff_ne,ne_eq,beq_eq_false_iff_ne,bne_eq_false_iff_eq]at *)<;>(try omega));done)
  ·have e2:(decide (9223372036854775808≤(Ay l:Int)))=true:=by simp;omega
   rw[XX,if_neg h63];simp only[R1,h640,w63,w631,wsh',wm1,wm2,e2,Ad,An,Bv,Bf,Nat.reduceLT,Nat.reduceEqDiff,reduceCtorEq,Int.reduceToNat,Int.reduceLE]
   (repeat' (first|(with_reducible refine aI ?_ ?_)|(first|(first|refine gF ?_ ?_|refine gT ?_ ?_|refine cI ?_ ?_|refine pI ?_ ?_)<;>intro h|(refine dI ?_;have h:=trivial))<;>simp only[h,R1,Y5,hne,ea,h640,w63,w631,wsh,wsh',wm1,wm2,e2,Ad,An,Bv,Bf,Nat.reduceAdd,Nat.reduceSub,Nat.reduceMul,Nat.reduceLT,Nat.reduceLeDiff,Nat.reduceEqDiff,reduceCtorEq,List.reduceReplicate,Int.reduceToNat,Int.reduceLE,Int.reduceLT]))
   all_goals try (((try simp only[decide_eq_true_eq,decide_eq_false_iff_not,beq_iff_eq,bne_iff_ne,ne_eq,beq_eq_false_iff_ne,bne_eq_false_iff_eq]at *)<;>(try omega));done)
 ·rw[P3,if_neg h64,XX,if_neg (by omega)];simp only[R1,Y5,h640,w63,w631,wsh',wm1,wm2,Ad,An,Bv,Bf,Nat.reduceLT,Nat.reduceEqDiff,reduceCtorEq,Int.reduceToNat,Int.reduceLE]
  (repeat' (first|(with_reducible refine aI ?_ ?_)|(first|(first|refine gF ?_ ?_|refine gT ?_ ?_|refine cI ?_ ?_|refine pI ?_ ?_)<;>intro h|(refine dI ?_;have h:=trivial))<;>simp only[h,R1,Y5,hne,ea,h640,w63,w631,wsh,wsh',wm1,wm2,Ad,An,Bv,Bf,Nat.reduceAdd,Nat.reduceSub,Nat.reduceMul,Nat.reduceLT,Nat.reduceLeDiff,Nat.reduceEqDiff,reduceCtorEq,List.reduceReplicate,Int.reduceToNat,Int.reduceLE,Int.reduceLT]))
  all_goals try (((try simp only[decide_eq_true_eq,decide_eq_false_iff_not,beq_iff_eq,bne_iff_ne,ne_eq,beq_eq_false_iff_ne,bne_eq_false_iff_eq]at *)<;>(try omega));done)
def MV(l:List UInt8):AV:=if Ay l<9223372036854775808 then .tup [.v (.int .i64 (Ay l)),.v .nilIface]else .tup [.v (.int .i64 9223372036854775807),.ifc 261 .bad]
set_option maxRecDepth 20000 in
theorem OH(hγ:Gl γ)(l:List UInt8)(h1:1≤l.length)(hl:l.length≤140737488351232)(hd:∀ j,j<l.length→A5 (Ar l j)=true):
  Ev Tp γ 100 [.v (.string ⟨l.toArray⟩),.v (.int .i64 10),.v (.int .i64 64)] (MV l):=by
 refine Ev.of Tryz.func100 rfl ?_;simp only[Tryz.f100,Ad,Nat.reduceAdd,Nat.reduceSub,Nat.reduceLT,Nat.reduceEqDiff,reduceCtorEq];refine Ag.intro b90 rfl (Tm l h1 hl hd) ?_
 by_cases h63:Ay l<9223372036854775808
 ·rw[XX,if_pos h63,MV,if_pos h63];simp only[R1,Ad,Bv,Nat.reduceLT,Nat.reduceEqDiff,reduceCtorEq]
  (repeat' (first|(with_reducible refine aI ?_ ?_)|(first|(first|refine gF ?_ ?_|refine gT ?_ ?_|refine cI ?_ ?_|refine pI ?_ ?_)<;>intro h|(refine dI ?_;have h:=trivial))<;>simp only[h,R1,Y5,Ad,An,Bv,Bf,Nat.reduceAdd,Nat.reduceSub,Nat.reduceMul,Nat.reduceLT,Nat.reduceLeDiff,Nat.reduceEqDiff,reduceCtorEq,List.reduceReplicate,Int.reduceToNat,Int.reduceLE,Int.reduceLT]))
  all_goals try (((try simp only[decide_eq_true_eq,decide_eq_false_iff_not,beq_iff_eq,bne_iff_ne,ne_eq,beq_eq_false_iff_ne,bne_eq_false_iff_eq]at *)<;>(try omega));done)
 ·rw[XX,if_neg h63,MV,if_neg h63];simp only[R1,Ad,Bf,Nat.reduceLT,Nat.reduceEqDiff,reduceCtorEq];refine Ag.intro b91 rfl (Ve hγ _ _ (by show l.toArray.size≤_;rw[List.size_toArray];omega) _ _) ?_;simp only[Ad,Nat.reduceLT,Nat.reduceEqDiff,reduceCtorEq]
  (repeat' (first|(with_reducible refine aI ?_ ?_)|(first|(first|refine gF ?_ ?_|refine gT ?_ ?_|refine cI ?_ ?_|refine pI ?_ ?_)<;>intro h|(refine dI ?_;have h:=trivial))<;>simp only[h,R1,Y5,Ad,An,Bv,Bf,Nat.reduceAdd,Nat.reduceSub,Nat.reduceMul,Nat.reduceLT,Nat.reduceLeDiff,Nat.reduceEqDiff,reduceCtorEq,List.reduceReplicate,Int.reduceToNat,Int.reduceLE,Int.reduceLT]))
  all_goals try (((try simp only[decide_eq_true_eq,decide_eq_false_iff_not,beq_iff_eq,bne_iff_ne,ne_eq,beq_eq_false_iff_ne,bne_eq_false_iff_eq]at *)<;>(try omega));done)
def XO(l:List UInt8)(most:Int):AV:=if 1<l.length∧Ar l 0=48 then .tup [.v (.int .i64 0),.v (.bool false)]else if Ay l<9223372036854775808 then .tup [.v (.int .i64 (Ay l)),.v (.bool (decide ((Ay l:Int)≤most)))]else .tup [.v (.int .i64 9223372036854775807),.v (.bool false)]
set_option maxRecDepth 20000 in
theorem OE(hγ:Gl γ)(b:Bool)(l:List UInt8)(most:Int)(h1:1≤l.length)(hl:l.length≤140737488351232)(hd:∀ j,j<l.length→A5 (Ar l j)=true):
  Ev Tp γ 279 [.sl b l.length l.length (l.map Am),.v (.int .i64 most)] (XO l most):=by
 refine Ev.of Tryz.func279 rfl ?_
 have t0:Mg (l.map Am)=some (.v (.int .u8 (Ar l 0))):=by
  have:=Nw (l:=l) (n:=0) (by omega);rw[List.drop_zero]at this;rw[this];simp[Ar,List.getD,List.getElem?_eq_getElem (show 0<l.length by omega)]
 simp only[Tryz.f279,Ad,An,Nat.reduceAdd,Nat.reduceSub,Nat.reduceLT,Nat.reduceEqDiff,reduceCtorEq]
 (repeat' (first|(with_reducible refine aI ?_ ?_)|(first|(first|refine gF ?_ ?_|refine gT ?_ ?_|refine cI ?_ ?_|refine pI ?_ ?_)<;>intro h|(refine dI ?_;have h:=trivial))<;>simp only[h,t0,Ad,An,Nat.reduceLT,Nat.reduceEqDiff,reduceCtorEq,Int.reduceLE,Bv,Bf,Nat.reduceAdd,Nat.reduceSub,Nat.reduceMul,Nat.reduceLeDiff,List.reduceReplicate,Int.reduceToNat,Int.reduceLT]))
 all_goals try (((try simp only[decide_eq_true_eq,decide_eq_false_iff_not,beq_iff_eq,ne_eq,beq_eq_false_iff_ne]at *)<;>(try omega));done)
 ·((try simp only[decide_eq_true_eq,beq_iff_eq]at *)<;>(try omega))
  rw[XO,if_pos (by omega)];simp only[Ad]
 all_goals
  (have hz:¬(1<l.length∧Ar l 0=48):=by ((try simp only[decide_eq_true_eq,decide_eq_false_iff_not,ne_eq,beq_eq_false_iff_ne]at *)<;>(try omega))
   refine Ag.intro b59 rfl (OH hγ l h1 hl hd) ?_
   by_cases h63:Ay l<9223372036854775808
   ·rw[MV,if_pos h63,XO,if_neg hz,if_pos h63];simp only[R1,Ad,Nat.reduceLT,Nat.reduceEqDiff,reduceCtorEq]
   ·rw[MV,if_neg h63,XO,if_neg hz,if_neg h63];simp only[R1,Ad,Nat.reduceLT,Nat.reduceEqDiff,reduceCtorEq])
end Go.Proofs.YtlobiioioicmhaaGreatDoor
