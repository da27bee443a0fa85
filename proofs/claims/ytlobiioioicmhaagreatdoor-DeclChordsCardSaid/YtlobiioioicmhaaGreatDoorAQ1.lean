/- A part of the proof. -/
import Derived.Test.YtlobiioioicmhaaGreatDoorAU7
import Derived.Test.YtlobiioioicmhaaGreatDoorProg
import Derived.KernelRfl
set_option linter.all false
set_option maxHeartbeats 8000000
namespace Go.Proofs.YtlobiioioicmhaaGreatDoor
open _root_.Bool renaming not_true→Bv,not_false→Bf
open _root_.List renaming length_append→Bp,getElem?_eq_none→Bq,length_drop→Bd,length_cons→BC,length_nil→BD
open Go.Proofs.Tryz renaming prog→Tp
open Go Go.Ev
set_option maxRecDepth 20000
theorem An:AW Tp 2=some false∧
  AW Tp 37=some false∧
  AW Tp 3=some false∧
  AW Tp 22=some false∧
  AW Tp 53=some true∧
  AW Tp 48=some false∧
  AW Tp 5=some false∧
  AW Tp 54=some true∧
  AW Tp 9=some false∧
  Ic Tp 37 37=some (5,1,1)∧
  Ic Tp 47 47=some (54,6,56)∧
  Ic Tp 48 48=some (53,6,56)∧
  A5 Tp 37=some 5∧
  A5 Tp 47=some 54∧
  A5 Tp 48=some 53∧
  Ak Tp 53 0=some (0,3)∧
  Ak Tp 53 1=some (1,9)∧
  Ak Tp 53 2=some (2,2)∧
  Ak Tp 53 3=some (3,22)∧
  Ak Tp 53 4=some (4,3)∧
  Ak Tp 53 5=some (5,3)∧
  Ak Tp 54 0=some (0,3)∧
  Ak Tp 54 1=some (1,9)∧
  Ak Tp 54 2=some (2,2)∧
  Ak Tp 54 3=some (3,22)∧
  Ak Tp 54 4=some (4,3)∧
  Ak Tp 54 5=some (5,3)∧
  J7 Tp 2=none∧
  J7 Tp 21=none∧
  J7 Tp 37=none∧
  J7 Tp 3=none∧
  J7 Tp 22=some .f64∧
  J7 Tp 176=none∧
  J7 Tp 5=none∧
  J7 Tp 9=none∧
  C9 Tp 2=some .i64∧
  C9 Tp 21=some .i32∧
  C9 Tp 37=none∧
  C9 Tp 3=some .i64∧
  C9 Tp 22=none∧
  C9 Tp 176=some .u64∧
  C9 Tp 5=some .u8∧
  C9 Tp 9=none∧
  MC Tp 37=some (5,1,[.v (.int .u8 0)])∧
  MC Tp 47=some (54,6,[.v (.int .i64 0),.v (.string ⟨#[]⟩),.v (.int .i64 0),.v (.float .f64 0),.v (.int .i64 0),.v (.int .i64 0)])∧
  MC Tp 48=some (53,6,[.v (.int .i64 0),.v (.string ⟨#[]⟩),.v (.int .i64 0),.v (.float .f64 0),.v (.int .i64 0),.v (.int .i64 0)])∧
  BR Tp 53=some [(0,1),(1,1),(2,1),(3,1),(4,1),(5,1)]∧
  BR Tp 54=some [(0,1),(1,1),(2,1),(3,1),(4,1),(5,1)]∧
  Ap Tp 2=some 1∧
  Ap Tp 26=some 1∧
  Ap Tp 3=some 1∧
  Ap Tp 22=some 1∧
  Ap Tp 53=some 6∧
  Ap Tp 48=some 1∧
  Ap Tp 5=some 1∧
  Ap Tp 54=some 6∧
  Ap Tp 9=some 1∧
  CU Tp 2=false∧
  CU Tp 21=false∧
  CU Tp 37=false∧
  CU Tp 3=false∧
  CU Tp 22=false∧
  CU Tp 176=false∧
  CU Tp 5=false∧
  CU Tp 9=true∧
  (Tryz.prog.underlying 2).isSome=true∧
  (Tryz.prog.underlying 21).isSome=true∧
  (Tryz.prog.underlying 37).isSome=true∧
  (Tryz.prog.underlying 3).isSome=true∧
  (Tryz.prog.underlying 176).isSome=true∧
  (Tryz.prog.underlying 5).isSome=true∧
  Hm Tp 26=some [.v (.int .i64 0)]∧
  Hm Tp 3=some [.v (.int .i64 0)]∧
  Hm Tp 53=some [.v (.int .i64 0),.v (.string ⟨#[]⟩),.v (.int .i64 0),.v (.float .f64 0),.v (.int .i64 0),.v (.int .i64 0)]∧
  Hm Tp 48=some [.v (.slice none 0 0)]∧
  Hm Tp 54=some [.v (.int .i64 0),.v (.string ⟨#[]⟩),.v (.int .i64 0),.v (.float .f64 0),.v (.int .i64 0),.v (.int .i64 0)]:=
 (by and_intros<;>kernel_rfl)
variable {γ:List (Nat×AV)}
def DU(n:Nat):Bool:=decide (97≤n∧n≤122∨65≤n∧n≤90)
def A0(n:Nat):Bool:=decide (48≤n∧n≤57)
def B6(n:Nat):Bool:=DU n || A0 n || decide (n=95)
theorem b45:Al Tp 239:=⟨_,Tryz.func239,by kernel_rfl,by kernel_rfl⟩
theorem iW:Al Tp 241:=⟨_,Tryz.func241,by kernel_rfl,by kernel_rfl⟩
theorem j7:Al Tp 275:=⟨_,Tryz.func275,by kernel_rfl,by kernel_rfl⟩
theorem V0:Al Tp 277:=⟨_,Tryz.func277,by kernel_rfl,by kernel_rfl⟩
theorem b70:Al Tp 276:=⟨_,Tryz.func276,by kernel_rfl,by kernel_rfl⟩
theorem lC:Al Tp 138:=⟨_,Tryz.func138,by kernel_rfl,by kernel_rfl⟩
theorem iV:Al Tp 139:=⟨_,Tryz.func139,by kernel_rfl,by kernel_rfl⟩
theorem dP:Al Tp 85:=⟨_,Tryz.func85,by kernel_rfl,by kernel_rfl⟩
theorem kQ:Al Tp 205:=⟨_,Tryz.func205,by kernel_rfl,by kernel_rfl⟩
theorem k8:Al Tp 251:=⟨_,Tryz.func251,by kernel_rfl,by kernel_rfl⟩
theorem HL(n:Nat):Ev Tp γ 239 [.v (.int .u8 n)] (.v (.bool (DU n))):=by
 refine Ev.of Tryz.func239 rfl ?_;simp only[Tryz.f239,Ad,seval]
 (repeat' (first|(with_reducible refine aI ?_ ?_)|(first|(first|refine gF ?_ ?_|refine gT ?_ ?_|refine cI ?_ ?_|refine pI ?_ ?_)<;>intro h|(refine dI ?_;have h:=trivial))<;>simp only[h,Ad,An,Bv,Bf,seval]))
 all_goals (((try simp only[decide_eq_true_eq,decide_eq_false_iff_not]at *)<;>(try omega))<;>simp only[DU,AV.v.injEq,Value.bool.injEq]<;>first|exact (decide_eq_true (by omega)).symm|exact (decide_eq_false (by omega)).symm|exact decide_eq_decide.2 (by omega))
theorem EA(n:Nat):Ev Tp γ 241 [.v (.int .u8 n)] (.v (.bool (A0 n))):=by
 refine Ev.of Tryz.func241 rfl ?_;simp only[Tryz.f241,Ad,seval]
 (repeat' (first|(with_reducible refine aI ?_ ?_)|(first|(first|refine gF ?_ ?_|refine gT ?_ ?_|refine cI ?_ ?_|refine pI ?_ ?_)<;>intro h|(refine dI ?_;have h:=trivial))<;>simp only[h,Ad,An,Bv,Bf,seval]))
 all_goals (((try simp only[decide_eq_true_eq,decide_eq_false_iff_not]at *)<;>(try omega))<;>simp only[A0,AV.v.injEq,Value.bool.injEq]<;>first|exact (decide_eq_true (by omega)).symm|exact (decide_eq_false (by omega)).symm|exact decide_eq_decide.2 (by omega))
theorem Gj(n:Nat):Ev Tp γ 138 [.v (.int .u8 n)] (.v (.bool (DU n))):=by
 refine Ev.of Tryz.func138 rfl ?_;simp only[Tryz.f138,Ad,seval]
 (repeat' (first|(with_reducible refine aI ?_ ?_)|(first|(first|refine gF ?_ ?_|refine gT ?_ ?_|refine cI ?_ ?_|refine pI ?_ ?_)<;>intro h|(refine dI ?_;have h:=trivial))<;>simp only[h,Ad,An,Bv,Bf,seval]))
 all_goals (((try simp only[decide_eq_true_eq,decide_eq_false_iff_not]at *)<;>(try omega))<;>simp only[DU,AV.v.injEq,Value.bool.injEq]<;>first|exact (decide_eq_true (by omega)).symm|exact (decide_eq_false (by omega)).symm|exact decide_eq_decide.2 (by omega))
theorem EC(n:Nat):Ev Tp γ 139 [.v (.int .u8 n)] (.v (.bool (A0 n))):=by
 refine Ev.of Tryz.func139 rfl ?_;simp only[Tryz.f139,Ad,seval]
 (repeat' (first|(with_reducible refine aI ?_ ?_)|(first|(first|refine gF ?_ ?_|refine gT ?_ ?_|refine cI ?_ ?_|refine pI ?_ ?_)<;>intro h|(refine dI ?_;have h:=trivial))<;>simp only[h,Ad,An,Bv,Bf,seval]))
 all_goals (((try simp only[decide_eq_true_eq,decide_eq_false_iff_not]at *)<;>(try omega))<;>simp only[A0,AV.v.injEq,Value.bool.injEq]<;>first|exact (decide_eq_true (by omega)).symm|exact (decide_eq_false (by omega)).symm|exact decide_eq_decide.2 (by omega))
theorem ES(n:Nat):Ev Tp γ 275 [.v (.int .u8 n)] (.v (.bool (B6 n))):=by
 refine Ev.of Tryz.func275 rfl ?_;simp only[Tryz.f275,Ad,seval];refine Ae.intro b45 rfl (HL n) ?_;simp only[Ad,seval];refine Cb.intro_f (fun h=>?_) (fun h=>?_)<;>simp only[h,Ad,seval]
 ·refine Ae.intro iW rfl (EA n) ?_;simp only[Ad,seval]
  (repeat' (first|(with_reducible refine aI ?_ ?_)|(first|(first|refine gF ?_ ?_|refine gT ?_ ?_|refine cI ?_ ?_|refine pI ?_ ?_)<;>intro h|(refine dI ?_;have h:=trivial))<;>simp only[h,Ad,An,Bv,Bf,seval]))
  all_goals (((try simp only[decide_eq_true_eq,decide_eq_false_iff_not,beq_iff_eq,bne_iff_ne,ne_eq,beq_eq_false_iff_ne,bne_eq_false_iff_eq]at *)<;>(try omega))<;>simp only[B6];simp[*]<;>first|(rw[Bool.eq_iff_iff];simp;omega)|omega)
 ·(repeat' (first|(with_reducible refine aI ?_ ?_)|(first|(first|refine gF ?_ ?_|refine gT ?_ ?_|refine cI ?_ ?_|refine pI ?_ ?_)<;>intro h|(refine dI ?_;have h:=trivial))<;>simp only[h,Ad,An,Bv,Bf,seval]))
  all_goals (((try simp only[decide_eq_true_eq,decide_eq_false_iff_not,beq_iff_eq,bne_iff_ne,ne_eq,beq_eq_false_iff_ne,bne_eq_false_iff_eq]at *)<;>(try omega))<;>simp only[B6];simp[*]<;>first|(rw[Bool.eq_iff_iff];simp;omega)|omega)
def Aq(l:List UInt8)(i:Nat):Nat:=(l.getD i 0).toNat
theorem D4(b:Bool)(l:List UInt8)(i:Nat):Ev Tp γ 277 [.sl b l.length l.length (l.map Ai),.v (.int .i64 i)] (.v (.int .u8 (Aq l i))):=by
 refine Ev.of Tryz.func277 rfl ?_;simp only[Tryz.f277,Ad,An,seval]
 (repeat' (first|(with_reducible refine aI ?_ ?_)|(first|(first|refine gF ?_ ?_|refine gT ?_ ?_|refine cI ?_ ?_|refine pI ?_ ?_)<;>intro h|(refine dI ?_;have h:=trivial))<;>simp only[h,Ad,An,Bv,Bf,seval]))
 all_goals (((try simp only[decide_eq_true_eq,decide_eq_false_iff_not]at *)<;>(try omega));try rfl)
 simp only[Aq,List.getD];rw[Bq (by omega)]
 rfl
def Ah(l:List UInt8)(i:Nat):Nat:=i+((l.drop i).takeWhile fun c=>A0 c.toNat).length
theorem C2{l:List UInt8}{i:Nat}(h:A0 (Aq l i)=true):Ah l i=Ah l (i+1)∧i<l.length:=by
 have hi:i<l.length:=by
  by_cases hi:i<l.length
  ·exact hi
  ·have e:Aq l i=0:=by simp only[Aq,List.getD];rw[Bq (by omega)];rfl
   rw[e]at h;exact absurd h (by decide)
 refine⟨?_,hi⟩;have e:l.drop i=l[i]::l.drop (i+1):=List.drop_eq_getElem_cons hi;have e2:Aq l i=l[i].toNat:=by simp[Aq,List.getD,hi]
 rw[e2]at h;unfold Ah;rw[e,List.takeWhile_cons,if_pos h];simp only[BC];omega
theorem EL{l:List UInt8}{i:Nat}(h:A0 (Aq l i)=false):Ah l i=i:=by
 unfold Ah
 by_cases hi:i<l.length
 ·have e:l.drop i=l[i]::l.drop (i+1):=List.drop_eq_getElem_cons hi;have e2:Aq l i=l[i].toNat:=by simp[Aq,List.getD,hi]
  rw[e2]at h;rw[e,List.takeWhile_cons,if_neg (by simp[h])];rfl
 ·rw[List.drop_eq_nil_of_le (by omega)];rfl
theorem JR(b:Bool)(l:List UInt8)(i:Nat)(hl:l.length≤140737488355328)(hi:i≤140737488355330):Ev Tp γ 276 [.sl b l.length l.length (l.map Ai),.v (.int .i64 i)] (.v (.int .i64 (Ah l i))):=by
 refine Ev.of Tryz.func276 rfl ?_;simp only[Tryz.f276,Ad,seval];refine Eg.intro (fun j:Nat=>⟨⟨12,[(0,.sl b l.length l.length (l.map Ai)),(1,.v (.int .i64 j))],γ⟩,[]⟩) (fun j=>j≤140737488355330∧Ah l j=Ah l i) (fun j=>l.length-j) i ?_ ⟨hi,rfl⟩ (fun j hj=>?_)
 ·simp only[Ad,seval]
 ·simp only[Ad,seval];refine Ae.intro V0 (by simp[A4,A6]) (D4 b l j) ?_;simp only[Ad,seval];refine Ae.intro iW rfl (EA _) ?_;simp only[Ad,seval];refine B5.intro (fun h=>?_) (fun h=>?_)<;>simp only[h,Ad,seval]
  ·have hs:=C2 h;have ew:IntKind.i64.wrap ((j:Int)+1)=((j+1:Nat):Int):=by rw[A7]<;>omega
   refine Cg.intro (j+1) ⟨by omega,by rw[←hs.1];exact hj.2⟩ ?_ (by omega);simp only[ew,Ad,seval]
  ·have hs:=EL h;rw[hs]at hj;rw[←hj.2]
def AE(p:Nat→Bool)(l:List UInt8)(i:Nat):Nat:=i+((l.drop i).takeWhile fun c=>p c.toNat).length
theorem HX{p:Nat→Bool}{l:List UInt8}{i:Nat}(hi:i<l.length)(h:p (l.getD i 0).toNat=true):AE p l i=AE p l (i+1):=by
 have e:l.drop i=l[i]::l.drop (i+1):=List.drop_eq_getElem_cons hi;have e2:l.getD i 0=l[i]:=by simp[List.getD,hi]
 rw[e2]at h;unfold AE;rw[e,List.takeWhile_cons,if_pos h];simp only[BC];omega
theorem Gh{p:Nat→Bool}{l:List UInt8}{i:Nat}(h:i<l.length→p (l.getD i 0).toNat=false):AE p l i=i:=by
 unfold AE
 by_cases hi:i<l.length
 ·have e:l.drop i=l[i]::l.drop (i+1):=List.drop_eq_getElem_cons hi;have e2:l.getD i 0=l[i]:=by simp[List.getD,hi]
  have h:=h hi;rw[e2]at h;rw[e,List.takeWhile_cons,if_neg (by simp[h])];rfl
 ·rw[List.drop_eq_nil_of_le (by omega)];rfl
theorem HV{p:Nat→Bool}{l:List UInt8}{i:Nat}(h:i≤l.length):i≤AE p l i∧AE p l i≤l.length:=by
 unfold AE;have:=(List.takeWhile_sublist (l:=l.drop i) (fun c=>p c.toNat)).length_le;rw[Bd]at this
 omega
theorem Ec(l:List UInt8)(i:Nat):Ah l i=AE A0 l i:=rfl
def AI(kind:Int)(text:List UInt8)(int:Int)(real:AV)(pos size:Int):AV:=
 .agg [.v (.int .i64 kind),.v (.string ⟨text.toArray⟩),.v (.int .i64 int),real,.v (.int .i64 pos),.v (.int .i64 size)]
def f0:AV:=.v (.float .f64 0)
set_option maxRecDepth 20000 in
theorem SH(b:Bool)(l:List UInt8)(hl:l.length≤140737488355328)(h1:1≤l.length):Ev Tp γ 240 [.sl b l.length l.length (l.map Ai)] (AI 1 (l.take (AE B6 l 1)) 0 f0 0 (AE B6 l 1:Nat)):=by
 refine Ev.of Tryz.func240 rfl ?_;simp only[Tryz.f240,Ad,An,Nat.reduceAdd,Nat.reduceSub,Nat.reduceLT];refine Eg.intro (fun j:Nat=>⟨⟨23,[(0,.sl b l.length l.length (l.map Ai)),(2,.ptr 0 0 0),(3,.v (.int .i64 j))],γ⟩,[⟨0,53,[.v (.int .i64 0),.v (.string ⟨#[]⟩),.v (.int .i64 0),.v (.float .f64 0),.v (.int .i64 0),.v (.int .i64 0)]⟩]⟩) (fun j=>j≤l.length∧AE B6 l j=AE B6 l 1) (fun j=>l.length-j) 1 ?_ ⟨h1,rfl⟩ (fun j hj=>?_)
 ·simp only[Ad,Nat.reduceEqDiff,reduceCtorEq]
  rfl
 ·have hstop:∀ (hs:j<l.length→B6 (l.getD j 0).toNat=false),AE B6 l 1=j:=fun hs=>hj.2.symm.trans (Gh hs)
  simp only[Ad,An,Nat.reduceLT,Nat.reduceEqDiff,reduceCtorEq]
  (repeat' (first|(with_reducible refine aI ?_ ?_)|(first|(first|refine gF ?_ ?_|refine gT ?_ ?_|refine cI ?_ ?_|refine pI ?_ ?_)<;>intro h|(refine dI ?_;have h:=trivial))<;>simp only[h,Ad,An,Nat.reduceAdd,Nat.reduceLT,Nat.reduceLeDiff,Nat.reduceEqDiff,reduceCtorEq,Bv,Bf,Nat.reduceSub,Nat.reduceMul,List.reduceReplicate,Int.reduceToNat,Int.reduceLE,Int.reduceLT]))
  all_goals try (((try simp only[decide_eq_true_eq,decide_eq_false_iff_not]at *)<;>(try omega));done)
  ·((try simp only[decide_eq_true_eq]at *)<;>(try omega))
   refine Ae.intro j7 rfl (ES _) ?_;simp only[Ad,Nat.reduceLT,Nat.reduceEqDiff,reduceCtorEq];refine B5.intro (fun h=>?_) (fun h=>?_)<;>simp only[h,Ad,An,Nat.reduceAdd,Nat.reduceLT,Nat.reduceLeDiff,Nat.reduceEqDiff,reduceCtorEq]
   ·have ew:IntKind.i64.wrap ((j:Int)+1)=((j+1:Nat):Int):=by rw[A7]<;>omega
    refine Cg.intro (j+1) ⟨by omega,by rw[←HX (by omega) h];exact hj.2⟩ ?_ (by omega);simp only[ew,Ad,Nat.reduceEqDiff,reduceCtorEq]
   ·rw[hstop fun _=>h];simp only[AI,f0,Ad]
    (repeat' (first|(with_reducible refine aI ?_ ?_)|(first|(first|refine gF ?_ ?_|refine gT ?_ ?_|refine cI ?_ ?_|refine pI ?_ ?_)<;>intro h|(refine dI ?_;have h:=trivial))<;>simp only[h,Ad,An,Bv,Bf,Nat.reduceAdd,Nat.reduceSub,Nat.reduceMul,Nat.reduceLT,Nat.reduceLeDiff,Nat.reduceEqDiff,reduceCtorEq,List.reduceReplicate,Int.reduceToNat,Int.reduceLE,Int.reduceLT]))
    all_goals first|(((try simp only[decide_eq_true_eq,decide_eq_false_iff_not,beq_iff_eq,bne_iff_ne,ne_eq,beq_eq_false_iff_ne,bne_eq_false_iff_eq]at *)<;>(try omega));done)|trivial
  ·((try simp only[decide_eq_false_iff_not]at *)<;>(try omega))
   rw[hstop fun h'=>by omega];simp only[AI,f0,Ad]
theorem b76:Al Tp 160:=⟨_,Tryz.func160,by kernel_rfl,by kernel_rfl⟩
theorem b102:Al Tp 218:=⟨_,Tryz.func218,by kernel_rfl,by kernel_rfl⟩
theorem LL(s:ByteArray)(c:Int):Ev Tp γ 218 [.v (.string s),.v (.int .u8 c)] (.v (.int .i64 (Lib.indexByte s.data.toList c.toNat.toUInt8))):=by
 refine Ev.of Tryz.func218 rfl ?_;simp only[Tryz.f218,Ad,seval];refine Ae.ext (Ju Tryz.func257 (by kernel_rfl) (by kernel_rfl) (by kernel_rfl) (by kernel_rfl) s c) ?_;simp only[Ad,seval]
theorem FN(s:ByteArray)(c:Int):Ev Tp γ 160 [.v (.string s),.v (.int .u8 c)] (.v (.int .i64 (Lib.indexByte s.data.toList c.toNat.toUInt8))):=by
 refine Ev.of Tryz.func160 rfl ?_;simp only[Tryz.f160,Ad,seval];refine Ae.intro b102 rfl (LL s c) ?_;simp only[Ad,seval]
def DC(n:Nat):Int:=if 48≤n∧n≤57 then n-48 else if 97≤n∧n≤102 then n-87 else -1
theorem Ol(n:Nat)(hn:n<256):Ev Tp γ 251 [.v (.int .u8 n)] (.v (.int .i64 (DC n))):=by
 refine Ev.of Tryz.func251 rfl ?_;simp only[Tryz.f251,Ad,seval];refine Ae.intro iV rfl (EC n) ?_;simp only[Ad,seval];refine B5.intro (fun h=>?_) (fun h=>?_)<;>simp only[h,Ad,An,seval]
 ·have h':48≤n∧n≤57:=by simpa[A0]using h
  have e1:IntKind.u8.wrap ((n:Int)-48)=(n:Int)-48:=by rw[dU]<;>omega
  simp only[e1];rw[DC,if_pos h',A7 (by omega) (by omega)]
 ·have h':¬(48≤n∧n≤57):=by simpa[A0]using h
  (repeat' (first|(with_reducible refine aI ?_ ?_)|(first|(first|refine gF ?_ ?_|refine gT ?_ ?_|refine cI ?_ ?_|refine pI ?_ ?_)<;>intro h|(refine dI ?_;have h:=trivial))<;>simp only[h,Ad,An,Bv,Bf,seval]))
  ·((try simp only[decide_eq_true_eq]at *)<;>(try omega))
   have e2:IntKind.i64.wrap ((n:Int)-97)=(n:Int)-97:=by rw[A7]<;>omega
   rw[DC,if_neg h',if_pos (by omega),dU (by omega) (by omega),e2,A7 (by omega) (by omega)]
   congr 2
   omega
  ·((try simp only[decide_eq_true_eq,decide_eq_false_iff_not]at *)<;>(try omega))
   rw[DC,if_neg h',if_neg (by omega)]
  ·((try simp only[decide_eq_false_iff_not]at *)<;>(try omega))
   rw[DC,if_neg h',if_neg (by omega)]
theorem SJ(c:UInt8):Lib.indexByte [48,49,50,51,52,53,54,55,56,57,97,98,99,100,101,102] c=DC c.toNat:=by
 have:=b256 (p:=fun n=>Lib.indexByte [48,49,50,51,52,53,54,55,56,57,97,98,99,100,101,102] (UInt8.ofNat n)=DC n) (by decide +kernel) c;simpa using this
theorem Oh(c:UInt8):Ev Tp γ 160 [.v (.string ⟨#[48,49,50,51,52,53,54,55,56,57,97,98,99,100,101,102]⟩),.v (.int .u8 (c.toNat:Nat))] (.v (.int .i64 (DC c.toNat))):=by
 have:=FN (γ:=γ) ⟨#[48,49,50,51,52,53,54,55,56,57,97,98,99,100,101,102]⟩ (c.toNat:Nat);rw[←SJ];simpa using this
theorem Hi(n:Nat): -1≤DC n∧DC n≤15:=by
 unfold DC
 split
 ·omega
 ·split<;>omega
def Jt(a b:Nat):Nat:=(16 * DC a+DC b).toNat
def Dt(l:List UInt8):Nat×Nat:=
 if Aq l 1=34∨Aq l 1=92 then (Aq l 1,2)
 else if Aq l 1=120∧4≤l.length∧0≤DC (Aq l 2)∧0≤DC (Aq l 3)∧(Jt (Aq l 2) (Aq l 3)<32∨126<Jt (Aq l 2) (Aq l 3))then (Jt (Aq l 2) (Aq l 3),4)
 else (0,0)
set_option maxRecDepth 20000 in
theorem Oc(b:Bool)(l:List UInt8)(hl:l.length≤140737488355328):Ev Tp γ 280 [.sl b l.length l.length (l.map Ai)] (.tup [.v (.int .u8 (Dt l).1),.v (.int .i64 (Dt l).2)]):=by
 refine Ev.of Tryz.func280 rfl ?_
 have hlen:∀ i,Aq l i≠0→i<l.length:=fun i h=>by
  by_cases hi:i<l.length
  ·exact hi
  ·exact absurd (by simp only[Aq,List.getD];rw[Bq (by omega)];rfl) h
 simp only[Tryz.f280,Ad,seval];refine Ae.intro V0 (by simp[A4,A6]) (D4 b l 1) ?_;simp only[Ad,seval];have hlen':Aq l 1≠0→1<l.length:=hlen 1
 (repeat' (first|(with_reducible refine aI ?_ ?_)|(first|(first|refine gF ?_ ?_|refine gT ?_ ?_|refine cI ?_ ?_|refine pI ?_ ?_)<;>intro h|(refine dI ?_;have h:=trivial))<;>simp only[h,Ad,An,seval]))
 all_goals try (((try simp only[decide_eq_true_eq,decide_eq_false_iff_not,beq_iff_eq,ne_eq,beq_eq_false_iff_ne]at *)<;>(try omega));done)
 ·((try simp only[beq_iff_eq,ne_eq]at *)<;>(try omega));rw[Dt,if_pos (by omega)];rfl
 ·((try simp only[beq_iff_eq,ne_eq]at *)<;>(try omega));rw[Dt,if_pos (by omega)];rfl
 ·((try simp only[beq_iff_eq,ne_eq,beq_eq_false_iff_ne]at *)<;>(try omega));rw[Dt,if_pos (by omega)];rfl
 ·((try simp only[beq_iff_eq,ne_eq,beq_eq_false_iff_ne]at *)<;>(try omega));rw[Dt,if_pos (by omega)];rfl
 ·((try simp only[decide_eq_true_eq,beq_iff_eq,ne_eq,beq_eq_false_iff_ne]at *)<;>(try omega));rw[Dt,if_neg (by omega),if_neg (by omega)];rfl
 ·((try simp only[decide_eq_true_eq,beq_iff_eq,ne_eq,beq_eq_false_iff_ne]at *)<;>(try omega));rw[Dt,if_neg (by omega),if_neg (by omega)];rfl
 ·((try simp only[decide_eq_false_iff_not,beq_iff_eq,ne_eq,beq_eq_false_iff_ne]at *)<;>(try omega))
  refine Ae.intro b76 rfl (Oh (l.getD 2 0)) ?_;simp only[Ad,An,seval]
  (repeat' (first|(with_reducible refine aI ?_ ?_)|(first|(first|refine gF ?_ ?_|refine gT ?_ ?_|refine cI ?_ ?_|refine pI ?_ ?_)<;>intro h|(refine dI ?_;have h:=trivial))<;>simp only[h,Ad,An,Bv,Bf,seval]))
  all_goals try (((try simp only[decide_eq_true_eq,decide_eq_false_iff_not,beq_iff_eq,bne_iff_ne,ne_eq,beq_eq_false_iff_ne,bne_eq_false_iff_eq]at *)<;>(try omega));done)
  refine Ae.intro b76 rfl (Oh (l.getD 3 0)) ?_;have x2:=Hi (Aq l 2);have x3:=Hi (Aq l 3);rw[show (l.getD 2 0).toNat=Aq l 2 from rfl,show (l.getD 3 0).toNat=Aq l 3 from rfl];have e1:IntKind.i64.wrap (16 * DC (Aq l 2))=16 * DC (Aq l 2):=by rw[A7]<;>omega
  have e2:IntKind.i64.wrap (16 * DC (Aq l 2)+DC (Aq l 3))=16 * DC (Aq l 2)+DC (Aq l 3):=by rw[A7]<;>omega
  simp only[e1,e2,Ad,An,seval]
  (repeat' (first|(with_reducible refine aI ?_ ?_)|(first|(first|refine gF ?_ ?_|refine gT ?_ ?_|refine cI ?_ ?_|refine pI ?_ ?_)<;>intro h|(refine dI ?_;have h:=trivial))<;>simp only[h,Ad,An,Bv,Bf,seval]))
  all_goals
   by_cases hh:0≤DC (Aq l 2)∧0≤DC (Aq l 3)
   ·have e3:IntKind.u8.wrap (16 * DC (Aq l 2)+DC (Aq l 3))=(Jt (Aq l 2) (Aq l 3):Int):=by
     rw[dU (by omega) (by omega)];unfold Jt;omega
    simp only[e3]at *
    ((try simp only[decide_eq_true_eq,decide_eq_false_iff_not]at *)<;>(try omega))<;>first
     |(rw[Dt,if_neg (by omega),if_pos (by omega)];done)
     |(rw[Dt,if_neg (by omega),if_neg (by omega)];rfl)
     |(rw[Dt,if_neg (by omega),if_pos (by omega)];rfl)
     |omega
   ·((try simp only[decide_eq_true_eq,decide_eq_false_iff_not]at *)<;>(try omega))<;>first
     |(rw[Dt,if_neg (by omega),if_neg (by omega)];rfl)
     |omega
 all_goals (((try simp only[ne_eq,beq_eq_false_iff_ne]at *)<;>(try omega));rw[Dt,if_neg (by omega),if_neg (by omega)];rfl)
theorem b74:Al Tp 280:=⟨_,Tryz.func280,by kernel_rfl,by kernel_rfl⟩
def Em:Nat→List UInt8→Nat→List UInt8→Option (List UInt8×Nat)
 |0,_,_,_=>none
 |k+1,l,i,d=>
  if l.length≤i then none
  else if Aq l i=34∧d.length≤256 then some (d,i+1)
  else if Aq l i=92 then (if (Dt (l.drop i)).2=0 then none else Em k l (i+(Dt (l.drop i)).2) (d++[UInt8.ofNat (Dt (l.drop i)).1]))
  else if Aq l i=34∨Aq l i<32∨126<Aq l i then none
  else Em k l (i+1) (d++[UInt8.ofNat (Aq l i)])
def AP:List AV:=[.v (.int .i64 0),.v (.string ⟨#[]⟩),.v (.int .i64 0),.v (.float .f64 0),.v (.int .i64 0),.v (.int .i64 0)]
def GN:Option (List UInt8×Nat)→AV
 |none=>.tup [.agg AP,.v (.int .i64 11)]
 |some (d,n)=>.tup [AI 4 d 0 f0 0 n,.v (.int .i64 0)]
def OD(γ:List (Nat×AV))(l:List UInt8)(b:Bool):Nat×List UInt8→St
 |(i,[])=>⟨⟨69,[(0,.sl b l.length l.length (l.map Ai)),(2,.ptr 0 0 0),(5,.v (.int .i64 i)),(4,.v (.slice none 0 0))],γ⟩,[⟨0,53,AP⟩]⟩
 |(i,x::d)=>⟨⟨69,[(0,.sl b l.length l.length (l.map Ai)),(2,.ptr 0 0 0),(5,.v (.int .i64 i)),(4,.own 2 d.length (x::d).length)],γ⟩,[⟨0,53,AP⟩,⟨0,5,[Ai x]⟩,⟨d.length,5,(x::d).map Ai⟩]⟩
theorem OE(γ:List (Nat×AV))(l:List UInt8)(b:Bool)(i:Nat):OD γ l b (i,[])=⟨⟨69,[(0,.sl b l.length l.length (l.map Ai)),(2,.ptr 0 0 0),(5,.v (.int .i64 i)),(4,.v (.slice none 0 0))],γ⟩,[⟨0,53,AP⟩]⟩:=rfl
theorem MF(γ:List (Nat×AV))(l:List UInt8)(b:Bool)(i:Nat)(x:UInt8)(d:List UInt8):OD γ l b (i,x::d)=⟨⟨69,[(0,.sl b l.length l.length (l.map Ai)),(2,.ptr 0 0 0),(5,.v (.int .i64 i)),(4,.own 2 d.length (x::d).length)],γ⟩,[⟨0,53,AP⟩,⟨0,5,[Ai x]⟩,⟨d.length,5,(x::d).map Ai⟩]⟩:=rfl
theorem YV(γ:List (Nat×AV))(l:List UInt8)(b:Bool)(i:Nat){D:List UInt8}(h:D≠[]):OD γ l b (i,D)=⟨⟨69,[(0,.sl b l.length l.length (l.map Ai)),(2,.ptr 0 0 0),(5,.v (.int .i64 i)),(4,.own 2 (D.length-1) D.length)],γ⟩,[⟨0,53,AP⟩,⟨0,5,[Ai (D.getD 0 0)]⟩,⟨D.length-1,5,D.map Ai⟩]⟩:=by
 cases D with
 |nil=>exact absurd rfl h
 |cons x d=>rfl
theorem OM(γ:List (Nat×AV))(l:List UInt8)(b:Bool)(i:Nat){d:List UInt8}(y:UInt8)(h:d≠[]):OD γ l b (i,d++[y])=⟨⟨69,[(0,.sl b l.length l.length (l.map Ai)),(2,.ptr 0 0 0),(5,.v (.int .i64 i)),(4,.own 2 d.length (d.length+1))],γ⟩,[⟨0,53,AP⟩,⟨0,5,[Ai (d.getD 0 0)]⟩,⟨d.length,5,d.map Ai++[Ai y]⟩]⟩:=by
 cases d with
 |nil=>exact absurd rfl h
 |cons x d=>simp[OD]
theorem iK(l:List UInt8):(Dt l).2=0∨(Dt l).2=2∨(Dt l).2=4:=by
 unfold Dt;split
 ·exact .inr (.inl rfl)
 ·split
  ·exact .inr (.inr rfl)
  ·exact .inl rfl
theorem gQ(l:List UInt8):(Dt l).1<256:=by
 unfold Dt;split
 ·exact (l.getD 1 0).toNat_lt
 ·split
  ·show Jt _ _<256
   unfold Jt;have:=Hi (Aq l 2);have:=Hi (Aq l 3);omega
  ·show 0<256;omega
theorem PK(l:List UInt8)(i:Nat):Aq l i<256:=(l.getD i 0).toNat_lt
set_option maxRecDepth 20000 in
theorem T7(b:Bool)(l:List UInt8)(hl:l.length≤140737488351232):Ev Tp γ 243 [.sl b l.length l.length (l.map Ai)] (GN (Em l.length l 1 [])):=by
 refine Ev.of Tryz.func243 rfl ?_;generalize hR:GN (Em l.length l 1 [])=R;simp only[Tryz.f243,Ad,An,seval];refine Eg.intro (OD γ l b) (fun a=>a.2.length≤a.1∧1≤a.1∧a.1≤l.length+4∧∃ k,l.length≤k+a.1∧GN (Em k l a.1 a.2)=R) (fun a=>l.length+4-a.1) (1,[]) ?_ ⟨by simp,by simp,by simp,l.length,by simp,hR⟩ ?_
 ·simp only[OE,AP,Ad,seval]
  (repeat' (first|(with_reducible refine aI ?_ ?_)|(first|(first|refine gF ?_ ?_|refine gT ?_ ?_|refine cI ?_ ?_|refine pI ?_ ?_)<;>intro h|(refine dI ?_;have h:=trivial))<;>simp only[h,Ad,An,Bv,Bf,seval]))
  all_goals rfl
 ·rintro⟨i,d⟩ ⟨hd,hi1,hi4,k,hk,hR⟩
  have hend:l.length≤i→R=.tup [.agg AP,.v (.int .i64 11)]:=fun h=>by
   rw[←hR];cases k with
   |zero=>rfl
   |succ k=>simp only[Em,if_pos h,GN]
  have hs:i<l.length→∃ k',l.length≤k'+i+1∧R=GN (if Aq l i=34∧d.length≤256 then some (d,i+1)
    else if Aq l i=92 then (if (Dt (l.drop i)).2=0 then none else Em k' l (i+(Dt (l.drop i)).2) (d++[UInt8.ofNat (Dt (l.drop i)).1]))
    else if Aq l i=34∨Aq l i<32∨126<Aq l i then none
    else Em k' l (i+1) (d++[UInt8.ofNat (Aq l i)])):=fun h=>by
   cases k with
   |zero=>simp only at hk;omega
   |succ k=>
    refine⟨k,by simp only at hk;omega,?_⟩;rw[←hR];simp only[Em,if_neg (show ¬l.length≤i by omega)]
  have ea:(l.getD i 0).toNat=Aq l i:=rfl;have hb256:=PK l i;have hub:((UInt8.ofNat (Aq l i)).toNat:Int)=Aq l i:=by rw[UInt8.toNat_ofNat_of_lt' hb256]
  have hx1:=gQ (l.drop i);have hx2:=iK (l.drop i);have hue:((UInt8.ofNat (Dt (l.drop i)).1).toNat:Int)=(Dt (l.drop i)).1:=by rw[UInt8.toNat_ofNat_of_lt' hx1]
  have ew1:IntKind.i64.wrap ((i:Int)+1)=((i+1:Nat):Int):=by simp only at hi4;rw[A7]<;>omega
  have ewn:IntKind.i64.wrap ((i:Int)+((Dt (l.drop i)).2:Nat))=((i+(Dt (l.drop i)).2:Nat):Int):=by simp only at hi4;rw[A7]<;>omega
  clear hR;simp only at hd hi1 hi4 hk
  have hesc:Ev Tp γ 280 [.sl b (l.length-i) (l.length-i) (List.drop i (l.map Ai))] (.tup [.v (.int .u8 (Dt (l.drop i)).1),.v (.int .i64 (Dt (l.drop i)).2)]):=by
   have:=Oc (γ:=γ) b (l.drop i) (by rw[Bd];omega)
   rwa [Bd,List.map_drop]at this
  by_cases hne:d=[]
  ·subst hne;simp only[OE,AP,Ad,An,seval]
   (repeat' (first|(with_reducible refine aI ?_ ?_)|(first|(first|refine gF ?_ ?_|refine gT ?_ ?_|refine cI ?_ ?_|refine pI ?_ ?_)<;>intro h|(refine dI ?_;have h:=trivial))<;>simp only[h,ea,Ad,An,AP,Bv,Bf,seval]))
   all_goals try (((try simp only[decide_eq_true_eq,decide_eq_false_iff_not,beq_iff_eq,ne_eq,beq_eq_false_iff_ne]at *)<;>(try omega));done)
   ·((try simp only[decide_eq_true_eq,beq_iff_eq]at *)<;>(try omega))
    obtain⟨k',hk',hR'⟩:=hs (by omega);rw[if_pos ⟨by omega,by simp⟩]at hR';rw[hR',ew1];simp only[GN,AI,f0,Ad]
   ·((try simp only[decide_eq_true_eq,beq_iff_eq,ne_eq,beq_eq_false_iff_ne]at *)<;>(try omega))
    obtain⟨k',hk',hR'⟩:=hs (by omega);rw[if_neg (by omega),if_pos (by omega)]at hR';refine Ae.intro b74 (by simp only[A4,A6,Bool.and_self]) hesc ?_;simp only[Ad,seval];refine B5.intro (fun h=>?_) (fun h=>?_)
    ·((try simp only[beq_iff_eq]at *)<;>(try omega))
     rw[if_pos (by omega)]at hR';simp only[Ad,An,seval];rw[hR'];simp only[GN,AP,Ad]
    ·((try simp only[ne_eq,beq_eq_false_iff_ne]at *)<;>(try omega))
     rw[if_neg (by omega)]at hR';simp only[ewn,Ad,An,seval]
     (repeat' (first|(with_reducible refine aI ?_ ?_)|(first|(first|refine gF ?_ ?_|refine gT ?_ ?_|refine cI ?_ ?_|refine pI ?_ ?_)<;>intro h|(refine dI ?_;have h:=trivial))<;>simp only[h,Ad,An,Bv,Bf,seval]))
     all_goals try (((try simp only[decide_eq_true_eq,decide_eq_false_iff_not,beq_iff_eq,bne_iff_ne,ne_eq,beq_eq_false_iff_ne,bne_eq_false_iff_eq]at *)<;>(try omega));done)
     all_goals try exact EE _
     refine Cg.intro (i+(Dt (l.drop i)).2,[UInt8.ofNat (Dt (l.drop i)).1]) ⟨by simp only[BC,BD]at *;omega,by simp only;omega,by simp only;omega,k',by simp only;omega,hR'.symm⟩ ?_ (by simp only;omega);refine⟨rfl,rfl,?_,.inl ?_⟩<;>simp only[MF,AP,Ai,hue,Ad,seval]<;>try (first|rfl|trivial|(simp[Ai,hue,hub,C8];done))
   ·((try simp only[decide_eq_true_eq,decide_eq_false_iff_not,ne_eq,beq_eq_false_iff_ne]at *)<;>(try omega))
    obtain⟨k',hk',hR'⟩:=hs (by omega);rw[if_neg (by omega),if_neg (by omega),if_pos (by omega)]at hR';rw[hR'];simp only[GN,AP,Ad]
   ·((try simp only[decide_eq_true_eq,decide_eq_false_iff_not,ne_eq,beq_eq_false_iff_ne]at *)<;>(try omega))
    obtain⟨k',hk',hR'⟩:=hs (by omega);rw[if_neg (by omega),if_neg (by omega),if_neg (by omega)]at hR';rw[ew1];refine Cg.intro (i+1,[UInt8.ofNat (Aq l i)]) ⟨by simp only[BC,BD]at *;omega,by simp only;omega,by simp only;omega,k',by simp only;omega,hR'.symm⟩ ?_ (by simp only;omega);refine⟨rfl,rfl,?_,.inl ?_⟩<;>simp only[MF,AP,Ai,hub,Ad,seval]<;>try (first|rfl|trivial|(simp[Ai,hue,hub,C8];done))
   ·((try simp only[decide_eq_true_eq,ne_eq,beq_eq_false_iff_ne]at *)<;>(try omega))
    obtain⟨k',hk',hR'⟩:=hs (by omega);rw[if_neg (by omega),if_neg (by omega),if_pos (by omega)]at hR';rw[hR'];simp only[GN,AP,Ad]
   ·((try simp only[decide_eq_false_iff_not]at *)<;>(try omega))
    rw[hend (by omega)];simp only[AP,Ad]
  ·have hp:0<d.length:=List.length_pos_iff.2 hne;have ev1:d.length-1+1=d.length:=by omega
   have ev2:d.length+1-1=d.length:=by omega
   simp only[YV γ l b i hne,AP,Ad,An,seval]
   (repeat' (first|(with_reducible refine aI ?_ ?_)|(first|(first|refine gF ?_ ?_|refine gT ?_ ?_|refine cI ?_ ?_|refine pI ?_ ?_)<;>intro h|(refine dI ?_;have h:=trivial))<;>simp only[h,ea,Ad,An,AP,Bv,Bf,seval]))
   all_goals try (((try simp only[decide_eq_true_eq,decide_eq_false_iff_not,beq_iff_eq,ne_eq,beq_eq_false_iff_ne]at *)<;>(try omega));done)
   ·((try simp only[decide_eq_true_eq,beq_iff_eq]at *)<;>(try omega))
    obtain⟨k',hk',hR'⟩:=hs (by omega);rw[if_pos ⟨by omega,by omega⟩]at hR';rw[hR',ew1];simp only[GN,AI,f0,Ad]
   ·((try simp only[decide_eq_true_eq,decide_eq_false_iff_not,beq_iff_eq,ne_eq,beq_eq_false_iff_ne]at *)<;>(try omega))
    obtain⟨k',hk',hR'⟩:=hs (by omega);rw[if_neg (by omega),if_neg (by omega),if_pos (by omega)]at hR';rw[hR'];simp only[GN,AP,Ad]
   ·((try simp only[decide_eq_true_eq,beq_iff_eq,ne_eq,beq_eq_false_iff_ne]at *)<;>(try omega))
    obtain⟨k',hk',hR'⟩:=hs (by omega);rw[if_neg (by omega),if_pos (by omega)]at hR';refine Ae.intro b74 (by simp only[A4,A6,Bool.and_self]) hesc ?_;simp only[Ad,seval];refine B5.intro (fun h=>?_) (fun h=>?_)
    ·((try simp only[beq_iff_eq]at *)<;>(try omega))
     rw[if_pos (by omega)]at hR';simp only[Ad,An,seval];rw[hR'];simp only[GN,AP,Ad]
    ·((try simp only[ne_eq,beq_eq_false_iff_ne]at *)<;>(try omega))
     rw[if_neg (by omega)]at hR';simp only[ewn,Ad,An,seval]
     (repeat' (first|(with_reducible refine aI ?_ ?_)|(first|(first|refine gF ?_ ?_|refine gT ?_ ?_|refine cI ?_ ?_|refine pI ?_ ?_)<;>intro h|(refine dI ?_;have h:=trivial))<;>simp only[h,Ad,An,Bv,Bf,seval]))
     all_goals try (((try simp only[decide_eq_true_eq,decide_eq_false_iff_not,beq_iff_eq,bne_iff_ne,ne_eq,beq_eq_false_iff_ne,bne_eq_false_iff_eq]at *)<;>(try omega));done)
     all_goals try exact EE _
     refine Cg.intro (i+(Dt (l.drop i)).2,d++[UInt8.ofNat (Dt (l.drop i)).1]) ⟨by simp only[Bp,BC,BD]at *;omega,by simp only;omega,by simp only;omega,k',by simp only;omega,hR'.symm⟩ ?_ (by simp only;omega);have hT:=OM γ l b (i+(Dt (l.drop i)).2) (UInt8.ofNat (Dt (l.drop i)).1) hne;refine⟨by rw[hT],by rw[hT],?_,.inr ?_⟩<;>rw[hT]
     ·simp only[ev1,Ad,seval]<;>try (first|rfl|trivial|(simp[Ai,hue,hub,C8];done))
     ·refine⟨?_,?_,?_⟩<;>simp only[AP,Ai,hue,AG,C8,okRefB,HH,Ew,Bool.and_self,decide_true,ev1,Ad,seval]<;>try (first|rfl|trivial|(simp[Ai,hue,hub,C8];done))
   ·((try simp only[decide_eq_true_eq,decide_eq_false_iff_not,ne_eq,beq_eq_false_iff_ne]at *)<;>(try omega))
    obtain⟨k',hk',hR'⟩:=hs (by omega);rw[if_neg (by omega),if_neg (by omega),if_pos (by omega)]at hR';rw[hR'];simp only[GN,AP,Ad]
   ·((try simp only[decide_eq_true_eq,decide_eq_false_iff_not,ne_eq,beq_eq_false_iff_ne]at *)<;>(try omega))
    obtain⟨k',hk',hR'⟩:=hs (by omega);rw[if_neg (by omega),if_neg (by omega),if_neg (by omega)]at hR';rw[ew1];refine Cg.intro (i+1,d++[UInt8.ofNat (Aq l i)]) ⟨by simp only[Bp,BC,BD]at *;omega,by simp only;omega,by simp only;omega,k',by simp only;omega,hR'.symm⟩ ?_ (by simp only;omega);have hT:=OM γ l b (i+1) (UInt8.ofNat (Aq l i)) hne;refine⟨by rw[hT],by rw[hT],?_,.inr ?_⟩<;>rw[hT]
    ·simp only[ev1,Ad,seval]<;>try (first|rfl|trivial|(simp[Ai,hue,hub,C8];done))
    ·refine⟨?_,?_,?_⟩<;>simp only[AP,Ai,hub,AG,C8,okRefB,HH,Ew,Bool.and_self,decide_true,ev1,Ad,seval]<;>try (first|rfl|trivial|(simp[Ai,hue,hub,C8];done))
   ·((try simp only[decide_eq_true_eq,ne_eq,beq_eq_false_iff_ne]at *)<;>(try omega))
    obtain⟨k',hk',hR'⟩:=hs (by omega);rw[if_neg (by omega),if_neg (by omega),if_pos (by omega)]at hR';rw[hR'];simp only[GN,AP,Ad]
   ·((try simp only[decide_eq_false_iff_not]at *)<;>(try omega))
    rw[hend (by omega)];simp only[AP,Ad]
def AK(l:List UInt8)(i:Nat):Nat×Nat:=
 if l.length≤i∨Aq l i<32∨126<Aq l i∨Aq l i=34 then (0,0)
 else if Aq l i≠92 then (Aq l i,1)
 else if l.length<i+2 then (0,0)
 else if Aq l (i+1)=34 then (34,2)
 else if Aq l (i+1)=92 then (92,2)
 else if Aq l (i+1)=120∧i+4≤l.length∧0≤DC (Aq l (i+2))∧0≤DC (Aq l (i+3))∧(Jt (Aq l (i+2)) (Aq l (i+3))<32∨126<Jt (Aq l (i+2)) (Aq l (i+3)))then (Jt (Aq l (i+2)) (Aq l (i+3)),4)
 else (0,0)
set_option maxRecDepth 20000 in
theorem SF(b:Bool)(l:List UInt8)(i:Nat)(hl:l.length≤140737488351232)(hi:i≤l.length):Ev Tp γ 209 [.sl b l.length l.length (l.map Ai),.v (.int .i64 i)] (.tup [.v (.int .u8 (AK l i).1),.v (.int .i64 (AK l i).2)]):=by
 refine Ev.of Tryz.func209 rfl ?_;have ew:IntKind.i64.wrap ((l.length:Int)-i)=((l.length-i:Nat):Int):=by rw[A7]<;>omega
 have e1:IntKind.i64.wrap ((i:Int)+1)=((i+1:Nat):Int):=by rw[A7]<;>omega
 have e2:IntKind.i64.wrap ((i:Int)+2)=((i+2:Nat):Int):=by rw[A7]<;>omega
 have e3:IntKind.i64.wrap ((i:Int)+3)=((i+3:Nat):Int):=by rw[A7]<;>omega
 have ea:∀ j,(l.getD j 0).toNat=Aq l j:=fun _=>rfl
 have x2:=Hi (Aq l (i+2));have x3:=Hi (Aq l (i+3));have w1:IntKind.i64.wrap (16 * DC (Aq l (i+2)))=16 * DC (Aq l (i+2)):=by rw[A7]<;>omega
 have w2:IntKind.i64.wrap (16 * DC (Aq l (i+2))+DC (Aq l (i+3)))=16 * DC (Aq l (i+2))+DC (Aq l (i+3)):=by rw[A7]<;>omega
 have h2:=Ol (γ:=γ) (Aq l (i+2)) (PK l _);have h3:=Ol (γ:=γ) (Aq l (i+3)) (PK l _);simp only[Tryz.f209,ew,Ad,An,seval]
 (repeat' (first|(with_reducible refine aI ?_ ?_)|(first|(first|refine gF ?_ ?_|refine gT ?_ ?_|refine cI ?_ ?_|refine pI ?_ ?_)<;>intro h|(refine dI ?_;have h:=trivial))<;>simp only[h,e1,e2,ea,Ad,An,ew,e3,w1,w2,Bv,Bf,seval]))
 all_goals try (((try simp only[decide_eq_true_eq,decide_eq_false_iff_not,beq_iff_eq,bne_iff_ne,ne_eq,beq_eq_false_iff_ne,bne_eq_false_iff_eq]at *)<;>(try omega));done)
 all_goals try (((try simp only[decide_eq_true_eq,decide_eq_false_iff_not,beq_iff_eq,bne_iff_ne,ne_eq,beq_eq_false_iff_ne,bne_eq_false_iff_eq]at *)<;>(try omega))<;>first|(rw[AK,if_pos (by omega)]<;>rfl)|(rw[AK,if_neg (by omega),if_pos (by omega)]<;>rfl)|(rw[AK,if_neg (by omega),if_neg (by omega),if_pos (by omega)]<;>rfl)|(rw[AK,if_neg (by omega),if_neg (by omega),if_neg (by omega),if_pos (by omega)]<;>rfl)|(rw[AK,if_neg (by omega),if_neg (by omega),if_neg (by omega),if_neg (by omega),if_pos (by omega)]<;>rfl)|(rw[AK,if_neg (by omega),if_neg (by omega),if_neg (by omega),if_neg (by omega),if_neg (by omega),if_pos (by omega)]<;>rfl)|(rw[AK,if_neg (by omega),if_neg (by omega),if_neg (by omega),if_neg (by omega),if_neg (by omega),if_neg (by omega)]<;>rfl))
 ·refine Ae.intro k8 rfl h2 ?_;simp only[Ad,seval]
  (repeat' (first|(with_reducible refine aI ?_ ?_)|(first|(first|refine gF ?_ ?_|refine gT ?_ ?_|refine cI ?_ ?_|refine pI ?_ ?_)<;>intro h|(refine dI ?_;have h:=trivial))<;>simp only[h,e3,ea,Ad,An,e2,w1,w2,Bv,Bf,seval]))
  all_goals try (((try simp only[decide_eq_true_eq,decide_eq_false_iff_not,beq_iff_eq,ne_eq,beq_eq_false_iff_ne,bne_eq_false_iff_eq]at *)<;>(try omega));done)
  all_goals try (((try simp only[decide_eq_true_eq,decide_eq_false_iff_not,beq_iff_eq,ne_eq,beq_eq_false_iff_ne,bne_eq_false_iff_eq]at *)<;>(try omega))<;>first|(rw[AK,if_pos (by omega)]<;>rfl)|(rw[AK,if_neg (by omega),if_pos (by omega)]<;>rfl)|(rw[AK,if_neg (by omega),if_neg (by omega),if_pos (by omega)]<;>rfl)|(rw[AK,if_neg (by omega),if_neg (by omega),if_neg (by omega),if_pos (by omega)]<;>rfl)|(rw[AK,if_neg (by omega),if_neg (by omega),if_neg (by omega),if_neg (by omega),if_pos (by omega)]<;>rfl)|(rw[AK,if_neg (by omega),if_neg (by omega),if_neg (by omega),if_neg (by omega),if_neg (by omega),if_pos (by omega)]<;>rfl)|(rw[AK,if_neg (by omega),if_neg (by omega),if_neg (by omega),if_neg (by omega),if_neg (by omega),if_neg (by omega)]<;>rfl))
  refine Ae.intro k8 rfl h3 ?_;simp only[Ad,seval]
  (repeat' (first|(with_reducible refine aI ?_ ?_)|(first|(first|refine gF ?_ ?_|refine gT ?_ ?_|refine cI ?_ ?_|refine pI ?_ ?_)<;>intro h|(refine dI ?_;have h:=trivial))<;>simp only[h,Ad,e2,ea,An,seval]))
  all_goals try (((try simp only[decide_eq_true_eq,decide_eq_false_iff_not,beq_iff_eq,ne_eq,beq_eq_false_iff_ne,bne_eq_false_iff_eq]at *)<;>(try omega));done)
  all_goals try (((try simp only[decide_eq_true_eq,decide_eq_false_iff_not,beq_iff_eq,ne_eq,beq_eq_false_iff_ne,bne_eq_false_iff_eq]at *)<;>(try omega))<;>first|(rw[AK,if_pos (by omega)]<;>rfl)|(rw[AK,if_neg (by omega),if_pos (by omega)]<;>rfl)|(rw[AK,if_neg (by omega),if_neg (by omega),if_pos (by omega)]<;>rfl)|(rw[AK,if_neg (by omega),if_neg (by omega),if_neg (by omega),if_pos (by omega)]<;>rfl)|(rw[AK,if_neg (by omega),if_neg (by omega),if_neg (by omega),if_neg (by omega),if_pos (by omega)]<;>rfl)|(rw[AK,if_neg (by omega),if_neg (by omega),if_neg (by omega),if_neg (by omega),if_neg (by omega),if_pos (by omega)]<;>rfl)|(rw[AK,if_neg (by omega),if_neg (by omega),if_neg (by omega),if_neg (by omega),if_neg (by omega),if_neg (by omega)]<;>rfl))
  refine Ae.intro k8 rfl h2 ?_;simp only[w1,e3,ea,Ad,An,seval]
  (repeat' (first|(with_reducible refine aI ?_ ?_)|(first|(first|refine gF ?_ ?_|refine gT ?_ ?_|refine cI ?_ ?_|refine pI ?_ ?_)<;>intro h|(refine dI ?_;have h:=trivial))<;>simp only[h,e2,e3,ea,w1,w2,Ad,An,Bv,Bf,seval]))
  all_goals try (((try simp only[decide_eq_true_eq,decide_eq_false_iff_not,beq_iff_eq,ne_eq,beq_eq_false_iff_ne,bne_eq_false_iff_eq]at *)<;>(try omega));done)
  refine Ae.intro k8 rfl h3 ?_
  by_cases hh:0≤DC (Aq l (i+2))∧0≤DC (Aq l (i+3))
  ·have u1:IntKind.u8.wrap (16 * DC (Aq l (i+2))+DC (Aq l (i+3)))=(Jt (Aq l (i+2)) (Aq l (i+3)):Int):=by
    rw[dU (by omega) (by omega)];unfold Jt;omega
   simp only[w2,u1,Ad,An,seval]
   (repeat' (first|(with_reducible refine aI ?_ ?_)|(first|(first|refine gF ?_ ?_|refine gT ?_ ?_|refine cI ?_ ?_|refine pI ?_ ?_)<;>intro h|(refine dI ?_;have h:=trivial))<;>simp only[h,Ad,An,Bv,Bf,seval]))
   all_goals try (((try simp only[decide_eq_true_eq,decide_eq_false_iff_not,beq_iff_eq,ne_eq,beq_eq_false_iff_ne,bne_eq_false_iff_eq]at *)<;>(try omega))<;>first|(rw[AK,if_pos (by omega)]<;>rfl)|(rw[AK,if_neg (by omega),if_pos (by omega)]<;>rfl)|(rw[AK,if_neg (by omega),if_neg (by omega),if_pos (by omega)]<;>rfl)|(rw[AK,if_neg (by omega),if_neg (by omega),if_neg (by omega),if_pos (by omega)]<;>rfl)|(rw[AK,if_neg (by omega),if_neg (by omega),if_neg (by omega),if_neg (by omega),if_pos (by omega)]<;>rfl)|(rw[AK,if_neg (by omega),if_neg (by omega),if_neg (by omega),if_neg (by omega),if_neg (by omega),if_pos (by omega)]<;>rfl)|(rw[AK,if_neg (by omega),if_neg (by omega),if_neg (by omega),if_neg (by omega),if_neg (by omega),if_neg (by omega)]<;>rfl))
  ·((try simp only[decide_eq_true_eq,decide_eq_false_iff_not,beq_iff_eq,ne_eq,beq_eq_false_iff_ne,bne_eq_false_iff_eq]at *)<;>(try omega))
theorem b68:Al Tp 209:=⟨_,Tryz.func209,by kernel_rfl,by kernel_rfl⟩
def DQ:Nat→List UInt8→Nat→List UInt8→List UInt8×Nat
 |0,_,i,d=>(d,i)
 |k+1,l,i,d=>if (AK l i).2=0 then (d,i)else DQ k l (i+(AK l i).2) (d++[UInt8.ofNat (AK l i).1])
theorem bP(l:List UInt8)(i:Nat):(AK l i).2=0∨(i+(AK l i).2≤l.length∧(AK l i).2≤4):=by
 unfold AK
 split
 ·exact .inl rfl
 ·split
  ·right;constructor
   ·show i+1≤_;omega
   ·show 1≤4;omega
  ·split
   ·exact .inl rfl
   ·split
    ·right;constructor
     ·show i+2≤_;omega
     ·show 2≤4;omega
    ·split
     ·right;constructor
      ·show i+2≤_;omega
      ·show 2≤4;omega
     ·split
      ·right;constructor
       ·show i+4≤_;omega
       ·show 4≤4;omega
      ·exact .inl rfl
theorem ZM(l:List UInt8)(i:Nat):(AK l i).1<256:=by
 unfold AK;have:=Hi (Aq l (i+2));have:=Hi (Aq l (i+3))
 split
 ·show 0<256;omega
 ·split
  ·exact PK l i
  ·split
   ·show 0<256;omega
   ·split
    ·show 34<256;omega
    ·split
     ·show 92<256;omega
     ·split
      ·show Jt _ _<256
       unfold Jt;omega
      ·show 0<256;omega
def Da(l:List UInt8)(at':Nat)(q:List UInt8×Nat):AV:=
 if l.length≤q.2∨Aq l q.2≠34∨256<q.1.length then .tup [.agg AP,.v (.int .i64 11)]
 else .tup [AI 4 q.1 0 f0 at' ((q.2+1-at':Nat):Int),.v (.int .i64 0)]
def KY(γ:List (Nat×AV))(l:List UInt8)(b:Bool)(p:Nat):Nat×List UInt8→St
 |(i,[])=>⟨⟨52,[(0,.sl b l.length l.length (l.map Ai)),(1,.v (.int .i64 p)),(4,.ptr 0 0 0),(6,.v (.int .i64 i)),(7,.v (.slice none 0 0))],γ⟩,[⟨0,54,AP⟩]⟩
 |(i,x::d)=>⟨⟨52,[(0,.sl b l.length l.length (l.map Ai)),(1,.v (.int .i64 p)),(4,.ptr 0 0 0),(6,.v (.int .i64 i)),(7,.own 2 d.length (x::d).length)],γ⟩,[⟨0,54,AP⟩,⟨0,5,[Ai x]⟩,⟨d.length,5,(x::d).map Ai⟩]⟩
theorem Ng(γ:List (Nat×AV))(l:List UInt8)(b:Bool)(p i:Nat):KY γ l b p (i,[])=⟨⟨52,[(0,.sl b l.length l.length (l.map Ai)),(1,.v (.int .i64 p)),(4,.ptr 0 0 0),(6,.v (.int .i64 i)),(7,.v (.slice none 0 0))],γ⟩,[⟨0,54,AP⟩]⟩:=rfl
theorem Un(γ:List (Nat×AV))(l:List UInt8)(b:Bool)(p i:Nat)(x:UInt8):KY γ l b p (i,[x])=⟨⟨52,[(0,.sl b l.length l.length (l.map Ai)),(1,.v (.int .i64 p)),(4,.ptr 0 0 0),(6,.v (.int .i64 i)),(7,.own 2 0 1)],γ⟩,[⟨0,54,AP⟩,⟨0,5,[Ai x]⟩,⟨0,5,[Ai x]⟩]⟩:=rfl
theorem Vu(γ:List (Nat×AV))(l:List UInt8)(b:Bool)(p i:Nat){D:List UInt8}(h:D≠[]):KY γ l b p (i,D)=⟨⟨52,[(0,.sl b l.length l.length (l.map Ai)),(1,.v (.int .i64 p)),(4,.ptr 0 0 0),(6,.v (.int .i64 i)),(7,.own 2 (D.length-1) D.length)],γ⟩,[⟨0,54,AP⟩,⟨0,5,[Ai (D.getD 0 0)]⟩,⟨D.length-1,5,D.map Ai⟩]⟩:=by
 cases D with
 |nil=>exact absurd rfl h
 |cons x d=>rfl
theorem Ub(γ:List (Nat×AV))(l:List UInt8)(b:Bool)(p i:Nat){d:List UInt8}(y:UInt8)(h:d≠[]):KY γ l b p (i,d++[y])=⟨⟨52,[(0,.sl b l.length l.length (l.map Ai)),(1,.v (.int .i64 p)),(4,.ptr 0 0 0),(6,.v (.int .i64 i)),(7,.own 2 d.length (d.length+1))],γ⟩,[⟨0,54,AP⟩,⟨0,5,[Ai (d.getD 0 0)]⟩,⟨d.length,5,d.map Ai++[Ai y]⟩]⟩:=by
 cases d with
 |nil=>exact absurd rfl h
 |cons x d=>simp[KY]
set_option maxRecDepth 20000 in
theorem SK(b:Bool)(l:List UInt8)(p:Nat)(hl:l.length≤140737488351232)(hp:p<l.length):Ev Tp γ 141 [.sl b l.length l.length (l.map Ai),.v (.int .i64 p)] (Da l p (DQ l.length l (p+1) [])):=by
 refine Ev.of Tryz.func141 rfl ?_;generalize hR:Da l p (DQ l.length l (p+1) [])=R;have ep:IntKind.i64.wrap ((p:Int)+1)=((p+1:Nat):Int):=by rw[A7]<;>omega
 simp only[Tryz.f141,ep,Ad,An,seval];refine Eg.intro (KY γ l b p) (fun a=>a.2.length≤a.1∧p+1≤a.1∧a.1≤l.length∧∃ k,l.length≤k+a.1∧Da l p (DQ k l a.1 a.2)=R) (fun a=>l.length-a.1) (p+1,[]) ?_ ⟨by simp,by simp,by simp;omega,l.length,by simp,hR⟩ ?_
 ·simp only[Ng,AP,Ad,seval]
  (repeat' (first|(with_reducible refine aI ?_ ?_)|(first|(first|refine gF ?_ ?_|refine gT ?_ ?_|refine cI ?_ ?_|refine pI ?_ ?_)<;>intro h|(refine dI ?_;have h:=trivial))<;>simp only[h,Ad,An,Bv,Bf,seval]))
  all_goals rfl
 ·rintro⟨i,d⟩ ⟨hd,hi1,hi4,k,hk,hR⟩
  simp only at hd hi1 hi4 hk hR;have ea:∀ j,(l.getD j 0).toNat=Aq l j:=fun _=>rfl
  have hx1:=ZM l i;have hx2:=bP l i;have hue:((UInt8.ofNat (AK l i).1).toNat:Int)=(AK l i).1:=by rw[UInt8.toNat_ofNat_of_lt' hx1]
  have ei:IntKind.i64.wrap ((i:Int)+1)=((i+1:Nat):Int):=by rw[A7]<;>omega
  have ei2:IntKind.i64.wrap (((i+1:Nat):Int)-p)=((i+1-p:Nat):Int):=by rw[A7]<;>omega
  have ewn:IntKind.i64.wrap ((i:Int)+((AK l i).2:Nat))=((i+(AK l i).2:Nat):Int):=by rw[A7]<;>omega
  have hstop:(AK l i).2=0→R=Da l p (d,i):=fun h=>by
   rw[←hR];cases k with
   |zero=>rfl
   |succ k=>simp only[DQ,if_pos h]
  have hgo:(AK l i).2≠0→∃ k',l.length≤k'+(i+(AK l i).2)∧Da l p (DQ k' l (i+(AK l i).2) (d++[UInt8.ofNat (AK l i).1]))=R:=fun h=>by
   cases k with
   |zero=>omega
   |succ k=>exact⟨k,by omega,by rw[←hR];simp only[DQ,if_neg h]⟩
  have hpart:=SF (γ:=γ) b l i hl hi4;clear hR
  by_cases hne:d=[]
  ·subst hne;simp only[Ng,AP,Ad,seval];refine Ae.intro b68 (by simp only[A4,A6,Bool.and_self]) hpart ?_;simp only[Ad,seval];refine B5.intro (fun h=>?_) (fun h=>?_)
   ·simp only[h,Ad,An,seval]
    (repeat' (first|(with_reducible refine aI ?_ ?_)|(first|(first|refine gF ?_ ?_|refine gT ?_ ?_|refine cI ?_ ?_|refine pI ?_ ?_)<;>intro h|(refine dI ?_;have h:=trivial))<;>simp only[h,ea,ei,ei2,Ad,An,AP,Bv,Bf,seval]))
    all_goals try (((try simp only[decide_eq_true_eq,decide_eq_false_iff_not,beq_iff_eq,bne_iff_ne,ne_eq,bne_eq_false_iff_eq]at *)<;>(try omega));done)
    ·((try simp only[decide_eq_false_iff_not,beq_iff_eq,ne_eq,bne_eq_false_iff_eq]at *)<;>(try omega))
     rw[hstop (by omega),Da,if_neg (by simp only[BD];omega)];simp only[AI,f0,Ad]
    ·((try simp only[decide_eq_false_iff_not,beq_iff_eq,bne_iff_ne,ne_eq]at *)<;>(try omega))
     rw[hstop (by omega),Da,if_pos (by simp only;omega)];simp only[AP,Ad]
    ·((try simp only[decide_eq_true_eq,beq_iff_eq,ne_eq]at *)<;>(try omega))
     rw[hstop (by omega),Da,if_pos (by simp only;omega)];simp only[AP,Ad]
   ·simp only[h,ewn,Ad,An,seval]
    (repeat' (first|(with_reducible refine aI ?_ ?_)|(first|(first|refine gF ?_ ?_|refine gT ?_ ?_|refine cI ?_ ?_|refine pI ?_ ?_)<;>intro h|(refine dI ?_;have h:=trivial))<;>simp only[h,Ad,An,Bv,Bf,seval]))
    all_goals try (((try simp only[ne_eq,beq_eq_false_iff_ne]at *)<;>(try omega));done)
    ((try simp only[ne_eq,beq_eq_false_iff_ne]at *)<;>(try omega))
    obtain⟨k',hk',hR'⟩:=hgo (by omega);refine Cg.intro (i+(AK l i).2,[UInt8.ofNat (AK l i).1]) ⟨by simp only[BC,BD];omega,by simp only;omega,by simp only;omega,k',by simp only;omega,hR'⟩ ?_ (by simp only;omega);refine⟨rfl,rfl,?_,.inl ?_⟩<;>simp only[Un,AP,Ai,hue,Ad,seval]<;>try (first|rfl|trivial|(simp[Ai,hue];done))
  ·have hpos:0<d.length:=List.length_pos_iff.2 hne;have ev1:d.length-1+1=d.length:=by omega
   have ev2:d.length+1-1=d.length:=by omega
   simp only[Vu γ l b p i hne,AP,Ad,seval];refine Ae.intro b68 (by simp only[A4,A6,Bool.and_self]) hpart ?_;simp only[Ad,seval];refine B5.intro (fun h=>?_) (fun h=>?_)
   ·simp only[h,Ad,An,seval]
    (repeat' (first|(with_reducible refine aI ?_ ?_)|(first|(first|refine gF ?_ ?_|refine gT ?_ ?_|refine cI ?_ ?_|refine pI ?_ ?_)<;>intro h|(refine dI ?_;have h:=trivial))<;>simp only[h,ea,ei,ei2,Ad,An,AP,Bv,Bf,seval]))
    all_goals try (((try simp only[decide_eq_true_eq,decide_eq_false_iff_not,beq_iff_eq,bne_iff_ne,ne_eq,bne_eq_false_iff_eq]at *)<;>(try omega));done)
    ·((try simp only[decide_eq_true_eq,decide_eq_false_iff_not,beq_iff_eq,ne_eq,bne_eq_false_iff_eq]at *)<;>(try omega))
     rw[hstop (by omega),Da,if_pos (by simp only;omega)];simp only[AP,Ad]
    ·((try simp only[decide_eq_false_iff_not,beq_iff_eq,ne_eq,bne_eq_false_iff_eq]at *)<;>(try omega))
     rw[hstop (by omega),Da,if_neg (by simp only;omega)];simp only[AI,f0,Ad]
    ·((try simp only[decide_eq_false_iff_not,beq_iff_eq,bne_iff_ne,ne_eq]at *)<;>(try omega))
     rw[hstop (by omega),Da,if_pos (by simp only;omega)];simp only[AP,Ad]
    ·((try simp only[decide_eq_true_eq,beq_iff_eq,ne_eq]at *)<;>(try omega))
     rw[hstop (by omega),Da,if_pos (by simp only;omega)];simp only[AP,Ad]
   ·simp only[h,ewn,Ad,An,seval]
    (repeat' (first|(with_reducible refine aI ?_ ?_)|(first|(first|refine gF ?_ ?_|refine gT ?_ ?_|refine cI ?_ ?_|refine pI ?_ ?_)<;>intro h|(refine dI ?_;have h:=trivial))<;>simp only[h,Ad,An,Bv,Bf,seval]))
    all_goals try (((try simp only[ne_eq,beq_eq_false_iff_ne]at *)<;>(try omega));done)
    all_goals try exact EE _
    ((try simp only[ne_eq,beq_eq_false_iff_ne]at *)<;>(try omega))
    obtain⟨k',hk',hR'⟩:=hgo (by omega);refine Cg.intro (i+(AK l i).2,d++[UInt8.ofNat (AK l i).1]) ⟨by simp only[Bp,BC,BD];omega,by simp only;omega,by simp only;omega,k',by simp only;omega,hR'⟩ ?_ (by simp only;omega);have hT:=Ub γ l b p (i+(AK l i).2) (UInt8.ofNat (AK l i).1) hne;refine⟨by rw[hT],by rw[hT],?_,.inr ?_⟩<;>rw[hT]
    ·simp only[ev1,Ad,seval]<;>try (first|rfl|trivial|(simp[Ai,hue,C8];done))
    ·refine⟨?_,?_,?_⟩<;>simp only[AP,Ai,hue,AG,C8,okRefB,HH,Ew,Bool.and_self,decide_true,ev1,Ad,seval]<;>try (first|rfl|trivial|(simp[Ai,hue,C8];done))
end Go.Proofs.YtlobiioioicmhaaGreatDoor
