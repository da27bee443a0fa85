/- A part of the proof. -/
import Derived.Test.YtlobiioioicmhaaGreatDoorCU7
import Derived.Test.YtlobiioioicmhaaGreatDoorProg
import Derived.KernelRfl
set_option linter.all false
set_option maxHeartbeats 8000000
namespace Go.Proofs.YtlobiioioicmhaaGreatDoor
open _root_.Bool renaming not_true→Bv,not_false→Bf
open _root_.List renaming length_append→Bp,getElem?_eq_none→Bq,length_drop→Bd,length_cons→BC,length_nil→BD
open Go.Proofs.Tryz renaming prog→Tp
open Go Go.Ev
set_option maxRecDepth 20000
theorem An:AX Tp 2=some false∧
  AX Tp 37=some false∧
  AX Tp 3=some false∧
  AX Tp 22=some false∧
  AX Tp 53=some true∧
  AX Tp 48=some false∧
  AX Tp 5=some false∧
  AX Tp 54=some true∧
  AX Tp 9=some false∧
  I0 Tp 37 37=some (5,1,1)∧
  I0 Tp 47 47=some (54,6,56)∧
  I0 Tp 48 48=some (53,6,56)∧
  Az Tp 37=some 5∧
  Az Tp 47=some 54∧
  Az Tp 48=some 53∧
  Al Tp 53 0=some (0,3)∧
  Al Tp 53 1=some (1,9)∧
  Al Tp 53 2=some (2,2)∧
  Al Tp 53 3=some (3,22)∧
  Al Tp 53 4=some (4,3)∧
  Al Tp 53 5=some (5,3)∧
  Al Tp 54 0=some (0,3)∧
  Al Tp 54 1=some (1,9)∧
  Al Tp 54 2=some (2,2)∧
  Al Tp 54 3=some (3,22)∧
  Al Tp 54 4=some (4,3)∧
  Al Tp 54 5=some (5,3)∧
  JZ Tp 2=none∧
  JZ Tp 21=none∧
  JZ Tp 37=none∧
  JZ Tp 3=none∧
  JZ Tp 22=some .f64∧
  JZ Tp 176=none∧
  JZ Tp 5=none∧
  JZ Tp 9=none∧
  CO Tp 2=some .i64∧
  CO Tp 21=some .i32∧
  CO Tp 37=none∧
  CO Tp 3=some .i64∧
  CO Tp 22=none∧
  CO Tp 176=some .u64∧
  CO Tp 5=some .u8∧
  CO Tp 9=none∧
  Od Tp 37=some (5,1,[.v (.int .u8 0)])∧
  Od Tp 47=some (54,6,[.v (.int .i64 0),.v (.string ⟨#[]⟩),.v (.int .i64 0),.v (.float .f64 0),.v (.int .i64 0),.v (.int .i64 0)])∧
  Od Tp 48=some (53,6,[.v (.int .i64 0),.v (.string ⟨#[]⟩),.v (.int .i64 0),.v (.float .f64 0),.v (.int .i64 0),.v (.int .i64 0)])∧
  BW Tp 53=some [(0,1),(1,1),(2,1),(3,1),(4,1),(5,1)]∧
  BW Tp 54=some [(0,1),(1,1),(2,1),(3,1),(4,1),(5,1)]∧
  Aq Tp 2=some 1∧
  Aq Tp 26=some 1∧
  Aq Tp 3=some 1∧
  Aq Tp 22=some 1∧
  Aq Tp 53=some 6∧
  Aq Tp 48=some 1∧
  Aq Tp 5=some 1∧
  Aq Tp 54=some 6∧
  Aq Tp 9=some 1∧
  Dl Tp 2=false∧
  Dl Tp 21=false∧
  Dl Tp 37=false∧
  Dl Tp 3=false∧
  Dl Tp 22=false∧
  Dl Tp 176=false∧
  Dl Tp 5=false∧
  Dl Tp 9=true∧
  (Tryz.prog.underlying 2).isSome=true∧
  (Tryz.prog.underlying 21).isSome=true∧
  (Tryz.prog.underlying 37).isSome=true∧
  (Tryz.prog.underlying 3).isSome=true∧
  (Tryz.prog.underlying 176).isSome=true∧
  (Tryz.prog.underlying 5).isSome=true∧
  Hw Tp 26=some [.v (.int .i64 0)]∧
  Hw Tp 3=some [.v (.int .i64 0)]∧
  Hw Tp 53=some [.v (.int .i64 0),.v (.string ⟨#[]⟩),.v (.int .i64 0),.v (.float .f64 0),.v (.int .i64 0),.v (.int .i64 0)]∧
  Hw Tp 48=some [.v (.slice none 0 0)]∧
  Hw Tp 54=some [.v (.int .i64 0),.v (.string ⟨#[]⟩),.v (.int .i64 0),.v (.float .f64 0),.v (.int .i64 0),.v (.int .i64 0)]:=
 (by and_intros<;>kernel_rfl)
variable {γ:List (Nat×AV)}
def Eh(n:Nat):Bool:=decide (97≤n∧n≤122∨65≤n∧n≤90)
def A5(n:Nat):Bool:=decide (48≤n∧n≤57)
def Ca(n:Nat):Bool:=Eh n || A5 n || decide (n=95)
theorem b45:Ak Tp 239:=⟨_,Tryz.func239,by kernel_rfl,by kernel_rfl⟩
theorem mF:Ak Tp 241:=⟨_,Tryz.func241,by kernel_rfl,by kernel_rfl⟩
theorem n8:Ak Tp 275:=⟨_,Tryz.func275,by kernel_rfl,by kernel_rfl⟩
theorem WT:Ak Tp 277:=⟨_,Tryz.func277,by kernel_rfl,by kernel_rfl⟩
theorem b70:Ak Tp 276:=⟨_,Tryz.func276,by kernel_rfl,by kernel_rfl⟩
theorem pN:Ak Tp 138:=⟨_,Tryz.func138,by kernel_rfl,by kernel_rfl⟩
theorem mC:Ak Tp 139:=⟨_,Tryz.func139,by kernel_rfl,by kernel_rfl⟩
theorem iO:Ak Tp 85:=⟨_,Tryz.func85,by kernel_rfl,by kernel_rfl⟩
theorem nG:Ak Tp 205:=⟨_,Tryz.func205,by kernel_rfl,by kernel_rfl⟩
theorem pL:Ak Tp 251:=⟨_,Tryz.func251,by kernel_rfl,by kernel_rfl⟩
theorem Iw(n:Nat):Ev Tp γ 239 [.v (.int .u8 n)] (.v (.bool (Eh n))):=by
 refine Ev.of Tryz.func239 rfl ?_;simp only[Tryz.f239,Ad,seval]
 (repeat' (first|(with_reducible refine aI ?_ ?_)|(first|(first|refine gF ?_ ?_|refine gT ?_ ?_|refine cI ?_ ?_|refine pI ?_ ?_)<;>intro h|(refine dI ?_;have h:=trivial))<;>simp only[h,Ad,An,Bv,Bf,seval]))
 all_goals (((try simp only[decide_eq_true_eq,decide_eq_false_iff_not]at *)<;>(try omega))<;>simp only[Eh,AV.v.injEq,Value.bool.injEq]<;>first|exact (decide_eq_true (by omega)).symm|exact (decide_eq_false (by omega)).symm|exact decide_eq_decide.2 (by omega))
theorem EW(n:Nat):Ev Tp γ 241 [.v (.int .u8 n)] (.v (.bool (A5 n))):=by
 refine Ev.of Tryz.func241 rfl ?_;simp only[Tryz.f241,Ad,seval]
 (repeat' (first|(with_reducible refine aI ?_ ?_)|(first|(first|refine gF ?_ ?_|refine gT ?_ ?_|refine cI ?_ ?_|refine pI ?_ ?_)<;>intro h|(refine dI ?_;have h:=trivial))<;>simp only[h,Ad,An,Bv,Bf,seval]))
 all_goals (((try simp only[decide_eq_true_eq,decide_eq_false_iff_not]at *)<;>(try omega))<;>simp only[A5,AV.v.injEq,Value.bool.injEq]<;>first|exact (decide_eq_true (by omega)).symm|exact (decide_eq_false (by omega)).symm|exact decide_eq_decide.2 (by omega))
theorem GH(n:Nat):Ev Tp γ 138 [.v (.int .u8 n)] (.v (.bool (Eh n))):=by
 refine Ev.of Tryz.func138 rfl ?_;simp only[Tryz.f138,Ad,seval]
 (repeat' (first|(with_reducible refine aI ?_ ?_)|(first|(first|refine gF ?_ ?_|refine gT ?_ ?_|refine cI ?_ ?_|refine pI ?_ ?_)<;>intro h|(refine dI ?_;have h:=trivial))<;>simp only[h,Ad,An,Bv,Bf,seval]))
 all_goals (((try simp only[decide_eq_true_eq,decide_eq_false_iff_not]at *)<;>(try omega))<;>simp only[Eh,AV.v.injEq,Value.bool.injEq]<;>first|exact (decide_eq_true (by omega)).symm|exact (decide_eq_false (by omega)).symm|exact decide_eq_decide.2 (by omega))
theorem ET(n:Nat):Ev Tp γ 139 [.v (.int .u8 n)] (.v (.bool (A5 n))):=by
 refine Ev.of Tryz.func139 rfl ?_;simp only[Tryz.f139,Ad,seval]
 (repeat' (first|(with_reducible refine aI ?_ ?_)|(first|(first|refine gF ?_ ?_|refine gT ?_ ?_|refine cI ?_ ?_|refine pI ?_ ?_)<;>intro h|(refine dI ?_;have h:=trivial))<;>simp only[h,Ad,An,Bv,Bf,seval]))
 all_goals (((try simp only[decide_eq_true_eq,decide_eq_false_iff_not]at *)<;>(try omega))<;>simp only[A5,AV.v.injEq,Value.bool.injEq]<;>first|exact (decide_eq_true (by omega)).symm|exact (decide_eq_false (by omega)).symm|exact decide_eq_decide.2 (by omega))
theorem Fi(n:Nat):Ev Tp γ 275 [.v (.int .u8 n)] (.v (.bool (Ca n))):=by
 refine Ev.of Tryz.func275 rfl ?_;simp only[Tryz.f275,Ad,seval];refine Ag.intro b45 rfl (Iw n) ?_;simp only[Ad,seval];refine Co.intro_f (fun h=>?_) (fun h=>?_)<;>simp only[h,Ad,seval]
 ·refine Ag.intro mF rfl (EW n) ?_;simp only[Ad,seval]
  (repeat' (first|(with_reducible refine aI ?_ ?_)|(first|(first|refine gF ?_ ?_|refine gT ?_ ?_|refine cI ?_ ?_|refine pI ?_ ?_)<;>intro h|(refine dI ?_;have h:=trivial))<;>simp only[h,Ad,An,Bv,Bf,seval]))
  all_goals (((try simp only[decide_eq_true_eq,decide_eq_false_iff_not,beq_iff_eq,bne_iff_ne,ne_eq,beq_eq_false_iff_ne,bne_eq_false_iff_eq]at *)<;>(try omega))<;>simp only[Ca];simp[*]<;>first|(rw[Bool.eq_iff_iff];simp;omega)|omega)
 ·(repeat' (first|(with_reducible refine aI ?_ ?_)|(first|(first|refine gF ?_ ?_|refine gT ?_ ?_|refine cI ?_ ?_|refine pI ?_ ?_)<;>intro h|(refine dI ?_;have h:=trivial))<;>simp only[h,Ad,An,Bv,Bf,seval]))
  all_goals (((try simp only[decide_eq_true_eq,decide_eq_false_iff_not,beq_iff_eq,bne_iff_ne,ne_eq,beq_eq_false_iff_ne,bne_eq_false_iff_eq]at *)<;>(try omega))<;>simp only[Ca];simp[*]<;>first|(rw[Bool.eq_iff_iff];simp;omega)|omega)
def Ar(l:List UInt8)(i:Nat):Nat:=(l.getD i 0).toNat
theorem DC(b:Bool)(l:List UInt8)(i:Nat):Ev Tp γ 277 [.sl b l.length l.length (l.map Am),.v (.int .i64 i)] (.v (.int .u8 (Ar l i))):=by
 refine Ev.of Tryz.func277 rfl ?_;simp only[Tryz.f277,Ad,An,seval]
 (repeat' (first|(with_reducible refine aI ?_ ?_)|(first|(first|refine gF ?_ ?_|refine gT ?_ ?_|refine cI ?_ ?_|refine pI ?_ ?_)<;>intro h|(refine dI ?_;have h:=trivial))<;>simp only[h,Ad,An,Bv,Bf,seval]))
 all_goals (((try simp only[decide_eq_true_eq,decide_eq_false_iff_not]at *)<;>(try omega));try rfl)
 simp only[Ar,List.getD];rw[Bq (by omega)]
 rfl
def Ai(l:List UInt8)(i:Nat):Nat:=i+((l.drop i).takeWhile fun c=>A5 c.toNat).length
theorem C9{l:List UInt8}{i:Nat}(h:A5 (Ar l i)=true):Ai l i=Ai l (i+1)∧i<l.length:=by
 have hi:i<l.length:=by
  by_cases hi:i<l.length
  ·exact hi
  ·have e:Ar l i=0:=by simp only[Ar,List.getD];rw[Bq (by omega)];rfl
   rw[e]at h;exact absurd h (by decide)
 refine⟨?_,hi⟩;have e:l.drop i=l[i]::l.drop (i+1):=List.drop_eq_getElem_cons hi;have e2:Ar l i=l[i].toNat:=by simp[Ar,List.getD,hi]
 rw[e2]at h;unfold Ai;rw[e,List.takeWhile_cons,if_pos h];simp only[BC];omega
theorem Fl{l:List UInt8}{i:Nat}(h:A5 (Ar l i)=false):Ai l i=i:=by
 unfold Ai
 by_cases hi:i<l.length
 ·have e:l.drop i=l[i]::l.drop (i+1):=List.drop_eq_getElem_cons hi;have e2:Ar l i=l[i].toNat:=by simp[Ar,List.getD,hi]
  rw[e2]at h;rw[e,List.takeWhile_cons,if_neg (by simp[h])];rfl
 ·rw[List.drop_eq_nil_of_le (by omega)];rfl
theorem K4(b:Bool)(l:List UInt8)(i:Nat)(hl:l.length≤140737488355328)(hi:i≤140737488355330):Ev Tp γ 276 [.sl b l.length l.length (l.map Am),.v (.int .i64 i)] (.v (.int .i64 (Ai l i))):=by
 refine Ev.of Tryz.func276 rfl ?_;simp only[Tryz.f276,Ad,seval];refine Ea.intro (fun j:Nat=>⟨⟨12,[(0,.sl b l.length l.length (l.map Am)),(1,.v (.int .i64 j))],γ⟩,[]⟩) (fun j=>j≤140737488355330∧Ai l j=Ai l i) (fun j=>l.length-j) i ?_ ⟨hi,rfl⟩ (fun j hj=>?_)
 ·simp only[Ad,seval]
 ·simp only[Ad,seval];refine Ag.intro WT (by simp[A0,A6]) (DC b l j) ?_;simp only[Ad,seval];refine Ag.intro mF rfl (EW _) ?_;simp only[Ad,seval];refine BZ.intro (fun h=>?_) (fun h=>?_)<;>simp only[h,Ad,seval]
  ·have hs:=C9 h;have ew:IntKind.i64.wrap ((j:Int)+1)=((j+1:Nat):Int):=by rw[A4]<;>omega
   refine Cg.intro (j+1) ⟨by omega,by rw[←hs.1];exact hj.2⟩ ?_ (by omega);simp only[ew,Ad,seval]
  ·have hs:=Fl h;rw[hs]at hj;rw[←hj.2]
def AI(p:Nat→Bool)(l:List UInt8)(i:Nat):Nat:=i+((l.drop i).takeWhile fun c=>p c.toNat).length
theorem Iy{p:Nat→Bool}{l:List UInt8}{i:Nat}(hi:i<l.length)(h:p (l.getD i 0).toNat=true):AI p l i=AI p l (i+1):=by
 have e:l.drop i=l[i]::l.drop (i+1):=List.drop_eq_getElem_cons hi;have e2:l.getD i 0=l[i]:=by simp[List.getD,hi]
 rw[e2]at h;unfold AI;rw[e,List.takeWhile_cons,if_pos h];simp only[BC];omega
theorem GD{p:Nat→Bool}{l:List UInt8}{i:Nat}(h:i<l.length→p (l.getD i 0).toNat=false):AI p l i=i:=by
 unfold AI
 by_cases hi:i<l.length
 ·have e:l.drop i=l[i]::l.drop (i+1):=List.drop_eq_getElem_cons hi;have e2:l.getD i 0=l[i]:=by simp[List.getD,hi]
  have h:=h hi;rw[e2]at h;rw[e,List.takeWhile_cons,if_neg (by simp[h])];rfl
 ·rw[List.drop_eq_nil_of_le (by omega)];rfl
theorem I4{p:Nat→Bool}{l:List UInt8}{i:Nat}(h:i≤l.length):i≤AI p l i∧AI p l i≤l.length:=by
 unfold AI;have:=(List.takeWhile_sublist (l:=l.drop i) (fun c=>p c.toNat)).length_le;rw[Bd]at this
 omega
theorem Em(l:List UInt8)(i:Nat):Ai l i=AI A5 l i:=rfl
def AM(kind:Int)(text:List UInt8)(int:Int)(real:AV)(pos size:Int):AV:=
 .agg [.v (.int .i64 kind),.v (.string ⟨text.toArray⟩),.v (.int .i64 int),real,.v (.int .i64 pos),.v (.int .i64 size)]
def f0:AV:=.v (.float .f64 0)
set_option maxRecDepth 20000 in
theorem Vm(b:Bool)(l:List UInt8)(hl:l.length≤140737488355328)(h1:1≤l.length):Ev Tp γ 240 [.sl b l.length l.length (l.map Am)] (AM 1 (l.take (AI Ca l 1)) 0 f0 0 (AI Ca l 1:Nat)):=by
 refine Ev.of Tryz.func240 rfl ?_;simp only[Tryz.f240,Ad,An,Nat.reduceAdd,Nat.reduceSub,Nat.reduceLT];refine Ea.intro (fun j:Nat=>⟨⟨23,[(0,.sl b l.length l.length (l.map Am)),(2,.ptr 0 0 0),(3,.v (.int .i64 j))],γ⟩,[⟨0,53,[.v (.int .i64 0),.v (.string ⟨#[]⟩),.v (.int .i64 0),.v (.float .f64 0),.v (.int .i64 0),.v (.int .i64 0)]⟩]⟩) (fun j=>j≤l.length∧AI Ca l j=AI Ca l 1) (fun j=>l.length-j) 1 ?_ ⟨h1,rfl⟩ (fun j hj=>?_)
 ·simp only[Ad,Nat.reduceEqDiff,reduceCtorEq]
  rfl
 ·have hstop:∀ (hs:j<l.length→Ca (l.getD j 0).toNat=false),AI Ca l 1=j:=fun hs=>hj.2.symm.trans (GD hs)
  simp only[Ad,An,Nat.reduceLT,Nat.reduceEqDiff,reduceCtorEq]
  (repeat' (first|(with_reducible refine aI ?_ ?_)|(first|(first|refine gF ?_ ?_|refine gT ?_ ?_|refine cI ?_ ?_|refine pI ?_ ?_)<;>intro h|(refine dI ?_;have h:=trivial))<;>simp only[h,Ad,An,Nat.reduceAdd,Nat.reduceLT,Nat.reduceLeDiff,Nat.reduceEqDiff,reduceCtorEq,Bv,Bf,Nat.reduceSub,Nat.reduceMul,List.reduceReplicate,Int.reduceToNat,Int.reduceLE,Int.reduceLT]))
  all_goals try (((try simp only[decide_eq_true_eq,decide_eq_false_iff_not]at *)<;>(try omega));done)
  ·((try simp only[decide_eq_true_eq]at *)<;>(try omega))
   refine Ag.intro n8 rfl (Fi _) ?_;simp only[Ad,Nat.reduceLT,Nat.reduceEqDiff,reduceCtorEq];refine BZ.intro (fun h=>?_) (fun h=>?_)<;>simp only[h,Ad,An,Nat.reduceAdd,Nat.reduceLT,Nat.reduceLeDiff,Nat.reduceEqDiff,reduceCtorEq]
   ·have ew:IntKind.i64.wrap ((j:Int)+1)=((j+1:Nat):Int):=by rw[A4]<;>omega
    refine Cg.intro (j+1) ⟨by omega,by rw[←Iy (by omega) h];exact hj.2⟩ ?_ (by omega);simp only[ew,Ad,Nat.reduceEqDiff,reduceCtorEq]
   ·rw[hstop fun _=>h];simp only[AM,f0,Ad]
    (repeat' (first|(with_reducible refine aI ?_ ?_)|(first|(first|refine gF ?_ ?_|refine gT ?_ ?_|refine cI ?_ ?_|refine pI ?_ ?_)<;>intro h|(refine dI ?_;have h:=trivial))<;>simp only[h,Ad,An,Bv,Bf,Nat.reduceAdd,Nat.reduceSub,Nat.reduceMul,Nat.reduceLT,Nat.reduceLeDiff,Nat.reduceEqDiff,reduceCtorEq,List.reduceReplicate,Int.reduceToNat,Int.reduceLE,Int.reduceLT]))
    all_goals first|(((try simp only[decide_eq_true_eq,decide_eq_false_iff_not,beq_iff_eq,bne_iff_ne,ne_eq,beq_eq_false_iff_ne,bne_eq_false_iff_eq]at *)<;>(try omega));done)|trivial
  ·((try simp only[decide_eq_false_iff_not]at *)<;>(try omega))
   rw[hstop fun h'=>by omega];simp only[AM,f0,Ad]
theorem b76:Ak Tp 160:=⟨_,Tryz.func160,by kernel_rfl,by kernel_rfl⟩
theorem b102:Ak Tp 218:=⟨_,Tryz.func218,by kernel_rfl,by kernel_rfl⟩
theorem M7(s:ByteArray)(c:Int):Ev Tp γ 218 [.v (.string s),.v (.int .u8 c)] (.v (.int .i64 (Lib.indexByte s.data.toList c.toNat.toUInt8))):=by
 refine Ev.of Tryz.func218 rfl ?_;simp only[Tryz.f218,Ad,seval];refine Ag.ext (JN Tryz.func257 (by kernel_rfl) (by kernel_rfl) (by kernel_rfl) (by kernel_rfl) s c) ?_;simp only[Ad,seval]
theorem Gc(s:ByteArray)(c:Int):Ev Tp γ 160 [.v (.string s),.v (.int .u8 c)] (.v (.int .i64 (Lib.indexByte s.data.toList c.toNat.toUInt8))):=by
 refine Ev.of Tryz.func160 rfl ?_;simp only[Tryz.f160,Ad,seval];refine Ag.intro b102 rfl (M7 s c) ?_;simp only[Ad,seval]
def DV(n:Nat):Int:=if 48≤n∧n≤57 then n-48 else if 97≤n∧n≤102 then n-87 else -1
theorem P7(n:Nat)(hn:n<256):Ev Tp γ 251 [.v (.int .u8 n)] (.v (.int .i64 (DV n))):=by
 refine Ev.of Tryz.func251 rfl ?_;simp only[Tryz.f251,Ad,seval];refine Ag.intro mC rfl (ET n) ?_;simp only[Ad,seval];refine BZ.intro (fun h=>?_) (fun h=>?_)<;>simp only[h,Ad,An,seval]
 ·have h':48≤n∧n≤57:=by simpa[A5]using h
  have e1:IntKind.u8.wrap ((n:Int)-48)=(n:Int)-48:=by rw[jI]<;>omega
  simp only[e1];rw[DV,if_pos h',A4 (by omega) (by omega)]
 ·have h':¬(48≤n∧n≤57):=by simpa[A5]using h
  (repeat' (first|(with_reducible refine aI ?_ ?_)|(first|(first|refine gF ?_ ?_|refine gT ?_ ?_|refine cI ?_ ?_|refine pI ?_ ?_)<;>intro h|(refine dI ?_;have h:=trivial))<;>simp only[h,Ad,An,Bv,Bf,seval]))
  ·((try simp only[decide_eq_true_eq]at *)<;>(try omega))
   have e2:IntKind.i64.wrap ((n:Int)-97)=(n:Int)-97:=by rw[A4]<;>omega
   rw[DV,if_neg h',if_pos (by omega),jI (by omega) (by omega),e2,A4 (by omega) (by omega)]
   congr 2
   omega
  ·((try simp only[decide_eq_true_eq,decide_eq_false_iff_not]at *)<;>(try omega))
   rw[DV,if_neg h',if_neg (by omega)]
  ·((try simp only[decide_eq_false_iff_not]at *)<;>(try omega))
   rw[DV,if_neg h',if_neg (by omega)]
theorem Vf(c:UInt8):Lib.indexByte [48,49,50,51,52,53,54,55,56,57,97,98,99,100,101,102] c=DV c.toNat:=by
 have:=b256 (p:=fun n=>Lib.indexByte [48,49,50,51,52,53,54,55,56,57,97,98,99,100,101,102] (UInt8.ofNat n)=DV n) (by decide +kernel) c;simpa using this
theorem PJ(c:UInt8):Ev Tp γ 160 [.v (.string ⟨#[48,49,50,51,52,53,54,55,56,57,97,98,99,100,101,102]⟩),.v (.int .u8 (c.toNat:Nat))] (.v (.int .i64 (DV c.toNat))):=by
 have:=Gc (γ:=γ) ⟨#[48,49,50,51,52,53,54,55,56,57,97,98,99,100,101,102]⟩ (c.toNat:Nat);rw[←Vf];simpa using this
theorem H4(n:Nat): -1≤DV n∧DV n≤15:=by
 unfold DV
 split
 ·omega
 ·split<;>omega
def JL(a b:Nat):Nat:=(16 * DV a+DV b).toNat
def D3(l:List UInt8):Nat×Nat:=
 if Ar l 1=34∨Ar l 1=92 then (Ar l 1,2)
 else if Ar l 1=120∧4≤l.length∧0≤DV (Ar l 2)∧0≤DV (Ar l 3)∧(JL (Ar l 2) (Ar l 3)<32∨126<JL (Ar l 2) (Ar l 3))then (JL (Ar l 2) (Ar l 3),4)
 else (0,0)
set_option maxRecDepth 20000 in
theorem OB(b:Bool)(l:List UInt8)(hl:l.length≤140737488355328):Ev Tp γ 280 [.sl b l.length l.length (l.map Am)] (.tup [.v (.int .u8 (D3 l).1),.v (.int .i64 (D3 l).2)]):=by
 refine Ev.of Tryz.func280 rfl ?_
 have hlen:∀ i,Ar l i≠0→i<l.length:=fun i h=>by
  by_cases hi:i<l.length
  ·exact hi
  ·exact absurd (by simp only[Ar,List.getD];rw[Bq (by omega)];rfl) h
 simp only[Tryz.f280,Ad,seval];refine Ag.intro WT (by simp[A0,A6]) (DC b l 1) ?_;simp only[Ad,seval];have hlen':Ar l 1≠0→1<l.length:=hlen 1
 (repeat' (first|(with_reducible refine aI ?_ ?_)|(first|(first|refine gF ?_ ?_|refine gT ?_ ?_|refine cI ?_ ?_|refine pI ?_ ?_)<;>intro h|(refine dI ?_;have h:=trivial))<;>simp only[h,Ad,An,seval]))
 all_goals try (((try simp only[decide_eq_true_eq,decide_eq_false_iff_not,beq_iff_eq,ne_eq,beq_eq_false_iff_ne]at *)<;>(try omega));done)
 ·((try simp only[beq_iff_eq,ne_eq]at *)<;>(try omega));rw[D3,if_pos (by omega)];rfl
 ·((try simp only[beq_iff_eq,ne_eq]at *)<;>(try omega));rw[D3,if_pos (by omega)];rfl
 ·((try simp only[beq_iff_eq,ne_eq,beq_eq_false_iff_ne]at *)<;>(try omega));rw[D3,if_pos (by omega)];rfl
 ·((try simp only[beq_iff_eq,ne_eq,beq_eq_false_iff_ne]at *)<;>(try omega));rw[D3,if_pos (by omega)];rfl
 ·((try simp only[decide_eq_true_eq,beq_iff_eq,ne_eq,beq_eq_false_iff_ne]at *)<;>(try omega));rw[D3,if_neg (by omega),if_neg (by omega)];rfl
 ·((try simp only[decide_eq_true_eq,beq_iff_eq,ne_eq,beq_eq_false_iff_ne]at *)<;>(try omega));rw[D3,if_neg (by omega),if_neg (by omega)];rfl
 ·((try simp only[decide_eq_false_iff_not,beq_iff_eq,ne_eq,beq_eq_false_iff_ne]at *)<;>(try omega))
  refine Ag.intro b76 rfl (PJ (l.getD 2 0)) ?_;simp only[Ad,An,seval]
  (repeat' (first|(with_reducible refine aI ?_ ?_)|(first|(first|refine gF ?_ ?_|refine gT ?_ ?_|refine cI ?_ ?_|refine pI ?_ ?_)<;>intro h|(refine dI ?_;have h:=trivial))<;>simp only[h,Ad,An,Bv,Bf,seval]))
  all_goals try (((try simp only[decide_eq_true_eq,decide_eq_false_iff_not,beq_iff_eq,bne_iff_ne,ne_eq,beq_eq_false_iff_ne,bne_eq_false_iff_eq]at *)<;>(try omega));done)
  refine Ag.intro b76 rfl (PJ (l.getD 3 0)) ?_;have x2:=H4 (Ar l 2);have x3:=H4 (Ar l 3);rw[show (l.getD 2 0).toNat=Ar l 2 from rfl,show (l.getD 3 0).toNat=Ar l 3 from rfl];have e1:IntKind.i64.wrap (16 * DV (Ar l 2))=16 * DV (Ar l 2):=by rw[A4]<;>omega
  have e2:IntKind.i64.wrap (16 * DV (Ar l 2)+DV (Ar l 3))=16 * DV (Ar l 2)+DV (Ar l 3):=by rw[A4]<;>omega
  simp only[e1,e2,Ad,An,seval]
  (repeat' (first|(with_reducible refine aI ?_ ?_)|(first|(first|refine gF ?_ ?_|refine gT ?_ ?_|refine cI ?_ ?_|refine pI ?_ ?_)<;>intro h|(refine dI ?_;have h:=trivial))<;>simp only[h,Ad,An,Bv,Bf,seval]))
  all_goals
   by_cases hh:0≤DV (Ar l 2)∧0≤DV (Ar l 3)
   ·have e3:IntKind.u8.wrap (16 * DV (Ar l 2)+DV (Ar l 3))=(JL (Ar l 2) (Ar l 3):Int):=by
     rw[jI (by omega) (by omega)];unfold JL;omega
    simp only[e3]at *
    ((try simp only[decide_eq_true_eq,decide_eq_false_iff_not]at *)<;>(try omega))<;>first
     |(rw[D3,if_neg (by omega),if_pos (by omega)];done)
     |(rw[D3,if_neg (by omega),if_neg (by omega)];rfl)
     |(rw[D3,if_neg (by omega),if_pos (by omega)];rfl)
     |omega
   ·((try simp only[decide_eq_true_eq,decide_eq_false_iff_not]at *)<;>(try omega))<;>first
     |(rw[D3,if_neg (by omega),if_neg (by omega)];rfl)
     |omega
 all_goals (((try simp only[ne_eq,beq_eq_false_iff_ne]at *)<;>(try omega));rw[D3,if_neg (by omega),if_neg (by omega)];rfl)
theorem b74:Ak Tp 280:=⟨_,Tryz.func280,by kernel_rfl,by kernel_rfl⟩
def E0:Nat→List UInt8→Nat→List UInt8→Option (List UInt8×Nat)
 |0,_,_,_=>none
 |k+1,l,i,d=>
  if l.length≤i then none
  else if Ar l i=34∧d.length≤256 then some (d,i+1)
  else if Ar l i=92 then (if (D3 (l.drop i)).2=0 then none else E0 k l (i+(D3 (l.drop i)).2) (d++[UInt8.ofNat (D3 (l.drop i)).1]))
  else if Ar l i=34∨Ar l i<32∨126<Ar l i then none
  else E0 k l (i+1) (d++[UInt8.ofNat (Ar l i)])
def AW:List AV:=[.v (.int .i64 0),.v (.string ⟨#[]⟩),.v (.int .i64 0),.v (.float .f64 0),.v (.int .i64 0),.v (.int .i64 0)]
def Hj:Option (List UInt8×Nat)→AV
 |none=>.tup [.agg AW,.v (.int .i64 11)]
 |some (d,n)=>.tup [AM 4 d 0 f0 0 n,.v (.int .i64 0)]
def Pu(γ:List (Nat×AV))(l:List UInt8)(b:Bool):Nat×List UInt8→St
 |(i,[])=>⟨⟨69,[(0,.sl b l.length l.length (l.map Am)),(2,.ptr 0 0 0),(5,.v (.int .i64 i)),(4,.v (.slice none 0 0))],γ⟩,[⟨0,53,AW⟩]⟩
 |(i,x::d)=>⟨⟨69,[(0,.sl b l.length l.length (l.map Am)),(2,.ptr 0 0 0),(5,.v (.int .i64 i)),(4,.own 2 d.length (x::d).length)],γ⟩,[⟨0,53,AW⟩,⟨0,5,[Am x]⟩,⟨d.length,5,(x::d).map Am⟩]⟩
theorem Pb(γ:List (Nat×AV))(l:List UInt8)(b:Bool)(i:Nat):Pu γ l b (i,[])=⟨⟨69,[(0,.sl b l.length l.length (l.map Am)),(2,.ptr 0 0 0),(5,.v (.int .i64 i)),(4,.v (.slice none 0 0))],γ⟩,[⟨0,53,AW⟩]⟩:=rfl
theorem Ok(γ:List (Nat×AV))(l:List UInt8)(b:Bool)(i:Nat)(x:UInt8)(d:List UInt8):Pu γ l b (i,x::d)=⟨⟨69,[(0,.sl b l.length l.length (l.map Am)),(2,.ptr 0 0 0),(5,.v (.int .i64 i)),(4,.own 2 d.length (x::d).length)],γ⟩,[⟨0,53,AW⟩,⟨0,5,[Am x]⟩,⟨d.length,5,(x::d).map Am⟩]⟩:=rfl
theorem YN(γ:List (Nat×AV))(l:List UInt8)(b:Bool)(i:Nat){D:List UInt8}(h:D≠[]):Pu γ l b (i,D)=⟨⟨69,[(0,.sl b l.length l.length (l.map Am)),(2,.ptr 0 0 0),(5,.v (.int .i64 i)),(4,.own 2 (D.length-1) D.length)],γ⟩,[⟨0,53,AW⟩,⟨0,5,[Am (D.getD 0 0)]⟩,⟨D.length-1,5,D.map Am⟩]⟩:=by
 cases D with
 |nil=>exact absurd rfl h
 |cons x d=>rfl
theorem Pw(γ:List (Nat×AV))(l:List UInt8)(b:Bool)(i:Nat){d:List UInt8}(y:UInt8)(h:d≠[]):Pu γ l b (i,d++[y])=⟨⟨69,[(0,.sl b l.length l.length (l.map Am)),(2,.ptr 0 0 0),(5,.v (.int .i64 i)),(4,.own 2 d.length (d.length+1))],γ⟩,[⟨0,53,AW⟩,⟨0,5,[Am (d.getD 0 0)]⟩,⟨d.length,5,d.map Am++[Am y]⟩]⟩:=by
 cases d with
 |nil=>exact absurd rfl h
 |cons x d=>simp[Pu]
theorem jM(l:List UInt8):(D3 l).2=0∨(D3 l).2=2∨(D3 l).2=4:=by
 unfold D3;split
 ·exact .inr (.inl rfl)
 ·split
  ·exact .inr (.inr rfl)
  ·exact .inl rfl
theorem kY(l:List UInt8):(D3 l).1<256:=by
 unfold D3;split
 ·exact (l.getD 1 0).toNat_lt
 ·split
  ·show JL _ _<256
   unfold JL;have:=H4 (Ar l 2);have:=H4 (Ar l 3);omega
  ·show 0<256;omega
theorem QG(l:List UInt8)(i:Nat):Ar l i<256:=(l.getD i 0).toNat_lt
set_option maxRecDepth 20000 in
theorem U2(b:Bool)(l:List UInt8)(hl:l.length≤140737488351232):Ev Tp γ 243 [.sl b l.length l.length (l.map Am)] (Hj (E0 l.length l 1 [])):=by
 refine Ev.of Tryz.func243 rfl ?_;generalize hR:Hj (E0 l.length l 1 [])=R;simp only[Tryz.f243,Ad,An,seval];refine Ea.intro (Pu γ l b) (fun a=>a.2.length≤a.1∧1≤a.1∧a.1≤l.length+4∧∃ k,l.length≤k+a.1∧Hj (E0 k l a.1 a.2)=R) (fun a=>l.length+4-a.1) (1,[]) ?_ ⟨by simp,by simp,by simp,l.length,by simp,hR⟩ ?_
 ·simp only[Pb,AW,Ad,seval]
  (repeat' (first|(with_reducible refine aI ?_ ?_)|(first|(first|refine gF ?_ ?_|refine gT ?_ ?_|refine cI ?_ ?_|refine pI ?_ ?_)<;>intro h|(refine dI ?_;have h:=trivial))<;>simp only[h,Ad,An,Bv,Bf,seval]))
  all_goals rfl
 ·rintro⟨i,d⟩ ⟨hd,hi1,hi4,k,hk,hR⟩
  have hend:l.length≤i→R=.tup [.agg AW,.v (.int .i64 11)]:=fun h=>by
   rw[←hR];cases k with
   |zero=>rfl
   |succ k=>simp only[E0,if_pos h,Hj]
  have hs:i<l.length→∃ k',l.length≤k'+i+1∧R=Hj (if Ar l i=34∧d.length≤256 then some (d,i+1)
    else if Ar l i=92 then (if (D3 (l.drop i)).2=0 then none else E0 k' l (i+(D3 (l.drop i)).2) (d++[UInt8.ofNat (D3 (l.drop i)).1]))
    else if Ar l i=34∨Ar l i<32∨126<Ar l i then none
    else E0 k' l (i+1) (d++[UInt8.ofNat (Ar l i)])):=fun h=>by
   cases k with
   |zero=>simp only at hk;omega
   |succ k=>
    refine⟨k,by simp only at hk;omega,?_⟩;rw[←hR];simp only[E0,if_neg (show ¬l.length≤i by omega)]
  have ea:(l.getD i 0).toNat=Ar l i:=rfl;have hb256:=QG l i;have hub:((UInt8.ofNat (Ar l i)).toNat:Int)=Ar l i:=by rw[UInt8.toNat_ofNat_of_lt' hb256]
  have hx1:=kY (l.drop i);have hx2:=jM (l.drop i);have hue:((UInt8.ofNat (D3 (l.drop i)).1).toNat:Int)=(D3 (l.drop i)).1:=by rw[UInt8.toNat_ofNat_of_lt' hx1]
  have ew1:IntKind.i64.wrap ((i:Int)+1)=((i+1:Nat):Int):=by simp only at hi4;rw[A4]<;>omega
  have ewn:IntKind.i64.wrap ((i:Int)+((D3 (l.drop i)).2:Nat))=((i+(D3 (l.drop i)).2:Nat):Int):=by simp only at hi4;rw[A4]<;>omega
  clear hR;simp only at hd hi1 hi4 hk
  have hesc:Ev Tp γ 280 [.sl b (l.length-i) (l.length-i) (List.drop i (l.map Am))] (.tup [.v (.int .u8 (D3 (l.drop i)).1),.v (.int .i64 (D3 (l.drop i)).2)]):=by
   have:=OB (γ:=γ) b (l.drop i) (by rw[Bd];omega)
   rwa [Bd,List.map_drop]at this
  by_cases hne:d=[]
  ·subst hne;simp only[Pb,AW,Ad,An,seval]
   (repeat' (first|(with_reducible refine aI ?_ ?_)|(first|(first|refine gF ?_ ?_|refine gT ?_ ?_|refine cI ?_ ?_|refine pI ?_ ?_)<;>intro h|(refine dI ?_;have h:=trivial))<;>simp only[h,ea,Ad,An,AW,Bv,Bf,seval]))
   all_goals try (((try simp only[decide_eq_true_eq,decide_eq_false_iff_not,beq_iff_eq,ne_eq,beq_eq_false_iff_ne]at *)<;>(try omega));done)
   ·((try simp only[decide_eq_true_eq,beq_iff_eq]at *)<;>(try omega))
    obtain⟨k',hk',hR'⟩:=hs (by omega);rw[if_pos ⟨by omega,by simp⟩]at hR';rw[hR',ew1];simp only[Hj,AM,f0,Ad]
   ·((try simp only[decide_eq_true_eq,beq_iff_eq,ne_eq,beq_eq_false_iff_ne]at *)<;>(try omega))
    obtain⟨k',hk',hR'⟩:=hs (by omega);rw[if_neg (by omega),if_pos (by omega)]at hR';refine Ag.intro b74 (by simp only[A0,A6,Bool.and_self]) hesc ?_;simp only[Ad,seval];refine BZ.intro (fun h=>?_) (fun h=>?_)
    ·((try simp only[beq_iff_eq]at *)<;>(try omega))
     rw[if_pos (by omega)]at hR';simp only[Ad,An,seval];rw[hR'];simp only[Hj,AW,Ad]
    ·((try simp only[ne_eq,beq_eq_false_iff_ne]at *)<;>(try omega))
     rw[if_neg (by omega)]at hR';simp only[ewn,Ad,An,seval]
     (repeat' (first|(with_reducible refine aI ?_ ?_)|(first|(first|refine gF ?_ ?_|refine gT ?_ ?_|refine cI ?_ ?_|refine pI ?_ ?_)<;>intro h|(refine dI ?_;have h:=trivial))<;>simp only[h,Ad,An,Bv,Bf,seval]))
     all_goals try (((try simp only[decide_eq_true_eq,decide_eq_false_iff_not,beq_iff_eq,bne_iff_ne,ne_eq,beq_eq_false_iff_ne,bne_eq_false_iff_eq]at *)<;>(try omega));done)
     all_goals try exact EO _
     refine Cg.intro (i+(D3 (l.drop i)).2,[UInt8.ofNat (D3 (l.drop i)).1]) ⟨by simp only[BC,BD]at *;omega,by simp only;omega,by simp only;omega,k',by simp only;omega,hR'.symm⟩ ?_ (by simp only;omega);refine⟨rfl,rfl,?_,.inl ?_⟩<;>simp only[Ok,AW,Am,hue,Ad,seval]<;>try (first|rfl|trivial|(simp[Am,hue,hub,CM];done))
   ·((try simp only[decide_eq_true_eq,decide_eq_false_iff_not,ne_eq,beq_eq_false_iff_ne]at *)<;>(try omega))
    obtain⟨k',hk',hR'⟩:=hs (by omega);rw[if_neg (by omega),if_neg (by omega),if_pos (by omega)]at hR';rw[hR'];simp only[Hj,AW,Ad]
   ·((try simp only[decide_eq_true_eq,decide_eq_false_iff_not,ne_eq,beq_eq_false_iff_ne]at *)<;>(try omega))
    obtain⟨k',hk',hR'⟩:=hs (by omega);rw[if_neg (by omega),if_neg (by omega),if_neg (by omega)]at hR';rw[ew1];refine Cg.intro (i+1,[UInt8.ofNat (Ar l i)]) ⟨by simp only[BC,BD]at *;omega,by simp only;omega,by simp only;omega,k',by simp only;omega,hR'.symm⟩ ?_ (by simp only;omega);refine⟨rfl,rfl,?_,.inl ?_⟩<;>simp only[Ok,AW,Am,hub,Ad,seval]<;>try (first|rfl|trivial|(simp[Am,hue,hub,CM];done))
   ·((try simp only[decide_eq_true_eq,ne_eq,beq_eq_false_iff_ne]at *)<;>(try omega))
    obtain⟨k',hk',hR'⟩:=hs (by omega);rw[if_neg (by omega),if_neg (by omega),if_pos (by omega)]at hR';rw[hR'];simp only[Hj,AW,Ad]
   ·((try simp only[decide_eq_false_iff_not]at *)<;>(try omega))
    rw[hend (by omega)];simp only[AW,Ad]
  ·have hp:0<d.length:=List.length_pos_iff.2 hne;have ev1:d.length-1+1=d.length:=by omega
   have ev2:d.length+1-1=d.length:=by omega
   simp only[YN γ l b i hne,AW,Ad,An,seval]
   (repeat' (first|(with_reducible refine aI ?_ ?_)|(first|(first|refine gF ?_ ?_|refine gT ?_ ?_|refine cI ?_ ?_|refine pI ?_ ?_)<;>intro h|(refine dI ?_;have h:=trivial))<;>simp only[h,ea,Ad,An,AW,Bv,Bf,seval]))
   all_goals try (((try simp only[decide_eq_true_eq,decide_eq_false_iff_not,beq_iff_eq,ne_eq,beq_eq_false_iff_ne]at *)<;>(try omega));done)
   ·((try simp only[decide_eq_true_eq,beq_iff_eq]at *)<;>(try omega))
    obtain⟨k',hk',hR'⟩:=hs (by omega);rw[if_pos ⟨by omega,by omega⟩]at hR';rw[hR',ew1];simp only[Hj,AM,f0,Ad]
   ·((try simp only[decide_eq_true_eq,decide_eq_false_iff_not,beq_iff_eq,ne_eq,beq_eq_false_iff_ne]at *)<;>(try omega))
    obtain⟨k',hk',hR'⟩:=hs (by omega);rw[if_neg (by omega),if_neg (by omega),if_pos (by omega)]at hR';rw[hR'];simp only[Hj,AW,Ad]
   ·((try simp only[decide_eq_true_eq,beq_iff_eq,ne_eq,beq_eq_false_iff_ne]at *)<;>(try omega))
    obtain⟨k',hk',hR'⟩:=hs (by omega);rw[if_neg (by omega),if_pos (by omega)]at hR';refine Ag.intro b74 (by simp only[A0,A6,Bool.and_self]) hesc ?_;simp only[Ad,seval];refine BZ.intro (fun h=>?_) (fun h=>?_)
    ·((try simp only[beq_iff_eq]at *)<;>(try omega))
     rw[if_pos (by omega)]at hR';simp only[Ad,An,seval];rw[hR'];simp only[Hj,AW,Ad]
    ·((try simp only[ne_eq,beq_eq_false_iff_ne]at *)<;>(try omega))
     rw[if_neg (by omega)]at hR';simp only[ewn,Ad,An,seval]
     (repeat' (first|(with_reducible refine aI ?_ ?_)|(first|(first|refine gF ?_ ?_|refine gT ?_ ?_|refine cI ?_ ?_|refine pI ?_ ?_)<;>intro h|(refine dI ?_;have h:=trivial))<;>simp only[h,Ad,An,Bv,Bf,seval]))
     all_goals try (((try simp only[decide_eq_true_eq,decide_eq_false_iff_not,beq_iff_eq,bne_iff_ne,ne_eq,beq_eq_false_iff_ne,bne_eq_false_iff_eq]at *)<;>(try omega));done)
     all_goals try exact EO _
     refine Cg.intro (i+(D3 (l.drop i)).2,d++[UInt8.ofNat (D3 (l.drop i)).1]) ⟨by simp only[Bp,BC,BD]at *;omega,by simp only;omega,by simp only;omega,k',by simp only;omega,hR'.symm⟩ ?_ (by simp only;omega);have hT:=Pw γ l b (i+(D3 (l.drop i)).2) (UInt8.ofNat (D3 (l.drop i)).1) hne;refine⟨by rw[hT],by rw[hT],?_,.inr ?_⟩<;>rw[hT]
     ·simp only[ev1,Ad,seval]<;>try (first|rfl|trivial|(simp[Am,hue,hub,CM];done))
     ·refine⟨?_,?_,?_⟩<;>simp only[AW,Am,hue,AK,CM,okRefB,Iv,EA,Bool.and_self,decide_true,ev1,Ad,seval]<;>try (first|rfl|trivial|(simp[Am,hue,hub,CM];done))
   ·((try simp only[decide_eq_true_eq,decide_eq_false_iff_not,ne_eq,beq_eq_false_iff_ne]at *)<;>(try omega))
    obtain⟨k',hk',hR'⟩:=hs (by omega);rw[if_neg (by omega),if_neg (by omega),if_pos (by omega)]at hR';rw[hR'];simp only[Hj,AW,Ad]
   ·((try simp only[decide_eq_true_eq,decide_eq_false_iff_not,ne_eq,beq_eq_false_iff_ne]at *)<;>(try omega))
    obtain⟨k',hk',hR'⟩:=hs (by omega);rw[if_neg (by omega),if_neg (by omega),if_neg (by omega)]at hR';rw[ew1];refine Cg.intro (i+1,d++[UInt8.ofNat (Ar l i)]) ⟨by simp only[Bp,BC,BD]at *;omega,by simp only;omega,by simp only;omega,k',by simp only;omega,hR'.symm⟩ ?_ (by simp only;omega);have hT:=Pw γ l b (i+1) (UInt8.ofNat (Ar l i)) hne;refine⟨by rw[hT],by rw[hT],?_,.inr ?_⟩<;>rw[hT]
    ·simp only[ev1,Ad,seval]<;>try (first|rfl|trivial|(simp[Am,hue,hub,CM];done))
    ·refine⟨?_,?_,?_⟩<;>simp only[AW,Am,hub,AK,CM,okRefB,Iv,EA,Bool.and_self,decide_true,ev1,Ad,seval]<;>try (first|rfl|trivial|(simp[Am,hue,hub,CM];done))
   ·((try simp only[decide_eq_true_eq,ne_eq,beq_eq_false_iff_ne]at *)<;>(try omega))
    obtain⟨k',hk',hR'⟩:=hs (by omega);rw[if_neg (by omega),if_neg (by omega),if_pos (by omega)]at hR';rw[hR'];simp only[Hj,AW,Ad]
   ·((try simp only[decide_eq_false_iff_not]at *)<;>(try omega))
    rw[hend (by omega)];simp only[AW,Ad]
def AP(l:List UInt8)(i:Nat):Nat×Nat:=
 if l.length≤i∨Ar l i<32∨126<Ar l i∨Ar l i=34 then (0,0)
 else if Ar l i≠92 then (Ar l i,1)
 else if l.length<i+2 then (0,0)
 else if Ar l (i+1)=34 then (34,2)
 else if Ar l (i+1)=92 then (92,2)
 else if Ar l (i+1)=120∧i+4≤l.length∧0≤DV (Ar l (i+2))∧0≤DV (Ar l (i+3))∧(JL (Ar l (i+2)) (Ar l (i+3))<32∨126<JL (Ar l (i+2)) (Ar l (i+3)))then (JL (Ar l (i+2)) (Ar l (i+3)),4)
 else (0,0)
set_option maxRecDepth 20000 in
theorem Uk(b:Bool)(l:List UInt8)(i:Nat)(hl:l.length≤140737488351232)(hi:i≤l.length):Ev Tp γ 209 [.sl b l.length l.length (l.map Am),.v (.int .i64 i)] (.tup [.v (.int .u8 (AP l i).1),.v (.int .i64 (AP l i).2)]):=by
 refine Ev.of Tryz.func209 rfl ?_;have ew:IntKind.i64.wrap ((l.length:Int)-i)=((l.length-i:Nat):Int):=by rw[A4]<;>omega
 have e1:IntKind.i64.wrap ((i:Int)+1)=((i+1:Nat):Int):=by rw[A4]<;>omega
 have e2:IntKind.i64.wrap ((i:Int)+2)=((i+2:Nat):Int):=by rw[A4]<;>omega
 have e3:IntKind.i64.wrap ((i:Int)+3)=((i+3:Nat):Int):=by rw[A4]<;>omega
 have ea:∀ j,(l.getD j 0).toNat=Ar l j:=fun _=>rfl
 have x2:=H4 (Ar l (i+2));have x3:=H4 (Ar l (i+3));have w1:IntKind.i64.wrap (16 * DV (Ar l (i+2)))=16 * DV (Ar l (i+2)):=by rw[A4]<;>omega
 have w2:IntKind.i64.wrap (16 * DV (Ar l (i+2))+DV (Ar l (i+3)))=16 * DV (Ar l (i+2))+DV (Ar l (i+3)):=by rw[A4]<;>omega
 have h2:=P7 (γ:=γ) (Ar l (i+2)) (QG l _);have h3:=P7 (γ:=γ) (Ar l (i+3)) (QG l _);simp only[Tryz.f209,ew,Ad,An,seval]
 (repeat' (first|(with_reducible refine aI ?_ ?_)|(first|(first|refine gF ?_ ?_|refine gT ?_ ?_|refine cI ?_ ?_|refine pI ?_ ?_)<;>intro h|(refine dI ?_;have h:=trivial))<;>simp only[h,e1,e2,ea,Ad,An,ew,e3,w1,w2,Bv,Bf,seval]))
 all_goals try (((try simp only[decide_eq_true_eq,decide_eq_false_iff_not,beq_iff_eq,bne_iff_ne,ne_eq,beq_eq_false_iff_ne,bne_eq_false_iff_eq]at *)<;>(try omega));done)
 all_goals try (((try simp only[decide_eq_true_eq,decide_eq_false_iff_not,beq_iff_eq,bne_iff_ne,ne_eq,beq_eq_false_iff_ne,bne_eq_false_iff_eq]at *)<;>(try omega))<;>first|(rw[AP,if_pos (by omega)]<;>rfl)|(rw[AP,if_neg (by omega),if_pos (by omega)]<;>rfl)|(rw[AP,if_neg (by omega),if_neg (by omega),if_pos (by omega)]<;>rfl)|(rw[AP,if_neg (by omega),if_neg (by omega),if_neg (by omega),if_pos (by omega)]<;>rfl)|(rw[AP,if_neg (by omega),if_neg (by omega),if_neg (by omega),if_neg (by omega),if_pos (by omega)]<;>rfl)|(rw[AP,if_neg (by omega),if_neg (by omega),if_neg (by omega),if_neg (by omega),if_neg (by omega),if_pos (by omega)]<;>rfl)|(rw[AP,if_neg (by omega),if_neg (by omega),if_neg (by omega),if_neg (by omega),if_neg (by omega),if_neg (by omega)]<;>rfl))
 ·refine Ag.intro pL rfl h2 ?_;simp only[Ad,seval]
  (repeat' (first|(with_reducible refine aI ?_ ?_)|(first|(first|refine gF ?_ ?_|refine gT ?_ ?_|refine cI ?_ ?_|refine pI ?_ ?_)<;>intro h|(refine dI ?_;have h:=trivial))<;>simp only[h,e3,ea,Ad,An,e2,w1,w2,Bv,Bf,seval]))
  all_goals try (((try simp only[decide_eq_true_eq,decide_eq_false_iff_not,beq_iff_eq,ne_eq,beq_eq_false_iff_ne,bne_eq_false_iff_eq]at *)<;>(try omega));done)
  all_goals try (((try simp only[decide_eq_true_eq,decide_eq_false_iff_not,beq_iff_eq,ne_eq,beq_eq_false_iff_ne,bne_eq_false_iff_eq]at *)<;>(try omega))<;>first|(rw[AP,if_pos (by omega)]<;>rfl)|(rw[AP,if_neg (by omega),if_pos (by omega)]<;>rfl)|(rw[AP,if_neg (by omega),if_neg (by omega),if_pos (by omega)]<;>rfl)|(rw[AP,if_neg (by omega),if_neg (by omega),if_neg (by omega),if_pos (by omega)]<;>rfl)|(rw[AP,if_neg (by omega),if_neg (by omega),if_neg (by omega),if_neg (by omega),if_pos (by omega)]<;>rfl)|(rw[AP,if_neg (by omega),if_neg (by omega),if_neg (by omega),if_neg (by omega),if_neg (by omega),if_pos (by omega)]<;>rfl)|(rw[AP,if_neg (by omega),if_neg (by omega),if_neg (by omega),if_neg (by omega),if_neg (by omega),if_neg (by omega)]<;>rfl))
  refine Ag.intro pL rfl h3 ?_;simp only[Ad,seval]
  (repeat' (first|(with_reducible refine aI ?_ ?_)|(first|(first|refine gF ?_ ?_|refine gT ?_ ?_|refine cI ?_ ?_|refine pI ?_ ?_)<;>intro h|(refine dI ?_;have h:=trivial))<;>simp only[h,Ad,e2,ea,An,seval]))
  all_goals try (((try simp only[decide_eq_true_eq,decide_eq_false_iff_not,beq_iff_eq,ne_eq,beq_eq_false_iff_ne,bne_eq_false_iff_eq]at *)<;>(try omega));done)
  all_goals try (((try simp only[decide_eq_true_eq,decide_eq_false_iff_not,beq_iff_eq,ne_eq,beq_eq_false_iff_ne,bne_eq_false_iff_eq]at *)<;>(try omega))<;>first|(rw[AP,if_pos (by omega)]<;>rfl)|(rw[AP,if_neg (by omega),if_pos (by omega)]<;>rfl)|(rw[AP,if_neg (by omega),if_neg (by omega),if_pos (by omega)]<;>rfl)|(rw[AP,if_neg (by omega),if_neg (by omega),if_neg (by omega),if_pos (by omega)]<;>rfl)|(rw[AP,if_neg (by omega),if_neg (by omega),if_neg (by omega),if_neg (by omega),if_pos (by omega)]<;>rfl)|(rw[AP,if_neg (by omega),if_neg (by omega),if_neg (by omega),if_neg (by omega),if_neg (by omega),if_pos (by omega)]<;>rfl)|(rw[AP,if_neg (by omega),if_neg (by omega),if_neg (by omega),if_neg (by omega),if_neg (by omega),if_neg (by omega)]<;>rfl))
  refine Ag.intro pL rfl h2 ?_;simp only[w1,e3,ea,Ad,An,seval]
  (repeat' (first|(with_reducible refine aI ?_ ?_)|(first|(first|refine gF ?_ ?_|refine gT ?_ ?_|refine cI ?_ ?_|refine pI ?_ ?_)<;>intro h|(refine dI ?_;have h:=trivial))<;>simp only[h,e2,e3,ea,w1,w2,Ad,An,Bv,Bf,seval]))
  all_goals try (((try simp only[decide_eq_true_eq,decide_eq_false_iff_not,beq_iff_eq,ne_eq,beq_eq_false_iff_ne,bne_eq_false_iff_eq]at *)<;>(try omega));done)
  refine Ag.intro pL rfl h3 ?_
  by_cases hh:0≤DV (Ar l (i+2))∧0≤DV (Ar l (i+3))
  ·have u1:IntKind.u8.wrap (16 * DV (Ar l (i+2))+DV (Ar l (i+3)))=(JL (Ar l (i+2)) (Ar l (i+3)):Int):=by
    rw[jI (by omega) (by omega)];unfold JL;omega
   simp only[w2,u1,Ad,An,seval]
   (repeat' (first|(with_reducible refine aI ?_ ?_)|(first|(first|refine gF ?_ ?_|refine gT ?_ ?_|refine cI ?_ ?_|refine pI ?_ ?_)<;>intro h|(refine dI ?_;have h:=trivial))<;>simp only[h,Ad,An,Bv,Bf,seval]))
   all_goals try (((try simp only[decide_eq_true_eq,decide_eq_false_iff_not,beq_iff_eq,ne_eq,beq_eq_false_iff_ne,bne_eq_false_iff_eq]at *)<;>(try omega))<;>first|(rw[AP,if_pos (by omega)]<;>rfl)|(rw[AP,if_neg (by omega),if_pos (by omega)]<;>rfl)|(rw[AP,if_neg (by omega),if_neg (by omega),if_pos (by omega)]<;>rfl)|(rw[AP,if_neg (by omega),if_neg (by omega),if_neg (by omega),if_pos (by omega)]<;>rfl)|(rw[AP,if_neg (by omega),if_neg (by omega),if_neg (by omega),if_neg (by omega),if_pos (by omega)]<;>rfl)|(rw[AP,if_neg (by omega),if_neg (by omega),if_neg (by omega),if_neg (by omega),if_neg (by omega),if_pos (by omega)]<;>rfl)|(rw[AP,if_neg (by omega),if_neg (by omega),if_neg (by omega),if_neg (by omega),if_neg (by omega),if_neg (by omega)]<;>rfl))
  ·((try simp only[decide_eq_true_eq,decide_eq_false_iff_not,beq_iff_eq,ne_eq,beq_eq_false_iff_ne,bne_eq_false_iff_eq]at *)<;>(try omega))
theorem b68:Ak Tp 209:=⟨_,Tryz.func209,by kernel_rfl,by kernel_rfl⟩
def Ef:Nat→List UInt8→Nat→List UInt8→List UInt8×Nat
 |0,_,i,d=>(d,i)
 |k+1,l,i,d=>if (AP l i).2=0 then (d,i)else Ef k l (i+(AP l i).2) (d++[UInt8.ofNat (AP l i).1])
theorem cR(l:List UInt8)(i:Nat):(AP l i).2=0∨(i+(AP l i).2≤l.length∧(AP l i).2≤4):=by
 unfold AP
 split
 ·exact .inl rfl
 ·split
  ·right;constructor
   ·show i+1≤_;omega
   ·show 1≤4;omega
  ·split
   ·exact .inl rfl
   ·split
    ·right;constructor
     ·show i+2≤_;omega
     ·show 2≤4;omega
    ·split
     ·right;constructor
      ·show i+2≤_;omega
      ·show 2≤4;omega
     ·split
      ·right;constructor
       ·show i+4≤_;omega
       ·show 4≤4;omega
      ·exact .inl rfl
theorem iB(l:List UInt8)(i:Nat):(AP l i).1<256:=by
 unfold AP;have:=H4 (Ar l (i+2));have:=H4 (Ar l (i+3))
 split
 ·show 0<256;omega
 ·split
  ·exact QG l i
  ·split
   ·show 0<256;omega
   ·split
    ·show 34<256;omega
    ·split
     ·show 92<256;omega
     ·split
      ·show JL _ _<256
       unfold JL;omega
      ·show 0<256;omega
def Dx(l:List UInt8)(at':Nat)(q:List UInt8×Nat):AV:=
 if l.length≤q.2∨Ar l q.2≠34∨256<q.1.length then .tup [.agg AW,.v (.int .i64 11)]
 else .tup [AM 4 q.1 0 f0 at' ((q.2+1-at':Nat):Int),.v (.int .i64 0)]
def L0(γ:List (Nat×AV))(l:List UInt8)(b:Bool)(p:Nat):Nat×List UInt8→St
 |(i,[])=>⟨⟨52,[(0,.sl b l.length l.length (l.map Am)),(1,.v (.int .i64 p)),(4,.ptr 0 0 0),(6,.v (.int .i64 i)),(7,.v (.slice none 0 0))],γ⟩,[⟨0,54,AW⟩]⟩
 |(i,x::d)=>⟨⟨52,[(0,.sl b l.length l.length (l.map Am)),(1,.v (.int .i64 p)),(4,.ptr 0 0 0),(6,.v (.int .i64 i)),(7,.own 2 d.length (x::d).length)],γ⟩,[⟨0,54,AW⟩,⟨0,5,[Am x]⟩,⟨d.length,5,(x::d).map Am⟩]⟩
theorem Oe(γ:List (Nat×AV))(l:List UInt8)(b:Bool)(p i:Nat):L0 γ l b p (i,[])=⟨⟨52,[(0,.sl b l.length l.length (l.map Am)),(1,.v (.int .i64 p)),(4,.ptr 0 0 0),(6,.v (.int .i64 i)),(7,.v (.slice none 0 0))],γ⟩,[⟨0,54,AW⟩]⟩:=rfl
theorem U9(γ:List (Nat×AV))(l:List UInt8)(b:Bool)(p i:Nat)(x:UInt8):L0 γ l b p (i,[x])=⟨⟨52,[(0,.sl b l.length l.length (l.map Am)),(1,.v (.int .i64 p)),(4,.ptr 0 0 0),(6,.v (.int .i64 i)),(7,.own 2 0 1)],γ⟩,[⟨0,54,AW⟩,⟨0,5,[Am x]⟩,⟨0,5,[Am x]⟩]⟩:=rfl
theorem Xy(γ:List (Nat×AV))(l:List UInt8)(b:Bool)(p i:Nat){D:List UInt8}(h:D≠[]):L0 γ l b p (i,D)=⟨⟨52,[(0,.sl b l.length l.length (l.map Am)),(1,.v (.int .i64 p)),(4,.ptr 0 0 0),(6,.v (.int .i64 i)),(7,.own 2 (D.length-1) D.length)],γ⟩,[⟨0,54,AW⟩,⟨0,5,[Am (D.getD 0 0)]⟩,⟨D.length-1,5,D.map Am⟩]⟩:=by
 cases D with
 |nil=>exact absurd rfl h
 |cons x d=>rfl
theorem U6(γ:List (Nat×AV))(l:List UInt8)(b:Bool)(p i:Nat){d:List UInt8}(y:UInt8)(h:d≠[]):L0 γ l b p (i,d++[y])=⟨⟨52,[(0,.sl b l.length l.length (l.map Am)),(1,.v (.int .i64 p)),(4,.ptr 0 0 0),(6,.v (.int .i64 i)),(7,.own 2 d.length (d.length+1))],γ⟩,[⟨0,54,AW⟩,⟨0,5,[Am (d.getD 0 0)]⟩,⟨d.length,5,d.map Am++[Am y]⟩]⟩:=by
 cases d with
 |nil=>exact absurd rfl h
 |cons x d=>simp[L0]
set_option maxRecDepth 20000 in
theorem TR(b:Bool)(l:List UInt8)(p:Nat)(hl:l.length≤140737488351232)(hp:p<l.length):Ev Tp γ 141 [.sl b l.length l.length (l.map Am),.v (.int .i64 p)] (Dx l p (Ef l.length l (p+1) [])):=by
 refine Ev.of Tryz.func141 rfl ?_;generalize hR:Dx l p (Ef l.length l (p+1) [])=R;have ep:IntKind.i64.wrap ((p:Int)+1)=((p+1:Nat):Int):=by rw[A4]<;>omega
 simp only[Tryz.f141,ep,Ad,An,seval];refine Ea.intro (L0 γ l b p) (fun a=>a.2.length≤a.1∧p+1≤a.1∧a.1≤l.length∧∃ k,l.length≤k+a.1∧Dx l p (Ef k l a.1 a.2)=R) (fun a=>l.length-a.1) (p+1,[]) ?_ ⟨by simp,by simp,by simp;omega,l.length,by simp,hR⟩ ?_
 ·simp only[Oe,AW,Ad,seval]
  (repeat' (first|(with_reducible refine aI ?_ ?_)|(first|(first|refine gF ?_ ?_|refine gT ?_ ?_|refine cI ?_ ?_|refine pI ?_ ?_)<;>intro h|(refine dI ?_;have h:=trivial))<;>simp only[h,Ad,An,Bv,Bf,seval]))
  all_goals rfl
 ·rintro⟨i,d⟩ ⟨hd,hi1,hi4,k,hk,hR⟩
  simp only at hd hi1 hi4 hk hR;have ea:∀ j,(l.getD j 0).toNat=Ar l j:=fun _=>rfl
  have hx1:=iB l i;have hx2:=cR l i;have hue:((UInt8.ofNat (AP l i).1).toNat:Int)=(AP l i).1:=by rw[UInt8.toNat_ofNat_of_lt' hx1]
  have ei:IntKind.i64.wrap ((i:Int)+1)=((i+1:Nat):Int):=by rw[A4]<;>omega
  have ei2:IntKind.i64.wrap (((i+1:Nat):Int)-p)=((i+1-p:Nat):Int):=by rw[A4]<;>omega
  have ewn:IntKind.i64.wrap ((i:Int)+((AP l i).2:Nat))=((i+(AP l i).2:Nat):Int):=by rw[A4]<;>omega
  have hstop:(AP l i).2=0→R=Dx l p (d,i):=fun h=>by
   rw[←hR];cases k with
   |zero=>rfl
   |succ k=>simp only[Ef,if_pos h]
  have hgo:(AP l i).2≠0→∃ k',l.length≤k'+(i+(AP l i).2)∧Dx l p (Ef k' l (i+(AP l i).2) (d++[UInt8.ofNat (AP l i).1]))=R:=fun h=>by
   cases k with
   |zero=>omega
   |succ k=>exact⟨k,by omega,by rw[←hR];simp only[Ef,if_neg h]⟩
  have hpart:=Uk (γ:=γ) b l i hl hi4;clear hR
  by_cases hne:d=[]
  ·subst hne;simp only[Oe,AW,Ad,seval];refine Ag.intro b68 (by simp only[A0,A6,Bool.and_self]) hpart ?_;simp only[Ad,seval];refine BZ.intro (fun h=>?_) (fun h=>?_)
   ·simp only[h,Ad,An,seval]
    (repeat' (first|(with_reducible refine aI ?_ ?_)|(first|(first|refine gF ?_ ?_|refine gT ?_ ?_|refine cI ?_ ?_|refine pI ?_ ?_)<;>intro h|(refine dI ?_;have h:=trivial))<;>simp only[h,ea,ei,ei2,Ad,An,AW,Bv,Bf,seval]))
    all_goals try (((try simp only[decide_eq_true_eq,decide_eq_false_iff_not,beq_iff_eq,bne_iff_ne,ne_eq,bne_eq_false_iff_eq]at *)<;>(try omega));done)
    ·((try simp only[decide_eq_false_iff_not,beq_iff_eq,ne_eq,bne_eq_false_iff_eq]at *)<;>(try omega))
     rw[hstop (by omega),Dx,if_neg (by simp only[BD];omega)];simp only[AM,f0,Ad]
    ·((try simp only[decide_eq_false_iff_not,beq_iff_eq,bne_iff_ne,ne_eq]at *)<;>(try omega))
     rw[hstop (by omega),Dx,if_pos (by simp only;omega)];simp only[AW,Ad]
    ·((try simp only[decide_eq_true_eq,beq_iff_eq,ne_eq]at *)<;>(try omega))
     rw[hstop (by omega),Dx,if_pos (by simp only;omega)];simp only[AW,Ad]
   ·simp only[h,ewn,Ad,An,seval]
    (repeat' (first|(with_reducible refine aI ?_ ?_)|(first|(first|refine gF ?_ ?_|refine gT ?_ ?_|refine cI ?_ ?_|refine pI ?_ ?_)<;>intro h|(refine dI ?_;have h:=trivial))<;>simp only[h,Ad,An,Bv,Bf,seval]))
    all_goals try (((try simp only[ne_eq,beq_eq_false_iff_ne]at *)<;>(try omega));done)
    ((try simp only[ne_eq,beq_eq_false_iff_ne]at *)<;>(try omega))
    obtain⟨k',hk',hR'⟩:=hgo (by omega);refine Cg.intro (i+(AP l i).2,[UInt8.ofNat (AP l i).1]) ⟨by simp only[BC,BD];omega,by simp only;omega,by simp only;omega,k',by simp only;omega,hR'⟩ ?_ (by simp only;omega);refine⟨rfl,rfl,?_,.inl ?_⟩<;>simp only[U9,AW,Am,hue,Ad,seval]<;>try (first|rfl|trivial|(simp[Am,hue];done))
  ·have hpos:0<d.length:=List.length_pos_iff.2 hne;have ev1:d.length-1+1=d.length:=by omega
   have ev2:d.length+1-1=d.length:=by omega
   simp only[Xy γ l b p i hne,AW,Ad,seval];refine Ag.intro b68 (by simp only[A0,A6,Bool.and_self]) hpart ?_;simp only[Ad,seval];refine BZ.intro (fun h=>?_) (fun h=>?_)
   ·simp only[h,Ad,An,seval]
    (repeat' (first|(with_reducible refine aI ?_ ?_)|(first|(first|refine gF ?_ ?_|refine gT ?_ ?_|refine cI ?_ ?_|refine pI ?_ ?_)<;>intro h|(refine dI ?_;have h:=trivial))<;>simp only[h,ea,ei,ei2,Ad,An,AW,Bv,Bf,seval]))
    all_goals try (((try simp only[decide_eq_true_eq,decide_eq_false_iff_not,beq_iff_eq,bne_iff_ne,ne_eq,bne_eq_false_iff_eq]at *)<;>(try omega));done)
    ·((try simp only[decide_eq_true_eq,decide_eq_false_iff_not,beq_iff_eq,ne_eq,bne_eq_false_iff_eq]at *)<;>(try omega))
     rw[hstop (by omega),Dx,if_pos (by simp only;omega)];simp only[AW,Ad]
    ·((try simp only[decide_eq_false_iff_not,beq_iff_eq,ne_eq,bne_eq_false_iff_eq]at *)<;>(try omega))
     rw[hstop (by omega),Dx,if_neg (by simp only;omega)];simp only[AM,f0,Ad]
    ·((try simp only[decide_eq_false_iff_not,beq_iff_eq,bne_iff_ne,ne_eq]at *)<;>(try omega))
     rw[hstop (by omega),Dx,if_pos (by simp only;omega)];simp only[AW,Ad]
    ·((try simp only[decide_eq_true_eq,beq_iff_eq,ne_eq]at *)<;>(try omega))
     rw[hstop (by omega),Dx,if_pos (by simp only;omega)];simp only[AW,Ad]
   ·simp only[h,ewn,Ad,An,seval]
    (repeat' (first|(with_reducible refine aI ?_ ?_)|(first|(first|refine gF ?_ ?_|refine gT ?_ ?_|refine cI ?_ ?_|refine pI ?_ ?_)<;>intro h|(refine dI ?_;have h:=trivial))<;>simp only[h,Ad,An,Bv,Bf,seval]))
    all_goals try (((try simp only[ne_eq,beq_eq_false_iff_ne]at *)<;>(try omega));done)
    all_goals try exact EO _
    ((try simp only[ne_eq,beq_eq_false_iff_ne]at *)<;>(try omega))
    obtain⟨k',hk',hR'⟩:=hgo (by omega);refine Cg.intro (i+(AP l i).2,d++[UInt8.ofNat (AP l i).1]) ⟨by simp only[Bp,BC,BD];omega,by simp only;omega,by simp only;omega,k',by simp only;omega,hR'⟩ ?_ (by simp only;omega);have hT:=U6 γ l b p (i+(AP l i).2) (UInt8.ofNat (AP l i).1) hne;refine⟨by rw[hT],by rw[hT],?_,.inr ?_⟩<;>rw[hT]
    ·simp only[ev1,Ad,seval]<;>try (first|rfl|trivial|(simp[Am,hue,CM];done))
    ·refine⟨?_,?_,?_⟩<;>simp only[AW,Am,hue,AK,CM,okRefB,Iv,EA,Bool.and_self,decide_true,ev1,Ad,seval]<;>try (first|rfl|trivial|(simp[Am,hue,CM];done))
end Go.Proofs.YtlobiioioicmhaaGreatDoor
