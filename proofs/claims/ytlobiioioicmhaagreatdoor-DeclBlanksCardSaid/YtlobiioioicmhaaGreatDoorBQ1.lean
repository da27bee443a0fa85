/- A part of the proof. -/
import Derived.Test.YtlobiioioicmhaaGreatDoorBU7
import Derived.Test.YtlobiioioicmhaaGreatDoorProg
import Derived.KernelRfl
set_option linter.all false
set_option maxHeartbeats 8000000
namespace Go.Proofs.YtlobiioioicmhaaGreatDoor
open _root_.Bool renaming not_true→Bv,not_false→Bf
open _root_.List renaming length_append→Bp,getElem?_eq_none→Bq,length_drop→Bd,length_cons→BC,length_nil→BD
open Go.Proofs.Tryz renaming prog→Tp
open Go Go.Ev
set_option maxRecDepth 20000
theorem tyS:aggT Tp 2=some false∧
  aggT Tp 37=some false∧
  aggT Tp 3=some false∧
  aggT Tp 22=some false∧
  aggT Tp 53=some true∧
  aggT Tp 48=some false∧
  aggT Tp 5=some false∧
  aggT Tp 54=some true∧
  aggT Tp 9=some false∧
  appT Tp 37 37=some (5,1,1)∧
  appT Tp 47 47=some (54,6,56)∧
  appT Tp 48 48=some (53,6,56)∧
  elemT Tp 37=some 5∧
  elemT Tp 47=some 54∧
  elemT Tp 48=some 53∧
  fieldT Tp 53 0=some (0,3)∧
  fieldT Tp 53 1=some (1,9)∧
  fieldT Tp 53 2=some (2,2)∧
  fieldT Tp 53 3=some (3,22)∧
  fieldT Tp 53 4=some (4,3)∧
  fieldT Tp 53 5=some (5,3)∧
  fieldT Tp 54 0=some (0,3)∧
  fieldT Tp 54 1=some (1,9)∧
  fieldT Tp 54 2=some (2,2)∧
  fieldT Tp 54 3=some (3,22)∧
  fieldT Tp 54 4=some (4,3)∧
  fieldT Tp 54 5=some (5,3)∧
  fltT Tp 2=none∧
  fltT Tp 21=none∧
  fltT Tp 37=none∧
  fltT Tp 3=none∧
  fltT Tp 22=some .f64∧
  fltT Tp 176=none∧
  fltT Tp 5=none∧
  fltT Tp 9=none∧
  intT Tp 2=some .i64∧
  intT Tp 21=some .i32∧
  intT Tp 37=none∧
  intT Tp 3=some .i64∧
  intT Tp 22=none∧
  intT Tp 176=some .u64∧
  intT Tp 5=some .u8∧
  intT Tp 9=none∧
  mkT Tp 37=some (5,1,[.v (.int .u8 0)])∧
  mkT Tp 47=some (54,6,[.v (.int .i64 0),.v (.string ⟨#[]⟩),.v (.int .i64 0),.v (.float .f64 0),.v (.int .i64 0),.v (.int .i64 0)])∧
  mkT Tp 48=some (53,6,[.v (.int .i64 0),.v (.string ⟨#[]⟩),.v (.int .i64 0),.v (.float .f64 0),.v (.int .i64 0),.v (.int .i64 0)])∧
  placesT Tp 53=some [(0,1),(1,1),(2,1),(3,1),(4,1),(5,1)]∧
  placesT Tp 54=some [(0,1),(1,1),(2,1),(3,1),(4,1),(5,1)]∧
  sizeT Tp 2=some 1∧
  sizeT Tp 26=some 1∧
  sizeT Tp 3=some 1∧
  sizeT Tp 22=some 1∧
  sizeT Tp 53=some 6∧
  sizeT Tp 48=some 1∧
  sizeT Tp 5=some 1∧
  sizeT Tp 54=some 6∧
  sizeT Tp 9=some 1∧
  strT Tp 2=false∧
  strT Tp 21=false∧
  strT Tp 37=false∧
  strT Tp 3=false∧
  strT Tp 22=false∧
  strT Tp 176=false∧
  strT Tp 5=false∧
  strT Tp 9=true∧
  (Tryz.prog.underlying 2).isSome=true∧
  (Tryz.prog.underlying 21).isSome=true∧
  (Tryz.prog.underlying 37).isSome=true∧
  (Tryz.prog.underlying 3).isSome=true∧
  (Tryz.prog.underlying 176).isSome=true∧
  (Tryz.prog.underlying 5).isSome=true∧
  zcT Tp 26=some [.v (.int .i64 0)]∧
  zcT Tp 3=some [.v (.int .i64 0)]∧
  zcT Tp 53=some [.v (.int .i64 0),.v (.string ⟨#[]⟩),.v (.int .i64 0),.v (.float .f64 0),.v (.int .i64 0),.v (.int .i64 0)]∧
  zcT Tp 48=some [.v (.slice none 0 0)]∧
  zcT Tp 54=some [.v (.int .i64 0),.v (.string ⟨#[]⟩),.v (.int .i64 0),.v (.float .f64 0),.v (.int .i64 0),.v (.int .i64 0)]:=
 (by and_intros<;>kernel_rfl)
variable {γ:List (Nat×AV)}
def letterN(n:Nat):Bool:=decide (97≤n∧n≤122∨65≤n∧n≤90)
def digitN(n:Nat):Bool:=decide (48≤n∧n≤57)
def nameN(n:Nat):Bool:=letterN n || digitN n || decide (n=95)
theorem b45:bodyT Tp 239:=⟨_,Tryz.func239,by kernel_rfl,by kernel_rfl⟩
theorem b47:bodyT Tp 241:=⟨_,Tryz.func241,by kernel_rfl,by kernel_rfl⟩
theorem b69:bodyT Tp 275:=⟨_,Tryz.func275,by kernel_rfl,by kernel_rfl⟩
theorem b71:bodyT Tp 277:=⟨_,Tryz.func277,by kernel_rfl,by kernel_rfl⟩
theorem b70:bodyT Tp 276:=⟨_,Tryz.func276,by kernel_rfl,by kernel_rfl⟩
theorem b40:bodyT Tp 138:=⟨_,Tryz.func138,by kernel_rfl,by kernel_rfl⟩
theorem b41:bodyT Tp 139:=⟨_,Tryz.func139,by kernel_rfl,by kernel_rfl⟩
theorem b28:bodyT Tp 85:=⟨_,Tryz.func85,by kernel_rfl,by kernel_rfl⟩
theorem b64:bodyT Tp 205:=⟨_,Tryz.func205,by kernel_rfl,by kernel_rfl⟩
theorem b99:bodyT Tp 251:=⟨_,Tryz.func251,by kernel_rfl,by kernel_rfl⟩
theorem lexLetter_ev(n:Nat):Ev Tp γ 239 [.v (.int .u8 n)] (.v (.bool (letterN n))):=by
 refine Ev.of Tryz.func239 rfl ?_;simp only[Tryz.f239,evS,Nat.reduceAdd,Nat.reduceSub,Nat.reduceLT,Nat.reduceEqDiff,reduceCtorEq]
 (repeat' (first|(with_reducible refine aI ?_ ?_)|(first|(first|refine gF ?_ ?_|refine gT ?_ ?_|refine cI ?_ ?_|refine pI ?_ ?_)<;>intro h|(refine dI ?_;have h:=trivial))<;>simp only[h,evS,Nat.reduceLT,Nat.reduceEqDiff,reduceCtorEq,tyS,Bv,Bf,Nat.reduceAdd,Nat.reduceSub,Nat.reduceMul,Nat.reduceLeDiff,List.reduceReplicate,Int.reduceToNat,Int.reduceLE,Int.reduceLT]))
 all_goals (((try simp only[decide_eq_true_eq,decide_eq_false_iff_not]at *)<;>(try omega))<;>simp only[letterN,AV.v.injEq,Value.bool.injEq]<;>first|exact (decide_eq_true (by omega)).symm|exact (decide_eq_false (by omega)).symm|exact decide_eq_decide.2 (by omega))
theorem lexDigit_ev(n:Nat):Ev Tp γ 241 [.v (.int .u8 n)] (.v (.bool (digitN n))):=by
 refine Ev.of Tryz.func241 rfl ?_;simp only[Tryz.f241,evS,Nat.reduceAdd,Nat.reduceSub,Nat.reduceLT,Nat.reduceEqDiff,reduceCtorEq]
 (repeat' (first|(with_reducible refine aI ?_ ?_)|(first|(first|refine gF ?_ ?_|refine gT ?_ ?_|refine cI ?_ ?_|refine pI ?_ ?_)<;>intro h|(refine dI ?_;have h:=trivial))<;>simp only[h,evS,Nat.reduceLT,Nat.reduceEqDiff,reduceCtorEq,tyS,Bv,Bf,Nat.reduceAdd,Nat.reduceSub,Nat.reduceMul,Nat.reduceLeDiff,List.reduceReplicate,Int.reduceToNat,Int.reduceLE,Int.reduceLT]))
 all_goals (((try simp only[decide_eq_true_eq,decide_eq_false_iff_not]at *)<;>(try omega))<;>simp only[digitN,AV.v.injEq,Value.bool.injEq]<;>first|exact (decide_eq_true (by omega)).symm|exact (decide_eq_false (by omega)).symm|exact decide_eq_decide.2 (by omega))
theorem refLetter_ev(n:Nat):Ev Tp γ 138 [.v (.int .u8 n)] (.v (.bool (letterN n))):=by
 refine Ev.of Tryz.func138 rfl ?_;simp only[Tryz.f138,evS,Nat.reduceAdd,Nat.reduceSub,Nat.reduceLT,Nat.reduceEqDiff,reduceCtorEq]
 (repeat' (first|(with_reducible refine aI ?_ ?_)|(first|(first|refine gF ?_ ?_|refine gT ?_ ?_|refine cI ?_ ?_|refine pI ?_ ?_)<;>intro h|(refine dI ?_;have h:=trivial))<;>simp only[h,evS,Nat.reduceLT,Nat.reduceEqDiff,reduceCtorEq,tyS,Bv,Bf,Nat.reduceAdd,Nat.reduceSub,Nat.reduceMul,Nat.reduceLeDiff,List.reduceReplicate,Int.reduceToNat,Int.reduceLE,Int.reduceLT]))
 all_goals (((try simp only[decide_eq_true_eq,decide_eq_false_iff_not]at *)<;>(try omega))<;>simp only[letterN,AV.v.injEq,Value.bool.injEq]<;>first|exact (decide_eq_true (by omega)).symm|exact (decide_eq_false (by omega)).symm|exact decide_eq_decide.2 (by omega))
theorem refDigit_ev(n:Nat):Ev Tp γ 139 [.v (.int .u8 n)] (.v (.bool (digitN n))):=by
 refine Ev.of Tryz.func139 rfl ?_;simp only[Tryz.f139,evS,Nat.reduceAdd,Nat.reduceSub,Nat.reduceLT,Nat.reduceEqDiff,reduceCtorEq]
 (repeat' (first|(with_reducible refine aI ?_ ?_)|(first|(first|refine gF ?_ ?_|refine gT ?_ ?_|refine cI ?_ ?_|refine pI ?_ ?_)<;>intro h|(refine dI ?_;have h:=trivial))<;>simp only[h,evS,Nat.reduceLT,Nat.reduceEqDiff,reduceCtorEq,tyS,Bv,Bf,Nat.reduceAdd,Nat.reduceSub,Nat.reduceMul,Nat.reduceLeDiff,List.reduceReplicate,Int.reduceToNat,Int.reduceLE,Int.reduceLT]))
 all_goals (((try simp only[decide_eq_true_eq,decide_eq_false_iff_not]at *)<;>(try omega))<;>simp only[digitN,AV.v.injEq,Value.bool.injEq]<;>first|exact (decide_eq_true (by omega)).symm|exact (decide_eq_false (by omega)).symm|exact decide_eq_decide.2 (by omega))
theorem lexInName_ev(n:Nat):Ev Tp γ 275 [.v (.int .u8 n)] (.v (.bool (nameN n))):=by
 refine Ev.of Tryz.func275 rfl ?_;simp only[Tryz.f275,evS,Nat.reduceAdd,Nat.reduceSub,Nat.reduceLT,Nat.reduceEqDiff,reduceCtorEq];refine CallK.intro b45 rfl (lexLetter_ev n) ?_;simp only[evS,Nat.reduceLT,Nat.reduceEqDiff,reduceCtorEq];refine GuardK.intro_f (fun h=>?_) (fun h=>?_)<;>simp only[h,evS,Nat.reduceLT,Nat.reduceEqDiff,reduceCtorEq]
 ·refine CallK.intro b47 rfl (lexDigit_ev n) ?_;simp only[evS,Nat.reduceLT,Nat.reduceEqDiff,reduceCtorEq]
  (repeat' (first|(with_reducible refine aI ?_ ?_)|(first|(first|refine gF ?_ ?_|refine gT ?_ ?_|refine cI ?_ ?_|refine pI ?_ ?_)<;>intro h|(refine dI ?_;have h:=trivial))<;>simp only[h,evS,Nat.reduceLT,Nat.reduceEqDiff,reduceCtorEq,tyS,Bv,Bf,Nat.reduceAdd,Nat.reduceSub,Nat.reduceMul,Nat.reduceLeDiff,List.reduceReplicate,Int.reduceToNat,Int.reduceLE,Int.reduceLT]))
  all_goals (((try simp only[decide_eq_true_eq,decide_eq_false_iff_not,beq_iff_eq,bne_iff_ne,ne_eq,beq_eq_false_iff_ne,bne_eq_false_iff_eq]at *)<;>(try omega))<;>simp only[nameN];simp[*]<;>first|(rw[Bool.eq_iff_iff];simp;omega)|omega)
 ·(repeat' (first|(with_reducible refine aI ?_ ?_)|(first|(first|refine gF ?_ ?_|refine gT ?_ ?_|refine cI ?_ ?_|refine pI ?_ ?_)<;>intro h|(refine dI ?_;have h:=trivial))<;>simp only[h,evS,tyS,Bv,Bf,Nat.reduceAdd,Nat.reduceSub,Nat.reduceMul,Nat.reduceLT,Nat.reduceLeDiff,Nat.reduceEqDiff,reduceCtorEq,List.reduceReplicate,Int.reduceToNat,Int.reduceLE,Int.reduceLT]))
  all_goals (((try simp only[decide_eq_true_eq,decide_eq_false_iff_not,beq_iff_eq,bne_iff_ne,ne_eq,beq_eq_false_iff_ne,bne_eq_false_iff_eq]at *)<;>(try omega))<;>simp only[nameN];simp[*]<;>first|(rw[Bool.eq_iff_iff];simp;omega)|omega)
def atL(l:List UInt8)(i:Nat):Nat:=(l.getD i 0).toNat
theorem lexAt_ev(b:Bool)(l:List UInt8)(i:Nat):Ev Tp γ 277 [.sl b l.length l.length (l.map byteC),.v (.int .i64 i)] (.v (.int .u8 (atL l i))):=by
 refine Ev.of Tryz.func277 rfl ?_;simp only[Tryz.f277,evS,tyS,Nat.reduceAdd,Nat.reduceSub,Nat.reduceLT,Nat.reduceEqDiff,reduceCtorEq]
 (repeat' (first|(with_reducible refine aI ?_ ?_)|(first|(first|refine gF ?_ ?_|refine gT ?_ ?_|refine cI ?_ ?_|refine pI ?_ ?_)<;>intro h|(refine dI ?_;have h:=trivial))<;>simp only[h,evS,tyS,Nat.reduceLT,Nat.reduceEqDiff,reduceCtorEq,Bv,Bf,Nat.reduceAdd,Nat.reduceSub,Nat.reduceMul,Nat.reduceLeDiff,List.reduceReplicate,Int.reduceToNat,Int.reduceLE,Int.reduceLT]))
 all_goals (((try simp only[decide_eq_true_eq,decide_eq_false_iff_not]at *)<;>(try omega));try rfl)
 simp only[atL,List.getD];rw[Bq (by omega)]
 rfl
def digitsEnd(l:List UInt8)(i:Nat):Nat:=i+((l.drop i).takeWhile fun c=>digitN c.toNat).length
theorem digitsEnd_step{l:List UInt8}{i:Nat}(h:digitN (atL l i)=true):digitsEnd l i=digitsEnd l (i+1)∧i<l.length:=by
 have hi:i<l.length:=by
  by_cases hi:i<l.length
  ·exact hi
  ·have e:atL l i=0:=by simp only[atL,List.getD];rw[Bq (by omega)];rfl
   rw[e]at h;exact absurd h (by decide)
 refine⟨?_,hi⟩;have e:l.drop i=l[i]::l.drop (i+1):=List.drop_eq_getElem_cons hi;have e2:atL l i=l[i].toNat:=by simp[atL,List.getD,hi]
 rw[e2]at h;unfold digitsEnd;rw[e,List.takeWhile_cons,if_pos h];simp only[BC];omega
theorem digitsEnd_stop{l:List UInt8}{i:Nat}(h:digitN (atL l i)=false):digitsEnd l i=i:=by
 unfold digitsEnd
 by_cases hi:i<l.length
 ·have e:l.drop i=l[i]::l.drop (i+1):=List.drop_eq_getElem_cons hi;have e2:atL l i=l[i].toNat:=by simp[atL,List.getD,hi]
  rw[e2]at h;rw[e,List.takeWhile_cons,if_neg (by simp[h])];rfl
 ·rw[List.drop_eq_nil_of_le (by omega)];rfl
theorem lexDigits_ev(b:Bool)(l:List UInt8)(i:Nat)(hl:l.length≤140737488355328)(hi:i≤140737488355330):Ev Tp γ 276 [.sl b l.length l.length (l.map byteC),.v (.int .i64 i)] (.v (.int .i64 (digitsEnd l i))):=by
 refine Ev.of Tryz.func276 rfl ?_;simp only[Tryz.f276,evS,Nat.reduceAdd,Nat.reduceSub,Nat.reduceLT];refine LoopK.intro (fun j:Nat=>⟨⟨12,[(0,.sl b l.length l.length (l.map byteC)),(1,.v (.int .i64 j))],γ⟩,[]⟩) (fun j=>j≤140737488355330∧digitsEnd l j=digitsEnd l i) (fun j=>l.length-j) i ?_ ⟨hi,rfl⟩ (fun j hj=>?_)
 ·simp only[evS,Nat.reduceEqDiff,reduceCtorEq]
 ·simp only[evS,Nat.reduceLT,Nat.reduceEqDiff,reduceCtorEq];refine CallK.intro b71 (by simp[treeL,treeA]) (lexAt_ev b l j) ?_;simp only[evS,Nat.reduceLT,Nat.reduceEqDiff,reduceCtorEq];refine CallK.intro b47 rfl (lexDigit_ev _) ?_;simp only[evS,Nat.reduceLT,Nat.reduceEqDiff,reduceCtorEq];refine CondK.intro (fun h=>?_) (fun h=>?_)<;>simp only[h,evS,Nat.reduceLT,Nat.reduceEqDiff,reduceCtorEq]
  ·have hs:=digitsEnd_step h;have ew:IntKind.i64.wrap ((j:Int)+1)=((j+1:Nat):Int):=by rw[i64w]<;>omega
   refine loopC.intro (j+1) ⟨by omega,by rw[←hs.1];exact hj.2⟩ ?_ (by omega);simp only[ew,evS,Nat.reduceEqDiff,reduceCtorEq]
  ·have hs:=digitsEnd_stop h;rw[hs]at hj;rw[←hj.2]
def spanEnd(p:Nat→Bool)(l:List UInt8)(i:Nat):Nat:=i+((l.drop i).takeWhile fun c=>p c.toNat).length
theorem spanEnd_step{p:Nat→Bool}{l:List UInt8}{i:Nat}(hi:i<l.length)(h:p (l.getD i 0).toNat=true):spanEnd p l i=spanEnd p l (i+1):=by
 have e:l.drop i=l[i]::l.drop (i+1):=List.drop_eq_getElem_cons hi;have e2:l.getD i 0=l[i]:=by simp[List.getD,hi]
 rw[e2]at h;unfold spanEnd;rw[e,List.takeWhile_cons,if_pos h];simp only[BC];omega
theorem spanEnd_stop{p:Nat→Bool}{l:List UInt8}{i:Nat}(h:i<l.length→p (l.getD i 0).toNat=false):spanEnd p l i=i:=by
 unfold spanEnd
 by_cases hi:i<l.length
 ·have e:l.drop i=l[i]::l.drop (i+1):=List.drop_eq_getElem_cons hi;have e2:l.getD i 0=l[i]:=by simp[List.getD,hi]
  have h:=h hi;rw[e2]at h;rw[e,List.takeWhile_cons,if_neg (by simp[h])];rfl
 ·rw[List.drop_eq_nil_of_le (by omega)];rfl
theorem spanEnd_le{p:Nat→Bool}{l:List UInt8}{i:Nat}(h:i≤l.length):i≤spanEnd p l i∧spanEnd p l i≤l.length:=by
 unfold spanEnd;have:=(List.takeWhile_sublist (l:=l.drop i) (fun c=>p c.toNat)).length_le;rw[Bd]at this
 omega
theorem digitsEnd_span(l:List UInt8)(i:Nat):digitsEnd l i=spanEnd digitN l i:=rfl
def tokA(kind:Int)(text:List UInt8)(int:Int)(real:AV)(pos size:Int):AV:=
 .agg [.v (.int .i64 kind),.v (.string ⟨text.toArray⟩),.v (.int .i64 int),real,.v (.int .i64 pos),.v (.int .i64 size)]
def f0:AV:=.v (.float .f64 0)
set_option maxRecDepth 20000 in
theorem lexName_ev(b:Bool)(l:List UInt8)(hl:l.length≤140737488355328)(h1:1≤l.length):Ev Tp γ 240 [.sl b l.length l.length (l.map byteC)] (tokA 1 (l.take (spanEnd nameN l 1)) 0 f0 0 (spanEnd nameN l 1:Nat)):=by
 refine Ev.of Tryz.func240 rfl ?_;simp only[Tryz.f240,evS,tyS,Nat.reduceAdd,Nat.reduceSub,Nat.reduceLT];refine LoopK.intro (fun j:Nat=>⟨⟨23,[(0,.sl b l.length l.length (l.map byteC)),(2,.ptr 0 0 0),(3,.v (.int .i64 j))],γ⟩,[⟨0,53,[.v (.int .i64 0),.v (.string ⟨#[]⟩),.v (.int .i64 0),.v (.float .f64 0),.v (.int .i64 0),.v (.int .i64 0)]⟩]⟩) (fun j=>j≤l.length∧spanEnd nameN l j=spanEnd nameN l 1) (fun j=>l.length-j) 1 ?_ ⟨h1,rfl⟩ (fun j hj=>?_)
 ·simp only[evS,Nat.reduceEqDiff,reduceCtorEq]
  rfl
 ·have hstop:∀ (hs:j<l.length→nameN (l.getD j 0).toNat=false),spanEnd nameN l 1=j:=fun hs=>hj.2.symm.trans (spanEnd_stop hs)
  simp only[evS,tyS,Nat.reduceLT,Nat.reduceEqDiff,reduceCtorEq]
  (repeat' (first|(with_reducible refine aI ?_ ?_)|(first|(first|refine gF ?_ ?_|refine gT ?_ ?_|refine cI ?_ ?_|refine pI ?_ ?_)<;>intro h|(refine dI ?_;have h:=trivial))<;>simp only[h,evS,tyS,Nat.reduceAdd,Nat.reduceLT,Nat.reduceLeDiff,Nat.reduceEqDiff,reduceCtorEq,Bv,Bf,Nat.reduceSub,Nat.reduceMul,List.reduceReplicate,Int.reduceToNat,Int.reduceLE,Int.reduceLT]))
  all_goals try (((try simp only[decide_eq_true_eq,decide_eq_false_iff_not]at *)<;>(try omega));done)
  ·((try simp only[decide_eq_true_eq]at *)<;>(try omega))
   refine CallK.intro b69 rfl (lexInName_ev _) ?_;simp only[evS,Nat.reduceLT,Nat.reduceEqDiff,reduceCtorEq];refine CondK.intro (fun h=>?_) (fun h=>?_)<;>simp only[h,evS,tyS,Nat.reduceAdd,Nat.reduceLT,Nat.reduceLeDiff,Nat.reduceEqDiff,reduceCtorEq]
   ·have ew:IntKind.i64.wrap ((j:Int)+1)=((j+1:Nat):Int):=by rw[i64w]<;>omega
    refine loopC.intro (j+1) ⟨by omega,by rw[←spanEnd_step (by omega) h];exact hj.2⟩ ?_ (by omega);simp only[ew,evS,Nat.reduceEqDiff,reduceCtorEq]
   ·rw[hstop fun _=>h];simp only[tokA,f0,evS]
    (repeat' (first|(with_reducible refine aI ?_ ?_)|(first|(first|refine gF ?_ ?_|refine gT ?_ ?_|refine cI ?_ ?_|refine pI ?_ ?_)<;>intro h|(refine dI ?_;have h:=trivial))<;>simp only[h,evS,tyS,Bv,Bf,Nat.reduceAdd,Nat.reduceSub,Nat.reduceMul,Nat.reduceLT,Nat.reduceLeDiff,Nat.reduceEqDiff,reduceCtorEq,List.reduceReplicate,Int.reduceToNat,Int.reduceLE,Int.reduceLT]))
    all_goals first|(((try simp only[decide_eq_true_eq,decide_eq_false_iff_not,beq_iff_eq,bne_iff_ne,ne_eq,beq_eq_false_iff_ne,bne_eq_false_iff_eq]at *)<;>(try omega));done)|trivial
  ·((try simp only[decide_eq_false_iff_not]at *)<;>(try omega))
   rw[hstop fun h'=>by omega];simp only[tokA,f0,evS]
theorem b76:bodyT Tp 160:=⟨_,Tryz.func160,by kernel_rfl,by kernel_rfl⟩
theorem b102:bodyT Tp 218:=⟨_,Tryz.func218,by kernel_rfl,by kernel_rfl⟩
theorem sl_IndexByte_ev(s:ByteArray)(c:Int):Ev Tp γ 218 [.v (.string s),.v (.int .u8 c)] (.v (.int .i64 (Lib.indexByte s.data.toList c.toNat.toUInt8))):=by
 refine Ev.of Tryz.func218 rfl ?_;simp only[Tryz.f218,evS,Nat.reduceAdd,Nat.reduceSub,Nat.reduceLT,Nat.reduceEqDiff,reduceCtorEq];refine CallK.ext (ext_indexByteString Tryz.func257 (by kernel_rfl) (by kernel_rfl) (by kernel_rfl) (by kernel_rfl) s c) ?_;simp only[evS,Nat.reduceLT,Nat.reduceEqDiff,reduceCtorEq]
theorem strings_IndexByte_ev(s:ByteArray)(c:Int):Ev Tp γ 160 [.v (.string s),.v (.int .u8 c)] (.v (.int .i64 (Lib.indexByte s.data.toList c.toNat.toUInt8))):=by
 refine Ev.of Tryz.func160 rfl ?_;simp only[Tryz.f160,evS,Nat.reduceAdd,Nat.reduceSub,Nat.reduceLT,Nat.reduceEqDiff,reduceCtorEq];refine CallK.intro b102 rfl (sl_IndexByte_ev s c) ?_;simp only[evS,Nat.reduceLT,Nat.reduceEqDiff,reduceCtorEq]
def hexN(n:Nat):Int:=if 48≤n∧n≤57 then n-48 else if 97≤n∧n≤102 then n-87 else -1
theorem refHex_ev(n:Nat)(hn:n<256):Ev Tp γ 251 [.v (.int .u8 n)] (.v (.int .i64 (hexN n))):=by
 refine Ev.of Tryz.func251 rfl ?_;simp only[Tryz.f251,evS,Nat.reduceAdd,Nat.reduceSub,Nat.reduceLT,Nat.reduceEqDiff,reduceCtorEq];refine CallK.intro b41 rfl (refDigit_ev n) ?_;simp only[evS,Nat.reduceLT,Nat.reduceEqDiff,reduceCtorEq];refine CondK.intro (fun h=>?_) (fun h=>?_)<;>simp only[h,evS,tyS,Nat.reduceLT,Nat.reduceEqDiff,reduceCtorEq]
 ·have h':48≤n∧n≤57:=by simpa[digitN]using h
  have e1:IntKind.u8.wrap ((n:Int)-48)=(n:Int)-48:=by rw[u8w]<;>omega
  simp only[e1];rw[hexN,if_pos h',i64w (by omega) (by omega)]
 ·have h':¬(48≤n∧n≤57):=by simpa[digitN]using h
  (repeat' (first|(with_reducible refine aI ?_ ?_)|(first|(first|refine gF ?_ ?_|refine gT ?_ ?_|refine cI ?_ ?_|refine pI ?_ ?_)<;>intro h|(refine dI ?_;have h:=trivial))<;>simp only[h,evS,tyS,Nat.reduceLT,Nat.reduceEqDiff,reduceCtorEq,Bv,Bf,Nat.reduceAdd,Nat.reduceSub,Nat.reduceMul,Nat.reduceLeDiff,List.reduceReplicate,Int.reduceToNat,Int.reduceLE,Int.reduceLT]))
  ·((try simp only[decide_eq_true_eq]at *)<;>(try omega))
   have e2:IntKind.i64.wrap ((n:Int)-97)=(n:Int)-97:=by rw[i64w]<;>omega
   rw[hexN,if_neg h',if_pos (by omega),u8w (by omega) (by omega),e2,i64w (by omega) (by omega)]
   congr 2
   omega
  ·((try simp only[decide_eq_true_eq,decide_eq_false_iff_not]at *)<;>(try omega))
   rw[hexN,if_neg h',if_neg (by omega)]
  ·((try simp only[decide_eq_false_iff_not]at *)<;>(try omega))
   rw[hexN,if_neg h',if_neg (by omega)]
theorem hexN_index(c:UInt8):Lib.indexByte [48,49,50,51,52,53,54,55,56,57,97,98,99,100,101,102] c=hexN c.toNat:=by
 have:=b256 (p:=fun n=>Lib.indexByte [48,49,50,51,52,53,54,55,56,57,97,98,99,100,101,102] (UInt8.ofNat n)=hexN n) (by decide +kernel) c;simpa using this
theorem hexIdx_ev(c:UInt8):Ev Tp γ 160 [.v (.string ⟨#[48,49,50,51,52,53,54,55,56,57,97,98,99,100,101,102]⟩),.v (.int .u8 (c.toNat:Nat))] (.v (.int .i64 (hexN c.toNat))):=by
 have:=strings_IndexByte_ev (γ:=γ) ⟨#[48,49,50,51,52,53,54,55,56,57,97,98,99,100,101,102]⟩ (c.toNat:Nat);rw[←hexN_index];simpa using this
theorem hexN_le(n:Nat): -1≤hexN n∧hexN n≤15:=by
 unfold hexN
 split
 ·omega
 ·split<;>omega
def escV(a b:Nat):Nat:=(16 * hexN a+hexN b).toNat
def escF(l:List UInt8):Nat×Nat:=
 if atL l 1=34∨atL l 1=92 then (atL l 1,2)
 else if atL l 1=120∧4≤l.length∧0≤hexN (atL l 2)∧0≤hexN (atL l 3)∧(escV (atL l 2) (atL l 3)<32∨126<escV (atL l 2) (atL l 3))then (escV (atL l 2) (atL l 3),4)
 else (0,0)
set_option maxRecDepth 20000 in
theorem lexEscaped_ev(b:Bool)(l:List UInt8)(hl:l.length≤140737488355328):Ev Tp γ 280 [.sl b l.length l.length (l.map byteC)] (.tup [.v (.int .u8 (escF l).1),.v (.int .i64 (escF l).2)]):=by
 refine Ev.of Tryz.func280 rfl ?_
 have hlen:∀ i,atL l i≠0→i<l.length:=fun i h=>by
  by_cases hi:i<l.length
  ·exact hi
  ·exact absurd (by simp only[atL,List.getD];rw[Bq (by omega)];rfl) h
 simp only[Tryz.f280,evS,Nat.reduceAdd,Nat.reduceSub,Nat.reduceLT,Nat.reduceEqDiff,reduceCtorEq];refine CallK.intro b71 (by simp[treeL,treeA]) (lexAt_ev b l 1) ?_;simp only[evS,Nat.reduceLT,Nat.reduceEqDiff,reduceCtorEq];have hlen':atL l 1≠0→1<l.length:=hlen 1
 (repeat' (first|(with_reducible refine aI ?_ ?_)|(first|(first|refine gF ?_ ?_|refine gT ?_ ?_|refine cI ?_ ?_|refine pI ?_ ?_)<;>intro h|(refine dI ?_;have h:=trivial))<;>simp only[h,evS,tyS,Nat.reduceLT,Nat.reduceEqDiff,reduceCtorEq,Int.reduceToNat,Int.reduceLE]))
 all_goals try (((try simp only[decide_eq_true_eq,decide_eq_false_iff_not,beq_iff_eq,ne_eq,beq_eq_false_iff_ne]at *)<;>(try omega));done)
 ·((try simp only[beq_iff_eq,ne_eq]at *)<;>(try omega));rw[escF,if_pos (by omega)];rfl
 ·((try simp only[beq_iff_eq,ne_eq]at *)<;>(try omega));rw[escF,if_pos (by omega)];rfl
 ·((try simp only[beq_iff_eq,ne_eq,beq_eq_false_iff_ne]at *)<;>(try omega));rw[escF,if_pos (by omega)];rfl
 ·((try simp only[beq_iff_eq,ne_eq,beq_eq_false_iff_ne]at *)<;>(try omega));rw[escF,if_pos (by omega)];rfl
 ·((try simp only[decide_eq_true_eq,beq_iff_eq,ne_eq,beq_eq_false_iff_ne]at *)<;>(try omega));rw[escF,if_neg (by omega),if_neg (by omega)];rfl
 ·((try simp only[decide_eq_true_eq,beq_iff_eq,ne_eq,beq_eq_false_iff_ne]at *)<;>(try omega));rw[escF,if_neg (by omega),if_neg (by omega)];rfl
 ·((try simp only[decide_eq_false_iff_not,beq_iff_eq,ne_eq,beq_eq_false_iff_ne]at *)<;>(try omega))
  refine CallK.intro b76 rfl (hexIdx_ev (l.getD 2 0)) ?_;simp only[evS,tyS,Nat.reduceLT,Nat.reduceEqDiff,reduceCtorEq,Int.reduceToNat,Int.reduceLE]
  (repeat' (first|(with_reducible refine aI ?_ ?_)|(first|(first|refine gF ?_ ?_|refine gT ?_ ?_|refine cI ?_ ?_|refine pI ?_ ?_)<;>intro h|(refine dI ?_;have h:=trivial))<;>simp only[h,evS,tyS,Bv,Bf,Nat.reduceAdd,Nat.reduceSub,Nat.reduceMul,Nat.reduceLT,Nat.reduceLeDiff,Nat.reduceEqDiff,reduceCtorEq,List.reduceReplicate,Int.reduceToNat,Int.reduceLE,Int.reduceLT]))
  all_goals try (((try simp only[decide_eq_true_eq,decide_eq_false_iff_not,beq_iff_eq,bne_iff_ne,ne_eq,beq_eq_false_iff_ne,bne_eq_false_iff_eq]at *)<;>(try omega));done)
  refine CallK.intro b76 rfl (hexIdx_ev (l.getD 3 0)) ?_;have x2:=hexN_le (atL l 2);have x3:=hexN_le (atL l 3);rw[show (l.getD 2 0).toNat=atL l 2 from rfl,show (l.getD 3 0).toNat=atL l 3 from rfl];have e1:IntKind.i64.wrap (16 * hexN (atL l 2))=16 * hexN (atL l 2):=by rw[i64w]<;>omega
  have e2:IntKind.i64.wrap (16 * hexN (atL l 2)+hexN (atL l 3))=16 * hexN (atL l 2)+hexN (atL l 3):=by rw[i64w]<;>omega
  simp only[e1,e2,evS,tyS,Nat.reduceLT,Nat.reduceEqDiff,reduceCtorEq]
  (repeat' (first|(with_reducible refine aI ?_ ?_)|(first|(first|refine gF ?_ ?_|refine gT ?_ ?_|refine cI ?_ ?_|refine pI ?_ ?_)<;>intro h|(refine dI ?_;have h:=trivial))<;>simp only[h,evS,Nat.reduceLT,Nat.reduceEqDiff,reduceCtorEq,tyS,Bv,Bf,Nat.reduceAdd,Nat.reduceSub,Nat.reduceMul,Nat.reduceLeDiff,List.reduceReplicate,Int.reduceToNat,Int.reduceLE,Int.reduceLT]))
  all_goals
   by_cases hh:0≤hexN (atL l 2)∧0≤hexN (atL l 3)
   ·have e3:IntKind.u8.wrap (16 * hexN (atL l 2)+hexN (atL l 3))=(escV (atL l 2) (atL l 3):Int):=by
     rw[u8w (by omega) (by omega)];unfold escV;omega
    simp only[e3]at *
    ((try simp only[decide_eq_true_eq,decide_eq_false_iff_not]at *)<;>(try omega))<;>first
     |(rw[escF,if_neg (by omega),if_pos (by omega)];done)
     |(rw[escF,if_neg (by omega),if_neg (by omega)];rfl)
     |(rw[escF,if_neg (by omega),if_pos (by omega)];rfl)
     |omega
   ·((try simp only[decide_eq_true_eq,decide_eq_false_iff_not]at *)<;>(try omega))<;>first
     |(rw[escF,if_neg (by omega),if_neg (by omega)];rfl)
     |omega
 all_goals (((try simp only[ne_eq,beq_eq_false_iff_ne]at *)<;>(try omega));rw[escF,if_neg (by omega),if_neg (by omega)];rfl)
theorem b74:bodyT Tp 280:=⟨_,Tryz.func280,by kernel_rfl,by kernel_rfl⟩
def textF:Nat→List UInt8→Nat→List UInt8→Option (List UInt8×Nat)
 |0,_,_,_=>none
 |k+1,l,i,d=>
  if l.length≤i then none
  else if atL l i=34∧d.length≤256 then some (d,i+1)
  else if atL l i=92 then (if (escF (l.drop i)).2=0 then none else textF k l (i+(escF (l.drop i)).2) (d++[UInt8.ofNat (escF (l.drop i)).1]))
  else if atL l i=34∨atL l i<32∨126<atL l i then none
  else textF k l (i+1) (d++[UInt8.ofNat (atL l i)])
def zero6:List AV:=[.v (.int .i64 0),.v (.string ⟨#[]⟩),.v (.int .i64 0),.v (.float .f64 0),.v (.int .i64 0),.v (.int .i64 0)]
def textR:Option (List UInt8×Nat)→AV
 |none=>.tup [.agg zero6,.v (.int .i64 11)]
 |some (d,n)=>.tup [tokA 4 d 0 f0 0 n,.v (.int .i64 0)]
def textS(γ:List (Nat×AV))(l:List UInt8)(b:Bool):Nat×List UInt8→St
 |(i,[])=>⟨⟨69,[(0,.sl b l.length l.length (l.map byteC)),(2,.ptr 0 0 0),(5,.v (.int .i64 i)),(4,.v (.slice none 0 0))],γ⟩,[⟨0,53,zero6⟩]⟩
 |(i,x::d)=>⟨⟨69,[(0,.sl b l.length l.length (l.map byteC)),(2,.ptr 0 0 0),(5,.v (.int .i64 i)),(4,.own 2 d.length (x::d).length)],γ⟩,[⟨0,53,zero6⟩,⟨0,5,[byteC x]⟩,⟨d.length,5,(x::d).map byteC⟩]⟩
theorem textS_nil(γ:List (Nat×AV))(l:List UInt8)(b:Bool)(i:Nat):textS γ l b (i,[])=⟨⟨69,[(0,.sl b l.length l.length (l.map byteC)),(2,.ptr 0 0 0),(5,.v (.int .i64 i)),(4,.v (.slice none 0 0))],γ⟩,[⟨0,53,zero6⟩]⟩:=rfl
theorem textS_cons(γ:List (Nat×AV))(l:List UInt8)(b:Bool)(i:Nat)(x:UInt8)(d:List UInt8):textS γ l b (i,x::d)=⟨⟨69,[(0,.sl b l.length l.length (l.map byteC)),(2,.ptr 0 0 0),(5,.v (.int .i64 i)),(4,.own 2 d.length (x::d).length)],γ⟩,[⟨0,53,zero6⟩,⟨0,5,[byteC x]⟩,⟨d.length,5,(x::d).map byteC⟩]⟩:=rfl
theorem textS_ne(γ:List (Nat×AV))(l:List UInt8)(b:Bool)(i:Nat){D:List UInt8}(h:D≠[]):textS γ l b (i,D)=⟨⟨69,[(0,.sl b l.length l.length (l.map byteC)),(2,.ptr 0 0 0),(5,.v (.int .i64 i)),(4,.own 2 (D.length-1) D.length)],γ⟩,[⟨0,53,zero6⟩,⟨0,5,[byteC (D.getD 0 0)]⟩,⟨D.length-1,5,D.map byteC⟩]⟩:=by
 cases D with
 |nil=>exact absurd rfl h
 |cons x d=>rfl
theorem textS_app(γ:List (Nat×AV))(l:List UInt8)(b:Bool)(i:Nat){d:List UInt8}(y:UInt8)(h:d≠[]):textS γ l b (i,d++[y])=⟨⟨69,[(0,.sl b l.length l.length (l.map byteC)),(2,.ptr 0 0 0),(5,.v (.int .i64 i)),(4,.own 2 d.length (d.length+1))],γ⟩,[⟨0,53,zero6⟩,⟨0,5,[byteC (d.getD 0 0)]⟩,⟨d.length,5,d.map byteC++[byteC y]⟩]⟩:=by
 cases d with
 |nil=>exact absurd rfl h
 |cons x d=>simp[textS]
theorem escF_2(l:List UInt8):(escF l).2=0∨(escF l).2=2∨(escF l).2=4:=by
 unfold escF;split
 ·exact .inr (.inl rfl)
 ·split
  ·exact .inr (.inr rfl)
  ·exact .inl rfl
theorem escF_1(l:List UInt8):(escF l).1<256:=by
 unfold escF;split
 ·exact (l.getD 1 0).toNat_lt
 ·split
  ·show escV _ _<256
   unfold escV;have:=hexN_le (atL l 2);have:=hexN_le (atL l 3);omega
  ·show 0<256;omega
theorem atL_lt(l:List UInt8)(i:Nat):atL l i<256:=(l.getD i 0).toNat_lt
set_option maxRecDepth 20000 in
theorem lexText_ev(b:Bool)(l:List UInt8)(hl:l.length≤140737488351232):Ev Tp γ 243 [.sl b l.length l.length (l.map byteC)] (textR (textF l.length l 1 [])):=by
 refine Ev.of Tryz.func243 rfl ?_;generalize hR:textR (textF l.length l 1 [])=R;simp only[Tryz.f243,evS,tyS,Nat.reduceAdd,Nat.reduceSub,Nat.reduceLT];refine LoopK.intro (textS γ l b) (fun a=>a.2.length≤a.1∧1≤a.1∧a.1≤l.length+4∧∃ k,l.length≤k+a.1∧textR (textF k l a.1 a.2)=R) (fun a=>l.length+4-a.1) (1,[]) ?_ ⟨by simp,by simp,by simp,l.length,by simp,hR⟩ ?_
 ·simp only[textS_nil,zero6,evS,Nat.reduceEqDiff,reduceCtorEq]
  (repeat' (first|(with_reducible refine aI ?_ ?_)|(first|(first|refine gF ?_ ?_|refine gT ?_ ?_|refine cI ?_ ?_|refine pI ?_ ?_)<;>intro h|(refine dI ?_;have h:=trivial))<;>simp only[h,evS,tyS,Bv,Bf,Nat.reduceAdd,Nat.reduceSub,Nat.reduceMul,Nat.reduceLT,Nat.reduceLeDiff,Nat.reduceEqDiff,reduceCtorEq,List.reduceReplicate,Int.reduceToNat,Int.reduceLE,Int.reduceLT]))
  all_goals rfl
 ·rintro⟨i,d⟩ ⟨hd,hi1,hi4,k,hk,hR⟩
  have hend:l.length≤i→R=.tup [.agg zero6,.v (.int .i64 11)]:=fun h=>by
   rw[←hR];cases k with
   |zero=>rfl
   |succ k=>simp only[textF,if_pos h,textR]
  have hs:i<l.length→∃ k',l.length≤k'+i+1∧R=textR (if atL l i=34∧d.length≤256 then some (d,i+1)
    else if atL l i=92 then (if (escF (l.drop i)).2=0 then none else textF k' l (i+(escF (l.drop i)).2) (d++[UInt8.ofNat (escF (l.drop i)).1]))
    else if atL l i=34∨atL l i<32∨126<atL l i then none
    else textF k' l (i+1) (d++[UInt8.ofNat (atL l i)])):=fun h=>by
   cases k with
   |zero=>simp only at hk;omega
   |succ k=>
    refine⟨k,by simp only at hk;omega,?_⟩;rw[←hR];simp only[textF,if_neg (show ¬l.length≤i by omega)]
  have ea:(l.getD i 0).toNat=atL l i:=rfl;have hb256:=atL_lt l i;have hub:((UInt8.ofNat (atL l i)).toNat:Int)=atL l i:=by rw[UInt8.toNat_ofNat_of_lt' hb256]
  have hx1:=escF_1 (l.drop i);have hx2:=escF_2 (l.drop i);have hue:((UInt8.ofNat (escF (l.drop i)).1).toNat:Int)=(escF (l.drop i)).1:=by rw[UInt8.toNat_ofNat_of_lt' hx1]
  have ew1:IntKind.i64.wrap ((i:Int)+1)=((i+1:Nat):Int):=by simp only at hi4;rw[i64w]<;>omega
  have ewn:IntKind.i64.wrap ((i:Int)+((escF (l.drop i)).2:Nat))=((i+(escF (l.drop i)).2:Nat):Int):=by simp only at hi4;rw[i64w]<;>omega
  clear hR;simp only at hd hi1 hi4 hk
  have hesc:Ev Tp γ 280 [.sl b (l.length-i) (l.length-i) (List.drop i (l.map byteC))] (.tup [.v (.int .u8 (escF (l.drop i)).1),.v (.int .i64 (escF (l.drop i)).2)]):=by
   have:=lexEscaped_ev (γ:=γ) b (l.drop i) (by rw[Bd];omega)
   rwa [Bd,List.map_drop]at this
  by_cases hne:d=[]
  ·subst hne;simp only[textS_nil,zero6,evS,tyS,Nat.reduceLT,Nat.reduceEqDiff,reduceCtorEq]
   (repeat' (first|(with_reducible refine aI ?_ ?_)|(first|(first|refine gF ?_ ?_|refine gT ?_ ?_|refine cI ?_ ?_|refine pI ?_ ?_)<;>intro h|(refine dI ?_;have h:=trivial))<;>simp only[h,ea,evS,tyS,Nat.reduceAdd,Nat.reduceLT,Nat.reduceLeDiff,Nat.reduceEqDiff,reduceCtorEq,List.reduceReplicate,Int.reduceLE,zero6,Bv,Bf,Nat.reduceSub,Nat.reduceMul,Int.reduceToNat,Int.reduceLT]))
   all_goals try (((try simp only[decide_eq_true_eq,decide_eq_false_iff_not,beq_iff_eq,ne_eq,beq_eq_false_iff_ne]at *)<;>(try omega));done)
   ·((try simp only[decide_eq_true_eq,beq_iff_eq]at *)<;>(try omega))
    obtain⟨k',hk',hR'⟩:=hs (by omega);rw[if_pos ⟨by omega,by simp⟩]at hR';rw[hR',ew1];simp only[textR,tokA,f0,evS]
   ·((try simp only[decide_eq_true_eq,beq_iff_eq,ne_eq,beq_eq_false_iff_ne]at *)<;>(try omega))
    obtain⟨k',hk',hR'⟩:=hs (by omega);rw[if_neg (by omega),if_pos (by omega)]at hR';refine CallK.intro b74 (by simp only[treeL,treeA,Bool.and_self]) hesc ?_;simp only[evS,Nat.reduceLT,Nat.reduceEqDiff,reduceCtorEq];refine CondK.intro (fun h=>?_) (fun h=>?_)
    ·((try simp only[beq_iff_eq]at *)<;>(try omega))
     rw[if_pos (by omega)]at hR';simp only[evS,tyS,Nat.reduceAdd,Nat.reduceLT,Nat.reduceLeDiff,Nat.reduceEqDiff,reduceCtorEq];rw[hR'];simp only[textR,zero6,evS]
    ·((try simp only[ne_eq,beq_eq_false_iff_ne]at *)<;>(try omega))
     rw[if_neg (by omega)]at hR';simp only[ewn,evS,tyS,Nat.reduceAdd,Nat.reduceLT,Nat.reduceLeDiff,Nat.reduceEqDiff,reduceCtorEq,List.reduceReplicate]
     (repeat' (first|(with_reducible refine aI ?_ ?_)|(first|(first|refine gF ?_ ?_|refine gT ?_ ?_|refine cI ?_ ?_|refine pI ?_ ?_)<;>intro h|(refine dI ?_;have h:=trivial))<;>simp only[h,evS,tyS,Bv,Bf,Nat.reduceAdd,Nat.reduceSub,Nat.reduceMul,Nat.reduceLT,Nat.reduceLeDiff,Nat.reduceEqDiff,reduceCtorEq,List.reduceReplicate,Int.reduceToNat,Int.reduceLE,Int.reduceLT]))
     all_goals try (((try simp only[decide_eq_true_eq,decide_eq_false_iff_not,beq_iff_eq,bne_iff_ne,ne_eq,beq_eq_false_iff_ne,bne_eq_false_iff_eq]at *)<;>(try omega));done)
     all_goals try exact all_one_map _
     refine loopC.intro (i+(escF (l.drop i)).2,[UInt8.ofNat (escF (l.drop i)).1]) ⟨by simp only[BC,BD]at *;omega,by simp only;omega,by simp only;omega,k',by simp only;omega,hR'.symm⟩ ?_ (by simp only;omega);refine⟨rfl,rfl,?_,.inl ?_⟩<;>simp only[textS_cons,zero6,byteC,hue,evS,Nat.reduceEqDiff,reduceCtorEq]<;>try (first|rfl|trivial|(simp[byteC,hue,hub,okRef];done))
   ·((try simp only[decide_eq_true_eq,decide_eq_false_iff_not,ne_eq,beq_eq_false_iff_ne]at *)<;>(try omega))
    obtain⟨k',hk',hR'⟩:=hs (by omega);rw[if_neg (by omega),if_neg (by omega),if_pos (by omega)]at hR';rw[hR'];simp only[textR,zero6,evS]
   ·((try simp only[decide_eq_true_eq,decide_eq_false_iff_not,ne_eq,beq_eq_false_iff_ne]at *)<;>(try omega))
    obtain⟨k',hk',hR'⟩:=hs (by omega);rw[if_neg (by omega),if_neg (by omega),if_neg (by omega)]at hR';rw[ew1];refine loopC.intro (i+1,[UInt8.ofNat (atL l i)]) ⟨by simp only[BC,BD]at *;omega,by simp only;omega,by simp only;omega,k',by simp only;omega,hR'.symm⟩ ?_ (by simp only;omega);refine⟨rfl,rfl,?_,.inl ?_⟩<;>simp only[textS_cons,zero6,byteC,hub,evS,Nat.reduceEqDiff,reduceCtorEq]<;>try (first|rfl|trivial|(simp[byteC,hue,hub,okRef];done))
   ·((try simp only[decide_eq_true_eq,ne_eq,beq_eq_false_iff_ne]at *)<;>(try omega))
    obtain⟨k',hk',hR'⟩:=hs (by omega);rw[if_neg (by omega),if_neg (by omega),if_pos (by omega)]at hR';rw[hR'];simp only[textR,zero6,evS]
   ·((try simp only[decide_eq_false_iff_not]at *)<;>(try omega))
    rw[hend (by omega)];simp only[zero6,evS]
  ·have hp:0<d.length:=List.length_pos_iff.2 hne;have ev1:d.length-1+1=d.length:=by omega
   have ev2:d.length+1-1=d.length:=by omega
   simp only[textS_ne γ l b i hne,zero6,evS,tyS,Nat.reduceLT,Nat.reduceEqDiff,reduceCtorEq]
   (repeat' (first|(with_reducible refine aI ?_ ?_)|(first|(first|refine gF ?_ ?_|refine gT ?_ ?_|refine cI ?_ ?_|refine pI ?_ ?_)<;>intro h|(refine dI ?_;have h:=trivial))<;>simp only[h,ea,evS,tyS,Nat.reduceAdd,Nat.reduceLT,Nat.reduceLeDiff,Nat.reduceEqDiff,reduceCtorEq,List.reduceReplicate,zero6,Bv,Bf,Nat.reduceSub,Nat.reduceMul,Int.reduceToNat,Int.reduceLE,Int.reduceLT]))
   all_goals try (((try simp only[decide_eq_true_eq,decide_eq_false_iff_not,beq_iff_eq,ne_eq,beq_eq_false_iff_ne]at *)<;>(try omega));done)
   ·((try simp only[decide_eq_true_eq,beq_iff_eq]at *)<;>(try omega))
    obtain⟨k',hk',hR'⟩:=hs (by omega);rw[if_pos ⟨by omega,by omega⟩]at hR';rw[hR',ew1];simp only[textR,tokA,f0,evS]
   ·((try simp only[decide_eq_true_eq,decide_eq_false_iff_not,beq_iff_eq,ne_eq,beq_eq_false_iff_ne]at *)<;>(try omega))
    obtain⟨k',hk',hR'⟩:=hs (by omega);rw[if_neg (by omega),if_neg (by omega),if_pos (by omega)]at hR';rw[hR'];simp only[textR,zero6,evS]
   ·((try simp only[decide_eq_true_eq,beq_iff_eq,ne_eq,beq_eq_false_iff_ne]at *)<;>(try omega))
    obtain⟨k',hk',hR'⟩:=hs (by omega);rw[if_neg (by omega),if_pos (by omega)]at hR';refine CallK.intro b74 (by simp only[treeL,treeA,Bool.and_self]) hesc ?_;simp only[evS,Nat.reduceLT,Nat.reduceEqDiff,reduceCtorEq];refine CondK.intro (fun h=>?_) (fun h=>?_)
    ·((try simp only[beq_iff_eq]at *)<;>(try omega))
     rw[if_pos (by omega)]at hR';simp only[evS,tyS,Nat.reduceAdd,Nat.reduceLT,Nat.reduceLeDiff,Nat.reduceEqDiff,reduceCtorEq];rw[hR'];simp only[textR,zero6,evS]
    ·((try simp only[ne_eq,beq_eq_false_iff_ne]at *)<;>(try omega))
     rw[if_neg (by omega)]at hR';simp only[ewn,evS,tyS,Nat.reduceAdd,Nat.reduceLT,Nat.reduceLeDiff,Nat.reduceEqDiff,reduceCtorEq,List.reduceReplicate]
     (repeat' (first|(with_reducible refine aI ?_ ?_)|(first|(first|refine gF ?_ ?_|refine gT ?_ ?_|refine cI ?_ ?_|refine pI ?_ ?_)<;>intro h|(refine dI ?_;have h:=trivial))<;>simp only[h,evS,tyS,Bv,Bf,Nat.reduceAdd,Nat.reduceSub,Nat.reduceMul,Nat.reduceLT,Nat.reduceLeDiff,Nat.reduceEqDiff,reduceCtorEq,List.reduceReplicate,Int.reduceToNat,Int.reduceLE,Int.reduceLT]))
     all_goals try (((try simp only[decide_eq_true_eq,decide_eq_false_iff_not,beq_iff_eq,bne_iff_ne,ne_eq,beq_eq_false_iff_ne,bne_eq_false_iff_eq]at *)<;>(try omega));done)
     all_goals try exact all_one_map _
     refine loopC.intro (i+(escF (l.drop i)).2,d++[UInt8.ofNat (escF (l.drop i)).1]) ⟨by simp only[Bp,BC,BD]at *;omega,by simp only;omega,by simp only;omega,k',by simp only;omega,hR'.symm⟩ ?_ (by simp only;omega);have hT:=textS_app γ l b (i+(escF (l.drop i)).2) (UInt8.ofNat (escF (l.drop i)).1) hne;refine⟨by rw[hT],by rw[hT],?_,.inr ?_⟩<;>rw[hT]
     ·simp only[ev1,evS,Nat.reduceEqDiff,reduceCtorEq]<;>try (first|rfl|trivial|(simp[byteC,hue,hub,okRef];done))
     ·refine⟨?_,?_,?_⟩<;>simp only[zero6,byteC,hue,okRefL,okRef,okRefB,okRefL_map,okRefL_append,Bool.and_self,decide_true,ev1,evS,Nat.reduceAdd,Nat.reduceLT]<;>try (first|rfl|trivial|(simp[byteC,hue,hub,okRef];done))
   ·((try simp only[decide_eq_true_eq,decide_eq_false_iff_not,ne_eq,beq_eq_false_iff_ne]at *)<;>(try omega))
    obtain⟨k',hk',hR'⟩:=hs (by omega);rw[if_neg (by omega),if_neg (by omega),if_pos (by omega)]at hR';rw[hR'];simp only[textR,zero6,evS]
   ·((try simp only[decide_eq_true_eq,decide_eq_false_iff_not,ne_eq,beq_eq_false_iff_ne]at *)<;>(try omega))
    obtain⟨k',hk',hR'⟩:=hs (by omega);rw[if_neg (by omega),if_neg (by omega),if_neg (by omega)]at hR';rw[ew1];refine loopC.intro (i+1,d++[UInt8.ofNat (atL l i)]) ⟨by simp only[Bp,BC,BD]at *;omega,by simp only;omega,by simp only;omega,k',by simp only;omega,hR'.symm⟩ ?_ (by simp only;omega);have hT:=textS_app γ l b (i+1) (UInt8.ofNat (atL l i)) hne;refine⟨by rw[hT],by rw[hT],?_,.inr ?_⟩<;>rw[hT]
    ·simp only[ev1,evS,Nat.reduceEqDiff,reduceCtorEq]<;>try (first|rfl|trivial|(simp[byteC,hue,hub,okRef];done))
    ·refine⟨?_,?_,?_⟩<;>simp only[zero6,byteC,hub,okRefL,okRef,okRefB,okRefL_map,okRefL_append,Bool.and_self,decide_true,ev1,evS,Nat.reduceAdd,Nat.reduceLT]<;>try (first|rfl|trivial|(simp[byteC,hue,hub,okRef];done))
   ·((try simp only[decide_eq_true_eq,ne_eq,beq_eq_false_iff_ne]at *)<;>(try omega))
    obtain⟨k',hk',hR'⟩:=hs (by omega);rw[if_neg (by omega),if_neg (by omega),if_pos (by omega)]at hR';rw[hR'];simp only[textR,zero6,evS]
   ·((try simp only[decide_eq_false_iff_not]at *)<;>(try omega))
    rw[hend (by omega)];simp only[zero6,evS]
def partF(l:List UInt8)(i:Nat):Nat×Nat:=
 if l.length≤i∨atL l i<32∨126<atL l i∨atL l i=34 then (0,0)
 else if atL l i≠92 then (atL l i,1)
 else if l.length<i+2 then (0,0)
 else if atL l (i+1)=34 then (34,2)
 else if atL l (i+1)=92 then (92,2)
 else if atL l (i+1)=120∧i+4≤l.length∧0≤hexN (atL l (i+2))∧0≤hexN (atL l (i+3))∧(escV (atL l (i+2)) (atL l (i+3))<32∨126<escV (atL l (i+2)) (atL l (i+3)))then (escV (atL l (i+2)) (atL l (i+3)),4)
 else (0,0)
set_option maxRecDepth 20000 in
theorem refPart_ev(b:Bool)(l:List UInt8)(i:Nat)(hl:l.length≤140737488351232)(hi:i≤l.length):Ev Tp γ 209 [.sl b l.length l.length (l.map byteC),.v (.int .i64 i)] (.tup [.v (.int .u8 (partF l i).1),.v (.int .i64 (partF l i).2)]):=by
 refine Ev.of Tryz.func209 rfl ?_;have ew:IntKind.i64.wrap ((l.length:Int)-i)=((l.length-i:Nat):Int):=by rw[i64w]<;>omega
 have e1:IntKind.i64.wrap ((i:Int)+1)=((i+1:Nat):Int):=by rw[i64w]<;>omega
 have e2:IntKind.i64.wrap ((i:Int)+2)=((i+2:Nat):Int):=by rw[i64w]<;>omega
 have e3:IntKind.i64.wrap ((i:Int)+3)=((i+3:Nat):Int):=by rw[i64w]<;>omega
 have ea:∀ j,(l.getD j 0).toNat=atL l j:=fun _=>rfl
 have x2:=hexN_le (atL l (i+2));have x3:=hexN_le (atL l (i+3));have w1:IntKind.i64.wrap (16 * hexN (atL l (i+2)))=16 * hexN (atL l (i+2)):=by rw[i64w]<;>omega
 have w2:IntKind.i64.wrap (16 * hexN (atL l (i+2))+hexN (atL l (i+3)))=16 * hexN (atL l (i+2))+hexN (atL l (i+3)):=by rw[i64w]<;>omega
 have h2:=refHex_ev (γ:=γ) (atL l (i+2)) (atL_lt l _);have h3:=refHex_ev (γ:=γ) (atL l (i+3)) (atL_lt l _);simp only[Tryz.f209,ew,evS,tyS,Nat.reduceAdd,Nat.reduceSub,Nat.reduceLT,Nat.reduceEqDiff,reduceCtorEq]
 (repeat' (first|(with_reducible refine aI ?_ ?_)|(first|(first|refine gF ?_ ?_|refine gT ?_ ?_|refine cI ?_ ?_|refine pI ?_ ?_)<;>intro h|(refine dI ?_;have h:=trivial))<;>simp only[h,e1,e2,ea,evS,tyS,Nat.reduceLT,Nat.reduceEqDiff,reduceCtorEq,ew,e3,w1,w2,Bv,Bf,Nat.reduceAdd,Nat.reduceSub,Nat.reduceMul,Nat.reduceLeDiff,List.reduceReplicate,Int.reduceToNat,Int.reduceLE,Int.reduceLT]))
 all_goals try (((try simp only[decide_eq_true_eq,decide_eq_false_iff_not,beq_iff_eq,bne_iff_ne,ne_eq,beq_eq_false_iff_ne,bne_eq_false_iff_eq]at *)<;>(try omega));done)
 all_goals try (((try simp only[decide_eq_true_eq,decide_eq_false_iff_not,beq_iff_eq,bne_iff_ne,ne_eq,beq_eq_false_iff_ne,bne_eq_false_iff_eq]at *)<;>(try omega))<;>first|(rw[partF,if_pos (by omega)]<;>rfl)|(rw[partF,if_neg (by omega),if_pos (by omega)]<;>rfl)|(rw[partF,if_neg (by omega),if_neg (by omega),if_pos (by omega)]<;>rfl)|(rw[partF,if_neg (by omega),if_neg (by omega),if_neg (by omega),if_pos (by omega)]<;>rfl)|(rw[partF,if_neg (by omega),if_neg (by omega),if_neg (by omega),if_neg (by omega),if_pos (by omega)]<;>rfl)|(rw[partF,if_neg (by omega),if_neg (by omega),if_neg (by omega),if_neg (by omega),if_neg (by omega),if_pos (by omega)]<;>rfl)|(rw[partF,if_neg (by omega),if_neg (by omega),if_neg (by omega),if_neg (by omega),if_neg (by omega),if_neg (by omega)]<;>rfl))
 ·refine CallK.intro b99 rfl h2 ?_;simp only[evS,Nat.reduceLT,Nat.reduceEqDiff,reduceCtorEq]
  (repeat' (first|(with_reducible refine aI ?_ ?_)|(first|(first|refine gF ?_ ?_|refine gT ?_ ?_|refine cI ?_ ?_|refine pI ?_ ?_)<;>intro h|(refine dI ?_;have h:=trivial))<;>simp only[h,e3,ea,evS,tyS,Nat.reduceLT,Nat.reduceEqDiff,reduceCtorEq,e2,w1,w2,Bv,Bf,Nat.reduceAdd,Nat.reduceSub,Nat.reduceMul,Nat.reduceLeDiff,List.reduceReplicate,Int.reduceToNat,Int.reduceLE,Int.reduceLT]))
  all_goals try (((try simp only[decide_eq_true_eq,decide_eq_false_iff_not,beq_iff_eq,ne_eq,beq_eq_false_iff_ne,bne_eq_false_iff_eq]at *)<;>(try omega));done)
  all_goals try (((try simp only[decide_eq_true_eq,decide_eq_false_iff_not,beq_iff_eq,ne_eq,beq_eq_false_iff_ne,bne_eq_false_iff_eq]at *)<;>(try omega))<;>first|(rw[partF,if_pos (by omega)]<;>rfl)|(rw[partF,if_neg (by omega),if_pos (by omega)]<;>rfl)|(rw[partF,if_neg (by omega),if_neg (by omega),if_pos (by omega)]<;>rfl)|(rw[partF,if_neg (by omega),if_neg (by omega),if_neg (by omega),if_pos (by omega)]<;>rfl)|(rw[partF,if_neg (by omega),if_neg (by omega),if_neg (by omega),if_neg (by omega),if_pos (by omega)]<;>rfl)|(rw[partF,if_neg (by omega),if_neg (by omega),if_neg (by omega),if_neg (by omega),if_neg (by omega),if_pos (by omega)]<;>rfl)|(rw[partF,if_neg (by omega),if_neg (by omega),if_neg (by omega),if_neg (by omega),if_neg (by omega),if_neg (by omega)]<;>rfl))
  refine CallK.intro b99 rfl h3 ?_;simp only[evS,Nat.reduceLT,Nat.reduceEqDiff,reduceCtorEq]
  (repeat' (first|(with_reducible refine aI ?_ ?_)|(first|(first|refine gF ?_ ?_|refine gT ?_ ?_|refine cI ?_ ?_|refine pI ?_ ?_)<;>intro h|(refine dI ?_;have h:=trivial))<;>simp only[h,evS,Nat.reduceLT,Nat.reduceEqDiff,reduceCtorEq,e2,ea,tyS]))
  all_goals try (((try simp only[decide_eq_true_eq,decide_eq_false_iff_not,beq_iff_eq,ne_eq,beq_eq_false_iff_ne,bne_eq_false_iff_eq]at *)<;>(try omega));done)
  all_goals try (((try simp only[decide_eq_true_eq,decide_eq_false_iff_not,beq_iff_eq,ne_eq,beq_eq_false_iff_ne,bne_eq_false_iff_eq]at *)<;>(try omega))<;>first|(rw[partF,if_pos (by omega)]<;>rfl)|(rw[partF,if_neg (by omega),if_pos (by omega)]<;>rfl)|(rw[partF,if_neg (by omega),if_neg (by omega),if_pos (by omega)]<;>rfl)|(rw[partF,if_neg (by omega),if_neg (by omega),if_neg (by omega),if_pos (by omega)]<;>rfl)|(rw[partF,if_neg (by omega),if_neg (by omega),if_neg (by omega),if_neg (by omega),if_pos (by omega)]<;>rfl)|(rw[partF,if_neg (by omega),if_neg (by omega),if_neg (by omega),if_neg (by omega),if_neg (by omega),if_pos (by omega)]<;>rfl)|(rw[partF,if_neg (by omega),if_neg (by omega),if_neg (by omega),if_neg (by omega),if_neg (by omega),if_neg (by omega)]<;>rfl))
  refine CallK.intro b99 rfl h2 ?_;simp only[w1,e3,ea,evS,tyS,Nat.reduceLT,Nat.reduceEqDiff,reduceCtorEq]
  (repeat' (first|(with_reducible refine aI ?_ ?_)|(first|(first|refine gF ?_ ?_|refine gT ?_ ?_|refine cI ?_ ?_|refine pI ?_ ?_)<;>intro h|(refine dI ?_;have h:=trivial))<;>simp only[h,e2,e3,ea,w1,w2,evS,tyS,Bv,Bf,Nat.reduceAdd,Nat.reduceSub,Nat.reduceMul,Nat.reduceLT,Nat.reduceLeDiff,Nat.reduceEqDiff,reduceCtorEq,List.reduceReplicate,Int.reduceToNat,Int.reduceLE,Int.reduceLT]))
  all_goals try (((try simp only[decide_eq_true_eq,decide_eq_false_iff_not,beq_iff_eq,ne_eq,beq_eq_false_iff_ne,bne_eq_false_iff_eq]at *)<;>(try omega));done)
  refine CallK.intro b99 rfl h3 ?_
  by_cases hh:0≤hexN (atL l (i+2))∧0≤hexN (atL l (i+3))
  ·have u1:IntKind.u8.wrap (16 * hexN (atL l (i+2))+hexN (atL l (i+3)))=(escV (atL l (i+2)) (atL l (i+3)):Int):=by
    rw[u8w (by omega) (by omega)];unfold escV;omega
   simp only[w2,u1,evS,tyS,Nat.reduceLT,Nat.reduceEqDiff,reduceCtorEq]
   (repeat' (first|(with_reducible refine aI ?_ ?_)|(first|(first|refine gF ?_ ?_|refine gT ?_ ?_|refine cI ?_ ?_|refine pI ?_ ?_)<;>intro h|(refine dI ?_;have h:=trivial))<;>simp only[h,evS,Nat.reduceLT,Nat.reduceEqDiff,reduceCtorEq,tyS,Bv,Bf,Nat.reduceAdd,Nat.reduceSub,Nat.reduceMul,Nat.reduceLeDiff,List.reduceReplicate,Int.reduceToNat,Int.reduceLE,Int.reduceLT]))
   all_goals try (((try simp only[decide_eq_true_eq,decide_eq_false_iff_not,beq_iff_eq,ne_eq,beq_eq_false_iff_ne,bne_eq_false_iff_eq]at *)<;>(try omega))<;>first|(rw[partF,if_pos (by omega)]<;>rfl)|(rw[partF,if_neg (by omega),if_pos (by omega)]<;>rfl)|(rw[partF,if_neg (by omega),if_neg (by omega),if_pos (by omega)]<;>rfl)|(rw[partF,if_neg (by omega),if_neg (by omega),if_neg (by omega),if_pos (by omega)]<;>rfl)|(rw[partF,if_neg (by omega),if_neg (by omega),if_neg (by omega),if_neg (by omega),if_pos (by omega)]<;>rfl)|(rw[partF,if_neg (by omega),if_neg (by omega),if_neg (by omega),if_neg (by omega),if_neg (by omega),if_pos (by omega)]<;>rfl)|(rw[partF,if_neg (by omega),if_neg (by omega),if_neg (by omega),if_neg (by omega),if_neg (by omega),if_neg (by omega)]<;>rfl))
  ·((try simp only[decide_eq_true_eq,decide_eq_false_iff_not,beq_iff_eq,ne_eq,beq_eq_false_iff_ne,bne_eq_false_iff_eq]at *)<;>(try omega))
theorem b68:bodyT Tp 209:=⟨_,Tryz.func209,by kernel_rfl,by kernel_rfl⟩
def partsF:Nat→List UInt8→Nat→List UInt8→List UInt8×Nat
 |0,_,i,d=>(d,i)
 |k+1,l,i,d=>if (partF l i).2=0 then (d,i)else partsF k l (i+(partF l i).2) (d++[UInt8.ofNat (partF l i).1])
theorem partF_2(l:List UInt8)(i:Nat):(partF l i).2=0∨(i+(partF l i).2≤l.length∧(partF l i).2≤4):=by
 unfold partF
 split
 ·exact .inl rfl
 ·split
  ·right;constructor
   ·show i+1≤_;omega
   ·show 1≤4;omega
  ·split
   ·exact .inl rfl
   ·split
    ·right;constructor
     ·show i+2≤_;omega
     ·show 2≤4;omega
    ·split
     ·right;constructor
      ·show i+2≤_;omega
      ·show 2≤4;omega
     ·split
      ·right;constructor
       ·show i+4≤_;omega
       ·show 4≤4;omega
      ·exact .inl rfl
theorem partF_1(l:List UInt8)(i:Nat):(partF l i).1<256:=by
 unfold partF;have:=hexN_le (atL l (i+2));have:=hexN_le (atL l (i+3))
 split
 ·show 0<256;omega
 ·split
  ·exact atL_lt l i
  ·split
   ·show 0<256;omega
   ·split
    ·show 34<256;omega
    ·split
     ·show 92<256;omega
     ·split
      ·show escV _ _<256
       unfold escV;omega
      ·show 0<256;omega
def refTextR(l:List UInt8)(at':Nat)(q:List UInt8×Nat):AV:=
 if l.length≤q.2∨atL l q.2≠34∨256<q.1.length then .tup [.agg zero6,.v (.int .i64 11)]
 else .tup [tokA 4 q.1 0 f0 at' ((q.2+1-at':Nat):Int),.v (.int .i64 0)]
def rtextS(γ:List (Nat×AV))(l:List UInt8)(b:Bool)(p:Nat):Nat×List UInt8→St
 |(i,[])=>⟨⟨52,[(0,.sl b l.length l.length (l.map byteC)),(1,.v (.int .i64 p)),(4,.ptr 0 0 0),(6,.v (.int .i64 i)),(7,.v (.slice none 0 0))],γ⟩,[⟨0,54,zero6⟩]⟩
 |(i,x::d)=>⟨⟨52,[(0,.sl b l.length l.length (l.map byteC)),(1,.v (.int .i64 p)),(4,.ptr 0 0 0),(6,.v (.int .i64 i)),(7,.own 2 d.length (x::d).length)],γ⟩,[⟨0,54,zero6⟩,⟨0,5,[byteC x]⟩,⟨d.length,5,(x::d).map byteC⟩]⟩
theorem rtextS_nil(γ:List (Nat×AV))(l:List UInt8)(b:Bool)(p i:Nat):rtextS γ l b p (i,[])=⟨⟨52,[(0,.sl b l.length l.length (l.map byteC)),(1,.v (.int .i64 p)),(4,.ptr 0 0 0),(6,.v (.int .i64 i)),(7,.v (.slice none 0 0))],γ⟩,[⟨0,54,zero6⟩]⟩:=rfl
theorem rtextS_one(γ:List (Nat×AV))(l:List UInt8)(b:Bool)(p i:Nat)(x:UInt8):rtextS γ l b p (i,[x])=⟨⟨52,[(0,.sl b l.length l.length (l.map byteC)),(1,.v (.int .i64 p)),(4,.ptr 0 0 0),(6,.v (.int .i64 i)),(7,.own 2 0 1)],γ⟩,[⟨0,54,zero6⟩,⟨0,5,[byteC x]⟩,⟨0,5,[byteC x]⟩]⟩:=rfl
theorem rtextS_ne(γ:List (Nat×AV))(l:List UInt8)(b:Bool)(p i:Nat){D:List UInt8}(h:D≠[]):rtextS γ l b p (i,D)=⟨⟨52,[(0,.sl b l.length l.length (l.map byteC)),(1,.v (.int .i64 p)),(4,.ptr 0 0 0),(6,.v (.int .i64 i)),(7,.own 2 (D.length-1) D.length)],γ⟩,[⟨0,54,zero6⟩,⟨0,5,[byteC (D.getD 0 0)]⟩,⟨D.length-1,5,D.map byteC⟩]⟩:=by
 cases D with
 |nil=>exact absurd rfl h
 |cons x d=>rfl
theorem rtextS_app(γ:List (Nat×AV))(l:List UInt8)(b:Bool)(p i:Nat){d:List UInt8}(y:UInt8)(h:d≠[]):rtextS γ l b p (i,d++[y])=⟨⟨52,[(0,.sl b l.length l.length (l.map byteC)),(1,.v (.int .i64 p)),(4,.ptr 0 0 0),(6,.v (.int .i64 i)),(7,.own 2 d.length (d.length+1))],γ⟩,[⟨0,54,zero6⟩,⟨0,5,[byteC (d.getD 0 0)]⟩,⟨d.length,5,d.map byteC++[byteC y]⟩]⟩:=by
 cases d with
 |nil=>exact absurd rfl h
 |cons x d=>simp[rtextS]
set_option maxRecDepth 20000 in
theorem refText_ev(b:Bool)(l:List UInt8)(p:Nat)(hl:l.length≤140737488351232)(hp:p<l.length):Ev Tp γ 141 [.sl b l.length l.length (l.map byteC),.v (.int .i64 p)] (refTextR l p (partsF l.length l (p+1) [])):=by
 refine Ev.of Tryz.func141 rfl ?_;generalize hR:refTextR l p (partsF l.length l (p+1) [])=R;have ep:IntKind.i64.wrap ((p:Int)+1)=((p+1:Nat):Int):=by rw[i64w]<;>omega
 simp only[Tryz.f141,ep,evS,tyS,Nat.reduceAdd,Nat.reduceSub,Nat.reduceLT,Nat.reduceEqDiff,reduceCtorEq];refine LoopK.intro (rtextS γ l b p) (fun a=>a.2.length≤a.1∧p+1≤a.1∧a.1≤l.length∧∃ k,l.length≤k+a.1∧refTextR l p (partsF k l a.1 a.2)=R) (fun a=>l.length-a.1) (p+1,[]) ?_ ⟨by simp,by simp,by simp;omega,l.length,by simp,hR⟩ ?_
 ·simp only[rtextS_nil,zero6,evS,Nat.reduceEqDiff,reduceCtorEq]
  (repeat' (first|(with_reducible refine aI ?_ ?_)|(first|(first|refine gF ?_ ?_|refine gT ?_ ?_|refine cI ?_ ?_|refine pI ?_ ?_)<;>intro h|(refine dI ?_;have h:=trivial))<;>simp only[h,evS,tyS,Bv,Bf,Nat.reduceAdd,Nat.reduceSub,Nat.reduceMul,Nat.reduceLT,Nat.reduceLeDiff,Nat.reduceEqDiff,reduceCtorEq,List.reduceReplicate,Int.reduceToNat,Int.reduceLE,Int.reduceLT]))
  all_goals rfl
 ·rintro⟨i,d⟩ ⟨hd,hi1,hi4,k,hk,hR⟩
  simp only at hd hi1 hi4 hk hR;have ea:∀ j,(l.getD j 0).toNat=atL l j:=fun _=>rfl
  have hx1:=partF_1 l i;have hx2:=partF_2 l i;have hue:((UInt8.ofNat (partF l i).1).toNat:Int)=(partF l i).1:=by rw[UInt8.toNat_ofNat_of_lt' hx1]
  have ei:IntKind.i64.wrap ((i:Int)+1)=((i+1:Nat):Int):=by rw[i64w]<;>omega
  have ei2:IntKind.i64.wrap (((i+1:Nat):Int)-p)=((i+1-p:Nat):Int):=by rw[i64w]<;>omega
  have ewn:IntKind.i64.wrap ((i:Int)+((partF l i).2:Nat))=((i+(partF l i).2:Nat):Int):=by rw[i64w]<;>omega
  have hstop:(partF l i).2=0→R=refTextR l p (d,i):=fun h=>by
   rw[←hR];cases k with
   |zero=>rfl
   |succ k=>simp only[partsF,if_pos h]
  have hgo:(partF l i).2≠0→∃ k',l.length≤k'+(i+(partF l i).2)∧refTextR l p (partsF k' l (i+(partF l i).2) (d++[UInt8.ofNat (partF l i).1]))=R:=fun h=>by
   cases k with
   |zero=>omega
   |succ k=>exact⟨k,by omega,by rw[←hR];simp only[partsF,if_neg h]⟩
  have hpart:=refPart_ev (γ:=γ) b l i hl hi4;clear hR
  by_cases hne:d=[]
  ·subst hne;simp only[rtextS_nil,zero6,evS,Nat.reduceLT,Nat.reduceEqDiff,reduceCtorEq];refine CallK.intro b68 (by simp only[treeL,treeA,Bool.and_self]) hpart ?_;simp only[evS,Nat.reduceLT,Nat.reduceEqDiff,reduceCtorEq];refine CondK.intro (fun h=>?_) (fun h=>?_)
   ·simp only[h,evS,tyS,Nat.reduceLT,Nat.reduceEqDiff,reduceCtorEq]
    (repeat' (first|(with_reducible refine aI ?_ ?_)|(first|(first|refine gF ?_ ?_|refine gT ?_ ?_|refine cI ?_ ?_|refine pI ?_ ?_)<;>intro h|(refine dI ?_;have h:=trivial))<;>simp only[h,ea,ei,ei2,evS,tyS,Nat.reduceAdd,Nat.reduceLT,Nat.reduceLeDiff,Nat.reduceEqDiff,reduceCtorEq,Int.reduceLT,zero6,Bv,Bf,Nat.reduceSub,Nat.reduceMul,List.reduceReplicate,Int.reduceToNat,Int.reduceLE]))
    all_goals try (((try simp only[decide_eq_true_eq,decide_eq_false_iff_not,beq_iff_eq,bne_iff_ne,ne_eq,bne_eq_false_iff_eq]at *)<;>(try omega));done)
    ·((try simp only[decide_eq_false_iff_not,beq_iff_eq,ne_eq,bne_eq_false_iff_eq]at *)<;>(try omega))
     rw[hstop (by omega),refTextR,if_neg (by simp only[BD];omega)];simp only[tokA,f0,evS]
    ·((try simp only[decide_eq_false_iff_not,beq_iff_eq,bne_iff_ne,ne_eq]at *)<;>(try omega))
     rw[hstop (by omega),refTextR,if_pos (by simp only;omega)];simp only[zero6,evS]
    ·((try simp only[decide_eq_true_eq,beq_iff_eq,ne_eq]at *)<;>(try omega))
     rw[hstop (by omega),refTextR,if_pos (by simp only;omega)];simp only[zero6,evS]
   ·simp only[h,ewn,evS,tyS,Nat.reduceAdd,Nat.reduceLT,Nat.reduceLeDiff,Nat.reduceEqDiff,reduceCtorEq,List.reduceReplicate]
    (repeat' (first|(with_reducible refine aI ?_ ?_)|(first|(first|refine gF ?_ ?_|refine gT ?_ ?_|refine cI ?_ ?_|refine pI ?_ ?_)<;>intro h|(refine dI ?_;have h:=trivial))<;>simp only[h,evS,tyS,Bv,Bf,Nat.reduceAdd,Nat.reduceSub,Nat.reduceMul,Nat.reduceLT,Nat.reduceLeDiff,Nat.reduceEqDiff,reduceCtorEq,List.reduceReplicate,Int.reduceToNat,Int.reduceLE,Int.reduceLT]))
    all_goals try (((try simp only[ne_eq,beq_eq_false_iff_ne]at *)<;>(try omega));done)
    ((try simp only[ne_eq,beq_eq_false_iff_ne]at *)<;>(try omega))
    obtain⟨k',hk',hR'⟩:=hgo (by omega);refine loopC.intro (i+(partF l i).2,[UInt8.ofNat (partF l i).1]) ⟨by simp only[BC,BD];omega,by simp only;omega,by simp only;omega,k',by simp only;omega,hR'⟩ ?_ (by simp only;omega);refine⟨rfl,rfl,?_,.inl ?_⟩<;>simp only[rtextS_one,zero6,byteC,hue,evS,Nat.reduceEqDiff,reduceCtorEq]<;>try (first|rfl|trivial|(simp[byteC,hue];done))
  ·have hpos:0<d.length:=List.length_pos_iff.2 hne;have ev1:d.length-1+1=d.length:=by omega
   have ev2:d.length+1-1=d.length:=by omega
   simp only[rtextS_ne γ l b p i hne,zero6,evS,Nat.reduceLT,Nat.reduceEqDiff,reduceCtorEq];refine CallK.intro b68 (by simp only[treeL,treeA,Bool.and_self]) hpart ?_;simp only[evS,Nat.reduceLT,Nat.reduceEqDiff,reduceCtorEq];refine CondK.intro (fun h=>?_) (fun h=>?_)
   ·simp only[h,evS,tyS,Nat.reduceLT,Nat.reduceEqDiff,reduceCtorEq]
    (repeat' (first|(with_reducible refine aI ?_ ?_)|(first|(first|refine gF ?_ ?_|refine gT ?_ ?_|refine cI ?_ ?_|refine pI ?_ ?_)<;>intro h|(refine dI ?_;have h:=trivial))<;>simp only[h,ea,ei,ei2,evS,tyS,Nat.reduceAdd,Nat.reduceLT,Nat.reduceLeDiff,Nat.reduceEqDiff,reduceCtorEq,zero6,Bv,Bf,Nat.reduceSub,Nat.reduceMul,List.reduceReplicate,Int.reduceToNat,Int.reduceLE,Int.reduceLT]))
    all_goals try (((try simp only[decide_eq_true_eq,decide_eq_false_iff_not,beq_iff_eq,bne_iff_ne,ne_eq,bne_eq_false_iff_eq]at *)<;>(try omega));done)
    ·((try simp only[decide_eq_true_eq,decide_eq_false_iff_not,beq_iff_eq,ne_eq,bne_eq_false_iff_eq]at *)<;>(try omega))
     rw[hstop (by omega),refTextR,if_pos (by simp only;omega)];simp only[zero6,evS]
    ·((try simp only[decide_eq_false_iff_not,beq_iff_eq,ne_eq,bne_eq_false_iff_eq]at *)<;>(try omega))
     rw[hstop (by omega),refTextR,if_neg (by simp only;omega)];simp only[tokA,f0,evS]
    ·((try simp only[decide_eq_false_iff_not,beq_iff_eq,bne_iff_ne,ne_eq]at *)<;>(try omega))
     rw[hstop (by omega),refTextR,if_pos (by simp only;omega)];simp only[zero6,evS]
    ·((try simp only[decide_eq_true_eq,beq_iff_eq,ne_eq]at *)<;>(try omega))
     rw[hstop (by omega),refTextR,if_pos (by simp only;omega)];simp only[zero6,evS]
   ·simp only[h,ewn,evS,tyS,Nat.reduceAdd,Nat.reduceLT,Nat.reduceLeDiff,Nat.reduceEqDiff,reduceCtorEq,List.reduceReplicate]
    (repeat' (first|(with_reducible refine aI ?_ ?_)|(first|(first|refine gF ?_ ?_|refine gT ?_ ?_|refine cI ?_ ?_|refine pI ?_ ?_)<;>intro h|(refine dI ?_;have h:=trivial))<;>simp only[h,evS,tyS,Bv,Bf,Nat.reduceAdd,Nat.reduceSub,Nat.reduceMul,Nat.reduceLT,Nat.reduceLeDiff,Nat.reduceEqDiff,reduceCtorEq,List.reduceReplicate,Int.reduceToNat,Int.reduceLE,Int.reduceLT]))
    all_goals try (((try simp only[ne_eq,beq_eq_false_iff_ne]at *)<;>(try omega));done)
    all_goals try exact all_one_map _
    ((try simp only[ne_eq,beq_eq_false_iff_ne]at *)<;>(try omega))
    obtain⟨k',hk',hR'⟩:=hgo (by omega);refine loopC.intro (i+(partF l i).2,d++[UInt8.ofNat (partF l i).1]) ⟨by simp only[Bp,BC,BD];omega,by simp only;omega,by simp only;omega,k',by simp only;omega,hR'⟩ ?_ (by simp only;omega);have hT:=rtextS_app γ l b p (i+(partF l i).2) (UInt8.ofNat (partF l i).1) hne;refine⟨by rw[hT],by rw[hT],?_,.inr ?_⟩<;>rw[hT]
    ·simp only[ev1,evS,Nat.reduceEqDiff,reduceCtorEq]<;>try (first|rfl|trivial|(simp[byteC,hue,okRef];done))
    ·refine⟨?_,?_,?_⟩<;>simp only[zero6,byteC,hue,okRefL,okRef,okRefB,okRefL_map,okRefL_append,Bool.and_self,decide_true,ev1,evS,Nat.reduceAdd,Nat.reduceLT]<;>try (first|rfl|trivial|(simp[byteC,hue,okRef];done))
end Go.Proofs.YtlobiioioicmhaaGreatDoor
