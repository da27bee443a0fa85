/- A part of the proof. -/
import Derived.Test.YtlobiioioicmhaaGreatDoorDU7
import Derived.Test.YtlobiioioicmhaaGreatDoorProg
import Derived.KernelRfl
import Derived.Shelf.Strings.Search3
import Derived.Shelf.Strconv.ToErrorRange
set_option linter.all false
set_option maxHeartbeats 8000000
namespace Go.Proofs.YtlobiioioicmhaaGreatDoor
open _root_.Bool renaming not_true→Bv,not_false→Bf
open _root_.List renaming length_append→Bp,getElem?_eq_none→Bq,length_drop→Bd,length_take→Bh,length_cons→BC,length_nil→BD
open _root_.Nat renaming le_refl→BL
open Go.Proofs.Tryz renaming prog→Tp
open Go Go.Ev
set_option maxRecDepth 20000
theorem tyS:aggT Tp 2=some false∧
  aggT Tp 37=some false∧
  aggT Tp 3=some false∧
  aggT Tp 22=some false∧
  aggT Tp 53=some true∧
  aggT Tp 48=some false∧
  aggT Tp 5=some false∧
  aggT Tp 54=some true∧
  aggT Tp 9=some false∧
  appT Tp 37 37=some (5,1,1)∧
  appT Tp 47 47=some (54,6,56)∧
  appT Tp 48 48=some (53,6,56)∧
  elemT Tp 37=some 5∧
  elemT Tp 47=some 54∧
  elemT Tp 48=some 53∧
  fieldT Tp 53 0=some (0,3)∧
  fieldT Tp 53 1=some (1,9)∧
  fieldT Tp 53 2=some (2,2)∧
  fieldT Tp 53 3=some (3,22)∧
  fieldT Tp 53 4=some (4,3)∧
  fieldT Tp 53 5=some (5,3)∧
  fieldT Tp 54 0=some (0,3)∧
  fieldT Tp 54 1=some (1,9)∧
  fieldT Tp 54 2=some (2,2)∧
  fieldT Tp 54 3=some (3,22)∧
  fieldT Tp 54 4=some (4,3)∧
  fieldT Tp 54 5=some (5,3)∧
  fltT Tp 2=none∧
  fltT Tp 21=none∧
  fltT Tp 37=none∧
  fltT Tp 3=none∧
  fltT Tp 22=some .f64∧
  fltT Tp 176=none∧
  fltT Tp 5=none∧
  fltT Tp 9=none∧
  intT Tp 2=some .i64∧
  intT Tp 21=some .i32∧
  intT Tp 37=none∧
  intT Tp 3=some .i64∧
  intT Tp 22=none∧
  intT Tp 176=some .u64∧
  intT Tp 5=some .u8∧
  intT Tp 9=none∧
  mkT Tp 37=some (5,1,[.v (.int .u8 0)])∧
  mkT Tp 47=some (54,6,[.v (.int .i64 0),.v (.string ⟨#[]⟩),.v (.int .i64 0),.v (.float .f64 0),.v (.int .i64 0),.v (.int .i64 0)])∧
  mkT Tp 48=some (53,6,[.v (.int .i64 0),.v (.string ⟨#[]⟩),.v (.int .i64 0),.v (.float .f64 0),.v (.int .i64 0),.v (.int .i64 0)])∧
  placesT Tp 53=some [(0,1),(1,1),(2,1),(3,1),(4,1),(5,1)]∧
  placesT Tp 54=some [(0,1),(1,1),(2,1),(3,1),(4,1),(5,1)]∧
  sizeT Tp 2=some 1∧
  sizeT Tp 26=some 1∧
  sizeT Tp 3=some 1∧
  sizeT Tp 22=some 1∧
  sizeT Tp 53=some 6∧
  sizeT Tp 48=some 1∧
  sizeT Tp 5=some 1∧
  sizeT Tp 54=some 6∧
  sizeT Tp 9=some 1∧
  strT Tp 2=false∧
  strT Tp 21=false∧
  strT Tp 37=false∧
  strT Tp 3=false∧
  strT Tp 22=false∧
  strT Tp 176=false∧
  strT Tp 5=false∧
  strT Tp 9=true∧
  (Tryz.prog.underlying 2).isSome=true∧
  (Tryz.prog.underlying 21).isSome=true∧
  (Tryz.prog.underlying 37).isSome=true∧
  (Tryz.prog.underlying 3).isSome=true∧
  (Tryz.prog.underlying 176).isSome=true∧
  (Tryz.prog.underlying 5).isSome=true∧
  zcT Tp 26=some [.v (.int .i64 0)]∧
  zcT Tp 3=some [.v (.int .i64 0)]∧
  zcT Tp 53=some [.v (.int .i64 0),.v (.string ⟨#[]⟩),.v (.int .i64 0),.v (.float .f64 0),.v (.int .i64 0),.v (.int .i64 0)]∧
  zcT Tp 48=some [.v (.slice none 0 0)]∧
  zcT Tp 54=some [.v (.int .i64 0),.v (.string ⟨#[]⟩),.v (.int .i64 0),.v (.float .f64 0),.v (.int .i64 0),.v (.int .i64 0)]:=
 (by and_intros<;>kernel_rfl)
variable {γ:List (Nat×AV)}
def letterN(n:Nat):Bool:=decide (97≤n∧n≤122∨65≤n∧n≤90)
def digitN(n:Nat):Bool:=decide (48≤n∧n≤57)
def nameN(n:Nat):Bool:=letterN n || digitN n || decide (n=95)
theorem b45:bodyT Tp 239:=⟨_,Tryz.func239,by kernel_rfl,by kernel_rfl⟩
theorem b47:bodyT Tp 241:=⟨_,Tryz.func241,by kernel_rfl,by kernel_rfl⟩
theorem b69:bodyT Tp 275:=⟨_,Tryz.func275,by kernel_rfl,by kernel_rfl⟩
theorem b71:bodyT Tp 277:=⟨_,Tryz.func277,by kernel_rfl,by kernel_rfl⟩
theorem b70:bodyT Tp 276:=⟨_,Tryz.func276,by kernel_rfl,by kernel_rfl⟩
theorem lexLetter_ev(n:Nat):Ev Tp γ 239 [.v (.int .u8 n)] (.v (.bool (letterN n))):=by
 refine Ev.of Tryz.func239 rfl ?_;simp only[Tryz.f239,evS,Nat.reduceAdd,Nat.reduceSub,Nat.reduceLT,Nat.reduceEqDiff,reduceCtorEq]
 (repeat' (first|(with_reducible refine aI ?_ ?_)|(first|(first|refine gF ?_ ?_|refine gT ?_ ?_|refine cI ?_ ?_|refine pI ?_ ?_)<;>intro h|(refine dI ?_;have h:=trivial))<;>simp only[h,evS,Nat.reduceLT,Nat.reduceEqDiff,reduceCtorEq,tyS,Bv,Bf,Nat.reduceAdd,Nat.reduceSub,Nat.reduceMul,Nat.reduceLeDiff,List.reduceReplicate,Int.reduceToNat,Int.reduceLE,Int.reduceLT]))
 all_goals (((try simp only[decide_eq_true_eq,decide_eq_false_iff_not]at *)<;>(try omega))<;>simp only[letterN,AV.v.injEq,Value.bool.injEq]<;>first|exact (decide_eq_true (by omega)).symm|exact (decide_eq_false (by omega)).symm|exact decide_eq_decide.2 (by omega))
theorem lexDigit_ev(n:Nat):Ev Tp γ 241 [.v (.int .u8 n)] (.v (.bool (digitN n))):=by
 refine Ev.of Tryz.func241 rfl ?_;simp only[Tryz.f241,evS,Nat.reduceAdd,Nat.reduceSub,Nat.reduceLT,Nat.reduceEqDiff,reduceCtorEq]
 (repeat' (first|(with_reducible refine aI ?_ ?_)|(first|(first|refine gF ?_ ?_|refine gT ?_ ?_|refine cI ?_ ?_|refine pI ?_ ?_)<;>intro h|(refine dI ?_;have h:=trivial))<;>simp only[h,evS,Nat.reduceLT,Nat.reduceEqDiff,reduceCtorEq,tyS,Bv,Bf,Nat.reduceAdd,Nat.reduceSub,Nat.reduceMul,Nat.reduceLeDiff,List.reduceReplicate,Int.reduceToNat,Int.reduceLE,Int.reduceLT]))
 all_goals (((try simp only[decide_eq_true_eq,decide_eq_false_iff_not]at *)<;>(try omega))<;>simp only[digitN,AV.v.injEq,Value.bool.injEq]<;>first|exact (decide_eq_true (by omega)).symm|exact (decide_eq_false (by omega)).symm|exact decide_eq_decide.2 (by omega))
theorem lexInName_ev(n:Nat):Ev Tp γ 275 [.v (.int .u8 n)] (.v (.bool (nameN n))):=by
 refine Ev.of Tryz.func275 rfl ?_;simp only[Tryz.f275,evS,Nat.reduceAdd,Nat.reduceSub,Nat.reduceLT,Nat.reduceEqDiff,reduceCtorEq];refine CallK.intro b45 rfl (lexLetter_ev n) ?_;simp only[evS,Nat.reduceLT,Nat.reduceEqDiff,reduceCtorEq];refine GuardK.intro_f (fun h=>?_) (fun h=>?_)<;>simp only[h,evS,Nat.reduceLT,Nat.reduceEqDiff,reduceCtorEq]
 ·refine CallK.intro b47 rfl (lexDigit_ev n) ?_;simp only[evS,Nat.reduceLT,Nat.reduceEqDiff,reduceCtorEq]
  (repeat' (first|(with_reducible refine aI ?_ ?_)|(first|(first|refine gF ?_ ?_|refine gT ?_ ?_|refine cI ?_ ?_|refine pI ?_ ?_)<;>intro h|(refine dI ?_;have h:=trivial))<;>simp only[h,evS,Nat.reduceLT,Nat.reduceEqDiff,reduceCtorEq,tyS,Bv,Bf,Nat.reduceAdd,Nat.reduceSub,Nat.reduceMul,Nat.reduceLeDiff,List.reduceReplicate,Int.reduceToNat,Int.reduceLE,Int.reduceLT]))
  all_goals (((try simp only[decide_eq_true_eq,decide_eq_false_iff_not,beq_iff_eq,bne_iff_ne,ne_eq,beq_eq_false_iff_ne,bne_eq_false_iff_eq]at *)<;>(try omega))<;>simp only[nameN];simp[*]<;>first|(rw[Bool.eq_iff_iff];simp;omega)|omega)
 ·(repeat' (first|(with_reducible refine aI ?_ ?_)|(first|(first|refine gF ?_ ?_|refine gT ?_ ?_|refine cI ?_ ?_|refine pI ?_ ?_)<;>intro h|(refine dI ?_;have h:=trivial))<;>simp only[h,evS,tyS,Bv,Bf,Nat.reduceAdd,Nat.reduceSub,Nat.reduceMul,Nat.reduceLT,Nat.reduceLeDiff,Nat.reduceEqDiff,reduceCtorEq,List.reduceReplicate,Int.reduceToNat,Int.reduceLE,Int.reduceLT]))
  all_goals (((try simp only[decide_eq_true_eq,decide_eq_false_iff_not,beq_iff_eq,bne_iff_ne,ne_eq,beq_eq_false_iff_ne,bne_eq_false_iff_eq]at *)<;>(try omega))<;>simp only[nameN];simp[*]<;>first|(rw[Bool.eq_iff_iff];simp;omega)|omega)
def atL(l:List UInt8)(i:Nat):Nat:=(l.getD i 0).toNat
theorem lexAt_ev(b:Bool)(l:List UInt8)(i:Nat):Ev Tp γ 277 [.sl b l.length l.length (l.map byteC),.v (.int .i64 i)] (.v (.int .u8 (atL l i))):=by
 refine Ev.of Tryz.func277 rfl ?_;simp only[Tryz.f277,evS,tyS,Nat.reduceAdd,Nat.reduceSub,Nat.reduceLT,Nat.reduceEqDiff,reduceCtorEq]
 (repeat' (first|(with_reducible refine aI ?_ ?_)|(first|(first|refine gF ?_ ?_|refine gT ?_ ?_|refine cI ?_ ?_|refine pI ?_ ?_)<;>intro h|(refine dI ?_;have h:=trivial))<;>simp only[h,evS,tyS,Nat.reduceLT,Nat.reduceEqDiff,reduceCtorEq,Bv,Bf,Nat.reduceAdd,Nat.reduceSub,Nat.reduceMul,Nat.reduceLeDiff,List.reduceReplicate,Int.reduceToNat,Int.reduceLE,Int.reduceLT]))
 all_goals (((try simp only[decide_eq_true_eq,decide_eq_false_iff_not]at *)<;>(try omega));try rfl)
 simp only[atL,List.getD];rw[Bq (by omega)]
 rfl
def digitsEnd(l:List UInt8)(i:Nat):Nat:=i+((l.drop i).takeWhile fun c=>digitN c.toNat).length
theorem digitsEnd_step{l:List UInt8}{i:Nat}(h:digitN (atL l i)=true):digitsEnd l i=digitsEnd l (i+1)∧i<l.length:=by
 have hi:i<l.length:=by
  by_cases hi:i<l.length
  ·exact hi
  ·have e:atL l i=0:=by simp only[atL,List.getD];rw[Bq (by omega)];rfl
   rw[e]at h;exact absurd h (by decide)
 refine⟨?_,hi⟩;have e:l.drop i=l[i]::l.drop (i+1):=List.drop_eq_getElem_cons hi;have e2:atL l i=l[i].toNat:=by simp[atL,List.getD,hi]
 rw[e2]at h;unfold digitsEnd;rw[e,List.takeWhile_cons,if_pos h];simp only[BC];omega
theorem digitsEnd_stop{l:List UInt8}{i:Nat}(h:digitN (atL l i)=false):digitsEnd l i=i:=by
 unfold digitsEnd
 by_cases hi:i<l.length
 ·have e:l.drop i=l[i]::l.drop (i+1):=List.drop_eq_getElem_cons hi;have e2:atL l i=l[i].toNat:=by simp[atL,List.getD,hi]
  rw[e2]at h;rw[e,List.takeWhile_cons,if_neg (by simp[h])];rfl
 ·rw[List.drop_eq_nil_of_le (by omega)];rfl
theorem lexDigits_ev(b:Bool)(l:List UInt8)(i:Nat)(hl:l.length≤140737488355328)(hi:i≤140737488355330):Ev Tp γ 276 [.sl b l.length l.length (l.map byteC),.v (.int .i64 i)] (.v (.int .i64 (digitsEnd l i))):=by
 refine Ev.of Tryz.func276 rfl ?_;simp only[Tryz.f276,evS,Nat.reduceAdd,Nat.reduceSub,Nat.reduceLT];refine LoopK.intro (fun j:Nat=>⟨⟨12,[(0,.sl b l.length l.length (l.map byteC)),(1,.v (.int .i64 j))],γ⟩,[]⟩) (fun j=>j≤140737488355330∧digitsEnd l j=digitsEnd l i) (fun j=>l.length-j) i ?_ ⟨hi,rfl⟩ (fun j hj=>?_)
 ·simp only[evS,Nat.reduceEqDiff,reduceCtorEq]
 ·simp only[evS,Nat.reduceLT,Nat.reduceEqDiff,reduceCtorEq];refine CallK.intro b71 (by simp[treeL,treeA]) (lexAt_ev b l j) ?_;simp only[evS,Nat.reduceLT,Nat.reduceEqDiff,reduceCtorEq];refine CallK.intro b47 rfl (lexDigit_ev _) ?_;simp only[evS,Nat.reduceLT,Nat.reduceEqDiff,reduceCtorEq];refine CondK.intro (fun h=>?_) (fun h=>?_)<;>simp only[h,evS,Nat.reduceLT,Nat.reduceEqDiff,reduceCtorEq]
  ·have hs:=digitsEnd_step h;have ew:IntKind.i64.wrap ((j:Int)+1)=((j+1:Nat):Int):=by rw[i64w]<;>omega
   refine loopC.intro (j+1) ⟨by omega,by rw[←hs.1];exact hj.2⟩ ?_ (by omega);simp only[ew,evS,Nat.reduceEqDiff,reduceCtorEq]
  ·have hs:=digitsEnd_stop h;rw[hs]at hj;rw[←hj.2]
def spanEnd(p:Nat→Bool)(l:List UInt8)(i:Nat):Nat:=i+((l.drop i).takeWhile fun c=>p c.toNat).length
theorem spanEnd_step{p:Nat→Bool}{l:List UInt8}{i:Nat}(hi:i<l.length)(h:p (l.getD i 0).toNat=true):spanEnd p l i=spanEnd p l (i+1):=by
 have e:l.drop i=l[i]::l.drop (i+1):=List.drop_eq_getElem_cons hi;have e2:l.getD i 0=l[i]:=by simp[List.getD,hi]
 rw[e2]at h;unfold spanEnd;rw[e,List.takeWhile_cons,if_pos h];simp only[BC];omega
theorem spanEnd_stop{p:Nat→Bool}{l:List UInt8}{i:Nat}(h:i<l.length→p (l.getD i 0).toNat=false):spanEnd p l i=i:=by
 unfold spanEnd
 by_cases hi:i<l.length
 ·have e:l.drop i=l[i]::l.drop (i+1):=List.drop_eq_getElem_cons hi;have e2:l.getD i 0=l[i]:=by simp[List.getD,hi]
  have h:=h hi;rw[e2]at h;rw[e,List.takeWhile_cons,if_neg (by simp[h])];rfl
 ·rw[List.drop_eq_nil_of_le (by omega)];rfl
theorem spanEnd_le{p:Nat→Bool}{l:List UInt8}{i:Nat}(h:i≤l.length):i≤spanEnd p l i∧spanEnd p l i≤l.length:=by
 unfold spanEnd;have:=(List.takeWhile_sublist (l:=l.drop i) (fun c=>p c.toNat)).length_le;rw[Bd]at this
 omega
theorem digitsEnd_span(l:List UInt8)(i:Nat):digitsEnd l i=spanEnd digitN l i:=rfl
def tokA(kind:Int)(text:List UInt8)(int:Int)(real:AV)(pos size:Int):AV:=
 .agg [.v (.int .i64 kind),.v (.string ⟨text.toArray⟩),.v (.int .i64 int),real,.v (.int .i64 pos),.v (.int .i64 size)]
def f0:AV:=.v (.float .f64 0)
set_option maxRecDepth 20000 in
theorem lexName_ev(b:Bool)(l:List UInt8)(hl:l.length≤140737488355328)(h1:1≤l.length):Ev Tp γ 240 [.sl b l.length l.length (l.map byteC)] (tokA 1 (l.take (spanEnd nameN l 1)) 0 f0 0 (spanEnd nameN l 1:Nat)):=by
 refine Ev.of Tryz.func240 rfl ?_;simp only[Tryz.f240,evS,tyS,Nat.reduceAdd,Nat.reduceSub,Nat.reduceLT];refine LoopK.intro (fun j:Nat=>⟨⟨23,[(0,.sl b l.length l.length (l.map byteC)),(2,.ptr 0 0 0),(3,.v (.int .i64 j))],γ⟩,[⟨0,53,[.v (.int .i64 0),.v (.string ⟨#[]⟩),.v (.int .i64 0),.v (.float .f64 0),.v (.int .i64 0),.v (.int .i64 0)]⟩]⟩) (fun j=>j≤l.length∧spanEnd nameN l j=spanEnd nameN l 1) (fun j=>l.length-j) 1 ?_ ⟨h1,rfl⟩ (fun j hj=>?_)
 ·simp only[evS,Nat.reduceEqDiff,reduceCtorEq]
  rfl
 ·have hstop:∀ (hs:j<l.length→nameN (l.getD j 0).toNat=false),spanEnd nameN l 1=j:=fun hs=>hj.2.symm.trans (spanEnd_stop hs)
  simp only[evS,tyS,Nat.reduceLT,Nat.reduceEqDiff,reduceCtorEq]
  (repeat' (first|(with_reducible refine aI ?_ ?_)|(first|(first|refine gF ?_ ?_|refine gT ?_ ?_|refine cI ?_ ?_|refine pI ?_ ?_)<;>intro h|(refine dI ?_;have h:=trivial))<;>simp only[h,evS,tyS,Nat.reduceAdd,Nat.reduceLT,Nat.reduceLeDiff,Nat.reduceEqDiff,reduceCtorEq,Bv,Bf,Nat.reduceSub,Nat.reduceMul,List.reduceReplicate,Int.reduceToNat,Int.reduceLE,Int.reduceLT]))
  all_goals try (((try simp only[decide_eq_true_eq,decide_eq_false_iff_not]at *)<;>(try omega));done)
  ·((try simp only[decide_eq_true_eq]at *)<;>(try omega))
   refine CallK.intro b69 rfl (lexInName_ev _) ?_;simp only[evS,Nat.reduceLT,Nat.reduceEqDiff,reduceCtorEq];refine CondK.intro (fun h=>?_) (fun h=>?_)<;>simp only[h,evS,tyS,Nat.reduceAdd,Nat.reduceLT,Nat.reduceLeDiff,Nat.reduceEqDiff,reduceCtorEq]
   ·have ew:IntKind.i64.wrap ((j:Int)+1)=((j+1:Nat):Int):=by rw[i64w]<;>omega
    refine loopC.intro (j+1) ⟨by omega,by rw[←spanEnd_step (by omega) h];exact hj.2⟩ ?_ (by omega);simp only[ew,evS,Nat.reduceEqDiff,reduceCtorEq]
   ·rw[hstop fun _=>h];simp only[tokA,f0,evS]
    (repeat' (first|(with_reducible refine aI ?_ ?_)|(first|(first|refine gF ?_ ?_|refine gT ?_ ?_|refine cI ?_ ?_|refine pI ?_ ?_)<;>intro h|(refine dI ?_;have h:=trivial))<;>simp only[h,evS,tyS,Bv,Bf,Nat.reduceAdd,Nat.reduceSub,Nat.reduceMul,Nat.reduceLT,Nat.reduceLeDiff,Nat.reduceEqDiff,reduceCtorEq,List.reduceReplicate,Int.reduceToNat,Int.reduceLE,Int.reduceLT]))
    all_goals first|(((try simp only[decide_eq_true_eq,decide_eq_false_iff_not,beq_iff_eq,bne_iff_ne,ne_eq,beq_eq_false_iff_ne,bne_eq_false_iff_eq]at *)<;>(try omega));done)|trivial
  ·((try simp only[decide_eq_false_iff_not]at *)<;>(try omega))
   rw[hstop fun h'=>by omega];simp only[tokA,f0,evS]
theorem b76:bodyT Tp 160:=⟨_,Tryz.func160,by kernel_rfl,by kernel_rfl⟩
theorem b102:bodyT Tp 218:=⟨_,Tryz.func218,by kernel_rfl,by kernel_rfl⟩
theorem sl_IndexByte_ev(s:ByteArray)(c:Int):Ev Tp γ 218 [.v (.string s),.v (.int .u8 c)] (.v (.int .i64 (Lib.indexByte s.data.toList c.toNat.toUInt8))):=by
 refine Ev.of Tryz.func218 rfl ?_;simp only[Tryz.f218,evS,Nat.reduceAdd,Nat.reduceSub,Nat.reduceLT,Nat.reduceEqDiff,reduceCtorEq];refine CallK.ext (ext_indexByteString Tryz.func257 (by kernel_rfl) (by kernel_rfl) (by kernel_rfl) (by kernel_rfl) s c) ?_;simp only[evS,Nat.reduceLT,Nat.reduceEqDiff,reduceCtorEq]
theorem strings_IndexByte_ev(s:ByteArray)(c:Int):Ev Tp γ 160 [.v (.string s),.v (.int .u8 c)] (.v (.int .i64 (Lib.indexByte s.data.toList c.toNat.toUInt8))):=by
 refine Ev.of Tryz.func160 rfl ?_;simp only[Tryz.f160,evS,Nat.reduceAdd,Nat.reduceSub,Nat.reduceLT,Nat.reduceEqDiff,reduceCtorEq];refine CallK.intro b102 rfl (sl_IndexByte_ev s c) ?_;simp only[evS,Nat.reduceLT,Nat.reduceEqDiff,reduceCtorEq]
def hexN(n:Nat):Int:=if 48≤n∧n≤57 then n-48 else if 97≤n∧n≤102 then n-87 else -1
theorem hexN_index(c:UInt8):Lib.indexByte [48,49,50,51,52,53,54,55,56,57,97,98,99,100,101,102] c=hexN c.toNat:=by
 have:=b256 (p:=fun n=>Lib.indexByte [48,49,50,51,52,53,54,55,56,57,97,98,99,100,101,102] (UInt8.ofNat n)=hexN n) (by decide +kernel) c;simpa using this
theorem hexIdx_ev(c:UInt8):Ev Tp γ 160 [.v (.string ⟨#[48,49,50,51,52,53,54,55,56,57,97,98,99,100,101,102]⟩),.v (.int .u8 (c.toNat:Nat))] (.v (.int .i64 (hexN c.toNat))):=by
 have:=strings_IndexByte_ev (γ:=γ) ⟨#[48,49,50,51,52,53,54,55,56,57,97,98,99,100,101,102]⟩ (c.toNat:Nat);rw[←hexN_index];simpa using this
theorem hexN_le(n:Nat): -1≤hexN n∧hexN n≤15:=by
 unfold hexN
 split
 ·omega
 ·split<;>omega
def escV(a b:Nat):Nat:=(16 * hexN a+hexN b).toNat
def escF(l:List UInt8):Nat×Nat:=
 if atL l 1=34∨atL l 1=92 then (atL l 1,2)
 else if atL l 1=120∧4≤l.length∧0≤hexN (atL l 2)∧0≤hexN (atL l 3)∧(escV (atL l 2) (atL l 3)<32∨126<escV (atL l 2) (atL l 3))then (escV (atL l 2) (atL l 3),4)
 else (0,0)
set_option maxRecDepth 20000 in
theorem lexEscaped_ev(b:Bool)(l:List UInt8)(hl:l.length≤140737488355328):Ev Tp γ 280 [.sl b l.length l.length (l.map byteC)] (.tup [.v (.int .u8 (escF l).1),.v (.int .i64 (escF l).2)]):=by
 refine Ev.of Tryz.func280 rfl ?_
 have hlen:∀ i,atL l i≠0→i<l.length:=fun i h=>by
  by_cases hi:i<l.length
  ·exact hi
  ·exact absurd (by simp only[atL,List.getD];rw[Bq (by omega)];rfl) h
 simp only[Tryz.f280,evS,Nat.reduceAdd,Nat.reduceSub,Nat.reduceLT,Nat.reduceEqDiff,reduceCtorEq];refine CallK.intro b71 (by simp[treeL,treeA]) (lexAt_ev b l 1) ?_;simp only[evS,Nat.reduceLT,Nat.reduceEqDiff,reduceCtorEq];have hlen':atL l 1≠0→1<l.length:=hlen 1
 (repeat' (first|(with_reducible refine aI ?_ ?_)|(first|(first|refine gF ?_ ?_|refine gT ?_ ?_|refine cI ?_ ?_|refine pI ?_ ?_)<;>intro h|(refine dI ?_;have h:=trivial))<;>simp only[h,evS,tyS,Nat.reduceLT,Nat.reduceEqDiff,reduceCtorEq,Int.reduceToNat,Int.reduceLE]))
 all_goals try (((try simp only[decide_eq_true_eq,decide_eq_false_iff_not,beq_iff_eq,ne_eq,beq_eq_false_iff_ne]at *)<;>(try omega));done)
 ·((try simp only[beq_iff_eq,ne_eq]at *)<;>(try omega));rw[escF,if_pos (by omega)];rfl
 ·((try simp only[beq_iff_eq,ne_eq]at *)<;>(try omega));rw[escF,if_pos (by omega)];rfl
 ·((try simp only[beq_iff_eq,ne_eq,beq_eq_false_iff_ne]at *)<;>(try omega));rw[escF,if_pos (by omega)];rfl
 ·((try simp only[beq_iff_eq,ne_eq,beq_eq_false_iff_ne]at *)<;>(try omega));rw[escF,if_pos (by omega)];rfl
 ·((try simp only[decide_eq_true_eq,beq_iff_eq,ne_eq,beq_eq_false_iff_ne]at *)<;>(try omega));rw[escF,if_neg (by omega),if_neg (by omega)];rfl
 ·((try simp only[decide_eq_true_eq,beq_iff_eq,ne_eq,beq_eq_false_iff_ne]at *)<;>(try omega));rw[escF,if_neg (by omega),if_neg (by omega)];rfl
 ·((try simp only[decide_eq_false_iff_not,beq_iff_eq,ne_eq,beq_eq_false_iff_ne]at *)<;>(try omega))
  refine CallK.intro b76 rfl (hexIdx_ev (l.getD 2 0)) ?_;simp only[evS,tyS,Nat.reduceLT,Nat.reduceEqDiff,reduceCtorEq,Int.reduceToNat,Int.reduceLE]
  (repeat' (first|(with_reducible refine aI ?_ ?_)|(first|(first|refine gF ?_ ?_|refine gT ?_ ?_|refine cI ?_ ?_|refine pI ?_ ?_)<;>intro h|(refine dI ?_;have h:=trivial))<;>simp only[h,evS,tyS,Bv,Bf,Nat.reduceAdd,Nat.reduceSub,Nat.reduceMul,Nat.reduceLT,Nat.reduceLeDiff,Nat.reduceEqDiff,reduceCtorEq,List.reduceReplicate,Int.reduceToNat,Int.reduceLE,Int.reduceLT]))
  all_goals try (((try simp only[decide_eq_true_eq,decide_eq_false_iff_not,beq_iff_eq,bne_iff_ne,ne_eq,beq_eq_false_iff_ne,bne_eq_false_iff_eq]at *)<;>(try omega));done)
  refine CallK.intro b76 rfl (hexIdx_ev (l.getD 3 0)) ?_;have x2:=hexN_le (atL l 2);have x3:=hexN_le (atL l 3);rw[show (l.getD 2 0).toNat=atL l 2 from rfl,show (l.getD 3 0).toNat=atL l 3 from rfl];have e1:IntKind.i64.wrap (16 * hexN (atL l 2))=16 * hexN (atL l 2):=by rw[i64w]<;>omega
  have e2:IntKind.i64.wrap (16 * hexN (atL l 2)+hexN (atL l 3))=16 * hexN (atL l 2)+hexN (atL l 3):=by rw[i64w]<;>omega
  simp only[e1,e2,evS,tyS,Nat.reduceLT,Nat.reduceEqDiff,reduceCtorEq]
  (repeat' (first|(with_reducible refine aI ?_ ?_)|(first|(first|refine gF ?_ ?_|refine gT ?_ ?_|refine cI ?_ ?_|refine pI ?_ ?_)<;>intro h|(refine dI ?_;have h:=trivial))<;>simp only[h,evS,Nat.reduceLT,Nat.reduceEqDiff,reduceCtorEq,tyS,Bv,Bf,Nat.reduceAdd,Nat.reduceSub,Nat.reduceMul,Nat.reduceLeDiff,List.reduceReplicate,Int.reduceToNat,Int.reduceLE,Int.reduceLT]))
  all_goals
   by_cases hh:0≤hexN (atL l 2)∧0≤hexN (atL l 3)
   ·have e3:IntKind.u8.wrap (16 * hexN (atL l 2)+hexN (atL l 3))=(escV (atL l 2) (atL l 3):Int):=by
     rw[u8w (by omega) (by omega)];unfold escV;omega
    simp only[e3]at *
    ((try simp only[decide_eq_true_eq,decide_eq_false_iff_not]at *)<;>(try omega))<;>first
     |(rw[escF,if_neg (by omega),if_pos (by omega)];done)
     |(rw[escF,if_neg (by omega),if_neg (by omega)];rfl)
     |(rw[escF,if_neg (by omega),if_pos (by omega)];rfl)
     |omega
   ·((try simp only[decide_eq_true_eq,decide_eq_false_iff_not]at *)<;>(try omega))<;>first
     |(rw[escF,if_neg (by omega),if_neg (by omega)];rfl)
     |omega
 all_goals (((try simp only[ne_eq,beq_eq_false_iff_ne]at *)<;>(try omega));rw[escF,if_neg (by omega),if_neg (by omega)];rfl)
theorem b74:bodyT Tp 280:=⟨_,Tryz.func280,by kernel_rfl,by kernel_rfl⟩
def textF:Nat→List UInt8→Nat→List UInt8→Option (List UInt8×Nat)
 |0,_,_,_=>none
 |k+1,l,i,d=>
  if l.length≤i then none
  else if atL l i=34∧d.length≤256 then some (d,i+1)
  else if atL l i=92 then (if (escF (l.drop i)).2=0 then none else textF k l (i+(escF (l.drop i)).2) (d++[UInt8.ofNat (escF (l.drop i)).1]))
  else if atL l i=34∨atL l i<32∨126<atL l i then none
  else textF k l (i+1) (d++[UInt8.ofNat (atL l i)])
def zero6:List AV:=[.v (.int .i64 0),.v (.string ⟨#[]⟩),.v (.int .i64 0),.v (.float .f64 0),.v (.int .i64 0),.v (.int .i64 0)]
def textR:Option (List UInt8×Nat)→AV
 |none=>.tup [.agg zero6,.v (.int .i64 11)]
 |some (d,n)=>.tup [tokA 4 d 0 f0 0 n,.v (.int .i64 0)]
def textS(γ:List (Nat×AV))(l:List UInt8)(b:Bool):Nat×List UInt8→St
 |(i,[])=>⟨⟨69,[(0,.sl b l.length l.length (l.map byteC)),(2,.ptr 0 0 0),(5,.v (.int .i64 i)),(4,.v (.slice none 0 0))],γ⟩,[⟨0,53,zero6⟩]⟩
 |(i,x::d)=>⟨⟨69,[(0,.sl b l.length l.length (l.map byteC)),(2,.ptr 0 0 0),(5,.v (.int .i64 i)),(4,.own 2 d.length (x::d).length)],γ⟩,[⟨0,53,zero6⟩,⟨0,5,[byteC x]⟩,⟨d.length,5,(x::d).map byteC⟩]⟩
theorem textS_nil(γ:List (Nat×AV))(l:List UInt8)(b:Bool)(i:Nat):textS γ l b (i,[])=⟨⟨69,[(0,.sl b l.length l.length (l.map byteC)),(2,.ptr 0 0 0),(5,.v (.int .i64 i)),(4,.v (.slice none 0 0))],γ⟩,[⟨0,53,zero6⟩]⟩:=rfl
theorem textS_cons(γ:List (Nat×AV))(l:List UInt8)(b:Bool)(i:Nat)(x:UInt8)(d:List UInt8):textS γ l b (i,x::d)=⟨⟨69,[(0,.sl b l.length l.length (l.map byteC)),(2,.ptr 0 0 0),(5,.v (.int .i64 i)),(4,.own 2 d.length (x::d).length)],γ⟩,[⟨0,53,zero6⟩,⟨0,5,[byteC x]⟩,⟨d.length,5,(x::d).map byteC⟩]⟩:=rfl
theorem textS_ne(γ:List (Nat×AV))(l:List UInt8)(b:Bool)(i:Nat){D:List UInt8}(h:D≠[]):textS γ l b (i,D)=⟨⟨69,[(0,.sl b l.length l.length (l.map byteC)),(2,.ptr 0 0 0),(5,.v (.int .i64 i)),(4,.own 2 (D.length-1) D.length)],γ⟩,[⟨0,53,zero6⟩,⟨0,5,[byteC (D.getD 0 0)]⟩,⟨D.length-1,5,D.map byteC⟩]⟩:=by
 cases D with
 |nil=>exact absurd rfl h
 |cons x d=>rfl
theorem textS_app(γ:List (Nat×AV))(l:List UInt8)(b:Bool)(i:Nat){d:List UInt8}(y:UInt8)(h:d≠[]):textS γ l b (i,d++[y])=⟨⟨69,[(0,.sl b l.length l.length (l.map byteC)),(2,.ptr 0 0 0),(5,.v (.int .i64 i)),(4,.own 2 d.length (d.length+1))],γ⟩,[⟨0,53,zero6⟩,⟨0,5,[byteC (d.getD 0 0)]⟩,⟨d.length,5,d.map byteC++[byteC y]⟩]⟩:=by
 cases d with
 |nil=>exact absurd rfl h
 |cons x d=>simp[textS]
theorem escF_2(l:List UInt8):(escF l).2=0∨(escF l).2=2∨(escF l).2=4:=by
 unfold escF;split
 ·exact .inr (.inl rfl)
 ·split
  ·exact .inr (.inr rfl)
  ·exact .inl rfl
theorem escF_1(l:List UInt8):(escF l).1<256:=by
 unfold escF;split
 ·exact (l.getD 1 0).toNat_lt
 ·split
  ·show escV _ _<256
   unfold escV;have:=hexN_le (atL l 2);have:=hexN_le (atL l 3);omega
  ·show 0<256;omega
theorem atL_lt(l:List UInt8)(i:Nat):atL l i<256:=(l.getD i 0).toNat_lt
set_option maxRecDepth 20000 in
theorem lexText_ev(b:Bool)(l:List UInt8)(hl:l.length≤140737488351232):Ev Tp γ 243 [.sl b l.length l.length (l.map byteC)] (textR (textF l.length l 1 [])):=by
 refine Ev.of Tryz.func243 rfl ?_;generalize hR:textR (textF l.length l 1 [])=R;simp only[Tryz.f243,evS,tyS,Nat.reduceAdd,Nat.reduceSub,Nat.reduceLT];refine LoopK.intro (textS γ l b) (fun a=>a.2.length≤a.1∧1≤a.1∧a.1≤l.length+4∧∃ k,l.length≤k+a.1∧textR (textF k l a.1 a.2)=R) (fun a=>l.length+4-a.1) (1,[]) ?_ ⟨by simp,by simp,by simp,l.length,by simp,hR⟩ ?_
 ·simp only[textS_nil,zero6,evS,Nat.reduceEqDiff,reduceCtorEq]
  (repeat' (first|(with_reducible refine aI ?_ ?_)|(first|(first|refine gF ?_ ?_|refine gT ?_ ?_|refine cI ?_ ?_|refine pI ?_ ?_)<;>intro h|(refine dI ?_;have h:=trivial))<;>simp only[h,evS,tyS,Bv,Bf,Nat.reduceAdd,Nat.reduceSub,Nat.reduceMul,Nat.reduceLT,Nat.reduceLeDiff,Nat.reduceEqDiff,reduceCtorEq,List.reduceReplicate,Int.reduceToNat,Int.reduceLE,Int.reduceLT]))
  all_goals rfl
 ·rintro⟨i,d⟩ ⟨hd,hi1,hi4,k,hk,hR⟩
  have hend:l.length≤i→R=.tup [.agg zero6,.v (.int .i64 11)]:=fun h=>by
   rw[←hR];cases k with
   |zero=>rfl
   |succ k=>simp only[textF,if_pos h,textR]
  have hs:i<l.length→∃ k',l.length≤k'+i+1∧R=textR (if atL l i=34∧d.length≤256 then some (d,i+1)
    else if atL l i=92 then (if (escF (l.drop i)).2=0 then none else textF k' l (i+(escF (l.drop i)).2) (d++[UInt8.ofNat (escF (l.drop i)).1]))
    else if atL l i=34∨atL l i<32∨126<atL l i then none
    else textF k' l (i+1) (d++[UInt8.ofNat (atL l i)])):=fun h=>by
   cases k with
   |zero=>simp only at hk;omega
   |succ k=>
    refine⟨k,by simp only at hk;omega,?_⟩;rw[←hR];simp only[textF,if_neg (show ¬l.length≤i by omega)]
  have ea:(l.getD i 0).toNat=atL l i:=rfl;have hb256:=atL_lt l i;have hub:((UInt8.ofNat (atL l i)).toNat:Int)=atL l i:=by rw[UInt8.toNat_ofNat_of_lt' hb256]
  have hx1:=escF_1 (l.drop i);have hx2:=escF_2 (l.drop i);have hue:((UInt8.ofNat (escF (l.drop i)).1).toNat:Int)=(escF (l.drop i)).1:=by rw[UInt8.toNat_ofNat_of_lt' hx1]
  have ew1:IntKind.i64.wrap ((i:Int)+1)=((i+1:Nat):Int):=by simp only at hi4;rw[i64w]<;>omega
  have ewn:IntKind.i64.wrap ((i:Int)+((escF (l.drop i)).2:Nat))=((i+(escF (l.drop i)).2:Nat):Int):=by simp only at hi4;rw[i64w]<;>omega
  clear hR;simp only at hd hi1 hi4 hk
  have hesc:Ev Tp γ 280 [.sl b (l.length-i) (l.length-i) (List.drop i (l.map byteC))] (.tup [.v (.int .u8 (escF (l.drop i)).1),.v (.int .i64 (escF (l.drop i)).2)]):=by
   have:=lexEscaped_ev (γ:=γ) b (l.drop i) (by rw[Bd];omega)
   rwa [Bd,List.map_drop]at this
  by_cases hne:d=[]
  ·subst hne;simp only[textS_nil,zero6,evS,tyS,Nat.reduceLT,Nat.reduceEqDiff,reduceCtorEq]
   (repeat' (first|(with_reducible refine aI ?_ ?_)|(first|(first|refine gF ?_ ?_|refine gT ?_ ?_|refine cI ?_ ?_|refine pI ?_ ?_)<;>intro h|(refine dI ?_;have h:=trivial))<;>simp only[h,ea,evS,tyS,Nat.reduceAdd,Nat.reduceLT,Nat.reduceLeDiff,Nat.reduceEqDiff,reduceCtorEq,List.reduceReplicate,Int.reduceLE,zero6,Bv,Bf,Nat.reduceSub,Nat.reduceMul,Int.reduceToNat,Int.reduceLT]))
   all_goals try (((try simp only[decide_eq_true_eq,decide_eq_false_iff_not,beq_iff_eq,ne_eq,beq_eq_false_iff_ne]at *)<;>(try omega));done)
   ·((try simp only[decide_eq_true_eq,beq_iff_eq]at *)<;>(try omega))
    obtain⟨k',hk',hR'⟩:=hs (by omega);rw[if_pos ⟨by omega,by simp⟩]at hR';rw[hR',ew1];simp only[textR,tokA,f0,evS]
   ·((try simp only[decide_eq_true_eq,beq_iff_eq,ne_eq,beq_eq_false_iff_ne]at *)<;>(try omega))
    obtain⟨k',hk',hR'⟩:=hs (by omega);rw[if_neg (by omega),if_pos (by omega)]at hR';refine CallK.intro b74 (by simp only[treeL,treeA,Bool.and_self]) hesc ?_;simp only[evS,Nat.reduceLT,Nat.reduceEqDiff,reduceCtorEq];refine CondK.intro (fun h=>?_) (fun h=>?_)
    ·((try simp only[beq_iff_eq]at *)<;>(try omega))
     rw[if_pos (by omega)]at hR';simp only[evS,tyS,Nat.reduceAdd,Nat.reduceLT,Nat.reduceLeDiff,Nat.reduceEqDiff,reduceCtorEq];rw[hR'];simp only[textR,zero6,evS]
    ·((try simp only[ne_eq,beq_eq_false_iff_ne]at *)<;>(try omega))
     rw[if_neg (by omega)]at hR';simp only[ewn,evS,tyS,Nat.reduceAdd,Nat.reduceLT,Nat.reduceLeDiff,Nat.reduceEqDiff,reduceCtorEq,List.reduceReplicate]
     (repeat' (first|(with_reducible refine aI ?_ ?_)|(first|(first|refine gF ?_ ?_|refine gT ?_ ?_|refine cI ?_ ?_|refine pI ?_ ?_)<;>intro h|(refine dI ?_;have h:=trivial))<;>simp only[h,evS,tyS,Bv,Bf,Nat.reduceAdd,Nat.reduceSub,Nat.reduceMul,Nat.reduceLT,Nat.reduceLeDiff,Nat.reduceEqDiff,reduceCtorEq,List.reduceReplicate,Int.reduceToNat,Int.reduceLE,Int.reduceLT]))
     all_goals try (((try simp only[decide_eq_true_eq,decide_eq_false_iff_not,beq_iff_eq,bne_iff_ne,ne_eq,beq_eq_false_iff_ne,bne_eq_false_iff_eq]at *)<;>(try omega));done)
     all_goals try exact all_one_map _
     refine loopC.intro (i+(escF (l.drop i)).2,[UInt8.ofNat (escF (l.drop i)).1]) ⟨by simp only[BC,BD]at *;omega,by simp only;omega,by simp only;omega,k',by simp only;omega,hR'.symm⟩ ?_ (by simp only;omega);refine⟨rfl,rfl,?_,.inl ?_⟩<;>simp only[textS_cons,zero6,byteC,hue,evS,Nat.reduceEqDiff,reduceCtorEq]<;>try (first|rfl|trivial|(simp[byteC,hue,hub,okRef];done))
   ·((try simp only[decide_eq_true_eq,decide_eq_false_iff_not,ne_eq,beq_eq_false_iff_ne]at *)<;>(try omega))
    obtain⟨k',hk',hR'⟩:=hs (by omega);rw[if_neg (by omega),if_neg (by omega),if_pos (by omega)]at hR';rw[hR'];simp only[textR,zero6,evS]
   ·((try simp only[decide_eq_true_eq,decide_eq_false_iff_not,ne_eq,beq_eq_false_iff_ne]at *)<;>(try omega))
    obtain⟨k',hk',hR'⟩:=hs (by omega);rw[if_neg (by omega),if_neg (by omega),if_neg (by omega)]at hR';rw[ew1];refine loopC.intro (i+1,[UInt8.ofNat (atL l i)]) ⟨by simp only[BC,BD]at *;omega,by simp only;omega,by simp only;omega,k',by simp only;omega,hR'.symm⟩ ?_ (by simp only;omega);refine⟨rfl,rfl,?_,.inl ?_⟩<;>simp only[textS_cons,zero6,byteC,hub,evS,Nat.reduceEqDiff,reduceCtorEq]<;>try (first|rfl|trivial|(simp[byteC,hue,hub,okRef];done))
   ·((try simp only[decide_eq_true_eq,ne_eq,beq_eq_false_iff_ne]at *)<;>(try omega))
    obtain⟨k',hk',hR'⟩:=hs (by omega);rw[if_neg (by omega),if_neg (by omega),if_pos (by omega)]at hR';rw[hR'];simp only[textR,zero6,evS]
   ·((try simp only[decide_eq_false_iff_not]at *)<;>(try omega))
    rw[hend (by omega)];simp only[zero6,evS]
  ·have hp:0<d.length:=List.length_pos_iff.2 hne;have ev1:d.length-1+1=d.length:=by omega
   have ev2:d.length+1-1=d.length:=by omega
   simp only[textS_ne γ l b i hne,zero6,evS,tyS,Nat.reduceLT,Nat.reduceEqDiff,reduceCtorEq]
   (repeat' (first|(with_reducible refine aI ?_ ?_)|(first|(first|refine gF ?_ ?_|refine gT ?_ ?_|refine cI ?_ ?_|refine pI ?_ ?_)<;>intro h|(refine dI ?_;have h:=trivial))<;>simp only[h,ea,evS,tyS,Nat.reduceAdd,Nat.reduceLT,Nat.reduceLeDiff,Nat.reduceEqDiff,reduceCtorEq,List.reduceReplicate,zero6,Bv,Bf,Nat.reduceSub,Nat.reduceMul,Int.reduceToNat,Int.reduceLE,Int.reduceLT]))
   all_goals try (((try simp only[decide_eq_true_eq,decide_eq_false_iff_not,beq_iff_eq,ne_eq,beq_eq_false_iff_ne]at *)<;>(try omega));done)
   ·((try simp only[decide_eq_true_eq,beq_iff_eq]at *)<;>(try omega))
    obtain⟨k',hk',hR'⟩:=hs (by omega);rw[if_pos ⟨by omega,by omega⟩]at hR';rw[hR',ew1];simp only[textR,tokA,f0,evS]
   ·((try simp only[decide_eq_true_eq,decide_eq_false_iff_not,beq_iff_eq,ne_eq,beq_eq_false_iff_ne]at *)<;>(try omega))
    obtain⟨k',hk',hR'⟩:=hs (by omega);rw[if_neg (by omega),if_neg (by omega),if_pos (by omega)]at hR';rw[hR'];simp only[textR,zero6,evS]
   ·((try simp only[decide_eq_true_eq,beq_iff_eq,ne_eq,beq_eq_false_iff_ne]at *)<;>(try omega))
    obtain⟨k',hk',hR'⟩:=hs (by omega);rw[if_neg (by omega),if_pos (by omega)]at hR';refine CallK.intro b74 (by simp only[treeL,treeA,Bool.and_self]) hesc ?_;simp only[evS,Nat.reduceLT,Nat.reduceEqDiff,reduceCtorEq];refine CondK.intro (fun h=>?_) (fun h=>?_)
    ·((try simp only[beq_iff_eq]at *)<;>(try omega))
     rw[if_pos (by omega)]at hR';simp only[evS,tyS,Nat.reduceAdd,Nat.reduceLT,Nat.reduceLeDiff,Nat.reduceEqDiff,reduceCtorEq];rw[hR'];simp only[textR,zero6,evS]
    ·((try simp only[ne_eq,beq_eq_false_iff_ne]at *)<;>(try omega))
     rw[if_neg (by omega)]at hR';simp only[ewn,evS,tyS,Nat.reduceAdd,Nat.reduceLT,Nat.reduceLeDiff,Nat.reduceEqDiff,reduceCtorEq,List.reduceReplicate]
     (repeat' (first|(with_reducible refine aI ?_ ?_)|(first|(first|refine gF ?_ ?_|refine gT ?_ ?_|refine cI ?_ ?_|refine pI ?_ ?_)<;>intro h|(refine dI ?_;have h:=trivial))<;>simp only[h,evS,tyS,Bv,Bf,Nat.reduceAdd,Nat.reduceSub,Nat.reduceMul,Nat.reduceLT,Nat.reduceLeDiff,Nat.reduceEqDiff,reduceCtorEq,List.reduceReplicate,Int.reduceToNat,Int.reduceLE,Int.reduceLT]))
     all_goals try (((try simp only[decide_eq_true_eq,decide_eq_false_iff_not,beq_iff_eq,bne_iff_ne,ne_eq,beq_eq_false_iff_ne,bne_eq_false_iff_eq]at *)<;>(try omega));done)
     all_goals try exact all_one_map _
     refine loopC.intro (i+(escF (l.drop i)).2,d++[UInt8.ofNat (escF (l.drop i)).1]) ⟨by simp only[Bp,BC,BD]at *;omega,by simp only;omega,by simp only;omega,k',by simp only;omega,hR'.symm⟩ ?_ (by simp only;omega);have hT:=textS_app γ l b (i+(escF (l.drop i)).2) (UInt8.ofNat (escF (l.drop i)).1) hne;refine⟨by rw[hT],by rw[hT],?_,.inr ?_⟩<;>rw[hT]
     ·simp only[ev1,evS,Nat.reduceEqDiff,reduceCtorEq]<;>try (first|rfl|trivial|(simp[byteC,hue,hub,okRef];done))
     ·refine⟨?_,?_,?_⟩<;>simp only[zero6,byteC,hue,okRefL,okRef,okRefB,okRefL_map,okRefL_append,Bool.and_self,decide_true,ev1,evS,Nat.reduceAdd,Nat.reduceLT]<;>try (first|rfl|trivial|(simp[byteC,hue,hub,okRef];done))
   ·((try simp only[decide_eq_true_eq,decide_eq_false_iff_not,ne_eq,beq_eq_false_iff_ne]at *)<;>(try omega))
    obtain⟨k',hk',hR'⟩:=hs (by omega);rw[if_neg (by omega),if_neg (by omega),if_pos (by omega)]at hR';rw[hR'];simp only[textR,zero6,evS]
   ·((try simp only[decide_eq_true_eq,decide_eq_false_iff_not,ne_eq,beq_eq_false_iff_ne]at *)<;>(try omega))
    obtain⟨k',hk',hR'⟩:=hs (by omega);rw[if_neg (by omega),if_neg (by omega),if_neg (by omega)]at hR';rw[ew1];refine loopC.intro (i+1,d++[UInt8.ofNat (atL l i)]) ⟨by simp only[Bp,BC,BD]at *;omega,by simp only;omega,by simp only;omega,k',by simp only;omega,hR'.symm⟩ ?_ (by simp only;omega);have hT:=textS_app γ l b (i+1) (UInt8.ofNat (atL l i)) hne;refine⟨by rw[hT],by rw[hT],?_,.inr ?_⟩<;>rw[hT]
    ·simp only[ev1,evS,Nat.reduceEqDiff,reduceCtorEq]<;>try (first|rfl|trivial|(simp[byteC,hue,hub,okRef];done))
    ·refine⟨?_,?_,?_⟩<;>simp only[zero6,byteC,hub,okRefL,okRef,okRefB,okRefL_map,okRefL_append,Bool.and_self,decide_true,ev1,evS,Nat.reduceAdd,Nat.reduceLT]<;>try (first|rfl|trivial|(simp[byteC,hue,hub,okRef];done))
   ·((try simp only[decide_eq_true_eq,ne_eq,beq_eq_false_iff_ne]at *)<;>(try omega))
    obtain⟨k',hk',hR'⟩:=hs (by omega);rw[if_neg (by omega),if_neg (by omega),if_pos (by omega)]at hR';rw[hR'];simp only[textR,zero6,evS]
   ·((try simp only[decide_eq_false_iff_not]at *)<;>(try omega))
    rw[hend (by omega)];simp only[zero6,evS]
theorem Ev_cut1{P:Program}{f:FuncId}{b:Bool}{n m:Nat}{L:List UInt8}{rest:List AV}{r:AV}(h1:n≤m)(h2:n≤L.length)(hev:Ev P γ f (.sl b (L.take n).length (L.take n).length ((L.take n).map byteC)::rest) r):Ev P γ f (.sl b n m (L.map byteC)::rest) r:=by
 have e:(L.take n).length=n:=by rw[Bh];omega
 rw[e]at hev;intro G B w vs hG hγ hr;refine hev G B w vs hG hγ ?_;simp only[relL]at hr⊢;obtain⟨u,us,e1,h3,h4⟩:=hr;refine⟨u,us,e1,?_,h4⟩;simp only[rel]at h3⊢;obtain⟨r,off,cap,e2,g1,g2,g3,g4⟩:=h3;exact⟨r,off,cap,e2,BL _,by omega,g3,by rw[List.map_take];exact relAt_take g4 n⟩
def decFrom(n:Nat)(l:List UInt8):Nat:=l.foldl (fun n c=>10 * n+(c.toNat-48)) n
def decV(l:List UInt8):Nat:=decFrom 0 l
theorem decFrom_ge(l:List UInt8):∀ n,n≤decFrom n l:=by
 induction l with
 |nil=>intro n;exact BL _
 |cons c l ih=>intro n;have:=ih (10 * n+(c.toNat-48));simp only[decFrom,List.foldl_cons]at *;omega
theorem decV_snoc(l:List UInt8)(c:UInt8):decV (l++[c])=10 * decV l+(c.toNat-48):=by simp[decV,decFrom]
theorem decV_take(l:List UInt8)(j:Nat):decV (l.take j)≤decV l:=by
 have e:decV l=decFrom (decV (l.take j)) (l.drop j):=by
  conv=>lhs;rw[←List.take_append_drop j l]
  simp only[decV,decFrom,List.foldl_append]
 rw[e];exact decFrom_ge _ _
theorem take_snoc{l:List UInt8}{j:Nat}(h:j<l.length):l.take (j+1)=l.take j++[l.getD j 0]:=by
 rw[List.take_add_one];simp[h]
def blankN(n:Nat):Bool:=decide (n=32∨n=9∨n=10∨n=13)
theorem b46:bodyT Tp 240:=⟨_,Tryz.func240,by kernel_rfl,by kernel_rfl⟩
theorem b48:bodyT Tp 242:=⟨_,Tryz.func242,by kernel_rfl,by kernel_rfl⟩
theorem b49:bodyT Tp 243:=⟨_,Tryz.func243,by kernel_rfl,by kernel_rfl⟩
theorem b50:bodyT Tp 244:=⟨_,Tryz.func244,by kernel_rfl,by kernel_rfl⟩
theorem b72:bodyT Tp 278:=⟨_,Tryz.func278,by kernel_rfl,by kernel_rfl⟩
theorem b73:bodyT Tp 279:=⟨_,Tryz.func279,by kernel_rfl,by kernel_rfl⟩
theorem b31:bodyT Tp 183:=⟨_,Tryz.func183,by kernel_rfl,by kernel_rfl⟩
theorem tyP:fltT Tp 219=none∧
  ifcT Tp 260=some false∧
  ifcT Tp 261=some false∧
  ifcT Tp 169=some true∧
  intT Tp 219=some .u64∧
  strT Tp 219=false∧
  (Tryz.prog.underlying 9).isSome=true:=
 (by and_intros<;>kernel_rfl)
theorem tyQ:intT Tp 260=some .i64∧cmpT Tp 260=some true:=by
 refine⟨?_,?_⟩<;>kernel_rfl
def uintR(l:List UInt8):AV:=if decV l<18446744073709551616 then .tup [.v (.int .u64 (decV l)),.v .nilIface]else .tup [.v (.int .u64 18446744073709551615),.ifc 260 (.v (.int .i64 1))]
set_option maxRecDepth 20000 in
theorem parseUint_ev(l:List UInt8)(h1:1≤l.length)(hl:l.length≤140737488351232)(hd:∀ j,j<l.length→digitN (atL l j)=true):
  Ev Tp γ 223 [.v (.string ⟨l.toArray⟩),.v (.int .i64 10),.v (.int .i64 64)] (uintR l):=by
 refine Ev.of Tryz.func223 rfl ?_
 have hne:(l==([]:List UInt8))=false:=by
  cases l with
  |nil=>simp at h1
  |cons=>rfl
 have w64:IntKind.u64.wrap 64=64:=by rw[u64w]<;>omega
 have wsh:IntKind.u64.wrap (1 * 2^min (Int.toNat 64) IntKind.u64.bits)=0:=by decide
 have wsh':IntKind.u64.wrap (1 * 2^min 64 IntKind.u64.bits)=0:=by decide
 have wm1:IntKind.u64.wrap (0-1)=18446744073709551615:=by decide
 have h100:((10:Int)==0)=false:=by decide
 have h640:((64:Int)==0)=false:=by decide
 simp only[Tryz.f223,tyP,hne,w64,wsh',wm1,h100,h640,evS,tyS,Nat.reduceAdd,Nat.reduceSub,Nat.reduceLT,Nat.reduceEqDiff,reduceCtorEq,Int.reduceToNat,Int.reduceLE,Int.reduceLT]
 (repeat' (first|(with_reducible refine aI ?_ ?_)|(first|(first|refine gF ?_ ?_|refine gT ?_ ?_|refine cI ?_ ?_|refine pI ?_ ?_)<;>intro h|(refine dI ?_;have h:=trivial))<;>simp only[h,tyP,tyQ,w64,wsh,wsh',wm1,h100,h640,evS,tyS,Bv,Bf,Nat.reduceAdd,Nat.reduceSub,Nat.reduceMul,Nat.reduceLT,Nat.reduceLeDiff,Nat.reduceEqDiff,reduceCtorEq,List.reduceReplicate,Int.reduceToNat,Int.reduceLE,Int.reduceLT]))
 all_goals try (((try simp only[ne_eq,beq_eq_false_iff_ne]at *)<;>(try omega));done)
 refine LoopK.intro (fun j:Nat=>⟨⟨172,[(101,.v (.int .i64 j)),(100,.v (.int .i64 l.length)),(99,.own 0 0 l.length),(13,.v (.int .u64 (decV (l.take j)))),(12,.v (.bool false)),(11,.v (.int .u64 18446744073709551615)),(10,.v (.int .u64 1844674407370955162)),(9,.v (.string ⟨l.toArray⟩)),(8,.v (.bool false)),(1,.v (.int .i64 10))],γ⟩,[⟨0,5,l.map byteC⟩]⟩) (fun j=>j≤l.length∧decV (l.take j)<18446744073709551616) (fun j=>l.length-j) 0 ?_ ⟨by omega,by simp[decV,decFrom]⟩ (fun j hj=>?_)
 ·simp only[evS,Nat.reduceEqDiff,reduceCtorEq]
  (repeat' (first|(with_reducible refine aI ?_ ?_)|(first|(first|refine gF ?_ ?_|refine gT ?_ ?_|refine cI ?_ ?_|refine pI ?_ ?_)<;>intro h|(refine dI ?_;have h:=trivial))<;>simp only[h,evS,tyS,Bv,Bf,Nat.reduceAdd,Nat.reduceSub,Nat.reduceMul,Nat.reduceLT,Nat.reduceLeDiff,Nat.reduceEqDiff,reduceCtorEq,List.reduceReplicate,Int.reduceToNat,Int.reduceLE,Int.reduceLT]))
  all_goals rfl
 ·have ea:∀ j,(l.getD j 0).toNat=atL l j:=fun _=>rfl
  have ej:IntKind.i64.wrap ((j:Int)+1)=((j+1:Nat):Int):=by rw[i64w]<;>omega
  have w10:IntKind.u64.wrap 10=10:=by rw[u64w]<;>omega
  have v10:IntKind.u8.wrap 10=10:=by rw[u8w]<;>omega
  by_cases hjl:j<l.length
  ·have hdj:48≤atL l j∧atL l j≤57:=by simpa[digitN]using hd j hjl
   have e1:IntKind.u8.wrap ((atL l j:Int)-48)=((atL l j-48:Nat):Int):=by rw[u8w]<;>omega
   have e2:IntKind.u64.wrap ((atL l j-48:Nat):Int)=((atL l j-48:Nat):Int):=by rw[u64w]<;>omega
   have hsn:decV (l.take (j+1))=10 * decV (l.take j)+(atL l j-48):=by rw[take_snoc hjl,decV_snoc];rfl
   have hmo:=decV_take l (j+1);have h95:((atL l j:Int)==95)=false:=by simp;omega
   by_cases hc:decV (l.take j)<1844674407370955162
   ·have e5:IntKind.u64.wrap ((decV (l.take j):Int) * 10)=((decV (l.take j) * 10:Nat):Int):=by rw[u64w]<;>omega
    by_cases ho:decV (l.take (j+1))<18446744073709551616
    ·have e6:IntKind.u64.wrap (((decV (l.take j) * 10:Nat):Int)+((atL l j-48:Nat):Int))=((decV (l.take (j+1)):Nat):Int):=by rw[u64w]<;>omega
     simp only[evS,Nat.reduceLT,Nat.reduceEqDiff,reduceCtorEq]
     (repeat' (first|(with_reducible refine aI ?_ ?_)|(first|(first|refine gF ?_ ?_|refine gT ?_ ?_|refine cI ?_ ?_|refine pI ?_ ?_)<;>intro h|(refine dI ?_;have h:=trivial))<;>simp only[h,tyP,ea,e1,e2,w10,v10,h95,e5,e6,evS,tyS,Nat.reduceLT,Nat.reduceEqDiff,reduceCtorEq,tyQ,Bv,Bf,Nat.reduceAdd,Nat.reduceSub,Nat.reduceMul,Nat.reduceLeDiff,List.reduceReplicate,Int.reduceToNat,Int.reduceLE,Int.reduceLT]))
     all_goals try (((try simp only[decide_eq_true_eq,decide_eq_false_iff_not,ne_eq,beq_eq_false_iff_ne]at *)<;>(try omega));done)
     refine loopC.intro (j+1) ⟨by omega,ho⟩ ?_ (by omega);simp only[ej,evS,Nat.reduceEqDiff]
     (repeat' (first|(with_reducible refine aI ?_ ?_)|(first|(first|refine gF ?_ ?_|refine gT ?_ ?_|refine cI ?_ ?_|refine pI ?_ ?_)<;>intro h|(refine dI ?_;have h:=trivial))<;>simp only[h,evS,tyS,Bv,Bf,Nat.reduceAdd,Nat.reduceSub,Nat.reduceMul,Nat.reduceLT,Nat.reduceLeDiff,Nat.reduceEqDiff,reduceCtorEq,List.reduceReplicate,Int.reduceToNat,Int.reduceLE,Int.reduceLT]))
     all_goals rfl
    ·have e6:IntKind.u64.wrap (((decV (l.take j) * 10:Nat):Int)+((atL l j-48:Nat):Int))=((decV (l.take (j+1))-18446744073709551616:Nat):Int):=by
      have:(((decV (l.take j) * 10:Nat):Int)+((atL l j-48:Nat):Int))=((decV (l.take (j+1)):Nat):Int):=by omega
      rw[this];show ((decV (l.take (j+1)):Nat):Int)%18446744073709551616=_
      omega
     simp only[evS,Nat.reduceLT,Nat.reduceEqDiff,reduceCtorEq]
     (repeat' (first|(with_reducible refine aI ?_ ?_)|(first|(first|refine gF ?_ ?_|refine gT ?_ ?_|refine cI ?_ ?_|refine pI ?_ ?_)<;>intro h|(refine dI ?_;have h:=trivial))<;>simp only[h,tyP,ea,e1,e2,w10,v10,h95,e5,e6,evS,tyS,Nat.reduceLT,Nat.reduceEqDiff,reduceCtorEq,tyQ,Bv,Bf,Nat.reduceAdd,Nat.reduceSub,Nat.reduceMul,Nat.reduceLeDiff,List.reduceReplicate,Int.reduceToNat,Int.reduceLE,Int.reduceLT]))
     all_goals try (((try simp only[decide_eq_true_eq,decide_eq_false_iff_not,ne_eq,beq_eq_false_iff_ne]at *)<;>(try omega));done)
     all_goals (rw[uintR,if_neg (by omega)];simp only[evS])
   ·simp only[evS,Nat.reduceLT,Nat.reduceEqDiff,reduceCtorEq]
    (repeat' (first|(with_reducible refine aI ?_ ?_)|(first|(first|refine gF ?_ ?_|refine gT ?_ ?_|refine cI ?_ ?_|refine pI ?_ ?_)<;>intro h|(refine dI ?_;have h:=trivial))<;>simp only[h,tyP,ea,e1,e2,w10,v10,h95,evS,tyS,Nat.reduceLT,Nat.reduceEqDiff,reduceCtorEq,tyQ,Bv,Bf,Nat.reduceAdd,Nat.reduceSub,Nat.reduceMul,Nat.reduceLeDiff,List.reduceReplicate,Int.reduceToNat,Int.reduceLE,Int.reduceLT]))
    all_goals try (((try simp only[decide_eq_true_eq,decide_eq_false_iff_not,ne_eq,beq_eq_false_iff_ne]at *)<;>(try omega));done)
    all_goals (rw[uintR,if_neg (by omega)];simp only[evS])
  ·have hjn:j=l.length:=by omega
   have et:l.take j=l:=by rw[hjn,List.take_length]
   rw[et]at hj⊢;simp only[evS,Nat.reduceLT,Nat.reduceEqDiff,reduceCtorEq]
   (repeat' (first|(with_reducible refine aI ?_ ?_)|(first|(first|refine gF ?_ ?_|refine gT ?_ ?_|refine cI ?_ ?_|refine pI ?_ ?_)<;>intro h|(refine dI ?_;have h:=trivial))<;>simp only[h,evS,tyS,Nat.reduceLT,Nat.reduceEqDiff,reduceCtorEq,Bv,Bf,Nat.reduceAdd,Nat.reduceSub,Nat.reduceMul,Nat.reduceLeDiff,List.reduceReplicate,Int.reduceToNat,Int.reduceLE,Int.reduceLT]))
   all_goals try (((try simp only[decide_eq_true_eq,decide_eq_false_iff_not,beq_iff_eq,ne_eq,beq_eq_false_iff_ne]at *)<;>(try omega));done)
   rw[uintR,if_pos hj.2];simp only[evS]
end Go.Proofs.YtlobiioioicmhaaGreatDoor
namespace Go.Proofs
open Go.Shelf
def Tryz.lays144_ren:Go.Shelf.Ren:=⟨fun|144=>281|143=>298|219=>219|217=>218|225=>258|224=>259|267=>260|266=>257|314=>294|n=>n,fun|9=>9|4=>4|3=>3|5=>5|46=>219|146=>304|51=>289|n=>n,fun|1=>1|n=>n⟩
theorem Tryz.lays144:Go.Proofs.Lays.n144 Tryz.prog Tryz.lays144_ren:={
 mixed:=by kernel_rfl
 f143:=Tryz.func298.trans (congrArg some (by kernel_rfl))
 f144:=Tryz.func281.trans (congrArg some (by kernel_rfl))
 f217:=Tryz.func218.trans (congrArg some (by kernel_rfl))
 f219:=Tryz.func219.trans (congrArg some (by kernel_rfl))
 f224:=Tryz.func259.trans (congrArg some (by kernel_rfl))
 f225:=Tryz.func258.trans (congrArg some (by kernel_rfl))
 f266:=Tryz.func257.trans (congrArg some (by kernel_rfl))
 f267:=Tryz.func260.trans (congrArg some (by kernel_rfl))
 f314:=Tryz.func294.trans (congrArg some (by kernel_rfl))
 t3:=Tryz.underlying3
 a3:=Tryz.isAgg3
 z3:=Tryz.sizeOf3
 v3:=Tryz.zeroValue3
 t4:=Tryz.underlying4
 a4:=Tryz.isAgg4
 z4:=Tryz.sizeOf4
 v4:=Tryz.zeroValue4
 t5:=Tryz.underlying5
 a5:=Tryz.isAgg5
 z5:=Tryz.sizeOf5
 v5:=Tryz.zeroValue5
 t9:=Tryz.underlying9
 a9:=Tryz.isAgg9
 z9:=Tryz.sizeOf9
 v9:=Tryz.zeroValue9
 t46:=Tryz.underlying219
 a46:=Tryz.isAgg219
 z46:=Tryz.sizeOf219
 v46:=Tryz.zeroValue219
 t51:=Tryz.underlying289
 a51:=Tryz.isAgg289
 z51:=Tryz.sizeOf289
 v51:=Tryz.zeroValue289
 t146:=Tryz.underlying304
 a146:=Tryz.isAgg304
 z146:=Tryz.sizeOf304
 v146:=Tryz.zeroValue304
 g1:=by kernel_rfl }
open Go.RowKit Go.Lib in
theorem Tryz.strings_Contains(s sub:ByteArray)(m:Int)(w:World)(hs:s.size<4294967281)(hm:w.cell? ⟨1,0,none⟩=some (.int .i64 m)):
  Calls Tryz.prog 281 #[.string s,.string sub] w fun e w'=>e=.returned (.bool (Lib.contains s.data.toList sub.data.toList))∧w'=w:=Any.strings_Contains Tryz.lays144 s sub m w hs hm
end Go.Proofs
namespace Go.Proofs.YtlobiioioicmhaaGreatDoor
open _root_.Bool renaming not_true→Bv,not_false→Bf
open _root_.List renaming length_append→Bp,getElem?_eq_none→Bq,length_drop→Bd,length_take→Bh,length_cons→BC,length_nil→BD
open _root_.Nat renaming le_refl→BL
open Go.Proofs.Tryz renaming prog→Tp
open Go Go.Ev
set_option maxRecDepth 20000
variable {γ:List (Nat×AV)}
def hasSub:List UInt8→List UInt8→Bool
 |[],sub=>sub.isEmpty
 |b::l,sub=>sub.isPrefixOf (b::l) || hasSub l sub
theorem contains_hasSub(s sub:List UInt8):Lib.contains s sub=hasSub s sub:=by
 unfold Lib.contains
 induction s with
 |nil=>unfold Lib.index hasSub;cases sub.isEmpty<;>rfl
 |cons b l ih=>
  unfold Lib.index hasSub;have hg:=Lib.index_ge l sub;rw[←ih];cases sub.isPrefixOf (b::l)with
  |true=>rfl
  |false=>
   simp only[Bool.false_eq_true,if_false,Bool.false_or]
   by_cases h:Lib.index l sub = -1
   ·simp[h]
   ·have:¬(Lib.index l sub == -1)=true:=by simpa using h
    rw[if_neg this];have h1:0≤Lib.index l sub:=by omega
    have h2:0≤Lib.index l sub+1:=by omega
    simp[h1,h2]
theorem contains_ev(m:Int)(hγ:Go.Ev.look γ 1=AV.ela false [.v (.int .i64 m)])(s sub:ByteArray)(hs:s.size<4294967281):Ev Tp γ 281 [.v (.string s),.v (.string sub)] (.v (.bool (hasSub s.data.toList sub.data.toList))):=by
 intro G B w vs hG hg hr;have hm:=(hg 1).2;rw[hγ]at hm;simp only[rel,relAt,Cx.shut]at hm;obtain⟨r,off,e1,_,⟨u,hc,rfl⟩,_⟩:=hm;cases e1;simp only[relL,rel]at hr;obtain⟨u1,us,e1,rfl,u2,us2,rfl,rfl,rfl⟩:=hr;obtain rfl:vs = #[.string s,.string sub]:=by cases vs;simp_all
 refine (Go.Proofs.Tryz.strings_Contains s sub m w hs hc).mono ?_
 rintro e w' ⟨rfl,rfl⟩
 refine⟨_,rfl,?_,Go.RowKit.Below.refl _ _⟩;rw[contains_hasSub];simp only[rel]
theorem b75:bodyT Tp 281:=⟨_,Tryz.func281,by kernel_rfl,by kernel_rfl⟩
def dblL:List UInt8:=[61,61,32,33,61,32,60,61,32,62,61,32,38,38,32,124,124,32,45,62]
def sglL:List UInt8:=[40,41,123,125,44,59,58,46,38,43,45,42,47,37,60,62,33,61,95]
def markN(l:List UInt8):Nat:=if 1<l.length∧atL l 0≠32∧atL l 1≠32∧hasSub dblL (l.take 2)=true then 2 else if 0≤Lib.indexByte sglL (atL l 0).toUInt8 then 1 else 0
def markA(l:List UInt8):AV:=if markN l=0 then tokA 0 [] 0 f0 0 0 else tokA 5 (l.take (markN l)) 0 f0 0 (markN l)
set_option maxRecDepth 20000 in
theorem lexMark_ev(m:Int)(hγ:Go.Ev.look γ 1=AV.ela false [.v (.int .i64 m)])(b:Bool)(l:List UInt8)(h1:1≤l.length)(hl:l.length≤140737488355328):Ev Tp γ 244 [.sl b l.length l.length (l.map byteC)] (markA l):=by
 refine Ev.of Tryz.func244 rfl ?_;have ea:∀ j,(l.getD j 0).toNat=atL l j:=fun _=>rfl
 have t0:take1 (l.map byteC)=some (.v (.int .u8 (atL l 0))):=by
  have:=take1_byte (l:=l) (n:=0) (by omega);rw[List.drop_zero]at this;rw[this];simp[atL,List.getD,List.getElem?_eq_getElem (show 0<l.length by omega)]
 simp only[Tryz.f244,evS,tyS,Nat.reduceAdd,Nat.reduceSub,Nat.reduceLT,Nat.reduceEqDiff,reduceCtorEq]
 (repeat' (first|(with_reducible refine aI ?_ ?_)|(first|(first|refine gF ?_ ?_|refine gT ?_ ?_|refine cI ?_ ?_|refine pI ?_ ?_)<;>intro h|(refine dI ?_;have h:=trivial))<;>simp only[h,ea,t0,evS,tyS,Nat.reduceLT,Nat.reduceEqDiff,reduceCtorEq,Int.reduceToNat,Int.reduceLE,Bv,Bf,Nat.reduceAdd,Nat.reduceSub,Nat.reduceMul,Nat.reduceLeDiff,List.reduceReplicate,Int.reduceLT]))
 all_goals try (((try simp only[decide_eq_true_eq,decide_eq_false_iff_not,bne_iff_ne,ne_eq,bne_eq_false_iff_eq]at *)<;>(try omega));done)
 all_goals try
  (refine CallK.intro b75 rfl (contains_ev m hγ _ _ (by decide)) ?_
   simp only[evS,Nat.reduceLT,Nat.reduceEqDiff,reduceCtorEq];refine CondK.intro (fun h=>?_) (fun h=>?_)<;>simp only[h,t0,evS,tyS,Nat.reduceAdd,Nat.reduceLT,Nat.reduceLeDiff,Nat.reduceEqDiff,reduceCtorEq,Int.reduceToNat,Int.reduceLE])
 all_goals try refine⟨by omega,?_⟩
 all_goals try
  (refine CallK.intro b76 rfl (strings_IndexByte_ev _ _) ?_
   simp only[evS,Nat.reduceLT,Nat.reduceEqDiff,reduceCtorEq];refine CondK.intro (fun h=>?_) (fun h=>?_)<;>simp only[h,evS,tyS,Nat.reduceAdd,Nat.reduceLT,Nat.reduceLeDiff,Nat.reduceEqDiff,reduceCtorEq,Int.reduceToNat,Int.reduceLE])
 all_goals try refine⟨by omega,?_⟩
 all_goals try refine⟨by omega,?_⟩
 all_goals ((try simp only[decide_eq_true_eq,decide_eq_false_iff_not,bne_iff_ne,ne_eq,bne_eq_false_iff_eq]at *)<;>(try omega))
 all_goals try refine⟨⟨by omega,by omega⟩,by omega,?_⟩
 all_goals first
  |(have hm:markN l=2:=by rw[markN,if_pos ⟨by omega,by omega,by omega,by unfold dblL;assumption⟩]
    rw[markA,hm,if_neg (by omega)];simp only[tokA,f0,evS];first|done|rfl)
  |(have hm:markN l=1:=by rw[markN,if_neg (by rintro⟨g1,g2,g3,g4⟩;first|omega|(have g5:hasSub dblL (l.take 2)=false:=(by unfold dblL;assumption);rw[g5]at g4;cases g4)),if_pos (by unfold sglL;assumption)]
    rw[markA,hm,if_neg (by omega)];simp only[tokA,f0,evS];first|done|rfl)
  |(have hm:markN l=0:=by rw[markN,if_neg (by rintro⟨g1,g2,g3,g4⟩;first|omega|(have g5:hasSub dblL (l.take 2)=false:=(by unfold dblL;assumption);rw[g5]at g4;cases g4)),if_neg (by unfold sglL;assumption)]
    rw[markA,hm,if_pos rfl];simp only[tokA,f0,evS];first|done|rfl)
  |trace_state
end Go.Proofs.YtlobiioioicmhaaGreatDoor
namespace Go.Proofs
open Go.Shelf
def Tryz.laysC245_ren:Go.Shelf.Ren:=⟨fun|245=>170|279=>227|280=>228|281=>229|282=>230|316=>267|171=>174|205=>268|243=>236|246=>171|283=>231|284=>232|285=>233|286=>234|129=>270|317=>269|318=>271|319=>272|320=>273|337=>295|338=>296|n=>n,fun|9=>9|3=>3|75=>169|167=>260|4=>4|168=>261|210=>285|37=>37|0=>0|127=>252|145=>308|143=>306|2=>2|171=>264|53=>176|5=>5|173=>267|212=>288|51=>289|20=>20|213=>290|46=>219|232=>312|233=>313|80=>140|n=>n,fun|15=>2|16=>3|17=>4|18=>5|19=>6|n=>n⟩
theorem Tryz.laysC245:Go.Proofs.LaysC.n245 Tryz.prog Tryz.laysC245_ren:={
 mixed:=by kernel_rfl
 f129:=Tryz.func270.trans (congrArg some (by kernel_rfl))
 f171:=Tryz.func174.trans (congrArg some (by kernel_rfl))
 f205:=Tryz.func268.trans (congrArg some (by kernel_rfl))
 f243:=Tryz.func236.trans (congrArg some (by kernel_rfl))
 f245:=Tryz.func170.trans (congrArg some (by kernel_rfl))
 f246:=Tryz.func171.trans (congrArg some (by kernel_rfl))
 f279:=Tryz.func227.trans (congrArg some (by kernel_rfl))
 f280:=Tryz.func228.trans (congrArg some (by kernel_rfl))
 f281:=Tryz.func229.trans (congrArg some (by kernel_rfl))
 f282:=Tryz.func230.trans (congrArg some (by kernel_rfl))
 f283:=Tryz.func231.trans (congrArg some (by kernel_rfl))
 f284:=Tryz.func232.trans (congrArg some (by kernel_rfl))
 f285:=Tryz.func233.trans (congrArg some (by kernel_rfl))
 f286:=Tryz.func234.trans (congrArg some (by kernel_rfl))
 f316:=Tryz.func267.trans (congrArg some (by kernel_rfl))
 f317:=Tryz.func269.trans (congrArg some (by kernel_rfl))
 f318:=Tryz.func271.trans (congrArg some (by kernel_rfl))
 f319:=Tryz.func272.trans (congrArg some (by kernel_rfl))
 f320:=Tryz.func273.trans (congrArg some (by kernel_rfl))
 f337:=Tryz.func295.trans (congrArg some (by kernel_rfl))
 f338:=Tryz.func296.trans (congrArg some (by kernel_rfl))
 t0:=Tryz.underlying0
 a0:=Tryz.isAgg0
 z0:=Tryz.sizeOf0
 v0:=Tryz.zeroValue0
 t2:=Tryz.underlying2
 a2:=Tryz.isAgg2
 z2:=Tryz.sizeOf2
 v2:=Tryz.zeroValue2
 t3:=Tryz.underlying3
 a3:=Tryz.isAgg3
 z3:=Tryz.sizeOf3
 v3:=Tryz.zeroValue3
 t4:=Tryz.underlying4
 a4:=Tryz.isAgg4
 z4:=Tryz.sizeOf4
 v4:=Tryz.zeroValue4
 t5:=Tryz.underlying5
 a5:=Tryz.isAgg5
 z5:=Tryz.sizeOf5
 v5:=Tryz.zeroValue5
 t9:=Tryz.underlying9
 a9:=Tryz.isAgg9
 z9:=Tryz.sizeOf9
 v9:=Tryz.zeroValue9
 t20:=Tryz.underlying20
 a20:=Tryz.isAgg20
 z20:=Tryz.sizeOf20
 v20:=Tryz.zeroValue20
 t37:=Tryz.underlying37
 a37:=Tryz.isAgg37
 z37:=Tryz.sizeOf37
 v37:=Tryz.zeroValue37
 t46:=Tryz.underlying219
 a46:=Tryz.isAgg219
 z46:=Tryz.sizeOf219
 v46:=Tryz.zeroValue219
 t51:=Tryz.underlying289
 a51:=Tryz.isAgg289
 z51:=Tryz.sizeOf289
 v51:=Tryz.zeroValue289
 t53:=Tryz.underlying176
 a53:=Tryz.isAgg176
 z53:=Tryz.sizeOf176
 v53:=Tryz.zeroValue176
 t75:=Tryz.underlying169
 a75:=Tryz.isAgg169
 z75:=Tryz.sizeOf169
 v75:=Tryz.zeroValue169
 t127:=Tryz.underlying252
 a127:=Tryz.isAgg252
 z127:=Tryz.sizeOf252
 v127:=Tryz.zeroValue252
 t143:=Tryz.underlying306
 a143:=Tryz.isAgg306
 z143:=Tryz.sizeOf306
 v143:=Tryz.zeroValue306
 t145:=Tryz.underlying308
 a145:=Tryz.isAgg308
 z145:=Tryz.sizeOf308
 v145:=Tryz.zeroValue308
 t167:=Tryz.underlying260
 a167:=Tryz.isAgg260
 z167:=Tryz.sizeOf260
 v167:=Tryz.zeroValue260
 t168:=Tryz.underlying261
 a168:=Tryz.isAgg261
 z168:=Tryz.sizeOf261
 v168:=Tryz.zeroValue261
 t171:=Tryz.underlying264
 a171:=Tryz.isAgg264
 z171:=Tryz.sizeOf264
 v171:=Tryz.zeroValue264
 t173:=Tryz.underlying267
 a173:=Tryz.isAgg267
 z173:=Tryz.sizeOf267
 v173:=Tryz.zeroValue267
 t210:=Tryz.underlying285
 a210:=Tryz.isAgg285
 z210:=Tryz.sizeOf285
 v210:=Tryz.zeroValue285
 t212:=Tryz.underlying288
 a212:=Tryz.isAgg288
 z212:=Tryz.sizeOf288
 v212:=Tryz.zeroValue288
 t213:=Tryz.underlying290
 a213:=Tryz.isAgg290
 z213:=Tryz.sizeOf290
 t232:=Tryz.underlying312
 a232:=Tryz.isAgg312
 z232:=Tryz.sizeOf312
 v232:=Tryz.zeroValue312
 t233:=Tryz.underlying313
 a233:=Tryz.isAgg313
 z233:=Tryz.sizeOf313
 v233:=Tryz.zeroValue313
 g15:=by kernel_rfl
 g16:=by kernel_rfl
 g17:=by kernel_rfl
 g18:=by kernel_rfl
 g19:=by kernel_rfl
 t80:=Tryz.underlying140
 a80:=Tryz.isAgg140
 z80:=Tryz.sizeOf140
 v80:=Tryz.zeroValue140
 i0:=by kernel_rfl
 i2:=by kernel_rfl
 i3:=by kernel_rfl
 i4:=by kernel_rfl
 i5:=by kernel_rfl
 i9:=by kernel_rfl
 i20:=by kernel_rfl
 i37:=by kernel_rfl
 i46:=by kernel_rfl
 i51:=by kernel_rfl
 i53:=by kernel_rfl
 i75:=by kernel_rfl
 i80:=by kernel_rfl
 i127:=by kernel_rfl
 i143:=by kernel_rfl
 i145:=by kernel_rfl
 i167:=by kernel_rfl
 i168:=by kernel_rfl
 i171:=by kernel_rfl
 i173:=by kernel_rfl
 i210:=by kernel_rfl
 i212:=by kernel_rfl
 i232:=by kernel_rfl
 i233:=by kernel_rfl
 m15:=by kernel_rfl
 m16:=by kernel_rfl
 m17:=by kernel_rfl
 m18:=by kernel_rfl
 m19:=by kernel_rfl
 c0:=by kernel_rfl
 c2:=by kernel_rfl
 c3:=by kernel_rfl
 c4:=by kernel_rfl
 c5:=by kernel_rfl
 c9:=by kernel_rfl
 c20:=by kernel_rfl
 c37:=by kernel_rfl
 c46:=by kernel_rfl
 c51:=by kernel_rfl
 c53:=by kernel_rfl
 c75:=by kernel_rfl
 c80:=by kernel_rfl
 c127:=by kernel_rfl
 c143:=by kernel_rfl
 c145:=by kernel_rfl
 c167:=by kernel_rfl
 c168:=by kernel_rfl
 c171:=by kernel_rfl
 c173:=by kernel_rfl
 c210:=by kernel_rfl
 c212:=by kernel_rfl
 c213:=by kernel_rfl
 c232:=by kernel_rfl
 c233:=by kernel_rfl }
end Go.Proofs
