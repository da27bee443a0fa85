/- A part of the proof. -/
import Derived.Test.YtlobiioioicmhaaGreatDoorBQ1
import Derived.Shelf.Strings.Search3
import Derived.Test.YtlobiioioicmhaaGreatDoorProg
import Derived.Shelf.Strconv.ToErrorRange
set_option linter.all false
set_option maxHeartbeats 8000000
namespace Go.Proofs.YtlobiioioicmhaaGreatDoor
open _root_.Bool renaming not_true→Bv,not_false→Bf
open _root_.List renaming getElem?_eq_none→Bq,length_take→Bh
open _root_.Nat renaming le_refl→BL,zero_le→BN
open Go.Proofs.Tryz renaming prog→Tp
open Go Go.Ev
set_option maxRecDepth 20000
variable {γ:List (Nat×AV)}
theorem spanEnd_ge(p:Nat→Bool)(l:List UInt8)(i:Nat):i≤spanEnd p l i:=by unfold spanEnd;omega
set_option maxRecDepth 20000 in
theorem refDigits_ev(b:Bool)(l:List UInt8)(i:Nat)(hl:l.length≤140737488351232)(hi:i≤l.length+8):Ev Tp γ 205 [.sl b l.length l.length (l.map byteC),.v (.int .i64 i)] (.v (.int .i64 (spanEnd digitN l i-i:Nat))):=by
 refine Ev.of Tryz.func205 rfl ?_;have ea:∀ j,(l.getD j 0).toNat=atL l j:=fun _=>rfl
 simp only[Tryz.f205,evS,Nat.reduceAdd,Nat.reduceSub,Nat.reduceLT];refine LoopK.intro (fun j:Nat=>⟨⟨24,[(0,.sl b l.length l.length (l.map byteC)),(1,.v (.int .i64 i)),(5,.v (.int .i64 j))],γ⟩,[]⟩) (fun j=>i+j≤l.length+8∧spanEnd digitN l (i+j)=spanEnd digitN l i) (fun j=>l.length-(i+j)) 0 ?_ ⟨by omega,rfl⟩ (fun j hj=>?_)
 ·simp only[evS,Nat.reduceEqDiff,reduceCtorEq]
  rfl
 ·have ew:IntKind.i64.wrap ((i:Int)+j)=((i+j:Nat):Int):=by rw[i64w]<;>omega
  have ej:IntKind.i64.wrap ((j:Int)+1)=((j+1:Nat):Int):=by rw[i64w]<;>omega
  have hstop:(i+j<l.length→digitN (atL l (i+j))=false)→spanEnd digitN l i-i=j:=fun h=>by
   rw[←hj.2,spanEnd_stop h];omega
  simp only[ew,evS,tyS,Nat.reduceLT,Nat.reduceEqDiff,reduceCtorEq]
  (repeat' (first|(with_reducible refine aI ?_ ?_)|(first|(first|refine gF ?_ ?_|refine gT ?_ ?_|refine cI ?_ ?_|refine pI ?_ ?_)<;>intro h|(refine dI ?_;have h:=trivial))<;>simp only[h,ew,ea,evS,tyS,Nat.reduceLT,Nat.reduceEqDiff,reduceCtorEq,Bv,Bf,Nat.reduceAdd,Nat.reduceSub,Nat.reduceMul,Nat.reduceLeDiff,List.reduceReplicate,Int.reduceToNat,Int.reduceLE,Int.reduceLT]))
  all_goals try (((try simp only[decide_eq_true_eq,decide_eq_false_iff_not]at *)<;>(try omega));done)
  ·((try simp only[decide_eq_true_eq]at *)<;>(try omega))
   refine CallK.intro b41 rfl (refDigit_ev _) ?_;simp only[evS,Nat.reduceLT,Nat.reduceEqDiff,reduceCtorEq];refine CondK.intro (fun h=>?_) (fun h=>?_)<;>simp only[h,ej,evS,Nat.reduceLT,Nat.reduceEqDiff,reduceCtorEq]
   ·refine loopC.intro (j+1) ⟨by omega,by rw[←hj.2,spanEnd_step (by omega) h];congr 1⟩ ?_ (by omega);simp only[evS,Nat.reduceEqDiff,reduceCtorEq]
   ·rw[hstop fun _=>h]
  ·((try simp only[decide_eq_false_iff_not]at *)<;>(try omega))
   rw[hstop fun h'=>by omega]
def marksL:List (List UInt8):=[[40],[41],[123],[125],[44],[59],[58],[46],[38],[43],[45],[42],[47],[37],[60],[62],[33],[61],[95],[61,61],[33,61],[60,61],[62,61],[38,38],[124,124],[45,62]]
set_option maxRecDepth 40000 in
theorem refIsMark_ev(l:List UInt8):Ev Tp γ 142 [.v (.string ⟨l.toArray⟩)] (.v (.bool (marksL.contains l))):=by
 refine Ev.of Tryz.func142 rfl ?_;simp only[Tryz.f142,evS,Nat.reduceAdd,Nat.reduceSub,Nat.reduceLT,Nat.reduceEqDiff,reduceCtorEq]
 (repeat' (first|(with_reducible refine aI ?_ ?_)|(first|(first|refine gF ?_ ?_|refine gT ?_ ?_|refine cI ?_ ?_|refine pI ?_ ?_)<;>intro h|(refine dI ?_;have h:=trivial))<;>simp only[h,evS,Nat.reduceLT,Nat.reduceEqDiff,reduceCtorEq,tyS,Bv,Bf,Nat.reduceAdd,Nat.reduceSub,Nat.reduceMul,Nat.reduceLeDiff,List.reduceReplicate,Int.reduceToNat,Int.reduceLE,Int.reduceLT]))
 all_goals try (have e:=eq_of_beq h;subst e;rfl)
 all_goals simp only[AV.v.injEq,Value.bool.injEq]
 all_goals (simp only[marksL,List.contains,List.elem, *])
theorem Ev_cut1{P:Program}{f:FuncId}{b:Bool}{n m:Nat}{L:List UInt8}{rest:List AV}{r:AV}(h1:n≤m)(h2:n≤L.length)(hev:Ev P γ f (.sl b (L.take n).length (L.take n).length ((L.take n).map byteC)::rest) r):Ev P γ f (.sl b n m (L.map byteC)::rest) r:=by
 have e:(L.take n).length=n:=by rw[Bh];omega
 rw[e]at hev;intro G B w vs hG hγ hr;refine hev G B w vs hG hγ ?_;simp only[relL]at hr⊢;obtain⟨u,us,e1,h3,h4⟩:=hr;refine⟨u,us,e1,?_,h4⟩;simp only[rel]at h3⊢;obtain⟨r,off,cap,e2,g1,g2,g3,g4⟩:=h3;exact⟨r,off,cap,e2,BL _,by omega,g3,by rw[List.map_take];exact relAt_take g4 n⟩
def decFrom(n:Nat)(l:List UInt8):Nat:=l.foldl (fun n c=>10 * n+(c.toNat-48)) n
def decV(l:List UInt8):Nat:=decFrom 0 l
theorem decFrom_ge(l:List UInt8):∀ n,n≤decFrom n l:=by
 induction l with
 |nil=>intro n;exact BL _
 |cons c l ih=>intro n;have:=ih (10 * n+(c.toNat-48));simp only[decFrom,List.foldl_cons]at *;omega
theorem decV_snoc(l:List UInt8)(c:UInt8):decV (l++[c])=10 * decV l+(c.toNat-48):=by simp[decV,decFrom]
theorem decV_take(l:List UInt8)(j:Nat):decV (l.take j)≤decV l:=by
 have e:decV l=decFrom (decV (l.take j)) (l.drop j):=by
  conv=>lhs;rw[←List.take_append_drop j l]
  simp only[decV,decFrom,List.foldl_append]
 rw[e];exact decFrom_ge _ _
theorem take_snoc{l:List UInt8}{j:Nat}(h:j<l.length):l.take (j+1)=l.take j++[l.getD j 0]:=by
 rw[List.take_add_one];simp[h]
def wholeR(l:List UInt8):AV:=if decV l≤9223372036854775807 then .tup [.v (.int .i64 (decV l)),.v (.bool true)]else .tup [.v (.int .i64 0),.v (.bool false)]
set_option maxRecDepth 20000 in
theorem refWhole_ev(b:Bool)(l:List UInt8)(hl:l.length≤140737488351232)(hd:∀ j,j<l.length→digitN (atL l j)=true):Ev Tp γ 208 [.sl b l.length l.length (l.map byteC)] (wholeR l):=by
 refine Ev.of Tryz.func208 rfl ?_;simp only[Tryz.f208,evS,Nat.reduceAdd,Nat.reduceSub,Nat.reduceLT];refine LoopK.intro (fun j:Nat=>⟨⟨30,[(0,.sl b l.length l.length (l.map byteC)),(5,.v (.int .i64 j)),(4,.v (.int .u64 (decV (l.take j))))],γ⟩,[]⟩) (fun j=>j≤l.length∧decV (l.take j)≤9223372036854775807) (fun j=>l.length-j) 0 ?_ ⟨by omega,by simp[decV,decFrom]⟩ (fun j hj=>?_)
 ·simp only[evS,Nat.reduceEqDiff,reduceCtorEq]
  (repeat' (first|(with_reducible refine aI ?_ ?_)|(first|(first|refine gF ?_ ?_|refine gT ?_ ?_|refine cI ?_ ?_|refine pI ?_ ?_)<;>intro h|(refine dI ?_;have h:=trivial))<;>simp only[h,evS,tyS,Bv,Bf,Nat.reduceAdd,Nat.reduceSub,Nat.reduceMul,Nat.reduceLT,Nat.reduceLeDiff,Nat.reduceEqDiff,reduceCtorEq,List.reduceReplicate,Int.reduceToNat,Int.reduceLE,Int.reduceLT]))
  all_goals rfl
 ·have ea:∀ j,(l.getD j 0).toNat=atL l j:=fun _=>rfl
  have ej:IntKind.i64.wrap ((j:Int)+1)=((j+1:Nat):Int):=by rw[i64w]<;>omega
  by_cases hjl:j<l.length
  ·have hdj:48≤atL l j∧atL l j≤57:=by simpa[digitN]using hd j hjl
   have e1:IntKind.u8.wrap ((atL l j:Int)-48)=((atL l j-48:Nat):Int):=by rw[u8w]<;>omega
   have e2:IntKind.u64.wrap ((atL l j-48:Nat):Int)=((atL l j-48:Nat):Int):=by rw[u64w]<;>omega
   have e3:IntKind.u64.wrap (9223372036854775807-((atL l j-48:Nat):Int))=((9223372036854775807-(atL l j-48):Nat):Int):=by rw[u64w]<;>omega
   have e4:IntKind.u64.wrap (((9223372036854775807-(atL l j-48):Nat):Int).tdiv 10)=(((9223372036854775807-(atL l j-48)) / 10:Nat):Int):=by
    rw[Int.tdiv_eq_ediv_of_nonneg (by omega),u64w]<;>omega
   have hsn:decV (l.take (j+1))=10 * decV (l.take j)+(atL l j-48):=by rw[take_snoc hjl,decV_snoc];rfl
   simp only[evS,tyS,Nat.reduceLT,Nat.reduceEqDiff,reduceCtorEq]
   (repeat' (first|(with_reducible refine aI ?_ ?_)|(first|(first|refine gF ?_ ?_|refine gT ?_ ?_|refine cI ?_ ?_|refine pI ?_ ?_)<;>intro h|(refine dI ?_;have h:=trivial))<;>simp only[h,ea,e1,e2,e3,e4,evS,tyS,Nat.reduceLT,Nat.reduceEqDiff,reduceCtorEq,Bv,Bf,Nat.reduceAdd,Nat.reduceSub,Nat.reduceMul,Nat.reduceLeDiff,List.reduceReplicate,Int.reduceToNat,Int.reduceLE,Int.reduceLT]))
   all_goals try (((try simp only[decide_eq_true_eq,decide_eq_false_iff_not]at *)<;>(try omega));done)
   ·((try simp only[decide_eq_true_eq]at *)<;>(try omega))
    have hbig:9223372036854775807<decV l:=by
     have:=decV_take l (j+1);omega
    rw[wholeR,if_neg (by omega)];simp only[evS]
   ·((try simp only[decide_eq_true_eq,decide_eq_false_iff_not]at *)<;>(try omega))
    have hle:10 * decV (l.take j)+(atL l j-48)≤9223372036854775807:=by omega
    have e5:IntKind.u64.wrap (10 * (decV (l.take j):Int))=((10 * decV (l.take j):Nat):Int):=by rw[u64w]<;>omega
    have e6:IntKind.u64.wrap (((10 * decV (l.take j):Nat):Int)+((atL l j-48:Nat):Int))=((decV (l.take (j+1)):Nat):Int):=by rw[hsn,u64w]<;>omega
    refine loopC.intro (j+1) ⟨by omega,by omega⟩ ?_ (by omega);simp only[ej,e5,e6,evS,Nat.reduceEqDiff,reduceCtorEq]
  ·have hjn:j=l.length:=by omega
   have et:l.take j=l:=by rw[hjn,List.take_length]
   rw[et]at hj⊢;have ef:((j:Int)<l.length)=False:=by simp;omega
   have e7:IntKind.i64.wrap ((decV l:Nat):Int)=((decV l:Nat):Int):=by rw[i64w]<;>omega
   simp only[evS,tyS,Nat.reduceLT,Nat.reduceEqDiff,reduceCtorEq]
   (repeat' (first|(with_reducible refine aI ?_ ?_)|(first|(first|refine gF ?_ ?_|refine gT ?_ ?_|refine cI ?_ ?_|refine pI ?_ ?_)<;>intro h|(refine dI ?_;have h:=trivial))<;>simp only[h,evS,tyS,Nat.reduceLT,Nat.reduceEqDiff,reduceCtorEq,Bv,Bf,Nat.reduceAdd,Nat.reduceSub,Nat.reduceMul,Nat.reduceLeDiff,List.reduceReplicate,Int.reduceToNat,Int.reduceLE,Int.reduceLT]))
   all_goals try (((try simp only[decide_eq_true_eq,decide_eq_false_iff_not]at *)<;>(try omega));done)
   rw[wholeR,if_pos hj.2];simp only[e7,evS]
def headF(l:List UInt8)(i:Nat):Nat:=if atL l (i+1)=45 then 2 else 1
def spanN(l:List UInt8)(i:Nat):Nat:=spanEnd digitN l i-i
def endF(l:List UInt8)(i:Nat):Nat×Nat:=
 if atL l i≠112 then (0,0)
 else if spanN l (i+headF l i)=0 then (0,0)
 else (headF l i+spanN l (i+headF l i),headF l i)
theorem atL_out{l:List UInt8}{i:Nat}(h:l.length≤i):atL l i=0:=by
 simp only[atL,List.getD];rw[Bq (by omega)];rfl
theorem spanN_le(l:List UInt8)(i:Nat):spanN l i≤l.length:=by
 unfold spanN
 by_cases h:i≤l.length
 ·have:=spanEnd_le (p:=digitN) h;omega
 ·rw[spanEnd_stop (by omega)];omega
set_option maxRecDepth 20000 in
theorem refEnd_ev(b:Bool)(l:List UInt8)(i:Nat)(hl:l.length≤140737488351232)(hi:i≤l.length):Ev Tp γ 206 [.sl b l.length l.length (l.map byteC),.v (.int .i64 i)] (.tup [.v (.int .i64 (endF l i).1),.v (.int .i64 (endF l i).2)]):=by
 refine Ev.of Tryz.func206 rfl ?_;have ea:∀ j,(l.getD j 0).toNat=atL l j:=fun _=>rfl
 have e1:IntKind.i64.wrap ((i:Int)+1)=((i+1:Nat):Int):=by rw[i64w]<;>omega
 have e2:IntKind.i64.wrap ((i:Int)+2)=((i+2:Nat):Int):=by rw[i64w]<;>omega
 have ho:=atL_out (l:=l) (i:=i);have ho1:=atL_out (l:=l) (i:=i+1);have c1:=refDigits_ev (γ:=γ) b l (i+1) hl (by omega);have c2:=refDigits_ev (γ:=γ) b l (i+2) hl (by omega);have s1:=spanN_le l (i+1);have s2:=spanN_le l (i+2);have w1:IntKind.i64.wrap (1+((spanN l (i+1):Nat):Int))=((1+spanN l (i+1):Nat):Int):=by rw[i64w]<;>omega
 have w2:IntKind.i64.wrap (2+((spanN l (i+2):Nat):Int))=((2+spanN l (i+2):Nat):Int):=by rw[i64w]<;>omega
 simp only[Tryz.f206,evS,tyS,Nat.reduceAdd,Nat.reduceSub,Nat.reduceLT,Nat.reduceEqDiff,reduceCtorEq]
 (repeat' (first|(with_reducible refine aI ?_ ?_)|(first|(first|refine gF ?_ ?_|refine gT ?_ ?_|refine cI ?_ ?_|refine pI ?_ ?_)<;>intro h|(refine dI ?_;have h:=trivial))<;>simp only[h,e1,e2,ea,evS,tyS,Nat.reduceLT,Nat.reduceEqDiff,reduceCtorEq,Bv,Bf,Nat.reduceAdd,Nat.reduceSub,Nat.reduceMul,Nat.reduceLeDiff,List.reduceReplicate,Int.reduceToNat,Int.reduceLE,Int.reduceLT]))
 all_goals try (((try simp only[decide_eq_true_eq,decide_eq_false_iff_not,beq_iff_eq,bne_iff_ne,ne_eq,beq_eq_false_iff_ne,bne_eq_false_iff_eq]at *)<;>(try omega));done)
 ·((try simp only[decide_eq_false_iff_not,bne_iff_ne,ne_eq]at *)<;>(try omega));rw[endF,if_pos (by omega)];rfl
 ·((try simp only[decide_eq_false_iff_not,bne_iff_ne,ne_eq]at *)<;>(try omega));rw[endF,if_pos (by omega)];rfl
 ·((try simp only[decide_eq_true_eq,decide_eq_false_iff_not,beq_iff_eq,bne_eq_false_iff_eq]at *)<;>(try omega))
  have hh:headF l i=2:=by unfold headF;rw[if_pos (by omega)]
  refine CallK.intro b64 (by simp only[treeL,treeA,Bool.and_self]) c2 ?_;rw[show spanEnd digitN l (i+2)-(i+2)=spanN l (i+2)from rfl];simp only[evS,Nat.reduceLT,Nat.reduceEqDiff,reduceCtorEq];refine CondK.intro (fun h=>?_) (fun h=>?_)
  ·simp only[h,evS,Nat.reduceLT,Nat.reduceEqDiff,reduceCtorEq]
   ((try simp only[beq_iff_eq]at *)<;>(try omega))
   rw[endF,if_neg (by omega),hh,if_pos (by omega)];simp only[evS]
   (repeat' (first|(with_reducible refine aI ?_ ?_)|(first|(first|refine gF ?_ ?_|refine gT ?_ ?_|refine cI ?_ ?_|refine pI ?_ ?_)<;>intro h|(refine dI ?_;have h:=trivial))<;>simp only[h,evS,tyS,Bv,Bf,Nat.reduceAdd,Nat.reduceSub,Nat.reduceMul,Nat.reduceLT,Nat.reduceLeDiff,Nat.reduceEqDiff,reduceCtorEq,List.reduceReplicate,Int.reduceToNat,Int.reduceLE,Int.reduceLT]))
   all_goals rfl
  ·simp only[h,w2,evS,Nat.reduceLT,Nat.reduceEqDiff,reduceCtorEq]
   ((try simp only[ne_eq,beq_eq_false_iff_ne]at *)<;>(try omega))
   rw[endF,if_neg (by omega),hh,if_neg (by omega)]
   (repeat' (first|(with_reducible refine aI ?_ ?_)|(first|(first|refine gF ?_ ?_|refine gT ?_ ?_|refine cI ?_ ?_|refine pI ?_ ?_)<;>intro h|(refine dI ?_;have h:=trivial))<;>simp only[h,evS,tyS,Bv,Bf,Nat.reduceAdd,Nat.reduceSub,Nat.reduceMul,Nat.reduceLT,Nat.reduceLeDiff,Nat.reduceEqDiff,reduceCtorEq,List.reduceReplicate,Int.reduceToNat,Int.reduceLE,Int.reduceLT]))
   all_goals rfl
 ·((try simp only[decide_eq_true_eq,decide_eq_false_iff_not,ne_eq,beq_eq_false_iff_ne,bne_eq_false_iff_eq]at *)<;>(try omega))
  have hh:headF l i=1:=by unfold headF;rw[if_neg (by omega)]
  refine CallK.intro b64 (by simp only[treeL,treeA,Bool.and_self]) c1 ?_;rw[show spanEnd digitN l (i+1)-(i+1)=spanN l (i+1)from rfl];simp only[evS,Nat.reduceLT,Nat.reduceEqDiff,reduceCtorEq];refine CondK.intro (fun h=>?_) (fun h=>?_)
  ·simp only[h,evS,Nat.reduceLT,Nat.reduceEqDiff,reduceCtorEq]
   ((try simp only[beq_iff_eq]at *)<;>(try omega))
   rw[endF,if_neg (by omega),hh,if_pos (by omega)];simp only[evS]
   (repeat' (first|(with_reducible refine aI ?_ ?_)|(first|(first|refine gF ?_ ?_|refine gT ?_ ?_|refine cI ?_ ?_|refine pI ?_ ?_)<;>intro h|(refine dI ?_;have h:=trivial))<;>simp only[h,evS,tyS,Bv,Bf,Nat.reduceAdd,Nat.reduceSub,Nat.reduceMul,Nat.reduceLT,Nat.reduceLeDiff,Nat.reduceEqDiff,reduceCtorEq,List.reduceReplicate,Int.reduceToNat,Int.reduceLE,Int.reduceLT]))
   all_goals rfl
  ·simp only[h,w1,evS,Nat.reduceLT,Nat.reduceEqDiff,reduceCtorEq]
   ((try simp only[ne_eq,beq_eq_false_iff_ne]at *)<;>(try omega))
   rw[endF,if_neg (by omega),hh,if_neg (by omega)]
   (repeat' (first|(with_reducible refine aI ?_ ?_)|(first|(first|refine gF ?_ ?_|refine gT ?_ ?_|refine cI ?_ ?_|refine pI ?_ ?_)<;>intro h|(refine dI ?_;have h:=trivial))<;>simp only[h,evS,tyS,Bv,Bf,Nat.reduceAdd,Nat.reduceSub,Nat.reduceMul,Nat.reduceLT,Nat.reduceLeDiff,Nat.reduceEqDiff,reduceCtorEq,List.reduceReplicate,Int.reduceToNat,Int.reduceLE,Int.reduceLT]))
   all_goals rfl
 ·((try simp only[decide_eq_false_iff_not,bne_eq_false_iff_eq]at *)<;>(try omega))
  have hh:headF l i=1:=by unfold headF;rw[if_neg (by omega)]
  refine CallK.intro b64 (by simp only[treeL,treeA,Bool.and_self]) c1 ?_;rw[show spanEnd digitN l (i+1)-(i+1)=spanN l (i+1)from rfl];simp only[evS,Nat.reduceLT,Nat.reduceEqDiff,reduceCtorEq];refine CondK.intro (fun h=>?_) (fun h=>?_)
  ·simp only[h,evS,Nat.reduceLT,Nat.reduceEqDiff,reduceCtorEq]
   ((try simp only[beq_iff_eq]at *)<;>(try omega))
   rw[endF,if_neg (by omega),hh,if_pos (by omega)];simp only[evS]
   (repeat' (first|(with_reducible refine aI ?_ ?_)|(first|(first|refine gF ?_ ?_|refine gT ?_ ?_|refine cI ?_ ?_|refine pI ?_ ?_)<;>intro h|(refine dI ?_;have h:=trivial))<;>simp only[h,evS,tyS,Bv,Bf,Nat.reduceAdd,Nat.reduceSub,Nat.reduceMul,Nat.reduceLT,Nat.reduceLeDiff,Nat.reduceEqDiff,reduceCtorEq,List.reduceReplicate,Int.reduceToNat,Int.reduceLE,Int.reduceLT]))
   all_goals rfl
  ·simp only[h,w1,evS,Nat.reduceLT,Nat.reduceEqDiff,reduceCtorEq]
   ((try simp only[ne_eq,beq_eq_false_iff_ne]at *)<;>(try omega))
   rw[endF,if_neg (by omega),hh,if_neg (by omega)]
   (repeat' (first|(with_reducible refine aI ?_ ?_)|(first|(first|refine gF ?_ ?_|refine gT ?_ ?_|refine cI ?_ ?_|refine pI ?_ ?_)<;>intro h|(refine dI ?_;have h:=trivial))<;>simp only[h,evS,tyS,Bv,Bf,Nat.reduceAdd,Nat.reduceSub,Nat.reduceMul,Nat.reduceLT,Nat.reduceLeDiff,Nat.reduceEqDiff,reduceCtorEq,List.reduceReplicate,Int.reduceToNat,Int.reduceLE,Int.reduceLT]))
   all_goals rfl
 ·((try simp only[decide_eq_true_eq]at *)<;>(try omega));rw[endF,if_pos (by omega)];rfl
 ·((try simp only[decide_eq_true_eq]at *)<;>(try omega));rw[endF,if_pos (by omega)];rfl
def blankN(n:Nat):Bool:=decide (n=32∨n=9∨n=10∨n=13)
theorem refBlank_ev(n:Nat):Ev Tp γ 85 [.v (.int .u8 n)] (.v (.bool (blankN n))):=by
 refine Ev.of Tryz.func85 rfl ?_;simp only[Tryz.f85,evS,Nat.reduceAdd,Nat.reduceSub,Nat.reduceLT,Nat.reduceEqDiff,reduceCtorEq]
 (repeat' (first|(with_reducible refine aI ?_ ?_)|(first|(first|refine gF ?_ ?_|refine gT ?_ ?_|refine cI ?_ ?_|refine pI ?_ ?_)<;>intro h|(refine dI ?_;have h:=trivial))<;>simp only[h,evS,Nat.reduceLT,Nat.reduceEqDiff,reduceCtorEq,tyS,Bv,Bf,Nat.reduceAdd,Nat.reduceSub,Nat.reduceMul,Nat.reduceLeDiff,List.reduceReplicate,Int.reduceToNat,Int.reduceLE,Int.reduceLT]))
 all_goals (((try simp only[beq_iff_eq,ne_eq,beq_eq_false_iff_ne]at *)<;>(try omega))<;>simp only[blankN,AV.v.injEq,Value.bool.injEq]<;>first|exact (decide_eq_true (by omega)).symm|exact (decide_eq_false (by omega)).symm|(rw[Bool.eq_iff_iff];simp;omega))
theorem b67:bodyT Tp 208:=⟨_,Tryz.func208,by kernel_rfl,by kernel_rfl⟩
theorem b65:bodyT Tp 206:=⟨_,Tryz.func206,by kernel_rfl,by kernel_rfl⟩
theorem b43:bodyT Tp 141:=⟨_,Tryz.func141,by kernel_rfl,by kernel_rfl⟩
theorem b44:bodyT Tp 142:=⟨_,Tryz.func142,by kernel_rfl,by kernel_rfl⟩
theorem b42:bodyT Tp 140:=⟨_,Tryz.func140,by kernel_rfl,by kernel_rfl⟩
theorem b66:bodyT Tp 207:=⟨_,Tryz.func207,by kernel_rfl,by kernel_rfl⟩
theorem b98:bodyT Tp 250:=⟨_,Tryz.func250,by kernel_rfl,by kernel_rfl⟩
theorem b29:bodyT Tp 86:=⟨_,Tryz.func86,by kernel_rfl,by kernel_rfl⟩
theorem b46:bodyT Tp 240:=⟨_,Tryz.func240,by kernel_rfl,by kernel_rfl⟩
theorem b48:bodyT Tp 242:=⟨_,Tryz.func242,by kernel_rfl,by kernel_rfl⟩
theorem b49:bodyT Tp 243:=⟨_,Tryz.func243,by kernel_rfl,by kernel_rfl⟩
theorem b50:bodyT Tp 244:=⟨_,Tryz.func244,by kernel_rfl,by kernel_rfl⟩
theorem b72:bodyT Tp 278:=⟨_,Tryz.func278,by kernel_rfl,by kernel_rfl⟩
theorem b73:bodyT Tp 279:=⟨_,Tryz.func279,by kernel_rfl,by kernel_rfl⟩
theorem b31:bodyT Tp 183:=⟨_,Tryz.func183,by kernel_rfl,by kernel_rfl⟩
theorem refPower_ev(m:Int)(x:Nat)(below:Bool)(f:Nat→Nat)(hx:x≤4611686018427387904)(h0:FloatKind.f64.nearest m=f 0)
  (hs:∀ j,j<x→(if below=true then FloatKind.f64.format.div (f j) 4611686018427387904 else FloatKind.f64.format.mul (f j) 4611686018427387904)=some (f (j+1))) :
  Ev Tp γ 250 [.v (.int .i64 m),.v (.int .i64 x),.v (.bool below)] (.v (.float .f64 (f x))):=by
 refine Ev.of Tryz.func250 rfl ?_;simp only[Tryz.f250,h0,evS,tyS,Nat.reduceAdd,Nat.reduceSub,Nat.reduceLT,Nat.reduceEqDiff,reduceCtorEq];refine LoopK.intro (fun j:Nat=>⟨⟨22,[(1,.v (.int .i64 x)),(2,.v (.bool below)),(7,.v (.float .f64 (f j))),(8,.v (.int .i64 j))],γ⟩,[]⟩) (fun j=>j≤x) (fun j=>x-j) 0 ?_ (BN _) (fun j hj=>?_)
 ·simp only[evS,Nat.reduceEqDiff,reduceCtorEq]
  (repeat' (first|(with_reducible refine aI ?_ ?_)|(first|(first|refine gF ?_ ?_|refine gT ?_ ?_|refine cI ?_ ?_|refine pI ?_ ?_)<;>intro h|(refine dI ?_;have h:=trivial))<;>simp only[h,evS,tyS,Bv,Bf,Nat.reduceAdd,Nat.reduceSub,Nat.reduceMul,Nat.reduceLT,Nat.reduceLeDiff,Nat.reduceEqDiff,reduceCtorEq,List.reduceReplicate,Int.reduceToNat,Int.reduceLE,Int.reduceLT]))
  all_goals rfl
 ·have ej:IntKind.i64.wrap ((j:Int)+1)=((j+1:Nat):Int):=by rw[i64w]<;>omega
  simp only[evS,Nat.reduceLT,Nat.reduceEqDiff,reduceCtorEq];refine CondK.intro (fun h=>?_) (fun h=>?_)<;>simp only[h,evS,Nat.reduceLT,Nat.reduceEqDiff]
  ·have hjx:j<x:=by ((try simp only[decide_eq_true_eq]at *)<;>(try omega))
   have hsj:=hs j hjx;refine CondK.intro (fun hb=>?_) (fun hb=>?_)
   ·rw[if_pos hb]at hsj;simp only[hb,hsj,fltRes,ej,evS,Nat.reduceLT,Nat.reduceEqDiff,reduceCtorEq];refine loopC.intro (j+1) (by omega) ?_ (by omega);simp only[evS,Nat.reduceEqDiff]
   ·rw[if_neg (by simp[hb])]at hsj;simp only[hb,hsj,fltRes,ej,evS,Nat.reduceLT,Nat.reduceEqDiff,reduceCtorEq];refine loopC.intro (j+1) (by omega) ?_ (by omega);simp only[evS,Nat.reduceEqDiff]
  ·have hjx:j=x:=by ((try simp only[decide_eq_false_iff_not]at *)<;>(try omega))
   rw[hjx]
theorem tyP:fltT Tp 219=none∧
  ifcT Tp 260=some false∧
  ifcT Tp 261=some false∧
  ifcT Tp 169=some true∧
  intT Tp 219=some .u64∧
  strT Tp 219=false∧
  (Tryz.prog.underlying 9).isSome=true:=
 (by and_intros<;>kernel_rfl)
theorem tyQ:intT Tp 260=some .i64∧cmpT Tp 260=some true:=by
 refine⟨?_,?_⟩<;>kernel_rfl
def uintR(l:List UInt8):AV:=if decV l<18446744073709551616 then .tup [.v (.int .u64 (decV l)),.v .nilIface]else .tup [.v (.int .u64 18446744073709551615),.ifc 260 (.v (.int .i64 1))]
set_option maxRecDepth 20000 in
theorem parseUint_ev(l:List UInt8)(h1:1≤l.length)(hl:l.length≤140737488351232)(hd:∀ j,j<l.length→digitN (atL l j)=true):
  Ev Tp γ 223 [.v (.string ⟨l.toArray⟩),.v (.int .i64 10),.v (.int .i64 64)] (uintR l):=by
 refine Ev.of Tryz.func223 rfl ?_
 have hne:(l==([]:List UInt8))=false:=by
  cases l with
  |nil=>simp at h1
  |cons=>rfl
 have w64:IntKind.u64.wrap 64=64:=by rw[u64w]<;>omega
 have wsh:IntKind.u64.wrap (1 * 2^min (Int.toNat 64) IntKind.u64.bits)=0:=by decide
 have wsh':IntKind.u64.wrap (1 * 2^min 64 IntKind.u64.bits)=0:=by decide
 have wm1:IntKind.u64.wrap (0-1)=18446744073709551615:=by decide
 have h100:((10:Int)==0)=false:=by decide
 have h640:((64:Int)==0)=false:=by decide
 simp only[Tryz.f223,tyP,hne,w64,wsh',wm1,h100,h640,evS,tyS,Nat.reduceAdd,Nat.reduceSub,Nat.reduceLT,Nat.reduceEqDiff,reduceCtorEq,Int.reduceToNat,Int.reduceLE,Int.reduceLT]
 (repeat' (first|(with_reducible refine aI ?_ ?_)|(first|(first|refine gF ?_ ?_|refine gT ?_ ?_|refine cI ?_ ?_|refine pI ?_ ?_)<;>intro h|(refine dI ?_;have h:=trivial))<;>simp only[h,tyP,tyQ,w64,wsh,wsh',wm1,h100,h640,evS,tyS,Bv,Bf,Nat.reduceAdd,Nat.reduceSub,Nat.reduceMul,Nat.reduceLT,Nat.reduceLeDiff,Nat.reduceEqDiff,reduceCtorEq,List.reduceReplicate,Int.reduceToNat,Int.reduceLE,Int.reduceLT]))
 all_goals try (((try simp only[ne_eq,beq_eq_false_iff_ne]at *)<;>(try omega));done)
 refine LoopK.intro (fun j:Nat=>⟨⟨172,[(101,.v (.int .i64 j)),(100,.v (.int .i64 l.length)),(99,.own 0 0 l.length),(13,.v (.int .u64 (decV (l.take j)))),(12,.v (.bool false)),(11,.v (.int .u64 18446744073709551615)),(10,.v (.int .u64 1844674407370955162)),(9,.v (.string ⟨l.toArray⟩)),(8,.v (.bool false)),(1,.v (.int .i64 10))],γ⟩,[⟨0,5,l.map byteC⟩]⟩) (fun j=>j≤l.length∧decV (l.take j)<18446744073709551616) (fun j=>l.length-j) 0 ?_ ⟨by omega,by simp[decV,decFrom]⟩ (fun j hj=>?_)
 ·simp only[evS,Nat.reduceEqDiff,reduceCtorEq]
  (repeat' (first|(with_reducible refine aI ?_ ?_)|(first|(first|refine gF ?_ ?_|refine gT ?_ ?_|refine cI ?_ ?_|refine pI ?_ ?_)<;>intro h|(refine dI ?_;have h:=trivial))<;>simp only[h,evS,tyS,Bv,Bf,Nat.reduceAdd,Nat.reduceSub,Nat.reduceMul,Nat.reduceLT,Nat.reduceLeDiff,Nat.reduceEqDiff,reduceCtorEq,List.reduceReplicate,Int.reduceToNat,Int.reduceLE,Int.reduceLT]))
  all_goals rfl
 ·have ea:∀ j,(l.getD j 0).toNat=atL l j:=fun _=>rfl
  have ej:IntKind.i64.wrap ((j:Int)+1)=((j+1:Nat):Int):=by rw[i64w]<;>omega
  have w10:IntKind.u64.wrap 10=10:=by rw[u64w]<;>omega
  have v10:IntKind.u8.wrap 10=10:=by rw[u8w]<;>omega
  by_cases hjl:j<l.length
  ·have hdj:48≤atL l j∧atL l j≤57:=by simpa[digitN]using hd j hjl
   have e1:IntKind.u8.wrap ((atL l j:Int)-48)=((atL l j-48:Nat):Int):=by rw[u8w]<;>omega
   have e2:IntKind.u64.wrap ((atL l j-48:Nat):Int)=((atL l j-48:Nat):Int):=by rw[u64w]<;>omega
   have hsn:decV (l.take (j+1))=10 * decV (l.take j)+(atL l j-48):=by rw[take_snoc hjl,decV_snoc];rfl
   have hmo:=decV_take l (j+1);have h95:((atL l j:Int)==95)=false:=by simp;omega
   by_cases hc:decV (l.take j)<1844674407370955162
   ·have e5:IntKind.u64.wrap ((decV (l.take j):Int) * 10)=((decV (l.take j) * 10:Nat):Int):=by rw[u64w]<;>omega
    by_cases ho:decV (l.take (j+1))<18446744073709551616
    ·have e6:IntKind.u64.wrap (((decV (l.take j) * 10:Nat):Int)+((atL l j-48:Nat):Int))=((decV (l.take (j+1)):Nat):Int):=by rw[u64w]<;>omega
     simp only[evS,Nat.reduceLT,Nat.reduceEqDiff,reduceCtorEq]
     (repeat' (first|(with_reducible refine aI ?_ ?_)|(first|(first|refine gF ?_ ?_|refine gT ?_ ?_|refine cI ?_ ?_|refine pI ?_ ?_)<;>intro h|(refine dI ?_;have h:=trivial))<;>simp only[h,tyP,ea,e1,e2,w10,v10,h95,e5,e6,evS,tyS,Nat.reduceLT,Nat.reduceEqDiff,reduceCtorEq,tyQ,Bv,Bf,Nat.reduceAdd,Nat.reduceSub,Nat.reduceMul,Nat.reduceLeDiff,List.reduceReplicate,Int.reduceToNat,Int.reduceLE,Int.reduceLT]))
     all_goals try (((try simp only[decide_eq_true_eq,decide_eq_false_iff_not,ne_eq,beq_eq_false_iff_ne]at *)<;>(try omega));done)
     refine loopC.intro (j+1) ⟨by omega,ho⟩ ?_ (by omega);simp only[ej,evS,Nat.reduceEqDiff]
     (repeat' (first|(with_reducible refine aI ?_ ?_)|(first|(first|refine gF ?_ ?_|refine gT ?_ ?_|refine cI ?_ ?_|refine pI ?_ ?_)<;>intro h|(refine dI ?_;have h:=trivial))<;>simp only[h,evS,tyS,Bv,Bf,Nat.reduceAdd,Nat.reduceSub,Nat.reduceMul,Nat.reduceLT,Nat.reduceLeDiff,Nat.reduceEqDiff,reduceCtorEq,List.reduceReplicate,Int.reduceToNat,Int.reduceLE,Int.reduceLT]))
     all_goals rfl
    ·have e6:IntKind.u64.wrap (((decV (l.take j) * 10:Nat):Int)+((atL l j-48:Nat):Int))=((decV (l.take (j+1))-18446744073709551616:Nat):Int):=by
      have:(((decV (l.take j) * 10:Nat):Int)+((atL l j-48:Nat):Int))=((decV (l.take (j+1)):Nat):Int):=by omega
      rw[this];show ((decV (l.take (j+1)):Nat):Int)%18446744073709551616=_
      omega
     simp only[evS,Nat.reduceLT,Nat.reduceEqDiff,reduceCtorEq]
     (repeat' (first|(with_reducible refine aI ?_ ?_)|(first|(first|refine gF ?_ ?_|refine gT ?_ ?_|refine cI ?_ ?_|refine pI ?_ ?_)<;>intro h|(refine dI ?_;have h:=trivial))<;>simp only[h,tyP,ea,e1,e2,w10,v10,h95,e5,e6,evS,tyS,Nat.reduceLT,Nat.reduceEqDiff,reduceCtorEq,tyQ,Bv,Bf,Nat.reduceAdd,Nat.reduceSub,Nat.reduceMul,Nat.reduceLeDiff,List.reduceReplicate,Int.reduceToNat,Int.reduceLE,Int.reduceLT]))
     all_goals try (((try simp only[decide_eq_true_eq,decide_eq_false_iff_not,ne_eq,beq_eq_false_iff_ne]at *)<;>(try omega));done)
     all_goals (rw[uintR,if_neg (by omega)];simp only[evS])
   ·simp only[evS,Nat.reduceLT,Nat.reduceEqDiff,reduceCtorEq]
    (repeat' (first|(with_reducible refine aI ?_ ?_)|(first|(first|refine gF ?_ ?_|refine gT ?_ ?_|refine cI ?_ ?_|refine pI ?_ ?_)<;>intro h|(refine dI ?_;have h:=trivial))<;>simp only[h,tyP,ea,e1,e2,w10,v10,h95,evS,tyS,Nat.reduceLT,Nat.reduceEqDiff,reduceCtorEq,tyQ,Bv,Bf,Nat.reduceAdd,Nat.reduceSub,Nat.reduceMul,Nat.reduceLeDiff,List.reduceReplicate,Int.reduceToNat,Int.reduceLE,Int.reduceLT]))
    all_goals try (((try simp only[decide_eq_true_eq,decide_eq_false_iff_not,ne_eq,beq_eq_false_iff_ne]at *)<;>(try omega));done)
    all_goals (rw[uintR,if_neg (by omega)];simp only[evS])
  ·have hjn:j=l.length:=by omega
   have et:l.take j=l:=by rw[hjn,List.take_length]
   rw[et]at hj⊢;simp only[evS,Nat.reduceLT,Nat.reduceEqDiff,reduceCtorEq]
   (repeat' (first|(with_reducible refine aI ?_ ?_)|(first|(first|refine gF ?_ ?_|refine gT ?_ ?_|refine cI ?_ ?_|refine pI ?_ ?_)<;>intro h|(refine dI ?_;have h:=trivial))<;>simp only[h,evS,tyS,Nat.reduceLT,Nat.reduceEqDiff,reduceCtorEq,Bv,Bf,Nat.reduceAdd,Nat.reduceSub,Nat.reduceMul,Nat.reduceLeDiff,List.reduceReplicate,Int.reduceToNat,Int.reduceLE,Int.reduceLT]))
   all_goals try (((try simp only[decide_eq_true_eq,decide_eq_false_iff_not,beq_iff_eq,ne_eq,beq_eq_false_iff_ne]at *)<;>(try omega));done)
   rw[uintR,if_pos hj.2];simp only[evS]
end Go.Proofs.YtlobiioioicmhaaGreatDoor
namespace Go.Proofs
open Go.Shelf
def Tryz.lays144_ren:Go.Shelf.Ren:=⟨fun|144=>281|143=>298|219=>219|217=>218|225=>258|224=>259|267=>260|266=>257|314=>294|n=>n,fun|9=>9|4=>4|3=>3|5=>5|46=>219|146=>304|51=>289|n=>n,fun|1=>1|n=>n⟩
theorem Tryz.lays144:Go.Proofs.Lays.n144 Tryz.prog Tryz.lays144_ren:={
 mixed:=by kernel_rfl
 f143:=Tryz.func298.trans (congrArg some (by kernel_rfl))
 f144:=Tryz.func281.trans (congrArg some (by kernel_rfl))
 f217:=Tryz.func218.trans (congrArg some (by kernel_rfl))
 f219:=Tryz.func219.trans (congrArg some (by kernel_rfl))
 f224:=Tryz.func259.trans (congrArg some (by kernel_rfl))
 f225:=Tryz.func258.trans (congrArg some (by kernel_rfl))
 f266:=Tryz.func257.trans (congrArg some (by kernel_rfl))
 f267:=Tryz.func260.trans (congrArg some (by kernel_rfl))
 f314:=Tryz.func294.trans (congrArg some (by kernel_rfl))
 t3:=Tryz.underlying3
 a3:=Tryz.isAgg3
 z3:=Tryz.sizeOf3
 v3:=Tryz.zeroValue3
 t4:=Tryz.underlying4
 a4:=Tryz.isAgg4
 z4:=Tryz.sizeOf4
 v4:=Tryz.zeroValue4
 t5:=Tryz.underlying5
 a5:=Tryz.isAgg5
 z5:=Tryz.sizeOf5
 v5:=Tryz.zeroValue5
 t9:=Tryz.underlying9
 a9:=Tryz.isAgg9
 z9:=Tryz.sizeOf9
 v9:=Tryz.zeroValue9
 t46:=Tryz.underlying219
 a46:=Tryz.isAgg219
 z46:=Tryz.sizeOf219
 v46:=Tryz.zeroValue219
 t51:=Tryz.underlying289
 a51:=Tryz.isAgg289
 z51:=Tryz.sizeOf289
 v51:=Tryz.zeroValue289
 t146:=Tryz.underlying304
 a146:=Tryz.isAgg304
 z146:=Tryz.sizeOf304
 v146:=Tryz.zeroValue304
 g1:=by kernel_rfl }
open Go.RowKit Go.Lib in
theorem Tryz.strings_Contains(s sub:ByteArray)(m:Int)(w:World)(hs:s.size<4294967281)(hm:w.cell? ⟨1,0,none⟩=some (.int .i64 m)):
  Calls Tryz.prog 281 #[.string s,.string sub] w fun e w'=>e=.returned (.bool (Lib.contains s.data.toList sub.data.toList))∧w'=w:=Any.strings_Contains Tryz.lays144 s sub m w hs hm
end Go.Proofs
namespace Go.Proofs.YtlobiioioicmhaaGreatDoor
open _root_.Bool renaming not_true→Bv,not_false→Bf
open _root_.List renaming getElem?_eq_none→Bq,length_take→Bh
open _root_.Nat renaming le_refl→BL,zero_le→BN
open Go.Proofs.Tryz renaming prog→Tp
open Go Go.Ev
set_option maxRecDepth 20000
variable {γ:List (Nat×AV)}
def hasSub:List UInt8→List UInt8→Bool
 |[],sub=>sub.isEmpty
 |b::l,sub=>sub.isPrefixOf (b::l) || hasSub l sub
theorem contains_hasSub(s sub:List UInt8):Lib.contains s sub=hasSub s sub:=by
 unfold Lib.contains
 induction s with
 |nil=>unfold Lib.index hasSub;cases sub.isEmpty<;>rfl
 |cons b l ih=>
  unfold Lib.index hasSub;have hg:=Lib.index_ge l sub;rw[←ih];cases sub.isPrefixOf (b::l)with
  |true=>rfl
  |false=>
   simp only[Bool.false_eq_true,if_false,Bool.false_or]
   by_cases h:Lib.index l sub = -1
   ·simp[h]
   ·have:¬(Lib.index l sub == -1)=true:=by simpa using h
    rw[if_neg this];have h1:0≤Lib.index l sub:=by omega
    have h2:0≤Lib.index l sub+1:=by omega
    simp[h1,h2]
theorem contains_ev(m:Int)(hγ:Go.Ev.look γ 1=AV.ela false [.v (.int .i64 m)])(s sub:ByteArray)(hs:s.size<4294967281):Ev Tp γ 281 [.v (.string s),.v (.string sub)] (.v (.bool (hasSub s.data.toList sub.data.toList))):=by
 intro G B w vs hG hg hr;have hm:=(hg 1).2;rw[hγ]at hm;simp only[rel,relAt,Cx.shut]at hm;obtain⟨r,off,e1,_,⟨u,hc,rfl⟩,_⟩:=hm;cases e1;simp only[relL,rel]at hr;obtain⟨u1,us,e1,rfl,u2,us2,rfl,rfl,rfl⟩:=hr;obtain rfl:vs = #[.string s,.string sub]:=by cases vs;simp_all
 refine (Go.Proofs.Tryz.strings_Contains s sub m w hs hc).mono ?_
 rintro e w' ⟨rfl,rfl⟩
 refine⟨_,rfl,?_,Go.RowKit.Below.refl _ _⟩;rw[contains_hasSub];simp only[rel]
theorem b75:bodyT Tp 281:=⟨_,Tryz.func281,by kernel_rfl,by kernel_rfl⟩
def dblL:List UInt8:=[61,61,32,33,61,32,60,61,32,62,61,32,38,38,32,124,124,32,45,62]
def sglL:List UInt8:=[40,41,123,125,44,59,58,46,38,43,45,42,47,37,60,62,33,61,95]
def markN(l:List UInt8):Nat:=if 1<l.length∧atL l 0≠32∧atL l 1≠32∧hasSub dblL (l.take 2)=true then 2 else if 0≤Lib.indexByte sglL (atL l 0).toUInt8 then 1 else 0
def markA(l:List UInt8):AV:=if markN l=0 then tokA 0 [] 0 f0 0 0 else tokA 5 (l.take (markN l)) 0 f0 0 (markN l)
set_option maxRecDepth 20000 in
theorem lexMark_ev(m:Int)(hγ:Go.Ev.look γ 1=AV.ela false [.v (.int .i64 m)])(b:Bool)(l:List UInt8)(h1:1≤l.length)(hl:l.length≤140737488355328):Ev Tp γ 244 [.sl b l.length l.length (l.map byteC)] (markA l):=by
 refine Ev.of Tryz.func244 rfl ?_;have ea:∀ j,(l.getD j 0).toNat=atL l j:=fun _=>rfl
 have t0:take1 (l.map byteC)=some (.v (.int .u8 (atL l 0))):=by
  have:=take1_byte (l:=l) (n:=0) (by omega);rw[List.drop_zero]at this;rw[this];simp[atL,List.getD,List.getElem?_eq_getElem (show 0<l.length by omega)]
 simp only[Tryz.f244,evS,tyS,Nat.reduceAdd,Nat.reduceSub,Nat.reduceLT,Nat.reduceEqDiff,reduceCtorEq]
 (repeat' (first|(with_reducible refine aI ?_ ?_)|(first|(first|refine gF ?_ ?_|refine gT ?_ ?_|refine cI ?_ ?_|refine pI ?_ ?_)<;>intro h|(refine dI ?_;have h:=trivial))<;>simp only[h,ea,t0,evS,tyS,Nat.reduceLT,Nat.reduceEqDiff,reduceCtorEq,Int.reduceToNat,Int.reduceLE,Bv,Bf,Nat.reduceAdd,Nat.reduceSub,Nat.reduceMul,Nat.reduceLeDiff,List.reduceReplicate,Int.reduceLT]))
 all_goals try (((try simp only[decide_eq_true_eq,decide_eq_false_iff_not,bne_iff_ne,ne_eq,bne_eq_false_iff_eq]at *)<;>(try omega));done)
 all_goals try
  (refine CallK.intro b75 rfl (contains_ev m hγ _ _ (by decide)) ?_
   simp only[evS,Nat.reduceLT,Nat.reduceEqDiff,reduceCtorEq];refine CondK.intro (fun h=>?_) (fun h=>?_)<;>simp only[h,t0,evS,tyS,Nat.reduceAdd,Nat.reduceLT,Nat.reduceLeDiff,Nat.reduceEqDiff,reduceCtorEq,Int.reduceToNat,Int.reduceLE])
 all_goals try refine⟨by omega,?_⟩
 all_goals try
  (refine CallK.intro b76 rfl (strings_IndexByte_ev _ _) ?_
   simp only[evS,Nat.reduceLT,Nat.reduceEqDiff,reduceCtorEq];refine CondK.intro (fun h=>?_) (fun h=>?_)<;>simp only[h,evS,tyS,Nat.reduceAdd,Nat.reduceLT,Nat.reduceLeDiff,Nat.reduceEqDiff,reduceCtorEq,Int.reduceToNat,Int.reduceLE])
 all_goals try refine⟨by omega,?_⟩
 all_goals try refine⟨by omega,?_⟩
 all_goals ((try simp only[decide_eq_true_eq,decide_eq_false_iff_not,bne_iff_ne,ne_eq,bne_eq_false_iff_eq]at *)<;>(try omega))
 all_goals try refine⟨⟨by omega,by omega⟩,by omega,?_⟩
 all_goals first
  |(have hm:markN l=2:=by rw[markN,if_pos ⟨by omega,by omega,by omega,by unfold dblL;assumption⟩]
    rw[markA,hm,if_neg (by omega)];simp only[tokA,f0,evS];first|done|rfl)
  |(have hm:markN l=1:=by rw[markN,if_neg (by rintro⟨g1,g2,g3,g4⟩;first|omega|(have g5:hasSub dblL (l.take 2)=false:=(by unfold dblL;assumption);rw[g5]at g4;cases g4)),if_pos (by unfold sglL;assumption)]
    rw[markA,hm,if_neg (by omega)];simp only[tokA,f0,evS];first|done|rfl)
  |(have hm:markN l=0:=by rw[markN,if_neg (by rintro⟨g1,g2,g3,g4⟩;first|omega|(have g5:hasSub dblL (l.take 2)=false:=(by unfold dblL;assumption);rw[g5]at g4;cases g4)),if_neg (by unfold sglL;assumption)]
    rw[markA,hm,if_pos rfl];simp only[tokA,f0,evS];first|done|rfl)
  |trace_state
end Go.Proofs.YtlobiioioicmhaaGreatDoor
namespace Go.Proofs
open Go.Shelf
def Tryz.laysC245_ren:Go.Shelf.Ren:=⟨fun|245=>170|279=>227|280=>228|281=>229|282=>230|316=>267|171=>174|205=>268|243=>236|246=>171|283=>231|284=>232|285=>233|286=>234|129=>270|317=>269|318=>271|319=>272|320=>273|337=>295|338=>296|n=>n,fun|9=>9|3=>3|75=>169|167=>260|4=>4|168=>261|210=>285|37=>37|0=>0|127=>252|145=>308|143=>306|2=>2|171=>264|53=>176|5=>5|173=>267|212=>288|51=>289|20=>20|213=>290|46=>219|232=>312|233=>313|80=>140|n=>n,fun|15=>2|16=>3|17=>4|18=>5|19=>6|n=>n⟩
theorem Tryz.laysC245:Go.Proofs.LaysC.n245 Tryz.prog Tryz.laysC245_ren:={
 mixed:=by kernel_rfl
 f129:=Tryz.func270.trans (congrArg some (by kernel_rfl))
 f171:=Tryz.func174.trans (congrArg some (by kernel_rfl))
 f205:=Tryz.func268.trans (congrArg some (by kernel_rfl))
 f243:=Tryz.func236.trans (congrArg some (by kernel_rfl))
 f245:=Tryz.func170.trans (congrArg some (by kernel_rfl))
 f246:=Tryz.func171.trans (congrArg some (by kernel_rfl))
 f279:=Tryz.func227.trans (congrArg some (by kernel_rfl))
 f280:=Tryz.func228.trans (congrArg some (by kernel_rfl))
 f281:=Tryz.func229.trans (congrArg some (by kernel_rfl))
 f282:=Tryz.func230.trans (congrArg some (by kernel_rfl))
 f283:=Tryz.func231.trans (congrArg some (by kernel_rfl))
 f284:=Tryz.func232.trans (congrArg some (by kernel_rfl))
 f285:=Tryz.func233.trans (congrArg some (by kernel_rfl))
 f286:=Tryz.func234.trans (congrArg some (by kernel_rfl))
 f316:=Tryz.func267.trans (congrArg some (by kernel_rfl))
 f317:=Tryz.func269.trans (congrArg some (by kernel_rfl))
 f318:=Tryz.func271.trans (congrArg some (by kernel_rfl))
 f319:=Tryz.func272.trans (congrArg some (by kernel_rfl))
 f320:=Tryz.func273.trans (congrArg some (by kernel_rfl))
 f337:=Tryz.func295.trans (congrArg some (by kernel_rfl))
 f338:=Tryz.func296.trans (congrArg some (by kernel_rfl))
 t0:=Tryz.underlying0
 a0:=Tryz.isAgg0
 z0:=Tryz.sizeOf0
 v0:=Tryz.zeroValue0
 t2:=Tryz.underlying2
 a2:=Tryz.isAgg2
 z2:=Tryz.sizeOf2
 v2:=Tryz.zeroValue2
 t3:=Tryz.underlying3
 a3:=Tryz.isAgg3
 z3:=Tryz.sizeOf3
 v3:=Tryz.zeroValue3
 t4:=Tryz.underlying4
 a4:=Tryz.isAgg4
 z4:=Tryz.sizeOf4
 v4:=Tryz.zeroValue4
 t5:=Tryz.underlying5
 a5:=Tryz.isAgg5
 z5:=Tryz.sizeOf5
 v5:=Tryz.zeroValue5
 t9:=Tryz.underlying9
 a9:=Tryz.isAgg9
 z9:=Tryz.sizeOf9
 v9:=Tryz.zeroValue9
 t20:=Tryz.underlying20
 a20:=Tryz.isAgg20
 z20:=Tryz.sizeOf20
 v20:=Tryz.zeroValue20
 t37:=Tryz.underlying37
 a37:=Tryz.isAgg37
 z37:=Tryz.sizeOf37
 v37:=Tryz.zeroValue37
 t46:=Tryz.underlying219
 a46:=Tryz.isAgg219
 z46:=Tryz.sizeOf219
 v46:=Tryz.zeroValue219
 t51:=Tryz.underlying289
 a51:=Tryz.isAgg289
 z51:=Tryz.sizeOf289
 v51:=Tryz.zeroValue289
 t53:=Tryz.underlying176
 a53:=Tryz.isAgg176
 z53:=Tryz.sizeOf176
 v53:=Tryz.zeroValue176
 t75:=Tryz.underlying169
 a75:=Tryz.isAgg169
 z75:=Tryz.sizeOf169
 v75:=Tryz.zeroValue169
 t127:=Tryz.underlying252
 a127:=Tryz.isAgg252
 z127:=Tryz.sizeOf252
 v127:=Tryz.zeroValue252
 t143:=Tryz.underlying306
 a143:=Tryz.isAgg306
 z143:=Tryz.sizeOf306
 v143:=Tryz.zeroValue306
 t145:=Tryz.underlying308
 a145:=Tryz.isAgg308
 z145:=Tryz.sizeOf308
 v145:=Tryz.zeroValue308
 t167:=Tryz.underlying260
 a167:=Tryz.isAgg260
 z167:=Tryz.sizeOf260
 v167:=Tryz.zeroValue260
 t168:=Tryz.underlying261
 a168:=Tryz.isAgg261
 z168:=Tryz.sizeOf261
 v168:=Tryz.zeroValue261
 t171:=Tryz.underlying264
 a171:=Tryz.isAgg264
 z171:=Tryz.sizeOf264
 v171:=Tryz.zeroValue264
 t173:=Tryz.underlying267
 a173:=Tryz.isAgg267
 z173:=Tryz.sizeOf267
 v173:=Tryz.zeroValue267
 t210:=Tryz.underlying285
 a210:=Tryz.isAgg285
 z210:=Tryz.sizeOf285
 v210:=Tryz.zeroValue285
 t212:=Tryz.underlying288
 a212:=Tryz.isAgg288
 z212:=Tryz.sizeOf288
 v212:=Tryz.zeroValue288
 t213:=Tryz.underlying290
 a213:=Tryz.isAgg290
 z213:=Tryz.sizeOf290
 t232:=Tryz.underlying312
 a232:=Tryz.isAgg312
 z232:=Tryz.sizeOf312
 v232:=Tryz.zeroValue312
 t233:=Tryz.underlying313
 a233:=Tryz.isAgg313
 z233:=Tryz.sizeOf313
 v233:=Tryz.zeroValue313
 g15:=by kernel_rfl
 g16:=by kernel_rfl
 g17:=by kernel_rfl
 g18:=by kernel_rfl
 g19:=by kernel_rfl
 t80:=Tryz.underlying140
 a80:=Tryz.isAgg140
 z80:=Tryz.sizeOf140
 v80:=Tryz.zeroValue140
 i0:=by kernel_rfl
 i2:=by kernel_rfl
 i3:=by kernel_rfl
 i4:=by kernel_rfl
 i5:=by kernel_rfl
 i9:=by kernel_rfl
 i20:=by kernel_rfl
 i37:=by kernel_rfl
 i46:=by kernel_rfl
 i51:=by kernel_rfl
 i53:=by kernel_rfl
 i75:=by kernel_rfl
 i80:=by kernel_rfl
 i127:=by kernel_rfl
 i143:=by kernel_rfl
 i145:=by kernel_rfl
 i167:=by kernel_rfl
 i168:=by kernel_rfl
 i171:=by kernel_rfl
 i173:=by kernel_rfl
 i210:=by kernel_rfl
 i212:=by kernel_rfl
 i232:=by kernel_rfl
 i233:=by kernel_rfl
 m15:=by kernel_rfl
 m16:=by kernel_rfl
 m17:=by kernel_rfl
 m18:=by kernel_rfl
 m19:=by kernel_rfl
 c0:=by kernel_rfl
 c2:=by kernel_rfl
 c3:=by kernel_rfl
 c4:=by kernel_rfl
 c5:=by kernel_rfl
 c9:=by kernel_rfl
 c20:=by kernel_rfl
 c37:=by kernel_rfl
 c46:=by kernel_rfl
 c51:=by kernel_rfl
 c53:=by kernel_rfl
 c75:=by kernel_rfl
 c80:=by kernel_rfl
 c127:=by kernel_rfl
 c143:=by kernel_rfl
 c145:=by kernel_rfl
 c167:=by kernel_rfl
 c168:=by kernel_rfl
 c171:=by kernel_rfl
 c173:=by kernel_rfl
 c210:=by kernel_rfl
 c212:=by kernel_rfl
 c213:=by kernel_rfl
 c232:=by kernel_rfl
 c233:=by kernel_rfl }
end Go.Proofs
namespace Go.Proofs.YtlobiioioicmhaaGreatDoor
open _root_.Bool renaming not_true→Bv,not_false→Bf
open _root_.List renaming getElem?_eq_none→Bq,length_take→Bh
open _root_.Nat renaming le_refl→BL,zero_le→BN
open Go.Proofs.Tryz renaming prog→Tp
open Go Go.Ev
set_option maxRecDepth 20000
variable {γ:List (Nat×AV)}
def Gl(γ:List (Nat×AV)):Prop:=(∃ m,Go.Ev.look γ 1=AV.ela false [AV.v (.int .i64 m)])∧∃ te pe,Go.Ev.look γ 3=AV.ela false [AV.v (.iface te pe)]
theorem toError_ev(hγ:Gl γ)(fn s:ByteArray)(hs:s.size≤281474976710656)(b n:Int):Ev Tp γ 170 [.v (.string fn),.v (.string s),.v (.int .i64 b),.v (.int .i64 n),.ifc 260 (.v (.int .i64 1))] (.ifc 261 .bad):=by
 intro G B w vs hG hg hr;obtain⟨te,pe,h4⟩:=hγ.2;have hm:=(hg 3).2;rw[h4]at hm;simp only[rel,relAt,Cx.shut]at hm;obtain⟨r,off,e1,_,⟨u,hc,rfl⟩,_⟩:=hm;cases e1;simp only[relL,rel]at hr;obtain⟨u1,us,e1,rfl,u2,us2,rfl,rfl,u3,us3,rfl,rfl,u4,us4,rfl,rfl,u5,us5,rfl,⟨y,rfl,rfl⟩,rfl⟩:=hr;obtain rfl:vs = #[.string fn,.string s,.int .i64 b,.int .i64 n,.iface 260 (.int .i64 1)]:=by cases vs;simp_all
 refine (Any.strconv_toError_range Go.Proofs.Tryz.laysC245 fn s b n (.iface te pe) w hs hc (.inr ⟨_,_,rfl⟩)).mono ?_
 rintro e w' ⟨N,rfl,_,_,hb⟩
 refine⟨_,rfl,?_,hb⟩;simp only[rel];exact⟨_,rfl,trivial⟩
def intR(l:List UInt8):AV:=if decV l<9223372036854775808 then .tup [.v (.int .i64 (decV l)),.v .nilIface]else .tup [.v (.int .i64 9223372036854775807),.ifc 260 (.v (.int .i64 1))]
theorem b109:bodyT Tp 223:=⟨_,Tryz.func223,by kernel_rfl,by kernel_rfl⟩
theorem b90:bodyT Tp 169:=⟨_,Tryz.func169,by kernel_rfl,by kernel_rfl⟩
theorem b91:bodyT Tp 170:=⟨_,Tryz.func170,by kernel_rfl,by kernel_rfl⟩
theorem b59:bodyT Tp 100:=⟨_,Tryz.func100,by kernel_rfl,by kernel_rfl⟩
set_option maxRecDepth 20000 in
theorem parseInt_ev(l:List UInt8)(h1:1≤l.length)(hl:l.length≤140737488351232)(hd:∀ j,j<l.length→digitN (atL l j)=true):
  Ev Tp γ 169 [.v (.string ⟨l.toArray⟩),.v (.int .i64 10),.v (.int .i64 64)] (intR l):=by
 refine Ev.of Tryz.func169 rfl ?_
 have hne:(l==([]:List UInt8))=false:=by
  cases l with
  |nil=>simp at h1
  |cons=>rfl
 have hd0:48≤atL l 0∧atL l 0≤57:=by simpa[digitN]using hd 0 (by omega)
 have ea:∀ j,(l.getD j 0).toNat=atL l j:=fun _=>rfl
 have n43:((atL l 0:Int)==43)=false:=by simp;omega
 have n45:((atL l 0:Int)==45)=false:=by simp;omega
 have h640:((64:Int)==0)=false:=by decide
 have w63:IntKind.u64.wrap 63=63:=by rw[u64w]<;>omega
 have w631:IntKind.i64.wrap (64-1)=63:=by decide
 have wsh:IntKind.u64.wrap (1 * 2^min (Int.toNat 63) IntKind.u64.bits)=9223372036854775808:=by decide
 have wsh':IntKind.u64.wrap (1 * 2^min 63 IntKind.u64.bits)=9223372036854775808:=by decide
 have wm1:IntKind.u64.wrap (9223372036854775808-1)=9223372036854775807:=by decide
 have wm2:IntKind.i64.wrap 9223372036854775807=9223372036854775807:=by decide
 simp only[Tryz.f169,hne,ea,n43,n45,evS,tyS,Nat.reduceAdd,Nat.reduceSub,Nat.reduceLT,Nat.reduceEqDiff,reduceCtorEq,Int.reduceLE]
 (repeat' (first|(with_reducible refine aI ?_ ?_)|(first|(first|refine gF ?_ ?_|refine gT ?_ ?_|refine cI ?_ ?_|refine pI ?_ ?_)<;>intro h|(refine dI ?_;have h:=trivial))<;>simp only[h,tyP,tyQ,hne,ea,n43,n45,evS,tyS,Bv,Bf,Nat.reduceAdd,Nat.reduceSub,Nat.reduceMul,Nat.reduceLT,Nat.reduceLeDiff,Nat.reduceEqDiff,reduceCtorEq,List.reduceReplicate,Int.reduceToNat,Int.reduceLE,Int.reduceLT]))
 all_goals try (((try simp only[ne_eq,beq_eq_false_iff_ne]at *)<;>(try omega));done)
 refine CallK.intro b109 rfl (parseUint_ev l h1 hl hd) ?_
 by_cases h64:decV l<18446744073709551616
 ·rw[uintR,if_pos h64]
  by_cases h63:decV l<9223372036854775808
  ·have e1:IntKind.i64.wrap (decV l:Int)=decV l:=by rw[i64w]<;>omega
   have e2:(decide (9223372036854775808≤(decV l:Int)))=false:=by simp;omega
   rw[intR,if_pos h63];simp only[tyP,h640,w63,w631,wsh',e1,e2,evS,tyS,Bv,Bf,Nat.reduceLT,Nat.reduceEqDiff,reduceCtorEq,Int.reduceToNat,Int.reduceLE]
   (repeat' (first|(with_reducible refine aI ?_ ?_)|(first|(first|refine gF ?_ ?_|refine gT ?_ ?_|refine cI ?_ ?_|refine pI ?_ ?_)<;>intro h|(refine dI ?_;have h:=trivial))<;>simp only[h,tyP,tyQ,hne,ea,h640,w63,w631,wsh,wsh',wm1,wm2,e1,e2,evS,tyS,Bv,Bf,Nat.reduceAdd,Nat.reduceSub,Nat.reduceMul,Nat.reduceLT,Nat.reduceLeDiff,Nat.reduceEqDiff,reduceCtorEq,List.reduceReplicate,Int.reduceToNat,Int.reduceLE,Int.reduceLT]))
   all_goals try (((try simp only[decide_eq_true_eq,decide_eq_false_iff_not,beq_iff_eq,bne_iff_ne,ne_eq,beq_eq_false_iff_ne,bne_eq_false_iff_eq]at *)<;>(try omega));done)
  ·have e2:(decide (9223372036854775808≤(decV l:Int)))=true:=by simp;omega
   rw[intR,if_neg h63];simp only[tyP,h640,w63,w631,wsh',wm1,wm2,e2,evS,tyS,Bv,Bf,Nat.reduceLT,Nat.reduceEqDiff,reduceCtorEq,Int.reduceToNat,Int.reduceLE]
   (repeat' (first|(with_reducible refine aI ?_ ?_)|(first|(first|refine gF ?_ ?_|refine gT ?_ ?_|refine cI ?_ ?_|refine pI ?_ ?_)<;>intro h|(refine dI ?_;have h:=trivial))<;>simp only[h,tyP,tyQ,hne,ea,h640,w63,w631,wsh,wsh',wm1,wm2,e2,evS,tyS,Bv,Bf,Nat.reduceAdd,Nat.reduceSub,Nat.reduceMul,Nat.reduceLT,Nat.reduceLeDiff,Nat.reduceEqDiff,reduceCtorEq,List.reduceReplicate,Int.reduceToNat,Int.reduceLE,Int.reduceLT]))
   all_goals try (((try simp only[decide_eq_true_eq,decide_eq_false_iff_not,beq_iff_eq,bne_iff_ne,ne_eq,beq_eq_false_iff_ne,bne_eq_false_iff_eq]at *)<;>(try omega));done)
 ·rw[uintR,if_neg h64,intR,if_neg (by omega)];simp only[tyP,tyQ,h640,w63,w631,wsh',wm1,wm2,evS,tyS,Bv,Bf,Nat.reduceLT,Nat.reduceEqDiff,reduceCtorEq,Int.reduceToNat,Int.reduceLE]
  (repeat' (first|(with_reducible refine aI ?_ ?_)|(first|(first|refine gF ?_ ?_|refine gT ?_ ?_|refine cI ?_ ?_|refine pI ?_ ?_)<;>intro h|(refine dI ?_;have h:=trivial))<;>simp only[h,tyP,tyQ,hne,ea,h640,w63,w631,wsh,wsh',wm1,wm2,evS,tyS,Bv,Bf,Nat.reduceAdd,Nat.reduceSub,Nat.reduceMul,Nat.reduceLT,Nat.reduceLeDiff,Nat.reduceEqDiff,reduceCtorEq,List.reduceReplicate,Int.reduceToNat,Int.reduceLE,Int.reduceLT]))
  all_goals try (((try simp only[decide_eq_true_eq,decide_eq_false_iff_not,beq_iff_eq,bne_iff_ne,ne_eq,beq_eq_false_iff_ne,bne_eq_false_iff_eq]at *)<;>(try omega));done)
def int59R(l:List UInt8):AV:=if decV l<9223372036854775808 then .tup [.v (.int .i64 (decV l)),.v .nilIface]else .tup [.v (.int .i64 9223372036854775807),.ifc 261 .bad]
set_option maxRecDepth 20000 in
theorem parseInt59_ev(hγ:Gl γ)(l:List UInt8)(h1:1≤l.length)(hl:l.length≤140737488351232)(hd:∀ j,j<l.length→digitN (atL l j)=true):
  Ev Tp γ 100 [.v (.string ⟨l.toArray⟩),.v (.int .i64 10),.v (.int .i64 64)] (int59R l):=by
 refine Ev.of Tryz.func100 rfl ?_;simp only[Tryz.f100,evS,Nat.reduceAdd,Nat.reduceSub,Nat.reduceLT,Nat.reduceEqDiff,reduceCtorEq];refine CallK.intro b90 rfl (parseInt_ev l h1 hl hd) ?_
 by_cases h63:decV l<9223372036854775808
 ·rw[intR,if_pos h63,int59R,if_pos h63];simp only[tyP,evS,Bv,Nat.reduceLT,Nat.reduceEqDiff,reduceCtorEq]
  (repeat' (first|(with_reducible refine aI ?_ ?_)|(first|(first|refine gF ?_ ?_|refine gT ?_ ?_|refine cI ?_ ?_|refine pI ?_ ?_)<;>intro h|(refine dI ?_;have h:=trivial))<;>simp only[h,tyP,tyQ,evS,tyS,Bv,Bf,Nat.reduceAdd,Nat.reduceSub,Nat.reduceMul,Nat.reduceLT,Nat.reduceLeDiff,Nat.reduceEqDiff,reduceCtorEq,List.reduceReplicate,Int.reduceToNat,Int.reduceLE,Int.reduceLT]))
  all_goals try (((try simp only[decide_eq_true_eq,decide_eq_false_iff_not,beq_iff_eq,bne_iff_ne,ne_eq,beq_eq_false_iff_ne,bne_eq_false_iff_eq]at *)<;>(try omega));done)
 ·rw[intR,if_neg h63,int59R,if_neg h63];simp only[tyP,evS,Bf,Nat.reduceLT,Nat.reduceEqDiff,reduceCtorEq];refine CallK.intro b91 rfl (toError_ev hγ _ _ (by show l.toArray.size≤_;rw[List.size_toArray];omega) _ _) ?_;simp only[evS,Nat.reduceLT,Nat.reduceEqDiff,reduceCtorEq]
  (repeat' (first|(with_reducible refine aI ?_ ?_)|(first|(first|refine gF ?_ ?_|refine gT ?_ ?_|refine cI ?_ ?_|refine pI ?_ ?_)<;>intro h|(refine dI ?_;have h:=trivial))<;>simp only[h,tyP,tyQ,evS,tyS,Bv,Bf,Nat.reduceAdd,Nat.reduceSub,Nat.reduceMul,Nat.reduceLT,Nat.reduceLeDiff,Nat.reduceEqDiff,reduceCtorEq,List.reduceReplicate,Int.reduceToNat,Int.reduceLE,Int.reduceLT]))
  all_goals try (((try simp only[decide_eq_true_eq,decide_eq_false_iff_not,beq_iff_eq,bne_iff_ne,ne_eq,beq_eq_false_iff_ne,bne_eq_false_iff_eq]at *)<;>(try omega));done)
def decR(l:List UInt8)(most:Int):AV:=if 1<l.length∧atL l 0=48 then .tup [.v (.int .i64 0),.v (.bool false)]else if decV l<9223372036854775808 then .tup [.v (.int .i64 (decV l)),.v (.bool (decide ((decV l:Int)≤most)))]else .tup [.v (.int .i64 9223372036854775807),.v (.bool false)]
set_option maxRecDepth 20000 in
theorem lexDecimal_ev(hγ:Gl γ)(b:Bool)(l:List UInt8)(most:Int)(h1:1≤l.length)(hl:l.length≤140737488351232)(hd:∀ j,j<l.length→digitN (atL l j)=true):
  Ev Tp γ 279 [.sl b l.length l.length (l.map byteC),.v (.int .i64 most)] (decR l most):=by
 refine Ev.of Tryz.func279 rfl ?_
 have t0:take1 (l.map byteC)=some (.v (.int .u8 (atL l 0))):=by
  have:=take1_byte (l:=l) (n:=0) (by omega);rw[List.drop_zero]at this;rw[this];simp[atL,List.getD,List.getElem?_eq_getElem (show 0<l.length by omega)]
 simp only[Tryz.f279,evS,tyS,Nat.reduceAdd,Nat.reduceSub,Nat.reduceLT,Nat.reduceEqDiff,reduceCtorEq]
 (repeat' (first|(with_reducible refine aI ?_ ?_)|(first|(first|refine gF ?_ ?_|refine gT ?_ ?_|refine cI ?_ ?_|refine pI ?_ ?_)<;>intro h|(refine dI ?_;have h:=trivial))<;>simp only[h,t0,evS,tyS,Nat.reduceLT,Nat.reduceEqDiff,reduceCtorEq,Int.reduceLE,Bv,Bf,Nat.reduceAdd,Nat.reduceSub,Nat.reduceMul,Nat.reduceLeDiff,List.reduceReplicate,Int.reduceToNat,Int.reduceLT]))
 all_goals try (((try simp only[decide_eq_true_eq,decide_eq_false_iff_not,beq_iff_eq,ne_eq,beq_eq_false_iff_ne]at *)<;>(try omega));done)
 ·((try simp only[decide_eq_true_eq,beq_iff_eq]at *)<;>(try omega))
  rw[decR,if_pos (by omega)];simp only[evS]
 all_goals
  (have hz:¬(1<l.length∧atL l 0=48):=by ((try simp only[decide_eq_true_eq,decide_eq_false_iff_not,ne_eq,beq_eq_false_iff_ne]at *)<;>(try omega))
   refine CallK.intro b59 rfl (parseInt59_ev hγ l h1 hl hd) ?_
   by_cases h63:decV l<9223372036854775808
   ·rw[int59R,if_pos h63,decR,if_neg hz,if_pos h63];simp only[tyP,evS,Nat.reduceLT,Nat.reduceEqDiff,reduceCtorEq]
   ·rw[int59R,if_neg h63,decR,if_neg hz,if_neg h63];simp only[tyP,evS,Nat.reduceLT,Nat.reduceEqDiff,reduceCtorEq])
end Go.Proofs.YtlobiioioicmhaaGreatDoor
