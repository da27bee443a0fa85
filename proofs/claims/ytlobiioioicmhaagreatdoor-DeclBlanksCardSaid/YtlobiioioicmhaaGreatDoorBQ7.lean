/- A part of the proof. -/
import Derived.Test.YtlobiioioicmhaaGreatDoorBQ6
import Derived.Test.YtlobiioioicmhaaGreatDoorBU8
import Derived.KernelRfl
import Derived.Test.YtlobiioioicmhaaGreatDoorProg
set_option linter.all false
set_option maxHeartbeats 8000000
namespace Go.Proofs.YtlobiioioicmhaaGreatDoor
open _root_.Bool renaming not_true→Bv,not_false→Bf
open _root_.List renaming getElem?_eq_some_iff→Bs,getElem?_append_left→Ba,getElem?_append_right→Br,getElem?_set_self→Be,getElem?_set_ne→Bn,length_append→Bp,cons_append→Bc,getElem?_cons_zero→Bz,getElem?_eq_none→Bq,take_of_length_le→Bt,length_drop→Bd,prefix_rfl→BB,length_cons→BC,length_nil→BD,flatMap_cons→BE,append_nil→BS
open _root_.Nat renaming le_refl→BL,le_trans→BM,lt_of_lt_of_le→BO
open Go.Proofs.Tryz renaming prog→Tp
open Go Go.Ev
set_option maxRecDepth 20000
variable {γ:List (Nat×AV)}
theorem itemsF_next{l:List UInt8}{i j:Nat}(h:nextT l i=nextT l j):∀ f,itemsF f l i=itemsF f l j
 |0=>rfl
 |f+1=>by rw[itemsF,itemsF,h]
def okI(x:TokD×Nat):(TokD×Nat)×Int:=(x,0)
def rscanA(l:List UInt8):AV:=
 match (eachItems l).find? badI with
 |none=>.tup [listA ((eachItems l).map fun x=>x.1),.v (.int .i64 0),.v (.int .i64 0)]
 |some x=>.tup [listA (((eachItems l).takeWhile fun x=> !badI x).map fun x=>x.1),.v (.int .i64 x.1.2),.v (.int .i64 x.2)]
theorem okI_not(x:TokD×Nat):badI (okI x)=false:=by simp[badI,okI]
theorem rscan_end{l:List UInt8}{toks:List (TokD×Nat)}(h:eachItems l=toks.map okI):rscanA l=.tup [listA toks,.v (.int .i64 0),.v (.int .i64 0)]:=by
 have h1:(toks.map okI).find? badI=none:=by
  rw[List.find?_eq_none];intro x hx;obtain⟨y,_,rfl⟩:=List.mem_map.1 hx;rw[okI_not];decide
 have h2:(toks.map okI).map (fun x=>x.1)=toks:=by
  rw[List.map_map];exact List.map_id' _
 unfold rscanA;rw[h,h1,h2]
theorem rscan_err{l:List UInt8}{toks:List (TokD×Nat)}{t:TokD}{p:Nat}{e:Int}(he:e≠0)(h:eachItems l=toks.map okI++[((t,p),e)]):rscanA l=.tup [listA toks,.v (.int .i64 p),.v (.int .i64 e)]:=by
 have hb:badI ((t,p),e)=true:=decide_eq_true he
 have h0:∀ L:List (TokD×Nat),(L.map okI++[((t,p),e)]).find? badI=some ((t,p),e)∧((L.map okI++[((t,p),e)]).takeWhile fun x=> !badI x)=L.map okI:=by
  intro L
  induction L with
  |nil=>simp[hb]
  |cons y L ih=>simp[okI_not,ih.1,ih.2]
 have h2:(toks.map okI).map (fun x=>x.1)=toks:=by
  rw[List.map_map];exact List.map_id' _
 unfold rscanA;rw[h,(h0 toks).1,(h0 toks).2,h2]
def rscanS(γ:List (Nat×AV))(l:List UInt8)(b:Bool):Nat×List (TokD×Nat)→St
 |(i,[])=>⟨⟨61,[(0,.sl b l.length l.length (l.map byteC)),(5,.v (.slice none 0 0)),(6,.v (.int .i64 i))],γ⟩,[]⟩
 |(i,y::T)=>⟨⟨61,[(0,.sl b l.length l.length (l.map byteC)),(5,.own 2 T.length (T.length+1)),(6,.v (.int .i64 i))],γ⟩,[⟨0,54,tokCells y⟩,⟨0,54,tokCells y⟩,⟨T.length,54,listCells (y::T)⟩]⟩
def rscanI(l:List UInt8)(a:Nat×List (TokD×Nat)):Prop:=a.1≤l.length∧∃ f,eachItems l=a.2.map okI++itemsF f l a.1∧l.length+1≤f+a.1
set_option maxRecDepth 20000 in
theorem refScan_ev(b:Bool)(l:List UInt8)(hl:l.length≤140737488351232):Ev Tp γ 41 [.sl b l.length l.length (l.map byteC)] (rscanA l):=by
 refine Ev.of Tryz.func41 rfl ?_;have ea:∀ j,(l.getD j 0).toNat=atL l j:=fun _=>rfl
 by_cases hbig:32768<l.length
 ·have hd:decide (32768<(l.length:Int))=true:=decide_eq_true (by omega);have hit:eachItems l=([]:List (TokD×Nat)).map okI++[((zeroT,0),3)]:=by unfold eachItems;rw[if_pos hbig];rfl
  rw[rscan_err (by decide) hit];simp only[Tryz.f41,hd,listA,evS,tyS,Nat.reduceAdd,Nat.reduceSub,Nat.reduceLT,Nat.reduceEqDiff,reduceCtorEq]
  (repeat' (first|(with_reducible refine aI ?_ ?_)|(first|(first|refine gF ?_ ?_|refine gT ?_ ?_|refine cI ?_ ?_|refine pI ?_ ?_)<;>intro h|(refine dI ?_;have h:=trivial))<;>simp only[h,evS,tyS,Bv,Bf,Nat.reduceAdd,Nat.reduceSub,Nat.reduceMul,Nat.reduceLT,Nat.reduceLeDiff,Nat.reduceEqDiff,reduceCtorEq,List.reduceReplicate,Int.reduceToNat,Int.reduceLE,Int.reduceLT]))
  all_goals first|done|rfl|trace_state
 ·have hd:decide (32768<(l.length:Int))=false:=decide_eq_false (by omega);have hit:eachItems l=itemsF (l.length+1) l 0:=by unfold eachItems;rw[if_neg hbig]
  simp only[Tryz.f41,hd,evS,tyS,Nat.reduceAdd,Nat.reduceSub,Nat.reduceLT,Nat.reduceEqDiff,reduceCtorEq];refine LoopK.intro (rscanS γ l b) (rscanI l) (fun a=>l.length-a.1) (0,[]) ?_ ⟨by simp,l.length+1,by simp[hit],by simp⟩ ?_
  ·simp only[rscanS,evS,Nat.reduceEqDiff,reduceCtorEq]
   (repeat' (first|(with_reducible refine aI ?_ ?_)|(first|(first|refine gF ?_ ?_|refine gT ?_ ?_|refine cI ?_ ?_|refine pI ?_ ?_)<;>intro h|(refine dI ?_;have h:=trivial))<;>simp only[h,evS,tyS,Bv,Bf,Nat.reduceAdd,Nat.reduceSub,Nat.reduceMul,Nat.reduceLT,Nat.reduceLeDiff,Nat.reduceEqDiff,reduceCtorEq,List.reduceReplicate,Int.reduceToNat,Int.reduceLE,Int.reduceLT]))
   all_goals first|rfl|exact .inl rfl|trace_state
  ·rintro⟨i,toks⟩ ⟨hi,f,hf,hfi⟩
   simp only at hi hf hfi
   by_cases hil:i<l.length
   ·have d1:decide (i<l.length)=true:=decide_eq_true hil;have ew:IntKind.i64.wrap ((i:Int)+1)=((i+1:Nat):Int):=i64w (by omega) (by omega)
    have k35:((atL l i:Int)==35)=decide (atL l i=35):=by
     by_cases h:atL l i=35
     ·simp[h]
     ·rw[decide_eq_false h];simp;omega
    cases hb:blankN (atL l i)with
    |true=>
     have hnx:nextT l i=nextT l (i+1):=by rw[nextT,gap_blank hil hb,nextT];omega
     cases toks with
     |nil=>
      simp only[rscanS,d1,ea,evS,tyS,Nat.reduceLT,Nat.reduceEqDiff,reduceCtorEq]
      (repeat' (first|(with_reducible refine aI ?_ ?_)|(first|(first|refine gF ?_ ?_|refine gT ?_ ?_|refine cI ?_ ?_|refine pI ?_ ?_)<;>intro h|(refine dI ?_;have h:=trivial))<;>simp only[h,ea,evS,tyS,Bv,Bf,Nat.reduceAdd,Nat.reduceSub,Nat.reduceMul,Nat.reduceLT,Nat.reduceLeDiff,Nat.reduceEqDiff,reduceCtorEq,List.reduceReplicate,Int.reduceToNat,Int.reduceLE,Int.reduceLT]))
      all_goals try (((try simp only[decide_eq_true_eq,decide_eq_false_iff_not]at *)<;>(try omega));done)
      refine CallK.intro b28 rfl (refBlank_ev _) ?_;simp only[hb,ew,evS,Nat.reduceLT,Nat.reduceEqDiff,reduceCtorEq];refine loopC.intro (i+1,[]) ⟨by simp only;omega,f,by simp only;rw[←itemsF_next hnx];exact hf,by simp only;omega⟩ ?_ (by simp only;omega);simp only[rscanS,evS,Nat.reduceEqDiff,reduceCtorEq]
      (repeat' (first|(with_reducible refine aI ?_ ?_)|(first|(first|refine gF ?_ ?_|refine gT ?_ ?_|refine cI ?_ ?_|refine pI ?_ ?_)<;>intro h|(refine dI ?_;have h:=trivial))<;>simp only[h,evS,tyS,Bv,Bf,Nat.reduceAdd,Nat.reduceSub,Nat.reduceMul,Nat.reduceLT,Nat.reduceLeDiff,Nat.reduceEqDiff,reduceCtorEq,List.reduceReplicate,Int.reduceToNat,Int.reduceLE,Int.reduceLT]))
      all_goals first|rfl|exact .inl rfl|trace_state
     |cons y T=>
      simp only[rscanS,d1,ea,evS,tyS,Nat.reduceLT,Nat.reduceEqDiff,reduceCtorEq]
      (repeat' (first|(with_reducible refine aI ?_ ?_)|(first|(first|refine gF ?_ ?_|refine gT ?_ ?_|refine cI ?_ ?_|refine pI ?_ ?_)<;>intro h|(refine dI ?_;have h:=trivial))<;>simp only[h,ea,evS,tyS,Bv,Bf,Nat.reduceAdd,Nat.reduceSub,Nat.reduceMul,Nat.reduceLT,Nat.reduceLeDiff,Nat.reduceEqDiff,reduceCtorEq,List.reduceReplicate,Int.reduceToNat,Int.reduceLE,Int.reduceLT]))
      all_goals try (((try simp only[decide_eq_true_eq,decide_eq_false_iff_not]at *)<;>(try omega));done)
      refine CallK.intro b28 rfl (refBlank_ev _) ?_;simp only[hb,ew,evS,Nat.reduceLT,Nat.reduceEqDiff,reduceCtorEq];refine loopC.intro (i+1,y::T) ⟨by simp only;omega,f,by simp only;rw[←itemsF_next hnx];exact hf,by simp only;omega⟩ ?_ (by simp only;omega);simp only[rscanS,evS,Nat.reduceAdd,Nat.reduceEqDiff,reduceCtorEq]
      (repeat' (first|(with_reducible refine aI ?_ ?_)|(first|(first|refine gF ?_ ?_|refine gT ?_ ?_|refine cI ?_ ?_|refine pI ?_ ?_)<;>intro h|(refine dI ?_;have h:=trivial))<;>simp only[h,evS,tyS,Bv,Bf,Nat.reduceAdd,Nat.reduceSub,Nat.reduceMul,Nat.reduceLT,Nat.reduceLeDiff,Nat.reduceEqDiff,reduceCtorEq,List.reduceReplicate,Int.reduceToNat,Int.reduceLE,Int.reduceLT]))
      all_goals first|rfl|exact .inl rfl|trace_state
    |false=>
     by_cases h35:atL l i=35
     ·have d35:decide (atL l i=35)=true:=decide_eq_true h35;cases toks with
      |nil=>
       simp only[rscanS,d1,ea,evS,tyS,Nat.reduceLT,Nat.reduceEqDiff,reduceCtorEq]
       (repeat' (first|(with_reducible refine aI ?_ ?_)|(first|(first|refine gF ?_ ?_|refine gT ?_ ?_|refine cI ?_ ?_|refine pI ?_ ?_)<;>intro h|(refine dI ?_;have h:=trivial))<;>simp only[h,ea,evS,tyS,Bv,Bf,Nat.reduceAdd,Nat.reduceSub,Nat.reduceMul,Nat.reduceLT,Nat.reduceLeDiff,Nat.reduceEqDiff,reduceCtorEq,List.reduceReplicate,Int.reduceToNat,Int.reduceLE,Int.reduceLT]))
       all_goals try (((try simp only[decide_eq_true_eq,decide_eq_false_iff_not]at *)<;>(try omega));done)
       refine CallK.intro b28 rfl (refBlank_ev _) ?_;simp only[hb,ea,k35,d35,evS,tyS,Nat.reduceLT,Nat.reduceEqDiff,reduceCtorEq]
       (repeat' (first|(with_reducible refine aI ?_ ?_)|(first|(first|refine gF ?_ ?_|refine gT ?_ ?_|refine cI ?_ ?_|refine pI ?_ ?_)<;>intro h|(refine dI ?_;have h:=trivial))<;>simp only[h,ea,k35,d35,evS,tyS,Bv,Bf,Nat.reduceAdd,Nat.reduceSub,Nat.reduceMul,Nat.reduceLT,Nat.reduceLeDiff,Nat.reduceEqDiff,reduceCtorEq,List.reduceReplicate,Int.reduceToNat,Int.reduceLE,Int.reduceLT]))
       all_goals try (((try simp only[decide_eq_true_eq,decide_eq_false_iff_not]at *)<;>(try omega));done)
       refine LoopK.intro (fun j:Nat=>rscanS γ l b (j,[])) (fun j=>i≤j∧j≤l.length∧nextT l i=j+gapL true (l.drop j)) (fun j=>l.length-j) i ?_ ⟨by omega,by omega,by rw[nextT,gap_com hil hb h35,←gap_in hil (by omega)]⟩ (fun j hj=>?_)
       ·simp only[rscanS,evS,Nat.reduceEqDiff,reduceCtorEq]
        (repeat' (first|(with_reducible refine aI ?_ ?_)|(first|(first|refine gF ?_ ?_|refine gT ?_ ?_|refine cI ?_ ?_|refine pI ?_ ?_)<;>intro h|(refine dI ?_;have h:=trivial))<;>simp only[h,evS,tyS,Bv,Bf,Nat.reduceAdd,Nat.reduceSub,Nat.reduceMul,Nat.reduceLT,Nat.reduceLeDiff,Nat.reduceEqDiff,reduceCtorEq,List.reduceReplicate,Int.reduceToNat,Int.reduceLE,Int.reduceLT]))
        all_goals first|rfl|exact .inl rfl|trace_state
       ·obtain⟨hj0,hj1,hj2⟩:=hj;have ej:IntKind.i64.wrap ((j:Int)+1)=((j+1:Nat):Int):=i64w (by omega) (by omega)
        have hend:(l.length≤j∨atL l j=10)→nextT l i=nextT l j∧i<j:=fun h=>by
         constructor
         ·rw[hj2,nextT]
          rcases h with h|h
          ·rw[gap_end h,gap_end h]
          ·by_cases hlt:j<l.length
           ·rw[gap_nl hlt h]
           ·rw[gap_end (by omega),gap_end (by omega)]
         ·by_cases hij:i<j
          ·exact hij
          ·have:j=i:=by omega
           subst this
           rcases h with h|h
           ·omega
           ·omega
        by_cases hjl:j<l.length
        ·have d2:decide (j<l.length)=true:=decide_eq_true hjl
         by_cases h10:atL l j=10
         ·have k10:((atL l j:Int) != 10)=false:=by rw[h10];decide
          obtain⟨hn1,hn2⟩:=hend (.inr h10);simp only[rscanS,d2,ea,k10,evS,tyS,Nat.reduceLT,Nat.reduceEqDiff,reduceCtorEq]
          (repeat' (first|(with_reducible refine aI ?_ ?_)|(first|(first|refine gF ?_ ?_|refine gT ?_ ?_|refine cI ?_ ?_|refine pI ?_ ?_)<;>intro h|(refine dI ?_;have h:=trivial))<;>simp only[h,ea,k10,evS,tyS,Bv,Bf,Nat.reduceAdd,Nat.reduceSub,Nat.reduceMul,Nat.reduceLT,Nat.reduceLeDiff,Nat.reduceEqDiff,reduceCtorEq,List.reduceReplicate,Int.reduceToNat,Int.reduceLE,Int.reduceLT]))
          all_goals try (((try simp only[decide_eq_true_eq,decide_eq_false_iff_not,bne_eq_false_iff_eq]at *)<;>(try omega));done)
          refine loopC.intro (j,[]) ⟨by simp only;omega,f,by simp only;rw[←itemsF_next hn1];exact hf,by simp only;omega⟩ ?_ (by simp only;omega);simp only[rscanS,evS,Nat.reduceEqDiff,reduceCtorEq]
          (repeat' (first|(with_reducible refine aI ?_ ?_)|(first|(first|refine gF ?_ ?_|refine gT ?_ ?_|refine cI ?_ ?_|refine pI ?_ ?_)<;>intro h|(refine dI ?_;have h:=trivial))<;>simp only[h,evS,tyS,Bv,Bf,Nat.reduceAdd,Nat.reduceSub,Nat.reduceMul,Nat.reduceLT,Nat.reduceLeDiff,Nat.reduceEqDiff,reduceCtorEq,List.reduceReplicate,Int.reduceToNat,Int.reduceLE,Int.reduceLT]))
          all_goals first|rfl|exact .inl rfl|trace_state
         ·have k10:((atL l j:Int) != 10)=true:=by simp;omega
          simp only[rscanS,d2,ea,k10,ej,evS,tyS,Nat.reduceLT,Nat.reduceEqDiff,reduceCtorEq]
          (repeat' (first|(with_reducible refine aI ?_ ?_)|(first|(first|refine gF ?_ ?_|refine gT ?_ ?_|refine cI ?_ ?_|refine pI ?_ ?_)<;>intro h|(refine dI ?_;have h:=trivial))<;>simp only[h,ea,k10,ej,evS,tyS,Bv,Bf,Nat.reduceAdd,Nat.reduceSub,Nat.reduceMul,Nat.reduceLT,Nat.reduceLeDiff,Nat.reduceEqDiff,reduceCtorEq,List.reduceReplicate,Int.reduceToNat,Int.reduceLE,Int.reduceLT]))
          all_goals try (((try simp only[decide_eq_true_eq,decide_eq_false_iff_not,bne_iff_ne,ne_eq]at *)<;>(try omega));done)
          refine loopC.intro (j+1) ⟨by omega,by omega,by rw[hj2,gap_in hjl h10];omega⟩ ?_ (by omega);simp only[evS,Nat.reduceEqDiff,reduceCtorEq]
          (repeat' (first|(with_reducible refine aI ?_ ?_)|(first|(first|refine gF ?_ ?_|refine gT ?_ ?_|refine cI ?_ ?_|refine pI ?_ ?_)<;>intro h|(refine dI ?_;have h:=trivial))<;>simp only[h,evS,tyS,Bv,Bf,Nat.reduceAdd,Nat.reduceSub,Nat.reduceMul,Nat.reduceLT,Nat.reduceLeDiff,Nat.reduceEqDiff,reduceCtorEq,List.reduceReplicate,Int.reduceToNat,Int.reduceLE,Int.reduceLT]))
          all_goals first|rfl|exact .inl rfl|trace_state
        ·have d2:decide (j<l.length)=false:=decide_eq_false hjl;obtain⟨hn1,hn2⟩:=hend (.inl (by omega));simp only[rscanS,d2,evS,tyS,Nat.reduceLT,Nat.reduceEqDiff,reduceCtorEq]
         (repeat' (first|(with_reducible refine aI ?_ ?_)|(first|(first|refine gF ?_ ?_|refine gT ?_ ?_|refine cI ?_ ?_|refine pI ?_ ?_)<;>intro h|(refine dI ?_;have h:=trivial))<;>simp only[h,ea,evS,tyS,Bv,Bf,Nat.reduceAdd,Nat.reduceSub,Nat.reduceMul,Nat.reduceLT,Nat.reduceLeDiff,Nat.reduceEqDiff,reduceCtorEq,List.reduceReplicate,Int.reduceToNat,Int.reduceLE,Int.reduceLT]))
         all_goals try (((try simp only[decide_eq_true_eq,decide_eq_false_iff_not]at *)<;>(try omega));done)
         refine loopC.intro (j,[]) ⟨by simp only;omega,f,by simp only;rw[←itemsF_next hn1];exact hf,by simp only;omega⟩ ?_ (by simp only;omega);simp only[rscanS,evS,Nat.reduceEqDiff,reduceCtorEq]
         (repeat' (first|(with_reducible refine aI ?_ ?_)|(first|(first|refine gF ?_ ?_|refine gT ?_ ?_|refine cI ?_ ?_|refine pI ?_ ?_)<;>intro h|(refine dI ?_;have h:=trivial))<;>simp only[h,evS,tyS,Bv,Bf,Nat.reduceAdd,Nat.reduceSub,Nat.reduceMul,Nat.reduceLT,Nat.reduceLeDiff,Nat.reduceEqDiff,reduceCtorEq,List.reduceReplicate,Int.reduceToNat,Int.reduceLE,Int.reduceLT]))
         all_goals first|rfl|exact .inl rfl|trace_state
      |cons y T=>
       simp only[rscanS,d1,ea,evS,tyS,Nat.reduceLT,Nat.reduceEqDiff,reduceCtorEq]
       (repeat' (first|(with_reducible refine aI ?_ ?_)|(first|(first|refine gF ?_ ?_|refine gT ?_ ?_|refine cI ?_ ?_|refine pI ?_ ?_)<;>intro h|(refine dI ?_;have h:=trivial))<;>simp only[h,ea,evS,tyS,Bv,Bf,Nat.reduceAdd,Nat.reduceSub,Nat.reduceMul,Nat.reduceLT,Nat.reduceLeDiff,Nat.reduceEqDiff,reduceCtorEq,List.reduceReplicate,Int.reduceToNat,Int.reduceLE,Int.reduceLT]))
       all_goals try (((try simp only[decide_eq_true_eq,decide_eq_false_iff_not]at *)<;>(try omega));done)
       refine CallK.intro b28 rfl (refBlank_ev _) ?_;simp only[hb,ea,k35,d35,evS,tyS,Nat.reduceLT,Nat.reduceEqDiff,reduceCtorEq]
       (repeat' (first|(with_reducible refine aI ?_ ?_)|(first|(first|refine gF ?_ ?_|refine gT ?_ ?_|refine cI ?_ ?_|refine pI ?_ ?_)<;>intro h|(refine dI ?_;have h:=trivial))<;>simp only[h,ea,k35,d35,evS,tyS,Bv,Bf,Nat.reduceAdd,Nat.reduceSub,Nat.reduceMul,Nat.reduceLT,Nat.reduceLeDiff,Nat.reduceEqDiff,reduceCtorEq,List.reduceReplicate,Int.reduceToNat,Int.reduceLE,Int.reduceLT]))
       all_goals try (((try simp only[decide_eq_true_eq,decide_eq_false_iff_not]at *)<;>(try omega));done)
       refine LoopK.intro (fun j:Nat=>rscanS γ l b (j,y::T)) (fun j=>i≤j∧j≤l.length∧nextT l i=j+gapL true (l.drop j)) (fun j=>l.length-j) i ?_ ⟨by omega,by omega,by rw[nextT,gap_com hil hb h35,←gap_in hil (by omega)]⟩ (fun j hj=>?_)
       ·simp only[rscanS,evS,Nat.reduceAdd,Nat.reduceEqDiff,reduceCtorEq]
        (repeat' (first|(with_reducible refine aI ?_ ?_)|(first|(first|refine gF ?_ ?_|refine gT ?_ ?_|refine cI ?_ ?_|refine pI ?_ ?_)<;>intro h|(refine dI ?_;have h:=trivial))<;>simp only[h,evS,tyS,Bv,Bf,Nat.reduceAdd,Nat.reduceSub,Nat.reduceMul,Nat.reduceLT,Nat.reduceLeDiff,Nat.reduceEqDiff,reduceCtorEq,List.reduceReplicate,Int.reduceToNat,Int.reduceLE,Int.reduceLT]))
        all_goals first|rfl|exact .inl rfl|trace_state
       ·obtain⟨hj0,hj1,hj2⟩:=hj;have ej:IntKind.i64.wrap ((j:Int)+1)=((j+1:Nat):Int):=i64w (by omega) (by omega)
        have hend:(l.length≤j∨atL l j=10)→nextT l i=nextT l j∧i<j:=fun h=>by
         constructor
         ·rw[hj2,nextT]
          rcases h with h|h
          ·rw[gap_end h,gap_end h]
          ·by_cases hlt:j<l.length
           ·rw[gap_nl hlt h]
           ·rw[gap_end (by omega),gap_end (by omega)]
         ·by_cases hij:i<j
          ·exact hij
          ·have:j=i:=by omega
           subst this
           rcases h with h|h
           ·omega
           ·omega
        by_cases hjl:j<l.length
        ·have d2:decide (j<l.length)=true:=decide_eq_true hjl
         by_cases h10:atL l j=10
         ·have k10:((atL l j:Int) != 10)=false:=by rw[h10];decide
          obtain⟨hn1,hn2⟩:=hend (.inr h10);simp only[rscanS,d2,ea,k10,evS,tyS,Nat.reduceLT,Nat.reduceEqDiff,reduceCtorEq]
          (repeat' (first|(with_reducible refine aI ?_ ?_)|(first|(first|refine gF ?_ ?_|refine gT ?_ ?_|refine cI ?_ ?_|refine pI ?_ ?_)<;>intro h|(refine dI ?_;have h:=trivial))<;>simp only[h,ea,k10,evS,tyS,Bv,Bf,Nat.reduceAdd,Nat.reduceSub,Nat.reduceMul,Nat.reduceLT,Nat.reduceLeDiff,Nat.reduceEqDiff,reduceCtorEq,List.reduceReplicate,Int.reduceToNat,Int.reduceLE,Int.reduceLT]))
          all_goals try (((try simp only[decide_eq_true_eq,decide_eq_false_iff_not,bne_eq_false_iff_eq]at *)<;>(try omega));done)
          refine loopC.intro (j,y::T) ⟨by simp only;omega,f,by simp only;rw[←itemsF_next hn1];exact hf,by simp only;omega⟩ ?_ (by simp only;omega);simp only[rscanS,evS,Nat.reduceAdd,Nat.reduceEqDiff,reduceCtorEq]
          (repeat' (first|(with_reducible refine aI ?_ ?_)|(first|(first|refine gF ?_ ?_|refine gT ?_ ?_|refine cI ?_ ?_|refine pI ?_ ?_)<;>intro h|(refine dI ?_;have h:=trivial))<;>simp only[h,evS,tyS,Bv,Bf,Nat.reduceAdd,Nat.reduceSub,Nat.reduceMul,Nat.reduceLT,Nat.reduceLeDiff,Nat.reduceEqDiff,reduceCtorEq,List.reduceReplicate,Int.reduceToNat,Int.reduceLE,Int.reduceLT]))
          all_goals first|rfl|exact .inl rfl|trace_state
         ·have k10:((atL l j:Int) != 10)=true:=by simp;omega
          simp only[rscanS,d2,ea,k10,ej,evS,tyS,Nat.reduceLT,Nat.reduceEqDiff,reduceCtorEq]
          (repeat' (first|(with_reducible refine aI ?_ ?_)|(first|(first|refine gF ?_ ?_|refine gT ?_ ?_|refine cI ?_ ?_|refine pI ?_ ?_)<;>intro h|(refine dI ?_;have h:=trivial))<;>simp only[h,ea,k10,ej,evS,tyS,Bv,Bf,Nat.reduceAdd,Nat.reduceSub,Nat.reduceMul,Nat.reduceLT,Nat.reduceLeDiff,Nat.reduceEqDiff,reduceCtorEq,List.reduceReplicate,Int.reduceToNat,Int.reduceLE,Int.reduceLT]))
          all_goals try (((try simp only[decide_eq_true_eq,decide_eq_false_iff_not,bne_iff_ne,ne_eq]at *)<;>(try omega));done)
          refine loopC.intro (j+1) ⟨by omega,by omega,by rw[hj2,gap_in hjl h10];omega⟩ ?_ (by omega);simp only[evS,Nat.reduceAdd,Nat.reduceEqDiff,reduceCtorEq]
          (repeat' (first|(with_reducible refine aI ?_ ?_)|(first|(first|refine gF ?_ ?_|refine gT ?_ ?_|refine cI ?_ ?_|refine pI ?_ ?_)<;>intro h|(refine dI ?_;have h:=trivial))<;>simp only[h,evS,tyS,Bv,Bf,Nat.reduceAdd,Nat.reduceSub,Nat.reduceMul,Nat.reduceLT,Nat.reduceLeDiff,Nat.reduceEqDiff,reduceCtorEq,List.reduceReplicate,Int.reduceToNat,Int.reduceLE,Int.reduceLT]))
          all_goals first|rfl|exact .inl rfl|trace_state
        ·have d2:decide (j<l.length)=false:=decide_eq_false hjl;obtain⟨hn1,hn2⟩:=hend (.inl (by omega));simp only[rscanS,d2,evS,tyS,Nat.reduceLT,Nat.reduceEqDiff,reduceCtorEq]
         (repeat' (first|(with_reducible refine aI ?_ ?_)|(first|(first|refine gF ?_ ?_|refine gT ?_ ?_|refine cI ?_ ?_|refine pI ?_ ?_)<;>intro h|(refine dI ?_;have h:=trivial))<;>simp only[h,ea,evS,tyS,Bv,Bf,Nat.reduceAdd,Nat.reduceSub,Nat.reduceMul,Nat.reduceLT,Nat.reduceLeDiff,Nat.reduceEqDiff,reduceCtorEq,List.reduceReplicate,Int.reduceToNat,Int.reduceLE,Int.reduceLT]))
         all_goals try (((try simp only[decide_eq_true_eq,decide_eq_false_iff_not]at *)<;>(try omega));done)
         refine loopC.intro (j,y::T) ⟨by simp only;omega,f,by simp only;rw[←itemsF_next hn1];exact hf,by simp only;omega⟩ ?_ (by simp only;omega);simp only[rscanS,evS,Nat.reduceAdd,Nat.reduceEqDiff,reduceCtorEq]
         (repeat' (first|(with_reducible refine aI ?_ ?_)|(first|(first|refine gF ?_ ?_|refine gT ?_ ?_|refine cI ?_ ?_|refine pI ?_ ?_)<;>intro h|(refine dI ?_;have h:=trivial))<;>simp only[h,evS,tyS,Bv,Bf,Nat.reduceAdd,Nat.reduceSub,Nat.reduceMul,Nat.reduceLT,Nat.reduceLeDiff,Nat.reduceEqDiff,reduceCtorEq,List.reduceReplicate,Int.reduceToNat,Int.reduceLE,Int.reduceLT]))
         all_goals first|rfl|exact .inl rfl|trace_state
     ·have d35:decide (atL l i=35)=false:=decide_eq_false h35;have hTi:nextT l i=i:=by rw[nextT,gap_stop hil hb h35];omega
      obtain⟨f,rfl⟩:∃ f',f=f'+1:=⟨f-1,by omega⟩;cases toks with
      |nil=>
       cases hh:headD (l.drop i)with
       |error e=>
        have he:=headD_err hh;have hne:(e != 0)=true:=by simpa using he
        have hit2:eachItems l=(([]:List (TokD×Nat))).map okI++[((zeroT,i),e)]:=by
         rw[hf,itemsF,hTi,if_neg (by omega),hh]
        rw[rscan_err he hit2];have htk:=refToken_ev (γ:=γ) b l i hil hl;rw[hh]at htk;simp only[rscanS,d1,ea,evS,tyS,Nat.reduceLT,Nat.reduceEqDiff,reduceCtorEq]
        (repeat' (first|(with_reducible refine aI ?_ ?_)|(first|(first|refine gF ?_ ?_|refine gT ?_ ?_|refine cI ?_ ?_|refine pI ?_ ?_)<;>intro h|(refine dI ?_;have h:=trivial))<;>simp only[h,ea,evS,tyS,Bv,Bf,Nat.reduceAdd,Nat.reduceSub,Nat.reduceMul,Nat.reduceLT,Nat.reduceLeDiff,Nat.reduceEqDiff,reduceCtorEq,List.reduceReplicate,Int.reduceToNat,Int.reduceLE,Int.reduceLT]))
        all_goals try (((try simp only[decide_eq_true_eq,decide_eq_false_iff_not,bne_iff_ne,ne_eq]at *)<;>(try omega));done)
        refine CallK.intro b28 rfl (refBlank_ev _) ?_;simp only[hb,ea,k35,d35,evS,tyS,Nat.reduceLT,Nat.reduceEqDiff,reduceCtorEq]
        (repeat' (first|(with_reducible refine aI ?_ ?_)|(first|(first|refine gF ?_ ?_|refine gT ?_ ?_|refine cI ?_ ?_|refine pI ?_ ?_)<;>intro h|(refine dI ?_;have h:=trivial))<;>simp only[h,ea,k35,d35,evS,tyS,Bv,Bf,Nat.reduceAdd,Nat.reduceSub,Nat.reduceMul,Nat.reduceLT,Nat.reduceLeDiff,Nat.reduceEqDiff,reduceCtorEq,List.reduceReplicate,Int.reduceToNat,Int.reduceLE,Int.reduceLT]))
        all_goals try (((try simp only[decide_eq_true_eq,decide_eq_false_iff_not,bne_iff_ne,ne_eq]at *)<;>(try omega));done)
        refine CallK.intro b29 (by simp[treeL,treeA]) htk ?_;simp only[resTP,errTok,tokA,f0,hne,listA,evS,tyS,Nat.reduceAdd,Nat.reduceLT,Nat.reduceLeDiff,Nat.reduceEqDiff,reduceCtorEq]
        all_goals first|done|rfl|trace_state
       |ok t=>
        have hsz:=headD_size (by rw[Bd];omega) hh;rw[Bd]at hsz;have hz:((0:Int) != 0)=false:=by decide
        have ws:IntKind.i64.wrap ((i:Int)+(t.size:Int))=((i+t.size:Nat):Int):=(i64w (by omega) (by omega)).trans (by omega)
        have hit2:eachItems l=((([]:List (TokD×Nat)))++[(t,i)]).map okI++itemsF f l (i+t.size):=by
         rw[hf,itemsF,hTi,if_neg (by omega),hh,List.map_append];simp[okI]
        have htk:=refToken_ev (γ:=γ) b l i hil hl;rw[hh]at htk;simp only[rscanS,d1,ea,evS,tyS,Nat.reduceLT,Nat.reduceEqDiff,reduceCtorEq]
        (repeat' (first|(with_reducible refine aI ?_ ?_)|(first|(first|refine gF ?_ ?_|refine gT ?_ ?_|refine cI ?_ ?_|refine pI ?_ ?_)<;>intro h|(refine dI ?_;have h:=trivial))<;>simp only[h,ea,evS,tyS,Bv,Bf,Nat.reduceAdd,Nat.reduceSub,Nat.reduceMul,Nat.reduceLT,Nat.reduceLeDiff,Nat.reduceEqDiff,reduceCtorEq,List.reduceReplicate,Int.reduceToNat,Int.reduceLE,Int.reduceLT]))
        all_goals try (((try simp only[decide_eq_true_eq,decide_eq_false_iff_not,bne_eq_false_iff_eq]at *)<;>(try omega));done)
        refine CallK.intro b28 rfl (refBlank_ev _) ?_;simp only[hb,ea,k35,d35,evS,tyS,Nat.reduceLT,Nat.reduceEqDiff,reduceCtorEq]
        (repeat' (first|(with_reducible refine aI ?_ ?_)|(first|(first|refine gF ?_ ?_|refine gT ?_ ?_|refine cI ?_ ?_|refine pI ?_ ?_)<;>intro h|(refine dI ?_;have h:=trivial))<;>simp only[h,ea,k35,d35,evS,tyS,Bv,Bf,Nat.reduceAdd,Nat.reduceSub,Nat.reduceMul,Nat.reduceLT,Nat.reduceLeDiff,Nat.reduceEqDiff,reduceCtorEq,List.reduceReplicate,Int.reduceToNat,Int.reduceLE,Int.reduceLT]))
        all_goals try (((try simp only[decide_eq_true_eq,decide_eq_false_iff_not,bne_eq_false_iff_eq]at *)<;>(try omega));done)
        refine CallK.intro b29 (by simp[treeL,treeA]) htk ?_;simp only[resTP,okTok,TokD.av,tokA,hz,ws,evS,tyS,Nat.reduceAdd,Nat.reduceLT,Nat.reduceLeDiff,Nat.reduceEqDiff,reduceCtorEq,List.reduceReplicate]
        (repeat' (first|(with_reducible refine aI ?_ ?_)|(first|(first|refine gF ?_ ?_|refine gT ?_ ?_|refine cI ?_ ?_|refine pI ?_ ?_)<;>intro h|(refine dI ?_;have h:=trivial))<;>simp only[h,hz,ws,evS,tyS,Bv,Bf,Nat.reduceAdd,Nat.reduceSub,Nat.reduceMul,Nat.reduceLT,Nat.reduceLeDiff,Nat.reduceEqDiff,reduceCtorEq,List.reduceReplicate,Int.reduceToNat,Int.reduceLE,Int.reduceLT]))
        refine loopC.intro (i+t.size,[(t,i)]) ⟨by simp only;omega,f,by simp only;exact hit2,by simp only;omega⟩ ?_ (by simp only;omega);simp only[rscanS,tokCells,tvals,listCells,evS,Nat.reduceAdd,Nat.reduceEqDiff,reduceCtorEq]
        (repeat' (first|(with_reducible refine aI ?_ ?_)|(first|(first|refine gF ?_ ?_|refine gT ?_ ?_|refine cI ?_ ?_|refine pI ?_ ?_)<;>intro h|(refine dI ?_;have h:=trivial))<;>simp only[h,evS,tyS,Bv,Bf,Nat.reduceAdd,Nat.reduceSub,Nat.reduceMul,Nat.reduceLT,Nat.reduceLeDiff,Nat.reduceEqDiff,reduceCtorEq,List.reduceReplicate,Int.reduceToNat,Int.reduceLE,Int.reduceLT]))
        all_goals first|rfl|exact .inl rfl|trace_state
      |cons y T=>
       cases hh:headD (l.drop i)with
       |error e=>
        have he:=headD_err hh;have hne:(e != 0)=true:=by simpa using he
        have hit2:eachItems l=(y::T).map okI++[((zeroT,i),e)]:=by
         rw[hf,itemsF,hTi,if_neg (by omega),hh]
        rw[rscan_err he hit2];have htk:=refToken_ev (γ:=γ) b l i hil hl;rw[hh]at htk;simp only[rscanS,d1,ea,evS,tyS,Nat.reduceLT,Nat.reduceEqDiff,reduceCtorEq]
        (repeat' (first|(with_reducible refine aI ?_ ?_)|(first|(first|refine gF ?_ ?_|refine gT ?_ ?_|refine cI ?_ ?_|refine pI ?_ ?_)<;>intro h|(refine dI ?_;have h:=trivial))<;>simp only[h,ea,evS,tyS,Bv,Bf,Nat.reduceAdd,Nat.reduceSub,Nat.reduceMul,Nat.reduceLT,Nat.reduceLeDiff,Nat.reduceEqDiff,reduceCtorEq,List.reduceReplicate,Int.reduceToNat,Int.reduceLE,Int.reduceLT]))
        all_goals try (((try simp only[decide_eq_true_eq,decide_eq_false_iff_not,bne_iff_ne,ne_eq]at *)<;>(try omega));done)
        refine CallK.intro b28 rfl (refBlank_ev _) ?_;simp only[hb,ea,k35,d35,evS,tyS,Nat.reduceLT,Nat.reduceEqDiff,reduceCtorEq]
        (repeat' (first|(with_reducible refine aI ?_ ?_)|(first|(first|refine gF ?_ ?_|refine gT ?_ ?_|refine cI ?_ ?_|refine pI ?_ ?_)<;>intro h|(refine dI ?_;have h:=trivial))<;>simp only[h,ea,k35,d35,evS,tyS,Bv,Bf,Nat.reduceAdd,Nat.reduceSub,Nat.reduceMul,Nat.reduceLT,Nat.reduceLeDiff,Nat.reduceEqDiff,reduceCtorEq,List.reduceReplicate,Int.reduceToNat,Int.reduceLE,Int.reduceLT]))
        all_goals try (((try simp only[decide_eq_true_eq,decide_eq_false_iff_not,bne_iff_ne,ne_eq]at *)<;>(try omega));done)
        refine CallK.intro b29 (by simp[treeL,treeA]) htk ?_;simp only[resTP,errTok,tokA,f0,hne,listA,evS,tyS,Nat.reduceAdd,Nat.reduceLT,Nat.reduceLeDiff,Nat.reduceEqDiff,reduceCtorEq];rw[fz];exact .inr ⟨rfl,2,⟨T.length,54,listCells (y::T)⟩,listCells (y::T),rfl,rfl,BL _,.inl rfl,BB,fzL_list _⟩
       |ok t=>
        have hsz:=headD_size (by rw[Bd];omega) hh;rw[Bd]at hsz;have hz:((0:Int) != 0)=false:=by decide
        have ws:IntKind.i64.wrap ((i:Int)+(t.size:Int))=((i+t.size:Nat):Int):=(i64w (by omega) (by omega)).trans (by omega)
        have hit2:eachItems l=((y::T)++[(t,i)]).map okI++itemsF f l (i+t.size):=by
         rw[hf,itemsF,hTi,if_neg (by omega),hh,List.map_append];simp[okI]
        have htk:=refToken_ev (γ:=γ) b l i hil hl;rw[hh]at htk;simp only[rscanS,d1,ea,evS,tyS,Nat.reduceLT,Nat.reduceEqDiff,reduceCtorEq]
        (repeat' (first|(with_reducible refine aI ?_ ?_)|(first|(first|refine gF ?_ ?_|refine gT ?_ ?_|refine cI ?_ ?_|refine pI ?_ ?_)<;>intro h|(refine dI ?_;have h:=trivial))<;>simp only[h,ea,evS,tyS,Bv,Bf,Nat.reduceAdd,Nat.reduceSub,Nat.reduceMul,Nat.reduceLT,Nat.reduceLeDiff,Nat.reduceEqDiff,reduceCtorEq,List.reduceReplicate,Int.reduceToNat,Int.reduceLE,Int.reduceLT]))
        all_goals try (((try simp only[decide_eq_true_eq,decide_eq_false_iff_not,bne_eq_false_iff_eq]at *)<;>(try omega));done)
        refine CallK.intro b28 rfl (refBlank_ev _) ?_;simp only[hb,ea,k35,d35,evS,tyS,Nat.reduceLT,Nat.reduceEqDiff,reduceCtorEq]
        (repeat' (first|(with_reducible refine aI ?_ ?_)|(first|(first|refine gF ?_ ?_|refine gT ?_ ?_|refine cI ?_ ?_|refine pI ?_ ?_)<;>intro h|(refine dI ?_;have h:=trivial))<;>simp only[h,ea,k35,d35,evS,tyS,Bv,Bf,Nat.reduceAdd,Nat.reduceSub,Nat.reduceMul,Nat.reduceLT,Nat.reduceLeDiff,Nat.reduceEqDiff,reduceCtorEq,List.reduceReplicate,Int.reduceToNat,Int.reduceLE,Int.reduceLT]))
        all_goals try (((try simp only[decide_eq_true_eq,decide_eq_false_iff_not,bne_eq_false_iff_eq]at *)<;>(try omega));done)
        refine CallK.intro b29 (by simp[treeL,treeA]) htk ?_
        have hcnt:T.length+2≤32769:=by
         have h1:=items_len l;rw[hit2]at h1;simp at h1;omega
        have hlc:=listCells_len (y::T);have htk6:(listCells (y::T)).take ((T.length+1) * 6)=listCells (y::T):=Bt (by rw[hlc];exact BL _);rw[BC]at hlc;have hLC7:=okRefL_list 3 (y::T);have hY7:okRefL 3 (tokCells y)=true:=okRefL_vs 3 _;have happ:=listCells_app (y::T) (t,i);have hx6:tokCells (t,i)=(tvals t i).map AV.v:=rfl;simp only[resTP,okTok,TokD.av,tokA,hz,ws,hlc,htk6,evS,tyS,Nat.reduceAdd,Nat.reduceLT,Nat.reduceLeDiff,Nat.reduceEqDiff,reduceCtorEq,List.reduceReplicate]
        (repeat' (first|(with_reducible refine aI ?_ ?_)|(first|(first|refine gF ?_ ?_|refine gT ?_ ?_|refine cI ?_ ?_|refine pI ?_ ?_)<;>intro h|(refine dI ?_;have h:=trivial))<;>simp only[h,hz,ws,hlc,htk6,evS,tyS,Bv,Bf,Nat.reduceAdd,Nat.reduceSub,Nat.reduceMul,Nat.reduceLT,Nat.reduceLeDiff,Nat.reduceEqDiff,reduceCtorEq,List.reduceReplicate,Int.reduceToNat,Int.reduceLE,Int.reduceLT]))
        all_goals try omega
        refine loopC.intro (i+t.size,y::(T++[(t,i)])) ⟨by simp only;omega,f,by simp only;exact hit2,by simp only;omega⟩ ?_ (by simp only;omega);rw[Bc]at happ;simp only[rscanS,happ,hx6,tvals,Bp,BC,BD,evS,Nat.reduceAdd,Nat.reduceEqDiff,reduceCtorEq]
        (repeat' (first|(with_reducible refine aI ?_ ?_)|(first|(first|refine gF ?_ ?_|refine gT ?_ ?_|refine cI ?_ ?_|refine pI ?_ ?_)<;>intro h|(refine dI ?_;have h:=trivial))<;>simp only[h,evS,tyS,Bv,Bf,Nat.reduceAdd,Nat.reduceSub,Nat.reduceMul,Nat.reduceLT,Nat.reduceLeDiff,Nat.reduceEqDiff,reduceCtorEq,List.reduceReplicate,Int.reduceToNat,Int.reduceLE,Int.reduceLT]))
        all_goals first|rfl|exact .inl rfl|(refine .inr ⟨?_,?_⟩<;>simp[okRefL,okRefB,okRef,okRefL_app,hLC7,hY7];done)|trace_state
   ·have d1:decide (i<l.length)=false:=decide_eq_false hil;have hT:l.length≤nextT l i:=by have:=nextT_ge l i;omega
    have hno:itemsF f l i=[]:=by
     cases f with
     |zero=>rfl
     |succ f=>rw[itemsF,if_pos hT]
    rw[hno,BS]at hf;rw[rscan_end hf];cases toks with
    |nil=>
     simp only[rscanS,d1,listA,evS,tyS,Nat.reduceLT,Nat.reduceEqDiff,reduceCtorEq]
     all_goals first|done|rfl|trace_state
    |cons y T=>
     simp only[rscanS,d1,listA,evS,tyS,Nat.reduceLT,Nat.reduceEqDiff,reduceCtorEq];rw[fz];exact .inr ⟨rfl,2,⟨T.length,54,listCells (y::T)⟩,listCells (y::T),rfl,rfl,BL _,.inl rfl,BB,fzL_list _⟩
structure Tk where
 kind:Int
 text:List UInt8
 int:Int
 real:Nat
 pos:Int
 size:Int
def Tk.cells(t:Tk):List AV:=[.v (.int .i64 t.kind),.v (.string ⟨t.text.toArray⟩),.v (.int .i64 t.int),.v (.float .f64 t.real),.v (.int .i64 t.pos),.v (.int .i64 t.size)]
def tkCells(l:List Tk):List AV:=l.flatMap Tk.cells
theorem tkCells_length(l:List Tk):(tkCells l).length=l.length * 6:=by
 induction l with
 |nil=>rfl
 |cons t l ih=>unfold tkCells at ih⊢;rw[BE,Bp,ih,BC];simp only[Tk.cells,BC,BD];omega
theorem tkCells_at{l:List Tk}{i k:Nat}{t:Tk}(h:l[i]?=some t)(hk:k<6):(tkCells l)[i * 6+k]?=(Tk.cells t)[k]?:=by
 induction l generalizing i with
 |nil=>cases h
 |cons x l ih=>
  unfold tkCells at ih⊢;rw[BE];cases i with
  |zero=>
   simp only[Bz,Option.some.injEq]at h;subst h;rw[Ba (by simp only[Tk.cells,BC,BD];omega),Nat.zero_mul,Nat.zero_add]
  |succ i=>
   rw[Br (by simp only[Tk.cells,BC,BD];omega)];rw[←ih (by simpa using h)]
   congr 1
   simp only[Tk.cells,BC,BD];omega
def LAt(L:AV)(ts:List Tk):Prop:=(L=.v (.slice none 0 0)∧ts=[])∨∃ b m cs,L=.sl b ts.length m cs∧tkCells ts<+:cs
theorem LAt.cell{b:Bool}{ts:List Tk}{cs:List AV}(h:tkCells ts<+:cs){i k:Nat}{t:Tk}(hi:ts[i]?=some t)(hk:k<6):cs[i * 6+k]?=(Tk.cells t)[k]?:=by
 obtain⟨r,rfl⟩:=h;have hl:i<ts.length:=(Bs.1 hi).1;rw[Ba (by rw[tkCells_length];omega)];exact tkCells_at hi hk
structure Nd where
 k:Int
 a:Int
 b:Int
 nm:List UInt8
 vk:Int
 vi:Int
 vr:Nat
 vt:List UInt8
def Nd.cells(n:Nd):List AV:=[.v (.int .i64 n.k),.v (.int .i64 n.a),.v (.int .i64 n.b),.v (.string ⟨n.nm.toArray⟩),.v (.int .i64 n.vk),.v (.int .i64 n.vi),.v (.float .f64 n.vr),.v (.complex .f64 0 0),.v (.string ⟨n.vt.toArray⟩)]
def ndCells(l:List Nd):List AV:=l.flatMap Nd.cells
theorem ndCells_length(l:List Nd):(ndCells l).length=l.length * 9:=by
 induction l with
 |nil=>rfl
 |cons t l ih=>unfold ndCells at ih⊢;rw[BE,Bp,ih,BC];simp only[Nd.cells,BC,BD];omega
theorem ndCells_app(l m:List Nd):ndCells (l++m)=ndCells l++ndCells m:=List.flatMap_append
theorem ndCells_take(l:List Nd):(ndCells l).take (l.length * 9)=ndCells l:=by rw[←ndCells_length,List.take_length]
inductive Tr where
 |lf (k:Int) (nm:List UInt8) (vk vi:Int) (vr:Nat) (vt:List UInt8)
 |un (k:Int) (a:Tr)
 |bi (k:Int) (a b:Tr)
def Tr.size:Tr→Nat
 |.lf .. =>1
 |.un _ a=>a.size+1
 |.bi _ a b=>a.size+b.size+1
def Tr.deep:Tr→Nat
 |.lf .. =>1
 |.un _ a=>a.deep+1
 |.bi _ a b=>max a.deep b.deep+1
def lay:Tr→Nat→List Nd
 |.lf k nm vk vi vr vt,_=>[⟨k,0,0,nm,vk,vi,vr,vt⟩]
 |.un k a,n=>lay a n++[⟨k,((n+a.size-1:Nat):Int),0,[],0,0,0,[]⟩]
 |.bi k a b,n=>lay a n++lay b (n+a.size)++[⟨k,((n+a.size-1:Nat):Int),((n+a.size+b.size-1:Nat):Int),[],0,0,0,[]⟩]
theorem size_pos(t:Tr):1≤t.size:=by cases t<;>simp only[Tr.size]<;>omega
theorem lay_length(t:Tr):∀ n,(lay t n).length=t.size:=by
 induction t with
 |lf=>intro n;rfl
 |un k a ih=>intro n;simp[lay,Tr.size,ih]
 |bi k a b iha ihb=>intro n;simp[lay,Tr.size,iha,ihb];omega
def mkA(ts:List Tk)(i:Nat):List UInt8:=match ts[i]? with
 |some t=>if t.kind=5 then t.text else []
 |none=>[]
def opK(s:List UInt8):Int:=
 if s=[124,124]then 17 else if s=[38,38]then 16 else if s=[61,61]then 10 else if s=[33,61]then 11
 else if s=[60]then 12 else if s=[60,61]then 13 else if s=[62]then 14 else if s=[62,61]then 15
 else if s=[43]then 5 else if s=[45]then 6 else if s=[42]then 7 else if s=[47]then 8 else if s=[37]then 9 else 0
def levK(k:Int):Int:=
 if k=17 then 1 else if k=16 then 2 else if k=10∨k=11∨k=12∨k=13∨k=14∨k=15 then 3 else if k=5∨k=6 then 4 else if k=7∨k=8∨k=9 then 5 else if k=3∨k=4 then 6 else 7
def wordK(s:List UInt8):Int:=
 if s=[114,101]then 18 else if s=[105,109]then 19 else if s=[115,105,122,101,50]then 20 else if s=[99,111,109,112]then 21
 else if s=[114,101,97,108]then 22 else if s=[108,101,110]then 23 else if s=[97,116]then 24 else if s=[99,97,116]then 25 else if s=[115,116,114]then 26 else 0
def kidsK(k:Int):Int:=
 if k=1∨k=2 then 0 else if k=3∨k=4∨k=18∨k=19∨k=20∨k=22∨k=23∨k=26 then 1 else if k<5∨26<k then -1 else 2
inductive Res where
 |ok (t:Tr) (p:Nat)
 |bad (p:Nat)
inductive Md where
 |bin (n:Nat)
 |lp (n:Nat) (a:Tr)
 |un
 |fs
 |nm (s:List UInt8)
def trueB:List UInt8:=[116,114,117,101]
def falseB:List UInt8:=[102,97,108,115,101]
def pr(ts:List Tk):Nat→Md→Nat→Res
 |0,_,p=>.bad p
 |f+1,.bin n,p=>if 5<n then pr ts f .un p else match pr ts f (.bin (n+1)) p with
  |.bad q=>.bad q
  |.ok a q=>pr ts f (.lp n a) q
 |f+1,.lp n a,p=>if opK (mkA ts p)=0∨levK (opK (mkA ts p))≠n then .ok a p else match pr ts f (.bin (n+1)) (p+1)with
  |.bad q=>.bad q
  |.ok b q=>if n=3 then .ok (.bi (opK (mkA ts p)) a b) q else pr ts f (.lp n (.bi (opK (mkA ts p)) a b)) q
 |f+1,.un,p=>if mkA ts p=[45]∨mkA ts p=[33]then match pr ts f .un (p+1)with
   |.bad q=>.bad q
   |.ok a q=>.ok (.un (if mkA ts p=[45]then 3 else 4) a) q
  else pr ts f .fs p
 |f+1,.fs,p=>if mkA ts p=[40]then match pr ts f (.bin 1) (p+1)with
   |.bad q=>.bad q
   |.ok a q=>if mkA ts q=[41]then .ok a (q+1)else .bad q
  else match ts[p]? with
  |none=>.bad p
  |some t=>if t.kind=5 then .bad p else if t.kind=2 then .ok (.lf 1 [] 1 t.int 0 []) (p+1)else if t.kind=3 then .ok (.lf 1 [] 2 0 t.real []) (p+1)
   else if t.kind=4 then .ok (.lf 1 [] 4 0 0 t.text) (p+1)else pr ts f (.nm t.text) (p+1)
 |f+1,.nm s,p=>if s=trueB then .ok (.lf 1 [] 5 1 0 []) p else if s=falseB then .ok (.lf 1 [] 5 0 0 []) p else if wordK s=0 then .ok (.lf 2 s 0 0 0 []) p
  else if mkA ts p≠[40]then .bad p else match pr ts f (.bin 1) (p+1)with
   |.bad q=>.bad q
   |.ok a q=>if kidsK (wordK s)=2 then (if mkA ts q≠[44]then .bad q else match pr ts f (.bin 1) (q+1)with
     |.bad r=>.bad r
     |.ok b r=>if mkA ts r=[41]then .ok (.bi (wordK s) a b) (r+1)else .bad r)
    else if mkA ts q=[41]then .ok (.un (wordK s) a) (q+1)else .bad q
def Md.need(ts:List Tk)(p:Nat):Md→Nat
 |.bin n=>16 * (ts.length-p)+(12-n)
 |.lp _ _=>16 * (ts.length-p)+2
 |.un=>16 * (ts.length-p)+4
 |.fs=>16 * (ts.length-p)+3
 |.nm _=>16 * (ts.length-p)+2
def Md.adv(p:Nat):Md→Tr→Nat→Prop
 |.lp _ a,t,q=>p≤q∧t.size+p≤q+a.size
 |.nm _,t,q=>p≤q∧t.size+p≤q+1
 |_,t,q=>p<q∧t.size+p≤q
theorem mkA_lt{ts:List Tk}{p:Nat}(h:mkA ts p≠[]):p<ts.length:=by
 unfold mkA at h;cases e:ts[p]? with
 |none=>rw[e]at h;exact absurd rfl h
 |some t=>exact (Bs.1 e).1
theorem mkA_eq{ts:List Tk}{p:Nat}{c:UInt8}{s:List UInt8}(h:mkA ts p=c::s):p<ts.length:=mkA_lt (by rw[h];exact List.cons_ne_nil _ _)
theorem opK_lt{ts:List Tk}{p:Nat}(h:opK (mkA ts p)≠0):p<ts.length:=mkA_lt fun e=>h (by rw[e];rfl)
theorem pr_adv(ts:List Tk):∀ (f:Nat) (m:Md) (p:Nat) (t:Tr) (q:Nat),p≤ts.length→pr ts f m p=.ok t q→m.adv p t q∧q≤ts.length:=by
 intro f
 induction f with
 |zero=>intro m p t q _ h;cases m<;>cases h
 |succ f ih=>
  intro m p t q hp h;cases m with
  |bin n=>
   rw[pr]at h
   split at h
   ·have k:=ih .un _ _ _ hp h;exact k
   ·split at h
    ·cases h
    ·rename_i a q' e;obtain⟨⟨h1,h2⟩,h3⟩:=ih _ _ _ _ hp e;obtain⟨⟨g1,g2⟩,g3⟩:=ih _ _ _ _ h3 h;exact⟨⟨by omega,by omega⟩,g3⟩
  |lp n a=>
   rw[pr]at h
   split at h
   ·cases h;exact⟨⟨BL _,by omega⟩,hp⟩
   ·rename_i hk;have hlt:=opK_lt (fun e=>hk (.inl e))
    split at h
    ·cases h
    ·rename_i b q' e;obtain⟨⟨h1,h2⟩,h3⟩:=ih _ _ _ _ (by omega) e
     split at h
     ·cases h;refine⟨⟨by omega,?_⟩,h3⟩;simp only[Tr.size];omega
     ·obtain⟨⟨g1,g2⟩,g3⟩:=ih _ _ _ _ h3 h;simp only[Tr.size]at g2;exact⟨⟨by omega,by omega⟩,g3⟩
  |un=>
   rw[pr]at h
   split at h
   ·rename_i hm;have hlt:p<ts.length:=hm.elim mkA_eq mkA_eq
    split at h
    ·cases h
    ·rename_i a q' e;obtain⟨⟨h1,h2⟩,h3⟩:=ih _ _ _ _ (by omega) e;cases h;refine⟨⟨by omega,?_⟩,h3⟩;simp only[Tr.size];omega
   ·have k:=ih .fs _ _ _ hp h;exact k
  |fs=>
   rw[pr]at h
   split at h
   ·rename_i hm;have hlt:p<ts.length:=mkA_eq hm
    split at h
    ·cases h
    ·rename_i a q' e;obtain⟨⟨h1,h2⟩,h3⟩:=ih _ _ _ _ (by omega) e
     split at h
     ·rename_i hm2;have hlt2:q'<ts.length:=mkA_eq hm2;cases h;exact⟨⟨by omega,by omega⟩,by omega⟩
     ·cases h
   ·split at h
    ·cases h
    ·rename_i t' e;have hlt:p<ts.length:=(Bs.1 e).1
     split at h
     ·cases h
     ·split at h
      ·cases h;refine⟨⟨by omega,?_⟩,by omega⟩;simp only[Tr.size];omega
      ·split at h
       ·cases h;refine⟨⟨by omega,?_⟩,by omega⟩;simp only[Tr.size];omega
       ·split at h
        ·cases h;refine⟨⟨by omega,?_⟩,by omega⟩;simp only[Tr.size];omega
        ·obtain⟨⟨g1,g2⟩,g3⟩:=ih _ _ _ _ (by omega) h;exact⟨⟨by omega,by omega⟩,g3⟩
  |nm s=>
   rw[pr]at h
   split at h
   ·cases h;refine⟨⟨by omega,?_⟩,hp⟩;simp only[Tr.size];omega
   split at h
   ·cases h;refine⟨⟨by omega,?_⟩,hp⟩;simp only[Tr.size];omega
   split at h
   ·cases h;refine⟨⟨by omega,?_⟩,hp⟩;simp only[Tr.size];omega
   split at h
   ·cases h
   rename_i hm;have hlt:p<ts.length:=mkA_eq (Decidable.not_not.1 hm)
   split at h
   ·cases h
   rename_i a q' e;obtain⟨⟨h1,h2⟩,h3⟩:=ih _ _ _ _ (by omega) e
   split at h
   ·split at h
    ·cases h
    rename_i hm2;have hlt2:q'<ts.length:=mkA_eq (Decidable.not_not.1 hm2)
    split at h
    ·cases h
    rename_i b r e2;obtain⟨⟨g1,g2⟩,g3⟩:=ih _ _ _ _ (by omega) e2
    split at h
    ·rename_i hm3;have hlt3:r<ts.length:=mkA_eq hm3;cases h;refine⟨⟨by omega,?_⟩,by omega⟩;simp only[Tr.size];omega
    ·cases h
   ·split at h
    ·rename_i hm3;have hlt3:q'<ts.length:=mkA_eq hm3;cases h;refine⟨⟨by omega,?_⟩,by omega⟩;simp only[Tr.size];omega
    ·cases h
def Fr(S:Nat→Prop)(h h':List ABlk):Prop:=h.length≤h'.length∧∀ k,k<h.length→¬S k→h'[k]?=h[k]?
theorem Fr.refl(S:Nat→Prop)(h:List ABlk):Fr S h h:=⟨BL _,fun _ _ _=>rfl⟩
theorem Fr.trans{S S1:Nat→Prop}{h h1 h2:List ABlk}(a:Fr S h h1)(b:Fr S1 h1 h2)(hs:∀ k,S1 k→S k∨h.length≤k):Fr S h h2:=
 ⟨BM a.1 b.1,fun k hk hn=>(b.2 k (BO hk a.1) fun hk1=>(hs k hk1).elim hn fun hle=>by omega).trans (a.2 k hk hn)⟩
theorem Fr.set{S:Nat→Prop}{h:List ABlk}{i:Nat}(b:ABlk)(hi:S i):Fr S h (h.set i b):=
 ⟨by simp,fun k hk hn=>Bn fun e=>by subst e;exact hn hi⟩
theorem Fr.app{S:Nat→Prop}(h l:List ABlk):Fr S h (h++l):=
 ⟨by simp,fun k hk _=>Ba hk⟩
theorem Fr.mono{S S1:Nat→Prop}{h h1:List ABlk}(a:Fr S h h1)(hs:∀ k,S k→S1 k):Fr S1 h h1:=⟨a.1,fun k hk hn=>a.2 k hk fun e=>hn (hs k e)⟩
theorem Fr.at{S:Nat→Prop}{h h1:List ABlk}(a:Fr S h h1){k:Nat}{b:ABlk}(hk:h[k]?=some b)(hn:¬S k):h1[k]?=some b:=
 (a.2 k (Bs.1 hk).1 hn).trans hk
def nbk(N:AV)(k:Nat):Prop:=match N with
 |.own j _ _=>k=j
 |_=>False
def NsAt(h:List ABlk)(N:AV)(ns:List Nd):Prop:=(N=.v (.slice none 0 0)∧ns=[])∨∃ j ver,N=.own j ver ns.length∧h[j]?=some ⟨ver,115,ndCells ns⟩
theorem NsAt.fr{S:Nat→Prop}{h h1:List ABlk}{N:AV}{ns:List Nd}(a:NsAt h N ns)(f:Fr S h h1)(hn:∀ k,nbk N k→¬S k):NsAt h1 N ns:=by
 rcases a with a|⟨j,ver,rfl,hj⟩
 ·exact .inl a
 ·exact .inr ⟨j,ver,rfl,f.at hj (hn j rfl)⟩
def RS(h:List ABlk)(i:Nat)(L:AV)(p:Nat)(N:AV)(ns:List Nd):Prop:=h[i]?=some ⟨0,104,[L,.v (.int .i64 p),N]⟩∧NsAt h N ns
theorem RS.lt{h:List ABlk}{i:Nat}{L:AV}{p:Nat}{N:AV}{ns:List Nd}(a:RS h i L p N ns):i<h.length:=(Bs.1 a.1).1
theorem RS.ne{h:List ABlk}{i:Nat}{L:AV}{p:Nat}{N:AV}{ns:List Nd}(a:RS h i L p N ns){k:Nat}(hk:nbk N k):k≠i:=by
 intro e;subst e
 rcases a.2 with⟨rfl,_⟩|⟨j,ver,rfl,hj⟩
 ·exact hk
 ·have hk':k=j:=hk;subst hk';rw[a.1]at hj;cases hj
theorem RS.move{h:List ABlk}{i:Nat}{L:AV}{p:Nat}{N:AV}{ns:List Nd}(a:RS h i L p N ns)(q:Nat):RS (h.set i ⟨0,104,[L,.v (.int .i64 q),N]⟩) i L q N ns:=
 ⟨Be a.lt,a.2.fr (S:=fun k=>k=i) (Fr.set _ rfl) fun k hk=>a.ne hk⟩
def RP(i:Nat)(N:AV)(k:Nat):Prop:=k=i∨nbk N k
def faultA(q:Nat):AV:=.ifc 185 (.agg [.v (.int .i64 q)])
def ResP(L:AV)(i:Nat)(N:AV)(h:List ABlk)(ns:List Nd)(r:Res)(o:Out)(h':List ABlk):Prop:=
 Fr (RP i N) h h'∧match r with
 |.ok t q=>o=.ret (.v (.int .i64 ((ns.length+t.size-1:Nat):Int)))∧∃ N',RS h' i L q N' (ns++lay t ns.length)∧∀ k,nbk N' k→nbk N k∨h.length≤k
 |.bad q=>o=.pan (faultA q)
theorem tyX:aggT Tp 115=some true∧
  aggT Tp 2=some false∧
  aggT Tp 22=some false∧
  aggT Tp 3=some false∧
  aggT Tp 39=some false∧
  aggT Tp 48=some false∧
  aggT Tp 53=some true∧
  aggT Tp 9=some false∧
  appT Tp 39 39=some (115,9,96)∧
  elemT Tp 39=some 115∧
  elemT Tp 48=some 53∧
  fieldT Tp 104 0=some (0,48)∧
  fieldT Tp 104 1=some (1,3)∧
  fieldT Tp 104 2=some (2,39)∧
  fieldT Tp 115 2=some (2,3)∧
  fieldT Tp 185 0=some (0,3)∧
  fieldT Tp 53 0=some (0,3)∧
  fieldT Tp 53 1=some (1,9)∧
  fieldT Tp 53 2=some (2,2)∧
  fieldT Tp 53 3=some (3,22)∧
  ifcT Tp 185=some false∧
  ifcT Tp 20=some true∧
  mkT Tp 39=some (115,9,[.v (.int .i64 0),.v (.int .i64 0),.v (.int .i64 0),.v (.string ⟨#[]⟩),.v (.int .i64 0),.v (.int .i64 0),.v (.float .f64 0),.v (.complex .f64 0 0),.v (.string ⟨#[]⟩)])∧
  placesT Tp 115=some [(0,1),(1,1),(2,1),(3,1),(4,5)]∧
  placesT Tp 185=some [(0,1)]∧
  placesT Tp 25=some [(0,1),(1,1),(2,1),(3,1),(4,1)]∧
  sizeT Tp 115=some 9∧
  sizeT Tp 185=some 1∧
  sizeT Tp 2=some 1∧
  sizeT Tp 22=some 1∧
  sizeT Tp 3=some 1∧
  sizeT Tp 39=some 1∧
  sizeT Tp 48=some 1∧
  sizeT Tp 53=some 6∧
  sizeT Tp 9=some 1∧
  zcT Tp 115=some [.v (.int .i64 0),.v (.int .i64 0),.v (.int .i64 0),.v (.string ⟨#[]⟩),.v (.int .i64 0),.v (.int .i64 0),.v (.float .f64 0),.v (.complex .f64 0 0),.v (.string ⟨#[]⟩)]∧
  zcT Tp 185=some [.v (.int .i64 0)]∧
  zcT Tp 25=some [.v (.int .i64 0),.v (.int .i64 0),.v (.float .f64 0),.v (.complex .f64 0 0),.v (.string ⟨#[]⟩)]∧
  zcT Tp 3=some [.v (.int .i64 0)]∧
  zcT Tp 53=some [.v (.int .i64 0),.v (.string ⟨#[]⟩),.v (.int .i64 0),.v (.float .f64 0),.v (.int .i64 0),.v (.int .i64 0)]:=
 (by and_intros<;>kernel_rfl)
theorem c186:bodyT Tp 186:=⟨_,Tryz.func186,by kernel_rfl,by kernel_rfl⟩
theorem c188:bodyT Tp 188:=⟨_,Tryz.func188,by kernel_rfl,by kernel_rfl⟩
theorem c282:bodyT Tp 282:=⟨_,Tryz.func282,by kernel_rfl,by kernel_rfl⟩
theorem c185:bodyT Tp 185:=⟨_,Tryz.func185,by kernel_rfl,by kernel_rfl⟩
theorem c187:bodyT Tp 187:=⟨_,Tryz.func187,by kernel_rfl,by kernel_rfl⟩
theorem c299:bodyT Tp 299:=⟨_,Tryz.func299,by kernel_rfl,by kernel_rfl⟩
theorem c115:bodyT Tp 115:=⟨_,Tryz.func115,by kernel_rfl,by kernel_rfl⟩
theorem mkA_ge{ts:List Tk}{p:Nat}(h:ts.length≤p):mkA ts p=[]:=by
 unfold mkA;rw[Bq h]
theorem LAt.at{ts:List Tk}{cs:List AV}(h:tkCells ts<+:cs){p:Nat}{t:Tk}(hp:ts[p]?=some t):
  cs[p * 6]?=some (.v (.int .i64 t.kind))∧cs[p * 6+1]?=some (.v (.string ⟨t.text.toArray⟩))∧cs[p * 6+2]?=some (.v (.int .i64 t.int))∧cs[p * 6+3]?=some (.v (.float .f64 t.real))∧
   cs[p * 6+4]?=some (.v (.int .i64 t.pos))∧cs[p * 6+5]?=some (.v (.int .i64 t.size)):=
 ⟨LAt.cell (b:=false) h hp (k:=0) (by decide),LAt.cell (b:=false) h hp (k:=1) (by decide),LAt.cell (b:=false) h hp (k:=2) (by decide),LAt.cell (b:=false) h hp (k:=3) (by decide),LAt.cell (b:=false) h hp (k:=4) (by decide),LAt.cell (b:=false) h hp (k:=5) (by decide)⟩
theorem mark_ev{ts:List Tk}{h:List ABlk}{i p:Nat}{L N:AV}{ns:List Nd}(hL:LAt L ts)(hr:RS h i L p N ns):
  EvM Tp γ 186 [.ptr i 0 0] h fun o h'=>o=.ret (.v (.string ⟨(mkA ts p).toArray⟩))∧h'=h:=by
 have hi:=hr.1;refine EvM.of Tryz.func186 rfl ?_
 rcases hL with⟨rfl,rfl⟩|⟨b,m,cs,rfl,hcs⟩
 ·have e0:mkA [] p=[]:=rfl;have d1:decide ((p:Int)<0)=false:=decide_eq_false (by omega);rw[e0];simp only[Tryz.f186,evE,Nat.reduceAdd,Nat.reduceSub,Nat.reduceLT]
  (repeat' (first|(with_reducible refine aI ?_ ?_)|(first|(first|refine gF ?_ ?_|refine gT ?_ ?_|refine cI ?_ ?_|refine pI ?_ ?_)<;>intro h|(refine dI ?_;have h:=trivial))<;>simp only[h,hi,d1,evE,tyX,Bv,Bf,Nat.reduceAdd,Nat.reduceSub,Nat.reduceMul,Nat.reduceLT,Nat.reduceLeDiff,Nat.reduceEqDiff,reduceCtorEq,List.reduceReplicate,Int.reduceToNat,Int.reduceLE,Int.reduceLT]))
 ·by_cases hlt:p<ts.length
  ·have d1:decide (p<ts.length)=true:=decide_eq_true (by omega);have ht:ts[p]?=some ts[p]:=by simp[hlt]
   generalize ts[p]=t at ht;obtain⟨k0,k1,_⟩:=LAt.at hcs ht
   by_cases hk:t.kind=5
   ·have e0:mkA ts p=t.text:=by unfold mkA;rw[ht];simp[hk]
    have d2:(t.kind==5)=true:=by simpa using hk
    rw[e0];simp only[Tryz.f186,evE,Nat.reduceAdd,Nat.reduceSub,Nat.reduceLT]
    (repeat' (first|(with_reducible refine aI ?_ ?_)|(first|(first|refine gF ?_ ?_|refine gT ?_ ?_|refine cI ?_ ?_|refine pI ?_ ?_)<;>intro h|(refine dI ?_;have h:=trivial))<;>simp only[h,hi,d1,d2,k0,k1,evE,tyX,Bv,Bf,Nat.reduceAdd,Nat.reduceSub,Nat.reduceMul,Nat.reduceLT,Nat.reduceLeDiff,Nat.reduceEqDiff,reduceCtorEq,List.reduceReplicate,Int.reduceToNat,Int.reduceLE,Int.reduceLT]))
    all_goals exact hlt
   ·have e0:mkA ts p=[]:=by unfold mkA;rw[ht];simp[hk]
    have d2:(t.kind==5)=false:=by simpa using hk
    rw[e0];simp only[Tryz.f186,evE,Nat.reduceAdd,Nat.reduceSub,Nat.reduceLT]
    (repeat' (first|(with_reducible refine aI ?_ ?_)|(first|(first|refine gF ?_ ?_|refine gT ?_ ?_|refine cI ?_ ?_|refine pI ?_ ?_)<;>intro h|(refine dI ?_;have h:=trivial))<;>simp only[h,hi,d1,d2,k0,k1,evE,tyX,Bv,Bf,Nat.reduceAdd,Nat.reduceSub,Nat.reduceMul,Nat.reduceLT,Nat.reduceLeDiff,Nat.reduceEqDiff,reduceCtorEq,List.reduceReplicate,Int.reduceToNat,Int.reduceLE,Int.reduceLT]))
    all_goals exact hlt
  ·have d1:decide (p<ts.length)=false:=decide_eq_false (by omega);rw[mkA_ge (by omega)];simp only[Tryz.f186,evE,Nat.reduceAdd,Nat.reduceSub,Nat.reduceLT]
   (repeat' (first|(with_reducible refine aI ?_ ?_)|(first|(first|refine gF ?_ ?_|refine gT ?_ ?_|refine cI ?_ ?_|refine pI ?_ ?_)<;>intro h|(refine dI ?_;have h:=trivial))<;>simp only[h,hi,d1,evE,tyX,Bv,Bf,Nat.reduceAdd,Nat.reduceSub,Nat.reduceMul,Nat.reduceLT,Nat.reduceLeDiff,Nat.reduceEqDiff,reduceCtorEq,List.reduceReplicate,Int.reduceToNat,Int.reduceLE,Int.reduceLT]))
end Go.Proofs.YtlobiioioicmhaaGreatDoor
