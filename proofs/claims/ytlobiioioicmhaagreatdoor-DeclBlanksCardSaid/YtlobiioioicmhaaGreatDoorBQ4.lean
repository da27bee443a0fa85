/- A part of the proof. -/
import Derived.Test.YtlobiioioicmhaaGreatDoorBQ3
set_option linter.all false
set_option maxHeartbeats 8000000
namespace Go.Proofs.YtlobiioioicmhaaGreatDoor
open _root_.Bool renaming not_true→Bv,not_false→Bf
open _root_.List renaming length_drop→Bd,length_take→Bh
open Go.Proofs.Tryz renaming prog→Tp
open Go Go.Ev
set_option maxRecDepth 20000
variable {γ:List (Nat×AV)}
def tcells(t:TokD):List AV:=[.v (.int .i64 t.kind),.v (.string ⟨t.text.toArray⟩),.v (.int .i64 t.int),.v (.float .f64 t.real),.v (.int .i64 0),.v (.int .i64 t.size)]
def nextS(γ:List (Nat×AV))(b:Bool)(l:List UInt8):Nat×Nat×TokD×Int→St
 |(_,i,t,e)=>⟨⟨98,[(0,.sl b l.length l.length (l.map byteC)),(1,.v (.int .i64 i)),(4,.ptr 0 0 0),(7,.ptr 1 0 0),(8,.v (.int .i64 e))],γ⟩,[⟨0,53,zero6⟩,⟨0,53,tcells t⟩]⟩
def nextI(l:List UInt8)(T:Nat):Nat×Nat×TokD×Int→Prop
 |(0,i,t,e)=>i≤l.length∧T=nextT l i∧t=zeroT∧e=0
 |(1,i,t,e)=>i<l.length∧T=i+1+gapL true (l.drop (i+1))∧t=zeroT∧e=0
 |(2,i,t,e)=>i<l.length∧T=i∧((e=0∧headD (l.drop i)=.ok t)∨(e≠0∧headD (l.drop i)=.error e))
 |_=>False
def nextM(l:List UInt8):Nat×Nat×TokD×Int→Nat
 |(0,i,_,_)=>3 * (l.length-i)+2
 |(1,i,_,_)=>3 * (l.length-i)+1
 |(_,i,_,_)=>0
theorem nextI0{l:List UInt8}{T i:Nat}(h1:i≤l.length)(h2:T=nextT l i):nextI l T (0,i,zeroT,0):=⟨h1,h2,rfl,rfl⟩
theorem nextI1{l:List UInt8}{T i:Nat}(h1:i<l.length)(h2:T=i+1+gapL true (l.drop (i+1))):nextI l T (1,i,zeroT,0):=⟨h1,h2,rfl,rfl⟩
theorem nextI2{l:List UInt8}{T i:Nat}{t:TokD}{e:Int}(h1:i<l.length)(h2:T=i)(h3:(e=0∧headD (l.drop i)=.ok t)∨(e≠0∧headD (l.drop i)=.error e)):nextI l T (2,i,t,e):=⟨h1,h2,h3⟩
theorem numberD_err{s:List UInt8}{e:Int}(h:numberD s=.error e):e≠0:=by
 unfold numberD realD at h
 split at h
 ·split at h
  ·cases h
  ·cases h;decide
 ·split at h
  ·cases h
  ·cases h;decide
theorem textD_err{s:List UInt8}{e:Int}(h:textD s=.error e):e≠0:=by
 unfold textD at h
 split at h
 ·cases h;decide
 ·cases h
set_option maxRecDepth 20000 in
theorem lexNext_ev(hγ:Gl γ)(b:Bool)(l:List UInt8)(i:Nat)(hi:i≤l.length)(hl:l.length≤140737488351232):
  Ev Tp γ 183 [.sl b l.length l.length (l.map byteC),.v (.int .i64 i)] (nextA l i):=by
 refine Ev.of Tryz.func183 rfl ?_;generalize hR:nextA l i=R;have hEnd:l.length≤nextT l i→R=.tup [tokA 0 [] 0 f0 0 0,.v (.bool false),.v (.int .i64 0)]:=fun h=>by rw[←hR,nextA,if_pos h]
 have hErr:∀ e,nextT l i<l.length→headD (l.drop (nextT l i))=.error e→R=.tup [tokA 0 [] 0 f0 (nextT l i) 0,.v (.bool true),.v (.int .i64 e)]:=fun e h1 h2=>by rw[←hR,nextA,if_neg (by omega),h2]
 have hOk:∀ t,nextT l i<l.length→headD (l.drop (nextT l i))=.ok t→R=.tup [t.av (nextT l i),.v (.bool true),.v (.int .i64 0)]:=fun t h1 h2=>by rw[←hR,nextA,if_neg (by omega),h2]
 have hT0:nextT l i=nextT l i:=rfl;generalize hTT:nextT l i=T at hEnd hErr hOk hT0⊢;clear hR;have ha0:∀ j,atL (l.drop j) 0=atL l j:=fun j=>by rw[atL_dropk];rfl
 have ek:∀ (k n:Nat),((n:Int)==(k:Int))=decide (n=k):=fun k n=>by
  by_cases h:n=k
  ·simp[h]
  ·rw[decide_eq_false h];simp;omega
 have nm:=fun (j:Nat) (h:j<l.length)=>lexName_ev (γ:=γ) b (l.drop j) (by rw[Bd];omega) (by rw[Bd];omega)
 have nu:=fun (j:Nat) (h:digitN (atL l j)=true)=>lexNumber_ev (γ:=γ) hγ b (l.drop j) (by rw[ha0];exact h) (by rw[Bd];omega)
 have tx:=fun (j:Nat)=>lexText_ev (γ:=γ) b (l.drop j) (by rw[Bd];omega)
 have mk:=fun (m:Int) hm (j:Nat) (h:j<l.length)=>lexMark_ev (γ:=γ) m hm b (l.drop j) (by rw[Bd];omega) (by rw[Bd];omega)
 simp only[Bd,List.map_drop]at nm nu tx mk;obtain⟨mx,hmx⟩:=hγ.1;simp only[Tryz.f183,evS,tyS,Nat.reduceAdd,Nat.reduceSub,Nat.reduceLT];refine SemK.scope (nextS γ b l) (nextI l T) (fun a=>a.1) (nextM l) ?_ ?_
 ·have hjT:T=nextT l i:=hTT.symm;simp only[evS,tyS,Nat.reduceAdd,Nat.reduceLT,Nat.reduceLeDiff,Nat.reduceEqDiff,reduceCtorEq];refine CondK.intro (fun h=>?_) (fun h=>?_)<;>simp only[h,lS,evS,tyS,Nat.reduceAdd,Nat.reduceLT,Nat.reduceLeDiff,Nat.reduceEqDiff,reduceCtorEq]
  ·have hge:l.length≤i:=by ((try simp only[decide_eq_true_eq]at *)<;>(try omega))
   rw[hEnd (by rw[hjT,nextT];omega)];simp only[tokA,f0,evS]
  ·have hlt:i<l.length:=by ((try simp only[decide_eq_false_iff_not]at *)<;>(try omega))
   have ew:IntKind.i64.wrap ((i:Int)+1)=((i+1:Nat):Int):=i64w (by omega) (by omega);have ea:∀ j,(l.getD j 0).toNat=atL l j:=fun _=>rfl
   (repeat' (with_reducible refine aI ?_ ?_))
   all_goals try (((try simp only[decide_eq_false_iff_not]at *)<;>(try omega));done)
   have c32:((atL l i:Int)==32)=decide (atL l i=32):=ek 32 _;have c9:((atL l i:Int)==9)=decide (atL l i=9):=ek 9 _;have c10:((atL l i:Int)==10)=decide (atL l i=10):=ek 10 _;have c13:((atL l i:Int)==13)=decide (atL l i=13):=ek 13 _;have c35:((atL l i:Int)==35)=decide (atL l i=35):=ek 35 _;have c34:((atL l i:Int)==34)=decide (atL l i=34):=ek 34 _
   by_cases hb:blankN (atL l i)=true
   ·have hb':=of_decide_eq_true hb;have hgb:=gap_blank hlt hb;simp only[ea,c32]
    (repeat' (first|(with_reducible refine aI ?_ ?_)|(first|(first|refine gF ?_ ?_|refine gT ?_ ?_|refine cI ?_ ?_|refine pI ?_ ?_)<;>intro h|(refine dI ?_;have h:=trivial))<;>simp only[h,ew,lS,c9,c10,c13,evS,Nat.reduceLT,Nat.reduceEqDiff,reduceCtorEq,ea,c32,tyS,Bv,Bf,Nat.reduceAdd,Nat.reduceSub,Nat.reduceMul,Nat.reduceLeDiff,List.reduceReplicate,Int.reduceToNat,Int.reduceLE,Int.reduceLT]))
    all_goals first
     |(refine labelC.intro (0,i+1,zeroT,0) (nextI0 (by omega) (by rw[hjT,nextT,hgb,nextT];omega)) rfl ?_ (by intro k hk;cases hk)
       simp only[nextS,tcells,zeroT,evS,Nat.reduceAdd,Nat.reduceEqDiff,reduceCtorEq]
       (repeat' (first|(with_reducible refine aI ?_ ?_)|(first|(first|refine gF ?_ ?_|refine gT ?_ ?_|refine cI ?_ ?_|refine pI ?_ ?_)<;>intro h|(refine dI ?_;have h:=trivial))<;>simp only[h,evS,tyS,Bv,Bf,Nat.reduceAdd,Nat.reduceSub,Nat.reduceMul,Nat.reduceLT,Nat.reduceLeDiff,Nat.reduceEqDiff,reduceCtorEq,List.reduceReplicate,Int.reduceToNat,Int.reduceLE,Int.reduceLT]))
       all_goals first|rfl|trivial|exact .inl rfl)
     |(exfalso;((try simp only[decide_eq_false_iff_not,beq_iff_eq,ne_eq,beq_eq_false_iff_ne]at *)<;>(try omega)))
   ·have hb1:blankN (atL l i)=false:=by simpa using hb
    have hb':=of_decide_eq_false hb1;have d32:decide (atL l i=32)=false:=decide_eq_false (by omega);have d9:decide (atL l i=9)=false:=decide_eq_false (by omega);have d10:decide (atL l i=10)=false:=decide_eq_false (by omega);have d13:decide (atL l i=13)=false:=decide_eq_false (by omega);simp only[ea,c32,c9,c10,c13,d32,d9,d10,d13,c35,evS,Nat.reduceLT,Nat.reduceEqDiff,reduceCtorEq];refine CondK.intro (fun h35=>?_) (fun h35=>?_)<;>simp only[h35,lS,evS,Nat.reduceLT,Nat.reduceEqDiff,reduceCtorEq]
    ·refine labelC.intro (1,i,zeroT,0) (nextI1 hlt (by rw[hjT,nextT,gap_com hlt hb1 (of_decide_eq_true h35)];omega)) rfl ?_ (by intro k hk;cases hk);simp only[nextS,tcells,zeroT,evS,Nat.reduceAdd,Nat.reduceEqDiff,reduceCtorEq]
     (repeat' (first|(with_reducible refine aI ?_ ?_)|(first|(first|refine gF ?_ ?_|refine gT ?_ ?_|refine cI ?_ ?_|refine pI ?_ ?_)<;>intro h|(refine dI ?_;have h:=trivial))<;>simp only[h,evS,tyS,Bv,Bf,Nat.reduceAdd,Nat.reduceSub,Nat.reduceMul,Nat.reduceLT,Nat.reduceLeDiff,Nat.reduceEqDiff,reduceCtorEq,List.reduceReplicate,Int.reduceToNat,Int.reduceLE,Int.reduceLT]))
     all_goals first|rfl|trivial|exact .inl rfl
    ·have hTj:T=i:=by rw[hjT,nextT,gap_stop hlt hb1 (of_decide_eq_false h35)];omega
     have hh:headD (l.drop i)=if letterN (atL l i)=true then (if 32<spanEnd nameN (l.drop i) 1 then .error 13 else .ok ⟨1,(l.drop i).take (spanEnd nameN (l.drop i) 1),0,0,spanEnd nameN (l.drop i) 1⟩)
       else if digitN (atL l i)=true then numberD (l.drop i)
       else if atL l i=34 then textD (l.drop i)
       else if markN (l.drop i)=0 then .error 10 else .ok ⟨5,(l.drop i).take (markN (l.drop i)),0,0,markN (l.drop i)⟩:=by rw[headD,ha0]
     refine CallK.intro b45 rfl (lexLetter_ev _) ?_;cases hlet:letterN (atL l i)with
     |true=>
      rw[if_pos hlet]at hh;simp only[evS,tyS,Nat.reduceLT,Nat.reduceEqDiff,reduceCtorEq]
      (repeat' (first|(with_reducible refine aI ?_ ?_)|(first|(first|refine gF ?_ ?_|refine gT ?_ ?_|refine cI ?_ ?_|refine pI ?_ ?_)<;>intro h|(refine dI ?_;have h:=trivial))<;>simp only[h,lS,ea,evS,tyS,Bv,Bf,Nat.reduceAdd,Nat.reduceSub,Nat.reduceMul,Nat.reduceLT,Nat.reduceLeDiff,Nat.reduceEqDiff,reduceCtorEq,List.reduceReplicate,Int.reduceToNat,Int.reduceLE,Int.reduceLT]))
      all_goals try (((try simp only[decide_eq_false_iff_not]at *)<;>(try omega));done)
      refine CallK.intro b46 (by simp[treeL,treeA]) (nm i hlt) ?_;generalize spanEnd nameN (l.drop i) 1=n at hh⊢;simp only[tokA,f0,evS,tyS,Nat.reduceAdd,Nat.reduceLT,Nat.reduceLeDiff,Nat.reduceEqDiff,reduceCtorEq];refine CondK.intro (fun h32=>?_) (fun h32=>?_)<;>simp only[h32,lS,evS,Nat.reduceLT]
      ·rw[if_pos (by have:=of_decide_eq_true h32;omega)]at hh;refine labelC.intro (2,i,⟨1,(l.drop i).take n,0,0,n⟩,13) (nextI2 hlt hTj (.inr ⟨by decide,hh⟩)) rfl ?_ (by intro k hk;cases hk);simp only[nextS,tcells,evS,Nat.reduceAdd,Nat.reduceEqDiff,reduceCtorEq]
       (repeat' (first|(with_reducible refine aI ?_ ?_)|(first|(first|refine gF ?_ ?_|refine gT ?_ ?_|refine cI ?_ ?_|refine pI ?_ ?_)<;>intro h|(refine dI ?_;have h:=trivial))<;>simp only[h,evS,tyS,Bv,Bf,Nat.reduceAdd,Nat.reduceSub,Nat.reduceMul,Nat.reduceLT,Nat.reduceLeDiff,Nat.reduceEqDiff,reduceCtorEq,List.reduceReplicate,Int.reduceToNat,Int.reduceLE,Int.reduceLT]))
       all_goals first|rfl|trivial|exact .inl rfl
      ·rw[if_neg (by have:=of_decide_eq_false h32;omega)]at hh;refine labelC.intro (2,i,⟨1,(l.drop i).take n,0,0,n⟩,0) (nextI2 hlt hTj (.inl ⟨rfl,hh⟩)) rfl ?_ (by intro k hk;cases hk);simp only[nextS,tcells,evS,Nat.reduceAdd,Nat.reduceEqDiff,reduceCtorEq]
       (repeat' (first|(with_reducible refine aI ?_ ?_)|(first|(first|refine gF ?_ ?_|refine gT ?_ ?_|refine cI ?_ ?_|refine pI ?_ ?_)<;>intro h|(refine dI ?_;have h:=trivial))<;>simp only[h,evS,tyS,Bv,Bf,Nat.reduceAdd,Nat.reduceSub,Nat.reduceMul,Nat.reduceLT,Nat.reduceLeDiff,Nat.reduceEqDiff,reduceCtorEq,List.reduceReplicate,Int.reduceToNat,Int.reduceLE,Int.reduceLT]))
       all_goals first|rfl|trivial|exact .inl rfl
     |false=>
      rw[if_neg (by rw[hlet];decide)]at hh;simp only[evS,Nat.reduceLT,Nat.reduceEqDiff,reduceCtorEq];refine CallK.intro b47 rfl (lexDigit_ev _) ?_;cases hdig:digitN (atL l i)with
      |true=>
       rw[if_pos hdig]at hh;simp only[evS,tyS,Nat.reduceLT,Nat.reduceEqDiff,reduceCtorEq]
       (repeat' (first|(with_reducible refine aI ?_ ?_)|(first|(first|refine gF ?_ ?_|refine gT ?_ ?_|refine cI ?_ ?_|refine pI ?_ ?_)<;>intro h|(refine dI ?_;have h:=trivial))<;>simp only[h,lS,ea,evS,tyS,Bv,Bf,Nat.reduceAdd,Nat.reduceSub,Nat.reduceMul,Nat.reduceLT,Nat.reduceLeDiff,Nat.reduceEqDiff,reduceCtorEq,List.reduceReplicate,Int.reduceToNat,Int.reduceLE,Int.reduceLT]))
       all_goals try (((try simp only[decide_eq_false_iff_not]at *)<;>(try omega));done)
       have hn:=nu i hdig;rw[numberD_av]at hn;cases hN:numberD (l.drop i)with
       |ok t=>
        rw[hN]at hn hh;refine CallK.intro b48 (by simp[treeL,treeA]) hn ?_;simp only[lS,resTA,okTok,TokD.av,tokA,evS,tyS,Nat.reduceAdd,Nat.reduceLT,Nat.reduceLeDiff,Nat.reduceEqDiff,reduceCtorEq];refine labelC.intro (2,i,t,0) (nextI2 hlt hTj (.inl ⟨rfl,hh⟩)) rfl ?_ (by intro k hk;cases hk);simp only[nextS,tcells,evS,Nat.reduceAdd,Nat.reduceEqDiff,reduceCtorEq]
        (repeat' (first|(with_reducible refine aI ?_ ?_)|(first|(first|refine gF ?_ ?_|refine gT ?_ ?_|refine cI ?_ ?_|refine pI ?_ ?_)<;>intro h|(refine dI ?_;have h:=trivial))<;>simp only[h,evS,tyS,Bv,Bf,Nat.reduceAdd,Nat.reduceSub,Nat.reduceMul,Nat.reduceLT,Nat.reduceLeDiff,Nat.reduceEqDiff,reduceCtorEq,List.reduceReplicate,Int.reduceToNat,Int.reduceLE,Int.reduceLT]))
        all_goals first|rfl|trivial|exact .inl rfl
       |error e=>
        rw[hN]at hn hh;refine CallK.intro b48 (by simp[treeL,treeA]) hn ?_;simp only[lS,resTA,errTok,tokA,f0,evS,tyS,Nat.reduceAdd,Nat.reduceLT,Nat.reduceLeDiff,Nat.reduceEqDiff,reduceCtorEq];refine labelC.intro (2,i,zeroT,e) (nextI2 hlt hTj (.inr ⟨numberD_err hN,hh⟩)) rfl ?_ (by intro k hk;cases hk);simp only[nextS,tcells,zeroT,evS,Nat.reduceAdd,Nat.reduceEqDiff,reduceCtorEq]
        (repeat' (first|(with_reducible refine aI ?_ ?_)|(first|(first|refine gF ?_ ?_|refine gT ?_ ?_|refine cI ?_ ?_|refine pI ?_ ?_)<;>intro h|(refine dI ?_;have h:=trivial))<;>simp only[h,evS,tyS,Bv,Bf,Nat.reduceAdd,Nat.reduceSub,Nat.reduceMul,Nat.reduceLT,Nat.reduceLeDiff,Nat.reduceEqDiff,reduceCtorEq,List.reduceReplicate,Int.reduceToNat,Int.reduceLE,Int.reduceLT]))
        all_goals first|rfl|trivial|exact .inl rfl
      |false=>
       rw[if_neg (by rw[hdig];decide)]at hh;simp only[c34,evS,Nat.reduceLT,Nat.reduceEqDiff,reduceCtorEq];refine CondK.intro (fun h34=>?_) (fun h34=>?_)<;>simp only[h34,evS,tyS,Nat.reduceLT,Nat.reduceEqDiff,reduceCtorEq]
       ·rw[if_pos (of_decide_eq_true h34)]at hh
        (repeat' (first|(with_reducible refine aI ?_ ?_)|(first|(first|refine gF ?_ ?_|refine gT ?_ ?_|refine cI ?_ ?_|refine pI ?_ ?_)<;>intro h|(refine dI ?_;have h:=trivial))<;>simp only[h,lS,ea,evS,tyS,Bv,Bf,Nat.reduceAdd,Nat.reduceSub,Nat.reduceMul,Nat.reduceLT,Nat.reduceLeDiff,Nat.reduceEqDiff,reduceCtorEq,List.reduceReplicate,Int.reduceToNat,Int.reduceLE,Int.reduceLT]))
        all_goals try (((try simp only[decide_eq_true_eq,decide_eq_false_iff_not]at *)<;>(try omega));done)
        have hn:=tx i;have hte:=textD_av (l.drop i);rw[Bd]at hte;rw[hte]at hn;cases hN:textD (l.drop i)with
        |ok t=>
         rw[hN]at hn hh;refine CallK.intro b49 (by simp[treeL,treeA]) hn ?_;simp only[lS,resTA,okTok,TokD.av,tokA,evS,tyS,Nat.reduceAdd,Nat.reduceLT,Nat.reduceLeDiff,Nat.reduceEqDiff,reduceCtorEq];refine labelC.intro (2,i,t,0) (nextI2 hlt hTj (.inl ⟨rfl,hh⟩)) rfl ?_ (by intro k hk;cases hk);simp only[nextS,tcells,evS,Nat.reduceAdd,Nat.reduceEqDiff,reduceCtorEq]
         (repeat' (first|(with_reducible refine aI ?_ ?_)|(first|(first|refine gF ?_ ?_|refine gT ?_ ?_|refine cI ?_ ?_|refine pI ?_ ?_)<;>intro h|(refine dI ?_;have h:=trivial))<;>simp only[h,evS,tyS,Bv,Bf,Nat.reduceAdd,Nat.reduceSub,Nat.reduceMul,Nat.reduceLT,Nat.reduceLeDiff,Nat.reduceEqDiff,reduceCtorEq,List.reduceReplicate,Int.reduceToNat,Int.reduceLE,Int.reduceLT]))
         all_goals first|rfl|trivial|exact .inl rfl
        |error e=>
         rw[hN]at hn hh;refine CallK.intro b49 (by simp[treeL,treeA]) hn ?_;simp only[lS,resTA,errTok,tokA,f0,evS,tyS,Nat.reduceAdd,Nat.reduceLT,Nat.reduceLeDiff,Nat.reduceEqDiff,reduceCtorEq];refine labelC.intro (2,i,zeroT,e) (nextI2 hlt hTj (.inr ⟨textD_err hN,hh⟩)) rfl ?_ (by intro k hk;cases hk);simp only[nextS,tcells,zeroT,evS,Nat.reduceAdd,Nat.reduceEqDiff,reduceCtorEq]
         (repeat' (first|(with_reducible refine aI ?_ ?_)|(first|(first|refine gF ?_ ?_|refine gT ?_ ?_|refine cI ?_ ?_|refine pI ?_ ?_)<;>intro h|(refine dI ?_;have h:=trivial))<;>simp only[h,evS,tyS,Bv,Bf,Nat.reduceAdd,Nat.reduceSub,Nat.reduceMul,Nat.reduceLT,Nat.reduceLeDiff,Nat.reduceEqDiff,reduceCtorEq,List.reduceReplicate,Int.reduceToNat,Int.reduceLE,Int.reduceLT]))
         all_goals first|rfl|trivial|exact .inl rfl
       ·rw[if_neg (of_decide_eq_false h34)]at hh
        (repeat' (first|(with_reducible refine aI ?_ ?_)|(first|(first|refine gF ?_ ?_|refine gT ?_ ?_|refine cI ?_ ?_|refine pI ?_ ?_)<;>intro h|(refine dI ?_;have h:=trivial))<;>simp only[h,lS,ea,evS,tyS,Bv,Bf,Nat.reduceAdd,Nat.reduceSub,Nat.reduceMul,Nat.reduceLT,Nat.reduceLeDiff,Nat.reduceEqDiff,reduceCtorEq,List.reduceReplicate,Int.reduceToNat,Int.reduceLE,Int.reduceLT]))
        all_goals try (((try simp only[decide_eq_false_iff_not]at *)<;>(try omega));done)
        have hn:=mk mx hmx i hlt;refine CallK.intro b50 (by simp[treeL,treeA]) hn ?_
        by_cases hm0:markN (l.drop i)=0
        ·rw[if_pos hm0]at hh;rw[markA,if_pos hm0];have z00:((0:Int)==0)=true:=by decide
         simp only[lS,tokA,f0,z00,evS,tyS,Nat.reduceAdd,Nat.reduceLT,Nat.reduceLeDiff,Nat.reduceEqDiff,reduceCtorEq];refine labelC.intro (2,i,zeroT,10) (nextI2 hlt hTj (.inr ⟨by decide,hh⟩)) rfl ?_ (by intro k hk;cases hk);simp only[nextS,tcells,zeroT,evS,Nat.reduceAdd,Nat.reduceEqDiff,reduceCtorEq]
         (repeat' (first|(with_reducible refine aI ?_ ?_)|(first|(first|refine gF ?_ ?_|refine gT ?_ ?_|refine cI ?_ ?_|refine pI ?_ ?_)<;>intro h|(refine dI ?_;have h:=trivial))<;>simp only[h,evS,tyS,Bv,Bf,Nat.reduceAdd,Nat.reduceSub,Nat.reduceMul,Nat.reduceLT,Nat.reduceLeDiff,Nat.reduceEqDiff,reduceCtorEq,List.reduceReplicate,Int.reduceToNat,Int.reduceLE,Int.reduceLT]))
         all_goals first|rfl|trivial|exact .inl rfl
        ·rw[if_neg hm0]at hh;rw[markA,if_neg hm0];generalize markN (l.drop i)=n at hh⊢;have z50:((5:Int)==0)=false:=by decide
         simp only[lS,tokA,f0,z50,evS,tyS,Nat.reduceAdd,Nat.reduceLT,Nat.reduceLeDiff,Nat.reduceEqDiff,reduceCtorEq];refine labelC.intro (2,i,⟨5,(l.drop i).take n,0,0,n⟩,0) (nextI2 hlt hTj (.inl ⟨rfl,hh⟩)) rfl ?_ (by intro k hk;cases hk);simp only[nextS,tcells,evS,Nat.reduceAdd,Nat.reduceEqDiff,reduceCtorEq]
         (repeat' (first|(with_reducible refine aI ?_ ?_)|(first|(first|refine gF ?_ ?_|refine gT ?_ ?_|refine cI ?_ ?_|refine pI ?_ ?_)<;>intro h|(refine dI ?_;have h:=trivial))<;>simp only[h,evS,tyS,Bv,Bf,Nat.reduceAdd,Nat.reduceSub,Nat.reduceMul,Nat.reduceLT,Nat.reduceLeDiff,Nat.reduceEqDiff,reduceCtorEq,List.reduceReplicate,Int.reduceToNat,Int.reduceLE,Int.reduceLT]))
         all_goals first|rfl|trivial|exact .inl rfl
 ·rintro⟨lb,j,t,e⟩ hj
  match lb,hj with
  |0,hj=>
   obtain⟨hj1,hjT,rfl,rfl⟩:=hj;refine⟨_,rfl,?_⟩;simp only[nextS,tcells,zeroT,zero6,evS,tyS,Nat.reduceLT,Nat.reduceEqDiff,reduceCtorEq];refine CondK.intro (fun h=>?_) (fun h=>?_)<;>simp only[h,lS,evS,tyS,Nat.reduceAdd,Nat.reduceLT,Nat.reduceLeDiff,Nat.reduceEqDiff,reduceCtorEq]
   ·have hge:l.length≤j:=by ((try simp only[decide_eq_true_eq]at *)<;>(try omega))
    rw[hEnd (by rw[hjT,nextT];omega)];simp only[tokA,f0,evS]
   ·have hlt:j<l.length:=by ((try simp only[decide_eq_false_iff_not]at *)<;>(try omega))
    have ew:IntKind.i64.wrap ((j:Int)+1)=((j+1:Nat):Int):=i64w (by omega) (by omega);have ea:∀ j,(l.getD j 0).toNat=atL l j:=fun _=>rfl
    (repeat' (with_reducible refine aI ?_ ?_))
    all_goals try (((try simp only[decide_eq_false_iff_not]at *)<;>(try omega));done)
    have c32:((atL l j:Int)==32)=decide (atL l j=32):=ek 32 _;have c9:((atL l j:Int)==9)=decide (atL l j=9):=ek 9 _;have c10:((atL l j:Int)==10)=decide (atL l j=10):=ek 10 _;have c13:((atL l j:Int)==13)=decide (atL l j=13):=ek 13 _;have c35:((atL l j:Int)==35)=decide (atL l j=35):=ek 35 _;have c34:((atL l j:Int)==34)=decide (atL l j=34):=ek 34 _
    by_cases hb:blankN (atL l j)=true
    ·have hb':=of_decide_eq_true hb;have hgb:=gap_blank hlt hb;simp only[ea,c32]
     (repeat' (first|(with_reducible refine aI ?_ ?_)|(first|(first|refine gF ?_ ?_|refine gT ?_ ?_|refine cI ?_ ?_|refine pI ?_ ?_)<;>intro h|(refine dI ?_;have h:=trivial))<;>simp only[h,ew,lS,c9,c10,c13,evS,Nat.reduceLT,Nat.reduceEqDiff,reduceCtorEq,ea,c32,tyS,Bv,Bf,Nat.reduceAdd,Nat.reduceSub,Nat.reduceMul,Nat.reduceLeDiff,List.reduceReplicate,Int.reduceToNat,Int.reduceLE,Int.reduceLT]))
     all_goals first
      |(refine labelC.intro (0,j+1,zeroT,0) (nextI0 (by omega) (by rw[hjT,nextT,hgb,nextT];omega)) rfl ?_ (by intro k hk;cases hk;simp only[nextM];omega)
        simp only[nextS,tcells,zeroT,evS,Nat.reduceAdd,Nat.reduceEqDiff,reduceCtorEq]
        (repeat' (first|(with_reducible refine aI ?_ ?_)|(first|(first|refine gF ?_ ?_|refine gT ?_ ?_|refine cI ?_ ?_|refine pI ?_ ?_)<;>intro h|(refine dI ?_;have h:=trivial))<;>simp only[h,evS,tyS,Bv,Bf,Nat.reduceAdd,Nat.reduceSub,Nat.reduceMul,Nat.reduceLT,Nat.reduceLeDiff,Nat.reduceEqDiff,reduceCtorEq,List.reduceReplicate,Int.reduceToNat,Int.reduceLE,Int.reduceLT]))
        all_goals first|rfl|trivial|exact .inl rfl)
      |(exfalso;((try simp only[decide_eq_false_iff_not,beq_iff_eq,ne_eq,beq_eq_false_iff_ne]at *)<;>(try omega)))
    ·have hb1:blankN (atL l j)=false:=by simpa using hb
     have hb':=of_decide_eq_false hb1;have d32:decide (atL l j=32)=false:=decide_eq_false (by omega);have d9:decide (atL l j=9)=false:=decide_eq_false (by omega);have d10:decide (atL l j=10)=false:=decide_eq_false (by omega);have d13:decide (atL l j=13)=false:=decide_eq_false (by omega);simp only[ea,c32,c9,c10,c13,d32,d9,d10,d13,c35,evS,Nat.reduceLT,Nat.reduceEqDiff,reduceCtorEq];refine CondK.intro (fun h35=>?_) (fun h35=>?_)<;>simp only[h35,lS,evS,Nat.reduceLT,Nat.reduceEqDiff,reduceCtorEq]
     ·refine labelC.intro (1,j,zeroT,0) (nextI1 hlt (by rw[hjT,nextT,gap_com hlt hb1 (of_decide_eq_true h35)];omega)) rfl ?_ (by intro k hk;cases hk;simp only[nextM];omega);simp only[nextS,tcells,zeroT,evS,Nat.reduceAdd,Nat.reduceEqDiff,reduceCtorEq]
      (repeat' (first|(with_reducible refine aI ?_ ?_)|(first|(first|refine gF ?_ ?_|refine gT ?_ ?_|refine cI ?_ ?_|refine pI ?_ ?_)<;>intro h|(refine dI ?_;have h:=trivial))<;>simp only[h,evS,tyS,Bv,Bf,Nat.reduceAdd,Nat.reduceSub,Nat.reduceMul,Nat.reduceLT,Nat.reduceLeDiff,Nat.reduceEqDiff,reduceCtorEq,List.reduceReplicate,Int.reduceToNat,Int.reduceLE,Int.reduceLT]))
      all_goals first|rfl|trivial|exact .inl rfl
     ·have hTj:T=j:=by rw[hjT,nextT,gap_stop hlt hb1 (of_decide_eq_false h35)];omega
      have hh:headD (l.drop j)=if letterN (atL l j)=true then (if 32<spanEnd nameN (l.drop j) 1 then .error 13 else .ok ⟨1,(l.drop j).take (spanEnd nameN (l.drop j) 1),0,0,spanEnd nameN (l.drop j) 1⟩)
        else if digitN (atL l j)=true then numberD (l.drop j)
        else if atL l j=34 then textD (l.drop j)
        else if markN (l.drop j)=0 then .error 10 else .ok ⟨5,(l.drop j).take (markN (l.drop j)),0,0,markN (l.drop j)⟩:=by rw[headD,ha0]
      refine CallK.intro b45 rfl (lexLetter_ev _) ?_;cases hlet:letterN (atL l j)with
      |true=>
       rw[if_pos hlet]at hh;simp only[evS,tyS,Nat.reduceLT,Nat.reduceEqDiff,reduceCtorEq]
       (repeat' (first|(with_reducible refine aI ?_ ?_)|(first|(first|refine gF ?_ ?_|refine gT ?_ ?_|refine cI ?_ ?_|refine pI ?_ ?_)<;>intro h|(refine dI ?_;have h:=trivial))<;>simp only[h,lS,ea,evS,tyS,Bv,Bf,Nat.reduceAdd,Nat.reduceSub,Nat.reduceMul,Nat.reduceLT,Nat.reduceLeDiff,Nat.reduceEqDiff,reduceCtorEq,List.reduceReplicate,Int.reduceToNat,Int.reduceLE,Int.reduceLT]))
       all_goals try (((try simp only[decide_eq_false_iff_not]at *)<;>(try omega));done)
       refine CallK.intro b46 (by simp[treeL,treeA]) (nm j hlt) ?_;generalize spanEnd nameN (l.drop j) 1=n at hh⊢;simp only[tokA,f0,evS,tyS,Nat.reduceAdd,Nat.reduceLT,Nat.reduceLeDiff,Nat.reduceEqDiff,reduceCtorEq];refine CondK.intro (fun h32=>?_) (fun h32=>?_)<;>simp only[h32,lS,evS,Nat.reduceLT]
       ·rw[if_pos (by have:=of_decide_eq_true h32;omega)]at hh;refine labelC.intro (2,j,⟨1,(l.drop j).take n,0,0,n⟩,13) (nextI2 hlt hTj (.inr ⟨by decide,hh⟩)) rfl ?_ (by intro k hk;cases hk;simp only[nextM];omega);simp only[nextS,tcells,evS,Nat.reduceAdd,Nat.reduceEqDiff,reduceCtorEq]
        (repeat' (first|(with_reducible refine aI ?_ ?_)|(first|(first|refine gF ?_ ?_|refine gT ?_ ?_|refine cI ?_ ?_|refine pI ?_ ?_)<;>intro h|(refine dI ?_;have h:=trivial))<;>simp only[h,evS,tyS,Bv,Bf,Nat.reduceAdd,Nat.reduceSub,Nat.reduceMul,Nat.reduceLT,Nat.reduceLeDiff,Nat.reduceEqDiff,reduceCtorEq,List.reduceReplicate,Int.reduceToNat,Int.reduceLE,Int.reduceLT]))
        all_goals first|rfl|trivial|exact .inl rfl
       ·rw[if_neg (by have:=of_decide_eq_false h32;omega)]at hh;refine labelC.intro (2,j,⟨1,(l.drop j).take n,0,0,n⟩,0) (nextI2 hlt hTj (.inl ⟨rfl,hh⟩)) rfl ?_ (by intro k hk;cases hk;simp only[nextM];omega);simp only[nextS,tcells,evS,Nat.reduceAdd,Nat.reduceEqDiff,reduceCtorEq]
        (repeat' (first|(with_reducible refine aI ?_ ?_)|(first|(first|refine gF ?_ ?_|refine gT ?_ ?_|refine cI ?_ ?_|refine pI ?_ ?_)<;>intro h|(refine dI ?_;have h:=trivial))<;>simp only[h,evS,tyS,Bv,Bf,Nat.reduceAdd,Nat.reduceSub,Nat.reduceMul,Nat.reduceLT,Nat.reduceLeDiff,Nat.reduceEqDiff,reduceCtorEq,List.reduceReplicate,Int.reduceToNat,Int.reduceLE,Int.reduceLT]))
        all_goals first|rfl|trivial|exact .inl rfl
      |false=>
       rw[if_neg (by rw[hlet];decide)]at hh;simp only[evS,Nat.reduceLT,Nat.reduceEqDiff,reduceCtorEq];refine CallK.intro b47 rfl (lexDigit_ev _) ?_;cases hdig:digitN (atL l j)with
       |true=>
        rw[if_pos hdig]at hh;simp only[evS,tyS,Nat.reduceLT,Nat.reduceEqDiff,reduceCtorEq]
        (repeat' (first|(with_reducible refine aI ?_ ?_)|(first|(first|refine gF ?_ ?_|refine gT ?_ ?_|refine cI ?_ ?_|refine pI ?_ ?_)<;>intro h|(refine dI ?_;have h:=trivial))<;>simp only[h,lS,ea,evS,tyS,Bv,Bf,Nat.reduceAdd,Nat.reduceSub,Nat.reduceMul,Nat.reduceLT,Nat.reduceLeDiff,Nat.reduceEqDiff,reduceCtorEq,List.reduceReplicate,Int.reduceToNat,Int.reduceLE,Int.reduceLT]))
        all_goals try (((try simp only[decide_eq_false_iff_not]at *)<;>(try omega));done)
        have hn:=nu j hdig;rw[numberD_av]at hn;cases hN:numberD (l.drop j)with
        |ok t=>
         rw[hN]at hn hh;refine CallK.intro b48 (by simp[treeL,treeA]) hn ?_;simp only[lS,resTA,okTok,TokD.av,tokA,evS,tyS,Nat.reduceAdd,Nat.reduceLT,Nat.reduceLeDiff,Nat.reduceEqDiff,reduceCtorEq];refine labelC.intro (2,j,t,0) (nextI2 hlt hTj (.inl ⟨rfl,hh⟩)) rfl ?_ (by intro k hk;cases hk;simp only[nextM];omega);simp only[nextS,tcells,evS,Nat.reduceAdd,Nat.reduceEqDiff,reduceCtorEq]
         (repeat' (first|(with_reducible refine aI ?_ ?_)|(first|(first|refine gF ?_ ?_|refine gT ?_ ?_|refine cI ?_ ?_|refine pI ?_ ?_)<;>intro h|(refine dI ?_;have h:=trivial))<;>simp only[h,evS,tyS,Bv,Bf,Nat.reduceAdd,Nat.reduceSub,Nat.reduceMul,Nat.reduceLT,Nat.reduceLeDiff,Nat.reduceEqDiff,reduceCtorEq,List.reduceReplicate,Int.reduceToNat,Int.reduceLE,Int.reduceLT]))
         all_goals first|rfl|trivial|exact .inl rfl
        |error e=>
         rw[hN]at hn hh;refine CallK.intro b48 (by simp[treeL,treeA]) hn ?_;simp only[lS,resTA,errTok,tokA,f0,evS,tyS,Nat.reduceAdd,Nat.reduceLT,Nat.reduceLeDiff,Nat.reduceEqDiff,reduceCtorEq];refine labelC.intro (2,j,zeroT,e) (nextI2 hlt hTj (.inr ⟨numberD_err hN,hh⟩)) rfl ?_ (by intro k hk;cases hk;simp only[nextM];omega);simp only[nextS,tcells,zeroT,evS,Nat.reduceAdd,Nat.reduceEqDiff,reduceCtorEq]
         (repeat' (first|(with_reducible refine aI ?_ ?_)|(first|(first|refine gF ?_ ?_|refine gT ?_ ?_|refine cI ?_ ?_|refine pI ?_ ?_)<;>intro h|(refine dI ?_;have h:=trivial))<;>simp only[h,evS,tyS,Bv,Bf,Nat.reduceAdd,Nat.reduceSub,Nat.reduceMul,Nat.reduceLT,Nat.reduceLeDiff,Nat.reduceEqDiff,reduceCtorEq,List.reduceReplicate,Int.reduceToNat,Int.reduceLE,Int.reduceLT]))
         all_goals first|rfl|trivial|exact .inl rfl
       |false=>
        rw[if_neg (by rw[hdig];decide)]at hh;simp only[c34,evS,Nat.reduceLT,Nat.reduceEqDiff,reduceCtorEq];refine CondK.intro (fun h34=>?_) (fun h34=>?_)<;>simp only[h34,evS,tyS,Nat.reduceLT,Nat.reduceEqDiff,reduceCtorEq]
        ·rw[if_pos (of_decide_eq_true h34)]at hh
         (repeat' (first|(with_reducible refine aI ?_ ?_)|(first|(first|refine gF ?_ ?_|refine gT ?_ ?_|refine cI ?_ ?_|refine pI ?_ ?_)<;>intro h|(refine dI ?_;have h:=trivial))<;>simp only[h,lS,ea,evS,tyS,Bv,Bf,Nat.reduceAdd,Nat.reduceSub,Nat.reduceMul,Nat.reduceLT,Nat.reduceLeDiff,Nat.reduceEqDiff,reduceCtorEq,List.reduceReplicate,Int.reduceToNat,Int.reduceLE,Int.reduceLT]))
         all_goals try (((try simp only[decide_eq_true_eq,decide_eq_false_iff_not]at *)<;>(try omega));done)
         have hn:=tx j;have hte:=textD_av (l.drop j);rw[Bd]at hte;rw[hte]at hn;cases hN:textD (l.drop j)with
         |ok t=>
          rw[hN]at hn hh;refine CallK.intro b49 (by simp[treeL,treeA]) hn ?_;simp only[lS,resTA,okTok,TokD.av,tokA,evS,tyS,Nat.reduceAdd,Nat.reduceLT,Nat.reduceLeDiff,Nat.reduceEqDiff,reduceCtorEq];refine labelC.intro (2,j,t,0) (nextI2 hlt hTj (.inl ⟨rfl,hh⟩)) rfl ?_ (by intro k hk;cases hk;simp only[nextM];omega);simp only[nextS,tcells,evS,Nat.reduceAdd,Nat.reduceEqDiff,reduceCtorEq]
          (repeat' (first|(with_reducible refine aI ?_ ?_)|(first|(first|refine gF ?_ ?_|refine gT ?_ ?_|refine cI ?_ ?_|refine pI ?_ ?_)<;>intro h|(refine dI ?_;have h:=trivial))<;>simp only[h,evS,tyS,Bv,Bf,Nat.reduceAdd,Nat.reduceSub,Nat.reduceMul,Nat.reduceLT,Nat.reduceLeDiff,Nat.reduceEqDiff,reduceCtorEq,List.reduceReplicate,Int.reduceToNat,Int.reduceLE,Int.reduceLT]))
          all_goals first|rfl|trivial|exact .inl rfl
         |error e=>
          rw[hN]at hn hh;refine CallK.intro b49 (by simp[treeL,treeA]) hn ?_;simp only[lS,resTA,errTok,tokA,f0,evS,tyS,Nat.reduceAdd,Nat.reduceLT,Nat.reduceLeDiff,Nat.reduceEqDiff,reduceCtorEq];refine labelC.intro (2,j,zeroT,e) (nextI2 hlt hTj (.inr ⟨textD_err hN,hh⟩)) rfl ?_ (by intro k hk;cases hk;simp only[nextM];omega);simp only[nextS,tcells,zeroT,evS,Nat.reduceAdd,Nat.reduceEqDiff,reduceCtorEq]
          (repeat' (first|(with_reducible refine aI ?_ ?_)|(first|(first|refine gF ?_ ?_|refine gT ?_ ?_|refine cI ?_ ?_|refine pI ?_ ?_)<;>intro h|(refine dI ?_;have h:=trivial))<;>simp only[h,evS,tyS,Bv,Bf,Nat.reduceAdd,Nat.reduceSub,Nat.reduceMul,Nat.reduceLT,Nat.reduceLeDiff,Nat.reduceEqDiff,reduceCtorEq,List.reduceReplicate,Int.reduceToNat,Int.reduceLE,Int.reduceLT]))
          all_goals first|rfl|trivial|exact .inl rfl
        ·rw[if_neg (of_decide_eq_false h34)]at hh
         (repeat' (first|(with_reducible refine aI ?_ ?_)|(first|(first|refine gF ?_ ?_|refine gT ?_ ?_|refine cI ?_ ?_|refine pI ?_ ?_)<;>intro h|(refine dI ?_;have h:=trivial))<;>simp only[h,lS,ea,evS,tyS,Bv,Bf,Nat.reduceAdd,Nat.reduceSub,Nat.reduceMul,Nat.reduceLT,Nat.reduceLeDiff,Nat.reduceEqDiff,reduceCtorEq,List.reduceReplicate,Int.reduceToNat,Int.reduceLE,Int.reduceLT]))
         all_goals try (((try simp only[decide_eq_false_iff_not]at *)<;>(try omega));done)
         have hn:=mk mx hmx j hlt;refine CallK.intro b50 (by simp[treeL,treeA]) hn ?_
         by_cases hm0:markN (l.drop j)=0
         ·rw[if_pos hm0]at hh;rw[markA,if_pos hm0];have z00:((0:Int)==0)=true:=by decide
          simp only[lS,tokA,f0,z00,evS,tyS,Nat.reduceAdd,Nat.reduceLT,Nat.reduceLeDiff,Nat.reduceEqDiff,reduceCtorEq];refine labelC.intro (2,j,zeroT,10) (nextI2 hlt hTj (.inr ⟨by decide,hh⟩)) rfl ?_ (by intro k hk;cases hk;simp only[nextM];omega);simp only[nextS,tcells,zeroT,evS,Nat.reduceAdd,Nat.reduceEqDiff,reduceCtorEq]
          (repeat' (first|(with_reducible refine aI ?_ ?_)|(first|(first|refine gF ?_ ?_|refine gT ?_ ?_|refine cI ?_ ?_|refine pI ?_ ?_)<;>intro h|(refine dI ?_;have h:=trivial))<;>simp only[h,evS,tyS,Bv,Bf,Nat.reduceAdd,Nat.reduceSub,Nat.reduceMul,Nat.reduceLT,Nat.reduceLeDiff,Nat.reduceEqDiff,reduceCtorEq,List.reduceReplicate,Int.reduceToNat,Int.reduceLE,Int.reduceLT]))
          all_goals first|rfl|trivial|exact .inl rfl
         ·rw[if_neg hm0]at hh;rw[markA,if_neg hm0];generalize markN (l.drop j)=n at hh⊢;have z50:((5:Int)==0)=false:=by decide
          simp only[lS,tokA,f0,z50,evS,tyS,Nat.reduceAdd,Nat.reduceLT,Nat.reduceLeDiff,Nat.reduceEqDiff,reduceCtorEq];refine labelC.intro (2,j,⟨5,(l.drop j).take n,0,0,n⟩,0) (nextI2 hlt hTj (.inl ⟨rfl,hh⟩)) rfl ?_ (by intro k hk;cases hk;simp only[nextM];omega);simp only[nextS,tcells,evS,Nat.reduceAdd,Nat.reduceEqDiff,reduceCtorEq]
          (repeat' (first|(with_reducible refine aI ?_ ?_)|(first|(first|refine gF ?_ ?_|refine gT ?_ ?_|refine cI ?_ ?_|refine pI ?_ ?_)<;>intro h|(refine dI ?_;have h:=trivial))<;>simp only[h,evS,tyS,Bv,Bf,Nat.reduceAdd,Nat.reduceSub,Nat.reduceMul,Nat.reduceLT,Nat.reduceLeDiff,Nat.reduceEqDiff,reduceCtorEq,List.reduceReplicate,Int.reduceToNat,Int.reduceLE,Int.reduceLT]))
          all_goals first|rfl|trivial|exact .inl rfl
  |1,hj=>
   obtain⟨hj1,hjT,rfl,rfl⟩:=hj;refine⟨_,rfl,?_⟩;have ew:IntKind.i64.wrap ((j:Int)+1)=((j+1:Nat):Int):=i64w (by omega) (by omega);have ea:∀ j,(l.getD j 0).toNat=atL l j:=fun _=>rfl
   simp only[nextS,tcells,zeroT,ew,zero6,evS,tyS,Nat.reduceLT,Nat.reduceEqDiff,reduceCtorEq]
   (repeat' (first|(with_reducible refine aI ?_ ?_)|(first|(first|refine gF ?_ ?_|refine gT ?_ ?_|refine cI ?_ ?_|refine pI ?_ ?_)<;>intro h|(refine dI ?_;have h:=trivial))<;>simp only[h,lS,ea,evS,tyS,Nat.reduceLT,Nat.reduceEqDiff,reduceCtorEq,ew,Bv,Bf,Nat.reduceAdd,Nat.reduceSub,Nat.reduceMul,Nat.reduceLeDiff,List.reduceReplicate,Int.reduceToNat,Int.reduceLE,Int.reduceLT]))
   all_goals try (((try simp only[decide_eq_true_eq,decide_eq_false_iff_not,bne_iff_ne,ne_eq,bne_eq_false_iff_eq]at *)<;>(try omega));done)
   all_goals ((try simp only[decide_eq_true_eq,decide_eq_false_iff_not,bne_iff_ne,ne_eq,bne_eq_false_iff_eq]at *)<;>(try omega))
   all_goals first
    |(refine labelC.intro (1,j+1,zeroT,0) (nextI1 (by omega) (by rw[hjT,gap_in (by omega) (by omega)];omega)) rfl ?_ (by intro k hk;cases hk;simp only[nextM];omega)
      simp only[nextS,tcells,zeroT,evS,Nat.reduceAdd,Nat.reduceEqDiff,reduceCtorEq]
      (repeat' (first|(with_reducible refine aI ?_ ?_)|(first|(first|refine gF ?_ ?_|refine gT ?_ ?_|refine cI ?_ ?_|refine pI ?_ ?_)<;>intro h|(refine dI ?_;have h:=trivial))<;>simp only[h,evS,tyS,Bv,Bf,Nat.reduceAdd,Nat.reduceSub,Nat.reduceMul,Nat.reduceLT,Nat.reduceLeDiff,Nat.reduceEqDiff,reduceCtorEq,List.reduceReplicate,Int.reduceToNat,Int.reduceLE,Int.reduceLT]))
      all_goals first|rfl|trivial|exact .inl rfl)
    |(refine labelC.intro (0,j+1,zeroT,0) (nextI0 (by omega) (by first|(rw[hjT,nextT,gap_nl (by omega) (by omega)];done)|(rw[hjT,nextT,gap_end (by omega),gap_end (by omega)];done))) rfl ?_ (by intro k hk;cases hk;simp only[nextM];omega)
      simp only[nextS,tcells,zeroT,evS,Nat.reduceAdd,Nat.reduceEqDiff,reduceCtorEq]
      (repeat' (first|(with_reducible refine aI ?_ ?_)|(first|(first|refine gF ?_ ?_|refine gT ?_ ?_|refine cI ?_ ?_|refine pI ?_ ?_)<;>intro h|(refine dI ?_;have h:=trivial))<;>simp only[h,evS,tyS,Bv,Bf,Nat.reduceAdd,Nat.reduceSub,Nat.reduceMul,Nat.reduceLT,Nat.reduceLeDiff,Nat.reduceEqDiff,reduceCtorEq,List.reduceReplicate,Int.reduceToNat,Int.reduceLE,Int.reduceLT]))
      all_goals first|rfl|trivial|exact .inl rfl)
  |2,hj=>
   obtain⟨hj1,hjT,hj3⟩:=hj;refine⟨_,rfl,?_⟩;subst hjT
   rcases hj3 with⟨rfl,hk⟩|⟨he,hk⟩
   ·have z00:((0:Int) != 0)=false:=by decide
    rw[hOk t hj1 hk];simp only[nextS,lS,tcells,z00,TokD.av,tokA,zero6,evS,tyS,Nat.reduceAdd,Nat.reduceLT,Nat.reduceLeDiff,Nat.reduceEqDiff,reduceCtorEq]
   ·have z00:((e:Int) != 0)=true:=by simpa using he
    rw[hErr e hj1 hk];simp only[nextS,lS,tcells,z00,tokA,f0,zero6,evS,tyS,Nat.reduceAdd,Nat.reduceLT,Nat.reduceLeDiff,Nat.reduceEqDiff,reduceCtorEq]
  |k+3,hj=>exact hj.elim
theorem realD_size{l:List UInt8}{p sg:Nat}{t:TokD}(hp:p+1+sg≤l.length)(h:realD l p sg=.ok t):1≤t.size∧t.size≤l.length:=by
 unfold realD at h
 split at h
 ·cases h;have h1:=digitsEnd_ge l (p+1+sg);have h2:=digitsEnd_le (l:=l) (i:=p+1+sg) hp;exact⟨by show 1≤digitsEnd l (p+1+sg);omega,h2⟩
 ·cases h
theorem numberD_size{l:List UInt8}{t:TokD}(hd:digitN (atL l 0)=true)(h:numberD l=.ok t):1≤t.size∧t.size≤l.length:=by
 have hlt:=digitsEnd_lt hd;have hle:=digitsEnd_le (l:=l) (i:=0) (by omega);unfold numberD at h
 split at h
 ·rename_i hc;exact realD_size (by have:=(digitsEnd_step hc.2).2;omega) h
 ·split at h
  ·cases h;exact⟨by show 1≤digitsEnd l 0;omega,hle⟩
  ·cases h
theorem textF_size(l:List UInt8):∀ (k i:Nat) (d q:List UInt8) (n:Nat),textF k l i d=some (q,n)→i+1≤n∧n≤l.length
 |0,i,d,q,n,h=>by cases h
 |k+1,i,d,q,n,h=>by
  rw[textF]at h
  split at h
  ·cases h
  ·rename_i hi
   split at h
   ·cases h;omega
   ·split at h
    ·split at h
     ·cases h
     ·have:=textF_size l k _ _ q n h;omega
    ·split at h
     ·cases h
     ·have:=textF_size l k _ _ q n h;omega
theorem textD_size{l:List UInt8}{t:TokD}(h:textD l=.ok t):1≤t.size∧t.size≤l.length:=by
 unfold textD at h
 split at h
 ·cases h
 ·rename_i d n hq;cases h;have:=textF_size l _ _ _ _ _ hq;exact⟨by show 1≤n;omega,this.2⟩
theorem headD_size{l:List UInt8}{t:TokD}(hl:1≤l.length)(h:headD l=.ok t):1≤t.size∧t.size≤l.length:=by
 unfold headD at h
 split at h
 ·have:=spanEnd_le (p:=nameN) (l:=l) (i:=1) hl
  split at h
  ·cases h
  ·cases h;exact this
 ·split at h
  ·rename_i hd;exact numberD_size hd h
  ·split at h
   ·exact textD_size h
   ·split at h
    ·cases h
    ·cases h;rename_i hm;refine⟨by show 1≤markN l;omega,?_⟩;show markN l≤l.length;unfold markN at *
     split
     ·rename_i h1;omega
     ·split<;>omega
def scanF:Nat→List UInt8→Nat→List (TokD×Nat)×Option (Int×Nat)
 |0,_,_=>([],none)
 |k+1,l,i=>
  if l.length≤nextT l i then ([],none)
  else match headD (l.drop (nextT l i))with
   |.error e=>([],some (e,nextT l i))
   |.ok t=>((t,nextT l i)::(scanF k l (nextT l i+t.size)).1,(scanF k l (nextT l i+t.size)).2)
theorem nextT_ge(l:List UInt8)(i:Nat):i≤nextT l i:=by unfold nextT;omega
def itemsF:Nat→List UInt8→Nat→List ((TokD×Nat)×Int)
 |0,_,_=>[]
 |k+1,l,i=>
  if l.length≤nextT l i then []
  else match headD (l.drop (nextT l i))with
   |.error e=>[((zeroT,nextT l i),e)]
   |.ok t=>((t,nextT l i),0)::itemsF k l (nextT l i+t.size)
def tokV(t:TokD)(pos:Nat):Value:=.agg #[.int .i64 t.kind,.string ⟨t.text.toArray⟩,.int .i64 t.int,.float .f64 t.real,.int .i64 pos,.int .i64 t.size]
theorem rel_tokV(t:TokD)(pos:Nat)(c:Cx):rel (t.av pos) c (tokV t pos):=by
 simp only[TokD.av,tokA,tokV,rel,relL];refine⟨_,rfl,?_⟩;exact⟨_,_,rfl,rfl,_,_,rfl,rfl,_,_,rfl,rfl,_,_,rfl,rfl,_,_,rfl,rfl,_,_,rfl,rfl,rfl⟩
def rrealO(sg:Nat)(a b:List UInt8):Bool:=
 decide (decV a<9007199254740992)&&decide (decV b≤1023+51 * sg)&&(decide (decV a%2=1) || (decide (decV a=0)&&decide (decV b=0))) && !(decide (sg=1)&&decide (decV b=0))&&finB (decV a) (expOf sg (decV b))
theorem rrealO_iff{sg:Nat}{a b:List UInt8}:rrealO sg a b=true↔decV a<9007199254740992∧decV b≤1023+51 * sg∧(decV a%2=1∨decV a=0∧decV b=0)∧¬(sg=1∧decV b=0)∧finB (decV a) (expOf sg (decV b))=true:=by
 unfold rrealO;simp only[Bool.and_eq_true,Bool.or_eq_true,Bool.not_eq_true',decide_eq_true_eq,Bool.and_eq_false_iff,decide_eq_false_iff_not]
 constructor
 ·rintro⟨⟨⟨⟨a1,a2⟩,a3⟩,a4⟩,a5⟩
  exact⟨a1,a2,a3,by omega,a5⟩
 ·rintro⟨a1,a2,a3,a4,a5⟩
  exact⟨⟨⟨⟨a1,a2⟩,a3⟩,by omega⟩,a5⟩
theorem powerB_ev(m x sg:Nat)(h:m<9007199254740992)(hx:x≤1023+51 * sg)(hsg:sg=0∨sg=1)(h0:m=0→x=0):Ev Tp γ 250 [.v (.int .i64 m),.v (.int .i64 x),.v (.bool (decide (sg=1)))] (.v (.float .f64 (realB m (expOf sg x)))):=by
 by_cases hm:m=0
 ·subst hm;have hx0:=h0 rfl;subst hx0;have:=refPower_ev (γ:=γ) ((0:Nat):Int) 0 (decide (sg=1)) (fun _=>0) (by omega) (by rfl) (fun j hj=>by omega);have e:realB 0 (expOf sg 0)=0:=by unfold realB;rw[if_pos rfl]
  rw[e];exact this
 ·have hlg:=log2_lt53 (by omega:0<m) h
  have:=refPower_ev (γ:=γ) (m:Int) x (decide (sg=1)) (fun j=>dblN m (expOf sg j)) (by omega) (by
    rw[near_eq m h];unfold realB;rw[if_neg hm];have:expOf sg 0=0:=by unfold expOf;split<;>rfl
    simp only[this]) (fun j hj=>by
    by_cases hs1:sg=1
    ·rw[if_pos (by rw[hs1];rfl)];have e1:expOf sg j = -(j:Int):=by unfold expOf;rw[if_pos hs1]
     have e2:expOf sg (j+1) = -(j:Int)-1:=by unfold expOf;rw[if_pos hs1];omega
     simp only[e1,e2];exact div_two (by omega) h (by omega) (by omega)
    ·rw[if_neg (by rw[decide_eq_true_eq];exact hs1)];have e1:expOf sg j=(j:Int):=by unfold expOf;rw[if_neg hs1]
     have e2:expOf sg (j+1)=(j:Int)+1:=by unfold expOf;rw[if_neg hs1];omega
     simp only[e1,e2];exact mul_two (by omega) h (by omega))
  have e:realB m (expOf sg x)=dblN m (expOf sg x):=by unfold realB;rw[if_neg hm]
  rw[e];exact this
theorem sub_fin{m:Nat}{e:Int}(h:m<9007199254740992)(he : -1074≤e)(hf:finB m e=true):FloatKind.f64.format.sub (realB m e) (realB m e)=some 0:=by
 unfold realB;have hf:=of_decide_eq_true hf
 by_cases hm:m=0
 ·rw[if_pos hm];rfl
 ·rw[if_neg hm];exact sub_self_fin (by omega) h he (hf.resolve_left hm)
theorem sub_inf{m:Nat}{e:Int}(h:m<9007199254740992)(he : -1074≤e)(hf:finB m e=false):FloatKind.f64.format.sub (realB m e) (realB m e)=none:=by
 unfold realB;have hf:=of_decide_eq_false hf;have hm:¬m=0:=fun h=>hf (.inl h)
 rw[if_neg hm];exact sub_self_inf (by omega) h he (by omega)
theorem wholeR_eq(l:List UInt8):wholeR l=.tup [.v (.int .i64 (if decV l≤9223372036854775807 then (decV l:Int)else 0)),.v (.bool (decide (decV l≤9223372036854775807)))]:=by
 unfold wholeR
 by_cases h:decV l≤9223372036854775807
 ·rw[if_pos h,if_pos h,decide_eq_true h]
 ·rw[if_neg h,if_neg h,decide_eq_false h]
theorem wholeAt_ev(b:Bool)(l:List UInt8)(i j:Nat)(hij:i≤j)(hj:j≤l.length)(hl:l.length≤140737488351232)(hd:∀ k,k<(j-i)→digitN (atL ((l.drop i).take (j-i)) k)=true):
  Ev Tp γ 208 [.sl b (j-i) (l.length-i) (List.drop i (l.map byteC))] (wholeR ((l.drop i).take (j-i))):=by
 rw[←List.map_drop];refine Ev_cut1 (by omega) (by rw[Bd];omega) ?_;have hlen:((l.drop i).take (j-i)).length=j-i:=by rw[Bh,Bd];omega
 exact refWhole_ev b _ (by rw[hlen];omega) (fun k hk=>hd k (by rw[hlen]at hk;exact hk))
theorem fltRes_none:fltRes none=AV.nan:=rfl
set_option maxRecDepth 20000 in
theorem refReal_ev(b:Bool)(l:List UInt8)(p n more sg:Nat)(a c:List UInt8)(ha:a=(l.drop p).take (p+n-p))(hc:c=(l.drop (p+n+(sg+1))).take (p+n+more-(p+n+(sg+1))))(hpn:p+n+more≤l.length)(hsg:sg=0∨sg=1)(hm:sg+1≤more)(hl:l.length≤140737488351232)
  (hda:∀ k,k<p+n-p→digitN (atL a k)=true) (hdc:∀ k,k<p+n+more-(p+n+(sg+1))→digitN (atL c k)=true) :
  Ev Tp γ 207 [.sl b l.length l.length (l.map byteC),.v (.int .i64 p),.v (.int .i64 n),.v (.int .i64 more),.v (.int .i64 ((sg+1:Nat):Int))]
   (if rrealO sg a c=true then okTok (tokA 3 [] 0 (.v (.float .f64 (realB (decV a) (expOf sg (decV c))))) p (n+more:Nat))else errTok 12):=by
 refine Ev.of Tryz.func207 rfl ?_;generalize hR:(if rrealO sg a c=true then okTok (tokA 3 [] 0 (.v (.float .f64 (realB (decV a) (expOf sg (decV c))))) p (n+more:Nat))else errTok 12)=R;have hwa:=wholeAt_ev (γ:=γ) b l p (p+n) (by omega) (by omega) hl (by rw[←ha];exact hda);have hwc:=wholeAt_ev (γ:=γ) b l (p+n+(sg+1)) (p+n+more) (by omega) hpn hl (by rw[←hc];exact hdc);rw[←ha,wholeR_eq]at hwa;rw[←hc,wholeR_eq]at hwc;clear ha hc hda hdc;have w1:IntKind.i64.wrap ((p:Int)+(n:Int))=((p+n:Nat):Int):=(i64w (by omega) (by omega)).trans (by omega);have w2:IntKind.i64.wrap (((p+n:Nat):Int)+((sg+1:Nat):Int))=((p+n+(sg+1):Nat):Int):=(i64w (by omega) (by omega)).trans (by omega);have w3:IntKind.i64.wrap (((p+n:Nat):Int)+(more:Int))=((p+n+more:Nat):Int):=(i64w (by omega) (by omega)).trans (by omega);have w4:IntKind.i64.wrap ((n:Int)+(more:Int))=((n+more:Nat):Int):=(i64w (by omega) (by omega)).trans (by omega)
 have e2:(((sg+1:Nat):Int)==2)=decide (sg=1):=by
  by_cases h:sg=1
  ·subst h;rfl
  ·rw[decide_eq_false h];simp;omega
 simp only[Tryz.f207,w1,evS,tyS,Nat.reduceAdd,Nat.reduceSub,Nat.reduceLT,Nat.reduceEqDiff,reduceCtorEq]
 (repeat' (first|(with_reducible refine aI ?_ ?_)|(first|(first|refine gF ?_ ?_|refine gT ?_ ?_|refine cI ?_ ?_|refine pI ?_ ?_)<;>intro h|(refine dI ?_;have h:=trivial))<;>simp only[h,w1,w2,w3,w4,e2,evS,tyS,Bv,Bf,Nat.reduceAdd,Nat.reduceSub,Nat.reduceMul,Nat.reduceLT,Nat.reduceLeDiff,Nat.reduceEqDiff,reduceCtorEq,List.reduceReplicate,Int.reduceToNat,Int.reduceLE,Int.reduceLT]))
 all_goals try (((try simp only[decide_eq_true_eq,decide_eq_false_iff_not,beq_iff_eq,bne_iff_ne,ne_eq,beq_eq_false_iff_ne,bne_eq_false_iff_eq]at *)<;>(try omega));done)
 refine CallK.intro b67 (by simp[treeL,treeA]) hwa ?_;simp only[w1,w2,w3,evS,tyS,Nat.reduceLT,Nat.reduceEqDiff,reduceCtorEq]
 (repeat' (first|(with_reducible refine aI ?_ ?_)|(first|(first|refine gF ?_ ?_|refine gT ?_ ?_|refine cI ?_ ?_|refine pI ?_ ?_)<;>intro h|(refine dI ?_;have h:=trivial))<;>simp only[h,w1,w2,w3,w4,e2,evS,tyS,Bv,Bf,Nat.reduceAdd,Nat.reduceSub,Nat.reduceMul,Nat.reduceLT,Nat.reduceLeDiff,Nat.reduceEqDiff,reduceCtorEq,List.reduceReplicate,Int.reduceToNat,Int.reduceLE,Int.reduceLT]))
 all_goals try (((try simp only[decide_eq_true_eq,decide_eq_false_iff_not,beq_iff_eq,bne_iff_ne,ne_eq,beq_eq_false_iff_ne,bne_eq_false_iff_eq]at *)<;>(try omega));done)
 refine CallK.intro b67 (by simp[treeL,treeA]) hwc ?_;clear hwa hwc
 by_cases hOa:decV a≤9223372036854775807
 ·by_cases hOc:decV c≤9223372036854775807
  ·have hPw:∀ bb:Bool,bb=decide (sg=1)→decV a<9007199254740992→decV c≤1023+51 * sg→(decV a=0→decV c=0)→Ev Tp γ 250 [.v (.int .i64 (decV a)),.v (.int .i64 (decV c)),.v (.bool bb)] (.v (.float .f64 (realB (decV a) (expOf sg (decV c))))):=fun bb hbb h1 h2 h3=>by rw[hbb];exact powerB_ev (γ:=γ) (decV a) (decV c) sg h1 h2 hsg h3
   have hfi:=fun h1 h2=>sub_fin (m:=decV a) (e:=expOf sg (decV c)) h1 h2
   have hin:=fun h1 h2=>sub_inf (m:=decV a) (e:=expOf sg (decV c)) h1 h2
   simp only[rrealO_iff]at hR;rw[if_pos hOa,if_pos hOc,decide_eq_true hOa,decide_eq_true hOc];have hex:decV c≤1023+51 * sg → -1074≤expOf sg (decV c):=fun h=>by unfold expOf;split<;>omega
   generalize expOf sg (decV c)=ex at *;generalize decV a=A at *;generalize decV c=C at *
   have etm:∀ n:Nat,((n:Int).tmod 2==0)=decide (n%2=0):=fun n=>by
    rw[Int.tmod_eq_emod_of_nonneg (by omega)]
    by_cases h:n%2=0
    ·rw[decide_eq_true h];simp;omega
    ·rw[decide_eq_false h];simp;omega
   have ez:∀ n:Nat,((n:Int)==0)=decide (n=0):=fun n=>by
    by_cases h:n=0
    ·simp[h]
    ·rw[decide_eq_false h];simp[h]
   have en:∀ n:Nat,((n:Int) != 0)=decide (n≠0):=fun n=>by
    by_cases h:n=0
    ·simp[h]
    ·rw[decide_eq_true h];simp[h]
   have eg:∀ (n:Nat),decide ((9007199254740992:Int)≤(n:Int))=decide (9007199254740992≤n):=fun n=>by
    by_cases h:9007199254740992≤n
    ·rw[decide_eq_true h,decide_eq_true];omega
    ·rw[decide_eq_false h,decide_eq_false];omega
   have o00:(FloatKind.f64.format.order 0 0 != some .eq)=false:=by rfl
   rcases hsg with rfl|rfl
   ·have hPb:=hPw false (by decide);clear hPw;have e22:(((1:Nat):Int)==2)=false:=by decide
    have d01:decide ((0:Nat)=1)=false:=by decide
    have el:decide ((1023:Int)<(C:Int))=decide (1023<C):=by
     by_cases h:1023<C
     ·rw[decide_eq_true h,decide_eq_true];omega
     ·rw[decide_eq_false h,decide_eq_false];omega
    simp only[eg,e22,evS,Bv,Nat.reduceLT,Nat.reduceEqDiff,reduceCtorEq]
    (repeat' (first|(with_reducible refine aI ?_ ?_)|(first|(first|refine gF ?_ ?_|refine gT ?_ ?_|refine cI ?_ ?_|refine pI ?_ ?_)<;>intro h|(refine dI ?_;have h:=trivial))<;>simp only[h,etm,ez,en,el,evS,tyS,Nat.reduceAdd,Nat.reduceLT,Nat.reduceLeDiff,Nat.reduceEqDiff,reduceCtorEq,eg,d01,e22,Bv,Bf,Nat.reduceSub,Nat.reduceMul,List.reduceReplicate,Int.reduceToNat,Int.reduceLE,Int.reduceLT]))
    all_goals try (((try simp only[decide_eq_true_eq,decide_eq_false_iff_not,ne_eq,beq_eq_false_iff_ne,bne_eq_false_iff_eq]at *)<;>(try omega));done)
    all_goals (try simp only[decide_eq_true_eq,decide_eq_false_iff_not,ne_eq,Classical.not_not]at *)
    all_goals try (rw[←hR,if_neg (by rintro⟨q1,q2,q3,q4,q5⟩;first|omega|exact q4 ⟨trivial,by omega⟩)];simp only[errTok,tokA,f0,evS];done)
    all_goals
     (have hexx:=hex (by omega)
      refine CallK.intro b98 rfl (hPb (by omega) (by omega) (by omega)) ?_;cases hf:finB A ex with
      |true=>
       have s1:=hfi (by omega) hexx hf;rw[←hR,if_pos ⟨by omega,by omega,by omega,by omega,hf⟩];simp only[s1,fltRes_some,o00,okTok,tokA,w4,evS,tyS,Nat.reduceAdd,Nat.reduceLT,Nat.reduceLeDiff,Nat.reduceEqDiff,reduceCtorEq]
      |false=>
       have s1:=hin (by omega) hexx hf;rw[←hR,if_neg (by rintro⟨q1,q2,q3,q4,q5⟩;rw[hf]at q5;cases q5)];simp only[s1,fltRes_none,errTok,tokA,f0,evS,tyS,Nat.reduceAdd,Nat.reduceLT,Nat.reduceLeDiff,Nat.reduceEqDiff,reduceCtorEq])
   ·have hPb:=hPw true (by decide);clear hPw;have e22:(((2:Nat):Int)==2)=true:=by decide
    have d01:decide ((1:Nat)=1)=true:=by decide
    have el:decide ((1074:Int)<(C:Int))=decide (1074<C):=by
     by_cases h:1074<C
     ·rw[decide_eq_true h,decide_eq_true];omega
     ·rw[decide_eq_false h,decide_eq_false];omega
    simp only[eg,e22,evS,Bv,Nat.reduceAdd,Nat.reduceLT,Nat.reduceEqDiff,reduceCtorEq]
    (repeat' (first|(with_reducible refine aI ?_ ?_)|(first|(first|refine gF ?_ ?_|refine gT ?_ ?_|refine cI ?_ ?_|refine pI ?_ ?_)<;>intro h|(refine dI ?_;have h:=trivial))<;>simp only[h,etm,ez,en,el,evS,tyS,Nat.reduceAdd,Nat.reduceLT,Nat.reduceLeDiff,Nat.reduceEqDiff,reduceCtorEq,eg,d01,e22,Bv,Bf,Nat.reduceSub,Nat.reduceMul,List.reduceReplicate,Int.reduceToNat,Int.reduceLE,Int.reduceLT]))
    all_goals try (((try simp only[decide_eq_true_eq,decide_eq_false_iff_not,beq_iff_eq,ne_eq,bne_eq_false_iff_eq]at *)<;>(try omega));done)
    all_goals (try simp only[decide_eq_true_eq,decide_eq_false_iff_not,ne_eq,Classical.not_not]at *)
    all_goals try (rw[←hR,if_neg (by rintro⟨q1,q2,q3,q4,q5⟩;first|omega|exact q4 ⟨trivial,by omega⟩)];simp only[errTok,tokA,f0,evS];done)
    all_goals
     (have hexx:=hex (by omega)
      refine CallK.intro b98 rfl (hPb (by omega) (by omega) (by omega)) ?_;cases hf:finB A ex with
      |true=>
       have s1:=hfi (by omega) hexx hf;rw[←hR,if_pos ⟨by omega,by omega,by omega,by omega,hf⟩];simp only[s1,fltRes_some,o00,okTok,tokA,w4,evS,tyS,Nat.reduceAdd,Nat.reduceLT,Nat.reduceLeDiff,Nat.reduceEqDiff,reduceCtorEq]
      |false=>
       have s1:=hin (by omega) hexx hf;rw[←hR,if_neg (by rintro⟨q1,q2,q3,q4,q5⟩;rw[hf]at q5;cases q5)];simp only[s1,fltRes_none,errTok,tokA,f0,evS,tyS,Nat.reduceAdd,Nat.reduceLT,Nat.reduceLeDiff,Nat.reduceEqDiff,reduceCtorEq])
  ·have hz:¬(rrealO sg a c=true):=fun q=>by have:=(rrealO_iff.1 q).2.1;omega
   rw[if_neg hz]at hR;rw[←hR,decide_eq_false hOc,decide_eq_true hOa];simp only[evS,Nat.reduceLT,Nat.reduceEqDiff,reduceCtorEq]
   (repeat' (first|(with_reducible refine aI ?_ ?_)|(first|(first|refine gF ?_ ?_|refine gT ?_ ?_|refine cI ?_ ?_|refine pI ?_ ?_)<;>intro h|(refine dI ?_;have h:=trivial))<;>simp only[h,evS,tyS,Bv,Bf,Nat.reduceAdd,Nat.reduceLT,Nat.reduceLeDiff,Nat.reduceEqDiff,reduceCtorEq,Nat.reduceSub,Nat.reduceMul,List.reduceReplicate,Int.reduceToNat,Int.reduceLE,Int.reduceLT]))
   all_goals try (((try simp only[beq_iff_eq,ne_eq,beq_eq_false_iff_ne]at *)<;>(try omega));done)
   all_goals (simp only[errTok,tokA,f0,evS];done)
 ·have hz:¬(rrealO sg a c=true):=fun q=>by have:=(rrealO_iff.1 q).1;omega
  rw[if_neg hz]at hR;rw[←hR,decide_eq_false hOa];simp only[evS,Nat.reduceLT,Nat.reduceEqDiff,reduceCtorEq]
  (repeat' (first|(with_reducible refine aI ?_ ?_)|(first|(first|refine gF ?_ ?_|refine gT ?_ ?_|refine cI ?_ ?_|refine pI ?_ ?_)<;>intro h|(refine dI ?_;have h:=trivial))<;>simp only[h,evS,tyS,Bf,Nat.reduceAdd,Nat.reduceLT,Nat.reduceLeDiff,Nat.reduceEqDiff,reduceCtorEq,Bv,Nat.reduceSub,Nat.reduceMul,List.reduceReplicate,Int.reduceToNat,Int.reduceLE,Int.reduceLT]))
  all_goals try (((try simp only[beq_iff_eq,ne_eq,beq_eq_false_iff_ne]at *)<;>(try omega));done)
  all_goals (simp only[errTok,tokA,f0,evS];done)
end Go.Proofs.YtlobiioioicmhaaGreatDoor
