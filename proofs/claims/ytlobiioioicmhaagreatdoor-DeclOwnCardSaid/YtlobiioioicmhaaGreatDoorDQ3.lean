/- A part of the proof. -/
import Derived.Test.YtlobiioioicmhaaGreatDoorDQ2
set_option linter.all false
set_option maxHeartbeats 8000000
namespace Go.Proofs.YtlobiioioicmhaaGreatDoor
open _root_.Array renaming getElem?_eq_some_iff→BP
open _root_.Bool renaming not_true→Bv,not_false→Bf
open _root_.List renaming length_drop→Bd,map_cons→BA
open Go.Proofs.Tryz renaming prog→Tp
open Go Go.Ev
set_option maxRecDepth 20000
variable {γ:List (Nat×AV)}
structure TokD where
 kind:Int
 text:List UInt8
 int:Int
 real:Nat
 size:Nat
def TokD.av(t:TokD)(pos:Int):AV:=tokA t.kind t.text t.int (.v (.float .f64 t.real)) pos t.size
def zeroT:TokD:=⟨0,[],0,0,0⟩
def resTA:Except Int TokD→AV
 |.ok t=>okTok (t.av 0)
 |.error e=>errTok e
def realD(l:List UInt8)(p sg:Nat):Except Int TokD:=
 if realO sg (numL l 0) (numL l (p+1+sg)) (atL l (digitsEnd l (p+1+sg)))=true then
  .ok ⟨3,[],0,realB (decV (numL l 0)) (expOf sg (decV (numL l (p+1+sg)))),digitsEnd l (p+1+sg)⟩
 else .error 12
theorem realD_av(l:List UInt8)(p sg:Nat):realA l p sg=resTA (realD l p sg):=by
 unfold realA realD;split<;>rfl
def numberD(l:List UInt8):Except Int TokD:=
 if atL l (digitsEnd l 0)=112∧digitN (atL l (digitsEnd l 0+1+sgOf l))=true then realD l (digitsEnd l 0) (sgOf l)
 else if decO (numL l 0) 9223372036854775807=true∧nameN (atL l (digitsEnd l 0))=false then .ok ⟨2,[],decV (numL l 0),0,digitsEnd l 0⟩else .error 12
theorem numberD_av(l:List UInt8):numberA l=resTA (numberD l):=by
 unfold numberA numberD
 split
 ·exact realD_av _ _ _
 ·split<;>rfl
def textD(l:List UInt8):Except Int TokD:=
 match textF l.length l 1 []with
 |none=>.error 11
 |some (d,n)=>.ok ⟨4,d,0,0,n⟩
theorem textD_av(l:List UInt8):textR (textF l.length l 1 [])=resTA (textD l):=by
 unfold textD;cases textF l.length l 1 []with
 |none=>rfl
 |some q=>rfl
def headD(s:List UInt8):Except Int TokD:=
 if letterN (atL s 0)=true then (if 32<spanEnd nameN s 1 then .error 13 else .ok ⟨1,s.take (spanEnd nameN s 1),0,0,spanEnd nameN s 1⟩)
 else if digitN (atL s 0)=true then numberD s
 else if atL s 0=34 then textD s
 else if markN s=0 then .error 10 else .ok ⟨5,s.take (markN s),0,0,markN s⟩
def gapL:Bool→List UInt8→Nat
 |_,[]=>0
 |true,c::r=>if c.toNat=10 then 1+gapL false r else 1+gapL true r
 |false,c::r=>if blankN c.toNat=true then 1+gapL false r else if c.toNat=35 then 1+gapL true r else 0
theorem drop_at{l:List UInt8}{i:Nat}(h:i<l.length):∃ c,l.drop i=c::l.drop (i+1)∧c.toNat=atL l i:=by
 refine⟨l[i],List.drop_eq_getElem_cons h,?_⟩;simp[atL,List.getD,h]
theorem gap_blank{l:List UInt8}{i:Nat}(h:i<l.length)(hb:blankN (atL l i)=true):gapL false (l.drop i)=1+gapL false (l.drop (i+1)):=by
 obtain⟨c,e,hc⟩:=drop_at h;rw[e,gapL,hc,if_pos hb]
theorem gap_com{l:List UInt8}{i:Nat}(h:i<l.length)(hb:blankN (atL l i)=false)(h2:atL l i=35):gapL false (l.drop i)=1+gapL true (l.drop (i+1)):=by
 obtain⟨c,e,hc⟩:=drop_at h;rw[e,gapL,hc,if_neg (by rw[hb];decide),if_pos h2]
theorem gap_stop{l:List UInt8}{i:Nat}(h:i<l.length)(hb:blankN (atL l i)=false)(h2:atL l i≠35):gapL false (l.drop i)=0:=by
 obtain⟨c,e,hc⟩:=drop_at h;rw[e,gapL,hc,if_neg (by rw[hb];decide),if_neg h2]
theorem gap_end{l:List UInt8}{i:Nat}{b:Bool}(h:l.length≤i):gapL b (l.drop i)=0:=by
 rw[List.drop_eq_nil_of_le h];cases b<;>rfl
theorem gap_nl{l:List UInt8}{i:Nat}(h:i<l.length)(h2:atL l i=10):gapL true (l.drop i)=gapL false (l.drop i):=by
 obtain⟨c,e,hc⟩:=drop_at h;rw[e,gapL,gapL,hc,if_pos h2,if_pos (by rw[h2];decide)]
theorem gap_in{l:List UInt8}{i:Nat}(h:i<l.length)(h2:atL l i≠10):gapL true (l.drop i)=1+gapL true (l.drop (i+1)):=by
 obtain⟨c,e,hc⟩:=drop_at h;rw[e,gapL,hc,if_neg h2]
def nextT(l:List UInt8)(i:Nat):Nat:=i+gapL false (l.drop i)
def nextA(l:List UInt8)(i:Nat):AV:=
 if l.length≤nextT l i then .tup [tokA 0 [] 0 f0 0 0,.v (.bool false),.v (.int .i64 0)]
 else match headD (l.drop (nextT l i))with
  |.error e=>.tup [tokA 0 [] 0 f0 (nextT l i) 0,.v (.bool true),.v (.int .i64 e)]
  |.ok t=>.tup [t.av (nextT l i),.v (.bool true),.v (.int .i64 0)]
def tcells(t:TokD):List AV:=[.v (.int .i64 t.kind),.v (.string ⟨t.text.toArray⟩),.v (.int .i64 t.int),.v (.float .f64 t.real),.v (.int .i64 0),.v (.int .i64 t.size)]
def nextS(γ:List (Nat×AV))(b:Bool)(l:List UInt8):Nat×Nat×TokD×Int→St
 |(_,i,t,e)=>⟨⟨98,[(0,.sl b l.length l.length (l.map byteC)),(1,.v (.int .i64 i)),(4,.ptr 0 0 0),(7,.ptr 1 0 0),(8,.v (.int .i64 e))],γ⟩,[⟨0,53,zero6⟩,⟨0,53,tcells t⟩]⟩
def nextI(l:List UInt8)(T:Nat):Nat×Nat×TokD×Int→Prop
 |(0,i,t,e)=>i≤l.length∧T=nextT l i∧t=zeroT∧e=0
 |(1,i,t,e)=>i<l.length∧T=i+1+gapL true (l.drop (i+1))∧t=zeroT∧e=0
 |(2,i,t,e)=>i<l.length∧T=i∧((e=0∧headD (l.drop i)=.ok t)∨(e≠0∧headD (l.drop i)=.error e))
 |_=>False
def nextM(l:List UInt8):Nat×Nat×TokD×Int→Nat
 |(0,i,_,_)=>3 * (l.length-i)+2
 |(1,i,_,_)=>3 * (l.length-i)+1
 |(_,i,_,_)=>0
theorem nextI0{l:List UInt8}{T i:Nat}(h1:i≤l.length)(h2:T=nextT l i):nextI l T (0,i,zeroT,0):=⟨h1,h2,rfl,rfl⟩
theorem nextI1{l:List UInt8}{T i:Nat}(h1:i<l.length)(h2:T=i+1+gapL true (l.drop (i+1))):nextI l T (1,i,zeroT,0):=⟨h1,h2,rfl,rfl⟩
theorem nextI2{l:List UInt8}{T i:Nat}{t:TokD}{e:Int}(h1:i<l.length)(h2:T=i)(h3:(e=0∧headD (l.drop i)=.ok t)∨(e≠0∧headD (l.drop i)=.error e)):nextI l T (2,i,t,e):=⟨h1,h2,h3⟩
theorem numberD_err{s:List UInt8}{e:Int}(h:numberD s=.error e):e≠0:=by
 unfold numberD realD at h
 split at h
 ·split at h
  ·cases h
  ·cases h;decide
 ·split at h
  ·cases h
  ·cases h;decide
theorem textD_err{s:List UInt8}{e:Int}(h:textD s=.error e):e≠0:=by
 unfold textD at h
 split at h
 ·cases h;decide
 ·cases h
set_option maxRecDepth 20000 in
theorem lexNext_ev(hγ:Gl γ)(b:Bool)(l:List UInt8)(i:Nat)(hi:i≤l.length)(hl:l.length≤140737488351232):
  Ev Tp γ 183 [.sl b l.length l.length (l.map byteC),.v (.int .i64 i)] (nextA l i):=by
 refine Ev.of Tryz.func183 rfl ?_;generalize hR:nextA l i=R;have hEnd:l.length≤nextT l i→R=.tup [tokA 0 [] 0 f0 0 0,.v (.bool false),.v (.int .i64 0)]:=fun h=>by rw[←hR,nextA,if_pos h]
 have hErr:∀ e,nextT l i<l.length→headD (l.drop (nextT l i))=.error e→R=.tup [tokA 0 [] 0 f0 (nextT l i) 0,.v (.bool true),.v (.int .i64 e)]:=fun e h1 h2=>by rw[←hR,nextA,if_neg (by omega),h2]
 have hOk:∀ t,nextT l i<l.length→headD (l.drop (nextT l i))=.ok t→R=.tup [t.av (nextT l i),.v (.bool true),.v (.int .i64 0)]:=fun t h1 h2=>by rw[←hR,nextA,if_neg (by omega),h2]
 have hT0:nextT l i=nextT l i:=rfl;generalize hTT:nextT l i=T at hEnd hErr hOk hT0⊢;clear hR;have ha0:∀ j,atL (l.drop j) 0=atL l j:=fun j=>by rw[atL_dropk];rfl
 have ek:∀ (k n:Nat),((n:Int)==(k:Int))=decide (n=k):=fun k n=>by
  by_cases h:n=k
  ·simp[h]
  ·rw[decide_eq_false h];simp;omega
 have nm:=fun (j:Nat) (h:j<l.length)=>lexName_ev (γ:=γ) b (l.drop j) (by rw[Bd];omega) (by rw[Bd];omega)
 have nu:=fun (j:Nat) (h:digitN (atL l j)=true)=>lexNumber_ev (γ:=γ) hγ b (l.drop j) (by rw[ha0];exact h) (by rw[Bd];omega)
 have tx:=fun (j:Nat)=>lexText_ev (γ:=γ) b (l.drop j) (by rw[Bd];omega)
 have mk:=fun (m:Int) hm (j:Nat) (h:j<l.length)=>lexMark_ev (γ:=γ) m hm b (l.drop j) (by rw[Bd];omega) (by rw[Bd];omega)
 simp only[Bd,List.map_drop]at nm nu tx mk;obtain⟨mx,hmx⟩:=hγ.1;simp only[Tryz.f183,evS,tyS,Nat.reduceAdd,Nat.reduceSub,Nat.reduceLT];refine SemK.scope (nextS γ b l) (nextI l T) (fun a=>a.1) (nextM l) ?_ ?_
 ·have hjT:T=nextT l i:=hTT.symm;simp only[evS,tyS,Nat.reduceAdd,Nat.reduceLT,Nat.reduceLeDiff,Nat.reduceEqDiff,reduceCtorEq];refine CondK.intro (fun h=>?_) (fun h=>?_)<;>simp only[h,lS,evS,tyS,Nat.reduceAdd,Nat.reduceLT,Nat.reduceLeDiff,Nat.reduceEqDiff,reduceCtorEq]
  ·have hge:l.length≤i:=by ((try simp only[decide_eq_true_eq]at *)<;>(try omega))
   rw[hEnd (by rw[hjT,nextT];omega)];simp only[tokA,f0,evS]
  ·have hlt:i<l.length:=by ((try simp only[decide_eq_false_iff_not]at *)<;>(try omega))
   have ew:IntKind.i64.wrap ((i:Int)+1)=((i+1:Nat):Int):=i64w (by omega) (by omega);have ea:∀ j,(l.getD j 0).toNat=atL l j:=fun _=>rfl
   (repeat' (with_reducible refine aI ?_ ?_))
   all_goals try (((try simp only[decide_eq_false_iff_not]at *)<;>(try omega));done)
   have c32:((atL l i:Int)==32)=decide (atL l i=32):=ek 32 _;have c9:((atL l i:Int)==9)=decide (atL l i=9):=ek 9 _;have c10:((atL l i:Int)==10)=decide (atL l i=10):=ek 10 _;have c13:((atL l i:Int)==13)=decide (atL l i=13):=ek 13 _;have c35:((atL l i:Int)==35)=decide (atL l i=35):=ek 35 _;have c34:((atL l i:Int)==34)=decide (atL l i=34):=ek 34 _
   by_cases hb:blankN (atL l i)=true
   ·have hb':=of_decide_eq_true hb;have hgb:=gap_blank hlt hb;simp only[ea,c32]
    (repeat' (first|(with_reducible refine aI ?_ ?_)|(first|(first|refine gF ?_ ?_|refine gT ?_ ?_|refine cI ?_ ?_|refine pI ?_ ?_)<;>intro h|(refine dI ?_;have h:=trivial))<;>simp only[h,ew,lS,c9,c10,c13,evS,Nat.reduceLT,Nat.reduceEqDiff,reduceCtorEq,ea,c32,tyS,Bv,Bf,Nat.reduceAdd,Nat.reduceSub,Nat.reduceMul,Nat.reduceLeDiff,List.reduceReplicate,Int.reduceToNat,Int.reduceLE,Int.reduceLT]))
    all_goals first
     |(refine labelC.intro (0,i+1,zeroT,0) (nextI0 (by omega) (by rw[hjT,nextT,hgb,nextT];omega)) rfl ?_ (by intro k hk;cases hk)
       simp only[nextS,tcells,zeroT,evS,Nat.reduceAdd,Nat.reduceEqDiff,reduceCtorEq]
       (repeat' (first|(with_reducible refine aI ?_ ?_)|(first|(first|refine gF ?_ ?_|refine gT ?_ ?_|refine cI ?_ ?_|refine pI ?_ ?_)<;>intro h|(refine dI ?_;have h:=trivial))<;>simp only[h,evS,tyS,Bv,Bf,Nat.reduceAdd,Nat.reduceSub,Nat.reduceMul,Nat.reduceLT,Nat.reduceLeDiff,Nat.reduceEqDiff,reduceCtorEq,List.reduceReplicate,Int.reduceToNat,Int.reduceLE,Int.reduceLT]))
       all_goals first|rfl|trivial|exact .inl rfl)
     |(exfalso;((try simp only[decide_eq_false_iff_not,beq_iff_eq,ne_eq,beq_eq_false_iff_ne]at *)<;>(try omega)))
   ·have hb1:blankN (atL l i)=false:=by simpa using hb
    have hb':=of_decide_eq_false hb1;have d32:decide (atL l i=32)=false:=decide_eq_false (by omega);have d9:decide (atL l i=9)=false:=decide_eq_false (by omega);have d10:decide (atL l i=10)=false:=decide_eq_false (by omega);have d13:decide (atL l i=13)=false:=decide_eq_false (by omega);simp only[ea,c32,c9,c10,c13,d32,d9,d10,d13,c35,evS,Nat.reduceLT,Nat.reduceEqDiff,reduceCtorEq];refine CondK.intro (fun h35=>?_) (fun h35=>?_)<;>simp only[h35,lS,evS,Nat.reduceLT,Nat.reduceEqDiff,reduceCtorEq]
    ·refine labelC.intro (1,i,zeroT,0) (nextI1 hlt (by rw[hjT,nextT,gap_com hlt hb1 (of_decide_eq_true h35)];omega)) rfl ?_ (by intro k hk;cases hk);simp only[nextS,tcells,zeroT,evS,Nat.reduceAdd,Nat.reduceEqDiff,reduceCtorEq]
     (repeat' (first|(with_reducible refine aI ?_ ?_)|(first|(first|refine gF ?_ ?_|refine gT ?_ ?_|refine cI ?_ ?_|refine pI ?_ ?_)<;>intro h|(refine dI ?_;have h:=trivial))<;>simp only[h,evS,tyS,Bv,Bf,Nat.reduceAdd,Nat.reduceSub,Nat.reduceMul,Nat.reduceLT,Nat.reduceLeDiff,Nat.reduceEqDiff,reduceCtorEq,List.reduceReplicate,Int.reduceToNat,Int.reduceLE,Int.reduceLT]))
     all_goals first|rfl|trivial|exact .inl rfl
    ·have hTj:T=i:=by rw[hjT,nextT,gap_stop hlt hb1 (of_decide_eq_false h35)];omega
     have hh:headD (l.drop i)=if letterN (atL l i)=true then (if 32<spanEnd nameN (l.drop i) 1 then .error 13 else .ok ⟨1,(l.drop i).take (spanEnd nameN (l.drop i) 1),0,0,spanEnd nameN (l.drop i) 1⟩)
       else if digitN (atL l i)=true then numberD (l.drop i)
       else if atL l i=34 then textD (l.drop i)
       else if markN (l.drop i)=0 then .error 10 else .ok ⟨5,(l.drop i).take (markN (l.drop i)),0,0,markN (l.drop i)⟩:=by rw[headD,ha0]
     refine CallK.intro b45 rfl (lexLetter_ev _) ?_;cases hlet:letterN (atL l i)with
     |true=>
      rw[if_pos hlet]at hh;simp only[evS,tyS,Nat.reduceLT,Nat.reduceEqDiff,reduceCtorEq]
      (repeat' (first|(with_reducible refine aI ?_ ?_)|(first|(first|refine gF ?_ ?_|refine gT ?_ ?_|refine cI ?_ ?_|refine pI ?_ ?_)<;>intro h|(refine dI ?_;have h:=trivial))<;>simp only[h,lS,ea,evS,tyS,Bv,Bf,Nat.reduceAdd,Nat.reduceSub,Nat.reduceMul,Nat.reduceLT,Nat.reduceLeDiff,Nat.reduceEqDiff,reduceCtorEq,List.reduceReplicate,Int.reduceToNat,Int.reduceLE,Int.reduceLT]))
      all_goals try (((try simp only[decide_eq_false_iff_not]at *)<;>(try omega));done)
      refine CallK.intro b46 (by simp[treeL,treeA]) (nm i hlt) ?_;generalize spanEnd nameN (l.drop i) 1=n at hh⊢;simp only[tokA,f0,evS,tyS,Nat.reduceAdd,Nat.reduceLT,Nat.reduceLeDiff,Nat.reduceEqDiff,reduceCtorEq];refine CondK.intro (fun h32=>?_) (fun h32=>?_)<;>simp only[h32,lS,evS,Nat.reduceLT]
      ·rw[if_pos (by have:=of_decide_eq_true h32;omega)]at hh;refine labelC.intro (2,i,⟨1,(l.drop i).take n,0,0,n⟩,13) (nextI2 hlt hTj (.inr ⟨by decide,hh⟩)) rfl ?_ (by intro k hk;cases hk);simp only[nextS,tcells,evS,Nat.reduceAdd,Nat.reduceEqDiff,reduceCtorEq]
       (repeat' (first|(with_reducible refine aI ?_ ?_)|(first|(first|refine gF ?_ ?_|refine gT ?_ ?_|refine cI ?_ ?_|refine pI ?_ ?_)<;>intro h|(refine dI ?_;have h:=trivial))<;>simp only[h,evS,tyS,Bv,Bf,Nat.reduceAdd,Nat.reduceSub,Nat.reduceMul,Nat.reduceLT,Nat.reduceLeDiff,Nat.reduceEqDiff,reduceCtorEq,List.reduceReplicate,Int.reduceToNat,Int.reduceLE,Int.reduceLT]))
       all_goals first|rfl|trivial|exact .inl rfl
      ·rw[if_neg (by have:=of_decide_eq_false h32;omega)]at hh;refine labelC.intro (2,i,⟨1,(l.drop i).take n,0,0,n⟩,0) (nextI2 hlt hTj (.inl ⟨rfl,hh⟩)) rfl ?_ (by intro k hk;cases hk);simp only[nextS,tcells,evS,Nat.reduceAdd,Nat.reduceEqDiff,reduceCtorEq]
       (repeat' (first|(with_reducible refine aI ?_ ?_)|(first|(first|refine gF ?_ ?_|refine gT ?_ ?_|refine cI ?_ ?_|refine pI ?_ ?_)<;>intro h|(refine dI ?_;have h:=trivial))<;>simp only[h,evS,tyS,Bv,Bf,Nat.reduceAdd,Nat.reduceSub,Nat.reduceMul,Nat.reduceLT,Nat.reduceLeDiff,Nat.reduceEqDiff,reduceCtorEq,List.reduceReplicate,Int.reduceToNat,Int.reduceLE,Int.reduceLT]))
       all_goals first|rfl|trivial|exact .inl rfl
     |false=>
      rw[if_neg (by rw[hlet];decide)]at hh;simp only[evS,Nat.reduceLT,Nat.reduceEqDiff,reduceCtorEq];refine CallK.intro b47 rfl (lexDigit_ev _) ?_;cases hdig:digitN (atL l i)with
      |true=>
       rw[if_pos hdig]at hh;simp only[evS,tyS,Nat.reduceLT,Nat.reduceEqDiff,reduceCtorEq]
       (repeat' (first|(with_reducible refine aI ?_ ?_)|(first|(first|refine gF ?_ ?_|refine gT ?_ ?_|refine cI ?_ ?_|refine pI ?_ ?_)<;>intro h|(refine dI ?_;have h:=trivial))<;>simp only[h,lS,ea,evS,tyS,Bv,Bf,Nat.reduceAdd,Nat.reduceSub,Nat.reduceMul,Nat.reduceLT,Nat.reduceLeDiff,Nat.reduceEqDiff,reduceCtorEq,List.reduceReplicate,Int.reduceToNat,Int.reduceLE,Int.reduceLT]))
       all_goals try (((try simp only[decide_eq_false_iff_not]at *)<;>(try omega));done)
       have hn:=nu i hdig;rw[numberD_av]at hn;cases hN:numberD (l.drop i)with
       |ok t=>
        rw[hN]at hn hh;refine CallK.intro b48 (by simp[treeL,treeA]) hn ?_;simp only[lS,resTA,okTok,TokD.av,tokA,evS,tyS,Nat.reduceAdd,Nat.reduceLT,Nat.reduceLeDiff,Nat.reduceEqDiff,reduceCtorEq];refine labelC.intro (2,i,t,0) (nextI2 hlt hTj (.inl ⟨rfl,hh⟩)) rfl ?_ (by intro k hk;cases hk);simp only[nextS,tcells,evS,Nat.reduceAdd,Nat.reduceEqDiff,reduceCtorEq]
        (repeat' (first|(with_reducible refine aI ?_ ?_)|(first|(first|refine gF ?_ ?_|refine gT ?_ ?_|refine cI ?_ ?_|refine pI ?_ ?_)<;>intro h|(refine dI ?_;have h:=trivial))<;>simp only[h,evS,tyS,Bv,Bf,Nat.reduceAdd,Nat.reduceSub,Nat.reduceMul,Nat.reduceLT,Nat.reduceLeDiff,Nat.reduceEqDiff,reduceCtorEq,List.reduceReplicate,Int.reduceToNat,Int.reduceLE,Int.reduceLT]))
        all_goals first|rfl|trivial|exact .inl rfl
       |error e=>
        rw[hN]at hn hh;refine CallK.intro b48 (by simp[treeL,treeA]) hn ?_;simp only[lS,resTA,errTok,tokA,f0,evS,tyS,Nat.reduceAdd,Nat.reduceLT,Nat.reduceLeDiff,Nat.reduceEqDiff,reduceCtorEq];refine labelC.intro (2,i,zeroT,e) (nextI2 hlt hTj (.inr ⟨numberD_err hN,hh⟩)) rfl ?_ (by intro k hk;cases hk);simp only[nextS,tcells,zeroT,evS,Nat.reduceAdd,Nat.reduceEqDiff,reduceCtorEq]
        (repeat' (first|(with_reducible refine aI ?_ ?_)|(first|(first|refine gF ?_ ?_|refine gT ?_ ?_|refine cI ?_ ?_|refine pI ?_ ?_)<;>intro h|(refine dI ?_;have h:=trivial))<;>simp only[h,evS,tyS,Bv,Bf,Nat.reduceAdd,Nat.reduceSub,Nat.reduceMul,Nat.reduceLT,Nat.reduceLeDiff,Nat.reduceEqDiff,reduceCtorEq,List.reduceReplicate,Int.reduceToNat,Int.reduceLE,Int.reduceLT]))
        all_goals first|rfl|trivial|exact .inl rfl
      |false=>
       rw[if_neg (by rw[hdig];decide)]at hh;simp only[c34,evS,Nat.reduceLT,Nat.reduceEqDiff,reduceCtorEq];refine CondK.intro (fun h34=>?_) (fun h34=>?_)<;>simp only[h34,evS,tyS,Nat.reduceLT,Nat.reduceEqDiff,reduceCtorEq]
       ·rw[if_pos (of_decide_eq_true h34)]at hh
        (repeat' (first|(with_reducible refine aI ?_ ?_)|(first|(first|refine gF ?_ ?_|refine gT ?_ ?_|refine cI ?_ ?_|refine pI ?_ ?_)<;>intro h|(refine dI ?_;have h:=trivial))<;>simp only[h,lS,ea,evS,tyS,Bv,Bf,Nat.reduceAdd,Nat.reduceSub,Nat.reduceMul,Nat.reduceLT,Nat.reduceLeDiff,Nat.reduceEqDiff,reduceCtorEq,List.reduceReplicate,Int.reduceToNat,Int.reduceLE,Int.reduceLT]))
        all_goals try (((try simp only[decide_eq_true_eq,decide_eq_false_iff_not]at *)<;>(try omega));done)
        have hn:=tx i;have hte:=textD_av (l.drop i);rw[Bd]at hte;rw[hte]at hn;cases hN:textD (l.drop i)with
        |ok t=>
         rw[hN]at hn hh;refine CallK.intro b49 (by simp[treeL,treeA]) hn ?_;simp only[lS,resTA,okTok,TokD.av,tokA,evS,tyS,Nat.reduceAdd,Nat.reduceLT,Nat.reduceLeDiff,Nat.reduceEqDiff,reduceCtorEq];refine labelC.intro (2,i,t,0) (nextI2 hlt hTj (.inl ⟨rfl,hh⟩)) rfl ?_ (by intro k hk;cases hk);simp only[nextS,tcells,evS,Nat.reduceAdd,Nat.reduceEqDiff,reduceCtorEq]
         (repeat' (first|(with_reducible refine aI ?_ ?_)|(first|(first|refine gF ?_ ?_|refine gT ?_ ?_|refine cI ?_ ?_|refine pI ?_ ?_)<;>intro h|(refine dI ?_;have h:=trivial))<;>simp only[h,evS,tyS,Bv,Bf,Nat.reduceAdd,Nat.reduceSub,Nat.reduceMul,Nat.reduceLT,Nat.reduceLeDiff,Nat.reduceEqDiff,reduceCtorEq,List.reduceReplicate,Int.reduceToNat,Int.reduceLE,Int.reduceLT]))
         all_goals first|rfl|trivial|exact .inl rfl
        |error e=>
         rw[hN]at hn hh;refine CallK.intro b49 (by simp[treeL,treeA]) hn ?_;simp only[lS,resTA,errTok,tokA,f0,evS,tyS,Nat.reduceAdd,Nat.reduceLT,Nat.reduceLeDiff,Nat.reduceEqDiff,reduceCtorEq];refine labelC.intro (2,i,zeroT,e) (nextI2 hlt hTj (.inr ⟨textD_err hN,hh⟩)) rfl ?_ (by intro k hk;cases hk);simp only[nextS,tcells,zeroT,evS,Nat.reduceAdd,Nat.reduceEqDiff,reduceCtorEq]
         (repeat' (first|(with_reducible refine aI ?_ ?_)|(first|(first|refine gF ?_ ?_|refine gT ?_ ?_|refine cI ?_ ?_|refine pI ?_ ?_)<;>intro h|(refine dI ?_;have h:=trivial))<;>simp only[h,evS,tyS,Bv,Bf,Nat.reduceAdd,Nat.reduceSub,Nat.reduceMul,Nat.reduceLT,Nat.reduceLeDiff,Nat.reduceEqDiff,reduceCtorEq,List.reduceReplicate,Int.reduceToNat,Int.reduceLE,Int.reduceLT]))
         all_goals first|rfl|trivial|exact .inl rfl
       ·rw[if_neg (of_decide_eq_false h34)]at hh
        (repeat' (first|(with_reducible refine aI ?_ ?_)|(first|(first|refine gF ?_ ?_|refine gT ?_ ?_|refine cI ?_ ?_|refine pI ?_ ?_)<;>intro h|(refine dI ?_;have h:=trivial))<;>simp only[h,lS,ea,evS,tyS,Bv,Bf,Nat.reduceAdd,Nat.reduceSub,Nat.reduceMul,Nat.reduceLT,Nat.reduceLeDiff,Nat.reduceEqDiff,reduceCtorEq,List.reduceReplicate,Int.reduceToNat,Int.reduceLE,Int.reduceLT]))
        all_goals try (((try simp only[decide_eq_false_iff_not]at *)<;>(try omega));done)
        have hn:=mk mx hmx i hlt;refine CallK.intro b50 (by simp[treeL,treeA]) hn ?_
        by_cases hm0:markN (l.drop i)=0
        ·rw[if_pos hm0]at hh;rw[markA,if_pos hm0];have z00:((0:Int)==0)=true:=by decide
         simp only[lS,tokA,f0,z00,evS,tyS,Nat.reduceAdd,Nat.reduceLT,Nat.reduceLeDiff,Nat.reduceEqDiff,reduceCtorEq];refine labelC.intro (2,i,zeroT,10) (nextI2 hlt hTj (.inr ⟨by decide,hh⟩)) rfl ?_ (by intro k hk;cases hk);simp only[nextS,tcells,zeroT,evS,Nat.reduceAdd,Nat.reduceEqDiff,reduceCtorEq]
         (repeat' (first|(with_reducible refine aI ?_ ?_)|(first|(first|refine gF ?_ ?_|refine gT ?_ ?_|refine cI ?_ ?_|refine pI ?_ ?_)<;>intro h|(refine dI ?_;have h:=trivial))<;>simp only[h,evS,tyS,Bv,Bf,Nat.reduceAdd,Nat.reduceSub,Nat.reduceMul,Nat.reduceLT,Nat.reduceLeDiff,Nat.reduceEqDiff,reduceCtorEq,List.reduceReplicate,Int.reduceToNat,Int.reduceLE,Int.reduceLT]))
         all_goals first|rfl|trivial|exact .inl rfl
        ·rw[if_neg hm0]at hh;rw[markA,if_neg hm0];generalize markN (l.drop i)=n at hh⊢;have z50:((5:Int)==0)=false:=by decide
         simp only[lS,tokA,f0,z50,evS,tyS,Nat.reduceAdd,Nat.reduceLT,Nat.reduceLeDiff,Nat.reduceEqDiff,reduceCtorEq];refine labelC.intro (2,i,⟨5,(l.drop i).take n,0,0,n⟩,0) (nextI2 hlt hTj (.inl ⟨rfl,hh⟩)) rfl ?_ (by intro k hk;cases hk);simp only[nextS,tcells,evS,Nat.reduceAdd,Nat.reduceEqDiff,reduceCtorEq]
         (repeat' (first|(with_reducible refine aI ?_ ?_)|(first|(first|refine gF ?_ ?_|refine gT ?_ ?_|refine cI ?_ ?_|refine pI ?_ ?_)<;>intro h|(refine dI ?_;have h:=trivial))<;>simp only[h,evS,tyS,Bv,Bf,Nat.reduceAdd,Nat.reduceSub,Nat.reduceMul,Nat.reduceLT,Nat.reduceLeDiff,Nat.reduceEqDiff,reduceCtorEq,List.reduceReplicate,Int.reduceToNat,Int.reduceLE,Int.reduceLT]))
         all_goals first|rfl|trivial|exact .inl rfl
 ·rintro⟨lb,j,t,e⟩ hj
  match lb,hj with
  |0,hj=>
   obtain⟨hj1,hjT,rfl,rfl⟩:=hj;refine⟨_,rfl,?_⟩;simp only[nextS,tcells,zeroT,zero6,evS,tyS,Nat.reduceLT,Nat.reduceEqDiff,reduceCtorEq];refine CondK.intro (fun h=>?_) (fun h=>?_)<;>simp only[h,lS,evS,tyS,Nat.reduceAdd,Nat.reduceLT,Nat.reduceLeDiff,Nat.reduceEqDiff,reduceCtorEq]
   ·have hge:l.length≤j:=by ((try simp only[decide_eq_true_eq]at *)<;>(try omega))
    rw[hEnd (by rw[hjT,nextT];omega)];simp only[tokA,f0,evS]
   ·have hlt:j<l.length:=by ((try simp only[decide_eq_false_iff_not]at *)<;>(try omega))
    have ew:IntKind.i64.wrap ((j:Int)+1)=((j+1:Nat):Int):=i64w (by omega) (by omega);have ea:∀ j,(l.getD j 0).toNat=atL l j:=fun _=>rfl
    (repeat' (with_reducible refine aI ?_ ?_))
    all_goals try (((try simp only[decide_eq_false_iff_not]at *)<;>(try omega));done)
    have c32:((atL l j:Int)==32)=decide (atL l j=32):=ek 32 _;have c9:((atL l j:Int)==9)=decide (atL l j=9):=ek 9 _;have c10:((atL l j:Int)==10)=decide (atL l j=10):=ek 10 _;have c13:((atL l j:Int)==13)=decide (atL l j=13):=ek 13 _;have c35:((atL l j:Int)==35)=decide (atL l j=35):=ek 35 _;have c34:((atL l j:Int)==34)=decide (atL l j=34):=ek 34 _
    by_cases hb:blankN (atL l j)=true
    ·have hb':=of_decide_eq_true hb;have hgb:=gap_blank hlt hb;simp only[ea,c32]
     (repeat' (first|(with_reducible refine aI ?_ ?_)|(first|(first|refine gF ?_ ?_|refine gT ?_ ?_|refine cI ?_ ?_|refine pI ?_ ?_)<;>intro h|(refine dI ?_;have h:=trivial))<;>simp only[h,ew,lS,c9,c10,c13,evS,Nat.reduceLT,Nat.reduceEqDiff,reduceCtorEq,ea,c32,tyS,Bv,Bf,Nat.reduceAdd,Nat.reduceSub,Nat.reduceMul,Nat.reduceLeDiff,List.reduceReplicate,Int.reduceToNat,Int.reduceLE,Int.reduceLT]))
     all_goals first
      |(refine labelC.intro (0,j+1,zeroT,0) (nextI0 (by omega) (by rw[hjT,nextT,hgb,nextT];omega)) rfl ?_ (by intro k hk;cases hk;simp only[nextM];omega)
        simp only[nextS,tcells,zeroT,evS,Nat.reduceAdd,Nat.reduceEqDiff,reduceCtorEq]
        (repeat' (first|(with_reducible refine aI ?_ ?_)|(first|(first|refine gF ?_ ?_|refine gT ?_ ?_|refine cI ?_ ?_|refine pI ?_ ?_)<;>intro h|(refine dI ?_;have h:=trivial))<;>simp only[h,evS,tyS,Bv,Bf,Nat.reduceAdd,Nat.reduceSub,Nat.reduceMul,Nat.reduceLT,Nat.reduceLeDiff,Nat.reduceEqDiff,reduceCtorEq,List.reduceReplicate,Int.reduceToNat,Int.reduceLE,Int.reduceLT]))
        all_goals first|rfl|trivial|exact .inl rfl)
      |(exfalso;((try simp only[decide_eq_false_iff_not,beq_iff_eq,ne_eq,beq_eq_false_iff_ne]at *)<;>(try omega)))
    ·have hb1:blankN (atL l j)=false:=by simpa using hb
     have hb':=of_decide_eq_false hb1;have d32:decide (atL l j=32)=false:=decide_eq_false (by omega);have d9:decide (atL l j=9)=false:=decide_eq_false (by omega);have d10:decide (atL l j=10)=false:=decide_eq_false (by omega);have d13:decide (atL l j=13)=false:=decide_eq_false (by omega);simp only[ea,c32,c9,c10,c13,d32,d9,d10,d13,c35,evS,Nat.reduceLT,Nat.reduceEqDiff,reduceCtorEq];refine CondK.intro (fun h35=>?_) (fun h35=>?_)<;>simp only[h35,lS,evS,Nat.reduceLT,Nat.reduceEqDiff,reduceCtorEq]
     ·refine labelC.intro (1,j,zeroT,0) (nextI1 hlt (by rw[hjT,nextT,gap_com hlt hb1 (of_decide_eq_true h35)];omega)) rfl ?_ (by intro k hk;cases hk;simp only[nextM];omega);simp only[nextS,tcells,zeroT,evS,Nat.reduceAdd,Nat.reduceEqDiff,reduceCtorEq]
      (repeat' (first|(with_reducible refine aI ?_ ?_)|(first|(first|refine gF ?_ ?_|refine gT ?_ ?_|refine cI ?_ ?_|refine pI ?_ ?_)<;>intro h|(refine dI ?_;have h:=trivial))<;>simp only[h,evS,tyS,Bv,Bf,Nat.reduceAdd,Nat.reduceSub,Nat.reduceMul,Nat.reduceLT,Nat.reduceLeDiff,Nat.reduceEqDiff,reduceCtorEq,List.reduceReplicate,Int.reduceToNat,Int.reduceLE,Int.reduceLT]))
      all_goals first|rfl|trivial|exact .inl rfl
     ·have hTj:T=j:=by rw[hjT,nextT,gap_stop hlt hb1 (of_decide_eq_false h35)];omega
      have hh:headD (l.drop j)=if letterN (atL l j)=true then (if 32<spanEnd nameN (l.drop j) 1 then .error 13 else .ok ⟨1,(l.drop j).take (spanEnd nameN (l.drop j) 1),0,0,spanEnd nameN (l.drop j) 1⟩)
        else if digitN (atL l j)=true then numberD (l.drop j)
        else if atL l j=34 then textD (l.drop j)
        else if markN (l.drop j)=0 then .error 10 else .ok ⟨5,(l.drop j).take (markN (l.drop j)),0,0,markN (l.drop j)⟩:=by rw[headD,ha0]
      refine CallK.intro b45 rfl (lexLetter_ev _) ?_;cases hlet:letterN (atL l j)with
      |true=>
       rw[if_pos hlet]at hh;simp only[evS,tyS,Nat.reduceLT,Nat.reduceEqDiff,reduceCtorEq]
       (repeat' (first|(with_reducible refine aI ?_ ?_)|(first|(first|refine gF ?_ ?_|refine gT ?_ ?_|refine cI ?_ ?_|refine pI ?_ ?_)<;>intro h|(refine dI ?_;have h:=trivial))<;>simp only[h,lS,ea,evS,tyS,Bv,Bf,Nat.reduceAdd,Nat.reduceSub,Nat.reduceMul,Nat.reduceLT,Nat.reduceLeDiff,Nat.reduceEqDiff,reduceCtorEq,List.reduceReplicate,Int.reduceToNat,Int.reduceLE,Int.reduceLT]))
       all_goals try (((try simp only[decide_eq_false_iff_not]at *)<;>(try omega));done)
       refine CallK.intro b46 (by simp[treeL,treeA]) (nm j hlt) ?_;generalize spanEnd nameN (l.drop j) 1=n at hh⊢;simp only[tokA,f0,evS,tyS,Nat.reduceAdd,Nat.reduceLT,Nat.reduceLeDiff,Nat.reduceEqDiff,reduceCtorEq];refine CondK.intro (fun h32=>?_) (fun h32=>?_)<;>simp only[h32,lS,evS,Nat.reduceLT]
       ·rw[if_pos (by have:=of_decide_eq_true h32;omega)]at hh;refine labelC.intro (2,j,⟨1,(l.drop j).take n,0,0,n⟩,13) (nextI2 hlt hTj (.inr ⟨by decide,hh⟩)) rfl ?_ (by intro k hk;cases hk;simp only[nextM];omega);simp only[nextS,tcells,evS,Nat.reduceAdd,Nat.reduceEqDiff,reduceCtorEq]
        (repeat' (first|(with_reducible refine aI ?_ ?_)|(first|(first|refine gF ?_ ?_|refine gT ?_ ?_|refine cI ?_ ?_|refine pI ?_ ?_)<;>intro h|(refine dI ?_;have h:=trivial))<;>simp only[h,evS,tyS,Bv,Bf,Nat.reduceAdd,Nat.reduceSub,Nat.reduceMul,Nat.reduceLT,Nat.reduceLeDiff,Nat.reduceEqDiff,reduceCtorEq,List.reduceReplicate,Int.reduceToNat,Int.reduceLE,Int.reduceLT]))
        all_goals first|rfl|trivial|exact .inl rfl
       ·rw[if_neg (by have:=of_decide_eq_false h32;omega)]at hh;refine labelC.intro (2,j,⟨1,(l.drop j).take n,0,0,n⟩,0) (nextI2 hlt hTj (.inl ⟨rfl,hh⟩)) rfl ?_ (by intro k hk;cases hk;simp only[nextM];omega);simp only[nextS,tcells,evS,Nat.reduceAdd,Nat.reduceEqDiff,reduceCtorEq]
        (repeat' (first|(with_reducible refine aI ?_ ?_)|(first|(first|refine gF ?_ ?_|refine gT ?_ ?_|refine cI ?_ ?_|refine pI ?_ ?_)<;>intro h|(refine dI ?_;have h:=trivial))<;>simp only[h,evS,tyS,Bv,Bf,Nat.reduceAdd,Nat.reduceSub,Nat.reduceMul,Nat.reduceLT,Nat.reduceLeDiff,Nat.reduceEqDiff,reduceCtorEq,List.reduceReplicate,Int.reduceToNat,Int.reduceLE,Int.reduceLT]))
        all_goals first|rfl|trivial|exact .inl rfl
      |false=>
       rw[if_neg (by rw[hlet];decide)]at hh;simp only[evS,Nat.reduceLT,Nat.reduceEqDiff,reduceCtorEq];refine CallK.intro b47 rfl (lexDigit_ev _) ?_;cases hdig:digitN (atL l j)with
       |true=>
        rw[if_pos hdig]at hh;simp only[evS,tyS,Nat.reduceLT,Nat.reduceEqDiff,reduceCtorEq]
        (repeat' (first|(with_reducible refine aI ?_ ?_)|(first|(first|refine gF ?_ ?_|refine gT ?_ ?_|refine cI ?_ ?_|refine pI ?_ ?_)<;>intro h|(refine dI ?_;have h:=trivial))<;>simp only[h,lS,ea,evS,tyS,Bv,Bf,Nat.reduceAdd,Nat.reduceSub,Nat.reduceMul,Nat.reduceLT,Nat.reduceLeDiff,Nat.reduceEqDiff,reduceCtorEq,List.reduceReplicate,Int.reduceToNat,Int.reduceLE,Int.reduceLT]))
        all_goals try (((try simp only[decide_eq_false_iff_not]at *)<;>(try omega));done)
        have hn:=nu j hdig;rw[numberD_av]at hn;cases hN:numberD (l.drop j)with
        |ok t=>
         rw[hN]at hn hh;refine CallK.intro b48 (by simp[treeL,treeA]) hn ?_;simp only[lS,resTA,okTok,TokD.av,tokA,evS,tyS,Nat.reduceAdd,Nat.reduceLT,Nat.reduceLeDiff,Nat.reduceEqDiff,reduceCtorEq];refine labelC.intro (2,j,t,0) (nextI2 hlt hTj (.inl ⟨rfl,hh⟩)) rfl ?_ (by intro k hk;cases hk;simp only[nextM];omega);simp only[nextS,tcells,evS,Nat.reduceAdd,Nat.reduceEqDiff,reduceCtorEq]
         (repeat' (first|(with_reducible refine aI ?_ ?_)|(first|(first|refine gF ?_ ?_|refine gT ?_ ?_|refine cI ?_ ?_|refine pI ?_ ?_)<;>intro h|(refine dI ?_;have h:=trivial))<;>simp only[h,evS,tyS,Bv,Bf,Nat.reduceAdd,Nat.reduceSub,Nat.reduceMul,Nat.reduceLT,Nat.reduceLeDiff,Nat.reduceEqDiff,reduceCtorEq,List.reduceReplicate,Int.reduceToNat,Int.reduceLE,Int.reduceLT]))
         all_goals first|rfl|trivial|exact .inl rfl
        |error e=>
         rw[hN]at hn hh;refine CallK.intro b48 (by simp[treeL,treeA]) hn ?_;simp only[lS,resTA,errTok,tokA,f0,evS,tyS,Nat.reduceAdd,Nat.reduceLT,Nat.reduceLeDiff,Nat.reduceEqDiff,reduceCtorEq];refine labelC.intro (2,j,zeroT,e) (nextI2 hlt hTj (.inr ⟨numberD_err hN,hh⟩)) rfl ?_ (by intro k hk;cases hk;simp only[nextM];omega);simp only[nextS,tcells,zeroT,evS,Nat.reduceAdd,Nat.reduceEqDiff,reduceCtorEq]
         (repeat' (first|(with_reducible refine aI ?_ ?_)|(first|(first|refine gF ?_ ?_|refine gT ?_ ?_|refine cI ?_ ?_|refine pI ?_ ?_)<;>intro h|(refine dI ?_;have h:=trivial))<;>simp only[h,evS,tyS,Bv,Bf,Nat.reduceAdd,Nat.reduceSub,Nat.reduceMul,Nat.reduceLT,Nat.reduceLeDiff,Nat.reduceEqDiff,reduceCtorEq,List.reduceReplicate,Int.reduceToNat,Int.reduceLE,Int.reduceLT]))
         all_goals first|rfl|trivial|exact .inl rfl
       |false=>
        rw[if_neg (by rw[hdig];decide)]at hh;simp only[c34,evS,Nat.reduceLT,Nat.reduceEqDiff,reduceCtorEq];refine CondK.intro (fun h34=>?_) (fun h34=>?_)<;>simp only[h34,evS,tyS,Nat.reduceLT,Nat.reduceEqDiff,reduceCtorEq]
        ·rw[if_pos (of_decide_eq_true h34)]at hh
         (repeat' (first|(with_reducible refine aI ?_ ?_)|(first|(first|refine gF ?_ ?_|refine gT ?_ ?_|refine cI ?_ ?_|refine pI ?_ ?_)<;>intro h|(refine dI ?_;have h:=trivial))<;>simp only[h,lS,ea,evS,tyS,Bv,Bf,Nat.reduceAdd,Nat.reduceSub,Nat.reduceMul,Nat.reduceLT,Nat.reduceLeDiff,Nat.reduceEqDiff,reduceCtorEq,List.reduceReplicate,Int.reduceToNat,Int.reduceLE,Int.reduceLT]))
         all_goals try (((try simp only[decide_eq_true_eq,decide_eq_false_iff_not]at *)<;>(try omega));done)
         have hn:=tx j;have hte:=textD_av (l.drop j);rw[Bd]at hte;rw[hte]at hn;cases hN:textD (l.drop j)with
         |ok t=>
          rw[hN]at hn hh;refine CallK.intro b49 (by simp[treeL,treeA]) hn ?_;simp only[lS,resTA,okTok,TokD.av,tokA,evS,tyS,Nat.reduceAdd,Nat.reduceLT,Nat.reduceLeDiff,Nat.reduceEqDiff,reduceCtorEq];refine labelC.intro (2,j,t,0) (nextI2 hlt hTj (.inl ⟨rfl,hh⟩)) rfl ?_ (by intro k hk;cases hk;simp only[nextM];omega);simp only[nextS,tcells,evS,Nat.reduceAdd,Nat.reduceEqDiff,reduceCtorEq]
          (repeat' (first|(with_reducible refine aI ?_ ?_)|(first|(first|refine gF ?_ ?_|refine gT ?_ ?_|refine cI ?_ ?_|refine pI ?_ ?_)<;>intro h|(refine dI ?_;have h:=trivial))<;>simp only[h,evS,tyS,Bv,Bf,Nat.reduceAdd,Nat.reduceSub,Nat.reduceMul,Nat.reduceLT,Nat.reduceLeDiff,Nat.reduceEqDiff,reduceCtorEq,List.reduceReplicate,Int.reduceToNat,Int.reduceLE,Int.reduceLT]))
          all_goals first|rfl|trivial|exact .inl rfl
         |error e=>
          rw[hN]at hn hh;refine CallK.intro b49 (by simp[treeL,treeA]) hn ?_;simp only[lS,resTA,errTok,tokA,f0,evS,tyS,Nat.reduceAdd,Nat.reduceLT,Nat.reduceLeDiff,Nat.reduceEqDiff,reduceCtorEq];refine labelC.intro (2,j,zeroT,e) (nextI2 hlt hTj (.inr ⟨textD_err hN,hh⟩)) rfl ?_ (by intro k hk;cases hk;simp only[nextM];omega);simp only[nextS,tcells,zeroT,evS,Nat.reduceAdd,Nat.reduceEqDiff,reduceCtorEq]
          (repeat' (first|(with_reducible refine aI ?_ ?_)|(first|(first|refine gF ?_ ?_|refine gT ?_ ?_|refine cI ?_ ?_|refine pI ?_ ?_)<;>intro h|(refine dI ?_;have h:=trivial))<;>simp only[h,evS,tyS,Bv,Bf,Nat.reduceAdd,Nat.reduceSub,Nat.reduceMul,Nat.reduceLT,Nat.reduceLeDiff,Nat.reduceEqDiff,reduceCtorEq,List.reduceReplicate,Int.reduceToNat,Int.reduceLE,Int.reduceLT]))
          all_goals first|rfl|trivial|exact .inl rfl
        ·rw[if_neg (of_decide_eq_false h34)]at hh
         (repeat' (first|(with_reducible refine aI ?_ ?_)|(first|(first|refine gF ?_ ?_|refine gT ?_ ?_|refine cI ?_ ?_|refine pI ?_ ?_)<;>intro h|(refine dI ?_;have h:=trivial))<;>simp only[h,lS,ea,evS,tyS,Bv,Bf,Nat.reduceAdd,Nat.reduceSub,Nat.reduceMul,Nat.reduceLT,Nat.reduceLeDiff,Nat.reduceEqDiff,reduceCtorEq,List.reduceReplicate,Int.reduceToNat,Int.reduceLE,Int.reduceLT]))
         all_goals try (((try simp only[decide_eq_false_iff_not]at *)<;>(try omega));done)
         have hn:=mk mx hmx j hlt;refine CallK.intro b50 (by simp[treeL,treeA]) hn ?_
         by_cases hm0:markN (l.drop j)=0
         ·rw[if_pos hm0]at hh;rw[markA,if_pos hm0];have z00:((0:Int)==0)=true:=by decide
          simp only[lS,tokA,f0,z00,evS,tyS,Nat.reduceAdd,Nat.reduceLT,Nat.reduceLeDiff,Nat.reduceEqDiff,reduceCtorEq];refine labelC.intro (2,j,zeroT,10) (nextI2 hlt hTj (.inr ⟨by decide,hh⟩)) rfl ?_ (by intro k hk;cases hk;simp only[nextM];omega);simp only[nextS,tcells,zeroT,evS,Nat.reduceAdd,Nat.reduceEqDiff,reduceCtorEq]
          (repeat' (first|(with_reducible refine aI ?_ ?_)|(first|(first|refine gF ?_ ?_|refine gT ?_ ?_|refine cI ?_ ?_|refine pI ?_ ?_)<;>intro h|(refine dI ?_;have h:=trivial))<;>simp only[h,evS,tyS,Bv,Bf,Nat.reduceAdd,Nat.reduceSub,Nat.reduceMul,Nat.reduceLT,Nat.reduceLeDiff,Nat.reduceEqDiff,reduceCtorEq,List.reduceReplicate,Int.reduceToNat,Int.reduceLE,Int.reduceLT]))
          all_goals first|rfl|trivial|exact .inl rfl
         ·rw[if_neg hm0]at hh;rw[markA,if_neg hm0];generalize markN (l.drop j)=n at hh⊢;have z50:((5:Int)==0)=false:=by decide
          simp only[lS,tokA,f0,z50,evS,tyS,Nat.reduceAdd,Nat.reduceLT,Nat.reduceLeDiff,Nat.reduceEqDiff,reduceCtorEq];refine labelC.intro (2,j,⟨5,(l.drop j).take n,0,0,n⟩,0) (nextI2 hlt hTj (.inl ⟨rfl,hh⟩)) rfl ?_ (by intro k hk;cases hk;simp only[nextM];omega);simp only[nextS,tcells,evS,Nat.reduceAdd,Nat.reduceEqDiff,reduceCtorEq]
          (repeat' (first|(with_reducible refine aI ?_ ?_)|(first|(first|refine gF ?_ ?_|refine gT ?_ ?_|refine cI ?_ ?_|refine pI ?_ ?_)<;>intro h|(refine dI ?_;have h:=trivial))<;>simp only[h,evS,tyS,Bv,Bf,Nat.reduceAdd,Nat.reduceSub,Nat.reduceMul,Nat.reduceLT,Nat.reduceLeDiff,Nat.reduceEqDiff,reduceCtorEq,List.reduceReplicate,Int.reduceToNat,Int.reduceLE,Int.reduceLT]))
          all_goals first|rfl|trivial|exact .inl rfl
  |1,hj=>
   obtain⟨hj1,hjT,rfl,rfl⟩:=hj;refine⟨_,rfl,?_⟩;have ew:IntKind.i64.wrap ((j:Int)+1)=((j+1:Nat):Int):=i64w (by omega) (by omega);have ea:∀ j,(l.getD j 0).toNat=atL l j:=fun _=>rfl
   simp only[nextS,tcells,zeroT,ew,zero6,evS,tyS,Nat.reduceLT,Nat.reduceEqDiff,reduceCtorEq]
   (repeat' (first|(with_reducible refine aI ?_ ?_)|(first|(first|refine gF ?_ ?_|refine gT ?_ ?_|refine cI ?_ ?_|refine pI ?_ ?_)<;>intro h|(refine dI ?_;have h:=trivial))<;>simp only[h,lS,ea,evS,tyS,Nat.reduceLT,Nat.reduceEqDiff,reduceCtorEq,ew,Bv,Bf,Nat.reduceAdd,Nat.reduceSub,Nat.reduceMul,Nat.reduceLeDiff,List.reduceReplicate,Int.reduceToNat,Int.reduceLE,Int.reduceLT]))
   all_goals try (((try simp only[decide_eq_true_eq,decide_eq_false_iff_not,bne_iff_ne,ne_eq,bne_eq_false_iff_eq]at *)<;>(try omega));done)
   all_goals ((try simp only[decide_eq_true_eq,decide_eq_false_iff_not,bne_iff_ne,ne_eq,bne_eq_false_iff_eq]at *)<;>(try omega))
   all_goals first
    |(refine labelC.intro (1,j+1,zeroT,0) (nextI1 (by omega) (by rw[hjT,gap_in (by omega) (by omega)];omega)) rfl ?_ (by intro k hk;cases hk;simp only[nextM];omega)
      simp only[nextS,tcells,zeroT,evS,Nat.reduceAdd,Nat.reduceEqDiff,reduceCtorEq]
      (repeat' (first|(with_reducible refine aI ?_ ?_)|(first|(first|refine gF ?_ ?_|refine gT ?_ ?_|refine cI ?_ ?_|refine pI ?_ ?_)<;>intro h|(refine dI ?_;have h:=trivial))<;>simp only[h,evS,tyS,Bv,Bf,Nat.reduceAdd,Nat.reduceSub,Nat.reduceMul,Nat.reduceLT,Nat.reduceLeDiff,Nat.reduceEqDiff,reduceCtorEq,List.reduceReplicate,Int.reduceToNat,Int.reduceLE,Int.reduceLT]))
      all_goals first|rfl|trivial|exact .inl rfl)
    |(refine labelC.intro (0,j+1,zeroT,0) (nextI0 (by omega) (by first|(rw[hjT,nextT,gap_nl (by omega) (by omega)];done)|(rw[hjT,nextT,gap_end (by omega),gap_end (by omega)];done))) rfl ?_ (by intro k hk;cases hk;simp only[nextM];omega)
      simp only[nextS,tcells,zeroT,evS,Nat.reduceAdd,Nat.reduceEqDiff,reduceCtorEq]
      (repeat' (first|(with_reducible refine aI ?_ ?_)|(first|(first|refine gF ?_ ?_|refine gT ?_ ?_|refine cI ?_ ?_|refine pI ?_ ?_)<;>intro h|(refine dI ?_;have h:=trivial))<;>simp only[h,evS,tyS,Bv,Bf,Nat.reduceAdd,Nat.reduceSub,Nat.reduceMul,Nat.reduceLT,Nat.reduceLeDiff,Nat.reduceEqDiff,reduceCtorEq,List.reduceReplicate,Int.reduceToNat,Int.reduceLE,Int.reduceLT]))
      all_goals first|rfl|trivial|exact .inl rfl)
  |2,hj=>
   obtain⟨hj1,hjT,hj3⟩:=hj;refine⟨_,rfl,?_⟩;subst hjT
   rcases hj3 with⟨rfl,hk⟩|⟨he,hk⟩
   ·have z00:((0:Int) != 0)=false:=by decide
    rw[hOk t hj1 hk];simp only[nextS,lS,tcells,z00,TokD.av,tokA,zero6,evS,tyS,Nat.reduceAdd,Nat.reduceLT,Nat.reduceLeDiff,Nat.reduceEqDiff,reduceCtorEq]
   ·have z00:((e:Int) != 0)=true:=by simpa using he
    rw[hErr e hj1 hk];simp only[nextS,lS,tcells,z00,tokA,f0,zero6,evS,tyS,Nat.reduceAdd,Nat.reduceLT,Nat.reduceLeDiff,Nat.reduceEqDiff,reduceCtorEq]
  |k+3,hj=>exact hj.elim
theorem realD_size{l:List UInt8}{p sg:Nat}{t:TokD}(hp:p+1+sg≤l.length)(h:realD l p sg=.ok t):1≤t.size∧t.size≤l.length:=by
 unfold realD at h
 split at h
 ·cases h;have h1:=digitsEnd_ge l (p+1+sg);have h2:=digitsEnd_le (l:=l) (i:=p+1+sg) hp;exact⟨by show 1≤digitsEnd l (p+1+sg);omega,h2⟩
 ·cases h
theorem numberD_size{l:List UInt8}{t:TokD}(hd:digitN (atL l 0)=true)(h:numberD l=.ok t):1≤t.size∧t.size≤l.length:=by
 have hlt:=digitsEnd_lt hd;have hle:=digitsEnd_le (l:=l) (i:=0) (by omega);unfold numberD at h
 split at h
 ·rename_i hc;exact realD_size (by have:=(digitsEnd_step hc.2).2;omega) h
 ·split at h
  ·cases h;exact⟨by show 1≤digitsEnd l 0;omega,hle⟩
  ·cases h
theorem textF_size(l:List UInt8):∀ (k i:Nat) (d q:List UInt8) (n:Nat),textF k l i d=some (q,n)→i+1≤n∧n≤l.length
 |0,i,d,q,n,h=>by cases h
 |k+1,i,d,q,n,h=>by
  rw[textF]at h
  split at h
  ·cases h
  ·rename_i hi
   split at h
   ·cases h;omega
   ·split at h
    ·split at h
     ·cases h
     ·have:=textF_size l k _ _ q n h;omega
    ·split at h
     ·cases h
     ·have:=textF_size l k _ _ q n h;omega
theorem textD_size{l:List UInt8}{t:TokD}(h:textD l=.ok t):1≤t.size∧t.size≤l.length:=by
 unfold textD at h
 split at h
 ·cases h
 ·rename_i d n hq;cases h;have:=textF_size l _ _ _ _ _ hq;exact⟨by show 1≤n;omega,this.2⟩
theorem headD_size{l:List UInt8}{t:TokD}(hl:1≤l.length)(h:headD l=.ok t):1≤t.size∧t.size≤l.length:=by
 unfold headD at h
 split at h
 ·have:=spanEnd_le (p:=nameN) (l:=l) (i:=1) hl
  split at h
  ·cases h
  ·cases h;exact this
 ·split at h
  ·rename_i hd;exact numberD_size hd h
  ·split at h
   ·exact textD_size h
   ·split at h
    ·cases h
    ·cases h;rename_i hm;refine⟨by show 1≤markN l;omega,?_⟩;show markN l≤l.length;unfold markN at *
     split
     ·rename_i h1;omega
     ·split<;>omega
def scanF:Nat→List UInt8→Nat→List (TokD×Nat)×Option (Int×Nat)
 |0,_,_=>([],none)
 |k+1,l,i=>
  if l.length≤nextT l i then ([],none)
  else match headD (l.drop (nextT l i))with
   |.error e=>([],some (e,nextT l i))
   |.ok t=>((t,nextT l i)::(scanF k l (nextT l i+t.size)).1,(scanF k l (nextT l i+t.size)).2)
theorem nextT_ge(l:List UInt8)(i:Nat):i≤nextT l i:=by unfold nextT;omega
def itemsF:Nat→List UInt8→Nat→List ((TokD×Nat)×Int)
 |0,_,_=>[]
 |k+1,l,i=>
  if l.length≤nextT l i then []
  else match headD (l.drop (nextT l i))with
   |.error e=>[((zeroT,nextT l i),e)]
   |.ok t=>((t,nextT l i),0)::itemsF k l (nextT l i+t.size)
def tokV(t:TokD)(pos:Nat):Value:=.agg #[.int .i64 t.kind,.string ⟨t.text.toArray⟩,.int .i64 t.int,.float .f64 t.real,.int .i64 pos,.int .i64 t.size]
theorem rel_tokV(t:TokD)(pos:Nat)(c:Cx):rel (t.av pos) c (tokV t pos):=by
 simp only[TokD.av,tokA,tokV,rel,relL];refine⟨_,rfl,?_⟩;exact⟨_,_,rfl,rfl,_,_,rfl,rfl,_,_,rfl,rfl,_,_,rfl,rfl,_,_,rfl,rfl,_,_,rfl,rfl,rfl⟩
open Go Go.Ev Go.RowKit
def GlW(γ:List (Nat×AV)):Prop:=∀ k,Go.Ev.look γ k=.bad∨∃ x:Value,Go.Ev.look γ k=AV.ela false [.v x]
def glOK(γ:List (Nat×AV))(W:World):Prop:=∀ k x,Go.Ev.look γ k=AV.ela false [.v x]→k<W.heap.size∧W.cell? ⟨k,0,none⟩=some x
theorem gl_rel(hγ:GlW γ){W:World}(h:glOK γ W){c:Cx}(hw:c.w=W)(hok:∀ r,r<W.heap.size→c.ok false r)(k:Nat):treeA (Go.Ev.look γ k)=true∧rel (Go.Ev.look γ k) c (.pointer (some ⟨k,0,none⟩)):=by
 rcases hγ k with e|⟨x,e⟩
 ·rw[e];exact⟨rfl,by simp only[rel]⟩
 ·obtain⟨h1,h2⟩:=h k x e;rw[e];refine⟨by simp[treeA],?_⟩;simp only[rel,relAt];exact⟨k,0,rfl,hok k h1,⟨x,by show c.w.cell? _=_;rw[hw];exact h2,rfl⟩,trivial⟩
theorem gl_of_rel{c:Cx}{W:World}(hw:c.w=W)(hlt:∀ r,c.ok false r→r<W.heap.size)(h:∀ k,rel (Go.Ev.look γ k) c (.pointer (some ⟨k,0,none⟩))):glOK γ W:=by
 intro k x e;have:=h k;rw[e]at this;simp only[rel,relAt,Cx.shut]at this;obtain⟨r,off,e1,h2,⟨u,h3,rfl⟩,_⟩:=this;cases e1;exact⟨hlt _ h2,by rw[←hw];exact h3⟩
theorem relAt_bytes{c c':Cx}(hw:c'.w=c.w){r:Nat}:∀ (l:List UInt8) (off:Nat),relAt (l.map byteC) c r off→relAt (l.map byteC) c' r off
 |[],_,_=>trivial
 |x::l,off,h=>by
  simp only[BA,relAt]at h⊢;refine⟨?_,relAt_bytes hw l (off+1) h.2⟩;obtain⟨u,h1,h2⟩:=h.1;exact⟨u,by rw[hw];exact h1,by simpa[byteC,rel]using h2⟩
theorem rel_bytes{c c':Cx}(hw:c'.w=c.w){b b':Bool}{l:List UInt8}{n m:Nat}{u:Value}(hok:∀ r,c.ok b r→c'.ok b' r)(h:rel (.sl b n m (l.map byteC)) c u):rel (.sl b' n m (l.map byteC)) c' u:=by
 simp only[rel]at h⊢;obtain⟨r,off,cap,e,h1,h2,h3,h4⟩:=h;exact⟨r,off,cap,e,h1,h2,hok r h3,relAt_bytes (by exact hw) l off h4⟩
def allX(P:Program)(W:World):Cx:=cx0 P (fun _=>False) (fun _=>True) W
def eachBase(γ:List (Nat×AV))(l:List UInt8)(Nb:Nat)(W:World):Prop:=
 (∃ u fr,W.heap[Nb]?=some (.cells #[u] 37 fr)∧rel (.sl false l.length l.length (l.map byteC)) (allX Tp W) u)∧glOK γ W
def eachItems(l:List UInt8):List ((TokD×Nat)×Int):=if 32768<l.length then [((zeroT,0),3)]else itemsF (l.length+1) l 0
def itemAt(L:List ((TokD×Nat)×Int))(k:Nat):(TokD×Nat)×Int:=L.getD k ((zeroT,0),0)
def itemV(x:(TokD×Nat)×Int):Value×Value:=(tokV x.1.1 x.1.2,.int .i64 x.2)
def boxA(l:List UInt8):AV:=.ela true [.sl false l.length l.length (l.map byteC)]
def eachX(P:Program)(W:World)(Nb:Nat)(h:Nb<W.heap.size):Fix:=freshX P W (fun r=>r=Nb) (fun r e=>e▸h)
theorem box_lt{l:List UInt8}{Nb:Nat}{W:World}(h:eachBase γ l Nb W):Nb<W.heap.size:=by
 obtain⟨⟨u,fr,h1,_⟩,_⟩:=h;exact (BP.1 h1).1
theorem box_rel{l:List UInt8}{Nb:Nat}{W:World}(h:eachBase γ l Nb W):rel (boxA l) (cx (eachX Tp W Nb (box_lt h)) [] [] W) (.pointer (some ⟨Nb,0,none⟩)):=by
 have hlt:=box_lt h;obtain⟨⟨u,fr,h1,h2⟩,_⟩:=h;unfold boxA;rw[rel];refine⟨Nb,0,rfl,⟨hlt,by simp,?_⟩,?_⟩
 ·show Nb=Nb;rfl
 ·simp only[relAt];refine⟨⟨u,?_,?_⟩,trivial⟩
  ·show W.cell? _=_
   unfold World.cell?;simp only[h1];rfl
  ·exact rel_bytes (c:=allX Tp W) (c':=Cx.shut (cx (eachX Tp W Nb hlt) [] [] W)) (b:=false) (b':=false) rfl (fun r hr=>⟨hr.1,by simp,by show ¬False;exact fun h=>h⟩) h2
theorem box_ptr{l:List UInt8}{Nb:Nat}{W W1:World}{hlt:Nb<W.heap.size}{φ:List Nat}{h:List ABlk}{u:Value}(hr:rel (boxA l) (cx (eachX Tp W Nb hlt) φ h W1) u)(hc:∃ v fr,W1.heap[Nb]?=some (.cells #[v] 37 fr)):u=.pointer (some ⟨Nb,0,none⟩):=by
 unfold boxA at hr;simp only[rel,relAt]at hr;obtain⟨r,off,e,⟨_,_,hB⟩,⟨x,h2,_⟩,_⟩:=hr;have hr':r=Nb:=hB;subst hr';obtain⟨v,fr,hh⟩:=hc
 have:off=0:=by
  simp only[Cx.shut,cx,World.cell?,hh]at h2;have h3:(if false=true then none else (#[v]:Array Value)[off]?)=some x:=h2;have h4:=(BP.1 (show (#[v]:Array Value)[off]?=some x from h3)).1;simp at h4
  omega
 rw[e,this]
end Go.Proofs.YtlobiioioicmhaaGreatDoor
