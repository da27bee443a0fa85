/- A part of the proof. -/
import Derived.Test.YtlobiioioicmhaaGreatDoorCQ6
import Derived.Test.YtlobiioioicmhaaGreatDoorCU8
import Derived.KernelRfl
import Derived.Test.YtlobiioioicmhaaGreatDoorProg
set_option linter.all false
set_option maxHeartbeats 8000000
namespace Go.Proofs.YtlobiioioicmhaaGreatDoor
open _root_.Bool renaming not_true→Bv,not_false→Bf
open _root_.List renaming getElem?_eq_some_iff→Bs,getElem?_append_left→Ba,getElem?_append_right→Br,getElem?_set_self→Be,getElem?_set_ne→Bn,length_append→Bp,cons_append→Bc,getElem?_cons_zero→Bz,getElem?_eq_none→Bq,take_of_length_le→Bt,length_drop→Bd,prefix_rfl→BB,length_cons→BC,length_nil→BD,flatMap_cons→BE,append_nil→BS
open _root_.Nat renaming le_refl→BL,le_trans→BM,lt_of_lt_of_le→BO
open Go.Proofs.Tryz renaming prog→Tp
open Go Go.Ev
set_option maxRecDepth 20000
variable {γ:List (Nat×AV)}
theorem EP{l:List UInt8}{i j:Nat}(h:AQ l i=AQ l j):∀ f,C0 f l i=C0 f l j
 |0=>rfl
 |f+1=>by rw[C0,C0,h]
def R0(x:AG×Nat):(AG×Nat)×Int:=(x,0)
def FJ(l:List UInt8):AV:=
 match (Ah l).find? EM with
 |none=>.tup [Ct ((Ah l).map fun x=>x.1),.v (.int .i64 0),.v (.int .i64 0)]
 |some x=>.tup [Ct (((Ah l).takeWhile fun x=> !EM x).map fun x=>x.1),.v (.int .i64 x.1.2),.v (.int .i64 x.2)]
theorem Wa(x:AG×Nat):EM (R0 x)=false:=by simp[EM,R0]
theorem PO{l:List UInt8}{toks:List (AG×Nat)}(h:Ah l=toks.map R0):FJ l=.tup [Ct toks,.v (.int .i64 0),.v (.int .i64 0)]:=by
 have h1:(toks.map R0).find? EM=none:=by
  rw[List.find?_eq_none];intro x hx;obtain⟨y,_,rfl⟩:=List.mem_map.1 hx;rw[Wa];decide
 have h2:(toks.map R0).map (fun x=>x.1)=toks:=by
  rw[List.map_map];exact List.map_id' _
 unfold FJ;rw[h,h1,h2]
theorem L3{l:List UInt8}{toks:List (AG×Nat)}{t:AG}{p:Nat}{e:Int}(he:e≠0)(h:Ah l=toks.map R0++[((t,p),e)]):FJ l=.tup [Ct toks,.v (.int .i64 p),.v (.int .i64 e)]:=by
 have hb:EM ((t,p),e)=true:=decide_eq_true he
 have h0:∀ L:List (AG×Nat),(L.map R0++[((t,p),e)]).find? EM=some ((t,p),e)∧((L.map R0++[((t,p),e)]).takeWhile fun x=> !EM x)=L.map R0:=by
  intro L
  induction L with
  |nil=>simp[hb]
  |cons y L ih=>simp[Wa,ih.1,ih.2]
 have h2:(toks.map R0).map (fun x=>x.1)=toks:=by
  rw[List.map_map];exact List.map_id' _
 unfold FJ;rw[h,(h0 toks).1,(h0 toks).2,h2]
def Cs(γ:List (Nat×AV))(l:List UInt8)(b:Bool):Nat×List (AG×Nat)→St
 |(i,[])=>⟨⟨61,[(0,.sl b l.length l.length (l.map Am)),(5,.v (.slice none 0 0)),(6,.v (.int .i64 i))],γ⟩,[]⟩
 |(i,y::T)=>⟨⟨61,[(0,.sl b l.length l.length (l.map Am)),(5,.own 2 T.length (T.length+1)),(6,.v (.int .i64 i))],γ⟩,[⟨0,54,B7 y⟩,⟨0,54,B7 y⟩,⟨T.length,54,A3 (y::T)⟩]⟩
def lY(l:List UInt8)(a:Nat×List (AG×Nat)):Prop:=a.1≤l.length∧∃ f,Ah l=a.2.map R0++C0 f l a.1∧l.length+1≤f+a.1
set_option maxRecDepth 20000 in
theorem Oa(b:Bool)(l:List UInt8)(hl:l.length≤140737488351232):Ev Tp γ 41 [.sl b l.length l.length (l.map Am)] (FJ l):=by
 refine Ev.of Tryz.func41 rfl ?_;have ea:∀ j,(l.getD j 0).toNat=Ar l j:=fun _=>rfl
 by_cases hbig:32768<l.length
 ·have hd:decide (32768<(l.length:Int))=true:=decide_eq_true (by omega);have hit:Ah l=([]:List (AG×Nat)).map R0++[((zeroT,0),3)]:=by unfold Ah;rw[if_pos hbig];rfl
  rw[L3 (by decide) hit];simp only[Tryz.f41,hd,Ct,Ad,An,seval]
  (repeat' (first|(with_reducible refine aI ?_ ?_)|(first|(first|refine gF ?_ ?_|refine gT ?_ ?_|refine cI ?_ ?_|refine pI ?_ ?_)<;>intro h|(refine dI ?_;have h:=trivial))<;>simp only[h,Ad,An,Bv,Bf,seval]))
  all_goals first|done|rfl|trace_state
 ·have hd:decide (32768<(l.length:Int))=false:=decide_eq_false (by omega);have hit:Ah l=C0 (l.length+1) l 0:=by unfold Ah;rw[if_neg hbig]
  simp only[Tryz.f41,hd,Ad,An,seval];refine Ea.intro (Cs γ l b) (lY l) (fun a=>l.length-a.1) (0,[]) ?_ ⟨by simp,l.length+1,by simp[hit],by simp⟩ ?_
  ·simp only[Cs,Ad,seval]
   (repeat' (first|(with_reducible refine aI ?_ ?_)|(first|(first|refine gF ?_ ?_|refine gT ?_ ?_|refine cI ?_ ?_|refine pI ?_ ?_)<;>intro h|(refine dI ?_;have h:=trivial))<;>simp only[h,Ad,An,Bv,Bf,seval]))
   all_goals first|rfl|exact .inl rfl|trace_state
  ·rintro⟨i,toks⟩ ⟨hi,f,hf,hfi⟩
   simp only at hi hf hfi
   by_cases hil:i<l.length
   ·have d1:decide (i<l.length)=true:=decide_eq_true hil;have ew:IntKind.i64.wrap ((i:Int)+1)=((i+1:Nat):Int):=A4 (by omega) (by omega)
    have k35:((Ar l i:Int)==35)=decide (Ar l i=35):=by
     by_cases h:Ar l i=35
     ·simp[h]
     ·rw[decide_eq_false h];simp;omega
    cases hb:Hb (Ar l i)with
    |true=>
     have hnx:AQ l i=AQ l (i+1):=by rw[AQ,L7 hil hb,AQ];omega
     cases toks with
     |nil=>
      simp only[Cs,d1,ea,Ad,An,seval]
      (repeat' (first|(with_reducible refine aI ?_ ?_)|(first|(first|refine gF ?_ ?_|refine gT ?_ ?_|refine cI ?_ ?_|refine pI ?_ ?_)<;>intro h|(refine dI ?_;have h:=trivial))<;>simp only[h,ea,Ad,An,Bv,Bf,seval]))
      all_goals try (((try simp only[decide_eq_true_eq,decide_eq_false_iff_not]at *)<;>(try omega));done)
      refine Ag.intro iO rfl (DJ _) ?_;simp only[hb,ew,Ad,seval];refine Cg.intro (i+1,[]) ⟨by simp only;omega,f,by simp only;rw[←EP hnx];exact hf,by simp only;omega⟩ ?_ (by simp only;omega);simp only[Cs,Ad,seval]
      (repeat' (first|(with_reducible refine aI ?_ ?_)|(first|(first|refine gF ?_ ?_|refine gT ?_ ?_|refine cI ?_ ?_|refine pI ?_ ?_)<;>intro h|(refine dI ?_;have h:=trivial))<;>simp only[h,Ad,An,Bv,Bf,seval]))
      all_goals first|rfl|exact .inl rfl|trace_state
     |cons y T=>
      simp only[Cs,d1,ea,Ad,An,seval]
      (repeat' (first|(with_reducible refine aI ?_ ?_)|(first|(first|refine gF ?_ ?_|refine gT ?_ ?_|refine cI ?_ ?_|refine pI ?_ ?_)<;>intro h|(refine dI ?_;have h:=trivial))<;>simp only[h,ea,Ad,An,Bv,Bf,seval]))
      all_goals try (((try simp only[decide_eq_true_eq,decide_eq_false_iff_not]at *)<;>(try omega));done)
      refine Ag.intro iO rfl (DJ _) ?_;simp only[hb,ew,Ad,seval];refine Cg.intro (i+1,y::T) ⟨by simp only;omega,f,by simp only;rw[←EP hnx];exact hf,by simp only;omega⟩ ?_ (by simp only;omega);simp only[Cs,Ad,seval]
      (repeat' (first|(with_reducible refine aI ?_ ?_)|(first|(first|refine gF ?_ ?_|refine gT ?_ ?_|refine cI ?_ ?_|refine pI ?_ ?_)<;>intro h|(refine dI ?_;have h:=trivial))<;>simp only[h,Ad,An,Bv,Bf,seval]))
      all_goals first|rfl|exact .inl rfl|trace_state
    |false=>
     by_cases h35:Ar l i=35
     ·have d35:decide (Ar l i=35)=true:=decide_eq_true h35;cases toks with
      |nil=>
       simp only[Cs,d1,ea,Ad,An,seval]
       (repeat' (first|(with_reducible refine aI ?_ ?_)|(first|(first|refine gF ?_ ?_|refine gT ?_ ?_|refine cI ?_ ?_|refine pI ?_ ?_)<;>intro h|(refine dI ?_;have h:=trivial))<;>simp only[h,ea,Ad,An,Bv,Bf,seval]))
       all_goals try (((try simp only[decide_eq_true_eq,decide_eq_false_iff_not]at *)<;>(try omega));done)
       refine Ag.intro iO rfl (DJ _) ?_;simp only[hb,ea,k35,d35,Ad,An,seval]
       (repeat' (first|(with_reducible refine aI ?_ ?_)|(first|(first|refine gF ?_ ?_|refine gT ?_ ?_|refine cI ?_ ?_|refine pI ?_ ?_)<;>intro h|(refine dI ?_;have h:=trivial))<;>simp only[h,ea,k35,d35,Ad,An,Bv,Bf,seval]))
       all_goals try (((try simp only[decide_eq_true_eq,decide_eq_false_iff_not]at *)<;>(try omega));done)
       refine Ea.intro (fun j:Nat=>Cs γ l b (j,[])) (fun j=>i≤j∧j≤l.length∧AQ l i=j+Gr true (l.drop j)) (fun j=>l.length-j) i ?_ ⟨by omega,by omega,by rw[AQ,M9 hil hb h35,←Nr hil (by omega)]⟩ (fun j hj=>?_)
       ·simp only[Cs,Ad,seval]
        (repeat' (first|(with_reducible refine aI ?_ ?_)|(first|(first|refine gF ?_ ?_|refine gT ?_ ?_|refine cI ?_ ?_|refine pI ?_ ?_)<;>intro h|(refine dI ?_;have h:=trivial))<;>simp only[h,Ad,An,Bv,Bf,seval]))
        all_goals first|rfl|exact .inl rfl|trace_state
       ·obtain⟨hj0,hj1,hj2⟩:=hj;have ej:IntKind.i64.wrap ((j:Int)+1)=((j+1:Nat):Int):=A4 (by omega) (by omega)
        have hend:(l.length≤j∨Ar l j=10)→AQ l i=AQ l j∧i<j:=fun h=>by
         constructor
         ·rw[hj2,AQ]
          rcases h with h|h
          ·rw[FV h,FV h]
          ·by_cases hlt:j<l.length
           ·rw[U1 hlt h]
           ·rw[FV (by omega),FV (by omega)]
         ·by_cases hij:i<j
          ·exact hij
          ·have:j=i:=by omega
           subst this
           rcases h with h|h
           ·omega
           ·omega
        by_cases hjl:j<l.length
        ·have d2:decide (j<l.length)=true:=decide_eq_true hjl
         by_cases h10:Ar l j=10
         ·have k10:((Ar l j:Int) != 10)=false:=by rw[h10];decide
          obtain⟨hn1,hn2⟩:=hend (.inr h10);simp only[Cs,d2,ea,k10,Ad,An,seval]
          (repeat' (first|(with_reducible refine aI ?_ ?_)|(first|(first|refine gF ?_ ?_|refine gT ?_ ?_|refine cI ?_ ?_|refine pI ?_ ?_)<;>intro h|(refine dI ?_;have h:=trivial))<;>simp only[h,ea,k10,Ad,An,Bv,Bf,seval]))
          all_goals try (((try simp only[decide_eq_true_eq,decide_eq_false_iff_not,bne_eq_false_iff_eq]at *)<;>(try omega));done)
          refine Cg.intro (j,[]) ⟨by simp only;omega,f,by simp only;rw[←EP hn1];exact hf,by simp only;omega⟩ ?_ (by simp only;omega);simp only[Cs,Ad,seval]
          (repeat' (first|(with_reducible refine aI ?_ ?_)|(first|(first|refine gF ?_ ?_|refine gT ?_ ?_|refine cI ?_ ?_|refine pI ?_ ?_)<;>intro h|(refine dI ?_;have h:=trivial))<;>simp only[h,Ad,An,Bv,Bf,seval]))
          all_goals first|rfl|exact .inl rfl|trace_state
         ·have k10:((Ar l j:Int) != 10)=true:=by simp;omega
          simp only[Cs,d2,ea,k10,ej,Ad,An,seval]
          (repeat' (first|(with_reducible refine aI ?_ ?_)|(first|(first|refine gF ?_ ?_|refine gT ?_ ?_|refine cI ?_ ?_|refine pI ?_ ?_)<;>intro h|(refine dI ?_;have h:=trivial))<;>simp only[h,ea,k10,ej,Ad,An,Bv,Bf,seval]))
          all_goals try (((try simp only[decide_eq_true_eq,decide_eq_false_iff_not,bne_iff_ne,ne_eq]at *)<;>(try omega));done)
          refine Cg.intro (j+1) ⟨by omega,by omega,by rw[hj2,Nr hjl h10];omega⟩ ?_ (by omega);simp only[Ad,seval]
          (repeat' (first|(with_reducible refine aI ?_ ?_)|(first|(first|refine gF ?_ ?_|refine gT ?_ ?_|refine cI ?_ ?_|refine pI ?_ ?_)<;>intro h|(refine dI ?_;have h:=trivial))<;>simp only[h,Ad,An,Bv,Bf,seval]))
          all_goals first|rfl|exact .inl rfl|trace_state
        ·have d2:decide (j<l.length)=false:=decide_eq_false hjl;obtain⟨hn1,hn2⟩:=hend (.inl (by omega));simp only[Cs,d2,Ad,An,seval]
         (repeat' (first|(with_reducible refine aI ?_ ?_)|(first|(first|refine gF ?_ ?_|refine gT ?_ ?_|refine cI ?_ ?_|refine pI ?_ ?_)<;>intro h|(refine dI ?_;have h:=trivial))<;>simp only[h,ea,Ad,An,Bv,Bf,seval]))
         all_goals try (((try simp only[decide_eq_true_eq,decide_eq_false_iff_not]at *)<;>(try omega));done)
         refine Cg.intro (j,[]) ⟨by simp only;omega,f,by simp only;rw[←EP hn1];exact hf,by simp only;omega⟩ ?_ (by simp only;omega);simp only[Cs,Ad,seval]
         (repeat' (first|(with_reducible refine aI ?_ ?_)|(first|(first|refine gF ?_ ?_|refine gT ?_ ?_|refine cI ?_ ?_|refine pI ?_ ?_)<;>intro h|(refine dI ?_;have h:=trivial))<;>simp only[h,Ad,An,Bv,Bf,seval]))
         all_goals first|rfl|exact .inl rfl|trace_state
      |cons y T=>
       simp only[Cs,d1,ea,Ad,An,seval]
       (repeat' (first|(with_reducible refine aI ?_ ?_)|(first|(first|refine gF ?_ ?_|refine gT ?_ ?_|refine cI ?_ ?_|refine pI ?_ ?_)<;>intro h|(refine dI ?_;have h:=trivial))<;>simp only[h,ea,Ad,An,Bv,Bf,seval]))
       all_goals try (((try simp only[decide_eq_true_eq,decide_eq_false_iff_not]at *)<;>(try omega));done)
       refine Ag.intro iO rfl (DJ _) ?_;simp only[hb,ea,k35,d35,Ad,An,seval]
       (repeat' (first|(with_reducible refine aI ?_ ?_)|(first|(first|refine gF ?_ ?_|refine gT ?_ ?_|refine cI ?_ ?_|refine pI ?_ ?_)<;>intro h|(refine dI ?_;have h:=trivial))<;>simp only[h,ea,k35,d35,Ad,An,Bv,Bf,seval]))
       all_goals try (((try simp only[decide_eq_true_eq,decide_eq_false_iff_not]at *)<;>(try omega));done)
       refine Ea.intro (fun j:Nat=>Cs γ l b (j,y::T)) (fun j=>i≤j∧j≤l.length∧AQ l i=j+Gr true (l.drop j)) (fun j=>l.length-j) i ?_ ⟨by omega,by omega,by rw[AQ,M9 hil hb h35,←Nr hil (by omega)]⟩ (fun j hj=>?_)
       ·simp only[Cs,Ad,seval]
        (repeat' (first|(with_reducible refine aI ?_ ?_)|(first|(first|refine gF ?_ ?_|refine gT ?_ ?_|refine cI ?_ ?_|refine pI ?_ ?_)<;>intro h|(refine dI ?_;have h:=trivial))<;>simp only[h,Ad,An,Bv,Bf,seval]))
        all_goals first|rfl|exact .inl rfl|trace_state
       ·obtain⟨hj0,hj1,hj2⟩:=hj;have ej:IntKind.i64.wrap ((j:Int)+1)=((j+1:Nat):Int):=A4 (by omega) (by omega)
        have hend:(l.length≤j∨Ar l j=10)→AQ l i=AQ l j∧i<j:=fun h=>by
         constructor
         ·rw[hj2,AQ]
          rcases h with h|h
          ·rw[FV h,FV h]
          ·by_cases hlt:j<l.length
           ·rw[U1 hlt h]
           ·rw[FV (by omega),FV (by omega)]
         ·by_cases hij:i<j
          ·exact hij
          ·have:j=i:=by omega
           subst this
           rcases h with h|h
           ·omega
           ·omega
        by_cases hjl:j<l.length
        ·have d2:decide (j<l.length)=true:=decide_eq_true hjl
         by_cases h10:Ar l j=10
         ·have k10:((Ar l j:Int) != 10)=false:=by rw[h10];decide
          obtain⟨hn1,hn2⟩:=hend (.inr h10);simp only[Cs,d2,ea,k10,Ad,An,seval]
          (repeat' (first|(with_reducible refine aI ?_ ?_)|(first|(first|refine gF ?_ ?_|refine gT ?_ ?_|refine cI ?_ ?_|refine pI ?_ ?_)<;>intro h|(refine dI ?_;have h:=trivial))<;>simp only[h,ea,k10,Ad,An,Bv,Bf,seval]))
          all_goals try (((try simp only[decide_eq_true_eq,decide_eq_false_iff_not,bne_eq_false_iff_eq]at *)<;>(try omega));done)
          refine Cg.intro (j,y::T) ⟨by simp only;omega,f,by simp only;rw[←EP hn1];exact hf,by simp only;omega⟩ ?_ (by simp only;omega);simp only[Cs,Ad,seval]
          (repeat' (first|(with_reducible refine aI ?_ ?_)|(first|(first|refine gF ?_ ?_|refine gT ?_ ?_|refine cI ?_ ?_|refine pI ?_ ?_)<;>intro h|(refine dI ?_;have h:=trivial))<;>simp only[h,Ad,An,Bv,Bf,seval]))
          all_goals first|rfl|exact .inl rfl|trace_state
         ·have k10:((Ar l j:Int) != 10)=true:=by simp;omega
          simp only[Cs,d2,ea,k10,ej,Ad,An,seval]
          (repeat' (first|(with_reducible refine aI ?_ ?_)|(first|(first|refine gF ?_ ?_|refine gT ?_ ?_|refine cI ?_ ?_|refine pI ?_ ?_)<;>intro h|(refine dI ?_;have h:=trivial))<;>simp only[h,ea,k10,ej,Ad,An,Bv,Bf,seval]))
          all_goals try (((try simp only[decide_eq_true_eq,decide_eq_false_iff_not,bne_iff_ne,ne_eq]at *)<;>(try omega));done)
          refine Cg.intro (j+1) ⟨by omega,by omega,by rw[hj2,Nr hjl h10];omega⟩ ?_ (by omega);simp only[Ad,seval]
          (repeat' (first|(with_reducible refine aI ?_ ?_)|(first|(first|refine gF ?_ ?_|refine gT ?_ ?_|refine cI ?_ ?_|refine pI ?_ ?_)<;>intro h|(refine dI ?_;have h:=trivial))<;>simp only[h,Ad,An,Bv,Bf,seval]))
          all_goals first|rfl|exact .inl rfl|trace_state
        ·have d2:decide (j<l.length)=false:=decide_eq_false hjl;obtain⟨hn1,hn2⟩:=hend (.inl (by omega));simp only[Cs,d2,Ad,An,seval]
         (repeat' (first|(with_reducible refine aI ?_ ?_)|(first|(first|refine gF ?_ ?_|refine gT ?_ ?_|refine cI ?_ ?_|refine pI ?_ ?_)<;>intro h|(refine dI ?_;have h:=trivial))<;>simp only[h,ea,Ad,An,Bv,Bf,seval]))
         all_goals try (((try simp only[decide_eq_true_eq,decide_eq_false_iff_not]at *)<;>(try omega));done)
         refine Cg.intro (j,y::T) ⟨by simp only;omega,f,by simp only;rw[←EP hn1];exact hf,by simp only;omega⟩ ?_ (by simp only;omega);simp only[Cs,Ad,seval]
         (repeat' (first|(with_reducible refine aI ?_ ?_)|(first|(first|refine gF ?_ ?_|refine gT ?_ ?_|refine cI ?_ ?_|refine pI ?_ ?_)<;>intro h|(refine dI ?_;have h:=trivial))<;>simp only[h,Ad,An,Bv,Bf,seval]))
         all_goals first|rfl|exact .inl rfl|trace_state
     ·have d35:decide (Ar l i=35)=false:=decide_eq_false h35;have hTi:AQ l i=i:=by rw[AQ,Ov hil hb h35];omega
      obtain⟨f,rfl⟩:∃ f',f=f'+1:=⟨f-1,by omega⟩;cases toks with
      |nil=>
       cases hh:headD (l.drop i)with
       |error e=>
        have he:=JI hh;have hne:(e != 0)=true:=by simpa using he
        have hit2:Ah l=(([]:List (AG×Nat))).map R0++[((zeroT,i),e)]:=by
         rw[hf,C0,hTi,if_neg (by omega),hh]
        rw[L3 he hit2];have htk:=H5 (γ:=γ) b l i hil hl;rw[hh]at htk;simp only[Cs,d1,ea,Ad,An,seval]
        (repeat' (first|(with_reducible refine aI ?_ ?_)|(first|(first|refine gF ?_ ?_|refine gT ?_ ?_|refine cI ?_ ?_|refine pI ?_ ?_)<;>intro h|(refine dI ?_;have h:=trivial))<;>simp only[h,ea,Ad,An,Bv,Bf,seval]))
        all_goals try (((try simp only[decide_eq_true_eq,decide_eq_false_iff_not,bne_iff_ne,ne_eq]at *)<;>(try omega));done)
        refine Ag.intro iO rfl (DJ _) ?_;simp only[hb,ea,k35,d35,Ad,An,seval]
        (repeat' (first|(with_reducible refine aI ?_ ?_)|(first|(first|refine gF ?_ ?_|refine gT ?_ ?_|refine cI ?_ ?_|refine pI ?_ ?_)<;>intro h|(refine dI ?_;have h:=trivial))<;>simp only[h,ea,k35,d35,Ad,An,Bv,Bf,seval]))
        all_goals try (((try simp only[decide_eq_true_eq,decide_eq_false_iff_not,bne_iff_ne,ne_eq]at *)<;>(try omega));done)
        refine Ag.intro pB (by simp[A0,A6]) htk ?_;simp only[ED,B6,AM,f0,hne,Ct,Ad,An,seval]
        all_goals first|done|rfl|trace_state
       |ok t=>
        have hsz:=Kb (by rw[Bd];omega) hh;rw[Bd]at hsz;have hz:((0:Int) != 0)=false:=by decide
        have ws:IntKind.i64.wrap ((i:Int)+(t.size:Int))=((i+t.size:Nat):Int):=(A4 (by omega) (by omega)).trans (by omega)
        have hit2:Ah l=((([]:List (AG×Nat)))++[(t,i)]).map R0++C0 f l (i+t.size):=by
         rw[hf,C0,hTi,if_neg (by omega),hh,List.map_append];simp[R0]
        have htk:=H5 (γ:=γ) b l i hil hl;rw[hh]at htk;simp only[Cs,d1,ea,Ad,An,seval]
        (repeat' (first|(with_reducible refine aI ?_ ?_)|(first|(first|refine gF ?_ ?_|refine gT ?_ ?_|refine cI ?_ ?_|refine pI ?_ ?_)<;>intro h|(refine dI ?_;have h:=trivial))<;>simp only[h,ea,Ad,An,Bv,Bf,seval]))
        all_goals try (((try simp only[decide_eq_true_eq,decide_eq_false_iff_not,bne_eq_false_iff_eq]at *)<;>(try omega));done)
        refine Ag.intro iO rfl (DJ _) ?_;simp only[hb,ea,k35,d35,Ad,An,seval]
        (repeat' (first|(with_reducible refine aI ?_ ?_)|(first|(first|refine gF ?_ ?_|refine gT ?_ ?_|refine cI ?_ ?_|refine pI ?_ ?_)<;>intro h|(refine dI ?_;have h:=trivial))<;>simp only[h,ea,k35,d35,Ad,An,Bv,Bf,seval]))
        all_goals try (((try simp only[decide_eq_true_eq,decide_eq_false_iff_not,bne_eq_false_iff_eq]at *)<;>(try omega));done)
        refine Ag.intro pB (by simp[A0,A6]) htk ?_;simp only[ED,Dh,AG.av,AM,hz,ws,Ad,An,seval]
        (repeat' (first|(with_reducible refine aI ?_ ?_)|(first|(first|refine gF ?_ ?_|refine gT ?_ ?_|refine cI ?_ ?_|refine pI ?_ ?_)<;>intro h|(refine dI ?_;have h:=trivial))<;>simp only[h,hz,ws,Ad,An,Bv,Bf,seval]))
        refine Cg.intro (i+t.size,[(t,i)]) ⟨by simp only;omega,f,by simp only;exact hit2,by simp only;omega⟩ ?_ (by simp only;omega);simp only[Cs,B7,CZ,A3,Ad,seval]
        (repeat' (first|(with_reducible refine aI ?_ ?_)|(first|(first|refine gF ?_ ?_|refine gT ?_ ?_|refine cI ?_ ?_|refine pI ?_ ?_)<;>intro h|(refine dI ?_;have h:=trivial))<;>simp only[h,Ad,An,Bv,Bf,seval]))
        all_goals first|rfl|exact .inl rfl|trace_state
      |cons y T=>
       cases hh:headD (l.drop i)with
       |error e=>
        have he:=JI hh;have hne:(e != 0)=true:=by simpa using he
        have hit2:Ah l=(y::T).map R0++[((zeroT,i),e)]:=by
         rw[hf,C0,hTi,if_neg (by omega),hh]
        rw[L3 he hit2];have htk:=H5 (γ:=γ) b l i hil hl;rw[hh]at htk;simp only[Cs,d1,ea,Ad,An,seval]
        (repeat' (first|(with_reducible refine aI ?_ ?_)|(first|(first|refine gF ?_ ?_|refine gT ?_ ?_|refine cI ?_ ?_|refine pI ?_ ?_)<;>intro h|(refine dI ?_;have h:=trivial))<;>simp only[h,ea,Ad,An,Bv,Bf,seval]))
        all_goals try (((try simp only[decide_eq_true_eq,decide_eq_false_iff_not,bne_iff_ne,ne_eq]at *)<;>(try omega));done)
        refine Ag.intro iO rfl (DJ _) ?_;simp only[hb,ea,k35,d35,Ad,An,seval]
        (repeat' (first|(with_reducible refine aI ?_ ?_)|(first|(first|refine gF ?_ ?_|refine gT ?_ ?_|refine cI ?_ ?_|refine pI ?_ ?_)<;>intro h|(refine dI ?_;have h:=trivial))<;>simp only[h,ea,k35,d35,Ad,An,Bv,Bf,seval]))
        all_goals try (((try simp only[decide_eq_true_eq,decide_eq_false_iff_not,bne_iff_ne,ne_eq]at *)<;>(try omega));done)
        refine Ag.intro pB (by simp[A0,A6]) htk ?_;simp only[ED,B6,AM,f0,hne,Ct,Ad,An,seval];rw[fz];exact .inr ⟨rfl,2,⟨T.length,54,A3 (y::T)⟩,A3 (y::T),rfl,rfl,BL _,.inl rfl,BB,MU _⟩
       |ok t=>
        have hsz:=Kb (by rw[Bd];omega) hh;rw[Bd]at hsz;have hz:((0:Int) != 0)=false:=by decide
        have ws:IntKind.i64.wrap ((i:Int)+(t.size:Int))=((i+t.size:Nat):Int):=(A4 (by omega) (by omega)).trans (by omega)
        have hit2:Ah l=((y::T)++[(t,i)]).map R0++C0 f l (i+t.size):=by
         rw[hf,C0,hTi,if_neg (by omega),hh,List.map_append];simp[R0]
        have htk:=H5 (γ:=γ) b l i hil hl;rw[hh]at htk;simp only[Cs,d1,ea,Ad,An,seval]
        (repeat' (first|(with_reducible refine aI ?_ ?_)|(first|(first|refine gF ?_ ?_|refine gT ?_ ?_|refine cI ?_ ?_|refine pI ?_ ?_)<;>intro h|(refine dI ?_;have h:=trivial))<;>simp only[h,ea,Ad,An,Bv,Bf,seval]))
        all_goals try (((try simp only[decide_eq_true_eq,decide_eq_false_iff_not,bne_eq_false_iff_eq]at *)<;>(try omega));done)
        refine Ag.intro iO rfl (DJ _) ?_;simp only[hb,ea,k35,d35,Ad,An,seval]
        (repeat' (first|(with_reducible refine aI ?_ ?_)|(first|(first|refine gF ?_ ?_|refine gT ?_ ?_|refine cI ?_ ?_|refine pI ?_ ?_)<;>intro h|(refine dI ?_;have h:=trivial))<;>simp only[h,ea,k35,d35,Ad,An,Bv,Bf,seval]))
        all_goals try (((try simp only[decide_eq_true_eq,decide_eq_false_iff_not,bne_eq_false_iff_eq]at *)<;>(try omega));done)
        refine Ag.intro pB (by simp[A0,A6]) htk ?_
        have hcnt:T.length+2≤32769:=by
         have h1:=LQ l;rw[hit2]at h1;simp at h1;omega
        have hlc:=HA (y::T);have htk6:(A3 (y::T)).take ((T.length+1) * 6)=A3 (y::T):=Bt (by rw[hlc];exact BL _);rw[BC]at hlc;have hLC7:=Ja 3 (y::T);have hY7:AK 3 (B7 y)=true:=J7 3 _;have happ:=JS (y::T) (t,i);have hx6:B7 (t,i)=(CZ t i).map AV.v:=rfl;simp only[ED,Dh,AG.av,AM,hz,ws,hlc,htk6,Ad,An,seval]
        (repeat' (first|(with_reducible refine aI ?_ ?_)|(first|(first|refine gF ?_ ?_|refine gT ?_ ?_|refine cI ?_ ?_|refine pI ?_ ?_)<;>intro h|(refine dI ?_;have h:=trivial))<;>simp only[h,hz,ws,hlc,htk6,Ad,An,Bv,Bf,seval]))
        all_goals try omega
        refine Cg.intro (i+t.size,y::(T++[(t,i)])) ⟨by simp only;omega,f,by simp only;exact hit2,by simp only;omega⟩ ?_ (by simp only;omega);rw[Bc]at happ;simp only[Cs,happ,hx6,CZ,Bp,BC,BD,Ad,seval]
        (repeat' (first|(with_reducible refine aI ?_ ?_)|(first|(first|refine gF ?_ ?_|refine gT ?_ ?_|refine cI ?_ ?_|refine pI ?_ ?_)<;>intro h|(refine dI ?_;have h:=trivial))<;>simp only[h,Ad,An,Bv,Bf,seval]))
        all_goals first|rfl|exact .inl rfl|(refine .inr ⟨?_,?_⟩<;>simp[AK,okRefB,CM,Ig,hLC7,hY7];done)|trace_state
   ·have d1:decide (i<l.length)=false:=decide_eq_false hil;have hT:l.length≤AQ l i:=by have:=R4 l i;omega
    have hno:C0 f l i=[]:=by
     cases f with
     |zero=>rfl
     |succ f=>rw[C0,if_pos hT]
    rw[hno,BS]at hf;rw[PO hf];cases toks with
    |nil=>
     simp only[Cs,d1,Ct,Ad,An,seval]
     all_goals first|done|rfl|trace_state
    |cons y T=>
     simp only[Cs,d1,Ct,Ad,An,seval];rw[fz];exact .inr ⟨rfl,2,⟨T.length,54,A3 (y::T)⟩,A3 (y::T),rfl,rfl,BL _,.inl rfl,BB,MU _⟩
structure Tk where
 kind:Int
 text:List UInt8
 int:Int
 real:Nat
 pos:Int
 size:Int
def Tk.cells(t:Tk):List AV:=[.v (.int .i64 t.kind),.v (.string ⟨t.text.toArray⟩),.v (.int .i64 t.int),.v (.float .f64 t.real),.v (.int .i64 t.pos),.v (.int .i64 t.size)]
def C3(l:List Tk):List AV:=l.flatMap Tk.cells
theorem Fm(l:List Tk):(C3 l).length=l.length * 6:=by
 induction l with
 |nil=>rfl
 |cons t l ih=>unfold C3 at ih⊢;rw[BE,Bp,ih,BC];simp only[Tk.cells,BC,BD];omega
theorem Vt{l:List Tk}{i k:Nat}{t:Tk}(h:l[i]?=some t)(hk:k<6):(C3 l)[i * 6+k]?=(Tk.cells t)[k]?:=by
 induction l generalizing i with
 |nil=>cases h
 |cons x l ih=>
  unfold C3 at ih⊢;rw[BE];cases i with
  |zero=>
   simp only[Bz,Option.some.injEq]at h;subst h;rw[Ba (by simp only[Tk.cells,BC,BD];omega),Nat.zero_mul,Nat.zero_add]
  |succ i=>
   rw[Br (by simp only[Tk.cells,BC,BD];omega)];rw[←ih (by simpa using h)]
   congr 1
   simp only[Tk.cells,BC,BD];omega
def EV(L:AV)(ts:List Tk):Prop:=(L=.v (.slice none 0 0)∧ts=[])∨∃ b m cs,L=.sl b ts.length m cs∧C3 ts<+:cs
theorem EV.cell{b:Bool}{ts:List Tk}{cs:List AV}(h:C3 ts<+:cs){i k:Nat}{t:Tk}(hi:ts[i]?=some t)(hk:k<6):cs[i * 6+k]?=(Tk.cells t)[k]?:=by
 obtain⟨r,rfl⟩:=h;have hl:i<ts.length:=(Bs.1 hi).1;rw[Ba (by rw[Fm];omega)];exact Vt hi hk
structure Nd where
 k:Int
 a:Int
 b:Int
 nm:List UInt8
 vk:Int
 vi:Int
 vr:Nat
 vt:List UInt8
def Nd.cells(n:Nd):List AV:=[.v (.int .i64 n.k),.v (.int .i64 n.a),.v (.int .i64 n.b),.v (.string ⟨n.nm.toArray⟩),.v (.int .i64 n.vk),.v (.int .i64 n.vi),.v (.float .f64 n.vr),.v (.complex .f64 0 0),.v (.string ⟨n.vt.toArray⟩)]
def Cj(l:List Nd):List AV:=l.flatMap Nd.cells
theorem Dg(l:List Nd):(Cj l).length=l.length * 9:=by
 induction l with
 |nil=>rfl
 |cons t l ih=>unfold Cj at ih⊢;rw[BE,Bp,ih,BC];simp only[Nd.cells,BC,BD];omega
theorem Hy(l m:List Nd):Cj (l++m)=Cj l++Cj m:=List.flatMap_append
theorem GG(l:List Nd):(Cj l).take (l.length * 9)=Cj l:=by rw[←Dg,List.take_length]
inductive Tr where
 |lf (k:Int) (nm:List UInt8) (vk vi:Int) (vr:Nat) (vt:List UInt8)
 |un (k:Int) (a:Tr)
 |bi (k:Int) (a b:Tr)
def Tr.size:Tr→Nat
 |.lf .. =>1
 |.un _ a=>a.size+1
 |.bi _ a b=>a.size+b.size+1
def Tr.deep:Tr→Nat
 |.lf .. =>1
 |.un _ a=>a.deep+1
 |.bi _ a b=>max a.deep b.deep+1
def lay:Tr→Nat→List Nd
 |.lf k nm vk vi vr vt,_=>[⟨k,0,0,nm,vk,vi,vr,vt⟩]
 |.un k a,n=>lay a n++[⟨k,((n+a.size-1:Nat):Int),0,[],0,0,0,[]⟩]
 |.bi k a b,n=>lay a n++lay b (n+a.size)++[⟨k,((n+a.size-1:Nat):Int),((n+a.size+b.size-1:Nat):Int),[],0,0,0,[]⟩]
theorem size_pos(t:Tr):1≤t.size:=by cases t<;>simp only[Tr.size]<;>omega
theorem B2(t:Tr):∀ n,(lay t n).length=t.size:=by
 induction t with
 |lf=>intro n;rfl
 |un k a ih=>intro n;simp[lay,Tr.size,ih]
 |bi k a b iha ihb=>intro n;simp[lay,Tr.size,iha,ihb];omega
def Cv(ts:List Tk)(i:Nat):List UInt8:=match ts[i]? with
 |some t=>if t.kind=5 then t.text else []
 |none=>[]
def Fw(s:List UInt8):Int:=
 if s=[124,124]then 17 else if s=[38,38]then 16 else if s=[61,61]then 10 else if s=[33,61]then 11
 else if s=[60]then 12 else if s=[60,61]then 13 else if s=[62]then 14 else if s=[62,61]then 15
 else if s=[43]then 5 else if s=[45]then 6 else if s=[42]then 7 else if s=[47]then 8 else if s=[37]then 9 else 0
def Fg(k:Int):Int:=
 if k=17 then 1 else if k=16 then 2 else if k=10∨k=11∨k=12∨k=13∨k=14∨k=15 then 3 else if k=5∨k=6 then 4 else if k=7∨k=8∨k=9 then 5 else if k=3∨k=4 then 6 else 7
def B0(s:List UInt8):Int:=
 if s=[114,101]then 18 else if s=[105,109]then 19 else if s=[115,105,122,101,50]then 20 else if s=[99,111,109,112]then 21
 else if s=[114,101,97,108]then 22 else if s=[108,101,110]then 23 else if s=[97,116]then 24 else if s=[99,97,116]then 25 else if s=[115,116,114]then 26 else 0
def De(k:Int):Int:=
 if k=1∨k=2 then 0 else if k=3∨k=4∨k=18∨k=19∨k=20∨k=22∨k=23∨k=26 then 1 else if k<5∨26<k then -1 else 2
inductive Z5 where
 |ok (t:Tr) (p:Nat)
 |bad (p:Nat)
inductive Md where
 |bin (n:Nat)
 |lp (n:Nat) (a:Tr)
 |un
 |fs
 |nm (s:List UInt8)
def Pv:List UInt8:=[116,114,117,101]
def Lz:List UInt8:=[102,97,108,115,101]
def pr(ts:List Tk):Nat→Md→Nat→Z5
 |0,_,p=>.bad p
 |f+1,.bin n,p=>if 5<n then pr ts f .un p else match pr ts f (.bin (n+1)) p with
  |.bad q=>.bad q
  |.ok a q=>pr ts f (.lp n a) q
 |f+1,.lp n a,p=>if Fw (Cv ts p)=0∨Fg (Fw (Cv ts p))≠n then .ok a p else match pr ts f (.bin (n+1)) (p+1)with
  |.bad q=>.bad q
  |.ok b q=>if n=3 then .ok (.bi (Fw (Cv ts p)) a b) q else pr ts f (.lp n (.bi (Fw (Cv ts p)) a b)) q
 |f+1,.un,p=>if Cv ts p=[45]∨Cv ts p=[33]then match pr ts f .un (p+1)with
   |.bad q=>.bad q
   |.ok a q=>.ok (.un (if Cv ts p=[45]then 3 else 4) a) q
  else pr ts f .fs p
 |f+1,.fs,p=>if Cv ts p=[40]then match pr ts f (.bin 1) (p+1)with
   |.bad q=>.bad q
   |.ok a q=>if Cv ts q=[41]then .ok a (q+1)else .bad q
  else match ts[p]? with
  |none=>.bad p
  |some t=>if t.kind=5 then .bad p else if t.kind=2 then .ok (.lf 1 [] 1 t.int 0 []) (p+1)else if t.kind=3 then .ok (.lf 1 [] 2 0 t.real []) (p+1)
   else if t.kind=4 then .ok (.lf 1 [] 4 0 0 t.text) (p+1)else pr ts f (.nm t.text) (p+1)
 |f+1,.nm s,p=>if s=Pv then .ok (.lf 1 [] 5 1 0 []) p else if s=Lz then .ok (.lf 1 [] 5 0 0 []) p else if B0 s=0 then .ok (.lf 2 s 0 0 0 []) p
  else if Cv ts p≠[40]then .bad p else match pr ts f (.bin 1) (p+1)with
   |.bad q=>.bad q
   |.ok a q=>if De (B0 s)=2 then (if Cv ts q≠[44]then .bad q else match pr ts f (.bin 1) (q+1)with
     |.bad r=>.bad r
     |.ok b r=>if Cv ts r=[41]then .ok (.bi (B0 s) a b) (r+1)else .bad r)
    else if Cv ts q=[41]then .ok (.un (B0 s) a) (q+1)else .bad q
def Md.need(ts:List Tk)(p:Nat):Md→Nat
 |.bin n=>16 * (ts.length-p)+(12-n)
 |.lp _ _=>16 * (ts.length-p)+2
 |.un=>16 * (ts.length-p)+4
 |.fs=>16 * (ts.length-p)+3
 |.nm _=>16 * (ts.length-p)+2
def Md.adv(p:Nat):Md→Tr→Nat→Prop
 |.lp _ a,t,q=>p≤q∧t.size+p≤q+a.size
 |.nm _,t,q=>p≤q∧t.size+p≤q+1
 |_,t,q=>p<q∧t.size+p≤q
theorem Zy{ts:List Tk}{p:Nat}(h:Cv ts p≠[]):p<ts.length:=by
 unfold Cv at h;cases e:ts[p]? with
 |none=>rw[e]at h;exact absurd rfl h
 |some t=>exact (Bs.1 e).1
theorem CW{ts:List Tk}{p:Nat}{c:UInt8}{s:List UInt8}(h:Cv ts p=c::s):p<ts.length:=Zy (by rw[h];exact List.cons_ne_nil _ _)
theorem Qf{ts:List Tk}{p:Nat}(h:Fw (Cv ts p)≠0):p<ts.length:=Zy fun e=>h (by rw[e];rfl)
theorem Eo(ts:List Tk):∀ (f:Nat) (m:Md) (p:Nat) (t:Tr) (q:Nat),p≤ts.length→pr ts f m p=.ok t q→m.adv p t q∧q≤ts.length:=by
 intro f
 induction f with
 |zero=>intro m p t q _ h;cases m<;>cases h
 |succ f ih=>
  intro m p t q hp h;cases m with
  |bin n=>
   rw[pr]at h
   split at h
   ·have k:=ih .un _ _ _ hp h;exact k
   ·split at h
    ·cases h
    ·rename_i a q' e;obtain⟨⟨h1,h2⟩,h3⟩:=ih _ _ _ _ hp e;obtain⟨⟨g1,g2⟩,g3⟩:=ih _ _ _ _ h3 h;exact⟨⟨by omega,by omega⟩,g3⟩
  |lp n a=>
   rw[pr]at h
   split at h
   ·cases h;exact⟨⟨BL _,by omega⟩,hp⟩
   ·rename_i hk;have hlt:=Qf (fun e=>hk (.inl e))
    split at h
    ·cases h
    ·rename_i b q' e;obtain⟨⟨h1,h2⟩,h3⟩:=ih _ _ _ _ (by omega) e
     split at h
     ·cases h;refine⟨⟨by omega,?_⟩,h3⟩;simp only[Tr.size];omega
     ·obtain⟨⟨g1,g2⟩,g3⟩:=ih _ _ _ _ h3 h;simp only[Tr.size]at g2;exact⟨⟨by omega,by omega⟩,g3⟩
  |un=>
   rw[pr]at h
   split at h
   ·rename_i hm;have hlt:p<ts.length:=hm.elim CW CW
    split at h
    ·cases h
    ·rename_i a q' e;obtain⟨⟨h1,h2⟩,h3⟩:=ih _ _ _ _ (by omega) e;cases h;refine⟨⟨by omega,?_⟩,h3⟩;simp only[Tr.size];omega
   ·have k:=ih .fs _ _ _ hp h;exact k
  |fs=>
   rw[pr]at h
   split at h
   ·rename_i hm;have hlt:p<ts.length:=CW hm
    split at h
    ·cases h
    ·rename_i a q' e;obtain⟨⟨h1,h2⟩,h3⟩:=ih _ _ _ _ (by omega) e
     split at h
     ·rename_i hm2;have hlt2:q'<ts.length:=CW hm2;cases h;exact⟨⟨by omega,by omega⟩,by omega⟩
     ·cases h
   ·split at h
    ·cases h
    ·rename_i t' e;have hlt:p<ts.length:=(Bs.1 e).1
     split at h
     ·cases h
     ·split at h
      ·cases h;refine⟨⟨by omega,?_⟩,by omega⟩;simp only[Tr.size];omega
      ·split at h
       ·cases h;refine⟨⟨by omega,?_⟩,by omega⟩;simp only[Tr.size];omega
       ·split at h
        ·cases h;refine⟨⟨by omega,?_⟩,by omega⟩;simp only[Tr.size];omega
        ·obtain⟨⟨g1,g2⟩,g3⟩:=ih _ _ _ _ (by omega) h;exact⟨⟨by omega,by omega⟩,g3⟩
  |nm s=>
   rw[pr]at h
   split at h
   ·cases h;refine⟨⟨by omega,?_⟩,hp⟩;simp only[Tr.size];omega
   split at h
   ·cases h;refine⟨⟨by omega,?_⟩,hp⟩;simp only[Tr.size];omega
   split at h
   ·cases h;refine⟨⟨by omega,?_⟩,hp⟩;simp only[Tr.size];omega
   split at h
   ·cases h
   rename_i hm;have hlt:p<ts.length:=CW (Decidable.not_not.1 hm)
   split at h
   ·cases h
   rename_i a q' e;obtain⟨⟨h1,h2⟩,h3⟩:=ih _ _ _ _ (by omega) e
   split at h
   ·split at h
    ·cases h
    rename_i hm2;have hlt2:q'<ts.length:=CW (Decidable.not_not.1 hm2)
    split at h
    ·cases h
    rename_i b r e2;obtain⟨⟨g1,g2⟩,g3⟩:=ih _ _ _ _ (by omega) e2
    split at h
    ·rename_i hm3;have hlt3:r<ts.length:=CW hm3;cases h;refine⟨⟨by omega,?_⟩,by omega⟩;simp only[Tr.size];omega
    ·cases h
   ·split at h
    ·rename_i hm3;have hlt3:q'<ts.length:=CW hm3;cases h;refine⟨⟨by omega,?_⟩,by omega⟩;simp only[Tr.size];omega
    ·cases h
def Fr(S:Nat→Prop)(h h':List Aa):Prop:=h.length≤h'.length∧∀ k,k<h.length→¬S k→h'[k]?=h[k]?
theorem Fr.refl(S:Nat→Prop)(h:List Aa):Fr S h h:=⟨BL _,fun _ _ _=>rfl⟩
theorem Fr.trans{S S1:Nat→Prop}{h h1 h2:List Aa}(a:Fr S h h1)(b:Fr S1 h1 h2)(hs:∀ k,S1 k→S k∨h.length≤k):Fr S h h2:=
 ⟨BM a.1 b.1,fun k hk hn=>(b.2 k (BO hk a.1) fun hk1=>(hs k hk1).elim hn fun hle=>by omega).trans (a.2 k hk hn)⟩
theorem Fr.set{S:Nat→Prop}{h:List Aa}{i:Nat}(b:Aa)(hi:S i):Fr S h (h.set i b):=
 ⟨by simp,fun k hk hn=>Bn fun e=>by subst e;exact hn hi⟩
theorem Fr.app{S:Nat→Prop}(h l:List Aa):Fr S h (h++l):=
 ⟨by simp,fun k hk _=>Ba hk⟩
theorem Fr.mono{S S1:Nat→Prop}{h h1:List Aa}(a:Fr S h h1)(hs:∀ k,S k→S1 k):Fr S1 h h1:=⟨a.1,fun k hk hn=>a.2 k hk fun e=>hn (hs k e)⟩
theorem Fr.at{S:Nat→Prop}{h h1:List Aa}(a:Fr S h h1){k:Nat}{b:Aa}(hk:h[k]?=some b)(hn:¬S k):h1[k]?=some b:=
 (a.2 k (Bs.1 hk).1 hn).trans hk
def AZ(N:AV)(k:Nat):Prop:=match N with
 |.own j _ _=>k=j
 |_=>False
def HC(h:List Aa)(N:AV)(ns:List Nd):Prop:=(N=.v (.slice none 0 0)∧ns=[])∨∃ j ver,N=.own j ver ns.length∧h[j]?=some ⟨ver,115,Cj ns⟩
theorem HC.fr{S:Nat→Prop}{h h1:List Aa}{N:AV}{ns:List Nd}(a:HC h N ns)(f:Fr S h h1)(hn:∀ k,AZ N k→¬S k):HC h1 N ns:=by
 rcases a with a|⟨j,ver,rfl,hj⟩
 ·exact .inl a
 ·exact .inr ⟨j,ver,rfl,f.at hj (hn j rfl)⟩
def RS(h:List Aa)(i:Nat)(L:AV)(p:Nat)(N:AV)(ns:List Nd):Prop:=h[i]?=some ⟨0,104,[L,.v (.int .i64 p),N]⟩∧HC h N ns
theorem RS.lt{h:List Aa}{i:Nat}{L:AV}{p:Nat}{N:AV}{ns:List Nd}(a:RS h i L p N ns):i<h.length:=(Bs.1 a.1).1
theorem RS.ne{h:List Aa}{i:Nat}{L:AV}{p:Nat}{N:AV}{ns:List Nd}(a:RS h i L p N ns){k:Nat}(hk:AZ N k):k≠i:=by
 intro e;subst e
 rcases a.2 with⟨rfl,_⟩|⟨j,ver,rfl,hj⟩
 ·exact hk
 ·have hk':k=j:=hk;subst hk';rw[a.1]at hj;cases hj
theorem RS.move{h:List Aa}{i:Nat}{L:AV}{p:Nat}{N:AV}{ns:List Nd}(a:RS h i L p N ns)(q:Nat):RS (h.set i ⟨0,104,[L,.v (.int .i64 q),N]⟩) i L q N ns:=
 ⟨Be a.lt,a.2.fr (S:=fun k=>k=i) (Fr.set _ rfl) fun k hk=>a.ne hk⟩
def RP(i:Nat)(N:AV)(k:Nat):Prop:=k=i∨AZ N k
def Hm(q:Nat):AV:=.ifc 185 (.agg [.v (.int .i64 q)])
def D8(L:AV)(i:Nat)(N:AV)(h:List Aa)(ns:List Nd)(r:Z5)(o:Out)(h':List Aa):Prop:=
 Fr (RP i N) h h'∧match r with
 |.ok t q=>o=.ret (.v (.int .i64 ((ns.length+t.size-1:Nat):Int)))∧∃ N',RS h' i L q N' (ns++lay t ns.length)∧∀ k,AZ N' k→AZ N k∨h.length≤k
 |.bad q=>o=.pan (Hm q)
theorem A7:AX Tp 115=some true∧
  AX Tp 2=some false∧
  AX Tp 22=some false∧
  AX Tp 3=some false∧
  AX Tp 39=some false∧
  AX Tp 48=some false∧
  AX Tp 53=some true∧
  AX Tp 9=some false∧
  I0 Tp 39 39=some (115,9,96)∧
  Az Tp 39=some 115∧
  Az Tp 48=some 53∧
  Al Tp 104 0=some (0,48)∧
  Al Tp 104 1=some (1,3)∧
  Al Tp 104 2=some (2,39)∧
  Al Tp 115 2=some (2,3)∧
  Al Tp 185 0=some (0,3)∧
  Al Tp 53 0=some (0,3)∧
  Al Tp 53 1=some (1,9)∧
  Al Tp 53 2=some (2,2)∧
  Al Tp 53 3=some (3,22)∧
  Gt Tp 185=some false∧
  Gt Tp 20=some true∧
  Od Tp 39=some (115,9,[.v (.int .i64 0),.v (.int .i64 0),.v (.int .i64 0),.v (.string ⟨#[]⟩),.v (.int .i64 0),.v (.int .i64 0),.v (.float .f64 0),.v (.complex .f64 0 0),.v (.string ⟨#[]⟩)])∧
  BW Tp 115=some [(0,1),(1,1),(2,1),(3,1),(4,5)]∧
  BW Tp 185=some [(0,1)]∧
  BW Tp 25=some [(0,1),(1,1),(2,1),(3,1),(4,1)]∧
  Aq Tp 115=some 9∧
  Aq Tp 185=some 1∧
  Aq Tp 2=some 1∧
  Aq Tp 22=some 1∧
  Aq Tp 3=some 1∧
  Aq Tp 39=some 1∧
  Aq Tp 48=some 1∧
  Aq Tp 53=some 6∧
  Aq Tp 9=some 1∧
  Hw Tp 115=some [.v (.int .i64 0),.v (.int .i64 0),.v (.int .i64 0),.v (.string ⟨#[]⟩),.v (.int .i64 0),.v (.int .i64 0),.v (.float .f64 0),.v (.complex .f64 0 0),.v (.string ⟨#[]⟩)]∧
  Hw Tp 185=some [.v (.int .i64 0)]∧
  Hw Tp 25=some [.v (.int .i64 0),.v (.int .i64 0),.v (.float .f64 0),.v (.complex .f64 0 0),.v (.string ⟨#[]⟩)]∧
  Hw Tp 3=some [.v (.int .i64 0)]∧
  Hw Tp 53=some [.v (.int .i64 0),.v (.string ⟨#[]⟩),.v (.int .i64 0),.v (.float .f64 0),.v (.int .i64 0),.v (.int .i64 0)]:=
 (by and_intros<;>kernel_rfl)
theorem fU:Ak Tp 186:=⟨_,Tryz.func186,by kernel_rfl,by kernel_rfl⟩
theorem NF:Ak Tp 188:=⟨_,Tryz.func188,by kernel_rfl,by kernel_rfl⟩
theorem Zk:Ak Tp 282:=⟨_,Tryz.func282,by kernel_rfl,by kernel_rfl⟩
theorem c185:Ak Tp 185:=⟨_,Tryz.func185,by kernel_rfl,by kernel_rfl⟩
theorem c187:Ak Tp 187:=⟨_,Tryz.func187,by kernel_rfl,by kernel_rfl⟩
theorem c299:Ak Tp 299:=⟨_,Tryz.func299,by kernel_rfl,by kernel_rfl⟩
theorem mY:Ak Tp 115:=⟨_,Tryz.func115,by kernel_rfl,by kernel_rfl⟩
theorem lH{ts:List Tk}{p:Nat}(h:ts.length≤p):Cv ts p=[]:=by
 unfold Cv;rw[Bq h]
theorem EV.at{ts:List Tk}{cs:List AV}(h:C3 ts<+:cs){p:Nat}{t:Tk}(hp:ts[p]?=some t):
  cs[p * 6]?=some (.v (.int .i64 t.kind))∧cs[p * 6+1]?=some (.v (.string ⟨t.text.toArray⟩))∧cs[p * 6+2]?=some (.v (.int .i64 t.int))∧cs[p * 6+3]?=some (.v (.float .f64 t.real))∧
   cs[p * 6+4]?=some (.v (.int .i64 t.pos))∧cs[p * 6+5]?=some (.v (.int .i64 t.size)):=
 ⟨EV.cell (b:=false) h hp (k:=0) (by decide),EV.cell (b:=false) h hp (k:=1) (by decide),EV.cell (b:=false) h hp (k:=2) (by decide),EV.cell (b:=false) h hp (k:=3) (by decide),EV.cell (b:=false) h hp (k:=4) (by decide),EV.cell (b:=false) h hp (k:=5) (by decide)⟩
theorem MM{ts:List Tk}{h:List Aa}{i p:Nat}{L N:AV}{ns:List Nd}(hL:EV L ts)(hr:RS h i L p N ns):
  Ck Tp γ 186 [.ptr i 0 0] h fun o h'=>o=.ret (.v (.string ⟨(Cv ts p).toArray⟩))∧h'=h:=by
 have hi:=hr.1;refine Ck.of Tryz.func186 rfl ?_
 rcases hL with⟨rfl,rfl⟩|⟨b,m,cs,rfl,hcs⟩
 ·have e0:Cv [] p=[]:=rfl;have d1:decide ((p:Int)<0)=false:=decide_eq_false (by omega);rw[e0];simp only[Tryz.f186,Af,seval]
  (repeat' (first|(with_reducible refine aI ?_ ?_)|(first|(first|refine gF ?_ ?_|refine gT ?_ ?_|refine cI ?_ ?_|refine pI ?_ ?_)<;>intro h|(refine dI ?_;have h:=trivial))<;>simp only[h,hi,d1,Af,A7,Bv,Bf,seval]))
 ·by_cases hlt:p<ts.length
  ·have d1:decide (p<ts.length)=true:=decide_eq_true (by omega);have ht:ts[p]?=some ts[p]:=by simp[hlt]
   generalize ts[p]=t at ht;obtain⟨k0,k1,_⟩:=EV.at hcs ht
   by_cases hk:t.kind=5
   ·have e0:Cv ts p=t.text:=by unfold Cv;rw[ht];simp[hk]
    have d2:(t.kind==5)=true:=by simpa using hk
    rw[e0];simp only[Tryz.f186,Af,seval]
    (repeat' (first|(with_reducible refine aI ?_ ?_)|(first|(first|refine gF ?_ ?_|refine gT ?_ ?_|refine cI ?_ ?_|refine pI ?_ ?_)<;>intro h|(refine dI ?_;have h:=trivial))<;>simp only[h,hi,d1,d2,k0,k1,Af,A7,Bv,Bf,seval]))
    all_goals exact hlt
   ·have e0:Cv ts p=[]:=by unfold Cv;rw[ht];simp[hk]
    have d2:(t.kind==5)=false:=by simpa using hk
    rw[e0];simp only[Tryz.f186,Af,seval]
    (repeat' (first|(with_reducible refine aI ?_ ?_)|(first|(first|refine gF ?_ ?_|refine gT ?_ ?_|refine cI ?_ ?_|refine pI ?_ ?_)<;>intro h|(refine dI ?_;have h:=trivial))<;>simp only[h,hi,d1,d2,k0,k1,Af,A7,Bv,Bf,seval]))
    all_goals exact hlt
  ·have d1:decide (p<ts.length)=false:=decide_eq_false (by omega);rw[lH (by omega)];simp only[Tryz.f186,Af,seval]
   (repeat' (first|(with_reducible refine aI ?_ ?_)|(first|(first|refine gF ?_ ?_|refine gT ?_ ?_|refine cI ?_ ?_|refine pI ?_ ?_)<;>intro h|(refine dI ?_;have h:=trivial))<;>simp only[h,hi,d1,Af,A7,Bv,Bf,seval]))
end Go.Proofs.YtlobiioioicmhaaGreatDoor
