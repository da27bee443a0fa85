/- A part of the proof. -/
import Derived.Test.YtlobiioioicmhaaGreatDoorAQ3
set_option linter.all false
set_option maxHeartbeats 8000000
namespace Go.Proofs.YtlobiioioicmhaaGreatDoor
open _root_.Bool renaming not_true→Bv,not_false→Bf
open _root_.List renaming length_drop→Bd,length_take→Bh
open Go.Proofs.Tryz renaming prog→Tp
open Go Go.Ev
set_option maxRecDepth 20000
variable {γ:List (Nat×AV)}
def Cu(t:AD):List AV:=[.v (.int .i64 t.kind),.v (.string ⟨t.text.toArray⟩),.v (.int .i64 t.int),.v (.float .f64 t.real),.v (.int .i64 0),.v (.int .i64 t.size)]
def Dy(γ:List (Nat×AV))(b:Bool)(l:List UInt8):Nat×Nat×AD×Int→St
 |(_,i,t,e)=>⟨⟨98,[(0,.sl b l.length l.length (l.map Ai)),(1,.v (.int .i64 i)),(4,.ptr 0 0 0),(7,.ptr 1 0 0),(8,.v (.int .i64 e))],γ⟩,[⟨0,53,AP⟩,⟨0,53,Cu t⟩]⟩
def UD(l:List UInt8)(T:Nat):Nat×Nat×AD×Int→Prop
 |(0,i,t,e)=>i≤l.length∧T=AJ l i∧t=zeroT∧e=0
 |(1,i,t,e)=>i<l.length∧T=i+1+FT true (l.drop (i+1))∧t=zeroT∧e=0
 |(2,i,t,e)=>i<l.length∧T=i∧((e=0∧headD (l.drop i)=.ok t)∨(e≠0∧headD (l.drop i)=.error e))
 |_=>False
def Hr(l:List UInt8):Nat×Nat×AD×Int→Nat
 |(0,i,_,_)=>3 * (l.length-i)+2
 |(1,i,_,_)=>3 * (l.length-i)+1
 |(_,i,_,_)=>0
theorem Ta{l:List UInt8}{T i:Nat}(h1:i≤l.length)(h2:T=AJ l i):UD l T (0,i,zeroT,0):=⟨h1,h2,rfl,rfl⟩
theorem TT{l:List UInt8}{T i:Nat}(h1:i<l.length)(h2:T=i+1+FT true (l.drop (i+1))):UD l T (1,i,zeroT,0):=⟨h1,h2,rfl,rfl⟩
theorem Ep{l:List UInt8}{T i:Nat}{t:AD}{e:Int}(h1:i<l.length)(h2:T=i)(h3:(e=0∧headD (l.drop i)=.ok t)∨(e≠0∧headD (l.drop i)=.error e)):UD l T (2,i,t,e):=⟨h1,h2,h3⟩
theorem IW{s:List UInt8}{e:Int}(h:Ct s=.error e):e≠0:=by
 unfold Ct Kl at h
 split at h
 ·split at h
  ·cases h
  ·cases h;decide
 ·split at h
  ·cases h
  ·cases h;decide
theorem Lf{s:List UInt8}{e:Int}(h:FY s=.error e):e≠0:=by
 unfold FY at h
 split at h
 ·cases h;decide
 ·cases h
set_option maxRecDepth 20000 in
theorem N5(hγ:Gl γ)(b:Bool)(l:List UInt8)(i:Nat)(hi:i≤l.length)(hl:l.length≤140737488351232):
  Ev Tp γ 183 [.sl b l.length l.length (l.map Ai),.v (.int .i64 i)] (JU l i):=by
 refine Ev.of Tryz.func183 rfl ?_;generalize hR:JU l i=R;have hEnd:l.length≤AJ l i→R=.tup [AI 0 [] 0 f0 0 0,.v (.bool false),.v (.int .i64 0)]:=fun h=>by rw[←hR,JU,if_pos h]
 have hErr:∀ e,AJ l i<l.length→headD (l.drop (AJ l i))=.error e→R=.tup [AI 0 [] 0 f0 (AJ l i) 0,.v (.bool true),.v (.int .i64 e)]:=fun e h1 h2=>by rw[←hR,JU,if_neg (by omega),h2]
 have hOk:∀ t,AJ l i<l.length→headD (l.drop (AJ l i))=.ok t→R=.tup [t.av (AJ l i),.v (.bool true),.v (.int .i64 0)]:=fun t h1 h2=>by rw[←hR,JU,if_neg (by omega),h2]
 have hT0:AJ l i=AJ l i:=rfl;generalize hTT:AJ l i=T at hEnd hErr hOk hT0⊢;clear hR;have ha0:∀ j,Aq (l.drop j) 0=Aq l j:=fun j=>by rw[B2];rfl
 have ek:∀ (k n:Nat),((n:Int)==(k:Int))=decide (n=k):=fun k n=>by
  by_cases h:n=k
  ·simp[h]
  ·rw[decide_eq_false h];simp;omega
 have nm:=fun (j:Nat) (h:j<l.length)=>SH (γ:=γ) b (l.drop j) (by rw[Bd];omega) (by rw[Bd];omega)
 have nu:=fun (j:Nat) (h:A0 (Aq l j)=true)=>PF (γ:=γ) hγ b (l.drop j) (by rw[ha0];exact h) (by rw[Bd];omega)
 have tx:=fun (j:Nat)=>T7 (γ:=γ) b (l.drop j) (by rw[Bd];omega)
 have mk:=fun (m:Int) hm (j:Nat) (h:j<l.length)=>T1 (γ:=γ) m hm b (l.drop j) (by rw[Bd];omega) (by rw[Bd];omega)
 simp only[Bd,List.map_drop]at nm nu tx mk;obtain⟨mx,hmx⟩:=hγ.1;simp only[Tryz.f183,Ad,An,seval];refine TS.scope (Dy γ b l) (UD l T) (fun a=>a.1) (Hr l) ?_ ?_
 ·have hjT:T=AJ l i:=hTT.symm;simp only[Ad,An,seval];refine B5.intro (fun h=>?_) (fun h=>?_)<;>simp only[h,lS,Ad,An,seval]
  ·have hge:l.length≤i:=by ((try simp only[decide_eq_true_eq]at *)<;>(try omega))
   rw[hEnd (by rw[hjT,AJ];omega)];simp only[AI,f0,Ad]
  ·have hlt:i<l.length:=by ((try simp only[decide_eq_false_iff_not]at *)<;>(try omega))
   have ew:IntKind.i64.wrap ((i:Int)+1)=((i+1:Nat):Int):=A7 (by omega) (by omega);have ea:∀ j,(l.getD j 0).toNat=Aq l j:=fun _=>rfl
   (repeat' (with_reducible refine aI ?_ ?_))
   all_goals try (((try simp only[decide_eq_false_iff_not]at *)<;>(try omega));done)
   have bB:((Aq l i:Int)==32)=decide (Aq l i=32):=ek 32 _;have c9:((Aq l i:Int)==9)=decide (Aq l i=9):=ek 9 _;have c10:((Aq l i:Int)==10)=decide (Aq l i=10):=ek 10 _;have c13:((Aq l i:Int)==13)=decide (Aq l i=13):=ek 13 _;have iZ:((Aq l i:Int)==35)=decide (Aq l i=35):=ek 35 _;have jU:((Aq l i:Int)==34)=decide (Aq l i=34):=ek 34 _
   by_cases hb:GX (Aq l i)=true
   ·have hb':=of_decide_eq_true hb;have hgb:=KX hlt hb;simp only[ea,bB]
    (repeat' (first|(with_reducible refine aI ?_ ?_)|(first|(first|refine gF ?_ ?_|refine gT ?_ ?_|refine cI ?_ ?_|refine pI ?_ ?_)<;>intro h|(refine dI ?_;have h:=trivial))<;>simp only[h,ew,lS,c9,c10,c13,Ad,ea,bB,An,Bv,Bf,seval]))
    all_goals first
     |(refine C0.intro (0,i+1,zeroT,0) (Ta (by omega) (by rw[hjT,AJ,hgb,AJ];omega)) rfl ?_ (by intro k hk;cases hk)
       simp only[Dy,Cu,zeroT,Ad,seval]
       (repeat' (first|(with_reducible refine aI ?_ ?_)|(first|(first|refine gF ?_ ?_|refine gT ?_ ?_|refine cI ?_ ?_|refine pI ?_ ?_)<;>intro h|(refine dI ?_;have h:=trivial))<;>simp only[h,Ad,An,Bv,Bf,seval]))
       all_goals first|rfl|trivial|exact .inl rfl)
     |(exfalso;((try simp only[decide_eq_false_iff_not,beq_iff_eq,ne_eq,beq_eq_false_iff_ne]at *)<;>(try omega)))
   ·have hb1:GX (Aq l i)=false:=by simpa using hb
    have hb':=of_decide_eq_false hb1;have d32:decide (Aq l i=32)=false:=decide_eq_false (by omega);have d9:decide (Aq l i=9)=false:=decide_eq_false (by omega);have d10:decide (Aq l i=10)=false:=decide_eq_false (by omega);have d13:decide (Aq l i=13)=false:=decide_eq_false (by omega);simp only[ea,bB,c9,c10,c13,d32,d9,d10,d13,iZ,Ad,seval];refine B5.intro (fun h35=>?_) (fun h35=>?_)<;>simp only[h35,lS,Ad,seval]
    ·refine C0.intro (1,i,zeroT,0) (TT hlt (by rw[hjT,AJ,LO hlt hb1 (of_decide_eq_true h35)];omega)) rfl ?_ (by intro k hk;cases hk);simp only[Dy,Cu,zeroT,Ad,seval]
     (repeat' (first|(with_reducible refine aI ?_ ?_)|(first|(first|refine gF ?_ ?_|refine gT ?_ ?_|refine cI ?_ ?_|refine pI ?_ ?_)<;>intro h|(refine dI ?_;have h:=trivial))<;>simp only[h,Ad,An,Bv,Bf,seval]))
     all_goals first|rfl|trivial|exact .inl rfl
    ·have hTj:T=i:=by rw[hjT,AJ,Nh hlt hb1 (of_decide_eq_false h35)];omega
     have hh:headD (l.drop i)=if DU (Aq l i)=true then (if 32<AE B6 (l.drop i) 1 then .error 13 else .ok ⟨1,(l.drop i).take (AE B6 (l.drop i) 1),0,0,AE B6 (l.drop i) 1⟩)
       else if A0 (Aq l i)=true then Ct (l.drop i)
       else if Aq l i=34 then FY (l.drop i)
       else if Cw (l.drop i)=0 then .error 10 else .ok ⟨5,(l.drop i).take (Cw (l.drop i)),0,0,Cw (l.drop i)⟩:=by rw[headD,ha0]
     refine Ae.intro b45 rfl (HL _) ?_;cases hlet:DU (Aq l i)with
     |true=>
      rw[if_pos hlet]at hh;simp only[Ad,An,seval]
      (repeat' (first|(with_reducible refine aI ?_ ?_)|(first|(first|refine gF ?_ ?_|refine gT ?_ ?_|refine cI ?_ ?_|refine pI ?_ ?_)<;>intro h|(refine dI ?_;have h:=trivial))<;>simp only[h,lS,ea,Ad,An,Bv,Bf,seval]))
      all_goals try (((try simp only[decide_eq_false_iff_not]at *)<;>(try omega));done)
      refine Ae.intro b46 (by simp[A4,A6]) (nm i hlt) ?_;generalize AE B6 (l.drop i) 1=n at hh⊢;simp only[AI,f0,Ad,An,seval];refine B5.intro (fun h32=>?_) (fun h32=>?_)<;>simp only[h32,lS,Ad,seval]
      ·rw[if_pos (by have:=of_decide_eq_true h32;omega)]at hh;refine C0.intro (2,i,⟨1,(l.drop i).take n,0,0,n⟩,13) (Ep hlt hTj (.inr ⟨by decide,hh⟩)) rfl ?_ (by intro k hk;cases hk);simp only[Dy,Cu,Ad,seval]
       (repeat' (first|(with_reducible refine aI ?_ ?_)|(first|(first|refine gF ?_ ?_|refine gT ?_ ?_|refine cI ?_ ?_|refine pI ?_ ?_)<;>intro h|(refine dI ?_;have h:=trivial))<;>simp only[h,Ad,An,Bv,Bf,seval]))
       all_goals first|rfl|trivial|exact .inl rfl
      ·rw[if_neg (by have:=of_decide_eq_false h32;omega)]at hh;refine C0.intro (2,i,⟨1,(l.drop i).take n,0,0,n⟩,0) (Ep hlt hTj (.inl ⟨rfl,hh⟩)) rfl ?_ (by intro k hk;cases hk);simp only[Dy,Cu,Ad,seval]
       (repeat' (first|(with_reducible refine aI ?_ ?_)|(first|(first|refine gF ?_ ?_|refine gT ?_ ?_|refine cI ?_ ?_|refine pI ?_ ?_)<;>intro h|(refine dI ?_;have h:=trivial))<;>simp only[h,Ad,An,Bv,Bf,seval]))
       all_goals first|rfl|trivial|exact .inl rfl
     |false=>
      rw[if_neg (by rw[hlet];decide)]at hh;simp only[Ad,seval];refine Ae.intro iW rfl (EA _) ?_;cases hdig:A0 (Aq l i)with
      |true=>
       rw[if_pos hdig]at hh;simp only[Ad,An,seval]
       (repeat' (first|(with_reducible refine aI ?_ ?_)|(first|(first|refine gF ?_ ?_|refine gT ?_ ?_|refine cI ?_ ?_|refine pI ?_ ?_)<;>intro h|(refine dI ?_;have h:=trivial))<;>simp only[h,lS,ea,Ad,An,Bv,Bf,seval]))
       all_goals try (((try simp only[decide_eq_false_iff_not]at *)<;>(try omega));done)
       have hn:=nu i hdig;rw[Nv]at hn;cases hN:Ct (l.drop i)with
       |ok t=>
        rw[hN]at hn hh;refine Ae.intro lH (by simp[A4,A6]) hn ?_;simp only[lS,I5,CO,AD.av,AI,Ad,An,seval];refine C0.intro (2,i,t,0) (Ep hlt hTj (.inl ⟨rfl,hh⟩)) rfl ?_ (by intro k hk;cases hk);simp only[Dy,Cu,Ad,seval]
        (repeat' (first|(with_reducible refine aI ?_ ?_)|(first|(first|refine gF ?_ ?_|refine gT ?_ ?_|refine cI ?_ ?_|refine pI ?_ ?_)<;>intro h|(refine dI ?_;have h:=trivial))<;>simp only[h,Ad,An,Bv,Bf,seval]))
        all_goals first|rfl|trivial|exact .inl rfl
       |error e=>
        rw[hN]at hn hh;refine Ae.intro lH (by simp[A4,A6]) hn ?_;simp only[lS,I5,B0,AI,f0,Ad,An,seval];refine C0.intro (2,i,zeroT,e) (Ep hlt hTj (.inr ⟨IW hN,hh⟩)) rfl ?_ (by intro k hk;cases hk);simp only[Dy,Cu,zeroT,Ad,seval]
        (repeat' (first|(with_reducible refine aI ?_ ?_)|(first|(first|refine gF ?_ ?_|refine gT ?_ ?_|refine cI ?_ ?_|refine pI ?_ ?_)<;>intro h|(refine dI ?_;have h:=trivial))<;>simp only[h,Ad,An,Bv,Bf,seval]))
        all_goals first|rfl|trivial|exact .inl rfl
      |false=>
       rw[if_neg (by rw[hdig];decide)]at hh;simp only[jU,Ad,seval];refine B5.intro (fun h34=>?_) (fun h34=>?_)<;>simp only[h34,Ad,An,seval]
       ·rw[if_pos (of_decide_eq_true h34)]at hh
        (repeat' (first|(with_reducible refine aI ?_ ?_)|(first|(first|refine gF ?_ ?_|refine gT ?_ ?_|refine cI ?_ ?_|refine pI ?_ ?_)<;>intro h|(refine dI ?_;have h:=trivial))<;>simp only[h,lS,ea,Ad,An,Bv,Bf,seval]))
        all_goals try (((try simp only[decide_eq_true_eq,decide_eq_false_iff_not]at *)<;>(try omega));done)
        have hn:=tx i;have hte:=QN (l.drop i);rw[Bd]at hte;rw[hte]at hn;cases hN:FY (l.drop i)with
        |ok t=>
         rw[hN]at hn hh;refine Ae.intro lB (by simp[A4,A6]) hn ?_;simp only[lS,I5,CO,AD.av,AI,Ad,An,seval];refine C0.intro (2,i,t,0) (Ep hlt hTj (.inl ⟨rfl,hh⟩)) rfl ?_ (by intro k hk;cases hk);simp only[Dy,Cu,Ad,seval]
         (repeat' (first|(with_reducible refine aI ?_ ?_)|(first|(first|refine gF ?_ ?_|refine gT ?_ ?_|refine cI ?_ ?_|refine pI ?_ ?_)<;>intro h|(refine dI ?_;have h:=trivial))<;>simp only[h,Ad,An,Bv,Bf,seval]))
         all_goals first|rfl|trivial|exact .inl rfl
        |error e=>
         rw[hN]at hn hh;refine Ae.intro lB (by simp[A4,A6]) hn ?_;simp only[lS,I5,B0,AI,f0,Ad,An,seval];refine C0.intro (2,i,zeroT,e) (Ep hlt hTj (.inr ⟨Lf hN,hh⟩)) rfl ?_ (by intro k hk;cases hk);simp only[Dy,Cu,zeroT,Ad,seval]
         (repeat' (first|(with_reducible refine aI ?_ ?_)|(first|(first|refine gF ?_ ?_|refine gT ?_ ?_|refine cI ?_ ?_|refine pI ?_ ?_)<;>intro h|(refine dI ?_;have h:=trivial))<;>simp only[h,Ad,An,Bv,Bf,seval]))
         all_goals first|rfl|trivial|exact .inl rfl
       ·rw[if_neg (of_decide_eq_false h34)]at hh
        (repeat' (first|(with_reducible refine aI ?_ ?_)|(first|(first|refine gF ?_ ?_|refine gT ?_ ?_|refine cI ?_ ?_|refine pI ?_ ?_)<;>intro h|(refine dI ?_;have h:=trivial))<;>simp only[h,lS,ea,Ad,An,Bv,Bf,seval]))
        all_goals try (((try simp only[decide_eq_false_iff_not]at *)<;>(try omega));done)
        have hn:=mk mx hmx i hlt;refine Ae.intro b50 (by simp[A4,A6]) hn ?_
        by_cases hm0:Cw (l.drop i)=0
        ·rw[if_pos hm0]at hh;rw[Lt,if_pos hm0];have z00:((0:Int)==0)=true:=by decide
         simp only[lS,AI,f0,z00,Ad,An,seval];refine C0.intro (2,i,zeroT,10) (Ep hlt hTj (.inr ⟨by decide,hh⟩)) rfl ?_ (by intro k hk;cases hk);simp only[Dy,Cu,zeroT,Ad,seval]
         (repeat' (first|(with_reducible refine aI ?_ ?_)|(first|(first|refine gF ?_ ?_|refine gT ?_ ?_|refine cI ?_ ?_|refine pI ?_ ?_)<;>intro h|(refine dI ?_;have h:=trivial))<;>simp only[h,Ad,An,Bv,Bf,seval]))
         all_goals first|rfl|trivial|exact .inl rfl
        ·rw[if_neg hm0]at hh;rw[Lt,if_neg hm0];generalize Cw (l.drop i)=n at hh⊢;have z50:((5:Int)==0)=false:=by decide
         simp only[lS,AI,f0,z50,Ad,An,seval];refine C0.intro (2,i,⟨5,(l.drop i).take n,0,0,n⟩,0) (Ep hlt hTj (.inl ⟨rfl,hh⟩)) rfl ?_ (by intro k hk;cases hk);simp only[Dy,Cu,Ad,seval]
         (repeat' (first|(with_reducible refine aI ?_ ?_)|(first|(first|refine gF ?_ ?_|refine gT ?_ ?_|refine cI ?_ ?_|refine pI ?_ ?_)<;>intro h|(refine dI ?_;have h:=trivial))<;>simp only[h,Ad,An,Bv,Bf,seval]))
         all_goals first|rfl|trivial|exact .inl rfl
 ·rintro⟨lb,j,t,e⟩ hj
  match lb,hj with
  |0,hj=>
   obtain⟨hj1,hjT,rfl,rfl⟩:=hj;refine⟨_,rfl,?_⟩;simp only[Dy,Cu,zeroT,AP,Ad,An,seval];refine B5.intro (fun h=>?_) (fun h=>?_)<;>simp only[h,lS,Ad,An,seval]
   ·have hge:l.length≤j:=by ((try simp only[decide_eq_true_eq]at *)<;>(try omega))
    rw[hEnd (by rw[hjT,AJ];omega)];simp only[AI,f0,Ad]
   ·have hlt:j<l.length:=by ((try simp only[decide_eq_false_iff_not]at *)<;>(try omega))
    have ew:IntKind.i64.wrap ((j:Int)+1)=((j+1:Nat):Int):=A7 (by omega) (by omega);have ea:∀ j,(l.getD j 0).toNat=Aq l j:=fun _=>rfl
    (repeat' (with_reducible refine aI ?_ ?_))
    all_goals try (((try simp only[decide_eq_false_iff_not]at *)<;>(try omega));done)
    have bB:((Aq l j:Int)==32)=decide (Aq l j=32):=ek 32 _;have c9:((Aq l j:Int)==9)=decide (Aq l j=9):=ek 9 _;have c10:((Aq l j:Int)==10)=decide (Aq l j=10):=ek 10 _;have c13:((Aq l j:Int)==13)=decide (Aq l j=13):=ek 13 _;have iZ:((Aq l j:Int)==35)=decide (Aq l j=35):=ek 35 _;have jU:((Aq l j:Int)==34)=decide (Aq l j=34):=ek 34 _
    by_cases hb:GX (Aq l j)=true
    ·have hb':=of_decide_eq_true hb;have hgb:=KX hlt hb;simp only[ea,bB]
     (repeat' (first|(with_reducible refine aI ?_ ?_)|(first|(first|refine gF ?_ ?_|refine gT ?_ ?_|refine cI ?_ ?_|refine pI ?_ ?_)<;>intro h|(refine dI ?_;have h:=trivial))<;>simp only[h,ew,lS,c9,c10,c13,Ad,ea,bB,An,Bv,Bf,seval]))
     all_goals first
      |(refine C0.intro (0,j+1,zeroT,0) (Ta (by omega) (by rw[hjT,AJ,hgb,AJ];omega)) rfl ?_ (by intro k hk;cases hk;simp only[Hr];omega)
        simp only[Dy,Cu,zeroT,Ad,seval]
        (repeat' (first|(with_reducible refine aI ?_ ?_)|(first|(first|refine gF ?_ ?_|refine gT ?_ ?_|refine cI ?_ ?_|refine pI ?_ ?_)<;>intro h|(refine dI ?_;have h:=trivial))<;>simp only[h,Ad,An,Bv,Bf,seval]))
        all_goals first|rfl|trivial|exact .inl rfl)
      |(exfalso;((try simp only[decide_eq_false_iff_not,beq_iff_eq,ne_eq,beq_eq_false_iff_ne]at *)<;>(try omega)))
    ·have hb1:GX (Aq l j)=false:=by simpa using hb
     have hb':=of_decide_eq_false hb1;have d32:decide (Aq l j=32)=false:=decide_eq_false (by omega);have d9:decide (Aq l j=9)=false:=decide_eq_false (by omega);have d10:decide (Aq l j=10)=false:=decide_eq_false (by omega);have d13:decide (Aq l j=13)=false:=decide_eq_false (by omega);simp only[ea,bB,c9,c10,c13,d32,d9,d10,d13,iZ,Ad,seval];refine B5.intro (fun h35=>?_) (fun h35=>?_)<;>simp only[h35,lS,Ad,seval]
     ·refine C0.intro (1,j,zeroT,0) (TT hlt (by rw[hjT,AJ,LO hlt hb1 (of_decide_eq_true h35)];omega)) rfl ?_ (by intro k hk;cases hk;simp only[Hr];omega);simp only[Dy,Cu,zeroT,Ad,seval]
      (repeat' (first|(with_reducible refine aI ?_ ?_)|(first|(first|refine gF ?_ ?_|refine gT ?_ ?_|refine cI ?_ ?_|refine pI ?_ ?_)<;>intro h|(refine dI ?_;have h:=trivial))<;>simp only[h,Ad,An,Bv,Bf,seval]))
      all_goals first|rfl|trivial|exact .inl rfl
     ·have hTj:T=j:=by rw[hjT,AJ,Nh hlt hb1 (of_decide_eq_false h35)];omega
      have hh:headD (l.drop j)=if DU (Aq l j)=true then (if 32<AE B6 (l.drop j) 1 then .error 13 else .ok ⟨1,(l.drop j).take (AE B6 (l.drop j) 1),0,0,AE B6 (l.drop j) 1⟩)
        else if A0 (Aq l j)=true then Ct (l.drop j)
        else if Aq l j=34 then FY (l.drop j)
        else if Cw (l.drop j)=0 then .error 10 else .ok ⟨5,(l.drop j).take (Cw (l.drop j)),0,0,Cw (l.drop j)⟩:=by rw[headD,ha0]
      refine Ae.intro b45 rfl (HL _) ?_;cases hlet:DU (Aq l j)with
      |true=>
       rw[if_pos hlet]at hh;simp only[Ad,An,seval]
       (repeat' (first|(with_reducible refine aI ?_ ?_)|(first|(first|refine gF ?_ ?_|refine gT ?_ ?_|refine cI ?_ ?_|refine pI ?_ ?_)<;>intro h|(refine dI ?_;have h:=trivial))<;>simp only[h,lS,ea,Ad,An,Bv,Bf,seval]))
       all_goals try (((try simp only[decide_eq_false_iff_not]at *)<;>(try omega));done)
       refine Ae.intro b46 (by simp[A4,A6]) (nm j hlt) ?_;generalize AE B6 (l.drop j) 1=n at hh⊢;simp only[AI,f0,Ad,An,seval];refine B5.intro (fun h32=>?_) (fun h32=>?_)<;>simp only[h32,lS,Ad,seval]
       ·rw[if_pos (by have:=of_decide_eq_true h32;omega)]at hh;refine C0.intro (2,j,⟨1,(l.drop j).take n,0,0,n⟩,13) (Ep hlt hTj (.inr ⟨by decide,hh⟩)) rfl ?_ (by intro k hk;cases hk;simp only[Hr];omega);simp only[Dy,Cu,Ad,seval]
        (repeat' (first|(with_reducible refine aI ?_ ?_)|(first|(first|refine gF ?_ ?_|refine gT ?_ ?_|refine cI ?_ ?_|refine pI ?_ ?_)<;>intro h|(refine dI ?_;have h:=trivial))<;>simp only[h,Ad,An,Bv,Bf,seval]))
        all_goals first|rfl|trivial|exact .inl rfl
       ·rw[if_neg (by have:=of_decide_eq_false h32;omega)]at hh;refine C0.intro (2,j,⟨1,(l.drop j).take n,0,0,n⟩,0) (Ep hlt hTj (.inl ⟨rfl,hh⟩)) rfl ?_ (by intro k hk;cases hk;simp only[Hr];omega);simp only[Dy,Cu,Ad,seval]
        (repeat' (first|(with_reducible refine aI ?_ ?_)|(first|(first|refine gF ?_ ?_|refine gT ?_ ?_|refine cI ?_ ?_|refine pI ?_ ?_)<;>intro h|(refine dI ?_;have h:=trivial))<;>simp only[h,Ad,An,Bv,Bf,seval]))
        all_goals first|rfl|trivial|exact .inl rfl
      |false=>
       rw[if_neg (by rw[hlet];decide)]at hh;simp only[Ad,seval];refine Ae.intro iW rfl (EA _) ?_;cases hdig:A0 (Aq l j)with
       |true=>
        rw[if_pos hdig]at hh;simp only[Ad,An,seval]
        (repeat' (first|(with_reducible refine aI ?_ ?_)|(first|(first|refine gF ?_ ?_|refine gT ?_ ?_|refine cI ?_ ?_|refine pI ?_ ?_)<;>intro h|(refine dI ?_;have h:=trivial))<;>simp only[h,lS,ea,Ad,An,Bv,Bf,seval]))
        all_goals try (((try simp only[decide_eq_false_iff_not]at *)<;>(try omega));done)
        have hn:=nu j hdig;rw[Nv]at hn;cases hN:Ct (l.drop j)with
        |ok t=>
         rw[hN]at hn hh;refine Ae.intro lH (by simp[A4,A6]) hn ?_;simp only[lS,I5,CO,AD.av,AI,Ad,An,seval];refine C0.intro (2,j,t,0) (Ep hlt hTj (.inl ⟨rfl,hh⟩)) rfl ?_ (by intro k hk;cases hk;simp only[Hr];omega);simp only[Dy,Cu,Ad,seval]
         (repeat' (first|(with_reducible refine aI ?_ ?_)|(first|(first|refine gF ?_ ?_|refine gT ?_ ?_|refine cI ?_ ?_|refine pI ?_ ?_)<;>intro h|(refine dI ?_;have h:=trivial))<;>simp only[h,Ad,An,Bv,Bf,seval]))
         all_goals first|rfl|trivial|exact .inl rfl
        |error e=>
         rw[hN]at hn hh;refine Ae.intro lH (by simp[A4,A6]) hn ?_;simp only[lS,I5,B0,AI,f0,Ad,An,seval];refine C0.intro (2,j,zeroT,e) (Ep hlt hTj (.inr ⟨IW hN,hh⟩)) rfl ?_ (by intro k hk;cases hk;simp only[Hr];omega);simp only[Dy,Cu,zeroT,Ad,seval]
         (repeat' (first|(with_reducible refine aI ?_ ?_)|(first|(first|refine gF ?_ ?_|refine gT ?_ ?_|refine cI ?_ ?_|refine pI ?_ ?_)<;>intro h|(refine dI ?_;have h:=trivial))<;>simp only[h,Ad,An,Bv,Bf,seval]))
         all_goals first|rfl|trivial|exact .inl rfl
       |false=>
        rw[if_neg (by rw[hdig];decide)]at hh;simp only[jU,Ad,seval];refine B5.intro (fun h34=>?_) (fun h34=>?_)<;>simp only[h34,Ad,An,seval]
        ·rw[if_pos (of_decide_eq_true h34)]at hh
         (repeat' (first|(with_reducible refine aI ?_ ?_)|(first|(first|refine gF ?_ ?_|refine gT ?_ ?_|refine cI ?_ ?_|refine pI ?_ ?_)<;>intro h|(refine dI ?_;have h:=trivial))<;>simp only[h,lS,ea,Ad,An,Bv,Bf,seval]))
         all_goals try (((try simp only[decide_eq_true_eq,decide_eq_false_iff_not]at *)<;>(try omega));done)
         have hn:=tx j;have hte:=QN (l.drop j);rw[Bd]at hte;rw[hte]at hn;cases hN:FY (l.drop j)with
         |ok t=>
          rw[hN]at hn hh;refine Ae.intro lB (by simp[A4,A6]) hn ?_;simp only[lS,I5,CO,AD.av,AI,Ad,An,seval];refine C0.intro (2,j,t,0) (Ep hlt hTj (.inl ⟨rfl,hh⟩)) rfl ?_ (by intro k hk;cases hk;simp only[Hr];omega);simp only[Dy,Cu,Ad,seval]
          (repeat' (first|(with_reducible refine aI ?_ ?_)|(first|(first|refine gF ?_ ?_|refine gT ?_ ?_|refine cI ?_ ?_|refine pI ?_ ?_)<;>intro h|(refine dI ?_;have h:=trivial))<;>simp only[h,Ad,An,Bv,Bf,seval]))
          all_goals first|rfl|trivial|exact .inl rfl
         |error e=>
          rw[hN]at hn hh;refine Ae.intro lB (by simp[A4,A6]) hn ?_;simp only[lS,I5,B0,AI,f0,Ad,An,seval];refine C0.intro (2,j,zeroT,e) (Ep hlt hTj (.inr ⟨Lf hN,hh⟩)) rfl ?_ (by intro k hk;cases hk;simp only[Hr];omega);simp only[Dy,Cu,zeroT,Ad,seval]
          (repeat' (first|(with_reducible refine aI ?_ ?_)|(first|(first|refine gF ?_ ?_|refine gT ?_ ?_|refine cI ?_ ?_|refine pI ?_ ?_)<;>intro h|(refine dI ?_;have h:=trivial))<;>simp only[h,Ad,An,Bv,Bf,seval]))
          all_goals first|rfl|trivial|exact .inl rfl
        ·rw[if_neg (of_decide_eq_false h34)]at hh
         (repeat' (first|(with_reducible refine aI ?_ ?_)|(first|(first|refine gF ?_ ?_|refine gT ?_ ?_|refine cI ?_ ?_|refine pI ?_ ?_)<;>intro h|(refine dI ?_;have h:=trivial))<;>simp only[h,lS,ea,Ad,An,Bv,Bf,seval]))
         all_goals try (((try simp only[decide_eq_false_iff_not]at *)<;>(try omega));done)
         have hn:=mk mx hmx j hlt;refine Ae.intro b50 (by simp[A4,A6]) hn ?_
         by_cases hm0:Cw (l.drop j)=0
         ·rw[if_pos hm0]at hh;rw[Lt,if_pos hm0];have z00:((0:Int)==0)=true:=by decide
          simp only[lS,AI,f0,z00,Ad,An,seval];refine C0.intro (2,j,zeroT,10) (Ep hlt hTj (.inr ⟨by decide,hh⟩)) rfl ?_ (by intro k hk;cases hk;simp only[Hr];omega);simp only[Dy,Cu,zeroT,Ad,seval]
          (repeat' (first|(with_reducible refine aI ?_ ?_)|(first|(first|refine gF ?_ ?_|refine gT ?_ ?_|refine cI ?_ ?_|refine pI ?_ ?_)<;>intro h|(refine dI ?_;have h:=trivial))<;>simp only[h,Ad,An,Bv,Bf,seval]))
          all_goals first|rfl|trivial|exact .inl rfl
         ·rw[if_neg hm0]at hh;rw[Lt,if_neg hm0];generalize Cw (l.drop j)=n at hh⊢;have z50:((5:Int)==0)=false:=by decide
          simp only[lS,AI,f0,z50,Ad,An,seval];refine C0.intro (2,j,⟨5,(l.drop j).take n,0,0,n⟩,0) (Ep hlt hTj (.inl ⟨rfl,hh⟩)) rfl ?_ (by intro k hk;cases hk;simp only[Hr];omega);simp only[Dy,Cu,Ad,seval]
          (repeat' (first|(with_reducible refine aI ?_ ?_)|(first|(first|refine gF ?_ ?_|refine gT ?_ ?_|refine cI ?_ ?_|refine pI ?_ ?_)<;>intro h|(refine dI ?_;have h:=trivial))<;>simp only[h,Ad,An,Bv,Bf,seval]))
          all_goals first|rfl|trivial|exact .inl rfl
  |1,hj=>
   obtain⟨hj1,hjT,rfl,rfl⟩:=hj;refine⟨_,rfl,?_⟩;have ew:IntKind.i64.wrap ((j:Int)+1)=((j+1:Nat):Int):=A7 (by omega) (by omega);have ea:∀ j,(l.getD j 0).toNat=Aq l j:=fun _=>rfl
   simp only[Dy,Cu,zeroT,ew,AP,Ad,An,seval]
   (repeat' (first|(with_reducible refine aI ?_ ?_)|(first|(first|refine gF ?_ ?_|refine gT ?_ ?_|refine cI ?_ ?_|refine pI ?_ ?_)<;>intro h|(refine dI ?_;have h:=trivial))<;>simp only[h,lS,ea,Ad,An,ew,Bv,Bf,seval]))
   all_goals try (((try simp only[decide_eq_true_eq,decide_eq_false_iff_not,bne_iff_ne,ne_eq,bne_eq_false_iff_eq]at *)<;>(try omega));done)
   all_goals ((try simp only[decide_eq_true_eq,decide_eq_false_iff_not,bne_iff_ne,ne_eq,bne_eq_false_iff_eq]at *)<;>(try omega))
   all_goals first
    |(refine C0.intro (1,j+1,zeroT,0) (TT (by omega) (by rw[hjT,Ns (by omega) (by omega)];omega)) rfl ?_ (by intro k hk;cases hk;simp only[Hr];omega)
      simp only[Dy,Cu,zeroT,Ad,seval]
      (repeat' (first|(with_reducible refine aI ?_ ?_)|(first|(first|refine gF ?_ ?_|refine gT ?_ ?_|refine cI ?_ ?_|refine pI ?_ ?_)<;>intro h|(refine dI ?_;have h:=trivial))<;>simp only[h,Ad,An,Bv,Bf,seval]))
      all_goals first|rfl|trivial|exact .inl rfl)
    |(refine C0.intro (0,j+1,zeroT,0) (Ta (by omega) (by first|(rw[hjT,AJ,TJ (by omega) (by omega)];done)|(rw[hjT,AJ,F0 (by omega),F0 (by omega)];done))) rfl ?_ (by intro k hk;cases hk;simp only[Hr];omega)
      simp only[Dy,Cu,zeroT,Ad,seval]
      (repeat' (first|(with_reducible refine aI ?_ ?_)|(first|(first|refine gF ?_ ?_|refine gT ?_ ?_|refine cI ?_ ?_|refine pI ?_ ?_)<;>intro h|(refine dI ?_;have h:=trivial))<;>simp only[h,Ad,An,Bv,Bf,seval]))
      all_goals first|rfl|trivial|exact .inl rfl)
  |2,hj=>
   obtain⟨hj1,hjT,hj3⟩:=hj;refine⟨_,rfl,?_⟩;subst hjT
   rcases hj3 with⟨rfl,hk⟩|⟨he,hk⟩
   ·have z00:((0:Int) != 0)=false:=by decide
    rw[hOk t hj1 hk];simp only[Dy,lS,Cu,z00,AD.av,AI,AP,Ad,An,seval]
   ·have z00:((e:Int) != 0)=true:=by simpa using he
    rw[hErr e hj1 hk];simp only[Dy,lS,Cu,z00,AI,f0,AP,Ad,An,seval]
  |k+3,hj=>exact hj.elim
theorem TD{l:List UInt8}{p sg:Nat}{t:AD}(hp:p+1+sg≤l.length)(h:Kl l p sg=.ok t):1≤t.size∧t.size≤l.length:=by
 unfold Kl at h
 split at h
 ·cases h;have h1:=HG l (p+1+sg);have h2:=CF (l:=l) (i:=p+1+sg) hp;exact⟨by show 1≤Ah l (p+1+sg);omega,h2⟩
 ·cases h
theorem Pz{l:List UInt8}{t:AD}(hd:A0 (Aq l 0)=true)(h:Ct l=.ok t):1≤t.size∧t.size≤l.length:=by
 have hlt:=Eh hd;have hle:=CF (l:=l) (i:=0) (by omega);unfold Ct at h
 split at h
 ·rename_i hc;exact TD (by have:=(C2 hc.2).2;omega) h
 ·split at h
  ·cases h;exact⟨by show 1≤Ah l 0;omega,hle⟩
  ·cases h
theorem J9(l:List UInt8):∀ (k i:Nat) (d q:List UInt8) (n:Nat),Em k l i d=some (q,n)→i+1≤n∧n≤l.length
 |0,i,d,q,n,h=>by cases h
 |k+1,i,d,q,n,h=>by
  rw[Em]at h
  split at h
  ·cases h
  ·rename_i hi
   split at h
   ·cases h;omega
   ·split at h
    ·split at h
     ·cases h
     ·have:=J9 l k _ _ q n h;omega
    ·split at h
     ·cases h
     ·have:=J9 l k _ _ q n h;omega
theorem SU{l:List UInt8}{t:AD}(h:FY l=.ok t):1≤t.size∧t.size≤l.length:=by
 unfold FY at h
 split at h
 ·cases h
 ·rename_i d n hq;cases h;have:=J9 l _ _ _ _ _ hq;exact⟨by show 1≤n;omega,this.2⟩
theorem JI{l:List UInt8}{t:AD}(hl:1≤l.length)(h:headD l=.ok t):1≤t.size∧t.size≤l.length:=by
 unfold headD at h
 split at h
 ·have:=HV (p:=B6) (l:=l) (i:=1) hl
  split at h
  ·cases h
  ·cases h;exact this
 ·split at h
  ·rename_i hd;exact Pz hd h
  ·split at h
   ·exact SU h
   ·split at h
    ·cases h
    ·cases h;rename_i hm;refine⟨by show 1≤Cw l;omega,?_⟩;show Cw l≤l.length;unfold Cw at *
     split
     ·rename_i h1;omega
     ·split<;>omega
def dR:Nat→List UInt8→Nat→List (AD×Nat)×Option (Int×Nat)
 |0,_,_=>([],none)
 |k+1,l,i=>
  if l.length≤AJ l i then ([],none)
  else match headD (l.drop (AJ l i))with
   |.error e=>([],some (e,AJ l i))
   |.ok t=>((t,AJ l i)::(dR k l (AJ l i+t.size)).1,(dR k l (AJ l i+t.size)).2)
theorem Rb(l:List UInt8)(i:Nat):i≤AJ l i:=by unfold AJ;omega
def Cn:Nat→List UInt8→Nat→List ((AD×Nat)×Int)
 |0,_,_=>[]
 |k+1,l,i=>
  if l.length≤AJ l i then []
  else match headD (l.drop (AJ l i))with
   |.error e=>[((zeroT,AJ l i),e)]
   |.ok t=>((t,AJ l i),0)::Cn k l (AJ l i+t.size)
def Qr(t:AD)(pos:Nat):Value:=.agg #[.int .i64 t.kind,.string ⟨t.text.toArray⟩,.int .i64 t.int,.float .f64 t.real,.int .i64 pos,.int .i64 t.size]
theorem WT(t:AD)(pos:Nat)(c:Cx):rel (t.av pos) c (Qr t pos):=by
 simp only[AD.av,AI,Qr,rel,Ar];refine⟨_,rfl,?_⟩;exact⟨_,_,rfl,rfl,_,_,rfl,rfl,_,_,rfl,rfl,_,_,rfl,rfl,_,_,rfl,rfl,_,_,rfl,rfl,rfl⟩
def JN(sg:Nat)(a b:List UInt8):Bool:=
 decide (Ax a<9007199254740992)&&decide (Ax b≤1023+51 * sg)&&(decide (Ax a%2=1) || (decide (Ax a=0)&&decide (Ax b=0))) && !(decide (sg=1)&&decide (Ax b=0))&&La (Ax a) (Cz sg (Ax b))
theorem Ia{sg:Nat}{a b:List UInt8}:JN sg a b=true↔Ax a<9007199254740992∧Ax b≤1023+51 * sg∧(Ax a%2=1∨Ax a=0∧Ax b=0)∧¬(sg=1∧Ax b=0)∧La (Ax a) (Cz sg (Ax b))=true:=by
 unfold JN;simp only[Bool.and_eq_true,Bool.or_eq_true,Bool.not_eq_true',decide_eq_true_eq,Bool.and_eq_false_iff,decide_eq_false_iff_not]
 constructor
 ·rintro⟨⟨⟨⟨a1,a2⟩,a3⟩,a4⟩,a5⟩
  exact⟨a1,a2,a3,by omega,a5⟩
 ·rintro⟨a1,a2,a3,a4,a5⟩
  exact⟨⟨⟨⟨a1,a2⟩,a3⟩,by omega⟩,a5⟩
theorem Wz(m x sg:Nat)(h:m<9007199254740992)(hx:x≤1023+51 * sg)(hsg:sg=0∨sg=1)(h0:m=0→x=0):Ev Tp γ 250 [.v (.int .i64 m),.v (.int .i64 x),.v (.bool (decide (sg=1)))] (.v (.float .f64 (Dh m (Cz sg x)))):=by
 by_cases hm:m=0
 ·subst hm;have hx0:=h0 rfl;subst hx0;have:=Lm (γ:=γ) ((0:Nat):Int) 0 (decide (sg=1)) (fun _=>0) (by omega) (by rfl) (fun j hj=>by omega);have e:Dh 0 (Cz sg 0)=0:=by unfold Dh;rw[if_pos rfl]
  rw[e];exact this
 ·have hlg:=D3 (by omega:0<m) h
  have:=Lm (γ:=γ) (m:Int) x (decide (sg=1)) (fun j=>C3 m (Cz sg j)) (by omega) (by
    rw[U9 m h];unfold Dh;rw[if_neg hm];have:Cz sg 0=0:=by unfold Cz;split<;>rfl
    simp only[this]) (fun j hj=>by
    by_cases hs1:sg=1
    ·rw[if_pos (by rw[hs1];rfl)];have e1:Cz sg j = -(j:Int):=by unfold Cz;rw[if_pos hs1]
     have e2:Cz sg (j+1) = -(j:Int)-1:=by unfold Cz;rw[if_pos hs1];omega
     simp only[e1,e2];exact cA (by omega) h (by omega) (by omega)
    ·rw[if_neg (by rw[decide_eq_true_eq];exact hs1)];have e1:Cz sg j=(j:Int):=by unfold Cz;rw[if_neg hs1]
     have e2:Cz sg (j+1)=(j:Int)+1:=by unfold Cz;rw[if_neg hs1];omega
     simp only[e1,e2];exact mul_two (by omega) h (by omega))
  have e:Dh m (Cz sg x)=C3 m (Cz sg x):=by unfold Dh;rw[if_neg hm]
  rw[e];exact this
theorem ZT{m:Nat}{e:Int}(h:m<9007199254740992)(he : -1074≤e)(hf:La m e=true):FloatKind.f64.format.sub (Dh m e) (Dh m e)=some 0:=by
 unfold Dh;have hf:=of_decide_eq_true hf
 by_cases hm:m=0
 ·rw[if_pos hm];rfl
 ·rw[if_neg hm];exact Py (by omega) h he (hf.resolve_left hm)
theorem cF{m:Nat}{e:Int}(h:m<9007199254740992)(he : -1074≤e)(hf:La m e=false):FloatKind.f64.format.sub (Dh m e) (Dh m e)=none:=by
 unfold Dh;have hf:=of_decide_eq_false hf;have hm:¬m=0:=fun h=>hf (.inl h)
 rw[if_neg hm];exact Qp (by omega) h he (by omega)
theorem KF(l:List UInt8):KZ l=.tup [.v (.int .i64 (if Ax l≤9223372036854775807 then (Ax l:Int)else 0)),.v (.bool (decide (Ax l≤9223372036854775807)))]:=by
 unfold KZ
 by_cases h:Ax l≤9223372036854775807
 ·rw[if_pos h,if_pos h,decide_eq_true h]
 ·rw[if_neg h,if_neg h,decide_eq_false h]
theorem JH(b:Bool)(l:List UInt8)(i j:Nat)(hij:i≤j)(hj:j≤l.length)(hl:l.length≤140737488351232)(hd:∀ k,k<(j-i)→A0 (Aq ((l.drop i).take (j-i)) k)=true):
  Ev Tp γ 208 [.sl b (j-i) (l.length-i) (List.drop i (l.map Ai))] (KZ ((l.drop i).take (j-i))):=by
 rw[←List.map_drop];refine U5 (by omega) (by rw[Bd];omega) ?_;have hlen:((l.drop i).take (j-i)).length=j-i:=by rw[Bh,Bd];omega
 exact Ro b _ (by rw[hlen];omega) (fun k hk=>hd k (by rw[hlen]at hk;exact hk))
theorem Lx:DZ none=AV.nan:=rfl
set_option maxRecDepth 20000 in
theorem T4(b:Bool)(l:List UInt8)(p n more sg:Nat)(a c:List UInt8)(ha:a=(l.drop p).take (p+n-p))(hc:c=(l.drop (p+n+(sg+1))).take (p+n+more-(p+n+(sg+1))))(hpn:p+n+more≤l.length)(hsg:sg=0∨sg=1)(hm:sg+1≤more)(hl:l.length≤140737488351232)
  (hda:∀ k,k<p+n-p→A0 (Aq a k)=true) (hdc:∀ k,k<p+n+more-(p+n+(sg+1))→A0 (Aq c k)=true) :
  Ev Tp γ 207 [.sl b l.length l.length (l.map Ai),.v (.int .i64 p),.v (.int .i64 n),.v (.int .i64 more),.v (.int .i64 ((sg+1:Nat):Int))]
   (if JN sg a c=true then CO (AI 3 [] 0 (.v (.float .f64 (Dh (Ax a) (Cz sg (Ax c))))) p (n+more:Nat))else B0 12):=by
 refine Ev.of Tryz.func207 rfl ?_;generalize hR:(if JN sg a c=true then CO (AI 3 [] 0 (.v (.float .f64 (Dh (Ax a) (Cz sg (Ax c))))) p (n+more:Nat))else B0 12)=R;have hwa:=JH (γ:=γ) b l p (p+n) (by omega) (by omega) hl (by rw[←ha];exact hda);have hwc:=JH (γ:=γ) b l (p+n+(sg+1)) (p+n+more) (by omega) hpn hl (by rw[←hc];exact hdc);rw[←ha,KF]at hwa;rw[←hc,KF]at hwc;clear ha hc hda hdc;have w1:IntKind.i64.wrap ((p:Int)+(n:Int))=((p+n:Nat):Int):=(A7 (by omega) (by omega)).trans (by omega);have w2:IntKind.i64.wrap (((p+n:Nat):Int)+((sg+1:Nat):Int))=((p+n+(sg+1):Nat):Int):=(A7 (by omega) (by omega)).trans (by omega);have w3:IntKind.i64.wrap (((p+n:Nat):Int)+(more:Int))=((p+n+more:Nat):Int):=(A7 (by omega) (by omega)).trans (by omega);have w4:IntKind.i64.wrap ((n:Int)+(more:Int))=((n+more:Nat):Int):=(A7 (by omega) (by omega)).trans (by omega)
 have e2:(((sg+1:Nat):Int)==2)=decide (sg=1):=by
  by_cases h:sg=1
  ·subst h;rfl
  ·rw[decide_eq_false h];simp;omega
 simp only[Tryz.f207,w1,Ad,An,seval]
 (repeat' (first|(with_reducible refine aI ?_ ?_)|(first|(first|refine gF ?_ ?_|refine gT ?_ ?_|refine cI ?_ ?_|refine pI ?_ ?_)<;>intro h|(refine dI ?_;have h:=trivial))<;>simp only[h,w1,w2,w3,w4,e2,Ad,An,Bv,Bf,seval]))
 all_goals try (((try simp only[decide_eq_true_eq,decide_eq_false_iff_not,beq_iff_eq,bne_iff_ne,ne_eq,beq_eq_false_iff_ne,bne_eq_false_iff_eq]at *)<;>(try omega));done)
 refine Ae.intro b67 (by simp[A4,A6]) hwa ?_;simp only[w1,w2,w3,Ad,An,seval]
 (repeat' (first|(with_reducible refine aI ?_ ?_)|(first|(first|refine gF ?_ ?_|refine gT ?_ ?_|refine cI ?_ ?_|refine pI ?_ ?_)<;>intro h|(refine dI ?_;have h:=trivial))<;>simp only[h,w1,w2,w3,w4,e2,Ad,An,Bv,Bf,seval]))
 all_goals try (((try simp only[decide_eq_true_eq,decide_eq_false_iff_not,beq_iff_eq,bne_iff_ne,ne_eq,beq_eq_false_iff_ne,bne_eq_false_iff_eq]at *)<;>(try omega));done)
 refine Ae.intro b67 (by simp[A4,A6]) hwc ?_;clear hwa hwc
 by_cases hOa:Ax a≤9223372036854775807
 ·by_cases hOc:Ax c≤9223372036854775807
  ·have hPw:∀ bb:Bool,bb=decide (sg=1)→Ax a<9007199254740992→Ax c≤1023+51 * sg→(Ax a=0→Ax c=0)→Ev Tp γ 250 [.v (.int .i64 (Ax a)),.v (.int .i64 (Ax c)),.v (.bool bb)] (.v (.float .f64 (Dh (Ax a) (Cz sg (Ax c))))):=fun bb hbb h1 h2 h3=>by rw[hbb];exact Wz (γ:=γ) (Ax a) (Ax c) sg h1 h2 hsg h3
   have hfi:=fun h1 h2=>ZT (m:=Ax a) (e:=Cz sg (Ax c)) h1 h2
   have hin:=fun h1 h2=>cF (m:=Ax a) (e:=Cz sg (Ax c)) h1 h2
   simp only[Ia]at hR;rw[if_pos hOa,if_pos hOc,decide_eq_true hOa,decide_eq_true hOc];have hex:Ax c≤1023+51 * sg → -1074≤Cz sg (Ax c):=fun h=>by unfold Cz;split<;>omega
   generalize Cz sg (Ax c)=ex at *;generalize Ax a=A at *;generalize Ax c=C at *
   have etm:∀ n:Nat,((n:Int).tmod 2==0)=decide (n%2=0):=fun n=>by
    rw[Int.tmod_eq_emod_of_nonneg (by omega)]
    by_cases h:n%2=0
    ·rw[decide_eq_true h];simp;omega
    ·rw[decide_eq_false h];simp;omega
   have ez:∀ n:Nat,((n:Int)==0)=decide (n=0):=fun n=>by
    by_cases h:n=0
    ·simp[h]
    ·rw[decide_eq_false h];simp[h]
   have en:∀ n:Nat,((n:Int) != 0)=decide (n≠0):=fun n=>by
    by_cases h:n=0
    ·simp[h]
    ·rw[decide_eq_true h];simp[h]
   have eg:∀ (n:Nat),decide ((9007199254740992:Int)≤(n:Int))=decide (9007199254740992≤n):=fun n=>by
    by_cases h:9007199254740992≤n
    ·rw[decide_eq_true h,decide_eq_true];omega
    ·rw[decide_eq_false h,decide_eq_false];omega
   have iU:(FloatKind.f64.format.order 0 0 != some .eq)=false:=by rfl
   rcases hsg with rfl|rfl
   ·have hPb:=hPw false (by decide);clear hPw;have e22:(((1:Nat):Int)==2)=false:=by decide
    have d01:decide ((0:Nat)=1)=false:=by decide
    have el:decide ((1023:Int)<(C:Int))=decide (1023<C):=by
     by_cases h:1023<C
     ·rw[decide_eq_true h,decide_eq_true];omega
     ·rw[decide_eq_false h,decide_eq_false];omega
    simp only[eg,e22,Ad,Bv,seval]
    (repeat' (first|(with_reducible refine aI ?_ ?_)|(first|(first|refine gF ?_ ?_|refine gT ?_ ?_|refine cI ?_ ?_|refine pI ?_ ?_)<;>intro h|(refine dI ?_;have h:=trivial))<;>simp only[h,etm,ez,en,el,Ad,An,eg,d01,e22,Bv,Bf,seval]))
    all_goals try (((try simp only[decide_eq_true_eq,decide_eq_false_iff_not,ne_eq,beq_eq_false_iff_ne,bne_eq_false_iff_eq]at *)<;>(try omega));done)
    all_goals (try simp only[decide_eq_true_eq,decide_eq_false_iff_not,ne_eq,Classical.not_not]at *)
    all_goals try (rw[←hR,if_neg (by rintro⟨q1,q2,q3,q4,q5⟩;first|omega|exact q4 ⟨trivial,by omega⟩)];simp only[B0,AI,f0,Ad];done)
    all_goals
     (have hexx:=hex (by omega)
      refine Ae.intro b98 rfl (hPb (by omega) (by omega) (by omega)) ?_;cases hf:La A ex with
      |true=>
       have s1:=hfi (by omega) hexx hf;rw[←hR,if_pos ⟨by omega,by omega,by omega,by omega,hf⟩];simp only[s1,Ef,iU,CO,AI,w4,Ad,An,seval]
      |false=>
       have s1:=hin (by omega) hexx hf;rw[←hR,if_neg (by rintro⟨q1,q2,q3,q4,q5⟩;rw[hf]at q5;cases q5)];simp only[s1,Lx,B0,AI,f0,Ad,An,seval])
   ·have hPb:=hPw true (by decide);clear hPw;have e22:(((2:Nat):Int)==2)=true:=by decide
    have d01:decide ((1:Nat)=1)=true:=by decide
    have el:decide ((1074:Int)<(C:Int))=decide (1074<C):=by
     by_cases h:1074<C
     ·rw[decide_eq_true h,decide_eq_true];omega
     ·rw[decide_eq_false h,decide_eq_false];omega
    simp only[eg,e22,Ad,Bv,seval]
    (repeat' (first|(with_reducible refine aI ?_ ?_)|(first|(first|refine gF ?_ ?_|refine gT ?_ ?_|refine cI ?_ ?_|refine pI ?_ ?_)<;>intro h|(refine dI ?_;have h:=trivial))<;>simp only[h,etm,ez,en,el,Ad,An,eg,d01,e22,Bv,Bf,seval]))
    all_goals try (((try simp only[decide_eq_true_eq,decide_eq_false_iff_not,beq_iff_eq,ne_eq,bne_eq_false_iff_eq]at *)<;>(try omega));done)
    all_goals (try simp only[decide_eq_true_eq,decide_eq_false_iff_not,ne_eq,Classical.not_not]at *)
    all_goals try (rw[←hR,if_neg (by rintro⟨q1,q2,q3,q4,q5⟩;first|omega|exact q4 ⟨trivial,by omega⟩)];simp only[B0,AI,f0,Ad];done)
    all_goals
     (have hexx:=hex (by omega)
      refine Ae.intro b98 rfl (hPb (by omega) (by omega) (by omega)) ?_;cases hf:La A ex with
      |true=>
       have s1:=hfi (by omega) hexx hf;rw[←hR,if_pos ⟨by omega,by omega,by omega,by omega,hf⟩];simp only[s1,Ef,iU,CO,AI,w4,Ad,An,seval]
      |false=>
       have s1:=hin (by omega) hexx hf;rw[←hR,if_neg (by rintro⟨q1,q2,q3,q4,q5⟩;rw[hf]at q5;cases q5)];simp only[s1,Lx,B0,AI,f0,Ad,An,seval])
  ·have hz:¬(JN sg a c=true):=fun q=>by have:=(Ia.1 q).2.1;omega
   rw[if_neg hz]at hR;rw[←hR,decide_eq_false hOc,decide_eq_true hOa];simp only[Ad,seval]
   (repeat' (first|(with_reducible refine aI ?_ ?_)|(first|(first|refine gF ?_ ?_|refine gT ?_ ?_|refine cI ?_ ?_|refine pI ?_ ?_)<;>intro h|(refine dI ?_;have h:=trivial))<;>simp only[h,Ad,An,Bv,Bf,seval]))
   all_goals try (((try simp only[beq_iff_eq,ne_eq,beq_eq_false_iff_ne]at *)<;>(try omega));done)
   all_goals (simp only[B0,AI,f0,Ad];done)
 ·have hz:¬(JN sg a c=true):=fun q=>by have:=(Ia.1 q).1;omega
  rw[if_neg hz]at hR;rw[←hR,decide_eq_false hOa];simp only[Ad,seval]
  (repeat' (first|(with_reducible refine aI ?_ ?_)|(first|(first|refine gF ?_ ?_|refine gT ?_ ?_|refine cI ?_ ?_|refine pI ?_ ?_)<;>intro h|(refine dI ?_;have h:=trivial))<;>simp only[h,Ad,An,Bf,Bv,seval]))
  all_goals try (((try simp only[beq_iff_eq,ne_eq,beq_eq_false_iff_ne]at *)<;>(try omega));done)
  all_goals (simp only[B0,AI,f0,Ad];done)
end Go.Proofs.YtlobiioioicmhaaGreatDoor
