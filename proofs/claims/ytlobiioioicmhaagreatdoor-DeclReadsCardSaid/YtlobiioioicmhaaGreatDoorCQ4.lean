/- A part of the proof. -/
import Derived.Test.YtlobiioioicmhaaGreatDoorCQ3
set_option linter.all false
set_option maxHeartbeats 8000000
namespace Go.Proofs.YtlobiioioicmhaaGreatDoor
open _root_.Bool renaming not_true→Bv,not_false→Bf
open _root_.List renaming length_drop→Bd,length_take→Bh
open Go.Proofs.Tryz renaming prog→Tp
open Go Go.Ev
set_option maxRecDepth 20000
variable {γ:List (Nat×AV)}
def C5(t:AG):List AV:=[.v (.int .i64 t.kind),.v (.string ⟨t.text.toArray⟩),.v (.int .i64 t.int),.v (.float .f64 t.real),.v (.int .i64 0),.v (.int .i64 t.size)]
def DD(γ:List (Nat×AV))(b:Bool)(l:List UInt8):Nat×Nat×AG×Int→St
 |(_,i,t,e)=>⟨⟨98,[(0,.sl b l.length l.length (l.map Am)),(1,.v (.int .i64 i)),(4,.ptr 0 0 0),(7,.ptr 1 0 0),(8,.v (.int .i64 e))],γ⟩,[⟨0,53,AW⟩,⟨0,53,C5 t⟩]⟩
def VP(l:List UInt8)(T:Nat):Nat×Nat×AG×Int→Prop
 |(0,i,t,e)=>i≤l.length∧T=AQ l i∧t=zeroT∧e=0
 |(1,i,t,e)=>i<l.length∧T=i+1+Gr true (l.drop (i+1))∧t=zeroT∧e=0
 |(2,i,t,e)=>i<l.length∧T=i∧((e=0∧headD (l.drop i)=.ok t)∨(e≠0∧headD (l.drop i)=.error e))
 |_=>False
def HJ(l:List UInt8):Nat×Nat×AG×Int→Nat
 |(0,i,_,_)=>3 * (l.length-i)+2
 |(1,i,_,_)=>3 * (l.length-i)+1
 |(_,i,_,_)=>0
theorem Ud{l:List UInt8}{T i:Nat}(h1:i≤l.length)(h2:T=AQ l i):VP l T (0,i,zeroT,0):=⟨h1,h2,rfl,rfl⟩
theorem Ue{l:List UInt8}{T i:Nat}(h1:i<l.length)(h2:T=i+1+Gr true (l.drop (i+1))):VP l T (1,i,zeroT,0):=⟨h1,h2,rfl,rfl⟩
theorem E5{l:List UInt8}{T i:Nat}{t:AG}{e:Int}(h1:i<l.length)(h2:T=i)(h3:(e=0∧headD (l.drop i)=.ok t)∨(e≠0∧headD (l.drop i)=.error e)):VP l T (2,i,t,e):=⟨h1,h2,h3⟩
theorem Jv{s:List UInt8}{e:Int}(h:C2 s=.error e):e≠0:=by
 unfold C2 KG at h
 split at h
 ·split at h
  ·cases h
  ·cases h;decide
 ·split at h
  ·cases h
  ·cases h;decide
theorem L2{s:List UInt8}{e:Int}(h:Gz s=.error e):e≠0:=by
 unfold Gz at h
 split at h
 ·cases h;decide
 ·cases h
set_option maxRecDepth 20000 in
theorem NY(hγ:Gl γ)(b:Bool)(l:List UInt8)(i:Nat)(hi:i≤l.length)(hl:l.length≤140737488351232):
  Ev Tp γ 183 [.sl b l.length l.length (l.map Am),.v (.int .i64 i)] (KU l i):=by
 refine Ev.of Tryz.func183 rfl ?_;generalize hR:KU l i=R;have hEnd:l.length≤AQ l i→R=.tup [AM 0 [] 0 f0 0 0,.v (.bool false),.v (.int .i64 0)]:=fun h=>by rw[←hR,KU,if_pos h]
 have hErr:∀ e,AQ l i<l.length→headD (l.drop (AQ l i))=.error e→R=.tup [AM 0 [] 0 f0 (AQ l i) 0,.v (.bool true),.v (.int .i64 e)]:=fun e h1 h2=>by rw[←hR,KU,if_neg (by omega),h2]
 have hOk:∀ t,AQ l i<l.length→headD (l.drop (AQ l i))=.ok t→R=.tup [t.av (AQ l i),.v (.bool true),.v (.int .i64 0)]:=fun t h1 h2=>by rw[←hR,KU,if_neg (by omega),h2]
 have hT0:AQ l i=AQ l i:=rfl;generalize hTT:AQ l i=T at hEnd hErr hOk hT0⊢;clear hR;have ha0:∀ j,Ar (l.drop j) 0=Ar l j:=fun j=>by rw[B8];rfl
 have ek:∀ (k n:Nat),((n:Int)==(k:Int))=decide (n=k):=fun k n=>by
  by_cases h:n=k
  ·simp[h]
  ·rw[decide_eq_false h];simp;omega
 have nm:=fun (j:Nat) (h:j<l.length)=>Vm (γ:=γ) b (l.drop j) (by rw[Bd];omega) (by rw[Bd];omega)
 have nu:=fun (j:Nat) (h:A5 (Ar l j)=true)=>QB (γ:=γ) hγ b (l.drop j) (by rw[ha0];exact h) (by rw[Bd];omega)
 have tx:=fun (j:Nat)=>U2 (γ:=γ) b (l.drop j) (by rw[Bd];omega)
 have mk:=fun (m:Int) hm (j:Nat) (h:j<l.length)=>UY (γ:=γ) m hm b (l.drop j) (by rw[Bd];omega) (by rw[Bd];omega)
 simp only[Bd,List.map_drop]at nm nu tx mk;obtain⟨mx,hmx⟩:=hγ.1;simp only[Tryz.f183,Ad,An,seval];refine Ut.scope (DD γ b l) (VP l T) (fun a=>a.1) (HJ l) ?_ ?_
 ·have hjT:T=AQ l i:=hTT.symm;simp only[Ad,An,seval];refine BZ.intro (fun h=>?_) (fun h=>?_)<;>simp only[h,lS,Ad,An,seval]
  ·have hge:l.length≤i:=by ((try simp only[decide_eq_true_eq]at *)<;>(try omega))
   rw[hEnd (by rw[hjT,AQ];omega)];simp only[AM,f0,Ad]
  ·have hlt:i<l.length:=by ((try simp only[decide_eq_false_iff_not]at *)<;>(try omega))
   have ew:IntKind.i64.wrap ((i:Int)+1)=((i+1:Nat):Int):=A4 (by omega) (by omega);have ea:∀ j,(l.getD j 0).toNat=Ar l j:=fun _=>rfl
   (repeat' (with_reducible refine aI ?_ ?_))
   all_goals try (((try simp only[decide_eq_false_iff_not]at *)<;>(try omega));done)
   have cW:((Ar l i:Int)==32)=decide (Ar l i=32):=ek 32 _;have c9:((Ar l i:Int)==9)=decide (Ar l i=9):=ek 9 _;have c10:((Ar l i:Int)==10)=decide (Ar l i=10):=ek 10 _;have c13:((Ar l i:Int)==13)=decide (Ar l i=13):=ek 13 _;have nF:((Ar l i:Int)==35)=decide (Ar l i=35):=ek 35 _;have nJ:((Ar l i:Int)==34)=decide (Ar l i=34):=ek 34 _
   by_cases hb:Hb (Ar l i)=true
   ·have hb':=of_decide_eq_true hb;have hgb:=L7 hlt hb;simp only[ea,cW]
    (repeat' (first|(with_reducible refine aI ?_ ?_)|(first|(first|refine gF ?_ ?_|refine gT ?_ ?_|refine cI ?_ ?_|refine pI ?_ ?_)<;>intro h|(refine dI ?_;have h:=trivial))<;>simp only[h,ew,lS,c9,c10,c13,Ad,ea,cW,An,Bv,Bf,seval]))
    all_goals first
     |(refine CC.intro (0,i+1,zeroT,0) (Ud (by omega) (by rw[hjT,AQ,hgb,AQ];omega)) rfl ?_ (by intro k hk;cases hk)
       simp only[DD,C5,zeroT,Ad,seval]
       (repeat' (first|(with_reducible refine aI ?_ ?_)|(first|(first|refine gF ?_ ?_|refine gT ?_ ?_|refine cI ?_ ?_|refine pI ?_ ?_)<;>intro h|(refine dI ?_;have h:=trivial))<;>simp only[h,Ad,An,Bv,Bf,seval]))
       all_goals first|rfl|trivial|exact .inl rfl)
     |(exfalso;((try simp only[decide_eq_false_iff_not,beq_iff_eq,ne_eq,beq_eq_false_iff_ne]at *)<;>(try omega)))
   ·have hb1:Hb (Ar l i)=false:=by simpa using hb
    have hb':=of_decide_eq_false hb1;have d32:decide (Ar l i=32)=false:=decide_eq_false (by omega);have d9:decide (Ar l i=9)=false:=decide_eq_false (by omega);have d10:decide (Ar l i=10)=false:=decide_eq_false (by omega);have d13:decide (Ar l i=13)=false:=decide_eq_false (by omega);simp only[ea,cW,c9,c10,c13,d32,d9,d10,d13,nF,Ad,seval];refine BZ.intro (fun h35=>?_) (fun h35=>?_)<;>simp only[h35,lS,Ad,seval]
    ·refine CC.intro (1,i,zeroT,0) (Ue hlt (by rw[hjT,AQ,M9 hlt hb1 (of_decide_eq_true h35)];omega)) rfl ?_ (by intro k hk;cases hk);simp only[DD,C5,zeroT,Ad,seval]
     (repeat' (first|(with_reducible refine aI ?_ ?_)|(first|(first|refine gF ?_ ?_|refine gT ?_ ?_|refine cI ?_ ?_|refine pI ?_ ?_)<;>intro h|(refine dI ?_;have h:=trivial))<;>simp only[h,Ad,An,Bv,Bf,seval]))
     all_goals first|rfl|trivial|exact .inl rfl
    ·have hTj:T=i:=by rw[hjT,AQ,Ov hlt hb1 (of_decide_eq_false h35)];omega
     have hh:headD (l.drop i)=if Eh (Ar l i)=true then (if 32<AI Ca (l.drop i) 1 then .error 13 else .ok ⟨1,(l.drop i).take (AI Ca (l.drop i) 1),0,0,AI Ca (l.drop i) 1⟩)
       else if A5 (Ar l i)=true then C2 (l.drop i)
       else if Ar l i=34 then Gz (l.drop i)
       else if C6 (l.drop i)=0 then .error 10 else .ok ⟨5,(l.drop i).take (C6 (l.drop i)),0,0,C6 (l.drop i)⟩:=by rw[headD,ha0]
     refine Ag.intro b45 rfl (Iw _) ?_;cases hlet:Eh (Ar l i)with
     |true=>
      rw[if_pos hlet]at hh;simp only[Ad,An,seval]
      (repeat' (first|(with_reducible refine aI ?_ ?_)|(first|(first|refine gF ?_ ?_|refine gT ?_ ?_|refine cI ?_ ?_|refine pI ?_ ?_)<;>intro h|(refine dI ?_;have h:=trivial))<;>simp only[h,lS,ea,Ad,An,Bv,Bf,seval]))
      all_goals try (((try simp only[decide_eq_false_iff_not]at *)<;>(try omega));done)
      refine Ag.intro b46 (by simp[A0,A6]) (nm i hlt) ?_;generalize AI Ca (l.drop i) 1=n at hh⊢;simp only[AM,f0,Ad,An,seval];refine BZ.intro (fun h32=>?_) (fun h32=>?_)<;>simp only[h32,lS,Ad,seval]
      ·rw[if_pos (by have:=of_decide_eq_true h32;omega)]at hh;refine CC.intro (2,i,⟨1,(l.drop i).take n,0,0,n⟩,13) (E5 hlt hTj (.inr ⟨by decide,hh⟩)) rfl ?_ (by intro k hk;cases hk);simp only[DD,C5,Ad,seval]
       (repeat' (first|(with_reducible refine aI ?_ ?_)|(first|(first|refine gF ?_ ?_|refine gT ?_ ?_|refine cI ?_ ?_|refine pI ?_ ?_)<;>intro h|(refine dI ?_;have h:=trivial))<;>simp only[h,Ad,An,Bv,Bf,seval]))
       all_goals first|rfl|trivial|exact .inl rfl
      ·rw[if_neg (by have:=of_decide_eq_false h32;omega)]at hh;refine CC.intro (2,i,⟨1,(l.drop i).take n,0,0,n⟩,0) (E5 hlt hTj (.inl ⟨rfl,hh⟩)) rfl ?_ (by intro k hk;cases hk);simp only[DD,C5,Ad,seval]
       (repeat' (first|(with_reducible refine aI ?_ ?_)|(first|(first|refine gF ?_ ?_|refine gT ?_ ?_|refine cI ?_ ?_|refine pI ?_ ?_)<;>intro h|(refine dI ?_;have h:=trivial))<;>simp only[h,Ad,An,Bv,Bf,seval]))
       all_goals first|rfl|trivial|exact .inl rfl
     |false=>
      rw[if_neg (by rw[hlet];decide)]at hh;simp only[Ad,seval];refine Ag.intro mF rfl (EW _) ?_;cases hdig:A5 (Ar l i)with
      |true=>
       rw[if_pos hdig]at hh;simp only[Ad,An,seval]
       (repeat' (first|(with_reducible refine aI ?_ ?_)|(first|(first|refine gF ?_ ?_|refine gT ?_ ?_|refine cI ?_ ?_|refine pI ?_ ?_)<;>intro h|(refine dI ?_;have h:=trivial))<;>simp only[h,lS,ea,Ad,An,Bv,Bf,seval]))
       all_goals try (((try simp only[decide_eq_false_iff_not]at *)<;>(try omega));done)
       have hn:=nu i hdig;rw[Nu]at hn;cases hN:C2 (l.drop i)with
       |ok t=>
        rw[hN]at hn hh;refine Ag.intro pE (by simp[A0,A6]) hn ?_;simp only[lS,Jk,Dh,AG.av,AM,Ad,An,seval];refine CC.intro (2,i,t,0) (E5 hlt hTj (.inl ⟨rfl,hh⟩)) rfl ?_ (by intro k hk;cases hk);simp only[DD,C5,Ad,seval]
        (repeat' (first|(with_reducible refine aI ?_ ?_)|(first|(first|refine gF ?_ ?_|refine gT ?_ ?_|refine cI ?_ ?_|refine pI ?_ ?_)<;>intro h|(refine dI ?_;have h:=trivial))<;>simp only[h,Ad,An,Bv,Bf,seval]))
        all_goals first|rfl|trivial|exact .inl rfl
       |error e=>
        rw[hN]at hn hh;refine Ag.intro pE (by simp[A0,A6]) hn ?_;simp only[lS,Jk,B6,AM,f0,Ad,An,seval];refine CC.intro (2,i,zeroT,e) (E5 hlt hTj (.inr ⟨Jv hN,hh⟩)) rfl ?_ (by intro k hk;cases hk);simp only[DD,C5,zeroT,Ad,seval]
        (repeat' (first|(with_reducible refine aI ?_ ?_)|(first|(first|refine gF ?_ ?_|refine gT ?_ ?_|refine cI ?_ ?_|refine pI ?_ ?_)<;>intro h|(refine dI ?_;have h:=trivial))<;>simp only[h,Ad,An,Bv,Bf,seval]))
        all_goals first|rfl|trivial|exact .inl rfl
      |false=>
       rw[if_neg (by rw[hdig];decide)]at hh;simp only[nJ,Ad,seval];refine BZ.intro (fun h34=>?_) (fun h34=>?_)<;>simp only[h34,Ad,An,seval]
       ·rw[if_pos (of_decide_eq_true h34)]at hh
        (repeat' (first|(with_reducible refine aI ?_ ?_)|(first|(first|refine gF ?_ ?_|refine gT ?_ ?_|refine cI ?_ ?_|refine pI ?_ ?_)<;>intro h|(refine dI ?_;have h:=trivial))<;>simp only[h,lS,ea,Ad,An,Bv,Bf,seval]))
        all_goals try (((try simp only[decide_eq_true_eq,decide_eq_false_iff_not]at *)<;>(try omega));done)
        have hn:=tx i;have hte:=Su (l.drop i);rw[Bd]at hte;rw[hte]at hn;cases hN:Gz (l.drop i)with
        |ok t=>
         rw[hN]at hn hh;refine Ag.intro pA (by simp[A0,A6]) hn ?_;simp only[lS,Jk,Dh,AG.av,AM,Ad,An,seval];refine CC.intro (2,i,t,0) (E5 hlt hTj (.inl ⟨rfl,hh⟩)) rfl ?_ (by intro k hk;cases hk);simp only[DD,C5,Ad,seval]
         (repeat' (first|(with_reducible refine aI ?_ ?_)|(first|(first|refine gF ?_ ?_|refine gT ?_ ?_|refine cI ?_ ?_|refine pI ?_ ?_)<;>intro h|(refine dI ?_;have h:=trivial))<;>simp only[h,Ad,An,Bv,Bf,seval]))
         all_goals first|rfl|trivial|exact .inl rfl
        |error e=>
         rw[hN]at hn hh;refine Ag.intro pA (by simp[A0,A6]) hn ?_;simp only[lS,Jk,B6,AM,f0,Ad,An,seval];refine CC.intro (2,i,zeroT,e) (E5 hlt hTj (.inr ⟨L2 hN,hh⟩)) rfl ?_ (by intro k hk;cases hk);simp only[DD,C5,zeroT,Ad,seval]
         (repeat' (first|(with_reducible refine aI ?_ ?_)|(first|(first|refine gF ?_ ?_|refine gT ?_ ?_|refine cI ?_ ?_|refine pI ?_ ?_)<;>intro h|(refine dI ?_;have h:=trivial))<;>simp only[h,Ad,An,Bv,Bf,seval]))
         all_goals first|rfl|trivial|exact .inl rfl
       ·rw[if_neg (of_decide_eq_false h34)]at hh
        (repeat' (first|(with_reducible refine aI ?_ ?_)|(first|(first|refine gF ?_ ?_|refine gT ?_ ?_|refine cI ?_ ?_|refine pI ?_ ?_)<;>intro h|(refine dI ?_;have h:=trivial))<;>simp only[h,lS,ea,Ad,An,Bv,Bf,seval]))
        all_goals try (((try simp only[decide_eq_false_iff_not]at *)<;>(try omega));done)
        have hn:=mk mx hmx i hlt;refine Ag.intro b50 (by simp[A0,A6]) hn ?_
        by_cases hm0:C6 (l.drop i)=0
        ·rw[if_pos hm0]at hh;rw[Mh,if_pos hm0];have z00:((0:Int)==0)=true:=by decide
         simp only[lS,AM,f0,z00,Ad,An,seval];refine CC.intro (2,i,zeroT,10) (E5 hlt hTj (.inr ⟨by decide,hh⟩)) rfl ?_ (by intro k hk;cases hk);simp only[DD,C5,zeroT,Ad,seval]
         (repeat' (first|(with_reducible refine aI ?_ ?_)|(first|(first|refine gF ?_ ?_|refine gT ?_ ?_|refine cI ?_ ?_|refine pI ?_ ?_)<;>intro h|(refine dI ?_;have h:=trivial))<;>simp only[h,Ad,An,Bv,Bf,seval]))
         all_goals first|rfl|trivial|exact .inl rfl
        ·rw[if_neg hm0]at hh;rw[Mh,if_neg hm0];generalize C6 (l.drop i)=n at hh⊢;have z50:((5:Int)==0)=false:=by decide
         simp only[lS,AM,f0,z50,Ad,An,seval];refine CC.intro (2,i,⟨5,(l.drop i).take n,0,0,n⟩,0) (E5 hlt hTj (.inl ⟨rfl,hh⟩)) rfl ?_ (by intro k hk;cases hk);simp only[DD,C5,Ad,seval]
         (repeat' (first|(with_reducible refine aI ?_ ?_)|(first|(first|refine gF ?_ ?_|refine gT ?_ ?_|refine cI ?_ ?_|refine pI ?_ ?_)<;>intro h|(refine dI ?_;have h:=trivial))<;>simp only[h,Ad,An,Bv,Bf,seval]))
         all_goals first|rfl|trivial|exact .inl rfl
 ·rintro⟨lb,j,t,e⟩ hj
  match lb,hj with
  |0,hj=>
   obtain⟨hj1,hjT,rfl,rfl⟩:=hj;refine⟨_,rfl,?_⟩;simp only[DD,C5,zeroT,AW,Ad,An,seval];refine BZ.intro (fun h=>?_) (fun h=>?_)<;>simp only[h,lS,Ad,An,seval]
   ·have hge:l.length≤j:=by ((try simp only[decide_eq_true_eq]at *)<;>(try omega))
    rw[hEnd (by rw[hjT,AQ];omega)];simp only[AM,f0,Ad]
   ·have hlt:j<l.length:=by ((try simp only[decide_eq_false_iff_not]at *)<;>(try omega))
    have ew:IntKind.i64.wrap ((j:Int)+1)=((j+1:Nat):Int):=A4 (by omega) (by omega);have ea:∀ j,(l.getD j 0).toNat=Ar l j:=fun _=>rfl
    (repeat' (with_reducible refine aI ?_ ?_))
    all_goals try (((try simp only[decide_eq_false_iff_not]at *)<;>(try omega));done)
    have cW:((Ar l j:Int)==32)=decide (Ar l j=32):=ek 32 _;have c9:((Ar l j:Int)==9)=decide (Ar l j=9):=ek 9 _;have c10:((Ar l j:Int)==10)=decide (Ar l j=10):=ek 10 _;have c13:((Ar l j:Int)==13)=decide (Ar l j=13):=ek 13 _;have nF:((Ar l j:Int)==35)=decide (Ar l j=35):=ek 35 _;have nJ:((Ar l j:Int)==34)=decide (Ar l j=34):=ek 34 _
    by_cases hb:Hb (Ar l j)=true
    ·have hb':=of_decide_eq_true hb;have hgb:=L7 hlt hb;simp only[ea,cW]
     (repeat' (first|(with_reducible refine aI ?_ ?_)|(first|(first|refine gF ?_ ?_|refine gT ?_ ?_|refine cI ?_ ?_|refine pI ?_ ?_)<;>intro h|(refine dI ?_;have h:=trivial))<;>simp only[h,ew,lS,c9,c10,c13,Ad,ea,cW,An,Bv,Bf,seval]))
     all_goals first
      |(refine CC.intro (0,j+1,zeroT,0) (Ud (by omega) (by rw[hjT,AQ,hgb,AQ];omega)) rfl ?_ (by intro k hk;cases hk;simp only[HJ];omega)
        simp only[DD,C5,zeroT,Ad,seval]
        (repeat' (first|(with_reducible refine aI ?_ ?_)|(first|(first|refine gF ?_ ?_|refine gT ?_ ?_|refine cI ?_ ?_|refine pI ?_ ?_)<;>intro h|(refine dI ?_;have h:=trivial))<;>simp only[h,Ad,An,Bv,Bf,seval]))
        all_goals first|rfl|trivial|exact .inl rfl)
      |(exfalso;((try simp only[decide_eq_false_iff_not,beq_iff_eq,ne_eq,beq_eq_false_iff_ne]at *)<;>(try omega)))
    ·have hb1:Hb (Ar l j)=false:=by simpa using hb
     have hb':=of_decide_eq_false hb1;have d32:decide (Ar l j=32)=false:=decide_eq_false (by omega);have d9:decide (Ar l j=9)=false:=decide_eq_false (by omega);have d10:decide (Ar l j=10)=false:=decide_eq_false (by omega);have d13:decide (Ar l j=13)=false:=decide_eq_false (by omega);simp only[ea,cW,c9,c10,c13,d32,d9,d10,d13,nF,Ad,seval];refine BZ.intro (fun h35=>?_) (fun h35=>?_)<;>simp only[h35,lS,Ad,seval]
     ·refine CC.intro (1,j,zeroT,0) (Ue hlt (by rw[hjT,AQ,M9 hlt hb1 (of_decide_eq_true h35)];omega)) rfl ?_ (by intro k hk;cases hk;simp only[HJ];omega);simp only[DD,C5,zeroT,Ad,seval]
      (repeat' (first|(with_reducible refine aI ?_ ?_)|(first|(first|refine gF ?_ ?_|refine gT ?_ ?_|refine cI ?_ ?_|refine pI ?_ ?_)<;>intro h|(refine dI ?_;have h:=trivial))<;>simp only[h,Ad,An,Bv,Bf,seval]))
      all_goals first|rfl|trivial|exact .inl rfl
     ·have hTj:T=j:=by rw[hjT,AQ,Ov hlt hb1 (of_decide_eq_false h35)];omega
      have hh:headD (l.drop j)=if Eh (Ar l j)=true then (if 32<AI Ca (l.drop j) 1 then .error 13 else .ok ⟨1,(l.drop j).take (AI Ca (l.drop j) 1),0,0,AI Ca (l.drop j) 1⟩)
        else if A5 (Ar l j)=true then C2 (l.drop j)
        else if Ar l j=34 then Gz (l.drop j)
        else if C6 (l.drop j)=0 then .error 10 else .ok ⟨5,(l.drop j).take (C6 (l.drop j)),0,0,C6 (l.drop j)⟩:=by rw[headD,ha0]
      refine Ag.intro b45 rfl (Iw _) ?_;cases hlet:Eh (Ar l j)with
      |true=>
       rw[if_pos hlet]at hh;simp only[Ad,An,seval]
       (repeat' (first|(with_reducible refine aI ?_ ?_)|(first|(first|refine gF ?_ ?_|refine gT ?_ ?_|refine cI ?_ ?_|refine pI ?_ ?_)<;>intro h|(refine dI ?_;have h:=trivial))<;>simp only[h,lS,ea,Ad,An,Bv,Bf,seval]))
       all_goals try (((try simp only[decide_eq_false_iff_not]at *)<;>(try omega));done)
       refine Ag.intro b46 (by simp[A0,A6]) (nm j hlt) ?_;generalize AI Ca (l.drop j) 1=n at hh⊢;simp only[AM,f0,Ad,An,seval];refine BZ.intro (fun h32=>?_) (fun h32=>?_)<;>simp only[h32,lS,Ad,seval]
       ·rw[if_pos (by have:=of_decide_eq_true h32;omega)]at hh;refine CC.intro (2,j,⟨1,(l.drop j).take n,0,0,n⟩,13) (E5 hlt hTj (.inr ⟨by decide,hh⟩)) rfl ?_ (by intro k hk;cases hk;simp only[HJ];omega);simp only[DD,C5,Ad,seval]
        (repeat' (first|(with_reducible refine aI ?_ ?_)|(first|(first|refine gF ?_ ?_|refine gT ?_ ?_|refine cI ?_ ?_|refine pI ?_ ?_)<;>intro h|(refine dI ?_;have h:=trivial))<;>simp only[h,Ad,An,Bv,Bf,seval]))
        all_goals first|rfl|trivial|exact .inl rfl
       ·rw[if_neg (by have:=of_decide_eq_false h32;omega)]at hh;refine CC.intro (2,j,⟨1,(l.drop j).take n,0,0,n⟩,0) (E5 hlt hTj (.inl ⟨rfl,hh⟩)) rfl ?_ (by intro k hk;cases hk;simp only[HJ];omega);simp only[DD,C5,Ad,seval]
        (repeat' (first|(with_reducible refine aI ?_ ?_)|(first|(first|refine gF ?_ ?_|refine gT ?_ ?_|refine cI ?_ ?_|refine pI ?_ ?_)<;>intro h|(refine dI ?_;have h:=trivial))<;>simp only[h,Ad,An,Bv,Bf,seval]))
        all_goals first|rfl|trivial|exact .inl rfl
      |false=>
       rw[if_neg (by rw[hlet];decide)]at hh;simp only[Ad,seval];refine Ag.intro mF rfl (EW _) ?_;cases hdig:A5 (Ar l j)with
       |true=>
        rw[if_pos hdig]at hh;simp only[Ad,An,seval]
        (repeat' (first|(with_reducible refine aI ?_ ?_)|(first|(first|refine gF ?_ ?_|refine gT ?_ ?_|refine cI ?_ ?_|refine pI ?_ ?_)<;>intro h|(refine dI ?_;have h:=trivial))<;>simp only[h,lS,ea,Ad,An,Bv,Bf,seval]))
        all_goals try (((try simp only[decide_eq_false_iff_not]at *)<;>(try omega));done)
        have hn:=nu j hdig;rw[Nu]at hn;cases hN:C2 (l.drop j)with
        |ok t=>
         rw[hN]at hn hh;refine Ag.intro pE (by simp[A0,A6]) hn ?_;simp only[lS,Jk,Dh,AG.av,AM,Ad,An,seval];refine CC.intro (2,j,t,0) (E5 hlt hTj (.inl ⟨rfl,hh⟩)) rfl ?_ (by intro k hk;cases hk;simp only[HJ];omega);simp only[DD,C5,Ad,seval]
         (repeat' (first|(with_reducible refine aI ?_ ?_)|(first|(first|refine gF ?_ ?_|refine gT ?_ ?_|refine cI ?_ ?_|refine pI ?_ ?_)<;>intro h|(refine dI ?_;have h:=trivial))<;>simp only[h,Ad,An,Bv,Bf,seval]))
         all_goals first|rfl|trivial|exact .inl rfl
        |error e=>
         rw[hN]at hn hh;refine Ag.intro pE (by simp[A0,A6]) hn ?_;simp only[lS,Jk,B6,AM,f0,Ad,An,seval];refine CC.intro (2,j,zeroT,e) (E5 hlt hTj (.inr ⟨Jv hN,hh⟩)) rfl ?_ (by intro k hk;cases hk;simp only[HJ];omega);simp only[DD,C5,zeroT,Ad,seval]
         (repeat' (first|(with_reducible refine aI ?_ ?_)|(first|(first|refine gF ?_ ?_|refine gT ?_ ?_|refine cI ?_ ?_|refine pI ?_ ?_)<;>intro h|(refine dI ?_;have h:=trivial))<;>simp only[h,Ad,An,Bv,Bf,seval]))
         all_goals first|rfl|trivial|exact .inl rfl
       |false=>
        rw[if_neg (by rw[hdig];decide)]at hh;simp only[nJ,Ad,seval];refine BZ.intro (fun h34=>?_) (fun h34=>?_)<;>simp only[h34,Ad,An,seval]
        ·rw[if_pos (of_decide_eq_true h34)]at hh
         (repeat' (first|(with_reducible refine aI ?_ ?_)|(first|(first|refine gF ?_ ?_|refine gT ?_ ?_|refine cI ?_ ?_|refine pI ?_ ?_)<;>intro h|(refine dI ?_;have h:=trivial))<;>simp only[h,lS,ea,Ad,An,Bv,Bf,seval]))
         all_goals try (((try simp only[decide_eq_true_eq,decide_eq_false_iff_not]at *)<;>(try omega));done)
         have hn:=tx j;have hte:=Su (l.drop j);rw[Bd]at hte;rw[hte]at hn;cases hN:Gz (l.drop j)with
         |ok t=>
          rw[hN]at hn hh;refine Ag.intro pA (by simp[A0,A6]) hn ?_;simp only[lS,Jk,Dh,AG.av,AM,Ad,An,seval];refine CC.intro (2,j,t,0) (E5 hlt hTj (.inl ⟨rfl,hh⟩)) rfl ?_ (by intro k hk;cases hk;simp only[HJ];omega);simp only[DD,C5,Ad,seval]
          (repeat' (first|(with_reducible refine aI ?_ ?_)|(first|(first|refine gF ?_ ?_|refine gT ?_ ?_|refine cI ?_ ?_|refine pI ?_ ?_)<;>intro h|(refine dI ?_;have h:=trivial))<;>simp only[h,Ad,An,Bv,Bf,seval]))
          all_goals first|rfl|trivial|exact .inl rfl
         |error e=>
          rw[hN]at hn hh;refine Ag.intro pA (by simp[A0,A6]) hn ?_;simp only[lS,Jk,B6,AM,f0,Ad,An,seval];refine CC.intro (2,j,zeroT,e) (E5 hlt hTj (.inr ⟨L2 hN,hh⟩)) rfl ?_ (by intro k hk;cases hk;simp only[HJ];omega);simp only[DD,C5,zeroT,Ad,seval]
          (repeat' (first|(with_reducible refine aI ?_ ?_)|(first|(first|refine gF ?_ ?_|refine gT ?_ ?_|refine cI ?_ ?_|refine pI ?_ ?_)<;>intro h|(refine dI ?_;have h:=trivial))<;>simp only[h,Ad,An,Bv,Bf,seval]))
          all_goals first|rfl|trivial|exact .inl rfl
        ·rw[if_neg (of_decide_eq_false h34)]at hh
         (repeat' (first|(with_reducible refine aI ?_ ?_)|(first|(first|refine gF ?_ ?_|refine gT ?_ ?_|refine cI ?_ ?_|refine pI ?_ ?_)<;>intro h|(refine dI ?_;have h:=trivial))<;>simp only[h,lS,ea,Ad,An,Bv,Bf,seval]))
         all_goals try (((try simp only[decide_eq_false_iff_not]at *)<;>(try omega));done)
         have hn:=mk mx hmx j hlt;refine Ag.intro b50 (by simp[A0,A6]) hn ?_
         by_cases hm0:C6 (l.drop j)=0
         ·rw[if_pos hm0]at hh;rw[Mh,if_pos hm0];have z00:((0:Int)==0)=true:=by decide
          simp only[lS,AM,f0,z00,Ad,An,seval];refine CC.intro (2,j,zeroT,10) (E5 hlt hTj (.inr ⟨by decide,hh⟩)) rfl ?_ (by intro k hk;cases hk;simp only[HJ];omega);simp only[DD,C5,zeroT,Ad,seval]
          (repeat' (first|(with_reducible refine aI ?_ ?_)|(first|(first|refine gF ?_ ?_|refine gT ?_ ?_|refine cI ?_ ?_|refine pI ?_ ?_)<;>intro h|(refine dI ?_;have h:=trivial))<;>simp only[h,Ad,An,Bv,Bf,seval]))
          all_goals first|rfl|trivial|exact .inl rfl
         ·rw[if_neg hm0]at hh;rw[Mh,if_neg hm0];generalize C6 (l.drop j)=n at hh⊢;have z50:((5:Int)==0)=false:=by decide
          simp only[lS,AM,f0,z50,Ad,An,seval];refine CC.intro (2,j,⟨5,(l.drop j).take n,0,0,n⟩,0) (E5 hlt hTj (.inl ⟨rfl,hh⟩)) rfl ?_ (by intro k hk;cases hk;simp only[HJ];omega);simp only[DD,C5,Ad,seval]
          (repeat' (first|(with_reducible refine aI ?_ ?_)|(first|(first|refine gF ?_ ?_|refine gT ?_ ?_|refine cI ?_ ?_|refine pI ?_ ?_)<;>intro h|(refine dI ?_;have h:=trivial))<;>simp only[h,Ad,An,Bv,Bf,seval]))
          all_goals first|rfl|trivial|exact .inl rfl
  |1,hj=>
   obtain⟨hj1,hjT,rfl,rfl⟩:=hj;refine⟨_,rfl,?_⟩;have ew:IntKind.i64.wrap ((j:Int)+1)=((j+1:Nat):Int):=A4 (by omega) (by omega);have ea:∀ j,(l.getD j 0).toNat=Ar l j:=fun _=>rfl
   simp only[DD,C5,zeroT,ew,AW,Ad,An,seval]
   (repeat' (first|(with_reducible refine aI ?_ ?_)|(first|(first|refine gF ?_ ?_|refine gT ?_ ?_|refine cI ?_ ?_|refine pI ?_ ?_)<;>intro h|(refine dI ?_;have h:=trivial))<;>simp only[h,lS,ea,Ad,An,ew,Bv,Bf,seval]))
   all_goals try (((try simp only[decide_eq_true_eq,decide_eq_false_iff_not,bne_iff_ne,ne_eq,bne_eq_false_iff_eq]at *)<;>(try omega));done)
   all_goals ((try simp only[decide_eq_true_eq,decide_eq_false_iff_not,bne_iff_ne,ne_eq,bne_eq_false_iff_eq]at *)<;>(try omega))
   all_goals first
    |(refine CC.intro (1,j+1,zeroT,0) (Ue (by omega) (by rw[hjT,Nr (by omega) (by omega)];omega)) rfl ?_ (by intro k hk;cases hk;simp only[HJ];omega)
      simp only[DD,C5,zeroT,Ad,seval]
      (repeat' (first|(with_reducible refine aI ?_ ?_)|(first|(first|refine gF ?_ ?_|refine gT ?_ ?_|refine cI ?_ ?_|refine pI ?_ ?_)<;>intro h|(refine dI ?_;have h:=trivial))<;>simp only[h,Ad,An,Bv,Bf,seval]))
      all_goals first|rfl|trivial|exact .inl rfl)
    |(refine CC.intro (0,j+1,zeroT,0) (Ud (by omega) (by first|(rw[hjT,AQ,U1 (by omega) (by omega)];done)|(rw[hjT,AQ,FV (by omega),FV (by omega)];done))) rfl ?_ (by intro k hk;cases hk;simp only[HJ];omega)
      simp only[DD,C5,zeroT,Ad,seval]
      (repeat' (first|(with_reducible refine aI ?_ ?_)|(first|(first|refine gF ?_ ?_|refine gT ?_ ?_|refine cI ?_ ?_|refine pI ?_ ?_)<;>intro h|(refine dI ?_;have h:=trivial))<;>simp only[h,Ad,An,Bv,Bf,seval]))
      all_goals first|rfl|trivial|exact .inl rfl)
  |2,hj=>
   obtain⟨hj1,hjT,hj3⟩:=hj;refine⟨_,rfl,?_⟩;subst hjT
   rcases hj3 with⟨rfl,hk⟩|⟨he,hk⟩
   ·have z00:((0:Int) != 0)=false:=by decide
    rw[hOk t hj1 hk];simp only[DD,lS,C5,z00,AG.av,AM,AW,Ad,An,seval]
   ·have z00:((e:Int) != 0)=true:=by simpa using he
    rw[hErr e hj1 hk];simp only[DD,lS,C5,z00,AM,f0,AW,Ad,An,seval]
  |k+3,hj=>exact hj.elim
theorem Ul{l:List UInt8}{p sg:Nat}{t:AG}(hp:p+1+sg≤l.length)(h:KG l p sg=.ok t):1≤t.size∧t.size≤l.length:=by
 unfold KG at h
 split at h
 ·cases h;have h1:=Iz l (p+1+sg);have h2:=CS (l:=l) (i:=p+1+sg) hp;exact⟨by show 1≤Ai l (p+1+sg);omega,h2⟩
 ·cases h
theorem QJ{l:List UInt8}{t:AG}(hd:A5 (Ar l 0)=true)(h:C2 l=.ok t):1≤t.size∧t.size≤l.length:=by
 have hlt:=Ex hd;have hle:=CS (l:=l) (i:=0) (by omega);unfold C2 at h
 split at h
 ·rename_i hc;exact Ul (by have:=(C9 hc.2).2;omega) h
 ·split at h
  ·cases h;exact⟨by show 1≤Ai l 0;omega,hle⟩
  ·cases h
theorem Kr(l:List UInt8):∀ (k i:Nat) (d q:List UInt8) (n:Nat),E0 k l i d=some (q,n)→i+1≤n∧n≤l.length
 |0,i,d,q,n,h=>by cases h
 |k+1,i,d,q,n,h=>by
  rw[E0]at h
  split at h
  ·cases h
  ·rename_i hi
   split at h
   ·cases h;omega
   ·split at h
    ·split at h
     ·cases h
     ·have:=Kr l k _ _ q n h;omega
    ·split at h
     ·cases h
     ·have:=Kr l k _ _ q n h;omega
theorem UC{l:List UInt8}{t:AG}(h:Gz l=.ok t):1≤t.size∧t.size≤l.length:=by
 unfold Gz at h
 split at h
 ·cases h
 ·rename_i d n hq;cases h;have:=Kr l _ _ _ _ _ hq;exact⟨by show 1≤n;omega,this.2⟩
theorem Kb{l:List UInt8}{t:AG}(hl:1≤l.length)(h:headD l=.ok t):1≤t.size∧t.size≤l.length:=by
 unfold headD at h
 split at h
 ·have:=I4 (p:=Ca) (l:=l) (i:=1) hl
  split at h
  ·cases h
  ·cases h;exact this
 ·split at h
  ·rename_i hd;exact QJ hd h
  ·split at h
   ·exact UC h
   ·split at h
    ·cases h
    ·cases h;rename_i hm;refine⟨by show 1≤C6 l;omega,?_⟩;show C6 l≤l.length;unfold C6 at *
     split
     ·rename_i h1;omega
     ·split<;>omega
def iZ:Nat→List UInt8→Nat→List (AG×Nat)×Option (Int×Nat)
 |0,_,_=>([],none)
 |k+1,l,i=>
  if l.length≤AQ l i then ([],none)
  else match headD (l.drop (AQ l i))with
   |.error e=>([],some (e,AQ l i))
   |.ok t=>((t,AQ l i)::(iZ k l (AQ l i+t.size)).1,(iZ k l (AQ l i+t.size)).2)
theorem R4(l:List UInt8)(i:Nat):i≤AQ l i:=by unfold AQ;omega
def C0:Nat→List UInt8→Nat→List ((AG×Nat)×Int)
 |0,_,_=>[]
 |k+1,l,i=>
  if l.length≤AQ l i then []
  else match headD (l.drop (AQ l i))with
   |.error e=>[((zeroT,AQ l i),e)]
   |.ok t=>((t,AQ l i),0)::C0 k l (AQ l i+t.size)
def Rt(t:AG)(pos:Nat):Value:=.agg #[.int .i64 t.kind,.string ⟨t.text.toArray⟩,.int .i64 t.int,.float .f64 t.real,.int .i64 pos,.int .i64 t.size]
theorem Y6(t:AG)(pos:Nat)(c:Cx):rel (t.av pos) c (Rt t pos):=by
 simp only[AG.av,AM,Rt,rel,Aw];refine⟨_,rfl,?_⟩;exact⟨_,_,rfl,rfl,_,_,rfl,rfl,_,_,rfl,rfl,_,_,rfl,rfl,_,_,rfl,rfl,_,_,rfl,rfl,rfl⟩
def Ko(sg:Nat)(a b:List UInt8):Bool:=
 decide (Ay a<9007199254740992)&&decide (Ay b≤1023+51 * sg)&&(decide (Ay a%2=1) || (decide (Ay a=0)&&decide (Ay b=0))) && !(decide (sg=1)&&decide (Ay b=0))&&Lx (Ay a) (CD sg (Ay b))
theorem Ic{sg:Nat}{a b:List UInt8}:Ko sg a b=true↔Ay a<9007199254740992∧Ay b≤1023+51 * sg∧(Ay a%2=1∨Ay a=0∧Ay b=0)∧¬(sg=1∧Ay b=0)∧Lx (Ay a) (CD sg (Ay b))=true:=by
 unfold Ko;simp only[Bool.and_eq_true,Bool.or_eq_true,Bool.not_eq_true',decide_eq_true_eq,Bool.and_eq_false_iff,decide_eq_false_iff_not]
 constructor
 ·rintro⟨⟨⟨⟨a1,a2⟩,a3⟩,a4⟩,a5⟩
  exact⟨a1,a2,a3,by omega,a5⟩
 ·rintro⟨a1,a2,a3,a4,a5⟩
  exact⟨⟨⟨⟨a1,a2⟩,a3⟩,by omega⟩,a5⟩
theorem Wq(m x sg:Nat)(h:m<9007199254740992)(hx:x≤1023+51 * sg)(hsg:sg=0∨sg=1)(h0:m=0→x=0):Ev Tp γ 250 [.v (.int .i64 m),.v (.int .i64 x),.v (.bool (decide (sg=1)))] (.v (.float .f64 (Dv m (CD sg x)))):=by
 by_cases hm:m=0
 ·subst hm;have hx0:=h0 rfl;subst hx0;have:=LZ (γ:=γ) ((0:Nat):Int) 0 (decide (sg=1)) (fun _=>0) (by omega) (by rfl) (fun j hj=>by omega);have e:Dv 0 (CD sg 0)=0:=by unfold Dv;rw[if_pos rfl]
  rw[e];exact this
 ·have hlg:=D7 (by omega:0<m) h
  have:=LZ (γ:=γ) (m:Int) x (decide (sg=1)) (fun j=>CF m (CD sg j)) (by omega) (by
    rw[VF m h];unfold Dv;rw[if_neg hm];have:CD sg 0=0:=by unfold CD;split<;>rfl
    simp only[this]) (fun j hj=>by
    by_cases hs1:sg=1
    ·rw[if_pos (by rw[hs1];rfl)];have e1:CD sg j = -(j:Int):=by unfold CD;rw[if_pos hs1]
     have e2:CD sg (j+1) = -(j:Int)-1:=by unfold CD;rw[if_pos hs1];omega
     simp only[e1,e2];exact gJ (by omega) h (by omega) (by omega)
    ·rw[if_neg (by rw[decide_eq_true_eq];exact hs1)];have e1:CD sg j=(j:Int):=by unfold CD;rw[if_neg hs1]
     have e2:CD sg (j+1)=(j:Int)+1:=by unfold CD;rw[if_neg hs1];omega
     simp only[e1,e2];exact mul_two (by omega) h (by omega))
  have e:Dv m (CD sg x)=CF m (CD sg x):=by unfold Dv;rw[if_neg hm]
  rw[e];exact this
theorem bV{m:Nat}{e:Int}(h:m<9007199254740992)(he : -1074≤e)(hf:Lx m e=true):FloatKind.f64.format.sub (Dv m e) (Dv m e)=some 0:=by
 unfold Dv;have hf:=of_decide_eq_true hf
 by_cases hm:m=0
 ·rw[if_pos hm];rfl
 ·rw[if_neg hm];exact Qm (by omega) h he (hf.resolve_left hm)
theorem fQ{m:Nat}{e:Int}(h:m<9007199254740992)(he : -1074≤e)(hf:Lx m e=false):FloatKind.f64.format.sub (Dv m e) (Dv m e)=none:=by
 unfold Dv;have hf:=of_decide_eq_false hf;have hm:¬m=0:=fun h=>hf (.inl h)
 rw[if_neg hm];exact Qt (by omega) h he (by omega)
theorem LO(l:List UInt8):LJ l=.tup [.v (.int .i64 (if Ay l≤9223372036854775807 then (Ay l:Int)else 0)),.v (.bool (decide (Ay l≤9223372036854775807)))]:=by
 unfold LJ
 by_cases h:Ay l≤9223372036854775807
 ·rw[if_pos h,if_pos h,decide_eq_true h]
 ·rw[if_neg h,if_neg h,decide_eq_false h]
theorem Ke(b:Bool)(l:List UInt8)(i j:Nat)(hij:i≤j)(hj:j≤l.length)(hl:l.length≤140737488351232)(hd:∀ k,k<(j-i)→A5 (Ar ((l.drop i).take (j-i)) k)=true):
  Ev Tp γ 208 [.sl b (j-i) (l.length-i) (List.drop i (l.map Am))] (LJ ((l.drop i).take (j-i))):=by
 rw[←List.map_drop];refine Wc (by omega) (by rw[Bd];omega) ?_;have hlen:((l.drop i).take (j-i)).length=j-i:=by rw[Bh,Bd];omega
 exact SK b _ (by rw[hlen];omega) (fun k hk=>hd k (by rw[hlen]at hk;exact hk))
theorem Mn:En none=AV.nan:=rfl
set_option maxRecDepth 20000 in
theorem TU(b:Bool)(l:List UInt8)(p n more sg:Nat)(a c:List UInt8)(ha:a=(l.drop p).take (p+n-p))(hc:c=(l.drop (p+n+(sg+1))).take (p+n+more-(p+n+(sg+1))))(hpn:p+n+more≤l.length)(hsg:sg=0∨sg=1)(hm:sg+1≤more)(hl:l.length≤140737488351232)
  (hda:∀ k,k<p+n-p→A5 (Ar a k)=true) (hdc:∀ k,k<p+n+more-(p+n+(sg+1))→A5 (Ar c k)=true) :
  Ev Tp γ 207 [.sl b l.length l.length (l.map Am),.v (.int .i64 p),.v (.int .i64 n),.v (.int .i64 more),.v (.int .i64 ((sg+1:Nat):Int))]
   (if Ko sg a c=true then Dh (AM 3 [] 0 (.v (.float .f64 (Dv (Ay a) (CD sg (Ay c))))) p (n+more:Nat))else B6 12):=by
 refine Ev.of Tryz.func207 rfl ?_;generalize hR:(if Ko sg a c=true then Dh (AM 3 [] 0 (.v (.float .f64 (Dv (Ay a) (CD sg (Ay c))))) p (n+more:Nat))else B6 12)=R;have hwa:=Ke (γ:=γ) b l p (p+n) (by omega) (by omega) hl (by rw[←ha];exact hda);have hwc:=Ke (γ:=γ) b l (p+n+(sg+1)) (p+n+more) (by omega) hpn hl (by rw[←hc];exact hdc);rw[←ha,LO]at hwa;rw[←hc,LO]at hwc;clear ha hc hda hdc;have w1:IntKind.i64.wrap ((p:Int)+(n:Int))=((p+n:Nat):Int):=(A4 (by omega) (by omega)).trans (by omega);have w2:IntKind.i64.wrap (((p+n:Nat):Int)+((sg+1:Nat):Int))=((p+n+(sg+1):Nat):Int):=(A4 (by omega) (by omega)).trans (by omega);have w3:IntKind.i64.wrap (((p+n:Nat):Int)+(more:Int))=((p+n+more:Nat):Int):=(A4 (by omega) (by omega)).trans (by omega);have w4:IntKind.i64.wrap ((n:Int)+(more:Int))=((n+more:Nat):Int):=(A4 (by omega) (by omega)).trans (by omega)
 have e2:(((sg+1:Nat):Int)==2)=decide (sg=1):=by
  by_cases h:sg=1
  ·subst h;rfl
  ·rw[decide_eq_false h];simp;omega
 simp only[Tryz.f207,w1,Ad,An,seval]
 (repeat' (first|(with_reducible refine aI ?_ ?_)|(first|(first|refine gF ?_ ?_|refine gT ?_ ?_|refine cI ?_ ?_|refine pI ?_ ?_)<;>intro h|(refine dI ?_;have h:=trivial))<;>simp only[h,w1,w2,w3,w4,e2,Ad,An,Bv,Bf,seval]))
 all_goals try (((try simp only[decide_eq_true_eq,decide_eq_false_iff_not,beq_iff_eq,bne_iff_ne,ne_eq,beq_eq_false_iff_ne,bne_eq_false_iff_eq]at *)<;>(try omega));done)
 refine Ag.intro b67 (by simp[A0,A6]) hwa ?_;simp only[w1,w2,w3,Ad,An,seval]
 (repeat' (first|(with_reducible refine aI ?_ ?_)|(first|(first|refine gF ?_ ?_|refine gT ?_ ?_|refine cI ?_ ?_|refine pI ?_ ?_)<;>intro h|(refine dI ?_;have h:=trivial))<;>simp only[h,w1,w2,w3,w4,e2,Ad,An,Bv,Bf,seval]))
 all_goals try (((try simp only[decide_eq_true_eq,decide_eq_false_iff_not,beq_iff_eq,bne_iff_ne,ne_eq,beq_eq_false_iff_ne,bne_eq_false_iff_eq]at *)<;>(try omega));done)
 refine Ag.intro b67 (by simp[A0,A6]) hwc ?_;clear hwa hwc
 by_cases hOa:Ay a≤9223372036854775807
 ·by_cases hOc:Ay c≤9223372036854775807
  ·have hPw:∀ bb:Bool,bb=decide (sg=1)→Ay a<9007199254740992→Ay c≤1023+51 * sg→(Ay a=0→Ay c=0)→Ev Tp γ 250 [.v (.int .i64 (Ay a)),.v (.int .i64 (Ay c)),.v (.bool bb)] (.v (.float .f64 (Dv (Ay a) (CD sg (Ay c))))):=fun bb hbb h1 h2 h3=>by rw[hbb];exact Wq (γ:=γ) (Ay a) (Ay c) sg h1 h2 hsg h3
   have hfi:=fun h1 h2=>bV (m:=Ay a) (e:=CD sg (Ay c)) h1 h2
   have hin:=fun h1 h2=>fQ (m:=Ay a) (e:=CD sg (Ay c)) h1 h2
   simp only[Ic]at hR;rw[if_pos hOa,if_pos hOc,decide_eq_true hOa,decide_eq_true hOc];have hex:Ay c≤1023+51 * sg → -1074≤CD sg (Ay c):=fun h=>by unfold CD;split<;>omega
   generalize CD sg (Ay c)=ex at *;generalize Ay a=A at *;generalize Ay c=C at *
   have etm:∀ n:Nat,((n:Int).tmod 2==0)=decide (n%2=0):=fun n=>by
    rw[Int.tmod_eq_emod_of_nonneg (by omega)]
    by_cases h:n%2=0
    ·rw[decide_eq_true h];simp;omega
    ·rw[decide_eq_false h];simp;omega
   have ez:∀ n:Nat,((n:Int)==0)=decide (n=0):=fun n=>by
    by_cases h:n=0
    ·simp[h]
    ·rw[decide_eq_false h];simp[h]
   have en:∀ n:Nat,((n:Int) != 0)=decide (n≠0):=fun n=>by
    by_cases h:n=0
    ·simp[h]
    ·rw[decide_eq_true h];simp[h]
   have eg:∀ (n:Nat),decide ((9007199254740992:Int)≤(n:Int))=decide (9007199254740992≤n):=fun n=>by
    by_cases h:9007199254740992≤n
    ·rw[decide_eq_true h,decide_eq_true];omega
    ·rw[decide_eq_false h,decide_eq_false];omega
   have mG:(FloatKind.f64.format.order 0 0 != some .eq)=false:=by rfl
   rcases hsg with rfl|rfl
   ·have hPb:=hPw false (by decide);clear hPw;have e22:(((1:Nat):Int)==2)=false:=by decide
    have d01:decide ((0:Nat)=1)=false:=by decide
    have el:decide ((1023:Int)<(C:Int))=decide (1023<C):=by
     by_cases h:1023<C
     ·rw[decide_eq_true h,decide_eq_true];omega
     ·rw[decide_eq_false h,decide_eq_false];omega
    simp only[eg,e22,Ad,Bv,seval]
    (repeat' (first|(with_reducible refine aI ?_ ?_)|(first|(first|refine gF ?_ ?_|refine gT ?_ ?_|refine cI ?_ ?_|refine pI ?_ ?_)<;>intro h|(refine dI ?_;have h:=trivial))<;>simp only[h,etm,ez,en,el,Ad,An,eg,d01,e22,Bv,Bf,seval]))
    all_goals try (((try simp only[decide_eq_true_eq,decide_eq_false_iff_not,ne_eq,beq_eq_false_iff_ne,bne_eq_false_iff_eq]at *)<;>(try omega));done)
    all_goals (try simp only[decide_eq_true_eq,decide_eq_false_iff_not,ne_eq,Classical.not_not]at *)
    all_goals try (rw[←hR,if_neg (by rintro⟨q1,q2,q3,q4,q5⟩;first|omega|exact q4 ⟨trivial,by omega⟩)];simp only[B6,AM,f0,Ad];done)
    all_goals
     (have hexx:=hex (by omega)
      refine Ag.intro b98 rfl (hPb (by omega) (by omega) (by omega)) ?_;cases hf:Lx A ex with
      |true=>
       have s1:=hfi (by omega) hexx hf;rw[←hR,if_pos ⟨by omega,by omega,by omega,by omega,hf⟩];simp only[s1,Es,mG,Dh,AM,w4,Ad,An,seval]
      |false=>
       have s1:=hin (by omega) hexx hf;rw[←hR,if_neg (by rintro⟨q1,q2,q3,q4,q5⟩;rw[hf]at q5;cases q5)];simp only[s1,Mn,B6,AM,f0,Ad,An,seval])
   ·have hPb:=hPw true (by decide);clear hPw;have e22:(((2:Nat):Int)==2)=true:=by decide
    have d01:decide ((1:Nat)=1)=true:=by decide
    have el:decide ((1074:Int)<(C:Int))=decide (1074<C):=by
     by_cases h:1074<C
     ·rw[decide_eq_true h,decide_eq_true];omega
     ·rw[decide_eq_false h,decide_eq_false];omega
    simp only[eg,e22,Ad,Bv,seval]
    (repeat' (first|(with_reducible refine aI ?_ ?_)|(first|(first|refine gF ?_ ?_|refine gT ?_ ?_|refine cI ?_ ?_|refine pI ?_ ?_)<;>intro h|(refine dI ?_;have h:=trivial))<;>simp only[h,etm,ez,en,el,Ad,An,eg,d01,e22,Bv,Bf,seval]))
    all_goals try (((try simp only[decide_eq_true_eq,decide_eq_false_iff_not,beq_iff_eq,ne_eq,bne_eq_false_iff_eq]at *)<;>(try omega));done)
    all_goals (try simp only[decide_eq_true_eq,decide_eq_false_iff_not,ne_eq,Classical.not_not]at *)
    all_goals try (rw[←hR,if_neg (by rintro⟨q1,q2,q3,q4,q5⟩;first|omega|exact q4 ⟨trivial,by omega⟩)];simp only[B6,AM,f0,Ad];done)
    all_goals
     (have hexx:=hex (by omega)
      refine Ag.intro b98 rfl (hPb (by omega) (by omega) (by omega)) ?_;cases hf:Lx A ex with
      |true=>
       have s1:=hfi (by omega) hexx hf;rw[←hR,if_pos ⟨by omega,by omega,by omega,by omega,hf⟩];simp only[s1,Es,mG,Dh,AM,w4,Ad,An,seval]
      |false=>
       have s1:=hin (by omega) hexx hf;rw[←hR,if_neg (by rintro⟨q1,q2,q3,q4,q5⟩;rw[hf]at q5;cases q5)];simp only[s1,Mn,B6,AM,f0,Ad,An,seval])
  ·have hz:¬(Ko sg a c=true):=fun q=>by have:=(Ic.1 q).2.1;omega
   rw[if_neg hz]at hR;rw[←hR,decide_eq_false hOc,decide_eq_true hOa];simp only[Ad,seval]
   (repeat' (first|(with_reducible refine aI ?_ ?_)|(first|(first|refine gF ?_ ?_|refine gT ?_ ?_|refine cI ?_ ?_|refine pI ?_ ?_)<;>intro h|(refine dI ?_;have h:=trivial))<;>simp only[h,Ad,An,Bv,Bf,seval]))
   all_goals try (((try simp only[beq_iff_eq,ne_eq,beq_eq_false_iff_ne]at *)<;>(try omega));done)
   all_goals (simp only[B6,AM,f0,Ad];done)
 ·have hz:¬(Ko sg a c=true):=fun q=>by have:=(Ic.1 q).1;omega
  rw[if_neg hz]at hR;rw[←hR,decide_eq_false hOa];simp only[Ad,seval]
  (repeat' (first|(with_reducible refine aI ?_ ?_)|(first|(first|refine gF ?_ ?_|refine gT ?_ ?_|refine cI ?_ ?_|refine pI ?_ ?_)<;>intro h|(refine dI ?_;have h:=trivial))<;>simp only[h,Ad,An,Bf,Bv,seval]))
  all_goals try (((try simp only[beq_iff_eq,ne_eq,beq_eq_false_iff_ne]at *)<;>(try omega));done)
  all_goals (simp only[B6,AM,f0,Ad];done)
end Go.Proofs.YtlobiioioicmhaaGreatDoor
