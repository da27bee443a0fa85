/- A part of the proof. -/
import Derived.Test.YtlobiioioicmhaaGreatDoorCQ4
set_option linter.all false
set_option maxHeartbeats 8000000
namespace Go.Proofs.YtlobiioioicmhaaGreatDoor
open _root_.Array renaming getElem?_eq_some_iff→BP
open _root_.Bool renaming not_true→Bv,not_false→Bf
open _root_.List renaming length_drop→Bd,length_take→Bh,map_cons→BA,mem_cons→BI,drop_drop→BT
open Go.Proofs.Tryz renaming prog→Tp
open Go Go.Ev
theorem Xz(l:List UInt8)(p i:Nat)(hi:p+i<l.length)(h:Ar l (p+i)=92):AP l (p+i)=D3 ((l.drop p).drop i):=by
 have e:∀ j,Ar ((l.drop p).drop i) j=Ar l (p+i+j):=fun j=>by rw[B8,B8];congr 1;omega
 have hlen:((l.drop p).drop i).length=l.length-p-i:=by rw[Bd,Bd]
 have h2:=fun j=>KB (l:=l) (i:=j)
 unfold AP D3;rw[e,e,e,hlen,if_neg (by omega),if_neg (by omega)]
 by_cases h1:l.length<p+i+2
 ·rw[if_pos h1];have:=h2 (p+i+1) (by omega);rw[this,if_neg (by omega),if_neg (by omega)]
 ·rw[if_neg h1]
  by_cases h34:Ar l (p+i+1)=34
  ·rw[if_pos h34,if_pos (.inl h34),h34]
  ·rw[if_neg h34]
   by_cases h92:Ar l (p+i+1)=92
   ·rw[if_pos h92,if_pos (.inr h92),h92]
   ·rw[if_neg h92,if_neg (show ¬(Ar l (p+i+1)=34∨Ar l (p+i+1)=92)by omega)]
    by_cases hx:Ar l (p+i+1)=120∧p+i+4≤l.length∧0≤DV (Ar l (p+i+2))∧0≤DV (Ar l (p+i+3))∧(JL (Ar l (p+i+2)) (Ar l (p+i+3))<32∨126<JL (Ar l (p+i+2)) (Ar l (p+i+3)))
    ·rw[if_pos hx,if_pos ⟨hx.1,by omega,hx.2.2⟩]
    ·rw[if_neg hx,if_neg (fun q=>hx ⟨q.1,by omega,q.2.2⟩)]
def Ij(l:List UInt8)(p:Nat)(q:List UInt8×Nat):Option (List UInt8×Nat):=
 if l.length≤q.2∨Ar l q.2≠34∨256<q.1.length then none else some (q.1,q.2+1-p)
theorem LD(l:List UInt8)(p:Nat):∀ (k k' i:Nat) (d:List UInt8),l.length≤k+(p+i)→l.length≤k'+(p+i)→E0 k' (l.drop p) i d=Ij l p (Ef k l (p+i) d)
 |0,k',i,d,h1,h2=>by
  have e:E0 k' (l.drop p) i d=none:=by
   cases k' with
   |zero=>rfl
   |succ k'=>rw[E0,if_pos (by rw[Bd];omega)]
  rw[e,Ef,Ij,if_pos (.inl (by show l.length≤p+i;omega))]
 |k+1,k',i,d,h1,h2=>by
  by_cases hi:l.length≤p+i
  ·have e:E0 k' (l.drop p) i d=none:=by
    cases k' with
    |zero=>rfl
    |succ k'=>rw[E0,if_pos (by rw[Bd];omega)]
   have hp:AP l (p+i)=(0,0):=by unfold AP;rw[if_pos (.inl hi)]
   rw[e,Ef,hp,if_pos rfl,Ij,if_pos (.inl hi)]
  ·cases k' with
   |zero=>omega
   |succ k'=>
    have ea:Ar (l.drop p) i=Ar l (p+i):=B8 l p i;rw[E0,ea,if_neg (by rw[Bd];omega)]
    by_cases h34:Ar l (p+i)=34
    ·have hp:AP l (p+i)=(0,0):=by unfold AP;rw[if_pos (by omega)]
     rw[Ef,hp,if_pos rfl,Ij]
     by_cases hd:d.length≤256
     ·rw[if_pos ⟨h34,hd⟩,if_neg (by show ¬(l.length≤p+i∨Ar l (p+i)≠34∨256<d.length);omega)];show some (d,i+1)=some (d,p+i+1-p)
      congr 2;omega
     ·rw[if_neg (by omega),if_neg (by omega),if_pos (.inl h34),if_pos (by show l.length≤p+i∨Ar l (p+i)≠34∨256<d.length;omega)]
    ·rw[if_neg (by omega)]
     by_cases h92:Ar l (p+i)=92
     ·rw[if_pos h92,Ef,Xz l p i (by omega) h92]
      by_cases h0:(D3 ((l.drop p).drop i)).2=0
      ·rw[if_pos h0,if_pos h0,Ij,if_pos (.inr (.inl h34))]
      ·rw[if_neg h0,if_neg h0];have:=LD l p k k' (i+(D3 ((l.drop p).drop i)).2) (d++[UInt8.ofNat (D3 ((l.drop p).drop i)).1]) (by omega) (by omega);rw[this,Nat.add_assoc]
     ·rw[if_neg h92]
      by_cases hc:Ar l (p+i)<32∨126<Ar l (p+i)
      ·have hp:AP l (p+i)=(0,0):=by unfold AP;rw[if_pos (by omega)]
       rw[if_pos (by omega),Ef,hp,if_pos rfl,Ij,if_pos (.inr (.inl h34))]
      ·have hp:AP l (p+i)=(Ar l (p+i),1):=by unfold AP;rw[if_neg (by omega),if_pos h92]
       rw[if_neg (by omega),Ef,hp,if_neg (by show ¬(1=0);omega)];have:=LD l p k k' (i+1) (d++[UInt8.ofNat (Ar l (p+i))]) (by omega) (by omega);rw[this,Nat.add_assoc]
def ED(p:Nat):Except Int AG→AV
 |.ok t=>Dh (t.av p)
 |.error e=>B6 e
theorem US(l:List UInt8)(p:Nat)(hp:p<l.length):Dx l p (Ef l.length l (p+1) [])=ED p (Gz (l.drop p)):=by
 have h:=LD l p l.length (l.drop p).length 1 [] (by omega) (by rw[Bd];omega);unfold Gz;rw[h];unfold Dx Ij
 by_cases hc:l.length≤(Ef l.length l (p+1) []).2∨Ar l (Ef l.length l (p+1) []).2≠34∨256<(Ef l.length l (p+1) []).1.length
 ·rw[if_pos hc,if_pos hc];rfl
 ·rw[if_neg hc,if_neg hc];rfl
set_option maxRecDepth 20000
variable {γ:List (Nat×AV)}
theorem Le(l:List UInt8)(p i:Nat):Ai (l.drop p) i+p=Ai l (p+i):=by
 unfold Ai;rw[BT]
 omega
theorem UO{l:List UInt8}{most:Int}(h:1<l.length∧Ar l 0=48):EK l most=false:=by
 unfold EK;exact decide_eq_false (fun q=>q.1 h)
theorem R9{sg:Nat}(hsg:sg=0∨sg=1){a c:List UInt8}{f:Nat}(ha:¬(1<a.length∧Ar a 0=48))(hc:¬(1<c.length∧Ar c 0=48))(hf:Ca f=false):K3 sg a c f=Ko sg a c:=by
 rw[Bool.eq_iff_iff,HZ,Ic]
 have h1:EK a 9007199254740991=true↔Ay a<9007199254740992:=by
  unfold EK;rw[decide_eq_true_eq]
  constructor
  ·rintro⟨_,_,h⟩;omega
  ·intro h;exact⟨ha,by omega,by omega⟩
 have h2:EK c (1023+51 * sg)=true↔Ay c≤1023+51 * sg:=by
  unfold EK;rw[decide_eq_true_eq]
  constructor
  ·rintro⟨_,_,h⟩;omega
  ·intro h;exact⟨hc,by omega,by omega⟩
 rw[h1,h2]
 constructor
 ·rintro⟨a1,a2,a3,a4,_,a6⟩;exact⟨a1,a2,a3,a4,a6⟩
 ·rintro⟨a1,a2,a3,a4,a6⟩;exact⟨a1,a2,a3,a4,hf,a6⟩
theorem Tt(l:List UInt8)(p n sg:Nat)(hp:p+n≤l.length)(hn:n=Ai l p-p)(hge:p≤Ai l p)(hs:sg=Jp (l.drop p))(h112:Ar l (p+n)=112)(hd:A5 (Ar l (p+n+1+sg))=true):
  JO l (p+n)=(Ai l (p+n+1+sg)-(p+n),sg+1)∧C2 (l.drop p)=KG (l.drop p) n sg∧(sg=0∨sg=1)∧p+n+1+sg<Ai l (p+n+1+sg)∧Ai l (p+n+1+sg)≤l.length:=by
 have hlt:=Ex hd;have hl2:=(C9 hd).2;have hle:=CS (l:=l) (i:=p+n+1+sg) (by omega);have hdn:Ai (l.drop p) 0=n:=by have:=Le l p 0;rw[Nat.add_zero]at this;omega
 have hsg:sg=if Ar l (p+n+1)=45 then 1 else 0:=by
  rw[hs];unfold Jp;rw[hdn,B8,B8,←Nat.add_assoc]
  by_cases h:Ar l (p+n+1)=45
  ·rw[if_pos ⟨h112,h⟩,if_pos h]
  ·rw[if_neg (fun q=>h q.2),if_neg h]
 have hhead:GU l (p+n)=sg+1:=by
  unfold GU;rw[hsg];split<;>rfl
 have hspan:H3 l (p+n+GU l (p+n))=Ai l (p+n+1+sg)-(p+n+1+sg):=by
  unfold H3;rw[hhead,←Em,show p+n+(sg+1)=p+n+1+sg from by omega]
 refine⟨?_,?_,?_,hlt,hle⟩
 ·unfold JO;rw[if_neg (by omega),if_neg (by rw[hspan];omega),hspan,hhead]
  congr 1;omega
 ·unfold C2;rw[hdn,←hs,if_pos ⟨by rw[B8];exact h112,by rw[B8,←Nat.add_assoc,←Nat.add_assoc];exact hd⟩]
 ·rw[hsg];split
  ·exact .inr rfl
  ·exact .inl rfl
theorem UF(l:List UInt8)(p n sg:Nat)(hp:p+n≤l.length)(hn:n=Ai l p-p)(hge:p≤Ai l p)(hs:sg=Jp (l.drop p))(h:¬(Ar l (p+n)=112∧A5 (Ar l (p+n+1+sg))=true)):
  JO l (p+n)=(0,0)∧C2 (l.drop p)=if EK (DX (l.drop p) 0) 9223372036854775807=true∧Ca (Ar l (p+n))=false then .ok ⟨2,[],Ay (DX (l.drop p) 0),0,n⟩else .error 12:=by
 have hdn:Ai (l.drop p) 0=n:=by have:=Le l p 0;rw[Nat.add_zero]at this;omega
 constructor
 ·unfold JO
  by_cases h112:Ar l (p+n)=112
  ·rw[if_neg (by omega)]
   have hsg:sg=if Ar l (p+n+1)=45 then 1 else 0:=by
    rw[hs];unfold Jp;rw[hdn,B8,B8,←Nat.add_assoc]
    by_cases h:Ar l (p+n+1)=45
    ·rw[if_pos ⟨h112,h⟩,if_pos h]
    ·rw[if_neg (fun q=>h q.2),if_neg h]
   have hhead:GU l (p+n)=sg+1:=by
    unfold GU;rw[hsg];split<;>rfl
   have hnd:A5 (Ar l (p+n+1+sg))=false:=by
    cases hc:A5 (Ar l (p+n+1+sg))with
    |true=>exact absurd ⟨h112,hc⟩ h
    |false=>rfl
   have hst:=Fl hnd;rw[if_pos];unfold H3;rw[hhead,←Em,show p+n+(sg+1)=p+n+1+sg from by omega,hst]
   omega
  ·rw[if_pos h112]
 ·unfold C2;rw[hdn,←hs,if_neg (by rw[B8,B8,←Nat.add_assoc,←Nat.add_assoc];exact h),B8]
theorem Js(x:Nat):Ca x=(Eh x || A5 x || decide (x=95)):=rfl
set_option maxRecDepth 20000 in
theorem OI(b:Bool)(l:List UInt8)(p:Nat)(hd:A5 (Ar l p)=true)(hl:l.length≤140737488351232)
  (hreal:Ar l (p+(Ai l p-p))=112∧A5 (Ar l (p+(Ai l p-p)+1+Jp (l.drop p)))=true) :
  Ev Tp γ 140 [.sl b l.length l.length (l.map Am),.v (.int .i64 p)] (ED p (C2 (l.drop p))):=by
 refine Ev.of Tryz.func140 rfl ?_;have hlt:=Ex hd;have hpl:=(C9 hd).2;have hle:=CS (l:=l) (i:=p) (by omega);obtain⟨n,hn⟩:∃ n,n=Ai l p-p:=⟨_,rfl⟩;obtain⟨sg,hsg⟩:∃ sg,sg=Jp (l.drop p):=⟨_,rfl⟩;rw[←hn,←hsg]at hreal;have hdg:=GI (γ:=γ) b l p (by omega) (by omega);rw[←Em,←hn]at hdg;have hen:=PI (γ:=γ) b l (p+n) (by omega) (by omega);have w1:IntKind.i64.wrap ((p:Int)+(n:Int))=((p+n:Nat):Int):=(A4 (by omega) (by omega)).trans (by omega);have ea:∀ j,(l.getD j 0).toNat=Ar l j:=fun _=>rfl
 simp only[Tryz.f140,Ad,An,seval];refine Ag.intro nG (by simp[A0,A6]) hdg ?_;simp only[w1,Ad,seval];obtain⟨hE,hND,hs01,hlt2,hle2⟩:=Tt l p n sg (by omega) hn (by omega) hsg hreal.1 hreal.2;rw[hE]at hen;refine Ag.intro b65 (by simp[A0,A6]) hen ?_;obtain⟨E,hE'⟩:∃ E,E=Ai l (p+n+1+sg):=⟨_,rfl⟩;have hEb:p+n+1+sg<E∧E≤l.length:=by rw[hE'];exact⟨hlt2,hle2⟩
 clear hlt2 hle2;obtain⟨A,hA⟩:∃ A,A=DX (l.drop p) 0:=⟨_,rfl⟩;obtain⟨C,hC⟩:∃ C,C=DX (l.drop p) (n+1+sg):=⟨_,rfl⟩;have hdn:Ai (l.drop p) 0=n:=by have:=Le l p 0;rw[Nat.add_zero]at this;omega
 have hdE:Ai (l.drop p) (n+1+sg)=E-p:=by have:=Le l p (n+1+sg);rw[←Nat.add_assoc,←Nat.add_assoc,←hE']at this;omega
 have hA':A=(l.drop p).take (p+n-p):=by rw[hA,DX,hdn,List.drop_zero];congr 1;omega
 have hC':C=(l.drop (p+n+(sg+1))).take (p+n+(E-(p+n))-(p+n+(sg+1))):=by
  rw[hC,DX,hdE,BT,show p+(n+1+sg)=p+n+(sg+1)from by omega];congr 1;omega
 have hAl:A.length=n:=by rw[hA',Bh,Bd];omega
 have hCl:C.length=E-(p+n+(sg+1)):=by rw[hC',Bh,Bd];omega
 have hA0:Ar A 0=Ar l p:=by rw[hA',Hl (by omega),B8];rfl
 have hC0:Ar C 0=Ar l (p+n+(sg+1)):=by rw[hC',Hl (by omega),B8];rfl
 have hres:ED p (C2 (l.drop p))=if K3 sg A C (Ar l E)=true then Dh (AM 3 [] 0 (.v (.float .f64 (Dv (Ay A) (CD sg (Ay C))))) p (n+(E-(p+n)):Nat))else B6 12:=by
  rw[hND,KG,←hA,←hC,hdE,B8,show p+(E-p)=E from by omega]
  split
  ·show Dh (AM 3 [] 0 _ _ ((E-p:Nat):Int))=_
   rw[show n+(E-(p+n))=E-p from by omega]
  ·rfl
 have hreal66:=TU (γ:=γ) b l p n (E-(p+n)) sg A C hA' hC' (by omega) hs01 (by omega) (by omega)
  (fun k hk=>by rw[hA',Hl hk,B8];exact E8 k rfl (by omega))
  (fun k hk=>by rw[hC',Hl hk,B8];exact E8 (i:=p+n+1+sg) k (by omega) (by rw[←hE'];omega))
 have hrr:=fun h1 h2 h3=>R9 (a:=A) (c:=C) (f:=Ar l E) hs01 h1 h2 h3
 have hlzA:=fun (h:1<A.length∧Ar A 0=48)=>UO (most:=9007199254740991) h
 have hlzC:=fun (h:1<C.length∧Ar C 0=48)=>UO (most:=1023+51 * sg) h
 rw[hAl,hA0]at hlzA;rw[hCl,hC0]at hlzC;rw[hAl,hA0,hCl,hC0]at hrr
 have hro:K3 sg A C (Ar l E)=true→EK A 9007199254740991=true∧EK C (1023+51 * sg)=true∧Ca (Ar l E)=false:=fun h=>by
  have:=HZ.1 h;exact⟨this.1,this.2.1,this.2.2.2.2.1⟩
 rw[hres];generalize K3 sg A C (Ar l E)=ro at *;rw[←hE'];have w5:IntKind.i64.wrap (((p+n:Nat):Int)+((E-(p+n):Nat):Int))=(E:Int):=(A4 (by omega) (by omega)).trans (by omega);have w6:IntKind.i64.wrap (((sg+1:Nat):Int)+1)=((sg+1+1:Nat):Int):=(A4 (by omega) (by omega)).trans (by omega);have w7:IntKind.i64.wrap (((p+n:Nat):Int)+((sg+1:Nat):Int))=((p+n+(sg+1):Nat):Int):=(A4 (by omega) (by omega)).trans (by omega)
 have dEl:decide ((E:Int)<(l.length:Int))=decide (E<l.length):=by
  by_cases h:E<l.length
  ·rw[decide_eq_true h,decide_eq_true];omega
  ·rw[decide_eq_false h,decide_eq_false];omega
 have dpos:decide ((0:Int)<((E-(p+n):Nat):Int))=true:=decide_eq_true (by omega)
 have kp48:((Ar l p:Int)==48)=decide (Ar l p=48):=by
  by_cases h:Ar l p=48
  ·simp[h]
  ·rw[decide_eq_false h];simp;omega
 have k48:((Ar l (p+n+(sg+1)):Int)==48)=decide (Ar l (p+n+(sg+1))=48):=by
  by_cases h:Ar l (p+n+(sg+1))=48
  ·simp[h]
  ·rw[decide_eq_false h];simp;omega
 have dn1:decide ((1:Int)<(n:Int))=decide (1<n):=by
  by_cases h:1<n
  ·rw[decide_eq_true h,decide_eq_true];omega
  ·rw[decide_eq_false h,decide_eq_false];omega
 have dsg:decide (((sg+1+1:Nat):Int)<((E-(p+n):Nat):Int))=decide (sg+1+1<E-(p+n)):=by
  by_cases h:sg+1+1<E-(p+n)
  ·rw[decide_eq_true h,decide_eq_true];omega
  ·rw[decide_eq_false h,decide_eq_false];omega
 have kE95:((Ar l E:Int)==95)=decide (Ar l E=95):=by
  by_cases h:Ar l E=95
  ·simp[h]
  ·rw[decide_eq_false h];simp;omega
 clear hres hND hen hdg hA' hC' hA hC hdE hdn hE' hE;simp only[w1,w5,Ad,An,seval]
 (repeat' (first|(with_reducible refine aI ?_ ?_)|(first|(first|refine gF ?_ ?_|refine gT ?_ ?_|refine cI ?_ ?_|refine pI ?_ ?_)<;>intro h|(refine dI ?_;have h:=trivial))<;>simp only[h,w1,w6,w7,ea,dpos,kp48,k48,dn1,Ad,An,w5,dEl,dsg,kE95,Bv,Bf,seval]))
 all_goals try (((try simp only[decide_eq_true_eq,decide_eq_false_iff_not]at *)<;>(try omega));done)
 all_goals try (refine Ag.intro pN rfl (GH _) ?_;simp only[Ad,seval];(repeat' (first|(with_reducible refine aI ?_ ?_)|(first|(first|refine gF ?_ ?_|refine gT ?_ ?_|refine cI ?_ ?_|refine pI ?_ ?_)<;>intro h|(refine dI ?_;have h:=trivial))<;>simp only[h,w1,w6,w7,ea,kp48,k48,dn1,Ad,An,w5,dEl,dpos,dsg,kE95,Bv,Bf,seval])))
 all_goals try (((try simp only[decide_eq_true_eq,decide_eq_false_iff_not]at *)<;>(try omega));done)
 all_goals try (refine Ag.intro mC rfl (ET _) ?_;simp only[Ad,seval];(repeat' (first|(with_reducible refine aI ?_ ?_)|(first|(first|refine gF ?_ ?_|refine gT ?_ ?_|refine cI ?_ ?_|refine pI ?_ ?_)<;>intro h|(refine dI ?_;have h:=trivial))<;>simp only[h,w1,w6,w7,ea,dpos,kp48,k48,dn1,kE95,Ad,An,w5,dEl,dsg,Bv,Bf,seval])))
 all_goals try (((try simp only[decide_eq_true_eq,decide_eq_false_iff_not]at *)<;>(try omega));done)
 all_goals (try simp only[decide_eq_true_eq,decide_eq_false_iff_not]at *)
 all_goals first
  |(have hr:ro=false:=(by
    cases hr:ro with
    |false=>rfl
    |true=>
     exfalso
     obtain⟨q1,q2,q3⟩:=hro hr
     first
      |(rw[hlzA ⟨by omega,by omega⟩]at q1;cases q1)
      |(rw[hlzC ⟨by omega,by omega⟩]at q2;cases q2)
      |(simp_all [Js];done))
    rw[hr,if_neg (by decide)];simp only[B6,AM,f0,Ad]
    first|done|rfl)
  |(have hnm:Ca (Ar l E)=false:=(by
    first
     |(rw[KB (by omega)];decide)
     |(rw[Js];simp_all;done))
    have hrr':=hrr (by omega) (by omega) hnm;have h66:=hreal66;rw[←hrr']at h66;cases hr:ro with
    |true=>
     rw[hr,if_pos rfl]at h66;refine Ag.intro b66 (by simp[A0,A6]) h66 ?_;rw[if_pos rfl];simp only[Dh,AM,Ad,An,seval]
     first|done|rfl
    |false=>
     rw[hr,if_neg (by decide)]at h66;refine Ag.intro b66 (by simp[A0,A6]) h66 ?_;rw[if_neg (by decide)];simp only[B6,AM,f0,Ad,An,seval]
     first|done|rfl)
  |trace_state
set_option maxRecDepth 20000 in
theorem OM(b:Bool)(l:List UInt8)(p:Nat)(hd:A5 (Ar l p)=true)(hl:l.length≤140737488351232)
  (hint:¬(Ar l (p+(Ai l p-p))=112∧A5 (Ar l (p+(Ai l p-p)+1+Jp (l.drop p)))=true)) :
  Ev Tp γ 140 [.sl b l.length l.length (l.map Am),.v (.int .i64 p)] (ED p (C2 (l.drop p))):=by
 refine Ev.of Tryz.func140 rfl ?_;have hlt:=Ex hd;have hpl:=(C9 hd).2;have hle:=CS (l:=l) (i:=p) (by omega);obtain⟨n,hn⟩:∃ n,n=Ai l p-p:=⟨_,rfl⟩;obtain⟨sg,hsg⟩:∃ sg,sg=Jp (l.drop p):=⟨_,rfl⟩;rw[←hn,←hsg]at hint;have hdg:=GI (γ:=γ) b l p (by omega) (by omega);rw[←Em,←hn]at hdg;have hen:=PI (γ:=γ) b l (p+n) (by omega) (by omega);have w1:IntKind.i64.wrap ((p:Int)+(n:Int))=((p+n:Nat):Int):=(A4 (by omega) (by omega)).trans (by omega);have ea:∀ j,(l.getD j 0).toNat=Ar l j:=fun _=>rfl
 obtain⟨hE,hND⟩:=UF l p n sg (by omega) hn (by omega) hsg hint;rw[hE]at hen;have hn1:1≤n:=by omega
 have hpn:p+n≤l.length:=by omega
 obtain⟨A,hA⟩:∃ A,A=DX (l.drop p) 0:=⟨_,rfl⟩;have hdn:Ai (l.drop p) 0=n:=by have:=Le l p 0;rw[Nat.add_zero]at this;omega
 have hA':A=(l.drop p).take (p+n-p):=by rw[hA,DX,hdn,List.drop_zero];congr 1;omega
 have hAl:A.length=n:=by rw[hA',Bh,Bd];omega
 have hA0:Ar A 0=Ar l p:=by rw[hA',Hl (by omega),B8];rfl
 have hwa:=Ke (γ:=γ) b l p (p+n) (by omega) (by omega) (by omega) (fun k hk=>by rw[Hl hk,B8];exact E8 k rfl (by omega));rw[←hA',LO]at hwa;rw[hND,←hA];have hlz:=fun (h:1<A.length∧Ar A 0=48)=>UO (most:=9223372036854775807) h
 rw[hAl,hA0]at hlz
 have hdo:¬(1<n∧Ar l p=48)→EK A 9223372036854775807=decide (Ay A≤9223372036854775807):=fun h=>by
  unfold EK;rw[hAl,hA0]
  by_cases h2:Ay A≤9223372036854775807
  ·rw[decide_eq_true h2,decide_eq_true];exact⟨h,by omega,by omega⟩
  ·rw[decide_eq_false h2,decide_eq_false];rintro⟨_,_,q⟩;omega
 have w5:IntKind.i64.wrap (((p+n:Nat):Int)+0)=((p+n:Nat):Int):=(A4 (by omega) (by omega)).trans (by omega);have w6:IntKind.i64.wrap (0+1)=1:=by decide
 have w50:IntKind.i64.wrap (((p+n:Nat):Int)+((0:Nat):Int))=((p+n:Nat):Int):=(A4 (by omega) (by omega)).trans (by omega)
 have dEl:decide (((p+n:Nat):Int)<(l.length:Int))=decide (p+n<l.length):=by
  by_cases h:p+n<l.length
  ·rw[decide_eq_true h,decide_eq_true];omega
  ·rw[decide_eq_false h,decide_eq_false];omega
 have kp48:((Ar l p:Int)==48)=decide (Ar l p=48):=by
  by_cases h:Ar l p=48
  ·simp[h]
  ·rw[decide_eq_false h];simp;omega
 have dn1:decide ((1:Int)<(n:Int))=decide (1<n):=by
  by_cases h:1<n
  ·rw[decide_eq_true h,decide_eq_true];omega
  ·rw[decide_eq_false h,decide_eq_false];omega
 have kE95:((Ar l (p+n):Int)==95)=decide (Ar l (p+n)=95):=by
  by_cases h:Ar l (p+n)=95
  ·simp[h]
  ·rw[decide_eq_false h];simp;omega
 have ept:((p:Int)+(n:Int)).toNat=p+n:=by omega
 have w60:IntKind.i64.wrap (((0:Nat):Int)+1)=1:=by decide
 have d10c:decide ((1:Int)<((0:Nat):Int))=false:=by decide
 have d10:decide ((1:Int)<0)=false:=by decide
 have d00:decide ((0:Int)<0)=false:=by decide
 clear hA' hA hdn hND hE hn hsg hint hlt;simp only[Tryz.f140,Ad,An,Nat.reduceAdd,Nat.reduceSub,Nat.reduceLT,Nat.reduceEqDiff,reduceCtorEq];refine Ag.intro nG (by simp[A0,A6]) hdg ?_;simp only[w1,Ad,Nat.reduceLT,Nat.reduceEqDiff,reduceCtorEq];refine Ag.intro b65 (by simp[A0,A6]) hen ?_;clear hdg hen;simp only[w1,w50,Ad,An,Nat.reduceLT,Nat.reduceEqDiff,reduceCtorEq]
 (repeat' (first|(with_reducible refine aI ?_ ?_)|(first|(first|refine gF ?_ ?_|refine gT ?_ ?_|refine cI ?_ ?_|refine pI ?_ ?_)<;>intro h|(refine dI ?_;have h:=trivial))<;>simp only[h,ea,kp48,dn1,w60,d10c,Ad,An,Nat.reduceAdd,Nat.reduceLT,Nat.reduceLeDiff,Nat.reduceEqDiff,reduceCtorEq,w1,w5,w50,w6,dEl,kE95,d10,d00,ept,Bv,Bf,Nat.reduceSub,Nat.reduceMul,List.reduceReplicate,Int.reduceToNat,Int.reduceLE,Int.reduceLT]))
 all_goals try (((try simp only[decide_eq_true_eq,decide_eq_false_iff_not]at *)<;>(try omega));done)
 all_goals try (refine Ag.intro pN rfl (GH _) ?_;simp only[Ad,Nat.reduceLT,Nat.reduceEqDiff,reduceCtorEq];(repeat' (first|(with_reducible refine aI ?_ ?_)|(first|(first|refine gF ?_ ?_|refine gT ?_ ?_|refine cI ?_ ?_|refine pI ?_ ?_)<;>intro h|(refine dI ?_;have h:=trivial))<;>simp only[h,ea,kp48,dn1,w60,d10c,Ad,An,Nat.reduceAdd,Nat.reduceLT,Nat.reduceLeDiff,Nat.reduceEqDiff,reduceCtorEq,w1,w5,w50,w6,dEl,kE95,d10,d00,ept,Bv,Bf,Nat.reduceSub,Nat.reduceMul,List.reduceReplicate,Int.reduceToNat,Int.reduceLE,Int.reduceLT])))
 all_goals try (((try simp only[decide_eq_true_eq,decide_eq_false_iff_not]at *)<;>(try omega));done)
 all_goals try (refine Ag.intro mC rfl (ET _) ?_;simp only[Ad,Nat.reduceLT,Nat.reduceEqDiff,reduceCtorEq];(repeat' (first|(with_reducible refine aI ?_ ?_)|(first|(first|refine gF ?_ ?_|refine gT ?_ ?_|refine cI ?_ ?_|refine pI ?_ ?_)<;>intro h|(refine dI ?_;have h:=trivial))<;>simp only[h,ea,kp48,dn1,kE95,w60,d10c,Ad,An,Nat.reduceAdd,Nat.reduceLT,Nat.reduceLeDiff,Nat.reduceEqDiff,reduceCtorEq,w1,w5,w50,w6,dEl,d10,d00,ept,Bv,Bf,Nat.reduceSub,Nat.reduceMul,List.reduceReplicate,Int.reduceToNat,Int.reduceLE,Int.reduceLT])))
 all_goals try (((try simp only[decide_eq_true_eq,decide_eq_false_iff_not]at *)<;>(try omega));done)
 all_goals (try simp only[decide_eq_true_eq,decide_eq_false_iff_not]at *)
 all_goals first
  |(refine Ag.intro b67 (by simp[A0,A6]) hwa ?_
    have hnm:Ca (Ar l (p+n))=false:=(by
     first
      |(rw[KB (by omega)];decide)
      |(rw[Js];simp_all;done))
    have hdo':=hdo (by omega)
    by_cases hv:Ay A≤9223372036854775807
    ·rw[if_pos hv,decide_eq_true hv,if_pos ⟨by rw[hdo'];exact decide_eq_true hv,hnm⟩];simp only[ED,Dh,AG.av,AM,Ad,An,Bv,Nat.reduceAdd,Nat.reduceLT,Nat.reduceLeDiff,Nat.reduceEqDiff,reduceCtorEq]
     first|done|rfl
    ·rw[if_neg hv,decide_eq_false hv,if_neg (by rintro⟨q,_⟩;rw[hdo',decide_eq_false hv]at q;cases q)];simp only[ED,B6,AM,f0,Ad,An,Bf,Nat.reduceAdd,Nat.reduceLT,Nat.reduceLeDiff,Nat.reduceEqDiff,reduceCtorEq]
     first|done|rfl)
  |(have hr:¬(EK A 9223372036854775807=true∧Ca (Ar l (p+n))=false):=(by
    rintro⟨q1,q3⟩
    first
     |(rw[hlz ⟨by omega,by omega⟩]at q1;cases q1)
     |(simp_all [Js];done)
     |(simp_all [Js];omega))
    rw[if_neg hr];simp only[ED,B6,AM,f0,Ad]
    first|done|rfl)
theorem Ra(b:Bool)(l:List UInt8)(p:Nat)(hd:A5 (Ar l p)=true)(hl:l.length≤140737488351232):
  Ev Tp γ 140 [.sl b l.length l.length (l.map Am),.v (.int .i64 p)] (ED p (C2 (l.drop p))):=by
 by_cases hreal:Ar l (p+(Ai l p-p))=112∧A5 (Ar l (p+(Ai l p-p)+1+Jp (l.drop p)))=true
 ·exact OI b l p hd hl hreal
 ·exact OM b l p hd hl hreal
theorem jL:∀ n,n<256→DT.contains [n.toUInt8]=decide (0≤Lib.indexByte Uw n.toUInt8):=by decide +kernel
theorem iU(a:UInt8):DT.contains [a]=decide (0≤Lib.indexByte Uw a):=by
 have:=jL a.toNat a.toNat_lt;simpa using this
theorem iW(a b:UInt8)(ha:a≠32)(hb:b≠32):DT.contains [a,b]=Hq Q4 [a,b]:=by
 rw[Bool.eq_iff_iff];rw[List.contains_iff_mem];simp only[DT,Q4,Hq,List.isPrefixOf,BI,List.cons.injEq,Bool.or_eq_true,Bool.and_eq_true,beq_iff_eq,List.isEmpty,Bool.and_true,Bool.or_false,List.not_mem_nil,and_false,and_true,or_false,false_or,seval]
 grind
theorem jX(a b:UInt8)(h:a=32∨b=32):DT.contains [a,b]=false:=by
 rw[←Bool.not_eq_true,List.contains_iff_mem];simp only[DT,BI,List.cons.injEq,List.not_mem_nil,and_false,and_true,or_false,false_or,seval]
 grind
theorem P2(x:Nat):Ca x=(Eh x || A5 x || decide (x=95)):=rfl
theorem Me(p:Nat)(x:Except Int AG):∃ k t i r q z e,ED p x=.tup [.agg [.v (.int .i64 k),.v (.string t),.v (.int .i64 i),.v (.float .f64 r),.v (.int .i64 q),.v (.int .i64 z)],.v (.int .i64 e)]:=by
 cases x with
 |ok t=>exact⟨_,_,_,_,_,_,_,rfl⟩
 |error e=>exact⟨_,_,_,_,_,_,_,rfl⟩
theorem Qh(q:Nat→Bool)(l:List UInt8)(p i:Nat):AI q (l.drop p) i+p=AI q l (p+i):=by
 unfold AI;rw[BT]
 omega
theorem Xj(s:List UInt8)(h1:1≤s.length):C6 s=if 2≤s.length∧DT.contains (s.take 2)=true then 2 else if DT.contains (s.take 1)=true then 1 else 0:=by
 match s,h1 with
 |[a],_=>
  have e0:(Ar [a] 0).toUInt8=a:=by simp[Ar]
  have hR:(if 2≤[a].length∧DT.contains ([a].take 2)=true then 2 else if DT.contains ([a].take 1)=true then 1 else 0)=if DT.contains [a]=true then 1 else 0:=by rw[if_neg (by simp)];rfl
  rw[hR];unfold C6;rw[if_neg (by simp),e0,iU a]
  by_cases h:0≤Lib.indexByte Uw a
  ·rw[if_pos h,if_pos (decide_eq_true h)]
  ·rw[if_neg h,if_neg (by rw[decide_eq_true_eq];exact h)]
 |a::b::t,_=>
  have e0:(Ar (a::b::t) 0).toUInt8=a:=by simp[Ar]
  have n0:Ar (a::b::t) 0=a.toNat:=rfl;have n1:Ar (a::b::t) 1=b.toNat:=rfl;have ht:(a::b::t).take 2=[a,b]:=rfl;have ht1:(a::b::t).take 1=[a]:=rfl;unfold C6;rw[ht,ht1,e0,n0,n1,iU a]
  have hne:∀ x:UInt8,x.toNat≠32↔x≠32:=fun x=>by
   constructor
   ·intro h e;exact h (by rw[e];rfl)
   ·intro h e;exact h (UInt8.toNat_inj.1 (by rw[e];rfl))
  have hiff:(1<(a::b::t).length∧a.toNat≠32∧b.toNat≠32∧Hq Q4 [a,b]=true)↔(2≤(a::b::t).length∧DT.contains [a,b]=true):=by
   rw[hne,hne]
   constructor
   ·rintro⟨q1,q2,q3,q4⟩;exact⟨q1,by rw[iW a b q2 q3];exact q4⟩
   ·rintro⟨q1,q2⟩
    by_cases h:a=32∨b=32
    ·rw[jX a b h]at q2;cases q2
    ·have h':a≠32∧b≠32:=⟨fun e=>h (.inl e),fun e=>h (.inr e)⟩;exact⟨q1,h'.1,h'.2,by rw[←iW a b h'.1 h'.2];exact q2⟩
  by_cases hc:2≤(a::b::t).length∧DT.contains [a,b]=true
  ·rw[if_pos hc,if_pos (hiff.2 hc)]
  ·rw[if_neg hc,if_neg (fun q=>hc (hiff.1 q))]
   by_cases h:0≤Lib.indexByte Uw a
   ·rw[if_pos h,if_pos (decide_eq_true h)]
   ·rw[if_neg h,if_neg (by rw[decide_eq_true_eq];exact h)]
set_option maxRecDepth 20000 in
theorem H5(b:Bool)(l:List UInt8)(p:Nat)(hp:p<l.length)(hl:l.length≤140737488351232):
  Ev Tp γ 86 [.sl b l.length l.length (l.map Am),.v (.int .i64 p)] (ED p (headD (l.drop p))):=by
 refine Ev.of Tryz.func86 rfl ?_;have ea:∀ j,(l.getD j 0).toNat=Ar l j:=fun _=>rfl
 have hmd:List.drop p (List.map Am l)=List.map Am (List.drop p l):=List.map_drop.symm
 have k95:∀ x:Nat,((x:Int)==95)=decide (x=95):=fun x=>by
  by_cases h:x=95
  ·simp[h]
  ·rw[decide_eq_false h];simp;omega
 have ha0:Ar (l.drop p) 0=Ar l p:=by rw[B8];rfl
 have hh:headD (l.drop p)=if Eh (Ar l p)=true then (if 32<AI Ca (l.drop p) 1 then .error 13 else .ok ⟨1,(l.drop p).take (AI Ca (l.drop p) 1),0,0,AI Ca (l.drop p) 1⟩)
   else if A5 (Ar l p)=true then C2 (l.drop p)
   else if Ar l p=34 then Gz (l.drop p)
   else if C6 (l.drop p)=0 then .error 10 else .ok ⟨5,(l.drop p).take (C6 (l.drop p)),0,0,C6 (l.drop p)⟩:=by rw[headD,ha0]
 simp only[Tryz.f86,ea,Ad,An,Nat.reduceAdd,Nat.reduceSub,Nat.reduceLT,Nat.reduceEqDiff,reduceCtorEq]
 (repeat' (first|(with_reducible refine aI ?_ ?_)|(first|(first|refine gF ?_ ?_|refine gT ?_ ?_|refine cI ?_ ?_|refine pI ?_ ?_)<;>intro h|(refine dI ?_;have h:=trivial))<;>simp only[h,ea,Ad,An,Bv,Bf,Nat.reduceAdd,Nat.reduceSub,Nat.reduceMul,Nat.reduceLT,Nat.reduceLeDiff,Nat.reduceEqDiff,reduceCtorEq,List.reduceReplicate,Int.reduceToNat,Int.reduceLE,Int.reduceLT]))
 all_goals try (((try simp only[decide_eq_true_eq,decide_eq_false_iff_not,beq_iff_eq,bne_iff_ne,ne_eq,beq_eq_false_iff_ne,bne_eq_false_iff_eq]at *)<;>(try omega));done)
 refine Ag.intro pN rfl (GH _) ?_;simp only[Ad,Nat.reduceLT,Nat.reduceEqDiff,reduceCtorEq];cases hlet:Eh (Ar l p)with
 |true=>
  rw[if_pos hlet]at hh;have hsp:=Qh Ca l p 1;obtain⟨N,hN⟩:∃ N,N=AI Ca (l.drop p) 1:=⟨_,rfl⟩;have hNle:=I4 (p:=Ca) (l:=l) (i:=p+1) (by omega);rw[←hN]at hh hsp;simp only[Ad,Nat.reduceLT];refine Ea.intro (fun j:Nat=>⟨⟨122,[(0,.sl b l.length l.length (l.map Am)),(1,.v (.int .i64 p)),(4,.ptr 0 0 0),(6,.v (.int .i64 j))],γ⟩,[⟨0,54,AW⟩]⟩) (fun j=>1≤j∧p+j≤l.length∧AI Ca l (p+j)=p+N) (fun j=>l.length-j) 1 ?_ ⟨by omega,by omega,by omega⟩ (fun j hj=>?_)
  ·simp only[AW,Ad,Nat.reduceEqDiff,reduceCtorEq]
   (repeat' (first|(with_reducible refine aI ?_ ?_)|(first|(first|refine gF ?_ ?_|refine gT ?_ ?_|refine cI ?_ ?_|refine pI ?_ ?_)<;>intro h|(refine dI ?_;have h:=trivial))<;>simp only[h,Ad,An,Bv,Bf,Nat.reduceAdd,Nat.reduceSub,Nat.reduceMul,Nat.reduceLT,Nat.reduceLeDiff,Nat.reduceEqDiff,reduceCtorEq,List.reduceReplicate,Int.reduceToNat,Int.reduceLE,Int.reduceLT]))
   all_goals first|rfl|exact .inl rfl
  ·obtain⟨hj1,hj2,hj3⟩:=hj;have w1:IntKind.i64.wrap ((p:Int)+(j:Int))=((p+j:Nat):Int):=(A4 (by omega) (by omega)).trans (by omega);have ej:IntKind.i64.wrap ((j:Int)+1)=((j+1:Nat):Int):=A4 (by omega) (by omega);have esub:p+j-p=j:=by omega
   have hdl:(List.drop p l).length=l.length-p:=Bd;have hstop:∀ (hs:p+j<l.length→Ca (l.getD (p+j) 0).toNat=false),j=N:=fun hs=>by have:=GD (p:=Ca) hs;omega
   have hgo:∀ (h1:p+j<l.length) (h2:Ca (Ar l (p+j))=true),AI Ca l (p+(j+1))=p+N:=fun h1 h2=>by rw[←Nat.add_assoc,←Iy h1 h2];exact hj3
   simp only[w1,AW,Ad,An,Nat.reduceLT,Nat.reduceEqDiff,reduceCtorEq]
   (repeat' (first|(with_reducible refine aI ?_ ?_)|(first|(first|refine gF ?_ ?_|refine gT ?_ ?_|refine cI ?_ ?_|refine pI ?_ ?_)<;>intro h|(refine dI ?_;have h:=trivial))<;>simp only[h,w1,ea,hmd,esub,Ad,An,Nat.reduceAdd,Nat.reduceLT,Nat.reduceLeDiff,Nat.reduceEqDiff,reduceCtorEq,k95,Bv,Bf,Nat.reduceSub,Nat.reduceMul,List.reduceReplicate,Int.reduceToNat,Int.reduceLE,Int.reduceLT]))
   all_goals try (((try simp only[decide_eq_true_eq,decide_eq_false_iff_not]at *)<;>(try omega));done)
   all_goals try (refine Ag.intro pN rfl (GH _) ?_;simp only[Ad,Nat.reduceLT,Nat.reduceEqDiff,reduceCtorEq];(repeat' (first|(with_reducible refine aI ?_ ?_)|(first|(first|refine gF ?_ ?_|refine gT ?_ ?_|refine cI ?_ ?_|refine pI ?_ ?_)<;>intro h|(refine dI ?_;have h:=trivial))<;>simp only[h,w1,ea,Ad,An,Nat.reduceLT,Nat.reduceEqDiff,reduceCtorEq,k95,hmd,esub,Bv,Bf,Nat.reduceAdd,Nat.reduceSub,Nat.reduceMul,Nat.reduceLeDiff,List.reduceReplicate,Int.reduceToNat,Int.reduceLE,Int.reduceLT])))
   all_goals try (((try simp only[decide_eq_true_eq,decide_eq_false_iff_not]at *)<;>(try omega));done)
   all_goals try (refine Ag.intro mC rfl (ET _) ?_;simp only[Ad,Nat.reduceLT,Nat.reduceEqDiff,reduceCtorEq];(repeat' (first|(with_reducible refine aI ?_ ?_)|(first|(first|refine gF ?_ ?_|refine gT ?_ ?_|refine cI ?_ ?_|refine pI ?_ ?_)<;>intro h|(refine dI ?_;have h:=trivial))<;>simp only[h,w1,ea,k95,hmd,esub,Ad,An,Nat.reduceAdd,Nat.reduceLT,Nat.reduceLeDiff,Nat.reduceEqDiff,reduceCtorEq,Bv,Bf,Nat.reduceSub,Nat.reduceMul,List.reduceReplicate,Int.reduceToNat,Int.reduceLE,Int.reduceLT])))
   all_goals try (((try simp only[decide_eq_true_eq,decide_eq_false_iff_not]at *)<;>(try omega));done)
   all_goals first
    |(refine Cg.intro (j+1) ⟨by omega,by (try simp only[decide_eq_true_eq]at *);omega,hgo (by (try simp only[decide_eq_true_eq]at *);omega) (by rw[P2];simp_all)⟩ ?_ (by (try simp only[decide_eq_true_eq,decide_eq_false_iff_not]at *);omega)
      simp only[ej,Ad,Nat.reduceEqDiff,reduceCtorEq]
      (repeat' (first|(with_reducible refine aI ?_ ?_)|(first|(first|refine gF ?_ ?_|refine gT ?_ ?_|refine cI ?_ ?_|refine pI ?_ ?_)<;>intro h|(refine dI ?_;have h:=trivial))<;>simp only[h,Ad,An,Bv,Bf,Nat.reduceAdd,Nat.reduceSub,Nat.reduceMul,Nat.reduceLT,Nat.reduceLeDiff,Nat.reduceEqDiff,reduceCtorEq,List.reduceReplicate,Int.reduceToNat,Int.reduceLE,Int.reduceLT]))
      all_goals first|rfl|exact .inl rfl)
    |(have hjN:j=N:=hstop (fun hlt=>by
       show Ca (Ar l (p+j))=false
       rw[P2];simp_all)
      subst hjN
      (try simp only[decide_eq_true_eq,decide_eq_false_iff_not]at *)
      first
       |(rw[hh,if_pos (by omega)];simp only[ED,B6,AM,f0,Ad];first|done|rfl)
       |(rw[hh,if_neg (by omega)];simp only[ED,Dh,AG.av,AM,Ad];first|done|rfl)
       |(refine And.intro (by omega) (And.intro (by omega) ?_);rw[hh,if_neg (by omega)];simp only[ED,Dh,AG.av,AM,Ad,An,Bv,Bf,Nat.reduceAdd,Nat.reduceSub,Nat.reduceMul,Nat.reduceLT,Nat.reduceLeDiff,Nat.reduceEqDiff,reduceCtorEq,List.reduceReplicate,Int.reduceToNat,Int.reduceLE,Int.reduceLT];first|done|rfl)
       |(refine And.intro (by omega) ?_;rw[hh,if_neg (by omega)];simp only[ED,Dh,AG.av,AM,Ad,An,Bv,Bf,Nat.reduceAdd,Nat.reduceSub,Nat.reduceMul,Nat.reduceLT,Nat.reduceLeDiff,Nat.reduceEqDiff,reduceCtorEq,List.reduceReplicate,Int.reduceToNat,Int.reduceLE,Int.reduceLT];first|done|rfl)
       |omega
       |trace_state)
    |trace_state
 |false=>
  rw[if_neg (by rw[hlet];decide)]at hh;simp only[ea,Ad,An,Nat.reduceLT,Nat.reduceEqDiff,reduceCtorEq]
  (repeat' (first|(with_reducible refine aI ?_ ?_)|(first|(first|refine gF ?_ ?_|refine gT ?_ ?_|refine cI ?_ ?_|refine pI ?_ ?_)<;>intro h|(refine dI ?_;have h:=trivial))<;>simp only[h,ea,Ad,An,Bv,Bf,Nat.reduceAdd,Nat.reduceSub,Nat.reduceMul,Nat.reduceLT,Nat.reduceLeDiff,Nat.reduceEqDiff,reduceCtorEq,List.reduceReplicate,Int.reduceToNat,Int.reduceLE,Int.reduceLT]))
  all_goals try (((try simp only[decide_eq_true_eq,decide_eq_false_iff_not,beq_iff_eq,bne_iff_ne,ne_eq,beq_eq_false_iff_ne,bne_eq_false_iff_eq]at *)<;>(try omega));done)
  refine Ag.intro mC rfl (ET _) ?_;cases hdig:A5 (Ar l p)with
  |true=>
   rw[if_pos hdig]at hh;have hr:=Ra (γ:=γ) b l p hdig hl;rw[hh];obtain⟨k1,k2,k3,k4,k5,k6,k7,hsh⟩:=Me p (C2 (l.drop p));rw[hsh]at hr⊢;simp only[Ad,Nat.reduceLT,Nat.reduceEqDiff,reduceCtorEq];refine Ag.intro b42 (by simp[A0,A6]) hr ?_;simp only[Ad,An,Nat.reduceAdd,Nat.reduceLT,Nat.reduceLeDiff,Nat.reduceEqDiff,reduceCtorEq]
  |false=>
   rw[if_neg (by rw[hdig];decide)]at hh
   have k34:((Ar l p:Int)==34)=decide (Ar l p=34):=by
    by_cases h:Ar l p=34
    ·simp[h]
    ·rw[decide_eq_false h];simp;omega
   simp only[ea,k34,Ad,An,Nat.reduceLT,Nat.reduceEqDiff,reduceCtorEq]
   (repeat' (first|(with_reducible refine aI ?_ ?_)|(first|(first|refine gF ?_ ?_|refine gT ?_ ?_|refine cI ?_ ?_|refine pI ?_ ?_)<;>intro h|(refine dI ?_;have h:=trivial))<;>simp only[h,Ad,Nat.reduceLT,Nat.reduceEqDiff,reduceCtorEq,ea,k34,An,Bv,Bf,Nat.reduceAdd,Nat.reduceSub,Nat.reduceMul,Nat.reduceLeDiff,List.reduceReplicate,Int.reduceToNat,Int.reduceLE,Int.reduceLT]))
   all_goals try (((try simp only[decide_eq_true_eq,decide_eq_false_iff_not]at *)<;>(try omega));done)
   ·rw[if_pos (of_decide_eq_true h)]at hh;have hr:=TR (γ:=γ) b l p (by omega) hp;rw[US l p hp]at hr;rw[hh];obtain⟨k1,k2,k3,k4,k5,k6,k7,hsh⟩:=Me p (Gz (l.drop p));rw[hsh]at hr⊢;refine Ag.intro b43 (by simp[A0,A6]) hr ?_;simp only[Ad,An,Nat.reduceAdd,Nat.reduceLT,Nat.reduceLeDiff,Nat.reduceEqDiff,reduceCtorEq]
   ·rw[if_neg (of_decide_eq_false h)]at hh;have hdl:(List.drop p l).length=l.length-p:=Bd;have hmr:=Xj (l.drop p) (by omega);refine Ea.intro (fun j:Nat=>⟨⟨122,[(0,.sl b l.length l.length (l.map Am)),(1,.v (.int .i64 p)),(4,.ptr 0 0 0),(11,.v (.int .i64 ((2-j:Nat):Int)))],γ⟩,[⟨0,54,AW⟩]⟩) (fun j=>j≤2∧(1≤j→¬(2≤(l.drop p).length∧DT.contains ((l.drop p).take 2)=true))∧(2≤j→¬(DT.contains ((l.drop p).take 1)=true))) (fun j=>2-j) 0 ?_ ⟨by omega,by omega,by omega⟩ (fun j hj=>?_)
    ·simp only[AW,Ad,Nat.reduceEqDiff,reduceCtorEq]
     (repeat' (first|(with_reducible refine aI ?_ ?_)|(first|(first|refine gF ?_ ?_|refine gT ?_ ?_|refine cI ?_ ?_|refine pI ?_ ?_)<;>intro h|(refine dI ?_;have h:=trivial))<;>simp only[h,Ad,An,Bv,Bf,Nat.reduceAdd,Nat.reduceSub,Nat.reduceMul,Nat.reduceLT,Nat.reduceLeDiff,Nat.reduceEqDiff,reduceCtorEq,List.reduceReplicate,Int.reduceToNat,Int.reduceLE,Int.reduceLT]))
     all_goals first|rfl|exact .inl rfl
    ·obtain⟨hj1,hj2,hj3⟩:=hj
     match j,hj1 with
     |0,_=>
      have w1:IntKind.i64.wrap ((p:Int)+((2-0:Nat):Int))=((p+2:Nat):Int):=(A4 (by omega) (by omega)).trans (by omega);have c1:decide ((1:Int)≤((2-0:Nat):Int))=true:=by decide
      have d1:decide (((p+2:Nat):Int)≤(l.length:Int))=decide (p+2≤l.length):=by
       by_cases h:p+2≤l.length
       ·rw[decide_eq_true h,decide_eq_true];omega
       ·rw[decide_eq_false h,decide_eq_false];omega
      have ws:IntKind.i64.wrap (((2-0:Nat):Int)-1)=((2-1:Nat):Int):=by decide
      simp only[w1,AW,c1,d1,Ad,An,Nat.reduceLT,Nat.reduceEqDiff,reduceCtorEq]
      (repeat' (first|(with_reducible refine aI ?_ ?_)|(first|(first|refine gF ?_ ?_|refine gT ?_ ?_|refine cI ?_ ?_|refine pI ?_ ?_)<;>intro h|(refine dI ?_;have h:=trivial))<;>simp only[h,w1,hmd,Ad,An,Nat.reduceLT,Nat.reduceEqDiff,reduceCtorEq,ea,Bv,Bf,Nat.reduceAdd,Nat.reduceSub,Nat.reduceMul,Nat.reduceLeDiff,List.reduceReplicate,Int.reduceToNat,Int.reduceLE,Int.reduceLT]))
      all_goals try (((try simp only[decide_eq_true_eq,decide_eq_false_iff_not]at *)<;>(try omega));done)
      ·have hle:p+2≤l.length:=of_decide_eq_true (by assumption)
       (repeat' (with_reducible refine aI ?_ ?_))
       all_goals try omega
       refine Ag.intro b44 rfl (KQ _) ?_;have etk:p+2-p=2:=by omega
       rw[etk];cases hmk:DT.contains (List.take 2 (List.drop p l))with
       |true=>
        have hM:C6 (l.drop p)=2:=by rw[hmr];rw[if_pos ⟨by omega,hmk⟩]
        rw[hM,if_neg (by decide)]at hh;simp only[w1,hmd,etk,Ad,An,Nat.reduceAdd,Nat.reduceLT,Nat.reduceLeDiff,Nat.reduceEqDiff,reduceCtorEq]
        (repeat' (first|(with_reducible refine aI ?_ ?_)|(first|(first|refine gF ?_ ?_|refine gT ?_ ?_|refine cI ?_ ?_|refine pI ?_ ?_)<;>intro h|(refine dI ?_;have h:=trivial))<;>simp only[h,w1,ea,hmd,etk,Ad,An,Bv,Bf,Nat.reduceAdd,Nat.reduceSub,Nat.reduceMul,Nat.reduceLT,Nat.reduceLeDiff,Nat.reduceEqDiff,reduceCtorEq,List.reduceReplicate,Int.reduceToNat,Int.reduceLE,Int.reduceLT]))
        all_goals try omega
        rw[hh];simp only[ED,Dh,AG.av,AM,Ad]
        all_goals first|done|rfl|trace_state
       |false=>
        simp only[Ad,Nat.reduceLT,Nat.reduceEqDiff,reduceCtorEq];refine Cg.intro 1 ⟨by omega,?_,?_⟩ ?_ (by omega)
        ·intro _;first|(rintro⟨_,q⟩;cases q;done)|(rintro⟨_,q⟩;simp_all;done)|simp_all
        ·intro _;omega
        ·simp only[ws,Ad,Nat.reduceSub,Nat.reduceEqDiff,reduceCtorEq]
         (repeat' (first|(with_reducible refine aI ?_ ?_)|(first|(first|refine gF ?_ ?_|refine gT ?_ ?_|refine cI ?_ ?_|refine pI ?_ ?_)<;>intro h|(refine dI ?_;have h:=trivial))<;>simp only[h,Ad,An,Bv,Bf,Nat.reduceAdd,Nat.reduceSub,Nat.reduceMul,Nat.reduceLT,Nat.reduceLeDiff,Nat.reduceEqDiff,reduceCtorEq,List.reduceReplicate,Int.reduceToNat,Int.reduceLE,Int.reduceLT]))
         all_goals first|rfl|exact .inl rfl|trace_state
      ·have hgt:¬p+2≤l.length:=of_decide_eq_false (by assumption);refine Cg.intro 1 ⟨by omega,fun _=>by rintro⟨q,_⟩;omega,by omega⟩ ?_ (by omega);simp only[ws,Ad,Nat.reduceSub,Nat.reduceEqDiff,reduceCtorEq]
       (repeat' (first|(with_reducible refine aI ?_ ?_)|(first|(first|refine gF ?_ ?_|refine gT ?_ ?_|refine cI ?_ ?_|refine pI ?_ ?_)<;>intro h|(refine dI ?_;have h:=trivial))<;>simp only[h,Ad,An,Bv,Bf,Nat.reduceAdd,Nat.reduceSub,Nat.reduceMul,Nat.reduceLT,Nat.reduceLeDiff,Nat.reduceEqDiff,reduceCtorEq,List.reduceReplicate,Int.reduceToNat,Int.reduceLE,Int.reduceLT]))
       all_goals first|rfl|exact .inl rfl|trace_state
     |1,_=>
      have w1:IntKind.i64.wrap ((p:Int)+((2-1:Nat):Int))=((p+1:Nat):Int):=(A4 (by omega) (by omega)).trans (by omega);have c1:decide ((1:Int)≤((2-1:Nat):Int))=true:=by decide
      have d1:decide (((p+1:Nat):Int)≤(l.length:Int))=decide (p+1≤l.length):=by
       by_cases h:p+1≤l.length
       ·rw[decide_eq_true h,decide_eq_true];omega
       ·rw[decide_eq_false h,decide_eq_false];omega
      have ws:IntKind.i64.wrap (((2-1:Nat):Int)-1)=((2-2:Nat):Int):=by decide
      simp only[w1,AW,c1,d1,Ad,An,Nat.reduceSub,Nat.reduceLT,Nat.reduceEqDiff,reduceCtorEq]
      (repeat' (first|(with_reducible refine aI ?_ ?_)|(first|(first|refine gF ?_ ?_|refine gT ?_ ?_|refine cI ?_ ?_|refine pI ?_ ?_)<;>intro h|(refine dI ?_;have h:=trivial))<;>simp only[h,w1,hmd,Ad,An,Nat.reduceLT,Nat.reduceEqDiff,reduceCtorEq,ea,Bv,Bf,Nat.reduceAdd,Nat.reduceSub,Nat.reduceMul,Nat.reduceLeDiff,List.reduceReplicate,Int.reduceToNat,Int.reduceLE,Int.reduceLT]))
      all_goals try (((try simp only[decide_eq_true_eq,decide_eq_false_iff_not]at *)<;>(try omega));done)
      ·have hle:p+1≤l.length:=of_decide_eq_true (by assumption)
       (repeat' (with_reducible refine aI ?_ ?_))
       all_goals try omega
       refine Ag.intro b44 rfl (KQ _) ?_;have etk:p+1-p=1:=by omega
       rw[etk];cases hmk:DT.contains (List.take 1 (List.drop p l))with
       |true=>
        have hM:C6 (l.drop p)=1:=by rw[hmr];rw[if_neg (hj2 (by omega)),if_pos hmk]
        rw[hM,if_neg (by decide)]at hh;simp only[w1,hmd,etk,Ad,An,Nat.reduceAdd,Nat.reduceLT,Nat.reduceLeDiff,Nat.reduceEqDiff,reduceCtorEq]
        (repeat' (first|(with_reducible refine aI ?_ ?_)|(first|(first|refine gF ?_ ?_|refine gT ?_ ?_|refine cI ?_ ?_|refine pI ?_ ?_)<;>intro h|(refine dI ?_;have h:=trivial))<;>simp only[h,w1,ea,hmd,etk,Ad,An,Bv,Bf,Nat.reduceAdd,Nat.reduceSub,Nat.reduceMul,Nat.reduceLT,Nat.reduceLeDiff,Nat.reduceEqDiff,reduceCtorEq,List.reduceReplicate,Int.reduceToNat,Int.reduceLE,Int.reduceLT]))
        all_goals try omega
        rw[hh];simp only[ED,Dh,AG.av,AM,Ad]
        all_goals first|done|rfl|trace_state
       |false=>
        simp only[Ad,Nat.reduceLT,Nat.reduceEqDiff,reduceCtorEq];refine Cg.intro 2 ⟨by omega,?_,?_⟩ ?_ (by omega)
        ·intro _;exact hj2 (by omega)
        ·intro _;first|decide|(rw[hmk];decide)|simp_all
        ·simp only[ws,Ad,Nat.reduceSub,Nat.reduceEqDiff,reduceCtorEq]
         (repeat' (first|(with_reducible refine aI ?_ ?_)|(first|(first|refine gF ?_ ?_|refine gT ?_ ?_|refine cI ?_ ?_|refine pI ?_ ?_)<;>intro h|(refine dI ?_;have h:=trivial))<;>simp only[h,Ad,An,Bv,Bf,Nat.reduceAdd,Nat.reduceSub,Nat.reduceMul,Nat.reduceLT,Nat.reduceLeDiff,Nat.reduceEqDiff,reduceCtorEq,List.reduceReplicate,Int.reduceToNat,Int.reduceLE,Int.reduceLT]))
         all_goals first|rfl|exact .inl rfl|trace_state
     |2,_=>
      have c1:decide ((1:Int)≤((2-2:Nat):Int))=false:=by decide
      have hM:C6 (l.drop p)=0:=by rw[hmr,if_neg (hj2 (by omega)),if_neg (hj3 (by omega))]
      rw[hM,if_pos rfl]at hh;rw[hh];simp only[AW,c1,ED,B6,AM,f0,Ad,An,Nat.reduceAdd,Nat.reduceSub,Nat.reduceLT,Nat.reduceLeDiff,Nat.reduceEqDiff,reduceCtorEq]
open Go Go.Ev Go.RowKit
def TI(γ:List (Nat×AV)):Prop:=∀ k,Go.Ev.look γ k=.bad∨∃ x:Value,Go.Ev.look γ k=AV.ela false [.v x]
def dC(γ:List (Nat×AV))(W:World):Prop:=∀ k x,Go.Ev.look γ k=AV.ela false [.v x]→k<W.heap.size∧W.cell? ⟨k,0,none⟩=some x
theorem QU(hγ:TI γ){W:World}(h:dC γ W){c:Cx}(hw:c.w=W)(hok:∀ r,r<W.heap.size→c.ok false r)(k:Nat):A6 (Go.Ev.look γ k)=true∧rel (Go.Ev.look γ k) c (.pointer (some ⟨k,0,none⟩)):=by
 rcases hγ k with e|⟨x,e⟩
 ·rw[e];exact⟨rfl,by simp only[rel]⟩
 ·obtain⟨h1,h2⟩:=h k x e;rw[e];refine⟨by simp[A6],?_⟩;simp only[rel,B5];exact⟨k,0,rfl,hok k h1,⟨x,by show c.w.cell? _=_;rw[hw];exact h2,rfl⟩,trivial⟩
theorem XI{c:Cx}{W:World}(hw:c.w=W)(hlt:∀ r,c.ok false r→r<W.heap.size)(h:∀ k,rel (Go.Ev.look γ k) c (.pointer (some ⟨k,0,none⟩))):dC γ W:=by
 intro k x e;have:=h k;rw[e]at this;simp only[rel,B5,Cx.shut]at this;obtain⟨r,off,e1,h2,⟨u,h3,rfl⟩,_⟩:=this;cases e1;exact⟨hlt _ h2,by rw[←hw];exact h3⟩
theorem Mf{c c':Cx}(hw:c'.w=c.w){r:Nat}:∀ (l:List UInt8) (off:Nat),B5 (l.map Am) c r off→B5 (l.map Am) c' r off
 |[],_,_=>trivial
 |x::l,off,h=>by
  simp only[BA,B5]at h⊢;refine⟨?_,Mf hw l (off+1) h.2⟩;obtain⟨u,h1,h2⟩:=h.1;exact⟨u,by rw[hw];exact h1,by simpa[Am,rel]using h2⟩
theorem PR{c c':Cx}(hw:c'.w=c.w){b b':Bool}{l:List UInt8}{n m:Nat}{u:Value}(hok:∀ r,c.ok b r→c'.ok b' r)(h:rel (.sl b n m (l.map Am)) c u):rel (.sl b' n m (l.map Am)) c' u:=by
 simp only[rel]at h⊢;obtain⟨r,off,cap,e,h1,h2,h3,h4⟩:=h;exact⟨r,off,cap,e,h1,h2,hok r h3,Mf (by exact hw) l off h4⟩
def kZ(P:Program)(W:World):Cx:=Lu P (fun _=>False) (fun _=>True) W
def Lg(γ:List (Nat×AV))(l:List UInt8)(Nb:Nat)(W:World):Prop:=
 (∃ u fr,W.heap[Nb]?=some (.cells #[u] 37 fr)∧rel (.sl false l.length l.length (l.map Am)) (kZ Tp W) u)∧dC γ W
def Ah(l:List UInt8):List ((AG×Nat)×Int):=if 32768<l.length then [((zeroT,0),3)]else C0 (l.length+1) l 0
def D2(L:List ((AG×Nat)×Int))(k:Nat):(AG×Nat)×Int:=L.getD k ((zeroT,0),0)
def Pk(x:(AG×Nat)×Int):Value×Value:=(Rt x.1.1 x.1.2,.int .i64 x.2)
def Fv(l:List UInt8):AV:=.ela true [.sl false l.length l.length (l.map Am)]
def E7(P:Program)(W:World)(Nb:Nat)(h:Nb<W.heap.size):Fix:=K0 P W (fun r=>r=Nb) (fun r e=>e▸h)
theorem DA{l:List UInt8}{Nb:Nat}{W:World}(h:Lg γ l Nb W):Nb<W.heap.size:=by
 obtain⟨⟨u,fr,h1,_⟩,_⟩:=h;exact (BP.1 h1).1
theorem Ro{l:List UInt8}{Nb:Nat}{W:World}(h:Lg γ l Nb W):rel (Fv l) (cx (E7 Tp W Nb (DA h)) [] [] W) (.pointer (some ⟨Nb,0,none⟩)):=by
 have hlt:=DA h;obtain⟨⟨u,fr,h1,h2⟩,_⟩:=h;unfold Fv;rw[rel];refine⟨Nb,0,rfl,⟨hlt,by simp,?_⟩,?_⟩
 ·show Nb=Nb;rfl
 ·simp only[B5];refine⟨⟨u,?_,?_⟩,trivial⟩
  ·show W.cell? _=_
   unfold World.cell?;simp only[h1];rfl
  ·exact PR (c:=kZ Tp W) (c':=Cx.shut (cx (E7 Tp W Nb hlt) [] [] W)) (b:=false) (b':=false) rfl (fun r hr=>⟨hr.1,by simp,by show ¬False;exact fun h=>h⟩) h2
theorem Q0{l:List UInt8}{Nb:Nat}{W W1:World}{hlt:Nb<W.heap.size}{φ:List Nat}{h:List Aa}{u:Value}(hr:rel (Fv l) (cx (E7 Tp W Nb hlt) φ h W1) u)(hc:∃ v fr,W1.heap[Nb]?=some (.cells #[v] 37 fr)):u=.pointer (some ⟨Nb,0,none⟩):=by
 unfold Fv at hr;simp only[rel,B5]at hr;obtain⟨r,off,e,⟨_,_,hB⟩,⟨x,h2,_⟩,_⟩:=hr;have hr':r=Nb:=hB;subst hr';obtain⟨v,fr,hh⟩:=hc
 have:off=0:=by
  simp only[Cx.shut,cx,World.cell?,hh]at h2;have h3:(if false=true then none else (#[v]:Array Value)[off]?)=some x:=h2;have h4:=(BP.1 (show (#[v]:Array Value)[off]?=some x from h3)).1;simp at h4
  omega
 rw[e,this]
end Go.Proofs.YtlobiioioicmhaaGreatDoor
