/- A part of the proof. -/
import Derived.Test.YtlobiioioicmhaaGreatDoorAQ4
set_option linter.all false
set_option maxHeartbeats 8000000
namespace Go.Proofs.YtlobiioioicmhaaGreatDoor
open _root_.Array renaming getElem?_eq_some_iff→BP
open _root_.Bool renaming not_true→Bv,not_false→Bf
open _root_.List renaming length_drop→Bd,length_take→Bh,map_cons→BA,mem_cons→BI,drop_drop→BT
open Go.Proofs.Tryz renaming prog→Tp
open Go Go.Ev
theorem VM(l:List UInt8)(p i:Nat)(hi:p+i<l.length)(h:Aq l (p+i)=92):AK l (p+i)=Dt ((l.drop p).drop i):=by
 have e:∀ j,Aq ((l.drop p).drop i) j=Aq l (p+i+j):=fun j=>by rw[B2,B2];congr 1;omega
 have hlen:((l.drop p).drop i).length=l.length-p-i:=by rw[Bd,Bd]
 have h2:=fun j=>Kg (l:=l) (i:=j)
 unfold AK Dt;rw[e,e,e,hlen,if_neg (by omega),if_neg (by omega)]
 by_cases h1:l.length<p+i+2
 ·rw[if_pos h1];have:=h2 (p+i+1) (by omega);rw[this,if_neg (by omega),if_neg (by omega)]
 ·rw[if_neg h1]
  by_cases h34:Aq l (p+i+1)=34
  ·rw[if_pos h34,if_pos (.inl h34),h34]
  ·rw[if_neg h34]
   by_cases h92:Aq l (p+i+1)=92
   ·rw[if_pos h92,if_pos (.inr h92),h92]
   ·rw[if_neg h92,if_neg (show ¬(Aq l (p+i+1)=34∨Aq l (p+i+1)=92)by omega)]
    by_cases hx:Aq l (p+i+1)=120∧p+i+4≤l.length∧0≤DC (Aq l (p+i+2))∧0≤DC (Aq l (p+i+3))∧(Jt (Aq l (p+i+2)) (Aq l (p+i+3))<32∨126<Jt (Aq l (p+i+2)) (Aq l (p+i+3)))
    ·rw[if_pos hx,if_pos ⟨hx.1,by omega,hx.2.2⟩]
    ·rw[if_neg hx,if_neg (fun q=>hx ⟨q.1,by omega,q.2.2⟩)]
def HU(l:List UInt8)(p:Nat)(q:List UInt8×Nat):Option (List UInt8×Nat):=
 if l.length≤q.2∨Aq l q.2≠34∨256<q.1.length then none else some (q.1,q.2+1-p)
theorem KP(l:List UInt8)(p:Nat):∀ (k k' i:Nat) (d:List UInt8),l.length≤k+(p+i)→l.length≤k'+(p+i)→Em k' (l.drop p) i d=HU l p (DQ k l (p+i) d)
 |0,k',i,d,h1,h2=>by
  have e:Em k' (l.drop p) i d=none:=by
   cases k' with
   |zero=>rfl
   |succ k'=>rw[Em,if_pos (by rw[Bd];omega)]
  rw[e,DQ,HU,if_pos (.inl (by show l.length≤p+i;omega))]
 |k+1,k',i,d,h1,h2=>by
  by_cases hi:l.length≤p+i
  ·have e:Em k' (l.drop p) i d=none:=by
    cases k' with
    |zero=>rfl
    |succ k'=>rw[Em,if_pos (by rw[Bd];omega)]
   have hp:AK l (p+i)=(0,0):=by unfold AK;rw[if_pos (.inl hi)]
   rw[e,DQ,hp,if_pos rfl,HU,if_pos (.inl hi)]
  ·cases k' with
   |zero=>omega
   |succ k'=>
    have ea:Aq (l.drop p) i=Aq l (p+i):=B2 l p i;rw[Em,ea,if_neg (by rw[Bd];omega)]
    by_cases h34:Aq l (p+i)=34
    ·have hp:AK l (p+i)=(0,0):=by unfold AK;rw[if_pos (by omega)]
     rw[DQ,hp,if_pos rfl,HU]
     by_cases hd:d.length≤256
     ·rw[if_pos ⟨h34,hd⟩,if_neg (by show ¬(l.length≤p+i∨Aq l (p+i)≠34∨256<d.length);omega)];show some (d,i+1)=some (d,p+i+1-p)
      congr 2;omega
     ·rw[if_neg (by omega),if_neg (by omega),if_pos (.inl h34),if_pos (by show l.length≤p+i∨Aq l (p+i)≠34∨256<d.length;omega)]
    ·rw[if_neg (by omega)]
     by_cases h92:Aq l (p+i)=92
     ·rw[if_pos h92,DQ,VM l p i (by omega) h92]
      by_cases h0:(Dt ((l.drop p).drop i)).2=0
      ·rw[if_pos h0,if_pos h0,HU,if_pos (.inr (.inl h34))]
      ·rw[if_neg h0,if_neg h0];have:=KP l p k k' (i+(Dt ((l.drop p).drop i)).2) (d++[UInt8.ofNat (Dt ((l.drop p).drop i)).1]) (by omega) (by omega);rw[this,Nat.add_assoc]
     ·rw[if_neg h92]
      by_cases hc:Aq l (p+i)<32∨126<Aq l (p+i)
      ·have hp:AK l (p+i)=(0,0):=by unfold AK;rw[if_pos (by omega)]
       rw[if_pos (by omega),DQ,hp,if_pos rfl,HU,if_pos (.inr (.inl h34))]
      ·have hp:AK l (p+i)=(Aq l (p+i),1):=by unfold AK;rw[if_neg (by omega),if_pos h92]
       rw[if_neg (by omega),DQ,hp,if_neg (by show ¬(1=0);omega)];have:=KP l p k k' (i+1) (d++[UInt8.ofNat (Aq l (p+i))]) (by omega) (by omega);rw[this,Nat.add_assoc]
def Ez(p:Nat):Except Int AD→AV
 |.ok t=>CO (t.av p)
 |.error e=>B0 e
theorem TH(l:List UInt8)(p:Nat)(hp:p<l.length):Da l p (DQ l.length l (p+1) [])=Ez p (FY (l.drop p)):=by
 have h:=KP l p l.length (l.drop p).length 1 [] (by omega) (by rw[Bd];omega);unfold FY;rw[h];unfold Da HU
 by_cases hc:l.length≤(DQ l.length l (p+1) []).2∨Aq l (DQ l.length l (p+1) []).2≠34∨256<(DQ l.length l (p+1) []).1.length
 ·rw[if_pos hc,if_pos hc];rfl
 ·rw[if_neg hc,if_neg hc];rfl
set_option maxRecDepth 20000
variable {γ:List (Nat×AV)}
theorem K4(l:List UInt8)(p i:Nat):Ah (l.drop p) i+p=Ah l (p+i):=by
 unfold Ah;rw[BT]
 omega
theorem TG{l:List UInt8}{most:Int}(h:1<l.length∧Aq l 0=48):E8 l most=false:=by
 unfold E8;exact decide_eq_false (fun q=>q.1 h)
theorem Q9{sg:Nat}(hsg:sg=0∨sg=1){a c:List UInt8}{f:Nat}(ha:¬(1<a.length∧Aq a 0=48))(hc:¬(1<c.length∧Aq c 0=48))(hf:B6 f=false):Ki sg a c f=JN sg a c:=by
 rw[Bool.eq_iff_iff,HA,Ia]
 have h1:E8 a 9007199254740991=true↔Ax a<9007199254740992:=by
  unfold E8;rw[decide_eq_true_eq]
  constructor
  ·rintro⟨_,_,h⟩;omega
  ·intro h;exact⟨ha,by omega,by omega⟩
 have h2:E8 c (1023+51 * sg)=true↔Ax c≤1023+51 * sg:=by
  unfold E8;rw[decide_eq_true_eq]
  constructor
  ·rintro⟨_,_,h⟩;omega
  ·intro h;exact⟨hc,by omega,by omega⟩
 rw[h1,h2]
 constructor
 ·rintro⟨a1,a2,a3,a4,_,a6⟩;exact⟨a1,a2,a3,a4,a6⟩
 ·rintro⟨a1,a2,a3,a4,a6⟩;exact⟨a1,a2,a3,a4,hf,a6⟩
theorem QE(l:List UInt8)(p n sg:Nat)(hp:p+n≤l.length)(hn:n=Ah l p-p)(hge:p≤Ah l p)(hs:sg=IT (l.drop p))(h112:Aq l (p+n)=112)(hd:A0 (Aq l (p+n+1+sg))=true):
  Jq l (p+n)=(Ah l (p+n+1+sg)-(p+n),sg+1)∧Ct (l.drop p)=Kl (l.drop p) n sg∧(sg=0∨sg=1)∧p+n+1+sg<Ah l (p+n+1+sg)∧Ah l (p+n+1+sg)≤l.length:=by
 have hlt:=Eh hd;have hl2:=(C2 hd).2;have hle:=CF (l:=l) (i:=p+n+1+sg) (by omega);have hdn:Ah (l.drop p) 0=n:=by have:=K4 l p 0;rw[Nat.add_zero]at this;omega
 have hsg:sg=if Aq l (p+n+1)=45 then 1 else 0:=by
  rw[hs];unfold IT;rw[hdn,B2,B2,←Nat.add_assoc]
  by_cases h:Aq l (p+n+1)=45
  ·rw[if_pos ⟨h112,h⟩,if_pos h]
  ·rw[if_neg (fun q=>h q.2),if_neg h]
 have hhead:Gx l (p+n)=sg+1:=by
  unfold Gx;rw[hsg];split<;>rfl
 have hspan:Hk l (p+n+Gx l (p+n))=Ah l (p+n+1+sg)-(p+n+1+sg):=by
  unfold Hk;rw[hhead,←Ec,show p+n+(sg+1)=p+n+1+sg from by omega]
 refine⟨?_,?_,?_,hlt,hle⟩
 ·unfold Jq;rw[if_neg (by omega),if_neg (by rw[hspan];omega),hspan,hhead]
  congr 1;omega
 ·unfold Ct;rw[hdn,←hs,if_pos ⟨by rw[B2];exact h112,by rw[B2,←Nat.add_assoc,←Nat.add_assoc];exact hd⟩]
 ·rw[hsg];split
  ·exact .inr rfl
  ·exact .inl rfl
theorem Uj(l:List UInt8)(p n sg:Nat)(hp:p+n≤l.length)(hn:n=Ah l p-p)(hge:p≤Ah l p)(hs:sg=IT (l.drop p))(h:¬(Aq l (p+n)=112∧A0 (Aq l (p+n+1+sg))=true)):
  Jq l (p+n)=(0,0)∧Ct (l.drop p)=if E8 (DL (l.drop p) 0) 9223372036854775807=true∧B6 (Aq l (p+n))=false then .ok ⟨2,[],Ax (DL (l.drop p) 0),0,n⟩else .error 12:=by
 have hdn:Ah (l.drop p) 0=n:=by have:=K4 l p 0;rw[Nat.add_zero]at this;omega
 constructor
 ·unfold Jq
  by_cases h112:Aq l (p+n)=112
  ·rw[if_neg (by omega)]
   have hsg:sg=if Aq l (p+n+1)=45 then 1 else 0:=by
    rw[hs];unfold IT;rw[hdn,B2,B2,←Nat.add_assoc]
    by_cases h:Aq l (p+n+1)=45
    ·rw[if_pos ⟨h112,h⟩,if_pos h]
    ·rw[if_neg (fun q=>h q.2),if_neg h]
   have hhead:Gx l (p+n)=sg+1:=by
    unfold Gx;rw[hsg];split<;>rfl
   have hnd:A0 (Aq l (p+n+1+sg))=false:=by
    cases hc:A0 (Aq l (p+n+1+sg))with
    |true=>exact absurd ⟨h112,hc⟩ h
    |false=>rfl
   have hst:=EL hnd;rw[if_pos];unfold Hk;rw[hhead,←Ec,show p+n+(sg+1)=p+n+1+sg from by omega,hst]
   omega
  ·rw[if_pos h112]
 ·unfold Ct;rw[hdn,←hs,if_neg (by rw[B2,B2,←Nat.add_assoc,←Nat.add_assoc];exact h),B2]
theorem IB(x:Nat):B6 x=(DU x || A0 x || decide (x=95)):=rfl
set_option maxRecDepth 20000 in
theorem NY(b:Bool)(l:List UInt8)(p:Nat)(hd:A0 (Aq l p)=true)(hl:l.length≤140737488351232)
  (hreal:Aq l (p+(Ah l p-p))=112∧A0 (Aq l (p+(Ah l p-p)+1+IT (l.drop p)))=true) :
  Ev Tp γ 140 [.sl b l.length l.length (l.map Ai),.v (.int .i64 p)] (Ez p (Ct (l.drop p))):=by
 refine Ev.of Tryz.func140 rfl ?_;have hlt:=Eh hd;have hpl:=(C2 hd).2;have hle:=CF (l:=l) (i:=p) (by omega);obtain⟨n,hn⟩:∃ n,n=Ah l p-p:=⟨_,rfl⟩;obtain⟨sg,hsg⟩:∃ sg,sg=IT (l.drop p):=⟨_,rfl⟩;rw[←hn,←hsg]at hreal;have hdg:=Gk (γ:=γ) b l p (by omega) (by omega);rw[←Ec,←hn]at hdg;have hen:=Ou (γ:=γ) b l (p+n) (by omega) (by omega);have w1:IntKind.i64.wrap ((p:Int)+(n:Int))=((p+n:Nat):Int):=(A7 (by omega) (by omega)).trans (by omega);have ea:∀ j,(l.getD j 0).toNat=Aq l j:=fun _=>rfl
 simp only[Tryz.f140,Ad,An,seval];refine Ae.intro kQ (by simp[A4,A6]) hdg ?_;simp only[w1,Ad,seval];obtain⟨hE,hND,hs01,hlt2,hle2⟩:=QE l p n sg (by omega) hn (by omega) hsg hreal.1 hreal.2;rw[hE]at hen;refine Ae.intro b65 (by simp[A4,A6]) hen ?_;obtain⟨E,hE'⟩:∃ E,E=Ah l (p+n+1+sg):=⟨_,rfl⟩;have hEb:p+n+1+sg<E∧E≤l.length:=by rw[hE'];exact⟨hlt2,hle2⟩
 clear hlt2 hle2;obtain⟨A,hA⟩:∃ A,A=DL (l.drop p) 0:=⟨_,rfl⟩;obtain⟨C,hC⟩:∃ C,C=DL (l.drop p) (n+1+sg):=⟨_,rfl⟩;have hdn:Ah (l.drop p) 0=n:=by have:=K4 l p 0;rw[Nat.add_zero]at this;omega
 have hdE:Ah (l.drop p) (n+1+sg)=E-p:=by have:=K4 l p (n+1+sg);rw[←Nat.add_assoc,←Nat.add_assoc,←hE']at this;omega
 have hA':A=(l.drop p).take (p+n-p):=by rw[hA,DL,hdn,List.drop_zero];congr 1;omega
 have hC':C=(l.drop (p+n+(sg+1))).take (p+n+(E-(p+n))-(p+n+(sg+1))):=by
  rw[hC,DL,hdE,BT,show p+(n+1+sg)=p+n+(sg+1)from by omega];congr 1;omega
 have hAl:A.length=n:=by rw[hA',Bh,Bd];omega
 have hCl:C.length=E-(p+n+(sg+1)):=by rw[hC',Bh,Bd];omega
 have hA0:Aq A 0=Aq l p:=by rw[hA',G0 (by omega),B2];rfl
 have hC0:Aq C 0=Aq l (p+n+(sg+1)):=by rw[hC',G0 (by omega),B2];rfl
 have hres:Ez p (Ct (l.drop p))=if Ki sg A C (Aq l E)=true then CO (AI 3 [] 0 (.v (.float .f64 (Dh (Ax A) (Cz sg (Ax C))))) p (n+(E-(p+n)):Nat))else B0 12:=by
  rw[hND,Kl,←hA,←hC,hdE,B2,show p+(E-p)=E from by omega]
  split
  ·show CO (AI 3 [] 0 _ _ ((E-p:Nat):Int))=_
   rw[show n+(E-(p+n))=E-p from by omega]
  ·rfl
 have hreal66:=T4 (γ:=γ) b l p n (E-(p+n)) sg A C hA' hC' (by omega) hs01 (by omega) (by omega)
  (fun k hk=>by rw[hA',G0 hk,B2];exact Et k rfl (by omega))
  (fun k hk=>by rw[hC',G0 hk,B2];exact Et (i:=p+n+1+sg) k (by omega) (by rw[←hE'];omega))
 have hrr:=fun h1 h2 h3=>Q9 (a:=A) (c:=C) (f:=Aq l E) hs01 h1 h2 h3
 have hlzA:=fun (h:1<A.length∧Aq A 0=48)=>TG (most:=9007199254740991) h
 have hlzC:=fun (h:1<C.length∧Aq C 0=48)=>TG (most:=1023+51 * sg) h
 rw[hAl,hA0]at hlzA;rw[hCl,hC0]at hlzC;rw[hAl,hA0,hCl,hC0]at hrr
 have hro:Ki sg A C (Aq l E)=true→E8 A 9007199254740991=true∧E8 C (1023+51 * sg)=true∧B6 (Aq l E)=false:=fun h=>by
  have:=HA.1 h;exact⟨this.1,this.2.1,this.2.2.2.2.1⟩
 rw[hres];generalize Ki sg A C (Aq l E)=ro at *;rw[←hE'];have w5:IntKind.i64.wrap (((p+n:Nat):Int)+((E-(p+n):Nat):Int))=(E:Int):=(A7 (by omega) (by omega)).trans (by omega);have w6:IntKind.i64.wrap (((sg+1:Nat):Int)+1)=((sg+1+1:Nat):Int):=(A7 (by omega) (by omega)).trans (by omega);have w7:IntKind.i64.wrap (((p+n:Nat):Int)+((sg+1:Nat):Int))=((p+n+(sg+1):Nat):Int):=(A7 (by omega) (by omega)).trans (by omega)
 have dEl:decide ((E:Int)<(l.length:Int))=decide (E<l.length):=by
  by_cases h:E<l.length
  ·rw[decide_eq_true h,decide_eq_true];omega
  ·rw[decide_eq_false h,decide_eq_false];omega
 have dpos:decide ((0:Int)<((E-(p+n):Nat):Int))=true:=decide_eq_true (by omega)
 have kp48:((Aq l p:Int)==48)=decide (Aq l p=48):=by
  by_cases h:Aq l p=48
  ·simp[h]
  ·rw[decide_eq_false h];simp;omega
 have k48:((Aq l (p+n+(sg+1)):Int)==48)=decide (Aq l (p+n+(sg+1))=48):=by
  by_cases h:Aq l (p+n+(sg+1))=48
  ·simp[h]
  ·rw[decide_eq_false h];simp;omega
 have dn1:decide ((1:Int)<(n:Int))=decide (1<n):=by
  by_cases h:1<n
  ·rw[decide_eq_true h,decide_eq_true];omega
  ·rw[decide_eq_false h,decide_eq_false];omega
 have dsg:decide (((sg+1+1:Nat):Int)<((E-(p+n):Nat):Int))=decide (sg+1+1<E-(p+n)):=by
  by_cases h:sg+1+1<E-(p+n)
  ·rw[decide_eq_true h,decide_eq_true];omega
  ·rw[decide_eq_false h,decide_eq_false];omega
 have kE95:((Aq l E:Int)==95)=decide (Aq l E=95):=by
  by_cases h:Aq l E=95
  ·simp[h]
  ·rw[decide_eq_false h];simp;omega
 clear hres hND hen hdg hA' hC' hA hC hdE hdn hE' hE;simp only[w1,w5,Ad,An,seval]
 (repeat' (first|(with_reducible refine aI ?_ ?_)|(first|(first|refine gF ?_ ?_|refine gT ?_ ?_|refine cI ?_ ?_|refine pI ?_ ?_)<;>intro h|(refine dI ?_;have h:=trivial))<;>simp only[h,w1,w6,w7,ea,dpos,kp48,k48,dn1,Ad,An,w5,dEl,dsg,kE95,Bv,Bf,seval]))
 all_goals try (((try simp only[decide_eq_true_eq,decide_eq_false_iff_not]at *)<;>(try omega));done)
 all_goals try (refine Ae.intro lC rfl (Gj _) ?_;simp only[Ad,seval];(repeat' (first|(with_reducible refine aI ?_ ?_)|(first|(first|refine gF ?_ ?_|refine gT ?_ ?_|refine cI ?_ ?_|refine pI ?_ ?_)<;>intro h|(refine dI ?_;have h:=trivial))<;>simp only[h,w1,w6,w7,ea,kp48,k48,dn1,Ad,An,w5,dEl,dpos,dsg,kE95,Bv,Bf,seval])))
 all_goals try (((try simp only[decide_eq_true_eq,decide_eq_false_iff_not]at *)<;>(try omega));done)
 all_goals try (refine Ae.intro iV rfl (EC _) ?_;simp only[Ad,seval];(repeat' (first|(with_reducible refine aI ?_ ?_)|(first|(first|refine gF ?_ ?_|refine gT ?_ ?_|refine cI ?_ ?_|refine pI ?_ ?_)<;>intro h|(refine dI ?_;have h:=trivial))<;>simp only[h,w1,w6,w7,ea,dpos,kp48,k48,dn1,kE95,Ad,An,w5,dEl,dsg,Bv,Bf,seval])))
 all_goals try (((try simp only[decide_eq_true_eq,decide_eq_false_iff_not]at *)<;>(try omega));done)
 all_goals (try simp only[decide_eq_true_eq,decide_eq_false_iff_not]at *)
 all_goals first
  |(have hr:ro=false:=(by
    cases hr:ro with
    |false=>rfl
    |true=>
     exfalso
     obtain⟨q1,q2,q3⟩:=hro hr
     first
      |(rw[hlzA ⟨by omega,by omega⟩]at q1;cases q1)
      |(rw[hlzC ⟨by omega,by omega⟩]at q2;cases q2)
      |(simp_all [IB];done))
    rw[hr,if_neg (by decide)];simp only[B0,AI,f0,Ad]
    first|done|rfl)
  |(have hnm:B6 (Aq l E)=false:=(by
    first
     |(rw[Kg (by omega)];decide)
     |(rw[IB];simp_all;done))
    have hrr':=hrr (by omega) (by omega) hnm;have h66:=hreal66;rw[←hrr']at h66;cases hr:ro with
    |true=>
     rw[hr,if_pos rfl]at h66;refine Ae.intro b66 (by simp[A4,A6]) h66 ?_;rw[if_pos rfl];simp only[CO,AI,Ad,An,seval]
     first|done|rfl
    |false=>
     rw[hr,if_neg (by decide)]at h66;refine Ae.intro b66 (by simp[A4,A6]) h66 ?_;rw[if_neg (by decide)];simp only[B0,AI,f0,Ad,An,seval]
     first|done|rfl)
  |trace_state
set_option maxRecDepth 20000 in
theorem NM(b:Bool)(l:List UInt8)(p:Nat)(hd:A0 (Aq l p)=true)(hl:l.length≤140737488351232)
  (hint:¬(Aq l (p+(Ah l p-p))=112∧A0 (Aq l (p+(Ah l p-p)+1+IT (l.drop p)))=true)) :
  Ev Tp γ 140 [.sl b l.length l.length (l.map Ai),.v (.int .i64 p)] (Ez p (Ct (l.drop p))):=by
 refine Ev.of Tryz.func140 rfl ?_;have hlt:=Eh hd;have hpl:=(C2 hd).2;have hle:=CF (l:=l) (i:=p) (by omega);obtain⟨n,hn⟩:∃ n,n=Ah l p-p:=⟨_,rfl⟩;obtain⟨sg,hsg⟩:∃ sg,sg=IT (l.drop p):=⟨_,rfl⟩;rw[←hn,←hsg]at hint;have hdg:=Gk (γ:=γ) b l p (by omega) (by omega);rw[←Ec,←hn]at hdg;have hen:=Ou (γ:=γ) b l (p+n) (by omega) (by omega);have w1:IntKind.i64.wrap ((p:Int)+(n:Int))=((p+n:Nat):Int):=(A7 (by omega) (by omega)).trans (by omega);have ea:∀ j,(l.getD j 0).toNat=Aq l j:=fun _=>rfl
 obtain⟨hE,hND⟩:=Uj l p n sg (by omega) hn (by omega) hsg hint;rw[hE]at hen;have hn1:1≤n:=by omega
 have hpn:p+n≤l.length:=by omega
 obtain⟨A,hA⟩:∃ A,A=DL (l.drop p) 0:=⟨_,rfl⟩;have hdn:Ah (l.drop p) 0=n:=by have:=K4 l p 0;rw[Nat.add_zero]at this;omega
 have hA':A=(l.drop p).take (p+n-p):=by rw[hA,DL,hdn,List.drop_zero];congr 1;omega
 have hAl:A.length=n:=by rw[hA',Bh,Bd];omega
 have hA0:Aq A 0=Aq l p:=by rw[hA',G0 (by omega),B2];rfl
 have hwa:=JH (γ:=γ) b l p (p+n) (by omega) (by omega) (by omega) (fun k hk=>by rw[G0 hk,B2];exact Et k rfl (by omega));rw[←hA',KF]at hwa;rw[hND,←hA];have hlz:=fun (h:1<A.length∧Aq A 0=48)=>TG (most:=9223372036854775807) h
 rw[hAl,hA0]at hlz
 have hdo:¬(1<n∧Aq l p=48)→E8 A 9223372036854775807=decide (Ax A≤9223372036854775807):=fun h=>by
  unfold E8;rw[hAl,hA0]
  by_cases h2:Ax A≤9223372036854775807
  ·rw[decide_eq_true h2,decide_eq_true];exact⟨h,by omega,by omega⟩
  ·rw[decide_eq_false h2,decide_eq_false];rintro⟨_,_,q⟩;omega
 have w5:IntKind.i64.wrap (((p+n:Nat):Int)+0)=((p+n:Nat):Int):=(A7 (by omega) (by omega)).trans (by omega);have w6:IntKind.i64.wrap (0+1)=1:=by decide
 have w50:IntKind.i64.wrap (((p+n:Nat):Int)+((0:Nat):Int))=((p+n:Nat):Int):=(A7 (by omega) (by omega)).trans (by omega)
 have dEl:decide (((p+n:Nat):Int)<(l.length:Int))=decide (p+n<l.length):=by
  by_cases h:p+n<l.length
  ·rw[decide_eq_true h,decide_eq_true];omega
  ·rw[decide_eq_false h,decide_eq_false];omega
 have kp48:((Aq l p:Int)==48)=decide (Aq l p=48):=by
  by_cases h:Aq l p=48
  ·simp[h]
  ·rw[decide_eq_false h];simp;omega
 have dn1:decide ((1:Int)<(n:Int))=decide (1<n):=by
  by_cases h:1<n
  ·rw[decide_eq_true h,decide_eq_true];omega
  ·rw[decide_eq_false h,decide_eq_false];omega
 have kE95:((Aq l (p+n):Int)==95)=decide (Aq l (p+n)=95):=by
  by_cases h:Aq l (p+n)=95
  ·simp[h]
  ·rw[decide_eq_false h];simp;omega
 have ept:((p:Int)+(n:Int)).toNat=p+n:=by omega
 have w60:IntKind.i64.wrap (((0:Nat):Int)+1)=1:=by decide
 have d10c:decide ((1:Int)<((0:Nat):Int))=false:=by decide
 have d10:decide ((1:Int)<0)=false:=by decide
 have d00:decide ((0:Int)<0)=false:=by decide
 clear hA' hA hdn hND hE hn hsg hint hlt;simp only[Tryz.f140,Ad,An,Nat.reduceAdd,Nat.reduceSub,Nat.reduceLT,Nat.reduceEqDiff,reduceCtorEq];refine Ae.intro kQ (by simp[A4,A6]) hdg ?_;simp only[w1,Ad,Nat.reduceLT,Nat.reduceEqDiff,reduceCtorEq];refine Ae.intro b65 (by simp[A4,A6]) hen ?_;clear hdg hen;simp only[w1,w50,Ad,An,Nat.reduceLT,Nat.reduceEqDiff,reduceCtorEq]
 (repeat' (first|(with_reducible refine aI ?_ ?_)|(first|(first|refine gF ?_ ?_|refine gT ?_ ?_|refine cI ?_ ?_|refine pI ?_ ?_)<;>intro h|(refine dI ?_;have h:=trivial))<;>simp only[h,ea,kp48,dn1,w60,d10c,Ad,An,Nat.reduceAdd,Nat.reduceLT,Nat.reduceLeDiff,Nat.reduceEqDiff,reduceCtorEq,w1,w5,w50,w6,dEl,kE95,d10,d00,ept,Bv,Bf,Nat.reduceSub,Nat.reduceMul,List.reduceReplicate,Int.reduceToNat,Int.reduceLE,Int.reduceLT]))
 all_goals try (((try simp only[decide_eq_true_eq,decide_eq_false_iff_not]at *)<;>(try omega));done)
 all_goals try (refine Ae.intro lC rfl (Gj _) ?_;simp only[Ad,Nat.reduceLT,Nat.reduceEqDiff,reduceCtorEq];(repeat' (first|(with_reducible refine aI ?_ ?_)|(first|(first|refine gF ?_ ?_|refine gT ?_ ?_|refine cI ?_ ?_|refine pI ?_ ?_)<;>intro h|(refine dI ?_;have h:=trivial))<;>simp only[h,ea,kp48,dn1,w60,d10c,Ad,An,Nat.reduceAdd,Nat.reduceLT,Nat.reduceLeDiff,Nat.reduceEqDiff,reduceCtorEq,w1,w5,w50,w6,dEl,kE95,d10,d00,ept,Bv,Bf,Nat.reduceSub,Nat.reduceMul,List.reduceReplicate,Int.reduceToNat,Int.reduceLE,Int.reduceLT])))
 all_goals try (((try simp only[decide_eq_true_eq,decide_eq_false_iff_not]at *)<;>(try omega));done)
 all_goals try (refine Ae.intro iV rfl (EC _) ?_;simp only[Ad,Nat.reduceLT,Nat.reduceEqDiff,reduceCtorEq];(repeat' (first|(with_reducible refine aI ?_ ?_)|(first|(first|refine gF ?_ ?_|refine gT ?_ ?_|refine cI ?_ ?_|refine pI ?_ ?_)<;>intro h|(refine dI ?_;have h:=trivial))<;>simp only[h,ea,kp48,dn1,kE95,w60,d10c,Ad,An,Nat.reduceAdd,Nat.reduceLT,Nat.reduceLeDiff,Nat.reduceEqDiff,reduceCtorEq,w1,w5,w50,w6,dEl,d10,d00,ept,Bv,Bf,Nat.reduceSub,Nat.reduceMul,List.reduceReplicate,Int.reduceToNat,Int.reduceLE,Int.reduceLT])))
 all_goals try (((try simp only[decide_eq_true_eq,decide_eq_false_iff_not]at *)<;>(try omega));done)
 all_goals (try simp only[decide_eq_true_eq,decide_eq_false_iff_not]at *)
 all_goals first
  |(refine Ae.intro b67 (by simp[A4,A6]) hwa ?_
    have hnm:B6 (Aq l (p+n))=false:=(by
     first
      |(rw[Kg (by omega)];decide)
      |(rw[IB];simp_all;done))
    have hdo':=hdo (by omega)
    by_cases hv:Ax A≤9223372036854775807
    ·rw[if_pos hv,decide_eq_true hv,if_pos ⟨by rw[hdo'];exact decide_eq_true hv,hnm⟩];simp only[Ez,CO,AD.av,AI,Ad,An,Bv,Nat.reduceAdd,Nat.reduceLT,Nat.reduceLeDiff,Nat.reduceEqDiff,reduceCtorEq]
     first|done|rfl
    ·rw[if_neg hv,decide_eq_false hv,if_neg (by rintro⟨q,_⟩;rw[hdo',decide_eq_false hv]at q;cases q)];simp only[Ez,B0,AI,f0,Ad,An,Bf,Nat.reduceAdd,Nat.reduceLT,Nat.reduceLeDiff,Nat.reduceEqDiff,reduceCtorEq]
     first|done|rfl)
  |(have hr:¬(E8 A 9223372036854775807=true∧B6 (Aq l (p+n))=false):=(by
    rintro⟨q1,q3⟩
    first
     |(rw[hlz ⟨by omega,by omega⟩]at q1;cases q1)
     |(simp_all [IB];done)
     |(simp_all [IB];omega))
    rw[if_neg hr];simp only[Ez,B0,AI,f0,Ad]
    first|done|rfl)
theorem PC(b:Bool)(l:List UInt8)(p:Nat)(hd:A0 (Aq l p)=true)(hl:l.length≤140737488351232):
  Ev Tp γ 140 [.sl b l.length l.length (l.map Ai),.v (.int .i64 p)] (Ez p (Ct (l.drop p))):=by
 by_cases hreal:Aq l (p+(Ah l p-p))=112∧A0 (Aq l (p+(Ah l p-p)+1+IT (l.drop p)))=true
 ·exact NY b l p hd hl hreal
 ·exact NM b l p hd hl hreal
theorem eJ:∀ n,n<256→DI.contains [n.toUInt8]=decide (0≤Lib.indexByte TX n.toUInt8):=by decide +kernel
theorem dF(a:UInt8):DI.contains [a]=decide (0≤Lib.indexByte TX a):=by
 have:=eJ a.toNat a.toNat_lt;simpa using this
theorem dE(a b:UInt8)(ha:a≠32)(hb:b≠32):DI.contains [a,b]=GC Qs [a,b]:=by
 rw[Bool.eq_iff_iff];rw[List.contains_iff_mem];simp only[DI,Qs,GC,List.isPrefixOf,BI,List.cons.injEq,Bool.or_eq_true,Bool.and_eq_true,beq_iff_eq,List.isEmpty,Bool.and_true,Bool.or_false,List.not_mem_nil,and_false,and_true,or_false,false_or,seval]
 grind
theorem fW(a b:UInt8)(h:a=32∨b=32):DI.contains [a,b]=false:=by
 rw[←Bool.not_eq_true,List.contains_iff_mem];simp only[DI,BI,List.cons.injEq,List.not_mem_nil,and_false,and_true,or_false,false_or,seval]
 grind
theorem Oi(x:Nat):B6 x=(DU x || A0 x || decide (x=95)):=rfl
theorem Lv(p:Nat)(x:Except Int AD):∃ k t i r q z e,Ez p x=.tup [.agg [.v (.int .i64 k),.v (.string t),.v (.int .i64 i),.v (.float .f64 r),.v (.int .i64 q),.v (.int .i64 z)],.v (.int .i64 e)]:=by
 cases x with
 |ok t=>exact⟨_,_,_,_,_,_,_,rfl⟩
 |error e=>exact⟨_,_,_,_,_,_,_,rfl⟩
theorem PD(q:Nat→Bool)(l:List UInt8)(p i:Nat):AE q (l.drop p) i+p=AE q l (p+i):=by
 unfold AE;rw[BT]
 omega
theorem VH(s:List UInt8)(h1:1≤s.length):Cw s=if 2≤s.length∧DI.contains (s.take 2)=true then 2 else if DI.contains (s.take 1)=true then 1 else 0:=by
 match s,h1 with
 |[a],_=>
  have e0:(Aq [a] 0).toUInt8=a:=by simp[Aq]
  have hR:(if 2≤[a].length∧DI.contains ([a].take 2)=true then 2 else if DI.contains ([a].take 1)=true then 1 else 0)=if DI.contains [a]=true then 1 else 0:=by rw[if_neg (by simp)];rfl
  rw[hR];unfold Cw;rw[if_neg (by simp),e0,dF a]
  by_cases h:0≤Lib.indexByte TX a
  ·rw[if_pos h,if_pos (decide_eq_true h)]
  ·rw[if_neg h,if_neg (by rw[decide_eq_true_eq];exact h)]
 |a::b::t,_=>
  have e0:(Aq (a::b::t) 0).toUInt8=a:=by simp[Aq]
  have n0:Aq (a::b::t) 0=a.toNat:=rfl;have n1:Aq (a::b::t) 1=b.toNat:=rfl;have ht:(a::b::t).take 2=[a,b]:=rfl;have ht1:(a::b::t).take 1=[a]:=rfl;unfold Cw;rw[ht,ht1,e0,n0,n1,dF a]
  have hne:∀ x:UInt8,x.toNat≠32↔x≠32:=fun x=>by
   constructor
   ·intro h e;exact h (by rw[e];rfl)
   ·intro h e;exact h (UInt8.toNat_inj.1 (by rw[e];rfl))
  have hiff:(1<(a::b::t).length∧a.toNat≠32∧b.toNat≠32∧GC Qs [a,b]=true)↔(2≤(a::b::t).length∧DI.contains [a,b]=true):=by
   rw[hne,hne]
   constructor
   ·rintro⟨q1,q2,q3,q4⟩;exact⟨q1,by rw[dE a b q2 q3];exact q4⟩
   ·rintro⟨q1,q2⟩
    by_cases h:a=32∨b=32
    ·rw[fW a b h]at q2;cases q2
    ·have h':a≠32∧b≠32:=⟨fun e=>h (.inl e),fun e=>h (.inr e)⟩;exact⟨q1,h'.1,h'.2,by rw[←dE a b h'.1 h'.2];exact q2⟩
  by_cases hc:2≤(a::b::t).length∧DI.contains [a,b]=true
  ·rw[if_pos hc,if_pos (hiff.2 hc)]
  ·rw[if_neg hc,if_neg (fun q=>hc (hiff.1 q))]
   by_cases h:0≤Lib.indexByte TX a
   ·rw[if_pos h,if_pos (decide_eq_true h)]
   ·rw[if_neg h,if_neg (by rw[decide_eq_true_eq];exact h)]
set_option maxRecDepth 20000 in
theorem Ha(b:Bool)(l:List UInt8)(p:Nat)(hp:p<l.length)(hl:l.length≤140737488351232):
  Ev Tp γ 86 [.sl b l.length l.length (l.map Ai),.v (.int .i64 p)] (Ez p (headD (l.drop p))):=by
 refine Ev.of Tryz.func86 rfl ?_;have ea:∀ j,(l.getD j 0).toNat=Aq l j:=fun _=>rfl
 have hmd:List.drop p (List.map Ai l)=List.map Ai (List.drop p l):=List.map_drop.symm
 have k95:∀ x:Nat,((x:Int)==95)=decide (x=95):=fun x=>by
  by_cases h:x=95
  ·simp[h]
  ·rw[decide_eq_false h];simp;omega
 have ha0:Aq (l.drop p) 0=Aq l p:=by rw[B2];rfl
 have hh:headD (l.drop p)=if DU (Aq l p)=true then (if 32<AE B6 (l.drop p) 1 then .error 13 else .ok ⟨1,(l.drop p).take (AE B6 (l.drop p) 1),0,0,AE B6 (l.drop p) 1⟩)
   else if A0 (Aq l p)=true then Ct (l.drop p)
   else if Aq l p=34 then FY (l.drop p)
   else if Cw (l.drop p)=0 then .error 10 else .ok ⟨5,(l.drop p).take (Cw (l.drop p)),0,0,Cw (l.drop p)⟩:=by rw[headD,ha0]
 simp only[Tryz.f86,ea,Ad,An,Nat.reduceAdd,Nat.reduceSub,Nat.reduceLT,Nat.reduceEqDiff,reduceCtorEq]
 (repeat' (first|(with_reducible refine aI ?_ ?_)|(first|(first|refine gF ?_ ?_|refine gT ?_ ?_|refine cI ?_ ?_|refine pI ?_ ?_)<;>intro h|(refine dI ?_;have h:=trivial))<;>simp only[h,ea,Ad,An,Bv,Bf,Nat.reduceAdd,Nat.reduceSub,Nat.reduceMul,Nat.reduceLT,Nat.reduceLeDiff,Nat.reduceEqDiff,reduceCtorEq,List.reduceReplicate,Int.reduceToNat,Int.reduceLE,Int.reduceLT]))
 all_goals try (((try simp only[decide_eq_true_eq,decide_eq_false_iff_not,beq_iff_eq,bne_iff_ne,ne_eq,beq_eq_false_iff_ne,bne_eq_false_iff_eq]at *)<;>(try omega));done)
 refine Ae.intro lC rfl (Gj _) ?_;simp only[Ad,Nat.reduceLT,Nat.reduceEqDiff,reduceCtorEq];cases hlet:DU (Aq l p)with
 |true=>
  rw[if_pos hlet]at hh;have hsp:=PD B6 l p 1;obtain⟨N,hN⟩:∃ N,N=AE B6 (l.drop p) 1:=⟨_,rfl⟩;have hNle:=HV (p:=B6) (l:=l) (i:=p+1) (by omega);rw[←hN]at hh hsp;simp only[Ad,Nat.reduceLT];refine Eg.intro (fun j:Nat=>⟨⟨122,[(0,.sl b l.length l.length (l.map Ai)),(1,.v (.int .i64 p)),(4,.ptr 0 0 0),(6,.v (.int .i64 j))],γ⟩,[⟨0,54,AP⟩]⟩) (fun j=>1≤j∧p+j≤l.length∧AE B6 l (p+j)=p+N) (fun j=>l.length-j) 1 ?_ ⟨by omega,by omega,by omega⟩ (fun j hj=>?_)
  ·simp only[AP,Ad,Nat.reduceEqDiff,reduceCtorEq]
   (repeat' (first|(with_reducible refine aI ?_ ?_)|(first|(first|refine gF ?_ ?_|refine gT ?_ ?_|refine cI ?_ ?_|refine pI ?_ ?_)<;>intro h|(refine dI ?_;have h:=trivial))<;>simp only[h,Ad,An,Bv,Bf,Nat.reduceAdd,Nat.reduceSub,Nat.reduceMul,Nat.reduceLT,Nat.reduceLeDiff,Nat.reduceEqDiff,reduceCtorEq,List.reduceReplicate,Int.reduceToNat,Int.reduceLE,Int.reduceLT]))
   all_goals first|rfl|exact .inl rfl
  ·obtain⟨hj1,hj2,hj3⟩:=hj;have w1:IntKind.i64.wrap ((p:Int)+(j:Int))=((p+j:Nat):Int):=(A7 (by omega) (by omega)).trans (by omega);have ej:IntKind.i64.wrap ((j:Int)+1)=((j+1:Nat):Int):=A7 (by omega) (by omega);have esub:p+j-p=j:=by omega
   have hdl:(List.drop p l).length=l.length-p:=Bd;have hstop:∀ (hs:p+j<l.length→B6 (l.getD (p+j) 0).toNat=false),j=N:=fun hs=>by have:=Gh (p:=B6) hs;omega
   have hgo:∀ (h1:p+j<l.length) (h2:B6 (Aq l (p+j))=true),AE B6 l (p+(j+1))=p+N:=fun h1 h2=>by rw[←Nat.add_assoc,←HX h1 h2];exact hj3
   simp only[w1,AP,Ad,An,Nat.reduceLT,Nat.reduceEqDiff,reduceCtorEq]
   (repeat' (first|(with_reducible refine aI ?_ ?_)|(first|(first|refine gF ?_ ?_|refine gT ?_ ?_|refine cI ?_ ?_|refine pI ?_ ?_)<;>intro h|(refine dI ?_;have h:=trivial))<;>simp only[h,w1,ea,hmd,esub,Ad,An,Nat.reduceAdd,Nat.reduceLT,Nat.reduceLeDiff,Nat.reduceEqDiff,reduceCtorEq,k95,Bv,Bf,Nat.reduceSub,Nat.reduceMul,List.reduceReplicate,Int.reduceToNat,Int.reduceLE,Int.reduceLT]))
   all_goals try (((try simp only[decide_eq_true_eq,decide_eq_false_iff_not]at *)<;>(try omega));done)
   all_goals try (refine Ae.intro lC rfl (Gj _) ?_;simp only[Ad,Nat.reduceLT,Nat.reduceEqDiff,reduceCtorEq];(repeat' (first|(with_reducible refine aI ?_ ?_)|(first|(first|refine gF ?_ ?_|refine gT ?_ ?_|refine cI ?_ ?_|refine pI ?_ ?_)<;>intro h|(refine dI ?_;have h:=trivial))<;>simp only[h,w1,ea,Ad,An,Nat.reduceLT,Nat.reduceEqDiff,reduceCtorEq,k95,hmd,esub,Bv,Bf,Nat.reduceAdd,Nat.reduceSub,Nat.reduceMul,Nat.reduceLeDiff,List.reduceReplicate,Int.reduceToNat,Int.reduceLE,Int.reduceLT])))
   all_goals try (((try simp only[decide_eq_true_eq,decide_eq_false_iff_not]at *)<;>(try omega));done)
   all_goals try (refine Ae.intro iV rfl (EC _) ?_;simp only[Ad,Nat.reduceLT,Nat.reduceEqDiff,reduceCtorEq];(repeat' (first|(with_reducible refine aI ?_ ?_)|(first|(first|refine gF ?_ ?_|refine gT ?_ ?_|refine cI ?_ ?_|refine pI ?_ ?_)<;>intro h|(refine dI ?_;have h:=trivial))<;>simp only[h,w1,ea,k95,hmd,esub,Ad,An,Nat.reduceAdd,Nat.reduceLT,Nat.reduceLeDiff,Nat.reduceEqDiff,reduceCtorEq,Bv,Bf,Nat.reduceSub,Nat.reduceMul,List.reduceReplicate,Int.reduceToNat,Int.reduceLE,Int.reduceLT])))
   all_goals try (((try simp only[decide_eq_true_eq,decide_eq_false_iff_not]at *)<;>(try omega));done)
   all_goals first
    |(refine Cg.intro (j+1) ⟨by omega,by (try simp only[decide_eq_true_eq]at *);omega,hgo (by (try simp only[decide_eq_true_eq]at *);omega) (by rw[Oi];simp_all)⟩ ?_ (by (try simp only[decide_eq_true_eq,decide_eq_false_iff_not]at *);omega)
      simp only[ej,Ad,Nat.reduceEqDiff,reduceCtorEq]
      (repeat' (first|(with_reducible refine aI ?_ ?_)|(first|(first|refine gF ?_ ?_|refine gT ?_ ?_|refine cI ?_ ?_|refine pI ?_ ?_)<;>intro h|(refine dI ?_;have h:=trivial))<;>simp only[h,Ad,An,Bv,Bf,Nat.reduceAdd,Nat.reduceSub,Nat.reduceMul,Nat.reduceLT,Nat.reduceLeDiff,Nat.reduceEqDiff,reduceCtorEq,List.reduceReplicate,Int.reduceToNat,Int.reduceLE,Int.reduceLT]))
      all_goals first|rfl|exact .inl rfl)
    |(have hjN:j=N:=hstop (fun hlt=>by
       show B6 (Aq l (p+j))=false
       rw[Oi];simp_all)
      subst hjN
      (try simp only[decide_eq_true_eq,decide_eq_false_iff_not]at *)
      first
       |(rw[hh,if_pos (by omega)];simp only[Ez,B0,AI,f0,Ad];first|done|rfl)
       |(rw[hh,if_neg (by omega)];simp only[Ez,CO,AD.av,AI,Ad];first|done|rfl)
       |(refine And.intro (by omega) (And.intro (by omega) ?_);rw[hh,if_neg (by omega)];simp only[Ez,CO,AD.av,AI,Ad,An,Bv,Bf,Nat.reduceAdd,Nat.reduceSub,Nat.reduceMul,Nat.reduceLT,Nat.reduceLeDiff,Nat.reduceEqDiff,reduceCtorEq,List.reduceReplicate,Int.reduceToNat,Int.reduceLE,Int.reduceLT];first|done|rfl)
       |(refine And.intro (by omega) ?_;rw[hh,if_neg (by omega)];simp only[Ez,CO,AD.av,AI,Ad,An,Bv,Bf,Nat.reduceAdd,Nat.reduceSub,Nat.reduceMul,Nat.reduceLT,Nat.reduceLeDiff,Nat.reduceEqDiff,reduceCtorEq,List.reduceReplicate,Int.reduceToNat,Int.reduceLE,Int.reduceLT];first|done|rfl)
       |omega
       |trace_state)
    |trace_state
 |false=>
  rw[if_neg (by rw[hlet];decide)]at hh;simp only[ea,Ad,An,Nat.reduceLT,Nat.reduceEqDiff,reduceCtorEq]
  (repeat' (first|(with_reducible refine aI ?_ ?_)|(first|(first|refine gF ?_ ?_|refine gT ?_ ?_|refine cI ?_ ?_|refine pI ?_ ?_)<;>intro h|(refine dI ?_;have h:=trivial))<;>simp only[h,ea,Ad,An,Bv,Bf,Nat.reduceAdd,Nat.reduceSub,Nat.reduceMul,Nat.reduceLT,Nat.reduceLeDiff,Nat.reduceEqDiff,reduceCtorEq,List.reduceReplicate,Int.reduceToNat,Int.reduceLE,Int.reduceLT]))
  all_goals try (((try simp only[decide_eq_true_eq,decide_eq_false_iff_not,beq_iff_eq,bne_iff_ne,ne_eq,beq_eq_false_iff_ne,bne_eq_false_iff_eq]at *)<;>(try omega));done)
  refine Ae.intro iV rfl (EC _) ?_;cases hdig:A0 (Aq l p)with
  |true=>
   rw[if_pos hdig]at hh;have hr:=PC (γ:=γ) b l p hdig hl;rw[hh];obtain⟨k1,k2,k3,k4,k5,k6,k7,hsh⟩:=Lv p (Ct (l.drop p));rw[hsh]at hr⊢;simp only[Ad,Nat.reduceLT,Nat.reduceEqDiff,reduceCtorEq];refine Ae.intro b42 (by simp[A4,A6]) hr ?_;simp only[Ad,An,Nat.reduceAdd,Nat.reduceLT,Nat.reduceLeDiff,Nat.reduceEqDiff,reduceCtorEq]
  |false=>
   rw[if_neg (by rw[hdig];decide)]at hh
   have k34:((Aq l p:Int)==34)=decide (Aq l p=34):=by
    by_cases h:Aq l p=34
    ·simp[h]
    ·rw[decide_eq_false h];simp;omega
   simp only[ea,k34,Ad,An,Nat.reduceLT,Nat.reduceEqDiff,reduceCtorEq]
   (repeat' (first|(with_reducible refine aI ?_ ?_)|(first|(first|refine gF ?_ ?_|refine gT ?_ ?_|refine cI ?_ ?_|refine pI ?_ ?_)<;>intro h|(refine dI ?_;have h:=trivial))<;>simp only[h,Ad,Nat.reduceLT,Nat.reduceEqDiff,reduceCtorEq,ea,k34,An,Bv,Bf,Nat.reduceAdd,Nat.reduceSub,Nat.reduceMul,Nat.reduceLeDiff,List.reduceReplicate,Int.reduceToNat,Int.reduceLE,Int.reduceLT]))
   all_goals try (((try simp only[decide_eq_true_eq,decide_eq_false_iff_not]at *)<;>(try omega));done)
   ·rw[if_pos (of_decide_eq_true h)]at hh;have hr:=SK (γ:=γ) b l p (by omega) hp;rw[TH l p hp]at hr;rw[hh];obtain⟨k1,k2,k3,k4,k5,k6,k7,hsh⟩:=Lv p (FY (l.drop p));rw[hsh]at hr⊢;refine Ae.intro b43 (by simp[A4,A6]) hr ?_;simp only[Ad,An,Nat.reduceAdd,Nat.reduceLT,Nat.reduceLeDiff,Nat.reduceEqDiff,reduceCtorEq]
   ·rw[if_neg (of_decide_eq_false h)]at hh;have hdl:(List.drop p l).length=l.length-p:=Bd;have hmr:=VH (l.drop p) (by omega);refine Eg.intro (fun j:Nat=>⟨⟨122,[(0,.sl b l.length l.length (l.map Ai)),(1,.v (.int .i64 p)),(4,.ptr 0 0 0),(11,.v (.int .i64 ((2-j:Nat):Int)))],γ⟩,[⟨0,54,AP⟩]⟩) (fun j=>j≤2∧(1≤j→¬(2≤(l.drop p).length∧DI.contains ((l.drop p).take 2)=true))∧(2≤j→¬(DI.contains ((l.drop p).take 1)=true))) (fun j=>2-j) 0 ?_ ⟨by omega,by omega,by omega⟩ (fun j hj=>?_)
    ·simp only[AP,Ad,Nat.reduceEqDiff,reduceCtorEq]
     (repeat' (first|(with_reducible refine aI ?_ ?_)|(first|(first|refine gF ?_ ?_|refine gT ?_ ?_|refine cI ?_ ?_|refine pI ?_ ?_)<;>intro h|(refine dI ?_;have h:=trivial))<;>simp only[h,Ad,An,Bv,Bf,Nat.reduceAdd,Nat.reduceSub,Nat.reduceMul,Nat.reduceLT,Nat.reduceLeDiff,Nat.reduceEqDiff,reduceCtorEq,List.reduceReplicate,Int.reduceToNat,Int.reduceLE,Int.reduceLT]))
     all_goals first|rfl|exact .inl rfl
    ·obtain⟨hj1,hj2,hj3⟩:=hj
     match j,hj1 with
     |0,_=>
      have w1:IntKind.i64.wrap ((p:Int)+((2-0:Nat):Int))=((p+2:Nat):Int):=(A7 (by omega) (by omega)).trans (by omega);have c1:decide ((1:Int)≤((2-0:Nat):Int))=true:=by decide
      have d1:decide (((p+2:Nat):Int)≤(l.length:Int))=decide (p+2≤l.length):=by
       by_cases h:p+2≤l.length
       ·rw[decide_eq_true h,decide_eq_true];omega
       ·rw[decide_eq_false h,decide_eq_false];omega
      have ws:IntKind.i64.wrap (((2-0:Nat):Int)-1)=((2-1:Nat):Int):=by decide
      simp only[w1,AP,c1,d1,Ad,An,Nat.reduceLT,Nat.reduceEqDiff,reduceCtorEq]
      (repeat' (first|(with_reducible refine aI ?_ ?_)|(first|(first|refine gF ?_ ?_|refine gT ?_ ?_|refine cI ?_ ?_|refine pI ?_ ?_)<;>intro h|(refine dI ?_;have h:=trivial))<;>simp only[h,w1,hmd,Ad,An,Nat.reduceLT,Nat.reduceEqDiff,reduceCtorEq,ea,Bv,Bf,Nat.reduceAdd,Nat.reduceSub,Nat.reduceMul,Nat.reduceLeDiff,List.reduceReplicate,Int.reduceToNat,Int.reduceLE,Int.reduceLT]))
      all_goals try (((try simp only[decide_eq_true_eq,decide_eq_false_iff_not]at *)<;>(try omega));done)
      ·have hle:p+2≤l.length:=of_decide_eq_true (by assumption)
       (repeat' (with_reducible refine aI ?_ ?_))
       all_goals try omega
       refine Ae.intro b44 rfl (JT _) ?_;have etk:p+2-p=2:=by omega
       rw[etk];cases hmk:DI.contains (List.take 2 (List.drop p l))with
       |true=>
        have hM:Cw (l.drop p)=2:=by rw[hmr];rw[if_pos ⟨by omega,hmk⟩]
        rw[hM,if_neg (by decide)]at hh;simp only[w1,hmd,etk,Ad,An,Nat.reduceAdd,Nat.reduceLT,Nat.reduceLeDiff,Nat.reduceEqDiff,reduceCtorEq]
        (repeat' (first|(with_reducible refine aI ?_ ?_)|(first|(first|refine gF ?_ ?_|refine gT ?_ ?_|refine cI ?_ ?_|refine pI ?_ ?_)<;>intro h|(refine dI ?_;have h:=trivial))<;>simp only[h,w1,ea,hmd,etk,Ad,An,Bv,Bf,Nat.reduceAdd,Nat.reduceSub,Nat.reduceMul,Nat.reduceLT,Nat.reduceLeDiff,Nat.reduceEqDiff,reduceCtorEq,List.reduceReplicate,Int.reduceToNat,Int.reduceLE,Int.reduceLT]))
        all_goals try omega
        rw[hh];simp only[Ez,CO,AD.av,AI,Ad]
        all_goals first|done|rfl|trace_state
       |false=>
        simp only[Ad,Nat.reduceLT,Nat.reduceEqDiff,reduceCtorEq];refine Cg.intro 1 ⟨by omega,?_,?_⟩ ?_ (by omega)
        ·intro _;first|(rintro⟨_,q⟩;cases q;done)|(rintro⟨_,q⟩;simp_all;done)|simp_all
        ·intro _;omega
        ·simp only[ws,Ad,Nat.reduceSub,Nat.reduceEqDiff,reduceCtorEq]
         (repeat' (first|(with_reducible refine aI ?_ ?_)|(first|(first|refine gF ?_ ?_|refine gT ?_ ?_|refine cI ?_ ?_|refine pI ?_ ?_)<;>intro h|(refine dI ?_;have h:=trivial))<;>simp only[h,Ad,An,Bv,Bf,Nat.reduceAdd,Nat.reduceSub,Nat.reduceMul,Nat.reduceLT,Nat.reduceLeDiff,Nat.reduceEqDiff,reduceCtorEq,List.reduceReplicate,Int.reduceToNat,Int.reduceLE,Int.reduceLT]))
         all_goals first|rfl|exact .inl rfl|trace_state
      ·have hgt:¬p+2≤l.length:=of_decide_eq_false (by assumption);refine Cg.intro 1 ⟨by omega,fun _=>by rintro⟨q,_⟩;omega,by omega⟩ ?_ (by omega);simp only[ws,Ad,Nat.reduceSub,Nat.reduceEqDiff,reduceCtorEq]
       (repeat' (first|(with_reducible refine aI ?_ ?_)|(first|(first|refine gF ?_ ?_|refine gT ?_ ?_|refine cI ?_ ?_|refine pI ?_ ?_)<;>intro h|(refine dI ?_;have h:=trivial))<;>simp only[h,Ad,An,Bv,Bf,Nat.reduceAdd,Nat.reduceSub,Nat.reduceMul,Nat.reduceLT,Nat.reduceLeDiff,Nat.reduceEqDiff,reduceCtorEq,List.reduceReplicate,Int.reduceToNat,Int.reduceLE,Int.reduceLT]))
       all_goals first|rfl|exact .inl rfl|trace_state
     |1,_=>
      have w1:IntKind.i64.wrap ((p:Int)+((2-1:Nat):Int))=((p+1:Nat):Int):=(A7 (by omega) (by omega)).trans (by omega);have c1:decide ((1:Int)≤((2-1:Nat):Int))=true:=by decide
      have d1:decide (((p+1:Nat):Int)≤(l.length:Int))=decide (p+1≤l.length):=by
       by_cases h:p+1≤l.length
       ·rw[decide_eq_true h,decide_eq_true];omega
       ·rw[decide_eq_false h,decide_eq_false];omega
      have ws:IntKind.i64.wrap (((2-1:Nat):Int)-1)=((2-2:Nat):Int):=by decide
      simp only[w1,AP,c1,d1,Ad,An,Nat.reduceSub,Nat.reduceLT,Nat.reduceEqDiff,reduceCtorEq]
      (repeat' (first|(with_reducible refine aI ?_ ?_)|(first|(first|refine gF ?_ ?_|refine gT ?_ ?_|refine cI ?_ ?_|refine pI ?_ ?_)<;>intro h|(refine dI ?_;have h:=trivial))<;>simp only[h,w1,hmd,Ad,An,Nat.reduceLT,Nat.reduceEqDiff,reduceCtorEq,ea,Bv,Bf,Nat.reduceAdd,Nat.reduceSub,Nat.reduceMul,Nat.reduceLeDiff,List.reduceReplicate,Int.reduceToNat,Int.reduceLE,Int.reduceLT]))
      all_goals try (((try simp only[decide_eq_true_eq,decide_eq_false_iff_not]at *)<;>(try omega));done)
      ·have hle:p+1≤l.length:=of_decide_eq_true (by assumption)
       (repeat' (with_reducible refine aI ?_ ?_))
       all_goals try omega
       refine Ae.intro b44 rfl (JT _) ?_;have etk:p+1-p=1:=by omega
       rw[etk];cases hmk:DI.contains (List.take 1 (List.drop p l))with
       |true=>
        have hM:Cw (l.drop p)=1:=by rw[hmr];rw[if_neg (hj2 (by omega)),if_pos hmk]
        rw[hM,if_neg (by decide)]at hh;simp only[w1,hmd,etk,Ad,An,Nat.reduceAdd,Nat.reduceLT,Nat.reduceLeDiff,Nat.reduceEqDiff,reduceCtorEq]
        (repeat' (first|(with_reducible refine aI ?_ ?_)|(first|(first|refine gF ?_ ?_|refine gT ?_ ?_|refine cI ?_ ?_|refine pI ?_ ?_)<;>intro h|(refine dI ?_;have h:=trivial))<;>simp only[h,w1,ea,hmd,etk,Ad,An,Bv,Bf,Nat.reduceAdd,Nat.reduceSub,Nat.reduceMul,Nat.reduceLT,Nat.reduceLeDiff,Nat.reduceEqDiff,reduceCtorEq,List.reduceReplicate,Int.reduceToNat,Int.reduceLE,Int.reduceLT]))
        all_goals try omega
        rw[hh];simp only[Ez,CO,AD.av,AI,Ad]
        all_goals first|done|rfl|trace_state
       |false=>
        simp only[Ad,Nat.reduceLT,Nat.reduceEqDiff,reduceCtorEq];refine Cg.intro 2 ⟨by omega,?_,?_⟩ ?_ (by omega)
        ·intro _;exact hj2 (by omega)
        ·intro _;first|decide|(rw[hmk];decide)|simp_all
        ·simp only[ws,Ad,Nat.reduceSub,Nat.reduceEqDiff,reduceCtorEq]
         (repeat' (first|(with_reducible refine aI ?_ ?_)|(first|(first|refine gF ?_ ?_|refine gT ?_ ?_|refine cI ?_ ?_|refine pI ?_ ?_)<;>intro h|(refine dI ?_;have h:=trivial))<;>simp only[h,Ad,An,Bv,Bf,Nat.reduceAdd,Nat.reduceSub,Nat.reduceMul,Nat.reduceLT,Nat.reduceLeDiff,Nat.reduceEqDiff,reduceCtorEq,List.reduceReplicate,Int.reduceToNat,Int.reduceLE,Int.reduceLT]))
         all_goals first|rfl|exact .inl rfl|trace_state
     |2,_=>
      have c1:decide ((1:Int)≤((2-2:Nat):Int))=false:=by decide
      have hM:Cw (l.drop p)=0:=by rw[hmr,if_neg (hj2 (by omega)),if_neg (hj3 (by omega))]
      rw[hM,if_pos rfl]at hh;rw[hh];simp only[AP,c1,Ez,B0,AI,f0,Ad,An,Nat.reduceAdd,Nat.reduceSub,Nat.reduceLT,Nat.reduceLeDiff,Nat.reduceEqDiff,reduceCtorEq]
open Go Go.Ev Go.RowKit
def SY(γ:List (Nat×AV)):Prop:=∀ k,Go.Ev.look γ k=.bad∨∃ x:Value,Go.Ev.look γ k=AV.ela false [.v x]
def ZH(γ:List (Nat×AV))(W:World):Prop:=∀ k x,Go.Ev.look γ k=AV.ela false [.v x]→k<W.heap.size∧W.cell? ⟨k,0,none⟩=some x
theorem Pf(hγ:SY γ){W:World}(h:ZH γ W){c:Cx}(hw:c.w=W)(hok:∀ r,r<W.heap.size→c.ok false r)(k:Nat):A6 (Go.Ev.look γ k)=true∧rel (Go.Ev.look γ k) c (.pointer (some ⟨k,0,none⟩)):=by
 rcases hγ k with e|⟨x,e⟩
 ·rw[e];exact⟨rfl,by simp only[rel]⟩
 ·obtain⟨h1,h2⟩:=h k x e;rw[e];refine⟨by simp[A6],?_⟩;simp only[rel,AY];exact⟨k,0,rfl,hok k h1,⟨x,by show c.w.cell? _=_;rw[hw];exact h2,rfl⟩,trivial⟩
theorem VU{c:Cx}{W:World}(hw:c.w=W)(hlt:∀ r,c.ok false r→r<W.heap.size)(h:∀ k,rel (Go.Ev.look γ k) c (.pointer (some ⟨k,0,none⟩))):ZH γ W:=by
 intro k x e;have:=h k;rw[e]at this;simp only[rel,AY,Cx.shut]at this;obtain⟨r,off,e1,h2,⟨u,h3,rfl⟩,_⟩:=this;cases e1;exact⟨hlt _ h2,by rw[←hw];exact h3⟩
theorem Lo{c c':Cx}(hw:c'.w=c.w){r:Nat}:∀ (l:List UInt8) (off:Nat),AY (l.map Ai) c r off→AY (l.map Ai) c' r off
 |[],_,_=>trivial
 |x::l,off,h=>by
  simp only[BA,AY]at h⊢;refine⟨?_,Lo hw l (off+1) h.2⟩;obtain⟨u,h1,h2⟩:=h.1;exact⟨u,by rw[hw];exact h1,by simpa[Ai,rel]using h2⟩
theorem O6{c c':Cx}(hw:c'.w=c.w){b b':Bool}{l:List UInt8}{n m:Nat}{u:Value}(hok:∀ r,c.ok b r→c'.ok b' r)(h:rel (.sl b n m (l.map Ai)) c u):rel (.sl b' n m (l.map Ai)) c' u:=by
 simp only[rel]at h⊢;obtain⟨r,off,cap,e,h1,h2,h3,h4⟩:=h;exact⟨r,off,cap,e,h1,h2,hok r h3,Lo (by exact hw) l off h4⟩
def fP(P:Program)(W:World):Cx:=K8 P (fun _=>False) (fun _=>True) W
def Kp(γ:List (Nat×AV))(l:List UInt8)(Nb:Nat)(W:World):Prop:=
 (∃ u fr,W.heap[Nb]?=some (.cells #[u] 37 fr)∧rel (.sl false l.length l.length (l.map Ai)) (fP Tp W) u)∧ZH γ W
def Ag(l:List UInt8):List ((AD×Nat)×Int):=if 32768<l.length then [((zeroT,0),3)]else Cn (l.length+1) l 0
def Dp(L:List ((AD×Nat)×Int))(k:Nat):(AD×Nat)×Int:=L.getD k ((zeroT,0),0)
def Oo(x:(AD×Nat)×Int):Value×Value:=(Qr x.1.1 x.1.2,.int .i64 x.2)
def EZ(l:List UInt8):AV:=.ela true [.sl false l.length l.length (l.map Ai)]
def Eu(P:Program)(W:World)(Nb:Nat)(h:Nb<W.heap.size):Fix:=JK P W (fun r=>r=Nb) (fun r e=>e▸h)
theorem Dw{l:List UInt8}{Nb:Nat}{W:World}(h:Kp γ l Nb W):Nb<W.heap.size:=by
 obtain⟨⟨u,fr,h1,_⟩,_⟩:=h;exact (BP.1 h1).1
theorem PY{l:List UInt8}{Nb:Nat}{W:World}(h:Kp γ l Nb W):rel (EZ l) (cx (Eu Tp W Nb (Dw h)) [] [] W) (.pointer (some ⟨Nb,0,none⟩)):=by
 have hlt:=Dw h;obtain⟨⟨u,fr,h1,h2⟩,_⟩:=h;unfold EZ;rw[rel];refine⟨Nb,0,rfl,⟨hlt,by simp,?_⟩,?_⟩
 ·show Nb=Nb;rfl
 ·simp only[AY];refine⟨⟨u,?_,?_⟩,trivial⟩
  ·show W.cell? _=_
   unfold World.cell?;simp only[h1];rfl
  ·exact O6 (c:=fP Tp W) (c':=Cx.shut (cx (Eu Tp W Nb hlt) [] [] W)) (b:=false) (b':=false) rfl (fun r hr=>⟨hr.1,by simp,by show ¬False;exact fun h=>h⟩) h2
theorem Pp{l:List UInt8}{Nb:Nat}{W W1:World}{hlt:Nb<W.heap.size}{φ:List Nat}{h:List Aa}{u:Value}(hr:rel (EZ l) (cx (Eu Tp W Nb hlt) φ h W1) u)(hc:∃ v fr,W1.heap[Nb]?=some (.cells #[v] 37 fr)):u=.pointer (some ⟨Nb,0,none⟩):=by
 unfold EZ at hr;simp only[rel,AY]at hr;obtain⟨r,off,e,⟨_,_,hB⟩,⟨x,h2,_⟩,_⟩:=hr;have hr':r=Nb:=hB;subst hr';obtain⟨v,fr,hh⟩:=hc
 have:off=0:=by
  simp only[Cx.shut,cx,World.cell?,hh]at h2;have h3:(if false=true then none else (#[v]:Array Value)[off]?)=some x:=h2;have h4:=(BP.1 (show (#[v]:Array Value)[off]?=some x from h3)).1;simp at h4
  omega
 rw[e,this]
end Go.Proofs.YtlobiioioicmhaaGreatDoor
