/- A part of the proof. -/
import Derived.Test.YtlobiioioicmhaaGreatDoorCQ13
set_option linter.all false
set_option maxHeartbeats 8000000
namespace Go.Proofs.YtlobiioioicmhaaGreatDoor
open _root_.Bool renaming not_true→Bv,not_false→Bf
open _root_.List renaming getElem?_eq_some_iff→Bs,getElem?_append_left→Ba,getElem?_set_self→Be,getElem?_set_ne→Bn,length_set→Bl,append_assoc→Bo,cons_append→Bc,nil_append→Bi,getElem?_map→Bm,getElem?_eq_none→Bq,set_append_left→Bg,take_of_length_le→Bt
open _root_.Nat renaming le_refl→BL,zero_le→BN
open Go.Proofs.Tryz renaming prog→Tp
open Go Go.Ev
set_option maxRecDepth 20000
variable {γ:List (Nat×AV)} {ts:List Tk} {L:AV}
theorem KT{E:AV→St→Prop}{d:Option Tmp}{K:St→Prop}{s:St}{h:List Aa}{i p n:Nat}{w:List UInt8}(hE:FC γ L ts)(hp:p≤ts.length)(hr:RD h i L p n)(hg:s.s.g=γ)(hh:s.h=h)
  (yes:HP ts p w=true→∀ h1,Fr (AU i) h h1→RD h1 i L (p+1) n→p+1≤ts.length→K (pt ⟨s.s,h1⟩ d (.v (.bool true))))
  (no:HP ts p w=false→∀ h1,Fr (AU i) h h1→RD h1 i L p n→K (pt ⟨s.s,h1⟩ d (.v (.bool false)))):Ao Tp E 131 [.ptr i 0 0,.v (.string ⟨w.toArray⟩)] d K s:=by
 subst hg;subst hh;refine Ao.intro c131 _ (IY hE hp hr w) (fun r h1 hh=>?_) (fun v h1 hh=>by cases hh.1);obtain⟨e,f1,r1⟩:=hh;cases e;cases hB:HP ts p w with
 |true=>rw[hB]at r1;rw[if_pos rfl]at r1;exact yes hB h1 f1 r1 (CJ hB)
 |false=>rw[hB]at r1;rw[if_neg (by decide)]at r1;exact no hB h1 f1 r1
theorem JT{E:AV→St→Prop}{d:Option Tmp}{K:St→Prop}{s:St}{h:List Aa}{i p n:Nat}{w:List UInt8}(hE:FC γ L ts)(hp:p≤ts.length)(hr:RD h i L p n)(hg:s.s.g=γ)(hh:s.h=h)
  (yes:HP ts p w=true→∀ h1,Fr (AU i) h h1→RD h1 i L (p+1) n→p+1≤ts.length→K (pt ⟨s.s,h1⟩ d (.tup [])))
  (no:HP ts p w=false→∀ h1,Fr (AU i) h h1→E (H9 (IJ ts n p) 80) ⟨s.s,h1⟩):Ao Tp E 128 [.ptr i 0 0,.v (.string ⟨w.toArray⟩)] d K s:=by
 subst hg;subst hh;refine Jw gK (K8 hE hp hr w) (fun x q a h1 e f1 r1 hA=>?_) (fun q e' h1 e f1=>?_)
 ·unfold AR at e
  split at e
  ·rename_i hB;cases e;subst hA;exact yes hB h1 f1 r1 (CJ hB)
  ·cases e
 ·unfold AR at e
  split at e
  ·cases e
  ·rename_i hB;cases e;exact no (by simpa using hB) h1 f1
theorem PD{E:AV→St→Prop}{d:Option Tmp}{K:St→Prop}{s:St}{h:List Aa}{i p n:Nat}(hE:FC γ L ts)(hp:p≤ts.length)(hr:RD h i L p n)(hg:s.s.g=γ)(hh:s.h=h)
  (yes:∀ nm q h1,Eg ts p=.ok nm q→Fr (AU i) h h1→RD h1 i L q n→p+1≤q→q≤ts.length→K (pt ⟨s.s,h1⟩ d (.v (.string ⟨nm.toArray⟩))))
  (no:∀ q e h1,Eg ts p=.bad q e→Fr (AU i) h h1→E (H9 (IJ ts n q) e) ⟨s.s,h1⟩):Ao Tp E 129 [.ptr i 0 0] d K s:=by
 subst hg;subst hh;have adv:=CB hp;refine Jw cC (KF hE hp hr) (fun x q a h1 e f1 r1 hA=>?_) (fun q e' h1 e f1=>no q e' h1 e f1);subst hA;rw[e]at adv;exact yes x q h1 e f1 r1 adv.1 adv.2
theorem iY{E:AV→St→Prop}{d:Option Tmp}{K:St→Prop}{s:St}{h:List Aa}{i p n:Nat}(hE:FC γ L ts)(hp:p≤ts.length)(hr:RD h i L p n)(hg:s.s.g=γ)(hh:s.h=h)
  (yes:∀ x q h1,FY ts p=.ok x q→Fr (AU i) h h1→RD h1 i L q n→p+1≤q→q≤ts.length→K (pt ⟨s.s,h1⟩ d (.agg [Ab x])))
  (no:∀ q e h1,FY ts p=.bad q e→Fr (AU i) h h1→E (H9 (IJ ts n q) e) ⟨s.s,h1⟩):Ao Tp E 132 [.ptr i 0 0] d K s:=by
 subst hg;subst hh;have adv:=GV hp;refine Jw mT (Ts hE hp hr) (fun x q a h1 e f1 r1 hA=>?_) (fun q e' h1 e f1=>no q e' h1 e f1);have hA:a=.agg [Ab x]:=hA;subst hA;rw[e]at adv;exact yes x q h1 e f1 r1 adv.1 adv.2
theorem iQ{E:AV→St→Prop}{d:Option Tmp}{K:St→Prop}{s:St}{h:List Aa}{i p n:Nat}(hE:FC γ L ts)(hp:p≤ts.length)(hr:RD h i L p n)(hg:s.s.g=γ)(hh:s.h=h)
  (yes:∀ x q A h1,Mp ts p=.ok x q→Fr (AU i) h h1→RD h1 i L q n→p+1≤q→q≤ts.length→Rd (Old h.length) h1 (E3 x) A→K (pt ⟨s.s,h1⟩ d A))
  (no:∀ q e h1,Mp ts p=.bad q e→Fr (AU i) h h1→E (H9 (IJ ts n q) e) ⟨s.s,h1⟩):Ao Tp E 203 [.ptr i 0 0] d K s:=by
 subst hg;subst hh;have adv:=Oq hp;refine Jw c203 (bM hE hp hr) (fun x q a h1 e f1 r1 hA=>?_) (fun q e' h1 e f1=>no q e' h1 e f1);rw[e]at adv;exact yes x q a h1 e f1 r1 adv.1 adv.2 hA
theorem oM:Ak Tp 133:=⟨_,Tryz.func133,by kernel_rfl,by kernel_rfl⟩
def bdS(γ:List (Nat×AV))(i:Nat)(y:Nat×AV×List Aa):St:=⟨⟨53,[(0,.ptr i 0 0),(2,y.2.1)],γ⟩,y.2.2⟩
def Io(i n0:Nat)(k:Nat):Prop:=k=i∨n0≤k
theorem Io.i{i n0:Nat}{h h':List Aa}(f:Fr (AU i) h h'):Fr (Io i n0) h h':=f.mono fun k e=>.inl e
theorem Io.fin{i:Nat}{h h':List Aa}(f:Fr (Io i h.length) h h'):Fr (AU i) h h':=⟨f.1,fun k hk hn=>f.2 k hk fun e=>e.elim hn fun e=>by omega⟩
theorem Cz{S:Nat→Prop}{h:List Aa}{n:Nat}{cs:List AV}{A:AV}(a:Rd S h (IP n cs) A):Cl A=true∧flat A=some [A]:=by
 have:=a.fz;cases n with
 |zero=>simp only[IP,Go.Ev.fz]at this;subst this;exact⟨rfl,rfl⟩
 |succ n=>
  simp only[IP,Go.Ev.fz]at this
  rcases this with rfl|⟨_,i,k,xs,rfl,_⟩<;>exact⟨rfl,rfl⟩
theorem Sa(E:FC γ L ts){h:List Aa}{i p n:Nat}(hp:p≤ts.length)(hr:RD h i L p n):
  Ck Tp γ 133 [.ptr i 0 0] h (E9 ts n L i h (TP JV h.length) (Eu ts p)):=by
 have hil:=hr.lt;have hn:=E.n;refine Ck.of Tryz.func133 rfl ?_;simp only[Tryz.f133,Af,seval];refine JT (w:=[123]) E hp hr ?_ ?_ (fun hB h1 f1 r1 hp1=>?_) (fun hB h1 f1=>?_)
 ·rfl
 ·rfl
 rotate_left
 ·have:Eu ts p=.bad p 80:=by unfold Eu AR;rw[hB];rfl
  rw[this];exact⟨f1,rfl⟩
 have eD:Eu ts p=DI ts (ts.length+1) [] (p+1):=by unfold Eu AR;rw[hB];rfl
 rw[eD];generalize hR:DI ts (ts.length+1) [] (p+1)=R;simp only[AH,Af,seval]
 refine Cp.intro (bdS γ i) (fun y=>∃ xs f,y.1≤ts.length∧xs.length≤y.1∧RD y.2.2 i L y.1 n∧GL h.length 135 5 y.2.2 y.2.1 xs.length (xs.flatMap Ac.cells)∧Fr (Io i h.length) h y.2.2∧DI ts f xs y.1=R∧ts.length<f+y.1) (fun y=>ts.length+1-y.1) (p+1,.v (.slice none 0 0),h1) ⟨rfl,rfl,⟨rfl,rfl,trivial⟩,rfl⟩
  ⟨[],ts.length+1,hp1,by simp,r1,GL.nil,Io.i f1,hR,by show ts.length<ts.length+1+(p+1);omega⟩ (fun y hy=>?_)
 clear hR eD f1 r1 hB hp1 hp hr;obtain⟨p,N,h4⟩:=y;obtain⟨xs,f,hp,hx4,r4,G4,F4,hR,hf⟩:=hy;simp only at hp hx4 r4 G4 F4 hR hf;obtain⟨f,rfl⟩:∃ g,f=g+1:=⟨f-1,by omega⟩;rw[DI]at hR;have hi4:=r4.lt;have hF4:=F4.1;simp only[bdS,Af,seval];refine KT (w:=[125]) E hp (r4.app [⟨0,135,[.v (.int .i64 0),.v (.slice none 0 0),.v (.string ⟨#[]⟩),.v (.string ⟨#[]⟩),.v (.slice none 0 0)]⟩]) ?_ ?_ (fun hB h5 f5 r5 hp5=>?_) (fun hB h5 f5 r5=>?_)
 ·rfl
 ·rfl
 ·rw[if_pos hB]at hR;rw[←hR];simp only[Af,seval];exact⟨Io.fin (F4.trans (Io.i (n0:=h4.length) f5.pre) fun k e=>e.elim (fun e=>.inl (.inl e)) fun e=>.inl (.inr (by omega))),N,rfl,r5,G4.rdS f5.pre (fun k e _=>by have e:k=i:=e;omega) (BL _)⟩
 rw[if_neg (by rw[hB];decide)]at hR;have ka5:h5[h4.length]?=some ⟨0,135,[.v (.int .i64 0),.v (.slice none 0 0),.v (.string ⟨#[]⟩),.v (.string ⟨#[]⟩),.v (.slice none 0 0)]⟩:=f5.at (Ap _ _ _) (fun e=>by have e:h4.length=i:=e;omega);have FF5:Fr (Io i h4.length) h4 h5:=Io.i f5.pre;clear f5;simp only[Af,seval];refine KT (w:=KC) E hp r5 ?_ ?_ (fun hS h6 f6 r6 hp6=>?_) (fun hS h6 f6 r6=>?_)
 ·rfl
 ·rfl
 ·have ka6:=f6.at ka5 (fun e=>by have e:h4.length=i:=e;omega);have FF6:=FF5.trans (Io.i (n0:=h4.length) f6) fun k e=>.inl e
  simp only[Af,seval];refine iY E hp6 r6 ?_ ?_ (fun x q7 h7 e7 f7 r7 a7 b7=>?_) (fun q e' h7 e7 f7=>?_)
  ·rfl
  ·rfl
  rotate_left
  ·have:E6 ts p=.bad q e':=by unfold E6;rw[if_pos hS];simp only[e7,DR.bind]
   rw[this]at hR;rw[←hR];exact⟨Io.fin (F4.trans (FF6.trans (Io.i f7) fun k e=>.inl e) fun k e=>e.elim (fun e=>.inl (.inl e)) fun e=>.inl (.inr (by have:=F4.1;omega))),rfl⟩
  have FF7:=FF6.trans (Io.i (n0:=h4.length) f7) fun k e=>.inl e
  have ka7:=f7.at ka6 (fun e=>by have e:h4.length=i:=e;omega);have hone:Cl (Ab x)=true:=by cases x<;>rfl
  have hflat:flat (Ab x)=some [Ab x]:=by cases x<;>rfl
  simp only[AH,ka7,Aj,hone,Af,seval];obtain⟨ka8,r8,FF8⟩:(h7.set h4.length (⟨0,135,[.v (.int .i64 1),Ab x,.v (.string ⟨#[]⟩),.v (.string ⟨#[]⟩),.v (.slice none 0 0)]⟩:Aa))[h4.length]?=some (⟨0,135,[.v (.int .i64 1),Ab x,.v (.string ⟨#[]⟩),.v (.string ⟨#[]⟩),.v (.slice none 0 0)]⟩:Aa)∧RD (h7.set h4.length (⟨0,135,[.v (.int .i64 1),Ab x,.v (.string ⟨#[]⟩),.v (.string ⟨#[]⟩),.v (.slice none 0 0)]⟩:Aa)) i L q7 n∧Fr (Io i h4.length) h4 (h7.set h4.length (⟨0,135,[.v (.int .i64 1),Ab x,.v (.string ⟨#[]⟩),.v (.string ⟨#[]⟩),.v (.slice none 0 0)]⟩:Aa)):=⟨Be (Bs.1 ka7).1,(Bn (by omega)).trans r7,FF7.trans (Fr.set (S:=Io i h4.length) _ (.inr (BL _))) fun k e=>.inl e⟩;generalize h7.set h4.length (⟨0,135,[.v (.int .i64 1),Ab x,.v (.string ⟨#[]⟩),.v (.string ⟨#[]⟩),.v (.slice none 0 0)]⟩:Aa)=h8 at ka8 r8 FF8⊢;refine PD E b7 r8 ?_ ?_ (fun nm q9 h9 e9 f9 r9 a9 b9=>?_) (fun q e' h9 e9 f9=>?_)
  ·rfl
  ·rfl
  rotate_left
  ·have:E6 ts p=.bad q e':=by unfold E6;rw[if_pos hS];simp only[e7,e9,DR.bind]
   rw[this]at hR;rw[←hR];exact⟨Io.fin (F4.trans (FF8.trans (Io.i f9) fun k e=>.inl e) fun k e=>e.elim (fun e=>.inl (.inl e)) fun e=>.inl (.inr (by have:=F4.1;omega))),rfl⟩
  have FF9:=FF8.trans (Io.i (n0:=h4.length) f9) fun k e=>.inl e
  have ka9:=f9.at ka8 (fun e=>by have e:h4.length=i:=e;omega);simp only[AH,ka9,Aj,Af,A7,seval];obtain⟨ka10,r10,FF10⟩:(h9.set h4.length (⟨0,135,[.v (.int .i64 1),Ab x,.v (.string ⟨nm.toArray⟩),.v (.string ⟨#[]⟩),.v (.slice none 0 0)]⟩:Aa))[h4.length]?=some (⟨0,135,[.v (.int .i64 1),Ab x,.v (.string ⟨nm.toArray⟩),.v (.string ⟨#[]⟩),.v (.slice none 0 0)]⟩:Aa)∧RD (h9.set h4.length (⟨0,135,[.v (.int .i64 1),Ab x,.v (.string ⟨nm.toArray⟩),.v (.string ⟨#[]⟩),.v (.slice none 0 0)]⟩:Aa)) i L q9 n∧Fr (Io i h4.length) h4 (h9.set h4.length (⟨0,135,[.v (.int .i64 1),Ab x,.v (.string ⟨nm.toArray⟩),.v (.string ⟨#[]⟩),.v (.slice none 0 0)]⟩:Aa)):=⟨Be (Bs.1 ka9).1,(Bn (by omega)).trans r9,FF9.trans (Fr.set (S:=Io i h4.length) _ (.inr (BL _))) fun k e=>.inl e⟩;generalize h9.set h4.length (⟨0,135,[.v (.int .i64 1),Ab x,.v (.string ⟨nm.toArray⟩),.v (.string ⟨#[]⟩),.v (.slice none 0 0)]⟩:Aa)=h10 at ka10 r10 FF10⊢;refine iQ E b9 r10 ?_ ?_ (fun l q11 A h11 e11 f11 r11 a11 b11 rA=>?_) (fun q e' h11 e11 f11=>?_)
  ·rfl
  ·rfl
  rotate_left
  ·have:E6 ts p=.bad q e':=by unfold E6;rw[if_pos hS];simp only[e7,e9,e11,DR.bind]
   rw[this]at hR;rw[←hR];exact⟨Io.fin (F4.trans (FF10.trans (Io.i f11) fun k e=>.inl e) fun k e=>e.elim (fun e=>.inl (.inl e)) fun e=>.inl (.inr (by have:=F4.1;omega))),rfl⟩
  have FF11:=FF10.trans (Io.i (n0:=h4.length) f11) fun k e=>.inl e
  have ka11:=f11.at ka10 (fun e=>by have e:h4.length=i:=e;omega);obtain⟨hone2,hflat2⟩:=Cz rA;simp only[AH,ka11,Aj,hflat2,Af,seval];obtain⟨ka12,r12,FF12⟩:(h11.set h4.length (⟨0,135,[.v (.int .i64 1),Ab x,.v (.string ⟨nm.toArray⟩),.v (.string ⟨#[]⟩),A]⟩:Aa))[h4.length]?=some (⟨0,135,[.v (.int .i64 1),Ab x,.v (.string ⟨nm.toArray⟩),.v (.string ⟨#[]⟩),A]⟩:Aa)∧RD (h11.set h4.length (⟨0,135,[.v (.int .i64 1),Ab x,.v (.string ⟨nm.toArray⟩),.v (.string ⟨#[]⟩),A]⟩:Aa)) i L q11 n∧Fr (Io i h4.length) h4 (h11.set h4.length (⟨0,135,[.v (.int .i64 1),Ab x,.v (.string ⟨nm.toArray⟩),.v (.string ⟨#[]⟩),A]⟩:Aa)):=⟨Be (Bs.1 ka11).1,(Bn (by omega)).trans r11,FF11.trans (Fr.set (S:=Io i h4.length) _ (.inr (BL _))) fun k e=>.inl e⟩;have rA2:=rA.up (S':=Old (h4.length+1)) (Fr.set (S:=AU h4.length) (h:=h11) (⟨0,135,[.v (.int .i64 1),Ab x,.v (.string ⟨nm.toArray⟩),.v (.string ⟨#[]⟩),A]⟩:Aa) rfl) (fun k e _=>by have e:k=h4.length:=e;have:=(Bs.1 ka10).1;show k<h10.length;omega) (fun k e _=>by have e:k<h4.length+1:=e;have:=(Bs.1 ka10).1;show k<h10.length;omega);generalize h11.set h4.length (⟨0,135,[.v (.int .i64 1),Ab x,.v (.string ⟨nm.toArray⟩),.v (.string ⟨#[]⟩),A]⟩:Aa)=h12 at ka12 r12 FF12 rA2⊢;obtain⟨ac,A,qz,hz,ez,hact,kaz,rAz,rz,FFz,hqz⟩:∃ (ac:Ac) (A:AV) (qz:Nat) (hz:List Aa),hz=h12∧E6 ts p=.ok ac qz∧hz[h4.length]?=some ⟨0,135,[AA ac.kind,Ab ac.to,Ae ac.name,Ae ac.var,A]⟩∧Rd (Old (h4.length+1)) hz (E3 ac.args) A∧RD hz i L qz n∧Fr (Io i h4.length) h4 hz∧p+1≤qz∧qz≤ts.length:=⟨⟨1,x,nm,[],l⟩,A,q11,h12,rfl,by unfold E6;rw[if_pos hS];simp only[e7,e9,e11,DR.bind],ka12,rA2,r12,FF12,by omega,by omega⟩;subst ez;rw[hact]at hR;have eR2:(DR.ok ac qz).bind (fun a p1=>(AR ts [59] p1).bind fun x p2=>DI ts f (xs++[a]) p2)=(AR ts [59] qz).bind fun x p2=>DI ts f (xs++[ac]) p2:=rfl
  rw[eR2]at hR;refine JT (w:=[59]) E hqz.2 rz ?_ ?_ (fun hW hy fy ry hpy=>?_) (fun hW hy fy=>?_)
  ·rfl
  ·rfl
  rotate_left
  ·unfold AR at hR;rw[if_neg (by rw[hW];decide)]at hR;rw[←hR];exact⟨Io.fin (F4.trans (FFz.trans (Io.i fy) fun k e=>.inl e) fun k e=>e.elim (fun e=>.inl (.inl e)) fun e=>.inl (.inr (by have:=F4.1;omega))),rfl⟩
  have hR':DI ts f (xs++[ac]) (qz+1)=R:=by rw[←hR];unfold AR;rw[if_pos hW];rfl
  have FFy:=FFz.trans (Io.i (n0:=h4.length) fy) fun k e=>.inl e
  have kay:=fy.at kaz (fun e=>by have e:h4.length=i:=e;omega);have rAy:=rAz.up (S':=Old (h4.length+1)) fy (fun k e _=>by have e:k=i:=e;show k<h4.length+1;omega) (fun k e _=>e);have Gy:GL h.length 135 5 hy N xs.length (xs.flatMap Ac.cells):=G4.fr FFy (fun k e hk=>e.elim (fun e=>⟨by omega,fun hn=>by have:=(G4.lt hn).1;omega⟩) fun e=>by omega);obtain⟨honeA,hflatA⟩:=Cz rAy;have honeT:Cl (Ab ac.to)=true:=by cases ac.to<;>rfl
  have hflatT:flat (Ab ac.to)=some [Ab ac.to]:=by cases ac.to<;>rfl
  have hel:AE (fun k=>k<h.length∨AZ N k) hy ac.cells [AA ac.kind,Ab ac.to,Ae ac.name,Ae ac.var,A]:=AE.cons (Rd.int _) (AE.cons (Rd.nodes _) (AE.cons (Rd.str _) (AE.cons (Rd.str _) (AE.cons (rAy.up (Fr.refl BR hy) (fun k e=>e.elim) fun k e hk=>by
   show k<h4.length+1
   rcases e with e|e
   ·omega
   ·have:=(G4.lt e).2;omega) AE.nil))))
  have hxe:(xs++[ac]).length=xs.length+1:=by simp
  have hxf:(xs++[ac]).flatMap Ac.cells=xs.flatMap Ac.cells++ac.cells:=by simp
  have hal:=(Bs.1 kay).1;have F4y:Fr (Io i h.length) h hy:=F4.trans FFy fun k e=>e.elim (fun e=>.inl (.inl e)) fun e=>.inl (.inr (by omega))
  clear hR FFz rAz rz kaz
  rcases Gy with⟨rfl,e0,e1⟩|⟨j,ver,cs,rfl,hnn,hj0,hj,hl,hrd⟩
  ·simp only[AH,kay,AA,Ae,honeA,honeT,Ap,Bo,Bc,Bi,Af,seval];have GP:=(GL.nil (n0:=h.length) (t:=135) (sz:=5) (h:=hy)).push (h':=hy++[⟨0,135,[AA ac.kind,Ab ac.to,Ae ac.name,Ae ac.var,A]⟩,⟨0,135,[AA ac.kind,Ab ac.to,Ae ac.name,Ae ac.var,A]⟩]) (j':=hy.length+1) (ver':=0) (xs:=[]) (es:=[AA ac.kind,Ab ac.to,Ae ac.name,Ae ac.var,A]) (ecs:=ac.cells) (fun j ver e=>by cases e) (fun _=>⟨by omega,rfl⟩) (by omega) (Fr.app _ _) (B1 _ _ _ _) rfl hel;exact AF.intro (qz+1,.own (hy.length+1) 0 1,_) ⟨xs++[ac],f,hpy,by rw[hxe];show xs.length+1≤qz+1;omega,ry.app _,by rw[hxe,hxf,e0,e1];exact GP,F4y.trans (Fr.app (S:=BR) _ _) fun k e=>e.elim,hR',by show ts.length<f+(qz+1);omega⟩ ⟨rfl,rfl,⟨rfl,rfl,trivial⟩,rfl⟩ (by show ts.length+1-(qz+1)<ts.length+1-p;omega)
  ·have hjl:=(Bs.1 hj).1;have hl':cs.length=xs.length * 5:=hl;have q1:∀ l,(hy++l)[j]?=some ⟨ver,135,cs⟩:=fun l=>(Ba hjl).trans hj
   have s8:∀ l c,(hy++l).set j c=hy.set j c++l:=fun l c=>Bg _ _ hjl
   have q4:List.take (xs.length * 5) cs=cs:=Bt (by omega);have q6:xs.length * 5≤cs.length:=by omega
   simp only[AH,kay,AA,Ae,honeA,honeT,Ap,q1,s8,q4,q6,Af,seval];have GP:=GL.push (h:=hy) (N:=.own j ver xs.length) (.inr ⟨j,ver,cs,rfl,hnn,hj0,hj,hl,hrd⟩) (h':=hy.set j ⟨ver+1,135,cs++[AA ac.kind,Ab ac.to,Ae ac.name,Ae ac.var,A]⟩++[⟨0,135,[AA ac.kind,Ab ac.to,Ae ac.name,Ae ac.var,A]⟩]) (j':=j) (ver':=ver+1) (xs:=cs) (es:=[AA ac.kind,Ab ac.to,Ae ac.name,Ae ac.var,A]) (ecs:=ac.cells) (fun j2 ver2 e=>by cases e;exact⟨rfl,hj⟩) (fun e=>by cases e) (by omega) ((Fr.set (S:=fun k=>k<h.length∨AZ (.own j ver xs.length) k) _ (.inr rfl)).trans (Fr.app (S:=BR) _ _) fun k e=>e.elim) ((Ba (by rw[Bl];exact hjl)).trans (Be hjl)) rfl hel;refine⟨by omega,AF.intro (qz+1,.own j (ver+1) (xs.length+1),_) ⟨xs++[ac],f,hpy,by rw[hxe];show xs.length+1≤qz+1;omega,?_,by rw[hxe,hxf];exact GP,F4y.trans ((Fr.set (S:=Io i h.length) _ (.inr hj0)).trans (Fr.app (S:=BR) _ _) fun k e=>e.elim) fun k e=>.inl e,hR',by show ts.length<f+(qz+1);omega⟩ ⟨rfl,rfl,⟨rfl,rfl,trivial⟩,rfl⟩ (by show ts.length+1-(qz+1)<ts.length+1-p;omega)⟩;exact (Ba (by rw[Bl];have:=ry.lt;omega)).trans ((Bn (by omega)).trans ry)
 have ka6:=f6.at ka5 (fun e=>by have e:h4.length=i:=e;omega);have FF6:=FF5.trans (Io.i (n0:=h4.length) f6) fun k e=>.inl e
 simp only[Af,seval];refine KT (w:=I1) E hp r6 ?_ ?_ (fun hS2 h7 f7 r7 hp7=>?_) (fun hS2 h7 f7 r7=>?_)
 ·rfl
 ·rfl
 ·have ka7:=f7.at ka6 (fun e=>by have e:h4.length=i:=e;omega);have FF7:=FF6.trans (Io.i (n0:=h4.length) f7) fun k e=>.inl e
  simp only[Af,seval];have hone:=True.intro;have hflat:=True.intro;refine PD E hp7 r7 ?_ ?_ (fun nm q8 h8 e8 f8 r8 a8 b8=>?_) (fun q e' h8 e8 f8=>?_)
  ·rfl
  ·rfl
  rotate_left
  ·have:E6 ts p=.bad q e':=by unfold E6;rw[if_neg (by rw[hS];decide)];rw[if_pos hS2];simp only[e8,DR.bind]
   rw[this]at hR;rw[←hR];exact⟨Io.fin (F4.trans (FF7.trans (Io.i f8) fun k e=>.inl e) fun k e=>e.elim (fun e=>.inl (.inl e)) fun e=>.inl (.inr (by have:=F4.1;omega))),rfl⟩
  have FF8:=FF7.trans (Io.i (n0:=h4.length) f8) fun k e=>.inl e
  have ka8:=f8.at ka7 (fun e=>by have e:h4.length=i:=e;omega);simp only[AH,ka8,Aj,Af,seval];obtain⟨ka9,r9,FF9⟩:(h8.set h4.length (⟨0,135,[.v (.int .i64 2),.v (.slice none 0 0),.v (.string ⟨nm.toArray⟩),.v (.string ⟨#[]⟩),.v (.slice none 0 0)]⟩:Aa))[h4.length]?=some (⟨0,135,[.v (.int .i64 2),.v (.slice none 0 0),.v (.string ⟨nm.toArray⟩),.v (.string ⟨#[]⟩),.v (.slice none 0 0)]⟩:Aa)∧RD (h8.set h4.length (⟨0,135,[.v (.int .i64 2),.v (.slice none 0 0),.v (.string ⟨nm.toArray⟩),.v (.string ⟨#[]⟩),.v (.slice none 0 0)]⟩:Aa)) i L q8 n∧Fr (Io i h4.length) h4 (h8.set h4.length (⟨0,135,[.v (.int .i64 2),.v (.slice none 0 0),.v (.string ⟨nm.toArray⟩),.v (.string ⟨#[]⟩),.v (.slice none 0 0)]⟩:Aa)):=⟨Be (Bs.1 ka8).1,(Bn (by omega)).trans r8,FF8.trans (Fr.set (S:=Io i h4.length) _ (.inr (BL _))) fun k e=>.inl e⟩;generalize h8.set h4.length (⟨0,135,[.v (.int .i64 2),.v (.slice none 0 0),.v (.string ⟨nm.toArray⟩),.v (.string ⟨#[]⟩),.v (.slice none 0 0)]⟩:Aa)=h9 at ka9 r9 FF9⊢;refine JT (w:=ZX) E b8 r9 ?_ ?_ (fun e10 h10 f10 r10 b10=>?_) (fun e10 h10 f10=>?_)
  ·rfl
  ·rfl
  rotate_left
  ·have:E6 ts p=.bad q8 80:=by unfold E6;rw[if_neg (by rw[hS];decide)];rw[if_pos hS2];simp only[e8,AR,e10,DR.bind,Bool.false_eq_true,if_false]
   rw[this]at hR;rw[←hR];exact⟨Io.fin (F4.trans (FF9.trans (Io.i f10) fun k e=>.inl e) fun k e=>e.elim (fun e=>.inl (.inl e)) fun e=>.inl (.inr (by have:=F4.1;omega))),rfl⟩
  have FF10:=FF9.trans (Io.i (n0:=h4.length) f10) fun k e=>.inl e
  have ka10:=f10.at ka9 (fun e=>by have e:h4.length=i:=e;omega);simp only[Af,seval];refine PD E b10 r10 ?_ ?_ (fun vr q11 h11 e11 f11 r11 a11 b11=>?_) (fun q e' h11 e11 f11=>?_)
  ·rfl
  ·rfl
  rotate_left
  ·have:E6 ts p=.bad q e':=by unfold E6;rw[if_neg (by rw[hS];decide)];rw[if_pos hS2];simp only[e8,AR,e10,e11,DR.bind,if_true]
   rw[this]at hR;rw[←hR];exact⟨Io.fin (F4.trans (FF10.trans (Io.i f11) fun k e=>.inl e) fun k e=>e.elim (fun e=>.inl (.inl e)) fun e=>.inl (.inr (by have:=F4.1;omega))),rfl⟩
  have FF11:=FF10.trans (Io.i (n0:=h4.length) f11) fun k e=>.inl e
  have ka11:=f11.at ka10 (fun e=>by have e:h4.length=i:=e;omega);simp only[AH,ka11,Aj,Af,A7,seval];obtain⟨ka12,r12,FF12⟩:(h11.set h4.length (⟨0,135,[.v (.int .i64 2),.v (.slice none 0 0),.v (.string ⟨nm.toArray⟩),.v (.string ⟨vr.toArray⟩),.v (.slice none 0 0)]⟩:Aa))[h4.length]?=some (⟨0,135,[.v (.int .i64 2),.v (.slice none 0 0),.v (.string ⟨nm.toArray⟩),.v (.string ⟨vr.toArray⟩),.v (.slice none 0 0)]⟩:Aa)∧RD (h11.set h4.length (⟨0,135,[.v (.int .i64 2),.v (.slice none 0 0),.v (.string ⟨nm.toArray⟩),.v (.string ⟨vr.toArray⟩),.v (.slice none 0 0)]⟩:Aa)) i L q11 n∧Fr (Io i h4.length) h4 (h11.set h4.length (⟨0,135,[.v (.int .i64 2),.v (.slice none 0 0),.v (.string ⟨nm.toArray⟩),.v (.string ⟨vr.toArray⟩),.v (.slice none 0 0)]⟩:Aa)):=⟨Be (Bs.1 ka11).1,(Bn (by omega)).trans r11,FF11.trans (Fr.set (S:=Io i h4.length) _ (.inr (BL _))) fun k e=>.inl e⟩;generalize h11.set h4.length (⟨0,135,[.v (.int .i64 2),.v (.slice none 0 0),.v (.string ⟨nm.toArray⟩),.v (.string ⟨vr.toArray⟩),.v (.slice none 0 0)]⟩:Aa)=h12 at ka12 r12 FF12⊢;obtain⟨ac,A,qz,hz,ez,hact,kaz,rAz,rz,FFz,hqz⟩:∃ (ac:Ac) (A:AV) (qz:Nat) (hz:List Aa),hz=h12∧E6 ts p=.ok ac qz∧hz[h4.length]?=some ⟨0,135,[AA ac.kind,Ab ac.to,Ae ac.name,Ae ac.var,A]⟩∧Rd (Old (h4.length+1)) hz (E3 ac.args) A∧RD hz i L qz n∧Fr (Io i h4.length) h4 hz∧p+1≤qz∧qz≤ts.length:=⟨⟨2,[],nm,vr,[]⟩,.v (.slice none 0 0),q11,h12,rfl,by unfold E6;rw[if_neg (by rw[hS];decide)];rw[if_pos hS2];simp only[e8,AR,e10,e11,DR.bind,if_true],ka12,Rd.val _,r12,FF12,by omega,by omega⟩;subst ez;rw[hact]at hR;have eR2:(DR.ok ac qz).bind (fun a p1=>(AR ts [59] p1).bind fun x p2=>DI ts f (xs++[a]) p2)=(AR ts [59] qz).bind fun x p2=>DI ts f (xs++[ac]) p2:=rfl
  rw[eR2]at hR;refine JT (w:=[59]) E hqz.2 rz ?_ ?_ (fun hW hy fy ry hpy=>?_) (fun hW hy fy=>?_)
  ·rfl
  ·rfl
  rotate_left
  ·unfold AR at hR;rw[if_neg (by rw[hW];decide)]at hR;rw[←hR];exact⟨Io.fin (F4.trans (FFz.trans (Io.i fy) fun k e=>.inl e) fun k e=>e.elim (fun e=>.inl (.inl e)) fun e=>.inl (.inr (by have:=F4.1;omega))),rfl⟩
  have hR':DI ts f (xs++[ac]) (qz+1)=R:=by rw[←hR];unfold AR;rw[if_pos hW];rfl
  have FFy:=FFz.trans (Io.i (n0:=h4.length) fy) fun k e=>.inl e
  have kay:=fy.at kaz (fun e=>by have e:h4.length=i:=e;omega);have rAy:=rAz.up (S':=Old (h4.length+1)) fy (fun k e _=>by have e:k=i:=e;show k<h4.length+1;omega) (fun k e _=>e);have Gy:GL h.length 135 5 hy N xs.length (xs.flatMap Ac.cells):=G4.fr FFy (fun k e hk=>e.elim (fun e=>⟨by omega,fun hn=>by have:=(G4.lt hn).1;omega⟩) fun e=>by omega);obtain⟨honeA,hflatA⟩:=Cz rAy;have honeT:Cl (Ab ac.to)=true:=by cases ac.to<;>rfl
  have hflatT:flat (Ab ac.to)=some [Ab ac.to]:=by cases ac.to<;>rfl
  have hel:AE (fun k=>k<h.length∨AZ N k) hy ac.cells [AA ac.kind,Ab ac.to,Ae ac.name,Ae ac.var,A]:=AE.cons (Rd.int _) (AE.cons (Rd.nodes _) (AE.cons (Rd.str _) (AE.cons (Rd.str _) (AE.cons (rAy.up (Fr.refl BR hy) (fun k e=>e.elim) fun k e hk=>by
   show k<h4.length+1
   rcases e with e|e
   ·omega
   ·have:=(G4.lt e).2;omega) AE.nil))))
  have hxe:(xs++[ac]).length=xs.length+1:=by simp
  have hxf:(xs++[ac]).flatMap Ac.cells=xs.flatMap Ac.cells++ac.cells:=by simp
  have hal:=(Bs.1 kay).1;have F4y:Fr (Io i h.length) h hy:=F4.trans FFy fun k e=>e.elim (fun e=>.inl (.inl e)) fun e=>.inl (.inr (by omega))
  clear hR FFz rAz rz kaz
  rcases Gy with⟨rfl,e0,e1⟩|⟨j,ver,cs,rfl,hnn,hj0,hj,hl,hrd⟩
  ·simp only[AH,kay,AA,Ae,honeA,honeT,Ap,Bo,Bc,Bi,Af,seval];have GP:=(GL.nil (n0:=h.length) (t:=135) (sz:=5) (h:=hy)).push (h':=hy++[⟨0,135,[AA ac.kind,Ab ac.to,Ae ac.name,Ae ac.var,A]⟩,⟨0,135,[AA ac.kind,Ab ac.to,Ae ac.name,Ae ac.var,A]⟩]) (j':=hy.length+1) (ver':=0) (xs:=[]) (es:=[AA ac.kind,Ab ac.to,Ae ac.name,Ae ac.var,A]) (ecs:=ac.cells) (fun j ver e=>by cases e) (fun _=>⟨by omega,rfl⟩) (by omega) (Fr.app _ _) (B1 _ _ _ _) rfl hel;exact AF.intro (qz+1,.own (hy.length+1) 0 1,_) ⟨xs++[ac],f,hpy,by rw[hxe];show xs.length+1≤qz+1;omega,ry.app _,by rw[hxe,hxf,e0,e1];exact GP,F4y.trans (Fr.app (S:=BR) _ _) fun k e=>e.elim,hR',by show ts.length<f+(qz+1);omega⟩ ⟨rfl,rfl,⟨rfl,rfl,trivial⟩,rfl⟩ (by show ts.length+1-(qz+1)<ts.length+1-p;omega)
  ·have hjl:=(Bs.1 hj).1;have hl':cs.length=xs.length * 5:=hl;have q1:∀ l,(hy++l)[j]?=some ⟨ver,135,cs⟩:=fun l=>(Ba hjl).trans hj
   have s8:∀ l c,(hy++l).set j c=hy.set j c++l:=fun l c=>Bg _ _ hjl
   have q4:List.take (xs.length * 5) cs=cs:=Bt (by omega);have q6:xs.length * 5≤cs.length:=by omega
   simp only[AH,kay,AA,Ae,honeA,honeT,Ap,q1,s8,q4,q6,Af,seval];have GP:=GL.push (h:=hy) (N:=.own j ver xs.length) (.inr ⟨j,ver,cs,rfl,hnn,hj0,hj,hl,hrd⟩) (h':=hy.set j ⟨ver+1,135,cs++[AA ac.kind,Ab ac.to,Ae ac.name,Ae ac.var,A]⟩++[⟨0,135,[AA ac.kind,Ab ac.to,Ae ac.name,Ae ac.var,A]⟩]) (j':=j) (ver':=ver+1) (xs:=cs) (es:=[AA ac.kind,Ab ac.to,Ae ac.name,Ae ac.var,A]) (ecs:=ac.cells) (fun j2 ver2 e=>by cases e;exact⟨rfl,hj⟩) (fun e=>by cases e) (by omega) ((Fr.set (S:=fun k=>k<h.length∨AZ (.own j ver xs.length) k) _ (.inr rfl)).trans (Fr.app (S:=BR) _ _) fun k e=>e.elim) ((Ba (by rw[Bl];exact hjl)).trans (Be hjl)) rfl hel;refine⟨by omega,AF.intro (qz+1,.own j (ver+1) (xs.length+1),_) ⟨xs++[ac],f,hpy,by rw[hxe];show xs.length+1≤qz+1;omega,?_,by rw[hxe,hxf];exact GP,F4y.trans ((Fr.set (S:=Io i h.length) _ (.inr hj0)).trans (Fr.app (S:=BR) _ _) fun k e=>e.elim) fun k e=>.inl e,hR',by show ts.length<f+(qz+1);omega⟩ ⟨rfl,rfl,⟨rfl,rfl,trivial⟩,rfl⟩ (by show ts.length+1-(qz+1)<ts.length+1-p;omega)⟩;exact (Ba (by rw[Bl];have:=ry.lt;omega)).trans ((Bn (by omega)).trans ry)
 have ka7:=f7.at ka6 (fun e=>by have e:h4.length=i:=e;omega);have FF7:=FF6.trans (Io.i (n0:=h4.length) f7) fun k e=>.inl e
 simp only[Af,seval];refine KT (w:=Iu) E hp r7 ?_ ?_ (fun hS3 h8 f8 r8 hp8=>?_) (fun hS3 h8 f8 r8=>?_)
 ·rfl
 ·rfl
 ·have ka8:=f8.at ka7 (fun e=>by have e:h4.length=i:=e;omega);have FF8:=FF7.trans (Io.i (n0:=h4.length) f8) fun k e=>.inl e
  simp only[Af,seval];refine iQ E hp8 r8 ?_ ?_ (fun l q9 A h9 e9 f9 r9 a9 b9 rA=>?_) (fun q e' h9 e9 f9=>?_)
  ·rfl
  ·rfl
  rotate_left
  ·have:E6 ts p=.bad q e':=by unfold E6;rw[if_neg (by rw[hS];decide)];rw[if_neg (by rw[hS2];decide)];rw[if_pos hS3];simp only[e9,DR.bind]
   rw[this]at hR;rw[←hR];exact⟨Io.fin (F4.trans (FF8.trans (Io.i f9) fun k e=>.inl e) fun k e=>e.elim (fun e=>.inl (.inl e)) fun e=>.inl (.inr (by have:=F4.1;omega))),rfl⟩
  have FF9:=FF8.trans (Io.i (n0:=h4.length) f9) fun k e=>.inl e
  have ka9:=f9.at ka8 (fun e=>by have e:h4.length=i:=e;omega);obtain⟨hone,hflat⟩:=Cz rA;simp only[AH,ka9,Aj,hflat,hone,Af,seval];obtain⟨ka10,r10,FF10⟩:(h9.set h4.length (⟨0,135,[.v (.int .i64 3),.v (.slice none 0 0),.v (.string ⟨#[]⟩),.v (.string ⟨#[]⟩),A]⟩:Aa))[h4.length]?=some (⟨0,135,[.v (.int .i64 3),.v (.slice none 0 0),.v (.string ⟨#[]⟩),.v (.string ⟨#[]⟩),A]⟩:Aa)∧RD (h9.set h4.length (⟨0,135,[.v (.int .i64 3),.v (.slice none 0 0),.v (.string ⟨#[]⟩),.v (.string ⟨#[]⟩),A]⟩:Aa)) i L q9 n∧Fr (Io i h4.length) h4 (h9.set h4.length (⟨0,135,[.v (.int .i64 3),.v (.slice none 0 0),.v (.string ⟨#[]⟩),.v (.string ⟨#[]⟩),A]⟩:Aa)):=⟨Be (Bs.1 ka9).1,(Bn (by omega)).trans r9,FF9.trans (Fr.set (S:=Io i h4.length) _ (.inr (BL _))) fun k e=>.inl e⟩;have rA2:=rA.up (S':=Old (h4.length+1)) (Fr.set (S:=AU h4.length) (h:=h9) (⟨0,135,[.v (.int .i64 3),.v (.slice none 0 0),.v (.string ⟨#[]⟩),.v (.string ⟨#[]⟩),A]⟩:Aa) rfl) (fun k e _=>by have e:k=h4.length:=e;have:=(Bs.1 ka8).1;show k<h8.length;omega) (fun k e _=>by have e:k<h4.length+1:=e;have:=(Bs.1 ka8).1;show k<h8.length;omega);generalize h9.set h4.length (⟨0,135,[.v (.int .i64 3),.v (.slice none 0 0),.v (.string ⟨#[]⟩),.v (.string ⟨#[]⟩),A]⟩:Aa)=h10 at ka10 r10 FF10 rA2⊢;obtain⟨ac,A,qz,hz,ez,hact,kaz,rAz,rz,FFz,hqz⟩:∃ (ac:Ac) (A:AV) (qz:Nat) (hz:List Aa),hz=h10∧E6 ts p=.ok ac qz∧hz[h4.length]?=some ⟨0,135,[AA ac.kind,Ab ac.to,Ae ac.name,Ae ac.var,A]⟩∧Rd (Old (h4.length+1)) hz (E3 ac.args) A∧RD hz i L qz n∧Fr (Io i h4.length) h4 hz∧p+1≤qz∧qz≤ts.length:=⟨⟨3,[],[],[],l⟩,A,q9,h10,rfl,by unfold E6;rw[if_neg (by rw[hS];decide)];rw[if_neg (by rw[hS2];decide)];rw[if_pos hS3];simp only[e9,DR.bind],ka10,rA2,r10,FF10,by omega,by omega⟩;subst ez;rw[hact]at hR;have eR2:(DR.ok ac qz).bind (fun a p1=>(AR ts [59] p1).bind fun x p2=>DI ts f (xs++[a]) p2)=(AR ts [59] qz).bind fun x p2=>DI ts f (xs++[ac]) p2:=rfl
  rw[eR2]at hR;refine JT (w:=[59]) E hqz.2 rz ?_ ?_ (fun hW hy fy ry hpy=>?_) (fun hW hy fy=>?_)
  ·rfl
  ·rfl
  rotate_left
  ·unfold AR at hR;rw[if_neg (by rw[hW];decide)]at hR;rw[←hR];exact⟨Io.fin (F4.trans (FFz.trans (Io.i fy) fun k e=>.inl e) fun k e=>e.elim (fun e=>.inl (.inl e)) fun e=>.inl (.inr (by have:=F4.1;omega))),rfl⟩
  have hR':DI ts f (xs++[ac]) (qz+1)=R:=by rw[←hR];unfold AR;rw[if_pos hW];rfl
  have FFy:=FFz.trans (Io.i (n0:=h4.length) fy) fun k e=>.inl e
  have kay:=fy.at kaz (fun e=>by have e:h4.length=i:=e;omega);have rAy:=rAz.up (S':=Old (h4.length+1)) fy (fun k e _=>by have e:k=i:=e;show k<h4.length+1;omega) (fun k e _=>e);have Gy:GL h.length 135 5 hy N xs.length (xs.flatMap Ac.cells):=G4.fr FFy (fun k e hk=>e.elim (fun e=>⟨by omega,fun hn=>by have:=(G4.lt hn).1;omega⟩) fun e=>by omega);obtain⟨honeA,hflatA⟩:=Cz rAy;have honeT:Cl (Ab ac.to)=true:=by cases ac.to<;>rfl
  have hflatT:flat (Ab ac.to)=some [Ab ac.to]:=by cases ac.to<;>rfl
  have hel:AE (fun k=>k<h.length∨AZ N k) hy ac.cells [AA ac.kind,Ab ac.to,Ae ac.name,Ae ac.var,A]:=AE.cons (Rd.int _) (AE.cons (Rd.nodes _) (AE.cons (Rd.str _) (AE.cons (Rd.str _) (AE.cons (rAy.up (Fr.refl BR hy) (fun k e=>e.elim) fun k e hk=>by
   show k<h4.length+1
   rcases e with e|e
   ·omega
   ·have:=(G4.lt e).2;omega) AE.nil))))
  have hxe:(xs++[ac]).length=xs.length+1:=by simp
  have hxf:(xs++[ac]).flatMap Ac.cells=xs.flatMap Ac.cells++ac.cells:=by simp
  have hal:=(Bs.1 kay).1;have F4y:Fr (Io i h.length) h hy:=F4.trans FFy fun k e=>e.elim (fun e=>.inl (.inl e)) fun e=>.inl (.inr (by omega))
  clear hR FFz rAz rz kaz
  rcases Gy with⟨rfl,e0,e1⟩|⟨j,ver,cs,rfl,hnn,hj0,hj,hl,hrd⟩
  ·simp only[AH,kay,AA,Ae,honeA,honeT,Ap,Bo,Bc,Bi,Af,seval];have GP:=(GL.nil (n0:=h.length) (t:=135) (sz:=5) (h:=hy)).push (h':=hy++[⟨0,135,[AA ac.kind,Ab ac.to,Ae ac.name,Ae ac.var,A]⟩,⟨0,135,[AA ac.kind,Ab ac.to,Ae ac.name,Ae ac.var,A]⟩]) (j':=hy.length+1) (ver':=0) (xs:=[]) (es:=[AA ac.kind,Ab ac.to,Ae ac.name,Ae ac.var,A]) (ecs:=ac.cells) (fun j ver e=>by cases e) (fun _=>⟨by omega,rfl⟩) (by omega) (Fr.app _ _) (B1 _ _ _ _) rfl hel;exact AF.intro (qz+1,.own (hy.length+1) 0 1,_) ⟨xs++[ac],f,hpy,by rw[hxe];show xs.length+1≤qz+1;omega,ry.app _,by rw[hxe,hxf,e0,e1];exact GP,F4y.trans (Fr.app (S:=BR) _ _) fun k e=>e.elim,hR',by show ts.length<f+(qz+1);omega⟩ ⟨rfl,rfl,⟨rfl,rfl,trivial⟩,rfl⟩ (by show ts.length+1-(qz+1)<ts.length+1-p;omega)
  ·have hjl:=(Bs.1 hj).1;have hl':cs.length=xs.length * 5:=hl;have q1:∀ l,(hy++l)[j]?=some ⟨ver,135,cs⟩:=fun l=>(Ba hjl).trans hj
   have s8:∀ l c,(hy++l).set j c=hy.set j c++l:=fun l c=>Bg _ _ hjl
   have q4:List.take (xs.length * 5) cs=cs:=Bt (by omega);have q6:xs.length * 5≤cs.length:=by omega
   simp only[AH,kay,AA,Ae,honeA,honeT,Ap,q1,s8,q4,q6,Af,seval];have GP:=GL.push (h:=hy) (N:=.own j ver xs.length) (.inr ⟨j,ver,cs,rfl,hnn,hj0,hj,hl,hrd⟩) (h':=hy.set j ⟨ver+1,135,cs++[AA ac.kind,Ab ac.to,Ae ac.name,Ae ac.var,A]⟩++[⟨0,135,[AA ac.kind,Ab ac.to,Ae ac.name,Ae ac.var,A]⟩]) (j':=j) (ver':=ver+1) (xs:=cs) (es:=[AA ac.kind,Ab ac.to,Ae ac.name,Ae ac.var,A]) (ecs:=ac.cells) (fun j2 ver2 e=>by cases e;exact⟨rfl,hj⟩) (fun e=>by cases e) (by omega) ((Fr.set (S:=fun k=>k<h.length∨AZ (.own j ver xs.length) k) _ (.inr rfl)).trans (Fr.app (S:=BR) _ _) fun k e=>e.elim) ((Ba (by rw[Bl];exact hjl)).trans (Be hjl)) rfl hel;refine⟨by omega,AF.intro (qz+1,.own j (ver+1) (xs.length+1),_) ⟨xs++[ac],f,hpy,by rw[hxe];show xs.length+1≤qz+1;omega,?_,by rw[hxe,hxf];exact GP,F4y.trans ((Fr.set (S:=Io i h.length) _ (.inr hj0)).trans (Fr.app (S:=BR) _ _) fun k e=>e.elim) fun k e=>.inl e,hR',by show ts.length<f+(qz+1);omega⟩ ⟨rfl,rfl,⟨rfl,rfl,trivial⟩,rfl⟩ (by show ts.length+1-(qz+1)<ts.length+1-p;omega)⟩;exact (Ba (by rw[Bl];have:=ry.lt;omega)).trans ((Bn (by omega)).trans ry)
 have ka8:=f8.at ka7 (fun e=>by have e:h4.length=i:=e;omega);have FF8:=FF7.trans (Io.i (n0:=h4.length) f8) fun k e=>.inl e
 simp only[Af,seval];refine KT (w:=GC) E hp r8 ?_ ?_ (fun hS4 h9 f9 r9 hp9=>?_) (fun hS4 h9 f9 r9=>?_)
 ·rfl
 ·rfl
 ·have ka9:=f9.at ka8 (fun e=>by have e:h4.length=i:=e;omega);have FF9:=FF8.trans (Io.i (n0:=h4.length) f9) fun k e=>.inl e
  simp only[Af,seval];have hone:=True.intro;have hflat:=True.intro;refine PD E hp9 r9 ?_ ?_ (fun nm q10 h10 e10 f10 r10 a10 b10=>?_) (fun q e' h10 e10 f10=>?_)
  ·rfl
  ·rfl
  rotate_left
  ·have:E6 ts p=.bad q e':=by unfold E6;rw[if_neg (by rw[hS];decide)];rw[if_neg (by rw[hS2];decide)];rw[if_neg (by rw[hS3];decide)];rw[if_pos hS4];simp only[e10,DR.bind]
   rw[this]at hR;rw[←hR];exact⟨Io.fin (F4.trans (FF9.trans (Io.i f10) fun k e=>.inl e) fun k e=>e.elim (fun e=>.inl (.inl e)) fun e=>.inl (.inr (by have:=F4.1;omega))),rfl⟩
  have FF10:=FF9.trans (Io.i (n0:=h4.length) f10) fun k e=>.inl e
  have ka10:=f10.at ka9 (fun e=>by have e:h4.length=i:=e;omega);simp only[AH,ka10,Aj,Af,seval];obtain⟨ka11,r11,FF11⟩:(h10.set h4.length (⟨0,135,[.v (.int .i64 4),.v (.slice none 0 0),.v (.string ⟨nm.toArray⟩),.v (.string ⟨#[]⟩),.v (.slice none 0 0)]⟩:Aa))[h4.length]?=some (⟨0,135,[.v (.int .i64 4),.v (.slice none 0 0),.v (.string ⟨nm.toArray⟩),.v (.string ⟨#[]⟩),.v (.slice none 0 0)]⟩:Aa)∧RD (h10.set h4.length (⟨0,135,[.v (.int .i64 4),.v (.slice none 0 0),.v (.string ⟨nm.toArray⟩),.v (.string ⟨#[]⟩),.v (.slice none 0 0)]⟩:Aa)) i L q10 n∧Fr (Io i h4.length) h4 (h10.set h4.length (⟨0,135,[.v (.int .i64 4),.v (.slice none 0 0),.v (.string ⟨nm.toArray⟩),.v (.string ⟨#[]⟩),.v (.slice none 0 0)]⟩:Aa)):=⟨Be (Bs.1 ka10).1,(Bn (by omega)).trans r10,FF10.trans (Fr.set (S:=Io i h4.length) _ (.inr (BL _))) fun k e=>.inl e⟩;generalize h10.set h4.length (⟨0,135,[.v (.int .i64 4),.v (.slice none 0 0),.v (.string ⟨nm.toArray⟩),.v (.string ⟨#[]⟩),.v (.slice none 0 0)]⟩:Aa)=h11 at ka11 r11 FF11⊢;obtain⟨ac,A,qz,hz,ez,hact,kaz,rAz,rz,FFz,hqz⟩:∃ (ac:Ac) (A:AV) (qz:Nat) (hz:List Aa),hz=h11∧E6 ts p=.ok ac qz∧hz[h4.length]?=some ⟨0,135,[AA ac.kind,Ab ac.to,Ae ac.name,Ae ac.var,A]⟩∧Rd (Old (h4.length+1)) hz (E3 ac.args) A∧RD hz i L qz n∧Fr (Io i h4.length) h4 hz∧p+1≤qz∧qz≤ts.length:=⟨⟨4,[],nm,[],[]⟩,.v (.slice none 0 0),q10,h11,rfl,by unfold E6;rw[if_neg (by rw[hS];decide)];rw[if_neg (by rw[hS2];decide)];rw[if_neg (by rw[hS3];decide)];rw[if_pos hS4];simp only[e10,DR.bind],ka11,Rd.val _,r11,FF11,by omega,by omega⟩;subst ez;rw[hact]at hR;have eR2:(DR.ok ac qz).bind (fun a p1=>(AR ts [59] p1).bind fun x p2=>DI ts f (xs++[a]) p2)=(AR ts [59] qz).bind fun x p2=>DI ts f (xs++[ac]) p2:=rfl
  rw[eR2]at hR;refine JT (w:=[59]) E hqz.2 rz ?_ ?_ (fun hW hy fy ry hpy=>?_) (fun hW hy fy=>?_)
  ·rfl
  ·rfl
  rotate_left
  ·unfold AR at hR;rw[if_neg (by rw[hW];decide)]at hR;rw[←hR];exact⟨Io.fin (F4.trans (FFz.trans (Io.i fy) fun k e=>.inl e) fun k e=>e.elim (fun e=>.inl (.inl e)) fun e=>.inl (.inr (by have:=F4.1;omega))),rfl⟩
  have hR':DI ts f (xs++[ac]) (qz+1)=R:=by rw[←hR];unfold AR;rw[if_pos hW];rfl
  have FFy:=FFz.trans (Io.i (n0:=h4.length) fy) fun k e=>.inl e
  have kay:=fy.at kaz (fun e=>by have e:h4.length=i:=e;omega);have rAy:=rAz.up (S':=Old (h4.length+1)) fy (fun k e _=>by have e:k=i:=e;show k<h4.length+1;omega) (fun k e _=>e);have Gy:GL h.length 135 5 hy N xs.length (xs.flatMap Ac.cells):=G4.fr FFy (fun k e hk=>e.elim (fun e=>⟨by omega,fun hn=>by have:=(G4.lt hn).1;omega⟩) fun e=>by omega);obtain⟨honeA,hflatA⟩:=Cz rAy;have honeT:Cl (Ab ac.to)=true:=by cases ac.to<;>rfl
  have hflatT:flat (Ab ac.to)=some [Ab ac.to]:=by cases ac.to<;>rfl
  have hel:AE (fun k=>k<h.length∨AZ N k) hy ac.cells [AA ac.kind,Ab ac.to,Ae ac.name,Ae ac.var,A]:=AE.cons (Rd.int _) (AE.cons (Rd.nodes _) (AE.cons (Rd.str _) (AE.cons (Rd.str _) (AE.cons (rAy.up (Fr.refl BR hy) (fun k e=>e.elim) fun k e hk=>by
   show k<h4.length+1
   rcases e with e|e
   ·omega
   ·have:=(G4.lt e).2;omega) AE.nil))))
  have hxe:(xs++[ac]).length=xs.length+1:=by simp
  have hxf:(xs++[ac]).flatMap Ac.cells=xs.flatMap Ac.cells++ac.cells:=by simp
  have hal:=(Bs.1 kay).1;have F4y:Fr (Io i h.length) h hy:=F4.trans FFy fun k e=>e.elim (fun e=>.inl (.inl e)) fun e=>.inl (.inr (by omega))
  clear hR FFz rAz rz kaz
  rcases Gy with⟨rfl,e0,e1⟩|⟨j,ver,cs,rfl,hnn,hj0,hj,hl,hrd⟩
  ·simp only[AH,kay,AA,Ae,honeA,honeT,Ap,Bo,Bc,Bi,Af,seval];have GP:=(GL.nil (n0:=h.length) (t:=135) (sz:=5) (h:=hy)).push (h':=hy++[⟨0,135,[AA ac.kind,Ab ac.to,Ae ac.name,Ae ac.var,A]⟩,⟨0,135,[AA ac.kind,Ab ac.to,Ae ac.name,Ae ac.var,A]⟩]) (j':=hy.length+1) (ver':=0) (xs:=[]) (es:=[AA ac.kind,Ab ac.to,Ae ac.name,Ae ac.var,A]) (ecs:=ac.cells) (fun j ver e=>by cases e) (fun _=>⟨by omega,rfl⟩) (by omega) (Fr.app _ _) (B1 _ _ _ _) rfl hel;exact AF.intro (qz+1,.own (hy.length+1) 0 1,_) ⟨xs++[ac],f,hpy,by rw[hxe];show xs.length+1≤qz+1;omega,ry.app _,by rw[hxe,hxf,e0,e1];exact GP,F4y.trans (Fr.app (S:=BR) _ _) fun k e=>e.elim,hR',by show ts.length<f+(qz+1);omega⟩ ⟨rfl,rfl,⟨rfl,rfl,trivial⟩,rfl⟩ (by show ts.length+1-(qz+1)<ts.length+1-p;omega)
  ·have hjl:=(Bs.1 hj).1;have hl':cs.length=xs.length * 5:=hl;have q1:∀ l,(hy++l)[j]?=some ⟨ver,135,cs⟩:=fun l=>(Ba hjl).trans hj
   have s8:∀ l c,(hy++l).set j c=hy.set j c++l:=fun l c=>Bg _ _ hjl
   have q4:List.take (xs.length * 5) cs=cs:=Bt (by omega);have q6:xs.length * 5≤cs.length:=by omega
   simp only[AH,kay,AA,Ae,honeA,honeT,Ap,q1,s8,q4,q6,Af,seval];have GP:=GL.push (h:=hy) (N:=.own j ver xs.length) (.inr ⟨j,ver,cs,rfl,hnn,hj0,hj,hl,hrd⟩) (h':=hy.set j ⟨ver+1,135,cs++[AA ac.kind,Ab ac.to,Ae ac.name,Ae ac.var,A]⟩++[⟨0,135,[AA ac.kind,Ab ac.to,Ae ac.name,Ae ac.var,A]⟩]) (j':=j) (ver':=ver+1) (xs:=cs) (es:=[AA ac.kind,Ab ac.to,Ae ac.name,Ae ac.var,A]) (ecs:=ac.cells) (fun j2 ver2 e=>by cases e;exact⟨rfl,hj⟩) (fun e=>by cases e) (by omega) ((Fr.set (S:=fun k=>k<h.length∨AZ (.own j ver xs.length) k) _ (.inr rfl)).trans (Fr.app (S:=BR) _ _) fun k e=>e.elim) ((Ba (by rw[Bl];exact hjl)).trans (Be hjl)) rfl hel;refine⟨by omega,AF.intro (qz+1,.own j (ver+1) (xs.length+1),_) ⟨xs++[ac],f,hpy,by rw[hxe];show xs.length+1≤qz+1;omega,?_,by rw[hxe,hxf];exact GP,F4y.trans ((Fr.set (S:=Io i h.length) _ (.inr hj0)).trans (Fr.app (S:=BR) _ _) fun k e=>e.elim) fun k e=>.inl e,hR',by show ts.length<f+(qz+1);omega⟩ ⟨rfl,rfl,⟨rfl,rfl,trivial⟩,rfl⟩ (by show ts.length+1-(qz+1)<ts.length+1-p;omega)⟩;exact (Ba (by rw[Bl];have:=ry.lt;omega)).trans ((Bn (by omega)).trans ry)
 simp only[Af,seval];refine Ao.intro c127 _ (EE E r9 80) (fun r h2 hh=>by cases hh.1) (fun v h2 hh=>?_);obtain⟨e,rfl⟩:=hh;cases e;have:E6 ts p=.bad p 80:=by unfold E6;rw[if_neg (by rw[hS];decide)];rw[if_neg (by rw[hS2];decide)];rw[if_neg (by rw[hS3];decide)];rw[if_neg (by rw[hS4];decide)]
 rw[this]at hR;rw[←hR];exact⟨Io.fin (F4.trans (FF8.trans (Io.i f9) fun k e=>.inl e) fun k e=>e.elim (fun e=>.inl (.inl e)) fun e=>.inl (.inr (by have:=F4.1;omega))),rfl⟩
theorem c36:Ak Tp 36:=⟨_,Tryz.func36,by kernel_rfl,by kernel_rfl⟩
def MP:List AV:=jA.map Ae
def kwS(γ:List (Nat×AV))(s:List UInt8)(k:Nat):St:=⟨⟨18,[(0,.v (.string ⟨s.toArray⟩)),(3,.own 0 0 9),(4,.v (.int .i64 (k:Int)))],γ⟩,[⟨0,9,MP⟩]⟩
theorem T5(s:List UInt8):Ev Tp γ 36 [.v (.string ⟨s.toArray⟩)] (.v (.bool (VL s))):=by
 refine Ev.ofE Tryz.func36 rfl ?_;simp only[Tryz.f36,AH,Af,seval];refine Cp.intro (kwS γ s) (fun k=>k≤9∧s∉jA.take k) (fun k=>9-k) 0 ⟨rfl,rfl,⟨rfl,rfl,rfl,trivial⟩,rfl⟩ ⟨BN _,by simp⟩ (fun k hk=>?_);obtain⟨hk,hs⟩:=hk
 by_cases hlt:k<9
 ·have d1:decide ((k:Int)<9)=true:=decide_eq_true (by omega);have d10:decide (k<9)=true:=decide_eq_true hlt;have hlen:jA.length=9:=rfl;obtain⟨w,hw⟩:∃ w,jA[k]?=some w:=⟨jA[k]'(by rw[hlen];exact hlt),by simp[hlen,hlt]⟩;have hc:MP[k]?=some (.v (.string ⟨w.toArray⟩)):=by unfold MP;rw[Bm,hw];rfl
  have hcl:MP.length=9:=rfl;have w1:IntKind.i64.wrap ((k:Int)+1)=((k+1:Nat):Int):=(A4 (by omega) (by omega)).trans (by omega);have d9:((9:Nat):Int)=9:=rfl;simp only[kwS,Cn,d1,hc,d9,Af,A7,seval];refine⟨by omega,?_⟩;cases hws:w==s with
  |true=>
   have e:w=s:=by simpa using hws
   have hf:VL s=true:=by unfold VL;exact decide_eq_true (by rw[←e];exact List.mem_of_getElem? hw)
   rw[hf];simp only[Af,seval]
  |false=>
   simp only[w1,Af,seval];refine AF.intro (k+1) ⟨hlt,?_⟩ ⟨rfl,rfl,⟨rfl,rfl,rfl,trivial⟩,rfl⟩ (by show 9-(k+1)<9-k;clear w1;omega);rw[List.take_succ,hw];intro hm
   rcases List.mem_append.1 hm with hm|hm
   ·exact hs hm
   ·have:s=w:=by simpa using hm
    rw[this]at hws;simp at hws
 ·have d1:decide ((k:Int)<9)=false:=decide_eq_false (by omega);have hk9:k=9:=by omega
  subst hk9;have hf:VL s=false:=by unfold VL;exact decide_eq_false (by simpa[Bt (show jA.length≤9 from by decide)]using hs)
  rw[hf];simp only[kwS,Cn,Af,seval]
theorem y27':Ak Tp 27:=⟨_,Tryz.func27,by kernel_rfl,by kernel_rfl⟩
theorem XZ{L:AV}{ts:List Tk}(h:EV L ts)(f:Int):A0 [L,.v (.int .i64 f)]=true:=by rcases h with⟨rfl,rfl⟩|⟨b,m,cs,rfl,_⟩<;>rfl
theorem c80:Ak Tp 80:=⟨_,Tryz.func80,by kernel_rfl,by kernel_rfl⟩
theorem eU:Ak Tp 123:=⟨_,Tryz.func123,by kernel_rfl,by kernel_rfl⟩
theorem n9:Ak Tp 197:=⟨_,Tryz.func197,by kernel_rfl,by kernel_rfl⟩
theorem Fj(E:Il L ts){h:List Aa}{i n:Nat}{S:S8}(hr:RQ ts h i L n S):
  Ck Tp γ 80 [.ptr i 0 0] h (Nn ts n L i h (Ae (Au ts n S).1) (Au ts n S).2):=by
 have hr0:=hr;obtain⟨hi,hS⟩:=hr;obtain⟨p,bd⟩:=S;have ll:=E.len;have hl:=(Bs.1 hi).1;have hfail:=IW (γ:=γ) E hr0 p 80 (by decide);refine Ck.of Tryz.func80 rfl ?_;cases bd with
 |some b=>
  have hb:(Ek (some b) != 0)=true:=hS.bad2;rw[Dd];simp only[Tryz.f80,Af,seval];refine dI ?_;simp only[Cn,hi,cQ,hb,Af,A7,seval];refine Ao.intro c70 _ hfail (fun r h2 hh=>?_) (fun v h1 hh=>by cases hh.1);obtain⟨e,f2,r2⟩:=hh;cases e;simp only[Af,seval];exact⟨rfl,f2,r2⟩
 |none=>
  have hb:(Ek none != 0)=false:=rfl
  by_cases hlt:p<ts.length
  ·obtain⟨b,m,cs,rfl,hcs⟩:=E.sl hlt;obtain⟨t,ht⟩:∃ t,ts[p]?=some t:=⟨ts[p],by simp[hlt]⟩;have h6l:=EV.len hcs hlt;have h0:cs[p * 6]?=some (.v (.int .i64 t.kind)):=EV.cell (b:=b) hcs ht (k:=0) (by decide);have h1:cs[p * 6+1]?=_:=EV.cell (b:=b) hcs ht (k:=1) (by decide);have d1:decide ((ts.length:Int)≤(p:Int))=false:=decide_eq_false (by omega);have d2:decide (ts.length≤p)=false:=decide_eq_false (by omega);have hW:Au ts n (p,none)=if t.kind=1∧VL t.text=false then (t.text,(p+1,none))else ([],DZ ts n p 80 (p,none)):=by unfold Au;simp only[ht]
   rw[hW]
   by_cases hk:t.kind=1
   ·have dk:(t.kind != 1)=false:=by simp[hk]
    simp only[Tryz.f80,Af,seval];refine dI ?_;simp only[Cn,hi,cQ,ll,hb,d1,h0,h1,dk,Tk.cells,Af,A7,seval];refine⟨hlt,hlt,Ag.intro c36 rfl (T5 _) ?_⟩;cases hB:VL t.text with
    |true=>
     rw[if_neg (fun h=>by cases h.2)];simp only[Cn,hi,cQ,Af,A7,seval];refine Ao.intro c70 _ hfail (fun r h2 hh=>?_) (fun v h1 hh=>by cases hh.1);obtain⟨e,f2,r2⟩:=hh;cases e;simp only[Af,seval];exact⟨rfl,f2,r2⟩
    |false=>
     rw[if_pos ⟨hk,rfl⟩];have hn:=E.n;have w1:IntKind.i64.wrap ((p:Int)+1)=((p+1:Nat):Int):=(A4 (by omega) (by omega)).trans (by omega);have w2:IntKind.i64.wrap (((p+1:Nat):Int)-1)=(p:Int):=(A4 (by omega) (by omega)).trans (by omega);have s3:∀ b,(h.set i b)[i]?=some b:=fun b=>Be hl
     simp only[Cn,hi,cQ,w1,Af,A7,seval];refine dI ?_;simp only[Cn,s3,w2,h1,Tk.cells,Af,A7,seval];exact⟨hlt,rfl,Fr.set _ rfl,Be hl,hlt,fun b hb=>by cases hb⟩
   ·have dk:(t.kind != 1)=true:=by simp[hk]
    rw[if_neg (fun h=>hk h.1)];simp only[Tryz.f80,Af,seval];refine dI ?_;simp only[Cn,hi,cQ,ll,hb,d1,h0,dk,Af,A7,seval];refine⟨hlt,Ao.intro c70 _ hfail (fun r h2 hh=>?_) (fun v h1 hh=>by cases hh.1)⟩;obtain⟨e,f2,r2⟩:=hh;cases e;simp only[Af,seval];exact⟨rfl,f2,r2⟩
  ·have d1:decide ((ts.length:Int)≤(p:Int))=true:=decide_eq_true (by omega);have d2:decide (ts.length≤p)=true:=decide_eq_true (by omega);have hW:Au ts n (p,none)=([],DZ ts n p 80 (p,none)):=by unfold Au;simp only[Bq (show ts.length≤p by omega)]
   rw[hW];simp only[Tryz.f80,Af,seval];refine dI ?_;simp only[Cn,hi,cQ,ll,hb,d1,Af,A7,seval];refine Ao.intro c70 _ hfail (fun r h2 hh=>?_) (fun v h1 hh=>by cases hh.1);obtain⟨e,f2,r2⟩:=hh;cases e;simp only[Af,seval];exact⟨rfl,f2,r2⟩
theorem We(E:Il L ts){h:List Aa}{i n:Nat}{S:S8}(hr:RQ ts h i L n S):
  Ck Tp γ 197 [.ptr i 0 0] h (Nn ts n L i h (Ae (Dj ts n S).1) (Dj ts n S).2):=by
 refine Ck.of Tryz.func197 rfl ?_;simp only[Tryz.f197,Af,seval];refine B9 R3 (C4 E hr [95]) (fun h1 f1 r1=>?_);unfold Dj;cases hB:HD ts [95] S with
 |true=>
  have hT:AB ts [95] S=(S.1+1,none):=by unfold AB;rw[if_pos hB]
  rw[hT]at r1;rw[if_pos rfl];simp only[Af,seval];exact⟨rfl,f1,r1⟩
 |false=>
  have hT:AB ts [95] S=S:=by unfold AB;rw[if_neg (by rw[hB];decide)]
  rw[hT]at r1;rw[if_neg (by decide)];simp only[Af,seval];refine B9 c80 (Fj E r1) (fun h2 f2 r2=>?_);simp only[Af,seval];exact⟨rfl,f1.trans f2 fun k e=>.inl e,r2⟩
theorem Lo(E:Il L ts){h:List Aa}{i n:Nat}{S:S8}(hr:RQ ts h i L n S):
  Ck Tp γ 123 [.ptr i 0 0] h (Nn ts n L i h (.agg [Ab (Bb ts n S).1]) (Bb ts n S).2):=by
 have hr0:=hr;obtain⟨hi,hS⟩:=hr;obtain⟨p,bd⟩:=S;have hl:=(Bs.1 hi).1;have g1:∀ l,(h++l)[i]?=_:=fun l=>(hr0.app l).1
 refine Ck.of Tryz.func123 rfl ?_;cases bd with
 |some b=>
  have hb:(Ek (some b) != 0)=true:=hS.bad2;rw[JY];simp only[Tryz.f123,AH,Cn,g1,cQ,hb,Ap,CV,Aj,Ab,Af,A7,seval];exact⟨rfl,Fr.app _ _,hr0.app _⟩
 |none=>
  have hb:(Ek none != 0)=false:=rfl;obtain⟨a1,a2,a3⟩:=HW hS.1;have hread:=Wm (γ:=γ) E.l E.ok E.n (p:Int);have hE:Bb ts n (p,none)=if (Cu ts p).2.2=0 then ((Cu ts p).1,((Cu ts p).2.1.toNat,none))else ([],DZ ts n (Cu ts p).2.1.toNat (Cu ts p).2.2 (p,none)):=rfl
  rw[hE];have s6:∀ l c,(h++l).set i c=h.set i c++l:=fun l c=>Bg _ _ hl
  have s7:∀ c l,(h.set i c++l)[i]?=some c:=fun c l=>by rw[Ba (by rw[Bl];exact hl)];exact Be hl
  simp only[Tryz.f123,AH,Cn,g1,cQ,hb,Af,A7,seval];refine dX ?_;simp only[Cn,g1,cQ,Af,A7,seval];refine Ag.intro y27' (XZ E.l _) hread ?_;unfold Ph;simp only at a1 a2 a3;generalize Cu ts (p:Int)=R at a1 a2 a3;obtain⟨ns,q,e⟩:=R;simp only at a1 a2 a3;obtain⟨q,rfl⟩:∃ q':Nat,q=q':=⟨q.toNat,by omega⟩;have one:Cl (Ab ns)=true:=by cases ns<;>rfl
  by_cases he:e=0
  ·have de:(e != 0)=false:=by simp[he]
   rw[if_pos he,Int.toNat_natCast];simp only[AH,Cn,g1,cQ,one,de,B1,Er,QH,Ce,TF,s6,Bo,Bc,Bi,Af,A7,seval];exact⟨rfl,Fr.trans (Fr.set _ rfl) (Fr.app (S:=BR) _ _) (fun k e=>e.elim),s7 _ _,by show q≤_;omega,fun b hb=>by cases hb⟩
  ·have de:(e != 0)=true:=by simp[he]
   rw[if_neg he,Int.toNat_natCast];simp only[AH,one,de,B1,Er,Bo,Bc,Bi,Af,seval];refine Ao.intro c70 _ (IW E (hr0.app _) q e he) (fun r h2 hh=>?_) (fun v h1 hh=>by cases hh.1);obtain⟨eo,f2,r2⟩:=hh;cases eo;have k0:h2[h.length]?=some ⟨0,41,[.v (.slice none 0 0)]⟩:=f2.at (Ap _ _ _) (fun e=>by have e:h.length=i:=e;omega);have k0':∀ c,(h2.set h.length c)[h.length]?=some c:=fun c=>Be (Bs.1 k0).1
   simp only[AH,Cn,k0,k0',Aj,Ab,Af,seval];exact⟨rfl,f2.pre.trans (Fr.set (S:=AU h.length) _ rfl) fun k e=>.inr (by have e:k=h.length:=e;omega),r2.fr (Fr.set (S:=AU h.length) _ rfl) (fun e=>by have e:i=h.length:=e;omega)⟩
def JM(ts:List Tk)(n:Nat)(L:AV)(i:Nat)(h:List Aa)(y:AV)(S:S8)(o:Out)(h':List Aa):Prop:=∃ A,o=.ret A∧Fr (AU i) h h'∧RQ ts h' i L n S∧Rd (Old h.length) h' y A
theorem jD{F:AV→St→Prop}{g:FuncId}{xs:List AV}{d:Option Tmp}{K:St→Prop}{s:St}{i n:Nat}{S:S8}{y:AV}(c:Ak Tp g)(he:Ck Tp s.s.g g xs s.h (JM ts n L i s.h y S))
  (k:∀ A h1,Fr (AU i) s.h h1→RQ ts h1 i L n S→Rd (Old s.h.length) h1 y A→K (pt ⟨s.s,h1⟩ d A)):Ao Tp F g xs d K s:=by
 refine Ao.intro c _ he (fun a h1 hh=>?_) (fun v h1 hh=>by obtain⟨_,e,_⟩:=hh;cases e);obtain⟨A,e,f,r,rd⟩:=hh;cases e;exact k _ h1 f r rd
theorem B3{n:Nat}{s:List UInt8}{S:S8}(h:(Av ts n s S).2=none):S.2=none∧(Av ts n s S).1=S.1+1:=by
 obtain⟨p,b⟩:=S;cases b with
 |some b=>rw[Cy]at h;cases h
 |none=>
  unfold Av at h⊢
  split at h
  ·rename_i hB;rw[if_pos hB];exact⟨rfl,rfl⟩
  ·cases h
theorem L5{n:Nat}:∀ S,S.1≤ts.length→(Bb ts n S).2.2=none→S.2=none∧S.1≤(Bb ts n S).2.1:=by
 intro S hS h;obtain⟨p,b⟩:=S;cases b with
 |some b=>rw[JY]at h;cases h
 |none=>
  refine⟨rfl,?_⟩;obtain⟨a1,a2,a3⟩:=HW hS;unfold Bb at h⊢;simp only at h⊢
  split at h
  ·rename_i he;rw[if_pos he];have:=a1 he;show p≤_;simp only at this⊢
   omega
  ·cases h
theorem c198:Ak Tp 198:=⟨_,Tryz.func198,by kernel_rfl,by kernel_rfl⟩
def qaS(γ:List (Nat×AV))(i:Nat)(y:S8×AV×List Aa):St:=⟨⟨31,[(0,.ptr i 0 0),(3,y.2.1)],γ⟩,y.2.2⟩
theorem SO(E:Il L ts){h:List Aa}{i n:Nat}{S:S8}(hr:RQ ts h i L n S):
  Ck Tp γ 198 [.ptr i 0 0] h (JM ts n L i h (E3 (Fh ts n S).1) (Fh ts n S).2):=by
 have hil:=hr.lt;have hn:=E.n;refine Ck.of Tryz.func198 rfl ?_;simp only[Tryz.f198,Af,seval];refine B9 OG (Cq E hr [40]) (fun h1 f1 r1=>?_);simp only[Af,seval];refine B9 R3 (C4 E r1 [41]) (fun h2 f2 r2=>?_);have f02:=f1.trans f2 fun k e=>.inl e
 unfold Fh ER;cases hB:HD ts [41] (Av ts n [40] S)with
 |true=>
  have hT:AB ts [41] (Av ts n [40] S)=((Av ts n [40] S).1+1,none):=by unfold AB;rw[if_pos hB]
  rw[hT]at r2;rw[if_pos rfl];simp only[Af,seval];exact⟨_,rfl,f02,r2,Rd.val _⟩
 |false=>
  have hT:AB ts [41] (Av ts n [40] S)=Av ts n [40] S:=by unfold AB;rw[if_neg (by rw[hB];decide)]
  rw[hT]at r2;rw[if_neg (by decide)];simp only[Af,seval];refine B9 eU (Lo E r2) (fun h3 f3 r3=>?_);have hadv:=L5 (n:=n) _ r2.2.1;generalize Bb ts n (Av ts n [40] S)=X at r3 hadv⊢;obtain⟨x,S3⟩:=X;simp only at r3 hadv⊢;generalize hR:EC ts n (Bb ts n) (ts.length+1) [x] S3=R;have one:Cl (Ab x)=true:=by cases x<;>rfl
  have f03:Fr (Io i h.length) h h3:=Io.i (f02.trans f3 fun k e=>.inl e);have hl3:=f03.1;simp only[AH,one,Ap,Bo,Bc,Bi,Af,seval];have GP:=(GL.nil (n0:=h.length) (t:=41) (sz:=1) (h:=h3)).push (h':=h3++[⟨0,41,[Ab x]⟩,⟨0,41,[Ab x]⟩]) (j':=h3.length+1) (ver':=0) (xs:=[]) (es:=[Ab x]) (ecs:=[Ab x]) (fun j ver e=>by cases e) (fun _=>⟨by omega,rfl⟩) (by omega) (Fr.app _ _) (B1 _ _ _ _) rfl (AE.cons (Rd.nodes x) AE.nil)
  refine Cp.intro (qaS γ i) (fun y=>∃ xs f,RQ ts y.2.2 i L n y.1∧(y.1.2=none→xs.length≤y.1.1∧ts.length<f+y.1.1)∧GL h.length 41 1 y.2.2 y.2.1 xs.length (xs.flatMap M1)∧Fr (Io i h.length) h y.2.2∧EC ts n (Bb ts n) f xs y.1=R) (fun y=>if y.1.2=none then ts.length+1-y.1.1 else 0) (S3,.own (h3.length+1) 0 1,_) ⟨rfl,rfl,⟨rfl,rfl,trivial⟩,rfl⟩
   ⟨[x],ts.length+1,r3.app _,fun e=>?_,GP,f03.trans (Fr.app (S:=BR) _ _) fun k e=>e.elim,hR⟩ (fun y hy=>?_)
  ·have:=hadv e;obtain⟨b1,b2⟩:=B3 (n:=n) this.1;refine⟨?_,by show ts.length<ts.length+1+S3.1;omega⟩;show 1≤S3.1
   omega
  clear GP hR r3 hadv f3 f02 f03 r2 hT r1 f1 f2 hB one hl3;obtain⟨S4,N,h4⟩:=y;obtain⟨xs,f,r4,hb4,G4,F4,hR⟩:=hy;simp only at r4 hb4 G4 F4 hR;have hi4:=r4.1;have hF4:=F4.1;have hbd:=r4.2.bad;obtain⟨p,bd⟩:=S4;have hbd':(Ek bd==0)=bd.isNone:=hbd;cases bd with
  |some b=>
   have hbb:(Ek (some b)==0)=false:=hbd';rw[Dc]at hR;rw[←hR];simp only[qaS,Cn,hi4,cQ,hbb,Af,A7,seval];have rd:=G4.rd;rw[MW]at rd;exact⟨_,rfl,Io.fin F4,r4,rd⟩
  |none=>
   have hbb:(Ek none==0)=true:=rfl;obtain⟨hx4,hf⟩:=hb4 rfl;have hp4:p≤ts.length:=r4.2.1;obtain⟨f,rfl⟩:∃ g,f=g+1:=⟨f-1,by omega⟩;rw[EC]at hR;simp only[Option.isSome_none,Bool.false_eq_true,if_false]at hR;simp only[qaS,Cn,hi4,cQ,hbb,Af,A7,seval];refine B9 R3 (C4 E r4 [41]) (fun h5 f5 r5=>?_);have F5:=F4.trans (Io.i (n0:=h.length) f5) fun k e=>.inl e
   have G5:=G4.fr0 f5 (fun k e=>by have e:k=i:=e;omega);cases hB:HD ts [41] (p,none)with
   |true=>
    have hT:AB ts [41] (p,none)=(p+1,none):=by unfold AB;rw[if_pos hB]
    rw[hT]at r5;rw[if_pos hB]at hR;rw[←hR];simp only[Af,Bv,seval];have rd:=G5.rd;rw[MW]at rd;exact⟨_,rfl,Io.fin F5,r5,rd⟩
   |false=>
    have hT:AB ts [41] (p,none)=(p,none):=by unfold AB;rw[if_neg (by rw[hB];decide)]
    rw[hT]at r5;rw[if_neg (by rw[hB];decide)]at hR;simp only[Af,Bf,seval];refine B9 OG (Cq E r5 [44]) (fun h6 f6 r6=>?_);simp only[Af,seval];refine B9 eU (Lo E r6) (fun h7 f7 r7=>?_);have hadv:=L5 (n:=n) _ r6.2.1;have hwn:=fun e=>B3 (ts:=ts) (n:=n) (s:=[44]) (S:=(p,none)) e
    generalize Bb ts n (Av ts n [44] (p,none))=X at r7 hadv hR⊢;obtain⟨x,S7⟩:=X;simp only at r7 hadv hR⊢;have F7:=(F5.trans (Io.i (n0:=h.length) f6) fun k e=>.inl e).trans (Io.i (n0:=h.length) f7) fun k e=>.inl e
    have G7:=(G5.fr0 f6 (fun k e=>by have e:k=i:=e;omega)).fr0 f7 (fun k e=>by have e:k=i:=e;omega);have hl7:=F7.1;have one:Cl (Ab x)=true:=by cases x<;>rfl
    have hxe:(xs++[x]).length=xs.length+1:=by simp
    have hxf:(xs++[x]).flatMap M1=xs.flatMap M1++[Ab x]:=by simp[M1]
    have hnx:S7.2=none→p+1≤S7.1:=fun e=>by
     have a:=hadv e;have b:=hwn a.1
     omega
    rcases G7 with⟨rfl,e0,e1⟩|⟨j,ver,cs,rfl,hnn,hj0,hj,hl,hrd⟩
    ·simp only[AH,one,Ap,Bo,Bc,Bi,Af,seval];have GP:=(GL.nil (n0:=h.length) (t:=41) (sz:=1) (h:=h7)).push (h':=h7++[⟨0,41,[Ab x]⟩,⟨0,41,[Ab x]⟩]) (j':=h7.length+1) (ver':=0) (xs:=[]) (es:=[Ab x]) (ecs:=[Ab x]) (fun j ver e=>by cases e) (fun _=>⟨by omega,rfl⟩) (by omega) (Fr.app _ _) (B1 _ _ _ _) rfl (AE.cons (Rd.nodes x) AE.nil);refine AF.intro (S7,.own (h7.length+1) 0 1,_) ⟨xs++[x],f,r7.app _,fun e=>?_,by rw[hxe,hxf,e0,e1];exact GP,F7.trans (Fr.app (S:=BR) _ _) fun k e=>e.elim,hR⟩ ⟨rfl,rfl,⟨rfl,rfl,trivial⟩,rfl⟩ ?_
     ·have:=hnx e;exact⟨by rw[hxe];show xs.length+1≤S7.1;omega,by show ts.length<f+S7.1;omega⟩
     ·show (if S7.2=none then ts.length+1-S7.1 else 0)<(if (none:Option (Int×Int))=none then ts.length+1-p else 0)
      rw[if_pos rfl]
      split
      ·rename_i e;have:=hnx e;omega
      ·omega
    ·have hjl:=(Bs.1 hj).1;have q1:∀ l,(h7++l)[j]?=some ⟨ver,41,cs⟩:=fun l=>(Ba hjl).trans hj
     have s8:∀ l c,(h7++l).set j c=h7.set j c++l:=fun l c=>Bg _ _ hjl
     have hl':cs.length=xs.length:=by omega
     have q4:List.take xs.length cs=cs:=Bt (by omega);have q6:xs.length≤cs.length:=by omega
     simp only[AH,one,Ap,q1,s8,q4,q6,Af,seval];have GP:=GL.push (h:=h7) (N:=.own j ver xs.length) (.inr ⟨j,ver,cs,rfl,hnn,hj0,hj,hl,hrd⟩) (h':=h7.set j ⟨ver+1,41,cs++[Ab x]⟩++[⟨0,41,[Ab x]⟩]) (j':=j) (ver':=ver+1) (xs:=cs) (es:=[Ab x]) (ecs:=[Ab x]) (fun j2 ver2 e=>by cases e;exact⟨rfl,hj⟩) (fun e=>by cases e) (by omega) ((Fr.set (S:=fun k=>k<h.length∨AZ (.own j ver xs.length) k) _ (.inr rfl)).trans (Fr.app (S:=BR) _ _) fun k e=>e.elim) ((Ba (by rw[Bl];exact hjl)).trans (Be hjl)) rfl (AE.cons (Rd.nodes x) AE.nil);refine⟨by omega,AF.intro (S7,.own j (ver+1) (xs.length+1),_) ⟨xs++[x],f,?_,fun e=>?_,by rw[hxe,hxf];exact GP,F7.trans ((Fr.set (S:=Io i h.length) _ (.inr hj0)).trans (Fr.app (S:=BR) _ _) fun k e=>e.elim) fun k e=>.inl e,hR⟩ ⟨rfl,rfl,⟨rfl,rfl,trivial⟩,rfl⟩ ?_⟩
     ·exact (r7.fr (Fr.set (S:=AU j) _ rfl) (fun e=>by have e:i=j:=e;omega)).app _
     ·have:=hnx e;exact⟨by rw[hxe];show xs.length+1≤S7.1;omega,by show ts.length<f+S7.1;omega⟩
     ·show (if S7.2=none then ts.length+1-S7.1 else 0)<(if (none:Option (Int×Int))=none then ts.length+1-p else 0)
      rw[if_pos rfl]
      split
      ·rename_i e;have:=hnx e;omega
      ·omega
end Go.Proofs.YtlobiioioicmhaaGreatDoor
