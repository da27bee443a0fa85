/- Contracts of the functions that the law reaches. -/
import Derived.Test.YtlobiioioicmhaaGreatDoorQ8
set_option linter.all false
namespace Go.Proofs.YtlobiioioicmhaaGreatDoor
open Go Go.Ev
set_option maxRecDepth 20000
variable {γ:List (Nat×AV)} {ts:List Tk} {L:AV}
theorem takeE{E:AV→St→Prop}{d:Option Tmp}{K:St→Prop}{s:St}{h:List ABlk}{i p n:Nat}{w:List UInt8}(hE:EnvD γ L ts)(hp:p≤ts.length)(hr:RD h i L p n)(hg:s.s.g=γ)(hh:s.h=h)
  (yes:isB ts p w=true→∀ h1,Fr (IsI i) h h1→RD h1 i L (p+1) n→p+1≤ts.length→K (pt ⟨s.s,h1⟩ d (.v (.bool true))))
  (no:isB ts p w=false→∀ h1,Fr (IsI i) h h1→RD h1 i L p n→K (pt ⟨s.s,h1⟩ d (.v (.bool false)))):CallE Tryz.prog E 131 [.ptr i 0 0,.v (.string ⟨w.toArray⟩)] d K s:=by
 subst hg
 subst hh
 refine CallE.intro c131 _ (dtake_ev hE hp hr w) (fun r h1 hh=>?_) (fun v h1 hh=>by cases hh.1)
 obtain⟨e,f1,r1⟩:=hh
 cases e
 cases hB:isB ts p w with
 |true=>rw[hB]at r1;rw[if_pos rfl]at r1;exact yes hB h1 f1 r1 (isB_lt hB)
 |false=>rw[hB]at r1;rw[if_neg (by decide)]at r1;exact no hB h1 f1 r1
theorem wantE{E:AV→St→Prop}{d:Option Tmp}{K:St→Prop}{s:St}{h:List ABlk}{i p n:Nat}{w:List UInt8}(hE:EnvD γ L ts)(hp:p≤ts.length)(hr:RD h i L p n)(hg:s.s.g=γ)(hh:s.h=h)
  (yes:isB ts p w=true→∀ h1,Fr (IsI i) h h1→RD h1 i L (p+1) n→p+1≤ts.length→K (pt ⟨s.s,h1⟩ d (.tup [])))
  (no:isB ts p w=false→∀ h1,Fr (IsI i) h h1→E (stopA (plO ts n p) 80) ⟨s.s,h1⟩):CallE Tryz.prog E 128 [.ptr i 0 0,.v (.string ⟨w.toArray⟩)] d K s:=by
 subst hg
 subst hh
 refine callD c128 (dwant_ev hE hp hr w) (fun x q a h1 e f1 r1 hA=>?_) (fun q e' h1 e f1=>?_)
 ·unfold wantD at e
  split at e
  ·rename_i hB
   cases e
   subst hA
   exact yes hB h1 f1 r1 (isB_lt hB)
  ·cases e
 ·unfold wantD at e
  split at e
  ·cases e
  ·rename_i hB
   cases e
   exact no (by simpa using hB) h1 f1
theorem wordE{E:AV→St→Prop}{d:Option Tmp}{K:St→Prop}{s:St}{h:List ABlk}{i p n:Nat}(hE:EnvD γ L ts)(hp:p≤ts.length)(hr:RD h i L p n)(hg:s.s.g=γ)(hh:s.h=h)
  (yes:∀ nm q h1,wordD ts p=.ok nm q→Fr (IsI i) h h1→RD h1 i L q n→p+1≤q→q≤ts.length→K (pt ⟨s.s,h1⟩ d (.v (.string ⟨nm.toArray⟩))))
  (no:∀ q e h1,wordD ts p=.bad q e→Fr (IsI i) h h1→E (stopA (plO ts n q) e) ⟨s.s,h1⟩):CallE Tryz.prog E 129 [.ptr i 0 0] d K s:=by
 subst hg
 subst hh
 have adv:=word_adv hp
 refine callD c129 (dword_ev hE hp hr) (fun x q a h1 e f1 r1 hA=>?_) (fun q e' h1 e f1=>no q e' h1 e f1)
 subst hA
 rw[e]at adv
 exact yes x q h1 e f1 r1 adv.1 adv.2
theorem exprE{E:AV→St→Prop}{d:Option Tmp}{K:St→Prop}{s:St}{h:List ABlk}{i p n:Nat}(hE:EnvD γ L ts)(hp:p≤ts.length)(hr:RD h i L p n)(hg:s.s.g=γ)(hh:s.h=h)
  (yes:∀ x q h1,exprD ts p=.ok x q→Fr (IsI i) h h1→RD h1 i L q n→p+1≤q→q≤ts.length→K (pt ⟨s.s,h1⟩ d (.agg [nodesA x])))
  (no:∀ q e h1,exprD ts p=.bad q e→Fr (IsI i) h h1→E (stopA (plO ts n q) e) ⟨s.s,h1⟩):CallE Tryz.prog E 132 [.ptr i 0 0] d K s:=by
 subst hg
 subst hh
 have adv:=expr_adv hp
 refine callD c132 (dexpr_ev hE hp hr) (fun x q a h1 e f1 r1 hA=>?_) (fun q e' h1 e f1=>no q e' h1 e f1)
 have hA:a=.agg [nodesA x]:=hA
 subst hA
 rw[e]at adv
 exact yes x q h1 e f1 r1 adv.1 adv.2
theorem argsE{E:AV→St→Prop}{d:Option Tmp}{K:St→Prop}{s:St}{h:List ABlk}{i p n:Nat}(hE:EnvD γ L ts)(hp:p≤ts.length)(hr:RD h i L p n)(hg:s.s.g=γ)(hh:s.h=h)
  (yes:∀ x q A h1,argsD ts p=.ok x q→Fr (IsI i) h h1→RD h1 i L q n→p+1≤q→q≤ts.length→Rd (Old h.length) h1 (expsA x) A→K (pt ⟨s.s,h1⟩ d A))
  (no:∀ q e h1,argsD ts p=.bad q e→Fr (IsI i) h h1→E (stopA (plO ts n q) e) ⟨s.s,h1⟩):CallE Tryz.prog E 203 [.ptr i 0 0] d K s:=by
 subst hg
 subst hh
 have adv:=args_adv hp
 refine callD c203 (dargs_ev hE hp hr) (fun x q a h1 e f1 r1 hA=>?_) (fun q e' h1 e f1=>no q e' h1 e f1)
 rw[e]at adv
 exact yes x q a h1 e f1 r1 adv.1 adv.2 hA
theorem c133:bodyT Tryz.prog 133:=⟨_,Tryz.func133,by kernel_rfl,by kernel_rfl⟩
def bdS(γ:List (Nat×AV))(i:Nat)(y:Nat×AV×List ABlk):St:=⟨⟨53,[(0,.ptr i 0 0),(2,y.2.1)],γ⟩,y.2.2⟩
def IO(i n0:Nat)(k:Nat):Prop:=k=i∨n0≤k
theorem IO.i{i n0:Nat}{h h':List ABlk}(f:Fr (IsI i) h h'):Fr (IO i n0) h h':=f.mono fun k e=>.inl e
theorem IO.fin{i:Nat}{h h':List ABlk}(f:Fr (IO i h.length) h h'):Fr (IsI i) h h':=⟨f.1,fun k hk hn=>f.2 k hk fun e=>e.elim hn fun e=>by omega⟩
theorem rd_one{S:Nat→Prop}{h:List ABlk}{n:Nat}{cs:List AV}{A:AV}(a:Rd S h (slA n cs) A):oneA A=true∧flat A=some [A]:=by
 have:=a.fz
 cases n with
 |zero=>simp only[slA,Go.Ev.fz]at this;subst this;exact⟨rfl,rfl⟩
 |succ n=>
  simp only[slA,Go.Ev.fz]at this
  rcases this with rfl|⟨_,i,k,xs,rfl,_⟩<;>exact⟨rfl,rfl⟩
set_option maxHeartbeats 4000000 in
theorem dbody_ev(E:EnvD γ L ts){h:List ABlk}{i p n:Nat}(hp:p≤ts.length)(hr:RD h i L p n):
  EvM Tryz.prog γ 133 [.ptr i 0 0] h (ResD ts n L i h (RdA actsA h.length) (bodyD ts p)):=by
 have hil:=hr.lt
 have hn:=E.n
 refine EvM.of Tryz.func133 rfl ?_
 simp only[Tryz.f133,evE,Nat.reduceAdd,Nat.reduceSub,Nat.reduceLT,Nat.reduceEqDiff,reduceCtorEq]
 refine wantE (w:=[123]) E hp hr ?_ ?_ (fun hB h1 f1 r1 hp1=>?_) (fun hB h1 f1=>?_)
 ·rfl
 ·rfl
 rotate_left
 ·have:bodyD ts p=.bad p 80:=by unfold bodyD wantD;rw[hB];rfl
  rw[this]
  exact⟨f1,rfl⟩
 have eD:bodyD ts p=actsD ts (ts.length+1) [] (p+1):=by unfold bodyD wantD;rw[hB];rfl
 rw[eD]
 generalize hR:actsD ts (ts.length+1) [] (p+1)=R
 simp only[tyD,evE,Nat.reduceLT]
 refine LoopE.intro (bdS γ i) (fun y=>∃ xs f,y.1≤ts.length∧xs.length≤y.1∧RD y.2.2 i L y.1 n∧GL h.length 135 5 y.2.2 y.2.1 xs.length (xs.flatMap Ac.cells)∧Fr (IO i h.length) h y.2.2∧actsD ts f xs y.1=R∧ts.length<f+y.1) (fun y=>ts.length+1-y.1) (p+1,.v (.slice none 0 0),h1) ⟨rfl,rfl,⟨rfl,rfl,trivial⟩,rfl⟩
  ⟨[],ts.length+1,hp1,by simp,r1,GL.nil,IO.i f1,hR,by show ts.length<ts.length+1+(p+1);omega⟩ (fun y hy=>?_)
 clear hR eD f1 r1 hB hp1 hp hr
 obtain⟨p,N,h4⟩:=y
 obtain⟨xs,f,hp,hx4,r4,G4,F4,hR,hf⟩:=hy
 simp only at hp hx4 r4 G4 F4 hR hf
 obtain⟨f,rfl⟩:∃ g,f=g+1:=⟨f-1,by omega⟩
 rw[actsD]at hR
 have hi4:=r4.lt
 have hF4:=F4.1
 simp only[bdS,evE,Nat.reduceLT,Nat.reduceEqDiff,reduceCtorEq]
 refine takeE (w:=[125]) E hp (r4.app [⟨0,135,[.v (.int .i64 0),.v (.slice none 0 0),.v (.string ⟨#[]⟩),.v (.string ⟨#[]⟩),.v (.slice none 0 0)]⟩]) ?_ ?_ (fun hB h5 f5 r5 hp5=>?_) (fun hB h5 f5 r5=>?_)
 ·rfl
 ·rfl
 ·rw[if_pos hB]at hR
  rw[←hR]
  simp only[evE,Nat.reduceLT,Nat.reduceEqDiff,reduceCtorEq]
  exact⟨IO.fin (F4.trans (IO.i (n0:=h4.length) f5.pre) fun k e=>e.elim (fun e=>.inl (.inl e)) fun e=>.inl (.inr (by omega))),N,rfl,r5,G4.rdS f5.pre (fun k e _=>by have e:k=i:=e;omega) (Nat.le_refl _)⟩
 rw[if_neg (by rw[hB];decide)]at hR
 have ka5:h5[h4.length]?=some ⟨0,135,[.v (.int .i64 0),.v (.slice none 0 0),.v (.string ⟨#[]⟩),.v (.string ⟨#[]⟩),.v (.slice none 0 0)]⟩:=f5.at (at_len _ _ _) (fun e=>by have e:h4.length=i:=e;omega)
 have FF5:Fr (IO i h4.length) h4 h5:=IO.i f5.pre
 clear f5
 simp only[evE,Nat.reduceLT,Nat.reduceEqDiff,reduceCtorEq]
 refine takeE (w:=kSend) E hp r5 ?_ ?_ (fun hS h6 f6 r6 hp6=>?_) (fun hS h6 f6 r6=>?_)
 ·rfl
 ·rfl
 ·have ka6:=f6.at ka5 (fun e=>by have e:h4.length=i:=e;omega)
  have FF6:=FF5.trans (IO.i (n0:=h4.length) f6) fun k e=>.inl e
  simp only[evE,Nat.reduceLT,Nat.reduceEqDiff,reduceCtorEq]
  refine exprE E hp6 r6 ?_ ?_ (fun x q7 h7 e7 f7 r7 a7 b7=>?_) (fun q e' h7 e7 f7=>?_)
  ·rfl
  ·rfl
  rotate_left
  ·have:actD ts p=.bad q e':=by unfold actD;rw[if_pos hS];simp only[e7,DR.bind]
   rw[this]at hR
   rw[←hR]
   exact⟨IO.fin (F4.trans (FF6.trans (IO.i f7) fun k e=>.inl e) fun k e=>e.elim (fun e=>.inl (.inl e)) fun e=>.inl (.inr (by have:=F4.1;omega))),rfl⟩
  have FF7:=FF6.trans (IO.i (n0:=h4.length) f7) fun k e=>.inl e
  have ka7:=f7.at ka6 (fun e=>by have e:h4.length=i:=e;omega)
  have hone:oneA (nodesA x)=true:=by cases x<;>rfl
  have hflat:flat (nodesA x)=some [nodesA x]:=by cases x<;>rfl
  simp only[tyD,ka7,setMany,hone,evE,Nat.reduceAdd,Nat.reduceLT,Nat.reduceLeDiff,Nat.reduceEqDiff,reduceCtorEq]
  obtain⟨ka8,r8,FF8⟩:(h7.set h4.length (⟨0,135,[.v (.int .i64 1),nodesA x,.v (.string ⟨#[]⟩),.v (.string ⟨#[]⟩),.v (.slice none 0 0)]⟩:ABlk))[h4.length]?=some (⟨0,135,[.v (.int .i64 1),nodesA x,.v (.string ⟨#[]⟩),.v (.string ⟨#[]⟩),.v (.slice none 0 0)]⟩:ABlk)∧RD (h7.set h4.length (⟨0,135,[.v (.int .i64 1),nodesA x,.v (.string ⟨#[]⟩),.v (.string ⟨#[]⟩),.v (.slice none 0 0)]⟩:ABlk)) i L q7 n∧Fr (IO i h4.length) h4 (h7.set h4.length (⟨0,135,[.v (.int .i64 1),nodesA x,.v (.string ⟨#[]⟩),.v (.string ⟨#[]⟩),.v (.slice none 0 0)]⟩:ABlk)):=⟨List.getElem?_set_self (List.getElem?_eq_some_iff.1 ka7).1,(List.getElem?_set_ne (by omega)).trans r7,FF7.trans (Fr.set (S:=IO i h4.length) _ (.inr (Nat.le_refl _))) fun k e=>.inl e⟩
  generalize h7.set h4.length (⟨0,135,[.v (.int .i64 1),nodesA x,.v (.string ⟨#[]⟩),.v (.string ⟨#[]⟩),.v (.slice none 0 0)]⟩:ABlk)=h8 at ka8 r8 FF8⊢
  refine wordE E b7 r8 ?_ ?_ (fun nm q9 h9 e9 f9 r9 a9 b9=>?_) (fun q e' h9 e9 f9=>?_)
  ·rfl
  ·rfl
  rotate_left
  ·have:actD ts p=.bad q e':=by unfold actD;rw[if_pos hS];simp only[e7,e9,DR.bind]
   rw[this]at hR
   rw[←hR]
   exact⟨IO.fin (F4.trans (FF8.trans (IO.i f9) fun k e=>.inl e) fun k e=>e.elim (fun e=>.inl (.inl e)) fun e=>.inl (.inr (by have:=F4.1;omega))),rfl⟩
  have FF9:=FF8.trans (IO.i (n0:=h4.length) f9) fun k e=>.inl e
  have ka9:=f9.at ka8 (fun e=>by have e:h4.length=i:=e;omega)
  simp only[tyD,ka9,setMany,evE,tyX,Nat.reduceAdd,Nat.reduceLT,Nat.reduceLeDiff,Nat.reduceEqDiff,reduceCtorEq]
  obtain⟨ka10,r10,FF10⟩:(h9.set h4.length (⟨0,135,[.v (.int .i64 1),nodesA x,.v (.string ⟨nm.toArray⟩),.v (.string ⟨#[]⟩),.v (.slice none 0 0)]⟩:ABlk))[h4.length]?=some (⟨0,135,[.v (.int .i64 1),nodesA x,.v (.string ⟨nm.toArray⟩),.v (.string ⟨#[]⟩),.v (.slice none 0 0)]⟩:ABlk)∧RD (h9.set h4.length (⟨0,135,[.v (.int .i64 1),nodesA x,.v (.string ⟨nm.toArray⟩),.v (.string ⟨#[]⟩),.v (.slice none 0 0)]⟩:ABlk)) i L q9 n∧Fr (IO i h4.length) h4 (h9.set h4.length (⟨0,135,[.v (.int .i64 1),nodesA x,.v (.string ⟨nm.toArray⟩),.v (.string ⟨#[]⟩),.v (.slice none 0 0)]⟩:ABlk)):=⟨List.getElem?_set_self (List.getElem?_eq_some_iff.1 ka9).1,(List.getElem?_set_ne (by omega)).trans r9,FF9.trans (Fr.set (S:=IO i h4.length) _ (.inr (Nat.le_refl _))) fun k e=>.inl e⟩
  generalize h9.set h4.length (⟨0,135,[.v (.int .i64 1),nodesA x,.v (.string ⟨nm.toArray⟩),.v (.string ⟨#[]⟩),.v (.slice none 0 0)]⟩:ABlk)=h10 at ka10 r10 FF10⊢
  refine argsE E b9 r10 ?_ ?_ (fun l q11 A h11 e11 f11 r11 a11 b11 rA=>?_) (fun q e' h11 e11 f11=>?_)
  ·rfl
  ·rfl
  rotate_left
  ·have:actD ts p=.bad q e':=by unfold actD;rw[if_pos hS];simp only[e7,e9,e11,DR.bind]
   rw[this]at hR
   rw[←hR]
   exact⟨IO.fin (F4.trans (FF10.trans (IO.i f11) fun k e=>.inl e) fun k e=>e.elim (fun e=>.inl (.inl e)) fun e=>.inl (.inr (by have:=F4.1;omega))),rfl⟩
  have FF11:=FF10.trans (IO.i (n0:=h4.length) f11) fun k e=>.inl e
  have ka11:=f11.at ka10 (fun e=>by have e:h4.length=i:=e;omega)
  obtain⟨hone2,hflat2⟩:=rd_one rA
  simp only[tyD,ka11,setMany,hflat2,evE,Nat.reduceAdd,Nat.reduceLT,Nat.reduceLeDiff,Nat.reduceEqDiff,reduceCtorEq]
  obtain⟨ka12,r12,FF12⟩:(h11.set h4.length (⟨0,135,[.v (.int .i64 1),nodesA x,.v (.string ⟨nm.toArray⟩),.v (.string ⟨#[]⟩),A]⟩:ABlk))[h4.length]?=some (⟨0,135,[.v (.int .i64 1),nodesA x,.v (.string ⟨nm.toArray⟩),.v (.string ⟨#[]⟩),A]⟩:ABlk)∧RD (h11.set h4.length (⟨0,135,[.v (.int .i64 1),nodesA x,.v (.string ⟨nm.toArray⟩),.v (.string ⟨#[]⟩),A]⟩:ABlk)) i L q11 n∧Fr (IO i h4.length) h4 (h11.set h4.length (⟨0,135,[.v (.int .i64 1),nodesA x,.v (.string ⟨nm.toArray⟩),.v (.string ⟨#[]⟩),A]⟩:ABlk)):=⟨List.getElem?_set_self (List.getElem?_eq_some_iff.1 ka11).1,(List.getElem?_set_ne (by omega)).trans r11,FF11.trans (Fr.set (S:=IO i h4.length) _ (.inr (Nat.le_refl _))) fun k e=>.inl e⟩
  have rA2:=rA.up (S':=Old (h4.length+1)) (Fr.set (S:=IsI h4.length) (h:=h11) (⟨0,135,[.v (.int .i64 1),nodesA x,.v (.string ⟨nm.toArray⟩),.v (.string ⟨#[]⟩),A]⟩:ABlk) rfl) (fun k e _=>by have e:k=h4.length:=e;have:=(List.getElem?_eq_some_iff.1 ka10).1;show k<h10.length;omega) (fun k e _=>by have e:k<h4.length+1:=e;have:=(List.getElem?_eq_some_iff.1 ka10).1;show k<h10.length;omega)
  generalize h11.set h4.length (⟨0,135,[.v (.int .i64 1),nodesA x,.v (.string ⟨nm.toArray⟩),.v (.string ⟨#[]⟩),A]⟩:ABlk)=h12 at ka12 r12 FF12 rA2⊢
  obtain⟨ac,A,qz,hz,ez,hact,kaz,rAz,rz,FFz,hqz⟩:∃ (ac:Ac) (A:AV) (qz:Nat) (hz:List ABlk),hz=h12∧actD ts p=.ok ac qz∧hz[h4.length]?=some ⟨0,135,[intC ac.kind,nodesA ac.to,strC ac.name,strC ac.var,A]⟩∧Rd (Old (h4.length+1)) hz (expsA ac.args) A∧RD hz i L qz n∧Fr (IO i h4.length) h4 hz∧p+1≤qz∧qz≤ts.length:=⟨⟨1,x,nm,[],l⟩,A,q11,h12,rfl,by unfold actD;rw[if_pos hS];simp only[e7,e9,e11,DR.bind],ka12,rA2,r12,FF12,by omega,by omega⟩
  subst ez
  rw[hact]at hR
  have eR2:(DR.ok ac qz).bind (fun a p1=>(wantD ts [59] p1).bind fun x p2=>actsD ts f (xs++[a]) p2)=(wantD ts [59] qz).bind fun x p2=>actsD ts f (xs++[ac]) p2:=rfl
  rw[eR2]at hR
  refine wantE (w:=[59]) E hqz.2 rz ?_ ?_ (fun hW hy fy ry hpy=>?_) (fun hW hy fy=>?_)
  ·rfl
  ·rfl
  rotate_left
  ·unfold wantD at hR
   rw[if_neg (by rw[hW];decide)]at hR
   rw[←hR]
   exact⟨IO.fin (F4.trans (FFz.trans (IO.i fy) fun k e=>.inl e) fun k e=>e.elim (fun e=>.inl (.inl e)) fun e=>.inl (.inr (by have:=F4.1;omega))),rfl⟩
  have hR':actsD ts f (xs++[ac]) (qz+1)=R:=by rw[←hR];unfold wantD;rw[if_pos hW];rfl
  have FFy:=FFz.trans (IO.i (n0:=h4.length) fy) fun k e=>.inl e
  have kay:=fy.at kaz (fun e=>by have e:h4.length=i:=e;omega)
  have rAy:=rAz.up (S':=Old (h4.length+1)) fy (fun k e _=>by have e:k=i:=e;show k<h4.length+1;omega) (fun k e _=>e)
  have Gy:GL h.length 135 5 hy N xs.length (xs.flatMap Ac.cells):=G4.fr FFy (fun k e hk=>e.elim (fun e=>⟨by omega,fun hn=>by have:=(G4.lt hn).1;omega⟩) fun e=>by omega)
  obtain⟨honeA,hflatA⟩:=rd_one rAy
  have honeT:oneA (nodesA ac.to)=true:=by cases ac.to<;>rfl
  have hflatT:flat (nodesA ac.to)=some [nodesA ac.to]:=by cases ac.to<;>rfl
  have hel:RdL (fun k=>k<h.length∨nbk N k) hy ac.cells [intC ac.kind,nodesA ac.to,strC ac.name,strC ac.var,A]:=RdL.cons (Rd.int _) (RdL.cons (Rd.nodes _) (RdL.cons (Rd.str _) (RdL.cons (Rd.str _) (RdL.cons (rAy.up (Fr.refl NoB hy) (fun k e=>e.elim) fun k e hk=>by
   show k<h4.length+1
   rcases e with e|e
   ·omega
   ·have:=(G4.lt e).2;omega) RdL.nil))))
  have hxe:(xs++[ac]).length=xs.length+1:=by simp
  have hxf:(xs++[ac]).flatMap Ac.cells=xs.flatMap Ac.cells++ac.cells:=by simp
  have hal:=(List.getElem?_eq_some_iff.1 kay).1
  have F4y:Fr (IO i h.length) h hy:=F4.trans FFy fun k e=>e.elim (fun e=>.inl (.inl e)) fun e=>.inl (.inr (by omega))
  clear hR FFz rAz rz kaz
  rcases Gy with⟨rfl,e0,e1⟩|⟨j,ver,cs,rfl,hnn,hj0,hj,hl,hrd⟩
  ·simp only[tyD,kay,intC,strC,honeA,honeT,at_len,List.append_assoc,List.cons_append,List.nil_append,evE,Nat.reduceAdd,Nat.reduceLT,Nat.reduceLeDiff,Nat.reduceEqDiff,reduceCtorEq,List.reduceReplicate]
   have GP:=(GL.nil (n0:=h.length) (t:=135) (sz:=5) (h:=hy)).push (h':=hy++[⟨0,135,[intC ac.kind,nodesA ac.to,strC ac.name,strC ac.var,A]⟩,⟨0,135,[intC ac.kind,nodesA ac.to,strC ac.name,strC ac.var,A]⟩]) (j':=hy.length+1) (ver':=0) (xs:=[]) (es:=[intC ac.kind,nodesA ac.to,strC ac.name,strC ac.var,A]) (ecs:=ac.cells) (fun j ver e=>by cases e) (fun _=>⟨by omega,rfl⟩) (by omega) (Fr.app _ _) (at_len1 _ _ _ _) rfl hel
   exact loopCE.intro (qz+1,.own (hy.length+1) 0 1,_) ⟨xs++[ac],f,hpy,by rw[hxe];show xs.length+1≤qz+1;omega,ry.app _,by rw[hxe,hxf,e0,e1];exact GP,F4y.trans (Fr.app (S:=NoB) _ _) fun k e=>e.elim,hR',by show ts.length<f+(qz+1);omega⟩ ⟨rfl,rfl,⟨rfl,rfl,trivial⟩,rfl⟩ (by show ts.length+1-(qz+1)<ts.length+1-p;omega)
  ·have hjl:=(List.getElem?_eq_some_iff.1 hj).1
   have hl':cs.length=xs.length * 5:=hl
   have q1:∀ l,(hy++l)[j]?=some ⟨ver,135,cs⟩:=fun l=>(List.getElem?_append_left hjl).trans hj
   have s8:∀ l c,(hy++l).set j c=hy.set j c++l:=fun l c=>List.set_append_left _ _ hjl
   have q4:List.take (xs.length * 5) cs=cs:=List.take_of_length_le (by omega)
   have q6:xs.length * 5≤cs.length:=by omega
   simp only[tyD,kay,intC,strC,honeA,honeT,at_len,q1,s8,q4,q6,evE,Nat.reduceAdd,Nat.reduceLT,Nat.reduceLeDiff,Nat.reduceEqDiff,reduceCtorEq,List.reduceReplicate]
   have GP:=GL.push (h:=hy) (N:=.own j ver xs.length) (.inr ⟨j,ver,cs,rfl,hnn,hj0,hj,hl,hrd⟩) (h':=hy.set j ⟨ver+1,135,cs++[intC ac.kind,nodesA ac.to,strC ac.name,strC ac.var,A]⟩++[⟨0,135,[intC ac.kind,nodesA ac.to,strC ac.name,strC ac.var,A]⟩]) (j':=j) (ver':=ver+1) (xs:=cs) (es:=[intC ac.kind,nodesA ac.to,strC ac.name,strC ac.var,A]) (ecs:=ac.cells) (fun j2 ver2 e=>by cases e;exact⟨rfl,hj⟩) (fun e=>by cases e) (by omega) ((Fr.set (S:=fun k=>k<h.length∨nbk (.own j ver xs.length) k) _ (.inr rfl)).trans (Fr.app (S:=NoB) _ _) fun k e=>e.elim) ((List.getElem?_append_left (by rw[List.length_set];exact hjl)).trans (List.getElem?_set_self hjl)) rfl hel
   refine⟨by omega,loopCE.intro (qz+1,.own j (ver+1) (xs.length+1),_) ⟨xs++[ac],f,hpy,by rw[hxe];show xs.length+1≤qz+1;omega,?_,by rw[hxe,hxf];exact GP,F4y.trans ((Fr.set (S:=IO i h.length) _ (.inr hj0)).trans (Fr.app (S:=NoB) _ _) fun k e=>e.elim) fun k e=>.inl e,hR',by show ts.length<f+(qz+1);omega⟩ ⟨rfl,rfl,⟨rfl,rfl,trivial⟩,rfl⟩ (by show ts.length+1-(qz+1)<ts.length+1-p;omega)⟩
   exact (List.getElem?_append_left (by rw[List.length_set];have:=ry.lt;omega)).trans ((List.getElem?_set_ne (by omega)).trans ry)
 have ka6:=f6.at ka5 (fun e=>by have e:h4.length=i:=e;omega)
 have FF6:=FF5.trans (IO.i (n0:=h4.length) f6) fun k e=>.inl e
 simp only[evE,Nat.reduceLT,Nat.reduceEqDiff,reduceCtorEq]
 refine takeE (w:=kSpawn) E hp r6 ?_ ?_ (fun hS2 h7 f7 r7 hp7=>?_) (fun hS2 h7 f7 r7=>?_)
 ·rfl
 ·rfl
 ·have ka7:=f7.at ka6 (fun e=>by have e:h4.length=i:=e;omega)
  have FF7:=FF6.trans (IO.i (n0:=h4.length) f7) fun k e=>.inl e
  simp only[evE,Nat.reduceLT,Nat.reduceEqDiff,reduceCtorEq]
  have hone:=True.intro
  have hflat:=True.intro
  refine wordE E hp7 r7 ?_ ?_ (fun nm q8 h8 e8 f8 r8 a8 b8=>?_) (fun q e' h8 e8 f8=>?_)
  ·rfl
  ·rfl
  rotate_left
  ·have:actD ts p=.bad q e':=by unfold actD;rw[if_neg (by rw[hS];decide)];rw[if_pos hS2];simp only[e8,DR.bind]
   rw[this]at hR
   rw[←hR]
   exact⟨IO.fin (F4.trans (FF7.trans (IO.i f8) fun k e=>.inl e) fun k e=>e.elim (fun e=>.inl (.inl e)) fun e=>.inl (.inr (by have:=F4.1;omega))),rfl⟩
  have FF8:=FF7.trans (IO.i (n0:=h4.length) f8) fun k e=>.inl e
  have ka8:=f8.at ka7 (fun e=>by have e:h4.length=i:=e;omega)
  simp only[tyD,ka8,setMany,evE,Nat.reduceAdd,Nat.reduceLT,Nat.reduceLeDiff,Nat.reduceEqDiff,reduceCtorEq]
  obtain⟨ka9,r9,FF9⟩:(h8.set h4.length (⟨0,135,[.v (.int .i64 2),.v (.slice none 0 0),.v (.string ⟨nm.toArray⟩),.v (.string ⟨#[]⟩),.v (.slice none 0 0)]⟩:ABlk))[h4.length]?=some (⟨0,135,[.v (.int .i64 2),.v (.slice none 0 0),.v (.string ⟨nm.toArray⟩),.v (.string ⟨#[]⟩),.v (.slice none 0 0)]⟩:ABlk)∧RD (h8.set h4.length (⟨0,135,[.v (.int .i64 2),.v (.slice none 0 0),.v (.string ⟨nm.toArray⟩),.v (.string ⟨#[]⟩),.v (.slice none 0 0)]⟩:ABlk)) i L q8 n∧Fr (IO i h4.length) h4 (h8.set h4.length (⟨0,135,[.v (.int .i64 2),.v (.slice none 0 0),.v (.string ⟨nm.toArray⟩),.v (.string ⟨#[]⟩),.v (.slice none 0 0)]⟩:ABlk)):=⟨List.getElem?_set_self (List.getElem?_eq_some_iff.1 ka8).1,(List.getElem?_set_ne (by omega)).trans r8,FF8.trans (Fr.set (S:=IO i h4.length) _ (.inr (Nat.le_refl _))) fun k e=>.inl e⟩
  generalize h8.set h4.length (⟨0,135,[.v (.int .i64 2),.v (.slice none 0 0),.v (.string ⟨nm.toArray⟩),.v (.string ⟨#[]⟩),.v (.slice none 0 0)]⟩:ABlk)=h9 at ka9 r9 FF9⊢
  refine wantE (w:=kAs) E b8 r9 ?_ ?_ (fun e10 h10 f10 r10 b10=>?_) (fun e10 h10 f10=>?_)
  ·rfl
  ·rfl
  rotate_left
  ·have:actD ts p=.bad q8 80:=by unfold actD;rw[if_neg (by rw[hS];decide)];rw[if_pos hS2];simp only[e8,wantD,e10,DR.bind,Bool.false_eq_true,if_false]
   rw[this]at hR
   rw[←hR]
   exact⟨IO.fin (F4.trans (FF9.trans (IO.i f10) fun k e=>.inl e) fun k e=>e.elim (fun e=>.inl (.inl e)) fun e=>.inl (.inr (by have:=F4.1;omega))),rfl⟩
  have FF10:=FF9.trans (IO.i (n0:=h4.length) f10) fun k e=>.inl e
  have ka10:=f10.at ka9 (fun e=>by have e:h4.length=i:=e;omega)
  simp only[evE,Nat.reduceLT,Nat.reduceEqDiff,reduceCtorEq]
  refine wordE E b10 r10 ?_ ?_ (fun vr q11 h11 e11 f11 r11 a11 b11=>?_) (fun q e' h11 e11 f11=>?_)
  ·rfl
  ·rfl
  rotate_left
  ·have:actD ts p=.bad q e':=by unfold actD;rw[if_neg (by rw[hS];decide)];rw[if_pos hS2];simp only[e8,wantD,e10,e11,DR.bind,if_true]
   rw[this]at hR
   rw[←hR]
   exact⟨IO.fin (F4.trans (FF10.trans (IO.i f11) fun k e=>.inl e) fun k e=>e.elim (fun e=>.inl (.inl e)) fun e=>.inl (.inr (by have:=F4.1;omega))),rfl⟩
  have FF11:=FF10.trans (IO.i (n0:=h4.length) f11) fun k e=>.inl e
  have ka11:=f11.at ka10 (fun e=>by have e:h4.length=i:=e;omega)
  simp only[tyD,ka11,setMany,evE,tyX,Nat.reduceAdd,Nat.reduceLT,Nat.reduceLeDiff,Nat.reduceEqDiff,reduceCtorEq]
  obtain⟨ka12,r12,FF12⟩:(h11.set h4.length (⟨0,135,[.v (.int .i64 2),.v (.slice none 0 0),.v (.string ⟨nm.toArray⟩),.v (.string ⟨vr.toArray⟩),.v (.slice none 0 0)]⟩:ABlk))[h4.length]?=some (⟨0,135,[.v (.int .i64 2),.v (.slice none 0 0),.v (.string ⟨nm.toArray⟩),.v (.string ⟨vr.toArray⟩),.v (.slice none 0 0)]⟩:ABlk)∧RD (h11.set h4.length (⟨0,135,[.v (.int .i64 2),.v (.slice none 0 0),.v (.string ⟨nm.toArray⟩),.v (.string ⟨vr.toArray⟩),.v (.slice none 0 0)]⟩:ABlk)) i L q11 n∧Fr (IO i h4.length) h4 (h11.set h4.length (⟨0,135,[.v (.int .i64 2),.v (.slice none 0 0),.v (.string ⟨nm.toArray⟩),.v (.string ⟨vr.toArray⟩),.v (.slice none 0 0)]⟩:ABlk)):=⟨List.getElem?_set_self (List.getElem?_eq_some_iff.1 ka11).1,(List.getElem?_set_ne (by omega)).trans r11,FF11.trans (Fr.set (S:=IO i h4.length) _ (.inr (Nat.le_refl _))) fun k e=>.inl e⟩
  generalize h11.set h4.length (⟨0,135,[.v (.int .i64 2),.v (.slice none 0 0),.v (.string ⟨nm.toArray⟩),.v (.string ⟨vr.toArray⟩),.v (.slice none 0 0)]⟩:ABlk)=h12 at ka12 r12 FF12⊢
  obtain⟨ac,A,qz,hz,ez,hact,kaz,rAz,rz,FFz,hqz⟩:∃ (ac:Ac) (A:AV) (qz:Nat) (hz:List ABlk),hz=h12∧actD ts p=.ok ac qz∧hz[h4.length]?=some ⟨0,135,[intC ac.kind,nodesA ac.to,strC ac.name,strC ac.var,A]⟩∧Rd (Old (h4.length+1)) hz (expsA ac.args) A∧RD hz i L qz n∧Fr (IO i h4.length) h4 hz∧p+1≤qz∧qz≤ts.length:=⟨⟨2,[],nm,vr,[]⟩,.v (.slice none 0 0),q11,h12,rfl,by unfold actD;rw[if_neg (by rw[hS];decide)];rw[if_pos hS2];simp only[e8,wantD,e10,e11,DR.bind,if_true],ka12,Rd.val _,r12,FF12,by omega,by omega⟩
  subst ez
  rw[hact]at hR
  have eR2:(DR.ok ac qz).bind (fun a p1=>(wantD ts [59] p1).bind fun x p2=>actsD ts f (xs++[a]) p2)=(wantD ts [59] qz).bind fun x p2=>actsD ts f (xs++[ac]) p2:=rfl
  rw[eR2]at hR
  refine wantE (w:=[59]) E hqz.2 rz ?_ ?_ (fun hW hy fy ry hpy=>?_) (fun hW hy fy=>?_)
  ·rfl
  ·rfl
  rotate_left
  ·unfold wantD at hR
   rw[if_neg (by rw[hW];decide)]at hR
   rw[←hR]
   exact⟨IO.fin (F4.trans (FFz.trans (IO.i fy) fun k e=>.inl e) fun k e=>e.elim (fun e=>.inl (.inl e)) fun e=>.inl (.inr (by have:=F4.1;omega))),rfl⟩
  have hR':actsD ts f (xs++[ac]) (qz+1)=R:=by rw[←hR];unfold wantD;rw[if_pos hW];rfl
  have FFy:=FFz.trans (IO.i (n0:=h4.length) fy) fun k e=>.inl e
  have kay:=fy.at kaz (fun e=>by have e:h4.length=i:=e;omega)
  have rAy:=rAz.up (S':=Old (h4.length+1)) fy (fun k e _=>by have e:k=i:=e;show k<h4.length+1;omega) (fun k e _=>e)
  have Gy:GL h.length 135 5 hy N xs.length (xs.flatMap Ac.cells):=G4.fr FFy (fun k e hk=>e.elim (fun e=>⟨by omega,fun hn=>by have:=(G4.lt hn).1;omega⟩) fun e=>by omega)
  obtain⟨honeA,hflatA⟩:=rd_one rAy
  have honeT:oneA (nodesA ac.to)=true:=by cases ac.to<;>rfl
  have hflatT:flat (nodesA ac.to)=some [nodesA ac.to]:=by cases ac.to<;>rfl
  have hel:RdL (fun k=>k<h.length∨nbk N k) hy ac.cells [intC ac.kind,nodesA ac.to,strC ac.name,strC ac.var,A]:=RdL.cons (Rd.int _) (RdL.cons (Rd.nodes _) (RdL.cons (Rd.str _) (RdL.cons (Rd.str _) (RdL.cons (rAy.up (Fr.refl NoB hy) (fun k e=>e.elim) fun k e hk=>by
   show k<h4.length+1
   rcases e with e|e
   ·omega
   ·have:=(G4.lt e).2;omega) RdL.nil))))
  have hxe:(xs++[ac]).length=xs.length+1:=by simp
  have hxf:(xs++[ac]).flatMap Ac.cells=xs.flatMap Ac.cells++ac.cells:=by simp
  have hal:=(List.getElem?_eq_some_iff.1 kay).1
  have F4y:Fr (IO i h.length) h hy:=F4.trans FFy fun k e=>e.elim (fun e=>.inl (.inl e)) fun e=>.inl (.inr (by omega))
  clear hR FFz rAz rz kaz
  rcases Gy with⟨rfl,e0,e1⟩|⟨j,ver,cs,rfl,hnn,hj0,hj,hl,hrd⟩
  ·simp only[tyD,kay,intC,strC,honeA,honeT,at_len,List.append_assoc,List.cons_append,List.nil_append,evE,Nat.reduceAdd,Nat.reduceLT,Nat.reduceLeDiff,Nat.reduceEqDiff,reduceCtorEq,List.reduceReplicate]
   have GP:=(GL.nil (n0:=h.length) (t:=135) (sz:=5) (h:=hy)).push (h':=hy++[⟨0,135,[intC ac.kind,nodesA ac.to,strC ac.name,strC ac.var,A]⟩,⟨0,135,[intC ac.kind,nodesA ac.to,strC ac.name,strC ac.var,A]⟩]) (j':=hy.length+1) (ver':=0) (xs:=[]) (es:=[intC ac.kind,nodesA ac.to,strC ac.name,strC ac.var,A]) (ecs:=ac.cells) (fun j ver e=>by cases e) (fun _=>⟨by omega,rfl⟩) (by omega) (Fr.app _ _) (at_len1 _ _ _ _) rfl hel
   exact loopCE.intro (qz+1,.own (hy.length+1) 0 1,_) ⟨xs++[ac],f,hpy,by rw[hxe];show xs.length+1≤qz+1;omega,ry.app _,by rw[hxe,hxf,e0,e1];exact GP,F4y.trans (Fr.app (S:=NoB) _ _) fun k e=>e.elim,hR',by show ts.length<f+(qz+1);omega⟩ ⟨rfl,rfl,⟨rfl,rfl,trivial⟩,rfl⟩ (by show ts.length+1-(qz+1)<ts.length+1-p;omega)
  ·have hjl:=(List.getElem?_eq_some_iff.1 hj).1
   have hl':cs.length=xs.length * 5:=hl
   have q1:∀ l,(hy++l)[j]?=some ⟨ver,135,cs⟩:=fun l=>(List.getElem?_append_left hjl).trans hj
   have s8:∀ l c,(hy++l).set j c=hy.set j c++l:=fun l c=>List.set_append_left _ _ hjl
   have q4:List.take (xs.length * 5) cs=cs:=List.take_of_length_le (by omega)
   have q6:xs.length * 5≤cs.length:=by omega
   simp only[tyD,kay,intC,strC,honeA,honeT,at_len,q1,s8,q4,q6,evE,Nat.reduceAdd,Nat.reduceLT,Nat.reduceLeDiff,Nat.reduceEqDiff,reduceCtorEq,List.reduceReplicate]
   have GP:=GL.push (h:=hy) (N:=.own j ver xs.length) (.inr ⟨j,ver,cs,rfl,hnn,hj0,hj,hl,hrd⟩) (h':=hy.set j ⟨ver+1,135,cs++[intC ac.kind,nodesA ac.to,strC ac.name,strC ac.var,A]⟩++[⟨0,135,[intC ac.kind,nodesA ac.to,strC ac.name,strC ac.var,A]⟩]) (j':=j) (ver':=ver+1) (xs:=cs) (es:=[intC ac.kind,nodesA ac.to,strC ac.name,strC ac.var,A]) (ecs:=ac.cells) (fun j2 ver2 e=>by cases e;exact⟨rfl,hj⟩) (fun e=>by cases e) (by omega) ((Fr.set (S:=fun k=>k<h.length∨nbk (.own j ver xs.length) k) _ (.inr rfl)).trans (Fr.app (S:=NoB) _ _) fun k e=>e.elim) ((List.getElem?_append_left (by rw[List.length_set];exact hjl)).trans (List.getElem?_set_self hjl)) rfl hel
   refine⟨by omega,loopCE.intro (qz+1,.own j (ver+1) (xs.length+1),_) ⟨xs++[ac],f,hpy,by rw[hxe];show xs.length+1≤qz+1;omega,?_,by rw[hxe,hxf];exact GP,F4y.trans ((Fr.set (S:=IO i h.length) _ (.inr hj0)).trans (Fr.app (S:=NoB) _ _) fun k e=>e.elim) fun k e=>.inl e,hR',by show ts.length<f+(qz+1);omega⟩ ⟨rfl,rfl,⟨rfl,rfl,trivial⟩,rfl⟩ (by show ts.length+1-(qz+1)<ts.length+1-p;omega)⟩
   exact (List.getElem?_append_left (by rw[List.length_set];have:=ry.lt;omega)).trans ((List.getElem?_set_ne (by omega)).trans ry)
 have ka7:=f7.at ka6 (fun e=>by have e:h4.length=i:=e;omega)
 have FF7:=FF6.trans (IO.i (n0:=h4.length) f7) fun k e=>.inl e
 simp only[evE,Nat.reduceLT,Nat.reduceEqDiff,reduceCtorEq]
 refine takeE (w:=kReply) E hp r7 ?_ ?_ (fun hS3 h8 f8 r8 hp8=>?_) (fun hS3 h8 f8 r8=>?_)
 ·rfl
 ·rfl
 ·have ka8:=f8.at ka7 (fun e=>by have e:h4.length=i:=e;omega)
  have FF8:=FF7.trans (IO.i (n0:=h4.length) f8) fun k e=>.inl e
  simp only[evE,Nat.reduceLT,Nat.reduceEqDiff,reduceCtorEq]
  refine argsE E hp8 r8 ?_ ?_ (fun l q9 A h9 e9 f9 r9 a9 b9 rA=>?_) (fun q e' h9 e9 f9=>?_)
  ·rfl
  ·rfl
  rotate_left
  ·have:actD ts p=.bad q e':=by unfold actD;rw[if_neg (by rw[hS];decide)];rw[if_neg (by rw[hS2];decide)];rw[if_pos hS3];simp only[e9,DR.bind]
   rw[this]at hR
   rw[←hR]
   exact⟨IO.fin (F4.trans (FF8.trans (IO.i f9) fun k e=>.inl e) fun k e=>e.elim (fun e=>.inl (.inl e)) fun e=>.inl (.inr (by have:=F4.1;omega))),rfl⟩
  have FF9:=FF8.trans (IO.i (n0:=h4.length) f9) fun k e=>.inl e
  have ka9:=f9.at ka8 (fun e=>by have e:h4.length=i:=e;omega)
  obtain⟨hone,hflat⟩:=rd_one rA
  simp only[tyD,ka9,setMany,hflat,hone,evE,Nat.reduceAdd,Nat.reduceLT,Nat.reduceLeDiff,Nat.reduceEqDiff,reduceCtorEq]
  obtain⟨ka10,r10,FF10⟩:(h9.set h4.length (⟨0,135,[.v (.int .i64 3),.v (.slice none 0 0),.v (.string ⟨#[]⟩),.v (.string ⟨#[]⟩),A]⟩:ABlk))[h4.length]?=some (⟨0,135,[.v (.int .i64 3),.v (.slice none 0 0),.v (.string ⟨#[]⟩),.v (.string ⟨#[]⟩),A]⟩:ABlk)∧RD (h9.set h4.length (⟨0,135,[.v (.int .i64 3),.v (.slice none 0 0),.v (.string ⟨#[]⟩),.v (.string ⟨#[]⟩),A]⟩:ABlk)) i L q9 n∧Fr (IO i h4.length) h4 (h9.set h4.length (⟨0,135,[.v (.int .i64 3),.v (.slice none 0 0),.v (.string ⟨#[]⟩),.v (.string ⟨#[]⟩),A]⟩:ABlk)):=⟨List.getElem?_set_self (List.getElem?_eq_some_iff.1 ka9).1,(List.getElem?_set_ne (by omega)).trans r9,FF9.trans (Fr.set (S:=IO i h4.length) _ (.inr (Nat.le_refl _))) fun k e=>.inl e⟩
  have rA2:=rA.up (S':=Old (h4.length+1)) (Fr.set (S:=IsI h4.length) (h:=h9) (⟨0,135,[.v (.int .i64 3),.v (.slice none 0 0),.v (.string ⟨#[]⟩),.v (.string ⟨#[]⟩),A]⟩:ABlk) rfl) (fun k e _=>by have e:k=h4.length:=e;have:=(List.getElem?_eq_some_iff.1 ka8).1;show k<h8.length;omega) (fun k e _=>by have e:k<h4.length+1:=e;have:=(List.getElem?_eq_some_iff.1 ka8).1;show k<h8.length;omega)
  generalize h9.set h4.length (⟨0,135,[.v (.int .i64 3),.v (.slice none 0 0),.v (.string ⟨#[]⟩),.v (.string ⟨#[]⟩),A]⟩:ABlk)=h10 at ka10 r10 FF10 rA2⊢
  obtain⟨ac,A,qz,hz,ez,hact,kaz,rAz,rz,FFz,hqz⟩:∃ (ac:Ac) (A:AV) (qz:Nat) (hz:List ABlk),hz=h10∧actD ts p=.ok ac qz∧hz[h4.length]?=some ⟨0,135,[intC ac.kind,nodesA ac.to,strC ac.name,strC ac.var,A]⟩∧Rd (Old (h4.length+1)) hz (expsA ac.args) A∧RD hz i L qz n∧Fr (IO i h4.length) h4 hz∧p+1≤qz∧qz≤ts.length:=⟨⟨3,[],[],[],l⟩,A,q9,h10,rfl,by unfold actD;rw[if_neg (by rw[hS];decide)];rw[if_neg (by rw[hS2];decide)];rw[if_pos hS3];simp only[e9,DR.bind],ka10,rA2,r10,FF10,by omega,by omega⟩
  subst ez
  rw[hact]at hR
  have eR2:(DR.ok ac qz).bind (fun a p1=>(wantD ts [59] p1).bind fun x p2=>actsD ts f (xs++[a]) p2)=(wantD ts [59] qz).bind fun x p2=>actsD ts f (xs++[ac]) p2:=rfl
  rw[eR2]at hR
  refine wantE (w:=[59]) E hqz.2 rz ?_ ?_ (fun hW hy fy ry hpy=>?_) (fun hW hy fy=>?_)
  ·rfl
  ·rfl
  rotate_left
  ·unfold wantD at hR
   rw[if_neg (by rw[hW];decide)]at hR
   rw[←hR]
   exact⟨IO.fin (F4.trans (FFz.trans (IO.i fy) fun k e=>.inl e) fun k e=>e.elim (fun e=>.inl (.inl e)) fun e=>.inl (.inr (by have:=F4.1;omega))),rfl⟩
  have hR':actsD ts f (xs++[ac]) (qz+1)=R:=by rw[←hR];unfold wantD;rw[if_pos hW];rfl
  have FFy:=FFz.trans (IO.i (n0:=h4.length) fy) fun k e=>.inl e
  have kay:=fy.at kaz (fun e=>by have e:h4.length=i:=e;omega)
  have rAy:=rAz.up (S':=Old (h4.length+1)) fy (fun k e _=>by have e:k=i:=e;show k<h4.length+1;omega) (fun k e _=>e)
  have Gy:GL h.length 135 5 hy N xs.length (xs.flatMap Ac.cells):=G4.fr FFy (fun k e hk=>e.elim (fun e=>⟨by omega,fun hn=>by have:=(G4.lt hn).1;omega⟩) fun e=>by omega)
  obtain⟨honeA,hflatA⟩:=rd_one rAy
  have honeT:oneA (nodesA ac.to)=true:=by cases ac.to<;>rfl
  have hflatT:flat (nodesA ac.to)=some [nodesA ac.to]:=by cases ac.to<;>rfl
  have hel:RdL (fun k=>k<h.length∨nbk N k) hy ac.cells [intC ac.kind,nodesA ac.to,strC ac.name,strC ac.var,A]:=RdL.cons (Rd.int _) (RdL.cons (Rd.nodes _) (RdL.cons (Rd.str _) (RdL.cons (Rd.str _) (RdL.cons (rAy.up (Fr.refl NoB hy) (fun k e=>e.elim) fun k e hk=>by
   show k<h4.length+1
   rcases e with e|e
   ·omega
   ·have:=(G4.lt e).2;omega) RdL.nil))))
  have hxe:(xs++[ac]).length=xs.length+1:=by simp
  have hxf:(xs++[ac]).flatMap Ac.cells=xs.flatMap Ac.cells++ac.cells:=by simp
  have hal:=(List.getElem?_eq_some_iff.1 kay).1
  have F4y:Fr (IO i h.length) h hy:=F4.trans FFy fun k e=>e.elim (fun e=>.inl (.inl e)) fun e=>.inl (.inr (by omega))
  clear hR FFz rAz rz kaz
  rcases Gy with⟨rfl,e0,e1⟩|⟨j,ver,cs,rfl,hnn,hj0,hj,hl,hrd⟩
  ·simp only[tyD,kay,intC,strC,honeA,honeT,at_len,List.append_assoc,List.cons_append,List.nil_append,evE,Nat.reduceAdd,Nat.reduceLT,Nat.reduceLeDiff,Nat.reduceEqDiff,reduceCtorEq,List.reduceReplicate]
   have GP:=(GL.nil (n0:=h.length) (t:=135) (sz:=5) (h:=hy)).push (h':=hy++[⟨0,135,[intC ac.kind,nodesA ac.to,strC ac.name,strC ac.var,A]⟩,⟨0,135,[intC ac.kind,nodesA ac.to,strC ac.name,strC ac.var,A]⟩]) (j':=hy.length+1) (ver':=0) (xs:=[]) (es:=[intC ac.kind,nodesA ac.to,strC ac.name,strC ac.var,A]) (ecs:=ac.cells) (fun j ver e=>by cases e) (fun _=>⟨by omega,rfl⟩) (by omega) (Fr.app _ _) (at_len1 _ _ _ _) rfl hel
   exact loopCE.intro (qz+1,.own (hy.length+1) 0 1,_) ⟨xs++[ac],f,hpy,by rw[hxe];show xs.length+1≤qz+1;omega,ry.app _,by rw[hxe,hxf,e0,e1];exact GP,F4y.trans (Fr.app (S:=NoB) _ _) fun k e=>e.elim,hR',by show ts.length<f+(qz+1);omega⟩ ⟨rfl,rfl,⟨rfl,rfl,trivial⟩,rfl⟩ (by show ts.length+1-(qz+1)<ts.length+1-p;omega)
  ·have hjl:=(List.getElem?_eq_some_iff.1 hj).1
   have hl':cs.length=xs.length * 5:=hl
   have q1:∀ l,(hy++l)[j]?=some ⟨ver,135,cs⟩:=fun l=>(List.getElem?_append_left hjl).trans hj
   have s8:∀ l c,(hy++l).set j c=hy.set j c++l:=fun l c=>List.set_append_left _ _ hjl
   have q4:List.take (xs.length * 5) cs=cs:=List.take_of_length_le (by omega)
   have q6:xs.length * 5≤cs.length:=by omega
   simp only[tyD,kay,intC,strC,honeA,honeT,at_len,q1,s8,q4,q6,evE,Nat.reduceAdd,Nat.reduceLT,Nat.reduceLeDiff,Nat.reduceEqDiff,reduceCtorEq,List.reduceReplicate]
   have GP:=GL.push (h:=hy) (N:=.own j ver xs.length) (.inr ⟨j,ver,cs,rfl,hnn,hj0,hj,hl,hrd⟩) (h':=hy.set j ⟨ver+1,135,cs++[intC ac.kind,nodesA ac.to,strC ac.name,strC ac.var,A]⟩++[⟨0,135,[intC ac.kind,nodesA ac.to,strC ac.name,strC ac.var,A]⟩]) (j':=j) (ver':=ver+1) (xs:=cs) (es:=[intC ac.kind,nodesA ac.to,strC ac.name,strC ac.var,A]) (ecs:=ac.cells) (fun j2 ver2 e=>by cases e;exact⟨rfl,hj⟩) (fun e=>by cases e) (by omega) ((Fr.set (S:=fun k=>k<h.length∨nbk (.own j ver xs.length) k) _ (.inr rfl)).trans (Fr.app (S:=NoB) _ _) fun k e=>e.elim) ((List.getElem?_append_left (by rw[List.length_set];exact hjl)).trans (List.getElem?_set_self hjl)) rfl hel
   refine⟨by omega,loopCE.intro (qz+1,.own j (ver+1) (xs.length+1),_) ⟨xs++[ac],f,hpy,by rw[hxe];show xs.length+1≤qz+1;omega,?_,by rw[hxe,hxf];exact GP,F4y.trans ((Fr.set (S:=IO i h.length) _ (.inr hj0)).trans (Fr.app (S:=NoB) _ _) fun k e=>e.elim) fun k e=>.inl e,hR',by show ts.length<f+(qz+1);omega⟩ ⟨rfl,rfl,⟨rfl,rfl,trivial⟩,rfl⟩ (by show ts.length+1-(qz+1)<ts.length+1-p;omega)⟩
   exact (List.getElem?_append_left (by rw[List.length_set];have:=ry.lt;omega)).trans ((List.getElem?_set_ne (by omega)).trans ry)
 have ka8:=f8.at ka7 (fun e=>by have e:h4.length=i:=e;omega)
 have FF8:=FF7.trans (IO.i (n0:=h4.length) f8) fun k e=>.inl e
 simp only[evE,Nat.reduceLT,Nat.reduceEqDiff,reduceCtorEq]
 refine takeE (w:=kBecome) E hp r8 ?_ ?_ (fun hS4 h9 f9 r9 hp9=>?_) (fun hS4 h9 f9 r9=>?_)
 ·rfl
 ·rfl
 ·have ka9:=f9.at ka8 (fun e=>by have e:h4.length=i:=e;omega)
  have FF9:=FF8.trans (IO.i (n0:=h4.length) f9) fun k e=>.inl e
  simp only[evE,Nat.reduceLT,Nat.reduceEqDiff,reduceCtorEq]
  have hone:=True.intro
  have hflat:=True.intro
  refine wordE E hp9 r9 ?_ ?_ (fun nm q10 h10 e10 f10 r10 a10 b10=>?_) (fun q e' h10 e10 f10=>?_)
  ·rfl
  ·rfl
  rotate_left
  ·have:actD ts p=.bad q e':=by unfold actD;rw[if_neg (by rw[hS];decide)];rw[if_neg (by rw[hS2];decide)];rw[if_neg (by rw[hS3];decide)];rw[if_pos hS4];simp only[e10,DR.bind]
   rw[this]at hR
   rw[←hR]
   exact⟨IO.fin (F4.trans (FF9.trans (IO.i f10) fun k e=>.inl e) fun k e=>e.elim (fun e=>.inl (.inl e)) fun e=>.inl (.inr (by have:=F4.1;omega))),rfl⟩
  have FF10:=FF9.trans (IO.i (n0:=h4.length) f10) fun k e=>.inl e
  have ka10:=f10.at ka9 (fun e=>by have e:h4.length=i:=e;omega)
  simp only[tyD,ka10,setMany,evE,Nat.reduceAdd,Nat.reduceLT,Nat.reduceLeDiff,Nat.reduceEqDiff,reduceCtorEq]
  obtain⟨ka11,r11,FF11⟩:(h10.set h4.length (⟨0,135,[.v (.int .i64 4),.v (.slice none 0 0),.v (.string ⟨nm.toArray⟩),.v (.string ⟨#[]⟩),.v (.slice none 0 0)]⟩:ABlk))[h4.length]?=some (⟨0,135,[.v (.int .i64 4),.v (.slice none 0 0),.v (.string ⟨nm.toArray⟩),.v (.string ⟨#[]⟩),.v (.slice none 0 0)]⟩:ABlk)∧RD (h10.set h4.length (⟨0,135,[.v (.int .i64 4),.v (.slice none 0 0),.v (.string ⟨nm.toArray⟩),.v (.string ⟨#[]⟩),.v (.slice none 0 0)]⟩:ABlk)) i L q10 n∧Fr (IO i h4.length) h4 (h10.set h4.length (⟨0,135,[.v (.int .i64 4),.v (.slice none 0 0),.v (.string ⟨nm.toArray⟩),.v (.string ⟨#[]⟩),.v (.slice none 0 0)]⟩:ABlk)):=⟨List.getElem?_set_self (List.getElem?_eq_some_iff.1 ka10).1,(List.getElem?_set_ne (by omega)).trans r10,FF10.trans (Fr.set (S:=IO i h4.length) _ (.inr (Nat.le_refl _))) fun k e=>.inl e⟩
  generalize h10.set h4.length (⟨0,135,[.v (.int .i64 4),.v (.slice none 0 0),.v (.string ⟨nm.toArray⟩),.v (.string ⟨#[]⟩),.v (.slice none 0 0)]⟩:ABlk)=h11 at ka11 r11 FF11⊢
  obtain⟨ac,A,qz,hz,ez,hact,kaz,rAz,rz,FFz,hqz⟩:∃ (ac:Ac) (A:AV) (qz:Nat) (hz:List ABlk),hz=h11∧actD ts p=.ok ac qz∧hz[h4.length]?=some ⟨0,135,[intC ac.kind,nodesA ac.to,strC ac.name,strC ac.var,A]⟩∧Rd (Old (h4.length+1)) hz (expsA ac.args) A∧RD hz i L qz n∧Fr (IO i h4.length) h4 hz∧p+1≤qz∧qz≤ts.length:=⟨⟨4,[],nm,[],[]⟩,.v (.slice none 0 0),q10,h11,rfl,by unfold actD;rw[if_neg (by rw[hS];decide)];rw[if_neg (by rw[hS2];decide)];rw[if_neg (by rw[hS3];decide)];rw[if_pos hS4];simp only[e10,DR.bind],ka11,Rd.val _,r11,FF11,by omega,by omega⟩
  subst ez
  rw[hact]at hR
  have eR2:(DR.ok ac qz).bind (fun a p1=>(wantD ts [59] p1).bind fun x p2=>actsD ts f (xs++[a]) p2)=(wantD ts [59] qz).bind fun x p2=>actsD ts f (xs++[ac]) p2:=rfl
  rw[eR2]at hR
  refine wantE (w:=[59]) E hqz.2 rz ?_ ?_ (fun hW hy fy ry hpy=>?_) (fun hW hy fy=>?_)
  ·rfl
  ·rfl
  rotate_left
  ·unfold wantD at hR
   rw[if_neg (by rw[hW];decide)]at hR
   rw[←hR]
   exact⟨IO.fin (F4.trans (FFz.trans (IO.i fy) fun k e=>.inl e) fun k e=>e.elim (fun e=>.inl (.inl e)) fun e=>.inl (.inr (by have:=F4.1;omega))),rfl⟩
  have hR':actsD ts f (xs++[ac]) (qz+1)=R:=by rw[←hR];unfold wantD;rw[if_pos hW];rfl
  have FFy:=FFz.trans (IO.i (n0:=h4.length) fy) fun k e=>.inl e
  have kay:=fy.at kaz (fun e=>by have e:h4.length=i:=e;omega)
  have rAy:=rAz.up (S':=Old (h4.length+1)) fy (fun k e _=>by have e:k=i:=e;show k<h4.length+1;omega) (fun k e _=>e)
  have Gy:GL h.length 135 5 hy N xs.length (xs.flatMap Ac.cells):=G4.fr FFy (fun k e hk=>e.elim (fun e=>⟨by omega,fun hn=>by have:=(G4.lt hn).1;omega⟩) fun e=>by omega)
  obtain⟨honeA,hflatA⟩:=rd_one rAy
  have honeT:oneA (nodesA ac.to)=true:=by cases ac.to<;>rfl
  have hflatT:flat (nodesA ac.to)=some [nodesA ac.to]:=by cases ac.to<;>rfl
  have hel:RdL (fun k=>k<h.length∨nbk N k) hy ac.cells [intC ac.kind,nodesA ac.to,strC ac.name,strC ac.var,A]:=RdL.cons (Rd.int _) (RdL.cons (Rd.nodes _) (RdL.cons (Rd.str _) (RdL.cons (Rd.str _) (RdL.cons (rAy.up (Fr.refl NoB hy) (fun k e=>e.elim) fun k e hk=>by
   show k<h4.length+1
   rcases e with e|e
   ·omega
   ·have:=(G4.lt e).2;omega) RdL.nil))))
  have hxe:(xs++[ac]).length=xs.length+1:=by simp
  have hxf:(xs++[ac]).flatMap Ac.cells=xs.flatMap Ac.cells++ac.cells:=by simp
  have hal:=(List.getElem?_eq_some_iff.1 kay).1
  have F4y:Fr (IO i h.length) h hy:=F4.trans FFy fun k e=>e.elim (fun e=>.inl (.inl e)) fun e=>.inl (.inr (by omega))
  clear hR FFz rAz rz kaz
  rcases Gy with⟨rfl,e0,e1⟩|⟨j,ver,cs,rfl,hnn,hj0,hj,hl,hrd⟩
  ·simp only[tyD,kay,intC,strC,honeA,honeT,at_len,List.append_assoc,List.cons_append,List.nil_append,evE,Nat.reduceAdd,Nat.reduceLT,Nat.reduceLeDiff,Nat.reduceEqDiff,reduceCtorEq,List.reduceReplicate]
   have GP:=(GL.nil (n0:=h.length) (t:=135) (sz:=5) (h:=hy)).push (h':=hy++[⟨0,135,[intC ac.kind,nodesA ac.to,strC ac.name,strC ac.var,A]⟩,⟨0,135,[intC ac.kind,nodesA ac.to,strC ac.name,strC ac.var,A]⟩]) (j':=hy.length+1) (ver':=0) (xs:=[]) (es:=[intC ac.kind,nodesA ac.to,strC ac.name,strC ac.var,A]) (ecs:=ac.cells) (fun j ver e=>by cases e) (fun _=>⟨by omega,rfl⟩) (by omega) (Fr.app _ _) (at_len1 _ _ _ _) rfl hel
   exact loopCE.intro (qz+1,.own (hy.length+1) 0 1,_) ⟨xs++[ac],f,hpy,by rw[hxe];show xs.length+1≤qz+1;omega,ry.app _,by rw[hxe,hxf,e0,e1];exact GP,F4y.trans (Fr.app (S:=NoB) _ _) fun k e=>e.elim,hR',by show ts.length<f+(qz+1);omega⟩ ⟨rfl,rfl,⟨rfl,rfl,trivial⟩,rfl⟩ (by show ts.length+1-(qz+1)<ts.length+1-p;omega)
  ·have hjl:=(List.getElem?_eq_some_iff.1 hj).1
   have hl':cs.length=xs.length * 5:=hl
   have q1:∀ l,(hy++l)[j]?=some ⟨ver,135,cs⟩:=fun l=>(List.getElem?_append_left hjl).trans hj
   have s8:∀ l c,(hy++l).set j c=hy.set j c++l:=fun l c=>List.set_append_left _ _ hjl
   have q4:List.take (xs.length * 5) cs=cs:=List.take_of_length_le (by omega)
   have q6:xs.length * 5≤cs.length:=by omega
   simp only[tyD,kay,intC,strC,honeA,honeT,at_len,q1,s8,q4,q6,evE,Nat.reduceAdd,Nat.reduceLT,Nat.reduceLeDiff,Nat.reduceEqDiff,reduceCtorEq,List.reduceReplicate]
   have GP:=GL.push (h:=hy) (N:=.own j ver xs.length) (.inr ⟨j,ver,cs,rfl,hnn,hj0,hj,hl,hrd⟩) (h':=hy.set j ⟨ver+1,135,cs++[intC ac.kind,nodesA ac.to,strC ac.name,strC ac.var,A]⟩++[⟨0,135,[intC ac.kind,nodesA ac.to,strC ac.name,strC ac.var,A]⟩]) (j':=j) (ver':=ver+1) (xs:=cs) (es:=[intC ac.kind,nodesA ac.to,strC ac.name,strC ac.var,A]) (ecs:=ac.cells) (fun j2 ver2 e=>by cases e;exact⟨rfl,hj⟩) (fun e=>by cases e) (by omega) ((Fr.set (S:=fun k=>k<h.length∨nbk (.own j ver xs.length) k) _ (.inr rfl)).trans (Fr.app (S:=NoB) _ _) fun k e=>e.elim) ((List.getElem?_append_left (by rw[List.length_set];exact hjl)).trans (List.getElem?_set_self hjl)) rfl hel
   refine⟨by omega,loopCE.intro (qz+1,.own j (ver+1) (xs.length+1),_) ⟨xs++[ac],f,hpy,by rw[hxe];show xs.length+1≤qz+1;omega,?_,by rw[hxe,hxf];exact GP,F4y.trans ((Fr.set (S:=IO i h.length) _ (.inr hj0)).trans (Fr.app (S:=NoB) _ _) fun k e=>e.elim) fun k e=>.inl e,hR',by show ts.length<f+(qz+1);omega⟩ ⟨rfl,rfl,⟨rfl,rfl,trivial⟩,rfl⟩ (by show ts.length+1-(qz+1)<ts.length+1-p;omega)⟩
   exact (List.getElem?_append_left (by rw[List.length_set];have:=ry.lt;omega)).trans ((List.getElem?_set_ne (by omega)).trans ry)
 simp only[evE,Nat.reduceLT,Nat.reduceEqDiff,reduceCtorEq]
 refine CallE.intro c127 _ (dfail_ev E r9 80) (fun r h2 hh=>by cases hh.1) (fun v h2 hh=>?_)
 obtain⟨e,rfl⟩:=hh
 cases e
 have:actD ts p=.bad p 80:=by unfold actD;rw[if_neg (by rw[hS];decide)];rw[if_neg (by rw[hS2];decide)];rw[if_neg (by rw[hS3];decide)];rw[if_neg (by rw[hS4];decide)]
 rw[this]at hR
 rw[←hR]
 exact⟨IO.fin (F4.trans (FF8.trans (IO.i f9) fun k e=>.inl e) fun k e=>e.elim (fun e=>.inl (.inl e)) fun e=>.inl (.inr (by have:=F4.1;omega))),rfl⟩
theorem c80:bodyT Tryz.prog 80:=⟨_,Tryz.func80,by kernel_rfl,by kernel_rfl⟩
end Go.Proofs.YtlobiioioicmhaaGreatDoor
