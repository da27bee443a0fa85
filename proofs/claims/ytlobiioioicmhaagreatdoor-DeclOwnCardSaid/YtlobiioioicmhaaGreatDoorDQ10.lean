/- A part of the proof. -/
import Derived.Test.YtlobiioioicmhaaGreatDoorDQ9
set_option linter.all false
set_option maxHeartbeats 8000000
namespace Go.Proofs.YtlobiioioicmhaaGreatDoor.O
open _root_.List renaming getElem?_eq_some_iff→Bs,getElem?_append_left→Ba,getElem?_set_self→Be,getElem?_set_ne→Bn,length_set→Bl,length_append→Bp,append_assoc→Bo,cons_append→Bc,nil_append→Bi,set_append_left→Bg,take_of_length_le→Bt,mem_cons→BI
open _root_.Nat renaming le_refl→BL,le_trans→BM,lt_of_lt_of_le→BO
open Go.Proofs.Tryz renaming prog→Tp
open Go Go.Ev
set_option maxRecDepth 20000
def GPm(m n0:Nat)(t1:TypeId)(s1:Nat)(t2:TypeId)(s2:Nat)(h:List ABlk)(N1:AV)(n1:Nat)(ys1:List AV)(N2:AV)(n2:Nat)(ys2:List AV):Prop:=
 ∃ (xs1 xs2:List AV) (U:Nat→Prop),L1 n0 t1 s1 h N1 n1 xs1∧L1 n0 t2 s2 h N2 n2 xs2∧(∀ k,nbk N1 k→¬nbk N2 k∧k<m)∧(∀ k,nbk N2 k→k<m)∧RdL (rows t1 n1) (fun k=>S3 n0 N1 N2 k∨m≤k∨U k) h ys1 xs1∧RdL (rows t2 n2) (fun k=>S3 n0 N1 N2 k∨m≤k∨¬U k) h ys2 xs2
def GP(n0:Nat)(t1:TypeId)(s1:Nat)(t2:TypeId)(s2:Nat)(h:List ABlk)(N1:AV)(n1:Nat)(ys1:List AV)(N2:AV)(n2:Nat)(ys2:List AV):Prop:=GPm h.length n0 t1 s1 t2 s2 h N1 n1 ys1 N2 n2 ys2
variable {m n0:Nat} {t1:TypeId} {s1:Nat} {t2:TypeId} {s2:Nat} {h h':List ABlk} {N1 N2:AV} {n1 n2:Nat} {ys1 ys2:List AV}
theorem S3_comm:S3 n0 N1 N2=S3 n0 N2 N1:=by funext k;exact propext ⟨fun e=>e.elim .inl fun e=>.inr e.symm,fun e=>e.elim .inl fun e=>.inr e.symm⟩
theorem GP.nil:GP n0 t1 s1 t2 s2 h (.v (.slice none 0 0)) 0 [] (.v (.slice none 0 0)) 0 []:=⟨[],[],fun _=>True,.inl ⟨rfl,rfl,rfl⟩,.inl ⟨rfl,rfl,rfl⟩,fun k e=>e.elim,fun k e=>e.elim,RdL.nil,RdL.nil⟩
theorem GPm.swap(a:GPm m n0 t1 s1 t2 s2 h N1 n1 ys1 N2 n2 ys2):GPm m n0 t2 s2 t1 s1 h N2 n2 ys2 N1 n1 ys1:=by
 obtain⟨x1,x2,U,a1,a2,a3,a4,a5,a6⟩:=a;rw[S3_comm]at a5 a6;exact⟨x2,x1,fun k=>¬U k,a2,a1,fun k e=>⟨fun e2=>(a3 k e2).1 e,a4 k e⟩,fun k e=>(a3 k e).2,a6,a5.weak fun k e _=>e.imp id fun e=>e.imp id fun e=>Classical.not_not.1 e⟩
theorem GP.swap(a:GP n0 t1 s1 t2 s2 h N1 n1 ys1 N2 n2 ys2):GP n0 t2 s2 t1 s1 h N2 n2 ys2 N1 n1 ys1:=GPm.swap a
theorem GPm.lt1(a:GPm m n0 t1 s1 t2 s2 h N1 n1 ys1 N2 n2 ys2){k:Nat}(hk:nbk N1 k):n0≤k∧k<h.length:=by
 obtain⟨x1,x2,U,a1,_⟩:=a;exact a1.lt hk
theorem GPm.lt2(a:GPm m n0 t1 s1 t2 s2 h N1 n1 ys1 N2 n2 ys2){k:Nat}(hk:nbk N2 k):n0≤k∧k<h.length:=a.swap.lt1 hk
theorem GP.lt1(a:GP n0 t1 s1 t2 s2 h N1 n1 ys1 N2 n2 ys2){k:Nat}(hk:nbk N1 k):n0≤k∧k<h.length:=GPm.lt1 a hk
theorem GP.lt2(a:GP n0 t1 s1 t2 s2 h N1 n1 ys1 N2 n2 ys2){k:Nat}(hk:nbk N2 k):n0≤k∧k<h.length:=GPm.lt2 a hk
theorem GPm.fr{S:Nat→Prop}(a:GPm m n0 t1 s1 t2 s2 h N1 n1 ys1 N2 n2 ys2)(f:Fr S h h')(hS:∀ k,S k→k<h.length→k<n0):GPm m n0 t1 s1 t2 s2 h' N1 n1 ys1 N2 n2 ys2:=by
 obtain⟨x1,x2,U,a1,a2,a3,a4,a5,a6⟩:=a;exact⟨x1,x2,U,a1.fr f (fun k e e2=>by have:=a1.lt e;have:=hS k e2 this.2;omega),a2.fr f (fun k e e2=>by have:=a2.lt e;have:=hS k e2 this.2;omega),a3,a4,a5.up f (fun k e hk=>.inl (.inl (hS k e hk))) (fun k e _=>e),a6.up f (fun k e hk=>.inl (.inl (hS k e hk))) (fun k e _=>e)⟩
theorem GPm.le{m':Nat}(a:GPm m n0 t1 s1 t2 s2 h N1 n1 ys1 N2 n2 ys2)(hm:m≤m'):GPm m' n0 t1 s1 t2 s2 h N1 n1 ys1 N2 n2 ys2:=by
 obtain⟨x1,x2,U,a1,a2,a3,a4,a5,a6⟩:=a;exact⟨x1,x2,U,a1,a2,fun k e=>⟨(a3 k e).1,BO (a3 k e).2 hm⟩,fun k e=>BO (a4 k e) hm,a5.weak fun k e _=>e.imp id fun e=>e.imp (fun e=>by omega) id,a6.weak fun k e _=>e.imp id fun e=>e.imp (fun e=>by omega) id⟩
theorem GP.frm{S:Nat→Prop}(a:GP n0 t1 s1 t2 s2 h N1 n1 ys1 N2 n2 ys2)(f:Fr S h h')(hS:∀ k,S k→k<h.length→k<n0):GPm h.length n0 t1 s1 t2 s2 h' N1 n1 ys1 N2 n2 ys2:=GPm.fr a f hS
theorem GP.fr{S:Nat→Prop}(a:GP n0 t1 s1 t2 s2 h N1 n1 ys1 N2 n2 ys2)(f:Fr S h h')(hS:∀ k,S k→k<h.length→k<n0):GP n0 t1 s1 t2 s2 h' N1 n1 ys1 N2 n2 ys2:=(a.frm f hS).le f.1
theorem GPm.one1(a:GPm m n0 t1 s1 t2 s2 h N1 n1 ys1 N2 n2 ys2):oneA N1=true∧flat N1=some [N1]:=by
 obtain⟨x1,x2,U,a1,_⟩:=a;exact a1.one
theorem GP.one1(a:GP n0 t1 s1 t2 s2 h N1 n1 ys1 N2 n2 ys2):oneA N1=true∧flat N1=some [N1]:=GPm.one1 a
theorem GP.one2(a:GP n0 t1 s1 t2 s2 h N1 n1 ys1 N2 n2 ys2):oneA N2=true∧flat N2=some [N2]:=a.swap.one1
theorem GPm.at1(a:GPm m n0 t1 s1 t2 s2 h N1 n1 ys1 N2 n2 ys2):(N1=.v (.slice none 0 0)∧n1=0∧ys1=[])∨∃ j ver xs,N1=.own j ver n1∧0<n1∧n0≤j∧h[j]?=some ⟨ver,t1,xs⟩∧xs.length=n1 * s1∧¬nbk N2 j:=by
 obtain⟨x1,x2,U,a1,a2,a3,a4,a5,a6⟩:=a
 rcases a1 with⟨rfl,rfl,rfl⟩|⟨j,ver,rfl,hn,hj0,hj,hl⟩
 ·refine .inl ⟨rfl,rfl,?_⟩;obtain⟨F,_,_,o⟩:=a5;have:=(owL_length o).2;exact List.length_eq_zero_iff.1 (by simpa[rows]using this)
 ·exact .inr ⟨j,ver,x1,rfl,hn,hj0,hj,hl,(a3 j rfl).1⟩
theorem GPm.push1{es ecs:List AV}{j' ver':Nat}{xs:List AV}(a:GPm m n0 t1 s1 t2 s2 h N1 n1 ys1 N2 n2 ys2)
  (hx:∀ j ver,N1=.own j ver n1→j'=j∧h[j]?=some ⟨ver,t1,xs⟩) (hx0:N1=.v (.slice none 0 0)→h.length≤j'∧xs=[]) (hn0:n0≤m) (hm:m≤h.length)
  (f:Fr (fun k=>k<n0∨nbk N1 k) h h') (hj:h'[j']?=some ⟨ver',t1,xs++es⟩) (hl:es.length=s1) (he:RdL (kT t1) (fun k=>k<m) h ecs es) :
  GP n0 t1 s1 t2 s2 h' (.own j' ver' (n1+1)) (n1+1) (ys1++ecs) N2 n2 ys2:=by
 obtain⟨x1,x2,U,a1,a2,a3,a4,a5,a6⟩:=a;have hj'l:=(Bs.1 hj).1;have hf:=f.1
 have a2':=a2.fr f (fun k e e2=>by
  have:=a2.lt e
  rcases e2 with e2|e2
  ·omega
  ·exact (a3 k e2).1 e)
 have hj'2:∀ k,nbk N2 k→k≠j'∧k<m:=fun k e=>⟨fun e2=>by
  subst e2;have:=a2.lt e
  rcases a1 with⟨rfl,_,_⟩|⟨j,ver,rfl,_⟩
  ·have:=(hx0 rfl).1;omega
  ·have:=(hx j ver rfl).1;subst this;exact (a3 _ rfl).1 e,a4 k e⟩
 have hj'm:nbk N1 j'∨h.length≤j':=by
  rcases a1 with⟨rfl,_,_⟩|⟨j,ver,rfl,_⟩
  ·exact .inr (hx0 rfl).1
  ·exact .inl (hx j ver rfl).1
 have g1:RdL (rows t1 n1) (fun k=>S3 n0 (.own j' ver' (n1+1)) N2 k∨(m≤k)∨U k) h' ys1 x1:=a5.up f (fun k e _=>.inl (e.elim .inl fun e=>.inr (.inl e))) fun k e hk=>by
  rcases e with (e|e|e)|e
  ·exact .inl (.inl e)
  ·have e:k=j':=e;subst e;exact hj'm.elim (fun e=>.inl (.inr (.inl e))) fun e=>by omega
  ·exact .inl (.inr (.inr e))
  ·exact .inr e
 have g2:RdL (rows t2 n2) (fun k=>S3 n0 (.own j' ver' (n1+1)) N2 k∨(m≤k)∨¬U k) h' ys2 x2:=a6.up f (fun k e _=>.inl (e.elim .inl fun e=>.inr (.inl e))) fun k e hk=>by
  rcases e with (e|e|e)|e
  ·exact .inl (.inl e)
  ·have e:k=j':=e;subst e;exact hj'm.elim (fun e=>.inl (.inr (.inl e))) fun e=>by omega
  ·exact .inl (.inr (.inr e))
  ·exact .inr e
 have he':RdL (kT t1) (fun k=>k<m∨h.length≤k) h' ecs es:=he.up f (fun k e hk=>by
  rcases e with e|e
  ·exact BO e hn0
  ·exact (a3 k e).2) fun k e hk=>e.elim id fun e=>by omega
 have hel:∀ {xs1:List AV},RdL (rows t1 n1) (fun k=>S3 n0 (.own j' ver' (n1+1)) N2 k∨(m≤k)∨U k) h' ys1 xs1→RdL (rows t1 (n1+1)) (fun k=>S3 n0 (.own j' ver' (n1+1)) N2 k∨h'.length≤k∨(U k∧k<m)) h' (ys1++ecs) (xs1++es):=fun {xs1} g=>by
  rw[rows_succ];refine RdL.app2 g he' (fun k _=>?_) (fun k e hk=>?_) (fun k e hk=>?_)
  ·by_cases e:k<m
   ·exact .inr (.inl e)
   ·exact .inl (.inr (.inl (by omega)))
  ·rcases e with e|e|e
   ·exact .inl e
   ·omega
   ·exact .inr (.inr e.1)
  ·rcases e with (e|e|e)|e|e
   ·exact .inl (BO e hn0)
   ·have e:k=j':=e;subst e;exact hj'm.elim (fun e=>.inl (a3 _ e).2) .inr
   ·exact .inl (a4 k e)
   ·omega
   ·exact .inl e.2
 have g2':RdL (rows t2 n2) (fun k=>S3 n0 (.own j' ver' (n1+1)) N2 k∨h'.length≤k∨¬(U k∧k<m)) h' ys2 x2:=g2.weak fun k e hk=>by
  rcases e with e|e|e
  ·exact .inl e
  ·omega
  ·by_cases hkm:k<m
   ·exact .inr (.inr fun hu=>e ⟨hu,hkm⟩)
   ·exact .inr (.inl (by omega))
 refine⟨x1++es,x2,fun k=>U k∧k<m,?_,a2',fun k e=>?_,fun k e=>BO (a4 k e) (BM hm hf),hel g1,g2'⟩
 ·rcases a1 with⟨rfl,rfl,rfl⟩|⟨j,ver,rfl,hn,hj0,hj1,hl1⟩
  ·obtain⟨h1,rfl⟩:=hx0 rfl;exact .inr ⟨j',ver',rfl,Nat.succ_pos _,by omega,hj,by simp[hl]⟩
  ·obtain⟨rfl,h2⟩:=hx j ver rfl;rw[hj1]at h2;cases h2;exact .inr ⟨j',ver',rfl,Nat.succ_pos _,hj0,hj,by rw[Bp,hl1,hl,Nat.succ_mul]⟩
 ·have e:k=j':=e;subst e;exact⟨fun e2=>(hj'2 _ e2).1 rfl,hj'l⟩
theorem GP.rdp(a:GP n0 t1 s1 t2 s2 h N1 n1 ys1 N2 n2 ys2):RdL [.s t1,.s t2] (Old n0) h [slA n1 ys1,slA n2 ys2] [N1,N2]:=by
 obtain⟨x1,x2,U,a1,a2,a3,a4,a5,a6⟩:=a
 have rd:∀ {t:TypeId} {s:Nat} {N:AV} {n:Nat} {xs ys:List AV} {V:Nat→Prop},L1 n0 t s h N n xs→(∀ k,V k→¬nbk N k)→(∀ k,V k→k<h.length→S3 n0 N1 N2 k∨¬nbk N k)→RdL (rows t n) (fun k=>V k∨k<n0∨nbk N k) h ys xs→Rd (.s t) (fun k=>V k∨k<n0) h (slA n ys) N:=by
  intro t s N n xs ys V a hV hV2 r
  rcases a with⟨rfl,rfl,rfl⟩|⟨j,ver,rfl,hn,hj0,hj,hl⟩
  ·exact Rd.none
  ·obtain⟨n,rfl⟩:∃ m,n=m+1:=⟨n-1,by omega⟩;obtain⟨F,hF,hs,o⟩:=r;refine⟨j::F,List.nodup_cons.2 ⟨fun e=>hs j e (.inr (.inr rfl)),hF⟩,fun k hk e=>?_,?_⟩
   ·rcases BI.1 hk with rfl|hk
    ·exact e.elim (fun e=>hV _ e rfl) fun e=>by omega
    ·exact hs k hk (e.imp id .inl)
   ·simp only[slA,ow];exact⟨trivial,trivial,hn,t,j,ver,xs,F,rfl,rfl,hj,rfl,o⟩
 refine RdL.c2 (S1:=fun k=>((U k∧¬nbk N1 k)∨nbk N2 k)∨k<n0) (S2:=fun k=>((¬U k∧¬nbk N2 k)∨nbk N1 k)∨k<n0) (rd a1 (fun k e e2=>?_) (fun k e _=>?_) (a5.weak fun k e _=>?_)) (RdL.c1 (rd a2 (fun k e e2=>?_) (fun k e _=>?_) (a6.weak fun k e _=>?_))) (fun k _=>?_) (fun k e _=>.inr e) (fun k e _=>.inr e)
 ·rcases e with e|e
  ·exact e.2 e2
  ·exact (a3 k e2).1 e
 ·rcases e with e|e
  ·exact .inr e.2
  ·exact .inl (.inr (.inr e))
 ·rcases e with (e|e)|e|e
  ·exact .inr (.inr e.1)
  ·exact .inl (.inr (.inr e))
  ·exact .inl (.inl e)
  ·exact .inl (.inr (.inl e))
 ·rcases e with e|e
  ·exact e.2 e2
  ·exact (a3 k e).1 e2
 ·rcases e with e|e
  ·exact .inr e.2
  ·exact .inl (.inr (.inl e))
 ·rcases e with (e|e)|e|e
  ·exact .inr (.inr e.1)
  ·exact .inl (.inr (.inl e))
  ·exact .inl (.inl e)
  ·exact .inl (.inr (.inr e))
 ·by_cases h1:nbk N1 k
  ·exact .inr (.inl (.inr h1))
  ·by_cases h2:nbk N2 k
   ·exact .inl (.inl (.inr h2))
   ·by_cases hu:U k
    ·exact .inl (.inl (.inl ⟨hu,h1⟩))
    ·exact .inr (.inl (.inl ⟨hu,h2⟩))
end Go.Proofs.YtlobiioioicmhaaGreatDoor.O
namespace Go.Proofs.YtlobiioioicmhaaGreatDoor
open _root_.List renaming getElem?_eq_some_iff→Bs,getElem?_append_left→Ba,getElem?_set_self→Be,getElem?_set_ne→Bn,length_set→Bl,length_append→Bp,append_assoc→Bo,cons_append→Bc,nil_append→Bi,set_append_left→Bg,take_of_length_le→Bt,mem_cons→BI
open _root_.Nat renaming le_refl→BL,le_trans→BM,lt_of_lt_of_le→BO
open Go.Proofs.Tryz renaming prog→Tp
open Go Go.Ev
set_option maxRecDepth 20000
variable {γ:List (Nat×AV)} {ts:List Tk} {L:AV}
theorem takeE{E:AV→St→Prop}{d:Option Tmp}{K:St→Prop}{s:St}{h:List ABlk}{i p n:Nat}{w:List UInt8}(hE:EnvD γ L ts)(hp:p≤ts.length)(hr:RD h i L p n)(hg:s.s.g=γ)(hh:s.h=h)
  (yes:isB ts p w=true→∀ h1,Fr (IsI i) h h1→RD h1 i L (p+1) n→p+1≤ts.length→K (pt ⟨s.s,h1⟩ d (.v (.bool true))))
  (no:isB ts p w=false→∀ h1,Fr (IsI i) h h1→RD h1 i L p n→K (pt ⟨s.s,h1⟩ d (.v (.bool false)))):CallE Tp E 131 [.ptr i 0 0,.v (.string ⟨w.toArray⟩)] d K s:=by
 subst hg;subst hh;refine CallE.intro c131 _ (dtake_ev hE hp hr w) (fun r h1 hh=>?_) (fun v h1 hh=>by cases hh.1);obtain⟨e,f1,r1⟩:=hh;cases e;cases hB:isB ts p w with
 |true=>rw[hB]at r1;rw[if_pos rfl]at r1;exact yes hB h1 f1 r1 (isB_lt hB)
 |false=>rw[hB]at r1;rw[if_neg (by decide)]at r1;exact no hB h1 f1 r1
theorem wantE{E:AV→St→Prop}{d:Option Tmp}{K:St→Prop}{s:St}{h:List ABlk}{i p n:Nat}{w:List UInt8}(hE:EnvD γ L ts)(hp:p≤ts.length)(hr:RD h i L p n)(hg:s.s.g=γ)(hh:s.h=h)
  (yes:isB ts p w=true→∀ h1,Fr (IsI i) h h1→RD h1 i L (p+1) n→p+1≤ts.length→K (pt ⟨s.s,h1⟩ d (.tup [])))
  (no:isB ts p w=false→∀ h1,Fr (IsI i) h h1→E (stopA (plO ts n p) 80) ⟨s.s,h1⟩):CallE Tp E 128 [.ptr i 0 0,.v (.string ⟨w.toArray⟩)] d K s:=by
 subst hg;subst hh;refine callD c128 (dwant_ev hE hp hr w) (fun x q a h1 e f1 r1 hA=>?_) (fun q e' h1 e f1=>?_)
 ·unfold wantD at e
  split at e
  ·rename_i hB;cases e;subst hA;exact yes hB h1 f1 r1 (isB_lt hB)
  ·cases e
 ·unfold wantD at e
  split at e
  ·cases e
  ·rename_i hB;cases e;exact no (by simpa using hB) h1 f1
theorem wordE{E:AV→St→Prop}{d:Option Tmp}{K:St→Prop}{s:St}{h:List ABlk}{i p n:Nat}(hE:EnvD γ L ts)(hp:p≤ts.length)(hr:RD h i L p n)(hg:s.s.g=γ)(hh:s.h=h)
  (yes:∀ nm q h1,wordD ts p=.ok nm q→Fr (IsI i) h h1→RD h1 i L q n→p+1≤q→q≤ts.length→K (pt ⟨s.s,h1⟩ d (.v (.string ⟨nm.toArray⟩))))
  (no:∀ q e h1,wordD ts p=.bad q e→Fr (IsI i) h h1→E (stopA (plO ts n q) e) ⟨s.s,h1⟩):CallE Tp E 129 [.ptr i 0 0] d K s:=by
 subst hg;subst hh;have adv:=word_adv hp;refine callD c129 (dword_ev hE hp hr) (fun x q a h1 e f1 r1 hA=>?_) (fun q e' h1 e f1=>no q e' h1 e f1);subst hA;rw[e]at adv;exact yes x q h1 e f1 r1 adv.1 adv.2
theorem c133:bodyT Tp 133:=⟨_,Tryz.func133,by kernel_rfl,by kernel_rfl⟩
def bdS(γ:List (Nat×AV))(i:Nat)(y:Nat×AV×List ABlk):St:=⟨⟨53,[(0,.ptr i 0 0),(2,y.2.1)],γ⟩,y.2.2⟩
def Io(i n0:Nat)(k:Nat):Prop:=k=i∨n0≤k
theorem Io.i{i n0:Nat}{h h':List ABlk}(f:Fr (IsI i) h h'):Fr (Io i n0) h h':=f.mono fun k e=>.inl e
theorem Io.fin{i:Nat}{h h':List ABlk}(f:Fr (Io i h.length) h h'):Fr (IsI i) h h':=⟨f.1,fun k hk hn=>f.2 k hk fun e=>e.elim hn fun e=>by omega⟩
end Go.Proofs.YtlobiioioicmhaaGreatDoor
namespace Go.Proofs.YtlobiioioicmhaaGreatDoor.O
open _root_.List renaming getElem?_eq_some_iff→Bs,getElem?_append_left→Ba,getElem?_set_self→Be,getElem?_set_ne→Bn,length_set→Bl,length_append→Bp,append_assoc→Bo,cons_append→Bc,nil_append→Bi,set_append_left→Bg,take_of_length_le→Bt,mem_cons→BI
open _root_.Nat renaming le_refl→BL,le_trans→BM,lt_of_lt_of_le→BO
open Go.Proofs.Tryz renaming prog→Tp
open Go Go.Ev
set_option maxRecDepth 20000
variable {γ:List (Nat×AV)} {ts:List Tk} {L:AV}
theorem exprE{E:AV→St→Prop}{d:Option Tmp}{K:St→Prop}{s:St}{h:List ABlk}{i p n:Nat}(hE:EnvD γ L ts)(hp:p≤ts.length)(hr:RD h i L p n)(hg:s.s.g=γ)(hh:s.h=h)
  (yes:∀ x q X h1,exprD ts p=.ok x q→Fr (IsI i) h h1→RD h1 i L q n→p+1≤q→q≤ts.length→Rd (.s 115) (Old h.length) h1 (nodesA x) X→K (pt ⟨s.s,h1⟩ d (.agg [X])))
  (no:∀ q e h1,exprD ts p=.bad q e→Fr (IsI i) h h1→E (stopA (plO ts n q) e) ⟨s.s,h1⟩):CallE Tp E 132 [.ptr i 0 0] d K s:=by
 subst hg;subst hh;have adv:=expr_adv hp;refine callD c132 (dexpr_ev hE hp hr) (fun x q a h1 e f1 r1 hA=>?_) (fun q e' h1 e f1=>no q e' h1 e f1);obtain⟨X,rfl,rX⟩:=hA;rw[e]at adv;exact yes x q X h1 e f1 r1 adv.1 adv.2 rX
theorem argsE{E:AV→St→Prop}{d:Option Tmp}{K:St→Prop}{s:St}{h:List ABlk}{i p n:Nat}(hE:EnvD γ L ts)(hp:p≤ts.length)(hr:RD h i L p n)(hg:s.s.g=γ)(hh:s.h=h)
  (yes:∀ x q A h1,argsD ts p=.ok x q→Fr (IsI i) h h1→RD h1 i L q n→p+1≤q→q≤ts.length→Rd (.s 41) (Old h.length) h1 (expsA x) A→K (pt ⟨s.s,h1⟩ d A))
  (no:∀ q e h1,argsD ts p=.bad q e→Fr (IsI i) h h1→E (stopA (plO ts n q) e) ⟨s.s,h1⟩):CallE Tp E 203 [.ptr i 0 0] d K s:=by
 subst hg;subst hh;have adv:=args_adv hp;refine callD c203 (dargs_ev hE hp hr) (fun x q a h1 e f1 r1 hA=>?_) (fun q e' h1 e f1=>no q e' h1 e f1);rw[e]at adv;exact yes x q a h1 e f1 r1 adv.1 adv.2 hA
theorem dbody_ev(E:EnvD γ L ts){h:List ABlk}{i p n:Nat}(hp:p≤ts.length)(hr:RD h i L p n):
  EvM Tp γ 133 [.ptr i 0 0] h (ResD ts n L i h (RdA (.s 135) actsA h.length) (bodyD ts p)):=by
 have hil:=hr.lt;have hn:=E.n;refine EvM.of Tryz.func133 rfl ?_;simp only[Tryz.f133,evE,Nat.reduceAdd,Nat.reduceSub,Nat.reduceLT,Nat.reduceEqDiff,reduceCtorEq];refine wantE (w:=[123]) E hp hr ?_ ?_ (fun hB h1 f1 r1 hp1=>?_) (fun hB h1 f1=>?_)
 ·rfl
 ·rfl
 rotate_left
 ·have:bodyD ts p=.bad p 80:=by unfold bodyD wantD;rw[hB];rfl
  rw[this];exact⟨f1,rfl⟩
 have eD:bodyD ts p=actsD ts (ts.length+1) [] (p+1):=by unfold bodyD wantD;rw[hB];rfl
 rw[eD];generalize hR:actsD ts (ts.length+1) [] (p+1)=R;simp only[tyD,evE,Nat.reduceLT]
 refine LoopE.intro (bdS γ i) (fun y=>∃ xs f,y.1≤ts.length∧xs.length≤y.1∧RD y.2.2 i L y.1 n∧GL h.length 135 5 y.2.2 y.2.1 xs.length (xs.flatMap Ac.cells)∧Fr (Io i h.length) h y.2.2∧actsD ts f xs y.1=R∧ts.length<f+y.1) (fun y=>ts.length+1-y.1) (p+1,.v (.slice none 0 0),h1) ⟨rfl,rfl,⟨rfl,rfl,trivial⟩,rfl⟩
  ⟨[],ts.length+1,hp1,by simp,r1,GL.nil,Io.i f1,hR,by show ts.length<ts.length+1+(p+1);omega⟩ (fun y hy=>?_)
 clear hR eD f1 r1 hB hp1 hp hr;obtain⟨p,N,h4⟩:=y;obtain⟨xs,f,hp,hx4,r4,G4,F4,hR,hf⟩:=hy;simp only at hp hx4 r4 G4 F4 hR hf;obtain⟨f,rfl⟩:∃ g,f=g+1:=⟨f-1,by omega⟩;rw[actsD]at hR;have hi4:=r4.lt;have hF4:=F4.1;simp only[bdS,evE,Nat.reduceLT,Nat.reduceEqDiff,reduceCtorEq];refine takeE (w:=[125]) E hp (r4.app [⟨0,135,[.v (.int .i64 0),.v (.slice none 0 0),.v (.string ⟨#[]⟩),.v (.string ⟨#[]⟩),.v (.slice none 0 0)]⟩]) ?_ ?_ (fun hB h5 f5 r5 hp5=>?_) (fun hB h5 f5 r5=>?_)
 ·rfl
 ·rfl
 ·rw[if_pos hB]at hR;rw[←hR];simp only[evE,Nat.reduceLT,Nat.reduceEqDiff,reduceCtorEq];exact⟨Io.fin (F4.trans (Io.i (n0:=h4.length) f5.pre) fun k e=>e.elim (fun e=>.inl (.inl e)) fun e=>.inl (.inr (by omega))),N,rfl,r5,G4.rdS f5.pre (fun k e _=>by have e:k=i:=e;omega) (BL _)⟩
 rw[if_neg (by rw[hB];decide)]at hR;have ka5:h5[h4.length]?=some ⟨0,135,[.v (.int .i64 0),.v (.slice none 0 0),.v (.string ⟨#[]⟩),.v (.string ⟨#[]⟩),.v (.slice none 0 0)]⟩:=f5.at (at_len _ _ _) (fun e=>by have e:h4.length=i:=e;omega);have FF5:Fr (Io i h4.length) h4 h5:=Io.i f5.pre;clear f5;simp only[evE,Nat.reduceLT,Nat.reduceEqDiff,reduceCtorEq];refine takeE (w:=kSend) E hp r5 ?_ ?_ (fun hS h6 f6 r6 hp6=>?_) (fun hS h6 f6 r6=>?_)
 ·rfl
 ·rfl
 ·have ka6:=f6.at ka5 (fun e=>by have e:h4.length=i:=e;omega);have FF6:=FF5.trans (Io.i (n0:=h4.length) f6) fun k e=>.inl e
  simp only[evE,Nat.reduceLT,Nat.reduceEqDiff,reduceCtorEq];refine exprE E hp6 r6 ?_ ?_ (fun x q7 T h7 e7 f7 r7 a7 b7 rT7=>?_) (fun q e' h7 e7 f7=>?_)
  ·rfl
  ·rfl
  rotate_left
  ·have:actD ts p=.bad q e':=by unfold actD;rw[if_pos hS];simp only[e7,DR.bind]
   rw[this]at hR;rw[←hR];exact⟨Io.fin (F4.trans (FF6.trans (Io.i f7) fun k e=>.inl e) fun k e=>e.elim (fun e=>.inl (.inl e)) fun e=>.inl (.inr (by have:=F4.1;omega))),rfl⟩
  have FF7:=FF6.trans (Io.i (n0:=h4.length) f7) fun k e=>.inl e
  have ka7:=f7.at ka6 (fun e=>by have e:h4.length=i:=e;omega);have hone:=(rd_nodes rT7).1;have hflat:=(rd_nodes rT7).2;have hi6:=r6.lt;simp only[tyD,ka7,setMany,hone,evE,Nat.reduceAdd,Nat.reduceLT,Nat.reduceLeDiff,Nat.reduceEqDiff,reduceCtorEq];obtain⟨ka8,r8,FF8⟩:(h7.set h4.length (⟨0,135,[.v (.int .i64 1),T,.v (.string ⟨#[]⟩),.v (.string ⟨#[]⟩),.v (.slice none 0 0)]⟩:ABlk))[h4.length]?=some (⟨0,135,[.v (.int .i64 1),T,.v (.string ⟨#[]⟩),.v (.string ⟨#[]⟩),.v (.slice none 0 0)]⟩:ABlk)∧RD (h7.set h4.length (⟨0,135,[.v (.int .i64 1),T,.v (.string ⟨#[]⟩),.v (.string ⟨#[]⟩),.v (.slice none 0 0)]⟩:ABlk)) i L q7 n∧Fr (Io i h4.length) h4 (h7.set h4.length (⟨0,135,[.v (.int .i64 1),T,.v (.string ⟨#[]⟩),.v (.string ⟨#[]⟩),.v (.slice none 0 0)]⟩:ABlk)):=⟨Be (Bs.1 ka7).1,(Bn (by omega)).trans r7,FF7.trans (Fr.set (S:=Io i h4.length) _ (.inr (BL _))) fun k e=>.inl e⟩;have rT8:=rT7.up (S':=Old h6.length) (Fr.set (S:=IsI h4.length) (h:=h7) (⟨0,135,[.v (.int .i64 1),T,.v (.string ⟨#[]⟩),.v (.string ⟨#[]⟩),.v (.slice none 0 0)]⟩:ABlk) rfl) (fun k e _=>by have e:k=h4.length:=e;show k<h6.length;have:=(Bs.1 ka6).1;omega) (fun k e _=>e);generalize h7.set h4.length (⟨0,135,[.v (.int .i64 1),T,.v (.string ⟨#[]⟩),.v (.string ⟨#[]⟩),.v (.slice none 0 0)]⟩:ABlk)=h8 at ka8 r8 FF8 rT8⊢;refine wordE E b7 r8 ?_ ?_ (fun nm q9 h9 e9 f9 r9 a9 b9=>?_) (fun q e' h9 e9 f9=>?_)
  ·rfl
  ·rfl
  rotate_left
  ·have:actD ts p=.bad q e':=by unfold actD;rw[if_pos hS];simp only[e7,e9,DR.bind]
   rw[this]at hR;rw[←hR];exact⟨Io.fin (F4.trans (FF8.trans (Io.i f9) fun k e=>.inl e) fun k e=>e.elim (fun e=>.inl (.inl e)) fun e=>.inl (.inr (by have:=F4.1;omega))),rfl⟩
  have FF9:=FF8.trans (Io.i (n0:=h4.length) f9) fun k e=>.inl e
  have ka9:=f9.at ka8 (fun e=>by have e:h4.length=i:=e;omega);have rT9:=rT8.up (S':=Old h6.length) f9 (fun k e _=>by have e:k=i:=e;show k<h6.length;omega) (fun k e _=>e);simp only[tyD,ka9,setMany,evE,tyX,Nat.reduceAdd,Nat.reduceLT,Nat.reduceLeDiff,Nat.reduceEqDiff,reduceCtorEq];obtain⟨ka10,r10,FF10⟩:(h9.set h4.length (⟨0,135,[.v (.int .i64 1),T,.v (.string ⟨nm.toArray⟩),.v (.string ⟨#[]⟩),.v (.slice none 0 0)]⟩:ABlk))[h4.length]?=some (⟨0,135,[.v (.int .i64 1),T,.v (.string ⟨nm.toArray⟩),.v (.string ⟨#[]⟩),.v (.slice none 0 0)]⟩:ABlk)∧RD (h9.set h4.length (⟨0,135,[.v (.int .i64 1),T,.v (.string ⟨nm.toArray⟩),.v (.string ⟨#[]⟩),.v (.slice none 0 0)]⟩:ABlk)) i L q9 n∧Fr (Io i h4.length) h4 (h9.set h4.length (⟨0,135,[.v (.int .i64 1),T,.v (.string ⟨nm.toArray⟩),.v (.string ⟨#[]⟩),.v (.slice none 0 0)]⟩:ABlk)):=⟨Be (Bs.1 ka9).1,(Bn (by omega)).trans r9,FF9.trans (Fr.set (S:=Io i h4.length) _ (.inr (BL _))) fun k e=>.inl e⟩;have rT10:=rT9.up (S':=Old h6.length) (Fr.set (S:=IsI h4.length) (h:=h9) (⟨0,135,[.v (.int .i64 1),T,.v (.string ⟨nm.toArray⟩),.v (.string ⟨#[]⟩),.v (.slice none 0 0)]⟩:ABlk) rfl) (fun k e _=>by have e:k=h4.length:=e;show k<h6.length;have:=(Bs.1 ka6).1;omega) (fun k e _=>e);generalize h9.set h4.length (⟨0,135,[.v (.int .i64 1),T,.v (.string ⟨nm.toArray⟩),.v (.string ⟨#[]⟩),.v (.slice none 0 0)]⟩:ABlk)=h10 at ka10 r10 FF10 rT10⊢;refine argsE E b9 r10 ?_ ?_ (fun l q11 A h11 e11 f11 r11 a11 b11 rA=>?_) (fun q e' h11 e11 f11=>?_)
  ·rfl
  ·rfl
  rotate_left
  ·have:actD ts p=.bad q e':=by unfold actD;rw[if_pos hS];simp only[e7,e9,e11,DR.bind]
   rw[this]at hR;rw[←hR];exact⟨Io.fin (F4.trans (FF10.trans (Io.i f11) fun k e=>.inl e) fun k e=>e.elim (fun e=>.inl (.inl e)) fun e=>.inl (.inr (by have:=F4.1;omega))),rfl⟩
  have FF11:=FF10.trans (Io.i (n0:=h4.length) f11) fun k e=>.inl e
  have ka11:=f11.at ka10 (fun e=>by have e:h4.length=i:=e;omega);obtain⟨hone2,hflat2⟩:=rd_one rA;have hl10:=(Bs.1 ka10).1;have hl6:=(Bs.1 ka6).1;have rT11:=rT10.up (S':=fun k=>k<h4.length+1∨h10.length≤k) f11 (fun k e _=>by have e:k=i:=e;show k<h6.length;omega) (fun k e hk=>by show k<h6.length;omega);simp only[tyD,ka11,setMany,hflat2,evE,Nat.reduceAdd,Nat.reduceLT,Nat.reduceLeDiff,Nat.reduceEqDiff,reduceCtorEq];obtain⟨ka12,r12,FF12⟩:(h11.set h4.length (⟨0,135,[.v (.int .i64 1),T,.v (.string ⟨nm.toArray⟩),.v (.string ⟨#[]⟩),A]⟩:ABlk))[h4.length]?=some (⟨0,135,[.v (.int .i64 1),T,.v (.string ⟨nm.toArray⟩),.v (.string ⟨#[]⟩),A]⟩:ABlk)∧RD (h11.set h4.length (⟨0,135,[.v (.int .i64 1),T,.v (.string ⟨nm.toArray⟩),.v (.string ⟨#[]⟩),A]⟩:ABlk)) i L q11 n∧Fr (Io i h4.length) h4 (h11.set h4.length (⟨0,135,[.v (.int .i64 1),T,.v (.string ⟨nm.toArray⟩),.v (.string ⟨#[]⟩),A]⟩:ABlk)):=⟨Be (Bs.1 ka11).1,(Bn (by omega)).trans r11,FF11.trans (Fr.set (S:=Io i h4.length) _ (.inr (BL _))) fun k e=>.inl e⟩;have rA2:=rA.up (S':=Old h10.length) (Fr.set (S:=IsI h4.length) (h:=h11) (⟨0,135,[.v (.int .i64 1),T,.v (.string ⟨nm.toArray⟩),.v (.string ⟨#[]⟩),A]⟩:ABlk) rfl) (fun k e _=>by have e:k=h4.length:=e;show k<h10.length;omega) (fun k e _=>e);have rT12:=rT11.up (S':=fun k=>k<h4.length+1∨h10.length≤k) (Fr.set (S:=IsI h4.length) (h:=h11) (⟨0,135,[.v (.int .i64 1),T,.v (.string ⟨nm.toArray⟩),.v (.string ⟨#[]⟩),A]⟩:ABlk) rfl) (fun k e _=>by have e:k=h4.length:=e;exact .inl (by omega)) (fun k e _=>e);generalize h11.set h4.length (⟨0,135,[.v (.int .i64 1),T,.v (.string ⟨nm.toArray⟩),.v (.string ⟨#[]⟩),A]⟩:ABlk)=h12 at ka12 r12 FF12 rA2 rT12⊢;obtain⟨ac,T,A,qz,hz,ez,hact,kaz,oT,oA,elz,rz,FFz,hqz⟩:∃ (ac:Ac) (T A:AV) (qz:Nat) (hz:List ABlk),hz=h12∧actD ts p=.ok ac qz∧hz[h4.length]?=some ⟨0,135,[intC ac.kind,T,strC ac.name,strC ac.var,A]⟩∧(oneA T=true∧flat T=some [T])∧(oneA A=true∧flat A=some [A])∧RdL (kT 135) (Old (h4.length+1)) hz ac.cells [intC ac.kind,T,strC ac.name,strC ac.var,A]∧RD hz i L qz n∧Fr (Io i h4.length) h4 hz∧p+1≤qz∧qz≤ts.length:=⟨⟨1,x,nm,[],l⟩,T,A,q11,h12,rfl,by unfold actD;rw[if_pos hS];simp only[e7,e9,e11,DR.bind],ka12,⟨hone,hflat⟩,⟨hone2,hflat2⟩,RdL.ac rT12 rA2 (fun k _=>by by_cases h:k<h10.length;exact .inr h;exact .inl (.inr (by omega))) (fun k e _=>.inl e) (fun k e _=>by have e:k<h4.length+1:=e;show k<h10.length;omega),r12,FF12,by omega,by omega⟩;subst ez;rw[hact]at hR;have eR2:(DR.ok ac qz).bind (fun a p1=>(wantD ts [59] p1).bind fun x p2=>actsD ts f (xs++[a]) p2)=(wantD ts [59] qz).bind fun x p2=>actsD ts f (xs++[ac]) p2:=rfl
  rw[eR2]at hR;refine wantE (w:=[59]) E hqz.2 rz ?_ ?_ (fun hW hy fy ry hpy=>?_) (fun hW hy fy=>?_)
  ·rfl
  ·rfl
  rotate_left
  ·unfold wantD at hR;rw[if_neg (by rw[hW];decide)]at hR;rw[←hR];exact⟨Io.fin (F4.trans (FFz.trans (Io.i fy) fun k e=>.inl e) fun k e=>e.elim (fun e=>.inl (.inl e)) fun e=>.inl (.inr (by have:=F4.1;omega))),rfl⟩
  have hR':actsD ts f (xs++[ac]) (qz+1)=R:=by rw[←hR];unfold wantD;rw[if_pos hW];rfl
  have FFy:=FFz.trans (Io.i (n0:=h4.length) fy) fun k e=>.inl e
  have kay:=fy.at kaz (fun e=>by have e:h4.length=i:=e;omega);have ely:=elz.up (S':=Old (h4.length+1)) fy (fun k e _=>by have e:k=i:=e;show k<h4.length+1;omega) (fun k e _=>e);have Gy:GLm h4.length h.length 135 5 hy N xs.length (xs.flatMap Ac.cells):=G4.frm FFy (fun k e hk=>e.elim (fun e=>⟨by omega,fun hn=>by have:=(G4.lt hn).1;omega⟩) fun e=>by omega);obtain⟨honeA,hflatA⟩:=oA;obtain⟨honeT,hflatT⟩:=oT;have hel:RdL (kT 135) (fun k=>k<h4.length) hy ac.cells [intC ac.kind,T,strC ac.name,strC ac.var,A]:=ely.weak fun k e _=>Nat.lt_succ_of_lt e
  have hxe:(xs++[ac]).length=xs.length+1:=by simp
  have hxf:(xs++[ac]).flatMap Ac.cells=xs.flatMap Ac.cells++ac.cells:=by simp
  have hal:=(Bs.1 kay).1;have F4y:Fr (Io i h.length) h hy:=F4.trans FFy fun k e=>e.elim (fun e=>.inl (.inl e)) fun e=>.inl (.inr (by omega))
  have hFy:=FFy.1;clear hR FFz rz kaz
  rcases Gy with⟨rfl,e0,e1⟩|⟨j,ver,cs,rfl,hnn,hj0,hj,hl,hrd⟩
  ·simp only[tyD,kay,intC,strC,honeA,honeT,at_len,Bo,Bc,Bi,evE,Nat.reduceAdd,Nat.reduceLT,Nat.reduceLeDiff,Nat.reduceEqDiff,reduceCtorEq,List.reduceReplicate];have GP:=(GLm.nil (m:=h4.length) (n0:=h.length) (t:=135) (sz:=5) (h:=hy)).push (h':=hy++[⟨0,135,[intC ac.kind,T,strC ac.name,strC ac.var,A]⟩,⟨0,135,[intC ac.kind,T,strC ac.name,strC ac.var,A]⟩]) (j':=hy.length+1) (ver':=0) (xs:=[]) (es:=[intC ac.kind,T,strC ac.name,strC ac.var,A]) (ecs:=ac.cells) (fun j ver e=>by cases e) (fun _=>⟨by omega,rfl⟩) (by omega) (by omega) (Fr.app _ _) (at_len1 _ _ _ _) rfl hel;exact loopCE.intro (qz+1,.own (hy.length+1) 0 1,_) ⟨xs++[ac],f,hpy,by rw[hxe];show xs.length+1≤qz+1;omega,ry.app _,by rw[hxe,hxf,e0,e1];exact GP,F4y.trans (Fr.app (S:=NoB) _ _) fun k e=>e.elim,hR',by show ts.length<f+(qz+1);omega⟩ ⟨rfl,rfl,⟨rfl,rfl,trivial⟩,rfl⟩ (by show ts.length+1-(qz+1)<ts.length+1-p;omega)
  ·have hjl:=(Bs.1 hj).1;have hl':cs.length=xs.length * 5:=hl;have q1:∀ l,(hy++l)[j]?=some ⟨ver,135,cs⟩:=fun l=>(Ba hjl).trans hj
   have s8:∀ l c,(hy++l).set j c=hy.set j c++l:=fun l c=>Bg _ _ hjl
   have q4:List.take (xs.length * 5) cs=cs:=Bt (by omega);have q6:xs.length * 5≤cs.length:=by omega
   simp only[tyD,kay,intC,strC,honeA,honeT,at_len,q1,s8,q4,q6,evE,Nat.reduceAdd,Nat.reduceLT,Nat.reduceLeDiff,Nat.reduceEqDiff,reduceCtorEq,List.reduceReplicate];have GP:=GLm.push (m:=h4.length) (h:=hy) (N:=.own j ver xs.length) (.inr ⟨j,ver,cs,rfl,hnn,hj0,hj,hl,hrd⟩) (h':=hy.set j ⟨ver+1,135,cs++[intC ac.kind,T,strC ac.name,strC ac.var,A]⟩++[⟨0,135,[intC ac.kind,T,strC ac.name,strC ac.var,A]⟩]) (j':=j) (ver':=ver+1) (xs:=cs) (es:=[intC ac.kind,T,strC ac.name,strC ac.var,A]) (ecs:=ac.cells) (fun j2 ver2 e=>by cases e;exact⟨rfl,hj⟩) (fun e=>by cases e) (by omega) (by omega) ((Fr.set (S:=fun k=>k<h.length∨nbk (.own j ver xs.length) k) _ (.inr rfl)).trans (Fr.app (S:=NoB) _ _) fun k e=>e.elim) ((Ba (by rw[Bl];exact hjl)).trans (Be hjl)) rfl hel;refine⟨by omega,loopCE.intro (qz+1,.own j (ver+1) (xs.length+1),_) ⟨xs++[ac],f,hpy,by rw[hxe];show xs.length+1≤qz+1;omega,?_,by rw[hxe,hxf];exact GP,F4y.trans ((Fr.set (S:=Io i h.length) _ (.inr hj0)).trans (Fr.app (S:=NoB) _ _) fun k e=>e.elim) fun k e=>.inl e,hR',by show ts.length<f+(qz+1);omega⟩ ⟨rfl,rfl,⟨rfl,rfl,trivial⟩,rfl⟩ (by show ts.length+1-(qz+1)<ts.length+1-p;omega)⟩;exact (Ba (by rw[Bl];have:=ry.lt;omega)).trans ((Bn (by omega)).trans ry)
 have ka6:=f6.at ka5 (fun e=>by have e:h4.length=i:=e;omega);have FF6:=FF5.trans (Io.i (n0:=h4.length) f6) fun k e=>.inl e
 simp only[evE,Nat.reduceLT,Nat.reduceEqDiff,reduceCtorEq];refine takeE (w:=kSpawn) E hp r6 ?_ ?_ (fun hS2 h7 f7 r7 hp7=>?_) (fun hS2 h7 f7 r7=>?_)
 ·rfl
 ·rfl
 ·have ka7:=f7.at ka6 (fun e=>by have e:h4.length=i:=e;omega);have FF7:=FF6.trans (Io.i (n0:=h4.length) f7) fun k e=>.inl e
  simp only[evE,Nat.reduceLT,Nat.reduceEqDiff,reduceCtorEq];have hone:=True.intro;have hflat:=True.intro;refine wordE E hp7 r7 ?_ ?_ (fun nm q8 h8 e8 f8 r8 a8 b8=>?_) (fun q e' h8 e8 f8=>?_)
  ·rfl
  ·rfl
  rotate_left
  ·have:actD ts p=.bad q e':=by unfold actD;rw[if_neg (by rw[hS];decide)];rw[if_pos hS2];simp only[e8,DR.bind]
   rw[this]at hR;rw[←hR];exact⟨Io.fin (F4.trans (FF7.trans (Io.i f8) fun k e=>.inl e) fun k e=>e.elim (fun e=>.inl (.inl e)) fun e=>.inl (.inr (by have:=F4.1;omega))),rfl⟩
  have FF8:=FF7.trans (Io.i (n0:=h4.length) f8) fun k e=>.inl e
  have ka8:=f8.at ka7 (fun e=>by have e:h4.length=i:=e;omega);simp only[tyD,ka8,setMany,evE,Nat.reduceAdd,Nat.reduceLT,Nat.reduceLeDiff,Nat.reduceEqDiff,reduceCtorEq];obtain⟨ka9,r9,FF9⟩:(h8.set h4.length (⟨0,135,[.v (.int .i64 2),.v (.slice none 0 0),.v (.string ⟨nm.toArray⟩),.v (.string ⟨#[]⟩),.v (.slice none 0 0)]⟩:ABlk))[h4.length]?=some (⟨0,135,[.v (.int .i64 2),.v (.slice none 0 0),.v (.string ⟨nm.toArray⟩),.v (.string ⟨#[]⟩),.v (.slice none 0 0)]⟩:ABlk)∧RD (h8.set h4.length (⟨0,135,[.v (.int .i64 2),.v (.slice none 0 0),.v (.string ⟨nm.toArray⟩),.v (.string ⟨#[]⟩),.v (.slice none 0 0)]⟩:ABlk)) i L q8 n∧Fr (Io i h4.length) h4 (h8.set h4.length (⟨0,135,[.v (.int .i64 2),.v (.slice none 0 0),.v (.string ⟨nm.toArray⟩),.v (.string ⟨#[]⟩),.v (.slice none 0 0)]⟩:ABlk)):=⟨Be (Bs.1 ka8).1,(Bn (by omega)).trans r8,FF8.trans (Fr.set (S:=Io i h4.length) _ (.inr (BL _))) fun k e=>.inl e⟩;generalize h8.set h4.length (⟨0,135,[.v (.int .i64 2),.v (.slice none 0 0),.v (.string ⟨nm.toArray⟩),.v (.string ⟨#[]⟩),.v (.slice none 0 0)]⟩:ABlk)=h9 at ka9 r9 FF9⊢;refine wantE (w:=kAs) E b8 r9 ?_ ?_ (fun e10 h10 f10 r10 b10=>?_) (fun e10 h10 f10=>?_)
  ·rfl
  ·rfl
  rotate_left
  ·have:actD ts p=.bad q8 80:=by unfold actD;rw[if_neg (by rw[hS];decide)];rw[if_pos hS2];simp only[e8,wantD,e10,DR.bind,Bool.false_eq_true,if_false]
   rw[this]at hR;rw[←hR];exact⟨Io.fin (F4.trans (FF9.trans (Io.i f10) fun k e=>.inl e) fun k e=>e.elim (fun e=>.inl (.inl e)) fun e=>.inl (.inr (by have:=F4.1;omega))),rfl⟩
  have FF10:=FF9.trans (Io.i (n0:=h4.length) f10) fun k e=>.inl e
  have ka10:=f10.at ka9 (fun e=>by have e:h4.length=i:=e;omega);simp only[evE,Nat.reduceLT,Nat.reduceEqDiff,reduceCtorEq];refine wordE E b10 r10 ?_ ?_ (fun vr q11 h11 e11 f11 r11 a11 b11=>?_) (fun q e' h11 e11 f11=>?_)
  ·rfl
  ·rfl
  rotate_left
  ·have:actD ts p=.bad q e':=by unfold actD;rw[if_neg (by rw[hS];decide)];rw[if_pos hS2];simp only[e8,wantD,e10,e11,DR.bind,if_true]
   rw[this]at hR;rw[←hR];exact⟨Io.fin (F4.trans (FF10.trans (Io.i f11) fun k e=>.inl e) fun k e=>e.elim (fun e=>.inl (.inl e)) fun e=>.inl (.inr (by have:=F4.1;omega))),rfl⟩
  have FF11:=FF10.trans (Io.i (n0:=h4.length) f11) fun k e=>.inl e
  have ka11:=f11.at ka10 (fun e=>by have e:h4.length=i:=e;omega);simp only[tyD,ka11,setMany,evE,tyX,Nat.reduceAdd,Nat.reduceLT,Nat.reduceLeDiff,Nat.reduceEqDiff,reduceCtorEq];obtain⟨ka12,r12,FF12⟩:(h11.set h4.length (⟨0,135,[.v (.int .i64 2),.v (.slice none 0 0),.v (.string ⟨nm.toArray⟩),.v (.string ⟨vr.toArray⟩),.v (.slice none 0 0)]⟩:ABlk))[h4.length]?=some (⟨0,135,[.v (.int .i64 2),.v (.slice none 0 0),.v (.string ⟨nm.toArray⟩),.v (.string ⟨vr.toArray⟩),.v (.slice none 0 0)]⟩:ABlk)∧RD (h11.set h4.length (⟨0,135,[.v (.int .i64 2),.v (.slice none 0 0),.v (.string ⟨nm.toArray⟩),.v (.string ⟨vr.toArray⟩),.v (.slice none 0 0)]⟩:ABlk)) i L q11 n∧Fr (Io i h4.length) h4 (h11.set h4.length (⟨0,135,[.v (.int .i64 2),.v (.slice none 0 0),.v (.string ⟨nm.toArray⟩),.v (.string ⟨vr.toArray⟩),.v (.slice none 0 0)]⟩:ABlk)):=⟨Be (Bs.1 ka11).1,(Bn (by omega)).trans r11,FF11.trans (Fr.set (S:=Io i h4.length) _ (.inr (BL _))) fun k e=>.inl e⟩;generalize h11.set h4.length (⟨0,135,[.v (.int .i64 2),.v (.slice none 0 0),.v (.string ⟨nm.toArray⟩),.v (.string ⟨vr.toArray⟩),.v (.slice none 0 0)]⟩:ABlk)=h12 at ka12 r12 FF12⊢;obtain⟨ac,T,A,qz,hz,ez,hact,kaz,oT,oA,elz,rz,FFz,hqz⟩:∃ (ac:Ac) (T A:AV) (qz:Nat) (hz:List ABlk),hz=h12∧actD ts p=.ok ac qz∧hz[h4.length]?=some ⟨0,135,[intC ac.kind,T,strC ac.name,strC ac.var,A]⟩∧(oneA T=true∧flat T=some [T])∧(oneA A=true∧flat A=some [A])∧RdL (kT 135) (Old (h4.length+1)) hz ac.cells [intC ac.kind,T,strC ac.name,strC ac.var,A]∧RD hz i L qz n∧Fr (Io i h4.length) h4 hz∧p+1≤qz∧qz≤ts.length:=⟨⟨2,[],nm,vr,[]⟩,.v (.slice none 0 0),.v (.slice none 0 0),q11,h12,rfl,by unfold actD;rw[if_neg (by rw[hS];decide)];rw[if_pos hS2];simp only[e8,wantD,e10,e11,DR.bind,if_true],ka12,⟨rfl,rfl⟩,⟨rfl,rfl⟩,RdL.ac (S1:=fun _=>True) (S2:=fun _=>True) Rd.none Rd.none (fun _ _=>.inl trivial) (fun _ _ _=>trivial) (fun _ _ _=>trivial),r12,FF12,by omega,by omega⟩;subst ez;rw[hact]at hR;have eR2:(DR.ok ac qz).bind (fun a p1=>(wantD ts [59] p1).bind fun x p2=>actsD ts f (xs++[a]) p2)=(wantD ts [59] qz).bind fun x p2=>actsD ts f (xs++[ac]) p2:=rfl
  rw[eR2]at hR;refine wantE (w:=[59]) E hqz.2 rz ?_ ?_ (fun hW hy fy ry hpy=>?_) (fun hW hy fy=>?_)
  ·rfl
  ·rfl
  rotate_left
  ·unfold wantD at hR;rw[if_neg (by rw[hW];decide)]at hR;rw[←hR];exact⟨Io.fin (F4.trans (FFz.trans (Io.i fy) fun k e=>.inl e) fun k e=>e.elim (fun e=>.inl (.inl e)) fun e=>.inl (.inr (by have:=F4.1;omega))),rfl⟩
  have hR':actsD ts f (xs++[ac]) (qz+1)=R:=by rw[←hR];unfold wantD;rw[if_pos hW];rfl
  have FFy:=FFz.trans (Io.i (n0:=h4.length) fy) fun k e=>.inl e
  have kay:=fy.at kaz (fun e=>by have e:h4.length=i:=e;omega);have ely:=elz.up (S':=Old (h4.length+1)) fy (fun k e _=>by have e:k=i:=e;show k<h4.length+1;omega) (fun k e _=>e);have Gy:GLm h4.length h.length 135 5 hy N xs.length (xs.flatMap Ac.cells):=G4.frm FFy (fun k e hk=>e.elim (fun e=>⟨by omega,fun hn=>by have:=(G4.lt hn).1;omega⟩) fun e=>by omega);obtain⟨honeA,hflatA⟩:=oA;obtain⟨honeT,hflatT⟩:=oT;have hel:RdL (kT 135) (fun k=>k<h4.length) hy ac.cells [intC ac.kind,T,strC ac.name,strC ac.var,A]:=ely.weak fun k e _=>Nat.lt_succ_of_lt e
  have hxe:(xs++[ac]).length=xs.length+1:=by simp
  have hxf:(xs++[ac]).flatMap Ac.cells=xs.flatMap Ac.cells++ac.cells:=by simp
  have hal:=(Bs.1 kay).1;have F4y:Fr (Io i h.length) h hy:=F4.trans FFy fun k e=>e.elim (fun e=>.inl (.inl e)) fun e=>.inl (.inr (by omega))
  have hFy:=FFy.1;clear hR FFz rz kaz
  rcases Gy with⟨rfl,e0,e1⟩|⟨j,ver,cs,rfl,hnn,hj0,hj,hl,hrd⟩
  ·simp only[tyD,kay,intC,strC,honeA,honeT,at_len,Bo,Bc,Bi,evE,Nat.reduceAdd,Nat.reduceLT,Nat.reduceLeDiff,Nat.reduceEqDiff,reduceCtorEq,List.reduceReplicate];have GP:=(GLm.nil (m:=h4.length) (n0:=h.length) (t:=135) (sz:=5) (h:=hy)).push (h':=hy++[⟨0,135,[intC ac.kind,T,strC ac.name,strC ac.var,A]⟩,⟨0,135,[intC ac.kind,T,strC ac.name,strC ac.var,A]⟩]) (j':=hy.length+1) (ver':=0) (xs:=[]) (es:=[intC ac.kind,T,strC ac.name,strC ac.var,A]) (ecs:=ac.cells) (fun j ver e=>by cases e) (fun _=>⟨by omega,rfl⟩) (by omega) (by omega) (Fr.app _ _) (at_len1 _ _ _ _) rfl hel;exact loopCE.intro (qz+1,.own (hy.length+1) 0 1,_) ⟨xs++[ac],f,hpy,by rw[hxe];show xs.length+1≤qz+1;omega,ry.app _,by rw[hxe,hxf,e0,e1];exact GP,F4y.trans (Fr.app (S:=NoB) _ _) fun k e=>e.elim,hR',by show ts.length<f+(qz+1);omega⟩ ⟨rfl,rfl,⟨rfl,rfl,trivial⟩,rfl⟩ (by show ts.length+1-(qz+1)<ts.length+1-p;omega)
  ·have hjl:=(Bs.1 hj).1;have hl':cs.length=xs.length * 5:=hl;have q1:∀ l,(hy++l)[j]?=some ⟨ver,135,cs⟩:=fun l=>(Ba hjl).trans hj
   have s8:∀ l c,(hy++l).set j c=hy.set j c++l:=fun l c=>Bg _ _ hjl
   have q4:List.take (xs.length * 5) cs=cs:=Bt (by omega);have q6:xs.length * 5≤cs.length:=by omega
   simp only[tyD,kay,intC,strC,honeA,honeT,at_len,q1,s8,q4,q6,evE,Nat.reduceAdd,Nat.reduceLT,Nat.reduceLeDiff,Nat.reduceEqDiff,reduceCtorEq,List.reduceReplicate];have GP:=GLm.push (m:=h4.length) (h:=hy) (N:=.own j ver xs.length) (.inr ⟨j,ver,cs,rfl,hnn,hj0,hj,hl,hrd⟩) (h':=hy.set j ⟨ver+1,135,cs++[intC ac.kind,T,strC ac.name,strC ac.var,A]⟩++[⟨0,135,[intC ac.kind,T,strC ac.name,strC ac.var,A]⟩]) (j':=j) (ver':=ver+1) (xs:=cs) (es:=[intC ac.kind,T,strC ac.name,strC ac.var,A]) (ecs:=ac.cells) (fun j2 ver2 e=>by cases e;exact⟨rfl,hj⟩) (fun e=>by cases e) (by omega) (by omega) ((Fr.set (S:=fun k=>k<h.length∨nbk (.own j ver xs.length) k) _ (.inr rfl)).trans (Fr.app (S:=NoB) _ _) fun k e=>e.elim) ((Ba (by rw[Bl];exact hjl)).trans (Be hjl)) rfl hel;refine⟨by omega,loopCE.intro (qz+1,.own j (ver+1) (xs.length+1),_) ⟨xs++[ac],f,hpy,by rw[hxe];show xs.length+1≤qz+1;omega,?_,by rw[hxe,hxf];exact GP,F4y.trans ((Fr.set (S:=Io i h.length) _ (.inr hj0)).trans (Fr.app (S:=NoB) _ _) fun k e=>e.elim) fun k e=>.inl e,hR',by show ts.length<f+(qz+1);omega⟩ ⟨rfl,rfl,⟨rfl,rfl,trivial⟩,rfl⟩ (by show ts.length+1-(qz+1)<ts.length+1-p;omega)⟩;exact (Ba (by rw[Bl];have:=ry.lt;omega)).trans ((Bn (by omega)).trans ry)
 have ka7:=f7.at ka6 (fun e=>by have e:h4.length=i:=e;omega);have FF7:=FF6.trans (Io.i (n0:=h4.length) f7) fun k e=>.inl e
 simp only[evE,Nat.reduceLT,Nat.reduceEqDiff,reduceCtorEq];refine takeE (w:=kReply) E hp r7 ?_ ?_ (fun hS3 h8 f8 r8 hp8=>?_) (fun hS3 h8 f8 r8=>?_)
 ·rfl
 ·rfl
 ·have ka8:=f8.at ka7 (fun e=>by have e:h4.length=i:=e;omega);have FF8:=FF7.trans (Io.i (n0:=h4.length) f8) fun k e=>.inl e
  simp only[evE,Nat.reduceLT,Nat.reduceEqDiff,reduceCtorEq];refine argsE E hp8 r8 ?_ ?_ (fun l q9 A h9 e9 f9 r9 a9 b9 rA=>?_) (fun q e' h9 e9 f9=>?_)
  ·rfl
  ·rfl
  rotate_left
  ·have:actD ts p=.bad q e':=by unfold actD;rw[if_neg (by rw[hS];decide)];rw[if_neg (by rw[hS2];decide)];rw[if_pos hS3];simp only[e9,DR.bind]
   rw[this]at hR;rw[←hR];exact⟨Io.fin (F4.trans (FF8.trans (Io.i f9) fun k e=>.inl e) fun k e=>e.elim (fun e=>.inl (.inl e)) fun e=>.inl (.inr (by have:=F4.1;omega))),rfl⟩
  have FF9:=FF8.trans (Io.i (n0:=h4.length) f9) fun k e=>.inl e
  have ka9:=f9.at ka8 (fun e=>by have e:h4.length=i:=e;omega);obtain⟨hone,hflat⟩:=rd_one rA;simp only[tyD,ka9,setMany,hflat,hone,evE,Nat.reduceAdd,Nat.reduceLT,Nat.reduceLeDiff,Nat.reduceEqDiff,reduceCtorEq];obtain⟨ka10,r10,FF10⟩:(h9.set h4.length (⟨0,135,[.v (.int .i64 3),.v (.slice none 0 0),.v (.string ⟨#[]⟩),.v (.string ⟨#[]⟩),A]⟩:ABlk))[h4.length]?=some (⟨0,135,[.v (.int .i64 3),.v (.slice none 0 0),.v (.string ⟨#[]⟩),.v (.string ⟨#[]⟩),A]⟩:ABlk)∧RD (h9.set h4.length (⟨0,135,[.v (.int .i64 3),.v (.slice none 0 0),.v (.string ⟨#[]⟩),.v (.string ⟨#[]⟩),A]⟩:ABlk)) i L q9 n∧Fr (Io i h4.length) h4 (h9.set h4.length (⟨0,135,[.v (.int .i64 3),.v (.slice none 0 0),.v (.string ⟨#[]⟩),.v (.string ⟨#[]⟩),A]⟩:ABlk)):=⟨Be (Bs.1 ka9).1,(Bn (by omega)).trans r9,FF9.trans (Fr.set (S:=Io i h4.length) _ (.inr (BL _))) fun k e=>.inl e⟩;have rA2:=rA.up (S':=Old (h4.length+1)) (Fr.set (S:=IsI h4.length) (h:=h9) (⟨0,135,[.v (.int .i64 3),.v (.slice none 0 0),.v (.string ⟨#[]⟩),.v (.string ⟨#[]⟩),A]⟩:ABlk) rfl) (fun k e _=>by have e:k=h4.length:=e;have:=(Bs.1 ka8).1;show k<h8.length;omega) (fun k e _=>by have e:k<h4.length+1:=e;have:=(Bs.1 ka8).1;show k<h8.length;omega);generalize h9.set h4.length (⟨0,135,[.v (.int .i64 3),.v (.slice none 0 0),.v (.string ⟨#[]⟩),.v (.string ⟨#[]⟩),A]⟩:ABlk)=h10 at ka10 r10 FF10 rA2⊢;obtain⟨ac,T,A,qz,hz,ez,hact,kaz,oT,oA,elz,rz,FFz,hqz⟩:∃ (ac:Ac) (T A:AV) (qz:Nat) (hz:List ABlk),hz=h10∧actD ts p=.ok ac qz∧hz[h4.length]?=some ⟨0,135,[intC ac.kind,T,strC ac.name,strC ac.var,A]⟩∧(oneA T=true∧flat T=some [T])∧(oneA A=true∧flat A=some [A])∧RdL (kT 135) (Old (h4.length+1)) hz ac.cells [intC ac.kind,T,strC ac.name,strC ac.var,A]∧RD hz i L qz n∧Fr (Io i h4.length) h4 hz∧p+1≤qz∧qz≤ts.length:=⟨⟨3,[],[],[],l⟩,.v (.slice none 0 0),A,q9,h10,rfl,by unfold actD;rw[if_neg (by rw[hS];decide)];rw[if_neg (by rw[hS2];decide)];rw[if_pos hS3];simp only[e9,DR.bind],ka10,⟨rfl,rfl⟩,⟨hone,hflat⟩,RdL.ac (S1:=fun _=>True) Rd.none rA2 (fun _ _=>.inl trivial) (fun _ _ _=>trivial) (fun _ e _=>e),r10,FF10,by omega,by omega⟩;subst ez;rw[hact]at hR;have eR2:(DR.ok ac qz).bind (fun a p1=>(wantD ts [59] p1).bind fun x p2=>actsD ts f (xs++[a]) p2)=(wantD ts [59] qz).bind fun x p2=>actsD ts f (xs++[ac]) p2:=rfl
  rw[eR2]at hR;refine wantE (w:=[59]) E hqz.2 rz ?_ ?_ (fun hW hy fy ry hpy=>?_) (fun hW hy fy=>?_)
  ·rfl
  ·rfl
  rotate_left
  ·unfold wantD at hR;rw[if_neg (by rw[hW];decide)]at hR;rw[←hR];exact⟨Io.fin (F4.trans (FFz.trans (Io.i fy) fun k e=>.inl e) fun k e=>e.elim (fun e=>.inl (.inl e)) fun e=>.inl (.inr (by have:=F4.1;omega))),rfl⟩
  have hR':actsD ts f (xs++[ac]) (qz+1)=R:=by rw[←hR];unfold wantD;rw[if_pos hW];rfl
  have FFy:=FFz.trans (Io.i (n0:=h4.length) fy) fun k e=>.inl e
  have kay:=fy.at kaz (fun e=>by have e:h4.length=i:=e;omega);have ely:=elz.up (S':=Old (h4.length+1)) fy (fun k e _=>by have e:k=i:=e;show k<h4.length+1;omega) (fun k e _=>e);have Gy:GLm h4.length h.length 135 5 hy N xs.length (xs.flatMap Ac.cells):=G4.frm FFy (fun k e hk=>e.elim (fun e=>⟨by omega,fun hn=>by have:=(G4.lt hn).1;omega⟩) fun e=>by omega);obtain⟨honeA,hflatA⟩:=oA;obtain⟨honeT,hflatT⟩:=oT;have hel:RdL (kT 135) (fun k=>k<h4.length) hy ac.cells [intC ac.kind,T,strC ac.name,strC ac.var,A]:=ely.weak fun k e _=>Nat.lt_succ_of_lt e
  have hxe:(xs++[ac]).length=xs.length+1:=by simp
  have hxf:(xs++[ac]).flatMap Ac.cells=xs.flatMap Ac.cells++ac.cells:=by simp
  have hal:=(Bs.1 kay).1;have F4y:Fr (Io i h.length) h hy:=F4.trans FFy fun k e=>e.elim (fun e=>.inl (.inl e)) fun e=>.inl (.inr (by omega))
  have hFy:=FFy.1;clear hR FFz rz kaz
  rcases Gy with⟨rfl,e0,e1⟩|⟨j,ver,cs,rfl,hnn,hj0,hj,hl,hrd⟩
  ·simp only[tyD,kay,intC,strC,honeA,honeT,at_len,Bo,Bc,Bi,evE,Nat.reduceAdd,Nat.reduceLT,Nat.reduceLeDiff,Nat.reduceEqDiff,reduceCtorEq,List.reduceReplicate];have GP:=(GLm.nil (m:=h4.length) (n0:=h.length) (t:=135) (sz:=5) (h:=hy)).push (h':=hy++[⟨0,135,[intC ac.kind,T,strC ac.name,strC ac.var,A]⟩,⟨0,135,[intC ac.kind,T,strC ac.name,strC ac.var,A]⟩]) (j':=hy.length+1) (ver':=0) (xs:=[]) (es:=[intC ac.kind,T,strC ac.name,strC ac.var,A]) (ecs:=ac.cells) (fun j ver e=>by cases e) (fun _=>⟨by omega,rfl⟩) (by omega) (by omega) (Fr.app _ _) (at_len1 _ _ _ _) rfl hel;exact loopCE.intro (qz+1,.own (hy.length+1) 0 1,_) ⟨xs++[ac],f,hpy,by rw[hxe];show xs.length+1≤qz+1;omega,ry.app _,by rw[hxe,hxf,e0,e1];exact GP,F4y.trans (Fr.app (S:=NoB) _ _) fun k e=>e.elim,hR',by show ts.length<f+(qz+1);omega⟩ ⟨rfl,rfl,⟨rfl,rfl,trivial⟩,rfl⟩ (by show ts.length+1-(qz+1)<ts.length+1-p;omega)
  ·have hjl:=(Bs.1 hj).1;have hl':cs.length=xs.length * 5:=hl;have q1:∀ l,(hy++l)[j]?=some ⟨ver,135,cs⟩:=fun l=>(Ba hjl).trans hj
   have s8:∀ l c,(hy++l).set j c=hy.set j c++l:=fun l c=>Bg _ _ hjl
   have q4:List.take (xs.length * 5) cs=cs:=Bt (by omega);have q6:xs.length * 5≤cs.length:=by omega
   simp only[tyD,kay,intC,strC,honeA,honeT,at_len,q1,s8,q4,q6,evE,Nat.reduceAdd,Nat.reduceLT,Nat.reduceLeDiff,Nat.reduceEqDiff,reduceCtorEq,List.reduceReplicate];have GP:=GLm.push (m:=h4.length) (h:=hy) (N:=.own j ver xs.length) (.inr ⟨j,ver,cs,rfl,hnn,hj0,hj,hl,hrd⟩) (h':=hy.set j ⟨ver+1,135,cs++[intC ac.kind,T,strC ac.name,strC ac.var,A]⟩++[⟨0,135,[intC ac.kind,T,strC ac.name,strC ac.var,A]⟩]) (j':=j) (ver':=ver+1) (xs:=cs) (es:=[intC ac.kind,T,strC ac.name,strC ac.var,A]) (ecs:=ac.cells) (fun j2 ver2 e=>by cases e;exact⟨rfl,hj⟩) (fun e=>by cases e) (by omega) (by omega) ((Fr.set (S:=fun k=>k<h.length∨nbk (.own j ver xs.length) k) _ (.inr rfl)).trans (Fr.app (S:=NoB) _ _) fun k e=>e.elim) ((Ba (by rw[Bl];exact hjl)).trans (Be hjl)) rfl hel;refine⟨by omega,loopCE.intro (qz+1,.own j (ver+1) (xs.length+1),_) ⟨xs++[ac],f,hpy,by rw[hxe];show xs.length+1≤qz+1;omega,?_,by rw[hxe,hxf];exact GP,F4y.trans ((Fr.set (S:=Io i h.length) _ (.inr hj0)).trans (Fr.app (S:=NoB) _ _) fun k e=>e.elim) fun k e=>.inl e,hR',by show ts.length<f+(qz+1);omega⟩ ⟨rfl,rfl,⟨rfl,rfl,trivial⟩,rfl⟩ (by show ts.length+1-(qz+1)<ts.length+1-p;omega)⟩;exact (Ba (by rw[Bl];have:=ry.lt;omega)).trans ((Bn (by omega)).trans ry)
 have ka8:=f8.at ka7 (fun e=>by have e:h4.length=i:=e;omega);have FF8:=FF7.trans (Io.i (n0:=h4.length) f8) fun k e=>.inl e
 simp only[evE,Nat.reduceLT,Nat.reduceEqDiff,reduceCtorEq];refine takeE (w:=kBecome) E hp r8 ?_ ?_ (fun hS4 h9 f9 r9 hp9=>?_) (fun hS4 h9 f9 r9=>?_)
 ·rfl
 ·rfl
 ·have ka9:=f9.at ka8 (fun e=>by have e:h4.length=i:=e;omega);have FF9:=FF8.trans (Io.i (n0:=h4.length) f9) fun k e=>.inl e
  simp only[evE,Nat.reduceLT,Nat.reduceEqDiff,reduceCtorEq];have hone:=True.intro;have hflat:=True.intro;refine wordE E hp9 r9 ?_ ?_ (fun nm q10 h10 e10 f10 r10 a10 b10=>?_) (fun q e' h10 e10 f10=>?_)
  ·rfl
  ·rfl
  rotate_left
  ·have:actD ts p=.bad q e':=by unfold actD;rw[if_neg (by rw[hS];decide)];rw[if_neg (by rw[hS2];decide)];rw[if_neg (by rw[hS3];decide)];rw[if_pos hS4];simp only[e10,DR.bind]
   rw[this]at hR;rw[←hR];exact⟨Io.fin (F4.trans (FF9.trans (Io.i f10) fun k e=>.inl e) fun k e=>e.elim (fun e=>.inl (.inl e)) fun e=>.inl (.inr (by have:=F4.1;omega))),rfl⟩
  have FF10:=FF9.trans (Io.i (n0:=h4.length) f10) fun k e=>.inl e
  have ka10:=f10.at ka9 (fun e=>by have e:h4.length=i:=e;omega);simp only[tyD,ka10,setMany,evE,Nat.reduceAdd,Nat.reduceLT,Nat.reduceLeDiff,Nat.reduceEqDiff,reduceCtorEq];obtain⟨ka11,r11,FF11⟩:(h10.set h4.length (⟨0,135,[.v (.int .i64 4),.v (.slice none 0 0),.v (.string ⟨nm.toArray⟩),.v (.string ⟨#[]⟩),.v (.slice none 0 0)]⟩:ABlk))[h4.length]?=some (⟨0,135,[.v (.int .i64 4),.v (.slice none 0 0),.v (.string ⟨nm.toArray⟩),.v (.string ⟨#[]⟩),.v (.slice none 0 0)]⟩:ABlk)∧RD (h10.set h4.length (⟨0,135,[.v (.int .i64 4),.v (.slice none 0 0),.v (.string ⟨nm.toArray⟩),.v (.string ⟨#[]⟩),.v (.slice none 0 0)]⟩:ABlk)) i L q10 n∧Fr (Io i h4.length) h4 (h10.set h4.length (⟨0,135,[.v (.int .i64 4),.v (.slice none 0 0),.v (.string ⟨nm.toArray⟩),.v (.string ⟨#[]⟩),.v (.slice none 0 0)]⟩:ABlk)):=⟨Be (Bs.1 ka10).1,(Bn (by omega)).trans r10,FF10.trans (Fr.set (S:=Io i h4.length) _ (.inr (BL _))) fun k e=>.inl e⟩;generalize h10.set h4.length (⟨0,135,[.v (.int .i64 4),.v (.slice none 0 0),.v (.string ⟨nm.toArray⟩),.v (.string ⟨#[]⟩),.v (.slice none 0 0)]⟩:ABlk)=h11 at ka11 r11 FF11⊢;obtain⟨ac,T,A,qz,hz,ez,hact,kaz,oT,oA,elz,rz,FFz,hqz⟩:∃ (ac:Ac) (T A:AV) (qz:Nat) (hz:List ABlk),hz=h11∧actD ts p=.ok ac qz∧hz[h4.length]?=some ⟨0,135,[intC ac.kind,T,strC ac.name,strC ac.var,A]⟩∧(oneA T=true∧flat T=some [T])∧(oneA A=true∧flat A=some [A])∧RdL (kT 135) (Old (h4.length+1)) hz ac.cells [intC ac.kind,T,strC ac.name,strC ac.var,A]∧RD hz i L qz n∧Fr (Io i h4.length) h4 hz∧p+1≤qz∧qz≤ts.length:=⟨⟨4,[],nm,[],[]⟩,.v (.slice none 0 0),.v (.slice none 0 0),q10,h11,rfl,by unfold actD;rw[if_neg (by rw[hS];decide)];rw[if_neg (by rw[hS2];decide)];rw[if_neg (by rw[hS3];decide)];rw[if_pos hS4];simp only[e10,DR.bind],ka11,⟨rfl,rfl⟩,⟨rfl,rfl⟩,RdL.ac (S1:=fun _=>True) (S2:=fun _=>True) Rd.none Rd.none (fun _ _=>.inl trivial) (fun _ _ _=>trivial) (fun _ _ _=>trivial),r11,FF11,by omega,by omega⟩;subst ez;rw[hact]at hR;have eR2:(DR.ok ac qz).bind (fun a p1=>(wantD ts [59] p1).bind fun x p2=>actsD ts f (xs++[a]) p2)=(wantD ts [59] qz).bind fun x p2=>actsD ts f (xs++[ac]) p2:=rfl
  rw[eR2]at hR;refine wantE (w:=[59]) E hqz.2 rz ?_ ?_ (fun hW hy fy ry hpy=>?_) (fun hW hy fy=>?_)
  ·rfl
  ·rfl
  rotate_left
  ·unfold wantD at hR;rw[if_neg (by rw[hW];decide)]at hR;rw[←hR];exact⟨Io.fin (F4.trans (FFz.trans (Io.i fy) fun k e=>.inl e) fun k e=>e.elim (fun e=>.inl (.inl e)) fun e=>.inl (.inr (by have:=F4.1;omega))),rfl⟩
  have hR':actsD ts f (xs++[ac]) (qz+1)=R:=by rw[←hR];unfold wantD;rw[if_pos hW];rfl
  have FFy:=FFz.trans (Io.i (n0:=h4.length) fy) fun k e=>.inl e
  have kay:=fy.at kaz (fun e=>by have e:h4.length=i:=e;omega);have ely:=elz.up (S':=Old (h4.length+1)) fy (fun k e _=>by have e:k=i:=e;show k<h4.length+1;omega) (fun k e _=>e);have Gy:GLm h4.length h.length 135 5 hy N xs.length (xs.flatMap Ac.cells):=G4.frm FFy (fun k e hk=>e.elim (fun e=>⟨by omega,fun hn=>by have:=(G4.lt hn).1;omega⟩) fun e=>by omega);obtain⟨honeA,hflatA⟩:=oA;obtain⟨honeT,hflatT⟩:=oT;have hel:RdL (kT 135) (fun k=>k<h4.length) hy ac.cells [intC ac.kind,T,strC ac.name,strC ac.var,A]:=ely.weak fun k e _=>Nat.lt_succ_of_lt e
  have hxe:(xs++[ac]).length=xs.length+1:=by simp
  have hxf:(xs++[ac]).flatMap Ac.cells=xs.flatMap Ac.cells++ac.cells:=by simp
  have hal:=(Bs.1 kay).1;have F4y:Fr (Io i h.length) h hy:=F4.trans FFy fun k e=>e.elim (fun e=>.inl (.inl e)) fun e=>.inl (.inr (by omega))
  have hFy:=FFy.1;clear hR FFz rz kaz
  rcases Gy with⟨rfl,e0,e1⟩|⟨j,ver,cs,rfl,hnn,hj0,hj,hl,hrd⟩
  ·simp only[tyD,kay,intC,strC,honeA,honeT,at_len,Bo,Bc,Bi,evE,Nat.reduceAdd,Nat.reduceLT,Nat.reduceLeDiff,Nat.reduceEqDiff,reduceCtorEq,List.reduceReplicate];have GP:=(GLm.nil (m:=h4.length) (n0:=h.length) (t:=135) (sz:=5) (h:=hy)).push (h':=hy++[⟨0,135,[intC ac.kind,T,strC ac.name,strC ac.var,A]⟩,⟨0,135,[intC ac.kind,T,strC ac.name,strC ac.var,A]⟩]) (j':=hy.length+1) (ver':=0) (xs:=[]) (es:=[intC ac.kind,T,strC ac.name,strC ac.var,A]) (ecs:=ac.cells) (fun j ver e=>by cases e) (fun _=>⟨by omega,rfl⟩) (by omega) (by omega) (Fr.app _ _) (at_len1 _ _ _ _) rfl hel;exact loopCE.intro (qz+1,.own (hy.length+1) 0 1,_) ⟨xs++[ac],f,hpy,by rw[hxe];show xs.length+1≤qz+1;omega,ry.app _,by rw[hxe,hxf,e0,e1];exact GP,F4y.trans (Fr.app (S:=NoB) _ _) fun k e=>e.elim,hR',by show ts.length<f+(qz+1);omega⟩ ⟨rfl,rfl,⟨rfl,rfl,trivial⟩,rfl⟩ (by show ts.length+1-(qz+1)<ts.length+1-p;omega)
  ·have hjl:=(Bs.1 hj).1;have hl':cs.length=xs.length * 5:=hl;have q1:∀ l,(hy++l)[j]?=some ⟨ver,135,cs⟩:=fun l=>(Ba hjl).trans hj
   have s8:∀ l c,(hy++l).set j c=hy.set j c++l:=fun l c=>Bg _ _ hjl
   have q4:List.take (xs.length * 5) cs=cs:=Bt (by omega);have q6:xs.length * 5≤cs.length:=by omega
   simp only[tyD,kay,intC,strC,honeA,honeT,at_len,q1,s8,q4,q6,evE,Nat.reduceAdd,Nat.reduceLT,Nat.reduceLeDiff,Nat.reduceEqDiff,reduceCtorEq,List.reduceReplicate];have GP:=GLm.push (m:=h4.length) (h:=hy) (N:=.own j ver xs.length) (.inr ⟨j,ver,cs,rfl,hnn,hj0,hj,hl,hrd⟩) (h':=hy.set j ⟨ver+1,135,cs++[intC ac.kind,T,strC ac.name,strC ac.var,A]⟩++[⟨0,135,[intC ac.kind,T,strC ac.name,strC ac.var,A]⟩]) (j':=j) (ver':=ver+1) (xs:=cs) (es:=[intC ac.kind,T,strC ac.name,strC ac.var,A]) (ecs:=ac.cells) (fun j2 ver2 e=>by cases e;exact⟨rfl,hj⟩) (fun e=>by cases e) (by omega) (by omega) ((Fr.set (S:=fun k=>k<h.length∨nbk (.own j ver xs.length) k) _ (.inr rfl)).trans (Fr.app (S:=NoB) _ _) fun k e=>e.elim) ((Ba (by rw[Bl];exact hjl)).trans (Be hjl)) rfl hel;refine⟨by omega,loopCE.intro (qz+1,.own j (ver+1) (xs.length+1),_) ⟨xs++[ac],f,hpy,by rw[hxe];show xs.length+1≤qz+1;omega,?_,by rw[hxe,hxf];exact GP,F4y.trans ((Fr.set (S:=Io i h.length) _ (.inr hj0)).trans (Fr.app (S:=NoB) _ _) fun k e=>e.elim) fun k e=>.inl e,hR',by show ts.length<f+(qz+1);omega⟩ ⟨rfl,rfl,⟨rfl,rfl,trivial⟩,rfl⟩ (by show ts.length+1-(qz+1)<ts.length+1-p;omega)⟩;exact (Ba (by rw[Bl];have:=ry.lt;omega)).trans ((Bn (by omega)).trans ry)
 simp only[evE,Nat.reduceLT,Nat.reduceEqDiff,reduceCtorEq];refine CallE.intro c127 _ (dfail_ev E r9 80) (fun r h2 hh=>by cases hh.1) (fun v h2 hh=>?_);obtain⟨e,rfl⟩:=hh;cases e;have:actD ts p=.bad p 80:=by unfold actD;rw[if_neg (by rw[hS];decide)];rw[if_neg (by rw[hS2];decide)];rw[if_neg (by rw[hS3];decide)];rw[if_neg (by rw[hS4];decide)]
 rw[this]at hR;rw[←hR];exact⟨Io.fin (F4.trans (FF8.trans (Io.i f9) fun k e=>.inl e) fun k e=>e.elim (fun e=>.inl (.inl e)) fun e=>.inl (.inr (by have:=F4.1;omega))),rfl⟩
end Go.Proofs.YtlobiioioicmhaaGreatDoor.O
namespace Go.Proofs.YtlobiioioicmhaaGreatDoor
open _root_.List renaming getElem?_eq_some_iff→Bs,getElem?_append_left→Ba,getElem?_set_self→Be,getElem?_set_ne→Bn,length_set→Bl,length_append→Bp,append_assoc→Bo,cons_append→Bc,nil_append→Bi,set_append_left→Bg,take_of_length_le→Bt,mem_cons→BI
open _root_.Nat renaming le_refl→BL,le_trans→BM,lt_of_lt_of_le→BO
open Go.Proofs.Tryz renaming prog→Tp
open Go Go.Ev
set_option maxRecDepth 20000
variable {γ:List (Nat×AV)} {ts:List Tk} {L:AV}
theorem c72:bodyT Tp 72:=⟨_,Tryz.func72,by kernel_rfl,by kernel_rfl⟩
theorem DrawE.via{P:Program}{E:AV→St→Prop}{ops:Array Oper}{Q:Post}{s:St}(F:St→Prop)(h:∀ K:Post,(∀ s',F s'→K .normal s')→DrawE P E ops K s)(h2:∀ s',F s'→Q .normal s'):DrawE P E ops Q s:=h Q h2
def chS(γ:List (Nat×AV))(i r b:Nat)(y:Nat×List ABlk):St:=⟨⟨36,[(0,.ptr i 0 0),(2,.ptr r 0 0),(3,.ptr b 0 0)],γ⟩,y.2⟩
end Go.Proofs.YtlobiioioicmhaaGreatDoor
