/- Contracts of the functions that the law reaches. -/
import Derived.Test.YtlobiioioicmhaaGreatDoorQ7
set_option linter.all false
namespace Go.Proofs.YtlobiioioicmhaaGreatDoor
open Go Go.Ev
set_option maxRecDepth 20000
variable {γ:List (Nat×AV)} {ts:List Tk} {L:AV}
def ResS(S:Nat→Prop){α:Type}(ts:List Tk)(n:Nat)(L:AV)(i:Nat)(h:List ABlk)(A:α→AV→List ABlk→Prop)(r:DR α)(o:Out)(h':List ABlk):Prop:=
 Fr S h h'∧match r with
 |.ok x q=>∃ a,o=.ret a∧RD h' i L q n∧A x a h'
 |.bad q e=>o=.pan (stopA (plO ts n q) e)
theorem ResS.elim{S:Nat→Prop}{α:Type}{n i:Nat}{h:List ABlk}{A:α→AV→List ABlk→Prop}{r:DR α}{K:AV→List ABlk→Prop}{E:AV→List ABlk→Prop}
  (hok:∀ x q a h1,r=.ok x q→Fr S h h1→RD h1 i L q n→A x a h1→K a h1)
  (hbad:∀ q e h1,r=.bad q e→Fr S h h1→E (stopA (plO ts n q) e) h1):(∀ a h1,ResS S ts n L i h A r (.ret a) h1→K a h1)∧(∀ v h1,ResS S ts n L i h A r (.pan v) h1→E v h1):=by
 constructor
 ·intro a h1 hh
  cases r with
  |ok x q=>
   obtain⟨f,a',e,r1,hA⟩:=hh
   cases e
   exact hok x q _ h1 rfl f r1 hA
  |bad q e=>obtain⟨_,e⟩:=hh;cases e
 ·intro v h1 hh
  cases r with
  |ok x q=>obtain⟨_,a',e,_⟩:=hh;cases e
  |bad q e=>
   obtain⟨f,e⟩:=hh
   cases e
   exact hbad q _ h1 rfl f
theorem callS{α:Type}{E:AV→St→Prop}{g:FuncId}{xs:List AV}{d:Option Tmp}{K:St→Prop}{s:St}{n i:Nat}{S:Nat→Prop}{A:α→AV→List ABlk→Prop}{r:DR α}(c:bodyT Tryz.prog g)
  (he:EvM Tryz.prog s.s.g g xs s.h (ResS S ts n L i s.h A r)) (hok:∀ x q a h1,r=.ok x q→Fr S s.h h1→RD h1 i L q n→A x a h1→K (pt ⟨s.s,h1⟩ d a))
  (hbad:∀ q e h1,r=.bad q e→Fr S s.h h1→E (stopA (plO ts n q) e) ⟨s.s,h1⟩):CallM Tryz.prog E g xs d K s:=by
 obtain⟨k1,k2⟩:=ResS.elim (ts:=ts) (L:=L) (K:=fun a h1=>K (pt ⟨s.s,h1⟩ d a)) (E:=fun v h1=>E v ⟨s.s,h1⟩) hok hbad
 exact CallM.intro c _ he k1 k2
theorem callSE{α:Type}{E:AV→St→Prop}{g:FuncId}{xs:List AV}{d:Option Tmp}{K:St→Prop}{s:St}{n i:Nat}{S:Nat→Prop}{A:α→AV→List ABlk→Prop}{r:DR α}(c:bodyT Tryz.prog g)
  (he:EvM Tryz.prog s.s.g g xs s.h (ResS S ts n L i s.h A r)) (hok:∀ x q a h1,r=.ok x q→Fr S s.h h1→RD h1 i L q n→A x a h1→K (pt ⟨s.s,h1⟩ d a))
  (hbad:∀ q e h1,r=.bad q e→Fr S s.h h1→E (stopA (plO ts n q) e) ⟨s.s,h1⟩):CallE Tryz.prog E g xs d K s:=.inr (callS c he hok hbad)
def IN(i b n0:Nat)(k:Nat):Prop:=k=i∨k=b∨n0≤k
theorem IN.i{i b n0:Nat}{h h':List ABlk}(f:Fr (IsI i) h h'):Fr (IN i b n0) h h':=f.mono fun k e=>.inl e
theorem c200:bodyT Tryz.prog 200:=⟨_,Tryz.func200,by kernel_rfl,by kernel_rfl⟩
def lsS(γ:List (Nat×AV))(i:Nat)(C:AV)(y:Nat×List ABlk):St:=⟨⟨17,[(0,.ptr i 0 0),(1,C)],γ⟩,y.2⟩
def LsA{α:Type}(Φ:List ABlk→List α→Prop)(x:List α)(a:AV)(h:List ABlk):Prop:=a=.tup []∧Φ h x
set_option maxHeartbeats 1000000 in
theorem dlisted_ev{α:Type}(E:EnvD γ L ts){I:Nat→DR α}(hI:∀ p,p≤ts.length→(I p).adv ts p 1){i b n n0:Nat}{Φ:List ABlk→List α→Prop}{g:FuncId}{fs cs:List AV}(c:bodyT Tryz.prog g)
  (hΦ:∀ h h1 xs,Φ h xs→Fr (IsI i) h h1→Φ h1 xs)
  (hg:∀ h p xs,p≤ts.length→xs.length≤p→RD h i L p n→Φ h xs→EvM Tryz.prog γ g (fs++cs) h (ResS (IN i b n0) ts n L i h (fun x a h'=>a=.tup []∧Φ h' (xs++[x])) (I p)))
  {h:List ABlk} {p:Nat} (hp:p≤ts.length) (hr:RD h i L p n) (h0:Φ h []) :
  EvM Tryz.prog γ 200 [.ptr i 0 0,.clo g fs cs] h (ResS (IN i b n0) ts n L i h (LsA Φ) (listD ts I p)):=by
 refine EvM.of Tryz.func200 rfl ?_
 simp only[Tryz.f200,evE,Nat.reduceAdd,Nat.reduceSub,Nat.reduceLT,Nat.reduceEqDiff,reduceCtorEq]
 refine callD c128 (dwant_ev E hp hr [40]) (fun x p1 a h1 e f1 r1 hA=>?_) (fun q e' h1 e f1=>?_)
 rotate_left
 ·have ed:listD ts I p=.bad q e':=by unfold listD;rw[e];rfl
  rw[ed]
  exact⟨IN.i f1,rfl⟩
 have adv1:=want_adv hp [40]
 rw[e]at adv1
 obtain⟨a1,a2⟩:=adv1
 have ed:listD ts I p=if isB ts p1 [41]=true then .ok [] (p1+1)else (I p1).bind fun x q=>moreD ts I (ts.length+1) [x] q:=by unfold listD;rw[e];rfl
 rw[ed]
 subst hA
 simp only[evE,Nat.reduceLT,Nat.reduceEqDiff,reduceCtorEq]
 refine CallE.intro c131 _ (dtake_ev E a2 r1 [41]) (fun r h2 hh=>?_) (fun v h2 hh=>by cases hh.1)
 obtain⟨e2,f2,r2⟩:=hh
 cases e2
 have f02:Fr (IsI i) h h2:=f1.trans f2 fun k e=>.inl e
 cases hB:isB ts p1 [41]with
 |true=>
  rw[hB]at r2
  rw[if_pos rfl]
  simp only[evE,Nat.reduceLT,Nat.reduceEqDiff,reduceCtorEq]
  exact⟨IN.i f02,_,rfl,r2,rfl,hΦ _ _ _ h0 f02⟩
 |false=>
  rw[hB]at r2
  rw[if_neg (by decide)]
  simp only[evE,Nat.reduceLT,Nat.reduceEqDiff,reduceCtorEq]
  have r2':RD h2 i L p1 n:=by rw[if_neg (by decide)]at r2;exact r2
  refine callS c (hg h2 p1 [] a2 (Nat.zero_le _) r2' (hΦ _ _ _ h0 f02)) (fun x q a h3 e3 f3 r3 hA=>?_) (fun q e' h3 e3 f3=>?_)
  rotate_left
  ·rw[e3]
   exact⟨(IN.i (b:=b) (n0:=n0) f02).trans f3 fun k e=>.inl e,rfl⟩
  obtain⟨rfl,hΦ3⟩:=hA
  have adv3:=hI p1 a2
  rw[e3]at adv3⊢
  obtain⟨b1,b2⟩:=adv3
  have eD:(DR.ok x q).bind (fun x q=>moreD ts I (ts.length+1) [x] q)=moreD ts I (ts.length+1) [x] q:=rfl
  rw[eD]
  generalize hR:moreD ts I (ts.length+1) [x] q=R
  simp only[evE,Nat.reduceLT]
  refine LoopE.intro (lsS γ i (.clo g fs cs)) (fun y=>∃ xs f,y.1≤ts.length∧xs.length≤y.1∧RD y.2 i L y.1 n∧Φ y.2 xs∧Fr (IN i b n0) h y.2∧moreD ts I f xs y.1=R∧ts.length<f+y.1) (fun y=>ts.length+1-y.1) (q,h3) ⟨rfl,rfl,⟨rfl,rfl,trivial⟩,rfl⟩
   ⟨[x],ts.length+1,b2,by show 1≤q;omega,r3,hΦ3,(IN.i (b:=b) (n0:=n0) f02).trans f3 fun k e=>.inl e,hR,by show ts.length<ts.length+1+q;omega⟩ (fun y hy=>?_)
  clear hR r3 hΦ3 f3 e3 b1 b2 r2 r2' f02 f2 f1 r1 hB
  obtain⟨p,h4⟩:=y
  obtain⟨xs,f,hp4,hx4,r4,hΦ4,f4,hR,hf⟩:=hy
  simp only at hp4 hx4 r4 hΦ4 f4 hR hf
  obtain⟨f,rfl⟩:∃ g,f=g+1:=⟨f-1,by omega⟩
  rw[moreD]at hR
  simp only[lsS,evE,Nat.reduceLT,Nat.reduceEqDiff,reduceCtorEq]
  refine CallE.intro c131 _ (dtake_ev E hp4 r4 [41]) (fun r h5 hh=>?_) (fun v h5 hh=>by cases hh.1)
  obtain⟨e5,f5,r5⟩:=hh
  cases e5
  have f45:=f4.trans (IN.i (b:=b) (n0:=n0) f5) fun k e=>.inl e
  cases hB:isB ts p [41]with
  |true=>
   rw[hB]at r5 hR
   rw[if_pos rfl]at hR
   rw[←hR]
   simp only[evE,Bool.not_true,Nat.reduceLT,Nat.reduceEqDiff,reduceCtorEq]
   exact⟨f45,_,rfl,r5,rfl,hΦ _ _ _ hΦ4 f5⟩
  |false=>
   have r5':RD h5 i L p n:=by rw[hB,if_neg (by decide)]at r5;exact r5
   rw[hB,if_neg (by decide)]at hR
   simp only[evE,Bool.not_false,Nat.reduceLT,Nat.reduceEqDiff,reduceCtorEq]
   refine callD c128 (dwant_ev E hp4 r5' [44]) (fun x p6 a h6 e6 f6 r6 hA=>?_) (fun q e' h6 e6 f6=>?_)
   rotate_left
   ·unfold wantD at e6
    split at e6
    ·cases e6
    ·rename_i hB2
     cases e6
     rw[if_neg hB2]at hR
     rw[←hR]
     exact⟨f45.trans (IN.i f6) fun k e=>.inl e,rfl⟩
   unfold wantD at e6
   split at e6
   rotate_left
   ·cases e6
   rename_i hB2
   cases e6
   subst hA
   rw[if_pos hB2]at hR
   have hlt:=isB_lt hB2
   have f06:=f45.trans (IN.i (b:=b) (n0:=n0) f6) fun k e=>.inl e
   simp only[evE,Nat.reduceLT,Nat.reduceEqDiff,reduceCtorEq]
   refine callS c (hg h6 (p+1) xs hlt (by omega) r6 (hΦ _ _ _ (hΦ _ _ _ hΦ4 f5) f6)) (fun x q a h7 e7 f7 r7 hA=>?_) (fun q e' h7 e7 f7=>?_)
   rotate_left
   ·rw[e7]at hR
    rw[←hR]
    exact⟨f06.trans f7 fun k e=>.inl e,rfl⟩
   obtain⟨rfl,hΦ7⟩:=hA
   have adv7:=hI (p+1) hlt
   rw[e7]at hR adv7
   obtain⟨b1,b2⟩:=adv7
   simp only[evE,Nat.reduceLT]
   exact loopCE.intro (q,h7) ⟨xs++[x],f,b2,by rw[List.length_append];show xs.length+1≤q;omega,r7,hΦ7,f06.trans f7 fun k e=>.inl e,hR,by show ts.length<f+q;omega⟩ ⟨rfl,rfl,⟨rfl,rfl,trivial⟩,rfl⟩ (by show ts.length+1-q<ts.length+1-p;omega)
theorem ResD.ret{α:Type}{n i:Nat}{h h1:List ABlk}{A:α→AV→List ABlk→Prop}{R:DR α}{a:AV}(hh:ResD ts n L i h A R (.ret a) h1):∃ x q,R=.ok x q∧Fr (IsI i) h h1∧RD h1 i L q n∧A x a h1:=by
 cases R with
 |ok x q=>
  obtain⟨f,a',e,r1,hA⟩:=hh
  cases e
  exact⟨x,q,rfl,f,r1,hA⟩
 |bad q e=>obtain⟨_,e⟩:=hh;cases e
theorem ResD.pan{α:Type}{n i:Nat}{h h1:List ABlk}{A:α→AV→List ABlk→Prop}{R:DR α}{v:AV}(hh:ResD ts n L i h A R (.pan v) h1):∃ q e,R=.bad q e∧Fr (IsI i) h h1∧v=stopA (plO ts n q) e:=by
 cases R with
 |ok x q=>obtain⟨_,a',e,_⟩:=hh;cases e
 |bad q e=>
  obtain⟨f,e'⟩:=hh
  cases e'
  exact⟨q,e,rfl,f,rfl⟩
def BoxN(N:AV)(i n0 b rb:Nat)(tb:TypeId)(pre:List AV)(tE:TypeId)(sz:Nat)(k:Nat)(ys:List AV)(h:List ABlk):Prop:=
 i<n0∧b<n0∧rb<n0∧rb≠b∧i≠b∧i≠rb∧n0≤h.length∧h[rb]?=some ⟨0,127,[.ptr i 0 0]⟩∧h[b]?=some ⟨0,tb,pre++[N]⟩∧GL n0 tE sz h N k ys
theorem BoxN.fr{N:AV}{i n0 b rb:Nat}{tb:TypeId}{pre:List AV}{tE:TypeId}{sz k:Nat}{ys:List AV}{h h1:List ABlk}(a:BoxN N i n0 b rb tb pre tE sz k ys h)(f:Fr (IsI i) h h1):BoxN N i n0 b rb tb pre tE sz k ys h1:=by
 obtain⟨a1,a2,a3,a4,a5,a6,a7,a8,a9,a10⟩:=a
 exact⟨a1,a2,a3,a4,a5,a6,Nat.le_trans a7 f.1,f.at a8 (fun e=>a6 e.symm),f.at a9 (fun e=>a5 e.symm),a10.fr0 f (fun k e=>by have e:k=i:=e;omega)⟩
theorem BoxN.push{N:AV}{i n0 b rb:Nat}{tb:TypeId}{pre:List AV}{tE:TypeId}{sz k:Nat}{ys es ecs cs:List AV}{h h':List ABlk}{j' ver':Nat}(a:BoxN N i n0 b rb tb pre tE sz k ys h)
  (hx:∀ j ver,N=.own j ver k→j'=j∧h[j]?=some ⟨ver,tE,cs⟩) (hx0:N=.v (.slice none 0 0)→h.length≤j'∧cs=[])
  (f:Fr (fun k=>k=b∨nbk N k) h h') (hj:h'[j']?=some ⟨ver',tE,cs++es⟩) (hb:h'[b]?=some ⟨0,tb,pre++[.own j' ver' (k+1)]⟩) (hl:es.length=sz) (he:RdL (fun k=>k<n0∨nbk N k) h ecs es) :
  BoxN (.own j' ver' (k+1)) i n0 b rb tb pre tE sz (k+1) (ys++ecs) h'∧Fr (IN i b n0) h h':=by
 obtain⟨a1,a2,a3,a4,a5,a6,a7,a8,a9,a10⟩:=a
 have hN:∀ k,nbk N k→n0≤k:=fun k hk=>(a10.lt hk).1
 exact⟨⟨a1,a2,a3,a4,a5,a6,Nat.le_trans a7 f.1,f.at a8 (fun e=>e.elim a4 fun e=>by have:=hN _ e;omega),hb,a10.push hx hx0 a7 (f.mono fun k e=>e.elim (fun e=>.inl (by omega)) .inr) hj hl he⟩,
  f.mono fun k e=>e.elim (fun e=>.inr (.inl e)) fun e=>.inr (.inr (hN _ e))⟩
def BoxL(i n0 b rb:Nat)(tb:TypeId)(pre:List AV)(tE:TypeId)(sz:Nat){α:Type}(enc:α→List AV)(h:List ABlk)(xs:List α):Prop:=∃ N,BoxN N i n0 b rb tb pre tE sz xs.length (xs.flatMap enc) h
theorem BoxL.fr{i n0 b rb:Nat}{tb:TypeId}{pre:List AV}{tE:TypeId}{sz:Nat}{α:Type}{enc:α→List AV}{h h1:List ABlk}{xs:List α}(a:BoxL i n0 b rb tb pre tE sz enc h xs)(f:Fr (IsI i) h h1):BoxL i n0 b rb tb pre tE sz enc h1 xs:=by
 obtain⟨N,a⟩:=a
 exact⟨N,a.fr f⟩
theorem rR_bs{P:Program}{E:AV→St→Prop}{K:St→Prop}{s:St}{d:Option Tmp}{t:TypeId}{pos:String}{af:Array Edge}{g:Option (Nat×Bool)}{ρ:Rho}(u n:Nat)(ps:Array (Nat×Operand)):kopR P E ρ ⟨d,.buildSlice u n ps,t,pos,af,g⟩ K s=kop P ⟨d,.buildSlice u n ps,t,pos,af,g⟩ K s:=rfl
theorem c249:bodyT Tryz.prog 249:=⟨_,Tryz.func249,by kernel_rfl,by kernel_rfl⟩
def encX(x:List Nd):List AV:=[nodesA x]
set_option maxHeartbeats 2000000 in
theorem dargs1_ev(E:EnvD γ L ts){i n n0 b rb p:Nat}{h:List ABlk}{xs:List (List Nd)}(hp:p≤ts.length)(hr:RD h i L p n)(hB:BoxL i n0 b rb 133 [] 41 1 encX h xs)(hxs:(xs.length+1) * 24≤140737488355328):
  EvM Tryz.prog γ 249 [.ptr b 0 0,.ptr rb 0 0] h (ResS (IN i b n0) ts n L i h (fun x a h'=>a=.tup []∧BoxL i n0 b rb 133 [] 41 1 encX h' (xs++[x])) (exprD ts p)):=by
 obtain⟨N,hB'⟩:=hB
 have hB2:=hB'
 obtain⟨a1,a2,a3,a4,a5,a6,a7,a8,a9,a10⟩:=hB2
 refine EvM.ofG Tryz.func249 rfl ?_
 simp only[Tryz.f249,evG,Nat.reduceAdd,Nat.reduceSub]
 refine DrawE.orders [[0,1,2,3,4,5],[1,0,2,3,4,5],[1,2,0,3,4,5],[1,2,3,0,4,5]] (fun _ _ _ h o h'=>ResD ts n L i h ExpA (exprD ts p) o h') (panE_ext _) (by kernel_rfl) (by kernel_rfl) (by kernel_rfl) (fun q hq=>?_)
 simp only[List.mem_cons,List.not_mem_nil,or_false]at hq
 rcases hq with rfl|rfl|rfl|rfl
 all_goals simp only[evR,rR_bs,seqT,List.getElem?_toArray,List.getElem?_cons_succ,List.getElem?_cons_zero,tyD,a8,a9,List.nil_append,evG,Nat.reduceLT,Nat.reduceLeDiff,Nat.reduceEqDiff,reduceCtorEq,List.reduceReplicate]
 all_goals refine⟨c132,dexpr_ev E hp hr,fun r h1 hh=>?_,fun v h1 hh=>by obtain⟨q,e,eR,f1,rfl⟩:=ResD.pan hh;rw[eR];exact⟨IN.i f1,rfl⟩⟩
 all_goals obtain⟨x,q,eR,f1,r1,rfl⟩:=ResD.ret hh
 all_goals rw[eR]
 all_goals obtain⟨b1,b2,b3,b4,b5,b6,b7,b8,b9,b10⟩:=hB'.fr f1
 all_goals have hbl:=(List.getElem?_eq_some_iff.1 b9).1
 all_goals have hrl:=r1.lt
 all_goals have one:oneA (nodesA x)=true:=by cases x<;>rfl
 all_goals have g7:∀ l,(h1++l)[b]?=some ⟨0,133,[N]⟩:=fun l=>(List.getElem?_append_left hbl).trans b9
 all_goals have s6:∀ l c,(h1++l).set b c=h1.set b c++l:=fun l c=>List.set_append_left _ _ hbl
 all_goals have he:RdL (fun k=>k<n0∨nbk N k) h1 [nodesA x] [nodesA x]:=RdL.cons (Rd.nodes x) RdL.nil
 all_goals have hxe:(xs++[x]).length=xs.length+1:=by simp
 all_goals have hxf:(xs++[x]).flatMap encX=xs.flatMap encX++[nodesA x]:=by simp[encX]
 all_goals have hB3:=hB'.fr f1
 all_goals rcases b10 with⟨rfl,e0,e1⟩|⟨j,ver,cs,rfl,hn,hj0,hj,hl,hrd⟩
 all_goals first
  |(have e0':=e0
    simp only[tyD,b9,g7,one,at_len,s6,List.nil_append,List.append_assoc,List.cons_append,evG,Nat.reduceLT,Nat.reduceLeDiff,Nat.reduceEqDiff,reduceCtorEq]
    obtain⟨k1,k2⟩:=hB3.push (h':=h1.set b ⟨0,133,[.own (h1.length+1) 0 1]⟩++[⟨0,41,[nodesA x]⟩,⟨0,41,[nodesA x]⟩]) (j':=h1.length+1) (ver':=0) (cs:=[]) (es:=[nodesA x]) (ecs:=[nodesA x]) (fun j ver e=>by cases e) (fun _=>⟨by omega,rfl⟩) ((Fr.set _ (.inl rfl)).trans (Fr.app (S:=NoB) _ _) fun k e=>e.elim) (at_lenS1 _ _ _ _ _ _) (by rw[e0];exact (List.getElem?_append_left (by rw[List.length_set];exact hbl)).trans (List.getElem?_set_self hbl)) rfl he
    rw[e0]at k1
    refine⟨(IN.i f1).trans k2 fun k e=>.inl e,_,rfl,?_,rfl,.own (h1.length+1) 0 1,?_⟩
    ·exact (List.getElem?_append_left (by rw[List.length_set];exact hrl)).trans ((List.getElem?_set_ne a5.symm).trans r1)
    ·rw[hxe,hxf,e0];exact k1)
  |(have hjl:=(List.getElem?_eq_some_iff.1 hj).1
    have hjb:j≠b:=by omega
    have hji:j≠i:=by omega
    have q1:∀ l,(h1++l)[j]?=some ⟨ver,41,cs⟩:=fun l=>(List.getElem?_append_left hjl).trans hj
    have s8:∀ l c,(h1++l).set j c=h1.set j c++l:=fun l c=>List.set_append_left _ _ hjl
    have g9:∀ l c,(h1.set j c++l)[b]?=some ⟨0,133,[.own j ver xs.length]⟩:=fun l c=>(List.getElem?_append_left (by rw[List.length_set];exact hbl)).trans ((List.getElem?_set_ne hjb).trans b9)
    have s9:∀ l c d,(h1.set j c++l).set b d=(h1.set j c).set b d++l:=fun l c d=>List.set_append_left _ _ (by rw[List.length_set];exact hbl)
    have hl':cs.length=xs.length:=by omega
    have q4:List.take xs.length cs=cs:=List.take_of_length_le (by omega)
    have q6:xs.length≤cs.length:=by omega
    simp only[tyD,b9,g7,one,at_len,List.nil_append,q1,s8,g9,s9,q4,q6,evG,Nat.reduceLT,Nat.reduceLeDiff,Nat.reduceEqDiff,reduceCtorEq]
    obtain⟨k1,k2⟩:=hB3.push (h':=(h1.set j ⟨ver+1,41,cs++[nodesA x]⟩).set b ⟨0,133,[.own j (ver+1) (xs.length+1)]⟩++[⟨0,41,[nodesA x]⟩]) (j':=j) (ver':=ver+1) (cs:=cs) (es:=[nodesA x]) (ecs:=[nodesA x]) (fun j2 ver2 e=>by cases e;exact⟨rfl,hj⟩) (fun e=>by cases e) (((Fr.set (S:=fun k=>k=b∨nbk (.own j ver xs.length) k) _ (.inr rfl)).trans (Fr.set (S:=fun k=>k=b∨nbk (.own j ver xs.length) k) _ (.inl rfl)) fun k e=>.inl e).trans (Fr.app (S:=NoB) _ _) fun k e=>e.elim) ((List.getElem?_append_left (by rw[List.length_set,List.length_set];exact hjl)).trans ((List.getElem?_set_ne hjb.symm).trans (List.getElem?_set_self hjl))) ((List.getElem?_append_left (by rw[List.length_set,List.length_set];exact hbl)).trans (List.getElem?_set_self (by rw[List.length_set];exact hbl))) rfl he
    refine⟨hxs,(IN.i f1).trans k2 fun k e=>.inl e,_,rfl,?_,rfl,.own j (ver+1) (xs.length+1),?_⟩
    ·exact (List.getElem?_append_left (by rw[List.length_set,List.length_set];exact hrl)).trans ((List.getElem?_set_ne a5.symm).trans ((List.getElem?_set_ne hji).trans r1))
    ·rw[hxe,hxf];exact k1)
def RdA{α:Type}(f:α→AV)(m:Nat)(x:α)(a:AV)(h':List ABlk):Prop:=Rd (Old m) h' (f x) a
theorem c203:bodyT Tryz.prog 203:=⟨_,Tryz.func203,by kernel_rfl,by kernel_rfl⟩
theorem expsA_eq(xs:List (List Nd)):slA xs.length (xs.flatMap encX)=expsA xs:=by
 have:xs.flatMap encX=xs.map nodesA:=by
  induction xs with
  |nil=>rfl
  |cons x xs ih=>rw[List.flatMap_cons,ih];rfl
 rw[this];rfl
theorem Fr.drop{i n0 b:Nat}{h h':List ABlk}{l:List ABlk}(f:Fr (IN i b n0) (h++l) h')(hb:h.length≤b)(hn:h.length≤n0):Fr (IsI i) h h':=
 (Fr.app (S:=IsI i) h l).trans f fun k e=>by
  rcases e with e|e|e
  ·exact .inl e
  ·exact .inr (by omega)
  ·exact .inr (by omega)
set_option maxHeartbeats 1000000 in
theorem dargs_ev(E:EnvD γ L ts){h:List ABlk}{i p n:Nat}(hp:p≤ts.length)(hr:RD h i L p n):
  EvM Tryz.prog γ 203 [.ptr i 0 0] h (ResD ts n L i h (RdA expsA h.length) (argsD ts p)):=by
 have hil:=hr.lt
 have hn:=E.n
 refine EvM.of Tryz.func203 rfl ?_
 simp only[Tryz.f203,tyD,at_len,List.append_assoc,List.cons_append,List.nil_append,evE,Nat.reduceAdd,Nat.reduceSub,Nat.reduceLT,Nat.reduceEqDiff,reduceCtorEq]
 have hlist:=dlisted_ev (b:=h.length+1) (n0:=h.length+2) E (I:=exprD ts) (fun p hp=>expr_adv hp) (Φ:=BoxL i (h.length+2) (h.length+1) h.length 133 [] 41 1 encX) (fs:=[]) (cs:=[.ptr (h.length+1) 0 0,.ptr h.length 0 0]) c249
  (fun h h1 xs a f=>a.fr f) (fun h p xs hp hx hr hB=>dargs1_ev E hp hr hB (by omega)) hp (hr.app [⟨0,127,[.ptr i 0 0]⟩,⟨0,133,[.v (.slice none 0 0)]⟩]) ⟨.v (.slice none 0 0),by omega,by omega,by omega,by omega,by omega,by omega,by simp,at_len _ _ _,at_len1 _ _ _ _,GL.nil⟩
 unfold argsD
 refine callSE c200 hlist (fun xs q a h1 e f1 r1 hA=>?_) (fun q e' h1 e f1=>?_)
 rotate_left
 ·rw[e]
  exact⟨f1.drop (by omega) (by omega),rfl⟩
 rw[e]
 obtain⟨rfl,N,b1,b2,b3,b4,b5,b6,b7,b8,b9,b10⟩:=hA
 have hbl:=(List.getElem?_eq_some_iff.1 b9).1
 have s5:∀ c,(h1.set (h.length+1) c)[h.length+1]?=some c:=fun c=>List.getElem?_set_self hbl
 have rd:∀ c,Rd (Old h.length) (h1.set (h.length+1) c) (expsA xs) N:=fun c=>by
  have:=b10.rd.up (S':=Old h.length) (Fr.set (S:=IsI (h.length+1)) c rfl) (fun k e _=>by have e:k=h.length+1:=e;subst e;exact b2) (fun k e _=>by have e:k<h.length:=e;show k<h.length+2;omega)
  rwa [expsA_eq]at this
 have f2:∀ c,Fr (IN i (h.length+1) (h.length+2)) h1 (h1.set (h.length+1) c):=fun c=>Fr.set _ (.inr (.inl rfl))
 have hN:flat N=some [N]:=by rcases b10 with⟨rfl,_⟩|⟨j,ver,cs,rfl,_⟩<;>rfl
 have oN:oneA N=true:=by rcases b10 with⟨rfl,_⟩|⟨j,ver,cs,rfl,_⟩<;>rfl
 simp only[tyD,b9,s5,hN,setMany,List.nil_append,evE,Nat.reduceLT,Nat.reduceLeDiff,Nat.reduceEqDiff,reduceCtorEq]
 exact⟨(f1.trans (f2 _) fun k e=>.inl e).drop (by omega) (by omega),N,rfl,(List.getElem?_set_ne b5.symm).trans r1,rd _⟩
theorem c201:bodyT Tryz.prog 201:=⟨_,Tryz.func201,by kernel_rfl,by kernel_rfl⟩
theorem c204:bodyT Tryz.prog 204:=⟨_,Tryz.func204,by kernel_rfl,by kernel_rfl⟩
def encV(x:List UInt8):List AV:=[strC x]
set_option maxHeartbeats 4000000 in
theorem dpart1_ev(E:EnvD γ L ts){i n n0 b rb p:Nat}{h:List ABlk}{nm:List UInt8}{xs:List (List UInt8)}(hp:p≤ts.length)(hr:RD h i L p n)(hB:BoxL i n0 b rb 130 [strC nm] 9 1 encV h xs)(hxs:(xs.length+1) * 16≤140737488355328):
  EvM Tryz.prog γ 201 [.ptr rb 0 0,.ptr b 0 0] h (ResS (IN i b n0) ts n L i h (fun x a h'=>a=.tup []∧BoxL i n0 b rb 130 [strC nm] 9 1 encV h' (xs++[x])) (varD ts p)):=by
 obtain⟨N,hB'⟩:=hB
 have hB2:=hB'
 obtain⟨a1,a2,a3,a4,a5,a6,a7,a8,a9,a10⟩:=hB2
 have hTake:=dtake_ev E hp hr [95]
 refine EvM.ofG Tryz.func201 rfl ?_
 simp only[Tryz.f201,tyD,a8,evG,Nat.reduceAdd,Nat.reduceSub,Nat.reduceLT,Nat.reduceEqDiff,reduceCtorEq]
 refine CallE.intro c131 _ hTake (fun r h0 hh=>?_) (fun v h1 hh=>by cases hh.1)
 obtain⟨e,f0,r0⟩:=hh
 cases e
 unfold varD
 cases hT:isB ts p [95]with
 |true=>
  obtain⟨h1,e1⟩:∃ h1,h1=h0:=⟨_,rfl⟩
  subst e1
  have f1:=f0
  have r1:=r0
  rw[hT]at r1
  rw[if_pos rfl]at r1⊢
  obtain⟨b1,b2,b3,b4,b5,b6,b7,b8,b9,b10⟩:=hB'.fr f1
  obtain⟨x,hx⟩:∃ x:List UInt8,x=[95]:=⟨_,rfl⟩
  have hx2:(⟨#[95]⟩:ByteArray)=⟨x.toArray⟩:=by rw[hx]
  rw[←hx]
  all_goals have hbl:=(List.getElem?_eq_some_iff.1 b9).1
  all_goals have hrl:=r1.lt
  all_goals have g7:∀ l,(h1++l)[b]?=some ⟨0,130,[strC nm,N]⟩:=fun l=>(List.getElem?_append_left hbl).trans b9
  all_goals have s6:∀ l c,(h1++l).set b c=h1.set b c++l:=fun l c=>List.set_append_left _ _ hbl
  all_goals have he:RdL (fun k=>k<n0∨nbk N k) h1 [strC x] [strC x]:=RdL.cons (Rd.str x) RdL.nil
  all_goals have hxe:(xs++[x]).length=xs.length+1:=by simp
  all_goals have hxf:(xs++[x]).flatMap encV=xs.flatMap encV++[strC x]:=by simp[encV]
  all_goals have hB3:=hB'.fr f1
  all_goals rcases b10 with⟨rfl,e0,e1⟩|⟨j,ver,cs,rfl,hn,hj0,hj,hl,hrd⟩
  all_goals first
   |(have e0':=e0
     simp only[tyD,b9,g7,at_len,s6,List.nil_append,List.append_assoc,List.cons_append,strC,evG,Nat.reduceAdd,Nat.reduceLT,Nat.reduceLeDiff,Nat.reduceEqDiff,reduceCtorEq,List.reduceReplicate]
     obtain⟨k1,k2⟩:=hB3.push (h':=h1.set b ⟨0,130,[strC nm,.own (h1.length+1) 0 1]⟩++[⟨0,9,[strC x]⟩,⟨0,9,[strC x]⟩]) (j':=h1.length+1) (ver':=0) (cs:=[]) (es:=[strC x]) (ecs:=[strC x]) (fun j ver e=>by cases e) (fun _=>⟨by omega,rfl⟩) ((Fr.set _ (.inl rfl)).trans (Fr.app (S:=NoB) _ _) fun k e=>e.elim) (at_lenS1 _ _ _ _ _ _) (by rw[e0];exact (List.getElem?_append_left (by rw[List.length_set];exact hbl)).trans (List.getElem?_set_self hbl)) rfl he
     rw[e0]at k1
     refine⟨(IN.i f1).trans k2 fun k e=>.inl e,_,rfl,?_,rfl,.own (h1.length+1) 0 1,?_⟩
     ·exact (List.getElem?_append_left (by rw[List.length_set];exact hrl)).trans ((List.getElem?_set_ne a5.symm).trans r1)
     ·rw[hxe,hxf,e0];exact k1)
   |(have hjl:=(List.getElem?_eq_some_iff.1 hj).1
     have hjb:j≠b:=by omega
     have hji:j≠i:=by omega
     have q1:∀ l,(h1++l)[j]?=some ⟨ver,9,cs⟩:=fun l=>(List.getElem?_append_left hjl).trans hj
     have s8:∀ l c,(h1++l).set j c=h1.set j c++l:=fun l c=>List.set_append_left _ _ hjl
     have g9:∀ l c,(h1.set j c++l)[b]?=some ⟨0,130,[strC nm,.own j ver xs.length]⟩:=fun l c=>(List.getElem?_append_left (by rw[List.length_set];exact hbl)).trans ((List.getElem?_set_ne hjb).trans b9)
     have s9:∀ l c d,(h1.set j c++l).set b d=(h1.set j c).set b d++l:=fun l c d=>List.set_append_left _ _ (by rw[List.length_set];exact hbl)
     have hl':cs.length=xs.length * 1:=by omega
     have q4:List.take (xs.length * 1) cs=cs:=List.take_of_length_le (by omega)
     have q6:xs.length * 1≤cs.length:=by omega
     simp only[Nat.mul_one]at q4 q6
     simp only[tyD,b9,at_len,List.nil_append,List.cons_append,strC,q1,s8,g9,s9,q4,q6,evG,Nat.reduceAdd,Nat.reduceLT,Nat.reduceLeDiff,Nat.reduceEqDiff,reduceCtorEq,List.reduceReplicate]
     obtain⟨k1,k2⟩:=hB3.push (h':=(h1.set j ⟨ver+1,9,cs++[strC x]⟩).set b ⟨0,130,[strC nm,.own j (ver+1) (xs.length+1)]⟩++[⟨0,9,[strC x]⟩]) (j':=j) (ver':=ver+1) (cs:=cs) (es:=[strC x]) (ecs:=[strC x]) (fun j2 ver2 e=>by cases e;exact⟨rfl,hj⟩) (fun e=>by cases e) (((Fr.set (S:=fun k=>k=b∨nbk (.own j ver xs.length) k) _ (.inr rfl)).trans (Fr.set (S:=fun k=>k=b∨nbk (.own j ver xs.length) k) _ (.inl rfl)) fun k e=>.inl e).trans (Fr.app (S:=NoB) _ _) fun k e=>e.elim) ((List.getElem?_append_left (by rw[List.length_set,List.length_set];exact hjl)).trans ((List.getElem?_set_ne hjb.symm).trans (List.getElem?_set_self hjl))) ((List.getElem?_append_left (by rw[List.length_set,List.length_set];exact hbl)).trans (List.getElem?_set_self (by rw[List.length_set];exact hbl))) rfl he
     refine⟨hxs,(IN.i f1).trans k2 fun k e=>.inl e,_,rfl,?_,rfl,.own j (ver+1) (xs.length+1),?_⟩
     ·exact (List.getElem?_append_left (by rw[List.length_set,List.length_set];exact hrl)).trans ((List.getElem?_set_ne a5.symm).trans ((List.getElem?_set_ne hji).trans r1))
     ·rw[hxe,hxf];exact k1)
 |false=>
  rw[hT]at r0
  rw[if_neg (by decide)]at r0⊢
  obtain⟨d1,d2,d3,d4,d5,d6,d7,d8,d9,d10⟩:=hB'.fr f0
  simp only[evG,Nat.reduceLT,Nat.reduceEqDiff,reduceCtorEq]
  refine DrawE.orders [[0,1,2,3,4,5,6,7],[0,2,1,3,4,5,6,7],[2,0,1,3,4,5,6,7],[0,2,3,1,4,5,6,7],[2,0,3,1,4,5,6,7],[0,2,3,4,1,5,6,7],[2,0,3,4,1,5,6,7],[2,3,0,1,4,5,6,7],[2,3,0,4,1,5,6,7],[2,3,4,0,1,5,6,7]] (fun _ _ _ h o h'=>ResD ts n L i h StrA (wordD ts p) o h') (panE_ext _) (by kernel_rfl) (by kernel_rfl) (by kernel_rfl) (fun q hq=>?_)
  simp only[List.mem_cons,List.not_mem_nil,or_false]at hq
  rcases hq with rfl|rfl|rfl|rfl|rfl|rfl|rfl|rfl|rfl|rfl
  all_goals simp only[evR,rR_bs,seqT,List.getElem?_toArray,List.getElem?_cons_succ,List.getElem?_cons_zero,tyD,d8,d9,List.cons_append,List.nil_append,evG,Nat.reduceLT,Nat.reduceLeDiff,Nat.reduceEqDiff,reduceCtorEq,List.reduceReplicate]
  all_goals refine⟨c129,dword_ev E hp r0,fun r h1 hh=>?_,fun v h1 hh=>by obtain⟨q,e,eR,f1,rfl⟩:=ResD.pan hh;rw[eR];exact⟨IN.i (f0.trans f1 fun k e=>.inl e),rfl⟩⟩
  all_goals obtain⟨x,q,eR,f1',r1,rfl⟩:=ResD.ret hh
  all_goals rw[eR]
  all_goals have f1:Fr (IsI i) h h1:=f0.trans f1' fun k e=>.inl e
  all_goals obtain⟨b1,b2,b3,b4,b5,b6,b7,b8,b9,b10⟩:=hB'.fr f1
  all_goals have hbl:=(List.getElem?_eq_some_iff.1 b9).1
  all_goals have hrl:=r1.lt
  all_goals have g7:∀ l,(h1++l)[b]?=some ⟨0,130,[strC nm,N]⟩:=fun l=>(List.getElem?_append_left hbl).trans b9
  all_goals have s6:∀ l c,(h1++l).set b c=h1.set b c++l:=fun l c=>List.set_append_left _ _ hbl
  all_goals have he:RdL (fun k=>k<n0∨nbk N k) h1 [strC x] [strC x]:=RdL.cons (Rd.str x) RdL.nil
  all_goals have hxe:(xs++[x]).length=xs.length+1:=by simp
  all_goals have hxf:(xs++[x]).flatMap encV=xs.flatMap encV++[strC x]:=by simp[encV]
  all_goals have hB3:=hB'.fr f1
  all_goals rcases b10 with⟨rfl,e0,e1⟩|⟨j,ver,cs,rfl,hn,hj0,hj,hl,hrd⟩
  all_goals first
   |(have e0':=e0
     simp only[List.getElem?_cons_succ,List.getElem?_cons_zero,tyD,b9,g7,at_len,s6,List.nil_append,List.append_assoc,List.cons_append,strC,evG,Nat.reduceAdd,Nat.reduceLT,Nat.reduceLeDiff,Nat.reduceEqDiff,reduceCtorEq]
     obtain⟨k1,k2⟩:=hB3.push (h':=h1.set b ⟨0,130,[strC nm,.own (h1.length+1) 0 1]⟩++[⟨0,9,[strC x]⟩,⟨0,9,[strC x]⟩]) (j':=h1.length+1) (ver':=0) (cs:=[]) (es:=[strC x]) (ecs:=[strC x]) (fun j ver e=>by cases e) (fun _=>⟨by omega,rfl⟩) ((Fr.set _ (.inl rfl)).trans (Fr.app (S:=NoB) _ _) fun k e=>e.elim) (at_lenS1 _ _ _ _ _ _) (by rw[e0];exact (List.getElem?_append_left (by rw[List.length_set];exact hbl)).trans (List.getElem?_set_self hbl)) rfl he
     rw[e0]at k1
     refine⟨(IN.i f1).trans k2 fun k e=>.inl e,_,rfl,?_,rfl,.own (h1.length+1) 0 1,?_⟩
     ·exact (List.getElem?_append_left (by rw[List.length_set];exact hrl)).trans ((List.getElem?_set_ne a5.symm).trans r1)
     ·rw[hxe,hxf,e0];exact k1)
   |(have hjl:=(List.getElem?_eq_some_iff.1 hj).1
     have hjb:j≠b:=by omega
     have hji:j≠i:=by omega
     have q1:∀ l,(h1++l)[j]?=some ⟨ver,9,cs⟩:=fun l=>(List.getElem?_append_left hjl).trans hj
     have s8:∀ l c,(h1++l).set j c=h1.set j c++l:=fun l c=>List.set_append_left _ _ hjl
     have g9:∀ l c,(h1.set j c++l)[b]?=some ⟨0,130,[strC nm,.own j ver xs.length]⟩:=fun l c=>(List.getElem?_append_left (by rw[List.length_set];exact hbl)).trans ((List.getElem?_set_ne hjb).trans b9)
     have s9:∀ l c d,(h1.set j c++l).set b d=(h1.set j c).set b d++l:=fun l c d=>List.set_append_left _ _ (by rw[List.length_set];exact hbl)
     have hl':cs.length=xs.length * 1:=by omega
     have q4:List.take (xs.length * 1) cs=cs:=List.take_of_length_le (by omega)
     have q6:xs.length * 1≤cs.length:=by omega
     simp only[Nat.mul_one]at q4 q6
     simp only[List.getElem?_cons_succ,List.getElem?_cons_zero,tyD,b9,g7,at_len,List.nil_append,List.cons_append,strC,q1,s8,g9,s9,q4,q6,evG,Nat.reduceAdd,Nat.reduceLT,Nat.reduceLeDiff,Nat.reduceEqDiff,reduceCtorEq]
     obtain⟨k1,k2⟩:=hB3.push (h':=(h1.set j ⟨ver+1,9,cs++[strC x]⟩).set b ⟨0,130,[strC nm,.own j (ver+1) (xs.length+1)]⟩++[⟨0,9,[strC x]⟩]) (j':=j) (ver':=ver+1) (cs:=cs) (es:=[strC x]) (ecs:=[strC x]) (fun j2 ver2 e=>by cases e;exact⟨rfl,hj⟩) (fun e=>by cases e) (((Fr.set (S:=fun k=>k=b∨nbk (.own j ver xs.length) k) _ (.inr rfl)).trans (Fr.set (S:=fun k=>k=b∨nbk (.own j ver xs.length) k) _ (.inl rfl)) fun k e=>.inl e).trans (Fr.app (S:=NoB) _ _) fun k e=>e.elim) ((List.getElem?_append_left (by rw[List.length_set,List.length_set];exact hjl)).trans ((List.getElem?_set_ne hjb.symm).trans (List.getElem?_set_self hjl))) ((List.getElem?_append_left (by rw[List.length_set,List.length_set];exact hbl)).trans (List.getElem?_set_self (by rw[List.length_set];exact hbl))) rfl he
     refine⟨hxs,(IN.i f1).trans k2 fun k e=>.inl e,_,rfl,?_,rfl,.own j (ver+1) (xs.length+1),?_⟩
     ·exact (List.getElem?_append_left (by rw[List.length_set,List.length_set];exact hrl)).trans ((List.getElem?_set_ne a5.symm).trans ((List.getElem?_set_ne hji).trans r1))
     ·rw[hxe,hxf];exact k1)
theorem c130:bodyT Tryz.prog 130:=⟨_,Tryz.func130,by kernel_rfl,by kernel_rfl⟩
def Pt.av(p:Pt):AV:=.agg p.cells
theorem strsA_eq(xs:List (List UInt8)):slA xs.length (xs.flatMap encV)=strsA xs:=by
 have:xs.flatMap encV=xs.map strC:=by
  induction xs with
  |nil=>rfl
  |cons x xs ih=>rw[List.flatMap_cons,ih];rfl
 rw[this];rfl
theorem GL.one{n0:Nat}{t:TypeId}{sz:Nat}{h:List ABlk}{N:AV}{n:Nat}{ys:List AV}(a:GL n0 t sz h N n ys):oneA N=true∧flat N=some [N]:=by rcases a with⟨rfl,_⟩|⟨j,ver,cs,rfl,_⟩<;>exact⟨rfl,rfl⟩
theorem Fr.pre{S:Nat→Prop}{h h':List ABlk}{l:List ABlk}(f:Fr S (h++l) h'):Fr S h h':=(Fr.app (S:=S) h l).trans f fun k e=>.inl e
theorem GL.rdS{n0 m:Nat}{t:TypeId}{sz:Nat}{h h':List ABlk}{N:AV}{n:Nat}{ys:List AV}{S1:Nat→Prop}(a:GL n0 t sz h N n ys)(f:Fr S1 h h')(h1:∀ k,S1 k→k<h.length→k<n0)(hm:m≤n0):Rd (Old m) h' (slA n ys) N:=
 a.rd.up f h1 fun k e _=>Nat.lt_of_lt_of_le e hm
set_option maxHeartbeats 1000000 in
theorem dpart_ev(E:EnvD γ L ts){h:List ABlk}{i p n:Nat}(hp:p≤ts.length)(hr:RD h i L p n):
  EvM Tryz.prog γ 130 [.ptr i 0 0] h (ResD ts n L i h (RdA Pt.av h.length) (partD ts p)):=by
 have hil:=hr.lt
 have hn:=E.n
 refine EvM.of Tryz.func130 rfl ?_
 simp only[Tryz.f130,tyD,at_len,List.append_assoc,List.cons_append,List.nil_append,evE,Nat.reduceAdd,Nat.reduceSub,Nat.reduceLT,Nat.reduceEqDiff,reduceCtorEq]
 refine callD c129 (dword_ev E hp (hr.app _)) (fun nm p1 a h1 e f1 r1 hA=>?_) (fun q e' h1 e f1=>?_)
 rotate_left
 ·unfold partD
  rw[e]
  exact⟨f1.pre,rfl⟩
 have adv1:=word_adv hp
 rw[e]at adv1
 obtain⟨_,hp1⟩:=adv1
 have eD:partD ts p=(listD ts (varD ts) p1).bind fun l p2=>.ok ⟨nm,l⟩ p2:=by unfold partD;rw[e];rfl
 rw[eD]
 subst hA
 have k0:h1[h.length]?=some ⟨0,127,[.ptr i 0 0]⟩:=f1.at (at_len _ _ _) (fun e=>by have e:h.length=i:=e;omega)
 have k1:h1[h.length+1]?=some ⟨0,130,[strC [],.v (.slice none 0 0)]⟩:=f1.at (at_len1 _ _ _ _) (fun e=>by have e:h.length+1=i:=e;omega)
 have hl1:=(List.getElem?_eq_some_iff.1 k1).1
 have g0:∀ l,(h1++l)[h.length]?=some ⟨0,127,[.ptr i 0 0]⟩:=fun l=>(List.getElem?_append_left (by omega)).trans k0
 simp only[tyD,g0,strC,at_len,set_len,evE,Nat.reduceAdd,Nat.reduceLT,Nat.reduceLeDiff,Nat.reduceEqDiff,reduceCtorEq]
 have hlist:=dlisted_ev (b:=h1.length) (n0:=h1.length+1) E (I:=varD ts) (fun p hp=>var_adv hp) (Φ:=BoxL i (h1.length+1) h1.length h.length 130 [strC nm] 9 1 encV) (fs:=[]) (cs:=[.ptr h.length 0 0,.ptr h1.length 0 0]) c201
  (fun h h1 xs a f=>a.fr f) (fun h p xs hp hx hr hB=>dpart1_ev E hp hr hB (by omega)) hp1 (r1.app [⟨0,130,[strC nm,.v (.slice none 0 0)]⟩]) ⟨.v (.slice none 0 0),by omega,by omega,by omega,by omega,by omega,by omega,by simp,g0 _,at_len _ _ _,GL.nil⟩
 refine callSE c200 hlist (fun xs q a h2 e2 f2 r2 hA=>?_) (fun q e' h2 e2 f2=>?_)
 rotate_left
 ·rw[e2]
  exact⟨f1.pre.trans (f2.drop (by omega) (by omega)) fun k e=>.inl e,rfl⟩
 rw[e2]
 obtain⟨rfl,N,b1,b2,b3,b4,b5,b6,b7,b8,b9,b10⟩:=hA
 have hbl:=(List.getElem?_eq_some_iff.1 b9).1
 obtain⟨oN,fN⟩:=b10.one
 have k2:h2[h.length+1]?=some ⟨0,130,[strC [],.v (.slice none 0 0)]⟩:=f2.at ((List.getElem?_append_left (by omega)).trans k1) (fun e=>by rcases e with e|e|e<;>omega)
 have s5:∀ c,(h2.set (h.length+1) c)[h.length+1]?=some c:=fun c=>List.getElem?_set_self (List.getElem?_eq_some_iff.1 k2).1
 simp only[tyD,b9,k2,s5,oN,setMany,strC,List.cons_append,List.nil_append,evE,Nat.reduceAdd,Nat.reduceLT,Nat.reduceLeDiff,Nat.reduceEqDiff,reduceCtorEq]
 have rd:=b10.rdS (m:=h.length) (Fr.set (S:=IsI (h.length+1)) (h:=h2) ⟨0,130,[strC nm,N]⟩ rfl) (fun k e _=>by have e:k=h.length+1:=e;omega) (by omega)
 rw[strsA_eq]at rd
 have f12:Fr (IsI i) h h2:=f1.pre.trans (f2.drop (by omega) (by omega)) fun k e=>.inl e
 exact⟨f12.trans (Fr.set (S:=IsI (h.length+1)) _ rfl) fun k e=>.inr (by have e:k=h.length+1:=e;omega),_,rfl,(List.getElem?_set_ne (by omega)).trans r2,Rd.agg (RdL.cons (Rd.str nm) (RdL.cons rd RdL.nil))⟩
end Go.Proofs.YtlobiioioicmhaaGreatDoor
