/- A part of the proof. -/
import Derived.Test.YtlobiioioicmhaaGreatDoorAQ12
set_option linter.all false
set_option maxHeartbeats 8000000
namespace Go.Proofs.YtlobiioioicmhaaGreatDoor
open _root_.Bool renaming not_true→Bv,not_false→Bf
open _root_.List renaming getElem?_eq_some_iff→Bs,getElem?_append_left→Ba,getElem?_set_self→Be,getElem?_set_ne→Bn,length_set→Bl,length_append→Bp,append_assoc→Bo,cons_append→Bc,nil_append→Bi,getElem?_cons_zero→Bz,getElem?_cons_succ→Bu,getElem?_eq_none→Bq,set_append_left→Bg,take_of_length_le→Bt,flatMap_cons→BE,mem_cons→BI,getElem?_toArray→BU,set_append_right→BV
open _root_.Nat renaming le_trans→BM,zero_le→BN,lt_of_lt_of_le→BO
open Go.Proofs.Tryz renaming prog→Tp
open Go Go.Ev
set_option maxRecDepth 20000
variable {γ:List (Nat×AV)} {ts:List Tk} {L:AV}
theorem iZ:Al Tp 35:=⟨_,Tryz.func35,by kernel_rfl,by kernel_rfl⟩
theorem gM(s:List UInt8):SC s=(s==[116,97,103] || (s==[107,105,110,100] || (s==[99,104,111,114,100] || (s==[119,104,101,110] || (s==[115,101,110,100] || (s==[115,112,97,119,110] || (s==[97,115] || (s==[114,101,112,108,121] || s==[98,101,99,111,109,101])))))))):=by
 rw[Bool.eq_iff_iff];simp only[SC,cZ,kJ,dA,HS,K6,Kv,HZ,Xg,Ib,Gf,decide_eq_true_eq,BI,List.not_mem_nil,or_false,Bool.or_eq_true,beq_iff_eq]
theorem Ny(s:List UInt8):Ev Tp γ 35 [.v (.string ⟨s.toArray⟩)] (.v (.bool (SC s))):=by
 refine Ev.of Tryz.func35 rfl ?_;rw[gM];simp only[Tryz.f35,Af,seval]
 (repeat' (first|(with_reducible refine aI ?_ ?_)|(first|(first|refine gF ?_ ?_|refine gT ?_ ?_|refine cI ?_ ?_|refine pI ?_ ?_)<;>intro h|(refine dI ?_;have h:=trivial))<;>simp only[h,Af,AB,Bv,Bf,seval]))
 all_goals (try (simp only[*,Bool.true_or,Bool.or_true,Bool.or_false,Bool.false_or];done))
 all_goals trace_state
def j9(x:List UInt8)(a:AV)(_:List Aa):Prop:=a=Aj x
theorem MS(E:Gi γ L ts){h:List Aa}{i p n:Nat}(hp:p≤ts.length)(hr:RD h i L p n):
  Ce Tp γ 129 [.ptr i 0 0] h (Ge ts n L i h j9 (EF ts p)):=by
 have hi:h[i]?=_:=hr;have ll:=E.len;refine Ce.of Tryz.func129 rfl ?_
 by_cases hlt:p<ts.length
 ·obtain⟨b,m,cs,rfl,hcs⟩:=E.sl hlt;obtain⟨t,ht⟩:∃ t,ts[p]?=some t:=⟨ts[p],by simp[hlt]⟩;have h6l:=Fc.len hcs hlt;have h0:cs[p * 6]?=some (.v (.int .i64 t.kind)):=Fc.cell (b:=b) hcs ht (k:=0) (by decide);have h1:cs[p * 6+1]?=_:=Fc.cell (b:=b) hcs ht (k:=1) (by decide);have d1:((p:Int)==(ts.length:Int))=false:=by simp only[beq_eq_false_iff_ne,ne_eq];omega
  have hW:EF ts p=if t.kind=1∧SC t.text=false then .ok t.text (p+1)else .bad p 80:=by unfold EF;rw[ht]
  rw[hW]
  by_cases hk:t.kind=1
  ·have dk:(t.kind != 1)=false:=by simp[hk]
   have dk2:(t.kind==1)=true:=by simp[hk]
   simp only[Tryz.f129,Af,seval];refine dI ?_;simp only[B4,hi,ll,d1,h0,h1,dk,Tk.cells,Af,AB,seval];refine⟨hlt,hlt,Ae.intro iZ rfl (Ny _) ?_⟩;cases hB:SC t.text with
   |true=>
    rw[if_neg (fun h=>by cases h.2)];simp only[Af,seval];refine Am.intro c127 _ (Hw E hr 80) (fun r h2 hh=>by cases hh.1) (fun v h2 hh=>?_);obtain⟨e,rfl⟩:=hh;cases e;exact⟨Fr.refl _ _,rfl⟩
   |false=>
    rw[if_pos ⟨hk,rfl⟩];have hn:=E.n;have w1:IntKind.i64.wrap ((p:Int)+1)=((p+1:Nat):Int):=(A7 (by omega) (by omega)).trans (by omega);have w2:IntKind.i64.wrap (((p+1:Nat):Int)-1)=(p:Int):=(A7 (by omega) (by omega)).trans (by omega);have s3:∀ b,(h.set i b)[i]?=some b:=fun b=>Be hr.lt
    simp only[B4,hi,w1,Af,AB,seval];refine dI ?_;simp only[B4,s3,w2,h1,Tk.cells,Af,AB,seval];exact⟨hlt,Fr.set _ rfl,_,rfl,hr.set (p+1),rfl⟩
  ·have dk:(t.kind != 1)=true:=by simp[hk]
   have dk2:(t.kind==1)=false:=by simp[hk]
   rw[if_neg (fun h=>hk h.1)];simp only[Tryz.f129,Af,seval];refine dI ?_;simp only[B4,hi,ll,d1,h0,dk,Af,AB,seval];refine⟨hlt,Am.intro c127 _ (Hw E hr 80) (fun r h2 hh=>by cases hh.1) (fun v h2 hh=>?_)⟩;obtain⟨e,rfl⟩:=hh;cases e;exact⟨Fr.refl _ _,rfl⟩
 ·have d1:((p:Int)==(ts.length:Int))=true:=by simp only[beq_iff_eq];omega
  have hW:EF ts p=.bad p 80:=by unfold EF;rw[Bq (by omega)]
  rw[hW];simp only[Tryz.f129,Af,seval];refine dI ?_;simp only[B4,hi,ll,d1,Af,AB,seval];refine Am.intro c127 _ (Hw E hr 80) (fun r h2 hh=>by cases hh.1) (fun v h2 hh=>?_);obtain⟨e,rfl⟩:=hh;cases e;exact⟨Fr.refl _ _,rfl⟩
theorem Du(h:List Aa)(x:Aa)(l:List Aa)(c:Aa):(h++x::l).set h.length c=h++c::l:=by simp
theorem Eb(h:List Aa)(x y:Aa)(l:List Aa)(c:Aa):(h++x::y::l).set (h.length+1) c=h++x::c::l:=by
 rw[BV _ _ (by omega),show h.length+1-h.length=1 by omega];rfl
theorem Pj(h:List Aa)(i:Nat)(b x:Aa)(l:List Aa):(h.set i b++x::l)[h.length]?=some x:=by
 have:=Aw (h.set i b) x l
 rwa [Bl]at this
theorem D1(h:List Aa)(i:Nat)(b x y:Aa)(l:List Aa):(h.set i b++x::y::l)[h.length+1]?=some y:=by
 have:=AZ (h.set i b) x y l
 rwa [Bl]at this
theorem Sn(h:List Aa)(i:Nat)(b x:Aa)(l:List Aa)(c:Aa):(h.set i b++x::l).set h.length c=h.set i b++c::l:=by
 have:=Du (h.set i b) x l c
 rwa [Bl]at this
def kK(x:List Nd)(a:AV)(_:List Aa):Prop:=a=.agg [Ab x]
theorem kE:Al Tp 132:=⟨_,Tryz.func132,by kernel_rfl,by kernel_rfl⟩
theorem Wh{L:AV}{ts:List Tk}(h:lE L ts)(f:Int):A4 [L,.v (.int .i64 f)]=true:=by rcases h with⟨rfl,rfl⟩|⟨b,m,cs,rfl,_⟩<;>rfl
theorem Rv(E:Gi γ L ts){h:List Aa}{i p n:Nat}(hp:p≤ts.length)(hr:RD h i L p n):
  Ce Tp γ 132 [.ptr i 0 0] h (Ge ts n L i h kK (FO ts p)):=by
 have hi:h[i]?=_:=hr;have ll:=E.len;obtain⟨a1,a2,a3⟩:=Hu hp;have hn:=E.n;have hread:=Vl E.gl E.glw E.l E.ok E.n (p:Int);have g1:∀ l,(h++l)[i]?=_:=fun l=>hr.app l
 have s1:∀ (x:Aa) l,(h++x::l)[h.length]?=some x:=fun x l=>by simp
 have s2:∀ (x y:Aa) l,(h++x::y::l)[h.length+1]?=some y:=fun x y l=>by simp
 have one:∀ ns,Cd (Ab ns)=true:=fun ns=>by cases ns<;>rfl
 refine Ce.of Tryz.func132 rfl ?_;simp only[Tryz.f132,B4,Af,seval];refine dX ?_;simp only[B4,g1,Af,AB,seval];refine Ae.intro c26 (Wh E.l _) hread ?_;unfold O8 FO;generalize Ci ts (p:Int)=R at a1 a2 a3;obtain⟨ns,q,e⟩:=R;simp only at a1 a2 a3;obtain⟨q,rfl⟩:∃ q':Nat,q=q':=⟨q.toNat,by omega⟩;have s6:∀ l b,(h++l).set i b=h.set i b++l:=fun l b=>Bg _ _ hr.lt
 have s7:∀ b l,(h.set i b++l)[i]?=some b:=fun b l=>by rw[Ba (by rw[Bl];exact hr.lt)];exact Be hr.lt
 by_cases he:e=0
 ·have de:(e != 0)=false:=by simp[he]
  rw[if_pos he,Int.toNat_natCast];simp only[B4,g1,one,de,AZ,Eb,Pj,D1,Sn,s6,Bo,Bc,Bi,Af,AB,seval];exact⟨Fr.trans (Fr.set _ rfl) (Fr.app (S:=Cj) _ _) (fun k e=>e.elim),_,rfl,s7 _ _,rfl⟩
 ·have de:(e != 0)=true:=by simp[he]
  rw[if_neg he,Int.toNat_natCast];simp only[B4,one,de,AZ,Eb,Bo,Bc,Bi,Af,seval];refine Am.intro kO _ (Oq E (hr.app _) q) (fun r h2 hh=>?_) (fun v h2 hh=>by cases hh.1);obtain⟨e,rfl⟩:=hh;cases e;simp only[B4,Af,seval];exact⟨Fr.app _ _,rfl⟩
def NT(S:Nat→Prop){α:Type}(ts:List Tk)(n:Nat)(L:AV)(i:Nat)(h:List Aa)(A:α→AV→List Aa→Prop)(r:DR α)(o:Out)(h':List Aa):Prop:=
 Fr S h h'∧match r with
 |.ok x q=>∃ a,o=.ret a∧RD h' i L q n∧A x a h'
 |.bad q e=>o=.pan (GZ (Hy ts n q) e)
theorem NT.elim{S:Nat→Prop}{α:Type}{n i:Nat}{h:List Aa}{A:α→AV→List Aa→Prop}{r:DR α}{K:AV→List Aa→Prop}{E:AV→List Aa→Prop}
  (hok:∀ x q a h1,r=.ok x q→Fr S h h1→RD h1 i L q n→A x a h1→K a h1)
  (hbad:∀ q e h1,r=.bad q e→Fr S h h1→E (GZ (Hy ts n q) e) h1):(∀ a h1,NT S ts n L i h A r (.ret a) h1→K a h1)∧(∀ v h1,NT S ts n L i h A r (.pan v) h1→E v h1):=by
 constructor
 ·intro a h1 hh;cases r with
  |ok x q=>
   obtain⟨f,a',e,r1,hA⟩:=hh;cases e;exact hok x q _ h1 rfl f r1 hA
  |bad q e=>obtain⟨_,e⟩:=hh;cases e
 ·intro v h1 hh;cases r with
  |ok x q=>obtain⟨_,a',e,_⟩:=hh;cases e
  |bad q e=>
   obtain⟨f,e⟩:=hh;cases e;exact hbad q _ h1 rfl f
theorem U7{α:Type}{E:AV→St→Prop}{g:FuncId}{xs:List AV}{d:Option Tmp}{K:St→Prop}{s:St}{n i:Nat}{S:Nat→Prop}{A:α→AV→List Aa→Prop}{r:DR α}(c:Al Tp g)
  (he:Ce Tp s.s.g g xs s.h (NT S ts n L i s.h A r)) (hok:∀ x q a h1,r=.ok x q→Fr S s.h h1→RD h1 i L q n→A x a h1→K (pt ⟨s.s,h1⟩ d a))
  (hbad:∀ q e h1,r=.bad q e→Fr S s.h h1→E (GZ (Hy ts n q) e) ⟨s.s,h1⟩):Ix Tp E g xs d K s:=by
 obtain⟨k1,k2⟩:=NT.elim (ts:=ts) (L:=L) (K:=fun a h1=>K (pt ⟨s.s,h1⟩ d a)) (E:=fun v h1=>E v ⟨s.s,h1⟩) hok hbad;exact Ix.intro c _ he k1 k2
theorem YR{α:Type}{E:AV→St→Prop}{g:FuncId}{xs:List AV}{d:Option Tmp}{K:St→Prop}{s:St}{n i:Nat}{S:Nat→Prop}{A:α→AV→List Aa→Prop}{r:DR α}(c:Al Tp g)
  (he:Ce Tp s.s.g g xs s.h (NT S ts n L i s.h A r)) (hok:∀ x q a h1,r=.ok x q→Fr S s.h h1→RD h1 i L q n→A x a h1→K (pt ⟨s.s,h1⟩ d a))
  (hbad:∀ q e h1,r=.bad q e→Fr S s.h h1→E (GZ (Hy ts n q) e) ⟨s.s,h1⟩):Am Tp E g xs d K s:=.inr (U7 c he hok hbad)
def IN(i b n0:Nat)(k:Nat):Prop:=k=i∨k=b∨n0≤k
theorem IN.i{i b n0:Nat}{h h':List Aa}(f:Fr (B8 i) h h'):Fr (IN i b n0) h h':=f.mono fun k e=>.inl e
theorem kL:Al Tp 200:=⟨_,Tryz.func200,by kernel_rfl,by kernel_rfl⟩
def lsS(γ:List (Nat×AV))(i:Nat)(C:AV)(y:Nat×List Aa):St:=⟨⟨17,[(0,.ptr i 0 0),(1,C)],γ⟩,y.2⟩
def LsA{α:Type}(Φ:List Aa→List α→Prop)(x:List α)(a:AV)(h:List Aa):Prop:=a=.tup []∧Φ h x
theorem M3{α:Type}(E:Gi γ L ts){I:Nat→DR α}(hI:∀ p,p≤ts.length→(I p).adv ts p 1){i b n n0:Nat}{Φ:List Aa→List α→Prop}{g:FuncId}{fs cs:List AV}(c:Al Tp g)
  (hΦ:∀ h h1 xs,Φ h xs→Fr (B8 i) h h1→Φ h1 xs)
  (hg:∀ h p xs,p≤ts.length→xs.length≤p→RD h i L p n→Φ h xs→Ce Tp γ g (fs++cs) h (NT (IN i b n0) ts n L i h (fun x a h'=>a=.tup []∧Φ h' (xs++[x])) (I p)))
  {h:List Aa} {p:Nat} (hp:p≤ts.length) (hr:RD h i L p n) (h0:Φ h []) :
  Ce Tp γ 200 [.ptr i 0 0,.clo g fs cs] h (NT (IN i b n0) ts n L i h (LsA Φ) (Hj ts I p)):=by
 refine Ce.of Tryz.func200 rfl ?_;simp only[Tryz.f200,Af,seval];refine Ka hZ (MJ E hp hr [40]) (fun x p1 a h1 e f1 r1 hA=>?_) (fun q e' h1 e f1=>?_)
 rotate_left
 ·have ed:Hj ts I p=.bad q e':=by unfold Hj;rw[e];rfl
  rw[ed];exact⟨IN.i f1,rfl⟩
 have adv1:=Ea hp [40];rw[e]at adv1;obtain⟨a1,a2⟩:=adv1;have ed:Hj ts I p=if HJ ts p1 [41]=true then .ok [] (p1+1)else (I p1).bind fun x q=>Gb ts I (ts.length+1) [x] q:=by unfold Hj;rw[e];rfl
 rw[ed];subst hA;simp only[Af,seval];refine Am.intro c131 _ (I8 E a2 r1 [41]) (fun r h2 hh=>?_) (fun v h2 hh=>by cases hh.1);obtain⟨e2,f2,r2⟩:=hh;cases e2;have f02:Fr (B8 i) h h2:=f1.trans f2 fun k e=>.inl e
 cases hB:HJ ts p1 [41]with
 |true=>
  rw[hB]at r2;rw[if_pos rfl];simp only[Af,seval];exact⟨IN.i f02,_,rfl,r2,rfl,hΦ _ _ _ h0 f02⟩
 |false=>
  rw[hB]at r2;rw[if_neg (by decide)];simp only[Af,seval];have r2':RD h2 i L p1 n:=by rw[if_neg (by decide)]at r2;exact r2
  refine U7 c (hg h2 p1 [] a2 (BN _) r2' (hΦ _ _ _ h0 f02)) (fun x q a h3 e3 f3 r3 hA=>?_) (fun q e' h3 e3 f3=>?_)
  rotate_left
  ·rw[e3];exact⟨(IN.i (b:=b) (n0:=n0) f02).trans f3 fun k e=>.inl e,rfl⟩
  obtain⟨rfl,hΦ3⟩:=hA;have adv3:=hI p1 a2;rw[e3]at adv3⊢;obtain⟨b1,b2⟩:=adv3;have eD:(DR.ok x q).bind (fun x q=>Gb ts I (ts.length+1) [x] q)=Gb ts I (ts.length+1) [x] q:=rfl;rw[eD];generalize hR:Gb ts I (ts.length+1) [x] q=R;simp only[Af,seval]
  refine C1.intro (lsS γ i (.clo g fs cs)) (fun y=>∃ xs f,y.1≤ts.length∧xs.length≤y.1∧RD y.2 i L y.1 n∧Φ y.2 xs∧Fr (IN i b n0) h y.2∧Gb ts I f xs y.1=R∧ts.length<f+y.1) (fun y=>ts.length+1-y.1) (q,h3) ⟨rfl,rfl,⟨rfl,rfl,trivial⟩,rfl⟩
   ⟨[x],ts.length+1,b2,by show 1≤q;omega,r3,hΦ3,(IN.i (b:=b) (n0:=n0) f02).trans f3 fun k e=>.inl e,hR,by show ts.length<ts.length+1+q;omega⟩ (fun y hy=>?_)
  clear hR r3 hΦ3 f3 e3 b1 b2 r2 r2' f02 f2 f1 r1 hB;obtain⟨p,h4⟩:=y;obtain⟨xs,f,hp4,hx4,r4,hΦ4,f4,hR,hf⟩:=hy;simp only at hp4 hx4 r4 hΦ4 f4 hR hf;obtain⟨f,rfl⟩:∃ g,f=g+1:=⟨f-1,by omega⟩;rw[Gb]at hR;simp only[lsS,Af,seval];refine Am.intro c131 _ (I8 E hp4 r4 [41]) (fun r h5 hh=>?_) (fun v h5 hh=>by cases hh.1);obtain⟨e5,f5,r5⟩:=hh;cases e5;have f45:=f4.trans (IN.i (b:=b) (n0:=n0) f5) fun k e=>.inl e
  cases hB:HJ ts p [41]with
  |true=>
   rw[hB]at r5 hR;rw[if_pos rfl]at hR;rw[←hR];simp only[Af,Bv,seval];exact⟨f45,_,rfl,r5,rfl,hΦ _ _ _ hΦ4 f5⟩
  |false=>
   have r5':RD h5 i L p n:=by rw[hB,if_neg (by decide)]at r5;exact r5
   rw[hB,if_neg (by decide)]at hR;simp only[Af,Bf,seval];refine Ka hZ (MJ E hp4 r5' [44]) (fun x p6 a h6 e6 f6 r6 hA=>?_) (fun q e' h6 e6 f6=>?_)
   rotate_left
   ·unfold B9 at e6
    split at e6
    ·cases e6
    ·rename_i hB2;cases e6;rw[if_neg hB2]at hR;rw[←hR];exact⟨f45.trans (IN.i f6) fun k e=>.inl e,rfl⟩
   unfold B9 at e6
   split at e6
   rotate_left
   ·cases e6
   rename_i hB2;cases e6;subst hA;rw[if_pos hB2]at hR;have hlt:=CW hB2;have f06:=f45.trans (IN.i (b:=b) (n0:=n0) f6) fun k e=>.inl e
   simp only[Af,seval];refine U7 c (hg h6 (p+1) xs hlt (by omega) r6 (hΦ _ _ _ (hΦ _ _ _ hΦ4 f5) f6)) (fun x q a h7 e7 f7 r7 hA=>?_) (fun q e' h7 e7 f7=>?_)
   rotate_left
   ·rw[e7]at hR;rw[←hR];exact⟨f06.trans f7 fun k e=>.inl e,rfl⟩
   obtain⟨rfl,hΦ7⟩:=hA;have adv7:=hI (p+1) hlt;rw[e7]at hR adv7;obtain⟨b1,b2⟩:=adv7;simp only[Af,seval];exact B3.intro (q,h7) ⟨xs++[x],f,b2,by rw[Bp];show xs.length+1≤q;omega,r7,hΦ7,f06.trans f7 fun k e=>.inl e,hR,by show ts.length<f+q;omega⟩ ⟨rfl,rfl,⟨rfl,rfl,trivial⟩,rfl⟩ (by show ts.length+1-q<ts.length+1-p;omega)
theorem Ge.ret{α:Type}{n i:Nat}{h h1:List Aa}{A:α→AV→List Aa→Prop}{R:DR α}{a:AV}(hh:Ge ts n L i h A R (.ret a) h1):∃ x q,R=.ok x q∧Fr (B8 i) h h1∧RD h1 i L q n∧A x a h1:=by
 cases R with
 |ok x q=>
  obtain⟨f,a',e,r1,hA⟩:=hh;cases e;exact⟨x,q,rfl,f,r1,hA⟩
 |bad q e=>obtain⟨_,e⟩:=hh;cases e
theorem Ge.pan{α:Type}{n i:Nat}{h h1:List Aa}{A:α→AV→List Aa→Prop}{R:DR α}{v:AV}(hh:Ge ts n L i h A R (.pan v) h1):∃ q e,R=.bad q e∧Fr (B8 i) h h1∧v=GZ (Hy ts n q) e:=by
 cases R with
 |ok x q=>obtain⟨_,a',e,_⟩:=hh;cases e
 |bad q e=>
  obtain⟨f,e'⟩:=hh;cases e';exact⟨q,e,rfl,f,rfl⟩
def TA(N:AV)(i n0 b rb:Nat)(tb:TypeId)(pre:List AV)(tE:TypeId)(sz:Nat)(k:Nat)(ys:List AV)(h:List Aa):Prop:=
 i<n0∧b<n0∧rb<n0∧rb≠b∧i≠b∧i≠rb∧n0≤h.length∧h[rb]?=some ⟨0,127,[.ptr i 0 0]⟩∧h[b]?=some ⟨0,tb,pre++[N]⟩∧GL n0 tE sz h N k ys
theorem TA.fr{N:AV}{i n0 b rb:Nat}{tb:TypeId}{pre:List AV}{tE:TypeId}{sz k:Nat}{ys:List AV}{h h1:List Aa}(a:TA N i n0 b rb tb pre tE sz k ys h)(f:Fr (B8 i) h h1):TA N i n0 b rb tb pre tE sz k ys h1:=by
 obtain⟨a1,a2,a3,a4,a5,a6,a7,a8,a9,a10⟩:=a;exact⟨a1,a2,a3,a4,a5,a6,BM a7 f.1,f.at a8 (fun e=>a6 e.symm),f.at a9 (fun e=>a5 e.symm),a10.fr0 f (fun k e=>by have e:k=i:=e;omega)⟩
theorem TA.push{N:AV}{i n0 b rb:Nat}{tb:TypeId}{pre:List AV}{tE:TypeId}{sz k:Nat}{ys es ecs cs:List AV}{h h':List Aa}{j' ver':Nat}(a:TA N i n0 b rb tb pre tE sz k ys h)
  (hx:∀ j ver,N=.own j ver k→j'=j∧h[j]?=some ⟨ver,tE,cs⟩) (hx0:N=.v (.slice none 0 0)→h.length≤j'∧cs=[])
  (f:Fr (fun k=>k=b∨Cc N k) h h') (hj:h'[j']?=some ⟨ver',tE,cs++es⟩) (hb:h'[b]?=some ⟨0,tb,pre++[.own j' ver' (k+1)]⟩) (hl:es.length=sz) (he:AL (fun k=>k<n0∨Cc N k) h ecs es) :
  TA (.own j' ver' (k+1)) i n0 b rb tb pre tE sz (k+1) (ys++ecs) h'∧Fr (IN i b n0) h h':=by
 obtain⟨a1,a2,a3,a4,a5,a6,a7,a8,a9,a10⟩:=a;have hN:∀ k,Cc N k→n0≤k:=fun k hk=>(a10.lt hk).1
 exact⟨⟨a1,a2,a3,a4,a5,a6,BM a7 f.1,f.at a8 (fun e=>e.elim a4 fun e=>by have:=hN _ e;omega),hb,a10.push hx hx0 a7 (f.mono fun k e=>e.elim (fun e=>.inl (by omega)) .inr) hj hl he⟩,
  f.mono fun k e=>e.elim (fun e=>.inr (.inl e)) fun e=>.inr (.inr (hN _ e))⟩
def Qq(i n0 b rb:Nat)(tb:TypeId)(pre:List AV)(tE:TypeId)(sz:Nat){α:Type}(enc:α→List AV)(h:List Aa)(xs:List α):Prop:=∃ N,TA N i n0 b rb tb pre tE sz xs.length (xs.flatMap enc) h
theorem Qq.fr{i n0 b rb:Nat}{tb:TypeId}{pre:List AV}{tE:TypeId}{sz:Nat}{α:Type}{enc:α→List AV}{h h1:List Aa}{xs:List α}(a:Qq i n0 b rb tb pre tE sz enc h xs)(f:Fr (B8 i) h h1):Qq i n0 b rb tb pre tE sz enc h1 xs:=by
 obtain⟨N,a⟩:=a;exact⟨N,a.fr f⟩
theorem IG{P:Program}{E:AV→St→Prop}{K:St→Prop}{s:St}{d:Option Tmp}{t:TypeId}{pos:String}{af:Array Edge}{g:Option (Nat×Bool)}{ρ:K9}(u n:Nat)(ps:Array (Nat×Operand)):DF P E ρ ⟨d,.buildSlice u n ps,t,pos,af,g⟩ K s=B7 P ⟨d,.buildSlice u n ps,t,pos,af,g⟩ K s:=rfl
theorem c249:Al Tp 249:=⟨_,Tryz.func249,by kernel_rfl,by kernel_rfl⟩
def LF(x:List Nd):List AV:=[Ab x]
theorem VF(E:Gi γ L ts){i n n0 b rb p:Nat}{h:List Aa}{xs:List (List Nd)}(hp:p≤ts.length)(hr:RD h i L p n)(hB:Qq i n0 b rb 133 [] 41 1 LF h xs)(hxs:(xs.length+1) * 24≤140737488355328):
  Ce Tp γ 249 [.ptr b 0 0,.ptr rb 0 0] h (NT (IN i b n0) ts n L i h (fun x a h'=>a=.tup []∧Qq i n0 b rb 133 [] 41 1 LF h' (xs++[x])) (FO ts p)):=by
 obtain⟨N,hB'⟩:=hB;have hB2:=hB';obtain⟨a1,a2,a3,a4,a5,a6,a7,a8,a9,a10⟩:=hB2;refine Ce.ofG Tryz.func249 rfl ?_;simp only[Tryz.f249,CP,seval];refine CR.orders [[0,1,2,3,4,5],[1,0,2,3,4,5],[1,2,0,3,4,5],[1,2,3,0,4,5]] (fun _ _ _ h o h'=>Ge ts n L i h kK (FO ts p) o h') (Ey _) (by kernel_rfl) (by kernel_rfl) (by kernel_rfl) (fun q hq=>?_);simp only[BI,List.not_mem_nil,or_false]at hq
 rcases hq with rfl|rfl|rfl|rfl
 all_goals simp only[WQ,IG,CQ,BU,Bu,Bz,B4,a8,a9,Bi,CP,seval]
 all_goals refine⟨kE,Rv E hp hr,fun r h1 hh=>?_,fun v h1 hh=>by obtain⟨q,e,eR,f1,rfl⟩:=Ge.pan hh;rw[eR];exact⟨IN.i f1,rfl⟩⟩
 all_goals obtain⟨x,q,eR,f1,r1,rfl⟩:=Ge.ret hh
 all_goals rw[eR]
 all_goals obtain⟨b1,b2,b3,b4,b5,b6,b7,b8,b9,b10⟩:=hB'.fr f1
 all_goals have hbl:=(Bs.1 b9).1
 all_goals have hrl:=r1.lt
 all_goals have one:Cd (Ab x)=true:=by cases x<;>rfl
 all_goals have g7:∀ l,(h1++l)[b]?=some ⟨0,133,[N]⟩:=fun l=>(Ba hbl).trans b9
 all_goals have s6:∀ l c,(h1++l).set b c=h1.set b c++l:=fun l c=>Bg _ _ hbl
 all_goals have he:AL (fun k=>k<n0∨Cc N k) h1 [Ab x] [Ab x]:=AL.cons (Rd.nodes x) AL.nil
 all_goals have hxe:(xs++[x]).length=xs.length+1:=by simp
 all_goals have hxf:(xs++[x]).flatMap LF=xs.flatMap LF++[Ab x]:=by simp[LF]
 all_goals have hB3:=hB'.fr f1
 all_goals rcases b10 with⟨rfl,e0,e1⟩|⟨j,ver,cs,rfl,hn,hj0,hj,hl,hrd⟩
 all_goals first
  |(have e0':=e0
    simp only[B4,b9,g7,one,Aw,s6,Bi,Bo,Bc,CP,seval];obtain⟨k1,k2⟩:=hB3.push (h':=h1.set b ⟨0,133,[.own (h1.length+1) 0 1]⟩++[⟨0,41,[Ab x]⟩,⟨0,41,[Ab x]⟩]) (j':=h1.length+1) (ver':=0) (cs:=[]) (es:=[Ab x]) (ecs:=[Ab x]) (fun j ver e=>by cases e) (fun _=>⟨by omega,rfl⟩) ((Fr.set _ (.inl rfl)).trans (Fr.app (S:=Cj) _ _) fun k e=>e.elim) (D1 _ _ _ _ _ _) (by rw[e0];exact (Ba (by rw[Bl];exact hbl)).trans (Be hbl)) rfl he;rw[e0]at k1;refine⟨(IN.i f1).trans k2 fun k e=>.inl e,_,rfl,?_,rfl,.own (h1.length+1) 0 1,?_⟩
    ·exact (Ba (by rw[Bl];exact hrl)).trans ((Bn a5.symm).trans r1)
    ·rw[hxe,hxf,e0];exact k1)
  |(have hjl:=(Bs.1 hj).1
    have hjb:j≠b:=by omega
    have hji:j≠i:=by omega
    have q1:∀ l,(h1++l)[j]?=some ⟨ver,41,cs⟩:=fun l=>(Ba hjl).trans hj
    have s8:∀ l c,(h1++l).set j c=h1.set j c++l:=fun l c=>Bg _ _ hjl
    have g9:∀ l c,(h1.set j c++l)[b]?=some ⟨0,133,[.own j ver xs.length]⟩:=fun l c=>(Ba (by rw[Bl];exact hbl)).trans ((Bn hjb).trans b9)
    have s9:∀ l c d,(h1.set j c++l).set b d=(h1.set j c).set b d++l:=fun l c d=>Bg _ _ (by rw[Bl];exact hbl)
    have hl':cs.length=xs.length:=by omega
    have q4:List.take xs.length cs=cs:=Bt (by omega);have q6:xs.length≤cs.length:=by omega
    simp only[B4,b9,g7,one,Aw,Bi,q1,s8,g9,s9,q4,q6,CP,seval];obtain⟨k1,k2⟩:=hB3.push (h':=(h1.set j ⟨ver+1,41,cs++[Ab x]⟩).set b ⟨0,133,[.own j (ver+1) (xs.length+1)]⟩++[⟨0,41,[Ab x]⟩]) (j':=j) (ver':=ver+1) (cs:=cs) (es:=[Ab x]) (ecs:=[Ab x]) (fun j2 ver2 e=>by cases e;exact⟨rfl,hj⟩) (fun e=>by cases e) (((Fr.set (S:=fun k=>k=b∨Cc (.own j ver xs.length) k) _ (.inr rfl)).trans (Fr.set (S:=fun k=>k=b∨Cc (.own j ver xs.length) k) _ (.inl rfl)) fun k e=>.inl e).trans (Fr.app (S:=Cj) _ _) fun k e=>e.elim) ((Ba (by rw[Bl,Bl];exact hjl)).trans ((Bn hjb.symm).trans (Be hjl))) ((Ba (by rw[Bl,Bl];exact hbl)).trans (Be (by rw[Bl];exact hbl))) rfl he;refine⟨hxs,(IN.i f1).trans k2 fun k e=>.inl e,_,rfl,?_,rfl,.own j (ver+1) (xs.length+1),?_⟩
    ·exact (Ba (by rw[Bl,Bl];exact hrl)).trans ((Bn a5.symm).trans ((Bn hji).trans r1))
    ·rw[hxe,hxf];exact k1)
def aJ{α:Type}(f:α→AV)(m:Nat)(x:α)(a:AV)(h':List Aa):Prop:=Rd (Old m) h' (f x) a
theorem c203:Al Tp 203:=⟨_,Tryz.func203,by kernel_rfl,by kernel_rfl⟩
theorem MI(xs:List (List Nd)):NF xs.length (xs.flatMap LF)=Eo xs:=by
 have:xs.flatMap LF=xs.map Ab:=by
  induction xs with
  |nil=>rfl
  |cons x xs ih=>rw[BE,ih];rfl
 rw[this];rfl
theorem Fr.drop{i n0 b:Nat}{h h':List Aa}{l:List Aa}(f:Fr (IN i b n0) (h++l) h')(hb:h.length≤b)(hn:h.length≤n0):Fr (B8 i) h h':=
 (Fr.app (S:=B8 i) h l).trans f fun k e=>by
  rcases e with e|e|e
  ·exact .inl e
  ·exact .inr (by omega)
  ·exact .inr (by omega)
theorem Yi(E:Gi γ L ts){h:List Aa}{i p n:Nat}(hp:p≤ts.length)(hr:RD h i L p n):
  Ce Tp γ 203 [.ptr i 0 0] h (Ge ts n L i h (aJ Eo h.length) (L1 ts p)):=by
 have hil:=hr.lt;have hn:=E.n;refine Ce.of Tryz.func203 rfl ?_;simp only[Tryz.f203,B4,Aw,Bo,Bc,Bi,Af,seval]
 have hlist:=M3 (b:=h.length+1) (n0:=h.length+2) E (I:=FO ts) (fun p hp=>GR hp) (Φ:=Qq i (h.length+2) (h.length+1) h.length 133 [] 41 1 LF) (fs:=[]) (cs:=[.ptr (h.length+1) 0 0,.ptr h.length 0 0]) c249
  (fun h h1 xs a f=>a.fr f) (fun h p xs hp hx hr hB=>VF E hp hr hB (by omega)) hp (hr.app [⟨0,127,[.ptr i 0 0]⟩,⟨0,133,[.v (.slice none 0 0)]⟩]) ⟨.v (.slice none 0 0),by omega,by omega,by omega,by omega,by omega,by omega,by simp,Aw _ _ _,AZ _ _ _ _,GL.nil⟩
 unfold L1;refine YR kL hlist (fun xs q a h1 e f1 r1 hA=>?_) (fun q e' h1 e f1=>?_)
 rotate_left
 ·rw[e];exact⟨f1.drop (by omega) (by omega),rfl⟩
 rw[e];obtain⟨rfl,N,b1,b2,b3,b4,b5,b6,b7,b8,b9,b10⟩:=hA;have hbl:=(Bs.1 b9).1;have s5:∀ c,(h1.set (h.length+1) c)[h.length+1]?=some c:=fun c=>Be hbl
 have rd:∀ c,Rd (Old h.length) (h1.set (h.length+1) c) (Eo xs) N:=fun c=>by
  have:=b10.rd.up (S':=Old h.length) (Fr.set (S:=B8 (h.length+1)) c rfl) (fun k e _=>by have e:k=h.length+1:=e;subst e;exact b2) (fun k e _=>by have e:k<h.length:=e;show k<h.length+2;omega)
  rwa [MI]at this
 have f2:∀ c,Fr (IN i (h.length+1) (h.length+2)) h1 (h1.set (h.length+1) c):=fun c=>Fr.set _ (.inr (.inl rfl))
 have hN:flat N=some [N]:=by rcases b10 with⟨rfl,_⟩|⟨j,ver,cs,rfl,_⟩<;>rfl
 have oN:Cd N=true:=by rcases b10 with⟨rfl,_⟩|⟨j,ver,cs,rfl,_⟩<;>rfl
 simp only[B4,b9,s5,hN,Ao,Bi,Af,seval];exact⟨(f1.trans (f2 _) fun k e=>.inl e).drop (by omega) (by omega),N,rfl,(Bn b5.symm).trans r1,rd _⟩
theorem c201:Al Tp 201:=⟨_,Tryz.func201,by kernel_rfl,by kernel_rfl⟩
def GJ(x:List UInt8):List AV:=[Aj x]
theorem Wm(E:Gi γ L ts){i n n0 b rb p:Nat}{h:List Aa}{nm:List UInt8}{xs:List (List UInt8)}(hp:p≤ts.length)(hr:RD h i L p n)(hB:Qq i n0 b rb 130 [Aj nm] 9 1 GJ h xs)(hxs:(xs.length+1) * 16≤140737488355328):
  Ce Tp γ 201 [.ptr rb 0 0,.ptr b 0 0] h (NT (IN i b n0) ts n L i h (fun x a h'=>a=.tup []∧Qq i n0 b rb 130 [Aj nm] 9 1 GJ h' (xs++[x])) (P6 ts p)):=by
 obtain⟨N,hB'⟩:=hB;have hB2:=hB';obtain⟨a1,a2,a3,a4,a5,a6,a7,a8,a9,a10⟩:=hB2;have hTake:=I8 E hp hr [95];refine Ce.ofG Tryz.func201 rfl ?_;simp only[Tryz.f201,B4,a8,CP,seval];refine Am.intro c131 _ hTake (fun r h0 hh=>?_) (fun v h1 hh=>by cases hh.1);obtain⟨e,f0,r0⟩:=hh;cases e;unfold P6;cases hT:HJ ts p [95]with
 |true=>
  obtain⟨h1,e1⟩:∃ h1,h1=h0:=⟨_,rfl⟩;subst e1;have f1:=f0;have r1:=r0;rw[hT]at r1;rw[if_pos rfl]at r1⊢;obtain⟨b1,b2,b3,b4,b5,b6,b7,b8,b9,b10⟩:=hB'.fr f1;obtain⟨x,hx⟩:∃ x:List UInt8,x=[95]:=⟨_,rfl⟩;have hx2:(⟨#[95]⟩:ByteArray)=⟨x.toArray⟩:=by rw[hx]
  rw[←hx]
  all_goals have hbl:=(Bs.1 b9).1
  all_goals have hrl:=r1.lt
  all_goals have g7:∀ l,(h1++l)[b]?=some ⟨0,130,[Aj nm,N]⟩:=fun l=>(Ba hbl).trans b9
  all_goals have s6:∀ l c,(h1++l).set b c=h1.set b c++l:=fun l c=>Bg _ _ hbl
  all_goals have he:AL (fun k=>k<n0∨Cc N k) h1 [Aj x] [Aj x]:=AL.cons (Rd.str x) AL.nil
  all_goals have hxe:(xs++[x]).length=xs.length+1:=by simp
  all_goals have hxf:(xs++[x]).flatMap GJ=xs.flatMap GJ++[Aj x]:=by simp[GJ]
  all_goals have hB3:=hB'.fr f1
  all_goals rcases b10 with⟨rfl,e0,e1⟩|⟨j,ver,cs,rfl,hn,hj0,hj,hl,hrd⟩
  all_goals first
   |(have e0':=e0
     simp only[B4,b9,g7,Aw,s6,Bi,Bo,Bc,Aj,CP,seval];obtain⟨k1,k2⟩:=hB3.push (h':=h1.set b ⟨0,130,[Aj nm,.own (h1.length+1) 0 1]⟩++[⟨0,9,[Aj x]⟩,⟨0,9,[Aj x]⟩]) (j':=h1.length+1) (ver':=0) (cs:=[]) (es:=[Aj x]) (ecs:=[Aj x]) (fun j ver e=>by cases e) (fun _=>⟨by omega,rfl⟩) ((Fr.set _ (.inl rfl)).trans (Fr.app (S:=Cj) _ _) fun k e=>e.elim) (D1 _ _ _ _ _ _) (by rw[e0];exact (Ba (by rw[Bl];exact hbl)).trans (Be hbl)) rfl he;rw[e0]at k1;refine⟨(IN.i f1).trans k2 fun k e=>.inl e,_,rfl,?_,rfl,.own (h1.length+1) 0 1,?_⟩
     ·exact (Ba (by rw[Bl];exact hrl)).trans ((Bn a5.symm).trans r1)
     ·rw[hxe,hxf,e0];exact k1)
   |(have hjl:=(Bs.1 hj).1
     have hjb:j≠b:=by omega
     have hji:j≠i:=by omega
     have q1:∀ l,(h1++l)[j]?=some ⟨ver,9,cs⟩:=fun l=>(Ba hjl).trans hj
     have s8:∀ l c,(h1++l).set j c=h1.set j c++l:=fun l c=>Bg _ _ hjl
     have g9:∀ l c,(h1.set j c++l)[b]?=some ⟨0,130,[Aj nm,.own j ver xs.length]⟩:=fun l c=>(Ba (by rw[Bl];exact hbl)).trans ((Bn hjb).trans b9)
     have s9:∀ l c d,(h1.set j c++l).set b d=(h1.set j c).set b d++l:=fun l c d=>Bg _ _ (by rw[Bl];exact hbl)
     have hl':cs.length=xs.length * 1:=by omega
     have q4:List.take (xs.length * 1) cs=cs:=Bt (by omega);have q6:xs.length * 1≤cs.length:=by omega
     simp only[Nat.mul_one]at q4 q6;simp only[B4,b9,Aw,Bi,Bc,Aj,q1,s8,g9,s9,q4,q6,CP,seval];obtain⟨k1,k2⟩:=hB3.push (h':=(h1.set j ⟨ver+1,9,cs++[Aj x]⟩).set b ⟨0,130,[Aj nm,.own j (ver+1) (xs.length+1)]⟩++[⟨0,9,[Aj x]⟩]) (j':=j) (ver':=ver+1) (cs:=cs) (es:=[Aj x]) (ecs:=[Aj x]) (fun j2 ver2 e=>by cases e;exact⟨rfl,hj⟩) (fun e=>by cases e) (((Fr.set (S:=fun k=>k=b∨Cc (.own j ver xs.length) k) _ (.inr rfl)).trans (Fr.set (S:=fun k=>k=b∨Cc (.own j ver xs.length) k) _ (.inl rfl)) fun k e=>.inl e).trans (Fr.app (S:=Cj) _ _) fun k e=>e.elim) ((Ba (by rw[Bl,Bl];exact hjl)).trans ((Bn hjb.symm).trans (Be hjl))) ((Ba (by rw[Bl,Bl];exact hbl)).trans (Be (by rw[Bl];exact hbl))) rfl he;refine⟨hxs,(IN.i f1).trans k2 fun k e=>.inl e,_,rfl,?_,rfl,.own j (ver+1) (xs.length+1),?_⟩
     ·exact (Ba (by rw[Bl,Bl];exact hrl)).trans ((Bn a5.symm).trans ((Bn hji).trans r1))
     ·rw[hxe,hxf];exact k1)
 |false=>
  rw[hT]at r0;rw[if_neg (by decide)]at r0⊢;obtain⟨d1,d2,d3,d4,d5,d6,d7,d8,d9,d10⟩:=hB'.fr f0;simp only[CP,seval];refine CR.orders [[0,1,2,3,4,5,6,7],[0,2,1,3,4,5,6,7],[2,0,1,3,4,5,6,7],[0,2,3,1,4,5,6,7],[2,0,3,1,4,5,6,7],[0,2,3,4,1,5,6,7],[2,0,3,4,1,5,6,7],[2,3,0,1,4,5,6,7],[2,3,0,4,1,5,6,7],[2,3,4,0,1,5,6,7]] (fun _ _ _ h o h'=>Ge ts n L i h j9 (EF ts p) o h') (Ey _) (by kernel_rfl) (by kernel_rfl) (by kernel_rfl) (fun q hq=>?_);simp only[BI,List.not_mem_nil,or_false]at hq
  rcases hq with rfl|rfl|rfl|rfl|rfl|rfl|rfl|rfl|rfl|rfl
  all_goals simp only[WQ,IG,CQ,BU,Bu,Bz,B4,d8,d9,Bc,Bi,CP,seval]
  all_goals refine⟨iJ,MS E hp r0,fun r h1 hh=>?_,fun v h1 hh=>by obtain⟨q,e,eR,f1,rfl⟩:=Ge.pan hh;rw[eR];exact⟨IN.i (f0.trans f1 fun k e=>.inl e),rfl⟩⟩
  all_goals obtain⟨x,q,eR,f1',r1,rfl⟩:=Ge.ret hh
  all_goals rw[eR]
  all_goals have f1:Fr (B8 i) h h1:=f0.trans f1' fun k e=>.inl e
  all_goals obtain⟨b1,b2,b3,b4,b5,b6,b7,b8,b9,b10⟩:=hB'.fr f1
  all_goals have hbl:=(Bs.1 b9).1
  all_goals have hrl:=r1.lt
  all_goals have g7:∀ l,(h1++l)[b]?=some ⟨0,130,[Aj nm,N]⟩:=fun l=>(Ba hbl).trans b9
  all_goals have s6:∀ l c,(h1++l).set b c=h1.set b c++l:=fun l c=>Bg _ _ hbl
  all_goals have he:AL (fun k=>k<n0∨Cc N k) h1 [Aj x] [Aj x]:=AL.cons (Rd.str x) AL.nil
  all_goals have hxe:(xs++[x]).length=xs.length+1:=by simp
  all_goals have hxf:(xs++[x]).flatMap GJ=xs.flatMap GJ++[Aj x]:=by simp[GJ]
  all_goals have hB3:=hB'.fr f1
  all_goals rcases b10 with⟨rfl,e0,e1⟩|⟨j,ver,cs,rfl,hn,hj0,hj,hl,hrd⟩
  all_goals first
   |(have e0':=e0
     simp only[Bu,Bz,B4,b9,g7,Aw,s6,Bi,Bo,Bc,Aj,CP,seval];obtain⟨k1,k2⟩:=hB3.push (h':=h1.set b ⟨0,130,[Aj nm,.own (h1.length+1) 0 1]⟩++[⟨0,9,[Aj x]⟩,⟨0,9,[Aj x]⟩]) (j':=h1.length+1) (ver':=0) (cs:=[]) (es:=[Aj x]) (ecs:=[Aj x]) (fun j ver e=>by cases e) (fun _=>⟨by omega,rfl⟩) ((Fr.set _ (.inl rfl)).trans (Fr.app (S:=Cj) _ _) fun k e=>e.elim) (D1 _ _ _ _ _ _) (by rw[e0];exact (Ba (by rw[Bl];exact hbl)).trans (Be hbl)) rfl he;rw[e0]at k1;refine⟨(IN.i f1).trans k2 fun k e=>.inl e,_,rfl,?_,rfl,.own (h1.length+1) 0 1,?_⟩
     ·exact (Ba (by rw[Bl];exact hrl)).trans ((Bn a5.symm).trans r1)
     ·rw[hxe,hxf,e0];exact k1)
   |(have hjl:=(Bs.1 hj).1
     have hjb:j≠b:=by omega
     have hji:j≠i:=by omega
     have q1:∀ l,(h1++l)[j]?=some ⟨ver,9,cs⟩:=fun l=>(Ba hjl).trans hj
     have s8:∀ l c,(h1++l).set j c=h1.set j c++l:=fun l c=>Bg _ _ hjl
     have g9:∀ l c,(h1.set j c++l)[b]?=some ⟨0,130,[Aj nm,.own j ver xs.length]⟩:=fun l c=>(Ba (by rw[Bl];exact hbl)).trans ((Bn hjb).trans b9)
     have s9:∀ l c d,(h1.set j c++l).set b d=(h1.set j c).set b d++l:=fun l c d=>Bg _ _ (by rw[Bl];exact hbl)
     have hl':cs.length=xs.length * 1:=by omega
     have q4:List.take (xs.length * 1) cs=cs:=Bt (by omega);have q6:xs.length * 1≤cs.length:=by omega
     simp only[Nat.mul_one]at q4 q6;simp only[Bu,Bz,B4,b9,g7,Aw,Bi,Bc,Aj,q1,s8,g9,s9,q4,q6,CP,seval];obtain⟨k1,k2⟩:=hB3.push (h':=(h1.set j ⟨ver+1,9,cs++[Aj x]⟩).set b ⟨0,130,[Aj nm,.own j (ver+1) (xs.length+1)]⟩++[⟨0,9,[Aj x]⟩]) (j':=j) (ver':=ver+1) (cs:=cs) (es:=[Aj x]) (ecs:=[Aj x]) (fun j2 ver2 e=>by cases e;exact⟨rfl,hj⟩) (fun e=>by cases e) (((Fr.set (S:=fun k=>k=b∨Cc (.own j ver xs.length) k) _ (.inr rfl)).trans (Fr.set (S:=fun k=>k=b∨Cc (.own j ver xs.length) k) _ (.inl rfl)) fun k e=>.inl e).trans (Fr.app (S:=Cj) _ _) fun k e=>e.elim) ((Ba (by rw[Bl,Bl];exact hjl)).trans ((Bn hjb.symm).trans (Be hjl))) ((Ba (by rw[Bl,Bl];exact hbl)).trans (Be (by rw[Bl];exact hbl))) rfl he;refine⟨hxs,(IN.i f1).trans k2 fun k e=>.inl e,_,rfl,?_,rfl,.own j (ver+1) (xs.length+1),?_⟩
     ·exact (Ba (by rw[Bl,Bl];exact hrl)).trans ((Bn a5.symm).trans ((Bn hji).trans r1))
     ·rw[hxe,hxf];exact k1)
theorem c130:Al Tp 130:=⟨_,Tryz.func130,by kernel_rfl,by kernel_rfl⟩
def Pt.av(p:Pt):AV:=.agg p.cells
theorem Si(xs:List (List UInt8)):NF xs.length (xs.flatMap GJ)=GY xs:=by
 have:xs.flatMap GJ=xs.map Aj:=by
  induction xs with
  |nil=>rfl
  |cons x xs ih=>rw[BE,ih];rfl
 rw[this];rfl
theorem GL.one{n0:Nat}{t:TypeId}{sz:Nat}{h:List Aa}{N:AV}{n:Nat}{ys:List AV}(a:GL n0 t sz h N n ys):Cd N=true∧flat N=some [N]:=by rcases a with⟨rfl,_⟩|⟨j,ver,cs,rfl,_⟩<;>exact⟨rfl,rfl⟩
theorem Fr.pre{S:Nat→Prop}{h h':List Aa}{l:List Aa}(f:Fr S (h++l) h'):Fr S h h':=(Fr.app (S:=S) h l).trans f fun k e=>.inl e
theorem GL.rdS{n0 m:Nat}{t:TypeId}{sz:Nat}{h h':List Aa}{N:AV}{n:Nat}{ys:List AV}{S1:Nat→Prop}(a:GL n0 t sz h N n ys)(f:Fr S1 h h')(h1:∀ k,S1 k→k<h.length→k<n0)(hm:m≤n0):Rd (Old m) h' (NF n ys) N:=
 a.rd.up f h1 fun k e _=>BO e hm
theorem QL(E:Gi γ L ts){h:List Aa}{i p n:Nat}(hp:p≤ts.length)(hr:RD h i L p n):
  Ce Tp γ 130 [.ptr i 0 0] h (Ge ts n L i h (aJ Pt.av h.length) (EN ts p)):=by
 have hil:=hr.lt;have hn:=E.n;refine Ce.of Tryz.func130 rfl ?_;simp only[Tryz.f130,B4,Aw,Bo,Bc,Bi,Af,seval];refine Ka iJ (MS E hp (hr.app _)) (fun nm p1 a h1 e f1 r1 hA=>?_) (fun q e' h1 e f1=>?_)
 rotate_left
 ·unfold EN;rw[e];exact⟨f1.pre,rfl⟩
 have adv1:=DP hp;rw[e]at adv1;obtain⟨_,hp1⟩:=adv1;have eD:EN ts p=(Hj ts (P6 ts) p1).bind fun l p2=>.ok ⟨nm,l⟩ p2:=by unfold EN;rw[e];rfl
 rw[eD];subst hA;have k0:h1[h.length]?=some ⟨0,127,[.ptr i 0 0]⟩:=f1.at (Aw _ _ _) (fun e=>by have e:h.length=i:=e;omega);have k1:h1[h.length+1]?=some ⟨0,130,[Aj [],.v (.slice none 0 0)]⟩:=f1.at (AZ _ _ _ _) (fun e=>by have e:h.length+1=i:=e;omega);have hl1:=(Bs.1 k1).1;have g0:∀ l,(h1++l)[h.length]?=some ⟨0,127,[.ptr i 0 0]⟩:=fun l=>(Ba (by omega)).trans k0
 simp only[B4,g0,Aj,Aw,Du,Af,seval]
 have hlist:=M3 (b:=h1.length) (n0:=h1.length+1) E (I:=P6 ts) (fun p hp=>Qd hp) (Φ:=Qq i (h1.length+1) h1.length h.length 130 [Aj nm] 9 1 GJ) (fs:=[]) (cs:=[.ptr h.length 0 0,.ptr h1.length 0 0]) c201
  (fun h h1 xs a f=>a.fr f) (fun h p xs hp hx hr hB=>Wm E hp hr hB (by omega)) hp1 (r1.app [⟨0,130,[Aj nm,.v (.slice none 0 0)]⟩]) ⟨.v (.slice none 0 0),by omega,by omega,by omega,by omega,by omega,by omega,by simp,g0 _,Aw _ _ _,GL.nil⟩
 refine YR kL hlist (fun xs q a h2 e2 f2 r2 hA=>?_) (fun q e' h2 e2 f2=>?_)
 rotate_left
 ·rw[e2];exact⟨f1.pre.trans (f2.drop (by omega) (by omega)) fun k e=>.inl e,rfl⟩
 rw[e2];obtain⟨rfl,N,b1,b2,b3,b4,b5,b6,b7,b8,b9,b10⟩:=hA;have hbl:=(Bs.1 b9).1;obtain⟨oN,fN⟩:=b10.one;have k2:h2[h.length+1]?=some ⟨0,130,[Aj [],.v (.slice none 0 0)]⟩:=f2.at ((Ba (by omega)).trans k1) (fun e=>by rcases e with e|e|e<;>omega);have s5:∀ c,(h2.set (h.length+1) c)[h.length+1]?=some c:=fun c=>Be (Bs.1 k2).1
 simp only[B4,b9,k2,s5,oN,Ao,Aj,Bc,Bi,Af,seval];have rd:=b10.rdS (m:=h.length) (Fr.set (S:=B8 (h.length+1)) (h:=h2) ⟨0,130,[Aj nm,N]⟩ rfl) (fun k e _=>by have e:k=h.length+1:=e;omega) (by omega);rw[Si]at rd;have f12:Fr (B8 i) h h2:=f1.pre.trans (f2.drop (by omega) (by omega)) fun k e=>.inl e
 exact⟨f12.trans (Fr.set (S:=B8 (h.length+1)) _ rfl) fun k e=>.inr (by have e:k=h.length+1:=e;omega),_,rfl,(Bn (by omega)).trans r2,Rd.agg (AL.cons (Rd.str nm) (AL.cons rd AL.nil))⟩
end Go.Proofs.YtlobiioioicmhaaGreatDoor
