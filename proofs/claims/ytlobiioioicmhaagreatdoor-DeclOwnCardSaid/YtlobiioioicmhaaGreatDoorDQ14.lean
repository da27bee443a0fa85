/- A part of the proof. -/
import Derived.Test.YtlobiioioicmhaaGreatDoorDQ13
set_option linter.all false
set_option maxHeartbeats 8000000
namespace Go.Proofs.YtlobiioioicmhaaGreatDoor.O
open _root_.List renaming getElem?_eq_some_iff→Bs,getElem?_append_left→Ba,getElem?_append_right→Br,getElem?_set_self→Be,getElem?_set_ne→Bn,length_set→Bl,length_append→Bp,append_assoc→Bo,cons_append→Bc,nil_append→Bi,getElem?_cons_zero→Bz,getElem?_cons_succ→Bu,set_cons_zero→Bx,set_cons_succ→Bw,set_append_left→Bg,take_of_length_le→Bt,length_cons→BC,length_nil→BD,mem_cons→BI,append_nil→BS,getElem?_toArray→BU,set_append_right→BV
open _root_.Nat renaming zero_le→BN
open Go.Proofs.Tryz renaming prog→Tp
open Go Go.Ev
set_option maxRecDepth 20000
variable {γ:List (Nat×AV)}
def pathE:List Nat→Code→Option Code
 |[],c=>some c
 |0::p,.seq a _=>pathE p a
 |1::p,.seq _ b=>pathE p b
 |2::p,.block _ c=>pathE p c
 |3::p,.loop c=>pathE p c
 |_,_=>none
theorem LoopE.cast{F F':Post→St→Prop}{Q:Post}{s:St}(hF:∀ Q s,F' Q s→F Q s)(h:LoopE F' Q s):LoopE F Q s:=by
 obtain⟨R,n,s0,h1,h2,h3⟩:=h;exact⟨R,n,s0,h1,h2,fun m s1 hr=>hF _ _ (h3 m s1 hr)⟩
def LN(t:TypeId)(sz:Nat)(h:List ABlk)(N:AV)(n:Nat):Prop:=(N=.v (.slice none 0 0)∧n=0)∨∃ j ver cs,N=.own j ver n∧0<n∧h[j]?=some ⟨ver,t,cs⟩∧cs.length=n * sz
theorem LN.fr{t:TypeId}{sz:Nat}{h h':List ABlk}{N:AV}{n:Nat}{S:Nat→Prop}(a:LN t sz h N n)(f:Fr S h h')(hS:∀ k,nbk N k→¬S k):LN t sz h' N n:=by
 rcases a with a|⟨j,ver,cs,rfl,hn,hj,hl⟩
 ·exact .inl a
 ·exact .inr ⟨j,ver,cs,rfl,hn,f.at hj (hS j rfl),hl⟩
theorem LN.one{t:TypeId}{sz:Nat}{h:List ABlk}{N:AV}{n:Nat}(a:LN t sz h N n):oneA N=true∧flat N=some [N]:=by rcases a with⟨rfl,_⟩|⟨j,ver,cs,rfl,_⟩<;>exact⟨rfl,rfl⟩
theorem ow_LN{t:TypeId}{sz:Nat}{α:Type}{enc:α→List AV}{h:List ABlk}{l:List α}{N:AV}{F:List Nat}(o:ow (slA l.length (l.flatMap enc)) h (.s t) N F)(hz:(kT t).length=sz):LN t sz h N l.length∧∀ k,nbk N k→k∈F:=by
 rcases ow_list o with⟨rfl,rfl,rfl⟩|⟨j,ver,F',rfl,hn,rfl,A⟩
 ·exact⟨.inl ⟨rfl,rfl⟩,fun k hk=>hk.elim⟩
 ·obtain⟨cs,hj,hl⟩:=A.length;exact⟨.inr ⟨j,ver,cs,rfl,hn,hj,by rw[hl,hz];simp⟩,fun k hk=>by have hk:k=j:=hk;rw[hk];exact List.mem_cons_self ..⟩
theorem strsA_sl(l:List (List UInt8)):strsA l=slA l.length (l.flatMap encV):=(strsA_eq l).symm
theorem intsA_sl(l:List Int):intsA l=slA l.length (l.flatMap encI):=(intsA_eq l).symm
theorem expsA_sl(l:List (List Nd)):expsA l=slA l.length (l.flatMap encX):=(expsA_eq l).symm
theorem owL_v{h:List ABlk}{v:Value}{ys:List AV}{ks:List Ki}{xs:List AV}{F:List Nat}(o:owL (.v v::ys) h (.v::ks) xs F):∃ xs',xs=.v v::xs'∧owL ys h ks xs' F:=by
 simp only[owL]at o;obtain⟨k,ks',x,xs',F1,F2,e,rfl,rfl,o1,o2⟩:=o;cases e;simp only[ow]at o1;obtain⟨_,rfl,rfl⟩:=o1;exact⟨xs',rfl,o2⟩
theorem owL_c{h:List ABlk}{y:AV}{ys:List AV}{k:Ki}{ks:List Ki}{xs:List AV}{F:List Nat}(o:owL (y::ys) h (k::ks) xs F):∃ x xs' F1 F2,xs=x::xs'∧F=F1++F2∧ow y h k x F1∧owL ys h ks xs' F2:=by
 simp only[owL]at o;obtain⟨k,ks',x,xs',F1,F2,e,rfl,rfl,o1,o2⟩:=o;cases e;exact⟨x,xs',F1,F2,rfl,rfl,o1,o2⟩
theorem owL_n{h:List ABlk}{ks:List Ki}{xs:List AV}{F:List Nat}(o:owL [] h ks xs F):xs=[]∧F=[]:=by
 simp only[owL]at o;exact o.2
theorem pt_inv{h:List ABlk}{x:Pt}{xs:List AV}{F:List Nat}(o:owL x.cells h (kT 130) xs F):∃ V,xs=[strC x.tag,V]∧ow (strsA x.vars) h (.s 9) V F:=by
 have q:owL [.v _,_] h [.v,.s 9] xs F:=o;obtain⟨xs1,rfl,q1⟩:=owL_v q;obtain⟨V,xs2,F1,F2,rfl,rfl,o1,o2⟩:=owL_c q1;obtain⟨rfl,rfl⟩:=owL_n o2;rw[BS];exact⟨V,rfl,o1⟩
noncomputable def c43a:Code:=(Tryz.f43.body.bind (pathE [1,1,0,1,2,3,1,0,2,0,1,2,3])).getD .skip
noncomputable def c43b:Code:=(Tryz.f43.body.bind (pathE [1,1,0,1,2,3])).getD .skip
def scS(γ:List (Nat×AV))(b i:Nat)(y:Nat×List ABlk):St:=⟨⟨149,[(1,.ptr b 0 0),(2,.v (.int .i64 (i:Int))),(3,.v (.int .i64 (y.1:Int)))],γ⟩,y.2⟩
theorem sc_vars{E:AV→St→Prop}{Q:Post}{l0:List (Nat×AV)}{hh:List ABlk}{b jp vp np i n:Nat}{s0 g0 b0 V:AV}{cp:List AV}
  (e1:Go.Ev.look l0 1=.ptr b 0 0) (e2:Go.Ev.look l0 2=.v (.int .i64 (i:Int))) (e3:Go.Ev.look l0 3=.v (.int .i64 0))
  (kb:hh[b]?=some ⟨0,59,[s0,.own jp vp np,g0,b0]⟩) (kp:hh[jp]?=some ⟨vp,130,cp⟩) (hi:i<np) (hV:cp[i * 2+1]?=some V) (LV:LN 9 1 hh V n) (hvb:¬nbk V b) (hvp:¬nbk V jp) (hn:n≤2000000)
  (hQ:∀ l1 h1,Go.Ev.look l1 1=.ptr b 0 0→Go.Ev.look l1 2=.v (.int .i64 (i:Int))→Fr (nbk V) hh h1→LN 9 1 h1 V n→Q (.exit 2) ⟨⟨149,l1,γ⟩,h1⟩):LoopE (fun Q s=>kwpE Tp E c43a Q s) Q ⟨⟨149,l0,γ⟩,hh⟩:=by
 have d0:decide (((0:Nat):Int)<0)=false:=rfl
 rcases LV with⟨rfl,rfl⟩|⟨jv,vv,cv,rfl,hn0,hj,hl⟩
 ·refine LoopE.intro (scS γ b i) (fun y=>y=(0,hh)) (fun y=>0) (0,hh) ⟨rfl,rfl,⟨e1,e2,e3,trivial⟩,rfl⟩ rfl (fun y hy=>?_);subst hy;simp only[c43a,Tryz.f43,pathE,Option.bind_some,Option.getD_some,scS,tyD,tyO,d0,kb,kp,hV,evE,Nat.reduceLT,Nat.reduceEqDiff,reduceCtorEq];exact⟨hi,hQ _ _ rfl rfl (Fr.refl _ _) (.inl ⟨rfl,rfl⟩)⟩
 ·have hvb:b≠jv:=hvb;have hvp:jp≠jv:=hvp;refine LoopE.intro (scS γ b i) (fun y=>y.1≤n∧Fr (IsI jv) hh y.2∧∃ cv,y.2[jv]?=some ⟨vv,9,cv⟩∧cv.length=n) (fun y=>n-y.1) (0,hh) ⟨rfl,rfl,⟨e1,e2,e3,trivial⟩,rfl⟩ ⟨BN _,Fr.refl _ _,cv,hj,by omega⟩ (fun y hy=>?_);clear hj hl cv;obtain⟨k,h1⟩:=y;obtain⟨hk,f1,cv,hj,hl⟩:=hy;simp only at hk f1 hj;have kb1:=f1.at kb hvb;have kp1:=f1.at kp hvp
  by_cases hlt:k<n
  ·have d1:decide (k<n)=true:=decide_eq_true hlt;have w1:IntKind.i64.wrap ((k:Int)+1)=((k+1:Nat):Int):=(i64w (by omega) (by omega)).trans (by omega);have hkl:k+1≤cv.length:=by omega
   simp only[c43a,Tryz.f43,pathE,Option.bind_some,Option.getD_some,scS,tyD,tyO,kb1,kp1,hV,hj,d1,hkl,w1,evE,tyX,Nat.reduceLT,Nat.reduceEqDiff,reduceCtorEq];exact⟨hi,hi,hlt,loopCE.intro (k+1,_) ⟨hlt,f1.trans (Fr.set (S:=IsI jv) _ rfl) fun k e=>.inl e,_,Be (Bs.1 hj).1,by rw[Bl];exact hl⟩ ⟨rfl,rfl,⟨rfl,rfl,rfl,trivial⟩,rfl⟩ (by show n-(k+1)<n-k;clear w1;omega)⟩
  ·have d1:decide (k<n)=false:=decide_eq_false hlt;simp only[c43a,Tryz.f43,pathE,Option.bind_some,Option.getD_some,scS,tyD,tyO,kb1,kp1,hV,hj,d1,evE,Nat.reduceLT,Nat.reduceEqDiff,reduceCtorEq];exact⟨hi,hQ _ _ rfl rfl f1 (.inr ⟨jv,vv,cv,rfl,hn0,hj,by omega⟩)⟩
def spS(γ:List (Nat×AV))(b:Nat)(y:Nat×List ABlk):St:=⟨⟨149,[(1,.ptr b 0 0),(2,.v (.int .i64 (y.1:Int)))],γ⟩,y.2⟩
theorem sc_parts{E:AV→St→Prop}{Q:Post}{l0:List (Nat×AV)}{hh:List ABlk}{b:Nat}{s0 P g0 b0:AV}{ps:List Pt}{FP:List Nat}
  (e1:Go.Ev.look l0 1=.ptr b 0 0) (e2:Go.Ev.look l0 2=.v (.int .i64 0)) (kb:hh[b]?=some ⟨0,59,[s0,P,g0,b0]⟩) (oP:ow (partsA ps) hh (.s 130) P FP) (hF:FP.Nodup) (hb:b∉FP) (hn:ps.length≤2000000) (hv:∀ p∈ps,p.vars.length≤2000000)
  (hQ:∀ l1 h1,Go.Ev.look l1 1=.ptr b 0 0→Fr (·∈ FP) hh h1→LN 130 2 h1 P ps.length→Q (.exit 0) ⟨⟨149,l1,γ⟩,h1⟩):LoopE (fun Q s=>kwpE Tp E c43b Q s) Q ⟨⟨149,l0,γ⟩,hh⟩:=by
 have d0:decide (((0:Nat):Int)<0)=false:=rfl
 rcases ow_list oP with⟨rfl,rfl,rfl⟩|⟨jp,vp,F',rfl,hn0,rfl,A⟩
 ·refine LoopE.intro (spS γ b) (fun y=>y=(0,hh)) (fun y=>0) (0,hh) ⟨rfl,rfl,⟨e1,e2,trivial⟩,rfl⟩ rfl (fun y hy=>?_);subst hy;simp only[c43b,Tryz.f43,pathE,Option.bind_some,Option.getD_some,spS,tyD,tyO,d0,kb,evE,Nat.reduceLT,Nat.reduceEqDiff,reduceCtorEq];exact hQ _ _ rfl (Fr.refl _ _) (.inl ⟨rfl,rfl⟩)
 obtain⟨hj0,hF'⟩:=List.nodup_cons.1 hF;have hbj:b≠jp:=fun e=>hb (by rw[e];exact List.mem_cons_self ..)
 generalize hnp:ps.length=np at *
 refine LoopE.intro (spS γ b) (fun y=>∃ (dn:List AV) (l:List Pt) (FR:List Nat),y.1+l.length=np∧dn.length=y.1 * 2∧Arr 130 Pt.cells y.2 jp vp dn l FR∧(∀ k∈FR,k∈F')∧FR.Nodup∧(∀ p∈l,p∈ps)∧Fr (·∈ jp::F') hh y.2) (fun y=>np-y.1) (0,hh) ⟨rfl,rfl,⟨e1,e2,trivial⟩,rfl⟩
  ⟨[],ps,F',by simpa using hnp,rfl,A,fun k h=>h,hF',fun p h=>h,Fr.refl _ _⟩ (fun y hy=>?_)
 clear A;obtain⟨i,h1⟩:=y;obtain⟨dn,l,FR,hil,hdn,A,hFR,hFN,hl,f1⟩:=hy;simp only at hil hdn A f1;have kb1:=f1.at kb hb;cases l with
 |nil=>
  have hi:i=np:=hil;have d1:decide (i<np)=false:=decide_eq_false (by omega);obtain⟨cs,hj,hcl⟩:=A.length;simp only[c43b,Tryz.f43,pathE,Option.bind_some,Option.getD_some,spS,tyD,tyO,kb1,hj,d1,evE,Nat.reduceLT,Nat.reduceEqDiff,reduceCtorEq];refine hQ _ _ ?_ f1 (.inr ⟨jp,vp,cs,rfl,hn0,hj,by rw[hcl,hdn,hi];simp[kT]⟩)
  rfl
 |cons x l=>
  have hlt:i<np:=by rw[BC]at hil;omega
  have d1:decide (i<np)=true:=decide_eq_true hlt;obtain⟨xs1,xs2,F1,F2,rfl,kp,hx1,o1,o2⟩:=A.cons (by rfl);obtain⟨V,rfl,oV⟩:=pt_inv o1
  have hV:(dn++strC x.tag::V::xs2)[i * 2+1]?=some V:=by
   rw[Br (by omega),hdn,show i * 2+1-i * 2=1 by omega];rfl
  rw[strsA_sl]at oV;obtain⟨LV,hVF⟩:=ow_LN oV rfl;have hvb:¬nbk V b:=fun e=>hb (List.mem_cons_of_mem _ (hFR _ (List.mem_append_left _ (hVF _ e))))
  have hvp:¬nbk V jp:=fun e=>hj0 (hFR _ (List.mem_append_left _ (hVF _ e)))
  have hvn:=hv x (hl x (List.mem_cons_self ..));simp only[c43b,Tryz.f43,pathE,Option.bind_some,Option.getD_some,spS,tyD,tyO,kb1,kp,d1,evE,Nat.reduceLT,Nat.reduceEqDiff,reduceCtorEq];refine LoopE.cast (fun Q s h=>?_) (sc_vars (γ:=γ) (E:=E) (b:=b) (jp:=jp) (vp:=vp) (np:=np) (i:=i) ?_ ?_ ?_ kb1 kp hlt hV LV hvb hvp hvn (fun l1 h2 q1 q2 f2 LV2=>?_))
  ·simp only[c43a,Tryz.f43,pathE,Option.bind_some,Option.getD_some,evE]at h;exact h
  ·rfl
  ·rfl
  ·rfl
  have kb2:=f2.at kb1 hvb;have kp2:=f2.at kp hvp;have hpl:=(Bs.1 kp2).1;simp only[q2,evE,Nat.reduceLT,Nat.reduceEqDiff,reduceCtorEq];refine DrawK.orders2 [[0,1,2,3,4,5,6,7,8,9,10,11,12,13],[3,4,5,6,7,8,9,10,0,1,2,11,12,13],[0,3,4,5,6,7,8,9,10,1,2,11,12,13]] (by kernel_rfl) (by kernel_rfl) (by kernel_rfl) (fun w hw=>?_);simp only[BI,List.not_mem_nil,or_false]at hw;have hbl2:=(Bs.1 kb2).1;have gb:∀ l,(h2++l)[b]?=some ⟨0,59,[s0,.own jp vp np,g0,b0]⟩:=fun l=>(Ba hbl2).trans kb2
  have gp:∀ l,(h2++l)[jp]?=some ⟨vp,130,dn++([strC x.tag,V]++xs2)⟩:=fun l=>(Ba hpl).trans kp2
  have sp:∀ l c,(h2++l).set jp c=h2.set jp c++l:=fun l c=>Bg _ _ hpl
  have hset:∀ y,(dn++strC x.tag::V::xs2).set (i * 2+1) y=dn++strC x.tag::y::xs2:=fun y=>by
   rw[BV _ _ (by omega),hdn,show i * 2+1-i * 2=1 by omega];rfl
  have w1:IntKind.i64.wrap ((i:Int)+1)=((i+1:Nat):Int):=(i64w (by omega) (by omega)).trans (by omega);have hle:i * 2+1+1≤dn.length+(xs2.length+1+1):=by omega
  have fin:∀ (hq:List ABlk) (y:AV),hq[jp]?=some ⟨vp,130,dn++strC x.tag::y::xs2⟩→Fr (fun k=>k=jp∨nbk V k) h2 hq→∃ (dn:List AV) (l:List Pt) (FR:List Nat),i+1+l.length=np∧dn.length=(i+1) * 2∧Arr 130 Pt.cells hq jp vp dn l FR∧(∀ k∈FR,k∈F')∧FR.Nodup∧(∀ p∈l,p∈ps)∧Fr (·∈ jp::F') hh hq:=fun hq y e fq=>by
   have hFN':=List.nodup_append.1 hFN;have fa:Fr (fun k=>k=jp∨nbk V k) h1 hq:=(f2.mono fun k e=>.inr e).trans fq fun k e=>.inl e
   refine⟨dn++[strC x.tag,y],l,F2,by rw[BC]at hil;omega,by rw[Bp,hdn];simp only[BC,BD];omega,⟨xs2,by rw[e];simp,?_⟩,fun k h=>hFR k (List.mem_append_right _ h),hFN'.2.1,fun p h=>hl p (List.mem_cons_of_mem _ h),f1.trans fa fun k e=>.inl ?_⟩
   ·refine owL_fr2 o2 fa fun k hk e=>?_
    rcases e with rfl|e
    ·exact hj0 (hFR _ (List.mem_append_right _ hk))
    ·exact hFN'.2.2 k (hVF _ e) k hk rfl
   ·rcases e with rfl|e
    ·exact List.mem_cons_self ..
    ·exact List.mem_cons_of_mem _ (hFR _ (List.mem_append_left _ (hVF _ e)))
  clear kb1 kp o1 oV A hx1 hVF o2 hFR hFN hQ oP
  rcases LV2 with⟨rfl,ev⟩|⟨jv,vv,cv,rfl,hnv,hjv,hlv⟩
  ·rcases hw with rfl|rfl|rfl
   all_goals simp only[seqT,BU,Bu,Bz,tyD,tyO,q1,q2,kb2,kp2,gb,gp,sp,hV,hset,hle,w1,at_len,Bo,Bc,Bi,evE,Nat.reduceAdd,Nat.reduceMul,Nat.reduceLT,Nat.reduceLeDiff,Nat.reduceEqDiff,reduceCtorEq,List.reduceReplicate]
   all_goals refine⟨hlt,hlt,loopCE.intro (i+1,_) (fin _ _ (Ba (by rw[Bl];exact hpl) |>.trans (Be hpl)) ?_) ⟨rfl,rfl,⟨q1,rfl,trivial⟩,rfl⟩ (by show np-(i+1)<np-i;clear w1;omega)⟩
   all_goals exact (Fr.set (S:=fun k=>k=jp∨nbk (.v (.slice none 0 0)) k) _ (.inl rfl)).trans (Fr.app (S:=NoB) _ _) fun k e=>e.elim
  ·have hjl:=(Bs.1 hjv).1;have hvp:jp≠jv:=hvp;have hvb:b≠jv:=hvb;have gv:∀ l,(h2++l)[jv]?=some ⟨vv,9,cv⟩:=fun l=>(Ba hjl).trans hjv
   have sv:∀ l c,(h2++l).set jv c=h2.set jv c++l:=fun l c=>Bg _ _ hjl
   have gb2:∀ l c,(h2.set jv c++l)[b]?=some ⟨0,59,[s0,.own jp vp np,g0,b0]⟩:=fun l c=>(Ba (by rw[Bl];exact hbl2)).trans ((Bn hvb.symm).trans kb2)
   have gp2:∀ l c,(h2.set jv c++l)[jp]?=some ⟨vp,130,dn++strC x.tag::AV.own jv vv x.vars.length::xs2⟩:=fun l c=>(Ba (by rw[Bl];exact hpl)).trans ((Bn hvp.symm).trans ((Ba hpl).symm.trans (gp [])))
   have sp2:∀ l c d,(h2.set jv c++l).set jp d=(h2.set jv c).set jp d++l:=fun l c d=>Bg _ _ (by rw[Bl];exact hpl)
   have q4:List.take x.vars.length cv=cv:=Bt (by omega);have q6:x.vars.length≤cv.length:=by omega
   rcases hw with rfl|rfl|rfl
   all_goals simp only[seqT,BU,Bu,Bz,tyD,tyO,q1,q2,kb2,kp2,gv,sv,gb2,gp2,sp2,q4,q6,hV,hset,hle,w1,at_len,Bc,Bi,evE,Nat.reduceAdd,Nat.reduceLT,Nat.reduceLeDiff,Nat.reduceEqDiff,reduceCtorEq,List.reduceReplicate]
   all_goals refine⟨hlt,by clear w1;omega,hlt,loopCE.intro (i+1,_) (fin _ _ ((Ba (by rw[Bl,Bl];exact hpl)).trans (Be (by rw[Bl];exact hpl))) ?_) ⟨rfl,rfl,⟨q1,rfl,trivial⟩,rfl⟩ (by show np-(i+1)<np-i;clear w1;omega)⟩
   all_goals exact ((Fr.set (S:=fun k=>k=jp∨nbk (.own jv vv x.vars.length) k) _ (.inr rfl)).trans (Fr.set (S:=fun k=>k=jp∨nbk (.own jv vv x.vars.length) k) _ (.inl rfl)) fun k e=>.inl e).trans (Fr.app (S:=NoB) _ _) fun k e=>e.elim
theorem ac_inv{h:List ABlk}{x:Ac}{xs:List AV}{F:List Nat}(o:owL x.cells h (kT 135) xs F):∃ T A F1 F2,xs=[intC x.kind,T,strC x.name,strC x.var,A]∧F=F1++F2∧ow (nodesA x.to) h (.s 115) T F1∧ow (expsA x.args) h (.s 41) A F2:=by
 have q:owL [.v _,_,.v _,.v _,_] h [.v,.s 115,.v,.v,.s 41] xs F:=o;obtain⟨xs1,rfl,q1⟩:=owL_v q;obtain⟨T,xs2,F1,F2,rfl,rfl,o1,o2⟩:=owL_c q1;obtain⟨xs3,rfl,q2⟩:=owL_v o2;obtain⟨xs4,rfl,q3⟩:=owL_v q2;obtain⟨A,xs5,F3,F4,rfl,rfl,o3,o4⟩:=owL_c q3;obtain⟨rfl,rfl⟩:=owL_n o4;rw[BS];exact⟨T,A,F1,F3,rfl,rfl,o1,o3⟩
theorem ex_inv{h:List ABlk}{x:List Nd}{xs:List AV}{F:List Nat}(o:owL (encX x) h (kT 41) xs F):∃ X,xs=[X]∧ow (nodesA x) h (.s 115) X F:=by
 have q:owL [_] h [.s 115] xs F:=o;obtain⟨X,xs2,F1,F2,rfl,rfl,o1,o2⟩:=owL_c q;obtain⟨rfl,rfl⟩:=owL_n o2;rw[BS];exact⟨X,rfl,o1⟩
theorem ow_one{h:List ABlk}{ns:List Nd}{N:AV}{F:List Nat}(o:ow (nodesA ns) h (.s 115) N F):oneA N=true∧flat N=some [N]:=by
 rw[nodesA_sl]at o;exact (ow_LN o rfl).1.one
theorem take1{dn xs:List AV}{x:AV}{k:Nat}(h:dn.length=k):List.take 1 (List.drop k (dn++x::xs))=[x]:=by subst h;simp
theorem drop1{dn xs:List AV}{x:AV}{k:Nat}(h:dn.length=k):List.drop k (dn++x::xs)=x::xs:=by subst h;simp
noncomputable def c43c:Code:=(Tryz.f43.body.bind (pathE [1,1,1,0,1,2,3,1,0,2,1,0,1,2,3])).getD .skip
noncomputable def c43d:Code:=(Tryz.f43.body.bind (pathE [1,1,1,0,1,2,3])).getD .skip
def saS(γ:List (Nat×AV))(b i:Nat)(y:Nat×List ABlk):St:=⟨⟨149,[(1,.ptr b 0 0),(4,.v (.int .i64 (i:Int))),(5,.v (.int .i64 (y.1:Int)))],γ⟩,y.2⟩
theorem sc_args{E:AV→St→Prop}{Q:Post}{l0:List (Nat×AV)}{hh:List ABlk}{b jb vb nb i:Nat}{s0 P g0 A:AV}{cb:List AV}{es:List (List Nd)}{FA:List Nat}
  (e1:Go.Ev.look l0 1=.ptr b 0 0) (e2:Go.Ev.look l0 4=.v (.int .i64 (i:Int))) (e3:Go.Ev.look l0 5=.v (.int .i64 0))
  (kb:hh[b]?=some ⟨0,59,[s0,P,g0,.own jb vb nb]⟩) (kp:hh[jb]?=some ⟨vb,135,cb⟩) (hi:i<nb) (hA:cb[i * 5+4]?=some A) (oA:ow (expsA es) hh (.s 41) A FA) (hF:FA.Nodup) (hvb:b∉FA) (hvp:jb∉FA) (hn:es.length≤2000000) (hx:∀ x∈es,x.length≤2000000)
  (hQ:∀ l1 h1,Go.Ev.look l1 1=.ptr b 0 0→Go.Ev.look l1 4=.v (.int .i64 (i:Int))→Fr (·∈ FA) hh h1→LN 41 1 h1 A es.length→Q (.exit 6) ⟨⟨149,l1,γ⟩,h1⟩):LoopE (fun Q s=>kwpE Tp E c43c Q s) Q ⟨⟨149,l0,γ⟩,hh⟩:=by
 have d0:decide (((0:Nat):Int)<0)=false:=rfl;rw[expsA_sl]at oA
 rcases ow_list oA with⟨rfl,rfl,rfl⟩|⟨ja,va,F',rfl,hn0,rfl,Aa⟩
 ·refine LoopE.intro (saS γ b i) (fun y=>y=(0,hh)) (fun y=>0) (0,hh) ⟨rfl,rfl,⟨e1,e2,e3,trivial⟩,rfl⟩ rfl (fun y hy=>?_);subst hy;simp only[c43c,Tryz.f43,pathE,Option.bind_some,Option.getD_some,saS,tyD,tyO,d0,kb,kp,hA,evE,Nat.reduceLT,Nat.reduceEqDiff,reduceCtorEq];exact⟨hi,hQ _ _ rfl rfl (Fr.refl _ _) (.inl ⟨rfl,rfl⟩)⟩
 obtain⟨hj0,hF'⟩:=List.nodup_cons.1 hF;have hbj:b≠ja:=fun e=>hvb (by rw[e];exact List.mem_cons_self ..)
 have hpj:jb≠ja:=fun e=>hvp (by rw[e];exact List.mem_cons_self ..)
 generalize hna:es.length=na at *
 refine LoopE.intro (saS γ b i) (fun y=>∃ (dn:List AV) (l:List (List Nd)) (FR:List Nat),y.1+l.length=na∧dn.length=y.1∧Arr 41 encX y.2 ja va dn l FR∧(∀ k∈FR,k∈F')∧FR.Nodup∧(∀ p∈l,p∈es)∧Fr (·∈ ja::F') hh y.2) (fun y=>na-y.1) (0,hh) ⟨rfl,rfl,⟨e1,e2,e3,trivial⟩,rfl⟩
  ⟨[],es,F',by simpa using hna,rfl,Aa,fun k h=>h,hF',fun p h=>h,Fr.refl _ _⟩ (fun y hy=>?_)
 clear Aa;obtain⟨k,h1⟩:=y;obtain⟨dn,l,FR,hil,hdn,Aa,hFR,hFN,hl,f1⟩:=hy;simp only at hil hdn Aa f1;have kb1:=f1.at kb hvb;have kp1:=f1.at kp hvp;cases l with
 |nil=>
  have hk:k=na:=hil;have d1:decide (k<na)=false:=decide_eq_false (by omega);obtain⟨cs,hj,hcl⟩:=Aa.length;simp only[c43c,Tryz.f43,pathE,Option.bind_some,Option.getD_some,saS,tyD,tyO,kb1,kp1,hA,hj,d1,evE,Nat.reduceLT,Nat.reduceEqDiff,reduceCtorEq];exact⟨hi,hQ _ _ rfl rfl f1 (.inr ⟨ja,va,cs,rfl,hn0,hj,by rw[hcl,hdn,hk];simp[kT]⟩)⟩
 |cons x l=>
  have hlt:k<na:=by rw[BC]at hil;omega
  have d1:decide (k<na)=true:=decide_eq_true hlt;obtain⟨xs1,xs2,F1,F2,rfl,kq,hx1,o1,o2⟩:=Aa.cons (by rfl);obtain⟨X,rfl,oX⟩:=ex_inv o1;have hxn:=hx x (hl x (List.mem_cons_self ..));have t1:List.take 1 (List.drop k (dn++X::xs2))=[X]:=take1 hdn;have t2:List.drop k (dn++X::xs2)=X::xs2:=drop1 hdn;obtain⟨oX1,fX1⟩:=ow_one oX;simp only[c43c,Tryz.f43,pathE,Option.bind_some,Option.getD_some,saS,tyD,tyO,kb1,kp1,hA,kq,d1,t2,Bc,Bi,evE,Nat.reduceLT,Nat.reduceLeDiff,Nat.reduceEqDiff,reduceCtorEq];refine⟨hi,hi,hlt,CallE.intro c87 _ (nodes_ev oX hxn) (fun r h2 hh=>?_) (fun v h2 hh=>by cases hh.1)⟩;obtain⟨er,f2⟩:=hh;cases er;have hFN':=List.nodup_append.1 hFN;have nF1:∀ k,k∈F1→k∈ja::F':=fun k h=>List.mem_cons_of_mem _ (hFR _ (List.mem_append_left _ h))
  have kb2:=f2.at kb1 (fun e=>hvb (nF1 _ e));have kp2:=f2.at kp1 (fun e=>hvp (nF1 _ e));have kq2:=f2.at kq (fun e=>hj0 (hFR _ (List.mem_append_left _ e)));have hjl:=(Bs.1 kq2).1;have gq:∀ l,(h2++l)[ja]?=some ⟨va,41,dn++([X]++xs2)⟩:=fun l=>(Ba hjl).trans kq2
  have gb:∀ l,(h2++l)[b]?=some ⟨0,59,[s0,P,g0,.own jb vb nb]⟩:=fun l=>(Ba (Bs.1 kb2).1).trans kb2
  have gp:∀ l,(h2++l)[jb]?=some ⟨vb,135,cb⟩:=fun l=>(Ba (Bs.1 kp2).1).trans kp2
  have sq:∀ l c,(h2++l).set ja c=h2.set ja c++l:=fun l c=>Bg _ _ hjl
  have hset:∀ y,(dn++X::xs2).set k y=dn++y::xs2:=fun y=>by
   rw[BV _ _ (by omega),hdn,Nat.sub_self];rfl
  have hle:k+1≤dn.length+(xs2.length+1):=by omega
  have w1:IntKind.i64.wrap ((k:Int)+1)=((k+1:Nat):Int):=(i64w (by omega) (by omega)).trans (by omega);simp only[tyD,tyO,kb2,kp2,gq,sq,hA,hset,hle,w1,Bc,Bi,evE,tyX,Nat.reduceAdd,Nat.reduceLT,Nat.reduceLeDiff,Nat.reduceEqDiff,reduceCtorEq,List.reduceReplicate];refine⟨hi,hlt,loopCE.intro (k+1,_) ⟨dn++[.own h2.length 0 1],l,F2,?_,?_,⟨xs2,?_,?_⟩,fun k h=>hFR k (List.mem_append_right _ h),hFN'.2.1,fun p h=>hl p (List.mem_cons_of_mem _ h),?_⟩ ⟨rfl,rfl,⟨rfl,rfl,rfl,trivial⟩,rfl⟩ (by show na-(k+1)<na-k;clear w1;omega)⟩
  ·rw[BC]at hil;show k+1+l.length=na;clear w1;omega
  ·rw[Bp,hdn];rfl
  ·refine (Ba (by rw[Bl];exact hjl)).trans ((Be hjl).trans ?_);rw[Bo];rfl
  ·refine owL_fr2 o2 (S:=fun k=>k∈F1∨k=ja) ((f2.mono fun k e=>.inl e).trans ((Fr.set (S:=fun k=>k∈F1∨k=ja) _ (.inr rfl)).trans (Fr.app (S:=NoB) _ _) fun k e=>e.elim) fun k e=>.inl e) fun k hk e=>?_
   rcases e with e|rfl
   ·exact hFN'.2.2 k e k hk rfl
   ·exact hj0 (hFR _ (List.mem_append_right _ hk))
  ·refine f1.trans ((f2.mono (S1:=fun k=>k∈F1∨k=ja) fun k e=>.inl e).trans ((Fr.set (S:=fun k=>k∈F1∨k=ja) _ (.inr rfl)).trans (Fr.app (S:=NoB) _ _) fun k e=>e.elim) fun k e=>.inl e) fun k e=>.inl ?_
   rcases e with e|rfl
   ·exact nF1 _ e
   ·exact List.mem_cons_self ..
def sbS(γ:List (Nat×AV))(b:Nat)(y:Nat×List ABlk):St:=⟨⟨149,[(1,.ptr b 0 0),(4,.v (.int .i64 (y.1:Int)))],γ⟩,y.2⟩
theorem sc_acts{E:AV→St→Prop}{Q:Post}{l0:List (Nat×AV)}{hh:List ABlk}{b:Nat}{s0 P g0 B:AV}{es:List Ac}{FB:List Nat}
  (e1:Go.Ev.look l0 1=.ptr b 0 0) (e2:Go.Ev.look l0 4=.v (.int .i64 0)) (kb:hh[b]?=some ⟨0,59,[s0,P,g0,B]⟩) (oB:ow (actsA es) hh (.s 135) B FB) (hF:FB.Nodup) (hb:b∉FB) (hn:es.length≤2000000) (hv:∀ a∈es,a.to.length≤2000000∧a.args.length≤2000000∧∀ x∈a.args,x.length≤2000000)
  (hQ:∀ l1 h1,Go.Ev.look l1 1=.ptr b 0 0→Fr (·∈ FB) hh h1→LN 135 5 h1 B es.length→Q (.exit 4) ⟨⟨149,l1,γ⟩,h1⟩):LoopE (fun Q s=>kwpE Tp E c43d Q s) Q ⟨⟨149,l0,γ⟩,hh⟩:=by
 have d0:decide (((0:Nat):Int)<0)=false:=rfl
 rcases ow_list oB with⟨rfl,rfl,rfl⟩|⟨jb,vb,F',rfl,hn0,rfl,A⟩
 ·refine LoopE.intro (sbS γ b) (fun y=>y=(0,hh)) (fun y=>0) (0,hh) ⟨rfl,rfl,⟨e1,e2,trivial⟩,rfl⟩ rfl (fun y hy=>?_);subst hy;simp only[c43d,Tryz.f43,pathE,Option.bind_some,Option.getD_some,sbS,tyD,tyO,d0,kb,evE,Nat.reduceLT,Nat.reduceEqDiff,reduceCtorEq];exact hQ _ _ rfl (Fr.refl _ _) (.inl ⟨rfl,rfl⟩)
 obtain⟨hj0,hF'⟩:=List.nodup_cons.1 hF;have hbj:b≠jb:=fun e=>hb (by rw[e];exact List.mem_cons_self ..)
 generalize hnb:es.length=nb at *
 refine LoopE.intro (sbS γ b) (fun y=>∃ (dn:List AV) (l:List Ac) (FR:List Nat),y.1+l.length=nb∧dn.length=y.1 * 5∧Arr 135 Ac.cells y.2 jb vb dn l FR∧(∀ k∈FR,k∈F')∧FR.Nodup∧(∀ p∈l,p∈es)∧Fr (·∈ jb::F') hh y.2) (fun y=>nb-y.1) (0,hh) ⟨rfl,rfl,⟨e1,e2,trivial⟩,rfl⟩
  ⟨[],es,F',by simpa using hnb,rfl,A,fun k h=>h,hF',fun p h=>h,Fr.refl _ _⟩ (fun y hy=>?_)
 clear A;obtain⟨i,h1⟩:=y;obtain⟨dn,l,FR,hil,hdn,A,hFR,hFN,hl,f1⟩:=hy;simp only at hil hdn A f1;have kb1:=f1.at kb hb;cases l with
 |nil=>
  have hi:i=nb:=hil;have d1:decide (i<nb)=false:=decide_eq_false (by omega);obtain⟨cs,hj,hcl⟩:=A.length;simp only[c43d,Tryz.f43,pathE,Option.bind_some,Option.getD_some,sbS,tyD,tyO,kb1,hj,d1,evE,Nat.reduceLT,Nat.reduceEqDiff,reduceCtorEq];refine hQ _ _ ?_ f1 (.inr ⟨jb,vb,cs,rfl,hn0,hj,by rw[hcl,hdn,hi];simp[kT]⟩)
  rfl
 |cons x l=>
  have hlt:i<nb:=by rw[BC]at hil;omega
  have d1:decide (i<nb)=true:=decide_eq_true hlt;obtain⟨xs1,xs2,F1,F2,rfl,kp,hx1,o1,o2⟩:=A.cons (by rfl);obtain⟨T,V,FT,FA,rfl,rfl,oT,oA⟩:=ac_inv o1;obtain⟨hvT,hvA,hvX⟩:=hv x (hl x (List.mem_cons_self ..));have e5:dn++([intC x.kind,T,strC x.name,strC x.var,V]++xs2)=(dn++[intC x.kind])++T::strC x.name::strC x.var::V::xs2:=by simp
  have t1:List.take 1 (List.drop (i * 5+1) (dn++intC x.kind::T::strC x.name::strC x.var::V::xs2))=[T]:=by
   have:=take1 (dn:=dn++[intC x.kind]) (x:=T) (xs:=strC x.name::strC x.var::V::xs2) (k:=i * 5+1) (by rw[Bp,hdn];rfl)
   rwa [←e5]at this
  have t2:List.drop (i * 5+1) (dn++intC x.kind::T::strC x.name::strC x.var::V::xs2)=T::strC x.name::strC x.var::V::xs2:=by
   have:=drop1 (dn:=dn++[intC x.kind]) (x:=T) (xs:=strC x.name::strC x.var::V::xs2) (k:=i * 5+1) (by rw[Bp,hdn];rfl)
   rwa [←e5]at this
  obtain⟨oT1,fT1⟩:=ow_one oT;simp only[c43d,Tryz.f43,pathE,Option.bind_some,Option.getD_some,sbS,tyD,tyO,kb1,kp,d1,t2,Bc,Bi,evE,Nat.reduceLT,Nat.reduceLeDiff,Nat.reduceEqDiff,reduceCtorEq];have hFN':=List.nodup_append.1 hFN;have hTA:=List.nodup_append.1 hFN'.1;have nT:∀ k,k∈FT→k∈F':=fun k h=>hFR _ (List.mem_append_left _ (List.mem_append_left _ h))
  have nA:∀ k,k∈FA→k∈F':=fun k h=>hFR _ (List.mem_append_left _ (List.mem_append_right _ h))
  refine⟨hlt,CallE.intro c87 _ (nodes_ev oT hvT) (fun r h2 hh=>?_) (fun v h2 hh=>by cases hh.1)⟩;obtain⟨er,f2⟩:=hh;cases er;have kb2:=f2.at kb1 (fun e=>hb (List.mem_cons_of_mem _ (nT _ e)));have kp2:=f2.at kp (fun e=>hj0 (nT _ e));have oA2:=ow_fr2 oA f2 (fun k h e=>hTA.2.2 k e k h rfl)
  have hV:(dn++([intC x.kind,T,strC x.name,strC x.var,V]++xs2))[i * 5+4]?=some V:=by
   rw[Br (by omega),hdn,show i * 5+4-i * 5=4 by omega];rfl
  have hbA:b∉FA:=fun e=>hb (List.mem_cons_of_mem _ (nA _ e))
  have hjA:jb∉FA:=fun e=>hj0 (nA _ e)
  simp only[evE,Nat.reduceLT];refine LoopE.cast (fun Q s h=>?_) (sc_args (γ:=γ) (E:=E) (b:=b) (jb:=jb) (vb:=vb) (nb:=nb) (i:=i) ?_ ?_ ?_ kb2 kp2 hlt hV oA2 hTA.2.1 hbA hjA hvA hvX (fun l1 h3 q1 q2 f3 LV2=>?_))
  ·simp only[c43c,Tryz.f43,pathE,Option.bind_some,Option.getD_some,evE]at h;exact h
  ·rfl
  ·rfl
  ·rfl
  have kb3:=f3.at kb2 hbA;have kp3:=f3.at kp2 hjA;have hpl:=(Bs.1 kp3).1;simp only[q2,evE,Nat.reduceLT,Nat.reduceEqDiff,reduceCtorEq];refine DrawK.orders2 [[0,1,2,3,4,5,6,7,8,9,10,11,12,13,14,15],[3,4,5,6,7,8,9,10,11,12,0,1,2,13,14,15],[0,3,4,5,6,7,8,9,10,11,12,1,2,13,14,15]] (by kernel_rfl) (by kernel_rfl) (by kernel_rfl) (fun w hw=>?_);simp only[BI,List.not_mem_nil,or_false]at hw;have hbl3:=(Bs.1 kb3).1;have gb:∀ l,(h3++l)[b]?=some ⟨0,59,[s0,P,g0,.own jb vb nb]⟩:=fun l=>(Ba hbl3).trans kb3
  have gp:∀ l,(h3++l)[jb]?=some ⟨vb,135,dn++([intC x.kind,T,strC x.name,strC x.var,V]++xs2)⟩:=fun l=>(Ba hpl).trans kp3
  have sp:∀ l c,(h3++l).set jb c=h3.set jb c++l:=fun l c=>Bg _ _ hpl
  have hset:∀ y,(dn++intC x.kind::T::strC x.name::strC x.var::V::xs2).set (i * 5+4) y=dn++intC x.kind::T::strC x.name::strC x.var::y::xs2:=fun y=>by
   rw[BV _ _ (by omega),hdn,show i * 5+4-i * 5=4 by omega];rfl
  have hV':(dn++intC x.kind::T::strC x.name::strC x.var::V::xs2)[i * 5+4]?=some V:=hV;have w1:IntKind.i64.wrap ((i:Int)+1)=((i+1:Nat):Int):=(i64w (by omega) (by omega)).trans (by omega);have hle:i * 5+4+1≤dn.length+(xs2.length+1+1+1+1+1):=by omega
  have fin:∀ (hq:List ABlk) (y:AV),hq[jb]?=some ⟨vb,135,dn++intC x.kind::T::strC x.name::strC x.var::y::xs2⟩→Fr (fun k=>k=jb∨k∈FA) h3 hq→∃ (dn:List AV) (l:List Ac) (FR:List Nat),i+1+l.length=nb∧dn.length=(i+1) * 5∧Arr 135 Ac.cells hq jb vb dn l FR∧(∀ k∈FR,k∈F')∧FR.Nodup∧(∀ p∈l,p∈es)∧Fr (·∈ jb::F') hh hq:=fun hq y e fq=>by
   have fa:Fr (fun k=>k=jb∨k∈FT++FA) h1 hq:=(f2.mono (S1:=fun k=>k=jb∨k∈FT++FA) fun k e=>.inr (List.mem_append_left _ e)).trans ((f3.mono (S1:=fun k=>k=jb∨k∈FT++FA) fun k e=>.inr (List.mem_append_right _ e)).trans fq fun k e=>.inl (e.imp id fun e=>List.mem_append_right _ e)) fun k e=>.inl e
   refine⟨dn++[intC x.kind,T,strC x.name,strC x.var,y],l,F2,by rw[BC]at hil;omega,by rw[Bp,hdn];simp only[BC,BD];omega,⟨xs2,by rw[e];simp,?_⟩,fun k h=>hFR k (List.mem_append_right _ h),hFN'.2.1,fun p h=>hl p (List.mem_cons_of_mem _ h),f1.trans fa fun k e=>.inl ?_⟩
   ·refine owL_fr2 o2 fa fun k hk e=>?_
    rcases e with rfl|e
    ·exact hj0 (hFR _ (List.mem_append_right _ hk))
    ·exact hFN'.2.2 k e k hk rfl
   ·rcases e with rfl|e
    ·exact List.mem_cons_self ..
    ·exact List.mem_cons_of_mem _ (hFR _ (List.mem_append_left _ e))
  obtain⟨LA,hAF⟩:=ow_LN (by rw[expsA_sl]at oA2;exact oA2) rfl;clear kb1 kp o1 oT oA A hx1 o2 hFR hFN hQ oB oA2 e5 t1 t2
  rcases LV2 with⟨rfl,ev⟩|⟨jv,vv,cv,rfl,hnv,hjv,hlv⟩
  ·rcases hw with rfl|rfl|rfl
   all_goals simp only[seqT,BU,Bu,Bz,tyD,tyO,q1,q2,kb3,kp3,gb,gp,sp,hV',hset,hle,w1,at_len,Bo,Bc,Bi,evE,Nat.reduceAdd,Nat.reduceMul,Nat.reduceLT,Nat.reduceLeDiff,Nat.reduceEqDiff,reduceCtorEq,List.reduceReplicate]
   all_goals refine⟨hlt,hlt,loopCE.intro (i+1,_) (fin _ _ (Ba (by rw[Bl];exact hpl) |>.trans (Be hpl)) ?_) ⟨rfl,rfl,⟨q1,rfl,trivial⟩,rfl⟩ (by show nb-(i+1)<nb-i;clear w1;omega)⟩
   all_goals exact (Fr.set (S:=fun k=>k=jb∨k∈FA) _ (.inl rfl)).trans (Fr.app (S:=NoB) _ _) fun k e=>e.elim
  ·have hjl:=(Bs.1 hjv).1;have hjm:jv∈FA:=hAF jv rfl;have hvp:jb≠jv:=fun e=>hjA (e▸hjm)
   have hvb:b≠jv:=fun e=>hbA (e▸hjm)
   have gv:∀ l,(h3++l)[jv]?=some ⟨vv,41,cv⟩:=fun l=>(Ba hjl).trans hjv
   have sv:∀ l c,(h3++l).set jv c=h3.set jv c++l:=fun l c=>Bg _ _ hjl
   have gb2:∀ l c,(h3.set jv c++l)[b]?=some ⟨0,59,[s0,P,g0,.own jb vb nb]⟩:=fun l c=>(Ba (by rw[Bl];exact hbl3)).trans ((Bn hvb.symm).trans kb3)
   have gp2:∀ l c,(h3.set jv c++l)[jb]?=some ⟨vb,135,dn++intC x.kind::T::strC x.name::strC x.var::AV.own jv vv x.args.length::xs2⟩:=fun l c=>(Ba (by rw[Bl];exact hpl)).trans ((Bn hvp.symm).trans kp3)
   have sp2:∀ l c d,(h3.set jv c++l).set jb d=(h3.set jv c).set jb d++l:=fun l c d=>Bg _ _ (by rw[Bl];exact hpl)
   have q4:List.take x.args.length cv=cv:=Bt (by omega);have q6:x.args.length≤cv.length:=by omega
   rcases hw with rfl|rfl|rfl
   all_goals simp only[seqT,BU,Bu,Bz,tyD,tyO,q1,q2,kb3,kp3,gv,sv,gb2,gp2,sp2,q4,q6,hV',hset,hle,w1,at_len,Bc,Bi,evE,Nat.reduceAdd,Nat.reduceLT,Nat.reduceLeDiff,Nat.reduceEqDiff,reduceCtorEq,List.reduceReplicate]
   all_goals refine⟨hlt,by clear w1;omega,hlt,loopCE.intro (i+1,_) (fin _ _ ((Ba (by rw[Bl,Bl];exact hpl)).trans (Be (by rw[Bl];exact hpl))) ?_) ⟨rfl,rfl,⟨q1,rfl,trivial⟩,rfl⟩ (by show nb-(i+1)<nb-i;clear w1;omega)⟩
   all_goals exact ((Fr.set (S:=fun k=>k=jb∨k∈FA) _ (.inr hjm)).trans (Fr.set (S:=fun k=>k=jb∨k∈FA) _ (.inl rfl)) fun k e=>.inl e).trans (Fr.app (S:=NoB) _ _) fun k e=>e.elim
noncomputable def c43e:Code:=(Tryz.f43.body.bind (pathE [1,1,1,1,0,1,2,3])).getD .skip
noncomputable def c43f:Code:=(Tryz.f43.body.bind (pathE [1,1,1,1,1,0,1,2,3])).getD .skip
def seS(γ:List (Nat×AV))(b:Nat)(y:Nat×List ABlk):St:=⟨⟨149,[(1,.ptr b 0 0),(6,.v (.int .i64 (y.1:Int)))],γ⟩,y.2⟩
def sfS(γ:List (Nat×AV))(b:Nat)(y:Nat×List ABlk):St:=⟨⟨149,[(1,.ptr b 0 0),(7,.v (.int .i64 (y.1:Int)))],γ⟩,y.2⟩
theorem sc_overP{E:AV→St→Prop}{Q:Post}{l0:List (Nat×AV)}{hh:List ABlk}{b n:Nat}{s0 P g0 B:AV}
  (e1:Go.Ev.look l0 1=.ptr b 0 0) (e2:Go.Ev.look l0 6=.v (.int .i64 0)) (kb:hh[b]?=some ⟨0,59,[s0,P,g0,B]⟩) (LP:LN 130 2 hh P n) (hb:¬nbk P b) (hn:n≤2000000)
  (hQ:∀ l1 h1,Go.Ev.look l1 1=.ptr b 0 0→Fr (nbk P) hh h1→LN 130 2 h1 P n→Q (.exit 8) ⟨⟨149,l1,γ⟩,h1⟩):LoopE (fun Q s=>kwpE Tp E c43e Q s) Q ⟨⟨149,l0,γ⟩,hh⟩:=by
 have d0:decide (((0:Nat):Int)<0)=false:=rfl
 rcases LP with⟨rfl,rfl⟩|⟨jp,vp,cp,rfl,hn0,hj,hl⟩
 ·refine LoopE.intro (seS γ b) (fun y=>y=(0,hh)) (fun y=>0) (0,hh) ⟨rfl,rfl,⟨e1,e2,trivial⟩,rfl⟩ rfl (fun y hy=>?_);subst hy;simp only[c43e,Tryz.f43,pathE,Option.bind_some,Option.getD_some,seS,tyD,tyO,d0,kb,evE,Nat.reduceLT,Nat.reduceEqDiff,reduceCtorEq];exact hQ _ _ rfl (Fr.refl _ _) (.inl ⟨rfl,rfl⟩)
 ·have hb:b≠jp:=hb;refine LoopE.intro (seS γ b) (fun y=>y.1≤n∧Fr (IsI jp) hh y.2∧∃ cv,y.2[jp]?=some ⟨vp,130,cv⟩∧cv.length=n * 2) (fun y=>n-y.1) (0,hh) ⟨rfl,rfl,⟨e1,e2,trivial⟩,rfl⟩ ⟨BN _,Fr.refl _ _,cp,hj,hl⟩ (fun y hy=>?_);clear hj hl cp;obtain⟨k,h1⟩:=y;obtain⟨hk,f1,cv,hj,hl⟩:=hy;simp only at hk f1 hj;have kb1:=f1.at kb hb
  by_cases hlt:k<n
  ·have d1:decide (k<n)=true:=decide_eq_true hlt;have w1:IntKind.i64.wrap ((k:Int)+1)=((k+1:Nat):Int):=(i64w (by omega) (by omega)).trans (by omega);have hkl:k * 2+2≤cv.length:=by omega
   simp only[c43e,Tryz.f43,pathE,Option.bind_some,Option.getD_some,seS,tyD,tyO,kb1,hj,d1,hkl,w1,evE,Nat.reduceAdd,Nat.reduceLT,Nat.reduceLeDiff,Nat.reduceEqDiff,reduceCtorEq];refine⟨hlt,loopCE.intro (k+1,_) ⟨hlt,?_,?_⟩ ⟨rfl,rfl,⟨rfl,rfl,trivial⟩,rfl⟩ (by show n-(k+1)<n-k;clear w1;omega)⟩
   ·exact f1.trans (Fr.set (S:=IsI jp) _ rfl) fun k e=>.inl e
   ·exact⟨_,Be (Bs.1 hj).1,by simp only[Bl];exact hl⟩
  ·have d1:decide (k<n)=false:=decide_eq_false hlt;simp only[c43e,Tryz.f43,pathE,Option.bind_some,Option.getD_some,seS,tyD,tyO,kb1,hj,d1,evE,Nat.reduceLT,Nat.reduceEqDiff,reduceCtorEq];exact hQ _ _ rfl f1 (.inr ⟨jp,vp,cv,rfl,hn0,hj,hl⟩)
theorem sc_overB{E:AV→St→Prop}{Q:Post}{l0:List (Nat×AV)}{hh:List ABlk}{b n:Nat}{s0 P g0 B:AV}
  (e1:Go.Ev.look l0 1=.ptr b 0 0) (e2:Go.Ev.look l0 7=.v (.int .i64 0)) (kb:hh[b]?=some ⟨0,59,[s0,P,g0,B]⟩) (LP:LN 135 5 hh B n) (hb:¬nbk B b) (hn:n≤2000000)
  (hQ:∀ l1 h1,Go.Ev.look l1 1=.ptr b 0 0→Fr (nbk B) hh h1→LN 135 5 h1 B n→Q (.exit 10) ⟨⟨149,l1,γ⟩,h1⟩):LoopE (fun Q s=>kwpE Tp E c43f Q s) Q ⟨⟨149,l0,γ⟩,hh⟩:=by
 have d0:decide (((0:Nat):Int)<0)=false:=rfl
 rcases LP with⟨rfl,rfl⟩|⟨jp,vp,cp,rfl,hn0,hj,hl⟩
 ·refine LoopE.intro (sfS γ b) (fun y=>y=(0,hh)) (fun y=>0) (0,hh) ⟨rfl,rfl,⟨e1,e2,trivial⟩,rfl⟩ rfl (fun y hy=>?_);subst hy;simp only[c43f,Tryz.f43,pathE,Option.bind_some,Option.getD_some,sfS,tyD,tyO,d0,kb,evE,Nat.reduceLT,Nat.reduceEqDiff,reduceCtorEq];exact hQ _ _ rfl (Fr.refl _ _) (.inl ⟨rfl,rfl⟩)
 ·have hb:b≠jp:=hb;refine LoopE.intro (sfS γ b) (fun y=>y.1≤n∧Fr (IsI jp) hh y.2∧∃ cv,y.2[jp]?=some ⟨vp,135,cv⟩∧cv.length=n * 5) (fun y=>n-y.1) (0,hh) ⟨rfl,rfl,⟨e1,e2,trivial⟩,rfl⟩ ⟨BN _,Fr.refl _ _,cp,hj,hl⟩ (fun y hy=>?_);clear hj hl cp;obtain⟨k,h1⟩:=y;obtain⟨hk,f1,cv,hj,hl⟩:=hy;simp only at hk f1 hj;have kb1:=f1.at kb hb
  by_cases hlt:k<n
  ·have d1:decide (k<n)=true:=decide_eq_true hlt;have w1:IntKind.i64.wrap ((k:Int)+1)=((k+1:Nat):Int):=(i64w (by omega) (by omega)).trans (by omega);have hkl:k * 5+5≤cv.length:=by omega
   simp only[c43f,Tryz.f43,pathE,Option.bind_some,Option.getD_some,sfS,tyD,tyO,kb1,hj,d1,hkl,w1,evE,Nat.reduceAdd,Nat.reduceLT,Nat.reduceLeDiff,Nat.reduceEqDiff,reduceCtorEq];refine⟨hlt,loopCE.intro (k+1,_) ⟨hlt,?_,?_⟩ ⟨rfl,rfl,⟨rfl,rfl,trivial⟩,rfl⟩ (by show n-(k+1)<n-k;clear w1;omega)⟩
   ·exact f1.trans (Fr.set (S:=IsI jp) _ rfl) fun k e=>.inl e
   ·exact⟨_,Be (Bs.1 hj).1,by simp only[Bl];exact hl⟩
  ·have d1:decide (k<n)=false:=decide_eq_false hlt;simp only[c43f,Tryz.f43,pathE,Option.bind_some,Option.getD_some,sfS,tyD,tyO,kb1,hj,d1,evE,Nat.reduceLT,Nat.reduceEqDiff,reduceCtorEq];exact hQ _ _ rfl f1 (.inr ⟨jp,vp,cv,rfl,hn0,hj,hl⟩)
theorem ch_inv{h:List ABlk}{x:Ch}{xs:List AV}{F:List Nat}(o:owL x.cells h (kT 59) xs F):∃ P G B F1 F2 F3,xs=[strC x.name,P,G,B]∧F=F1++(F2++F3)∧ow (partsA x.parts) h (.s 130) P F1∧ow (nodesA x.guard) h (.s 115) G F2∧ow (actsA x.body) h (.s 135) B F3:=by
 have q:owL [.v _,_,_,_] h [.v,.s 130,.s 115,.s 135] xs F:=o;obtain⟨xs1,rfl,q1⟩:=owL_v q;obtain⟨P,xs2,F1,F2,rfl,rfl,o1,o2⟩:=owL_c q1;obtain⟨G,xs3,F3,F4,rfl,rfl,o3,o4⟩:=owL_c o2;obtain⟨B,xs5,F5,F6,rfl,rfl,o5,o6⟩:=owL_c o4;obtain⟨rfl,rfl⟩:=owL_n o6;rw[BS];exact⟨P,G,B,F1,F3,F5,rfl,rfl,o1,o3,o5⟩
theorem c43:bodyT Tp 43:=⟨_,Tryz.func43,by kernel_rfl,by kernel_rfl⟩
theorem spoilChord_ev{h:List ABlk}{x:Ch}{xs:List AV}{F:List Nat}(o:owL x.cells h (kT 59) xs F)(hF:F.Nodup)(ok:okCh x):EvM Tp γ 43 [.agg xs] h (Wr F h):=by
 obtain⟨P,G,B,FP,FG,FB,rfl,rfl,oP,oG,oB⟩:=ch_inv o;obtain⟨ok1,ok2,ok3,ok4,ok5⟩:=ok;have hF1:=List.nodup_append.1 hF;have hF2:=List.nodup_append.1 hF1.2.1;have lP:=ow_lt _ _ _ _ oP;have lG:=ow_lt _ _ _ _ oG;have lB:=ow_lt _ _ _ _ oB;obtain⟨LP0,hPF⟩:=ow_LN (enc:=Pt.cells) oP rfl;obtain⟨LB0,hBF⟩:=ow_LN (enc:=Ac.cells) oB rfl;obtain⟨oP1,fP1⟩:=LP0.one;obtain⟨oB1,fB1⟩:=LB0.one;obtain⟨oG1,fG1⟩:=ow_one oG;refine EvM.of Tryz.func43 rfl ?_;simp only[Tryz.f43,tyD,strC,oP1,oB1,oG1,at_len,evE,Nat.reduceAdd,Nat.reduceSub,Nat.reduceLT,Nat.reduceLeDiff,Nat.reduceEqDiff,reduceCtorEq];have n1:∀ l,Fr NoB h (h++l):=fun l=>Fr.app _ _
 refine CallE.intro c87 _ (nodes_ev (ow_fr2 oG (n1 _) (fun k _ e=>e)) ok3.1) (fun r h1 hh=>?_) (fun v h1 hh=>by cases hh.1);obtain⟨er,f1⟩:=hh;cases er;have g1:Fr (·∈ FP++(FG++FB)) h h1:=((n1 _).mono (S1:=(·∈ FP++(FG++FB))) fun k e=>e.elim).trans f1 fun k e=>.inl (List.mem_append_right _ (List.mem_append_left _ e))
 have kb1:=f1.at (at_len h _ []) (fun e=>by have:=lG _ e;omega);have oP':=ow_fr2 (ow_fr2 oP (n1 _) (fun k _ e=>e)) f1 (fun k hk e=>hF1.2.2 k hk k (List.mem_append_left _ e) rfl);have oB':=ow_fr2 (ow_fr2 oB (n1 _) (fun k _ e=>e)) f1 (fun k hk e=>hF2.2.2 k e k hk rfl);have nP:h.length∉FP:=fun e=>by have:=lP _ e;omega
 have nB:h.length∉FB:=fun e=>by have:=lB _ e;omega
 simp only[evE,Nat.reduceLT];refine LoopE.cast (fun Q s h=>?_) (sc_parts (γ:=γ) (E:=panE (Wr (FP++(FG++FB)) h)) (b:=h.length) ?_ ?_ kb1 oP' hF1.1 nP ok1 ok2 (fun l1 h2 q1 f2 LP2=>?_))
 ·simp only[c43b,Tryz.f43,pathE,Option.bind_some,Option.getD_some,evE]at h;exact h
 ·rfl
 ·rfl
 have kb2:=f2.at kb1 nP;have oB2:=ow_fr2 oB' f2 (fun k hk e=>hF1.2.2 k e k (List.mem_append_right _ hk) rfl);have g2:=g1.trans f2 fun k e=>.inl (List.mem_append_left _ e)
 simp only[evE,Nat.reduceLT];refine LoopE.cast (fun Q s h=>?_) (sc_acts (γ:=γ) (E:=panE (Wr (FP++(FG++FB)) h)) (b:=h.length) ?_ ?_ kb2 oB2 hF2.2.1 nB ok4 (fun a ha=>⟨(ok5 a ha).1.1,(ok5 a ha).2.1,fun x hx=>((ok5 a ha).2.2 x hx).1⟩) (fun l2 h3 q2 f3 LB3=>?_))
 ·simp only[c43d,Tryz.f43,pathE,Option.bind_some,Option.getD_some,evE]at h;exact h
 ·exact q1
 ·rfl
 have kb3:=f3.at kb2 nB;have LP3:=LP2.fr f3 (fun k hk e=>hF1.2.2 k (hPF k hk) k (List.mem_append_right _ e) rfl);have g3:=g2.trans f3 fun k e=>.inl (List.mem_append_right _ (List.mem_append_right _ e))
 simp only[evE,Nat.reduceLT];refine LoopE.cast (fun Q s h=>?_) (sc_overP (γ:=γ) (E:=panE (Wr (FP++(FG++FB)) h)) (b:=h.length) ?_ ?_ kb3 LP3 (fun e=>nP (hPF _ e)) ok1 (fun l3 h4 q3 f4 LP4=>?_))
 ·simp only[c43e,Tryz.f43,pathE,Option.bind_some,Option.getD_some,evE]at h;exact h
 ·exact q2
 ·rfl
 have kb4:=f4.at kb3 (fun e=>nP (hPF _ e));have LB4:=LB3.fr f4 (fun k hk e=>hF1.2.2 k (hPF k e) k (List.mem_append_right _ (hBF k hk)) rfl);have g4:=g3.trans f4 fun k e=>.inl (List.mem_append_left _ (hPF k e))
 simp only[evE,Nat.reduceLT];refine LoopE.cast (fun Q s h=>?_) (sc_overB (γ:=γ) (E:=panE (Wr (FP++(FG++FB)) h)) (b:=h.length) ?_ ?_ kb4 LB4 (fun e=>nB (hBF _ e)) ok4 (fun l4 h5 q4 f5 LB5=>?_))
 ·simp only[c43f,Tryz.f43,pathE,Option.bind_some,Option.getD_some,evE]at h;exact h
 ·exact q3
 ·rfl
 have kb5:=f5.at kb4 (fun e=>nB (hBF _ e));have LP5:=LP4.fr f5 (fun k hk e=>hF1.2.2 k (hPF k hk) k (List.mem_append_right _ (hBF k e)) rfl);have g5:=g4.trans f5 fun k e=>.inl (List.mem_append_right _ (List.mem_append_right _ (hBF k e)))
 have hpb:∀ k,nbk P k→¬nbk B k:=fun k hk hk2=>hF1.2.2 k (hPF k hk) k (List.mem_append_right _ (hBF k hk2)) rfl
 have hb5:=(Bs.1 kb5).1;have hP5:∀ k,nbk P k→k<h.length∧k∈FP++(FG++FB):=fun k hk=>⟨lP _ (hPF k hk),List.mem_append_left _ (hPF k hk)⟩
 have hB5:∀ k,nbk B k→k<h.length∧k∈FP++(FG++FB):=fun k hk=>⟨lB _ (hBF k hk),List.mem_append_right _ (List.mem_append_right _ (hBF k hk))⟩
 clear oB2 oP' oB' kb4 kb3 kb2 kb1 g4 g3 g2 g1 f1 f2 f3 f4 f5 LP4 LB4 LP3 LB3 LP2 o oP oG oB LP0 LB0 hPF hBF lP lG lB nP nB hF1 hF2 hF ok2 ok3 ok5;generalize FP++(FG++FB)=F at *
 have FW:∀ hq,Fr (fun k=>k=h.length∨nbk P k∨nbk B k) h5 hq→Wr F h (.ret (.tup [])) hq:=fun hq fq=>⟨rfl,g5.trans fq fun k e=>by
  rcases e with e|e|e
  ·exact .inr (by omega)
  ·exact .inl (hP5 k e).2
  ·exact .inl (hB5 k e).2⟩
 have ft:∀ {W:Nat→Prop} {a b c:List ABlk},Fr W a b→Fr W b c→Fr W a c:=fun f g=>f.trans g fun k e=>.inl e
 have fa:∀ {W:Nat→Prop} (a l:List ABlk),Fr W a (a++l):=fun a l=>Fr.app a l
 have gb:∀ l,(h5++l)[h.length]?=some ⟨0,59,[.v (.string ⟨x.name.toArray⟩),P,G,B]⟩:=fun l=>(Ba hb5).trans kb5
 have facts:∀ H:List ABlk,H.length=h5.length→(∀ l c,(H++l).set h.length c=H.set h.length c++l)∧(∀ l c,(H.set h.length c++l)[h.length]?=some c)∧(∀ l c d,(H.set h.length c++l).set h.length d=(H.set h.length c).set h.length d++l)∧
   (∀ c (x y:ABlk) l,(H.set h.length c++x::y::l)[h5.length+1]?=some y)∧(∀ c (x y z:ABlk) l,(H.set h.length c++x::y::z::l)[h5.length+2]?=some z)∧(∀ (x:ABlk) l,(H++x::l)[h5.length]?=some x):=fun H hl=>
  ⟨fun l c=>Bg _ _ (by omega),fun l c=>(Ba (by rw[Bl];omega)).trans (Be (by omega)),fun l c d=>Bg _ _ (by rw[Bl];omega),
   fun c x y l=>by rw[Br (by rw[Bl];omega),Bl,hl,show h5.length+1-h5.length=1 by omega];rfl,
   fun c x y z l=>by rw[Br (by rw[Bl];omega),Bl,hl,show h5.length+2-h5.length=2 by omega];rfl,
   fun x l=>by rw[←hl];exact at_len H x l⟩
 rcases LP5 with⟨rfl,eP⟩|⟨jp,vp,cp,rfl,hp0,hjp,hlp⟩
 ·obtain⟨sb,gb1,sb1,a1,a2,a0⟩:=facts h5 rfl
  rcases LB5 with⟨rfl,eB⟩|⟨jb,vb,cb,rfl,hb0,hjb,hlb⟩
  ·simp only[tyD,tyO,q4,kb5,gb,sb,gb1,sb1,a2,a0,setMany,Bx,Bw,Bo,Bc,Bi,evE,Nat.reduceAdd,Nat.reduceMul,Nat.reduceLT,Nat.reduceLeDiff,Nat.reduceEqDiff,reduceCtorEq,List.reduceReplicate];exact FW _ (ft (ft (Fr.set _ (.inl rfl)) (Fr.set _ (.inl rfl))) (fa _ _))
  ·have hjl:=(Bs.1 hjb).1;have hjn:jb≠h.length:=fun e=>by have:=(hB5 jb rfl).1;omega
   have gj:∀ l c,(h5.set h.length c++l)[jb]?=some ⟨vb,135,cb⟩:=fun l c=>(Ba (by rw[Bl];exact hjl)).trans ((Bn hjn.symm).trans hjb)
   have sj:∀ l c d,(h5.set h.length c++l).set jb d=(h5.set h.length c).set jb d++l:=fun l c d=>Bg _ _ (by rw[Bl];exact hjl)
   have gb2:∀ l c d,((h5.set h.length c).set jb d++l)[h.length]?=some c:=fun l c d=>(Ba (by simp only[Bl];exact hb5)).trans ((Bn hjn).trans (Be hb5))
   have sb2:∀ l c d e,((h5.set h.length c).set jb d++l).set h.length e=((h5.set h.length c).set jb d).set h.length e++l:=fun l c d e=>Bg _ _ (by simp only[Bl];exact hb5)
   have q5:List.take (x.body.length * 5) cb=cb:=Bt (by omega);have q6:x.body.length * 5≤cb.length:=by omega
   simp only[tyD,tyO,q4,kb5,gb,sb,gb1,a2,a0,gj,sj,gb2,sb2,q5,q6,setMany,Bx,Bw,Bo,Bc,Bi,evE,Nat.reduceAdd,Nat.reduceMul,Nat.reduceLT,Nat.reduceLeDiff,Nat.reduceEqDiff,reduceCtorEq,List.reduceReplicate];exact⟨by omega,FW _ (ft (ft (ft (Fr.set _ (.inl rfl)) (Fr.set _ (.inr (.inr rfl)))) (Fr.set _ (.inl rfl))) (fa _ _))⟩
 ·have hpl:=(Bs.1 hjp).1;have hpn:jp≠h.length:=fun e=>by have:=(hP5 jp rfl).1;omega
  have gp:∀ l,(h5++l)[jp]?=some ⟨vp,130,cp⟩:=fun l=>(Ba hpl).trans hjp
  have sp:∀ l c,(h5++l).set jp c=h5.set jp c++l:=fun l c=>Bg _ _ hpl
  have gpb:∀ l d,(h5.set jp d++l)[h.length]?=some ⟨0,59,[.v (.string ⟨x.name.toArray⟩),.own jp vp x.parts.length,G,B]⟩:=fun l d=>(Ba (by rw[Bl];exact hb5)).trans ((Bn hpn).trans kb5)
  have sb:=fun d=>(facts (h5.set jp d) Bl).1
  have gb1:=fun d=>(facts (h5.set jp d) Bl).2.1
  have sb1:=fun d=>(facts (h5.set jp d) Bl).2.2.1
  have a1:=fun d=>(facts (h5.set jp d) Bl).2.2.2.1
  have a2:=fun d=>(facts (h5.set jp d) Bl).2.2.2.2.1
  have a0:=fun d=>(facts (h5.set jp d) Bl).2.2.2.2.2
  have a00:=(facts h5 rfl).2.2.2.2.2;have q7:List.take (x.parts.length * 2) cp=cp:=Bt (by omega);have q8:x.parts.length * 2≤cp.length:=by omega
  rcases LB5 with⟨rfl,eB⟩|⟨jb,vb,cb,rfl,hb0,hjb,hlb⟩
  ·simp only[tyD,tyO,q4,kb5,gp,sp,gpb,sb,gb1,sb1,a1,a00,q7,q8,setMany,Bx,Bw,Bo,Bc,Bi,evE,Nat.reduceAdd,Nat.reduceMul,Nat.reduceLT,Nat.reduceLeDiff,Nat.reduceEqDiff,reduceCtorEq,List.reduceReplicate];exact⟨by omega,FW _ (ft (ft (ft (Fr.set _ (.inr (.inl rfl))) (Fr.set _ (.inl rfl))) (Fr.set _ (.inl rfl))) (fa _ _))⟩
  ·have hjl:=(Bs.1 hjb).1;have hjn:jb≠h.length:=fun e=>by have:=(hB5 jb rfl).1;omega
   have hjp2:jp≠jb:=hpb jp rfl;have gj:∀ l e c,((h5.set jp e).set h.length c++l)[jb]?=some ⟨vb,135,cb⟩:=fun l e c=>(Ba (by simp only[Bl];exact hjl)).trans ((Bn hjn.symm).trans ((Bn hjp2).trans hjb))
   have sj:∀ l e c d,((h5.set jp e).set h.length c++l).set jb d=((h5.set jp e).set h.length c).set jb d++l:=fun l e c d=>Bg _ _ (by simp only[Bl];exact hjl)
   have gb2:∀ l f c d,(((h5.set jp f).set h.length c).set jb d++l)[h.length]?=some c:=fun l f c d=>(Ba (by simp only[Bl];exact hb5)).trans ((Bn hjn).trans (Be (by rw[Bl];exact hb5)))
   have sb2:∀ l f c d e,(((h5.set jp f).set h.length c).set jb d++l).set h.length e=(((h5.set jp f).set h.length c).set jb d).set h.length e++l:=fun l f c d e=>Bg _ _ (by simp only[Bl];exact hb5)
   have q5:List.take (x.body.length * 5) cb=cb:=Bt (by omega);have q6:x.body.length * 5≤cb.length:=by omega
   simp only[tyD,tyO,q4,kb5,gp,sp,gpb,sb,gb1,a1,a00,gj,sj,gb2,sb2,q5,q6,q7,q8,setMany,Bx,Bw,Bo,Bc,Bi,evE,Nat.reduceAdd,Nat.reduceMul,Nat.reduceLT,Nat.reduceLeDiff,Nat.reduceEqDiff,reduceCtorEq,List.reduceReplicate];exact⟨by omega,by omega,FW _ (ft (ft (ft (ft (Fr.set _ (.inr (.inl rfl))) (Fr.set _ (.inl rfl))) (Fr.set _ (.inr (.inr rfl)))) (Fr.set _ (.inl rfl))) (fa _ _))⟩
theorem tg_inv{h:List ABlk}{x:Tg}{xs:List AV}{F:List Nat}(o:owL x.cells h (kT 137) xs F):∃ V,xs=[strC x.name,V]∧ow (intsA x.types) h (.s 3) V F:=by
 have q:owL [.v _,_] h [.v,.s 3] xs F:=o;obtain⟨xs1,rfl,q1⟩:=owL_v q;obtain⟨V,xs2,F1,F2,rfl,rfl,o1,o2⟩:=owL_c q1;obtain⟨rfl,rfl⟩:=owL_n o2;rw[BS];exact⟨V,rfl,o1⟩
theorem kd_inv{h:List ABlk}{x:Kd}{xs:List AV}{F:List Nat}(o:owL x.cells h (kT 90) xs F):∃ V,xs=[strC x.name,V]∧ow (chordsA x.chords) h (.s 59) V F:=by
 have q:owL [.v _,_] h [.v,.s 59] xs F:=o;obtain⟨xs1,rfl,q1⟩:=owL_v q;obtain⟨V,xs2,F1,F2,rfl,rfl,o1,o2⟩:=owL_c q1;obtain⟨rfl,rfl⟩:=owL_n o2;rw[BS];exact⟨V,rfl,o1⟩
noncomputable def c42a:Code:=(Tryz.f42.body.bind (pathE [1,0,1,2,3,1,0,2,0,1,2,3])).getD .skip
noncomputable def c42b:Code:=(Tryz.f42.body.bind (pathE [1,0,1,2,3])).getD .skip
def tyS2(γ:List (Nat×AV))(b i:Nat)(y:Nat×List ABlk):St:=⟨⟨153,[(1,.ptr b 0 0),(2,.v (.int .i64 (i:Int))),(3,.v (.int .i64 (y.1:Int)))],γ⟩,y.2⟩
theorem sp_types{E:AV→St→Prop}{Q:Post}{l0:List (Nat×AV)}{hh:List ABlk}{b jp vp np i n:Nat}{k0 V:AV}{cp:List AV}
  (e1:Go.Ev.look l0 1=.ptr b 0 0) (e2:Go.Ev.look l0 2=.v (.int .i64 (i:Int))) (e3:Go.Ev.look l0 3=.v (.int .i64 0))
  (kb:hh[b]?=some ⟨0,71,[.own jp vp np,k0]⟩) (kp:hh[jp]?=some ⟨vp,137,cp⟩) (hi:i<np) (hV:cp[i * 2+1]?=some V) (LV:LN 3 1 hh V n) (hvb:¬nbk V b) (hvp:¬nbk V jp) (hn:n≤2000000)
  (hQ:∀ l1 h1,Go.Ev.look l1 1=.ptr b 0 0→Go.Ev.look l1 2=.v (.int .i64 (i:Int))→Fr (nbk V) hh h1→LN 3 1 h1 V n→Q (.exit 2) ⟨⟨153,l1,γ⟩,h1⟩):LoopE (fun Q s=>kwpE Tp E c42a Q s) Q ⟨⟨153,l0,γ⟩,hh⟩:=by
 have d0:decide (((0:Nat):Int)<0)=false:=rfl
 rcases LV with⟨rfl,rfl⟩|⟨jv,vv,cv,rfl,hn0,hj,hl⟩
 ·refine LoopE.intro (tyS2 γ b i) (fun y=>y=(0,hh)) (fun y=>0) (0,hh) ⟨rfl,rfl,⟨e1,e2,e3,trivial⟩,rfl⟩ rfl (fun y hy=>?_);subst hy;simp only[c42a,Tryz.f42,pathE,Option.bind_some,Option.getD_some,tyS2,tyD,tyO,d0,kb,kp,hV,evE,Nat.reduceLT,Nat.reduceEqDiff,reduceCtorEq];exact⟨hi,hQ _ _ rfl rfl (Fr.refl _ _) (.inl ⟨rfl,rfl⟩)⟩
 ·have hvb:b≠jv:=hvb;have hvp:jp≠jv:=hvp;refine LoopE.intro (tyS2 γ b i) (fun y=>y.1≤n∧Fr (IsI jv) hh y.2∧∃ cv,y.2[jv]?=some ⟨vv,3,cv⟩∧cv.length=n) (fun y=>n-y.1) (0,hh) ⟨rfl,rfl,⟨e1,e2,e3,trivial⟩,rfl⟩ ⟨BN _,Fr.refl _ _,cv,hj,by omega⟩ (fun y hy=>?_);clear hj hl cv;obtain⟨k,h1⟩:=y;obtain⟨hk,f1,cv,hj,hl⟩:=hy;simp only at hk f1 hj;have kb1:=f1.at kb hvb;have kp1:=f1.at kp hvp
  by_cases hlt:k<n
  ·have d1:decide (k<n)=true:=decide_eq_true hlt;have w1:IntKind.i64.wrap ((k:Int)+1)=((k+1:Nat):Int):=(i64w (by omega) (by omega)).trans (by omega);have hkl:k+1≤cv.length:=by omega
   simp only[c42a,Tryz.f42,pathE,Option.bind_some,Option.getD_some,tyS2,tyD,tyO,kb1,kp1,hV,hj,d1,hkl,w1,evE,tyX,Nat.reduceLT,Nat.reduceEqDiff,reduceCtorEq];exact⟨hi,hi,hlt,loopCE.intro (k+1,_) ⟨hlt,f1.trans (Fr.set (S:=IsI jv) _ rfl) fun k e=>.inl e,_,Be (Bs.1 hj).1,by rw[Bl];exact hl⟩ ⟨rfl,rfl,⟨rfl,rfl,rfl,trivial⟩,rfl⟩ (by show n-(k+1)<n-k;clear w1;omega)⟩
  ·have d1:decide (k<n)=false:=decide_eq_false hlt;simp only[c42a,Tryz.f42,pathE,Option.bind_some,Option.getD_some,tyS2,tyD,tyO,kb1,kp1,hV,hj,d1,evE,Nat.reduceLT,Nat.reduceEqDiff,reduceCtorEq];exact⟨hi,hQ _ _ rfl rfl f1 (.inr ⟨jv,vv,cv,rfl,hn0,hj,by omega⟩)⟩
def tgS(γ:List (Nat×AV))(b:Nat)(y:Nat×List ABlk):St:=⟨⟨153,[(1,.ptr b 0 0),(2,.v (.int .i64 (y.1:Int)))],γ⟩,y.2⟩
theorem sp_tags{E:AV→St→Prop}{Q:Post}{l0:List (Nat×AV)}{hh:List ABlk}{b:Nat}{P k0:AV}{ps:List Tg}{FP:List Nat}
  (e1:Go.Ev.look l0 1=.ptr b 0 0) (e2:Go.Ev.look l0 2=.v (.int .i64 0)) (kb:hh[b]?=some ⟨0,71,[P,k0]⟩) (oP:ow (tagsA ps) hh (.s 137) P FP) (hF:FP.Nodup) (hb:b∉FP) (hn:ps.length≤2000000) (hv:∀ p∈ps,p.types.length≤2000000)
  (hQ:∀ l1 h1,Go.Ev.look l1 1=.ptr b 0 0→Fr (·∈ FP) hh h1→LN 137 2 h1 P ps.length→Q (.exit 0) ⟨⟨153,l1,γ⟩,h1⟩):LoopE (fun Q s=>kwpE Tp E c42b Q s) Q ⟨⟨153,l0,γ⟩,hh⟩:=by
 have d0:decide (((0:Nat):Int)<0)=false:=rfl
 rcases ow_list oP with⟨rfl,rfl,rfl⟩|⟨jp,vp,F',rfl,hn0,rfl,A⟩
 ·refine LoopE.intro (tgS γ b) (fun y=>y=(0,hh)) (fun y=>0) (0,hh) ⟨rfl,rfl,⟨e1,e2,trivial⟩,rfl⟩ rfl (fun y hy=>?_);subst hy;simp only[c42b,Tryz.f42,pathE,Option.bind_some,Option.getD_some,tgS,tyD,tyO,d0,kb,evE,Nat.reduceLT,Nat.reduceEqDiff,reduceCtorEq];exact hQ _ _ rfl (Fr.refl _ _) (.inl ⟨rfl,rfl⟩)
 obtain⟨hj0,hF'⟩:=List.nodup_cons.1 hF;have hbj:b≠jp:=fun e=>hb (by rw[e];exact List.mem_cons_self ..)
 generalize hnp:ps.length=np at *
 refine LoopE.intro (tgS γ b) (fun y=>∃ (dn:List AV) (l:List Tg) (FR:List Nat),y.1+l.length=np∧dn.length=y.1 * 2∧Arr 137 Tg.cells y.2 jp vp dn l FR∧(∀ k∈FR,k∈F')∧FR.Nodup∧(∀ p∈l,p∈ps)∧Fr (·∈ jp::F') hh y.2) (fun y=>np-y.1) (0,hh) ⟨rfl,rfl,⟨e1,e2,trivial⟩,rfl⟩
  ⟨[],ps,F',by simpa using hnp,rfl,A,fun k h=>h,hF',fun p h=>h,Fr.refl _ _⟩ (fun y hy=>?_)
 clear A;obtain⟨i,h1⟩:=y;obtain⟨dn,l,FR,hil,hdn,A,hFR,hFN,hl,f1⟩:=hy;simp only at hil hdn A f1;have kb1:=f1.at kb hb;cases l with
 |nil=>
  have hi:i=np:=hil;have d1:decide (i<np)=false:=decide_eq_false (by omega);obtain⟨cs,hj,hcl⟩:=A.length;simp only[c42b,Tryz.f42,pathE,Option.bind_some,Option.getD_some,tgS,tyD,tyO,kb1,hj,d1,evE,Nat.reduceLT,Nat.reduceEqDiff,reduceCtorEq];refine hQ _ _ ?_ f1 (.inr ⟨jp,vp,cs,rfl,hn0,hj,by rw[hcl,hdn,hi];simp[kT]⟩)
  rfl
 |cons x l=>
  have hlt:i<np:=by rw[BC]at hil;omega
  have d1:decide (i<np)=true:=decide_eq_true hlt;obtain⟨xs1,xs2,F1,F2,rfl,kp,hx1,o1,o2⟩:=A.cons (by rfl);obtain⟨V,rfl,oV⟩:=tg_inv o1
  have hV:(dn++strC x.name::V::xs2)[i * 2+1]?=some V:=by
   rw[Br (by omega),hdn,show i * 2+1-i * 2=1 by omega];rfl
  rw[intsA_sl]at oV;obtain⟨LV,hVF⟩:=ow_LN oV rfl;have hvb:¬nbk V b:=fun e=>hb (List.mem_cons_of_mem _ (hFR _ (List.mem_append_left _ (hVF _ e))))
  have hvp:¬nbk V jp:=fun e=>hj0 (hFR _ (List.mem_append_left _ (hVF _ e)))
  have hvn:=hv x (hl x (List.mem_cons_self ..));simp only[c42b,Tryz.f42,pathE,Option.bind_some,Option.getD_some,tgS,tyD,tyO,kb1,kp,d1,evE,Nat.reduceLT,Nat.reduceEqDiff,reduceCtorEq];refine LoopE.cast (fun Q s h=>?_) (sp_types (γ:=γ) (E:=E) (b:=b) (jp:=jp) (vp:=vp) (np:=np) (i:=i) ?_ ?_ ?_ kb1 kp hlt hV LV hvb hvp hvn (fun l1 h2 q1 q2 f2 LV2=>?_))
  ·simp only[c42a,Tryz.f42,pathE,Option.bind_some,Option.getD_some,evE]at h;exact h
  ·rfl
  ·rfl
  ·rfl
  have kb2:=f2.at kb1 hvb;have kp2:=f2.at kp hvp;have hpl:=(Bs.1 kp2).1;simp only[q2,evE,Nat.reduceLT,Nat.reduceEqDiff,reduceCtorEq];refine DrawK.orders2 [[0,1,2,3,4,5,6,7,8,9,10,11,12,13],[3,4,5,6,7,8,9,10,0,1,2,11,12,13],[0,3,4,5,6,7,8,9,10,1,2,11,12,13]] (by kernel_rfl) (by kernel_rfl) (by kernel_rfl) (fun w hw=>?_);simp only[BI,List.not_mem_nil,or_false]at hw;have hbl2:=(Bs.1 kb2).1;have gb:∀ l,(h2++l)[b]?=some ⟨0,71,[.own jp vp np,k0]⟩:=fun l=>(Ba hbl2).trans kb2
  have gp:∀ l,(h2++l)[jp]?=some ⟨vp,137,dn++([strC x.name,V]++xs2)⟩:=fun l=>(Ba hpl).trans kp2
  have sp:∀ l c,(h2++l).set jp c=h2.set jp c++l:=fun l c=>Bg _ _ hpl
  have hset:∀ y,(dn++strC x.name::V::xs2).set (i * 2+1) y=dn++strC x.name::y::xs2:=fun y=>by
   rw[BV _ _ (by omega),hdn,show i * 2+1-i * 2=1 by omega];rfl
  have w1:IntKind.i64.wrap ((i:Int)+1)=((i+1:Nat):Int):=(i64w (by omega) (by omega)).trans (by omega);have hle:i * 2+1+1≤dn.length+(xs2.length+1+1):=by omega
  have fin:∀ (hq:List ABlk) (y:AV),hq[jp]?=some ⟨vp,137,dn++strC x.name::y::xs2⟩→Fr (fun k=>k=jp∨nbk V k) h2 hq→∃ (dn:List AV) (l:List Tg) (FR:List Nat),i+1+l.length=np∧dn.length=(i+1) * 2∧Arr 137 Tg.cells hq jp vp dn l FR∧(∀ k∈FR,k∈F')∧FR.Nodup∧(∀ p∈l,p∈ps)∧Fr (·∈ jp::F') hh hq:=fun hq y e fq=>by
   have hFN':=List.nodup_append.1 hFN;have fa:Fr (fun k=>k=jp∨nbk V k) h1 hq:=(f2.mono fun k e=>.inr e).trans fq fun k e=>.inl e
   refine⟨dn++[strC x.name,y],l,F2,by rw[BC]at hil;omega,by rw[Bp,hdn];simp only[BC,BD];omega,⟨xs2,by rw[e];simp,?_⟩,fun k h=>hFR k (List.mem_append_right _ h),hFN'.2.1,fun p h=>hl p (List.mem_cons_of_mem _ h),f1.trans fa fun k e=>.inl ?_⟩
   ·refine owL_fr2 o2 fa fun k hk e=>?_
    rcases e with rfl|e
    ·exact hj0 (hFR _ (List.mem_append_right _ hk))
    ·exact hFN'.2.2 k (hVF _ e) k hk rfl
   ·rcases e with rfl|e
    ·exact List.mem_cons_self ..
    ·exact List.mem_cons_of_mem _ (hFR _ (List.mem_append_left _ (hVF _ e)))
  clear kb1 kp o1 oV A hx1 hVF o2 hFR hFN hQ oP
  rcases LV2 with⟨rfl,ev⟩|⟨jv,vv,cv,rfl,hnv,hjv,hlv⟩
  ·rcases hw with rfl|rfl|rfl
   all_goals simp only[seqT,BU,Bu,Bz,tyD,tyO,q1,q2,kb2,kp2,gb,gp,sp,hV,hset,hle,w1,at_len,Bo,Bc,Bi,evE,Nat.reduceAdd,Nat.reduceMul,Nat.reduceLT,Nat.reduceLeDiff,Nat.reduceEqDiff,reduceCtorEq,List.reduceReplicate]
   all_goals refine⟨hlt,hlt,loopCE.intro (i+1,_) (fin _ _ (Ba (by rw[Bl];exact hpl) |>.trans (Be hpl)) ?_) ⟨rfl,rfl,⟨q1,rfl,trivial⟩,rfl⟩ (by show np-(i+1)<np-i;clear w1;omega)⟩
   all_goals exact (Fr.set (S:=fun k=>k=jp∨nbk (.v (.slice none 0 0)) k) _ (.inl rfl)).trans (Fr.app (S:=NoB) _ _) fun k e=>e.elim
  ·have hjl:=(Bs.1 hjv).1;have hvp:jp≠jv:=hvp;have hvb:b≠jv:=hvb;have gv:∀ l,(h2++l)[jv]?=some ⟨vv,3,cv⟩:=fun l=>(Ba hjl).trans hjv
   have sv:∀ l c,(h2++l).set jv c=h2.set jv c++l:=fun l c=>Bg _ _ hjl
   have gb2:∀ l c,(h2.set jv c++l)[b]?=some ⟨0,71,[.own jp vp np,k0]⟩:=fun l c=>(Ba (by rw[Bl];exact hbl2)).trans ((Bn hvb.symm).trans kb2)
   have gp2:∀ l c,(h2.set jv c++l)[jp]?=some ⟨vp,137,dn++strC x.name::AV.own jv vv x.types.length::xs2⟩:=fun l c=>(Ba (by rw[Bl];exact hpl)).trans ((Bn hvp.symm).trans ((Ba hpl).symm.trans (gp [])))
   have sp2:∀ l c d,(h2.set jv c++l).set jp d=(h2.set jv c).set jp d++l:=fun l c d=>Bg _ _ (by rw[Bl];exact hpl)
   have q4:List.take x.types.length cv=cv:=Bt (by omega);have q6:x.types.length≤cv.length:=by omega
   rcases hw with rfl|rfl|rfl
   all_goals simp only[seqT,BU,Bu,Bz,tyD,tyO,q1,q2,kb2,kp2,gv,sv,gb2,gp2,sp2,q4,q6,hV,hset,hle,w1,at_len,Bc,Bi,evE,Nat.reduceAdd,Nat.reduceLT,Nat.reduceLeDiff,Nat.reduceEqDiff,reduceCtorEq,List.reduceReplicate]
   all_goals refine⟨hlt,by clear w1;omega,hlt,loopCE.intro (i+1,_) (fin _ _ ((Ba (by rw[Bl,Bl];exact hpl)).trans (Be (by rw[Bl];exact hpl))) ?_) ⟨rfl,rfl,⟨q1,rfl,trivial⟩,rfl⟩ (by show np-(i+1)<np-i;clear w1;omega)⟩
   all_goals exact ((Fr.set (S:=fun k=>k=jp∨nbk (.own jv vv x.types.length) k) _ (.inr rfl)).trans (Fr.set (S:=fun k=>k=jp∨nbk (.own jv vv x.types.length) k) _ (.inl rfl)) fun k e=>.inl e).trans (Fr.app (S:=NoB) _ _) fun k e=>e.elim
end Go.Proofs.YtlobiioioicmhaaGreatDoor.O
