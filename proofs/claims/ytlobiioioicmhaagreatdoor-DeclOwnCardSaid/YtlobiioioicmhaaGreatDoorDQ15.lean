/- A part of the proof. -/
import Derived.Test.YtlobiioioicmhaaGreatDoorDQ14
set_option linter.all false
set_option maxHeartbeats 8000000
namespace Go.Proofs.YtlobiioioicmhaaGreatDoor.O
open _root_.List renaming getElem?_eq_some_iff→Bs,getElem?_append_left→Ba,getElem?_append_right→Br,getElem?_set_self→Be,getElem?_set_ne→Bn,length_set→Bl,length_append→Bp,append_assoc→Bo,cons_append→Bc,nil_append→Bi,getElem?_cons_zero→Bz,getElem?_cons_succ→Bu,set_cons_zero→Bx,set_cons_succ→Bw,length_map→Bk,set_append_left→Bg,take_of_length_le→Bt,mem_singleton→Bj,map_cons→BA,length_cons→BC,length_nil→BD,mem_cons→BI,append_nil→BS,getElem?_toArray→BU,set_append_right→BV
open _root_.Nat renaming le_refl→BL,zero_le→BN
open Go.Proofs.Tryz renaming prog→Tp
open Go Go.Ev
set_option maxRecDepth 20000
variable {γ:List (Nat×AV)}
noncomputable def c42c:Code:=(Tryz.f42.body.bind (pathE [1,1,0,1,2,3,1,0,2,0,1,2,3])).getD .skip
noncomputable def c42d:Code:=(Tryz.f42.body.bind (pathE [1,1,0,1,2,3,1,0,2,1,0,1,2,3])).getD .skip
noncomputable def c42e:Code:=(Tryz.f42.body.bind (pathE [1,1,0,1,2,3])).getD .skip
def kcS(γ:List (Nat×AV))(b i:Nat)(y:Nat×List ABlk):St:=⟨⟨153,[(1,.ptr b 0 0),(4,.v (.int .i64 (i:Int))),(5,.v (.int .i64 (y.1:Int)))],γ⟩,y.2⟩
def koS(γ:List (Nat×AV))(b i:Nat)(y:Nat×List ABlk):St:=⟨⟨153,[(1,.ptr b 0 0),(4,.v (.int .i64 (i:Int))),(6,.v (.int .i64 (y.1:Int)))],γ⟩,y.2⟩
def kiS(γ:List (Nat×AV))(b:Nat)(y:Nat×List ABlk):St:=⟨⟨153,[(1,.ptr b 0 0),(4,.v (.int .i64 (y.1:Int)))],γ⟩,y.2⟩
theorem sp_chs{E:AV→St→Prop}{Q:Post}{l0:List (Nat×AV)}{hh:List ABlk}{b jk vk nk i:Nat}{T C:AV}{ck:List AV}{cs:List Ch}{FC:List Nat}
  (e1:Go.Ev.look l0 1=.ptr b 0 0) (e2:Go.Ev.look l0 4=.v (.int .i64 (i:Int))) (e3:Go.Ev.look l0 5=.v (.int .i64 0))
  (kb:hh[b]?=some ⟨0,71,[T,.own jk vk nk]⟩) (kp:hh[jk]?=some ⟨vk,90,ck⟩) (hi:i<nk) (hC:ck[i * 2+1]?=some C) (oC:ow (chordsA cs) hh (.s 59) C FC) (hF:FC.Nodup) (hvb:b∉FC) (hvp:jk∉FC) (hn:cs.length≤2000000) (hx:∀ x∈cs,okCh x)
  (hQ:∀ l1 h1,Go.Ev.look l1 1=.ptr b 0 0→Go.Ev.look l1 4=.v (.int .i64 (i:Int))→Fr (·∈ FC) hh h1→LN 59 4 h1 C cs.length→Q (.exit 6) ⟨⟨153,l1,γ⟩,h1⟩):LoopE (fun Q s=>kwpE Tp E c42c Q s) Q ⟨⟨153,l0,γ⟩,hh⟩:=by
 have d0:decide (((0:Nat):Int)<0)=false:=rfl
 rcases ow_list oC with⟨rfl,rfl,rfl⟩|⟨jc,vc,F',rfl,hn0,rfl,A⟩
 ·refine LoopE.intro (kcS γ b i) (fun y=>y=(0,hh)) (fun y=>0) (0,hh) ⟨rfl,rfl,⟨e1,e2,e3,trivial⟩,rfl⟩ rfl (fun y hy=>?_);subst hy;simp only[c42c,Tryz.f42,pathE,Option.bind_some,Option.getD_some,kcS,tyD,tyO,d0,kb,kp,hC,evE,Nat.reduceLT,Nat.reduceEqDiff,reduceCtorEq];exact⟨hi,hQ _ _ rfl rfl (Fr.refl _ _) (.inl ⟨rfl,rfl⟩)⟩
 obtain⟨hj0,hF'⟩:=List.nodup_cons.1 hF;have hbj:b≠jc:=fun e=>hvb (by rw[e];exact List.mem_cons_self ..)
 have hpj:jk≠jc:=fun e=>hvp (by rw[e];exact List.mem_cons_self ..)
 generalize hnc:cs.length=nc at *
 refine LoopE.intro (kcS γ b i) (fun y=>∃ (dn:List AV) (l:List Ch) (FR:List Nat),y.1+l.length=nc∧dn.length=y.1 * 4∧Arr 59 Ch.cells y.2 jc vc dn l FR∧(∀ k∈FR,k∈F')∧FR.Nodup∧(∀ p∈l,p∈cs)∧Fr (·∈ jc::F') hh y.2) (fun y=>nc-y.1) (0,hh) ⟨rfl,rfl,⟨e1,e2,e3,trivial⟩,rfl⟩
  ⟨[],cs,F',by simpa using hnc,rfl,A,fun k h=>h,hF',fun p h=>h,Fr.refl _ _⟩ (fun y hy=>?_)
 clear A;obtain⟨k,h1⟩:=y;obtain⟨dn,l,FR,hil,hdn,A,hFR,hFN,hl,f1⟩:=hy;simp only at hil hdn A f1;have kb1:=f1.at kb hvb;have kp1:=f1.at kp hvp;cases l with
 |nil=>
  have hk:k=nc:=hil;have d1:decide (k<nc)=false:=decide_eq_false (by omega);obtain⟨cc,hj,hcl⟩:=A.length;simp only[c42c,Tryz.f42,pathE,Option.bind_some,Option.getD_some,kcS,tyD,tyO,kb1,kp1,hC,hj,d1,evE,Nat.reduceLT,Nat.reduceEqDiff,reduceCtorEq];exact⟨hi,hQ _ _ rfl rfl f1 (.inr ⟨jc,vc,cc,rfl,hn0,hj,by rw[hcl,hdn,hk];simp[kT]⟩)⟩
 |cons x l=>
  have hlt:k<nc:=by rw[BC]at hil;omega
  have d1:decide (k<nc)=true:=decide_eq_true hlt;obtain⟨xs1,xs2,F1,F2,rfl,kq,hx1,o1,o2⟩:=A.cons (by rfl);obtain⟨P,G,B,_,_,_,rfl,_,_,_,_⟩:=ch_inv o1;have hok:=hx x (hl x (List.mem_cons_self ..));have t2:List.drop (k * 4) (dn++strC x.name::P::G::B::xs2)=strC x.name::P::G::B::xs2:=drop1 hdn;have t1:List.take 4 (strC x.name::P::G::B::xs2)=[strC x.name,P,G,B]:=rfl;have hFN':=List.nodup_append.1 hFN;simp only[c42c,Tryz.f42,pathE,Option.bind_some,Option.getD_some,kcS,tyD,tyO,kb1,kp1,hC,kq,d1,t1,t2,Bc,Bi,evE,Nat.reduceLT,Nat.reduceLeDiff,Nat.reduceEqDiff,reduceCtorEq];refine⟨hi,hi,hlt,CallE.intro c43 _ (spoilChord_ev o1 hFN'.1 hok) (fun r h2 hh=>?_) (fun v h2 hh=>by cases hh.1)⟩;obtain⟨er,f2⟩:=hh;cases er;have nF1:∀ k,k∈F1→k∈jc::F':=fun k h=>List.mem_cons_of_mem _ (hFR _ (List.mem_append_left _ h))
  have kq2:=f2.at kq (fun e=>hj0 (hFR _ (List.mem_append_left _ e)));have w1:IntKind.i64.wrap ((k:Int)+1)=((k+1:Nat):Int):=(i64w (by omega) (by omega)).trans (by omega);simp only[w1,evE,Nat.reduceLT,Nat.reduceEqDiff,reduceCtorEq];refine loopCE.intro (k+1,h2) ⟨dn++[strC x.name,P,G,B],l,F2,?_,?_,⟨xs2,by rw[kq2,Bo],?_⟩,fun k h=>hFR k (List.mem_append_right _ h),hFN'.2.1,fun p h=>hl p (List.mem_cons_of_mem _ h),?_⟩ ⟨rfl,rfl,⟨rfl,rfl,rfl,trivial⟩,rfl⟩ (by show nc-(k+1)<nc-k;clear w1;omega)
  ·rw[BC]at hil;show k+1+l.length=nc;clear w1;omega
  ·rw[Bp,hdn];show k * 4+4=(k+1) * 4;clear w1;omega
  ·exact owL_fr2 o2 f2 fun k hk e=>hFN'.2.2 k e k hk rfl
  ·exact f1.trans f2 fun k e=>.inl (nF1 _ e)
theorem sp_overC{E:AV→St→Prop}{Q:Post}{l0:List (Nat×AV)}{hh:List ABlk}{b jk vk nk i n:Nat}{T C:AV}{ck:List AV}
  (e1:Go.Ev.look l0 1=.ptr b 0 0) (e2:Go.Ev.look l0 4=.v (.int .i64 (i:Int))) (e3:Go.Ev.look l0 6=.v (.int .i64 0))
  (kb:hh[b]?=some ⟨0,71,[T,.own jk vk nk]⟩) (kp:hh[jk]?=some ⟨vk,90,ck⟩) (hi:i<nk) (hC:ck[i * 2+1]?=some C) (LC:LN 59 4 hh C n) (hvb:¬nbk C b) (hvp:¬nbk C jk) (hn:n≤2000000)
  (hQ:∀ l1 h1,Go.Ev.look l1 1=.ptr b 0 0→Go.Ev.look l1 4=.v (.int .i64 (i:Int))→Fr (nbk C) hh h1→LN 59 4 h1 C n→Q (.exit 8) ⟨⟨153,l1,γ⟩,h1⟩):LoopE (fun Q s=>kwpE Tp E c42d Q s) Q ⟨⟨153,l0,γ⟩,hh⟩:=by
 have d0:decide (((0:Nat):Int)<0)=false:=rfl
 rcases LC with⟨rfl,rfl⟩|⟨jp,vp,cp,rfl,hn0,hj,hl⟩
 ·refine LoopE.intro (koS γ b i) (fun y=>y=(0,hh)) (fun y=>0) (0,hh) ⟨rfl,rfl,⟨e1,e2,e3,trivial⟩,rfl⟩ rfl (fun y hy=>?_);subst hy;simp only[c42d,Tryz.f42,pathE,Option.bind_some,Option.getD_some,koS,tyD,tyO,d0,kb,kp,hC,evE,Nat.reduceLT,Nat.reduceEqDiff,reduceCtorEq];exact⟨hi,hQ _ _ rfl rfl (Fr.refl _ _) (.inl ⟨rfl,rfl⟩)⟩
 ·have hvb:b≠jp:=hvb;have hvp:jk≠jp:=hvp;refine LoopE.intro (koS γ b i) (fun y=>y.1≤n∧Fr (IsI jp) hh y.2∧∃ cv,y.2[jp]?=some ⟨vp,59,cv⟩∧cv.length=n * 4) (fun y=>n-y.1) (0,hh) ⟨rfl,rfl,⟨e1,e2,e3,trivial⟩,rfl⟩ ⟨BN _,Fr.refl _ _,cp,hj,hl⟩ (fun y hy=>?_);clear hj hl cp;obtain⟨k,h1⟩:=y;obtain⟨hk,f1,cv,hj,hl⟩:=hy;simp only at hk f1 hj;have kb1:=f1.at kb hvb;have kp1:=f1.at kp hvp
  by_cases hlt:k<n
  ·have d1:decide (k<n)=true:=decide_eq_true hlt;have w1:IntKind.i64.wrap ((k:Int)+1)=((k+1:Nat):Int):=(i64w (by omega) (by omega)).trans (by omega);have hkl:k * 4+4≤cv.length:=by omega
   simp only[c42d,Tryz.f42,pathE,Option.bind_some,Option.getD_some,koS,tyD,tyO,kb1,kp1,hC,hj,d1,hkl,w1,evE,Nat.reduceAdd,Nat.reduceLT,Nat.reduceLeDiff,Nat.reduceEqDiff,reduceCtorEq];refine⟨hi,hi,hlt,loopCE.intro (k+1,_) ⟨hlt,?_,?_⟩ ⟨rfl,rfl,⟨rfl,rfl,rfl,trivial⟩,rfl⟩ (by show n-(k+1)<n-k;clear w1;omega)⟩
   ·exact f1.trans (Fr.set (S:=IsI jp) _ rfl) fun k e=>.inl e
   ·exact⟨_,Be (Bs.1 hj).1,by simp only[Bl];exact hl⟩
  ·have d1:decide (k<n)=false:=decide_eq_false hlt;simp only[c42d,Tryz.f42,pathE,Option.bind_some,Option.getD_some,koS,tyD,tyO,kb1,kp1,hC,hj,d1,evE,Nat.reduceLT,Nat.reduceEqDiff,reduceCtorEq];exact⟨hi,hQ _ _ rfl rfl f1 (.inr ⟨jp,vp,cv,rfl,hn0,hj,hl⟩)⟩
theorem sp_kinds{E:AV→St→Prop}{Q:Post}{l0:List (Nat×AV)}{hh:List ABlk}{b:Nat}{T K:AV}{ks:List Kd}{FK:List Nat}
  (e1:Go.Ev.look l0 1=.ptr b 0 0) (e2:Go.Ev.look l0 4=.v (.int .i64 0)) (kb:hh[b]?=some ⟨0,71,[T,K]⟩) (oK:ow (kindsA ks) hh (.s 90) K FK) (hF:FK.Nodup) (hb:b∉FK) (hn:ks.length≤2000000) (hv:∀ k∈ks,okKd k)
  (hQ:∀ l1 h1,Go.Ev.look l1 1=.ptr b 0 0→Fr (·∈ FK) hh h1→LN 90 2 h1 K ks.length→Q (.exit 4) ⟨⟨153,l1,γ⟩,h1⟩):LoopE (fun Q s=>kwpE Tp E c42e Q s) Q ⟨⟨153,l0,γ⟩,hh⟩:=by
 have d0:decide (((0:Nat):Int)<0)=false:=rfl
 rcases ow_list oK with⟨rfl,rfl,rfl⟩|⟨jk,vk,F',rfl,hn0,rfl,A⟩
 ·refine LoopE.intro (kiS γ b) (fun y=>y=(0,hh)) (fun y=>0) (0,hh) ⟨rfl,rfl,⟨e1,e2,trivial⟩,rfl⟩ rfl (fun y hy=>?_);subst hy;simp only[c42e,Tryz.f42,pathE,Option.bind_some,Option.getD_some,kiS,tyD,tyO,d0,kb,evE,Nat.reduceLT,Nat.reduceEqDiff,reduceCtorEq];exact hQ _ _ rfl (Fr.refl _ _) (.inl ⟨rfl,rfl⟩)
 obtain⟨hj0,hF'⟩:=List.nodup_cons.1 hF;have hbj:b≠jk:=fun e=>hb (by rw[e];exact List.mem_cons_self ..)
 generalize hnb:ks.length=nb at *
 refine LoopE.intro (kiS γ b) (fun y=>∃ (dn:List AV) (l:List Kd) (FR:List Nat),y.1+l.length=nb∧dn.length=y.1 * 2∧Arr 90 Kd.cells y.2 jk vk dn l FR∧(∀ k∈FR,k∈F')∧FR.Nodup∧(∀ p∈l,p∈ks)∧Fr (·∈ jk::F') hh y.2) (fun y=>nb-y.1) (0,hh) ⟨rfl,rfl,⟨e1,e2,trivial⟩,rfl⟩
  ⟨[],ks,F',by simpa using hnb,rfl,A,fun k h=>h,hF',fun p h=>h,Fr.refl _ _⟩ (fun y hy=>?_)
 clear A;obtain⟨i,h1⟩:=y;obtain⟨dn,l,FR,hil,hdn,A,hFR,hFN,hl,f1⟩:=hy;simp only at hil hdn A f1;have kb1:=f1.at kb hb;cases l with
 |nil=>
  have hi:i=nb:=hil;have d1:decide (i<nb)=false:=decide_eq_false (by omega);obtain⟨cs,hj,hcl⟩:=A.length;simp only[c42e,Tryz.f42,pathE,Option.bind_some,Option.getD_some,kiS,tyD,tyO,kb1,hj,d1,evE,Nat.reduceLT,Nat.reduceEqDiff,reduceCtorEq];refine hQ _ _ ?_ f1 (.inr ⟨jk,vk,cs,rfl,hn0,hj,by rw[hcl,hdn,hi];simp[kT]⟩)
  rfl
 |cons x l=>
  have hlt:i<nb:=by rw[BC]at hil;omega
  have d1:decide (i<nb)=true:=decide_eq_true hlt;obtain⟨xs1,xs2,F1,F2,rfl,kp,hx1,o1,o2⟩:=A.cons (by rfl);obtain⟨V,rfl,oV⟩:=kd_inv o1;obtain⟨hvn,hvc⟩:=hv x (hl x (List.mem_cons_self ..));have hFN':=List.nodup_append.1 hFN;have nF1:∀ k,k∈F1→k∈F':=fun k h=>hFR _ (List.mem_append_left _ h)
  have hV:(dn++([strC x.name,V]++xs2))[i * 2+1]?=some V:=by
   rw[Br (by omega),hdn,show i * 2+1-i * 2=1 by omega];rfl
  have hbA:b∉F1:=fun e=>hb (List.mem_cons_of_mem _ (nF1 _ e))
  have hjA:jk∉F1:=fun e=>hj0 (nF1 _ e)
  obtain⟨LV,hVF⟩:=ow_LN (enc:=Ch.cells) oV rfl;simp only[c42e,Tryz.f42,pathE,Option.bind_some,Option.getD_some,kiS,tyD,tyO,kb1,kp,d1,evE,Nat.reduceLT,Nat.reduceEqDiff,reduceCtorEq];refine LoopE.cast (fun Q s h=>?_) (sp_chs (γ:=γ) (E:=E) (b:=b) (jk:=jk) (vk:=vk) (nk:=nb) (i:=i) ?_ ?_ ?_ kb1 kp hlt hV oV hFN'.1 hbA hjA hvn hvc (fun l1 h2 q1 q2 f2 LV2=>?_))
  ·simp only[c42c,Tryz.f42,pathE,Option.bind_some,Option.getD_some,evE]at h;exact h
  ·rfl
  ·rfl
  ·rfl
  have kb2:=f2.at kb1 hbA;have kp2:=f2.at kp hjA;simp only[q2,evE,Nat.reduceLT,Nat.reduceEqDiff,reduceCtorEq];refine LoopE.cast (fun Q s h=>?_) (sp_overC (γ:=γ) (E:=E) (b:=b) (jk:=jk) (vk:=vk) (nk:=nb) (i:=i) ?_ ?_ ?_ kb2 kp2 hlt hV LV2 (fun e=>hbA (hVF _ e)) (fun e=>hjA (hVF _ e)) hvn (fun l2 h3 q3 q4 f3 LV3=>?_))
  ·simp only[c42d,Tryz.f42,pathE,Option.bind_some,Option.getD_some,evE]at h;exact h
  ·exact q1
  ·exact q2
  ·rfl
  have kb3:=f3.at kb2 (fun e=>hbA (hVF _ e));have kp3:=f3.at kp2 (fun e=>hjA (hVF _ e));have hpl:=(Bs.1 kp3).1;simp only[q4,evE,Nat.reduceLT,Nat.reduceEqDiff,reduceCtorEq];refine DrawK.orders2 [[0,1,2,3,4,5,6,7,8,9,10,11,12,13,14,15],[3,4,5,6,7,8,9,10,11,12,0,1,2,13,14,15],[0,3,4,5,6,7,8,9,10,11,12,1,2,13,14,15]] (by kernel_rfl) (by kernel_rfl) (by kernel_rfl) (fun w hw=>?_);simp only[BI,List.not_mem_nil,or_false]at hw;have hbl3:=(Bs.1 kb3).1;have gb:∀ l,(h3++l)[b]?=some ⟨0,71,[T,.own jk vk nb]⟩:=fun l=>(Ba hbl3).trans kb3
  have gp:∀ l,(h3++l)[jk]?=some ⟨vk,90,dn++([strC x.name,V]++xs2)⟩:=fun l=>(Ba hpl).trans kp3
  have sp:∀ l c,(h3++l).set jk c=h3.set jk c++l:=fun l c=>Bg _ _ hpl
  have hset:∀ y,(dn++strC x.name::V::xs2).set (i * 2+1) y=dn++strC x.name::y::xs2:=fun y=>by
   rw[BV _ _ (by omega),hdn,show i * 2+1-i * 2=1 by omega];rfl
  have hV':(dn++strC x.name::V::xs2)[i * 2+1]?=some V:=hV;have w1:IntKind.i64.wrap ((i:Int)+1)=((i+1:Nat):Int):=(i64w (by omega) (by omega)).trans (by omega);have hle:i * 2+1+1≤dn.length+(xs2.length+1+1):=by omega
  have fin:∀ (hq:List ABlk) (y:AV),hq[jk]?=some ⟨vk,90,dn++strC x.name::y::xs2⟩→Fr (fun k=>k=jk∨k∈F1) h3 hq→∃ (dn:List AV) (l:List Kd) (FR:List Nat),i+1+l.length=nb∧dn.length=(i+1) * 2∧Arr 90 Kd.cells hq jk vk dn l FR∧(∀ k∈FR,k∈F')∧FR.Nodup∧(∀ p∈l,p∈ks)∧Fr (·∈ jk::F') hh hq:=fun hq y e fq=>by
   have fa:Fr (fun k=>k=jk∨k∈F1) h1 hq:=(f2.mono (S1:=fun k=>k=jk∨k∈F1) fun k e=>.inr e).trans ((f3.mono (S1:=fun k=>k=jk∨k∈F1) fun k e=>.inr (hVF _ e)).trans fq fun k e=>.inl e) fun k e=>.inl e
   refine⟨dn++[strC x.name,y],l,F2,by rw[BC]at hil;omega,by rw[Bp,hdn];simp only[BC,BD];omega,⟨xs2,by rw[e];simp,?_⟩,fun k h=>hFR k (List.mem_append_right _ h),hFN'.2.1,fun p h=>hl p (List.mem_cons_of_mem _ h),f1.trans fa fun k e=>.inl ?_⟩
   ·refine owL_fr2 o2 fa fun k hk e=>?_
    rcases e with rfl|e
    ·exact hj0 (hFR _ (List.mem_append_right _ hk))
    ·exact hFN'.2.2 k e k hk rfl
   ·rcases e with rfl|e
    ·exact List.mem_cons_self ..
    ·exact List.mem_cons_of_mem _ (hFR _ (List.mem_append_left _ e))
  clear kb1 kp o1 oV A hx1 o2 hFR hFN hQ oK
  rcases LV3 with⟨rfl,ev⟩|⟨jv,vv,cv,rfl,hnv,hjv,hlv⟩
  ·rcases hw with rfl|rfl|rfl
   all_goals simp only[seqT,BU,Bu,Bz,tyD,tyO,q3,q4,kb3,kp3,gb,gp,sp,hV',hset,hle,w1,at_len,Bo,Bc,Bi,evE,Nat.reduceAdd,Nat.reduceMul,Nat.reduceLT,Nat.reduceLeDiff,Nat.reduceEqDiff,reduceCtorEq,List.reduceReplicate]
   all_goals refine⟨hlt,hlt,loopCE.intro (i+1,_) (fin _ _ (Ba (by rw[Bl];exact hpl) |>.trans (Be hpl)) ?_) ⟨rfl,rfl,⟨q3,rfl,trivial⟩,rfl⟩ (by show nb-(i+1)<nb-i;clear w1;omega)⟩
   all_goals exact (Fr.set (S:=fun k=>k=jk∨k∈F1) _ (.inl rfl)).trans (Fr.app (S:=NoB) _ _) fun k e=>e.elim
  ·have hjl:=(Bs.1 hjv).1;have hjm:jv∈F1:=hVF jv rfl;have hvp:jk≠jv:=fun e=>hjA (e▸hjm)
   have hvb:b≠jv:=fun e=>hbA (e▸hjm)
   have gv:∀ l,(h3++l)[jv]?=some ⟨vv,59,cv⟩:=fun l=>(Ba hjl).trans hjv
   have sv:∀ l c,(h3++l).set jv c=h3.set jv c++l:=fun l c=>Bg _ _ hjl
   have gb2:∀ l c,(h3.set jv c++l)[b]?=some ⟨0,71,[T,.own jk vk nb]⟩:=fun l c=>(Ba (by rw[Bl];exact hbl3)).trans ((Bn hvb.symm).trans kb3)
   have gp2:∀ l c,(h3.set jv c++l)[jk]?=some ⟨vk,90,dn++strC x.name::AV.own jv vv x.chords.length::xs2⟩:=fun l c=>(Ba (by rw[Bl];exact hpl)).trans ((Bn hvp.symm).trans kp3)
   have sp2:∀ l c d,(h3.set jv c++l).set jk d=(h3.set jv c).set jk d++l:=fun l c d=>Bg _ _ (by rw[Bl];exact hpl)
   have q5:List.take (x.chords.length * 4) cv=cv:=Bt (by omega);have q6:x.chords.length * 4≤cv.length:=by omega
   rcases hw with rfl|rfl|rfl
   all_goals simp only[seqT,BU,Bu,Bz,tyD,tyO,q3,q4,kb3,kp3,gv,sv,gb2,gp2,sp2,q5,q6,hV',hset,hle,w1,at_len,Bc,Bi,evE,Nat.reduceAdd,Nat.reduceMul,Nat.reduceLT,Nat.reduceLeDiff,Nat.reduceEqDiff,reduceCtorEq,List.reduceReplicate]
   all_goals refine⟨hlt,by clear w1;omega,hlt,loopCE.intro (i+1,_) (fin _ _ ((Ba (by rw[Bl,Bl];exact hpl)).trans (Be (by rw[Bl];exact hpl))) ?_) ⟨rfl,rfl,⟨q3,rfl,trivial⟩,rfl⟩ (by show nb-(i+1)<nb-i;clear w1;omega)⟩
   all_goals exact ((Fr.set (S:=fun k=>k=jk∨k∈F1) _ (.inr hjm)).trans (Fr.set (S:=fun k=>k=jk∨k∈F1) _ (.inl rfl)) fun k e=>.inl e).trans (Fr.app (S:=NoB) _ _) fun k e=>e.elim
noncomputable def c42f:Code:=(Tryz.f42.body.bind (pathE [1,1,1,0,1,2,3])).getD .skip
noncomputable def c42g:Code:=(Tryz.f42.body.bind (pathE [1,1,1,1,0,1,2,3])).getD .skip
def toS(γ:List (Nat×AV))(b:Nat)(y:Nat×List ABlk):St:=⟨⟨153,[(1,.ptr b 0 0),(7,.v (.int .i64 (y.1:Int)))],γ⟩,y.2⟩
def koS2(γ:List (Nat×AV))(b:Nat)(y:Nat×List ABlk):St:=⟨⟨153,[(1,.ptr b 0 0),(8,.v (.int .i64 (y.1:Int)))],γ⟩,y.2⟩
theorem sp_overT{E:AV→St→Prop}{Q:Post}{l0:List (Nat×AV)}{hh:List ABlk}{b n:Nat}{P k0:AV}
  (e1:Go.Ev.look l0 1=.ptr b 0 0) (e2:Go.Ev.look l0 7=.v (.int .i64 0)) (kb:hh[b]?=some ⟨0,71,[P,k0]⟩) (LP:LN 137 2 hh P n) (hb:¬nbk P b) (hn:n≤2000000)
  (hQ:∀ l1 h1,Go.Ev.look l1 1=.ptr b 0 0→Fr (nbk P) hh h1→LN 137 2 h1 P n→Q (.exit 10) ⟨⟨153,l1,γ⟩,h1⟩):LoopE (fun Q s=>kwpE Tp E c42f Q s) Q ⟨⟨153,l0,γ⟩,hh⟩:=by
 have d0:decide (((0:Nat):Int)<0)=false:=rfl
 rcases LP with⟨rfl,rfl⟩|⟨jp,vp,cp,rfl,hn0,hj,hl⟩
 ·refine LoopE.intro (toS γ b) (fun y=>y=(0,hh)) (fun y=>0) (0,hh) ⟨rfl,rfl,⟨e1,e2,trivial⟩,rfl⟩ rfl (fun y hy=>?_);subst hy;simp only[c42f,Tryz.f42,pathE,Option.bind_some,Option.getD_some,toS,tyD,tyO,d0,kb,evE,Nat.reduceLT,Nat.reduceEqDiff,reduceCtorEq];exact hQ _ _ rfl (Fr.refl _ _) (.inl ⟨rfl,rfl⟩)
 ·have hb:b≠jp:=hb;refine LoopE.intro (toS γ b) (fun y=>y.1≤n∧Fr (IsI jp) hh y.2∧∃ cv,y.2[jp]?=some ⟨vp,137,cv⟩∧cv.length=n * 2) (fun y=>n-y.1) (0,hh) ⟨rfl,rfl,⟨e1,e2,trivial⟩,rfl⟩ ⟨BN _,Fr.refl _ _,cp,hj,hl⟩ (fun y hy=>?_);clear hj hl cp;obtain⟨k,h1⟩:=y;obtain⟨hk,f1,cv,hj,hl⟩:=hy;simp only at hk f1 hj;have kb1:=f1.at kb hb
  by_cases hlt:k<n
  ·have d1:decide (k<n)=true:=decide_eq_true hlt;have w1:IntKind.i64.wrap ((k:Int)+1)=((k+1:Nat):Int):=(i64w (by omega) (by omega)).trans (by omega);have hkl:k * 2+2≤cv.length:=by omega
   simp only[c42f,Tryz.f42,pathE,Option.bind_some,Option.getD_some,toS,tyD,tyO,kb1,hj,d1,hkl,w1,evE,Nat.reduceAdd,Nat.reduceLT,Nat.reduceLeDiff,Nat.reduceEqDiff,reduceCtorEq];refine⟨hlt,loopCE.intro (k+1,_) ⟨hlt,?_,?_⟩ ⟨rfl,rfl,⟨rfl,rfl,trivial⟩,rfl⟩ (by show n-(k+1)<n-k;clear w1;omega)⟩
   ·exact f1.trans (Fr.set (S:=IsI jp) _ rfl) fun k e=>.inl e
   ·exact⟨_,Be (Bs.1 hj).1,by simp only[Bl];exact hl⟩
  ·have d1:decide (k<n)=false:=decide_eq_false hlt;simp only[c42f,Tryz.f42,pathE,Option.bind_some,Option.getD_some,toS,tyD,tyO,kb1,hj,d1,evE,Nat.reduceLT,Nat.reduceEqDiff,reduceCtorEq];exact hQ _ _ rfl f1 (.inr ⟨jp,vp,cv,rfl,hn0,hj,hl⟩)
theorem sp_overK{E:AV→St→Prop}{Q:Post}{l0:List (Nat×AV)}{hh:List ABlk}{b n:Nat}{T0 B:AV}
  (e1:Go.Ev.look l0 1=.ptr b 0 0) (e2:Go.Ev.look l0 8=.v (.int .i64 0)) (kb:hh[b]?=some ⟨0,71,[T0,B]⟩) (LP:LN 90 2 hh B n) (hb:¬nbk B b) (hn:n≤2000000)
  (hQ:∀ l1 h1,Go.Ev.look l1 1=.ptr b 0 0→Fr (nbk B) hh h1→LN 90 2 h1 B n→Q (.exit 12) ⟨⟨153,l1,γ⟩,h1⟩):LoopE (fun Q s=>kwpE Tp E c42g Q s) Q ⟨⟨153,l0,γ⟩,hh⟩:=by
 have d0:decide (((0:Nat):Int)<0)=false:=rfl
 rcases LP with⟨rfl,rfl⟩|⟨jp,vp,cp,rfl,hn0,hj,hl⟩
 ·refine LoopE.intro (koS2 γ b) (fun y=>y=(0,hh)) (fun y=>0) (0,hh) ⟨rfl,rfl,⟨e1,e2,trivial⟩,rfl⟩ rfl (fun y hy=>?_);subst hy;simp only[c42g,Tryz.f42,pathE,Option.bind_some,Option.getD_some,koS2,tyD,tyO,d0,kb,evE,Nat.reduceLT,Nat.reduceEqDiff,reduceCtorEq];exact hQ _ _ rfl (Fr.refl _ _) (.inl ⟨rfl,rfl⟩)
 ·have hb:b≠jp:=hb;refine LoopE.intro (koS2 γ b) (fun y=>y.1≤n∧Fr (IsI jp) hh y.2∧∃ cv,y.2[jp]?=some ⟨vp,90,cv⟩∧cv.length=n * 2) (fun y=>n-y.1) (0,hh) ⟨rfl,rfl,⟨e1,e2,trivial⟩,rfl⟩ ⟨BN _,Fr.refl _ _,cp,hj,hl⟩ (fun y hy=>?_);clear hj hl cp;obtain⟨k,h1⟩:=y;obtain⟨hk,f1,cv,hj,hl⟩:=hy;simp only at hk f1 hj;have kb1:=f1.at kb hb
  by_cases hlt:k<n
  ·have d1:decide (k<n)=true:=decide_eq_true hlt;have w1:IntKind.i64.wrap ((k:Int)+1)=((k+1:Nat):Int):=(i64w (by omega) (by omega)).trans (by omega);have hkl:k * 2+2≤cv.length:=by omega
   simp only[c42g,Tryz.f42,pathE,Option.bind_some,Option.getD_some,koS2,tyD,tyO,kb1,hj,d1,hkl,w1,evE,Nat.reduceAdd,Nat.reduceLT,Nat.reduceLeDiff,Nat.reduceEqDiff,reduceCtorEq];refine⟨hlt,loopCE.intro (k+1,_) ⟨hlt,?_,?_⟩ ⟨rfl,rfl,⟨rfl,rfl,trivial⟩,rfl⟩ (by show n-(k+1)<n-k;clear w1;omega)⟩
   ·exact f1.trans (Fr.set (S:=IsI jp) _ rfl) fun k e=>.inl e
   ·exact⟨_,Be (Bs.1 hj).1,by simp only[Bl];exact hl⟩
  ·have d1:decide (k<n)=false:=decide_eq_false hlt;simp only[c42g,Tryz.f42,pathE,Option.bind_some,Option.getD_some,koS2,tyD,tyO,kb1,hj,d1,evE,Nat.reduceLT,Nat.reduceEqDiff,reduceCtorEq];exact hQ _ _ rfl f1 (.inr ⟨jp,vp,cv,rfl,hn0,hj,hl⟩)
theorem pg_inv{h:List ABlk}{x:Pg}{xs:List AV}{F:List Nat}(o:owL x.cells h [.s 137,.s 90] xs F):∃ T K F1 F2,xs=[T,K]∧F=F1++F2∧ow (tagsA x.tags) h (.s 137) T F1∧ow (kindsA x.kinds) h (.s 90) K F2:=by
 have q:owL [_,_] h [.s 137,.s 90] xs F:=o;obtain⟨T,xs2,F1,F2,rfl,rfl,o1,o2⟩:=owL_c q;obtain⟨K,xs5,F5,F6,rfl,rfl,o5,o6⟩:=owL_c o2;obtain⟨rfl,rfl⟩:=owL_n o6;rw[BS];exact⟨T,K,F1,F5,rfl,rfl,o1,o5⟩
theorem c42:bodyT Tp 42:=⟨_,Tryz.func42,by kernel_rfl,by kernel_rfl⟩
theorem spoil_ev{h:List ABlk}{x:Pg}{xs:List AV}{F:List Nat}(o:owL x.cells h [.s 137,.s 90] xs F)(hF:F.Nodup)(ok:okPg x):EvM Tp γ 42 [.agg xs] h (Wr F h):=by
 obtain⟨T,K,FT,FK,rfl,rfl,oT,oK⟩:=pg_inv o;obtain⟨ok1,ok2,ok3,ok4⟩:=ok;have hF1:=List.nodup_append.1 hF;have lT:=ow_lt _ _ _ _ oT;have lK:=ow_lt _ _ _ _ oK;obtain⟨LT0,hTF⟩:=ow_LN (enc:=Tg.cells) oT rfl;obtain⟨LK0,hKF⟩:=ow_LN (enc:=Kd.cells) oK rfl;obtain⟨oT1,fT1⟩:=LT0.one;obtain⟨oK1,fK1⟩:=LK0.one;have n1:∀ l,Fr NoB h (h++l):=fun l=>Fr.app _ _
 have oT':=fun l=>ow_fr2 oT (n1 l) (fun k _ e=>e)
 have oK':=fun l=>ow_fr2 oK (n1 l) (fun k _ e=>e)
 have nT:h.length∉FT:=fun e=>by have:=lT _ e;omega
 have nK:h.length∉FK:=fun e=>by have:=lK _ e;omega
 refine EvM.of Tryz.func42 rfl ?_;simp only[Tryz.f42,oT1,oK1,evE,Nat.reduceAdd,Nat.reduceSub,Nat.reduceLT];refine LoopE.cast (fun Q s h=>?_) (sp_tags (γ:=γ) (E:=panE (Wr (FT++FK) h)) (b:=h.length) ?_ ?_ (at_len h _ []) (oT' _) hF1.1 nT ok1 ok2 (fun l1 h2 q1 f2 LT2=>?_))
 ·simp only[c42b,Tryz.f42,pathE,Option.bind_some,Option.getD_some,evE]at h;exact h
 ·rfl
 ·rfl
 have kb2:=f2.at (at_len h _ []) nT;have oK2:=ow_fr2 (oK' _) f2 (fun k hk e=>hF1.2.2 k e k hk rfl);have g2:Fr (·∈ FT++FK) h h2:=((n1 _).mono (S1:=(·∈ FT++FK)) fun k e=>e.elim).trans f2 fun k e=>.inl (List.mem_append_left _ e)
 simp only[evE,Nat.reduceLT];refine LoopE.cast (fun Q s h=>?_) (sp_kinds (γ:=γ) (E:=panE (Wr (FT++FK) h)) (b:=h.length) ?_ ?_ kb2 oK2 hF1.2.1 nK ok3 ok4 (fun l2 h3 q2 f3 LK3=>?_))
 ·simp only[c42e,Tryz.f42,pathE,Option.bind_some,Option.getD_some,evE]at h;exact h
 ·exact q1
 ·rfl
 have kb3:=f3.at kb2 nK;have LT3:=LT2.fr f3 (fun k hk e=>hF1.2.2 k (hTF k hk) k e rfl);have g3:=g2.trans f3 fun k e=>.inl (List.mem_append_right _ e)
 simp only[evE,Nat.reduceLT];refine LoopE.cast (fun Q s h=>?_) (sp_overT (γ:=γ) (E:=panE (Wr (FT++FK) h)) (b:=h.length) ?_ ?_ kb3 LT3 (fun e=>nT (hTF _ e)) ok1 (fun l3 h4 q3 f4 LT4=>?_))
 ·simp only[c42f,Tryz.f42,pathE,Option.bind_some,Option.getD_some,evE]at h;exact h
 ·exact q2
 ·rfl
 have kb4:=f4.at kb3 (fun e=>nT (hTF _ e));have LK4:=LK3.fr f4 (fun k hk e=>hF1.2.2 k (hTF k e) k (hKF k hk) rfl);have g4:=g3.trans f4 fun k e=>.inl (List.mem_append_left _ (hTF k e))
 simp only[evE,Nat.reduceLT];refine LoopE.cast (fun Q s h=>?_) (sp_overK (γ:=γ) (E:=panE (Wr (FT++FK) h)) (b:=h.length) ?_ ?_ kb4 LK4 (fun e=>nK (hKF _ e)) ok3 (fun l4 h5 q4 f5 LK5=>?_))
 ·simp only[c42g,Tryz.f42,pathE,Option.bind_some,Option.getD_some,evE]at h;exact h
 ·exact q3
 ·rfl
 have kb5:=f5.at kb4 (fun e=>nK (hKF _ e));have LT5:=LT4.fr f5 (fun k hk e=>hF1.2.2 k (hTF k hk) k (hKF k e) rfl);have g5:=g4.trans f5 fun k e=>.inl (List.mem_append_right _ (hKF k e))
 have hpb:∀ k,nbk T k→¬nbk K k:=fun k hk hk2=>hF1.2.2 k (hTF k hk) k (hKF k hk2) rfl
 have hb5:=(Bs.1 kb5).1;have hP5:∀ k,nbk T k→k<h.length∧k∈FT++FK:=fun k hk=>⟨lT _ (hTF k hk),List.mem_append_left _ (hTF k hk)⟩
 have hB5:∀ k,nbk K k→k<h.length∧k∈FT++FK:=fun k hk=>⟨lK _ (hKF k hk),List.mem_append_right _ (hKF k hk)⟩
 clear oK2 oT' oK' kb4 kb3 kb2 g4 g3 g2 f2 f3 f4 f5 LT4 LK4 LT3 LK3 LT2 o oT oK LT0 LK0 hTF hKF lT lK nT nK hF1 hF ok2 ok4;generalize FT++FK=F at *
 have FW:∀ hq,Fr (fun k=>k=h.length∨nbk T k∨nbk K k) h5 hq→Wr F h (.ret (.tup [])) hq:=fun hq fq=>⟨rfl,g5.trans fq fun k e=>by
  rcases e with e|e|e
  ·exact .inr (by omega)
  ·exact .inl (hP5 k e).2
  ·exact .inl (hB5 k e).2⟩
 have ft:∀ {W:Nat→Prop} {a b c:List ABlk},Fr W a b→Fr W b c→Fr W a c:=fun f g=>f.trans g fun k e=>.inl e
 have fa:∀ {W:Nat→Prop} (a l:List ABlk),Fr W a (a++l):=fun a l=>Fr.app a l
 have gb:∀ l,(h5++l)[h.length]?=some ⟨0,71,[T,K]⟩:=fun l=>(Ba hb5).trans kb5
 have facts:∀ H:List ABlk,H.length=h5.length→(∀ l c,(H++l).set h.length c=H.set h.length c++l)∧(∀ l c,(H.set h.length c++l)[h.length]?=some c)∧(∀ l c d,(H.set h.length c++l).set h.length d=(H.set h.length c).set h.length d++l)∧
   (∀ c (x y:ABlk) l,(H.set h.length c++x::y::l)[h5.length+1]?=some y)∧(∀ c (x y z:ABlk) l,(H.set h.length c++x::y::z::l)[h5.length+2]?=some z)∧(∀ (x:ABlk) l,(H++x::l)[h5.length]?=some x):=fun H hl=>
  ⟨fun l c=>Bg _ _ (by omega),fun l c=>(Ba (by rw[Bl];omega)).trans (Be (by omega)),fun l c d=>Bg _ _ (by rw[Bl];omega),
   fun c x y l=>by rw[Br (by rw[Bl];omega),Bl,hl,show h5.length+1-h5.length=1 by omega];rfl,
   fun c x y z l=>by rw[Br (by rw[Bl];omega),Bl,hl,show h5.length+2-h5.length=2 by omega];rfl,
   fun x l=>by rw[←hl];exact at_len H x l⟩
 rcases LT5 with⟨rfl,eP⟩|⟨jp,vp,cp,rfl,hp0,hjp,hlp⟩
 ·obtain⟨sb,gb1,sb1,a1,a2,a0⟩:=facts h5 rfl
  rcases LK5 with⟨rfl,eB⟩|⟨jb,vb,cb,rfl,hb0,hjb,hlb⟩
  ·simp only[tyD,q4,kb5,gb,sb,gb1,sb1,a2,a0,setMany,Bx,Bw,Bo,Bc,Bi,evE,Nat.reduceAdd,Nat.reduceMul,Nat.reduceLT,Nat.reduceLeDiff,Nat.reduceEqDiff,reduceCtorEq,List.reduceReplicate];exact FW _ (ft (ft (Fr.set _ (.inl rfl)) (Fr.set _ (.inl rfl))) (fa _ _))
  ·have hjl:=(Bs.1 hjb).1;have hjn:jb≠h.length:=fun e=>by have:=(hB5 jb rfl).1;omega
   have gj:∀ l c,(h5.set h.length c++l)[jb]?=some ⟨vb,90,cb⟩:=fun l c=>(Ba (by rw[Bl];exact hjl)).trans ((Bn hjn.symm).trans hjb)
   have sj:∀ l c d,(h5.set h.length c++l).set jb d=(h5.set h.length c).set jb d++l:=fun l c d=>Bg _ _ (by rw[Bl];exact hjl)
   have gb2:∀ l c d,((h5.set h.length c).set jb d++l)[h.length]?=some c:=fun l c d=>(Ba (by simp only[Bl];exact hb5)).trans ((Bn hjn).trans (Be hb5))
   have sb2:∀ l c d e,((h5.set h.length c).set jb d++l).set h.length e=((h5.set h.length c).set jb d).set h.length e++l:=fun l c d e=>Bg _ _ (by simp only[Bl];exact hb5)
   have q5:List.take (x.kinds.length * 2) cb=cb:=Bt (by omega);have q6:x.kinds.length * 2≤cb.length:=by omega
   simp only[tyD,q4,kb5,gb,sb,gb1,a2,a0,gj,sj,gb2,sb2,q5,q6,setMany,Bx,Bw,Bo,Bc,Bi,evE,Nat.reduceAdd,Nat.reduceMul,Nat.reduceLT,Nat.reduceLeDiff,Nat.reduceEqDiff,reduceCtorEq,List.reduceReplicate];exact⟨by omega,FW _ (ft (ft (ft (Fr.set _ (.inl rfl)) (Fr.set _ (.inr (.inr rfl)))) (Fr.set _ (.inl rfl))) (fa _ _))⟩
 ·have hpl:=(Bs.1 hjp).1;have hpn:jp≠h.length:=fun e=>by have:=(hP5 jp rfl).1;omega
  have gp:∀ l,(h5++l)[jp]?=some ⟨vp,137,cp⟩:=fun l=>(Ba hpl).trans hjp
  have sp:∀ l c,(h5++l).set jp c=h5.set jp c++l:=fun l c=>Bg _ _ hpl
  have gpb:∀ l d,(h5.set jp d++l)[h.length]?=some ⟨0,71,[.own jp vp x.tags.length,K]⟩:=fun l d=>(Ba (by rw[Bl];exact hb5)).trans ((Bn hpn).trans kb5)
  have sb:=fun d=>(facts (h5.set jp d) Bl).1
  have gb1:=fun d=>(facts (h5.set jp d) Bl).2.1
  have sb1:=fun d=>(facts (h5.set jp d) Bl).2.2.1
  have a1:=fun d=>(facts (h5.set jp d) Bl).2.2.2.1
  have a2:=fun d=>(facts (h5.set jp d) Bl).2.2.2.2.1
  have a0:=fun d=>(facts (h5.set jp d) Bl).2.2.2.2.2
  have a00:=(facts h5 rfl).2.2.2.2.2;have q7:List.take (x.tags.length * 2) cp=cp:=Bt (by omega);have q8:x.tags.length * 2≤cp.length:=by omega
  rcases LK5 with⟨rfl,eB⟩|⟨jb,vb,cb,rfl,hb0,hjb,hlb⟩
  ·simp only[tyD,q4,kb5,gp,sp,gpb,sb,gb1,sb1,a1,a00,q7,q8,setMany,Bx,Bw,Bo,Bc,Bi,evE,Nat.reduceAdd,Nat.reduceMul,Nat.reduceLT,Nat.reduceLeDiff,Nat.reduceEqDiff,reduceCtorEq,List.reduceReplicate];exact⟨by omega,FW _ (ft (ft (ft (Fr.set _ (.inr (.inl rfl))) (Fr.set _ (.inl rfl))) (Fr.set _ (.inl rfl))) (fa _ _))⟩
  ·have hjl:=(Bs.1 hjb).1;have hjn:jb≠h.length:=fun e=>by have:=(hB5 jb rfl).1;omega
   have hjp2:jp≠jb:=hpb jp rfl;have gj:∀ l e c,((h5.set jp e).set h.length c++l)[jb]?=some ⟨vb,90,cb⟩:=fun l e c=>(Ba (by simp only[Bl];exact hjl)).trans ((Bn hjn.symm).trans ((Bn hjp2).trans hjb))
   have sj:∀ l e c d,((h5.set jp e).set h.length c++l).set jb d=((h5.set jp e).set h.length c).set jb d++l:=fun l e c d=>Bg _ _ (by simp only[Bl];exact hjl)
   have gb2:∀ l f c d,(((h5.set jp f).set h.length c).set jb d++l)[h.length]?=some c:=fun l f c d=>(Ba (by simp only[Bl];exact hb5)).trans ((Bn hjn).trans (Be (by rw[Bl];exact hb5)))
   have sb2:∀ l f c d e,(((h5.set jp f).set h.length c).set jb d++l).set h.length e=(((h5.set jp f).set h.length c).set jb d).set h.length e++l:=fun l f c d e=>Bg _ _ (by simp only[Bl];exact hb5)
   have q5:List.take (x.kinds.length * 2) cb=cb:=Bt (by omega);have q6:x.kinds.length * 2≤cb.length:=by omega
   simp only[tyD,q4,kb5,gp,sp,gpb,sb,gb1,a1,a00,gj,sj,gb2,sb2,q5,q6,q7,q8,setMany,Bx,Bw,Bo,Bc,Bi,evE,Nat.reduceAdd,Nat.reduceMul,Nat.reduceLT,Nat.reduceLeDiff,Nat.reduceEqDiff,reduceCtorEq,List.reduceReplicate];exact⟨by omega,by omega,FW _ (ft (ft (ft (ft (Fr.set _ (.inr (.inl rfl))) (Fr.set _ (.inl rfl))) (Fr.set _ (.inr (.inr rfl)))) (Fr.set _ (.inl rfl))) (fa _ _))⟩
end Go.Proofs.YtlobiioioicmhaaGreatDoor.O
namespace Go.Proofs.YtlobiioioicmhaaGreatDoor
open _root_.List renaming getElem?_eq_some_iff→Bs,getElem?_append_left→Ba,getElem?_append_right→Br,getElem?_set_self→Be,getElem?_set_ne→Bn,length_set→Bl,length_append→Bp,append_assoc→Bo,cons_append→Bc,nil_append→Bi,getElem?_cons_zero→Bz,getElem?_cons_succ→Bu,set_cons_zero→Bx,set_cons_succ→Bw,length_map→Bk,set_append_left→Bg,take_of_length_le→Bt,mem_singleton→Bj,map_cons→BA,length_cons→BC,length_nil→BD,mem_cons→BI,append_nil→BS,getElem?_toArray→BU,set_append_right→BV
open _root_.Nat renaming le_refl→BL,zero_le→BN
open Go.Proofs.Tryz renaming prog→Tp
open Go Go.Ev
def okTr:Tr→Prop
 |.lf _ _ vk _ vr vt=>vk≠3∧vr<18446744073709551616∧vt.length≤140737488351232
 |.un _ a=>okTr a
 |.bi _ a b=>okTr a∧okTr b
theorem nd0(k a b:Int):okNd ⟨k,a,b,[],0,0,0,[]⟩:=⟨(by decide:(0:Int)≠3),(by decide:0<18446744073709551616),BN _⟩
theorem okX_nil:okX []:=⟨BN _,fun _ h=>by cases h⟩
theorem lay_ok(t:Tr):∀ n,okTr t→∀ nd∈lay t n,okNd nd:=by
 induction t with
 |lf k nm vk vi vr vt=>intro n h nd hm;simp only[lay,Bj]at hm;subst hm;exact h
 |un k a ih=>
  intro n h nd hm;simp only[lay,List.mem_append,Bj]at hm
  rcases hm with hm|rfl
  ·exact ih n h nd hm
  ·exact nd0 k _ 0
 |bi k a b iha ihb=>
  intro n h nd hm;simp only[lay,List.mem_append,Bj]at hm
  rcases hm with (hm|hm)|rfl
  ·exact iha _ h.1 nd hm
  ·exact ihb _ h.2 nd hm
  ·exact nd0 k _ _
def okMd:Md→Prop
 |.lp _ a=>okTr a
 |_=>True
theorem prTr_ok(ts:List Tk)(hts:∀ t∈ts,okTk t):∀ (f:Nat) (m:Md) (p:Nat) (t:Tr) (q:Nat),okMd m→pr ts f m p=.ok t q→okTr t:=by
 intro f
 induction f with
 |zero=>intro m p t q _ h;cases m<;>cases h
 |succ f ih=>
  intro m p t q hm h;cases m with
  |bin n=>
   rw[pr]at h
   split at h
   ·exact ih .un _ _ _ trivial h
   ·split at h
    ·cases h
    ·rename_i a q' e;exact ih (.lp n a) _ _ _ (ih (.bin (n+1)) _ _ _ trivial e) h
  |lp n a=>
   rw[pr]at h
   split at h
   ·cases h;exact hm
   ·split at h
    ·cases h
    ·rename_i b q' e;have kb:=ih (.bin (n+1)) _ _ _ trivial e
     split at h
     ·cases h;exact And.intro hm kb
     ·exact ih (.lp n (.bi _ a b)) _ _ _ (And.intro hm kb) h
  |un=>
   rw[pr]at h
   split at h
   ·split at h
    ·cases h
    ·rename_i a q' e;have ka:=ih .un _ _ _ trivial e;cases h;exact ka
   ·exact ih .fs _ _ _ trivial h
  |fs=>
   rw[pr]at h
   split at h
   ·split at h
    ·cases h
    ·rename_i a q' e
     split at h
     ·cases h;exact ih (.bin 1) _ _ _ trivial e
     ·cases h
   ·split at h
    ·cases h
    ·rename_i t' e;have kt:=hts _ (List.mem_of_getElem? e)
     repeat' split at h
     all_goals first
      |(cases h;done)
      |(cases h;exact⟨by decide,by decide,by decide⟩)
      |(cases h;exact⟨(by decide:(2:Int)≠3),kt.2,by decide⟩)
      |(cases h;exact⟨(by decide:(4:Int)≠3),by decide,kt.1⟩)
      |exact ih (.nm _) _ _ _ trivial h
  |nm s=>
   rw[pr]at h
   split at h
   ·cases h;exact⟨by decide,by decide,by decide⟩
   split at h
   ·cases h;exact⟨by decide,by decide,by decide⟩
   split at h
   ·cases h;exact⟨by decide,by decide,by decide⟩
   split at h
   ·cases h
   split at h
   ·cases h
   rename_i a q' e;have ka:=ih (.bin 1) _ _ _ trivial e
   split at h
   ·split at h
    ·cases h
    split at h
    ·cases h
    rename_i b r e2;have kb:=ih (.bin 1) _ _ _ trivial e2
    split at h
    ·cases h;exact⟨ka,kb⟩
    ·cases h
   ·split at h
    ·cases h;exact ka
    ·cases h
def DR.all{α:Type}(P:α→Prop):DR α→Prop
 |.ok x _=>P x
 |.bad _ _=>True
theorem all_bind{α β:Type}{P:α→Prop}{Q:β→Prop}{r:DR α}{f:α→Nat→DR β}(h:r.all P)(hf:∀ x q,P x→(f x q).all Q):(r.bind f).all Q:=by
 cases r with
 |ok x q=>exact hf x q h
 |bad q e=>trivial
theorem all_any{α:Type}(r:DR α):r.all fun _=>True:=by cases r<;>trivial
def TokOk(ts:List Tk):Prop:=ts.length≤32769∧∀ t∈ts,okTk t
theorem expr_all{ts:List Tk}(h:TokOk ts)(p:Nat):(exprD ts p).all okX:=by
 unfold exprD
 split
 ·rename_i hz;show okX (readR ts p).1;unfold readR at hz⊢
  split
  ·exact okX_nil
  ·rename_i hn;rw[if_neg hn]at hz
   split
   ·exact okX_nil
   ·rename_i t q e
    split
    ·rename_i hk;refine⟨?_,lay_ok t 0 (prTr_ok _ (fun t ht=>h.2 t (List.mem_of_mem_take ht)) _ (.bin 1) _ _ _ trivial e)⟩;show (lay t 0).length≤_;rw[lay_length];unfold limK at hk
     by_cases h64:64<t.size
     ·rw[if_pos h64]at hk;cases hk
     ·omega
    ·exact okX_nil
 ·trivial
theorem more_all{α:Type}{P:α→Prop}{ts:List Tk}{I:Nat→DR α}(hI:∀ p,(I p).all P):∀ (f:Nat) (l:List α) (p:Nat),(∀ x∈l,P x)→(moreD ts I f l p).all fun r=>r.length≤l.length+f∧∀ x∈r,P x
 |0,l,p,_=>trivial
 |f+1,l,p,hl=>by
  rw[moreD]
  split
  ·exact⟨by omega,hl⟩
  split
  ·refine all_bind (hI _) fun x q hx=>?_
   have k:=more_all (ts:=ts) hI f (l++[x]) q (fun y hy=>(List.mem_append.1 hy).elim (hl y) fun hy=>by rw[Bj.1 hy];exact hx);rw[Bp]at k;cases e:moreD ts I f (l++[x]) q with
   |ok y z=>rw[e]at k;exact⟨by have:=k.1;simp only[List.length_singleton]at this;omega,k.2⟩
   |bad=>trivial
  ·trivial
theorem list_all{α:Type}{P:α→Prop}{ts:List Tk}{I:Nat→DR α}(h:ts.length≤32769)(hI:∀ p,(I p).all P)(p:Nat):(listD ts I p).all fun r=>r.length≤2000000∧∀ x∈r,P x:=by
 unfold listD;refine all_bind (all_any _) fun _ p1 _=>?_
 split
 ·exact⟨BN _,fun _ h=>by cases h⟩
 ·refine all_bind (hI _) fun x q hx=>?_
  have k:=more_all (ts:=ts) hI (ts.length+1) [x] q (fun y hy=>by rw[Bj.1 hy];exact hx);cases e:moreD ts I (ts.length+1) [x] q with
  |ok y z=>rw[e]at k;exact⟨by have:=k.1;simp only[List.length_singleton]at this;omega,k.2⟩
  |bad=>trivial
def okPt(p:Pt):Prop:=p.vars.length≤2000000
theorem part_all{ts:List Tk}(h:TokOk ts)(p:Nat):(partD ts p).all okPt:=by
 unfold partD;refine all_bind (all_any _) fun n p1 _=>?_
 exact all_bind (list_all h.1 (fun p=>all_any _) _) fun l p2 hl=>hl.1
theorem act_all{ts:List Tk}(h:TokOk ts)(p:Nat):(actD ts p).all okAc:=by
 have x0:okX []:=⟨by decide,fun _ h=>by cases h⟩;unfold actD
 split
 ·refine all_bind (expr_all h _) fun x p1 hx=>all_bind (all_any _) fun n p2 _=>all_bind (list_all h.1 (expr_all h) _) fun l p3 hl=>⟨hx,hl⟩
 split
 ·exact all_bind (all_any _) fun n p1 _=>all_bind (all_any _) fun _ p2 _=>all_bind (all_any _) fun v p3 _=>⟨x0,BN _,fun _ h=>by cases h⟩
 split
 ·exact all_bind (list_all h.1 (expr_all h) _) fun l p1 hl=>⟨x0,hl⟩
 split
 ·exact all_bind (all_any _) fun n p1 _=>⟨x0,BN _,fun _ h=>by cases h⟩
 ·trivial
theorem acts_all{ts:List Tk}(h:TokOk ts):∀ (f:Nat) (l:List Ac) (p:Nat),(∀ x∈l,okAc x)→(actsD ts f l p).all fun r=>r.length≤l.length+f∧∀ x∈r,okAc x
 |0,l,p,_=>trivial
 |f+1,l,p,hl=>by
  rw[actsD]
  split
  ·exact⟨by omega,hl⟩
  ·refine all_bind (act_all h _) fun a p1 ha=>all_bind (all_any _) fun _ p2 _=>?_
   have k:=acts_all h f (l++[a]) p2 (fun y hy=>(List.mem_append.1 hy).elim (hl y) fun hy=>by rw[Bj.1 hy];exact ha);rw[Bp]at k;cases e:actsD ts f (l++[a]) p2 with
   |ok y z=>rw[e]at k;exact⟨by have:=k.1;simp only[List.length_singleton]at this;omega,k.2⟩
   |bad=>trivial
theorem parts_all{ts:List Tk}(h:TokOk ts):∀ (f:Nat) (l:List Pt) (p:Nat),(∀ x∈l,okPt x)→(partsD ts f l p).all fun r=>r.length≤l.length+f∧∀ x∈r,okPt x
 |0,l,p,_=>trivial
 |f+1,l,p,hl=>by
  rw[partsD]
  split
  ·refine all_bind (part_all h _) fun a p1 ha=>?_
   have k:=parts_all h f (l++[a]) p1 (fun y hy=>(List.mem_append.1 hy).elim (hl y) fun hy=>by rw[Bj.1 hy];exact ha);rw[Bp]at k;cases e:partsD ts f (l++[a]) p1 with
   |ok y z=>rw[e]at k;exact⟨by have:=k.1;simp only[List.length_singleton]at this;omega,k.2⟩
   |bad=>trivial
  ·exact⟨by omega,hl⟩
theorem guard_all{ts:List Tk}(h:TokOk ts)(p:Nat):(guardD ts p).all okX:=by
 unfold guardD
 split
 ·exact expr_all h _
 ·exact⟨by decide,fun _ h=>by cases h⟩
theorem chord_all{ts:List Tk}(h:TokOk ts)(p:Nat):(chordD ts p).all okCh:=by
 have hb:=h.1;unfold chordD;refine all_bind (all_any _) fun _ p1 _=>all_bind (all_any _) fun n p2 _=>all_bind (all_any _) fun _ p3 _=>all_bind (part_all h _) fun x p4 hx=>?_
 refine all_bind (parts_all h _ [x] _ (fun y hy=>by rw[Bj.1 hy];exact hx)) fun l p5 hl=>all_bind (guard_all h _) fun g p6 hg=>?_
 unfold bodyD;refine all_bind (all_bind (all_any _) fun _ p7 _=>acts_all h _ [] _ (fun _ h=>by cases h)) fun b p8 hb2=>?_
 have h1:=hl.1;have h2:=hb2.1;simp only[List.length_singleton,BD]at h1 h2;exact⟨by show l.length≤_;omega,hl.2,hg,by show b.length≤_;omega,hb2.2⟩
theorem read_all{α:Type}{P:α→Prop}{z:α}{D:List Tk→DR α}(hz:P z)(hD:∀ ts,TokOk ts→(D ts).all P)(l:List UInt8):P (readO z D l).1:=by
 unfold readO
 split
 ·split<;>exact hz
 ·rename_i L e;have k:=hD (L.map tkOf) ⟨by rw[Bk];exact small_toks e,toks_ok e⟩
  split
  ·exact hz
  ·rename_i x q ex;rw[ex]at k
   split
   ·exact hz
   ·exact k
theorem zCh_ok:okCh zCh:=⟨BN _,fun _ h=>(List.not_mem_nil h).elim,okX_nil,BN _,fun _ h=>(List.not_mem_nil h).elim⟩
theorem chordO_ok(l:List UInt8):okCh (chordO l).1:=read_all (P:=okCh) zCh_ok (fun ts h=>chord_all h 0) l
set_option maxRecDepth 20000
variable {γ:List (Nat×AV)}
theorem tag_all{ts:List Tk}(h:TokOk ts)(p:Nat):(tagD ts p).all okTg:=by
 unfold tagD;refine all_bind (all_any _) fun n p1 _=>all_bind (list_all (P:=fun _=>True) h.1 (fun p=>all_any _) p1) fun l p2 hl=>all_bind (all_any _) fun _ p3 _=>?_
 exact hl.1
theorem chords_all{ts:List Tk}(h:TokOk ts):∀ (f:Nat) (l:List Ch) (p:Nat),(∀ x∈l,okCh x)→(chordsD ts f l p).all fun r=>r.length≤l.length+f∧∀ x∈r,okCh x
 |0,l,p,hl=>trivial
 |f+1,l,p,hl=>by
  rw[chordsD]
  split
  ·exact⟨by omega,hl⟩
  ·refine all_bind (chord_all h p) fun x q hx=>?_
   have k:=chords_all h f (l++[x]) q (fun y hy=>by
    rcases List.mem_append.1 hy with hy|hy
    ·exact hl y hy
    ·rw[Bj.1 hy];exact hx)
   cases e:chordsD ts f (l++[x]) q with
   |bad _ _=>trivial
   |ok r _=>
    rw[e]at k;have k1:r.length≤(l++[x]).length+f:=k.1;rw[Bp,List.length_singleton]at k1;exact⟨by show r.length≤_;omega,k.2⟩
theorem kind2_all{ts:List Tk}(h:TokOk ts)(p:Nat):(kindD2 ts p).all okKd:=by
 have hb:=h.1;unfold kindD2;refine all_bind (all_any _) fun _ p1 _=>all_bind (all_any _) fun n p2 _=>all_bind (all_any _) fun _ p3 _=>all_bind (chords_all h _ [] _ (fun _ h=>by cases h)) fun l p4 hl=>?_
 have h1:=hl.1;simp only[BD]at h1;exact⟨by show l.length≤_;omega,hl.2⟩
theorem prog_all{ts:List Tk}(h:TokOk ts):∀ (f:Nat) (g:Pg) (p:Nat),(∀ x∈g.tags,okTg x)→(∀ x∈g.kinds,okKd x)→(progD ts f g p).all fun r=>r.tags.length+r.kinds.length≤g.tags.length+g.kinds.length+f∧(∀ x∈r.tags,okTg x)∧∀ x∈r.kinds,okKd x
 |0,g,p,h1,h2=>trivial
 |f+1,g,p,h1,h2=>by
  have snoc:∀ {α:Type} {P:α→Prop} {l:List α} {x:α},(∀ y∈l,P y)→P x→∀ y∈l++[x],P y:=fun {α P l x} hl hx y hy=>by
   rcases List.mem_append.1 hy with hy|hy
   ·exact hl y hy
   ·rw[Bj.1 hy];exact hx
  rw[progD]
  split
  ·split
   ·refine all_bind (tag_all h _) fun x q hx=>?_
    have k:=prog_all h f ⟨g.tags++[x],g.kinds⟩ q (snoc h1 hx) h2;cases e:progD ts f ⟨g.tags++[x],g.kinds⟩ q with
    |bad _ _=>trivial
    |ok r _=>
     rw[e]at k;have k1:r.tags.length+r.kinds.length≤(g.tags++[x]).length+g.kinds.length+f:=k.1;rw[Bp,List.length_singleton]at k1;exact⟨by show r.tags.length+r.kinds.length≤_;omega,k.2⟩
   ·refine all_bind (kind2_all h _) fun x q hx=>?_
    have k:=prog_all h f ⟨g.tags,g.kinds++[x]⟩ q h1 (snoc h2 hx);cases e:progD ts f ⟨g.tags,g.kinds++[x]⟩ q with
    |bad _ _=>trivial
    |ok r _=>
     rw[e]at k;have k1:r.tags.length+r.kinds.length≤g.tags.length+(g.kinds++[x]).length+f:=k.1;rw[Bp,List.length_singleton]at k1;exact⟨by show r.tags.length+r.kinds.length≤_;omega,k.2⟩
  ·exact⟨by omega,h1,h2⟩
theorem progO_bnd(l:List UInt8):okPg (progO l).1:=read_all (P:=okPg) ⟨BN _,fun _ h=>(List.not_mem_nil h).elim,BN _,fun _ h=>(List.not_mem_nil h).elim⟩ (fun ts h=>by
 have hb:=h.1;have k:=prog_all h (ts.length+1) zPg 0 (fun _ h=>(List.not_mem_nil h).elim) (fun _ h=>(List.not_mem_nil h).elim);show (progD ts (ts.length+1) zPg 0).all okPg;cases e:progD ts (ts.length+1) zPg 0 with
 |bad _ _=>trivial
 |ok r _=>
  rw[e]at k;have k1:r.tags.length+r.kinds.length≤0+0+(ts.length+1):=k.1;exact⟨by show r.tags.length≤_;omega,k.2.1,by show r.kinds.length≤_;omega,k.2.2⟩) l
end Go.Proofs.YtlobiioioicmhaaGreatDoor
namespace Go.Proofs.YtlobiioioicmhaaGreatDoor.O
open _root_.List renaming getElem?_eq_some_iff→Bs,getElem?_append_left→Ba,getElem?_append_right→Br,getElem?_set_self→Be,getElem?_set_ne→Bn,length_set→Bl,length_append→Bp,append_assoc→Bo,cons_append→Bc,nil_append→Bi,getElem?_cons_zero→Bz,getElem?_cons_succ→Bu,set_cons_zero→Bx,set_cons_succ→Bw,length_map→Bk,set_append_left→Bg,take_of_length_le→Bt,mem_singleton→Bj,map_cons→BA,length_cons→BC,length_nil→BD,mem_cons→BI,append_nil→BS,getElem?_toArray→BU,set_append_right→BV
open _root_.Nat renaming le_refl→BL,zero_le→BN
open Go.Proofs.Tryz renaming prog→Tp
open Go Go.Ev
def wA(a:Ac):Nat:=1+a.args.length
def wB(l:List Ac):Nat:=(l.map wA).sum
def wC(c:Ch):Nat:=c.parts.length+(1+wB c.body)
def wK(k:Kd):Nat:=(k.chords.map wC).sum
def wG(l:List Kd):Nat:=(l.map wK).sum
variable {ts:List Tk}
theorem bind_ok{α β:Type}{r:DR α}{f:α→Nat→DR β}{y:β}{q:Nat}(h:r.bind f=.ok y q):∃ x p,r=.ok x p∧f x p=.ok y q:=by
 cases r with
 |ok x p=>exact⟨x,p,rfl,h⟩
 |bad q e=>cases h
theorem ok_adv{α:Type}{r:DR α}{p k:Nat}{x:α}{q:Nat}(h:r.adv ts p k)(e:r=.ok x q):p+k≤q∧q≤ts.length:=by subst e;exact h
theorem want_ok{s:List UInt8}{p:Nat}{x:Unit}{q:Nat}(h:wantD ts s p=.ok x q):q=p+1∧p<ts.length:=by
 unfold wantD at h
 split at h
 ·rename_i hb;cases h;exact⟨rfl,isB_lt hb⟩
 ·cases h
theorem more_wt{α:Type}{I:Nat→DR α}(hI:∀ p,p≤ts.length→(I p).adv ts p 1):∀ (f:Nat) (l:List α) (p:Nat) (l':List α) (q:Nat),moreD ts I f l p=.ok l' q→l'.length+p≤q+l.length
 |0,l,p,l',q,h=>by rw[moreD]at h;cases h
 |f+1,l,p,l',q,h=>by
  rw[moreD]at h
  split at h
  ·cases h;omega
  ·split at h
   ·rename_i hb;obtain⟨x,q1,e,h⟩:=bind_ok h;have h1:=ok_adv (hI (p+1) (isB_lt hb)) e;have h2:=more_wt hI f _ _ _ _ h;rw[Bp]at h2;simp only[BC,BD]at h2
    omega
   ·cases h
theorem list_wt{α:Type}{I:Nat→DR α}(hI:∀ p,p≤ts.length→(I p).adv ts p 1){p:Nat}{l:List α}{q:Nat}(h:listD ts I p=.ok l q):p+l.length≤q:=by
 unfold listD at h;obtain⟨_,p1,e,h⟩:=bind_ok h;obtain⟨rfl,hp⟩:=want_ok e
 split at h
 ·cases h;simp;omega
 ·obtain⟨x,q1,e,h⟩:=bind_ok h;have h1:=ok_adv (hI (p+1) (by omega)) e;have h2:=more_wt hI _ _ _ _ _ h;simp only[BC,BD]at h2
  omega
theorem act_wt{p:Nat}{a:Ac}{q:Nat}(h:actD ts p=.ok a q):p+wA a≤q:=by
 unfold actD at h
 split at h
 ·rename_i hb;obtain⟨x,p1,e,h⟩:=bind_ok h;have h1:=ok_adv (expr_adv (isB_lt hb)) e;obtain⟨nm,p2,e,h⟩:=bind_ok h;have h2:=ok_adv (word_adv h1.2) e;obtain⟨l,p3,e,h⟩:=bind_ok h;have h3:=list_wt (fun _=>expr_adv) e;cases h;unfold wA;show p+(1+l.length)≤q
  omega
 split at h
 ·rename_i hb;obtain⟨nm,p1,e,h⟩:=bind_ok h;have h1:=ok_adv (word_adv (isB_lt hb)) e;obtain⟨_,p2,e,h⟩:=bind_ok h;obtain⟨rfl,hp⟩:=want_ok e;obtain⟨v,p3,e,h⟩:=bind_ok h;have h3:=ok_adv (word_adv hp) e;cases h;show p+(1+0)≤q
  omega
 split at h
 ·rename_i hb;obtain⟨l,p3,e,h⟩:=bind_ok h;have h3:=list_wt (fun _=>expr_adv) e;cases h;show p+(1+l.length)≤q
  omega
 split at h
 ·rename_i hb;obtain⟨nm,p1,e,h⟩:=bind_ok h;have h1:=ok_adv (word_adv (isB_lt hb)) e;cases h;show p+(1+0)≤q
  omega
 ·cases h
theorem wB_app(l:List Ac)(a:Ac):wB (l++[a])=wB l+wA a:=by simp[wB]
theorem acts_wt:∀ (f:Nat) (l:List Ac) (p:Nat) (l':List Ac) (q:Nat),actsD ts f l p=.ok l' q→wB l'+p≤q+wB l
 |0,l,p,l',q,h=>by rw[actsD]at h;cases h
 |f+1,l,p,l',q,h=>by
  rw[actsD]at h
  split at h
  ·cases h;omega
  ·obtain⟨a,p1,e,h⟩:=bind_ok h;have h1:=act_wt e;obtain⟨_,p2,e,h⟩:=bind_ok h;obtain⟨rfl,hp⟩:=want_ok e;have h2:=acts_wt f _ _ _ _ h;rw[wB_app]at h2
   omega
theorem parts_wt:∀ (f:Nat) (l:List Pt) (p:Nat) (l':List Pt) (q:Nat),partsD ts f l p=.ok l' q→l'.length+p≤q+l.length
 |0,l,p,l',q,h=>by rw[partsD]at h;cases h
 |f+1,l,p,l',q,h=>by
  rw[partsD]at h
  split at h
  ·rename_i hb;obtain⟨a,p1,e,h⟩:=bind_ok h;have h1:=ok_adv (part_adv (isB_lt hb)) e;have h2:=parts_wt f _ _ _ _ h;rw[Bp]at h2;simp only[BC,BD]at h2
   omega
  ·cases h;omega
theorem chord_wt{p:Nat}{c:Ch}{q:Nat}(h:chordD ts p=.ok c q):p+wC c≤q:=by
 unfold chordD at h;obtain⟨_,p1,e,h⟩:=bind_ok h;obtain⟨rfl,hp⟩:=want_ok e;obtain⟨n,p2,e,h⟩:=bind_ok h;have h2:=ok_adv (word_adv hp) e;obtain⟨_,p3,e,h⟩:=bind_ok h;obtain⟨rfl,hp3⟩:=want_ok e;obtain⟨x,p4,e,h⟩:=bind_ok h;have h4:=ok_adv (part_adv hp3) e;obtain⟨l,p5,e,h⟩:=bind_ok h;have h5:=parts_wt _ _ _ _ _ e;have h5':=ok_adv (parts_adv _ _ _ h4.2) e;obtain⟨g,p6,e,h⟩:=bind_ok h;have h6:=ok_adv (guard_adv h5'.2) e;obtain⟨b,p7,e,h⟩:=bind_ok h;cases h;unfold bodyD at e;obtain⟨_,p8,e8,e⟩:=bind_ok e;obtain⟨rfl,hp8⟩:=want_ok e8;have h9:=acts_wt _ _ _ _ _ e;simp only[BC,BD,wB,List.map_nil,List.sum_nil]at h5 h9;show p+(l.length+(1+(b.map wA).sum))≤q
 omega
theorem chords_wt:∀ (f:Nat) (l:List Ch) (p:Nat) (l':List Ch) (q:Nat),chordsD ts f l p=.ok l' q→(l'.map wC).sum+p≤q+(l.map wC).sum
 |0,l,p,l',q,h=>by rw[chordsD]at h;cases h
 |f+1,l,p,l',q,h=>by
  rw[chordsD]at h
  split at h
  ·cases h;omega
  ·obtain⟨a,p1,e,h⟩:=bind_ok h;have h1:=chord_wt e;have h2:=chords_wt f _ _ _ _ h;simp only[List.map_append,BA,List.map_nil,List.sum_append,List.sum_cons,List.sum_nil]at h2
   omega
theorem kind2_wt{p:Nat}{k:Kd}{q:Nat}(h:kindD2 ts p=.ok k q):p+wK k≤q:=by
 unfold kindD2 at h;obtain⟨_,p1,e,h⟩:=bind_ok h;obtain⟨rfl,hp⟩:=want_ok e;obtain⟨n,p2,e,h⟩:=bind_ok h;have h2:=ok_adv (word_adv hp) e;obtain⟨_,p3,e,h⟩:=bind_ok h;obtain⟨rfl,hp3⟩:=want_ok e;obtain⟨l,p4,e,h⟩:=bind_ok h;have h4:=chords_wt _ _ _ _ _ e;cases h;simp only[List.map_nil,List.sum_nil]at h4;show p+(l.map wC).sum≤q
 omega
theorem prog_wt:∀ (f:Nat) (g:Pg) (p:Nat) (g':Pg) (q:Nat),p≤ts.length→progD ts f g p=.ok g' q→wG g'.kinds+p≤q+wG g.kinds
 |0,g,p,g',q,hp,h=>by rw[progD]at h;cases h
 |f+1,g,p,g',q,hp,h=>by
  rw[progD]at h
  split at h
  ·split at h
   ·rename_i hb;obtain⟨a,p1,e,h⟩:=bind_ok h;have h1:=ok_adv (tag_adv (isB_lt hb)) e;have h2:=prog_wt f _ _ _ _ h1.2 h;simp only at h2
    omega
   ·obtain⟨a,p1,e,h⟩:=bind_ok h;have h0:=ok_adv (kind2_adv hp) e;have h1:=kind2_wt e;have h2:=prog_wt f _ _ _ _ h0.2 h;simp only[wG,List.map_append,BA,List.map_nil,List.sum_append,List.sum_cons,List.sum_nil]at h2;unfold wG
    omega
  ·cases h;omega
theorem progO_wt(l:List UInt8):wG (progO l).1.kinds≤40000:=by
 unfold progO readO;cases e:okToks l with
 |none=>
  simp only
  split
  ·exact BN _
  ·exact BN _
 |some L=>
  have hs:=small_toks e;simp only;cases er:progR (L.map tkOf)with
  |bad q e=>exact BN _
  |ok x q=>
   simp only
   split
   ·exact BN _
   ·have h1:=prog_wt _ _ _ _ _ (BN _) er;have h2:=ok_adv (prog_adv _ _ _ (BN _)) er;have hml:(L.map tkOf).length=L.length:=Bk ..;have hz:wG zPg.kinds=0:=rfl;rw[hz]at h1;show wG x.kinds≤40000
    omega
set_option maxRecDepth 20000
variable {γ:List (Nat×AV)}
def Dj(Ns:List AV):Prop:=∀ (i i':Nat) (N N':AV),Ns[i]?=some N→Ns[i']?=some N'→i≠i'→∀ k,nbk N k→¬nbk N' k
structure Co(t:TypeId)(sz:Nat)(h:List ABlk)(Ns:List AV)(ns:List Nat)(F:List Nat):Prop where
 len:Ns.length=ns.length
 ln:∀ (i:Nat) (N:AV) (n:Nat),Ns[i]?=some N→ns[i]?=some n→LN t sz h N n∧n≤2000000
 dj:Dj Ns
 mem:∀ N∈Ns,∀ k,nbk N k→k∈F
theorem Co.nil{t:TypeId}{sz:Nat}{h:List ABlk}{F:List Nat}:Co t sz h [] [] F:=⟨rfl,fun i N n e=>by simp at e,fun i i' N N' e=>by simp at e,fun N e=>(List.not_mem_nil e).elim⟩
theorem Co.one{t:TypeId}{sz:Nat}{h:List ABlk}{F:List Nat}{N:AV}{n:Nat}(a:LN t sz h N n)(hn:n≤2000000)(hm:∀ k,nbk N k→k∈F):Co t sz h [N] [n] F:=by
 have g1:∀ {α:Type} {x y:α} {i:Nat},[x][i]?=some y→i=0∧y=x:=fun {α x y i} e=>by
  cases i with
  |zero=>simp at e;exact⟨rfl,e.symm⟩
  |succ i=>simp at e
 refine⟨rfl,fun i N' n' e e'=>?_,fun i i' N1 N2 e e' hi=>?_,fun N' e=>?_⟩
 ·obtain⟨_,rfl⟩:=g1 e;obtain⟨_,rfl⟩:=g1 e';exact⟨a,hn⟩
 ·exact absurd ((g1 e).1.trans (g1 e').1.symm) hi
 ·rcases Bj.1 e with rfl
  exact hm
theorem Co.append{t:TypeId}{sz:Nat}{h:List ABlk}{F1 F2 F:List Nat}{Xs Ys:List AV}{ns ms:List Nat}(a:Co t sz h Xs ns F1)(b:Co t sz h Ys ms F2)(hd:∀ k∈F1,k∉F2)(h1:∀ k∈F1,k∈F)(h2:∀ k∈F2,k∈F):Co t sz h (Xs++Ys) (ns++ms) F:=by
 have al:=a.len;have bl:=b.len
 have sp:∀ {i:Nat} {N:AV},(Xs++Ys)[i]?=some N→(i<Xs.length∧Xs[i]?=some N)∨(Xs.length≤i∧Ys[i-Xs.length]?=some N):=fun {i N} e=>by
  by_cases hi:i<Xs.length
  ·exact .inl ⟨hi,(Ba hi).symm.trans e⟩
  ·exact .inr ⟨by omega,(Br (by omega)).symm.trans e⟩
 have mx:∀ {i:Nat} {N:AV},Xs[i]?=some N→∀ k,nbk N k→k∈F1:=fun {i N} e=>a.mem N (List.mem_of_getElem? e)
 have my:∀ {i:Nat} {N:AV},Ys[i]?=some N→∀ k,nbk N k→k∈F2:=fun {i N} e=>b.mem N (List.mem_of_getElem? e)
 refine⟨by simp[al,bl],fun i N n e e'=>?_,fun i i' N N' e e' hi k hk hk'=>?_,fun N e k hk=>?_⟩
 ·rcases sp e with⟨hi,e⟩|⟨hi,e⟩
  ·rw[Ba (by omega)]at e';exact a.ln i N n e e'
  ·rw[Br (by omega)]at e';exact b.ln _ N n e (by rw[al];exact e')
 ·rcases sp e with⟨h3,e⟩|⟨h3,e⟩<;>rcases sp e' with⟨h4,e'⟩|⟨h4,e'⟩
  ·exact a.dj i i' N N' e e' hi k hk hk'
  ·exact hd k (mx e k hk) (my e' k hk')
  ·exact hd k (mx e' k hk') (my e k hk)
  ·exact b.dj _ _ N N' e e' (by omega) k hk hk'
 ·rcases List.mem_append.1 e with e|e
  ·exact h1 k (a.mem N e k hk)
  ·exact h2 k (b.mem N e k hk)
theorem Co.fr{t:TypeId}{sz:Nat}{h h':List ABlk}{F:List Nat}{Xs:List AV}{ns:List Nat}{S:Nat→Prop}(a:Co t sz h Xs ns F)(f:Fr S h h')(hS:∀ k∈F,¬S k):Co t sz h' Xs ns F:=
 ⟨a.len,fun i N n e e'=>⟨(a.ln i N n e e').1.fr f fun k hk=>hS k (a.mem N (List.mem_of_getElem? e) k hk),(a.ln i N n e e').2⟩,a.dj,a.mem⟩
theorem Co.mono{t:TypeId}{sz:Nat}{h:List ABlk}{F F':List Nat}{Xs:List AV}{ns:List Nat}(a:Co t sz h Xs ns F)(hF:∀ k∈F,k∈F'):Co t sz h Xs ns F':=⟨a.len,a.ln,a.dj,fun N e k hk=>hF k (a.mem N e k hk)⟩
def AR(te:TypeId)(n0:Nat)(h:List ABlk)(A:AV)(Ns:List AV):Prop:=(A=.v (.slice none 0 0)∧Ns=[])∨∃ j ver,A=.own j ver Ns.length∧0<Ns.length∧n0≤j∧h[j]?=some ⟨ver,te,Ns⟩
theorem AR.fr{te:TypeId}{n0:Nat}{h h':List ABlk}{A:AV}{Ns:List AV}{S:Nat→Prop}(a:AR te n0 h A Ns)(f:Fr S h h')(hS:∀ k,nbk A k→¬S k):AR te n0 h' A Ns:=by
 rcases a with a|⟨j,ver,rfl,hn,hj0,hj⟩
 ·exact .inl a
 ·exact .inr ⟨j,ver,rfl,hn,hj0,f.at hj (hS j rfl)⟩
theorem AR.lt{te:TypeId}{n0:Nat}{h:List ABlk}{A:AV}{Ns:List AV}(a:AR te n0 h A Ns){k:Nat}(hk:nbk A k):n0≤k∧k<h.length:=by
 rcases a with⟨rfl,_⟩|⟨j,ver,rfl,hn,hj0,hj⟩
 ·exact hk.elim
 ·have hk:k=j:=hk;subst hk;exact⟨hj0,(Bs.1 hj).1⟩
def Push(te:TypeId)(n0:Nat)(A:AV)(Ns:List AV)(h:List ABlk)(X A':AV)(h':List ABlk):Prop:=AR te n0 h' A' (Ns++[X])∧Fr (nbk A) h h'∧∀ k,nbk A' k→nbk A k∨h.length≤k
noncomputable def c44a:Code:=(Tryz.f44.body.bind (pathE [1,1,1,1,0,1,2,3])).getD .skip
def gaS(γ:List (Nat×AV))(b:Nat)(y:Nat×AV×List ABlk):St:=⟨⟨362,[(1,.ptr b 0 0),(3,y.2.1),(4,.v (.slice none 0 0)),(5,.v (.slice none 0 0)),(6,.v (.int .i64 (y.1:Int)))],γ⟩,y.2.2⟩
theorem ap_tags{E:AV→St→Prop}{Q:Post}{l0:List (Nat×AV)}{hh:List ABlk}{b:Nat}{T K:AV}{es:List Tg}{FT:List Nat}
  (e1:Go.Ev.look l0 1=.ptr b 0 0) (e3:Go.Ev.look l0 3=.v (.slice none 0 0)) (e4:Go.Ev.look l0 4=.v (.slice none 0 0)) (e5:Go.Ev.look l0 5=.v (.slice none 0 0)) (e6:Go.Ev.look l0 6=.v (.int .i64 0))
  (kb:hh[b]?=some ⟨0,71,[T,K]⟩) (oT:ow (tagsA es) hh (.s 137) T FT) (hF:FT.Nodup) (hn:es.length≤2000000) (hv:∀ t∈es,t.types.length≤2000000)
  (hQ:∀ l1 h1 A3 Ns ns,Go.Ev.look l1 1=.ptr b 0 0→Go.Ev.look l1 3=A3→Go.Ev.look l1 4=.v (.slice none 0 0)→Go.Ev.look l1 5=.v (.slice none 0 0)→Fr NoB hh h1→AR 78 hh.length h1 A3 Ns→Co 3 1 hh Ns ns FT→Ns.length≤2000000→Q (.exit 0) ⟨⟨362,l1,γ⟩,h1⟩):LoopE (fun Q s=>kwpE Tp E c44a Q s) Q ⟨⟨362,l0,γ⟩,hh⟩:=by
 have d0:decide (((0:Nat):Int)<0)=false:=rfl
 rcases ow_list oT with⟨rfl,rfl,rfl⟩|⟨jt,vt,F',rfl,hn0,rfl,A⟩
 ·refine LoopE.intro (gaS γ b) (fun y=>y=(0,.v (.slice none 0 0),hh)) (fun y=>0) (0,.v (.slice none 0 0),hh) ⟨rfl,rfl,⟨e1,e3,e4,e5,e6,trivial⟩,rfl⟩ rfl (fun y hy=>?_);subst hy;simp only[c44a,Tryz.f44,pathE,Option.bind_some,Option.getD_some,gaS,tyD,tyO,d0,kb,evE,Nat.reduceLT,Nat.reduceEqDiff,reduceCtorEq];exact hQ _ _ _ _ _ rfl rfl rfl rfl (Fr.refl _ _) (.inl ⟨rfl,rfl⟩) Co.nil (BN _)
 obtain⟨hj0,hF'⟩:=List.nodup_cons.1 hF;generalize hnt:es.length=nt at *
 refine LoopE.intro (gaS γ b) (fun y=>∃ (dn:List AV) (l:List Tg) (FD FR:List Nat) (Ns:List AV) (ns:List Nat),y.1+l.length=nt∧dn.length=y.1 * 2∧Arr 137 Tg.cells hh jt vt dn l FR∧FD++FR=F'∧(∀ p∈l,p∈es)∧Fr NoB hh y.2.2∧AR 78 hh.length y.2.2 y.2.1 Ns∧Co 3 1 hh Ns ns FD∧Ns.length=y.1) (fun y=>nt-y.1) (0,.v (.slice none 0 0),hh) ⟨rfl,rfl,⟨e1,e3,e4,e5,e6,trivial⟩,rfl⟩
  ⟨[],es,[],F',[],[],by simpa using hnt,rfl,A,rfl,fun p h=>h,Fr.refl _ _,.inl ⟨rfl,rfl⟩,Co.nil,rfl⟩ (fun y hy=>?_)
 clear A;obtain⟨i,A3,h1⟩:=y;obtain⟨dn,l,FD,FR,Ns,ns,hil,hdn,A,hFF,hl,f1,a3,co,hNi⟩:=hy;simp only at hil hdn f1 a3 hNi;have kb1:=f1.at kb (fun e=>e);cases l with
 |nil=>
  have hi:i=nt:=hil;have d1:decide (i<nt)=false:=decide_eq_false (by omega);obtain⟨cs,hj,hcl⟩:=(A.fr f1 (fun e=>e) (fun k _ e=>e)).length;simp only[c44a,Tryz.f44,pathE,Option.bind_some,Option.getD_some,gaS,tyD,tyO,kb1,hj,d1,evE,Nat.reduceLT,Nat.reduceEqDiff,reduceCtorEq];refine hQ _ _ A3 Ns ns ?_ ?_ ?_ ?_ f1 a3 (co.mono fun k h=>List.mem_cons_of_mem _ (by rw[←hFF];exact List.mem_append_left _ h)) (by omega)
  all_goals rfl
 |cons x l=>
  have hlt:i<nt:=by rw[BC]at hil;omega
  have d1:decide (i<nt)=true:=decide_eq_true hlt;obtain⟨xs1,xs2,F1,F2,rfl,kp,hx1,o1,o2⟩:=A.cons (by rfl);obtain⟨V,rfl,oV⟩:=tg_inv o1;have kp1:=f1.at kp (fun e=>e)
  have hV:(dn++strC x.name::V::xs2)[i * 2+1]?=some V:=by
   rw[Br (by omega),hdn,show i * 2+1-i * 2=1 by omega];rfl
  rw[intsA_sl]at oV;obtain⟨LV,hVF⟩:=ow_LN oV rfl;obtain⟨oV1,fV1⟩:=LV.one;have hvn:=hv x (hl x (List.mem_cons_self ..));have w1:IntKind.i64.wrap ((i:Int)+1)=((i+1:Nat):Int):=(i64w (by omega) (by omega)).trans (by omega);have hFN:=List.nodup_append.1 (hFF▸hF');have hFN2:=List.nodup_append.1 hFN.2.1
  have fin:∀ (hq:List ABlk) (A':AV),Push 78 hh.length A3 Ns h1 V A' hq→∃ (dn:List AV) (l:List Tg) (FD FR:List Nat) (Ns:List AV) (ns:List Nat),i+1+l.length=nt∧dn.length=(i+1) * 2∧Arr 137 Tg.cells hh jt vt dn l FR∧FD++FR=F'∧(∀ p∈l,p∈es)∧Fr NoB hh hq∧AR 78 hh.length hq A' Ns∧Co 3 1 hh Ns ns FD∧Ns.length=i+1:=fun hq A' hp=>by
   refine⟨dn++[strC x.name,V],l,FD++F1,F2,Ns++[V],ns++[x.types.length],by rw[BC]at hil;omega,by rw[Bp,hdn];simp only[BC,BD];omega,⟨xs2,by rw[kp];simp,o2⟩,by rw[Bo];exact hFF,fun p h=>hl p (List.mem_cons_of_mem _ h),f1.trans hp.2.1 fun k e=>.inr (a3.lt e).1,hp.1,?_,by rw[Bp,hNi];rfl⟩;exact co.append (Co.one LV hvn hVF) (fun k h1 h2=>hFN.2.2 k h1 k (List.mem_append_left _ h2) rfl) (fun k h=>List.mem_append_left _ h) fun k h=>List.mem_append_right _ h
  clear kb A o1 o2 hQ
  rcases a3 with⟨rfl,rfl⟩|⟨j,ver,rfl,hNl,hj0',hj⟩
  ·simp only[c44a,Tryz.f44,pathE,Option.bind_some,Option.getD_some,gaS,tyD,tyO,kb1,kp1,d1,hV,oV1,fV1,w1,at_len,setMany,Bx,Bo,Bc,Bi,evE,Nat.reduceLT,Nat.reduceLeDiff,Nat.reduceEqDiff,reduceCtorEq,List.reduceReplicate];refine⟨hlt,loopCE.intro (i+1,_,_) (fin _ _ ⟨.inr ⟨h1.length+1,0,rfl,Nat.succ_pos _,by have:=f1.1;omega,at_len1 _ _ _ _⟩,Fr.app _ _,fun k e=>.inr (by have e:k=h1.length+1:=e;omega)⟩) ⟨rfl,rfl,⟨rfl,rfl,rfl,rfl,rfl,trivial⟩,rfl⟩ (by show nt-(i+1)<nt-i;clear w1;omega)⟩
  ·have hjl:=(Bs.1 hj).1;have gj:∀ l,(h1++l)[j]?=some ⟨ver,78,Ns⟩:=fun l=>(Ba hjl).trans hj
   have sj:∀ l c,(h1++l).set j c=h1.set j c++l:=fun l c=>Bg _ _ hjl
   have q4:List.take Ns.length Ns=Ns:=List.take_length;have q6:Ns.length≤Ns.length:=BL _;simp only[c44a,Tryz.f44,pathE,Option.bind_some,Option.getD_some,gaS,tyD,tyO,kb1,kp1,d1,hV,oV1,fV1,w1,gj,sj,q4,q6,at_len,setMany,Bx,Bc,Bi,evE,Nat.reduceLT,Nat.reduceLeDiff,Nat.reduceEqDiff,reduceCtorEq,List.reduceReplicate];refine⟨hlt,by rw[hNi];clear w1;omega,loopCE.intro (i+1,_,_) (fin _ (.own j (ver+1) (Ns.length+1)) ⟨.inr ⟨j,ver+1,by rw[Bp];rfl,by rw[Bp];exact Nat.succ_pos _,hj0',(Ba (by rw[Bl];exact hjl)).trans (Be hjl)⟩,(Fr.set (S:=nbk (.own j ver Ns.length)) _ rfl).trans (Fr.app (S:=NoB) _ _) fun k e=>e.elim,fun k e=>.inl e⟩) ⟨rfl,rfl,⟨rfl,rfl,rfl,rfl,rfl,trivial⟩,rfl⟩ (by show nt-(i+1)<nt-i;clear w1;omega)⟩
end Go.Proofs.YtlobiioioicmhaaGreatDoor.O
