/- The evaluator: abstract values, and code carried out on them. -/
import Derived.Test.YtlobiioioicmhaaGreatDoorDU7
import Derived.Recover
set_option linter.all false
set_option maxHeartbeats 8000000
namespace Go.Ev
open _root_.Array renaming getElem?_eq_some_iff→BP
open _root_.List renaming getElem?_cons_succ→Bu,getElem?_map→Bm,getElem?_eq_none→Bq,mem_singleton→Bj,map_cons→BA
open Go Go.RowKit
inductive Out where
 |ret (r:AV)
 |pan (v:AV)
def OutR(X:Fix)(s:Slots)(a:Act)(R:Out→List ABlk→Prop)(e:Ending)(w':World):Prop:=
 ∃ o h' φ',R o h'∧SR X φ' ⟨s,h'⟩ a w'∧match o with
  |.ret r=>∃ u,e=.returned u∧rel r (cx X φ' h' w') u
  |.pan v=>∃ u,e=.panicked [{ v:=u,recovered:=false }]∧rel v (cx X φ' h' w') u
def EvM(P:Program)(γ:List (Nat×AV))(f:FuncId)(args:List AV)(h:List ABlk)(R:Out→List ABlk→Prop):Prop:=
 ∀ (X:Fix) (φ:List Nat) (s:Slots) (a:Act) (w:World) (vs:Array Value),X.P=P→s.g=γ→SR X φ ⟨s,h⟩ a w→relL args (cx X φ h w) vs.toList→Calls P f vs w (OutR X s a R)
theorem EvM.ofEv{P:Program}{γ:List (Nat×AV)}{g:FuncId}{xs ys:List AV}{h:List ABlk}{r:AV}(hys:(ys=xs∧treeL xs=true)∨(fzL P h true ys xs∧noBor r=true))(hev:Ev P γ g ys r):EvM P γ g xs h fun o h'=>o=.ret r∧h'=h:=by
 intro X φ s a w vs hP hg hs hargs;subst hP;subst hg;have hsub:∀ β∈φ,β<w.heap.size:=fun β hβ=>(hs.rng β hβ).2
 have hw0:=hs.below.size
 rcases hys with⟨rfl,htr⟩|⟨hfz,hnb⟩
 ·refine (hev (fun r=>r<w.heap.size∧(X.G r∨r∈φ)) X.B w vs (fun r h=>h.1) (fun k=>⟨(hs.gl k).1,?_⟩) ?_).mono fun e w' ⟨u,he,hr,hbel⟩=>?_
  ·refine rel_tree (c:=cx X φ h w) (c':=cx0 X.P (fun r=>r<w.heap.size∧(X.G r∨r∈φ)) X.B w) rfl rfl (fun b r ⟨h1,h2,h3⟩=>⟨h1,?_⟩) _ _ (hs.gl k).1 (hs.gl k).2;cases b
   ·exact fun⟨_,h⟩=>h.elim h3 h2
   ·exact h3
  ·refine relL_tree (c:=cx X φ h w) (c':=cx0 X.P (fun r=>r<w.heap.size∧(X.G r∨r∈φ)) X.B w) rfl rfl (fun b r ⟨h1,h2,h3⟩=>⟨h1,?_⟩) _ _ htr hargs;cases b
   ·exact fun⟨_,h⟩=>h.elim h3 h2
   ·exact h3
  ·subst he;have hs':=hs.world hbel;refine⟨.ret r,h,φ,⟨rfl,rfl⟩,hs',u,rfl,?_⟩;refine rel_mono (c:=cx0 X.P (fun r=>r<w.heap.size∧(X.G r∨r∈φ)) X.B w') (c':=cx X φ h w') ⟨rfl,fun b r ⟨h1,h2⟩=>?_,fun _ _ _ _ _ h=>h,fun _ _ _ h=>by cases h⟩ r u hr;cases b
   ·have h2':¬(r<w.heap.size∧(X.G r∨r∈φ)):=h2;refine⟨h1,fun hm=>h2' ⟨hsub r hm,.inr hm⟩,fun hG=>h2' ⟨by have:=X.hG r hG;omega,.inl hG⟩⟩
   ·have h2':X.B r:=h2;exact⟨h1,fun hm=>by have:=(hs.rng r hm).1;have:=X.hB r h2';omega,h2'⟩
 ·refine (hev (fun r=>r<w.heap.size∧(X.G r∨r∈φ)) (fun r=>X.B r∨r∈φ) w vs (fun r h=>h.1) (fun k=>⟨(hs.gl k).1,?_⟩) ?_).mono fun e w' ⟨u,he,hr,hbel⟩=>?_
  ·refine rel_tree (c:=cx X φ h w) (c':=cx0 X.P (fun r=>r<w.heap.size∧(X.G r∨r∈φ)) (fun r=>X.B r∨r∈φ) w) rfl rfl (fun b r ⟨h1,h2,h3⟩=>⟨h1,?_⟩) _ _ (hs.gl k).1 (hs.gl k).2;cases b
   ·exact fun⟨_,h⟩=>h.elim h3 h2
   ·exact .inl h3
  ·refine relL_fz (b0:=true) (ok':=(cx0 X.P (fun r=>r<w.heap.size∧(X.G r∨r∈φ)) (fun r=>X.B r∨r∈φ) w).ok) hs (fun b r ⟨h1,h2,h3⟩=>⟨h1,?_⟩) (fun β hβ=>⟨hsub β hβ,.inr hβ⟩) ys _ _ hfz hargs;cases b
   ·exact fun⟨_,h⟩=>h.elim h3 h2
   ·exact .inl h3
  ·subst he;have hs':=hs.world hbel;refine⟨.ret r,h,φ,⟨rfl,rfl⟩,hs',u,rfl,?_⟩;refine rel_noBor (c:=cx0 X.P (fun r=>r<w.heap.size∧(X.G r∨r∈φ)) (fun r=>X.B r∨r∈φ) w') (c':=cx X φ h w') rfl rfl (fun r ⟨h1,h2⟩=>?_) (fun _=>rfl) r u hnb hr;have h2':¬(r<w.heap.size∧(X.G r∨r∈φ)):=h2;refine⟨h1,fun hm=>h2' ⟨hsub r hm,.inr hm⟩,fun hG=>h2' ⟨by have:=X.hG r hG;omega,.inl hG⟩⟩
def CallM(P:Program)(E:AV→St→Prop)(g:FuncId)(xs:List AV)(d:Option Tmp)(K:St→Prop)(s:St):Prop:=
 bodyT P g∧∃ R,EvM P s.s.g g xs s.h R∧(∀ r h',R (.ret r) h'→K (pt ⟨s.s,h'⟩ d r))∧∀ v h',R (.pan v) h'→E v ⟨s.s,h'⟩
def CallE(P:Program)(E:AV→St→Prop)(g:FuncId)(xs:List AV)(d:Option Tmp)(K:St→Prop)(s:St):Prop:=
 CallK P g xs d K s∨CallM P E g xs d K s
theorem CallM.intro{P:Program}{E:AV→St→Prop}{g:FuncId}{xs:List AV}{d:Option Tmp}{K:St→Prop}{s:St}(hb:bodyT P g)(R:Out→List ABlk→Prop)(he:EvM P s.s.g g xs s.h R)
  (h1:∀ r h',R (.ret r) h'→K (pt ⟨s.s,h'⟩ d r)) (h2:∀ v h',R (.pan v) h'→E v ⟨s.s,h'⟩):CallM P E g xs d K s:=⟨hb,R,he,h1,h2⟩
theorem CallE.pure{P:Program}{E:AV→St→Prop}{g:FuncId}{xs:List AV}{d:Option Tmp}{K:St→Prop}{s:St}(h:CallK P g xs d K s):CallE P E g xs d K s:=.inl h
theorem CallE.intro{P:Program}{E:AV→St→Prop}{g:FuncId}{xs:List AV}{d:Option Tmp}{K:St→Prop}{s:St}(hb:bodyT P g)(R:Out→List ABlk→Prop)(he:EvM P s.s.g g xs s.h R)
  (h1:∀ r h',R (.ret r) h'→K (pt ⟨s.s,h'⟩ d r)) (h2:∀ v h',R (.pan v) h'→E v ⟨s.s,h'⟩):CallE P E g xs d K s:=.inr ⟨hb,R,he,h1,h2⟩
def PanK(E:AV→St→Prop)(x:AV)(s:St):Prop:=match x with
 |.ifc t y=>E (.ifc t y) s
 |_=>False
theorem PanK_ifc(E:AV→St→Prop)(t:TypeId)(y:AV)(s:St):PanK E (.ifc t y) s=E (.ifc t y) s:=rfl
def AssertK(P:Program)(t:TypeId)(x:AV)(d:Option Tmp)(K:St→Prop)(s:St):Prop:=
 ifcT P t=some false∧match x with
 |.ifc u y=>if u=t then K (pt s d (.tup [y,.v (.bool true)]))else ∃ z,zeroT P t=some z∧K (pt s d (.tup [ofV z,.v (.bool false)]))
 |_=>False
def CloK(P:Program)(E:AV→St→Prop)(x:AV)(xs:List AV)(d:Option Tmp)(K:St→Prop)(s:St):Prop:=
 match x with
 |.clo f fs cs=>CallM P E f (fs++xs++cs) d K s
 |.v (.func (.func f) a b)=>CallM P E f (a.toList.map .v++xs++b.toList.map .v) d K s
 |_=>False
theorem relL_vs(c:Cx):∀ l:List Value,relL (l.map .v) c l
 |[]=>by simp only[List.map_nil,relL]
 |x::l=>by simp only[BA,relL];exact⟨x,l,rfl,by simp only[rel],relL_vs c l⟩
def ptrT(P:Program)(t:TypeId):Bool:=match P.underlying t with|some (.pointer _)=>true|_=>false
def NilPK(P:Program)(op:BinOp)(t:TypeId)(x:AV)(d:Option Tmp)(K:St→Prop)(s:St):Prop:=
 ptrT P t=true∧match x with
 |.v (.pointer none)=>nilA op true fun r=>K (pt s d r)
 |.ptr i ver _=>(blkS s.h i ver).isSome=true∧nilA op false fun r=>K (pt s d r)
 |_=>False
def kopE(P:Program)(E:AV→St→Prop)(o:Oper)(K:St→Prop)(s:St):Prop:=
 match o.op with
 |.panic x=>PanK E (get s.s x) s
 |.pick c a b=>PickK (get s.s c) (get s.s a) (get s.s b) o.dst K s
 |.binOp op t x (.const (.pointer none)) _=>NilPK P op t (get s.s x) o.dst K s
 |.makeFunc (.func f) xs ys=>K (pt s o.dst (.clo f (xs.toList.map (get s.s)) (ys.toList.map (get s.s))))
 |.typeAssert x _ t true=>AssertK P t (get s.s x) o.dst K s
 |.call ⟨.value (.func g),xs,_⟩=>CallE P E g (xs.toList.map (get s.s)) o.dst K s
 |.call ⟨.value (.tmp t),xs,_⟩=>CloK P E (get s.s (.tmp t)) (xs.toList.map (get s.s)) o.dst K s
 |_=>StepK (stepS P o s) K
def kopsE(P:Program)(E:AV→St→Prop)(ops:Array Oper):List Oper→(St→Prop)→St→Prop
 |[],K,s=>K s
 |o::os,K,s=>match o.guard with
  |none=>kopE P E o (kopsE P E ops os K) s
  |some (j,want)=>GuardK (guardA ops s j) want (kopE P E o (kopsE P E ops os K)) (skipK o.dst (kopsE P E ops os K)) s
def loopCE(R:Nat→St→Prop)(m:Nat)(s2:St):Prop:=∃ m' s3,slotW s2 s3∧m'<m∧R m' s3
def LoopE(F:Post→St→Prop)(Q:Post)(s:St):Prop:=
 ∃ (R:Nat→St→Prop) (n:Nat) (s0:St),slotW s s0∧R n s0∧∀ m s1,R m s1→F (thenA (loopCE R m) Q) s1
theorem LoopE.intro{F:Post→St→Prop}{Q:Post}{s:St}{α:Type}(mk:α→St)(inv:α→Prop)(μ:α→Nat)(a0:α)(hw:slotW s (mk a0))(h0:inv a0)
  (round:∀ a,inv a→F (thenA (loopCE (RR mk inv μ) (μ a)) Q) (mk a)):LoopE F Q s:=
 ⟨RR mk inv μ,μ a0,mk a0,hw,⟨a0,h0,rfl,rfl⟩,fun m s1 ⟨a,h1,h2,h3⟩=>by subst h2;subst h3;exact round a h1⟩
theorem loopCE.intro{α:Type}{mk:α→St}{inv:α→Prop}{μ:α→Nat}{n:Nat}{s2:St}(a:α)(h:inv a)(hw:slotW s2 (mk a))(hm:μ a<n):loopCE (RR mk inv μ) n s2:=
 ⟨μ a,mk a,hw,hm,a,h,rfl,rfl⟩
def noGo(Q:Post):Post
 |.goto _,_=>False
 |e,s=>Q e s
def kwpE(P:Program)(E:AV→St→Prop):Code→Post→St→Prop
 |.skip,Q,s=>Q .normal s
 |.region _ ops draw,Q,s=>if draw=true then DrawK P ops Q s else kopsE P E ops ops.toList (normK Q) s
 |.seq a b,Q,s=>kwpE P E a (thenA (kwpE P E b Q) Q) s
 |.cond c x y,Q,s=>CondK (get s.s c) (kwpE P E x Q) (kwpE P E y Q) s
 |.block id c,Q,s=>kwpE P E c (inBlockA id Q) s
 |.loop c,Q,s=>LoopE (fun Q s=>kwpE P E c Q s) Q s
 |.exit id,Q,s=>Q (.exit id) s
 |.ret,Q,s=>Q .ret s
 |.label _,Q,s=>Q .normal s
 |.goto l,Q,s=>Q (.goto l) s
 |.rangeFunc ..,_,_=>False
 |.scope c,Q,s=>kwpE P E c (noGo Q) s
 |.refuse ..,_,_=>False
def QxE(X:Fix)(E:AV→St→Prop)(Q:Post)(e:Exit)(a:Act)(w:World):Prop:=
 Qx X Q e a w∨∃ φ s v u h,e=.panic [{ v:=u,recovered:=false }]∧SR X φ ⟨s,h⟩ a w∧rel v (cx X φ h w) u∧E v ⟨s,h⟩
theorem assert_yes{P:Program}{w:World}{t u t0:TypeId}{ui:TypeDesc}{v:Value}(hui:P.underlying t=some ui)(hni:∀ m,ui≠.interface m)(hut:u=t):
  (do pure (.value (←Instr.typeAssert (.iface u v) t0 t true)):Sem Next).run P w=.ok (.value (.tuple #[v,.bool true])) w:=by
 unfold Instr.typeAssert;cases ui<;>first|exact absurd rfl (hni _)|simp[run_underlying hui,hut]
theorem assert_no{P:Program}{w:World}{t u t0:TypeId}{ui:TypeDesc}{v z:Value}(hui:P.underlying t=some ui)(hni:∀ m,ui≠.interface m)(hut:¬u=t)(hz:zeroT P t=some z):
  (do pure (.value (←Instr.typeAssert (.iface u v) t0 t true)):Sem Next).run P w=.ok (.value (.tuple #[z,.bool false])) w:=by
 unfold Instr.typeAssert
 obtain⟨i,hi,hz⟩:∃ i,P.info? t=some i∧i.zero=some z:=by
  unfold zeroT at hz;cases hi:P.info? t with
  |none=>rw[hi]at hz;cases hz
  |some i=>rw[hi]at hz;exact⟨i,rfl,hz⟩
 cases ui<;>first|exact absurd rfl (hni _)|simp[run_underlying hui,hut,zeroValue,typeInfo,hi,hz]
theorem callM_sound{X:Fix}{φ:List Nat}{st:St}{a:Act}{w:World}{o:Oper}{K:St→Prop}{E:AV→St→Prop}{Q:Exit→Act→World→Prop}
  (hQ:∀ φ s v u h a w,SR X φ ⟨s,h⟩ a w→rel v (cx X φ h w) u→E v ⟨s,h⟩→Q (.panic [{ v:=u,recovered:=false }]) a w) (hs:SR X φ st a w) {g:FuncId} {xs:List AV} {vs:Array Value}
  (hargs:relL xs (cx X φ st.h w) vs.toList) (h:CallM X.P E g xs o.dst K st)
  (hrun:∀ fn:Func,X.P.funcs[g]?=some fn→fn.body.isSome=true→(fn.name == "runtime.NumGoroutine")=false→(execOp a.eval o).run X.P w=.ok (.enter g vs) w):o.wp X.P a w (Nx X K) Q:=by
 obtain⟨⟨fn,hf,hb,hn⟩,R,he,h1,h2⟩:=h;unfold Oper.wp;rw[hrun fn hf hb hn];simp only[Oper.upon];refine (he X φ st.s a w _ rfl rfl hs hargs).mono fun e w' ⟨o',h',φ',hr,hs',hm⟩=>?_
 cases o' with
 |ret r=>
  obtain⟨u,rfl,hu⟩:=hm;exact⟨φ',_,hs'.put o.dst hu,h1 r h' hr⟩
 |pan v=>
  obtain⟨u,rfl,hu⟩:=hm;exact hQ φ' st.s v u h' a w' hs' hu (h2 v h' hr)
section
variable {X:Fix} {φ:List Nat} {st:St} {a:Act} {w:World} {o:Oper} {K:St→Prop} {E:AV→St→Prop}
theorem kopE_sound{Q:Exit→Act→World→Prop}(hQ:∀ φ s v u h a w,SR X φ ⟨s,h⟩ a w→rel v (cx X φ h w) u→E v ⟨s,h⟩→Q (.panic [{ v:=u,recovered:=false }]) a w)(hs:SR X φ st a w)(h:kopE X.P E o K st):o.wp X.P a w (Nx X K) Q:=by
 unfold kopE at h
 split at h
 ·rename_i x ho;have hx:=hs.get x;unfold PanK at h
  split at h
  case h_2=>exact h.elim
  rename_i t y hg;have hx':=hx;rw[hg]at hx;simp only[rel]at hx;obtain⟨u',hu',_⟩:=hx
  have hrun:(execOp a.eval o).run X.P w=.halt (.panic (a.eval x)) w:=by
   simp[execOp,ho,hu',Instr.panic,goPanic]
  unfold Oper.wp;rw[hrun];simp only[Oper.upon];exact hQ φ st.s _ _ st.h a w hs hx' (by rw[hg];exact h)
 ·rename_i c x y ho;exact kop_sound hs (by unfold kop;rw[ho];exact h)
 ·rename_i op t x t2 ho;obtain⟨hp,h⟩:=h;have hx:=hs.get x
  obtain⟨e,he⟩:∃ e,X.P.underlying t=some (.pointer e):=by
   unfold ptrT at hp
   split at hp
   ·rename_i e he;exact⟨e,he⟩
   ·cases hp
  have he2:execOp a.eval o=(do pure (.value (← (do eqGuard op t x (.const (.pointer none)) (a.eval x) (.pointer none);binOp op t (a.eval x) (.pointer none):Sem Value))):Sem Next):=by simp only[execOp,ho];rfl
  have eql:∀ (b:Bool) (v:Value),a.eval x=v→(∀ us,v≠.agg us)→v≠.nilIface→(binOp .eql t v (.pointer none)=(do pure (.bool (←Op.equal t v (.pointer none)))))→(binOp .neq t v (.pointer none)=(do pure (.bool (!(←Op.equal t v (.pointer none))))))→
    (Op.equal t v (.pointer none)).run X.P w=.ok b w→nilA op b (fun r=>K (pt st o.dst r))→o.wp X.P a w (Nx X K) Q:=by
   intro b v hv h1 h2 e1 e2 hr hk;rw[hv]at he2
   have fin:∀ u:Value,(binOp op t v (.pointer none)).run X.P w=.ok u w→K (pt st o.dst (.v u))→o.wp X.P a w (Nx X K) Q:=by
    intro u h4 h5;refine wp_yield hs he2 (u:=u) (w':=w) ?_ (.inl rfl) (r:=.v u) (by simp only[rel]) h5;rw[Sem.run_bind,run_eqGuard_of op t x _ _ _ w h1 (fun e=>absurd e h2)];exact h4
   cases op with
   |eql=>exact fin (.bool b) (by rw[e1,Sem.run_bind,hr];rfl) hk
   |neq=>exact fin (.bool (!b)) (by rw[e2,Sem.run_bind,hr];rfl) hk
   |_=>exact hk.elim
  split at h
  ·rename_i hg;rw[hg]at hx;simp only[rel]at hx;exact eql true _ hx (fun _=>by simp) (by simp) rfl rfl (by unfold Op.equal Op.maxDepth;rw[Op.equalIn,Sem.run_bind,run_underlying he];rfl) h
  ·rename_i i ver off hg;rw[hg]at hx;simp only[rel]at hx;obtain⟨k,β,hc,_,_,hu⟩:=hx;obtain⟨hl,h⟩:=h;have hk:st.h[i]?=some k:=(curOf_eq.1 hc).1
   have hv:ver=k.ver:=by
    unfold blkS at hl;rw[hk]at hl;simp only[Option.bind_some]at hl
    by_cases hv:ver=k.ver
    ·exact hv
    ·rw[if_neg hv]at hl;cases hl
   exact eql false _ (hu hv) (fun _=>by simp) (by simp) rfl rfl (by unfold Op.equal Op.maxDepth;rw[Op.equalIn,Sem.run_bind,run_underlying he];rfl) h
  ·exact h.elim
 ·rename_i f xs ys ho
  have hrun:(execOp a.eval o).run X.P w=.ok (.value (.func (.func f) (xs.map a.eval) (ys.map a.eval))) w:=by
   simp only[execOp,ho];rfl
  unfold Oper.wp;rw[hrun];simp only[Oper.upon];refine⟨φ,_,hs.put o.dst ?_,h⟩;simp only[rel];refine⟨_,_,rfl,?_,?_⟩
  ·rw[Array.toList_map];exact relL_map_get hs _
  ·rw[Array.toList_map];exact relL_map_get hs _
 ·rename_i x t0 t ho;obtain⟨hi,h⟩:=h;have hx:=hs.get x
  obtain⟨ui,hui,hni⟩:∃ u,X.P.underlying t=some u∧∀ m,u≠.interface m:=by
   unfold ifcT at hi;cases hu:X.P.underlying t with
   |none=>rw[hu]at hi;cases hi
   |some u=>
    rw[hu]at hi;refine⟨u,rfl,fun m e=>?_⟩;subst e;simp at hi
  split at h
  ·rename_i u y hg;rw[hg]at hx;simp only[rel]at hx;obtain⟨v,hv,hr⟩:=hx
   split at h
   ·rename_i hut
    have hrun:(execOp a.eval o).run X.P w=.ok (.value (.tuple #[v,.bool true])) w:=by
     simp only[execOp,ho,hv];exact assert_yes hui hni hut
    unfold Oper.wp;rw[hrun];simp only[Oper.upon];exact⟨φ,_,hs.put o.dst (by simp only[rel,relL];exact⟨_,rfl,v,_,rfl,hr,_,_,rfl,rfl,rfl⟩),h⟩
   ·rename_i hut;obtain⟨z,hz,h⟩:=h
    have hrun:(execOp a.eval o).run X.P w=.ok (.value (.tuple #[z,.bool false])) w:=by
     simp only[execOp,ho,hv];exact assert_no hui hni hut hz
    unfold Oper.wp;rw[hrun];simp only[Oper.upon];exact⟨φ,_,hs.put o.dst (by simp only[rel,relL];exact⟨_,rfl,z,_,rfl,rel_ofV _ _,_,_,rfl,rfl,rfl⟩),h⟩
  ·exact h.elim
 ·rename_i g xs ts ho
  have hrun0:∀ fn:Func,X.P.funcs[g]?=some fn→fn.body.isSome=true→(fn.name == "runtime.NumGoroutine")=false→(execOp a.eval o).run X.P w=.ok (.enter g (xs.map a.eval)) w:=by
   intro fn hf hb hn;have hb':¬fn.body=none:=by cases hq:fn.body<;>simp[hq]at hb⊢
   have hn':¬fn.name = "runtime.NumGoroutine" :=by simpa using hn
   simp[execOp,ho,resolve,Deferred.ofValue,Act.eval,invoke,callFunc,hf,hn',hb']
  rcases h with h|h
  ·exact kop_sound hs (by unfold kop;rw[ho];exact h)
  ·exact callM_sound hQ hs (by rw[Array.toList_map];exact relL_map_get hs _) h hrun0
 ·rename_i t xs ts ho;have hx:=hs.get (.tmp t);unfold CloK at h
  split at h
  case h_3=>exact h.elim
  case h_2=>
   rename_i f as bs hg;rw[hg]at hx;simp only[rel]at hx
   have hrun0:∀ fn:Func,X.P.funcs[f]?=some fn→fn.body.isSome=true→(fn.name == "runtime.NumGoroutine")=false→(execOp a.eval o).run X.P w=.ok (.enter f (as++xs.map a.eval++bs)) w:=by
    intro fn hf hb hn;have hb':¬fn.body=none:=by cases hq:fn.body<;>simp[hq]at hb⊢
    have hn':¬fn.name = "runtime.NumGoroutine" :=by simpa using hn
    simp[execOp,ho,resolve,Deferred.ofValue,hx,invoke,callFunc,hf,hn',hb']
   have hargs:relL (as.toList.map .v++xs.toList.map (get st.s)++bs.toList.map .v) (cx X φ st.h w) (as++xs.map a.eval++bs).toList:=by
    rw[Array.toList_append,Array.toList_append,Array.toList_map];exact relL_append (relL_append (relL_vs _ _) (relL_map_get hs _)) (relL_vs _ _)
   exact callM_sound hQ hs hargs h hrun0
  rename_i f fs cs hg;rw[hg]at hx;simp only[rel]at hx;obtain⟨as,bs,hu,ha,hb⟩:=hx
  have hrun0:∀ fn:Func,X.P.funcs[f]?=some fn→fn.body.isSome=true→(fn.name == "runtime.NumGoroutine")=false→(execOp a.eval o).run X.P w=.ok (.enter f (as++xs.map a.eval++bs)) w:=by
   intro fn hf hb hn;have hb':¬fn.body=none:=by cases hq:fn.body<;>simp[hq]at hb⊢
   have hn':¬fn.name = "runtime.NumGoroutine" :=by simpa using hn
   simp[execOp,ho,resolve,Deferred.ofValue,hu,invoke,callFunc,hf,hn',hb']
  have hargs:relL (fs++xs.toList.map (get st.s)++cs) (cx X φ st.h w) (as++xs.map a.eval++bs).toList:=by
   rw[Array.toList_append,Array.toList_append,Array.toList_map];exact relL_append (relL_append ha (relL_map_get hs _)) hb
  exact callM_sound hQ hs hargs h hrun0
 ·rename_i n1 n2 n3;exact aop_sound hs (StepK_aop h)
theorem kopsE_sound(ops:Array Oper)(Qn:Exit→Act→World→Prop)(hQ:∀ φ s v u h a w,SR X φ ⟨s,h⟩ a w→rel v (cx X φ h w) u→E v ⟨s,h⟩→Qn (.panic [{ v:=u,recovered:=false }]) a w):
  ∀ (os:List Oper) (is:List Nat) {K:St→Prop} {φ:List Nat} {st:St} {a:Act} {w:World},is.map (ops[·]?)=os.map some→SR X φ st a w→kopsE X.P E ops os K st→
  (∀ a w,Nx X K a w→Qn .normal a w)→wpOps X.P ops Qn is a w
 |[],[],K,φ,st,a,w,_,hs,h,hq=>hq _ _ ⟨φ,st,hs,h⟩
 |[],i::is,_,_,_,_,_,he,_,_,_=>by simp at he
 |o::os,[],_,_,_,_,_,he,_,_,_=>by simp at he
 |o::os,i::is,K,φ,st,a,w,he,hs,h,hq=>by
  simp only[BA,List.cons.injEq]at he;obtain⟨hi,he⟩:=he;have hrest:∀ a' w',Nx X (kopsE X.P E ops os K) a' w'→wpOps X.P ops Qn is a' w':=fun a' w' ⟨φ',st',hs',h'⟩=>kopsE_sound ops Qn hQ os is he hs' h' hq
  simp only[wpOps,hi];simp only[kopsE]at h
  split at h
  ·rename_i hg;have hw:Region.wanted o (yielded ops a.tmps)=true:=by simp[Region.wanted,hg]
   rw[if_pos hw];exact .inl (Oper.wp_mono hrest (kopE_sound hQ hs h))
  ·rename_i j want hg;unfold GuardK at h
   split at h
   ·rename_i z hz;obtain⟨h1,h2⟩:=h
    have hy:yielded ops a.tmps j=some z:=by
     unfold guardA at hz
     split at hz
     ·rename_i t ht;unfold yielded;rw[ht];have hr:=hs.slots t;rw[hz]at hr;simp only[rel]at hr;cases htm:a.tmps[t]? with
      |none=>simp[htm,undef]at hr
      |some u=>
       simp[htm]at hr;subst hr;simp[htm]
     ·cases hz
    by_cases hzw:z=want
    ·have hw:Region.wanted o (yielded ops a.tmps)=true:=by simp[Region.wanted,hg,hy,hzw]
     rw[if_pos hw];exact .inl (Oper.wp_mono hrest (kopE_sound hQ hs (h1 hzw)))
    ·have hw:Region.wanted o (yielded ops a.tmps)=false:=by simp[Region.wanted,hg,hy,hzw]
     rw[hw];exact hrest _ _ ⟨φ,_,hs.put o.dst (r:=.v (.tuple #[])) (u:=undef) (by simp only[rel,undef]),h2 hzw⟩
   ·rename_i us hz
    have hy:yielded ops a.tmps j=none:=by
     unfold guardA at hz
     split at hz
     ·rename_i t ht;unfold yielded;rw[ht];have hr:=hs.slots t;rw[hz]at hr;simp only[rel]at hr;cases htm:a.tmps[t]? with
      |none=>simp[htm]
      |some u=>
       simp[htm]at hr;subst hr;simp[htm]
     ·cases hz
    have hw:Region.wanted o (yielded ops a.tmps)=false:=by simp[Region.wanted,hg,hy]
    rw[hw];exact hrest _ _ ⟨φ,_,hs.put o.dst (r:=.v (.tuple #[])) (u:=undef) (by simp only[rel,undef]),h⟩
   ·exact h.elim
theorem QxE_then{P1:St→Prop}{Q:Post}{N:Act→World→Prop}(hn:∀ a w,Nx X P1 a w→N a w)(e:Exit)(a:Act)(w:World)(h:QxE X E (thenA P1 Q) e a w):Exit.then N (QxE X E Q) e a w:=by
 rcases h with h|h
 ·have:=Qx_then (Q:=Q) hn e a w h;cases e with
  |normal=>exact this
  |_=>exact .inl this
 ·obtain⟨φ,s,v,u,h',rfl,k⟩:=h;exact .inr ⟨φ,s,v,u,h',rfl,k⟩
theorem kwpE_sound:∀ (c:Code) (Q:Post) {φ:List Nat} {st:St} {a:Act} {w:World},SR X φ st a w→kwpE X.P E c Q st→c.wp X.P (QxE X E Q) a w
 |.skip,Q,φ,st,a,w,hs,h=>wp_skip (.inl ⟨φ,st,hs,h⟩)
 |.region id ops draw,Q,φ,st,a,w,hs,h=>by
  simp only[kwpE]at h
  split at h
  ·rename_i hd;subst hd;exact wp_mono (draw_sound hs h) fun e a w hq=>.inl hq
  ·rename_i hd;have hd':draw=false:=by simpa using hd
   subst hd';refine wp_region (kopsE_sound ops _ (fun φ s v u h a w hs hr he=>.inr ⟨φ,s,v,u,h,rfl,hs,hr,he⟩) ops.toList _ ?_ hs h (fun a w ⟨φ',st',hs',h'⟩=>.inl ⟨φ',st',hs',h'⟩))
   apply List.ext_getElem?
   intro i;simp only[Bm]
   by_cases hi:i<ops.size
   ·simp[hi]
   ·rw[Bq (by simpa using hi),Bq (by simpa using hi)];rfl
 |.seq x y,Q,φ,st,a,w,hs,h=>by
  simp only[kwpE]at h;exact wp_seq (wp_mono (kwpE_sound x _ hs h) fun e a w hq=>QxE_then (fun a w ⟨φ',st',hs',h'⟩=>kwpE_sound y Q hs' h') e a w hq)
 |.cond c x y,Q,φ,st,a,w,hs,h=>by
  simp only[kwpE]at h;unfold CondK at h
  split at h
  ·rename_i z hg;have hc:=hs.get c;rw[hg]at hc;simp only[rel]at hc;exact wp_cond_split hc (fun e=>kwpE_sound x Q hs (h.1 e)) (fun e=>kwpE_sound y Q hs (h.2 e))
  ·exact h.elim
 |.block id c,Q,φ,st,a,w,hs,h=>by
  simp only[kwpE]at h;refine wp_block (wp_mono (kwpE_sound c _ hs h) fun e a w hq=>?_)
  rcases hq with⟨φ',st',hs',hq⟩|⟨φ,s,v,u,h',rfl,k⟩
  ·cases e with
   |exit j=>
    simp only[inBlockA]at hq;simp only[Exit.inBlock]
    split<;>rename_i hj
    ·rw[if_pos hj]at hq;exact .inl ⟨φ',st',hs',hq⟩
    ·rw[if_neg hj]at hq;exact .inl ⟨φ',st',hs',hq⟩
   |_=>exact .inl ⟨φ',st',hs',hq⟩
  ·exact .inr ⟨φ,s,v,u,h',rfl,k⟩
 |.loop c,Q,φ,st,a,w,hs,h=>by
  simp only[kwpE]at h;obtain⟨R,n,s0,hw,hI,hr⟩:=h;refine wp_loopR (fun m a w=>∃ φ' st',SR X φ' st' a w∧R m st') (n:=n) ⟨φ,s0,hs.slotW hw,hI⟩ fun m a w ⟨φ1,s1,hs1,hI1⟩=>?_
  exact wp_mono (kwpE_sound c _ hs1 (hr m s1 hI1)) fun e a w hq=>QxE_then (fun a w ⟨φ2,s2,hs2,m',s3,hw3,hlt,hI3⟩=>⟨m',hlt,φ2,s3,hs2.slotW hw3,hI3⟩) e a w hq
 |.exit id,Q,φ,st,a,w,hs,h=>wp_exit (.inl ⟨φ,st,hs,h⟩)
 |.ret,Q,φ,st,a,w,hs,h=>wp_ret (.inl ⟨φ,st,hs,h⟩)
 |.label l,Q,φ,st,a,w,hs,h=>wp_label (.inl ⟨φ,st,hs,h⟩)
 |.goto l,Q,φ,st,a,w,hs,h=>wp_goto (.inl ⟨φ,st,hs,h⟩)
 |.rangeFunc ..,Q,φ,st,a,w,hs,h=>by simp only[kwpE]at h
 |.scope c,Q,φ,st,a,w,hs,h=>by
  simp only[kwpE]at h;refine wp_scope_labels (fun _ _ _ _=>False) (wp_mono (kwpE_sound c _ hs h) fun e a w hq=>?_) (fun _ _ _ _ h=>h.elim)
  rcases hq with⟨φ',st',hs',hq⟩|⟨φ,s,v,u,h',rfl,k⟩
  ·cases e with
   |goto l=>exact hq.elim
   |_=>exact .inl ⟨φ',st',hs',hq⟩
  ·exact .inr ⟨φ,s,v,u,h',rfl,k⟩
 |.refuse ..,Q,φ,st,a,w,hs,h=>by simp only[kwpE]at h
end
def endM(P:Program)(rs:List ResultVar)(R:Out→List ABlk→Prop):Post
 |.normal,s|.ret,s=>resS P rs s fun xs=>R (.ret (oneOrTup xs)) s.h
 |_,_=>False
theorem endM_normal(P:Program)(rs:List ResultVar)(R:Out→List ABlk→Prop)(s:St):endM P rs R .normal s=resS P rs s fun xs=>R (.ret (oneOrTup xs)) s.h:=rfl
theorem endM_ret(P:Program)(rs:List ResultVar)(R:Out→List ABlk→Prop)(s:St):endM P rs R .ret s=resS P rs s fun xs=>R (.ret (oneOrTup xs)) s.h:=rfl
def panE(R:Out→List ABlk→Prop)(v:AV)(s:St):Prop:=R (.pan v) s.h
theorem panE_eq(R:Out→List ABlk→Prop)(v:AV)(s:St):panE R v s=R (.pan v) s.h:=rfl
theorem SR.enter{X:Fix}{φ:List Nat}{s:Slots}{h:List ABlk}{a:Act}{w:World}(hs:SR X φ ⟨s,h⟩ a w){fn:Func}{args:List AV}{vs:Array Value}(hargs:relL args (cx X φ h w) vs.toList):
  SR (X.inl φ h w) φ ⟨⟨args.length+(fn.ntmps-args.length),idxL 0 args,s.g⟩,h⟩ { tmps:=vs++Array.replicate (fn.ntmps-vs.size) undef,defers:=[] } w:=by
 have hl:vs.size=args.length:=by have:=relL_length hargs;simpa using this
 refine hs.move (Below.refl _ _) (fun r _=>.inl rfl) rfl (by simp[hl]) hs.gl_le (fun c' hle t=>?_) hs.kp hs.kd (fun c c' h h3=>by cases h;exact h3);have:=look_args t args vs.toList 0 (relL_mono hle _ _ hargs);simp only[Nat.zero_add]at this
 rcases this with h|⟨u,hu,h⟩
 ·rw[h];simp only[rel]
 ·have hu':vs[t]?=some u:=by simpa using hu
  have hlt:=(BP.1 hu').1;simpa[Array.getElem?_append_left hlt,hu']using h
theorem SR.leave{X:Fix}{φ φ':List Nat}{s s':Slots}{h h':List ABlk}{a a':Act}{w w':World}(hs:SR X φ ⟨s,h⟩ a w)(hs':SR (X.inl φ h w) φ' ⟨s',h'⟩ a' w'):SR X φ' ⟨s,h'⟩ a w':=by
 have hle:=hs'.le0 (cx X φ h w) rfl
 exact hs'.move (K:=X.K) (df:=X.df) (c0:=X.c0) (Below.refl _ _) (fun r _=>.inl rfl) hs.defers hs.len (fun c' h k=>hs.gl_le c' (hle.trans_le h) k) (fun c' h t=>hs.slots_le c' (hle.trans_le h) t) hs'.kp hs'.kd
  (fun c c' h h3=>(hs.le0 c h).trans_le (hle.trans_le h3))
theorem results_run{X:Fix}{φ:List Nat}{st:St}{a:Act}{w:World}(hs:SR X φ st a w){fn:Func}{K:List AV→Prop}(h:resS X.P fn.results.toList st K):
  ∃ v xs,(results fn a.tmps).run X.P w=.ok v w∧K xs∧rel (oneOrTup xs) (cx X φ st.h w) v:=by
 obtain⟨xs,us,h1,h2,h3⟩:=resA_run hs fn.results.toList (resS_resA _ h);refine⟨if h:us.toArray.size=1 then us.toArray[0]else .tuple us.toArray,xs,?_,h3,rel_oneOrTup h2⟩;unfold results;rw[Sem.run_bind]
 have e:(fn.results.mapM fun|.tmp t=>pure (a.tmps.getD t undef)|.cell p t=>do loadVar t (←asAddr (a.tmps.getD p undef)):Sem (Array Value)).run X.P w=.ok us.toArray w:=by
  have h1:=(show (fn.results.toList.mapM fun|.tmp t=>pure (a.tmps.getD t undef)|.cell p t=>do loadVar t (←asAddr (a.tmps.getD p undef)):Sem (List Value)).run X.P w=.ok us w from h1);rw[Array.mapM_eq_mapM_toList,Sem.run_map,h1]
  rfl
 exact (congrArg (fun r=>Result.andThen r _) e).trans rfl
theorem EvM.of{P:Program}{γ:List (Nat×AV)}{f:FuncId}{fn:Func}{c:Code}{args:List AV}{h:List ABlk}{R:Out→List ABlk→Prop}(hf:P.funcs[f]?=some fn)(hb:fn.body=some c)
  (hk:kwpE P (panE R) c (endM P fn.results.toList R) ⟨⟨args.length+(fn.ntmps-args.length),idxL 0 args,γ⟩,h⟩):EvM P γ f args h R:=by
 intro X φ s a w vs hP hg hs hargs;subst hP;subst hg;have h0:=hs.enter (fn:=fn) hargs;refine calls_of_wp hf hb (wp_mono (kwpE_sound (X:=X.inl φ h w) c _ h0 hk) fun e a' w' hq=>?_)
 rcases hq with⟨φ',st',hs',hq⟩|⟨φ',s',v,u,h',rfl,hs',hv,hq⟩
 ·have fin:(resS X.P fn.results.toList st' fun xs=>R (.ret (oneOrTup xs)) st'.h)→a'.defers=[]∧∃ v,(results fn a'.tmps).run X.P w'=.ok v w'∧OutR X s a R (.returned v) w':=by
   intro hr;obtain⟨v,xs,h1,h2,h3⟩:=results_run (X:=X.inl φ h w) hs' hr;exact⟨hs'.defers,v,h1,.ret (oneOrTup xs),st'.h,φ',h2,hs.leave hs',v,rfl,h3⟩
  cases e with
  |normal=>exact fin hq
  |ret=>exact fin hq
  |_=>exact hq.elim
 ·exact⟨hs'.defers,.pan v,h',φ',hq,hs.leave hs',u,rfl,hv⟩
theorem Ev.ofE{P:Program}{γ:List (Nat×AV)}{f:FuncId}{fn:Func}{c:Code}{args:List AV}{res:AV}(hf:P.funcs[f]?=some fn)(hb:fn.body=some c)
  (h:kwpE P (fun _ _=>False) c (endS P fn.results.toList res) (startA γ args fn.ntmps)):Ev P γ f args res:=
 Ev.of_wp hf hb fun X hP h0 _ _ hs=>by
  subst hP;refine wp_mono (kwpE_sound c _ hs h) fun e a w hq=>?_
  rcases hq with⟨φ,s,hs,hq⟩|⟨φ,s,v,u,h,_,_,_,hq⟩
  ·exact⟨φ,s,hs,endS_endA hq⟩
  ·exact hq.elim
section
variable {P:Program} {E:AV→St→Prop} {s:St} {K:St→Prop} {Q:Post} {t:TypeId} {d:Option Tmp} {pos:String} {af:Array Edge} {g:Option (Nat×Bool)} {ops:Array Oper} {os:List Oper}
theorem kE_skip:kwpE P E .skip Q s=Q .normal s:=rfl
theorem kE_region(i:Nat)(ops:Array Oper):kwpE P E (.region i ops false) Q s=kopsE P E ops ops.toList (normK Q) s:=by simp[kwpE]
theorem kE_draw(i:Nat)(ops:Array Oper):kwpE P E (.region i ops true) Q s=DrawK P ops Q s:=by simp[kwpE]
theorem kE_seq(a b:Code):kwpE P E (.seq a b) Q s=kwpE P E a (thenA (kwpE P E b Q) Q) s:=rfl
theorem kE_cond(c:Operand)(x y:Code):kwpE P E (.cond c x y) Q s=CondK (get s.s c) (kwpE P E x Q) (kwpE P E y Q) s:=rfl
theorem kE_block(id:Nat)(c:Code):kwpE P E (.block id c) Q s=kwpE P E c (inBlockA id Q) s:=rfl
theorem kE_loop(c:Code):kwpE P E (.loop c) Q s=LoopE (fun Q s=>kwpE P E c Q s) Q s:=rfl
theorem kE_exit(id:Nat):kwpE P E (.exit id) Q s=Q (.exit id) s:=rfl
theorem kE_ret:kwpE P E .ret Q s=Q .ret s:=rfl
theorem kE_scope(c:Code):kwpE P E (.scope c) Q s=kwpE P E c (noGo Q) s:=rfl
theorem noGo_normal:noGo Q .normal s=Q .normal s:=rfl
theorem noGo_ret:noGo Q .ret s=Q .ret s:=rfl
theorem noGo_exit(j:Nat):noGo Q (.exit j) s=Q (.exit j) s:=rfl
theorem kE_label(l:Nat):kwpE P E (.label l) Q s=Q .normal s:=rfl
theorem kE_goto(l:Nat):kwpE P E (.goto l) Q s=Q (.goto l) s:=rfl
theorem oE_nil:kopsE P E ops [] K s=K s:=rfl
theorem oE_none(op:Op):kopsE P E ops (⟨d,op,t,pos,af,none⟩::os) K s=kopE P E ⟨d,op,t,pos,af,none⟩ (kopsE P E ops os K) s:=rfl
theorem oE_some(op:Op)(j:Nat)(b:Bool):kopsE P E ops (⟨d,op,t,pos,af,some (j,b)⟩::os) K s =
  GuardK (guardA ops s j) b (kopE P E ⟨d,op,t,pos,af,some (j,b)⟩ (kopsE P E ops os K)) (skipK d (kopsE P E ops os K)) s:=rfl
theorem sE_move(x:Operand):kopE P E ⟨d,.move x,t,pos,af,g⟩ K s=kop P ⟨d,.move x,t,pos,af,g⟩ K s:=rfl
theorem sE_assign(x:Operand):kopE P E ⟨d,.assign x,t,pos,af,g⟩ K s=kop P ⟨d,.assign x,t,pos,af,g⟩ K s:=rfl
theorem sE_alloc(u:TypeId):kopE P E ⟨d,.alloc u,t,pos,af,g⟩ K s=kop P ⟨d,.alloc u,t,pos,af,g⟩ K s:=rfl
theorem sE_box(u:TypeId)(x:Operand):kopE P E ⟨d,.box u x,t,pos,af,g⟩ K s=kop P ⟨d,.box u x,t,pos,af,g⟩ K s:=rfl
theorem sE_build(u:TypeId)(ps:Array (Nat×Operand)):kopE P E ⟨d,.build u ps,t,pos,af,g⟩ K s=kop P ⟨d,.build u ps,t,pos,af,g⟩ K s:=rfl
theorem sE_buildSlice(u n:Nat)(ps:Array (Nat×Operand)):kopE P E ⟨d,.buildSlice u n ps,t,pos,af,g⟩ K s=kop P ⟨d,.buildSlice u n ps,t,pos,af,g⟩ K s:=rfl
theorem sE_load(u:TypeId)(x:Operand):kopE P E ⟨d,.load u x,t,pos,af,g⟩ K s=kop P ⟨d,.load u x,t,pos,af,g⟩ K s:=rfl
theorem sE_store(u:TypeId)(x y:Operand):kopE P E ⟨d,.store u x y,t,pos,af,g⟩ K s=kop P ⟨d,.store u x y,t,pos,af,g⟩ K s:=rfl
theorem sE_nilCheck(x:Operand):kopE P E ⟨d,.nilCheck x,t,pos,af,g⟩ K s=kop P ⟨d,.nilCheck x,t,pos,af,g⟩ K s:=rfl
theorem sE_binOp_tmp(b:BinOp)(u v:TypeId)(x:Operand)(y:Tmp):kopE P E ⟨d,.binOp b u x (.tmp y) v,t,pos,af,g⟩ K s=kop P ⟨d,.binOp b u x (.tmp y) v,t,pos,af,g⟩ K s:=rfl
theorem sE_binOp_int(b:BinOp)(u v:TypeId)(x:Operand)(k:IntKind)(n:Int):kopE P E ⟨d,.binOp b u x (.const (.int k n)) v,t,pos,af,g⟩ K s=kop P ⟨d,.binOp b u x (.const (.int k n)) v,t,pos,af,g⟩ K s:=rfl
theorem sE_binOp_str(b:BinOp)(u v:TypeId)(x:Operand)(y:ByteArray):kopE P E ⟨d,.binOp b u x (.const (.string y)) v,t,pos,af,g⟩ K s=kop P ⟨d,.binOp b u x (.const (.string y)) v,t,pos,af,g⟩ K s:=rfl
theorem sE_binOp_bool(b:BinOp)(u v:TypeId)(x:Operand)(y:Bool):kopE P E ⟨d,.binOp b u x (.const (.bool y)) v,t,pos,af,g⟩ K s=kop P ⟨d,.binOp b u x (.const (.bool y)) v,t,pos,af,g⟩ K s:=rfl
theorem sE_binOp_flt(b:BinOp)(u v:TypeId)(x:Operand)(k:FloatKind)(n:Nat):kopE P E ⟨d,.binOp b u x (.const (.float k n)) v,t,pos,af,g⟩ K s=kop P ⟨d,.binOp b u x (.const (.float k n)) v,t,pos,af,g⟩ K s:=rfl
theorem sE_binOp_nif(b:BinOp)(u v:TypeId)(x:Operand): kopE P E ⟨d,.binOp b u x (.const .nilIface) v,t,pos,af,g⟩ K s=kop P ⟨d,.binOp b u x (.const .nilIface) v,t,pos,af,g⟩ K s:=rfl
theorem sE_binOp_cpl(b:BinOp)(u v:TypeId)(x:Operand)(k:FloatKind)(n m:Nat):kopE P E ⟨d,.binOp b u x (.const (.complex k n m)) v,t,pos,af,g⟩ K s=kop P ⟨d,.binOp b u x (.const (.complex k n m)) v,t,pos,af,g⟩ K s:=rfl
theorem sE_binOp_sl(b:BinOp)(u v:TypeId)(x:Operand)(n m:Nat):kopE P E ⟨d,.binOp b u x (.const (.slice none n m)) v,t,pos,af,g⟩ K s=kop P ⟨d,.binOp b u x (.const (.slice none n m)) v,t,pos,af,g⟩ K s:=rfl
theorem sE_binOp_fn(b:BinOp)(u v:TypeId)(x:Operand): kopE P E ⟨d,.binOp b u x (.const .nilFunc) v,t,pos,af,g⟩ K s=kop P ⟨d,.binOp b u x (.const .nilFunc) v,t,pos,af,g⟩ K s:=rfl
theorem sE_nilP(b:BinOp)(u v:TypeId)(x:Operand):kopE P E ⟨d,.binOp b u x (.const (.pointer none)) v,t,pos,af,g⟩ K s=NilPK P b u (get s.s x) d K s:=rfl
theorem NilPK_nil{u:TypeId}(h:ptrT P u=true):NilPK P .eql u (.v (.pointer none)) d K s=K (pt s d (.v (.bool true))):=by simp[NilPK,h,nilA]
theorem NilPK_nil2{u:TypeId}(h:ptrT P u=true):NilPK P .neq u (.v (.pointer none)) d K s=K (pt s d (.v (.bool false))):=by simp[NilPK,h,nilA]
theorem NilPK_ptr{u:TypeId}(h:ptrT P u=true)(i ver off:Nat):NilPK P .eql u (.ptr i ver off) d K s=((blkS s.h i ver).isSome=true∧K (pt s d (.v (.bool false)))):=by simp[NilPK,h,nilA]
theorem NilPK_ptr2{u:TypeId}(h:ptrT P u=true)(i ver off:Nat):NilPK P .neq u (.ptr i ver off) d K s=((blkS s.h i ver).isSome=true∧K (pt s d (.v (.bool true)))):=by simp[NilPK,h,nilA]
theorem sE_unOp(b:UnOp)(u:TypeId)(x:Operand):kopE P E ⟨d,.unOp b u x,t,pos,af,g⟩ K s=kop P ⟨d,.unOp b u x,t,pos,af,g⟩ K s:=rfl
theorem sE_convert(u v:TypeId)(x:Operand):kopE P E ⟨d,.convert u v x,t,pos,af,g⟩ K s=kop P ⟨d,.convert u v x,t,pos,af,g⟩ K s:=rfl
theorem sE_makeIf(u:TypeId)(x:Operand):kopE P E ⟨d,.makeInterface u x,t,pos,af,g⟩ K s=kop P ⟨d,.makeInterface u x,t,pos,af,g⟩ K s:=rfl
theorem sE_makeSlice(u:TypeId)(x y:Operand):kopE P E ⟨d,.makeSlice u x y,t,pos,af,g⟩ K s=kop P ⟨d,.makeSlice u x y,t,pos,af,g⟩ K s:=rfl
theorem sE_slice(u:TypeId)(x:Operand)(lo hi mx:Option Operand):kopE P E ⟨d,.slice u x lo hi mx,t,pos,af,g⟩ K s=kop P ⟨d,.slice u x lo hi mx,t,pos,af,g⟩ K s:=rfl
theorem sE_fieldAddr(u:TypeId)(x:Operand)(f:Nat):kopE P E ⟨d,.fieldAddr u x f,t,pos,af,g⟩ K s=kop P ⟨d,.fieldAddr u x f,t,pos,af,g⟩ K s:=rfl
theorem sE_field(u:TypeId)(x:Operand)(f:Nat):kopE P E ⟨d,.field u x f,t,pos,af,g⟩ K s=kop P ⟨d,.field u x f,t,pos,af,g⟩ K s:=rfl
theorem sE_indexAddr(u:TypeId)(x y:Operand):kopE P E ⟨d,.indexAddr u x y,t,pos,af,g⟩ K s=kop P ⟨d,.indexAddr u x y,t,pos,af,g⟩ K s:=rfl
theorem sE_index(u:TypeId)(x y:Operand):kopE P E ⟨d,.index u x y,t,pos,af,g⟩ K s=kop P ⟨d,.index u x y,t,pos,af,g⟩ K s:=rfl
theorem sE_extract(x:Operand)(i:Nat):kopE P E ⟨d,.extract x i,t,pos,af,g⟩ K s=kop P ⟨d,.extract x i,t,pos,af,g⟩ K s:=rfl
theorem sE_builtin(b:Builtin)(xs:Array Operand)(ts:Array TypeId):kopE P E ⟨d,.call ⟨.builtin b,xs,ts⟩,t,pos,af,g⟩ K s=kop P ⟨d,.call ⟨.builtin b,xs,ts⟩,t,pos,af,g⟩ K s:=rfl
theorem sE_pick(c x y:Operand):kopE P E ⟨d,.pick c x y,t,pos,af,g⟩ K s=kop P ⟨d,.pick c x y,t,pos,af,g⟩ K s:=rfl
theorem sE_makeFunc(f:FuncId)(xs ys:Array Operand):kopE P E ⟨d,.makeFunc (.func f) xs ys,t,pos,af,g⟩ K s=K (pt s d (.clo f (xs.toList.map (get s.s)) (ys.toList.map (get s.s)))):=rfl
theorem sE_assert(x:Operand)(u v:TypeId):kopE P E ⟨d,.typeAssert x u v true,t,pos,af,g⟩ K s=AssertK P v (get s.s x) d K s:=rfl
theorem AssertK_ifc{v u:TypeId}{y:AV}(h:ifcT P v=some false):AssertK P v (.ifc u y) d K s=if u=v then K (pt s d (.tup [y,.v (.bool true)]))else ∃ z,zeroT P v=some z∧K (pt s d (.tup [ofV z,.v (.bool false)])):=by simp[AssertK,h]
theorem sE_clo(x:Tmp)(xs:Array Operand)(ts:Array TypeId):kopE P E ⟨d,.call ⟨.value (.tmp x),xs,ts⟩,t,pos,af,g⟩ K s=CloK P E (get s.s (.tmp x)) (xs.toList.map (get s.s)) d K s:=rfl
theorem CloK_func(f:FuncId)(xs:List AV):CloK P E (.v (.func (.func f) #[] #[])) xs d K s=CallM P E f (xs++[]) d K s:=rfl
theorem CloK_clo(f:FuncId)(fs cs xs:List AV):CloK P E (.clo f fs cs) xs d K s=CallM P E f (fs++xs++cs) d K s:=rfl
theorem sE_panic(x:Operand):kopE P E ⟨d,.panic x,t,pos,af,g⟩ K s=PanK E (get s.s x) s:=rfl
theorem sE_call(f:FuncId)(xs:Array Operand)(ts:Array TypeId):kopE P E ⟨d,.call ⟨.value (.func f),xs,ts⟩,t,pos,af,g⟩ K s=CallE P E f (xs.toList.map (get s.s)) d K s:=rfl
end
set_option linter.defProp false in
def eE:=And.intro @kE_scope (And.intro @noGo_normal (And.intro @noGo_ret (And.intro @noGo_exit (And.intro @kE_skip (And.intro @kE_region (And.intro @kE_draw (And.intro @kE_seq (And.intro @kE_cond (And.intro @kE_block (And.intro @kE_loop (And.intro @kE_exit (And.intro @kE_ret (And.intro @kE_label (And.intro @kE_goto (And.intro @oE_nil (And.intro @oE_none (And.intro @oE_some (And.intro @sE_move (And.intro @sE_assign (And.intro @sE_alloc (And.intro @sE_box (And.intro @sE_build (And.intro @sE_buildSlice (And.intro @sE_load (And.intro @sE_store (And.intro @sE_nilCheck (And.intro @sE_binOp_tmp (And.intro @sE_binOp_int (And.intro @sE_binOp_str (And.intro @sE_binOp_bool (And.intro @sE_binOp_flt (And.intro @sE_binOp_nif (And.intro @sE_binOp_cpl (And.intro @sE_binOp_sl (And.intro @sE_binOp_fn (And.intro @sE_nilP (And.intro @NilPK_nil (And.intro @NilPK_nil2 (And.intro @NilPK_ptr (And.intro @NilPK_ptr2 (And.intro @sE_unOp (And.intro @sE_convert (And.intro @sE_makeIf (And.intro @sE_makeSlice (And.intro @sE_slice (And.intro @sE_fieldAddr (And.intro @sE_field (And.intro @sE_indexAddr (And.intro @sE_index (And.intro @sE_extract (And.intro @sE_builtin (And.intro @sE_pick (And.intro @sE_makeFunc (And.intro @sE_assert (And.intro @AssertK_ifc (And.intro @sE_clo (And.intro @CloK_clo (And.intro @CloK_func (And.intro @sE_panic (And.intro @sE_call (And.intro @PanK_ifc (And.intro @endM_normal (And.intro @endM_ret (@panE_eq))))))))))))))))))))))))))))))))))))))))))))))))))))))))))))))))
set_option linter.defProp false in
def evE:=And.intro eE evS
def PMode(c:Cx):Option AV→FrameMode→Prop
 |none,u=>u=.returning
 |some v,u=>∃ x,rel v c x∧u=.panicking [{ v:=x,recovered:=false }]
def PEnd:Option AV→FrameMode→Prop
 |none,u=>u=.returning
 |some _,u=>∃ x,u=.panicking [{ v:=x,recovered:=true }]
theorem PEnd.settle{m:Option AV}{u:FrameMode}(h:PEnd m u):settle u=.returning:=by
 cases m with
 |none=>cases h;rfl
 |some v=>obtain⟨x,rfl⟩:=h;rfl
def EvD(P:Program)(γ:List (Nat×AV))(g:FuncId)(args:List AV)(h:List ABlk)(m:Option AV)(R:List ABlk→Prop):Prop:=
 ∀ (X:Fix) (φ:List Nat) (s:Slots) (a:Act) (w:World) (vs:Array Value) (u:FrameMode),X.P=P→s.g=γ→SR X φ ⟨s,h⟩ a w→relL args (cx X φ h w) vs.toList→PMode (cx X φ h w) m u→
  CallsD P g vs u w fun e u' w'=>∃ h' φ' v,R h'∧e=.returned v∧SR X φ' ⟨s,h'⟩ a w'∧PEnd m u'
def recV:Option AV→AV
 |none=>.v .nilIface
 |some v=>v
def endR(P:Program)(rs:List ResultVar)(R:List ABlk→Prop):Post
 |.normal,s|.ret,s=>resS P rs s fun _=>R s.h
 |_,_=>False
theorem endR_normal(P:Program)(rs:List ResultVar)(R:List ABlk→Prop)(s:St):endR P rs R .normal s=resS P rs s fun _=>R s.h:=rfl
theorem endR_ret(P:Program)(rs:List ResultVar)(R:List ABlk→Prop)(s:St):endR P rs R .ret s=resS P rs s fun _=>R s.h:=rfl
theorem opsS_step{P:Program}{ops:Array Oper}{Q:Exit→Act→List Go.Frame→World→Prop}{i:Nat}{rest:List Nat}{a:Act}{cs:List Go.Frame}{w:World}{o:Oper}(ho:ops[i]?=some o)
  (hw:Region.wanted o (yielded ops a.tmps)=true) (h:o.wp P a w (fun a' w'=>wpOpsS P ops Q rest a' cs w') fun e a' w'=>Q e a' cs w'):wpOpsS P ops Q (i::rest) a cs w:=by
 simp only[wpOpsS,ho,hw,if_true];unfold Oper.wp at h;generalize (execOp a.eval o).run P w=r at h
 split
 ·exact h.elim
 ·exact h
theorem kopsE_soundS{X:Fix}{E:AV→St→Prop}(ops:Array Oper)(cs:List Go.Frame)(Qn:Exit→Act→List Go.Frame→World→Prop)
  (hQ:∀ φ s v u h a w,SR X φ ⟨s,h⟩ a w→rel v (cx X φ h w) u→E v ⟨s,h⟩→Qn (.panic [{ v:=u,recovered:=false }]) a cs w) :
  ∀ (os:List Oper) (is:List Nat) {K:St→Prop} {φ:List Nat} {st:St} {a:Act} {w:World},is.map (ops[·]?)=os.map some→SR X φ st a w→kopsE X.P E ops os K st→
  (∀ a w,Nx X K a w→Qn .normal a cs w)→wpOpsS X.P ops Qn is a cs w
 |[],[],K,φ,st,a,w,_,hs,h,hq=>hq _ _ ⟨φ,st,hs,h⟩
 |[],i::is,_,_,_,_,_,he,_,_,_=>by simp at he
 |o::os,[],_,_,_,_,_,he,_,_,_=>by simp at he
 |o::os,i::is,K,φ,st,a,w,he,hs,h,hq=>by
  simp only[BA,List.cons.injEq]at he;obtain⟨hi,he⟩:=he;have hrest:∀ a' w',Nx X (kopsE X.P E ops os K) a' w'→wpOpsS X.P ops Qn is a' cs w':=fun a' w' ⟨φ',st',hs',h'⟩=>kopsE_soundS ops cs Qn hQ os is he hs' h' hq
  simp only[kopsE]at h
  split at h
  ·rename_i hg;have hw:Region.wanted o (yielded ops a.tmps)=true:=by simp[Region.wanted,hg]
   exact opsS_step hi hw (Oper.wp_mono hrest (kopE_sound (Q:=fun e a' w'=>Qn e a' cs w') hQ hs h))
  ·rename_i j want hg;unfold GuardK at h
   split at h
   ·rename_i z hz;obtain⟨h1,h2⟩:=h
    have hy:yielded ops a.tmps j=some z:=by
     unfold guardA at hz
     split at hz
     ·rename_i t ht;unfold yielded;rw[ht];have hr:=hs.slots t;rw[hz]at hr;simp only[rel]at hr;cases htm:a.tmps[t]? with
      |none=>simp[htm,undef]at hr
      |some u=>
       simp[htm]at hr;subst hr;simp[htm]
     ·cases hz
    by_cases hzw:z=want
    ·have hw:Region.wanted o (yielded ops a.tmps)=true:=by simp[Region.wanted,hg,hy,hzw]
     exact opsS_step hi hw (Oper.wp_mono hrest (kopE_sound (Q:=fun e a' w'=>Qn e a' cs w') hQ hs (h1 hzw)))
    ·have hw:Region.wanted o (yielded ops a.tmps)=false:=by simp[Region.wanted,hg,hy,hzw]
     simp only[wpOpsS,hi,hw];exact hrest _ _ ⟨φ,_,hs.put o.dst (r:=.v (.tuple #[])) (u:=undef) (by simp only[rel,undef]),h2 hzw⟩
   ·rename_i us hz
    have hy:yielded ops a.tmps j=none:=by
     unfold guardA at hz
     split at hz
     ·rename_i t ht;unfold yielded;rw[ht];have hr:=hs.slots t;rw[hz]at hr;simp only[rel]at hr;cases htm:a.tmps[t]? with
      |none=>simp[htm]
      |some u=>
       simp[htm]at hr;subst hr;simp[htm]
     ·cases hz
    have hw:Region.wanted o (yielded ops a.tmps)=false:=by simp[Region.wanted,hg,hy]
    simp only[wpOpsS,hi,hw];exact hrest _ _ ⟨φ,_,hs.put o.dst (r:=.v (.tuple #[])) (u:=undef) (by simp only[rel,undef]),h⟩
   ·exact h.elim
theorem recover_run{P:Program}{w:World}{ρ:Operand→Value}{d:Option Tmp}{t:TypeId}{pos:String}{af:Array Edge}{g:Option (Nat×Bool)}:(execOp ρ ⟨d,.call ⟨.builtin .recover,#[],#[]⟩,t,pos,af,g⟩).run P w=.ok .recover w:=rfl
theorem EvD.of{P:Program}{γ:List (Nat×AV)}{g:FuncId}{fn:Func}{i:Nat}{ops:Array Oper}{rest:Code}{args:List AV}{h:List ABlk}{m:Option AV}{R:List ABlk→Prop}
  {d:Option Tmp} {t:TypeId} {pos:String} {af:Array Edge} {os:List Oper}
  (hf:P.funcs[g]?=some fn) (hb:fn.body=some (.seq (.region i ops false) rest)) (ho:ops.toList=⟨d,.call ⟨.builtin .recover,#[],#[]⟩,t,pos,af,none⟩::os)
  (hk:kopsE P (fun _ _=>False) ops os (fun s=>kwpE P (fun _ _=>False) rest (endR P fn.results.toList R) s) (pt ⟨⟨args.length+(fn.ntmps-args.length),idxL 0 args,γ⟩,h⟩ d (recV m))):EvD P γ g args h m R:=by
 intro X φ s a w vs u hP hg hs hargs hm;subst hP;subst hg;have h0:=hs.enter (fn:=fn) hargs;refine callsD_of_wpS hf hb fun c₀ cs hu=>?_
 apply wpS_seq
 apply wpS_region
 have hops:∀ j:Nat,ops[j]?=ops.toList[j]?:=fun j=>by simp
 have hsz:List.range ops.size=0::(List.range os.length).map (·+ 1):=by
  have:ops.size=os.length+1:=by have:=congrArg List.length ho;simpa using this
  rw[this,List.range_succ_eq_map]
 rw[hsz];have h00:ops[0]?=some ⟨d,.call ⟨.builtin .recover,#[],#[]⟩,t,pos,af,none⟩:=by rw[hops,ho];rfl
 have hw:∀ ts,Region.wanted (⟨d,.call ⟨.builtin .recover,#[],#[]⟩,t,pos,af,none⟩:Oper) (yielded ops ts)=true:=fun ts=>by simp[Region.wanted]
 have main:∀ (c1:Go.Frame) (v:Value),rel (recV m) (cx (X.inl φ h w) φ h w) v→PEnd m c1.mode→c1={ c₀ with mode:=c1.mode }→
   wpOpsS X.P ops (Exit.thenS (rest.wpS X.P (bodyPostS X.P fn c₀ cs fun e u' w'=>∃ h' φ' v,R h'∧e=.returned v∧SR X φ' ⟨s,h'⟩ a w'∧PEnd m u')) (bodyPostS X.P fn c₀ cs fun e u' w'=>∃ h' φ' v,R h'∧e=.returned v∧SR X φ' ⟨s,h'⟩ a w'∧PEnd m u'))
    ((List.range os.length).map (·+ 1)) (Act.put { tmps:=vs++Array.replicate (fn.ntmps-vs.size) undef,defers:=[] } d v) (c1::cs) w:=by
  intro c1 v hv hp hc1;refine kopsE_soundS (X:=X.inl φ h w) (E:=fun _ _=>False) ops (c1::cs) _ (fun _ _ _ _ _ _ _ _ _ hh=>hh.elim) os _ ?_ (h0.put d hv) hk fun a' w' ⟨φ',st',hs',hh⟩=>?_
  ·apply List.ext_getElem?
   intro k;simp only[Bm,List.getElem?_range',Option.map_map]
   by_cases hkl:k<os.length
   ·rw[List.getElem?_range hkl];simp only[Option.map_some,Function.comp];rw[hops,ho,Bu];simp[hkl]
   ·rw[Bq (by simpa using hkl),Bq (by simpa using hkl)];rfl
  ·show rest.wpS _ _ _ _ _
   refine wpS_of_wp (wp_mono (kwpE_sound (X:=X.inl φ h w) rest _ hs' hh) fun e a2 w2 hq=>?_)
   rcases hq with⟨φ2,st2,hs2,hq⟩|⟨_,_,_,_,_,_,_,_,hq⟩
   ·have fin:(resS X.P fn.results.toList st2 fun _=>R st2.h)→a2.defers=[]∧∃ u',(c1::cs:List Go.Frame)={ c₀ with mode:=u' }::cs∧∃ v,(results fn a2.tmps).run X.P w2=.ok v w2∧∃ h' φ' v',R h'∧Ending.returned v=.returned v'∧SR X φ' ⟨s,h'⟩ a w2∧PEnd m u':=by
     intro hr;obtain⟨v,xs,g1,g2,g3⟩:=results_run (X:=X.inl φ h w) hs2 (K:=fun _=>R st2.h) hr;exact⟨hs2.defers,c1.mode,by rw[←hc1],v,g1,st2.h,φ2,v,g2,rfl,hs.leave hs2,hp⟩
    cases e with
    |normal=>exact fin hq
    |ret=>exact fin hq
    |_=>exact hq.elim
   ·exact hq.elim
 simp only[wpOpsS,h00,hw,if_true,recover_run];cases m with
 |none=>
  have hmode:c₀.mode=.returning:=hu.trans hm;have:recoverD (c₀::cs)=none:=by simp[recoverD,hmode]
  rw[this];exact main c₀ _ (by simp only[recV,rel]) hmode rfl
 |some v=>
  obtain⟨x,hx,hm⟩:=hm;have hmode:c₀.mode=.panicking [{ v:=x,recovered:=false }]:=hu.trans hm;have:recoverD (c₀::cs)=some (x,{ c₀ with mode:=.panicking [{ v:=x,recovered:=true }] }::cs):=by simp[recoverD,hmode]
  rw[this];refine main _ _ ?_ ⟨x,rfl⟩ rfl;exact hx
def deferT:Op→Option Tmp
 |.defer ⟨.value (.tmp t),xs,_⟩=>if xs.isEmpty=true then some t else none
 |_=>none
def kopsD(P:Program)(ops:Array Oper):List Oper→(St→FuncId×List AV→Prop)→St→Prop
 |[],_,_=>False
 |o::os,K,s=>o.guard=none∧match deferT o.op with
  |some t=>o.dst=none∧match get s.s (.tmp t)with
   |.clo f [] cs=>kopsE P (fun _ _=>False) ops os (fun s'=>K s' (f,cs)) s
   |_=>False
  |none=>kopE P (fun _ _=>False) o (kopsD P ops os K) s
theorem kopsD_sound{X:Fix}{cc:Cx}(hX:X.c0=some cc)(hdf:X.df=[])(ops:Array Oper)(Qn:Exit→Act→World→Prop):
  ∀ (os:List Oper) (is:List Nat) {K:St→FuncId×List AV→Prop} {φ:List Nat} {st:St} {a:Act} {w:World},is.map (ops[·]?)=os.map some→SR X φ st a w→kopsD X.P ops os K st→
  (∀ (X':Fix) (cd:Cx) (bs:Array Value) (f:FuncId) (cs:List AV) (φ':List Nat) (st':St) (a':Act) (w':World),X'=X.with X.K [{ target:=.fn (.func f) bs,args:= #[] }] (some cd)→cc.le cd→relL cs cd bs.toList→SR X' φ' st' a' w'→K st' (f,cs)→Qn .normal a' w')→
  wpOps X.P ops Qn is a w
 |[],_,K,φ,st,a,w,_,hs,h,hq=>h.elim
 |o::os,[],_,_,_,_,_,he,_,_,_=>by simp at he
 |o::os,i::is,K,φ,st,a,w,he,hs,h,hq=>by
  simp only[BA,List.cons.injEq]at he;obtain⟨hi,he⟩:=he;obtain⟨hg,h⟩:=h;have hw:Region.wanted o (yielded ops a.tmps)=true:=by simp[Region.wanted,hg]
  simp only[wpOps,hi,hw,if_true];refine .inl ?_
  split at h
  ·rename_i t ht;obtain⟨hd,h⟩:=h;have hx:=hs.get (.tmp t)
   split at h
   case h_2=>exact h.elim
   rename_i f cs hgt;rw[hgt]at hx;simp only[rel,relL]at hx;obtain⟨as,bs,hu,ha,hb⟩:=hx;have has:as = #[]:=by cases as;simp at ha;subst ha;rfl
   subst has
   have hrun:(execOp a.eval o).run X.P w=.ok (.defer { target:=.fn (.func f) bs,args:= #[] }) w:=by
    unfold deferT at ht
    split at ht
    ·rename_i t' xs ts ho
     split at ht
     ·rename_i hxs;have hxs':xs = #[]:=Array.isEmpty_iff.1 hxs;subst hxs';cases ht;simp[execOp,ho,resolve,Deferred.ofValue,hu]
     ·cases ht
    ·cases ht
   unfold Oper.wp;rw[hrun];simp only[Oper.upon,hd]
   have hs2:SR (X.with X.K [{ target:=.fn (.func f) bs,args:= #[] }] (some (cx X φ st.h w))) φ ⟨st.s,st.h⟩ { a with defers:={ target:=.fn (.func f) bs,args:= #[] }::a.defers } w:=
    hs.move (Below.refl _ _) (fun r _=>.inl rfl) (by show _::a.defers=_;rw[hs.defers,hdf]) hs.len hs.gl_le (fun c' h t=>hs.slots_le c' h t) hs.kp hs.kd (fun c c' h h3=>by cases h;exact h3)
   have hcd:cc.le (cx X φ st.h w):=hs.le0 cc hX;have hfin:=hq (X.with X.K [{ target:=.fn (.func f) bs,args:= #[] }] (some (cx X φ st.h w))) (cx X φ st.h w) bs f cs;show wpOps X.P ops Qn is { a with defers:={ target:=.fn (.func f) bs,args:= #[] }::a.defers } w;exact kopsE_sound (X:=X.with X.K [{ target:=.fn (.func f) bs,args:= #[] }] (some (cx X φ st.h w))) (E:=fun _ _=>False) ops Qn (fun _ _ _ _ _ _ _ _ _ hh=>hh.elim) os is he hs2 h fun a' w' ⟨φ',st',hs',hk⟩=>hfin φ' st' a' w' rfl hcd hb hs' hk
  ·refine Oper.wp_mono (fun a' w' hn=>?_) (kopE_sound (Q:=fun e a' w'=>Qn e a' w') (E:=fun _ _=>False) (fun _ _ _ _ _ _ _ _ _ hh=>hh.elim) hs h);obtain⟨φ',st',hs',h'⟩:=hn;exact kopsD_sound hX hdf ops Qn os is he hs' h' hq
def endD(P:Program)(rs:List ResultVar)(R:Out→List ABlk→Prop)(d:FuncId×List AV)(m:Option AV)(s:St):Prop:=
 bodyT P d.1∧∃ R',EvD P s.s.g d.1 d.2 s.h m R'∧∀ h',R' h'→resS P rs ⟨s.s,h'⟩ fun xs=>R (.ret (oneOrTup xs)) h'
def endDP(P:Program)(rs:List ResultVar)(R:Out→List ABlk→Prop)(d:FuncId×List AV):Post
 |.normal,s|.ret,s=>endD P rs R d none s
 |_,_=>False
theorem endDP_ret(P:Program)(rs:List ResultVar)(R:Out→List ABlk→Prop)(d:FuncId×List AV)(s:St):endDP P rs R d .ret s=endD P rs R d none s:=rfl
theorem defer_core{X:Fix}{φ:List Nat}{s:Slots}{h:List ABlk}{a:Act}{w:World}(hs:SR X φ ⟨s,h⟩ a w){fn:Func}{i:Nat}{ops:Array Oper}{rest:Code}{R:Out→List ABlk→Prop}
  {φ0:List Nat} {st0:St} {a0:Act} {w0:World} (h0:SR (X.inl φ h w) φ0 st0 a0 w0)
  (hk:kopsD X.P ops ops.toList (fun s d=>kwpE X.P (fun v s=>endD X.P fn.results.toList R d (some v) s) rest (endDP X.P fn.results.toList R d) s) st0) :
  (Code.seq (.region i ops false) rest).wp X.P (bodyPostD X.P fn (OutR X s a R)) a0 w0:=by
 refine wp_seq (wp_region ?_);refine kopsD_sound (X:=X.inl φ h w) (cc:=cx X φ h w) rfl rfl ops _ ops.toList _ ?_ h0 hk fun X' cd bs g cs φ1 st1 a1 w1 hX' hle hb1 hs1 hk1=>?_
 ·apply List.ext_getElem?
  intro i;simp only[Bm]
  by_cases hi:i<ops.size
  ·simp[hi]
  ·rw[Bq (by simpa using hi),Bq (by simpa using hi)];rfl
 ·show rest.wp _ _ _ _
  have hXP:X'.P=X.P:=by rw[hX'];rfl
  have hkw:=kwpE_sound (X:=X') rest _ hs1 (by rw[hXP];exact hk1);rw[hXP]at hkw;refine wp_mono hkw fun e a2 w2 hq=>?_
  have fin:∀ (m:Option AV) (u:FrameMode) (φ2:List Nat) (st2:St),SR X' φ2 st2 a2 w2→PMode (cx X' φ2 st2.h w2) m u→u≠.run→endD X.P fn.results.toList R (g,cs) m st2→Leaves X.P fn a2.tmps (OutR X s a R) a2.defers u w2:=by
   intro m u φ2 st2 hs2 hm hu ⟨⟨fg,hfg,hbg,hng⟩,R',hR',hres⟩;have hd2:a2.defers=[{ target:=.fn (.func g) bs,args:= #[] }]:=by rw[hs2.defers,hX'];rfl
   rw[hd2];have hcd:cd.le (cx X' φ2 st2.h w2):=hs2.le0 cd (by rw[hX'];rfl);obtain⟨s2,h2⟩:=st2;have hb':¬fg.body=none:=by cases hq:fg.body<;>simp[hq]at hbg⊢
   have hn':¬fg.name = "runtime.NumGoroutine" :=by simpa using hng
   refine leaves_cons (f:=g) (args:=bs) hu (by simp[invoke,callFunc,hfg,hn',hb']) ?_;have hrelcs:relL cs (cx X' φ2 h2 w2) bs.toList:=relL_mono hcd _ _ hb1;have hc:=hR' X' φ2 s2 a2 w2 bs u hXP rfl hs2 hrelcs hm;refine hc.mono fun e u' w3 ⟨h3,φ3,v,hr3,he3,hs3,hp3⟩=>?_
   subst he3;show Leaves X.P fn a2.tmps (OutR X s a R) [] (settle u') w3;rw[hp3.settle];have hres3:=hres h3 hr3;rw[←hXP]at hres3;obtain⟨v3,xs,g1,g2,g3⟩:=results_run (X:=X') (fn:=fn) hs3 (K:=fun xs=>R (.ret (oneOrTup xs)) h3) hres3;rw[hXP]at g1;refine⟨v3,g1,.ret (oneOrTup xs),h3,φ3,g2,?_,v3,rfl,?_⟩
   ·have hs4:SR (X'.with X'.K [] (some (cx X φ h w))) φ3 ⟨s2,h3⟩ { a2 with defers:=[] } w3:=by
     refine hs3.move (Below.refl _ _) (fun r _=>.inl rfl) rfl hs3.len hs3.gl_le (fun c' h t=>hs3.slots_le c' h t) hs3.kp hs3.kd (fun c c' h h4=>?_);cases h;have hc1:cd.le (cx X' φ3 h3 w3):=hs3.le0 cd (by rw[hX'];rfl);exact (hle.trans_le hc1).trans_le h4
    have hX4:X'.with X'.K [] (some (cx X φ h w))=X.inl φ h w:=by rw[hX'];rfl
    rw[hX4]at hs4;exact hs.leave hs4
   ·have:cx X φ3 h3 w3=cx X' φ3 h3 w3:=by rw[hX'];rfl
    rw[this];exact g3
  rcases hq with⟨φ2,st2,hs2,hq⟩|⟨φ2,s2,v,u,h2,rfl,hs2,hv,hq⟩
  ·cases e with
   |normal=>exact fin none .returning φ2 st2 hs2 rfl (by simp) hq
   |ret=>exact fin none .returning φ2 st2 hs2 rfl (by simp) hq
   |_=>exact hq.elim
  ·exact fin (some v) _ φ2 ⟨s2,h2⟩ hs2 ⟨u,hv,rfl⟩ (by simp) hq
theorem EvM.ofD2{P:Program}{γ:List (Nat×AV)}{f:FuncId}{fn:Func}{i1 i:Nat}{ops1 ops:Array Oper}{rest:Code}{args:List AV}{h:List ABlk}{R:Out→List ABlk→Prop}
  (hf:P.funcs[f]?=some fn) (hb:fn.body=some (.seq (.region i1 ops1 false) (.seq (.region i ops false) rest)))
  (hk:kopsE P (fun _ _=>False) ops1 ops1.toList (kopsD P ops ops.toList (fun s d=>kwpE P (fun v s=>endD P fn.results.toList R d (some v) s) rest (endDP P fn.results.toList R d) s)) ⟨⟨args.length+(fn.ntmps-args.length),idxL 0 args,γ⟩,h⟩):EvM P γ f args h R:=by
 intro X φ s a w vs hP hg hs hargs;subst hP;subst hg;refine calls_of_wp_defers hf hb (wp_seq (wp_region ?_));refine kopsE_sound (X:=X.inl φ h w) ops1 _ (fun _ _ _ _ _ _ _ _ _ hh=>hh.elim) ops1.toList _ ?_ (hs.enter (fn:=fn) hargs) hk fun a' w' ⟨φ',st',hs',hk'⟩=>?_
 ·apply List.ext_getElem?
  intro i;simp only[Bm]
  by_cases hi:i<ops1.size
  ·simp[hi]
  ·rw[Bq (by simpa using hi),Bq (by simpa using hi)];rfl
 ·exact defer_core hs hs' hk'
def freeM(cl:Oper→Oper→Bool)(ops:Array Oper)(tbl:List (List Nat))(W:List (List Nat)):List (Nat×Nat):=
 (freeP cl ops tbl).filter fun u=>W.any fun p=>if befB p u.1 u.2 then clI cl ops u.1 u.2 else clI cl ops u.2 u.1
def allC(tbl:List (List Nat)):List (Nat×Nat)→List (List ((Nat×Nat)×Bool))
 |[]=>[[]]
 |u::U=>(allC tbl U).flatMap fun l=>([true,false].map fun b=>(u,b)::l).filter fun l=> !noneB tbl l
def ordersOk2(cl:Oper→Oper→Bool)(ops:Array Oper)(W:List (List Nat)):Bool:=
 ancOk ops (ancT ops)&&ops.all (fun o=>o.guard.isNone) &&
 W.all (fun p=>nodB p&&p.length==ops.size&&p.all (fun i=>decide (i<ops.size))&&(List.range ops.size).all (fun i=>p.contains i)&&pairB (fun j k=> !(clI cl ops j k) || !((ancT ops).getD j []).contains k) p) &&
 (allC (ancT ops) (freeM cl ops (ancT ops) W)).all fun l=>W.any fun p=>l.all fun u=>if befB p u.1.1 u.1.2 then !(clI cl ops u.1.1 u.1.2) || u.2 else !(clI cl ops u.1.2 u.1.1) || !u.2
theorem noneB_tail{tbl:List (List Nat)}{x:(Nat×Nat)×Bool}{l:List ((Nat×Nat)×Bool)}(h:noneB tbl (x::l)=false):noneB tbl l=false:=by
 cases e:noneB tbl l with
 |false=>rfl
 |true=>
  unfold noneB at e h;obtain⟨p,hp,e⟩:=List.any_eq_true.1 e;obtain⟨q,hq,e⟩:=List.any_eq_true.1 e
  have:((x::l).any fun p=>(x::l).any fun q=>(oriB p.1 p.2).2==(oriB q.1 q.2).1&&(tbl.getD (oriB p.1 p.2).1 []).contains (oriB q.1 q.2).2)=true:=
   List.any_eq_true.2 ⟨p,List.mem_cons_of_mem _ hp,List.any_eq_true.2 ⟨q,List.mem_cons_of_mem _ hq,e⟩⟩
  rw[this]at h;cases h
theorem mem_allC(tbl:List (List Nat))(f:Nat×Nat→Bool):∀ U:List (Nat×Nat),noneB tbl (U.map fun u=>(u,f u))=false→(U.map fun u=>(u,f u))∈allC tbl U
 |[],_=>by simp[allC]
 |u::U,h=>by
  rw[BA]at h⊢;have ih:=mem_allC tbl f U (noneB_tail h);simp only[allC,List.mem_flatMap,List.mem_filter,List.mem_map];exact⟨_,ih,⟨f u,by cases f u<;>simp,rfl⟩,by rw[h];rfl⟩
theorem orders_cov2{cl:Oper→Oper→Bool}{ops:Array Oper}{W:List (List Nat)}(h:ordersOk2 cl ops W=true){listed:Array Bool}(hl:∀ i,listed.getD i true=false↔i<ops.size):
  Cov cl ops (fun p=>p∈W) (fun i=>listed.getD i true=false):=by
 simp only[ordersOk2,Bool.and_eq_true]at h;obtain⟨⟨⟨h1,h2⟩,h3⟩,h4⟩:=h;intro ρ hinj hed
 have hon:∀ (j:Nat) o,ops[j]?=some o→∀ e∈o.after.toList,bindsE e=true→e.on<j:=fun j o ho e he hb=>by
  have hj:j<ops.size:=(BP.1 ho).1;have q1:=List.all_eq_true.1 h1 j (List.mem_range.2 hj);rw[ho]at q1;simp only[Bool.and_eq_true]at q1;have:=List.all_eq_true.1 q1.1 e he;rw[hb]at this;simpa using this
 have hrk:∀ i,i<ops.size→∀ j∈(ancT ops).getD i [],ρ j<ρ i:=fun i hi=>anc_rank h1 (fun j o ho e he hb=>by
  have hj:j<ops.size:=(BP.1 ho).1;exact hed j o ((hl j).2 hj) ho e he hb ((hl e.on).2 (by have:=hon j o ho e he hb;omega))) (i+1) i (by omega) hi
 have hno:noneB (ancT ops) ((freeM cl ops (ancT ops) W).map fun u=>(u,decide (ρ u.1<ρ u.2)))=false:=by
  cases hn:noneB (ancT ops) ((freeM cl ops (ancT ops) W).map fun u=>(u,decide (ρ u.1<ρ u.2)))with
  |false=>rfl
  |true=>
   exfalso
   unfold noneB at hn;obtain⟨p,hp,h⟩:=List.any_eq_true.1 hn;obtain⟨q,hq,h⟩:=List.any_eq_true.1 h;simp only[Bool.and_eq_true]at h
   have hori:∀ p∈(freeM cl ops (ancT ops) W).map (fun u=>(u,decide (ρ u.1<ρ u.2))),ρ (oriB p.1 p.2).1<ρ (oriB p.1 p.2).2∧(oriB p.1 p.2).1<ops.size:=by
    intro p hp;obtain⟨u,hu,rfl⟩:=List.mem_map.1 hp;have hm:=(List.mem_filter.1 hu).1;simp only[freeP,List.mem_flatMap,List.mem_map,List.mem_filter,List.mem_range]at hm;obtain⟨j,hj,i,⟨hi,_⟩,hu⟩:=hm;unfold oriB;rw[←hu];simp only
    by_cases hd:ρ i<ρ j
    ·rw[if_pos (decide_eq_true hd)];exact⟨hd,by show i<_;omega⟩
    ·rw[if_neg (by simpa using hd)];have hne:ρ i≠ρ j:=fun ee=>by have:=hinj i j ((hl i).2 (by omega)) ((hl j).2 hj) ee;omega
     exact⟨by show ρ j<ρ i;omega,hj⟩
   obtain⟨a1,a2⟩:=hori p hp;obtain⟨b1,b2⟩:=hori q hq;have c1:=eq_of_beq h.1;have c2:=hrk _ a2 (oriB q.1 q.2).2 (by simpa using h.2);rw[c1]at a1
   omega
 have h5:=List.all_eq_true.1 h4 _ (mem_allC (ancT ops) (fun u=>decide (ρ u.1<ρ u.2)) _ hno);obtain⟨p,hp,h6⟩:=List.any_eq_true.1 h5
 have h7:∀ u∈freeP cl ops (ancT ops),(if befB p u.1 u.2 then !(clI cl ops u.1 u.2) || decide (ρ u.1<ρ u.2)else !(clI cl ops u.2 u.1) || !decide (ρ u.1<ρ u.2))=true:=by
  intro u hu
  by_cases hm:(W.any fun p=>if befB p u.1 u.2 then clI cl ops u.1 u.2 else clI cl ops u.2 u.1)=true
  ·exact List.all_eq_true.1 h6 (u,decide (ρ u.1<ρ u.2)) (List.mem_map.2 ⟨u,List.mem_filter.2 ⟨hu,hm⟩,rfl⟩)
  ·have hm:(if befB p u.1 u.2 then clI cl ops u.1 u.2 else clI cl ops u.2 u.1)=false:=by
    cases e:(if befB p u.1 u.2 then clI cl ops u.1 u.2 else clI cl ops u.2 u.1)with
    |false=>rfl
    |true=>exact absurd (List.any_eq_true.2 ⟨p,hp,e⟩) hm
   split
   ·rename_i hb;rw[if_pos hb]at hm;rw[hm];rfl
   ·rename_i hb;rw[if_neg hb]at hm;rw[hm];rfl
 have h8:=List.all_eq_true.1 h3 p hp;simp only[Bool.and_eq_true]at h8;obtain⟨⟨⟨⟨k1,k2⟩,k3⟩,k5⟩,k4⟩:=h8;refine⟨p,hp,pair_of p fun p1 j p2 e k hk hcl=>?_⟩;have hjl:j<ops.size:=by have:=List.all_eq_true.1 k3 j (by rw[e];simp);simpa using this
 have hkl:k<ops.size:=by have:=List.all_eq_true.1 k3 k (by rw[e];simp[hk]);simpa using this
 have hpr:=pairB_spec p k4;rw[e]at hpr k1;have hnk:=pair_at hpr hk;rw[hcl]at hnk;have hnk':((ancT ops).getD j []).contains k=false:=by simpa using hnk
 obtain⟨b1,b2⟩:=befB_at p1 p2 k1 hk
 have hjk:j≠k:=fun ee=>by
  subst ee;exact absurd hk (List.nodup_cons.1 (List.nodup_append.1 (nodB_nodup _ k1)).2.1).1
 cases ha:((ancT ops).getD k []).contains j with
 |true=>exact hrk k hkl j (by simpa using ha)
 |false=>
  rcases Nat.lt_or_ge j k with hlt|hge
  ·have hm:(j,k)∈freeP cl ops (ancT ops):=by
    simp only[freeP,List.mem_flatMap,List.mem_map,List.mem_filter,List.mem_range];exact⟨k,hkl,j,⟨hlt,by rw[hcl,ha];rfl⟩,rfl⟩
   have:=h7 _ hm;simp only at this;rw[e,b1,hcl]at this;simpa using this
  ·have hm:(k,j)∈freeP cl ops (ancT ops):=by
    simp only[freeP,List.mem_flatMap,List.mem_map,List.mem_filter,List.mem_range];exact⟨j,hjl,k,⟨by omega,by rw[hcl,hnk'];simp⟩,rfl⟩
   have:=h7 _ hm;simp only at this;rw[e,b2,hcl]at this;have hnl:¬ρ k<ρ j:=by simpa using this
   have hne:ρ j≠ρ k:=fun ee=>hjk (hinj j k ((hl j).2 hjl) ((hl k).2 hkl) ee)
   omega
theorem anyG_orders2{T:Oper→(St→Prop)→St→Prop}{cl:Oper→Oper→Bool}(hT:TOk T cl){ops:Array Oper}{K:St→Prop}(hK:ExtK K){W:List (List Nat)}(h:ordersOk2 cl ops W=true)(hne:W≠[])
  (hd:(∀ p q,p∈W→q∈W→p=q)∨∀ (i:Nat) o,ops[i]?=some o→∀ (F:List Nat→St→Prop) (V:List Nat→Prop) (s:St),(∃ p,V p)→(∀ p,V p→T o (F p) s)→T o (fun s'=>∀ p,V p→F p s') s)
  {s:St} (hs:∀ p∈W,seqT T ops p K s):anyG T ops K ops.size (Array.replicate ops.size false) s:=by
 have hl:∀ i,(Array.replicate ops.size false).getD i true=false↔i<ops.size:=fun i=>by
  simp only[Array.getD_eq_getD_getElem?,Array.getElem?_replicate]
  split<;>simp_all
 have h':=h;simp only[ordersOk2,Bool.and_eq_true]at h';obtain⟨⟨⟨h1,h2⟩,h3⟩,h4⟩:=h';refine any_of_orders hT hK (fun i o ho=>?_) (fun j o ho e he hb=>?_) _ _ (fun p=>p∈W) s (by simp) ?_ (fun p hp=>?_) (orders_cov2 h hl) hd hs
 ·obtain⟨hi,e⟩:=BP.1 ho;have:=Array.all_eq_true.1 h2 i hi;rw[e]at this;simpa using this
 ·have hj:j<ops.size:=(BP.1 ho).1;have q1:=List.all_eq_true.1 h1 j (List.mem_range.2 hj);rw[ho]at q1;simp only[Bool.and_eq_true]at q1;have:=List.all_eq_true.1 q1.1 e he;rw[hb]at this;simpa using this
 ·cases W with
  |nil=>exact absurd rfl hne
  |cons p W=>exact⟨p,by simp⟩
 ·have h8:=List.all_eq_true.1 h3 p hp;simp only[Bool.and_eq_true]at h8;obtain⟨⟨⟨⟨k1,k2⟩,k3⟩,k5⟩,k4⟩:=h8;have hnd:=nodB_nodup p k1;have hlen:p.length=ops.size:=eq_of_beq k2;refine⟨hnd,fun i=>?_,hlen⟩;rw[hl]
  constructor
  ·intro hi;have:=List.all_eq_true.1 k3 i hi;simpa using this
  ·intro hi;have:=List.all_eq_true.1 k5 i (List.mem_range.2 hi);simpa using this
theorem DrawK.orders2{P:Program}{ops:Array Oper}{Q:Post}{s:St}(W:List (List Nat))(h1:P.follows .mixedOrders=true)(h2:ordersOk2 (clashC P) ops W=true)(h3:okW ops W=true)(h4:∀ p∈W,seqT (kop P) ops p (normK Q) s):DrawK P ops Q s:=by
 refine⟨h1,.inr (.inr ?_)⟩;rw[←anyK_eq];have hQ:ExtK (ExtC (normK Q)):=fun s s' he ⟨s2,h1,h2⟩=>⟨s2,eqvS_trans h1 he,h2⟩
 have h4:∀ p∈W,seqT (kop P) ops p (ExtC (normK Q)) s:=fun p hp=>seqT_mono (T:=kop P) (fun o K K' s hm h=>kop_mono hm h) (K:=normK Q) (fun s h=>(⟨s,eqvS_refl s,h⟩:ExtC (normK Q) s)) p (h4 p hp)
 refine anyG_orders2 (kop_ok P) hQ h2 (fun e=>by rw[e]at h3;cases h3) ?_ h4
 match W,h3 with
 |[p],_=>exact .inl fun a b ha hb=>by rw[Bj.1 ha,Bj.1 hb]
 |p::q::W,h3=>
  refine .inr fun i o ho F V s hne h=>kop_conj ?_ F V s hne h
  obtain⟨hi,e⟩:=BP.1 ho;have:=Array.all_eq_true.1 h3 i hi;rw[e]at this;exact this
end Go.Ev
