/- The evaluator: abstract values, and code carried out on them. -/
import Derived.Test.YtlobiioioicmhaaGreatDoorDU8
set_option linter.all false
set_option maxHeartbeats 8000000
namespace Go.Ev
open _root_.List renaming getElem?_cons_zero→Bz,getElem?_cons_succ→Bu,getElem?_map→Bm,getElem?_eq_none→Bq,take_of_length_le→Bt
open _root_.Nat renaming le_refl→BL
open Go Go.RowKit
abbrev Rho:=FuncId→List AV→List (Nat×AV)→List ABlk→Out→List ABlk→Prop
def isCallO:Op→Bool
 |.call ⟨.value (.func _),_,_⟩=>true
 |_=>false
def kopR(P:Program)(E:AV→St→Prop)(ρ:Rho)(o:Oper)(K:St→Prop)(s:St):Prop:=
 match o.op with
 |.call ⟨.value (.func g),xs,_⟩=>bodyT P g∧EvM P s.s.g g (xs.toList.map (get s.s)) s.h (ρ g (xs.toList.map (get s.s)) s.s.g s.h)∧
   (∀ r h',ρ g (xs.toList.map (get s.s)) s.s.g s.h (.ret r) h'→K (pt ⟨s.s,h'⟩ o.dst r))∧∀ v h',ρ g (xs.toList.map (get s.s)) s.s.g s.h (.pan v) h'→E v ⟨s.s,h'⟩
 |_=>kop P o K s
def clashE(P:Program)(x y:Oper):Bool:=isCallO x.op || isCallO y.op || clashC P x y
theorem kopR_call{P:Program}{E:AV→St→Prop}{ρ:Rho}{o:Oper}(h:isCallO o.op=false)(K:St→Prop)(s:St):kopR P E ρ o K s=kop P o K s:=by
 unfold kopR
 split
 ·rename_i g xs ts ho;rw[ho]at h;cases h
 ·rfl
theorem map_get_eq{s s':St}(h:eqvS s s')(xs:Array Operand):xs.toList.map (get s.s)=xs.toList.map (get s'.s):=List.map_congr_left fun x _=>eqvS_get h x
theorem kopR_ok(P:Program){E:AV→St→Prop}(hE:∀ v,ExtK (E v))(ρ:Rho):TOk (kopR P E ρ) (clashE P):=by
 refine⟨fun {o K K' s} hm h=>?_,fun {o K} hK s s' he h=>?_,fun {x y K s} hc hK h=>?_⟩
 ·unfold kopR at h⊢
  split
  ·rename_i g xs ts ho;rw[ho]at h;exact⟨h.1,h.2.1,fun r h' hr=>hm _ (h.2.2.1 r h' hr),h.2.2.2⟩
  ·rename_i hn
   have:kop P o K s:=by
    split at h
    ·rename_i g xs ts ho;exact absurd ho (hn g xs ts)
    ·exact h
   exact kop_mono hm this
 ·unfold kopR at h⊢;have hg:=he.2.1;have hh:=he.2.2.1
  split
  ·rename_i g xs ts ho;rw[ho]at h;simp only at h;rw[map_get_eq he,hg,hh]at h;exact⟨h.1,h.2.1,fun r h' hr=>hK _ _ (eqvS_pt he.1 he.2.1 he.2.2.2 h' o.dst r) (h.2.2.1 r h' hr),fun v h' hr=>hE v ⟨s.s,h'⟩ ⟨s'.s,h'⟩ ⟨he.1,he.2.1,rfl,he.2.2.2⟩ (h.2.2.2 v h' hr)⟩
  ·rename_i hn
   have:kop P o K s:=by
    split at h
    ·rename_i g xs ts ho;exact absurd ho (hn g xs ts)
    ·exact h
   exact kop_ext hK s s' he this
 ·simp only[clashE,Bool.or_eq_false_iff]at hc;obtain⟨⟨h1,h2⟩,h3⟩:=hc;rw[kopR_call h1]at h;have e:kopR P E ρ y K=kop P y K:=funext fun s=>kopR_call h2 K s
  rw[e]at h;rw[kopR_call h2];have e:kopR P E ρ x K=kop P x K:=funext fun s=>kopR_call h1 K s
  rw[e];exact kop_comm h3 hK h
theorem kopR_conj{P:Program}{E:AV→St→Prop}{ρ:Rho}{o:Oper}(F:List Nat→St→Prop)(V:List Nat→Prop)(s:St)(hne:∃ p,V p)(h:∀ p,V p→kopR P E ρ o (F p) s):kopR P E ρ o (fun s'=>∀ p,V p→F p s') s:=by
 obtain⟨p0,hp0⟩:=hne;cases hc:isCallO o.op with
 |false=>
  rw[kopR_call hc];refine kop_conj ?_ F V s ⟨p0,hp0⟩ fun p hp=>by have:=h p hp;rwa [kopR_call hc]at this
  unfold detO;unfold isCallO at hc
  split
  ·rfl
  ·rename_i g xs ts ho;rw[ho]at hc;cases hc
  ·rfl
 |true=>
  unfold isCallO at hc
  split at hc
  ·rename_i g xs ts ho;have hh:∀ p,V p→_:=fun p hp=>by have:=h p hp;unfold kopR at this;rw[ho]at this;exact this
   unfold kopR;rw[ho];exact⟨(hh p0 hp0).1,(hh p0 hp0).2.1,fun r h' hr p hp=>(hh p hp).2.2.1 r h' hr,(hh p0 hp0).2.2.2⟩
  ·cases hc
def DrawE(P:Program)(E:AV→St→Prop)(ops:Array Oper)(Q:Post)(s:St):Prop:=
 DrawK P ops Q s∨(P.follows .mixedOrders=true∧∃ ρ,anyG (kopR P E ρ) ops (ExtC (normK Q)) ops.size (Array.replicate ops.size false) s)
theorem DrawE.pure{P:Program}{E:AV→St→Prop}{ops:Array Oper}{Q:Post}{s:St}(h:DrawK P ops Q s):DrawE P E ops Q s:=.inl h
def kwpG(P:Program)(E:AV→St→Prop):Code→Post→St→Prop
 |.skip,Q,s=>Q .normal s
 |.region _ ops draw,Q,s=>if draw=true then DrawE P E ops Q s else kopsE P E ops ops.toList (normK Q) s
 |.seq a b,Q,s=>kwpG P E a (thenA (kwpG P E b Q) Q) s
 |.cond c x y,Q,s=>CondK (get s.s c) (kwpG P E x Q) (kwpG P E y Q) s
 |.block id c,Q,s=>kwpG P E c (inBlockA id Q) s
 |.loop c,Q,s=>LoopE (fun Q s=>kwpG P E c Q s) Q s
 |.exit id,Q,s=>Q (.exit id) s
 |.ret,Q,s=>Q .ret s
 |.label _,Q,s=>Q .normal s
 |.goto l,Q,s=>Q (.goto l) s
 |.rangeFunc ..,_,_=>False
 |.scope c,Q,s=>kwpG P E c (noGo Q) s
 |.refuse ..,_,_=>False
theorem DrawE.orders{P:Program}{E:AV→St→Prop}{ops:Array Oper}{Q:Post}{s:St}(W:List (List Nat))(ρ:Rho)(hE:∀ v,ExtK (E v))(h1:P.follows .mixedOrders=true)(h2:ordersOk2 (clashE P) ops W=true)(h3:(!W.isEmpty)=true)
  (h4:∀ p∈W,seqT (kopR P E ρ) ops p (normK Q) s):DrawE P E ops Q s:=by
 refine .inr ⟨h1,ρ,?_⟩;have hT:=kopR_ok P hE ρ;have hQ:ExtK (ExtC (normK Q)):=fun s s' he ⟨s2,h1,h2⟩=>⟨s2,eqvS_trans h1 he,h2⟩
 have h4:∀ p∈W,seqT (kopR P E ρ) ops p (ExtC (normK Q)) s:=fun p hp=>seqT_mono (T:=kopR P E ρ) (fun o K K' s hm h=>hT.mono hm h) (K:=normK Q) (fun s h=>(⟨s,eqvS_refl s,h⟩:ExtC (normK Q) s)) p (h4 p hp)
 exact anyG_orders2 hT hQ h2 (fun e=>by rw[e]at h3;cases h3) (.inr fun i o ho F V s hne h=>kopR_conj F V s hne h) h4
section
variable {X:Fix} {φ:List Nat} {st:St} {a:Act} {w:World} {o:Oper} {K:St→Prop} {E:AV→St→Prop}
theorem kopR_sound{ρ:Rho}{Q:Exit→Act→World→Prop}(hQ:∀ φ s v u h a w,SR X φ ⟨s,h⟩ a w→rel v (cx X φ h w) u→E v ⟨s,h⟩→Q (.panic [{ v:=u,recovered:=false }]) a w)(hs:SR X φ st a w)(h:kopR X.P E ρ o K st):o.wp X.P a w (Nx X K) Q:=by
 unfold kopR at h
 split at h
 ·rename_i g xs ts ho
  have hrun0:∀ fn:Func,X.P.funcs[g]?=some fn→fn.body.isSome=true→(fn.name == "runtime.NumGoroutine")=false→(execOp a.eval o).run X.P w=.ok (.enter g (xs.map a.eval)) w:=by
   intro fn hf hb hn;have hb':¬fn.body=none:=by cases hq:fn.body<;>simp[hq]at hb⊢
   have hn':¬fn.name = "runtime.NumGoroutine" :=by simpa using hn
   simp[execOp,ho,resolve,Deferred.ofValue,Act.eval,invoke,callFunc,hf,hn',hb']
  exact callM_sound hQ hs (by rw[Array.toList_map];exact relL_map_get hs _) ⟨h.1,_,h.2.1,h.2.2.1,h.2.2.2⟩ hrun0
 ·exact kop_sound hs h
theorem anyR_sound{ρ:Rho}{ops:Array Oper}{Q:Exit→Act→World→Prop}(hE:∀ φ s v u h a w,SR X φ ⟨s,h⟩ a w→rel v (cx X φ h w) u→E v ⟨s,h⟩→Q (.panic [{ v:=u,recovered:=false }]) a w)(hQ:∀ a w,Nx X K a w→Q .normal a w):
  ∀ (f:Nat) (listed:Array Bool) {φ:List Nat} {st:St} {a:Act} {w:World},SR X φ st a w→anyG (kopR X.P E ρ) ops K f listed st→wpAny X.P .any ops Q f listed a w
 |0,listed,φ,st,a,w,hs,h=>⟨h.1,hQ _ _ ⟨φ,st,hs,h.2⟩⟩
 |f+1,listed,φ,st,a,w,hs,h=>by
  refine⟨fun hr=>hQ _ _ ⟨φ,st,hs,h.1 hr⟩,fun i hi=>?_⟩
  have hi2:i∈List.range ops.size:=by
   simp only[Region.ready,List.mem_filter]at hi;exact hi.1
  obtain⟨o,ho,hg,hk⟩:=h.2 i hi2 (by simpa using hi);unfold wpOp;rw[ho];have hw:Region.wanted o (yielded ops a.tmps)=true:=by simp[Region.wanted,hg]
  simp only[hw,if_true];refine .inl (Oper.wp_mono (fun a2 w2 ⟨φ2,s2,hs2,hk2⟩=>anyR_sound hE hQ f _ hs2 hk2) (kopR_sound hE hs hk))
theorem drawE_sound{ops:Array Oper}{Q:Post}{id:Nat}(hs:SR X φ st a w)(h:DrawE X.P E ops Q st):(Code.region id ops true).wp X.P (QxE X E Q) a w:=by
 rcases h with h|⟨h1,ρ,h3⟩
 ·exact wp_mono (draw_sound hs h) fun e a w hq=>.inl hq
 ·exact wp_region_any h1 (anyR_sound (K:=ExtC (normK Q)) (fun φ s v u h a w hs hr he=>.inr ⟨φ,s,v,u,h,rfl,hs,hr,he⟩) (fun a w ⟨φ',s',hs',s2,he,h'⟩=>.inl ⟨φ',s2,hs'.same he.1.symm he.2.1.symm (fun t=>(he.2.2.2 t).symm) he.2.2.1.symm,h'⟩) _ _ (hs.world ⟨rfl,rfl,rfl,BL _,fun _ _=>rfl⟩) h3)
theorem kwpG_sound:∀ (c:Code) (Q:Post) {φ:List Nat} {st:St} {a:Act} {w:World},SR X φ st a w→kwpG X.P E c Q st→c.wp X.P (QxE X E Q) a w
 |.skip,Q,φ,st,a,w,hs,h=>wp_skip (.inl ⟨φ,st,hs,h⟩)
 |.region id ops draw,Q,φ,st,a,w,hs,h=>by
  simp only[kwpG]at h
  split at h
  ·rename_i hd;subst hd;exact drawE_sound hs h
  ·rename_i hd;have hd':draw=false:=by simpa using hd
   subst hd';refine wp_region (kopsE_sound ops _ (fun φ s v u h a w hs hr he=>.inr ⟨φ,s,v,u,h,rfl,hs,hr,he⟩) ops.toList _ ?_ hs h (fun a w ⟨φ',st',hs',h'⟩=>.inl ⟨φ',st',hs',h'⟩))
   apply List.ext_getElem?
   intro i;simp only[Bm]
   by_cases hi:i<ops.size
   ·simp[hi]
   ·rw[Bq (by simpa using hi),Bq (by simpa using hi)];rfl
 |.seq x y,Q,φ,st,a,w,hs,h=>by
  simp only[kwpG]at h;exact wp_seq (wp_mono (kwpG_sound x _ hs h) fun e a w hq=>QxE_then (fun a w ⟨φ',st',hs',h'⟩=>kwpG_sound y Q hs' h') e a w hq)
 |.cond c x y,Q,φ,st,a,w,hs,h=>by
  simp only[kwpG]at h;unfold CondK at h
  split at h
  ·rename_i z hg;have hc:=hs.get c;rw[hg]at hc;simp only[rel]at hc;exact wp_cond_split hc (fun e=>kwpG_sound x Q hs (h.1 e)) (fun e=>kwpG_sound y Q hs (h.2 e))
  ·exact h.elim
 |.block id c,Q,φ,st,a,w,hs,h=>by
  simp only[kwpG]at h;refine wp_block (wp_mono (kwpG_sound c _ hs h) fun e a w hq=>?_)
  rcases hq with⟨φ',st',hs',hq⟩|⟨φ,s,v,u,h',rfl,k⟩
  ·cases e with
   |exit j=>
    simp only[inBlockA]at hq;simp only[Exit.inBlock]
    split<;>rename_i hj
    ·rw[if_pos hj]at hq;exact .inl ⟨φ',st',hs',hq⟩
    ·rw[if_neg hj]at hq;exact .inl ⟨φ',st',hs',hq⟩
   |_=>exact .inl ⟨φ',st',hs',hq⟩
  ·exact .inr ⟨φ,s,v,u,h',rfl,k⟩
 |.loop c,Q,φ,st,a,w,hs,h=>by
  simp only[kwpG]at h;obtain⟨R,n,s0,hw,hI,hr⟩:=h;refine wp_loopR (fun m a w=>∃ φ' st',SR X φ' st' a w∧R m st') (n:=n) ⟨φ,s0,hs.slotW hw,hI⟩ fun m a w ⟨φ1,s1,hs1,hI1⟩=>?_
  exact wp_mono (kwpG_sound c _ hs1 (hr m s1 hI1)) fun e a w hq=>QxE_then (fun a w ⟨φ2,s2,hs2,m',s3,hw3,hlt,hI3⟩=>⟨m',hlt,φ2,s3,hs2.slotW hw3,hI3⟩) e a w hq
 |.exit id,Q,φ,st,a,w,hs,h=>wp_exit (.inl ⟨φ,st,hs,h⟩)
 |.ret,Q,φ,st,a,w,hs,h=>wp_ret (.inl ⟨φ,st,hs,h⟩)
 |.label l,Q,φ,st,a,w,hs,h=>wp_label (.inl ⟨φ,st,hs,h⟩)
 |.goto l,Q,φ,st,a,w,hs,h=>wp_goto (.inl ⟨φ,st,hs,h⟩)
 |.rangeFunc ..,Q,φ,st,a,w,hs,h=>by simp only[kwpG]at h
 |.scope c,Q,φ,st,a,w,hs,h=>by
  simp only[kwpG]at h;refine wp_scope_labels (fun _ _ _ _=>False) (wp_mono (kwpG_sound c _ hs h) fun e a w hq=>?_) (fun _ _ _ _ h=>h.elim)
  rcases hq with⟨φ',st',hs',hq⟩|⟨φ,s,v,u,h',rfl,k⟩
  ·cases e with
   |goto l=>exact hq.elim
   |_=>exact .inl ⟨φ',st',hs',hq⟩
  ·exact .inr ⟨φ,s,v,u,h',rfl,k⟩
 |.refuse ..,Q,φ,st,a,w,hs,h=>by simp only[kwpG]at h
end
theorem EvM.ofG{P:Program}{γ:List (Nat×AV)}{f:FuncId}{fn:Func}{c:Code}{args:List AV}{h:List ABlk}{R:Out→List ABlk→Prop}(hf:P.funcs[f]?=some fn)(hb:fn.body=some c)
  (hk:kwpG P (panE R) c (endM P fn.results.toList R) ⟨⟨args.length+(fn.ntmps-args.length),idxL 0 args,γ⟩,h⟩):EvM P γ f args h R:=by
 intro X φ s a w vs hP hg hs hargs;subst hP;subst hg;have h0:=hs.enter (fn:=fn) hargs;refine calls_of_wp hf hb (wp_mono (kwpG_sound (X:=X.inl φ h w) c _ h0 hk) fun e a' w' hq=>?_)
 rcases hq with⟨φ',st',hs',hq⟩|⟨φ',s',v,u,h',rfl,hs',hv,hq⟩
 ·have fin:(resS X.P fn.results.toList st' fun xs=>R (.ret (oneOrTup xs)) st'.h)→a'.defers=[]∧∃ v,(results fn a'.tmps).run X.P w'=.ok v w'∧OutR X s a R (.returned v) w':=by
   intro hr;obtain⟨v,xs,h1,h2,h3⟩:=results_run (X:=X.inl φ h w) hs' hr;exact⟨hs'.defers,v,h1,.ret (oneOrTup xs),st'.h,φ',h2,hs.leave hs',v,rfl,h3⟩
  cases e with
  |normal=>exact fin hq
  |ret=>exact fin hq
  |_=>exact hq.elim
 ·exact⟨hs'.defers,.pan v,h',φ',hq,hs.leave hs',u,rfl,hv⟩
section
variable {P:Program} {E:AV→St→Prop} {s:St} {K:St→Prop} {Q:Post} {t:TypeId} {d:Option Tmp} {pos:String} {af:Array Edge} {g:Option (Nat×Bool)} {ops:Array Oper} {os:List Oper}
theorem kG_skip:kwpG P E .skip Q s=Q .normal s:=rfl
theorem kG_region(i:Nat)(ops:Array Oper):kwpG P E (.region i ops false) Q s=kopsE P E ops ops.toList (normK Q) s:=by simp[kwpG]
theorem kG_draw(i:Nat)(ops:Array Oper):kwpG P E (.region i ops true) Q s=DrawE P E ops Q s:=by simp[kwpG]
theorem kG_seq(a b:Code):kwpG P E (.seq a b) Q s=kwpG P E a (thenA (kwpG P E b Q) Q) s:=rfl
theorem kG_cond(c:Operand)(x y:Code):kwpG P E (.cond c x y) Q s=CondK (get s.s c) (kwpG P E x Q) (kwpG P E y Q) s:=rfl
theorem kG_block(id:Nat)(c:Code):kwpG P E (.block id c) Q s=kwpG P E c (inBlockA id Q) s:=rfl
theorem kG_loop(c:Code):kwpG P E (.loop c) Q s=LoopE (fun Q s=>kwpG P E c Q s) Q s:=rfl
theorem kG_exit(id:Nat):kwpG P E (.exit id) Q s=Q (.exit id) s:=rfl
theorem kG_ret:kwpG P E .ret Q s=Q .ret s:=rfl
theorem kG_scope(c:Code):kwpG P E (.scope c) Q s=kwpG P E c (noGo Q) s:=rfl
theorem kG_label(l:Nat):kwpG P E (.label l) Q s=Q .normal s:=rfl
theorem kG_goto(l:Nat):kwpG P E (.goto l) Q s=Q (.goto l) s:=rfl
theorem rR_move{ρ:Rho}(x:Operand):kopR P E ρ ⟨d,.move x,t,pos,af,g⟩ K s=kop P ⟨d,.move x,t,pos,af,g⟩ K s:=rfl
theorem rR_assign{ρ:Rho}(x:Operand):kopR P E ρ ⟨d,.assign x,t,pos,af,g⟩ K s=kop P ⟨d,.assign x,t,pos,af,g⟩ K s:=rfl
theorem rR_alloc{ρ:Rho}(u:TypeId):kopR P E ρ ⟨d,.alloc u,t,pos,af,g⟩ K s=kop P ⟨d,.alloc u,t,pos,af,g⟩ K s:=rfl
theorem rR_box{ρ:Rho}(u:TypeId)(x:Operand):kopR P E ρ ⟨d,.box u x,t,pos,af,g⟩ K s=kop P ⟨d,.box u x,t,pos,af,g⟩ K s:=rfl
theorem rR_build{ρ:Rho}(u:TypeId)(ps:Array (Nat×Operand)):kopR P E ρ ⟨d,.build u ps,t,pos,af,g⟩ K s=kop P ⟨d,.build u ps,t,pos,af,g⟩ K s:=rfl
theorem rR_load{ρ:Rho}(u:TypeId)(x:Operand):kopR P E ρ ⟨d,.load u x,t,pos,af,g⟩ K s=kop P ⟨d,.load u x,t,pos,af,g⟩ K s:=rfl
theorem rR_store{ρ:Rho}(u:TypeId)(x y:Operand):kopR P E ρ ⟨d,.store u x y,t,pos,af,g⟩ K s=kop P ⟨d,.store u x y,t,pos,af,g⟩ K s:=rfl
theorem rR_nilCheck{ρ:Rho}(x:Operand):kopR P E ρ ⟨d,.nilCheck x,t,pos,af,g⟩ K s=kop P ⟨d,.nilCheck x,t,pos,af,g⟩ K s:=rfl
theorem rR_fieldAddr{ρ:Rho}(u:TypeId)(x:Operand)(f:Nat):kopR P E ρ ⟨d,.fieldAddr u x f,t,pos,af,g⟩ K s=kop P ⟨d,.fieldAddr u x f,t,pos,af,g⟩ K s:=rfl
theorem rR_field{ρ:Rho}(u:TypeId)(x:Operand)(f:Nat):kopR P E ρ ⟨d,.field u x f,t,pos,af,g⟩ K s=kop P ⟨d,.field u x f,t,pos,af,g⟩ K s:=rfl
theorem rR_indexAddr{ρ:Rho}(u:TypeId)(x y:Operand):kopR P E ρ ⟨d,.indexAddr u x y,t,pos,af,g⟩ K s=kop P ⟨d,.indexAddr u x y,t,pos,af,g⟩ K s:=rfl
theorem rR_extract{ρ:Rho}(x:Operand)(i:Nat):kopR P E ρ ⟨d,.extract x i,t,pos,af,g⟩ K s=kop P ⟨d,.extract x i,t,pos,af,g⟩ K s:=rfl
theorem rR_slice{ρ:Rho}(u:TypeId)(x:Operand)(lo hi mx:Option Operand):kopR P E ρ ⟨d,.slice u x lo hi mx,t,pos,af,g⟩ K s=kop P ⟨d,.slice u x lo hi mx,t,pos,af,g⟩ K s:=rfl
theorem rR_builtin{ρ:Rho}(b:Builtin)(xs:Array Operand)(ts:Array TypeId):kopR P E ρ ⟨d,.call ⟨.builtin b,xs,ts⟩,t,pos,af,g⟩ K s=kop P ⟨d,.call ⟨.builtin b,xs,ts⟩,t,pos,af,g⟩ K s:=rfl
theorem rR_binOp_tmp{ρ:Rho}(b:BinOp)(u v:TypeId)(x:Operand)(y:Tmp):kopR P E ρ ⟨d,.binOp b u x (.tmp y) v,t,pos,af,g⟩ K s=kop P ⟨d,.binOp b u x (.tmp y) v,t,pos,af,g⟩ K s:=rfl
theorem rR_binOp_int{ρ:Rho}(b:BinOp)(u v:TypeId)(x:Operand)(k:IntKind)(n:Int):kopR P E ρ ⟨d,.binOp b u x (.const (.int k n)) v,t,pos,af,g⟩ K s=kop P ⟨d,.binOp b u x (.const (.int k n)) v,t,pos,af,g⟩ K s:=rfl
theorem rR_binOp_str{ρ:Rho}(b:BinOp)(u v:TypeId)(x:Operand)(y:ByteArray):kopR P E ρ ⟨d,.binOp b u x (.const (.string y)) v,t,pos,af,g⟩ K s=kop P ⟨d,.binOp b u x (.const (.string y)) v,t,pos,af,g⟩ K s:=rfl
theorem rR_convert{ρ:Rho}(u v:TypeId)(x:Operand):kopR P E ρ ⟨d,.convert u v x,t,pos,af,g⟩ K s=kop P ⟨d,.convert u v x,t,pos,af,g⟩ K s:=rfl
theorem rR_unOp{ρ:Rho}(b:UnOp)(u:TypeId)(x:Operand):kopR P E ρ ⟨d,.unOp b u x,t,pos,af,g⟩ K s=kop P ⟨d,.unOp b u x,t,pos,af,g⟩ K s:=rfl
theorem rR_makeIf{ρ:Rho}(u:TypeId)(x:Operand):kopR P E ρ ⟨d,.makeInterface u x,t,pos,af,g⟩ K s=kop P ⟨d,.makeInterface u x,t,pos,af,g⟩ K s:=rfl
end
theorem panE_ext(R:Out→List ABlk→Prop)(v:AV):ExtK (panE R v):=fun s s' he h=>by
 unfold panE at *
 rwa [he.2.2.1]at h
set_option linter.defProp false in
def eG:=And.intro @kG_scope (And.intro @kG_skip (And.intro @kG_region (And.intro @kG_draw (And.intro @kG_seq (And.intro @kG_cond (And.intro @kG_block (And.intro @kG_loop (And.intro @kG_exit (And.intro @kG_ret (And.intro @kG_label @kG_goto))))))))))
set_option linter.defProp false in
def evG:=And.intro eG evE
set_option linter.defProp false in
def evR:=And.intro @rR_move (And.intro @rR_assign (And.intro @rR_alloc (And.intro @rR_box (And.intro @rR_build (And.intro @rR_load (And.intro @rR_store (And.intro @rR_nilCheck (And.intro @rR_fieldAddr (And.intro @rR_field (And.intro @rR_indexAddr (And.intro @rR_extract (And.intro @rR_slice (And.intro @rR_builtin (And.intro @rR_binOp_tmp (And.intro @rR_binOp_int (And.intro @rR_binOp_str (And.intro @rR_convert (And.intro @rR_unOp @rR_makeIf))))))))))))))))))
def DefK(P:Program)(fn:Func)(R:Out→List ABlk→Prop)(c:Code)(st:St):Prop:=
 ∀ (X:Fix) (φ:List Nat) (s:Slots) (h:List ABlk) (a:Act) (w:World) (φ0:List Nat) (a0:Act) (w0:World),X.P=P→SR X φ ⟨s,h⟩ a w→SR (X.inl φ h w) φ0 st a0 w0→c.wp P (bodyPostD P fn (OutR X s a R)) a0 w0
theorem DefK.step{P:Program}{fn:Func}{R:Out→List ABlk→Prop}{x y:Code}{st:St}(hk:kwpE P (fun _ _=>False) x (thenA (DefK P fn R y) (endM P fn.results.toList R)) st):DefK P fn R (.seq x y) st:=by
 intro X φ s h a w φ0 a0 w0 hP hs h0;subst hP;refine wp_seq (wp_mono (kwpE_sound (X:=X.inl φ h w) x _ h0 hk) fun e a2 w2 hq=>?_)
 rcases hq with⟨φ2,st2,hs2,hq⟩|⟨_,_,_,_,_,_,_,_,hq⟩
 ·cases e with
  |normal=>exact hq X φ s h a w φ2 a2 w2 rfl hs hs2
  |ret=>
   have hq:resS X.P fn.results.toList st2 fun xs=>R (.ret (oneOrTup xs)) st2.h:=hq
   obtain⟨v,xs,g1,g2,g3⟩:=results_run (X:=X.inl φ h w) (fn:=fn) hs2 (K:=fun xs=>R (.ret (oneOrTup xs)) st2.h) hq;show Leaves X.P fn a2.tmps (OutR X s a R) a2.defers .returning w2;rw[show a2.defers=[]from hs2.defers];exact⟨v,g1,.ret (oneOrTup xs),st2.h,φ2,g2,hs.leave hs2,v,rfl,g3⟩
  |_=>exact hq.elim
 ·exact hq.elim
theorem DefK.defer{P:Program}{fn:Func}{R:Out→List ABlk→Prop}{i:Nat}{ops:Array Oper}{rest:Code}{st:St}
  (hk:kopsD P ops ops.toList (fun s d=>kwpE P (fun v s=>endD P fn.results.toList R d (some v) s) rest (endDP P fn.results.toList R d) s) st):DefK P fn R (.seq (.region i ops false) rest) st:=by
 intro X φ s h a w φ0 a0 w0 hP hs h0;subst hP;exact defer_core hs h0 hk
theorem EvM.ofDK{P:Program}{γ:List (Nat×AV)}{f:FuncId}{fn:Func}{c:Code}{args:List AV}{h:List ABlk}{R:Out→List ABlk→Prop}(hf:P.funcs[f]?=some fn)(hb:fn.body=some c)
  (hk:DefK P fn R c ⟨⟨args.length+(fn.ntmps-args.length),idxL 0 args,γ⟩,h⟩):EvM P γ f args h R:=by
 intro X φ s a w vs hP hg hs hargs;subst hP;subst hg;exact calls_of_wp_defers hf hb (hk X φ s h a w φ _ _ rfl hs (hs.enter (fn:=fn) hargs))
section
variable {X:Fix} {φ:List Nat} {st:St} {a:Act} {w:World} {E:AV→St→Prop}
theorem run_shapeL(P:Program)(w:World)(r:Nat):(shape r).run P w=.ok (w.shape? r) w:=rfl
theorem op_lit(hs:SR X φ st a w){o1 o2:Oper}{t:TypeId}{n:Nat}{ps:Array (Nat×Operand)}{d1:Tmp}(ho1:o1.op=.buildSlice t n ps)(hd1:o1.dst=some d1)(hlt:d1<st.s.n)(ho2:o2.op=.convert t t (.tmp d1))
  (hu8:(elemT X.P t).bind (intT X.P)=some .u8) {K:St→Prop} {Q:Exit→Act→World→Prop}
  (h:buildSliceA X.P t n ps (get st.s) st fun r s'=>K { s' with s:=putS (putS s'.s (some d1) r) o2.dst r }):o1.wp X.P a w (fun a1 w1=>o2.wp X.P a1 w1 (Nx X K) Q) Q:=by
 have he:execOp a.eval o1=(do pure (.value (←Instr.buildSlice t n (ps.map fun (i,x)=>(i,a.eval x)))):Sem Next):=by simp only[execOp,ho1]
 obtain⟨e,sz,z,h1,h2,h3,h4,h5,h6,h⟩:=h;rw[zeroCells_len]at h4;subst h4;have hps:(ps.map fun (i,x)=>(i,a.eval x)).toList=ps.toList.map fun (i,x)=>(i,a.eval x):=by simp
 have hz0:relL (rowsA z n) (cx X φ st.h w) ((Array.range (n * z.cells.size)).map (z.cells[·% z.cells.size]!)).toList:=by
  have:=madeCells_list z.cells n (by omega);unfold madeCells at this;rw[this];exact relL_rows _ z n
 obtain⟨l',vs',g1,g2,g3,g4⟩:=hs.fill ps.toList (vs:=(Array.range (n * z.cells.size)).map (z.cells[·% z.cells.size]!)) h hz0;have hl':vs'.toList.take l'.length=vs'.toList:=Bt (by rw[relL_length g2];exact BL _)
 have hrun:(Instr.buildSlice t n (ps.map fun (i,x)=>(i,a.eval x))).run X.P w=.ok (.slice (some ⟨w.heap.size,0,none⟩) n n) (w.alloc (.cells vs' e)):=by
  have h6':¬n * z.cells.size>2^24:=by omega
  simp only[Instr.buildSlice,Sem.run_bind,run_underlying (elemT_eq h1),Result.andThen_ok,run_size h2,Sem.run_ite,if_neg h6']
  by_cases h0:n * z.cells.size=0
  ·have e0:(Array.range (n * z.cells.size)).map (z.cells[·% z.cells.size]!)=(Array.range (n * z.cells.size)).map ((#[]:Array Value)[·% (#[]:Array Value).size]!):=by rw[h0];simp
   rw[e0]at g1;rw[if_pos h0];simp only[Sem.run_pure,Result.andThen_ok,hps,g1]
   rfl
  ·rw[if_neg h0];simp only[Sem.run_bind,run_zero h3,Result.andThen_ok,Sem.run_pure,hps,g1]
   rfl
 refine wp_val he hrun ?_
 have hev:(a.put o1.dst (.slice (some ⟨w.heap.size,0,none⟩) n n)).eval (.tmp d1)=.slice (some ⟨w.heap.size,0,none⟩) n n:=by
  rw[hd1];show (a.tmps.setIfInBounds d1 _).getD d1 undef=_;have:d1<a.tmps.size:=by rw[hs.len];exact hlt
  simp[Array.getD,this]
 have he2:execOp (a.put o1.dst (.slice (some ⟨w.heap.size,0,none⟩) n n)).eval o2=(do pure (.value (←convert t t (.slice (some ⟨w.heap.size,0,none⟩) n n))):Sem Next):=by simp only[execOp,ho2,hev]
 have hi8:intT X.P e=some .u8:=by simpa[h1]using hu8
 have hrun2:(convert t t (.slice (some ⟨w.heap.size,0,none⟩) n n)).run X.P (w.alloc (.cells vs' e))=.ok (.slice (some ⟨w.heap.size,0,none⟩) n n) (w.alloc (.cells vs' e (vs'.size,vs'.size+1))):=by
  have hsh:(w.alloc (.cells vs' e)).shape? w.heap.size=some (e,vs'.size):=by
   have:=heap_alloc_new w (.cells vs' e);simp only[World.shape?,this]
  simp only[convert,Sem.run_bind,run_underlying (elemT_eq h1),run_underlying (intT_eq hi8),Result.andThen_ok,beq_self_eq_true];rw[←freeze_alloc w vs' e vs'.size];simp only[markStringish,Sem.run_bind,run_shapeL,Result.andThen_ok,hsh]
  rfl
 refine wp_val he2 hrun2 ?_;obtain⟨hp,_⟩:=hs.push (vs:=vs') (e:=e) (fr:=(vs'.size,vs'.size+1)) (cells:=l') (ver:=0) (by rw[hl'];exact g2) (fun off _=>by simp only;omega)
 have hrel:rel (.own st.h.length 0 n) (cx X (φ++[w.heap.size]) (st.h++[⟨0,e,l'⟩]) (w.alloc (.cells vs' e (vs'.size,vs'.size+1)))) (.slice (some ⟨w.heap.size,0,none⟩) n n):=by
  have hcur:curOf (φ++[w.heap.size]) (st.h++[⟨0,e,l'⟩]) st.h.length=some (⟨0,e,l'⟩,w.heap.size):=curOf_eq.2 ⟨by simp,by rw[←hs.φlen];simp⟩;refine rel_own (X:=X) (φ:=φ++[w.heap.size]) (st:=⟨st.s,st.h++[⟨0,e,l'⟩]⟩) (k:=⟨0,e,l'⟩) (β:=w.heap.size) hcur rfl (BL _) ?_;have h1:=heap_alloc_new w (.cells vs' e (vs'.size,vs'.size+1));simp only[World.shape?,h1];rw[g4,sizeT_cells h2];simp
 have hp1:=hp.put o1.dst (r:=.own st.h.length 0 n) hrel;have hp2:=hp1.put o2.dst (r:=.own st.h.length 0 n) hrel;rw[hd1]at hp2;rw[hd1];exact⟨_,_,hp2,g3⟩
theorem seqE{P:Program}(hP:X.P=P){x y:Code}{Q:Post}(hs:SR X φ st a w)(P1:St→Prop)(hk:kwpE P E x (thenA P1 Q) st)(hy:∀ φ' st' a' w',SR X φ' st' a' w'→P1 st'→y.wp P (QxE X E Q) a' w'):(Code.seq x y).wp P (QxE X E Q) a w:=by
 subst hP;exact wp_seq (wp_mono (kwpE_sound x _ hs hk) fun e a' w' hq=>QxE_then (fun a2 w2 ⟨φ',st',hs',h'⟩=>hy φ' st' a2 w2 hs' h') e a' w' hq)
theorem tailE{P:Program}(hP:X.P=P){x:Code}{Q:Post}(hs:SR X φ st a w)(hk:kwpE P E x Q st):x.wp P (QxE X E Q) a w:=by
 subst hP;exact kwpE_sound x _ hs hk
theorem seqL{P:Program}(hP:X.P=P){id:Nat}{ops:Array Oper}{y:Code}{Q:Post}{o1 o2:Oper}{os:List Oper}(hops:ops.toList=o1::o2::os)(hg1:o1.guard=none)(hg2:o2.guard=none)(hs:SR X φ st a w){t:TypeId}{n:Nat}{ps:Array (Nat×Operand)}{d1:Tmp}
  (ho1:o1.op=.buildSlice t n ps) (hd1:o1.dst=some d1) (hlt:d1<st.s.n) (ho2:o2.op=.convert t t (.tmp d1)) (hu8:(elemT P t).bind (intT P)=some .u8) (P1:St→Prop)
  (h:buildSliceA P t n ps (get st.s) st fun r s'=>kopsE P E ops os P1 { s' with s:=putS (putS s'.s (some d1) r) o2.dst r })
  (hy:∀ φ' st' a' w',SR X φ' st' a' w'→P1 st'→y.wp P (QxE X E Q) a' w'):(Code.seq (.region id ops false) y).wp P (QxE X E Q) a w:=by
 subst hP;refine wp_seq (wp_region ?_);have hsz:ops.size=os.length+2:=by rw[←Array.length_toList,hops];rfl
 have hget:∀ i,ops[i]?=(o1::o2::os)[i]?:=fun i=>by rw[←hops,Array.getElem?_toList]
 have hr:List.range ops.size=0::1::(List.range os.length).map (·+ 2):=by
  rw[hsz]
  apply List.ext_getElem?
  intro i
  match i with
  |0=>simp
  |1=>simp
  |i+2=>simp only[Bu,Bm];by_cases hi:i<os.length<;>simp[hi]
 rw[hr];have hw1:Region.wanted o1 (yielded ops a.tmps)=true:=by simp[Region.wanted,hg1]
 simp only[wpOps,hget,Bz,Bu];rw[if_pos hw1];refine .inl (Oper.wp_mono (fun a1 w1 h2=>?_) (op_lit hs ho1 hd1 hlt ho2 hu8 h));have hw2:Region.wanted o2 (yielded ops a1.tmps)=true:=by simp[Region.wanted,hg2]
 rw[if_pos hw2];refine .inl (Oper.wp_mono (fun a2 w2 h3=>?_) h2);obtain⟨φ',st',hs',h'⟩:=h3;refine kopsE_sound ops _ (fun φ s v u h a w hs hr he=>.inr ⟨φ,s,v,u,h,rfl,hs,hr,he⟩) os _ ?_ hs' h' (fun a w ⟨φ',st',hs',h'⟩=>?_)
 ·apply List.ext_getElem?
  intro i;simp only[List.map_map,Bm]
  by_cases hi:i<os.length
  ·simp[hi,hget]
  ·simp[hi]
 ·exact hy φ' st' a w hs' h'
theorem Ev.ofQ{P:Program}{γ:List (Nat×AV)}{f:FuncId}{fn:Func}{c:Code}{args:List AV}{res:AV}(hf:P.funcs[f]?=some fn)(hb:fn.body=some c)
  (h:∀ (X:Fix),X.P=P→∀ {a:Act} {w:World},SR X [] (startA γ args fn.ntmps) a w→c.wp P (QxE X (fun _ _=>False) (endS P fn.results.toList res)) a w):Ev P γ f args res:=
 Ev.of_wp hf hb fun X hP h0 _ _ hs=>by
  refine wp_mono (h X hP hs) fun e a w hq=>?_
  rcases hq with⟨φ,s,hs,hq⟩|⟨φ,s,v,u,h,_,_,_,hq⟩
  ·exact⟨φ,s,hs,endS_endA hq⟩
  ·exact hq.elim
end
end Go.Ev
