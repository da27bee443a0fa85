/- The evaluator: abstract values, and code carried out on them. -/
import Derived.Test.YtlobiioioicmhaaGreatDoorAU8
set_option linter.all false
set_option maxHeartbeats 8000000
namespace Go.Ev
open _root_.List renaming getElem?_map→Bm,getElem?_eq_none→Bq
open _root_.Nat renaming le_refl→BL
open Go Go.RowKit
abbrev K9:=FuncId→List AV→List (Nat×AV)→List Aa→Out→List Aa→Prop
def Jp:Op→Bool
 |.call ⟨.value (.func _),_,_⟩=>true
 |_=>false
def DF(P:Program)(E:AV→St→Prop)(ρ:K9)(o:Oper)(K:St→Prop)(s:St):Prop:=
 match o.op with
 |.call ⟨.value (.func g),xs,_⟩=>Al P g∧Ce P s.s.g g (xs.toList.map (get s.s)) s.h (ρ g (xs.toList.map (get s.s)) s.s.g s.h)∧
   (∀ r h',ρ g (xs.toList.map (get s.s)) s.s.g s.h (.ret r) h'→K (pt ⟨s.s,h'⟩ o.dst r))∧∀ v h',ρ g (xs.toList.map (get s.s)) s.s.g s.h (.pan v) h'→E v ⟨s.s,h'⟩
 |_=>B7 P o K s
def SL(P:Program)(x y:Oper):Bool:=Jp x.op || Jp y.op || Iw P x y
theorem Gr{P:Program}{E:AV→St→Prop}{ρ:K9}{o:Oper}(h:Jp o.op=false)(K:St→Prop)(s:St):DF P E ρ o K s=B7 P o K s:=by
 unfold DF
 split
 ·rename_i g xs ts ho;rw[ho]at h;cases h
 ·rfl
theorem TC{s s':St}(h:NV s s')(xs:Array Operand):xs.toList.map (get s.s)=xs.toList.map (get s'.s):=List.map_congr_left fun x _=>RA h x
theorem cN(P:Program){E:AV→St→Prop}(hE:∀ v,HI (E v))(ρ:K9):iY (DF P E ρ) (SL P):=by
 refine⟨fun {o K K' s} hm h=>?_,fun {o K} hK s s' he h=>?_,fun {x y K s} hc hK h=>?_⟩
 ·unfold DF at h⊢
  split
  ·rename_i g xs ts ho;rw[ho]at h;exact⟨h.1,h.2.1,fun r h' hr=>hm _ (h.2.2.1 r h' hr),h.2.2.2⟩
  ·rename_i hn
   have:B7 P o K s:=by
    split at h
    ·rename_i g xs ts ho;exact absurd ho (hn g xs ts)
    ·exact h
   exact I6 hm this
 ·unfold DF at h⊢;have hg:=he.2.1;have hh:=he.2.2.1
  split
  ·rename_i g xs ts ho;rw[ho]at h;simp only at h;rw[TC he,hg,hh]at h;exact⟨h.1,h.2.1,fun r h' hr=>hK _ _ (Us he.1 he.2.1 he.2.2.2 h' o.dst r) (h.2.2.1 r h' hr),fun v h' hr=>hE v ⟨s.s,h'⟩ ⟨s'.s,h'⟩ ⟨he.1,he.2.1,rfl,he.2.2.2⟩ (h.2.2.2 v h' hr)⟩
  ·rename_i hn
   have:B7 P o K s:=by
    split at h
    ·rename_i g xs ts ho;exact absurd ho (hn g xs ts)
    ·exact h
   exact UH hK s s' he this
 ·simp only[SL,Bool.or_eq_false_iff]at hc;obtain⟨⟨h1,h2⟩,h3⟩:=hc;rw[Gr h1]at h;have e:DF P E ρ y K=B7 P y K:=funext fun s=>Gr h2 K s
  rw[e]at h;rw[Gr h2];have e:DF P E ρ x K=B7 P x K:=funext fun s=>Gr h1 K s
  rw[e];exact Rt h3 hK h
theorem Vj{P:Program}{E:AV→St→Prop}{ρ:K9}{o:Oper}(F:List Nat→St→Prop)(V:List Nat→Prop)(s:St)(hne:∃ p,V p)(h:∀ p,V p→DF P E ρ o (F p) s):DF P E ρ o (fun s'=>∀ p,V p→F p s') s:=by
 obtain⟨p0,hp0⟩:=hne;cases hc:Jp o.op with
 |false=>
  rw[Gr hc];refine MV ?_ F V s ⟨p0,hp0⟩ fun p hp=>by have:=h p hp;rwa [Gr hc]at this
  unfold gZ;unfold Jp at hc
  split
  ·rfl
  ·rename_i g xs ts ho;rw[ho]at hc;cases hc
  ·rfl
 |true=>
  unfold Jp at hc
  split at hc
  ·rename_i g xs ts ho;have hh:∀ p,V p→_:=fun p hp=>by have:=h p hp;unfold DF at this;rw[ho]at this;exact this
   unfold DF;rw[ho];exact⟨(hh p0 hp0).1,(hh p0 hp0).2.1,fun r h' hr p hp=>(hh p hp).2.2.1 r h' hr,(hh p0 hp0).2.2.2⟩
  ·cases hc
def CR(P:Program)(E:AV→St→Prop)(ops:Array Oper)(Q:AQ)(s:St):Prop:=
 Cp P ops Q s∨(P.follows .mixedOrders=true∧∃ ρ,RU (DF P E ρ) ops (Kx (Cq Q)) ops.size (Array.replicate ops.size false) s)
theorem CR.pure{P:Program}{E:AV→St→Prop}{ops:Array Oper}{Q:AQ}{s:St}(h:Cp P ops Q s):CR P E ops Q s:=.inl h
def DE(P:Program)(E:AV→St→Prop):Code→AQ→St→Prop
 |.skip,Q,s=>Q .normal s
 |.region _ ops draw,Q,s=>if draw=true then CR P E ops Q s else En P E ops ops.toList (Cq Q) s
 |.seq a b,Q,s=>DE P E a (FJ (DE P E b Q) Q) s
 |.cond c x y,Q,s=>B5 (get s.s c) (DE P E x Q) (DE P E y Q) s
 |.block id c,Q,s=>DE P E c (De id Q) s
 |.loop c,Q,s=>C1 (fun Q s=>DE P E c Q s) Q s
 |.exit id,Q,s=>Q (.exit id) s
 |.ret,Q,s=>Q .ret s
 |.label _,Q,s=>Q .normal s
 |.goto l,Q,s=>Q (.goto l) s
 |.rangeFunc ..,_,_=>False
 |.scope c,Q,s=>DE P E c (Tz Q) s
 |.refuse ..,_,_=>False
theorem CR.orders{P:Program}{E:AV→St→Prop}{ops:Array Oper}{Q:AQ}{s:St}(W:List (List Nat))(ρ:K9)(hE:∀ v,HI (E v))(h1:P.follows .mixedOrders=true)(h2:Gn (SL P) ops W=true)(h3:(!W.isEmpty)=true)
  (h4:∀ p∈W,CQ (DF P E ρ) ops p (Cq Q) s):CR P E ops Q s:=by
 refine .inr ⟨h1,ρ,?_⟩;have hT:=cN P hE ρ;have hQ:HI (Kx (Cq Q)):=fun s s' he ⟨s2,h1,h2⟩=>⟨s2,JJ h1 he,h2⟩
 have h4:∀ p∈W,CQ (DF P E ρ) ops p (Kx (Cq Q)) s:=fun p hp=>Jo (T:=DF P E ρ) (fun o K K' s hm h=>hT.mono hm h) (K:=Cq Q) (fun s h=>(⟨s,Lb s,h⟩:Kx (Cq Q) s)) p (h4 p hp)
 exact K3 hT hQ h2 (fun e=>by rw[e]at h3;cases h3) (.inr fun i o ho F V s hne h=>Vj F V s hne h) h4
section
variable {X:Fix} {φ:List Nat} {st:St} {a:Act} {w:World} {o:Oper} {K:St→Prop} {E:AV→St→Prop}
theorem Tg{ρ:K9}{Q:Exit→Act→World→Prop}(hQ:∀ φ s v u h a w,SR X φ ⟨s,h⟩ a w→rel v (cx X φ h w) u→E v ⟨s,h⟩→Q (.panic [{ v:=u,recovered:=false }]) a w)(hs:SR X φ st a w)(h:DF X.P E ρ o K st):o.wp X.P a w (Nx X K) Q:=by
 unfold DF at h
 split at h
 ·rename_i g xs ts ho
  have hrun0:∀ fn:Func,X.P.funcs[g]?=some fn→fn.body.isSome=true→(fn.name == "runtime.NumGoroutine")=false→(execOp a.eval o).run X.P w=.ok (.enter g (xs.map a.eval)) w:=by
   intro fn hf hb hn;have hb':¬fn.body=none:=by cases hq:fn.body<;>simp[hq]at hb⊢
   have hn':¬fn.name = "runtime.NumGoroutine" :=by simpa using hn
   simp[execOp,ho,resolve,Deferred.ofValue,Act.eval,invoke,callFunc,hf,hn',hb']
  exact Hh hQ hs (by rw[Array.toList_map];exact CE hs _) ⟨h.1,_,h.2.1,h.2.2.1,h.2.2.2⟩ hrun0
 ·exact Ek hs h
theorem NA{ρ:K9}{ops:Array Oper}{Q:Exit→Act→World→Prop}(hE:∀ φ s v u h a w,SR X φ ⟨s,h⟩ a w→rel v (cx X φ h w) u→E v ⟨s,h⟩→Q (.panic [{ v:=u,recovered:=false }]) a w)(hQ:∀ a w,Nx X K a w→Q .normal a w):
  ∀ (f:Nat) (listed:Array Bool) {φ:List Nat} {st:St} {a:Act} {w:World},SR X φ st a w→RU (DF X.P E ρ) ops K f listed st→wpAny X.P .any ops Q f listed a w
 |0,listed,φ,st,a,w,hs,h=>⟨h.1,hQ _ _ ⟨φ,st,hs,h.2⟩⟩
 |f+1,listed,φ,st,a,w,hs,h=>by
  refine⟨fun hr=>hQ _ _ ⟨φ,st,hs,h.1 hr⟩,fun i hi=>?_⟩
  have hi2:i∈List.range ops.size:=by
   simp only[Region.ready,List.mem_filter]at hi;exact hi.1
  obtain⟨o,ho,hg,hk⟩:=h.2 i hi2 (by simpa using hi);unfold wpOp;rw[ho];have hw:Region.wanted o (yielded ops a.tmps)=true:=by simp[Region.wanted,hg]
  simp only[hw,if_true];refine .inl (Oper.wp_mono (fun a2 w2 ⟨φ2,s2,hs2,hk2⟩=>NA hE hQ f _ hs2 hk2) (Tg hE hs hk))
theorem RI{ops:Array Oper}{Q:AQ}{id:Nat}(hs:SR X φ st a w)(h:CR X.P E ops Q st):(Code.region id ops true).wp X.P (kW X E Q) a w:=by
 rcases h with h|⟨h1,ρ,h3⟩
 ·exact wp_mono (J5 hs h) fun e a w hq=>.inl hq
 ·exact wp_region_any h1 (NA (K:=Kx (Cq Q)) (fun φ s v u h a w hs hr he=>.inr ⟨φ,s,v,u,h,rfl,hs,hr,he⟩) (fun a w ⟨φ',s',hs',s2,he,h'⟩=>.inl ⟨φ',s2,hs'.same he.1.symm he.2.1.symm (fun t=>(he.2.2.2 t).symm) he.2.2.1.symm,h'⟩) _ _ (hs.world ⟨rfl,rfl,rfl,BL _,fun _ _=>rfl⟩) h3)
theorem DH:∀ (c:Code) (Q:AQ) {φ:List Nat} {st:St} {a:Act} {w:World},SR X φ st a w→DE X.P E c Q st→c.wp X.P (kW X E Q) a w
 |.skip,Q,φ,st,a,w,hs,h=>wp_skip (.inl ⟨φ,st,hs,h⟩)
 |.region id ops draw,Q,φ,st,a,w,hs,h=>by
  simp only[DE]at h
  split at h
  ·rename_i hd;subst hd;exact RI hs h
  ·rename_i hd;have hd':draw=false:=by simpa using hd
   subst hd';refine wp_region (FK ops _ (fun φ s v u h a w hs hr he=>.inr ⟨φ,s,v,u,h,rfl,hs,hr,he⟩) ops.toList _ ?_ hs h (fun a w ⟨φ',st',hs',h'⟩=>.inl ⟨φ',st',hs',h'⟩))
   apply List.ext_getElem?
   intro i;simp only[Bm]
   by_cases hi:i<ops.size
   ·simp[hi]
   ·rw[Bq (by simpa using hi),Bq (by simpa using hi)];rfl
 |.seq x y,Q,φ,st,a,w,hs,h=>by
  simp only[DE]at h;exact wp_seq (wp_mono (DH x _ hs h) fun e a w hq=>Kt (fun a w ⟨φ',st',hs',h'⟩=>DH y Q hs' h') e a w hq)
 |.cond c x y,Q,φ,st,a,w,hs,h=>by
  simp only[DE]at h;unfold B5 at h
  split at h
  ·rename_i z hg;have hc:=hs.get c;rw[hg]at hc;simp only[rel]at hc;exact wp_cond_split hc (fun e=>DH x Q hs (h.1 e)) (fun e=>DH y Q hs (h.2 e))
  ·exact h.elim
 |.block id c,Q,φ,st,a,w,hs,h=>by
  simp only[DE]at h;refine wp_block (wp_mono (DH c _ hs h) fun e a w hq=>?_)
  rcases hq with⟨φ',st',hs',hq⟩|⟨φ,s,v,u,h',rfl,k⟩
  ·cases e with
   |exit j=>
    simp only[De]at hq;simp only[Exit.inBlock]
    split<;>rename_i hj
    ·rw[if_pos hj]at hq;exact .inl ⟨φ',st',hs',hq⟩
    ·rw[if_neg hj]at hq;exact .inl ⟨φ',st',hs',hq⟩
   |_=>exact .inl ⟨φ',st',hs',hq⟩
  ·exact .inr ⟨φ,s,v,u,h',rfl,k⟩
 |.loop c,Q,φ,st,a,w,hs,h=>by
  simp only[DE]at h;obtain⟨R,n,s0,hw,hI,hr⟩:=h;refine Mx (fun m a w=>∃ φ' st',SR X φ' st' a w∧R m st') (n:=n) ⟨φ,s0,hs.slotW hw,hI⟩ fun m a w ⟨φ1,s1,hs1,hI1⟩=>?_
  exact wp_mono (DH c _ hs1 (hr m s1 hI1)) fun e a w hq=>Kt (fun a w ⟨φ2,s2,hs2,m',s3,hw3,hlt,hI3⟩=>⟨m',hlt,φ2,s3,hs2.slotW hw3,hI3⟩) e a w hq
 |.exit id,Q,φ,st,a,w,hs,h=>wp_exit (.inl ⟨φ,st,hs,h⟩)
 |.ret,Q,φ,st,a,w,hs,h=>wp_ret (.inl ⟨φ,st,hs,h⟩)
 |.label l,Q,φ,st,a,w,hs,h=>wp_label (.inl ⟨φ,st,hs,h⟩)
 |.goto l,Q,φ,st,a,w,hs,h=>wp_goto (.inl ⟨φ,st,hs,h⟩)
 |.rangeFunc ..,Q,φ,st,a,w,hs,h=>by simp only[DE]at h
 |.scope c,Q,φ,st,a,w,hs,h=>by
  simp only[DE]at h;refine FR (fun _ _ _ _=>False) (wp_mono (DH c _ hs h) fun e a w hq=>?_) (fun _ _ _ _ h=>h.elim)
  rcases hq with⟨φ',st',hs',hq⟩|⟨φ,s,v,u,h',rfl,k⟩
  ·cases e with
   |goto l=>exact hq.elim
   |_=>exact .inl ⟨φ',st',hs',hq⟩
  ·exact .inr ⟨φ,s,v,u,h',rfl,k⟩
 |.refuse ..,Q,φ,st,a,w,hs,h=>by simp only[DE]at h
end
theorem Ce.ofG{P:Program}{γ:List (Nat×AV)}{f:FuncId}{fn:Func}{c:Code}{args:List AV}{h:List Aa}{R:Out→List Aa→Prop}(hf:P.funcs[f]?=some fn)(hb:fn.body=some c)
  (hk:DE P (Wv R) c (XN P fn.results.toList R) ⟨⟨args.length+(fn.ntmps-args.length),GB 0 args,γ⟩,h⟩):Ce P γ f args h R:=by
 intro X φ s a w vs hP hg hs hargs;subst hP;subst hg;have h0:=hs.enter (fn:=fn) hargs;refine calls_of_wp hf hb (wp_mono (DH (X:=X.inl φ h w) c _ h0 hk) fun e a' w' hq=>?_)
 rcases hq with⟨φ',st',hs',hq⟩|⟨φ',s',v,u,h',rfl,hs',hv,hq⟩
 ·have fin:(FV X.P fn.results.toList st' fun xs=>R (.ret (AF xs)) st'.h)→a'.defers=[]∧∃ v,(results fn a'.tmps).run X.P w'=.ok v w'∧Sd X s a R (.returned v) w':=by
   intro hr;obtain⟨v,xs,h1,h2,h3⟩:=FH (X:=X.inl φ h w) hs' hr;exact⟨hs'.defers,v,h1,.ret (AF xs),st'.h,φ',h2,hs.leave hs',v,rfl,h3⟩
  cases e with
  |normal=>exact fin hq
  |ret=>exact fin hq
  |_=>exact hq.elim
 ·exact⟨hs'.defers,.pan v,h',φ',hq,hs.leave hs',u,rfl,hv⟩
theorem Ev.ofG{P:Program}{γ:List (Nat×AV)}{f:FuncId}{fn:Func}{c:Code}{args:List AV}{res:AV}(hf:P.funcs[f]?=some fn)(hb:fn.body=some c)
  (h:DE P (fun _ _=>False) c (M9 P fn.results.toList res) (E6 γ args fn.ntmps)):Ev P γ f args res:=
 Ev.of_wp hf hb fun X hP h0 _ _ hs=>by
  subst hP;refine wp_mono (DH c _ hs h) fun e a w hq=>?_
  rcases hq with⟨φ,s,hs,hq⟩|⟨φ,s,v,u,h,_,_,_,hq⟩
  ·exact⟨φ,s,hs,Jl hq⟩
  ·exact hq.elim
section
variable {P:Program} {E:AV→St→Prop} {s:St} {K:St→Prop} {Q:AQ} {t:TypeId} {d:Option Tmp} {pos:String} {af:Array Edge} {g:Option (Nat×Bool)} {ops:Array Oper} {os:List Oper}
theorem cU:DE P E .skip Q s=Q .normal s:=rfl
theorem Vv(i:Nat)(ops:Array Oper):DE P E (.region i ops false) Q s=En P E ops ops.toList (Cq Q) s:=by simp[DE]
theorem bL(i:Nat)(ops:Array Oper):DE P E (.region i ops true) Q s=CR P E ops Q s:=by simp[DE]
theorem gV(a b:Code):DE P E (.seq a b) Q s=DE P E a (FJ (DE P E b Q) Q) s:=rfl
theorem ZN(c:Operand)(x y:Code):DE P E (.cond c x y) Q s=B5 (get s.s c) (DE P E x Q) (DE P E y Q) s:=rfl
theorem X4(id:Nat)(c:Code):DE P E (.block id c) Q s=DE P E c (De id Q) s:=rfl
theorem cB(c:Code):DE P E (.loop c) Q s=C1 (fun Q s=>DE P E c Q s) Q s:=rfl
theorem bF(id:Nat):DE P E (.exit id) Q s=Q (.exit id) s:=rfl
theorem gY:DE P E .ret Q s=Q .ret s:=rfl
theorem Xk(c:Code):DE P E (.scope c) Q s=DE P E c (Tz Q) s:=rfl
theorem XO(l:Nat):DE P E (.label l) Q s=Q .normal s:=rfl
theorem Z6(l:Nat):DE P E (.goto l) Q s=Q (.goto l) s:=rfl
theorem cG{ρ:K9}(x:Operand):DF P E ρ ⟨d,.move x,t,pos,af,g⟩ K s=B7 P ⟨d,.move x,t,pos,af,g⟩ K s:=rfl
theorem Vx{ρ:K9}(x:Operand):DF P E ρ ⟨d,.assign x,t,pos,af,g⟩ K s=B7 P ⟨d,.assign x,t,pos,af,g⟩ K s:=rfl
theorem XE{ρ:K9}(u:TypeId):DF P E ρ ⟨d,.alloc u,t,pos,af,g⟩ K s=B7 P ⟨d,.alloc u,t,pos,af,g⟩ K s:=rfl
theorem eK{ρ:K9}(u:TypeId)(x:Operand):DF P E ρ ⟨d,.box u x,t,pos,af,g⟩ K s=B7 P ⟨d,.box u x,t,pos,af,g⟩ K s:=rfl
theorem Yz{ρ:K9}(u:TypeId)(ps:Array (Nat×Operand)):DF P E ρ ⟨d,.build u ps,t,pos,af,g⟩ K s=B7 P ⟨d,.build u ps,t,pos,af,g⟩ K s:=rfl
theorem bT{ρ:K9}(u:TypeId)(x:Operand):DF P E ρ ⟨d,.load u x,t,pos,af,g⟩ K s=B7 P ⟨d,.load u x,t,pos,af,g⟩ K s:=rfl
theorem Xi{ρ:K9}(u:TypeId)(x y:Operand):DF P E ρ ⟨d,.store u x y,t,pos,af,g⟩ K s=B7 P ⟨d,.store u x y,t,pos,af,g⟩ K s:=rfl
theorem Rn{ρ:K9}(x:Operand):DF P E ρ ⟨d,.nilCheck x,t,pos,af,g⟩ K s=B7 P ⟨d,.nilCheck x,t,pos,af,g⟩ K s:=rfl
theorem PM{ρ:K9}(u:TypeId)(x:Operand)(f:Nat):DF P E ρ ⟨d,.fieldAddr u x f,t,pos,af,g⟩ K s=B7 P ⟨d,.fieldAddr u x f,t,pos,af,g⟩ K s:=rfl
theorem Y4{ρ:K9}(u:TypeId)(x:Operand)(f:Nat):DF P E ρ ⟨d,.field u x f,t,pos,af,g⟩ K s=B7 P ⟨d,.field u x f,t,pos,af,g⟩ K s:=rfl
theorem P5{ρ:K9}(u:TypeId)(x y:Operand):DF P E ρ ⟨d,.indexAddr u x y,t,pos,af,g⟩ K s=B7 P ⟨d,.indexAddr u x y,t,pos,af,g⟩ K s:=rfl
theorem TF{ρ:K9}(x:Operand)(i:Nat):DF P E ρ ⟨d,.extract x i,t,pos,af,g⟩ K s=B7 P ⟨d,.extract x i,t,pos,af,g⟩ K s:=rfl
theorem XK{ρ:K9}(u:TypeId)(x:Operand)(lo hi mx:Option Operand):DF P E ρ ⟨d,.slice u x lo hi mx,t,pos,af,g⟩ K s=B7 P ⟨d,.slice u x lo hi mx,t,pos,af,g⟩ K s:=rfl
theorem Uq{ρ:K9}(b:Builtin)(xs:Array Operand)(ts:Array TypeId):DF P E ρ ⟨d,.call ⟨.builtin b,xs,ts⟩,t,pos,af,g⟩ K s=B7 P ⟨d,.call ⟨.builtin b,xs,ts⟩,t,pos,af,g⟩ K s:=rfl
theorem Qu{ρ:K9}(b:BinOp)(u v:TypeId)(x:Operand)(y:Tmp):DF P E ρ ⟨d,.binOp b u x (.tmp y) v,t,pos,af,g⟩ K s=B7 P ⟨d,.binOp b u x (.tmp y) v,t,pos,af,g⟩ K s:=rfl
theorem Qy{ρ:K9}(b:BinOp)(u v:TypeId)(x:Operand)(k:IntKind)(n:Int):DF P E ρ ⟨d,.binOp b u x (.const (.int k n)) v,t,pos,af,g⟩ K s=B7 P ⟨d,.binOp b u x (.const (.int k n)) v,t,pos,af,g⟩ K s:=rfl
theorem Pm{ρ:K9}(b:BinOp)(u v:TypeId)(x:Operand)(y:ByteArray):DF P E ρ ⟨d,.binOp b u x (.const (.string y)) v,t,pos,af,g⟩ K s=B7 P ⟨d,.binOp b u x (.const (.string y)) v,t,pos,af,g⟩ K s:=rfl
theorem Tw{ρ:K9}(u v:TypeId)(x:Operand):DF P E ρ ⟨d,.convert u v x,t,pos,af,g⟩ K s=B7 P ⟨d,.convert u v x,t,pos,af,g⟩ K s:=rfl
theorem ZX{ρ:K9}(b:UnOp)(u:TypeId)(x:Operand):DF P E ρ ⟨d,.unOp b u x,t,pos,af,g⟩ K s=B7 P ⟨d,.unOp b u x,t,pos,af,g⟩ K s:=rfl
theorem VY{ρ:K9}(u:TypeId)(x:Operand):DF P E ρ ⟨d,.makeInterface u x,t,pos,af,g⟩ K s=B7 P ⟨d,.makeInterface u x,t,pos,af,g⟩ K s:=rfl
end
theorem Ey(R:Out→List Aa→Prop)(v:AV):HI (Wv R v):=fun s s' he h=>by
 unfold Wv at *
 rwa [he.2.2.1]at h
theorem aD(v:AV):HI ((fun (_:AV) (_:St)=>False) v):=fun s s' he h=>h
set_option linter.defProp false in
def eG:=And.intro @Xk (And.intro @cU (And.intro @Vv (And.intro @bL (And.intro @gV (And.intro @ZN (And.intro @X4 (And.intro @cB (And.intro @bF (And.intro @gY (And.intro @XO @Z6))))))))))
set_option linter.defProp false in
def CP:=And.intro eG Af
set_option linter.defProp false in
def WQ:=And.intro @cG (And.intro @Vx (And.intro @XE (And.intro @eK (And.intro @Yz (And.intro @bT (And.intro @Xi (And.intro @Rn (And.intro @PM (And.intro @Y4 (And.intro @P5 (And.intro @TF (And.intro @XK (And.intro @Uq (And.intro @Qu (And.intro @Qy (And.intro @Pm (And.intro @Tw (And.intro @ZX @VY))))))))))))))))))
def L8(P:Program)(fn:Func)(R:Out→List Aa→Prop)(c:Code)(st:St):Prop:=
 ∀ (X:Fix) (φ:List Nat) (s:CI) (h:List Aa) (a:Act) (w:World) (φ0:List Nat) (a0:Act) (w0:World),X.P=P→SR X φ ⟨s,h⟩ a w→SR (X.inl φ h w) φ0 st a0 w0→c.wp P (bodyPostD P fn (Sd X s a R)) a0 w0
theorem L8.step{P:Program}{fn:Func}{R:Out→List Aa→Prop}{x y:Code}{st:St}(hk:Df P (fun _ _=>False) x (FJ (L8 P fn R y) (XN P fn.results.toList R)) st):L8 P fn R (.seq x y) st:=by
 intro X φ s h a w φ0 a0 w0 hP hs h0;subst hP;refine wp_seq (wp_mono (C6 (X:=X.inl φ h w) x _ h0 hk) fun e a2 w2 hq=>?_)
 rcases hq with⟨φ2,st2,hs2,hq⟩|⟨_,_,_,_,_,_,_,_,hq⟩
 ·cases e with
  |normal=>exact hq X φ s h a w φ2 a2 w2 rfl hs hs2
  |ret=>
   have hq:FV X.P fn.results.toList st2 fun xs=>R (.ret (AF xs)) st2.h:=hq
   obtain⟨v,xs,g1,g2,g3⟩:=FH (X:=X.inl φ h w) (fn:=fn) hs2 (K:=fun xs=>R (.ret (AF xs)) st2.h) hq;show Leaves X.P fn a2.tmps (Sd X s a R) a2.defers .returning w2;rw[show a2.defers=[]from hs2.defers];exact⟨v,g1,.ret (AF xs),st2.h,φ2,g2,hs.leave hs2,v,rfl,g3⟩
  |_=>exact hq.elim
 ·exact hq.elim
theorem L8.defer{P:Program}{fn:Func}{R:Out→List Aa→Prop}{i:Nat}{ops:Array Oper}{rest:Code}{st:St}
  (hk:Nr P ops ops.toList (fun s d=>Df P (fun v s=>MW P fn.results.toList R d (some v) s) rest (U8 P fn.results.toList R d) s) st):L8 P fn R (.seq (.region i ops false) rest) st:=by
 intro X φ s h a w φ0 a0 w0 hP hs h0;subst hP;exact NB hs h0 hk
theorem Ce.ofDK{P:Program}{γ:List (Nat×AV)}{f:FuncId}{fn:Func}{c:Code}{args:List AV}{h:List Aa}{R:Out→List Aa→Prop}(hf:P.funcs[f]?=some fn)(hb:fn.body=some c)
  (hk:L8 P fn R c ⟨⟨args.length+(fn.ntmps-args.length),GB 0 args,γ⟩,h⟩):Ce P γ f args h R:=by
 intro X φ s a w vs hP hg hs hargs;subst hP;subst hg;exact calls_of_wp_defers hf hb (hk X φ s h a w φ _ _ rfl hs (hs.enter (fn:=fn) hargs))
end Go.Ev
