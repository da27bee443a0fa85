/- The evaluator: abstract values, and code carried out on them. -/
import Derived.Test.YtlobiioioicmhaaGreatDoorCU8
set_option linter.all false
set_option maxHeartbeats 8000000
namespace Go.Ev
open _root_.List renaming getElem?_map→Bm,getElem?_eq_none→Bq
open _root_.Nat renaming le_refl→BL
open Go Go.RowKit
abbrev Lt:=FuncId→List AV→List (Nat×AV)→List Aa→Out→List Aa→Prop
def J5:Op→Bool
 |.call ⟨.value (.func _),_,_⟩=>true
 |_=>false
def DU(P:Program)(E:AV→St→Prop)(ρ:Lt)(o:Oper)(K:St→Prop)(s:St):Prop:=
 match o.op with
 |.call ⟨.value (.func g),xs,_⟩=>Ak P g∧Ck P s.s.g g (xs.toList.map (get s.s)) s.h (ρ g (xs.toList.map (get s.s)) s.s.g s.h)∧
   (∀ r h',ρ g (xs.toList.map (get s.s)) s.s.g s.h (.ret r) h'→K (pt ⟨s.s,h'⟩ o.dst r))∧∀ v h',ρ g (xs.toList.map (get s.s)) s.s.g s.h (.pan v) h'→E v ⟨s.s,h'⟩
 |_=>Cb P o K s
def Ui(P:Program)(x y:Oper):Bool:=J5 x.op || J5 y.op || Jj P x y
theorem GR{P:Program}{E:AV→St→Prop}{ρ:Lt}{o:Oper}(h:J5 o.op=false)(K:St→Prop)(s:St):DU P E ρ o K s=Cb P o K s:=by
 unfold DU
 split
 ·rename_i g xs ts ho;rw[ho]at h;cases h
 ·rfl
theorem TM{s s':St}(h:OU s s')(xs:Array Operand):xs.toList.map (get s.s)=xs.toList.map (get s'.s):=List.map_congr_left fun x _=>SE h x
theorem iH(P:Program){E:AV→St→Prop}(hE:∀ v,I6 (E v))(ρ:Lt):mH (DU P E ρ) (Ui P):=by
 refine⟨fun {o K K' s} hm h=>?_,fun {o K} hK s s' he h=>?_,fun {x y K s} hc hK h=>?_⟩
 ·unfold DU at h⊢
  split
  ·rename_i g xs ts ho;rw[ho]at h;exact⟨h.1,h.2.1,fun r h' hr=>hm _ (h.2.2.1 r h' hr),h.2.2.2⟩
  ·rename_i hn
   have:Cb P o K s:=by
    split at h
    ·rename_i g xs ts ho;exact absurd ho (hn g xs ts)
    ·exact h
   exact IZ hm this
 ·unfold DU at h⊢;have hg:=he.2.1;have hh:=he.2.2.1
  split
  ·rename_i g xs ts ho;rw[ho]at h;simp only at h;rw[TM he,hg,hh]at h;exact⟨h.1,h.2.1,fun r h' hr=>hK _ _ (V1 he.1 he.2.1 he.2.2.2 h' o.dst r) (h.2.2.1 r h' hr),fun v h' hr=>hE v ⟨s.s,h'⟩ ⟨s'.s,h'⟩ ⟨he.1,he.2.1,rfl,he.2.2.2⟩ (h.2.2.2 v h' hr)⟩
  ·rename_i hn
   have:Cb P o K s:=by
    split at h
    ·rename_i g xs ts ho;exact absurd ho (hn g xs ts)
    ·exact h
   exact VM hK s s' he this
 ·simp only[Ui,Bool.or_eq_false_iff]at hc;obtain⟨⟨h1,h2⟩,h3⟩:=hc;rw[GR h1]at h;have e:DU P E ρ y K=Cb P y K:=funext fun s=>GR h2 K s
  rw[e]at h;rw[GR h2];have e:DU P E ρ x K=Cb P x K:=funext fun s=>GR h1 K s
  rw[e];exact Tz h3 hK h
theorem XS{P:Program}{E:AV→St→Prop}{ρ:Lt}{o:Oper}(F:List Nat→St→Prop)(V:List Nat→Prop)(s:St)(hne:∃ p,V p)(h:∀ p,V p→DU P E ρ o (F p) s):DU P E ρ o (fun s'=>∀ p,V p→F p s') s:=by
 obtain⟨p0,hp0⟩:=hne;cases hc:J5 o.op with
 |false=>
  rw[GR hc];refine O4 ?_ F V s ⟨p0,hp0⟩ fun p hp=>by have:=h p hp;rwa [GR hc]at this
  unfold lE;unfold J5 at hc
  split
  ·rfl
  ·rename_i g xs ts ho;rw[ho]at hc;cases hc
  ·rfl
 |true=>
  unfold J5 at hc
  split at hc
  ·rename_i g xs ts ho;have hh:∀ p,V p→_:=fun p hp=>by have:=h p hp;unfold DU at this;rw[ho]at this;exact this
   unfold DU;rw[ho];exact⟨(hh p0 hp0).1,(hh p0 hp0).2.1,fun r h' hr p hp=>(hh p hp).2.2.1 r h' hr,(hh p0 hp0).2.2.2⟩
  ·cases hc
def Cc(P:Program)(E:AV→St→Prop)(ops:Array Oper)(Q:AY)(s:St):Prop:=
 Cr P ops Q s∨(P.follows .mixedOrders=true∧∃ ρ,RB (DU P E ρ) ops (Ls (C1 Q)) ops.size (Array.replicate ops.size false) s)
theorem Cc.pure{P:Program}{E:AV→St→Prop}{ops:Array Oper}{Q:AY}{s:St}(h:Cr P ops Q s):Cc P E ops Q s:=.inl h
def DM(P:Program)(E:AV→St→Prop):Code→AY→St→Prop
 |.skip,Q,s=>Q .normal s
 |.region _ ops draw,Q,s=>if draw=true then Cc P E ops Q s else E2 P E ops ops.toList (C1 Q) s
 |.seq a b,Q,s=>DM P E a (Ge (DM P E b Q) Q) s
 |.cond c x y,Q,s=>BZ (get s.s c) (DM P E x Q) (DM P E y Q) s
 |.block id c,Q,s=>DM P E c (Dn id Q) s
 |.loop c,Q,s=>Cp (fun Q s=>DM P E c Q s) Q s
 |.exit id,Q,s=>Q (.exit id) s
 |.ret,Q,s=>Q .ret s
 |.label _,Q,s=>Q .normal s
 |.goto l,Q,s=>Q (.goto l) s
 |.rangeFunc ..,_,_=>False
 |.scope c,Q,s=>DM P E c (UE Q) s
 |.refuse ..,_,_=>False
theorem Cc.orders{P:Program}{E:AV→St→Prop}{ops:Array Oper}{Q:AY}{s:St}(W:List (List Nat))(ρ:Lt)(hE:∀ v,I6 (E v))(h1:P.follows .mixedOrders=true)(h2:GO (Ui P) ops W=true)(h3:(!W.isEmpty)=true)
  (h4:∀ p∈W,CI (DU P E ρ) ops p (C1 Q) s):Cc P E ops Q s:=by
 refine .inr ⟨h1,ρ,?_⟩;have hT:=iH P hE ρ;have hQ:I6 (Ls (C1 Q)):=fun s s' he ⟨s2,h1,h2⟩=>⟨s2,Km h1 he,h2⟩
 have h4:∀ p∈W,CI (DU P E ρ) ops p (Ls (C1 Q)) s:=fun p hp=>J8 (T:=DU P E ρ) (fun o K K' s hm h=>hT.mono hm h) (K:=C1 Q) (fun s h=>(⟨s,Lw s,h⟩:Ls (C1 Q) s)) p (h4 p hp)
 exact KX hT hQ h2 (fun e=>by rw[e]at h3;cases h3) (.inr fun i o ho F V s hne h=>XS F V s hne h) h4
section
variable {X:Fix} {φ:List Nat} {st:St} {a:Act} {w:World} {o:Oper} {K:St→Prop} {E:AV→St→Prop}
theorem Ux{ρ:Lt}{Q:Exit→Act→World→Prop}(hQ:∀ φ s v u h a w,SR X φ ⟨s,h⟩ a w→rel v (cx X φ h w) u→E v ⟨s,h⟩→Q (.panic [{ v:=u,recovered:=false }]) a w)(hs:SR X φ st a w)(h:DU X.P E ρ o K st):o.wp X.P a w (Nx X K) Q:=by
 unfold DU at h
 split at h
 ·rename_i g xs ts ho
  have hrun0:∀ fn:Func,X.P.funcs[g]?=some fn→fn.body.isSome=true→(fn.name == "runtime.NumGoroutine")=false→(execOp a.eval o).run X.P w=.ok (.enter g (xs.map a.eval)) w:=by
   intro fn hf hb hn;have hb':¬fn.body=none:=by cases hq:fn.body<;>simp[hq]at hb⊢
   have hn':¬fn.name = "runtime.NumGoroutine" :=by simpa using hn
   simp[execOp,ho,resolve,Deferred.ofValue,Act.eval,invoke,callFunc,hf,hn',hb']
  exact Hx hQ hs (by rw[Array.toList_map];exact CY hs _) ⟨h.1,_,h.2.1,h.2.2.1,h.2.2.2⟩ hrun0
 ·exact Ez hs h
theorem Nj{ρ:Lt}{ops:Array Oper}{Q:Exit→Act→World→Prop}(hE:∀ φ s v u h a w,SR X φ ⟨s,h⟩ a w→rel v (cx X φ h w) u→E v ⟨s,h⟩→Q (.panic [{ v:=u,recovered:=false }]) a w)(hQ:∀ a w,Nx X K a w→Q .normal a w):
  ∀ (f:Nat) (listed:Array Bool) {φ:List Nat} {st:St} {a:Act} {w:World},SR X φ st a w→RB (DU X.P E ρ) ops K f listed st→wpAny X.P .any ops Q f listed a w
 |0,listed,φ,st,a,w,hs,h=>⟨h.1,hQ _ _ ⟨φ,st,hs,h.2⟩⟩
 |f+1,listed,φ,st,a,w,hs,h=>by
  refine⟨fun hr=>hQ _ _ ⟨φ,st,hs,h.1 hr⟩,fun i hi=>?_⟩
  have hi2:i∈List.range ops.size:=by
   simp only[Region.ready,List.mem_filter]at hi;exact hi.1
  obtain⟨o,ho,hg,hk⟩:=h.2 i hi2 (by simpa using hi);unfold wpOp;rw[ho];have hw:Region.wanted o (yielded ops a.tmps)=true:=by simp[Region.wanted,hg]
  simp only[hw,if_true];refine .inl (Oper.wp_mono (fun a2 w2 ⟨φ2,s2,hs2,hk2⟩=>Nj hE hQ f _ hs2 hk2) (Ux hE hs hk))
theorem SP{ops:Array Oper}{Q:AY}{id:Nat}(hs:SR X φ st a w)(h:Cc X.P E ops Q st):(Code.region id ops true).wp X.P (oK X E Q) a w:=by
 rcases h with h|⟨h1,ρ,h3⟩
 ·exact wp_mono (Kj hs h) fun e a w hq=>.inl hq
 ·exact wp_region_any h1 (Nj (K:=Ls (C1 Q)) (fun φ s v u h a w hs hr he=>.inr ⟨φ,s,v,u,h,rfl,hs,hr,he⟩) (fun a w ⟨φ',s',hs',s2,he,h'⟩=>.inl ⟨φ',s2,hs'.same he.1.symm he.2.1.symm (fun t=>(he.2.2.2 t).symm) he.2.2.1.symm,h'⟩) _ _ (hs.world ⟨rfl,rfl,rfl,BL _,fun _ _=>rfl⟩) h3)
theorem DL:∀ (c:Code) (Q:AY) {φ:List Nat} {st:St} {a:Act} {w:World},SR X φ st a w→DM X.P E c Q st→c.wp X.P (oK X E Q) a w
 |.skip,Q,φ,st,a,w,hs,h=>wp_skip (.inl ⟨φ,st,hs,h⟩)
 |.region id ops draw,Q,φ,st,a,w,hs,h=>by
  simp only[DM]at h
  split at h
  ·rename_i hd;subst hd;exact SP hs h
  ·rename_i hd;have hd':draw=false:=by simpa using hd
   subst hd';refine wp_region (Gm ops _ (fun φ s v u h a w hs hr he=>.inr ⟨φ,s,v,u,h,rfl,hs,hr,he⟩) ops.toList _ ?_ hs h (fun a w ⟨φ',st',hs',h'⟩=>.inl ⟨φ',st',hs',h'⟩))
   apply List.ext_getElem?
   intro i;simp only[Bm]
   by_cases hi:i<ops.size
   ·simp[hi]
   ·rw[Bq (by simpa using hi),Bq (by simpa using hi)];rfl
 |.seq x y,Q,φ,st,a,w,hs,h=>by
  simp only[DM]at h;exact wp_seq (wp_mono (DL x _ hs h) fun e a w hq=>KR (fun a w ⟨φ',st',hs',h'⟩=>DL y Q hs' h') e a w hq)
 |.cond c x y,Q,φ,st,a,w,hs,h=>by
  simp only[DM]at h;unfold BZ at h
  split at h
  ·rename_i z hg;have hc:=hs.get c;rw[hg]at hc;simp only[rel]at hc;exact wp_cond_split hc (fun e=>DL x Q hs (h.1 e)) (fun e=>DL y Q hs (h.2 e))
  ·exact h.elim
 |.block id c,Q,φ,st,a,w,hs,h=>by
  simp only[DM]at h;refine wp_block (wp_mono (DL c _ hs h) fun e a w hq=>?_)
  rcases hq with⟨φ',st',hs',hq⟩|⟨φ,s,v,u,h',rfl,k⟩
  ·cases e with
   |exit j=>
    simp only[Dn]at hq;simp only[Exit.inBlock]
    split<;>rename_i hj
    ·rw[if_pos hj]at hq;exact .inl ⟨φ',st',hs',hq⟩
    ·rw[if_neg hj]at hq;exact .inl ⟨φ',st',hs',hq⟩
   |_=>exact .inl ⟨φ',st',hs',hq⟩
  ·exact .inr ⟨φ,s,v,u,h',rfl,k⟩
 |.loop c,Q,φ,st,a,w,hs,h=>by
  simp only[DM]at h;obtain⟨R,n,s0,hw,hI,hr⟩:=h;refine NI (fun m a w=>∃ φ' st',SR X φ' st' a w∧R m st') (n:=n) ⟨φ,s0,hs.slotW hw,hI⟩ fun m a w ⟨φ1,s1,hs1,hI1⟩=>?_
  exact wp_mono (DL c _ hs1 (hr m s1 hI1)) fun e a w hq=>KR (fun a w ⟨φ2,s2,hs2,m',s3,hw3,hlt,hI3⟩=>⟨m',hlt,φ2,s3,hs2.slotW hw3,hI3⟩) e a w hq
 |.exit id,Q,φ,st,a,w,hs,h=>wp_exit (.inl ⟨φ,st,hs,h⟩)
 |.ret,Q,φ,st,a,w,hs,h=>wp_ret (.inl ⟨φ,st,hs,h⟩)
 |.label l,Q,φ,st,a,w,hs,h=>wp_label (.inl ⟨φ,st,hs,h⟩)
 |.goto l,Q,φ,st,a,w,hs,h=>wp_goto (.inl ⟨φ,st,hs,h⟩)
 |.rangeFunc ..,Q,φ,st,a,w,hs,h=>by simp only[DM]at h
 |.scope c,Q,φ,st,a,w,hs,h=>by
  simp only[DM]at h;refine Gs (fun _ _ _ _=>False) (wp_mono (DL c _ hs h) fun e a w hq=>?_) (fun _ _ _ _ h=>h.elim)
  rcases hq with⟨φ',st',hs',hq⟩|⟨φ,s,v,u,h',rfl,k⟩
  ·cases e with
   |goto l=>exact hq.elim
   |_=>exact .inl ⟨φ',st',hs',hq⟩
  ·exact .inr ⟨φ,s,v,u,h',rfl,k⟩
 |.refuse ..,Q,φ,st,a,w,hs,h=>by simp only[DM]at h
end
theorem Ck.ofG{P:Program}{γ:List (Nat×AV)}{f:FuncId}{fn:Func}{c:Code}{args:List AV}{h:List Aa}{R:Out→List Aa→Prop}(hf:P.funcs[f]?=some fn)(hb:fn.body=some c)
  (hk:DM P (WD R) c (Yw P fn.results.toList R) ⟨⟨args.length+(fn.ntmps-args.length),Hi 0 args,γ⟩,h⟩):Ck P γ f args h R:=by
 intro X φ s a w vs hP hg hs hargs;subst hP;subst hg;have h0:=hs.enter (fn:=fn) hargs;refine calls_of_wp hf hb (wp_mono (DL (X:=X.inl φ h w) c _ h0 hk) fun e a' w' hq=>?_)
 rcases hq with⟨φ',st',hs',hq⟩|⟨φ',s',v,u,h',rfl,hs',hv,hq⟩
 ·have fin:(Gv X.P fn.results.toList st' fun xs=>R (.ret (AJ xs)) st'.h)→a'.defers=[]∧∃ v,(results fn a'.tmps).run X.P w'=.ok v w'∧SM X s a R (.returned v) w':=by
   intro hr;obtain⟨v,xs,h1,h2,h3⟩:=Gk (X:=X.inl φ h w) hs' hr;exact⟨hs'.defers,v,h1,.ret (AJ xs),st'.h,φ',h2,hs.leave hs',v,rfl,h3⟩
  cases e with
  |normal=>exact fin hq
  |ret=>exact fin hq
  |_=>exact hq.elim
 ·exact⟨hs'.defers,.pan v,h',φ',hq,hs.leave hs',u,rfl,hv⟩
theorem Ev.ofG{P:Program}{γ:List (Nat×AV)}{f:FuncId}{fn:Func}{c:Code}{args:List AV}{res:AV}(hf:P.funcs[f]?=some fn)(hb:fn.body=some c)
  (h:DM P (fun _ _=>False) c (NN P fn.results.toList res) (EG γ args fn.ntmps)):Ev P γ f args res:=
 Ev.of_wp hf hb fun X hP h0 _ _ hs=>by
  subst hP;refine wp_mono (DL c _ hs h) fun e a w hq=>?_
  rcases hq with⟨φ,s,hs,hq⟩|⟨φ,s,v,u,h,_,_,_,hq⟩
  ·exact⟨φ,s,hs,JG hq⟩
  ·exact hq.elim
section
variable {P:Program} {E:AV→St→Prop} {s:St} {K:St→Prop} {Q:AY} {t:TypeId} {d:Option Tmp} {pos:String} {af:Array Edge} {g:Option (Nat×Bool)} {ops:Array Oper} {os:List Oper}
theorem cD:DM P E .skip Q s=Q .normal s:=rfl
theorem WN(i:Nat)(ops:Array Oper):DM P E (.region i ops false) Q s=E2 P E ops ops.toList (C1 Q) s:=by simp[DM]
theorem gO(i:Nat)(ops:Array Oper):DM P E (.region i ops true) Q s=Cc P E ops Q s:=by simp[DM]
theorem lJ(a b:Code):DM P E (.seq a b) Q s=DM P E a (Ge (DM P E b Q) Q) s:=rfl
theorem dZ(c:Operand)(x y:Code):DM P E (.cond c x y) Q s=BZ (get s.s c) (DM P E x Q) (DM P E y Q) s:=rfl
theorem Zn(id:Nat)(c:Code):DM P E (.block id c) Q s=DM P E c (Dn id Q) s:=rfl
theorem gP(c:Code):DM P E (.loop c) Q s=Cp (fun Q s=>DM P E c Q s) Q s:=rfl
theorem eF(id:Nat):DM P E (.exit id) Q s=Q (.exit id) s:=rfl
theorem lB:DM P E .ret Q s=Q .ret s:=rfl
theorem aX(c:Code):DM P E (.scope c) Q s=DM P E c (UE Q) s:=rfl
theorem Yn(l:Nat):DM P E (.label l) Q s=Q .normal s:=rfl
theorem gV(l:Nat):DM P E (.goto l) Q s=Q (.goto l) s:=rfl
theorem dG{ρ:Lt}(x:Operand):DU P E ρ ⟨d,.move x,t,pos,af,g⟩ K s=Cb P ⟨d,.move x,t,pos,af,g⟩ K s:=rfl
theorem WA{ρ:Lt}(x:Operand):DU P E ρ ⟨d,.assign x,t,pos,af,g⟩ K s=Cb P ⟨d,.assign x,t,pos,af,g⟩ K s:=rfl
theorem bF{ρ:Lt}(u:TypeId):DU P E ρ ⟨d,.alloc u,t,pos,af,g⟩ K s=Cb P ⟨d,.alloc u,t,pos,af,g⟩ K s:=rfl
theorem jK{ρ:Lt}(u:TypeId)(x:Operand):DU P E ρ ⟨d,.box u x,t,pos,af,g⟩ K s=Cb P ⟨d,.box u x,t,pos,af,g⟩ K s:=rfl
theorem aP{ρ:Lt}(u:TypeId)(ps:Array (Nat×Operand)):DU P E ρ ⟨d,.build u ps,t,pos,af,g⟩ K s=Cb P ⟨d,.build u ps,t,pos,af,g⟩ K s:=rfl
theorem iI{ρ:Lt}(u:TypeId)(x:Operand):DU P E ρ ⟨d,.load u x,t,pos,af,g⟩ K s=Cb P ⟨d,.load u x,t,pos,af,g⟩ K s:=rfl
theorem Zr{ρ:Lt}(u:TypeId)(x y:Operand):DU P E ρ ⟨d,.store u x y,t,pos,af,g⟩ K s=Cb P ⟨d,.store u x y,t,pos,af,g⟩ K s:=rfl
theorem T4{ρ:Lt}(x:Operand):DU P E ρ ⟨d,.nilCheck x,t,pos,af,g⟩ K s=Cb P ⟨d,.nilCheck x,t,pos,af,g⟩ K s:=rfl
theorem QP{ρ:Lt}(u:TypeId)(x:Operand)(f:Nat):DU P E ρ ⟨d,.fieldAddr u x f,t,pos,af,g⟩ K s=Cb P ⟨d,.fieldAddr u x f,t,pos,af,g⟩ K s:=rfl
theorem YC{ρ:Lt}(u:TypeId)(x:Operand)(f:Nat):DU P E ρ ⟨d,.field u x f,t,pos,af,g⟩ K s=Cb P ⟨d,.field u x f,t,pos,af,g⟩ K s:=rfl
theorem QW{ρ:Lt}(u:TypeId)(x y:Operand):DU P E ρ ⟨d,.indexAddr u x y,t,pos,af,g⟩ K s=Cb P ⟨d,.indexAddr u x y,t,pos,af,g⟩ K s:=rfl
theorem TW{ρ:Lt}(x:Operand)(i:Nat):DU P E ρ ⟨d,.extract x i,t,pos,af,g⟩ K s=Cb P ⟨d,.extract x i,t,pos,af,g⟩ K s:=rfl
theorem aB{ρ:Lt}(u:TypeId)(x:Operand)(lo hi mx:Option Operand):DU P E ρ ⟨d,.slice u x lo hi mx,t,pos,af,g⟩ K s=Cb P ⟨d,.slice u x lo hi mx,t,pos,af,g⟩ K s:=rfl
theorem UA{ρ:Lt}(b:Builtin)(xs:Array Operand)(ts:Array TypeId):DU P E ρ ⟨d,.call ⟨.builtin b,xs,ts⟩,t,pos,af,g⟩ K s=Cb P ⟨d,.call ⟨.builtin b,xs,ts⟩,t,pos,af,g⟩ K s:=rfl
theorem QX{ρ:Lt}(b:BinOp)(u v:TypeId)(x:Operand)(y:Tmp):DU P E ρ ⟨d,.binOp b u x (.tmp y) v,t,pos,af,g⟩ K s=Cb P ⟨d,.binOp b u x (.tmp y) v,t,pos,af,g⟩ K s:=rfl
theorem Qr{ρ:Lt}(b:BinOp)(u v:TypeId)(x:Operand)(k:IntKind)(n:Int):DU P E ρ ⟨d,.binOp b u x (.const (.int k n)) v,t,pos,af,g⟩ K s=Cb P ⟨d,.binOp b u x (.const (.int k n)) v,t,pos,af,g⟩ K s:=rfl
theorem Qg{ρ:Lt}(b:BinOp)(u v:TypeId)(x:Operand)(y:ByteArray):DU P E ρ ⟨d,.binOp b u x (.const (.string y)) v,t,pos,af,g⟩ K s=Cb P ⟨d,.binOp b u x (.const (.string y)) v,t,pos,af,g⟩ K s:=rfl
theorem Un{ρ:Lt}(u v:TypeId)(x:Operand):DU P E ρ ⟨d,.convert u v x,t,pos,af,g⟩ K s=Cb P ⟨d,.convert u v x,t,pos,af,g⟩ K s:=rfl
theorem dK{ρ:Lt}(b:UnOp)(u:TypeId)(x:Operand):DU P E ρ ⟨d,.unOp b u x,t,pos,af,g⟩ K s=Cb P ⟨d,.unOp b u x,t,pos,af,g⟩ K s:=rfl
theorem XT{ρ:Lt}(u:TypeId)(x:Operand):DU P E ρ ⟨d,.makeInterface u x,t,pos,af,g⟩ K s=Cb P ⟨d,.makeInterface u x,t,pos,af,g⟩ K s:=rfl
end
theorem Dw(R:Out→List Aa→Prop)(v:AV):I6 (WD R v):=fun s s' he h=>by
 unfold WD at *
 rwa [he.2.2.1]at h
theorem fE(v:AV):I6 ((fun (_:AV) (_:St)=>False) v):=fun s s' he h=>h
set_option linter.defProp false in
def eG:=And.intro @aX (And.intro @cD (And.intro @WN (And.intro @gO (And.intro @lJ (And.intro @dZ (And.intro @Zn (And.intro @gP (And.intro @eF (And.intro @lB (And.intro @Yn @gV))))))))))
set_option linter.defProp false in
def B4:=And.intro eG Af
set_option linter.defProp false in
def Rz:=And.intro @dG (And.intro @WA (And.intro @bF (And.intro @jK (And.intro @aP (And.intro @iI (And.intro @Zr (And.intro @T4 (And.intro @QP (And.intro @YC (And.intro @QW (And.intro @TW (And.intro @aB (And.intro @UA (And.intro @QX (And.intro @Qr (And.intro @Qg (And.intro @Un (And.intro @dK @XT))))))))))))))))))
def M6(P:Program)(fn:Func)(R:Out→List Aa→Prop)(c:Code)(st:St):Prop:=
 ∀ (X:Fix) (φ:List Nat) (s:Db) (h:List Aa) (a:Act) (w:World) (φ0:List Nat) (a0:Act) (w0:World),X.P=P→SR X φ ⟨s,h⟩ a w→SR (X.inl φ h w) φ0 st a0 w0→c.wp P (bodyPostD P fn (SM X s a R)) a0 w0
theorem M6.step{P:Program}{fn:Func}{R:Out→List Aa→Prop}{x y:Code}{st:St}(hk:Dp P (fun _ _=>False) x (Ge (M6 P fn R y) (Yw P fn.results.toList R)) st):M6 P fn R (.seq x y) st:=by
 intro X φ s h a w φ0 a0 w0 hP hs h0;subst hP;refine wp_seq (wp_mono (CK (X:=X.inl φ h w) x _ h0 hk) fun e a2 w2 hq=>?_)
 rcases hq with⟨φ2,st2,hs2,hq⟩|⟨_,_,_,_,_,_,_,_,hq⟩
 ·cases e with
  |normal=>exact hq X φ s h a w φ2 a2 w2 rfl hs hs2
  |ret=>
   have hq:Gv X.P fn.results.toList st2 fun xs=>R (.ret (AJ xs)) st2.h:=hq
   obtain⟨v,xs,g1,g2,g3⟩:=Gk (X:=X.inl φ h w) (fn:=fn) hs2 (K:=fun xs=>R (.ret (AJ xs)) st2.h) hq;show Leaves X.P fn a2.tmps (SM X s a R) a2.defers .returning w2;rw[show a2.defers=[]from hs2.defers];exact⟨v,g1,.ret (AJ xs),st2.h,φ2,g2,hs.leave hs2,v,rfl,g3⟩
  |_=>exact hq.elim
 ·exact hq.elim
theorem M6.defer{P:Program}{fn:Func}{R:Out→List Aa→Prop}{i:Nat}{ops:Array Oper}{rest:Code}{st:St}
  (hk:Ni P ops ops.toList (fun s d=>Dp P (fun v s=>Na P fn.results.toList R d (some v) s) rest (Wg P fn.results.toList R d) s) st):M6 P fn R (.seq (.region i ops false) rest) st:=by
 intro X φ s h a w φ0 a0 w0 hP hs h0;subst hP;exact Ox hs h0 hk
theorem Ck.ofDK{P:Program}{γ:List (Nat×AV)}{f:FuncId}{fn:Func}{c:Code}{args:List AV}{h:List Aa}{R:Out→List Aa→Prop}(hf:P.funcs[f]?=some fn)(hb:fn.body=some c)
  (hk:M6 P fn R c ⟨⟨args.length+(fn.ntmps-args.length),Hi 0 args,γ⟩,h⟩):Ck P γ f args h R:=by
 intro X φ s a w vs hP hg hs hargs;subst hP;subst hg;exact calls_of_wp_defers hf hb (hk X φ s h a w φ _ _ rfl hs (hs.enter (fn:=fn) hargs))
end Go.Ev
