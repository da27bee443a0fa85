/- A part of the proof. -/
import Derived.Test.YtlobiioioicmhaaGreatDoorCQ9
set_option linter.all false
set_option maxHeartbeats 8000000
namespace Go.Proofs.YtlobiioioicmhaaGreatDoor
open _root_.Bool renaming not_true→Bv,not_false→Bf
open _root_.List renaming getElem?_eq_some_iff→Bs,getElem?_append_left→Ba,getElem?_set_self→Be,getElem?_set_ne→Bn,length_set→Bl,length_append→Bp,append_assoc→Bo,length_map→Bk,getElem?_eq_none→Bq,length_drop→Bd,mem_singleton→Bj,map_cons→BA,prefix_rfl→BB,length_cons→BC,length_nil→BD,flatMap_cons→BE,mem_cons→BI
open _root_.Nat renaming le_refl→BL,le_trans→BM,lt_of_lt_of_le→BO
open Go.Proofs.Tryz renaming prog→Tp
open Go Go.Ev
set_option maxRecDepth 20000
variable {γ:List (Nat×AV)}
variable {sB:Tk→Bool} {all ts:List Tk} {from_:Nat} {L:AV}
def oW(ts:List Tk)(w:Int)(a b:Tr)(r:Nat):Z5:=if Cv ts r=[41]then .ok (.bi w a b) (r+1)else .bad r
def kH(ts:List Tk)(f:Nat)(w:Int)(a:Tr)(q:Nat):Z5:=
 if De w=2 then (if Cv ts q≠[44]then .bad q else match pr ts f (.bin 1) (q+1)with
  |.bad r=>.bad r
  |.ok b r=>oW ts w a b r)
 else if Cv ts q=[41]then .ok (.un w a) (q+1)else .bad q
def pD(ts:List Tk)(f:Nat)(w:Int)(p:Nat):Z5:=
 if Cv ts p≠[40]then .bad p else match pr ts f (.bin 1) (p+1)with
  |.bad q=>.bad q
  |.ok a q=>kH ts f w a q
theorem nD{f:Nat}{s:List UInt8}{p:Nat}(h1:s≠Pv)(h2:s≠Lz)(h3:B0 s≠0):pr ts (f+1) (.nm s) p=pD ts f (B0 s) p:=by
 rw[pr,if_neg h1,if_neg h2,if_neg h3];unfold pD
 split
 ·rfl
 ·cases pr ts f (.bin 1) (p+1)with
  |bad q=>rfl
  |ok a q=>
   show (if _ then (if _ then _ else _)else _)=kH ts f _ a q
   unfold kH
   split
   ·split
    ·rfl
    ·cases pr ts f (.bin 1) (q+1)<;>rfl
   ·rfl
def iP(k:Int)(nm:List UInt8)(vk vi:Int)(vr:Nat)(vt:List UInt8)(N:AV):List AV:=[.v (.int .i64 k),.v (.string ⟨nm.toArray⟩),.v (.int .i64 vk),.v (.int .i64 vi),.v (.float .f64 vr),.v (.complex .f64 0 0),.v (.string ⟨vt.toArray⟩),N]
structure SvY where
 k:Nat
 q:Nat
 h:List Aa
def svS(γ:List (Nat×AV))(i X:Nat)(w:Int)(y:SvY):St:=⟨⟨126,[(0,.ptr i 0 0),(6,.v (.int .i64 w)),(7,.ptr X 0 0),(8,.v (.int .i64 (y.k:Int)))],γ⟩,y.h⟩
def svI(ts:List Tk)(L:AV)(h0:List Aa)(i X p:Nat)(w:Int)(f:Nat)(R:Z5)(y:SvY):Prop:=
 Fr (AU i) h0 y.h∧h0.length≤X∧X≠i∧X<y.h.length∧RT y.h i L y.q (-1)∧p<y.q∧y.q≤ts.length∧
 ((y.k=0∧y.h[X]?=some ⟨0,190,iP w [] 0 0 0 [] (.v (.slice none 0 0))⟩∧R=pD ts f w y.q)
 ∨ (y.k=1∧∃ (a:Tr) (j:Nat) (xa:AV) (la ha:Nat),y.h[X]?=some ⟨0,190,iP w [] 0 0 0 [] (.own j 0 1)⟩∧y.h[j]?=some ⟨0,110,[xa]⟩∧X<la∧ha≤j∧h0.length≤j∧j<y.h.length∧AD la ha y.h xa a∧R=kH ts f w a y.q)
 ∨ (y.k=2∧De w=2∧∃ (a b:Tr) (j:Nat) (xa xb:AV),y.h[X]?=some ⟨0,190,iP w [] 0 0 0 [] (.own j 1 2)⟩∧y.h[j]?=some ⟨1,110,[xa,xb]⟩∧j<y.h.length∧h0.length≤j∧AD (X+1) y.h.length y.h xa a∧AD (X+1) y.h.length y.h xb b∧R=oW ts w a b y.q))
theorem fP(hL:EV L all)(hS:bQ γ sB all ts from_){f:Nat}(H:∀ g≤f,RE γ ts from_ L g):H8 γ ts from_ L (f+1) 116 [] .fs:=by
 intro h i p hf hp hn hr;have hpre:=hS.pre.length_le;have w1:IntKind.i64.wrap ((p:Int)+1)=((p+1:Nat):Int):=bR (BM hp hpre) hS.small;refine Ck.of Tryz.func116 rfl ?_;simp only[Tryz.f116,Af,Nat.reduceAdd,Nat.reduceSub,Nat.reduceLT,Nat.reduceEqDiff,reduceCtorEq];refine Ao.intro nR _ (VK hL hS hf hp hr) (fun r h1 hh=>?_) (fun v h' hh=>by cases hh.1);obtain⟨e,f1⟩:=hh;cases e;have r1:=hr.fr f1;have s1:∀ x,(h1++[x])[h1.length]?=some x:=fun x=>by simp
 have s2:∀ x y,(h1++[x]).set h1.length y=h1++[y]:=fun x y=>by simp
 have F1:∀ l,Fr (AU i) h (h1++l):=fun l=>(f1.trans (S1:=BR) (Fr.app h1 l) fun k hk=>False.elim hk).mono fun k hk=>False.elim hk
 have stop:∀ l,pr ts (f+1) .fs p=.bad p→∀ h2,h2=(h1++l).set i ⟨0,109,[L,.v (.int .i64 p),.v (.int .i64 p)]⟩→RY L i h (pr ts (f+1) .fs p) (.ret (.v (.pointer none))) h2:=by
  intro l e h2 eh;subst eh;rw[e];exact⟨(F1 l).trans (Fr.set (S:=AU i) _ rfl) fun k hk=>.inl hk,rfl,p,Be (r1.app l).lt⟩
 by_cases hlt:p<ts.length
 rotate_left
 ·have e4:decide (p<ts.length)=false:=decide_eq_false hlt;have e2:ts[p]?=none:=Bq (by omega);have em:Cv ts p=[]:=by unfold Cv;rw[e2]
  simp only[Dt,e4,s1,s2,Tk.cells,Af,Bf,Nat.reduceAdd,Nat.reduceLT,Nat.reduceLeDiff,Nat.reduceEqDiff,reduceCtorEq];refine Ao.intro kB _ (U8 (r1.app _)) (fun r h2 hh=>?_) (fun v h' hh=>by cases hh.1);obtain⟨e,eh⟩:=hh;cases e;simp only[Af,Nat.reduceLT,Nat.reduceEqDiff,reduceCtorEq];exact stop _ (by rw[pr,if_neg (by rw[em];decide),e2]) h2 eh
 have e4:decide (p<ts.length)=true:=decide_eq_true hlt;obtain⟨t,ht⟩:∃ t,ts[p]?=some t:=⟨ts[p],by simp[hlt]⟩;have e3:FQ ts p=t:=by unfold FQ;rw[ht];rfl
 rw[e3];have sI:∀ x b,((h1++[x]).set i b)[h1.length]?=some x:=fun x b=>(Bn (by have:=r1.lt;omega)).trans (s1 x)
 have gI:∀ l,(h1++l)[i]?=some ⟨0,109,[L,.v (.int .i64 p),.v (.int .i64 (-1))]⟩:=fun l=>r1.app l
 have e5:∀ h' o r,RY L i h r o h'→r=pr ts (f+1) .fs p→RY L i h (pr ts (f+1) .fs p) o h':=fun h' o r a e=>e▸a
 obtain⟨H2,hH2⟩:∃ H2,H2=(h1++[(⟨0,54,t.cells⟩:Aa)]).set i ⟨0,109,[L,.v (.int .i64 ((p+1:Nat):Int)),.v (.int .i64 (-1))]⟩:=⟨_,rfl⟩;have F2:Fr (AU i) h H2:=by rw[hH2];exact (F1 _).trans (Fr.set (S:=AU i) _ rfl) fun k hk=>.inl hk
 have r2:RT H2 i L (p+1) (-1):=by rw[hH2];exact Be (r1.app _).lt
 have t2:H2[h1.length]?=some ⟨0,54,t.cells⟩:=by rw[hH2];exact sI _ _
 have leaf:∀ (k:Int) (nm:List UInt8) (vk vi:Int) (vr:Nat) (vt:List UInt8),pr ts (f+1) .fs p=.ok (.lf k nm vk vi vr vt) (p+1)→
   RY L i h (pr ts (f+1) .fs p) (.ret (.ptr H2.length 0 0)) (H2++[⟨0,190,iP k nm vk vi vr vt (.v (.slice none 0 0))⟩]):=by
  intro k nm vk vi vr vt e;rw[e];exact⟨F2.trans (Fr.app (S:=BR) H2 _) fun k hk=>False.elim hk,_,rfl,⟨F2.1,by simp,Ap ..⟩,r2.app _⟩
 obtain⟨kd,tx,ti,tr,tp,tz⟩:=t;simp only[Tk.cells]at hH2 t2
 by_cases hk5:kd=5
 ·subst hk5;have em:Cv ts p=tx:=by unfold Cv;rw[ht];rfl
  by_cases hm:tx=[40]
  ·have d6:(tx==[40])=true:=by simpa using hm
   have hm':Cv ts p=[40]:=em.trans hm
   have epr:pr ts (f+1) .fs p=match pr ts f (.bin 1) (p+1)with
    |.bad q=>.bad q
    |.ok a q=>if Cv ts q=[41]then .ok a (q+1)else .bad q:=by
    rw[pr,if_pos hm']<;>cases pr ts f (.bin 1) (p+1)<;>rfl
   simp only[Dt,e4,s1,s2,Tk.cells,d6,gI,w1,Af,A7,Bv,Nat.reduceAdd,Nat.reduceLT,Nat.reduceLeDiff,Nat.reduceEqDiff,reduceCtorEq];rw[←hH2];simp only[t2,Int.reduceBEq,Af,A7,Nat.reduceLT,Nat.reduceEqDiff,reduceCtorEq];have hn2:Md.need ts (p+1) (.bin 1)≤f:=by clear w1;simp only[Md.need]at hn⊢;omega
   refine Ao.intro iL _ ((H f (BL _)).bin 1 (by decide) (by decide) H2 i (p+1) (by clear w1;omega) hlt hn2 r2) (fun r h3 hh=>?_) (fun v h' hh=>hh.pan.elim);obtain⟨f3,hh⟩:=hh;have F3:Fr (AU i) h h3:=F2.trans f3 fun k hk=>.inl hk
   cases e:pr ts f (.bin 1) (p+1)with
   |bad q=>
    rw[e]at hh epr;obtain⟨er,p',r3⟩:=hh;cases er;rw[epr];simp only[Dt,Af,Nat.reduceLT,Nat.reduceEqDiff,reduceCtorEq];exact⟨F3,rfl,p',r3⟩
   |ok a q=>
    rw[e]at hh epr;obtain⟨x,er,hT,r3⟩:=hh;cases er;obtain⟨qx,rfl⟩:=hT.ptr;obtain⟨bx,hbx⟩:=AD.blk hT;obtain⟨⟨g1,g2⟩,g3⟩:=Eo ts f (.bin 1) (p+1) a q hlt e;have epr2:pr ts (f+1) .fs p=if Cv ts q=[41]then .ok a (q+1)else .bad q:=epr
    simp only[Dt,hbx,Af,Nat.reduceLT,Nat.reduceEqDiff,reduceCtorEq];refine Ao.intro aD _ (KY hL hS (by clear w1;omega) g3 r3 41 []) (fun r h4 hh=>?_) (fun v h' hh=>?_)
    rotate_left
    ·obtain⟨_,hh⟩:=hh;split at hh<;>cases hh.1
    obtain⟨f4,hh⟩:=hh;have F4:Fr (AU i) h h4:=F3.trans f4 fun k hk=>.inl hk
    by_cases hm41:Cv ts q=[41]
    ·rw[if_pos hm41]at hh epr2;obtain⟨er,r4⟩:=hh;cases er;rw[epr2];simp only[Af,Bv,Nat.reduceLT,Nat.reduceEqDiff,reduceCtorEq];exact⟨F4,_,rfl,AD.fr1 r3 f4 F2.1 f4.1 hT,r4⟩
    ·rw[if_neg hm41]at hh epr2;obtain⟨er,r4⟩:=hh;cases er;rw[epr2];simp only[Af,Bf,Nat.reduceLT,Nat.reduceEqDiff,reduceCtorEq];exact⟨F4,rfl,q,r4⟩
  ·have d6:(tx==[40])=false:=by simpa using hm
   simp only[Dt,e4,s1,s2,Tk.cells,d6,Af,A7,Bv,Bf,Nat.reduceAdd,Nat.reduceLT,Nat.reduceLeDiff,Nat.reduceEqDiff,reduceCtorEq];refine Ao.intro kB _ (U8 (r1.app _)) (fun r h2 hh=>?_) (fun v h' hh=>by cases hh.1);obtain⟨e,eh⟩:=hh;cases e;simp only[Af,Nat.reduceLT,Nat.reduceEqDiff,reduceCtorEq];exact stop _ (by rw[pr,if_neg (by rw[em];exact hm),ht];rfl) h2 eh
 ·have d5:(kd==5)=false:=by simpa using hk5
  have em:Cv ts p≠[40]:=by unfold Cv;rw[ht];simp[hk5]
  have epr:pr ts (f+1) .fs p=if kd=2 then .ok (.lf 1 [] 1 ti 0 []) (p+1)else if kd=3 then .ok (.lf 1 [] 2 0 tr []) (p+1)else if kd=4 then .ok (.lf 1 [] 4 0 0 tx) (p+1)else pr ts f (.nm tx) (p+1):=by
   rw[pr,if_neg em,ht];exact if_neg hk5
  simp only[Dt,e4,s1,s2,Tk.cells,d5,gI,w1,Af,A7,Bv,Nat.reduceAdd,Nat.reduceLT,Nat.reduceLeDiff,Nat.reduceEqDiff,reduceCtorEq];rw[←hH2]
  by_cases hk2:kd=2
  ·subst hk2;simp only[Dt,t2,Af,A7,Nat.reduceAdd,Nat.reduceLT,Nat.reduceLeDiff,Nat.reduceEqDiff,reduceCtorEq];exact leaf 1 [] 1 ti 0 [] (by rw[epr];rfl)
  have d2:(kd==2)=false:=by simpa using hk2
  by_cases hk3:kd=3
  ·subst hk3;simp only[Dt,t2,Int.reduceBEq,Af,A7,Nat.reduceAdd,Nat.reduceLT,Nat.reduceLeDiff,Nat.reduceEqDiff,reduceCtorEq];exact leaf 1 [] 2 0 tr [] (by rw[epr];rfl)
  have d3:(kd==3)=false:=by simpa using hk3
  by_cases hk4:kd=4
  ·subst hk4;simp only[Dt,t2,Int.reduceBEq,Af,A7,Nat.reduceAdd,Nat.reduceLT,Nat.reduceLeDiff,Nat.reduceEqDiff,reduceCtorEq];exact leaf 1 [] 4 0 0 tx (by rw[epr];rfl)
  have d4:(kd==4)=false:=by simpa using hk4
  rw[if_neg hk2,if_neg hk3,if_neg hk4]at epr;obtain⟨f,rfl⟩:∃ f',f=f'+1:=⟨f-1,by clear w1;simp only[Md.need]at hn;omega⟩
  by_cases htr:tx=Pv
  ·have y1:(tx==[116,114,117,101])=true:=by rw[htr];rfl
   simp only[Dt,t2,d2,d3,d4,d5,y1,Af,A7,Nat.reduceAdd,Nat.reduceLT,Nat.reduceLeDiff,Nat.reduceEqDiff,reduceCtorEq];exact leaf 1 [] 5 1 0 [] (by rw[epr,pr,if_pos htr])
  have y1:(tx==[116,114,117,101])=false:=by simpa[Pv]using htr
  by_cases hfa:tx=Lz
  ·have y2:(tx==[102,97,108,115,101])=true:=by rw[hfa];rfl
   simp only[Dt,t2,d2,d3,d4,d5,y1,y2,Af,A7,Nat.reduceAdd,Nat.reduceLT,Nat.reduceLeDiff,Nat.reduceEqDiff,reduceCtorEq];exact leaf 1 [] 5 0 0 [] (by rw[epr,pr,if_neg htr,if_pos hfa])
  have y2:(tx==[102,97,108,115,101])=false:=by simpa[Lz]using hfa
  simp only[Dt,t2,d2,d3,d4,d5,y1,y2,Af,A7,Nat.reduceLT,Nat.reduceEqDiff,reduceCtorEq];refine Ao.pure (Ag.intro c192 rfl (RL tx) ?_)
  by_cases hw:B0 tx=0
  ·have y3:(B0 tx==0)=true:=by simpa using hw
   simp only[Dt,t2,y3,Af,A7,Nat.reduceAdd,Nat.reduceLT,Nat.reduceLeDiff,Nat.reduceEqDiff,reduceCtorEq];exact leaf 2 tx 0 0 0 [] (by rw[epr,pr,if_neg htr,if_neg hfa,if_pos hw])
  have y3:(B0 tx==0)=false:=by simpa using hw
  rw[nD htr hfa hw]at epr;simp only[Dt,y3,Af,Nat.reduceAdd,Nat.reduceLT,Nat.reduceLeDiff,Nat.reduceEqDiff,reduceCtorEq]
  have hwr:18≤B0 tx∧B0 tx≤26:=by
   rcases O5 tx with e|e|e|e|e|e|e|e|e|e<;>first|exact absurd e hw|(rw[e];decide)
  have hwk:=O0 hw;generalize B0 tx=w at *;obtain⟨X,hX⟩:∃ X,X=H2.length:=⟨_,rfl⟩;rw[←hX];refine Cp.intro (svS γ i X w) (svI ts L h i X p w f (pr ts (f+1+1) .fs p)) (fun y=>3-y.k) ⟨0,p+1,_⟩ ⟨rfl,rfl,⟨rfl,rfl,rfl,rfl,trivial⟩,rfl⟩ ?_ (fun y hy=>?_)
  ·refine⟨F2.trans (Fr.app (S:=BR) H2 _) fun k hk=>False.elim hk,by rw[hX];exact F2.1,by have:=r2.lt;omega,by rw[hX];simp,r2.app _,Nat.lt_succ_self p,hlt,.inl ⟨rfl,?_,epr⟩⟩;rw[hX];exact Ap ..
  obtain⟨k,q,hy'⟩:=y;obtain⟨x1,x2,x3,x4,x5,x6,x7,hc⟩:=hy;simp only at x1 x2 x3 x4 x5 x6 x7 hc;simp only[svS,Af,Nat.reduceLT,Nat.reduceEqDiff,reduceCtorEq];refine Ao.pure (Ag.intro c193 rfl (cL w hwr) ?_)
  rcases hc with⟨rfl,k1,hR⟩|⟨rfl,a,j,xa,la,ha,k1,k2,k3,k4,k5,k6,k7,hR⟩|⟨rfl,hk2,a,b,j,xa,xb,k1,k2,k3,k4,k5,k6,hR⟩
  ·have d0:decide (((0:Nat):Int)<De w)=true:=by rcases hwk with e|e<;>rw[e]<;>decide
   have d1:decide ((0:Int)<((0:Nat):Int))=false:=by decide
   unfold pD at hR;simp only[d0,d1,Af,Nat.reduceLT,Nat.reduceEqDiff,reduceCtorEq];refine Ao.intro aD _ (KY hL hS (by clear w1;omega) x7 x5 40 []) (fun r h4 hh=>?_) (fun v h' hh=>?_)
   rotate_left
   ·obtain⟨_,hh⟩:=hh;split at hh<;>cases hh.1
   obtain⟨f4,hh⟩:=hh;have F4:Fr (AU i) h h4:=x1.trans f4 fun k hk=>.inl hk
   have l4:=f4.1
   by_cases hmk:Cv ts q=[40]
   rotate_left
   ·rw[if_neg hmk]at hh;obtain⟨er,r4⟩:=hh;cases er;have er2:pr ts (f+1+1) .fs p=.bad q:=by rw[hR];exact if_pos hmk
    rw[er2];simp only[Af,Bf,Nat.reduceLT,Nat.reduceEqDiff,reduceCtorEq];exact⟨F4,rfl,q,r4⟩
   rw[if_pos hmk]at hh;obtain⟨er,r4⟩:=hh;cases er;have hltq:q<ts.length:=CW hmk;have hn4:Md.need ts (q+1) (.bin 1)≤f:=by clear w1;simp only[Md.need]at hn⊢;omega
   simp only[Af,Bv,Nat.reduceLT,Nat.reduceEqDiff,reduceCtorEq];refine Ao.intro iL _ ((H f (Nat.le_succ _)).bin 1 (by decide) (by decide) h4 i (q+1) (by clear w1;omega) hltq hn4 r4) (fun r h5 hh=>?_) (fun v h' hh=>hh.pan.elim);obtain⟨f5,hh⟩:=hh;have F5:Fr (AU i) h h5:=F4.trans f5 fun k hk=>.inl hk
   have l5:=f5.1;cases e:pr ts f (.bin 1) (q+1)with
   |bad q'=>
    rw[e]at hh;obtain⟨er,p',r5⟩:=hh;cases er;have er2:pr ts (f+1+1) .fs p=.bad q':=by rw[hR];rw[if_neg (fun h=>h hmk),e]
    rw[er2];simp only[Dt,Af,Nat.reduceLT,Nat.reduceEqDiff,reduceCtorEq];exact⟨F5,rfl,p',r5⟩
   |ok b q'=>
    rw[e]at hh;obtain⟨x,er,hT,r5⟩:=hh;cases er;obtain⟨qx,rfl⟩:=hT.ptr;obtain⟨bx,hbx⟩:=AD.blk hT;obtain⟨⟨g1,g2⟩,g3⟩:=Eo ts f (.bin 1) (q+1) b q' hltq e;have hXi:¬AU i X:=x3;have er2:pr ts (f+1+1) .fs p=kH ts f w b q':=by rw[hR,if_neg (fun h=>h hmk),e]
    have k1b:h5[X]?=some ⟨0,190,iP w [] 0 0 0 [] (.v (.slice none 0 0))⟩:=f5.at (f4.at k1 hXi) hXi;simp only[iP]at k1b;have gX:∀ l,(h5++l)[X]?=some ⟨0,190,[.v (.int .i64 w),.v (.string ⟨#[]⟩),.v (.int .i64 0),.v (.int .i64 0),.v (.float .f64 0),.v (.complex .f64 0 0),.v (.string ⟨#[]⟩),.v (.slice none 0 0)]⟩:=fun l=>(Ba (by clear w1;omega)).trans k1b
    have w2:IntKind.i64.wrap (((0:Nat):Int)+1)=((1:Nat):Int):=(A4 (by decide) (by decide)).trans rfl;have g2':∀ (x:Aa) l,(h5++x::l)[h5.length]?=some x:=fun x l=>by simp
    simp only[Dt,hbx,k1b,gX,g2',w2,Bo,Af,Nat.reduceAdd,Nat.reduceLT,Nat.reduceLeDiff,Nat.reduceEqDiff,reduceCtorEq,List.reduceReplicate];have FX:∀ l b,Fr (AU i) h ((h5++l).set X b):=fun l b=>(F5.trans (Fr.app (S:=BR) h5 l) fun k hk=>False.elim hk).trans (Fr.set (S:=fun k=>k=X) b rfl) fun k hk=>.inr (by have hk:k=X:=hk;clear w1 w2;omega)
    have tX:∀ l b,AD h4.length h5.length ((h5++l).set X b) (.ptr qx 0 0) _:=fun l b=>AD.fr (Fr.set (S:=fun k=>k=X) b rfl) (BL _) (BL _) (fun k b hk _=>.inr (.inl (by have hk:k=X:=hk;clear w1 w2;omega))) _ _ (hT.app l (BL _) (BL _))
    refine AF.intro ⟨1,q',_⟩ ⟨FX _ _,x2,x3,?_,(Bn x3).trans (r5.app _),by show p<q';clear w1 w2;omega,g3,.inr (.inl ⟨rfl,_,h5.length+1,.ptr qx 0 0,h4.length,h5.length,Be ?_,(Bn ?_).trans (B1 ..),?_,Nat.le_succ _,?_,?_,tX _ _,er2⟩)⟩ ⟨rfl,rfl,⟨rfl,rfl,rfl,rfl,trivial⟩,rfl⟩ (by show 2<3;decide)
    ·simp only[Bl,Bp,BC,BD];clear w1 w2;omega
    ·simp only[Bp,BC,BD];clear w1 w2;omega
    ·clear w1 w2;omega
    ·clear w1 w2;omega
    ·clear w1 w2;omega
    ·simp only[Bl,Bp,BC,BD];clear w1 w2;omega
  ·have hR':=hR
   by_cases hk2:De w=2
   ·have d0:decide (((1:Nat):Int)<De w)=true:=by rw[hk2];decide
    have d1:decide ((0:Int)<((1:Nat):Int))=true:=by decide
    unfold kH at hR;rw[if_pos hk2]at hR;simp only[d0,d1,Af,Nat.reduceSub,Nat.reduceLT,Nat.reduceEqDiff,reduceCtorEq];refine Ao.intro aD _ (KY hL hS (by clear w1;omega) x7 x5 44 []) (fun r h4 hh=>?_) (fun v h' hh=>?_)
    rotate_left
    ·obtain⟨_,hh⟩:=hh;split at hh<;>cases hh.1
    obtain⟨f4,hh⟩:=hh;have F4:Fr (AU i) h h4:=x1.trans f4 fun k hk=>.inl hk
    have l4:=f4.1
    by_cases hmk:Cv ts q=[44]
    rotate_left
    ·rw[if_neg hmk]at hh;obtain⟨er,r4⟩:=hh;cases er;have er2:pr ts (f+1+1) .fs p=.bad q:=by rw[hR];exact if_pos hmk
     rw[er2];simp only[Af,Bf,Nat.reduceLT,Nat.reduceEqDiff,reduceCtorEq];exact⟨F4,rfl,q,r4⟩
    rw[if_pos hmk]at hh;obtain⟨er,r4⟩:=hh;cases er;have hltq:q<ts.length:=CW hmk;have hn4:Md.need ts (q+1) (.bin 1)≤f:=by clear w1;simp only[Md.need]at hn⊢;omega
    simp only[Af,Bv,Nat.reduceLT,Nat.reduceEqDiff,reduceCtorEq];refine Ao.intro iL _ ((H f (Nat.le_succ _)).bin 1 (by decide) (by decide) h4 i (q+1) (by clear w1;omega) hltq hn4 r4) (fun r h5 hh=>?_) (fun v h' hh=>hh.pan.elim);obtain⟨f5,hh⟩:=hh;have F5:Fr (AU i) h h5:=F4.trans f5 fun k hk=>.inl hk
    have l5:=f5.1;cases e:pr ts f (.bin 1) (q+1)with
    |bad q'=>
     rw[e]at hh;obtain⟨er,p',r5⟩:=hh;cases er;have er2:pr ts (f+1+1) .fs p=.bad q':=by rw[hR];rw[if_neg (fun h=>h hmk),e]
     rw[er2];simp only[Dt,Af,Nat.reduceLT,Nat.reduceEqDiff,reduceCtorEq];exact⟨F5,rfl,p',r5⟩
    |ok b q'=>
     rw[e]at hh;obtain⟨x,er,hT,r5⟩:=hh;cases er;obtain⟨qx,rfl⟩:=hT.ptr;obtain⟨bx,hbx⟩:=AD.blk hT;obtain⟨⟨g1,g2⟩,g3⟩:=Eo ts f (.bin 1) (q+1) b q' hltq e;have hXi:¬AU i X:=x3;have er2:pr ts (f+1+1) .fs p=oW ts w a b q':=by rw[hR,if_neg (fun h=>h hmk),e]
     have hji:j≠i:=fun hj=>by subst hj;rw[show hy'[j]?=_ from x5]at k2;cases k2
     have hjX:j≠X:=fun hj=>by subst hj;rw[k2]at k1;cases k1
     have k1b:h5[X]?=some ⟨0,190,iP w [] 0 0 0 [] (.own j 0 1)⟩:=f5.at (f4.at k1 hXi) hXi;have k2b:h5[j]?=some ⟨0,110,[xa]⟩:=f5.at (f4.at k2 hji) hji;simp only[iP]at k1b;have gX:∀ l,(h5++l)[X]?=some ⟨0,190,[.v (.int .i64 w),.v (.string ⟨#[]⟩),.v (.int .i64 0),.v (.int .i64 0),.v (.float .f64 0),.v (.complex .f64 0 0),.v (.string ⟨#[]⟩),.own j 0 1]⟩:=fun l=>(Ba (by clear w1;omega)).trans k1b
     have gj:∀ l,(h5++l)[j]?=some ⟨0,110,[xa]⟩:=fun l=>(Ba (by clear w1;omega)).trans k2b
     have gjX:∀ l b,((h5++l).set j b)[X]?=some ⟨0,190,[.v (.int .i64 w),.v (.string ⟨#[]⟩),.v (.int .i64 0),.v (.int .i64 0),.v (.float .f64 0),.v (.complex .f64 0 0),.v (.string ⟨#[]⟩),.own j 0 1]⟩:=fun l b=>(Bn hjX).trans (gX l)
     have g2':∀ (x:Aa) l,(h5++x::l)[h5.length]?=some x:=fun x l=>by simp
     have w2:IntKind.i64.wrap (((1:Nat):Int)+1)=((2:Nat):Int):=(A4 (by decide) (by decide)).trans rfl;simp only[Dt,hbx,k1b,gj,gjX,g2',w2,Af,Nat.reduceAdd,Nat.reduceMul,Nat.reduceLT,Nat.reduceLeDiff,Nat.reduceEqDiff,reduceCtorEq,List.reduceReplicate];have hlA:∀ l:List Aa,h5.length≤(h5++l).length:=fun l=>by simp
     have FX:∀ l b c,Fr (AU i) h (((h5++l).set j b).set X c):=fun l b c=>((F5.trans (Fr.app (S:=BR) h5 l) fun k hk=>False.elim hk).trans (Fr.set (S:=fun k=>k=j) b rfl) fun k hk=>.inr (by have hk:k=j:=hk;clear w1 w2;omega)).trans (Fr.set (S:=fun k=>k=X) c rfl) fun k hk=>.inr (by have hk:k=X:=hk;clear w1 w2;omega)
     have tX:∀ (lo hi:Nat) (x:AV) (t:Tr) (l:List Aa) (b c:Aa),AD lo hi h5 x t→X<lo→(hi≤j∨j<lo)→hi≤h5.length→AD (X+1) (((h5++l).set j b).set X c).length (((h5++l).set j b).set X c) x t:=fun lo hi x t l b c hT g1 g2 g3=>
      AD.fr (Fr.set (S:=fun k=>k=X) c rfl) g1 (by rw[Bl,Bl];exact BM g3 (hlA l)) (fun k b hk _=>.inr (.inl (by have hk:k=X:=hk;clear w1 w2;omega))) _ _
       (AD.fr (Fr.set (S:=fun k=>k=j) b rfl) (BL _) (BL _) (fun k b hk _=>.inr (by have hk:k=j:=hk;clear w1 w2;omega)) _ _ (hT.app l (BL _) (BL _)))
     have hTa:AD la ha h5 xa a:=AD.fr1 r4 f5 (BL _) (BL _) (AD.fr1 x5 f4 (BL _) (BL _) k7);refine AF.intro ⟨2,q',_⟩ ⟨FX _ _ _,x2,x3,?_,(Bn x3).trans ((Bn hji).trans (r5.app _)),by show p<q';clear w1 w2;omega,g3,.inr (.inr ⟨rfl,hk2,a,_,j,xa,.ptr qx 0 0,Be ?_,(Bn (Ne.symm hjX)).trans (Be ?_),?_,k5,tX _ _ _ _ _ _ _ hTa k3 (.inl k4) (by clear w1 w2;omega),tX _ _ _ _ _ _ _ hT (by clear w1 w2;omega) (.inr (by clear w1 w2;omega)) (BL _),er2⟩)⟩ ⟨rfl,rfl,⟨rfl,rfl,rfl,rfl,trivial⟩,rfl⟩ (by show 1<2;decide)
     ·simp only[Bl,Bp,BC,BD];clear w1 w2;omega
     ·simp only[Bl,Bp,BC,BD];clear w1 w2;omega
     ·simp only[Bp,BC,BD];clear w1 w2;omega
     ·simp only[Bl,Bp,BC,BD];clear w1 w2;omega
   ·have d0:decide (((1:Nat):Int)<De w)=false:=by rw[hwk.resolve_right hk2];decide
    unfold kH at hR;rw[if_neg hk2]at hR;simp only[d0,Af,Nat.reduceSub,Nat.reduceLT,Nat.reduceEqDiff,reduceCtorEq];refine Ao.intro aD _ (KY hL hS (by clear w1;omega) x7 x5 41 []) (fun r h4 hh=>?_) (fun v h' hh=>?_)
    rotate_left
    ·obtain⟨_,hh⟩:=hh;split at hh<;>cases hh.1
    obtain⟨f4,hh⟩:=hh;have F4:Fr (AU i) h h4:=x1.trans f4 fun k hk=>.inl hk
    have l4:=f4.1
    by_cases hm41:Cv ts q=[41]
    ·rw[if_pos hm41]at hh;obtain⟨er,r4⟩:=hh;cases er;rw[hR,if_pos hm41];simp only[Af,Bv,Nat.reduceLT,Nat.reduceEqDiff,reduceCtorEq];exact⟨F4,_,rfl,⟨by clear w1;omega,by clear w1;omega,j,0,xa,k5,by clear w1;omega,f4.at k1 x3,f4.at k2 (fun hj=>by have hj:j=i:=hj;subst hj;rw[show hy'[j]?=_ from x5]at k2;cases k2),AD.fr1 x5 f4 (by clear w1;omega) (by clear w1;omega) k7⟩,r4⟩
    ·rw[if_neg hm41]at hh;obtain⟨er,r4⟩:=hh;cases er;rw[hR,if_neg hm41];simp only[Af,Bf,Nat.reduceLT,Nat.reduceEqDiff,reduceCtorEq];exact⟨F4,rfl,q,r4⟩
  ·have d0:decide (((2:Nat):Int)<De w)=false:=by rw[hk2];decide
   unfold oW at hR;simp only[d0,Af,Nat.reduceSub,Nat.reduceLT,Nat.reduceEqDiff,reduceCtorEq];refine Ao.intro aD _ (KY hL hS (by clear w1;omega) x7 x5 41 []) (fun r h4 hh=>?_) (fun v h' hh=>?_)
   rotate_left
   ·obtain⟨_,hh⟩:=hh;split at hh<;>cases hh.1
   obtain⟨f4,hh⟩:=hh;have F4:Fr (AU i) h h4:=x1.trans f4 fun k hk=>.inl hk
   have l4:=f4.1
   by_cases hm41:Cv ts q=[41]
   ·rw[if_pos hm41]at hh;obtain⟨er,r4⟩:=hh;cases er;rw[hR,if_pos hm41];simp only[Af,Bv,Nat.reduceLT,Nat.reduceEqDiff,reduceCtorEq];exact⟨F4,_,rfl,⟨by clear w1;omega,by clear w1;omega,j,1,xa,xb,k4,by clear w1;omega,f4.at k1 x3,f4.at k2 (fun hj=>by have hj:j=i:=hj;subst hj;rw[show hy'[j]?=_ from x5]at k2;cases k2),AD.fr1 x5 f4 (by clear w1;omega) (by clear w1;omega) k5,AD.fr1 x5 f4 (by clear w1;omega) (by clear w1;omega) k6⟩,r4⟩
   ·rw[if_neg hm41]at hh;obtain⟨er,r4⟩:=hh;cases er;rw[hR,if_neg hm41];simp only[Af,Bf,Nat.reduceLT,Nat.reduceEqDiff,reduceCtorEq];exact⟨F4,rfl,q,r4⟩
variable {γ:List (Nat×AV)} {ts:List Tk} {L:AV}
theorem nN(hL:EV L ts)(hb:ts.length<4611686018427387904):∀ f,Wu γ ts L f:=by
 intro f
 induction f using Nat.strongRecOn with
 |ind f ih=>
  cases f with
  |zero=>
   refine⟨fun n h1 h6 h i p N ns hp hf=>?_,fun h i p N ns hp hf=>?_,fun h i p N ns hp hf=>?_,fun s h i p N ns hp hf=>?_⟩<;>simp only[Md.need]at hf<;>omega
  |succ f=>
   have H:∀ g≤f,Wu γ ts L g:=fun g hg=>ih g (Nat.lt_succ_of_le hg)
   exact⟨fun n h1 h6=>ZH hL hb H h1 h6,fO hL hb (H f (BL _)),cP hL hb H,fun s=>iA hL hb H s⟩
def HS(ts:List Tk)(p:Nat):Z5:=pr ts (16 * ts.length+16) (.bin 1) p
theorem c60:Ak Tp 60:=⟨_,Tryz.func60,by kernel_rfl,by kernel_rfl⟩
theorem oI:Ak Tp 113:=⟨_,Tryz.func113,by kernel_rfl,by kernel_rfl⟩
theorem Vk{h:List Aa}{j:Nat}:aK Tp γ 113 [.ptr j 0 0] h none fun h'=>h'=h:=by
 refine aK.of Tryz.func113 rfl rfl ?_;simp only[Vu,Tryz.f113,bP,Af,A7,seval]
 (repeat' (first|(with_reducible refine aI ?_ ?_)|(first|(first|refine gF ?_ ?_|refine gT ?_ ?_|refine cI ?_ ?_|refine pI ?_ ?_)<;>intro h|(refine dI ?_;have h:=trivial))<;>simp only[h,Af,A7,Bv,Bf,seval]))
 all_goals trace_state
theorem TJ{h:List Aa}{j q:Nat}{x:AV}(hj:h[j]?=some ⟨0,3,[x]⟩):aK Tp γ 113 [.ptr j 0 0] h (some (Hm q)) fun h'=>h'=(h++[(⟨0,185,[.v (.int .i64 q)]⟩:Aa)]).set j ⟨0,3,[.v (.int .i64 q)]⟩:=by
 have hl:j<h.length:=(Bs.1 hj).1;have s1:∀ x,(h++[x])[h.length]?=some x:=fun x=>by simp
 have s2:∀ x y,(h++[x]).set h.length y=h++[y]:=fun x y=>by simp
 have s3:∀ l,(h++l)[j]?=some ⟨0,3,[x]⟩:=fun l=>(Ba hl).trans hj
 refine aK.of Tryz.func113 rfl rfl ?_;simp only[Vu,Hm,Tryz.f113,Jr,s1,s2,s3,Af,A7,Bv,seval]
def YZ(L:AV)(i:Nat)(N:AV)(h:List Aa)(ns:List Nd)(r:Z5)(o:Out)(h':List Aa):Prop:=
 Fr (RP i N) h h'∧match r with
 |.ok t q=>o=.ret (.v (.int .i64 (-1)))∧∃ N',RS h' i L q N' (ns++lay t ns.length)∧∀ k,AZ N' k→AZ N k∨h.length≤k
 |.bad q=>o=.ret (.v (.int .i64 (q:Int)))
theorem QD(hL:EV L ts)(hb:ts.length<4611686018427387904){h:List Aa}{i p:Nat}{N:AV}{ns:List Nd}(hp:p≤ts.length)(hr:RS h i L p N ns)(hB:(ns.length+(ts.length-p)+1) * 96≤140737488355328):
  Ck Tp γ 60 [.ptr i 0 0] h (YZ L i N h ns (HS ts p)):=by
 have s1:∀ x,(h++[x])[h.length]?=some x:=fun x=>by simp
 have hc:=(nN (γ:=γ) hL hb (16 * ts.length+16)).bin 1 (by decide) (by decide) (h++[⟨0,3,[.v (.int .i64 0)]⟩]) i p N ns hp (by simp only[Md.need];omega) (hr.app _) hB;have hfr:Fr (RP i N) h (h++[⟨0,3,[.v (.int .i64 0)]⟩]):=Fr.app _ _;have hkeep:∀ h1,Fr (RP i N) (h++[⟨0,3,[.v (.int .i64 0)]⟩]) h1→h1[h.length]?=some ⟨0,3,[.v (.int .i64 0)]⟩:=fun h1 f=>f.at (s1 _) fun hk=>hk.elim (fun e=>by have:=hr.lt;omega) fun e=>by have:=hr.nlt e;omega
 refine Ck.ofD2 Tryz.func60 rfl ?_;have e0:(#[]:Array Operand).isEmpty=true:=rfl;simp only[Ni,Qs,e0,Tryz.f60,Af,A7,seval];refine Ao.intro XE _ hc (fun r h1 hh=>?_) (fun v h1 hh=>?_)
 ·have hk:=hkeep h1 hh.1;simp only[hk,Po,Na,Af,A7,seval];refine⟨oI,_,Vk,fun h' e=>?_⟩;subst e;have hlt:h.length<h1.length:=(Bs.1 hk).1;have s2:∀ b,(h1.set h.length b)[h.length]?=some b:=fun b=>Be hlt
  simp only[s2,Af];show YZ L i N h ns (pr ts (16 * ts.length+16) (.bin 1) p) _ _;cases e:pr ts (16 * ts.length+16) (.bin 1) p with
  |bad q=>rw[e]at hh;exact hh.bad_ret.elim
  |ok t q=>
   rw[e]at hh;obtain⟨_,f1,N1,r1,n1⟩:=hh.ok_ret;have n1':∀ k,AZ N1 k→AZ N k∨h.length+1≤k:=fun k hk=>(n1 k hk).imp id fun e=>by simpa using e
   have hj:h.length≠i:=by have:=hr.lt;omega
   have hnj:¬AZ N1 h.length:=fun hk=>(n1' _ hk).elim (fun e=>by have:=hr.nlt e;omega) fun e=>by omega
   exact⟨(Fr.more hfr f1 fun k hk=>.inl hk).trans (S1:=fun k=>k=h.length) (Fr.set _ rfl) fun k e=>.inr (by omega),rfl,N1,r1.setO hj hnj,fun k hk=>(n1' k hk).imp id fun e=>by omega⟩
 ·have hk:=hkeep h1 hh.1;have hlt:h.length<h1.length:=(Bs.1 hk).1;cases e:pr ts (16 * ts.length+16) (.bin 1) p with
  |ok t q=>rw[e]at hh;exact hh.ok_pan.elim
  |bad q=>
   rw[e]at hh;have ev:v=Hm q:=by have:=hh.2;cases this;rfl
   subst ev;simp only[Na,Af,A7,seval];refine⟨oI,_,TJ hk,fun h' e'=>?_⟩;subst e';have s2:∀ l b,((h1++l).set h.length b)[h.length]?=some b:=fun l b=>Be (by rw[Bp];omega)
   simp only[s2,Af];show YZ L i N h ns (pr ts (16 * ts.length+16) (.bin 1) p) _ _;rw[e];exact⟨((Fr.more hfr hh.1 fun k hk=>.inl hk).trans (S1:=fun _=>False) (Fr.app _ _) fun k e=>e.elim).trans (S1:=fun k=>k=h.length) (Fr.set _ rfl) fun k e=>.inr (by omega),rfl⟩
theorem jT(hL:EV L all)(hS:bQ γ sB all ts from_):∀ f,RE γ ts from_ L f:=by
 intro f
 induction f using Nat.strongRecOn with
 |ind f ih=>
  cases f with
  |zero=>
   refine⟨fun n h1 h6 h i p _ hp hf=>?_,fun h i p _ hp hf=>?_,fun h i p _ hp hf=>?_⟩<;>simp only[Md.need]at hf<;>omega
  |succ f=>
   have H:∀ g≤f,RE γ ts from_ L g:=fun g hg=>ih g (Nat.lt_succ_of_le hg)
   exact⟨fun n h1 h6=>cN hL hS H h1 h6,k8 hL hS (H f (BL _)),k9 (fP hL hS H)⟩
theorem WR(hL:EV L all)(hS:bQ γ sB all ts from_){h:List Aa}{i p:Nat}(hf:from_≤p)(hp:p≤ts.length)(hr:RT h i L p (-1)):
  Ck Tp γ 62 [.ptr i 0 0,.v (.int .i64 1)] h (RY L i h (HS ts p)):=
 (jT hL hS (16 * ts.length+16)).bin 1 (by decide) (by decide) h i p hf hp (by simp only[Md.need];omega) hr
def Da(most:Nat):Tr→Nat×Nat
 |.lf .. =>(1,1)
 |.un _ a=>(1+(Da most a).1,(Da most a).2+1)
 |.bi _ a b=>if most<1+(Da most a).1 then (1+(Da most a).1,(Da most a).2+1)else (1+(Da most a).1+(Da most b).1,max (Da most a).2 (Da most b).2+1)
theorem Nt(most:Nat)(t:Tr):(Da most t).1≤t.size∧(Da most t).2≤t.deep∧1≤(Da most t).2:=by
 induction t with
 |lf=>exact⟨BL _,BL _,BL _⟩
 |un k a ih=>simp only[Da,Tr.size,Tr.deep];omega
 |bi k a b iha ihb=>simp only[Da,Tr.size,Tr.deep];split<;>simp only<;>omega
theorem Qu(t:Tr):t.deep≤t.size:=by
 induction t with
 |lf=>exact BL _
 |un k a ih=>simp only[Tr.size,Tr.deep];omega
 |bi k a b iha ihb=>simp only[Tr.size,Tr.deep];omega
theorem jN(most:Nat)(t:Tr):((Da most t).1≤most→Da most t=(t.size,t.deep))∧(most<(Da most t).1→most<t.size):=by
 refine⟨?_,fun h=>by have:=(Nt most t).1;omega⟩
 induction t with
 |lf=>intro _;rfl
 |un k a ih=>
  intro h;simp only[Da]at h⊢;have:=ih (by omega);rw[this];show ((1+a.size,a.deep+1):Nat×Nat)=(a.size+1,a.deep+1);rw[Nat.add_comm]
 |bi k a b iha ihb=>
  intro h;simp only[Da]at h⊢
  split at h
  ·rename_i h1;simp only at h;omega
  ·rename_i h1;rw[if_neg h1];simp only at h;have ea:=iha (by omega);have eb:=ihb (by omega);rw[ea,eb];show ((1+a.size+b.size,max a.deep b.deep+1):Nat×Nat)=(a.size+b.size+1,max a.deep b.deep+1);rw[show 1+a.size+b.size=a.size+b.size+1 by omega]
theorem cZ:Ak Tp 118:=⟨_,Tryz.func118,by kernel_rfl,by kernel_rfl⟩
theorem c63:Ak Tp 63:=⟨_,Tryz.func63,by kernel_rfl,by kernel_rfl⟩
theorem o6:Ak Tp 64:=⟨_,Tryz.func64,by kernel_rfl,by kernel_rfl⟩
def eP(γ:List (Nat×AV))(x:AV)(most:Nat)(h:List Aa)(y:Nat×Nat×Nat):St:=⟨⟨47,[(0,x),(1,.v (.int .i64 (most:Int))),(6,.v (.int .i64 (y.2.1:Int))),(7,.v (.int .i64 (y.2.2:Int))),(8,.v (.int .i64 (y.1:Int)))],γ⟩,h⟩
theorem iE(most:Nat)(hm:most<4611686018427387904):∀ (t:Tr) (lo hi:Nat) (h:List Aa) (x:AV),t.size<4611686018427387904→AD lo hi h x t→
  Ck Tp γ 118 [x,.v (.int .i64 (most:Int))] h fun o h'=>o=.ret (.tup [.v (.int .i64 ((Da most t).1:Int)),.v (.int .i64 ((Da most t).2:Int))])∧h'=h:=by
 intro t
 induction t with
 |lf k nm vk vi vr vt=>
  intro lo hi h x hsz hT;obtain⟨q,rfl⟩:=hT.ptr;have hq:=hT.2.2;refine Ck.of Tryz.func118 rfl ?_;simp only[Tryz.f118,Af,Nat.reduceAdd,Nat.reduceSub,Nat.reduceLT];refine Cp.intro (eP γ (.ptr q 0 0) most h) (fun y=>y=(0,1,0)) (fun y=>0) (0,1,0) ⟨rfl,rfl,⟨rfl,rfl,rfl,rfl,rfl,trivial⟩,rfl⟩ rfl (fun y hy=>?_);subst hy;have d0:decide (((0:Nat):Int)<0)=false:=by decide
  have w1:IntKind.i64.wrap (((0:Nat):Int)+1)=((1:Nat):Int):=(A4 (by decide) (by decide)).trans rfl;simp only[eP,Dt,hq,d0,w1,Da,Af,Nat.reduceLT,Nat.reduceEqDiff,reduceCtorEq]
 |un k a ih=>
  intro lo hi h x hsz hT;obtain⟨q,rfl⟩:=hT.ptr;obtain⟨_,_,j,ver,xa,_,_,hq,hj,hTa⟩:=hT;have hl:=Nt most a;have hd:=Qu a;simp only[Tr.size]at hsz;have hc:=ih lo hi h xa (by omega) hTa;refine Ck.of Tryz.func118 rfl ?_;simp only[Tryz.f118,Af,Nat.reduceAdd,Nat.reduceSub,Nat.reduceLT];refine Cp.intro (eP γ (.ptr q 0 0) most h) (fun y=>y=(0,1,0)∨(y=(1,1+(Da most a).1,(Da most a).2)∧1+(Da most a).1≤most)) (fun y=>1-y.1) (0,1,0) ⟨rfl,rfl,⟨rfl,rfl,rfl,rfl,rfl,trivial⟩,rfl⟩ (.inl rfl) (fun y hy=>?_);have w9:IntKind.i64.wrap (((Da most a).2:Int)+1)=(((Da most a).2+1:Nat):Int):=(A4 (by omega) (by omega)).trans (by omega)
  rcases hy with rfl|⟨rfl,hle⟩
  ·have d0:decide (((0:Nat):Int)<1)=true:=by decide
   have d0':decide (((0:Nat):Int)<((1:Nat):Int))=true:=by decide
   have w0:IntKind.i64.wrap (((0:Nat):Int)+1)=((1:Nat):Int):=(A4 (by decide) (by decide)).trans rfl;have w1:IntKind.i64.wrap (((1:Nat):Int)+((Da most a).1:Int))=((1+(Da most a).1:Nat):Int):=(A4 (by omega) (by omega)).trans (by omega);have m1:(if ((Da most a).2:Int)>((0:Nat):Int)then ((Da most a).2:Int)else ((0:Nat):Int))=((Da most a).2:Int):=if_pos (by clear w0 w1 w9;omega);have m2:(if 0<(Da most a).2 then ((Da most a).2:Int)else ((0:Nat):Int))=((Da most a).2:Int):=if_pos (by clear w0 w1 w9;omega);simp only[eP,Dt,hq,hj,Af,Nat.reduceLT,Nat.reduceEqDiff,reduceCtorEq];refine Ao.intro cZ _ hc (fun r h2 hh=>?_) (fun v h' hh=>by cases hh.1);obtain⟨e,rfl⟩:=hh;cases e
   by_cases hb:most<1+(Da most a).1
   ·have d1:decide (most<1+(Da most a).1)=true:=decide_eq_true hb;simp only[Da,w1,m2,d1,w9,Af,Nat.reduceLT,Nat.reduceEqDiff,reduceCtorEq]
   ·have d1:decide (most<1+(Da most a).1)=false:=decide_eq_false hb;simp only[Da,w1,m2,d1,w0,Af,Nat.reduceLT,Nat.reduceEqDiff,reduceCtorEq];exact AF.intro (1,1+(Da most a).1,(Da most a).2) (.inr ⟨rfl,by clear w0 w1 w9;omega⟩) ⟨rfl,rfl,⟨rfl,rfl,rfl,rfl,rfl,trivial⟩,rfl⟩ (by show 0<1;decide)
  ·have d0:decide (((1:Nat):Int)<1)=false:=by decide
   have d0':decide (((1:Nat):Int)<((1:Nat):Int))=false:=by decide
   simp only[eP,Da,Dt,hq,hj,w9,Af,Nat.reduceSub,Nat.reduceLT,Nat.reduceEqDiff,reduceCtorEq]
 |bi k a b iha ihb=>
  intro lo hi h x hsz hT;obtain⟨q,rfl⟩:=hT.ptr;obtain⟨_,_,j,ver,xa,xb,_,_,hq,hj,hTa,hTb⟩:=hT;have hl:=Nt most a;have hd:=Qu a;have hl2:=Nt most b;have hd2:=Qu b;simp only[Tr.size]at hsz;have hc:=iha lo hi h xa (by omega) hTa;have hc2:=ihb lo hi h xb (by omega) hTb;refine Ck.of Tryz.func118 rfl ?_;simp only[Tryz.f118,Af,Nat.reduceAdd,Nat.reduceSub,Nat.reduceLT];refine Cp.intro (eP γ (.ptr q 0 0) most h) (fun y=>y=(0,1,0)∨(y=(1,1+(Da most a).1,(Da most a).2)∧1+(Da most a).1≤most)∨(y=(2,1+(Da most a).1+(Da most b).1,max (Da most a).2 (Da most b).2)∧1+(Da most a).1≤most)) (fun y=>2-y.1) (0,1,0) ⟨rfl,rfl,⟨rfl,rfl,rfl,rfl,rfl,trivial⟩,rfl⟩ (.inl rfl) (fun y hy=>?_);have w9:IntKind.i64.wrap (((Da most a).2:Int)+1)=(((Da most a).2+1:Nat):Int):=(A4 (by omega) (by omega)).trans (by omega);have w8:IntKind.i64.wrap (((max (Da most a).2 (Da most b).2:Nat):Int)+1)=((max (Da most a).2 (Da most b).2+1:Nat):Int):=(A4 (by clear w9;omega) (by clear w9;omega)).trans (by clear w9;omega);have z2:((2:Nat):Int)=2:=rfl
  rcases hy with rfl|⟨rfl,hle⟩|⟨rfl,hle⟩
  ·have d0:decide (((0:Nat):Int)<2)=true:=by decide
   have d0':decide (((0:Nat):Int)<((2:Nat):Int))=true:=by decide
   have w0:IntKind.i64.wrap (((0:Nat):Int)+1)=((1:Nat):Int):=(A4 (by decide) (by decide)).trans rfl;have w1:IntKind.i64.wrap (((1:Nat):Int)+((Da most a).1:Int))=((1+(Da most a).1:Nat):Int):=(A4 (by clear w9 w8 w0;omega) (by clear w9 w8 w0;omega)).trans (by clear w9 w8 w0;omega);have m1:(if ((Da most a).2:Int)>((0:Nat):Int)then ((Da most a).2:Int)else ((0:Nat):Int))=((Da most a).2:Int):=if_pos (by clear w0 w1 w9 w8;omega);have m2:(if 0<(Da most a).2 then ((Da most a).2:Int)else ((0:Nat):Int))=((Da most a).2:Int):=if_pos (by clear w0 w1 w9 w8;omega);simp only[eP,Dt,hq,hj,Af,Nat.reduceLT,Nat.reduceEqDiff,reduceCtorEq];refine Ao.intro cZ _ hc (fun r h2 hh=>?_) (fun v h' hh=>by cases hh.1);obtain⟨e,rfl⟩:=hh;cases e
   by_cases hb:most<1+(Da most a).1
   ·have d1:decide (most<1+(Da most a).1)=true:=decide_eq_true hb;simp only[Da,if_pos hb,w1,m2,d1,w9,Af,Nat.reduceLT,Nat.reduceEqDiff,reduceCtorEq]
   ·have d1:decide (most<1+(Da most a).1)=false:=decide_eq_false hb;simp only[w1,m2,d1,w0,Af,Nat.reduceLT,Nat.reduceEqDiff,reduceCtorEq];exact AF.intro (1,1+(Da most a).1,(Da most a).2) (.inr (.inl ⟨rfl,by clear w0 w1 w9 w8;omega⟩)) ⟨rfl,rfl,⟨rfl,rfl,rfl,rfl,rfl,trivial⟩,rfl⟩ (by show 1<2;decide)
  ·have d0:decide (((1:Nat):Int)<2)=true:=by decide
   have d0':decide (((1:Nat):Int)<((2:Nat):Int))=true:=by decide
   have w0:IntKind.i64.wrap (((1:Nat):Int)+1)=((2:Nat):Int):=(A4 (by decide) (by decide)).trans rfl;have w1:IntKind.i64.wrap (((1+(Da most a).1:Nat):Int)+((Da most b).1:Int))=((1+(Da most a).1+(Da most b).1:Nat):Int):=(A4 (by clear w9 w8 w0;omega) (by clear w9 w8 w0;omega)).trans (by clear w9 w8 w0;omega);have m2:(if (Da most a).2<(Da most b).2 then ((Da most b).2:Int)else ((Da most a).2:Int))=((max (Da most a).2 (Da most b).2:Nat):Int):=by clear w0 w1 w9 w8;split<;>omega
   have hnb:¬most<1+(Da most a).1:=by clear w0 w1 w9 w8;omega
   simp only[eP,Dt,hq,hj,Af,Nat.reduceSub,Nat.reduceLT,Nat.reduceEqDiff,reduceCtorEq];refine Ao.intro cZ _ hc2 (fun r h2 hh=>?_) (fun v h' hh=>by cases hh.1);obtain⟨e,rfl⟩:=hh;cases e
   by_cases hb:most<1+(Da most a).1+(Da most b).1
   ·have d1:decide (most<1+(Da most a).1+(Da most b).1)=true:=decide_eq_true hb;simp only[Da,if_neg hnb,w1,m2,d1,w8,Af,Nat.reduceLT,Nat.reduceEqDiff,reduceCtorEq]
   ·have d1:decide (most<1+(Da most a).1+(Da most b).1)=false:=decide_eq_false hb;simp only[w1,m2,d1,w0,Af,Nat.reduceLT,Nat.reduceEqDiff,reduceCtorEq];exact AF.intro (2,1+(Da most a).1+(Da most b).1,max (Da most a).2 (Da most b).2) (.inr (.inr ⟨rfl,hle⟩)) ⟨rfl,rfl,⟨rfl,rfl,rfl,rfl,rfl,trivial⟩,rfl⟩ (by show 0<1;decide)
  ·have d0:decide (((2:Nat):Int)<2)=false:=by decide
   have d0':decide (((2:Nat):Int)<((2:Nat):Int))=false:=by decide
   have hnb:¬most<1+(Da most a).1:=by clear w9 w8;omega
   simp only[eP,Da,if_neg hnb,Dt,hq,hj,w8,Af,Nat.reduceSub,Nat.reduceLT,Nat.reduceEqDiff,reduceCtorEq]
theorem Qd{t:Tr}{lo hi:Nat}{h:List Aa}{x:AV}(hsz:t.size<4611686018427387904)(hT:AD lo hi h x t):
  Ck Tp γ 63 [x] h fun o h'=>o=.ret (.v (.int .i64 (Fa t.size t.deep)))∧h'=h:=by
 have hc:=iE (γ:=γ) 1048576 (by decide) t lo hi h x hsz hT;have hq:=jN 1048576 t;have hle:=Nt 1048576 t;have c0:((1048576:Nat):Int)=1048576:=rfl;rw[c0]at hc;refine Ck.of Tryz.func63 rfl ?_;simp only[Tryz.f63,Af,Nat.reduceAdd,Nat.reduceSub,Nat.reduceLT,Nat.reduceEqDiff,reduceCtorEq];refine Ao.intro cZ _ hc (fun r h2 hh=>?_) (fun v h' hh=>by cases hh.1);obtain⟨e,rfl⟩:=hh;cases e;unfold Fa
 by_cases h64:64<t.size
 ·have d1:decide ((64:Int)<(((Da 1048576 t).1:Nat):Int))=true:=decide_eq_true (by
   by_cases hb:(Da 1048576 t).1≤1048576
   ·rw[hq.1 hb];omega
   ·omega)
  rw[if_pos h64];simp only[d1,Af,Nat.reduceLT,Nat.reduceEqDiff,reduceCtorEq]
 ·have hb:Da 1048576 t=(t.size,t.deep):=hq.1 (by omega);rw[hb,if_neg h64];have d1:decide ((64:Int)<((t.size:Nat):Int))=false:=decide_eq_false (by omega)
  by_cases h12:12<t.deep
  ·have d2:decide ((12:Int)<((t.deep:Nat):Int))=true:=decide_eq_true (by omega);rw[if_pos h12];simp only[d1,d2,Af,Nat.reduceLT,Nat.reduceEqDiff,reduceCtorEq]
  ·have d2:decide ((12:Int)<((t.deep:Nat):Int))=false:=decide_eq_false (by omega);rw[if_neg h12];simp only[d1,d2,Af,Nat.reduceLT,Nat.reduceEqDiff,reduceCtorEq]
def mZ(N:AV)(h:List Aa)(ms:List Nd)(o:Out)(h':List Aa):Prop:=
 Fr (AZ N) h h'∧∃ N',o=.ret N'∧HC h' N' ms∧∀ k,AZ N' k→AZ N k∨h.length≤k
theorem HC.lt{h:List Aa}{N:AV}{ns:List Nd}(a:HC h N ns){k:Nat}(hk:AZ N k):k<h.length:=by
 rcases a with⟨rfl,_⟩|⟨j,ver,rfl,hj⟩
 ·exact hk.elim
 ·have hk':k=j:=hk;subst hk';exact (Bs.1 hj).1
theorem HC.blk{h:List Aa}{N:AV}{ns:List Nd}(a:HC h N ns){k:Nat}(hk:AZ N k){b:Aa}(hb:h[k]?=some b):b.e=115:=by
 rcases a with⟨rfl,_⟩|⟨j,ver,rfl,hj⟩
 ·exact hk.elim
 ·have hk':k=j:=hk;subst hk';rw[hj]at hb;cases hb;rfl
theorem HC.own{h:List Aa}{N:AV}{ns:List Nd}(a:HC h N ns)(hn:0<ns.length):∃ j ver,N=.own j ver ns.length∧h[j]?=some ⟨ver,115,Cj ns⟩:=by
 rcases a with⟨_,rfl⟩|a
 ·exact absurd hn (by decide)
 ·exact a
theorem HC.setO{h:List Aa}{N:AV}{ns:List Nd}(a:HC h N ns){X:Nat}{b:Aa}(hX:¬AZ N X):HC (h.set X b) N ns:=a.fr (S:=AU X) (Fr.set b rfl) fun k hk e=>hX (by have e:k=X:=e;exact e▸hk)
structure LdY where
 k:Nat
 N:AV
 h:List Aa
def cA(γ:List (Nat×AV))(x N:AV)(X k:Nat)(h:List Aa):St:=⟨⟨52,[(0,x),(1,N),(5,.ptr X 0 0),(6,.v (.int .i64 (k:Int)))],γ⟩,h⟩
theorem gL:∀ (t:Tr) (lo hi:Nat) (h:List Aa) (x N:AV) (ns:List Nd),AD lo hi h x t→HC h N ns→(ns.length+t.size) * 96≤140737488355328→
  Ck Tp γ 64 [x,N] h (mZ N h (ns++lay t ns.length)):=by
 intro t
 induction t with
 |lf k nm vk vi vr vt=>
  intro lo hi h x N ns hT hN hB;obtain⟨q,rfl⟩:=hT.ptr;have hq:=hT.2.2;have hqN:¬AZ N q:=fun hk=>by have:=hN.blk hk hq;cases this
  have g1:∀ l,(h++l)[q]?=_:=fun l=>(Ba (Bs.1 hq).1).trans hq
  have s1:∀ x,(h++[x])[h.length]?=some x:=fun x=>by simp
  have s2:∀ x y,(h++[x]).set h.length y=h++[y]:=fun x y=>by simp
  refine Ck.of Tryz.func64 rfl ?_;simp only[Tryz.f64,Af,seval];refine dX ?_;obtain⟨X,hX⟩:∃ X,X=h.length:=⟨_,rfl⟩;have qX:(h++[(⟨0,115,Nd.cells ⟨k,0,0,nm,vk,vi,vr,vt⟩⟩:Aa)])[X]?=some ⟨0,115,Nd.cells ⟨k,0,0,nm,vk,vi,vr,vt⟩⟩:=by rw[hX];exact s1 _
  simp only[Dt,hq,s1,s2,Af,A7,seval];refine Cp.intro (fun y=>cA γ (.ptr q 0 0) N X 0 (h++[⟨0,115,Nd.cells ⟨k,0,0,nm,vk,vi,vr,vt⟩⟩])) (fun y:Unit=>True) (fun y=>0) () ⟨rfl,rfl,⟨rfl,rfl,by rw[hX];rfl,rfl,trivial⟩,rfl⟩ trivial (fun y hy=>?_);have d0:decide (((0:Nat):Int)<0)=false:=by decide
  have q1:=g1 [⟨0,115,Nd.cells ⟨k,0,0,nm,vk,vi,vr,vt⟩⟩];obtain⟨H1,hH1⟩:∃ H1,H1=h++[(⟨0,115,Nd.cells ⟨k,0,0,nm,vk,vi,vr,vt⟩⟩:Aa)]:=⟨_,rfl⟩;rw[←hH1]at q1 qX⊢;have hN1:HC H1 N ns:=by rw[hH1];exact hN.fr (S:=BR) (Fr.app h _) fun _ _ h=>h
  have FF:Fr (AZ N) h H1:=by rw[hH1];exact Fr.app h _
  simp only[cA,Dt,q1,d0,Af,A7,seval];have hXN:¬AZ N X:=fun hk=>by have:=hN.lt hk;omega
  rcases hN1 with⟨rfl,en⟩|⟨j,ver,rfl,hj⟩
  ·have hk1:H1[X]?=_:=qX;simp only[Nd.cells]at hk1;have g1:∀ l,(H1++l)[X]?=_:=fun l=>(Ba (Bs.1 hk1).1).trans hk1
   have g2:∀ x l,(H1++x::l)[H1.length]?=some x:=fun x l=>by simp
   simp only[hk1,g2,Bo,Af,A7,seval];rw[(show lay (.lf k nm vk vi vr vt) ns.length=[⟨k,0,0,nm,vk,vi,vr,vt⟩]from rfl),en];refine⟨FF.trans (S1:=BR) (Fr.app H1 _) fun k hk=>False.elim hk,_,rfl,.inr ⟨H1.length+1,0,rfl,by simp[Cj,Nd.cells]⟩,fun k hk=>.inr (by have hk:k=H1.length+1:=hk;have:=FF.1;omega)⟩
  ·have hk1:H1[X]?=_:=qX;simp only[Nd.cells]at hk1;have hjl:=(Bs.1 hj).1;have g1:∀ l,(H1++l)[X]?=_:=fun l=>(Ba (Bs.1 hk1).1).trans hk1
   have g2:∀ x l,(H1++x::l)[H1.length]?=some x:=fun x l=>by simp
   have g3:∀ l,(H1++l)[j]?=_:=fun l=>(Ba hjl).trans hj
   have q4:=GG ns;have q5:=Dg ns;have q6:ns.length * 9≤(Cj ns).length:=by omega
   simp only[hk1,g2,g3,q4,q5,Af,A7,seval];refine⟨⟨BL _,hB⟩,?_⟩;rw[(show lay (.lf k nm vk vi vr vt) ns.length=[⟨k,0,0,nm,vk,vi,vr,vt⟩]from rfl)];refine⟨(FF.trans (S1:=BR) (Fr.app H1 _) fun k hk=>False.elim hk).trans (Fr.set (S:=AZ (.own j ver ns.length)) _ rfl) fun k hk=>.inl hk,_,rfl,.inr ⟨j,ver+1,by rw[Bp];rfl,?_⟩,fun k hk=>.inl hk⟩;rw[Be (by rw[Bp];omega),Hy];rfl
 |un k a ih=>
  intro lo hi h x N ns hT hN hB;obtain⟨q,rfl⟩:=hT.ptr;obtain⟨_,_,jk,vk,xa,_,_,hq,hjk,hTa⟩:=hT;have hqN:¬AZ N q:=fun hk=>by have:=hN.blk hk hq;cases this
  have hjkN:¬AZ N jk:=fun hk=>by have:=hN.blk hk hjk;cases this
  have g1:∀ l,(h++l)[q]?=_:=fun l=>(Ba (Bs.1 hq).1).trans hq
  have s1:∀ x,(h++[x])[h.length]?=some x:=fun x=>by simp
  have s2:∀ x y,(h++[x]).set h.length y=h++[y]:=fun x y=>by simp
  have hql:=(Bs.1 hq).1;have hjkl:=(Bs.1 hjk).1;refine Ck.of Tryz.func64 rfl ?_;simp only[Tryz.f64,Af,seval];refine dX ?_;obtain⟨X,hX⟩:∃ X,X=h.length:=⟨_,rfl⟩;simp only[Dt,hq,s1,s2,Af,A7,seval];have hsa:=B2 a ns.length;have hpa:=size_pos a;simp only[Tr.size]at hB
  refine Cp.intro (fun y=>cA γ (.ptr q 0 0) y.N X y.k y.h)
   (fun y:LdY=>(y.k=0∧y.N=N∧y.h=h++[⟨0,115,Nd.cells ⟨k,0,0,[],0,0,0,[]⟩⟩])∨
    (y.k=1∧Fr (AZ N) h y.h∧HC y.h y.N (ns++lay a ns.length)∧(∀ k,AZ y.N k→AZ N k∨h.length≤k)∧¬AZ y.N X∧y.h[X]?=some ⟨0,115,Nd.cells ⟨k,((ns.length+a.size-1:Nat):Int),0,[],0,0,0,[]⟩⟩))
   (fun y=>1-y.k) ⟨0,N,_⟩ ⟨rfl,rfl,⟨rfl,rfl,by rw[hX];rfl,rfl,trivial⟩,rfl⟩ (.inl ⟨rfl,rfl,rfl⟩) (fun y hy=>?_)
  obtain⟨yk,yN,yh⟩:=y
  rcases hy with⟨e1,e2,e3⟩|⟨e1,FF,hN1,hnk,hXN1,hX1⟩
  ·simp only at e1 e2 e3;subst e1;subst e2;have d0:decide (((0:Nat):Int)<1)=true:=by decide
   have d0':decide (((0:Nat):Int)<((1:Nat):Int))=true:=by decide
   have z0:(((0:Nat):Int)==0)=true:=rfl;have w0:IntKind.i64.wrap (((0:Nat):Int)+1)=((1:Nat):Int):=(A4 (by decide) (by decide)).trans rfl;have q1:=g1 [⟨0,115,Nd.cells ⟨k,0,0,[],0,0,0,[]⟩⟩];have qj:yh[jk]?=some ⟨vk,110,[xa]⟩:=by rw[e3];exact (Ba hjkl).trans hjk
   have qX:yh[X]?=some ⟨0,115,Nd.cells ⟨k,0,0,[],0,0,0,[]⟩⟩:=by rw[e3,hX];exact s1 _
   have hXN:¬AZ yN X:=fun hk=>by have:=hN.lt hk;omega
   have hNy:HC yh yN ns:=by rw[e3];exact hN.fr (S:=BR) (Fr.app h _) fun _ _ h=>h
   have Fy:Fr (AZ yN) h yh:=by rw[e3];exact Fr.app h _
   have hyl:yh.length=h.length+1:=by rw[e3];simp
   have hTy:AD lo hi yh xa a:=by rw[e3];exact hTa.app _ (BL _) (BL _)
   rw[←e3]at q1;simp only[cA,Dt,q1,qj,Af,seval];refine Ao.intro o6 _ (ih lo hi yh xa yN ns hTy hNy (by omega)) (fun r h2 hh=>?_) (fun v h' hh=>by obtain⟨_,_,e,_⟩:=hh;cases e);obtain⟨f2,N1,er,hN1,n1⟩:=hh;cases er;have hlen:(ns++lay a ns.length).length=ns.length+a.size:=by rw[Bp,hsa]
   obtain⟨j,ver,rfl,hj⟩:=hN1.own (by omega);have q2:h2[X]?=some ⟨0,115,Nd.cells ⟨k,0,0,[],0,0,0,[]⟩⟩:=f2.at qX hXN;have hXj:¬AZ (.own j ver (ns++lay a ns.length).length) X:=fun hk=>(n1 X hk).elim hXN fun e=>by omega
   have w1:IntKind.i64.wrap (((ns.length+a.size:Nat):Int)-1)=((ns.length+a.size-1:Nat):Int):=(A4 (by omega) (by omega)).trans (by omega);simp only[Nd.cells]at q2;rw[hlen]at *;simp only[Dt,z0,hj,q2,w1,w0,Af,A7,seval];refine AF.intro ⟨1,.own j ver (ns.length+a.size),_⟩ (.inr ⟨rfl,((Fy.trans f2 fun k hk=>.inl hk).trans (Fr.set (S:=AU X) _ rfl) fun k hk=>.inr (by have hk:k=X:=hk;omega)),hN1.setO hXj,fun k hk=>(n1 k hk).imp id fun e=>by omega,hXj,Be (Bs.1 q2).1⟩) ⟨rfl,rfl,⟨rfl,rfl,rfl,rfl,trivial⟩,rfl⟩ (by show 0<1;decide)
  ·simp only at e1 FF hN1 hnk hXN1 hX1;subst e1;have d0:decide (((1:Nat):Int)<1)=false:=by decide
   have hqy:yh[q]?=_:=FF.at hq hqN;have qjy:yh[jk]?=some ⟨vk,110,[xa]⟩:=FF.at hjk hjkN;have hlen:(ns++lay a ns.length).length=ns.length+a.size:=by rw[Bp,hsa]
   have hXN:¬AZ yN X:=hXN1;obtain⟨j,ver,eN,hj⟩:=hN1.own (by omega);subst eN;have hk1:yh[X]?=_:=hX1;simp only[Nd.cells]at hk1;have hjl:=(Bs.1 hj).1;have g1:∀ l,(yh++l)[X]?=_:=fun l=>(Ba (Bs.1 hk1).1).trans hk1
   have g2:∀ x l,(yh++x::l)[yh.length]?=some x:=fun x l=>by simp
   have g3:∀ l,(yh++l)[j]?=_:=fun l=>(Ba hjl).trans hj
   have q4:=GG (ns++lay a ns.length);have q5:=Dg (ns++lay a ns.length);have q6:(ns++lay a ns.length).length * 9≤(Cj (ns++lay a ns.length)).length:=by omega
   rw[hlen]at *;simp only[cA,Dt,hqy,qjy,hk1,g2,g3,q4,q5,Af,A7,seval];refine⟨⟨BL _,(by omega)⟩,?_⟩;rw[show lay (.un k a) ns.length=lay a ns.length++[⟨k,((ns.length+a.size-1:Nat):Int),0,[],0,0,0,[]⟩]from rfl];refine⟨(FF.trans (S1:=BR) (Fr.app yh _) fun k hk=>False.elim hk).trans (Fr.set (S:=AU j) _ rfl) (fun k hk=>hnk k hk),_,rfl,.inr ⟨j,ver+1,by rw[show (ns++(lay a ns.length++[(⟨k,((ns.length+a.size-1:Nat):Int),0,[],0,0,0,[]⟩:Nd)])).length=ns.length+a.size+1 by simp only[Bp,hsa,BC,BD];omega],?_⟩,(fun k hk=>hnk k hk)⟩;rw[Be (by rw[Bp];omega)];simp only[Hy,Bo];rfl
 |bi k a b iha ihb=>
  intro lo hi h x N ns hT hN hB;obtain⟨q,rfl⟩:=hT.ptr;obtain⟨_,_,jk,vk,xa,xb,_,_,hq,hjk,hTa,hTb⟩:=hT;have hqN:¬AZ N q:=fun hk=>by have:=hN.blk hk hq;cases this
  have hjkN:¬AZ N jk:=fun hk=>by have:=hN.blk hk hjk;cases this
  have g1:∀ l,(h++l)[q]?=_:=fun l=>(Ba (Bs.1 hq).1).trans hq
  have s1:∀ x,(h++[x])[h.length]?=some x:=fun x=>by simp
  have s2:∀ x y,(h++[x]).set h.length y=h++[y]:=fun x y=>by simp
  have hql:=(Bs.1 hq).1;have hjkl:=(Bs.1 hjk).1;refine Ck.of Tryz.func64 rfl ?_;simp only[Tryz.f64,Af,seval];refine dX ?_;obtain⟨X,hX⟩:∃ X,X=h.length:=⟨_,rfl⟩;simp only[Dt,hq,s1,s2,Af,A7,seval];have hsa:=B2 a ns.length;have hsb:=B2 b (ns.length+a.size);have hpa:=size_pos a;have hpb:=size_pos b;simp only[Tr.size]at hB;have hbnd:(ns.length+a.size+b.size+1) * 96≤140737488355328:=by rw[show ns.length+a.size+b.size+1=ns.length+(a.size+b.size+1)by omega];exact hB
  have hjlen:∀ (l:List Aa) (x:Aa) (j:Nat),j<l.length→j<(l++[x]).length:=fun l x j h=>by rw[Bp];exact BO h (Nat.le_add_right _ _)
  refine Cp.intro (fun y=>cA γ (.ptr q 0 0) y.N X y.k y.h)
   (fun y:LdY=>(y.k=0∧y.N=N∧y.h=h++[⟨0,115,Nd.cells ⟨k,0,0,[],0,0,0,[]⟩⟩])∨
    (y.k=1∧Fr (AZ N) h y.h∧HC y.h y.N (ns++lay a ns.length)∧(∀ k,AZ y.N k→AZ N k∨h.length≤k)∧¬AZ y.N X∧y.h[X]?=some ⟨0,115,Nd.cells ⟨k,((ns.length+a.size-1:Nat):Int),0,[],0,0,0,[]⟩⟩)∨
    (y.k=2∧Fr (AZ N) h y.h∧HC y.h y.N (ns++(lay a ns.length++lay b (ns.length+a.size)))∧(∀ k,AZ y.N k→AZ N k∨h.length≤k)∧¬AZ y.N X∧y.h[X]?=some ⟨0,115,Nd.cells ⟨k,((ns.length+a.size-1:Nat):Int),((ns.length+a.size+b.size-1:Nat):Int),[],0,0,0,[]⟩⟩))
   (fun y=>2-y.k) ⟨0,N,_⟩ ⟨rfl,rfl,⟨rfl,rfl,by rw[hX];rfl,rfl,trivial⟩,rfl⟩ (.inl ⟨rfl,rfl,rfl⟩) (fun y hy=>?_)
  obtain⟨yk,yN,yh⟩:=y;have hlen:(ns++lay a ns.length).length=ns.length+a.size:=by rw[Bp,hsa]
  have hlen2:(ns++(lay a ns.length++lay b (ns.length+a.size))).length=ns.length+a.size+b.size:=by simp only[Bp,hsa,hsb];omega
  rcases hy with⟨e1,e2,e3⟩|⟨e1,FF,hN1,hnk,hXN1,hX1⟩|⟨e1,FF,hN1,hnk,hXN1,hX1⟩
  ·simp only at e1 e2 e3;subst e1;subst e2;have d0:decide (((0:Nat):Int)<2)=true:=by decide
   have d0':decide (((0:Nat):Int)<((2:Nat):Int))=true:=by decide
   have z0:(((0:Nat):Int)==0)=true:=rfl;have w0:IntKind.i64.wrap (((0:Nat):Int)+1)=((1:Nat):Int):=(A4 (by decide) (by decide)).trans rfl;have q1:=g1 [⟨0,115,Nd.cells ⟨k,0,0,[],0,0,0,[]⟩⟩];have qj:yh[jk]?=some ⟨vk,110,[xa,xb]⟩:=by rw[e3];exact (Ba hjkl).trans hjk
   have qX:yh[X]?=some ⟨0,115,Nd.cells ⟨k,0,0,[],0,0,0,[]⟩⟩:=by rw[e3,hX];exact s1 _
   have hXN:¬AZ yN X:=fun hk=>by have:=hN.lt hk;omega
   have hNy:HC yh yN ns:=by rw[e3];exact hN.fr (S:=BR) (Fr.app h _) fun _ _ h=>h
   have Fy:Fr (AZ yN) h yh:=by rw[e3];exact Fr.app h _
   have hyl:yh.length=h.length+1:=by rw[e3];simp
   have hTy:AD lo hi yh xa a:=by rw[e3];exact hTa.app _ (BL _) (BL _)
   rw[←e3]at q1;simp only[cA,Dt,q1,qj,Af,seval];refine Ao.intro o6 _ (iha lo hi yh xa yN ns hTy hNy (by omega)) (fun r h2 hh=>?_) (fun v h' hh=>by obtain⟨_,_,e,_⟩:=hh;cases e);obtain⟨f2,N1,er,hN1,n1⟩:=hh;cases er;obtain⟨j,ver,rfl,hj⟩:=hN1.own (by omega);have q2:h2[X]?=some ⟨0,115,Nd.cells ⟨k,0,0,[],0,0,0,[]⟩⟩:=f2.at qX hXN;have hXj:¬AZ (.own j ver (ns++lay a ns.length).length) X:=fun hk=>(n1 X hk).elim hXN fun e=>by omega
   have w1:IntKind.i64.wrap (((ns.length+a.size:Nat):Int)-1)=((ns.length+a.size-1:Nat):Int):=(A4 (by omega) (by omega)).trans (by omega);simp only[Nd.cells]at q2;rw[hlen]at *;simp only[Dt,z0,hj,q2,w1,w0,Af,A7,seval];refine AF.intro ⟨1,.own j ver (ns.length+a.size),_⟩ (.inr (.inl ⟨rfl,((Fy.trans f2 fun k hk=>.inl hk).trans (Fr.set (S:=AU X) _ rfl) fun k hk=>.inr (by have hk:k=X:=hk;omega)),hN1.setO hXj,fun k hk=>(n1 k hk).imp id fun e=>by omega,hXj,Be (Bs.1 q2).1⟩)) ⟨rfl,rfl,⟨rfl,rfl,rfl,rfl,trivial⟩,rfl⟩ (by show 1<2;decide)
  ·simp only at e1 FF hN1 hnk hXN1 hX1;subst e1;have d0:decide (((1:Nat):Int)<2)=true:=by decide
   have d0':decide (((1:Nat):Int)<((2:Nat):Int))=true:=by decide
   have z0:(((1:Nat):Int)==0)=false:=rfl;have w0:IntKind.i64.wrap (((1:Nat):Int)+1)=((2:Nat):Int):=(A4 (by decide) (by decide)).trans rfl;have hqy:yh[q]?=_:=FF.at hq hqN;have hqj:yh[jk]?=some ⟨vk,110,[xa,xb]⟩:=FF.at hjk hjkN;have hTy:AD lo hi yh xb b:=AD.fr FF (BL _) (BL _) (fun k bb hk hb=>by have e:=hN.blk hk hb;rw[e];exact .inl ⟨by decide,by decide⟩) _ _ hTb;simp only[cA,Dt,hqy,hqj,Af,seval];refine Ao.intro o6 _ (ihb lo hi yh xb yN (ns++lay a ns.length) hTy hN1 (by rw[hlen];omega)) (fun r h2 hh=>?_) (fun v h' hh=>by obtain⟨_,_,e,_⟩:=hh;cases e);rw[hlen]at hh;obtain⟨f2,N1,er,hN2,n1⟩:=hh;cases er;rw[Bo]at hN2;obtain⟨j,ver,rfl,hj⟩:=hN2.own (by omega);have q2:h2[X]?=some ⟨0,115,Nd.cells ⟨k,((ns.length+a.size-1:Nat):Int),0,[],0,0,0,[]⟩⟩:=f2.at hX1 hXN1;have hXl:=(Bs.1 hX1).1;have hXj:¬AZ (.own j ver (ns++(lay a ns.length++lay b (ns.length+a.size))).length) X:=fun hk=>(n1 X hk).elim hXN1 fun e=>by omega
   have w1:IntKind.i64.wrap (((ns.length+a.size+b.size:Nat):Int)-1)=((ns.length+a.size+b.size-1:Nat):Int):=(A4 (by omega) (by omega)).trans (by omega);simp only[Nd.cells]at q2;rw[hlen2]at *;simp only[z0,hj,q2,w1,w0,Af,A7,seval];refine AF.intro ⟨2,.own j ver (ns.length+a.size+b.size),_⟩ (.inr (.inr ⟨rfl,((FF.trans f2 hnk).trans (Fr.set (S:=AU X) _ rfl) fun k hk=>.inr (by have hk:k=X:=hk;omega)),hN2.setO hXj,fun k hk=>(n1 k hk).elim (hnk k) fun e=>.inr (by have:=FF.1;omega),hXj,Be (Bs.1 q2).1⟩)) ⟨rfl,rfl,⟨rfl,rfl,rfl,rfl,trivial⟩,rfl⟩ (by show 0<1;decide)
  ·simp only at e1 FF hN1 hnk hXN1 hX1;subst e1;have d0:decide (((2:Nat):Int)<2)=false:=by decide
   have hqy:yh[q]?=_:=FF.at hq hqN;have hqj:yh[jk]?=some ⟨vk,110,[xa,xb]⟩:=FF.at hjk hjkN;have hXN:¬AZ yN X:=hXN1;obtain⟨j,ver,eN,hj⟩:=hN1.own (by omega);subst eN;have hk1:yh[X]?=_:=hX1;simp only[Nd.cells]at hk1;have hjl:=(Bs.1 hj).1;have g1:∀ l,(yh++l)[X]?=_:=fun l=>(Ba (Bs.1 hk1).1).trans hk1
   have g2:∀ x l,(yh++x::l)[yh.length]?=some x:=fun x l=>by simp
   have g3:∀ l,(yh++l)[j]?=_:=fun l=>(Ba hjl).trans hj
   have q4:=GG (ns++(lay a ns.length++lay b (ns.length+a.size)));have q5:=Dg (ns++(lay a ns.length++lay b (ns.length+a.size)));have q6:(ns++(lay a ns.length++lay b (ns.length+a.size))).length * 9≤(Cj (ns++(lay a ns.length++lay b (ns.length+a.size)))).length:=by omega
   rw[hlen2]at *;simp only[cA,Dt,hqy,hqj,hk1,g2,g3,q4,q5,Af,A7,seval];refine⟨⟨BL _,hbnd⟩,?_⟩;rw[show lay (.bi k a b) ns.length=lay a ns.length++lay b (ns.length+a.size)++[⟨k,((ns.length+a.size-1:Nat):Int),((ns.length+a.size+b.size-1:Nat):Int),[],0,0,0,[]⟩]from rfl];refine⟨(FF.trans (S1:=BR) (Fr.app yh _) fun k hk=>False.elim hk).trans (Fr.set (S:=AU j) _ rfl) (fun k hk=>hnk k hk),_,rfl,.inr ⟨j,ver+1,by rw[show (ns++(lay a ns.length++lay b (ns.length+a.size)++[(⟨k,((ns.length+a.size-1:Nat):Int),((ns.length+a.size+b.size-1:Nat):Int),[],0,0,0,[]⟩:Nd)])).length=ns.length+a.size+b.size+1 by simp only[Bp,hsa,hsb,BC,BD];omega],?_⟩,(fun k hk=>hnk k hk)⟩;rw[Be (hjlen _ _ _ hjl)];simp only[Hy,Bo];rfl
def Ft(x:AG×Nat):Tk:=⟨x.1.kind,x.1.text,x.1.int,x.1.real,x.2,x.1.size⟩
theorem UB(x:AG×Nat):(Ft x).cells=B7 x:=rfl
theorem LU(L:List (AG×Nat)):C3 (L.map Ft)=A3 L:=by
 induction L with
 |nil=>rfl
 |cons x L ih=>
  unfold C3 A3 at *;rw[BA,BE,ih,BA,List.flatten_cons,UB]
theorem aF(L:List (AG×Nat)):EV (Ct L) (L.map Ft):=by
 cases L with
 |nil=>exact .inl ⟨rfl,rfl⟩
 |cons x L=>exact .inr ⟨false,(x::L).length,A3 (x::L),by rw[Bk];rfl,by rw[LU];exact BB⟩
def CX(l:List UInt8):Option (List (AG×Nat)):=match (Ah l).find? EM with
 |none=>some ((Ah l).map fun x=>x.1)
 |some _=>none
def DQ(s:List UInt8):Bool:=match CX s with
 |some [x]=>x.1.kind==1&&((x.1.size:Int)==(s.length:Int))
 |_=>false
theorem Mr:∀ (f:Nat) (l:List UInt8) (i:Nat) (x:(AG×Nat)×Int),x∈C0 f l i→x.2=0→∃ s,headD s=.ok x.1.1∧1≤s.length
 |0,l,i,x,h,_=>by cases h
 |f+1,l,i,x,h,h0=>by
  rw[C0]at h
  split at h
  ·cases h
  ·rename_i hT
   split at h
   ·rename_i e he;rw[Bj]at h;subst h;exact absurd h0 (JI he)
   ·rename_i t ht
    rcases BI.1 h with rfl|h
    ·exact⟨_,ht,by rw[Bd];omega⟩
    ·exact Mr f l _ x h h0
theorem Tl{l:List UInt8}{L:List (AG×Nat)}(h:CX l=some L){x:AG×Nat}(hx:x∈L):∃ s,headD s=.ok x.1∧1≤s.length:=by
 unfold CX at h
 split at h
 ·rename_i hn;cases h;obtain⟨y,hy,rfl⟩:=List.mem_map.1 hx
  have h0:y.2=0:=by
   have:=(List.find?_eq_none.1 hn) y hy;simpa[EM]using this
  unfold Ah at hy
  split at hy
  ·rw[Bj]at hy;subst hy;cases h0
  ·exact Mr _ _ _ y hy h0
 ·cases h
theorem LM(l:List UInt8):∀ (k i:Nat) (d q:List UInt8) (n:Nat),E0 k l i d=some (q,n)→q.length≤256
 |0,i,d,q,n,h=>by cases h
 |k+1,i,d,q,n,h=>by
  rw[E0]at h
  split at h
  ·cases h
  ·split at h
   ·rename_i hc;cases h;exact hc.2
   ·split at h
    ·split at h
     ·cases h
     ·exact LM l k _ _ q n h
    ·split at h
     ·cases h
     ·exact LM l k _ _ q n h
end Go.Proofs.YtlobiioioicmhaaGreatDoor
