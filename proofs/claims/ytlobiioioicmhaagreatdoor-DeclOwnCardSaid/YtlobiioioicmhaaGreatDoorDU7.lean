/- The evaluator: abstract values, and code carried out on them. -/
import Derived.Test.YtlobiioioicmhaaGreatDoorDU6
import Derived.KernelRfl
set_option linter.all false
set_option maxHeartbeats 8000000
namespace Go.Ev
open _root_.Array renaming getElem?_eq_some_iff→BP
open _root_.Bool renaming not_true→Bv
open _root_.List renaming getElem?_eq_some_iff→Bs,getElem?_append_left→Ba,cons_append→Bc,getElem?_map→Bm,length_map→Bk,getElem?_eq_none→Bq,mem_singleton→Bj,map_cons→BA,length_cons→BC,mem_cons→BI
open _root_.Option renaming bind_eq_some_iff→BK
open Go Go.RowKit
def ExtK(K:St→Prop):Prop:=∀ s s',eqvS s s'→K s→K s'
theorem eqvS_refl(s:St):eqvS s s:=⟨rfl,rfl,rfl,fun _=>rfl⟩
theorem eqvS_trans{a b c:St}(h:eqvS a b)(g:eqvS b c):eqvS a c:=⟨h.1.trans g.1,h.2.1.trans g.2.1,h.2.2.1.trans g.2.2.1,fun t=>(h.2.2.2 t).trans (g.2.2.2 t)⟩
theorem eqvS_get{s s':St}(h:eqvS s s')(x:Operand):get s.s x=get s'.s x:=by
 cases x with
 |tmp t=>exact h.2.2.2 t
 |const v=>rfl
 |global g=>simp only[get,h.2.1]
 |func f=>rfl
theorem look_pt(s:St)(d:Option Tmp)(r:AV)(t:Nat):look (pt s d r).s.l t=if d=some t∧t<s.s.n then r else look s.s.l t:=by
 cases d with
 |none=>simp[pt,putS]
 |some d=>
  by_cases hd:d<s.s.n
  ·simp only[pt,putS,if_pos hd,look]
   by_cases e:d=t
   ·subst e;simp[hd]
   ·simp[e]
  ·simp only[pt,putS,if_neg hd]
   by_cases e:d=t
   ·subst e;simp[hd]
   ·simp[e]
theorem pt_n(s:St)(d:Option Tmp)(r:AV):(pt s d r).s.n=s.s.n:=by
 cases d with
 |none=>rfl
 |some d=>simp only[pt,putS];split<;>rfl
theorem pt_g(s:St)(d:Option Tmp)(r:AV):(pt s d r).s.g=s.s.g:=by
 cases d with
 |none=>rfl
 |some d=>simp only[pt,putS];split<;>rfl
theorem eqvS_pt{s s':St}(hn:s.s.n=s'.s.n)(hg:s.s.g=s'.s.g)(hl:∀ t,look s.s.l t=look s'.s.l t)(h:List ABlk)(d:Option Tmp)(r:AV):eqvS (pt ⟨s.s,h⟩ d r) (pt ⟨s'.s,h⟩ d r):=
 ⟨by rw[pt_n,pt_n];exact hn,by rw[pt_g,pt_g];exact hg,rfl,fun t=>by rw[look_pt,look_pt];simp only[hn,hl t]⟩
theorem eqvS_swap(s:Slots)(h:List ABlk){d1 d2:Option Tmp}(hne:∀ t,¬(d1=some t∧d2=some t))(r1 r2:AV)(h1 h2:List ABlk):eqvS (pt ⟨(pt ⟨s,h1⟩ d1 r1).s,h⟩ d2 r2) (pt ⟨(pt ⟨s,h2⟩ d2 r2).s,h⟩ d1 r1):=by
 refine⟨by simp only[pt_n],by simp only[pt_g],rfl,fun t=>?_⟩;simp only[look_pt,pt_n]
 by_cases a:d1=some t∧t<s.n
 ·by_cases b:d2=some t∧t<s.n
  ·exact absurd ⟨a.1,b.1⟩ (hne t)
  ·rw[if_neg b,if_pos a,if_pos a]
 ·by_cases b:d2=some t∧t<s.n
  ·rw[if_pos b,if_neg a,if_pos b]
  ·rw[if_neg b,if_neg a,if_neg a,if_neg b]
structure TOk(T:Oper→(St→Prop)→St→Prop)(cl:Oper→Oper→Bool):Prop where
 mono:∀ {o K K' s},(∀ s,K s→K' s)→T o K s→T o K' s
 ext:∀ {o K},ExtK K→ExtK (T o K)
 comm:∀ {x y K s},cl x y=false→ExtK K→T x (T y K) s→T y (T x K) s
def seqT(T:Oper→(St→Prop)→St→Prop)(ops:Array Oper):List Nat→(St→Prop)→St→Prop
 |[],K,s=>K s
 |i::p,K,s=>match ops[i]? with|some o=>T o (seqT T ops p K) s|none=>False
def anyG(T:Oper→(St→Prop)→St→Prop)(ops:Array Oper)(K:St→Prop):Nat→Array Bool→St→Prop
 |0,listed,s=>Region.ready .any ops listed=[]∧K s
 |f+1,listed,s=>(Region.ready .any ops listed=[]→K s)∧
  ∀ i∈List.range ops.size,(Region.ready .any ops listed).contains i=true→∃ o,ops[i]?=some o∧o.guard=none∧T o (fun s'=>anyG T ops K f (listed.setIfInBounds i true) s') s
theorem anyK_eq(P:Program)(ops:Array Oper)(K:St→Prop):∀ (f:Nat),anyG (kop P) ops K f=anyK P ops K f
 |0=>rfl
 |f+1=>by
  funext l s
  simp only[anyG,anyK,anyK_eq P ops K f]
theorem seqT_mono{T:Oper→(St→Prop)→St→Prop}(hm:∀ o (K K':St→Prop) s,(∀ s,K s→K' s)→T o K s→T o K' s){ops:Array Oper}{K K':St→Prop}(h:∀ s,K s→K' s):∀ (p:List Nat) {s:St},seqT T ops p K s→seqT T ops p K' s
 |[],s,hs=>h s hs
 |i::p,s,hs=>by
  simp only[seqT]at hs⊢;cases ho:ops[i]? with
  |none=>rw[ho]at hs;exact hs.elim
  |some o=>rw[ho]at hs;exact hm _ _ _ _ (fun s h'=>seqT_mono hm h p h') hs
section
variable {T:Oper→(St→Prop)→St→Prop} {cl:Oper→Oper→Bool} (hT:TOk T cl) {ops:Array Oper} {K:St→Prop}
include hT
theorem seqT_ext(hK:ExtK K):∀ p,ExtK (seqT T ops p K)
 |[]=>hK
 |i::p=>by
  intro s s' he h;simp only[seqT]at h⊢;cases ho:ops[i]? with
  |none=>rw[ho]at h;exact h.elim
  |some o=>rw[ho]at h;exact hT.ext (seqT_ext hK p) s s' he h
def clI(cl:Oper→Oper→Bool)(ops:Array Oper)(i j:Nat):Bool:=match ops[i]?,ops[j]? with|some x,some y=>cl x y|_,_=>true
theorem seqT_front(hK:ExtK K){i:Nat}:∀ (p1 p2:List Nat) {s:St},(∀ j∈p1,clI cl ops j i=false)→seqT T ops (p1++i::p2) K s→seqT T ops (i::(p1++p2)) K s
 |[],p2,s,_,h=>h
 |j::p1,p2,s,hc,h=>by
  have hj:=hc j (by simp);simp only[Bc,seqT]at h⊢;unfold clI at hj;cases ho:ops[j]? with
  |none=>rw[ho]at h;exact h.elim
  |some x=>
   rw[ho]at h hj;cases hoi:ops[i]? with
   |none=>rw[hoi]at hj;cases hj
   |some y=>
    rw[hoi]at hj;have h2:=hT.mono (fun s h=>seqT_front hK p1 p2 (fun k hk=>hc k (by simp[hk])) h) h;simp only[seqT,hoi]at h2;exact hT.comm hj (seqT_ext hT hK _) h2
end
def Cov(cl:Oper→Oper→Bool)(ops:Array Oper)(W:List Nat→Prop)(R:Nat→Prop):Prop:=
 ∀ ρ:Nat→Nat,(∀ i j,R i→R j→ρ i=ρ j→i=j)→(∀ (j:Nat) o,R j→ops[j]?=some o→∀ e∈o.after.toList,bindsE e=true→R e.on→ρ e.on<ρ j)→
  ∃ p,W p∧p.Pairwise fun j k=>clI cl ops j k=true→ρ j<ρ k
theorem ready_iff{ops:Array Oper}{listed:Array Bool}{i:Nat}:i∈Region.ready .any ops listed↔i<ops.size∧listed.getD i true=false∧((ops[i]?).map (·.after.all fun e=> !Region.binds .any e || listed.getD e.on false)).getD false=true:=by
 simp[Region.ready,List.mem_filter,Bool.and_eq_true]
theorem unl_lt{listed:Array Bool}{i:Nat}(h:listed.getD i true=false):i<listed.size:=by
 by_cases hi:i<listed.size
 ·exact hi
 ·simp[Array.getD,hi]at h
theorem lst_set{listed:Array Bool}{i j:Nat}(hi:i<listed.size):(listed.setIfInBounds i true).getD j true=if j=i then true else listed.getD j true:=by
 by_cases e:j=i
 ·subst e;simp[Array.getD,hi]
 ·rw[if_neg e];simp only[Array.getD_eq_getD_getElem?];rw[Array.getElem?_setIfInBounds_ne (fun h=>e h.symm)]
theorem exMin{p:Nat→Prop}(h:∃ i,p i):∃ i,p i∧∀ j,j<i→¬p j:=by
 obtain⟨i,hi⟩:=h
 induction i using Nat.strongRecOn with
 |ind i ih=>
  by_cases hc:∃ j,j<i∧p j
  ·obtain⟨j,h1,h2⟩:=hc;exact ih j h1 h2
  ·exact⟨i,hi,fun j hj hp=>hc ⟨j,hj,hp⟩⟩
theorem any_of_orders{T:Oper→(St→Prop)→St→Prop}{cl:Oper→Oper→Bool}(hT:TOk T cl){ops:Array Oper}{K:St→Prop}(hK:ExtK K)(hg:∀ (i:Nat) o,ops[i]?=some o→o.guard=none)
  (hl:∀ (i:Nat) o,ops[i]?=some o→∀ e∈o.after.toList,bindsE e=true→e.on<i) :
  ∀ (f:Nat) (listed:Array Bool) (W:List Nat→Prop) (s:St),listed.size=ops.size→(∃ p,W p)→(∀ p,W p→p.Nodup∧(∀ i,i∈p↔listed.getD i true=false)∧p.length=f)→
   Cov cl ops W (fun i=>listed.getD i true=false)→
   ((∀ p q,W p→W q→p=q)∨∀ (i:Nat) o,ops[i]?=some o→∀ (F:List Nat→St→Prop) (V:List Nat→Prop) (s:St),(∃ p,V p)→(∀ p,V p→T o (F p) s)→T o (fun s'=>∀ p,V p→F p s') s)→
   (∀ p,W p→seqT T ops p K s)→anyG T ops K f listed s
 |0,listed,W,s,hsz,⟨p,hw⟩,hp,hc,_,h=>by
  obtain⟨h1,h2,h3⟩:=hp p hw;have hn:p=[]:=List.length_eq_zero_iff.1 h3;subst hn;refine⟨?_,h _ hw⟩
  apply List.eq_nil_iff_forall_not_mem.2
  intro i hi;have:=(h2 i).2 (ready_iff.1 hi).2.1;simp at this
 |f+1,listed,W,s,hsz,⟨p0,hw0⟩,hp,hc,hd,h=>by
  refine⟨fun he=>?_,fun i hi hr=>?_⟩
  ·obtain⟨h1,h2,h3⟩:=hp p0 hw0
   have hex:∃ i,listed.getD i true=false:=by
    cases p0 with
    |nil=>simp at h3
    |cons i p=>exact⟨i,(h2 i).1 (by simp)⟩
   obtain⟨i,hm,hmin⟩:=exMin hex;have hlt:=unl_lt hm
   have hin:i∈Region.ready .any ops listed:=by
    refine ready_iff.2 ⟨by omega,hm,?_⟩;have ho:ops[i]?=some ops[i]:=Array.getElem?_eq_getElem (by omega);rw[ho];simp only[Option.map_some,Option.getD_some];rw[←Array.all_toList,List.all_eq_true];intro e hem;cases hb:Region.binds .any e with
    |false=>rfl
    |true=>
     have hlt2:=hl i _ ho e hem hb;have:=hmin _ hlt2;simp only[Bv,Bool.false_or];have hsz2:e.on<listed.size:=by omega
     simp[Array.getD,hsz2]at this⊢;exact this
   rw[he]at hin;cases hin
  ·have hr2:=ready_iff.1 (by simpa using hr:i∈Region.ready .any ops listed);obtain⟨hi1,hi2,hi3⟩:=hr2;have ho:ops[i]?=some ops[i]:=Array.getElem?_eq_getElem hi1;generalize ops[i]=o at ho
   have hpre:∀ e∈o.after.toList,bindsE e=true→¬listed.getD e.on true=false:=by
    rw[ho]at hi3;simp only[Option.map_some,Option.getD_some]at hi3;rw[←Array.all_toList,List.all_eq_true]at hi3;intro e hem hb hc;have:=hi3 e hem;have hb':Region.binds .any e=true:=hb;rw[hb']at this;have hlt:=unl_lt hc;simp[Array.getD,hlt]at this hc;rw[this]at hc;cases hc
   obtain⟨W',hW'⟩:∃ W':List Nat→Prop,W'=fun q=>∃ p p1 p2,W p∧p=p1++i::p2∧(∀ j∈p1,clI cl ops j i=false)∧q=p1++p2:=⟨_,rfl⟩
   have cov:Cov cl ops W' (fun j=>(listed.setIfInBounds i true).getD j true=false):=by
    intro ρ hinj hed
    have hR:∀ j,(listed.setIfInBounds i true).getD j true=false↔j≠i∧listed.getD j true=false:=fun j=>by
     rw[lst_set (by omega)]
     by_cases e:j=i
     ·simp[e]
     ·simp[e]
    obtain⟨p,hw,hpw⟩:=hc (fun x=>if x=i then 0 else ρ x+1) (fun a b ha hb hab=>by
      by_cases ea:a=i
      ·by_cases eb:b=i
       ·exact ea.trans eb.symm
       ·simp[ea,eb]at hab
      ·by_cases eb:b=i
       ·simp[ea,eb]at hab
       ·simp only[if_neg ea,if_neg eb]at hab;exact hinj a b ((hR a).2 ⟨ea,ha⟩) ((hR b).2 ⟨eb,hb⟩) (by omega)) (fun j o' hj ho' e hem hb hre=>by
      by_cases ej:j=i
      ·subst ej;rw[ho]at ho';cases ho';exact absurd hre (hpre e hem hb)
      ·simp only[if_neg ej]
       by_cases ee:e.on=i
       ·simp[ee]
       ·simp only[if_neg ee];have:=hed j o' ((hR j).2 ⟨ej,hj⟩) ho' e hem hb ((hR e.on).2 ⟨ee,hre⟩)
        omega)
    obtain⟨h1,h2,h3⟩:=hp p hw;obtain⟨p1,p2,rfl⟩:=List.append_of_mem ((h2 i).2 hi2);have hpa:=List.pairwise_append.1 hpw
    have hni:∀ x∈p1++p2,x≠i:=fun x hx e=>by
     subst e;have h4:=List.nodup_append.1 h1
     rcases List.mem_append.1 hx with hx|hx
     ·exact h4.2.2 x hx x (by simp) rfl
     ·exact (List.nodup_cons.1 h4.2.1).1 hx
    have hfr:∀ j∈p1,clI cl ops j i=false:=fun j hj=>by
     cases hcl:clI cl ops j i with
     |false=>rfl
     |true=>
      have:=hpa.2.2 j hj i (by simp) hcl;simp at this
    have hin:W' (p1++p2):=by rw[hW'];exact⟨_,p1,p2,hw,rfl,hfr,rfl⟩
    refine⟨p1++p2,hin,?_⟩
    ·have hsub:(p1++p2).Pairwise fun j k=>clI cl ops j k=true→(if j=i then 0 else ρ j+1)<(if k=i then 0 else ρ k+1):=List.Pairwise.sublist (List.Sublist.append (List.Sublist.refl p1) (List.sublist_cons_self i p2)) hpw
     refine List.Pairwise.imp_of_mem (fun {a b} ha hb hab hcl=>?_) hsub;have:=hab hcl;rw[if_neg (hni a ha),if_neg (hni b hb)]at this
     omega
   have hne:∃ q,W' q:=by
    obtain⟨q,hq,_⟩:=cov (fun x=>x) (fun _ _ _ _ h=>h) (fun j o' _ ho' e hem hb _=>hl j o' ho' e hem hb);exact⟨q,hq⟩
   have hp':∀ q,W' q→q.Nodup∧(∀ j,j∈q↔(listed.setIfInBounds i true).getD j true=false)∧q.length=f:=by
    intro q hq;rw[hW']at hq;obtain⟨p,p1,p2,hw,rfl,_,rfl⟩:=hq;obtain⟨h1,h2,h3⟩:=hp _ hw;have h4:=List.nodup_append.1 h1;have h5:=List.nodup_cons.1 h4.2.1;refine⟨List.nodup_append.2 ⟨h4.1,h5.2,fun a ha b hb=>h4.2.2 a ha b (by simp[hb])⟩,fun j=>?_,by simp at h3⊢;omega⟩;rw[lst_set (by omega)];have h6:=h2 j
    by_cases e:j=i
    ·subst e;simp only[if_true]
     constructor
     ·intro hj
      rcases List.mem_append.1 hj with hj|hj
      ·exact absurd rfl (h4.2.2 j hj j (by simp))
      ·exact absurd hj h5.1
     ·intro hj;cases hj
    ·rw[if_neg e,←h6];simp[e]
   have hseq:∀ q,W' q→T o (seqT T ops q K) s:=by
    intro q hq;rw[hW']at hq;obtain⟨p,p1,p2,hw,rfl,hcl,rfl⟩:=hq;have:=seqT_front hT hK p1 p2 hcl (h _ hw);simp only[seqT,ho]at this;exact this
   have hd':(∀ p q,W' p→W' q→p=q)∨∀ (i:Nat) o,ops[i]?=some o→∀ (F:List Nat→St→Prop) (V:List Nat→Prop) (s:St),(∃ p,V p)→(∀ p,V p→T o (F p) s)→T o (fun s'=>∀ p,V p→F p s') s:=by
    rcases hd with hd|hd
    ·left
     intro q1 q2 hq1 hq2;rw[hW']at hq1 hq2;obtain⟨p,p1,p2,hw,rfl,_,rfl⟩:=hq1;obtain⟨p',p1',p2',hw',rfl,_,rfl⟩:=hq2;have e:=hd _ _ hw hw';have h4:=List.nodup_append.1 (hp _ hw).1;have h4':=List.nodup_append.1 (hp _ hw').1
     have g1:(p1++i::p2).erase i=p1++p2:=by
      rw[List.erase_append_right _ (fun hm=>absurd rfl (h4.2.2 i hm i (by simp))),List.erase_cons_head]
     have g2:(p1'++i::p2').erase i=p1'++p2':=by
      rw[List.erase_append_right _ (fun hm=>absurd rfl (h4'.2.2 i hm i (by simp))),List.erase_cons_head]
     rw[←g1,←g2,e]
    ·exact .inr hd
   refine⟨o,ho,hg i o ho,?_⟩
   have key:T o (fun s'=>∀ q,W' q→seqT T ops q K s') s:=by
    rcases hd' with h1|h1
    ·obtain⟨q,hq⟩:=hne;exact hT.mono (fun s' h' q' hq'=>by rw[h1 q' q hq' hq];exact h') (hseq q hq)
    ·exact h1 i o ho (fun q=>seqT T ops q K) W' s hne hseq
   exact hT.mono (fun s' h'=>any_of_orders hT hK hg hl f _ W' s' (by simp[hsz]) hne hp' cov hd' h') key
def befB:List Nat→Nat→Nat→Bool
 |[],_,_=>false
 |x::p,i,j=>if x=i then true else if x=j then false else befB p i j
def pairB(r:Nat→Nat→Bool):List Nat→Bool
 |[]=>true
 |x::p=>p.all (r x)&&pairB r p
def nodB:List Nat→Bool
 |[]=>true
 |x::p=> !p.contains x&&nodB p
def allB:Nat→List (List Bool)
 |0=>[[]]
 |n+1=>(allB n).flatMap fun l=>[true::l,false::l]
def freeP(cl:Oper→Oper→Bool)(ops:Array Oper)(tbl:List (List Nat)):List (Nat×Nat):=
 (List.range ops.size).flatMap fun j=>((List.range j).filter fun i=>(clI cl ops i j || clI cl ops j i) && !(tbl.getD j []).contains i).map fun i=>(i,j)
def oriB(u:Nat×Nat)(b:Bool):Nat×Nat:=if b then u else (u.2,u.1)
def noneB(tbl:List (List Nat))(l:List ((Nat×Nat)×Bool)):Bool:=l.any fun p=>l.any fun q=>(oriB p.1 p.2).2==(oriB q.1 q.2).1&&(tbl.getD (oriB p.1 p.2).1 []).contains (oriB q.1 q.2).2
def ordersOk(cl:Oper→Oper→Bool)(ops:Array Oper)(W:List (List Nat)):Bool:=
 ancOk ops (ancT ops)&&ops.all (fun o=>o.guard.isNone) &&
 W.all (fun p=>nodB p&&p.length==ops.size&&p.all (fun i=>decide (i<ops.size))&&(List.range ops.size).all (fun i=>p.contains i)&&pairB (fun j k=> !(clI cl ops j k) || !((ancT ops).getD j []).contains k) p) &&
 (allB (freeP cl ops (ancT ops)).length).all fun bs=>noneB (ancT ops) ((freeP cl ops (ancT ops)).zip bs) || W.any fun p=>((freeP cl ops (ancT ops)).zip bs).all fun u=>if befB p u.1.1 u.1.2 then !(clI cl ops u.1.1 u.1.2) || u.2 else !(clI cl ops u.1.2 u.1.1) || !u.2
theorem befB_at:∀ (p1 p2:List Nat) {j k:Nat},nodB (p1++j::p2)=true→k∈p2→befB (p1++j::p2) j k=true∧befB (p1++j::p2) k j=false
 |[],p2,j,k,hn,hk=>by
  have hn':p2.contains j=false∧nodB p2=true:=by simpa[nodB]using hn
  have hne:j≠k:=fun e=>by
   subst e;have:p2.contains j=true:=by simpa using hk
   rw[hn'.1]at this;cases this
  exact⟨by simp[befB],by simp[befB,hne]⟩
 |x::p1,p2,j,k,hn,hk=>by
  have hn':(p1++j::p2).contains x=false∧nodB (p1++j::p2)=true:=by simpa only[Bc,nodB,Bool.and_eq_true,Bool.not_eq_true']using hn
  have h1:=befB_at p1 p2 hn'.2 hk
  have hx:∀ y∈p1++j::p2,x≠y:=fun y hy e=>by
   subst e;have:(p1++j::p2).contains x=true:=by simpa using hy
   rw[hn'.1]at this;cases this
  have hxj:=hx j (by simp);have hxk:=hx k (by simp[hk]);simp only[Bc,befB,if_neg hxj,if_neg hxk];exact h1
theorem nodB_nodup:∀ (p:List Nat),nodB p=true→p.Nodup
 |[],_=>List.nodup_nil
 |x::p,h=>by
  have h':p.contains x=false∧nodB p=true:=by simpa[nodB]using h
  refine List.nodup_cons.2 ⟨fun hm=>?_,nodB_nodup p h'.2⟩;have:p.contains x=true:=by simpa using hm
  rw[h'.1]at this;cases this
theorem pairB_spec{r:Nat→Nat→Bool}:∀ (p:List Nat),pairB r p=true→p.Pairwise fun j k=>r j k=true
 |[],_=>List.Pairwise.nil
 |x::p,h=>by
  have h':p.all (r x)=true∧pairB r p=true:=by simpa only[pairB,Bool.and_eq_true]using h
  exact List.Pairwise.cons (fun k hk=>List.all_eq_true.1 h'.1 k hk) (pairB_spec p h'.2)
theorem pair_of{r:Nat→Nat→Prop}:∀ (p:List Nat),(∀ p1 j p2,p=p1++j::p2→∀ k∈p2,r j k)→p.Pairwise r
 |[],_=>List.Pairwise.nil
 |x::p,h=>List.Pairwise.cons (fun k hk=>h [] x p rfl k hk) (pair_of p fun p1 j p2 e k hk=>h (x::p1) j p2 (by rw[e];rfl) k hk)
theorem pair_at{r:Nat→Nat→Prop}{p1:List Nat}{j:Nat}{p2:List Nat}(h:(p1++j::p2).Pairwise r){k:Nat}(hk:k∈p2):r j k:=
 (List.pairwise_cons.1 (List.pairwise_append.1 h).2.1).1 k hk
theorem mem_allB:∀ (l:List Bool),l∈allB l.length
 |[]=>by simp[allB]
 |b::l=>by
  simp only[BC,allB,List.mem_flatMap];exact⟨l,mem_allB l,by cases b<;>simp⟩
theorem zip_all{α:Type}{f:α→Bool}{q:α×Bool→Bool}:∀ (U:List α),(U.zip (U.map f)).all q=true→∀ u∈U,q (u,f u)=true
 |[],_,u,hu=>by cases hu
 |x::U,h,u,hu=>by
  have h':q (x,f x)=true∧(U.zip (U.map f)).all q=true:=by simpa[List.zip_cons_cons,List.all_cons]using h
  rcases BI.1 hu with rfl|hu
  ·exact h'.1
  ·exact zip_all U h'.2 u hu
theorem anc_rank{ops:Array Oper}{tbl:List (List Nat)}(h:ancOk ops tbl=true){ρ:Nat→Nat}(hed:∀ (j:Nat) o,ops[j]?=some o→∀ e∈o.after.toList,bindsE e=true→ρ e.on<ρ j):
  ∀ (n i:Nat),i<n→i<ops.size→∀ j∈tbl.getD i [],ρ j<ρ i
 |0,i,hi,_,_,_=>absurd hi (Nat.not_lt_zero _)
 |n+1,i,hi,his,j,hj=>by
  have ho:ops[i]?=some ops[i]:=Array.getElem?_eq_getElem his;generalize ops[i]=o at ho;have h1:=List.all_eq_true.1 h i (List.mem_range.2 his);rw[ho]at h1;simp only[Bool.and_eq_true]at h1;have h2:=List.all_eq_true.1 h1.2 j hj;obtain⟨e,he,h3⟩:=List.any_eq_true.1 h2;simp only[Bool.and_eq_true,Bool.or_eq_true]at h3;have h4:=hed i o ho e he h3.1
  rcases h3.2 with h5|h5
  ·rw[←eq_of_beq h5];exact h4
  ·have hlt:e.on<i:=by
    have:=List.all_eq_true.1 h1.1 e he;rw[h3.1]at this;simpa using this
   have:=anc_rank h hed n e.on (by omega) (by omega) j (by simpa using h5)
   omega
theorem orders_cov{cl:Oper→Oper→Bool}{ops:Array Oper}{W:List (List Nat)}(h:ordersOk cl ops W=true){listed:Array Bool}(hl:∀ i,listed.getD i true=false↔i<ops.size):
  Cov cl ops (fun p=>p∈W) (fun i=>listed.getD i true=false):=by
 simp only[ordersOk,Bool.and_eq_true]at h;obtain⟨⟨⟨h1,h2⟩,h3⟩,h4⟩:=h;intro ρ hinj hed
 have hon:∀ (j:Nat) o,ops[j]?=some o→∀ e∈o.after.toList,bindsE e=true→e.on<j:=fun j o ho e he hb=>by
  have hj:j<ops.size:=(BP.1 ho).1;have q1:=List.all_eq_true.1 h1 j (List.mem_range.2 hj);rw[ho]at q1;simp only[Bool.and_eq_true]at q1;have:=List.all_eq_true.1 q1.1 e he;rw[hb]at this;simpa using this
 have hrk:∀ i,i<ops.size→∀ j∈(ancT ops).getD i [],ρ j<ρ i:=fun i hi=>anc_rank h1 (fun j o ho e he hb=>by
  have hj:j<ops.size:=(BP.1 ho).1;exact hed j o ((hl j).2 hj) ho e he hb ((hl e.on).2 (by have:=hon j o ho e he hb;omega))) (i+1) i (by omega) hi
 have h5:=List.all_eq_true.1 h4 ((freeP cl ops (ancT ops)).map fun u=>decide (ρ u.1<ρ u.2)) (by
  have:=mem_allB ((freeP cl ops (ancT ops)).map fun u=>decide (ρ u.1<ρ u.2));rw[Bk]at this;exact this)
 have h5:(W.any fun p=>((freeP cl ops (ancT ops)).zip ((freeP cl ops (ancT ops)).map fun u=>decide (ρ u.1<ρ u.2))).all fun u=>if befB p u.1.1 u.1.2 then !(clI cl ops u.1.1 u.1.2) || u.2 else !(clI cl ops u.1.2 u.1.1) || !u.2)=true:=by
  rw[Bool.or_eq_true]at h5
  rcases h5 with h|h
  ·exfalso
   obtain⟨p,hp,h⟩:=List.any_eq_true.1 h;obtain⟨q,hq,h⟩:=List.any_eq_true.1 h;simp only[Bool.and_eq_true]at h
   have hz:∀ p∈(freeP cl ops (ancT ops)).zip ((freeP cl ops (ancT ops)).map fun u=>decide (ρ u.1<ρ u.2)),p.1∈freeP cl ops (ancT ops)∧p.2=decide (ρ p.1.1<ρ p.1.2):=by
    generalize freeP cl ops (ancT ops)=U;intro p hp
    induction U with
    |nil=>cases hp
    |cons u U ih=>
     rw[BA,List.zip_cons_cons]at hp
     rcases BI.1 hp with rfl|hp
     ·exact⟨by simp,rfl⟩
     ·exact⟨by simp[(ih hp).1],(ih hp).2⟩
   have hori:∀ p∈(freeP cl ops (ancT ops)).zip ((freeP cl ops (ancT ops)).map fun u=>decide (ρ u.1<ρ u.2)),ρ (oriB p.1 p.2).1<ρ (oriB p.1 p.2).2∧(oriB p.1 p.2).1<ops.size:=by
    intro p hp;obtain⟨hm,e⟩:=hz p hp;simp only[freeP,List.mem_flatMap,List.mem_map,List.mem_filter,List.mem_range]at hm;obtain⟨j,hj,i,⟨hi,_⟩,hu⟩:=hm;rw[e];unfold oriB;rw[←hu];simp only
    by_cases hd:ρ i<ρ j
    ·rw[if_pos (decide_eq_true hd)];exact⟨hd,by show i<_;omega⟩
    ·rw[if_neg (by simpa using hd)];have hne:ρ i≠ρ j:=fun ee=>by have:=hinj i j ((hl i).2 (by omega)) ((hl j).2 hj) ee;omega
     exact⟨by show ρ j<ρ i;omega,hj⟩
   obtain⟨a1,a2⟩:=hori p hp;obtain⟨b1,b2⟩:=hori q hq;have c1:=eq_of_beq h.1;have c2:=hrk _ a2 (oriB q.1 q.2).2 (by simpa using h.2);rw[c1]at a1
   omega
  ·exact h
 obtain⟨p,hp,h6⟩:=List.any_eq_true.1 h5;have h7:=zip_all _ h6;have h8:=List.all_eq_true.1 h3 p hp;simp only[Bool.and_eq_true]at h8;obtain⟨⟨⟨⟨k1,k2⟩,k3⟩,k5⟩,k4⟩:=h8;refine⟨p,hp,pair_of p fun p1 j p2 e k hk hcl=>?_⟩;have hjl:j<ops.size:=by have:=List.all_eq_true.1 k3 j (by rw[e];simp);simpa using this
 have hkl:k<ops.size:=by have:=List.all_eq_true.1 k3 k (by rw[e];simp[hk]);simpa using this
 have hpr:=pairB_spec p k4;rw[e]at hpr k1;have hnk:=pair_at hpr hk;rw[hcl]at hnk;have hnk':((ancT ops).getD j []).contains k=false:=by simpa using hnk
 obtain⟨b1,b2⟩:=befB_at p1 p2 k1 hk
 have hjk:j≠k:=fun ee=>by
  subst ee;exact absurd hk (List.nodup_cons.1 (List.nodup_append.1 (nodB_nodup _ k1)).2.1).1
 cases ha:((ancT ops).getD k []).contains j with
 |true=>exact hrk k hkl j (by simpa using ha)
 |false=>
  rcases Nat.lt_or_ge j k with hlt|hge
  ·have hm:(j,k)∈freeP cl ops (ancT ops):=by
    simp only[freeP,List.mem_flatMap,List.mem_map,List.mem_filter,List.mem_range];exact⟨k,hkl,j,⟨hlt,by rw[hcl,ha];rfl⟩,rfl⟩
   have:=h7 _ hm;simp only at this;rw[e,b1,hcl]at this;simpa using this
  ·have hm:(k,j)∈freeP cl ops (ancT ops):=by
    simp only[freeP,List.mem_flatMap,List.mem_map,List.mem_filter,List.mem_range];exact⟨j,hjl,k,⟨by omega,by rw[hcl,hnk'];simp⟩,rfl⟩
   have:=h7 _ hm;simp only at this;rw[e,b2,hcl]at this;have hnl:¬ρ k<ρ j:=by simpa using this
   have hne:ρ j≠ρ k:=fun ee=>hjk (hinj j k ((hl j).2 hjl) ((hl k).2 hkl) ee)
   omega
theorem anyG_orders{T:Oper→(St→Prop)→St→Prop}{cl:Oper→Oper→Bool}(hT:TOk T cl){ops:Array Oper}{K:St→Prop}(hK:ExtK K){W:List (List Nat)}(h:ordersOk cl ops W=true)(hne:W≠[])
  (hd:(∀ p q,p∈W→q∈W→p=q)∨∀ (i:Nat) o,ops[i]?=some o→∀ (F:List Nat→St→Prop) (V:List Nat→Prop) (s:St),(∃ p,V p)→(∀ p,V p→T o (F p) s)→T o (fun s'=>∀ p,V p→F p s') s)
  {s:St} (hs:∀ p∈W,seqT T ops p K s):anyG T ops K ops.size (Array.replicate ops.size false) s:=by
 have hl:∀ i,(Array.replicate ops.size false).getD i true=false↔i<ops.size:=fun i=>by
  simp only[Array.getD_eq_getD_getElem?,Array.getElem?_replicate]
  split<;>simp_all
 have h':=h;simp only[ordersOk,Bool.and_eq_true]at h';obtain⟨⟨⟨h1,h2⟩,h3⟩,h4⟩:=h';refine any_of_orders hT hK (fun i o ho=>?_) (fun j o ho e he hb=>?_) _ _ (fun p=>p∈W) s (by simp) ?_ (fun p hp=>?_) (orders_cov h hl) hd hs
 ·obtain⟨hi,e⟩:=BP.1 ho;have:=Array.all_eq_true.1 h2 i hi;rw[e]at this;simpa using this
 ·have hj:j<ops.size:=(BP.1 ho).1;have q1:=List.all_eq_true.1 h1 j (List.mem_range.2 hj);rw[ho]at q1;simp only[Bool.and_eq_true]at q1;have:=List.all_eq_true.1 q1.1 e he;rw[hb]at this;simpa using this
 ·cases W with
  |nil=>exact absurd rfl hne
  |cons p W=>exact⟨p,by simp⟩
 ·have h8:=List.all_eq_true.1 h3 p hp;simp only[Bool.and_eq_true]at h8;obtain⟨⟨⟨⟨k1,k2⟩,k3⟩,k5⟩,k4⟩:=h8;have hnd:=nodB_nodup p k1;have hlen:p.length=ops.size:=eq_of_beq k2;refine⟨hnd,fun i=>?_,hlen⟩;rw[hl]
  constructor
  ·intro hi;have:=List.all_eq_true.1 k3 i hi;simpa using this
  ·intro hi;have:=List.all_eq_true.1 k5 i (List.mem_range.2 hi);simpa using this
def allocO:Op→Bool
 |.alloc _|.box .. | .buildSlice .. =>true
 |_=>false
def wrC(P:Program)(o:Op):Bool:=match o with|.convert _ b _=>wrO P o && !(strT P b)|_=>wrO P o
theorem convert_str{P:Program}{a b:TypeId}{h h':List ABlk}{x r:AV}{p:Prop}(hs:strT P b=true)(e:convertS P a b h x=some (p,r,h')):h'=h:=by
 have hi:intT P b=none:=by
  unfold strT at hs;unfold intT;cases hu:P.underlying b with
  |none=>rfl
  |some u=>rw[hu]at hs;cases u<;>simp at hs⊢
 unfold convertS at e
 split at e
 ·split at e
  ·rw[hi]at e;simp only at e
   split at e
   ·cases e;rfl
   ·first
     |(cases e;rfl)
     |(rw[if_pos hs]at e;cases e;rfl)
  ·cases e
 ·split at e
  ·rw[hi]at e;cases e
  ·cases e
 ·rw[if_pos hs]at e
  split at e
  ·cases e;rfl
  ·cases e
 ·split at e
  ·obtain⟨_,_,e⟩:=Option.map_eq_some_iff.1 e;cases e;rfl
  ·cases e
 ·split at e
  ·obtain⟨_,_,e⟩:=BK.1 e;obtain⟨_,_,e⟩:=Option.map_eq_some_iff.1 e;cases e;rfl
  ·cases e
 ·split at e
  ·cases e;rfl
  ·cases e
 ·cases e
theorem kop_frameC{P:Program}{o:Oper}{K:St→Prop}{st:St}(h:kop P o K st):∃ r h',K (pt ⟨st.s,h'⟩ o.dst r)∧(wrC P o.op=false→h'=st.h)∧∀ st2:St,st2.s.g=st.s.g→(∀ x∈o.op.operands.toList,get st2.s x=get st.s x)→(rdO P o.op=true→st2.h=st.h)→
  ∀ K2:St→Prop,K2 (pt ⟨st2.s,if wrC P o.op=true then h' else st2.h⟩ o.dst r)→kop P o K2 st2:=by
 obtain⟨d,op,t,pos,af,g⟩:=o
 by_cases hc:∃ a b x,op=.convert a b x∧strT P b=true
 ·obtain⟨a,b,x,rfl,hs⟩:=hc;have hw:wrC P (Op.convert a b x)=false:=by simp[wrC,hs]
  have hi:intT P b=none:=by
   unfold strT at hs;unfold intT;cases hu:P.underlying b with
   |none=>rfl
   |some u=>rw[hu]at hs;cases u<;>simp at hs⊢
  rw[s_convert]at h;cases e:convertS P a b st.h (get st.s x)with
  |none=>rw[e]at h;exact h.elim
  |some q=>
   obtain⟨p,r,h'⟩:=q;have eh:=convert_str hs e;subst eh;rw[e]at h;refine⟨r,st.h,h.2,fun _=>rfl,fun st2 e1 e2 e3 K2 hk=>?_⟩;have e4:=e3 (by simp[rdO,hi]);rw[s_convert,e2 x (by simp[Op.operands]),e4,e];rw[hw,e4]at hk;exact⟨h.1,hk⟩
 ·have hw:wrC P op=wrO P op:=by
   cases op with
   |convert a b x=>
    have:strT P b=false:=by
     cases hs:strT P b with
     |false=>rfl
     |true=>exact absurd ⟨a,b,x,rfl,hs⟩ hc
    simp[wrC,this]
   |_=>rfl
  have:=kop_frame h;simp only[Frame]at this;rw[hw];exact this
def tmpsO(o:Oper):List Nat:=o.op.operands.toList.filterMap fun|.tmp t=>some t|_=>none
theorem mem_tmpsO{o:Oper}{t:Nat}(h:Operand.tmp t∈o.op.operands.toList):t∈tmpsO o:=List.mem_filterMap.2 ⟨_,h,rfl⟩
def readO:Op→Bool
 |.call ⟨.value (.func _),_,_⟩|.load .. | .fieldAddr .. | .nilCheck _|.indexAddr .. =>true
 |_=>false
def slotC(x y:Oper):Bool:=
 (match x.dst with|some d=>(tmpsO y).contains d || y.dst==some d|none=>false) || (match y.dst with|some d=>(tmpsO x).contains d|none=>false)
def clashC(P:Program)(x y:Oper):Bool:=
 slotC x y || (!(readO x.op&&allocO y.op)&&((wrC P x.op&&(rdO P y.op || wrC P y.op)) || ((rdO P x.op || wrC P x.op)&&wrC P y.op)))
theorem slotC_f{x y:Oper}(h:slotC x y=false):(∀ t,¬(x.dst=some t∧y.dst=some t))∧(∀ (s s2:St),s2.s.g=s.s.g→(∀ t,x.dst≠some t→look s2.s.l t=look s.s.l t)→∀ z∈y.op.operands.toList,get s2.s z=get s.s z)∧
  ∀ (s s2:St),s2.s.g=s.s.g→(∀ t,y.dst≠some t→look s2.s.l t=look s.s.l t)→∀ z∈x.op.operands.toList,get s2.s z=get s.s z:=by
 simp only[slotC,Bool.or_eq_false_iff]at h
 have gen:∀ (o:Oper) (d:Option Tmp),(∀ t,d=some t→Operand.tmp t∉o.op.operands.toList)→∀ (s s2:St),s2.s.g=s.s.g→(∀ t,d≠some t→look s2.s.l t=look s.s.l t)→∀ z∈o.op.operands.toList,get s2.s z=get s.s z:=by
  intro o d hd s s2 hg hl z hz;cases z with
  |tmp t=>exact hl t fun e=>hd t e hz
  |const v=>rfl
  |global g=>simp only[get,hg]
  |func f=>rfl
 refine⟨fun t ht=>?_,gen y x.dst fun t e hm=>?_,gen x y.dst fun t e hm=>?_⟩
 ·have h1:=h.1;rw[ht.1]at h1;simp only[Bool.or_eq_false_iff]at h1;rw[ht.2]at h1;simp at h1
 ·have h1:=h.1;rw[e]at h1;simp only[Bool.or_eq_false_iff]at h1;have:=h1.1;rw[List.contains_iff_mem.2 (mem_tmpsO hm)]at this;cases this
 ·have h1:=h.2;rw[e]at h1;simp only at h1;rw[List.contains_iff_mem.2 (mem_tmpsO hm)]at h1;cases h1
theorem kop_ext{P:Program}{o:Oper}{K:St→Prop}(hK:ExtK K):ExtK (kop P o K):=by
 intro s s2 he h;obtain⟨r,h',h1,h2,h3⟩:=kop_frame h;obtain⟨e1,e2,e3,e4⟩:=he;refine h3 s2 e2.symm (fun x _=>(eqvS_get ⟨e1,e2,e3,e4⟩ x).symm) (fun _=>e3.symm) K ?_
 have eh:(if wrO P o.op=true then h' else s2.h)=h':=by
  split
  ·rfl
  ·rename_i hw;rw[h2 (by simpa using hw)];exact e3.symm
 rw[eh];exact hK _ _ (eqvS_pt e1 e2 e4 h' o.dst r) h1
theorem kop_mono{P:Program}{o:Oper}{K K':St→Prop}{s:St}(hm:∀ s,K s→K' s)(h:kop P o K s):kop P o K' s:=by
 obtain⟨r,h',h1,h2,h3⟩:=kop_frame h;refine h3 s rfl (fun _ _=>rfl) (fun _=>rfl) K' (hm _ ?_)
 have eh:(if wrO P o.op=true then h' else s.h)=h':=by
  split
  ·rfl
  ·rename_i hw;exact (h2 (by simpa using hw)).symm
 rw[eh];exact h1
mutual
theorem fz_more{P:Program}{H H2:List ABlk}{b:Bool}:∀ (y x:AV),fz P H b y x→fz P (H++H2) b y x
 |.v _,x,h=>by simp only[fz]at h⊢;exact h
 |.nan,x,h=>by simp only[fz]at h⊢;exact h
 |.bad,_,_=>by simp only[fz]
 |.ela _ _,_,h=>by simp only[fz]at h
 |.own _ _ _,_,h=>by simp only[fz]at h
 |.ptr _ _ _,_,h=>by simp only[fz]at h
 |.agg ys,x,h=>by simp only[fz]at h⊢;obtain⟨xs,h1,h2⟩:=h;exact⟨xs,h1,fzL_more ys xs h2⟩
 |.tup ys,x,h=>by simp only[fz]at h⊢;obtain⟨xs,h1,h2⟩:=h;exact⟨xs,h1,fzL_more ys xs h2⟩
 |.ifc t y,x,h=>by simp only[fz]at h⊢;obtain⟨x',h1,h2⟩:=h;exact⟨x',h1,fz_more y x' h2⟩
 |.clo f ys zs,x,h=>by simp only[fz]at h⊢;obtain⟨xs,xs',h1,h2,h3⟩:=h;exact⟨xs,xs',h1,fzL_more ys xs h2,fzL_more zs xs' h3⟩
 |.sl bb n m ys,x,h=>by
  simp only[fz]at h⊢
  rcases h with h|⟨h1,i,k,xs,h2,h3,h4,h5,h6,h7⟩
  ·exact .inl h
  ·exact .inr ⟨h1,i,k,xs,h2,by rw[Ba (Bs.1 h3).1];exact h3,h4,h5,h6,fzL_more ys xs h7⟩
theorem fzL_more{P:Program}{H H2:List ABlk}{b:Bool}:∀ (ys xs:List AV),fzL P H b ys xs→fzL P (H++H2) b ys xs
 |[],xs,h=>by simp only[fzL]at h⊢;exact h
 |y::ys,xs,h=>by
  simp only[fzL]at h⊢;obtain⟨x,xs',h1,h2,h3⟩:=h;exact⟨x,xs',h1,fz_more y x h2,fzL_more ys xs' h3⟩
end
theorem alloc_app{P:Program}{o:Oper}{K:St→Prop}{s:St}(ha:allocO o.op=true)(h:kop P o K s):∃ r t,K (pt ⟨s.s,s.h++t⟩ o.dst r)∧∀ (s2:St),s2.s.g=s.s.g→(∀ x∈o.op.operands.toList,get s2.s x=get s.s x)→s2.h=s.h→∀ K2:St→Prop,K2 (pt ⟨s2.s,s.h++t⟩ o.dst r)→kop P o K2 s2:=by
 obtain⟨d,op,t,pos,af,g⟩:=o;cases op with
 |alloc u=>
  rw[s_alloc]at h;cases hz:zeroT P u with
  |none=>rw[hz]at h;exact h.elim
  |some z=>
   rw[hz]at h;refine⟨_,_,h.2,fun s2 e1 e2 e3 K2 hk=>?_⟩;rw[s_alloc,hz];refine⟨trivial,?_⟩;rw[e3];exact hk
 |box u x=>
  rw[s_box]at h;cases hz:flat (get s.s x)with
  |none=>rw[hz]at h;exact h.elim
  |some z=>
   rw[hz]at h;refine⟨_,_,h.2,fun s2 e1 e2 e3 K2 hk=>?_⟩;rw[s_box,e2 x (by simp[Op.operands]),hz];refine⟨trivial,?_⟩;rw[e3];exact hk
 |buildSlice u n ps=>
  rw[s_buildSlice]at h;cases hz:buildSliceS P u n (ps.toList.map fun (i,x)=>(i,get s.s x)) s.h with
  |none=>rw[hz]at h;exact h.elim
  |some z=>
   obtain⟨zr,zh⟩:=z
   have hzh:∃ t,zh=s.h++t:=by
    unfold buildSliceS at hz;obtain⟨_,_,hz⟩:=BK.1 hz;obtain⟨_,_,hz⟩:=BK.1 hz;obtain⟨_,_,hz⟩:=BK.1 hz
    split at hz
    ·obtain⟨l,_,h2⟩:=Option.map_eq_some_iff.1 hz;cases h2;exact⟨_,rfl⟩
    ·cases hz
   obtain⟨t',rfl⟩:=hzh;rw[hz]at h;refine⟨zr,t',h.2,fun s2 e1 e2 e3 K2 hk=>?_⟩
   have em:(ps.toList.map fun (i,x)=>(i,get s2.s x))=ps.toList.map fun (i,x)=>(i,get s.s x):=by
    apply List.map_congr_left
    intro q hq;show ((q.1,get s2.s q.2):Nat×AV)=(q.1,get s.s q.2);rw[e2 q.2 (by simp[Op.operands];exact⟨q.1,by simpa using hq⟩)]
   rw[s_buildSlice,em,e3,hz];exact⟨trivial,hk⟩
 |_=>simp[allocO]at ha
theorem blk_more{h t:List ABlk}{i ver:Nat}{k:ABlk}(e:blkS h i ver=some k):blkS (h++t) i ver=some k:=by
 obtain⟨h1,h2⟩:=blkS_eq e;unfold blkS;rw[Ba (Bs.1 h1).1,h1];simp[h2]
theorem read_app{P:Program}{o:Oper}{K:St→Prop}{s:St}(ha:readO o.op=true)(h:kop P o K s):∃ r,K (pt s o.dst r)∧∀ (s2:St),s2.s.g=s.s.g→(∀ x∈o.op.operands.toList,get s2.s x=get s.s x)→(∃ t,s2.h=s.h++t)→∀ K2:St→Prop,K2 (pt s2 o.dst r)→kop P o K2 s2:=by
 have rv:∀ {d:Option Tmp} {R:Option AV},StepK (retV s d R) K→∃ r,R=some r∧K (pt s d r):=fun {d R} h=>by
  cases R with
  |none=>exact h.elim
  |some r=>exact⟨r,rfl,h.2⟩
 obtain⟨d,op,t,pos,af,g⟩:=o;cases op with
 |load u x=>
  rw[s_load]at h;obtain⟨r,e,hk⟩:=rv h;refine⟨r,hk,fun s2 e1 e2 ⟨t,e3⟩ K2 hk2=>?_⟩
  have e4:loadS P u s2.h (get s2.s x)=some r:=by
   rw[e2 x (by simp[Op.operands]),e3];unfold loadS at e⊢
   split at e
   ·obtain⟨k,hb,e⟩:=BK.1 e;simp only[blk_more hb,Option.bind_some,e]
   ·exact e
   ·cases e
  rw[s_load,e4];exact⟨trivial,hk2⟩
 |fieldAddr u x f=>
  rw[s_fieldAddr]at h;obtain⟨r,e,hk⟩:=rv h;refine⟨r,hk,fun s2 e1 e2 ⟨t,e3⟩ K2 hk2=>?_⟩
  have e4:fieldAddrS P u f s2.h (get s2.s x)=some r:=by
   rw[e2 x (by simp[Op.operands]),e3];unfold fieldAddrS at e⊢
   split at e
   ·obtain⟨⟨o1,o2⟩,h1,e⟩:=BK.1 e;obtain⟨n,h2,e⟩:=BK.1 e;simp only[h1,Option.bind_some,h2]
    split at e
    ·rename_i hn;obtain⟨k,hb,e⟩:=BK.1 e;rw[if_pos hn,blk_more hb];exact e
    ·cases e
   ·exact e
   ·cases e
  rw[s_fieldAddr,e4];exact⟨trivial,hk2⟩
 |nilCheck x=>
  rw[s_nilCheck]at h
  have e4:∃ r,K (pt s d r)∧∀ (s2:St),get s2.s x=get s.s x→(∃ t,s2.h=s.h++t)→nilChk s2 d (get s2.s x)=retV s2 d (some r):=by
   unfold nilChk at h
   split at h
   ·rename_i i ver off hg;cases hb:blkS s.h i ver with
    |none=>rw[hb]at h;exact h.elim
    |some k=>
     rw[hb]at h;refine⟨_,h.2,fun s2 e ⟨t,e3⟩=>?_⟩;rw[e,hg];simp only[nilChk,e3,blk_more hb]
     rfl
   ·rename_i b cs hg;refine⟨_,h.2,fun s2 e _=>?_⟩;rw[e,hg];simp only[nilChk]
   ·exact h.elim
  obtain⟨r,hk,he⟩:=e4;refine⟨r,hk,fun s2 e1 e2 e3 K2 hk2=>?_⟩;rw[s_nilCheck,he s2 (e2 x (by simp[Op.operands])) e3];exact⟨trivial,hk2⟩
 |indexAddr u x y=>
  rw[s_indexAddr]at h;cases e:indexAddrS P u s.h (get s.s x) (get s.s y)with
  |none=>rw[e]at h;exact h.elim
  |some q=>
   obtain⟨p,r⟩:=q;rw[e]at h;refine⟨r,h.2,fun s2 e1 e2 ⟨t,e3⟩ K2 hk2=>?_⟩
   have e4:indexAddrS P u s2.h (get s2.s x) (get s2.s y)=some (p,r):=by
    rw[e2 x (by simp[Op.operands]),e2 y (by simp[Op.operands]),e3];unfold indexAddrS at e⊢
    split at e
    ·exact e
    ·obtain⟨k,hb,e⟩:=BK.1 e;simp only[blk_more hb,Option.bind_some];exact e
    ·obtain⟨k,hb,e⟩:=BK.1 e;simp only[blk_more hb,Option.bind_some];exact e
    ·cases e
   rw[s_indexAddr,e4];exact⟨h.1,hk2⟩
 |call c=>
  obtain⟨callee,xs,ts⟩:=c;cases callee with
  |value f=>
   cases f with
   |func f=>
    rw[s_callF]at h;have em:∀ s2:St,(∀ x∈(Op.call ⟨.value (.func f),xs,ts⟩).operands.toList,get s2.s x=get s.s x)→xs.toList.map (get s2.s)=xs.toList.map (get s.s):=fun s2 e2=>List.map_congr_left fun z hz=>e2 z (by simp[Op.operands,Call.operands];exact .inr (by simpa using hz))
    obtain⟨h1,ys,r,h2,h3,h4⟩|⟨r,h1,h2⟩:=h
    ·refine⟨r,h4,fun s2 e1 e2 ⟨t,e3⟩ K2 hk=>?_⟩;rw[s_callF,em s2 e2];refine .inl ⟨h1,ys,r,?_,by rw[e1];exact h3,hk⟩
     rcases h2 with h2|⟨h2,h5⟩
     ·exact .inl h2
     ·exact .inr ⟨by rw[e3];exact fzL_more _ _ h2,h5⟩
    ·refine⟨r,h2,fun s2 e1 e2 _ K2 hk=>?_⟩;rw[s_callF,em s2 e2];exact .inr ⟨r,h1,hk⟩
   |_=>simp[readO]at ha
  |_=>simp[readO]at ha
 |_=>simp[readO]at ha
theorem kop_comm{P:Program}{x y:Oper}{K:St→Prop}{s:St}(hc:clashC P x y=false)(hK:ExtK K)(h:kop P x (kop P y K) s):kop P y (kop P x K) s:=by
 simp only[clashC,Bool.or_eq_false_iff]at hc;obtain⟨hsl,hm⟩:=hc;obtain⟨n1,n2,n3⟩:=slotC_f hsl
 by_cases hca:(readO x.op&&allocO y.op)=true
 ·simp only[Bool.and_eq_true]at hca;obtain⟨r,hy,hx⟩:=read_app hca.1 h;obtain⟨r2,t2,g1,g2⟩:=alloc_app hca.2 hy;refine g2 s (pt_g s x.dst r).symm (fun z hz=>(n2 s (pt s x.dst r) (pt_g s x.dst r) (fun t ht=>by rw[look_pt,if_neg (fun h=>ht h.1)]) z hz).symm) rfl _ ?_;refine hx (pt ⟨s.s,s.h++t2⟩ y.dst r2) (pt_g _ _ _) (fun z hz=>n3 ⟨s.s,s.h++t2⟩ (pt ⟨s.s,s.h++t2⟩ y.dst r2) (pt_g _ _ _) (fun t ht=>by rw[look_pt,if_neg (fun h=>ht h.1)]) z hz) ⟨t2,rfl⟩ K ?_;exact hK _ _ (eqvS_swap s.s _ n1 _ _ _ _) g1
 ·have hm:((wrC P x.op&&(rdO P y.op || wrC P y.op)) || ((rdO P x.op || wrC P x.op)&&wrC P y.op))=false:=by
   have:(readO x.op&&allocO y.op)=false:=by simpa using hca
   rw[this]at hm;simpa using hm
  simp only[Bool.or_eq_false_iff]at hm;obtain⟨r1,h1,a1,a2,a3⟩:=kop_frameC h;obtain⟨r2,h2,b1,b2,b3⟩:=kop_frameC a1
  have c1:rdO P y.op=true→wrC P x.op=false:=fun hr=>by
   have:=hm.1;rw[hr]at this;simpa using this
  have c2:rdO P x.op=true→wrC P y.op=false:=fun hr=>by
   have:=hm.2;rw[hr]at this;simpa using this
  have c3:¬(wrC P x.op=true∧wrC P y.op=true):=fun⟨p,q⟩=>by
   have:=hm.1;rw[p,q]at this;simp at this
  refine b3 s (pt_g _ _ _).symm (fun z hz=>(n2 s (pt ⟨s.s,h1⟩ x.dst r1) (pt_g _ _ _) (fun t ht=>by rw[look_pt,if_neg (fun h=>ht h.1)]) z hz).symm) (fun hr=>(a2 (c1 hr)).symm) _ ?_;refine a3 (pt ⟨s.s,if wrC P y.op=true then h2 else s.h⟩ y.dst r2) (pt_g _ _ _) (fun z hz=>n3 s (pt ⟨s.s,if wrC P y.op=true then h2 else s.h⟩ y.dst r2) (pt_g _ _ _) (fun t ht=>by rw[look_pt,if_neg (fun h=>ht h.1)]) z hz) (fun hr=>by show (if wrC P y.op=true then h2 else s.h)=s.h;rw[if_neg (by rw[c2 hr];simp)]) K ?_
  have eh:(if wrC P x.op=true then h1 else (pt ⟨s.s,if wrC P y.op=true then h2 else s.h⟩ y.dst r2).h)=h2:=by
   show (if wrC P x.op=true then h1 else if wrC P y.op=true then h2 else s.h)=h2
   by_cases wx:wrC P x.op=true
   ·rw[if_pos wx]
    have:wrC P y.op=false:=by
     cases hw:wrC P y.op with
     |false=>rfl
     |true=>exact absurd ⟨wx,hw⟩ c3
    exact (b2 this).symm
   ·rw[if_neg wx]
    by_cases wy:wrC P y.op=true
    ·rw[if_pos wy]
    ·rw[if_neg wy];have q1:=b2 (by simpa using wy);have q2:=a2 (by simpa using wx);exact (q1.trans q2).symm
  rw[eh];exact hK _ _ (eqvS_swap s.s _ n1 _ _ _ _) b1
theorem kop_ok(P:Program):TOk (kop P) (clashC P):=⟨fun hm h=>kop_mono hm h,fun hK=>kop_ext hK,fun hc hK h=>kop_comm hc hK h⟩
def detO(o:Op):Bool:=match o with|.pick .. =>true|.call ⟨.value (.func _),_,_⟩=>false|_=>true
theorem kop_conj{P:Program}{o:Oper}(hd:detO o.op=true)(F:List Nat→St→Prop)(V:List Nat→Prop)(s:St)(hne:∃ p,V p)(h:∀ p,V p→kop P o (F p) s):kop P o (fun s'=>∀ p,V p→F p s') s:=by
 obtain⟨p0,hp0⟩:=hne;unfold kop at h⊢
 split
 ·rename_i c a b ho;have h0:=h p0 hp0;rw[ho]at h0;simp only at h0;unfold PickK at h0⊢
  split at h0
  ·rename_i z hz
   have hh:∀ p,V p→(z=true→F p (pt s o.dst (get s.s a)))∧(z=false→F p (pt s o.dst (get s.s b))):=fun p hp=>by
    have:=h p hp;rw[ho]at this;simp only[PickK,hz]at this;exact this
   exact⟨fun e p hp=>(hh p hp).1 e,fun e p hp=>(hh p hp).2 e⟩
  ·exact h0.elim
 ·rename_i g xs ts ho;rw[ho]at hd;cases hd
 ·rename_i hn1 hn2
  have hh:∀ p,V p→StepK (stepS P o s) (F p):=fun p hp=>by
   have:=h p hp
   split at this
   ·rename_i c a b ho;exact absurd ho (hn1 c a b)
   ·rename_i g xs ts ho;exact absurd ho (hn2 g xs ts)
   ·exact this
  have h0:=hh p0 hp0;unfold StepK at h0⊢
  split at h0
  ·rename_i pr s' e;refine⟨h0.1,fun p hp=>?_⟩;have:=hh p hp;rw[e]at this;exact this.2
  ·exact h0.elim
def okW(ops:Array Oper):List (List Nat)→Bool
 |[]=>false
 |[_]=>true
 |_=>ops.all fun o=>detO o.op
theorem DrawK.orders{P:Program}{ops:Array Oper}{Q:Post}{s:St}(W:List (List Nat))(h1:P.follows .mixedOrders=true)(h2:ordersOk (clashC P) ops W=true)(h3:okW ops W=true)(h4:∀ p∈W,seqT (kop P) ops p (normK Q) s):DrawK P ops Q s:=by
 refine⟨h1,.inr (.inr ?_)⟩;rw[←anyK_eq];have hQ:ExtK (ExtC (normK Q)):=fun s s' he ⟨s2,h1,h2⟩=>⟨s2,eqvS_trans h1 he,h2⟩
 have h4:∀ p∈W,seqT (kop P) ops p (ExtC (normK Q)) s:=fun p hp=>seqT_mono (T:=kop P) (fun o K K' s hm h=>kop_mono hm h) (K:=normK Q) (fun s h=>(⟨s,eqvS_refl s,h⟩:ExtC (normK Q) s)) p (h4 p hp)
 refine anyG_orders (kop_ok P) hQ h2 (fun e=>by rw[e]at h3;cases h3) ?_ h4
 match W,h3 with
 |[p],_=>exact .inl fun a b ha hb=>by rw[Bj.1 ha,Bj.1 hb]
 |p::q::W,h3=>
  refine .inr fun i o ho F V s hne h=>kop_conj ?_ F V s hne h
  obtain⟨hi,e⟩:=BP.1 ho;have:=Array.all_eq_true.1 h3 i hi;rw[e]at this;exact this
theorem seqT_kops{P:Program}{ops:Array Oper}{K:St→Prop}:∀ (p:List Nat) (os:List Oper) {s:St},p.map (ops[·]?)=os.map some→(∀ o∈os,o.guard=none)→kops P ops os K s→seqT (kop P) ops p K s
 |[],[],s,_,_,h=>h
 |i::p,o::os,s,he,hg,h=>by
  simp only[BA,List.cons.injEq]at he;simp only[seqT,he.1];have:=hg o (by simp);simp only[kops,this]at h;exact kop_mono (fun s' h'=>seqT_kops p os he.2 (fun x hx=>hg x (by simp[hx])) h') h
 |[],o::os,s,he,_,_=>by simp at he
 |i::p,[],s,he,_,_=>by simp at he
theorem range_toList(ops:Array Oper):(List.range ops.size).map (ops[·]?)=ops.toList.map some:=by
 apply List.ext_getElem?
 intro i;simp only[Bm]
 by_cases hi:i<ops.size
 ·simp[hi]
 ·rw[Bq (by simpa using hi),Bq (by simpa using hi)];rfl
theorem DrawK.text{P:Program}{ops:Array Oper}{Q:Post}{s:St}(h1:P.follows .mixedOrders=true)(h2:ordersOk (clashC P) ops [List.range ops.size]=true)(h:kops P ops ops.toList (normK Q) s):DrawK P ops Q s:=
 DrawK.orders [List.range ops.size] h1 h2 rfl fun p hp=>by
  rw[Bj.1 hp];refine seqT_kops _ _ (range_toList ops) (fun o ho=>?_) h;simp only[ordersOk,Bool.and_eq_true]at h2;have:=Array.all_eq_true.1 h2.1.1.2;obtain⟨i,hi,e⟩:=Array.mem_iff_getElem.1 (Array.mem_toList_iff.1 ho);have:=this i hi;rw[e]at this;simpa using this
def gF:=@GuardK.intro_f
def gT:=@GuardK.intro_t
def cI:=@CondK.intro
def pI:=@PickK.intro
def aI:=@And.intro
theorem dI{P:Program}{ops:Array Oper}{Q:Post}{s:St}(h3:kops P ops ops.toList (normK Q) s)(h1:P.follows .mixedOrders=true:=by kernel_rfl)(h2:drawOk P ops=true:=by kernel_rfl):DrawK P ops Q s:=DrawK.intro h1 h2 h3
theorem dX{P:Program}{ops:Array Oper}{Q:Post}{s:St}(h:kops P ops ops.toList (normK Q) s)(h1:P.follows .mixedOrders=true:=by kernel_rfl)(h2:ordersOk (clashC P) ops [List.range ops.size]=true:=by kernel_rfl):DrawK P ops Q s:=DrawK.text h1 h2 h
end Go.Ev
