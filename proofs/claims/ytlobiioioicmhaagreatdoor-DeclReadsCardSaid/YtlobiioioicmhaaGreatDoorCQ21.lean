/- A part of the proof. -/
import Derived.Test.YtlobiioioicmhaaGreatDoorCQ20
set_option linter.all false
set_option maxHeartbeats 8000000
namespace Go.Proofs.YtlobiioioicmhaaGreatDoor
open _root_.Bool renaming not_true→Bv,not_false→Bf
open _root_.List renaming getElem?_eq_some_iff→Bs,getElem?_append_left→Ba,getElem?_set_self→Be,getElem?_set_ne→Bn,length_set→Bl,length_append→Bp,append_assoc→Bo,cons_append→Bc,nil_append→Bi,getElem?_cons_zero→Bz,getElem?_cons_succ→Bu,set_cons_zero→Bx,set_cons_succ→Bw,getElem?_eq_none→Bq,set_append_left→Bg,take_of_length_le→Bt,mem_singleton→Bj,length_nil→BD,mem_cons→BI,getElem?_toArray→BU
open _root_.Nat renaming le_refl→BL,le_trans→BM,zero_le→BN
open Go.Proofs.Tryz renaming prog→Tp
open Go Go.Ev
set_option maxRecDepth 20000
variable {γ:List (Nat×AV)}
theorem gG{ts:List Tk}(h:IB ts)(p:Nat):(NC ts p).all eH:=by
 unfold NC;refine all_bind (CU _) fun n p1 _=>all_bind (Ld (P:=fun _=>True) h.1 (fun p=>CU _) p1) fun l p2 hl=>all_bind (CU _) fun _ p3 _=>?_
 exact hl.1
theorem NL{ts:List Tk}(h:IB ts):∀ (f:Nat) (l:List Ch) (p:Nat),(∀ x∈l,Yy x)→(D4 ts f l p).all fun r=>r.length≤l.length+f∧∀ x∈r,Yy x
 |0,l,p,hl=>trivial
 |f+1,l,p,hl=>by
  rw[D4]
  split
  ·exact⟨by omega,hl⟩
  ·refine all_bind (WS h p) fun x q hx=>?_
   have k:=NL h f (l++[x]) q (fun y hy=>by
    rcases List.mem_append.1 hy with hy|hy
    ·exact hl y hy
    ·rw[Bj.1 hy];exact hx)
   cases e:D4 ts f (l++[x]) q with
   |bad _ _=>trivial
   |ok r _=>
    rw[e]at k;have k1:r.length≤(l++[x]).length+f:=k.1;rw[Bp,List.length_singleton]at k1;exact⟨by show r.length≤_;omega,k.2⟩
theorem Wn{ts:List Tk}(h:IB ts)(p:Nat):(FK ts p).all Yp:=by
 have hb:=h.1;unfold FK;refine all_bind (CU _) fun _ p1 _=>all_bind (CU _) fun n p2 _=>all_bind (CU _) fun _ p3 _=>all_bind (NL h _ [] _ (fun _ h=>by cases h)) fun l p4 hl=>?_
 have h1:=hl.1;simp only[BD]at h1;exact⟨by show l.length≤_;omega,hl.2⟩
theorem NT{ts:List Tk}(h:IB ts):∀ (f:Nat) (g:Pg) (p:Nat),(∀ x∈g.tags,eH x)→(∀ x∈g.kinds,Yp x)→(E1 ts f g p).all fun r=>r.tags.length+r.kinds.length≤g.tags.length+g.kinds.length+f∧(∀ x∈r.tags,eH x)∧∀ x∈r.kinds,Yp x
 |0,g,p,h1,h2=>trivial
 |f+1,g,p,h1,h2=>by
  have snoc:∀ {α:Type} {P:α→Prop} {l:List α} {x:α},(∀ y∈l,P y)→P x→∀ y∈l++[x],P y:=fun {α P l x} hl hx y hy=>by
   rcases List.mem_append.1 hy with hy|hy
   ·exact hl y hy
   ·rw[Bj.1 hy];exact hx
  rw[E1]
  split
  ·split
   ·refine all_bind (gG h _) fun x q hx=>?_
    have k:=NT h f ⟨g.tags++[x],g.kinds⟩ q (snoc h1 hx) h2;cases e:E1 ts f ⟨g.tags++[x],g.kinds⟩ q with
    |bad _ _=>trivial
    |ok r _=>
     rw[e]at k;have k1:r.tags.length+r.kinds.length≤(g.tags++[x]).length+g.kinds.length+f:=k.1;rw[Bp,List.length_singleton]at k1;exact⟨by show r.tags.length+r.kinds.length≤_;omega,k.2⟩
   ·refine all_bind (Wn h _) fun x q hx=>?_
    have k:=NT h f ⟨g.tags,g.kinds++[x]⟩ q h1 (snoc h2 hx);cases e:E1 ts f ⟨g.tags,g.kinds++[x]⟩ q with
    |bad _ _=>trivial
    |ok r _=>
     rw[e]at k;have k1:r.tags.length+r.kinds.length≤g.tags.length+(g.kinds++[x]).length+f:=k.1;rw[Bp,List.length_singleton]at k1;exact⟨by show r.tags.length+r.kinds.length≤_;omega,k.2⟩
  ·exact⟨by omega,h1,h2⟩
theorem WY(l:List UInt8):Yd (D5 l).1:=YD (P:=Yd) ⟨BN _,fun _ h=>(List.not_mem_nil h).elim,BN _,fun _ h=>(List.not_mem_nil h).elim⟩ (fun ts h=>by
 have hb:=h.1;have k:=NT h (ts.length+1) UL 0 (fun _ h=>(List.not_mem_nil h).elim) (fun _ h=>(List.not_mem_nil h).elim);show (E1 ts (ts.length+1) UL 0).all Yd;cases e:E1 ts (ts.length+1) UL 0 with
 |bad _ _=>trivial
 |ok r _=>
  rw[e]at k;have k1:r.tags.length+r.kinds.length≤0+0+(ts.length+1):=k.1;exact⟨by show r.tags.length≤_;omega,k.2.1,by show r.kinds.length≤_;omega,k.2.2⟩) l
variable {γ:List (Nat×AV)} {ts:List Tk} {L:AV}
theorem oO:Ak Tp 135:=⟨_,Tryz.func135,by kernel_rfl,by kernel_rfl⟩
theorem Sr(E:Il L ts){h:List Aa}{i n:Nat}{S:S8}(hr:RQ ts h i L n S):
  Ck Tp γ 135 [.ptr i 0 0] h (Nn ts n L i h (AA (Cm ts n S).1) (Cm ts n S).2):=by
 have hr0:=hr;obtain⟨hi,hS⟩:=hr;obtain⟨p,bd⟩:=S;have ll:=E.len;have hl:=(Bs.1 hi).1;have hfail:=IW (γ:=γ) E hr0 p 80 (by decide);refine Ck.of Tryz.func135 rfl ?_;cases bd with
 |some b=>
  have hb:(Ek (some b)==0)=false:=hS.bad;rw[Kg];simp only[Tryz.f135,Af,seval];refine dI ?_;simp only[Cn,hi,cQ,hb,Af,A7,seval];refine Ao.intro c70 _ hfail (fun r h2 hh=>?_) (fun v h1 hh=>by cases hh.1);obtain⟨e,f2,r2⟩:=hh;cases e;simp only[Af,seval];exact⟨rfl,f2,r2⟩
 |none=>
  have hb:(Ek none==0)=true:=rfl
  by_cases hlt:p<ts.length
  ·obtain⟨b,m,cs,rfl,hcs⟩:=E.sl hlt;obtain⟨t,ht⟩:∃ t,ts[p]?=some t:=⟨ts[p],by simp[hlt]⟩;have h6l:=EV.len hcs hlt;have h0:cs[p * 6]?=some (.v (.int .i64 t.kind)):=EV.cell (b:=b) hcs ht (k:=0) (by decide);have h1:cs[p * 6+1]?=_:=EV.cell (b:=b) hcs ht (k:=1) (by decide);have d1:decide (p<ts.length)=true:=decide_eq_true hlt;have hW:Cm ts n (p,none)=if t.kind=1∧(Ei t.text).2=true∧(Ei t.text).1≠5 then ((Ei t.text).1,(p+1,none))else (0,DZ ts n p 80 (p,none)):=by unfold Cm;simp only[ht]
   rw[hW]
   by_cases hk:t.kind=1
   ·have dk:(t.kind==1)=true:=by simp[hk]
    have hty:=bA (γ:=γ) t.text;simp only[Tryz.f135,Af,seval];refine dI ?_;simp only[Cn,hi,cQ,ll,hb,d1,h0,dk,Af,A7,seval];refine⟨hlt,?_⟩;refine dI ?_;simp only[Cn,hi,cQ,h1,Tk.cells,Af,A7,seval];refine⟨hlt,Ag.intro c15 rfl hty ?_⟩;generalize Ei t.text=R;obtain⟨k,ok⟩:=R;cases ok with
    |false=>
     rw[if_neg (fun h=>by cases h.2.1)];simp only[Cn,hi,cQ,IQ,Af,A7,seval];refine Ao.intro c70 _ hfail (fun r h2 hh=>?_) (fun v h1 hh=>by cases hh.1);obtain⟨e,f2,r2⟩:=hh;cases e;simp only[Af,seval];exact⟨rfl,f2,r2⟩
    |true=>
     by_cases h5:k=5
     ·have d5:(k != 5)=false:=by simp[h5]
      rw[if_neg (fun h=>h.2.2 h5)];simp only[Cn,hi,cQ,IQ,d5,Af,A7,seval];refine Ao.intro c70 _ hfail (fun r h2 hh=>?_) (fun v h1 hh=>by cases hh.1);obtain⟨e,f2,r2⟩:=hh;cases e;simp only[Af,seval];exact⟨rfl,f2,r2⟩
     ·have d5:(k != 5)=true:=by simp[h5]
      rw[if_pos ⟨hk,rfl,h5⟩];have hn:=E.n;have w1:IntKind.i64.wrap ((p:Int)+1)=((p+1:Nat):Int):=(A4 (by omega) (by omega)).trans (by omega);simp only[Cn,hi,cQ,IQ,d5,w1,Af,A7,seval];exact⟨rfl,Fr.set _ rfl,Be hl,hlt,fun b hb=>by cases hb⟩
   ·have dk:(t.kind==1)=false:=by simp[hk]
    rw[if_neg (fun h=>hk h.1)];simp only[Tryz.f135,Af,seval];refine dI ?_;simp only[Cn,hi,cQ,ll,hb,d1,h0,dk,Af,A7,seval];refine⟨hlt,Ao.intro c70 _ hfail (fun r h2 hh=>?_) (fun v h1 hh=>by cases hh.1)⟩;obtain⟨e,f2,r2⟩:=hh;cases e;simp only[Af,seval];exact⟨rfl,f2,r2⟩
  ·have d1:decide (p<ts.length)=false:=decide_eq_false hlt;have hW:Cm ts n (p,none)=(0,DZ ts n p 80 (p,none)):=by unfold Cm;rw[Bq (by omega)]
   rw[hW];simp only[Tryz.f135,Af,seval];refine dI ?_;simp only[Cn,hi,cQ,ll,hb,d1,Af,A7,seval];refine Ao.intro c70 _ hfail (fun r h2 hh=>?_) (fun v h1 hh=>by cases hh.1);obtain⟨e,f2,r2⟩:=hh;cases e;simp only[Af,seval];exact⟨rfl,f2,r2⟩
theorem LA{n:Nat}(S:S8)(h:(Cm ts n S).2.2=none):S.2=none∧(Cm ts n S).2.1=S.1+1∧S.1<ts.length:=by
 obtain⟨p,b⟩:=S;cases b with
 |some b=>rw[Kg]at h;cases h
 |none=>
  refine⟨rfl,?_⟩;unfold Cm at h⊢;cases e:ts[p]? with
  |none=>rw[e]at h;cases h
  |some t=>
   simp only[e]at h⊢
   split at h
   ·rename_i hc;rw[if_pos hc];exact⟨rfl,(Bs.1 e).1⟩
   ·cases h
theorem c78:Ak Tp 78:=⟨_,Tryz.func78,by kernel_rfl,by kernel_rfl⟩
def j0(γ:List (Nat×AV))(i r b:Nat)(y:S8×List Aa):St:=⟨⟨41,[(0,.ptr i 0 0),(2,.ptr r 0 0),(3,.ptr b 0 0)],γ⟩,y.2⟩
theorem fS(E:Il L ts){h:List Aa}{i n:Nat}{S:S8}(hr:RQ ts h i L n S):
  Ck Tp γ 78 [.ptr i 0 0] h (JM ts n L i h (Hv ts n S).1.av (Hv ts n S).2):=by
 have hil:=hr.lt;have hn:=E.n;refine Ck.ofG Tryz.func78 rfl ?_;simp only[Tryz.f78,AH,B4,seval];refine B9 c80 (Fj E (hr.app [⟨0,137,[.v (.string ⟨#[]⟩),.v (.slice none 0 0)]⟩])) (fun h1 f1 r1=>?_);have kr1:h1[h.length]?=some ⟨0,137,[.v (.string ⟨#[]⟩),.v (.slice none 0 0)]⟩:=f1.at (Ap _ _ _) (fun e=>by have e:h.length=i:=e;omega);have F1:Fr (Io i h.length) h h1:=Io.i f1.pre;unfold Hv ER;generalize Au ts n S=W at r1⊢;obtain⟨nm,S1⟩:=W;simp only at r1⊢;have hl1:=F1.1;have hrl1:=(Bs.1 kr1).1;simp only[AH,Ae,Ap,CV,Aj,Bx,Bw,B4,seval];refine B9 OG (Cq E (r1.app [⟨0,137,[.v (.string ⟨nm.toArray⟩),.v (.slice none 0 0)]⟩]) [40]) (fun h2 f2 r2=>?_);have kb2:h2[h1.length]?=some ⟨0,137,[.v (.string ⟨nm.toArray⟩),.v (.slice none 0 0)]⟩:=f2.at (Ap _ _ _) (fun e=>by have e:h1.length=i:=e;omega);have kr2:h2[h.length]?=some ⟨0,137,[.v (.string ⟨#[]⟩),.v (.slice none 0 0)]⟩:=f2.at ((Ba hrl1).trans kr1) (fun e=>by have e:h.length=i:=e;omega);have F2:=F1.trans (Io.i (n0:=h.length) f2.pre) fun k e=>.inl e
 have hn2:h1.length+1≤h2.length:=by have:=f2.1;simpa using this
 obtain⟨b,hb⟩:∃ b,b=h1.length:=⟨_,rfl⟩;rw[←hb]at kb2 hn2 hrl1 hl1;simp only[B4,seval];refine B9 R3 (C4 E r2 [41]) (fun h3 f3 r3=>?_);rw[←hb];have hbi:b≠i:=by omega
 have kb3:=f3.at kb2 hbi;have kr3:=f3.at kr2 (fun e=>by have e:h.length=i:=e;omega);have F3:=F2.trans (Io.i (n0:=h.length) f3) fun k e=>.inl e
 have hn3:b+1≤h3.length:=BM hn2 f3.1;have hwl:(Av ts n [40] S1).1≤ts.length:=r2.2.1;clear F1 F2 kb2 kr2 kr1 f1 f2 f3 r1 hb;cases hB:HD ts [41] (Av ts n [40] S1)with
 |true=>
  have hT:AB ts [41] (Av ts n [40] S1)=((Av ts n [40] S1).1+1,none):=by unfold AB;rw[if_pos hB]
  rw[hT]at r3;rw[if_pos rfl];simp only[B4,Bv,seval];refine B9 OG (Cq E r3 [59]) (fun h9 f9 r9=>?_);have kb9:=f9.at kb3 hbi;have kr9:=f9.at kr3 (fun e=>by have e:h.length=i:=e;omega);have F9:=F3.trans (Io.i (n0:=h.length) f9) fun k e=>.inl e
  have q2:∀ c,(h9.set h.length c)[h.length]?=some c:=fun c=>Be (Bs.1 kr9).1
  simp only[AH,kb9,kr9,q2,Aj,Bx,Bw,B4,seval];exact⟨_,rfl,Io.fin (F9.trans (Fr.set (S:=Io i h.length) _ (.inr (BL _))) fun k e=>.inl e),r9.fr (Fr.set (S:=AU h.length) _ rfl) (fun e=>by have e:i=h.length:=e;omega),Rd.agg (AE.cons (Rd.str _) (AE.cons (Rd.val _) AE.nil))⟩
 |false=>
  have hT:AB ts [41] (Av ts n [40] S1)=Av ts n [40] S1:=by unfold AB;rw[if_neg (by rw[hB];decide)]
  rw[hT]at r3;rw[if_neg (by decide)];simp only[B4,Bf,seval];generalize hSw:Av ts n [40] S1=Sw at r3 hwl⊢;have hadv:=LA (ts:=ts) (n:=n) Sw;have hwn:Sw.2=none→1≤Sw.1:=fun e=>by have:=B3 (ts:=ts) (n:=n) (s:=[40]) (S:=S1) (by rw[hSw];exact e);rw[hSw]at this;omega
  refine Cc.via (fun s'=>∃ hq N,slotW s' (j0 γ i h.length b ((Cm ts n Sw).2,hq))∧RQ ts hq i L n (Cm ts n Sw).2∧hq[b]?=some ⟨0,137,[.v (.string ⟨nm.toArray⟩),N]⟩∧GL (b+1) 3 1 hq N 1 [AA (Cm ts n Sw).1]∧Fr (Io i h.length) h hq∧hq[h.length]?=some ⟨0,137,[.v (.string ⟨#[]⟩),.v (.slice none 0 0)]⟩) (fun K hK0=>?_) (fun s' hs'=>?_)
  ·obtain⟨xs,hxs⟩:∃ xs:List Int,xs=[]:=⟨_,rfl⟩;obtain⟨N,hN⟩:∃ N:AV,N=.v (.slice none 0 0):=⟨_,rfl⟩;have hK:∀ (hq:List Aa) (s':St),slotW s' (j0 γ i h.length b ((Cm ts n Sw).2,hq))→∀ N,RQ ts hq i L n (Cm ts n Sw).2→hq[b]?=some ⟨0,137,[.v (.string ⟨nm.toArray⟩),N]⟩→GL (b+1) 3 1 hq N (xs++[(Cm ts n Sw).1]).length ((xs++[(Cm ts n Sw).1]).flatMap HQ)→Fr (Io i h.length) h hq→hq[h.length]?=some ⟨0,137,[.v (.string ⟨#[]⟩),.v (.slice none 0 0)]⟩→K .normal s':=fun hq s' h1 N h2 h3 h4 h5 h6=>hK0 s' ⟨hq,N,h1,h2,h3,by subst hxs;exact h4,h5,h6⟩
   clear hK0;have hxs0:(xs.length+1) * 8≤140737488355328:=by subst hxs;decide
   have kb3':h3[b]?=some ⟨0,137,[.v (.string ⟨nm.toArray⟩),N]⟩:=by rw[hN];exact kb3
   have G3:GL (b+1) 3 1 h3 N xs.length (xs.flatMap HQ):=by subst hxs;subst hN;exact GL.nil
   rw[←hN];obtain⟨Y,hY⟩:∃ Y,Y=Cm ts n Sw:=⟨_,rfl⟩;rw[←hY]at hK;obtain⟨x,Sx⟩:=Y;simp only at hK;refine Cc.orders [[0,1,2,3,4,5,6,7],[0,2,1,3,4,5,6,7],[2,0,1,3,4,5,6,7],[0,2,3,1,4,5,6,7],[2,0,3,1,4,5,6,7],[0,2,3,4,1,5,6,7],[2,0,3,4,1,5,6,7],[2,3,0,1,4,5,6,7],[2,3,0,4,1,5,6,7],[2,3,4,0,1,5,6,7]] (fun _ _ _ h o h'=>Nn ts n L i h (AA (Cm ts n Sw).1) (Cm ts n Sw).2 o h') (Dw _) (by kernel_rfl) (by kernel_rfl) (by kernel_rfl) (fun q hq=>?_);simp only[BI,List.not_mem_nil,or_false]at hq
   rcases hq with rfl|rfl|rfl|rfl|rfl|rfl|rfl|rfl|rfl|rfl
   all_goals simp only[Rz,Gf,CI,BU,Bu,Bz,AH,kb3',B4,seval]
   all_goals refine⟨oO,Sr E r3,fun ra hp hh=>?_,fun v hp hh=>by obtain⟨e,_⟩:=hh;cases e⟩
   all_goals obtain⟨e,f,rp⟩:=hh
   all_goals rw[←hY]at e rp
   all_goals cases e
   all_goals have kbp:hp[b]?=some ⟨0,137,[.v (.string ⟨nm.toArray⟩),N]⟩:=f.at kb3' hbi
   all_goals have hbl:=(Bs.1 kbp).1
   all_goals have hff:=f.1
   all_goals have Gp:=G3.fr0 f (fun k e=>by have e:k=i:=e;omega)
   all_goals have g7:∀ l,(hp++l)[b]?=some ⟨0,137,[.v (.string ⟨nm.toArray⟩),N]⟩:=fun l=>(Ba hbl).trans kbp
   all_goals have s6:∀ l c,(hp++l).set b c=hp.set b c++l:=fun l c=>Bg _ _ hbl
   all_goals have hel:AE (fun k=>k<b+1∨AZ N k) hp [AA x] [.v (.int .i64 x)]:=AE.cons (Rd.int x) AE.nil
   all_goals have hxe:(xs++[x]).length=xs.length+1:=by simp
   all_goals have hxf:(xs++[x]).flatMap HQ=xs.flatMap HQ++[AA x]:=by simp[HQ]
   all_goals have Fpp:=F3.trans (Io.i (n0:=h.length) f) fun k e=>.inl e
   all_goals have krp:=f.at kr3 (fun e=>by have e:h.length=i:=e;omega)
   all_goals rcases Gp with⟨eN,e0,e1⟩|⟨j,ver,cs,eN,hnn,hj0,hj,hl,hrd⟩
   all_goals cases eN
   all_goals first
    |(have e0':=e0
      simp only[Bu,Bz,AH,kbp,g7,AA,Ap,s6,Aj,Bx,Bw,Bi,Bo,Bc,B4,seval];have GP:=(GL.nil (n0:=b+1) (t:=3) (sz:=1) (h:=hp)).push (h':=hp.set b ⟨0,137,[.v (.string ⟨nm.toArray⟩),.own (hp.length+1) 0 1]⟩++[⟨0,3,[.v (.int .i64 x)]⟩,⟨0,3,[.v (.int .i64 x)]⟩]) (j':=hp.length+1) (ver':=0) (xs:=[]) (es:=[.v (.int .i64 x)]) (ecs:=[AA x]) (fun j ver e=>by cases e) (fun _=>⟨by omega,rfl⟩) (by omega) ((Fr.set _ (.inl (by omega))).trans (Fr.app (S:=BR) _ _) fun k e=>e.elim) (Ce _ _ _ _ _ _) rfl hel;refine hK (hp.set b ⟨0,137,[.v (.string ⟨nm.toArray⟩),.own (hp.length+1) 0 1]⟩++[⟨0,3,[.v (.int .i64 x)]⟩,⟨0,3,[.v (.int .i64 x)]⟩]) _ ⟨rfl,rfl,⟨rfl,rfl,rfl,trivial⟩,rfl⟩ (.own (hp.length+1) 0 1) ?_ ?_ (by rw[hxe,hxf,e0,e1];exact GP) ?_ ?_
      ·exact (rp.fr (Fr.set (S:=AU b) _ rfl) (fun e=>hbi e.symm)).app _
      ·exact (Ba (by rw[Bl];exact hbl)).trans (Be hbl)
      ·exact Fpp.trans ((Fr.set (S:=Io i h.length) _ (.inr (by omega))).trans (Fr.app (S:=BR) _ _) fun k e=>e.elim) fun k e=>.inl e
      ·exact (Ba (by rw[Bl];omega)).trans ((Bn (by omega)).trans krp))
    |(have hjl:=(Bs.1 hj).1
      have hjb:j≠b:=by omega
      have hji:j≠i:=by omega
      have hjh:j≠h.length:=by omega
      have q1:∀ l,(hp++l)[j]?=some ⟨ver,3,cs⟩:=fun l=>(Ba hjl).trans hj
      have s8:∀ l c,(hp++l).set j c=hp.set j c++l:=fun l c=>Bg _ _ hjl
      have g9:∀ l c,(hp.set j c++l)[b]?=some ⟨0,137,[.v (.string ⟨nm.toArray⟩),.own j ver xs.length]⟩:=fun l c=>(Ba (by rw[Bl];exact hbl)).trans ((Bn hjb).trans kbp)
      have s9:∀ l c d,(hp.set j c++l).set b d=(hp.set j c).set b d++l:=fun l c d=>Bg _ _ (by rw[Bl];exact hbl)
      have hl':cs.length=xs.length * 1:=hl;have q4:List.take (xs.length * 1) cs=cs:=Bt (by omega);have q6:xs.length * 1≤cs.length:=by omega
      simp only[Nat.mul_one]at q4 q6;simp only[Bu,Bz,AH,kbp,g7,AA,Ap,q1,s8,g9,s9,q4,q6,Aj,Bx,Bw,B4,seval];have GP:=GL.push (h:=hp) (N:=.own j ver xs.length) (.inr ⟨j,ver,cs,rfl,hnn,hj0,hj,hl,hrd⟩) (h':=(hp.set j ⟨ver+1,3,cs++[.v (.int .i64 x)]⟩).set b ⟨0,137,[.v (.string ⟨nm.toArray⟩),.own j (ver+1) (xs.length+1)]⟩++[⟨0,3,[.v (.int .i64 x)]⟩]) (j':=j) (ver':=ver+1) (xs:=cs) (es:=[.v (.int .i64 x)]) (ecs:=[AA x]) (fun j2 ver2 e=>by cases e;exact⟨rfl,hj⟩) (fun e=>by cases e) (by omega) (((Fr.set (S:=fun k=>k<b+1∨AZ (.own j ver xs.length) k) _ (.inr rfl)).trans (Fr.set (S:=fun k=>k<b+1∨AZ (.own j ver xs.length) k) _ (.inl (by omega))) fun k e=>.inl e).trans (Fr.app (S:=BR) _ _) fun k e=>e.elim) ((Ba (by rw[Bl,Bl];exact hjl)).trans ((Bn hjb.symm).trans (Be hjl))) rfl hel;refine⟨by omega,hK ((hp.set j ⟨ver+1,3,cs++[.v (.int .i64 x)]⟩).set b ⟨0,137,[.v (.string ⟨nm.toArray⟩),.own j (ver+1) (xs.length+1)]⟩++[⟨0,3,[.v (.int .i64 x)]⟩]) _ ⟨rfl,rfl,⟨rfl,rfl,rfl,trivial⟩,rfl⟩ (.own j (ver+1) (xs.length+1)) ?_ ?_ (by rw[hxe,hxf];exact GP) ?_ ?_⟩
      ·exact ((rp.fr (Fr.set (S:=AU j) _ rfl) (fun e=>hji e.symm)).fr (Fr.set (S:=AU b) _ rfl) (fun e=>hbi e.symm)).app _
      ·exact (Ba (by rw[Bl,Bl];exact hbl)).trans (Be (by rw[Bl];exact hbl))
      ·exact Fpp.trans (((Fr.set (S:=Io i h.length) _ (.inr (by omega))).trans (Fr.set (S:=Io i h.length) _ (.inr (by omega))) fun k e=>.inl e).trans (Fr.app (S:=BR) _ _) fun k e=>e.elim) fun k e=>.inl e
      ·exact (Ba (by rw[Bl,Bl];omega)).trans ((Bn (by omega)).trans ((Bn hjh).trans krp)))
  obtain⟨hq,N,hw,rq,kbq,Gq,Fq,krq⟩:=hs';generalize Cm ts n Sw=X at hadv rq Gq⊢ hw;obtain⟨x,Sx⟩:=X;simp only at hadv rq Gq⊢ hw;generalize hR:EC ts n (Cm ts n) (ts.length+1) [x] Sx=R;simp only[B4];refine Cp.intro (j0 γ i h.length b) (fun y=>∃ xs N f,RQ ts y.2 i L n y.1∧(y.1.2=none→xs.length≤y.1.1∧ts.length<f+y.1.1)∧y.2[b]?=some ⟨0,137,[.v (.string ⟨nm.toArray⟩),N]⟩∧GL (b+1) 3 1 y.2 N xs.length (xs.flatMap HQ)∧Fr (Io i h.length) h y.2∧y.2[h.length]?=some ⟨0,137,[.v (.string ⟨#[]⟩),.v (.slice none 0 0)]⟩∧EC ts n (Cm ts n) f xs y.1=R) (fun y=>if y.1.2=none then ts.length+1-y.1.1 else 0) (Sx,hq) hw ⟨[x],N,ts.length+1,rq,fun e=>?_,kbq,Gq,Fq,krq,hR⟩ (fun y hy=>?_)
  ·have a:=hadv e;have:=hwn a.1;exact⟨by show 1≤Sx.1;omega,by show ts.length<ts.length+1+Sx.1;omega⟩
  clear hR hadv hwn hw rq kbq Gq Fq krq hSw r3 kb3 kr3 F3 hn3 hB hT r2 hwl;obtain⟨S4,h4⟩:=y;obtain⟨xs,N,f,r4,hb4,kb4,G4,F4,kr4,hR⟩:=hy;simp only at r4 hb4 kb4 G4 F4 kr4 hR;have hi4:=r4.1;have hF4:=F4.1;have hbd:=r4.2.bad
  have fin:∀ {h9:List Aa} {S9:S8},RQ ts h9 i L n S9→h9[b]?=some ⟨0,137,[.v (.string ⟨nm.toArray⟩),N]⟩→GL (b+1) 3 1 h9 N xs.length (xs.flatMap HQ)→Fr (Io i h.length) h h9→h9[h.length]?=some ⟨0,137,[.v (.string ⟨#[]⟩),.v (.slice none 0 0)]⟩→JM ts n L i h (Tg.av ⟨nm,xs⟩) S9 (.ret (.agg [.v (.string ⟨nm.toArray⟩),N])) (h9.set h.length ⟨0,137,[.v (.string ⟨nm.toArray⟩),N]⟩):=fun {h9 S9} r9 kb9 G9 F9 kr9=>by
   have rd:=G9.rdS (m:=h.length) (Fr.set (S:=AU h.length) (h:=h9) (⟨0,137,[.v (.string ⟨nm.toArray⟩),N]⟩:Aa) rfl) (fun k e _=>by have e:k=h.length:=e;omega) (by omega);rw[R8]at rd;exact⟨_,rfl,Io.fin (F9.trans (Fr.set (S:=Io i h.length) _ (.inr (BL _))) fun k e=>.inl e),r9.fr (Fr.set (S:=AU h.length) _ rfl) (fun e=>by have e:i=h.length:=e;omega),Rd.agg (AE.cons (Rd.str nm) (AE.cons rd AE.nil))⟩
  obtain⟨oN,fN⟩:=G4.one;obtain⟨p,bd⟩:=S4;have hbd':(Ek bd==0)=bd.isNone:=hbd;cases bd with
  |some bb=>
   have hbb:(Ek (some bb)==0)=false:=hbd';rw[Dc]at hR;rw[←hR];simp only[j0,Cn,hi4,cQ,hbb,B4,A7,seval];refine B9 OG (Cq E r4 [59]) (fun h9 f9 r9=>?_);have kb9:=f9.at kb4 hbi;have kr9:=f9.at kr4 (fun e=>by have e:h.length=i:=e;omega);have F9:=F4.trans (Io.i (n0:=h.length) f9) fun k e=>.inl e
   have G9:=G4.fr0 f9 (fun k e=>by have e:k=i:=e;omega);have q2:∀ c,(h9.set h.length c)[h.length]?=some c:=fun c=>Be (Bs.1 kr9).1
   simp only[AH,kb9,kr9,q2,oN,Aj,Bx,Bw,B4,seval];exact fin r9 kb9 G9 F9 kr9
  |none=>
   have hbb:(Ek none==0)=true:=rfl;obtain⟨hx4,hf⟩:=hb4 rfl;have hp4:p≤ts.length:=r4.2.1;obtain⟨f',rfl⟩:∃ g,f=g+1:=⟨f-1,by omega⟩;rw[EC]at hR;simp only[Option.isSome_none,Bool.false_eq_true,if_false]at hR;simp only[j0,Cn,hi4,cQ,hbb,B4,A7,seval];refine B9 R3 (C4 E r4 [41]) (fun h5 f5 r5=>?_);have kb5:=f5.at kb4 hbi;have kr5:=f5.at kr4 (fun e=>by have e:h.length=i:=e;omega);have F5:=F4.trans (Io.i (n0:=h.length) f5) fun k e=>.inl e
   have G5:=G4.fr0 f5 (fun k e=>by have e:k=i:=e;omega);cases hB:HD ts [41] (p,none)with
   |true=>
    have hT:AB ts [41] (p,none)=(p+1,none):=by unfold AB;rw[if_pos hB]
    rw[hT]at r5;rw[if_pos hB]at hR;rw[←hR];simp only[B4,Bv,seval];refine B9 OG (Cq E r5 [59]) (fun h9 f9 r9=>?_);have kb9:=f9.at kb5 hbi;have kr9:=f9.at kr5 (fun e=>by have e:h.length=i:=e;omega);have F9:=F5.trans (Io.i (n0:=h.length) f9) fun k e=>.inl e
    have G9:=G5.fr0 f9 (fun k e=>by have e:k=i:=e;omega);have q2:∀ c,(h9.set h.length c)[h.length]?=some c:=fun c=>Be (Bs.1 kr9).1
    simp only[AH,kb9,kr9,q2,oN,Aj,Bx,Bw,B4,seval];exact fin r9 kb9 G9 F9 kr9
   |false=>
    have hT:AB ts [41] (p,none)=(p,none):=by unfold AB;rw[if_neg (by rw[hB];decide)]
    rw[hT]at r5;rw[if_neg (by rw[hB];decide)]at hR;simp only[B4,Bf,seval];refine B9 OG (Cq E r5 [44]) (fun h6 f6 r6=>?_);have kb6:=f6.at kb5 hbi;have kr6:=f6.at kr5 (fun e=>by have e:h.length=i:=e;omega);have F6:=F5.trans (Io.i (n0:=h.length) f6) fun k e=>.inl e
    have G6:=G5.fr0 f6 (fun k e=>by have e:k=i:=e;omega);have hwn:=fun e=>B3 (ts:=ts) (n:=n) (s:=[44]) (S:=(p,none)) e
    generalize Av ts n [44] (p,none)=Sw at r6 hR hwn⊢;have hadv:=LA (ts:=ts) (n:=n) Sw;simp only[B4,seval];refine Cc.via (fun s'=>∃ y:S8×List Aa,slotW s' (j0 γ i h.length b y)∧(y.1.2=none→p+1≤y.1.1)∧∃ xs N f,RQ ts y.2 i L n y.1∧(y.1.2=none→xs.length≤y.1.1∧ts.length<f+y.1.1)∧y.2[b]?=some ⟨0,137,[.v (.string ⟨nm.toArray⟩),N]⟩∧GL (b+1) 3 1 y.2 N xs.length (xs.flatMap HQ)∧Fr (Io i h.length) h y.2∧y.2[h.length]?=some ⟨0,137,[.v (.string ⟨#[]⟩),.v (.slice none 0 0)]⟩∧EC ts n (Cm ts n) f xs y.1=R) (fun K hK0=>?_) (fun s' hs'=>?_)
    rotate_left
    ·obtain⟨y,hw,hlt,hinv⟩:=hs';simp only[B4];refine AF.intro y hinv hw ?_;show (if y.1.2=none then ts.length+1-y.1.1 else 0)<(if (none:Option (Int×Int))=none then ts.length+1-p else 0);rw[if_pos rfl]
     split
     ·rename_i e;have:=hlt e;omega
     ·omega
    have hxs0:(xs.length+1) * 8≤140737488355328:=by omega
    have hK:∀ (hq:List Aa) (s':St),slotW s' (j0 γ i h.length b ((Cm ts n Sw).2,hq))→∀ N,RQ ts hq i L n (Cm ts n Sw).2→hq[b]?=some ⟨0,137,[.v (.string ⟨nm.toArray⟩),N]⟩→GL (b+1) 3 1 hq N (xs++[(Cm ts n Sw).1]).length ((xs++[(Cm ts n Sw).1]).flatMap HQ)→Fr (Io i h.length) h hq→hq[h.length]?=some ⟨0,137,[.v (.string ⟨#[]⟩),.v (.slice none 0 0)]⟩→K .normal s':=fun hq s' a1 N' a2 a3 a4 a5 a6=>hK0 s' ⟨((Cm ts n Sw).2,hq),a1,fun e=>by
      have c1:=hadv e;have c2:=hwn c1.1;show p+1≤(Cm ts n Sw).2.1
      omega,xs++[(Cm ts n Sw).1],N',f',a2,fun e=>by
      have c1:=hadv e;have c2:=hwn c1.1;refine⟨?_,?_⟩
      ·rw[Bp];show xs.length+1≤(Cm ts n Sw).2.1;omega
      ·show ts.length<f'+(Cm ts n Sw).2.1;omega,a3,a4,a5,a6,hR⟩
    clear hK0;obtain⟨Y,hY⟩:∃ Y,Y=Cm ts n Sw:=⟨_,rfl⟩;rw[←hY]at hK;obtain⟨x,Sx⟩:=Y;simp only at hK;refine Cc.orders [[0,1,2,3,4,5,6,7],[0,2,1,3,4,5,6,7],[2,0,1,3,4,5,6,7],[0,2,3,1,4,5,6,7],[2,0,3,1,4,5,6,7],[0,2,3,4,1,5,6,7],[2,0,3,4,1,5,6,7],[2,3,0,1,4,5,6,7],[2,3,0,4,1,5,6,7],[2,3,4,0,1,5,6,7]] (fun _ _ _ h o h'=>Nn ts n L i h (AA (Cm ts n Sw).1) (Cm ts n Sw).2 o h') (Dw _) (by kernel_rfl) (by kernel_rfl) (by kernel_rfl) (fun q hq=>?_);simp only[BI,List.not_mem_nil,or_false]at hq
    rcases hq with rfl|rfl|rfl|rfl|rfl|rfl|rfl|rfl|rfl|rfl
    all_goals simp only[Rz,Gf,CI,BU,Bu,Bz,AH,kb6,B4,seval]
    all_goals refine⟨oO,Sr E r6,fun ra hp hh=>?_,fun v hp hh=>by obtain⟨e,_⟩:=hh;cases e⟩
    all_goals obtain⟨e,f,rp⟩:=hh
    all_goals rw[←hY]at e rp
    all_goals cases e
    all_goals have kbp:hp[b]?=some ⟨0,137,[.v (.string ⟨nm.toArray⟩),N]⟩:=f.at kb6 hbi
    all_goals have hbl:=(Bs.1 kbp).1
    all_goals have hff:=f.1
    all_goals have Gp:=G6.fr0 f (fun k e=>by have e:k=i:=e;omega)
    all_goals have g7:∀ l,(hp++l)[b]?=some ⟨0,137,[.v (.string ⟨nm.toArray⟩),N]⟩:=fun l=>(Ba hbl).trans kbp
    all_goals have s6:∀ l c,(hp++l).set b c=hp.set b c++l:=fun l c=>Bg _ _ hbl
    all_goals have hel:AE (fun k=>k<b+1∨AZ N k) hp [AA x] [.v (.int .i64 x)]:=AE.cons (Rd.int x) AE.nil
    all_goals have hxe:(xs++[x]).length=xs.length+1:=by simp
    all_goals have hxf:(xs++[x]).flatMap HQ=xs.flatMap HQ++[AA x]:=by simp[HQ]
    all_goals have Fpp:=F6.trans (Io.i (n0:=h.length) f) fun k e=>.inl e
    all_goals have krp:=f.at kr6 (fun e=>by have e:h.length=i:=e;omega)
    all_goals rcases Gp with⟨eN,e0,e1⟩|⟨j,ver,cs,eN,hnn,hj0,hj,hl,hrd⟩
    all_goals cases eN
    all_goals first
     |(have e0':=e0
       simp only[Bu,Bz,AH,kbp,g7,AA,Ap,s6,Aj,Bx,Bw,Bi,Bo,Bc,B4,seval];have GP:=(GL.nil (n0:=b+1) (t:=3) (sz:=1) (h:=hp)).push (h':=hp.set b ⟨0,137,[.v (.string ⟨nm.toArray⟩),.own (hp.length+1) 0 1]⟩++[⟨0,3,[.v (.int .i64 x)]⟩,⟨0,3,[.v (.int .i64 x)]⟩]) (j':=hp.length+1) (ver':=0) (xs:=[]) (es:=[.v (.int .i64 x)]) (ecs:=[AA x]) (fun j ver e=>by cases e) (fun _=>⟨by omega,rfl⟩) (by omega) ((Fr.set _ (.inl (by omega))).trans (Fr.app (S:=BR) _ _) fun k e=>e.elim) (Ce _ _ _ _ _ _) rfl hel;refine hK (hp.set b ⟨0,137,[.v (.string ⟨nm.toArray⟩),.own (hp.length+1) 0 1]⟩++[⟨0,3,[.v (.int .i64 x)]⟩,⟨0,3,[.v (.int .i64 x)]⟩]) _ ⟨rfl,rfl,⟨rfl,rfl,rfl,trivial⟩,rfl⟩ (.own (hp.length+1) 0 1) ?_ ?_ (by rw[hxe,hxf,e0,e1];exact GP) ?_ ?_
       ·exact (rp.fr (Fr.set (S:=AU b) _ rfl) (fun e=>hbi e.symm)).app _
       ·exact (Ba (by rw[Bl];exact hbl)).trans (Be hbl)
       ·exact Fpp.trans ((Fr.set (S:=Io i h.length) _ (.inr (by omega))).trans (Fr.app (S:=BR) _ _) fun k e=>e.elim) fun k e=>.inl e
       ·exact (Ba (by rw[Bl];omega)).trans ((Bn (by omega)).trans krp))
     |(have hjl:=(Bs.1 hj).1
       have hjb:j≠b:=by omega
       have hji:j≠i:=by omega
       have hjh:j≠h.length:=by omega
       have q1:∀ l,(hp++l)[j]?=some ⟨ver,3,cs⟩:=fun l=>(Ba hjl).trans hj
       have s8:∀ l c,(hp++l).set j c=hp.set j c++l:=fun l c=>Bg _ _ hjl
       have g9:∀ l c,(hp.set j c++l)[b]?=some ⟨0,137,[.v (.string ⟨nm.toArray⟩),.own j ver xs.length]⟩:=fun l c=>(Ba (by rw[Bl];exact hbl)).trans ((Bn hjb).trans kbp)
       have s9:∀ l c d,(hp.set j c++l).set b d=(hp.set j c).set b d++l:=fun l c d=>Bg _ _ (by rw[Bl];exact hbl)
       have hl':cs.length=xs.length * 1:=hl;have q4:List.take (xs.length * 1) cs=cs:=Bt (by omega);have q6:xs.length * 1≤cs.length:=by omega
       simp only[Nat.mul_one]at q4 q6;simp only[Bu,Bz,AH,kbp,g7,AA,Ap,q1,s8,g9,s9,q4,q6,Aj,Bx,Bw,B4,seval];have GP:=GL.push (h:=hp) (N:=.own j ver xs.length) (.inr ⟨j,ver,cs,rfl,hnn,hj0,hj,hl,hrd⟩) (h':=(hp.set j ⟨ver+1,3,cs++[.v (.int .i64 x)]⟩).set b ⟨0,137,[.v (.string ⟨nm.toArray⟩),.own j (ver+1) (xs.length+1)]⟩++[⟨0,3,[.v (.int .i64 x)]⟩]) (j':=j) (ver':=ver+1) (xs:=cs) (es:=[.v (.int .i64 x)]) (ecs:=[AA x]) (fun j2 ver2 e=>by cases e;exact⟨rfl,hj⟩) (fun e=>by cases e) (by omega) (((Fr.set (S:=fun k=>k<b+1∨AZ (.own j ver xs.length) k) _ (.inr rfl)).trans (Fr.set (S:=fun k=>k<b+1∨AZ (.own j ver xs.length) k) _ (.inl (by omega))) fun k e=>.inl e).trans (Fr.app (S:=BR) _ _) fun k e=>e.elim) ((Ba (by rw[Bl,Bl];exact hjl)).trans ((Bn hjb.symm).trans (Be hjl))) rfl hel;refine⟨by omega,hK ((hp.set j ⟨ver+1,3,cs++[.v (.int .i64 x)]⟩).set b ⟨0,137,[.v (.string ⟨nm.toArray⟩),.own j (ver+1) (xs.length+1)]⟩++[⟨0,3,[.v (.int .i64 x)]⟩]) _ ⟨rfl,rfl,⟨rfl,rfl,rfl,trivial⟩,rfl⟩ (.own j (ver+1) (xs.length+1)) ?_ ?_ (by rw[hxe,hxf];exact GP) ?_ ?_⟩
       ·exact ((rp.fr (Fr.set (S:=AU j) _ rfl) (fun e=>hji e.symm)).fr (Fr.set (S:=AU b) _ rfl) (fun e=>hbi e.symm)).app _
       ·exact (Ba (by rw[Bl,Bl];exact hbl)).trans (Be (by rw[Bl];exact hbl))
       ·exact Fpp.trans (((Fr.set (S:=Io i h.length) _ (.inr (by omega))).trans (Fr.set (S:=Io i h.length) _ (.inr (by omega))) fun k e=>.inl e).trans (Fr.app (S:=BR) _ _) fun k e=>e.elim) fun k e=>.inl e
       ·exact (Ba (by rw[Bl,Bl];omega)).trans ((Bn (by omega)).trans ((Bn hjh).trans krp)))
end Go.Proofs.YtlobiioioicmhaaGreatDoor
