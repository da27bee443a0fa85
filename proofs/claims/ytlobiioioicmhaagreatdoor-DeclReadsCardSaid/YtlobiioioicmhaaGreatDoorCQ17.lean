/- A part of the proof. -/
import Derived.Test.YtlobiioioicmhaaGreatDoorCQ16
set_option linter.all false
set_option maxHeartbeats 8000000
namespace Go.Proofs.YtlobiioioicmhaaGreatDoor
open _root_.Bool renaming not_true→Bv,not_false→Bf
open _root_.List renaming getElem?_eq_some_iff→Bs,getElem?_append_left→Ba,getElem?_set_self→Be,getElem?_set_ne→Bn,length_set→Bl,length_append→Bp,append_assoc→Bo,cons_append→Bc,nil_append→Bi,getElem?_cons_zero→Bz,getElem?_cons_succ→Bu,set_cons_zero→Bx,set_cons_succ→Bw,length_map→Bk,set_append_left→Bg,take_of_length_le→Bt,mem_cons→BI,getElem?_toArray→BU
open _root_.Nat renaming le_refl→BL,le_trans→BM,zero_le→BN
open Go.Proofs.Tryz renaming prog→Tp
open Go Go.Ev
set_option maxRecDepth 20000
variable {γ:List (Nat×AV)} {ts:List Tk} {L:AV}
theorem c69:Ak Tp 69:=⟨_,Tryz.func69,by kernel_rfl,by kernel_rfl⟩
def IM(b m k:Nat):Prop:=k<b+1∨m≤k
theorem Z0{m:Nat}{h:List Aa}{x:Ac}{a:AV}(r:Rd (Old m) h x.av a):∃ T V,a=.agg [AA x.kind,T,Ae x.name,Ae x.var,V]∧Rd (Old m) h (Ab x.to) T∧Rd (Old m) h (E3 x.args) V:=by
 obtain⟨xs,rfl,k⟩:=LH r;obtain⟨x0,xs,rfl,k0,k⟩:=D9 k;obtain⟨x1,xs,rfl,k1,k⟩:=D9 k;obtain⟨x2,xs,rfl,k2,k⟩:=D9 k;obtain⟨x3,xs,rfl,k3,k⟩:=D9 k;obtain⟨x4,xs,rfl,k4,k⟩:=D9 k;obtain rfl:=MD k;obtain rfl:=rd_val k0;obtain rfl:=rd_val k2;obtain rfl:=rd_val k3;exact⟨x1,x4,rfl,k1,k4⟩
theorem Pn{α:Type}{n:Nat}{I:S8→α×S8}(hI:∀ S,S.1≤ts.length→(I S).2.2=none→S.2=none∧S.1≤(I S).2.1∧(I S).2.1≤ts.length):∀ (f:Nat) (l:List α) (S:S8),S.1≤ts.length→(EC ts n I f l S).2.2=none→S.2=none∧S.1≤(EC ts n I f l S).2.1∧(EC ts n I f l S).2.1≤ts.length
 |0,l,S,hS,h=>⟨h,BL _,hS⟩
 |f+1,l,S,hS,h=>by
  obtain⟨p,b⟩:=S;cases b with
  |some b=>rw[Dc]at h;cases h
  |none=>
   refine⟨rfl,?_⟩;rw[EC]at h⊢;simp only[Option.isSome_none,Bool.false_eq_true,if_false]at h⊢
   split at h
   ·rename_i hB;rw[if_pos hB];have:=(Ed hB).1;exact⟨by show p≤p+1;omega,this⟩
   ·rename_i hB;rw[if_neg hB]
    have hwl:(Av ts n [44] (p,none)).1≤ts.length:=by
     unfold Av
     split
     ·rename_i hC;exact (Ed hC).1
     ·exact hS
    cases e:(I (Av ts n [44] (p,none))).2.2 with
    |some b=>
     obtain⟨p',e2⟩:∃ p',(I (Av ts n [44] (p,none))).2=(p',some b):=⟨_,Prod.ext rfl e⟩;rw[e2,Dc]at h;cases h
    |none=>
     obtain⟨a1,a2,a3⟩:=hI _ hwl e;obtain⟨b1,b2⟩:=B3 a1;obtain⟨c1,c2,c3⟩:=Pn hI f _ _ a3 h;exact⟨by show p≤_;simp only at b2;omega,c3⟩
theorem J9{α:Type}{n:Nat}{I:S8→α×S8}(hI:∀ S,S.1≤ts.length→(I S).2.2=none→S.2=none∧S.1≤(I S).2.1∧(I S).2.1≤ts.length)(S:S8)(hS:S.1≤ts.length)(h:(ER ts n I S).2.2=none):S.2=none∧S.1+1≤(ER ts n I S).2.1∧(ER ts n I S).2.1≤ts.length:=by
 have hwl:(Av ts n [40] S).1≤ts.length:=by
  unfold Av
  split
  ·rename_i hC;exact (Ed hC).1
  ·unfold DZ;split<;>exact hS
 unfold ER at h⊢
 split at h
 ·rename_i hB;rw[if_pos hB];obtain⟨b1,b2⟩:=B3 (Ed hB).2;have:=(Ed hB).1;exact⟨b1,by show S.1+1≤(Av ts n [40] S).1+1;omega,this⟩
 ·rename_i hB;rw[if_neg hB];cases e:(I (Av ts n [40] S)).2.2 with
  |some b=>
   obtain⟨p',e2⟩:∃ p',(I (Av ts n [40] S)).2=(p',some b):=⟨_,Prod.ext rfl e⟩;rw[e2,Dc]at h;cases h
  |none=>
   obtain⟨a1,a2,a3⟩:=hI _ hwl e;obtain⟨b1,b2⟩:=B3 a1;obtain⟨c1,c2,c3⟩:=Pn hI _ _ _ a3 h;exact⟨b1,by omega,c3⟩
theorem K7{n:Nat}(S:S8)(h:(Au ts n S).2.2=none):S.1<ts.length:=by
 obtain⟨p,b⟩:=S;cases b with
 |some b=>rw[Dd]at h;cases h
 |none=>
  unfold Au at h;cases e:ts[p]? with
  |none=>rw[e]at h;cases h
  |some t=>exact (Bs.1 e).1
theorem Y9{n:Nat}(S:S8)(hS:S.1≤ts.length)(h:(Dj ts n S).2.2=none):S.2=none∧S.1≤(Dj ts n S).2.1∧(Dj ts n S).2.1≤ts.length:=by
 obtain⟨a,b⟩:=Nq S h;refine⟨a,by omega,?_⟩;rw[b];unfold Dj at h
 split at h
 ·rename_i hB;exact (Ed hB).1
 ·exact K7 S h
theorem JC{n:Nat}(S:S8)(hS:S.1≤ts.length)(h:(AN ts n S).2.2=none):S.2=none∧S.1+1≤(AN ts n S).2.1∧(AN ts n S).2.1≤ts.length:=by
 unfold AN at h⊢;simp only at h⊢
 have hw:(Au ts n S).2.2=none:=by
  cases e:(Au ts n S).2.2 with
  |none=>rfl
  |some b=>
   obtain⟨p',e2⟩:∃ p',(Au ts n S).2=(p',some b):=⟨_,Prod.ext rfl e⟩;rw[e2,FI Qp]at h;cases h
 obtain⟨a,b⟩:=Eb S hw;have hl:=K7 S hw;obtain⟨c,d,e⟩:=J9 (fun S=>Y9 S) (Au ts n S).2 (by omega) h;rw[b]at d;exact⟨a,BM (Nat.le_succ _) d,e⟩
theorem J4{n:Nat}(S:S8)(hS:S.1≤ts.length)(h:(Bb ts n S).2.2=none):S.2=none∧S.1≤(Bb ts n S).2.1∧(Bb ts n S).2.1≤ts.length:=by
 obtain⟨a,b⟩:=L5 S hS h;refine⟨a,b,?_⟩;obtain⟨p,bb⟩:=S;cases bb with
 |some bb=>cases a
 |none=>
  obtain⟨a1,a2,a3⟩:=HW hS;unfold Bb at h⊢;simp only at h⊢
  split at h
  ·rename_i he;rw[if_pos he];show (Cu ts p).2.1.toNat≤_;simp only at a3 a2
   omega
  ·cases h
theorem O3{n:Nat}(S:S8)(hS:S.1≤ts.length)(h:(DF ts n S).2.2=none):S.2=none∧S.1+1≤(DF ts n S).2.1:=by
 unfold DF at h⊢;simp only at h⊢;obtain⟨a,b⟩:=B3 h
 have I5:∀ {α:Type} (F:S8→α×S8),Mc F→∀ S',(F S').2.2=none→S'.2=none:=fun F hF S' e=>by
  obtain⟨p',bb⟩:=S';cases bb with
  |none=>rfl
  |some bb=>rw[hF]at e;cases e
 rw[b];unfold G1 at a⊢
 split at a
 ·rename_i hB;rw[if_pos hB];have hl:=Ed hB;refine⟨hl.2,?_⟩;unfold iT at a⊢;simp only at a⊢
  obtain⟨x1,x2,x3⟩:(Au ts n (Bb ts n (S.1+1,none)).2).2.2=none∧(Au ts n (Bb ts n (S.1+1,none)).2).2.1+1≤(Fh ts n (Au ts n (Bb ts n (S.1+1,none)).2).2).2.1∧True:=by
   have w:=I5 _ Q6 _ a;have w2:=Eb _ w;have w3:=K7 _ w;obtain⟨q1,q2,_⟩:=J9 (fun S=>J4 S) _ (by rw[w2.2];omega) a;exact⟨w,q2,trivial⟩
  have w2:=Eb _ x1;have w4:=J4 (n:=n) (S.1+1,none) hl.1 w2.1;have w5:S.1+1≤(Bb ts n (S.1+1,none)).2.1:=w4.2.1
  omega
 ·split at a
  ·rename_i hA hB;rw[if_neg hA,if_pos hB];have hl:=Ed hB;refine⟨hl.2,?_⟩;unfold bO at a⊢;simp only at a⊢;have w:=Eb _ a;have w2:=B3 w.1;have w3:=Eb _ w2.1;have w5:(Au ts n (S.1+1,none)).2.1=S.1+1+1:=w3.2
   omega
  ·split at a
   ·rename_i hA hA2 hB;rw[if_neg hA,if_neg hA2,if_pos hB];have hl:=Ed hB;refine⟨hl.2,?_⟩;unfold bG at a⊢;simp only at a⊢;obtain⟨q1,q2,_⟩:=J9 (fun S=>J4 S) (S.1+1,none) hl.1 a;have q3:S.1+1+1≤(Fh ts n (S.1+1,none)).2.1:=q2
    omega
   ·split at a
    ·rename_i hA hA2 hA3 hB;rw[if_neg hA,if_neg hA2,if_neg hA3,if_pos hB];have hl:=Ed hB;refine⟨hl.2,?_⟩;unfold VG at a⊢;simp only at a⊢;have w3:=Eb _ a;have w5:(Au ts n (S.1+1,none)).2.1=S.1+1+1:=w3.2
     omega
    ·rename_i hA hA2 hA3 hA4;rw[if_neg hA,if_neg hA2,if_neg hA3,if_neg hA4];obtain⟨p,bb⟩:=S;cases bb with
     |none=>cases a
     |some bb=>cases a
def TH(γ:List (Nat×AV))(i r b:Nat)(y:S8×List Aa):St:=⟨⟨52,[(0,.ptr i 0 0),(2,.ptr r 0 0),(3,.ptr b 0 0)],γ⟩,y.2⟩
theorem Wp(E:Il L ts){h:List Aa}{i n:Nat}{S:S8}(hr:RQ ts h i L n S):
  Ck Tp γ 69 [.ptr i 0 0] h (JM ts n L i h (Dk ts n S).1.av (Dk ts n S).2):=by
 have hil:=hr.lt;have hn:=E.n;refine Ck.ofG Tryz.func69 rfl ?_;simp only[Tryz.f69,AH,B4,seval];refine B9 OG (Cq E (hr.app [⟨0,59,[.v (.string ⟨#[]⟩),.v (.slice none 0 0),.v (.slice none 0 0),.v (.slice none 0 0)]⟩]) Hd) (fun h1 f1 r1=>?_);have kr1:h1[h.length]?=some ⟨0,59,[.v (.string ⟨#[]⟩),.v (.slice none 0 0),.v (.slice none 0 0),.v (.slice none 0 0)]⟩:=f1.at (Ap _ _ _) (fun e=>by have e:h.length=i:=e;omega);have F1:Fr (Io i h.length) h h1:=Io.i f1.pre;simp only[B4,seval];refine B9 c80 (Fj E r1) (fun h2 f2 r2=>?_);have kr2:=f2.at kr1 (fun e=>by have e:h.length=i:=e;omega);have F2:=F1.trans (Io.i (n0:=h.length) f2) fun k e=>.inl e
 unfold Dk;generalize Au ts n (Av ts n Hd S)=W at r2⊢;obtain⟨nm,S2⟩:=W;simp only at r2⊢;have hl2:=F2.1;have hrl2:=(Bs.1 kr2).1;simp only[AH,Ae,Ap,CV,Aj,Bx,Bw,B4,seval];refine B9 OG (Cq E (r2.app [⟨0,59,[.v (.string ⟨nm.toArray⟩),.v (.slice none 0 0),.v (.slice none 0 0),.v (.slice none 0 0)]⟩]) [58]) (fun h3 f3 r3=>?_);have kb3:h3[h2.length]?=some ⟨0,59,[.v (.string ⟨nm.toArray⟩),.v (.slice none 0 0),.v (.slice none 0 0),.v (.slice none 0 0)]⟩:=f3.at (Ap _ _ _) (fun e=>by have e:h2.length=i:=e;omega);have kr3:h3[h.length]?=some ⟨0,59,[.v (.string ⟨#[]⟩),.v (.slice none 0 0),.v (.slice none 0 0),.v (.slice none 0 0)]⟩:=f3.at ((Ba hrl2).trans kr2) (fun e=>by have e:h.length=i:=e;omega);have F3:=F2.trans (Io.i (n0:=h.length) f3.pre) fun k e=>.inl e
 have hn3:h2.length+1≤h3.length:=by have:=f3.1;simpa using this
 obtain⟨b,hb⟩:∃ b,b=h2.length:=⟨_,rfl⟩;rw[←hb]at kb3 hn3 hrl2 hl2;have hbi:b≠i:=by omega
 generalize hSw:Av ts n [58] S2=Sw at r3⊢;have hwl:Sw.1≤ts.length:=r3.2.1;clear F1 F2 kr2 kr1 f1 f2 f3 r1 hSw r2;simp only[←hb,B4,seval];have hadv:=JC (ts:=ts) (n:=n) Sw hwl;refine Cc.via (fun s'=>∃ hq N,slotW s' (TH γ i h.length b ((AN ts n Sw).2,hq))∧RQ ts hq i L n (AN ts n Sw).2∧hq[b]?=some ⟨0,59,[.v (.string ⟨nm.toArray⟩),N,.v (.slice none 0 0),.v (.slice none 0 0)]⟩∧GL (b+1) 130 2 hq N 1 (AN ts n Sw).1.cells∧Fr (Io i h.length) h hq∧hq[h.length]?=some ⟨0,59,[.v (.string ⟨#[]⟩),.v (.slice none 0 0),.v (.slice none 0 0),.v (.slice none 0 0)]⟩) (fun K hK0=>?_) (fun s' hs'=>?_)
 ·obtain⟨xs,hxs⟩:∃ xs:List Pt,xs=[]:=⟨_,rfl⟩;have hK:∀ (hq:List Aa) (s':St),slotW s' (TH γ i h.length b ((AN ts n Sw).2,hq))→∀ N,RQ ts hq i L n (AN ts n Sw).2→hq[b]?=some ⟨0,59,[.v (.string ⟨nm.toArray⟩),N,.v (.slice none 0 0),.v (.slice none 0 0)]⟩→GL (b+1) 130 2 hq N (xs++[(AN ts n Sw).1]).length ((xs++[(AN ts n Sw).1]).flatMap Pt.cells)→Fr (Io i h.length) h hq→hq[h.length]?=some ⟨0,59,[.v (.string ⟨#[]⟩),.v (.slice none 0 0),.v (.slice none 0 0),.v (.slice none 0 0)]⟩→K .normal s':=fun hq s' h1 N h2 h3 h4 h5 h6=>hK0 s' ⟨hq,N,h1,h2,h3,by subst hxs;simpa using h4,h5,h6⟩
  clear hK0;have hxs0:(xs.length+1) * 40≤140737488355328:=by subst hxs;decide
  have G3:GL (b+1) 130 2 h3 (.v (.slice none 0 0)) xs.length (xs.flatMap Pt.cells):=by subst hxs;exact GL.nil
  obtain⟨Y,hY⟩:∃ Y,Y=AN ts n Sw:=⟨_,rfl⟩;rw[←hY]at hK;obtain⟨x,Sx⟩:=Y;simp only at hK;refine Cc.orders [[0,1,2,3,4,5,6,7],[0,2,1,3,4,5,6,7],[2,0,1,3,4,5,6,7],[0,2,3,1,4,5,6,7],[2,0,3,1,4,5,6,7],[0,2,3,4,1,5,6,7],[2,0,3,4,1,5,6,7],[2,3,0,1,4,5,6,7],[2,3,0,4,1,5,6,7],[2,3,4,0,1,5,6,7]] (fun _ _ _ h o h'=>JM ts n L i h (AN ts n Sw).1.av (AN ts n Sw).2 o h') (Dw _) (by kernel_rfl) (by kernel_rfl) (by kernel_rfl) (fun q hq=>?_);simp only[BI,List.not_mem_nil,or_false]at hq
  rcases hq with rfl|rfl|rfl|rfl|rfl|rfl|rfl|rfl|rfl|rfl
  all_goals simp only[Rz,Gf,CI,BU,Bu,Bz,AH,kb3,B4,seval]
  all_goals refine⟨oE,SG E r3,fun ra hp hh=>?_,fun v hp hh=>by obtain⟨_,e,_⟩:=hh;cases e⟩
  all_goals obtain⟨A,e,f,rp,rd⟩:=hh
  all_goals rw[←hY]at rp rd
  all_goals obtain⟨V,rfl,rV⟩:=MK rd
  all_goals cases e
  all_goals obtain⟨oV,fV⟩:=Cz rV
  all_goals have f:Fr (AU i) h3 hp:=f
  all_goals have hhl:∀ k,k<b+1→k<h3.length:=fun k hk=>by omega
  all_goals have kbp:hp[b]?=some ⟨0,59,[.v (.string ⟨nm.toArray⟩),.v (.slice none 0 0),.v (.slice none 0 0),.v (.slice none 0 0)]⟩:=f.at kb3 hbi
  all_goals have hbl:=(Bs.1 kbp).1
  all_goals have hff:=f.1
  all_goals have Gp:=G3.fr0 f (fun k e=>by have e:k=i:=e;omega)
  all_goals have g7:∀ l,(hp++l)[b]?=some ⟨0,59,[.v (.string ⟨nm.toArray⟩),.v (.slice none 0 0),.v (.slice none 0 0),.v (.slice none 0 0)]⟩:=fun l=>(Ba hbl).trans kbp
  all_goals have s6:∀ l c,(hp++l).set b c=hp.set b c++l:=fun l c=>Bg _ _ hbl
  all_goals have hel:AE (fun k=>k<b+1∨AZ (.v (.slice none 0 0):AV) k) hp x.cells [.v (.string ⟨x.tag.toArray⟩),V]:=AE.cons (Rd.str _) (AE.cons (rV.up (Fr.refl BR hp) (fun k e=>e.elim) fun k e _=>e.elim (fun e=>hhl k e) fun e=>(G3.lt e).2) AE.nil)
  all_goals have hxe:(xs++[x]).length=xs.length+1:=by simp
  all_goals have hxf:(xs++[x]).flatMap Pt.cells=xs.flatMap Pt.cells++x.cells:=by simp[Pt.cells]
  all_goals have Fpp:=F3.trans (Io.i (n0:=h.length) f) fun k e=>.inl e
  all_goals have krp:=f.at kr3 (fun e=>by have e:h.length=i:=e;omega)
  all_goals rcases Gp with⟨eN,e0,e1⟩|⟨j,ver,cs,eN,hnn,hj0,hj,hl,hrd⟩
  all_goals cases eN
  all_goals first
   |(have e0':=e0
     simp only[Bu,Bz,AH,kbp,g7,oV,Ae,Ap,s6,Aj,Bx,Bw,Bi,Bo,Bc,B4,seval];have GP:=(GL.nil (n0:=b+1) (t:=130) (sz:=2) (h:=hp)).push (h':=hp.set b ⟨0,59,[.v (.string ⟨nm.toArray⟩),.own (hp.length+1) 0 1,.v (.slice none 0 0),.v (.slice none 0 0)]⟩++[⟨0,130,[.v (.string ⟨x.tag.toArray⟩),V]⟩,⟨0,130,[.v (.string ⟨x.tag.toArray⟩),V]⟩]) (j':=hp.length+1) (ver':=0) (xs:=[]) (es:=[.v (.string ⟨x.tag.toArray⟩),V]) (ecs:=x.cells) (fun j ver e=>by cases e) (fun _=>⟨by omega,rfl⟩) (by omega) ((Fr.set _ (.inl (by omega))).trans (Fr.app (S:=BR) _ _) fun k e=>e.elim) (Ce _ _ _ _ _ _) rfl hel;refine hK (hp.set b ⟨0,59,[.v (.string ⟨nm.toArray⟩),.own (hp.length+1) 0 1,.v (.slice none 0 0),.v (.slice none 0 0)]⟩++[⟨0,130,[.v (.string ⟨x.tag.toArray⟩),V]⟩,⟨0,130,[.v (.string ⟨x.tag.toArray⟩),V]⟩]) _ ⟨rfl,rfl,⟨rfl,rfl,rfl,trivial⟩,rfl⟩ (.own (hp.length+1) 0 1) ?_ ?_ (by rw[hxe,hxf,e0,e1];exact GP) ?_ ?_
     ·exact (rp.fr (Fr.set (S:=AU b) _ rfl) (fun e=>hbi e.symm)).app _
     ·exact (Ba (by rw[Bl];exact hbl)).trans (Be hbl)
     ·exact Fpp.trans ((Fr.set (S:=Io i h.length) _ (.inr (by omega))).trans (Fr.app (S:=BR) _ _) fun k e=>e.elim) fun k e=>.inl e
     ·exact (Ba (by rw[Bl];omega)).trans ((Bn (by omega)).trans krp))
   |(have hjl:=(Bs.1 hj).1
     have hjb:j≠b:=by omega
     have hji:j≠i:=by omega
     have hjh:j≠h.length:=by omega
     have q1:∀ l,(hp++l)[j]?=some ⟨ver,130,cs⟩:=fun l=>(Ba hjl).trans hj
     have s8:∀ l c,(hp++l).set j c=hp.set j c++l:=fun l c=>Bg _ _ hjl
     have g9:∀ l c,(hp.set j c++l)[b]?=some ⟨0,59,[.v (.string ⟨nm.toArray⟩),.own j ver xs.length,.v (.slice none 0 0),.v (.slice none 0 0)]⟩:=fun l c=>(Ba (by rw[Bl];exact hbl)).trans ((Bn hjb).trans kbp)
     have s9:∀ l c d,(hp.set j c++l).set b d=(hp.set j c).set b d++l:=fun l c d=>Bg _ _ (by rw[Bl];exact hbl)
     have hl':cs.length=xs.length * 2:=hl;have q4:List.take (xs.length * 2) cs=cs:=Bt (by omega);have q6:xs.length * 2≤cs.length:=by omega
     simp only[Rz,Gf,CI,BU,Bu,Bz,AH,Cn,kbp,g7,oV,fV,Ae,AA,Ap,B1,s6,q1,s8,g9,s9,q4,q6,Aj,Bx,Bw,Bi,Bo,Bc,B4,A7,Bv,Bf,seval];have GP:=GL.push (h:=hp) (N:=.own j ver xs.length) (.inr ⟨j,ver,cs,rfl,hnn,hj0,hj,hl,hrd⟩) (h':=(hp.set j ⟨ver+1,130,cs++[.v (.string ⟨x.tag.toArray⟩),V]⟩).set b ⟨0,59,[.v (.string ⟨nm.toArray⟩),.own j (ver+1) (xs.length+1),.v (.slice none 0 0),.v (.slice none 0 0)]⟩++[⟨0,130,[.v (.string ⟨x.tag.toArray⟩),V]⟩]) (j':=j) (ver':=ver+1) (xs:=cs) (es:=[.v (.string ⟨x.tag.toArray⟩),V]) (ecs:=x.cells) (fun j2 ver2 e=>by cases e;exact⟨rfl,hj⟩) (fun e=>by cases e) (by omega) (((Fr.set (S:=fun k=>k<b+1∨AZ (.own j ver xs.length) k) _ (.inr rfl)).trans (Fr.set (S:=fun k=>k<b+1∨AZ (.own j ver xs.length) k) _ (.inl (by omega))) fun k e=>.inl e).trans (Fr.app (S:=BR) _ _) fun k e=>e.elim) ((Ba (by rw[Bl,Bl];exact hjl)).trans ((Bn hjb.symm).trans (Be hjl))) rfl hel;refine⟨by omega,hK ((hp.set j ⟨ver+1,130,cs++[.v (.string ⟨x.tag.toArray⟩),V]⟩).set b ⟨0,59,[.v (.string ⟨nm.toArray⟩),.own j (ver+1) (xs.length+1),.v (.slice none 0 0),.v (.slice none 0 0)]⟩++[⟨0,130,[.v (.string ⟨x.tag.toArray⟩),V]⟩]) _ ⟨rfl,rfl,⟨rfl,rfl,rfl,trivial⟩,rfl⟩ (.own j (ver+1) (xs.length+1)) ?_ ?_ (by rw[hxe,hxf];exact GP) ?_ ?_⟩
     ·exact ((rp.fr (Fr.set (S:=AU j) _ rfl) (fun e=>hji e.symm)).fr (Fr.set (S:=AU b) _ rfl) (fun e=>hbi e.symm)).app _
     ·exact (Ba (by rw[Bl,Bl];exact hbl)).trans (Be (by rw[Bl];exact hbl))
     ·exact Fpp.trans (((Fr.set (S:=Io i h.length) _ (.inr (by omega))).trans (Fr.set (S:=Io i h.length) _ (.inr (by omega))) fun k e=>.inl e).trans (Fr.app (S:=BR) _ _) fun k e=>e.elim) fun k e=>.inl e
     ·exact (Ba (by rw[Bl,Bl];omega)).trans ((Bn (by omega)).trans ((Bn hjh).trans krp)))
 obtain⟨hq,N,hw,rq,kbq,Gq,Fq,krq⟩:=hs';have hxl:(AN ts n Sw).2.2=none→1≤(AN ts n Sw).2.1:=fun e=>by have:=hadv e;omega
 generalize AN ts n Sw=X at hxl rq Gq⊢ hw;obtain⟨x,Sx⟩:=X;simp only at hxl rq Gq⊢ hw;generalize hR:Cf ts n (ts.length+1) [x] Sx=R;simp only[B4];refine Cp.intro (TH γ i h.length b) (fun y=>∃ xs N f,RQ ts y.2 i L n y.1∧(y.1.2=none→xs.length≤y.1.1)∧y.2[b]?=some ⟨0,59,[.v (.string ⟨nm.toArray⟩),N,.v (.slice none 0 0),.v (.slice none 0 0)]⟩∧GL (b+1) 130 2 y.2 N xs.length (xs.flatMap Pt.cells)∧Fr (Io i h.length) h y.2∧y.2[h.length]?=some ⟨0,59,[.v (.string ⟨#[]⟩),.v (.slice none 0 0),.v (.slice none 0 0),.v (.slice none 0 0)]⟩∧Cf ts n f xs y.1=R∧(y.1.2=none→ts.length<f+y.1.1)) (fun y=>if y.1.2=none then ts.length+1-y.1.1 else 0) (Sx,hq) hw ⟨[x],N,ts.length+1,rq,fun e=>hxl e,kbq,by simpa using Gq,Fq,krq,hR,fun e=>by show ts.length<ts.length+1+Sx.1;omega⟩ (fun y hy=>?_);clear hR hadv hxl hw rq kbq Gq Fq krq r3 kb3 kr3 F3 hn3 hwl;obtain⟨S4,h4⟩:=y;obtain⟨xs,N,f,r4,hx4,kb4,G4,F4,kr4,hR,hf4⟩:=hy;simp only at r4 hx4 kb4 G4 F4 kr4 hR hf4;have hF4:=F4.1;simp only[TH,B4,seval];refine B9 R3 (C4 E r4 [38]) (fun h5 f5 r5=>?_);have kb5:=f5.at kb4 hbi;have hbl5:=(Bs.1 kb5).1;have kr5:=f5.at kr4 (fun e=>by have e:h.length=i:=e;omega);have F5:=F4.trans (Io.i (n0:=h.length) f5) fun k e=>.inl e
 have G5:=G4.fr0 f5 (fun k e=>by have e:k=i:=e;omega);cases hB:HD ts [38] S4 with
 |true=>
  obtain⟨hlt,hbn⟩:=Ed hB;have hf:=hf4 hbn;have hx:=hx4 hbn;obtain⟨f',rfl⟩:∃ g,f=g+1:=⟨f-1,by omega⟩;rw[Cf,if_pos hB]at hR;have hT:AB ts [38] S4=(S4.1+1,none):=by unfold AB;rw[if_pos hB]
  rw[hT]at r5;generalize hSw:((S4.1+1,none):S8)=Sw at r5 hR;have hS1:Sw.1=S4.1+1:=by rw[←hSw]
  have hadv:=JC (ts:=ts) (n:=n) Sw r5.2.1;simp only[B4,seval];refine Cc.via (fun s'=>∃ y:S8×List Aa,slotW s' (TH γ i h.length b y)∧(y.1.2=none→S4.1+1≤y.1.1)∧∃ xs N f,RQ ts y.2 i L n y.1∧(y.1.2=none→xs.length≤y.1.1)∧y.2[b]?=some ⟨0,59,[.v (.string ⟨nm.toArray⟩),N,.v (.slice none 0 0),.v (.slice none 0 0)]⟩∧GL (b+1) 130 2 y.2 N xs.length (xs.flatMap Pt.cells)∧Fr (Io i h.length) h y.2∧y.2[h.length]?=some ⟨0,59,[.v (.string ⟨#[]⟩),.v (.slice none 0 0),.v (.slice none 0 0),.v (.slice none 0 0)]⟩∧Cf ts n f xs y.1=R∧(y.1.2=none→ts.length<f+y.1.1)) (fun K hK0=>?_) (fun s' hs'=>?_)
  rotate_left
  ·obtain⟨y,hw,hlt2,hinv⟩:=hs';simp only[B4];refine AF.intro y hinv hw ?_;show (if y.1.2=none then ts.length+1-y.1.1 else 0)<(if S4.2=none then ts.length+1-S4.1 else 0);rw[if_pos hbn]
   split
   ·rename_i e;have:=hlt2 e;omega
   ·omega
  have hK:∀ (hq:List Aa) (s':St),slotW s' (TH γ i h.length b ((AN ts n Sw).2,hq))→∀ N,RQ ts hq i L n (AN ts n Sw).2→hq[b]?=some ⟨0,59,[.v (.string ⟨nm.toArray⟩),N,.v (.slice none 0 0),.v (.slice none 0 0)]⟩→GL (b+1) 130 2 hq N (xs++[(AN ts n Sw).1]).length ((xs++[(AN ts n Sw).1]).flatMap Pt.cells)→Fr (Io i h.length) h hq→hq[h.length]?=some ⟨0,59,[.v (.string ⟨#[]⟩),.v (.slice none 0 0),.v (.slice none 0 0),.v (.slice none 0 0)]⟩→K .normal s':=fun hq s' a1 N' a2 a3 a4 a5 a6=>hK0 s' ⟨((AN ts n Sw).2,hq),a1,fun e=>by
    have c1:=hadv e;show S4.1+1≤(AN ts n Sw).2.1
    omega,xs++[(AN ts n Sw).1],N',f',a2,fun e=>by
    have c1:=hadv e;rw[Bp];show xs.length+1≤(AN ts n Sw).2.1;omega,a3,a4,a5,a6,hR,fun e=>by
    have c1:=hadv e;show ts.length<f'+(AN ts n Sw).2.1;omega⟩
  clear hK0;have hxs0:(xs.length+1) * 40≤140737488355328:=by omega
  obtain⟨Y,hY⟩:∃ Y,Y=AN ts n Sw:=⟨_,rfl⟩;rw[←hY]at hK;obtain⟨x,Sx⟩:=Y;simp only at hK;refine Cc.orders [[0,1,2,3,4,5,6,7],[0,2,1,3,4,5,6,7],[2,0,1,3,4,5,6,7],[0,2,3,1,4,5,6,7],[2,0,3,1,4,5,6,7],[0,2,3,4,1,5,6,7],[2,0,3,4,1,5,6,7],[2,3,0,1,4,5,6,7],[2,3,0,4,1,5,6,7],[2,3,4,0,1,5,6,7]] (fun _ _ _ h o h'=>JM ts n L i h (AN ts n Sw).1.av (AN ts n Sw).2 o h') (Dw _) (by kernel_rfl) (by kernel_rfl) (by kernel_rfl) (fun q hq=>?_);simp only[BI,List.not_mem_nil,or_false]at hq
  rcases hq with rfl|rfl|rfl|rfl|rfl|rfl|rfl|rfl|rfl|rfl
  all_goals simp only[Rz,Gf,CI,BU,Bu,Bz,AH,kb5,B4,seval]
  all_goals refine⟨oE,SG E r5,fun ra hp hh=>?_,fun v hp hh=>by obtain⟨_,e,_⟩:=hh;cases e⟩
  all_goals obtain⟨A,e,f,rp,rd⟩:=hh
  all_goals rw[←hY]at rp rd
  all_goals obtain⟨V,rfl,rV⟩:=MK rd
  all_goals cases e
  all_goals obtain⟨oV,fV⟩:=Cz rV
  all_goals have f:Fr (AU i) h5 hp:=f
  all_goals have hhl:∀ k,k<b+1→k<h5.length:=fun k hk=>by omega
  all_goals have kbp:hp[b]?=some ⟨0,59,[.v (.string ⟨nm.toArray⟩),N,.v (.slice none 0 0),.v (.slice none 0 0)]⟩:=f.at kb5 hbi
  all_goals have hbl:=(Bs.1 kbp).1
  all_goals have hff:=f.1
  all_goals have Gp:=G5.fr0 f (fun k e=>by have e:k=i:=e;omega)
  all_goals have g7:∀ l,(hp++l)[b]?=some ⟨0,59,[.v (.string ⟨nm.toArray⟩),N,.v (.slice none 0 0),.v (.slice none 0 0)]⟩:=fun l=>(Ba hbl).trans kbp
  all_goals have s6:∀ l c,(hp++l).set b c=hp.set b c++l:=fun l c=>Bg _ _ hbl
  all_goals have hel:AE (fun k=>k<b+1∨AZ N k) hp x.cells [.v (.string ⟨x.tag.toArray⟩),V]:=AE.cons (Rd.str _) (AE.cons (rV.up (Fr.refl BR hp) (fun k e=>e.elim) fun k e _=>e.elim (fun e=>hhl k e) fun e=>(G5.lt e).2) AE.nil)
  all_goals have hxe:(xs++[x]).length=xs.length+1:=by simp
  all_goals have hxf:(xs++[x]).flatMap Pt.cells=xs.flatMap Pt.cells++x.cells:=by simp[Pt.cells]
  all_goals have Fpp:=F5.trans (Io.i (n0:=h.length) f) fun k e=>.inl e
  all_goals have krp:=f.at kr5 (fun e=>by have e:h.length=i:=e;omega)
  all_goals rcases Gp with⟨eN,e0,e1⟩|⟨j,ver,cs,eN,hnn,hj0,hj,hl,hrd⟩
  all_goals cases eN
  all_goals first
   |(have e0':=e0
     simp only[Bu,Bz,AH,kbp,g7,oV,Ae,Ap,s6,Aj,Bx,Bw,Bi,Bo,Bc,B4,seval];have GP:=(GL.nil (n0:=b+1) (t:=130) (sz:=2) (h:=hp)).push (h':=hp.set b ⟨0,59,[.v (.string ⟨nm.toArray⟩),.own (hp.length+1) 0 1,.v (.slice none 0 0),.v (.slice none 0 0)]⟩++[⟨0,130,[.v (.string ⟨x.tag.toArray⟩),V]⟩,⟨0,130,[.v (.string ⟨x.tag.toArray⟩),V]⟩]) (j':=hp.length+1) (ver':=0) (xs:=[]) (es:=[.v (.string ⟨x.tag.toArray⟩),V]) (ecs:=x.cells) (fun j ver e=>by cases e) (fun _=>⟨by omega,rfl⟩) (by omega) ((Fr.set _ (.inl (by omega))).trans (Fr.app (S:=BR) _ _) fun k e=>e.elim) (Ce _ _ _ _ _ _) rfl hel;refine hK (hp.set b ⟨0,59,[.v (.string ⟨nm.toArray⟩),.own (hp.length+1) 0 1,.v (.slice none 0 0),.v (.slice none 0 0)]⟩++[⟨0,130,[.v (.string ⟨x.tag.toArray⟩),V]⟩,⟨0,130,[.v (.string ⟨x.tag.toArray⟩),V]⟩]) _ ⟨rfl,rfl,⟨rfl,rfl,rfl,trivial⟩,rfl⟩ (.own (hp.length+1) 0 1) ?_ ?_ (by rw[hxe,hxf,e0,e1];exact GP) ?_ ?_
     ·exact (rp.fr (Fr.set (S:=AU b) _ rfl) (fun e=>hbi e.symm)).app _
     ·exact (Ba (by rw[Bl];exact hbl)).trans (Be hbl)
     ·exact Fpp.trans ((Fr.set (S:=Io i h.length) _ (.inr (by omega))).trans (Fr.app (S:=BR) _ _) fun k e=>e.elim) fun k e=>.inl e
     ·exact (Ba (by rw[Bl];omega)).trans ((Bn (by omega)).trans krp))
   |(have hjl:=(Bs.1 hj).1
     have hjb:j≠b:=by omega
     have hji:j≠i:=by omega
     have hjh:j≠h.length:=by omega
     have q1:∀ l,(hp++l)[j]?=some ⟨ver,130,cs⟩:=fun l=>(Ba hjl).trans hj
     have s8:∀ l c,(hp++l).set j c=hp.set j c++l:=fun l c=>Bg _ _ hjl
     have g9:∀ l c,(hp.set j c++l)[b]?=some ⟨0,59,[.v (.string ⟨nm.toArray⟩),.own j ver xs.length,.v (.slice none 0 0),.v (.slice none 0 0)]⟩:=fun l c=>(Ba (by rw[Bl];exact hbl)).trans ((Bn hjb).trans kbp)
     have s9:∀ l c d,(hp.set j c++l).set b d=(hp.set j c).set b d++l:=fun l c d=>Bg _ _ (by rw[Bl];exact hbl)
     have hl':cs.length=xs.length * 2:=hl;have q4:List.take (xs.length * 2) cs=cs:=Bt (by omega);have q6:xs.length * 2≤cs.length:=by omega
     simp only[Bu,Bz,AH,kbp,g7,oV,Ae,Ap,q1,s8,g9,s9,q4,q6,Aj,Bx,Bw,B4,seval];have GP:=GL.push (h:=hp) (N:=.own j ver xs.length) (.inr ⟨j,ver,cs,rfl,hnn,hj0,hj,hl,hrd⟩) (h':=(hp.set j ⟨ver+1,130,cs++[.v (.string ⟨x.tag.toArray⟩),V]⟩).set b ⟨0,59,[.v (.string ⟨nm.toArray⟩),.own j (ver+1) (xs.length+1),.v (.slice none 0 0),.v (.slice none 0 0)]⟩++[⟨0,130,[.v (.string ⟨x.tag.toArray⟩),V]⟩]) (j':=j) (ver':=ver+1) (xs:=cs) (es:=[.v (.string ⟨x.tag.toArray⟩),V]) (ecs:=x.cells) (fun j2 ver2 e=>by cases e;exact⟨rfl,hj⟩) (fun e=>by cases e) (by omega) (((Fr.set (S:=fun k=>k<b+1∨AZ (.own j ver xs.length) k) _ (.inr rfl)).trans (Fr.set (S:=fun k=>k<b+1∨AZ (.own j ver xs.length) k) _ (.inl (by omega))) fun k e=>.inl e).trans (Fr.app (S:=BR) _ _) fun k e=>e.elim) ((Ba (by rw[Bl,Bl];exact hjl)).trans ((Bn hjb.symm).trans (Be hjl))) rfl hel;refine⟨by omega,hK ((hp.set j ⟨ver+1,130,cs++[.v (.string ⟨x.tag.toArray⟩),V]⟩).set b ⟨0,59,[.v (.string ⟨nm.toArray⟩),.own j (ver+1) (xs.length+1),.v (.slice none 0 0),.v (.slice none 0 0)]⟩++[⟨0,130,[.v (.string ⟨x.tag.toArray⟩),V]⟩]) _ ⟨rfl,rfl,⟨rfl,rfl,rfl,trivial⟩,rfl⟩ (.own j (ver+1) (xs.length+1)) ?_ ?_ (by rw[hxe,hxf];exact GP) ?_ ?_⟩
     ·exact ((rp.fr (Fr.set (S:=AU j) _ rfl) (fun e=>hji e.symm)).fr (Fr.set (S:=AU b) _ rfl) (fun e=>hbi e.symm)).app _
     ·exact (Ba (by rw[Bl,Bl];exact hbl)).trans (Be (by rw[Bl];exact hbl))
     ·exact Fpp.trans (((Fr.set (S:=Io i h.length) _ (.inr (by omega))).trans (Fr.set (S:=Io i h.length) _ (.inr (by omega))) fun k e=>.inl e).trans (Fr.app (S:=BR) _ _) fun k e=>e.elim) fun k e=>.inl e
     ·exact (Ba (by rw[Bl,Bl];omega)).trans ((Bn (by omega)).trans ((Bn hjh).trans krp)))
 |false=>
  have hR2:R=(xs,S4):=by
   rw[←hR];cases f with
   |zero=>rfl
   |succ f=>rw[Cf,if_neg (by rw[hB];decide)]
  have hT:AB ts [38] S4=S4:=by unfold AB;rw[if_neg (by rw[hB];decide)]
  rw[hT]at r5;rw[hR2];simp only;obtain⟨oN,fN⟩:=G4.one;clear hR hR2 hf4 hx4 r4 kb4 G4 F4 kr4 f5 hT hB hF4;simp only[B4,seval];refine B9 R3 (C4 E r5 Li) (fun h6 f6 r6=>?_);have kb6:=f6.at kb5 hbi;have kr6:=f6.at kr5 (fun e=>by have e:h.length=i:=e;omega);have F6:=F5.trans (Io.i (n0:=h.length) f6) fun k e=>.inl e
  have G6:=G5.fr0 f6 (fun k e=>by have e:k=i:=e;omega);unfold CA;cases hW:HD ts Li S4 with
  |true=>
   have hT:AB ts Li S4=(S4.1+1,none):=by unfold AB;rw[if_pos hW]
   rw[hT]at r6;rw[if_pos rfl];simp only[B4,seval];refine B9 eU (Lo E r6) (fun h7 f7 r7=>?_);have kb7:=f7.at kb6 hbi;have kr7:=f7.at kr6 (fun e=>by have e:h.length=i:=e;omega);have F7:=F6.trans (Io.i (n0:=h.length) f7) fun k e=>.inl e
   have G7:=G6.fr0 f7 (fun k e=>by have e:k=i:=e;omega);generalize Bb ts n (S4.1+1,none)=X at r7⊢;obtain⟨gx,S7⟩:=X;simp only at r7⊢;have hbl7:=(Bs.1 kb7).1;have oG:Cl (Ab gx)=true:=by cases gx<;>rfl
   have fG:flat (Ab gx)=some [Ab gx]:=by cases gx<;>rfl
   simp only[AH,kb7,oG,Aj,Bx,Bw,B4,seval]
   obtain⟨kb8,r8,F8,kr8,G8⟩:(h7.set b (⟨0,59,[.v (.string ⟨nm.toArray⟩),N,Ab gx,.v (.slice none 0 0)]⟩:Aa))[b]?=some ⟨0,59,[.v (.string ⟨nm.toArray⟩),N,Ab gx,.v (.slice none 0 0)]⟩∧RQ ts (h7.set b (⟨0,59,[.v (.string ⟨nm.toArray⟩),N,Ab gx,.v (.slice none 0 0)]⟩:Aa)) i L n S7∧Fr (Io i h.length) h (h7.set b (⟨0,59,[.v (.string ⟨nm.toArray⟩),N,Ab gx,.v (.slice none 0 0)]⟩:Aa))∧(h7.set b (⟨0,59,[.v (.string ⟨nm.toArray⟩),N,Ab gx,.v (.slice none 0 0)]⟩:Aa))[h.length]?=some ⟨0,59,[.v (.string ⟨#[]⟩),.v (.slice none 0 0),.v (.slice none 0 0),.v (.slice none 0 0)]⟩∧GL (b+1) 130 2 (h7.set b (⟨0,59,[.v (.string ⟨nm.toArray⟩),N,Ab gx,.v (.slice none 0 0)]⟩:Aa)) N xs.length (xs.flatMap Pt.cells):=
    ⟨Be hbl7,r7.fr (Fr.set (S:=AU b) _ rfl) (fun e=>hbi e.symm),F7.trans (Fr.set (S:=Io i h.length) _ (.inr (by omega))) fun k e=>.inl e,(Bn (by omega)).trans kr7,G7.fr0 (Fr.set (S:=AU b) _ rfl) (fun k e=>by have e:k=b:=e;omega)⟩
   generalize h7.set b (⟨0,59,[.v (.string ⟨nm.toArray⟩),N,Ab gx,.v (.slice none 0 0)]⟩:Aa)=h8 at kb8 r8 F8 kr8 G8⊢;obtain⟨S8',hS8⟩:∃ S8':S8,S8'=S7:=⟨_,rfl⟩;rw[←hS8]at r8⊢;refine B9 OG (Cq E r8 [123]) (fun hM fM rM=>?_);have kbM:=fM.at kb8 hbi;have krM:=fM.at kr8 (fun e=>by have e:h.length=i:=e;omega);have FM0:=F8.trans (Io.i (n0:=h.length) fM) fun k e=>.inl e
   have GM:=G8.fr0 fM (fun k e=>by have e:k=i:=e;omega);obtain⟨m0,hm0⟩:∃ m0,m0=hM.length:=⟨_,rfl⟩;have hbm:b<m0:=by rw[hm0];exact (Bs.1 kbM).1
   have rdP:Rd (fun k=>k<b+1) hM (Ib xs) N:=GM.rd;generalize hS0:Av ts n [123] S8'=S0 at rM⊢;generalize hRR:C8 ts n (ts.length+1) [] S0=R2;obtain⟨P,hP⟩:∃ P,P=N:=⟨_,rfl⟩;obtain⟨G,hG⟩:∃ G,G=Ab gx:=⟨_,rfl⟩;rw[←hP]at kbM rdP oN fN;rw[←hG]at kbM oG fG;simp only[B4,seval];refine Cp.intro (TH γ i h.length b) (fun y=>∃ xs N f,RQ ts y.2 i L n y.1∧(y.1.2=none→xs.length≤y.1.1∧ts.length<f+y.1.1)∧y.2[b]?=some ⟨0,59,[.v (.string ⟨nm.toArray⟩),P,G,N]⟩∧GL m0 135 5 y.2 N xs.length (xs.flatMap Ac.cells)∧Fr (Io i h.length) h y.2∧y.2[h.length]?=some ⟨0,59,[.v (.string ⟨#[]⟩),.v (.slice none 0 0),.v (.slice none 0 0),.v (.slice none 0 0)]⟩∧Fr (IM b m0) hM y.2∧C8 ts n f xs y.1=R2) (fun y=>if y.1.2=none then ts.length+1-y.1.1 else 0) (S0,hM) ⟨rfl,rfl,⟨rfl,rfl,rfl,trivial⟩,rfl⟩ ⟨[],.v (.slice none 0 0),ts.length+1,rM,fun e=>⟨BN _,by show ts.length<ts.length+1+S0.1;omega⟩,kbM,GL.nil,FM0,krM,Fr.refl _ _,hRR⟩ (fun y hy=>?_);obtain⟨S4,h4⟩:=y;obtain⟨xs2,N,f,r4,hb4,kb4,G4,F4,kr4,FM4,hRR⟩:=hy;simp only at r4 hb4 kb4 G4 F4 kr4 FM4 hRR;have hi4:=r4.1;have hF4:=F4.1;have hM4:=FM4.1;have hbd:=r4.2.bad
   have fin:∀ {h9:List Aa} {S9:S8},RQ ts h9 i L n S9→h9[b]?=some ⟨0,59,[.v (.string ⟨nm.toArray⟩),P,G,N]⟩→GL m0 135 5 h9 N xs2.length (xs2.flatMap Ac.cells)→Fr (Io i h.length) h h9→h9[h.length]?=some ⟨0,59,[.v (.string ⟨#[]⟩),.v (.slice none 0 0),.v (.slice none 0 0),.v (.slice none 0 0)]⟩→Fr (IM b m0) hM h9→JM ts n L i h (Ch.av ⟨nm,xs,gx,xs2⟩) S9 (.ret (.agg [.v (.string ⟨nm.toArray⟩),P,G,N])) (h9.set h.length ⟨0,59,[.v (.string ⟨nm.toArray⟩),P,G,N]⟩):=fun {h9 S9} r9 kb9 G9 F9 kr9 FM9=>by
    have rd:=G9.rdS (m:=h.length) (Fr.set (S:=AU h.length) (h:=h9) (⟨0,59,[.v (.string ⟨nm.toArray⟩),P,G,N]⟩:Aa) rfl) (fun k e _=>by have e:k=h.length:=e;omega) (by omega);have rd2:=rdP.up (S':=Old h.length) (FM9.trans (Fr.set (S:=IM b m0) (h:=h9) (⟨0,59,[.v (.string ⟨nm.toArray⟩),P,G,N]⟩:Aa) (i:=h.length) (.inl (by omega))) fun k e=>.inl e) (fun k e hk=>by rcases e with e|e<;>(show k<b+1;omega)) (fun k e _=>by have e:k<h.length:=e;show k<b+1;omega);have rdG:Rd (Old h.length) (h9.set h.length (⟨0,59,[.v (.string ⟨nm.toArray⟩),P,G,N]⟩:Aa)) (Ab gx) G:=by rw[hG];exact Rd.nodes gx
    exact⟨_,rfl,Io.fin (F9.trans (Fr.set (S:=Io i h.length) _ (.inr (BL _))) fun k e=>.inl e),r9.fr (Fr.set (S:=AU h.length) _ rfl) (fun e=>by have e:i=h.length:=e;omega),Rd.agg (AE.cons (Rd.str nm) (AE.cons rd2 (AE.cons rdG (AE.cons rd AE.nil))))⟩
   obtain⟨oN2,fN2⟩:=G4.one;obtain⟨p,bd⟩:=S4;have hbd':(Ek bd==0)=bd.isNone:=hbd;cases bd with
   |some bb=>
    have hbb:(Ek (some bb)==0)=false:=hbd';rw[CG]at hRR;rw[←hRR];have q2:∀ c,(h4.set h.length c)[h.length]?=some c:=fun c=>Be (Bs.1 kr4).1
    simp only[TH,AH,Cn,hi4,cQ,hbb,kb4,kr4,q2,oN,oG,oN2,Aj,Bx,Bw,B4,A7,seval];exact fin r4 kb4 G4 F4 kr4 FM4
   |none=>
    have hbb:(Ek none==0)=true:=rfl;obtain⟨hx4,hf⟩:=hb4 rfl;have hp4:p≤ts.length:=r4.2.1;obtain⟨f',rfl⟩:∃ g,f=g+1:=⟨f-1,by omega⟩;rw[C8]at hRR;simp only[Option.isSome_none,Bool.false_eq_true,if_false]at hRR;simp only[TH,Cn,hi4,cQ,hbb,B4,A7,seval];refine B9 R3 (C4 E r4 [125]) (fun h5 f5 r5=>?_);have kb5:=f5.at kb4 hbi;have kr5:=f5.at kr4 (fun e=>by have e:h.length=i:=e;omega);have F5:=F4.trans (Io.i (n0:=h.length) f5) fun k e=>.inl e
    have FM5:=FM4.trans (S1:=AU i) f5 fun k e=>.inl (.inl (by have e:k=i:=e;omega))
    have G5:=G4.fr0 f5 (fun k e=>by have e:k=i:=e;omega);cases hB2:HD ts [125] (p,none)with
    |true=>
     have hT:AB ts [125] (p,none)=(p+1,none):=by unfold AB;rw[if_pos hB2]
     rw[hT]at r5;rw[if_pos hB2]at hRR;rw[←hRR];have q2:∀ c,(h5.set h.length c)[h.length]?=some c:=fun c=>Be (Bs.1 kr5).1
     simp only[AH,kb5,kr5,q2,oN,oG,oN2,Aj,Bx,Bw,B4,Bv,seval];exact fin r5 kb5 G5 F5 kr5 FM5
    |false=>
     have hT:AB ts [125] (p,none)=(p,none):=by unfold AB;rw[if_neg (by rw[hB2];decide)]
     rw[hT]at r5;rw[if_neg (by rw[hB2];decide)]at hRR;have hadv:=O3 (ts:=ts) (n:=n) (p,none) hp4;generalize hSw:((p,none):S8)=Sw at r5 hRR hadv;have hS1:Sw.1=p:=by rw[←hSw]
     have hM5:=FM5.1;simp only[B4,Bf,seval];refine Cc.via (fun s'=>∃ y:S8×List Aa,slotW s' (TH γ i h.length b y)∧(y.1.2=none→p+1≤y.1.1)∧∃ xs N f,RQ ts y.2 i L n y.1∧(y.1.2=none→xs.length≤y.1.1∧ts.length<f+y.1.1)∧y.2[b]?=some ⟨0,59,[.v (.string ⟨nm.toArray⟩),P,G,N]⟩∧GL m0 135 5 y.2 N xs.length (xs.flatMap Ac.cells)∧Fr (Io i h.length) h y.2∧y.2[h.length]?=some ⟨0,59,[.v (.string ⟨#[]⟩),.v (.slice none 0 0),.v (.slice none 0 0),.v (.slice none 0 0)]⟩∧Fr (IM b m0) hM y.2∧C8 ts n f xs y.1=R2) (fun K hK0=>?_) (fun s' hs'=>?_)
     rotate_left
     ·obtain⟨y,hw,hlt2,hinv⟩:=hs';simp only[B4];refine AF.intro y hinv hw ?_;show (if y.1.2=none then ts.length+1-y.1.1 else 0)<(if (none:Option (Int×Int))=none then ts.length+1-p else 0);rw[if_pos rfl]
      split
      ·rename_i e;have:=hlt2 e;omega
      ·omega
     have hK:∀ (hq:List Aa) (s':St),slotW s' (TH γ i h.length b ((DF ts n Sw).2,hq))→∀ N,RQ ts hq i L n (DF ts n Sw).2→hq[b]?=some ⟨0,59,[.v (.string ⟨nm.toArray⟩),P,G,N]⟩→GL m0 135 5 hq N (xs2++[(DF ts n Sw).1]).length ((xs2++[(DF ts n Sw).1]).flatMap Ac.cells)→Fr (Io i h.length) h hq→hq[h.length]?=some ⟨0,59,[.v (.string ⟨#[]⟩),.v (.slice none 0 0),.v (.slice none 0 0),.v (.slice none 0 0)]⟩→Fr (IM b m0) hM hq→K .normal s':=fun hq s' a1 N' a2 a3 a4 a5 a6 a7=>hK0 s' ⟨((DF ts n Sw).2,hq),a1,fun e=>by
       have c1:=hadv e;show p+1≤(DF ts n Sw).2.1
       omega,xs2++[(DF ts n Sw).1],N',f',a2,fun e=>by
       have c1:=hadv e;refine⟨?_,?_⟩
       ·rw[Bp];show xs2.length+1≤(DF ts n Sw).2.1;omega
       ·show ts.length<f'+(DF ts n Sw).2.1;omega,a3,a4,a5,a6,a7,hRR⟩
     clear hK0;have hxs0:(xs2.length+1) * 88≤140737488355328:=by omega
     obtain⟨Y,hY⟩:∃ Y,Y=DF ts n Sw:=⟨_,rfl⟩;rw[←hY]at hK;obtain⟨x,Sx⟩:=Y;simp only at hK;refine Cc.orders [[0,1,2,3,4,5,6,7],[0,2,1,3,4,5,6,7],[2,0,1,3,4,5,6,7],[0,2,3,1,4,5,6,7],[2,0,3,1,4,5,6,7],[0,2,3,4,1,5,6,7],[2,0,3,4,1,5,6,7],[2,3,0,1,4,5,6,7],[2,3,0,4,1,5,6,7],[2,3,4,0,1,5,6,7]] (fun _ _ _ h o h'=>JM ts n L i h (DF ts n Sw).1.av (DF ts n Sw).2 o h') (Dw _) (by kernel_rfl) (by kernel_rfl) (by kernel_rfl) (fun q hq=>?_);simp only[BI,List.not_mem_nil,or_false]at hq
     rcases hq with rfl|rfl|rfl|rfl|rfl|rfl|rfl|rfl|rfl|rfl
     all_goals simp only[Rz,Gf,CI,BU,Bu,Bz,AH,Cn,kb5,B4,seval]
     all_goals refine⟨c124,VW E r5,fun ra hp hh=>?_,fun v hp hh=>by obtain⟨_,e,_⟩:=hh;cases e⟩
     all_goals obtain⟨A,e,f,rp,rd⟩:=hh
     all_goals rw[←hY]at rp rd
     all_goals obtain⟨T,V,rfl,rT,rV⟩:=Z0 rd
     all_goals cases e
     all_goals obtain⟨oV,fV⟩:=Cz rV
     all_goals obtain⟨oT,fT⟩:=Nh rT
     all_goals have f:Fr (AU i) h5 hp:=f
     all_goals have hhl:∀ k,k<m0→k<h5.length:=fun k hk=>by omega
     all_goals have kbp:hp[b]?=some ⟨0,59,[.v (.string ⟨nm.toArray⟩),P,G,N]⟩:=f.at kb5 hbi
     all_goals have hbl:=(Bs.1 kbp).1
     all_goals have hff:=f.1
     all_goals have Gp:=G5.fr0 f (fun k e=>by have e:k=i:=e;omega)
     all_goals have g7:∀ l,(hp++l)[b]?=some ⟨0,59,[.v (.string ⟨nm.toArray⟩),P,G,N]⟩:=fun l=>(Ba hbl).trans kbp
     all_goals have s6:∀ l c,(hp++l).set b c=hp.set b c++l:=fun l c=>Bg _ _ hbl
     all_goals have hel:AE (fun k=>k<m0∨AZ N k) hp x.cells [.v (.int .i64 x.kind),T,.v (.string ⟨x.name.toArray⟩),.v (.string ⟨x.var.toArray⟩),V]:=AE.cons (Rd.int _) (AE.cons (rT.up (Fr.refl BR hp) (fun k e=>e.elim) fun k e _=>e.elim (fun e=>hhl k e) fun e=>(G5.lt e).2) (AE.cons (Rd.str _) (AE.cons (Rd.str _) (AE.cons (rV.up (Fr.refl BR hp) (fun k e=>e.elim) fun k e _=>e.elim (fun e=>hhl k e) fun e=>(G5.lt e).2) AE.nil))))
     all_goals have hxe:(xs2++[x]).length=xs2.length+1:=by simp
     all_goals have hxf:(xs2++[x]).flatMap Ac.cells=xs2.flatMap Ac.cells++x.cells:=by simp[Ac.cells]
     all_goals have Fpp:=F5.trans (Io.i (n0:=h.length) f) fun k e=>.inl e
     all_goals have krp:=f.at kr5 (fun e=>by have e:h.length=i:=e;omega)
     all_goals rcases Gp with⟨eN,e0,e1⟩|⟨j,ver,cs,eN,hnn,hj0,hj,hl,hrd⟩
     all_goals cases eN
     all_goals first
      |(have e0':=e0
        simp only[Bu,Bz,AH,Cn,kbp,g7,oV,oT,Ae,AA,Ap,s6,Aj,Bx,Bw,Bi,Bo,Bc,B4,seval];have GP:=(GL.nil (n0:=m0) (t:=135) (sz:=5) (h:=hp)).push (h':=hp.set b ⟨0,59,[.v (.string ⟨nm.toArray⟩),P,G,.own (hp.length+1) 0 1]⟩++[⟨0,135,[.v (.int .i64 x.kind),T,.v (.string ⟨x.name.toArray⟩),.v (.string ⟨x.var.toArray⟩),V]⟩,⟨0,135,[.v (.int .i64 x.kind),T,.v (.string ⟨x.name.toArray⟩),.v (.string ⟨x.var.toArray⟩),V]⟩]) (j':=hp.length+1) (ver':=0) (xs:=[]) (es:=[.v (.int .i64 x.kind),T,.v (.string ⟨x.name.toArray⟩),.v (.string ⟨x.var.toArray⟩),V]) (ecs:=x.cells) (fun j ver e=>by cases e) (fun _=>⟨by omega,rfl⟩) (by omega) ((Fr.set _ (.inl (by omega))).trans (Fr.app (S:=BR) _ _) fun k e=>e.elim) (Ce _ _ _ _ _ _) rfl hel;refine hK (hp.set b ⟨0,59,[.v (.string ⟨nm.toArray⟩),P,G,.own (hp.length+1) 0 1]⟩++[⟨0,135,[.v (.int .i64 x.kind),T,.v (.string ⟨x.name.toArray⟩),.v (.string ⟨x.var.toArray⟩),V]⟩,⟨0,135,[.v (.int .i64 x.kind),T,.v (.string ⟨x.name.toArray⟩),.v (.string ⟨x.var.toArray⟩),V]⟩]) _ ⟨rfl,rfl,⟨rfl,rfl,rfl,trivial⟩,rfl⟩ (.own (hp.length+1) 0 1) ?_ ?_ (by rw[hxe,hxf,e0,e1];exact GP) ?_ ?_ ?_
        ·exact (rp.fr (Fr.set (S:=AU b) _ rfl) (fun e=>hbi e.symm)).app _
        ·exact (Ba (by rw[Bl];exact hbl)).trans (Be hbl)
        ·exact Fpp.trans ((Fr.set (S:=Io i h.length) _ (.inr (by omega))).trans (Fr.app (S:=BR) _ _) fun k e=>e.elim) fun k e=>.inl e
        ·exact (Ba (by rw[Bl];omega)).trans ((Bn (by omega)).trans krp)
        ·exact (FM5.trans (S1:=AU i) f fun k e=>.inl (.inl (by have e:k=i:=e;omega))).trans ((Fr.set (S:=IM b m0) _ (.inl (by omega))).trans (Fr.app (S:=BR) _ _) fun k e=>e.elim) fun k e=>.inl e)
      |(have hjl:=(Bs.1 hj).1
        have hjb:j≠b:=by omega
        have hji:j≠i:=by omega
        have hjh:j≠h.length:=by omega
        have q1:∀ l,(hp++l)[j]?=some ⟨ver,135,cs⟩:=fun l=>(Ba hjl).trans hj
        have s8:∀ l c,(hp++l).set j c=hp.set j c++l:=fun l c=>Bg _ _ hjl
        have g9:∀ l c,(hp.set j c++l)[b]?=some ⟨0,59,[.v (.string ⟨nm.toArray⟩),P,G,.own j ver xs2.length]⟩:=fun l c=>(Ba (by rw[Bl];exact hbl)).trans ((Bn hjb).trans kbp)
        have s9:∀ l c d,(hp.set j c++l).set b d=(hp.set j c).set b d++l:=fun l c d=>Bg _ _ (by rw[Bl];exact hbl)
        have hl':cs.length=xs2.length * 5:=hl;have q4:List.take (xs2.length * 5) cs=cs:=Bt (by omega);have q6:xs2.length * 5≤cs.length:=by omega
        simp only[Bu,Bz,AH,Cn,kbp,g7,oV,oT,Ae,AA,Ap,q1,s8,g9,s9,q4,q6,Aj,Bx,Bw,B4,seval];have GP:=GL.push (h:=hp) (N:=.own j ver xs2.length) (.inr ⟨j,ver,cs,rfl,hnn,hj0,hj,hl,hrd⟩) (h':=(hp.set j ⟨ver+1,135,cs++[.v (.int .i64 x.kind),T,.v (.string ⟨x.name.toArray⟩),.v (.string ⟨x.var.toArray⟩),V]⟩).set b ⟨0,59,[.v (.string ⟨nm.toArray⟩),P,G,.own j (ver+1) (xs2.length+1)]⟩++[⟨0,135,[.v (.int .i64 x.kind),T,.v (.string ⟨x.name.toArray⟩),.v (.string ⟨x.var.toArray⟩),V]⟩]) (j':=j) (ver':=ver+1) (xs:=cs) (es:=[.v (.int .i64 x.kind),T,.v (.string ⟨x.name.toArray⟩),.v (.string ⟨x.var.toArray⟩),V]) (ecs:=x.cells) (fun j2 ver2 e=>by cases e;exact⟨rfl,hj⟩) (fun e=>by cases e) (by omega) (((Fr.set (S:=fun k=>k<m0∨AZ (.own j ver xs2.length) k) _ (.inr rfl)).trans (Fr.set (S:=fun k=>k<m0∨AZ (.own j ver xs2.length) k) _ (.inl (by omega))) fun k e=>.inl e).trans (Fr.app (S:=BR) _ _) fun k e=>e.elim) ((Ba (by rw[Bl,Bl];exact hjl)).trans ((Bn hjb.symm).trans (Be hjl))) rfl hel;refine⟨by omega,hK ((hp.set j ⟨ver+1,135,cs++[.v (.int .i64 x.kind),T,.v (.string ⟨x.name.toArray⟩),.v (.string ⟨x.var.toArray⟩),V]⟩).set b ⟨0,59,[.v (.string ⟨nm.toArray⟩),P,G,.own j (ver+1) (xs2.length+1)]⟩++[⟨0,135,[.v (.int .i64 x.kind),T,.v (.string ⟨x.name.toArray⟩),.v (.string ⟨x.var.toArray⟩),V]⟩]) _ ⟨rfl,rfl,⟨rfl,rfl,rfl,trivial⟩,rfl⟩ (.own j (ver+1) (xs2.length+1)) ?_ ?_ (by rw[hxe,hxf];exact GP) ?_ ?_ ?_⟩
        ·exact ((rp.fr (Fr.set (S:=AU j) _ rfl) (fun e=>hji e.symm)).fr (Fr.set (S:=AU b) _ rfl) (fun e=>hbi e.symm)).app _
        ·exact (Ba (by rw[Bl,Bl];exact hbl)).trans (Be (by rw[Bl];exact hbl))
        ·exact Fpp.trans (((Fr.set (S:=Io i h.length) _ (.inr (by omega))).trans (Fr.set (S:=Io i h.length) _ (.inr (by omega))) fun k e=>.inl e).trans (Fr.app (S:=BR) _ _) fun k e=>e.elim) fun k e=>.inl e
        ·exact (Ba (by rw[Bl,Bl];omega)).trans ((Bn (by omega)).trans ((Bn hjh).trans krp))
        ·exact (FM5.trans (S1:=AU i) f fun k e=>.inl (.inl (by have e:k=i:=e;omega))).trans (((Fr.set (S:=IM b m0) _ (.inr hj0)).trans (Fr.set (S:=IM b m0) _ (.inl (by omega))) fun k e=>.inl e).trans (Fr.app (S:=BR) _ _) fun k e=>e.elim) fun k e=>.inl e)
  |false=>
   have hT:AB ts Li S4=S4:=by unfold AB;rw[if_neg (by rw[hW];decide)]
   rw[hT]at r6;rw[if_neg (by decide)];simp only;simp only[B4,seval];obtain⟨gx,hgx⟩:∃ gx:List Nd,gx=[]:=⟨_,rfl⟩;have oG:Cl (Ab gx)=true:=by cases gx<;>rfl
   have fG:flat (Ab gx)=some [Ab gx]:=by cases gx<;>rfl
   have hgn:(.v (.slice none 0 0):AV)=Ab gx:=by rw[hgx];rfl
   have kb8:h6[b]?=some ⟨0,59,[.v (.string ⟨nm.toArray⟩),N,Ab gx,.v (.slice none 0 0)]⟩:=by rw[←hgn];exact kb6
   obtain⟨h8,e8⟩:∃ h8,h8=h6:=⟨_,rfl⟩;obtain⟨S8',hS8⟩:∃ S8':S8,S8'=S4:=⟨_,rfl⟩;have r8:=r6;have F8:=F6;have kr8:=kr6;have G8:=G6;have hch:∀ bd,(⟨nm,xs,[],bd⟩:Ch)=⟨nm,xs,gx,bd⟩:=fun bd=>by rw[hgx]
   rw[hch];rw[←e8]at kb8 r8 F8 kr8 G8⊢;rw[←hS8]at r8⊢;refine B9 OG (Cq E r8 [123]) (fun hM fM rM=>?_);have kbM:=fM.at kb8 hbi;have krM:=fM.at kr8 (fun e=>by have e:h.length=i:=e;omega);have FM0:=F8.trans (Io.i (n0:=h.length) fM) fun k e=>.inl e
   have GM:=G8.fr0 fM (fun k e=>by have e:k=i:=e;omega);obtain⟨m0,hm0⟩:∃ m0,m0=hM.length:=⟨_,rfl⟩;have hbm:b<m0:=by rw[hm0];exact (Bs.1 kbM).1
   have rdP:Rd (fun k=>k<b+1) hM (Ib xs) N:=GM.rd;generalize hS0:Av ts n [123] S8'=S0 at rM⊢;generalize hRR:C8 ts n (ts.length+1) [] S0=R2;obtain⟨P,hP⟩:∃ P,P=N:=⟨_,rfl⟩;obtain⟨G,hG⟩:∃ G,G=Ab gx:=⟨_,rfl⟩;rw[←hP]at kbM rdP oN fN;rw[←hG]at kbM oG fG;simp only[B4,seval];refine Cp.intro (TH γ i h.length b) (fun y=>∃ xs N f,RQ ts y.2 i L n y.1∧(y.1.2=none→xs.length≤y.1.1∧ts.length<f+y.1.1)∧y.2[b]?=some ⟨0,59,[.v (.string ⟨nm.toArray⟩),P,G,N]⟩∧GL m0 135 5 y.2 N xs.length (xs.flatMap Ac.cells)∧Fr (Io i h.length) h y.2∧y.2[h.length]?=some ⟨0,59,[.v (.string ⟨#[]⟩),.v (.slice none 0 0),.v (.slice none 0 0),.v (.slice none 0 0)]⟩∧Fr (IM b m0) hM y.2∧C8 ts n f xs y.1=R2) (fun y=>if y.1.2=none then ts.length+1-y.1.1 else 0) (S0,hM) ⟨rfl,rfl,⟨rfl,rfl,rfl,trivial⟩,rfl⟩ ⟨[],.v (.slice none 0 0),ts.length+1,rM,fun e=>⟨BN _,by show ts.length<ts.length+1+S0.1;omega⟩,kbM,GL.nil,FM0,krM,Fr.refl _ _,hRR⟩ (fun y hy=>?_);obtain⟨S4,h4⟩:=y;obtain⟨xs2,N,f,r4,hb4,kb4,G4,F4,kr4,FM4,hRR⟩:=hy;simp only at r4 hb4 kb4 G4 F4 kr4 FM4 hRR;have hi4:=r4.1;have hF4:=F4.1;have hM4:=FM4.1;have hbd:=r4.2.bad
   have fin:∀ {h9:List Aa} {S9:S8},RQ ts h9 i L n S9→h9[b]?=some ⟨0,59,[.v (.string ⟨nm.toArray⟩),P,G,N]⟩→GL m0 135 5 h9 N xs2.length (xs2.flatMap Ac.cells)→Fr (Io i h.length) h h9→h9[h.length]?=some ⟨0,59,[.v (.string ⟨#[]⟩),.v (.slice none 0 0),.v (.slice none 0 0),.v (.slice none 0 0)]⟩→Fr (IM b m0) hM h9→JM ts n L i h (Ch.av ⟨nm,xs,gx,xs2⟩) S9 (.ret (.agg [.v (.string ⟨nm.toArray⟩),P,G,N])) (h9.set h.length ⟨0,59,[.v (.string ⟨nm.toArray⟩),P,G,N]⟩):=fun {h9 S9} r9 kb9 G9 F9 kr9 FM9=>by
    have rd:=G9.rdS (m:=h.length) (Fr.set (S:=AU h.length) (h:=h9) (⟨0,59,[.v (.string ⟨nm.toArray⟩),P,G,N]⟩:Aa) rfl) (fun k e _=>by have e:k=h.length:=e;omega) (by omega);have rd2:=rdP.up (S':=Old h.length) (FM9.trans (Fr.set (S:=IM b m0) (h:=h9) (⟨0,59,[.v (.string ⟨nm.toArray⟩),P,G,N]⟩:Aa) (i:=h.length) (.inl (by omega))) fun k e=>.inl e) (fun k e hk=>by rcases e with e|e<;>(show k<b+1;omega)) (fun k e _=>by have e:k<h.length:=e;show k<b+1;omega);have rdG:Rd (Old h.length) (h9.set h.length (⟨0,59,[.v (.string ⟨nm.toArray⟩),P,G,N]⟩:Aa)) (Ab gx) G:=by rw[hG];exact Rd.nodes gx
    exact⟨_,rfl,Io.fin (F9.trans (Fr.set (S:=Io i h.length) _ (.inr (BL _))) fun k e=>.inl e),r9.fr (Fr.set (S:=AU h.length) _ rfl) (fun e=>by have e:i=h.length:=e;omega),Rd.agg (AE.cons (Rd.str nm) (AE.cons rd2 (AE.cons rdG (AE.cons rd AE.nil))))⟩
   obtain⟨oN2,fN2⟩:=G4.one;obtain⟨p,bd⟩:=S4;have hbd':(Ek bd==0)=bd.isNone:=hbd;cases bd with
   |some bb=>
    have hbb:(Ek (some bb)==0)=false:=hbd';rw[CG]at hRR;rw[←hRR];have q2:∀ c,(h4.set h.length c)[h.length]?=some c:=fun c=>Be (Bs.1 kr4).1
    simp only[TH,AH,Cn,hi4,cQ,hbb,kb4,kr4,q2,oN,oG,oN2,Aj,Bx,Bw,B4,A7,seval];exact fin r4 kb4 G4 F4 kr4 FM4
   |none=>
    have hbb:(Ek none==0)=true:=rfl;obtain⟨hx4,hf⟩:=hb4 rfl;have hp4:p≤ts.length:=r4.2.1;obtain⟨f',rfl⟩:∃ g,f=g+1:=⟨f-1,by omega⟩;rw[C8]at hRR;simp only[Option.isSome_none,Bool.false_eq_true,if_false]at hRR;simp only[TH,Cn,hi4,cQ,hbb,B4,A7,seval];refine B9 R3 (C4 E r4 [125]) (fun h5 f5 r5=>?_);have kb5:=f5.at kb4 hbi;have kr5:=f5.at kr4 (fun e=>by have e:h.length=i:=e;omega);have F5:=F4.trans (Io.i (n0:=h.length) f5) fun k e=>.inl e
    have FM5:=FM4.trans (S1:=AU i) f5 fun k e=>.inl (.inl (by have e:k=i:=e;omega))
    have G5:=G4.fr0 f5 (fun k e=>by have e:k=i:=e;omega);cases hB2:HD ts [125] (p,none)with
    |true=>
     have hT:AB ts [125] (p,none)=(p+1,none):=by unfold AB;rw[if_pos hB2]
     rw[hT]at r5;rw[if_pos hB2]at hRR;rw[←hRR];have q2:∀ c,(h5.set h.length c)[h.length]?=some c:=fun c=>Be (Bs.1 kr5).1
     simp only[AH,kb5,kr5,q2,oN,oG,oN2,Aj,Bx,Bw,B4,Bv,seval];exact fin r5 kb5 G5 F5 kr5 FM5
    |false=>
     have hT:AB ts [125] (p,none)=(p,none):=by unfold AB;rw[if_neg (by rw[hB2];decide)]
     rw[hT]at r5;rw[if_neg (by rw[hB2];decide)]at hRR;have hadv:=O3 (ts:=ts) (n:=n) (p,none) hp4;generalize hSw:((p,none):S8)=Sw at r5 hRR hadv;have hS1:Sw.1=p:=by rw[←hSw]
     have hM5:=FM5.1;simp only[B4,Bf,seval];refine Cc.via (fun s'=>∃ y:S8×List Aa,slotW s' (TH γ i h.length b y)∧(y.1.2=none→p+1≤y.1.1)∧∃ xs N f,RQ ts y.2 i L n y.1∧(y.1.2=none→xs.length≤y.1.1∧ts.length<f+y.1.1)∧y.2[b]?=some ⟨0,59,[.v (.string ⟨nm.toArray⟩),P,G,N]⟩∧GL m0 135 5 y.2 N xs.length (xs.flatMap Ac.cells)∧Fr (Io i h.length) h y.2∧y.2[h.length]?=some ⟨0,59,[.v (.string ⟨#[]⟩),.v (.slice none 0 0),.v (.slice none 0 0),.v (.slice none 0 0)]⟩∧Fr (IM b m0) hM y.2∧C8 ts n f xs y.1=R2) (fun K hK0=>?_) (fun s' hs'=>?_)
     rotate_left
     ·obtain⟨y,hw,hlt2,hinv⟩:=hs';simp only[B4];refine AF.intro y hinv hw ?_;show (if y.1.2=none then ts.length+1-y.1.1 else 0)<(if (none:Option (Int×Int))=none then ts.length+1-p else 0);rw[if_pos rfl]
      split
      ·rename_i e;have:=hlt2 e;omega
      ·omega
     have hK:∀ (hq:List Aa) (s':St),slotW s' (TH γ i h.length b ((DF ts n Sw).2,hq))→∀ N,RQ ts hq i L n (DF ts n Sw).2→hq[b]?=some ⟨0,59,[.v (.string ⟨nm.toArray⟩),P,G,N]⟩→GL m0 135 5 hq N (xs2++[(DF ts n Sw).1]).length ((xs2++[(DF ts n Sw).1]).flatMap Ac.cells)→Fr (Io i h.length) h hq→hq[h.length]?=some ⟨0,59,[.v (.string ⟨#[]⟩),.v (.slice none 0 0),.v (.slice none 0 0),.v (.slice none 0 0)]⟩→Fr (IM b m0) hM hq→K .normal s':=fun hq s' a1 N' a2 a3 a4 a5 a6 a7=>hK0 s' ⟨((DF ts n Sw).2,hq),a1,fun e=>by
       have c1:=hadv e;show p+1≤(DF ts n Sw).2.1
       omega,xs2++[(DF ts n Sw).1],N',f',a2,fun e=>by
       have c1:=hadv e;refine⟨?_,?_⟩
       ·rw[Bp];show xs2.length+1≤(DF ts n Sw).2.1;omega
       ·show ts.length<f'+(DF ts n Sw).2.1;omega,a3,a4,a5,a6,a7,hRR⟩
     clear hK0;have hxs0:(xs2.length+1) * 88≤140737488355328:=by omega
     obtain⟨Y,hY⟩:∃ Y,Y=DF ts n Sw:=⟨_,rfl⟩;rw[←hY]at hK;obtain⟨x,Sx⟩:=Y;simp only at hK;refine Cc.orders [[0,1,2,3,4,5,6,7],[0,2,1,3,4,5,6,7],[2,0,1,3,4,5,6,7],[0,2,3,1,4,5,6,7],[2,0,3,1,4,5,6,7],[0,2,3,4,1,5,6,7],[2,0,3,4,1,5,6,7],[2,3,0,1,4,5,6,7],[2,3,0,4,1,5,6,7],[2,3,4,0,1,5,6,7]] (fun _ _ _ h o h'=>JM ts n L i h (DF ts n Sw).1.av (DF ts n Sw).2 o h') (Dw _) (by kernel_rfl) (by kernel_rfl) (by kernel_rfl) (fun q hq=>?_);simp only[BI,List.not_mem_nil,or_false]at hq
     rcases hq with rfl|rfl|rfl|rfl|rfl|rfl|rfl|rfl|rfl|rfl
     all_goals simp only[Rz,Gf,CI,BU,Bu,Bz,AH,Cn,kb5,B4,seval]
     all_goals refine⟨c124,VW E r5,fun ra hp hh=>?_,fun v hp hh=>by obtain⟨_,e,_⟩:=hh;cases e⟩
     all_goals obtain⟨A,e,f,rp,rd⟩:=hh
     all_goals rw[←hY]at rp rd
     all_goals obtain⟨T,V,rfl,rT,rV⟩:=Z0 rd
     all_goals cases e
     all_goals obtain⟨oV,fV⟩:=Cz rV
     all_goals obtain⟨oT,fT⟩:=Nh rT
     all_goals have f:Fr (AU i) h5 hp:=f
     all_goals have hhl:∀ k,k<m0→k<h5.length:=fun k hk=>by omega
     all_goals have kbp:hp[b]?=some ⟨0,59,[.v (.string ⟨nm.toArray⟩),P,G,N]⟩:=f.at kb5 hbi
     all_goals have hbl:=(Bs.1 kbp).1
     all_goals have hff:=f.1
     all_goals have Gp:=G5.fr0 f (fun k e=>by have e:k=i:=e;omega)
     all_goals have g7:∀ l,(hp++l)[b]?=some ⟨0,59,[.v (.string ⟨nm.toArray⟩),P,G,N]⟩:=fun l=>(Ba hbl).trans kbp
     all_goals have s6:∀ l c,(hp++l).set b c=hp.set b c++l:=fun l c=>Bg _ _ hbl
     all_goals have hel:AE (fun k=>k<m0∨AZ N k) hp x.cells [.v (.int .i64 x.kind),T,.v (.string ⟨x.name.toArray⟩),.v (.string ⟨x.var.toArray⟩),V]:=AE.cons (Rd.int _) (AE.cons (rT.up (Fr.refl BR hp) (fun k e=>e.elim) fun k e _=>e.elim (fun e=>hhl k e) fun e=>(G5.lt e).2) (AE.cons (Rd.str _) (AE.cons (Rd.str _) (AE.cons (rV.up (Fr.refl BR hp) (fun k e=>e.elim) fun k e _=>e.elim (fun e=>hhl k e) fun e=>(G5.lt e).2) AE.nil))))
     all_goals have hxe:(xs2++[x]).length=xs2.length+1:=by simp
     all_goals have hxf:(xs2++[x]).flatMap Ac.cells=xs2.flatMap Ac.cells++x.cells:=by simp[Ac.cells]
     all_goals have Fpp:=F5.trans (Io.i (n0:=h.length) f) fun k e=>.inl e
     all_goals have krp:=f.at kr5 (fun e=>by have e:h.length=i:=e;omega)
     all_goals rcases Gp with⟨eN,e0,e1⟩|⟨j,ver,cs,eN,hnn,hj0,hj,hl,hrd⟩
     all_goals cases eN
     all_goals first
      |(have e0':=e0
        simp only[Bu,Bz,AH,Cn,kbp,g7,oV,oT,Ae,AA,Ap,s6,Aj,Bx,Bw,Bi,Bo,Bc,B4,seval];have GP:=(GL.nil (n0:=m0) (t:=135) (sz:=5) (h:=hp)).push (h':=hp.set b ⟨0,59,[.v (.string ⟨nm.toArray⟩),P,G,.own (hp.length+1) 0 1]⟩++[⟨0,135,[.v (.int .i64 x.kind),T,.v (.string ⟨x.name.toArray⟩),.v (.string ⟨x.var.toArray⟩),V]⟩,⟨0,135,[.v (.int .i64 x.kind),T,.v (.string ⟨x.name.toArray⟩),.v (.string ⟨x.var.toArray⟩),V]⟩]) (j':=hp.length+1) (ver':=0) (xs:=[]) (es:=[.v (.int .i64 x.kind),T,.v (.string ⟨x.name.toArray⟩),.v (.string ⟨x.var.toArray⟩),V]) (ecs:=x.cells) (fun j ver e=>by cases e) (fun _=>⟨by omega,rfl⟩) (by omega) ((Fr.set _ (.inl (by omega))).trans (Fr.app (S:=BR) _ _) fun k e=>e.elim) (Ce _ _ _ _ _ _) rfl hel;refine hK (hp.set b ⟨0,59,[.v (.string ⟨nm.toArray⟩),P,G,.own (hp.length+1) 0 1]⟩++[⟨0,135,[.v (.int .i64 x.kind),T,.v (.string ⟨x.name.toArray⟩),.v (.string ⟨x.var.toArray⟩),V]⟩,⟨0,135,[.v (.int .i64 x.kind),T,.v (.string ⟨x.name.toArray⟩),.v (.string ⟨x.var.toArray⟩),V]⟩]) _ ⟨rfl,rfl,⟨rfl,rfl,rfl,trivial⟩,rfl⟩ (.own (hp.length+1) 0 1) ?_ ?_ (by rw[hxe,hxf,e0,e1];exact GP) ?_ ?_ ?_
        ·exact (rp.fr (Fr.set (S:=AU b) _ rfl) (fun e=>hbi e.symm)).app _
        ·exact (Ba (by rw[Bl];exact hbl)).trans (Be hbl)
        ·exact Fpp.trans ((Fr.set (S:=Io i h.length) _ (.inr (by omega))).trans (Fr.app (S:=BR) _ _) fun k e=>e.elim) fun k e=>.inl e
        ·exact (Ba (by rw[Bl];omega)).trans ((Bn (by omega)).trans krp)
        ·exact (FM5.trans (S1:=AU i) f fun k e=>.inl (.inl (by have e:k=i:=e;omega))).trans ((Fr.set (S:=IM b m0) _ (.inl (by omega))).trans (Fr.app (S:=BR) _ _) fun k e=>e.elim) fun k e=>.inl e)
      |(have hjl:=(Bs.1 hj).1
        have hjb:j≠b:=by omega
        have hji:j≠i:=by omega
        have hjh:j≠h.length:=by omega
        have q1:∀ l,(hp++l)[j]?=some ⟨ver,135,cs⟩:=fun l=>(Ba hjl).trans hj
        have s8:∀ l c,(hp++l).set j c=hp.set j c++l:=fun l c=>Bg _ _ hjl
        have g9:∀ l c,(hp.set j c++l)[b]?=some ⟨0,59,[.v (.string ⟨nm.toArray⟩),P,G,.own j ver xs2.length]⟩:=fun l c=>(Ba (by rw[Bl];exact hbl)).trans ((Bn hjb).trans kbp)
        have s9:∀ l c d,(hp.set j c++l).set b d=(hp.set j c).set b d++l:=fun l c d=>Bg _ _ (by rw[Bl];exact hbl)
        have hl':cs.length=xs2.length * 5:=hl;have q4:List.take (xs2.length * 5) cs=cs:=Bt (by omega);have q6:xs2.length * 5≤cs.length:=by omega
        simp only[Bu,Bz,AH,Cn,kbp,g7,oV,oT,Ae,AA,Ap,q1,s8,g9,s9,q4,q6,Aj,Bx,Bw,B4,seval];have GP:=GL.push (h:=hp) (N:=.own j ver xs2.length) (.inr ⟨j,ver,cs,rfl,hnn,hj0,hj,hl,hrd⟩) (h':=(hp.set j ⟨ver+1,135,cs++[.v (.int .i64 x.kind),T,.v (.string ⟨x.name.toArray⟩),.v (.string ⟨x.var.toArray⟩),V]⟩).set b ⟨0,59,[.v (.string ⟨nm.toArray⟩),P,G,.own j (ver+1) (xs2.length+1)]⟩++[⟨0,135,[.v (.int .i64 x.kind),T,.v (.string ⟨x.name.toArray⟩),.v (.string ⟨x.var.toArray⟩),V]⟩]) (j':=j) (ver':=ver+1) (xs:=cs) (es:=[.v (.int .i64 x.kind),T,.v (.string ⟨x.name.toArray⟩),.v (.string ⟨x.var.toArray⟩),V]) (ecs:=x.cells) (fun j2 ver2 e=>by cases e;exact⟨rfl,hj⟩) (fun e=>by cases e) (by omega) (((Fr.set (S:=fun k=>k<m0∨AZ (.own j ver xs2.length) k) _ (.inr rfl)).trans (Fr.set (S:=fun k=>k<m0∨AZ (.own j ver xs2.length) k) _ (.inl (by omega))) fun k e=>.inl e).trans (Fr.app (S:=BR) _ _) fun k e=>e.elim) ((Ba (by rw[Bl,Bl];exact hjl)).trans ((Bn hjb.symm).trans (Be hjl))) rfl hel;refine⟨by omega,hK ((hp.set j ⟨ver+1,135,cs++[.v (.int .i64 x.kind),T,.v (.string ⟨x.name.toArray⟩),.v (.string ⟨x.var.toArray⟩),V]⟩).set b ⟨0,59,[.v (.string ⟨nm.toArray⟩),P,G,.own j (ver+1) (xs2.length+1)]⟩++[⟨0,135,[.v (.int .i64 x.kind),T,.v (.string ⟨x.name.toArray⟩),.v (.string ⟨x.var.toArray⟩),V]⟩]) _ ⟨rfl,rfl,⟨rfl,rfl,rfl,trivial⟩,rfl⟩ (.own j (ver+1) (xs2.length+1)) ?_ ?_ (by rw[hxe,hxf];exact GP) ?_ ?_ ?_⟩
        ·exact ((rp.fr (Fr.set (S:=AU j) _ rfl) (fun e=>hji e.symm)).fr (Fr.set (S:=AU b) _ rfl) (fun e=>hbi e.symm)).app _
        ·exact (Ba (by rw[Bl,Bl];exact hbl)).trans (Be (by rw[Bl];exact hbl))
        ·exact Fpp.trans (((Fr.set (S:=Io i h.length) _ (.inr (by omega))).trans (Fr.set (S:=Io i h.length) _ (.inr (by omega))) fun k e=>.inl e).trans (Fr.app (S:=BR) _ _) fun k e=>e.elim) fun k e=>.inl e
        ·exact (Ba (by rw[Bl,Bl];omega)).trans ((Bn (by omega)).trans ((Bn hjh).trans krp))
        ·exact (FM5.trans (S1:=AU i) f fun k e=>.inl (.inl (by have e:k=i:=e;omega))).trans (((Fr.set (S:=IM b m0) _ (.inr hj0)).trans (Fr.set (S:=IM b m0) _ (.inl (by omega))) fun k e=>.inl e).trans (Fr.app (S:=BR) _ _) fun k e=>e.elim) fun k e=>.inl e)
variable {γ:List (Nat×AV)}
theorem c68:Ak Tp 68:=⟨_,Tryz.func68,by kernel_rfl,by kernel_rfl⟩
theorem envQ{l:List UInt8}{L:List (AG×Nat)}(h:CX l=some L):Il (Ct L) (L.map Ft):=
 ⟨aF L,Rx h,by have:=Ky h;rw[Bk];omega⟩
def XF(l:List UInt8)(h:List Aa)(o:Out)(h':List Aa):Prop:=match CX l with
 |none=>∃ x:(AG×Nat)×Int,(Ah l).find? EM=some x∧x.2≠0∧o=.ret (.tup [.v (.pointer none),.v (.int .i64 ((x.1.2:Nat):Int)),.v (.int .i64 x.2)])∧h'=h
 |some L=>o=.ret (.tup [.ptr h.length 0 0,.v (.int .i64 0),.v (.int .i64 0)])∧h'=h++[⟨0,123,cQ (Ct L) l.length (0,none)⟩]
theorem Wl(b:Bool)(l:List UInt8)(hl:l.length≤140737488351232)(h:List Aa):Ck Tp γ 68 [.sl b l.length l.length (l.map Am)] h (XF l h):=by
 refine Ck.of Tryz.func68 rfl ?_;simp only[Tryz.f68,Af,seval];refine Ao.pure (Ag.intro c41 rfl (Oa b l hl) ?_);unfold XF;cases e:CX l with
 |none=>
  obtain⟨L,x,hx,hk,hr⟩:=Lj e;have d1:(x.2 != 0)=true:=by simpa using hk
  rw[hr];simp only[d1,Af,seval]
  first|exact⟨x,hx,hk,rfl,rfl⟩|exact⟨x,hx,hk,rfl⟩
 |some L=>
  have z0:((0:Int) != 0)=false:=rfl;have fl:=Pl L;have fo:=Ti L;rw[Lb e];simp only[AH,Cn,z0,fl,fo,Af,seval]
  rfl
theorem Ss:FJ []=.tup [.v (.slice none 0 0),.v (.int .i64 0),.v (.int .i64 0)]:=PO (l:=[]) (toks:=[]) rfl
def rnS(γ:List (Nat×AV)):St:=⟨⟨61,[(0,.v (.slice none 0 0)),(5,.v (.slice none 0 0)),(6,.v (.int .i64 0))],γ⟩,[]⟩
theorem TG:Ev Tp γ 41 [.v (.slice none 0 0)] (FJ []):=by
 refine Ev.ofE Tryz.func41 rfl ?_;rw[Ss];have d0:decide ((32768:Int)<((0:Nat):Int))=false:=by decide
 have d1:decide ((32768:Int)<0)=false:=by decide
 have d2:decide (((0:Nat):Int)<((0:Nat):Int))=false:=by decide
 have d3:decide ((0:Int)<0)=false:=by decide
 simp only[Tryz.f41,AH,Af,seval];refine Cp.intro (fun _:Unit=>rnS γ) (fun _=>True) (fun _=>0) () ⟨rfl,rfl,⟨rfl,rfl,rfl,trivial⟩,rfl⟩ trivial (fun k hk=>?_);simp only[rnS,AH,Af,seval]
theorem Va(h:List Aa):Ck Tp γ 68 [.v (.slice none 0 0)] h (XF [] h):=by
 refine Ck.of Tryz.func68 rfl ?_;simp only[Tryz.f68,Af,seval];refine Ao.pure (Ag.intro c41 rfl TG ?_);rw[Ss];have z0:((0:Int) != 0)=false:=rfl;simp only[AH,Cn,z0,Af,seval];exact⟨rfl,rfl⟩
end Go.Proofs.YtlobiioioicmhaaGreatDoor
