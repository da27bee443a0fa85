/- A part of the proof. -/
import Derived.Test.YtlobiioioicmhaaGreatDoorCQ19
set_option linter.all false
set_option maxHeartbeats 8000000
namespace Go.Proofs.YtlobiioioicmhaaGreatDoor
open _root_.Bool renaming not_true→Bv,not_false→Bf
open _root_.List renaming getElem?_eq_some_iff→Bs,getElem?_append_left→Ba,getElem?_set_self→Be,getElem?_set_ne→Bn,length_set→Bl,length_append→Bp,append_assoc→Bo,cons_append→Bc,nil_append→Bi,getElem?_cons_zero→Bz,getElem?_cons_succ→Bu,set_cons_zero→Bx,set_cons_succ→Bw,getElem?_map→Bm,length_map→Bk,set_append_left→Bg,take_of_length_le→Bt,length_drop→Bd,mem_singleton→Bj,length_nil→BD,mem_cons→BI,getElem?_toArray→BU,set_append_right→BV
open _root_.Nat renaming le_refl→BL,le_trans→BM,zero_le→BN,lt_of_lt_of_le→BO
open Go.Proofs.Tryz renaming prog→Tp
open Go Go.Ev
set_option maxRecDepth 20000
variable {γ:List (Nat×AV)} {ts:List Tk} {L:AV}
theorem c82:Ak Tp 82:=⟨_,Tryz.func82,by kernel_rfl,by kernel_rfl⟩
theorem YA{m:Nat}{h:List Aa}{x:Tg}{a:AV}(r:TP Tg.av m x a h):∃ V,a=.agg [Ae x.name,V]∧Rd (Old m) h (Ml x.types) V:=by
 obtain⟨xs,rfl,k⟩:=LH r;obtain⟨x0,xs,rfl,k0,k⟩:=D9 k;obtain⟨x1,xs,rfl,k1,k⟩:=D9 k;obtain rfl:=MD k;obtain rfl:=rd_val k0;exact⟨x1,rfl,k1⟩
def pF(γ:List (Nat×AV))(i b:Nat)(y:Nat×List Aa):St:=⟨⟨47,[(0,.ptr i 0 0),(2,.ptr b 0 0)],γ⟩,y.2⟩
def dkS(γ:List (Nat×AV))(i b kb:Nat)(y:Nat×List Aa):St:=⟨⟨47,[(0,.ptr i 0 0),(2,.ptr b 0 0),(3,.ptr kb 0 0)],γ⟩,y.2⟩
theorem JE{n0:Nat}{N1 N2:AV}{h:List Aa}{ys xs:List AV}(a:AE (S3 n0 N1 N2) h ys xs):AE (S3 n0 N2 N1) h ys xs:=fun h' f=>a h' (f.mono fun k e=>e.elim .inl fun e=>.inr e.symm)
theorem Yi(E:FC γ L ts){h:List Aa}{i p n:Nat}(hp:p≤ts.length)(hr:RD h i L p n):
  Ck Tp γ 82 [.ptr i 0 0] h (E9 ts n L i h (TP (fun g:Pg=>.agg g.cells) h.length) (E1 ts (ts.length+1) ⟨[],[]⟩ p)):=by
 have hil:=hr.lt;have hn:=E.n;have ll:=E.len;have hbi:h.length≠i:=by omega
 generalize hR:E1 ts (ts.length+1) ⟨[],[]⟩ p=R;refine Ck.ofG Tryz.func82 rfl ?_;simp only[Tryz.f82,AH,B4,seval]
 refine Cp.intro (pF γ i h.length) (fun y=>∃ g N1 N2 f,y.1≤ts.length∧g.tags.length+g.kinds.length≤y.1∧RD y.2 i L y.1 n∧y.2[h.length]?=some ⟨0,71,[N1,N2]⟩∧GP (h.length+1) 137 2 90 2 y.2 N1 g.tags.length (g.tags.flatMap Tg.cells) N2 g.kinds.length (g.kinds.flatMap Kd.cells)∧Fr (Io i h.length) h y.2∧E1 ts f g y.1=R∧ts.length<f+y.1) (fun y=>ts.length+1-y.1) (p,h++[⟨0,71,[.v (.slice none 0 0),.v (.slice none 0 0)]⟩]) ⟨rfl,rfl,⟨rfl,rfl,trivial⟩,rfl⟩
  ⟨⟨[],[]⟩,.v (.slice none 0 0),.v (.slice none 0 0),ts.length+1,hp,BN _,hr.app _,Ap _ _ _,GP.nil,Fr.app _ _,hR,by show ts.length<ts.length+1+p;omega⟩ (fun y hy=>?_)
 clear hR hr hp;obtain⟨p,h4⟩:=y;obtain⟨g,N1,N2,f,hp,hx4,r4,kb4,G4,F4,hR,hf⟩:=hy;simp only at hp hx4 r4 kb4 G4 F4 hR hf;obtain⟨f',rfl⟩:∃ g,f=g+1:=⟨f-1,by omega⟩;rw[E1]at hR;have hF4:=F4.1;have hi4:h4[i]?=_:=r4;have hbl4:=(Bs.1 kb4).1
 by_cases hlt:p<ts.length
 rotate_left
 ·have d1:decide (p<ts.length)=false:=decide_eq_false hlt;rw[if_neg hlt]at hR;rw[←hR];obtain⟨oN1,fN1⟩:=G4.one1;obtain⟨oN2,fN2⟩:=G4.one2;have s5:∀ c,(h4.set h.length c)[h.length]?=some c:=fun c=>Be hbl4
  simp only[pF];refine Cc.pure (Cr.intro (by kernel_rfl) (by kernel_rfl) ?_);simp only[AH,hi4,ll,d1,kb4,s5,oN1,oN2,Aj,B4,A7,seval];have fz:Fr (AU h.length) h4 (h4.set h.length ⟨0,71,[N1,N2]⟩):=Fr.set _ rfl;have rd1:=G4.rd1.up (S':=Old h.length) fz (fun k e _=>by have e:k=h.length:=e;show k<h.length+1;omega) (fun k e _=>by have e:k<h.length:=e;show k<h.length+1;omega);have rd2:=G4.rd2.up (S':=Old h.length) fz (fun k e _=>by have e:k=h.length:=e;show k<h.length+1;omega) (fun k e _=>by have e:k<h.length:=e;show k<h.length+1;omega);exact⟨Io.fin (F4.trans (Fr.set (S:=Io i h.length) _ (.inr (BL _))) fun k e=>.inl e),_,rfl,r4.fr fz (fun e=>hbi (by have e:i=h.length:=e;exact e.symm)),Rd.agg (AE.cons rd1 (AE.cons rd2 AE.nil))⟩
 have d1:decide (p<ts.length)=true:=decide_eq_true hlt;rw[if_pos hlt]at hR;simp only[pF];refine Cc.pure (Cr.intro (by kernel_rfl) (by kernel_rfl) ?_);simp only[AH,hi4,ll,d1,B4,A7,seval];refine KT (w:=Rf) E hp r4 ?_ ?_ (fun hB h5 f5 r5 hp5=>?_) (fun hB h5 f5 r5=>?_)
 ·rfl
 ·rfl
 ·rw[if_pos hB]at hR;have kb5:=f5.at kb4 hbi;have hbl5:=(Bs.1 kb5).1;have F5:=F4.trans (Io.i (n0:=h.length) f5) fun k e=>.inl e
  have G5:=G4.fr f5 (fun k e _=>by have e:k=i:=e;omega);have hF5:=F5.1;generalize hp5e:p+1=p5 at r5 hp5 hR⊢;simp only[B4,seval];refine Cc.via (fun s'=>∃ y:Nat×List Aa,slotW s' (pF γ i h.length y)∧p<y.1∧∃ g N1 N2 f,y.1≤ts.length∧g.tags.length+g.kinds.length≤y.1∧RD y.2 i L y.1 n∧y.2[h.length]?=some ⟨0,71,[N1,N2]⟩∧GP (h.length+1) 137 2 90 2 y.2 N1 g.tags.length (g.tags.flatMap Tg.cells) N2 g.kinds.length (g.kinds.flatMap Kd.cells)∧Fr (Io i h.length) h y.2∧E1 ts f g y.1=R∧ts.length<f+y.1) (fun K hK=>?_) (fun s' hs'=>?_)
  rotate_left
  ·obtain⟨y,hw,hlt,hinv⟩:=hs';simp only[B4,seval];exact AF.intro y hinv hw (by obtain⟨_,_,_,_,h1,_⟩:=hinv;show ts.length+1-y.1<ts.length+1-p;omega)
  refine Cc.orders [[0,1,2,3,4,5,6,7],[0,2,1,3,4,5,6,7],[2,0,1,3,4,5,6,7],[0,2,3,1,4,5,6,7],[2,0,3,1,4,5,6,7],[0,2,3,4,1,5,6,7],[2,0,3,4,1,5,6,7],[2,3,0,1,4,5,6,7],[2,3,0,4,1,5,6,7],[2,3,4,0,1,5,6,7]] (fun _ _ _ h o h'=>E9 ts n L i h (TP Tg.av h.length) (NC ts p5) o h') (Dw _) (by kernel_rfl) (by kernel_rfl) (by kernel_rfl) (fun q hq=>?_);simp only[BI,List.not_mem_nil,or_false]at hq
  rcases hq with rfl|rfl|rfl|rfl|rfl|rfl|rfl|rfl|rfl|rfl
  all_goals simp only[Rz,Gf,CI,BU,Bu,Bz,AH,kb5,B4,seval]
  all_goals refine⟨c137,gC E hp5 r5,fun ra hp hh=>?_,fun v hp hh=>by obtain⟨q,e,eR,f,rfl⟩:=E9.pan hh;rw[eR]at hR;rw[←hR];exact⟨Io.fin (F5.trans (Io.i f) fun k e=>.inl e),rfl⟩⟩
  all_goals obtain⟨x,q,eR,f,rp,hA⟩:=E9.ret hh
  all_goals obtain⟨V,rfl,rV⟩:=YA hA
  all_goals have f:Fr (AU i) h5 hp:=f
  all_goals have adv5:=QC hp5
  all_goals rw[eR]at hR adv5
  all_goals have hR2:E1 ts f' ⟨g.tags++[x],g.kinds⟩ q=R:=hR
  all_goals obtain⟨oV,fV⟩:=Cz rV
  all_goals have kbp:hp[h.length]?=some ⟨0,71,[N1,N2]⟩:=f.at kb5 hbi
  all_goals have hbl:=(Bs.1 kbp).1
  all_goals have hff:=f.1
  all_goals have Gp:=G5.fr f (fun k e _=>by have e:k=i:=e;omega)
  all_goals have hl5:∀ k,S3 (h.length+1) N1 N2 k→k<h5.length:=fun k hk=>hk.elim (fun hk=>by omega) fun hk=>hk.elim (fun hk=>(G5.lt1 hk).2) fun hk=>(G5.lt2 hk).2
  all_goals have g7:∀ l,(hp++l)[h.length]?=some ⟨0,71,[N1,N2]⟩:=fun l=>(Ba hbl).trans kbp
  all_goals have s6:∀ l c,(hp++l).set h.length c=hp.set h.length c++l:=fun l c=>Bg _ _ hbl
  all_goals have hel:AE (S3 (h.length+1) N1 N2) hp x.cells [Ae x.name,V]:=AE.cons (Rd.str _) (AE.cons (rV.up (Fr.refl BR hp) (fun k e=>e.elim) fun k e _=>hl5 k e) AE.nil)
  all_goals have hxe:(g.tags++[x]).length=g.tags.length+1:=by simp
  all_goals have hxf:(g.tags++[x]).flatMap Tg.cells=g.tags.flatMap Tg.cells++x.cells:=by simp
  all_goals have Fpp:=F5.trans (Io.i (n0:=h.length) f) fun k e=>.inl e
  all_goals rcases Gp.at1 with⟨rfl,e0,e1⟩|⟨j,ver,cs,rfl,hnn,hj0,hj,hl,hnb⟩
  all_goals first
   |(have e0':=e0
     simp only[AH,kbp,g7,oV,Ae,Ap,s6,Aj,Bx,Bw,Bi,Bo,Bc,B4,seval];have GQ:=Gp.push1 (h':=hp.set h.length ⟨0,71,[.own (hp.length+1) 0 1,N2]⟩++[⟨0,137,[Ae x.name,V]⟩,⟨0,137,[Ae x.name,V]⟩]) (j':=hp.length+1) (ver':=0) (xs:=[]) (es:=[Ae x.name,V]) (ecs:=x.cells) (fun j ver e=>by cases e) (fun _=>⟨by omega,rfl⟩) (by omega) ((Fr.set _ (.inl (Nat.lt_succ_self _))).trans (Fr.app (S:=BR) _ _) fun k e=>e.elim) (Ce _ _ _ _ _ _) rfl hel;rw[e0]at GQ;refine hK _ ⟨(q,_),⟨rfl,rfl,⟨rfl,rfl,trivial⟩,rfl⟩,by have:=adv5.1;show p<q;omega,⟨g.tags++[x],g.kinds⟩,.own (hp.length+1) 0 1,N2,f',adv5.2,by show (g.tags++[x]).length+g.kinds.length≤q;rw[hxe];have:=adv5.1;omega,?_,?_,by show GP _ _ _ _ _ _ _ (g.tags++[x]).length ((g.tags++[x]).flatMap Tg.cells) _ _ _;rw[hxe,hxf,e0];exact GQ,?_,hR2,by have:=adv5.1;show ts.length<f'+q;omega⟩
     ·exact (Ba (by rw[Bl];exact rp.lt)).trans ((Bn hbi).trans rp)
     ·exact (Ba (by rw[Bl];exact hbl)).trans (Be hbl)
     ·exact Fpp.trans ((Fr.set (S:=Io i h.length) _ (.inr (BL _))).trans (Fr.app (S:=BR) _ _) fun k e=>e.elim) fun k e=>.inl e)
   |(have hjl:=(Bs.1 hj).1
     have hjb:j≠h.length:=by omega
     have hji:j≠i:=by omega
     have q1:∀ l,(hp++l)[j]?=some ⟨ver,137,cs⟩:=fun l=>(Ba hjl).trans hj
     have s8:∀ l c,(hp++l).set j c=hp.set j c++l:=fun l c=>Bg _ _ hjl
     have g9:∀ l c,(hp.set j c++l)[h.length]?=some ⟨0,71,[.own j ver g.tags.length,N2]⟩:=fun l c=>(Ba (by rw[Bl];exact hbl)).trans ((Bn hjb).trans kbp)
     have s9:∀ l c d,(hp.set j c++l).set h.length d=(hp.set j c).set h.length d++l:=fun l c d=>Bg _ _ (by rw[Bl];exact hbl)
     have hl':cs.length=g.tags.length * 2:=hl;have q4:List.take (g.tags.length * 2) cs=cs:=Bt (by omega);have q6:g.tags.length * 2≤cs.length:=by omega
     simp only[AH,kbp,g7,oV,Ae,Ap,q1,s8,g9,s9,q4,q6,Aj,Bx,Bw,B4,seval];have GQ:=Gp.push1 (h':=(hp.set j ⟨ver+1,137,cs++[Ae x.name,V]⟩).set h.length ⟨0,71,[.own j (ver+1) (g.tags.length+1),N2]⟩++[⟨0,137,[Ae x.name,V]⟩]) (j':=j) (ver':=ver+1) (xs:=cs) (es:=[Ae x.name,V]) (ecs:=x.cells) (fun j2 ver2 e=>by cases e;exact⟨rfl,hj⟩) (fun e=>by cases e) (by omega) (((Fr.set (S:=fun k=>k<h.length+1∨AZ (.own j ver g.tags.length) k) _ (.inr rfl)).trans (Fr.set (S:=fun k=>k<h.length+1∨AZ (.own j ver g.tags.length) k) _ (.inl (Nat.lt_succ_self _))) fun k e=>.inl e).trans (Fr.app (S:=BR) _ _) fun k e=>e.elim) ((Ba (by rw[Bl,Bl];exact hjl)).trans ((Bn hjb.symm).trans (Be hjl))) rfl hel;refine⟨by omega,hK _ ⟨(q,_),⟨rfl,rfl,⟨rfl,rfl,trivial⟩,rfl⟩,by have:=adv5.1;show p<q;omega,⟨g.tags++[x],g.kinds⟩,.own j (ver+1) (g.tags.length+1),N2,f',adv5.2,by show (g.tags++[x]).length+g.kinds.length≤q;rw[hxe];have:=adv5.1;omega,?_,?_,by show GP _ _ _ _ _ _ _ (g.tags++[x]).length ((g.tags++[x]).flatMap Tg.cells) _ _ _;rw[hxe,hxf];exact GQ,?_,hR2,by have:=adv5.1;show ts.length<f'+q;omega⟩⟩
     ·exact (Ba (by rw[Bl,Bl];exact rp.lt)).trans ((Bn hbi).trans ((Bn hji).trans rp))
     ·exact (Ba (by rw[Bl,Bl];exact hbl)).trans (Be (by rw[Bl];exact hbl))
     ·exact Fpp.trans (((Fr.set (S:=Io i h.length) _ (.inr (by omega))).trans (Fr.set (S:=Io i h.length) _ (.inr (BL _))) fun k e=>.inl e).trans (Fr.app (S:=BR) _ _) fun k e=>e.elim) fun k e=>.inl e)
 ·rw[if_neg (by rw[hB];decide)]at hR;have kb5:=f5.at kb4 hbi;have F5:=F4.trans (Io.i (n0:=h.length) f5) fun k e=>.inl e
  have G5:=G4.fr f5 (fun k e _=>by have e:k=i:=e;omega);simp only[B4,seval];refine JT (w:=IH) E hp r5 ?_ ?_ (fun e6 h6 f6 r6 hp6=>?_) (fun e6 h6 f6=>?_)
  ·rfl
  ·rfl
  rotate_left
  ·have eK:FK ts p=.bad p 80:=by unfold FK AR;rw[if_neg (by rw[e6];decide)];rfl
   rw[eK]at hR;rw[←hR];exact⟨Io.fin (F5.trans (Io.i f6) fun k e=>.inl e),rfl⟩
  have F6:=F5.trans (Io.i (n0:=h.length) f6) fun k e=>.inl e
  have kb6:=f6.at kb5 hbi;have G6:=G5.fr f6 (fun k e _=>by have e:k=i:=e;omega);simp only[B4,seval];refine PD E hp6 r6 ?_ ?_ (fun nm p7 h7 e7 f7 r7 a7 b7=>?_) (fun q e' h7 e7 f7=>?_)
  ·rfl
  ·rfl
  rotate_left
  ·have eK:FK ts p=.bad q e':=by unfold FK AR;rw[if_pos e6];show (Eg ts (p+1)).bind _=_;rw[e7];rfl
   rw[eK]at hR;rw[←hR];exact⟨Io.fin (F6.trans (Io.i f7) fun k e=>.inl e),rfl⟩
  have F7:=F6.trans (Io.i (n0:=h.length) f7) fun k e=>.inl e
  have kb7:=f7.at kb6 hbi;have G7:=G6.fr f7 (fun k e _=>by have e:k=i:=e;omega);have eK:FK ts p=(AR ts [123] p7).bind fun _ p3=>(D4 ts (ts.length+1) [] p3).bind fun l p4=>.ok ⟨nm,l⟩ p4:=by unfold FK AR;rw[if_pos e6];show (Eg ts (p+1)).bind _=_;rw[e7];rfl
  have hF7:=F7.1;have hil7:=r7.lt;have hbl7:=(Bs.1 kb7).1;simp only[AH,Ap,CV,B4,seval];refine JT (w:=[123]) E b7 (r7.app [⟨0,90,[.v (.string ⟨nm.toArray⟩),.v (.slice none 0 0)]⟩]) ?_ ?_ (fun e8 h8 f8 r8 hp8=>?_) (fun e8 h8 f8=>?_)
  ·rfl
  ·rfl
  rotate_left
  ·have eW:AR ts [123] p7=.bad p7 80:=by unfold AR;rw[if_neg (by rw[e8];decide)]
   rw[eK,eW]at hR;rw[←hR];exact⟨Io.fin (F7.trans (Io.i f8.pre) fun k e=>.inl e),rfl⟩
  have eW:AR ts [123] p7=.ok () (p7+1):=by unfold AR;rw[if_pos e8]
  obtain⟨kb,hkb0⟩:∃ kb,kb=h7.length:=⟨_,rfl⟩;have kk8:h8[kb]?=some ⟨0,90,[Ae nm,.v (.slice none 0 0)]⟩:=by rw[hkb0];exact f8.at (Ap _ _ _) (fun e=>by have e:h7.length=i:=e;omega)
  have hki:kb≠i:=by omega
  have hkb:∀ k,Io i kb k→Io i h.length k∨h.length≤k:=fun k e=>.inl (e.elim .inl fun e=>.inr (by omega))
  have F8:Fr (Io i kb) h7 h8:=Io.i f8.pre;have hgb:∀ {h':List Aa},Fr (Io i kb) h7 h'→h'[h.length]?=some ⟨0,71,[N1,N2]⟩∧GP (h.length+1) 137 2 90 2 h' N1 g.tags.length (g.tags.flatMap Tg.cells) N2 g.kinds.length (g.kinds.flatMap Kd.cells):=fun {h'} f=>⟨f.at kb7 (fun e=>by rcases e with e|e<;>omega),G7.fr f (fun k e hk=>by rcases e with e|e<;>omega)⟩
  have hlk:∀ k,S3 (h.length+1) N1 N2 k→k<kb:=fun k hk=>by
   rcases hk with hk|hk|hk
   ·omega
   ·have:=(G7.lt1 hk).2;omega
   ·have:=(G7.lt2 hk).2;omega
  rw[eK,eW]at hR;have hR:((D4 ts (ts.length+1) [] (p7+1)).bind fun l p4=>DR.ok (⟨nm,l⟩:Kd) p4).bind (fun k q=>E1 ts f' ⟨g.tags,g.kinds++[k]⟩ q)=R:=hR;have adv8:=Kf (ts:=ts) (ts.length+1) [] (p7+1) hp8;generalize hC:D4 ts (ts.length+1) [] (p7+1)=C at hR adv8;rw[←hkb0];simp only[B4,seval]
  refine Cp.intro (dkS γ i h.length kb) (fun y=>∃ xs N f,y.1≤ts.length∧p7≤y.1∧xs.length≤y.1∧RD y.2 i L y.1 n∧y.2[kb]?=some ⟨0,90,[Ae nm,N]⟩∧GL (kb+1) 59 4 y.2 N xs.length (xs.flatMap Ch.cells)∧Fr (Io i kb) h7 y.2∧D4 ts f xs y.1=C∧ts.length<f+y.1) (fun y=>ts.length+1-y.1) (p7+1,h8) ⟨rfl,rfl,⟨rfl,rfl,rfl,trivial⟩,rfl⟩
   ⟨[],.v (.slice none 0 0),ts.length+1,hp8,Nat.le_succ _,BN _,r8,kk8,GL.nil,F8,hC,by show ts.length<ts.length+1+(p7+1);omega⟩ (fun y hy=>?_)
  obtain⟨p10,hp10⟩:∃ q,q=p:=⟨_,rfl⟩;clear hC kk8 r8 f8 F8 eW e8 eK kb4 G4 F4 r4 hi4 kb5 F5 G5 f5 r5 f6 r6 F6 kb6 G6 f7 r7;obtain⟨p,h8'⟩:=y;obtain⟨xs,N,fc,hp8',hpp,hx8,r8,kk8,G8,F8,hC,hfc⟩:=hy;simp only at hp8' hpp hx8 r8 kk8 G8 F8 hC hfc;obtain⟨fc',rfl⟩:∃ g,fc=g+1:=⟨fc-1,by omega⟩;rw[D4]at hC;have hF8:=F8.1;simp only[dkS,B4,seval];refine KT (w:=[125]) E hp8' r8 ?_ ?_ (fun hB h9 f9 r9 hp9=>?_) (fun hB h9 f9 r9=>?_)
  ·rfl
  ·rfl
  ·rw[if_pos hB]at hC;rw[←hC]at hR adv8;have hR2:E1 ts f' ⟨g.tags,g.kinds++[⟨nm,xs⟩]⟩ (p+1)=R:=hR;have kb9:=f9.at kk8 hki;have G9:=G8.fr0 f9 (fun k e=>by have e:k=i:=e;omega);have F9:=F8.trans (Io.i (n0:=kb) f9) fun k e=>.inl e
   obtain⟨kp9,GP9⟩:=hgb F9;obtain⟨oN,fN⟩:=G9.one;have hbl:=(Bs.1 kp9).1;have hF9:=F9.1;have rdk:Rd (Old (kb+1)) h9 (GN xs) N:=G9.rd;have hel:AE (S3 (h.length+1) N1 N2) h9 (Kd.cells ⟨nm,xs⟩) [Ae nm,N]:=AE.cons (Rd.str _) (AE.cons (rdk.up (Fr.refl BR h9) (fun k e=>e.elim) fun k e _=>by have:=hlk k e;show k<kb+1;omega) AE.nil);have g7:∀ l,(h9++l)[h.length]?=some ⟨0,71,[N1,N2]⟩:=fun l=>(Ba hbl).trans kp9
   have s6:∀ l c,(h9++l).set h.length c=h9.set h.length c++l:=fun l c=>Bg _ _ hbl
   have hxe:(g.kinds++[(⟨nm,xs⟩:Kd)]).length=g.kinds.length+1:=by simp
   have hxf:(g.kinds++[(⟨nm,xs⟩:Kd)]).flatMap Kd.cells=g.kinds.flatMap Kd.cells++Kd.cells ⟨nm,xs⟩:=by simp
   have Fpp:Fr (Io i h.length) h h9:=F7.trans F9 hkb
   rcases GP9.swap.at1 with⟨rfl,e0,e1⟩|⟨j,ver,cs,rfl,hnn,hj0,hj,hl,hnb⟩
   ·simp only[AH,kp9,kb9,g7,oN,Ae,Ap,s6,Aj,Bx,Bw,Bi,Bo,Bc,B4,Bv,seval];have GQ:=(GP9.swap.push1 (h':=h9.set h.length ⟨0,71,[N1,.own (h9.length+1) 0 1]⟩++[⟨0,90,[Ae nm,N]⟩,⟨0,90,[Ae nm,N]⟩]) (j':=h9.length+1) (ver':=0) (xs:=[]) (es:=[Ae nm,N]) (ecs:=Kd.cells ⟨nm,xs⟩) (fun j ver e=>by cases e) (fun _=>⟨by omega,rfl⟩) (by omega) ((Fr.set _ (.inl (Nat.lt_succ_self _))).trans (Fr.app (S:=BR) _ _) fun k e=>e.elim) (Ce _ _ _ _ _ _) rfl (JE hel)).swap;rw[e0]at GQ;refine AF.intro (p+1,_) ⟨⟨g.tags,g.kinds++[⟨nm,xs⟩]⟩,N1,.own (h9.length+1) 0 1,f',hp9,by show g.tags.length+(g.kinds++[(⟨nm,xs⟩:Kd)]).length≤p+1;rw[hxe];omega,?_,?_,by show GP _ _ _ _ _ _ _ _ _ _ (g.kinds++[(⟨nm,xs⟩:Kd)]).length ((g.kinds++[(⟨nm,xs⟩:Kd)]).flatMap Kd.cells);rw[hxe,hxf,e0];exact GQ,?_,hR2,by show ts.length<f'+(p+1);omega⟩ ⟨rfl,rfl,⟨rfl,rfl,trivial⟩,rfl⟩ (by show ts.length+1-(p+1)<ts.length+1-_;omega)
    ·exact (Ba (by rw[Bl];exact r9.lt)).trans ((Bn hbi).trans r9)
    ·exact (Ba (by rw[Bl];exact hbl)).trans (Be hbl)
    ·exact Fpp.trans ((Fr.set (S:=Io i h.length) _ (.inr (BL _))).trans (Fr.app (S:=BR) _ _) fun k e=>e.elim) fun k e=>.inl e
   ·have hjl:=(Bs.1 hj).1;have hjb:j≠h.length:=by omega
    have hji:j≠i:=by omega
    have q1:∀ l,(h9++l)[j]?=some ⟨ver,90,cs⟩:=fun l=>(Ba hjl).trans hj
    have s8:∀ l c,(h9++l).set j c=h9.set j c++l:=fun l c=>Bg _ _ hjl
    have g9:∀ l c,(h9.set j c++l)[h.length]?=some ⟨0,71,[N1,.own j ver g.kinds.length]⟩:=fun l c=>(Ba (by rw[Bl];exact hbl)).trans ((Bn hjb).trans kp9)
    have s9:∀ l c d,(h9.set j c++l).set h.length d=(h9.set j c).set h.length d++l:=fun l c d=>Bg _ _ (by rw[Bl];exact hbl)
    have hl':cs.length=g.kinds.length * 2:=hl;have q4:List.take (g.kinds.length * 2) cs=cs:=Bt (by omega);have q6:g.kinds.length * 2≤cs.length:=by omega
    simp only[AH,kp9,kb9,oN,Ae,Ap,q1,s8,g9,s9,q4,q6,Aj,Bx,Bw,B4,Bv,seval];have GQ:=(GP9.swap.push1 (h':=(h9.set j ⟨ver+1,90,cs++[Ae nm,N]⟩).set h.length ⟨0,71,[N1,.own j (ver+1) (g.kinds.length+1)]⟩++[⟨0,90,[Ae nm,N]⟩]) (j':=j) (ver':=ver+1) (xs:=cs) (es:=[Ae nm,N]) (ecs:=Kd.cells ⟨nm,xs⟩) (fun j2 ver2 e=>by cases e;exact⟨rfl,hj⟩) (fun e=>by cases e) (by omega) (((Fr.set (S:=fun k=>k<h.length+1∨AZ (.own j ver g.kinds.length) k) _ (.inr rfl)).trans (Fr.set (S:=fun k=>k<h.length+1∨AZ (.own j ver g.kinds.length) k) _ (.inl (Nat.lt_succ_self _))) fun k e=>.inl e).trans (Fr.app (S:=BR) _ _) fun k e=>e.elim) ((Ba (by rw[Bl,Bl];exact hjl)).trans ((Bn hjb.symm).trans (Be hjl))) rfl (JE hel)).swap;refine⟨by omega,AF.intro (p+1,_) ⟨⟨g.tags,g.kinds++[⟨nm,xs⟩]⟩,N1,.own j (ver+1) (g.kinds.length+1),f',hp9,by show g.tags.length+(g.kinds++[(⟨nm,xs⟩:Kd)]).length≤p+1;rw[hxe];omega,?_,?_,by show GP _ _ _ _ _ _ _ _ _ _ (g.kinds++[(⟨nm,xs⟩:Kd)]).length ((g.kinds++[(⟨nm,xs⟩:Kd)]).flatMap Kd.cells);rw[hxe,hxf];exact GQ,?_,hR2,by show ts.length<f'+(p+1);omega⟩ ⟨rfl,rfl,⟨rfl,rfl,trivial⟩,rfl⟩ (by show ts.length+1-(p+1)<ts.length+1-_;omega)⟩
    ·exact (Ba (by rw[Bl,Bl];exact r9.lt)).trans ((Bn hbi).trans ((Bn hji).trans r9))
    ·exact (Ba (by rw[Bl,Bl];exact hbl)).trans (Be (by rw[Bl];exact hbl))
    ·exact Fpp.trans (((Fr.set (S:=Io i h.length) _ (.inr (by omega))).trans (Fr.set (S:=Io i h.length) _ (.inr (BL _))) fun k e=>.inl e).trans (Fr.app (S:=BR) _ _) fun k e=>e.elim) fun k e=>.inl e
  ·rw[if_neg (by rw[hB];decide)]at hC;have kb9:=f9.at kk8 hki;have G9:=G8.fr0 f9 (fun k e=>by have e:k=i:=e;omega);have F9:=F8.trans (Io.i (n0:=kb) f9) fun k e=>.inl e
   have hp9:=hp8';have hF9:=F9.1;have hkl9:=(Bs.1 kb9).1;simp only[B4,Bf,seval];refine Cc.via (fun s'=>∃ y:Nat×List Aa,slotW s' (dkS γ i h.length kb y)∧p<y.1∧∃ xs N f,y.1≤ts.length∧p7≤y.1∧xs.length≤y.1∧RD y.2 i L y.1 n∧y.2[kb]?=some ⟨0,90,[Ae nm,N]⟩∧GL (kb+1) 59 4 y.2 N xs.length (xs.flatMap Ch.cells)∧Fr (Io i kb) h7 y.2∧D4 ts f xs y.1=C∧ts.length<f+y.1) (fun K hK=>?_) (fun s' hs'=>?_)
   rotate_left
   ·obtain⟨y,hw,hlt,hinv⟩:=hs';simp only[B4];exact AF.intro y hinv hw (by obtain⟨_,_,_,h1,_⟩:=hinv;show ts.length+1-y.1<ts.length+1-p;omega)
   refine Cc.orders [[0,1,2,3,4,5,6,7],[0,2,1,3,4,5,6,7],[2,0,1,3,4,5,6,7],[0,2,3,1,4,5,6,7],[2,0,3,1,4,5,6,7],[0,2,3,4,1,5,6,7],[2,0,3,4,1,5,6,7],[2,3,0,1,4,5,6,7],[2,3,0,4,1,5,6,7],[2,3,4,0,1,5,6,7]] (fun _ _ _ h o h'=>E9 ts n L i h (TP (fun c:Ch=>.agg c.cells) h.length) (FE ts p) o h') (Dw _) (by kernel_rfl) (by kernel_rfl) (by kernel_rfl) (fun q hq=>?_);simp only[BI,List.not_mem_nil,or_false]at hq
   rcases hq with rfl|rfl|rfl|rfl|rfl|rfl|rfl|rfl|rfl|rfl
   all_goals simp only[Rz,Gf,CI,BU,Bu,Bz,AH,kb9,B4,seval]
   all_goals refine⟨c72,XG E hp9 r9,fun ra hp hh=>?_,fun v hp hh=>by obtain⟨q,e,eR,f,rfl⟩:=E9.pan hh;rw[eR]at hC;rw[←hC]at hR;rw[←hR];exact⟨Io.fin ((F7.trans F9 hkb).trans (Io.i f) fun k e=>.inl e),rfl⟩⟩
   all_goals obtain⟨x,q,eR,f,rp,hA⟩:=E9.ret hh
   all_goals obtain⟨_,e0,hcl⟩:=LH hA
   all_goals obtain⟨x1,x2,x3,e1,⟨o1,g1⟩,⟨o2,g2⟩,o3,g3⟩:=Sk hA
   all_goals cases e0
   all_goals cases e1
   all_goals have f:Fr (AU i) h9 hp:=f
   all_goals have adv9:=L8 hp9
   all_goals rw[eR]at hC adv9
   all_goals have hC2:D4 ts fc' (xs++[x]) q=C:=hC
   all_goals have kbp:hp[kb]?=some ⟨0,90,[Ae nm,N]⟩:=f.at kb9 hki
   all_goals have hbl:=(Bs.1 kbp).1
   all_goals have hff:=f.1
   all_goals have Gp:=G9.fr0 f (fun k e=>by have e:k=i:=e;omega)
   all_goals have hl9:∀ k,AZ N k→k<h9.length:=fun k hk=>(G9.lt hk).2
   all_goals have g7:∀ l,(hp++l)[kb]?=some ⟨0,90,[Ae nm,N]⟩:=fun l=>(Ba hbl).trans kbp
   all_goals have s6:∀ l c,(hp++l).set kb c=hp.set kb c++l:=fun l c=>Bg _ _ hbl
   all_goals have hel:AE (fun k=>k<kb+1∨AZ N k) hp x.cells [Ae x.name,x1,x2,x3]:=hcl.up (Fr.refl BR hp) (fun k e=>e.elim) fun k e _=>e.elim (fun e=>by show k<h9.length;omega) fun e=>hl9 k e
   all_goals have hxe:(xs++[x]).length=xs.length+1:=by simp
   all_goals have hxf:(xs++[x]).flatMap Ch.cells=xs.flatMap Ch.cells++x.cells:=by simp
   all_goals have Fpp:=F9.trans (Io.i (n0:=kb) f) fun k e=>.inl e
   all_goals rcases Gp with⟨rfl,e0,e1⟩|⟨j,ver,cs,rfl,hnn,hj0,hj,hl,hrd⟩
   all_goals first
    |(have e0':=e0
      simp only[Bu,Bz,AH,kbp,g7,o1,o2,o3,Ae,Ap,s6,Aj,Bx,Bw,Bi,Bo,Bc,B4,seval];have GQ:=(GL.nil (n0:=kb+1) (t:=59) (sz:=4) (h:=hp)).push (h':=hp.set kb ⟨0,90,[Ae nm,.own (hp.length+1) 0 1]⟩++[⟨0,59,[Ae x.name,x1,x2,x3]⟩,⟨0,59,[Ae x.name,x1,x2,x3]⟩]) (j':=hp.length+1) (ver':=0) (xs:=[]) (es:=[Ae x.name,x1,x2,x3]) (ecs:=x.cells) (fun j ver e=>by cases e) (fun _=>⟨by omega,rfl⟩) (by omega) ((Fr.set _ (.inl (Nat.lt_succ_self _))).trans (Fr.app (S:=BR) _ _) fun k e=>e.elim) (Ce _ _ _ _ _ _) rfl hel;refine hK _ ⟨(q,_),⟨rfl,rfl,⟨rfl,rfl,rfl,trivial⟩,rfl⟩,by have:=adv9.1;show p<q;omega,xs++[x],.own (hp.length+1) 0 1,fc',adv9.2,by have:=adv9.1;show p7≤q;omega,by rw[hxe];have:=adv9.1;show xs.length+1≤q;omega,?_,?_,by rw[hxe,hxf,e0,e1];exact GQ,?_,hC2,by have:=adv9.1;show ts.length<fc'+q;omega⟩
      ·exact (Ba (by rw[Bl];exact rp.lt)).trans ((Bn hki).trans rp)
      ·exact (Ba (by rw[Bl];exact hbl)).trans (Be hbl)
      ·exact Fpp.trans ((Fr.set (S:=Io i kb) _ (.inr (BL _))).trans (Fr.app (S:=BR) _ _) fun k e=>e.elim) fun k e=>.inl e)
    |(have hjl:=(Bs.1 hj).1
      have hjb:j≠kb:=by omega
      have hji:j≠i:=by omega
      have q1:∀ l,(hp++l)[j]?=some ⟨ver,59,cs⟩:=fun l=>(Ba hjl).trans hj
      have s8:∀ l c,(hp++l).set j c=hp.set j c++l:=fun l c=>Bg _ _ hjl
      have g9:∀ l c,(hp.set j c++l)[kb]?=some ⟨0,90,[Ae nm,.own j ver xs.length]⟩:=fun l c=>(Ba (by rw[Bl];exact hbl)).trans ((Bn hjb).trans kbp)
      have s9:∀ l c d,(hp.set j c++l).set kb d=(hp.set j c).set kb d++l:=fun l c d=>Bg _ _ (by rw[Bl];exact hbl)
      have hl':cs.length=xs.length * 4:=hl;have q4:List.take (xs.length * 4) cs=cs:=Bt (by omega);have q6:xs.length * 4≤cs.length:=by omega
      simp only[Bu,Bz,AH,kbp,g7,o1,o2,o3,Ae,Ap,q1,s8,g9,s9,q4,q6,Aj,Bx,Bw,B4,seval];have GQ:=GL.push (h:=hp) (N:=.own j ver xs.length) (.inr ⟨j,ver,cs,rfl,hnn,hj0,hj,hl,hrd⟩) (h':=(hp.set j ⟨ver+1,59,cs++[Ae x.name,x1,x2,x3]⟩).set kb ⟨0,90,[Ae nm,.own j (ver+1) (xs.length+1)]⟩++[⟨0,59,[Ae x.name,x1,x2,x3]⟩]) (j':=j) (ver':=ver+1) (xs:=cs) (es:=[Ae x.name,x1,x2,x3]) (ecs:=x.cells) (fun j2 ver2 e=>by cases e;exact⟨rfl,hj⟩) (fun e=>by cases e) (by omega) (((Fr.set (S:=fun k=>k<kb+1∨AZ (.own j ver xs.length) k) _ (.inr rfl)).trans (Fr.set (S:=fun k=>k<kb+1∨AZ (.own j ver xs.length) k) _ (.inl (Nat.lt_succ_self _))) fun k e=>.inl e).trans (Fr.app (S:=BR) _ _) fun k e=>e.elim) ((Ba (by rw[Bl,Bl];exact hjl)).trans ((Bn hjb.symm).trans (Be hjl))) rfl hel;refine⟨by omega,hK _ ⟨(q,_),⟨rfl,rfl,⟨rfl,rfl,rfl,trivial⟩,rfl⟩,by have:=adv9.1;show p<q;omega,xs++[x],.own j (ver+1) (xs.length+1),fc',adv9.2,by have:=adv9.1;show p7≤q;omega,by rw[hxe];have:=adv9.1;show xs.length+1≤q;omega,?_,?_,by rw[hxe,hxf];exact GQ,?_,hC2,by have:=adv9.1;show ts.length<fc'+q;omega⟩⟩
      ·exact (Ba (by rw[Bl,Bl];exact rp.lt)).trans ((Bn hki).trans ((Bn hji).trans rp))
      ·exact (Ba (by rw[Bl,Bl];exact hbl)).trans (Be (by rw[Bl];exact hbl))
      ·exact Fpp.trans (((Fr.set (S:=Io i kb) _ (.inr (by omega))).trans (Fr.set (S:=Io i kb) _ (.inr (BL _))) fun k e=>.inl e).trans (Fr.app (S:=BR) _ _) fun k e=>e.elim) fun k e=>.inl e)
def UL:Pg:=⟨[],[]⟩
def PH(ts:List Tk):DR Pg:=E1 ts (ts.length+1) UL 0
def D5(l:List UInt8):Pg×Int×Int:=Gb UL PH l
theorem VS{m:Nat}{h:List Aa}{c:Pg}{a:AV}(r:TP (fun c:Pg=>.agg c.cells) m c a h):∃ x1 x2,a=.agg [x1,x2]∧(Cl x1=true∧flat x1=some [x1])∧Cl x2=true∧flat x2=some [x2]:=by
 obtain⟨xs,rfl,k⟩:=LH r;obtain⟨x1,xs,rfl,k1,k⟩:=D9 k;obtain⟨x2,xs,rfl,k2,k⟩:=D9 k;obtain rfl:=MD k;exact⟨x1,x2,rfl,Cz k1,Cz k2⟩
theorem jJ:Ak Tp 136:=⟨_,Tryz.func136,by kernel_rfl,by kernel_rfl⟩
theorem c81:Ak Tp 81:=⟨_,Tryz.func81,by kernel_rfl,by kernel_rfl⟩
theorem RZ{h:List Aa}{a b c:Nat}:aK Tp γ 136 [.ptr a 0 0,.ptr b 0 0,.ptr c 0 0] h none fun h'=>h'=h:=by
 refine aK.of Tryz.func136 rfl rfl ?_;simp only[Vu,Tryz.f136,Jr,Af,A7,seval]
theorem Mm{h:List Aa}{a b c:Nat}{pl e:Int}{x:List AV}{y z:AV}(ha:h[a]?=some ⟨0,71,x⟩)(hb:h[b]?=some ⟨0,3,[y]⟩)(hc:h[c]?=some ⟨0,26,[z]⟩)(hx:x.length=2)(hab:a≠b)(hac:a≠c)(hbc:b≠c):
  aK Tp γ 136 [.ptr a 0 0,.ptr b 0 0,.ptr c 0 0] h (some (H9 pl e)) fun h'=>Fr (fun k=>k=a∨k=b∨k=c) h h'∧h'[a]?=some ⟨0,71,[.v (.slice none 0 0),.v (.slice none 0 0)]⟩∧h'[b]?=some ⟨0,3,[AA pl]⟩∧h'[c]?=some ⟨0,26,[AA e]⟩:=by
 have hal:=(Bs.1 ha).1;have hbl:=(Bs.1 hb).1;have hcl:=(Bs.1 hc).1;have ga:∀ l,(h++l)[a]?=some ⟨0,71,x⟩:=fun l=>(Ba hal).trans ha
 have gb:∀ l,(h++l)[b]?=some ⟨0,3,[y]⟩:=fun l=>(Ba hbl).trans hb
 have gc:∀ l,(h++l)[c]?=some ⟨0,26,[z]⟩:=fun l=>(Ba hcl).trans hc
 have sa:∀ l d,(h++l).set a d=h.set a d++l:=fun l d=>Bg _ _ hal
 have sb:∀ l d k,(h.set a d++l).set b k=(h.set a d).set b k++l:=fun l d k=>Bg _ _ (by rw[Bl];exact hbl)
 have sc:∀ l d k m,((h.set a d).set b k++l).set c m=((h.set a d).set b k).set c m++l:=fun l d k m=>Bg _ _ (by rw[Bl,Bl];exact hcl)
 have gb2:∀ l d,(h.set a d++l)[b]?=some ⟨0,3,[y]⟩:=fun l d=>(Ba (by rw[Bl];exact hbl)).trans ((Bn hab).trans hb)
 have gc2:∀ l d k,((h.set a d).set b k++l)[c]?=some ⟨0,26,[z]⟩:=fun l d k=>(Ba (by rw[Bl,Bl];exact hcl)).trans ((Bn hbc).trans ((Bn hac).trans hc))
 refine aK.of Tryz.func136 rfl rfl ?_;simp only[Vu,H9,AA,AH,Tryz.f136,Ap,CV,Bo,Bc,Bi,Af,A7,seval]
 match x,hx with
 |[x0,x1],_=>
 refine Cr.orders2 [[0,1,2,3,4,5,6,7],[0,1,2,3,5,4,6,7],[0,1,2,3,5,6,4,7],[0,1,2,5,3,4,6,7],[0,1,2,5,3,6,4,7],[0,1,2,5,6,3,4,7],[0,1,3,4,5,2,6,7],[0,1,3,5,2,4,6,7],[0,1,3,5,2,6,4,7],[0,1,5,2,3,4,6,7],[0,1,5,2,3,6,4,7],[0,1,5,2,6,3,4,7],[0,3,4,5,1,2,6,7],[0,3,5,1,2,4,6,7],[0,3,5,1,2,6,4,7],[0,5,1,2,3,4,6,7],[0,5,1,2,3,6,4,7],[0,5,1,2,6,3,4,7]] (by kernel_rfl) (by kernel_rfl) (by kernel_rfl) (fun p hp=>?_);have hl1:∀ d,(h.set a d).length=h.length:=fun d=>Bl
 have hl2:∀ d k,((h.set a d).set b k).length=h.length:=fun d k=>by rw[Bl,Bl]
 have w1:∀ d x l,(h.set a d++x::l)[h.length]?=some x:=fun d x l=>QH _ _ _ _ _
 have w2:∀ d k x l,((h.set a d).set b k++x::l)[h.length]?=some x:=fun d k x l=>by have:=Ap ((h.set a d).set b k) x l;rwa [hl2]at this
 simp only[BI,List.not_mem_nil,or_false]at hp
 rcases hp with rfl|rfl|rfl|rfl|rfl|rfl|rfl|rfl|rfl|rfl|rfl|rfl|rfl|rfl|rfl|rfl|rfl|rfl
 all_goals simp only[CI,BU,Bu,Bz,AH,Ap,B1,ga,gb2,gc2,sa,sb,sc,w1,w2,Aj,Bx,Bw,Jr,Gv,Af,A7,seval]
 all_goals refine⟨(((Fr.set (S:=fun k=>k=a∨k=b∨k=c) _ (.inl rfl)).trans (Fr.set (S:=fun k=>k=a∨k=b∨k=c) _ (.inr (.inl rfl))) fun k e=>.inl e).trans (Fr.set (S:=fun k=>k=a∨k=b∨k=c) _ (.inr (.inr rfl))) fun k e=>.inl e).trans (Fr.app (S:=BR) _ _) fun k e=>e.elim,?_,?_,?_⟩
 all_goals refine (Ba (by simp only[Bl];assumption)).trans ?_
 all_goals first
  |exact (Bn (Ne.symm hac)).trans ((Bn (Ne.symm hab)).trans (Be hal))
  |exact (Bn (Ne.symm hbc)).trans (Be (by simp only[Bl];exact hbl))
  |exact Be (by simp only[Bl];exact hcl)
theorem Vs(hγ:Gl γ)(hγ2:TI γ)(x:AV)(l:List UInt8)(hx:A0 [x]=true)(hsc:Ev Tp γ 58 [x] (G0 l))(hxl:∀ s,CE Tp 37 s x=some (.v (.int .i64 l.length)))(h:List Aa):Ck Tp γ 81 [x,.v (.func (.func 82) #[] #[])] h (RdT (fun c:Pg=>.agg c.cells) (D5 l) h):=by
 have hr:Tryz.f81.results.toList=[.cell 4 71,.cell 5 3,.cell 6 26]:=by kernel_rfl
 have hn:Tryz.f81.ntmps=42:=by kernel_rfl
 refine Ck.ofDK Tryz.func81 rfl (M6.step ?_);simp only[hr,hn,AH,Bo,Bc,Bi,Af,A7,seval];refine M6.step ?_;simp only[hr,Af,seval];refine Ao.pure (Ag.intro c58 hx hsc ?_);have hh59:∀ c,((h++[c,⟨0,3,[.v (.int .i64 0)]⟩,⟨0,26,[.v (.int .i64 0)]⟩]:List Aa))[h.length+2]?=some ⟨0,26,[.v (.int .i64 0)]⟩:=fun c=>by simp
 have at2:∀ (x y z:Aa) l,(h++x::y::z::l)[h.length+2]?=some z:=fun x y z l=>by simp
 have at3:∀ (x y z u:Aa) l,(h++x::y::z::u::l)[h.length+3]?=some u:=fun x y z u l=>by simp
 have st2:∀ (x y z:Aa) l c,(h++x::y::z::l).set (h.length+2) c=h++x::y::c::l:=fun x y z l c=>by
  rw[BV _ _ (by omega),show h.length+2-h.length=2 by omega];rfl
 cases e:CX l with
 |none=>
  obtain⟨x,hx,hk,hr2⟩:=Jz e;have d1:(x.2 != 0)=true:=by simpa using hk
  have hP:D5 l=(UL,((x.1.2:Nat):Int),x.2):=by unfold D5 Gb;rw[e];simp only[hx]
  rw[hr2,hP];simp only[AH,B1,at2,Er,st2,Af,A7,seval];refine M6.step ?_;simp only[hr,AH,at2,d1,Af,seval];refine Cr.orders2 [[0,1,2,3,4,5],[0,1,3,2,4,5],[0,1,3,4,2,5],[0,2,3,1,4,5],[0,3,1,2,4,5],[0,3,1,4,2,5]] (by kernel_rfl) (by kernel_rfl) (by kernel_rfl) (fun p hp=>?_);simp only[BI,List.not_mem_nil,or_false]at hp
  rcases hp with rfl|rfl|rfl|rfl|rfl|rfl
  all_goals simp only[CI,BU,Bu,Bz,AH,Ap,B1,at2,CV,Er,st2,Aj,Bx,Bw,Af,A7,seval]
  all_goals exact⟨Fr.app _ _,_,rfl,Rd.agg (AE.cons (Rd.val _) (AE.cons (Rd.val _) AE.nil))⟩
 |some L=>
  have hE:=envD hγ hγ2 e;have hml:(L.map Ft).length=L.length:=Bk ..;have z0:((0:Int) != 0)=false:=rfl;have fl:=Pl L;have fo:=Ti L;have e0:(#[]:Array Operand).isEmpty=true:=rfl;rw[Jt e];simp only[AH,B1,at2,Er,st2,Af,A7,seval];refine M6.step ?_;simp only[hr,AH,at2,z0,Af,seval];refine M6.step ?_;simp only[hr,AH,hxl,fl,fo,Bo,Bc,Bi,Af,seval];refine M6.defer ?_;simp only[Ni,Qs,e0,hr,Af,seval];have hlen:(h++[(⟨0,71,[.v (.slice none 0 0),.v (.slice none 0 0)]⟩:Aa),⟨0,3,[.v (.int .i64 0)]⟩,⟨0,26,[.v (.int .i64 0)]⟩,⟨0,199,[Ct L,.v (.int .i64 0),.v (.int .i64 (l.length:Int))]⟩]).length=h.length+4:=by simp
  refine V5 (S:=AU (h.length+3)) (L:=Ct L) (i:=h.length+3) (n:=l.length) (A:=TP (fun c:Pg=>.agg c.cells) (h.length+4)) (r:=PH (L.map Ft)) c82 (by have:=Yi (h:=h++[(⟨0,71,[.v (.slice none 0 0),.v (.slice none 0 0)]⟩:Aa),⟨0,3,[.v (.int .i64 0)]⟩,⟨0,26,[.v (.int .i64 0)]⟩,⟨0,199,[Ct L,.v (.int .i64 0),.v (.int .i64 (l.length:Int))]⟩]) (i:=h.length+3) (n:=l.length) (p:=0) hE (BN _) (at3 _ _ _ _ _);rw[hlen]at this;exact this) (fun c q A h1 er f1 r1 hA=>?_) (fun q e' h1 er f1=>?_)
  rotate_left
  ·have hP:D5 l=(UL,IJ (L.map Ft) l.length q,e'):=by unfold D5 Gb;rw[e];simp only[er]
   rw[hP];have ka:=f1.at (k:=h.length) (Ap _ _ _) (fun e=>by have e:h.length=h.length+3:=e;omega);have kb:=f1.at (k:=h.length+1) (B1 _ _ _ _) (fun e=>by have e:h.length+1=h.length+3:=e;omega);have kc:=f1.at (k:=h.length+2) (at2 _ _ _ _) (fun e=>by have e:h.length+2=h.length+3:=e;omega);have F1:Fr BR h h1:=(Fr.app (S:=BR) h _).trans f1 fun k e=>.inr (by have e:k=h.length+3:=e;omega)
   simp only[Na,Af,A7,seval];refine⟨jJ,_,Mm ka kb kc rfl (by omega) (by omega) (by omega),fun h' hh=>?_⟩;obtain⟨F',ka',kb',kc'⟩:=hh;simp only[AH,ka',kb',kc',Af,seval];exact⟨⟨BM F1.1 F'.1,fun k hk hn=>(F'.2 k (BO hk F1.1) fun e=>by rcases e with e|e|e<;>omega).trans (F1.2 k hk fun e=>e)⟩,_,rfl,Rd.agg (AE.cons (Rd.val _) (AE.cons (Rd.val _) AE.nil))⟩
  have adv:=Ns (ts:=L.map Ft) ((L.map Ft).length+1) ⟨[],[]⟩ 0 (BN _);have ka:=f1.at (k:=h.length) (Ap _ _ _) (fun e=>by have e:h.length=h.length+3:=e;omega);have kb:=f1.at (k:=h.length+1) (B1 _ _ _ _) (fun e=>by have e:h.length+1=h.length+3:=e;omega);have kc:=f1.at (k:=h.length+2) (at2 _ _ _ _) (fun e=>by have e:h.length+2=h.length+3:=e;omega);have F1:Fr BR h h1:=(Fr.app (S:=BR) h _).trans f1 fun k e=>.inr (by have e:k=h.length+3:=e;omega)
  obtain⟨x1,x2,rfl,⟨o1,g1⟩,o2,g2⟩:=VS hA;have hal:=(Bs.1 ka).1;have hbl:=(Bs.1 kb).1;have hcl:=(Bs.1 kc).1;have hfa:∀ s,flat (Ae s)=some [Ae s]:=fun s=>rfl
  have hoa:∀ s,Cl (Ae s)=true:=fun s=>rfl
  simp only[AH,ka,o1,o2,Aj,Bx,Bw,Af,seval]
  obtain⟨ka2,kb2,kc2,r2,F2⟩:(h1.set h.length (⟨0,71,[x1,x2]⟩:Aa))[h.length]?=some ⟨0,71,[x1,x2]⟩∧(h1.set h.length (⟨0,71,[x1,x2]⟩:Aa))[h.length+1]?=some ⟨0,3,[.v (.int .i64 0)]⟩∧(h1.set h.length (⟨0,71,[x1,x2]⟩:Aa))[h.length+2]?=some ⟨0,26,[.v (.int .i64 0)]⟩∧RD (h1.set h.length (⟨0,71,[x1,x2]⟩:Aa)) (h.length+3) (Ct L) q l.length∧Fr BR h (h1.set h.length (⟨0,71,[x1,x2]⟩:Aa)):=
   ⟨Be hal,(Bn (by omega)).trans kb,(Bn (by omega)).trans kc,(Bn (by omega)).trans r1,F1.trans (Fr.set (S:=AU h.length) _ rfl) fun k e=>.inr (by have e:k=h.length:=e;omega)⟩
  have hA2:Rd (Old (h.length+4)) h1 (.agg c.cells) (.agg [x1,x2]):=hA;have hA3:=hA2.up (S':=fun k=>k<h.length+3) (Fr.set (S:=AU h.length) (h:=h1) (⟨0,71,[x1,x2]⟩:Aa) rfl) (fun k e _=>by have e:k=h.length:=e;show k<h.length+4;omega) (fun k e _=>by show k<h.length+4;omega);generalize h1.set h.length (⟨0,71,[x1,x2]⟩:Aa)=h2 at ka2 kb2 kc2 r2 F2 hA3⊢;have r2':h2[h.length+3]?=_:=r2;have ll:=YJ h2 L;refine dI ?_
  by_cases hq:q<L.length
  ·have d2:decide (q<L.length)=true:=decide_eq_true hq;have hP:D5 l=(UL,IJ (L.map Ft) l.length q,80):=by unfold D5 Gb;rw[e];simp only[er,if_pos hq]
   rw[hP];simp only[AH,r2',ll,d2,Af,A7,seval];refine Ao.intro c127 _ (EE hE r2 80) (fun r h3 hh=>by cases hh.1) (fun v h3 hh=>?_);obtain⟨eo,rfl⟩:=hh;cases eo;simp only[Na,Af,A7,seval];refine⟨jJ,_,Mm ka2 kb2 kc2 rfl (by omega) (by omega) (by omega),fun h' hh=>?_⟩;obtain⟨F',ka',kb',kc'⟩:=hh;simp only[AH,ka',kb',kc',Af,seval];exact⟨⟨BM F2.1 F'.1,fun k hk hn=>(F'.2 k (BO hk F2.1) fun e=>by rcases e with e|e|e<;>omega).trans (F2.2 k hk fun e=>e)⟩,_,rfl,Rd.agg (AE.cons (Rd.val _) (AE.cons (Rd.val _) AE.nil))⟩
  have d2:decide (q<L.length)=false:=decide_eq_false hq;have hP:D5 l=(c,0,0):=by unfold D5 Gb;rw[e];simp only[er,if_neg hq]
  rw[hP];have hal2:=(Bs.1 ka2).1;have hbl2:=(Bs.1 kb2).1;have hcl2:=(Bs.1 kc2).1;have qb:∀ d,(h2.set h.length d)[h.length+1]?=some ⟨0,3,[.v (.int .i64 0)]⟩:=fun d=>(Bn (by omega)).trans kb2
  have qc:∀ d k,((h2.set h.length d).set (h.length+1) k)[h.length+2]?=some ⟨0,26,[.v (.int .i64 0)]⟩:=fun d k=>(Bn (by omega)).trans ((Bn (by omega)).trans kc2)
  simp only[AH,r2',ll,d2,ka2,qb,qc,o1,o2,Aj,Bx,Bw,Po,Na,Af,A7,seval];have sa:∀ d k m,(((h2.set h.length d).set (h.length+1) k).set (h.length+2) m)[h.length]?=some d:=fun d k m=>(Bn (by omega)).trans ((Bn (by omega)).trans (Be hal2))
  have sb:∀ d k m,(((h2.set h.length d).set (h.length+1) k).set (h.length+2) m)[h.length+1]?=some k:=fun d k m=>(Bn (by omega)).trans (Be (by simp only[Bl];exact hbl2))
  have sc:∀ d k m,(((h2.set h.length d).set (h.length+1) k).set (h.length+2) m)[h.length+2]?=some m:=fun d k m=>Be (by simp only[Bl];exact hcl2)
  refine⟨jJ,_,RZ,fun h' hh=>?_⟩;subst hh;simp only[sa,sb,sc,Af,seval];have FZ:∀ d k m,Fr (fun x=>x=h.length∨x=h.length+1∨x=h.length+2) h2 (((h2.set h.length d).set (h.length+1) k).set (h.length+2) m):=fun d k m=>((Fr.set (S:=fun x=>x=h.length∨x=h.length+1∨x=h.length+2) _ (.inl rfl)).trans (Fr.set (S:=fun x=>x=h.length∨x=h.length+1∨x=h.length+2) _ (.inr (.inl rfl))) fun k e=>.inl e).trans (Fr.set (S:=fun x=>x=h.length∨x=h.length+1∨x=h.length+2) _ (.inr (.inr rfl))) fun k e=>.inl e
  exact⟨F2.trans (FZ _ _ _) fun k e=>.inr (by rcases e with e|e|e<;>omega),_,rfl,hA3.up (FZ _ _ _) (fun k e _=>by rcases e with e|e|e<;>(show k<h.length+3;omega)) (fun k e _=>by have e:k<h.length:=e;show k<h.length+3;omega)⟩
theorem c38:Ak Tp 38:=⟨_,Tryz.func38,by kernel_rfl,by kernel_rfl⟩
def Pg.av(c:Pg):AV:=.agg c.cells
def Kt(l:List UInt8):AV:=.tup [(D5 l).1.av,AA (D5 l).2.1,AA (D5 l).2.2]
theorem X0(hγ:Gl γ)(hγ2:TI γ)(x:AV)(l:List UInt8)(hx:A0 [x]=true)(hsc:Ev Tp γ 58 [x] (G0 l))(hxl:∀ s,CE Tp 37 s x=some (.v (.int .i64 l.length))):Ev Tp γ 38 [x] (Kt l):=by
 refine Ev.ofE Tryz.func38 rfl ?_;simp only[Tryz.f38,AH,Af,seval];refine Ao.intro c81 _ (Vs hγ hγ2 x l hx hsc hxl [⟨0,71,[.v (.slice none 0 0),.v (.slice none 0 0)]⟩]) (fun r h1 hh=>?_) (fun v h1 hh=>by obtain⟨_,A,e,_⟩:=hh;cases e);obtain⟨f1,A,e,rd⟩:=hh;cases e;have k0:h1[0]?=some ⟨0,71,[.v (.slice none 0 0),.v (.slice none 0 0)]⟩:=f1.at rfl fun e=>e
 have hl0:=(Bs.1 k0).1;have rd2:∀ d,Rd BR (h1.set 0 d) (.agg (D5 l).1.cells) A:=fun d=>rd.up (Fr.set (S:=AU 0) d rfl) (fun k e _=>by have e:k=0:=e;subst e;show 0<1;decide) (fun k e _=>e.elim)
 obtain⟨x1,x2,rfl,⟨o1,g1⟩,o2,g2⟩:=VS rd;have q0:∀ d,(h1.set 0 d)[0]?=some d:=fun d=>Be hl0
 simp only[AH,k0,q0,o1,o2,Aj,Bx,Bw,Kt,AA,Af,seval];exact (rd2 _).fz
theorem Xl(hγ:Gl γ)(hγ2:TI γ)(b:Bool)(l:List UInt8)(hl:l.length≤140737488351232):Ev Tp γ 38 [.sl b l.length l.length (l.map Am)] (Kt l):=by
 have e37:Az Tp 37=some 5:=by kernel_rfl
 exact X0 hγ hγ2 _ l rfl (O7 hγ hγ2 b l hl) (fun s=>by simp only[CE,e37];rfl)
variable {γ:List (Nat×AV)}
theorem Mw:Az Tp 78=some 3∧Az Tp 68=some 137∧Az Tp 69=some 90∧Az Tp 88=some 59∧Al Tp 137 0=some (0,9)∧Al Tp 90 0=some (0,9)∧BW Tp 71=some [(0,1),(1,1)]:=
 (by and_intros<;>kernel_rfl)
theorem c83:Ak Tp 83:=⟨_,Tryz.func83,by kernel_rfl,by kernel_rfl⟩
theorem c84:Ak Tp 84:=⟨_,Tryz.func84,by kernel_rfl,by kernel_rfl⟩
theorem c39:Ak Tp 39:=⟨_,Tryz.func39,by kernel_rfl,by kernel_rfl⟩
theorem VY(t e:TypeId)(he:Az Tp t=some e)(s:List Aa)(n:Nat)(cs:List AV):CE Tp t s (IP n cs)=some (.v (.int .i64 n)):=by
 cases n with
 |zero=>simp only[IP,CE,he];rfl
 |succ n=>simp only[IP,CE,he];rfl
theorem MC{n k:Nat}(h:k<n)(cs:List AV):IP n cs=.sl false n n cs:=by
 cases n with
 |zero=>omega
 |succ n=>rfl
theorem VA(n:Nat)(cs:List AV):Cl (IP n cs)=true:=by cases n<;>rfl
def oZ(γ:List (Nat×AV))(c:Tg)(k:Nat):St:=⟨⟨38,[(2,.ptr 0 0 0),(3,.ptr 1 0 0),(5,.v (.int .i64 (k:Int)))],γ⟩,[⟨0,137,c.cells⟩,⟨0,137,c.cells⟩]⟩
theorem gY(c:Tg)(ok:c.types.length≤2000000):Ev Tp γ 83 [c.av,c.av] (.v (.bool true)):=by
 have ll:=fun s=>VY 78 3 Mw.1 s c.types.length (c.types.map AA)
 have fo:=VA c.types.length (c.types.map AA);have z1:(c.name != c.name)=false:=by simp
 have d1:(((c.types.length:Nat):Int) != ((c.types.length:Nat):Int))=false:=by simp
 refine Ev.ofE Tryz.func83 rfl ?_;simp only[Tryz.f83,AH,Mw,Tg.av,Tg.cells,Ml,Ae,fo,ll,d1,Af,A7,Bv,seval];refine Cp.intro (oZ γ c) (fun k=>k≤c.types.length) (fun k=>c.types.length-k) 0 ⟨rfl,rfl,⟨rfl,rfl,rfl,trivial⟩,rfl⟩ (BN _) (fun k hk=>?_)
 by_cases hlt:k<c.types.length
 ·have d2:decide (k<c.types.length)=true:=decide_eq_true hlt;have eS:=MC hlt (c.types.map AA);obtain⟨x,hxk⟩:∃ x,c.types[k]?=some x:=⟨c.types[k],by simp[hlt]⟩;have hc:(c.types.map AA)[k]?=some (.v (.int .i64 x)):=by rw[Bm,hxk];rfl
  have zx:(x != x)=false:=by simp
  have w1:IntKind.i64.wrap ((k:Int)+1)=((k+1:Nat):Int):=(A4 (by omega) (by omega)).trans (by omega);simp only[oZ,AH,Tg.cells,Ml,Ae,ll,d2,Af,seval];refine dI ?_;simp only[AH,Mw,eS,hc,zx,w1,Af,A7,seval];exact⟨hlt,hlt,AF.intro (k+1) hlt ⟨rfl,rfl,⟨rfl,rfl,rfl,trivial⟩,by simp only[oZ,Tg.cells,Ml,Ae,eS]⟩ (by show c.types.length-(k+1)<c.types.length-k;clear w1;omega)⟩
 ·have d2:decide (k<c.types.length)=false:=decide_eq_false hlt;simp only[oZ,AH,Tg.cells,Ml,Ae,ll,d2,Af,seval]
def eH(t:Tg):Prop:=t.types.length≤2000000
def Yp(k:Kd):Prop:=k.chords.length≤2000000∧∀ c∈k.chords,Yy c
def Yd(g:Pg):Prop:=g.tags.length≤2000000∧(∀ t∈g.tags,eH t)∧g.kinds.length≤2000000∧∀ k∈g.kinds,Yp k
def Kd.av(k:Kd):AV:=.agg k.cells
def pG(γ:List (Nat×AV))(c:Kd)(k:Nat):St:=⟨⟨39,[(2,.ptr 0 0 0),(3,.ptr 1 0 0),(5,.v (.int .i64 (k:Int)))],γ⟩,[⟨0,90,c.cells⟩,⟨0,90,c.cells⟩]⟩
theorem jE(x:Ch):A0 [x.av,x.av]=true:=by
 cases h1:x.parts<;>cases h2:x.guard<;>cases h3:x.body<;>simp only[Ch.av,Ch.cells,h1,h2,h3]<;>rfl
theorem Yq(c:Kd)(ok:Yp c):Ev Tp γ 84 [c.av,c.av] (.v (.bool true)):=by
 have ll:=fun s=>VY 88 59 Mw.2.2.2.1 s c.chords.length (c.chords.flatMap Ch.cells)
 have fo:=VA c.chords.length (c.chords.flatMap Ch.cells);have z1:(c.name != c.name)=false:=by simp
 have d1:(((c.chords.length:Nat):Int) != ((c.chords.length:Nat):Int))=false:=by simp
 have hn:=ok.1;refine Ev.ofE Tryz.func84 rfl ?_;simp only[Tryz.f84,AH,Mw,Kd.av,Kd.cells,GN,Ae,fo,ll,d1,Af,A7,Bv,seval];refine Cp.intro (pG γ c) (fun k=>k≤c.chords.length) (fun k=>c.chords.length-k) 0 ⟨rfl,rfl,⟨rfl,rfl,rfl,trivial⟩,rfl⟩ (BN _) (fun k hk=>?_)
 by_cases hlt:k<c.chords.length
 ·have d2:decide (k<c.chords.length)=true:=decide_eq_true hlt;have eS:=MC hlt (c.chords.flatMap Ch.cells);obtain⟨x,hxk⟩:∃ x,c.chords[k]?=some x:=⟨c.chords[k],by simp[hlt]⟩;obtain⟨t4,l4⟩:=GS (f:=Ch.cells) (m:=4) (fun _=>rfl) c.chords k x hxk;have h4l:4≤((c.chords.flatMap Ch.cells).drop (k * 4)).length:=by rw[Bd];omega
  have hce:=XB (γ:=γ) x (ok.2 x (List.mem_of_getElem? hxk));have w1:IntKind.i64.wrap ((k:Int)+1)=((k+1:Nat):Int):=(A4 (by omega) (by omega)).trans (by omega);simp only[pG,AH,Kd.cells,GN,Ae,ll,d2,Af,seval];refine dI ?_;simp only[AH,Mw,eS,t4,h4l,Af,seval];refine⟨hlt,hlt,Ag.intro nJ (jE x) hce ?_⟩;simp only[w1,Af,Bv,seval];exact AF.intro (k+1) hlt ⟨rfl,rfl,⟨rfl,rfl,rfl,trivial⟩,by simp only[pG,Kd.cells,GN,Ae,eS]⟩ (by show c.chords.length-(k+1)<c.chords.length-k;clear w1;omega)
 ·have d2:decide (k<c.chords.length)=false:=decide_eq_false hlt;simp only[pG,AH,Kd.cells,GN,Ae,ll,d2,Af,seval]
def iV(b:Bool)(n:Nat)(cs:List AV):AV:=match n with
 |0=>.v (.slice none 0 0)
 |_+1=>.sl b n n cs
theorem ZF(t e:TypeId)(he:Az Tp t=some e)(b:Bool)(s:List Aa)(n:Nat)(cs:List AV):CE Tp t s (iV b n cs)=some (.v (.int .i64 n)):=by
 cases n with
 |zero=>simp only[iV,CE,he];rfl
 |succ n=>simp only[iV,CE,he];rfl
theorem Vy{n k:Nat}(h:k<n)(b:Bool)(cs:List AV):iV b n cs=.sl b n n cs:=by
 cases n with
 |zero=>omega
 |succ n=>rfl
theorem Yj(b:Bool)(n:Nat)(cs:List AV):Cl (iV b n cs)=true:=by cases n<;>rfl
theorem XA(n:Nat)(cs:List AV):iV false n cs=IP n cs:=by cases n<;>rfl
def Pg.cellsB(b:Bool)(c:Pg):List AV:=[iV b c.tags.length (c.tags.flatMap Tg.cells),iV b c.kinds.length (c.kinds.flatMap Kd.cells)]
def o8(γ:List (Nat×AV))(b:Bool)(c:Pg)(k:Nat):St:=⟨⟨61,[(2,.ptr 0 0 0),(3,.ptr 1 0 0),(5,.v (.int .i64 (k:Int)))],γ⟩,[⟨0,71,c.cells⟩,⟨0,71,c.cellsB b⟩]⟩
def pM(γ:List (Nat×AV))(b:Bool)(c:Pg)(k:Nat):St:=⟨⟨61,[(2,.ptr 0 0 0),(3,.ptr 1 0 0),(6,.v (.int .i64 (k:Int)))],γ⟩,[⟨0,71,c.cells⟩,⟨0,71,c.cellsB b⟩]⟩
theorem lK(x:Tg):A0 [x.av,x.av]=true:=by
 cases h1:x.types<;>simp only[Tg.av,Tg.cells,h1]<;>rfl
theorem jP(x:Kd):A0 [x.av,x.av]=true:=by
 cases h1:x.chords<;>simp only[Kd.av,Kd.cells,h1]<;>rfl
theorem Wt(b:Bool)(c:Pg)(ok:Yd c):Ev Tp γ 39 [c.av,.agg (c.cellsB b)] (.v (.bool true)):=by
 obtain⟨ok1,ok2,ok3,ok4⟩:=ok;have lt:=fun s=>VY 68 137 Mw.2.1 s c.tags.length (c.tags.flatMap Tg.cells)
 have lk:=fun s=>VY 69 90 Mw.2.2.1 s c.kinds.length (c.kinds.flatMap Kd.cells)
 have ltB:=fun s=>ZF 68 137 Mw.2.1 b s c.tags.length (c.tags.flatMap Tg.cells)
 have lkB:=fun s=>ZF 69 90 Mw.2.2.1 b s c.kinds.length (c.kinds.flatMap Kd.cells)
 have ftB:=Yj b c.tags.length (c.tags.flatMap Tg.cells);have fkB:=Yj b c.kinds.length (c.kinds.flatMap Kd.cells);have ft:=VA c.tags.length (c.tags.flatMap Tg.cells);have fk:=VA c.kinds.length (c.kinds.flatMap Kd.cells);have d1:(((c.tags.length:Nat):Int) != ((c.tags.length:Nat):Int))=false:=by simp
 have d2:(((c.kinds.length:Nat):Int) != ((c.kinds.length:Nat):Int))=false:=by simp
 refine Ev.ofE Tryz.func39 rfl ?_;simp only[Tryz.f39,AH,Pg.av,Pg.cells,Pg.cellsB,Hp,EJ,ft,fk,lt,lk,ftB,fkB,ltB,lkB,d1,d2,Af,seval];refine Cp.intro (o8 γ b c) (fun k=>k≤c.tags.length) (fun k=>c.tags.length-k) 0 ⟨rfl,rfl,⟨rfl,rfl,rfl,trivial⟩,rfl⟩ (BN _) (fun k hk=>?_)
 by_cases hlt:k<c.tags.length
 ·have e1:decide (k<c.tags.length)=true:=decide_eq_true hlt;have eS:=MC hlt (c.tags.flatMap Tg.cells);have eB:=Vy hlt b (c.tags.flatMap Tg.cells);obtain⟨x,hxk⟩:∃ x,c.tags[k]?=some x:=⟨c.tags[k],by simp[hlt]⟩;obtain⟨t2,l2⟩:=GS (f:=Tg.cells) (m:=2) (fun _=>rfl) c.tags k x hxk;have h2l:2≤((c.tags.flatMap Tg.cells).drop (k * 2)).length:=by rw[Bd];omega
  have hce:=gY (γ:=γ) x (ok2 x (List.mem_of_getElem? hxk));have w1:IntKind.i64.wrap ((k:Int)+1)=((k+1:Nat):Int):=(A4 (by omega) (by omega)).trans (by omega);simp only[o8,AH,Pg.cells,Pg.cellsB,Hp,EJ,lt,e1,Af,seval];refine dI ?_;simp only[AH,Mw,eS,eB,t2,h2l,Af,seval];refine⟨hlt,hlt,Ag.intro c83 (lK x) hce ?_⟩;simp only[w1,Af,Bv,seval];exact AF.intro (k+1) hlt ⟨rfl,rfl,⟨rfl,rfl,rfl,trivial⟩,by simp only[o8,Pg.cells,Pg.cellsB,Hp,EJ,eS,eB]⟩ (by show c.tags.length-(k+1)<c.tags.length-k;clear w1;omega)
 ·have e1:decide (k<c.tags.length)=false:=decide_eq_false hlt;simp only[o8,AH,Pg.cells,Pg.cellsB,Hp,EJ,lt,e1,Af,seval];refine Cp.intro (pM γ b c) (fun k=>k≤c.kinds.length) (fun k=>c.kinds.length-k) 0 ⟨rfl,rfl,⟨rfl,rfl,rfl,trivial⟩,rfl⟩ (BN _) (fun k hk=>?_)
  by_cases hlt:k<c.kinds.length
  ·have e1:decide (k<c.kinds.length)=true:=decide_eq_true hlt;have eS:=MC hlt (c.kinds.flatMap Kd.cells);have eB:=Vy hlt b (c.kinds.flatMap Kd.cells);obtain⟨x,hxk⟩:∃ x,c.kinds[k]?=some x:=⟨c.kinds[k],by simp[hlt]⟩;obtain⟨t2,l2⟩:=GS (f:=Kd.cells) (m:=2) (fun _=>rfl) c.kinds k x hxk;have h2l:2≤((c.kinds.flatMap Kd.cells).drop (k * 2)).length:=by rw[Bd];omega
   have hce:=Yq (γ:=γ) x (ok4 x (List.mem_of_getElem? hxk));have w1:IntKind.i64.wrap ((k:Int)+1)=((k+1:Nat):Int):=(A4 (by omega) (by omega)).trans (by omega);simp only[pM,AH,Pg.cells,Pg.cellsB,Hp,EJ,lk,e1,Af,seval];refine dI ?_;simp only[AH,Mw,eS,eB,t2,h2l,Af,seval];refine⟨hlt,hlt,Ag.intro c84 (jP x) hce ?_⟩;simp only[w1,Af,Bv,seval];exact AF.intro (k+1) hlt ⟨rfl,rfl,⟨rfl,rfl,rfl,trivial⟩,by simp only[pM,Pg.cells,Pg.cellsB,Hp,EJ,eS,eB]⟩ (by show c.kinds.length-(k+1)<c.kinds.length-k;clear w1;omega)
  ·have e1:decide (k<c.kinds.length)=false:=decide_eq_false hlt;simp only[pM,AH,Pg.cells,Pg.cellsB,Hp,EJ,lk,e1,Af,seval]
theorem Y8(c:Pg)(ok:Yd c):Ev Tp γ 39 [c.av,c.av] (.v (.bool true)):=by
 have:=Wt (γ:=γ) false c ok;simp only[Pg.cellsB,XA]at this;exact this
def X8:Tr→Prop
 |.lf _ _ vk _ vr vt=>vk≠3∧vr<18446744073709551616∧vt.length≤140737488351232
 |.un _ a=>X8 a
 |.bi _ a b=>X8 a∧X8 b
theorem nd0(k a b:Int):Yc ⟨k,a,b,[],0,0,0,[]⟩:=⟨(by decide:(0:Int)≠3),(by decide:0<18446744073709551616),BN _⟩
theorem Qv:jB []:=⟨BN _,fun _ h=>by cases h⟩
theorem jO(t:Tr):∀ n,X8 t→∀ nd∈lay t n,Yc nd:=by
 induction t with
 |lf k nm vk vi vr vt=>intro n h nd hm;simp only[lay,Bj]at hm;subst hm;exact h
 |un k a ih=>
  intro n h nd hm;simp only[lay,List.mem_append,Bj]at hm
  rcases hm with hm|rfl
  ·exact ih n h nd hm
  ·exact nd0 k _ 0
 |bi k a b iha ihb=>
  intro n h nd hm;simp only[lay,List.mem_append,Bj]at hm
  rcases hm with (hm|hm)|rfl
  ·exact iha _ h.1 nd hm
  ·exact ihb _ h.2 nd hm
  ·exact nd0 k _ _
def okMd:Md→Prop
 |.lp _ a=>X8 a
 |_=>True
theorem cK(ts:List Tk)(hts:∀ t∈ts,QF t):∀ (f:Nat) (m:Md) (p:Nat) (t:Tr) (q:Nat),okMd m→pr ts f m p=.ok t q→X8 t:=by
 intro f
 induction f with
 |zero=>intro m p t q _ h;cases m<;>cases h
 |succ f ih=>
  intro m p t q hm h;cases m with
  |bin n=>
   rw[pr]at h
   split at h
   ·exact ih .un _ _ _ trivial h
   ·split at h
    ·cases h
    ·rename_i a q' e;exact ih (.lp n a) _ _ _ (ih (.bin (n+1)) _ _ _ trivial e) h
  |lp n a=>
   rw[pr]at h
   split at h
   ·cases h;exact hm
   ·split at h
    ·cases h
    ·rename_i b q' e;have kb:=ih (.bin (n+1)) _ _ _ trivial e
     split at h
     ·cases h;exact And.intro hm kb
     ·exact ih (.lp n (.bi _ a b)) _ _ _ (And.intro hm kb) h
  |un=>
   rw[pr]at h
   split at h
   ·split at h
    ·cases h
    ·rename_i a q' e;have ka:=ih .un _ _ _ trivial e;cases h;exact ka
   ·exact ih .fs _ _ _ trivial h
  |fs=>
   rw[pr]at h
   split at h
   ·split at h
    ·cases h
    ·rename_i a q' e
     split at h
     ·cases h;exact ih (.bin 1) _ _ _ trivial e
     ·cases h
   ·split at h
    ·cases h
    ·rename_i t' e;have kt:=hts _ (List.mem_of_getElem? e)
     repeat' split at h
     all_goals first
      |(cases h;done)
      |(cases h;exact⟨by decide,by decide,by decide⟩)
      |(cases h;exact⟨(by decide:(2:Int)≠3),kt.2,by decide⟩)
      |(cases h;exact⟨(by decide:(4:Int)≠3),by decide,kt.1⟩)
      |exact ih (.nm _) _ _ _ trivial h
  |nm s=>
   rw[pr]at h
   split at h
   ·cases h;exact⟨by decide,by decide,by decide⟩
   split at h
   ·cases h;exact⟨by decide,by decide,by decide⟩
   split at h
   ·cases h;exact⟨by decide,by decide,by decide⟩
   split at h
   ·cases h
   split at h
   ·cases h
   rename_i a q' e;have ka:=ih (.bin 1) _ _ _ trivial e
   split at h
   ·split at h
    ·cases h
    split at h
    ·cases h
    rename_i b r e2;have kb:=ih (.bin 1) _ _ _ trivial e2
    split at h
    ·cases h;exact⟨ka,kb⟩
    ·cases h
   ·split at h
    ·cases h;exact ka
    ·cases h
def DR.all{α:Type}(P:α→Prop):DR α→Prop
 |.ok x _=>P x
 |.bad _ _=>True
theorem all_bind{α β:Type}{P:α→Prop}{Q:β→Prop}{r:DR α}{f:α→Nat→DR β}(h:r.all P)(hf:∀ x q,P x→(f x q).all Q):(r.bind f).all Q:=by
 cases r with
 |ok x q=>exact hf x q h
 |bad q e=>trivial
theorem CU{α:Type}(r:DR α):r.all fun _=>True:=by cases r<;>trivial
def IB(ts:List Tk):Prop:=ts.length≤32769∧∀ t∈ts,QF t
theorem Lq{ts:List Tk}(h:IB ts)(p:Nat):(FY ts p).all jB:=by
 unfold FY
 split
 ·rename_i hz;show jB (Cu ts p).1;unfold Cu at hz⊢
  split
  ·exact Qv
  ·rename_i hn;rw[if_neg hn]at hz
   split
   ·exact Qv
   ·rename_i t q e
    split
    ·rename_i hk;refine⟨?_,jO t 0 (cK _ (fun t ht=>h.2 t (List.mem_of_mem_take ht)) _ (.bin 1) _ _ _ trivial e)⟩;show (lay t 0).length≤_;rw[B2];unfold Fa at hk
     by_cases h64:64<t.size
     ·rw[if_pos h64]at hk;cases hk
     ·omega
    ·exact Qv
 ·trivial
theorem Tc{α:Type}{P:α→Prop}{ts:List Tk}{I:Nat→DR α}(hI:∀ p,(I p).all P):∀ (f:Nat) (l:List α) (p:Nat),(∀ x∈l,P x)→(GB ts I f l p).all fun r=>r.length≤l.length+f∧∀ x∈r,P x
 |0,l,p,_=>trivial
 |f+1,l,p,hl=>by
  rw[GB]
  split
  ·exact⟨by omega,hl⟩
  split
  ·refine all_bind (hI _) fun x q hx=>?_
   have k:=Tc (ts:=ts) hI f (l++[x]) q (fun y hy=>(List.mem_append.1 hy).elim (hl y) fun hy=>by rw[Bj.1 hy];exact hx);rw[Bp]at k;cases e:GB ts I f (l++[x]) q with
   |ok y z=>rw[e]at k;exact⟨by have:=k.1;simp only[List.length_singleton]at this;omega,k.2⟩
   |bad=>trivial
  ·trivial
theorem Ld{α:Type}{P:α→Prop}{ts:List Tk}{I:Nat→DR α}(h:ts.length≤32769)(hI:∀ p,(I p).all P)(p:Nat):(G2 ts I p).all fun r=>r.length≤2000000∧∀ x∈r,P x:=by
 unfold G2;refine all_bind (CU _) fun _ p1 _=>?_
 split
 ·exact⟨BN _,fun _ h=>by cases h⟩
 ·refine all_bind (hI _) fun x q hx=>?_
  have k:=Tc (ts:=ts) hI (ts.length+1) [x] q (fun y hy=>by rw[Bj.1 hy];exact hx);cases e:GB ts I (ts.length+1) [x] q with
  |ok y z=>rw[e]at k;exact⟨by have:=k.1;simp only[List.length_singleton]at this;omega,k.2⟩
  |bad=>trivial
def jY(p:Pt):Prop:=p.vars.length≤2000000
theorem Tq{ts:List Tk}(h:IB ts)(p:Nat):(Fo ts p).all jY:=by
 unfold Fo;refine all_bind (CU _) fun n p1 _=>?_
 exact all_bind (Ld h.1 (fun p=>CU _) _) fun l p2 hl=>hl.1
theorem fL{ts:List Tk}(h:IB ts)(p:Nat):(E6 ts p).all YQ:=by
 have x0:jB []:=⟨by decide,fun _ h=>by cases h⟩;unfold E6
 split
 ·refine all_bind (Lq h _) fun x p1 hx=>all_bind (CU _) fun n p2 _=>all_bind (Ld h.1 (Lq h) _) fun l p3 hl=>⟨hx,hl⟩
 split
 ·exact all_bind (CU _) fun n p1 _=>all_bind (CU _) fun _ p2 _=>all_bind (CU _) fun v p3 _=>⟨x0,BN _,fun _ h=>by cases h⟩
 split
 ·exact all_bind (Ld h.1 (Lq h) _) fun l p1 hl=>⟨x0,hl⟩
 split
 ·exact all_bind (CU _) fun n p1 _=>⟨x0,BN _,fun _ h=>by cases h⟩
 ·trivial
theorem SC{ts:List Tk}(h:IB ts):∀ (f:Nat) (l:List Ac) (p:Nat),(∀ x∈l,YQ x)→(DI ts f l p).all fun r=>r.length≤l.length+f∧∀ x∈r,YQ x
 |0,l,p,_=>trivial
 |f+1,l,p,hl=>by
  rw[DI]
  split
  ·exact⟨by omega,hl⟩
  ·refine all_bind (fL h _) fun a p1 ha=>all_bind (CU _) fun _ p2 _=>?_
   have k:=SC h f (l++[a]) p2 (fun y hy=>(List.mem_append.1 hy).elim (hl y) fun hy=>by rw[Bj.1 hy];exact ha);rw[Bp]at k;cases e:DI ts f (l++[a]) p2 with
   |ok y z=>rw[e]at k;exact⟨by have:=k.1;simp only[List.length_singleton]at this;omega,k.2⟩
   |bad=>trivial
theorem P8{ts:List Tk}(h:IB ts):∀ (f:Nat) (l:List Pt) (p:Nat),(∀ x∈l,jY x)→(D0 ts f l p).all fun r=>r.length≤l.length+f∧∀ x∈r,jY x
 |0,l,p,_=>trivial
 |f+1,l,p,hl=>by
  rw[D0]
  split
  ·refine all_bind (Tq h _) fun a p1 ha=>?_
   have k:=P8 h f (l++[a]) p1 (fun y hy=>(List.mem_append.1 hy).elim (hl y) fun hy=>by rw[Bj.1 hy];exact ha);rw[Bp]at k;cases e:D0 ts f (l++[a]) p1 with
   |ok y z=>rw[e]at k;exact⟨by have:=k.1;simp only[List.length_singleton]at this;omega,k.2⟩
   |bad=>trivial
  ·exact⟨by omega,hl⟩
theorem WH{ts:List Tk}(h:IB ts)(p:Nat):(D6 ts p).all jB:=by
 unfold D6
 split
 ·exact Lq h _
 ·exact⟨by decide,fun _ h=>by cases h⟩
theorem WS{ts:List Tk}(h:IB ts)(p:Nat):(FE ts p).all Yy:=by
 have hb:=h.1;unfold FE;refine all_bind (CU _) fun _ p1 _=>all_bind (CU _) fun n p2 _=>all_bind (CU _) fun _ p3 _=>all_bind (Tq h _) fun x p4 hx=>?_
 refine all_bind (P8 h _ [x] _ (fun y hy=>by rw[Bj.1 hy];exact hx)) fun l p5 hl=>all_bind (WH h _) fun g p6 hg=>?_
 unfold Eu;refine all_bind (all_bind (CU _) fun _ p7 _=>SC h _ [] _ (fun _ h=>by cases h)) fun b p8 hb2=>?_
 have h1:=hl.1;have h2:=hb2.1;simp only[List.length_singleton,BD]at h1 h2;exact⟨by show l.length≤_;omega,hl.2,hg,by show b.length≤_;omega,hb2.2⟩
theorem YD{α:Type}{P:α→Prop}{z:α}{D:List Tk→DR α}(hz:P z)(hD:∀ ts,IB ts→(D ts).all P)(l:List UInt8):P (Gb z D l).1:=by
 unfold Gb
 split
 ·split<;>exact hz
 ·rename_i L e;have k:=hD (L.map Ft) ⟨by rw[Bk];exact Ky e,Rx e⟩
  split
  ·exact hz
  ·rename_i x q ex;rw[ex]at k
   split
   ·exact hz
   ·exact k
end Go.Proofs.YtlobiioioicmhaaGreatDoor
