/- A part of the proof. -/
import Derived.Test.YtlobiioioicmhaaGreatDoorDQ11
set_option linter.all false
set_option maxHeartbeats 8000000
namespace Go.Proofs.YtlobiioioicmhaaGreatDoor.O
open _root_.Array renaming getElem?_eq_some_iff→BP
open _root_.Bool renaming not_true→Bv,not_false→Bf
open _root_.List renaming getElem?_eq_some_iff→Bs,getElem?_append_left→Ba,getElem?_set_self→Be,getElem?_set_ne→Bn,length_set→Bl,append_assoc→Bo,cons_append→Bc,nil_append→Bi,getElem?_cons_zero→Bz,getElem?_cons_succ→Bu,set_cons_zero→Bx,set_cons_succ→Bw,length_map→Bk,set_append_left→Bg,take_of_length_le→Bt,mem_singleton→Bj,map_cons→BA,getElem_cons_zero→BF,getElem_toArray→BH,mem_cons→BI,getElem?_toArray→BU,set_append_right→BV
open _root_.Nat renaming le_refl→BL,le_trans→BM,zero_le→BN,lt_of_lt_of_le→BO
open Go.Proofs.Tryz renaming prog→Tp
open Go Go.Ev
set_option maxRecDepth 20000
variable {γ:List (Nat×AV)} {ts:List Tk} {L:AV}
theorem rd_tag{m:Nat}{h:List ABlk}{x:Tg}{a:AV}(r:RdA (.g (kT 137)) Tg.av m x a h):∃ V,a=.agg [strC x.name,V]∧Rd (.s 3) (Old m) h (intsA x.types) V:=by
 obtain⟨xs,rfl,k⟩:=rd_agg r;obtain⟨x0,xs,rfl,k0,k⟩:=rdL_cons (k:=.v) (ks:=[.s 3]) k;obtain⟨x1,xs,rfl,k1,k⟩:=rdL_cons (k:=.s 3) (ks:=[]) k;obtain rfl:=rdL_nil k;obtain rfl:=rd_val k0;exact⟨x1,rfl,k1⟩
theorem dprog_ev(E:EnvD γ L ts){h:List ABlk}{i p n:Nat}(hp:p≤ts.length)(hr:RD h i L p n):
  EvM Tp γ 82 [.ptr i 0 0] h (ResD ts n L i h (RdA (.g [.s 137,.s 90]) (fun g:Pg=>.agg g.cells) h.length) (progD ts (ts.length+1) ⟨[],[]⟩ p)):=by
 have hil:=hr.lt;have hn:=E.n;have ll:=E.len;have hbi:h.length≠i:=by omega
 generalize hR:progD ts (ts.length+1) ⟨[],[]⟩ p=R;refine EvM.ofG Tryz.func82 rfl ?_;simp only[Tryz.f82,tyD,evG,Nat.reduceAdd,Nat.reduceSub,Nat.reduceLT]
 refine LoopE.intro (dpS γ i h.length) (fun y=>∃ g N1 N2 f,y.1≤ts.length∧g.tags.length+g.kinds.length≤y.1∧RD y.2 i L y.1 n∧y.2[h.length]?=some ⟨0,71,[N1,N2]⟩∧GP (h.length+1) 137 2 90 2 y.2 N1 g.tags.length (g.tags.flatMap Tg.cells) N2 g.kinds.length (g.kinds.flatMap Kd.cells)∧Fr (Io i h.length) h y.2∧progD ts f g y.1=R∧ts.length<f+y.1) (fun y=>ts.length+1-y.1) (p,h++[⟨0,71,[.v (.slice none 0 0),.v (.slice none 0 0)]⟩]) ⟨rfl,rfl,⟨rfl,rfl,trivial⟩,rfl⟩
  ⟨⟨[],[]⟩,.v (.slice none 0 0),.v (.slice none 0 0),ts.length+1,hp,BN _,hr.app _,at_len _ _ _,GP.nil,Fr.app _ _,hR,by show ts.length<ts.length+1+p;omega⟩ (fun y hy=>?_)
 clear hR hr hp;obtain⟨p,h4⟩:=y;obtain⟨g,N1,N2,f,hp,hx4,r4,kb4,G4,F4,hR,hf⟩:=hy;simp only at hp hx4 r4 kb4 G4 F4 hR hf;obtain⟨f',rfl⟩:∃ g,f=g+1:=⟨f-1,by omega⟩;rw[progD]at hR;have hF4:=F4.1;have hi4:h4[i]?=_:=r4;have hbl4:=(Bs.1 kb4).1
 by_cases hlt:p<ts.length
 rotate_left
 ·have d1:decide (p<ts.length)=false:=decide_eq_false hlt;rw[if_neg hlt]at hR;rw[←hR];obtain⟨oN1,fN1⟩:=G4.one1;obtain⟨oN2,fN2⟩:=G4.one2;have s5:∀ c,(h4.set h.length c)[h.length]?=some c:=fun c=>Be hbl4
  simp only[dpS];refine DrawE.pure (DrawK.intro (by kernel_rfl) (by kernel_rfl) ?_);simp only[tyD,hi4,ll,d1,kb4,s5,oN1,oN2,setMany,evG,tyX,Nat.reduceAdd,Nat.reduceLT,Nat.reduceLeDiff,Nat.reduceEqDiff,reduceCtorEq];have fz:Fr (IsI h.length) h4 (h4.set h.length ⟨0,71,[N1,N2]⟩):=Fr.set _ rfl;have rdp:=G4.rdp.up (S':=Old h.length) fz (fun k e _=>by have e:k=h.length:=e;show k<h.length+1;omega) (fun k e _=>by have e:k<h.length:=e;show k<h.length+1;omega);exact⟨Io.fin (F4.trans (Fr.set (S:=Io i h.length) _ (.inr (BL _))) fun k e=>.inl e),_,rfl,r4.fr fz (fun e=>hbi (by have e:i=h.length:=e;exact e.symm)),Rd.agg rdp⟩
 have d1:decide (p<ts.length)=true:=decide_eq_true hlt;rw[if_pos hlt]at hR;simp only[dpS];refine DrawE.pure (DrawK.intro (by kernel_rfl) (by kernel_rfl) ?_);simp only[tyD,hi4,ll,d1,evG,tyX,Nat.reduceLT,Nat.reduceEqDiff,reduceCtorEq];refine takeE (w:=kTag) E hp r4 ?_ ?_ (fun hB h5 f5 r5 hp5=>?_) (fun hB h5 f5 r5=>?_)
 ·rfl
 ·rfl
 ·rw[if_pos hB]at hR;have kb5:=f5.at kb4 hbi;have hbl5:=(Bs.1 kb5).1;have F5:=F4.trans (Io.i (n0:=h.length) f5) fun k e=>.inl e
  have G5:=G4.fr f5 (fun k e _=>by have e:k=i:=e;omega);have hF5:=F5.1;generalize hp5e:p+1=p5 at r5 hp5 hR⊢;simp only[evG,Nat.reduceLT,Nat.reduceEqDiff,reduceCtorEq];refine DrawE.via (fun s'=>∃ y:Nat×List ABlk,slotW s' (dpS γ i h.length y)∧p<y.1∧∃ g N1 N2 f,y.1≤ts.length∧g.tags.length+g.kinds.length≤y.1∧RD y.2 i L y.1 n∧y.2[h.length]?=some ⟨0,71,[N1,N2]⟩∧GP (h.length+1) 137 2 90 2 y.2 N1 g.tags.length (g.tags.flatMap Tg.cells) N2 g.kinds.length (g.kinds.flatMap Kd.cells)∧Fr (Io i h.length) h y.2∧progD ts f g y.1=R∧ts.length<f+y.1) (fun K hK=>?_) (fun s' hs'=>?_)
  rotate_left
  ·obtain⟨y,hw,hlt,hinv⟩:=hs';simp only[evG,reduceCtorEq];exact loopCE.intro y hinv hw (by obtain⟨_,_,_,_,h1,_⟩:=hinv;show ts.length+1-y.1<ts.length+1-p;omega)
  refine DrawE.orders [[0,1,2,3,4,5,6,7],[0,2,1,3,4,5,6,7],[2,0,1,3,4,5,6,7],[0,2,3,1,4,5,6,7],[2,0,3,1,4,5,6,7],[0,2,3,4,1,5,6,7],[2,0,3,4,1,5,6,7],[2,3,0,1,4,5,6,7],[2,3,0,4,1,5,6,7],[2,3,4,0,1,5,6,7]] (fun _ _ _ h o h'=>ResD ts n L i h (RdA (.g (kT 137)) Tg.av h.length) (tagD ts p5) o h') (panE_ext _) (by kernel_rfl) (by kernel_rfl) (by kernel_rfl) (fun q hq=>?_);simp only[BI,List.not_mem_nil,or_false]at hq
  rcases hq with rfl|rfl|rfl|rfl|rfl|rfl|rfl|rfl|rfl|rfl
  all_goals simp only[evR,rR_bs,seqT,BU,Bu,Bz,tyD,kb5,evG,Nat.reduceAdd,Nat.reduceLT,Nat.reduceLeDiff,Nat.reduceEqDiff,reduceCtorEq,List.reduceReplicate]
  all_goals refine⟨c137,dtag_ev E hp5 r5,fun ra hp hh=>?_,fun v hp hh=>by obtain⟨q,e,eR,f,rfl⟩:=ResD.pan hh;rw[eR]at hR;rw[←hR];exact⟨Io.fin (F5.trans (Io.i f) fun k e=>.inl e),rfl⟩⟩
  all_goals obtain⟨x,q,eR,f,rp,hA⟩:=ResD.ret hh
  all_goals obtain⟨V,rfl,rV⟩:=rd_tag hA
  all_goals have f:Fr (IsI i) h5 hp:=f
  all_goals have adv5:=tag_adv hp5
  all_goals rw[eR]at hR adv5
  all_goals have hR2:progD ts f' ⟨g.tags++[x],g.kinds⟩ q=R:=hR
  all_goals obtain⟨oV,fV⟩:=rd_one rV
  all_goals have kbp:hp[h.length]?=some ⟨0,71,[N1,N2]⟩:=f.at kb5 hbi
  all_goals have hbl:=(Bs.1 kbp).1
  all_goals have hff:=f.1
  all_goals have Gp:=G5.frm f (fun k e _=>by have e:k=i:=e;omega)
  all_goals have hl5:∀ k,S3 (h.length+1) N1 N2 k→k<h5.length:=fun k hk=>hk.elim (fun hk=>by omega) fun hk=>hk.elim (fun hk=>(G5.lt1 hk).2) fun hk=>(G5.lt2 hk).2
  all_goals have g7:∀ l,(hp++l)[h.length]?=some ⟨0,71,[N1,N2]⟩:=fun l=>(Ba hbl).trans kbp
  all_goals have s6:∀ l c,(hp++l).set h.length c=hp.set h.length c++l:=fun l c=>Bg _ _ hbl
  all_goals have hel:RdL (kT 137) (fun k=>k<h5.length) hp x.cells [strC x.name,V]:=RdL.tg rV
  all_goals have hxe:(g.tags++[x]).length=g.tags.length+1:=by simp
  all_goals have hxf:(g.tags++[x]).flatMap Tg.cells=g.tags.flatMap Tg.cells++x.cells:=by simp
  all_goals have Fpp:=F5.trans (Io.i (n0:=h.length) f) fun k e=>.inl e
  all_goals rcases Gp.at1 with⟨rfl,e0,e1⟩|⟨j,ver,cs,rfl,hnn,hj0,hj,hl,hnb⟩
  all_goals first
   |(have e0':=e0
     simp only[tyD,kbp,g7,oV,strC,at_len,s6,setMany,Bx,Bw,Bi,Bo,Bc,evG,Nat.reduceAdd,Nat.reduceLT,Nat.reduceLeDiff,Nat.reduceEqDiff,reduceCtorEq];have GQ:=Gp.push1 (h':=hp.set h.length ⟨0,71,[.own (hp.length+1) 0 1,N2]⟩++[⟨0,137,[strC x.name,V]⟩,⟨0,137,[strC x.name,V]⟩]) (j':=hp.length+1) (ver':=0) (xs:=[]) (es:=[strC x.name,V]) (ecs:=x.cells) (fun j ver e=>by cases e) (fun _=>⟨by omega,rfl⟩) (by omega) (by omega) ((Fr.set _ (.inl (Nat.lt_succ_self _))).trans (Fr.app (S:=NoB) _ _) fun k e=>e.elim) (at_lenS1 _ _ _ _ _ _) rfl hel;rw[e0]at GQ;refine hK _ ⟨(q,_),⟨rfl,rfl,⟨rfl,rfl,trivial⟩,rfl⟩,by have:=adv5.1;show p<q;omega,⟨g.tags++[x],g.kinds⟩,.own (hp.length+1) 0 1,N2,f',adv5.2,by show (g.tags++[x]).length+g.kinds.length≤q;rw[hxe];have:=adv5.1;omega,?_,?_,by show GP _ _ _ _ _ _ _ (g.tags++[x]).length ((g.tags++[x]).flatMap Tg.cells) _ _ _;rw[hxe,hxf,e0];exact GQ,?_,hR2,by have:=adv5.1;show ts.length<f'+q;omega⟩
     ·exact (Ba (by rw[Bl];exact rp.lt)).trans ((Bn hbi).trans rp)
     ·exact (Ba (by rw[Bl];exact hbl)).trans (Be hbl)
     ·exact Fpp.trans ((Fr.set (S:=Io i h.length) _ (.inr (BL _))).trans (Fr.app (S:=NoB) _ _) fun k e=>e.elim) fun k e=>.inl e)
   |(have hjl:=(Bs.1 hj).1
     have hjb:j≠h.length:=by omega
     have hji:j≠i:=by omega
     have q1:∀ l,(hp++l)[j]?=some ⟨ver,137,cs⟩:=fun l=>(Ba hjl).trans hj
     have s8:∀ l c,(hp++l).set j c=hp.set j c++l:=fun l c=>Bg _ _ hjl
     have g9:∀ l c,(hp.set j c++l)[h.length]?=some ⟨0,71,[.own j ver g.tags.length,N2]⟩:=fun l c=>(Ba (by rw[Bl];exact hbl)).trans ((Bn hjb).trans kbp)
     have s9:∀ l c d,(hp.set j c++l).set h.length d=(hp.set j c).set h.length d++l:=fun l c d=>Bg _ _ (by rw[Bl];exact hbl)
     have hl':cs.length=g.tags.length * 2:=hl;have q4:List.take (g.tags.length * 2) cs=cs:=Bt (by omega);have q6:g.tags.length * 2≤cs.length:=by omega
     simp only[tyD,kbp,g7,oV,strC,at_len,q1,s8,g9,s9,q4,q6,setMany,Bx,Bw,evG,Nat.reduceAdd,Nat.reduceLT,Nat.reduceLeDiff,Nat.reduceEqDiff,reduceCtorEq];have GQ:=Gp.push1 (h':=(hp.set j ⟨ver+1,137,cs++[strC x.name,V]⟩).set h.length ⟨0,71,[.own j (ver+1) (g.tags.length+1),N2]⟩++[⟨0,137,[strC x.name,V]⟩]) (j':=j) (ver':=ver+1) (xs:=cs) (es:=[strC x.name,V]) (ecs:=x.cells) (fun j2 ver2 e=>by cases e;exact⟨rfl,hj⟩) (fun e=>by cases e) (by omega) (by omega) (((Fr.set (S:=fun k=>k<h.length+1∨nbk (.own j ver g.tags.length) k) _ (.inr rfl)).trans (Fr.set (S:=fun k=>k<h.length+1∨nbk (.own j ver g.tags.length) k) _ (.inl (Nat.lt_succ_self _))) fun k e=>.inl e).trans (Fr.app (S:=NoB) _ _) fun k e=>e.elim) ((Ba (by rw[Bl,Bl];exact hjl)).trans ((Bn hjb.symm).trans (Be hjl))) rfl hel;refine⟨by omega,hK _ ⟨(q,_),⟨rfl,rfl,⟨rfl,rfl,trivial⟩,rfl⟩,by have:=adv5.1;show p<q;omega,⟨g.tags++[x],g.kinds⟩,.own j (ver+1) (g.tags.length+1),N2,f',adv5.2,by show (g.tags++[x]).length+g.kinds.length≤q;rw[hxe];have:=adv5.1;omega,?_,?_,by show GP _ _ _ _ _ _ _ (g.tags++[x]).length ((g.tags++[x]).flatMap Tg.cells) _ _ _;rw[hxe,hxf];exact GQ,?_,hR2,by have:=adv5.1;show ts.length<f'+q;omega⟩⟩
     ·exact (Ba (by rw[Bl,Bl];exact rp.lt)).trans ((Bn hbi).trans ((Bn hji).trans rp))
     ·exact (Ba (by rw[Bl,Bl];exact hbl)).trans (Be (by rw[Bl];exact hbl))
     ·exact Fpp.trans (((Fr.set (S:=Io i h.length) _ (.inr (by omega))).trans (Fr.set (S:=Io i h.length) _ (.inr (BL _))) fun k e=>.inl e).trans (Fr.app (S:=NoB) _ _) fun k e=>e.elim) fun k e=>.inl e)
 ·rw[if_neg (by rw[hB];decide)]at hR;have kb5:=f5.at kb4 hbi;have F5:=F4.trans (Io.i (n0:=h.length) f5) fun k e=>.inl e
  have G5:=G4.fr f5 (fun k e _=>by have e:k=i:=e;omega);simp only[evG,Nat.reduceLT,Nat.reduceEqDiff,reduceCtorEq];refine wantE (w:=kKind) E hp r5 ?_ ?_ (fun e6 h6 f6 r6 hp6=>?_) (fun e6 h6 f6=>?_)
  ·rfl
  ·rfl
  rotate_left
  ·have eK:kindD2 ts p=.bad p 80:=by unfold kindD2 wantD;rw[if_neg (by rw[e6];decide)];rfl
   rw[eK]at hR;rw[←hR];exact⟨Io.fin (F5.trans (Io.i f6) fun k e=>.inl e),rfl⟩
  have F6:=F5.trans (Io.i (n0:=h.length) f6) fun k e=>.inl e
  have kb6:=f6.at kb5 hbi;have G6:=G5.fr f6 (fun k e _=>by have e:k=i:=e;omega);simp only[evG,Nat.reduceLT,Nat.reduceEqDiff,reduceCtorEq];refine wordE E hp6 r6 ?_ ?_ (fun nm p7 h7 e7 f7 r7 a7 b7=>?_) (fun q e' h7 e7 f7=>?_)
  ·rfl
  ·rfl
  rotate_left
  ·have eK:kindD2 ts p=.bad q e':=by unfold kindD2 wantD;rw[if_pos e6];show (wordD ts (p+1)).bind _=_;rw[e7];rfl
   rw[eK]at hR;rw[←hR];exact⟨Io.fin (F6.trans (Io.i f7) fun k e=>.inl e),rfl⟩
  have F7:=F6.trans (Io.i (n0:=h.length) f7) fun k e=>.inl e
  have kb7:=f7.at kb6 hbi;have G7:=G6.fr f7 (fun k e _=>by have e:k=i:=e;omega);have eK:kindD2 ts p=(wantD ts [123] p7).bind fun _ p3=>(chordsD ts (ts.length+1) [] p3).bind fun l p4=>.ok ⟨nm,l⟩ p4:=by unfold kindD2 wantD;rw[if_pos e6];show (wordD ts (p+1)).bind _=_;rw[e7];rfl
  have hF7:=F7.1;have hil7:=r7.lt;have hbl7:=(Bs.1 kb7).1;simp only[tyD,at_len,set_len,evG,Nat.reduceAdd,Nat.reduceLT,Nat.reduceLeDiff,Nat.reduceEqDiff,reduceCtorEq];refine wantE (w:=[123]) E b7 (r7.app [⟨0,90,[.v (.string ⟨nm.toArray⟩),.v (.slice none 0 0)]⟩]) ?_ ?_ (fun e8 h8 f8 r8 hp8=>?_) (fun e8 h8 f8=>?_)
  ·rfl
  ·rfl
  rotate_left
  ·have eW:wantD ts [123] p7=.bad p7 80:=by unfold wantD;rw[if_neg (by rw[e8];decide)]
   rw[eK,eW]at hR;rw[←hR];exact⟨Io.fin (F7.trans (Io.i f8.pre) fun k e=>.inl e),rfl⟩
  have eW:wantD ts [123] p7=.ok () (p7+1):=by unfold wantD;rw[if_pos e8]
  obtain⟨kb,hkb0⟩:∃ kb,kb=h7.length:=⟨_,rfl⟩;have kk8:h8[kb]?=some ⟨0,90,[strC nm,.v (.slice none 0 0)]⟩:=by rw[hkb0];exact f8.at (at_len _ _ _) (fun e=>by have e:h7.length=i:=e;omega)
  have hki:kb≠i:=by omega
  have hkb:∀ k,Io i kb k→Io i h.length k∨h.length≤k:=fun k e=>.inl (e.elim .inl fun e=>.inr (by omega))
  have F8:Fr (Io i kb) h7 h8:=Io.i f8.pre;have hgb:∀ {h':List ABlk},Fr (Io i kb) h7 h'→h'[h.length]?=some ⟨0,71,[N1,N2]⟩∧GPm kb (h.length+1) 137 2 90 2 h' N1 g.tags.length (g.tags.flatMap Tg.cells) N2 g.kinds.length (g.kinds.flatMap Kd.cells):=fun {h'} f=>⟨f.at kb7 (fun e=>by rcases e with e|e<;>omega),hkb0▸G7.frm f (fun k e hk=>by rcases e with e|e<;>omega)⟩
  have hlk:∀ k,S3 (h.length+1) N1 N2 k→k<kb:=fun k hk=>by
   rcases hk with hk|hk|hk
   ·omega
   ·have:=(G7.lt1 hk).2;omega
   ·have:=(G7.lt2 hk).2;omega
  rw[eK,eW]at hR;have hR:((chordsD ts (ts.length+1) [] (p7+1)).bind fun l p4=>DR.ok (⟨nm,l⟩:Kd) p4).bind (fun k q=>progD ts f' ⟨g.tags,g.kinds++[k]⟩ q)=R:=hR;have adv8:=chords_adv (ts:=ts) (ts.length+1) [] (p7+1) hp8;generalize hC:chordsD ts (ts.length+1) [] (p7+1)=C at hR adv8;rw[←hkb0];simp only[evG,Nat.reduceLT]
  refine LoopE.intro (dkS γ i h.length kb) (fun y=>∃ xs N f,y.1≤ts.length∧p7≤y.1∧xs.length≤y.1∧RD y.2 i L y.1 n∧y.2[kb]?=some ⟨0,90,[strC nm,N]⟩∧GL (kb+1) 59 4 y.2 N xs.length (xs.flatMap Ch.cells)∧Fr (Io i kb) h7 y.2∧chordsD ts f xs y.1=C∧ts.length<f+y.1) (fun y=>ts.length+1-y.1) (p7+1,h8) ⟨rfl,rfl,⟨rfl,rfl,rfl,trivial⟩,rfl⟩
   ⟨[],.v (.slice none 0 0),ts.length+1,hp8,Nat.le_succ _,BN _,r8,kk8,GL.nil,F8,hC,by show ts.length<ts.length+1+(p7+1);omega⟩ (fun y hy=>?_)
  obtain⟨p10,hp10⟩:∃ q,q=p:=⟨_,rfl⟩;clear hC kk8 r8 f8 F8 eW e8 eK kb4 G4 F4 r4 hi4 kb5 F5 G5 f5 r5 f6 r6 F6 kb6 G6 f7 r7;obtain⟨p,h8'⟩:=y;obtain⟨xs,N,fc,hp8',hpp,hx8,r8,kk8,G8,F8,hC,hfc⟩:=hy;simp only at hp8' hpp hx8 r8 kk8 G8 F8 hC hfc;obtain⟨fc',rfl⟩:∃ g,fc=g+1:=⟨fc-1,by omega⟩;rw[chordsD]at hC;have hF8:=F8.1;simp only[dkS,evG,Nat.reduceLT,Nat.reduceEqDiff,reduceCtorEq];refine takeE (w:=[125]) E hp8' r8 ?_ ?_ (fun hB h9 f9 r9 hp9=>?_) (fun hB h9 f9 r9=>?_)
  ·rfl
  ·rfl
  ·rw[if_pos hB]at hC;rw[←hC]at hR adv8;have hR2:progD ts f' ⟨g.tags,g.kinds++[⟨nm,xs⟩]⟩ (p+1)=R:=hR;have kb9:=f9.at kk8 hki;have G9:=G8.fr0 f9 (fun k e=>by have e:k=i:=e;omega);have F9:=F8.trans (Io.i (n0:=kb) f9) fun k e=>.inl e
   obtain⟨kp9,GP9⟩:=hgb F9;obtain⟨oN,fN⟩:=G9.one;have hbl:=(Bs.1 kp9).1;have hF9:=F9.1;have rdk:Rd (.s 59) (Old (kb+1)) h9 (chordsA xs) N:=G9.rd;have hel:RdL (kT 90) (fun k=>k<kb) h9 (Kd.cells ⟨nm,xs⟩) [strC nm,N]:=RdL.kd (x:=⟨nm,xs⟩) (rdk.weak fun k e _=>Nat.lt_succ_of_lt e);have g7:∀ l,(h9++l)[h.length]?=some ⟨0,71,[N1,N2]⟩:=fun l=>(Ba hbl).trans kp9
   have s6:∀ l c,(h9++l).set h.length c=h9.set h.length c++l:=fun l c=>Bg _ _ hbl
   have hxe:(g.kinds++[(⟨nm,xs⟩:Kd)]).length=g.kinds.length+1:=by simp
   have hxf:(g.kinds++[(⟨nm,xs⟩:Kd)]).flatMap Kd.cells=g.kinds.flatMap Kd.cells++Kd.cells ⟨nm,xs⟩:=by simp
   have Fpp:Fr (Io i h.length) h h9:=F7.trans F9 hkb
   rcases GP9.swap.at1 with⟨rfl,e0,e1⟩|⟨j,ver,cs,rfl,hnn,hj0,hj,hl,hnb⟩
   ·simp only[tyD,kp9,kb9,g7,oN,strC,at_len,s6,setMany,Bx,Bw,Bi,Bo,Bc,evG,Bv,Nat.reduceAdd,Nat.reduceLT,Nat.reduceLeDiff,Nat.reduceEqDiff,reduceCtorEq,List.reduceReplicate];have GQ:=(GP9.swap.push1 (h':=h9.set h.length ⟨0,71,[N1,.own (h9.length+1) 0 1]⟩++[⟨0,90,[strC nm,N]⟩,⟨0,90,[strC nm,N]⟩]) (j':=h9.length+1) (ver':=0) (xs:=[]) (es:=[strC nm,N]) (ecs:=Kd.cells ⟨nm,xs⟩) (fun j ver e=>by cases e) (fun _=>⟨by omega,rfl⟩) (by omega) (by omega) ((Fr.set _ (.inl (Nat.lt_succ_self _))).trans (Fr.app (S:=NoB) _ _) fun k e=>e.elim) (at_lenS1 _ _ _ _ _ _) rfl hel).swap;rw[e0]at GQ;refine loopCE.intro (p+1,_) ⟨⟨g.tags,g.kinds++[⟨nm,xs⟩]⟩,N1,.own (h9.length+1) 0 1,f',hp9,by show g.tags.length+(g.kinds++[(⟨nm,xs⟩:Kd)]).length≤p+1;rw[hxe];omega,?_,?_,by show GP _ _ _ _ _ _ _ _ _ _ (g.kinds++[(⟨nm,xs⟩:Kd)]).length ((g.kinds++[(⟨nm,xs⟩:Kd)]).flatMap Kd.cells);rw[hxe,hxf,e0];exact GQ,?_,hR2,by show ts.length<f'+(p+1);omega⟩ ⟨rfl,rfl,⟨rfl,rfl,trivial⟩,rfl⟩ (by show ts.length+1-(p+1)<ts.length+1-_;omega)
    ·exact (Ba (by rw[Bl];exact r9.lt)).trans ((Bn hbi).trans r9)
    ·exact (Ba (by rw[Bl];exact hbl)).trans (Be hbl)
    ·exact Fpp.trans ((Fr.set (S:=Io i h.length) _ (.inr (BL _))).trans (Fr.app (S:=NoB) _ _) fun k e=>e.elim) fun k e=>.inl e
   ·have hjl:=(Bs.1 hj).1;have hjb:j≠h.length:=by omega
    have hji:j≠i:=by omega
    have q1:∀ l,(h9++l)[j]?=some ⟨ver,90,cs⟩:=fun l=>(Ba hjl).trans hj
    have s8:∀ l c,(h9++l).set j c=h9.set j c++l:=fun l c=>Bg _ _ hjl
    have g9:∀ l c,(h9.set j c++l)[h.length]?=some ⟨0,71,[N1,.own j ver g.kinds.length]⟩:=fun l c=>(Ba (by rw[Bl];exact hbl)).trans ((Bn hjb).trans kp9)
    have s9:∀ l c d,(h9.set j c++l).set h.length d=(h9.set j c).set h.length d++l:=fun l c d=>Bg _ _ (by rw[Bl];exact hbl)
    have hl':cs.length=g.kinds.length * 2:=hl;have q4:List.take (g.kinds.length * 2) cs=cs:=Bt (by omega);have q6:g.kinds.length * 2≤cs.length:=by omega
    simp only[tyD,kp9,kb9,oN,strC,at_len,q1,s8,g9,s9,q4,q6,setMany,Bx,Bw,evG,Bv,Nat.reduceAdd,Nat.reduceLT,Nat.reduceLeDiff,Nat.reduceEqDiff,reduceCtorEq,List.reduceReplicate];have GQ:=(GP9.swap.push1 (h':=(h9.set j ⟨ver+1,90,cs++[strC nm,N]⟩).set h.length ⟨0,71,[N1,.own j (ver+1) (g.kinds.length+1)]⟩++[⟨0,90,[strC nm,N]⟩]) (j':=j) (ver':=ver+1) (xs:=cs) (es:=[strC nm,N]) (ecs:=Kd.cells ⟨nm,xs⟩) (fun j2 ver2 e=>by cases e;exact⟨rfl,hj⟩) (fun e=>by cases e) (by omega) (by omega) (((Fr.set (S:=fun k=>k<h.length+1∨nbk (.own j ver g.kinds.length) k) _ (.inr rfl)).trans (Fr.set (S:=fun k=>k<h.length+1∨nbk (.own j ver g.kinds.length) k) _ (.inl (Nat.lt_succ_self _))) fun k e=>.inl e).trans (Fr.app (S:=NoB) _ _) fun k e=>e.elim) ((Ba (by rw[Bl,Bl];exact hjl)).trans ((Bn hjb.symm).trans (Be hjl))) rfl hel).swap;refine⟨by omega,loopCE.intro (p+1,_) ⟨⟨g.tags,g.kinds++[⟨nm,xs⟩]⟩,N1,.own j (ver+1) (g.kinds.length+1),f',hp9,by show g.tags.length+(g.kinds++[(⟨nm,xs⟩:Kd)]).length≤p+1;rw[hxe];omega,?_,?_,by show GP _ _ _ _ _ _ _ _ _ _ (g.kinds++[(⟨nm,xs⟩:Kd)]).length ((g.kinds++[(⟨nm,xs⟩:Kd)]).flatMap Kd.cells);rw[hxe,hxf];exact GQ,?_,hR2,by show ts.length<f'+(p+1);omega⟩ ⟨rfl,rfl,⟨rfl,rfl,trivial⟩,rfl⟩ (by show ts.length+1-(p+1)<ts.length+1-_;omega)⟩
    ·exact (Ba (by rw[Bl,Bl];exact r9.lt)).trans ((Bn hbi).trans ((Bn hji).trans r9))
    ·exact (Ba (by rw[Bl,Bl];exact hbl)).trans (Be (by rw[Bl];exact hbl))
    ·exact Fpp.trans (((Fr.set (S:=Io i h.length) _ (.inr (by omega))).trans (Fr.set (S:=Io i h.length) _ (.inr (BL _))) fun k e=>.inl e).trans (Fr.app (S:=NoB) _ _) fun k e=>e.elim) fun k e=>.inl e
  ·rw[if_neg (by rw[hB];decide)]at hC;have kb9:=f9.at kk8 hki;have G9:=G8.fr0 f9 (fun k e=>by have e:k=i:=e;omega);have F9:=F8.trans (Io.i (n0:=kb) f9) fun k e=>.inl e
   have hp9:=hp8';have hF9:=F9.1;have hkl9:=(Bs.1 kb9).1;simp only[evG,Bf,Nat.reduceLT,Nat.reduceEqDiff,reduceCtorEq];refine DrawE.via (fun s'=>∃ y:Nat×List ABlk,slotW s' (dkS γ i h.length kb y)∧p<y.1∧∃ xs N f,y.1≤ts.length∧p7≤y.1∧xs.length≤y.1∧RD y.2 i L y.1 n∧y.2[kb]?=some ⟨0,90,[strC nm,N]⟩∧GL (kb+1) 59 4 y.2 N xs.length (xs.flatMap Ch.cells)∧Fr (Io i kb) h7 y.2∧chordsD ts f xs y.1=C∧ts.length<f+y.1) (fun K hK=>?_) (fun s' hs'=>?_)
   rotate_left
   ·obtain⟨y,hw,hlt,hinv⟩:=hs';simp only[evG];exact loopCE.intro y hinv hw (by obtain⟨_,_,_,h1,_⟩:=hinv;show ts.length+1-y.1<ts.length+1-p;omega)
   refine DrawE.orders [[0,1,2,3,4,5,6,7],[0,2,1,3,4,5,6,7],[2,0,1,3,4,5,6,7],[0,2,3,1,4,5,6,7],[2,0,3,1,4,5,6,7],[0,2,3,4,1,5,6,7],[2,0,3,4,1,5,6,7],[2,3,0,1,4,5,6,7],[2,3,0,4,1,5,6,7],[2,3,4,0,1,5,6,7]] (fun _ _ _ h o h'=>ResD ts n L i h (RdA (.g (kT 59)) (fun c:Ch=>.agg c.cells) h.length) (chordD ts p) o h') (panE_ext _) (by kernel_rfl) (by kernel_rfl) (by kernel_rfl) (fun q hq=>?_);simp only[BI,List.not_mem_nil,or_false]at hq
   rcases hq with rfl|rfl|rfl|rfl|rfl|rfl|rfl|rfl|rfl|rfl
   all_goals simp only[evR,rR_bs,seqT,BU,Bu,Bz,tyD,kb9,evG,Nat.reduceAdd,Nat.reduceLT,Nat.reduceLeDiff,Nat.reduceEqDiff,reduceCtorEq,List.reduceReplicate]
   all_goals refine⟨c72,dchord_ev E hp9 r9,fun ra hp hh=>?_,fun v hp hh=>by obtain⟨q,e,eR,f,rfl⟩:=ResD.pan hh;rw[eR]at hC;rw[←hC]at hR;rw[←hR];exact⟨Io.fin ((F7.trans F9 hkb).trans (Io.i f) fun k e=>.inl e),rfl⟩⟩
   all_goals obtain⟨x,q,eR,f,rp,hA⟩:=ResD.ret hh
   all_goals obtain⟨_,e0,hcl⟩:=rd_agg hA
   all_goals obtain⟨x1,x2,x3,e1,⟨o1,g1⟩,⟨o2,g2⟩,o3,g3⟩:=rd_chord hA
   all_goals cases e0
   all_goals cases e1
   all_goals have f:Fr (IsI i) h9 hp:=f
   all_goals have adv9:=chord_adv hp9
   all_goals rw[eR]at hC adv9
   all_goals have hC2:chordsD ts fc' (xs++[x]) q=C:=hC
   all_goals have kbp:hp[kb]?=some ⟨0,90,[strC nm,N]⟩:=f.at kb9 hki
   all_goals have hbl:=(Bs.1 kbp).1
   all_goals have hff:=f.1
   all_goals have Gp:=G9.frm0 f (fun k e=>by have e:k=i:=e;omega)
   all_goals have hl9:∀ k,nbk N k→k<h9.length:=fun k hk=>(G9.lt hk).2
   all_goals have g7:∀ l,(hp++l)[kb]?=some ⟨0,90,[strC nm,N]⟩:=fun l=>(Ba hbl).trans kbp
   all_goals have s6:∀ l c,(hp++l).set kb c=hp.set kb c++l:=fun l c=>Bg _ _ hbl
   all_goals have hel:RdL (kT 59) (fun k=>k<h9.length) hp x.cells [strC x.name,x1,x2,x3]:=hcl
   all_goals have hxe:(xs++[x]).length=xs.length+1:=by simp
   all_goals have hxf:(xs++[x]).flatMap Ch.cells=xs.flatMap Ch.cells++x.cells:=by simp
   all_goals have Fpp:=F9.trans (Io.i (n0:=kb) f) fun k e=>.inl e
   all_goals rcases Gp with⟨rfl,e0,e1⟩|⟨j,ver,cs,rfl,hnn,hj0,hj,hl,hrd⟩
   all_goals first
    |(have e0':=e0
      simp only[Bu,Bz,tyD,kbp,g7,o1,o2,o3,strC,at_len,s6,setMany,Bx,Bw,Bi,Bo,Bc,evG,Nat.reduceAdd,Nat.reduceLT,Nat.reduceLeDiff,Nat.reduceEqDiff,reduceCtorEq];have GQ:=(GLm.nil (m:=h9.length) (n0:=kb+1) (t:=59) (sz:=4) (h:=hp)).push (h':=hp.set kb ⟨0,90,[strC nm,.own (hp.length+1) 0 1]⟩++[⟨0,59,[strC x.name,x1,x2,x3]⟩,⟨0,59,[strC x.name,x1,x2,x3]⟩]) (j':=hp.length+1) (ver':=0) (xs:=[]) (es:=[strC x.name,x1,x2,x3]) (ecs:=x.cells) (fun j ver e=>by cases e) (fun _=>⟨by omega,rfl⟩) (by omega) (by omega) ((Fr.set _ (.inl (Nat.lt_succ_self _))).trans (Fr.app (S:=NoB) _ _) fun k e=>e.elim) (at_lenS1 _ _ _ _ _ _) rfl hel;refine hK _ ⟨(q,_),⟨rfl,rfl,⟨rfl,rfl,rfl,trivial⟩,rfl⟩,by have:=adv9.1;show p<q;omega,xs++[x],.own (hp.length+1) 0 1,fc',adv9.2,by have:=adv9.1;show p7≤q;omega,by rw[hxe];have:=adv9.1;show xs.length+1≤q;omega,?_,?_,by rw[hxe,hxf,e0,e1];exact GQ,?_,hC2,by have:=adv9.1;show ts.length<fc'+q;omega⟩
      ·exact (Ba (by rw[Bl];exact rp.lt)).trans ((Bn hki).trans rp)
      ·exact (Ba (by rw[Bl];exact hbl)).trans (Be hbl)
      ·exact Fpp.trans ((Fr.set (S:=Io i kb) _ (.inr (BL _))).trans (Fr.app (S:=NoB) _ _) fun k e=>e.elim) fun k e=>.inl e)
    |(have hjl:=(Bs.1 hj).1
      have hjb:j≠kb:=by omega
      have hji:j≠i:=by omega
      have q1:∀ l,(hp++l)[j]?=some ⟨ver,59,cs⟩:=fun l=>(Ba hjl).trans hj
      have s8:∀ l c,(hp++l).set j c=hp.set j c++l:=fun l c=>Bg _ _ hjl
      have g9:∀ l c,(hp.set j c++l)[kb]?=some ⟨0,90,[strC nm,.own j ver xs.length]⟩:=fun l c=>(Ba (by rw[Bl];exact hbl)).trans ((Bn hjb).trans kbp)
      have s9:∀ l c d,(hp.set j c++l).set kb d=(hp.set j c).set kb d++l:=fun l c d=>Bg _ _ (by rw[Bl];exact hbl)
      have hl':cs.length=xs.length * 4:=hl;have q4:List.take (xs.length * 4) cs=cs:=Bt (by omega);have q6:xs.length * 4≤cs.length:=by omega
      simp only[Bu,Bz,tyD,kbp,g7,o1,o2,o3,strC,at_len,q1,s8,g9,s9,q4,q6,setMany,Bx,Bw,evG,Nat.reduceAdd,Nat.reduceLT,Nat.reduceLeDiff,Nat.reduceEqDiff,reduceCtorEq];have GQ:=GLm.push (m:=h9.length) (h:=hp) (N:=.own j ver xs.length) (.inr ⟨j,ver,cs,rfl,hnn,hj0,hj,hl,hrd⟩) (h':=(hp.set j ⟨ver+1,59,cs++[strC x.name,x1,x2,x3]⟩).set kb ⟨0,90,[strC nm,.own j (ver+1) (xs.length+1)]⟩++[⟨0,59,[strC x.name,x1,x2,x3]⟩]) (j':=j) (ver':=ver+1) (xs:=cs) (es:=[strC x.name,x1,x2,x3]) (ecs:=x.cells) (fun j2 ver2 e=>by cases e;exact⟨rfl,hj⟩) (fun e=>by cases e) (by omega) (by omega) (((Fr.set (S:=fun k=>k<kb+1∨nbk (.own j ver xs.length) k) _ (.inr rfl)).trans (Fr.set (S:=fun k=>k<kb+1∨nbk (.own j ver xs.length) k) _ (.inl (Nat.lt_succ_self _))) fun k e=>.inl e).trans (Fr.app (S:=NoB) _ _) fun k e=>e.elim) ((Ba (by rw[Bl,Bl];exact hjl)).trans ((Bn hjb.symm).trans (Be hjl))) rfl hel;refine⟨by omega,hK _ ⟨(q,_),⟨rfl,rfl,⟨rfl,rfl,rfl,trivial⟩,rfl⟩,by have:=adv9.1;show p<q;omega,xs++[x],.own j (ver+1) (xs.length+1),fc',adv9.2,by have:=adv9.1;show p7≤q;omega,by rw[hxe];have:=adv9.1;show xs.length+1≤q;omega,?_,?_,by rw[hxe,hxf];exact GQ,?_,hC2,by have:=adv9.1;show ts.length<fc'+q;omega⟩⟩
      ·exact (Ba (by rw[Bl,Bl];exact rp.lt)).trans ((Bn hki).trans ((Bn hji).trans rp))
      ·exact (Ba (by rw[Bl,Bl];exact hbl)).trans (Be (by rw[Bl];exact hbl))
      ·exact Fpp.trans (((Fr.set (S:=Io i kb) _ (.inr (by omega))).trans (Fr.set (S:=Io i kb) _ (.inr (BL _))) fun k e=>.inl e).trans (Fr.app (S:=NoB) _ _) fun k e=>e.elim) fun k e=>.inl e)
end Go.Proofs.YtlobiioioicmhaaGreatDoor.O
namespace Go.Proofs.YtlobiioioicmhaaGreatDoor
open _root_.Array renaming getElem?_eq_some_iff→BP
open _root_.Bool renaming not_true→Bv,not_false→Bf
open _root_.List renaming getElem?_eq_some_iff→Bs,getElem?_append_left→Ba,getElem?_set_self→Be,getElem?_set_ne→Bn,length_set→Bl,append_assoc→Bo,cons_append→Bc,nil_append→Bi,getElem?_cons_zero→Bz,getElem?_cons_succ→Bu,set_cons_zero→Bx,set_cons_succ→Bw,length_map→Bk,set_append_left→Bg,take_of_length_le→Bt,mem_singleton→Bj,map_cons→BA,getElem_cons_zero→BF,getElem_toArray→BH,mem_cons→BI,getElem?_toArray→BU,set_append_right→BV
open _root_.Nat renaming le_refl→BL,le_trans→BM,zero_le→BN,lt_of_lt_of_le→BO
open Go.Proofs.Tryz renaming prog→Tp
open Go Go.Ev
def zPg:Pg:=⟨[],[]⟩
def progR(ts:List Tk):DR Pg:=progD ts (ts.length+1) zPg 0
def progO(l:List UInt8):Pg×Int×Int:=readO zPg progR l
set_option maxRecDepth 20000
variable {γ:List (Nat×AV)} {ts:List Tk} {L:AV}
theorem c136:bodyT Tp 136:=⟨_,Tryz.func136,by kernel_rfl,by kernel_rfl⟩
theorem c81:bodyT Tp 81:=⟨_,Tryz.func81,by kernel_rfl,by kernel_rfl⟩
theorem read81_none{h:List ABlk}{a b c:Nat}:EvD Tp γ 136 [.ptr a 0 0,.ptr b 0 0,.ptr c 0 0] h none fun h'=>h'=h:=by
 refine EvD.of Tryz.func136 rfl rfl ?_;simp only[recV,Tryz.f136,endR_normal,evE,tyX,Nat.reduceAdd,Nat.reduceSub,Nat.reduceLT,Nat.reduceEqDiff,reduceCtorEq]
theorem read81_some{h:List ABlk}{a b c:Nat}{pl e:Int}{x:List AV}{y z:AV}(ha:h[a]?=some ⟨0,71,x⟩)(hb:h[b]?=some ⟨0,3,[y]⟩)(hc:h[c]?=some ⟨0,26,[z]⟩)(hx:x.length=2)(hab:a≠b)(hac:a≠c)(hbc:b≠c):
  EvD Tp γ 136 [.ptr a 0 0,.ptr b 0 0,.ptr c 0 0] h (some (stopA pl e)) fun h'=>Fr (fun k=>k=a∨k=b∨k=c) h h'∧h'[a]?=some ⟨0,71,[.v (.slice none 0 0),.v (.slice none 0 0)]⟩∧h'[b]?=some ⟨0,3,[intC pl]⟩∧h'[c]?=some ⟨0,26,[intC e]⟩:=by
 have hal:=(Bs.1 ha).1;have hbl:=(Bs.1 hb).1;have hcl:=(Bs.1 hc).1;have ga:∀ l,(h++l)[a]?=some ⟨0,71,x⟩:=fun l=>(Ba hal).trans ha
 have gb:∀ l,(h++l)[b]?=some ⟨0,3,[y]⟩:=fun l=>(Ba hbl).trans hb
 have gc:∀ l,(h++l)[c]?=some ⟨0,26,[z]⟩:=fun l=>(Ba hcl).trans hc
 have sa:∀ l d,(h++l).set a d=h.set a d++l:=fun l d=>Bg _ _ hal
 have sb:∀ l d k,(h.set a d++l).set b k=(h.set a d).set b k++l:=fun l d k=>Bg _ _ (by rw[Bl];exact hbl)
 have sc:∀ l d k m,((h.set a d).set b k++l).set c m=((h.set a d).set b k).set c m++l:=fun l d k m=>Bg _ _ (by rw[Bl,Bl];exact hcl)
 have gb2:∀ l d,(h.set a d++l)[b]?=some ⟨0,3,[y]⟩:=fun l d=>(Ba (by rw[Bl];exact hbl)).trans ((Bn hab).trans hb)
 have gc2:∀ l d k,((h.set a d).set b k++l)[c]?=some ⟨0,26,[z]⟩:=fun l d k=>(Ba (by rw[Bl,Bl];exact hcl)).trans ((Bn hbc).trans ((Bn hac).trans hc))
 refine EvD.of Tryz.func136 rfl rfl ?_;simp only[recV,stopA,intC,tyD,Tryz.f136,at_len,set_len,Bo,Bc,Bi,evE,tyX,Nat.reduceAdd,Nat.reduceSub,Nat.reduceLT,Nat.reduceLeDiff,Nat.reduceEqDiff,reduceCtorEq]
 match x,hx with
 |[x0,x1],_=>
 refine DrawK.orders2 [[0,1,2,3,4,5,6,7],[0,1,2,3,5,4,6,7],[0,1,2,3,5,6,4,7],[0,1,2,5,3,4,6,7],[0,1,2,5,3,6,4,7],[0,1,2,5,6,3,4,7],[0,1,3,4,5,2,6,7],[0,1,3,5,2,4,6,7],[0,1,3,5,2,6,4,7],[0,1,5,2,3,4,6,7],[0,1,5,2,3,6,4,7],[0,1,5,2,6,3,4,7],[0,3,4,5,1,2,6,7],[0,3,5,1,2,4,6,7],[0,3,5,1,2,6,4,7],[0,5,1,2,3,4,6,7],[0,5,1,2,3,6,4,7],[0,5,1,2,6,3,4,7]] (by kernel_rfl) (by kernel_rfl) (by kernel_rfl) (fun p hp=>?_);have hl1:∀ d,(h.set a d).length=h.length:=fun d=>Bl
 have hl2:∀ d k,((h.set a d).set b k).length=h.length:=fun d k=>by rw[Bl,Bl]
 have w1:∀ d x l,(h.set a d++x::l)[h.length]?=some x:=fun d x l=>at_lenS _ _ _ _ _
 have w2:∀ d k x l,((h.set a d).set b k++x::l)[h.length]?=some x:=fun d k x l=>by have:=at_len ((h.set a d).set b k) x l;rwa [hl2]at this
 simp only[BI,List.not_mem_nil,or_false]at hp
 rcases hp with rfl|rfl|rfl|rfl|rfl|rfl|rfl|rfl|rfl|rfl|rfl|rfl|rfl|rfl|rfl|rfl|rfl|rfl
 all_goals simp only[seqT,BU,Bu,Bz,tyD,at_len,at_len1,ga,gb2,gc2,sa,sb,sc,w1,w2,setMany,Bx,Bw,endR_normal,resS,evE,tyX,Nat.reduceAdd,Nat.reduceLT,Nat.reduceLeDiff,Nat.reduceEqDiff,reduceCtorEq]
 all_goals refine⟨(((Fr.set (S:=fun k=>k=a∨k=b∨k=c) _ (.inl rfl)).trans (Fr.set (S:=fun k=>k=a∨k=b∨k=c) _ (.inr (.inl rfl))) fun k e=>.inl e).trans (Fr.set (S:=fun k=>k=a∨k=b∨k=c) _ (.inr (.inr rfl))) fun k e=>.inl e).trans (Fr.app (S:=NoB) _ _) fun k e=>e.elim,?_,?_,?_⟩
 all_goals refine (Ba (by simp only[Bl];assumption)).trans ?_
 all_goals first
  |exact (Bn (Ne.symm hac)).trans ((Bn (Ne.symm hab)).trans (Be hal))
  |exact (Bn (Ne.symm hbc)).trans (Be (by simp only[Bl];exact hbl))
  |exact Be (by simp only[Bl];exact hcl)
theorem c38:bodyT Tp 38:=⟨_,Tryz.func38,by kernel_rfl,by kernel_rfl⟩
def Pg.av(c:Pg):AV:=.agg c.cells
def progOA(l:List UInt8):AV:=.tup [(progO l).1.av,intC (progO l).2.1,intC (progO l).2.2]
end Go.Proofs.YtlobiioioicmhaaGreatDoor
namespace Go.Proofs.YtlobiioioicmhaaGreatDoor.O
open _root_.Array renaming getElem?_eq_some_iff→BP
open _root_.Bool renaming not_true→Bv,not_false→Bf
open _root_.List renaming getElem?_eq_some_iff→Bs,getElem?_append_left→Ba,getElem?_set_self→Be,getElem?_set_ne→Bn,length_set→Bl,append_assoc→Bo,cons_append→Bc,nil_append→Bi,getElem?_cons_zero→Bz,getElem?_cons_succ→Bu,set_cons_zero→Bx,set_cons_succ→Bw,length_map→Bk,set_append_left→Bg,take_of_length_le→Bt,mem_singleton→Bj,map_cons→BA,getElem_cons_zero→BF,getElem_toArray→BH,mem_cons→BI,getElem?_toArray→BU,set_append_right→BV
open _root_.Nat renaming le_refl→BL,le_trans→BM,zero_le→BN,lt_of_lt_of_le→BO
open Go.Proofs.Tryz renaming prog→Tp
open Go Go.Ev
set_option maxRecDepth 20000
variable {γ:List (Nat×AV)} {ts:List Tk} {L:AV}
theorem rd_zPg{m:Nat}{h:List ABlk}:Rd (.g [.s 137,.s 90]) (Old m) h (.agg (Pg.cells ⟨[],[]⟩)) (.agg [.v (.slice none 0 0),.v (.slice none 0 0)]):=
 Rd.agg (RdL.c2 (S1:=fun _=>True) (S2:=Old m) Rd.none (RdL.c1 Rd.none) (fun _ _=>.inl trivial) (fun _ _ _=>trivial) (fun _ e _=>e))
theorem rd_prog{m:Nat}{h:List ABlk}{c:Pg}{a:AV}(r:RdA (.g [.s 137,.s 90]) (fun c:Pg=>.agg c.cells) m c a h):∃ x1 x2,a=.agg [x1,x2]∧(oneA x1=true∧flat x1=some [x1])∧oneA x2=true∧flat x2=some [x2]:=by
 obtain⟨xs,rfl,k⟩:=rd_agg r;obtain⟨x1,xs,rfl,k1,k⟩:=rdL_cons k;obtain⟨x2,xs,rfl,k2,k⟩:=rdL_cons k;obtain rfl:=rdL_nil k;exact⟨x1,x2,rfl,rd_one k1,rd_one k2⟩
theorem dread81_ev(hγ:Gl γ)(hγ2:GlW γ)(x:AV)(l:List UInt8)(h:List ABlk)(hsc:∀ (l1:List ABlk) (s:Slots) (d:Option Tmp) (K:St→Prop),s.g=γ→K (pt ⟨s,h++l1⟩ d (scanA l))→CallK Tp 58 [x] d K ⟨s,h++l1⟩)(hxl:∀ l1:List ABlk,lenS Tp 37 (h++l1) x=some (.v (.int .i64 l.length))):EvM Tp γ 81 [x,.v (.func (.func 82) #[] #[])] h (RdT (.g [.s 137,.s 90]) (fun c:Pg=>.agg c.cells) (progO l) h):=by
 have hr:Tryz.f81.results.toList=[.cell 4 71,.cell 5 3,.cell 6 26]:=by kernel_rfl
 have hn:Tryz.f81.ntmps=42:=by kernel_rfl
 refine EvM.ofDK Tryz.func81 rfl (DefK.step ?_);simp only[hr,hn,tyD,Bo,Bc,Bi,evE,tyX,Nat.reduceAdd,Nat.reduceSub,Nat.reduceLT];refine DefK.step ?_;simp only[hr,evE,Nat.reduceLT,Nat.reduceEqDiff,reduceCtorEq];refine CallE.pure (hsc _ _ _ _ rfl ?_);have hh59:∀ c,((h++[c,⟨0,3,[.v (.int .i64 0)]⟩,⟨0,26,[.v (.int .i64 0)]⟩]:List ABlk))[h.length+2]?=some ⟨0,26,[.v (.int .i64 0)]⟩:=fun c=>by simp
 have at2:∀ (x y z:ABlk) l,(h++x::y::z::l)[h.length+2]?=some z:=fun x y z l=>by simp
 have at3:∀ (x y z u:ABlk) l,(h++x::y::z::u::l)[h.length+3]?=some u:=fun x y z u l=>by simp
 have st2:∀ (x y z:ABlk) l c,(h++x::y::z::l).set (h.length+2) c=h++x::y::c::l:=fun x y z l c=>by
  rw[BV _ _ (by omega),show h.length+2-h.length=2 by omega];rfl
 cases e:okToks l with
 |none=>
  obtain⟨x,hx,hk,hr2⟩:=scan_noToks e;have d1:(x.2 != 0)=true:=by simpa using hk
  have hP:progO l=(zPg,((x.1.2:Nat):Int),x.2):=by unfold progO readO;rw[e];simp only[hx]
  rw[hr2,hP];simp only[tyD,at_len1,at2,set_len1,st2,evE,tyX,Nat.reduceLT,Nat.reduceLeDiff,Nat.reduceEqDiff,reduceCtorEq];refine DefK.step ?_;simp only[hr,tyD,at2,d1,evE,Nat.reduceLT,Nat.reduceEqDiff,reduceCtorEq];refine DrawK.orders2 [[0,1,2,3,4,5],[0,1,3,2,4,5],[0,1,3,4,2,5],[0,2,3,1,4,5],[0,3,1,2,4,5],[0,3,1,4,2,5]] (by kernel_rfl) (by kernel_rfl) (by kernel_rfl) (fun p hp=>?_);simp only[BI,List.not_mem_nil,or_false]at hp
  rcases hp with rfl|rfl|rfl|rfl|rfl|rfl
  all_goals simp only[seqT,BU,Bu,Bz,tyD,at_len,at_len1,at2,set_len,set_len1,st2,setMany,Bx,Bw,evE,tyX,Nat.reduceAdd,Nat.reduceLT,Nat.reduceLeDiff,Nat.reduceEqDiff,reduceCtorEq]
  all_goals exact⟨Fr.app _ _,_,rfl,rd_zPg⟩
 |some L=>
  have hE:=envD hγ hγ2 e;have hml:(L.map tkOf).length=L.length:=Bk ..;have z0:((0:Int) != 0)=false:=rfl;have fl:=flat_list L;have fo:=one_list L;have e0:(#[]:Array Operand).isEmpty=true:=rfl;rw[scan_okToks e];simp only[tyD,at_len1,at2,set_len1,st2,evE,tyX,Nat.reduceLT,Nat.reduceLeDiff,Nat.reduceEqDiff,reduceCtorEq];refine DefK.step ?_;simp only[hr,tyD,at2,z0,evE,Nat.reduceLT,Nat.reduceEqDiff,reduceCtorEq];refine DefK.step ?_;simp only[hr,tyD,hxl,fl,fo,Bo,Bc,Bi,evE,Nat.reduceAdd,Nat.reduceLT,Nat.reduceLeDiff,Nat.reduceEqDiff,reduceCtorEq];refine DefK.defer ?_;simp only[kopsD,deferT,e0,hr,evE,Nat.reduceLT,Nat.reduceEqDiff,reduceCtorEq];have hlen:(h++[(⟨0,71,[.v (.slice none 0 0),.v (.slice none 0 0)]⟩:ABlk),⟨0,3,[.v (.int .i64 0)]⟩,⟨0,26,[.v (.int .i64 0)]⟩,⟨0,199,[listA L,.v (.int .i64 0),.v (.int .i64 (l.length:Int))]⟩]).length=h.length+4:=by simp
  refine callS (S:=IsI (h.length+3)) (L:=listA L) (i:=h.length+3) (n:=l.length) (A:=RdA (.g [.s 137,.s 90]) (fun c:Pg=>.agg c.cells) (h.length+4)) (r:=progR (L.map tkOf)) c82 (by have:=dprog_ev (h:=h++[(⟨0,71,[.v (.slice none 0 0),.v (.slice none 0 0)]⟩:ABlk),⟨0,3,[.v (.int .i64 0)]⟩,⟨0,26,[.v (.int .i64 0)]⟩,⟨0,199,[listA L,.v (.int .i64 0),.v (.int .i64 (l.length:Int))]⟩]) (i:=h.length+3) (n:=l.length) (p:=0) hE (BN _) (at3 _ _ _ _ _);rw[hlen]at this;exact this) (fun c q A h1 er f1 r1 hA=>?_) (fun q e' h1 er f1=>?_)
  rotate_left
  ·have hP:progO l=(zPg,plO (L.map tkOf) l.length q,e'):=by unfold progO readO;rw[e];simp only[er]
   rw[hP];have ka:=f1.at (k:=h.length) (at_len _ _ _) (fun e=>by have e:h.length=h.length+3:=e;omega);have kb:=f1.at (k:=h.length+1) (at_len1 _ _ _ _) (fun e=>by have e:h.length+1=h.length+3:=e;omega);have kc:=f1.at (k:=h.length+2) (at2 _ _ _ _) (fun e=>by have e:h.length+2=h.length+3:=e;omega);have F1:Fr NoB h h1:=(Fr.app (S:=NoB) h _).trans f1 fun k e=>.inr (by have e:k=h.length+3:=e;omega)
   simp only[endD,evE,tyX,Nat.reduceEqDiff,reduceCtorEq];refine⟨c136,_,read81_some ka kb kc rfl (by omega) (by omega) (by omega),fun h' hh=>?_⟩;obtain⟨F',ka',kb',kc'⟩:=hh;simp only[tyD,ka',kb',kc',evE,Nat.reduceAdd,Nat.reduceLeDiff,reduceCtorEq];exact⟨⟨BM F1.1 F'.1,fun k hk hn=>(F'.2 k (BO hk F1.1) fun e=>by rcases e with e|e|e<;>omega).trans (F1.2 k hk fun e=>e)⟩,_,rfl,rd_zPg⟩
  have adv:=prog_adv (ts:=L.map tkOf) ((L.map tkOf).length+1) ⟨[],[]⟩ 0 (BN _);have ka:=f1.at (k:=h.length) (at_len _ _ _) (fun e=>by have e:h.length=h.length+3:=e;omega);have kb:=f1.at (k:=h.length+1) (at_len1 _ _ _ _) (fun e=>by have e:h.length+1=h.length+3:=e;omega);have kc:=f1.at (k:=h.length+2) (at2 _ _ _ _) (fun e=>by have e:h.length+2=h.length+3:=e;omega);have F1:Fr NoB h h1:=(Fr.app (S:=NoB) h _).trans f1 fun k e=>.inr (by have e:k=h.length+3:=e;omega)
  obtain⟨x1,x2,rfl,⟨o1,g1⟩,o2,g2⟩:=rd_prog hA;have hal:=(Bs.1 ka).1;have hbl:=(Bs.1 kb).1;have hcl:=(Bs.1 kc).1;have hfa:∀ s,flat (strC s)=some [strC s]:=fun s=>rfl
  have hoa:∀ s,oneA (strC s)=true:=fun s=>rfl
  simp only[tyD,ka,o1,o2,setMany,Bx,Bw,evE,Nat.reduceAdd,Nat.reduceLT,Nat.reduceLeDiff,Nat.reduceEqDiff,reduceCtorEq]
  obtain⟨ka2,kb2,kc2,r2,F2⟩:(h1.set h.length (⟨0,71,[x1,x2]⟩:ABlk))[h.length]?=some ⟨0,71,[x1,x2]⟩∧(h1.set h.length (⟨0,71,[x1,x2]⟩:ABlk))[h.length+1]?=some ⟨0,3,[.v (.int .i64 0)]⟩∧(h1.set h.length (⟨0,71,[x1,x2]⟩:ABlk))[h.length+2]?=some ⟨0,26,[.v (.int .i64 0)]⟩∧RD (h1.set h.length (⟨0,71,[x1,x2]⟩:ABlk)) (h.length+3) (listA L) q l.length∧Fr NoB h (h1.set h.length (⟨0,71,[x1,x2]⟩:ABlk)):=
   ⟨Be hal,(Bn (by omega)).trans kb,(Bn (by omega)).trans kc,(Bn (by omega)).trans r1,F1.trans (Fr.set (S:=IsI h.length) _ rfl) fun k e=>.inr (by have e:k=h.length:=e;omega)⟩
  have hA2:Rd (.g [.s 137,.s 90]) (Old (h.length+4)) h1 (.agg c.cells) (.agg [x1,x2]):=hA;have hA3:=hA2.up (S':=fun k=>k<h.length+3) (Fr.set (S:=IsI h.length) (h:=h1) (⟨0,71,[x1,x2]⟩:ABlk) rfl) (fun k e _=>by have e:k=h.length:=e;show k<h.length+4;omega) (fun k e _=>by show k<h.length+4;omega);generalize h1.set h.length (⟨0,71,[x1,x2]⟩:ABlk)=h2 at ka2 kb2 kc2 r2 F2 hA3⊢;have r2':h2[h.length+3]?=_:=r2;have ll:=lenS48 h2 L;refine dI ?_
  by_cases hq:q<L.length
  ·have d2:decide (q<L.length)=true:=decide_eq_true hq;have hP:progO l=(zPg,plO (L.map tkOf) l.length q,80):=by unfold progO readO;rw[e];simp only[er,if_pos hq]
   rw[hP];simp only[tyD,r2',ll,d2,evE,tyX,Nat.reduceLT,Nat.reduceEqDiff,reduceCtorEq];refine CallE.intro c127 _ (dfail_ev hE r2 80) (fun r h3 hh=>by cases hh.1) (fun v h3 hh=>?_);obtain⟨eo,rfl⟩:=hh;cases eo;simp only[endD,evE,tyX,Nat.reduceEqDiff,reduceCtorEq];refine⟨c136,_,read81_some ka2 kb2 kc2 rfl (by omega) (by omega) (by omega),fun h' hh=>?_⟩;obtain⟨F',ka',kb',kc'⟩:=hh;simp only[tyD,ka',kb',kc',evE,Nat.reduceAdd,Nat.reduceLeDiff,reduceCtorEq];exact⟨⟨BM F2.1 F'.1,fun k hk hn=>(F'.2 k (BO hk F2.1) fun e=>by rcases e with e|e|e<;>omega).trans (F2.2 k hk fun e=>e)⟩,_,rfl,rd_zPg⟩
  have d2:decide (q<L.length)=false:=decide_eq_false hq;have hP:progO l=(c,0,0):=by unfold progO readO;rw[e];simp only[er,if_neg hq]
  rw[hP];have hal2:=(Bs.1 ka2).1;have hbl2:=(Bs.1 kb2).1;have hcl2:=(Bs.1 kc2).1;have qb:∀ d,(h2.set h.length d)[h.length+1]?=some ⟨0,3,[.v (.int .i64 0)]⟩:=fun d=>(Bn (by omega)).trans kb2
  have qc:∀ d k,((h2.set h.length d).set (h.length+1) k)[h.length+2]?=some ⟨0,26,[.v (.int .i64 0)]⟩:=fun d k=>(Bn (by omega)).trans ((Bn (by omega)).trans kc2)
  simp only[tyD,r2',ll,d2,ka2,qb,qc,o1,o2,setMany,Bx,Bw,endDP_ret,endD,evE,tyX,Nat.reduceAdd,Nat.reduceLT,Nat.reduceLeDiff,Nat.reduceEqDiff,reduceCtorEq];have sa:∀ d k m,(((h2.set h.length d).set (h.length+1) k).set (h.length+2) m)[h.length]?=some d:=fun d k m=>(Bn (by omega)).trans ((Bn (by omega)).trans (Be hal2))
  have sb:∀ d k m,(((h2.set h.length d).set (h.length+1) k).set (h.length+2) m)[h.length+1]?=some k:=fun d k m=>(Bn (by omega)).trans (Be (by simp only[Bl];exact hbl2))
  have sc:∀ d k m,(((h2.set h.length d).set (h.length+1) k).set (h.length+2) m)[h.length+2]?=some m:=fun d k m=>Be (by simp only[Bl];exact hcl2)
  refine⟨c136,_,read81_none,fun h' hh=>?_⟩;subst hh;simp only[sa,sb,sc,evE,Nat.reduceAdd,Nat.reduceLeDiff];have FZ:∀ d k m,Fr (fun x=>x=h.length∨x=h.length+1∨x=h.length+2) h2 (((h2.set h.length d).set (h.length+1) k).set (h.length+2) m):=fun d k m=>((Fr.set (S:=fun x=>x=h.length∨x=h.length+1∨x=h.length+2) _ (.inl rfl)).trans (Fr.set (S:=fun x=>x=h.length∨x=h.length+1∨x=h.length+2) _ (.inr (.inl rfl))) fun k e=>.inl e).trans (Fr.set (S:=fun x=>x=h.length∨x=h.length+1∨x=h.length+2) _ (.inr (.inr rfl))) fun k e=>.inl e
  exact⟨F2.trans (FZ _ _ _) fun k e=>.inr (by rcases e with e|e|e<;>omega),_,rfl,hA3.up (FZ _ _ _) (fun k e _=>by rcases e with e|e|e<;>(show k<h.length+3;omega)) (fun k e _=>by have e:k<h.length:=e;show k<h.length+3;omega)⟩
end Go.Proofs.YtlobiioioicmhaaGreatDoor.O
namespace Go.Proofs.YtlobiioioicmhaaGreatDoor
open _root_.Array renaming getElem?_eq_some_iff→BP
open _root_.Bool renaming not_true→Bv,not_false→Bf
open _root_.List renaming getElem?_eq_some_iff→Bs,getElem?_append_left→Ba,getElem?_set_self→Be,getElem?_set_ne→Bn,length_set→Bl,append_assoc→Bo,cons_append→Bc,nil_append→Bi,getElem?_cons_zero→Bz,getElem?_cons_succ→Bu,set_cons_zero→Bx,set_cons_succ→Bw,length_map→Bk,set_append_left→Bg,take_of_length_le→Bt,mem_singleton→Bj,map_cons→BA,getElem_cons_zero→BF,getElem_toArray→BH,mem_cons→BI,getElem?_toArray→BU,set_append_right→BV
open _root_.Nat renaming le_refl→BL,le_trans→BM,zero_le→BN,lt_of_lt_of_le→BO
open Go.Proofs.Tryz renaming prog→Tp
open Go Go.Ev
set_option maxRecDepth 20000
variable {γ:List (Nat×AV)}
theorem c30:bodyT Tp 30:=⟨_,Tryz.func30,by kernel_rfl,by kernel_rfl⟩
def Ch.av(c:Ch):AV:=.agg c.cells
open Go Go.Ev Go.RowKit
set_option maxRecDepth 20000 in
theorem next_nil:Ev Tp γ 183 [.v (.slice none 0 0),.v (.int .i64 0)] (.tup [zeroT.av 0,.v (.bool false),.v (.int .i64 0)]):=by
 refine Ev.of Tryz.func183 rfl ?_;simp only[Tryz.f183,TokD.av,tokA,zeroT,evS,tyS,Nat.reduceAdd,Nat.reduceSub,Nat.reduceLT];refine SemK.scope (α:=Empty) (fun a=>a.elim) (fun _=>False) (fun _=>0) (fun _=>0) ?_ (fun a=>a.elim);have zz:decide ((0:Int)≤0)=true:=by decide
 simp only[lS,evS,tyS,Nat.reduceAdd,Nat.reduceLT,Nat.reduceLeDiff,Nat.reduceEqDiff,reduceCtorEq,Int.reduceLE]
 (repeat' (first|(with_reducible refine aI ?_ ?_)|(first|(first|refine gF ?_ ?_|refine gT ?_ ?_|refine cI ?_ ?_|refine pI ?_ ?_)<;>intro h|(refine dI ?_;have h:=trivial))<;>simp only[h,lS,zz,evS,tyS,Bv,Bf,Nat.reduceAdd,Nat.reduceSub,Nat.reduceMul,Nat.reduceLT,Nat.reduceLeDiff,Nat.reduceEqDiff,reduceCtorEq,List.reduceReplicate,Int.reduceToNat,Int.reduceLE,Int.reduceLT]))
 all_goals rfl
theorem each13_nil(w:World):Calls Tp 112 #[.slice none 0 0] w fun e w'=>∃ N,e=.returned (.func (.func 182) #[] #[.pointer (some ⟨N,0,none⟩)])∧w'.heap[N]?=some (.cells #[.slice none 0 0] 37 (0,0))∧w.heap.size≤N∧Below w.heap.size w w':=by
 go_enter Tryz.func112,Tryz.ntmps112
 go_wp2
 go_ret
 exact⟨_,rfl,Go.Ev.heap_alloc_new w _,BL _,(Below.refl _ w).alloc (BL _) _⟩
def eachBase0(γ:List (Nat×AV))(Nb:Nat)(W:World):Prop:=(∃ fr,W.heap[Nb]?=some (.cells #[.slice none 0 0] 37 fr))∧glOK γ W
def box0:AV:=.ela true [.v (.slice none 0 0)]
theorem box0_lt{Nb:Nat}{W:World}(h:eachBase0 γ Nb W):Nb<W.heap.size:=by
 obtain⟨⟨fr,h1⟩,_⟩:=h;exact (BP.1 h1).1
theorem box0_rel{Nb:Nat}{W:World}(h:eachBase0 γ Nb W):rel box0 (cx (eachX Tp W Nb (box0_lt h)) [] [] W) (.pointer (some ⟨Nb,0,none⟩)):=by
 have hlt:=box0_lt h;obtain⟨⟨fr,h1⟩,_⟩:=h;unfold box0;rw[rel];refine⟨Nb,0,rfl,⟨hlt,by simp,by show Nb=Nb;rfl⟩,?_⟩;simp only[relAt,rel];refine⟨⟨_,?_,rfl⟩,trivial⟩;show W.cell? _=_;unfold World.cell?;simp only[h1];rfl
set_option maxRecDepth 20000 in
theorem each_seq0(hγ2:GlW γ)(Nb:Nat)(item:Nat→Array Value):SeqC Tp 182 #[.pointer (some ⟨Nb,0,none⟩)] 0 item (eachBase0 γ Nb):=by
 intro ly J Jx W hJb hJw hJxw hY hJ0;refine callsIn_wide.1 (callsIn_of_wp (F:=Fence.wide) (n:=0) Tryz.func182 rfl trivial ?_);generalize hPE:bodyPost Tp Tryz.f182 _=PE
 have hret:∀ (a:Act) (w:World),a.defers=[]→(J 0 w∨Jx w)→PE .ret a w:=fun a w h1 h2=>by
  rw[←hPE];refine⟨h1,.tuple #[],?_,⟨_,rfl⟩,h2⟩;unfold results;rw[show Tryz.f182.results = #[]from rfl,Sem.run_bind,Array.mapM_eq_mapM_toList,Sem.run_map]
  rfl
 have hb0:=hJb 0 W hJ0;have hnt:Tryz.f182.ntmps=38:=by kernel_rfl
 rw[hnt];obtain⟨A,hA,hAd,hAn,hA0,hA1⟩:=frame2 38 (.func (.yield ly) #[] #[]) (.pointer (some ⟨Nb,0,none⟩)) (by decide);rw[←hA]
 have hsr:SR (eachX Tp W Nb (box0_lt hb0)) [] ⟨⟨38,[(0,yv ly),(1,box0)],γ⟩,[]⟩ A W:=by
  refine SR.fresh hAd hAn (fun t=>?_) (fun k=>gl_rel hγ2 hb0.2 (c:=cx (eachX Tp W Nb (box0_lt hb0)) [] [] W) rfl (fun r hr=>⟨hr,by simp,by show ¬False;exact fun h=>h⟩) k)
  by_cases e0:t=0
  ·subst e0;rw[hA0];show rel (yv ly) _ _;simp only[yv,rel]
  ·by_cases e1:t=1
   ·subst e1;rw[hA1];exact box0_rel hb0
   ·have:Go.Ev.look [(0,yv ly),(1,box0)] t=.bad:=by
     simp only[Go.Ev.look];rw[if_neg (fun e=>e0 e.symm),if_neg (fun e=>e1 e.symm)]
    rw[this];simp only[rel]
 refine wpIn_seq (wpIn_seq (pieceIn (X:=eachX Tp W Nb (box0_lt hb0)) (r:=none) ⟨⟨38,[(0,yv ly),(1,box0),(9,.v (.bool false))],γ⟩,[]⟩ (by kernel_rfl) rfl hsr ?_ ?_))
 ·show kwp Tp _ _ _
  have hd:decide ((32768:Int)<0)=false:=by decide
  simp only[box0,yv,wkQ_normal,evS,tyS,Nat.reduceLT,Nat.reduceEqDiff,reduceCtorEq,Int.reduceLT]
  (repeat' (first|(with_reducible refine aI ?_ ?_)|(first|(first|refine gF ?_ ?_|refine gT ?_ ?_|refine cI ?_ ?_|refine pI ?_ ?_)<;>intro h|(refine dI ?_;have h:=trivial))<;>simp only[h,evS,tyS,Bv,Bf,Nat.reduceAdd,Nat.reduceSub,Nat.reduceMul,Nat.reduceLT,Nat.reduceLeDiff,Nat.reduceEqDiff,reduceCtorEq,List.reduceReplicate,Int.reduceToNat,Int.reduceLE,Int.reduceLT]))
  all_goals first|done|rfl|exact .inl rfl|trace_state
 intro φ1 a1 W1 h1;refine wpIn_cond_false (h1.getv rfl) (wpIn_skip ?_);refine wpIn_seq (pieceIn (X:=eachX Tp W Nb (box0_lt hb0)) (r:=none) ⟨⟨38,[(0,yv ly),(1,box0),(3,.v (.int .i64 0))],γ⟩,[]⟩ (by kernel_rfl) rfl h1 ?_ ?_)
 ·show kwp Tp _ _ _
  simp only[box0,yv,wkQ_normal,evS,Nat.reduceLT,Nat.reduceEqDiff,reduceCtorEq]
  (repeat' (first|(with_reducible refine aI ?_ ?_)|(first|(first|refine gF ?_ ?_|refine gT ?_ ?_|refine cI ?_ ?_|refine pI ?_ ?_)<;>intro h|(refine dI ?_;have h:=trivial))<;>simp only[h,evS,tyS,Bv,Bf,Nat.reduceAdd,Nat.reduceSub,Nat.reduceMul,Nat.reduceLT,Nat.reduceLeDiff,Nat.reduceEqDiff,reduceCtorEq,List.reduceReplicate,Int.reduceToNat,Int.reduceLE,Int.reduceLT]))
  all_goals first|done|rfl|exact .inl rfl|trace_state
 intro φ2 a2 W2 h2;refine wpIn_block (wpIn_loop_rounds 1 ?_);rw[roundsIn_succ];refine wpIn_block (wpIn_seq (pieceIn (X:=eachX Tp W Nb (box0_lt hb0)) (r:=none) ⟨⟨38,[(0,yv ly),(1,box0),(5,.v (.bool false))],γ⟩,[]⟩ (by kernel_rfl) rfl h2 ?_ ?_))
 ·show kwp Tp _ _ _
  simp only[box0,yv,evS,tyS,Nat.reduceLT,Nat.reduceEqDiff,reduceCtorEq];refine CallK.intro b31 rfl next_nil ?_;simp only[TokD.av,tokA,wkQ_normal,zeroT,evS,tyS,Nat.reduceAdd,Nat.reduceLT,Nat.reduceLeDiff,Nat.reduceEqDiff,reduceCtorEq]
  (repeat' (first|(with_reducible refine aI ?_ ?_)|(first|(first|refine gF ?_ ?_|refine gT ?_ ?_|refine cI ?_ ?_|refine pI ?_ ?_)<;>intro h|(refine dI ?_;have h:=trivial))<;>simp only[h,evS,tyS,Bv,Bf,Nat.reduceAdd,Nat.reduceSub,Nat.reduceMul,Nat.reduceLT,Nat.reduceLeDiff,Nat.reduceEqDiff,reduceCtorEq,List.reduceReplicate,Int.reduceToNat,Int.reduceLE,Int.reduceLT]))
  all_goals first|done|rfl|exact .inl rfl|exact .inr ⟨by simp[okRefL,okRef,yv,box0],rfl⟩|trace_state
 intro φ3 a3 W3 h3;refine wpIn_seq (wpIn_seq (pieceIn (X:=eachX Tp W Nb (box0_lt hb0)) (r:=none) ⟨⟨38,[(32,.v (.bool true))],γ⟩,[]⟩ (by kernel_rfl) rfl h3 ?_ ?_))
 ·show kwp Tp _ _ _
  simp only[yv,box0,wkQ_normal,evS,Bf,Nat.reduceLT,Nat.reduceEqDiff,reduceCtorEq]
  (repeat' (first|(with_reducible refine aI ?_ ?_)|(first|(first|refine gF ?_ ?_|refine gT ?_ ?_|refine cI ?_ ?_|refine pI ?_ ?_)<;>intro h|(refine dI ?_;have h:=trivial))<;>simp only[h,evS,tyS,Bv,Bf,Nat.reduceAdd,Nat.reduceSub,Nat.reduceMul,Nat.reduceLT,Nat.reduceLeDiff,Nat.reduceEqDiff,reduceCtorEq,List.reduceReplicate,Int.reduceToNat,Int.reduceLE,Int.reduceLT]))
  all_goals first|rfl|exact .inl rfl|trace_state
 ·intro φ4 a4 W4 h4;refine wpIn_cond_true (h4.getv rfl) (wpIn_ret ?_);exact hret a4 W4 h4.defers (.inl (hJw 0 W W4 hJ0 h4.below))
def nilV:AV:=.v (.slice none 0 0)
def cloA(Nb:Nat):AV:=.v (.func (.func 182) #[] #[.pointer (some ⟨Nb,0,none⟩)])
def scan0L:List (Nat×AV):=[(0,nilV),(2,.ptr 0 0 0),(3,.ptr 1 0 0),(4,.ptr 2 0 0),(5,.ptr 3 0 0)]
def scan0S(γ:List (Nat×AV)):Slots:=⟨22,(8,nilV)::scan0L,γ⟩
def onlyQ(S:St):Post
 |.normal,s=>s=S
 |_,_=>False
set_option maxRecDepth 20000 in
theorem lexScan_nil(hγ2:GlW γ):Ev Tp γ 58 [.v (.slice none 0 0)] (.tup [.v (.slice none 0 0),.v (.int .i64 0),.v (.int .i64 0)]):=by
 refine Ev.of_wpM Tryz.func58 rfl ?_;intro X hP hc0 hXK hXdf a w hs;have hnt:Tryz.f58.ntmps=22:=by kernel_rfl
 rw[hnt]at hs;refine wpIn_seq (pieceP hP (r:=none) ⟨⟨22,[(0,nilV),(2,.ptr 0 0 0),(3,.ptr 1 0 0),(4,.ptr 2 0 0)],γ⟩,[⟨0,48,[.v (.slice none 0 0)]⟩,⟨0,3,[.v (.int .i64 0)]⟩,⟨0,26,[.v (.int .i64 0)]⟩]⟩ (by kernel_rfl) hc0 hs ?_ fun φ1 a1 w1 h1=>?_)
 ·simp only[startA,idxL,wkQ_normal,nilV,evS,tyS,Nat.reduceAdd,Nat.reduceSub,Nat.reduceLT,Nat.reduceEqDiff,reduceCtorEq]
  (repeat' (first|(with_reducible refine aI ?_ ?_)|(first|(first|refine gF ?_ ?_|refine gT ?_ ?_|refine cI ?_ ?_|refine pI ?_ ?_)<;>intro h|(refine dI ?_;have h:=trivial))<;>simp only[h,evS,tyS,Bv,Bf,Nat.reduceAdd,Nat.reduceSub,Nat.reduceMul,Nat.reduceLT,Nat.reduceLeDiff,Nat.reduceEqDiff,reduceCtorEq,List.reduceReplicate,Int.reduceToNat,Int.reduceLE,Int.reduceLT]))
  all_goals first|done|rfl|exact .inl rfl|trace_state
 refine wpIn_seq (pieceP hP (r:=none) ⟨⟨22,scan0L,γ⟩,base4 nilV⟩ (by kernel_rfl) hc0 h1 ?_ fun φ2 a2 w2 h2=>?_)
 ·simp only[scan0L,base4,wkQ_normal,nilV,evS,tyS,Nat.reduceAdd,Nat.reduceLT,Nat.reduceEqDiff,reduceCtorEq]
  (repeat' (first|(with_reducible refine aI ?_ ?_)|(first|(first|refine gF ?_ ?_|refine gT ?_ ?_|refine cI ?_ ?_|refine pI ?_ ?_)<;>intro h|(refine dI ?_;have h:=trivial))<;>simp only[h,evS,tyS,Bv,Bf,Nat.reduceAdd,Nat.reduceSub,Nat.reduceMul,Nat.reduceLT,Nat.reduceLeDiff,Nat.reduceEqDiff,reduceCtorEq,List.reduceReplicate,Int.reduceToNat,Int.reduceLE,Int.reduceLT]))
  all_goals first|done|rfl|exact .inl rfl|trace_state
 refine wpIn_seq (wpIn_seq (wpIn_region ?_));show wpOpsIn (Go.Ev.Fr none) 0 Tp _ _ ([0]++(1::[])) a2 w2;refine wpOpsIn_split _ _ _ _ (opsP hP ⟨scan0S γ,base4 nilV⟩ (by kernel_rfl) hc0 [_] [0] rfl h2 ?_ fun φ3 a3 w3 h3=>?_)
 ·simp only[scan0S,scan0L,base4,nilV,BH,BF,evS,Nat.reduceAdd,Nat.reduceLT,Nat.reduceEqDiff,reduceCtorEq]
  (repeat' (first|(with_reducible refine aI ?_ ?_)|(first|(first|refine gF ?_ ?_|refine gT ?_ ?_|refine cI ?_ ?_|refine pI ?_ ?_)<;>intro h|(refine dI ?_;have h:=trivial))<;>simp only[h,evS,tyS,Bv,Bf,Nat.reduceAdd,Nat.reduceSub,Nat.reduceMul,Nat.reduceLT,Nat.reduceLeDiff,Nat.reduceEqDiff,reduceCtorEq,List.reduceReplicate,Int.reduceToNat,Int.reduceLE,Int.reduceLT]))
  all_goals first|done|rfl|exact .inl rfl|trace_state
 rw[wpOpsIn_cons];have e8:a3.tmps.getD 8 undef=.slice none 0 0:=h3.getv rfl;refine wpOpIn_some rfl rfl (call_wpIn (vs:= #[.slice none 0 0]) rfl ?_ (enters_of Tryz.func112 (by kernel_rfl) rfl) (each13_nil w3) ?_)
 ·rw[List.map_toArray,BA,List.map_nil];show #[a3.tmps.getD 8 undef]=_;rw[e8]
 rintro e' w4 ⟨Nb,rfl,hbox,hNb,hbel⟩
 refine⟨_,rfl,?_⟩;have hput:=(h3.world hbel).put (some 9) (r:=cloA Nb) (u:=.func (.func 182) #[] #[.pointer (some ⟨Nb,0,none⟩)]) (by simp only[cloA,rel]);obtain⟨X1,hX1⟩:∃ X1,X1=X.with [(Nb,.cells #[.slice none 0 0] 37 (0,0))] [] none:=⟨_,rfl⟩;have hP1:X1.P=Tp:=by rw[hX1];exact hP
 have hc1:X1.c0=none:=by rw[hX1];rfl
 have h5:SR X1 φ3 ⟨⟨22,(9,cloA Nb)::(scan0S γ).l,γ⟩,base4 nilV⟩ (a3.put (some 9) (.func (.func 182) #[] #[.pointer (some ⟨Nb,0,none⟩)])) w4:=by
  rw[hX1];refine hput.move (Below.refl _ _) (fun r _=>.inl rfl) (by rw[hput.defers,hXdf]) hput.len hput.gl_le (fun c' hc t=>hput.slots_le c' hc t) ?_ ?_ (fun c c' h=>by cases h)
  ·intro p hp;simp only[Bj]at hp;subst hp;exact hbox
  ·intro p hp hm;simp only[Bj]at hp;subst hp;have:=(h3.rng _ hm).2
   omega
 show Code.wpIn (Go.Ev.Fr none) 0 Tp _ _ (a3.put (some 9) (.func (.func 182) #[] #[.pointer (some ⟨Nb,0,none⟩)])) w4
 generalize (a3.put (some 9) (.func (.func 182) #[] #[.pointer (some ⟨Nb,0,none⟩)]))=a4 at h5⊢;have hg:a4.eval (.tmp 9)=.func (.func 182) #[] #[.pointer (some ⟨Nb,0,none⟩)]:=h5.getv rfl
 refine wpIn_block (wpIn_mono (range_ruleP (X:=X1) (Q:=onlyQ ⟨scan0S γ,base4 nilV⟩) hP1 h5 hc1 (by kernel_rfl) (by kernel_rfl) hg (enters_of Tryz.func182 (by kernel_rfl) rfl) 0 (fun _=>(.nilFunc,.nilFunc)) (each_seq0 hγ2 Nb _)
  (scan0S γ) (fun _=>base4 nilV) (fun _=>True) trivial ?_ ?_ (fun _=>.bad) (fun _=>.bad) (fun k hk=>by omega) (fun k hk=>by omega) (fun _=>rfl)) ?_)
 ·simp only[scan0S,scan0L,base4,nilV,evS,Nat.reduceAdd,Nat.reduceEqDiff,reduceCtorEq]
  (repeat' (first|(with_reducible refine aI ?_ ?_)|(first|(first|refine gF ?_ ?_|refine gT ?_ ?_|refine cI ?_ ?_|refine pI ?_ ?_)<;>intro h|(refine dI ?_;have h:=trivial))<;>simp only[h,evS,tyS,Bv,Bf,Nat.reduceAdd,Nat.reduceSub,Nat.reduceMul,Nat.reduceLT,Nat.reduceLeDiff,Nat.reduceEqDiff,reduceCtorEq,List.reduceReplicate,Int.reduceToNat,Int.reduceLE,Int.reduceLT]))
  all_goals first|done|rfl|exact .inl rfl|trace_state
 ·intro X' φ' k a' W hP' hG hB hK ht hsr;exact⟨⟨_,hK (Nb,_) (by rw[hX1];exact List.mem_cons_self)⟩,gl_of_rel (c:=cx X' φ' (base4 nilV) W) rfl (fun r hr=>hr.1) (fun k=>(hsr.gl k).2)⟩
 ·rintro e a5 w5 ⟨D,φ5,st5,⟨hD,hDK⟩,h6,hq⟩
  cases e with
  |normal=>
   obtain rfl:st5=⟨scan0S γ,base4 nilV⟩:=hq;have t25:aggT Tp 26=some false:=by kernel_rfl
   refine wpIn_mono (kwp_soundP (X:=X1.marked D) (r:=none) hP1 _ (retQ (.tup [.v (.slice none 0 0),.v (.int .i64 0),.v (.int .i64 0)])) (by kernel_rfl) h6 ?_) ?_
   ·simp only[scan0S,scan0L,base4,nilV,retQ_ret,t25,evS,tyS,Nat.reduceLT,Nat.reduceLeDiff,Nat.reduceEqDiff,reduceCtorEq]
    (repeat' (first|(with_reducible refine aI ?_ ?_)|(first|(first|refine gF ?_ ?_|refine gT ?_ ?_|refine cI ?_ ?_|refine pI ?_ ?_)<;>intro h|(refine dI ?_;have h:=trivial))<;>simp only[h,retQ_ret,t25,evS,tyS,Bv,Bf,Nat.reduceAdd,Nat.reduceSub,Nat.reduceMul,Nat.reduceLT,Nat.reduceLeDiff,Nat.reduceEqDiff,reduceCtorEq,List.reduceReplicate,Int.reduceToNat,Int.reduceLE,Int.reduceLT]))
    all_goals first|done|rfl|trace_state
   ·rintro e a6 w6 ⟨φ6,st6,h7,hq6⟩
    cases e with
    |ret=>
     refine⟨[D],φ6,st6,by simp,fun D' h=>by rw[Bj.1 h];rw[hX1]at hD;exact hD,?_,endS_endA hq6⟩;rw[hX1]at h7;have:X.marks [D]=X.with [(D,Obj.deferred (some []))] [markD D] none:=by simp[Fix.marks,hXK,hXdf]
     rw[this];exact SR.fewer (X:=X) (K:=(D,Obj.deferred (some []))::[(Nb,.cells #[.slice none 0 0] 37 (0,0))]) h7 (fun p hp=>by rw[Bj.1 hp];simp)
    |_=>exact hq6.elim
  |_=>exact hq.elim
end Go.Proofs.YtlobiioioicmhaaGreatDoor
