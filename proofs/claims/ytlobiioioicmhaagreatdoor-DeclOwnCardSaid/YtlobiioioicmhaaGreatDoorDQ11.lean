/- A part of the proof. -/
import Derived.Test.YtlobiioioicmhaaGreatDoorDQ10
set_option linter.all false
set_option maxHeartbeats 8000000
namespace Go.Proofs.YtlobiioioicmhaaGreatDoor.O
open _root_.List renaming getElem?_eq_some_iff→Bs,getElem?_append_left→Ba,getElem?_set_self→Be,getElem?_set_ne→Bn,length_set→Bl,append_assoc→Bo,cons_append→Bc,nil_append→Bi,getElem?_cons_zero→Bz,getElem?_cons_succ→Bu,set_cons_zero→Bx,set_cons_succ→Bw,length_map→Bk,set_append_left→Bg,take_of_length_le→Bt,length_take→Bh,prefix_rfl→BB,mem_cons→BI,getElem?_toArray→BU,set_append_right→BV
open _root_.Nat renaming le_refl→BL,le_trans→BM,zero_le→BN,lt_of_lt_of_le→BO
open Go.Proofs.Tryz renaming prog→Tp
open Go Go.Ev
set_option maxRecDepth 20000
variable {γ:List (Nat×AV)} {ts:List Tk} {L:AV}
theorem rd_part{m:Nat}{h:List ABlk}{x:Pt}{a:AV}(r:RdA (.g (kT 130)) Pt.av m x a h):∃ V,a=.agg [strC x.tag,V]∧Rd (.s 9) (Old m) h (strsA x.vars) V:=by
 obtain⟨xs,rfl,k⟩:=rd_agg r;obtain⟨x0,xs,rfl,k0,k⟩:=rdL_cons (k:=.v) (ks:=[.s 9]) k;obtain⟨x1,xs,rfl,k1,k⟩:=rdL_cons (k:=.s 9) (ks:=[]) k;obtain rfl:=rdL_nil k;obtain rfl:=rd_val k0;exact⟨x1,rfl,k1⟩
theorem dchord_ev(E:EnvD γ L ts){h:List ABlk}{i p n:Nat}(hp:p≤ts.length)(hr:RD h i L p n):
  EvM Tp γ 72 [.ptr i 0 0] h (ResD ts n L i h (RdA (.g (kT 59)) (fun c=>.agg (Ch.cells c)) h.length) (chordD ts p)):=by
 have hil:=hr.lt;have hn:=E.n;refine EvM.ofG Tryz.func72 rfl ?_;simp only[Tryz.f72,tyD,evG,Nat.reduceAdd,Nat.reduceSub,Nat.reduceLT,Nat.reduceEqDiff,reduceCtorEq];refine wantE (w:=kChord) E hp (hr.app [⟨0,59,[.v (.string ⟨#[]⟩),.v (.slice none 0 0),.v (.slice none 0 0),.v (.slice none 0 0)]⟩]) ?_ ?_ (fun e1 h1 f1 r1 hp1=>?_) (fun e1 h1 f1=>?_)
 ·rfl
 ·rfl
 rotate_left
 ·have:chordD ts p=.bad p 80:=by unfold chordD wantD;rw[if_neg (by rw[e1];decide)];rfl
  rw[this];exact⟨f1.pre,rfl⟩
 have eC1:chordD ts p=(wordD ts (p+1)).bind fun n p2=>(wantD ts [58] p2).bind fun _ p3=>(partD ts p3).bind fun x p4=>(partsD ts (ts.length+1) [x] p4).bind fun l p5=>(guardD ts p5).bind fun g p6=>(bodyD ts p6).bind fun b p7=>.ok ⟨n,l,g,b⟩ p7:=by unfold chordD wantD;rw[if_pos e1];rfl
 rw[eC1];have F1:Fr (Io i h.length) h h1:=Io.i f1.pre;have kr1:h1[h.length]?=some ⟨0,59,[.v (.string ⟨#[]⟩),.v (.slice none 0 0),.v (.slice none 0 0),.v (.slice none 0 0)]⟩:=f1.at (at_len _ _ _) (fun e=>by have e:h.length=i:=e;omega);clear f1 eC1;simp only[evG,Nat.reduceLT,Nat.reduceEqDiff,reduceCtorEq];refine wordE E hp1 r1 ?_ ?_ (fun nm p2 h2 e2 f2 r2 a2 b2=>?_) (fun q e' h2 e2 f2=>?_)
 ·rfl
 ·rfl
 rotate_left
 ·rw[e2];exact⟨Io.fin (F1.trans (Io.i f2) fun k e=>.inl e),rfl⟩
 rw[e2];have eC2:(DR.ok nm p2).bind (fun n p2=>(wantD ts [58] p2).bind fun _ p3=>(partD ts p3).bind fun x p4=>(partsD ts (ts.length+1) [x] p4).bind fun l p5=>(guardD ts p5).bind fun g p6=>(bodyD ts p6).bind fun b p7=>DR.ok (⟨n,l,g,b⟩:Ch) p7)=(wantD ts [58] p2).bind fun _ p3=>(partD ts p3).bind fun x p4=>(partsD ts (ts.length+1) [x] p4).bind fun l p5=>(guardD ts p5).bind fun g p6=>(bodyD ts p6).bind fun b p7=>.ok ⟨nm,l,g,b⟩ p7:=rfl
 rw[eC2];clear eC2;have F2:=F1.trans (Io.i (n0:=h.length) f2) fun k e=>.inl e
 have kr2:=f2.at kr1 (fun e=>by have e:h.length=i:=e;omega);have hl2:=F2.1;have hrl2:=(Bs.1 kr2).1;clear f2;simp only[tyD,at_len,set_len,evG,Nat.reduceAdd,Nat.reduceLT,Nat.reduceLeDiff,Nat.reduceEqDiff,reduceCtorEq];refine wantE (w:=[58]) E b2 (r2.app [⟨0,59,[.v (.string ⟨nm.toArray⟩),.v (.slice none 0 0),.v (.slice none 0 0),.v (.slice none 0 0)]⟩]) ?_ ?_ (fun e3 h3 f3 r3 hp3=>?_) (fun e3 h3 f3=>?_)
 ·rfl
 ·rfl
 rotate_left
 ·have:wantD ts [58] p2=.bad p2 80:=by unfold wantD;rw[if_neg (by rw[e3];decide)]
  rw[this];exact⟨Io.fin (F2.trans (Io.i f3.pre) fun k e=>.inl e),rfl⟩
 have eW3:wantD ts [58] p2=.ok () (p2+1):=by unfold wantD;rw[if_pos e3]
 rw[eW3];have eC3:(DR.ok () (p2+1)).bind (fun _ p3=>(partD ts p3).bind fun x p4=>(partsD ts (ts.length+1) [x] p4).bind fun l p5=>(guardD ts p5).bind fun g p6=>(bodyD ts p6).bind fun b p7=>DR.ok (⟨nm,l,g,b⟩:Ch) p7)=(partD ts (p2+1)).bind fun x p4=>(partsD ts (ts.length+1) [x] p4).bind fun l p5=>(guardD ts p5).bind fun g p6=>(bodyD ts p6).bind fun b p7=>.ok ⟨nm,l,g,b⟩ p7:=rfl
 rw[eC3];clear eC3 eW3;have F3:=F2.trans (Io.i (n0:=h.length) f3.pre) fun k e=>.inl e
 have hn3:h2.length+1≤h3.length:=by have:=f3.1;simpa using this
 have kr3:h3[h.length]?=some ⟨0,59,[.v (.string ⟨#[]⟩),.v (.slice none 0 0),.v (.slice none 0 0),.v (.slice none 0 0)]⟩:=f3.at ((Ba hrl2).trans kr2) (fun e=>by have e:h.length=i:=e;omega);have kb3:h3[h2.length]?=some ⟨0,59,[.v (.string ⟨nm.toArray⟩),.v (.slice none 0 0),.v (.slice none 0 0),.v (.slice none 0 0)]⟩:=f3.at (at_len _ _ _) (fun e=>by have e:h2.length=i:=e;omega);obtain⟨b,hb⟩:∃ b,b=h2.length:=⟨_,rfl⟩;rw[←hb]at kb3 hn3 hrl2⊢;have hbi:b≠i:=by omega
 have hb0:h.length<b:=by omega
 generalize hp3e:p2+1=p3 at r3 hp3⊢;clear hb f3 kr2 r2 kr1 r1 F1 F2 hl2 e2 e1 e3;simp only[evG,Nat.reduceLT];refine DrawE.via (fun s'=>∃ x q V hp j ver,partD ts p3=.ok x q∧slotW s' (chS γ i h.length b (q,hp))∧RD hp i L q n∧hp[b]?=some ⟨0,59,[.v (.string ⟨nm.toArray⟩),.own j ver 1,.v (.slice none 0 0),.v (.slice none 0 0)]⟩∧GL (b+1) 130 2 hp (.own j ver 1) 1 x.cells∧Fr (Io i h.length) h hp∧V=()∧hp[h.length]?=some ⟨0,59,[.v (.string ⟨#[]⟩),.v (.slice none 0 0),.v (.slice none 0 0),.v (.slice none 0 0)]⟩) (fun K hK=>?_) (fun s' hs'=>?_)
 ·refine DrawE.orders [[0,1,2,3,4,5,6,7],[0,2,1,3,4,5,6,7],[2,0,1,3,4,5,6,7],[0,2,3,1,4,5,6,7],[2,0,3,1,4,5,6,7],[0,2,3,4,1,5,6,7],[2,0,3,4,1,5,6,7],[2,3,0,1,4,5,6,7],[2,3,0,4,1,5,6,7],[2,3,4,0,1,5,6,7]] (fun _ _ _ h o h'=>ResD ts n L i h (RdA (.g (kT 130)) Pt.av h.length) (partD ts p3) o h') (panE_ext _) (by kernel_rfl) (by kernel_rfl) (by kernel_rfl) (fun q hq=>?_);simp only[BI,List.not_mem_nil,or_false]at hq
  rcases hq with rfl|rfl|rfl|rfl|rfl|rfl|rfl|rfl|rfl|rfl
  all_goals simp only[evR,rR_bs,seqT,BU,Bu,Bz,tyD,kb3,evG,Nat.reduceAdd,Nat.reduceLT,Nat.reduceLeDiff,Nat.reduceEqDiff,reduceCtorEq,List.reduceReplicate]
  all_goals refine⟨c130,dpart_ev E hp3 r3,fun ra hp hh=>?_,fun v hp hh=>by obtain⟨q,e,eR,f,rfl⟩:=ResD.pan hh;rw[eR];exact⟨Io.fin (F3.trans (Io.i f) fun k e=>.inl e),rfl⟩⟩
  all_goals obtain⟨x,q,eR,f,rp,hA⟩:=ResD.ret hh
  all_goals obtain⟨V,rfl,rV⟩:=rd_part hA
  all_goals obtain⟨oV,fV⟩:=rd_one rV
  all_goals have kbp:hp[b]?=some ⟨0,59,[.v (.string ⟨nm.toArray⟩),.v (.slice none 0 0),.v (.slice none 0 0),.v (.slice none 0 0)]⟩:=f.at kb3 hbi
  all_goals have hbl:=(Bs.1 kbp).1
  all_goals have g7:∀ l,(hp++l)[b]?=some ⟨0,59,[.v (.string ⟨nm.toArray⟩),.v (.slice none 0 0),.v (.slice none 0 0),.v (.slice none 0 0)]⟩:=fun l=>(Ba hbl).trans kbp
  all_goals have s6:∀ l c,(hp++l).set b c=hp.set b c++l:=fun l c=>Bg _ _ hbl
  all_goals simp only[Bu,Bz,tyD,kbp,g7,oV,strC,at_len,s6,Bi,Bo,Bc,evG,Nat.reduceAdd,Nat.reduceLT,Nat.reduceLeDiff,Nat.reduceEqDiff,reduceCtorEq]
  all_goals have hf:=f.1
  all_goals have GP:=(GLm.nil (m:=h3.length) (n0:=b+1) (t:=130) (sz:=2) (h:=hp)).push (h':=hp.set b ⟨0,59,[.v (.string ⟨nm.toArray⟩),.own (hp.length+1) 0 1,.v (.slice none 0 0),.v (.slice none 0 0)]⟩++[⟨0,130,[.v (.string ⟨x.tag.toArray⟩),V]⟩,⟨0,130,[.v (.string ⟨x.tag.toArray⟩),V]⟩]) (j':=hp.length+1) (ver':=0) (xs:=[]) (es:=[.v (.string ⟨x.tag.toArray⟩),V]) (ecs:=x.cells) (fun j ver e=>by cases e) (fun _=>⟨by omega,rfl⟩) (by omega) (by omega) ((Fr.set _ (.inl (Nat.lt_succ_self b))).trans (Fr.app (S:=NoB) _ _) fun k e=>e.elim) (at_lenS1 _ _ _ _ _ _) rfl (RdL.pt rV)
  all_goals refine hK _ ⟨x,q,(),_,hp.length+1,0,eR,⟨rfl,rfl,⟨rfl,rfl,rfl,trivial⟩,rfl⟩,?_,?_,GP,?_,rfl,?_⟩
  all_goals first
   |exact (Ba (by rw[Bl];exact rp.lt)).trans ((Bn hbi).trans rp)
   |exact (Ba (by rw[Bl];exact hbl)).trans (Be hbl)
   |exact (F3.trans (Io.i f) fun k e=>.inl e).trans ((Fr.set (S:=Io i h.length) _ (.inr (by omega))).trans (Fr.app (S:=NoB) _ _) fun k e=>e.elim) fun k e=>.inl e
   |exact (Ba (by rw[Bl];omega)).trans ((Bn (by omega)).trans (f.at kr3 (fun e=>by have e:h.length=i:=e;omega)))
 obtain⟨x,q,V,hp,j,ver,eR,hw,rp,kbp,Gp,Fp,_,krp⟩:=hs';rw[eR];have adv3:=part_adv hp3;rw[eR]at adv3;have eC4:(DR.ok x q).bind (fun x p4=>(partsD ts (ts.length+1) [x] p4).bind fun l p5=>(guardD ts p5).bind fun g p6=>(bodyD ts p6).bind fun b p7=>DR.ok (⟨nm,l,g,b⟩:Ch) p7)=(partsD ts (ts.length+1) [x] q).bind fun l p5=>(guardD ts p5).bind fun g p6=>(bodyD ts p6).bind fun b p7=>.ok ⟨nm,l,g,b⟩ p7:=rfl
 rw[eC4];generalize hR:partsD ts (ts.length+1) [x] q=R;simp only[evG]
 refine LoopE.intro (chS γ i h.length b) (fun y=>∃ xs N f,y.1≤ts.length∧xs.length≤y.1∧RD y.2 i L y.1 n∧y.2[b]?=some ⟨0,59,[.v (.string ⟨nm.toArray⟩),N,.v (.slice none 0 0),.v (.slice none 0 0)]⟩∧GL (b+1) 130 2 y.2 N xs.length (xs.flatMap Pt.cells)∧Fr (Io i h.length) h y.2∧y.2[h.length]?=some ⟨0,59,[.v (.string ⟨#[]⟩),.v (.slice none 0 0),.v (.slice none 0 0),.v (.slice none 0 0)]⟩∧partsD ts f xs y.1=R∧ts.length<f+y.1) (fun y=>ts.length+1-y.1) (q,hp) hw
  ⟨[x],.own j ver 1,ts.length+1,adv3.2,by have:=adv3.1;show 1≤q;omega,rp,kbp,Gp,Fp,krp,hR,by show ts.length<ts.length+1+q;omega⟩ (fun y hy=>?_)
 clear hR eC4 adv3 hw rp kbp Gp Fp krp eR kb3 kr3 r3 hp3 hp3e F3 hn3;obtain⟨p,h4⟩:=y;obtain⟨xs,N,f,hp,hx4,r4,kb4,G4,F4,kr4,hR,hf⟩:=hy;simp only at hp hx4 r4 kb4 G4 F4 kr4 hR hf;obtain⟨f',rfl⟩:∃ g,f=g+1:=⟨f-1,by omega⟩;rw[partsD]at hR;have hF4:=F4.1;have hbl4:=(Bs.1 kb4).1;simp only[chS,evG,Nat.reduceLT,Nat.reduceEqDiff,reduceCtorEq];refine takeE (w:=[38]) E hp r4 ?_ ?_ (fun hB h5 f5 r5 hp5=>?_) (fun hB h5 f5 r5=>?_)
 ·rfl
 ·rfl
 ·rw[if_pos hB]at hR;have kb5:=f5.at kb4 hbi;have hbl5:=(Bs.1 kb5).1;have F5:=F4.trans (Io.i (n0:=h.length) f5) fun k e=>.inl e
  have kr5:=f5.at kr4 (fun e=>by have e:h.length=i:=e;omega);have G5:=G4.fr0 f5 (fun k e=>by have e:k=i:=e;omega);generalize hp5e:p+1=p5 at r5 hp5 hR⊢;simp only[evG,Nat.reduceLT,Nat.reduceEqDiff,reduceCtorEq];refine DrawE.via (fun s'=>∃ y:Nat×List ABlk,slotW s' (chS γ i h.length b y)∧p<y.1∧∃ xs N f,y.1≤ts.length∧xs.length≤y.1∧RD y.2 i L y.1 n∧y.2[b]?=some ⟨0,59,[.v (.string ⟨nm.toArray⟩),N,.v (.slice none 0 0),.v (.slice none 0 0)]⟩∧GL (b+1) 130 2 y.2 N xs.length (xs.flatMap Pt.cells)∧Fr (Io i h.length) h y.2∧y.2[h.length]?=some ⟨0,59,[.v (.string ⟨#[]⟩),.v (.slice none 0 0),.v (.slice none 0 0),.v (.slice none 0 0)]⟩∧partsD ts f xs y.1=R∧ts.length<f+y.1) (fun K hK=>?_) (fun s' hs'=>?_)
  rotate_left
  ·obtain⟨y,hw,hlt,hinv⟩:=hs';simp only[evG];exact loopCE.intro y hinv hw (by obtain⟨_,_,_,h1,_⟩:=hinv;show ts.length+1-y.1<ts.length+1-p;omega)
  refine DrawE.orders [[0,1,2,3,4,5,6,7],[0,2,1,3,4,5,6,7],[2,0,1,3,4,5,6,7],[0,2,3,1,4,5,6,7],[2,0,3,1,4,5,6,7],[0,2,3,4,1,5,6,7],[2,0,3,4,1,5,6,7],[2,3,0,1,4,5,6,7],[2,3,0,4,1,5,6,7],[2,3,4,0,1,5,6,7]] (fun _ _ _ h o h'=>ResD ts n L i h (RdA (.g (kT 130)) Pt.av h.length) (partD ts p5) o h') (panE_ext _) (by kernel_rfl) (by kernel_rfl) (by kernel_rfl) (fun q hq=>?_);simp only[BI,List.not_mem_nil,or_false]at hq
  rcases hq with rfl|rfl|rfl|rfl|rfl|rfl|rfl|rfl|rfl|rfl
  all_goals simp only[evR,rR_bs,seqT,BU,Bu,Bz,tyD,kb5,evG,Nat.reduceAdd,Nat.reduceLT,Nat.reduceLeDiff,Nat.reduceEqDiff,reduceCtorEq,List.reduceReplicate]
  all_goals refine⟨c130,dpart_ev E hp5 r5,fun ra hp hh=>?_,fun v hp hh=>by obtain⟨q,e,eR,f,rfl⟩:=ResD.pan hh;rw[eR]at hR;rw[←hR];exact⟨Io.fin (F5.trans (Io.i f) fun k e=>.inl e),rfl⟩⟩
  all_goals obtain⟨x,q,eR,f,rp,hA⟩:=ResD.ret hh
  all_goals obtain⟨V,rfl,rV⟩:=rd_part hA
  all_goals have adv5:=part_adv hp5
  all_goals rw[eR]at hR adv5
  all_goals have hR2:partsD ts f' (xs++[x]) q=R:=hR
  all_goals obtain⟨oV,fV⟩:=rd_one rV
  all_goals have kbp:hp[b]?=some ⟨0,59,[.v (.string ⟨nm.toArray⟩),N,.v (.slice none 0 0),.v (.slice none 0 0)]⟩:=f.at kb5 hbi
  all_goals have hbl:=(Bs.1 kbp).1
  all_goals have hff:=f.1
  all_goals have Gp:=G5.frm0 f (fun k e=>by have e:k=i:=e;omega)
  all_goals have hl5:∀ k,nbk N k→k<h5.length:=fun k hk=>(G5.lt hk).2
  all_goals have g7:∀ l,(hp++l)[b]?=some ⟨0,59,[.v (.string ⟨nm.toArray⟩),N,.v (.slice none 0 0),.v (.slice none 0 0)]⟩:=fun l=>(Ba hbl).trans kbp
  all_goals have s6:∀ l c,(hp++l).set b c=hp.set b c++l:=fun l c=>Bg _ _ hbl
  all_goals have hel:RdL (kT 130) (fun k=>k<h5.length) hp x.cells [.v (.string ⟨x.tag.toArray⟩),V]:=RdL.pt rV
  all_goals have hxe:(xs++[x]).length=xs.length+1:=by simp
  all_goals have hxf:(xs++[x]).flatMap Pt.cells=xs.flatMap Pt.cells++x.cells:=by simp
  all_goals have Fpp:=F5.trans (Io.i (n0:=h.length) f) fun k e=>.inl e
  all_goals have krp:=f.at kr5 (fun e=>by have e:h.length=i:=e;omega)
  all_goals rcases Gp with⟨rfl,e0,e1⟩|⟨j,ver,cs,rfl,hnn,hj0,hj,hl,hrd⟩
  all_goals first
   |(have e0':=e0
     simp only[Bu,Bz,tyD,kbp,g7,oV,strC,at_len,s6,Bi,Bo,Bc,evG,Nat.reduceAdd,Nat.reduceLT,Nat.reduceLeDiff,Nat.reduceEqDiff,reduceCtorEq];have GP:=(GLm.nil (m:=h5.length) (n0:=b+1) (t:=130) (sz:=2) (h:=hp)).push (h':=hp.set b ⟨0,59,[.v (.string ⟨nm.toArray⟩),.own (hp.length+1) 0 1,.v (.slice none 0 0),.v (.slice none 0 0)]⟩++[⟨0,130,[.v (.string ⟨x.tag.toArray⟩),V]⟩,⟨0,130,[.v (.string ⟨x.tag.toArray⟩),V]⟩]) (j':=hp.length+1) (ver':=0) (xs:=[]) (es:=[.v (.string ⟨x.tag.toArray⟩),V]) (ecs:=x.cells) (fun j ver e=>by cases e) (fun _=>⟨by omega,rfl⟩) (by omega) (by omega) ((Fr.set _ (.inl (Nat.lt_succ_self b))).trans (Fr.app (S:=NoB) _ _) fun k e=>e.elim) (at_lenS1 _ _ _ _ _ _) rfl hel;refine hK _ ⟨(q,_),⟨rfl,rfl,⟨rfl,rfl,rfl,trivial⟩,rfl⟩,by have:=adv5.1;show p<q;omega,xs++[x],.own (hp.length+1) 0 1,f',adv5.2,by rw[hxe];have:=adv5.1;show xs.length+1≤q;omega,?_,?_,by rw[hxe,hxf,e0,e1];exact GP,?_,?_,hR2,by have:=adv5.1;show ts.length<f'+q;omega⟩
     ·exact (Ba (by rw[Bl];exact rp.lt)).trans ((Bn hbi).trans rp)
     ·exact (Ba (by rw[Bl];exact hbl)).trans (Be hbl)
     ·exact Fpp.trans ((Fr.set (S:=Io i h.length) _ (.inr (by omega))).trans (Fr.app (S:=NoB) _ _) fun k e=>e.elim) fun k e=>.inl e
     ·exact (Ba (by rw[Bl];omega)).trans ((Bn (by omega)).trans krp))
   |(have hjl:=(Bs.1 hj).1
     have hjb:j≠b:=by omega
     have hji:j≠i:=by omega
     have hjh:j≠h.length:=by omega
     have q1:∀ l,(hp++l)[j]?=some ⟨ver,130,cs⟩:=fun l=>(Ba hjl).trans hj
     have s8:∀ l c,(hp++l).set j c=hp.set j c++l:=fun l c=>Bg _ _ hjl
     have g9:∀ l c,(hp.set j c++l)[b]?=some ⟨0,59,[.v (.string ⟨nm.toArray⟩),.own j ver xs.length,.v (.slice none 0 0),.v (.slice none 0 0)]⟩:=fun l c=>(Ba (by rw[Bl];exact hbl)).trans ((Bn hjb).trans kbp)
     have s9:∀ l c d,(hp.set j c++l).set b d=(hp.set j c).set b d++l:=fun l c d=>Bg _ _ (by rw[Bl];exact hbl)
     have hl':cs.length=xs.length * 2:=hl;have q4:List.take (xs.length * 2) cs=cs:=Bt (by omega);have q6:xs.length * 2≤cs.length:=by omega
     simp only[Bu,Bz,tyD,kbp,g7,oV,strC,at_len,q1,s8,g9,s9,q4,q6,evG,Nat.reduceAdd,Nat.reduceLT,Nat.reduceLeDiff,Nat.reduceEqDiff,reduceCtorEq];have GP:=GLm.push (m:=h5.length) (h:=hp) (N:=.own j ver xs.length) (.inr ⟨j,ver,cs,rfl,hnn,hj0,hj,hl,hrd⟩) (h':=(hp.set j ⟨ver+1,130,cs++[.v (.string ⟨x.tag.toArray⟩),V]⟩).set b ⟨0,59,[.v (.string ⟨nm.toArray⟩),.own j (ver+1) (xs.length+1),.v (.slice none 0 0),.v (.slice none 0 0)]⟩++[⟨0,130,[.v (.string ⟨x.tag.toArray⟩),V]⟩]) (j':=j) (ver':=ver+1) (xs:=cs) (es:=[.v (.string ⟨x.tag.toArray⟩),V]) (ecs:=x.cells) (fun j2 ver2 e=>by cases e;exact⟨rfl,hj⟩) (fun e=>by cases e) (by omega) (by omega) (((Fr.set (S:=fun k=>k<b+1∨nbk (.own j ver xs.length) k) _ (.inr rfl)).trans (Fr.set (S:=fun k=>k<b+1∨nbk (.own j ver xs.length) k) _ (.inl (Nat.lt_succ_self b))) fun k e=>.inl e).trans (Fr.app (S:=NoB) _ _) fun k e=>e.elim) ((Ba (by rw[Bl,Bl];exact hjl)).trans ((Bn hjb.symm).trans (Be hjl))) rfl hel;refine⟨by omega,hK _ ⟨(q,_),⟨rfl,rfl,⟨rfl,rfl,rfl,trivial⟩,rfl⟩,by have:=adv5.1;show p<q;omega,xs++[x],.own j (ver+1) (xs.length+1),f',adv5.2,by rw[hxe];have:=adv5.1;show xs.length+1≤q;omega,?_,?_,by rw[hxe,hxf];exact GP,?_,?_,hR2,by have:=adv5.1;show ts.length<f'+q;omega⟩⟩
     ·exact (Ba (by rw[Bl,Bl];exact rp.lt)).trans ((Bn hbi).trans ((Bn hji).trans rp))
     ·exact (Ba (by rw[Bl,Bl];exact hbl)).trans (Be (by rw[Bl];exact hbl))
     ·exact Fpp.trans (((Fr.set (S:=Io i h.length) _ (.inr (by omega))).trans (Fr.set (S:=Io i h.length) _ (.inr (by omega))) fun k e=>.inl e).trans (Fr.app (S:=NoB) _ _) fun k e=>e.elim) fun k e=>.inl e
     ·exact (Ba (by rw[Bl,Bl];omega)).trans ((Bn (by omega)).trans ((Bn hjh).trans krp)))
 rw[if_neg (by rw[hB];decide)]at hR;rw[←hR];have eC5:(DR.ok xs p).bind (fun l p5=>(guardD ts p5).bind fun g p6=>(bodyD ts p6).bind fun b p7=>DR.ok (⟨nm,l,g,b⟩:Ch) p7)=(guardD ts p).bind fun g p6=>(bodyD ts p6).bind fun b p7=>.ok ⟨nm,xs,g,b⟩ p7:=rfl
 rw[eC5];have kb5:=f5.at kb4 hbi;have F5:=F4.trans (Io.i (n0:=h.length) f5) fun k e=>.inl e
 have kr5:=f5.at kr4 (fun e=>by have e:h.length=i:=e;omega);have G5:=G4.fr0 f5 (fun k e=>by have e:k=i:=e;omega);clear hR hf hx4 r4 kb4 G4 F4 kr4 f5 eC5 hB;simp only[evG,Nat.reduceLT,Nat.reduceEqDiff,reduceCtorEq];refine takeE (w:=kWhen) E hp r5 ?_ ?_ (fun hW h6 f6 r6 hp6=>?_) (fun hW h6 f6 r6=>?_)
 ·rfl
 ·rfl
 ·have eG:guardD ts p=exprD ts (p+1):=by unfold guardD;rw[if_pos hW]
  rw[eG];have kb6:=f6.at kb5 hbi;have F6:=F5.trans (Io.i (n0:=h.length) f6) fun k e=>.inl e
  have kr6:=f6.at kr5 (fun e=>by have e:h.length=i:=e;omega);have G6:=G5.fr0 f6 (fun k e=>by have e:k=i:=e;omega);simp only[evG,Nat.reduceLT,Nat.reduceEqDiff,reduceCtorEq];refine exprE E hp6 r6 ?_ ?_ (fun gx p7 X h7 e7 f7 r7 a7 b7 rX=>?_) (fun q e' h7 e7 f7=>?_)
  ·rfl
  ·rfl
  rotate_left
  ·rw[e7];exact⟨Io.fin (F6.trans (Io.i f7) fun k e=>.inl e),rfl⟩
  rw[e7];have eC6:(DR.ok gx p7).bind (fun g p6=>(bodyD ts p6).bind fun b p7=>DR.ok (⟨nm,xs,g,b⟩:Ch) p7)=(bodyD ts p7).bind fun b p7=>.ok ⟨nm,xs,gx,b⟩ p7:=rfl
  rw[eC6];have kb7:=f7.at kb6 hbi;have F7:=F6.trans (Io.i (n0:=h.length) f7) fun k e=>.inl e
  have kr7:=f7.at kr6 (fun e=>by have e:h.length=i:=e;omega);have G7:=G6.frm0 f7 (fun k e=>by have e:k=i:=e;omega);have hbl7:=(Bs.1 kb7).1;have oG:oneA X=true:=(rd_nodes rX).1;have fG:flat X=some [X]:=(rd_nodes rX).2;have hi6:=r6.lt;have hb6:=(Bs.1 kb6).1;have hl7:=f7.1;simp only[tyD,kb7,oG,setMany,evG,Nat.reduceAdd,Nat.reduceLT,Nat.reduceLeDiff,Nat.reduceEqDiff,reduceCtorEq]
  obtain⟨kb8,r8,F8,kr8,rX8,hl8,G8⟩:(h7.set b (⟨0,59,[.v (.string ⟨nm.toArray⟩),N,X,.v (.slice none 0 0)]⟩:ABlk))[b]?=some ⟨0,59,[.v (.string ⟨nm.toArray⟩),N,X,.v (.slice none 0 0)]⟩∧RD (h7.set b (⟨0,59,[.v (.string ⟨nm.toArray⟩),N,X,.v (.slice none 0 0)]⟩:ABlk)) i L p7 n∧Fr (Io i h.length) h (h7.set b (⟨0,59,[.v (.string ⟨nm.toArray⟩),N,X,.v (.slice none 0 0)]⟩:ABlk))∧(h7.set b (⟨0,59,[.v (.string ⟨nm.toArray⟩),N,X,.v (.slice none 0 0)]⟩:ABlk))[h.length]?=some ⟨0,59,[.v (.string ⟨#[]⟩),.v (.slice none 0 0),.v (.slice none 0 0),.v (.slice none 0 0)]⟩∧Rd (.s 115) (Old h6.length) (h7.set b (⟨0,59,[.v (.string ⟨nm.toArray⟩),N,X,.v (.slice none 0 0)]⟩:ABlk)) (nodesA gx) X∧(h7.set b (⟨0,59,[.v (.string ⟨nm.toArray⟩),N,X,.v (.slice none 0 0)]⟩:ABlk)).length=h7.length∧GLm h6.length (b+1) 130 2 (h7.set b (⟨0,59,[.v (.string ⟨nm.toArray⟩),N,X,.v (.slice none 0 0)]⟩:ABlk)) N xs.length (xs.flatMap Pt.cells):=
   ⟨Be hbl7,(Bn hbi).trans r7,F7.trans (Fr.set (S:=Io i h.length) _ (.inr (by omega))) fun k e=>.inl e,(Bn (by omega)).trans kr7,rX.up (Fr.set (S:=IsI b) _ rfl) (fun k e _=>by have e:k=b:=e;show k<h6.length;omega) (fun k e _=>e),Bl,G7.fr (Fr.set (S:=IsI b) _ rfl) (fun k e _=>by have e:k=b:=e;exact⟨.inl (by omega),fun hn=>by have:=(G7.lt hn).1;omega⟩)⟩
  generalize h7.set b (⟨0,59,[.v (.string ⟨nm.toArray⟩),N,X,.v (.slice none 0 0)]⟩:ABlk)=h8 at kb8 r8 F8 kr8 rX8 hl8 G8⊢;refine callD c133 (dbody_ev E b7 r8) (fun bd p9 A h9 e9 f9 r9 hA=>?_) (fun q e' h9 e9 f9=>?_)
  rotate_left
  ·rw[e9];exact⟨Io.fin (F8.trans (Io.i f9) fun k e=>.inl e),rfl⟩
  rw[e9];have kb9:=f9.at kb8 hbi;have hbl8:=(Bs.1 kb8).1;have hbl9:=(Bs.1 kb9).1;have F9:=F8.trans (Io.i (n0:=h.length) f9) fun k e=>.inl e
  have kr9:=f9.at kr8 (fun e=>by have e:h.length=i:=e;omega);have G9:=G8.fr f9 (fun k e _=>by have e:k=i:=e;exact⟨.inl (by omega),fun hn=>by have:=(G8.lt hn).1;omega⟩);have rX9:=rX8.up (S':=fun k=>k<h6.length∨h8.length≤k) f9 (fun k e _=>by have e:k=i:=e;show k<h6.length;omega) (fun k e hk=>by show k<h6.length;omega);have hA:Rd (.s 135) (Old h8.length) h9 (actsA bd) A:=hA;obtain⟨oA,fA⟩:=rd_one hA;obtain⟨oN,fN⟩:=G9.one;have hrl9:=(Bs.1 kr9).1;have q1:∀ c,(h9.set b c)[b]?=some c:=fun c=>Be hbl9
  have q2:∀ c,(h9.set b c)[h.length]?=some ⟨0,59,[.v (.string ⟨#[]⟩),.v (.slice none 0 0),.v (.slice none 0 0),.v (.slice none 0 0)]⟩:=fun c=>(Bn (by omega)).trans kr9
  have q3:∀ c d,((h9.set b c).set h.length d)[h.length]?=some d:=fun c d=>Be (by rw[Bl];exact hrl9)
  simp only[tyD,kb9,oG,oA,fA,oN,q1,q2,q3,setMany,evG,Nat.reduceAdd,Nat.reduceLT,Nat.reduceLeDiff,Nat.reduceEqDiff,reduceCtorEq];have FZ:∀ c d,Fr (fun k=>k=b∨k=h.length) h9 ((h9.set b c).set h.length d):=fun c d=>(Fr.set (S:=fun k=>k=b∨k=h.length) _ (.inl rfl)).trans (Fr.set (S:=fun k=>k=b∨k=h.length) _ (.inr rfl)) fun k e=>.inl e
  have rdN:=G9.rd.up (S':=fun k=>k<h.length∨h6.length≤k) (FZ ⟨0,59,[.v (.string ⟨nm.toArray⟩),N,X,A]⟩ ⟨0,59,[.v (.string ⟨nm.toArray⟩),N,X,A]⟩) (fun k e _=>.inl (by rcases e with e|e<;>omega)) (fun k e _=>e.imp (fun e=>by omega) id);have rdX:=rX9.up (S':=fun k=>k<h6.length∨h8.length≤k) (FZ ⟨0,59,[.v (.string ⟨nm.toArray⟩),N,X,A]⟩ ⟨0,59,[.v (.string ⟨nm.toArray⟩),N,X,A]⟩) (fun k e _=>.inl (by rcases e with e|e<;>omega)) (fun k e _=>e);have rdA:=hA.up (S':=Old h8.length) (FZ ⟨0,59,[.v (.string ⟨nm.toArray⟩),N,X,A]⟩ ⟨0,59,[.v (.string ⟨nm.toArray⟩),N,X,A]⟩) (fun k e _=>by show k<h8.length;rcases e with e|e<;>omega) (fun k e _=>e);exact⟨Io.fin (F9.trans (FZ _ _) fun k e=>.inl (e.elim (fun e=>.inr (by omega)) fun e=>.inr (by omega))),_,rfl,(Bn (by omega)).trans ((Bn hbi).trans r9),Rd.agg (RdL.ch rdN rdX rdA (by omega) (by omega))⟩
 ·have eG:guardD ts p=.ok [] p:=by unfold guardD;rw[if_neg (by rw[hW];decide)]
  rw[eG];have eC6:(DR.ok [] p).bind (fun g p6=>(bodyD ts p6).bind fun b p7=>DR.ok (⟨nm,xs,g,b⟩:Ch) p7)=(bodyD ts p).bind fun b p7=>.ok ⟨nm,xs,[],b⟩ p7:=rfl
  rw[eC6];have kb8:=f6.at kb5 hbi;have F8:=F5.trans (Io.i (n0:=h.length) f6) fun k e=>.inl e
  have kr8:=f6.at kr5 (fun e=>by have e:h.length=i:=e;omega);have G8:=G5.fr0 f6 (fun k e=>by have e:k=i:=e;omega);have r8:=r6;have b7:=hp;obtain⟨gx,hgx⟩:∃ gx:List Nd,gx=[]:=⟨_,rfl⟩;have oG:oneA (nodesA gx)=true:=by cases gx<;>rfl
  have fG:flat (nodesA gx)=some [nodesA gx]:=by cases gx<;>rfl
  have hgn:(.v (.slice none 0 0):AV)=nodesA gx:=by rw[hgx];rfl
  have kb8:h6[b]?=some ⟨0,59,[.v (.string ⟨nm.toArray⟩),N,nodesA gx,.v (.slice none 0 0)]⟩:=by rw[←hgn];exact kb8
  rw[←hgx];simp only[evG,Nat.reduceLT,Nat.reduceEqDiff,reduceCtorEq];obtain⟨h8,e8⟩:∃ h8,h8=h6:=⟨_,rfl⟩;obtain⟨p7,e7⟩:∃ p7,p7=p:=⟨_,rfl⟩;rw[←e8]at kb8 F8 kr8 G8 r8⊢;rw[←e7]at r8 b7⊢;refine callD c133 (dbody_ev E b7 r8) (fun bd p9 A h9 e9 f9 r9 hA=>?_) (fun q e' h9 e9 f9=>?_)
  rotate_left
  ·rw[e9];exact⟨Io.fin (F8.trans (Io.i f9) fun k e=>.inl e),rfl⟩
  rw[e9];have kb9:=f9.at kb8 hbi;have hbl8:=(Bs.1 kb8).1;have hbl9:=(Bs.1 kb9).1;have F9:=F8.trans (Io.i (n0:=h.length) f9) fun k e=>.inl e
  have kr9:=f9.at kr8 (fun e=>by have e:h.length=i:=e;omega);have G9:=G8.frm0 f9 (fun k e=>by have e:k=i:=e;omega);have hA:Rd (.s 135) (Old h8.length) h9 (actsA bd) A:=hA;obtain⟨oA,fA⟩:=rd_one hA;obtain⟨oN,fN⟩:=G9.one;have hrl9:=(Bs.1 kr9).1;have q1:∀ c,(h9.set b c)[b]?=some c:=fun c=>Be hbl9
  have q2:∀ c,(h9.set b c)[h.length]?=some ⟨0,59,[.v (.string ⟨#[]⟩),.v (.slice none 0 0),.v (.slice none 0 0),.v (.slice none 0 0)]⟩:=fun c=>(Bn (by omega)).trans kr9
  have q3:∀ c d,((h9.set b c).set h.length d)[h.length]?=some d:=fun c d=>Be (by rw[Bl];exact hrl9)
  simp only[tyD,kb9,oG,oA,fA,oN,q1,q2,q3,setMany,evG,Nat.reduceAdd,Nat.reduceLT,Nat.reduceLeDiff,Nat.reduceEqDiff,reduceCtorEq];have FZ:∀ c d,Fr (fun k=>k=b∨k=h.length) h9 ((h9.set b c).set h.length d):=fun c d=>(Fr.set (S:=fun k=>k=b∨k=h.length) _ (.inl rfl)).trans (Fr.set (S:=fun k=>k=b∨k=h.length) _ (.inr rfl)) fun k e=>.inl e
  have rdN:=G9.rd.up (S':=fun k=>k<h.length∨h8.length≤k) (FZ ⟨0,59,[.v (.string ⟨nm.toArray⟩),N,nodesA gx,A]⟩ ⟨0,59,[.v (.string ⟨nm.toArray⟩),N,nodesA gx,A]⟩) (fun k e _=>.inl (by rcases e with e|e<;>omega)) (fun k e _=>e.imp (fun e=>by omega) id);have rdX:∀ h',Rd (.s 115) (fun k=>k<h8.length∨h8.length≤k) h' (nodesA gx) (nodesA gx):=fun h'=>by rw[hgx];exact Rd.none
  have rdA:=hA.up (S':=Old h8.length) (FZ ⟨0,59,[.v (.string ⟨nm.toArray⟩),N,nodesA gx,A]⟩ ⟨0,59,[.v (.string ⟨nm.toArray⟩),N,nodesA gx,A]⟩) (fun k e _=>by show k<h8.length;rcases e with e|e<;>omega) (fun k e _=>e);exact⟨Io.fin (F9.trans (FZ _ _) fun k e=>.inl (e.elim (fun e=>.inr (by omega)) fun e=>.inr (by omega))),_,rfl,(Bn (by omega)).trans ((Bn hbi).trans r9),Rd.agg (RdL.ch rdN (rdX _) rdA (by omega) (BL _))⟩
end Go.Proofs.YtlobiioioicmhaaGreatDoor.O
namespace Go.Proofs.YtlobiioioicmhaaGreatDoor
open _root_.List renaming getElem?_eq_some_iff→Bs,getElem?_append_left→Ba,getElem?_set_self→Be,getElem?_set_ne→Bn,length_set→Bl,append_assoc→Bo,cons_append→Bc,nil_append→Bi,getElem?_cons_zero→Bz,getElem?_cons_succ→Bu,set_cons_zero→Bx,set_cons_succ→Bw,length_map→Bk,set_append_left→Bg,take_of_length_le→Bt,length_take→Bh,prefix_rfl→BB,mem_cons→BI,getElem?_toArray→BU,set_append_right→BV
open _root_.Nat renaming le_refl→BL,le_trans→BM,zero_le→BN,lt_of_lt_of_le→BO
open Go.Proofs.Tryz renaming prog→Tp
open Go Go.Ev
set_option maxRecDepth 20000
variable {γ:List (Nat×AV)} {ts:List Tk} {L:AV}
theorem realB_lt'(m:Nat)(e:Int):realB m e<9223372036854775808:=by
 unfold realB
 split
 ·decide
 ·unfold dblN;exact Nat.lt_of_le_of_lt (Nat.min_le_right _ _) (by decide)
theorem markN_le(s:List UInt8):markN s≤2:=by
 unfold markN
 split
 ·omega
 ·split<;>omega
theorem headD_small{s:List UInt8}{t:TokD}(h:headD s=.ok t):t.text.length≤256∧t.real<9223372036854775808:=by
 unfold headD at h
 split at h
 ·split at h
  ·cases h
  ·rename_i h32;cases h;exact⟨by show (s.take _).length≤256;rw[Bh];omega,by show 0<_;decide⟩
 ·split at h
  ·unfold numberD realD at h
   split at h
   ·split at h
    ·cases h;exact⟨by show 0≤256;decide,realB_lt' _ _⟩
    ·cases h
   ·split at h
    ·cases h;exact⟨by show 0≤256;decide,by show 0<_;decide⟩
    ·cases h
  ·split at h
   ·unfold textD at h
    split at h
    ·cases h
    ·rename_i d n hq;cases h;exact⟨textF_256 _ _ _ _ _ _ hq,by show 0<_;decide⟩
   ·split at h
    ·cases h
    ·cases h;exact⟨by show (s.take _).length≤256;have:=markN_le s;rw[Bh];omega,by show 0<_;decide⟩
theorem toks_ok{l:List UInt8}{L:List (TokD×Nat)}(h:okToks l=some L):∀ t∈L.map tkOf,okTk t:=by
 intro t ht;obtain⟨x,hx,rfl⟩:=List.mem_map.1 ht;obtain⟨s,hs,_⟩:=okToks_head h hx;have:=headD_small hs;exact⟨by show x.1.text.length≤_;omega,by show x.1.real<_;omega⟩
theorem LAs_list(L:List (TokD×Nat)):LAs (listA L) (L.map tkOf):=by
 cases L with
 |nil=>exact .inl ⟨rfl,rfl⟩
 |cons x L=>exact .inr ⟨false,(x::L).length,listCells (x::L),by rw[Bk];rfl,by rw[tks_cells];exact BB,by rw[←tks_cells,tkCells_length,Bk];exact BL _,by rw[Bk];exact BL _⟩
theorem envD{l:List UInt8}{L:List (TokD×Nat)}(hγ:Gl γ)(hγ2:GlW γ)(h:okToks l=some L):EnvD γ (listA L) (L.map tkOf):=
 ⟨hγ,hγ2,LAs_list L,toks_ok h,by have:=small_toks h;rw[Bk];omega⟩
def readO{α:Type}(z:α)(D:List Tk→DR α)(l:List UInt8):α×Int×Int:=match okToks l with
 |none=>match (eachItems l).find? badI with
  |some x=>(z,x.1.2,x.2)
  |none=>(z,0,0)
 |some L=>match D (L.map tkOf)with
  |.bad q e=>(z,plO (L.map tkOf) l.length q,e)
  |.ok x q=>if q<L.length then (z,plO (L.map tkOf) l.length q,80)else (x,0,0)
def zCh:Ch:=⟨[],[],[],[]⟩
def chordO(l:List UInt8):Ch×Int×Int:=readO zCh (fun ts=>chordD ts 0) l
theorem c126:bodyT Tp 126:=⟨_,Tryz.func126,by kernel_rfl,by kernel_rfl⟩
theorem c71:bodyT Tp 71:=⟨_,Tryz.func71,by kernel_rfl,by kernel_rfl⟩
theorem read71_none{h:List ABlk}{a b c:Nat}:EvD Tp γ 126 [.ptr a 0 0,.ptr b 0 0,.ptr c 0 0] h none fun h'=>h'=h:=by
 refine EvD.of Tryz.func126 rfl rfl ?_;simp only[recV,Tryz.f126,endR_normal,evE,tyX,Nat.reduceAdd,Nat.reduceSub,Nat.reduceLT,Nat.reduceEqDiff,reduceCtorEq]
theorem read71_some{h:List ABlk}{a b c:Nat}{pl e:Int}{x:List AV}{y z:AV}(ha:h[a]?=some ⟨0,59,x⟩)(hb:h[b]?=some ⟨0,3,[y]⟩)(hc:h[c]?=some ⟨0,26,[z]⟩)(hx:x.length=4)(hab:a≠b)(hac:a≠c)(hbc:b≠c):
  EvD Tp γ 126 [.ptr a 0 0,.ptr b 0 0,.ptr c 0 0] h (some (stopA pl e)) fun h'=>Fr (fun k=>k=a∨k=b∨k=c) h h'∧h'[a]?=some ⟨0,59,[.v (.string ⟨#[]⟩),.v (.slice none 0 0),.v (.slice none 0 0),.v (.slice none 0 0)]⟩∧h'[b]?=some ⟨0,3,[intC pl]⟩∧h'[c]?=some ⟨0,26,[intC e]⟩:=by
 have hal:=(Bs.1 ha).1;have hbl:=(Bs.1 hb).1;have hcl:=(Bs.1 hc).1;have ga:∀ l,(h++l)[a]?=some ⟨0,59,x⟩:=fun l=>(Ba hal).trans ha
 have gb:∀ l,(h++l)[b]?=some ⟨0,3,[y]⟩:=fun l=>(Ba hbl).trans hb
 have gc:∀ l,(h++l)[c]?=some ⟨0,26,[z]⟩:=fun l=>(Ba hcl).trans hc
 have sa:∀ l d,(h++l).set a d=h.set a d++l:=fun l d=>Bg _ _ hal
 have sb:∀ l d k,(h.set a d++l).set b k=(h.set a d).set b k++l:=fun l d k=>Bg _ _ (by rw[Bl];exact hbl)
 have sc:∀ l d k m,((h.set a d).set b k++l).set c m=((h.set a d).set b k).set c m++l:=fun l d k m=>Bg _ _ (by rw[Bl,Bl];exact hcl)
 have gb2:∀ l d,(h.set a d++l)[b]?=some ⟨0,3,[y]⟩:=fun l d=>(Ba (by rw[Bl];exact hbl)).trans ((Bn hab).trans hb)
 have gc2:∀ l d k,((h.set a d).set b k++l)[c]?=some ⟨0,26,[z]⟩:=fun l d k=>(Ba (by rw[Bl,Bl];exact hcl)).trans ((Bn hbc).trans ((Bn hac).trans hc))
 refine EvD.of Tryz.func126 rfl rfl ?_;simp only[recV,stopA,intC,tyD,Tryz.f126,at_len,set_len,Bo,Bc,Bi,evE,tyX,Nat.reduceAdd,Nat.reduceSub,Nat.reduceLT,Nat.reduceLeDiff,Nat.reduceEqDiff,reduceCtorEq]
 match x,hx with
 |[x0,x1,x2,x3],_=>
 refine DrawK.orders2 [[0,1,2,3,4,5,6,7],[0,1,2,3,5,4,6,7],[0,1,2,3,5,6,4,7],[0,1,2,5,3,4,6,7],[0,1,2,5,3,6,4,7],[0,1,2,5,6,3,4,7],[0,1,3,4,5,2,6,7],[0,1,3,5,2,4,6,7],[0,1,3,5,2,6,4,7],[0,1,5,2,3,4,6,7],[0,1,5,2,3,6,4,7],[0,1,5,2,6,3,4,7],[0,3,4,5,1,2,6,7],[0,3,5,1,2,4,6,7],[0,3,5,1,2,6,4,7],[0,5,1,2,3,4,6,7],[0,5,1,2,3,6,4,7],[0,5,1,2,6,3,4,7]] (by kernel_rfl) (by kernel_rfl) (by kernel_rfl) (fun p hp=>?_);have hl1:∀ d,(h.set a d).length=h.length:=fun d=>Bl
 have hl2:∀ d k,((h.set a d).set b k).length=h.length:=fun d k=>by rw[Bl,Bl]
 have w1:∀ d x l,(h.set a d++x::l)[h.length]?=some x:=fun d x l=>at_lenS _ _ _ _ _
 have w2:∀ d k x l,((h.set a d).set b k++x::l)[h.length]?=some x:=fun d k x l=>by have:=at_len ((h.set a d).set b k) x l;rwa [hl2]at this
 simp only[BI,List.not_mem_nil,or_false]at hp
 rcases hp with rfl|rfl|rfl|rfl|rfl|rfl|rfl|rfl|rfl|rfl|rfl|rfl|rfl|rfl|rfl|rfl|rfl|rfl
 all_goals simp only[seqT,BU,Bu,Bz,tyD,at_len,at_len1,ga,gb2,gc2,sa,sb,sc,w1,w2,setMany,Bx,Bw,endR_normal,resS,evE,tyX,Nat.reduceAdd,Nat.reduceLT,Nat.reduceLeDiff,Nat.reduceEqDiff,reduceCtorEq]
 all_goals refine⟨(((Fr.set (S:=fun k=>k=a∨k=b∨k=c) _ (.inl rfl)).trans (Fr.set (S:=fun k=>k=a∨k=b∨k=c) _ (.inr (.inl rfl))) fun k e=>.inl e).trans (Fr.set (S:=fun k=>k=a∨k=b∨k=c) _ (.inr (.inr rfl))) fun k e=>.inl e).trans (Fr.app (S:=NoB) _ _) fun k e=>e.elim,?_,?_,?_⟩
 all_goals refine (Ba (by simp only[Bl];assumption)).trans ?_
 all_goals first
  |exact (Bn (Ne.symm hac)).trans ((Bn (Ne.symm hab)).trans (Be hal))
  |exact (Bn (Ne.symm hbc)).trans (Be (by simp only[Bl];exact hbl))
  |exact Be (by simp only[Bl];exact hcl)
end Go.Proofs.YtlobiioioicmhaaGreatDoor
namespace Go.Proofs.YtlobiioioicmhaaGreatDoor.O
open _root_.List renaming getElem?_eq_some_iff→Bs,getElem?_append_left→Ba,getElem?_set_self→Be,getElem?_set_ne→Bn,length_set→Bl,append_assoc→Bo,cons_append→Bc,nil_append→Bi,getElem?_cons_zero→Bz,getElem?_cons_succ→Bu,set_cons_zero→Bx,set_cons_succ→Bw,length_map→Bk,set_append_left→Bg,take_of_length_le→Bt,length_take→Bh,prefix_rfl→BB,mem_cons→BI,getElem?_toArray→BU,set_append_right→BV
open _root_.Nat renaming le_refl→BL,le_trans→BM,zero_le→BN,lt_of_lt_of_le→BO
open Go.Proofs.Tryz renaming prog→Tp
open Go Go.Ev
set_option maxRecDepth 20000
variable {γ:List (Nat×AV)} {ts:List Tk} {L:AV}
theorem rd_chord{m:Nat}{h:List ABlk}{c:Ch}{a:AV}(r:RdA (.g (kT 59)) (fun c:Ch=>.agg c.cells) m c a h):∃ x1 x2 x3,a=.agg [strC c.name,x1,x2,x3]∧(oneA x1=true∧flat x1=some [x1])∧(oneA x2=true∧flat x2=some [x2])∧oneA x3=true∧flat x3=some [x3]:=by
 obtain⟨xs,rfl,k⟩:=rd_agg r;obtain⟨x0,xs,rfl,k0,k⟩:=rdL_cons (k:=.v) (ks:=[.s 130,.s 115,.s 135]) k;obtain⟨x1,xs,rfl,k1,k⟩:=rdL_cons (k:=.s 130) (ks:=[.s 115,.s 135]) k;obtain⟨x2,xs,rfl,k2,k⟩:=rdL_cons (k:=.s 115) (ks:=[.s 135]) k;obtain⟨x3,xs,rfl,k3,k⟩:=rdL_cons (k:=.s 135) (ks:=[]) k;obtain rfl:=rdL_nil k;obtain rfl:=rd_val k0;exact⟨x1,x2,x3,rfl,rd_one k1,rd_nodes k2,rd_one k3⟩
theorem rd_zCh{m:Nat}{h:List ABlk}:Rd (.g (kT 59)) (Old m) h (.agg (Ch.cells ⟨[],[],[],[]⟩)) (.agg [.v (.string ⟨#[]⟩),.v (.slice none 0 0),.v (.slice none 0 0),.v (.slice none 0 0)]):=
 Rd.agg (RdL.ch (x:=⟨[],[],[],[]⟩) (m1:=m) (m2:=m) (m3:=m) Rd.none Rd.none Rd.none (BL _) (BL _))
def RdT{α:Type}(k:Ki)(f:α→AV)(r:α×Int×Int)(h:List ABlk)(o:Out)(h':List ABlk):Prop:=
 Fr NoB h h'∧∃ A,o=.ret (.tup [A,intC r.2.1,intC r.2.2])∧Rd k (Old h.length) h' (f r.1) A
theorem dread71_ev(hγ:Gl γ)(hγ2:GlW γ)(x:AV)(l:List UInt8)(h:List ABlk)(hsc:∀ (l1:List ABlk) (s:Slots) (d:Option Tmp) (K:St→Prop),s.g=γ→K (pt ⟨s,h++l1⟩ d (scanA l))→CallK Tp 58 [x] d K ⟨s,h++l1⟩)(hxl:∀ l1:List ABlk,lenS Tp 37 (h++l1) x=some (.v (.int .i64 l.length))):EvM Tp γ 71 [x,.v (.func (.func 72) #[] #[])] h (RdT (.g (kT 59)) (fun c:Ch=>.agg c.cells) (chordO l) h):=by
 have hr:Tryz.f71.results.toList=[.cell 4 59,.cell 5 3,.cell 6 26]:=by kernel_rfl
 have hn:Tryz.f71.ntmps=42:=by kernel_rfl
 refine EvM.ofDK Tryz.func71 rfl (DefK.step ?_);simp only[hr,hn,tyD,Bo,Bc,Bi,evE,tyX,Nat.reduceAdd,Nat.reduceSub,Nat.reduceLT];refine DefK.step ?_;simp only[hr,evE,Nat.reduceLT,Nat.reduceEqDiff,reduceCtorEq];refine CallE.pure (hsc _ _ _ _ rfl ?_);have hh59:∀ c,((h++[c,⟨0,3,[.v (.int .i64 0)]⟩,⟨0,26,[.v (.int .i64 0)]⟩]:List ABlk))[h.length+2]?=some ⟨0,26,[.v (.int .i64 0)]⟩:=fun c=>by simp
 have at2:∀ (x y z:ABlk) l,(h++x::y::z::l)[h.length+2]?=some z:=fun x y z l=>by simp
 have at3:∀ (x y z u:ABlk) l,(h++x::y::z::u::l)[h.length+3]?=some u:=fun x y z u l=>by simp
 have st2:∀ (x y z:ABlk) l c,(h++x::y::z::l).set (h.length+2) c=h++x::y::c::l:=fun x y z l c=>by
  rw[BV _ _ (by omega),show h.length+2-h.length=2 by omega];rfl
 cases e:okToks l with
 |none=>
  obtain⟨x,hx,hk,hr2⟩:=scan_noToks e;have d1:(x.2 != 0)=true:=by simpa using hk
  have hP:chordO l=(zCh,((x.1.2:Nat):Int),x.2):=by unfold chordO readO;rw[e];simp only[hx]
  rw[hr2,hP];simp only[tyD,at_len1,at2,set_len1,st2,evE,tyX,Nat.reduceLT,Nat.reduceLeDiff,Nat.reduceEqDiff,reduceCtorEq];refine DefK.step ?_;simp only[hr,tyD,at2,d1,evE,Nat.reduceLT,Nat.reduceEqDiff,reduceCtorEq];refine DrawK.orders2 [[0,1,2,3,4,5],[0,1,3,2,4,5],[0,1,3,4,2,5],[0,2,3,1,4,5],[0,3,1,2,4,5],[0,3,1,4,2,5]] (by kernel_rfl) (by kernel_rfl) (by kernel_rfl) (fun p hp=>?_);simp only[BI,List.not_mem_nil,or_false]at hp
  rcases hp with rfl|rfl|rfl|rfl|rfl|rfl
  all_goals simp only[seqT,BU,Bu,Bz,tyD,at_len,at_len1,at2,set_len,set_len1,st2,setMany,Bx,Bw,evE,tyX,Nat.reduceAdd,Nat.reduceLT,Nat.reduceLeDiff,Nat.reduceEqDiff,reduceCtorEq]
  all_goals exact⟨Fr.app _ _,_,rfl,rd_zCh⟩
 |some L=>
  have hE:=envD hγ hγ2 e;have hml:(L.map tkOf).length=L.length:=Bk ..;have z0:((0:Int) != 0)=false:=rfl;have fl:=flat_list L;have fo:=one_list L;have e0:(#[]:Array Operand).isEmpty=true:=rfl;rw[scan_okToks e];simp only[tyD,at_len1,at2,set_len1,st2,evE,tyX,Nat.reduceLT,Nat.reduceLeDiff,Nat.reduceEqDiff,reduceCtorEq];refine DefK.step ?_;simp only[hr,tyD,at2,z0,evE,Nat.reduceLT,Nat.reduceEqDiff,reduceCtorEq];refine DefK.step ?_;simp only[hr,tyD,hxl,fl,fo,Bo,Bc,Bi,evE,Nat.reduceAdd,Nat.reduceLT,Nat.reduceLeDiff,Nat.reduceEqDiff,reduceCtorEq];refine DefK.defer ?_;simp only[kopsD,deferT,e0,hr,evE,Nat.reduceLT,Nat.reduceEqDiff,reduceCtorEq];have hlen:(h++[(⟨0,59,[.v (.string ⟨#[]⟩),.v (.slice none 0 0),.v (.slice none 0 0),.v (.slice none 0 0)]⟩:ABlk),⟨0,3,[.v (.int .i64 0)]⟩,⟨0,26,[.v (.int .i64 0)]⟩,⟨0,199,[listA L,.v (.int .i64 0),.v (.int .i64 (l.length:Int))]⟩]).length=h.length+4:=by simp
  refine callS (S:=IsI (h.length+3)) (L:=listA L) (i:=h.length+3) (n:=l.length) (A:=RdA (.g (kT 59)) (fun c:Ch=>.agg c.cells) (h.length+4)) (r:=chordD (L.map tkOf) 0) c72 (by have:=dchord_ev (h:=h++[(⟨0,59,[.v (.string ⟨#[]⟩),.v (.slice none 0 0),.v (.slice none 0 0),.v (.slice none 0 0)]⟩:ABlk),⟨0,3,[.v (.int .i64 0)]⟩,⟨0,26,[.v (.int .i64 0)]⟩,⟨0,199,[listA L,.v (.int .i64 0),.v (.int .i64 (l.length:Int))]⟩]) (i:=h.length+3) (n:=l.length) (p:=0) hE (BN _) (at3 _ _ _ _ _);rw[hlen]at this;exact this) (fun c q A h1 er f1 r1 hA=>?_) (fun q e' h1 er f1=>?_)
  rotate_left
  ·have hP:chordO l=(zCh,plO (L.map tkOf) l.length q,e'):=by unfold chordO readO;rw[e];simp only[er]
   rw[hP];have ka:=f1.at (k:=h.length) (at_len _ _ _) (fun e=>by have e:h.length=h.length+3:=e;omega);have kb:=f1.at (k:=h.length+1) (at_len1 _ _ _ _) (fun e=>by have e:h.length+1=h.length+3:=e;omega);have kc:=f1.at (k:=h.length+2) (at2 _ _ _ _) (fun e=>by have e:h.length+2=h.length+3:=e;omega);have F1:Fr NoB h h1:=(Fr.app (S:=NoB) h _).trans f1 fun k e=>.inr (by have e:k=h.length+3:=e;omega)
   simp only[endD,evE,tyX,Nat.reduceEqDiff,reduceCtorEq];refine⟨c126,_,read71_some ka kb kc rfl (by omega) (by omega) (by omega),fun h' hh=>?_⟩;obtain⟨F',ka',kb',kc'⟩:=hh;simp only[tyD,ka',kb',kc',evE,Nat.reduceAdd,Nat.reduceLeDiff,reduceCtorEq];exact⟨⟨BM F1.1 F'.1,fun k hk hn=>(F'.2 k (BO hk F1.1) fun e=>by rcases e with e|e|e<;>omega).trans (F1.2 k hk fun e=>e)⟩,_,rfl,rd_zCh⟩
  have adv:=chord_adv (ts:=L.map tkOf) (p:=0) (BN _);rw[er]at adv;have ka:=f1.at (k:=h.length) (at_len _ _ _) (fun e=>by have e:h.length=h.length+3:=e;omega);have kb:=f1.at (k:=h.length+1) (at_len1 _ _ _ _) (fun e=>by have e:h.length+1=h.length+3:=e;omega);have kc:=f1.at (k:=h.length+2) (at2 _ _ _ _) (fun e=>by have e:h.length+2=h.length+3:=e;omega);have F1:Fr NoB h h1:=(Fr.app (S:=NoB) h _).trans f1 fun k e=>.inr (by have e:k=h.length+3:=e;omega)
  obtain⟨x1,x2,x3,rfl,⟨o1,g1⟩,⟨o2,g2⟩,o3,g3⟩:=rd_chord hA;have hal:=(Bs.1 ka).1;have hbl:=(Bs.1 kb).1;have hcl:=(Bs.1 kc).1;have hfa:∀ s,flat (strC s)=some [strC s]:=fun s=>rfl
  have hoa:∀ s,oneA (strC s)=true:=fun s=>rfl
  simp only[tyD,ka,o1,o2,o3,hoa,setMany,Bx,Bw,evE,Nat.reduceAdd,Nat.reduceLT,Nat.reduceLeDiff,Nat.reduceEqDiff,reduceCtorEq]
  obtain⟨ka2,kb2,kc2,r2,F2⟩:(h1.set h.length (⟨0,59,[strC c.name,x1,x2,x3]⟩:ABlk))[h.length]?=some ⟨0,59,[strC c.name,x1,x2,x3]⟩∧(h1.set h.length (⟨0,59,[strC c.name,x1,x2,x3]⟩:ABlk))[h.length+1]?=some ⟨0,3,[.v (.int .i64 0)]⟩∧(h1.set h.length (⟨0,59,[strC c.name,x1,x2,x3]⟩:ABlk))[h.length+2]?=some ⟨0,26,[.v (.int .i64 0)]⟩∧RD (h1.set h.length (⟨0,59,[strC c.name,x1,x2,x3]⟩:ABlk)) (h.length+3) (listA L) q l.length∧Fr NoB h (h1.set h.length (⟨0,59,[strC c.name,x1,x2,x3]⟩:ABlk)):=
   ⟨Be hal,(Bn (by omega)).trans kb,(Bn (by omega)).trans kc,(Bn (by omega)).trans r1,F1.trans (Fr.set (S:=IsI h.length) _ rfl) fun k e=>.inr (by have e:k=h.length:=e;omega)⟩
  have hA2:Rd (.g (kT 59)) (Old (h.length+4)) h1 (.agg c.cells) (.agg [strC c.name,x1,x2,x3]):=hA;have hA3:=hA2.up (S':=fun k=>k<h.length+3) (Fr.set (S:=IsI h.length) (h:=h1) (⟨0,59,[strC c.name,x1,x2,x3]⟩:ABlk) rfl) (fun k e _=>by have e:k=h.length:=e;show k<h.length+4;omega) (fun k e _=>by show k<h.length+4;omega);generalize h1.set h.length (⟨0,59,[strC c.name,x1,x2,x3]⟩:ABlk)=h2 at ka2 kb2 kc2 r2 F2 hA3⊢;have r2':h2[h.length+3]?=_:=r2;have ll:=lenS48 h2 L;refine dI ?_
  by_cases hq:q<L.length
  ·have d2:decide (q<L.length)=true:=decide_eq_true hq;have hP:chordO l=(zCh,plO (L.map tkOf) l.length q,80):=by unfold chordO readO;rw[e];simp only[er,if_pos hq]
   rw[hP];simp only[tyD,r2',ll,d2,evE,tyX,Nat.reduceLT,Nat.reduceEqDiff,reduceCtorEq];refine CallE.intro c127 _ (dfail_ev hE r2 80) (fun r h3 hh=>by cases hh.1) (fun v h3 hh=>?_);obtain⟨eo,rfl⟩:=hh;cases eo;simp only[endD,evE,tyX,Nat.reduceEqDiff,reduceCtorEq];refine⟨c126,_,read71_some ka2 kb2 kc2 rfl (by omega) (by omega) (by omega),fun h' hh=>?_⟩;obtain⟨F',ka',kb',kc'⟩:=hh;simp only[tyD,ka',kb',kc',evE,Nat.reduceAdd,Nat.reduceLeDiff,reduceCtorEq];exact⟨⟨BM F2.1 F'.1,fun k hk hn=>(F'.2 k (BO hk F2.1) fun e=>by rcases e with e|e|e<;>omega).trans (F2.2 k hk fun e=>e)⟩,_,rfl,rd_zCh⟩
  have d2:decide (q<L.length)=false:=decide_eq_false hq;have hP:chordO l=(c,0,0):=by unfold chordO readO;rw[e];simp only[er,if_neg hq]
  rw[hP];have hal2:=(Bs.1 ka2).1;have hbl2:=(Bs.1 kb2).1;have hcl2:=(Bs.1 kc2).1;have qb:∀ d,(h2.set h.length d)[h.length+1]?=some ⟨0,3,[.v (.int .i64 0)]⟩:=fun d=>(Bn (by omega)).trans kb2
  have qc:∀ d k,((h2.set h.length d).set (h.length+1) k)[h.length+2]?=some ⟨0,26,[.v (.int .i64 0)]⟩:=fun d k=>(Bn (by omega)).trans ((Bn (by omega)).trans kc2)
  simp only[tyD,r2',ll,d2,ka2,qb,qc,o1,o2,o3,hoa,setMany,Bx,Bw,endDP_ret,endD,evE,tyX,Nat.reduceAdd,Nat.reduceLT,Nat.reduceLeDiff,Nat.reduceEqDiff,reduceCtorEq];have sa:∀ d k m,(((h2.set h.length d).set (h.length+1) k).set (h.length+2) m)[h.length]?=some d:=fun d k m=>(Bn (by omega)).trans ((Bn (by omega)).trans (Be hal2))
  have sb:∀ d k m,(((h2.set h.length d).set (h.length+1) k).set (h.length+2) m)[h.length+1]?=some k:=fun d k m=>(Bn (by omega)).trans (Be (by simp only[Bl];exact hbl2))
  have sc:∀ d k m,(((h2.set h.length d).set (h.length+1) k).set (h.length+2) m)[h.length+2]?=some m:=fun d k m=>Be (by simp only[Bl];exact hcl2)
  refine⟨c126,_,read71_none,fun h' hh=>?_⟩;subst hh;simp only[sa,sb,sc,evE,Nat.reduceAdd,Nat.reduceLeDiff];have FZ:∀ d k m,Fr (fun x=>x=h.length∨x=h.length+1∨x=h.length+2) h2 (((h2.set h.length d).set (h.length+1) k).set (h.length+2) m):=fun d k m=>((Fr.set (S:=fun x=>x=h.length∨x=h.length+1∨x=h.length+2) _ (.inl rfl)).trans (Fr.set (S:=fun x=>x=h.length∨x=h.length+1∨x=h.length+2) _ (.inr (.inl rfl))) fun k e=>.inl e).trans (Fr.set (S:=fun x=>x=h.length∨x=h.length+1∨x=h.length+2) _ (.inr (.inr rfl))) fun k e=>.inl e
  exact⟨F2.trans (FZ _ _ _) fun k e=>.inr (by rcases e with e|e|e<;>omega),_,rfl,hA3.up (FZ _ _ _) (fun k e _=>by rcases e with e|e|e<;>(show k<h.length+3;omega)) (fun k e _=>by have e:k<h.length:=e;show k<h.length+3;omega)⟩
end Go.Proofs.YtlobiioioicmhaaGreatDoor.O
namespace Go.Proofs.YtlobiioioicmhaaGreatDoor
open _root_.List renaming getElem?_eq_some_iff→Bs,getElem?_append_left→Ba,getElem?_set_self→Be,getElem?_set_ne→Bn,length_set→Bl,append_assoc→Bo,cons_append→Bc,nil_append→Bi,getElem?_cons_zero→Bz,getElem?_cons_succ→Bu,set_cons_zero→Bx,set_cons_succ→Bw,length_map→Bk,set_append_left→Bg,take_of_length_le→Bt,length_take→Bh,prefix_rfl→BB,mem_cons→BI,getElem?_toArray→BU,set_append_right→BV
open _root_.Nat renaming le_refl→BL,le_trans→BM,zero_le→BN,lt_of_lt_of_le→BO
open Go.Proofs.Tryz renaming prog→Tp
open Go Go.Ev
set_option maxRecDepth 20000
variable {γ:List (Nat×AV)} {ts:List Tk} {L:AV}
theorem c82:bodyT Tp 82:=⟨_,Tryz.func82,by kernel_rfl,by kernel_rfl⟩
def dpS(γ:List (Nat×AV))(i b:Nat)(y:Nat×List ABlk):St:=⟨⟨47,[(0,.ptr i 0 0),(2,.ptr b 0 0)],γ⟩,y.2⟩
def dkS(γ:List (Nat×AV))(i b kb:Nat)(y:Nat×List ABlk):St:=⟨⟨47,[(0,.ptr i 0 0),(2,.ptr b 0 0),(3,.ptr kb 0 0)],γ⟩,y.2⟩
end Go.Proofs.YtlobiioioicmhaaGreatDoor
