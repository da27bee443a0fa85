/- A part of the proof. -/
import Derived.Test.YtlobiioioicmhaaGreatDoorBQ11
import Derived.Shelf.Strconv.Itoa0
import Derived.Shelf.Strconv.Itoa1
import Derived.Shelf.LaysM
import Derived.Shelf.Strconv.Itoa2
import Derived.Shelf.Strconv.Itoa3
import Derived.Test.YtlobiioioicmhaaGreatDoorProg
import Derived.Shelf.Strconv.ToError
import Derived.Lib.Walk
import Derived.Lib.ItoaMem
import Derived.Lib.AppendIntMem
import Derived.WalkKit
import Derived.BigCall
import Derived.BigGuard
import Derived.Lib.IndexLaws
import Derived.Lib.ItoaLen
set_option linter.all false
set_option maxHeartbeats 8000000
namespace Go.Proofs.YtlobiioioicmhaaGreatDoor
open _root_.Bool renaming not_true→Bv,not_false→Bf
open _root_.List renaming getElem?_eq_some_iff→Bs,getElem?_append_left→Ba,getElem?_set_self→Be,getElem?_set_ne→Bn,length_set→Bl,append_assoc→Bo,cons_append→Bc,nil_append→Bi,getElem?_cons_zero→Bz,getElem?_cons_succ→Bu,getElem?_map→Bm,length_map→Bk,set_append_left→Bg,take_of_length_le→Bt,length_take→Bh,prefix_rfl→BB,length_cons→BC,length_nil→BD,mem_cons→BI,getElem?_toArray→BU
open _root_.Nat renaming le_refl→BL,zero_le→BN
open Go.Proofs.Tryz renaming prog→Tp
open Go Go.Ev
set_option maxRecDepth 20000
variable {γ:List (Nat×AV)} {ts:List Tk} {L:AV}
theorem c72:bodyT Tp 72:=⟨_,Tryz.func72,by kernel_rfl,by kernel_rfl⟩
theorem rd_part{m:Nat}{h:List ABlk}{x:Pt}{a:AV}(r:RdA Pt.av m x a h):∃ V,a=.agg [strC x.tag,V]∧Rd (Old m) h (strsA x.vars) V:=by
 have k:=Rd.fz r;simp only[Pt.av,Pt.cells,Go.Ev.fz,fzL,strC]at k;obtain⟨xs,rfl,x1,ys,rfl,rfl,V,zs,rfl,kV,rfl⟩:=k;refine⟨V,rfl,fun h' f=>?_⟩;have k:=r h' f;simp only[Pt.av,Pt.cells,Go.Ev.fz,fzL,strC]at k;obtain⟨xs,e,x1,ys,rfl,rfl,V',zs,rfl,kV',rfl⟩:=k;cases e;exact kV'
theorem DrawE.via{P:Program}{E:AV→St→Prop}{ops:Array Oper}{Q:Post}{s:St}(F:St→Prop)(h:∀ K:Post,(∀ s',F s'→K .normal s')→DrawE P E ops K s)(h2:∀ s',F s'→Q .normal s'):DrawE P E ops Q s:=h Q h2
def chS(γ:List (Nat×AV))(i r b:Nat)(y:Nat×List ABlk):St:=⟨⟨36,[(0,.ptr i 0 0),(2,.ptr r 0 0),(3,.ptr b 0 0)],γ⟩,y.2⟩
theorem dchord_ev(E:EnvD γ L ts){h:List ABlk}{i p n:Nat}(hp:p≤ts.length)(hr:RD h i L p n):
  EvM Tp γ 72 [.ptr i 0 0] h (ResD ts n L i h (RdA (fun c=>.agg (Ch.cells c)) h.length) (chordD ts p)):=by
 have hil:=hr.lt;have hn:=E.n;refine EvM.ofG Tryz.func72 rfl ?_;simp only[Tryz.f72,tyD,evG,Nat.reduceAdd,Nat.reduceSub,Nat.reduceLT,Nat.reduceEqDiff,reduceCtorEq];refine wantE (w:=kChord) E hp (hr.app [⟨0,59,[.v (.string ⟨#[]⟩),.v (.slice none 0 0),.v (.slice none 0 0),.v (.slice none 0 0)]⟩]) ?_ ?_ (fun e1 h1 f1 r1 hp1=>?_) (fun e1 h1 f1=>?_)
 ·rfl
 ·rfl
 rotate_left
 ·have:chordD ts p=.bad p 80:=by unfold chordD wantD;rw[if_neg (by rw[e1];decide)];rfl
  rw[this];exact⟨f1.pre,rfl⟩
 have eC1:chordD ts p=(wordD ts (p+1)).bind fun n p2=>(wantD ts [58] p2).bind fun _ p3=>(partD ts p3).bind fun x p4=>(partsD ts (ts.length+1) [x] p4).bind fun l p5=>(guardD ts p5).bind fun g p6=>(bodyD ts p6).bind fun b p7=>.ok ⟨n,l,g,b⟩ p7:=by unfold chordD wantD;rw[if_pos e1];rfl
 rw[eC1];have F1:Fr (Io i h.length) h h1:=Io.i f1.pre;have kr1:h1[h.length]?=some ⟨0,59,[.v (.string ⟨#[]⟩),.v (.slice none 0 0),.v (.slice none 0 0),.v (.slice none 0 0)]⟩:=f1.at (at_len _ _ _) (fun e=>by have e:h.length=i:=e;omega);clear f1 eC1;simp only[evG,Nat.reduceLT,Nat.reduceEqDiff,reduceCtorEq];refine wordE E hp1 r1 ?_ ?_ (fun nm p2 h2 e2 f2 r2 a2 b2=>?_) (fun q e' h2 e2 f2=>?_)
 ·rfl
 ·rfl
 rotate_left
 ·rw[e2];exact⟨Io.fin (F1.trans (Io.i f2) fun k e=>.inl e),rfl⟩
 rw[e2];have eC2:(DR.ok nm p2).bind (fun n p2=>(wantD ts [58] p2).bind fun _ p3=>(partD ts p3).bind fun x p4=>(partsD ts (ts.length+1) [x] p4).bind fun l p5=>(guardD ts p5).bind fun g p6=>(bodyD ts p6).bind fun b p7=>DR.ok (⟨n,l,g,b⟩:Ch) p7)=(wantD ts [58] p2).bind fun _ p3=>(partD ts p3).bind fun x p4=>(partsD ts (ts.length+1) [x] p4).bind fun l p5=>(guardD ts p5).bind fun g p6=>(bodyD ts p6).bind fun b p7=>.ok ⟨nm,l,g,b⟩ p7:=rfl
 rw[eC2];clear eC2;have F2:=F1.trans (Io.i (n0:=h.length) f2) fun k e=>.inl e
 have kr2:=f2.at kr1 (fun e=>by have e:h.length=i:=e;omega);have hl2:=F2.1;have hrl2:=(Bs.1 kr2).1;clear f2;simp only[tyD,at_len,set_len,evG,Nat.reduceAdd,Nat.reduceLT,Nat.reduceLeDiff,Nat.reduceEqDiff,reduceCtorEq];refine wantE (w:=[58]) E b2 (r2.app [⟨0,59,[.v (.string ⟨nm.toArray⟩),.v (.slice none 0 0),.v (.slice none 0 0),.v (.slice none 0 0)]⟩]) ?_ ?_ (fun e3 h3 f3 r3 hp3=>?_) (fun e3 h3 f3=>?_)
 ·rfl
 ·rfl
 rotate_left
 ·have:wantD ts [58] p2=.bad p2 80:=by unfold wantD;rw[if_neg (by rw[e3];decide)]
  rw[this];exact⟨Io.fin (F2.trans (Io.i f3.pre) fun k e=>.inl e),rfl⟩
 have eW3:wantD ts [58] p2=.ok () (p2+1):=by unfold wantD;rw[if_pos e3]
 rw[eW3];have eC3:(DR.ok () (p2+1)).bind (fun _ p3=>(partD ts p3).bind fun x p4=>(partsD ts (ts.length+1) [x] p4).bind fun l p5=>(guardD ts p5).bind fun g p6=>(bodyD ts p6).bind fun b p7=>DR.ok (⟨nm,l,g,b⟩:Ch) p7)=(partD ts (p2+1)).bind fun x p4=>(partsD ts (ts.length+1) [x] p4).bind fun l p5=>(guardD ts p5).bind fun g p6=>(bodyD ts p6).bind fun b p7=>.ok ⟨nm,l,g,b⟩ p7:=rfl
 rw[eC3];clear eC3 eW3;have F3:=F2.trans (Io.i (n0:=h.length) f3.pre) fun k e=>.inl e
 have hn3:h2.length+1≤h3.length:=by have:=f3.1;simpa using this
 have kr3:h3[h.length]?=some ⟨0,59,[.v (.string ⟨#[]⟩),.v (.slice none 0 0),.v (.slice none 0 0),.v (.slice none 0 0)]⟩:=f3.at ((Ba hrl2).trans kr2) (fun e=>by have e:h.length=i:=e;omega);have kb3:h3[h2.length]?=some ⟨0,59,[.v (.string ⟨nm.toArray⟩),.v (.slice none 0 0),.v (.slice none 0 0),.v (.slice none 0 0)]⟩:=f3.at (at_len _ _ _) (fun e=>by have e:h2.length=i:=e;omega);obtain⟨b,hb⟩:∃ b,b=h2.length:=⟨_,rfl⟩;rw[←hb]at kb3 hn3 hrl2⊢;have hbi:b≠i:=by omega
 have hb0:h.length<b:=by omega
 generalize hp3e:p2+1=p3 at r3 hp3⊢;clear hb f3 kr2 r2 kr1 r1 F1 F2 hl2 e2 e1 e3;simp only[evG,Nat.reduceLT];refine DrawE.via (fun s'=>∃ x q V hp j ver,partD ts p3=.ok x q∧slotW s' (chS γ i h.length b (q,hp))∧RD hp i L q n∧hp[b]?=some ⟨0,59,[.v (.string ⟨nm.toArray⟩),.own j ver 1,.v (.slice none 0 0),.v (.slice none 0 0)]⟩∧GL (b+1) 130 2 hp (.own j ver 1) 1 x.cells∧Fr (Io i h.length) h hp∧V=()∧hp[h.length]?=some ⟨0,59,[.v (.string ⟨#[]⟩),.v (.slice none 0 0),.v (.slice none 0 0),.v (.slice none 0 0)]⟩) (fun K hK=>?_) (fun s' hs'=>?_)
 ·refine DrawE.orders [[0,1,2,3,4,5,6,7],[0,2,1,3,4,5,6,7],[2,0,1,3,4,5,6,7],[0,2,3,1,4,5,6,7],[2,0,3,1,4,5,6,7],[0,2,3,4,1,5,6,7],[2,0,3,4,1,5,6,7],[2,3,0,1,4,5,6,7],[2,3,0,4,1,5,6,7],[2,3,4,0,1,5,6,7]] (fun _ _ _ h o h'=>ResD ts n L i h (RdA Pt.av h.length) (partD ts p3) o h') (panE_ext _) (by kernel_rfl) (by kernel_rfl) (by kernel_rfl) (fun q hq=>?_);simp only[BI,List.not_mem_nil,or_false]at hq
  rcases hq with rfl|rfl|rfl|rfl|rfl|rfl|rfl|rfl|rfl|rfl
  all_goals simp only[evR,rR_bs,seqT,BU,Bu,Bz,tyD,kb3,evG,Nat.reduceAdd,Nat.reduceLT,Nat.reduceLeDiff,Nat.reduceEqDiff,reduceCtorEq,List.reduceReplicate]
  all_goals refine⟨c130,dpart_ev E hp3 r3,fun ra hp hh=>?_,fun v hp hh=>by obtain⟨q,e,eR,f,rfl⟩:=ResD.pan hh;rw[eR];exact⟨Io.fin (F3.trans (Io.i f) fun k e=>.inl e),rfl⟩⟩
  all_goals obtain⟨x,q,eR,f,rp,hA⟩:=ResD.ret hh
  all_goals obtain⟨V,rfl,rV⟩:=rd_part hA
  all_goals obtain⟨oV,fV⟩:=rd_one rV
  all_goals have kbp:hp[b]?=some ⟨0,59,[.v (.string ⟨nm.toArray⟩),.v (.slice none 0 0),.v (.slice none 0 0),.v (.slice none 0 0)]⟩:=f.at kb3 hbi
  all_goals have hbl:=(Bs.1 kbp).1
  all_goals have g7:∀ l,(hp++l)[b]?=some ⟨0,59,[.v (.string ⟨nm.toArray⟩),.v (.slice none 0 0),.v (.slice none 0 0),.v (.slice none 0 0)]⟩:=fun l=>(Ba hbl).trans kbp
  all_goals have s6:∀ l c,(hp++l).set b c=hp.set b c++l:=fun l c=>Bg _ _ hbl
  all_goals simp only[Bu,Bz,tyD,kbp,g7,oV,strC,at_len,s6,Bi,Bo,Bc,evG,Nat.reduceAdd,Nat.reduceLT,Nat.reduceLeDiff,Nat.reduceEqDiff,reduceCtorEq]
  all_goals have hf:=f.1
  all_goals have GP:=(GL.nil (n0:=b+1) (t:=130) (sz:=2) (h:=hp)).push (h':=hp.set b ⟨0,59,[.v (.string ⟨nm.toArray⟩),.own (hp.length+1) 0 1,.v (.slice none 0 0),.v (.slice none 0 0)]⟩++[⟨0,130,[.v (.string ⟨x.tag.toArray⟩),V]⟩,⟨0,130,[.v (.string ⟨x.tag.toArray⟩),V]⟩]) (j':=hp.length+1) (ver':=0) (xs:=[]) (es:=[.v (.string ⟨x.tag.toArray⟩),V]) (ecs:=x.cells) (fun j ver e=>by cases e) (fun _=>⟨by omega,rfl⟩) (by omega) ((Fr.set _ (.inl (Nat.lt_succ_self b))).trans (Fr.app (S:=NoB) _ _) fun k e=>e.elim) (at_lenS1 _ _ _ _ _ _) rfl (RdL.cons (Rd.str _) (RdL.cons (rV.up (Fr.refl NoB hp) (fun k e=>e.elim) fun k e _=>e.elim (fun e=>by show k<h3.length;omega) fun e=>e.elim) RdL.nil))
  all_goals refine hK _ ⟨x,q,(),_,hp.length+1,0,eR,⟨rfl,rfl,⟨rfl,rfl,rfl,trivial⟩,rfl⟩,?_,?_,GP,?_,rfl,?_⟩
  all_goals first
   |exact (Ba (by rw[Bl];exact rp.lt)).trans ((Bn hbi).trans rp)
   |exact (Ba (by rw[Bl];exact hbl)).trans (Be hbl)
   |exact (F3.trans (Io.i f) fun k e=>.inl e).trans ((Fr.set (S:=Io i h.length) _ (.inr (by omega))).trans (Fr.app (S:=NoB) _ _) fun k e=>e.elim) fun k e=>.inl e
   |exact (Ba (by rw[Bl];omega)).trans ((Bn (by omega)).trans (f.at kr3 (fun e=>by have e:h.length=i:=e;omega)))
 obtain⟨x,q,V,hp,j,ver,eR,hw,rp,kbp,Gp,Fp,_,krp⟩:=hs';rw[eR];have adv3:=part_adv hp3;rw[eR]at adv3;have eC4:(DR.ok x q).bind (fun x p4=>(partsD ts (ts.length+1) [x] p4).bind fun l p5=>(guardD ts p5).bind fun g p6=>(bodyD ts p6).bind fun b p7=>DR.ok (⟨nm,l,g,b⟩:Ch) p7)=(partsD ts (ts.length+1) [x] q).bind fun l p5=>(guardD ts p5).bind fun g p6=>(bodyD ts p6).bind fun b p7=>.ok ⟨nm,l,g,b⟩ p7:=rfl
 rw[eC4];generalize hR:partsD ts (ts.length+1) [x] q=R;simp only[evG]
 refine LoopE.intro (chS γ i h.length b) (fun y=>∃ xs N f,y.1≤ts.length∧xs.length≤y.1∧RD y.2 i L y.1 n∧y.2[b]?=some ⟨0,59,[.v (.string ⟨nm.toArray⟩),N,.v (.slice none 0 0),.v (.slice none 0 0)]⟩∧GL (b+1) 130 2 y.2 N xs.length (xs.flatMap Pt.cells)∧Fr (Io i h.length) h y.2∧y.2[h.length]?=some ⟨0,59,[.v (.string ⟨#[]⟩),.v (.slice none 0 0),.v (.slice none 0 0),.v (.slice none 0 0)]⟩∧partsD ts f xs y.1=R∧ts.length<f+y.1) (fun y=>ts.length+1-y.1) (q,hp) hw
  ⟨[x],.own j ver 1,ts.length+1,adv3.2,by have:=adv3.1;show 1≤q;omega,rp,kbp,Gp,Fp,krp,hR,by show ts.length<ts.length+1+q;omega⟩ (fun y hy=>?_)
 clear hR eC4 adv3 hw rp kbp Gp Fp krp eR kb3 kr3 r3 hp3 hp3e F3 hn3;obtain⟨p,h4⟩:=y;obtain⟨xs,N,f,hp,hx4,r4,kb4,G4,F4,kr4,hR,hf⟩:=hy;simp only at hp hx4 r4 kb4 G4 F4 kr4 hR hf;obtain⟨f',rfl⟩:∃ g,f=g+1:=⟨f-1,by omega⟩;rw[partsD]at hR;have hF4:=F4.1;have hbl4:=(Bs.1 kb4).1;simp only[chS,evG,Nat.reduceLT,Nat.reduceEqDiff,reduceCtorEq];refine takeE (w:=[38]) E hp r4 ?_ ?_ (fun hB h5 f5 r5 hp5=>?_) (fun hB h5 f5 r5=>?_)
 ·rfl
 ·rfl
 ·rw[if_pos hB]at hR;have kb5:=f5.at kb4 hbi;have hbl5:=(Bs.1 kb5).1;have F5:=F4.trans (Io.i (n0:=h.length) f5) fun k e=>.inl e
  have kr5:=f5.at kr4 (fun e=>by have e:h.length=i:=e;omega);have G5:=G4.fr0 f5 (fun k e=>by have e:k=i:=e;omega);generalize hp5e:p+1=p5 at r5 hp5 hR⊢;simp only[evG,Nat.reduceLT,Nat.reduceEqDiff,reduceCtorEq];refine DrawE.via (fun s'=>∃ y:Nat×List ABlk,slotW s' (chS γ i h.length b y)∧p<y.1∧∃ xs N f,y.1≤ts.length∧xs.length≤y.1∧RD y.2 i L y.1 n∧y.2[b]?=some ⟨0,59,[.v (.string ⟨nm.toArray⟩),N,.v (.slice none 0 0),.v (.slice none 0 0)]⟩∧GL (b+1) 130 2 y.2 N xs.length (xs.flatMap Pt.cells)∧Fr (Io i h.length) h y.2∧y.2[h.length]?=some ⟨0,59,[.v (.string ⟨#[]⟩),.v (.slice none 0 0),.v (.slice none 0 0),.v (.slice none 0 0)]⟩∧partsD ts f xs y.1=R∧ts.length<f+y.1) (fun K hK=>?_) (fun s' hs'=>?_)
  rotate_left
  ·obtain⟨y,hw,hlt,hinv⟩:=hs';simp only[evG];exact loopCE.intro y hinv hw (by obtain⟨_,_,_,h1,_⟩:=hinv;show ts.length+1-y.1<ts.length+1-p;omega)
  refine DrawE.orders [[0,1,2,3,4,5,6,7],[0,2,1,3,4,5,6,7],[2,0,1,3,4,5,6,7],[0,2,3,1,4,5,6,7],[2,0,3,1,4,5,6,7],[0,2,3,4,1,5,6,7],[2,0,3,4,1,5,6,7],[2,3,0,1,4,5,6,7],[2,3,0,4,1,5,6,7],[2,3,4,0,1,5,6,7]] (fun _ _ _ h o h'=>ResD ts n L i h (RdA Pt.av h.length) (partD ts p5) o h') (panE_ext _) (by kernel_rfl) (by kernel_rfl) (by kernel_rfl) (fun q hq=>?_);simp only[BI,List.not_mem_nil,or_false]at hq
  rcases hq with rfl|rfl|rfl|rfl|rfl|rfl|rfl|rfl|rfl|rfl
  all_goals simp only[evR,rR_bs,seqT,BU,Bu,Bz,tyD,kb5,evG,Nat.reduceAdd,Nat.reduceLT,Nat.reduceLeDiff,Nat.reduceEqDiff,reduceCtorEq,List.reduceReplicate]
  all_goals refine⟨c130,dpart_ev E hp5 r5,fun ra hp hh=>?_,fun v hp hh=>by obtain⟨q,e,eR,f,rfl⟩:=ResD.pan hh;rw[eR]at hR;rw[←hR];exact⟨Io.fin (F5.trans (Io.i f) fun k e=>.inl e),rfl⟩⟩
  all_goals obtain⟨x,q,eR,f,rp,hA⟩:=ResD.ret hh
  all_goals obtain⟨V,rfl,rV⟩:=rd_part hA
  all_goals have adv5:=part_adv hp5
  all_goals rw[eR]at hR adv5
  all_goals have hR2:partsD ts f' (xs++[x]) q=R:=hR
  all_goals obtain⟨oV,fV⟩:=rd_one rV
  all_goals have kbp:hp[b]?=some ⟨0,59,[.v (.string ⟨nm.toArray⟩),N,.v (.slice none 0 0),.v (.slice none 0 0)]⟩:=f.at kb5 hbi
  all_goals have hbl:=(Bs.1 kbp).1
  all_goals have hff:=f.1
  all_goals have Gp:=G5.fr0 f (fun k e=>by have e:k=i:=e;omega)
  all_goals have hl5:∀ k,nbk N k→k<h5.length:=fun k hk=>(G5.lt hk).2
  all_goals have g7:∀ l,(hp++l)[b]?=some ⟨0,59,[.v (.string ⟨nm.toArray⟩),N,.v (.slice none 0 0),.v (.slice none 0 0)]⟩:=fun l=>(Ba hbl).trans kbp
  all_goals have s6:∀ l c,(hp++l).set b c=hp.set b c++l:=fun l c=>Bg _ _ hbl
  all_goals have hel:RdL (fun k=>k<b+1∨nbk N k) hp x.cells [.v (.string ⟨x.tag.toArray⟩),V]:=RdL.cons (Rd.str _) (RdL.cons (rV.up (Fr.refl NoB hp) (fun k e=>e.elim) fun k e _=>e.elim (fun e=>by show k<h5.length;omega) fun e=>hl5 k e) RdL.nil)
  all_goals have hxe:(xs++[x]).length=xs.length+1:=by simp
  all_goals have hxf:(xs++[x]).flatMap Pt.cells=xs.flatMap Pt.cells++x.cells:=by simp
  all_goals have Fpp:=F5.trans (Io.i (n0:=h.length) f) fun k e=>.inl e
  all_goals have krp:=f.at kr5 (fun e=>by have e:h.length=i:=e;omega)
  all_goals rcases Gp with⟨rfl,e0,e1⟩|⟨j,ver,cs,rfl,hnn,hj0,hj,hl,hrd⟩
  all_goals first
   |(have e0':=e0
     simp only[Bu,Bz,tyD,kbp,g7,oV,strC,at_len,s6,Bi,Bo,Bc,evG,Nat.reduceAdd,Nat.reduceLT,Nat.reduceLeDiff,Nat.reduceEqDiff,reduceCtorEq];have GP:=(GL.nil (n0:=b+1) (t:=130) (sz:=2) (h:=hp)).push (h':=hp.set b ⟨0,59,[.v (.string ⟨nm.toArray⟩),.own (hp.length+1) 0 1,.v (.slice none 0 0),.v (.slice none 0 0)]⟩++[⟨0,130,[.v (.string ⟨x.tag.toArray⟩),V]⟩,⟨0,130,[.v (.string ⟨x.tag.toArray⟩),V]⟩]) (j':=hp.length+1) (ver':=0) (xs:=[]) (es:=[.v (.string ⟨x.tag.toArray⟩),V]) (ecs:=x.cells) (fun j ver e=>by cases e) (fun _=>⟨by omega,rfl⟩) (by omega) ((Fr.set _ (.inl (Nat.lt_succ_self b))).trans (Fr.app (S:=NoB) _ _) fun k e=>e.elim) (at_lenS1 _ _ _ _ _ _) rfl hel;refine hK _ ⟨(q,_),⟨rfl,rfl,⟨rfl,rfl,rfl,trivial⟩,rfl⟩,by have:=adv5.1;show p<q;omega,xs++[x],.own (hp.length+1) 0 1,f',adv5.2,by rw[hxe];have:=adv5.1;show xs.length+1≤q;omega,?_,?_,by rw[hxe,hxf,e0,e1];exact GP,?_,?_,hR2,by have:=adv5.1;show ts.length<f'+q;omega⟩
     ·exact (Ba (by rw[Bl];exact rp.lt)).trans ((Bn hbi).trans rp)
     ·exact (Ba (by rw[Bl];exact hbl)).trans (Be hbl)
     ·exact Fpp.trans ((Fr.set (S:=Io i h.length) _ (.inr (by omega))).trans (Fr.app (S:=NoB) _ _) fun k e=>e.elim) fun k e=>.inl e
     ·exact (Ba (by rw[Bl];omega)).trans ((Bn (by omega)).trans krp))
   |(have hjl:=(Bs.1 hj).1
     have hjb:j≠b:=by omega
     have hji:j≠i:=by omega
     have hjh:j≠h.length:=by omega
     have q1:∀ l,(hp++l)[j]?=some ⟨ver,130,cs⟩:=fun l=>(Ba hjl).trans hj
     have s8:∀ l c,(hp++l).set j c=hp.set j c++l:=fun l c=>Bg _ _ hjl
     have g9:∀ l c,(hp.set j c++l)[b]?=some ⟨0,59,[.v (.string ⟨nm.toArray⟩),.own j ver xs.length,.v (.slice none 0 0),.v (.slice none 0 0)]⟩:=fun l c=>(Ba (by rw[Bl];exact hbl)).trans ((Bn hjb).trans kbp)
     have s9:∀ l c d,(hp.set j c++l).set b d=(hp.set j c).set b d++l:=fun l c d=>Bg _ _ (by rw[Bl];exact hbl)
     have hl':cs.length=xs.length * 2:=hl;have q4:List.take (xs.length * 2) cs=cs:=Bt (by omega);have q6:xs.length * 2≤cs.length:=by omega
     simp only[Bu,Bz,tyD,kbp,g7,oV,strC,at_len,q1,s8,g9,s9,q4,q6,evG,Nat.reduceAdd,Nat.reduceLT,Nat.reduceLeDiff,Nat.reduceEqDiff,reduceCtorEq];have GP:=GL.push (h:=hp) (N:=.own j ver xs.length) (.inr ⟨j,ver,cs,rfl,hnn,hj0,hj,hl,hrd⟩) (h':=(hp.set j ⟨ver+1,130,cs++[.v (.string ⟨x.tag.toArray⟩),V]⟩).set b ⟨0,59,[.v (.string ⟨nm.toArray⟩),.own j (ver+1) (xs.length+1),.v (.slice none 0 0),.v (.slice none 0 0)]⟩++[⟨0,130,[.v (.string ⟨x.tag.toArray⟩),V]⟩]) (j':=j) (ver':=ver+1) (xs:=cs) (es:=[.v (.string ⟨x.tag.toArray⟩),V]) (ecs:=x.cells) (fun j2 ver2 e=>by cases e;exact⟨rfl,hj⟩) (fun e=>by cases e) (by omega) (((Fr.set (S:=fun k=>k<b+1∨nbk (.own j ver xs.length) k) _ (.inr rfl)).trans (Fr.set (S:=fun k=>k<b+1∨nbk (.own j ver xs.length) k) _ (.inl (Nat.lt_succ_self b))) fun k e=>.inl e).trans (Fr.app (S:=NoB) _ _) fun k e=>e.elim) ((Ba (by rw[Bl,Bl];exact hjl)).trans ((Bn hjb.symm).trans (Be hjl))) rfl hel;refine⟨by omega,hK _ ⟨(q,_),⟨rfl,rfl,⟨rfl,rfl,rfl,trivial⟩,rfl⟩,by have:=adv5.1;show p<q;omega,xs++[x],.own j (ver+1) (xs.length+1),f',adv5.2,by rw[hxe];have:=adv5.1;show xs.length+1≤q;omega,?_,?_,by rw[hxe,hxf];exact GP,?_,?_,hR2,by have:=adv5.1;show ts.length<f'+q;omega⟩⟩
     ·exact (Ba (by rw[Bl,Bl];exact rp.lt)).trans ((Bn hbi).trans ((Bn hji).trans rp))
     ·exact (Ba (by rw[Bl,Bl];exact hbl)).trans (Be (by rw[Bl];exact hbl))
     ·exact Fpp.trans (((Fr.set (S:=Io i h.length) _ (.inr (by omega))).trans (Fr.set (S:=Io i h.length) _ (.inr (by omega))) fun k e=>.inl e).trans (Fr.app (S:=NoB) _ _) fun k e=>e.elim) fun k e=>.inl e
     ·exact (Ba (by rw[Bl,Bl];omega)).trans ((Bn (by omega)).trans ((Bn hjh).trans krp)))
 rw[if_neg (by rw[hB];decide)]at hR;rw[←hR];have eC5:(DR.ok xs p).bind (fun l p5=>(guardD ts p5).bind fun g p6=>(bodyD ts p6).bind fun b p7=>DR.ok (⟨nm,l,g,b⟩:Ch) p7)=(guardD ts p).bind fun g p6=>(bodyD ts p6).bind fun b p7=>.ok ⟨nm,xs,g,b⟩ p7:=rfl
 rw[eC5];have kb5:=f5.at kb4 hbi;have F5:=F4.trans (Io.i (n0:=h.length) f5) fun k e=>.inl e
 have kr5:=f5.at kr4 (fun e=>by have e:h.length=i:=e;omega);have G5:=G4.fr0 f5 (fun k e=>by have e:k=i:=e;omega);clear hR hf hx4 r4 kb4 G4 F4 kr4 f5 eC5 hB;simp only[evG,Nat.reduceLT,Nat.reduceEqDiff,reduceCtorEq];refine takeE (w:=kWhen) E hp r5 ?_ ?_ (fun hW h6 f6 r6 hp6=>?_) (fun hW h6 f6 r6=>?_)
 ·rfl
 ·rfl
 ·have eG:guardD ts p=exprD ts (p+1):=by unfold guardD;rw[if_pos hW]
  rw[eG];have kb6:=f6.at kb5 hbi;have F6:=F5.trans (Io.i (n0:=h.length) f6) fun k e=>.inl e
  have kr6:=f6.at kr5 (fun e=>by have e:h.length=i:=e;omega);have G6:=G5.fr0 f6 (fun k e=>by have e:k=i:=e;omega);simp only[evG,Nat.reduceLT,Nat.reduceEqDiff,reduceCtorEq];refine exprE E hp6 r6 ?_ ?_ (fun gx p7 h7 e7 f7 r7 a7 b7=>?_) (fun q e' h7 e7 f7=>?_)
  ·rfl
  ·rfl
  rotate_left
  ·rw[e7];exact⟨Io.fin (F6.trans (Io.i f7) fun k e=>.inl e),rfl⟩
  rw[e7];have eC6:(DR.ok gx p7).bind (fun g p6=>(bodyD ts p6).bind fun b p7=>DR.ok (⟨nm,xs,g,b⟩:Ch) p7)=(bodyD ts p7).bind fun b p7=>.ok ⟨nm,xs,gx,b⟩ p7:=rfl
  rw[eC6];have kb7:=f7.at kb6 hbi;have F7:=F6.trans (Io.i (n0:=h.length) f7) fun k e=>.inl e
  have kr7:=f7.at kr6 (fun e=>by have e:h.length=i:=e;omega);have G7:=G6.fr0 f7 (fun k e=>by have e:k=i:=e;omega);have hbl7:=(Bs.1 kb7).1;have oG:oneA (nodesA gx)=true:=by cases gx<;>rfl
  have fG:flat (nodesA gx)=some [nodesA gx]:=by cases gx<;>rfl
  simp only[tyD,kb7,oG,setMany,evG,Nat.reduceAdd,Nat.reduceLT,Nat.reduceLeDiff,Nat.reduceEqDiff,reduceCtorEq]
  obtain⟨kb8,r8,F8,kr8,G8⟩:(h7.set b (⟨0,59,[.v (.string ⟨nm.toArray⟩),N,nodesA gx,.v (.slice none 0 0)]⟩:ABlk))[b]?=some ⟨0,59,[.v (.string ⟨nm.toArray⟩),N,nodesA gx,.v (.slice none 0 0)]⟩∧RD (h7.set b (⟨0,59,[.v (.string ⟨nm.toArray⟩),N,nodesA gx,.v (.slice none 0 0)]⟩:ABlk)) i L p7 n∧Fr (Io i h.length) h (h7.set b (⟨0,59,[.v (.string ⟨nm.toArray⟩),N,nodesA gx,.v (.slice none 0 0)]⟩:ABlk))∧(h7.set b (⟨0,59,[.v (.string ⟨nm.toArray⟩),N,nodesA gx,.v (.slice none 0 0)]⟩:ABlk))[h.length]?=some ⟨0,59,[.v (.string ⟨#[]⟩),.v (.slice none 0 0),.v (.slice none 0 0),.v (.slice none 0 0)]⟩∧GL (b+1) 130 2 (h7.set b (⟨0,59,[.v (.string ⟨nm.toArray⟩),N,nodesA gx,.v (.slice none 0 0)]⟩:ABlk)) N xs.length (xs.flatMap Pt.cells):=
   ⟨Be hbl7,(Bn hbi).trans r7,F7.trans (Fr.set (S:=Io i h.length) _ (.inr (by omega))) fun k e=>.inl e,(Bn (by omega)).trans kr7,G7.fr0 (Fr.set (S:=IsI b) _ rfl) (fun k e=>by have e:k=b:=e;omega)⟩
  generalize h7.set b (⟨0,59,[.v (.string ⟨nm.toArray⟩),N,nodesA gx,.v (.slice none 0 0)]⟩:ABlk)=h8 at kb8 r8 F8 kr8 G8⊢;refine callD c133 (dbody_ev E b7 r8) (fun bd p9 A h9 e9 f9 r9 hA=>?_) (fun q e' h9 e9 f9=>?_)
  rotate_left
  ·rw[e9];exact⟨Io.fin (F8.trans (Io.i f9) fun k e=>.inl e),rfl⟩
  rw[e9];have kb9:=f9.at kb8 hbi;have hbl8:=(Bs.1 kb8).1;have hbl9:=(Bs.1 kb9).1;have F9:=F8.trans (Io.i (n0:=h.length) f9) fun k e=>.inl e
  have kr9:=f9.at kr8 (fun e=>by have e:h.length=i:=e;omega);have G9:=G8.fr0 f9 (fun k e=>by have e:k=i:=e;omega);have hA:Rd (Old h8.length) h9 (actsA bd) A:=hA;obtain⟨oA,fA⟩:=rd_one hA;obtain⟨oN,fN⟩:=G9.one;have hrl9:=(Bs.1 kr9).1;have q1:∀ c,(h9.set b c)[b]?=some c:=fun c=>Be hbl9
  have q2:∀ c,(h9.set b c)[h.length]?=some ⟨0,59,[.v (.string ⟨#[]⟩),.v (.slice none 0 0),.v (.slice none 0 0),.v (.slice none 0 0)]⟩:=fun c=>(Bn (by omega)).trans kr9
  have q3:∀ c d,((h9.set b c).set h.length d)[h.length]?=some d:=fun c d=>Be (by rw[Bl];exact hrl9)
  simp only[tyD,kb9,oG,oA,fA,oN,q1,q2,q3,setMany,evG,Nat.reduceAdd,Nat.reduceLT,Nat.reduceLeDiff,Nat.reduceEqDiff,reduceCtorEq];have FZ:∀ c d,Fr (fun k=>k=b∨k=h.length) h9 ((h9.set b c).set h.length d):=fun c d=>(Fr.set (S:=fun k=>k=b∨k=h.length) _ (.inl rfl)).trans (Fr.set (S:=fun k=>k=b∨k=h.length) _ (.inr rfl)) fun k e=>.inl e
  have rdN:=G9.rdS (m:=h.length) (FZ ⟨0,59,[.v (.string ⟨nm.toArray⟩),N,nodesA gx,A]⟩ ⟨0,59,[.v (.string ⟨nm.toArray⟩),N,nodesA gx,A]⟩) (fun k e _=>by rcases e with e|e<;>omega) (by omega);have rdA:=hA.up (S':=Old h.length) (FZ ⟨0,59,[.v (.string ⟨nm.toArray⟩),N,nodesA gx,A]⟩ ⟨0,59,[.v (.string ⟨nm.toArray⟩),N,nodesA gx,A]⟩) (fun k e _=>by show k<h8.length;rcases e with e|e<;>omega) (fun k e _=>by have e:k<h.length:=e;show k<h8.length;omega);exact⟨Io.fin (F9.trans (FZ _ _) fun k e=>.inl (e.elim (fun e=>.inr (by omega)) fun e=>.inr (by omega))),_,rfl,(Bn (by omega)).trans ((Bn hbi).trans r9),Rd.agg (RdL.cons (Rd.str _) (RdL.cons rdN (RdL.cons (Rd.nodes _) (RdL.cons rdA RdL.nil))))⟩
 ·have eG:guardD ts p=.ok [] p:=by unfold guardD;rw[if_neg (by rw[hW];decide)]
  rw[eG];have eC6:(DR.ok [] p).bind (fun g p6=>(bodyD ts p6).bind fun b p7=>DR.ok (⟨nm,xs,g,b⟩:Ch) p7)=(bodyD ts p).bind fun b p7=>.ok ⟨nm,xs,[],b⟩ p7:=rfl
  rw[eC6];have kb8:=f6.at kb5 hbi;have F8:=F5.trans (Io.i (n0:=h.length) f6) fun k e=>.inl e
  have kr8:=f6.at kr5 (fun e=>by have e:h.length=i:=e;omega);have G8:=G5.fr0 f6 (fun k e=>by have e:k=i:=e;omega);have r8:=r6;have b7:=hp;obtain⟨gx,hgx⟩:∃ gx:List Nd,gx=[]:=⟨_,rfl⟩;have oG:oneA (nodesA gx)=true:=by cases gx<;>rfl
  have fG:flat (nodesA gx)=some [nodesA gx]:=by cases gx<;>rfl
  have hgn:(.v (.slice none 0 0):AV)=nodesA gx:=by rw[hgx];rfl
  have kb8:h6[b]?=some ⟨0,59,[.v (.string ⟨nm.toArray⟩),N,nodesA gx,.v (.slice none 0 0)]⟩:=by rw[←hgn];exact kb8
  rw[←hgx];simp only[evG,Nat.reduceLT,Nat.reduceEqDiff,reduceCtorEq];obtain⟨h8,e8⟩:∃ h8,h8=h6:=⟨_,rfl⟩;obtain⟨p7,e7⟩:∃ p7,p7=p:=⟨_,rfl⟩;rw[←e8]at kb8 F8 kr8 G8 r8⊢;rw[←e7]at r8 b7⊢;refine callD c133 (dbody_ev E b7 r8) (fun bd p9 A h9 e9 f9 r9 hA=>?_) (fun q e' h9 e9 f9=>?_)
  rotate_left
  ·rw[e9];exact⟨Io.fin (F8.trans (Io.i f9) fun k e=>.inl e),rfl⟩
  rw[e9];have kb9:=f9.at kb8 hbi;have hbl8:=(Bs.1 kb8).1;have hbl9:=(Bs.1 kb9).1;have F9:=F8.trans (Io.i (n0:=h.length) f9) fun k e=>.inl e
  have kr9:=f9.at kr8 (fun e=>by have e:h.length=i:=e;omega);have G9:=G8.fr0 f9 (fun k e=>by have e:k=i:=e;omega);have hA:Rd (Old h8.length) h9 (actsA bd) A:=hA;obtain⟨oA,fA⟩:=rd_one hA;obtain⟨oN,fN⟩:=G9.one;have hrl9:=(Bs.1 kr9).1;have q1:∀ c,(h9.set b c)[b]?=some c:=fun c=>Be hbl9
  have q2:∀ c,(h9.set b c)[h.length]?=some ⟨0,59,[.v (.string ⟨#[]⟩),.v (.slice none 0 0),.v (.slice none 0 0),.v (.slice none 0 0)]⟩:=fun c=>(Bn (by omega)).trans kr9
  have q3:∀ c d,((h9.set b c).set h.length d)[h.length]?=some d:=fun c d=>Be (by rw[Bl];exact hrl9)
  simp only[tyD,kb9,oG,oA,fA,oN,q1,q2,q3,setMany,evG,Nat.reduceAdd,Nat.reduceLT,Nat.reduceLeDiff,Nat.reduceEqDiff,reduceCtorEq];have FZ:∀ c d,Fr (fun k=>k=b∨k=h.length) h9 ((h9.set b c).set h.length d):=fun c d=>(Fr.set (S:=fun k=>k=b∨k=h.length) _ (.inl rfl)).trans (Fr.set (S:=fun k=>k=b∨k=h.length) _ (.inr rfl)) fun k e=>.inl e
  have rdN:=G9.rdS (m:=h.length) (FZ ⟨0,59,[.v (.string ⟨nm.toArray⟩),N,nodesA gx,A]⟩ ⟨0,59,[.v (.string ⟨nm.toArray⟩),N,nodesA gx,A]⟩) (fun k e _=>by rcases e with e|e<;>omega) (by omega);have rdA:=hA.up (S':=Old h.length) (FZ ⟨0,59,[.v (.string ⟨nm.toArray⟩),N,nodesA gx,A]⟩ ⟨0,59,[.v (.string ⟨nm.toArray⟩),N,nodesA gx,A]⟩) (fun k e _=>by show k<h8.length;rcases e with e|e<;>omega) (fun k e _=>by have e:k<h.length:=e;show k<h8.length;omega);exact⟨Io.fin (F9.trans (FZ _ _) fun k e=>.inl (e.elim (fun e=>.inr (by omega)) fun e=>.inr (by omega))),_,rfl,(Bn (by omega)).trans ((Bn hbi).trans r9),Rd.agg (RdL.cons (Rd.str _) (RdL.cons rdN (RdL.cons (Rd.nodes _) (RdL.cons rdA RdL.nil))))⟩
def Ac.av(a:Ac):AV:=.agg a.cells
theorem realB_lt'(m:Nat)(e:Int):realB m e<9223372036854775808:=by
 unfold realB
 split
 ·decide
 ·unfold dblN;exact Nat.lt_of_le_of_lt (Nat.min_le_right _ _) (by decide)
theorem markN_le(s:List UInt8):markN s≤2:=by
 unfold markN
 split
 ·omega
 ·split<;>omega
theorem headD_small{s:List UInt8}{t:TokD}(h:headD s=.ok t):t.text.length≤256∧t.real<9223372036854775808:=by
 unfold headD at h
 split at h
 ·split at h
  ·cases h
  ·rename_i h32;cases h;exact⟨by show (s.take _).length≤256;rw[Bh];omega,by show 0<_;decide⟩
 ·split at h
  ·unfold numberD realD at h
   split at h
   ·split at h
    ·cases h;exact⟨by show 0≤256;decide,realB_lt' _ _⟩
    ·cases h
   ·split at h
    ·cases h;exact⟨by show 0≤256;decide,by show 0<_;decide⟩
    ·cases h
  ·split at h
   ·unfold textD at h
    split at h
    ·cases h
    ·rename_i d n hq;cases h;exact⟨textF_256 _ _ _ _ _ _ hq,by show 0<_;decide⟩
   ·split at h
    ·cases h
    ·cases h;exact⟨by show (s.take _).length≤256;have:=markN_le s;rw[Bh];omega,by show 0<_;decide⟩
theorem toks_ok{l:List UInt8}{L:List (TokD×Nat)}(h:okToks l=some L):∀ t∈L.map tkOf,okTk t:=by
 intro t ht;obtain⟨x,hx,rfl⟩:=List.mem_map.1 ht;obtain⟨s,hs,_⟩:=okToks_head h hx;have:=headD_small hs;exact⟨by show x.1.text.length≤_;omega,by show x.1.real<_;omega⟩
theorem LAs_list(L:List (TokD×Nat)):LAs (listA L) (L.map tkOf):=by
 cases L with
 |nil=>exact .inl ⟨rfl,rfl⟩
 |cons x L=>exact .inr ⟨false,(x::L).length,listCells (x::L),by rw[Bk];rfl,by rw[tks_cells];exact BB,by rw[←tks_cells,tkCells_length,Bk];exact BL _,by rw[Bk];exact BL _⟩
theorem envD{l:List UInt8}{L:List (TokD×Nat)}(hγ:Gl γ)(hγ2:GlW γ)(h:okToks l=some L):EnvD γ (listA L) (L.map tkOf):=
 ⟨hγ,hγ2,LAs_list L,toks_ok h,by have:=small_toks h;rw[Bk];omega⟩
def readO{α:Type}(z:α)(D:List Tk→DR α)(l:List UInt8):α×Int×Int:=match okToks l with
 |none=>match (eachItems l).find? badI with
  |some x=>(z,x.1.2,x.2)
  |none=>(z,0,0)
 |some L=>match D (L.map tkOf)with
  |.bad q e=>(z,plO (L.map tkOf) l.length q,e)
  |.ok x q=>if q<L.length then (z,plO (L.map tkOf) l.length q,80)else (x,0,0)
theorem rd_agg{S:Nat→Prop}{h:List ABlk}{ys:List AV}{a:AV}(r:Rd S h (.agg ys) a):∃ xs,a=.agg xs∧RdL S h ys xs:=by
 have k:=r.fz;simp only[Go.Ev.fz]at k;obtain⟨xs,rfl,k⟩:=k;refine⟨xs,rfl,fun h' f=>?_⟩;have k:=r h' f;simp only[Go.Ev.fz]at k;obtain⟨xs',e,k⟩:=k;cases e;exact k
theorem rdL_cons{S:Nat→Prop}{h:List ABlk}{y:AV}{ys xs:List AV}(r:RdL S h (y::ys) xs):∃ x xs',xs=x::xs'∧Rd S h y x∧RdL S h ys xs':=by
 have k:=r.fz;simp only[fzL]at k;obtain⟨x,xs',rfl,k1,k2⟩:=k;refine⟨x,xs',rfl,fun h' f=>?_,fun h' f=>?_⟩
 ·have k:=r h' f;simp only[fzL]at k;obtain⟨x,xs',e,k1,k2⟩:=k;cases e;exact k1
 ·have k:=r h' f;simp only[fzL]at k;obtain⟨x,xs',e,k1,k2⟩:=k;cases e;exact k2
theorem rdL_nil{S:Nat→Prop}{h:List ABlk}{xs:List AV}(r:RdL S h [] xs):xs=[]:=by
 have k:=r.fz;simp only[fzL]at k;exact k
theorem rd_val{S:Nat→Prop}{h:List ABlk}{v:Value}{x:AV}(r:Rd S h (.v v) x):x=.v v:=by
 have k:=r.fz;simp only[Go.Ev.fz]at k;exact k
theorem rd_nodes{S:Nat→Prop}{h:List ABlk}{g:List Nd}{x:AV}(r:Rd S h (nodesA g) x):oneA x=true∧flat x=some [x]:=by
 cases g with
 |nil=>exact rd_one (n:=0) (cs:=[]) r
 |cons y g=>exact rd_one (n:=(y::g).length) (cs:=ndCells (y::g)) r
theorem rd_chord{m:Nat}{h:List ABlk}{c:Ch}{a:AV}(r:RdA (fun c:Ch=>.agg c.cells) m c a h):∃ x1 x2 x3,a=.agg [strC c.name,x1,x2,x3]∧(oneA x1=true∧flat x1=some [x1])∧(oneA x2=true∧flat x2=some [x2])∧oneA x3=true∧flat x3=some [x3]:=by
 obtain⟨xs,rfl,k⟩:=rd_agg r;obtain⟨x0,xs,rfl,k0,k⟩:=rdL_cons k;obtain⟨x1,xs,rfl,k1,k⟩:=rdL_cons k;obtain⟨x2,xs,rfl,k2,k⟩:=rdL_cons k;obtain⟨x3,xs,rfl,k3,k⟩:=rdL_cons k;obtain rfl:=rdL_nil k;obtain rfl:=rd_val k0;exact⟨x1,x2,x3,rfl,rd_one k1,rd_nodes k2,rd_one k3⟩
def RdT{α:Type}(f:α→AV)(r:α×Int×Int)(h:List ABlk)(o:Out)(h':List ABlk):Prop:=
 Fr NoB h h'∧∃ A,o=.ret (.tup [A,intC r.2.1,intC r.2.2])∧Rd (Old h.length) h' (f r.1) A
variable {γ:List (Nat×AV)}
def Ch.av(c:Ch):AV:=.agg c.cells
theorem scan_nil:rscanA []=.tup [.v (.slice none 0 0),.v (.int .i64 0),.v (.int .i64 0)]:=rscan_end (l:=[]) (toks:=[]) rfl
def rnS(γ:List (Nat×AV)):St:=⟨⟨61,[(0,.v (.slice none 0 0)),(5,.v (.slice none 0 0)),(6,.v (.int .i64 0))],γ⟩,[]⟩
theorem refScan_nil:Ev Tp γ 41 [.v (.slice none 0 0)] (rscanA []):=by
 refine Ev.ofE Tryz.func41 rfl ?_;rw[scan_nil];have d0:decide ((32768:Int)<((0:Nat):Int))=false:=by decide
 have d1:decide ((32768:Int)<0)=false:=by decide
 have d2:decide (((0:Nat):Int)<((0:Nat):Int))=false:=by decide
 have d3:decide ((0:Int)<0)=false:=by decide
 simp only[Tryz.f41,tyD,evE,Nat.reduceAdd,Nat.reduceSub,Nat.reduceLT,Nat.reduceEqDiff,reduceCtorEq,Int.reduceLT];refine LoopE.intro (fun _:Unit=>rnS γ) (fun _=>True) (fun _=>0) () ⟨rfl,rfl,⟨rfl,rfl,rfl,trivial⟩,rfl⟩ trivial (fun k hk=>?_);simp only[rnS,tyD,evE,Nat.reduceLT,Nat.reduceEqDiff,reduceCtorEq,Int.reduceLT]
theorem tyW:aggT Tp 115=some true∧
  aggT Tp 25=some true∧
  aggT Tp 39=some false∧
  aggT Tp 5=some false∧
  aggT Tp 57=some false∧
  appT Tp 37 37=some (5,1,1)∧
  elemT Tp 128=some 9∧
  elemT Tp 133=some 41∧
  elemT Tp 39=some 115∧
  elemT Tp 56=some 130∧
  elemT Tp 57=some 135∧
  elemT Tp 68=some 137∧
  elemT Tp 69=some 90∧
  elemT Tp 78=some 3∧
  elemT Tp 88=some 59∧
  fieldT Tp 115 0=some (0,3)∧
  fieldT Tp 115 1=some (1,3)∧
  fieldT Tp 115 2=some (2,3)∧
  fieldT Tp 115 3=some (3,9)∧
  fieldT Tp 115 4=some (4,25)∧
  fieldT Tp 130 0=some (0,9)∧
  fieldT Tp 135 0=some (0,3)∧
  fieldT Tp 135 1=some (1,41)∧
  fieldT Tp 137 0=some (0,9)∧
  fieldT Tp 25 0=some (0,3)∧
  fieldT Tp 41 0=some (0,39)∧
  fieldT Tp 59 0=some (0,9)∧
  fieldT Tp 90 0=some (0,9)∧
  binS.isBoolT Tp 4=true∧
  mkT Tp 37=some (5,1,[.v (.int .u8 0)])∧
  sizeT Tp 115=some 9∧
  sizeT Tp 25=some 5∧
  sizeT Tp 39=some 1∧
  zcT Tp 115=some [.v (.int .i64 0),.v (.int .i64 0),.v (.int .i64 0),.v (.string ⟨#[]⟩),.v (.int .i64 0),.v (.int .i64 0),.v (.float .f64 0),.v (.complex .f64 0 0),.v (.string ⟨#[]⟩)]:=
 (by and_intros<;>kernel_rfl)
theorem c75:bodyT Tp 75:=⟨_,Tryz.func75,by kernel_rfl,by kernel_rfl⟩
def txS(γ:List (Nat×AV))(A:AV)(k:Nat):St:=⟨⟨26,[(0,A),(1,A),(5,.v (.int .i64 (k:Int)))],γ⟩,[]⟩
theorem lenStr(s:List ABlk)(l:List (List UInt8)):lenS Tp 128 s (strsA l)=some (.v (.int .i64 l.length)):=by
 have e:elemT Tp 128=some 9:=by kernel_rfl
 cases l with
 |nil=>simp only[strsA,slA,BD,lenS,e];rfl
 |cons x l=>simp only[strsA,slA,BC,lenS,e];rfl
theorem strsA_sl{l:List (List UInt8)}{k:Nat}{x:List UInt8}(h:l[k]?=some x):strsA l=.sl false l.length l.length (l.map strC):=by
 cases l with
 |nil=>cases h
 |cons y l=>rfl
theorem texts_ev(l:List (List UInt8))(hn:l.length≤2000000):Ev Tp γ 75 [strsA l,strsA l] (.v (.bool true)):=by
 have ll:=fun s=>lenStr s l
 have d0:(((l.length:Nat):Int) != ((l.length:Nat):Int))=false:=by simp
 refine Ev.ofE Tryz.func75 rfl ?_;simp only[Tryz.f75,ll,d0,evE,Nat.reduceAdd,Nat.reduceSub,Nat.reduceLT,Nat.reduceEqDiff,reduceCtorEq];refine LoopE.intro (txS γ (strsA l)) (fun k=>k≤l.length) (fun k=>l.length-k) 0 ⟨rfl,rfl,⟨rfl,rfl,rfl,trivial⟩,rfl⟩ (BN _) (fun k hk=>?_)
 by_cases hlt:k<l.length
 ·have d1:decide (k<l.length)=true:=decide_eq_true hlt;obtain⟨x,hx⟩:∃ x,l[k]?=some x:=⟨l[k],by simp[hlt]⟩;have eS:=strsA_sl hx;have hc:(l.map strC)[k]?=some (.v (.string ⟨x.toArray⟩)):=by rw[Bm,hx];rfl
  have w1:IntKind.i64.wrap ((k:Int)+1)=((k+1:Nat):Int):=(i64w (by omega) (by omega)).trans (by omega);have dx:(x != x)=false:=by simp
  simp only[txS,ll,d1,evE,Nat.reduceLT,Nat.reduceEqDiff,reduceCtorEq];refine dI ?_;simp only[tyW,eS,hc,w1,evE,tyX,Bv,Nat.reduceLT,Nat.reduceEqDiff,reduceCtorEq];exact⟨hlt,hlt,loopCE.intro (k+1) hlt ⟨rfl,rfl,⟨rfl,rfl,rfl,trivial⟩,rfl⟩ (by show l.length-(k+1)<l.length-k;clear w1;omega)⟩
 ·have d1:decide (k<l.length)=false:=decide_eq_false hlt;simp only[txS,ll,d1,evE,Nat.reduceLT,Nat.reduceEqDiff,reduceCtorEq]
def boolS(b:Bool):List UInt8:=if b then [116,114,117,101]else [102,97,108,115,101]
def mB(x:Nat):Nat:=x%4503599627370496
def eB(x:Nat):Nat:=(x / 4503599627370496)%2048
def nanB(x:Nat):Bool:=FloatKind.f64.format.order x x != some .eq
def mM(x:Nat):Nat:=if 0<eB x then mB x+4503599627370496 else mB x
def mE(x:Nat):Int:=if 0<eB x then (eB x:Int)-1075 else -1074
theorem tyV:aggT Tp 23=some false∧
  aggT Tp 25=some true∧
  fieldT Tp 25 0=some (0,3)∧
  fieldT Tp 25 1=some (1,2)∧
  fieldT Tp 25 2=some (2,22)∧
  fieldT Tp 25 3=some (3,23)∧
  fieldT Tp 25 4=some (4,9)∧
  placesT Tp 25=some [(0,1),(1,1),(2,1),(3,1),(4,1)]∧
  sizeT Tp 23=some 1∧
  sizeT Tp 25=some 5∧
  zcT Tp 25=some [.v (.int .i64 0),.v (.int .i64 0),.v (.float .f64 0),.v (.complex .f64 0 0),.v (.string ⟨#[]⟩)]∧aggT Tp 4=some false:=
 (by and_intros<;>kernel_rfl)
structure VD where
 kind:Int
 int:Int
 real:Nat
 re:Nat
 im:Nat
 text:List UInt8
def vC(v:VD):List AV:=[.v (.int .i64 v.kind),.v (.int .i64 v.int),.v (.float .f64 v.real),.v (.complex .f64 v.re v.im),.v (.string ⟨v.text.toArray⟩)]
def vA(v:VD):AV:=.agg (vC v)
def mayF(v:VD):Bool:=if v.kind=1∨v.kind=2∨v.kind=3 then true else if v.kind=4 then decide (v.text.length≤256)else if v.kind=5 then (v.int==0) || (v.int==1)else false
theorem beq_f{a b:Int}(h:a≠b):(a==b)=false:=by
 cases hb:(a==b)with
 |false=>rfl
 |true=>exact absurd (eq_of_beq hb) h
def sgB(x:Nat):Bool:=decide (x / 9223372036854775808=1)
theorem rd_bits(x:Nat)(hx:x<18446744073709551616):Ieee.double.read x=if eB x=2047 then (if mB x=0 then .infinity (sgB x)else .nan (sgB x) (mB x))else .number (sgB x) (mM x) (mE x):=by
 have e1:Ieee.double.signWeight=9223372036854775808:=by rfl
 have e2:Ieee.double.binade=4503599627370496:=by rfl
 have e3:Ieee.double.infRung=9218868437227405312:=by rfl
 have e4:Ieee.double.leastPlace = -1074:=by rfl
 have hs:(x / 9223372036854775808%2==1)=sgB x:=by
  unfold sgB;rw[Nat.mod_eq_of_lt (by omega)];cases h:decide (x / 9223372036854775808=1)with
  |true=>simpa using h
  |false=>simpa using h
 unfold Ieee.Format.read;simp only[e1,e2,e3,e4,hs];have hB:eB x=x%9223372036854775808 / 4503599627370496:=by unfold eB;omega
 have hM:mB x=x%9223372036854775808%4503599627370496:=by unfold mB;omega
 have hr:x%9223372036854775808<9223372036854775808:=Nat.mod_lt _ (by decide);generalize x%9223372036854775808=r at *
 by_cases h1:r<4503599627370496
 ·rw[if_pos h1,if_neg (by omega)];unfold mM mE;rw[if_neg (by omega),if_neg (by omega)]
  congr 1
  omega
 ·rw[if_neg h1]
  by_cases h2:r<9218868437227405312
  ·rw[if_pos h2,if_neg (by omega)];unfold mM mE;rw[if_pos (by omega),if_pos (by omega)]
   congr 1<;>omega
  ·have hE:eB x=2047:=by omega
   by_cases h3:r=9218868437227405312
   ·rw[if_neg h2,if_pos h3,if_pos hE,if_pos (by omega)]
   ·rw[if_neg h2,if_neg h3,if_pos hE,if_neg (by omega)];exact congrArg (Ieee.Datum.nan (sgB x)) (by omega)
theorem nanB_eq(x:Nat)(hx:x<18446744073709551616):nanB x=decide (eB x=2047∧mB x≠0):=by
 unfold nanB;show (Ieee.double.order x x != some .eq)=_;unfold Ieee.Format.order;rw[rd_bits x hx]
 by_cases h1:eB x=2047
 ·rw[if_pos h1]
  by_cases h2:mB x=0
  ·rw[if_pos h2,decide_eq_false (by omega)];simp only[Ieee.Datum.order];cases sgB x<;>rfl
  ·rw[if_neg h2,decide_eq_true ⟨h1,h2⟩]
   rfl
 ·rw[if_neg h1,decide_eq_false (by omega)];simp only[Ieee.Datum.order];simp
section
variable {m:Nat} {e:Int}
theorem signed_f(n k:Nat):Ieee.signed false n k=((n * 2^k:Nat):Int):=by
 unfold Ieee.signed;rw[if_neg (by simp),Nat.shiftLeft_eq]
end
def rsame(x y:Nat):Prop:=x=y∨nanB x=true∧nanB y=true
theorem c54:bodyT Tp 54:=⟨_,Tryz.func54,by kernel_rfl,by kernel_rfl⟩
theorem rmay_ev(v:VD):Ev Tp γ 54 [vA v] (.v (.bool (mayF v))):=by
 refine Ev.of Tryz.func54 rfl ?_;obtain⟨k,n,x,a,b,t⟩:=v;simp only[vA,vC]
 by_cases h4:k=4
 ·subst h4;have z:((4:Int)==4)=true:=rfl
  have e:decide ((t.length:Int)≤256)=decide (t.length≤256):=by
   by_cases h:t.length≤256
   ·rw[decide_eq_true h,decide_eq_true (by omega)]
   ·rw[decide_eq_false h,decide_eq_false (by omega)]
  have em:mayF ⟨4,n,x,a,b,t⟩=decide (t.length≤256):=by unfold mayF;rw[if_neg (by show ¬((4:Int)=1∨(4:Int)=2∨(4:Int)=3);decide),if_pos rfl]
  rw[em];simp only[Tryz.f54,tyV,z,e,evS,tyS,Nat.reduceAdd,Nat.reduceSub,Nat.reduceLT,Nat.reduceEqDiff,reduceCtorEq]
  (repeat' (first|(with_reducible refine aI ?_ ?_)|(first|(first|refine gF ?_ ?_|refine gT ?_ ?_|refine cI ?_ ?_|refine pI ?_ ?_)<;>intro h|(refine dI ?_;have h:=trivial))<;>simp only[h,tyV,z,e,evS,tyS,Bv,Bf,Nat.reduceAdd,Nat.reduceSub,Nat.reduceMul,Nat.reduceLT,Nat.reduceLeDiff,Nat.reduceEqDiff,reduceCtorEq,List.reduceReplicate,Int.reduceToNat,Int.reduceLE,Int.reduceLT]))
  all_goals first|done|rfl|trace_state
 ·have z4:=beq_f h4
  by_cases h5:k=5
  ·subst h5;have z:((5:Int)==5)=true:=rfl;have em:mayF ⟨5,n,x,a,b,t⟩=((n==0) || (n==1)):=by unfold mayF;rw[if_neg (by show ¬((5:Int)=1∨(5:Int)=2∨(5:Int)=3);decide),if_neg (by show ¬((5:Int)=4);decide),if_pos rfl]
   rw[em];cases hn:(n==0)with
   |true=>
    simp only[Tryz.f54,tyV,z4,z,hn,evS,tyS,Nat.reduceAdd,Nat.reduceSub,Nat.reduceLT,Nat.reduceEqDiff,reduceCtorEq]
    (repeat' (first|(with_reducible refine aI ?_ ?_)|(first|(first|refine gF ?_ ?_|refine gT ?_ ?_|refine cI ?_ ?_|refine pI ?_ ?_)<;>intro h|(refine dI ?_;have h:=trivial))<;>simp only[h,tyV,z4,z,hn,evS,tyS,Bv,Bf,Nat.reduceAdd,Nat.reduceSub,Nat.reduceMul,Nat.reduceLT,Nat.reduceLeDiff,Nat.reduceEqDiff,reduceCtorEq,List.reduceReplicate,Int.reduceToNat,Int.reduceLE,Int.reduceLT]))
    all_goals first|done|rfl|trace_state
   |false=>
    simp only[Tryz.f54,tyV,z4,z,hn,evS,tyS,Nat.reduceAdd,Nat.reduceSub,Nat.reduceLT,Nat.reduceEqDiff,reduceCtorEq]
    (repeat' (first|(with_reducible refine aI ?_ ?_)|(first|(first|refine gF ?_ ?_|refine gT ?_ ?_|refine cI ?_ ?_|refine pI ?_ ?_)<;>intro h|(refine dI ?_;have h:=trivial))<;>simp only[h,tyV,z4,z,hn,evS,tyS,Bv,Bf,Nat.reduceAdd,Nat.reduceSub,Nat.reduceMul,Nat.reduceLT,Nat.reduceLeDiff,Nat.reduceEqDiff,reduceCtorEq,List.reduceReplicate,Int.reduceToNat,Int.reduceLE,Int.reduceLT]))
    all_goals first|done|rfl|trace_state
  ·have z5:=beq_f h5
   have em:mayF ⟨k,n,x,a,b,t⟩=(decide (1≤k)&&decide (k≤3)):=by
    unfold mayF;simp only
    by_cases h:k=1∨k=2∨k=3
    ·rw[if_pos h,decide_eq_true (by omega),decide_eq_true (by omega)];rfl
    ·rw[if_neg h,if_neg h4,if_neg h5]
     by_cases h1:1≤k
     ·rw[decide_eq_false (show ¬k≤3 by omega)];simp
     ·rw[decide_eq_false h1];rfl
   rw[em];cases d1:decide (1≤k)with
   |true=>
    simp only[Tryz.f54,tyV,z4,z5,d1,evS,tyS,Nat.reduceAdd,Nat.reduceSub,Nat.reduceLT,Nat.reduceEqDiff,reduceCtorEq]
    (repeat' (first|(with_reducible refine aI ?_ ?_)|(first|(first|refine gF ?_ ?_|refine gT ?_ ?_|refine cI ?_ ?_|refine pI ?_ ?_)<;>intro h|(refine dI ?_;have h:=trivial))<;>simp only[h,tyV,z4,z5,d1,evS,tyS,Bv,Bf,Nat.reduceAdd,Nat.reduceSub,Nat.reduceMul,Nat.reduceLT,Nat.reduceLeDiff,Nat.reduceEqDiff,reduceCtorEq,List.reduceReplicate,Int.reduceToNat,Int.reduceLE,Int.reduceLT]))
    all_goals first|done|rfl|trace_state
   |false=>
    simp only[Tryz.f54,tyV,z4,z5,d1,evS,tyS,Nat.reduceAdd,Nat.reduceSub,Nat.reduceLT,Nat.reduceEqDiff,reduceCtorEq]
    (repeat' (first|(with_reducible refine aI ?_ ?_)|(first|(first|refine gF ?_ ?_|refine gT ?_ ?_|refine cI ?_ ?_|refine pI ?_ ?_)<;>intro h|(refine dI ?_;have h:=trivial))<;>simp only[h,tyV,z4,z5,d1,evS,tyS,Bv,Bf,Nat.reduceAdd,Nat.reduceSub,Nat.reduceMul,Nat.reduceLT,Nat.reduceLeDiff,Nat.reduceEqDiff,reduceCtorEq,List.reduceReplicate,Int.reduceToNat,Int.reduceLE,Int.reduceLT]))
    all_goals first|done|rfl|trace_state
theorem c178:bodyT Tp 178:=⟨_,Tryz.func178,by kernel_rfl,by kernel_rfl⟩
theorem read0:Ieee.double.read 0=.number false 0 (-1074):=rd0
theorem ord0(x:Nat)(hx:x<18446744073709551616)(hn:nanB x=false):(FloatKind.f64.format.order x 0==some .lt)=(sgB x && !decide (eB x=0∧mB x=0))∧(FloatKind.f64.format.order x 0==some .eq)=decide (eB x=0∧mB x=0):=by
 rw[nanB_eq x hx]at hn;have hn':¬(eB x=2047∧mB x≠0):=of_decide_eq_false hn;show (Ieee.double.order x 0==some .lt)=_∧(Ieee.double.order x 0==some .eq)=_;unfold Ieee.Format.order;rw[rd_bits x hx,read0]
 by_cases h1:eB x=2047
 ·have h2:mB x=0:=by omega
  rw[if_pos h1,if_pos h2,decide_eq_false (by omega)];cases sgB x<;>exact⟨rfl,rfl⟩
 ·rw[if_neg h1];have hE : -1074≤mE x:=by unfold mE;split<;>omega
  have hz:(mM x=0)↔(eB x=0∧mB x=0):=by
   unfold mM
   split<;>omega
  simp only[Ieee.Datum.order];rw[Int.min_eq_right hE];have hp:0<2^(mE x - -1074).toNat:=Nat.two_pow_pos _;have e0:Ieee.signed false 0 (-1074 - -1074:Int).toNat=0:=rfl;rw[e0];generalize hk:(mE x - -1074).toNat=k at hp⊢
  by_cases h2:mM x=0
  ·rw[decide_eq_true (hz.1 h2),h2];have:Ieee.signed (sgB x) 0 k=0:=by unfold Ieee.signed;simp
   rw[this];cases sgB x<;>exact⟨rfl,rfl⟩
  ·rw[decide_eq_false (fun h=>h2 (hz.2 h))];have hpos:0<mM x * 2^k:=Nat.mul_pos (by omega) hp;cases sgB x with
   |true=>
    have:Ieee.signed true (mM x) k = -((mM x * 2^k:Nat):Int):=by unfold Ieee.signed;rw[if_pos rfl,Nat.shiftLeft_eq]
    rw[this];have hc:compare (-((mM x * 2^k:Nat):Int)) 0=.lt:=by rw[Int.compare_eq_lt];omega
    rw[hc];exact⟨rfl,rfl⟩
   |false=>
    rw[signed_f];have hc:compare (((mM x * 2^k:Nat):Int)) 0=.gt:=by rw[Int.compare_eq_gt];omega
    rw[hc];exact⟨rfl,rfl⟩
theorem zero_cases{x:Nat}(hx:x<18446744073709551616)(h:eB x=0∧mB x=0):x=0∨x=9223372036854775808:=by
 unfold eB mB at h
 omega
theorem below_ev(x:Nat)(hx:x<18446744073709551616)(hn:nanB x=false):Ev Tp γ 178 [.v (.float .f64 x)] (.v (.bool (sgB x))):=by
 refine Ev.of Tryz.func178 rfl ?_;obtain⟨h1,h2⟩:=ord0 x hx hn
 by_cases hz:eB x=0∧mB x=0
 ·rw[decide_eq_true hz]at h1 h2
  rcases zero_cases hx hz with rfl|rfl
  ·have d:fltRes (FloatKind.f64.format.div 4607182418800017408 0)=.v (.float .f64 9218868437227405312):=by kernel_rfl
   have o:(FloatKind.f64.format.order 9218868437227405312 0==some .lt)=false:=by kernel_rfl
   have h1':(FloatKind.f64.format.order 0 0==some .lt)=false:=by kernel_rfl
   have h2':(FloatKind.f64.format.order 0 0==some .eq)=true:=by kernel_rfl
   have e:sgB 0=false:=by kernel_rfl
   rw[e];simp only[Tryz.f178,h1',h2',d,o,evS,Nat.reduceAdd,Nat.reduceSub,Nat.reduceLT,Nat.reduceEqDiff,reduceCtorEq]
   (repeat' (first|(with_reducible refine aI ?_ ?_)|(first|(first|refine gF ?_ ?_|refine gT ?_ ?_|refine cI ?_ ?_|refine pI ?_ ?_)<;>intro h|(refine dI ?_;have h:=trivial))<;>simp only[h,h1',h2',d,o,evS,tyS,Bv,Bf,Nat.reduceAdd,Nat.reduceSub,Nat.reduceMul,Nat.reduceLT,Nat.reduceLeDiff,Nat.reduceEqDiff,reduceCtorEq,List.reduceReplicate,Int.reduceToNat,Int.reduceLE,Int.reduceLT]))
   all_goals first|done|rfl|trace_state
  ·have d:fltRes (FloatKind.f64.format.div 4607182418800017408 9223372036854775808)=.v (.float .f64 18442240474082181120):=by kernel_rfl
   have o:(FloatKind.f64.format.order 18442240474082181120 0==some .lt)=true:=by kernel_rfl
   have h1':(FloatKind.f64.format.order 9223372036854775808 0==some .lt)=false:=by kernel_rfl
   have h2':(FloatKind.f64.format.order 9223372036854775808 0==some .eq)=true:=by kernel_rfl
   have e:sgB 9223372036854775808=true:=by kernel_rfl
   rw[e];simp only[Tryz.f178,h1',h2',d,o,evS,Nat.reduceAdd,Nat.reduceSub,Nat.reduceLT,Nat.reduceEqDiff,reduceCtorEq]
   (repeat' (first|(with_reducible refine aI ?_ ?_)|(first|(first|refine gF ?_ ?_|refine gT ?_ ?_|refine cI ?_ ?_|refine pI ?_ ?_)<;>intro h|(refine dI ?_;have h:=trivial))<;>simp only[h,h1',h2',d,o,evS,tyS,Bv,Bf,Nat.reduceAdd,Nat.reduceSub,Nat.reduceMul,Nat.reduceLT,Nat.reduceLeDiff,Nat.reduceEqDiff,reduceCtorEq,List.reduceReplicate,Int.reduceToNat,Int.reduceLE,Int.reduceLT]))
   all_goals first|done|rfl|trace_state
 ·rw[decide_eq_false hz]at h1 h2;cases hs:sgB x with
  |true=>
   rw[hs]at h1;have h1':(FloatKind.f64.format.order x 0==some .lt)=true:=h1;simp only[Tryz.f178,h1',evS,Nat.reduceAdd,Nat.reduceSub,Nat.reduceLT,Nat.reduceEqDiff,reduceCtorEq]
   (repeat' (first|(with_reducible refine aI ?_ ?_)|(first|(first|refine gF ?_ ?_|refine gT ?_ ?_|refine cI ?_ ?_|refine pI ?_ ?_)<;>intro h|(refine dI ?_;have h:=trivial))<;>simp only[h,h1',h2,evS,tyS,Bv,Bf,Nat.reduceAdd,Nat.reduceSub,Nat.reduceMul,Nat.reduceLT,Nat.reduceLeDiff,Nat.reduceEqDiff,reduceCtorEq,List.reduceReplicate,Int.reduceToNat,Int.reduceLE,Int.reduceLT]))
   all_goals first|done|rfl|trace_state
  |false=>
   rw[hs]at h1;have h1':(FloatKind.f64.format.order x 0==some .lt)=false:=h1;simp only[Tryz.f178,h1',h2,evS,Nat.reduceAdd,Nat.reduceSub,Nat.reduceLT,Nat.reduceEqDiff,reduceCtorEq]
   (repeat' (first|(with_reducible refine aI ?_ ?_)|(first|(first|refine gF ?_ ?_|refine gT ?_ ?_|refine cI ?_ ?_|refine pI ?_ ?_)<;>intro h|(refine dI ?_;have h:=trivial))<;>simp only[h,h1',h2,evS,tyS,Bv,Bf,Nat.reduceAdd,Nat.reduceSub,Nat.reduceMul,Nat.reduceLT,Nat.reduceLeDiff,Nat.reduceEqDiff,reduceCtorEq,List.reduceReplicate,Int.reduceToNat,Int.reduceLE,Int.reduceLT]))
   all_goals first|done|rfl|trace_state
end Go.Proofs.YtlobiioioicmhaaGreatDoor
