/- A part of the proof. -/
import Derived.Test.YtlobiioioicmhaaGreatDoorCQ14
set_option linter.all false
set_option maxHeartbeats 8000000
namespace Go.Proofs.YtlobiioioicmhaaGreatDoor
open _root_.Bool renaming not_true→Bv,not_false→Bf
open _root_.List renaming getElem?_eq_some_iff→Bs,getElem?_append_left→Ba,getElem?_set_self→Be,getElem?_set_ne→Bn,length_set→Bl,length_append→Bp,append_assoc→Bo,cons_append→Bc,nil_append→Bi,getElem?_cons_zero→Bz,getElem?_cons_succ→Bu,set_cons_zero→Bx,set_cons_succ→Bw,set_append_left→Bg,take_of_length_le→Bt,mem_cons→BI,getElem?_toArray→BU
open _root_.Nat renaming le_refl→BL,le_trans→BM
open Go.Proofs.Tryz renaming prog→Tp
open Go Go.Ev
set_option maxRecDepth 20000
variable {γ:List (Nat×AV)} {ts:List Tk} {L:AV}
theorem c72:Ak Tp 72:=⟨_,Tryz.func72,by kernel_rfl,by kernel_rfl⟩
theorem MK{m:Nat}{h:List Aa}{x:Pt}{a:AV}(r:TP Pt.av m x a h):∃ V,a=.agg [Ae x.tag,V]∧Rd (Old m) h (GZ x.vars) V:=by
 have k:=Rd.fz r;simp only[Pt.av,Pt.cells,Go.Ev.fz,Fe,Ae]at k;obtain⟨xs,rfl,x1,ys,rfl,rfl,V,zs,rfl,kV,rfl⟩:=k;refine⟨V,rfl,fun h' f=>?_⟩;have k:=r h' f;simp only[Pt.av,Pt.cells,Go.Ev.fz,Fe,Ae]at k;obtain⟨xs,e,x1,ys,rfl,rfl,V',zs,rfl,kV',rfl⟩:=k;cases e;exact kV'
theorem Cc.via{P:Program}{E:AV→St→Prop}{ops:Array Oper}{Q:AY}{s:St}(F:St→Prop)(h:∀ K:AY,(∀ s',F s'→K .normal s')→Cc P E ops K s)(h2:∀ s',F s'→Q .normal s'):Cc P E ops Q s:=h Q h2
def oY(γ:List (Nat×AV))(i r b:Nat)(y:Nat×List Aa):St:=⟨⟨36,[(0,.ptr i 0 0),(2,.ptr r 0 0),(3,.ptr b 0 0)],γ⟩,y.2⟩
theorem XG(E:FC γ L ts){h:List Aa}{i p n:Nat}(hp:p≤ts.length)(hr:RD h i L p n):
  Ck Tp γ 72 [.ptr i 0 0] h (E9 ts n L i h (TP (fun c=>.agg (Ch.cells c)) h.length) (FE ts p)):=by
 have hil:=hr.lt;have hn:=E.n;refine Ck.ofG Tryz.func72 rfl ?_;simp only[Tryz.f72,AH,B4,seval];refine JT (w:=Hd) E hp (hr.app [⟨0,59,[.v (.string ⟨#[]⟩),.v (.slice none 0 0),.v (.slice none 0 0),.v (.slice none 0 0)]⟩]) ?_ ?_ (fun e1 h1 f1 r1 hp1=>?_) (fun e1 h1 f1=>?_)
 ·rfl
 ·rfl
 rotate_left
 ·have:FE ts p=.bad p 80:=by unfold FE AR;rw[if_neg (by rw[e1];decide)];rfl
  rw[this];exact⟨f1.pre,rfl⟩
 have eC1:FE ts p=(Eg ts (p+1)).bind fun n p2=>(AR ts [58] p2).bind fun _ p3=>(Fo ts p3).bind fun x p4=>(D0 ts (ts.length+1) [x] p4).bind fun l p5=>(D6 ts p5).bind fun g p6=>(Eu ts p6).bind fun b p7=>.ok ⟨n,l,g,b⟩ p7:=by unfold FE AR;rw[if_pos e1];rfl
 rw[eC1];have F1:Fr (Io i h.length) h h1:=Io.i f1.pre;have kr1:h1[h.length]?=some ⟨0,59,[.v (.string ⟨#[]⟩),.v (.slice none 0 0),.v (.slice none 0 0),.v (.slice none 0 0)]⟩:=f1.at (Ap _ _ _) (fun e=>by have e:h.length=i:=e;omega);clear f1 eC1;simp only[B4,seval];refine PD E hp1 r1 ?_ ?_ (fun nm p2 h2 e2 f2 r2 a2 b2=>?_) (fun q e' h2 e2 f2=>?_)
 ·rfl
 ·rfl
 rotate_left
 ·rw[e2];exact⟨Io.fin (F1.trans (Io.i f2) fun k e=>.inl e),rfl⟩
 rw[e2];have eC2:(DR.ok nm p2).bind (fun n p2=>(AR ts [58] p2).bind fun _ p3=>(Fo ts p3).bind fun x p4=>(D0 ts (ts.length+1) [x] p4).bind fun l p5=>(D6 ts p5).bind fun g p6=>(Eu ts p6).bind fun b p7=>DR.ok (⟨n,l,g,b⟩:Ch) p7)=(AR ts [58] p2).bind fun _ p3=>(Fo ts p3).bind fun x p4=>(D0 ts (ts.length+1) [x] p4).bind fun l p5=>(D6 ts p5).bind fun g p6=>(Eu ts p6).bind fun b p7=>.ok ⟨nm,l,g,b⟩ p7:=rfl
 rw[eC2];clear eC2;have F2:=F1.trans (Io.i (n0:=h.length) f2) fun k e=>.inl e
 have kr2:=f2.at kr1 (fun e=>by have e:h.length=i:=e;omega);have hl2:=F2.1;have hrl2:=(Bs.1 kr2).1;clear f2;simp only[AH,Ap,CV,B4,seval];refine JT (w:=[58]) E b2 (r2.app [⟨0,59,[.v (.string ⟨nm.toArray⟩),.v (.slice none 0 0),.v (.slice none 0 0),.v (.slice none 0 0)]⟩]) ?_ ?_ (fun e3 h3 f3 r3 hp3=>?_) (fun e3 h3 f3=>?_)
 ·rfl
 ·rfl
 rotate_left
 ·have:AR ts [58] p2=.bad p2 80:=by unfold AR;rw[if_neg (by rw[e3];decide)]
  rw[this];exact⟨Io.fin (F2.trans (Io.i f3.pre) fun k e=>.inl e),rfl⟩
 have eW3:AR ts [58] p2=.ok () (p2+1):=by unfold AR;rw[if_pos e3]
 rw[eW3];have eC3:(DR.ok () (p2+1)).bind (fun _ p3=>(Fo ts p3).bind fun x p4=>(D0 ts (ts.length+1) [x] p4).bind fun l p5=>(D6 ts p5).bind fun g p6=>(Eu ts p6).bind fun b p7=>DR.ok (⟨nm,l,g,b⟩:Ch) p7)=(Fo ts (p2+1)).bind fun x p4=>(D0 ts (ts.length+1) [x] p4).bind fun l p5=>(D6 ts p5).bind fun g p6=>(Eu ts p6).bind fun b p7=>.ok ⟨nm,l,g,b⟩ p7:=rfl
 rw[eC3];clear eC3 eW3;have F3:=F2.trans (Io.i (n0:=h.length) f3.pre) fun k e=>.inl e
 have hn3:h2.length+1≤h3.length:=by have:=f3.1;simpa using this
 have kr3:h3[h.length]?=some ⟨0,59,[.v (.string ⟨#[]⟩),.v (.slice none 0 0),.v (.slice none 0 0),.v (.slice none 0 0)]⟩:=f3.at ((Ba hrl2).trans kr2) (fun e=>by have e:h.length=i:=e;omega);have kb3:h3[h2.length]?=some ⟨0,59,[.v (.string ⟨nm.toArray⟩),.v (.slice none 0 0),.v (.slice none 0 0),.v (.slice none 0 0)]⟩:=f3.at (Ap _ _ _) (fun e=>by have e:h2.length=i:=e;omega);obtain⟨b,hb⟩:∃ b,b=h2.length:=⟨_,rfl⟩;rw[←hb]at kb3 hn3 hrl2⊢;have hbi:b≠i:=by omega
 have hb0:h.length<b:=by omega
 generalize hp3e:p2+1=p3 at r3 hp3⊢;clear hb f3 kr2 r2 kr1 r1 F1 F2 hl2 e2 e1 e3;simp only[B4,seval];refine Cc.via (fun s'=>∃ x q V hp j ver,Fo ts p3=.ok x q∧slotW s' (oY γ i h.length b (q,hp))∧RD hp i L q n∧hp[b]?=some ⟨0,59,[.v (.string ⟨nm.toArray⟩),.own j ver 1,.v (.slice none 0 0),.v (.slice none 0 0)]⟩∧GL (b+1) 130 2 hp (.own j ver 1) 1 x.cells∧Fr (Io i h.length) h hp∧V=()∧hp[h.length]?=some ⟨0,59,[.v (.string ⟨#[]⟩),.v (.slice none 0 0),.v (.slice none 0 0),.v (.slice none 0 0)]⟩) (fun K hK=>?_) (fun s' hs'=>?_)
 ·refine Cc.orders [[0,1,2,3,4,5,6,7],[0,2,1,3,4,5,6,7],[2,0,1,3,4,5,6,7],[0,2,3,1,4,5,6,7],[2,0,3,1,4,5,6,7],[0,2,3,4,1,5,6,7],[2,0,3,4,1,5,6,7],[2,3,0,1,4,5,6,7],[2,3,0,4,1,5,6,7],[2,3,4,0,1,5,6,7]] (fun _ _ _ h o h'=>E9 ts n L i h (TP Pt.av h.length) (Fo ts p3) o h') (Dw _) (by kernel_rfl) (by kernel_rfl) (by kernel_rfl) (fun q hq=>?_);simp only[BI,List.not_mem_nil,or_false]at hq
  rcases hq with rfl|rfl|rfl|rfl|rfl|rfl|rfl|rfl|rfl|rfl
  all_goals simp only[Rz,Gf,CI,BU,Bu,Bz,AH,kb3,B4,seval]
  all_goals refine⟨c130,Sy E hp3 r3,fun ra hp hh=>?_,fun v hp hh=>by obtain⟨q,e,eR,f,rfl⟩:=E9.pan hh;rw[eR];exact⟨Io.fin (F3.trans (Io.i f) fun k e=>.inl e),rfl⟩⟩
  all_goals obtain⟨x,q,eR,f,rp,hA⟩:=E9.ret hh
  all_goals obtain⟨V,rfl,rV⟩:=MK hA
  all_goals obtain⟨oV,fV⟩:=Cz rV
  all_goals have kbp:hp[b]?=some ⟨0,59,[.v (.string ⟨nm.toArray⟩),.v (.slice none 0 0),.v (.slice none 0 0),.v (.slice none 0 0)]⟩:=f.at kb3 hbi
  all_goals have hbl:=(Bs.1 kbp).1
  all_goals have g7:∀ l,(hp++l)[b]?=some ⟨0,59,[.v (.string ⟨nm.toArray⟩),.v (.slice none 0 0),.v (.slice none 0 0),.v (.slice none 0 0)]⟩:=fun l=>(Ba hbl).trans kbp
  all_goals have s6:∀ l c,(hp++l).set b c=hp.set b c++l:=fun l c=>Bg _ _ hbl
  all_goals simp only[Bu,Bz,AH,kbp,g7,oV,Ae,Ap,s6,Bi,Bo,Bc,B4,seval]
  all_goals have hf:=f.1
  all_goals have GP:=(GL.nil (n0:=b+1) (t:=130) (sz:=2) (h:=hp)).push (h':=hp.set b ⟨0,59,[.v (.string ⟨nm.toArray⟩),.own (hp.length+1) 0 1,.v (.slice none 0 0),.v (.slice none 0 0)]⟩++[⟨0,130,[.v (.string ⟨x.tag.toArray⟩),V]⟩,⟨0,130,[.v (.string ⟨x.tag.toArray⟩),V]⟩]) (j':=hp.length+1) (ver':=0) (xs:=[]) (es:=[.v (.string ⟨x.tag.toArray⟩),V]) (ecs:=x.cells) (fun j ver e=>by cases e) (fun _=>⟨by omega,rfl⟩) (by omega) ((Fr.set _ (.inl (Nat.lt_succ_self b))).trans (Fr.app (S:=BR) _ _) fun k e=>e.elim) (Ce _ _ _ _ _ _) rfl (AE.cons (Rd.str _) (AE.cons (rV.up (Fr.refl BR hp) (fun k e=>e.elim) fun k e _=>e.elim (fun e=>by show k<h3.length;omega) fun e=>e.elim) AE.nil))
  all_goals refine hK _ ⟨x,q,(),_,hp.length+1,0,eR,⟨rfl,rfl,⟨rfl,rfl,rfl,trivial⟩,rfl⟩,?_,?_,GP,?_,rfl,?_⟩
  all_goals first
   |exact (Ba (by rw[Bl];exact rp.lt)).trans ((Bn hbi).trans rp)
   |exact (Ba (by rw[Bl];exact hbl)).trans (Be hbl)
   |exact (F3.trans (Io.i f) fun k e=>.inl e).trans ((Fr.set (S:=Io i h.length) _ (.inr (by omega))).trans (Fr.app (S:=BR) _ _) fun k e=>e.elim) fun k e=>.inl e
   |exact (Ba (by rw[Bl];omega)).trans ((Bn (by omega)).trans (f.at kr3 (fun e=>by have e:h.length=i:=e;omega)))
 obtain⟨x,q,V,hp,j,ver,eR,hw,rp,kbp,Gp,Fp,_,krp⟩:=hs';rw[eR];have adv3:=HT hp3;rw[eR]at adv3;have eC4:(DR.ok x q).bind (fun x p4=>(D0 ts (ts.length+1) [x] p4).bind fun l p5=>(D6 ts p5).bind fun g p6=>(Eu ts p6).bind fun b p7=>DR.ok (⟨nm,l,g,b⟩:Ch) p7)=(D0 ts (ts.length+1) [x] q).bind fun l p5=>(D6 ts p5).bind fun g p6=>(Eu ts p6).bind fun b p7=>.ok ⟨nm,l,g,b⟩ p7:=rfl
 rw[eC4];generalize hR:D0 ts (ts.length+1) [x] q=R;simp only[B4]
 refine Cp.intro (oY γ i h.length b) (fun y=>∃ xs N f,y.1≤ts.length∧xs.length≤y.1∧RD y.2 i L y.1 n∧y.2[b]?=some ⟨0,59,[.v (.string ⟨nm.toArray⟩),N,.v (.slice none 0 0),.v (.slice none 0 0)]⟩∧GL (b+1) 130 2 y.2 N xs.length (xs.flatMap Pt.cells)∧Fr (Io i h.length) h y.2∧y.2[h.length]?=some ⟨0,59,[.v (.string ⟨#[]⟩),.v (.slice none 0 0),.v (.slice none 0 0),.v (.slice none 0 0)]⟩∧D0 ts f xs y.1=R∧ts.length<f+y.1) (fun y=>ts.length+1-y.1) (q,hp) hw
  ⟨[x],.own j ver 1,ts.length+1,adv3.2,by have:=adv3.1;show 1≤q;omega,rp,kbp,Gp,Fp,krp,hR,by show ts.length<ts.length+1+q;omega⟩ (fun y hy=>?_)
 clear hR eC4 adv3 hw rp kbp Gp Fp krp eR kb3 kr3 r3 hp3 hp3e F3 hn3;obtain⟨p,h4⟩:=y;obtain⟨xs,N,f,hp,hx4,r4,kb4,G4,F4,kr4,hR,hf⟩:=hy;simp only at hp hx4 r4 kb4 G4 F4 kr4 hR hf;obtain⟨f',rfl⟩:∃ g,f=g+1:=⟨f-1,by omega⟩;rw[D0]at hR;have hF4:=F4.1;have hbl4:=(Bs.1 kb4).1;simp only[oY,B4,seval];refine KT (w:=[38]) E hp r4 ?_ ?_ (fun hB h5 f5 r5 hp5=>?_) (fun hB h5 f5 r5=>?_)
 ·rfl
 ·rfl
 ·rw[if_pos hB]at hR;have kb5:=f5.at kb4 hbi;have hbl5:=(Bs.1 kb5).1;have F5:=F4.trans (Io.i (n0:=h.length) f5) fun k e=>.inl e
  have kr5:=f5.at kr4 (fun e=>by have e:h.length=i:=e;omega);have G5:=G4.fr0 f5 (fun k e=>by have e:k=i:=e;omega);generalize hp5e:p+1=p5 at r5 hp5 hR⊢;simp only[B4,seval];refine Cc.via (fun s'=>∃ y:Nat×List Aa,slotW s' (oY γ i h.length b y)∧p<y.1∧∃ xs N f,y.1≤ts.length∧xs.length≤y.1∧RD y.2 i L y.1 n∧y.2[b]?=some ⟨0,59,[.v (.string ⟨nm.toArray⟩),N,.v (.slice none 0 0),.v (.slice none 0 0)]⟩∧GL (b+1) 130 2 y.2 N xs.length (xs.flatMap Pt.cells)∧Fr (Io i h.length) h y.2∧y.2[h.length]?=some ⟨0,59,[.v (.string ⟨#[]⟩),.v (.slice none 0 0),.v (.slice none 0 0),.v (.slice none 0 0)]⟩∧D0 ts f xs y.1=R∧ts.length<f+y.1) (fun K hK=>?_) (fun s' hs'=>?_)
  rotate_left
  ·obtain⟨y,hw,hlt,hinv⟩:=hs';simp only[B4];exact AF.intro y hinv hw (by obtain⟨_,_,_,h1,_⟩:=hinv;show ts.length+1-y.1<ts.length+1-p;omega)
  refine Cc.orders [[0,1,2,3,4,5,6,7],[0,2,1,3,4,5,6,7],[2,0,1,3,4,5,6,7],[0,2,3,1,4,5,6,7],[2,0,3,1,4,5,6,7],[0,2,3,4,1,5,6,7],[2,0,3,4,1,5,6,7],[2,3,0,1,4,5,6,7],[2,3,0,4,1,5,6,7],[2,3,4,0,1,5,6,7]] (fun _ _ _ h o h'=>E9 ts n L i h (TP Pt.av h.length) (Fo ts p5) o h') (Dw _) (by kernel_rfl) (by kernel_rfl) (by kernel_rfl) (fun q hq=>?_);simp only[BI,List.not_mem_nil,or_false]at hq
  rcases hq with rfl|rfl|rfl|rfl|rfl|rfl|rfl|rfl|rfl|rfl
  all_goals simp only[Rz,Gf,CI,BU,Bu,Bz,AH,kb5,B4,seval]
  all_goals refine⟨c130,Sy E hp5 r5,fun ra hp hh=>?_,fun v hp hh=>by obtain⟨q,e,eR,f,rfl⟩:=E9.pan hh;rw[eR]at hR;rw[←hR];exact⟨Io.fin (F5.trans (Io.i f) fun k e=>.inl e),rfl⟩⟩
  all_goals obtain⟨x,q,eR,f,rp,hA⟩:=E9.ret hh
  all_goals obtain⟨V,rfl,rV⟩:=MK hA
  all_goals have adv5:=HT hp5
  all_goals rw[eR]at hR adv5
  all_goals have hR2:D0 ts f' (xs++[x]) q=R:=hR
  all_goals obtain⟨oV,fV⟩:=Cz rV
  all_goals have kbp:hp[b]?=some ⟨0,59,[.v (.string ⟨nm.toArray⟩),N,.v (.slice none 0 0),.v (.slice none 0 0)]⟩:=f.at kb5 hbi
  all_goals have hbl:=(Bs.1 kbp).1
  all_goals have hff:=f.1
  all_goals have Gp:=G5.fr0 f (fun k e=>by have e:k=i:=e;omega)
  all_goals have hl5:∀ k,AZ N k→k<h5.length:=fun k hk=>(G5.lt hk).2
  all_goals have g7:∀ l,(hp++l)[b]?=some ⟨0,59,[.v (.string ⟨nm.toArray⟩),N,.v (.slice none 0 0),.v (.slice none 0 0)]⟩:=fun l=>(Ba hbl).trans kbp
  all_goals have s6:∀ l c,(hp++l).set b c=hp.set b c++l:=fun l c=>Bg _ _ hbl
  all_goals have hel:AE (fun k=>k<b+1∨AZ N k) hp x.cells [.v (.string ⟨x.tag.toArray⟩),V]:=AE.cons (Rd.str _) (AE.cons (rV.up (Fr.refl BR hp) (fun k e=>e.elim) fun k e _=>e.elim (fun e=>by show k<h5.length;omega) fun e=>hl5 k e) AE.nil)
  all_goals have hxe:(xs++[x]).length=xs.length+1:=by simp
  all_goals have hxf:(xs++[x]).flatMap Pt.cells=xs.flatMap Pt.cells++x.cells:=by simp
  all_goals have Fpp:=F5.trans (Io.i (n0:=h.length) f) fun k e=>.inl e
  all_goals have krp:=f.at kr5 (fun e=>by have e:h.length=i:=e;omega)
  all_goals rcases Gp with⟨rfl,e0,e1⟩|⟨j,ver,cs,rfl,hnn,hj0,hj,hl,hrd⟩
  all_goals first
   |(have e0':=e0
     simp only[Bu,Bz,AH,kbp,g7,oV,Ae,Ap,s6,Bi,Bo,Bc,B4,seval];have GP:=(GL.nil (n0:=b+1) (t:=130) (sz:=2) (h:=hp)).push (h':=hp.set b ⟨0,59,[.v (.string ⟨nm.toArray⟩),.own (hp.length+1) 0 1,.v (.slice none 0 0),.v (.slice none 0 0)]⟩++[⟨0,130,[.v (.string ⟨x.tag.toArray⟩),V]⟩,⟨0,130,[.v (.string ⟨x.tag.toArray⟩),V]⟩]) (j':=hp.length+1) (ver':=0) (xs:=[]) (es:=[.v (.string ⟨x.tag.toArray⟩),V]) (ecs:=x.cells) (fun j ver e=>by cases e) (fun _=>⟨by omega,rfl⟩) (by omega) ((Fr.set _ (.inl (Nat.lt_succ_self b))).trans (Fr.app (S:=BR) _ _) fun k e=>e.elim) (Ce _ _ _ _ _ _) rfl hel;refine hK _ ⟨(q,_),⟨rfl,rfl,⟨rfl,rfl,rfl,trivial⟩,rfl⟩,by have:=adv5.1;show p<q;omega,xs++[x],.own (hp.length+1) 0 1,f',adv5.2,by rw[hxe];have:=adv5.1;show xs.length+1≤q;omega,?_,?_,by rw[hxe,hxf,e0,e1];exact GP,?_,?_,hR2,by have:=adv5.1;show ts.length<f'+q;omega⟩
     ·exact (Ba (by rw[Bl];exact rp.lt)).trans ((Bn hbi).trans rp)
     ·exact (Ba (by rw[Bl];exact hbl)).trans (Be hbl)
     ·exact Fpp.trans ((Fr.set (S:=Io i h.length) _ (.inr (by omega))).trans (Fr.app (S:=BR) _ _) fun k e=>e.elim) fun k e=>.inl e
     ·exact (Ba (by rw[Bl];omega)).trans ((Bn (by omega)).trans krp))
   |(have hjl:=(Bs.1 hj).1
     have hjb:j≠b:=by omega
     have hji:j≠i:=by omega
     have hjh:j≠h.length:=by omega
     have q1:∀ l,(hp++l)[j]?=some ⟨ver,130,cs⟩:=fun l=>(Ba hjl).trans hj
     have s8:∀ l c,(hp++l).set j c=hp.set j c++l:=fun l c=>Bg _ _ hjl
     have g9:∀ l c,(hp.set j c++l)[b]?=some ⟨0,59,[.v (.string ⟨nm.toArray⟩),.own j ver xs.length,.v (.slice none 0 0),.v (.slice none 0 0)]⟩:=fun l c=>(Ba (by rw[Bl];exact hbl)).trans ((Bn hjb).trans kbp)
     have s9:∀ l c d,(hp.set j c++l).set b d=(hp.set j c).set b d++l:=fun l c d=>Bg _ _ (by rw[Bl];exact hbl)
     have hl':cs.length=xs.length * 2:=hl;have q4:List.take (xs.length * 2) cs=cs:=Bt (by omega);have q6:xs.length * 2≤cs.length:=by omega
     simp only[Bu,Bz,AH,kbp,g7,oV,Ae,Ap,q1,s8,g9,s9,q4,q6,B4,seval];have GP:=GL.push (h:=hp) (N:=.own j ver xs.length) (.inr ⟨j,ver,cs,rfl,hnn,hj0,hj,hl,hrd⟩) (h':=(hp.set j ⟨ver+1,130,cs++[.v (.string ⟨x.tag.toArray⟩),V]⟩).set b ⟨0,59,[.v (.string ⟨nm.toArray⟩),.own j (ver+1) (xs.length+1),.v (.slice none 0 0),.v (.slice none 0 0)]⟩++[⟨0,130,[.v (.string ⟨x.tag.toArray⟩),V]⟩]) (j':=j) (ver':=ver+1) (xs:=cs) (es:=[.v (.string ⟨x.tag.toArray⟩),V]) (ecs:=x.cells) (fun j2 ver2 e=>by cases e;exact⟨rfl,hj⟩) (fun e=>by cases e) (by omega) (((Fr.set (S:=fun k=>k<b+1∨AZ (.own j ver xs.length) k) _ (.inr rfl)).trans (Fr.set (S:=fun k=>k<b+1∨AZ (.own j ver xs.length) k) _ (.inl (Nat.lt_succ_self b))) fun k e=>.inl e).trans (Fr.app (S:=BR) _ _) fun k e=>e.elim) ((Ba (by rw[Bl,Bl];exact hjl)).trans ((Bn hjb.symm).trans (Be hjl))) rfl hel;refine⟨by omega,hK _ ⟨(q,_),⟨rfl,rfl,⟨rfl,rfl,rfl,trivial⟩,rfl⟩,by have:=adv5.1;show p<q;omega,xs++[x],.own j (ver+1) (xs.length+1),f',adv5.2,by rw[hxe];have:=adv5.1;show xs.length+1≤q;omega,?_,?_,by rw[hxe,hxf];exact GP,?_,?_,hR2,by have:=adv5.1;show ts.length<f'+q;omega⟩⟩
     ·exact (Ba (by rw[Bl,Bl];exact rp.lt)).trans ((Bn hbi).trans ((Bn hji).trans rp))
     ·exact (Ba (by rw[Bl,Bl];exact hbl)).trans (Be (by rw[Bl];exact hbl))
     ·exact Fpp.trans (((Fr.set (S:=Io i h.length) _ (.inr (by omega))).trans (Fr.set (S:=Io i h.length) _ (.inr (by omega))) fun k e=>.inl e).trans (Fr.app (S:=BR) _ _) fun k e=>e.elim) fun k e=>.inl e
     ·exact (Ba (by rw[Bl,Bl];omega)).trans ((Bn (by omega)).trans ((Bn hjh).trans krp)))
 rw[if_neg (by rw[hB];decide)]at hR;rw[←hR];have eC5:(DR.ok xs p).bind (fun l p5=>(D6 ts p5).bind fun g p6=>(Eu ts p6).bind fun b p7=>DR.ok (⟨nm,l,g,b⟩:Ch) p7)=(D6 ts p).bind fun g p6=>(Eu ts p6).bind fun b p7=>.ok ⟨nm,xs,g,b⟩ p7:=rfl
 rw[eC5];have kb5:=f5.at kb4 hbi;have F5:=F4.trans (Io.i (n0:=h.length) f5) fun k e=>.inl e
 have kr5:=f5.at kr4 (fun e=>by have e:h.length=i:=e;omega);have G5:=G4.fr0 f5 (fun k e=>by have e:k=i:=e;omega);clear hR hf hx4 r4 kb4 G4 F4 kr4 f5 eC5 hB;simp only[B4,seval];refine KT (w:=Li) E hp r5 ?_ ?_ (fun hW h6 f6 r6 hp6=>?_) (fun hW h6 f6 r6=>?_)
 ·rfl
 ·rfl
 ·have eG:D6 ts p=FY ts (p+1):=by unfold D6;rw[if_pos hW]
  rw[eG];have kb6:=f6.at kb5 hbi;have F6:=F5.trans (Io.i (n0:=h.length) f6) fun k e=>.inl e
  have kr6:=f6.at kr5 (fun e=>by have e:h.length=i:=e;omega);have G6:=G5.fr0 f6 (fun k e=>by have e:k=i:=e;omega);simp only[B4,seval];refine iY E hp6 r6 ?_ ?_ (fun gx p7 h7 e7 f7 r7 a7 b7=>?_) (fun q e' h7 e7 f7=>?_)
  ·rfl
  ·rfl
  rotate_left
  ·rw[e7];exact⟨Io.fin (F6.trans (Io.i f7) fun k e=>.inl e),rfl⟩
  rw[e7];have eC6:(DR.ok gx p7).bind (fun g p6=>(Eu ts p6).bind fun b p7=>DR.ok (⟨nm,xs,g,b⟩:Ch) p7)=(Eu ts p7).bind fun b p7=>.ok ⟨nm,xs,gx,b⟩ p7:=rfl
  rw[eC6];have kb7:=f7.at kb6 hbi;have F7:=F6.trans (Io.i (n0:=h.length) f7) fun k e=>.inl e
  have kr7:=f7.at kr6 (fun e=>by have e:h.length=i:=e;omega);have G7:=G6.fr0 f7 (fun k e=>by have e:k=i:=e;omega);have hbl7:=(Bs.1 kb7).1;have oG:Cl (Ab gx)=true:=by cases gx<;>rfl
  have fG:flat (Ab gx)=some [Ab gx]:=by cases gx<;>rfl
  simp only[AH,kb7,oG,Aj,B4,seval]
  obtain⟨kb8,r8,F8,kr8,G8⟩:(h7.set b (⟨0,59,[.v (.string ⟨nm.toArray⟩),N,Ab gx,.v (.slice none 0 0)]⟩:Aa))[b]?=some ⟨0,59,[.v (.string ⟨nm.toArray⟩),N,Ab gx,.v (.slice none 0 0)]⟩∧RD (h7.set b (⟨0,59,[.v (.string ⟨nm.toArray⟩),N,Ab gx,.v (.slice none 0 0)]⟩:Aa)) i L p7 n∧Fr (Io i h.length) h (h7.set b (⟨0,59,[.v (.string ⟨nm.toArray⟩),N,Ab gx,.v (.slice none 0 0)]⟩:Aa))∧(h7.set b (⟨0,59,[.v (.string ⟨nm.toArray⟩),N,Ab gx,.v (.slice none 0 0)]⟩:Aa))[h.length]?=some ⟨0,59,[.v (.string ⟨#[]⟩),.v (.slice none 0 0),.v (.slice none 0 0),.v (.slice none 0 0)]⟩∧GL (b+1) 130 2 (h7.set b (⟨0,59,[.v (.string ⟨nm.toArray⟩),N,Ab gx,.v (.slice none 0 0)]⟩:Aa)) N xs.length (xs.flatMap Pt.cells):=
   ⟨Be hbl7,(Bn hbi).trans r7,F7.trans (Fr.set (S:=Io i h.length) _ (.inr (by omega))) fun k e=>.inl e,(Bn (by omega)).trans kr7,G7.fr0 (Fr.set (S:=AU b) _ rfl) (fun k e=>by have e:k=b:=e;omega)⟩
  generalize h7.set b (⟨0,59,[.v (.string ⟨nm.toArray⟩),N,Ab gx,.v (.slice none 0 0)]⟩:Aa)=h8 at kb8 r8 F8 kr8 G8⊢;refine Jw oM (Sa E b7 r8) (fun bd p9 A h9 e9 f9 r9 hA=>?_) (fun q e' h9 e9 f9=>?_)
  rotate_left
  ·rw[e9];exact⟨Io.fin (F8.trans (Io.i f9) fun k e=>.inl e),rfl⟩
  rw[e9];have kb9:=f9.at kb8 hbi;have hbl8:=(Bs.1 kb8).1;have hbl9:=(Bs.1 kb9).1;have F9:=F8.trans (Io.i (n0:=h.length) f9) fun k e=>.inl e
  have kr9:=f9.at kr8 (fun e=>by have e:h.length=i:=e;omega);have G9:=G8.fr0 f9 (fun k e=>by have e:k=i:=e;omega);have hA:Rd (Old h8.length) h9 (JV bd) A:=hA;obtain⟨oA,fA⟩:=Cz hA;obtain⟨oN,fN⟩:=G9.one;have hrl9:=(Bs.1 kr9).1;have q1:∀ c,(h9.set b c)[b]?=some c:=fun c=>Be hbl9
  have q2:∀ c,(h9.set b c)[h.length]?=some ⟨0,59,[.v (.string ⟨#[]⟩),.v (.slice none 0 0),.v (.slice none 0 0),.v (.slice none 0 0)]⟩:=fun c=>(Bn (by omega)).trans kr9
  have q3:∀ c d,((h9.set b c).set h.length d)[h.length]?=some d:=fun c d=>Be (by rw[Bl];exact hrl9)
  simp only[AH,kb9,oG,oA,fA,oN,q1,q2,q3,Aj,B4,seval];have FZ:∀ c d,Fr (fun k=>k=b∨k=h.length) h9 ((h9.set b c).set h.length d):=fun c d=>(Fr.set (S:=fun k=>k=b∨k=h.length) _ (.inl rfl)).trans (Fr.set (S:=fun k=>k=b∨k=h.length) _ (.inr rfl)) fun k e=>.inl e
  have rdN:=G9.rdS (m:=h.length) (FZ ⟨0,59,[.v (.string ⟨nm.toArray⟩),N,Ab gx,A]⟩ ⟨0,59,[.v (.string ⟨nm.toArray⟩),N,Ab gx,A]⟩) (fun k e _=>by rcases e with e|e<;>omega) (by omega);have rdA:=hA.up (S':=Old h.length) (FZ ⟨0,59,[.v (.string ⟨nm.toArray⟩),N,Ab gx,A]⟩ ⟨0,59,[.v (.string ⟨nm.toArray⟩),N,Ab gx,A]⟩) (fun k e _=>by show k<h8.length;rcases e with e|e<;>omega) (fun k e _=>by have e:k<h.length:=e;show k<h8.length;omega);exact⟨Io.fin (F9.trans (FZ _ _) fun k e=>.inl (e.elim (fun e=>.inr (by omega)) fun e=>.inr (by omega))),_,rfl,(Bn (by omega)).trans ((Bn hbi).trans r9),Rd.agg (AE.cons (Rd.str _) (AE.cons rdN (AE.cons (Rd.nodes _) (AE.cons rdA AE.nil))))⟩
 ·have eG:D6 ts p=.ok [] p:=by unfold D6;rw[if_neg (by rw[hW];decide)]
  rw[eG];have eC6:(DR.ok [] p).bind (fun g p6=>(Eu ts p6).bind fun b p7=>DR.ok (⟨nm,xs,g,b⟩:Ch) p7)=(Eu ts p).bind fun b p7=>.ok ⟨nm,xs,[],b⟩ p7:=rfl
  rw[eC6];have kb8:=f6.at kb5 hbi;have F8:=F5.trans (Io.i (n0:=h.length) f6) fun k e=>.inl e
  have kr8:=f6.at kr5 (fun e=>by have e:h.length=i:=e;omega);have G8:=G5.fr0 f6 (fun k e=>by have e:k=i:=e;omega);have r8:=r6;have b7:=hp;obtain⟨gx,hgx⟩:∃ gx:List Nd,gx=[]:=⟨_,rfl⟩;have oG:Cl (Ab gx)=true:=by cases gx<;>rfl
  have fG:flat (Ab gx)=some [Ab gx]:=by cases gx<;>rfl
  have hgn:(.v (.slice none 0 0):AV)=Ab gx:=by rw[hgx];rfl
  have kb8:h6[b]?=some ⟨0,59,[.v (.string ⟨nm.toArray⟩),N,Ab gx,.v (.slice none 0 0)]⟩:=by rw[←hgn];exact kb8
  rw[←hgx];simp only[B4,seval];obtain⟨h8,e8⟩:∃ h8,h8=h6:=⟨_,rfl⟩;obtain⟨p7,e7⟩:∃ p7,p7=p:=⟨_,rfl⟩;rw[←e8]at kb8 F8 kr8 G8 r8⊢;rw[←e7]at r8 b7⊢;refine Jw oM (Sa E b7 r8) (fun bd p9 A h9 e9 f9 r9 hA=>?_) (fun q e' h9 e9 f9=>?_)
  rotate_left
  ·rw[e9];exact⟨Io.fin (F8.trans (Io.i f9) fun k e=>.inl e),rfl⟩
  rw[e9];have kb9:=f9.at kb8 hbi;have hbl8:=(Bs.1 kb8).1;have hbl9:=(Bs.1 kb9).1;have F9:=F8.trans (Io.i (n0:=h.length) f9) fun k e=>.inl e
  have kr9:=f9.at kr8 (fun e=>by have e:h.length=i:=e;omega);have G9:=G8.fr0 f9 (fun k e=>by have e:k=i:=e;omega);have hA:Rd (Old h8.length) h9 (JV bd) A:=hA;obtain⟨oA,fA⟩:=Cz hA;obtain⟨oN,fN⟩:=G9.one;have hrl9:=(Bs.1 kr9).1;have q1:∀ c,(h9.set b c)[b]?=some c:=fun c=>Be hbl9
  have q2:∀ c,(h9.set b c)[h.length]?=some ⟨0,59,[.v (.string ⟨#[]⟩),.v (.slice none 0 0),.v (.slice none 0 0),.v (.slice none 0 0)]⟩:=fun c=>(Bn (by omega)).trans kr9
  have q3:∀ c d,((h9.set b c).set h.length d)[h.length]?=some d:=fun c d=>Be (by rw[Bl];exact hrl9)
  simp only[AH,kb9,oG,oA,fA,oN,q1,q2,q3,Aj,B4,seval];have FZ:∀ c d,Fr (fun k=>k=b∨k=h.length) h9 ((h9.set b c).set h.length d):=fun c d=>(Fr.set (S:=fun k=>k=b∨k=h.length) _ (.inl rfl)).trans (Fr.set (S:=fun k=>k=b∨k=h.length) _ (.inr rfl)) fun k e=>.inl e
  have rdN:=G9.rdS (m:=h.length) (FZ ⟨0,59,[.v (.string ⟨nm.toArray⟩),N,Ab gx,A]⟩ ⟨0,59,[.v (.string ⟨nm.toArray⟩),N,Ab gx,A]⟩) (fun k e _=>by rcases e with e|e<;>omega) (by omega);have rdA:=hA.up (S':=Old h.length) (FZ ⟨0,59,[.v (.string ⟨nm.toArray⟩),N,Ab gx,A]⟩ ⟨0,59,[.v (.string ⟨nm.toArray⟩),N,Ab gx,A]⟩) (fun k e _=>by show k<h8.length;rcases e with e|e<;>omega) (fun k e _=>by have e:k<h.length:=e;show k<h8.length;omega);exact⟨Io.fin (F9.trans (FZ _ _) fun k e=>.inl (e.elim (fun e=>.inr (by omega)) fun e=>.inr (by omega))),_,rfl,(Bn (by omega)).trans ((Bn hbi).trans r9),Rd.agg (AE.cons (Rd.str _) (AE.cons rdN (AE.cons (Rd.nodes _) (AE.cons rdA AE.nil))))⟩
theorem oE:Ak Tp 122:=⟨_,Tryz.func122,by kernel_rfl,by kernel_rfl⟩
theorem Eb{n:Nat}(S:S8)(h:(Au ts n S).2.2=none):S.2=none∧(Au ts n S).2.1=S.1+1:=by
 obtain⟨p,b⟩:=S;cases b with
 |some b=>rw[Dd]at h;cases h
 |none=>
  refine⟨rfl,?_⟩;unfold Au at h⊢;cases e:ts[p]? with
  |none=>rw[e]at h;cases h
  |some t=>
   simp only[e]at h⊢
   split at h
   ·rename_i hc;rw[if_pos hc]
   ·cases h
theorem Nq{n:Nat}(S:S8)(h:(Dj ts n S).2.2=none):S.2=none∧(Dj ts n S).2.1=S.1+1:=by
 unfold Dj at h⊢
 split at h
 ·rename_i hB;rw[if_pos hB];exact⟨(Ed hB).2,rfl⟩
 ·rename_i hB;rw[if_neg hB];exact Eb S h
def kQ(γ:List (Nat×AV))(i r b:Nat)(y:S8×List Aa):St:=⟨⟨39,[(0,.ptr i 0 0),(2,.ptr r 0 0),(3,.ptr b 0 0)],γ⟩,y.2⟩
theorem SG(E:Il L ts){h:List Aa}{i n:Nat}{S:S8}(hr:RQ ts h i L n S):
  Ck Tp γ 122 [.ptr i 0 0] h (JM ts n L i h (AN ts n S).1.av (AN ts n S).2):=by
 have hil:=hr.lt;have hn:=E.n;refine Ck.ofG Tryz.func122 rfl ?_;simp only[Tryz.f122,AH,B4,seval];refine B9 c80 (Fj E (hr.app [⟨0,130,[.v (.string ⟨#[]⟩),.v (.slice none 0 0)]⟩])) (fun h1 f1 r1=>?_);have kr1:h1[h.length]?=some ⟨0,130,[.v (.string ⟨#[]⟩),.v (.slice none 0 0)]⟩:=f1.at (Ap _ _ _) (fun e=>by have e:h.length=i:=e;omega);have F1:Fr (Io i h.length) h h1:=Io.i f1.pre;unfold AN ER;generalize Au ts n S=W at r1⊢;obtain⟨nm,S1⟩:=W;simp only at r1⊢;have hl1:=F1.1;have hrl1:=(Bs.1 kr1).1;simp only[AH,Ae,Ap,CV,Aj,Bx,Bw,B4,seval];refine B9 OG (Cq E (r1.app [⟨0,130,[.v (.string ⟨nm.toArray⟩),.v (.slice none 0 0)]⟩]) [40]) (fun h2 f2 r2=>?_);have kb2:h2[h1.length]?=some ⟨0,130,[.v (.string ⟨nm.toArray⟩),.v (.slice none 0 0)]⟩:=f2.at (Ap _ _ _) (fun e=>by have e:h1.length=i:=e;omega);have kr2:h2[h.length]?=some ⟨0,130,[.v (.string ⟨#[]⟩),.v (.slice none 0 0)]⟩:=f2.at ((Ba hrl1).trans kr1) (fun e=>by have e:h.length=i:=e;omega);have F2:=F1.trans (Io.i (n0:=h.length) f2.pre) fun k e=>.inl e
 have hn2:h1.length+1≤h2.length:=by have:=f2.1;simpa using this
 obtain⟨b,hb⟩:∃ b,b=h1.length:=⟨_,rfl⟩;rw[←hb]at kb2 hn2 hrl1 hl1;simp only[B4,seval];refine B9 R3 (C4 E r2 [41]) (fun h3 f3 r3=>?_);rw[←hb];have hbi:b≠i:=by omega
 have kb3:=f3.at kb2 hbi;have kr3:=f3.at kr2 (fun e=>by have e:h.length=i:=e;omega);have F3:=F2.trans (Io.i (n0:=h.length) f3) fun k e=>.inl e
 have hn3:b+1≤h3.length:=BM hn2 f3.1;have hwl:(Av ts n [40] S1).1≤ts.length:=r2.2.1;clear F1 F2 kb2 kr2 kr1 f1 f2 f3 r1 hb;cases hB:HD ts [41] (Av ts n [40] S1)with
 |true=>
  have hT:AB ts [41] (Av ts n [40] S1)=((Av ts n [40] S1).1+1,none):=by unfold AB;rw[if_pos hB]
  rw[hT]at r3;rw[if_pos rfl];have q2:∀ c,(h3.set h.length c)[h.length]?=some c:=fun c=>Be (Bs.1 kr3).1
  simp only[AH,kb3,kr3,q2,Aj,Bx,Bw,B4,seval];exact⟨_,rfl,Io.fin (F3.trans (Fr.set (S:=Io i h.length) _ (.inr (BL _))) fun k e=>.inl e),r3.fr (Fr.set (S:=AU h.length) _ rfl) (fun e=>by have e:i=h.length:=e;omega),Rd.agg (AE.cons (Rd.str _) (AE.cons (Rd.val _) AE.nil))⟩
 |false=>
  have hT:AB ts [41] (Av ts n [40] S1)=Av ts n [40] S1:=by unfold AB;rw[if_neg (by rw[hB];decide)]
  rw[hT]at r3;rw[if_neg (by decide)];simp only[B4,seval];generalize hSw:Av ts n [40] S1=Sw at r3 hwl⊢;have hadv:=Nq (ts:=ts) (n:=n) Sw;have hwn:Sw.2=none→1≤Sw.1:=fun e=>by have:=B3 (ts:=ts) (n:=n) (s:=[40]) (S:=S1) (by rw[hSw];exact e);rw[hSw]at this;omega
  refine Cc.via (fun s'=>∃ hq N,slotW s' (kQ γ i h.length b ((Dj ts n Sw).2,hq))∧RQ ts hq i L n (Dj ts n Sw).2∧hq[b]?=some ⟨0,130,[.v (.string ⟨nm.toArray⟩),N]⟩∧GL (b+1) 9 1 hq N 1 [Ae (Dj ts n Sw).1]∧Fr (Io i h.length) h hq∧hq[h.length]?=some ⟨0,130,[.v (.string ⟨#[]⟩),.v (.slice none 0 0)]⟩) (fun K hK0=>?_) (fun s' hs'=>?_)
  ·obtain⟨xs,hxs⟩:∃ xs:List (List UInt8),xs=[]:=⟨_,rfl⟩;obtain⟨N,hN⟩:∃ N:AV,N=.v (.slice none 0 0):=⟨_,rfl⟩;have hK:∀ (hq:List Aa) (s':St),slotW s' (kQ γ i h.length b ((Dj ts n Sw).2,hq))→∀ N,RQ ts hq i L n (Dj ts n Sw).2→hq[b]?=some ⟨0,130,[.v (.string ⟨nm.toArray⟩),N]⟩→GL (b+1) 9 1 hq N (xs++[(Dj ts n Sw).1]).length ((xs++[(Dj ts n Sw).1]).flatMap He)→Fr (Io i h.length) h hq→hq[h.length]?=some ⟨0,130,[.v (.string ⟨#[]⟩),.v (.slice none 0 0)]⟩→K .normal s':=fun hq s' h1 N h2 h3 h4 h5 h6=>hK0 s' ⟨hq,N,h1,h2,h3,by subst hxs;exact h4,h5,h6⟩
   clear hK0;have hxs0:(xs.length+1) * 16≤140737488355328:=by subst hxs;decide
   have kb3':h3[b]?=some ⟨0,130,[.v (.string ⟨nm.toArray⟩),N]⟩:=by rw[hN];exact kb3
   have G3:GL (b+1) 9 1 h3 N xs.length (xs.flatMap He):=by subst hxs;subst hN;exact GL.nil
   rw[←hN];obtain⟨Y,hY⟩:∃ Y,Y=Dj ts n Sw:=⟨_,rfl⟩;rw[←hY]at hK;obtain⟨x,Sx⟩:=Y;simp only at hK;refine Cc.orders [[0,1,2,3,4,5,6,7],[0,2,1,3,4,5,6,7],[2,0,1,3,4,5,6,7],[0,2,3,1,4,5,6,7],[2,0,3,1,4,5,6,7],[0,2,3,4,1,5,6,7],[2,0,3,4,1,5,6,7],[2,3,0,1,4,5,6,7],[2,3,0,4,1,5,6,7],[2,3,4,0,1,5,6,7]] (fun _ _ _ h o h'=>Nn ts n L i h (Ae (Dj ts n Sw).1) (Dj ts n Sw).2 o h') (Dw _) (by kernel_rfl) (by kernel_rfl) (by kernel_rfl) (fun q hq=>?_);simp only[BI,List.not_mem_nil,or_false]at hq
   rcases hq with rfl|rfl|rfl|rfl|rfl|rfl|rfl|rfl|rfl|rfl
   all_goals simp only[Rz,Gf,CI,BU,Bu,Bz,AH,kb3',B4,seval]
   all_goals refine⟨n9,We E r3,fun ra hp hh=>?_,fun v hp hh=>by obtain⟨e,_⟩:=hh;cases e⟩
   all_goals obtain⟨e,f,rp⟩:=hh
   all_goals rw[←hY]at e rp
   all_goals cases e
   all_goals have kbp:hp[b]?=some ⟨0,130,[.v (.string ⟨nm.toArray⟩),N]⟩:=f.at kb3' hbi
   all_goals have hbl:=(Bs.1 kbp).1
   all_goals have hff:=f.1
   all_goals have Gp:=G3.fr0 f (fun k e=>by have e:k=i:=e;omega)
   all_goals have g7:∀ l,(hp++l)[b]?=some ⟨0,130,[.v (.string ⟨nm.toArray⟩),N]⟩:=fun l=>(Ba hbl).trans kbp
   all_goals have s6:∀ l c,(hp++l).set b c=hp.set b c++l:=fun l c=>Bg _ _ hbl
   all_goals have hel:AE (fun k=>k<b+1∨AZ N k) hp [Ae x] [.v (.string ⟨x.toArray⟩)]:=AE.cons (Rd.str x) AE.nil
   all_goals have hxe:(xs++[x]).length=xs.length+1:=by simp
   all_goals have hxf:(xs++[x]).flatMap He=xs.flatMap He++[Ae x]:=by simp[He]
   all_goals have Fpp:=F3.trans (Io.i (n0:=h.length) f) fun k e=>.inl e
   all_goals have krp:=f.at kr3 (fun e=>by have e:h.length=i:=e;omega)
   all_goals rcases Gp with⟨rfl,e0,e1⟩|⟨j,ver,cs,rfl,hnn,hj0,hj,hl,hrd⟩
   all_goals first
    |(have e0':=e0
      simp only[Bu,Bz,AH,kbp,g7,Ae,Ap,s6,Aj,Bx,Bw,Bi,Bo,Bc,B4,seval];have GP:=(GL.nil (n0:=b+1) (t:=9) (sz:=1) (h:=hp)).push (h':=hp.set b ⟨0,130,[.v (.string ⟨nm.toArray⟩),.own (hp.length+1) 0 1]⟩++[⟨0,9,[.v (.string ⟨x.toArray⟩)]⟩,⟨0,9,[.v (.string ⟨x.toArray⟩)]⟩]) (j':=hp.length+1) (ver':=0) (xs:=[]) (es:=[.v (.string ⟨x.toArray⟩)]) (ecs:=[Ae x]) (fun j ver e=>by cases e) (fun _=>⟨by omega,rfl⟩) (by omega) ((Fr.set _ (.inl (Nat.lt_succ_self b))).trans (Fr.app (S:=BR) _ _) fun k e=>e.elim) (Ce _ _ _ _ _ _) rfl hel;refine hK (hp.set b ⟨0,130,[.v (.string ⟨nm.toArray⟩),.own (hp.length+1) 0 1]⟩++[⟨0,9,[.v (.string ⟨x.toArray⟩)]⟩,⟨0,9,[.v (.string ⟨x.toArray⟩)]⟩]) _ ⟨rfl,rfl,⟨rfl,rfl,rfl,trivial⟩,rfl⟩ (.own (hp.length+1) 0 1) ?_ ?_ (by rw[hxe,hxf,e0,e1];exact GP) ?_ ?_
      ·exact (rp.fr (Fr.set (S:=AU b) _ rfl) (fun e=>hbi e.symm)).app _
      ·exact (Ba (by rw[Bl];exact hbl)).trans (Be hbl)
      ·exact Fpp.trans ((Fr.set (S:=Io i h.length) _ (.inr (by omega))).trans (Fr.app (S:=BR) _ _) fun k e=>e.elim) fun k e=>.inl e
      ·exact (Ba (by rw[Bl];omega)).trans ((Bn (by omega)).trans krp))
    |(have hjl:=(Bs.1 hj).1
      have hjb:j≠b:=by omega
      have hji:j≠i:=by omega
      have hjh:j≠h.length:=by omega
      have q1:∀ l,(hp++l)[j]?=some ⟨ver,9,cs⟩:=fun l=>(Ba hjl).trans hj
      have s8:∀ l c,(hp++l).set j c=hp.set j c++l:=fun l c=>Bg _ _ hjl
      have g9:∀ l c,(hp.set j c++l)[b]?=some ⟨0,130,[.v (.string ⟨nm.toArray⟩),.own j ver xs.length]⟩:=fun l c=>(Ba (by rw[Bl];exact hbl)).trans ((Bn hjb).trans kbp)
      have s9:∀ l c d,(hp.set j c++l).set b d=(hp.set j c).set b d++l:=fun l c d=>Bg _ _ (by rw[Bl];exact hbl)
      have hl':cs.length=xs.length * 1:=hl;have q4:List.take (xs.length * 1) cs=cs:=Bt (by omega);have q6:xs.length * 1≤cs.length:=by omega
      simp only[Nat.mul_one]at q4 q6;simp only[Bu,Bz,AH,kbp,g7,Ae,Ap,q1,s8,g9,s9,q4,q6,Aj,Bx,Bw,B4,seval];have GP:=GL.push (h:=hp) (N:=.own j ver xs.length) (.inr ⟨j,ver,cs,rfl,hnn,hj0,hj,hl,hrd⟩) (h':=(hp.set j ⟨ver+1,9,cs++[.v (.string ⟨x.toArray⟩)]⟩).set b ⟨0,130,[.v (.string ⟨nm.toArray⟩),.own j (ver+1) (xs.length+1)]⟩++[⟨0,9,[.v (.string ⟨x.toArray⟩)]⟩]) (j':=j) (ver':=ver+1) (xs:=cs) (es:=[.v (.string ⟨x.toArray⟩)]) (ecs:=[Ae x]) (fun j2 ver2 e=>by cases e;exact⟨rfl,hj⟩) (fun e=>by cases e) (by omega) (((Fr.set (S:=fun k=>k<b+1∨AZ (.own j ver xs.length) k) _ (.inr rfl)).trans (Fr.set (S:=fun k=>k<b+1∨AZ (.own j ver xs.length) k) _ (.inl (Nat.lt_succ_self b))) fun k e=>.inl e).trans (Fr.app (S:=BR) _ _) fun k e=>e.elim) ((Ba (by rw[Bl,Bl];exact hjl)).trans ((Bn hjb.symm).trans (Be hjl))) rfl hel;refine⟨by omega,hK ((hp.set j ⟨ver+1,9,cs++[.v (.string ⟨x.toArray⟩)]⟩).set b ⟨0,130,[.v (.string ⟨nm.toArray⟩),.own j (ver+1) (xs.length+1)]⟩++[⟨0,9,[.v (.string ⟨x.toArray⟩)]⟩]) _ ⟨rfl,rfl,⟨rfl,rfl,rfl,trivial⟩,rfl⟩ (.own j (ver+1) (xs.length+1)) ?_ ?_ (by rw[hxe,hxf];exact GP) ?_ ?_⟩
      ·exact ((rp.fr (Fr.set (S:=AU j) _ rfl) (fun e=>hji e.symm)).fr (Fr.set (S:=AU b) _ rfl) (fun e=>hbi e.symm)).app _
      ·exact (Ba (by rw[Bl,Bl];exact hbl)).trans (Be (by rw[Bl];exact hbl))
      ·exact Fpp.trans (((Fr.set (S:=Io i h.length) _ (.inr (by omega))).trans (Fr.set (S:=Io i h.length) _ (.inr (by omega))) fun k e=>.inl e).trans (Fr.app (S:=BR) _ _) fun k e=>e.elim) fun k e=>.inl e
      ·exact (Ba (by rw[Bl,Bl];omega)).trans ((Bn (by omega)).trans ((Bn hjh).trans krp)))
  obtain⟨hq,N,hw,rq,kbq,Gq,Fq,krq⟩:=hs';generalize Dj ts n Sw=X at hadv rq Gq⊢ hw;obtain⟨x,Sx⟩:=X;simp only at hadv rq Gq⊢ hw;generalize hR:EC ts n (Dj ts n) (ts.length+1) [x] Sx=R;simp only[B4];refine Cp.intro (kQ γ i h.length b) (fun y=>∃ xs N f,RQ ts y.2 i L n y.1∧(y.1.2=none→xs.length≤y.1.1∧ts.length<f+y.1.1)∧y.2[b]?=some ⟨0,130,[.v (.string ⟨nm.toArray⟩),N]⟩∧GL (b+1) 9 1 y.2 N xs.length (xs.flatMap He)∧Fr (Io i h.length) h y.2∧y.2[h.length]?=some ⟨0,130,[.v (.string ⟨#[]⟩),.v (.slice none 0 0)]⟩∧EC ts n (Dj ts n) f xs y.1=R) (fun y=>if y.1.2=none then ts.length+1-y.1.1 else 0) (Sx,hq) hw ⟨[x],N,ts.length+1,rq,fun e=>?_,kbq,Gq,Fq,krq,hR⟩ (fun y hy=>?_)
  ·have a:=hadv e;have:=hwn a.1;exact⟨by show 1≤Sx.1;omega,by show ts.length<ts.length+1+Sx.1;omega⟩
  clear hR hadv hwn hw rq kbq Gq Fq krq hSw r3 kb3 kr3 F3 hn3 hB hT r2 hwl;obtain⟨S4,h4⟩:=y;obtain⟨xs,N,f,r4,hb4,kb4,G4,F4,kr4,hR⟩:=hy;simp only at r4 hb4 kb4 G4 F4 kr4 hR;have hi4:=r4.1;have hF4:=F4.1;have hbd:=r4.2.bad
  have fin:∀ {h9:List Aa} {S9:S8},RQ ts h9 i L n S9→h9[b]?=some ⟨0,130,[.v (.string ⟨nm.toArray⟩),N]⟩→GL (b+1) 9 1 h9 N xs.length (xs.flatMap He)→Fr (Io i h.length) h h9→h9[h.length]?=some ⟨0,130,[.v (.string ⟨#[]⟩),.v (.slice none 0 0)]⟩→JM ts n L i h (Pt.av ⟨nm,xs⟩) S9 (.ret (.agg [.v (.string ⟨nm.toArray⟩),N])) (h9.set h.length ⟨0,130,[.v (.string ⟨nm.toArray⟩),N]⟩):=fun {h9 S9} r9 kb9 G9 F9 kr9=>by
   have rd:=G9.rdS (m:=h.length) (Fr.set (S:=AU h.length) (h:=h9) (⟨0,130,[.v (.string ⟨nm.toArray⟩),N]⟩:Aa) rfl) (fun k e _=>by have e:k=h.length:=e;omega) (by omega);rw[Tj]at rd;exact⟨_,rfl,Io.fin (F9.trans (Fr.set (S:=Io i h.length) _ (.inr (BL _))) fun k e=>.inl e),r9.fr (Fr.set (S:=AU h.length) _ rfl) (fun e=>by have e:i=h.length:=e;omega),Rd.agg (AE.cons (Rd.str nm) (AE.cons rd AE.nil))⟩
  obtain⟨oN,fN⟩:=G4.one;obtain⟨p,bd⟩:=S4;have hbd':(Ek bd==0)=bd.isNone:=hbd;cases bd with
  |some bb=>
   have hbb:(Ek (some bb)==0)=false:=hbd';rw[Dc]at hR;rw[←hR];have q2:∀ c,(h4.set h.length c)[h.length]?=some c:=fun c=>Be (Bs.1 kr4).1
   simp only[kQ,AH,Cn,hi4,cQ,hbb,kb4,kr4,q2,oN,Aj,Bx,Bw,B4,A7,seval];exact fin r4 kb4 G4 F4 kr4
  |none=>
   have hbb:(Ek none==0)=true:=rfl;obtain⟨hx4,hf⟩:=hb4 rfl;have hp4:p≤ts.length:=r4.2.1;obtain⟨f',rfl⟩:∃ g,f=g+1:=⟨f-1,by omega⟩;rw[EC]at hR;simp only[Option.isSome_none,Bool.false_eq_true,if_false]at hR;simp only[kQ,Cn,hi4,cQ,hbb,B4,A7,seval];refine B9 R3 (C4 E r4 [41]) (fun h5 f5 r5=>?_);have kb5:=f5.at kb4 hbi;have kr5:=f5.at kr4 (fun e=>by have e:h.length=i:=e;omega);have F5:=F4.trans (Io.i (n0:=h.length) f5) fun k e=>.inl e
   have G5:=G4.fr0 f5 (fun k e=>by have e:k=i:=e;omega);cases hB:HD ts [41] (p,none)with
   |true=>
    have hT:AB ts [41] (p,none)=(p+1,none):=by unfold AB;rw[if_pos hB]
    rw[hT]at r5;rw[if_pos hB]at hR;rw[←hR];have q2:∀ c,(h5.set h.length c)[h.length]?=some c:=fun c=>Be (Bs.1 kr5).1
    simp only[AH,kb5,kr5,q2,oN,Aj,Bx,Bw,B4,Bv,seval];exact fin r5 kb5 G5 F5 kr5
   |false=>
    have hT:AB ts [41] (p,none)=(p,none):=by unfold AB;rw[if_neg (by rw[hB];decide)]
    rw[hT]at r5;rw[if_neg (by rw[hB];decide)]at hR;simp only[B4,Bf,seval];refine B9 OG (Cq E r5 [44]) (fun h6 f6 r6=>?_);have kb6:=f6.at kb5 hbi;have kr6:=f6.at kr5 (fun e=>by have e:h.length=i:=e;omega);have F6:=F5.trans (Io.i (n0:=h.length) f6) fun k e=>.inl e
    have G6:=G5.fr0 f6 (fun k e=>by have e:k=i:=e;omega);have hwn:=fun e=>B3 (ts:=ts) (n:=n) (s:=[44]) (S:=(p,none)) e
    generalize Av ts n [44] (p,none)=Sw at r6 hR hwn⊢;have hadv:=Nq (ts:=ts) (n:=n) Sw;simp only[B4,seval];refine Cc.via (fun s'=>∃ y:S8×List Aa,slotW s' (kQ γ i h.length b y)∧(y.1.2=none→p+1≤y.1.1)∧∃ xs N f,RQ ts y.2 i L n y.1∧(y.1.2=none→xs.length≤y.1.1∧ts.length<f+y.1.1)∧y.2[b]?=some ⟨0,130,[.v (.string ⟨nm.toArray⟩),N]⟩∧GL (b+1) 9 1 y.2 N xs.length (xs.flatMap He)∧Fr (Io i h.length) h y.2∧y.2[h.length]?=some ⟨0,130,[.v (.string ⟨#[]⟩),.v (.slice none 0 0)]⟩∧EC ts n (Dj ts n) f xs y.1=R) (fun K hK0=>?_) (fun s' hs'=>?_)
    rotate_left
    ·obtain⟨y,hw,hlt,hinv⟩:=hs';simp only[B4];refine AF.intro y hinv hw ?_;show (if y.1.2=none then ts.length+1-y.1.1 else 0)<(if (none:Option (Int×Int))=none then ts.length+1-p else 0);rw[if_pos rfl]
     split
     ·rename_i e;have:=hlt e;omega
     ·omega
    have hxs0:(xs.length+1) * 16≤140737488355328:=by omega
    have hK:∀ (hq:List Aa) (s':St),slotW s' (kQ γ i h.length b ((Dj ts n Sw).2,hq))→∀ N,RQ ts hq i L n (Dj ts n Sw).2→hq[b]?=some ⟨0,130,[.v (.string ⟨nm.toArray⟩),N]⟩→GL (b+1) 9 1 hq N (xs++[(Dj ts n Sw).1]).length ((xs++[(Dj ts n Sw).1]).flatMap He)→Fr (Io i h.length) h hq→hq[h.length]?=some ⟨0,130,[.v (.string ⟨#[]⟩),.v (.slice none 0 0)]⟩→K .normal s':=fun hq s' a1 N' a2 a3 a4 a5 a6=>hK0 s' ⟨((Dj ts n Sw).2,hq),a1,fun e=>by
      have c1:=hadv e;have c2:=hwn c1.1;show p+1≤(Dj ts n Sw).2.1
      omega,xs++[(Dj ts n Sw).1],N',f',a2,fun e=>by
      have c1:=hadv e;have c2:=hwn c1.1;refine⟨?_,?_⟩
      ·rw[Bp];show xs.length+1≤(Dj ts n Sw).2.1;omega
      ·show ts.length<f'+(Dj ts n Sw).2.1;omega,a3,a4,a5,a6,hR⟩
    clear hK0;obtain⟨Y,hY⟩:∃ Y,Y=Dj ts n Sw:=⟨_,rfl⟩;rw[←hY]at hK;obtain⟨x,Sx⟩:=Y;simp only at hK;refine Cc.orders [[0,1,2,3,4,5,6,7],[0,2,1,3,4,5,6,7],[2,0,1,3,4,5,6,7],[0,2,3,1,4,5,6,7],[2,0,3,1,4,5,6,7],[0,2,3,4,1,5,6,7],[2,0,3,4,1,5,6,7],[2,3,0,1,4,5,6,7],[2,3,0,4,1,5,6,7],[2,3,4,0,1,5,6,7]] (fun _ _ _ h o h'=>Nn ts n L i h (Ae (Dj ts n Sw).1) (Dj ts n Sw).2 o h') (Dw _) (by kernel_rfl) (by kernel_rfl) (by kernel_rfl) (fun q hq=>?_);simp only[BI,List.not_mem_nil,or_false]at hq
    rcases hq with rfl|rfl|rfl|rfl|rfl|rfl|rfl|rfl|rfl|rfl
    all_goals simp only[Rz,Gf,CI,BU,Bu,Bz,AH,kb6,B4,seval]
    all_goals refine⟨n9,We E r6,fun ra hp hh=>?_,fun v hp hh=>by obtain⟨e,_⟩:=hh;cases e⟩
    all_goals obtain⟨e,f,rp⟩:=hh
    all_goals rw[←hY]at e rp
    all_goals cases e
    all_goals have kbp:hp[b]?=some ⟨0,130,[.v (.string ⟨nm.toArray⟩),N]⟩:=f.at kb6 hbi
    all_goals have hbl:=(Bs.1 kbp).1
    all_goals have hff:=f.1
    all_goals have Gp:=G6.fr0 f (fun k e=>by have e:k=i:=e;omega)
    all_goals have g7:∀ l,(hp++l)[b]?=some ⟨0,130,[.v (.string ⟨nm.toArray⟩),N]⟩:=fun l=>(Ba hbl).trans kbp
    all_goals have s6:∀ l c,(hp++l).set b c=hp.set b c++l:=fun l c=>Bg _ _ hbl
    all_goals have hel:AE (fun k=>k<b+1∨AZ N k) hp [Ae x] [.v (.string ⟨x.toArray⟩)]:=AE.cons (Rd.str x) AE.nil
    all_goals have hxe:(xs++[x]).length=xs.length+1:=by simp
    all_goals have hxf:(xs++[x]).flatMap He=xs.flatMap He++[Ae x]:=by simp[He]
    all_goals have Fpp:=F6.trans (Io.i (n0:=h.length) f) fun k e=>.inl e
    all_goals have krp:=f.at kr6 (fun e=>by have e:h.length=i:=e;omega)
    all_goals rcases Gp with⟨rfl,e0,e1⟩|⟨j,ver,cs,rfl,hnn,hj0,hj,hl,hrd⟩
    all_goals first
     |(have e0':=e0
       simp only[Bu,Bz,AH,kbp,g7,Ae,Ap,s6,Aj,Bx,Bw,Bi,Bo,Bc,B4,seval];have GP:=(GL.nil (n0:=b+1) (t:=9) (sz:=1) (h:=hp)).push (h':=hp.set b ⟨0,130,[.v (.string ⟨nm.toArray⟩),.own (hp.length+1) 0 1]⟩++[⟨0,9,[.v (.string ⟨x.toArray⟩)]⟩,⟨0,9,[.v (.string ⟨x.toArray⟩)]⟩]) (j':=hp.length+1) (ver':=0) (xs:=[]) (es:=[.v (.string ⟨x.toArray⟩)]) (ecs:=[Ae x]) (fun j ver e=>by cases e) (fun _=>⟨by omega,rfl⟩) (by omega) ((Fr.set _ (.inl (Nat.lt_succ_self b))).trans (Fr.app (S:=BR) _ _) fun k e=>e.elim) (Ce _ _ _ _ _ _) rfl hel;refine hK (hp.set b ⟨0,130,[.v (.string ⟨nm.toArray⟩),.own (hp.length+1) 0 1]⟩++[⟨0,9,[.v (.string ⟨x.toArray⟩)]⟩,⟨0,9,[.v (.string ⟨x.toArray⟩)]⟩]) _ ⟨rfl,rfl,⟨rfl,rfl,rfl,trivial⟩,rfl⟩ (.own (hp.length+1) 0 1) ?_ ?_ (by rw[hxe,hxf,e0,e1];exact GP) ?_ ?_
       ·exact (rp.fr (Fr.set (S:=AU b) _ rfl) (fun e=>hbi e.symm)).app _
       ·exact (Ba (by rw[Bl];exact hbl)).trans (Be hbl)
       ·exact Fpp.trans ((Fr.set (S:=Io i h.length) _ (.inr (by omega))).trans (Fr.app (S:=BR) _ _) fun k e=>e.elim) fun k e=>.inl e
       ·exact (Ba (by rw[Bl];omega)).trans ((Bn (by omega)).trans krp))
     |(have hjl:=(Bs.1 hj).1
       have hjb:j≠b:=by omega
       have hji:j≠i:=by omega
       have hjh:j≠h.length:=by omega
       have q1:∀ l,(hp++l)[j]?=some ⟨ver,9,cs⟩:=fun l=>(Ba hjl).trans hj
       have s8:∀ l c,(hp++l).set j c=hp.set j c++l:=fun l c=>Bg _ _ hjl
       have g9:∀ l c,(hp.set j c++l)[b]?=some ⟨0,130,[.v (.string ⟨nm.toArray⟩),.own j ver xs.length]⟩:=fun l c=>(Ba (by rw[Bl];exact hbl)).trans ((Bn hjb).trans kbp)
       have s9:∀ l c d,(hp.set j c++l).set b d=(hp.set j c).set b d++l:=fun l c d=>Bg _ _ (by rw[Bl];exact hbl)
       have hl':cs.length=xs.length * 1:=hl;have q4:List.take (xs.length * 1) cs=cs:=Bt (by omega);have q6:xs.length * 1≤cs.length:=by omega
       simp only[Nat.mul_one]at q4 q6;simp only[Bu,Bz,AH,kbp,g7,Ae,Ap,q1,s8,g9,s9,q4,q6,Aj,Bx,Bw,B4,seval];have GP:=GL.push (h:=hp) (N:=.own j ver xs.length) (.inr ⟨j,ver,cs,rfl,hnn,hj0,hj,hl,hrd⟩) (h':=(hp.set j ⟨ver+1,9,cs++[.v (.string ⟨x.toArray⟩)]⟩).set b ⟨0,130,[.v (.string ⟨nm.toArray⟩),.own j (ver+1) (xs.length+1)]⟩++[⟨0,9,[.v (.string ⟨x.toArray⟩)]⟩]) (j':=j) (ver':=ver+1) (xs:=cs) (es:=[.v (.string ⟨x.toArray⟩)]) (ecs:=[Ae x]) (fun j2 ver2 e=>by cases e;exact⟨rfl,hj⟩) (fun e=>by cases e) (by omega) (((Fr.set (S:=fun k=>k<b+1∨AZ (.own j ver xs.length) k) _ (.inr rfl)).trans (Fr.set (S:=fun k=>k<b+1∨AZ (.own j ver xs.length) k) _ (.inl (Nat.lt_succ_self b))) fun k e=>.inl e).trans (Fr.app (S:=BR) _ _) fun k e=>e.elim) ((Ba (by rw[Bl,Bl];exact hjl)).trans ((Bn hjb.symm).trans (Be hjl))) rfl hel;refine⟨by omega,hK ((hp.set j ⟨ver+1,9,cs++[.v (.string ⟨x.toArray⟩)]⟩).set b ⟨0,130,[.v (.string ⟨nm.toArray⟩),.own j (ver+1) (xs.length+1)]⟩++[⟨0,9,[.v (.string ⟨x.toArray⟩)]⟩]) _ ⟨rfl,rfl,⟨rfl,rfl,rfl,trivial⟩,rfl⟩ (.own j (ver+1) (xs.length+1)) ?_ ?_ (by rw[hxe,hxf];exact GP) ?_ ?_⟩
       ·exact ((rp.fr (Fr.set (S:=AU j) _ rfl) (fun e=>hji e.symm)).fr (Fr.set (S:=AU b) _ rfl) (fun e=>hbi e.symm)).app _
       ·exact (Ba (by rw[Bl,Bl];exact hbl)).trans (Be (by rw[Bl];exact hbl))
       ·exact Fpp.trans (((Fr.set (S:=Io i h.length) _ (.inr (by omega))).trans (Fr.set (S:=Io i h.length) _ (.inr (by omega))) fun k e=>.inl e).trans (Fr.app (S:=BR) _ _) fun k e=>e.elim) fun k e=>.inl e
       ·exact (Ba (by rw[Bl,Bl];omega)).trans ((Bn (by omega)).trans ((Bn hjh).trans krp)))
end Go.Proofs.YtlobiioioicmhaaGreatDoor
