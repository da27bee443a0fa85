/- A part of the proof. -/
import Derived.Test.YtlobiioioicmhaaGreatDoorBQ10
set_option linter.all false
set_option maxHeartbeats 8000000
namespace Go.Proofs.YtlobiioioicmhaaGreatDoor
open _root_.List renaming getElem?_eq_some_iff→Bs,getElem?_append_left→Ba,getElem?_set_self→Be,getElem?_set_ne→Bn,length_set→Bl,append_assoc→Bo,cons_append→Bc,nil_append→Bi,getElem?_cons_zero→Bz,getElem?_cons_succ→Bu,set_append_left→Bg,take_of_length_le→Bt,flatMap_cons→BE,mem_cons→BI,getElem?_toArray→BU
open _root_.Nat renaming le_refl→BL,lt_of_lt_of_le→BO
open Go.Proofs.Tryz renaming prog→Tp
open Go Go.Ev
set_option maxRecDepth 20000
variable {γ:List (Nat×AV)} {ts:List Tk} {L:AV}
theorem c201:bodyT Tp 201:=⟨_,Tryz.func201,by kernel_rfl,by kernel_rfl⟩
theorem c204:bodyT Tp 204:=⟨_,Tryz.func204,by kernel_rfl,by kernel_rfl⟩
def encV(x:List UInt8):List AV:=[strC x]
theorem dpart1_ev(E:EnvD γ L ts){i n n0 b rb p:Nat}{h:List ABlk}{nm:List UInt8}{xs:List (List UInt8)}(hp:p≤ts.length)(hr:RD h i L p n)(hB:BoxL i n0 b rb 130 [strC nm] 9 1 encV h xs)(hxs:(xs.length+1) * 16≤140737488355328):
  EvM Tp γ 201 [.ptr rb 0 0,.ptr b 0 0] h (ResS (IN i b n0) ts n L i h (fun x a h'=>a=.tup []∧BoxL i n0 b rb 130 [strC nm] 9 1 encV h' (xs++[x])) (varD ts p)):=by
 obtain⟨N,hB'⟩:=hB;have hB2:=hB';obtain⟨a1,a2,a3,a4,a5,a6,a7,a8,a9,a10⟩:=hB2;have hTake:=dtake_ev E hp hr [95];refine EvM.ofG Tryz.func201 rfl ?_;simp only[Tryz.f201,tyD,a8,evG,Nat.reduceAdd,Nat.reduceSub,Nat.reduceLT,Nat.reduceEqDiff,reduceCtorEq];refine CallE.intro c131 _ hTake (fun r h0 hh=>?_) (fun v h1 hh=>by cases hh.1);obtain⟨e,f0,r0⟩:=hh;cases e;unfold varD;cases hT:isB ts p [95]with
 |true=>
  obtain⟨h1,e1⟩:∃ h1,h1=h0:=⟨_,rfl⟩;subst e1;have f1:=f0;have r1:=r0;rw[hT]at r1;rw[if_pos rfl]at r1⊢;obtain⟨b1,b2,b3,b4,b5,b6,b7,b8,b9,b10⟩:=hB'.fr f1;obtain⟨x,hx⟩:∃ x:List UInt8,x=[95]:=⟨_,rfl⟩;have hx2:(⟨#[95]⟩:ByteArray)=⟨x.toArray⟩:=by rw[hx]
  rw[←hx]
  all_goals have hbl:=(Bs.1 b9).1
  all_goals have hrl:=r1.lt
  all_goals have g7:∀ l,(h1++l)[b]?=some ⟨0,130,[strC nm,N]⟩:=fun l=>(Ba hbl).trans b9
  all_goals have s6:∀ l c,(h1++l).set b c=h1.set b c++l:=fun l c=>Bg _ _ hbl
  all_goals have he:RdL (fun k=>k<n0∨nbk N k) h1 [strC x] [strC x]:=RdL.cons (Rd.str x) RdL.nil
  all_goals have hxe:(xs++[x]).length=xs.length+1:=by simp
  all_goals have hxf:(xs++[x]).flatMap encV=xs.flatMap encV++[strC x]:=by simp[encV]
  all_goals have hB3:=hB'.fr f1
  all_goals rcases b10 with⟨rfl,e0,e1⟩|⟨j,ver,cs,rfl,hn,hj0,hj,hl,hrd⟩
  all_goals first
   |(have e0':=e0
     simp only[tyD,b9,g7,at_len,s6,Bi,Bo,Bc,strC,evG,Nat.reduceAdd,Nat.reduceLT,Nat.reduceLeDiff,Nat.reduceEqDiff,reduceCtorEq,List.reduceReplicate];obtain⟨k1,k2⟩:=hB3.push (h':=h1.set b ⟨0,130,[strC nm,.own (h1.length+1) 0 1]⟩++[⟨0,9,[strC x]⟩,⟨0,9,[strC x]⟩]) (j':=h1.length+1) (ver':=0) (cs:=[]) (es:=[strC x]) (ecs:=[strC x]) (fun j ver e=>by cases e) (fun _=>⟨by omega,rfl⟩) ((Fr.set _ (.inl rfl)).trans (Fr.app (S:=NoB) _ _) fun k e=>e.elim) (at_lenS1 _ _ _ _ _ _) (by rw[e0];exact (Ba (by rw[Bl];exact hbl)).trans (Be hbl)) rfl he;rw[e0]at k1;refine⟨(IN.i f1).trans k2 fun k e=>.inl e,_,rfl,?_,rfl,.own (h1.length+1) 0 1,?_⟩
     ·exact (Ba (by rw[Bl];exact hrl)).trans ((Bn a5.symm).trans r1)
     ·rw[hxe,hxf,e0];exact k1)
   |(have hjl:=(Bs.1 hj).1
     have hjb:j≠b:=by omega
     have hji:j≠i:=by omega
     have q1:∀ l,(h1++l)[j]?=some ⟨ver,9,cs⟩:=fun l=>(Ba hjl).trans hj
     have s8:∀ l c,(h1++l).set j c=h1.set j c++l:=fun l c=>Bg _ _ hjl
     have g9:∀ l c,(h1.set j c++l)[b]?=some ⟨0,130,[strC nm,.own j ver xs.length]⟩:=fun l c=>(Ba (by rw[Bl];exact hbl)).trans ((Bn hjb).trans b9)
     have s9:∀ l c d,(h1.set j c++l).set b d=(h1.set j c).set b d++l:=fun l c d=>Bg _ _ (by rw[Bl];exact hbl)
     have hl':cs.length=xs.length * 1:=by omega
     have q4:List.take (xs.length * 1) cs=cs:=Bt (by omega);have q6:xs.length * 1≤cs.length:=by omega
     simp only[Nat.mul_one]at q4 q6;simp only[tyD,b9,at_len,Bi,Bc,strC,q1,s8,g9,s9,q4,q6,evG,Nat.reduceAdd,Nat.reduceLT,Nat.reduceLeDiff,Nat.reduceEqDiff,reduceCtorEq,List.reduceReplicate];obtain⟨k1,k2⟩:=hB3.push (h':=(h1.set j ⟨ver+1,9,cs++[strC x]⟩).set b ⟨0,130,[strC nm,.own j (ver+1) (xs.length+1)]⟩++[⟨0,9,[strC x]⟩]) (j':=j) (ver':=ver+1) (cs:=cs) (es:=[strC x]) (ecs:=[strC x]) (fun j2 ver2 e=>by cases e;exact⟨rfl,hj⟩) (fun e=>by cases e) (((Fr.set (S:=fun k=>k=b∨nbk (.own j ver xs.length) k) _ (.inr rfl)).trans (Fr.set (S:=fun k=>k=b∨nbk (.own j ver xs.length) k) _ (.inl rfl)) fun k e=>.inl e).trans (Fr.app (S:=NoB) _ _) fun k e=>e.elim) ((Ba (by rw[Bl,Bl];exact hjl)).trans ((Bn hjb.symm).trans (Be hjl))) ((Ba (by rw[Bl,Bl];exact hbl)).trans (Be (by rw[Bl];exact hbl))) rfl he;refine⟨hxs,(IN.i f1).trans k2 fun k e=>.inl e,_,rfl,?_,rfl,.own j (ver+1) (xs.length+1),?_⟩
     ·exact (Ba (by rw[Bl,Bl];exact hrl)).trans ((Bn a5.symm).trans ((Bn hji).trans r1))
     ·rw[hxe,hxf];exact k1)
 |false=>
  rw[hT]at r0;rw[if_neg (by decide)]at r0⊢;obtain⟨d1,d2,d3,d4,d5,d6,d7,d8,d9,d10⟩:=hB'.fr f0;simp only[evG,Nat.reduceLT,Nat.reduceEqDiff,reduceCtorEq];refine DrawE.orders [[0,1,2,3,4,5,6,7],[0,2,1,3,4,5,6,7],[2,0,1,3,4,5,6,7],[0,2,3,1,4,5,6,7],[2,0,3,1,4,5,6,7],[0,2,3,4,1,5,6,7],[2,0,3,4,1,5,6,7],[2,3,0,1,4,5,6,7],[2,3,0,4,1,5,6,7],[2,3,4,0,1,5,6,7]] (fun _ _ _ h o h'=>ResD ts n L i h StrA (wordD ts p) o h') (panE_ext _) (by kernel_rfl) (by kernel_rfl) (by kernel_rfl) (fun q hq=>?_);simp only[BI,List.not_mem_nil,or_false]at hq
  rcases hq with rfl|rfl|rfl|rfl|rfl|rfl|rfl|rfl|rfl|rfl
  all_goals simp only[evR,rR_bs,seqT,BU,Bu,Bz,tyD,d8,d9,Bc,Bi,evG,Nat.reduceLT,Nat.reduceLeDiff,Nat.reduceEqDiff,reduceCtorEq,List.reduceReplicate]
  all_goals refine⟨c129,dword_ev E hp r0,fun r h1 hh=>?_,fun v h1 hh=>by obtain⟨q,e,eR,f1,rfl⟩:=ResD.pan hh;rw[eR];exact⟨IN.i (f0.trans f1 fun k e=>.inl e),rfl⟩⟩
  all_goals obtain⟨x,q,eR,f1',r1,rfl⟩:=ResD.ret hh
  all_goals rw[eR]
  all_goals have f1:Fr (IsI i) h h1:=f0.trans f1' fun k e=>.inl e
  all_goals obtain⟨b1,b2,b3,b4,b5,b6,b7,b8,b9,b10⟩:=hB'.fr f1
  all_goals have hbl:=(Bs.1 b9).1
  all_goals have hrl:=r1.lt
  all_goals have g7:∀ l,(h1++l)[b]?=some ⟨0,130,[strC nm,N]⟩:=fun l=>(Ba hbl).trans b9
  all_goals have s6:∀ l c,(h1++l).set b c=h1.set b c++l:=fun l c=>Bg _ _ hbl
  all_goals have he:RdL (fun k=>k<n0∨nbk N k) h1 [strC x] [strC x]:=RdL.cons (Rd.str x) RdL.nil
  all_goals have hxe:(xs++[x]).length=xs.length+1:=by simp
  all_goals have hxf:(xs++[x]).flatMap encV=xs.flatMap encV++[strC x]:=by simp[encV]
  all_goals have hB3:=hB'.fr f1
  all_goals rcases b10 with⟨rfl,e0,e1⟩|⟨j,ver,cs,rfl,hn,hj0,hj,hl,hrd⟩
  all_goals first
   |(have e0':=e0
     simp only[Bu,Bz,tyD,b9,g7,at_len,s6,Bi,Bo,Bc,strC,evG,Nat.reduceAdd,Nat.reduceLT,Nat.reduceLeDiff,Nat.reduceEqDiff,reduceCtorEq];obtain⟨k1,k2⟩:=hB3.push (h':=h1.set b ⟨0,130,[strC nm,.own (h1.length+1) 0 1]⟩++[⟨0,9,[strC x]⟩,⟨0,9,[strC x]⟩]) (j':=h1.length+1) (ver':=0) (cs:=[]) (es:=[strC x]) (ecs:=[strC x]) (fun j ver e=>by cases e) (fun _=>⟨by omega,rfl⟩) ((Fr.set _ (.inl rfl)).trans (Fr.app (S:=NoB) _ _) fun k e=>e.elim) (at_lenS1 _ _ _ _ _ _) (by rw[e0];exact (Ba (by rw[Bl];exact hbl)).trans (Be hbl)) rfl he;rw[e0]at k1;refine⟨(IN.i f1).trans k2 fun k e=>.inl e,_,rfl,?_,rfl,.own (h1.length+1) 0 1,?_⟩
     ·exact (Ba (by rw[Bl];exact hrl)).trans ((Bn a5.symm).trans r1)
     ·rw[hxe,hxf,e0];exact k1)
   |(have hjl:=(Bs.1 hj).1
     have hjb:j≠b:=by omega
     have hji:j≠i:=by omega
     have q1:∀ l,(h1++l)[j]?=some ⟨ver,9,cs⟩:=fun l=>(Ba hjl).trans hj
     have s8:∀ l c,(h1++l).set j c=h1.set j c++l:=fun l c=>Bg _ _ hjl
     have g9:∀ l c,(h1.set j c++l)[b]?=some ⟨0,130,[strC nm,.own j ver xs.length]⟩:=fun l c=>(Ba (by rw[Bl];exact hbl)).trans ((Bn hjb).trans b9)
     have s9:∀ l c d,(h1.set j c++l).set b d=(h1.set j c).set b d++l:=fun l c d=>Bg _ _ (by rw[Bl];exact hbl)
     have hl':cs.length=xs.length * 1:=by omega
     have q4:List.take (xs.length * 1) cs=cs:=Bt (by omega);have q6:xs.length * 1≤cs.length:=by omega
     simp only[Nat.mul_one]at q4 q6;simp only[Bu,Bz,tyD,b9,g7,at_len,Bi,Bc,strC,q1,s8,g9,s9,q4,q6,evG,Nat.reduceAdd,Nat.reduceLT,Nat.reduceLeDiff,Nat.reduceEqDiff,reduceCtorEq];obtain⟨k1,k2⟩:=hB3.push (h':=(h1.set j ⟨ver+1,9,cs++[strC x]⟩).set b ⟨0,130,[strC nm,.own j (ver+1) (xs.length+1)]⟩++[⟨0,9,[strC x]⟩]) (j':=j) (ver':=ver+1) (cs:=cs) (es:=[strC x]) (ecs:=[strC x]) (fun j2 ver2 e=>by cases e;exact⟨rfl,hj⟩) (fun e=>by cases e) (((Fr.set (S:=fun k=>k=b∨nbk (.own j ver xs.length) k) _ (.inr rfl)).trans (Fr.set (S:=fun k=>k=b∨nbk (.own j ver xs.length) k) _ (.inl rfl)) fun k e=>.inl e).trans (Fr.app (S:=NoB) _ _) fun k e=>e.elim) ((Ba (by rw[Bl,Bl];exact hjl)).trans ((Bn hjb.symm).trans (Be hjl))) ((Ba (by rw[Bl,Bl];exact hbl)).trans (Be (by rw[Bl];exact hbl))) rfl he;refine⟨hxs,(IN.i f1).trans k2 fun k e=>.inl e,_,rfl,?_,rfl,.own j (ver+1) (xs.length+1),?_⟩
     ·exact (Ba (by rw[Bl,Bl];exact hrl)).trans ((Bn a5.symm).trans ((Bn hji).trans r1))
     ·rw[hxe,hxf];exact k1)
theorem c130:bodyT Tp 130:=⟨_,Tryz.func130,by kernel_rfl,by kernel_rfl⟩
def Pt.av(p:Pt):AV:=.agg p.cells
theorem strsA_eq(xs:List (List UInt8)):slA xs.length (xs.flatMap encV)=strsA xs:=by
 have:xs.flatMap encV=xs.map strC:=by
  induction xs with
  |nil=>rfl
  |cons x xs ih=>rw[BE,ih];rfl
 rw[this];rfl
theorem GL.one{n0:Nat}{t:TypeId}{sz:Nat}{h:List ABlk}{N:AV}{n:Nat}{ys:List AV}(a:GL n0 t sz h N n ys):oneA N=true∧flat N=some [N]:=by rcases a with⟨rfl,_⟩|⟨j,ver,cs,rfl,_⟩<;>exact⟨rfl,rfl⟩
theorem Fr.pre{S:Nat→Prop}{h h':List ABlk}{l:List ABlk}(f:Fr S (h++l) h'):Fr S h h':=(Fr.app (S:=S) h l).trans f fun k e=>.inl e
theorem GL.rdS{n0 m:Nat}{t:TypeId}{sz:Nat}{h h':List ABlk}{N:AV}{n:Nat}{ys:List AV}{S1:Nat→Prop}(a:GL n0 t sz h N n ys)(f:Fr S1 h h')(h1:∀ k,S1 k→k<h.length→k<n0)(hm:m≤n0):Rd (Old m) h' (slA n ys) N:=
 a.rd.up f h1 fun k e _=>BO e hm
theorem dpart_ev(E:EnvD γ L ts){h:List ABlk}{i p n:Nat}(hp:p≤ts.length)(hr:RD h i L p n):
  EvM Tp γ 130 [.ptr i 0 0] h (ResD ts n L i h (RdA Pt.av h.length) (partD ts p)):=by
 have hil:=hr.lt;have hn:=E.n;refine EvM.of Tryz.func130 rfl ?_;simp only[Tryz.f130,tyD,at_len,Bo,Bc,Bi,evE,Nat.reduceAdd,Nat.reduceSub,Nat.reduceLT,Nat.reduceEqDiff,reduceCtorEq];refine callD c129 (dword_ev E hp (hr.app _)) (fun nm p1 a h1 e f1 r1 hA=>?_) (fun q e' h1 e f1=>?_)
 rotate_left
 ·unfold partD;rw[e];exact⟨f1.pre,rfl⟩
 have adv1:=word_adv hp;rw[e]at adv1;obtain⟨_,hp1⟩:=adv1;have eD:partD ts p=(listD ts (varD ts) p1).bind fun l p2=>.ok ⟨nm,l⟩ p2:=by unfold partD;rw[e];rfl
 rw[eD];subst hA;have k0:h1[h.length]?=some ⟨0,127,[.ptr i 0 0]⟩:=f1.at (at_len _ _ _) (fun e=>by have e:h.length=i:=e;omega);have k1:h1[h.length+1]?=some ⟨0,130,[strC [],.v (.slice none 0 0)]⟩:=f1.at (at_len1 _ _ _ _) (fun e=>by have e:h.length+1=i:=e;omega);have hl1:=(Bs.1 k1).1;have g0:∀ l,(h1++l)[h.length]?=some ⟨0,127,[.ptr i 0 0]⟩:=fun l=>(Ba (by omega)).trans k0
 simp only[tyD,g0,strC,at_len,set_len,evE,Nat.reduceAdd,Nat.reduceLT,Nat.reduceLeDiff,Nat.reduceEqDiff,reduceCtorEq]
 have hlist:=dlisted_ev (b:=h1.length) (n0:=h1.length+1) E (I:=varD ts) (fun p hp=>var_adv hp) (Φ:=BoxL i (h1.length+1) h1.length h.length 130 [strC nm] 9 1 encV) (fs:=[]) (cs:=[.ptr h.length 0 0,.ptr h1.length 0 0]) c201
  (fun h h1 xs a f=>a.fr f) (fun h p xs hp hx hr hB=>dpart1_ev E hp hr hB (by omega)) hp1 (r1.app [⟨0,130,[strC nm,.v (.slice none 0 0)]⟩]) ⟨.v (.slice none 0 0),by omega,by omega,by omega,by omega,by omega,by omega,by simp,g0 _,at_len _ _ _,GL.nil⟩
 refine callSE c200 hlist (fun xs q a h2 e2 f2 r2 hA=>?_) (fun q e' h2 e2 f2=>?_)
 rotate_left
 ·rw[e2];exact⟨f1.pre.trans (f2.drop (by omega) (by omega)) fun k e=>.inl e,rfl⟩
 rw[e2];obtain⟨rfl,N,b1,b2,b3,b4,b5,b6,b7,b8,b9,b10⟩:=hA;have hbl:=(Bs.1 b9).1;obtain⟨oN,fN⟩:=b10.one;have k2:h2[h.length+1]?=some ⟨0,130,[strC [],.v (.slice none 0 0)]⟩:=f2.at ((Ba (by omega)).trans k1) (fun e=>by rcases e with e|e|e<;>omega);have s5:∀ c,(h2.set (h.length+1) c)[h.length+1]?=some c:=fun c=>Be (Bs.1 k2).1
 simp only[tyD,b9,k2,s5,oN,setMany,strC,Bc,Bi,evE,Nat.reduceAdd,Nat.reduceLT,Nat.reduceLeDiff,Nat.reduceEqDiff,reduceCtorEq];have rd:=b10.rdS (m:=h.length) (Fr.set (S:=IsI (h.length+1)) (h:=h2) ⟨0,130,[strC nm,N]⟩ rfl) (fun k e _=>by have e:k=h.length+1:=e;omega) (by omega);rw[strsA_eq]at rd;have f12:Fr (IsI i) h h2:=f1.pre.trans (f2.drop (by omega) (by omega)) fun k e=>.inl e
 exact⟨f12.trans (Fr.set (S:=IsI (h.length+1)) _ rfl) fun k e=>.inr (by have e:k=h.length+1:=e;omega),_,rfl,(Bn (by omega)).trans r2,Rd.agg (RdL.cons (Rd.str nm) (RdL.cons rd RdL.nil))⟩
theorem takeE{E:AV→St→Prop}{d:Option Tmp}{K:St→Prop}{s:St}{h:List ABlk}{i p n:Nat}{w:List UInt8}(hE:EnvD γ L ts)(hp:p≤ts.length)(hr:RD h i L p n)(hg:s.s.g=γ)(hh:s.h=h)
  (yes:isB ts p w=true→∀ h1,Fr (IsI i) h h1→RD h1 i L (p+1) n→p+1≤ts.length→K (pt ⟨s.s,h1⟩ d (.v (.bool true))))
  (no:isB ts p w=false→∀ h1,Fr (IsI i) h h1→RD h1 i L p n→K (pt ⟨s.s,h1⟩ d (.v (.bool false)))):CallE Tp E 131 [.ptr i 0 0,.v (.string ⟨w.toArray⟩)] d K s:=by
 subst hg;subst hh;refine CallE.intro c131 _ (dtake_ev hE hp hr w) (fun r h1 hh=>?_) (fun v h1 hh=>by cases hh.1);obtain⟨e,f1,r1⟩:=hh;cases e;cases hB:isB ts p w with
 |true=>rw[hB]at r1;rw[if_pos rfl]at r1;exact yes hB h1 f1 r1 (isB_lt hB)
 |false=>rw[hB]at r1;rw[if_neg (by decide)]at r1;exact no hB h1 f1 r1
theorem wantE{E:AV→St→Prop}{d:Option Tmp}{K:St→Prop}{s:St}{h:List ABlk}{i p n:Nat}{w:List UInt8}(hE:EnvD γ L ts)(hp:p≤ts.length)(hr:RD h i L p n)(hg:s.s.g=γ)(hh:s.h=h)
  (yes:isB ts p w=true→∀ h1,Fr (IsI i) h h1→RD h1 i L (p+1) n→p+1≤ts.length→K (pt ⟨s.s,h1⟩ d (.tup [])))
  (no:isB ts p w=false→∀ h1,Fr (IsI i) h h1→E (stopA (plO ts n p) 80) ⟨s.s,h1⟩):CallE Tp E 128 [.ptr i 0 0,.v (.string ⟨w.toArray⟩)] d K s:=by
 subst hg;subst hh;refine callD c128 (dwant_ev hE hp hr w) (fun x q a h1 e f1 r1 hA=>?_) (fun q e' h1 e f1=>?_)
 ·unfold wantD at e
  split at e
  ·rename_i hB;cases e;subst hA;exact yes hB h1 f1 r1 (isB_lt hB)
  ·cases e
 ·unfold wantD at e
  split at e
  ·cases e
  ·rename_i hB;cases e;exact no (by simpa using hB) h1 f1
theorem wordE{E:AV→St→Prop}{d:Option Tmp}{K:St→Prop}{s:St}{h:List ABlk}{i p n:Nat}(hE:EnvD γ L ts)(hp:p≤ts.length)(hr:RD h i L p n)(hg:s.s.g=γ)(hh:s.h=h)
  (yes:∀ nm q h1,wordD ts p=.ok nm q→Fr (IsI i) h h1→RD h1 i L q n→p+1≤q→q≤ts.length→K (pt ⟨s.s,h1⟩ d (.v (.string ⟨nm.toArray⟩))))
  (no:∀ q e h1,wordD ts p=.bad q e→Fr (IsI i) h h1→E (stopA (plO ts n q) e) ⟨s.s,h1⟩):CallE Tp E 129 [.ptr i 0 0] d K s:=by
 subst hg;subst hh;have adv:=word_adv hp;refine callD c129 (dword_ev hE hp hr) (fun x q a h1 e f1 r1 hA=>?_) (fun q e' h1 e f1=>no q e' h1 e f1);subst hA;rw[e]at adv;exact yes x q h1 e f1 r1 adv.1 adv.2
theorem exprE{E:AV→St→Prop}{d:Option Tmp}{K:St→Prop}{s:St}{h:List ABlk}{i p n:Nat}(hE:EnvD γ L ts)(hp:p≤ts.length)(hr:RD h i L p n)(hg:s.s.g=γ)(hh:s.h=h)
  (yes:∀ x q h1,exprD ts p=.ok x q→Fr (IsI i) h h1→RD h1 i L q n→p+1≤q→q≤ts.length→K (pt ⟨s.s,h1⟩ d (.agg [nodesA x])))
  (no:∀ q e h1,exprD ts p=.bad q e→Fr (IsI i) h h1→E (stopA (plO ts n q) e) ⟨s.s,h1⟩):CallE Tp E 132 [.ptr i 0 0] d K s:=by
 subst hg;subst hh;have adv:=expr_adv hp;refine callD c132 (dexpr_ev hE hp hr) (fun x q a h1 e f1 r1 hA=>?_) (fun q e' h1 e f1=>no q e' h1 e f1);have hA:a=.agg [nodesA x]:=hA;subst hA;rw[e]at adv;exact yes x q h1 e f1 r1 adv.1 adv.2
theorem argsE{E:AV→St→Prop}{d:Option Tmp}{K:St→Prop}{s:St}{h:List ABlk}{i p n:Nat}(hE:EnvD γ L ts)(hp:p≤ts.length)(hr:RD h i L p n)(hg:s.s.g=γ)(hh:s.h=h)
  (yes:∀ x q A h1,argsD ts p=.ok x q→Fr (IsI i) h h1→RD h1 i L q n→p+1≤q→q≤ts.length→Rd (Old h.length) h1 (expsA x) A→K (pt ⟨s.s,h1⟩ d A))
  (no:∀ q e h1,argsD ts p=.bad q e→Fr (IsI i) h h1→E (stopA (plO ts n q) e) ⟨s.s,h1⟩):CallE Tp E 203 [.ptr i 0 0] d K s:=by
 subst hg;subst hh;have adv:=args_adv hp;refine callD c203 (dargs_ev hE hp hr) (fun x q a h1 e f1 r1 hA=>?_) (fun q e' h1 e f1=>no q e' h1 e f1);rw[e]at adv;exact yes x q a h1 e f1 r1 adv.1 adv.2 hA
theorem c133:bodyT Tp 133:=⟨_,Tryz.func133,by kernel_rfl,by kernel_rfl⟩
def bdS(γ:List (Nat×AV))(i:Nat)(y:Nat×AV×List ABlk):St:=⟨⟨53,[(0,.ptr i 0 0),(2,y.2.1)],γ⟩,y.2.2⟩
def Io(i n0:Nat)(k:Nat):Prop:=k=i∨n0≤k
theorem Io.i{i n0:Nat}{h h':List ABlk}(f:Fr (IsI i) h h'):Fr (Io i n0) h h':=f.mono fun k e=>.inl e
theorem Io.fin{i:Nat}{h h':List ABlk}(f:Fr (Io i h.length) h h'):Fr (IsI i) h h':=⟨f.1,fun k hk hn=>f.2 k hk fun e=>e.elim hn fun e=>by omega⟩
theorem rd_one{S:Nat→Prop}{h:List ABlk}{n:Nat}{cs:List AV}{A:AV}(a:Rd S h (slA n cs) A):oneA A=true∧flat A=some [A]:=by
 have:=a.fz;cases n with
 |zero=>simp only[slA,Go.Ev.fz]at this;subst this;exact⟨rfl,rfl⟩
 |succ n=>
  simp only[slA,Go.Ev.fz]at this
  rcases this with rfl|⟨_,i,k,xs,rfl,_⟩<;>exact⟨rfl,rfl⟩
theorem dbody_ev(E:EnvD γ L ts){h:List ABlk}{i p n:Nat}(hp:p≤ts.length)(hr:RD h i L p n):
  EvM Tp γ 133 [.ptr i 0 0] h (ResD ts n L i h (RdA actsA h.length) (bodyD ts p)):=by
 have hil:=hr.lt;have hn:=E.n;refine EvM.of Tryz.func133 rfl ?_;simp only[Tryz.f133,evE,Nat.reduceAdd,Nat.reduceSub,Nat.reduceLT,Nat.reduceEqDiff,reduceCtorEq];refine wantE (w:=[123]) E hp hr ?_ ?_ (fun hB h1 f1 r1 hp1=>?_) (fun hB h1 f1=>?_)
 ·rfl
 ·rfl
 rotate_left
 ·have:bodyD ts p=.bad p 80:=by unfold bodyD wantD;rw[hB];rfl
  rw[this];exact⟨f1,rfl⟩
 have eD:bodyD ts p=actsD ts (ts.length+1) [] (p+1):=by unfold bodyD wantD;rw[hB];rfl
 rw[eD];generalize hR:actsD ts (ts.length+1) [] (p+1)=R;simp only[tyD,evE,Nat.reduceLT]
 refine LoopE.intro (bdS γ i) (fun y=>∃ xs f,y.1≤ts.length∧xs.length≤y.1∧RD y.2.2 i L y.1 n∧GL h.length 135 5 y.2.2 y.2.1 xs.length (xs.flatMap Ac.cells)∧Fr (Io i h.length) h y.2.2∧actsD ts f xs y.1=R∧ts.length<f+y.1) (fun y=>ts.length+1-y.1) (p+1,.v (.slice none 0 0),h1) ⟨rfl,rfl,⟨rfl,rfl,trivial⟩,rfl⟩
  ⟨[],ts.length+1,hp1,by simp,r1,GL.nil,Io.i f1,hR,by show ts.length<ts.length+1+(p+1);omega⟩ (fun y hy=>?_)
 clear hR eD f1 r1 hB hp1 hp hr;obtain⟨p,N,h4⟩:=y;obtain⟨xs,f,hp,hx4,r4,G4,F4,hR,hf⟩:=hy;simp only at hp hx4 r4 G4 F4 hR hf;obtain⟨f,rfl⟩:∃ g,f=g+1:=⟨f-1,by omega⟩;rw[actsD]at hR;have hi4:=r4.lt;have hF4:=F4.1;simp only[bdS,evE,Nat.reduceLT,Nat.reduceEqDiff,reduceCtorEq];refine takeE (w:=[125]) E hp (r4.app [⟨0,135,[.v (.int .i64 0),.v (.slice none 0 0),.v (.string ⟨#[]⟩),.v (.string ⟨#[]⟩),.v (.slice none 0 0)]⟩]) ?_ ?_ (fun hB h5 f5 r5 hp5=>?_) (fun hB h5 f5 r5=>?_)
 ·rfl
 ·rfl
 ·rw[if_pos hB]at hR;rw[←hR];simp only[evE,Nat.reduceLT,Nat.reduceEqDiff,reduceCtorEq];exact⟨Io.fin (F4.trans (Io.i (n0:=h4.length) f5.pre) fun k e=>e.elim (fun e=>.inl (.inl e)) fun e=>.inl (.inr (by omega))),N,rfl,r5,G4.rdS f5.pre (fun k e _=>by have e:k=i:=e;omega) (BL _)⟩
 rw[if_neg (by rw[hB];decide)]at hR;have ka5:h5[h4.length]?=some ⟨0,135,[.v (.int .i64 0),.v (.slice none 0 0),.v (.string ⟨#[]⟩),.v (.string ⟨#[]⟩),.v (.slice none 0 0)]⟩:=f5.at (at_len _ _ _) (fun e=>by have e:h4.length=i:=e;omega);have FF5:Fr (Io i h4.length) h4 h5:=Io.i f5.pre;clear f5;simp only[evE,Nat.reduceLT,Nat.reduceEqDiff,reduceCtorEq];refine takeE (w:=kSend) E hp r5 ?_ ?_ (fun hS h6 f6 r6 hp6=>?_) (fun hS h6 f6 r6=>?_)
 ·rfl
 ·rfl
 ·have ka6:=f6.at ka5 (fun e=>by have e:h4.length=i:=e;omega);have FF6:=FF5.trans (Io.i (n0:=h4.length) f6) fun k e=>.inl e
  simp only[evE,Nat.reduceLT,Nat.reduceEqDiff,reduceCtorEq];refine exprE E hp6 r6 ?_ ?_ (fun x q7 h7 e7 f7 r7 a7 b7=>?_) (fun q e' h7 e7 f7=>?_)
  ·rfl
  ·rfl
  rotate_left
  ·have:actD ts p=.bad q e':=by unfold actD;rw[if_pos hS];simp only[e7,DR.bind]
   rw[this]at hR;rw[←hR];exact⟨Io.fin (F4.trans (FF6.trans (Io.i f7) fun k e=>.inl e) fun k e=>e.elim (fun e=>.inl (.inl e)) fun e=>.inl (.inr (by have:=F4.1;omega))),rfl⟩
  have FF7:=FF6.trans (Io.i (n0:=h4.length) f7) fun k e=>.inl e
  have ka7:=f7.at ka6 (fun e=>by have e:h4.length=i:=e;omega);have hone:oneA (nodesA x)=true:=by cases x<;>rfl
  have hflat:flat (nodesA x)=some [nodesA x]:=by cases x<;>rfl
  simp only[tyD,ka7,setMany,hone,evE,Nat.reduceAdd,Nat.reduceLT,Nat.reduceLeDiff,Nat.reduceEqDiff,reduceCtorEq];obtain⟨ka8,r8,FF8⟩:(h7.set h4.length (⟨0,135,[.v (.int .i64 1),nodesA x,.v (.string ⟨#[]⟩),.v (.string ⟨#[]⟩),.v (.slice none 0 0)]⟩:ABlk))[h4.length]?=some (⟨0,135,[.v (.int .i64 1),nodesA x,.v (.string ⟨#[]⟩),.v (.string ⟨#[]⟩),.v (.slice none 0 0)]⟩:ABlk)∧RD (h7.set h4.length (⟨0,135,[.v (.int .i64 1),nodesA x,.v (.string ⟨#[]⟩),.v (.string ⟨#[]⟩),.v (.slice none 0 0)]⟩:ABlk)) i L q7 n∧Fr (Io i h4.length) h4 (h7.set h4.length (⟨0,135,[.v (.int .i64 1),nodesA x,.v (.string ⟨#[]⟩),.v (.string ⟨#[]⟩),.v (.slice none 0 0)]⟩:ABlk)):=⟨Be (Bs.1 ka7).1,(Bn (by omega)).trans r7,FF7.trans (Fr.set (S:=Io i h4.length) _ (.inr (BL _))) fun k e=>.inl e⟩;generalize h7.set h4.length (⟨0,135,[.v (.int .i64 1),nodesA x,.v (.string ⟨#[]⟩),.v (.string ⟨#[]⟩),.v (.slice none 0 0)]⟩:ABlk)=h8 at ka8 r8 FF8⊢;refine wordE E b7 r8 ?_ ?_ (fun nm q9 h9 e9 f9 r9 a9 b9=>?_) (fun q e' h9 e9 f9=>?_)
  ·rfl
  ·rfl
  rotate_left
  ·have:actD ts p=.bad q e':=by unfold actD;rw[if_pos hS];simp only[e7,e9,DR.bind]
   rw[this]at hR;rw[←hR];exact⟨Io.fin (F4.trans (FF8.trans (Io.i f9) fun k e=>.inl e) fun k e=>e.elim (fun e=>.inl (.inl e)) fun e=>.inl (.inr (by have:=F4.1;omega))),rfl⟩
  have FF9:=FF8.trans (Io.i (n0:=h4.length) f9) fun k e=>.inl e
  have ka9:=f9.at ka8 (fun e=>by have e:h4.length=i:=e;omega);simp only[tyD,ka9,setMany,evE,tyX,Nat.reduceAdd,Nat.reduceLT,Nat.reduceLeDiff,Nat.reduceEqDiff,reduceCtorEq];obtain⟨ka10,r10,FF10⟩:(h9.set h4.length (⟨0,135,[.v (.int .i64 1),nodesA x,.v (.string ⟨nm.toArray⟩),.v (.string ⟨#[]⟩),.v (.slice none 0 0)]⟩:ABlk))[h4.length]?=some (⟨0,135,[.v (.int .i64 1),nodesA x,.v (.string ⟨nm.toArray⟩),.v (.string ⟨#[]⟩),.v (.slice none 0 0)]⟩:ABlk)∧RD (h9.set h4.length (⟨0,135,[.v (.int .i64 1),nodesA x,.v (.string ⟨nm.toArray⟩),.v (.string ⟨#[]⟩),.v (.slice none 0 0)]⟩:ABlk)) i L q9 n∧Fr (Io i h4.length) h4 (h9.set h4.length (⟨0,135,[.v (.int .i64 1),nodesA x,.v (.string ⟨nm.toArray⟩),.v (.string ⟨#[]⟩),.v (.slice none 0 0)]⟩:ABlk)):=⟨Be (Bs.1 ka9).1,(Bn (by omega)).trans r9,FF9.trans (Fr.set (S:=Io i h4.length) _ (.inr (BL _))) fun k e=>.inl e⟩;generalize h9.set h4.length (⟨0,135,[.v (.int .i64 1),nodesA x,.v (.string ⟨nm.toArray⟩),.v (.string ⟨#[]⟩),.v (.slice none 0 0)]⟩:ABlk)=h10 at ka10 r10 FF10⊢;refine argsE E b9 r10 ?_ ?_ (fun l q11 A h11 e11 f11 r11 a11 b11 rA=>?_) (fun q e' h11 e11 f11=>?_)
  ·rfl
  ·rfl
  rotate_left
  ·have:actD ts p=.bad q e':=by unfold actD;rw[if_pos hS];simp only[e7,e9,e11,DR.bind]
   rw[this]at hR;rw[←hR];exact⟨Io.fin (F4.trans (FF10.trans (Io.i f11) fun k e=>.inl e) fun k e=>e.elim (fun e=>.inl (.inl e)) fun e=>.inl (.inr (by have:=F4.1;omega))),rfl⟩
  have FF11:=FF10.trans (Io.i (n0:=h4.length) f11) fun k e=>.inl e
  have ka11:=f11.at ka10 (fun e=>by have e:h4.length=i:=e;omega);obtain⟨hone2,hflat2⟩:=rd_one rA;simp only[tyD,ka11,setMany,hflat2,evE,Nat.reduceAdd,Nat.reduceLT,Nat.reduceLeDiff,Nat.reduceEqDiff,reduceCtorEq];obtain⟨ka12,r12,FF12⟩:(h11.set h4.length (⟨0,135,[.v (.int .i64 1),nodesA x,.v (.string ⟨nm.toArray⟩),.v (.string ⟨#[]⟩),A]⟩:ABlk))[h4.length]?=some (⟨0,135,[.v (.int .i64 1),nodesA x,.v (.string ⟨nm.toArray⟩),.v (.string ⟨#[]⟩),A]⟩:ABlk)∧RD (h11.set h4.length (⟨0,135,[.v (.int .i64 1),nodesA x,.v (.string ⟨nm.toArray⟩),.v (.string ⟨#[]⟩),A]⟩:ABlk)) i L q11 n∧Fr (Io i h4.length) h4 (h11.set h4.length (⟨0,135,[.v (.int .i64 1),nodesA x,.v (.string ⟨nm.toArray⟩),.v (.string ⟨#[]⟩),A]⟩:ABlk)):=⟨Be (Bs.1 ka11).1,(Bn (by omega)).trans r11,FF11.trans (Fr.set (S:=Io i h4.length) _ (.inr (BL _))) fun k e=>.inl e⟩;have rA2:=rA.up (S':=Old (h4.length+1)) (Fr.set (S:=IsI h4.length) (h:=h11) (⟨0,135,[.v (.int .i64 1),nodesA x,.v (.string ⟨nm.toArray⟩),.v (.string ⟨#[]⟩),A]⟩:ABlk) rfl) (fun k e _=>by have e:k=h4.length:=e;have:=(Bs.1 ka10).1;show k<h10.length;omega) (fun k e _=>by have e:k<h4.length+1:=e;have:=(Bs.1 ka10).1;show k<h10.length;omega);generalize h11.set h4.length (⟨0,135,[.v (.int .i64 1),nodesA x,.v (.string ⟨nm.toArray⟩),.v (.string ⟨#[]⟩),A]⟩:ABlk)=h12 at ka12 r12 FF12 rA2⊢;obtain⟨ac,A,qz,hz,ez,hact,kaz,rAz,rz,FFz,hqz⟩:∃ (ac:Ac) (A:AV) (qz:Nat) (hz:List ABlk),hz=h12∧actD ts p=.ok ac qz∧hz[h4.length]?=some ⟨0,135,[intC ac.kind,nodesA ac.to,strC ac.name,strC ac.var,A]⟩∧Rd (Old (h4.length+1)) hz (expsA ac.args) A∧RD hz i L qz n∧Fr (Io i h4.length) h4 hz∧p+1≤qz∧qz≤ts.length:=⟨⟨1,x,nm,[],l⟩,A,q11,h12,rfl,by unfold actD;rw[if_pos hS];simp only[e7,e9,e11,DR.bind],ka12,rA2,r12,FF12,by omega,by omega⟩;subst ez;rw[hact]at hR;have eR2:(DR.ok ac qz).bind (fun a p1=>(wantD ts [59] p1).bind fun x p2=>actsD ts f (xs++[a]) p2)=(wantD ts [59] qz).bind fun x p2=>actsD ts f (xs++[ac]) p2:=rfl
  rw[eR2]at hR;refine wantE (w:=[59]) E hqz.2 rz ?_ ?_ (fun hW hy fy ry hpy=>?_) (fun hW hy fy=>?_)
  ·rfl
  ·rfl
  rotate_left
  ·unfold wantD at hR;rw[if_neg (by rw[hW];decide)]at hR;rw[←hR];exact⟨Io.fin (F4.trans (FFz.trans (Io.i fy) fun k e=>.inl e) fun k e=>e.elim (fun e=>.inl (.inl e)) fun e=>.inl (.inr (by have:=F4.1;omega))),rfl⟩
  have hR':actsD ts f (xs++[ac]) (qz+1)=R:=by rw[←hR];unfold wantD;rw[if_pos hW];rfl
  have FFy:=FFz.trans (Io.i (n0:=h4.length) fy) fun k e=>.inl e
  have kay:=fy.at kaz (fun e=>by have e:h4.length=i:=e;omega);have rAy:=rAz.up (S':=Old (h4.length+1)) fy (fun k e _=>by have e:k=i:=e;show k<h4.length+1;omega) (fun k e _=>e);have Gy:GL h.length 135 5 hy N xs.length (xs.flatMap Ac.cells):=G4.fr FFy (fun k e hk=>e.elim (fun e=>⟨by omega,fun hn=>by have:=(G4.lt hn).1;omega⟩) fun e=>by omega);obtain⟨honeA,hflatA⟩:=rd_one rAy;have honeT:oneA (nodesA ac.to)=true:=by cases ac.to<;>rfl
  have hflatT:flat (nodesA ac.to)=some [nodesA ac.to]:=by cases ac.to<;>rfl
  have hel:RdL (fun k=>k<h.length∨nbk N k) hy ac.cells [intC ac.kind,nodesA ac.to,strC ac.name,strC ac.var,A]:=RdL.cons (Rd.int _) (RdL.cons (Rd.nodes _) (RdL.cons (Rd.str _) (RdL.cons (Rd.str _) (RdL.cons (rAy.up (Fr.refl NoB hy) (fun k e=>e.elim) fun k e hk=>by
   show k<h4.length+1
   rcases e with e|e
   ·omega
   ·have:=(G4.lt e).2;omega) RdL.nil))))
  have hxe:(xs++[ac]).length=xs.length+1:=by simp
  have hxf:(xs++[ac]).flatMap Ac.cells=xs.flatMap Ac.cells++ac.cells:=by simp
  have hal:=(Bs.1 kay).1;have F4y:Fr (Io i h.length) h hy:=F4.trans FFy fun k e=>e.elim (fun e=>.inl (.inl e)) fun e=>.inl (.inr (by omega))
  clear hR FFz rAz rz kaz
  rcases Gy with⟨rfl,e0,e1⟩|⟨j,ver,cs,rfl,hnn,hj0,hj,hl,hrd⟩
  ·simp only[tyD,kay,intC,strC,honeA,honeT,at_len,Bo,Bc,Bi,evE,Nat.reduceAdd,Nat.reduceLT,Nat.reduceLeDiff,Nat.reduceEqDiff,reduceCtorEq,List.reduceReplicate];have GP:=(GL.nil (n0:=h.length) (t:=135) (sz:=5) (h:=hy)).push (h':=hy++[⟨0,135,[intC ac.kind,nodesA ac.to,strC ac.name,strC ac.var,A]⟩,⟨0,135,[intC ac.kind,nodesA ac.to,strC ac.name,strC ac.var,A]⟩]) (j':=hy.length+1) (ver':=0) (xs:=[]) (es:=[intC ac.kind,nodesA ac.to,strC ac.name,strC ac.var,A]) (ecs:=ac.cells) (fun j ver e=>by cases e) (fun _=>⟨by omega,rfl⟩) (by omega) (Fr.app _ _) (at_len1 _ _ _ _) rfl hel;exact loopCE.intro (qz+1,.own (hy.length+1) 0 1,_) ⟨xs++[ac],f,hpy,by rw[hxe];show xs.length+1≤qz+1;omega,ry.app _,by rw[hxe,hxf,e0,e1];exact GP,F4y.trans (Fr.app (S:=NoB) _ _) fun k e=>e.elim,hR',by show ts.length<f+(qz+1);omega⟩ ⟨rfl,rfl,⟨rfl,rfl,trivial⟩,rfl⟩ (by show ts.length+1-(qz+1)<ts.length+1-p;omega)
  ·have hjl:=(Bs.1 hj).1;have hl':cs.length=xs.length * 5:=hl;have q1:∀ l,(hy++l)[j]?=some ⟨ver,135,cs⟩:=fun l=>(Ba hjl).trans hj
   have s8:∀ l c,(hy++l).set j c=hy.set j c++l:=fun l c=>Bg _ _ hjl
   have q4:List.take (xs.length * 5) cs=cs:=Bt (by omega);have q6:xs.length * 5≤cs.length:=by omega
   simp only[tyD,kay,intC,strC,honeA,honeT,at_len,q1,s8,q4,q6,evE,Nat.reduceAdd,Nat.reduceLT,Nat.reduceLeDiff,Nat.reduceEqDiff,reduceCtorEq,List.reduceReplicate];have GP:=GL.push (h:=hy) (N:=.own j ver xs.length) (.inr ⟨j,ver,cs,rfl,hnn,hj0,hj,hl,hrd⟩) (h':=hy.set j ⟨ver+1,135,cs++[intC ac.kind,nodesA ac.to,strC ac.name,strC ac.var,A]⟩++[⟨0,135,[intC ac.kind,nodesA ac.to,strC ac.name,strC ac.var,A]⟩]) (j':=j) (ver':=ver+1) (xs:=cs) (es:=[intC ac.kind,nodesA ac.to,strC ac.name,strC ac.var,A]) (ecs:=ac.cells) (fun j2 ver2 e=>by cases e;exact⟨rfl,hj⟩) (fun e=>by cases e) (by omega) ((Fr.set (S:=fun k=>k<h.length∨nbk (.own j ver xs.length) k) _ (.inr rfl)).trans (Fr.app (S:=NoB) _ _) fun k e=>e.elim) ((Ba (by rw[Bl];exact hjl)).trans (Be hjl)) rfl hel;refine⟨by omega,loopCE.intro (qz+1,.own j (ver+1) (xs.length+1),_) ⟨xs++[ac],f,hpy,by rw[hxe];show xs.length+1≤qz+1;omega,?_,by rw[hxe,hxf];exact GP,F4y.trans ((Fr.set (S:=Io i h.length) _ (.inr hj0)).trans (Fr.app (S:=NoB) _ _) fun k e=>e.elim) fun k e=>.inl e,hR',by show ts.length<f+(qz+1);omega⟩ ⟨rfl,rfl,⟨rfl,rfl,trivial⟩,rfl⟩ (by show ts.length+1-(qz+1)<ts.length+1-p;omega)⟩;exact (Ba (by rw[Bl];have:=ry.lt;omega)).trans ((Bn (by omega)).trans ry)
 have ka6:=f6.at ka5 (fun e=>by have e:h4.length=i:=e;omega);have FF6:=FF5.trans (Io.i (n0:=h4.length) f6) fun k e=>.inl e
 simp only[evE,Nat.reduceLT,Nat.reduceEqDiff,reduceCtorEq];refine takeE (w:=kSpawn) E hp r6 ?_ ?_ (fun hS2 h7 f7 r7 hp7=>?_) (fun hS2 h7 f7 r7=>?_)
 ·rfl
 ·rfl
 ·have ka7:=f7.at ka6 (fun e=>by have e:h4.length=i:=e;omega);have FF7:=FF6.trans (Io.i (n0:=h4.length) f7) fun k e=>.inl e
  simp only[evE,Nat.reduceLT,Nat.reduceEqDiff,reduceCtorEq];have hone:=True.intro;have hflat:=True.intro;refine wordE E hp7 r7 ?_ ?_ (fun nm q8 h8 e8 f8 r8 a8 b8=>?_) (fun q e' h8 e8 f8=>?_)
  ·rfl
  ·rfl
  rotate_left
  ·have:actD ts p=.bad q e':=by unfold actD;rw[if_neg (by rw[hS];decide)];rw[if_pos hS2];simp only[e8,DR.bind]
   rw[this]at hR;rw[←hR];exact⟨Io.fin (F4.trans (FF7.trans (Io.i f8) fun k e=>.inl e) fun k e=>e.elim (fun e=>.inl (.inl e)) fun e=>.inl (.inr (by have:=F4.1;omega))),rfl⟩
  have FF8:=FF7.trans (Io.i (n0:=h4.length) f8) fun k e=>.inl e
  have ka8:=f8.at ka7 (fun e=>by have e:h4.length=i:=e;omega);simp only[tyD,ka8,setMany,evE,Nat.reduceAdd,Nat.reduceLT,Nat.reduceLeDiff,Nat.reduceEqDiff,reduceCtorEq];obtain⟨ka9,r9,FF9⟩:(h8.set h4.length (⟨0,135,[.v (.int .i64 2),.v (.slice none 0 0),.v (.string ⟨nm.toArray⟩),.v (.string ⟨#[]⟩),.v (.slice none 0 0)]⟩:ABlk))[h4.length]?=some (⟨0,135,[.v (.int .i64 2),.v (.slice none 0 0),.v (.string ⟨nm.toArray⟩),.v (.string ⟨#[]⟩),.v (.slice none 0 0)]⟩:ABlk)∧RD (h8.set h4.length (⟨0,135,[.v (.int .i64 2),.v (.slice none 0 0),.v (.string ⟨nm.toArray⟩),.v (.string ⟨#[]⟩),.v (.slice none 0 0)]⟩:ABlk)) i L q8 n∧Fr (Io i h4.length) h4 (h8.set h4.length (⟨0,135,[.v (.int .i64 2),.v (.slice none 0 0),.v (.string ⟨nm.toArray⟩),.v (.string ⟨#[]⟩),.v (.slice none 0 0)]⟩:ABlk)):=⟨Be (Bs.1 ka8).1,(Bn (by omega)).trans r8,FF8.trans (Fr.set (S:=Io i h4.length) _ (.inr (BL _))) fun k e=>.inl e⟩;generalize h8.set h4.length (⟨0,135,[.v (.int .i64 2),.v (.slice none 0 0),.v (.string ⟨nm.toArray⟩),.v (.string ⟨#[]⟩),.v (.slice none 0 0)]⟩:ABlk)=h9 at ka9 r9 FF9⊢;refine wantE (w:=kAs) E b8 r9 ?_ ?_ (fun e10 h10 f10 r10 b10=>?_) (fun e10 h10 f10=>?_)
  ·rfl
  ·rfl
  rotate_left
  ·have:actD ts p=.bad q8 80:=by unfold actD;rw[if_neg (by rw[hS];decide)];rw[if_pos hS2];simp only[e8,wantD,e10,DR.bind,Bool.false_eq_true,if_false]
   rw[this]at hR;rw[←hR];exact⟨Io.fin (F4.trans (FF9.trans (Io.i f10) fun k e=>.inl e) fun k e=>e.elim (fun e=>.inl (.inl e)) fun e=>.inl (.inr (by have:=F4.1;omega))),rfl⟩
  have FF10:=FF9.trans (Io.i (n0:=h4.length) f10) fun k e=>.inl e
  have ka10:=f10.at ka9 (fun e=>by have e:h4.length=i:=e;omega);simp only[evE,Nat.reduceLT,Nat.reduceEqDiff,reduceCtorEq];refine wordE E b10 r10 ?_ ?_ (fun vr q11 h11 e11 f11 r11 a11 b11=>?_) (fun q e' h11 e11 f11=>?_)
  ·rfl
  ·rfl
  rotate_left
  ·have:actD ts p=.bad q e':=by unfold actD;rw[if_neg (by rw[hS];decide)];rw[if_pos hS2];simp only[e8,wantD,e10,e11,DR.bind,if_true]
   rw[this]at hR;rw[←hR];exact⟨Io.fin (F4.trans (FF10.trans (Io.i f11) fun k e=>.inl e) fun k e=>e.elim (fun e=>.inl (.inl e)) fun e=>.inl (.inr (by have:=F4.1;omega))),rfl⟩
  have FF11:=FF10.trans (Io.i (n0:=h4.length) f11) fun k e=>.inl e
  have ka11:=f11.at ka10 (fun e=>by have e:h4.length=i:=e;omega);simp only[tyD,ka11,setMany,evE,tyX,Nat.reduceAdd,Nat.reduceLT,Nat.reduceLeDiff,Nat.reduceEqDiff,reduceCtorEq];obtain⟨ka12,r12,FF12⟩:(h11.set h4.length (⟨0,135,[.v (.int .i64 2),.v (.slice none 0 0),.v (.string ⟨nm.toArray⟩),.v (.string ⟨vr.toArray⟩),.v (.slice none 0 0)]⟩:ABlk))[h4.length]?=some (⟨0,135,[.v (.int .i64 2),.v (.slice none 0 0),.v (.string ⟨nm.toArray⟩),.v (.string ⟨vr.toArray⟩),.v (.slice none 0 0)]⟩:ABlk)∧RD (h11.set h4.length (⟨0,135,[.v (.int .i64 2),.v (.slice none 0 0),.v (.string ⟨nm.toArray⟩),.v (.string ⟨vr.toArray⟩),.v (.slice none 0 0)]⟩:ABlk)) i L q11 n∧Fr (Io i h4.length) h4 (h11.set h4.length (⟨0,135,[.v (.int .i64 2),.v (.slice none 0 0),.v (.string ⟨nm.toArray⟩),.v (.string ⟨vr.toArray⟩),.v (.slice none 0 0)]⟩:ABlk)):=⟨Be (Bs.1 ka11).1,(Bn (by omega)).trans r11,FF11.trans (Fr.set (S:=Io i h4.length) _ (.inr (BL _))) fun k e=>.inl e⟩;generalize h11.set h4.length (⟨0,135,[.v (.int .i64 2),.v (.slice none 0 0),.v (.string ⟨nm.toArray⟩),.v (.string ⟨vr.toArray⟩),.v (.slice none 0 0)]⟩:ABlk)=h12 at ka12 r12 FF12⊢;obtain⟨ac,A,qz,hz,ez,hact,kaz,rAz,rz,FFz,hqz⟩:∃ (ac:Ac) (A:AV) (qz:Nat) (hz:List ABlk),hz=h12∧actD ts p=.ok ac qz∧hz[h4.length]?=some ⟨0,135,[intC ac.kind,nodesA ac.to,strC ac.name,strC ac.var,A]⟩∧Rd (Old (h4.length+1)) hz (expsA ac.args) A∧RD hz i L qz n∧Fr (Io i h4.length) h4 hz∧p+1≤qz∧qz≤ts.length:=⟨⟨2,[],nm,vr,[]⟩,.v (.slice none 0 0),q11,h12,rfl,by unfold actD;rw[if_neg (by rw[hS];decide)];rw[if_pos hS2];simp only[e8,wantD,e10,e11,DR.bind,if_true],ka12,Rd.val _,r12,FF12,by omega,by omega⟩;subst ez;rw[hact]at hR;have eR2:(DR.ok ac qz).bind (fun a p1=>(wantD ts [59] p1).bind fun x p2=>actsD ts f (xs++[a]) p2)=(wantD ts [59] qz).bind fun x p2=>actsD ts f (xs++[ac]) p2:=rfl
  rw[eR2]at hR;refine wantE (w:=[59]) E hqz.2 rz ?_ ?_ (fun hW hy fy ry hpy=>?_) (fun hW hy fy=>?_)
  ·rfl
  ·rfl
  rotate_left
  ·unfold wantD at hR;rw[if_neg (by rw[hW];decide)]at hR;rw[←hR];exact⟨Io.fin (F4.trans (FFz.trans (Io.i fy) fun k e=>.inl e) fun k e=>e.elim (fun e=>.inl (.inl e)) fun e=>.inl (.inr (by have:=F4.1;omega))),rfl⟩
  have hR':actsD ts f (xs++[ac]) (qz+1)=R:=by rw[←hR];unfold wantD;rw[if_pos hW];rfl
  have FFy:=FFz.trans (Io.i (n0:=h4.length) fy) fun k e=>.inl e
  have kay:=fy.at kaz (fun e=>by have e:h4.length=i:=e;omega);have rAy:=rAz.up (S':=Old (h4.length+1)) fy (fun k e _=>by have e:k=i:=e;show k<h4.length+1;omega) (fun k e _=>e);have Gy:GL h.length 135 5 hy N xs.length (xs.flatMap Ac.cells):=G4.fr FFy (fun k e hk=>e.elim (fun e=>⟨by omega,fun hn=>by have:=(G4.lt hn).1;omega⟩) fun e=>by omega);obtain⟨honeA,hflatA⟩:=rd_one rAy;have honeT:oneA (nodesA ac.to)=true:=by cases ac.to<;>rfl
  have hflatT:flat (nodesA ac.to)=some [nodesA ac.to]:=by cases ac.to<;>rfl
  have hel:RdL (fun k=>k<h.length∨nbk N k) hy ac.cells [intC ac.kind,nodesA ac.to,strC ac.name,strC ac.var,A]:=RdL.cons (Rd.int _) (RdL.cons (Rd.nodes _) (RdL.cons (Rd.str _) (RdL.cons (Rd.str _) (RdL.cons (rAy.up (Fr.refl NoB hy) (fun k e=>e.elim) fun k e hk=>by
   show k<h4.length+1
   rcases e with e|e
   ·omega
   ·have:=(G4.lt e).2;omega) RdL.nil))))
  have hxe:(xs++[ac]).length=xs.length+1:=by simp
  have hxf:(xs++[ac]).flatMap Ac.cells=xs.flatMap Ac.cells++ac.cells:=by simp
  have hal:=(Bs.1 kay).1;have F4y:Fr (Io i h.length) h hy:=F4.trans FFy fun k e=>e.elim (fun e=>.inl (.inl e)) fun e=>.inl (.inr (by omega))
  clear hR FFz rAz rz kaz
  rcases Gy with⟨rfl,e0,e1⟩|⟨j,ver,cs,rfl,hnn,hj0,hj,hl,hrd⟩
  ·simp only[tyD,kay,intC,strC,honeA,honeT,at_len,Bo,Bc,Bi,evE,Nat.reduceAdd,Nat.reduceLT,Nat.reduceLeDiff,Nat.reduceEqDiff,reduceCtorEq,List.reduceReplicate];have GP:=(GL.nil (n0:=h.length) (t:=135) (sz:=5) (h:=hy)).push (h':=hy++[⟨0,135,[intC ac.kind,nodesA ac.to,strC ac.name,strC ac.var,A]⟩,⟨0,135,[intC ac.kind,nodesA ac.to,strC ac.name,strC ac.var,A]⟩]) (j':=hy.length+1) (ver':=0) (xs:=[]) (es:=[intC ac.kind,nodesA ac.to,strC ac.name,strC ac.var,A]) (ecs:=ac.cells) (fun j ver e=>by cases e) (fun _=>⟨by omega,rfl⟩) (by omega) (Fr.app _ _) (at_len1 _ _ _ _) rfl hel;exact loopCE.intro (qz+1,.own (hy.length+1) 0 1,_) ⟨xs++[ac],f,hpy,by rw[hxe];show xs.length+1≤qz+1;omega,ry.app _,by rw[hxe,hxf,e0,e1];exact GP,F4y.trans (Fr.app (S:=NoB) _ _) fun k e=>e.elim,hR',by show ts.length<f+(qz+1);omega⟩ ⟨rfl,rfl,⟨rfl,rfl,trivial⟩,rfl⟩ (by show ts.length+1-(qz+1)<ts.length+1-p;omega)
  ·have hjl:=(Bs.1 hj).1;have hl':cs.length=xs.length * 5:=hl;have q1:∀ l,(hy++l)[j]?=some ⟨ver,135,cs⟩:=fun l=>(Ba hjl).trans hj
   have s8:∀ l c,(hy++l).set j c=hy.set j c++l:=fun l c=>Bg _ _ hjl
   have q4:List.take (xs.length * 5) cs=cs:=Bt (by omega);have q6:xs.length * 5≤cs.length:=by omega
   simp only[tyD,kay,intC,strC,honeA,honeT,at_len,q1,s8,q4,q6,evE,Nat.reduceAdd,Nat.reduceLT,Nat.reduceLeDiff,Nat.reduceEqDiff,reduceCtorEq,List.reduceReplicate];have GP:=GL.push (h:=hy) (N:=.own j ver xs.length) (.inr ⟨j,ver,cs,rfl,hnn,hj0,hj,hl,hrd⟩) (h':=hy.set j ⟨ver+1,135,cs++[intC ac.kind,nodesA ac.to,strC ac.name,strC ac.var,A]⟩++[⟨0,135,[intC ac.kind,nodesA ac.to,strC ac.name,strC ac.var,A]⟩]) (j':=j) (ver':=ver+1) (xs:=cs) (es:=[intC ac.kind,nodesA ac.to,strC ac.name,strC ac.var,A]) (ecs:=ac.cells) (fun j2 ver2 e=>by cases e;exact⟨rfl,hj⟩) (fun e=>by cases e) (by omega) ((Fr.set (S:=fun k=>k<h.length∨nbk (.own j ver xs.length) k) _ (.inr rfl)).trans (Fr.app (S:=NoB) _ _) fun k e=>e.elim) ((Ba (by rw[Bl];exact hjl)).trans (Be hjl)) rfl hel;refine⟨by omega,loopCE.intro (qz+1,.own j (ver+1) (xs.length+1),_) ⟨xs++[ac],f,hpy,by rw[hxe];show xs.length+1≤qz+1;omega,?_,by rw[hxe,hxf];exact GP,F4y.trans ((Fr.set (S:=Io i h.length) _ (.inr hj0)).trans (Fr.app (S:=NoB) _ _) fun k e=>e.elim) fun k e=>.inl e,hR',by show ts.length<f+(qz+1);omega⟩ ⟨rfl,rfl,⟨rfl,rfl,trivial⟩,rfl⟩ (by show ts.length+1-(qz+1)<ts.length+1-p;omega)⟩;exact (Ba (by rw[Bl];have:=ry.lt;omega)).trans ((Bn (by omega)).trans ry)
 have ka7:=f7.at ka6 (fun e=>by have e:h4.length=i:=e;omega);have FF7:=FF6.trans (Io.i (n0:=h4.length) f7) fun k e=>.inl e
 simp only[evE,Nat.reduceLT,Nat.reduceEqDiff,reduceCtorEq];refine takeE (w:=kReply) E hp r7 ?_ ?_ (fun hS3 h8 f8 r8 hp8=>?_) (fun hS3 h8 f8 r8=>?_)
 ·rfl
 ·rfl
 ·have ka8:=f8.at ka7 (fun e=>by have e:h4.length=i:=e;omega);have FF8:=FF7.trans (Io.i (n0:=h4.length) f8) fun k e=>.inl e
  simp only[evE,Nat.reduceLT,Nat.reduceEqDiff,reduceCtorEq];refine argsE E hp8 r8 ?_ ?_ (fun l q9 A h9 e9 f9 r9 a9 b9 rA=>?_) (fun q e' h9 e9 f9=>?_)
  ·rfl
  ·rfl
  rotate_left
  ·have:actD ts p=.bad q e':=by unfold actD;rw[if_neg (by rw[hS];decide)];rw[if_neg (by rw[hS2];decide)];rw[if_pos hS3];simp only[e9,DR.bind]
   rw[this]at hR;rw[←hR];exact⟨Io.fin (F4.trans (FF8.trans (Io.i f9) fun k e=>.inl e) fun k e=>e.elim (fun e=>.inl (.inl e)) fun e=>.inl (.inr (by have:=F4.1;omega))),rfl⟩
  have FF9:=FF8.trans (Io.i (n0:=h4.length) f9) fun k e=>.inl e
  have ka9:=f9.at ka8 (fun e=>by have e:h4.length=i:=e;omega);obtain⟨hone,hflat⟩:=rd_one rA;simp only[tyD,ka9,setMany,hflat,hone,evE,Nat.reduceAdd,Nat.reduceLT,Nat.reduceLeDiff,Nat.reduceEqDiff,reduceCtorEq];obtain⟨ka10,r10,FF10⟩:(h9.set h4.length (⟨0,135,[.v (.int .i64 3),.v (.slice none 0 0),.v (.string ⟨#[]⟩),.v (.string ⟨#[]⟩),A]⟩:ABlk))[h4.length]?=some (⟨0,135,[.v (.int .i64 3),.v (.slice none 0 0),.v (.string ⟨#[]⟩),.v (.string ⟨#[]⟩),A]⟩:ABlk)∧RD (h9.set h4.length (⟨0,135,[.v (.int .i64 3),.v (.slice none 0 0),.v (.string ⟨#[]⟩),.v (.string ⟨#[]⟩),A]⟩:ABlk)) i L q9 n∧Fr (Io i h4.length) h4 (h9.set h4.length (⟨0,135,[.v (.int .i64 3),.v (.slice none 0 0),.v (.string ⟨#[]⟩),.v (.string ⟨#[]⟩),A]⟩:ABlk)):=⟨Be (Bs.1 ka9).1,(Bn (by omega)).trans r9,FF9.trans (Fr.set (S:=Io i h4.length) _ (.inr (BL _))) fun k e=>.inl e⟩;have rA2:=rA.up (S':=Old (h4.length+1)) (Fr.set (S:=IsI h4.length) (h:=h9) (⟨0,135,[.v (.int .i64 3),.v (.slice none 0 0),.v (.string ⟨#[]⟩),.v (.string ⟨#[]⟩),A]⟩:ABlk) rfl) (fun k e _=>by have e:k=h4.length:=e;have:=(Bs.1 ka8).1;show k<h8.length;omega) (fun k e _=>by have e:k<h4.length+1:=e;have:=(Bs.1 ka8).1;show k<h8.length;omega);generalize h9.set h4.length (⟨0,135,[.v (.int .i64 3),.v (.slice none 0 0),.v (.string ⟨#[]⟩),.v (.string ⟨#[]⟩),A]⟩:ABlk)=h10 at ka10 r10 FF10 rA2⊢;obtain⟨ac,A,qz,hz,ez,hact,kaz,rAz,rz,FFz,hqz⟩:∃ (ac:Ac) (A:AV) (qz:Nat) (hz:List ABlk),hz=h10∧actD ts p=.ok ac qz∧hz[h4.length]?=some ⟨0,135,[intC ac.kind,nodesA ac.to,strC ac.name,strC ac.var,A]⟩∧Rd (Old (h4.length+1)) hz (expsA ac.args) A∧RD hz i L qz n∧Fr (Io i h4.length) h4 hz∧p+1≤qz∧qz≤ts.length:=⟨⟨3,[],[],[],l⟩,A,q9,h10,rfl,by unfold actD;rw[if_neg (by rw[hS];decide)];rw[if_neg (by rw[hS2];decide)];rw[if_pos hS3];simp only[e9,DR.bind],ka10,rA2,r10,FF10,by omega,by omega⟩;subst ez;rw[hact]at hR;have eR2:(DR.ok ac qz).bind (fun a p1=>(wantD ts [59] p1).bind fun x p2=>actsD ts f (xs++[a]) p2)=(wantD ts [59] qz).bind fun x p2=>actsD ts f (xs++[ac]) p2:=rfl
  rw[eR2]at hR;refine wantE (w:=[59]) E hqz.2 rz ?_ ?_ (fun hW hy fy ry hpy=>?_) (fun hW hy fy=>?_)
  ·rfl
  ·rfl
  rotate_left
  ·unfold wantD at hR;rw[if_neg (by rw[hW];decide)]at hR;rw[←hR];exact⟨Io.fin (F4.trans (FFz.trans (Io.i fy) fun k e=>.inl e) fun k e=>e.elim (fun e=>.inl (.inl e)) fun e=>.inl (.inr (by have:=F4.1;omega))),rfl⟩
  have hR':actsD ts f (xs++[ac]) (qz+1)=R:=by rw[←hR];unfold wantD;rw[if_pos hW];rfl
  have FFy:=FFz.trans (Io.i (n0:=h4.length) fy) fun k e=>.inl e
  have kay:=fy.at kaz (fun e=>by have e:h4.length=i:=e;omega);have rAy:=rAz.up (S':=Old (h4.length+1)) fy (fun k e _=>by have e:k=i:=e;show k<h4.length+1;omega) (fun k e _=>e);have Gy:GL h.length 135 5 hy N xs.length (xs.flatMap Ac.cells):=G4.fr FFy (fun k e hk=>e.elim (fun e=>⟨by omega,fun hn=>by have:=(G4.lt hn).1;omega⟩) fun e=>by omega);obtain⟨honeA,hflatA⟩:=rd_one rAy;have honeT:oneA (nodesA ac.to)=true:=by cases ac.to<;>rfl
  have hflatT:flat (nodesA ac.to)=some [nodesA ac.to]:=by cases ac.to<;>rfl
  have hel:RdL (fun k=>k<h.length∨nbk N k) hy ac.cells [intC ac.kind,nodesA ac.to,strC ac.name,strC ac.var,A]:=RdL.cons (Rd.int _) (RdL.cons (Rd.nodes _) (RdL.cons (Rd.str _) (RdL.cons (Rd.str _) (RdL.cons (rAy.up (Fr.refl NoB hy) (fun k e=>e.elim) fun k e hk=>by
   show k<h4.length+1
   rcases e with e|e
   ·omega
   ·have:=(G4.lt e).2;omega) RdL.nil))))
  have hxe:(xs++[ac]).length=xs.length+1:=by simp
  have hxf:(xs++[ac]).flatMap Ac.cells=xs.flatMap Ac.cells++ac.cells:=by simp
  have hal:=(Bs.1 kay).1;have F4y:Fr (Io i h.length) h hy:=F4.trans FFy fun k e=>e.elim (fun e=>.inl (.inl e)) fun e=>.inl (.inr (by omega))
  clear hR FFz rAz rz kaz
  rcases Gy with⟨rfl,e0,e1⟩|⟨j,ver,cs,rfl,hnn,hj0,hj,hl,hrd⟩
  ·simp only[tyD,kay,intC,strC,honeA,honeT,at_len,Bo,Bc,Bi,evE,Nat.reduceAdd,Nat.reduceLT,Nat.reduceLeDiff,Nat.reduceEqDiff,reduceCtorEq,List.reduceReplicate];have GP:=(GL.nil (n0:=h.length) (t:=135) (sz:=5) (h:=hy)).push (h':=hy++[⟨0,135,[intC ac.kind,nodesA ac.to,strC ac.name,strC ac.var,A]⟩,⟨0,135,[intC ac.kind,nodesA ac.to,strC ac.name,strC ac.var,A]⟩]) (j':=hy.length+1) (ver':=0) (xs:=[]) (es:=[intC ac.kind,nodesA ac.to,strC ac.name,strC ac.var,A]) (ecs:=ac.cells) (fun j ver e=>by cases e) (fun _=>⟨by omega,rfl⟩) (by omega) (Fr.app _ _) (at_len1 _ _ _ _) rfl hel;exact loopCE.intro (qz+1,.own (hy.length+1) 0 1,_) ⟨xs++[ac],f,hpy,by rw[hxe];show xs.length+1≤qz+1;omega,ry.app _,by rw[hxe,hxf,e0,e1];exact GP,F4y.trans (Fr.app (S:=NoB) _ _) fun k e=>e.elim,hR',by show ts.length<f+(qz+1);omega⟩ ⟨rfl,rfl,⟨rfl,rfl,trivial⟩,rfl⟩ (by show ts.length+1-(qz+1)<ts.length+1-p;omega)
  ·have hjl:=(Bs.1 hj).1;have hl':cs.length=xs.length * 5:=hl;have q1:∀ l,(hy++l)[j]?=some ⟨ver,135,cs⟩:=fun l=>(Ba hjl).trans hj
   have s8:∀ l c,(hy++l).set j c=hy.set j c++l:=fun l c=>Bg _ _ hjl
   have q4:List.take (xs.length * 5) cs=cs:=Bt (by omega);have q6:xs.length * 5≤cs.length:=by omega
   simp only[tyD,kay,intC,strC,honeA,honeT,at_len,q1,s8,q4,q6,evE,Nat.reduceAdd,Nat.reduceLT,Nat.reduceLeDiff,Nat.reduceEqDiff,reduceCtorEq,List.reduceReplicate];have GP:=GL.push (h:=hy) (N:=.own j ver xs.length) (.inr ⟨j,ver,cs,rfl,hnn,hj0,hj,hl,hrd⟩) (h':=hy.set j ⟨ver+1,135,cs++[intC ac.kind,nodesA ac.to,strC ac.name,strC ac.var,A]⟩++[⟨0,135,[intC ac.kind,nodesA ac.to,strC ac.name,strC ac.var,A]⟩]) (j':=j) (ver':=ver+1) (xs:=cs) (es:=[intC ac.kind,nodesA ac.to,strC ac.name,strC ac.var,A]) (ecs:=ac.cells) (fun j2 ver2 e=>by cases e;exact⟨rfl,hj⟩) (fun e=>by cases e) (by omega) ((Fr.set (S:=fun k=>k<h.length∨nbk (.own j ver xs.length) k) _ (.inr rfl)).trans (Fr.app (S:=NoB) _ _) fun k e=>e.elim) ((Ba (by rw[Bl];exact hjl)).trans (Be hjl)) rfl hel;refine⟨by omega,loopCE.intro (qz+1,.own j (ver+1) (xs.length+1),_) ⟨xs++[ac],f,hpy,by rw[hxe];show xs.length+1≤qz+1;omega,?_,by rw[hxe,hxf];exact GP,F4y.trans ((Fr.set (S:=Io i h.length) _ (.inr hj0)).trans (Fr.app (S:=NoB) _ _) fun k e=>e.elim) fun k e=>.inl e,hR',by show ts.length<f+(qz+1);omega⟩ ⟨rfl,rfl,⟨rfl,rfl,trivial⟩,rfl⟩ (by show ts.length+1-(qz+1)<ts.length+1-p;omega)⟩;exact (Ba (by rw[Bl];have:=ry.lt;omega)).trans ((Bn (by omega)).trans ry)
 have ka8:=f8.at ka7 (fun e=>by have e:h4.length=i:=e;omega);have FF8:=FF7.trans (Io.i (n0:=h4.length) f8) fun k e=>.inl e
 simp only[evE,Nat.reduceLT,Nat.reduceEqDiff,reduceCtorEq];refine takeE (w:=kBecome) E hp r8 ?_ ?_ (fun hS4 h9 f9 r9 hp9=>?_) (fun hS4 h9 f9 r9=>?_)
 ·rfl
 ·rfl
 ·have ka9:=f9.at ka8 (fun e=>by have e:h4.length=i:=e;omega);have FF9:=FF8.trans (Io.i (n0:=h4.length) f9) fun k e=>.inl e
  simp only[evE,Nat.reduceLT,Nat.reduceEqDiff,reduceCtorEq];have hone:=True.intro;have hflat:=True.intro;refine wordE E hp9 r9 ?_ ?_ (fun nm q10 h10 e10 f10 r10 a10 b10=>?_) (fun q e' h10 e10 f10=>?_)
  ·rfl
  ·rfl
  rotate_left
  ·have:actD ts p=.bad q e':=by unfold actD;rw[if_neg (by rw[hS];decide)];rw[if_neg (by rw[hS2];decide)];rw[if_neg (by rw[hS3];decide)];rw[if_pos hS4];simp only[e10,DR.bind]
   rw[this]at hR;rw[←hR];exact⟨Io.fin (F4.trans (FF9.trans (Io.i f10) fun k e=>.inl e) fun k e=>e.elim (fun e=>.inl (.inl e)) fun e=>.inl (.inr (by have:=F4.1;omega))),rfl⟩
  have FF10:=FF9.trans (Io.i (n0:=h4.length) f10) fun k e=>.inl e
  have ka10:=f10.at ka9 (fun e=>by have e:h4.length=i:=e;omega);simp only[tyD,ka10,setMany,evE,Nat.reduceAdd,Nat.reduceLT,Nat.reduceLeDiff,Nat.reduceEqDiff,reduceCtorEq];obtain⟨ka11,r11,FF11⟩:(h10.set h4.length (⟨0,135,[.v (.int .i64 4),.v (.slice none 0 0),.v (.string ⟨nm.toArray⟩),.v (.string ⟨#[]⟩),.v (.slice none 0 0)]⟩:ABlk))[h4.length]?=some (⟨0,135,[.v (.int .i64 4),.v (.slice none 0 0),.v (.string ⟨nm.toArray⟩),.v (.string ⟨#[]⟩),.v (.slice none 0 0)]⟩:ABlk)∧RD (h10.set h4.length (⟨0,135,[.v (.int .i64 4),.v (.slice none 0 0),.v (.string ⟨nm.toArray⟩),.v (.string ⟨#[]⟩),.v (.slice none 0 0)]⟩:ABlk)) i L q10 n∧Fr (Io i h4.length) h4 (h10.set h4.length (⟨0,135,[.v (.int .i64 4),.v (.slice none 0 0),.v (.string ⟨nm.toArray⟩),.v (.string ⟨#[]⟩),.v (.slice none 0 0)]⟩:ABlk)):=⟨Be (Bs.1 ka10).1,(Bn (by omega)).trans r10,FF10.trans (Fr.set (S:=Io i h4.length) _ (.inr (BL _))) fun k e=>.inl e⟩;generalize h10.set h4.length (⟨0,135,[.v (.int .i64 4),.v (.slice none 0 0),.v (.string ⟨nm.toArray⟩),.v (.string ⟨#[]⟩),.v (.slice none 0 0)]⟩:ABlk)=h11 at ka11 r11 FF11⊢;obtain⟨ac,A,qz,hz,ez,hact,kaz,rAz,rz,FFz,hqz⟩:∃ (ac:Ac) (A:AV) (qz:Nat) (hz:List ABlk),hz=h11∧actD ts p=.ok ac qz∧hz[h4.length]?=some ⟨0,135,[intC ac.kind,nodesA ac.to,strC ac.name,strC ac.var,A]⟩∧Rd (Old (h4.length+1)) hz (expsA ac.args) A∧RD hz i L qz n∧Fr (Io i h4.length) h4 hz∧p+1≤qz∧qz≤ts.length:=⟨⟨4,[],nm,[],[]⟩,.v (.slice none 0 0),q10,h11,rfl,by unfold actD;rw[if_neg (by rw[hS];decide)];rw[if_neg (by rw[hS2];decide)];rw[if_neg (by rw[hS3];decide)];rw[if_pos hS4];simp only[e10,DR.bind],ka11,Rd.val _,r11,FF11,by omega,by omega⟩;subst ez;rw[hact]at hR;have eR2:(DR.ok ac qz).bind (fun a p1=>(wantD ts [59] p1).bind fun x p2=>actsD ts f (xs++[a]) p2)=(wantD ts [59] qz).bind fun x p2=>actsD ts f (xs++[ac]) p2:=rfl
  rw[eR2]at hR;refine wantE (w:=[59]) E hqz.2 rz ?_ ?_ (fun hW hy fy ry hpy=>?_) (fun hW hy fy=>?_)
  ·rfl
  ·rfl
  rotate_left
  ·unfold wantD at hR;rw[if_neg (by rw[hW];decide)]at hR;rw[←hR];exact⟨Io.fin (F4.trans (FFz.trans (Io.i fy) fun k e=>.inl e) fun k e=>e.elim (fun e=>.inl (.inl e)) fun e=>.inl (.inr (by have:=F4.1;omega))),rfl⟩
  have hR':actsD ts f (xs++[ac]) (qz+1)=R:=by rw[←hR];unfold wantD;rw[if_pos hW];rfl
  have FFy:=FFz.trans (Io.i (n0:=h4.length) fy) fun k e=>.inl e
  have kay:=fy.at kaz (fun e=>by have e:h4.length=i:=e;omega);have rAy:=rAz.up (S':=Old (h4.length+1)) fy (fun k e _=>by have e:k=i:=e;show k<h4.length+1;omega) (fun k e _=>e);have Gy:GL h.length 135 5 hy N xs.length (xs.flatMap Ac.cells):=G4.fr FFy (fun k e hk=>e.elim (fun e=>⟨by omega,fun hn=>by have:=(G4.lt hn).1;omega⟩) fun e=>by omega);obtain⟨honeA,hflatA⟩:=rd_one rAy;have honeT:oneA (nodesA ac.to)=true:=by cases ac.to<;>rfl
  have hflatT:flat (nodesA ac.to)=some [nodesA ac.to]:=by cases ac.to<;>rfl
  have hel:RdL (fun k=>k<h.length∨nbk N k) hy ac.cells [intC ac.kind,nodesA ac.to,strC ac.name,strC ac.var,A]:=RdL.cons (Rd.int _) (RdL.cons (Rd.nodes _) (RdL.cons (Rd.str _) (RdL.cons (Rd.str _) (RdL.cons (rAy.up (Fr.refl NoB hy) (fun k e=>e.elim) fun k e hk=>by
   show k<h4.length+1
   rcases e with e|e
   ·omega
   ·have:=(G4.lt e).2;omega) RdL.nil))))
  have hxe:(xs++[ac]).length=xs.length+1:=by simp
  have hxf:(xs++[ac]).flatMap Ac.cells=xs.flatMap Ac.cells++ac.cells:=by simp
  have hal:=(Bs.1 kay).1;have F4y:Fr (Io i h.length) h hy:=F4.trans FFy fun k e=>e.elim (fun e=>.inl (.inl e)) fun e=>.inl (.inr (by omega))
  clear hR FFz rAz rz kaz
  rcases Gy with⟨rfl,e0,e1⟩|⟨j,ver,cs,rfl,hnn,hj0,hj,hl,hrd⟩
  ·simp only[tyD,kay,intC,strC,honeA,honeT,at_len,Bo,Bc,Bi,evE,Nat.reduceAdd,Nat.reduceLT,Nat.reduceLeDiff,Nat.reduceEqDiff,reduceCtorEq,List.reduceReplicate];have GP:=(GL.nil (n0:=h.length) (t:=135) (sz:=5) (h:=hy)).push (h':=hy++[⟨0,135,[intC ac.kind,nodesA ac.to,strC ac.name,strC ac.var,A]⟩,⟨0,135,[intC ac.kind,nodesA ac.to,strC ac.name,strC ac.var,A]⟩]) (j':=hy.length+1) (ver':=0) (xs:=[]) (es:=[intC ac.kind,nodesA ac.to,strC ac.name,strC ac.var,A]) (ecs:=ac.cells) (fun j ver e=>by cases e) (fun _=>⟨by omega,rfl⟩) (by omega) (Fr.app _ _) (at_len1 _ _ _ _) rfl hel;exact loopCE.intro (qz+1,.own (hy.length+1) 0 1,_) ⟨xs++[ac],f,hpy,by rw[hxe];show xs.length+1≤qz+1;omega,ry.app _,by rw[hxe,hxf,e0,e1];exact GP,F4y.trans (Fr.app (S:=NoB) _ _) fun k e=>e.elim,hR',by show ts.length<f+(qz+1);omega⟩ ⟨rfl,rfl,⟨rfl,rfl,trivial⟩,rfl⟩ (by show ts.length+1-(qz+1)<ts.length+1-p;omega)
  ·have hjl:=(Bs.1 hj).1;have hl':cs.length=xs.length * 5:=hl;have q1:∀ l,(hy++l)[j]?=some ⟨ver,135,cs⟩:=fun l=>(Ba hjl).trans hj
   have s8:∀ l c,(hy++l).set j c=hy.set j c++l:=fun l c=>Bg _ _ hjl
   have q4:List.take (xs.length * 5) cs=cs:=Bt (by omega);have q6:xs.length * 5≤cs.length:=by omega
   simp only[tyD,kay,intC,strC,honeA,honeT,at_len,q1,s8,q4,q6,evE,Nat.reduceAdd,Nat.reduceLT,Nat.reduceLeDiff,Nat.reduceEqDiff,reduceCtorEq,List.reduceReplicate];have GP:=GL.push (h:=hy) (N:=.own j ver xs.length) (.inr ⟨j,ver,cs,rfl,hnn,hj0,hj,hl,hrd⟩) (h':=hy.set j ⟨ver+1,135,cs++[intC ac.kind,nodesA ac.to,strC ac.name,strC ac.var,A]⟩++[⟨0,135,[intC ac.kind,nodesA ac.to,strC ac.name,strC ac.var,A]⟩]) (j':=j) (ver':=ver+1) (xs:=cs) (es:=[intC ac.kind,nodesA ac.to,strC ac.name,strC ac.var,A]) (ecs:=ac.cells) (fun j2 ver2 e=>by cases e;exact⟨rfl,hj⟩) (fun e=>by cases e) (by omega) ((Fr.set (S:=fun k=>k<h.length∨nbk (.own j ver xs.length) k) _ (.inr rfl)).trans (Fr.app (S:=NoB) _ _) fun k e=>e.elim) ((Ba (by rw[Bl];exact hjl)).trans (Be hjl)) rfl hel;refine⟨by omega,loopCE.intro (qz+1,.own j (ver+1) (xs.length+1),_) ⟨xs++[ac],f,hpy,by rw[hxe];show xs.length+1≤qz+1;omega,?_,by rw[hxe,hxf];exact GP,F4y.trans ((Fr.set (S:=Io i h.length) _ (.inr hj0)).trans (Fr.app (S:=NoB) _ _) fun k e=>e.elim) fun k e=>.inl e,hR',by show ts.length<f+(qz+1);omega⟩ ⟨rfl,rfl,⟨rfl,rfl,trivial⟩,rfl⟩ (by show ts.length+1-(qz+1)<ts.length+1-p;omega)⟩;exact (Ba (by rw[Bl];have:=ry.lt;omega)).trans ((Bn (by omega)).trans ry)
 simp only[evE,Nat.reduceLT,Nat.reduceEqDiff,reduceCtorEq];refine CallE.intro c127 _ (dfail_ev E r9 80) (fun r h2 hh=>by cases hh.1) (fun v h2 hh=>?_);obtain⟨e,rfl⟩:=hh;cases e;have:actD ts p=.bad p 80:=by unfold actD;rw[if_neg (by rw[hS];decide)];rw[if_neg (by rw[hS2];decide)];rw[if_neg (by rw[hS3];decide)];rw[if_neg (by rw[hS4];decide)]
 rw[this]at hR;rw[←hR];exact⟨Io.fin (F4.trans (FF8.trans (Io.i f9) fun k e=>.inl e) fun k e=>e.elim (fun e=>.inl (.inl e)) fun e=>.inl (.inr (by have:=F4.1;omega))),rfl⟩
theorem c80:bodyT Tp 80:=⟨_,Tryz.func80,by kernel_rfl,by kernel_rfl⟩
end Go.Proofs.YtlobiioioicmhaaGreatDoor
