/- A part of the proof. -/
import Derived.Test.YtlobiioioicmhaaGreatDoorDQ17
import Derived.Test.YtlobiioioicmhaaGreatDoorCards
import Derived.Test.YtlobiioioicmhaaGreatDoorTie
import Derived.WalkKit
import Derived.ProofKit
import Derived.OpenShut
import Derived.ShutString
import Derived.ChangeOld
import Derived.SizedLaws
import Derived.Deep.DeepHandedRow
import Derived.Deep.DeepWitnessRowRef
import Derived.Stop.LaidErr
import Derived.Lib.LaidIn
import Derived.Lib.LaidTab
set_option linter.all false
set_option maxHeartbeats 8000000
namespace Go.Proofs.YtlobiioioicmhaaGreatDoor
open _root_.Array renaming getElem?_eq_none→BQ
open _root_.Bool renaming not_true→Bv,not_false→Bf
open _root_.List renaming getElem?_eq_some_iff→Bs,getElem?_append_left→Ba,length_append→Bp,append_assoc→Bo,cons_append→Bc,nil_append→Bi,getElem?_map→Bm,length_map→Bk,take_of_length_le→Bt,length_take→Bh,map_cons→BA,prefix_rfl→BB,length_cons→BC,length_nil→BD,flatMap_cons→BE,append_nil→BS,getElem?_take→BY
open _root_.Nat renaming le_refl→BL,le_trans→BM
open Go.Proofs.Tryz renaming prog→Tp
open Go Go.Ev
theorem noBorL_app:∀ xs ys:List AV,noBorL (xs++ys)=(noBorL xs&&noBorL ys)
 |[],ys=>by simp only[Bi,noBorL,Bool.true_and]
 |x::xs,ys=>by simp only[Bc,noBorL,noBorL_app xs ys,Bool.and_assoc]
theorem noBor_slA{n:Nat}{cs:List AV}(h:noBorL cs=true):noBor (slA n cs)=true:=by
 cases n with
 |zero=>rfl
 |succ n=>simp only[slA,noBor,Bf,Bool.true_and];exact h
theorem noBorL_flat{α:Type}{f:α→List AV}(hf:∀ x,noBorL (f x)=true):∀ l:List α,noBorL (l.flatMap f)=true
 |[]=>by simp only[List.flatMap_nil,noBorL]
 |x::l=>by rw[BE,noBorL_app,hf x,noBorL_flat hf l];rfl
theorem noBorL_map{α:Type}{f:α→AV}(hf:∀ x,noBor (f x)=true):∀ l:List α,noBorL (l.map f)=true
 |[]=>by simp only[List.map_nil,noBorL]
 |x::l=>by rw[BA];simp only[noBorL,hf x,noBorL_map hf l,Bool.and_self]
theorem noBor_strs(l:List (List UInt8)):noBor (strsA l)=true:=noBor_slA (noBorL_map (fun _=>rfl) l)
theorem noBor_ch(c:Ch):noBorL c.cells=true:=by
 simp only[Ch.cells,noBorL,strC,noBor_nodes,partsA,actsA,noBor_slA (noBorL_flat (f:=Pt.cells) (fun p=>by simp only[Pt.cells,noBorL,strC,noBor,noBor_strs,Bool.and_self]) c.parts),noBor_slA (noBorL_flat (f:=Ac.cells) (fun a=>by simp only[Ac.cells,noBorL,strC,intC,noBor,noBor_nodes,expsA,noBor_slA (noBorL_map noBor_nodes a.args),Bool.and_self]) c.body),noBor,Bool.and_self]
theorem noBor_tg(c:Tg):noBorL c.cells=true:=by
 simp only[Tg.cells,noBorL,strC,intsA,noBor_slA (noBorL_map (f:=intC) (fun _=>rfl) c.types),noBor,Bool.and_self]
theorem noBor_kd(c:Kd):noBorL c.cells=true:=by
 simp only[Kd.cells,noBorL,strC,chordsA,noBor_slA (noBorL_flat (f:=Ch.cells) noBor_ch c.chords),noBor,Bool.and_self]
theorem noBor_progO(l:List UInt8):noBor (progOA l)=true:=by
 simp only[progOA,noBor,noBorL,Pg.av,Pg.cells,intC,tagsA,kindsA,noBor_slA (noBorL_flat (f:=Tg.cells) noBor_tg (progO l).1.tags),noBor_slA (noBorL_flat (f:=Kd.cells) noBor_kd (progO l).1.kinds),Bool.and_self]
set_option maxRecDepth 20000
variable {γ:List (Nat×AV)}
def awk1:List UInt8:=[116,97,103,32,97,40,105,110,116,41,59,32,107,105,110,100,32,107,32,123,32,99,104,111,114,100,32,99,58,32,97,40,110,41,32,119,104,101,110,32,110,32,60,32,50,32,123,32,98,101,99,111,109,101,32,107,59,32,125,32,125]
def awk2:List UInt8:=[116,97,103,32,97,40,98,111,111,108,41,59]
def oneKind(g:Pg):Bool:=match g.tags,g.kinds with
 |[_],[k]=>match k.chords with
  |[_]=>true
  |_=>false
 |_,_=>false
theorem awk1_ok:(oneKind (progO awk1).1&&(progO awk1).2.2==0)=true:=by kernel_rfl
theorem awk2_ok:((progO awk2).2.1==6&&(progO awk2).2.2==80)=true:=by kernel_rfl
theorem c40:bodyT Tp 40:=⟨_,Tryz.func40,by kernel_rfl,by kernel_rfl⟩
def prog1(g:Pg):Prop:=∃ t k c,g=⟨[t],[⟨k,[c]⟩]⟩
theorem prog1_of{g:Pg}(h:oneKind g=true):prog1 g:=by
 obtain⟨tg,kd⟩:=g;unfold oneKind at h
 split at h
 ·rename_i t k e1 e2;simp only at e1 e2;subst e1;subst e2;obtain⟨k,cs⟩:=k;simp only at h
  split at h
  ·rename_i c;exact⟨t,k,c,rfl⟩
  ·cases h
 ·cases h
theorem awake8_of(hp:∀ l:List UInt8,l.length≤140737488351232→Ev Tp γ 38 [.sl true l.length l.length (l.map byteC)] (progOA l)):Ev Tp γ 40 [] (.v (.bool true)):=by
 have hp1:=hp awk1 (by decide);have hp2:=hp awk2 (by decide);clear hp;have hn1:=noBor_progO awk1;have hn2:=noBor_progO awk2;have k1:=awk1_ok;have k2:=awk2_ok;have b1:=bytes_v awk1;have b2:=bytes_v awk2;unfold progOA at hp1 hp2 hn1 hn2;have l1:awk1.length=61:=rfl;have l2:awk2.length=12:=rfl;rw[l1]at hp1;rw[l2]at hp2;generalize hm1:awk1.map byteC=cs1 at hp1 b1;generalize hm2:awk2.map byteC=cs2 at hp2 b2;generalize progO awk1=G1 at *;generalize progO awk2=G2 at *;obtain⟨g1,p1,e1⟩:=G1;obtain⟨g2,p2,e2⟩:=G2;simp only[Bool.and_eq_true,beq_iff_eq]at k1 k2 hp1 hp2 hn1 hn2;obtain⟨k11,rfl⟩:=k1;obtain⟨rfl,rfl⟩:=k2;obtain⟨t,k,c,rfl⟩:=prog1_of k11;obtain⟨A1,A2,hA⟩:∃ A1 A2,g2.av=.agg [A1,A2]∧oneA A1=true∧oneA A2=true∧flat A1=some [A1]∧flat A2=some [A2]:=⟨_,_,rfl,by cases g2.tags<;>rfl,by cases g2.kinds<;>rfl,by cases g2.tags<;>rfl,by cases g2.kinds<;>rfl⟩;obtain⟨hA,oA1,oA2,fA1,fA2⟩:=hA;rw[hA]at hp2 hn2;refine Ev.ofQ Tryz.func40 rfl fun X hP {a w} hs=>?_
 refine seqE hP hs (fun st=>st=⟨⟨52,[(0,.v (.bool false))],γ⟩,[]⟩) ?_ (fun φ1 st1 a1 w1 hs1 q1=>?_)
 ·simp only[Tryz.f40,evE,tyX,Bv,Bf,Nat.reduceAdd,Nat.reduceSub,Nat.reduceMul,Nat.reduceLT,Nat.reduceLeDiff,Nat.reduceEqDiff,reduceCtorEq,List.reduceReplicate,Int.reduceToNat,Int.reduceLE,Int.reduceLT]
 subst q1;refine seqL hP rfl rfl rfl hs1 rfl rfl (show 8<52 by decide) rfl (by kernel_rfl) (fun st=>slotW st ⟨⟨52,[(0,.v (.bool false)),(1,.ptr 1 0 0),(2,intC p1),(3,intC 0)],γ⟩,[⟨0,5,cs1⟩,⟨0,71,(Pg.mk [t] [⟨k,[c]⟩]).cells⟩]⟩) ?_ (fun φ2 st2 a2 w2 hs2 q2=>?_)
 ·refine buildSliceS_eq (r:=.own 0 0 61) (h:=[⟨0,5,cs1⟩]) (by subst hm1;kernel_rfl) ?_;show kopsE _ _ _ _ _ ⟨⟨52,[(9,.own 0 0 61),(8,.own 0 0 61),(0,.v (.bool false))],γ⟩,[⟨0,5,cs1⟩]⟩;simp only[tyD,tyW,tyL,tyP8,evE,tyX,Bv,Bf,Nat.reduceAdd,Nat.reduceSub,Nat.reduceMul,Nat.reduceLT,Nat.reduceLeDiff,Nat.reduceEqDiff,reduceCtorEq,List.reduceReplicate,Int.reduceToNat,Int.reduceLE,Int.reduceLT];refine CallE.pure (CallK.lend c38 _ (lend1 (H:=[⟨0,5,cs1⟩]) (i:=0) (k:=⟨0,5,cs1⟩) rfl BB b1) hp1 hn1 ?_);simp only[tyD,tyW,tyL,tyP8,Pg.av,Pg.cells,tagsA,kindsA,intC,slA,evE,tyX,Bv,Bf,Nat.reduceAdd,Nat.reduceSub,Nat.reduceMul,Nat.reduceLT,Nat.reduceLeDiff,Nat.reduceEqDiff,reduceCtorEq,List.reduceReplicate,Int.reduceToNat,Int.reduceLE,Int.reduceLT];exact⟨rfl,rfl,⟨rfl,rfl,rfl,rfl,trivial⟩,rfl⟩
 have hs3:=hs2.slotW q2;refine seqL hP rfl rfl rfl hs3 rfl rfl (show 15<52 by decide) rfl (by kernel_rfl) (fun st=>slotW st ⟨⟨52,[(0,.v (.bool false)),(1,.ptr 1 0 0),(2,intC p1),(3,intC 0),(4,.ptr 3 0 0),(5,intC 6),(6,intC 80)],γ⟩,[⟨0,5,cs1⟩,⟨0,71,(Pg.mk [t] [⟨k,[c]⟩]).cells⟩,⟨0,5,cs2⟩,⟨0,71,[A1,A2]⟩]⟩) ?_ (fun φ4 st4 a4 w4 hs4 q4=>?_)
 ·refine buildSliceS_eq (r:=.own 2 0 12) (h:=[⟨0,5,cs1⟩,⟨0,71,(Pg.mk [t] [⟨k,[c]⟩]).cells⟩,⟨0,5,cs2⟩]) (by subst hm2;kernel_rfl) ?_;show kopsE _ _ _ _ _ ⟨⟨52,[(16,.own 2 0 12),(15,.own 2 0 12),(0,.v (.bool false)),(1,.ptr 1 0 0),(2,intC p1),(3,intC 0)],γ⟩,[⟨0,5,cs1⟩,⟨0,71,(Pg.mk [t] [⟨k,[c]⟩]).cells⟩,⟨0,5,cs2⟩]⟩;simp only[tyD,tyW,tyL,tyP8,evE,tyX,Bv,Bf,Nat.reduceAdd,Nat.reduceSub,Nat.reduceMul,Nat.reduceLT,Nat.reduceLeDiff,Nat.reduceEqDiff,reduceCtorEq,List.reduceReplicate,Int.reduceToNat,Int.reduceLE,Int.reduceLT];refine CallE.pure (CallK.lend c38 _ (lend1 (H:=[⟨0,5,cs1⟩,⟨0,71,(Pg.mk [t] [⟨k,[c]⟩]).cells⟩,⟨0,5,cs2⟩]) (i:=2) (k:=⟨0,5,cs2⟩) rfl BB b2) hp2 hn2 ?_);simp only[tyD,tyW,tyL,tyP8,oA1,oA2,fA1,fA2,intC,evE,tyX,Bv,Bf,Nat.reduceAdd,Nat.reduceSub,Nat.reduceMul,Nat.reduceLT,Nat.reduceLeDiff,Nat.reduceEqDiff,reduceCtorEq,List.reduceReplicate,Int.reduceToNat,Int.reduceLE,Int.reduceLT];exact⟨rfl,rfl,⟨rfl,rfl,rfl,rfl,rfl,rfl,rfl,trivial⟩,rfl⟩
 have hs5:=hs4.slotW q4;refine tailE hP hs5 ?_;have e3:Kd.cells ⟨k,[c]⟩=[strC k,.sl false 1 1 (Ch.cells c++[])]:=rfl;have u1:(((1:Nat):Int)==1)=true:=rfl;have u6:((6:Int)==6)=true:=rfl;have u80:((80:Int)==80)=true:=rfl;have u0:((0:Int)==0)=true:=rfl;have hr:Tryz.f40.results.toList=[.tmp 0]:=by kernel_rfl
 simp only[hr,u0,u1,u6,u80,tyD,tyW,tyL,tyP8,Pg.cells,tagsA,kindsA,slA,List.length_singleton,BE,List.flatMap_nil,BS,e3,intC,evE,tyX,Bv,Bf,Nat.reduceAdd,Nat.reduceSub,Nat.reduceMul,Nat.reduceLT,Nat.reduceLeDiff,Nat.reduceEqDiff,reduceCtorEq,List.reduceReplicate,Int.reduceToNat,Int.reduceLE,Int.reduceLT]
 decide
def np(t:Tk):Tk:={ t with pos:=0 }
structure TxtQ(x:AV)(l:List UInt8):Prop where
 src:∃ p:Prop,p∧∀ h,srcS h 1 x=some (p,l.length,l.map byteC)
 len:∀ s,lenS Tp 37 s x=some (.v (.int .i64 l.length))
theorem txt_nil:TxtQ (.v (.slice none 0 0)) []:=⟨⟨True,trivial,fun h=>rfl⟩,fun s=>by
 have e37:elemT Tp 37=some 5:=by kernel_rfl
 simp only[lenS,e37];rfl⟩
theorem txt_sl(b:Bool)(l:List UInt8):TxtQ (.sl b l.length l.length (l.map byteC)) l:=⟨⟨l.length * 1≤(l.map byteC).length,by simp,fun h=>by simp only[srcS,Nat.mul_one];rw[Bt (by simp)]⟩,fun s=>by
 have e37:elemT Tp 37=some 5:=by kernel_rfl
 simp only[lenS,e37];rfl⟩
section
variable {P:Program} {H:List ABlk} {b:Bool}
end
def TxtA(x:AV)(l:List UInt8):Prop:=(x=.v (.slice none 0 0)∧l=[])∨∃ b,x=.sl b l.length l.length (l.map byteC)
end Go.Proofs.YtlobiioioicmhaaGreatDoor
namespace Go.Proofs.YtlobiioioicmhaaGreatDoor.O
open _root_.Array renaming getElem?_eq_none→BQ
open _root_.Bool renaming not_true→Bv,not_false→Bf
open _root_.List renaming getElem?_eq_some_iff→Bs,getElem?_append_left→Ba,length_append→Bp,append_assoc→Bo,cons_append→Bc,nil_append→Bi,getElem?_map→Bm,length_map→Bk,take_of_length_le→Bt,length_take→Bh,map_cons→BA,prefix_rfl→BB,length_cons→BC,length_nil→BD,flatMap_cons→BE,append_nil→BS,getElem?_take→BY
open _root_.Nat renaming le_refl→BL,le_trans→BM
open Go.Proofs.Tryz renaming prog→Tp
open Go Go.Ev
set_option maxRecDepth 20000
variable {γ:List (Nat×AV)}
theorem ph38{H h1:List ABlk}{B:ABlk}{l:List UInt8}{o:Out}(a:RdT (.g [.s 137,.s 90]) (fun c:Pg=>.agg c.cells) (progO l) (H++[B]) o h1):∃ T K F,o=.ret (.tup [.agg [T,K],intC (progO l).2.1,intC (progO l).2.2])∧(oneA T=true∧flat T=some [T])∧(oneA K=true∧flat K=some [K])∧Fr NoB H h1∧H.length<h1.length∧F.Nodup∧(∀ j∈F,H.length+1≤j∧j<h1.length)∧owL (progO l).1.cells h1 [.s 137,.s 90] [T,K] F:=by
 obtain⟨f1,A,e,rd⟩:=a;obtain⟨T,K,rfl,o1,o2⟩:=rd_prog rd;obtain⟨F,hF,hS,o⟩:=rd;simp only[ow]at o;obtain⟨ks,xs,e1,e2,o⟩:=o;cases e1;cases e2;have l1:=f1.1;simp only[Bp,BC,BD]at l1;exact⟨T,K,F,e,o1,o2,⟨by omega,fun k hk hn=>(f1.2 k (by simp;omega) hn).trans (Ba hk)⟩,by omega,hF,fun j hj=>⟨by have:=hS j hj;simp only[Old,Bp,BC,BD]at this;omega,owL_lt _ _ _ _ o j hj⟩,o⟩
theorem ph30{H h1:List ABlk}{B:ABlk}{l:List UInt8}{o:Out}(a:RdT (.g (kT 59)) (fun c:Ch=>.agg c.cells) (chordO l) (H++[B]) o h1):∃ xs F,o=.ret (.tup [.agg xs,intC (chordO l).2.1,intC (chordO l).2.2])∧(∃ x1 x2 x3,xs=[strC (chordO l).1.name,x1,x2,x3]∧(oneA x1=true∧flat x1=some [x1])∧(oneA x2=true∧flat x2=some [x2])∧oneA x3=true∧flat x3=some [x3])∧Fr NoB H h1∧H.length<h1.length∧F.Nodup∧(∀ j∈F,H.length+1≤j∧j<h1.length)∧owL (chordO l).1.cells h1 (kT 59) xs F:=by
 obtain⟨f1,A,e,rd⟩:=a;obtain⟨x1,x2,x3,rfl,o1,o2,o3⟩:=rd_chord rd;obtain⟨F,hF,hS,o⟩:=rd;simp only[ow]at o;obtain⟨ks,xs,e1,e2,o⟩:=o;cases e1;cases e2;have l1:=f1.1;simp only[Bp,BC,BD]at l1;exact⟨_,F,e,⟨x1,x2,x3,rfl,o1,o2,o3⟩,⟨by omega,fun k hk hn=>(f1.2 k (by simp;omega) hn).trans (Ba hk)⟩,by omega,hF,fun j hj=>⟨by have:=hS j hj;simp only[Old,Bp,BC,BD]at this;omega,owL_lt _ _ _ _ o j hj⟩,o⟩
theorem ph38b{H h1:List ABlk}{A B:ABlk}{l:List UInt8}{o:Out}(a:RdT (.g [.s 137,.s 90]) (fun c:Pg=>.agg c.cells) (progO l) (H++[A,B]) o h1):∃ T K F,o=.ret (.tup [.agg [T,K],intC (progO l).2.1,intC (progO l).2.2])∧(oneA T=true∧flat T=some [T])∧(oneA K=true∧flat K=some [K])∧Fr NoB (H++[A]) h1∧H.length+1<h1.length∧F.Nodup∧(∀ j∈F,H.length+2≤j∧j<h1.length)∧owL (progO l).1.cells h1 [.s 137,.s 90] [T,K] F:=by
 have h:=ph38 (H:=H++[A]) (B:=B) (by rw[Bo];exact a)
 rwa [show (H++[A]).length=H.length+1 by simp]at h
theorem ph30b{H h1:List ABlk}{A B:ABlk}{l:List UInt8}{o:Out}(a:RdT (.g (kT 59)) (fun c:Ch=>.agg c.cells) (chordO l) (H++[A,B]) o h1):∃ xs F,o=.ret (.tup [.agg xs,intC (chordO l).2.1,intC (chordO l).2.2])∧(∃ x1 x2 x3,xs=[strC (chordO l).1.name,x1,x2,x3]∧(oneA x1=true∧flat x1=some [x1])∧(oneA x2=true∧flat x2=some [x2])∧oneA x3=true∧flat x3=some [x3])∧Fr NoB (H++[A]) h1∧H.length+1<h1.length∧F.Nodup∧(∀ j∈F,H.length+2≤j∧j<h1.length)∧owL (chordO l).1.cells h1 (kT 59) xs F:=by
 have h:=ph30 (H:=H++[A]) (B:=B) (by rw[Bo];exact a)
 rwa [show (H++[A]).length=H.length+1 by simp]at h
theorem byt1(H:List ABlk)(q:List UInt8):Byt (H++[⟨1,5,q.map byteC⟩]) (.own H.length 1 q.length) q:=.inr (.inr ⟨_,_,at_len _ _ _,BB,rfl⟩)
theorem byt2(H:List ABlk)(A:ABlk)(q:List UInt8):Byt (H++[A,⟨1,5,q.map byteC⟩]) (.own (H.length+1) 1 q.length) q:=.inr (.inr ⟨_,_,at_len1 _ _ _ _,BB,rfl⟩)
theorem same8{G:List ABlk}{c:Pg}{xs xs':List AV}{F F':List Nat}(ok:okPg c)(o:owL c.cells G [.s 137,.s 90] xs F)(o':owL c.cells G [.s 137,.s 90] xs' F'):EvM Tp γ 39 [.agg xs,.agg xs'] G (fun o h'=>o=.ret (.v (.bool true))∧h'=G):=by
 refine EvM.frozen (ys:=[c.av,c.av]) ?_ (progs_ev c ok);have q:∀ {xs:List AV} {F:List Nat},owL c.cells G [.s 137,.s 90] xs F→fz Tp G false c.av (.agg xs):=fun {xs F} o=>ow_fz (.agg c.cells) (.g [.s 137,.s 90]) (.agg xs) F (by simp only[ow];exact⟨_,_,rfl,rfl,o⟩)
 simp only[fzL];exact⟨_,_,rfl,q o,_,_,rfl,q o',rfl⟩
theorem owL_to{h G:List ABlk}{B:ABlk}{S:Nat→Prop}{ys xs:List AV}{ks:List Ki}{F:List Nat}(o:owL ys h ks xs F)(g:Fr S (h++[B]) G)(hS:∀ j∈F,¬S j):owL ys G ks xs F:=
 owL_fr _ _ _ _ (fun j hj=>by
  have l:=owL_lt _ _ _ _ o j hj;exact (g.2 j (by simp;omega) (hS j hj)).trans (Ba l)) o
theorem owL_tr{h G:List ABlk}{S:Nat→Prop}{ys xs:List AV}{ks:List Ki}{F:List Nat}(o:owL ys h ks xs F)(g:Fr S h G)(hS:∀ j∈F,¬S j):owL ys G ks xs F:=
 owL_fr _ _ _ _ (fun j hj=>g.2 j (owL_lt _ _ _ _ o j hj) (hS j hj)) o
theorem declOwn_ev(hγ:Gl γ)(hγ2:GlW γ){x y:AV}{l m:List UInt8}(hx:TxtA x l)(hy:TxtA y m)(hl:l.length≤140737488351232)(hm:m.length≤140737488351232):Ev Tp γ 10 [x,y] (.v (.bool true)):=by
 have hX:TxtQ x l:=hx.elim (fun h=>by rw[h.1,h.2];exact txt_nil) fun⟨b,h⟩=>by rw[h];exact txt_sl b l
 have hY:TxtQ y m:=hy.elim (fun h=>by rw[h.1,h.2];exact txt_nil) fun⟨b,h⟩=>by rw[h];exact txt_sl b m
 obtain⟨⟨px,hpx,sx⟩,lx⟩:=hX;obtain⟨⟨py,hpy,sy⟩,ly⟩:=hY;have ok1:=progO_bnd l;have ok2:=progO_bnd m;refine Ev.ofE Tryz.func10 rfl ?_;simp only[Tryz.f10,tyD,tyW,tyL,tyP8,tyO,evE,tyX,Bv,Bf,Nat.reduceAdd,Nat.reduceSub,Nat.reduceMul,Nat.reduceLT,Nat.reduceLeDiff,Nat.reduceEqDiff,reduceCtorEq,List.reduceReplicate,Int.reduceToNat,Int.reduceLE,Int.reduceLT];refine CallE.pure (CallK.intro c40 rfl (awake8_of fun l hl=>parse8N_ev hγ hγ2 true l hl) ?_);simp only[tyD,tyW,tyL,tyP8,tyO,sx,evE,tyX,Bv,Bf,Nat.reduceAdd,Nat.reduceSub,Nat.reduceMul,Nat.reduceLT,Nat.reduceLeDiff,Nat.reduceEqDiff,reduceCtorEq,List.reduceReplicate,Int.reduceToNat,Int.reduceLE,Int.reduceLT];refine⟨⟨hpx,all_one_map l,by omega⟩,?_⟩;refine CallE.intro c38 _ (parse8O_ev hγ hγ2 (byt1 [] l) hl) (fun r h1 hh=>?_) (fun v h1 hh=>by obtain⟨_,A,e,_⟩:=hh;cases e);obtain⟨T1,K1,F1,e,⟨oT1,fT1⟩,⟨oK1,fK1⟩,f1,L1,nF1,hF1,o1⟩:=ph38 (H:=[]) hh;cases e;clear hh;simp only[tyD,tyW,tyL,tyP8,tyO,oT1,fT1,oK1,fK1,sx,sy,intC,at_len,at_len1,set_len,set_len1,Bo,Bc,Bi,evE,tyX,Bv,Bf,Nat.reduceAdd,Nat.reduceSub,Nat.reduceMul,Nat.reduceLT,Nat.reduceLeDiff,Nat.reduceEqDiff,reduceCtorEq,List.reduceReplicate,Int.reduceToNat,Int.reduceLE,Int.reduceLT];refine⟨⟨hpx,all_one_map l,by omega⟩,?_⟩;refine CallE.intro c38 _ (parse8O_ev hγ hγ2 (byt2 h1 _ l) hl) (fun r h2 hh=>?_) (fun v h1 hh=>by obtain⟨_,A,e,_⟩:=hh;cases e);obtain⟨T2,K2,F2,e,⟨oT2,fT2⟩,⟨oK2,fK2⟩,f2,L2,nF2,hF2,o2⟩:=ph38b (H:=h1) hh;cases e;clear hh;simp only[tyD,tyW,tyL,tyP8,tyO,oT2,fT2,oK2,fK2,sx,sy,intC,at_len,at_len1,set_len,set_len1,Bo,Bc,Bi,evE,tyX,Bv,Bf,Nat.reduceAdd,Nat.reduceSub,Nat.reduceMul,Nat.reduceLT,Nat.reduceLeDiff,Nat.reduceEqDiff,reduceCtorEq,List.reduceReplicate,Int.reduceToNat,Int.reduceLE,Int.reduceLT];refine⟨⟨hpy,all_one_map m,by omega⟩,?_⟩;refine CallE.intro c38 _ (parse8O_ev hγ hγ2 (byt2 h2 _ m) hm) (fun r h3 hh=>?_) (fun v h1 hh=>by obtain⟨_,A,e,_⟩:=hh;cases e);obtain⟨T3,K3,F3,e,⟨oT3,fT3⟩,⟨oK3,fK3⟩,f3,L3,nF3,hF3,o3⟩:=ph38b (H:=h2) hh;cases e;clear hh;simp only[tyD,tyW,tyL,tyP8,tyO,oT3,fT3,oK3,fK3,sx,sy,intC,at_len,at_len1,set_len,set_len1,Bo,Bc,Bi,evE,tyX,Bv,Bf,Nat.reduceAdd,Nat.reduceSub,Nat.reduceMul,Nat.reduceLT,Nat.reduceLeDiff,Nat.reduceEqDiff,reduceCtorEq,List.reduceReplicate,Int.reduceToNat,Int.reduceLE,Int.reduceLT];refine⟨⟨hpx,all_one_map l,by omega⟩,?_⟩;refine CallE.intro c38 _ (parse8O_ev hγ hγ2 (byt2 h3 _ l) hl) (fun r h4 hh=>?_) (fun v h1 hh=>by obtain⟨_,A,e,_⟩:=hh;cases e);obtain⟨T4,K4,F4,e,⟨oT4,fT4⟩,⟨oK4,fK4⟩,f4,L4,nF4,hF4,o4⟩:=ph38b (H:=h3) hh;cases e;clear hh;simp only[tyD,tyW,tyL,tyP8,tyO,oT4,fT4,oK4,fK4,sx,sy,intC,at_len,at_len1,set_len,set_len1,Bo,Bc,Bi,evE,tyX,Bv,Bf,Nat.reduceAdd,Nat.reduceSub,Nat.reduceMul,Nat.reduceLT,Nat.reduceLeDiff,Nat.reduceEqDiff,reduceCtorEq,List.reduceReplicate,Int.reduceToNat,Int.reduceLE,Int.reduceLT];refine⟨⟨hpy,all_one_map m,by omega⟩,?_⟩;refine CallE.intro c30 _ (parseChordO_ev hγ hγ2 (byt2 h4 _ m) hm) (fun r h5 hh=>?_) (fun v h1 hh=>by obtain⟨_,A,e,_⟩:=hh;cases e);obtain⟨xs5,F5,e,⟨x1,x2,x3,hxs,⟨ox1,fx1⟩,⟨ox2,fx2⟩,ox3,fx3⟩,f5,L5,nF5,hF5,o5⟩:=ph30b (H:=h4) hh;cases e;subst hxs;clear hh;have hfa:∀ s,flat (strC s)=some [strC s]:=fun s=>rfl
 have hoa:∀ s,oneA (strC s)=true:=fun s=>rfl
 simp only[tyD,tyW,tyL,tyP8,tyO,hfa,hoa,ox1,ox2,ox3,fx1,fx2,fx3,intC,at_len,at_len1,set_len,set_len1,Bo,Bc,Bi,evE,tyX,Bv,Bf,Nat.reduceAdd,Nat.reduceSub,Nat.reduceMul,Nat.reduceLT,Nat.reduceLeDiff,Nat.reduceEqDiff,reduceCtorEq,List.reduceReplicate,Int.reduceToNat,Int.reduceLE,Int.reduceLT];generalize hG:h5++[(⟨0,59,[strC (chordO m).1.name,x1,x2,x3]⟩:ABlk)]=G at *;have g5:Fr NoB h5 G:=hG▸Fr.app _ _;have g4:Fr NoB (h4++[⟨0,71,[T4,K4]⟩]) G:=f5.trans g5 (fun _ (e:NoB _)=>e.elim);have g3:Fr NoB (h3++[⟨0,71,[T3,K3]⟩]) G:=(f4.trans (Fr.app (S:=NoB) _ [⟨0,71,[T4,K4]⟩]) (fun _ (e:NoB _)=>e.elim)).trans g4 (fun _ (e:NoB _)=>e.elim);have g2:Fr NoB (h2++[⟨0,71,[T2,K2]⟩]) G:=(f3.trans (Fr.app (S:=NoB) _ [⟨0,71,[T3,K3]⟩]) (fun _ (e:NoB _)=>e.elim)).trans g3 (fun _ (e:NoB _)=>e.elim);have g1:Fr NoB (h1++[⟨0,71,[T1,K1]⟩]) G:=(f2.trans (Fr.app (S:=NoB) _ [⟨0,71,[T2,K2]⟩]) (fun _ (e:NoB _)=>e.elim)).trans g2 (fun _ (e:NoB _)=>e.elim);have k1:G[h1.length]?=some ⟨0,71,[T1,K1]⟩:=g1.at (at_len _ _ _) fun e=>e
 have k2:G[h2.length]?=some ⟨0,71,[T2,K2]⟩:=g2.at (at_len _ _ _) fun e=>e
 have k3:G[h3.length]?=some ⟨0,71,[T3,K3]⟩:=g3.at (at_len _ _ _) fun e=>e
 have k4:G[h4.length]?=some ⟨0,71,[T4,K4]⟩:=g4.at (at_len _ _ _) fun e=>e
 have k5:G[h5.length]?=some ⟨0,59,[strC (chordO m).1.name,x1,x2,x3]⟩:=hG▸at_len _ _ _;have o1:=owL_to o1 g1 (fun _ _ e=>e);have o2:=owL_to o2 g2 (fun _ _ e=>e);have o3:=owL_to o3 g3 (fun _ _ e=>e);have o4:=owL_to o4 g4 (fun _ _ e=>e);have o5:=owL_tr o5 g5 (fun _ _ e=>e);have hG5:h5.length<G.length:=(Bs.1 k5).1;have lt12:h1.length+1<h2.length:=L2;have lt23:h2.length+1<h3.length:=L3;have lt34:h3.length+1<h4.length:=L4;have lt45:h4.length+1<h5.length:=L5;clear g1 g2 g3 g4 g5 hG f1 f2 f3 f4 f5;have e0:((progO l).2.2 != (progO l).2.2)=false:=by simp
 simp only[tyD,tyW,tyL,tyP8,tyO,e0,k1,k2,oT1,fT1,oK1,fK1,oT2,fT2,oK2,fK2,evE,tyX,Bv,Bf,Nat.reduceAdd,Nat.reduceSub,Nat.reduceMul,Nat.reduceLT,Nat.reduceLeDiff,Nat.reduceEqDiff,reduceCtorEq,List.reduceReplicate,Int.reduceToNat,Int.reduceLE,Int.reduceLT];refine CallE.intro c39 _ (same8 ok1 o1 o2) (fun r G hh=>?_) (fun v h1 hh=>by cases hh.1);obtain⟨e,eq⟩:=hh;cases e;subst eq;simp only[tyD,tyW,tyL,tyP8,tyO,e0,k2,k4,oT2,fT2,oK2,fK2,oT4,fT4,oK4,fK4,evE,tyX,Bv,Bf,Nat.reduceAdd,Nat.reduceSub,Nat.reduceMul,Nat.reduceLT,Nat.reduceLeDiff,Nat.reduceEqDiff,reduceCtorEq,List.reduceReplicate,Int.reduceToNat,Int.reduceLE,Int.reduceLT];refine CallE.intro c39 _ (same8 ok1 o4 o2) (fun r G hh=>?_) (fun v h1 hh=>by cases hh.1);obtain⟨e,eq⟩:=hh;cases e;subst eq;simp only[tyD,tyW,tyL,tyP8,tyO,e0,k3,oT3,fT3,oK3,fK3,evE,tyX,Bv,Bf,Nat.reduceAdd,Nat.reduceSub,Nat.reduceMul,Nat.reduceLT,Nat.reduceLeDiff,Nat.reduceEqDiff,reduceCtorEq,List.reduceReplicate,Int.reduceToNat,Int.reduceLE,Int.reduceLT];refine CallE.intro c42 _ (spoil_ev o3 nF3 ok2) (fun r G2 hh=>?_) (fun v h1 hh=>by cases hh.1);obtain⟨e,w3⟩:=hh;cases e;have w3:Fr (·∈ F3) G G2:=w3;have k1:=w3.at k1 fun e=>by have:=hF3 _ e;omega
 have k2:=w3.at k2 fun e=>by have:=hF3 _ e;omega
 have k3:=w3.at k3 fun e=>by have:=hF3 _ e;omega
 have k4:=w3.at k4 fun e=>by have:=hF3 _ e;omega
 have k5:=w3.at k5 fun e=>by have:=hF3 _ e;omega
 have o1:=owL_tr o1 w3 fun j a b=>by have:=hF3 _ b;have:=hF1 _ a;omega
 have o2:=owL_tr o2 w3 fun j a b=>by have:=hF3 _ b;have:=hF2 _ a;omega
 have o4:=owL_tr o4 w3 fun j a b=>by have:=hF3 _ b;have:=hF4 _ a;omega
 have o5:=owL_tr o5 w3 fun j a b=>by have:=hF3 _ b;have:=hF5 _ a;omega
 clear w3;simp only[tyD,tyW,tyL,tyP8,tyO,e0,k4,oT4,fT4,oK4,fK4,evE,tyX,Bv,Bf,Nat.reduceAdd,Nat.reduceSub,Nat.reduceMul,Nat.reduceLT,Nat.reduceLeDiff,Nat.reduceEqDiff,reduceCtorEq,List.reduceReplicate,Int.reduceToNat,Int.reduceLE,Int.reduceLT];refine CallE.intro c42 _ (spoil_ev o4 nF4 ok1) (fun r G3 hh=>?_) (fun v h1 hh=>by cases hh.1);obtain⟨e,w4⟩:=hh;cases e;have w4:Fr (·∈ F4) G2 G3:=w4;have k1:=w4.at k1 fun e=>by have:=hF4 _ e;omega
 have k2:=w4.at k2 fun e=>by have:=hF4 _ e;omega
 have k3:=w4.at k3 fun e=>by have:=hF4 _ e;omega
 have k4:=w4.at k4 fun e=>by have:=hF4 _ e;omega
 have k5:=w4.at k5 fun e=>by have:=hF4 _ e;omega
 have o1:=owL_tr o1 w4 fun j a b=>by have:=hF4 _ b;have:=hF1 _ a;omega
 have o2:=owL_tr o2 w4 fun j a b=>by have:=hF4 _ b;have:=hF2 _ a;omega
 have o5:=owL_tr o5 w4 fun j a b=>by have:=hF4 _ b;have:=hF5 _ a;omega
 clear w4;simp only[tyD,tyW,tyL,tyP8,tyO,e0,k5,hoa,hfa,ox1,ox2,ox3,fx1,fx2,fx3,evE,tyX,Bv,Bf,Nat.reduceAdd,Nat.reduceSub,Nat.reduceMul,Nat.reduceLT,Nat.reduceLeDiff,Nat.reduceEqDiff,reduceCtorEq,List.reduceReplicate,Int.reduceToNat,Int.reduceLE,Int.reduceLT];refine CallE.intro c43 _ (spoilChord_ev o5 nF5 (chordO_ok m)) (fun r G4 hh=>?_) (fun v h1 hh=>by cases hh.1);obtain⟨e,w5⟩:=hh;cases e;have w5:Fr (·∈ F5) G3 G4:=w5;have k1:=w5.at k1 fun e=>by have:=hF5 _ e;omega
 have k2:=w5.at k2 fun e=>by have:=hF5 _ e;omega
 have k3:=w5.at k3 fun e=>by have:=hF5 _ e;omega
 have k4:=w5.at k4 fun e=>by have:=hF5 _ e;omega
 have k5:=w5.at k5 fun e=>by have:=hF5 _ e;omega
 have o1:=owL_tr o1 w5 fun j a b=>by have:=hF5 _ b;have:=hF1 _ a;omega
 have o2:=owL_tr o2 w5 fun j a b=>by have:=hF5 _ b;have:=hF2 _ a;omega
 clear w5;simp only[tyD,tyW,tyL,tyP8,tyO,e0,k1,k2,oT1,fT1,oK1,fK1,oT2,fT2,oK2,fK2,evE,tyX,Bv,Bf,Nat.reduceAdd,Nat.reduceSub,Nat.reduceMul,Nat.reduceLT,Nat.reduceLeDiff,Nat.reduceEqDiff,reduceCtorEq,List.reduceReplicate,Int.reduceToNat,Int.reduceLE,Int.reduceLT];refine CallE.intro c39 _ (same8 ok1 o1 o2) (fun r G4 hh=>?_) (fun v h1 hh=>by cases hh.1);obtain⟨e,eq⟩:=hh;cases e;subst eq;simp only[tyD,tyW,tyL,tyP8,tyO,e0,sx,at_len,at_len1,set_len,set_len1,Bo,Bc,Bi,evE,tyX,Bv,Bf,Nat.reduceAdd,Nat.reduceSub,Nat.reduceMul,Nat.reduceLT,Nat.reduceLeDiff,Nat.reduceEqDiff,reduceCtorEq,List.reduceReplicate,Int.reduceToNat,Int.reduceLE,Int.reduceLT];refine⟨⟨hpx,all_one_map l,by omega⟩,?_⟩;refine CallE.intro c38 _ (parse8O_ev hγ hγ2 (byt1 G4 l) hl) (fun r h6 hh=>?_) (fun v h1 hh=>by obtain⟨_,A,e,_⟩:=hh;cases e);obtain⟨T6,K6,F6,e,⟨oT6,fT6⟩,⟨oK6,fK6⟩,f6,L6,nF6,hF6,o6⟩:=ph38 (H:=G4) hh;cases e;clear hh;have l4:=(Bs.1 k5).1;have k1:=f6.at k1 fun e=>e
 have k2:=f6.at k2 fun e=>e
 have o1:=owL_tr o1 f6 fun _ _ e=>e
 have o2:=owL_tr o2 f6 fun _ _ e=>e
 have a6:Fr NoB h6 (h6++[⟨0,71,[T6,K6]⟩]):=Fr.app _ _;have k1:=a6.at k1 fun e=>e
 have k2:=a6.at k2 fun e=>e
 have k6:(h6++[(⟨0,71,[T6,K6]⟩:ABlk)])[h6.length]?=some ⟨0,71,[T6,K6]⟩:=at_len _ _ _;have o1:=owL_tr o1 a6 fun _ _ e=>e
 have o2:=owL_tr o2 a6 fun _ _ e=>e
 have o6:=owL_tr o6 a6 fun _ _ e=>e
 have lF1:=hF1;have lG4:h5.length<G4.length:=l4;clear a6 f6;have e1:((progO l).2.2==(progO l).2.2)=true:=by simp
 simp only[tyD,tyW,tyL,tyP8,tyO,e0,e1,oT6,fT6,oK6,fK6,intC,at_len,at_len1,set_len,set_len1,Bo,Bc,Bi,evE,tyX,Bv,Bf,Nat.reduceAdd,Nat.reduceSub,Nat.reduceMul,Nat.reduceLT,Nat.reduceLeDiff,Nat.reduceEqDiff,reduceCtorEq,List.reduceReplicate,Int.reduceToNat,Int.reduceLE,Int.reduceLT];generalize h6++[(⟨0,71,[T6,K6]⟩:ABlk)]=G6 at *;simp only[tyD,tyW,tyL,tyP8,tyO,e0,e1,k2,k6,oT2,fT2,oK2,fK2,oT6,fT6,oK6,fK6,evE,tyX,Bv,Bf,Nat.reduceAdd,Nat.reduceSub,Nat.reduceMul,Nat.reduceLT,Nat.reduceLeDiff,Nat.reduceEqDiff,reduceCtorEq,List.reduceReplicate,Int.reduceToNat,Int.reduceLE,Int.reduceLT];refine CallE.intro c39 _ (same8 ok1 o6 o2) (fun r G6 hh=>?_) (fun v h1 hh=>by cases hh.1);obtain⟨e,eq⟩:=hh;cases e;subst eq;simp only[tyD,tyW,tyL,tyP8,tyO,e0,e1,k2,k6,oT2,fT2,oK2,fK2,oT6,fT6,oK6,fK6,evE,tyX,Bv,Bf,Nat.reduceAdd,Nat.reduceSub,Nat.reduceMul,Nat.reduceLT,Nat.reduceLeDiff,Nat.reduceEqDiff,reduceCtorEq,List.reduceReplicate,Int.reduceToNat,Int.reduceLE,Int.reduceLT];refine CallE.intro c44 _ (apart_ev o6 nF6 ok1 (progO_wt l)) (fun r G7 hh=>?_) (fun v h1 hh=>by cases hh.1);obtain⟨e,w⟩:=hh;cases e;have w:Fr (·∈ F6) G6 G7:=w;have k1:=w.at k1 fun e=>by have:=hF6 _ e;omega
 have k2:=w.at k2 fun e=>by have:=hF6 _ e;omega
 have o1:=owL_tr o1 w fun j a b=>by have:=hF6 _ b;have:=hF1 _ a;omega
 have o2:=owL_tr o2 w fun j a b=>by have:=hF6 _ b;have:=hF2 _ a;omega
 simp only[tyD,tyW,tyL,tyP8,tyO,e0,k1,k2,oT1,fT1,oK1,fK1,oT2,fT2,oK2,fK2,evE,tyX,Bv,Bf,Nat.reduceAdd,Nat.reduceSub,Nat.reduceMul,Nat.reduceLT,Nat.reduceLeDiff,Nat.reduceEqDiff,reduceCtorEq,List.reduceReplicate,Int.reduceToNat,Int.reduceLE,Int.reduceLT];refine CallE.intro c39 _ (same8 ok1 o1 o2) (fun r G8 hh=>?_) (fun v h1 hh=>by cases hh.1);obtain⟨e,eq⟩:=hh;cases e;subst eq;simp only[tyD,tyW,tyL,tyP8,tyO,e0,e1,evE,tyX,Bv,Bf,Nat.reduceAdd,Nat.reduceSub,Nat.reduceMul,Nat.reduceLT,Nat.reduceLeDiff,Nat.reduceEqDiff,reduceCtorEq,List.reduceReplicate,Int.reduceToNat,Int.reduceLE,Int.reduceLT]
end Go.Proofs.YtlobiioioicmhaaGreatDoor.O
namespace Go.Proofs.YtlobiioioicmhaaGreatDoor
open _root_.Array renaming getElem?_eq_none→BQ
open _root_.Bool renaming not_true→Bv,not_false→Bf
open _root_.List renaming getElem?_eq_some_iff→Bs,getElem?_append_left→Ba,length_append→Bp,append_assoc→Bo,cons_append→Bc,nil_append→Bi,getElem?_map→Bm,length_map→Bk,take_of_length_le→Bt,length_take→Bh,map_cons→BA,prefix_rfl→BB,length_cons→BC,length_nil→BD,flatMap_cons→BE,append_nil→BS,getElem?_take→BY
open _root_.Nat renaming le_refl→BL,le_trans→BM
open Go.Proofs.Tryz renaming prog→Tp
open Go Go.Ev Go.Lib
open Go.ChangeShapes Go.WideShapes Go.ChangeAt Go.RowKit
open Go.ChangeMaps (open_string shut_string)
set_option maxRecDepth 20000
theorem own:ownKnob Tryz.prog.godebug=none:=by kernel_rfl
theorem laidOut:laidOutB Tp=true:=by kernel_rfl
abbrev laidL:List (String×DataW Unit):=[("math/bits.deBruijn32tab",Rows.laid_math_bits_deBruijn32tab),("math/bits.deBruijn64tab",Rows.laid_math_bits_deBruijn64tab),("internal/strconv.uint64pow10",Rows.laid_internal_strconv_uint64pow10),("strconv.ErrRange",Rows.laid_strconv_ErrRange),("strconv.ErrSyntax",Rows.laid_strconv_ErrSyntax)]
def bytesOfL:DataW Unit→List Value
 |.agg ds=>ds.map fun|.lit (.int k n)=>.int k n|_=>.nilIface
 |_=>[]
abbrev txtRange:ByteArray:={ data:= #[118,97,108,117,101,32,111,117,116,32,111,102,32,114,97,110,103,101] }
abbrev txtSyntax:ByteArray:={ data:= #[105,110,118,97,108,105,100,32,115,121,110,116,97,120] }
noncomputable abbrev N0:Nat:=(World.settled Tp default).heap.size
noncomputable def laidWorld(os:Os):World:=
 let N:=(World.settled Tp os).heap.size
 let w0:=World.holding Tp os ⟨#[.cells #[.string txtRange] 308,.cells #[.string txtSyntax] 308],#[],[]⟩
 let put (h:Array Obj) (g:Nat) (cs:Array Value):Array Obj:=h.modify g fun
  |.cells _ t frozen=>.cells cs t frozen
  |o=>o
 let h1:=put w0.heap 5 (bytesOfL Rows.laid_math_bits_deBruijn32tab).toArray
 let h2:=put h1 6 (bytesOfL Rows.laid_math_bits_deBruijn64tab).toArray
 let h3:=put h2 4 (bytesOfL Rows.laid_internal_strconv_uint64pow10).toArray
 let h4:=put h3 3 #[.iface 306 (.pointer (some ⟨N,0,none⟩))]
 let h5:=put h4 2 #[.iface 306 (.pointer (some ⟨N+1,0,none⟩))]
 {w0 with heap:=h5 }
theorem pieceLaid(os:Os)(args:Array Value):LaidIn Tp ((laidWorld os).forCall (fun _ _=>0) ⟨#[],args,[]⟩).memory laidL [5,6,4,3,N0,2,N0+1]:=
 LaidIn.of_run [5,6,4,3,N0,2,N0+1] 8 (by kernel_rfl) (by kernel_rfl) (by kernel_rfl) (by kernel_rfl)
theorem laid_met(os:Os)(args:Array Value):laidMet Tp laidL ((laidWorld os).forCall (fun _ _=>0) ⟨#[],args,[]⟩).memory:=(pieceLaid os args).met
theorem errRange_cell{W:World}(h:laidMet Tp laidL W):∃ te pe,W.cell? ⟨3,0,none⟩=some (.iface te pe):=by
 have gR:Tryz.prog.globalNamed "strconv.ErrRange" = some 3:=by kernel_rfl
 obtain⟨a,s,hv,_⟩:=laid_sentinel (n := "strconv.ErrRange") (nm := "*errors.errorString") (ti:=169) (tp:=306) (te:=308) (ts:=9) h.tail.tail.tail gR (by kernel_rfl) Tryz.underlying169
  (fun u hu=>typeName_ptr_named (nm := "errors.errorString") (by kernel_rfl) (by kernel_rfl) (by decide) u hu) Tryz.underlying306 Tryz.underlying308 rfl rfl Tryz.underlying9 (by kernel_rfl) (by kernel_rfl)
 exact⟨306,.pointer (some a),by simpa using World.var?_cell gR hv 0⟩
theorem int_of_shape{P:Program}{w:World}{g:Nat}{t:TypeId}{k:IntKind}{zero:Array Value}(h:w.ShapedOpen P)(hg:g<P.globals.size)
  (h0:((begin P (fun _ _=>0) default).world.heap[g]?).bind Obj.row?=some (zero,t)) (hz:zero.size=1)
  (hb:P.buildable t=true) (hc:P.cellTypes P.depth t=some [t]) (hu:P.underlying t=some (.int k)):∃ n,w.cell? ⟨g,0,none⟩=some (.int k n):=by
 obtain⟨cs,hh,hs,hr⟩:=h.1 g zero t hg h0;obtain⟨ts,hts,_,hall⟩:=hr hb;rw[hc]at hts;cases hts;have h1:0<cs.size:=by omega
 obtain⟨u,hu',hok⟩:=hall 0 cs[0] (by simp[h1]);have:u=t:=by simpa using hu'.symm
 subst this;have hcell:w.cell? ⟨g,0,none⟩=some cs[0]:=by simp[World.cell?,hh,h1]
 rw[hcell];unfold Cell.ok at hok;rw[hu]at hok;cases hv:cs[0]<;>rw[hv]at hok<;>first|exact hok.elim|(obtain⟨rfl,_⟩:=hok;exact⟨_,rfl⟩)
theorem maxLen_cell{W:World}(h:W.ShapedOpen Tp):∃ m,W.cell? ⟨1,0,none⟩=some (.int .i64 m):=
 int_of_shape (zero:= #[.int .i64 0]) h (of_decide_eq_true (by kernel_rfl)) (by kernel_rfl) rfl (by kernel_rfl) (by kernel_rfl) Tryz.underlying3
theorem okWide_sl{P:Program}{w:World}{r:Reach}{base:Nat}{t e:TypeId}{v:Value}(ht:P.underlying t=some (.slice e))(h:Value.okWide P w r base t v):
  v=.slice none 0 0∨∃ b off len cap,v=.slice (some ⟨b,off,none⟩) len cap∧len≤cap∧b<w.heap.size:=by
 simp only[Value.okWide,ht,Cell.okWide]at h;cases v<;>simp_all [Cell.ok]
 rename_i a len cap;cases a with
 |none=>left;cases len<;>cases cap<;>simp_all
 |some a=>
  right
  have h':len≤cap∧(cap:Int)≤9223372036854775807∧World.has P w r base a e cap:=h;obtain⟨h1,_,_,hs,row,cells,hsh,_⟩:=h';obtain⟨b,off,spot⟩:=a;simp only at hs hsh;subst hs;refine⟨b,off,len,cap,⟨rfl,rfl,rfl⟩,h1,?_⟩;unfold World.shape? at hsh
  by_cases hb:b<w.heap.size
  ·exact hb
  ·rw[BQ (by omega)]at hsh;cases hsh
theorem size_ints{H:Type}{enc:TypeId×Value→H}{P:Program}{W:World}{base:Nat}{spare:Nat→Bool}{held:Bool}{t e:TypeId}{k:IntKind}{a:Option Addr}{len cap:Nat}{d:DataW H}{ps:List MemPlace}{ts:List TypeId}{ds:List (DataW H)}{j:Nat}
  (hsz:(DataW.weightsEach P ts ds).all (·≤ reachBytes)=true) (ht:ts[j]?=some t) (hd:ds[j]?=some d) (hu:P.underlying t=some (.slice e)) (he:P.underlying e=some (.int k)) (hc:P.cellsOf e=1) {B:Nat} (hB:P.bytesOf e=B)
  (h:DataW.Trod enc P W base spare held t (.slice a len cap) d ps):len * B≤140737488351232:=by
 obtain⟨fuel,hf⟩:=h
 rcases open_ints hu he hc hf with⟨hcs,_⟩|⟨x,l,c,zs,hcs,_,hl,_,hz,hx,_,_⟩
 ·simp[Value.cells]at hcs;obtain⟨rfl,rfl,rfl⟩:=hcs;simp
 ·simp[Value.cells]at hcs;obtain⟨rfl,rfl,rfl⟩:=hcs;obtain⟨hx,_⟩:=Prod.mk.inj hx;subst hx;have z:=sized_slice hsz ht hd hu;rw[hB]at z
  have hl2:len≤zs.length:=by
   rw[hz]
   split
   ·exact hl
   ·exact BL _
  have h1:(lits (H:=H) k (zs.take len)).length+(lits (H:=H) k (zs.drop len)).length=zs.length:=by
   simp[lits]
   omega
  rw[h1]at z;exact BM (Nat.mul_le_mul_right _ hl2) z
theorem rowAV{W:World}{c:Cx}(hcw:c.w=W)(hok:∀ r,r<W.heap.size→c.ok false r){v:Value}{a:Option Addr}{len cap:Nat}{zs:List Int}(hv:v=.slice a len cap)
  (hs:v=.slice none 0 0∨∃ b off len cap,v=.slice (some ⟨b,off,none⟩) len cap∧len≤cap∧b<W.heap.size)
  (hz:zs.length=cap) (hcell:∀ x,a=some x→∀ i,i<zs.length→W.cell? (x.add i)=some (.int .u8 (zs.getD i 0))) (hw:∀ n∈zs,(Lit.int .u8 n).wf=true) :
  ∃ l:List UInt8,l.length=len∧((v=.slice none 0 0∧l=[]∧rel (.v (.slice none 0 0)) c v)∨rel (.sl false l.length l.length (l.map byteC)) c v):=by
 rcases hs with rfl|⟨b,off,len',cap',rfl,h1,h2⟩
 ·cases hv;exact⟨[],rfl,.inl ⟨rfl,rfl,by simp only[rel]⟩⟩
 ·cases hv;have hl:((zs.take len).map fun n=>UInt8.ofNat n.toNat).length=len:=by rw[Bk,Bh];omega
  refine⟨(zs.take len).map fun n=>UInt8.ofNat n.toNat,hl,.inr ?_⟩;rw[hl];simp only[rel];refine⟨b,off,cap,rfl,BL _,h1,hok b h2,relAt_of_get fun j x hj=>?_⟩;simp only[List.map_map,Bm,BY]at hj
  split at hj
  ·rename_i hjl;have hjz:j<zs.length:=by omega
   have hg:zs[j]?=some zs[j]:=by simp[hjz]
   rw[hg]at hj;simp only[Option.map_some,Option.some.injEq,Function.comp]at hj;subst hj;refine⟨.int .u8 (UInt8.ofNat zs[j].toNat).toNat,?_,by simp only[byteC,rel]⟩;have:=hcell _ rfl j hjz
   have ea:(⟨b,off,none⟩:Addr).add j=⟨b,off+j,none⟩:=by
    simp only[Addr.add]
    by_cases h0:j=0
    ·subst h0;simp
    ·simp[h0]
   rw[ea]at this;rw[show c.shut.w=W from hcw,this];have hw':=hw zs[j] (List.getElem_mem hjz);have hzd:zs.getD j 0=zs[j]:=by simp[List.getD,hg]
   rw[hzd];have hb:0≤zs[j]∧zs[j]≤255:=by simpa[Lit.wf,IntKind.min,IntKind.max,IntKind.signed,IntKind.bits]using hw'
   have:((UInt8.ofNat zs[j].toNat).toNat:Int)=zs[j]:=by
    rw[UInt8.toNat_ofNat_of_lt' (by show _<256;omega)]
    omega
   rw[this]
  ·simp at hj
def gam(m:Int)(te:TypeId)(pe:Value):List (Nat×AV):=[(1,.ela false [.v (.int .i64 m)]),(3,.ela false [.v (.iface te pe)])]
theorem gam_gl(m:Int)(te:TypeId)(pe:Value):Gl (gam m te pe):=⟨⟨m,rfl⟩,te,pe,rfl⟩
theorem gam_glw(m:Int)(te:TypeId)(pe:Value):GlW (gam m te pe):=by
 intro k;unfold gam;simp only[Go.Ev.look]
 split
 ·exact .inr ⟨_,rfl⟩
 ·split
  ·exact .inr ⟨_,rfl⟩
  ·exact .inl rfl
theorem gam_ok{m:Int}{te:TypeId}{pe:Value}{W:World}(h1:W.cell? ⟨1,0,none⟩=some (.int .i64 m))(h4:W.cell? ⟨3,0,none⟩=some (.iface te pe)):glOK (gam m te pe) W:=by
 have lt:∀ g u,W.cell? ⟨g,0,none⟩=some u→g<W.heap.size:=fun g u h=>by
  by_cases hg:g<W.heap.size
  ·exact hg
  ·unfold World.cell? at h;simp only[BQ (Nat.le_of_not_lt hg)]at h;cases h
 intro k x e;unfold gam at e;simp only[Go.Ev.look]at e
 split at e
 ·rename_i hk;subst hk;simp only[AV.ela.injEq,List.cons.injEq,AV.v.injEq,and_true,true_and]at e;subst e;exact⟨lt _ _ h1,h1⟩
 ·split at e
  ·rename_i hk;subst hk;simp only[AV.ela.injEq,List.cons.injEq,AV.v.injEq,and_true,true_and]at e;subst e;exact⟨lt _ _ h4,h4⟩
  ·cases e
theorem calls_of_ev{f:FuncId}{args:List AV}{res:AV}{m:Int}{te:TypeId}{pe:Value}{W:World}{vs:Array Value}(h:Ev Tp (gam m te pe) f args res)
  (h1:W.cell? ⟨1,0,none⟩=some (.int .i64 m)) (h4:W.cell? ⟨3,0,none⟩=some (.iface te pe)) (hr:relL args (cx0 Tp (fun _=>False) (fun _=>False) W) vs.toList) :
  Calls Tp f vs W fun e w'=>∃ u,e=.returned u∧rel res (cx0 Tp (fun _=>False) (fun _=>False) w') u∧Below W.heap.size W w':=
 h _ _ W vs (fun _ h=>h.elim) (fun k=>gl_rel (c:=cx0 Tp (fun _=>False) (fun _=>False) W) (gam_glw m te pe) (gam_ok h1 h4) rfl (fun r hr=>⟨hr,fun h=>h⟩) k) hr
set_option maxRecDepth 100000 in
theorem open_txtA{H:Type}{enc:TypeId×Value→H}{W:World}{base:Nat}{v:Value}{d:DataW H}{p:List MemPlace}(hv:Value.okWide Tp W .any base 37 v)(h0:DataW.Trod enc Tp W 0 (fun _=>true) true 37 v d p):
  ∃ x l a len cap,TxtA x l∧rel x (cx0 Tp (fun _=>False) (fun _=>False) W) v∧v=.slice a len cap∧l.length=len:=by
 let c:Cx:=cx0 Tp (fun _=>False) (fun _=>False) W
 have hs0:=okWide_sl Tryz.underlying37 hv;obtain⟨a0,len0,cap0,hv0⟩:=okWide_slice Tryz.underlying37 hv;rw[hv0]at h0;obtain⟨fuel,hf⟩:=h0
 rcases open_ints Tryz.underlying37 Tryz.underlying5 (by kernel_rfl) hf with⟨hcs,_⟩|⟨x,l,cp,zs,hcs,_,hl,hm,hz,hd,hcell,hwz⟩
 ·simp[Value.cells]at hcs;obtain⟨rfl,rfl,rfl⟩:=hcs;exact⟨_,[],_,_,_,.inl ⟨rfl,rfl⟩,by simp only[rel];exact hv0,hv0,rfl⟩
 ·simp[Value.cells]at hcs;obtain⟨rfl,rfl,rfl⟩:=hcs;obtain⟨l,hl,hr⟩:=rowAV (c:=c) rfl (fun r hr=>⟨hr,by simp⟩) hv0 hs0 (by simpa using hz) (fun y hy=>by cases hy;exact hcell) hwz
  rcases hr with⟨hn,rfl,hr⟩|hr
  ·exact⟨_,[],_,_,_,.inl ⟨rfl,rfl⟩,hr,hv0,hl⟩
  ·exact⟨_,l,_,_,_,.inr ⟨false,rfl⟩,hr,hv0,hl⟩
namespace declOwn
set_option maxRecDepth 100000 in
theorem contract(H:Type)(enc:TypeId×Value→H)(W:World)(base:Nat)(args:Array Value)(ds gs:List (DataW H))(before:List MemPlace)
  (hval:∀ (j:Nat) t v,Tryz.f10.params[j]?=some t→args[j]?=some v→Value.okWide Tp W .any base t v)
  (hW:DataW.Whole enc Tp Tryz.f10.params.toList Rows.declOwnSpec.vars false W args.toList ds gs before)
  (hsz:(DataW.weightsEach Tp (Tryz.f10.params.toList++Rows.declOwnSpec.plain.varTypes Tp) (ds++gs)).all (·≤ reachBytes)=true)
  (hL:laidMet Tp laidL W) (hS:W.ShapedOpen Tp) :
  Calls Tp 10 args W fun e W'=>∃ v,e=.returned v∧Rows.declOwnSpec.post enc Tp Tryz.f10 false true false false W args v W':=by
 have hW':=hW;obtain⟨p,q,hA0,hV,rfl,hfz,hnd⟩:=hW;have hA:DataW.TrodAll enc Tp W 0 (fun _=>true) true Tryz.f10.params.toList args.toList ds p:=hA0;rw[Tryz.params10]at hA hval hsz;obtain⟨v0,vs0,d0,ds0,p0,q0,hargs,rfl,rfl,h0,r0⟩:=trodAll_cons hA;obtain⟨v1,vs1,d1,ds1,p1,q1,rfl,rfl,rfl,h1,r1⟩:=trodAll_cons r0;obtain⟨rfl,rfl,rfl⟩:=trodAll_nil r1;obtain rfl:args = #[v0,v1]:=by cases args;simp_all
 obtain⟨rfl,rfl⟩:=trodVars_none hV;have k0:=h0;have k1:=h1;have lt0:∀ x∈p0,x.block<W.heap.size:=by obtain⟨m,hm⟩:=k0;exact DataW.trod_lt m _ _ _ hm
 have lt1:∀ x∈p1,x.block<W.heap.size:=by obtain⟨m,hm⟩:=k1;exact DataW.trod_lt m _ _ _ hm
 obtain⟨x0,l0,a0,len0,cap0,hx0,hr0,hv0,hl0⟩:=open_txtA (hval 0 37 v0 rfl rfl) h0;obtain⟨x1,l1,a1,len1,cap1,hx1,hr1,hv1,hl1⟩:=open_txtA (hval 1 37 v1 rfl rfl) h1
 have y0:len0 * 1≤140737488351232:=by
  rw[hv0]at h0;exact size_ints hsz (j:=0) (t:=37) rfl rfl Tryz.underlying37 Tryz.underlying5 (by kernel_rfl) (by kernel_rfl) h0
 have y1:len1 * 1≤140737488351232:=by
  rw[hv1]at h1;exact size_ints hsz (j:=1) (t:=37) rfl rfl Tryz.underlying37 Tryz.underlying5 (by kernel_rfl) (by kernel_rfl) h1
 clear hA0 hsz;obtain⟨m,hm⟩:=maxLen_cell hS;obtain⟨te,pe,hpe⟩:=errRange_cell hL
 have hcalls:Calls Tp 10 #[v0,v1] W fun e w'=>∃ u,e=.returned u∧rel (.v (.bool true)) (cx0 Tp (fun _=>False) (fun _=>False) w') u∧Below W.heap.size W w':=by
  refine calls_of_ev (O.declOwn_ev (gam_gl m te pe) (gam_glw m te pe) hx0 hx1 (by omega) (by omega)) hm hpe ?_;simp only[relL];exact⟨_,_,rfl,hr0,_,_,rfl,hr1,rfl⟩
 refine hcalls.mono fun e W' ⟨u,he,hu,bel⟩=>?_
 simp only[rel]at hu;subst he;subst hu;exact⟨_,rfl,_,_,_,[],_,[],hW',trodAll_mk1 (shut_bool Tryz.underlying4 _),(trodAll_cons_mk (Below.trod laidOut (by kernel_rfl) (of_decide_eq_true (by kernel_rfl)) k0 bel lt0) (trodAll_cons_mk (Below.trod laidOut (by kernel_rfl) (of_decide_eq_true (by kernel_rfl)) k1 bel lt1) trodAll_mk0)),rfl,bel.frame _,fun h=>by cases h⟩
theorem witness_row(os:Os){H:Type}(enc:TypeId×Value→H):(OpenSpec.ofChange Rows.declOwnSpec).preRow enc Tp Tryz.f10 Rows.declOwnRow.domain false Rows.declOwnRow.laid ((laidWorld os).forCall (fun _ _=>0) ⟨#[],#[.slice none 0 0,.slice none 0 0],[]⟩).memory #[.slice none 0 0,.slice none 0 0]:=by
 have hw:((DataW.whole enc Tp ((laidWorld os).forCall (fun _ _=>0) ⟨#[],#[.slice none 0 0,.slice none 0 0],[]⟩).memory Tryz.f10.params.toList Rows.declOwnSpec.vars false #[Value.slice none 0 0,.slice none 0 0].toList 8).map (fun x=>(x.1,x.2.1))).isSome=true:=by kernel_rfl
 obtain⟨x,hx⟩:=Option.isSome_iff_exists.1 hw;obtain⟨⟨x1,x2,x3⟩,hx',hx1⟩:=Option.map_eq_some_iff.1 hx;exact OpenSpec.preRow_of_cond 8 hx' (by kernel_rfl) (fun k hk=>by cases hk) (by kernel_rfl) (laid_met os _)
set_option maxRecDepth 100000 in
theorem lifted(os:Os)(started:os.Started)(H:Type)(enc:TypeId×Value→H)(F:Stop.Interp):
  ReturnsInHanded {} Tryz.checked os 10 .any ((OpenSpec.ofChange Rows.declOwnSpec).preRow enc Tp Tryz.f10 Rows.declOwnRow.domain false Rows.declOwnRow.laid) (((OpenSpec.ofChange Rows.declOwnSpec).at F).post enc Tp Tryz.f10 false true false false):=by
 refine returnsInHanded_of_row (C:=Tryz.checked) (s:=OpenSpec.ofChange Rows.declOwnSpec) own started (by kernel_rfl) Tryz.func10
  (witness_row_atRef (enc:=enc) (C:=Tryz.checked) false (laidWorld os) #[.slice none 0 0,.slice none 0 0] rfl (by kernel_rfl) (by kernel_rfl) (by kernel_rfl) (witness_row os enc)) ?_
 intro W base args ds gs before hval hW _ _ hsz hL hS _;exact contract H enc W base args ds gs before hval hW hsz hL hS
theorem facts1:(Rows.declOwnRow.inPlace==Tryz.prog.inPlace 10)=true:=by kernel_rfl
theorem facts2:(Rows.declOwnRow.unfollowed==Tryz.prog.unfollowed 10)=true:=by kernel_rfl
theorem facts3:(Rows.declOwnRow.recurses==Tryz.prog.recurses 10)=true:=by kernel_rfl
theorem facts4:(Rows.declOwnRow.named==Tryz.prog.varsNamed 10)=true:=by kernel_rfl
theorem facts:joinedFacts Tp 10 Tryz.f10 (OpenSpec.ofChange Rows.declOwnSpec).bare Rows.declOwnRow=true:=by
 unfold joinedFacts;rw[facts1,facts2,facts3,facts4]
 kernel_rfl
theorem said:Rows.DeclOwnSaid:=
 OpenClaim.holds_of_cond 10 Tryz.f10 rfl rfl rfl rfl rfl rfl rfl ⟨rfl,rfl,rfl,rfl,rfl⟩ rfl rfl rfl rfl rfl (by kernel_rfl) Tryz.func10 facts
  (of_decide_eq_true (by kernel_rfl)) (by unfold Func.isWrapper;first|(rw[if_pos (by decide +kernel)];kernel_rfl)|(rw[if_neg (by decide +kernel)];exact⟨rfl,rfl⟩))
  (fun os started H enc _ F=>by rw[OpenClaim.pre_eq_preRow];exact lifted os started H enc F)
theorem plain(f:FuncId)(fn:Func)(hf:Tryz.pinned.checked.prog.funcNamed "chordmail/chordmaillaw08.DeclOwn" = some f)(hfn:Tryz.pinned.checked.prog.funcs[f]?=some fn):
  true=Tryz.pinned.checked.prog.looks []∧∀ (j:Nat) t,fn.params[j]?=some t→Tryz.pinned.checked.prog.wantsStandIn t=false:=by
 obtain rfl:f=10:=Option.some.inj ((show Tryz.prog.funcNamed "chordmail/chordmaillaw08.DeclOwn" = some 10 by kernel_rfl).symm.trans hf) |>.symm
 obtain rfl:fn=Tryz.f10:=(Option.some.inj (Tryz.func10.symm.trans hfn)).symm;refine⟨by kernel_rfl,fun j t ht=>?_⟩;rw[Tryz.params10]at ht;have hm:t=37:=by simpa using Array.mem_of_getElem? ht
 subst hm;exact (show Tryz.prog.wantsStandIn 37=false by kernel_rfl)
end declOwn
theorem declOwn_holds:Rows.DeclOwnCardSaid:=
 Claim7.holds_tied_plain_at .later [] _ _ _ _ declOwn.said (fun _ h=>by cases h) (by kernel_rfl) (fun _ h=>by cases h) declOwn_row_tie rfl ⟨rfl,rfl⟩ (by kernel_rfl) rfl declOwn.plain (by kernel_rfl)
#print axioms declOwn_holds
end Go.Proofs.YtlobiioioicmhaaGreatDoor
