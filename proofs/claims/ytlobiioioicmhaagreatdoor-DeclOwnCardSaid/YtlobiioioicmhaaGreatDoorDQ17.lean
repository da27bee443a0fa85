/- A part of the proof. -/
import Derived.Test.YtlobiioioicmhaaGreatDoorDQ16
set_option linter.all false
set_option maxHeartbeats 8000000
namespace Go.Proofs.YtlobiioioicmhaaGreatDoor.O
open _root_.Bool renaming not_true→Bv,not_false→Bf
open _root_.List renaming getElem?_eq_some_iff→Bs,getElem?_append_left→Ba,getElem?_set_self→Be,getElem?_set_ne→Bn,length_set→Bl,length_append→Bp,append_assoc→Bo,cons_append→Bc,nil_append→Bi,getElem?_cons_zero→Bz,getElem?_cons_succ→Bu,getElem?_eq_none→Bq,set_append_left→Bg,take_of_length_le→Bt,mem_singleton→Bj,length_cons→BC,length_nil→BD,getElem?_toArray→BU
open _root_.Nat renaming zero_le→BN
open Go.Proofs.Tryz renaming prog→Tp
open Go Go.Ev
set_option maxRecDepth 20000
variable {γ:List (Nat×AV)}
def mkT(i k:Nat):AV:=.v (.int .i64 (IntKind.i64.wrap (IntKind.i64.wrap (1000 * (i:Int))+(k:Int))))
def mkV(i k:Nat):AV:=.v (.string ⟨#[UInt8.ofNat (IntKind.u8.wrap (IntKind.i64.wrap (97+(i:Int).tmod 26))).toNat,UInt8.ofNat (IntKind.u8.wrap (IntKind.i64.wrap (97+(IntKind.i64.wrap ((i:Int).tdiv 26)).tmod 26))).toNat,UInt8.ofNat (IntKind.u8.wrap (IntKind.i64.wrap (97+(k:Int)))).toNat]⟩)
theorem str3(a b c:Int):strOf [.v (.int .u8 a),.v (.int .u8 b),.v (.int .u8 c)]=some (.v (.string ⟨#[UInt8.ofNat a.toNat,UInt8.ofNat b.toNat,UInt8.ofNat c.toNat]⟩)):=rfl
noncomputable def c44mT:Code:=(Tryz.f44.body.bind (pathE [1,1,1,1,1,1,0,1,2,3])).getD .skip
def moTS(γ:List (Nat×AV))(A3 A4 A5:AV)(y:Nat×List ABlk):St:=⟨⟨362,[(3,A3),(4,A4),(5,A5),(13,.v (.int .i64 (y.1:Int)))],γ⟩,y.2⟩
def miTS(γ:List (Nat×AV))(A3 A4 A5:AV)(i:Nat)(y:Nat×List ABlk):St:=⟨⟨362,[(3,A3),(4,A4),(5,A5),(13,.v (.int .i64 (i:Int))),(14,.v (.int .i64 (y.1:Int)))],γ⟩,y.2⟩
theorem mark_T{E:AV→St→Prop}{Q:Post}{l0:List (Nat×AV)}{hh:List ABlk}{n0:Nat}{A3 A4 A5:AV}{Ns:List AV}{ns:List Nat}
  (e3:Go.Ev.look l0 3=A3) (e4:Go.Ev.look l0 4=A4) (e5:Go.Ev.look l0 5=A5) (e6:Go.Ev.look l0 13=.v (.int .i64 0))
  (ar:AR 78 n0 hh A3 Ns) (fm:Fm 3 1 hh Ns ns (fun _=>0) (fun _ _ _=>True)) (hn:Ns.length≤2000000)
  (hQ:∀ l1 h1,Go.Ev.look l1 3=A3→Go.Ev.look l1 4=A4→Go.Ev.look l1 5=A5→Fr (Rw Ns) hh h1→Fm 3 1 h1 Ns ns (fun _=>0) (fun i k c=>c=mkT i k)→Q (.exit 12) ⟨⟨362,l1,γ⟩,h1⟩):LoopE (fun Q s=>kwpE Tp E c44mT Q s) Q ⟨⟨362,l0,γ⟩,hh⟩:=by
 have d0:decide (((0:Nat):Int)<0)=false:=rfl;have ne:=fm.ar ar (by decide)
 rcases ar with⟨rfl,rfl⟩|⟨jA,vA,rfl,hl0,hj0,kA⟩
 ·refine LoopE.intro (moTS γ (.v (.slice none 0 0)) A4 A5) (fun y=>y=(0,hh)) (fun y=>0) (0,hh) ⟨rfl,rfl,⟨e3,e4,e5,e6,trivial⟩,rfl⟩ rfl (fun y hy=>?_);subst hy;simp only[c44mT,Tryz.f44,pathE,Option.bind_some,Option.getD_some,moTS,tyO,d0,evE,Nat.reduceLT,Nat.reduceEqDiff,reduceCtorEq];exact hQ _ _ rfl rfl rfl (Fr.refl _ _) (fm.weak (fun i _=>rfl) fun i k n c e=>by have:=fm.len;have:=(Bs.1 e).1;simp at *;omega)
 generalize hnt:Ns.length=nt at *
 refine LoopE.intro (moTS γ (.own jA vA nt) A4 A5) (fun y=>y.1≤nt∧Fr (Rw Ns) hh y.2∧Fm 3 1 y.2 Ns ns (fun _=>0) (fun i k c=>i<y.1→c=mkT i k)) (fun y=>nt-y.1) (0,hh) ⟨rfl,rfl,⟨e3,e4,e5,e6,trivial⟩,rfl⟩
  ⟨BN _,Fr.refl _ _,fm.weak (fun i _=>rfl) fun i k n c _ _ _ h=>absurd h (Nat.not_lt_zero _)⟩ (fun y hy=>?_)
 clear fm;obtain⟨i,h1⟩:=y;obtain⟨hi,f1,fm⟩:=hy;simp only at hi f1 fm;have hjA:¬Rw Ns jA:=fun h=>ne jA h rfl
 have kA1:=f1.at kA hjA
 by_cases hlt:i<nt
 rotate_left
 ·have d1:decide (i<nt)=false:=decide_eq_false hlt;simp only[c44mT,Tryz.f44,pathE,Option.bind_some,Option.getD_some,moTS,tyO,kA1,d1,evE,Nat.reduceLT,Nat.reduceEqDiff,reduceCtorEq];refine hQ _ _ ?_ ?_ ?_ f1 (fm.weak (fun i _=>rfl) fun i' k n c e hk h=>h ?_)
  ·rfl
  ·rfl
  ·rfl
  ·have:=fm.len;have:=(Bs.1 e).1;omega
 have d1:decide (i<nt)=true:=decide_eq_true hlt;have w1:IntKind.i64.wrap ((i:Int)+1)=((i+1:Nat):Int):=(i64w (by omega) (by omega)).trans (by omega);obtain⟨N,hN⟩:∃ N,Ns[i]?=some N:=⟨Ns[i]'(by omega),List.getElem?_eq_getElem _⟩;obtain⟨n,hni⟩:∃ n,ns[i]?=some n:=⟨ns[i]'(by have:=fm.len;omega),List.getElem?_eq_getElem _⟩;have hnb:=fm.bnd n (List.mem_of_getElem? hni);simp only[c44mT,Tryz.f44,pathE,Option.bind_some,Option.getD_some,moTS,tyO,kA1,d1,evE,Nat.reduceLT,Nat.reduceEqDiff,reduceCtorEq]
 rcases fm.row i N n hN hni with⟨rfl,e0⟩|⟨j,ver,cs0,rfl,hn0',hj,hl,hc0⟩
 ·have en:n=0:=e0;subst en;refine LoopE.intro (miTS γ (.own jA vA nt) A4 A5 i) (fun y=>y=(0,h1)) (fun y=>0) (0,h1) ⟨rfl,rfl,⟨rfl,rfl,rfl,rfl,rfl,trivial⟩,rfl⟩ rfl (fun y hy=>?_);subst hy;simp only[miTS,tyD,tyO,d0,kA1,hN,w1,evE,Nat.reduceLT,Nat.reduceEqDiff,reduceCtorEq];refine⟨hlt,loopCE.intro (i+1,h1) ⟨hlt,f1,fm.weak (fun i _=>rfl) fun i' k n' c e hk h hi'=>?_⟩ ⟨rfl,rfl,⟨rfl,rfl,rfl,rfl,trivial⟩,rfl⟩ (by show nt-(i+1)<nt-i;clear w1;omega)⟩
  by_cases hii:i'=i
  ·subst hii;rw[hni]at e;cases e;omega
  ·exact h (by have hi':i'<i+1:=hi';omega)
 rw[Nat.add_zero]at hN hn0';have fm0:Fm 3 1 h1 Ns ns (fun _=>0) (fun i' k' c=>(i'<i∨(i'=i∧k'<0))→c=mkT i' k'):=fm.weak (fun i _=>rfl) fun i' k n' c e hk h h2=>h (h2.elim id fun e=>absurd e.2 (Nat.not_lt_zero _))
 refine LoopE.intro (miTS γ (.own jA vA nt) A4 A5 i) (fun y=>y.1≤n∧Fr (Rw Ns) h1 y.2∧Fm 3 1 y.2 Ns ns (fun _=>0) (fun i' k' c=>(i'<i∨(i'=i∧k'<y.1))→c=mkT i' k')) (fun y=>n-y.1) (0,h1) ⟨rfl,rfl,⟨rfl,rfl,rfl,rfl,rfl,trivial⟩,rfl⟩ ⟨BN _,Fr.refl _ _,fm0⟩ (fun y hy=>?_);clear hj hl hc0 cs0 fm0 fm;obtain⟨k,h2⟩:=y;obtain⟨hk,f2,fm⟩:=hy;simp only at hk f2 fm;have kA2:=f2.at kA1 hjA
 rcases fm.row i _ n hN hni with⟨e,_⟩|⟨j',ver',cs,e,hn1,hj,hl,_⟩
 ·cases e
 cases e;rw[Nat.add_zero]at hl
 by_cases hlt2:k<n
 ·have d2:decide (k<n)=true:=decide_eq_true hlt2;have w2:IntKind.i64.wrap ((k:Int)+1)=((k+1:Nat):Int):=(i64w (by omega) (by omega)).trans (by omega);have hkl:k+1≤cs.length:=by omega
  simp only[miTS,tyD,tyO,kA2,hN,hj,d2,hkl,w2,evE,tyX,Nat.reduceLT,Nat.reduceEqDiff,reduceCtorEq];refine⟨hlt,hlt,hlt2,loopCE.intro (k+1,_) ⟨hlt2,f2.trans (Fr.set (S:=Rw Ns) _ ⟨i,_,hN,rfl⟩) fun k e=>.inl e,?_⟩ ⟨rfl,rfl,⟨rfl,rfl,rfl,rfl,rfl,trivial⟩,rfl⟩ (by show n-(k+1)<n-k;clear w2;omega)⟩;refine fm.write hN hni hj (by rw[Bl]) (fun i' k' c hii h h2=>h (h2.imp id fun e=>absurd e.1 hii)) fun hc k' c hk' e h2=>?_
  rw[Nat.mul_one]at e
  by_cases hkk:k'=k
  ·subst hkk;rw[Be (by omega)]at e;cases e
   rfl
  ·rw[Bn (Ne.symm hkk)]at e;exact hc k' c hk' (by rw[Nat.mul_one];exact e) (h2.imp id fun h=>⟨h.1,by have:=h.2;omega⟩)
 ·have d2:decide (k<n)=false:=decide_eq_false hlt2;simp only[miTS,tyD,tyO,kA2,hN,hj,d2,w1,evE,Nat.reduceLT,Nat.reduceEqDiff,reduceCtorEq];refine⟨hlt,loopCE.intro (i+1,h2) ⟨hlt,f1.trans f2 fun k e=>.inl e,fm.weak (fun i _=>rfl) fun i' k' n' c e hk' h hi'=>?_⟩ ⟨rfl,rfl,⟨rfl,rfl,rfl,rfl,trivial⟩,rfl⟩ (by show nt-(i+1)<nt-i;clear w1;omega)⟩;have hi':i'<i+1:=hi'
  by_cases hii:i'=i
  ·subst hii;rw[hni]at e;cases e;exact h (.inr ⟨rfl,by omega⟩)
  ·exact h (.inl (by omega))
noncomputable def c44mV:Code:=(Tryz.f44.body.bind (pathE [1,1,1,1,1,1,1,0,1,2,3])).getD .skip
def moVS(γ:List (Nat×AV))(A3 A4 A5:AV)(y:Nat×List ABlk):St:=⟨⟨362,[(3,A3),(4,A4),(5,A5),(15,.v (.int .i64 (y.1:Int)))],γ⟩,y.2⟩
def miVS(γ:List (Nat×AV))(A3 A4 A5:AV)(i:Nat)(y:Nat×List ABlk):St:=⟨⟨362,[(3,A3),(4,A4),(5,A5),(15,.v (.int .i64 (i:Int))),(16,.v (.int .i64 (y.1:Int)))],γ⟩,y.2⟩
theorem mark_V{E:AV→St→Prop}{Q:Post}{l0:List (Nat×AV)}{hh:List ABlk}{n0:Nat}{A3 A4 A5:AV}{Ns:List AV}{ns:List Nat}
  (e3:Go.Ev.look l0 3=A3) (e4:Go.Ev.look l0 4=A4) (e5:Go.Ev.look l0 5=A5) (e6:Go.Ev.look l0 15=.v (.int .i64 0))
  (ar:AR 128 n0 hh A4 Ns) (fm:Fm 9 1 hh Ns ns (fun _=>0) (fun _ _ _=>True)) (hn:Ns.length≤2000000)
  (hQ:∀ l1 h1,Go.Ev.look l1 3=A3→Go.Ev.look l1 4=A4→Go.Ev.look l1 5=A5→Fr (Rw Ns) hh h1→Fm 9 1 h1 Ns ns (fun _=>0) (fun i k c=>c=mkV i k)→Q (.exit 16) ⟨⟨362,l1,γ⟩,h1⟩):LoopE (fun Q s=>kwpE Tp E c44mV Q s) Q ⟨⟨362,l0,γ⟩,hh⟩:=by
 have d0:decide (((0:Nat):Int)<0)=false:=rfl;have ne:=fm.ar ar (by decide)
 rcases ar with⟨rfl,rfl⟩|⟨jA,vA,rfl,hl0,hj0,kA⟩
 ·refine LoopE.intro (moVS γ A3 (.v (.slice none 0 0)) A5) (fun y=>y=(0,hh)) (fun y=>0) (0,hh) ⟨rfl,rfl,⟨e3,e4,e5,e6,trivial⟩,rfl⟩ rfl (fun y hy=>?_);subst hy;simp only[c44mV,Tryz.f44,pathE,Option.bind_some,Option.getD_some,moVS,tyO,d0,evE,Nat.reduceLT,Nat.reduceEqDiff,reduceCtorEq];exact hQ _ _ rfl rfl rfl (Fr.refl _ _) (fm.weak (fun i _=>rfl) fun i k n c e=>by have:=fm.len;have:=(Bs.1 e).1;simp at *;omega)
 generalize hnt:Ns.length=nt at *
 refine LoopE.intro (moVS γ A3 (.own jA vA nt) A5) (fun y=>y.1≤nt∧Fr (Rw Ns) hh y.2∧Fm 9 1 y.2 Ns ns (fun _=>0) (fun i k c=>i<y.1→c=mkV i k)) (fun y=>nt-y.1) (0,hh) ⟨rfl,rfl,⟨e3,e4,e5,e6,trivial⟩,rfl⟩
  ⟨BN _,Fr.refl _ _,fm.weak (fun i _=>rfl) fun i k n c _ _ _ h=>absurd h (Nat.not_lt_zero _)⟩ (fun y hy=>?_)
 clear fm;obtain⟨i,h1⟩:=y;obtain⟨hi,f1,fm⟩:=hy;simp only at hi f1 fm;have hjA:¬Rw Ns jA:=fun h=>ne jA h rfl
 have kA1:=f1.at kA hjA
 by_cases hlt:i<nt
 rotate_left
 ·have d1:decide (i<nt)=false:=decide_eq_false hlt;simp only[c44mV,Tryz.f44,pathE,Option.bind_some,Option.getD_some,moVS,tyO,kA1,d1,evE,Nat.reduceLT,Nat.reduceEqDiff,reduceCtorEq];refine hQ _ _ ?_ ?_ ?_ f1 (fm.weak (fun i _=>rfl) fun i' k n c e hk h=>h ?_)
  ·rfl
  ·rfl
  ·rfl
  ·have:=fm.len;have:=(Bs.1 e).1;omega
 have d1:decide (i<nt)=true:=decide_eq_true hlt;have w1:IntKind.i64.wrap ((i:Int)+1)=((i+1:Nat):Int):=(i64w (by omega) (by omega)).trans (by omega);obtain⟨N,hN⟩:∃ N,Ns[i]?=some N:=⟨Ns[i]'(by omega),List.getElem?_eq_getElem _⟩;obtain⟨n,hni⟩:∃ n,ns[i]?=some n:=⟨ns[i]'(by have:=fm.len;omega),List.getElem?_eq_getElem _⟩;have hnb:=fm.bnd n (List.mem_of_getElem? hni);simp only[c44mV,Tryz.f44,pathE,Option.bind_some,Option.getD_some,moVS,tyO,kA1,d1,evE,Nat.reduceLT,Nat.reduceEqDiff,reduceCtorEq]
 rcases fm.row i N n hN hni with⟨rfl,e0⟩|⟨j,ver,cs0,rfl,hn0',hj,hl,hc0⟩
 ·have en:n=0:=e0;subst en;refine LoopE.intro (miVS γ A3 (.own jA vA nt) A5 i) (fun y=>y=(0,h1)) (fun y=>0) (0,h1) ⟨rfl,rfl,⟨rfl,rfl,rfl,rfl,rfl,trivial⟩,rfl⟩ rfl (fun y hy=>?_);subst hy;simp only[miVS,tyD,tyO,d0,kA1,hN,w1,evE,Nat.reduceLT,Nat.reduceEqDiff,reduceCtorEq];refine⟨hlt,loopCE.intro (i+1,h1) ⟨hlt,f1,fm.weak (fun i _=>rfl) fun i' k n' c e hk h hi'=>?_⟩ ⟨rfl,rfl,⟨rfl,rfl,rfl,rfl,trivial⟩,rfl⟩ (by show nt-(i+1)<nt-i;clear w1;omega)⟩
  by_cases hii:i'=i
  ·subst hii;rw[hni]at e;cases e;omega
  ·exact h (by have hi':i'<i+1:=hi';omega)
 rw[Nat.add_zero]at hN hn0';have fm0:Fm 9 1 h1 Ns ns (fun _=>0) (fun i' k' c=>(i'<i∨(i'=i∧k'<0))→c=mkV i' k'):=fm.weak (fun i _=>rfl) fun i' k n' c e hk h h2=>h (h2.elim id fun e=>absurd e.2 (Nat.not_lt_zero _))
 refine LoopE.intro (miVS γ A3 (.own jA vA nt) A5 i) (fun y=>y.1≤n∧Fr (Rw Ns) h1 y.2∧Fm 9 1 y.2 Ns ns (fun _=>0) (fun i' k' c=>(i'<i∨(i'=i∧k'<y.1))→c=mkV i' k')) (fun y=>n-y.1) (0,h1) ⟨rfl,rfl,⟨rfl,rfl,rfl,rfl,rfl,trivial⟩,rfl⟩ ⟨BN _,Fr.refl _ _,fm0⟩ (fun y hy=>?_);clear hj hl hc0 cs0 fm0 fm;obtain⟨k,h2⟩:=y;obtain⟨hk,f2,fm⟩:=hy;simp only at hk f2 fm;have kA2:=f2.at kA1 hjA
 rcases fm.row i _ n hN hni with⟨e,_⟩|⟨j',ver',cs,e,hn1,hj,hl,_⟩
 ·cases e
 cases e;rw[Nat.add_zero]at hl
 by_cases hlt2:k<n
 ·have d2:decide (k<n)=true:=decide_eq_true hlt2;have w2:IntKind.i64.wrap ((k:Int)+1)=((k+1:Nat):Int):=(i64w (by omega) (by omega)).trans (by omega);have hkl:k+1≤cs.length:=by omega
  simp only[miVS,tyD,tyO,kA2,hN,hj,d2,evE,Nat.reduceLT,Nat.reduceEqDiff,reduceCtorEq];refine⟨hlt,?_⟩;refine DrawK.orders2 [[0,1,2,3,4,5,6,7,8,9,10,11,12,13,14,15,16,17,18,19,20]] (by kernel_rfl) (by kernel_rfl) (by kernel_rfl) (fun w hw=>?_)
  rcases Bj.1 hw with rfl
  have hjl2:=(Bs.1 hj).1;have gj:∀ l,(h2++l)[j]?=some ⟨ver,9,cs⟩:=fun l=>(Ba hjl2).trans hj
  have sj:∀ l c,(h2++l).set j c=h2.set j c++l:=fun l c=>Bg _ _ hjl2
  simp only[seqT,BU,Bu,Bz,tyD,tyO,kA2,hN,hkl,w2,gj,sj,str3,at_len,Bc,Bi,evE,tyX,Nat.reduceAdd,Nat.reduceLT,Nat.reduceLeDiff,Nat.reduceEqDiff,reduceCtorEq,List.reduceReplicate];refine⟨hlt,by decide,by decide,by decide,hlt2,loopCE.intro (k+1,_) ⟨hlt2,f2.trans ((Fr.set (S:=Rw Ns) _ ⟨i,_,hN,rfl⟩).trans (Fr.app (S:=NoB) _ _) fun k e=>e.elim) fun k e=>.inl e,?_⟩ ⟨rfl,rfl,⟨rfl,rfl,rfl,rfl,rfl,trivial⟩,rfl⟩ (by show n-(k+1)<n-k;clear w2;omega)⟩;refine Fm.fr (S:=NoB) (fm.write hN hni hj (by rw[Bl]) (fun i' k' c hii h h2=>h (h2.imp id fun e=>absurd e.1 hii)) fun hc k' c hk' e h2=>?_) (Fr.app _ _) fun k _ e=>e
  rw[Nat.mul_one]at e
  by_cases hkk:k'=k
  ·subst hkk;rw[Be (by omega)]at e;cases e
   rfl
  ·rw[Bn (Ne.symm hkk)]at e;exact hc k' c hk' (by rw[Nat.mul_one];exact e) (h2.imp id fun h=>⟨h.1,by have:=h.2;omega⟩)
 ·have d2:decide (k<n)=false:=decide_eq_false hlt2;simp only[miVS,tyD,tyO,kA2,hN,hj,d2,w1,evE,Nat.reduceLT,Nat.reduceEqDiff,reduceCtorEq];refine⟨hlt,loopCE.intro (i+1,h2) ⟨hlt,f1.trans f2 fun k e=>.inl e,fm.weak (fun i _=>rfl) fun i' k' n' c e hk' h hi'=>?_⟩ ⟨rfl,rfl,⟨rfl,rfl,rfl,rfl,trivial⟩,rfl⟩ (by show nt-(i+1)<nt-i;clear w1;omega)⟩;have hi':i'<i+1:=hi'
  by_cases hii:i'=i
  ·subst hii;rw[hni]at e;cases e;exact h (.inr ⟨rfl,by omega⟩)
  ·exact h (.inl (by omega))
noncomputable def c44mE:Code:=(Tryz.f44.body.bind (pathE [1,1,1,1,1,1,1,1,0,1,2,3])).getD .skip
def moES(γ:List (Nat×AV))(A3 A4 A5:AV)(y:Nat×List ABlk):St:=⟨⟨362,[(3,A3),(4,A4),(5,A5),(17,.v (.int .i64 (y.1:Int)))],γ⟩,y.2⟩
def miES(γ:List (Nat×AV))(A3 A4 A5:AV)(i:Nat)(y:Nat×List ABlk):St:=⟨⟨362,[(3,A3),(4,A4),(5,A5),(17,.v (.int .i64 (i:Int))),(18,.v (.int .i64 (y.1:Int)))],γ⟩,y.2⟩
theorem mark_E{E:AV→St→Prop}{Q:Post}{l0:List (Nat×AV)}{hh:List ABlk}{n0:Nat}{A3 A4 A5:AV}{Ns:List AV}{ns:List Nat}
  (e3:Go.Ev.look l0 3=A3) (e4:Go.Ev.look l0 4=A4) (e5:Go.Ev.look l0 5=A5) (e6:Go.Ev.look l0 17=.v (.int .i64 0))
  (ar:AR 39 n0 hh A5 Ns) (fm:Fm 115 9 hh Ns ns (fun _=>0) (fun _ _ _=>True)) (hn:Ns.length≤2000000)
  (hQ:∀ l1 h1,Go.Ev.look l1 3=A3→Go.Ev.look l1 4=A4→Go.Ev.look l1 5=A5→Fr (Rw Ns) hh h1→Fm 115 9 h1 Ns ns (fun _=>0) (fun i k c=>c=mkT i k)→Q (.exit 20) ⟨⟨362,l1,γ⟩,h1⟩):LoopE (fun Q s=>kwpE Tp E c44mE Q s) Q ⟨⟨362,l0,γ⟩,hh⟩:=by
 have d0:decide (((0:Nat):Int)<0)=false:=rfl;have ne:=fm.ar ar (by decide)
 rcases ar with⟨rfl,rfl⟩|⟨jA,vA,rfl,hl0,hj0,kA⟩
 ·refine LoopE.intro (moES γ A3 A4 (.v (.slice none 0 0))) (fun y=>y=(0,hh)) (fun y=>0) (0,hh) ⟨rfl,rfl,⟨e3,e4,e5,e6,trivial⟩,rfl⟩ rfl (fun y hy=>?_);subst hy;simp only[c44mE,Tryz.f44,pathE,Option.bind_some,Option.getD_some,moES,tyO,d0,evE,Nat.reduceLT,Nat.reduceEqDiff,reduceCtorEq];exact hQ _ _ rfl rfl rfl (Fr.refl _ _) (fm.weak (fun i _=>rfl) fun i k n c e=>by have:=fm.len;have:=(Bs.1 e).1;simp at *;omega)
 generalize hnt:Ns.length=nt at *
 refine LoopE.intro (moES γ A3 A4 (.own jA vA nt)) (fun y=>y.1≤nt∧Fr (Rw Ns) hh y.2∧Fm 115 9 y.2 Ns ns (fun _=>0) (fun i k c=>i<y.1→c=mkT i k)) (fun y=>nt-y.1) (0,hh) ⟨rfl,rfl,⟨e3,e4,e5,e6,trivial⟩,rfl⟩
  ⟨BN _,Fr.refl _ _,fm.weak (fun i _=>rfl) fun i k n c _ _ _ h=>absurd h (Nat.not_lt_zero _)⟩ (fun y hy=>?_)
 clear fm;obtain⟨i,h1⟩:=y;obtain⟨hi,f1,fm⟩:=hy;simp only at hi f1 fm;have hjA:¬Rw Ns jA:=fun h=>ne jA h rfl
 have kA1:=f1.at kA hjA
 by_cases hlt:i<nt
 rotate_left
 ·have d1:decide (i<nt)=false:=decide_eq_false hlt;simp only[c44mE,Tryz.f44,pathE,Option.bind_some,Option.getD_some,moES,tyO,kA1,d1,evE,Nat.reduceLT,Nat.reduceEqDiff,reduceCtorEq];refine hQ _ _ ?_ ?_ ?_ f1 (fm.weak (fun i _=>rfl) fun i' k n c e hk h=>h ?_)
  ·rfl
  ·rfl
  ·rfl
  ·have:=fm.len;have:=(Bs.1 e).1;omega
 have d1:decide (i<nt)=true:=decide_eq_true hlt;have w1:IntKind.i64.wrap ((i:Int)+1)=((i+1:Nat):Int):=(i64w (by omega) (by omega)).trans (by omega);obtain⟨N,hN⟩:∃ N,Ns[i]?=some N:=⟨Ns[i]'(by omega),List.getElem?_eq_getElem _⟩;obtain⟨n,hni⟩:∃ n,ns[i]?=some n:=⟨ns[i]'(by have:=fm.len;omega),List.getElem?_eq_getElem _⟩;have hnb:=fm.bnd n (List.mem_of_getElem? hni);simp only[c44mE,Tryz.f44,pathE,Option.bind_some,Option.getD_some,moES,tyO,kA1,d1,evE,Nat.reduceLT,Nat.reduceEqDiff,reduceCtorEq]
 rcases fm.row i N n hN hni with⟨rfl,e0⟩|⟨j,ver,cs0,rfl,hn0',hj,hl,hc0⟩
 ·have en:n=0:=e0;subst en;refine LoopE.intro (miES γ A3 A4 (.own jA vA nt) i) (fun y=>y=(0,h1)) (fun y=>0) (0,h1) ⟨rfl,rfl,⟨rfl,rfl,rfl,rfl,rfl,trivial⟩,rfl⟩ rfl (fun y hy=>?_);subst hy;simp only[miES,tyO,d0,kA1,hN,w1,evE,tyX,Nat.reduceLT,Nat.reduceEqDiff,reduceCtorEq];refine⟨hlt,loopCE.intro (i+1,h1) ⟨hlt,f1,fm.weak (fun i _=>rfl) fun i' k n' c e hk h hi'=>?_⟩ ⟨rfl,rfl,⟨rfl,rfl,rfl,rfl,trivial⟩,rfl⟩ (by show nt-(i+1)<nt-i;clear w1;omega)⟩
  by_cases hii:i'=i
  ·subst hii;rw[hni]at e;cases e;omega
  ·exact h (by have hi':i'<i+1:=hi';omega)
 rw[Nat.add_zero]at hN hn0';have fm0:Fm 115 9 h1 Ns ns (fun _=>0) (fun i' k' c=>(i'<i∨(i'=i∧k'<0))→c=mkT i' k'):=fm.weak (fun i _=>rfl) fun i' k n' c e hk h h2=>h (h2.elim id fun e=>absurd e.2 (Nat.not_lt_zero _))
 refine LoopE.intro (miES γ A3 A4 (.own jA vA nt) i) (fun y=>y.1≤n∧Fr (Rw Ns) h1 y.2∧Fm 115 9 y.2 Ns ns (fun _=>0) (fun i' k' c=>(i'<i∨(i'=i∧k'<y.1))→c=mkT i' k')) (fun y=>n-y.1) (0,h1) ⟨rfl,rfl,⟨rfl,rfl,rfl,rfl,rfl,trivial⟩,rfl⟩ ⟨BN _,Fr.refl _ _,fm0⟩ (fun y hy=>?_);clear hj hl hc0 cs0 fm0 fm;obtain⟨k,h2⟩:=y;obtain⟨hk,f2,fm⟩:=hy;simp only at hk f2 fm;have kA2:=f2.at kA1 hjA
 rcases fm.row i _ n hN hni with⟨e,_⟩|⟨j',ver',cs,e,hn1,hj,hl,_⟩
 ·cases e
 cases e;rw[Nat.add_zero]at hl
 by_cases hlt2:k<n
 ·have d2:decide (k<n)=true:=decide_eq_true hlt2;have w2:IntKind.i64.wrap ((k:Int)+1)=((k+1:Nat):Int):=(i64w (by omega) (by omega)).trans (by omega);have hkl:k * 9+9≤cs.length:=by omega
  simp only[miES,tyO,kA2,hN,hj,d2,hkl,w2,evE,tyX,Nat.reduceAdd,Nat.reduceLT,Nat.reduceLeDiff,Nat.reduceEqDiff,reduceCtorEq];refine⟨hlt,hlt,hlt2,loopCE.intro (k+1,_) ⟨hlt2,f2.trans (Fr.set (S:=Rw Ns) _ ⟨i,_,hN,rfl⟩) fun k e=>.inl e,?_⟩ ⟨rfl,rfl,⟨rfl,rfl,rfl,rfl,rfl,trivial⟩,rfl⟩ (by show n-(k+1)<n-k;clear w2;omega)⟩;refine fm.write hN hni hj (by simp only[Bl]) (fun i' k' c hii h h2=>h (h2.imp id fun e=>absurd e.1 hii)) fun hc k' c hk' e h2=>?_
  by_cases hkk:k'=k
  ·subst hkk;rw[Bn (by omega),Bn (by omega),Bn (by omega),Bn (by omega),Bn (by omega),Bn (by omega),Bn (by omega),Bn (by omega),Be (by omega)]at e;cases e
   rfl
  ·rw[Bn (by omega),Bn (by omega),Bn (by omega),Bn (by omega),Bn (by omega),Bn (by omega),Bn (by omega),Bn (by omega),Bn (by omega)]at e;exact hc k' c hk' e (h2.imp id fun h=>⟨h.1,by have:=h.2;omega⟩)
 ·have d2:decide (k<n)=false:=decide_eq_false hlt2;simp only[miES,tyO,kA2,hN,hj,d2,w1,evE,tyX,Nat.reduceLT,Nat.reduceEqDiff,reduceCtorEq];refine⟨hlt,loopCE.intro (i+1,h2) ⟨hlt,f1.trans f2 fun k e=>.inl e,fm.weak (fun i _=>rfl) fun i' k' n' c e hk' h hi'=>?_⟩ ⟨rfl,rfl,⟨rfl,rfl,rfl,rfl,trivial⟩,rfl⟩ (by show nt-(i+1)<nt-i;clear w1;omega)⟩;have hi':i'<i+1:=hi'
  by_cases hii:i'=i
  ·subst hii;rw[hni]at e;cases e;exact h (.inr ⟨rfl,by omega⟩)
  ·exact h (.inl (by omega))
theorem Fm.off{t te:TypeId}{sz:Nat}{h:List ABlk}{Ns Ms:List AV}{ns:List Nat}{ex:Nat→Nat}{P:Nat→Nat→AV→Prop}{j ver:Nat}(a:Fm t sz h Ns ns ex P)(hj:h[j]?=some ⟨ver,te,Ms⟩)(ht:t≠te):∀ k,Rw Ns k→k≠j:=fun k h1 e=>by
 obtain⟨v,c,h2⟩:=a.lt h1;subst e;rw[h2]at hj;cases hj;exact ht rfl
theorem Rw.set{Ns:List AV}{i:Nat}{N':AV}{k:Nat}(h:Rw (Ns.set i N') k):Rw Ns k∨nbk N' k:=by
 obtain⟨i',N,e,hk⟩:=h
 by_cases hii:i'=i
 ·subst hii
  by_cases hl:i'<Ns.length
  ·rw[Be hl]at e;cases e;exact .inr hk
  ·rw[Bq (by rw[Bl];omega)]at e;cases e
 ·rw[Bn (Ne.symm hii)]at e;exact .inl ⟨i',N,e,hk⟩
noncomputable def c44aT:Code:=(Tryz.f44.body.bind (pathE [1,1,1,1,1,1,1,1,1,0,1,2,3])).getD .skip
def aoTS(γ:List (Nat×AV))(A3 A4 A5:AV)(y:Nat×List ABlk):St:=⟨⟨362,[(3,A3),(4,A4),(5,A5),(19,.v (.int .i64 (y.1:Int)))],γ⟩,y.2⟩
theorem app_T{E:AV→St→Prop}{Q:Post}{l0:List (Nat×AV)}{hh:List ABlk}{n0:Nat}{A3 A4 A5:AV}{Ns:List AV}{ns:List Nat}{P:Nat→Nat→AV→Prop}
  (e3:Go.Ev.look l0 3=A3) (e4:Go.Ev.look l0 4=A4) (e5:Go.Ev.look l0 5=A5) (e6:Go.Ev.look l0 19=.v (.int .i64 0))
  (ar:AR 78 n0 hh A3 Ns) (fm:Fm 3 1 hh Ns ns (fun _=>0) P) (hn:Ns.length≤2000000)
  (hQ:∀ l1 h1 Ns',Go.Ev.look l1 3=A3→Go.Ev.look l1 4=A4→Go.Ev.look l1 5=A5→Fr (fun k=>Rw Ns k∨nbk A3 k) hh h1→AR 78 n0 h1 A3 Ns'→Fm 3 1 h1 Ns' ns (fun _=>2) P→(∀ k,Rw Ns' k→Rw Ns k∨hh.length≤k)→Q (.exit 24) ⟨⟨362,l1,γ⟩,h1⟩):LoopE (fun Q s=>kwpE Tp E c44aT Q s) Q ⟨⟨362,l0,γ⟩,hh⟩:=by
 have d0:decide (((0:Nat):Int)<0)=false:=rfl
 rcases ar with⟨rfl,rfl⟩|⟨jA,vA,rfl,hl0,hj0,kA⟩
 ·refine LoopE.intro (aoTS γ (.v (.slice none 0 0)) A4 A5) (fun y=>y=(0,hh)) (fun y=>0) (0,hh) ⟨rfl,rfl,⟨e3,e4,e5,e6,trivial⟩,rfl⟩ rfl (fun y hy=>?_);subst hy;simp only[c44aT,Tryz.f44,pathE,Option.bind_some,Option.getD_some,aoTS,tyO,d0,evE,Nat.reduceLT,Nat.reduceEqDiff,reduceCtorEq];exact hQ _ _ [] rfl rfl rfl (Fr.refl _ _) (.inl ⟨rfl,rfl⟩) (fm.weak (fun i e=>by have:=fm.len;simp at this;omega) fun i k n c e hk h=>h) fun k e=>.inl e
 generalize hnt:Ns.length=nt at *
 refine LoopE.intro (aoTS γ (.own jA vA nt) A4 A5) (fun y=>∃ Ns':List AV,y.1≤nt∧Ns'.length=nt∧Fr (fun k=>Rw Ns k∨k=jA) hh y.2∧y.2[jA]?=some ⟨vA,78,Ns'⟩∧Fm 3 1 y.2 Ns' ns (fun i'=>if i'<y.1 then 2 else 0) P∧∀ k,Rw Ns' k→Rw Ns k∨hh.length≤k) (fun y=>nt-y.1) (0,hh) ⟨rfl,rfl,⟨e3,e4,e5,e6,trivial⟩,rfl⟩
  ⟨Ns,BN _,hnt,Fr.refl _ _,kA,fm.weak (fun i _=>if_neg (Nat.not_lt_zero _)) fun i k n c _ _ h=>h,fun k e=>.inl e⟩ (fun y hy=>?_)
 clear fm kA;obtain⟨i,h1⟩:=y;obtain⟨Ms,hi,hML,f1,kA1,fm,hRw⟩:=hy;simp only at hi f1 kA1 fm;have hAl:=(Bs.1 kA1).1
 by_cases hlt:i<nt
 rotate_left
 ·have d1:decide (i<nt)=false:=decide_eq_false hlt;simp only[c44aT,Tryz.f44,pathE,Option.bind_some,Option.getD_some,aoTS,tyO,kA1,d1,evE,Nat.reduceLT,Nat.reduceEqDiff,reduceCtorEq];refine hQ _ _ Ms ?_ ?_ ?_ f1 (.inr ⟨jA,vA,by rw[hML],by rw[hML];exact hl0,hj0,kA1⟩) (fm.weak (fun i' h=>(if_pos ?_).symm) fun i' k n c e hk h=>h) hRw
  ·rfl
  ·rfl
  ·rfl
  ·have:=fm.len;omega
 have d1:decide (i<nt)=true:=decide_eq_true hlt;have w1:IntKind.i64.wrap ((i:Int)+1)=((i+1:Nat):Int):=(i64w (by omega) (by omega)).trans (by omega);obtain⟨N,hN⟩:∃ N,Ms[i]?=some N:=⟨Ms[i]'(by omega),List.getElem?_eq_getElem _⟩;obtain⟨n,hni⟩:∃ n,ns[i]?=some n:=⟨ns[i]'(by have:=fm.len;omega),List.getElem?_eq_getElem _⟩;have hnb:=fm.bnd n (List.mem_of_getElem? hni);have gA:∀ l,(h1++l)[jA]?=some ⟨vA,78,Ms⟩:=fun l=>(Ba hAl).trans kA1
 have sA:∀ l c,(h1++l).set jA c=h1.set jA c++l:=fun l c=>Bg _ _ hAl
 have hle:i+1≤nt:=hlt;have offA:=fm.off kA1 (by decide);have hf1:=f1.1
 have hex:∀ i',i'≠i→(if i'<i+1 then 2 else 0)=(if i'<i then 2 else 0):=fun i' h=>by
  by_cases h1:i'<i
  ·rw[if_pos h1,if_pos (by omega)]
  ·rw[if_neg h1,if_neg (by omega)]
 have hexi:(if i<i+1 then 2 else 0)=2:=if_pos (by omega)
 rcases fm.row i N n hN hni with⟨rfl,e0⟩|⟨j,ver,cs,rfl,hn0',hj,hl,hP⟩
 ·rw[if_neg (Nat.lt_irrefl _)]at e0;have en:n=0:=e0;subst en;simp only[c44aT,Tryz.f44,pathE,Option.bind_some,Option.getD_some,aoTS,tyD,tyO,kA1,gA,sA,hML,hN,d1,hle,w1,at_len,Bo,Bc,Bi,evE,Nat.reduceAdd,Nat.reduceMul,Nat.reduceLT,Nat.reduceLeDiff,Nat.reduceEqDiff,reduceCtorEq,List.reduceReplicate];refine⟨hlt,hlt,loopCE.intro (i+1,_) ⟨Ms.set i (.own (h1.length+1) 0 2),hle,by rw[Bl];exact hML,?_,?_,?_,?_⟩ ⟨rfl,rfl,⟨rfl,rfl,rfl,rfl,trivial⟩,rfl⟩ (by show nt-(i+1)<nt-i;clear w1;omega)⟩
  ·exact f1.trans ((Fr.set (S:=fun k=>Rw Ns k∨k=jA) _ (.inr rfl)).trans (Fr.app (S:=NoB) _ _) fun k e=>e.elim) fun k e=>.inl e
  ·exact (Ba (by rw[Bl];exact hAl)).trans (Be hAl)
  ·show Fm 3 1 _ _ _ _ _
   rw[←sA];refine Fm.fr (S:=IsI jA) (fm.repl (h':=h1++[⟨0,3,[.v (.int .i64 (-1)),.v (.int .i64 (-2))]⟩,⟨0,3,[.v (.int .i64 (-1)),.v (.int .i64 (-2))]⟩]) (N':=.own (h1.length+1) 0 2) hN hni (Fr.app _ _) (fun k e=>.inr (by have e:k=h1.length+1:=e;omega)) hex ?_) (Fr.set (S:=IsI jA) _ rfl) fun k e e2=>?_
   ·rw[hexi];exact⟨h1.length+1,0,_,rfl,by decide,at_len1 _ _ _ _,rfl,fun k c hk=>absurd hk (Nat.not_lt_zero _)⟩
   ·have e2:k=jA:=e2
    rcases e.set with e|e
    ·exact offA k e e2
    ·have e:k=h1.length+1:=e;omega
  ·intro k e
   rcases e.set with e|e
   ·exact hRw k e
   ·exact .inr (by have e:k=h1.length+1:=e;omega)
 ·rw[if_neg (Nat.lt_irrefl _),Nat.add_zero]at hN hn0' hl;have hjl:=(Bs.1 hj).1;have hjA:j≠jA:=offA j ⟨i,_,hN,rfl⟩;have gj:∀ l,(h1++l)[j]?=some ⟨ver,3,cs⟩:=fun l=>(Ba hjl).trans hj
  have sj:∀ l c,(h1++l).set j c=h1.set j c++l:=fun l c=>Bg _ _ hjl
  have gA2:∀ l d,(h1.set j d++l)[jA]?=some ⟨vA,78,Ms⟩:=fun l d=>(Ba (by rw[Bl];exact hAl)).trans ((Bn hjA).trans kA1)
  have sA2:∀ l d c,(h1.set j d++l).set jA c=(h1.set j d).set jA c++l:=fun l d c=>Bg _ _ (by rw[Bl];exact hAl)
  have q4:List.take n cs=cs:=Bt (by omega);have q6:n≤cs.length:=by omega
  simp only[c44aT,Tryz.f44,pathE,Option.bind_some,Option.getD_some,aoTS,tyD,tyO,kA1,gj,sj,gA2,sA2,hML,hN,d1,hle,q4,q6,w1,at_len,Bc,Bi,evE,Nat.reduceAdd,Nat.reduceLT,Nat.reduceLeDiff,Nat.reduceEqDiff,reduceCtorEq,List.reduceReplicate];refine⟨hlt,by clear w1;omega,hlt,loopCE.intro (i+1,_) ⟨Ms.set i (.own j (ver+1) (n+2)),hle,by rw[Bl];exact hML,?_,?_,?_,?_⟩ ⟨rfl,rfl,⟨rfl,rfl,rfl,rfl,trivial⟩,rfl⟩ (by show nt-(i+1)<nt-i;clear w1;omega)⟩
  ·have hW:Rw Ns j∨hh.length≤j:=hRw j ⟨i,_,hN,rfl⟩;refine f1.trans (((Fr.set (S:=fun k=>k=j∨k=jA) _ (.inl rfl)).trans (Fr.set (S:=fun k=>k=j∨k=jA) _ (.inr rfl)) fun k e=>.inl e).trans (Fr.app (S:=NoB) _ _) fun k e=>e.elim) fun k e=>?_
   rcases e with rfl|e
   ·exact hW.imp .inl id
   ·exact .inl (.inr e)
  ·exact (Ba (by rw[Bl,Bl];exact hAl)).trans (Be (by rw[Bl];exact hAl))
  ·show Fm 3 1 _ _ _ _ _
   rw[←sA2];refine Fm.fr (S:=IsI jA) (fm.repl (h':=h1.set j ⟨ver+1,3,cs++[.v (.int .i64 (-1)),.v (.int .i64 (-2))]⟩++[⟨0,3,[.v (.int .i64 (-1)),.v (.int .i64 (-2))]⟩]) (N':=.own j (ver+1) (n+2)) hN hni ((Fr.set (S:=nbk (.own j ver n)) _ rfl).trans (Fr.app (S:=NoB) _ _) fun k e=>e.elim) (fun k e=>.inl e) hex ?_) (Fr.set (S:=IsI jA) _ rfl) fun k e e2=>?_
   ·rw[hexi];refine⟨j,ver+1,_,rfl,by omega,(Ba (by rw[Bl];exact hjl)).trans (Be hjl),by rw[Bp,hl];simp only[BC,BD];omega,fun k c hk e=>hP k c hk ?_⟩
    rwa [Ba (by omega)]at e
   ·have e2:k=jA:=e2
    rcases e.set with e|e
    ·exact offA k e e2
    ·exact hjA ((show k=j from e).symm.trans e2)
  ·intro k e
   rcases e.set with e|e
   ·exact hRw k e
   ·exact hRw k ⟨i,_,hN,e⟩
noncomputable def c44aV:Code:=(Tryz.f44.body.bind (pathE [1,1,1,1,1,1,1,1,1,1,0,1,2,3])).getD .skip
def aoVS(γ:List (Nat×AV))(A3 A4 A5:AV)(y:Nat×List ABlk):St:=⟨⟨362,[(3,A3),(4,A4),(5,A5),(20,.v (.int .i64 (y.1:Int)))],γ⟩,y.2⟩
theorem app_V{E:AV→St→Prop}{Q:Post}{l0:List (Nat×AV)}{hh:List ABlk}{n0:Nat}{A3 A4 A5:AV}{Ns:List AV}{ns:List Nat}{P:Nat→Nat→AV→Prop}
  (e3:Go.Ev.look l0 3=A3) (e4:Go.Ev.look l0 4=A4) (e5:Go.Ev.look l0 5=A5) (e6:Go.Ev.look l0 20=.v (.int .i64 0))
  (ar:AR 128 n0 hh A4 Ns) (fm:Fm 9 1 hh Ns ns (fun _=>0) P) (hn:Ns.length≤2000000)
  (hQ:∀ l1 h1 Ns',Go.Ev.look l1 3=A3→Go.Ev.look l1 4=A4→Go.Ev.look l1 5=A5→Fr (fun k=>Rw Ns k∨nbk A4 k) hh h1→AR 128 n0 h1 A4 Ns'→Fm 9 1 h1 Ns' ns (fun _=>2) P→(∀ k,Rw Ns' k→Rw Ns k∨hh.length≤k)→Q (.exit 26) ⟨⟨362,l1,γ⟩,h1⟩):LoopE (fun Q s=>kwpE Tp E c44aV Q s) Q ⟨⟨362,l0,γ⟩,hh⟩:=by
 have d0:decide (((0:Nat):Int)<0)=false:=rfl
 rcases ar with⟨rfl,rfl⟩|⟨jA,vA,rfl,hl0,hj0,kA⟩
 ·refine LoopE.intro (aoVS γ A3 (.v (.slice none 0 0)) A5) (fun y=>y=(0,hh)) (fun y=>0) (0,hh) ⟨rfl,rfl,⟨e3,e4,e5,e6,trivial⟩,rfl⟩ rfl (fun y hy=>?_);subst hy;simp only[c44aV,Tryz.f44,pathE,Option.bind_some,Option.getD_some,aoVS,tyO,d0,evE,Nat.reduceLT,Nat.reduceEqDiff,reduceCtorEq];exact hQ _ _ [] rfl rfl rfl (Fr.refl _ _) (.inl ⟨rfl,rfl⟩) (fm.weak (fun i e=>by have:=fm.len;simp at this;omega) fun i k n c e hk h=>h) fun k e=>.inl e
 generalize hnt:Ns.length=nt at *
 refine LoopE.intro (aoVS γ A3 (.own jA vA nt) A5) (fun y=>∃ Ns':List AV,y.1≤nt∧Ns'.length=nt∧Fr (fun k=>Rw Ns k∨k=jA) hh y.2∧y.2[jA]?=some ⟨vA,128,Ns'⟩∧Fm 9 1 y.2 Ns' ns (fun i'=>if i'<y.1 then 2 else 0) P∧∀ k,Rw Ns' k→Rw Ns k∨hh.length≤k) (fun y=>nt-y.1) (0,hh) ⟨rfl,rfl,⟨e3,e4,e5,e6,trivial⟩,rfl⟩
  ⟨Ns,BN _,hnt,Fr.refl _ _,kA,fm.weak (fun i _=>if_neg (Nat.not_lt_zero _)) fun i k n c _ _ h=>h,fun k e=>.inl e⟩ (fun y hy=>?_)
 clear fm kA;obtain⟨i,h1⟩:=y;obtain⟨Ms,hi,hML,f1,kA1,fm,hRw⟩:=hy;simp only at hi f1 kA1 fm;have hAl:=(Bs.1 kA1).1
 by_cases hlt:i<nt
 rotate_left
 ·have d1:decide (i<nt)=false:=decide_eq_false hlt;simp only[c44aV,Tryz.f44,pathE,Option.bind_some,Option.getD_some,aoVS,tyO,kA1,d1,evE,Nat.reduceLT,Nat.reduceEqDiff,reduceCtorEq];refine hQ _ _ Ms ?_ ?_ ?_ f1 (.inr ⟨jA,vA,by rw[hML],by rw[hML];exact hl0,hj0,kA1⟩) (fm.weak (fun i' h=>(if_pos ?_).symm) fun i' k n c e hk h=>h) hRw
  ·rfl
  ·rfl
  ·rfl
  ·have:=fm.len;omega
 have d1:decide (i<nt)=true:=decide_eq_true hlt;have w1:IntKind.i64.wrap ((i:Int)+1)=((i+1:Nat):Int):=(i64w (by omega) (by omega)).trans (by omega);obtain⟨N,hN⟩:∃ N,Ms[i]?=some N:=⟨Ms[i]'(by omega),List.getElem?_eq_getElem _⟩;obtain⟨n,hni⟩:∃ n,ns[i]?=some n:=⟨ns[i]'(by have:=fm.len;omega),List.getElem?_eq_getElem _⟩;have hnb:=fm.bnd n (List.mem_of_getElem? hni);have gA:∀ l,(h1++l)[jA]?=some ⟨vA,128,Ms⟩:=fun l=>(Ba hAl).trans kA1
 have sA:∀ l c,(h1++l).set jA c=h1.set jA c++l:=fun l c=>Bg _ _ hAl
 have hle:i+1≤nt:=hlt;have offA:=fm.off kA1 (by decide);have hf1:=f1.1
 have hex:∀ i',i'≠i→(if i'<i+1 then 2 else 0)=(if i'<i then 2 else 0):=fun i' h=>by
  by_cases h1:i'<i
  ·rw[if_pos h1,if_pos (by omega)]
  ·rw[if_neg h1,if_neg (by omega)]
 have hexi:(if i<i+1 then 2 else 0)=2:=if_pos (by omega)
 rcases fm.row i N n hN hni with⟨rfl,e0⟩|⟨j,ver,cs,rfl,hn0',hj,hl,hP⟩
 ·rw[if_neg (Nat.lt_irrefl _)]at e0;have en:n=0:=e0;subst en;simp only[c44aV,Tryz.f44,pathE,Option.bind_some,Option.getD_some,aoVS,tyD,tyO,kA1,gA,sA,hML,hN,d1,hle,w1,at_len,Bo,Bc,Bi,evE,Nat.reduceAdd,Nat.reduceMul,Nat.reduceLT,Nat.reduceLeDiff,Nat.reduceEqDiff,reduceCtorEq,List.reduceReplicate];refine⟨hlt,hlt,loopCE.intro (i+1,_) ⟨Ms.set i (.own (h1.length+1) 0 2),hle,by rw[Bl];exact hML,?_,?_,?_,?_⟩ ⟨rfl,rfl,⟨rfl,rfl,rfl,rfl,trivial⟩,rfl⟩ (by show nt-(i+1)<nt-i;clear w1;omega)⟩
  ·exact f1.trans ((Fr.set (S:=fun k=>Rw Ns k∨k=jA) _ (.inr rfl)).trans (Fr.app (S:=NoB) _ _) fun k e=>e.elim) fun k e=>.inl e
  ·exact (Ba (by rw[Bl];exact hAl)).trans (Be hAl)
  ·show Fm 9 1 _ _ _ _ _
   rw[←sA];refine Fm.fr (S:=IsI jA) (fm.repl (h':=h1++[⟨0,9,[.v (.string ⟨#[]⟩),.v (.string ⟨#[]⟩)]⟩,⟨0,9,[.v (.string ⟨#[]⟩),.v (.string ⟨#[]⟩)]⟩]) (N':=.own (h1.length+1) 0 2) hN hni (Fr.app _ _) (fun k e=>.inr (by have e:k=h1.length+1:=e;omega)) hex ?_) (Fr.set (S:=IsI jA) _ rfl) fun k e e2=>?_
   ·rw[hexi];exact⟨h1.length+1,0,_,rfl,by decide,at_len1 _ _ _ _,rfl,fun k c hk=>absurd hk (Nat.not_lt_zero _)⟩
   ·have e2:k=jA:=e2
    rcases e.set with e|e
    ·exact offA k e e2
    ·have e:k=h1.length+1:=e;omega
  ·intro k e
   rcases e.set with e|e
   ·exact hRw k e
   ·exact .inr (by have e:k=h1.length+1:=e;omega)
 ·rw[if_neg (Nat.lt_irrefl _),Nat.add_zero]at hN hn0' hl;have hjl:=(Bs.1 hj).1;have hjA:j≠jA:=offA j ⟨i,_,hN,rfl⟩;have gj:∀ l,(h1++l)[j]?=some ⟨ver,9,cs⟩:=fun l=>(Ba hjl).trans hj
  have sj:∀ l c,(h1++l).set j c=h1.set j c++l:=fun l c=>Bg _ _ hjl
  have gA2:∀ l d,(h1.set j d++l)[jA]?=some ⟨vA,128,Ms⟩:=fun l d=>(Ba (by rw[Bl];exact hAl)).trans ((Bn hjA).trans kA1)
  have sA2:∀ l d c,(h1.set j d++l).set jA c=(h1.set j d).set jA c++l:=fun l d c=>Bg _ _ (by rw[Bl];exact hAl)
  have q4:List.take n cs=cs:=Bt (by omega);have q6:n≤cs.length:=by omega
  simp only[c44aV,Tryz.f44,pathE,Option.bind_some,Option.getD_some,aoVS,tyD,tyO,kA1,gj,sj,gA2,sA2,hML,hN,d1,hle,q4,q6,w1,at_len,Bc,Bi,evE,Nat.reduceAdd,Nat.reduceLT,Nat.reduceLeDiff,Nat.reduceEqDiff,reduceCtorEq,List.reduceReplicate];refine⟨hlt,by clear w1;omega,hlt,loopCE.intro (i+1,_) ⟨Ms.set i (.own j (ver+1) (n+2)),hle,by rw[Bl];exact hML,?_,?_,?_,?_⟩ ⟨rfl,rfl,⟨rfl,rfl,rfl,rfl,trivial⟩,rfl⟩ (by show nt-(i+1)<nt-i;clear w1;omega)⟩
  ·have hW:Rw Ns j∨hh.length≤j:=hRw j ⟨i,_,hN,rfl⟩;refine f1.trans (((Fr.set (S:=fun k=>k=j∨k=jA) _ (.inl rfl)).trans (Fr.set (S:=fun k=>k=j∨k=jA) _ (.inr rfl)) fun k e=>.inl e).trans (Fr.app (S:=NoB) _ _) fun k e=>e.elim) fun k e=>?_
   rcases e with rfl|e
   ·exact hW.imp .inl id
   ·exact .inl (.inr e)
  ·exact (Ba (by rw[Bl,Bl];exact hAl)).trans (Be (by rw[Bl];exact hAl))
  ·show Fm 9 1 _ _ _ _ _
   rw[←sA2];refine Fm.fr (S:=IsI jA) (fm.repl (h':=h1.set j ⟨ver+1,9,cs++[.v (.string ⟨#[]⟩),.v (.string ⟨#[]⟩)]⟩++[⟨0,9,[.v (.string ⟨#[]⟩),.v (.string ⟨#[]⟩)]⟩]) (N':=.own j (ver+1) (n+2)) hN hni ((Fr.set (S:=nbk (.own j ver n)) _ rfl).trans (Fr.app (S:=NoB) _ _) fun k e=>e.elim) (fun k e=>.inl e) hex ?_) (Fr.set (S:=IsI jA) _ rfl) fun k e e2=>?_
   ·rw[hexi];refine⟨j,ver+1,_,rfl,by omega,(Ba (by rw[Bl];exact hjl)).trans (Be hjl),by rw[Bp,hl];simp only[BC,BD];omega,fun k c hk e=>hP k c hk ?_⟩
    rwa [Ba (by omega)]at e
   ·have e2:k=jA:=e2
    rcases e.set with e|e
    ·exact offA k e e2
    ·exact hjA ((show k=j from e).symm.trans e2)
  ·intro k e
   rcases e.set with e|e
   ·exact hRw k e
   ·exact hRw k ⟨i,_,hN,e⟩
noncomputable def c44aE:Code:=(Tryz.f44.body.bind (pathE [1,1,1,1,1,1,1,1,1,1,1,0,1,2,3])).getD .skip
def aoES(γ:List (Nat×AV))(A3 A4 A5:AV)(y:Nat×List ABlk):St:=⟨⟨362,[(3,A3),(4,A4),(5,A5),(21,.v (.int .i64 (y.1:Int)))],γ⟩,y.2⟩
theorem app_E{E:AV→St→Prop}{Q:Post}{l0:List (Nat×AV)}{hh:List ABlk}{n0:Nat}{A3 A4 A5:AV}{Ns:List AV}{ns:List Nat}{P:Nat→Nat→AV→Prop}
  (e3:Go.Ev.look l0 3=A3) (e4:Go.Ev.look l0 4=A4) (e5:Go.Ev.look l0 5=A5) (e6:Go.Ev.look l0 21=.v (.int .i64 0))
  (ar:AR 39 n0 hh A5 Ns) (fm:Fm 115 9 hh Ns ns (fun _=>0) P) (hn:Ns.length≤2000000)
  (hQ:∀ l1 h1 Ns',Go.Ev.look l1 3=A3→Go.Ev.look l1 4=A4→Go.Ev.look l1 5=A5→Fr (fun k=>Rw Ns k∨nbk A5 k) hh h1→AR 39 n0 h1 A5 Ns'→Fm 115 9 h1 Ns' ns (fun _=>2) P→(∀ k,Rw Ns' k→Rw Ns k∨hh.length≤k)→Q (.exit 28) ⟨⟨362,l1,γ⟩,h1⟩):LoopE (fun Q s=>kwpE Tp E c44aE Q s) Q ⟨⟨362,l0,γ⟩,hh⟩:=by
 have d0:decide (((0:Nat):Int)<0)=false:=rfl
 rcases ar with⟨rfl,rfl⟩|⟨jA,vA,rfl,hl0,hj0,kA⟩
 ·refine LoopE.intro (aoES γ A3 A4 (.v (.slice none 0 0))) (fun y=>y=(0,hh)) (fun y=>0) (0,hh) ⟨rfl,rfl,⟨e3,e4,e5,e6,trivial⟩,rfl⟩ rfl (fun y hy=>?_);subst hy;simp only[c44aE,Tryz.f44,pathE,Option.bind_some,Option.getD_some,aoES,tyO,d0,evE,Nat.reduceLT,Nat.reduceEqDiff,reduceCtorEq];exact hQ _ _ [] rfl rfl rfl (Fr.refl _ _) (.inl ⟨rfl,rfl⟩) (fm.weak (fun i e=>by have:=fm.len;simp at this;omega) fun i k n c e hk h=>h) fun k e=>.inl e
 generalize hnt:Ns.length=nt at *
 refine LoopE.intro (aoES γ A3 A4 (.own jA vA nt)) (fun y=>∃ Ns':List AV,y.1≤nt∧Ns'.length=nt∧Fr (fun k=>Rw Ns k∨k=jA) hh y.2∧y.2[jA]?=some ⟨vA,39,Ns'⟩∧Fm 115 9 y.2 Ns' ns (fun i'=>if i'<y.1 then 2 else 0) P∧∀ k,Rw Ns' k→Rw Ns k∨hh.length≤k) (fun y=>nt-y.1) (0,hh) ⟨rfl,rfl,⟨e3,e4,e5,e6,trivial⟩,rfl⟩
  ⟨Ns,BN _,hnt,Fr.refl _ _,kA,fm.weak (fun i _=>if_neg (Nat.not_lt_zero _)) fun i k n c _ _ h=>h,fun k e=>.inl e⟩ (fun y hy=>?_)
 clear fm kA;obtain⟨i,h1⟩:=y;obtain⟨Ms,hi,hML,f1,kA1,fm,hRw⟩:=hy;simp only at hi f1 kA1 fm;have hAl:=(Bs.1 kA1).1
 by_cases hlt:i<nt
 rotate_left
 ·have d1:decide (i<nt)=false:=decide_eq_false hlt;simp only[c44aE,Tryz.f44,pathE,Option.bind_some,Option.getD_some,aoES,tyO,kA1,d1,evE,Nat.reduceLT,Nat.reduceEqDiff,reduceCtorEq];refine hQ _ _ Ms ?_ ?_ ?_ f1 (.inr ⟨jA,vA,by rw[hML],by rw[hML];exact hl0,hj0,kA1⟩) (fm.weak (fun i' h=>(if_pos ?_).symm) fun i' k n c e hk h=>h) hRw
  ·rfl
  ·rfl
  ·rfl
  ·have:=fm.len;omega
 have d1:decide (i<nt)=true:=decide_eq_true hlt;have w1:IntKind.i64.wrap ((i:Int)+1)=((i+1:Nat):Int):=(i64w (by omega) (by omega)).trans (by omega);obtain⟨N,hN⟩:∃ N,Ms[i]?=some N:=⟨Ms[i]'(by omega),List.getElem?_eq_getElem _⟩;obtain⟨n,hni⟩:∃ n,ns[i]?=some n:=⟨ns[i]'(by have:=fm.len;omega),List.getElem?_eq_getElem _⟩;have hnb:=fm.bnd n (List.mem_of_getElem? hni);have gA:∀ l,(h1++l)[jA]?=some ⟨vA,39,Ms⟩:=fun l=>(Ba hAl).trans kA1
 have sA:∀ l c,(h1++l).set jA c=h1.set jA c++l:=fun l c=>Bg _ _ hAl
 have hle:i+1≤nt:=hlt;have offA:=fm.off kA1 (by decide);have hf1:=f1.1
 have hex:∀ i',i'≠i→(if i'<i+1 then 2 else 0)=(if i'<i then 2 else 0):=fun i' h=>by
  by_cases h1:i'<i
  ·rw[if_pos h1,if_pos (by omega)]
  ·rw[if_neg h1,if_neg (by omega)]
 have hexi:(if i<i+1 then 2 else 0)=2:=if_pos (by omega)
 rcases fm.row i N n hN hni with⟨rfl,e0⟩|⟨j,ver,cs,rfl,hn0',hj,hl,hP⟩
 ·rw[if_neg (Nat.lt_irrefl _)]at e0;have en:n=0:=e0;subst en;simp only[c44aE,Tryz.f44,pathE,Option.bind_some,Option.getD_some,aoES,tyO,kA1,gA,sA,hML,hN,d1,hle,w1,at_len,Bo,Bc,Bi,evE,tyX,Nat.reduceAdd,Nat.reduceMul,Nat.reduceLT,Nat.reduceLeDiff,Nat.reduceEqDiff,reduceCtorEq,List.reduceReplicate];refine⟨hlt,hlt,loopCE.intro (i+1,_) ⟨Ms.set i (.own (h1.length+1) 0 2),hle,by rw[Bl];exact hML,?_,?_,?_,?_⟩ ⟨rfl,rfl,⟨rfl,rfl,rfl,rfl,trivial⟩,rfl⟩ (by show nt-(i+1)<nt-i;clear w1;omega)⟩
  ·exact f1.trans ((Fr.set (S:=fun k=>Rw Ns k∨k=jA) _ (.inr rfl)).trans (Fr.app (S:=NoB) _ _) fun k e=>e.elim) fun k e=>.inl e
  ·exact (Ba (by rw[Bl];exact hAl)).trans (Be hAl)
  ·show Fm 115 9 _ _ _ _ _
   rw[←sA];refine Fm.fr (S:=IsI jA) (fm.repl (h':=h1++[⟨0,115,[.v (.int .i64 (-1)),.v (.int .i64 0),.v (.int .i64 0),.v (.string ⟨#[]⟩),.v (.int .i64 0),.v (.int .i64 0),.v (.float .f64 0),.v (.complex .f64 0 0),.v (.string ⟨#[]⟩),.v (.int .i64 (-2)),.v (.int .i64 0),.v (.int .i64 0),.v (.string ⟨#[]⟩),.v (.int .i64 0),.v (.int .i64 0),.v (.float .f64 0),.v (.complex .f64 0 0),.v (.string ⟨#[]⟩)]⟩,⟨0,115,[.v (.int .i64 (-1)),.v (.int .i64 0),.v (.int .i64 0),.v (.string ⟨#[]⟩),.v (.int .i64 0),.v (.int .i64 0),.v (.float .f64 0),.v (.complex .f64 0 0),.v (.string ⟨#[]⟩),.v (.int .i64 (-2)),.v (.int .i64 0),.v (.int .i64 0),.v (.string ⟨#[]⟩),.v (.int .i64 0),.v (.int .i64 0),.v (.float .f64 0),.v (.complex .f64 0 0),.v (.string ⟨#[]⟩)]⟩]) (N':=.own (h1.length+1) 0 2) hN hni (Fr.app _ _) (fun k e=>.inr (by have e:k=h1.length+1:=e;omega)) hex ?_) (Fr.set (S:=IsI jA) _ rfl) fun k e e2=>?_
   ·rw[hexi];exact⟨h1.length+1,0,_,rfl,by decide,at_len1 _ _ _ _,rfl,fun k c hk=>absurd hk (Nat.not_lt_zero _)⟩
   ·have e2:k=jA:=e2
    rcases e.set with e|e
    ·exact offA k e e2
    ·have e:k=h1.length+1:=e;omega
  ·intro k e
   rcases e.set with e|e
   ·exact hRw k e
   ·exact .inr (by have e:k=h1.length+1:=e;omega)
 ·rw[if_neg (Nat.lt_irrefl _),Nat.add_zero]at hN hn0' hl;have hjl:=(Bs.1 hj).1;have hjA:j≠jA:=offA j ⟨i,_,hN,rfl⟩;have gj:∀ l,(h1++l)[j]?=some ⟨ver,115,cs⟩:=fun l=>(Ba hjl).trans hj
  have sj:∀ l c,(h1++l).set j c=h1.set j c++l:=fun l c=>Bg _ _ hjl
  have gA2:∀ l d,(h1.set j d++l)[jA]?=some ⟨vA,39,Ms⟩:=fun l d=>(Ba (by rw[Bl];exact hAl)).trans ((Bn hjA).trans kA1)
  have sA2:∀ l d c,(h1.set j d++l).set jA c=(h1.set j d).set jA c++l:=fun l d c=>Bg _ _ (by rw[Bl];exact hAl)
  have q4:List.take (n * 9) cs=cs:=Bt (by omega);have q6:n * 9≤cs.length:=by omega
  simp only[c44aE,Tryz.f44,pathE,Option.bind_some,Option.getD_some,aoES,tyO,kA1,gj,sj,gA2,sA2,hML,hN,d1,hle,q4,q6,w1,at_len,Bc,Bi,evE,tyX,Nat.reduceAdd,Nat.reduceMul,Nat.reduceLT,Nat.reduceLeDiff,Nat.reduceEqDiff,reduceCtorEq,List.reduceReplicate];refine⟨hlt,by clear w1;omega,hlt,loopCE.intro (i+1,_) ⟨Ms.set i (.own j (ver+1) (n+2)),hle,by rw[Bl];exact hML,?_,?_,?_,?_⟩ ⟨rfl,rfl,⟨rfl,rfl,rfl,rfl,trivial⟩,rfl⟩ (by show nt-(i+1)<nt-i;clear w1;omega)⟩
  ·have hW:Rw Ns j∨hh.length≤j:=hRw j ⟨i,_,hN,rfl⟩;refine f1.trans (((Fr.set (S:=fun k=>k=j∨k=jA) _ (.inl rfl)).trans (Fr.set (S:=fun k=>k=j∨k=jA) _ (.inr rfl)) fun k e=>.inl e).trans (Fr.app (S:=NoB) _ _) fun k e=>e.elim) fun k e=>?_
   rcases e with rfl|e
   ·exact hW.imp .inl id
   ·exact .inl (.inr e)
  ·exact (Ba (by rw[Bl,Bl];exact hAl)).trans (Be (by rw[Bl];exact hAl))
  ·show Fm 115 9 _ _ _ _ _
   rw[←sA2];refine Fm.fr (S:=IsI jA) (fm.repl (h':=h1.set j ⟨ver+1,115,cs++[.v (.int .i64 (-1)),.v (.int .i64 0),.v (.int .i64 0),.v (.string ⟨#[]⟩),.v (.int .i64 0),.v (.int .i64 0),.v (.float .f64 0),.v (.complex .f64 0 0),.v (.string ⟨#[]⟩),.v (.int .i64 (-2)),.v (.int .i64 0),.v (.int .i64 0),.v (.string ⟨#[]⟩),.v (.int .i64 0),.v (.int .i64 0),.v (.float .f64 0),.v (.complex .f64 0 0),.v (.string ⟨#[]⟩)]⟩++[⟨0,115,[.v (.int .i64 (-1)),.v (.int .i64 0),.v (.int .i64 0),.v (.string ⟨#[]⟩),.v (.int .i64 0),.v (.int .i64 0),.v (.float .f64 0),.v (.complex .f64 0 0),.v (.string ⟨#[]⟩),.v (.int .i64 (-2)),.v (.int .i64 0),.v (.int .i64 0),.v (.string ⟨#[]⟩),.v (.int .i64 0),.v (.int .i64 0),.v (.float .f64 0),.v (.complex .f64 0 0),.v (.string ⟨#[]⟩)]⟩]) (N':=.own j (ver+1) (n+2)) hN hni ((Fr.set (S:=nbk (.own j ver n)) _ rfl).trans (Fr.app (S:=NoB) _ _) fun k e=>e.elim) (fun k e=>.inl e) hex ?_) (Fr.set (S:=IsI jA) _ rfl) fun k e e2=>?_
   ·rw[hexi];refine⟨j,ver+1,_,rfl,by omega,(Ba (by rw[Bl];exact hjl)).trans (Be hjl),by rw[Bp,hl];simp only[BC,BD];omega,fun k c hk e=>hP k c hk ?_⟩
    rwa [Ba (by omega)]at e
   ·have e2:k=jA:=e2
    rcases e.set with e|e
    ·exact offA k e e2
    ·exact hjA ((show k=j from e).symm.trans e2)
  ·intro k e
   rcases e.set with e|e
   ·exact hRw k e
   ·exact hRw k ⟨i,_,hN,e⟩
noncomputable def c44cT:Code:=(Tryz.f44.body.bind (pathE [1,1,1,1,1,1,1,1,1,1,1,1,0,1,2,3])).getD .skip
def coTS(γ:List (Nat×AV))(A3 A4 A5:AV)(hh:List ABlk)(y:Nat):St:=⟨⟨362,[(3,A3),(4,A4),(5,A5),(22,.v (.int .i64 (y:Int)))],γ⟩,hh⟩
def ciTS(γ:List (Nat×AV))(A3 A4 A5:AV)(hh:List ABlk)(i:Nat)(y:Nat):St:=⟨⟨362,[(3,A3),(4,A4),(5,A5),(22,.v (.int .i64 (i:Int))),(23,.v (.int .i64 (y:Int)))],γ⟩,hh⟩
theorem chk_T{E:AV→St→Prop}{Q:Post}{l0:List (Nat×AV)}{hh:List ABlk}{n0:Nat}{A3 A4 A5:AV}{Ns:List AV}{ns:List Nat}
  (e3:Go.Ev.look l0 3=A3) (e4:Go.Ev.look l0 4=A4) (e5:Go.Ev.look l0 5=A5) (e6:Go.Ev.look l0 22=.v (.int .i64 0))
  (ar:AR 78 n0 hh A3 Ns) (fm:Fm 3 1 hh Ns ns (fun _=>2) (fun i k c=>c=mkT i k)) (hn:Ns.length≤2000000)
  (hQ:∀ l1,Go.Ev.look l1 3=A3→Go.Ev.look l1 4=A4→Go.Ev.look l1 5=A5→Q (.exit 30) ⟨⟨362,l1,γ⟩,hh⟩):LoopE (fun Q s=>kwpE Tp E c44cT Q s) Q ⟨⟨362,l0,γ⟩,hh⟩:=by
 have d0:decide (((0:Nat):Int)<0)=false:=rfl
 rcases ar with⟨rfl,rfl⟩|⟨jA,vA,rfl,hl0,hj0,kA⟩
 ·refine LoopE.intro (coTS γ (.v (.slice none 0 0)) A4 A5 hh) (fun y=>y=0) (fun y=>0) 0 ⟨rfl,rfl,⟨e3,e4,e5,e6,trivial⟩,rfl⟩ rfl (fun y hy=>?_);subst hy;simp only[c44cT,Tryz.f44,pathE,Option.bind_some,Option.getD_some,coTS,tyO,d0,evE,Nat.reduceLT,Nat.reduceEqDiff,reduceCtorEq];exact hQ _ rfl rfl rfl
 generalize hnt:Ns.length=nt at *;refine LoopE.intro (coTS γ (.own jA vA nt) A4 A5 hh) (fun y=>y≤nt) (fun y=>nt-y) 0 ⟨rfl,rfl,⟨e3,e4,e5,e6,trivial⟩,rfl⟩ (BN _) (fun i hi=>?_)
 by_cases hlt:i<nt
 rotate_left
 ·have d1:decide (i<nt)=false:=decide_eq_false hlt;simp only[c44cT,Tryz.f44,pathE,Option.bind_some,Option.getD_some,coTS,tyO,kA,d1,evE,Nat.reduceLT,Nat.reduceEqDiff,reduceCtorEq];refine hQ _ ?_ ?_ ?_
  all_goals rfl
 have d1:decide (i<nt)=true:=decide_eq_true hlt;have w1:IntKind.i64.wrap ((i:Int)+1)=((i+1:Nat):Int):=(i64w (by omega) (by omega)).trans (by omega);obtain⟨N,hN⟩:∃ N,Ns[i]?=some N:=⟨Ns[i]'(by omega),List.getElem?_eq_getElem _⟩;obtain⟨n,hni⟩:∃ n,ns[i]?=some n:=⟨ns[i]'(by have:=fm.len;omega),List.getElem?_eq_getElem _⟩;have hnb:=fm.bnd n (List.mem_of_getElem? hni);simp only[c44cT,Tryz.f44,pathE,Option.bind_some,Option.getD_some,coTS,tyO,kA,d1,evE,Nat.reduceLT,Nat.reduceEqDiff,reduceCtorEq]
 rcases fm.row i N n hN hni with⟨rfl,e0⟩|⟨j,ver,cs,rfl,hn0',hj,hl,hP⟩
 ·omega
 have w3:IntKind.i64.wrap (((n+2:Nat):Int)-2)=(n:Int):=(i64w (by omega) (by omega)).trans (by omega);refine LoopE.intro (ciTS γ (.own jA vA nt) A4 A5 hh i) (fun y=>y≤n) (fun y=>n-y) 0 ⟨rfl,rfl,⟨rfl,rfl,rfl,rfl,rfl,trivial⟩,rfl⟩ (BN _) (fun k hk=>?_)
 by_cases hlt2:k<n
 ·have d2:decide (k<n)=true:=decide_eq_true hlt2;have w2:IntKind.i64.wrap ((k:Int)+1)=((k+1:Nat):Int):=(i64w (by omega) (by omega)).trans (by omega);obtain⟨c,hc⟩:∃ c,cs[k * 1]?=some c:=⟨cs[k * 1]'(by omega),List.getElem?_eq_getElem _⟩;have ec:=hP k c hlt2 hc;subst ec;have hlt3:k<n+2:=by omega
  rw[Nat.mul_one]at hc;have dx:((IntKind.i64.wrap (IntKind.i64.wrap (1000 * (i:Int))+(k:Int))) != (IntKind.i64.wrap (IntKind.i64.wrap (1000 * (i:Int))+(k:Int))))=false:=by simp
  simp only[ciTS,tyD,tyO,kA,hN,hj,d2,hc,mkT,dx,w2,w3,evE,tyX,Nat.reduceLT,Nat.reduceEqDiff,reduceCtorEq];exact⟨hlt,hlt,hlt3,loopCE.intro (k+1) hlt2 ⟨rfl,rfl,⟨rfl,rfl,rfl,rfl,rfl,trivial⟩,rfl⟩ (by show n-(k+1)<n-k;clear w2;omega)⟩
 ·have d2:decide (k<n)=false:=decide_eq_false hlt2;simp only[ciTS,tyD,tyO,kA,hN,hj,d2,w1,w3,evE,Nat.reduceLT,Nat.reduceEqDiff,reduceCtorEq];exact⟨hlt,loopCE.intro (i+1) hlt ⟨rfl,rfl,⟨rfl,rfl,rfl,rfl,trivial⟩,rfl⟩ (by show nt-(i+1)<nt-i;clear w1;omega)⟩
noncomputable def c44cV:Code:=(Tryz.f44.body.bind (pathE [1,1,1,1,1,1,1,1,1,1,1,1,1,0,1,2,3])).getD .skip
def coVS(γ:List (Nat×AV))(A3 A4 A5:AV)(y:Nat×List ABlk):St:=⟨⟨362,[(3,A3),(4,A4),(5,A5),(24,.v (.int .i64 (y.1:Int)))],γ⟩,y.2⟩
def ciVS(γ:List (Nat×AV))(A3 A4 A5:AV)(i:Nat)(y:Nat×List ABlk):St:=⟨⟨362,[(3,A3),(4,A4),(5,A5),(24,.v (.int .i64 (i:Int))),(25,.v (.int .i64 (y.1:Int)))],γ⟩,y.2⟩
theorem chk_V{E:AV→St→Prop}{Q:Post}{l0:List (Nat×AV)}{hh:List ABlk}{n0:Nat}{A3 A4 A5:AV}{Ns:List AV}{ns:List Nat}
  (e3:Go.Ev.look l0 3=A3) (e4:Go.Ev.look l0 4=A4) (e5:Go.Ev.look l0 5=A5) (e6:Go.Ev.look l0 24=.v (.int .i64 0))
  (ar:AR 128 n0 hh A4 Ns) (fm:Fm 9 1 hh Ns ns (fun _=>2) (fun i k c=>c=mkV i k)) (hn:Ns.length≤2000000)
  (hQ:∀ l1 h1,Go.Ev.look l1 3=A3→Go.Ev.look l1 4=A4→Go.Ev.look l1 5=A5→Fr NoB hh h1→Q (.exit 34) ⟨⟨362,l1,γ⟩,h1⟩):LoopE (fun Q s=>kwpE Tp E c44cV Q s) Q ⟨⟨362,l0,γ⟩,hh⟩:=by
 have d0:decide (((0:Nat):Int)<0)=false:=rfl
 rcases ar with⟨rfl,rfl⟩|⟨jA,vA,rfl,hl0,hj0,kA⟩
 ·refine LoopE.intro (coVS γ A3 (.v (.slice none 0 0)) A5) (fun y=>y=(0,hh)) (fun y=>0) (0,hh) ⟨rfl,rfl,⟨e3,e4,e5,e6,trivial⟩,rfl⟩ rfl (fun y hy=>?_);subst hy;simp only[c44cV,Tryz.f44,pathE,Option.bind_some,Option.getD_some,coVS,tyO,d0,evE,Nat.reduceLT,Nat.reduceEqDiff,reduceCtorEq];exact hQ _ _ rfl rfl rfl (Fr.refl _ _)
 generalize hnt:Ns.length=nt at *;refine LoopE.intro (coVS γ A3 (.own jA vA nt) A5) (fun y=>y.1≤nt∧Fr NoB hh y.2) (fun y=>nt-y.1) (0,hh) ⟨rfl,rfl,⟨e3,e4,e5,e6,trivial⟩,rfl⟩ ⟨BN _,Fr.refl _ _⟩ (fun y hy=>?_);obtain⟨i,h1⟩:=y;obtain⟨hi,f1⟩:=hy;simp only at hi f1;have kA1:=f1.at kA (fun e=>e)
 by_cases hlt:i<nt
 rotate_left
 ·have d1:decide (i<nt)=false:=decide_eq_false hlt;simp only[c44cV,Tryz.f44,pathE,Option.bind_some,Option.getD_some,coVS,tyO,kA1,d1,evE,Nat.reduceLT,Nat.reduceEqDiff,reduceCtorEq];refine hQ _ _ ?_ ?_ ?_ f1
  all_goals rfl
 have d1:decide (i<nt)=true:=decide_eq_true hlt;have w1:IntKind.i64.wrap ((i:Int)+1)=((i+1:Nat):Int):=(i64w (by omega) (by omega)).trans (by omega);obtain⟨N,hN⟩:∃ N,Ns[i]?=some N:=⟨Ns[i]'(by omega),List.getElem?_eq_getElem _⟩;obtain⟨n,hni⟩:∃ n,ns[i]?=some n:=⟨ns[i]'(by have:=fm.len;omega),List.getElem?_eq_getElem _⟩;have hnb:=fm.bnd n (List.mem_of_getElem? hni);simp only[c44cV,Tryz.f44,pathE,Option.bind_some,Option.getD_some,coVS,tyO,kA1,d1,evE,Nat.reduceLT,Nat.reduceEqDiff,reduceCtorEq]
 rcases fm.row i N n hN hni with⟨rfl,e0⟩|⟨j,ver,cs,rfl,hn0',hj,hl,hP⟩
 ·omega
 have w3:IntKind.i64.wrap (((n+2:Nat):Int)-2)=(n:Int):=(i64w (by omega) (by omega)).trans (by omega);refine LoopE.intro (ciVS γ A3 (.own jA vA nt) A5 i) (fun y=>y.1≤n∧Fr NoB hh y.2) (fun y=>n-y.1) (0,h1) ⟨rfl,rfl,⟨rfl,rfl,rfl,rfl,rfl,trivial⟩,rfl⟩ ⟨BN _,f1⟩ (fun y hy=>?_);obtain⟨k,h2⟩:=y;obtain⟨hk,f2⟩:=hy;simp only at hk f2;have kA2:=f2.at kA (fun e=>e);have hj2:=f2.at hj (fun e=>e)
 by_cases hlt2:k<n
 ·have d2:decide (k<n)=true:=decide_eq_true hlt2;have w2:IntKind.i64.wrap ((k:Int)+1)=((k+1:Nat):Int):=(i64w (by omega) (by omega)).trans (by omega);obtain⟨c,hc⟩:∃ c,cs[k * 1]?=some c:=⟨cs[k * 1]'(by omega),List.getElem?_eq_getElem _⟩;have ec:=hP k c hlt2 hc;subst ec;have hlt3:k<n+2:=by omega
  rw[Nat.mul_one]at hc;simp only[ciVS,tyD,tyO,kA2,hN,hj2,d2,w3,evE,Nat.reduceLT,Nat.reduceEqDiff,reduceCtorEq];refine⟨hlt,?_⟩;refine DrawK.orders2 [[0,1,2,3,4,5,6,7,8,9,10,11,12,13,14,15,16,17,18,19,20,21]] (by kernel_rfl) (by kernel_rfl) (by kernel_rfl) (fun w hw=>?_)
  rcases Bj.1 hw with rfl
  simp only[seqT,BU,Bu,Bz,tyD,tyO,kA2,hN,hj2,hc,w2,mkV,str3,at_len,Bc,Bi,evE,tyX,Bv,Nat.reduceAdd,Nat.reduceLT,Nat.reduceLeDiff,Nat.reduceEqDiff,reduceCtorEq,List.reduceReplicate];exact⟨hlt,hlt3,by decide,by decide,by decide,loopCE.intro (k+1,_) ⟨hlt2,f2.trans (Fr.app (S:=NoB) _ _) fun k e=>e.elim⟩ ⟨rfl,rfl,⟨rfl,rfl,rfl,rfl,rfl,trivial⟩,rfl⟩ (by show n-(k+1)<n-k;clear w2;omega)⟩
 ·have d2:decide (k<n)=false:=decide_eq_false hlt2;simp only[ciVS,tyD,tyO,kA2,hN,hj2,d2,w1,w3,evE,Nat.reduceLT,Nat.reduceEqDiff,reduceCtorEq];exact⟨hlt,loopCE.intro (i+1,h2) ⟨hlt,f2⟩ ⟨rfl,rfl,⟨rfl,rfl,rfl,rfl,trivial⟩,rfl⟩ (by show nt-(i+1)<nt-i;clear w1;omega)⟩
noncomputable def c44cE:Code:=(Tryz.f44.body.bind (pathE [1,1,1,1,1,1,1,1,1,1,1,1,1,1,0,1,2,3])).getD .skip
def coES(γ:List (Nat×AV))(A3 A4 A5:AV)(hh:List ABlk)(y:Nat):St:=⟨⟨362,[(3,A3),(4,A4),(5,A5),(26,.v (.int .i64 (y:Int)))],γ⟩,hh⟩
def ciES(γ:List (Nat×AV))(A3 A4 A5:AV)(hh:List ABlk)(i:Nat)(y:Nat):St:=⟨⟨362,[(3,A3),(4,A4),(5,A5),(26,.v (.int .i64 (i:Int))),(27,.v (.int .i64 (y:Int)))],γ⟩,hh⟩
theorem chk_E{E:AV→St→Prop}{Q:Post}{l0:List (Nat×AV)}{hh:List ABlk}{n0:Nat}{A3 A4 A5:AV}{Ns:List AV}{ns:List Nat}
  (e3:Go.Ev.look l0 3=A3) (e4:Go.Ev.look l0 4=A4) (e5:Go.Ev.look l0 5=A5) (e6:Go.Ev.look l0 26=.v (.int .i64 0))
  (ar:AR 39 n0 hh A5 Ns) (fm:Fm 115 9 hh Ns ns (fun _=>2) (fun i k c=>c=mkT i k)) (hn:Ns.length≤2000000)
  (hQ:∀ l1,Go.Ev.look l1 3=A3→Go.Ev.look l1 4=A4→Go.Ev.look l1 5=A5→Q (.exit 38) ⟨⟨362,l1,γ⟩,hh⟩):LoopE (fun Q s=>kwpE Tp E c44cE Q s) Q ⟨⟨362,l0,γ⟩,hh⟩:=by
 have d0:decide (((0:Nat):Int)<0)=false:=rfl
 rcases ar with⟨rfl,rfl⟩|⟨jA,vA,rfl,hl0,hj0,kA⟩
 ·refine LoopE.intro (coES γ A3 A4 (.v (.slice none 0 0)) hh) (fun y=>y=0) (fun y=>0) 0 ⟨rfl,rfl,⟨e3,e4,e5,e6,trivial⟩,rfl⟩ rfl (fun y hy=>?_);subst hy;simp only[c44cE,Tryz.f44,pathE,Option.bind_some,Option.getD_some,coES,tyO,d0,evE,Nat.reduceLT,Nat.reduceEqDiff,reduceCtorEq];exact hQ _ rfl rfl rfl
 generalize hnt:Ns.length=nt at *;refine LoopE.intro (coES γ A3 A4 (.own jA vA nt) hh) (fun y=>y≤nt) (fun y=>nt-y) 0 ⟨rfl,rfl,⟨e3,e4,e5,e6,trivial⟩,rfl⟩ (BN _) (fun i hi=>?_)
 by_cases hlt:i<nt
 rotate_left
 ·have d1:decide (i<nt)=false:=decide_eq_false hlt;simp only[c44cE,Tryz.f44,pathE,Option.bind_some,Option.getD_some,coES,tyO,kA,d1,evE,Nat.reduceLT,Nat.reduceEqDiff,reduceCtorEq];refine hQ _ ?_ ?_ ?_
  all_goals rfl
 have d1:decide (i<nt)=true:=decide_eq_true hlt;have w1:IntKind.i64.wrap ((i:Int)+1)=((i+1:Nat):Int):=(i64w (by omega) (by omega)).trans (by omega);obtain⟨N,hN⟩:∃ N,Ns[i]?=some N:=⟨Ns[i]'(by omega),List.getElem?_eq_getElem _⟩;obtain⟨n,hni⟩:∃ n,ns[i]?=some n:=⟨ns[i]'(by have:=fm.len;omega),List.getElem?_eq_getElem _⟩;have hnb:=fm.bnd n (List.mem_of_getElem? hni);simp only[c44cE,Tryz.f44,pathE,Option.bind_some,Option.getD_some,coES,tyO,kA,d1,evE,Nat.reduceLT,Nat.reduceEqDiff,reduceCtorEq]
 rcases fm.row i N n hN hni with⟨rfl,e0⟩|⟨j,ver,cs,rfl,hn0',hj,hl,hP⟩
 ·omega
 have w3:IntKind.i64.wrap (((n+2:Nat):Int)-2)=(n:Int):=(i64w (by omega) (by omega)).trans (by omega);refine LoopE.intro (ciES γ A3 A4 (.own jA vA nt) hh i) (fun y=>y≤n) (fun y=>n-y) 0 ⟨rfl,rfl,⟨rfl,rfl,rfl,rfl,rfl,trivial⟩,rfl⟩ (BN _) (fun k hk=>?_)
 by_cases hlt2:k<n
 ·have d2:decide (k<n)=true:=decide_eq_true hlt2;have w2:IntKind.i64.wrap ((k:Int)+1)=((k+1:Nat):Int):=(i64w (by omega) (by omega)).trans (by omega);obtain⟨c,hc⟩:∃ c,cs[k * 9]?=some c:=⟨cs[k * 9]'(by omega),List.getElem?_eq_getElem _⟩;have ec:=hP k c hlt2 hc;subst ec;have hlt3:k<n+2:=by omega
  have dx:((IntKind.i64.wrap (IntKind.i64.wrap (1000 * (i:Int))+(k:Int))) != (IntKind.i64.wrap (IntKind.i64.wrap (1000 * (i:Int))+(k:Int))))=false:=by simp
  simp only[ciES,tyO,kA,hN,hj,d2,hc,mkT,dx,w2,w3,evE,tyX,Nat.reduceLT,Nat.reduceEqDiff,reduceCtorEq];exact⟨hlt,hlt,hlt3,loopCE.intro (k+1) hlt2 ⟨rfl,rfl,⟨rfl,rfl,rfl,rfl,rfl,trivial⟩,rfl⟩ (by show n-(k+1)<n-k;clear w2;omega)⟩
 ·have d2:decide (k<n)=false:=decide_eq_false hlt2;simp only[ciES,tyO,kA,hN,hj,d2,w1,w3,evE,tyX,Nat.reduceLT,Nat.reduceEqDiff,reduceCtorEq];exact⟨hlt,loopCE.intro (i+1) hlt ⟨rfl,rfl,⟨rfl,rfl,rfl,rfl,trivial⟩,rfl⟩ (by show nt-(i+1)<nt-i;clear w1;omega)⟩
theorem c44:bodyT Tp 44:=⟨_,Tryz.func44,by kernel_rfl,by kernel_rfl⟩
def Yes(F:List Nat)(h:List ABlk)(o:Out)(h':List ABlk):Prop:=o=.ret (.v (.bool true))∧Fr (·∈ F) h h'
theorem apart_ev{h:List ABlk}{x:Pg}{xs:List AV}{F:List Nat}(o:owL x.cells h [.s 137,.s 90] xs F)(hF:F.Nodup)(ok:okPg x)(hw:wG x.kinds≤40000):EvM Tp γ 44 [.agg xs] h (Yes F h):=by
 obtain⟨T,K,FT,FK,rfl,rfl,oT,oK⟩:=pg_inv o;obtain⟨ok1,ok2,ok3,ok4⟩:=ok;have hF1:=List.nodup_append.1 hF;have lT:=ow_lt _ _ _ _ oT;have lK:=ow_lt _ _ _ _ oK;obtain⟨LT0,hTF⟩:=ow_LN (enc:=Tg.cells) oT rfl;obtain⟨LK0,hKF⟩:=ow_LN (enc:=Kd.cells) oK rfl;obtain⟨oT1,fT1⟩:=LT0.one;obtain⟨oK1,fK1⟩:=LK0.one;have n1:∀ l,Fr NoB h (h++l):=fun l=>Fr.app _ _
 have hbl:(h++[(⟨0,71,[T,K]⟩:ABlk)]).length=h.length+1:=by simp
 refine EvM.of Tryz.func44 rfl ?_;simp only[Tryz.f44,oT1,oK1,evE,Nat.reduceAdd,Nat.reduceSub,Nat.reduceLT];refine LoopE.cast (fun Q s h=>?_) (ap_tags (γ:=γ) (E:=panE (Yes (FT++FK) h)) (b:=h.length) ?_ ?_ ?_ ?_ ?_ (at_len h _ []) (ow_fr2 oT (n1 _) (fun k _ e=>e)) hF1.1 ok1 ok2 (fun l1 h1 A3 NT nT q1 q3 q4 q5 f1 aT cT hNT=>?_))
 ·simp only[c44a,Tryz.f44,pathE,Option.bind_some,Option.getD_some,evE]at h;exact h
 ·rfl
 ·rfl
 ·rfl
 ·rfl
 ·rfl
 have kb1:=f1.at (at_len h _ []) (fun e=>e);have oK1':=ow_fr2 (ow_fr2 oK (n1 _) (fun k _ e=>e)) f1 (fun k _ e=>e);have hl1:=f1.1;rw[hbl]at hl1 aT;simp only[evE,Nat.reduceLT];refine LoopE.cast (fun Q s h=>?_) (ap_kinds (γ:=γ) (E:=panE (Yes (FT++FK) h)) (b:=h.length) (n0:=h.length+1) (A3:=A3) ?_ ?_ ?_ ?_ ?_ kb1 oK1' hF1.2.1 hl1 (Nat.lt_succ_self _) (fun k hk=>Nat.lt_succ_of_lt (lK k hk)) (by omega) ok3 ok4 (fun l2 h2 A4 A5 NV nV NE nE r1 r3 r4 r5 f2 aV aE gV gE cV cE hVE=>?_))
 ·simp only[c44k,Tryz.f44,pathE,Option.bind_some,Option.getD_some,evE]at h;exact h
 ·exact q1
 ·exact q3
 ·exact q4
 ·exact q5
 ·rfl
 have bV:NV.length≤2000000:=by omega
 have bE:NE.length≤2000000:=by omega
 have aT2:=aT.fr f2 (fun k _ e=>e);have mT:=(((cT.fr f1 fun k _ e=>e).fr f2 fun k _ e=>e)).fm;have mV:=(cV.fr f2 fun k _ e=>e).fm;have mE:=(cE.fr f2 fun k _ e=>e).fm;have F2:Fr (·∈ FT++FK) h h2:=(((n1 [(⟨0,71,[T,K]⟩:ABlk)]).trans f1 fun k e=>e.elim).trans f2 fun k e=>e.elim).mono fun k e=>e.elim
 have WT:∀ k,Rw NT k→k∈FT++FK:=fun k e=>List.mem_append_left _ (cT.rw e)
 have WV:∀ k,Rw NV k→k∈FT++FK:=fun k e=>List.mem_append_right _ (cV.rw e)
 have WE:∀ k,Rw NE k→k∈FT++FK:=fun k e=>List.mem_append_right _ (cE.rw e)
 have XT:∀ k,nbk A3 k→h.length≤k:=fun k e=>by have:=(aT2.lt e).1;omega
 have XV:∀ k,nbk A4 k→h.length≤k:=fun k e=>by have:=(aV.lt e).1;omega
 have XE:∀ k,nbk A5 k→h.length≤k:=fun k e=>by have:=(aE.lt e).1;omega
 clear o oT oK LT0 LK0 hTF hKF oK1' cT cV cE f1 f2 aT kb1 q1 q3 q4 q5 gV gE lT lK hF1 hF ok1 ok2 ok3 ok4;generalize FT++FK=F at *;simp only[evE,Nat.reduceLT];refine LoopE.cast (fun Q s h=>?_) (mark_T (γ:=γ) (E:=panE (Yes F h)) (n0:=h.length+1) (A3:=A3) (A4:=A4) (A5:=A5) ?_ ?_ ?_ ?_ aT2 mT hNT (fun l3 h3 s3 s4 s5 f3 mT3=>?_))
 ·simp only[c44mT,Tryz.f44,pathE,Option.bind_some,Option.getD_some,evE]at h;exact h
 ·exact r3
 ·exact r4
 ·exact r5
 ·rfl
 have aT3:=aT2.fr f3 (fun k hk e=>mT.ar aT2 (by decide) k e hk);have aV3:=aV.fr f3 (fun k hk e=>mT.ar aV (by decide) k e hk);have aE3:=aE.fr f3 (fun k hk e=>mT.ar aE (by decide) k e hk);have mV3:=mV.fr f3 (mV.ne mT (by decide));have mE3:=mE.fr f3 (mE.ne mT (by decide));have F3:=F2.trans f3 fun k e=>.inl (WT k e)
 clear f3 mT mV mE aT2 aV aE F2;simp only[evE,Nat.reduceLT];refine LoopE.cast (fun Q s h=>?_) (mark_V (γ:=γ) (E:=panE (Yes F h)) (n0:=h.length+1) (A3:=A3) (A4:=A4) (A5:=A5) ?_ ?_ ?_ ?_ aV3 mV3 bV (fun l4 h4 t3 t4 t5 f4 mV4=>?_))
 ·simp only[c44mV,Tryz.f44,pathE,Option.bind_some,Option.getD_some,evE]at h;exact h
 ·exact s3
 ·exact s4
 ·exact s5
 ·rfl
 have aT4:=aT3.fr f4 (fun k hk e=>mV3.ar aT3 (by decide) k e hk);have aV4:=aV3.fr f4 (fun k hk e=>mV3.ar aV3 (by decide) k e hk);have aE4:=aE3.fr f4 (fun k hk e=>mV3.ar aE3 (by decide) k e hk);have mT4:=mT3.fr f4 (mT3.ne mV3 (by decide));have mE4:=mE3.fr f4 (mE3.ne mV3 (by decide));have F4:=F3.trans f4 fun k e=>.inl (WV k e)
 clear f4 mT3 mV3 mE3 aT3 aV3 aE3 F3;simp only[evE,Nat.reduceLT];refine LoopE.cast (fun Q s h=>?_) (mark_E (γ:=γ) (E:=panE (Yes F h)) (n0:=h.length+1) (A3:=A3) (A4:=A4) (A5:=A5) ?_ ?_ ?_ ?_ aE4 mE4 bE (fun l5 h5 u3 u4 u5 f5 mE5=>?_))
 ·simp only[c44mE,Tryz.f44,pathE,Option.bind_some,Option.getD_some,evE]at h;exact h
 ·exact t3
 ·exact t4
 ·exact t5
 ·rfl
 have aT5:=aT4.fr f5 (fun k hk e=>mE4.ar aT4 (by decide) k e hk);have aV5:=aV4.fr f5 (fun k hk e=>mE4.ar aV4 (by decide) k e hk);have aE5:=aE4.fr f5 (fun k hk e=>mE4.ar aE4 (by decide) k e hk);have mT5:=mT4.fr f5 (mT4.ne mE4 (by decide));have mV5:=mV4.fr f5 (mV4.ne mE4 (by decide));have F5:=F4.trans f5 fun k e=>.inl (WE k e)
 clear f5 mT4 mV4 mE4 aT4 aV4 aE4 F4;simp only[evE,Nat.reduceLT];refine LoopE.cast (fun Q s h=>?_) (app_T (γ:=γ) (E:=panE (Yes F h)) (n0:=h.length+1) (A3:=A3) (A4:=A4) (A5:=A5) ?_ ?_ ?_ ?_ aT5 mT5 hNT (fun l6 h6 NT' v3 v4 v5 f6 aT6 mT6 _=>?_))
 ·simp only[c44aT,Tryz.f44,pathE,Option.bind_some,Option.getD_some,evE]at h;exact h
 ·exact u3
 ·exact u4
 ·exact u5
 ·rfl
 have aV6:=aV5.fr f6 (fun k hk e=>e.elim (fun e=>mT5.ar aV5 (by decide) k e hk) fun e=>aV5.ne aT5 (by decide) k hk e);have aE6:=aE5.fr f6 (fun k hk e=>e.elim (fun e=>mT5.ar aE5 (by decide) k e hk) fun e=>aE5.ne aT5 (by decide) k hk e);have mV6:=mV5.fr f6 (fun k hk e=>e.elim (mV5.ne mT5 (by decide) k hk) (mV5.ar aT5 (by decide) k hk));have mE6:=mE5.fr f6 (fun k hk e=>e.elim (mE5.ne mT5 (by decide) k hk) (mE5.ar aT5 (by decide) k hk));have F6:=F5.trans f6 fun k e=>e.imp (WT k) (XT k)
 have hNT':NT'.length≤2000000:=by have h1:=mT6.len;have h2:=mT5.len;omega
 clear f6 mT5 mV5 mE5 aT5 aV5 aE5 F5;simp only[evE,Nat.reduceLT];refine LoopE.cast (fun Q s h=>?_) (app_V (γ:=γ) (E:=panE (Yes F h)) (n0:=h.length+1) (A3:=A3) (A4:=A4) (A5:=A5) ?_ ?_ ?_ ?_ aV6 mV6 bV (fun l7 h7 NV' w3 w4 w5 f7 aV7 mV7 _=>?_))
 ·simp only[c44aV,Tryz.f44,pathE,Option.bind_some,Option.getD_some,evE]at h;exact h
 ·exact v3
 ·exact v4
 ·exact v5
 ·rfl
 have aT7:=aT6.fr f7 (fun k hk e=>e.elim (fun e=>mV6.ar aT6 (by decide) k e hk) fun e=>aT6.ne aV6 (by decide) k hk e);have aE7:=aE6.fr f7 (fun k hk e=>e.elim (fun e=>mV6.ar aE6 (by decide) k e hk) fun e=>aE6.ne aV6 (by decide) k hk e);have mT7:=mT6.fr f7 (fun k hk e=>e.elim (mT6.ne mV6 (by decide) k hk) (mT6.ar aV6 (by decide) k hk));have mE7:=mE6.fr f7 (fun k hk e=>e.elim (mE6.ne mV6 (by decide) k hk) (mE6.ar aV6 (by decide) k hk));have F7:=F6.trans f7 fun k e=>e.imp (WV k) (XV k)
 have bV':NV'.length≤2000000:=by have h1:=mV7.len;have h2:=mV6.len;omega
 clear f7 mT6 mV6 mE6 aT6 aV6 aE6 F6;simp only[evE,Nat.reduceLT];refine LoopE.cast (fun Q s h=>?_) (app_E (γ:=γ) (E:=panE (Yes F h)) (n0:=h.length+1) (A3:=A3) (A4:=A4) (A5:=A5) ?_ ?_ ?_ ?_ aE7 mE7 bE (fun l8 h8 NE' x3 x4 x5 f8 aE8 mE8 _=>?_))
 ·simp only[c44aE,Tryz.f44,pathE,Option.bind_some,Option.getD_some,evE]at h;exact h
 ·exact w3
 ·exact w4
 ·exact w5
 ·rfl
 have aT8:=aT7.fr f8 (fun k hk e=>e.elim (fun e=>mE7.ar aT7 (by decide) k e hk) fun e=>aT7.ne aE7 (by decide) k hk e);have aV8:=aV7.fr f8 (fun k hk e=>e.elim (fun e=>mE7.ar aV7 (by decide) k e hk) fun e=>aV7.ne aE7 (by decide) k hk e);have mT8:=mT7.fr f8 (fun k hk e=>e.elim (mT7.ne mE7 (by decide) k hk) (mT7.ar aE7 (by decide) k hk));have mV8:=mV7.fr f8 (fun k hk e=>e.elim (mV7.ne mE7 (by decide) k hk) (mV7.ar aE7 (by decide) k hk));have F8:=F7.trans f8 fun k e=>e.imp (WE k) (XE k)
 have bE':NE'.length≤2000000:=by have h1:=mE8.len;have h2:=mE7.len;omega
 clear f8 mT7 mV7 mE7 aT7 aV7 aE7 F7;simp only[evE,Nat.reduceLT];refine LoopE.cast (fun Q s h=>?_) (chk_T (γ:=γ) (E:=panE (Yes F h)) (n0:=h.length+1) (A3:=A3) (A4:=A4) (A5:=A5) ?_ ?_ ?_ ?_ aT8 mT8 hNT' (fun l9 y3 y4 y5=>?_))
 ·simp only[c44cT,Tryz.f44,pathE,Option.bind_some,Option.getD_some,evE]at h;exact h
 ·exact x3
 ·exact x4
 ·exact x5
 ·rfl
 simp only[evE,Nat.reduceLT];refine LoopE.cast (fun Q s h=>?_) (chk_V (γ:=γ) (E:=panE (Yes F h)) (n0:=h.length+1) (A3:=A3) (A4:=A4) (A5:=A5) ?_ ?_ ?_ ?_ aV8 mV8 bV' (fun l10 h9 z3 z4 z5 f9=>?_))
 ·simp only[c44cV,Tryz.f44,pathE,Option.bind_some,Option.getD_some,evE]at h;exact h
 ·exact y3
 ·exact y4
 ·exact y5
 ·rfl
 have aE9:=aE8.fr f9 (fun k _ e=>e);have mE9:=mE8.fr f9 (fun k _ e=>e);have F9:=F8.trans f9 fun k e=>e.elim
 simp only[evE,Nat.reduceLT];refine LoopE.cast (fun Q s h=>?_) (chk_E (γ:=γ) (E:=panE (Yes F h)) (n0:=h.length+1) (A3:=A3) (A4:=A4) (A5:=A5) ?_ ?_ ?_ ?_ aE9 mE9 bE' (fun l11 a3 a4 a5=>?_))
 ·simp only[c44cE,Tryz.f44,pathE,Option.bind_some,Option.getD_some,evE]at h;exact h
 ·exact z3
 ·exact z4
 ·exact z5
 ·rfl
 simp only[evE,Nat.reduceLT];exact⟨rfl,F9⟩
end Go.Proofs.YtlobiioioicmhaaGreatDoor.O
namespace Go.Ev
open _root_.Bool renaming not_true→Bv,not_false→Bf
open _root_.List renaming getElem?_eq_some_iff→Bs,getElem?_append_left→Ba,getElem?_set_self→Be,getElem?_set_ne→Bn,length_set→Bl,length_append→Bp,append_assoc→Bo,cons_append→Bc,nil_append→Bi,getElem?_cons_zero→Bz,getElem?_cons_succ→Bu,getElem?_eq_none→Bq,set_append_left→Bg,take_of_length_le→Bt,mem_singleton→Bj,length_cons→BC,length_nil→BD,getElem?_toArray→BU
open _root_.Nat renaming zero_le→BN
open Go Go.RowKit
theorem EvM.frozen{P:Program}{γ:List (Nat×AV)}{g:FuncId}{xs ys:List AV}{h:List ABlk}{v:Value}(hfz:fzL P h false ys xs)(hev:Ev P γ g ys (.v v)):EvM P γ g xs h fun o h'=>o=.ret (.v v)∧h'=h:=by
 intro X φ s a w vs hP hg hs hargs;subst hP;subst hg;have hsub:∀ β∈φ,β<w.heap.size:=fun β hβ=>(hs.rng β hβ).2
 refine (hev (fun _=>False) X.B w vs (fun r h=>h.elim) (fun k=>⟨(hs.gl k).1,?_⟩) ?_).mono fun e w' ⟨u,he,hr,hbel⟩=>?_
 ·refine rel_tree (c:=cx X φ h w) (c':=cx0 X.P (fun _=>False) X.B w) rfl rfl (fun b r ⟨h1,h2,h3⟩=>⟨h1,?_⟩) _ _ (hs.gl k).1 (hs.gl k).2;cases b
  ·exact fun h=>h.elim
  ·exact h3
 ·refine relL_fz (b0:=false) (ok':=(cx0 X.P (fun _=>False) X.B w).ok) hs (fun b r ⟨h1,h2,h3⟩=>⟨h1,?_⟩) (fun β hβ=>⟨hsub β hβ,fun h=>h.elim⟩) ys _ _ hfz hargs;cases b
  ·exact fun h=>h.elim
  ·exact h3
 ·subst he;have hs':=hs.world hbel;simp only[rel]at hr;subst hr;exact⟨.ret (.v u),h,φ,⟨rfl,rfl⟩,hs',_,rfl,by simp only[rel]⟩
end Go.Ev
namespace Go.Proofs.YtlobiioioicmhaaGreatDoor
open _root_.Bool renaming not_true→Bv,not_false→Bf
open _root_.List renaming getElem?_eq_some_iff→Bs,getElem?_append_left→Ba,getElem?_set_self→Be,getElem?_set_ne→Bn,length_set→Bl,length_append→Bp,append_assoc→Bo,cons_append→Bc,nil_append→Bi,getElem?_cons_zero→Bz,getElem?_cons_succ→Bu,getElem?_eq_none→Bq,set_append_left→Bg,take_of_length_le→Bt,mem_singleton→Bj,length_cons→BC,length_nil→BD,getElem?_toArray→BU
open _root_.Nat renaming zero_le→BN
open Go.Proofs.Tryz renaming prog→Tp
open Go Go.Ev
set_option maxRecDepth 20000
variable {γ:List (Nat×AV)}
theorem y5:Tryz.prog.cellsOf 5=1:=by kernel_rfl
theorem noBorL_v:∀ ys:List AV,(∀ y∈ys,∃ v,y=AV.v v)→noBorL ys=true
 |[],_=>by simp only[noBorL]
 |y::ys,h=>by
  obtain⟨v,rfl⟩:=h y (List.mem_cons_self ..);simp only[noBorL,noBor,Bool.true_and];exact noBorL_v ys fun z hz=>h z (List.mem_cons_of_mem _ hz)
theorem noBor_nodes(ns:List Nd):noBor (nodesA ns)=true:=by
 cases ns with
 |nil=>rfl
 |cons x r=>simp only[nodesA,noBor,Bf,Bool.true_and];exact noBorL_v _ (nds_v _)
end Go.Proofs.YtlobiioioicmhaaGreatDoor
