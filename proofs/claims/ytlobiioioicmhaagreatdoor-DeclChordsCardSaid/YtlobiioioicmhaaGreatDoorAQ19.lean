/- A part of the proof. -/
import Derived.Test.YtlobiioioicmhaaGreatDoorAQ18
import Derived.Test.YtlobiioioicmhaaGreatDoorCards
import Derived.Test.YtlobiioioicmhaaGreatDoorTie
import Derived.WalkKit
import Derived.ProofKit
import Derived.OpenShut
import Derived.ShutString
import Derived.ChangeOld
import Derived.SizedLaws
import Derived.Deep.DeepHandedRow
import Derived.Deep.DeepWitnessRowRef
import Derived.Stop.LaidErr
import Derived.Lib.LaidIn
import Derived.Lib.LaidTab
set_option linter.all false
set_option maxHeartbeats 8000000
namespace Go.Proofs.YtlobiioioicmhaaGreatDoor
open _root_.Array renaming getElem?_eq_none→BQ
open _root_.Bool renaming not_true→Bv,not_false→Bf
open _root_.List renaming getElem?_eq_some_iff→Bs,getElem?_append_left→Ba,getElem?_append_right→Br,getElem?_set_self→Be,length_set→Bl,length_append→Bp,append_assoc→Bo,cons_append→Bc,nil_append→Bi,getElem?_cons_zero→Bz,getElem?_cons_succ→Bu,getElem?_map→Bm,length_map→Bk,length_drop→Bd,length_take→Bh,mem_singleton→Bj,map_cons→BA,prefix_rfl→BB,length_cons→BC,length_nil→BD,flatMap_cons→BE,mem_cons→BI,getElem?_toArray→BU,getElem?_drop→BX,getElem?_take→BY
open _root_.Nat renaming le_refl→BL,le_trans→BM,zero_le→BN
open Go.Proofs.Tryz renaming prog→Tp
open Go Go.Ev
set_option maxRecDepth 20000
variable {γ:List (Nat×AV)}
theorem c74:Al Tp 74:=⟨_,Tryz.func74,by kernel_rfl,by kernel_rfl⟩
theorem c57':Al Tp 57:=⟨_,Tryz.func57,by kernel_rfl,by kernel_rfl⟩
def YZ(nd:Nd):Prop:=nd.vk≠3∧nd.vr<18446744073709551616∧nd.vt.length≤140737488351232
def eU(γ:List (Nat×AV))(ns:List Nd)(i:Nat):St:=⟨⟨81,[(2,.ptr 0 0 0),(3,.ptr 1 0 0),(5,.v (.int .i64 (i:Int)))],γ⟩,[⟨0,41,[Ab ns]⟩,⟨0,41,[Ab ns]⟩]⟩
theorem VA{nd:Nd}(h:YZ nd):Ev Tp γ 57 [.agg nd.valC,.agg nd.valC] (.v (.bool true)):=WN ⟨nd.vk,nd.vi,nd.vr,0,0,nd.vt⟩ h.1 h.2.1 h.2.2
theorem Mt(ns:List Nd)(hb:ns.length≤2000000)(hok:∀ nd∈ns,YZ nd):Ev Tp γ 74 [.agg [Ab ns],.agg [Ab ns]] (.v (.bool true)):=by
 have ll:=fun s=>dV s ns
 have fo:=WC ns;refine Ev.of Tryz.func74 rfl ?_;have d1:(((ns.length:Nat):Int) != ((ns.length:Nat):Int))=false:=by simp
 simp only[Tryz.f74,Q3,fo,ll,d1,Af,AB,seval];refine Eg.intro (eU γ ns) (fun i=>i≤ns.length) (fun i=>ns.length-i) 0 ⟨rfl,rfl,⟨rfl,rfl,rfl,trivial⟩,.inl rfl⟩ (BN _) (fun i hi=>?_)
 by_cases hlt:i<ns.length
 ·have d2:decide (i<ns.length)=true:=decide_eq_true hlt;obtain⟨nd,hnd⟩:∃ nd,ns[i]?=some nd:=⟨ns[i],by simp[hlt]⟩;have eN:=Wq hnd;have h9:=J0 hnd;have h9l:9≤((BZ ns).drop (i * 9)).length:=by rw[Bd,CL];omega
  have w1:IntKind.i64.wrap ((i:Int)+1)=((i+1:Nat):Int):=(A7 (by omega) (by omega)).trans (by omega);simp only[eU,Q3,ll,d2,Af,AB,seval];refine Cp.via (fun s'=>∃ l0,s'=⟨⟨81,l0,γ⟩,[⟨0,41,[Ab ns]⟩,⟨0,41,[Ab ns]⟩,⟨0,115,nd.cells⟩,⟨0,115,nd.cells⟩]⟩∧Go.Ev.look l0 2=.ptr 0 0 0∧Go.Ev.look l0 3=.ptr 1 0 0∧Go.Ev.look l0 5=.v (.int .i64 (i:Int))∧((Go.Ev.look l0 6=.ptr 2 0 0∧Go.Ev.look l0 7=.ptr 3 0 0)∨(Go.Ev.look l0 6=.ptr 3 0 0∧Go.Ev.look l0 7=.ptr 2 0 0))) (fun K hK=>?_) (fun s' hs'=>?_)
  ·refine Cp.orders2 [[0,1,2,3,4,5,6,7,8,9,10,11,12,13],[0,1,2,3,4,5,6,7,8,9,11,10,12,13],[0,1,2,3,4,10,11,12,5,6,7,8,9,13],[0,1,2,3,4,5,10,11,12,6,7,8,9,13],[0,1,2,3,4,5,6,10,11,12,7,8,9,13],[0,1,2,3,4,5,6,7,10,11,12,8,9,13],[0,1,2,3,4,5,6,7,8,10,11,12,9,13],[0,1,2,3,4,11,10,12,5,6,7,8,9,13],[0,1,2,3,4,5,11,10,12,6,7,8,9,13],[0,1,2,3,4,5,6,11,10,12,7,8,9,13],[0,1,2,3,4,5,6,7,11,10,12,8,9,13],[0,1,2,3,4,5,6,7,8,11,10,12,9,13]] (by kernel_rfl) (by kernel_rfl) (by kernel_rfl) (fun p hp=>?_);simp only[BI,List.not_mem_nil,or_false]at hp
   rcases hp with rfl|rfl|rfl|rfl|rfl|rfl|rfl|rfl|rfl|rfl|rfl|rfl
   all_goals simp only[CQ,BU,Bu,Bz,Q3,eN,h9,h9l,Nd.cells,Af,AB,seval]
   all_goals simp only[eN]at hK
   all_goals refine⟨hlt,hlt,hK _ ⟨_,rfl,?_⟩⟩
   all_goals simp only[Af,seval]
  ·obtain⟨l0,rfl,a2,a3,a5,hii⟩:=hs';have hs:=VA (γ:=γ) (hok nd (List.mem_of_getElem? hnd));have z1:(nd.k != nd.k)=false:=by simp
   have z2:(nd.a != nd.a)=false:=by simp
   have z3:(nd.b != nd.b)=false:=by simp
   have z4:(nd.nm != nd.nm)=false:=by simp
   have z5:(nd.vk != nd.vk)=false:=by simp
   simp only[Nd.valC]at hs
   rcases hii with⟨a6,a7⟩|⟨a6,a7⟩
   all_goals cases z6:(nd.vk != 0)with
    |false=>
     simp only[Q3,a5,a6,a7,Nd.cells,z1,z2,z3,z5,z6,w1,Af,AB,Bv,seval];exact Cg.intro (i+1) hlt ⟨rfl,rfl,⟨by simp only[a2,Af,seval],by simp only[a3,Af,seval],rfl,trivial⟩,.inr ⟨rfl,rfl,by cases ns<;>rfl⟩⟩ (by show ns.length-(i+1)<ns.length-i;clear w1;omega)
    |true=>
     simp only[Q3,a6,a7,Nd.cells,z1,z2,z3,z5,z6,Af,AB,Bv,seval];refine Ae.intro c57' rfl hs ?_;simp only[a5,w1,Af,Bv,seval];exact Cg.intro (i+1) hlt ⟨rfl,rfl,⟨by simp only[a2,Af,seval],by simp only[a3,Af,seval],rfl,trivial⟩,.inr ⟨rfl,rfl,by cases ns<;>rfl⟩⟩ (by show ns.length-(i+1)<ns.length-i;clear w1;omega)
 ·have d2:decide (i<ns.length)=false:=decide_eq_false hlt;simp only[eU,Q3,ll,d2,Af,AB,seval]
theorem c76:Al Tp 76:=⟨_,Tryz.func76,by kernel_rfl,by kernel_rfl⟩
def dK(ns:List Nd):Prop:=ns.length≤2000000∧∀ nd∈ns,YZ nd
def Y7(a:Ac):Prop:=dK a.to∧a.args.length≤2000000∧∀ x∈a.args,dK x
theorem bZ(s:List Aa)(l:List (List Nd)):Dr Tp 133 s (Eo l)=some (.v (.int .i64 l.length)):=by
 have e:A5 Tp 133=some 41:=by kernel_rfl
 cases l with
 |nil=>simp only[Eo,NF,BD,Dr,e];rfl
 |cons x l=>simp only[Eo,NF,BC,Dr,e];rfl
theorem YF{l:List (List Nd)}{k:Nat}{x:List Nd}(h:l[k]?=some x):Eo l=.sl false l.length l.length (l.map Ab):=by
 cases l with
 |nil=>cases h
 |cons y l=>rfl
theorem Pg(ns:List Nd):A4 [.agg [Ab ns],.agg [Ab ns]]=true:=by cases ns<;>rfl
def lA(γ:List (Nat×AV))(a:Ac)(k:Nat):St:=⟨⟨61,[(2,.ptr 0 0 0),(3,.ptr 1 0 0),(5,.v (.int .i64 (k:Int)))],γ⟩,[⟨0,135,a.cells⟩,⟨0,135,a.cells⟩]⟩
theorem cV(a:Ac)(ok:Y7 a):Ev Tp γ 76 [a.av,a.av] (.v (.bool true)):=by
 have ll:=fun s=>bZ s a.args
 have hx:=Mt (γ:=γ) a.to ok.1.1 ok.1.2;have fo:Cd (Ab a.to)=true:=by cases a.to<;>rfl
 have fe:Cd (Eo a.args)=true:=by cases a.args<;>rfl
 have z1:(a.kind != a.kind)=false:=by simp
 have z2:(a.name != a.name)=false:=by simp
 have z3:(a.var != a.var)=false:=by simp
 have d1:(((a.args.length:Nat):Int) != ((a.args.length:Nat):Int))=false:=by simp
 refine Ev.ofE Tryz.func76 rfl ?_;simp only[Tryz.f76,B4,Q3,Ac.av,Ac.cells,Bb,Aj,fo,fe,z1,Af,AB,Bv,seval];refine Am.pure (Ae.intro c74 (Pg _) hx ?_);simp only[B4,ll,d1,Af,Bv,seval];refine C1.intro (lA γ a) (fun k=>k≤a.args.length) (fun k=>a.args.length-k) 0 ⟨rfl,rfl,⟨rfl,rfl,rfl,trivial⟩,rfl⟩ (BN _) (fun k hk=>?_)
 by_cases hlt:k<a.args.length
 ·have d2:decide (k<a.args.length)=true:=decide_eq_true hlt;obtain⟨x,hxk⟩:∃ x,a.args[k]?=some x:=⟨a.args[k],by simp[hlt]⟩;have eS:=YF hxk;have hc:(a.args.map Ab)[k]?=some (Ab x):=by rw[Bm,hxk];rfl
  have okx:=ok.2.2 x (List.mem_of_getElem? hxk);have hex:=Mt (γ:=γ) x okx.1 okx.2;have ox:Cd (Ab x)=true:=by cases x<;>rfl
  have h1l:1≤((a.args.map Ab).drop k).length:=by rw[Bd,Bk];omega
  have ht1:((a.args.map Ab).drop k).take 1=[Ab x]:=by
   rw[List.drop_eq_getElem_cons (by rw[Bk];exact hlt)];have:(a.args.map Ab)[k]?=some ((a.args.map Ab)[k]'(by rw[Bk];exact hlt)):=List.getElem?_eq_getElem _;rw[hc]at this;simp only[List.take_succ_cons,List.take_zero];rw[←Option.some.inj this]
  have hn:=ok.2.1;have w1:IntKind.i64.wrap ((k:Int)+1)=((k+1:Nat):Int):=(A7 (by omega) (by omega)).trans (by omega);simp only[lA,B4,Ac.cells,Bb,Aj,ll,d2,Af,seval];refine dI ?_;simp only[B4,Q3,eS,hc,h1l,ht1,Af,seval];refine⟨hlt,hlt,Ae.intro c74 (Pg _) hex ?_⟩;simp only[w1,Af,Bv,seval];exact B3.intro (k+1) hlt ⟨rfl,rfl,⟨rfl,rfl,rfl,trivial⟩,by simp only[lA,Ac.cells,Bb,Aj,eS]⟩ (by show a.args.length-(k+1)<a.args.length-k;clear w1;omega)
 ·have d2:decide (k<a.args.length)=false:=decide_eq_false hlt;simp only[lA,B4,Ac.cells,Bb,Aj,ll,d2,Af,seval]
def YG(c:Ch):Prop:=c.parts.length≤2000000∧(∀ p∈c.parts,p.vars.length≤2000000)∧dK c.guard∧c.body.length≤2000000∧∀ a∈c.body,Y7 a
theorem jU:Al Tp 34:=⟨_,Tryz.func34,by kernel_rfl,by kernel_rfl⟩
theorem Xc(s:List Aa)(l:List Pt):Dr Tp 56 s (E7 l)=some (.v (.int .i64 l.length)):=by
 have e:A5 Tp 56=some 130:=by kernel_rfl
 cases l with
 |nil=>simp only[E7,NF,BD,Dr,e];rfl
 |cons x l=>simp only[E7,NF,BC,Dr,e];rfl
theorem ZL(s:List Aa)(l:List Ac):Dr Tp 57 s (Ga l)=some (.v (.int .i64 l.length)):=by
 have e:A5 Tp 57=some 135:=by kernel_rfl
 cases l with
 |nil=>simp only[Ga,NF,BD,Dr,e];rfl
 |cons x l=>simp only[Ga,NF,BC,Dr,e];rfl
theorem Vw{l:List Pt}{k:Nat}{x:Pt}(h:l[k]?=some x):E7 l=.sl false l.length l.length (l.flatMap Pt.cells):=by
 cases l with
 |nil=>cases h
 |cons y l=>rfl
theorem X6{l:List Ac}{k:Nat}{x:Ac}(h:l[k]?=some x):Ga l=.sl false l.length l.length (l.flatMap Ac.cells):=by
 cases l with
 |nil=>cases h
 |cons y l=>rfl
theorem Lh{α:Type}{f:α→List AV}{m:Nat}(hf:∀ x,(f x).length=m):∀ (l:List α) (k:Nat) (x:α),l[k]?=some x→((l.flatMap f).drop (k * m)).take m=f x∧k * m+m≤(l.flatMap f).length
 |[],k,x,h=>by cases h
 |y::l,0,x,h=>by
  cases h;rw[Nat.zero_mul,List.drop_zero,BE];exact⟨List.take_left' (hf y),by rw[Bp,hf];omega⟩
 |y::l,k+1,x,h=>by
  have ih:=Lh hf l k x (by simpa using h);rw[BE];have e:(k+1) * m=(f y).length+k * m:=by rw[hf,Nat.add_mul,Nat.one_mul,Nat.add_comm]
  rw[e,List.drop_append];refine⟨?_,by rw[Bp];omega⟩;rw[show (f y).length+k * m-(f y).length=k * m by omega,List.drop_eq_nil_of_le (by omega),Bi];exact ih.1
theorem Zy(l:List (List UInt8)):A4 [GY l,GY l]=true:=by cases l<;>rfl
def ZO(γ:List (Nat×AV))(c:Ch)(k:Nat):St:=⟨⟨93,[(2,.ptr 0 0 0),(3,.ptr 1 0 0),(5,.v (.int .i64 (k:Int)))],γ⟩,[⟨0,59,c.cells⟩,⟨0,59,c.cells⟩]⟩
def kZ(γ:List (Nat×AV))(c:Ch)(k:Nat):St:=⟨⟨93,[(2,.ptr 0 0 0),(3,.ptr 1 0 0),(6,.v (.int .i64 (k:Int)))],γ⟩,[⟨0,59,c.cells⟩,⟨0,59,c.cells⟩]⟩
theorem WG(c:Ch)(ok:YG c):Ev Tp γ 34 [c.av,c.av] (.v (.bool true)):=by
 obtain⟨ok1,ok2,ok3,ok4,ok5⟩:=ok;have lp:=fun s=>Xc s c.parts
 have la:=fun s=>ZL s c.body
 have hx:=Mt (γ:=γ) c.guard ok3.1 ok3.2;have fo:Cd (Ab c.guard)=true:=by cases c.guard<;>rfl
 have fp:Cd (E7 c.parts)=true:=by cases c.parts<;>rfl
 have fa:Cd (Ga c.body)=true:=by cases c.body<;>rfl
 have z1:(c.name != c.name)=false:=by simp
 have d1:(((c.parts.length:Nat):Int) != ((c.parts.length:Nat):Int))=false:=by simp
 have d2:(((c.body.length:Nat):Int) != ((c.body.length:Nat):Int))=false:=by simp
 refine Ev.ofE Tryz.func34 rfl ?_;simp only[Tryz.f34,B4,Q3,Ch.av,Ch.cells,Aj,fo,fp,fa,lp,la,d1,d2,Af,AB,Bv,seval];refine Am.pure (Ae.intro c74 (Pg _) hx ?_);simp only[Af,Bv,seval];refine C1.intro (ZO γ c) (fun k=>k≤c.parts.length) (fun k=>c.parts.length-k) 0 ⟨rfl,rfl,⟨rfl,rfl,rfl,trivial⟩,rfl⟩ (BN _) (fun k hk=>?_)
 by_cases hlt:k<c.parts.length
 ·have e1:decide (k<c.parts.length)=true:=decide_eq_true hlt;obtain⟨x,hxk⟩:∃ x,c.parts[k]?=some x:=⟨c.parts[k],by simp[hlt]⟩;have eS:=Vw hxk;obtain⟨t2,l2⟩:=Lh (f:=Pt.cells) (m:=2) (fun _=>rfl) c.parts k x hxk
  have c0:(c.parts.flatMap Pt.cells)[k * 2]?=some (Aj x.tag):=by
   have:=congrArg (fun l=>l[0]?) t2;simpa[BY,BX,Pt.cells]using this
  have c1:(c.parts.flatMap Pt.cells)[k * 2+1]?=some (GY x.vars):=by
   have:=congrArg (fun l=>l[1]?) t2;simpa[BY,BX,Pt.cells]using this
  have ht:=Ym (γ:=γ) x.vars (ok2 x (List.mem_of_getElem? hxk));have zt:(x.tag != x.tag)=false:=by simp
  have ov:Cd (GY x.vars)=true:=by cases x.vars<;>rfl
  have w1:IntKind.i64.wrap ((k:Int)+1)=((k+1:Nat):Int):=(A7 (by omega) (by omega)).trans (by omega);simp only[ZO,B4,Ch.cells,Aj,lp,e1,Af,seval];refine dI ?_;simp only[Aj]at c0;simp only[B4,Q3,eS,c0,c1,Af,AB,Bv,seval];refine⟨hlt,hlt,hlt,hlt,Ae.intro c75 (Zy _) ht ?_⟩;simp only[w1,Af,Bv,seval];exact B3.intro (k+1) hlt ⟨rfl,rfl,⟨rfl,rfl,rfl,trivial⟩,by simp only[ZO,Ch.cells,Aj,eS]⟩ (by show c.parts.length-(k+1)<c.parts.length-k;clear w1;omega)
 ·have e1:decide (k<c.parts.length)=false:=decide_eq_false hlt;simp only[ZO,B4,Ch.cells,Aj,lp,e1,Af,seval];refine C1.intro (kZ γ c) (fun k=>k≤c.body.length) (fun k=>c.body.length-k) 0 ⟨rfl,rfl,⟨rfl,rfl,rfl,trivial⟩,rfl⟩ (BN _) (fun k hk=>?_)
  by_cases hlt:k<c.body.length
  ·have e1:decide (k<c.body.length)=true:=decide_eq_true hlt;obtain⟨x,hxk⟩:∃ x,c.body[k]?=some x:=⟨c.body[k],by simp[hlt]⟩;have eS:=X6 hxk;obtain⟨t5,l5⟩:=Lh (f:=Ac.cells) (m:=5) (fun _=>rfl) c.body k x hxk;have h5l:5≤((c.body.flatMap Ac.cells).drop (k * 5)).length:=by rw[Bd];omega
   have hac:=cV (γ:=γ) x (ok5 x (List.mem_of_getElem? hxk))
   have htr:A4 [x.av,x.av]=true:=by
    cases h1:x.to<;>cases h2:x.args<;>simp only[Ac.av,Ac.cells,h1,h2]<;>rfl
   have w1:IntKind.i64.wrap ((k:Int)+1)=((k+1:Nat):Int):=(A7 (by omega) (by omega)).trans (by omega);simp only[kZ,B4,Q3,Ch.cells,Aj,la,e1,Af,seval];refine dI ?_;simp only[B4,Q3,eS,t5,h5l,Af,seval];refine⟨hlt,hlt,Ae.intro c76 htr hac ?_⟩;simp only[w1,Af,Bv,seval];exact B3.intro (k+1) hlt ⟨rfl,rfl,⟨rfl,rfl,rfl,trivial⟩,by simp only[kZ,Ch.cells,Aj,eS]⟩ (by show c.body.length-(k+1)<c.body.length-k;clear w1;omega)
  ·have e1:decide (k<c.body.length)=false:=decide_eq_false hlt;simp only[kZ,B4,Q3,Ch.cells,Aj,la,e1,Af,seval]
theorem y5:Tryz.prog.cellsOf 5=1:=by kernel_rfl
theorem Sa:∀ ys:List AV,(∀ y∈ys,∃ v,y=AV.v v)→AO ys=true
 |[],_=>by simp only[AO]
 |y::ys,h=>by
  obtain⟨v,rfl⟩:=h y (List.mem_cons_self ..);simp only[AO,CJ,Bool.true_and];exact Sa ys fun z hz=>h z (List.mem_cons_of_mem _ hz)
theorem Iy(ns:List Nd):CJ (Ab ns)=true:=by
 cases ns with
 |nil=>rfl
 |cons x r=>simp only[Ab,CJ,Bf,Bool.true_and];exact Sa _ (R3 _)
theorem c29:Al Tp 29:=⟨_,Tryz.func29,by kernel_rfl,by kernel_rfl⟩
theorem c31:Al Tp 31:=⟨_,Tryz.func31,by kernel_rfl,by kernel_rfl⟩
theorem bB:Al Tp 32:=⟨_,Tryz.func32,by kernel_rfl,by kernel_rfl⟩
def kF(γ:List (Nat×AV))(A B:AV)(k:Nat):St:=⟨⟨26,[(0,A),(1,B),(5,.v (.int .i64 (k:Int)))],γ⟩,[]⟩
theorem XY(b c:Bool)(l M:List UInt8)(m:Nat)(hl:l.length≤140737488351232):
  Ev Tp γ 73 [.sl b l.length m ((l++M).map Ai),.sl c l.length l.length (l.map Ai)] (.v (.bool true)):=by
 have d0:(((l.length:Nat):Int) != ((l.length:Nat):Int))=false:=by simp
 refine Ev.ofE Tryz.func73 rfl ?_;simp only[Tryz.f73,Q4,d0,Af,seval];refine C1.intro (kF γ (.sl b l.length m ((l++M).map Ai)) (.sl c l.length l.length (l.map Ai))) (fun k=>k≤l.length) (fun k=>l.length-k) 0 ⟨rfl,rfl,⟨rfl,rfl,rfl,trivial⟩,rfl⟩ (BN _) (fun k hk=>?_)
 by_cases hlt:k<l.length
 ·have d1:decide (k<l.length)=true:=decide_eq_true hlt;obtain⟨x,hx⟩:∃ x,l[k]?=some x:=⟨l[k],by simp[hlt]⟩;have c0:((l++M).map Ai)[k]?=some (Ai x):=by rw[Bm,Ba hlt,hx];rfl
  have c1:(l.map Ai)[k]?=some (Ai x):=by rw[Bm,hx];rfl
  have w1:IntKind.i64.wrap ((k:Int)+1)=((k+1:Nat):Int):=(A7 (by omega) (by omega)).trans (by omega);have dx:(x.toNat != x.toNat)=false:=by simp
  have dy:((x.toNat:Int) != (x.toNat:Int))=false:=by simp
  simp only[kF,Q4,d1,Af,seval];refine dI ?_;simp only[Q4,c0,c1,Ai,dy,w1,Af,seval];exact⟨hlt,hlt,B3.intro (k+1) hlt ⟨rfl,rfl,⟨rfl,rfl,rfl,trivial⟩,rfl⟩ (by show l.length-(k+1)<l.length-k;clear w1;omega)⟩
 ·have d1:decide (k<l.length)=false:=decide_eq_false hlt;simp only[kF,Q4,d1,Af,seval]
def Xn(cs:List AV):Prop:=∀ y∈cs,∃ k,y=.v (.int .u8 k)
def tuS(γ:List (Nat×AV))(A:AV)(y:Nat×List Aa):St:=⟨⟨17,[(0,A),(2,.v (.int .i64 (y.1:Int)))],γ⟩,y.2⟩
theorem ZV{h:List Aa}{j ver n:Nat}{cs:List AV}(hj:h[j]?=some ⟨ver,5,cs⟩)(hn:n≤cs.length)(hb:Xn cs)(hl:n≤140737488351232):
  Ce Tp γ 32 [.own j ver n] h fun o h'=>o=.ret (.tup [])∧Fr (B8 j) h h':=by
 refine Ce.of Tryz.func32 rfl ?_;simp only[Tryz.f32,Af,seval];refine C1.intro (tuS γ (.own j ver n)) (fun y=>y.1≤n∧Fr (B8 j) h y.2∧∃ cs,y.2[j]?=some ⟨ver,5,cs⟩∧n≤cs.length∧Xn cs) (fun y=>n-y.1) (0,h) ⟨rfl,rfl,⟨rfl,rfl,trivial⟩,rfl⟩ ⟨BN _,Fr.refl _ _,cs,hj,hn,hb⟩ (fun y hy=>?_);obtain⟨k,h1⟩:=y;obtain⟨hk,f1,cs,hj,hn,hb⟩:=hy;simp only at hk f1 hj
 by_cases hlt:k<n
 ·have d1:decide (k<n)=true:=decide_eq_true hlt;obtain⟨x,hx⟩:∃ x,cs[k]?=some x:=⟨cs[k]'(by omega),List.getElem?_eq_getElem _⟩;obtain⟨v,rfl⟩:=hb x (List.mem_of_getElem? hx);have w1:IntKind.i64.wrap ((k:Int)+1)=((k+1:Nat):Int):=(A7 (by omega) (by omega)).trans (by omega);have hkl:k+1≤cs.length:=by omega
  simp only[tuS,Q4,hj,d1,hx,hkl,w1,Af,seval];refine⟨hlt,hlt,B3.intro (k+1,_) ⟨hlt,f1.trans (Fr.set (S:=B8 j) _ rfl) fun k e=>.inl e,cs.set k (.v (.int .u8 (IntKind.u8.wrap (v+91)))),Be (Bs.1 hj).1,by rw[Bl];exact hn,fun y hy=>?_⟩ ⟨rfl,rfl,⟨rfl,rfl,trivial⟩,rfl⟩ (by show n-(k+1)<n-k;clear w1;omega)⟩
  rcases List.mem_or_eq_of_mem_set hy with hy|hy
  ·exact hb y hy
  ·exact⟨_,hy⟩
 ·have d1:decide (k<n)=false:=decide_eq_false hlt;simp only[tuS,Q4,hj,d1,Af,seval]
  first|exact⟨rfl,f1⟩|exact f1
theorem YH(b c:Bool)(l:List UInt8)(hl:l.length≤140737488351232):
  Ev Tp γ 31 [.sl b l.length (l.length+2) ((l++[201,202]).map Ai),.sl c l.length l.length (l.map Ai)] (.v (.bool true)):=by
 have hs:=XY (γ:=γ) b c l [201,202] (l.length+2) hl;have e1:IntKind.i64.wrap ((l.length:Int)+2)=((l.length+2:Nat):Int):=by rw[A7]<;>omega
 have e2:IntKind.i64.wrap ((l.length:Int)+1)=((l.length+1:Nat):Int):=by rw[A7]<;>omega
 have c0:((l++[201,202]).map Ai)[l.length]?=some (Ai 201):=by rw[Bm,Br (BL _),Nat.sub_self];rfl
 have c1:((l++[201,202]).map Ai)[l.length+1]?=some (Ai 202):=by rw[Bm,Br (by omega),show l.length+1-l.length=1 by omega];rfl
 have u1:(((UInt8.toNat 201:Nat):Int)==201)=true:=rfl;have u2:(((UInt8.toNat 202:Nat):Int)==202)=true:=rfl;refine Ev.ofE Tryz.func31 rfl ?_;simp only[Tryz.f31,Q4,e1,Af,Nat.reduceAdd,Nat.reduceSub,Nat.reduceLT,Nat.reduceLeDiff,Nat.reduceEqDiff,reduceCtorEq];refine⟨BL _,Am.pure (Ae.intro c73 rfl hs ?_)⟩;simp only[Q4,e2,c0,c1,Ai,u1,u2,Af,Nat.reduceLT,Nat.reduceEqDiff,reduceCtorEq]
 all_goals first|done|(refine⟨by omega,?_⟩;first|done|rfl|omega|trace_state)|trace_state
theorem Vm(b:Bool):Ev Tp γ 73 [.sl b 0 2 (([]++[201,202]:List UInt8).map Ai),.v (.slice none 0 0)] (.v (.bool true)):=by
 have d0:(((0:Nat):Int) != ((0:Nat):Int))=false:=rfl;have d1:(((0:Nat):Int) != 0)=false:=rfl;have d2:decide (((0:Nat):Int)<((0:Nat):Int))=false:=rfl;have d3:decide ((0:Int)<((0:Nat):Int))=false:=rfl;have d4:decide (0<0)=false:=rfl;refine Ev.ofE Tryz.func73 rfl ?_;simp only[Tryz.f73,Q4,d1,Af,Nat.reduceAdd,Nat.reduceSub,Nat.reduceLT,Nat.reduceEqDiff,reduceCtorEq];refine C1.intro (kF γ (.sl b 0 2 (([]++[201,202]:List UInt8).map Ai)) (.v (.slice none 0 0))) (fun k=>k=0) (fun k=>0) 0 ⟨rfl,rfl,⟨rfl,rfl,rfl,trivial⟩,rfl⟩ rfl (fun k hk=>?_);subst hk;simp only[kF,Q4,Af,Nat.reduceLT,Nat.reduceEqDiff,reduceCtorEq]
theorem Wc(b:Bool):
  Ev Tp γ 31 [.sl b 0 2 (([]++[201,202]:List UInt8).map Ai),.v (.slice none 0 0)] (.v (.bool true)):=by
 have hs:=Vm (γ:=γ) b;have u1:(((UInt8.toNat 201:Nat):Int)==201)=true:=rfl;have u2:(((UInt8.toNat 202:Nat):Int)==202)=true:=rfl;have w2:IntKind.i64.wrap (((0:Nat):Int)+2)=2:=rfl;have w1:IntKind.i64.wrap (((0:Nat):Int)+1)=1:=rfl;refine Ev.ofE Tryz.func31 rfl ?_;simp only[Tryz.f31,Q4,w2,Af,Nat.reduceAdd,Nat.reduceSub,Nat.reduceLT,Nat.reduceLeDiff,Nat.reduceEqDiff,reduceCtorEq,Int.reduceToNat,Int.reduceLE];refine Am.pure (Ae.intro c73 rfl hs ?_);simp only[Q4,w1,Ai,u1,u2,Af,Nat.reduceAdd,Nat.reduceLT,Nat.reduceLeDiff,Nat.reduceEqDiff,reduceCtorEq,Int.reduceToNat,Int.reduceLE]
 all_goals first|done|decide|trace_state
def Rx(h:List Aa)(l:List UInt8)(o:Out)(h':List Aa):Prop:=Fr Cj h h'∧∃ j ver,h.length≤j∧o=.ret (.own j ver l.length)∧h'[j]?=some ⟨ver,5,(l++[201,202]).map Ai⟩
theorem Y8(b:Bool)(l:List UInt8)(hl:l.length≤140737488351232)(h:List Aa):
  Ce Tp γ 29 [.sl b l.length l.length (l.map Ai)] h (Rx h l):=by
 unfold Rx;refine Ce.of Tryz.func29 rfl ?_;have b5:FW Tp 5=some 1:=by kernel_rfl
 have z5:Ev.zeroT Tp 5=some (.int .u8 0):=by kernel_rfl
 have zc:zeroCells (.int .u8 0)=[.v (.int .u8 0)]:=rfl;have w0:IntKind.i64.wrap (((0:Nat):Int)+2)=2:=rfl;have s1:∀ (x:Aa) l,(h++x::l)[h.length]?=some x:=fun x l=>by simp
 by_cases h0:l=[]
 ·subst h0;simp only[Tryz.f29,b5,z5,zc,w0,Q4,Aw,AZ,Du,Bp,Nat.zero_add,List.take_zero,Bo,Bc,Bi,Af,Nat.reduceAdd,Nat.reduceSub,Nat.reduceLT,Nat.reduceLeDiff,Nat.reduceEqDiff,reduceCtorEq,List.reduceReplicate,Int.reduceToNat,Int.reduceLE,Int.reduceLT]
  (repeat' (first|(with_reducible refine aI ?_ ?_)|(first|(first|refine gF ?_ ?_|refine gT ?_ ?_|refine cI ?_ ?_|refine pI ?_ ?_)<;>intro h|(refine dI ?_;have h:=trivial))<;>simp only[h,b5,z5,zc,w0,B4,Q3,Q4,Aw,AZ,Du,Eb,List.length_singleton,Bp,Nat.zero_add,List.take_zero,Bo,Bc,Bi,Af,AB,Bv,Bf,Nat.reduceAdd,Nat.reduceSub,Nat.reduceMul,Nat.reduceLT,Nat.reduceLeDiff,Nat.reduceEqDiff,reduceCtorEq,List.reduceReplicate,Int.reduceToNat,Int.reduceLE,Int.reduceLT]))
  all_goals first|omega|(simp;done)|exact Fr.app (S:=Cj) _ _|exact EE _|exact⟨h.length,_,BL _,rfl,s1 _ _⟩|exact⟨h.length,_,BL _,rfl,by rw[List.map_append];exact s1 _ _⟩|trace_state
 ·have h1:l.length≠0:=by simpa using h0
  have e1:IntKind.i64.wrap ((l.length:Int)+2)=((l.length+2:Nat):Int):=by rw[A7]<;>omega
  simp only[Tryz.f29,b5,z5,zc,Q4,e1,Aw,AZ,Du,Bp,Nat.zero_add,List.take_zero,Bo,Bc,Bi,Af,Nat.reduceAdd,Nat.reduceSub,Nat.reduceLT,Nat.reduceLeDiff,Nat.reduceEqDiff,reduceCtorEq,List.reduceReplicate,Int.reduceLE]
  (repeat' (first|(with_reducible refine aI ?_ ?_)|(first|(first|refine gF ?_ ?_|refine gT ?_ ?_|refine cI ?_ ?_|refine pI ?_ ?_)<;>intro h|(refine dI ?_;have h:=trivial))<;>simp only[h,b5,z5,zc,w0,B4,Q3,Q4,Aw,AZ,Du,Eb,List.length_singleton,Bp,Nat.zero_add,List.take_zero,Bo,Bc,Bi,Af,AB,Bv,Bf,Nat.reduceAdd,Nat.reduceSub,Nat.reduceMul,Nat.reduceLT,Nat.reduceLeDiff,Nat.reduceEqDiff,reduceCtorEq,List.reduceReplicate,Int.reduceToNat,Int.reduceLE,Int.reduceLT]))
  all_goals first|omega|(simp;done)|exact Fr.app (S:=Cj) _ _|exact EE _|exact⟨h.length,_,BL _,rfl,s1 _ _⟩|exact⟨h.length,_,BL _,rfl,by rw[List.map_append];exact s1 _ _⟩|trace_state
theorem VO(h:List Aa):Ce Tp γ 29 [.v (.slice none 0 0)] h (Rx h []):=by
 unfold Rx;refine Ce.of Tryz.func29 rfl ?_;have b5:FW Tp 5=some 1:=by kernel_rfl
 have z5:Ev.zeroT Tp 5=some (.int .u8 0):=by kernel_rfl
 have zc:zeroCells (.int .u8 0)=[.v (.int .u8 0)]:=rfl;have w0:IntKind.i64.wrap ((0:Int)+2)=2:=rfl;have s1:∀ (x:Aa) l,(h++x::l)[h.length]?=some x:=fun x l=>by simp
 simp only[Tryz.f29,b5,z5,zc,w0,Q4,Aw,AZ,Du,Bp,Nat.zero_add,List.take_zero,Bo,Bc,Bi,Af,Nat.reduceAdd,Nat.reduceSub,Nat.reduceLT,Nat.reduceLeDiff,Nat.reduceEqDiff,reduceCtorEq,List.reduceReplicate,Int.reduceToNat,Int.reduceLE,Int.reduceLT]
 (repeat' (first|(with_reducible refine aI ?_ ?_)|(first|(first|refine gF ?_ ?_|refine gT ?_ ?_|refine cI ?_ ?_|refine pI ?_ ?_)<;>intro h|(refine dI ?_;have h:=trivial))<;>simp only[h,b5,z5,zc,w0,B4,Q3,Q4,Aw,AZ,Du,Eb,List.length_singleton,Bp,Nat.zero_add,List.take_zero,Bo,Bc,Bi,Af,AB,Bv,Bf,Nat.reduceAdd,Nat.reduceSub,Nat.reduceMul,Nat.reduceLT,Nat.reduceLeDiff,Nat.reduceEqDiff,reduceCtorEq,List.reduceReplicate,Int.reduceToNat,Int.reduceLE,Int.reduceLT]))
 all_goals first|omega|(simp;done)|exact Fr.app (S:=Cj) _ _|exact EE _|exact⟨h.length,_,BL _,rfl,s1 _ _⟩|exact⟨h.length,_,BL _,rfl,by rw[List.map_append];exact s1 _ _⟩|trace_state
def V9:Tr→Prop
 |.lf _ _ vk _ vr vt=>vk≠3∧vr<18446744073709551616∧vt.length≤140737488351232
 |.un _ a=>V9 a
 |.bi _ a b=>V9 a∧V9 b
theorem nd0(k a b:Int):YZ ⟨k,a,b,[],0,0,0,[]⟩:=⟨(by decide:(0:Int)≠3),(by decide:0<18446744073709551616),BN _⟩
theorem LR:dK []:=⟨BN _,fun _ h=>by cases h⟩
theorem fQ(t:Tr):∀ n,V9 t→∀ nd∈lay t n,YZ nd:=by
 induction t with
 |lf k nm vk vi vr vt=>intro n h nd hm;simp only[lay,Bj]at hm;subst hm;exact h
 |un k a ih=>
  intro n h nd hm;simp only[lay,List.mem_append,Bj]at hm
  rcases hm with hm|rfl
  ·exact ih n h nd hm
  ·exact nd0 k _ 0
 |bi k a b iha ihb=>
  intro n h nd hm;simp only[lay,List.mem_append,Bj]at hm
  rcases hm with (hm|hm)|rfl
  ·exact iha _ h.1 nd hm
  ·exact ihb _ h.2 nd hm
  ·exact nd0 k _ _
def okMd:Md→Prop
 |.lp _ a=>V9 a
 |_=>True
theorem bR(ts:List Tk)(hts:∀ t∈ts,Qo t):∀ (f:Nat) (m:Md) (p:Nat) (t:Tr) (q:Nat),okMd m→pr ts f m p=.ok t q→V9 t:=by
 intro f
 induction f with
 |zero=>intro m p t q _ h;cases m<;>cases h
 |succ f ih=>
  intro m p t q hm h;cases m with
  |bin n=>
   rw[pr]at h
   split at h
   ·exact ih .un _ _ _ trivial h
   ·split at h
    ·cases h
    ·rename_i a q' e;exact ih (.lp n a) _ _ _ (ih (.bin (n+1)) _ _ _ trivial e) h
  |lp n a=>
   rw[pr]at h
   split at h
   ·cases h;exact hm
   ·split at h
    ·cases h
    ·rename_i b q' e;have kb:=ih (.bin (n+1)) _ _ _ trivial e
     split at h
     ·cases h;exact And.intro hm kb
     ·exact ih (.lp n (.bi _ a b)) _ _ _ (And.intro hm kb) h
  |un=>
   rw[pr]at h
   split at h
   ·split at h
    ·cases h
    ·rename_i a q' e;have ka:=ih .un _ _ _ trivial e;cases h;exact ka
   ·exact ih .fs _ _ _ trivial h
  |fs=>
   rw[pr]at h
   split at h
   ·split at h
    ·cases h
    ·rename_i a q' e
     split at h
     ·cases h;exact ih (.bin 1) _ _ _ trivial e
     ·cases h
   ·split at h
    ·cases h
    ·rename_i t' e;have kt:=hts _ (List.mem_of_getElem? e)
     repeat' split at h
     all_goals first
      |(cases h;done)
      |(cases h;exact⟨by decide,by decide,by decide⟩)
      |(cases h;exact⟨(by decide:(2:Int)≠3),kt.2,by decide⟩)
      |(cases h;exact⟨(by decide:(4:Int)≠3),by decide,kt.1⟩)
      |exact ih (.nm _) _ _ _ trivial h
  |nm s=>
   rw[pr]at h
   split at h
   ·cases h;exact⟨by decide,by decide,by decide⟩
   split at h
   ·cases h;exact⟨by decide,by decide,by decide⟩
   split at h
   ·cases h;exact⟨by decide,by decide,by decide⟩
   split at h
   ·cases h
   split at h
   ·cases h
   rename_i a q' e;have ka:=ih (.bin 1) _ _ _ trivial e
   split at h
   ·split at h
    ·cases h
    split at h
    ·cases h
    rename_i b r e2;have kb:=ih (.bin 1) _ _ _ trivial e2
    split at h
    ·cases h;exact⟨ka,kb⟩
    ·cases h
   ·split at h
    ·cases h;exact ka
    ·cases h
def DR.all{α:Type}(P:α→Prop):DR α→Prop
 |.ok x _=>P x
 |.bad _ _=>True
theorem all_bind{α β:Type}{P:α→Prop}{Q:β→Prop}{r:DR α}{f:α→Nat→DR β}(h:r.all P)(hf:∀ x q,P x→(f x q).all Q):(r.bind f).all Q:=by
 cases r with
 |ok x q=>exact hf x q h
 |bad q e=>trivial
theorem Ej{α:Type}(r:DR α):r.all fun _=>True:=by cases r<;>trivial
def L4(ts:List Tk):Prop:=ts.length≤32769∧∀ t∈ts,Qo t
theorem JX{ts:List Tk}(h:L4 ts)(p:Nat):(FO ts p).all dK:=by
 unfold FO
 split
 ·rename_i hz;show dK (Ci ts p).1;unfold Ci at hz⊢
  split
  ·exact LR
  ·rename_i hn;rw[if_neg hn]at hz
   split
   ·exact LR
   ·rename_i t q e
    split
    ·rename_i hk;refine⟨?_,fQ t 0 (bR _ (fun t ht=>h.2 t (List.mem_of_mem_take ht)) _ (.bin 1) _ _ _ trivial e)⟩;show (lay t 0).length≤_;rw[AX];unfold EJ at hk
     by_cases h64:64<t.size
     ·rw[if_pos h64]at hk;cases hk
     ·omega
    ·exact LR
 ·trivial
theorem RX{α:Type}{P:α→Prop}{ts:List Tk}{I:Nat→DR α}(hI:∀ p,(I p).all P):∀ (f:Nat) (l:List α) (p:Nat),(∀ x∈l,P x)→(Gb ts I f l p).all fun r=>r.length≤l.length+f∧∀ x∈r,P x
 |0,l,p,_=>trivial
 |f+1,l,p,hl=>by
  rw[Gb]
  split
  ·exact⟨by omega,hl⟩
  split
  ·refine all_bind (hI _) fun x q hx=>?_
   have k:=RX (ts:=ts) hI f (l++[x]) q (fun y hy=>(List.mem_append.1 hy).elim (hl y) fun hy=>by rw[Bj.1 hy];exact hx);rw[Bp]at k;cases e:Gb ts I f (l++[x]) q with
   |ok y z=>rw[e]at k;exact⟨by have:=k.1;simp only[List.length_singleton]at this;omega,k.2⟩
   |bad=>trivial
  ·trivial
theorem Ni{α:Type}{P:α→Prop}{ts:List Tk}{I:Nat→DR α}(h:ts.length≤32769)(hI:∀ p,(I p).all P)(p:Nat):(Hj ts I p).all fun r=>r.length≤2000000∧∀ x∈r,P x:=by
 unfold Hj;refine all_bind (Ej _) fun _ p1 _=>?_
 split
 ·exact⟨BN _,fun _ h=>by cases h⟩
 ·refine all_bind (hI _) fun x q hx=>?_
  have k:=RX (ts:=ts) hI (ts.length+1) [x] q (fun y hy=>by rw[Bj.1 hy];exact hx);cases e:Gb ts I (ts.length+1) [x] q with
  |ok y z=>rw[e]at k;exact⟨by have:=k.1;simp only[List.length_singleton]at this;omega,k.2⟩
  |bad=>trivial
def eO(p:Pt):Prop:=p.vars.length≤2000000
theorem QJ{ts:List Tk}(h:L4 ts)(p:Nat):(EN ts p).all eO:=by
 unfold EN;refine all_bind (Ej _) fun n p1 _=>?_
 exact all_bind (Ni h.1 (fun p=>Ej _) _) fun l p2 hl=>hl.1
theorem bQ{ts:List Tk}(h:L4 ts)(p:Nat):(Es ts p).all Y7:=by
 have x0:dK []:=⟨by decide,fun _ h=>by cases h⟩;unfold Es
 split
 ·refine all_bind (JX h _) fun x p1 hx=>all_bind (Ej _) fun n p2 _=>all_bind (Ni h.1 (JX h) _) fun l p3 hl=>⟨hx,hl⟩
 split
 ·exact all_bind (Ej _) fun n p1 _=>all_bind (Ej _) fun _ p2 _=>all_bind (Ej _) fun v p3 _=>⟨x0,BN _,fun _ h=>by cases h⟩
 split
 ·exact all_bind (Ni h.1 (JX h) _) fun l p1 hl=>⟨x0,hl⟩
 split
 ·exact all_bind (Ej _) fun n p1 _=>⟨x0,BN _,fun _ h=>by cases h⟩
 ·trivial
theorem Sl{ts:List Tk}(h:L4 ts):∀ (f:Nat) (l:List Ac) (p:Nat),(∀ x∈l,Y7 x)→(D7 ts f l p).all fun r=>r.length≤l.length+f∧∀ x∈r,Y7 x
 |0,l,p,_=>trivial
 |f+1,l,p,hl=>by
  rw[D7]
  split
  ·exact⟨by omega,hl⟩
  ·refine all_bind (bQ h _) fun a p1 ha=>all_bind (Ej _) fun _ p2 _=>?_
   have k:=Sl h f (l++[a]) p2 (fun y hy=>(List.mem_append.1 hy).elim (hl y) fun hy=>by rw[Bj.1 hy];exact ha);rw[Bp]at k;cases e:D7 ts f (l++[a]) p2 with
   |ok y z=>rw[e]at k;exact⟨by have:=k.1;simp only[List.length_singleton]at this;omega,k.2⟩
   |bad=>trivial
theorem OB{ts:List Tk}(h:L4 ts):∀ (f:Nat) (l:List Pt) (p:Nat),(∀ x∈l,eO x)→(Dl ts f l p).all fun r=>r.length≤l.length+f∧∀ x∈r,eO x
 |0,l,p,_=>trivial
 |f+1,l,p,hl=>by
  rw[Dl]
  split
  ·refine all_bind (QJ h _) fun a p1 ha=>?_
   have k:=OB h f (l++[a]) p1 (fun y hy=>(List.mem_append.1 hy).elim (hl y) fun hy=>by rw[Bj.1 hy];exact ha);rw[Bp]at k;cases e:Dl ts f (l++[a]) p1 with
   |ok y z=>rw[e]at k;exact⟨by have:=k.1;simp only[List.length_singleton]at this;omega,k.2⟩
   |bad=>trivial
  ·exact⟨by omega,hl⟩
theorem VP{ts:List Tk}(h:L4 ts)(p:Nat):(D0 ts p).all dK:=by
 unfold D0
 split
 ·exact JX h _
 ·exact⟨by decide,fun _ h=>by cases h⟩
theorem W9{ts:List Tk}(h:L4 ts)(p:Nat):(EV ts p).all YG:=by
 have hb:=h.1;unfold EV;refine all_bind (Ej _) fun _ p1 _=>all_bind (Ej _) fun n p2 _=>all_bind (Ej _) fun _ p3 _=>all_bind (QJ h _) fun x p4 hx=>?_
 refine all_bind (OB h _ [x] _ (fun y hy=>by rw[Bj.1 hy];exact hx)) fun l p5 hl=>all_bind (VP h _) fun g p6 hg=>?_
 unfold DX;refine all_bind (all_bind (Ej _) fun _ p7 _=>Sl h _ [] _ (fun _ h=>by cases h)) fun b p8 hb2=>?_
 have h1:=hl.1;have h2:=hb2.1;simp only[List.length_singleton,BD]at h1 h2;exact⟨by show l.length≤_;omega,hl.2,hg,by show b.length≤_;omega,hb2.2⟩
theorem X5{α:Type}{P:α→Prop}{z:α}{D:List Tk→DR α}(hz:P z)(hD:∀ ts,L4 ts→(D ts).all P)(l:List UInt8):P (EM z D l).1:=by
 unfold EM
 split
 ·split<;>exact hz
 ·rename_i L e;have k:=hD (L.map EH) ⟨by rw[Bk];exact JO e,Pw e⟩
  split
  ·exact hz
  ·rename_i x q ex;rw[ex]at k
   split
   ·exact hz
   ·exact k
theorem fC:YG dL:=⟨BN _,fun _ h=>(List.not_mem_nil h).elim,LR,BN _,fun _ h=>(List.not_mem_nil h).elim⟩
theorem WJ(l:List UInt8):YG (CD l).1:=X5 (P:=YG) fC (fun ts h=>W9 h 0) l
theorem kM{P:Program}{H:List Aa}{i n m:Nat}{k:Aa}{ys zs zs':List AV}(h:H[i]?=some k)(hp:ys<+:k.cells)(hm:n≤m)(hc:m=n∨(0<P.cellsOf k.e∧m * P.cellsOf k.e≤k.cells.length))(hv:∀ y∈ys,∃ v,y=AV.v v)(hz:EW P H true zs zs'):EW P H true (.sl true n m ys::zs) (.own i k.ver n::zs'):=by
 simp only[EW];refine⟨_,_,rfl,?_,hz⟩;simp only[fz];exact .inr ⟨trivial,i,k,ys,rfl,h,hm,hc,hp,Me P H true ys hv⟩
theorem jV{P:Program}{H:List Aa}{b:Bool}{n m:Nat}{ys:List AV}:EW P H true [.sl b n m ys] [.sl b n m ys]:=by
 simp only[EW];exact⟨_,_,rfl,by simp only[fz];exact .inl trivial,rfl⟩
theorem Nw:∀ xs ys:List AV,AO (xs++ys)=(AO xs&&AO ys)
 |[],ys=>by simp only[Bi,AO,Bool.true_and]
 |x::xs,ys=>by simp only[Bc,AO,Nw xs ys,Bool.and_assoc]
theorem Jn{n:Nat}{cs:List AV}(h:AO cs=true):CJ (NF n cs)=true:=by
 cases n with
 |zero=>rfl
 |succ n=>simp only[NF,CJ,Bf,Bool.true_and];exact h
theorem IK{α:Type}{f:α→List AV}(hf:∀ x,AO (f x)=true):∀ l:List α,AO (l.flatMap f)=true
 |[]=>by simp only[List.flatMap_nil,AO]
 |x::l=>by rw[BE,Nw,hf x,IK hf l];rfl
theorem Ig{α:Type}{f:α→AV}(hf:∀ x,CJ (f x)=true):∀ l:List α,AO (l.map f)=true
 |[]=>by simp only[List.map_nil,AO]
 |x::l=>by rw[BA];simp only[AO,hf x,Ig hf l,Bool.and_self]
theorem Tt(l:List (List UInt8)):CJ (GY l)=true:=Jn (Ig (fun _=>rfl) l)
theorem Xm(c:Ch):AO c.cells=true:=by
 simp only[Ch.cells,AO,Aj,Iy,E7,Ga,Jn (IK (f:=Pt.cells) (fun p=>by simp only[Pt.cells,AO,Aj,CJ,Tt,Bool.and_self]) c.parts),Jn (IK (f:=Ac.cells) (fun a=>by simp only[Ac.cells,AO,Aj,Bb,CJ,Iy,Eo,Jn (Ig Iy a.args),Bool.and_self]) c.body),CJ,Bool.and_self]
theorem Ph(l:List UInt8):CJ (El l)=true:=by
 simp only[El,CJ,AO,Ch.av,Bb,Xm,Bool.and_self]
theorem Jw(hγ:Gl γ)(hγ2:SY γ)(x:AV)(s:List UInt8)(l:List UInt8)(hl:l.length≤140737488351232)(ht:A4 [x]=true)(hf:∀ H,EW Tp H true [x] [x])(hq:Ev Tp γ 28 [x] (El l))(hx:∀ h,Ce Tp γ 29 [x] h (Rx h l))(hk:Ev Tp γ 31 [.sl true l.length (l.length+2) ((l++[201,202]).map Ai),x] (.v (.bool true))):Ev Tp γ 6 [x,.v (.string ⟨s.toArray⟩)] (.v (.bool true)):=by
 have ok:=WJ l;have hnb:=Ph l;have hce:=WG (γ:=γ) (CD l).1 ok;have hpe:=NL hγ hγ2 true l hl;have p1:∀ l,Cd (E7 l)=true∧flat (E7 l)=some [E7 l]:=fun l=>by cases l<;>exact⟨rfl,rfl⟩
 have p2:∀ l,Cd (Ga l)=true∧flat (Ga l)=some [Ga l]:=fun l=>by cases l<;>exact⟨rfl,rfl⟩
 have p3:∀ l,Cd (Ab l)=true∧flat (Ab l)=some [Ab l]:=fun l=>by cases l<;>exact⟨rfl,rfl⟩
 refine Ev.ofE Tryz.func6 rfl ?_;simp only[Tryz.f6,Af,seval];refine Am.pure (Ae.intro c28 ht hq ?_);simp only[El,Ch.av,Ch.cells,Bb,Aj]at hnb hce hpe⊢;generalize CD l=C at *;obtain⟨⟨nm,ps,gd,bo⟩,pl,er⟩:=C;simp only at ok hce hnb hpe⊢;obtain⟨o1,g1⟩:=p1 ps;obtain⟨o2,g2⟩:=p2 bo;obtain⟨o3,g3⟩:=p3 gd;have htr:A4 [.agg [.v (.string ⟨nm.toArray⟩),E7 ps,Ab gd,Ga bo],.agg [.v (.string ⟨nm.toArray⟩),E7 ps,Ab gd,Ga bo]]=true:=by cases ps<;>cases gd<;>cases bo<;>rfl
 generalize E7 ps=A1 at *;generalize Ab gd=A2 at *;generalize Ga bo=A3 at *;clear ok p1 p2 p3;simp only[B4,o1,o2,o3,Af,seval];refine Am.intro c29 _ (hx _) (fun r h1 hh=>?_) (fun v h1 hh=>by obtain⟨_,_,_,_,e,_⟩:=hh;cases e);obtain⟨f1,j,ver,hj1,e,hj⟩:=hh;cases e;have k0:h1[0]?=some ⟨0,59,[.v (.string ⟨nm.toArray⟩),A1,A2,A3]⟩:=f1.at rfl fun e=>e
 have hpre:l.map Ai<+:(l++[201,202]).map Ai:=by rw[List.map_append];exact List.prefix_append _ _
 have hjl:j<h1.length:=(Bs.1 hj).1;have gj:∀ l',(h1++l')[j]?=some ⟨ver,5,(l++[201,202]).map Ai⟩:=fun l'=>(Ba hjl).trans hj
 have e0:(er==er)=true:=by simp
 have e1:(pl==pl)=true:=by simp
 have e2:(SC s==SC s)=true:=by simp
 simp only[Af,seval];refine Am.pure (Ae.lend c30 _ (Oy hj hpre (Mc l)) hpe hnb ?_);simp only[B4,o1,o2,o3,Aw,Du,Af,seval];refine Am.pure (Ae.lend c31 _ (kM (m:=l.length+2) (gj _) BB (by omega) (.inr ⟨by rw[y5];decide,by rw[y5];simp⟩) (Mc _) (hf _)) hk rfl ?_);simp only[Af,Bv,seval];refine Am.intro bB _ (ZV (gj _) (by simp) (fun y hy=>by obtain⟨z,_,rfl⟩:=List.mem_map.1 hy;exact⟨_,rfl⟩) (by omega)) (fun r h2 hh=>?_) (fun v h2 hh=>by cases hh.1);obtain⟨e,f2⟩:=hh;cases e;have f2:Fr (B8 j) (h1++[⟨0,59,[.v (.string ⟨nm.toArray⟩),A1,A2,A3]⟩]) h2:=f2;have hj1:1≤j:=hj1;have k1:h2[h1.length]?=some ⟨0,59,[.v (.string ⟨nm.toArray⟩),A1,A2,A3]⟩:=f2.at (Aw _ _ _) fun e=>by have e:h1.length=j:=e;omega
 have k2:h2[0]?=some ⟨0,59,[.v (.string ⟨nm.toArray⟩),A1,A2,A3]⟩:=f2.at ((Ba (by omega)).trans k0) fun e=>by have e:0=j:=e;omega
 simp only[Af,seval];refine Am.pure (Ae.intro c33 rfl (aM er) ?_);simp only[B4,k1,k2,e0,e1,Af,seval];refine Am.pure (Ae.intro jU htr hce ?_);simp only[Af,seval];refine Am.pure (Ae.intro iZ rfl (Ny s) ?_);simp only[Af,seval];refine Am.pure (Ae.intro c36 rfl (Lr s) ?_);simp only[Q3,e2,Af,seval]
open Go Go.Ev Go.Lib
open Go.ChangeShapes Go.WideShapes Go.ChangeAt Go.RowKit
open Go.ChangeMaps (open_string shut_string)
theorem own:ownKnob Tryz.prog.godebug=none:=by kernel_rfl
theorem laidOut:laidOutB Tp=true:=by kernel_rfl
abbrev UZ:List (String×DataW Unit):=[("math/bits.deBruijn32tab",Rows.laid_math_bits_deBruijn32tab),("math/bits.deBruijn64tab",Rows.laid_math_bits_deBruijn64tab),("internal/strconv.uint64pow10",Rows.laid_internal_strconv_uint64pow10),("strconv.ErrRange",Rows.laid_strconv_ErrRange),("strconv.ErrSyntax",Rows.laid_strconv_ErrSyntax)]
def Mj:DataW Unit→List Value
 |.agg ds=>ds.map fun|.lit (.int k n)=>.int k n|_=>.nilIface
 |_=>[]
abbrev Zh:ByteArray:={ data:= #[118,97,108,117,101,32,111,117,116,32,111,102,32,114,97,110,103,101] }
abbrev WE:ByteArray:={ data:= #[105,110,118,97,108,105,100,32,115,121,110,116,97,120] }
noncomputable abbrev N0:Nat:=(World.settled Tp default).heap.size
noncomputable def H9(os:Os):World:=
 let N:=(World.settled Tp os).heap.size
 let w0:=World.holding Tp os ⟨#[.cells #[.string Zh] 308,.cells #[.string WE] 308],#[],[]⟩
 let put (h:Array Obj) (g:Nat) (cs:Array Value):Array Obj:=h.modify g fun
  |.cells _ t frozen=>.cells cs t frozen
  |o=>o
 let h1:=put w0.heap 5 (Mj Rows.laid_math_bits_deBruijn32tab).toArray
 let h2:=put h1 6 (Mj Rows.laid_math_bits_deBruijn64tab).toArray
 let h3:=put h2 4 (Mj Rows.laid_internal_strconv_uint64pow10).toArray
 let h4:=put h3 3 #[.iface 306 (.pointer (some ⟨N,0,none⟩))]
 let h5:=put h4 2 #[.iface 306 (.pointer (some ⟨N+1,0,none⟩))]
 {w0 with heap:=h5 }
theorem WD(os:Os)(args:Array Value):LaidIn Tp ((H9 os).forCall (fun _ _=>0) ⟨#[],args,[]⟩).memory UZ [5,6,4,3,N0,2,N0+1]:=
 LaidIn.of_run [5,6,4,3,N0,2,N0+1] 8 (by kernel_rfl) (by kernel_rfl) (by kernel_rfl) (by kernel_rfl)
theorem Yu(os:Os)(args:Array Value):laidMet Tp UZ ((H9 os).forCall (fun _ _=>0) ⟨#[],args,[]⟩).memory:=(WD os args).met
theorem NQ{W:World}(h:laidMet Tp UZ W):∃ te pe,W.cell? ⟨3,0,none⟩=some (.iface te pe):=by
 have gR:Tryz.prog.globalNamed "strconv.ErrRange" = some 3:=by kernel_rfl
 obtain⟨a,s,hv,_⟩:=laid_sentinel (n := "strconv.ErrRange") (nm := "*errors.errorString") (ti:=169) (tp:=306) (te:=308) (ts:=9) h.tail.tail.tail gR (by kernel_rfl) Tryz.underlying169
  (fun u hu=>typeName_ptr_named (nm := "errors.errorString") (by kernel_rfl) (by kernel_rfl) (by decide) u hu) Tryz.underlying306 Tryz.underlying308 rfl rfl Tryz.underlying9 (by kernel_rfl) (by kernel_rfl)
 exact⟨306,.pointer (some a),by simpa using World.var?_cell gR hv 0⟩
theorem Pk{P:Program}{w:World}{g:Nat}{t:TypeId}{k:IntKind}{zero:Array Value}(h:w.ShapedOpen P)(hg:g<P.globals.size)
  (h0:((begin P (fun _ _=>0) default).world.heap[g]?).bind Obj.row?=some (zero,t)) (hz:zero.size=1)
  (hb:P.buildable t=true) (hc:P.cellTypes P.depth t=some [t]) (hu:P.underlying t=some (.int k)):∃ n,w.cell? ⟨g,0,none⟩=some (.int k n):=by
 obtain⟨cs,hh,hs,hr⟩:=h.1 g zero t hg h0;obtain⟨ts,hts,_,hall⟩:=hr hb;rw[hc]at hts;cases hts;have h1:0<cs.size:=by omega
 obtain⟨u,hu',hok⟩:=hall 0 cs[0] (by simp[h1]);have:u=t:=by simpa using hu'.symm
 subst this;have hcell:w.cell? ⟨g,0,none⟩=some cs[0]:=by simp[World.cell?,hh,h1]
 rw[hcell];unfold Cell.ok at hok;rw[hu]at hok;cases hv:cs[0]<;>rw[hv]at hok<;>first|exact hok.elim|(obtain⟨rfl,_⟩:=hok;exact⟨_,rfl⟩)
theorem QU{W:World}(h:W.ShapedOpen Tp):∃ m,W.cell? ⟨1,0,none⟩=some (.int .i64 m):=
 Pk (zero:= #[.int .i64 0]) h (of_decide_eq_true (by kernel_rfl)) (by kernel_rfl) rfl (by kernel_rfl) (by kernel_rfl) Tryz.underlying3
theorem VS{P:Program}{w:World}{r:Reach}{base:Nat}{t e:TypeId}{v:Value}(ht:P.underlying t=some (.slice e))(h:Value.okWide P w r base t v):
  v=.slice none 0 0∨∃ b off len cap,v=.slice (some ⟨b,off,none⟩) len cap∧len≤cap∧b<w.heap.size:=by
 simp only[Value.okWide,ht,Cell.okWide]at h;cases v<;>simp_all [Cell.ok]
 rename_i a len cap;cases a with
 |none=>left;cases len<;>cases cap<;>simp_all
 |some a=>
  right
  have h':len≤cap∧(cap:Int)≤9223372036854775807∧World.has P w r base a e cap:=h;obtain⟨h1,_,_,hs,row,cells,hsh,_⟩:=h';obtain⟨b,off,spot⟩:=a;simp only at hs hsh;subst hs;refine⟨b,off,len,cap,⟨rfl,rfl,rfl⟩,h1,?_⟩;unfold World.shape? at hsh
  by_cases hb:b<w.heap.size
  ·exact hb
  ·rw[BQ (by omega)]at hsh;cases hsh
theorem V8{H:Type}{enc:TypeId×Value→H}{P:Program}{W:World}{base:Nat}{spare:Nat→Bool}{held:Bool}{t e:TypeId}{k:IntKind}{a:Option Addr}{len cap:Nat}{d:DataW H}{ps:List MemPlace}{ts:List TypeId}{ds:List (DataW H)}{j:Nat}
  (hsz:(DataW.weightsEach P ts ds).all (·≤ reachBytes)=true) (ht:ts[j]?=some t) (hd:ds[j]?=some d) (hu:P.underlying t=some (.slice e)) (he:P.underlying e=some (.int k)) (hc:P.cellsOf e=1) {B:Nat} (hB:P.bytesOf e=B)
  (h:DataW.Trod enc P W base spare held t (.slice a len cap) d ps):len * B≤140737488351232:=by
 obtain⟨fuel,hf⟩:=h
 rcases open_ints hu he hc hf with⟨hcs,_⟩|⟨x,l,c,zs,hcs,_,hl,_,hz,hx,_,_⟩
 ·simp[Value.cells]at hcs;obtain⟨rfl,rfl,rfl⟩:=hcs;simp
 ·simp[Value.cells]at hcs;obtain⟨rfl,rfl,rfl⟩:=hcs;obtain⟨hx,_⟩:=Prod.mk.inj hx;subst hx;have z:=sized_slice hsz ht hd hu;rw[hB]at z
  have hl2:len≤zs.length:=by
   rw[hz]
   split
   ·exact hl
   ·exact BL _
  have h1:(lits (H:=H) k (zs.take len)).length+(lits (H:=H) k (zs.drop len)).length=zs.length:=by
   simp[lits]
   omega
  rw[h1]at z;exact BM (Nat.mul_le_mul_right _ hl2) z
theorem jP{W:World}{c:Cx}(hcw:c.w=W)(hok:∀ r,r<W.heap.size→c.ok false r){v:Value}{a:Option Addr}{len cap:Nat}{zs:List Int}(hv:v=.slice a len cap)
  (hs:v=.slice none 0 0∨∃ b off len cap,v=.slice (some ⟨b,off,none⟩) len cap∧len≤cap∧b<W.heap.size)
  (hz:zs.length=cap) (hcell:∀ x,a=some x→∀ i,i<zs.length→W.cell? (x.add i)=some (.int .u8 (zs.getD i 0))) (hw:∀ n∈zs,(Lit.int .u8 n).wf=true) :
  ∃ l:List UInt8,l.length=len∧((v=.slice none 0 0∧l=[]∧rel (.v (.slice none 0 0)) c v)∨rel (.sl false l.length l.length (l.map Ai)) c v):=by
 rcases hs with rfl|⟨b,off,len',cap',rfl,h1,h2⟩
 ·cases hv;exact⟨[],rfl,.inl ⟨rfl,rfl,by simp only[rel]⟩⟩
 ·cases hv;have hl:((zs.take len).map fun n=>UInt8.ofNat n.toNat).length=len:=by rw[Bk,Bh];omega
  refine⟨(zs.take len).map fun n=>UInt8.ofNat n.toNat,hl,.inr ?_⟩;rw[hl];simp only[rel];refine⟨b,off,cap,rfl,BL _,h1,hok b h2,CC fun j x hj=>?_⟩;simp only[List.map_map,Bm,BY]at hj
  split at hj
  ·rename_i hjl;have hjz:j<zs.length:=by omega
   have hg:zs[j]?=some zs[j]:=by simp[hjz]
   rw[hg]at hj;simp only[Option.map_some,Option.some.injEq,Function.comp]at hj;subst hj;refine⟨.int .u8 (UInt8.ofNat zs[j].toNat).toNat,?_,by simp only[Ai,rel]⟩;have:=hcell _ rfl j hjz
   have ea:(⟨b,off,none⟩:Addr).add j=⟨b,off+j,none⟩:=by
    simp only[Addr.add]
    by_cases h0:j=0
    ·subst h0;simp
    ·simp[h0]
   rw[ea]at this;rw[show c.shut.w=W from hcw,this];have hw':=hw zs[j] (List.getElem_mem hjz);have hzd:zs.getD j 0=zs[j]:=by simp[List.getD,hg]
   rw[hzd];have hb:0≤zs[j]∧zs[j]≤255:=by simpa[Lit.wf,IntKind.min,IntKind.max,IntKind.signed,IntKind.bits]using hw'
   have:((UInt8.ofNat zs[j].toNat).toNat:Int)=zs[j]:=by
    rw[UInt8.toNat_ofNat_of_lt' (by show _<256;omega)]
    omega
   rw[this]
  ·simp at hj
def jA(m:Int)(te:TypeId)(pe:Value):List (Nat×AV):=[(1,.ela false [.v (.int .i64 m)]),(3,.ela false [.v (.iface te pe)])]
theorem Yp(m:Int)(te:TypeId)(pe:Value):Gl (jA m te pe):=⟨⟨m,rfl⟩,te,pe,rfl⟩
theorem Qh(m:Int)(te:TypeId)(pe:Value):SY (jA m te pe):=by
 intro k;unfold jA;simp only[Go.Ev.look]
 split
 ·exact .inr ⟨_,rfl⟩
 ·split
  ·exact .inr ⟨_,rfl⟩
  ·exact .inl rfl
theorem eP{m:Int}{te:TypeId}{pe:Value}{W:World}(h1:W.cell? ⟨1,0,none⟩=some (.int .i64 m))(h4:W.cell? ⟨3,0,none⟩=some (.iface te pe)):ZH (jA m te pe) W:=by
 have lt:∀ g u,W.cell? ⟨g,0,none⟩=some u→g<W.heap.size:=fun g u h=>by
  by_cases hg:g<W.heap.size
  ·exact hg
  ·unfold World.cell? at h;simp only[BQ (Nat.le_of_not_lt hg)]at h;cases h
 intro k x e;unfold jA at e;simp only[Go.Ev.look]at e
 split at e
 ·rename_i hk;subst hk;simp only[AV.ela.injEq,List.cons.injEq,AV.v.injEq,and_true,true_and]at e;subst e;exact⟨lt _ _ h1,h1⟩
 ·split at e
  ·rename_i hk;subst hk;simp only[AV.ela.injEq,List.cons.injEq,AV.v.injEq,and_true,true_and]at e;subst e;exact⟨lt _ _ h4,h4⟩
  ·cases e
theorem Ls{f:FuncId}{args:List AV}{res:AV}{m:Int}{te:TypeId}{pe:Value}{W:World}{vs:Array Value}(h:Ev Tp (jA m te pe) f args res)
  (h1:W.cell? ⟨1,0,none⟩=some (.int .i64 m)) (h4:W.cell? ⟨3,0,none⟩=some (.iface te pe)) (hr:Ar args (K8 Tp (fun _=>False) (fun _=>False) W) vs.toList) :
  Calls Tp f vs W fun e w'=>∃ u,e=.returned u∧rel res (K8 Tp (fun _=>False) (fun _=>False) w') u∧Below W.heap.size W w':=
 h _ _ W vs (fun _ h=>h.elim) (fun k=>Pf (c:=K8 Tp (fun _=>False) (fun _=>False) W) (Qh m te pe) (eP h1 h4) rfl (fun r hr=>⟨hr,fun h=>h⟩) k) hr
namespace declChords
set_option maxRecDepth 100000 in
theorem Yq(H:Type)(enc:TypeId×Value→H)(W:World)(base:Nat)(args:Array Value)(ds gs:List (DataW H))(before:List MemPlace)
  (hval:∀ (j:Nat) t v,Tryz.f6.params[j]?=some t→args[j]?=some v→Value.okWide Tp W .any base t v)
  (hW:DataW.Whole enc Tp Tryz.f6.params.toList Rows.declChordsSpec.vars false W args.toList ds gs before)
  (hsz:(DataW.weightsEach Tp (Tryz.f6.params.toList++Rows.declChordsSpec.plain.varTypes Tp) (ds++gs)).all (·≤ reachBytes)=true)
  (hL:laidMet Tp UZ W) (hS:W.ShapedOpen Tp) :
  Calls Tp 6 args W fun e W'=>∃ v,e=.returned v∧Rows.declChordsSpec.post enc Tp Tryz.f6 false true false false W args v W':=by
 have hW':=hW;obtain⟨p,q,hA0,hV,rfl,hfz,hnd⟩:=hW;have hA:DataW.TrodAll enc Tp W 0 (fun _=>true) true Tryz.f6.params.toList args.toList ds p:=hA0;rw[Tryz.params6]at hA hval hsz;obtain⟨v0,vs0,d0,ds0,p0,q0,hargs,rfl,rfl,h0,r0⟩:=trodAll_cons hA;obtain⟨v1,vs1,d1,ds1,p1,q1,hargs1,rfl,rfl,h1,r1⟩:=trodAll_cons r0;obtain⟨rfl,rfl,rfl⟩:=trodAll_nil r1;obtain rfl:args = #[v0,v1]:=by cases args;simp_all
 obtain⟨rfl,rfl⟩:=trodVars_none hV;obtain⟨a2,rfl,rfl,rfl,y2⟩:=open_string Tryz.underlying9 (hval 1 9 v1 rfl rfl) h1;have hs0:=VS Tryz.underlying37 (hval 0 37 v0 rfl rfl);obtain⟨a0,len0,cap0,hv0⟩:=okWide_slice Tryz.underlying37 (hval 0 37 v0 rfl rfl);have k0:=h0;have lt0:∀ x∈p0,x.block<W.heap.size:=by obtain⟨m,hm⟩:=k0;exact DataW.trod_lt m _ _ _ hm
 have y0:len0 * 1≤140737488351232:=by
  rw[hv0]at h0;exact V8 hsz (j:=0) (t:=37) rfl rfl Tryz.underlying37 Tryz.underlying5 (by kernel_rfl) (by kernel_rfl) h0
 let c:Cx:=K8 Tp (fun _=>False) (fun _=>False) W
 have hrow:∃ l:List UInt8,l.length=len0∧((v0=.slice none 0 0∧l=[]∧rel (.v (.slice none 0 0)) c v0)∨rel (.sl false l.length l.length (l.map Ai)) c v0):=by
  have h0':=h0;rw[hv0]at h0';obtain⟨fuel,hf⟩:=h0'
  rcases open_ints Tryz.underlying37 Tryz.underlying5 (by kernel_rfl) hf with⟨hcs,_⟩|⟨x,l,cp,zs,hcs,_,hl,hm,hz,_,hcell,hwz⟩
  ·simp[Value.cells]at hcs;obtain⟨rfl,rfl,rfl⟩:=hcs;exact⟨[],rfl,.inl ⟨hv0,rfl,by simp only[rel];exact hv0⟩⟩
  ·simp[Value.cells]at hcs;obtain⟨rfl,rfl,rfl⟩:=hcs;exact jP (c:=c) rfl (fun r hr=>⟨hr,by simp⟩) hv0 hs0 (by simpa using hz) (fun y hy=>by cases hy;exact hcell) hwz
 clear hA0 hsz;obtain⟨l,hl,hrow⟩:=hrow;have hl':l.length≤140737488351232:=by omega
 obtain⟨m,hm⟩:=QU hS;obtain⟨te,pe,hpe⟩:=NQ hL;have e2:(⟨a2.data.toList.toArray⟩:ByteArray)=a2:=by simp
 have hcalls:Calls Tp 6 #[v0,.string a2] W fun e w'=>∃ u,e=.returned u∧rel (.v (.bool true)) (K8 Tp (fun _=>False) (fun _=>False) w') u∧Below W.heap.size W w':=by
  rcases hrow with⟨rfl,rfl,hr⟩|hr
  ·refine Ls (Jw (Yp m te pe) (Qh m te pe) (.v (.slice none 0 0)) a2.data.toList [] (by simp) rfl (fun H=>by simp only[EW,fz];exact⟨_,_,rfl,rfl,rfl⟩) LM VO (Wc true)) hm hpe ?_;simp only[Ar,rel];exact⟨_,_,rfl,rfl,_,_,rfl,by rw[e2],rfl⟩
  ·refine Ls (Jw (Yp m te pe) (Qh m te pe) (.sl false l.length l.length (l.map Ai)) a2.data.toList l hl' rfl (fun H=>jV) (M7 false l hl') (Y8 false l hl') (YH true false l hl')) hm hpe ?_;simp only[Ar,rel];exact⟨_,_,rfl,hr,_,_,rfl,by rw[e2],rfl⟩
 refine hcalls.mono fun e W' ⟨u,he,hu,bel⟩=>?_
 simp only[rel]at hu;subst he;subst hu;exact⟨_,rfl,_,_,_,[],_,[],hW',trodAll_mk1 (shut_bool Tryz.underlying4 _),(trodAll_cons_mk (Below.trod laidOut (by kernel_rfl) (of_decide_eq_true (by kernel_rfl)) k0 bel lt0) (trodAll_cons_mk (shut_string Tryz.underlying9 y2) trodAll_mk0)),rfl,bel.frame _,fun h=>by cases h⟩
theorem RV(os:Os){H:Type}(enc:TypeId×Value→H):(OpenSpec.ofChange Rows.declChordsSpec).preRow enc Tp Tryz.f6 Rows.declChordsRow.domain false Rows.declChordsRow.laid ((H9 os).forCall (fun _ _=>0) ⟨#[],#[.slice none 0 0,.string ByteArray.empty],[]⟩).memory #[.slice none 0 0,.string ByteArray.empty]:=by
 have hw:((DataW.whole enc Tp ((H9 os).forCall (fun _ _=>0) ⟨#[],#[.slice none 0 0,.string ByteArray.empty],[]⟩).memory Tryz.f6.params.toList Rows.declChordsSpec.vars false #[Value.slice none 0 0,.string ByteArray.empty].toList 8).map (fun x=>(x.1,x.2.1))).isSome=true:=by kernel_rfl
 obtain⟨x,hx⟩:=Option.isSome_iff_exists.1 hw;obtain⟨⟨x1,x2,x3⟩,hx',hx1⟩:=Option.map_eq_some_iff.1 hx;exact OpenSpec.preRow_of_cond 8 hx' (by kernel_rfl) (fun k hk=>by cases hk) (by kernel_rfl) (Yu os _)
set_option maxRecDepth 100000 in
theorem lifted(os:Os)(started:os.Started)(H:Type)(enc:TypeId×Value→H)(F:Stop.Interp):
  ReturnsInHanded {} Tryz.checked os 6 .any ((OpenSpec.ofChange Rows.declChordsSpec).preRow enc Tp Tryz.f6 Rows.declChordsRow.domain false Rows.declChordsRow.laid) (((OpenSpec.ofChange Rows.declChordsSpec).at F).post enc Tp Tryz.f6 false true false false):=by
 refine returnsInHanded_of_row (C:=Tryz.checked) (s:=OpenSpec.ofChange Rows.declChordsSpec) own started (by kernel_rfl) Tryz.func6
  (witness_row_atRef (enc:=enc) (C:=Tryz.checked) false (H9 os) #[.slice none 0 0,.string ByteArray.empty] rfl (by kernel_rfl) (by kernel_rfl) (by kernel_rfl) (RV os enc)) ?_
 intro W base args ds gs before hval hW _ _ hsz hL hS _;exact Yq H enc W base args ds gs before hval hW hsz hL hS
theorem eH:(Rows.declChordsRow.inPlace==Tryz.prog.inPlace 6)=true:=by kernel_rfl
theorem iH:(Rows.declChordsRow.unfollowed==Tryz.prog.unfollowed 6)=true:=by kernel_rfl
theorem eZ:(Rows.declChordsRow.recurses==Tryz.prog.recurses 6)=true:=by kernel_rfl
theorem fF:(Rows.declChordsRow.named==Tryz.prog.varsNamed 6)=true:=by kernel_rfl
theorem facts:joinedFacts Tp 6 Tryz.f6 (OpenSpec.ofChange Rows.declChordsSpec).bare Rows.declChordsRow=true:=by
 unfold joinedFacts;rw[eH,iH,eZ,fF]
 kernel_rfl
theorem said:Rows.DeclChordsSaid:=
 OpenClaim.holds_of_cond 6 Tryz.f6 rfl rfl rfl rfl rfl rfl rfl ⟨rfl,rfl,rfl,rfl,rfl⟩ rfl rfl rfl rfl rfl (by kernel_rfl) Tryz.func6 facts
  (of_decide_eq_true (by kernel_rfl)) (by unfold Func.isWrapper;first|(rw[if_pos (by decide +kernel)];kernel_rfl)|(rw[if_neg (by decide +kernel)];exact⟨rfl,rfl⟩))
  (fun os started H enc _ F=>by rw[OpenClaim.pre_eq_preRow];exact lifted os started H enc F)
theorem plain(f:FuncId)(fn:Func)(hf:Tryz.pinned.checked.prog.funcNamed "chordmail/chordmaillaw08.DeclChords" = some f)(hfn:Tryz.pinned.checked.prog.funcs[f]?=some fn):
  true=Tryz.pinned.checked.prog.looks []∧∀ (j:Nat) t,fn.params[j]?=some t→Tryz.pinned.checked.prog.wantsStandIn t=false:=by
 obtain rfl:f=6:=Option.some.inj ((show Tryz.prog.funcNamed "chordmail/chordmaillaw08.DeclChords" = some 6 by kernel_rfl).symm.trans hf) |>.symm
 obtain rfl:fn=Tryz.f6:=(Option.some.inj (Tryz.func6.symm.trans hfn)).symm;refine⟨by kernel_rfl,fun j t ht=>?_⟩;rw[Tryz.params6]at ht;have hm:t=37∨t=9:=by simpa using Array.mem_of_getElem? ht
 rcases hm with rfl|rfl
 ·exact (show Tryz.prog.wantsStandIn 37=false by kernel_rfl)
 ·exact (show Tryz.prog.wantsStandIn 9=false by kernel_rfl)
end declChords
theorem declChords_holds:Rows.DeclChordsCardSaid:=
 Claim7.holds_tied_plain_at .later [] _ _ _ _ declChords.said (fun _ h=>by cases h) (by kernel_rfl) (fun _ h=>by cases h) declChords_row_tie rfl ⟨rfl,rfl⟩ (by kernel_rfl) rfl declChords.plain (by kernel_rfl)
#print axioms declChords_holds
end Go.Proofs.YtlobiioioicmhaaGreatDoor
