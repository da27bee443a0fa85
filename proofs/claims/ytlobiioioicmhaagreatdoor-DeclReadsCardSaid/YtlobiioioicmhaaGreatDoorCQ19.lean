/- A part of the proof. -/
import Derived.Test.YtlobiioioicmhaaGreatDoorCQ18
set_option linter.all false
set_option maxHeartbeats 8000000
namespace Go.Proofs.YtlobiioioicmhaaGreatDoor
open _root_.Bool renaming not_true→Bv,not_false→Bf
open _root_.List renaming getElem?_eq_some_iff→Bs,getElem?_append_left→Ba,getElem?_set_self→Be,getElem?_set_ne→Bn,length_set→Bl,length_append→Bp,append_assoc→Bo,cons_append→Bc,nil_append→Bi,getElem?_map→Bm,length_map→Bk,getElem?_eq_none→Bq,set_append_left→Bg,take_of_length_le→Bt,length_drop→Bd,prefix_rfl→BB,length_cons→BC,length_nil→BD,flatMap_cons→BE,getElem?_drop→BX,getElem?_take→BY
open _root_.Nat renaming le_refl→BL,zero_le→BN
open Go.Proofs.Tryz renaming prog→Tp
open Go Go.Ev
set_option maxRecDepth 20000
variable {γ:List (Nat×AV)}
theorem c76:Ak Tp 76:=⟨_,Tryz.func76,by kernel_rfl,by kernel_rfl⟩
def jB(ns:List Nd):Prop:=ns.length≤2000000∧∀ nd∈ns,Yc nd
def YQ(a:Ac):Prop:=jB a.to∧a.args.length≤2000000∧∀ x∈a.args,jB x
theorem dW(s:List Aa)(l:List (List Nd)):CE Tp 133 s (E3 l)=some (.v (.int .i64 l.length)):=by
 have e:Az Tp 133=some 41:=by kernel_rfl
 cases l with
 |nil=>simp only[E3,IP,BD,CE,e];rfl
 |cons x l=>simp only[E3,IP,BC,CE,e];rfl
theorem aU{l:List (List Nd)}{k:Nat}{x:List Nd}(h:l[k]?=some x):E3 l=.sl false l.length l.length (l.map Ab):=by
 cases l with
 |nil=>cases h
 |cons y l=>rfl
theorem PX(ns:List Nd):A0 [.agg [Ab ns],.agg [Ab ns]]=true:=by cases ns<;>rfl
def pJ(γ:List (Nat×AV))(a:Ac)(k:Nat):St:=⟨⟨61,[(2,.ptr 0 0 0),(3,.ptr 1 0 0),(5,.v (.int .i64 (k:Int)))],γ⟩,[⟨0,135,a.cells⟩,⟨0,135,a.cells⟩]⟩
theorem dB(a:Ac)(ok:YQ a):Ev Tp γ 76 [a.av,a.av] (.v (.bool true)):=by
 have ll:=fun s=>dW s a.args
 have hx:=Nf (γ:=γ) a.to ok.1.1 ok.1.2;have fo:Cl (Ab a.to)=true:=by cases a.to<;>rfl
 have fe:Cl (E3 a.args)=true:=by cases a.args<;>rfl
 have z1:(a.kind != a.kind)=false:=by simp
 have z2:(a.name != a.name)=false:=by simp
 have z3:(a.var != a.var)=false:=by simp
 have d1:(((a.args.length:Nat):Int) != ((a.args.length:Nat):Int))=false:=by simp
 refine Ev.ofE Tryz.func76 rfl ?_;simp only[Tryz.f76,AH,SB,Ac.av,Ac.cells,AA,Ae,fo,fe,z1,Af,A7,Bv,seval];refine Ao.pure (Ag.intro c74 (PX _) hx ?_);simp only[AH,ll,d1,Af,Bv,seval];refine Cp.intro (pJ γ a) (fun k=>k≤a.args.length) (fun k=>a.args.length-k) 0 ⟨rfl,rfl,⟨rfl,rfl,rfl,trivial⟩,rfl⟩ (BN _) (fun k hk=>?_)
 by_cases hlt:k<a.args.length
 ·have d2:decide (k<a.args.length)=true:=decide_eq_true hlt;obtain⟨x,hxk⟩:∃ x,a.args[k]?=some x:=⟨a.args[k],by simp[hlt]⟩;have eS:=aU hxk;have hc:(a.args.map Ab)[k]?=some (Ab x):=by rw[Bm,hxk];rfl
  have okx:=ok.2.2 x (List.mem_of_getElem? hxk);have hex:=Nf (γ:=γ) x okx.1 okx.2;have ox:Cl (Ab x)=true:=by cases x<;>rfl
  have h1l:1≤((a.args.map Ab).drop k).length:=by rw[Bd,Bk];omega
  have ht1:((a.args.map Ab).drop k).take 1=[Ab x]:=by
   rw[List.drop_eq_getElem_cons (by rw[Bk];exact hlt)];have:(a.args.map Ab)[k]?=some ((a.args.map Ab)[k]'(by rw[Bk];exact hlt)):=List.getElem?_eq_getElem _;rw[hc]at this;simp only[List.take_succ_cons,List.take_zero];rw[←Option.some.inj this]
  have hn:=ok.2.1;have w1:IntKind.i64.wrap ((k:Int)+1)=((k+1:Nat):Int):=(A4 (by omega) (by omega)).trans (by omega);simp only[pJ,AH,Ac.cells,AA,Ae,ll,d2,Af,seval];refine dI ?_;simp only[AH,SB,eS,hc,h1l,ht1,Af,seval];refine⟨hlt,hlt,Ag.intro c74 (PX _) hex ?_⟩;simp only[w1,Af,Bv,seval];exact AF.intro (k+1) hlt ⟨rfl,rfl,⟨rfl,rfl,rfl,trivial⟩,by simp only[pJ,Ac.cells,AA,Ae,eS]⟩ (by show a.args.length-(k+1)<a.args.length-k;clear w1;omega)
 ·have d2:decide (k<a.args.length)=false:=decide_eq_false hlt;simp only[pJ,AH,Ac.cells,AA,Ae,ll,d2,Af,seval]
def Yy(c:Ch):Prop:=c.parts.length≤2000000∧(∀ p∈c.parts,p.vars.length≤2000000)∧jB c.guard∧c.body.length≤2000000∧∀ a∈c.body,YQ a
theorem nJ:Ak Tp 34:=⟨_,Tryz.func34,by kernel_rfl,by kernel_rfl⟩
theorem Z3(s:List Aa)(l:List Pt):CE Tp 56 s (Ib l)=some (.v (.int .i64 l.length)):=by
 have e:Az Tp 56=some 130:=by kernel_rfl
 cases l with
 |nil=>simp only[Ib,IP,BD,CE,e];rfl
 |cons x l=>simp only[Ib,IP,BC,CE,e];rfl
theorem gZ(s:List Aa)(l:List Ac):CE Tp 57 s (JV l)=some (.v (.int .i64 l.length)):=by
 have e:Az Tp 57=some 135:=by kernel_rfl
 cases l with
 |nil=>simp only[JV,IP,BD,CE,e];rfl
 |cons x l=>simp only[JV,IP,BC,CE,e];rfl
theorem WK{l:List Pt}{k:Nat}{x:Pt}(h:l[k]?=some x):Ib l=.sl false l.length l.length (l.flatMap Pt.cells):=by
 cases l with
 |nil=>cases h
 |cons y l=>rfl
theorem Zv{l:List Ac}{k:Nat}{x:Ac}(h:l[k]?=some x):JV l=.sl false l.length l.length (l.flatMap Ac.cells):=by
 cases l with
 |nil=>cases h
 |cons y l=>rfl
theorem GS{α:Type}{f:α→List AV}{m:Nat}(hf:∀ x,(f x).length=m):∀ (l:List α) (k:Nat) (x:α),l[k]?=some x→((l.flatMap f).drop (k * m)).take m=f x∧k * m+m≤(l.flatMap f).length
 |[],k,x,h=>by cases h
 |y::l,0,x,h=>by
  cases h;rw[Nat.zero_mul,List.drop_zero,BE];exact⟨List.take_left' (hf y),by rw[Bp,hf];omega⟩
 |y::l,k+1,x,h=>by
  have ih:=GS hf l k x (by simpa using h);rw[BE];have e:(k+1) * m=(f y).length+k * m:=by rw[hf,Nat.add_mul,Nat.one_mul,Nat.add_comm]
  rw[e,List.drop_append];refine⟨?_,by rw[Bp];omega⟩;rw[show (f y).length+k * m-(f y).length=k * m by omega,List.drop_eq_nil_of_le (by omega),Bi];exact ih.1
theorem gA(l:List (List UInt8)):A0 [GZ l,GZ l]=true:=by cases l<;>rfl
def dN(γ:List (Nat×AV))(c:Ch)(k:Nat):St:=⟨⟨93,[(2,.ptr 0 0 0),(3,.ptr 1 0 0),(5,.v (.int .i64 (k:Int)))],γ⟩,[⟨0,59,c.cells⟩,⟨0,59,c.cells⟩]⟩
def pC(γ:List (Nat×AV))(c:Ch)(k:Nat):St:=⟨⟨93,[(2,.ptr 0 0 0),(3,.ptr 1 0 0),(6,.v (.int .i64 (k:Int)))],γ⟩,[⟨0,59,c.cells⟩,⟨0,59,c.cells⟩]⟩
theorem XB(c:Ch)(ok:Yy c):Ev Tp γ 34 [c.av,c.av] (.v (.bool true)):=by
 obtain⟨ok1,ok2,ok3,ok4,ok5⟩:=ok;have lp:=fun s=>Z3 s c.parts
 have la:=fun s=>gZ s c.body
 have hx:=Nf (γ:=γ) c.guard ok3.1 ok3.2;have fo:Cl (Ab c.guard)=true:=by cases c.guard<;>rfl
 have fp:Cl (Ib c.parts)=true:=by cases c.parts<;>rfl
 have fa:Cl (JV c.body)=true:=by cases c.body<;>rfl
 have z1:(c.name != c.name)=false:=by simp
 have d1:(((c.parts.length:Nat):Int) != ((c.parts.length:Nat):Int))=false:=by simp
 have d2:(((c.body.length:Nat):Int) != ((c.body.length:Nat):Int))=false:=by simp
 refine Ev.ofE Tryz.func34 rfl ?_;simp only[Tryz.f34,AH,SB,Ch.av,Ch.cells,Ae,fo,fp,fa,lp,la,d1,d2,Af,A7,Bv,seval];refine Ao.pure (Ag.intro c74 (PX _) hx ?_);simp only[Af,Bv,seval];refine Cp.intro (dN γ c) (fun k=>k≤c.parts.length) (fun k=>c.parts.length-k) 0 ⟨rfl,rfl,⟨rfl,rfl,rfl,trivial⟩,rfl⟩ (BN _) (fun k hk=>?_)
 by_cases hlt:k<c.parts.length
 ·have e1:decide (k<c.parts.length)=true:=decide_eq_true hlt;obtain⟨x,hxk⟩:∃ x,c.parts[k]?=some x:=⟨c.parts[k],by simp[hlt]⟩;have eS:=WK hxk;obtain⟨t2,l2⟩:=GS (f:=Pt.cells) (m:=2) (fun _=>rfl) c.parts k x hxk
  have c0:(c.parts.flatMap Pt.cells)[k * 2]?=some (Ae x.tag):=by
   have:=congrArg (fun l=>l[0]?) t2;simpa[BY,BX,Pt.cells]using this
  have c1:(c.parts.flatMap Pt.cells)[k * 2+1]?=some (GZ x.vars):=by
   have:=congrArg (fun l=>l[1]?) t2;simpa[BY,BX,Pt.cells]using this
  have ht:=Z6 (γ:=γ) x.vars (ok2 x (List.mem_of_getElem? hxk));have zt:(x.tag != x.tag)=false:=by simp
  have ov:Cl (GZ x.vars)=true:=by cases x.vars<;>rfl
  have w1:IntKind.i64.wrap ((k:Int)+1)=((k+1:Nat):Int):=(A4 (by omega) (by omega)).trans (by omega);simp only[dN,AH,Ch.cells,Ae,lp,e1,Af,seval];refine dI ?_;simp only[Ae]at c0;simp only[AH,SB,eS,c0,c1,Af,A7,Bv,seval];refine⟨hlt,hlt,hlt,hlt,Ag.intro c75 (gA _) ht ?_⟩;simp only[w1,Af,Bv,seval];exact AF.intro (k+1) hlt ⟨rfl,rfl,⟨rfl,rfl,rfl,trivial⟩,by simp only[dN,Ch.cells,Ae,eS]⟩ (by show c.parts.length-(k+1)<c.parts.length-k;clear w1;omega)
 ·have e1:decide (k<c.parts.length)=false:=decide_eq_false hlt;simp only[dN,AH,Ch.cells,Ae,lp,e1,Af,seval];refine Cp.intro (pC γ c) (fun k=>k≤c.body.length) (fun k=>c.body.length-k) 0 ⟨rfl,rfl,⟨rfl,rfl,rfl,trivial⟩,rfl⟩ (BN _) (fun k hk=>?_)
  by_cases hlt:k<c.body.length
  ·have e1:decide (k<c.body.length)=true:=decide_eq_true hlt;obtain⟨x,hxk⟩:∃ x,c.body[k]?=some x:=⟨c.body[k],by simp[hlt]⟩;have eS:=Zv hxk;obtain⟨t5,l5⟩:=GS (f:=Ac.cells) (m:=5) (fun _=>rfl) c.body k x hxk;have h5l:5≤((c.body.flatMap Ac.cells).drop (k * 5)).length:=by rw[Bd];omega
   have hac:=dB (γ:=γ) x (ok5 x (List.mem_of_getElem? hxk))
   have htr:A0 [x.av,x.av]=true:=by
    cases h1:x.to<;>cases h2:x.args<;>simp only[Ac.av,Ac.cells,h1,h2]<;>rfl
   have w1:IntKind.i64.wrap ((k:Int)+1)=((k+1:Nat):Int):=(A4 (by omega) (by omega)).trans (by omega);simp only[pC,AH,SB,Ch.cells,Ae,la,e1,Af,seval];refine dI ?_;simp only[AH,SB,eS,t5,h5l,Af,seval];refine⟨hlt,hlt,Ag.intro c76 htr hac ?_⟩;simp only[w1,Af,Bv,seval];exact AF.intro (k+1) hlt ⟨rfl,rfl,⟨rfl,rfl,rfl,trivial⟩,by simp only[pC,Ch.cells,Ae,eS]⟩ (by show c.body.length-(k+1)<c.body.length-k;clear w1;omega)
  ·have e1:decide (k<c.body.length)=false:=decide_eq_false hlt;simp only[pC,AH,SB,Ch.cells,Ae,la,e1,Af,seval]
theorem nf1:HN 1=n1:=by kernel_rfl
theorem nf2:HN 2=n2:=by kernel_rfl
theorem nf3:HN 3=n3:=by kernel_rfl
theorem nf4:HN 4=n4:=by kernel_rfl
theorem nf5:HN 5=n5:=by kernel_rfl
theorem Oo{l:List UInt8}(h:∀ k:Int,1≤k→k<6→l≠HN k):Ei l=(0,false):=by
 have a1:l≠n1:=h 1 (by omega) (by omega);have a2:l≠n2:=h 2 (by omega) (by omega);have a3:l≠n3:=h 3 (by omega) (by omega);have a4:l≠n4:=h 4 (by omega) (by omega);have a5:l≠n5:=h 5 (by omega) (by omega);unfold Ei;rw[if_neg (fun e=>a1 e),if_neg (fun e=>a2 e),if_neg (fun e=>a3 e),if_neg (fun e=>a4 e),if_neg (fun e=>a5 e)]
theorem eI(l:List UInt8):Ev Tp γ 14 [Ew l] (IQ (Ei l)):=by
 refine Ev.of Tryz.func14 rfl ?_;have h:=tyN;have w1:IntKind.i64.wrap (0+1)=1:=rfl;have w2:IntKind.i64.wrap (1+1)=2:=rfl;have w3:IntKind.i64.wrap (2+1)=3:=rfl;have w4:IntKind.i64.wrap (3+1)=4:=rfl;have w5:IntKind.i64.wrap (4+1)=5:=rfl;have w6:IntKind.i64.wrap (5+1)=6:=rfl;simp only[Ew]at h;simp only[Tryz.f14,Ew,Ad,Nat.reduceAdd,Nat.reduceSub,Nat.reduceLT]
 (repeat' (first|(with_reducible refine aI ?_ ?_)|(first|(first|refine gF ?_ ?_|refine gT ?_ ?_|refine cI ?_ ?_|refine pI ?_ ?_)<;>intro h|(refine dI ?_;have h:=trivial))<;>simp only[h,Ad,An,Bv,Bf,Nat.reduceAdd,Nat.reduceSub,Nat.reduceMul,Nat.reduceLT,Nat.reduceLeDiff,Nat.reduceEqDiff,reduceCtorEq,List.reduceReplicate,Int.reduceToNat,Int.reduceLE,Int.reduceLT]))
 refine Ag.intro c56 rfl ZB ?_;simp only[Ew,Ad,Nat.reduceLT]
 (repeat' (first|(with_reducible refine aI ?_ ?_)|(first|(first|refine gF ?_ ?_|refine gT ?_ ?_|refine cI ?_ ?_|refine pI ?_ ?_)<;>intro h|(refine dI ?_;have h:=trivial))<;>simp only[h,Ad,An,Bv,Bf,Nat.reduceAdd,Nat.reduceSub,Nat.reduceMul,Nat.reduceLT,Nat.reduceLeDiff,Nat.reduceEqDiff,reduceCtorEq,List.reduceReplicate,Int.reduceToNat,Int.reduceLE,Int.reduceLT]))
 refine Ea.intro (fun j:Int=>⟨⟨20,[(0,.v (.string ⟨l.toArray⟩)),(7,.v (.int .i64 j)),(6,.agg [Ew [],Ew n1,Ew n2,Ew n3,Ew n4,Ew n5])],γ⟩,[]⟩) (fun j=>0≤j∧j≤6∧∀ k:Int,1≤k→k<j→l≠HN k) (fun j=>(6-j).toNat) 0 ?_ ⟨by omega,by omega,fun k _ _=>by omega⟩ (fun j hj=>?_)
 ·simp only[Ad,Nat.reduceEqDiff,reduceCtorEq]
  (repeat' (first|(with_reducible refine aI ?_ ?_)|(first|(first|refine gF ?_ ?_|refine gT ?_ ?_|refine cI ?_ ?_|refine pI ?_ ?_)<;>intro h|(refine dI ?_;have h:=trivial))<;>simp only[h,Ad,An,Bv,Bf,Nat.reduceAdd,Nat.reduceSub,Nat.reduceMul,Nat.reduceLT,Nat.reduceLeDiff,Nat.reduceEqDiff,reduceCtorEq,List.reduceReplicate,Int.reduceToNat,Int.reduceLE,Int.reduceLT]))
  all_goals first|rfl|exact .inl rfl|trace_state
 ·obtain⟨h0,h6,hn⟩:=hj
  rcases (show j=0∨j=1∨j=2∨j=3∨j=4∨j=5∨j=6 by omega)with rfl|rfl|rfl|rfl|rfl|rfl|rfl
  all_goals
   simp only[Ew,h,Int.reduceToNat,List.drop_zero,Kp,Option.bind_some,Ad,Nat.reduceAdd,Nat.reduceLT,Nat.reduceLeDiff,Nat.reduceEqDiff,reduceCtorEq,Int.reduceToNat,Int.reduceLE,Int.reduceLT]
   (repeat' (first|(with_reducible refine aI ?_ ?_)|(first|(first|refine gF ?_ ?_|refine gT ?_ ?_|refine cI ?_ ?_|refine pI ?_ ?_)<;>intro h|(refine dI ?_;have h:=trivial))<;>simp only[h,Ad,Nat.reduceLT,Nat.reduceEqDiff,reduceCtorEq,An,Bv,Bf,Nat.reduceAdd,Nat.reduceSub,Nat.reduceMul,Nat.reduceLeDiff,List.reduceReplicate,Int.reduceToNat,Int.reduceLE,Int.reduceLT]))
  all_goals try (((try simp only[beq_iff_eq,ne_eq,beq_eq_false_iff_ne]at *)<;>(try omega));done)
  ·refine Cg.intro (0+1:Int) ⟨by omega,by omega,fun k a b=>by omega⟩ ?_ (by decide);rw[w1];simp only[Ad,Nat.reduceEqDiff,reduceCtorEq]
   (repeat' (first|(with_reducible refine aI ?_ ?_)|(first|(first|refine gF ?_ ?_|refine gT ?_ ?_|refine cI ?_ ?_|refine pI ?_ ?_)<;>intro h|(refine dI ?_;have h:=trivial))<;>simp only[h,Ad,An,Bv,Bf,Nat.reduceAdd,Nat.reduceSub,Nat.reduceMul,Nat.reduceLT,Nat.reduceLeDiff,Nat.reduceEqDiff,reduceCtorEq,List.reduceReplicate,Int.reduceToNat,Int.reduceLE,Int.reduceLT]))
   all_goals first|rfl|exact .inl rfl|trace_state
  ·have e:=eq_of_beq (by assumption:(n1==l)=true);subst e;rw[show Ei n1=(1,true)by kernel_rfl,IQ];simp only[Ad]
   (repeat' (first|(with_reducible refine aI ?_ ?_)|(first|(first|refine gF ?_ ?_|refine gT ?_ ?_|refine cI ?_ ?_|refine pI ?_ ?_)<;>intro h|(refine dI ?_;have h:=trivial))<;>simp only[h,Ad,An,Bv,Bf,Nat.reduceAdd,Nat.reduceSub,Nat.reduceMul,Nat.reduceLT,Nat.reduceLeDiff,Nat.reduceEqDiff,reduceCtorEq,List.reduceReplicate,Int.reduceToNat,Int.reduceLE,Int.reduceLT]))
   all_goals first|rfl|exact .inl rfl|trace_state
  ·refine Cg.intro (1+1:Int) ⟨by omega,by omega,fun k a b=>?_⟩ ?_ (by decide)
   ·rcases (show k<1∨k=1 by omega)with c|c
    ·exact hn k a c
    ·subst c;intro e;rw[nf1]at e;subst e;simp at *
   ·rw[w2];simp only[Ad,Nat.reduceEqDiff,reduceCtorEq]
    (repeat' (first|(with_reducible refine aI ?_ ?_)|(first|(first|refine gF ?_ ?_|refine gT ?_ ?_|refine cI ?_ ?_|refine pI ?_ ?_)<;>intro h|(refine dI ?_;have h:=trivial))<;>simp only[h,Ad,An,Bv,Bf,Nat.reduceAdd,Nat.reduceSub,Nat.reduceMul,Nat.reduceLT,Nat.reduceLeDiff,Nat.reduceEqDiff,reduceCtorEq,List.reduceReplicate,Int.reduceToNat,Int.reduceLE,Int.reduceLT]))
    all_goals first|rfl|exact .inl rfl|trace_state
  ·have e:=eq_of_beq (by assumption:(n2==l)=true);subst e;rw[show Ei n2=(2,true)by kernel_rfl,IQ];simp only[Ad]
   (repeat' (first|(with_reducible refine aI ?_ ?_)|(first|(first|refine gF ?_ ?_|refine gT ?_ ?_|refine cI ?_ ?_|refine pI ?_ ?_)<;>intro h|(refine dI ?_;have h:=trivial))<;>simp only[h,Ad,An,Bv,Bf,Nat.reduceAdd,Nat.reduceSub,Nat.reduceMul,Nat.reduceLT,Nat.reduceLeDiff,Nat.reduceEqDiff,reduceCtorEq,List.reduceReplicate,Int.reduceToNat,Int.reduceLE,Int.reduceLT]))
   all_goals first|rfl|exact .inl rfl|trace_state
  ·refine Cg.intro (2+1:Int) ⟨by omega,by omega,fun k a b=>?_⟩ ?_ (by decide)
   ·rcases (show k<2∨k=2 by omega)with c|c
    ·exact hn k a c
    ·subst c;intro e;rw[nf2]at e;subst e;simp at *
   ·rw[w3];simp only[Ad,Nat.reduceEqDiff,reduceCtorEq]
    (repeat' (first|(with_reducible refine aI ?_ ?_)|(first|(first|refine gF ?_ ?_|refine gT ?_ ?_|refine cI ?_ ?_|refine pI ?_ ?_)<;>intro h|(refine dI ?_;have h:=trivial))<;>simp only[h,Ad,An,Bv,Bf,Nat.reduceAdd,Nat.reduceSub,Nat.reduceMul,Nat.reduceLT,Nat.reduceLeDiff,Nat.reduceEqDiff,reduceCtorEq,List.reduceReplicate,Int.reduceToNat,Int.reduceLE,Int.reduceLT]))
    all_goals first|rfl|exact .inl rfl|trace_state
  ·have e:=eq_of_beq (by assumption:(n3==l)=true);subst e;rw[show Ei n3=(3,true)by kernel_rfl,IQ];simp only[Ad]
   (repeat' (first|(with_reducible refine aI ?_ ?_)|(first|(first|refine gF ?_ ?_|refine gT ?_ ?_|refine cI ?_ ?_|refine pI ?_ ?_)<;>intro h|(refine dI ?_;have h:=trivial))<;>simp only[h,Ad,An,Bv,Bf,Nat.reduceAdd,Nat.reduceSub,Nat.reduceMul,Nat.reduceLT,Nat.reduceLeDiff,Nat.reduceEqDiff,reduceCtorEq,List.reduceReplicate,Int.reduceToNat,Int.reduceLE,Int.reduceLT]))
   all_goals first|rfl|exact .inl rfl|trace_state
  ·refine Cg.intro (3+1:Int) ⟨by omega,by omega,fun k a b=>?_⟩ ?_ (by decide)
   ·rcases (show k<3∨k=3 by omega)with c|c
    ·exact hn k a c
    ·subst c;intro e;rw[nf3]at e;subst e;simp at *
   ·rw[w4];simp only[Ad,Nat.reduceEqDiff,reduceCtorEq]
    (repeat' (first|(with_reducible refine aI ?_ ?_)|(first|(first|refine gF ?_ ?_|refine gT ?_ ?_|refine cI ?_ ?_|refine pI ?_ ?_)<;>intro h|(refine dI ?_;have h:=trivial))<;>simp only[h,Ad,An,Bv,Bf,Nat.reduceAdd,Nat.reduceSub,Nat.reduceMul,Nat.reduceLT,Nat.reduceLeDiff,Nat.reduceEqDiff,reduceCtorEq,List.reduceReplicate,Int.reduceToNat,Int.reduceLE,Int.reduceLT]))
    all_goals first|rfl|exact .inl rfl|trace_state
  ·have e:=eq_of_beq (by assumption:(n4==l)=true);subst e;rw[show Ei n4=(4,true)by kernel_rfl,IQ];simp only[Ad]
   (repeat' (first|(with_reducible refine aI ?_ ?_)|(first|(first|refine gF ?_ ?_|refine gT ?_ ?_|refine cI ?_ ?_|refine pI ?_ ?_)<;>intro h|(refine dI ?_;have h:=trivial))<;>simp only[h,Ad,An,Bv,Bf,Nat.reduceAdd,Nat.reduceSub,Nat.reduceMul,Nat.reduceLT,Nat.reduceLeDiff,Nat.reduceEqDiff,reduceCtorEq,List.reduceReplicate,Int.reduceToNat,Int.reduceLE,Int.reduceLT]))
   all_goals first|rfl|exact .inl rfl|trace_state
  ·refine Cg.intro (4+1:Int) ⟨by omega,by omega,fun k a b=>?_⟩ ?_ (by decide)
   ·rcases (show k<4∨k=4 by omega)with c|c
    ·exact hn k a c
    ·subst c;intro e;rw[nf4]at e;subst e;simp at *
   ·rw[w5];simp only[Ad,Nat.reduceEqDiff,reduceCtorEq]
    (repeat' (first|(with_reducible refine aI ?_ ?_)|(first|(first|refine gF ?_ ?_|refine gT ?_ ?_|refine cI ?_ ?_|refine pI ?_ ?_)<;>intro h|(refine dI ?_;have h:=trivial))<;>simp only[h,Ad,An,Bv,Bf,Nat.reduceAdd,Nat.reduceSub,Nat.reduceMul,Nat.reduceLT,Nat.reduceLeDiff,Nat.reduceEqDiff,reduceCtorEq,List.reduceReplicate,Int.reduceToNat,Int.reduceLE,Int.reduceLT]))
    all_goals first|rfl|exact .inl rfl|trace_state
  ·have e:=eq_of_beq (by assumption:(n5==l)=true);subst e;rw[show Ei n5=(5,true)by kernel_rfl,IQ];simp only[Ad]
   (repeat' (first|(with_reducible refine aI ?_ ?_)|(first|(first|refine gF ?_ ?_|refine gT ?_ ?_|refine cI ?_ ?_|refine pI ?_ ?_)<;>intro h|(refine dI ?_;have h:=trivial))<;>simp only[h,Ad,An,Bv,Bf,Nat.reduceAdd,Nat.reduceSub,Nat.reduceMul,Nat.reduceLT,Nat.reduceLeDiff,Nat.reduceEqDiff,reduceCtorEq,List.reduceReplicate,Int.reduceToNat,Int.reduceLE,Int.reduceLT]))
   all_goals first|rfl|exact .inl rfl|trace_state
  ·refine Cg.intro (5+1:Int) ⟨by omega,by omega,fun k a b=>?_⟩ ?_ (by decide)
   ·rcases (show k<5∨k=5 by omega)with c|c
    ·exact hn k a c
    ·subst c;intro e;rw[nf5]at e;subst e;simp at *
   ·rw[w6];simp only[Ad,Nat.reduceEqDiff,reduceCtorEq]
    (repeat' (first|(with_reducible refine aI ?_ ?_)|(first|(first|refine gF ?_ ?_|refine gT ?_ ?_|refine cI ?_ ?_|refine pI ?_ ?_)<;>intro h|(refine dI ?_;have h:=trivial))<;>simp only[h,Ad,An,Bv,Bf,Nat.reduceAdd,Nat.reduceSub,Nat.reduceMul,Nat.reduceLT,Nat.reduceLeDiff,Nat.reduceEqDiff,reduceCtorEq,List.reduceReplicate,Int.reduceToNat,Int.reduceLE,Int.reduceLT]))
    all_goals first|rfl|exact .inl rfl|trace_state
  ·rw[Oo hn];rw[IQ];simp only[Ad]
   (repeat' (first|(with_reducible refine aI ?_ ?_)|(first|(first|refine gF ?_ ?_|refine gT ?_ ?_|refine cI ?_ ?_|refine pI ?_ ?_)<;>intro h|(refine dI ?_;have h:=trivial))<;>simp only[h,Ad,An,Bv,Bf,Nat.reduceAdd,Nat.reduceSub,Nat.reduceMul,Nat.reduceLT,Nat.reduceLeDiff,Nat.reduceEqDiff,reduceCtorEq,List.reduceReplicate,Int.reduceToNat,Int.reduceLE,Int.reduceLT]))
   all_goals first|rfl|exact .inl rfl|trace_state
theorem bA(l:List UInt8):Ev Tp γ 15 [Ew l] (IQ (Ei l)):=by
 refine Ev.of Tryz.func15 rfl ?_;simp only[Tryz.f15,Ew,Ad,Nat.reduceAdd,Nat.reduceSub,Nat.reduceLT]
 (repeat' (first|(with_reducible refine aI ?_ ?_)|(first|(first|refine gF ?_ ?_|refine gT ?_ ?_|refine cI ?_ ?_|refine pI ?_ ?_)<;>intro h|(refine dI ?_;have h:=trivial))<;>simp only[h,Ad,An,Bv,Bf,Nat.reduceAdd,Nat.reduceSub,Nat.reduceMul,Nat.reduceLT,Nat.reduceLeDiff,Nat.reduceEqDiff,reduceCtorEq,List.reduceReplicate,Int.reduceToNat,Int.reduceLE,Int.reduceLT]))
 refine Ea.intro (fun j:Int=>⟨⟨14,[(0,.v (.string ⟨l.toArray⟩)),(4,.v (.int .i64 j))],γ⟩,[]⟩) (fun j=>1≤j∧j≤6∧∀ k:Int,1≤k→k<j→l≠HN k) (fun j=>(6-j).toNat) 1 ?_ ⟨by omega,by omega,fun k _ _=>by omega⟩ (fun j hj=>?_)
 ·simp only[Ad,Nat.reduceEqDiff,reduceCtorEq]
  (repeat' (first|(with_reducible refine aI ?_ ?_)|(first|(first|refine gF ?_ ?_|refine gT ?_ ?_|refine cI ?_ ?_|refine pI ?_ ?_)<;>intro h|(refine dI ?_;have h:=trivial))<;>simp only[h,Ad,An,Bv,Bf,Nat.reduceAdd,Nat.reduceSub,Nat.reduceMul,Nat.reduceLT,Nat.reduceLeDiff,Nat.reduceEqDiff,reduceCtorEq,List.reduceReplicate,Int.reduceToNat,Int.reduceLE,Int.reduceLT]))
  all_goals first|rfl|exact .inl rfl|trace_state
 ·obtain⟨h1,h6,hn⟩:=hj;have ew:IntKind.i64.wrap (j+1)=j+1:=by rw[A4]<;>omega
  by_cases hj:j≤5
  ·have d1:decide (j≤5)=true:=decide_eq_true hj;simp only[d1,Ad,Nat.reduceLT,Nat.reduceEqDiff,reduceCtorEq]
   (repeat' (first|(with_reducible refine aI ?_ ?_)|(first|(first|refine gF ?_ ?_|refine gT ?_ ?_|refine cI ?_ ?_|refine pI ?_ ?_)<;>intro h|(refine dI ?_;have h:=trivial))<;>simp only[h,d1,Ad,An,Bv,Bf,Nat.reduceAdd,Nat.reduceSub,Nat.reduceMul,Nat.reduceLT,Nat.reduceLeDiff,Nat.reduceEqDiff,reduceCtorEq,List.reduceReplicate,Int.reduceToNat,Int.reduceLE,Int.reduceLT]))
   refine Ag.intro c19 rfl (aJ j) ?_
   by_cases he:HN j=l
   ·have et:Ei l=(j,true):=by
     rw[←he]
     rcases (show j=1∨j=2∨j=3∨j=4∨j=5 by omega)with rfl|rfl|rfl|rfl|rfl<;>kernel_rfl
    rw[et];have hb:(HN j==l)=true:=beq_iff_eq.2 he;simp only[Ew,IQ,hb,Ad,Nat.reduceLT,Nat.reduceEqDiff,reduceCtorEq]
    (repeat' (first|(with_reducible refine aI ?_ ?_)|(first|(first|refine gF ?_ ?_|refine gT ?_ ?_|refine cI ?_ ?_|refine pI ?_ ?_)<;>intro h|(refine dI ?_;have h:=trivial))<;>simp only[h,hb,Ad,An,Bv,Bf,Nat.reduceAdd,Nat.reduceSub,Nat.reduceMul,Nat.reduceLT,Nat.reduceLeDiff,Nat.reduceEqDiff,reduceCtorEq,List.reduceReplicate,Int.reduceToNat,Int.reduceLE,Int.reduceLT]))
    all_goals first|rfl|exact .inl rfl|trace_state
   ·have hb:(HN j==l)=false:=beq_eq_false_iff_ne.2 he;simp only[Ew,hb,Ad,Nat.reduceLT,Nat.reduceEqDiff,reduceCtorEq]
    (repeat' (first|(with_reducible refine aI ?_ ?_)|(first|(first|refine gF ?_ ?_|refine gT ?_ ?_|refine cI ?_ ?_|refine pI ?_ ?_)<;>intro h|(refine dI ?_;have h:=trivial))<;>simp only[h,hb,Ad,An,Bv,Bf,Nat.reduceAdd,Nat.reduceSub,Nat.reduceMul,Nat.reduceLT,Nat.reduceLeDiff,Nat.reduceEqDiff,reduceCtorEq,List.reduceReplicate,Int.reduceToNat,Int.reduceLE,Int.reduceLT]))
    refine Cg.intro (j+1) ⟨by omega,by omega,fun k a b=>?_⟩ ?_ (by omega)
    ·rcases (show k<j∨k=j by omega)with c|c
     ·exact hn k a c
     ·subst c;exact fun e=>he e.symm
    ·rw[ew];simp only[Ad,Nat.reduceEqDiff,reduceCtorEq]
     (repeat' (first|(with_reducible refine aI ?_ ?_)|(first|(first|refine gF ?_ ?_|refine gT ?_ ?_|refine cI ?_ ?_|refine pI ?_ ?_)<;>intro h|(refine dI ?_;have h:=trivial))<;>simp only[h,Ad,An,Bv,Bf,Nat.reduceAdd,Nat.reduceSub,Nat.reduceMul,Nat.reduceLT,Nat.reduceLeDiff,Nat.reduceEqDiff,reduceCtorEq,List.reduceReplicate,Int.reduceToNat,Int.reduceLE,Int.reduceLT]))
     all_goals first|rfl|exact .inl rfl|trace_state
  ·have d1:decide (j≤5)=false:=decide_eq_false hj;obtain rfl:j=6:=by omega
   rw[Oo hn,IQ];simp only[Ad,Nat.reduceLT,Nat.reduceEqDiff,reduceCtorEq,Int.reduceLE]
   (repeat' (first|(with_reducible refine aI ?_ ?_)|(first|(first|refine gF ?_ ?_|refine gT ?_ ?_|refine cI ?_ ?_|refine pI ?_ ?_)<;>intro h|(refine dI ?_;have h:=trivial))<;>simp only[h,d1,Ad,An,Bv,Bf,Nat.reduceAdd,Nat.reduceSub,Nat.reduceMul,Nat.reduceLT,Nat.reduceLeDiff,Nat.reduceEqDiff,reduceCtorEq,List.reduceReplicate,Int.reduceToNat,Int.reduceLE,Int.reduceLT]))
   all_goals first|rfl|exact .inl rfl|trace_state
variable {γ:List (Nat×AV)} {ts:List Tk} {L:AV}
theorem c137:Ak Tp 137:=⟨_,Tryz.func137,by kernel_rfl,by kernel_rfl⟩
def HQ(x:Int):List AV:=[AA x]
theorem YX(E:FC γ L ts){i n n0 b rb p:Nat}{h:List Aa}{nm:List UInt8}{xs:List Int}(hp:p≤ts.length)(hr:RD h i L p n)(hB:M8 i n0 b rb 137 [Ae nm] 3 1 HQ h xs)(hxs:(xs.length+1) * 8≤140737488355328):
  Ck Tp γ 204 [.ptr rb 0 0,.ptr b 0 0] h (Nc (IN i b n0) ts n L i h (fun x a h'=>a=.tup []∧M8 i n0 b rb 137 [Ae nm] 3 1 HQ h' (xs++[x])) (HK ts p)):=by
 obtain⟨N,hB'⟩:=hB;have hB2:=hB';obtain⟨a1,a2,a3,a4,a5,a6,a7,a8,a9,a10⟩:=hB2;have hi:h[i]?=_:=hr;have ll:=E.len;refine Ck.of Tryz.func204 rfl ?_
 by_cases hlt:p<ts.length
 ·obtain⟨bb,m,cs,rfl,hcs⟩:=E.sl hlt;obtain⟨t,ht⟩:∃ t,ts[p]?=some t:=⟨ts[p],by simp[hlt]⟩;have h6l:=EV.len hcs hlt;have h0:cs[p * 6]?=some (.v (.int .i64 t.kind)):=EV.cell (b:=bb) hcs ht (k:=0) (by decide);have h1:cs[p * 6+1]?=_:=EV.cell (b:=bb) hcs ht (k:=1) (by decide);have d1:((p:Int)==(ts.length:Int))=false:=by simp only[beq_eq_false_iff_ne,ne_eq];omega
  have hK:HK ts p=if t.kind=1∧(Ei t.text).2=true∧(Ei t.text).1≠5 then .ok (Ei t.text).1 (p+1)else .bad p 80:=by unfold HK;rw[ht]
  rw[hK]
  by_cases hk:t.kind=1
  ·have dk:(t.kind != 1)=false:=by simp[hk]
   have hty:=eI (γ:=γ) t.text;simp only[Tryz.f204,Af,seval];refine dI ?_;simp only[AH,a8,hi,ll,d1,h0,dk,Af,A7,seval];refine⟨hlt,?_⟩;refine dI ?_;simp only[AH,a8,hi,h1,Tk.cells,Af,A7,seval];refine⟨hlt,Ag.intro c14 rfl hty ?_⟩;generalize Ei t.text=R;obtain⟨k,ok⟩:=R;cases ok with
   |false=>
    rw[if_neg (fun h=>by cases h.2.1)];simp only[AH,a8,IQ,Af,Bf,seval];refine Ao.intro c127 _ (EE E hr 80) (fun r h2 hh=>by cases hh.1) (fun v h2 hh=>?_);obtain⟨e,rfl⟩:=hh;cases e;exact⟨Fr.refl _ _,rfl⟩
   |true=>
    by_cases h5:k=5
    ·have d5:(k==5)=true:=by simp[h5]
     rw[if_neg (fun h=>h.2.2 h5)];simp only[AH,a8,IQ,d5,Af,Bv,seval];refine Ao.intro c127 _ (EE E hr 80) (fun r h2 hh=>by cases hh.1) (fun v h2 hh=>?_);obtain⟨e,rfl⟩:=hh;cases e;exact⟨Fr.refl _ _,rfl⟩
    ·have d5:(k==5)=false:=by simp[h5]
     rw[if_pos ⟨hk,rfl,h5⟩];have hn:=E.n;have w1:IntKind.i64.wrap ((p:Int)+1)=((p+1:Nat):Int):=(A4 (by omega) (by omega)).trans (by omega);obtain⟨x,hx⟩:∃ x,x=k:=⟨_,rfl⟩;rw[←hx]at d5⊢;have f1:Fr (AU i) h (h.set i ⟨0,199,[.sl bb ts.length m cs,.v (.int .i64 ((p+1:Nat):Int)),.v (.int .i64 (n:Int))]⟩):=Fr.set _ rfl;have r1:RD (h.set i ⟨0,199,[.sl bb ts.length m cs,.v (.int .i64 ((p+1:Nat):Int)),.v (.int .i64 (n:Int))]⟩) i (.sl bb ts.length m cs) (p+1) n:=hr.set (p+1);obtain⟨h1,ee⟩:∃ h1,h.set i ⟨0,199,[.sl bb ts.length m cs,.v (.int .i64 ((p+1:Nat):Int)),.v (.int .i64 (n:Int))]⟩=h1:=⟨_,rfl⟩;rw[ee]at f1 r1;obtain⟨b1,b2,b3,b4,b5,b6,b7,b8,b9,b10⟩:=hB'.fr f1
     all_goals have hbl:=(Bs.1 b9).1
     all_goals have hrl:=r1.lt
     all_goals have g7:∀ l,(h1++l)[b]?=some ⟨0,137,[Ae nm,N]⟩:=fun l=>(Ba hbl).trans b9
     all_goals have s6:∀ l c,(h1++l).set b c=h1.set b c++l:=fun l c=>Bg _ _ hbl
     all_goals have he:AE (fun k=>k<n0∨AZ N k) h1 [AA x] [AA x]:=AE.cons (Rd.int x) AE.nil
     all_goals have hxe:(xs++[x]).length=xs.length+1:=by simp
     all_goals have hxf:(xs++[x]).flatMap HQ=xs.flatMap HQ++[AA x]:=by simp[HQ]
     all_goals have hB3:=hB'.fr f1
     all_goals rcases b10 with⟨rfl,e0,e1⟩|⟨j,ver,cs,rfl,hn,hj0,hj,hl,hrd⟩
     all_goals first
      |(have e0':=e0
        simp only[AH,a8,hi,IQ,d5,w1,ee,b9,g7,Ap,s6,Bi,Bo,Bc,Ae,Af,A7,Bv,seval];obtain⟨k1,k2⟩:=hB3.push (h':=h1.set b ⟨0,137,[Ae nm,.own (h1.length+1) 0 1]⟩++[⟨0,3,[AA x]⟩,⟨0,3,[AA x]⟩]) (j':=h1.length+1) (ver':=0) (cs:=[]) (es:=[AA x]) (ecs:=[AA x]) (fun j ver e=>by cases e) (fun _=>⟨by omega,rfl⟩) ((Fr.set _ (.inl rfl)).trans (Fr.app (S:=BR) _ _) fun k e=>e.elim) (Ce _ _ _ _ _ _) (by rw[e0];exact (Ba (by rw[Bl];exact hbl)).trans (Be hbl)) rfl he;rw[e0]at k1;refine⟨(IN.i f1).trans k2 fun k e=>.inl e,_,rfl,?_,rfl,.own (h1.length+1) 0 1,?_⟩
        ·exact (Ba (by rw[Bl];exact hrl)).trans ((Bn a5.symm).trans r1)
        ·rw[hxe,hxf,e0];exact k1)
      |(have hjl:=(Bs.1 hj).1
        have hjb:j≠b:=by omega
        have hji:j≠i:=by omega
        have q1:∀ l,(h1++l)[j]?=some ⟨ver,3,cs⟩:=fun l=>(Ba hjl).trans hj
        have s8:∀ l c,(h1++l).set j c=h1.set j c++l:=fun l c=>Bg _ _ hjl
        have g9:∀ l c,(h1.set j c++l)[b]?=some ⟨0,137,[Ae nm,.own j ver xs.length]⟩:=fun l c=>(Ba (by rw[Bl];exact hbl)).trans ((Bn hjb).trans b9)
        have s9:∀ l c d,(h1.set j c++l).set b d=(h1.set j c).set b d++l:=fun l c d=>Bg _ _ (by rw[Bl];exact hbl)
        have hl':cs.length=xs.length * 1:=by omega
        have q4:List.take (xs.length * 1) cs=cs:=Bt (by omega);have q6:xs.length * 1≤cs.length:=by omega
        simp only[Nat.mul_one]at q4 q6;simp only[AH,a8,hi,IQ,d5,w1,ee,b9,Ap,Bi,Bc,Ae,q1,s8,g9,s9,q4,q6,Af,A7,Bv,seval];obtain⟨k1,k2⟩:=hB3.push (h':=(h1.set j ⟨ver+1,3,cs++[AA x]⟩).set b ⟨0,137,[Ae nm,.own j (ver+1) (xs.length+1)]⟩++[⟨0,3,[AA x]⟩]) (j':=j) (ver':=ver+1) (cs:=cs) (es:=[AA x]) (ecs:=[AA x]) (fun j2 ver2 e=>by cases e;exact⟨rfl,hj⟩) (fun e=>by cases e) (((Fr.set (S:=fun k=>k=b∨AZ (.own j ver xs.length) k) _ (.inr rfl)).trans (Fr.set (S:=fun k=>k=b∨AZ (.own j ver xs.length) k) _ (.inl rfl)) fun k e=>.inl e).trans (Fr.app (S:=BR) _ _) fun k e=>e.elim) ((Ba (by rw[Bl,Bl];exact hjl)).trans ((Bn hjb.symm).trans (Be hjl))) ((Ba (by rw[Bl,Bl];exact hbl)).trans (Be (by rw[Bl];exact hbl))) rfl he;refine⟨hxs,(IN.i f1).trans k2 fun k e=>.inl e,_,rfl,?_,rfl,.own j (ver+1) (xs.length+1),?_⟩
        ·exact (Ba (by rw[Bl,Bl];exact hrl)).trans ((Bn a5.symm).trans ((Bn hji).trans r1))
        ·rw[hxe,hxf];exact k1)
  ·have dk:(t.kind != 1)=true:=by simp[hk]
   rw[if_neg (fun h=>hk h.1)];simp only[Tryz.f204,Af,seval];refine dI ?_;simp only[AH,a8,hi,ll,d1,h0,dk,Af,A7,seval];refine⟨hlt,Ao.intro c127 _ (EE E hr 80) (fun r h2 hh=>by cases hh.1) (fun v h2 hh=>?_)⟩;obtain⟨e,rfl⟩:=hh;cases e;exact⟨Fr.refl _ _,rfl⟩
 ·have d1:((p:Int)==(ts.length:Int))=true:=by simp only[beq_iff_eq];omega
  have hK:HK ts p=.bad p 80:=by unfold HK;rw[Bq (by omega)]
  rw[hK];simp only[Tryz.f204,Af,seval];refine dI ?_;simp only[AH,a8,hi,ll,d1,Af,A7,seval];refine Ao.intro c127 _ (EE E hr 80) (fun r h2 hh=>by cases hh.1) (fun v h2 hh=>?_);obtain⟨e,rfl⟩:=hh;cases e;exact⟨Fr.refl _ _,rfl⟩
def Tg.av(t:Tg):AV:=.agg t.cells
theorem R8(xs:List Int):IP xs.length (xs.flatMap HQ)=Ml xs:=by
 have:xs.flatMap HQ=xs.map AA:=by
  induction xs with
  |nil=>rfl
  |cons x xs ih=>rw[BE,ih];rfl
 rw[this];rfl
theorem gC(E:FC γ L ts){h:List Aa}{i p n:Nat}(hp:p≤ts.length)(hr:RD h i L p n):
  Ck Tp γ 137 [.ptr i 0 0] h (E9 ts n L i h (TP Tg.av h.length) (NC ts p)):=by
 have hil:=hr.lt;have hn:=E.n;refine Ck.of Tryz.func137 rfl ?_;simp only[Tryz.f137,AH,Ap,Bo,Bc,Bi,Af,seval];refine Jw cC (KF E hp (hr.app _)) (fun nm p1 a h1 e f1 r1 hA=>?_) (fun q e' h1 e f1=>?_)
 rotate_left
 ·unfold NC;rw[e];exact⟨f1.pre,rfl⟩
 have adv1:=CB hp;rw[e]at adv1;obtain⟨_,hp1⟩:=adv1;have eD:NC ts p=(G2 ts (HK ts) p1).bind fun l p2=>(AR ts [59] p2).bind fun _ p3=>.ok ⟨nm,l⟩ p3:=by unfold NC;rw[e];rfl
 rw[eD];subst hA;have k0:h1[h.length]?=some ⟨0,127,[.ptr i 0 0]⟩:=f1.at (Ap _ _ _) (fun e=>by have e:h.length=i:=e;omega);have k1:h1[h.length+1]?=some ⟨0,137,[Ae [],.v (.slice none 0 0)]⟩:=f1.at (B1 _ _ _ _) (fun e=>by have e:h.length+1=i:=e;omega);have hl1:=(Bs.1 k1).1;have g0:∀ l,(h1++l)[h.length]?=some ⟨0,127,[.ptr i 0 0]⟩:=fun l=>(Ba (by omega)).trans k0
 simp only[AH,g0,Ae,Ap,CV,Af,seval]
 have hlist:=Kx (b:=h1.length) (n0:=h1.length+1) E (I:=HK ts) (fun p hp=>KM hp) (Φ:=M8 i (h1.length+1) h1.length h.length 137 [Ae nm] 3 1 HQ) (fs:=[]) (cs:=[.ptr h.length 0 0,.ptr h1.length 0 0]) c204
  (fun h h1 xs a f=>a.fr f) (fun h p xs hp hx hr hB=>YX E hp hr hB (by omega)) hp1 (r1.app [⟨0,137,[Ae nm,.v (.slice none 0 0)]⟩]) ⟨.v (.slice none 0 0),by omega,by omega,by omega,by omega,by omega,by omega,by simp,g0 _,Ap _ _ _,GL.nil⟩
 refine UZ j4 hlist (fun xs q a h2 e2 f2 r2 hA=>?_) (fun q e' h2 e2 f2=>?_)
 rotate_left
 ·rw[e2];exact⟨f1.pre.trans (f2.drop (by omega) (by omega)) fun k e=>.inl e,rfl⟩
 have adv2:=Ln (ts:=ts) (I:=HK ts) (fun _=>KM) hp1;rw[e2]at adv2⊢;have eD2:(DR.ok xs q).bind (fun l p2=>(AR ts [59] p2).bind fun _ p3=>DR.ok (⟨nm,l⟩:Tg) p3)=(AR ts [59] q).bind fun _ p3=>.ok ⟨nm,xs⟩ p3:=rfl
 rw[eD2];obtain⟨rfl,hB2⟩:=hA;have b8':h2[h.length]?=some ⟨0,127,[.ptr i 0 0]⟩:=by obtain⟨_,_,_,_,_,_,_,_,b8,_⟩:=hB2;exact b8
 have k2:h2[h.length+1]?=some ⟨0,137,[Ae [],.v (.slice none 0 0)]⟩:=f2.at ((Ba (by omega)).trans k1) (fun e=>by rcases e with e|e|e<;>omega);simp only[AH,b8',Af,seval];refine Jw gK (K8 E adv2.2 r2 [59]) (fun x q3 a h3 e3 f3 r3 hA=>?_) (fun q' e' h3 e3 f3=>?_)
 rotate_left
 ·rw[e3];exact⟨(f1.pre.trans (f2.drop (by omega) (by omega)) fun k e=>.inl e).trans f3 fun k e=>.inl e,rfl⟩
 rw[e3];subst hA;obtain⟨N,b1,b2,b3,b4,b5,b6,b7,b8,b9,b10⟩:=hB2.fr f3;have hbl:=(Bs.1 b9).1;obtain⟨oN,fN⟩:=b10.one;have k3:=f3.at k2 (fun e=>by have e:h.length+1=i:=e;omega);have s5:∀ c,(h3.set (h.length+1) c)[h.length+1]?=some c:=fun c=>Be (Bs.1 k3).1
 simp only[AH,b9,k3,s5,oN,Aj,Ae,Bc,Bi,Af,seval];have rd:=b10.rdS (m:=h.length) (Fr.set (S:=AU (h.length+1)) (h:=h3) ⟨0,137,[Ae nm,N]⟩ rfl) (fun k e _=>by have e:k=h.length+1:=e;omega) (by omega);rw[R8]at rd;have f12:Fr (AU i) h h3:=(f1.pre.trans (f2.drop (by omega) (by omega)) fun k e=>.inl e).trans f3 fun k e=>.inl e
 exact⟨f12.trans (Fr.set (S:=AU (h.length+1)) _ rfl) fun k e=>.inr (by have e:k=h.length+1:=e;omega),_,rfl,(Bn (by omega)).trans r3,Rd.agg (AE.cons (Rd.str nm) (AE.cons rd AE.nil))⟩
def L1(n0:Nat)(t:TypeId)(sz:Nat)(h:List Aa)(N:AV)(n:Nat)(xs:List AV):Prop:=
 (N=.v (.slice none 0 0)∧n=0∧xs=[])∨∃ j ver,N=.own j ver n∧0<n∧n0≤j∧h[j]?=some ⟨ver,t,xs⟩∧xs.length=n * sz
theorem L1.lt{n0:Nat}{t:TypeId}{sz:Nat}{h:List Aa}{N:AV}{n:Nat}{xs:List AV}(a:L1 n0 t sz h N n xs){k:Nat}(hk:AZ N k):n0≤k∧k<h.length:=by
 rcases a with⟨rfl,_⟩|⟨j,ver,rfl,hn,hj0,hj,hl⟩
 ·exact hk.elim
 ·have hk':k=j:=hk;subst hk';exact⟨hj0,(Bs.1 hj).1⟩
theorem L1.fr{n0:Nat}{t:TypeId}{sz:Nat}{h h':List Aa}{N:AV}{n:Nat}{xs:List AV}{S:Nat→Prop}(a:L1 n0 t sz h N n xs)(f:Fr S h h')(hS:∀ k,AZ N k→¬S k):L1 n0 t sz h' N n xs:=by
 rcases a with a|⟨j,ver,rfl,hn,hj0,hj,hl⟩
 ·exact .inl a
 ·exact .inr ⟨j,ver,rfl,hn,hj0,f.at hj (hS j rfl),hl⟩
theorem L1.one{n0:Nat}{t:TypeId}{sz:Nat}{h:List Aa}{N:AV}{n:Nat}{xs:List AV}(a:L1 n0 t sz h N n xs):Cl N=true∧flat N=some [N]:=by rcases a with⟨rfl,_⟩|⟨j,ver,rfl,_⟩<;>exact⟨rfl,rfl⟩
def S3(n0:Nat)(N1 N2:AV)(k:Nat):Prop:=k<n0∨AZ N1 k∨AZ N2 k
def GP(n0:Nat)(t1:TypeId)(s1:Nat)(t2:TypeId)(s2:Nat)(h:List Aa)(N1:AV)(n1:Nat)(ys1:List AV)(N2:AV)(n2:Nat)(ys2:List AV):Prop:=
 ∃ xs1 xs2,L1 n0 t1 s1 h N1 n1 xs1∧L1 n0 t2 s2 h N2 n2 xs2∧(∀ k,AZ N1 k→¬AZ N2 k)∧AE (S3 n0 N1 N2) h ys1 xs1∧AE (S3 n0 N1 N2) h ys2 xs2
variable {n0:Nat} {t1:TypeId} {s1:Nat} {t2:TypeId} {s2:Nat} {h h':List Aa} {N1 N2:AV} {n1 n2:Nat} {ys1 ys2:List AV}
theorem GP.nil:GP n0 t1 s1 t2 s2 h (.v (.slice none 0 0)) 0 [] (.v (.slice none 0 0)) 0 []:=⟨[],[],.inl ⟨rfl,rfl,rfl⟩,.inl ⟨rfl,rfl,rfl⟩,fun k e=>e.elim,AE.nil,AE.nil⟩
theorem GP.swap(a:GP n0 t1 s1 t2 s2 h N1 n1 ys1 N2 n2 ys2):GP n0 t2 s2 t1 s1 h N2 n2 ys2 N1 n1 ys1:=by
 obtain⟨x1,x2,a1,a2,a3,a4,a5⟩:=a;have e:S3 n0 N1 N2=S3 n0 N2 N1:=by funext k;exact propext ⟨fun e=>e.elim .inl fun e=>.inr e.symm,fun e=>e.elim .inl fun e=>.inr e.symm⟩
 rw[e]at a4 a5;exact⟨x2,x1,a2,a1,fun k e e2=>a3 k e2 e,a5,a4⟩
theorem GP.lt1(a:GP n0 t1 s1 t2 s2 h N1 n1 ys1 N2 n2 ys2){k:Nat}(hk:AZ N1 k):n0≤k∧k<h.length:=by
 obtain⟨x1,x2,a1,_⟩:=a;exact a1.lt hk
theorem GP.lt2(a:GP n0 t1 s1 t2 s2 h N1 n1 ys1 N2 n2 ys2){k:Nat}(hk:AZ N2 k):n0≤k∧k<h.length:=a.swap.lt1 hk
theorem GP.fr{S:Nat→Prop}(a:GP n0 t1 s1 t2 s2 h N1 n1 ys1 N2 n2 ys2)(f:Fr S h h')(hS:∀ k,S k→k<h.length→k<n0):GP n0 t1 s1 t2 s2 h' N1 n1 ys1 N2 n2 ys2:=by
 obtain⟨x1,x2,a1,a2,a3,a4,a5⟩:=a;have g:∀ k,S k→k<h.length→S3 n0 N1 N2 k:=fun k e hk=>.inl (hS k e hk)
 exact⟨x1,x2,a1.fr f (fun k e e2=>by have:=a1.lt e;have:=hS k e2 this.2;omega),a2.fr f (fun k e e2=>by have:=a2.lt e;have:=hS k e2 this.2;omega),a3,a4.up f g (fun k e _=>e),a5.up f g (fun k e _=>e)⟩
theorem GP.one1(a:GP n0 t1 s1 t2 s2 h N1 n1 ys1 N2 n2 ys2):Cl N1=true∧flat N1=some [N1]:=by
 obtain⟨x1,x2,a1,_⟩:=a;exact a1.one
theorem GP.one2(a:GP n0 t1 s1 t2 s2 h N1 n1 ys1 N2 n2 ys2):Cl N2=true∧flat N2=some [N2]:=a.swap.one1
theorem GP.at1(a:GP n0 t1 s1 t2 s2 h N1 n1 ys1 N2 n2 ys2):(N1=.v (.slice none 0 0)∧n1=0∧ys1=[])∨∃ j ver xs,N1=.own j ver n1∧0<n1∧n0≤j∧h[j]?=some ⟨ver,t1,xs⟩∧xs.length=n1 * s1∧¬AZ N2 j:=by
 obtain⟨x1,x2,a1,a2,a3,a4,a5⟩:=a
 rcases a1 with⟨rfl,rfl,rfl⟩|⟨j,ver,rfl,hn,hj0,hj,hl⟩
 ·refine .inl ⟨rfl,rfl,?_⟩;have:=a4 h (Fr.refl _ _);cases ys1 with
  |nil=>rfl
  |cons y ys=>simp only[Fe]at this;obtain⟨_,_,e,_⟩:=this;cases e
 ·exact .inr ⟨j,ver,x1,rfl,hn,hj0,hj,hl,a3 j rfl⟩
theorem GP.push1{es ecs:List AV}{j' ver':Nat}{xs:List AV}(a:GP n0 t1 s1 t2 s2 h N1 n1 ys1 N2 n2 ys2)
  (hx:∀ j ver,N1=.own j ver n1→j'=j∧h[j]?=some ⟨ver,t1,xs⟩) (hx0:N1=.v (.slice none 0 0)→h.length≤j'∧xs=[]) (hn0:n0≤h.length)
  (f:Fr (fun k=>k<n0∨AZ N1 k) h h') (hj:h'[j']?=some ⟨ver',t1,xs++es⟩) (hl:es.length=s1) (he:AE (S3 n0 N1 N2) h ecs es) :
  GP n0 t1 s1 t2 s2 h' (.own j' ver' (n1+1)) (n1+1) (ys1++ecs) N2 n2 ys2:=by
 obtain⟨x1,x2,a1,a2,a3,a4,a5⟩:=a;have g:∀ k,(k<n0∨AZ N1 k)→k<h.length→S3 n0 N1 N2 k:=fun k e _=>e.elim .inl fun e=>.inr (.inl e)
 have a2':=a2.fr f (fun k e e2=>by
  have:=a2.lt e
  rcases e2 with e2|e2
  ·omega
  ·exact a3 k e2 e)
 rcases a1 with⟨rfl,rfl,rfl⟩|⟨j,ver,rfl,hn,hj0,hj1,hl1⟩
 ·obtain⟨h1,rfl⟩:=hx0 rfl
  have g2:∀ k,S3 n0 (.own j' ver' (0+1)) N2 k→k<h.length→S3 n0 (.v (.slice none 0 0)) N2 k:=fun k e hk=>by
   rcases e with e|e|e
   ·exact .inl e
   ·have e:k=j':=e;omega
   ·exact .inr (.inr e)
  refine⟨[]++es,x2,.inr ⟨j',ver',rfl,Nat.succ_pos _,by omega,hj,by simp[hl]⟩,a2',fun k e e2=>?_,(a4.up f g g2).append (he.up f g g2),a5.up f g g2⟩;have e:k=j':=e;have:=a2.lt e2
  omega
 ·obtain⟨rfl,h2⟩:=hx j ver rfl;rw[hj1]at h2;cases h2;have g2:∀ k,S3 n0 (.own j' ver' (n1+1)) N2 k→k<h.length→S3 n0 (.own j' ver n1) N2 k:=fun k e hk=>e
  exact⟨_,x2,.inr ⟨j',ver',rfl,Nat.succ_pos _,hj0,hj,by rw[Bp,hl1,hl,Nat.succ_mul]⟩,a2',fun k e e2=>a3 k e e2,(a4.up f g g2).append (he.up f g g2),a5.up f g g2⟩
theorem GP.rd1(a:GP n0 t1 s1 t2 s2 h N1 n1 ys1 N2 n2 ys2):Rd (Old n0) h (IP n1 ys1) N1:=by
 obtain⟨x1,x2,a1,a2,a3,a4,a5⟩:=a
 rcases a1 with⟨rfl,rfl,rfl⟩|⟨j,ver,rfl,hn,hj0,hj,hl⟩
 ·exact Rd.val _
 ·intro h' f;obtain⟨n,rfl⟩:∃ m,n1=m+1:=⟨n1-1,by omega⟩;have hj':=f.at hj (fun e=>by have:j<n0:=e;omega);simp only[IP,Go.Ev.fz];exact .inr ⟨trivial,j,_,x1,rfl,hj',BL _,.inl trivial,BB,a4 h' (f.mono fun k e=>.inl e)⟩
theorem GP.rd2(a:GP n0 t1 s1 t2 s2 h N1 n1 ys1 N2 n2 ys2):Rd (Old n0) h (IP n2 ys2) N2:=a.swap.rd1
end Go.Proofs.YtlobiioioicmhaaGreatDoor
