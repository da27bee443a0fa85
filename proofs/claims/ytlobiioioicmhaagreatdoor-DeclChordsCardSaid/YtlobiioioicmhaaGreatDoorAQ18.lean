/- A part of the proof. -/
import Derived.Test.YtlobiioioicmhaaGreatDoorAQ17
import Derived.Shelf.Strconv.Itoa0
import Derived.Shelf.Strconv.Itoa1
import Derived.Shelf.LaysM
import Derived.Shelf.Strconv.Itoa2
import Derived.Shelf.Strconv.Itoa3
import Derived.Test.YtlobiioioicmhaaGreatDoorProg
import Derived.Shelf.Strconv.ToError
import Derived.Lib.Walk
import Derived.Lib.ItoaMem
import Derived.Lib.AppendIntMem
import Derived.WalkKit
import Derived.BigCall
import Derived.BigGuard
import Derived.Lib.IndexLaws
import Derived.Lib.ItoaLen
set_option linter.all false
set_option maxHeartbeats 8000000
namespace Go.Proofs.YtlobiioioicmhaaGreatDoor
open _root_.Bool renaming not_true→Bv,not_false→Bf
open _root_.List renaming getElem?_eq_some_iff→Bs,getElem?_append_left→Ba,getElem?_set_self→Be,getElem?_set_ne→Bn,getElem?_cons_zero→Bz,getElem?_cons_succ→Bu,set_cons_zero→Bx,set_cons_succ→Bw,getElem?_map→Bm,length_map→Bk,length_cons→BC,length_nil→BD,mem_cons→BI,getElem?_toArray→BU
open _root_.Nat renaming zero_le→BN
open Go.Proofs.Tryz renaming prog→Tp
open Go Go.Ev
set_option maxRecDepth 20000
variable {γ:List (Nat×AV)}
theorem c68:Al Tp 68:=⟨_,Tryz.func68,by kernel_rfl,by kernel_rfl⟩
theorem c28:Al Tp 28:=⟨_,Tryz.func28,by kernel_rfl,by kernel_rfl⟩
theorem envQ{l:List UInt8}{L:List (AD×Nat)}(h:CA l=some L):IU (Cl L) (L.map EH):=
 ⟨Y1 L,Pw h,by have:=JO h;rw[Bk];omega⟩
def VR(l:List UInt8)(h:List Aa)(o:Out)(h':List Aa):Prop:=match CA l with
 |none=>∃ x:(AD×Nat)×Int,(Ag l).find? E1=some x∧x.2≠0∧o=.ret (.tup [.v (.pointer none),.v (.int .i64 ((x.1.2:Nat):Int)),.v (.int .i64 x.2)])∧h'=h
 |some L=>o=.ret (.tup [.ptr h.length 0 0,.v (.int .i64 0),.v (.int .i64 0)])∧h'=h++[⟨0,123,cQ (Cl L) l.length (0,none)⟩]
theorem Wj(b:Bool)(l:List UInt8)(hl:l.length≤140737488351232)(h:List Aa):Ce Tp γ 68 [.sl b l.length l.length (l.map Ai)] h (VR l h):=by
 refine Ce.of Tryz.func68 rfl ?_;simp only[Tryz.f68,Af,seval];refine Am.pure (Ae.intro c41 rfl (MR b l hl) ?_);unfold VR;cases e:CA l with
 |none=>
  obtain⟨L,x,hx,hk,hr⟩:=JV e;have d1:(x.2 != 0)=true:=by simpa using hk
  rw[hr];simp only[d1,Af,seval]
  first|exact⟨x,hx,hk,rfl,rfl⟩|exact⟨x,hx,hk,rfl⟩
 |some L=>
  have z0:((0:Int) != 0)=false:=rfl;have fl:=O2 L;have fo:=Su L;rw[Km e];simp only[B4,Cv,z0,fl,fo,Af,seval]
  rfl
theorem Sf:Fi []=.tup [.v (.slice none 0 0),.v (.int .i64 0),.v (.int .i64 0)]:=Oj (l:=[]) (toks:=[]) rfl
def rnS(γ:List (Nat×AV)):St:=⟨⟨61,[(0,.v (.slice none 0 0)),(5,.v (.slice none 0 0)),(6,.v (.int .i64 0))],γ⟩,[]⟩
theorem Rh:Ev Tp γ 41 [.v (.slice none 0 0)] (Fi []):=by
 refine Ev.ofE Tryz.func41 rfl ?_;rw[Sf];have d0:decide ((32768:Int)<((0:Nat):Int))=false:=by decide
 have d1:decide ((32768:Int)<0)=false:=by decide
 have d2:decide (((0:Nat):Int)<((0:Nat):Int))=false:=by decide
 have d3:decide ((0:Int)<0)=false:=by decide
 simp only[Tryz.f41,B4,Af,seval];refine C1.intro (fun _:Unit=>rnS γ) (fun _=>True) (fun _=>0) () ⟨rfl,rfl,⟨rfl,rfl,rfl,trivial⟩,rfl⟩ trivial (fun k hk=>?_);simp only[rnS,B4,Af,seval]
theorem Uk(h:List Aa):Ce Tp γ 68 [.v (.slice none 0 0)] h (VR [] h):=by
 refine Ce.of Tryz.func68 rfl ?_;simp only[Tryz.f68,Af,seval];refine Am.pure (Ae.intro c41 rfl Rh ?_);rw[Sf];have z0:((0:Int) != 0)=false:=rfl;simp only[B4,Cv,z0,Af,seval];exact⟨rfl,rfl⟩
theorem I9{x:AV}{l:List UInt8}(hx:∀ h,Ce Tp γ 68 [x] h (VR l h)):Ev Tp γ 28 [x] (El l):=by
 refine Ev.ofE Tryz.func28 rfl ?_;simp only[Tryz.f28,B4,Af,seval];refine Am.intro c68 _ (hx [⟨0,59,[.v (.string ⟨#[]⟩),.v (.slice none 0 0),.v (.slice none 0 0),.v (.slice none 0 0)]⟩]) (fun r h1 hh=>?_) (fun v h1 hh=>?_)
 rotate_left
 ·unfold VR at hh
  split at hh
  ·obtain⟨_,_,_,e,_⟩:=hh;cases e
  ·obtain⟨e,_⟩:=hh;cases e
 unfold VR at hh;cases e:CA l with
 |none=>
  rw[e]at hh;obtain⟨x,hx,hk,eo,rfl⟩:=hh;cases eo;have d1:(x.2 != 0)=true:=by simpa using hk
  have hP:CD l=(dL,((x.1.2:Nat):Int),x.2):=by unfold CD EM;rw[e];simp only[hx]
  simp only[B4,d1,El,hP,Ao,Af,seval];exact⟨(Rd.agg (S:=Cj) (AL.cons (Rd.str []) (AL.cons (Rd.val _) (AL.cons (Rd.val _) (AL.cons (Rd.val _) AL.nil))))).fz,(Rd.int (S:=Cj) _).fz,(Rd.int (S:=Cj) _).fz⟩
 |some L=>
  rw[e]at hh;obtain⟨eo,rfl⟩:=hh;cases eo;have hE:=envQ e;have z0:((0:Int) != 0)=false:=rfl;simp only[z0,Af,seval];refine Yx (ts:=L.map EH) (L:=Cl L) (n:=l.length) (i:=1) (S:=(J3 (L.map EH) l.length (0,none)).2) (y:=(J3 (L.map EH) l.length (0,none)).1.av) c69 (Vt (S:=(0,none)) hE ⟨rfl,BN _,fun b hb=>by cases hb⟩) (fun A h1 f1 r1 rA=>?_);have hs:=Ww (ts:=L.map EH) (n:=l.length) (p:=0) (BN _);have hml:(L.map EH).length=L.length:=Bk ..;have k0:h1[0]?=some ⟨0,59,[.v (.string ⟨#[]⟩),.v (.slice none 0 0),.v (.slice none 0 0),.v (.slice none 0 0)]⟩:=f1.at rfl (fun e=>by cases e);have hl0:=(Bs.1 k0).1;generalize J3 (L.map EH) l.length (0,none)=X at hs r1 rA;obtain⟨c,S1⟩:=X;simp only at r1 rA;have rA2:Rd (fun k=>k<2) h1 c.av A:=rA;obtain⟨x1,x2,x3,rfl,⟨o1,g1⟩,⟨o2,g2⟩,o3,g3⟩:=MO (m:=2) rA2;have hfa:∀ s,flat (Aj s)=some [Aj s]:=fun s=>rfl
  have hoa:∀ s,Cd (Aj s)=true:=fun s=>rfl
  simp only[B4,Aw,Du,o1,o2,o3,hoa,Ao,Bx,Bw,Af,seval];refine dI ?_;obtain⟨c8,h8⟩:∃ c8:Aa,c8=⟨0,59,[Aj c.name,x1,x2,x3]⟩:=⟨_,rfl⟩;have r2:=r1.app [c8];have k02:(h1++[c8])[0]?=some ⟨0,59,[.v (.string ⟨#[]⟩),.v (.slice none 0 0),.v (.slice none 0 0),.v (.slice none 0 0)]⟩:=(Ba hl0).trans k0;have k82:(h1++[c8])[h1.length]?=some c8:=Aw _ _ _;rw[←h8];have hlen2:h1.length<(h1++[c8]).length:=by simp
  have hl8:2≤h1.length:=f1.1;have rA3:Rd (fun k=>k<2) (h1++[c8]) c.av (.agg [Aj c.name,x1,x2,x3]):=rA2.up (Fr.app (S:=Cj) h1 [c8]) (fun k e=>e.elim) (fun k e _=>e);obtain⟨b8,hb8⟩:∃ b8,b8=h1.length:=⟨_,rfl⟩;rw[←hb8]at k82 hlen2 hl8⊢;generalize h1++[c8]=h2 at r2 k02 k82 hlen2 rA3⊢;have hi2:=r2.1;have ll:=hE.len h2;have q0:∀ d,(h2.set 0 d)[0]?=some d:=fun d=>Be (by omega)
  have q1:∀ d,(h2.set 0 d)[1]?=h2[1]?:=fun d=>Bn (by decide)
  cases er:EV (L.map EH) 0 with
  |bad q e'=>
   rw[er]at hs;have hs:S1.2=some (e',Hy (L.map EH) l.length q):=hs;have hP:CD l=(dL,Hy (L.map EH) l.length q,e'):=by unfold CD EM;rw[e];simp only[er]
   obtain⟨p',bd⟩:=S1;simp only at hs;subst hs;have hb:(E5 (some (e',Hy (L.map EH) l.length q))==0)=false:=r2.2.bad;have hb2:(E5 (some (e',Hy (L.map EH) l.length q)) != 0)=true:=r2.2.bad2;simp only[Cv,hi2,cQ,hb,hb2,Af,AB,seval];refine Cp.orders2 [[0,9,1,2,3,4,5,6,7,8,10,11],[0,5,9,1,2,3,4,6,7,8,10,11],[0,5,6,9,1,2,3,4,7,8,10,11],[0,5,6,7,9,1,2,3,4,8,10,11],[0,5,6,7,8,9,1,2,3,4,10,11],[0,1,9,2,3,4,5,6,7,8,10,11],[0,1,5,9,2,3,4,6,7,8,10,11],[0,1,5,6,9,2,3,4,7,8,10,11],[0,1,5,6,7,9,2,3,4,8,10,11],[0,1,5,6,7,8,9,2,3,4,10,11],[0,1,2,9,3,4,5,6,7,8,10,11],[0,1,2,5,9,3,4,6,7,8,10,11],[0,1,2,5,6,9,3,4,7,8,10,11],[0,1,2,5,6,7,9,3,4,8,10,11],[0,1,2,5,6,7,8,9,3,4,10,11],[0,1,2,3,9,4,5,6,7,8,10,11],[0,1,2,3,5,9,4,6,7,8,10,11],[0,1,2,3,5,6,9,4,7,8,10,11],[0,1,2,3,5,6,7,9,4,8,10,11],[0,1,2,3,5,6,7,8,9,4,10,11],[0,1,2,3,4,9,5,6,7,8,10,11],[0,1,2,3,4,5,9,6,7,8,10,11],[0,1,2,3,4,5,6,9,7,8,10,11],[0,1,2,3,4,5,6,7,9,8,10,11],[0,1,2,3,4,5,6,7,8,9,10,11]] (by kernel_rfl) (by kernel_rfl) (by kernel_rfl) (fun p hp=>?_);simp only[BI,List.not_mem_nil,or_false]at hp
   rcases hp with rfl|rfl|rfl|rfl|rfl|rfl|rfl|rfl|rfl|rfl|rfl|rfl|rfl|rfl|rfl|rfl|rfl|rfl|rfl|rfl|rfl|rfl|rfl|rfl|rfl
   all_goals simp only[CQ,BU,Bu,Bz,B4,Cv,hi2,k02,q0,q1,cQ,E5,inQ,Ao,Bx,Bw,El,hP,Af,AB,seval]
   all_goals exact⟨(Rd.agg (S:=Cj) (AL.cons (Rd.str []) (AL.cons (Rd.val _) (AL.cons (Rd.val _) (AL.cons (Rd.val _) AL.nil))))).fz,(Rd.int (S:=Cj) _).fz,(Rd.int (S:=Cj) _).fz⟩
  |ok c' q=>
   rw[er]at hs;have hs:(c,S1)=(c',(q,none)):=hs;cases hs;have hb:(E5 none==0)=true:=rfl;have hb2:(E5 none != 0)=false:=rfl
   by_cases hq:q<L.length
   ·have d2:decide (q<L.length)=true:=decide_eq_true hq;have hP:CD l=(dL,Hy (L.map EH) l.length q,80):=by unfold CD EM;rw[e];simp only[er,if_pos hq]
    simp only[Cv,hi2,cQ,hb,ll,d2,Af,AB,seval];refine Am.intro c70 _ (IP hE r2 q 80 (by decide)) (fun r h3 hh=>?_) (fun v h3 hh=>by cases hh.1);obtain⟨eo,f3,r3⟩:=hh;cases eo;have hi3:h3[1]?=some ⟨0,123,cQ (Cl L) l.length (q,some (80,Hy (L.map EH) l.length q))⟩:=r3.1;have k03:h3[0]?=some ⟨0,59,[.v (.string ⟨#[]⟩),.v (.slice none 0 0),.v (.slice none 0 0),.v (.slice none 0 0)]⟩:=f3.at k02 (fun e=>by cases e);have hl3:=(Bs.1 k03).1;have q0:∀ d,(h3.set 0 d)[0]?=some d:=fun d=>Be hl3
    have q1:∀ d,(h3.set 0 d)[1]?=h3[1]?:=fun d=>Bn (by decide)
    have hb3:(E5 (some (80,Hy (L.map EH) l.length q)) != 0)=true:=rfl;have hb4:((80:Int) != 0)=true:=rfl;simp only[Cv,hi3,cQ,hb3,Af,AB,seval];refine Cp.orders2 [[0,9,1,2,3,4,5,6,7,8,10,11],[0,5,9,1,2,3,4,6,7,8,10,11],[0,5,6,9,1,2,3,4,7,8,10,11],[0,5,6,7,9,1,2,3,4,8,10,11],[0,5,6,7,8,9,1,2,3,4,10,11],[0,1,9,2,3,4,5,6,7,8,10,11],[0,1,5,9,2,3,4,6,7,8,10,11],[0,1,5,6,9,2,3,4,7,8,10,11],[0,1,5,6,7,9,2,3,4,8,10,11],[0,1,5,6,7,8,9,2,3,4,10,11],[0,1,2,9,3,4,5,6,7,8,10,11],[0,1,2,5,9,3,4,6,7,8,10,11],[0,1,2,5,6,9,3,4,7,8,10,11],[0,1,2,5,6,7,9,3,4,8,10,11],[0,1,2,5,6,7,8,9,3,4,10,11],[0,1,2,3,9,4,5,6,7,8,10,11],[0,1,2,3,5,9,4,6,7,8,10,11],[0,1,2,3,5,6,9,4,7,8,10,11],[0,1,2,3,5,6,7,9,4,8,10,11],[0,1,2,3,5,6,7,8,9,4,10,11],[0,1,2,3,4,9,5,6,7,8,10,11],[0,1,2,3,4,5,9,6,7,8,10,11],[0,1,2,3,4,5,6,9,7,8,10,11],[0,1,2,3,4,5,6,7,9,8,10,11],[0,1,2,3,4,5,6,7,8,9,10,11]] (by kernel_rfl) (by kernel_rfl) (by kernel_rfl) (fun p hp=>?_);simp only[BI,List.not_mem_nil,or_false]at hp
    rcases hp with rfl|rfl|rfl|rfl|rfl|rfl|rfl|rfl|rfl|rfl|rfl|rfl|rfl|rfl|rfl|rfl|rfl|rfl|rfl|rfl|rfl|rfl|rfl|rfl|rfl
    all_goals simp only[CQ,BU,Bu,Bz,B4,Cv,hi3,k03,q0,q1,cQ,E5,inQ,Ao,Bx,Bw,El,hP,Af,AB,seval]
    all_goals exact⟨(Rd.agg (S:=Cj) (AL.cons (Rd.str []) (AL.cons (Rd.val _) (AL.cons (Rd.val _) (AL.cons (Rd.val _) AL.nil))))).fz,(Rd.int (S:=Cj) _).fz,(Rd.int (S:=Cj) _).fz⟩
   ·have d2:decide (q<L.length)=false:=decide_eq_false hq;have hP:CD l=(c,0,0):=by unfold CD EM;rw[e];simp only[er,if_neg hq]
    have k82':h2[b8]?=some ⟨0,59,[Aj c.name,x1,x2,x3]⟩:=by rw[←h8];exact k82
    have rA4:∀ d,Rd Cj (h2.set 0 d) c.av (.agg [Aj c.name,x1,x2,x3]):=fun d=>rA3.up (Fr.set (S:=B8 0) d rfl) (fun k e _=>by have e:k=0:=e;subst e;show 0<2;decide) (fun k e _=>e.elim)
    simp only[B4,Cv,hi2,cQ,hb,hb2,ll,d2,k82',k02,q0,o1,o2,o3,hoa,Ao,Bx,Bw,El,hP,Af,AB,seval]
    first|exact⟨(rA4 _).fz,rfl,rfl⟩|exact⟨(rA4 _).fz,rfl⟩|exact (rA4 _).fz|exact⟨(rA4 _).fz,(Rd.int (S:=Cj) _).fz,(Rd.int (S:=Cj) _).fz⟩
theorem M7(b:Bool)(l:List UInt8)(hl:l.length≤140737488351232):Ev Tp γ 28 [.sl b l.length l.length (l.map Ai)] (El l):=I9 (Wj b l hl)
theorem LM:Ev Tp γ 28 [.v (.slice none 0 0)] (El []):=I9 Uk
theorem Q3:AW Tp 115=some true∧
  AW Tp 25=some true∧
  AW Tp 39=some false∧
  AW Tp 5=some false∧
  AW Tp 57=some false∧
  Ic Tp 37 37=some (5,1,1)∧
  A5 Tp 128=some 9∧
  A5 Tp 133=some 41∧
  A5 Tp 39=some 115∧
  A5 Tp 56=some 130∧
  A5 Tp 57=some 135∧
  A5 Tp 68=some 137∧
  A5 Tp 69=some 90∧
  A5 Tp 78=some 3∧
  A5 Tp 88=some 59∧
  Ak Tp 115 0=some (0,3)∧
  Ak Tp 115 1=some (1,3)∧
  Ak Tp 115 2=some (2,3)∧
  Ak Tp 115 3=some (3,9)∧
  Ak Tp 115 4=some (4,25)∧
  Ak Tp 130 0=some (0,9)∧
  Ak Tp 135 0=some (0,3)∧
  Ak Tp 135 1=some (1,41)∧
  Ak Tp 137 0=some (0,9)∧
  Ak Tp 25 0=some (0,3)∧
  Ak Tp 41 0=some (0,39)∧
  Ak Tp 59 0=some (0,9)∧
  Ak Tp 90 0=some (0,9)∧
  HR.isBoolT Tp 4=true∧
  MC Tp 37=some (5,1,[.v (.int .u8 0)])∧
  Ap Tp 115=some 9∧
  Ap Tp 25=some 5∧
  Ap Tp 39=some 1∧
  Hm Tp 115=some [.v (.int .i64 0),.v (.int .i64 0),.v (.int .i64 0),.v (.string ⟨#[]⟩),.v (.int .i64 0),.v (.int .i64 0),.v (.float .f64 0),.v (.complex .f64 0 0),.v (.string ⟨#[]⟩)]:=
 (by and_intros<;>kernel_rfl)
theorem c75:Al Tp 75:=⟨_,Tryz.func75,by kernel_rfl,by kernel_rfl⟩
theorem c73:Al Tp 73:=⟨_,Tryz.func73,by kernel_rfl,by kernel_rfl⟩
theorem c33:Al Tp 33:=⟨_,Tryz.func33,by kernel_rfl,by kernel_rfl⟩
theorem aM(k:Int):Ev Tp γ 33 [.v (.int .i64 k)] (.v (.int .i64 k)):=by
 refine Ev.ofE Tryz.func33 rfl ?_;simp only[Tryz.f33,Af,seval]
def txS(γ:List (Nat×AV))(A:AV)(k:Nat):St:=⟨⟨26,[(0,A),(1,A),(5,.v (.int .i64 (k:Int)))],γ⟩,[]⟩
theorem gC(s:List Aa)(l:List (List UInt8)):Dr Tp 128 s (GY l)=some (.v (.int .i64 l.length)):=by
 have e:A5 Tp 128=some 9:=by kernel_rfl
 cases l with
 |nil=>simp only[GY,NF,BD,Dr,e];rfl
 |cons x l=>simp only[GY,NF,BC,Dr,e];rfl
theorem YA{l:List (List UInt8)}{k:Nat}{x:List UInt8}(h:l[k]?=some x):GY l=.sl false l.length l.length (l.map Aj):=by
 cases l with
 |nil=>cases h
 |cons y l=>rfl
theorem Ym(l:List (List UInt8))(hn:l.length≤2000000):Ev Tp γ 75 [GY l,GY l] (.v (.bool true)):=by
 have ll:=fun s=>gC s l
 have d0:(((l.length:Nat):Int) != ((l.length:Nat):Int))=false:=by simp
 refine Ev.ofE Tryz.func75 rfl ?_;simp only[Tryz.f75,ll,d0,Af,seval];refine C1.intro (txS γ (GY l)) (fun k=>k≤l.length) (fun k=>l.length-k) 0 ⟨rfl,rfl,⟨rfl,rfl,rfl,trivial⟩,rfl⟩ (BN _) (fun k hk=>?_)
 by_cases hlt:k<l.length
 ·have d1:decide (k<l.length)=true:=decide_eq_true hlt;obtain⟨x,hx⟩:∃ x,l[k]?=some x:=⟨l[k],by simp[hlt]⟩;have eS:=YA hx;have hc:(l.map Aj)[k]?=some (.v (.string ⟨x.toArray⟩)):=by rw[Bm,hx];rfl
  have w1:IntKind.i64.wrap ((k:Int)+1)=((k+1:Nat):Int):=(A7 (by omega) (by omega)).trans (by omega);have dx:(x != x)=false:=by simp
  simp only[txS,ll,d1,Af,seval];refine dI ?_;simp only[Q3,eS,hc,w1,Af,AB,Bv,seval];exact⟨hlt,hlt,B3.intro (k+1) hlt ⟨rfl,rfl,⟨rfl,rfl,rfl,trivial⟩,rfl⟩ (by show l.length-(k+1)<l.length-k;clear w1;omega)⟩
 ·have d1:decide (k<l.length)=false:=decide_eq_false hlt;simp only[txS,ll,d1,Af,seval]
def OU(b:Bool):List UInt8:=if b then [116,114,117,101]else [102,97,108,115,101]
def mB(x:Nat):Nat:=x%4503599627370496
def eB(x:Nat):Nat:=(x / 4503599627370496)%2048
def LI(x:Nat):Bool:=FloatKind.f64.format.order x x != some .eq
def mM(x:Nat):Nat:=if 0<eB x then mB x+4503599627370496 else mB x
def mE(x:Nat):Int:=if 0<eB x then (eB x:Int)-1075 else -1074
theorem KS:AW Tp 23=some false∧
  AW Tp 25=some true∧
  Ak Tp 25 0=some (0,3)∧
  Ak Tp 25 1=some (1,2)∧
  Ak Tp 25 2=some (2,22)∧
  Ak Tp 25 3=some (3,23)∧
  Ak Tp 25 4=some (4,9)∧
  BR Tp 25=some [(0,1),(1,1),(2,1),(3,1),(4,1)]∧
  Ap Tp 23=some 1∧
  Ap Tp 25=some 5∧
  Hm Tp 25=some [.v (.int .i64 0),.v (.int .i64 0),.v (.float .f64 0),.v (.complex .f64 0 0),.v (.string ⟨#[]⟩)]∧AW Tp 4=some false:=
 (by and_intros<;>kernel_rfl)
structure VD where
 kind:Int
 int:Int
 real:Nat
 re:Nat
 im:Nat
 text:List UInt8
def vC(v:VD):List AV:=[.v (.int .i64 v.kind),.v (.int .i64 v.int),.v (.float .f64 v.real),.v (.complex .f64 v.re v.im),.v (.string ⟨v.text.toArray⟩)]
def vA(v:VD):AV:=.agg (vC v)
def Pv(v:VD):Bool:=if v.kind=1∨v.kind=2∨v.kind=3 then true else if v.kind=4 then decide (v.text.length≤256)else if v.kind=5 then (v.int==0) || (v.int==1)else false
theorem dM{a b:Int}(h:a≠b):(a==b)=false:=by
 cases hb:(a==b)with
 |false=>rfl
 |true=>exact absurd (eq_of_beq hb) h
def Sk(x:Nat):Bool:=decide (x / 9223372036854775808=1)
theorem UO(x:Nat)(hx:x<18446744073709551616):Ieee.double.read x=if eB x=2047 then (if mB x=0 then .infinity (Sk x)else .nan (Sk x) (mB x))else .number (Sk x) (mM x) (mE x):=by
 have e1:Ieee.double.signWeight=9223372036854775808:=by rfl
 have e2:Ieee.double.binade=4503599627370496:=by rfl
 have e3:Ieee.double.infRung=9218868437227405312:=by rfl
 have e4:Ieee.double.leastPlace = -1074:=by rfl
 have hs:(x / 9223372036854775808%2==1)=Sk x:=by
  unfold Sk;rw[Nat.mod_eq_of_lt (by omega)];cases h:decide (x / 9223372036854775808=1)with
  |true=>simpa using h
  |false=>simpa using h
 unfold Ieee.Format.read;simp only[e1,e2,e3,e4,hs];have hB:eB x=x%9223372036854775808 / 4503599627370496:=by unfold eB;omega
 have hM:mB x=x%9223372036854775808%4503599627370496:=by unfold mB;omega
 have hr:x%9223372036854775808<9223372036854775808:=Nat.mod_lt _ (by decide);generalize x%9223372036854775808=r at *
 by_cases h1:r<4503599627370496
 ·rw[if_pos h1,if_neg (by omega)];unfold mM mE;rw[if_neg (by omega),if_neg (by omega)]
  congr 1
  omega
 ·rw[if_neg h1]
  by_cases h2:r<9218868437227405312
  ·rw[if_pos h2,if_neg (by omega)];unfold mM mE;rw[if_pos (by omega),if_pos (by omega)]
   congr 1<;>omega
  ·have hE:eB x=2047:=by omega
   by_cases h3:r=9218868437227405312
   ·rw[if_neg h2,if_pos h3,if_pos hE,if_pos (by omega)]
   ·rw[if_neg h2,if_neg h3,if_pos hE,if_neg (by omega)];exact congrArg (Ieee.Datum.nan (Sk x)) (by omega)
theorem ZC(x:Nat)(hx:x<18446744073709551616):LI x=decide (eB x=2047∧mB x≠0):=by
 unfold LI;show (Ieee.double.order x x != some .eq)=_;unfold Ieee.Format.order;rw[UO x hx]
 by_cases h1:eB x=2047
 ·rw[if_pos h1]
  by_cases h2:mB x=0
  ·rw[if_pos h2,decide_eq_false (by omega)];simp only[Ieee.Datum.order];cases Sk x<;>rfl
  ·rw[if_neg h2,decide_eq_true ⟨h1,h2⟩]
   rfl
 ·rw[if_neg h1,decide_eq_false (by omega)];simp only[Ieee.Datum.order];simp
section
variable {m:Nat} {e:Int}
theorem X9(n k:Nat):Ieee.signed false n k=((n * 2^k:Nat):Int):=by
 unfold Ieee.signed;rw[if_neg (by simp),Nat.shiftLeft_eq]
end
def jZ(x y:Nat):Prop:=x=y∨LI x=true∧LI y=true
theorem c54:Al Tp 54:=⟨_,Tryz.func54,by kernel_rfl,by kernel_rfl⟩
theorem bO(v:VD):Ev Tp γ 54 [vA v] (.v (.bool (Pv v))):=by
 refine Ev.of Tryz.func54 rfl ?_;obtain⟨k,n,x,a,b,t⟩:=v;simp only[vA,vC]
 by_cases h4:k=4
 ·subst h4;have z:((4:Int)==4)=true:=rfl
  have e:decide ((t.length:Int)≤256)=decide (t.length≤256):=by
   by_cases h:t.length≤256
   ·rw[decide_eq_true h,decide_eq_true (by omega)]
   ·rw[decide_eq_false h,decide_eq_false (by omega)]
  have em:Pv ⟨4,n,x,a,b,t⟩=decide (t.length≤256):=by unfold Pv;rw[if_neg (by show ¬((4:Int)=1∨(4:Int)=2∨(4:Int)=3);decide),if_pos rfl]
  rw[em];simp only[Tryz.f54,KS,z,e,Ad,An,seval]
  (repeat' (first|(with_reducible refine aI ?_ ?_)|(first|(first|refine gF ?_ ?_|refine gT ?_ ?_|refine cI ?_ ?_|refine pI ?_ ?_)<;>intro h|(refine dI ?_;have h:=trivial))<;>simp only[h,KS,z,e,Ad,An,Bv,Bf,seval]))
  all_goals first|done|rfl|trace_state
 ·have z4:=dM h4
  by_cases h5:k=5
  ·subst h5;have z:((5:Int)==5)=true:=rfl;have em:Pv ⟨5,n,x,a,b,t⟩=((n==0) || (n==1)):=by unfold Pv;rw[if_neg (by show ¬((5:Int)=1∨(5:Int)=2∨(5:Int)=3);decide),if_neg (by show ¬((5:Int)=4);decide),if_pos rfl]
   rw[em];cases hn:(n==0)with
   |true=>
    simp only[Tryz.f54,KS,z4,z,hn,Ad,An,seval]
    (repeat' (first|(with_reducible refine aI ?_ ?_)|(first|(first|refine gF ?_ ?_|refine gT ?_ ?_|refine cI ?_ ?_|refine pI ?_ ?_)<;>intro h|(refine dI ?_;have h:=trivial))<;>simp only[h,KS,z4,z,hn,Ad,An,Bv,Bf,seval]))
    all_goals first|done|rfl|trace_state
   |false=>
    simp only[Tryz.f54,KS,z4,z,hn,Ad,An,seval]
    (repeat' (first|(with_reducible refine aI ?_ ?_)|(first|(first|refine gF ?_ ?_|refine gT ?_ ?_|refine cI ?_ ?_|refine pI ?_ ?_)<;>intro h|(refine dI ?_;have h:=trivial))<;>simp only[h,KS,z4,z,hn,Ad,An,Bv,Bf,seval]))
    all_goals first|done|rfl|trace_state
  ·have z5:=dM h5
   have em:Pv ⟨k,n,x,a,b,t⟩=(decide (1≤k)&&decide (k≤3)):=by
    unfold Pv;simp only
    by_cases h:k=1∨k=2∨k=3
    ·rw[if_pos h,decide_eq_true (by omega),decide_eq_true (by omega)];rfl
    ·rw[if_neg h,if_neg h4,if_neg h5]
     by_cases h1:1≤k
     ·rw[decide_eq_false (show ¬k≤3 by omega)];simp
     ·rw[decide_eq_false h1];rfl
   rw[em];cases d1:decide (1≤k)with
   |true=>
    simp only[Tryz.f54,KS,z4,z5,d1,Ad,An,seval]
    (repeat' (first|(with_reducible refine aI ?_ ?_)|(first|(first|refine gF ?_ ?_|refine gT ?_ ?_|refine cI ?_ ?_|refine pI ?_ ?_)<;>intro h|(refine dI ?_;have h:=trivial))<;>simp only[h,KS,z4,z5,d1,Ad,An,Bv,Bf,seval]))
    all_goals first|done|rfl|trace_state
   |false=>
    simp only[Tryz.f54,KS,z4,z5,d1,Ad,An,seval]
    (repeat' (first|(with_reducible refine aI ?_ ?_)|(first|(first|refine gF ?_ ?_|refine gT ?_ ?_|refine cI ?_ ?_|refine pI ?_ ?_)<;>intro h|(refine dI ?_;have h:=trivial))<;>simp only[h,KS,z4,z5,d1,Ad,An,Bv,Bf,seval]))
    all_goals first|done|rfl|trace_state
theorem Vg:Al Tp 178:=⟨_,Tryz.func178,by kernel_rfl,by kernel_rfl⟩
theorem kT:Ieee.double.read 0=.number false 0 (-1074):=kG
theorem ord0(x:Nat)(hx:x<18446744073709551616)(hn:LI x=false):(FloatKind.f64.format.order x 0==some .lt)=(Sk x && !decide (eB x=0∧mB x=0))∧(FloatKind.f64.format.order x 0==some .eq)=decide (eB x=0∧mB x=0):=by
 rw[ZC x hx]at hn;have hn':¬(eB x=2047∧mB x≠0):=of_decide_eq_false hn;show (Ieee.double.order x 0==some .lt)=_∧(Ieee.double.order x 0==some .eq)=_;unfold Ieee.Format.order;rw[UO x hx,kT]
 by_cases h1:eB x=2047
 ·have h2:mB x=0:=by omega
  rw[if_pos h1,if_pos h2,decide_eq_false (by omega)];cases Sk x<;>exact⟨rfl,rfl⟩
 ·rw[if_neg h1];have hE : -1074≤mE x:=by unfold mE;split<;>omega
  have hz:(mM x=0)↔(eB x=0∧mB x=0):=by
   unfold mM
   split<;>omega
  simp only[Ieee.Datum.order];rw[Int.min_eq_right hE];have hp:0<2^(mE x - -1074).toNat:=Nat.two_pow_pos _;have e0:Ieee.signed false 0 (-1074 - -1074:Int).toNat=0:=rfl;rw[e0];generalize hk:(mE x - -1074).toNat=k at hp⊢
  by_cases h2:mM x=0
  ·rw[decide_eq_true (hz.1 h2),h2];have:Ieee.signed (Sk x) 0 k=0:=by unfold Ieee.signed;simp
   rw[this];cases Sk x<;>exact⟨rfl,rfl⟩
  ·rw[decide_eq_false (fun h=>h2 (hz.2 h))];have hpos:0<mM x * 2^k:=Nat.mul_pos (by omega) hp;cases Sk x with
   |true=>
    have:Ieee.signed true (mM x) k = -((mM x * 2^k:Nat):Int):=by unfold Ieee.signed;rw[if_pos rfl,Nat.shiftLeft_eq]
    rw[this];have hc:compare (-((mM x * 2^k:Nat):Int)) 0=.lt:=by rw[Int.compare_eq_lt];omega
    rw[hc];exact⟨rfl,rfl⟩
   |false=>
    rw[X9];have hc:compare (((mM x * 2^k:Nat):Int)) 0=.gt:=by rw[Int.compare_eq_gt];omega
    rw[hc];exact⟨rfl,rfl⟩
theorem T8{x:Nat}(hx:x<18446744073709551616)(h:eB x=0∧mB x=0):x=0∨x=9223372036854775808:=by
 unfold eB mB at h
 omega
theorem YM(x:Nat)(hx:x<18446744073709551616)(hn:LI x=false):Ev Tp γ 178 [.v (.float .f64 x)] (.v (.bool (Sk x))):=by
 refine Ev.of Tryz.func178 rfl ?_;obtain⟨h1,h2⟩:=ord0 x hx hn
 by_cases hz:eB x=0∧mB x=0
 ·rw[decide_eq_true hz]at h1 h2
  rcases T8 hx hz with rfl|rfl
  ·have d:DZ (FloatKind.f64.format.div 4607182418800017408 0)=.v (.float .f64 9218868437227405312):=by kernel_rfl
   have o:(FloatKind.f64.format.order 9218868437227405312 0==some .lt)=false:=by kernel_rfl
   have h1':(FloatKind.f64.format.order 0 0==some .lt)=false:=by kernel_rfl
   have h2':(FloatKind.f64.format.order 0 0==some .eq)=true:=by kernel_rfl
   have e:Sk 0=false:=by kernel_rfl
   rw[e];simp only[Tryz.f178,h1',h2',d,o,Ad,seval]
   (repeat' (first|(with_reducible refine aI ?_ ?_)|(first|(first|refine gF ?_ ?_|refine gT ?_ ?_|refine cI ?_ ?_|refine pI ?_ ?_)<;>intro h|(refine dI ?_;have h:=trivial))<;>simp only[h,h1',h2',d,o,Ad,An,Bv,Bf,seval]))
   all_goals first|done|rfl|trace_state
  ·have d:DZ (FloatKind.f64.format.div 4607182418800017408 9223372036854775808)=.v (.float .f64 18442240474082181120):=by kernel_rfl
   have o:(FloatKind.f64.format.order 18442240474082181120 0==some .lt)=true:=by kernel_rfl
   have h1':(FloatKind.f64.format.order 9223372036854775808 0==some .lt)=false:=by kernel_rfl
   have h2':(FloatKind.f64.format.order 9223372036854775808 0==some .eq)=true:=by kernel_rfl
   have e:Sk 9223372036854775808=true:=by kernel_rfl
   rw[e];simp only[Tryz.f178,h1',h2',d,o,Ad,seval]
   (repeat' (first|(with_reducible refine aI ?_ ?_)|(first|(first|refine gF ?_ ?_|refine gT ?_ ?_|refine cI ?_ ?_|refine pI ?_ ?_)<;>intro h|(refine dI ?_;have h:=trivial))<;>simp only[h,h1',h2',d,o,Ad,An,Bv,Bf,seval]))
   all_goals first|done|rfl|trace_state
 ·rw[decide_eq_false hz]at h1 h2;cases hs:Sk x with
  |true=>
   rw[hs]at h1;have h1':(FloatKind.f64.format.order x 0==some .lt)=true:=h1;simp only[Tryz.f178,h1',Ad,seval]
   (repeat' (first|(with_reducible refine aI ?_ ?_)|(first|(first|refine gF ?_ ?_|refine gT ?_ ?_|refine cI ?_ ?_|refine pI ?_ ?_)<;>intro h|(refine dI ?_;have h:=trivial))<;>simp only[h,h1',h2,Ad,An,Bv,Bf,seval]))
   all_goals first|done|rfl|trace_state
  |false=>
   rw[hs]at h1;have h1':(FloatKind.f64.format.order x 0==some .lt)=false:=h1;simp only[Tryz.f178,h1',h2,Ad,seval]
   (repeat' (first|(with_reducible refine aI ?_ ?_)|(first|(first|refine gF ?_ ?_|refine gT ?_ ?_|refine cI ?_ ?_|refine pI ?_ ?_)<;>intro h|(refine dI ?_;have h:=trivial))<;>simp only[h,h1',h2,Ad,An,Bv,Bf,seval]))
   all_goals first|done|rfl|trace_state
theorem c180:Al Tp 180:=⟨_,Tryz.func180,by kernel_rfl,by kernel_rfl⟩
theorem c111:Al Tp 111:=⟨_,Tryz.func111,by kernel_rfl,by kernel_rfl⟩
def dS(l:List UInt8):AV:=.v (.string ⟨l.toArray⟩)
theorem WV(a b:Nat)(ha:a<18446744073709551616)(hb:b<18446744073709551616)(h:jZ a b):Ev Tp γ 180 [.v (.float .f64 a),.v (.float .f64 b)] (.v (.int .i64 0)):=by
 refine Ev.of Tryz.func180 rfl ?_;have hna:(FloatKind.f64.format.order a a != some .eq)=LI a:=rfl;have hnb:(FloatKind.f64.format.order b b != some .eq)=LI b:=rfl
 by_cases hn:LI a=true∧LI b=true
 ·simp only[Tryz.f180,hna,hnb,hn.1,hn.2,Ad,seval]
  (repeat' (first|(with_reducible refine aI ?_ ?_)|(first|(first|refine gF ?_ ?_|refine gT ?_ ?_|refine cI ?_ ?_|refine pI ?_ ?_)<;>intro h|(refine dI ?_;have h:=trivial))<;>simp only[h,hna,hnb,hn.1,hn.2,Ad,An,Bv,Bf,seval]))
  all_goals first|done|rfl|trace_state
 ·have hab:a=b:=by
   rcases h with h|h
   ·exact h
   ·exact absurd h hn
  subst hab
  have hf:LI a=false:=by
   cases hc:LI a with
   |false=>rfl
   |true=>exact absurd ⟨hc,hc⟩ hn
  have oe:FloatKind.f64.format.order a a=some .eq:=by
   have:(FloatKind.f64.format.order a a != some .eq)=false:=hf;simpa using this
  have q1:(FloatKind.f64.format.order a a==some .lt)=false:=by rw[oe];rfl
  have q2:(FloatKind.f64.format.order a a==some .eq)=true:=by rw[oe];rfl
  have q3:(FloatKind.f64.format.order a a==some .gt)=false:=by rw[oe];rfl
  have kb:=YM (γ:=γ) a ha hf;cases hs:Sk a with
  |true=>
   rw[hs]at kb;simp only[Tryz.f180,hna,hf,q1,q2,Ad,seval]
   (repeat' (first|(with_reducible refine aI ?_ ?_)|(first|(first|refine gF ?_ ?_|refine gT ?_ ?_|refine cI ?_ ?_|refine pI ?_ ?_)<;>intro h|(refine dI ?_;have h:=trivial))<;>simp only[h,hna,hf,q1,q2,q3,Ad,An,Bv,Bf,seval]))
   refine Ae.intro Vg rfl kb ?_;simp only[Ad,seval]
   (repeat' (first|(with_reducible refine aI ?_ ?_)|(first|(first|refine gF ?_ ?_|refine gT ?_ ?_|refine cI ?_ ?_|refine pI ?_ ?_)<;>intro h|(refine dI ?_;have h:=trivial))<;>simp only[h,q1,q2,q3,Ad,An,Bv,Bf,seval]))
   refine Ae.intro Vg rfl kb ?_;simp only[q2,q3,Ad,Bv,seval]
   (repeat' (first|(with_reducible refine aI ?_ ?_)|(first|(first|refine gF ?_ ?_|refine gT ?_ ?_|refine cI ?_ ?_|refine pI ?_ ?_)<;>intro h|(refine dI ?_;have h:=trivial))<;>simp only[h,q1,q2,q3,Ad,An,Bv,Bf,seval]))
   refine Ae.intro Vg rfl kb ?_;simp only[Ad,seval]
   (repeat' (first|(with_reducible refine aI ?_ ?_)|(first|(first|refine gF ?_ ?_|refine gT ?_ ?_|refine cI ?_ ?_|refine pI ?_ ?_)<;>intro h|(refine dI ?_;have h:=trivial))<;>simp only[h,q1,q2,q3,Ad,An,Bv,Bf,seval]))
   refine Ae.intro Vg rfl kb ?_;simp only[Ad,Bv,seval]
   (repeat' (first|(with_reducible refine aI ?_ ?_)|(first|(first|refine gF ?_ ?_|refine gT ?_ ?_|refine cI ?_ ?_|refine pI ?_ ?_)<;>intro h|(refine dI ?_;have h:=trivial))<;>simp only[h,q1,q2,q3,Ad,An,Bv,Bf,seval]))
   all_goals first|done|rfl|trace_state
  |false=>
   rw[hs]at kb;simp only[Tryz.f180,hna,hf,q1,q2,Ad,seval]
   (repeat' (first|(with_reducible refine aI ?_ ?_)|(first|(first|refine gF ?_ ?_|refine gT ?_ ?_|refine cI ?_ ?_|refine pI ?_ ?_)<;>intro h|(refine dI ?_;have h:=trivial))<;>simp only[h,hna,hf,q1,q2,q3,Ad,An,Bv,Bf,seval]))
   refine Ae.intro Vg rfl kb ?_;simp only[q2,q3,Ad,seval]
   (repeat' (first|(with_reducible refine aI ?_ ?_)|(first|(first|refine gF ?_ ?_|refine gT ?_ ?_|refine cI ?_ ?_|refine pI ?_ ?_)<;>intro h|(refine dI ?_;have h:=trivial))<;>simp only[h,q1,q2,q3,Ad,An,Bv,Bf,seval]))
   refine Ae.intro Vg rfl kb ?_;simp only[Ad,seval]
   (repeat' (first|(with_reducible refine aI ?_ ?_)|(first|(first|refine gF ?_ ?_|refine gT ?_ ?_|refine cI ?_ ?_|refine pI ?_ ?_)<;>intro h|(refine dI ?_;have h:=trivial))<;>simp only[h,q1,q2,q3,Ad,An,Bv,Bf,seval]))
   all_goals first|done|rfl|trace_state
theorem cM{v w:VD}(h:Ev Tp γ 111 [vA v,vA w] (.v (.int .i64 0))):Ev Tp γ 57 [vA v,vA w] (.v (.bool true)):=by
 refine Ev.of Tryz.func57 rfl ?_;have z:((0:Int)==0)=true:=rfl;simp only[vA,vC]at h⊢;simp only[Tryz.f57,KS,Ad,seval]
 (repeat' (first|(with_reducible refine aI ?_ ?_)|(first|(first|refine gF ?_ ?_|refine gT ?_ ?_|refine cI ?_ ?_|refine pI ?_ ?_)<;>intro h|(refine dI ?_;have h:=trivial))<;>simp only[h,KS,Ad,An,Bv,Bf,seval]))
 refine Ae.intro c111 rfl h ?_;simp only[z,Ad,seval]
 (repeat' (first|(with_reducible refine aI ?_ ?_)|(first|(first|refine gF ?_ ?_|refine gT ?_ ?_|refine cI ?_ ?_|refine pI ?_ ?_)<;>intro h|(refine dI ?_;have h:=trivial))<;>simp only[h,KS,z,Ad,An,Bv,Bf,seval]))
 all_goals first|done|rfl|trace_state
theorem c181:Al Tp 181:=⟨_,Tryz.func181,by kernel_rfl,by kernel_rfl⟩
def tsS(γ:List (Nat×AV))(s:List UInt8)(k:Nat):St:=⟨⟨42,[(0,.v (.string ⟨s.toArray⟩)),(1,.v (.string ⟨s.toArray⟩)),(5,.v (.int .i64 (k:Int)))],γ⟩,[]⟩
theorem RM(s:List UInt8)(hs:s.length≤140737488351232):Ev Tp γ 181 [.v (.string ⟨s.toArray⟩),.v (.string ⟨s.toArray⟩)] (.v (.int .i64 0)):=by
 refine Ev.of Tryz.func181 rfl ?_;simp only[Tryz.f181,Ad,seval];refine Eg.intro (tsS γ s) (fun k=>k≤s.length) (fun k=>s.length-k) 0 ⟨rfl,rfl,⟨rfl,rfl,rfl,trivial⟩,.inl rfl⟩ (BN _) (fun k hk=>?_)
 by_cases hlt:k<s.length
 ·have d1:decide (k<s.length)=true:=decide_eq_true hlt;have w1:IntKind.i64.wrap ((k:Int)+1)=((k+1:Nat):Int):=(A7 (by omega) (by omega)).trans (by omega);have dx:decide ((s.getD k 0).toNat<(s.getD k 0).toNat)=false:=decide_eq_false (Nat.lt_irrefl _);simp only[tsS,d1,Ad,An,seval]
  (repeat' (first|(with_reducible refine aI ?_ ?_)|(first|(first|refine gF ?_ ?_|refine gT ?_ ?_|refine cI ?_ ?_|refine pI ?_ ?_)<;>intro h|(refine dI ?_;have h:=trivial))<;>simp only[h,KS,d1,dx,w1,Ad,An,Bv,Bf,seval]))
  all_goals first|exact hlt|exact Cg.intro (k+1) hlt ⟨rfl,rfl,⟨rfl,rfl,rfl,trivial⟩,.inl rfl⟩ (by show s.length-(k+1)<s.length-k;clear w1;omega)|trace_state
 ·have d1:decide (k<s.length)=false:=decide_eq_false hlt;have hk2:k=s.length:=by omega
  have dx:decide (s.length<s.length)=false:=decide_eq_false (Nat.lt_irrefl _);have dy:decide ((s.length:Int)<(s.length:Int))=false:=decide_eq_false (Int.lt_irrefl _);simp only[tsS,d1,dx,Ad,An,seval]
  (repeat' (first|(with_reducible refine aI ?_ ?_)|(first|(first|refine gF ?_ ?_|refine gT ?_ ?_|refine cI ?_ ?_|refine pI ?_ ?_)<;>intro h|(refine dI ?_;have h:=trivial))<;>simp only[h,KS,d1,dx,dy,Ad,An,Bv,Bf,seval]))
  all_goals trace_state
theorem Zg(v:VD)(h3:v.kind≠3)(hr:v.real<18446744073709551616)(ht:v.text.length≤140737488351232):Ev Tp γ 111 [vA v,vA v] (.v (.int .i64 0)):=by
 refine Ev.of Tryz.func111 rfl ?_;have k1:Ev Tp γ 54 [vA v] (.v (.bool (Pv v))):=bO (γ:=γ) v;have kr:=WV (γ:=γ) v.real v.real hr hr (.inl rfl);have kt:=RM (γ:=γ) v.text ht;have z1:(v.kind != v.kind)=false:=by simp
 have z3:(v.kind==3)=false:=by simpa using h3
 have dx:decide (v.int<v.int)=false:=decide_eq_false (Int.lt_irrefl _);simp only[vA,vC]at k1⊢;simp only[Tryz.f111,Ad,seval]
 (repeat' (first|(with_reducible refine aI ?_ ?_)|(first|(first|refine gF ?_ ?_|refine gT ?_ ?_|refine cI ?_ ?_|refine pI ?_ ?_)<;>intro h|(refine dI ?_;have h:=trivial))<;>simp only[h,KS,Ad,An,Bv,Bf,seval]))
 refine Ae.intro c54 rfl k1 ?_;simp only[KS,Ad,seval]
 (repeat' (first|(with_reducible refine aI ?_ ?_)|(first|(first|refine gF ?_ ?_|refine gT ?_ ?_|refine cI ?_ ?_|refine pI ?_ ?_)<;>intro h|(refine dI ?_;have h:=trivial))<;>simp only[h,KS,Ad,An,Bv,Bf,seval]))
 refine Ae.intro c54 rfl k1 ?_;cases hm:Pv v with
 |false=>
  simp only[Ad,Bf,seval]
  (repeat' (first|(with_reducible refine aI ?_ ?_)|(first|(first|refine gF ?_ ?_|refine gT ?_ ?_|refine cI ?_ ?_|refine pI ?_ ?_)<;>intro h|(refine dI ?_;have h:=trivial))<;>simp only[h,KS,Ad,An,Bv,Bf,seval]))
  all_goals first|done|rfl|trace_state
 |true=>
  cases z2:(v.kind==2)with
  |true=>
   simp only[KS,z1,z2,Ad,An,Bv,seval]
   (repeat' (first|(with_reducible refine aI ?_ ?_)|(first|(first|refine gF ?_ ?_|refine gT ?_ ?_|refine cI ?_ ?_|refine pI ?_ ?_)<;>intro h|(refine dI ?_;have h:=trivial))<;>simp only[h,KS,z1,z2,Ad,An,Bv,Bf,seval]))
   refine Ae.intro c180 rfl kr ?_;simp only[Ad,seval]
   (repeat' (first|(with_reducible refine aI ?_ ?_)|(first|(first|refine gF ?_ ?_|refine gT ?_ ?_|refine cI ?_ ?_|refine pI ?_ ?_)<;>intro h|(refine dI ?_;have h:=trivial))<;>simp only[h,KS,Ad,An,Bv,Bf,seval]))
   all_goals first|done|rfl|trace_state
  |false=>
   cases z4:(v.kind==4)with
   |true=>
    simp only[KS,z1,z2,z3,z4,Ad,An,Bv,seval]
    (repeat' (first|(with_reducible refine aI ?_ ?_)|(first|(first|refine gF ?_ ?_|refine gT ?_ ?_|refine cI ?_ ?_|refine pI ?_ ?_)<;>intro h|(refine dI ?_;have h:=trivial))<;>simp only[h,KS,z1,z2,z3,z4,Ad,An,Bv,Bf,seval]))
    refine Ae.intro c181 rfl kt ?_;simp only[Ad,seval]
    (repeat' (first|(with_reducible refine aI ?_ ?_)|(first|(first|refine gF ?_ ?_|refine gT ?_ ?_|refine cI ?_ ?_|refine pI ?_ ?_)<;>intro h|(refine dI ?_;have h:=trivial))<;>simp only[h,KS,Ad,An,Bv,Bf,seval]))
    all_goals first|done|rfl|trace_state
   |false=>
    simp only[KS,z1,z2,z3,z4,dx,Ad,An,Bv,seval]
    (repeat' (first|(with_reducible refine aI ?_ ?_)|(first|(first|refine gF ?_ ?_|refine gT ?_ ?_|refine cI ?_ ?_|refine pI ?_ ?_)<;>intro h|(refine dI ?_;have h:=trivial))<;>simp only[h,KS,z1,z2,z3,z4,dx,Ad,An,Bv,Bf,seval]))
    all_goals first|done|rfl|trace_state
theorem WN(v:VD)(h3:v.kind≠3)(hr:v.real<18446744073709551616)(ht:v.text.length≤140737488351232):Ev Tp γ 57 [vA v,vA v] (.v (.bool true)):=cM (Zg v h3 hr ht)
theorem Q4:AW Tp 115=some true∧
  AW Tp 2=some false∧
  AW Tp 22=some false∧
  AW Tp 23=some false∧
  AW Tp 25=some true∧
  AW Tp 3=some false∧
  AW Tp 39=some false∧
  AW Tp 41=some true∧
  AW Tp 5=some false∧
  AW Tp 9=some false∧
  Ic Tp 37 37=some (5,1,1)∧
  A5 Tp 37=some 5∧
  A5 Tp 39=some 115∧
  Ak Tp 115 0=some (0,3)∧
  Ak Tp 115 1=some (1,3)∧
  Ak Tp 115 2=some (2,3)∧
  Ak Tp 115 3=some (3,9)∧
  Ak Tp 115 4=some (4,25)∧
  Ak Tp 25 0=some (0,3)∧
  Ak Tp 25 1=some (1,2)∧
  Ak Tp 25 2=some (2,22)∧
  Ak Tp 25 3=some (3,23)∧
  Ak Tp 25 4=some (4,9)∧
  Ak Tp 41 0=some (0,39)∧
  J7 Tp 9=none∧
  C9 Tp 5=some .u8∧
  C9 Tp 9=none∧
  MC Tp 37=some (5,1,[.v (.int .u8 0)])∧
  Ap Tp 115=some 9∧
  Ap Tp 2=some 1∧
  Ap Tp 22=some 1∧
  Ap Tp 23=some 1∧
  Ap Tp 25=some 5∧
  Ap Tp 3=some 1∧
  Ap Tp 39=some 1∧
  Ap Tp 41=some 1∧
  Ap Tp 5=some 1∧
  Ap Tp 9=some 1∧
  CU Tp 37=false∧
  CU Tp 9=true∧
  (Tryz.prog.underlying 37).isSome=true∧
  Hm Tp 115=some [.v (.int .i64 0),.v (.int .i64 0),.v (.int .i64 0),.v (.string ⟨#[]⟩),.v (.int .i64 0),.v (.int .i64 0),.v (.float .f64 0),.v (.complex .f64 0 0),.v (.string ⟨#[]⟩)]∧
  Hm Tp 25=some [.v (.int .i64 0),.v (.int .i64 0),.v (.float .f64 0),.v (.complex .f64 0 0),.v (.string ⟨#[]⟩)]∧
  Hm Tp 41=some [.v (.slice none 0 0)]:=
 (by and_intros<;>kernel_rfl)
theorem Cp.via{P:Program}{ops:Array Oper}{Q:AQ}{s:St}(F:St→Prop)(h:∀ K:AQ,(∀ s',F s'→K .normal s')→Cp P ops K s)(h2:∀ s',F s'→Q .normal s'):Cp P ops Q s:=h Q h2
def Nd.valC(n:Nd):List AV:=[.v (.int .i64 n.vk),.v (.int .i64 n.vi),.v (.float .f64 n.vr),.v (.complex .f64 0 0),.v (.string ⟨n.vt.toArray⟩)]
theorem dV(s:List Aa)(ns:List Nd):Dr Tp 39 s (Ab ns)=some (.v (.int .i64 ns.length)):=by
 have e24:A5 Tp 39=some 115:=by kernel_rfl
 cases ns with
 |nil=>simp only[Ab,Dr,e24];rfl
 |cons y T=>simp only[Ab,Dr,e24];rfl
theorem WC(ns:List Nd):Cd (Ab ns)=true:=by cases ns<;>rfl
theorem Wq{ns:List Nd}{i:Nat}{nd:Nd}(h:ns[i]?=some nd):Ab ns=.sl false ns.length ns.length (BZ ns):=by
 cases ns with
 |nil=>cases h
 |cons x r=>rfl
end Go.Proofs.YtlobiioioicmhaaGreatDoor
