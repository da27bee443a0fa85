/- A part of the proof. -/
import Derived.Test.YtlobiioioicmhaaGreatDoorCQ21
set_option linter.all false
set_option maxHeartbeats 8000000
namespace Go.Proofs.YtlobiioioicmhaaGreatDoor
open _root_.Bool renaming not_true→Bv,not_false→Bf
open _root_.List renaming getElem?_eq_some_iff→Bs,getElem?_append_left→Ba,getElem?_append_right→Br,getElem?_set_self→Be,getElem?_set_ne→Bn,length_set→Bl,length_append→Bp,append_assoc→Bo,cons_append→Bc,nil_append→Bi,getElem?_cons_zero→Bz,getElem?_cons_succ→Bu,set_cons_zero→Bx,set_cons_succ→Bw,getElem?_map→Bm,length_map→Bk,set_append_left→Bg,take_of_length_le→Bt,map_cons→BA,prefix_rfl→BB,flatMap_cons→BE,mem_cons→BI,getElem?_toArray→BU
open _root_.Nat renaming le_refl→BL,le_trans→BM,zero_le→BN
open Go.Proofs.Tryz renaming prog→Tp
open Go Go.Ev
set_option maxRecDepth 20000
variable {γ:List (Nat×AV)} {ts:List Tk} {L:AV}
theorem Zp{n:Nat}(S:S8)(hS:S.1≤ts.length)(h:(Hv ts n S).2.2=none):S.2=none∧S.1+1≤(Hv ts n S).2.1:=by
 unfold Hv at h⊢;simp only at h⊢;obtain⟨a,b⟩:=B3 h
 have hw:(Au ts n S).2.2=none:=by
  cases e:(Au ts n S).2.2 with
  |none=>rfl
  |some b=>
   obtain⟨p',e2⟩:∃ p',(Au ts n S).2=(p',some b):=⟨_,Prod.ext rfl e⟩;rw[e2,FI Qe]at a;cases a
 obtain⟨c,d⟩:=Eb S hw;have hl:=K7 S hw;obtain⟨_,d2,_⟩:=J9 (I:=Cm ts n) (fun S hS h=>by obtain⟨a,b,c⟩:=LA S h;exact⟨a,by omega,by omega⟩) (Au ts n S).2 (by omega) a;exact⟨c,by omega⟩
theorem PL{n:Nat}:∀ (f:Nat) (l:List Ac) (S:S8),S.1≤ts.length→(C8 ts n f l S).2.2=none→S.2=none∧S.1≤(C8 ts n f l S).2.1
 |0,l,S,hS,h=>⟨h,BL _⟩
 |f+1,l,S,hS,h=>by
  obtain⟨p,b⟩:=S;cases b with
  |some b=>rw[CG]at h;cases h
  |none=>
   refine⟨rfl,?_⟩;rw[C8]at h⊢;simp only[Option.isSome_none,Bool.false_eq_true,if_false]at h⊢
   split at h
   ·rename_i hB;rw[if_pos hB];exact Nat.le_succ _
   ·rename_i hB;rw[if_neg hB];cases e:(DF ts n (p,none)).2.2 with
    |some b=>
     obtain⟨p',e2⟩:∃ p',(DF ts n (p,none)).2=(p',some b):=⟨_,Prod.ext rfl e⟩;rw[e2,CG]at h;cases h
    |none=>
     obtain⟨a1,a2⟩:=O3 _ hS e
     have hle:(DF ts n (p,none)).2.1≤ts.length:=by
      have hs:=RG (ts:=ts) (n:=n) (p:=p) hS;unfold DF at e⊢;simp only at e⊢;obtain⟨w1,w2⟩:=B3 e
      have:HD ts [59] (G1 ts n (p,none)).2=true:=by
       unfold Av at e
       split at e
       ·assumption
       ·unfold DZ at e;rw[w1]at e;cases e
      have:=(Ed this).1
      omega
     have a3:=PL f _ _ hle h;simp only at a2;exact BM (by omega) a3.2
theorem Nz{n:Nat}:∀ (f:Nat) (l:List Pt) (S:S8),S.1≤ts.length→(Cf ts n f l S).2.2=none→S.2=none∧S.1≤(Cf ts n f l S).2.1∧(Cf ts n f l S).2.1≤ts.length
 |0,l,S,hS,h=>⟨h,BL _,hS⟩
 |f+1,l,S,hS,h=>by
  rw[Cf]at h⊢
  split at h
  ·rename_i hB;rw[if_pos hB];have hl:=Ed hB;cases e:(AN ts n (S.1+1,none)).2.2 with
   |some b=>
    obtain⟨p',e2⟩:∃ p',(AN ts n (S.1+1,none)).2=(p',some b):=⟨_,Prod.ext rfl e⟩;rw[e2,EN]at h;cases h
   |none=>
    obtain⟨a1,a2,a3⟩:=JC (S.1+1,none) hl.1 e;obtain⟨b1,b2,b3⟩:=Nz f _ _ a3 h;simp only at a2;exact⟨hl.2,by omega,b3⟩
  ·rename_i hB;rw[if_neg hB];exact⟨h,BL _,hS⟩
theorem TN{n:Nat}(S:S8)(hS:S.1≤ts.length)(h:(CA ts n S).2.2=none):S.2=none∧S.1≤(CA ts n S).2.1∧(CA ts n S).2.1≤ts.length:=by
 unfold CA at h⊢
 split at h
 ·rename_i hB;rw[if_pos hB];have hl:=Ed hB;obtain⟨a1,a2,a3⟩:=J4 (S.1+1,none) hl.1 h;simp only at a2;exact⟨hl.2,by omega,a3⟩
 ·rename_i hB;rw[if_neg hB];exact⟨h,BL _,hS⟩
theorem QO{n:Nat}{s:List UInt8}{S:S8}(hS:S.1≤ts.length):(Av ts n s S).1≤ts.length:=by
 unfold Av
 split
 ·rename_i hC;exact (Ed hC).1
 ·unfold DZ;split<;>exact hS
theorem I5{α:Type}{F:S8→α×S8}(hF:Mc F){S:S8}(e:(F S).2.2=none):S.2=none:=by
 obtain⟨p',bb⟩:=S;cases bb with
 |none=>rfl
 |some bb=>rw[hF]at e;cases e
theorem TS{n:Nat}(S:S8)(hS:S.1≤ts.length)(h:(Dk ts n S).2.2=none):S.2=none∧S.1+1≤(Dk ts n S).2.1:=by
 unfold Dk at h⊢;simp only at h⊢;have w1:=QO (ts:=ts) (n:=n) (s:=Hd) hS;have n7:=I5 (F:=fun S=>C8 ts n (ts.length+1) [] S) (fun p b=>by show (C8 ts n _ _ _).2=_;rw[CG]) h;have n6:=(B3 n7).1;have n5:=I5 (F:=CA ts n) (fun p b=>by rw[FD]) n6;have key:∀ (X:List Pt) (S:S8),(Cf ts n (ts.length+1) X S).2.2=none→S.2=none:=fun X S h=>I5 (F:=fun S=>Cf ts n (ts.length+1) X S) (fun p b=>by show (Cf ts n _ _ _).2=_;rw[EN]) h
 have n4:=key _ _ n5;have n3:=I5 (F:=AN ts n) MN n4;have n2:=(B3 n3).1;have n1:=I5 (F:=Au ts n) cT n2;have a1:=B3 n1;have a2:=Eb (ts:=ts) (n:=n) _ n2;have l2:=K7 (ts:=ts) (n:=n) _ n2;have a3:=B3 n3;have l3:=QO (ts:=ts) (n:=n) (s:=[58]) (S:=(Au ts n (Av ts n Hd S)).2) (by omega);have a4:=JC (ts:=ts) (n:=n) _ l3 n4;have a5:=Nz (ts:=ts) (n:=n) _ _ _ a4.2.2 n5;have a6:=TN (ts:=ts) (n:=n) _ a5.2.2 n6;have l7:=QO (ts:=ts) (n:=n) (s:=[123]) a6.2.2;have a7:=B3 n7;have a8:=PL (ts:=ts) (n:=n) _ _ _ l7 h;exact⟨a1.1,by omega⟩
def mJ(γ:List (Nat×AV))(y:S8×List Aa):St:=⟨⟨93,[(2,.ptr 0 0 0),(5,.ptr 1 0 0),(8,.ptr 2 0 0)],γ⟩,y.2⟩
def nB(γ:List (Nat×AV))(kb:Nat)(y:S8×List Aa):St:=⟨⟨93,[(2,.ptr 0 0 0),(5,.ptr 1 0 0),(8,.ptr 2 0 0),(9,.ptr kb 0 0)],γ⟩,y.2⟩
def Pg.av2(c:Pg):AV:=.agg c.cells
def It(l:List UInt8):AV:=.tup [(D5 l).1.av2,AA (D5 l).2.1,AA (D5 l).2.2]
theorem c37:Ak Tp 37:=⟨_,Tryz.func37,by kernel_rfl,by kernel_rfl⟩
theorem MQ{x:AV}{l:List UInt8}(hx:∀ h,Ck Tp γ 68 [x] h (XF l h)):Ev Tp γ 37 [x] (It l):=by
 refine Ev.ofG Tryz.func37 rfl ?_;simp only[Tryz.f37,AH,B4,seval];refine Ao.intro c68 _ (hx [⟨0,71,[.v (.slice none 0 0),.v (.slice none 0 0)]⟩]) (fun r h1 hh=>?_) (fun v h1 hh=>?_)
 rotate_left
 ·unfold XF at hh
  split at hh
  ·obtain⟨_,_,_,e,_⟩:=hh;cases e
  ·obtain⟨e,_⟩:=hh;cases e
 unfold XF at hh;cases e:CX l with
 |none=>
  rw[e]at hh;obtain⟨x,hx,hk,eo,rfl⟩:=hh;cases eo;have d1:(x.2 != 0)=true:=by simpa using hk
  have hP:D5 l=(UL,((x.1.2:Nat):Int),x.2):=by unfold D5 Gb;rw[e];simp only[hx]
  simp only[AH,Cn,d1,It,hP,Aj,B4,seval];exact⟨(Rd.agg (S:=BR) (AE.cons (Rd.val _) (AE.cons (Rd.val _) AE.nil))).fz,(Rd.int (S:=BR) _).fz,(Rd.int (S:=BR) _).fz⟩
 |some T=>
  rw[e]at hh;obtain⟨eo,rfl⟩:=hh;cases eo;have E:=envQ e;have hml:(T.map Ft).length=T.length:=Bk ..;have hsim:=Np (ts:=T.map Ft) (n:=l.length) ((T.map Ft).length+1) UL 0 (by omega) (BN _);have hPr:∀ r,PH (T.map Ft)=r→D5 l=(match r with|.bad q e=>(UL,IJ (T.map Ft) l.length q,e)|.ok x q=>if q<T.length then (UL,IJ (T.map Ft) l.length q,80)else (x,0,0)):=fun r hr=>by unfold D5 Gb;rw[e];simp only[hr];cases r<;>rfl
  have hr0:RQ (T.map Ft) ([⟨0,71,[.v (.slice none 0 0),.v (.slice none 0 0)]⟩]++[⟨0,123,cQ (Ct T) l.length (0,none)⟩]) 1 (Ct T) l.length (0,none):=⟨rfl,BN _,fun b hb=>by cases hb⟩;have z0:((0:Int) != 0)=false:=rfl;have hD:E1 (T.map Ft) ((T.map Ft).length+1) UL 0=PH (T.map Ft):=rfl;rw[hD]at hsim;generalize T.map Ft=ts at E hml hsim hPr hr0;generalize Ct T=L at E hr0⊢;generalize hn0:l.length=n at *;generalize hR:H7 ts n (ts.length+1) UL (0,none)=R at hsim;have hn:=E.n;have ll:=E.len;clear hD;simp only[AH,Cn,z0,B4,seval]
  refine Cp.intro (mJ γ) (fun y=>∃ g N1 N2 f,RQ ts y.2 1 L n y.1∧(y.1.2=none→g.tags.length+g.kinds.length≤y.1.1∧ts.length<f+y.1.1)∧y.2[2]?=some ⟨0,71,[N1,N2]⟩∧GP 3 137 2 90 2 y.2 N1 g.tags.length (g.tags.flatMap Tg.cells) N2 g.kinds.length (g.kinds.flatMap Kd.cells)∧y.2[0]?=some ⟨0,71,[.v (.slice none 0 0),.v (.slice none 0 0)]⟩∧H7 ts n f g y.1=R) (fun y=>if y.1.2=none then ts.length+1-y.1.1 else 0) ((0,none),[⟨0,71,[.v (.slice none 0 0),.v (.slice none 0 0)]⟩,⟨0,123,cQ L n (0,none)⟩,⟨0,71,[.v (.slice none 0 0),.v (.slice none 0 0)]⟩]) ⟨rfl,rfl,⟨rfl,rfl,rfl,trivial⟩,rfl⟩
   ⟨⟨[],[]⟩,.v (.slice none 0 0),.v (.slice none 0 0),ts.length+1,⟨rfl,hr0.2⟩,fun _=>⟨BL _,by show ts.length<ts.length+1+0;omega⟩,rfl,GP.nil,rfl,hR⟩ (fun y hy=>?_)
  clear hR hr0;obtain⟨S4,h4⟩:=y;obtain⟨g,N1,N2,f,r4,hb4,kb4,G4,k04,hR⟩:=hy;simp only at r4 hb4 kb4 G4 k04 hR;have hi4:=r4.1;have hp4:=r4.2.1;have hbd:=r4.2.bad;have hbd2:=r4.2.bad2;have hbl4:=(Bs.1 kb4).1;have hl04:=(Bs.1 k04).1;have q0:∀ d,(h4.set 0 d)[0]?=some d:=fun d=>Be hl04
  have q1:∀ d,(h4.set 0 d)[1]?=h4[1]?:=fun d=>Bn (by decide)
  obtain⟨p,bd⟩:=S4;simp only at hb4 hp4 hbd hbd2;cases bd with
  |some bb=>
   have hbb:(Ek (some bb)==0)=false:=hbd;have hbb2:(Ek (some bb) != 0)=true:=hbd2;rw[LL]at hR
   have hP:D5 l=(UL,bb.2,bb.1):=by
    rw[←hR]at hsim;cases hd:PH ts with
    |ok x q=>rw[hd]at hsim;exact absurd hsim (by unfold Ec;simp)
    |bad q e'=>
     rw[hd]at hsim;have hs:some bb=some (e',IJ ts n q):=hsim;cases hs;exact hPr _ hd
   simp only[mJ,B4,seval];refine Cc.pure (Cr.intro (by kernel_rfl) (by kernel_rfl) ?_);simp only[Cn,hi4,cQ,hbb,hbb2,B4,A7,seval];refine Cc.pure (Cr.orders2 [[0,9,1,2,3,4,5,6,7,8,10,11],[0,5,9,1,2,3,4,6,7,8,10,11],[0,5,6,9,1,2,3,4,7,8,10,11],[0,5,6,7,9,1,2,3,4,8,10,11],[0,5,6,7,8,9,1,2,3,4,10,11],[0,1,9,2,3,4,5,6,7,8,10,11],[0,1,5,9,2,3,4,6,7,8,10,11],[0,1,5,6,9,2,3,4,7,8,10,11],[0,1,5,6,7,9,2,3,4,8,10,11],[0,1,5,6,7,8,9,2,3,4,10,11],[0,1,2,9,3,4,5,6,7,8,10,11],[0,1,2,5,9,3,4,6,7,8,10,11],[0,1,2,5,6,9,3,4,7,8,10,11],[0,1,2,5,6,7,9,3,4,8,10,11],[0,1,2,5,6,7,8,9,3,4,10,11],[0,1,2,3,9,4,5,6,7,8,10,11],[0,1,2,3,5,9,4,6,7,8,10,11],[0,1,2,3,5,6,9,4,7,8,10,11],[0,1,2,3,5,6,7,9,4,8,10,11],[0,1,2,3,5,6,7,8,9,4,10,11],[0,1,2,3,4,9,5,6,7,8,10,11],[0,1,2,3,4,5,9,6,7,8,10,11],[0,1,2,3,4,5,6,9,7,8,10,11],[0,1,2,3,4,5,6,7,9,8,10,11],[0,1,2,3,4,5,6,7,8,9,10,11]] (by kernel_rfl) (by kernel_rfl) (by kernel_rfl) (fun p hp=>?_));simp only[BI,List.not_mem_nil,or_false]at hp
   rcases hp with rfl|rfl|rfl|rfl|rfl|rfl|rfl|rfl|rfl|rfl|rfl|rfl|rfl|rfl|rfl|rfl|rfl|rfl|rfl|rfl|rfl|rfl|rfl|rfl|rfl
   all_goals simp only[CI,BU,Bu,Bz,AH,Cn,hi4,k04,q0,q1,cQ,Ek,inQ,Aj,Bx,Bw,It,hP,B4,A7,seval]
   all_goals exact⟨(Rd.agg (S:=BR) (AE.cons (Rd.val _) (AE.cons (Rd.val _) AE.nil))).fz,(Rd.int (S:=BR) _).fz,(Rd.int (S:=BR) _).fz⟩
  |none=>
   have hbb:(Ek none==0)=true:=rfl;have hbb2:(Ek none != 0)=false:=rfl;obtain⟨hx4,hf⟩:=hb4 rfl;obtain⟨f',rfl⟩:∃ g,f=g+1:=⟨f-1,by omega⟩;rw[H7]at hR
   by_cases hlt:p<ts.length
   rotate_left
   ·have d1:decide (p<ts.length)=false:=decide_eq_false hlt;rw[if_neg (fun h=>hlt h.2)]at hR
    have hP:D5 l=(g,0,0):=by
     rw[←hR]at hsim;cases hd:PH ts with
     |bad q e'=>rw[hd]at hsim;exact absurd hsim (by unfold Ec;simp)
     |ok x q=>
      rw[hd]at hsim;have hs:(g,((p,none):S8))=(x,(q,none)):=hsim;cases hs;rw[hPr _ hd];simp only[];rw[if_neg (by omega)]
    obtain⟨oN1,fN1⟩:=G4.one1;obtain⟨oN2,fN2⟩:=G4.one2;simp only[mJ,B4];refine Cc.pure (Cr.intro (by kernel_rfl) (by kernel_rfl) ?_);simp only[AH,Cn,hi4,cQ,ll,hbb,hbb2,d1,kb4,k04,q0,oN1,oN2,Aj,Bx,Bw,It,hP,B4,A7,seval];have fz:∀ d,Fr (AU 0) h4 (h4.set 0 d):=fun d=>Fr.set _ rfl
    have rd1:=fun d=>G4.rd1.up (S':=BR) (fz d) (fun k e _=>by have e:k=0:=e;show k<3;omega) (fun k e _=>e.elim)
    have rd2:=fun d=>G4.rd2.up (S':=BR) (fz d) (fun k e _=>by have e:k=0:=e;show k<3;omega) (fun k e _=>e.elim)
    have rd3:=fun d=>Rd.agg (AE.cons (rd1 d) (AE.cons (rd2 d) AE.nil))
    first|exact⟨(rd3 _).fz,rfl,rfl⟩|exact⟨(rd3 _).fz,rfl⟩|exact (rd3 _).fz|exact⟨(rd3 _).fz,(Rd.int (S:=BR) _).fz,(Rd.int (S:=BR) _).fz⟩
   have d1:decide (p<ts.length)=true:=decide_eq_true hlt;rw[if_pos ⟨rfl,hlt⟩]at hR;simp only[mJ,B4];refine Cc.pure (Cr.intro (by kernel_rfl) (by kernel_rfl) ?_);simp only[Cn,hi4,cQ,ll,hbb,d1,B4,A7,seval];refine B9 R3 (C4 E r4 Rf) (fun h5 f5 r5=>?_);have kb5:=f5.at kb4 (fun e=>by cases e);have k05:=f5.at k04 (fun e=>by cases e);have G5:=G4.fr f5 (fun k e _=>by have e:k=1:=e;omega);have hbl5:=(Bs.1 kb5).1;cases hB:HD ts Rf (p,none)with
   |true=>
    have hT:AB ts Rf (p,none)=(p+1,none):=by unfold AB;rw[if_pos hB]
    rw[hT]at r5;rw[if_pos hB]at hR;have hadv:=Zp (ts:=ts) (n:=n) (p+1,none) (Ed hB).1;generalize hS5:((p+1,none):S8)=S5 at r5 hR hadv;have hS51:S5.1=p+1:=by rw[←hS5]
    simp only[B4,seval];refine Cc.via (fun s'=>∃ y:S8×List Aa,slotW s' (mJ γ y)∧(y.1.2=none→p+1≤y.1.1)∧∃ g N1 N2 f,RQ ts y.2 1 L n y.1∧(y.1.2=none→g.tags.length+g.kinds.length≤y.1.1∧ts.length<f+y.1.1)∧y.2[2]?=some ⟨0,71,[N1,N2]⟩∧GP 3 137 2 90 2 y.2 N1 g.tags.length (g.tags.flatMap Tg.cells) N2 g.kinds.length (g.kinds.flatMap Kd.cells)∧y.2[0]?=some ⟨0,71,[.v (.slice none 0 0),.v (.slice none 0 0)]⟩∧H7 ts n f g y.1=R) (fun K hK0=>?_) (fun s' hs'=>?_)
    rotate_left
    ·obtain⟨y,hw,hlt,hinv⟩:=hs';simp only[B4,seval];refine AF.intro y hinv hw ?_;show (if y.1.2=none then ts.length+1-y.1.1 else 0)<(if (none:Option (Int×Int))=none then ts.length+1-p else 0);rw[if_pos rfl]
     split
     ·rename_i e;have:=hlt e;omega
     ·omega
    have hK:∀ (hq:List Aa) (s':St),slotW s' (mJ γ ((Hv ts n S5).2,hq))→∀ N,RQ ts hq 1 L n (Hv ts n S5).2→hq[2]?=some ⟨0,71,[N,N2]⟩→GP 3 137 2 90 2 hq N (g.tags++[(Hv ts n S5).1]).length ((g.tags++[(Hv ts n S5).1]).flatMap Tg.cells) N2 g.kinds.length (g.kinds.flatMap Kd.cells)→hq[0]?=some ⟨0,71,[.v (.slice none 0 0),.v (.slice none 0 0)]⟩→K .normal s':=fun hq s' a1 N' a2 a3 a4 a5=>hK0 s' ⟨((Hv ts n S5).2,hq),a1,fun e=>by
      have c1:=hadv e;show p+1≤(Hv ts n S5).2.1
      omega,⟨g.tags++[(Hv ts n S5).1],g.kinds⟩,N',N2,f',a2,fun e=>by
      have c1:=hadv e;refine⟨?_,?_⟩
      ·show (g.tags++[(Hv ts n S5).1]).length+g.kinds.length≤(Hv ts n S5).2.1;rw[Bp,List.length_singleton];omega
      ·show ts.length<f'+(Hv ts n S5).2.1;omega,a3,a4,a5,hR⟩
    clear hK0;refine Cc.orders [[0,1,2,3,4,5,6,7],[0,2,1,3,4,5,6,7],[2,0,1,3,4,5,6,7],[0,2,3,1,4,5,6,7],[2,0,3,1,4,5,6,7],[0,2,3,4,1,5,6,7],[2,0,3,4,1,5,6,7],[2,3,0,1,4,5,6,7],[2,3,0,4,1,5,6,7],[2,3,4,0,1,5,6,7]] (fun _ _ _ h o h'=>JM ts n L 1 h (Hv ts n S5).1.av (Hv ts n S5).2 o h') (fun _ _ _ _ h=>h) (by kernel_rfl) (by kernel_rfl) (by kernel_rfl) (fun q hq=>?_);simp only[BI,List.not_mem_nil,or_false]at hq
    rcases hq with rfl|rfl|rfl|rfl|rfl|rfl|rfl|rfl|rfl|rfl
    all_goals simp only[Rz,Gf,CI,BU,Bu,Bz,AH,kb5,B4,seval]
    all_goals refine⟨c78,fS E r5,fun ra hp hh=>?_,fun v hp hh=>by obtain⟨_,e,_⟩:=hh;cases e⟩
    all_goals obtain⟨A,e,f,rp,rA⟩:=hh
    all_goals cases e
    all_goals have f:Fr (AU 1) h5 hp:=f
    all_goals obtain⟨V,rfl,rV⟩:=YA (m:=h5.length) rA
    all_goals have k0p:=f.at k05 (fun e=>by cases e)
    all_goals obtain⟨x,hx⟩:∃ x,x=(Hv ts n S5).1:=⟨_,rfl⟩
    all_goals rw[←hx]at rV hK⊢
    all_goals obtain⟨oV,fV⟩:=Cz rV
    all_goals have kbp:hp[2]?=some ⟨0,71,[N1,N2]⟩:=f.at kb5 (fun e=>by cases e)
    all_goals have hbl:=(Bs.1 kbp).1
    all_goals have hff:=f.1
    all_goals have Gp:=G5.fr f (fun k e _=>by have e:k=1:=e;omega)
    all_goals have hl5:∀ k,S3 3 N1 N2 k→k<h5.length:=fun k hk=>hk.elim (fun hk=>by omega) fun hk=>hk.elim (fun hk=>(G5.lt1 hk).2) fun hk=>(G5.lt2 hk).2
    all_goals have g7:∀ l,(hp++l)[2]?=some ⟨0,71,[N1,N2]⟩:=fun l=>(Ba hbl).trans kbp
    all_goals have s6:∀ l c,(hp++l).set 2 c=hp.set 2 c++l:=fun l c=>Bg _ _ hbl
    all_goals have hel:AE (S3 3 N1 N2) hp x.cells [Ae x.name,V]:=AE.cons (Rd.str _) (AE.cons (rV.up (Fr.refl BR hp) (fun k e=>e.elim) fun k e _=>hl5 k e) AE.nil)
    all_goals have hxe:(g.tags++[x]).length=g.tags.length+1:=by simp
    all_goals have hxf:(g.tags++[x]).flatMap Tg.cells=g.tags.flatMap Tg.cells++x.cells:=by simp
    all_goals rcases Gp.at1 with⟨rfl,e0,e1⟩|⟨j,ver,cs,rfl,hnn,hj0,hj,hl,hnb⟩
    all_goals first
     |(have e0':=e0
       simp only[AH,kbp,g7,oV,Ae,Ap,s6,Aj,Bx,Bw,Bi,Bo,Bc,B4,seval];have GQ:=Gp.push1 (h':=hp.set 2 ⟨0,71,[.own (hp.length+1) 0 1,N2]⟩++[⟨0,137,[Ae x.name,V]⟩,⟨0,137,[Ae x.name,V]⟩]) (j':=hp.length+1) (ver':=0) (xs:=[]) (es:=[Ae x.name,V]) (ecs:=x.cells) (fun j ver e=>by cases e) (fun _=>⟨by omega,rfl⟩) (by omega) ((Fr.set _ (.inl (Nat.lt_succ_self _))).trans (Fr.app (S:=BR) _ _) fun k e=>e.elim) (Ce _ _ _ _ _ _) rfl hel;rw[e0]at GQ;refine hK (hp.set 2 ⟨0,71,[.own (hp.length+1) 0 1,N2]⟩++[⟨0,137,[Ae x.name,V]⟩,⟨0,137,[Ae x.name,V]⟩]) _ ⟨rfl,rfl,⟨rfl,rfl,rfl,trivial⟩,rfl⟩ (.own (hp.length+1) 0 1) ?_ ?_ (by rw[hxe,hxf,e0];exact GQ) ?_
       ·exact (rp.fr (Fr.set (S:=AU 2) _ rfl) (fun e=>by cases e)).app _
       ·exact (Ba (by rw[Bl];exact hbl)).trans (Be hbl)
       ·exact (Ba (by rw[Bl];omega)).trans ((Bn (by decide)).trans k0p))
     |(have hjl:=(Bs.1 hj).1
       have hjb:j≠2:=by omega
       have hji:j≠1:=by omega
       have hj00:j≠0:=by omega
       have q1:∀ l,(hp++l)[j]?=some ⟨ver,137,cs⟩:=fun l=>(Ba hjl).trans hj
       have s8:∀ l c,(hp++l).set j c=hp.set j c++l:=fun l c=>Bg _ _ hjl
       have g9:∀ l c,(hp.set j c++l)[2]?=some ⟨0,71,[.own j ver g.tags.length,N2]⟩:=fun l c=>(Ba (by rw[Bl];exact hbl)).trans ((Bn hjb).trans kbp)
       have s9:∀ l c d,(hp.set j c++l).set 2 d=(hp.set j c).set 2 d++l:=fun l c d=>Bg _ _ (by rw[Bl];exact hbl)
       have hl':cs.length=g.tags.length * 2:=hl;have q4:List.take (g.tags.length * 2) cs=cs:=Bt (by omega);have q6:g.tags.length * 2≤cs.length:=by omega
       simp only[AH,kbp,g7,oV,Ae,Ap,q1,s8,g9,s9,q4,q6,Aj,Bx,Bw,B4,seval];have GQ:=Gp.push1 (h':=(hp.set j ⟨ver+1,137,cs++[Ae x.name,V]⟩).set 2 ⟨0,71,[.own j (ver+1) (g.tags.length+1),N2]⟩++[⟨0,137,[Ae x.name,V]⟩]) (j':=j) (ver':=ver+1) (xs:=cs) (es:=[Ae x.name,V]) (ecs:=x.cells) (fun j2 ver2 e=>by cases e;exact⟨rfl,hj⟩) (fun e=>by cases e) (by omega) (((Fr.set (S:=fun k=>k<3∨AZ (.own j ver g.tags.length) k) _ (.inr rfl)).trans (Fr.set (S:=fun k=>k<3∨AZ (.own j ver g.tags.length) k) _ (.inl (Nat.lt_succ_self _))) fun k e=>.inl e).trans (Fr.app (S:=BR) _ _) fun k e=>e.elim) ((Ba (by rw[Bl,Bl];exact hjl)).trans ((Bn hjb.symm).trans (Be hjl))) rfl hel;refine⟨by omega,hK ((hp.set j ⟨ver+1,137,cs++[Ae x.name,V]⟩).set 2 ⟨0,71,[.own j (ver+1) (g.tags.length+1),N2]⟩++[⟨0,137,[Ae x.name,V]⟩]) _ ⟨rfl,rfl,⟨rfl,rfl,rfl,trivial⟩,rfl⟩ (.own j (ver+1) (g.tags.length+1)) ?_ ?_ (by rw[hxe,hxf];exact GQ) ?_⟩
       ·exact ((rp.fr (Fr.set (S:=AU j) _ rfl) (fun e=>hji e.symm)).fr (Fr.set (S:=AU 2) _ rfl) (fun e=>by cases e)).app _
       ·exact (Ba (by rw[Bl,Bl];exact hbl)).trans (Be (by rw[Bl];exact hbl))
       ·exact (Ba (by rw[Bl,Bl];omega)).trans ((Bn (by decide)).trans ((Bn hj00).trans k0p)))
   |false=>
    have hT:AB ts Rf (p,none)=(p,none):=by unfold AB;rw[if_neg (by rw[hB];decide)]
    rw[hT]at r5;rw[if_neg (by rw[hB];decide)]at hR;simp only[B4,seval];refine B9 OG (Cq E r5 IH) (fun h6 f6 r6=>?_);have kb6:=f6.at kb5 (fun e=>by cases e);have k06:=f6.at k05 (fun e=>by cases e);have G6:=G5.fr f6 (fun k e _=>by have e:k=1:=e;omega);simp only[B4,seval];refine B9 c80 (Fj E r6) (fun h7 f7 r7=>?_);have kb7:=f7.at kb6 (fun e=>by cases e);have k07:=f7.at k06 (fun e=>by cases e);have G7:=G6.fr f7 (fun k e _=>by have e:k=1:=e;omega);have hbl7:=(Bs.1 kb7).1;unfold Rp at hR;simp only at hR
    have hww:(Au ts n (Av ts n IH (p,none))).2.2=none→p+2≤(Au ts n (Av ts n IH (p,none))).2.1:=fun e=>by
     have a:=Eb _ e;have b:=B3 a.1;have b2:(Av ts n IH (p,none)).1=p+1:=b.2
     omega
    generalize Au ts n (Av ts n IH (p,none))=W at r7 hR hww;obtain⟨nm,S7⟩:=W;simp only at r7 hR hww;simp only[AH,Ae,Ap,CV,Aj,Bx,Bw,B4,seval];refine B9 OG (Cq E (r7.app [⟨0,90,[.v (.string ⟨nm.toArray⟩),.v (.slice none 0 0)]⟩]) [123]) (fun h8 f8 r8=>?_);obtain⟨kb,hkb0⟩:∃ kb,kb=h7.length:=⟨_,rfl⟩;have kk8:h8[kb]?=some ⟨0,90,[Ae nm,.v (.slice none 0 0)]⟩:=by rw[hkb0];exact f8.at (Ap _ _ _) (fun e=>by have e:h7.length=1:=e;omega)
    have F8:Fr (Io 1 kb) h7 h8:=Io.i f8.pre;have hgb:∀ {h':List Aa},Fr (Io 1 kb) h7 h'→h'[2]?=some ⟨0,71,[N1,N2]⟩∧h'[0]?=some ⟨0,71,[.v (.slice none 0 0),.v (.slice none 0 0)]⟩∧GP 3 137 2 90 2 h' N1 g.tags.length (g.tags.flatMap Tg.cells) N2 g.kinds.length (g.kinds.flatMap Kd.cells):=fun {h'} f=>⟨f.at kb7 (fun e=>by rcases e with e|e<;>omega),f.at k07 (fun e=>by rcases e with e|e<;>omega),G7.fr f (fun k e hk=>by rcases e with e|e<;>omega)⟩
    have hlk:∀ k,S3 3 N1 N2 k→k<kb:=fun k hk=>by
     rcases hk with hk|hk|hk
     ·omega
     ·have:=(G7.lt1 hk).2;omega
     ·have:=(G7.lt2 hk).2;omega
    have hw8:(Av ts n [123] S7).2=none→p+3≤(Av ts n [123] S7).1:=fun e=>by
     have a:=B3 e;have:=hww a.1
     omega
    generalize Av ts n [123] S7=S8' at r8 hR hw8;generalize hC:Dq ts n (ts.length+1) [] S8'=C at hR;rw[←hkb0];simp only[B4,seval]
    refine Cp.intro (nB γ kb) (fun y=>∃ xs N f,RQ ts y.2 1 L n y.1∧(y.1.2=none→xs.length≤y.1.1∧p+1≤y.1.1∧ts.length<f+y.1.1)∧y.2[kb]?=some ⟨0,90,[Ae nm,N]⟩∧GL (kb+1) 59 4 y.2 N xs.length (xs.flatMap Ch.cells)∧Fr (Io 1 kb) h7 y.2∧Dq ts n f xs y.1=C) (fun y=>if y.1.2=none then ts.length+1-y.1.1 else 0) (S8',h8) ⟨rfl,rfl,⟨rfl,rfl,rfl,rfl,trivial⟩,rfl⟩
     ⟨[],.v (.slice none 0 0),ts.length+1,r8,fun e=>⟨BN _,by have:=hw8 e;show p+1≤S8'.1;omega,by show ts.length<ts.length+1+S8'.1;omega⟩,kk8,GL.nil,F8,hC⟩ (fun y hy=>?_)
    clear hC kk8 r8 f8 F8 hw8 kb4 G4 r4 hi4 kb5 G5 f5 r5 f6 r6 kb6 G6 f7 r7 k04 k05 k06 hsim hPr;obtain⟨S9,h9⟩:=y;obtain⟨xs,N,fc,r9,hb9,kb9,G9,F9,hC⟩:=hy;simp only at r9 hb9 kb9 G9 F9 hC;have hi9:=r9.1;have hp9:=r9.2.1;have hbd9:=r9.2.bad;obtain⟨p9,bd9⟩:=S9;simp only at hb9 hp9 hbd9;cases bd9 with
    |some bb=>
     have hbb:(Ek (some bb)==0)=false:=hbd9;rw[Ga]at hC;rw[←hC]at hR;have hR2:H7 ts n f' ⟨g.tags,g.kinds++[⟨nm,xs⟩]⟩ (p9,some bb)=R:=hR;have hcnt:((p9,some bb):S8).2=none→p+1≤((p9,some bb):S8).1∧ts.length<f'+((p9,some bb):S8).1:=fun e=>by cases e
     have hdec:(if ((p9,some bb):S8).2=none then ts.length+1-((p9,some bb):S8).1 else 0)<(if (none:Option (Int×Int))=none then ts.length+1-p else 0):=by
      rw[if_pos rfl,if_neg (by intro e;cases e)];omega
     simp only[nB,AH,Cn,hi9,cQ,hbb,B4,A7,seval];obtain⟨kp9,k09,GP9⟩:=hgb F9;obtain⟨oN,fN⟩:=G9.one;have hbl:=(Bs.1 kp9).1;have hF9:=F9.1;have rdk:Rd (Old (kb+1)) h9 (GN xs) N:=G9.rd;have hel:AE (S3 3 N1 N2) h9 (Kd.cells ⟨nm,xs⟩) [Ae nm,N]:=AE.cons (Rd.str _) (AE.cons (rdk.up (Fr.refl BR h9) (fun k e=>e.elim) fun k e _=>by have:=hlk k e;show k<kb+1;omega) AE.nil);have g7:∀ l,(h9++l)[2]?=some ⟨0,71,[N1,N2]⟩:=fun l=>(Ba hbl).trans kp9
     have s6:∀ l c,(h9++l).set 2 c=h9.set 2 c++l:=fun l c=>Bg _ _ hbl
     have hxe:(g.kinds++[(⟨nm,xs⟩:Kd)]).length=g.kinds.length+1:=by simp
     have hxf:(g.kinds++[(⟨nm,xs⟩:Kd)]).flatMap Kd.cells=g.kinds.flatMap Kd.cells++Kd.cells ⟨nm,xs⟩:=by simp
     rcases GP9.swap.at1 with⟨rfl,e0,e1⟩|⟨j,ver,cs,rfl,hnn,hj0,hj,hl,hnb⟩
     ·simp only[AH,kp9,kb9,g7,oN,Ae,Ap,s6,Aj,Bx,Bw,Bi,Bo,Bc,B4,seval];have GQ:=(GP9.swap.push1 (h':=h9.set 2 ⟨0,71,[N1,.own (h9.length+1) 0 1]⟩++[⟨0,90,[Ae nm,N]⟩,⟨0,90,[Ae nm,N]⟩]) (j':=h9.length+1) (ver':=0) (xs:=[]) (es:=[Ae nm,N]) (ecs:=Kd.cells ⟨nm,xs⟩) (fun j ver e=>by cases e) (fun _=>⟨by omega,rfl⟩) (by omega) ((Fr.set _ (.inl (Nat.lt_succ_self _))).trans (Fr.app (S:=BR) _ _) fun k e=>e.elim) (Ce _ _ _ _ _ _) rfl (JE hel)).swap;rw[e0]at GQ;refine AF.intro (((p9,some bb):S8),h9.set 2 ⟨0,71,[N1,.own (h9.length+1) 0 1]⟩++[⟨0,90,[Ae nm,N]⟩,⟨0,90,[Ae nm,N]⟩]) ⟨⟨g.tags,g.kinds++[⟨nm,xs⟩]⟩,N1,.own (h9.length+1) 0 1,f',?_,?_,?_,by show GP _ _ _ _ _ _ _ _ _ _ (g.kinds++[(⟨nm,xs⟩:Kd)]).length ((g.kinds++[(⟨nm,xs⟩:Kd)]).flatMap Kd.cells);rw[hxe,hxf,e0];exact GQ,?_,hR2⟩ ⟨rfl,rfl,⟨rfl,rfl,rfl,trivial⟩,rfl⟩ hdec
      ·exact (r9.fr (Fr.set (S:=AU 2) _ rfl) (fun e=>by cases e)).app _
      ·exact fun e=>by cases e
      ·exact (Ba (by rw[Bl];exact hbl)).trans (Be hbl)
      ·exact (Ba (by rw[Bl];omega)).trans ((Bn (by decide)).trans k09)
     ·have hjl:=(Bs.1 hj).1;have hjb:j≠2:=by omega
      have hji:j≠1:=by omega
      have hj00:j≠0:=by omega
      have q1:∀ l,(h9++l)[j]?=some ⟨ver,90,cs⟩:=fun l=>(Ba hjl).trans hj
      have s8:∀ l c,(h9++l).set j c=h9.set j c++l:=fun l c=>Bg _ _ hjl
      have g9:∀ l c,(h9.set j c++l)[2]?=some ⟨0,71,[N1,.own j ver g.kinds.length]⟩:=fun l c=>(Ba (by rw[Bl];exact hbl)).trans ((Bn hjb).trans kp9)
      have s9:∀ l c d,(h9.set j c++l).set 2 d=(h9.set j c).set 2 d++l:=fun l c d=>Bg _ _ (by rw[Bl];exact hbl)
      have hl':cs.length=g.kinds.length * 2:=hl;have q4:List.take (g.kinds.length * 2) cs=cs:=Bt (by omega);have q6:g.kinds.length * 2≤cs.length:=by omega
      simp only[AH,kp9,kb9,oN,Ae,Ap,q1,s8,g9,s9,q4,q6,Aj,Bx,Bw,B4,seval];have GQ:=(GP9.swap.push1 (h':=(h9.set j ⟨ver+1,90,cs++[Ae nm,N]⟩).set 2 ⟨0,71,[N1,.own j (ver+1) (g.kinds.length+1)]⟩++[⟨0,90,[Ae nm,N]⟩]) (j':=j) (ver':=ver+1) (xs:=cs) (es:=[Ae nm,N]) (ecs:=Kd.cells ⟨nm,xs⟩) (fun j2 ver2 e=>by cases e;exact⟨rfl,hj⟩) (fun e=>by cases e) (by omega) (((Fr.set (S:=fun k=>k<3∨AZ (.own j ver g.kinds.length) k) _ (.inr rfl)).trans (Fr.set (S:=fun k=>k<3∨AZ (.own j ver g.kinds.length) k) _ (.inl (Nat.lt_succ_self _))) fun k e=>.inl e).trans (Fr.app (S:=BR) _ _) fun k e=>e.elim) ((Ba (by rw[Bl,Bl];exact hjl)).trans ((Bn hjb.symm).trans (Be hjl))) rfl (JE hel)).swap;refine⟨by omega,AF.intro (((p9,some bb):S8),(h9.set j ⟨ver+1,90,cs++[Ae nm,N]⟩).set 2 ⟨0,71,[N1,.own j (ver+1) (g.kinds.length+1)]⟩++[⟨0,90,[Ae nm,N]⟩]) ⟨⟨g.tags,g.kinds++[⟨nm,xs⟩]⟩,N1,.own j (ver+1) (g.kinds.length+1),f',?_,?_,?_,by show GP _ _ _ _ _ _ _ _ _ _ (g.kinds++[(⟨nm,xs⟩:Kd)]).length ((g.kinds++[(⟨nm,xs⟩:Kd)]).flatMap Kd.cells);rw[hxe,hxf];exact GQ,?_,hR2⟩ ⟨rfl,rfl,⟨rfl,rfl,rfl,trivial⟩,rfl⟩ hdec⟩
      ·exact ((r9.fr (Fr.set (S:=AU j) _ rfl) (fun e=>hji e.symm)).fr (Fr.set (S:=AU 2) _ rfl) (fun e=>by cases e)).app _
      ·exact fun e=>by cases e
      ·exact (Ba (by rw[Bl,Bl];exact hbl)).trans (Be (by rw[Bl];exact hbl))
      ·exact (Ba (by rw[Bl,Bl];omega)).trans ((Bn (by decide)).trans ((Bn hj00).trans k09))
    |none=>
     have hbb:(Ek none==0)=true:=rfl;obtain⟨hx9,hp19,hf9⟩:=hb9 rfl;obtain⟨fc',rfl⟩:∃ g,fc=g+1:=⟨fc-1,by omega⟩;rw[Dq]at hC;simp only[Option.isSome_none,Bool.false_eq_true,if_false]at hC;simp only[nB,Cn,hi9,cQ,hbb,B4,A7,seval];refine B9 R3 (C4 E r9 [125]) (fun hA fA rA=>?_);have kbA:=fA.at kb9 (fun e=>by have e:kb=1:=e;omega);have FA:=F9.trans (Io.i (n0:=kb) fA) fun k e=>.inl e
     have GA:=G9.fr0 fA (fun k e=>by have e:k=1:=e;omega);clear kb9 F9 G9 r9 hi9 fA;obtain⟨h9',eh⟩:∃ h',h'=hA:=⟨_,rfl⟩;cases hB:HD ts [125] (p9,none)with
     |true=>
      have hT:AB ts [125] (p9,none)=(p9+1,none):=by unfold AB;rw[if_pos hB]
      rw[hT]at rA;rw[if_pos hB]at hC;rw[←hC]at hR;have hR2:H7 ts n f' ⟨g.tags,g.kinds++[⟨nm,xs⟩]⟩ (p9+1,none)=R:=hR;have hcnt:((p9+1,none):S8).2=none→p+1≤((p9+1,none):S8).1∧ts.length<f'+((p9+1,none):S8).1:=fun _=>⟨by show p+1≤p9+1;omega,by show ts.length<f'+(p9+1);omega⟩
      have hdec:(if ((p9+1,none):S8).2=none then ts.length+1-((p9+1,none):S8).1 else 0)<(if (none:Option (Int×Int))=none then ts.length+1-p else 0):=by
       rw[if_pos rfl,if_pos rfl];show ts.length+1-(p9+1)<ts.length+1-p;omega
      simp only[AH,B4,Bv,seval];obtain⟨kp9,k09,GP9⟩:=hgb FA;obtain⟨oN,fN⟩:=GA.one;have hbl:=(Bs.1 kp9).1;have hF9:=FA.1;have rdk:Rd (Old (kb+1)) hA (GN xs) N:=GA.rd;have hel:AE (S3 3 N1 N2) hA (Kd.cells ⟨nm,xs⟩) [Ae nm,N]:=AE.cons (Rd.str _) (AE.cons (rdk.up (Fr.refl BR hA) (fun k e=>e.elim) fun k e _=>by have:=hlk k e;show k<kb+1;omega) AE.nil);have g7:∀ l,(hA++l)[2]?=some ⟨0,71,[N1,N2]⟩:=fun l=>(Ba hbl).trans kp9
      have s6:∀ l c,(hA++l).set 2 c=hA.set 2 c++l:=fun l c=>Bg _ _ hbl
      have hxe:(g.kinds++[(⟨nm,xs⟩:Kd)]).length=g.kinds.length+1:=by simp
      have hxf:(g.kinds++[(⟨nm,xs⟩:Kd)]).flatMap Kd.cells=g.kinds.flatMap Kd.cells++Kd.cells ⟨nm,xs⟩:=by simp
      rcases GP9.swap.at1 with⟨rfl,e0,e1⟩|⟨j,ver,cs,rfl,hnn,hj0,hj,hl,hnb⟩
      ·simp only[AH,kp9,kbA,g7,oN,Ae,Ap,s6,Aj,Bx,Bw,Bi,Bo,Bc,B4,seval];have GQ:=(GP9.swap.push1 (h':=hA.set 2 ⟨0,71,[N1,.own (hA.length+1) 0 1]⟩++[⟨0,90,[Ae nm,N]⟩,⟨0,90,[Ae nm,N]⟩]) (j':=hA.length+1) (ver':=0) (xs:=[]) (es:=[Ae nm,N]) (ecs:=Kd.cells ⟨nm,xs⟩) (fun j ver e=>by cases e) (fun _=>⟨by omega,rfl⟩) (by omega) ((Fr.set _ (.inl (Nat.lt_succ_self _))).trans (Fr.app (S:=BR) _ _) fun k e=>e.elim) (Ce _ _ _ _ _ _) rfl (JE hel)).swap;rw[e0]at GQ;refine AF.intro (((p9+1,none):S8),hA.set 2 ⟨0,71,[N1,.own (hA.length+1) 0 1]⟩++[⟨0,90,[Ae nm,N]⟩,⟨0,90,[Ae nm,N]⟩]) ⟨⟨g.tags,g.kinds++[⟨nm,xs⟩]⟩,N1,.own (hA.length+1) 0 1,f',?_,?_,?_,by show GP _ _ _ _ _ _ _ _ _ _ (g.kinds++[(⟨nm,xs⟩:Kd)]).length ((g.kinds++[(⟨nm,xs⟩:Kd)]).flatMap Kd.cells);rw[hxe,hxf,e0];exact GQ,?_,hR2⟩ ⟨rfl,rfl,⟨rfl,rfl,rfl,trivial⟩,rfl⟩ hdec
       ·exact (rA.fr (Fr.set (S:=AU 2) _ rfl) (fun e=>by cases e)).app _
       ·exact fun _=>⟨by show g.tags.length+(g.kinds++[(⟨nm,xs⟩:Kd)]).length≤p9+1;rw[hxe];omega,by show ts.length<f'+(p9+1);omega⟩
       ·exact (Ba (by rw[Bl];exact hbl)).trans (Be hbl)
       ·exact (Ba (by rw[Bl];omega)).trans ((Bn (by decide)).trans k09)
      ·have hjl:=(Bs.1 hj).1;have hjb:j≠2:=by omega
       have hji:j≠1:=by omega
       have hj00:j≠0:=by omega
       have q1:∀ l,(hA++l)[j]?=some ⟨ver,90,cs⟩:=fun l=>(Ba hjl).trans hj
       have s8:∀ l c,(hA++l).set j c=hA.set j c++l:=fun l c=>Bg _ _ hjl
       have g9:∀ l c,(hA.set j c++l)[2]?=some ⟨0,71,[N1,.own j ver g.kinds.length]⟩:=fun l c=>(Ba (by rw[Bl];exact hbl)).trans ((Bn hjb).trans kp9)
       have s9:∀ l c d,(hA.set j c++l).set 2 d=(hA.set j c).set 2 d++l:=fun l c d=>Bg _ _ (by rw[Bl];exact hbl)
       have hl':cs.length=g.kinds.length * 2:=hl;have q4:List.take (g.kinds.length * 2) cs=cs:=Bt (by omega);have q6:g.kinds.length * 2≤cs.length:=by omega
       simp only[AH,kp9,kbA,oN,Ae,Ap,q1,s8,g9,s9,q4,q6,Aj,Bx,Bw,B4,seval];have GQ:=(GP9.swap.push1 (h':=(hA.set j ⟨ver+1,90,cs++[Ae nm,N]⟩).set 2 ⟨0,71,[N1,.own j (ver+1) (g.kinds.length+1)]⟩++[⟨0,90,[Ae nm,N]⟩]) (j':=j) (ver':=ver+1) (xs:=cs) (es:=[Ae nm,N]) (ecs:=Kd.cells ⟨nm,xs⟩) (fun j2 ver2 e=>by cases e;exact⟨rfl,hj⟩) (fun e=>by cases e) (by omega) (((Fr.set (S:=fun k=>k<3∨AZ (.own j ver g.kinds.length) k) _ (.inr rfl)).trans (Fr.set (S:=fun k=>k<3∨AZ (.own j ver g.kinds.length) k) _ (.inl (Nat.lt_succ_self _))) fun k e=>.inl e).trans (Fr.app (S:=BR) _ _) fun k e=>e.elim) ((Ba (by rw[Bl,Bl];exact hjl)).trans ((Bn hjb.symm).trans (Be hjl))) rfl (JE hel)).swap;refine⟨by omega,AF.intro (((p9+1,none):S8),(hA.set j ⟨ver+1,90,cs++[Ae nm,N]⟩).set 2 ⟨0,71,[N1,.own j (ver+1) (g.kinds.length+1)]⟩++[⟨0,90,[Ae nm,N]⟩]) ⟨⟨g.tags,g.kinds++[⟨nm,xs⟩]⟩,N1,.own j (ver+1) (g.kinds.length+1),f',?_,?_,?_,by show GP _ _ _ _ _ _ _ _ _ _ (g.kinds++[(⟨nm,xs⟩:Kd)]).length ((g.kinds++[(⟨nm,xs⟩:Kd)]).flatMap Kd.cells);rw[hxe,hxf];exact GQ,?_,hR2⟩ ⟨rfl,rfl,⟨rfl,rfl,rfl,trivial⟩,rfl⟩ hdec⟩
       ·exact ((rA.fr (Fr.set (S:=AU j) _ rfl) (fun e=>hji e.symm)).fr (Fr.set (S:=AU 2) _ rfl) (fun e=>by cases e)).app _
       ·exact fun _=>⟨by show g.tags.length+(g.kinds++[(⟨nm,xs⟩:Kd)]).length≤p9+1;rw[hxe];omega,by show ts.length<f'+(p9+1);omega⟩
       ·exact (Ba (by rw[Bl,Bl];exact hbl)).trans (Be (by rw[Bl];exact hbl))
       ·exact (Ba (by rw[Bl,Bl];omega)).trans ((Bn (by decide)).trans ((Bn hj00).trans k09))
     |false=>
      have hT:AB ts [125] (p9,none)=(p9,none):=by unfold AB;rw[if_neg (by rw[hB];decide)]
      rw[hT]at rA;rw[if_neg (by rw[hB];decide)]at hC;have hadv:=TS (ts:=ts) (n:=n) (p9,none) hp9;have hklA:=(Bs.1 kbA).1;simp only[B4,Bf,seval];refine Cc.via (fun s'=>∃ y:S8×List Aa,slotW s' (nB γ kb y)∧(y.1.2=none→p9+1≤y.1.1)∧∃ xs N f,RQ ts y.2 1 L n y.1∧(y.1.2=none→xs.length≤y.1.1∧p+1≤y.1.1∧ts.length<f+y.1.1)∧y.2[kb]?=some ⟨0,90,[Ae nm,N]⟩∧GL (kb+1) 59 4 y.2 N xs.length (xs.flatMap Ch.cells)∧Fr (Io 1 kb) h7 y.2∧Dq ts n f xs y.1=C) (fun K hK0=>?_) (fun s' hs'=>?_)
      rotate_left
      ·obtain⟨y,hw,hlt,hinv⟩:=hs';simp only[B4];refine AF.intro y hinv hw ?_;show (if y.1.2=none then ts.length+1-y.1.1 else 0)<(if (none:Option (Int×Int))=none then ts.length+1-p9 else 0);rw[if_pos rfl]
       split
       ·rename_i e;have:=hlt e;omega
       ·omega
      obtain⟨S9,hS9⟩:∃ S9:S8,S9=(p9,none):=⟨_,rfl⟩;rw[←hS9]at hadv hC rA;have rA0:=rA;have hS91:S9.1=p9:=by rw[hS9]
      have hK:∀ (hq:List Aa) (s':St),slotW s' (nB γ kb ((Dk ts n S9).2,hq))→∀ N,RQ ts hq 1 L n (Dk ts n S9).2→hq[kb]?=some ⟨0,90,[Ae nm,N]⟩→GL (kb+1) 59 4 hq N (xs++[(Dk ts n S9).1]).length ((xs++[(Dk ts n S9).1]).flatMap Ch.cells)→Fr (Io 1 kb) h7 hq→K .normal s':=fun hq s' a1 N' a2 a3 a4 a5=>hK0 s' ⟨((Dk ts n S9).2,hq),a1,fun e=>by
        have c1:=hadv e;show p9+1≤(Dk ts n S9).2.1
        omega,xs++[(Dk ts n S9).1],N',fc',a2,fun e=>by
        have c1:=hadv e;refine⟨?_,?_,?_⟩
        ·rw[Bp,List.length_singleton];show xs.length+1≤(Dk ts n S9).2.1;omega
        ·show p+1≤(Dk ts n S9).2.1;omega
        ·show ts.length<fc'+(Dk ts n S9).2.1;omega,a3,a4,a5,hC⟩
      clear hK0;refine Cc.orders [[0,1,2,3,4,5,6,7],[0,2,1,3,4,5,6,7],[2,0,1,3,4,5,6,7],[0,2,3,1,4,5,6,7],[2,0,3,1,4,5,6,7],[0,2,3,4,1,5,6,7],[2,0,3,4,1,5,6,7],[2,3,0,1,4,5,6,7],[2,3,0,4,1,5,6,7],[2,3,4,0,1,5,6,7]] (fun _ _ _ h o h'=>JM ts n L 1 h (Dk ts n S9).1.av (Dk ts n S9).2 o h') (fun _ _ _ _ h=>h) (by kernel_rfl) (by kernel_rfl) (by kernel_rfl) (fun q hq=>?_);simp only[BI,List.not_mem_nil,or_false]at hq
      rcases hq with rfl|rfl|rfl|rfl|rfl|rfl|rfl|rfl|rfl|rfl
      all_goals simp only[Rz,Gf,CI,BU,Bu,Bz,AH,kbA,B4,seval]
      all_goals refine⟨c69,Wp E rA0,fun ra hp hh=>?_,fun v hp hh=>by obtain⟨_,e,_⟩:=hh;cases e⟩
      all_goals obtain⟨A,e,f,rp,rA⟩:=hh
      all_goals cases e
      all_goals have f:Fr (AU 1) hA hp:=f
      all_goals obtain⟨x,hx⟩:∃ x,x=(Dk ts n S9).1:=⟨_,rfl⟩
      all_goals rw[←hx]at rA hK
      all_goals have rA2:Rd (Old hA.length) hp (.agg x.cells) ra:=rA
      all_goals obtain⟨_,e0,hcl⟩:=LH rA2
      all_goals obtain⟨x1,x2,x3,e1,⟨o1,g1⟩,⟨o2,g2⟩,o3,g3⟩:=Sk (m:=hA.length) rA2
      all_goals rw[e0]at e1
      all_goals cases e1
      all_goals cases e0
      all_goals have kbp:hp[kb]?=some ⟨0,90,[Ae nm,N]⟩:=f.at kbA (fun e=>by have e:kb=1:=e;omega)
      all_goals have hbl:=(Bs.1 kbp).1
      all_goals have hff:=f.1
      all_goals have Gp:=GA.fr0 f (fun k e=>by have e:k=1:=e;omega)
      all_goals have hl9:∀ k,AZ N k→k<hA.length:=fun k hk=>(GA.lt hk).2
      all_goals have g7:∀ l,(hp++l)[kb]?=some ⟨0,90,[Ae nm,N]⟩:=fun l=>(Ba hbl).trans kbp
      all_goals have s6:∀ l c,(hp++l).set kb c=hp.set kb c++l:=fun l c=>Bg _ _ hbl
      all_goals have hel:AE (fun k=>k<kb+1∨AZ N k) hp x.cells [Ae x.name,x1,x2,x3]:=hcl.up (Fr.refl BR hp) (fun k e=>e.elim) fun k e _=>e.elim (fun e=>by show k<hA.length;omega) fun e=>hl9 k e
      all_goals have hxe:(xs++[x]).length=xs.length+1:=by simp
      all_goals have hxf:(xs++[x]).flatMap Ch.cells=xs.flatMap Ch.cells++x.cells:=by simp
      all_goals have Fpp:=FA.trans (Io.i (n0:=kb) f) fun k e=>.inl e
      all_goals rcases Gp with⟨rfl,e0,e1⟩|⟨j,ver,cs,rfl,hnn,hj0,hj,hl,hrd⟩
      all_goals first
       |(have e0':=e0
         simp only[Bu,Bz,AH,kbp,g7,o1,o2,o3,Ae,Ap,s6,Aj,Bx,Bw,Bi,Bo,Bc,B4,seval];have GQ:=(GL.nil (n0:=kb+1) (t:=59) (sz:=4) (h:=hp)).push (h':=hp.set kb ⟨0,90,[Ae nm,.own (hp.length+1) 0 1]⟩++[⟨0,59,[Ae x.name,x1,x2,x3]⟩,⟨0,59,[Ae x.name,x1,x2,x3]⟩]) (j':=hp.length+1) (ver':=0) (xs:=[]) (es:=[Ae x.name,x1,x2,x3]) (ecs:=x.cells) (fun j ver e=>by cases e) (fun _=>⟨by omega,rfl⟩) (by omega) ((Fr.set _ (.inl (Nat.lt_succ_self _))).trans (Fr.app (S:=BR) _ _) fun k e=>e.elim) (Ce _ _ _ _ _ _) rfl hel;refine hK (hp.set kb ⟨0,90,[Ae nm,.own (hp.length+1) 0 1]⟩++[⟨0,59,[Ae x.name,x1,x2,x3]⟩,⟨0,59,[Ae x.name,x1,x2,x3]⟩]) _ ⟨rfl,rfl,⟨rfl,rfl,rfl,rfl,trivial⟩,rfl⟩ (.own (hp.length+1) 0 1) ?_ ?_ (by rw[hxe,hxf,e0,e1];exact GQ) ?_
         ·exact (rp.fr (Fr.set (S:=AU kb) _ rfl) (fun e=>by have e:1=kb:=e;omega)).app _
         ·exact (Ba (by rw[Bl];exact hbl)).trans (Be hbl)
         ·exact Fpp.trans ((Fr.set (S:=Io 1 kb) _ (.inr (BL _))).trans (Fr.app (S:=BR) _ _) fun k e=>e.elim) fun k e=>.inl e)
       |(have hjl:=(Bs.1 hj).1
         have hjb:j≠kb:=by omega
         have hji:j≠1:=by omega
         have q1:∀ l,(hp++l)[j]?=some ⟨ver,59,cs⟩:=fun l=>(Ba hjl).trans hj
         have s8:∀ l c,(hp++l).set j c=hp.set j c++l:=fun l c=>Bg _ _ hjl
         have g9:∀ l c,(hp.set j c++l)[kb]?=some ⟨0,90,[Ae nm,.own j ver xs.length]⟩:=fun l c=>(Ba (by rw[Bl];exact hbl)).trans ((Bn hjb).trans kbp)
         have s9:∀ l c d,(hp.set j c++l).set kb d=(hp.set j c).set kb d++l:=fun l c d=>Bg _ _ (by rw[Bl];exact hbl)
         have hl':cs.length=xs.length * 4:=hl;have q4:List.take (xs.length * 4) cs=cs:=Bt (by omega);have q6:xs.length * 4≤cs.length:=by omega
         simp only[Bu,Bz,AH,kbp,g7,o1,o2,o3,Ae,Ap,q1,s8,g9,s9,q4,q6,Aj,Bx,Bw,B4,seval];have GQ:=GL.push (h:=hp) (N:=.own j ver xs.length) (.inr ⟨j,ver,cs,rfl,hnn,hj0,hj,hl,hrd⟩) (h':=(hp.set j ⟨ver+1,59,cs++[Ae x.name,x1,x2,x3]⟩).set kb ⟨0,90,[Ae nm,.own j (ver+1) (xs.length+1)]⟩++[⟨0,59,[Ae x.name,x1,x2,x3]⟩]) (j':=j) (ver':=ver+1) (xs:=cs) (es:=[Ae x.name,x1,x2,x3]) (ecs:=x.cells) (fun j2 ver2 e=>by cases e;exact⟨rfl,hj⟩) (fun e=>by cases e) (by omega) (((Fr.set (S:=fun k=>k<kb+1∨AZ (.own j ver xs.length) k) _ (.inr rfl)).trans (Fr.set (S:=fun k=>k<kb+1∨AZ (.own j ver xs.length) k) _ (.inl (Nat.lt_succ_self _))) fun k e=>.inl e).trans (Fr.app (S:=BR) _ _) fun k e=>e.elim) ((Ba (by rw[Bl,Bl];exact hjl)).trans ((Bn hjb.symm).trans (Be hjl))) rfl hel;refine⟨by omega,hK ((hp.set j ⟨ver+1,59,cs++[Ae x.name,x1,x2,x3]⟩).set kb ⟨0,90,[Ae nm,.own j (ver+1) (xs.length+1)]⟩++[⟨0,59,[Ae x.name,x1,x2,x3]⟩]) _ ⟨rfl,rfl,⟨rfl,rfl,rfl,rfl,trivial⟩,rfl⟩ (.own j (ver+1) (xs.length+1)) ?_ ?_ (by rw[hxe,hxf];exact GQ) ?_⟩
         ·exact ((rp.fr (Fr.set (S:=AU j) _ rfl) (fun e=>hji e.symm)).fr (Fr.set (S:=AU kb) _ rfl) (fun e=>by have e:1=kb:=e;omega)).app _
         ·exact (Ba (by rw[Bl,Bl];exact hbl)).trans (Be (by rw[Bl];exact hbl))
         ·exact Fpp.trans (((Fr.set (S:=Io 1 kb) _ (.inr (by omega))).trans (Fr.set (S:=Io 1 kb) _ (.inr (BL _))) fun k e=>.inl e).trans (Fr.app (S:=BR) _ _) fun k e=>e.elim) fun k e=>.inl e)
theorem UI(b:Bool)(l:List UInt8)(hl:l.length≤140737488351232):Ev Tp γ 37 [.sl b l.length l.length (l.map Am)] (It l):=MQ (Wl b l hl)
theorem Tv:Ev Tp γ 37 [.v (.slice none 0 0)] (It []):=MQ Va
variable {γ:List (Nat×AV)}
theorem y5:Tryz.prog.cellsOf 5=1:=by kernel_rfl
theorem T9:∀ ys:List AV,(∀ y∈ys,∃ v,y=AV.v v)→AO ys=true
 |[],_=>by simp only[AO]
 |y::ys,h=>by
  obtain⟨v,rfl⟩:=h y (List.mem_cons_self ..);simp only[AO,CH,Bool.true_and];exact T9 ys fun z hz=>h z (List.mem_cons_of_mem _ hz)
theorem Je(ns:List Nd):CH (Ab ns)=true:=by
 cases ns with
 |nil=>rfl
 |cons x r=>simp only[Ab,CH,Bf,Bool.true_and];exact T9 _ (RV _)
theorem c29:Ak Tp 29:=⟨_,Tryz.func29,by kernel_rfl,by kernel_rfl⟩
theorem c31:Ak Tp 31:=⟨_,Tryz.func31,by kernel_rfl,by kernel_rfl⟩
theorem cW:Ak Tp 32:=⟨_,Tryz.func32,by kernel_rfl,by kernel_rfl⟩
def oP(γ:List (Nat×AV))(A B:AV)(k:Nat):St:=⟨⟨26,[(0,A),(1,B),(5,.v (.int .i64 (k:Int)))],γ⟩,[]⟩
theorem Z8(b c:Bool)(l M:List UInt8)(m:Nat)(hl:l.length≤140737488351232):
  Ev Tp γ 73 [.sl b l.length m ((l++M).map Am),.sl c l.length l.length (l.map Am)] (.v (.bool true)):=by
 have d0:(((l.length:Nat):Int) != ((l.length:Nat):Int))=false:=by simp
 refine Ev.ofE Tryz.func73 rfl ?_;simp only[Tryz.f73,Ry,d0,Af,seval];refine Cp.intro (oP γ (.sl b l.length m ((l++M).map Am)) (.sl c l.length l.length (l.map Am))) (fun k=>k≤l.length) (fun k=>l.length-k) 0 ⟨rfl,rfl,⟨rfl,rfl,rfl,trivial⟩,rfl⟩ (BN _) (fun k hk=>?_)
 by_cases hlt:k<l.length
 ·have d1:decide (k<l.length)=true:=decide_eq_true hlt;obtain⟨x,hx⟩:∃ x,l[k]?=some x:=⟨l[k],by simp[hlt]⟩;have c0:((l++M).map Am)[k]?=some (Am x):=by rw[Bm,Ba hlt,hx];rfl
  have c1:(l.map Am)[k]?=some (Am x):=by rw[Bm,hx];rfl
  have w1:IntKind.i64.wrap ((k:Int)+1)=((k+1:Nat):Int):=(A4 (by omega) (by omega)).trans (by omega);have dx:(x.toNat != x.toNat)=false:=by simp
  have dy:((x.toNat:Int) != (x.toNat:Int))=false:=by simp
  simp only[oP,Ry,d1,Af,seval];refine dI ?_;simp only[Ry,c0,c1,Am,dy,w1,Af,seval];exact⟨hlt,hlt,AF.intro (k+1) hlt ⟨rfl,rfl,⟨rfl,rfl,rfl,trivial⟩,rfl⟩ (by show l.length-(k+1)<l.length-k;clear w1;omega)⟩
 ·have d1:decide (k<l.length)=false:=decide_eq_false hlt;simp only[oP,Ry,d1,Af,seval]
def ZV(cs:List AV):Prop:=∀ y∈cs,∃ k,y=.v (.int .u8 k)
def tuS(γ:List (Nat×AV))(A:AV)(y:Nat×List Aa):St:=⟨⟨17,[(0,A),(2,.v (.int .i64 (y.1:Int)))],γ⟩,y.2⟩
theorem gM{h:List Aa}{j ver n:Nat}{cs:List AV}(hj:h[j]?=some ⟨ver,5,cs⟩)(hn:n≤cs.length)(hb:ZV cs)(hl:n≤140737488351232):
  Ck Tp γ 32 [.own j ver n] h fun o h'=>o=.ret (.tup [])∧Fr (AU j) h h':=by
 refine Ck.of Tryz.func32 rfl ?_;simp only[Tryz.f32,Af,seval];refine Cp.intro (tuS γ (.own j ver n)) (fun y=>y.1≤n∧Fr (AU j) h y.2∧∃ cs,y.2[j]?=some ⟨ver,5,cs⟩∧n≤cs.length∧ZV cs) (fun y=>n-y.1) (0,h) ⟨rfl,rfl,⟨rfl,rfl,trivial⟩,rfl⟩ ⟨BN _,Fr.refl _ _,cs,hj,hn,hb⟩ (fun y hy=>?_);obtain⟨k,h1⟩:=y;obtain⟨hk,f1,cs,hj,hn,hb⟩:=hy;simp only at hk f1 hj
 by_cases hlt:k<n
 ·have d1:decide (k<n)=true:=decide_eq_true hlt;obtain⟨x,hx⟩:∃ x,cs[k]?=some x:=⟨cs[k]'(by omega),List.getElem?_eq_getElem _⟩;obtain⟨v,rfl⟩:=hb x (List.mem_of_getElem? hx);have w1:IntKind.i64.wrap ((k:Int)+1)=((k+1:Nat):Int):=(A4 (by omega) (by omega)).trans (by omega);have hkl:k+1≤cs.length:=by omega
  simp only[tuS,Ry,hj,d1,hx,hkl,w1,Af,seval];refine⟨hlt,hlt,AF.intro (k+1,_) ⟨hlt,f1.trans (Fr.set (S:=AU j) _ rfl) fun k e=>.inl e,cs.set k (.v (.int .u8 (IntKind.u8.wrap (v+91)))),Be (Bs.1 hj).1,by rw[Bl];exact hn,fun y hy=>?_⟩ ⟨rfl,rfl,⟨rfl,rfl,trivial⟩,rfl⟩ (by show n-(k+1)<n-k;clear w1;omega)⟩
  rcases List.mem_or_eq_of_mem_set hy with hy|hy
  ·exact hb y hy
  ·exact⟨_,hy⟩
 ·have d1:decide (k<n)=false:=decide_eq_false hlt;simp only[tuS,Ry,hj,d1,Af,seval]
  first|exact⟨rfl,f1⟩|exact f1
theorem aQ(b c:Bool)(l:List UInt8)(hl:l.length≤140737488351232):
  Ev Tp γ 31 [.sl b l.length (l.length+2) ((l++[201,202]).map Am),.sl c l.length l.length (l.map Am)] (.v (.bool true)):=by
 have hs:=Z8 (γ:=γ) b c l [201,202] (l.length+2) hl;have e1:IntKind.i64.wrap ((l.length:Int)+2)=((l.length+2:Nat):Int):=by rw[A4]<;>omega
 have e2:IntKind.i64.wrap ((l.length:Int)+1)=((l.length+1:Nat):Int):=by rw[A4]<;>omega
 have c0:((l++[201,202]).map Am)[l.length]?=some (Am 201):=by rw[Bm,Br (BL _),Nat.sub_self];rfl
 have c1:((l++[201,202]).map Am)[l.length+1]?=some (Am 202):=by rw[Bm,Br (by omega),show l.length+1-l.length=1 by omega];rfl
 have u1:(((UInt8.toNat 201:Nat):Int)==201)=true:=rfl;have u2:(((UInt8.toNat 202:Nat):Int)==202)=true:=rfl;refine Ev.ofE Tryz.func31 rfl ?_;simp only[Tryz.f31,Ry,e1,Af,Nat.reduceAdd,Nat.reduceSub,Nat.reduceLT,Nat.reduceLeDiff,Nat.reduceEqDiff,reduceCtorEq];refine⟨BL _,Ao.pure (Ag.intro c73 rfl hs ?_)⟩;simp only[Ry,e2,c0,c1,Am,u1,u2,Af,Nat.reduceLT,Nat.reduceEqDiff,reduceCtorEq]
 all_goals first|done|(refine⟨by omega,?_⟩;first|done|rfl|omega|trace_state)|trace_state
theorem XH(b:Bool):Ev Tp γ 73 [.sl b 0 2 (([]++[201,202]:List UInt8).map Am),.v (.slice none 0 0)] (.v (.bool true)):=by
 have d0:(((0:Nat):Int) != ((0:Nat):Int))=false:=rfl;have d1:(((0:Nat):Int) != 0)=false:=rfl;have d2:decide (((0:Nat):Int)<((0:Nat):Int))=false:=rfl;have d3:decide ((0:Int)<((0:Nat):Int))=false:=rfl;have d4:decide (0<0)=false:=rfl;refine Ev.ofE Tryz.func73 rfl ?_;simp only[Tryz.f73,Ry,d1,Af,Nat.reduceAdd,Nat.reduceSub,Nat.reduceLT,Nat.reduceEqDiff,reduceCtorEq];refine Cp.intro (oP γ (.sl b 0 2 (([]++[201,202]:List UInt8).map Am)) (.v (.slice none 0 0))) (fun k=>k=0) (fun k=>0) 0 ⟨rfl,rfl,⟨rfl,rfl,rfl,trivial⟩,rfl⟩ rfl (fun k hk=>?_);subst hk;simp only[oP,Ry,Af,Nat.reduceLT,Nat.reduceEqDiff,reduceCtorEq]
theorem Wr(b:Bool):
  Ev Tp γ 31 [.sl b 0 2 (([]++[201,202]:List UInt8).map Am),.v (.slice none 0 0)] (.v (.bool true)):=by
 have hs:=XH (γ:=γ) b;have u1:(((UInt8.toNat 201:Nat):Int)==201)=true:=rfl;have u2:(((UInt8.toNat 202:Nat):Int)==202)=true:=rfl;have w2:IntKind.i64.wrap (((0:Nat):Int)+2)=2:=rfl;have w1:IntKind.i64.wrap (((0:Nat):Int)+1)=1:=rfl;refine Ev.ofE Tryz.func31 rfl ?_;simp only[Tryz.f31,Ry,w2,Af,Nat.reduceAdd,Nat.reduceSub,Nat.reduceLT,Nat.reduceLeDiff,Nat.reduceEqDiff,reduceCtorEq,Int.reduceToNat,Int.reduceLE];refine Ao.pure (Ag.intro c73 rfl hs ?_);simp only[Ry,w1,Am,u1,u2,Af,Nat.reduceAdd,Nat.reduceLT,Nat.reduceLeDiff,Nat.reduceEqDiff,reduceCtorEq,Int.reduceToNat,Int.reduceLE]
 all_goals first|done|decide|trace_state
def Tw(h:List Aa)(l:List UInt8)(o:Out)(h':List Aa):Prop:=Fr BR h h'∧∃ j ver,h.length≤j∧o=.ret (.own j ver l.length)∧h'[j]?=some ⟨ver,5,(l++[201,202]).map Am⟩
theorem Y0(b:Bool)(l:List UInt8)(hl:l.length≤140737488351232)(h:List Aa):
  Ck Tp γ 29 [.sl b l.length l.length (l.map Am)] h (Tw h l):=by
 unfold Tw;refine Ck.of Tryz.func29 rfl ?_;have b5:Gx Tp 5=some 1:=by kernel_rfl
 have z5:Ev.zeroT Tp 5=some (.int .u8 0):=by kernel_rfl
 have zc:zeroCells (.int .u8 0)=[.v (.int .u8 0)]:=rfl;have w0:IntKind.i64.wrap (((0:Nat):Int)+2)=2:=rfl;have s1:∀ (x:Aa) l,(h++x::l)[h.length]?=some x:=fun x l=>by simp
 by_cases h0:l=[]
 ·subst h0;simp only[Tryz.f29,b5,z5,zc,w0,Ry,Ap,B1,CV,Bp,Nat.zero_add,List.take_zero,Bo,Bc,Bi,Af,Nat.reduceAdd,Nat.reduceSub,Nat.reduceLT,Nat.reduceLeDiff,Nat.reduceEqDiff,reduceCtorEq,List.reduceReplicate,Int.reduceToNat,Int.reduceLE,Int.reduceLT]
  (repeat' (first|(with_reducible refine aI ?_ ?_)|(first|(first|refine gF ?_ ?_|refine gT ?_ ?_|refine cI ?_ ?_|refine pI ?_ ?_)<;>intro h|(refine dI ?_;have h:=trivial))<;>simp only[h,b5,z5,zc,w0,AH,SB,Ry,Ap,B1,CV,Er,List.length_singleton,Bp,Nat.zero_add,List.take_zero,Bo,Bc,Bi,Af,A7,Bv,Bf,Nat.reduceAdd,Nat.reduceSub,Nat.reduceMul,Nat.reduceLT,Nat.reduceLeDiff,Nat.reduceEqDiff,reduceCtorEq,List.reduceReplicate,Int.reduceToNat,Int.reduceLE,Int.reduceLT]))
  all_goals first|omega|(simp;done)|exact Fr.app (S:=BR) _ _|exact EO _|exact⟨h.length,_,BL _,rfl,s1 _ _⟩|exact⟨h.length,_,BL _,rfl,by rw[List.map_append];exact s1 _ _⟩|trace_state
 ·have h1:l.length≠0:=by simpa using h0
  have e1:IntKind.i64.wrap ((l.length:Int)+2)=((l.length+2:Nat):Int):=by rw[A4]<;>omega
  simp only[Tryz.f29,b5,z5,zc,Ry,e1,Ap,B1,CV,Bp,Nat.zero_add,List.take_zero,Bo,Bc,Bi,Af,Nat.reduceAdd,Nat.reduceSub,Nat.reduceLT,Nat.reduceLeDiff,Nat.reduceEqDiff,reduceCtorEq,List.reduceReplicate,Int.reduceLE]
  (repeat' (first|(with_reducible refine aI ?_ ?_)|(first|(first|refine gF ?_ ?_|refine gT ?_ ?_|refine cI ?_ ?_|refine pI ?_ ?_)<;>intro h|(refine dI ?_;have h:=trivial))<;>simp only[h,b5,z5,zc,w0,AH,SB,Ry,Ap,B1,CV,Er,List.length_singleton,Bp,Nat.zero_add,List.take_zero,Bo,Bc,Bi,Af,A7,Bv,Bf,Nat.reduceAdd,Nat.reduceSub,Nat.reduceMul,Nat.reduceLT,Nat.reduceLeDiff,Nat.reduceEqDiff,reduceCtorEq,List.reduceReplicate,Int.reduceToNat,Int.reduceLE,Int.reduceLT]))
  all_goals first|omega|(simp;done)|exact Fr.app (S:=BR) _ _|exact EO _|exact⟨h.length,_,BL _,rfl,s1 _ _⟩|exact⟨h.length,_,BL _,rfl,by rw[List.map_append];exact s1 _ _⟩|trace_state
theorem Xh(h:List Aa):Ck Tp γ 29 [.v (.slice none 0 0)] h (Tw h []):=by
 unfold Tw;refine Ck.of Tryz.func29 rfl ?_;have b5:Gx Tp 5=some 1:=by kernel_rfl
 have z5:Ev.zeroT Tp 5=some (.int .u8 0):=by kernel_rfl
 have zc:zeroCells (.int .u8 0)=[.v (.int .u8 0)]:=rfl;have w0:IntKind.i64.wrap ((0:Int)+2)=2:=rfl;have s1:∀ (x:Aa) l,(h++x::l)[h.length]?=some x:=fun x l=>by simp
 simp only[Tryz.f29,b5,z5,zc,w0,Ry,Ap,B1,CV,Bp,Nat.zero_add,List.take_zero,Bo,Bc,Bi,Af,Nat.reduceAdd,Nat.reduceSub,Nat.reduceLT,Nat.reduceLeDiff,Nat.reduceEqDiff,reduceCtorEq,List.reduceReplicate,Int.reduceToNat,Int.reduceLE,Int.reduceLT]
 (repeat' (first|(with_reducible refine aI ?_ ?_)|(first|(first|refine gF ?_ ?_|refine gT ?_ ?_|refine cI ?_ ?_|refine pI ?_ ?_)<;>intro h|(refine dI ?_;have h:=trivial))<;>simp only[h,b5,z5,zc,w0,AH,SB,Ry,Ap,B1,CV,Er,List.length_singleton,Bp,Nat.zero_add,List.take_zero,Bo,Bc,Bi,Af,A7,Bv,Bf,Nat.reduceAdd,Nat.reduceSub,Nat.reduceMul,Nat.reduceLT,Nat.reduceLeDiff,Nat.reduceEqDiff,reduceCtorEq,List.reduceReplicate,Int.reduceToNat,Int.reduceLE,Int.reduceLT]))
 all_goals first|omega|(simp;done)|exact Fr.app (S:=BR) _ _|exact EO _|exact⟨h.length,_,BL _,rfl,s1 _ _⟩|exact⟨h.length,_,BL _,rfl,by rw[List.map_append];exact s1 _ _⟩|trace_state
theorem nT{P:Program}{H:List Aa}{i n m:Nat}{k:Aa}{ys zs zs':List AV}(h:H[i]?=some k)(hp:ys<+:k.cells)(hm:n≤m)(hc:m=n∨(0<P.cellsOf k.e∧m * P.cellsOf k.e≤k.cells.length))(hv:∀ y∈ys,∃ v,y=AV.v v)(hz:Fe P H true zs zs'):Fe P H true (.sl true n m ys::zs) (.own i k.ver n::zs'):=by
 simp only[Fe];refine⟨_,_,rfl,?_,hz⟩;simp only[fz];exact .inr ⟨trivial,i,k,ys,rfl,h,hm,hc,hp,MG P H true ys hv⟩
theorem nZ{P:Program}{H:List Aa}{b:Bool}{n m:Nat}{ys:List AV}:Fe P H true [.sl b n m ys] [.sl b n m ys]:=by
 simp only[Fe];exact⟨_,_,rfl,by simp only[fz];exact .inl trivial,rfl⟩
theorem MS:∀ xs ys:List AV,AO (xs++ys)=(AO xs&&AO ys)
 |[],ys=>by simp only[Bi,AO,Bool.true_and]
 |x::xs,ys=>by simp only[Bc,AO,MS xs ys,Bool.and_assoc]
theorem EU{n:Nat}{cs:List AV}(h:AO cs=true):CH (IP n cs)=true:=by
 cases n with
 |zero=>rfl
 |succ n=>simp only[IP,CH,Bf,Bool.true_and];exact h
theorem ES{α:Type}{f:α→List AV}(hf:∀ x,AO (f x)=true):∀ l:List α,AO (l.flatMap f)=true
 |[]=>by simp only[List.flatMap_nil,AO]
 |x::l=>by rw[BE,MS,hf x,ES hf l];rfl
theorem Hf{α:Type}{f:α→AV}(hf:∀ x,CH (f x)=true):∀ l:List α,AO (l.map f)=true
 |[]=>by simp only[List.map_nil,AO]
 |x::l=>by rw[BA];simp only[AO,hf x,Hf hf l,Bool.and_self]
theorem U5(l:List (List UInt8)):CH (GZ l)=true:=EU (Hf (fun _=>rfl) l)
theorem bJ(c:Ch):AO c.cells=true:=by
 simp only[Ch.cells,AO,Ae,Je,Ib,JV,EU (ES (f:=Pt.cells) (fun p=>by simp only[Pt.cells,AO,Ae,CH,U5,Bool.and_self]) c.parts),EU (ES (f:=Ac.cells) (fun a=>by simp only[Ac.cells,AO,Ae,AA,CH,Je,E3,EU (Hf Je a.args),Bool.and_self]) c.body),CH,Bool.and_self]
theorem Ye(c:Tg):AO c.cells=true:=by
 simp only[Tg.cells,AO,Ae,Ml,EU (Hf (f:=AA) (fun _=>rfl) c.types),CH,Bool.and_self]
theorem ZA(c:Kd):AO c.cells=true:=by
 simp only[Kd.cells,AO,Ae,GN,EU (ES (f:=Ch.cells) bJ c.chords),CH,Bool.and_self]
theorem R7(l:List UInt8):CH (Kt l)=true:=by
 simp only[Kt,CH,AO,Pg.av,Pg.cells,AA,Hp,EJ,EU (ES (f:=Tg.cells) Ye (D5 l).1.tags),EU (ES (f:=Kd.cells) ZA (D5 l).1.kinds),Bool.and_self]
theorem KP(hγ:Gl γ)(hγ2:TI γ)(x:AV)(l:List UInt8)(hl:l.length≤140737488351232)(ht:A0 [x]=true)(hf:∀ H,Fe Tp H true [x] [x])(hq:Ev Tp γ 37 [x] (It l))(hx:∀ h,Ck Tp γ 29 [x] h (Tw h l))(hk:Ev Tp γ 31 [.sl true l.length (l.length+2) ((l++[201,202]).map Am),x] (.v (.bool true))):Ev Tp γ 7 [x] (.v (.bool true)):=by
 have ok:=WY l;have hnb:=R7 l;have hce:=Y8 (γ:=γ) (D5 l).1 ok;have hpe:=Xl hγ hγ2 true l hl;have hq:Ev Tp γ 37 [x] (Kt l):=hq;have p1:∀ l,Cl (Hp l)=true∧flat (Hp l)=some [Hp l]:=fun l=>by cases l<;>exact⟨rfl,rfl⟩
 have p2:∀ l,Cl (EJ l)=true∧flat (EJ l)=some [EJ l]:=fun l=>by cases l<;>exact⟨rfl,rfl⟩
 refine Ev.ofE Tryz.func7 rfl ?_;simp only[Tryz.f7,Af,seval];refine Ao.pure (Ag.intro c37 ht hq ?_);simp only[Kt,Pg.av,Pg.cells,AA]at hnb hce hpe⊢;generalize D5 l=C at *;obtain⟨⟨tg,kd⟩,pl,er⟩:=C;simp only at ok hce hnb hpe⊢;obtain⟨o1,g1⟩:=p1 tg;obtain⟨o2,g2⟩:=p2 kd;have htr:A0 [.agg [Hp tg,EJ kd],.agg [Hp tg,EJ kd]]=true:=by cases tg<;>cases kd<;>rfl
 generalize Hp tg=A1 at *;generalize EJ kd=A2 at *;clear ok p1 p2;simp only[AH,o1,o2,Af,seval];refine Ao.intro c29 _ (hx _) (fun r h1 hh=>?_) (fun v h1 hh=>by obtain⟨_,_,_,_,e,_⟩:=hh;cases e);obtain⟨f1,j,ver,hj1,e,hj⟩:=hh;cases e;have k0:h1[0]?=some ⟨0,71,[A1,A2]⟩:=f1.at rfl fun e=>e
 have hpre:l.map Am<+:(l++[201,202]).map Am:=by rw[List.map_append];exact List.prefix_append _ _
 have hjl:j<h1.length:=(Bs.1 hj).1;have gj:∀ l',(h1++l')[j]?=some ⟨ver,5,(l++[201,202]).map Am⟩:=fun l'=>(Ba hjl).trans hj
 have e0:(er==er)=true:=by simp
 have e1:(pl==pl)=true:=by simp
 simp only[Af,seval];refine Ao.pure (Ag.lend c38 _ (Pa hj hpre (MH l)) hpe hnb ?_);simp only[AH,o1,o2,Ap,CV,Af,seval];refine Ao.pure (Ag.lend c31 _ (nT (m:=l.length+2) (gj _) BB (by omega) (.inr ⟨by rw[y5];decide,by rw[y5];simp⟩) (MH _) (hf _)) hk rfl ?_);simp only[Af,Bv,seval];refine Ao.intro cW _ (gM (gj _) (by simp) (fun y hy=>by obtain⟨z,_,rfl⟩:=List.mem_map.1 hy;exact⟨_,rfl⟩) (by omega)) (fun r h2 hh=>?_) (fun v h2 hh=>by cases hh.1);obtain⟨e,f2⟩:=hh;cases e;have f2:Fr (AU j) (h1++[⟨0,71,[A1,A2]⟩]) h2:=f2;have hj1:1≤j:=hj1;have k1:h2[h1.length]?=some ⟨0,71,[A1,A2]⟩:=f2.at (Ap _ _ _) fun e=>by have e:h1.length=j:=e;omega
 have k2:h2[0]?=some ⟨0,71,[A1,A2]⟩:=f2.at ((Ba (by omega)).trans k0) fun e=>by have e:0=j:=e;omega
 simp only[Af,seval];refine Ao.pure (Ag.intro c33 rfl (dP er) ?_);simp only[AH,k1,k2,e0,e1,Af,seval];refine Ao.pure (Ag.intro c39 htr hce ?_);simp only[Af,seval]
end Go.Proofs.YtlobiioioicmhaaGreatDoor
