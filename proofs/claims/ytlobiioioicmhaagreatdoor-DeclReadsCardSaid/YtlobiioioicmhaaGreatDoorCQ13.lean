/- A part of the proof. -/
import Derived.Test.YtlobiioioicmhaaGreatDoorCQ12
set_option linter.all false
set_option maxHeartbeats 8000000
namespace Go.Proofs.YtlobiioioicmhaaGreatDoor
open _root_.Bool renaming not_true→Bv,not_false→Bf
open _root_.List renaming getElem?_eq_some_iff→Bs,getElem?_append_left→Ba,getElem?_set_self→Be,getElem?_set_ne→Bn,length_set→Bl,length_append→Bp,append_assoc→Bo,cons_append→Bc,nil_append→Bi,getElem?_cons_zero→Bz,getElem?_cons_succ→Bu,getElem?_eq_none→Bq,set_append_left→Bg,take_of_length_le→Bt,flatMap_cons→BE,mem_cons→BI,getElem?_toArray→BU,set_append_right→BV
open _root_.Nat renaming le_trans→BM,zero_le→BN,lt_of_lt_of_le→BO
open Go.Proofs.Tryz renaming prog→Tp
open Go Go.Ev
set_option maxRecDepth 20000
variable {γ:List (Nat×AV)} {ts:List Tk} {L:AV}
theorem Cn:AX Tp 47=some false∧
  AX Tp 57=some false∧
  Az Tp 128=some 9∧
  Az Tp 47=some 54∧
  Al Tp 123 0=some (0,47)∧
  Al Tp 123 1=some (1,3)∧
  Al Tp 123 2=some (2,3)∧
  Al Tp 123 3=some (3,3)∧
  Al Tp 123 4=some (4,3)∧
  Al Tp 135 0=some (0,3)∧
  Al Tp 135 1=some (1,41)∧
  Al Tp 54 0=some (0,3)∧
  Al Tp 54 1=some (1,9)∧
  Al Tp 54 4=some (4,3)∧
  BW Tp 123=some [(0,1),(1,1),(2,1),(3,1),(4,1)]∧
  BW Tp 41=some [(0,1)]∧
  BW Tp 71=some [(0,1),(1,1)]∧
  Aq Tp 47=some 1∧
  Aq Tp 54=some 6∧
  Hw Tp 123=some [.v (.slice none 0 0),.v (.int .i64 0),.v (.int .i64 0),.v (.int .i64 0),.v (.int .i64 0)]:=
 (by and_intros<;>kernel_rfl)
structure Il(L:AV)(ts:List Tk):Prop where
 l:EV L ts
 ok:∀ t∈ts,QF t
 n:ts.length≤2000000
theorem Il.len(E:Il L ts)(s:List Aa):CE Tp 47 s L=some (.v (.int .i64 ts.length)):=by
 have e24:Az Tp 47=some 54:=by kernel_rfl
 rcases E.l with⟨rfl,rfl⟩|⟨b,m,cs,rfl,_⟩
 ·simp only[CE,e24];rfl
 ·simp only[CE,e24];rfl
theorem Il.sl(E:Il L ts){p:Nat}(hp:p<ts.length):∃ b m cs,L=.sl b ts.length m cs∧C3 ts<+:cs:=by
 rcases E.l with⟨rfl,rfl⟩|⟨b,m,cs,h,h1⟩
 ·exact absurd hp (by simp)
 ·exact⟨b,m,cs,h,h1⟩
def Ek:Option (Int×Int)→Int
 |none=>0
 |some b=>b.1
def inQ:Option (Int×Int)→Int
 |none=>0
 |some b=>b.2
def cQ(L:AV)(n:Nat)(S:S8):List AV:=[L,.v (.int .i64 (S.1:Int)),.v (.int .i64 (n:Int)),.v (.int .i64 (Ek S.2)),.v (.int .i64 (inQ S.2))]
def EF(ts:List Tk)(S:S8):Prop:=S.1≤ts.length∧∀ b,S.2=some b→b.1≠0
def RQ(ts:List Tk)(h:List Aa)(i:Nat)(L:AV)(n:Nat)(S:S8):Prop:=h[i]?=some ⟨0,123,cQ L n S⟩∧EF ts S
theorem RQ.lt{h:List Aa}{i n:Nat}{S:S8}(a:RQ ts h i L n S):i<h.length:=(Bs.1 a.1).1
theorem RQ.fr{F:Nat→Prop}{h h1:List Aa}{i n:Nat}{S:S8}(a:RQ ts h i L n S)(f:Fr F h h1)(hS:¬F i):RQ ts h1 i L n S:=⟨f.at a.1 hS,a.2⟩
theorem RQ.app{h:List Aa}{i n:Nat}{S:S8}(a:RQ ts h i L n S)(l:List Aa):RQ ts (h++l) i L n S:=a.fr (Fr.app (S:=BR) h l) fun h=>h
theorem EF.bad{S:S8}(a:EF ts S):(Ek S.2==0)=S.2.isNone:=by
 obtain⟨p,b⟩:=S;cases b with
 |none=>rfl
 |some b=>have:=a.2 b rfl;simpa[Ek]using this
theorem EF.bad2{S:S8}(a:EF ts S):(Ek S.2 != 0)=S.2.isSome:=by
 have:=a.bad;rw[bne,this];cases S.2<;>rfl
theorem c134:Ak Tp 134:=⟨_,Tryz.func134,by kernel_rfl,by kernel_rfl⟩
theorem R3:Ak Tp 77:=⟨_,Tryz.func77,by kernel_rfl,by kernel_rfl⟩
theorem OG:Ak Tp 79:=⟨_,Tryz.func79,by kernel_rfl,by kernel_rfl⟩
theorem c70:Ak Tp 70:=⟨_,Tryz.func70,by kernel_rfl,by kernel_rfl⟩
theorem c125:Ak Tp 125:=⟨_,Tryz.func125,by kernel_rfl,by kernel_rfl⟩
theorem lG(E:Il L ts){h:List Aa}{i n:Nat}{S:S8}(hr:RQ ts h i L n S)(s:List UInt8):
  Ck Tp γ 134 [.ptr i 0 0,.v (.string ⟨s.toArray⟩)] h fun o h'=>o=.ret (.v (.bool (HD ts s S)))∧h'=h:=by
 obtain⟨hi,hS⟩:=hr;obtain⟨p,bd⟩:=S;have ll:=E.len;have hbd:=hS.bad;refine Ck.of Tryz.func134 rfl ?_;cases bd with
 |some b=>
  have hQ:HD ts s (p,some b)=false:=Gi;have hb:(Ek (some b)==0)=false:=hbd;rw[hQ];simp only[Tryz.f134,Af,seval];refine dI ?_;simp only[Cn,hi,cQ,hb,Af,A7,seval]
 |none=>
  have hb:(Ek none==0)=true:=rfl;rw[CN]
  by_cases hlt:p<ts.length
  ·obtain⟨b,m,cs,rfl,hcs⟩:=E.sl hlt;obtain⟨t,ht⟩:∃ t,ts[p]?=some t:=⟨ts[p],by simp[hlt]⟩;have h6l:=EV.len hcs hlt;have h0:cs[p * 6]?=some (.v (.int .i64 t.kind)):=EV.cell (b:=b) hcs ht (k:=0) (by decide);have h1:cs[p * 6+1]?=_:=EV.cell (b:=b) hcs ht (k:=1) (by decide);have d1:decide (p<ts.length)=true:=decide_eq_true hlt
   have hB:HP ts p s=((t.kind==1 || t.kind==5)&&t.text==s):=by
    unfold HP;rw[ht,Bool.eq_iff_iff];simp only[decide_eq_true_eq,Bool.and_eq_true,Bool.or_eq_true,beq_iff_eq]
    constructor
    ·rintro⟨h,h2⟩;exact⟨h.symm,h2⟩
    ·rintro⟨h,h2⟩;exact⟨h.symm,h2⟩
   rw[hB];simp only[Tryz.f134,Af,seval];refine dI ?_;cases k1:t.kind==1 with
   |true=>
    simp only[Cn,hi,cQ,ll,hb,d1,h0,h1,k1,Tk.cells,Af,A7,seval];exact hlt
   |false=>
    cases k5:t.kind==5 with
    |true=>
     simp only[Cn,hi,cQ,ll,hb,d1,h0,h1,k1,k5,Tk.cells,Af,A7,seval];exact hlt
    |false=>
     simp only[Cn,hi,cQ,ll,hb,d1,h0,k1,k5,Af,A7,seval];exact⟨hlt,hlt,rfl⟩
  ·have d1:decide (p<ts.length)=false:=decide_eq_false hlt;have hB:HP ts p s=false:=by unfold HP;rw[Bq (by omega)]
   rw[hB];simp only[Tryz.f134,Af,seval];refine dI ?_;simp only[Cn,hi,cQ,ll,hb,d1,Af,A7,seval]
theorem Xs(E:Il L ts){h:List Aa}{i n:Nat}{S:S8}(hr:RQ ts h i L n S)(q:Nat):
  Ck Tp γ 125 [.ptr i 0 0,.v (.int .i64 (q:Int))] h fun o h'=>o=.ret (.v (.int .i64 (IJ ts n q)))∧h'=h:=by
 obtain⟨hi,hS⟩:=hr;have ll:=E.len;refine Ck.of Tryz.func125 rfl ?_
 by_cases hlt:q<ts.length
 ·obtain⟨b,m,cs,rfl,hcs⟩:=E.sl hlt;obtain⟨t,ht⟩:∃ t,ts[q]?=some t:=⟨ts[q],by simp[hlt]⟩;have h6l:=EV.len hcs hlt;have h4:cs[q * 6+4]?=_:=EV.cell (b:=b) hcs ht (k:=4) (by decide);have d1:decide (q<ts.length)=true:=decide_eq_true hlt;have hP:IJ ts n q=t.pos:=by unfold IJ;rw[ht]
  rw[hP];simp only[Tryz.f125,Cn,hi,cQ,ll,d1,h4,Tk.cells,Af,A7,seval];exact hlt
 ·have d1:decide (q<ts.length)=false:=decide_eq_false hlt;have hP:IJ ts n q=n:=by unfold IJ;rw[Bq (by omega)]
  rw[hP];simp only[Tryz.f125,Cn,hi,cQ,ll,d1,Af,A7,seval]
theorem IW(E:Il L ts){h:List Aa}{i n:Nat}{S:S8}(hr:RQ ts h i L n S)(q:Nat)(e:Int)(he:e≠0):
  Ck Tp γ 70 [.ptr i 0 0,.v (.int .i64 (q:Int)),.v (.int .i64 e)] h fun o h'=>o=.ret (.tup [])∧Fr (AU i) h h'∧RQ ts h' i L n (DZ ts n q e S):=by
 have hr0:=hr;obtain⟨hi,hS⟩:=hr;obtain⟨p,bd⟩:=S;have hbd:=hS.bad;have hl:=(Bs.1 hi).1;refine Ck.of Tryz.func70 rfl ?_;cases bd with
 |some b=>
  have hb:(Ek (some b)==0)=false:=hbd;simp only[Tryz.f70,Cn,hi,cQ,hb,Af,A7,seval];exact⟨Fr.refl _ _,hi,hS⟩
 |none=>
  have hb:(Ek none==0)=true:=rfl;have s3:∀ c,(h.set i c)[i]?=some c:=fun c=>Be hl
  simp only[Tryz.f70,Cn,hi,cQ,hb,Af,A7,seval];have hpl:Ck Tp γ 125 [.ptr i 0 0,.v (.int .i64 (q:Int))] (h.set i ⟨0,123,cQ L n (p,some (e,0))⟩) fun o h'=>o=.ret (.v (.int .i64 (IJ ts n q)))∧h'=_:=Xs E (S:=(p,some (e,0))) ⟨s3 _,hS.1,fun b hb=>by cases hb;exact he⟩ q
  refine Ao.intro c125 _ hpl (fun r h1 hh=>?_) (fun v h1 hh=>by cases hh.1);obtain⟨eo,rfl⟩:=hh;cases eo;simp only[Cn,s3,cQ,Af,A7,seval];rw[List.set_set];exact⟨Fr.set _ rfl,Be hl,hS.1,fun b hb=>by cases hb;exact he⟩
def Nn(ts:List Tk)(n:Nat)(L:AV)(i:Nat)(h:List Aa)(v:AV)(S:S8)(o:Out)(h':List Aa):Prop:=o=.ret v∧Fr (AU i) h h'∧RQ ts h' i L n S
theorem B9{F:AV→St→Prop}{g:FuncId}{xs:List AV}{d:Option Tmp}{K:St→Prop}{s:St}{i n:Nat}{S:S8}{v:AV}(c:Ak Tp g)(he:Ck Tp s.s.g g xs s.h (Nn ts n L i s.h v S))
  (k:∀ h1,Fr (AU i) s.h h1→RQ ts h1 i L n S→K (pt ⟨s.s,h1⟩ d v)):Ao Tp F g xs d K s:=by
 refine Ao.intro c _ he (fun a h1 hh=>?_) (fun v h1 hh=>by cases hh.1);obtain⟨e,f,r⟩:=hh;cases e;exact k h1 f r
def AB(ts:List Tk)(s:List UInt8)(S:S8):S8:=if HD ts s S=true then (S.1+1,none)else S
theorem Ed{s:List UInt8}{S:S8}(h:HD ts s S=true):S.1<ts.length∧S.2=none:=by
 obtain⟨p,b⟩:=S;cases b with
 |some b=>rw[Gi]at h;cases h
 |none=>rw[CN]at h;exact⟨CJ h,rfl⟩
theorem C4(E:Il L ts){h:List Aa}{i n:Nat}{S:S8}(hr:RQ ts h i L n S)(s:List UInt8):
  Ck Tp γ 77 [.ptr i 0 0,.v (.string ⟨s.toArray⟩)] h (Nn ts n L i h (.v (.bool (HD ts s S))) (AB ts s S)):=by
 have hr0:=hr;obtain⟨hi,hS⟩:=hr;refine Ck.of Tryz.func77 rfl ?_;simp only[Tryz.f77,Af,seval];refine Ao.intro c134 _ (lG E hr0 s) (fun r h1 hh=>?_) (fun v h1 hh=>by cases hh.1);obtain⟨e,rfl⟩:=hh;cases e;cases hB:HD ts s S with
 |true=>
  obtain⟨hlt,hb⟩:=Ed hB;have hT:AB ts s S=(S.1+1,none):=by unfold AB;rw[if_pos hB]
  have hn:=E.n;have w1:IntKind.i64.wrap ((S.1:Int)+1)=((S.1+1:Nat):Int):=(A4 (by omega) (by omega)).trans (by omega);rw[hT];simp only[Cn,hi,cQ,w1,Af,A7,Bv,seval];refine⟨rfl,Fr.set _ rfl,?_,hlt,fun b hb=>by cases hb⟩;rw[hb];exact Be hr0.lt
 |false=>
  have hT:AB ts s S=S:=by unfold AB;rw[if_neg (by rw[hB];decide)]
  rw[hT];simp only[Af,Bf,seval];exact⟨rfl,Fr.refl _ _,hr0⟩
theorem Cq(E:Il L ts){h:List Aa}{i n:Nat}{S:S8}(hr:RQ ts h i L n S)(s:List UInt8):
  Ck Tp γ 79 [.ptr i 0 0,.v (.string ⟨s.toArray⟩)] h (Nn ts n L i h (.tup []) (Av ts n s S)):=by
 refine Ck.of Tryz.func79 rfl ?_;simp only[Tryz.f79,Af,seval];refine B9 R3 (C4 E hr s) (fun h1 f1 r1=>?_);unfold Av;cases hB:HD ts s S with
 |true=>
  have hT:AB ts s S=(S.1+1,none):=by unfold AB;rw[if_pos hB]
  rw[hT]at r1;rw[if_pos rfl];simp only[Af,Bv,seval];exact⟨rfl,f1,r1⟩
 |false=>
  have hT:AB ts s S=S:=by unfold AB;rw[if_neg (by rw[hB];decide)]
  rw[hT]at r1;rw[if_neg (by decide)];have r1':=r1.1;simp only[Cn,r1',cQ,Af,A7,Bf,seval];refine Ao.intro c70 _ (IW E r1 S.1 80 (by decide)) (fun r h2 hh=>?_) (fun v h1 hh=>by cases hh.1);obtain⟨e,f2,r2⟩:=hh;cases e;simp only[Af,seval];exact⟨rfl,f1.trans f2 fun k e=>.inl e,r2⟩
theorem nF:Ak Tp 35:=⟨_,Tryz.func35,by kernel_rfl,by kernel_rfl⟩
theorem j6(s:List UInt8):VL s=(s==[116,97,103] || (s==[107,105,110,100] || (s==[99,104,111,114,100] || (s==[119,104,101,110] || (s==[115,101,110,100] || (s==[115,112,97,119,110] || (s==[97,115] || (s==[114,101,112,108,121] || s==[98,101,99,111,109,101])))))))):=by
 rw[Bool.eq_iff_iff];simp only[VL,jA,Rf,IH,Hd,Li,KC,I1,ZX,Iu,GC,decide_eq_true_eq,BI,List.not_mem_nil,or_false,Bool.or_eq_true,beq_iff_eq]
theorem Vl(s:List UInt8):Ev Tp γ 35 [.v (.string ⟨s.toArray⟩)] (.v (.bool (VL s))):=by
 refine Ev.of Tryz.func35 rfl ?_;rw[j6];simp only[Tryz.f35,Af,seval]
 (repeat' (first|(with_reducible refine aI ?_ ?_)|(first|(first|refine gF ?_ ?_|refine gT ?_ ?_|refine cI ?_ ?_|refine pI ?_ ?_)<;>intro h|(refine dI ?_;have h:=trivial))<;>simp only[h,Af,A7,Bv,Bf,seval]))
 all_goals (try (simp only[*,Bool.true_or,Bool.or_true,Bool.or_false,Bool.false_or];done))
 all_goals trace_state
def nX(x:List UInt8)(a:AV)(_:List Aa):Prop:=a=Ae x
theorem KF(E:FC γ L ts){h:List Aa}{i p n:Nat}(hp:p≤ts.length)(hr:RD h i L p n):
  Ck Tp γ 129 [.ptr i 0 0] h (E9 ts n L i h nX (Eg ts p)):=by
 have hi:h[i]?=_:=hr;have ll:=E.len;refine Ck.of Tryz.func129 rfl ?_
 by_cases hlt:p<ts.length
 ·obtain⟨b,m,cs,rfl,hcs⟩:=E.sl hlt;obtain⟨t,ht⟩:∃ t,ts[p]?=some t:=⟨ts[p],by simp[hlt]⟩;have h6l:=EV.len hcs hlt;have h0:cs[p * 6]?=some (.v (.int .i64 t.kind)):=EV.cell (b:=b) hcs ht (k:=0) (by decide);have h1:cs[p * 6+1]?=_:=EV.cell (b:=b) hcs ht (k:=1) (by decide);have d1:((p:Int)==(ts.length:Int))=false:=by simp only[beq_eq_false_iff_ne,ne_eq];omega
  have hW:Eg ts p=if t.kind=1∧VL t.text=false then .ok t.text (p+1)else .bad p 80:=by unfold Eg;rw[ht]
  rw[hW]
  by_cases hk:t.kind=1
  ·have dk:(t.kind != 1)=false:=by simp[hk]
   have dk2:(t.kind==1)=true:=by simp[hk]
   simp only[Tryz.f129,Af,seval];refine dI ?_;simp only[AH,hi,ll,d1,h0,h1,dk,Tk.cells,Af,A7,seval];refine⟨hlt,hlt,Ag.intro nF rfl (Vl _) ?_⟩;cases hB:VL t.text with
   |true=>
    rw[if_neg (fun h=>by cases h.2)];simp only[Af,seval];refine Ao.intro c127 _ (EE E hr 80) (fun r h2 hh=>by cases hh.1) (fun v h2 hh=>?_);obtain⟨e,rfl⟩:=hh;cases e;exact⟨Fr.refl _ _,rfl⟩
   |false=>
    rw[if_pos ⟨hk,rfl⟩];have hn:=E.n;have w1:IntKind.i64.wrap ((p:Int)+1)=((p+1:Nat):Int):=(A4 (by omega) (by omega)).trans (by omega);have w2:IntKind.i64.wrap (((p+1:Nat):Int)-1)=(p:Int):=(A4 (by omega) (by omega)).trans (by omega);have s3:∀ b,(h.set i b)[i]?=some b:=fun b=>Be hr.lt
    simp only[AH,hi,w1,Af,A7,seval];refine dI ?_;simp only[AH,s3,w2,h1,Tk.cells,Af,A7,seval];exact⟨hlt,Fr.set _ rfl,_,rfl,hr.set (p+1),rfl⟩
  ·have dk:(t.kind != 1)=true:=by simp[hk]
   have dk2:(t.kind==1)=false:=by simp[hk]
   rw[if_neg (fun h=>hk h.1)];simp only[Tryz.f129,Af,seval];refine dI ?_;simp only[AH,hi,ll,d1,h0,dk,Af,A7,seval];refine⟨hlt,Ao.intro c127 _ (EE E hr 80) (fun r h2 hh=>by cases hh.1) (fun v h2 hh=>?_)⟩;obtain⟨e,rfl⟩:=hh;cases e;exact⟨Fr.refl _ _,rfl⟩
 ·have d1:((p:Int)==(ts.length:Int))=true:=by simp only[beq_iff_eq];omega
  have hW:Eg ts p=.bad p 80:=by unfold Eg;rw[Bq (by omega)]
  rw[hW];simp only[Tryz.f129,Af,seval];refine dI ?_;simp only[AH,hi,ll,d1,Af,A7,seval];refine Ao.intro c127 _ (EE E hr 80) (fun r h2 hh=>by cases hh.1) (fun v h2 hh=>?_);obtain⟨e,rfl⟩:=hh;cases e;exact⟨Fr.refl _ _,rfl⟩
theorem CV(h:List Aa)(x:Aa)(l:List Aa)(c:Aa):(h++x::l).set h.length c=h++c::l:=by simp
theorem Er(h:List Aa)(x y:Aa)(l:List Aa)(c:Aa):(h++x::y::l).set (h.length+1) c=h++x::c::l:=by
 rw[BV _ _ (by omega),show h.length+1-h.length=1 by omega];rfl
theorem QH(h:List Aa)(i:Nat)(b x:Aa)(l:List Aa):(h.set i b++x::l)[h.length]?=some x:=by
 have:=Ap (h.set i b) x l
 rwa [Bl]at this
theorem Ce(h:List Aa)(i:Nat)(b x y:Aa)(l:List Aa):(h.set i b++x::y::l)[h.length+1]?=some y:=by
 have:=B1 (h.set i b) x y l
 rwa [Bl]at this
theorem TF(h:List Aa)(i:Nat)(b x:Aa)(l:List Aa)(c:Aa):(h.set i b++x::l).set h.length c=h.set i b++c::l:=by
 have:=CV (h.set i b) x l c
 rwa [Bl]at this
def nK(x:List Nd)(a:AV)(_:List Aa):Prop:=a=.agg [Ab x]
theorem mT:Ak Tp 132:=⟨_,Tryz.func132,by kernel_rfl,by kernel_rfl⟩
theorem Wv{L:AV}{ts:List Tk}(h:o4 L ts)(f:Int):A0 [L,.v (.int .i64 f)]=true:=by rcases h with⟨rfl,rfl⟩|⟨b,m,cs,rfl,_⟩<;>rfl
theorem Ts(E:FC γ L ts){h:List Aa}{i p n:Nat}(hp:p≤ts.length)(hr:RD h i L p n):
  Ck Tp γ 132 [.ptr i 0 0] h (E9 ts n L i h nK (FY ts p)):=by
 have hi:h[i]?=_:=hr;have ll:=E.len;obtain⟨a1,a2,a3⟩:=HW hp;have hn:=E.n;have hread:=Xm E.gl E.glw E.l E.ok E.n (p:Int);have g1:∀ l,(h++l)[i]?=_:=fun l=>hr.app l
 have s1:∀ (x:Aa) l,(h++x::l)[h.length]?=some x:=fun x l=>by simp
 have s2:∀ (x y:Aa) l,(h++x::y::l)[h.length+1]?=some y:=fun x y l=>by simp
 have one:∀ ns,Cl (Ab ns)=true:=fun ns=>by cases ns<;>rfl
 refine Ck.of Tryz.func132 rfl ?_;simp only[Tryz.f132,AH,Af,seval];refine dX ?_;simp only[AH,g1,Af,A7,seval];refine Ag.intro c26 (Wv E.l _) hread ?_;unfold Ph FY;generalize Cu ts (p:Int)=R at a1 a2 a3;obtain⟨ns,q,e⟩:=R;simp only at a1 a2 a3;obtain⟨q,rfl⟩:∃ q':Nat,q=q':=⟨q.toNat,by omega⟩;have s6:∀ l b,(h++l).set i b=h.set i b++l:=fun l b=>Bg _ _ hr.lt
 have s7:∀ b l,(h.set i b++l)[i]?=some b:=fun b l=>by rw[Ba (by rw[Bl];exact hr.lt)];exact Be hr.lt
 by_cases he:e=0
 ·have de:(e != 0)=false:=by simp[he]
  rw[if_pos he,Int.toNat_natCast];simp only[AH,g1,one,de,B1,Er,QH,Ce,TF,s6,Bo,Bc,Bi,Af,A7,seval];exact⟨Fr.trans (Fr.set _ rfl) (Fr.app (S:=BR) _ _) (fun k e=>e.elim),_,rfl,s7 _ _,rfl⟩
 ·have de:(e != 0)=true:=by simp[he]
  rw[if_neg he,Int.toNat_natCast];simp only[AH,one,de,B1,Er,Bo,Bc,Bi,Af,seval];refine Ao.intro mU _ (PF E (hr.app _) q) (fun r h2 hh=>?_) (fun v h2 hh=>by cases hh.1);obtain⟨e,rfl⟩:=hh;cases e;simp only[AH,Af,seval];exact⟨Fr.app _ _,rfl⟩
def Nc(S:Nat→Prop){α:Type}(ts:List Tk)(n:Nat)(L:AV)(i:Nat)(h:List Aa)(A:α→AV→List Aa→Prop)(r:DR α)(o:Out)(h':List Aa):Prop:=
 Fr S h h'∧match r with
 |.ok x q=>∃ a,o=.ret a∧RD h' i L q n∧A x a h'
 |.bad q e=>o=.pan (H9 (IJ ts n q) e)
theorem Nc.elim{S:Nat→Prop}{α:Type}{n i:Nat}{h:List Aa}{A:α→AV→List Aa→Prop}{r:DR α}{K:AV→List Aa→Prop}{E:AV→List Aa→Prop}
  (hok:∀ x q a h1,r=.ok x q→Fr S h h1→RD h1 i L q n→A x a h1→K a h1)
  (hbad:∀ q e h1,r=.bad q e→Fr S h h1→E (H9 (IJ ts n q) e) h1):(∀ a h1,Nc S ts n L i h A r (.ret a) h1→K a h1)∧(∀ v h1,Nc S ts n L i h A r (.pan v) h1→E v h1):=by
 constructor
 ·intro a h1 hh;cases r with
  |ok x q=>
   obtain⟨f,a',e,r1,hA⟩:=hh;cases e;exact hok x q _ h1 rfl f r1 hA
  |bad q e=>obtain⟨_,e⟩:=hh;cases e
 ·intro v h1 hh;cases r with
  |ok x q=>obtain⟨_,a',e,_⟩:=hh;cases e
  |bad q e=>
   obtain⟨f,e⟩:=hh;cases e;exact hbad q _ h1 rfl f
theorem V5{α:Type}{E:AV→St→Prop}{g:FuncId}{xs:List AV}{d:Option Tmp}{K:St→Prop}{s:St}{n i:Nat}{S:Nat→Prop}{A:α→AV→List Aa→Prop}{r:DR α}(c:Ak Tp g)
  (he:Ck Tp s.s.g g xs s.h (Nc S ts n L i s.h A r)) (hok:∀ x q a h1,r=.ok x q→Fr S s.h h1→RD h1 i L q n→A x a h1→K (pt ⟨s.s,h1⟩ d a))
  (hbad:∀ q e h1,r=.bad q e→Fr S s.h h1→E (H9 (IJ ts n q) e) ⟨s.s,h1⟩):Jo Tp E g xs d K s:=by
 obtain⟨k1,k2⟩:=Nc.elim (ts:=ts) (L:=L) (K:=fun a h1=>K (pt ⟨s.s,h1⟩ d a)) (E:=fun v h1=>E v ⟨s.s,h1⟩) hok hbad;exact Jo.intro c _ he k1 k2
theorem UZ{α:Type}{E:AV→St→Prop}{g:FuncId}{xs:List AV}{d:Option Tmp}{K:St→Prop}{s:St}{n i:Nat}{S:Nat→Prop}{A:α→AV→List Aa→Prop}{r:DR α}(c:Ak Tp g)
  (he:Ck Tp s.s.g g xs s.h (Nc S ts n L i s.h A r)) (hok:∀ x q a h1,r=.ok x q→Fr S s.h h1→RD h1 i L q n→A x a h1→K (pt ⟨s.s,h1⟩ d a))
  (hbad:∀ q e h1,r=.bad q e→Fr S s.h h1→E (H9 (IJ ts n q) e) ⟨s.s,h1⟩):Ao Tp E g xs d K s:=.inr (V5 c he hok hbad)
def IN(i b n0:Nat)(k:Nat):Prop:=k=i∨k=b∨n0≤k
theorem IN.i{i b n0:Nat}{h h':List Aa}(f:Fr (AU i) h h'):Fr (IN i b n0) h h':=f.mono fun k e=>.inl e
theorem j4:Ak Tp 200:=⟨_,Tryz.func200,by kernel_rfl,by kernel_rfl⟩
def lsS(γ:List (Nat×AV))(i:Nat)(C:AV)(y:Nat×List Aa):St:=⟨⟨17,[(0,.ptr i 0 0),(1,C)],γ⟩,y.2⟩
def LsA{α:Type}(Φ:List Aa→List α→Prop)(x:List α)(a:AV)(h:List Aa):Prop:=a=.tup []∧Φ h x
theorem Kx{α:Type}(E:FC γ L ts){I:Nat→DR α}(hI:∀ p,p≤ts.length→(I p).adv ts p 1){i b n n0:Nat}{Φ:List Aa→List α→Prop}{g:FuncId}{fs cs:List AV}(c:Ak Tp g)
  (hΦ:∀ h h1 xs,Φ h xs→Fr (AU i) h h1→Φ h1 xs)
  (hg:∀ h p xs,p≤ts.length→xs.length≤p→RD h i L p n→Φ h xs→Ck Tp γ g (fs++cs) h (Nc (IN i b n0) ts n L i h (fun x a h'=>a=.tup []∧Φ h' (xs++[x])) (I p)))
  {h:List Aa} {p:Nat} (hp:p≤ts.length) (hr:RD h i L p n) (h0:Φ h []) :
  Ck Tp γ 200 [.ptr i 0 0,.clo g fs cs] h (Nc (IN i b n0) ts n L i h (LsA Φ) (G2 ts I p)):=by
 refine Ck.of Tryz.func200 rfl ?_;simp only[Tryz.f200,Af,seval];refine Jw gK (K8 E hp hr [40]) (fun x p1 a h1 e f1 r1 hA=>?_) (fun q e' h1 e f1=>?_)
 rotate_left
 ·have ed:G2 ts I p=.bad q e':=by unfold G2;rw[e];rfl
  rw[ed];exact⟨IN.i f1,rfl⟩
 have adv1:=CQ hp [40];rw[e]at adv1;obtain⟨a1,a2⟩:=adv1;have ed:G2 ts I p=if HP ts p1 [41]=true then .ok [] (p1+1)else (I p1).bind fun x q=>GB ts I (ts.length+1) [x] q:=by unfold G2;rw[e];rfl
 rw[ed];subst hA;simp only[Af,seval];refine Ao.intro c131 _ (IY E a2 r1 [41]) (fun r h2 hh=>?_) (fun v h2 hh=>by cases hh.1);obtain⟨e2,f2,r2⟩:=hh;cases e2;have f02:Fr (AU i) h h2:=f1.trans f2 fun k e=>.inl e
 cases hB:HP ts p1 [41]with
 |true=>
  rw[hB]at r2;rw[if_pos rfl];simp only[Af,seval];exact⟨IN.i f02,_,rfl,r2,rfl,hΦ _ _ _ h0 f02⟩
 |false=>
  rw[hB]at r2;rw[if_neg (by decide)];simp only[Af,seval];have r2':RD h2 i L p1 n:=by rw[if_neg (by decide)]at r2;exact r2
  refine V5 c (hg h2 p1 [] a2 (BN _) r2' (hΦ _ _ _ h0 f02)) (fun x q a h3 e3 f3 r3 hA=>?_) (fun q e' h3 e3 f3=>?_)
  rotate_left
  ·rw[e3];exact⟨(IN.i (b:=b) (n0:=n0) f02).trans f3 fun k e=>.inl e,rfl⟩
  obtain⟨rfl,hΦ3⟩:=hA;have adv3:=hI p1 a2;rw[e3]at adv3⊢;obtain⟨b1,b2⟩:=adv3;have eD:(DR.ok x q).bind (fun x q=>GB ts I (ts.length+1) [x] q)=GB ts I (ts.length+1) [x] q:=rfl;rw[eD];generalize hR:GB ts I (ts.length+1) [x] q=R;simp only[Af,seval]
  refine Cp.intro (lsS γ i (.clo g fs cs)) (fun y=>∃ xs f,y.1≤ts.length∧xs.length≤y.1∧RD y.2 i L y.1 n∧Φ y.2 xs∧Fr (IN i b n0) h y.2∧GB ts I f xs y.1=R∧ts.length<f+y.1) (fun y=>ts.length+1-y.1) (q,h3) ⟨rfl,rfl,⟨rfl,rfl,trivial⟩,rfl⟩
   ⟨[x],ts.length+1,b2,by show 1≤q;omega,r3,hΦ3,(IN.i (b:=b) (n0:=n0) f02).trans f3 fun k e=>.inl e,hR,by show ts.length<ts.length+1+q;omega⟩ (fun y hy=>?_)
  clear hR r3 hΦ3 f3 e3 b1 b2 r2 r2' f02 f2 f1 r1 hB;obtain⟨p,h4⟩:=y;obtain⟨xs,f,hp4,hx4,r4,hΦ4,f4,hR,hf⟩:=hy;simp only at hp4 hx4 r4 hΦ4 f4 hR hf;obtain⟨f,rfl⟩:∃ g,f=g+1:=⟨f-1,by omega⟩;rw[GB]at hR;simp only[lsS,Af,seval];refine Ao.intro c131 _ (IY E hp4 r4 [41]) (fun r h5 hh=>?_) (fun v h5 hh=>by cases hh.1);obtain⟨e5,f5,r5⟩:=hh;cases e5;have f45:=f4.trans (IN.i (b:=b) (n0:=n0) f5) fun k e=>.inl e
  cases hB:HP ts p [41]with
  |true=>
   rw[hB]at r5 hR;rw[if_pos rfl]at hR;rw[←hR];simp only[Af,Bv,seval];exact⟨f45,_,rfl,r5,rfl,hΦ _ _ _ hΦ4 f5⟩
  |false=>
   have r5':RD h5 i L p n:=by rw[hB,if_neg (by decide)]at r5;exact r5
   rw[hB,if_neg (by decide)]at hR;simp only[Af,Bf,seval];refine Jw gK (K8 E hp4 r5' [44]) (fun x p6 a h6 e6 f6 r6 hA=>?_) (fun q e' h6 e6 f6=>?_)
   rotate_left
   ·unfold AR at e6
    split at e6
    ·cases e6
    ·rename_i hB2;cases e6;rw[if_neg hB2]at hR;rw[←hR];exact⟨f45.trans (IN.i f6) fun k e=>.inl e,rfl⟩
   unfold AR at e6
   split at e6
   rotate_left
   ·cases e6
   rename_i hB2;cases e6;subst hA;rw[if_pos hB2]at hR;have hlt:=CJ hB2;have f06:=f45.trans (IN.i (b:=b) (n0:=n0) f6) fun k e=>.inl e
   simp only[Af,seval];refine V5 c (hg h6 (p+1) xs hlt (by omega) r6 (hΦ _ _ _ (hΦ _ _ _ hΦ4 f5) f6)) (fun x q a h7 e7 f7 r7 hA=>?_) (fun q e' h7 e7 f7=>?_)
   rotate_left
   ·rw[e7]at hR;rw[←hR];exact⟨f06.trans f7 fun k e=>.inl e,rfl⟩
   obtain⟨rfl,hΦ7⟩:=hA;have adv7:=hI (p+1) hlt;rw[e7]at hR adv7;obtain⟨b1,b2⟩:=adv7;simp only[Af,seval];exact AF.intro (q,h7) ⟨xs++[x],f,b2,by rw[Bp];show xs.length+1≤q;omega,r7,hΦ7,f06.trans f7 fun k e=>.inl e,hR,by show ts.length<f+q;omega⟩ ⟨rfl,rfl,⟨rfl,rfl,trivial⟩,rfl⟩ (by show ts.length+1-q<ts.length+1-p;omega)
theorem E9.ret{α:Type}{n i:Nat}{h h1:List Aa}{A:α→AV→List Aa→Prop}{R:DR α}{a:AV}(hh:E9 ts n L i h A R (.ret a) h1):∃ x q,R=.ok x q∧Fr (AU i) h h1∧RD h1 i L q n∧A x a h1:=by
 cases R with
 |ok x q=>
  obtain⟨f,a',e,r1,hA⟩:=hh;cases e;exact⟨x,q,rfl,f,r1,hA⟩
 |bad q e=>obtain⟨_,e⟩:=hh;cases e
theorem E9.pan{α:Type}{n i:Nat}{h h1:List Aa}{A:α→AV→List Aa→Prop}{R:DR α}{v:AV}(hh:E9 ts n L i h A R (.pan v) h1):∃ q e,R=.bad q e∧Fr (AU i) h h1∧v=H9 (IJ ts n q) e:=by
 cases R with
 |ok x q=>obtain⟨_,a',e,_⟩:=hh;cases e
 |bad q e=>
  obtain⟨f,e'⟩:=hh;cases e';exact⟨q,e,rfl,f,rfl⟩
def Vg(N:AV)(i n0 b rb:Nat)(tb:TypeId)(pre:List AV)(tE:TypeId)(sz:Nat)(k:Nat)(ys:List AV)(h:List Aa):Prop:=
 i<n0∧b<n0∧rb<n0∧rb≠b∧i≠b∧i≠rb∧n0≤h.length∧h[rb]?=some ⟨0,127,[.ptr i 0 0]⟩∧h[b]?=some ⟨0,tb,pre++[N]⟩∧GL n0 tE sz h N k ys
theorem Vg.fr{N:AV}{i n0 b rb:Nat}{tb:TypeId}{pre:List AV}{tE:TypeId}{sz k:Nat}{ys:List AV}{h h1:List Aa}(a:Vg N i n0 b rb tb pre tE sz k ys h)(f:Fr (AU i) h h1):Vg N i n0 b rb tb pre tE sz k ys h1:=by
 obtain⟨a1,a2,a3,a4,a5,a6,a7,a8,a9,a10⟩:=a;exact⟨a1,a2,a3,a4,a5,a6,BM a7 f.1,f.at a8 (fun e=>a6 e.symm),f.at a9 (fun e=>a5 e.symm),a10.fr0 f (fun k e=>by have e:k=i:=e;omega)⟩
theorem Vg.push{N:AV}{i n0 b rb:Nat}{tb:TypeId}{pre:List AV}{tE:TypeId}{sz k:Nat}{ys es ecs cs:List AV}{h h':List Aa}{j' ver':Nat}(a:Vg N i n0 b rb tb pre tE sz k ys h)
  (hx:∀ j ver,N=.own j ver k→j'=j∧h[j]?=some ⟨ver,tE,cs⟩) (hx0:N=.v (.slice none 0 0)→h.length≤j'∧cs=[])
  (f:Fr (fun k=>k=b∨AZ N k) h h') (hj:h'[j']?=some ⟨ver',tE,cs++es⟩) (hb:h'[b]?=some ⟨0,tb,pre++[.own j' ver' (k+1)]⟩) (hl:es.length=sz) (he:AE (fun k=>k<n0∨AZ N k) h ecs es) :
  Vg (.own j' ver' (k+1)) i n0 b rb tb pre tE sz (k+1) (ys++ecs) h'∧Fr (IN i b n0) h h':=by
 obtain⟨a1,a2,a3,a4,a5,a6,a7,a8,a9,a10⟩:=a;have hN:∀ k,AZ N k→n0≤k:=fun k hk=>(a10.lt hk).1
 exact⟨⟨a1,a2,a3,a4,a5,a6,BM a7 f.1,f.at a8 (fun e=>e.elim a4 fun e=>by have:=hN _ e;omega),hb,a10.push hx hx0 a7 (f.mono fun k e=>e.elim (fun e=>.inl (by omega)) .inr) hj hl he⟩,
  f.mono fun k e=>e.elim (fun e=>.inr (.inl e)) fun e=>.inr (.inr (hN _ e))⟩
def M8(i n0 b rb:Nat)(tb:TypeId)(pre:List AV)(tE:TypeId)(sz:Nat){α:Type}(enc:α→List AV)(h:List Aa)(xs:List α):Prop:=∃ N,Vg N i n0 b rb tb pre tE sz xs.length (xs.flatMap enc) h
theorem M8.fr{i n0 b rb:Nat}{tb:TypeId}{pre:List AV}{tE:TypeId}{sz:Nat}{α:Type}{enc:α→List AV}{h h1:List Aa}{xs:List α}(a:M8 i n0 b rb tb pre tE sz enc h xs)(f:Fr (AU i) h h1):M8 i n0 b rb tb pre tE sz enc h1 xs:=by
 obtain⟨N,a⟩:=a;exact⟨N,a.fr f⟩
theorem Gf{P:Program}{E:AV→St→Prop}{K:St→Prop}{s:St}{d:Option Tmp}{t:TypeId}{pos:String}{af:Array Edge}{g:Option (Nat×Bool)}{ρ:Lt}(u n:Nat)(ps:Array (Nat×Operand)):DU P E ρ ⟨d,.buildSlice u n ps,t,pos,af,g⟩ K s=Cb P ⟨d,.buildSlice u n ps,t,pos,af,g⟩ K s:=rfl
theorem c249:Ak Tp 249:=⟨_,Tryz.func249,by kernel_rfl,by kernel_rfl⟩
def M1(x:List Nd):List AV:=[Ab x]
theorem Wy(E:FC γ L ts){i n n0 b rb p:Nat}{h:List Aa}{xs:List (List Nd)}(hp:p≤ts.length)(hr:RD h i L p n)(hB:M8 i n0 b rb 133 [] 41 1 M1 h xs)(hxs:(xs.length+1) * 24≤140737488355328):
  Ck Tp γ 249 [.ptr b 0 0,.ptr rb 0 0] h (Nc (IN i b n0) ts n L i h (fun x a h'=>a=.tup []∧M8 i n0 b rb 133 [] 41 1 M1 h' (xs++[x])) (FY ts p)):=by
 obtain⟨N,hB'⟩:=hB;have hB2:=hB';obtain⟨a1,a2,a3,a4,a5,a6,a7,a8,a9,a10⟩:=hB2;refine Ck.ofG Tryz.func249 rfl ?_;simp only[Tryz.f249,B4,seval];refine Cc.orders [[0,1,2,3,4,5],[1,0,2,3,4,5],[1,2,0,3,4,5],[1,2,3,0,4,5]] (fun _ _ _ h o h'=>E9 ts n L i h nK (FY ts p) o h') (Dw _) (by kernel_rfl) (by kernel_rfl) (by kernel_rfl) (fun q hq=>?_);simp only[BI,List.not_mem_nil,or_false]at hq
 rcases hq with rfl|rfl|rfl|rfl
 all_goals simp only[Rz,Gf,CI,BU,Bu,Bz,AH,a8,a9,Bi,B4,seval]
 all_goals refine⟨mT,Ts E hp hr,fun r h1 hh=>?_,fun v h1 hh=>by obtain⟨q,e,eR,f1,rfl⟩:=E9.pan hh;rw[eR];exact⟨IN.i f1,rfl⟩⟩
 all_goals obtain⟨x,q,eR,f1,r1,rfl⟩:=E9.ret hh
 all_goals rw[eR]
 all_goals obtain⟨b1,b2,b3,b4,b5,b6,b7,b8,b9,b10⟩:=hB'.fr f1
 all_goals have hbl:=(Bs.1 b9).1
 all_goals have hrl:=r1.lt
 all_goals have one:Cl (Ab x)=true:=by cases x<;>rfl
 all_goals have g7:∀ l,(h1++l)[b]?=some ⟨0,133,[N]⟩:=fun l=>(Ba hbl).trans b9
 all_goals have s6:∀ l c,(h1++l).set b c=h1.set b c++l:=fun l c=>Bg _ _ hbl
 all_goals have he:AE (fun k=>k<n0∨AZ N k) h1 [Ab x] [Ab x]:=AE.cons (Rd.nodes x) AE.nil
 all_goals have hxe:(xs++[x]).length=xs.length+1:=by simp
 all_goals have hxf:(xs++[x]).flatMap M1=xs.flatMap M1++[Ab x]:=by simp[M1]
 all_goals have hB3:=hB'.fr f1
 all_goals rcases b10 with⟨rfl,e0,e1⟩|⟨j,ver,cs,rfl,hn,hj0,hj,hl,hrd⟩
 all_goals first
  |(have e0':=e0
    simp only[AH,b9,g7,one,Ap,s6,Bi,Bo,Bc,B4,seval];obtain⟨k1,k2⟩:=hB3.push (h':=h1.set b ⟨0,133,[.own (h1.length+1) 0 1]⟩++[⟨0,41,[Ab x]⟩,⟨0,41,[Ab x]⟩]) (j':=h1.length+1) (ver':=0) (cs:=[]) (es:=[Ab x]) (ecs:=[Ab x]) (fun j ver e=>by cases e) (fun _=>⟨by omega,rfl⟩) ((Fr.set _ (.inl rfl)).trans (Fr.app (S:=BR) _ _) fun k e=>e.elim) (Ce _ _ _ _ _ _) (by rw[e0];exact (Ba (by rw[Bl];exact hbl)).trans (Be hbl)) rfl he;rw[e0]at k1;refine⟨(IN.i f1).trans k2 fun k e=>.inl e,_,rfl,?_,rfl,.own (h1.length+1) 0 1,?_⟩
    ·exact (Ba (by rw[Bl];exact hrl)).trans ((Bn a5.symm).trans r1)
    ·rw[hxe,hxf,e0];exact k1)
  |(have hjl:=(Bs.1 hj).1
    have hjb:j≠b:=by omega
    have hji:j≠i:=by omega
    have q1:∀ l,(h1++l)[j]?=some ⟨ver,41,cs⟩:=fun l=>(Ba hjl).trans hj
    have s8:∀ l c,(h1++l).set j c=h1.set j c++l:=fun l c=>Bg _ _ hjl
    have g9:∀ l c,(h1.set j c++l)[b]?=some ⟨0,133,[.own j ver xs.length]⟩:=fun l c=>(Ba (by rw[Bl];exact hbl)).trans ((Bn hjb).trans b9)
    have s9:∀ l c d,(h1.set j c++l).set b d=(h1.set j c).set b d++l:=fun l c d=>Bg _ _ (by rw[Bl];exact hbl)
    have hl':cs.length=xs.length:=by omega
    have q4:List.take xs.length cs=cs:=Bt (by omega);have q6:xs.length≤cs.length:=by omega
    simp only[AH,b9,g7,one,Ap,Bi,q1,s8,g9,s9,q4,q6,B4,seval];obtain⟨k1,k2⟩:=hB3.push (h':=(h1.set j ⟨ver+1,41,cs++[Ab x]⟩).set b ⟨0,133,[.own j (ver+1) (xs.length+1)]⟩++[⟨0,41,[Ab x]⟩]) (j':=j) (ver':=ver+1) (cs:=cs) (es:=[Ab x]) (ecs:=[Ab x]) (fun j2 ver2 e=>by cases e;exact⟨rfl,hj⟩) (fun e=>by cases e) (((Fr.set (S:=fun k=>k=b∨AZ (.own j ver xs.length) k) _ (.inr rfl)).trans (Fr.set (S:=fun k=>k=b∨AZ (.own j ver xs.length) k) _ (.inl rfl)) fun k e=>.inl e).trans (Fr.app (S:=BR) _ _) fun k e=>e.elim) ((Ba (by rw[Bl,Bl];exact hjl)).trans ((Bn hjb.symm).trans (Be hjl))) ((Ba (by rw[Bl,Bl];exact hbl)).trans (Be (by rw[Bl];exact hbl))) rfl he;refine⟨hxs,(IN.i f1).trans k2 fun k e=>.inl e,_,rfl,?_,rfl,.own j (ver+1) (xs.length+1),?_⟩
    ·exact (Ba (by rw[Bl,Bl];exact hrl)).trans ((Bn a5.symm).trans ((Bn hji).trans r1))
    ·rw[hxe,hxf];exact k1)
def TP{α:Type}(f:α→AV)(m:Nat)(x:α)(a:AV)(h':List Aa):Prop:=Rd (Old m) h' (f x) a
theorem c203:Ak Tp 203:=⟨_,Tryz.func203,by kernel_rfl,by kernel_rfl⟩
theorem MW(xs:List (List Nd)):IP xs.length (xs.flatMap M1)=E3 xs:=by
 have:xs.flatMap M1=xs.map Ab:=by
  induction xs with
  |nil=>rfl
  |cons x xs ih=>rw[BE,ih];rfl
 rw[this];rfl
theorem Fr.drop{i n0 b:Nat}{h h':List Aa}{l:List Aa}(f:Fr (IN i b n0) (h++l) h')(hb:h.length≤b)(hn:h.length≤n0):Fr (AU i) h h':=
 (Fr.app (S:=AU i) h l).trans f fun k e=>by
  rcases e with e|e|e
  ·exact .inl e
  ·exact .inr (by omega)
  ·exact .inr (by omega)
theorem bM(E:FC γ L ts){h:List Aa}{i p n:Nat}(hp:p≤ts.length)(hr:RD h i L p n):
  Ck Tp γ 203 [.ptr i 0 0] h (E9 ts n L i h (TP E3 h.length) (Mp ts p)):=by
 have hil:=hr.lt;have hn:=E.n;refine Ck.of Tryz.func203 rfl ?_;simp only[Tryz.f203,AH,Ap,Bo,Bc,Bi,Af,seval]
 have hlist:=Kx (b:=h.length+1) (n0:=h.length+2) E (I:=FY ts) (fun p hp=>GV hp) (Φ:=M8 i (h.length+2) (h.length+1) h.length 133 [] 41 1 M1) (fs:=[]) (cs:=[.ptr (h.length+1) 0 0,.ptr h.length 0 0]) c249
  (fun h h1 xs a f=>a.fr f) (fun h p xs hp hx hr hB=>Wy E hp hr hB (by omega)) hp (hr.app [⟨0,127,[.ptr i 0 0]⟩,⟨0,133,[.v (.slice none 0 0)]⟩]) ⟨.v (.slice none 0 0),by omega,by omega,by omega,by omega,by omega,by omega,by simp,Ap _ _ _,B1 _ _ _ _,GL.nil⟩
 unfold Mp;refine UZ j4 hlist (fun xs q a h1 e f1 r1 hA=>?_) (fun q e' h1 e f1=>?_)
 rotate_left
 ·rw[e];exact⟨f1.drop (by omega) (by omega),rfl⟩
 rw[e];obtain⟨rfl,N,b1,b2,b3,b4,b5,b6,b7,b8,b9,b10⟩:=hA;have hbl:=(Bs.1 b9).1;have s5:∀ c,(h1.set (h.length+1) c)[h.length+1]?=some c:=fun c=>Be hbl
 have rd:∀ c,Rd (Old h.length) (h1.set (h.length+1) c) (E3 xs) N:=fun c=>by
  have:=b10.rd.up (S':=Old h.length) (Fr.set (S:=AU (h.length+1)) c rfl) (fun k e _=>by have e:k=h.length+1:=e;subst e;exact b2) (fun k e _=>by have e:k<h.length:=e;show k<h.length+2;omega)
  rwa [MW]at this
 have f2:∀ c,Fr (IN i (h.length+1) (h.length+2)) h1 (h1.set (h.length+1) c):=fun c=>Fr.set _ (.inr (.inl rfl))
 have hN:flat N=some [N]:=by rcases b10 with⟨rfl,_⟩|⟨j,ver,cs,rfl,_⟩<;>rfl
 have oN:Cl N=true:=by rcases b10 with⟨rfl,_⟩|⟨j,ver,cs,rfl,_⟩<;>rfl
 simp only[AH,b9,s5,hN,Aj,Bi,Af,seval];exact⟨(f1.trans (f2 _) fun k e=>.inl e).drop (by omega) (by omega),N,rfl,(Bn b5.symm).trans r1,rd _⟩
theorem c201:Ak Tp 201:=⟨_,Tryz.func201,by kernel_rfl,by kernel_rfl⟩
theorem c204:Ak Tp 204:=⟨_,Tryz.func204,by kernel_rfl,by kernel_rfl⟩
def He(x:List UInt8):List AV:=[Ae x]
theorem XN(E:FC γ L ts){i n n0 b rb p:Nat}{h:List Aa}{nm:List UInt8}{xs:List (List UInt8)}(hp:p≤ts.length)(hr:RD h i L p n)(hB:M8 i n0 b rb 130 [Ae nm] 9 1 He h xs)(hxs:(xs.length+1) * 16≤140737488355328):
  Ck Tp γ 201 [.ptr rb 0 0,.ptr b 0 0] h (Nc (IN i b n0) ts n L i h (fun x a h'=>a=.tup []∧M8 i n0 b rb 130 [Ae nm] 9 1 He h' (xs++[x])) (QY ts p)):=by
 obtain⟨N,hB'⟩:=hB;have hB2:=hB';obtain⟨a1,a2,a3,a4,a5,a6,a7,a8,a9,a10⟩:=hB2;have hTake:=IY E hp hr [95];refine Ck.ofG Tryz.func201 rfl ?_;simp only[Tryz.f201,AH,a8,B4,seval];refine Ao.intro c131 _ hTake (fun r h0 hh=>?_) (fun v h1 hh=>by cases hh.1);obtain⟨e,f0,r0⟩:=hh;cases e;unfold QY;cases hT:HP ts p [95]with
 |true=>
  obtain⟨h1,e1⟩:∃ h1,h1=h0:=⟨_,rfl⟩;subst e1;have f1:=f0;have r1:=r0;rw[hT]at r1;rw[if_pos rfl]at r1⊢;obtain⟨b1,b2,b3,b4,b5,b6,b7,b8,b9,b10⟩:=hB'.fr f1;obtain⟨x,hx⟩:∃ x:List UInt8,x=[95]:=⟨_,rfl⟩;have hx2:(⟨#[95]⟩:ByteArray)=⟨x.toArray⟩:=by rw[hx]
  rw[←hx]
  all_goals have hbl:=(Bs.1 b9).1
  all_goals have hrl:=r1.lt
  all_goals have g7:∀ l,(h1++l)[b]?=some ⟨0,130,[Ae nm,N]⟩:=fun l=>(Ba hbl).trans b9
  all_goals have s6:∀ l c,(h1++l).set b c=h1.set b c++l:=fun l c=>Bg _ _ hbl
  all_goals have he:AE (fun k=>k<n0∨AZ N k) h1 [Ae x] [Ae x]:=AE.cons (Rd.str x) AE.nil
  all_goals have hxe:(xs++[x]).length=xs.length+1:=by simp
  all_goals have hxf:(xs++[x]).flatMap He=xs.flatMap He++[Ae x]:=by simp[He]
  all_goals have hB3:=hB'.fr f1
  all_goals rcases b10 with⟨rfl,e0,e1⟩|⟨j,ver,cs,rfl,hn,hj0,hj,hl,hrd⟩
  all_goals first
   |(have e0':=e0
     simp only[AH,b9,g7,Ap,s6,Bi,Bo,Bc,Ae,B4,seval];obtain⟨k1,k2⟩:=hB3.push (h':=h1.set b ⟨0,130,[Ae nm,.own (h1.length+1) 0 1]⟩++[⟨0,9,[Ae x]⟩,⟨0,9,[Ae x]⟩]) (j':=h1.length+1) (ver':=0) (cs:=[]) (es:=[Ae x]) (ecs:=[Ae x]) (fun j ver e=>by cases e) (fun _=>⟨by omega,rfl⟩) ((Fr.set _ (.inl rfl)).trans (Fr.app (S:=BR) _ _) fun k e=>e.elim) (Ce _ _ _ _ _ _) (by rw[e0];exact (Ba (by rw[Bl];exact hbl)).trans (Be hbl)) rfl he;rw[e0]at k1;refine⟨(IN.i f1).trans k2 fun k e=>.inl e,_,rfl,?_,rfl,.own (h1.length+1) 0 1,?_⟩
     ·exact (Ba (by rw[Bl];exact hrl)).trans ((Bn a5.symm).trans r1)
     ·rw[hxe,hxf,e0];exact k1)
   |(have hjl:=(Bs.1 hj).1
     have hjb:j≠b:=by omega
     have hji:j≠i:=by omega
     have q1:∀ l,(h1++l)[j]?=some ⟨ver,9,cs⟩:=fun l=>(Ba hjl).trans hj
     have s8:∀ l c,(h1++l).set j c=h1.set j c++l:=fun l c=>Bg _ _ hjl
     have g9:∀ l c,(h1.set j c++l)[b]?=some ⟨0,130,[Ae nm,.own j ver xs.length]⟩:=fun l c=>(Ba (by rw[Bl];exact hbl)).trans ((Bn hjb).trans b9)
     have s9:∀ l c d,(h1.set j c++l).set b d=(h1.set j c).set b d++l:=fun l c d=>Bg _ _ (by rw[Bl];exact hbl)
     have hl':cs.length=xs.length * 1:=by omega
     have q4:List.take (xs.length * 1) cs=cs:=Bt (by omega);have q6:xs.length * 1≤cs.length:=by omega
     simp only[Nat.mul_one]at q4 q6;simp only[AH,b9,Ap,Bi,Bc,Ae,q1,s8,g9,s9,q4,q6,B4,seval];obtain⟨k1,k2⟩:=hB3.push (h':=(h1.set j ⟨ver+1,9,cs++[Ae x]⟩).set b ⟨0,130,[Ae nm,.own j (ver+1) (xs.length+1)]⟩++[⟨0,9,[Ae x]⟩]) (j':=j) (ver':=ver+1) (cs:=cs) (es:=[Ae x]) (ecs:=[Ae x]) (fun j2 ver2 e=>by cases e;exact⟨rfl,hj⟩) (fun e=>by cases e) (((Fr.set (S:=fun k=>k=b∨AZ (.own j ver xs.length) k) _ (.inr rfl)).trans (Fr.set (S:=fun k=>k=b∨AZ (.own j ver xs.length) k) _ (.inl rfl)) fun k e=>.inl e).trans (Fr.app (S:=BR) _ _) fun k e=>e.elim) ((Ba (by rw[Bl,Bl];exact hjl)).trans ((Bn hjb.symm).trans (Be hjl))) ((Ba (by rw[Bl,Bl];exact hbl)).trans (Be (by rw[Bl];exact hbl))) rfl he;refine⟨hxs,(IN.i f1).trans k2 fun k e=>.inl e,_,rfl,?_,rfl,.own j (ver+1) (xs.length+1),?_⟩
     ·exact (Ba (by rw[Bl,Bl];exact hrl)).trans ((Bn a5.symm).trans ((Bn hji).trans r1))
     ·rw[hxe,hxf];exact k1)
 |false=>
  rw[hT]at r0;rw[if_neg (by decide)]at r0⊢;obtain⟨d1,d2,d3,d4,d5,d6,d7,d8,d9,d10⟩:=hB'.fr f0;simp only[B4,seval];refine Cc.orders [[0,1,2,3,4,5,6,7],[0,2,1,3,4,5,6,7],[2,0,1,3,4,5,6,7],[0,2,3,1,4,5,6,7],[2,0,3,1,4,5,6,7],[0,2,3,4,1,5,6,7],[2,0,3,4,1,5,6,7],[2,3,0,1,4,5,6,7],[2,3,0,4,1,5,6,7],[2,3,4,0,1,5,6,7]] (fun _ _ _ h o h'=>E9 ts n L i h nX (Eg ts p) o h') (Dw _) (by kernel_rfl) (by kernel_rfl) (by kernel_rfl) (fun q hq=>?_);simp only[BI,List.not_mem_nil,or_false]at hq
  rcases hq with rfl|rfl|rfl|rfl|rfl|rfl|rfl|rfl|rfl|rfl
  all_goals simp only[Rz,Gf,CI,BU,Bu,Bz,AH,d8,d9,Bc,Bi,B4,seval]
  all_goals refine⟨cC,KF E hp r0,fun r h1 hh=>?_,fun v h1 hh=>by obtain⟨q,e,eR,f1,rfl⟩:=E9.pan hh;rw[eR];exact⟨IN.i (f0.trans f1 fun k e=>.inl e),rfl⟩⟩
  all_goals obtain⟨x,q,eR,f1',r1,rfl⟩:=E9.ret hh
  all_goals rw[eR]
  all_goals have f1:Fr (AU i) h h1:=f0.trans f1' fun k e=>.inl e
  all_goals obtain⟨b1,b2,b3,b4,b5,b6,b7,b8,b9,b10⟩:=hB'.fr f1
  all_goals have hbl:=(Bs.1 b9).1
  all_goals have hrl:=r1.lt
  all_goals have g7:∀ l,(h1++l)[b]?=some ⟨0,130,[Ae nm,N]⟩:=fun l=>(Ba hbl).trans b9
  all_goals have s6:∀ l c,(h1++l).set b c=h1.set b c++l:=fun l c=>Bg _ _ hbl
  all_goals have he:AE (fun k=>k<n0∨AZ N k) h1 [Ae x] [Ae x]:=AE.cons (Rd.str x) AE.nil
  all_goals have hxe:(xs++[x]).length=xs.length+1:=by simp
  all_goals have hxf:(xs++[x]).flatMap He=xs.flatMap He++[Ae x]:=by simp[He]
  all_goals have hB3:=hB'.fr f1
  all_goals rcases b10 with⟨rfl,e0,e1⟩|⟨j,ver,cs,rfl,hn,hj0,hj,hl,hrd⟩
  all_goals first
   |(have e0':=e0
     simp only[Bu,Bz,AH,b9,g7,Ap,s6,Bi,Bo,Bc,Ae,B4,seval];obtain⟨k1,k2⟩:=hB3.push (h':=h1.set b ⟨0,130,[Ae nm,.own (h1.length+1) 0 1]⟩++[⟨0,9,[Ae x]⟩,⟨0,9,[Ae x]⟩]) (j':=h1.length+1) (ver':=0) (cs:=[]) (es:=[Ae x]) (ecs:=[Ae x]) (fun j ver e=>by cases e) (fun _=>⟨by omega,rfl⟩) ((Fr.set _ (.inl rfl)).trans (Fr.app (S:=BR) _ _) fun k e=>e.elim) (Ce _ _ _ _ _ _) (by rw[e0];exact (Ba (by rw[Bl];exact hbl)).trans (Be hbl)) rfl he;rw[e0]at k1;refine⟨(IN.i f1).trans k2 fun k e=>.inl e,_,rfl,?_,rfl,.own (h1.length+1) 0 1,?_⟩
     ·exact (Ba (by rw[Bl];exact hrl)).trans ((Bn a5.symm).trans r1)
     ·rw[hxe,hxf,e0];exact k1)
   |(have hjl:=(Bs.1 hj).1
     have hjb:j≠b:=by omega
     have hji:j≠i:=by omega
     have q1:∀ l,(h1++l)[j]?=some ⟨ver,9,cs⟩:=fun l=>(Ba hjl).trans hj
     have s8:∀ l c,(h1++l).set j c=h1.set j c++l:=fun l c=>Bg _ _ hjl
     have g9:∀ l c,(h1.set j c++l)[b]?=some ⟨0,130,[Ae nm,.own j ver xs.length]⟩:=fun l c=>(Ba (by rw[Bl];exact hbl)).trans ((Bn hjb).trans b9)
     have s9:∀ l c d,(h1.set j c++l).set b d=(h1.set j c).set b d++l:=fun l c d=>Bg _ _ (by rw[Bl];exact hbl)
     have hl':cs.length=xs.length * 1:=by omega
     have q4:List.take (xs.length * 1) cs=cs:=Bt (by omega);have q6:xs.length * 1≤cs.length:=by omega
     simp only[Nat.mul_one]at q4 q6;simp only[Bu,Bz,AH,b9,g7,Ap,Bi,Bc,Ae,q1,s8,g9,s9,q4,q6,B4,seval];obtain⟨k1,k2⟩:=hB3.push (h':=(h1.set j ⟨ver+1,9,cs++[Ae x]⟩).set b ⟨0,130,[Ae nm,.own j (ver+1) (xs.length+1)]⟩++[⟨0,9,[Ae x]⟩]) (j':=j) (ver':=ver+1) (cs:=cs) (es:=[Ae x]) (ecs:=[Ae x]) (fun j2 ver2 e=>by cases e;exact⟨rfl,hj⟩) (fun e=>by cases e) (((Fr.set (S:=fun k=>k=b∨AZ (.own j ver xs.length) k) _ (.inr rfl)).trans (Fr.set (S:=fun k=>k=b∨AZ (.own j ver xs.length) k) _ (.inl rfl)) fun k e=>.inl e).trans (Fr.app (S:=BR) _ _) fun k e=>e.elim) ((Ba (by rw[Bl,Bl];exact hjl)).trans ((Bn hjb.symm).trans (Be hjl))) ((Ba (by rw[Bl,Bl];exact hbl)).trans (Be (by rw[Bl];exact hbl))) rfl he;refine⟨hxs,(IN.i f1).trans k2 fun k e=>.inl e,_,rfl,?_,rfl,.own j (ver+1) (xs.length+1),?_⟩
     ·exact (Ba (by rw[Bl,Bl];exact hrl)).trans ((Bn a5.symm).trans ((Bn hji).trans r1))
     ·rw[hxe,hxf];exact k1)
theorem c130:Ak Tp 130:=⟨_,Tryz.func130,by kernel_rfl,by kernel_rfl⟩
def Pt.av(p:Pt):AV:=.agg p.cells
theorem Tj(xs:List (List UInt8)):IP xs.length (xs.flatMap He)=GZ xs:=by
 have:xs.flatMap He=xs.map Ae:=by
  induction xs with
  |nil=>rfl
  |cons x xs ih=>rw[BE,ih];rfl
 rw[this];rfl
theorem GL.one{n0:Nat}{t:TypeId}{sz:Nat}{h:List Aa}{N:AV}{n:Nat}{ys:List AV}(a:GL n0 t sz h N n ys):Cl N=true∧flat N=some [N]:=by rcases a with⟨rfl,_⟩|⟨j,ver,cs,rfl,_⟩<;>exact⟨rfl,rfl⟩
theorem Fr.pre{S:Nat→Prop}{h h':List Aa}{l:List Aa}(f:Fr S (h++l) h'):Fr S h h':=(Fr.app (S:=S) h l).trans f fun k e=>.inl e
theorem GL.rdS{n0 m:Nat}{t:TypeId}{sz:Nat}{h h':List Aa}{N:AV}{n:Nat}{ys:List AV}{S1:Nat→Prop}(a:GL n0 t sz h N n ys)(f:Fr S1 h h')(h1:∀ k,S1 k→k<h.length→k<n0)(hm:m≤n0):Rd (Old m) h' (IP n ys) N:=
 a.rd.up f h1 fun k e _=>BO e hm
theorem Sy(E:FC γ L ts){h:List Aa}{i p n:Nat}(hp:p≤ts.length)(hr:RD h i L p n):
  Ck Tp γ 130 [.ptr i 0 0] h (E9 ts n L i h (TP Pt.av h.length) (Fo ts p)):=by
 have hil:=hr.lt;have hn:=E.n;refine Ck.of Tryz.func130 rfl ?_;simp only[Tryz.f130,AH,Ap,Bo,Bc,Bi,Af,seval];refine Jw cC (KF E hp (hr.app _)) (fun nm p1 a h1 e f1 r1 hA=>?_) (fun q e' h1 e f1=>?_)
 rotate_left
 ·unfold Fo;rw[e];exact⟨f1.pre,rfl⟩
 have adv1:=CB hp;rw[e]at adv1;obtain⟨_,hp1⟩:=adv1;have eD:Fo ts p=(G2 ts (QY ts) p1).bind fun l p2=>.ok ⟨nm,l⟩ p2:=by unfold Fo;rw[e];rfl
 rw[eD];subst hA;have k0:h1[h.length]?=some ⟨0,127,[.ptr i 0 0]⟩:=f1.at (Ap _ _ _) (fun e=>by have e:h.length=i:=e;omega);have k1:h1[h.length+1]?=some ⟨0,130,[Ae [],.v (.slice none 0 0)]⟩:=f1.at (B1 _ _ _ _) (fun e=>by have e:h.length+1=i:=e;omega);have hl1:=(Bs.1 k1).1;have g0:∀ l,(h1++l)[h.length]?=some ⟨0,127,[.ptr i 0 0]⟩:=fun l=>(Ba (by omega)).trans k0
 simp only[AH,g0,Ae,Ap,CV,Af,seval]
 have hlist:=Kx (b:=h1.length) (n0:=h1.length+1) E (I:=QY ts) (fun p hp=>Rj hp) (Φ:=M8 i (h1.length+1) h1.length h.length 130 [Ae nm] 9 1 He) (fs:=[]) (cs:=[.ptr h.length 0 0,.ptr h1.length 0 0]) c201
  (fun h h1 xs a f=>a.fr f) (fun h p xs hp hx hr hB=>XN E hp hr hB (by omega)) hp1 (r1.app [⟨0,130,[Ae nm,.v (.slice none 0 0)]⟩]) ⟨.v (.slice none 0 0),by omega,by omega,by omega,by omega,by omega,by omega,by simp,g0 _,Ap _ _ _,GL.nil⟩
 refine UZ j4 hlist (fun xs q a h2 e2 f2 r2 hA=>?_) (fun q e' h2 e2 f2=>?_)
 rotate_left
 ·rw[e2];exact⟨f1.pre.trans (f2.drop (by omega) (by omega)) fun k e=>.inl e,rfl⟩
 rw[e2];obtain⟨rfl,N,b1,b2,b3,b4,b5,b6,b7,b8,b9,b10⟩:=hA;have hbl:=(Bs.1 b9).1;obtain⟨oN,fN⟩:=b10.one;have k2:h2[h.length+1]?=some ⟨0,130,[Ae [],.v (.slice none 0 0)]⟩:=f2.at ((Ba (by omega)).trans k1) (fun e=>by rcases e with e|e|e<;>omega);have s5:∀ c,(h2.set (h.length+1) c)[h.length+1]?=some c:=fun c=>Be (Bs.1 k2).1
 simp only[AH,b9,k2,s5,oN,Aj,Ae,Bc,Bi,Af,seval];have rd:=b10.rdS (m:=h.length) (Fr.set (S:=AU (h.length+1)) (h:=h2) ⟨0,130,[Ae nm,N]⟩ rfl) (fun k e _=>by have e:k=h.length+1:=e;omega) (by omega);rw[Tj]at rd;have f12:Fr (AU i) h h2:=f1.pre.trans (f2.drop (by omega) (by omega)) fun k e=>.inl e
 exact⟨f12.trans (Fr.set (S:=AU (h.length+1)) _ rfl) fun k e=>.inr (by have e:k=h.length+1:=e;omega),_,rfl,(Bn (by omega)).trans r2,Rd.agg (AE.cons (Rd.str nm) (AE.cons rd AE.nil))⟩
end Go.Proofs.YtlobiioioicmhaaGreatDoor
