/- A part of the proof. -/
import Derived.Test.YtlobiioioicmhaaGreatDoorAQ10
import Derived.Test.YtlobiioioicmhaaGreatDoorAU9
set_option linter.all false
set_option maxHeartbeats 8000000
namespace Go.Proofs.YtlobiioioicmhaaGreatDoor
open _root_.Bool renaming not_true→Bv,not_false→Bf
open _root_.List renaming getElem?_eq_some_iff→Bs,getElem?_append_left→Ba,getElem?_append_right→Br,getElem?_set_self→Be,getElem?_set_ne→Bn,length_set→Bl,length_append→Bp,append_assoc→Bo,cons_append→Bc,nil_append→Bi,getElem?_cons_zero→Bz,getElem?_cons_succ→Bu,getElem?_map→Bm,length_map→Bk,length_drop→Bd,length_take→Bh,map_cons→BA,prefix_rfl→BB,length_cons→BC,length_nil→BD,flatMap_cons→BE,mem_cons→BI,length_replicate→BJ,drop_drop→BT,getElem?_toArray→BU,getElem?_drop→BX,getElem?_take→BY
open _root_.Nat renaming le_refl→BL,zero_le→BN
open Go.Proofs.Tryz renaming prog→Tp
open Go Go.Ev
set_option maxRecDepth 20000
variable {γ:List (Nat×AV)}
theorem c284:Al Tp 284:=⟨_,Tryz.func284,by kernel_rfl,by kernel_rfl⟩
theorem c285:Al Tp 285:=⟨_,Tryz.func285,by kernel_rfl,by kernel_rfl⟩
theorem c41:Al Tp 41:=⟨_,Tryz.func41,by kernel_rfl,by kernel_rfl⟩
theorem iR(s:List Aa)(L:List (AD×Nat)):Dr Tp 47 s (Cl L)=some (.v (.int .i64 L.length)):=by
 have e24:A5 Tp 47=some 54:=by kernel_rfl
 cases L with
 |nil=>simp only[Cl,Dr,e24];rfl
 |cons y T=>simp only[Cl,Dr,e24];rfl
theorem Me(P:Program)(H:List Aa)(b:Bool):∀ ys:List AV,(∀ y∈ys,∃ v,y=AV.v v)→EW P H b ys ys
 |[],_=>by simp only[EW]
 |y::ys,h=>by
  obtain⟨v,rfl⟩:=h y (List.mem_cons_self ..);simp only[EW];exact⟨_,_,rfl,by simp only[fz],Me P H b ys fun z hz=>h z (List.mem_cons_of_mem _ hz)⟩
theorem Oy{P:Program}{H:List Aa}{i n:Nat}{k:Aa}{ys:List AV}(h:H[i]?=some k)(hp:ys<+:k.cells)(hv:∀ y∈ys,∃ v,y=AV.v v):EW P H true [.sl true n n ys] [.own i k.ver n]:=by
 simp only[EW,fz];exact⟨_,_,rfl,.inr ⟨trivial,i,k,ys,rfl,h,BL _,.inl trivial,hp,Me P H true ys hv⟩,rfl⟩
theorem Mc(l:List UInt8):∀ y∈l.map Ai,∃ v,y=AV.v v:=fun y hy=>by obtain⟨c,_,rfl⟩:=List.mem_map.1 hy;exact⟨_,rfl⟩
theorem R3(l:List Nd):∀ y∈BZ l,∃ v,y=AV.v v:=fun y hy=>by
 obtain⟨n,_,hn⟩:=List.mem_flatMap.1 hy;simp only[Nd.cells,BI,List.not_mem_nil,or_false]at hn
 rcases hn with rfl|rfl|rfl|rfl|rfl|rfl|rfl|rfl|rfl<;>exact⟨_,rfl⟩
theorem M5(L:List (AD×Nat)):CJ (Cl L)=true:=by
 cases L with
 |nil=>rfl
 |cons x L=>
  show (!false&&AO (Az (x::L)))=true
  generalize x::L=L;unfold Az
  induction L with
  |nil=>rfl
  |cons y L ih=>
   rw[BA,List.flatten_cons];show AO (B1 y++_)=true;simp only[B1,CH,BA,List.map_nil,Bc,Bi,AO,CJ,Bool.true_and];simpa using ih
theorem Km{l:List UInt8}{L:List (AD×Nat)}(h:CA l=some L):Fi l=.tup [Cl L,.v (.int .i64 0),.v (.int .i64 0)]:=by
 unfold CA at h;unfold Fi;cases e:(Ag l).find? E1 with
 |none=>rw[e]at h;cases h;rfl
 |some x=>rw[e]at h;cases h
theorem JV{l:List UInt8}(h:CA l=none):∃ (L:List (AD×Nat)) (x:(AD×Nat)×Int),(Ag l).find? E1=some x∧x.2≠0∧Fi l=.tup [Cl L,.v (.int .i64 x.1.2),.v (.int .i64 x.2)]:=by
 unfold CA at h;unfold Fi;cases e:(Ag l).find? E1 with
 |none=>rw[e]at h;cases h
 |some x=>exact⟨_,x,rfl,by simpa[E1]using List.find?_some e,rfl⟩
theorem QD(l:List UInt8):CJ (Fi l)=true:=by
 unfold Fi
 split<;>simp only[CJ,AO,M5,Bool.and_self]
theorem QA(s:List UInt8)(hs:s.length≤140737488351232):Ev Tp γ 284 [.v (.string ⟨s.toArray⟩)] (.v (.bool (DB s))):=by
 refine Ev.of Tryz.func284 rfl ?_;simp only[Tryz.f284,Dd,Af,Nat.reduceAdd,Nat.reduceSub,Nat.reduceLT,Nat.reduceEqDiff,reduceCtorEq];refine⟨by omega,Ae.lend c41 _ (Oy (k:=⟨0,5,s.map Ai⟩) rfl BB (Mc s)) (MR true s hs) ?_ ?_⟩
 ·exact QD s
 cases e:CA s with
 |none=>
  obtain⟨L,x,_,hk,hr⟩:=JV e;have d1:(x.2==0)=false:=by simpa using hk
  have en:DB s=false:=by unfold DB;rw[e]
  rw[hr,en];simp only[d1,Af,Nat.reduceLT,Nat.reduceEqDiff,reduceCtorEq]
 |some L=>
  rw[Km e];have ll:=iR [⟨0,5,s.map Ai⟩] L;have z0:((0:Int)==0)=true:=rfl;simp only[ll,z0,Af,Nat.reduceLT,Nat.reduceEqDiff,reduceCtorEq]
  match L,e with
  |[],e=>
   have en:DB s=false:=by unfold DB;rw[e]
   rw[en];have n0:(((0:Nat):Int)==1)=false:=rfl;simp only[n0,Af,Nat.reduceLT,Nat.reduceEqDiff,reduceCtorEq]
  |[x],e=>
   have en:DB s=(x.1.kind==1&&((x.1.size:Int)==(s.length:Int))):=by unfold DB;rw[e]
   rw[en];have n1:(((1:Nat):Int)==1)=true:=rfl;simp only[Dd,n1,Cl,Az,B1,CH,Af,AB,Nat.reduceAdd,Nat.reduceLT,Nat.reduceLeDiff,Nat.reduceEqDiff,reduceCtorEq,Int.reduceLE]
   by_cases hk:x.1.kind=1
   ·have d1:(x.1.kind==1)=true:=by simpa using hk
    simp only[Dd,d1,Af,AB,Nat.reduceLT,Nat.reduceLeDiff,Nat.reduceEqDiff,reduceCtorEq,Int.reduceLE]
    decide
   ·have d1:(x.1.kind==1)=false:=by simpa using hk
    simp only[d1,Af,Nat.reduceLT,Nat.reduceEqDiff,reduceCtorEq];exact⟨by decide,rfl⟩
  |x::y::L,e=>
   have en:DB s=false:=by unfold DB;rw[e]
   rw[en];have n2:(((L.length+1+1:Nat):Int)==1)=false:=by simp only[beq_eq_false_iff_ne,ne_eq];omega
   simp only[n2,Af,Nat.reduceLT,Nat.reduceEqDiff,reduceCtorEq]
def Ab:List Nd→AV
 |[]=>.v (.slice none 0 0)
 |ns=>.sl false ns.length ns.length (BZ ns)
theorem Kk{P:Program}{H:List Aa}{j ver:Nat}{ns:List Nd}(hj:H[j]?=some ⟨ver,115,BZ ns⟩)(hn:0<ns.length):fz P H false (Ab ns) (.own j ver ns.length):=by
 cases ns with
 |nil=>exact absurd hn (by decide)
 |cons x r=>
  simp only[Ab,fz];exact .inr ⟨trivial,j,_,_,rfl,hj,BL _,.inl trivial,BB,Me P H false _ (R3 _)⟩
theorem Js:AW Tp 41=some true∧Ap Tp 41=some 1:=⟨by kernel_rfl,by kernel_rfl⟩
theorem O2(L:List (AD×Nat)):flat (Cl L)=some [Cl L]:=by cases L<;>rfl
theorem Su(L:List (AD×Nat)):Cd (Cl L)=true:=by cases L<;>rfl
theorem JO{l:List UInt8}{L:List (AD×Nat)}(h:CA l=some L):L.length≤32769:=by
 unfold CA at h
 split at h
 ·cases h;rw[Bk];exact KR l
 ·cases h
def iv(d:Nat):AV:=.v (.int .i64 (d:Int))
def JZ(ds:List Nat)(i:Nat):List AV:=(ds.take i).map iv++List.replicate (ds.length-i) (iv 0)
theorem G1(ds:List Nat){i:Nat}(h:i≤ds.length):(JZ ds i).length=ds.length:=by
 simp only[JZ,Bp,Bk,Bh,BJ];omega
theorem MH{ds:List Nat}{i j d:Nat}(hi:i≤ds.length)(hj:j<i)(hd:ds[j]?=some d):(JZ ds i)[j]?=some (iv d):=by
 unfold JZ;rw[Ba (by simp only[Bk,Bh];omega),Bm,BY,if_pos hj,hd];rfl
theorem LY{ds:List Nat}{i d:Nat}(hd:ds[i]?=some d):(JZ ds i).set i (iv d)=JZ ds (i+1):=by
 have hi:i<ds.length:=(Bs.1 hd).1
 apply List.ext_getElem?
 intro j;rw[List.getElem?_set]
 by_cases hj:i=j
 ·subst hj;rw[if_pos rfl,G1 ds (by omega),if_pos hi,MH (by omega) (by omega) hd]
 ·rw[if_neg hj];unfold JZ
  by_cases hj2:j<i
  ·rw[Ba (by simp only[Bk,Bh];omega),Ba (by simp only[Bk,Bh];omega),Bm,Bm,BY,BY,if_pos hj2,if_pos (by omega)]
  ·rw[Br (by simp only[Bk,Bh];omega),Br (by simp only[Bk,Bh];omega)];simp only[Bk,Bh,List.getElem?_replicate]
   by_cases hj3:j<ds.length
   ·rw[if_pos (by omega),if_pos (by omega)]
   ·rw[if_neg (by omega),if_neg (by omega)]
theorem Za(ds:List Nat):List.replicate ds.length (iv 0)=JZ ds 0:=by simp[JZ]
theorem Lk:AW Tp 115=some true∧
  AW Tp 2=some false∧
  AW Tp 22=some false∧
  AW Tp 3=some false∧
  AW Tp 37=some false∧
  AW Tp 39=some false∧
  AW Tp 48=some false∧
  AW Tp 53=some true∧
  AW Tp 9=some false∧
  A5 Tp 37=some 5∧
  A5 Tp 39=some 115∧
  A5 Tp 48=some 53∧
  A5 Tp 78=some 3∧
  Ak Tp 104 0=some (0,48)∧
  Ak Tp 104 1=some (1,3)∧
  Ak Tp 104 2=some (2,39)∧
  Ak Tp 115 0=some (0,3)∧
  Ak Tp 115 1=some (1,3)∧
  Ak Tp 115 2=some (2,3)∧
  Ak Tp 53 0=some (0,3)∧
  Ak Tp 53 1=some (1,9)∧
  Ak Tp 53 2=some (2,2)∧
  Ak Tp 53 3=some (3,22)∧
  Ak Tp 53 4=some (4,3)∧
  Ak Tp 53 5=some (5,3)∧
  J7 Tp 37=none∧
  C9 Tp 37=none∧
  C9 Tp 5=some .u8∧
  MC Tp 78=some (3,1,[.v (.int .i64 0)])∧
  BR Tp 104=some [(0,1),(1,1),(2,1)]∧
  BR Tp 41=some [(0,1)]∧
  Ap Tp 104=some 3∧
  Ap Tp 115=some 9∧
  Ap Tp 2=some 1∧
  Ap Tp 22=some 1∧
  Ap Tp 3=some 1∧
  Ap Tp 37=some 1∧
  Ap Tp 39=some 1∧
  Ap Tp 41=some 1∧
  Ap Tp 48=some 1∧
  Ap Tp 5=some 1∧
  Ap Tp 53=some 6∧
  Ap Tp 9=some 1∧
  CU Tp 37=false∧
  CU Tp 9=true∧
  (Tryz.prog.underlying 9).isSome=true∧
  Hm Tp 104=some [.v (.slice none 0 0),.v (.int .i64 0),.v (.slice none 0 0)]∧
  Hm Tp 115=some [.v (.int .i64 0),.v (.int .i64 0),.v (.int .i64 0),.v (.string ⟨#[]⟩),.v (.int .i64 0),.v (.int .i64 0),.v (.float .f64 0),.v (.complex .f64 0 0),.v (.string ⟨#[]⟩)]∧
  Hm Tp 41=some [.v (.slice none 0 0)]∧
  Hm Tp 48=some [.v (.slice none 0 0)]:=
 (by and_intros<;>kernel_rfl)
def iO(γ:List (Nat×AV))(t:Tr)(i:Nat):St:=
 ⟨⟨58,[(0,.sl true (lay t 0).length (lay t 0).length (BZ (lay t 0))),(3,.own 0 0 (lay t 0).length),(12,.sl true (lay t 0).length (lay t 0).length (BZ (lay t 0))),(13,.v (.int .i64 ((lay t 0).length:Int))),(14,.v (.int .i64 (i:Int)))],γ⟩,[⟨0,3,JZ (EY t) i⟩]⟩
def limI(t:Tr)(i:Nat):Prop:=i≤t.size∧∀ j,j<i→∀ d,(EY t)[j]?=some d→d≤12
theorem J0{l:List Nd}{i:Nat}{nd:Nd}(h:l[i]?=some nd):((BZ l).drop (i * 9)).take 9=nd.cells:=by
 induction l generalizing i with
 |nil=>cases h
 |cons x l ih=>
  unfold BZ at ih⊢;rw[BE];cases i with
  |zero=>
   simp only[Bz,Option.some.injEq]at h;subst h
   rfl
  |succ i=>
   have e:(i+1) * 9=(Nd.cells x).length+i * 9:=by simp only[Nd.cells,BC,BD];omega
   rw[e,←BT,List.drop_left];exact ih (by simpa using h)
theorem JL(n:Nat)(ds:List Nat)(i:Nat):AG n (JZ ds i)=true:=by
 unfold JZ;rw[Ew,Bool.and_eq_true]
 constructor
 ·generalize ds.take i=l
  induction l with
  |nil=>rfl
  |cons x l ih=>rw[BA,AG,ih];rfl
 ·generalize ds.length-i=k
  induction k with
  |zero=>rfl
  |succ k ih=>rw[List.replicate_succ,AG,ih];rfl
theorem KV(t:Tr)(hw:t.wf)(hb:t.size<4611686018427387904):Ev Tp γ 61 [.sl true (lay t 0).length (lay t 0).length (BZ (lay t 0))] (.v (.int .i64 (EJ t.size t.deep))):=by
 have hlen:=AX t 0;have hdl:=Fe t;refine Ev.of Tryz.func61 rfl ?_
 by_cases h64:64<t.size
 ·have d1:decide ((64:Int)<(((lay t 0).length:Nat):Int))=true:=decide_eq_true (by omega);have e1:EJ t.size t.deep=52:=if_pos h64;rw[e1];simp only[Tryz.f61,d1,Af,AB,seval]
 ·have d1:decide ((64:Int)<(((lay t 0).length:Nat):Int))=false:=decide_eq_false (by omega)
  have hrep:Hd (.int .i64 0) (lay t 0).length=JZ (EY t) 0:=by
   rw[hlen,←hdl,←Za];unfold Hd;generalize (EY t).length=k
   induction k with
   |zero=>rfl
   |succ k ih=>rw[List.replicate_succ,List.flatten_cons,ih];rfl
  have b3:FW Tp 3=some 8:=by kernel_rfl
  have z3:Ev.zeroT Tp 3=some (.int .i64 0):=by kernel_rfl
  have l3:(zeroCells (.int .i64 0)).length=1:=rfl;simp only[Tryz.f61,Lk,d1,b3,z3,l3,hrep,Af,AB,seval];refine⟨⟨Int.le_refl _,by omega,by omega⟩,?_⟩;refine Eg.intro (iO γ t) (limI t) (fun i=>t.size-i) 0 ?_ ⟨BN _,fun j hj=>by omega⟩ (fun i hi=>?_)
  ·refine⟨rfl,rfl,⟨rfl,rfl,rfl,rfl,rfl,trivial⟩,.inl rfl⟩
  ·obtain⟨hi1,hi2⟩:=hi;have hcl:=G1 (EY t) (i:=i) (by omega)
   by_cases hlt:i<t.size
   ·have d2:decide (i<(lay t 0).length)=true:=decide_eq_true (by omega);obtain⟨nd,hnd⟩:∃ nd,(lay t 0)[i]?=some nd:=⟨(lay t 0)[i]'(by omega),by simp[hlen,hlt]⟩;obtain⟨d,hd,hN⟩:=Xe t hw 0 i nd hnd;have h9:=J0 hnd;have h9l:9≤((BZ (lay t 0)).drop (i * 9)).length:=by rw[Bd,CL];omega
    have w1:IntKind.i64.wrap ((i:Int)+1)=((i+1:Nat):Int):=(A7 (by omega) (by omega)).trans (by omega);have hset:=LY hd;have hil:i+1≤(EY t).length:=by omega
    have hin:i<(lay t 0).length:=by omega
    have q1:∀ x,((JZ (EY t) i).set i x)[i]?=some x:=fun x=>Be (by omega)
    have q2:∀ a x y,a<i→(EY t)[a]?=some y→((JZ (EY t) i).set i x)[a]?=some (.v (.int .i64 (y:Int))):=fun a x y ha hy=>(Bn (by omega)).trans (MH (by omega) ha hy)
    simp only[iO,Lk,d2,h9,h9l,hcl,hil,Nd.cells,Af,AB,seval];refine⟨hin,hin,Ae.intro jL rfl (Lq _) ?_⟩;have trm:∀ a x,(EY t)[a]?=some x→a<i→x≤12:=fun a x h ha=>hi2 a ha x h
    have z2:((0:Int)==2)=false:=rfl;have z1:((0:Int)==1)=false:=rfl;have y2:((1:Int)==2)=false:=rfl;have y1:((1:Int)==1)=true:=rfl;have x2:((2:Int)==2)=true:=rfl
    rcases hN with⟨hk,hd1⟩|⟨hk,a,x,hA,ha,hx,hx1,hdx⟩|⟨hk,a,x,b,y,hA,hB,ha,hbb,hx,hy,hdx⟩
    ·subst hd1;have hset:(JZ (EY t) i).set i (.v (.int .i64 1))=JZ (EY t) (i+1):=LY hd;have q9:(JZ (EY t) (i+1))[i]?=some (.v (.int .i64 1)):=MH (by omega) (by omega) hd;have hcl2:=G1 (EY t) (i:=i+1) (by omega);have h12:¬12<1:=by decide
     simp only[Lk,hk,z2,z1,hset,q9,w1,Af,AB,seval];refine⟨hin,?_⟩;refine Cg.intro (i+1) ⟨hlt,fun j hj d' hd'=>?_⟩ ?_ (by omega)
     ·by_cases e:j=i
      ·subst e;rw[hd]at hd';cases hd';omega
      ·exact hi2 j (by omega) d' hd'
     ·exact⟨rfl,rfl,⟨rfl,rfl,rfl,rfl,rfl,trivial⟩,.inr ⟨rfl,rfl,by show okRefB 1 [⟨0,3,JZ (EY t) (i+1)⟩]=true;simp only[okRefB,JL,Bool.and_self]⟩⟩
    ·subst hdx;have hx12:=trm a x hx ha;have hA':nd.a=(a:Int):=by rw[hA,Nat.zero_add]
     have han:a<(lay t 0).length:=by omega
     have q3:=q2 a (.v (.int .i64 1)) x ha hx;have w3:IntKind.i64.wrap (1+(x:Int))=((x+1:Nat):Int):=(A7 (by omega) (by omega)).trans (by omega);have m1:(if ((x+1:Nat):Int)>1 then ((x+1:Nat):Int)else 1)=((x+1:Nat):Int):=if_pos (by clear w3;omega);have qa:=q1 (.v (.int .i64 1));have hcs:((JZ (EY t) i).set i (.v (.int .i64 1))).length=(EY t).length:=by rw[Bl];exact hcl
     have hal:a+1≤(EY t).length:=by clear w3;omega
     have hset:(JZ (EY t) i).set i (.v (.int .i64 (x+1:Nat)))=JZ (EY t) (i+1):=LY hd;have q9:(JZ (EY t) (i+1))[i]?=some (.v (.int .i64 (x+1:Nat))):=MH (by omega) (by omega) hd;have hcl2:=G1 (EY t) (i:=i+1) (by omega)
     by_cases h12:12<x+1
     ·have d3:decide ((12:Int)<((x+1:Nat):Int))=true:=decide_eq_true (by omega)
      have e51:EJ t.size t.deep=51:=by
       have:=X2 t _ (List.mem_of_getElem? hd);unfold EJ;rw[if_neg h64,if_pos (by omega)]
      rw[e51];simp only[Lk,hk,y2,y1,hA',qa,Af,AB,seval];refine dI ?_;simp only[Lk,hcl,hil,qa,q3,w3,m1,List.set_set,hset,q9,d3,Af,AB,seval];exact⟨hin,han,hin⟩
     ·have d3:decide ((12:Int)<((x+1:Nat):Int))=false:=decide_eq_false (by omega);simp only[Lk,hk,y2,y1,hA',qa,w1,Af,AB,seval];refine dI ?_;simp only[Lk,hcl,hil,qa,q3,w3,m1,List.set_set,hset,q9,d3,w1,Af,AB,seval];refine⟨hin,han,hin,hin,?_⟩;refine Cg.intro (i+1) ⟨hlt,fun j hj d' hd'=>?_⟩ ?_ (by omega)
      ·by_cases e:j=i
       ·subst e;rw[hd]at hd';cases hd';omega
       ·exact hi2 j (by omega) d' hd'
      ·exact⟨rfl,rfl,⟨rfl,rfl,rfl,rfl,rfl,trivial⟩,.inr ⟨rfl,rfl,by show okRefB 1 [⟨0,3,JZ (EY t) (i+1)⟩]=true;simp only[okRefB,JL,Bool.and_self]⟩⟩
    ·subst hdx;have hx12:=trm a x hx ha;have hy12:=trm b y hy hbb;have hA':nd.a=(a:Int):=by rw[hA,Nat.zero_add]
     have hB':nd.b=(b:Int):=by rw[hB,Nat.zero_add]
     have hbn:b<(lay t 0).length:=by omega
     have q4:=q2 b (.v (.int .i64 1)) y hbb hy;have han:a<(lay t 0).length:=by omega
     have q3:=q2 a (.v (.int .i64 ((y+1:Nat):Int))) x ha hx;have w3:IntKind.i64.wrap (1+(x:Int))=((x+1:Nat):Int):=(A7 (by omega) (by omega)).trans (by omega);have w4:IntKind.i64.wrap (1+(y:Int))=((y+1:Nat):Int):=(A7 (by clear w3;omega) (by clear w3;omega)).trans (by clear w3;omega);have m1:(if y+1<x+1 then ((x+1:Nat):Int)else ((y+1:Nat):Int))=((max x y+1:Nat):Int):=by clear w3 w4;split<;>omega
     have qa:=q1 (.v (.int .i64 ((y+1:Nat):Int)));have hcs:((JZ (EY t) i).set i (.v (.int .i64 1))).length=(EY t).length:=by rw[Bl];exact hcl
     have hal:a+1≤(EY t).length:=by clear w3 w4;omega
     have hbl:b+1≤(EY t).length:=by clear w3 w4;omega
     have hset:(JZ (EY t) i).set i (.v (.int .i64 (max x y+1:Nat)))=JZ (EY t) (i+1):=LY hd;have q9:(JZ (EY t) (i+1))[i]?=some (.v (.int .i64 (max x y+1:Nat))):=MH (by omega) (by omega) hd;have hcl2:=G1 (EY t) (i:=i+1) (by omega)
     by_cases h12:12<max x y+1
     ·have d3:decide ((12:Int)<((max x y+1:Nat):Int))=true:=decide_eq_true (by omega)
      have e51:EJ t.size t.deep=51:=by
       have:=X2 t _ (List.mem_of_getElem? hd);unfold EJ;rw[if_neg h64,if_pos (by omega)]
      rw[e51];simp only[Lk,hk,x2,hA',hB',q4,w4,hcl,hil,List.set_set,Af,AB,seval];refine⟨hbn,hin,?_⟩;refine dI ?_;simp only[Lk,hcl,hil,qa,q3,w3,m1,List.set_set,hset,q9,d3,Af,AB,seval];exact⟨hin,han,hin⟩
     ·have d3:decide ((12:Int)<((max x y+1:Nat):Int))=false:=decide_eq_false (by omega);simp only[Lk,hk,x2,hA',hB',q4,w4,hcl,hil,List.set_set,w1,Af,AB,seval];refine⟨hbn,hin,?_⟩;refine dI ?_;simp only[Lk,hcl,hil,qa,q3,w3,m1,List.set_set,hset,q9,d3,w1,Af,AB,seval];refine⟨hin,han,hin,hin,?_⟩;refine Cg.intro (i+1) ⟨hlt,fun j hj d' hd'=>?_⟩ ?_ (by omega)
      ·by_cases e:j=i
       ·subst e;rw[hd]at hd';cases hd';omega
       ·exact hi2 j (by omega) d' hd'
      ·exact⟨rfl,rfl,⟨rfl,rfl,rfl,rfl,rfl,trivial⟩,.inr ⟨rfl,rfl,by show okRefB 1 [⟨0,3,JZ (EY t) (i+1)⟩]=true;simp only[okRefB,JL,Bool.and_self]⟩⟩
   ·have d2:decide (i<(lay t 0).length)=false:=decide_eq_false (by omega)
    have e0:EJ t.size t.deep=0:=by
     unfold EJ;have:=hi2 (t.size-1) (by have:=size_pos t;omega) _ (Kb t);rw[if_neg h64,if_neg (by omega)]
    rw[e0];simp only[iO,d2,Af,seval]
theorem c58:Al Tp 58:=⟨_,Tryz.func58,by kernel_rfl,by kernel_rfl⟩
theorem c61:Al Tp 61:=⟨_,Tryz.func61,by kernel_rfl,by kernel_rfl⟩
theorem Xs(s:List Aa)(L:List (AD×Nat)):Dr Tp 48 s (Cl L)=some (.v (.int .i64 L.length)):=by
 have e24:A5 Tp 48=some 53:=by kernel_rfl
 cases L with
 |nil=>simp only[Cl,Dr,e24];rfl
 |cons y T=>simp only[Cl,Dr,e24];rfl
theorem I0{l:List UInt8}{L:List (AD×Nat)}(h:CA l=some L):Hf l=.tup [Cl L,.v (.int .i64 0),.v (.int .i64 0)]:=by
 unfold CA at h;unfold Hf Mv;cases e:(Ag l).find? E1 with
 |none=>rw[e]at h;cases h;rfl
 |some x=>rw[e]at h;cases h
theorem I2{l:List UInt8}(h:CA l=none):∃ x,(Ag l).find? E1=some x∧x.2≠0∧Hf l=.tup [.v (.slice none 0 0),.v (.int .i64 x.1.2),.v (.int .i64 x.2)]:=by
 unfold CA at h;unfold Hf Mv;cases e:(Ag l).find? E1 with
 |none=>rw[e]at h;cases h
 |some x=>exact⟨x,rfl,by simpa[E1]using List.find?_some e,rfl⟩
def Zx(r:Nat):Bool:=match Ieee.double.read r with
 |.number false _ _=>true
 |_=>false
theorem Mu(r:Nat):(∃ s f,Ieee.double.read r=.nan s f)∨(∃ s,Ieee.double.read r=.infinity s)∨∃ s m i,Ieee.double.read r=.number s m i∧m<9007199254740992 ∧ -1074≤i∧i≤971:=by
 have e1:Ieee.double.leastPlace = -1074:=by rfl
 have e2:Ieee.double.binade=4503599627370496:=by rfl
 have e3:Ieee.double.infRung=9218868437227405312:=by rfl
 have e4:Ieee.double.signWeight=9223372036854775808:=by rfl
 unfold Ieee.Format.read;simp only[e1,e2,e3,e4];generalize r%9223372036854775808=u
 split
 ·exact .inr (.inr ⟨_,_,_,rfl,by omega,by omega,by omega⟩)
 ·split
  ·refine .inr (.inr ⟨_,_,_,rfl,by omega,by omega,?_⟩);have:u / 4503599627370496≤2046:=by omega
   omega
  ·split
   ·exact .inr (.inl ⟨_,rfl⟩)
   ·exact .inl ⟨_,_,rfl⟩
theorem Xd(r:Nat):(Ieee.double.read r).neg=(r / 9223372036854775808%2==1):=by
 have e4:Ieee.double.signWeight=9223372036854775808:=by rfl
 unfold Ieee.Format.read;simp only[e4]
 split
 ·rfl
 ·split
  ·rfl
  ·split<;>rfl
theorem U4{r m:Nat}{s:Bool}{i:Int}(h:Ieee.double.read r=.number s m i)(hi : -1074≤i):Ieee.double.order r 0=some (if m=0 then .eq else if s then .lt else .gt):=by
 unfold Ieee.Format.order;rw[h,kG];simp only[Ieee.Datum.order,Ieee.signed,Bool.false_eq_true,if_false,Nat.shiftLeft_eq,Nat.zero_mul];have hp:=one_le_pow (i-min i (-1074)).toNat
 by_cases hm:m=0
 ·subst hm;rw[if_pos rfl,Nat.zero_mul];cases s<;>rfl
 ·have hA:0<m * 2^(i-min i (-1074)).toNat:=Nat.mul_pos (by omega) hp;generalize m * 2^(i-min i (-1074)).toNat=A at *;rw[if_neg hm];cases s with
  |false=>
   have:compare ((A:Nat):Int) ((0:Nat):Int)=.gt:=by rw[Int.compare_eq_gt];omega
   simp only[Bool.false_eq_true,if_false,this]
  |true=>
   have:compare (-((A:Nat):Int)) ((0:Nat):Int)=.lt:=by rw[Int.compare_eq_lt];omega
   simp only[if_true,this]
theorem QV{r m:Nat}{s:Bool}{i:Int}(h:Ieee.double.read r=.number s m i)(hm:m<9007199254740992)(hi:i≤971):(Ieee.double.order r 9218868437227405311==some .gt)=false:=by
 unfold Ieee.Format.order;rw[h,UC];simp only[Ieee.Datum.order,Ieee.signed,Bool.false_eq_true,if_false,Nat.shiftLeft_eq];have e1:(i-min i 971).toNat=0:=by omega
 rw[e1];have hp:=one_le_pow (971-min i 971).toNat;have:9007199254740991≤9007199254740991 * 2^(971-min i 971).toNat:=Nat.le_mul_of_pos_right _ hp;generalize 9007199254740991 * 2^(971-min i 971).toNat=A at *
 have key:∀ x:Int,x≤m→(some (compare x ((A:Nat):Int))==some Ordering.gt)=false:=fun x hx=>by
  have:compare x ((A:Nat):Int)≠.gt:=by rw[Ne,Int.compare_eq_gt];omega
  cases hc:compare x ((A:Nat):Int)with
  |gt=>exact absurd hc this
  |lt=>rfl
  |eq=>rfl
 cases s with
 |false=>exact key _ (by simp)
 |true=>exact key _ (by simp only[if_true];omega)
theorem aA{r m:Nat}{s:Bool}{i:Int}(h:Ieee.double.read r=.number s m i):Ieee.double.sub r r=some 0:=by
 unfold Ieee.Format.sub;rw[h];cases s with
 |false=>
  simp only[Ieee.Datum.opposite,Ieee.Datum.sum,Bf,Ieee.signed,Bool.false_eq_true,if_false,if_true,Option.map_some,Ieee.Format.write];generalize (m <<< (i-min i i).toNat:Nat)=A;have:((A:Nat):Int) + -((A:Nat):Int)=0:=by omega
  rw[this]
  rfl
 |true=>
  simp only[Ieee.Datum.opposite,Ieee.Datum.sum,Bv,Ieee.signed,Bool.false_eq_true,if_false,if_true,Option.map_some,Ieee.Format.write];generalize (m <<< (i-min i i).toNat:Nat)=A;have : -((A:Nat):Int)+((A:Nat):Int)=0:=by omega
  rw[this]
  rfl
theorem div_zero{r:Nat}{s:Bool}{i:Int}(h:Ieee.double.read r=.number s 0 i):Ieee.double.div 4607182418800017408 r=some (if s then 18442240474082181120 else 9218868437227405312):=by
 have r1:Ieee.double.read 4607182418800017408=.number false 4503599627370496 (-52):=by rfl
 unfold Ieee.Format.div;rw[h,r1];simp only[Ieee.Datum.quotient,if_true];cases s<;>rfl
theorem UL{r x f:Nat}{s:Bool}(h:Ieee.double.read r=.nan s f):Ieee.double.order r x=none:=by
 unfold Ieee.Format.order;rw[h];rfl
theorem LU{r:Nat}{s:Bool}(h:Ieee.double.read r=.infinity s):Ieee.double.order r 0=some (if s then .lt else .gt)∧Ieee.double.order r 9218868437227405311=some (if s then .lt else .gt)∧Ieee.double.sub r r=none:=by
 unfold Ieee.Format.order Ieee.Format.sub;rw[h,kG,UC];cases s<;>exact⟨rfl,rfl,rfl⟩
def Fl(t:Tk):Bool:=if t.kind=1 then DB t.text else if t.kind=2 then decide (0≤t.int)else if t.kind=3 then Zx t.real else if t.kind=4 then decide (t.text.length≤256)else t.kind==5
theorem iU:FloatKind.f64.format.order 0 0=some .eq:=by kernel_rfl
theorem oI1:FloatKind.f64.format.order 9218868437227405312 0=some .gt:=by kernel_rfl
theorem oI2:FloatKind.f64.format.order 18442240474082181120 0=some .lt:=by kernel_rfl
theorem q1:(some Ordering.gt==some Ordering.gt)=true:=rfl
theorem q2:(some Ordering.gt==some Ordering.eq)=false:=rfl
theorem q3:(some Ordering.eq==some Ordering.gt)=false:=rfl
theorem q4:(some Ordering.eq==some Ordering.eq)=true:=rfl
theorem q5:(some Ordering.lt==some Ordering.gt)=false:=rfl
theorem q6:(some Ordering.lt==some Ordering.eq)=false:=rfl
theorem q7:((none:Option Ordering)==some Ordering.gt)=false:=rfl
theorem q8:((none:Option Ordering)==some Ordering.eq)=false:=rfl
theorem bA:DZ none=AV.nan:=rfl
theorem Te(r:Nat):Ev Tp γ 285 [.v (.float .f64 r)] (.v (.bool (Zx r))):=by
 refine Ev.of Tryz.func285 rfl ?_;unfold Zx
 rcases Mu r with⟨s,f,h⟩|⟨s,h⟩|⟨s,m,i,h,hm,hi,hj⟩
 ·have o1:FloatKind.f64.format.order r 0=none:=UL h;rw[h];simp only[Tryz.f285,q7,q8,o1,Af,Nat.reduceAdd,Nat.reduceSub,Nat.reduceLT,Nat.reduceEqDiff,reduceCtorEq]
 ·have o1:FloatKind.f64.format.order r 0=some (if s then .lt else .gt):=(LU h).1;have o2:FloatKind.f64.format.sub r r=none:=(LU h).2.2;rw[h];cases s with
  |true=>
   simp only[if_true]at o1;simp only[Tryz.f285,q5,q6,o1,Af,Nat.reduceAdd,Nat.reduceSub,Nat.reduceLT,Nat.reduceEqDiff,reduceCtorEq]
  |false=>
   simp only[Bool.false_eq_true,if_false]at o1;simp only[Tryz.f285,q1,q2,o1,o2,bA,Af,Nat.reduceAdd,Nat.reduceSub,Nat.reduceLT,Nat.reduceEqDiff,reduceCtorEq]
 ·have o1:FloatKind.f64.format.order r 0=some (if m=0 then .eq else if s then .lt else .gt):=U4 h hi;have o2:FloatKind.f64.format.sub r r=some 0:=aA h;rw[h]
  by_cases h0:m=0
  ·subst h0;have o3:FloatKind.f64.format.div 4607182418800017408 r=some (if s then 18442240474082181120 else 9218868437227405312):=div_zero h;simp only[if_true]at o1;cases s with
   |true=>
    simp only[if_true]at o3;simp only[Tryz.f285,q3,q4,q5,o1,o2,o3,iU,oI2,Ef,Af,Nat.reduceAdd,Nat.reduceSub,Nat.reduceLT,Nat.reduceEqDiff,reduceCtorEq]
   |false=>
    simp only[Bool.false_eq_true,if_false]at o3;simp only[Tryz.f285,q1,q3,q4,o1,o2,o3,iU,oI1,Ef,Af,Nat.reduceAdd,Nat.reduceSub,Nat.reduceLT,Nat.reduceEqDiff,reduceCtorEq]
  ·simp only[if_neg h0]at o1;cases s with
   |true=>
    simp only[if_true]at o1;simp only[Tryz.f285,q5,q6,o1,Af,Nat.reduceAdd,Nat.reduceSub,Nat.reduceLT,Nat.reduceEqDiff,reduceCtorEq]
   |false=>
    simp only[Bool.false_eq_true,if_false]at o1;simp only[Tryz.f285,q1,q2,q4,o1,o2,iU,Ef,Af,Nat.reduceAdd,Nat.reduceSub,Nat.reduceLT,Nat.reduceEqDiff,reduceCtorEq]
theorem TZ(t:Tk)(hs:t.text.length≤140737488351232):Ev Tp γ 246 [.agg t.cells] (.v (.bool (Fl t))):=by
 refine Ev.of Tryz.func246 rfl ?_;obtain⟨kd,tx,ti,tr,tp,tz⟩:=t;simp only at hs;unfold Fl;simp only
 by_cases h1:kd=1
 ·subst h1;simp only[Tryz.f246,Dd,Tk.cells,Int.reduceBEq,Af,AB,Nat.reduceAdd,Nat.reduceSub,Nat.reduceLT,Nat.reduceEqDiff,reduceCtorEq];refine Ae.intro c284 rfl (QA tx hs) ?_;simp only[if_true,Af,Nat.reduceLT,Nat.reduceEqDiff,reduceCtorEq]
 ·have d1:(kd==1)=false:=by simpa using h1
  rw[if_neg h1]
  by_cases h2:kd=2
  ·subst h2;simp only[Tryz.f246,Dd,Tk.cells,Int.reduceBEq,if_true,Af,AB,Nat.reduceAdd,Nat.reduceSub,Nat.reduceLT,Nat.reduceEqDiff,reduceCtorEq]
  ·have d2:(kd==2)=false:=by simpa using h2
   rw[if_neg h2]
   by_cases h3:kd=3
   ·subst h3;simp only[Tryz.f246,Dd,Tk.cells,Int.reduceBEq,if_true,Af,AB,Nat.reduceAdd,Nat.reduceSub,Nat.reduceLT,Nat.reduceEqDiff,reduceCtorEq];refine Ae.intro c285 rfl (Te tr) ?_;simp only[Af,Nat.reduceLT,Nat.reduceEqDiff,reduceCtorEq]
   ·have d3:(kd==3)=false:=by simpa using h3
    rw[if_neg h3]
    by_cases h4:kd=4
    ·subst h4;simp only[Tryz.f246,Dd,Tk.cells,Int.reduceBEq,if_true,Af,AB,Nat.reduceAdd,Nat.reduceSub,Nat.reduceLT,Nat.reduceEqDiff,reduceCtorEq];rw[show (decide ((tx.length:Int)≤256))=decide (tx.length≤256)by simp only[decide_eq_decide];omega]
    ·have d4:(kd==4)=false:=by simpa using h4
     rw[if_neg h4];simp only[Tryz.f246,Dd,Tk.cells,d1,d2,d3,d4,Af,AB,Nat.reduceAdd,Nat.reduceSub,Nat.reduceLT,Nat.reduceEqDiff,reduceCtorEq]
theorem c67:Al Tp 67:=⟨_,Tryz.func67,by kernel_rfl,by kernel_rfl⟩
theorem c66:Al Tp 66:=⟨_,Tryz.func66,by kernel_rfl,by kernel_rfl⟩
theorem c121:Al Tp 121:=⟨_,Tryz.func121,by kernel_rfl,by kernel_rfl⟩
theorem c119:Al Tp 119:=⟨_,Tryz.func119,by kernel_rfl,by kernel_rfl⟩
theorem kA:Al Tp 120:=⟨_,Tryz.func120,by kernel_rfl,by kernel_rfl⟩
theorem Tl(l:List UInt8):CJ (Hf l)=true:=by
 cases e:CA l with
 |none=>
  obtain⟨x,_,_,hr⟩:=I2 e;rw[hr];rfl
 |some L=>rw[I0 e];simp only[CJ,AO,M5,Bool.and_self]
theorem Xv(hγ:Gl γ)(hγ2:SY γ)(s:List UInt8)(hs:s.length≤140737488351232):Ev Tp γ 121 [.v (.string ⟨s.toArray⟩)] (.v (.bool (DB s))):=by
 refine Ev.of Tryz.func121 rfl ?_;simp only[Tryz.f121,Lk,Af,Nat.reduceAdd,Nat.reduceSub,Nat.reduceLT,Nat.reduceEqDiff,reduceCtorEq];refine⟨by omega,Ae.lend c58 _ (Oy (k:=⟨0,5,s.map Ai⟩) rfl BB (Mc s)) (Nn hγ hγ2 true s hs) ?_ ?_⟩
 ·exact Tl s
 cases e:CA s with
 |none=>
  obtain⟨x,_,hk,hr⟩:=I2 e;have d1:(x.2==0)=false:=by simpa using hk
  have en:DB s=false:=by unfold DB;rw[e]
  rw[hr,en];simp only[d1,Af,Nat.reduceLT,Nat.reduceEqDiff,reduceCtorEq]
 |some L=>
  rw[I0 e];have ll:=Xs [⟨0,5,s.map Ai⟩] L;have z0:((0:Int)==0)=true:=rfl;simp only[ll,z0,Af,Nat.reduceLT,Nat.reduceEqDiff,reduceCtorEq]
  match L,e with
  |[],e=>
   have en:DB s=false:=by unfold DB;rw[e]
   rw[en];have n0:(((0:Nat):Int)==1)=false:=rfl;simp only[n0,Af,Nat.reduceLT,Nat.reduceEqDiff,reduceCtorEq]
  |[x],e=>
   have en:DB s=(x.1.kind==1&&((x.1.size:Int)==(s.length:Int))):=by unfold DB;rw[e]
   rw[en];have n1:(((1:Nat):Int)==1)=true:=rfl;simp only[n1,Cl,Az,B1,CH,Af,AB,Nat.reduceAdd,Nat.reduceLT,Nat.reduceLeDiff,Nat.reduceEqDiff,reduceCtorEq,Int.reduceLE]
   by_cases hk:x.1.kind=1
   ·have d1:(x.1.kind==1)=true:=by simpa using hk
    simp only[Lk,d1,Af,AB,Nat.reduceLT,Nat.reduceLeDiff,Nat.reduceEqDiff,reduceCtorEq,Int.reduceLE]
    decide
   ·have d1:(x.1.kind==1)=false:=by simpa using hk
    simp only[d1,Af,Nat.reduceLT,Nat.reduceEqDiff,reduceCtorEq];exact⟨by decide,rfl⟩
  |x::y::L,e=>
   have en:DB s=false:=by unfold DB;rw[e]
   rw[en];have n2:(((L.length+1+1:Nat):Int)==1)=false:=by simp only[beq_eq_false_iff_ne,ne_eq];omega
   simp only[n2,Af,Nat.reduceLT,Nat.reduceEqDiff,reduceCtorEq]
theorem KH(r:Nat):Ev Tp γ 119 [.v (.float .f64 r),.v (.int .i64 1)] (.v (.bool (FloatKind.f64.format.order r 9218868437227405311==some .gt))):=by
 refine Ev.of Tryz.func119 rfl ?_;have h00:((1:Int)==0)=false:=by decide
 have h01:decide ((1:Int)<0)=false:=by decide
 simp only[Tryz.f119,h00,Af,Nat.reduceAdd,Nat.reduceSub,Nat.reduceLT,Nat.reduceEqDiff,reduceCtorEq,Int.reduceLT]
theorem XQ(r:Nat)(h:r<18446744073709551616):decide (IntKind.i64.wrap (r:Int)<0)=(Ieee.double.read r).neg:=by
 rw[Xd]
 by_cases hr:r<9223372036854775808
 ·have e1:r / 9223372036854775808=0:=Nat.div_eq_of_lt hr;rw[A7 (by omega) (by omega),e1];exact decide_eq_false (by omega)
 ·have e1:r / 9223372036854775808=1:=by omega
  have e2:IntKind.i64.wrap (r:Int)=(r:Int)-18446744073709551616:=by
   have b1:IntKind.i64.bits=64:=rfl;have b2:IntKind.i64.signed=true:=rfl;have m1:(r:Int)%18446744073709551616=r:=by omega
   unfold IntKind.wrap;rw[b1,b2];show (if (true&&decide ((r:Int)%18446744073709551616≥9223372036854775808))=true then (r:Int)%18446744073709551616-18446744073709551616 else (r:Int)%18446744073709551616)=_;rw[m1,if_pos (by simp;omega)]
  rw[e1,e2];exact decide_eq_true (by omega)
theorem ty2:C9 Tp 2=some .i64∧(Tryz.prog.underlying 176).isSome=true:=⟨by kernel_rfl,by kernel_rfl⟩
theorem TR(r:Nat)(h:r<18446744073709551616):Ev Tp γ 120 [.v (.float .f64 r)] (.v (.bool (Ieee.double.read r).neg)):=by
 have hb:=XQ r h;refine Ev.of Tryz.func120 rfl ?_;simp only[Tryz.f120,Af,Nat.reduceAdd,Nat.reduceSub,Nat.reduceLT,Nat.reduceEqDiff,reduceCtorEq];refine Ae.ext (Y0 r) ?_;simp only[ty2,hb,Af,Nat.reduceLT,Nat.reduceEqDiff,reduceCtorEq]
theorem V7(hγ:Gl γ)(hγ2:SY γ)(t:Tk)(hs:t.text.length≤140737488351232)(hr:t.real<18446744073709551616):Ev Tp γ 67 [.agg t.cells] (.v (.bool (Fl t))):=by
 refine Ev.of Tryz.func67 rfl ?_;obtain⟨kd,tx,ti,tr,tp,tz⟩:=t;simp only at hs hr;unfold Fl;simp only
 by_cases h1:kd=1
 ·subst h1;simp only[Tryz.f67,Tk.cells,Int.reduceBEq,Af,AB,Nat.reduceAdd,Nat.reduceSub,Nat.reduceLT,Nat.reduceEqDiff,reduceCtorEq];refine Ae.intro c121 rfl (Xv hγ hγ2 tx hs) ?_;simp only[if_true,Af,Nat.reduceLT,Nat.reduceEqDiff,reduceCtorEq]
 ·have d1:(kd==1)=false:=by simpa using h1
  rw[if_neg h1]
  by_cases h2:kd=2
  ·subst h2;simp only[Tryz.f67,Tk.cells,Int.reduceBEq,if_true,Af,AB,Nat.reduceAdd,Nat.reduceSub,Nat.reduceLT,Nat.reduceEqDiff,reduceCtorEq]
  ·have d2:(kd==2)=false:=by simpa using h2
   rw[if_neg h2]
   by_cases h3:kd=3
   ·subst h3;rw[if_pos rfl];unfold Zx
    rcases Mu tr with⟨s,f,h⟩|⟨s,h⟩|⟨s,m,i,h,hm,hi,hj⟩
    ·have o1:FloatKind.f64.format.order tr 0=none:=UL h;rw[h];simp only[Tryz.f67,Tk.cells,Int.reduceBEq,q7,q8,o1,Af,AB,Nat.reduceAdd,Nat.reduceSub,Nat.reduceLT,Nat.reduceEqDiff,reduceCtorEq]
    ·have o1:FloatKind.f64.format.order tr 0=some (if s then .lt else .gt):=(LU h).1;have o2:FloatKind.f64.format.order tr 9218868437227405311=some (if s then .lt else .gt):=(LU h).2.1;rw[h];cases s with
     |true=>
      simp only[if_true]at o1;simp only[Tryz.f67,Tk.cells,Int.reduceBEq,q5,q6,o1,Af,AB,Nat.reduceAdd,Nat.reduceSub,Nat.reduceLT,Nat.reduceEqDiff,reduceCtorEq]
     |false=>
      simp only[Bool.false_eq_true,if_false]at o1 o2;simp only[Tryz.f67,Tk.cells,Int.reduceBEq,q1,q2,o1,Af,AB,Nat.reduceAdd,Nat.reduceSub,Nat.reduceLT,Nat.reduceEqDiff,reduceCtorEq];refine Ae.intro c119 rfl (KH tr) ?_;simp only[o2,q1,Af,Bv,Nat.reduceLT,Nat.reduceEqDiff,reduceCtorEq]
    ·have o1:FloatKind.f64.format.order tr 0=some (if m=0 then .eq else if s then .lt else .gt):=U4 h hi;have o2:(FloatKind.f64.format.order tr 9218868437227405311==some .gt)=false:=QV h hm hj;have hn:=TR (γ:=γ) tr hr;rw[h]at hn⊢;have hn:Ev Tp γ 120 [.v (.float .f64 tr)] (.v (.bool s)):=hn
     by_cases h0:m=0
     ·simp only[if_pos h0]at o1;simp only[Tryz.f67,Tk.cells,Int.reduceBEq,q3,q4,o1,Af,AB,Nat.reduceAdd,Nat.reduceSub,Nat.reduceLT,Nat.reduceEqDiff,reduceCtorEq];refine Ae.intro c119 rfl (KH tr) ?_;simp only[o2,Af,AB,Bf,Nat.reduceLT,Nat.reduceEqDiff,reduceCtorEq];refine Ae.intro kA rfl hn ?_;simp only[Af,Nat.reduceLT,Nat.reduceEqDiff,reduceCtorEq];cases s<;>rfl
     ·simp only[if_neg h0]at o1;cases s with
      |true=>
       simp only[if_true]at o1;simp only[Tryz.f67,Tk.cells,Int.reduceBEq,q5,q6,o1,Af,AB,Nat.reduceAdd,Nat.reduceSub,Nat.reduceLT,Nat.reduceEqDiff,reduceCtorEq]
      |false=>
       simp only[Bool.false_eq_true,if_false]at o1;simp only[Tryz.f67,Tk.cells,Int.reduceBEq,q1,q2,o1,Af,AB,Nat.reduceAdd,Nat.reduceSub,Nat.reduceLT,Nat.reduceEqDiff,reduceCtorEq];refine Ae.intro c119 rfl (KH tr) ?_;simp only[o2,Af,AB,Bf,Nat.reduceLT,Nat.reduceEqDiff,reduceCtorEq];refine Ae.intro kA rfl hn ?_;simp only[Af,Bf,Nat.reduceLT,Nat.reduceEqDiff,reduceCtorEq]
   ·have d3:(kd==3)=false:=by simpa using h3
    rw[if_neg h3]
    by_cases h4:kd=4
    ·subst h4;simp only[Tryz.f67,Lk,Tk.cells,Int.reduceBEq,if_true,Af,AB,Nat.reduceAdd,Nat.reduceSub,Nat.reduceLT,Nat.reduceEqDiff,reduceCtorEq];rw[show (decide ((tx.length:Int)≤256))=decide (tx.length≤256)by simp only[decide_eq_decide];omega]
    ·have d4:(kd==4)=false:=by simpa using h4
     rw[if_neg h4];simp only[Tryz.f67,Tk.cells,d1,d2,d3,d4,Af,AB,Nat.reduceAdd,Nat.reduceSub,Nat.reduceLT,Nat.reduceEqDiff,reduceCtorEq]
theorem Y5(hγ:Gl γ)(hγ2:SY γ)(t:Tk)(hs:t.text.length≤140737488351232)(hr:t.real<18446744073709551616):Ev Tp γ 66 [.agg t.cells] (.v (.bool (!Fl t))):=by
 refine Ev.of Tryz.func66 rfl ?_;simp only[Tryz.f66,Tk.cells,Af,AB,Nat.reduceAdd,Nat.reduceSub,Nat.reduceLT,Nat.reduceLeDiff,Nat.reduceEqDiff,reduceCtorEq];refine Ae.intro c67 rfl (V7 hγ hγ2 t hs hr) ?_;simp only[Af,Nat.reduceLT,Nat.reduceEqDiff,reduceCtorEq]
def NS(ts:List Tk):Nat:=(ts.takeWhile Fl).length
theorem TL(ts:List Tk):NS ts≤ts.length:=(List.takeWhile_prefix Fl).length_le
theorem Qk:∀ (ts:List Tk) (k:Nat) (t:Tk),k<NS ts→ts[k]?=some t→Fl t=true
 |[],k,t,h,ht=>by cases ht
 |x::ts,k,t,h,ht=>by
  unfold NS at h;rw[List.takeWhile_cons]at h
  split at h
  ·rename_i hx;cases k with
   |zero=>cases ht;exact hx
   |succ k=>exact Qk ts k t (by unfold NS;rw[BC]at h;omega) (by simpa using ht)
  ·simp at h
theorem TW:∀ (ts:List Tk) (t:Tk),ts[NS ts]?=some t→Fl t=false
 |[],t,ht=>by cases ht
 |x::ts,t,ht=>by
  unfold NS at ht;rw[List.takeWhile_cons]at ht
  split at ht
  ·exact TW ts t (by unfold NS;simpa using ht)
  ·rename_i hx;cases ht;simpa using hx
theorem gB{ts:List Tk}{k:Nat}{t:Tk}(hk:k≤NS ts)(ht:ts[k]?=some t)(hs:Fl t=true):k+1≤NS ts:=by
 by_cases h:k=NS ts
 ·rw[h]at ht;rw[TW ts t ht]at hs;cases hs
 ·omega
theorem fJ{ts:List Tk}{k:Nat}{t:Tk}(hk:k≤NS ts)(ht:ts[k]?=some t)(hs:Fl t=false):k=NS ts:=by
 by_cases h:k=NS ts
 ·exact h
 ·rw[Qk ts k t (by omega) ht]at hs;cases hs
def NW(ts:List Tk):Int:=if NS ts<ts.length then (NS ts:Int)else -1
theorem c65:Al Tp 65:=⟨_,Tryz.func65,by kernel_rfl,by kernel_rfl⟩
def Qo(t:Tk):Prop:=t.text.length≤140737488351232∧t.real<18446744073709551616
def jD(γ:List (Nat×AV))(L:AV)(n k:Nat):St:=⟨⟨19,[(0,L),(1,.v (.func (.func 66) #[] #[])),(7,.v (.int .i64 (n:Int))),(8,.v (.int .i64 (k:Int)))],γ⟩,[]⟩
theorem RF(hγ:Gl γ)(hγ2:SY γ){L:AV}{ts:List Tk}(hL:Fc L ts)(ht:∀ t∈ts,Qo t)(hn:ts.length<4611686018427387904):Ev Tp γ 65 [L,.v (.func (.func 66) #[] #[])] (.v (.int .i64 (NW ts))):=by
 refine Ev.ofE Tryz.func65 rfl ?_
 rcases hL with⟨rfl,rfl⟩|⟨b,m,cs,rfl,hcs⟩
 ·simp only[Tryz.f65,Af,AB,seval];refine C1.intro (jD γ (.v (.slice none 0 0)) 0) (fun k=>k=0) (fun k=>0) 0 ⟨rfl,rfl,⟨rfl,rfl,rfl,rfl,trivial⟩,rfl⟩ rfl (fun k hk=>?_);subst hk;have d0:decide (((0:Nat):Int)<((0:Nat):Int))=false:=by decide
  simp only[jD,Af,seval]
  rfl
 ·simp only[Tryz.f65,Af,AB,seval];refine C1.intro (jD γ (.sl b ts.length m cs) ts.length) (fun k=>k≤NS ts) (fun k=>ts.length-k) 0 ⟨rfl,rfl,⟨rfl,rfl,rfl,rfl,trivial⟩,rfl⟩ (BN _) (fun k hk=>?_);have hle:=TL ts
  by_cases hlt:k<ts.length
  ·have d2:decide (k<ts.length)=true:=decide_eq_true hlt;obtain⟨t,htk⟩:∃ t,ts[k]?=some t:=⟨ts[k],by simp[hlt]⟩;have h6:=Fc.take hcs htk;have h6l:6≤(cs.drop (k * 6)).length:=by have:=Fc.len hcs hlt;rw[Bd];omega
   have hok:=ht t (List.mem_of_getElem? htk);have w1:IntKind.i64.wrap ((k:Int)+1)=((k+1:Nat):Int):=(A7 (by omega) (by omega)).trans (by omega);simp only[jD,d2,h6,h6l,Af,AB,seval];refine⟨hlt,Ix.intro c66 _ (Ce.ofEv (.inl ⟨rfl,rfl⟩) (Y5 hγ hγ2 t hok.1 hok.2)) (fun r h' hh=>?_) (fun v h' hh=>by cases hh.1)⟩;obtain⟨e,rfl⟩:=hh;cases e;cases hs:Fl t with
   |true=>
    simp only[w1,Af,Bv,seval];exact B3.intro (k+1) (gB hk htk hs) ⟨rfl,rfl,⟨rfl,rfl,rfl,rfl,trivial⟩,rfl⟩ (by show ts.length-(k+1)<ts.length-k;clear w1;omega)
   |false=>
    have ek:=fJ hk htk hs;have hi:NW ts=(k:Int):=by unfold NW;rw[←ek,if_pos hlt]
    rw[hi];simp only[Af,Bf,seval]
  ·have d2:decide (k<ts.length)=false:=decide_eq_false hlt;have hi:NW ts = -1:=by unfold NW;rw[if_neg (by omega)]
   rw[hi];simp only[jD,d2,Af,seval]
def D6(ts:List Tk)(p:Nat):Nat:=p+NS (ts.drop p)
def Ci(ts:List Tk)(f:Int):List Nd×Int×Int:=
 if f<0∨(ts.length:Int)<f then ([],0,2)else match Hs (ts.take (D6 ts f.toNat)) f.toNat with
  |.bad q=>([],q,50)
  |.ok t q=>if EJ t.size t.deep=0 then (lay t 0,q,0)else ([],f,EJ t.size t.deep)
def O8(ts:List Tk)(f:Int):AV:=.tup [.agg [Ab (Ci ts f).1],.v (.int .i64 (Ci ts f).2.1),.v (.int .i64 (Ci ts f).2.2)]
theorem LS{ts:List Tk}{p:Nat}(hp:p≤ts.length):D6 ts p≤ts.length:=by
 have:=TL (ts.drop p);rw[Bd]at this;unfold D6;omega
theorem I7(a b:List Tk):Cs (a++b)=Cs a++Cs b:=List.flatMap_append
theorem QS{ts:List Tk}{cs:List AV}(h:Cs ts<+:cs)(k:Nat):Cs (ts.take k)<+:cs:=by
 refine List.IsPrefix.trans ?_ h;have:ts=ts.take k++ts.drop k:=(List.take_append_drop k ts).symm
 conv=>rhs;rw[this,I7]
 exact List.prefix_append _ _
theorem YU{ts:List Tk}{cs:List AV}(h:Cs ts<+:cs){k:Nat}(hk:k≤ts.length):Cs (ts.drop k)<+:cs.drop (k * 6):=by
 obtain⟨r,rfl⟩:=h;have e:ts=ts.take k++ts.drop k:=(List.take_append_drop k ts).symm;have hl:(Cs (ts.take k)).length=k * 6:=by rw[EU,Bh,Nat.min_eq_left hk]
 conv=>rhs;rw[e,I7,Bo,←hl,List.drop_left]
 exact List.prefix_append _ _
def lE(L:AV)(ts:List Tk):Prop:=(L=.v (.slice none 0 0)∧ts=[])∨∃ b m cs,L=.sl b ts.length m cs∧Cs ts<+:cs∧cs.length≤m * 6∧ts.length≤m
theorem c26:Al Tp 26:=⟨_,Tryz.func26,by kernel_rfl,by kernel_rfl⟩
theorem Vl(hγ:Gl γ)(hγ2:SY γ){L:AV}{ts:List Tk}(hL:lE L ts)(ht:∀ t∈ts,Qo t)(hn:ts.length≤2000000)(f:Int):Ev Tp γ 26 [L,.v (.int .i64 f)] (O8 ts f):=by
 refine Ev.ofE Tryz.func26 rfl ?_
 have ll:∀ s,Dr Tp 48 s L=some (.v (.int .i64 ts.length)):=fun s=>by
  have e24:A5 Tp 48=some 53:=by kernel_rfl
  rcases hL with⟨rfl,rfl⟩|⟨b,m,cs,rfl,_⟩
  ·simp only[Dr,e24];rfl
  ·simp only[Dr,e24];rfl
 have fl:flat L=some [L]:=by rcases hL with⟨rfl,rfl⟩|⟨b,m,cs,rfl,_⟩<;>rfl
 have fo:Cd L=true:=by rcases hL with⟨rfl,rfl⟩|⟨b,m,cs,rfl,_⟩<;>rfl
 unfold O8
 by_cases h1:f<0
 ·have d1:decide (f<0)=true:=decide_eq_true h1;have hR:Ci ts f=([],0,2):=by unfold Ci;rw[if_pos (.inl h1)]
  rw[hR];simp only[Tryz.f26,Lk,Js,d1,Ab,Af,Nat.reduceAdd,Nat.reduceSub,Nat.reduceLT,Nat.reduceLeDiff,Nat.reduceEqDiff,reduceCtorEq]
 ·have d1:decide (f<0)=false:=decide_eq_false h1
  by_cases h2:(ts.length:Int)<f
  ·have d2:decide ((ts.length:Int)<f)=true:=decide_eq_true h2;have hR:Ci ts f=([],0,2):=by unfold Ci;rw[if_pos (.inr h2)]
   rw[hR];simp only[Tryz.f26,Lk,Js,ll,d1,d2,Ab,Af,Nat.reduceAdd,Nat.reduceSub,Nat.reduceLT,Nat.reduceLeDiff,Nat.reduceEqDiff,reduceCtorEq]
  ·have d2:decide ((ts.length:Int)<f)=false:=decide_eq_false h2;obtain⟨p,rfl⟩:∃ p:Nat,f=p:=⟨f.toNat,by omega⟩;have hp:p≤ts.length:=by omega
   have hR:Ci ts p=match Hs (ts.take (D6 ts p)) p with
     |.bad q=>([],(q:Int),50)
     |.ok t q=>if EJ t.size t.deep=0 then (lay t 0,(q:Int),0)else ([],(p:Int),EJ t.size t.deep):=by
    unfold Ci;rw[if_neg (by omega),Int.toNat_natCast]
   have d2:decide (ts.length<p)=false:=decide_eq_false (by omega);clear h1 h2
   rcases hL with⟨rfl,rfl⟩|⟨b,m,cs,rfl,hcs,hc1,hc2⟩
   ·have hp0:p=0:=Nat.le_zero.1 hp;subst hp0;have dm:decide ((0:Int) ≤ -1)=false:=by decide
    simp only[Tryz.f26,Lk,ll,d1,fl,fo,Af,AB,Nat.reduceAdd,Nat.reduceSub,Nat.reduceLT,Nat.reduceLeDiff,Nat.reduceEqDiff,reduceCtorEq];refine Am.pure (Ae.intro c65 rfl (RF hγ hγ2 (.inl ⟨rfl,rfl⟩) (fun t h=>by cases h) (by decide)) ?_);have e0:NW [] = -1:=rfl;simp only[e0,Af,Nat.reduceLT,Nat.reduceEqDiff,reduceCtorEq,Int.reduceLE];have hcut2:(([]:List Tk).take (D6 [] 0)).length=0:=by simp
    refine Am.intro c60 _ (Pl (ts:=([]:List Tk).take (D6 [] 0)) (.inl ⟨rfl,List.take_nil⟩) (by rw[hcut2];decide) (h:=[⟨0,41,[.v (.slice none 0 0)]⟩,⟨0,104,[.v (.slice none 0 0),.v (.int .i64 (((0:Nat)):Int)),.v (.slice none 0 0)]⟩]) (i:=1) (p:=0) (N:=.v (.slice none 0 0)) (ns:=[]) (BN _) ⟨rfl,.inl ⟨rfl,rfl⟩⟩ (by simp)) (fun r h1 hh=>?_) (fun v h' hh=>?_)
    rotate_left
    ·obtain⟨_,hh⟩:=hh;cases er:Hs (([]:List Tk).take (D6 [] 0)) 0 with
     |bad q=>rw[er]at hh;cases hh
     |ok t q=>rw[er]at hh;cases hh.1
    obtain⟨f1,hh⟩:=hh;have k0:h1[0]?=some ⟨0,41,[.v (.slice none 0 0)]⟩:=f1.at rfl fun h=>h.elim (fun e=>by cases e) fun e=>e
    have kz:∀ b,(h1.set 0 b)[0]?=some b:=fun b=>Be (Bs.1 k0).1
    cases er:Hs (([]:List Tk).take (D6 [] 0)) 0 with
    |bad q=>
     rw[er]at hh hR;have hh:Out.ret r=Out.ret (.v (.int .i64 (q:Int))):=hh;cases hh;have d4:decide ((0:Int)≤(q:Int))=true:=decide_eq_true (by omega);rw[hR];simp only[Lk,k0,kz,Js,Ab,Af,Nat.reduceLT,Nat.reduceLeDiff,Nat.reduceEqDiff,reduceCtorEq]
    |ok t q=>
     rw[er]at hh hR;obtain⟨eo,N',r1,n1⟩:=hh;cases eo;have hr1:h1[1]?=_:=r1.1;have d4:decide ((0:Int) ≤ -1)=false:=by decide
     have hadv:=DY _ _ _ _ _ _ (BN _) er;obtain⟨⟨g1,g2⟩,g3⟩:=hadv;have hwf:=U2 _ _ _ _ _ _ (fun n a e=>by cases e) er;have hsz:t.size≤2000001:=(by rw[hcut2]at *;omega);have hN:=r1.2;rw[Bi,BD]at hN;have hlen:=AX t 0;have hps:=size_pos t;obtain⟨j,ver,rfl,hj⟩:=hN.own (by omega);simp only[hr1,Af,AB,Nat.reduceLT,Nat.reduceEqDiff,reduceCtorEq,Int.reduceLE];refine Am.pure (Ae.lend c61 _ (Oy hj BB (R3 _)) (KV t hwf (by omega)) rfl ?_)
     by_cases hk:EJ t.size t.deep=0
     ·have d5:(EJ t.size t.deep != 0)=false:=by simpa using hk
      have hj0:j≠0:=fun e=>by subst e;rw[k0]at hj;cases hj
      have kx:∀ b,(h1.set 0 b)[1]?=some _:=fun b=>(Bn (by decide)).trans hr1
      rw[hR];simp only[if_pos hk];simp only[d5,Af,Nat.reduceLT,Nat.reduceEqDiff,reduceCtorEq];refine Cp.orders [[0,1,2,3,4,5,6,7,8,9,10,11],[0,1,2,3,4,9,5,6,7,8,10,11],[0,1,2,3,4,5,9,6,7,8,10,11],[0,1,2,3,4,5,6,9,7,8,10,11],[0,1,2,3,4,5,6,7,9,8,10,11]] (by kernel_rfl) (by kernel_rfl) (by kernel_rfl) (fun p hp=>?_);simp only[BI,List.not_mem_nil,or_false]at hp
      rcases hp with rfl|rfl|rfl|rfl|rfl
      all_goals simp only[CQ,BU,Bu,Bz,Lk,hr1,kx,k0,kz,Js,Af,AB,Nat.reduceLT,Nat.reduceLeDiff,Nat.reduceEqDiff,reduceCtorEq]
      all_goals exact Kk ((Bn (Ne.symm hj0)).trans hj) (by omega)
     ·have d5:(EJ t.size t.deep != 0)=true:=by simpa using hk
      rw[hR];simp only[if_neg hk];simp only[Lk,d5,k0,kz,Js,Ab,Af,Nat.reduceLT,Nat.reduceLeDiff,Nat.reduceEqDiff,reduceCtorEq]
   ·have e1:=Bd (i:=p) (l:=ts);simp only[Tryz.f26,Lk,ll,d1,d2,fl,fo,Af,AB,Nat.reduceAdd,Nat.reduceSub,Nat.reduceLT,Nat.reduceLeDiff,Nat.reduceEqDiff,reduceCtorEq];refine⟨⟨hc1,hc2,hp⟩,Am.pure (Ae.intro c65 rfl (RF hγ hγ2 (ts:=ts.drop p) (.inr ⟨b,_,_,by rw[e1],YU hcs hp⟩) (fun t h=>ht t (List.mem_of_mem_drop h)) (by omega)) ?_)⟩
    by_cases hb:NS (ts.drop p)<(ts.drop p).length
    ·have e0:NW (ts.drop p)=(NS (ts.drop p):Int):=by unfold NW;rw[if_pos hb]
     have d3:decide ((0:Int)≤(NS (ts.drop p):Int))=true:=decide_eq_true (by omega);have w1:IntKind.i64.wrap ((p:Int)+(NS (ts.drop p):Int))=((D6 ts p:Nat):Int):=(A7 (by omega) (by omega)).trans (by unfold D6;omega);have hcut:=LS hp;have hcut2:(ts.take (D6 ts p)).length=D6 ts p:=by rw[Bh];omega
     simp only[e0,w1,Af,AB,Nat.reduceAdd,Nat.reduceLT,Nat.reduceLeDiff,Nat.reduceEqDiff,reduceCtorEq];refine⟨⟨hc1,by omega⟩,?_⟩;refine Am.intro c60 _ (Pl (ts:=ts.take (D6 ts p)) (.inr ⟨b,m,cs,by rw[hcut2],QS hcs _⟩) (by omega) (h:=[⟨0,41,[.v (.slice none 0 0)]⟩,⟨0,104,[.sl b (D6 ts p) m cs,.v (.int .i64 (p:Int)),.v (.slice none 0 0)]⟩]) (i:=1) (p:=p) (N:=.v (.slice none 0 0)) (ns:=[]) (by rw[hcut2];unfold D6;omega) ⟨rfl,.inl ⟨rfl,rfl⟩⟩ (by rw[hcut2,BD];omega)) (fun r h1 hh=>?_) (fun v h' hh=>?_)
     rotate_left
     ·obtain⟨_,hh⟩:=hh;cases er:Hs (ts.take (D6 ts p)) p with
      |bad q=>rw[er]at hh;cases hh
      |ok t q=>rw[er]at hh;cases hh.1
     obtain⟨f1,hh⟩:=hh;have k0:h1[0]?=some ⟨0,41,[.v (.slice none 0 0)]⟩:=f1.at rfl fun h=>h.elim (fun e=>by cases e) fun e=>e
     have kz:∀ b,(h1.set 0 b)[0]?=some b:=fun b=>Be (Bs.1 k0).1
     cases er:Hs (ts.take (D6 ts p)) p with
     |bad q=>
      rw[er]at hh hR;have hh:Out.ret r=Out.ret (.v (.int .i64 (q:Int))):=hh;cases hh;have d4:decide ((0:Int)≤(q:Int))=true:=decide_eq_true (by omega);rw[hR];simp only[Lk,k0,kz,Js,Ab,Af,Nat.reduceLT,Nat.reduceLeDiff,Nat.reduceEqDiff,reduceCtorEq]
     |ok t q=>
      rw[er]at hh hR;obtain⟨eo,N',r1,n1⟩:=hh;cases eo;have hr1:h1[1]?=_:=r1.1;have d4:decide ((0:Int) ≤ -1)=false:=by decide
      have hadv:=DY _ _ _ _ _ _ (by rw[hcut2];unfold D6;omega) er;obtain⟨⟨g1,g2⟩,g3⟩:=hadv;have hwf:=U2 _ _ _ _ _ _ (fun n a e=>by cases e) er;have hsz:t.size≤2000001:=(by rw[hcut2]at *;omega);have hN:=r1.2;rw[Bi,BD]at hN;have hlen:=AX t 0;have hps:=size_pos t;obtain⟨j,ver,rfl,hj⟩:=hN.own (by omega);simp only[hr1,Af,AB,Nat.reduceLT,Nat.reduceEqDiff,reduceCtorEq,Int.reduceLE];refine Am.pure (Ae.lend c61 _ (Oy hj BB (R3 _)) (KV t hwf (by omega)) rfl ?_)
      by_cases hk:EJ t.size t.deep=0
      ·have d5:(EJ t.size t.deep != 0)=false:=by simpa using hk
       have hj0:j≠0:=fun e=>by subst e;rw[k0]at hj;cases hj
       have kx:∀ b,(h1.set 0 b)[1]?=some _:=fun b=>(Bn (by decide)).trans hr1
       rw[hR];simp only[if_pos hk];simp only[d5,Af,Nat.reduceLT,Nat.reduceEqDiff,reduceCtorEq];refine Cp.orders [[0,1,2,3,4,5,6,7,8,9,10,11],[0,1,2,3,4,9,5,6,7,8,10,11],[0,1,2,3,4,5,9,6,7,8,10,11],[0,1,2,3,4,5,6,9,7,8,10,11],[0,1,2,3,4,5,6,7,9,8,10,11]] (by kernel_rfl) (by kernel_rfl) (by kernel_rfl) (fun p hp=>?_);simp only[BI,List.not_mem_nil,or_false]at hp
       rcases hp with rfl|rfl|rfl|rfl|rfl
       all_goals simp only[CQ,BU,Bu,Bz,Lk,hr1,kx,k0,kz,Js,Af,AB,Nat.reduceLT,Nat.reduceLeDiff,Nat.reduceEqDiff,reduceCtorEq]
       all_goals exact Kk ((Bn (Ne.symm hj0)).trans hj) (by omega)
      ·have d5:(EJ t.size t.deep != 0)=true:=by simpa using hk
       rw[hR];simp only[if_neg hk];simp only[Lk,d5,k0,kz,Js,Ab,Af,Nat.reduceLT,Nat.reduceLeDiff,Nat.reduceEqDiff,reduceCtorEq]
    ·have e0:NW (ts.drop p) = -1:=by unfold NW;rw[if_neg hb]
     have dm:decide ((0:Int) ≤ -1)=false:=by decide
     have hcut:D6 ts p=ts.length:=by have:=TL (ts.drop p);unfold D6;omega
     simp only[e0,Af,Nat.reduceLT,Nat.reduceEqDiff,reduceCtorEq,Int.reduceLE];have hcut2:(ts.take (D6 ts p)).length=ts.length:=by rw[Bh];omega
     refine Am.intro c60 _ (Pl (ts:=ts.take (D6 ts p)) (.inr ⟨b,m,cs,by rw[hcut2],QS hcs _⟩) (by omega) (h:=[⟨0,41,[.v (.slice none 0 0)]⟩,⟨0,104,[.sl b ts.length m cs,.v (.int .i64 (p:Int)),.v (.slice none 0 0)]⟩]) (i:=1) (p:=p) (N:=.v (.slice none 0 0)) (ns:=[]) (by rw[hcut2];omega) ⟨rfl,.inl ⟨rfl,rfl⟩⟩ (by rw[hcut2,BD];omega)) (fun r h1 hh=>?_) (fun v h' hh=>?_)
     rotate_left
     ·obtain⟨_,hh⟩:=hh;cases er:Hs (ts.take (D6 ts p)) p with
      |bad q=>rw[er]at hh;cases hh
      |ok t q=>rw[er]at hh;cases hh.1
     obtain⟨f1,hh⟩:=hh;have k0:h1[0]?=some ⟨0,41,[.v (.slice none 0 0)]⟩:=f1.at rfl fun h=>h.elim (fun e=>by cases e) fun e=>e
     have kz:∀ b,(h1.set 0 b)[0]?=some b:=fun b=>Be (Bs.1 k0).1
     cases er:Hs (ts.take (D6 ts p)) p with
     |bad q=>
      rw[er]at hh hR;have hh:Out.ret r=Out.ret (.v (.int .i64 (q:Int))):=hh;cases hh;have d4:decide ((0:Int)≤(q:Int))=true:=decide_eq_true (by omega);rw[hR];simp only[Lk,k0,kz,Js,Ab,Af,Nat.reduceLT,Nat.reduceLeDiff,Nat.reduceEqDiff,reduceCtorEq]
     |ok t q=>
      rw[er]at hh hR;obtain⟨eo,N',r1,n1⟩:=hh;cases eo;have hr1:h1[1]?=_:=r1.1;have d4:decide ((0:Int) ≤ -1)=false:=by decide
      have hadv:=DY _ _ _ _ _ _ (by rw[hcut2];omega) er;obtain⟨⟨g1,g2⟩,g3⟩:=hadv;have hwf:=U2 _ _ _ _ _ _ (fun n a e=>by cases e) er;have hsz:t.size≤2000001:=(by rw[hcut2]at *;omega);have hN:=r1.2;rw[Bi,BD]at hN;have hlen:=AX t 0;have hps:=size_pos t;obtain⟨j,ver,rfl,hj⟩:=hN.own (by omega);simp only[hr1,Af,AB,Nat.reduceLT,Nat.reduceEqDiff,reduceCtorEq,Int.reduceLE];refine Am.pure (Ae.lend c61 _ (Oy hj BB (R3 _)) (KV t hwf (by omega)) rfl ?_)
      by_cases hk:EJ t.size t.deep=0
      ·have d5:(EJ t.size t.deep != 0)=false:=by simpa using hk
       have hj0:j≠0:=fun e=>by subst e;rw[k0]at hj;cases hj
       have kx:∀ b,(h1.set 0 b)[1]?=some _:=fun b=>(Bn (by decide)).trans hr1
       rw[hR];simp only[if_pos hk];simp only[d5,Af,Nat.reduceLT,Nat.reduceEqDiff,reduceCtorEq];refine Cp.orders [[0,1,2,3,4,5,6,7,8,9,10,11],[0,1,2,3,4,9,5,6,7,8,10,11],[0,1,2,3,4,5,9,6,7,8,10,11],[0,1,2,3,4,5,6,9,7,8,10,11],[0,1,2,3,4,5,6,7,9,8,10,11]] (by kernel_rfl) (by kernel_rfl) (by kernel_rfl) (fun p hp=>?_);simp only[BI,List.not_mem_nil,or_false]at hp
       rcases hp with rfl|rfl|rfl|rfl|rfl
       all_goals simp only[CQ,BU,Bu,Bz,Lk,hr1,kx,k0,kz,Js,Af,AB,Nat.reduceLT,Nat.reduceLeDiff,Nat.reduceEqDiff,reduceCtorEq]
       all_goals exact Kk ((Bn (Ne.symm hj0)).trans hj) (by omega)
      ·have d5:(EJ t.size t.deep != 0)=true:=by simpa using hk
       rw[hR];simp only[if_neg hk];simp only[Lk,d5,k0,kz,Js,Ab,Af,Nat.reduceLT,Nat.reduceLeDiff,Nat.reduceEqDiff,reduceCtorEq]
theorem ZF{ts:List Tk}(ht:∀ t∈ts,Qo t)(hn:ts.length≤2000000){p:Nat}(hp:p≤ts.length):Zt γ Fl ts (ts.take (D6 ts p)) p:=by
 have hcut:=LS hp;have hcut2:(ts.take (D6 ts p)).length=D6 ts p:=by rw[Bh];omega
 refine⟨List.take_prefix _ _,fun k t hk h=>?_,fun t h=>?_,fun t h=>TZ t (ht t h).1,by omega⟩
 ·have hk2:k<D6 ts p:=by have:=(Bs.1 h).1;omega
  rw[BY,if_pos hk2]at h;refine Qk (ts.drop p) (k-p) t (by unfold D6 at hk2;omega) ?_;rw[BX,show p+(k-p)=k from by omega];exact h
 ·rw[hcut2]at h;refine TW (ts.drop p) t ?_;rw[BX];exact h
theorem VE{L:AV}{ts:List Tk}(hL:Fc L ts)(ht:∀ t∈ts,Qo t)(hn:ts.length≤2000000)(f:Int):Ev Tp γ 27 [L,.v (.int .i64 f)] (O8 ts f):=by
 refine Ev.ofG Tryz.func27 rfl ?_
 have ll:∀ s,Dr Tp 47 s L=some (.v (.int .i64 ts.length)):=fun s=>by
  have e24:A5 Tp 47=some 54:=by kernel_rfl
  rcases hL with⟨rfl,rfl⟩|⟨b,m,cs,rfl,_⟩
  ·simp only[Dr,e24];rfl
  ·simp only[Dr,e24];rfl
 have fl:flat L=some [L]:=by rcases hL with⟨rfl,rfl⟩|⟨b,m,cs,rfl,_⟩<;>rfl
 have fo:Cd L=true:=by rcases hL with⟨rfl,rfl⟩|⟨b,m,cs,rfl,_⟩<;>rfl
 unfold O8
 by_cases h1:f<0
 ·have d1:decide (f<0)=true:=decide_eq_true h1;have hR:Ci ts f=([],0,2):=by unfold Ci;rw[if_pos (.inl h1)]
  rw[hR];simp only[Tryz.f27,Dd,Js,d1,Ab,CP,seval]
 ·have d1:decide (f<0)=false:=decide_eq_false h1
  by_cases h2:(ts.length:Int)<f
  ·have d2:decide ((ts.length:Int)<f)=true:=decide_eq_true h2;have hR:Ci ts f=([],0,2):=by unfold Ci;rw[if_pos (.inr h2)]
   rw[hR];simp only[Tryz.f27,Dd,Js,ll,d1,d2,Ab,CP,seval]
  ·obtain⟨p,rfl⟩:∃ p:Nat,f=p:=⟨f.toNat,by omega⟩;have hp:p≤ts.length:=by omega
   have hR:Ci ts p=match Hs (ts.take (D6 ts p)) p with
     |.bad q=>([],(q:Int),50)
     |.ok t q=>if EJ t.size t.deep=0 then (lay t 0,(q:Int),0)else ([],(p:Int),EJ t.size t.deep):=by
    unfold Ci;rw[if_neg (by omega),Int.toNat_natCast]
    all_goals rfl
   have d2:decide (ts.length<p)=false:=decide_eq_false (by omega);clear h1 h2;have hst:=ZF (γ:=γ) ht hn hp;have hcut:=LS hp;have hcut2:(ts.take (D6 ts p)).length=D6 ts p:=by rw[Bh];omega
   have hpc:p≤(ts.take (D6 ts p)).length:=by rw[hcut2];unfold D6;omega
   simp only[Tryz.f27,Dd,ll,d1,d2,fl,fo,CP,seval];refine Am.intro dB _ (Vo hL hst (h:=[⟨0,41,[.v (.slice none 0 0)]⟩,⟨0,109,[L,.v (.int .i64 (p:Int)),.v (.int .i64 (-1))]⟩]) (i:=1) (p:=p) (BL _) hpc rfl) (fun r h1 hh=>?_) (fun v h' hh=>hh.pan.elim);obtain⟨f1,hh⟩:=hh;have k0:h1[0]?=some ⟨0,41,[.v (.slice none 0 0)]⟩:=f1.at rfl (by show ¬(0:Nat)=1;decide);have kz:∀ b,(h1.set 0 b)[0]?=some b:=fun b=>Be (Bs.1 k0).1
   cases er:Hs (ts.take (D6 ts p)) p with
   |bad q=>
    rw[er]at hh hR;obtain⟨eo,p',r1⟩:=hh;cases eo;have hr1:h1[1]?=_:=r1;have kx:∀ b,(h1.set 0 b)[1]?=some _:=fun b=>(Bn (by decide)).trans hr1
    rw[hR];simp only[Dd,Ab,CP,seval];refine CR.pure ?_;refine Cp.orders [[0,1,2,3,4,5,6,7],[0,5,1,2,3,4,6,7],[0,1,5,2,3,4,6,7],[0,1,2,5,3,4,6,7],[0,1,2,3,5,4,6,7]] (by kernel_rfl) (by kernel_rfl) (by kernel_rfl) (fun p hp=>?_);simp only[BI,List.not_mem_nil,or_false]at hp
    rcases hp with rfl|rfl|rfl|rfl|rfl
    all_goals simp only[CQ,BU,Bu,Bz,Dd,hr1,kx,k0,kz,Js,CP,AB,seval]
   |ok t q=>
    rw[er]at hh hR;obtain⟨x0,eo,hT,r1⟩:=hh;cases eo;obtain⟨qx,rfl⟩:=hT.ptr;obtain⟨bx,hbx⟩:=AA.blk hT;have hr1:h1[1]?=_:=r1;have hadv:=DY _ _ _ _ _ _ hpc er;obtain⟨⟨g1,g2⟩,g3⟩:=hadv;have hwf:=U2 _ _ _ _ _ _ (fun n a e=>by cases e) er;have hsz:t.size≤2000001:=by rw[hcut2]at *;omega
    simp only[Dd,hbx,CP,seval];refine Am.intro c63 _ (PW (by omega) hT) (fun r h2 hh=>?_) (fun v h' hh=>by cases hh.1);obtain⟨eo,rfl⟩:=hh;cases eo
    by_cases hk:EJ t.size t.deep=0
    ·have d5:(EJ t.size t.deep != 0)=false:=by simpa using hk
     rw[hR];simp only[if_pos hk];have hlen:=AX t 0;have hps:=size_pos t;have hev:=ZE (γ:=γ) t _ _ h2 (.ptr qx 0 0) (.v (.slice none 0 0)) [] hT (.inl ⟨rfl,rfl⟩) (by simp only[BD];omega);rw[Bi,BD]at hev;simp only[d5,CP,seval];refine CR.orders [[0,1,2,7,3,4,5,6,8,9],[0,1,2,3,7,4,5,6,8,9],[0,1,2,3,4,7,5,6,8,9],[0,1,2,3,4,5,7,6,8,9],[0,1,2,3,4,5,6,7,8,9],[0,3,1,2,7,4,5,6,8,9],[0,3,1,2,4,7,5,6,8,9],[0,3,1,2,4,5,7,6,8,9],[0,3,1,2,4,5,6,7,8,9],[0,3,4,1,2,7,5,6,8,9],[0,3,4,1,2,5,7,6,8,9],[0,3,4,1,2,5,6,7,8,9],[0,3,4,5,1,2,7,6,8,9],[0,3,4,5,1,2,6,7,8,9],[0,3,4,5,6,1,2,7,8,9]] (fun _ _ _ h o h'=>jX (.v (.slice none 0 0)) h (lay t 0) o h') aD (by kernel_rfl) (by kernel_rfl) (by kernel_rfl) (fun p hp=>?_);simp only[BI,List.not_mem_nil,or_false]at hp
     rcases hp with rfl|rfl|rfl|rfl|rfl|rfl|rfl|rfl|rfl|rfl|rfl|rfl|rfl|rfl|rfl
     all_goals simp only[WQ,CQ,BU,Bu,Bz,Dd,hr1,CP,AB,seval]
     all_goals refine⟨lL,hev,fun r h3 hh=>?_,fun v h' hh=>by obtain⟨_,_,e,_⟩:=hh;cases e⟩
     all_goals obtain⟨f3,N3,eo,hN3,_⟩:=hh
     all_goals cases eo
     all_goals obtain⟨j,ver,rfl,hj⟩:=hN3.own (by omega)
     all_goals have k3:h3[0]?=some ⟨0,41,[.v (.slice none 0 0)]⟩:=f3.at k0 fun h=>h
     all_goals have k4:∀ b,(h3.set 0 b)[0]?=some b:=fun b=>Be (Bs.1 k3).1
     all_goals have hr3:h3[1]?=_:=f3.at hr1 fun h=>h
     all_goals have kx:∀ b,(h3.set 0 b)[1]?=some _:=fun b=>(Bn (by decide)).trans hr3
     all_goals have hj0:j≠0:=fun e=>by subst e;rw[k3]at hj;cases hj
     all_goals simp only[Bu,Bz,Dd,k3,k4,hr3,kx,Js,CP,AB,seval]
     all_goals exact Kk ((Bn (Ne.symm hj0)).trans hj) (by omega)
    ·have d5:(EJ t.size t.deep != 0)=true:=by simpa using hk
     rw[hR];simp only[if_neg hk];simp only[Dd,d5,k0,kz,Js,Ab,CP,seval]
def n1:List UInt8:=[105,110,116]
def n2:List UInt8:=[114,101,97,108]
def n3:List UInt8:=[99,111,109,112]
def n4:List UInt8:=[116,101,120,116]
end Go.Proofs.YtlobiioioicmhaaGreatDoor
