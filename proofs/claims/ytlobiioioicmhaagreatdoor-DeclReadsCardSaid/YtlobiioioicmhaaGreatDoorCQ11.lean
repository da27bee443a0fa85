/- A part of the proof. -/
import Derived.Test.YtlobiioioicmhaaGreatDoorCQ10
import Derived.Test.YtlobiioioicmhaaGreatDoorCU9
set_option linter.all false
set_option maxHeartbeats 8000000
namespace Go.Proofs.YtlobiioioicmhaaGreatDoor
open _root_.Bool renaming not_true→Bv,not_false→Bf
open _root_.List renaming getElem?_eq_some_iff→Bs,getElem?_append_left→Ba,getElem?_append_right→Br,getElem?_set_self→Be,getElem?_set_ne→Bn,length_set→Bl,length_append→Bp,append_assoc→Bo,cons_append→Bc,nil_append→Bi,getElem?_cons_zero→Bz,getElem?_cons_succ→Bu,getElem?_map→Bm,length_map→Bk,length_drop→Bd,length_take→Bh,map_cons→BA,prefix_rfl→BB,length_cons→BC,length_nil→BD,flatMap_cons→BE,mem_cons→BI,length_replicate→BJ,drop_drop→BT,getElem?_toArray→BU,getElem?_drop→BX,getElem?_take→BY
open _root_.Nat renaming le_refl→BL,zero_le→BN
open Go.Proofs.Tryz renaming prog→Tp
open Go Go.Ev
set_option maxRecDepth 20000
variable {γ:List (Nat×AV)}
theorem c284:Ak Tp 284:=⟨_,Tryz.func284,by kernel_rfl,by kernel_rfl⟩
theorem c285:Ak Tp 285:=⟨_,Tryz.func285,by kernel_rfl,by kernel_rfl⟩
theorem c41:Ak Tp 41:=⟨_,Tryz.func41,by kernel_rfl,by kernel_rfl⟩
theorem lD(s:List Aa)(L:List (AG×Nat)):CE Tp 47 s (Ct L)=some (.v (.int .i64 L.length)):=by
 have e24:Az Tp 47=some 54:=by kernel_rfl
 cases L with
 |nil=>simp only[Ct,CE,e24];rfl
 |cons y T=>simp only[Ct,CE,e24];rfl
theorem MG(P:Program)(H:List Aa)(b:Bool):∀ ys:List AV,(∀ y∈ys,∃ v,y=AV.v v)→Fe P H b ys ys
 |[],_=>by simp only[Fe]
 |y::ys,h=>by
  obtain⟨v,rfl⟩:=h y (List.mem_cons_self ..);simp only[Fe];exact⟨_,_,rfl,by simp only[fz],MG P H b ys fun z hz=>h z (List.mem_cons_of_mem _ hz)⟩
theorem Pa{P:Program}{H:List Aa}{i n:Nat}{k:Aa}{ys:List AV}(h:H[i]?=some k)(hp:ys<+:k.cells)(hv:∀ y∈ys,∃ v,y=AV.v v):Fe P H true [.sl true n n ys] [.own i k.ver n]:=by
 simp only[Fe,fz];exact⟨_,_,rfl,.inr ⟨trivial,i,k,ys,rfl,h,BL _,.inl trivial,hp,MG P H true ys hv⟩,rfl⟩
theorem MH(l:List UInt8):∀ y∈l.map Am,∃ v,y=AV.v v:=fun y hy=>by obtain⟨c,_,rfl⟩:=List.mem_map.1 hy;exact⟨_,rfl⟩
theorem RV(l:List Nd):∀ y∈Cj l,∃ v,y=AV.v v:=fun y hy=>by
 obtain⟨n,_,hn⟩:=List.mem_flatMap.1 hy;simp only[Nd.cells,BI,List.not_mem_nil,or_false]at hn
 rcases hn with rfl|rfl|rfl|rfl|rfl|rfl|rfl|rfl|rfl<;>exact⟨_,rfl⟩
theorem Oy(L:List (AG×Nat)):CH (Ct L)=true:=by
 cases L with
 |nil=>rfl
 |cons x L=>
  show (!false&&AO (A3 (x::L)))=true
  generalize x::L=L;unfold A3
  induction L with
  |nil=>rfl
  |cons y L ih=>
   rw[BA,List.flatten_cons];show AO (B7 y++_)=true;simp only[B7,CZ,BA,List.map_nil,Bc,Bi,AO,CH,Bool.true_and];simpa using ih
theorem Lb{l:List UInt8}{L:List (AG×Nat)}(h:CX l=some L):FJ l=.tup [Ct L,.v (.int .i64 0),.v (.int .i64 0)]:=by
 unfold CX at h;unfold FJ;cases e:(Ah l).find? EM with
 |none=>rw[e]at h;cases h;rfl
 |some x=>rw[e]at h;cases h
theorem Lj{l:List UInt8}(h:CX l=none):∃ (L:List (AG×Nat)) (x:(AG×Nat)×Int),(Ah l).find? EM=some x∧x.2≠0∧FJ l=.tup [Ct L,.v (.int .i64 x.1.2),.v (.int .i64 x.2)]:=by
 unfold CX at h;unfold FJ;cases e:(Ah l).find? EM with
 |none=>rw[e]at h;cases h
 |some x=>exact⟨_,x,rfl,by simpa[EM]using List.find?_some e,rfl⟩
theorem T2(l:List UInt8):CH (FJ l)=true:=by
 unfold FJ
 split<;>simp only[CH,AO,Oy,Bool.and_self]
theorem TE(s:List UInt8)(hs:s.length≤140737488351232):Ev Tp γ 284 [.v (.string ⟨s.toArray⟩)] (.v (.bool (DQ s))):=by
 refine Ev.of Tryz.func284 rfl ?_;simp only[Tryz.f284,Dt,Af,Nat.reduceAdd,Nat.reduceSub,Nat.reduceLT,Nat.reduceEqDiff,reduceCtorEq];refine⟨by omega,Ag.lend c41 _ (Pa (k:=⟨0,5,s.map Am⟩) rfl BB (MH s)) (Oa true s hs) ?_ ?_⟩
 ·exact T2 s
 cases e:CX s with
 |none=>
  obtain⟨L,x,_,hk,hr⟩:=Lj e;have d1:(x.2==0)=false:=by simpa using hk
  have en:DQ s=false:=by unfold DQ;rw[e]
  rw[hr,en];simp only[d1,Af,Nat.reduceLT,Nat.reduceEqDiff,reduceCtorEq]
 |some L=>
  rw[Lb e];have ll:=lD [⟨0,5,s.map Am⟩] L;have z0:((0:Int)==0)=true:=rfl;simp only[ll,z0,Af,Nat.reduceLT,Nat.reduceEqDiff,reduceCtorEq]
  match L,e with
  |[],e=>
   have en:DQ s=false:=by unfold DQ;rw[e]
   rw[en];have n0:(((0:Nat):Int)==1)=false:=rfl;simp only[n0,Af,Nat.reduceLT,Nat.reduceEqDiff,reduceCtorEq]
  |[x],e=>
   have en:DQ s=(x.1.kind==1&&((x.1.size:Int)==(s.length:Int))):=by unfold DQ;rw[e]
   rw[en];have n1:(((1:Nat):Int)==1)=true:=rfl;simp only[Dt,n1,Ct,A3,B7,CZ,Af,A7,Nat.reduceAdd,Nat.reduceLT,Nat.reduceLeDiff,Nat.reduceEqDiff,reduceCtorEq,Int.reduceLE]
   by_cases hk:x.1.kind=1
   ·have d1:(x.1.kind==1)=true:=by simpa using hk
    simp only[Dt,d1,Af,A7,Nat.reduceLT,Nat.reduceLeDiff,Nat.reduceEqDiff,reduceCtorEq,Int.reduceLE]
    decide
   ·have d1:(x.1.kind==1)=false:=by simpa using hk
    simp only[d1,Af,Nat.reduceLT,Nat.reduceEqDiff,reduceCtorEq];exact⟨by decide,rfl⟩
  |x::y::L,e=>
   have en:DQ s=false:=by unfold DQ;rw[e]
   rw[en];have n2:(((L.length+1+1:Nat):Int)==1)=false:=by simp only[beq_eq_false_iff_ne,ne_eq];omega
   simp only[n2,Af,Nat.reduceLT,Nat.reduceEqDiff,reduceCtorEq]
def Ab:List Nd→AV
 |[]=>.v (.slice none 0 0)
 |ns=>.sl false ns.length ns.length (Cj ns)
theorem Lr{P:Program}{H:List Aa}{j ver:Nat}{ns:List Nd}(hj:H[j]?=some ⟨ver,115,Cj ns⟩)(hn:0<ns.length):fz P H false (Ab ns) (.own j ver ns.length):=by
 cases ns with
 |nil=>exact absurd hn (by decide)
 |cons x r=>
  simp only[Ab,fz];exact .inr ⟨trivial,j,_,_,rfl,hj,BL _,.inl trivial,BB,MG P H false _ (RV _)⟩
theorem JJ:AX Tp 41=some true∧Aq Tp 41=some 1:=⟨by kernel_rfl,by kernel_rfl⟩
theorem Pl(L:List (AG×Nat)):flat (Ct L)=some [Ct L]:=by cases L<;>rfl
theorem Ti(L:List (AG×Nat)):Cl (Ct L)=true:=by cases L<;>rfl
theorem Ky{l:List UInt8}{L:List (AG×Nat)}(h:CX l=some L):L.length≤32769:=by
 unfold CX at h
 split at h
 ·cases h;rw[Bk];exact LQ l
 ·cases h
def iv(d:Nat):AV:=.v (.int .i64 (d:Int))
def Lc(ds:List Nat)(i:Nat):List AV:=(ds.take i).map iv++List.replicate (ds.length-i) (iv 0)
theorem Hh(ds:List Nat){i:Nat}(h:i≤ds.length):(Lc ds i).length=ds.length:=by
 simp only[Lc,Bp,Bk,Bh,BJ];omega
theorem Nk{ds:List Nat}{i j d:Nat}(hi:i≤ds.length)(hj:j<i)(hd:ds[j]?=some d):(Lc ds i)[j]?=some (iv d):=by
 unfold Lc;rw[Ba (by simp only[Bk,Bh];omega),Bm,BY,if_pos hj,hd];rfl
theorem MB{ds:List Nat}{i d:Nat}(hd:ds[i]?=some d):(Lc ds i).set i (iv d)=Lc ds (i+1):=by
 have hi:i<ds.length:=(Bs.1 hd).1
 apply List.ext_getElem?
 intro j;rw[List.getElem?_set]
 by_cases hj:i=j
 ·subst hj;rw[if_pos rfl,Hh ds (by omega),if_pos hi,Nk (by omega) (by omega) hd]
 ·rw[if_neg hj];unfold Lc
  by_cases hj2:j<i
  ·rw[Ba (by simp only[Bk,Bh];omega),Ba (by simp only[Bk,Bh];omega),Bm,Bm,BY,BY,if_pos hj2,if_pos (by omega)]
  ·rw[Br (by simp only[Bk,Bh];omega),Br (by simp only[Bk,Bh];omega)];simp only[Bk,Bh,List.getElem?_replicate]
   by_cases hj3:j<ds.length
   ·rw[if_pos (by omega),if_pos (by omega)]
   ·rw[if_neg (by omega),if_neg (by omega)]
theorem Y1(ds:List Nat):List.replicate ds.length (iv 0)=Lc ds 0:=by simp[Lc]
theorem Ly:AX Tp 115=some true∧
  AX Tp 2=some false∧
  AX Tp 22=some false∧
  AX Tp 3=some false∧
  AX Tp 37=some false∧
  AX Tp 39=some false∧
  AX Tp 48=some false∧
  AX Tp 53=some true∧
  AX Tp 9=some false∧
  Az Tp 37=some 5∧
  Az Tp 39=some 115∧
  Az Tp 48=some 53∧
  Az Tp 78=some 3∧
  Al Tp 104 0=some (0,48)∧
  Al Tp 104 1=some (1,3)∧
  Al Tp 104 2=some (2,39)∧
  Al Tp 115 0=some (0,3)∧
  Al Tp 115 1=some (1,3)∧
  Al Tp 115 2=some (2,3)∧
  Al Tp 53 0=some (0,3)∧
  Al Tp 53 1=some (1,9)∧
  Al Tp 53 2=some (2,2)∧
  Al Tp 53 3=some (3,22)∧
  Al Tp 53 4=some (4,3)∧
  Al Tp 53 5=some (5,3)∧
  JZ Tp 37=none∧
  CO Tp 37=none∧
  CO Tp 5=some .u8∧
  Od Tp 78=some (3,1,[.v (.int .i64 0)])∧
  BW Tp 104=some [(0,1),(1,1),(2,1)]∧
  BW Tp 41=some [(0,1)]∧
  Aq Tp 104=some 3∧
  Aq Tp 115=some 9∧
  Aq Tp 2=some 1∧
  Aq Tp 22=some 1∧
  Aq Tp 3=some 1∧
  Aq Tp 37=some 1∧
  Aq Tp 39=some 1∧
  Aq Tp 41=some 1∧
  Aq Tp 48=some 1∧
  Aq Tp 5=some 1∧
  Aq Tp 53=some 6∧
  Aq Tp 9=some 1∧
  Dl Tp 37=false∧
  Dl Tp 9=true∧
  (Tryz.prog.underlying 9).isSome=true∧
  Hw Tp 104=some [.v (.slice none 0 0),.v (.int .i64 0),.v (.slice none 0 0)]∧
  Hw Tp 115=some [.v (.int .i64 0),.v (.int .i64 0),.v (.int .i64 0),.v (.string ⟨#[]⟩),.v (.int .i64 0),.v (.int .i64 0),.v (.float .f64 0),.v (.complex .f64 0 0),.v (.string ⟨#[]⟩)]∧
  Hw Tp 41=some [.v (.slice none 0 0)]∧
  Hw Tp 48=some [.v (.slice none 0 0)]:=
 (by and_intros<;>kernel_rfl)
def jZ(γ:List (Nat×AV))(t:Tr)(i:Nat):St:=
 ⟨⟨58,[(0,.sl true (lay t 0).length (lay t 0).length (Cj (lay t 0))),(3,.own 0 0 (lay t 0).length),(12,.sl true (lay t 0).length (lay t 0).length (Cj (lay t 0))),(13,.v (.int .i64 ((lay t 0).length:Int))),(14,.v (.int .i64 (i:Int)))],γ⟩,[⟨0,3,Lc (Fu t) i⟩]⟩
def limI(t:Tr)(i:Nat):Prop:=i≤t.size∧∀ j,j<i→∀ d,(Fu t)[j]?=some d→d≤12
theorem JR{l:List Nd}{i:Nat}{nd:Nd}(h:l[i]?=some nd):((Cj l).drop (i * 9)).take 9=nd.cells:=by
 induction l generalizing i with
 |nil=>cases h
 |cons x l ih=>
  unfold Cj at ih⊢;rw[BE];cases i with
  |zero=>
   simp only[Bz,Option.some.injEq]at h;subst h
   rfl
  |succ i=>
   have e:(i+1) * 9=(Nd.cells x).length+i * 9:=by simp only[Nd.cells,BC,BD];omega
   rw[e,←BT,List.drop_left];exact ih (by simpa using h)
theorem Ka(n:Nat)(ds:List Nat)(i:Nat):AK n (Lc ds i)=true:=by
 unfold Lc;rw[EA,Bool.and_eq_true]
 constructor
 ·generalize ds.take i=l
  induction l with
  |nil=>rfl
  |cons x l ih=>rw[BA,AK,ih];rfl
 ·generalize ds.length-i=k
  induction k with
  |zero=>rfl
  |succ k ih=>rw[List.replicate_succ,AK,ih];rfl
theorem LS(t:Tr)(hw:t.wf)(hb:t.size<4611686018427387904):Ev Tp γ 61 [.sl true (lay t 0).length (lay t 0).length (Cj (lay t 0))] (.v (.int .i64 (Fa t.size t.deep))):=by
 have hlen:=B2 t 0;have hdl:=F0 t;refine Ev.of Tryz.func61 rfl ?_
 by_cases h64:64<t.size
 ·have d1:decide ((64:Int)<(((lay t 0).length:Nat):Int))=true:=decide_eq_true (by omega);have e1:Fa t.size t.deep=52:=if_pos h64;rw[e1];simp only[Tryz.f61,d1,Af,A7,seval]
 ·have d1:decide ((64:Int)<(((lay t 0).length:Nat):Int))=false:=decide_eq_false (by omega)
  have hrep:H0 (.int .i64 0) (lay t 0).length=Lc (Fu t) 0:=by
   rw[hlen,←hdl,←Y1];unfold H0;generalize (Fu t).length=k
   induction k with
   |zero=>rfl
   |succ k ih=>rw[List.replicate_succ,List.flatten_cons,ih];rfl
  have b3:Gx Tp 3=some 8:=by kernel_rfl
  have z3:Ev.zeroT Tp 3=some (.int .i64 0):=by kernel_rfl
  have l3:(zeroCells (.int .i64 0)).length=1:=rfl;simp only[Tryz.f61,Ly,d1,b3,z3,l3,hrep,Af,A7,seval];refine⟨⟨Int.le_refl _,by omega,by omega⟩,?_⟩;refine Ea.intro (jZ γ t) (limI t) (fun i=>t.size-i) 0 ?_ ⟨BN _,fun j hj=>by omega⟩ (fun i hi=>?_)
  ·refine⟨rfl,rfl,⟨rfl,rfl,rfl,rfl,rfl,trivial⟩,.inl rfl⟩
  ·obtain⟨hi1,hi2⟩:=hi;have hcl:=Hh (Fu t) (i:=i) (by omega)
   by_cases hlt:i<t.size
   ·have d2:decide (i<(lay t 0).length)=true:=decide_eq_true (by omega);obtain⟨nd,hnd⟩:∃ nd,(lay t 0)[i]?=some nd:=⟨(lay t 0)[i]'(by omega),by simp[hlen,hlt]⟩;obtain⟨d,hd,hN⟩:=bE t hw 0 i nd hnd;have h9:=JR hnd;have h9l:9≤((Cj (lay t 0)).drop (i * 9)).length:=by rw[Bd,Dg];omega
    have w1:IntKind.i64.wrap ((i:Int)+1)=((i+1:Nat):Int):=(A4 (by omega) (by omega)).trans (by omega);have hset:=MB hd;have hil:i+1≤(Fu t).length:=by omega
    have hin:i<(lay t 0).length:=by omega
    have q1:∀ x,((Lc (Fu t) i).set i x)[i]?=some x:=fun x=>Be (by omega)
    have q2:∀ a x y,a<i→(Fu t)[a]?=some y→((Lc (Fu t) i).set i x)[a]?=some (.v (.int .i64 (y:Int))):=fun a x y ha hy=>(Bn (by omega)).trans (Nk (by omega) ha hy)
    simp only[jZ,Ly,d2,h9,h9l,hcl,hil,Nd.cells,Af,A7,seval];refine⟨hin,hin,Ag.intro mY rfl (Ma _) ?_⟩;have trm:∀ a x,(Fu t)[a]?=some x→a<i→x≤12:=fun a x h ha=>hi2 a ha x h
    have z2:((0:Int)==2)=false:=rfl;have z1:((0:Int)==1)=false:=rfl;have y2:((1:Int)==2)=false:=rfl;have y1:((1:Int)==1)=true:=rfl;have x2:((2:Int)==2)=true:=rfl
    rcases hN with⟨hk,hd1⟩|⟨hk,a,x,hA,ha,hx,hx1,hdx⟩|⟨hk,a,x,b,y,hA,hB,ha,hbb,hx,hy,hdx⟩
    ·subst hd1;have hset:(Lc (Fu t) i).set i (.v (.int .i64 1))=Lc (Fu t) (i+1):=MB hd;have q9:(Lc (Fu t) (i+1))[i]?=some (.v (.int .i64 1)):=Nk (by omega) (by omega) hd;have hcl2:=Hh (Fu t) (i:=i+1) (by omega);have h12:¬12<1:=by decide
     simp only[Ly,hk,z2,z1,hset,q9,w1,Af,A7,seval];refine⟨hin,?_⟩;refine Cg.intro (i+1) ⟨hlt,fun j hj d' hd'=>?_⟩ ?_ (by omega)
     ·by_cases e:j=i
      ·subst e;rw[hd]at hd';cases hd';omega
      ·exact hi2 j (by omega) d' hd'
     ·exact⟨rfl,rfl,⟨rfl,rfl,rfl,rfl,rfl,trivial⟩,.inr ⟨rfl,rfl,by show okRefB 1 [⟨0,3,Lc (Fu t) (i+1)⟩]=true;simp only[okRefB,Ka,Bool.and_self]⟩⟩
    ·subst hdx;have hx12:=trm a x hx ha;have hA':nd.a=(a:Int):=by rw[hA,Nat.zero_add]
     have han:a<(lay t 0).length:=by omega
     have q3:=q2 a (.v (.int .i64 1)) x ha hx;have w3:IntKind.i64.wrap (1+(x:Int))=((x+1:Nat):Int):=(A4 (by omega) (by omega)).trans (by omega);have m1:(if ((x+1:Nat):Int)>1 then ((x+1:Nat):Int)else 1)=((x+1:Nat):Int):=if_pos (by clear w3;omega);have qa:=q1 (.v (.int .i64 1));have hcs:((Lc (Fu t) i).set i (.v (.int .i64 1))).length=(Fu t).length:=by rw[Bl];exact hcl
     have hal:a+1≤(Fu t).length:=by clear w3;omega
     have hset:(Lc (Fu t) i).set i (.v (.int .i64 (x+1:Nat)))=Lc (Fu t) (i+1):=MB hd;have q9:(Lc (Fu t) (i+1))[i]?=some (.v (.int .i64 (x+1:Nat))):=Nk (by omega) (by omega) hd;have hcl2:=Hh (Fu t) (i:=i+1) (by omega)
     by_cases h12:12<x+1
     ·have d3:decide ((12:Int)<((x+1:Nat):Int))=true:=decide_eq_true (by omega)
      have e51:Fa t.size t.deep=51:=by
       have:=bI t _ (List.mem_of_getElem? hd);unfold Fa;rw[if_neg h64,if_pos (by omega)]
      rw[e51];simp only[Ly,hk,y2,y1,hA',qa,Af,A7,seval];refine dI ?_;simp only[Ly,hcl,hil,qa,q3,w3,m1,List.set_set,hset,q9,d3,Af,A7,seval];exact⟨hin,han,hin⟩
     ·have d3:decide ((12:Int)<((x+1:Nat):Int))=false:=decide_eq_false (by omega);simp only[Ly,hk,y2,y1,hA',qa,w1,Af,A7,seval];refine dI ?_;simp only[Ly,hcl,hil,qa,q3,w3,m1,List.set_set,hset,q9,d3,w1,Af,A7,seval];refine⟨hin,han,hin,hin,?_⟩;refine Cg.intro (i+1) ⟨hlt,fun j hj d' hd'=>?_⟩ ?_ (by omega)
      ·by_cases e:j=i
       ·subst e;rw[hd]at hd';cases hd';omega
       ·exact hi2 j (by omega) d' hd'
      ·exact⟨rfl,rfl,⟨rfl,rfl,rfl,rfl,rfl,trivial⟩,.inr ⟨rfl,rfl,by show okRefB 1 [⟨0,3,Lc (Fu t) (i+1)⟩]=true;simp only[okRefB,Ka,Bool.and_self]⟩⟩
    ·subst hdx;have hx12:=trm a x hx ha;have hy12:=trm b y hy hbb;have hA':nd.a=(a:Int):=by rw[hA,Nat.zero_add]
     have hB':nd.b=(b:Int):=by rw[hB,Nat.zero_add]
     have hbn:b<(lay t 0).length:=by omega
     have q4:=q2 b (.v (.int .i64 1)) y hbb hy;have han:a<(lay t 0).length:=by omega
     have q3:=q2 a (.v (.int .i64 ((y+1:Nat):Int))) x ha hx;have w3:IntKind.i64.wrap (1+(x:Int))=((x+1:Nat):Int):=(A4 (by omega) (by omega)).trans (by omega);have w4:IntKind.i64.wrap (1+(y:Int))=((y+1:Nat):Int):=(A4 (by clear w3;omega) (by clear w3;omega)).trans (by clear w3;omega);have m1:(if y+1<x+1 then ((x+1:Nat):Int)else ((y+1:Nat):Int))=((max x y+1:Nat):Int):=by clear w3 w4;split<;>omega
     have qa:=q1 (.v (.int .i64 ((y+1:Nat):Int)));have hcs:((Lc (Fu t) i).set i (.v (.int .i64 1))).length=(Fu t).length:=by rw[Bl];exact hcl
     have hal:a+1≤(Fu t).length:=by clear w3 w4;omega
     have hbl:b+1≤(Fu t).length:=by clear w3 w4;omega
     have hset:(Lc (Fu t) i).set i (.v (.int .i64 (max x y+1:Nat)))=Lc (Fu t) (i+1):=MB hd;have q9:(Lc (Fu t) (i+1))[i]?=some (.v (.int .i64 (max x y+1:Nat))):=Nk (by omega) (by omega) hd;have hcl2:=Hh (Fu t) (i:=i+1) (by omega)
     by_cases h12:12<max x y+1
     ·have d3:decide ((12:Int)<((max x y+1:Nat):Int))=true:=decide_eq_true (by omega)
      have e51:Fa t.size t.deep=51:=by
       have:=bI t _ (List.mem_of_getElem? hd);unfold Fa;rw[if_neg h64,if_pos (by omega)]
      rw[e51];simp only[Ly,hk,x2,hA',hB',q4,w4,hcl,hil,List.set_set,Af,A7,seval];refine⟨hbn,hin,?_⟩;refine dI ?_;simp only[Ly,hcl,hil,qa,q3,w3,m1,List.set_set,hset,q9,d3,Af,A7,seval];exact⟨hin,han,hin⟩
     ·have d3:decide ((12:Int)<((max x y+1:Nat):Int))=false:=decide_eq_false (by omega);simp only[Ly,hk,x2,hA',hB',q4,w4,hcl,hil,List.set_set,w1,Af,A7,seval];refine⟨hbn,hin,?_⟩;refine dI ?_;simp only[Ly,hcl,hil,qa,q3,w3,m1,List.set_set,hset,q9,d3,w1,Af,A7,seval];refine⟨hin,han,hin,hin,?_⟩;refine Cg.intro (i+1) ⟨hlt,fun j hj d' hd'=>?_⟩ ?_ (by omega)
      ·by_cases e:j=i
       ·subst e;rw[hd]at hd';cases hd';omega
       ·exact hi2 j (by omega) d' hd'
      ·exact⟨rfl,rfl,⟨rfl,rfl,rfl,rfl,rfl,trivial⟩,.inr ⟨rfl,rfl,by show okRefB 1 [⟨0,3,Lc (Fu t) (i+1)⟩]=true;simp only[okRefB,Ka,Bool.and_self]⟩⟩
   ·have d2:decide (i<(lay t 0).length)=false:=decide_eq_false (by omega)
    have e0:Fa t.size t.deep=0:=by
     unfold Fa;have:=hi2 (t.size-1) (by have:=size_pos t;omega) _ (KV t);rw[if_neg h64,if_neg (by omega)]
    rw[e0];simp only[jZ,d2,Af,seval]
theorem c58:Ak Tp 58:=⟨_,Tryz.func58,by kernel_rfl,by kernel_rfl⟩
theorem c61:Ak Tp 61:=⟨_,Tryz.func61,by kernel_rfl,by kernel_rfl⟩
theorem YJ(s:List Aa)(L:List (AG×Nat)):CE Tp 48 s (Ct L)=some (.v (.int .i64 L.length)):=by
 have e24:Az Tp 48=some 53:=by kernel_rfl
 cases L with
 |nil=>simp only[Ct,CE,e24];rfl
 |cons y T=>simp only[Ct,CE,e24];rfl
theorem Jt{l:List UInt8}{L:List (AG×Nat)}(h:CX l=some L):G0 l=.tup [Ct L,.v (.int .i64 0),.v (.int .i64 0)]:=by
 unfold CX at h;unfold G0 MZ;cases e:(Ah l).find? EM with
 |none=>rw[e]at h;cases h;rfl
 |some x=>rw[e]at h;cases h
theorem Jz{l:List UInt8}(h:CX l=none):∃ x,(Ah l).find? EM=some x∧x.2≠0∧G0 l=.tup [.v (.slice none 0 0),.v (.int .i64 x.1.2),.v (.int .i64 x.2)]:=by
 unfold CX at h;unfold G0 MZ;cases e:(Ah l).find? EM with
 |none=>rw[e]at h;cases h
 |some x=>exact⟨x,rfl,by simpa[EM]using List.find?_some e,rfl⟩
def gN(r:Nat):Bool:=match Ieee.double.read r with
 |.number false _ _=>true
 |_=>false
theorem NA(r:Nat):(∃ s f,Ieee.double.read r=.nan s f)∨(∃ s,Ieee.double.read r=.infinity s)∨∃ s m i,Ieee.double.read r=.number s m i∧m<9007199254740992 ∧ -1074≤i∧i≤971:=by
 have e1:Ieee.double.leastPlace = -1074:=by rfl
 have e2:Ieee.double.binade=4503599627370496:=by rfl
 have e3:Ieee.double.infRung=9218868437227405312:=by rfl
 have e4:Ieee.double.signWeight=9223372036854775808:=by rfl
 unfold Ieee.Format.read;simp only[e1,e2,e3,e4];generalize r%9223372036854775808=u
 split
 ·exact .inr (.inr ⟨_,_,_,rfl,by omega,by omega,by omega⟩)
 ·split
  ·refine .inr (.inr ⟨_,_,_,rfl,by omega,by omega,?_⟩);have:u / 4503599627370496≤2046:=by omega
   omega
  ·split
   ·exact .inr (.inl ⟨_,rfl⟩)
   ·exact .inl ⟨_,_,rfl⟩
theorem YM(r:Nat):(Ieee.double.read r).neg=(r / 9223372036854775808%2==1):=by
 have e4:Ieee.double.signWeight=9223372036854775808:=by rfl
 unfold Ieee.Format.read;simp only[e4]
 split
 ·rfl
 ·split
  ·rfl
  ·split<;>rfl
theorem Vz{r m:Nat}{s:Bool}{i:Int}(h:Ieee.double.read r=.number s m i)(hi : -1074≤i):Ieee.double.order r 0=some (if m=0 then .eq else if s then .lt else .gt):=by
 unfold Ieee.Format.order;rw[h,nL];simp only[Ieee.Datum.order,Ieee.signed,Bool.false_eq_true,if_false,Nat.shiftLeft_eq,Nat.zero_mul];have hp:=one_le_pow (i-min i (-1074)).toNat
 by_cases hm:m=0
 ·subst hm;rw[if_pos rfl,Nat.zero_mul];cases s<;>rfl
 ·have hA:0<m * 2^(i-min i (-1074)).toNat:=Nat.mul_pos (by omega) hp;generalize m * 2^(i-min i (-1074)).toNat=A at *;rw[if_neg hm];cases s with
  |false=>
   have:compare ((A:Nat):Int) ((0:Nat):Int)=.gt:=by rw[Int.compare_eq_gt];omega
   simp only[Bool.false_eq_true,if_false,this]
  |true=>
   have:compare (-((A:Nat):Int)) ((0:Nat):Int)=.lt:=by rw[Int.compare_eq_lt];omega
   simp only[if_true,this]
theorem R5{r m:Nat}{s:Bool}{i:Int}(h:Ieee.double.read r=.number s m i)(hm:m<9007199254740992)(hi:i≤971):(Ieee.double.order r 9218868437227405311==some .gt)=false:=by
 unfold Ieee.Format.order;rw[h,VH];simp only[Ieee.Datum.order,Ieee.signed,Bool.false_eq_true,if_false,Nat.shiftLeft_eq];have e1:(i-min i 971).toNat=0:=by omega
 rw[e1];have hp:=one_le_pow (971-min i 971).toNat;have:9007199254740991≤9007199254740991 * 2^(971-min i 971).toNat:=Nat.le_mul_of_pos_right _ hp;generalize 9007199254740991 * 2^(971-min i 971).toNat=A at *
 have key:∀ x:Int,x≤m→(some (compare x ((A:Nat):Int))==some Ordering.gt)=false:=fun x hx=>by
  have:compare x ((A:Nat):Int)≠.gt:=by rw[Ne,Int.compare_eq_gt];omega
  cases hc:compare x ((A:Nat):Int)with
  |gt=>exact absurd hc this
  |lt=>rfl
  |eq=>rfl
 cases s with
 |false=>exact key _ (by simp)
 |true=>exact key _ (by simp only[if_true];omega)
theorem eL{r m:Nat}{s:Bool}{i:Int}(h:Ieee.double.read r=.number s m i):Ieee.double.sub r r=some 0:=by
 unfold Ieee.Format.sub;rw[h];cases s with
 |false=>
  simp only[Ieee.Datum.opposite,Ieee.Datum.sum,Bf,Ieee.signed,Bool.false_eq_true,if_false,if_true,Option.map_some,Ieee.Format.write];generalize (m <<< (i-min i i).toNat:Nat)=A;have:((A:Nat):Int) + -((A:Nat):Int)=0:=by omega
  rw[this]
  rfl
 |true=>
  simp only[Ieee.Datum.opposite,Ieee.Datum.sum,Bv,Ieee.signed,Bool.false_eq_true,if_false,if_true,Option.map_some,Ieee.Format.write];generalize (m <<< (i-min i i).toNat:Nat)=A;have : -((A:Nat):Int)+((A:Nat):Int)=0:=by omega
  rw[this]
  rfl
theorem div_zero{r:Nat}{s:Bool}{i:Int}(h:Ieee.double.read r=.number s 0 i):Ieee.double.div 4607182418800017408 r=some (if s then 18442240474082181120 else 9218868437227405312):=by
 have r1:Ieee.double.read 4607182418800017408=.number false 4503599627370496 (-52):=by rfl
 unfold Ieee.Format.div;rw[h,r1];simp only[Ieee.Datum.quotient,if_true];cases s<;>rfl
theorem V2{r x f:Nat}{s:Bool}(h:Ieee.double.read r=.nan s f):Ieee.double.order r x=none:=by
 unfold Ieee.Format.order;rw[h];rfl
theorem MO{r:Nat}{s:Bool}(h:Ieee.double.read r=.infinity s):Ieee.double.order r 0=some (if s then .lt else .gt)∧Ieee.double.order r 9218868437227405311=some (if s then .lt else .gt)∧Ieee.double.sub r r=none:=by
 unfold Ieee.Format.order Ieee.Format.sub;rw[h,nL,VH];cases s<;>exact⟨rfl,rfl,rfl⟩
def FP(t:Tk):Bool:=if t.kind=1 then DQ t.text else if t.kind=2 then decide (0≤t.int)else if t.kind=3 then gN t.real else if t.kind=4 then decide (t.text.length≤256)else t.kind==5
theorem mG:FloatKind.f64.format.order 0 0=some .eq:=by kernel_rfl
theorem oI1:FloatKind.f64.format.order 9218868437227405312 0=some .gt:=by kernel_rfl
theorem oI2:FloatKind.f64.format.order 18442240474082181120 0=some .lt:=by kernel_rfl
theorem q1:(some Ordering.gt==some Ordering.gt)=true:=rfl
theorem q2:(some Ordering.gt==some Ordering.eq)=false:=rfl
theorem q3:(some Ordering.eq==some Ordering.gt)=false:=rfl
theorem q4:(some Ordering.eq==some Ordering.eq)=true:=rfl
theorem q5:(some Ordering.lt==some Ordering.gt)=false:=rfl
theorem q6:(some Ordering.lt==some Ordering.eq)=false:=rfl
theorem q7:((none:Option Ordering)==some Ordering.gt)=false:=rfl
theorem q8:((none:Option Ordering)==some Ordering.eq)=false:=rfl
theorem gW:En none=AV.nan:=rfl
theorem Vo(r:Nat):Ev Tp γ 285 [.v (.float .f64 r)] (.v (.bool (gN r))):=by
 refine Ev.of Tryz.func285 rfl ?_;unfold gN
 rcases NA r with⟨s,f,h⟩|⟨s,h⟩|⟨s,m,i,h,hm,hi,hj⟩
 ·have o1:FloatKind.f64.format.order r 0=none:=V2 h;rw[h];simp only[Tryz.f285,q7,q8,o1,Af,Nat.reduceAdd,Nat.reduceSub,Nat.reduceLT,Nat.reduceEqDiff,reduceCtorEq]
 ·have o1:FloatKind.f64.format.order r 0=some (if s then .lt else .gt):=(MO h).1;have o2:FloatKind.f64.format.sub r r=none:=(MO h).2.2;rw[h];cases s with
  |true=>
   simp only[if_true]at o1;simp only[Tryz.f285,q5,q6,o1,Af,Nat.reduceAdd,Nat.reduceSub,Nat.reduceLT,Nat.reduceEqDiff,reduceCtorEq]
  |false=>
   simp only[Bool.false_eq_true,if_false]at o1;simp only[Tryz.f285,q1,q2,o1,o2,gW,Af,Nat.reduceAdd,Nat.reduceSub,Nat.reduceLT,Nat.reduceEqDiff,reduceCtorEq]
 ·have o1:FloatKind.f64.format.order r 0=some (if m=0 then .eq else if s then .lt else .gt):=Vz h hi;have o2:FloatKind.f64.format.sub r r=some 0:=eL h;rw[h]
  by_cases h0:m=0
  ·subst h0;have o3:FloatKind.f64.format.div 4607182418800017408 r=some (if s then 18442240474082181120 else 9218868437227405312):=div_zero h;simp only[if_true]at o1;cases s with
   |true=>
    simp only[if_true]at o3;simp only[Tryz.f285,q3,q4,q5,o1,o2,o3,mG,oI2,Es,Af,Nat.reduceAdd,Nat.reduceSub,Nat.reduceLT,Nat.reduceEqDiff,reduceCtorEq]
   |false=>
    simp only[Bool.false_eq_true,if_false]at o3;simp only[Tryz.f285,q1,q3,q4,o1,o2,o3,mG,oI1,Es,Af,Nat.reduceAdd,Nat.reduceSub,Nat.reduceLT,Nat.reduceEqDiff,reduceCtorEq]
  ·simp only[if_neg h0]at o1;cases s with
   |true=>
    simp only[if_true]at o1;simp only[Tryz.f285,q5,q6,o1,Af,Nat.reduceAdd,Nat.reduceSub,Nat.reduceLT,Nat.reduceEqDiff,reduceCtorEq]
   |false=>
    simp only[Bool.false_eq_true,if_false]at o1;simp only[Tryz.f285,q1,q2,q4,o1,o2,mG,Es,Af,Nat.reduceAdd,Nat.reduceSub,Nat.reduceLT,Nat.reduceEqDiff,reduceCtorEq]
theorem Vr(t:Tk)(hs:t.text.length≤140737488351232):Ev Tp γ 246 [.agg t.cells] (.v (.bool (FP t))):=by
 refine Ev.of Tryz.func246 rfl ?_;obtain⟨kd,tx,ti,tr,tp,tz⟩:=t;simp only at hs;unfold FP;simp only
 by_cases h1:kd=1
 ·subst h1;simp only[Tryz.f246,Dt,Tk.cells,Int.reduceBEq,Af,A7,Nat.reduceAdd,Nat.reduceSub,Nat.reduceLT,Nat.reduceEqDiff,reduceCtorEq];refine Ag.intro c284 rfl (TE tx hs) ?_;simp only[if_true,Af,Nat.reduceLT,Nat.reduceEqDiff,reduceCtorEq]
 ·have d1:(kd==1)=false:=by simpa using h1
  rw[if_neg h1]
  by_cases h2:kd=2
  ·subst h2;simp only[Tryz.f246,Dt,Tk.cells,Int.reduceBEq,if_true,Af,A7,Nat.reduceAdd,Nat.reduceSub,Nat.reduceLT,Nat.reduceEqDiff,reduceCtorEq]
  ·have d2:(kd==2)=false:=by simpa using h2
   rw[if_neg h2]
   by_cases h3:kd=3
   ·subst h3;simp only[Tryz.f246,Dt,Tk.cells,Int.reduceBEq,if_true,Af,A7,Nat.reduceAdd,Nat.reduceSub,Nat.reduceLT,Nat.reduceEqDiff,reduceCtorEq];refine Ag.intro c285 rfl (Vo tr) ?_;simp only[Af,Nat.reduceLT,Nat.reduceEqDiff,reduceCtorEq]
   ·have d3:(kd==3)=false:=by simpa using h3
    rw[if_neg h3]
    by_cases h4:kd=4
    ·subst h4;simp only[Tryz.f246,Dt,Tk.cells,Int.reduceBEq,if_true,Af,A7,Nat.reduceAdd,Nat.reduceSub,Nat.reduceLT,Nat.reduceEqDiff,reduceCtorEq];rw[show (decide ((tx.length:Int)≤256))=decide (tx.length≤256)by simp only[decide_eq_decide];omega]
    ·have d4:(kd==4)=false:=by simpa using h4
     rw[if_neg h4];simp only[Tryz.f246,Dt,Tk.cells,d1,d2,d3,d4,Af,A7,Nat.reduceAdd,Nat.reduceSub,Nat.reduceLT,Nat.reduceEqDiff,reduceCtorEq]
theorem c67:Ak Tp 67:=⟨_,Tryz.func67,by kernel_rfl,by kernel_rfl⟩
theorem c66:Ak Tp 66:=⟨_,Tryz.func66,by kernel_rfl,by kernel_rfl⟩
theorem c121:Ak Tp 121:=⟨_,Tryz.func121,by kernel_rfl,by kernel_rfl⟩
theorem c119:Ak Tp 119:=⟨_,Tryz.func119,by kernel_rfl,by kernel_rfl⟩
theorem oH:Ak Tp 120:=⟨_,Tryz.func120,by kernel_rfl,by kernel_rfl⟩
theorem UK(l:List UInt8):CH (G0 l)=true:=by
 cases e:CX l with
 |none=>
  obtain⟨x,_,_,hr⟩:=Jz e;rw[hr];rfl
 |some L=>rw[Jt e];simp only[CH,AO,Oy,Bool.and_self]
theorem Z7(hγ:Gl γ)(hγ2:TI γ)(s:List UInt8)(hs:s.length≤140737488351232):Ev Tp γ 121 [.v (.string ⟨s.toArray⟩)] (.v (.bool (DQ s))):=by
 refine Ev.of Tryz.func121 rfl ?_;simp only[Tryz.f121,Ly,Af,Nat.reduceAdd,Nat.reduceSub,Nat.reduceLT,Nat.reduceEqDiff,reduceCtorEq];refine⟨by omega,Ag.lend c58 _ (Pa (k:=⟨0,5,s.map Am⟩) rfl BB (MH s)) (O7 hγ hγ2 true s hs) ?_ ?_⟩
 ·exact UK s
 cases e:CX s with
 |none=>
  obtain⟨x,_,hk,hr⟩:=Jz e;have d1:(x.2==0)=false:=by simpa using hk
  have en:DQ s=false:=by unfold DQ;rw[e]
  rw[hr,en];simp only[d1,Af,Nat.reduceLT,Nat.reduceEqDiff,reduceCtorEq]
 |some L=>
  rw[Jt e];have ll:=YJ [⟨0,5,s.map Am⟩] L;have z0:((0:Int)==0)=true:=rfl;simp only[ll,z0,Af,Nat.reduceLT,Nat.reduceEqDiff,reduceCtorEq]
  match L,e with
  |[],e=>
   have en:DQ s=false:=by unfold DQ;rw[e]
   rw[en];have n0:(((0:Nat):Int)==1)=false:=rfl;simp only[n0,Af,Nat.reduceLT,Nat.reduceEqDiff,reduceCtorEq]
  |[x],e=>
   have en:DQ s=(x.1.kind==1&&((x.1.size:Int)==(s.length:Int))):=by unfold DQ;rw[e]
   rw[en];have n1:(((1:Nat):Int)==1)=true:=rfl;simp only[n1,Ct,A3,B7,CZ,Af,A7,Nat.reduceAdd,Nat.reduceLT,Nat.reduceLeDiff,Nat.reduceEqDiff,reduceCtorEq,Int.reduceLE]
   by_cases hk:x.1.kind=1
   ·have d1:(x.1.kind==1)=true:=by simpa using hk
    simp only[Ly,d1,Af,A7,Nat.reduceLT,Nat.reduceLeDiff,Nat.reduceEqDiff,reduceCtorEq,Int.reduceLE]
    decide
   ·have d1:(x.1.kind==1)=false:=by simpa using hk
    simp only[d1,Af,Nat.reduceLT,Nat.reduceEqDiff,reduceCtorEq];exact⟨by decide,rfl⟩
  |x::y::L,e=>
   have en:DQ s=false:=by unfold DQ;rw[e]
   rw[en];have n2:(((L.length+1+1:Nat):Int)==1)=false:=by simp only[beq_eq_false_iff_ne,ne_eq];omega
   simp only[n2,Af,Nat.reduceLT,Nat.reduceEqDiff,reduceCtorEq]
theorem LK(r:Nat):Ev Tp γ 119 [.v (.float .f64 r),.v (.int .i64 1)] (.v (.bool (FloatKind.f64.format.order r 9218868437227405311==some .gt))):=by
 refine Ev.of Tryz.func119 rfl ?_;have h00:((1:Int)==0)=false:=by decide
 have h01:decide ((1:Int)<0)=false:=by decide
 simp only[Tryz.f119,h00,Af,Nat.reduceAdd,Nat.reduceSub,Nat.reduceLT,Nat.reduceEqDiff,reduceCtorEq,Int.reduceLT]
theorem ZW(r:Nat)(h:r<18446744073709551616):decide (IntKind.i64.wrap (r:Int)<0)=(Ieee.double.read r).neg:=by
 rw[YM]
 by_cases hr:r<9223372036854775808
 ·have e1:r / 9223372036854775808=0:=Nat.div_eq_of_lt hr;rw[A4 (by omega) (by omega),e1];exact decide_eq_false (by omega)
 ·have e1:r / 9223372036854775808=1:=by omega
  have e2:IntKind.i64.wrap (r:Int)=(r:Int)-18446744073709551616:=by
   have b1:IntKind.i64.bits=64:=rfl;have b2:IntKind.i64.signed=true:=rfl;have m1:(r:Int)%18446744073709551616=r:=by omega
   unfold IntKind.wrap;rw[b1,b2];show (if (true&&decide ((r:Int)%18446744073709551616≥9223372036854775808))=true then (r:Int)%18446744073709551616-18446744073709551616 else (r:Int)%18446744073709551616)=_;rw[m1,if_pos (by simp;omega)]
  rw[e1,e2];exact decide_eq_true (by omega)
theorem ty2:CO Tp 2=some .i64∧(Tryz.prog.underlying 176).isSome=true:=⟨by kernel_rfl,by kernel_rfl⟩
theorem Vv(r:Nat)(h:r<18446744073709551616):Ev Tp γ 120 [.v (.float .f64 r)] (.v (.bool (Ieee.double.read r).neg)):=by
 have hb:=ZW r h;refine Ev.of Tryz.func120 rfl ?_;simp only[Tryz.f120,Af,Nat.reduceAdd,Nat.reduceSub,Nat.reduceLT,Nat.reduceEqDiff,reduceCtorEq];refine Ag.ext (Yv r) ?_;simp only[ty2,hb,Af,Nat.reduceLT,Nat.reduceEqDiff,reduceCtorEq]
theorem Xp(hγ:Gl γ)(hγ2:TI γ)(t:Tk)(hs:t.text.length≤140737488351232)(hr:t.real<18446744073709551616):Ev Tp γ 67 [.agg t.cells] (.v (.bool (FP t))):=by
 refine Ev.of Tryz.func67 rfl ?_;obtain⟨kd,tx,ti,tr,tp,tz⟩:=t;simp only at hs hr;unfold FP;simp only
 by_cases h1:kd=1
 ·subst h1;simp only[Tryz.f67,Tk.cells,Int.reduceBEq,Af,A7,Nat.reduceAdd,Nat.reduceSub,Nat.reduceLT,Nat.reduceEqDiff,reduceCtorEq];refine Ag.intro c121 rfl (Z7 hγ hγ2 tx hs) ?_;simp only[if_true,Af,Nat.reduceLT,Nat.reduceEqDiff,reduceCtorEq]
 ·have d1:(kd==1)=false:=by simpa using h1
  rw[if_neg h1]
  by_cases h2:kd=2
  ·subst h2;simp only[Tryz.f67,Tk.cells,Int.reduceBEq,if_true,Af,A7,Nat.reduceAdd,Nat.reduceSub,Nat.reduceLT,Nat.reduceEqDiff,reduceCtorEq]
  ·have d2:(kd==2)=false:=by simpa using h2
   rw[if_neg h2]
   by_cases h3:kd=3
   ·subst h3;rw[if_pos rfl];unfold gN
    rcases NA tr with⟨s,f,h⟩|⟨s,h⟩|⟨s,m,i,h,hm,hi,hj⟩
    ·have o1:FloatKind.f64.format.order tr 0=none:=V2 h;rw[h];simp only[Tryz.f67,Tk.cells,Int.reduceBEq,q7,q8,o1,Af,A7,Nat.reduceAdd,Nat.reduceSub,Nat.reduceLT,Nat.reduceEqDiff,reduceCtorEq]
    ·have o1:FloatKind.f64.format.order tr 0=some (if s then .lt else .gt):=(MO h).1;have o2:FloatKind.f64.format.order tr 9218868437227405311=some (if s then .lt else .gt):=(MO h).2.1;rw[h];cases s with
     |true=>
      simp only[if_true]at o1;simp only[Tryz.f67,Tk.cells,Int.reduceBEq,q5,q6,o1,Af,A7,Nat.reduceAdd,Nat.reduceSub,Nat.reduceLT,Nat.reduceEqDiff,reduceCtorEq]
     |false=>
      simp only[Bool.false_eq_true,if_false]at o1 o2;simp only[Tryz.f67,Tk.cells,Int.reduceBEq,q1,q2,o1,Af,A7,Nat.reduceAdd,Nat.reduceSub,Nat.reduceLT,Nat.reduceEqDiff,reduceCtorEq];refine Ag.intro c119 rfl (LK tr) ?_;simp only[o2,q1,Af,Bv,Nat.reduceLT,Nat.reduceEqDiff,reduceCtorEq]
    ·have o1:FloatKind.f64.format.order tr 0=some (if m=0 then .eq else if s then .lt else .gt):=Vz h hi;have o2:(FloatKind.f64.format.order tr 9218868437227405311==some .gt)=false:=R5 h hm hj;have hn:=Vv (γ:=γ) tr hr;rw[h]at hn⊢;have hn:Ev Tp γ 120 [.v (.float .f64 tr)] (.v (.bool s)):=hn
     by_cases h0:m=0
     ·simp only[if_pos h0]at o1;simp only[Tryz.f67,Tk.cells,Int.reduceBEq,q3,q4,o1,Af,A7,Nat.reduceAdd,Nat.reduceSub,Nat.reduceLT,Nat.reduceEqDiff,reduceCtorEq];refine Ag.intro c119 rfl (LK tr) ?_;simp only[o2,Af,A7,Bf,Nat.reduceLT,Nat.reduceEqDiff,reduceCtorEq];refine Ag.intro oH rfl hn ?_;simp only[Af,Nat.reduceLT,Nat.reduceEqDiff,reduceCtorEq];cases s<;>rfl
     ·simp only[if_neg h0]at o1;cases s with
      |true=>
       simp only[if_true]at o1;simp only[Tryz.f67,Tk.cells,Int.reduceBEq,q5,q6,o1,Af,A7,Nat.reduceAdd,Nat.reduceSub,Nat.reduceLT,Nat.reduceEqDiff,reduceCtorEq]
      |false=>
       simp only[Bool.false_eq_true,if_false]at o1;simp only[Tryz.f67,Tk.cells,Int.reduceBEq,q1,q2,o1,Af,A7,Nat.reduceAdd,Nat.reduceSub,Nat.reduceLT,Nat.reduceEqDiff,reduceCtorEq];refine Ag.intro c119 rfl (LK tr) ?_;simp only[o2,Af,A7,Bf,Nat.reduceLT,Nat.reduceEqDiff,reduceCtorEq];refine Ag.intro oH rfl hn ?_;simp only[Af,Bf,Nat.reduceLT,Nat.reduceEqDiff,reduceCtorEq]
   ·have d3:(kd==3)=false:=by simpa using h3
    rw[if_neg h3]
    by_cases h4:kd=4
    ·subst h4;simp only[Tryz.f67,Ly,Tk.cells,Int.reduceBEq,if_true,Af,A7,Nat.reduceAdd,Nat.reduceSub,Nat.reduceLT,Nat.reduceEqDiff,reduceCtorEq];rw[show (decide ((tx.length:Int)≤256))=decide (tx.length≤256)by simp only[decide_eq_decide];omega]
    ·have d4:(kd==4)=false:=by simpa using h4
     rw[if_neg h4];simp only[Tryz.f67,Tk.cells,d1,d2,d3,d4,Af,A7,Nat.reduceAdd,Nat.reduceSub,Nat.reduceLT,Nat.reduceEqDiff,reduceCtorEq]
theorem bK(hγ:Gl γ)(hγ2:TI γ)(t:Tk)(hs:t.text.length≤140737488351232)(hr:t.real<18446744073709551616):Ev Tp γ 66 [.agg t.cells] (.v (.bool (!FP t))):=by
 refine Ev.of Tryz.func66 rfl ?_;simp only[Tryz.f66,Tk.cells,Af,A7,Nat.reduceAdd,Nat.reduceSub,Nat.reduceLT,Nat.reduceLeDiff,Nat.reduceEqDiff,reduceCtorEq];refine Ag.intro c67 rfl (Xp hγ hγ2 t hs hr) ?_;simp only[Af,Nat.reduceLT,Nat.reduceEqDiff,reduceCtorEq]
def OO(ts:List Tk):Nat:=(ts.takeWhile FP).length
theorem U3(ts:List Tk):OO ts≤ts.length:=(List.takeWhile_prefix FP).length_le
theorem Qi:∀ (ts:List Tk) (k:Nat) (t:Tk),k<OO ts→ts[k]?=some t→FP t=true
 |[],k,t,h,ht=>by cases ht
 |x::ts,k,t,h,ht=>by
  unfold OO at h;rw[List.takeWhile_cons]at h
  split at h
  ·rename_i hx;cases k with
   |zero=>cases ht;exact hx
   |succ k=>exact Qi ts k t (by unfold OO;rw[BC]at h;omega) (by simpa using ht)
  ·simp at h
theorem Vh:∀ (ts:List Tk) (t:Tk),ts[OO ts]?=some t→FP t=false
 |[],t,ht=>by cases ht
 |x::ts,t,ht=>by
  unfold OO at ht;rw[List.takeWhile_cons]at ht
  split at ht
  ·exact Vh ts t (by unfold OO;simpa using ht)
  ·rename_i hx;cases ht;simpa using hx
theorem lR{ts:List Tk}{k:Nat}{t:Tk}(hk:k≤OO ts)(ht:ts[k]?=some t)(hs:FP t=true):k+1≤OO ts:=by
 by_cases h:k=OO ts
 ·rw[h]at ht;rw[Vh ts t ht]at hs;cases hs
 ·omega
theorem j5{ts:List Tk}{k:Nat}{t:Tk}(hk:k≤OO ts)(ht:ts[k]?=some t)(hs:FP t=false):k=OO ts:=by
 by_cases h:k=OO ts
 ·exact h
 ·rw[Qi ts k t (by omega) ht]at hs;cases hs
def OD(ts:List Tk):Int:=if OO ts<ts.length then (OO ts:Int)else -1
theorem c65:Ak Tp 65:=⟨_,Tryz.func65,by kernel_rfl,by kernel_rfl⟩
def QF(t:Tk):Prop:=t.text.length≤140737488351232∧t.real<18446744073709551616
def nP(γ:List (Nat×AV))(L:AV)(n k:Nat):St:=⟨⟨19,[(0,L),(1,.v (.func (.func 66) #[] #[])),(7,.v (.int .i64 (n:Int))),(8,.v (.int .i64 (k:Int)))],γ⟩,[]⟩
theorem Sz(hγ:Gl γ)(hγ2:TI γ){L:AV}{ts:List Tk}(hL:EV L ts)(ht:∀ t∈ts,QF t)(hn:ts.length<4611686018427387904):Ev Tp γ 65 [L,.v (.func (.func 66) #[] #[])] (.v (.int .i64 (OD ts))):=by
 refine Ev.ofE Tryz.func65 rfl ?_
 rcases hL with⟨rfl,rfl⟩|⟨b,m,cs,rfl,hcs⟩
 ·simp only[Tryz.f65,Af,A7,seval];refine Cp.intro (nP γ (.v (.slice none 0 0)) 0) (fun k=>k=0) (fun k=>0) 0 ⟨rfl,rfl,⟨rfl,rfl,rfl,rfl,trivial⟩,rfl⟩ rfl (fun k hk=>?_);subst hk;have d0:decide (((0:Nat):Int)<((0:Nat):Int))=false:=by decide
  simp only[nP,Af,seval]
  rfl
 ·simp only[Tryz.f65,Af,A7,seval];refine Cp.intro (nP γ (.sl b ts.length m cs) ts.length) (fun k=>k≤OO ts) (fun k=>ts.length-k) 0 ⟨rfl,rfl,⟨rfl,rfl,rfl,rfl,trivial⟩,rfl⟩ (BN _) (fun k hk=>?_);have hle:=U3 ts
  by_cases hlt:k<ts.length
  ·have d2:decide (k<ts.length)=true:=decide_eq_true hlt;obtain⟨t,htk⟩:∃ t,ts[k]?=some t:=⟨ts[k],by simp[hlt]⟩;have h6:=EV.take hcs htk;have h6l:6≤(cs.drop (k * 6)).length:=by have:=EV.len hcs hlt;rw[Bd];omega
   have hok:=ht t (List.mem_of_getElem? htk);have w1:IntKind.i64.wrap ((k:Int)+1)=((k+1:Nat):Int):=(A4 (by omega) (by omega)).trans (by omega);simp only[nP,d2,h6,h6l,Af,A7,seval];refine⟨hlt,Jo.intro c66 _ (Ck.ofEv (.inl ⟨rfl,rfl⟩) (bK hγ hγ2 t hok.1 hok.2)) (fun r h' hh=>?_) (fun v h' hh=>by cases hh.1)⟩;obtain⟨e,rfl⟩:=hh;cases e;cases hs:FP t with
   |true=>
    simp only[w1,Af,Bv,seval];exact AF.intro (k+1) (lR hk htk hs) ⟨rfl,rfl,⟨rfl,rfl,rfl,rfl,trivial⟩,rfl⟩ (by show ts.length-(k+1)<ts.length-k;clear w1;omega)
   |false=>
    have ek:=j5 hk htk hs;have hi:OD ts=(k:Int):=by unfold OD;rw[←ek,if_pos hlt]
    rw[hi];simp only[Af,Bf,seval]
  ·have d2:decide (k<ts.length)=false:=decide_eq_false hlt;have hi:OD ts = -1:=by unfold OD;rw[if_neg (by omega)]
   rw[hi];simp only[nP,d2,Af,seval]
def DH(ts:List Tk)(p:Nat):Nat:=p+OO (ts.drop p)
def Cu(ts:List Tk)(f:Int):List Nd×Int×Int:=
 if f<0∨(ts.length:Int)<f then ([],0,2)else match HS (ts.take (DH ts f.toNat)) f.toNat with
  |.bad q=>([],q,50)
  |.ok t q=>if Fa t.size t.deep=0 then (lay t 0,q,0)else ([],f,Fa t.size t.deep)
def Ph(ts:List Tk)(f:Int):AV:=.tup [.agg [Ab (Cu ts f).1],.v (.int .i64 (Cu ts f).2.1),.v (.int .i64 (Cu ts f).2.2)]
theorem MF{ts:List Tk}{p:Nat}(hp:p≤ts.length):DH ts p≤ts.length:=by
 have:=U3 (ts.drop p);rw[Bd]at this;unfold DH;omega
theorem IU(a b:List Tk):C3 (a++b)=C3 a++C3 b:=List.flatMap_append
theorem SU{ts:List Tk}{cs:List AV}(h:C3 ts<+:cs)(k:Nat):C3 (ts.take k)<+:cs:=by
 refine List.IsPrefix.trans ?_ h;have:ts=ts.take k++ts.drop k:=(List.take_append_drop k ts).symm
 conv=>rhs;rw[this,IU]
 exact List.prefix_append _ _
theorem Z9{ts:List Tk}{cs:List AV}(h:C3 ts<+:cs){k:Nat}(hk:k≤ts.length):C3 (ts.drop k)<+:cs.drop (k * 6):=by
 obtain⟨r,rfl⟩:=h;have e:ts=ts.take k++ts.drop k:=(List.take_append_drop k ts).symm;have hl:(C3 (ts.take k)).length=k * 6:=by rw[Fm,Bh,Nat.min_eq_left hk]
 conv=>rhs;rw[e,IU,Bo,←hl,List.drop_left]
 exact List.prefix_append _ _
def o4(L:AV)(ts:List Tk):Prop:=(L=.v (.slice none 0 0)∧ts=[])∨∃ b m cs,L=.sl b ts.length m cs∧C3 ts<+:cs∧cs.length≤m * 6∧ts.length≤m
theorem c26:Ak Tp 26:=⟨_,Tryz.func26,by kernel_rfl,by kernel_rfl⟩
theorem Xm(hγ:Gl γ)(hγ2:TI γ){L:AV}{ts:List Tk}(hL:o4 L ts)(ht:∀ t∈ts,QF t)(hn:ts.length≤2000000)(f:Int):Ev Tp γ 26 [L,.v (.int .i64 f)] (Ph ts f):=by
 refine Ev.ofE Tryz.func26 rfl ?_
 have ll:∀ s,CE Tp 48 s L=some (.v (.int .i64 ts.length)):=fun s=>by
  have e24:Az Tp 48=some 53:=by kernel_rfl
  rcases hL with⟨rfl,rfl⟩|⟨b,m,cs,rfl,_⟩
  ·simp only[CE,e24];rfl
  ·simp only[CE,e24];rfl
 have fl:flat L=some [L]:=by rcases hL with⟨rfl,rfl⟩|⟨b,m,cs,rfl,_⟩<;>rfl
 have fo:Cl L=true:=by rcases hL with⟨rfl,rfl⟩|⟨b,m,cs,rfl,_⟩<;>rfl
 unfold Ph
 by_cases h1:f<0
 ·have d1:decide (f<0)=true:=decide_eq_true h1;have hR:Cu ts f=([],0,2):=by unfold Cu;rw[if_pos (.inl h1)]
  rw[hR];simp only[Tryz.f26,Ly,JJ,d1,Ab,Af,Nat.reduceAdd,Nat.reduceSub,Nat.reduceLT,Nat.reduceLeDiff,Nat.reduceEqDiff,reduceCtorEq]
 ·have d1:decide (f<0)=false:=decide_eq_false h1
  by_cases h2:(ts.length:Int)<f
  ·have d2:decide ((ts.length:Int)<f)=true:=decide_eq_true h2;have hR:Cu ts f=([],0,2):=by unfold Cu;rw[if_pos (.inr h2)]
   rw[hR];simp only[Tryz.f26,Ly,JJ,ll,d1,d2,Ab,Af,Nat.reduceAdd,Nat.reduceSub,Nat.reduceLT,Nat.reduceLeDiff,Nat.reduceEqDiff,reduceCtorEq]
  ·have d2:decide ((ts.length:Int)<f)=false:=decide_eq_false h2;obtain⟨p,rfl⟩:∃ p:Nat,f=p:=⟨f.toNat,by omega⟩;have hp:p≤ts.length:=by omega
   have hR:Cu ts p=match HS (ts.take (DH ts p)) p with
     |.bad q=>([],(q:Int),50)
     |.ok t q=>if Fa t.size t.deep=0 then (lay t 0,(q:Int),0)else ([],(p:Int),Fa t.size t.deep):=by
    unfold Cu;rw[if_neg (by omega),Int.toNat_natCast]
   have d2:decide (ts.length<p)=false:=decide_eq_false (by omega);clear h1 h2
   rcases hL with⟨rfl,rfl⟩|⟨b,m,cs,rfl,hcs,hc1,hc2⟩
   ·have hp0:p=0:=Nat.le_zero.1 hp;subst hp0;have dm:decide ((0:Int) ≤ -1)=false:=by decide
    simp only[Tryz.f26,Ly,ll,d1,fl,fo,Af,A7,Nat.reduceAdd,Nat.reduceSub,Nat.reduceLT,Nat.reduceLeDiff,Nat.reduceEqDiff,reduceCtorEq];refine Ao.pure (Ag.intro c65 rfl (Sz hγ hγ2 (.inl ⟨rfl,rfl⟩) (fun t h=>by cases h) (by decide)) ?_);have e0:OD [] = -1:=rfl;simp only[e0,Af,Nat.reduceLT,Nat.reduceEqDiff,reduceCtorEq,Int.reduceLE];have hcut2:(([]:List Tk).take (DH [] 0)).length=0:=by simp
    refine Ao.intro c60 _ (QD (ts:=([]:List Tk).take (DH [] 0)) (.inl ⟨rfl,List.take_nil⟩) (by rw[hcut2];decide) (h:=[⟨0,41,[.v (.slice none 0 0)]⟩,⟨0,104,[.v (.slice none 0 0),.v (.int .i64 (((0:Nat)):Int)),.v (.slice none 0 0)]⟩]) (i:=1) (p:=0) (N:=.v (.slice none 0 0)) (ns:=[]) (BN _) ⟨rfl,.inl ⟨rfl,rfl⟩⟩ (by simp)) (fun r h1 hh=>?_) (fun v h' hh=>?_)
    rotate_left
    ·obtain⟨_,hh⟩:=hh;cases er:HS (([]:List Tk).take (DH [] 0)) 0 with
     |bad q=>rw[er]at hh;cases hh
     |ok t q=>rw[er]at hh;cases hh.1
    obtain⟨f1,hh⟩:=hh;have k0:h1[0]?=some ⟨0,41,[.v (.slice none 0 0)]⟩:=f1.at rfl fun h=>h.elim (fun e=>by cases e) fun e=>e
    have kz:∀ b,(h1.set 0 b)[0]?=some b:=fun b=>Be (Bs.1 k0).1
    cases er:HS (([]:List Tk).take (DH [] 0)) 0 with
    |bad q=>
     rw[er]at hh hR;have hh:Out.ret r=Out.ret (.v (.int .i64 (q:Int))):=hh;cases hh;have d4:decide ((0:Int)≤(q:Int))=true:=decide_eq_true (by omega);rw[hR];simp only[Ly,k0,kz,JJ,Ab,Af,Nat.reduceLT,Nat.reduceLeDiff,Nat.reduceEqDiff,reduceCtorEq]
    |ok t q=>
     rw[er]at hh hR;obtain⟨eo,N',r1,n1⟩:=hh;cases eo;have hr1:h1[1]?=_:=r1.1;have d4:decide ((0:Int) ≤ -1)=false:=by decide
     have hadv:=Eo _ _ _ _ _ _ (BN _) er;obtain⟨⟨g1,g2⟩,g3⟩:=hadv;have hwf:=VU _ _ _ _ _ _ (fun n a e=>by cases e) er;have hsz:t.size≤2000001:=(by rw[hcut2]at *;omega);have hN:=r1.2;rw[Bi,BD]at hN;have hlen:=B2 t 0;have hps:=size_pos t;obtain⟨j,ver,rfl,hj⟩:=hN.own (by omega);simp only[hr1,Af,A7,Nat.reduceLT,Nat.reduceEqDiff,reduceCtorEq,Int.reduceLE];refine Ao.pure (Ag.lend c61 _ (Pa hj BB (RV _)) (LS t hwf (by omega)) rfl ?_)
     by_cases hk:Fa t.size t.deep=0
     ·have d5:(Fa t.size t.deep != 0)=false:=by simpa using hk
      have hj0:j≠0:=fun e=>by subst e;rw[k0]at hj;cases hj
      have kx:∀ b,(h1.set 0 b)[1]?=some _:=fun b=>(Bn (by decide)).trans hr1
      rw[hR];simp only[if_pos hk];simp only[d5,Af,Nat.reduceLT,Nat.reduceEqDiff,reduceCtorEq];refine Cr.orders [[0,1,2,3,4,5,6,7,8,9,10,11],[0,1,2,3,4,9,5,6,7,8,10,11],[0,1,2,3,4,5,9,6,7,8,10,11],[0,1,2,3,4,5,6,9,7,8,10,11],[0,1,2,3,4,5,6,7,9,8,10,11]] (by kernel_rfl) (by kernel_rfl) (by kernel_rfl) (fun p hp=>?_);simp only[BI,List.not_mem_nil,or_false]at hp
      rcases hp with rfl|rfl|rfl|rfl|rfl
      all_goals simp only[CI,BU,Bu,Bz,Ly,hr1,kx,k0,kz,JJ,Af,A7,Nat.reduceLT,Nat.reduceLeDiff,Nat.reduceEqDiff,reduceCtorEq]
      all_goals exact Lr ((Bn (Ne.symm hj0)).trans hj) (by omega)
     ·have d5:(Fa t.size t.deep != 0)=true:=by simpa using hk
      rw[hR];simp only[if_neg hk];simp only[Ly,d5,k0,kz,JJ,Ab,Af,Nat.reduceLT,Nat.reduceLeDiff,Nat.reduceEqDiff,reduceCtorEq]
   ·have e1:=Bd (i:=p) (l:=ts);simp only[Tryz.f26,Ly,ll,d1,d2,fl,fo,Af,A7,Nat.reduceAdd,Nat.reduceSub,Nat.reduceLT,Nat.reduceLeDiff,Nat.reduceEqDiff,reduceCtorEq];refine⟨⟨hc1,hc2,hp⟩,Ao.pure (Ag.intro c65 rfl (Sz hγ hγ2 (ts:=ts.drop p) (.inr ⟨b,_,_,by rw[e1],Z9 hcs hp⟩) (fun t h=>ht t (List.mem_of_mem_drop h)) (by omega)) ?_)⟩
    by_cases hb:OO (ts.drop p)<(ts.drop p).length
    ·have e0:OD (ts.drop p)=(OO (ts.drop p):Int):=by unfold OD;rw[if_pos hb]
     have d3:decide ((0:Int)≤(OO (ts.drop p):Int))=true:=decide_eq_true (by omega);have w1:IntKind.i64.wrap ((p:Int)+(OO (ts.drop p):Int))=((DH ts p:Nat):Int):=(A4 (by omega) (by omega)).trans (by unfold DH;omega);have hcut:=MF hp;have hcut2:(ts.take (DH ts p)).length=DH ts p:=by rw[Bh];omega
     simp only[e0,w1,Af,A7,Nat.reduceAdd,Nat.reduceLT,Nat.reduceLeDiff,Nat.reduceEqDiff,reduceCtorEq];refine⟨⟨hc1,by omega⟩,?_⟩;refine Ao.intro c60 _ (QD (ts:=ts.take (DH ts p)) (.inr ⟨b,m,cs,by rw[hcut2],SU hcs _⟩) (by omega) (h:=[⟨0,41,[.v (.slice none 0 0)]⟩,⟨0,104,[.sl b (DH ts p) m cs,.v (.int .i64 (p:Int)),.v (.slice none 0 0)]⟩]) (i:=1) (p:=p) (N:=.v (.slice none 0 0)) (ns:=[]) (by rw[hcut2];unfold DH;omega) ⟨rfl,.inl ⟨rfl,rfl⟩⟩ (by rw[hcut2,BD];omega)) (fun r h1 hh=>?_) (fun v h' hh=>?_)
     rotate_left
     ·obtain⟨_,hh⟩:=hh;cases er:HS (ts.take (DH ts p)) p with
      |bad q=>rw[er]at hh;cases hh
      |ok t q=>rw[er]at hh;cases hh.1
     obtain⟨f1,hh⟩:=hh;have k0:h1[0]?=some ⟨0,41,[.v (.slice none 0 0)]⟩:=f1.at rfl fun h=>h.elim (fun e=>by cases e) fun e=>e
     have kz:∀ b,(h1.set 0 b)[0]?=some b:=fun b=>Be (Bs.1 k0).1
     cases er:HS (ts.take (DH ts p)) p with
     |bad q=>
      rw[er]at hh hR;have hh:Out.ret r=Out.ret (.v (.int .i64 (q:Int))):=hh;cases hh;have d4:decide ((0:Int)≤(q:Int))=true:=decide_eq_true (by omega);rw[hR];simp only[Ly,k0,kz,JJ,Ab,Af,Nat.reduceLT,Nat.reduceLeDiff,Nat.reduceEqDiff,reduceCtorEq]
     |ok t q=>
      rw[er]at hh hR;obtain⟨eo,N',r1,n1⟩:=hh;cases eo;have hr1:h1[1]?=_:=r1.1;have d4:decide ((0:Int) ≤ -1)=false:=by decide
      have hadv:=Eo _ _ _ _ _ _ (by rw[hcut2];unfold DH;omega) er;obtain⟨⟨g1,g2⟩,g3⟩:=hadv;have hwf:=VU _ _ _ _ _ _ (fun n a e=>by cases e) er;have hsz:t.size≤2000001:=(by rw[hcut2]at *;omega);have hN:=r1.2;rw[Bi,BD]at hN;have hlen:=B2 t 0;have hps:=size_pos t;obtain⟨j,ver,rfl,hj⟩:=hN.own (by omega);simp only[hr1,Af,A7,Nat.reduceLT,Nat.reduceEqDiff,reduceCtorEq,Int.reduceLE];refine Ao.pure (Ag.lend c61 _ (Pa hj BB (RV _)) (LS t hwf (by omega)) rfl ?_)
      by_cases hk:Fa t.size t.deep=0
      ·have d5:(Fa t.size t.deep != 0)=false:=by simpa using hk
       have hj0:j≠0:=fun e=>by subst e;rw[k0]at hj;cases hj
       have kx:∀ b,(h1.set 0 b)[1]?=some _:=fun b=>(Bn (by decide)).trans hr1
       rw[hR];simp only[if_pos hk];simp only[d5,Af,Nat.reduceLT,Nat.reduceEqDiff,reduceCtorEq];refine Cr.orders [[0,1,2,3,4,5,6,7,8,9,10,11],[0,1,2,3,4,9,5,6,7,8,10,11],[0,1,2,3,4,5,9,6,7,8,10,11],[0,1,2,3,4,5,6,9,7,8,10,11],[0,1,2,3,4,5,6,7,9,8,10,11]] (by kernel_rfl) (by kernel_rfl) (by kernel_rfl) (fun p hp=>?_);simp only[BI,List.not_mem_nil,or_false]at hp
       rcases hp with rfl|rfl|rfl|rfl|rfl
       all_goals simp only[CI,BU,Bu,Bz,Ly,hr1,kx,k0,kz,JJ,Af,A7,Nat.reduceLT,Nat.reduceLeDiff,Nat.reduceEqDiff,reduceCtorEq]
       all_goals exact Lr ((Bn (Ne.symm hj0)).trans hj) (by omega)
      ·have d5:(Fa t.size t.deep != 0)=true:=by simpa using hk
       rw[hR];simp only[if_neg hk];simp only[Ly,d5,k0,kz,JJ,Ab,Af,Nat.reduceLT,Nat.reduceLeDiff,Nat.reduceEqDiff,reduceCtorEq]
    ·have e0:OD (ts.drop p) = -1:=by unfold OD;rw[if_neg hb]
     have dm:decide ((0:Int) ≤ -1)=false:=by decide
     have hcut:DH ts p=ts.length:=by have:=U3 (ts.drop p);unfold DH;omega
     simp only[e0,Af,Nat.reduceLT,Nat.reduceEqDiff,reduceCtorEq,Int.reduceLE];have hcut2:(ts.take (DH ts p)).length=ts.length:=by rw[Bh];omega
     refine Ao.intro c60 _ (QD (ts:=ts.take (DH ts p)) (.inr ⟨b,m,cs,by rw[hcut2],SU hcs _⟩) (by omega) (h:=[⟨0,41,[.v (.slice none 0 0)]⟩,⟨0,104,[.sl b ts.length m cs,.v (.int .i64 (p:Int)),.v (.slice none 0 0)]⟩]) (i:=1) (p:=p) (N:=.v (.slice none 0 0)) (ns:=[]) (by rw[hcut2];omega) ⟨rfl,.inl ⟨rfl,rfl⟩⟩ (by rw[hcut2,BD];omega)) (fun r h1 hh=>?_) (fun v h' hh=>?_)
     rotate_left
     ·obtain⟨_,hh⟩:=hh;cases er:HS (ts.take (DH ts p)) p with
      |bad q=>rw[er]at hh;cases hh
      |ok t q=>rw[er]at hh;cases hh.1
     obtain⟨f1,hh⟩:=hh;have k0:h1[0]?=some ⟨0,41,[.v (.slice none 0 0)]⟩:=f1.at rfl fun h=>h.elim (fun e=>by cases e) fun e=>e
     have kz:∀ b,(h1.set 0 b)[0]?=some b:=fun b=>Be (Bs.1 k0).1
     cases er:HS (ts.take (DH ts p)) p with
     |bad q=>
      rw[er]at hh hR;have hh:Out.ret r=Out.ret (.v (.int .i64 (q:Int))):=hh;cases hh;have d4:decide ((0:Int)≤(q:Int))=true:=decide_eq_true (by omega);rw[hR];simp only[Ly,k0,kz,JJ,Ab,Af,Nat.reduceLT,Nat.reduceLeDiff,Nat.reduceEqDiff,reduceCtorEq]
     |ok t q=>
      rw[er]at hh hR;obtain⟨eo,N',r1,n1⟩:=hh;cases eo;have hr1:h1[1]?=_:=r1.1;have d4:decide ((0:Int) ≤ -1)=false:=by decide
      have hadv:=Eo _ _ _ _ _ _ (by rw[hcut2];omega) er;obtain⟨⟨g1,g2⟩,g3⟩:=hadv;have hwf:=VU _ _ _ _ _ _ (fun n a e=>by cases e) er;have hsz:t.size≤2000001:=(by rw[hcut2]at *;omega);have hN:=r1.2;rw[Bi,BD]at hN;have hlen:=B2 t 0;have hps:=size_pos t;obtain⟨j,ver,rfl,hj⟩:=hN.own (by omega);simp only[hr1,Af,A7,Nat.reduceLT,Nat.reduceEqDiff,reduceCtorEq,Int.reduceLE];refine Ao.pure (Ag.lend c61 _ (Pa hj BB (RV _)) (LS t hwf (by omega)) rfl ?_)
      by_cases hk:Fa t.size t.deep=0
      ·have d5:(Fa t.size t.deep != 0)=false:=by simpa using hk
       have hj0:j≠0:=fun e=>by subst e;rw[k0]at hj;cases hj
       have kx:∀ b,(h1.set 0 b)[1]?=some _:=fun b=>(Bn (by decide)).trans hr1
       rw[hR];simp only[if_pos hk];simp only[d5,Af,Nat.reduceLT,Nat.reduceEqDiff,reduceCtorEq];refine Cr.orders [[0,1,2,3,4,5,6,7,8,9,10,11],[0,1,2,3,4,9,5,6,7,8,10,11],[0,1,2,3,4,5,9,6,7,8,10,11],[0,1,2,3,4,5,6,9,7,8,10,11],[0,1,2,3,4,5,6,7,9,8,10,11]] (by kernel_rfl) (by kernel_rfl) (by kernel_rfl) (fun p hp=>?_);simp only[BI,List.not_mem_nil,or_false]at hp
       rcases hp with rfl|rfl|rfl|rfl|rfl
       all_goals simp only[CI,BU,Bu,Bz,Ly,hr1,kx,k0,kz,JJ,Af,A7,Nat.reduceLT,Nat.reduceLeDiff,Nat.reduceEqDiff,reduceCtorEq]
       all_goals exact Lr ((Bn (Ne.symm hj0)).trans hj) (by omega)
      ·have d5:(Fa t.size t.deep != 0)=true:=by simpa using hk
       rw[hR];simp only[if_neg hk];simp only[Ly,d5,k0,kz,JJ,Ab,Af,Nat.reduceLT,Nat.reduceLeDiff,Nat.reduceEqDiff,reduceCtorEq]
theorem c8{ts:List Tk}(ht:∀ t∈ts,QF t)(hn:ts.length≤2000000){p:Nat}(hp:p≤ts.length):bQ γ FP ts (ts.take (DH ts p)) p:=by
 have hcut:=MF hp;have hcut2:(ts.take (DH ts p)).length=DH ts p:=by rw[Bh];omega
 refine⟨List.take_prefix _ _,fun k t hk h=>?_,fun t h=>?_,fun t h=>Vr t (ht t h).1,by omega⟩
 ·have hk2:k<DH ts p:=by have:=(Bs.1 h).1;omega
  rw[BY,if_pos hk2]at h;refine Qi (ts.drop p) (k-p) t (by unfold DH at hk2;omega) ?_;rw[BX,show p+(k-p)=k from by omega];exact h
 ·rw[hcut2]at h;refine Vh (ts.drop p) t ?_;rw[BX];exact h
theorem Wm{L:AV}{ts:List Tk}(hL:EV L ts)(ht:∀ t∈ts,QF t)(hn:ts.length≤2000000)(f:Int):Ev Tp γ 27 [L,.v (.int .i64 f)] (Ph ts f):=by
 refine Ev.ofG Tryz.func27 rfl ?_
 have ll:∀ s,CE Tp 47 s L=some (.v (.int .i64 ts.length)):=fun s=>by
  have e24:Az Tp 47=some 54:=by kernel_rfl
  rcases hL with⟨rfl,rfl⟩|⟨b,m,cs,rfl,_⟩
  ·simp only[CE,e24];rfl
  ·simp only[CE,e24];rfl
 have fl:flat L=some [L]:=by rcases hL with⟨rfl,rfl⟩|⟨b,m,cs,rfl,_⟩<;>rfl
 have fo:Cl L=true:=by rcases hL with⟨rfl,rfl⟩|⟨b,m,cs,rfl,_⟩<;>rfl
 unfold Ph
 by_cases h1:f<0
 ·have d1:decide (f<0)=true:=decide_eq_true h1;have hR:Cu ts f=([],0,2):=by unfold Cu;rw[if_pos (.inl h1)]
  rw[hR];simp only[Tryz.f27,Dt,JJ,d1,Ab,B4,seval]
 ·have d1:decide (f<0)=false:=decide_eq_false h1
  by_cases h2:(ts.length:Int)<f
  ·have d2:decide ((ts.length:Int)<f)=true:=decide_eq_true h2;have hR:Cu ts f=([],0,2):=by unfold Cu;rw[if_pos (.inr h2)]
   rw[hR];simp only[Tryz.f27,Dt,JJ,ll,d1,d2,Ab,B4,seval]
  ·obtain⟨p,rfl⟩:∃ p:Nat,f=p:=⟨f.toNat,by omega⟩;have hp:p≤ts.length:=by omega
   have hR:Cu ts p=match HS (ts.take (DH ts p)) p with
     |.bad q=>([],(q:Int),50)
     |.ok t q=>if Fa t.size t.deep=0 then (lay t 0,(q:Int),0)else ([],(p:Int),Fa t.size t.deep):=by
    unfold Cu;rw[if_neg (by omega),Int.toNat_natCast]
    all_goals rfl
   have d2:decide (ts.length<p)=false:=decide_eq_false (by omega);clear h1 h2;have hst:=c8 (γ:=γ) ht hn hp;have hcut:=MF hp;have hcut2:(ts.take (DH ts p)).length=DH ts p:=by rw[Bh];omega
   have hpc:p≤(ts.take (DH ts p)).length:=by rw[hcut2];unfold DH;omega
   simp only[Tryz.f27,Dt,ll,d1,d2,fl,fo,B4,seval];refine Ao.intro iL _ (WR hL hst (h:=[⟨0,41,[.v (.slice none 0 0)]⟩,⟨0,109,[L,.v (.int .i64 (p:Int)),.v (.int .i64 (-1))]⟩]) (i:=1) (p:=p) (BL _) hpc rfl) (fun r h1 hh=>?_) (fun v h' hh=>hh.pan.elim);obtain⟨f1,hh⟩:=hh;have k0:h1[0]?=some ⟨0,41,[.v (.slice none 0 0)]⟩:=f1.at rfl (by show ¬(0:Nat)=1;decide);have kz:∀ b,(h1.set 0 b)[0]?=some b:=fun b=>Be (Bs.1 k0).1
   cases er:HS (ts.take (DH ts p)) p with
   |bad q=>
    rw[er]at hh hR;obtain⟨eo,p',r1⟩:=hh;cases eo;have hr1:h1[1]?=_:=r1;have kx:∀ b,(h1.set 0 b)[1]?=some _:=fun b=>(Bn (by decide)).trans hr1
    rw[hR];simp only[Dt,Ab,B4,seval];refine Cc.pure ?_;refine Cr.orders [[0,1,2,3,4,5,6,7],[0,5,1,2,3,4,6,7],[0,1,5,2,3,4,6,7],[0,1,2,5,3,4,6,7],[0,1,2,3,5,4,6,7]] (by kernel_rfl) (by kernel_rfl) (by kernel_rfl) (fun p hp=>?_);simp only[BI,List.not_mem_nil,or_false]at hp
    rcases hp with rfl|rfl|rfl|rfl|rfl
    all_goals simp only[CI,BU,Bu,Bz,Dt,hr1,kx,k0,kz,JJ,B4,A7,seval]
   |ok t q=>
    rw[er]at hh hR;obtain⟨x0,eo,hT,r1⟩:=hh;cases eo;obtain⟨qx,rfl⟩:=hT.ptr;obtain⟨bx,hbx⟩:=AD.blk hT;have hr1:h1[1]?=_:=r1;have hadv:=Eo _ _ _ _ _ _ hpc er;obtain⟨⟨g1,g2⟩,g3⟩:=hadv;have hwf:=VU _ _ _ _ _ _ (fun n a e=>by cases e) er;have hsz:t.size≤2000001:=by rw[hcut2]at *;omega
    simp only[Dt,hbx,B4,seval];refine Ao.intro c63 _ (Qd (by omega) hT) (fun r h2 hh=>?_) (fun v h' hh=>by cases hh.1);obtain⟨eo,rfl⟩:=hh;cases eo
    by_cases hk:Fa t.size t.deep=0
    ·have d5:(Fa t.size t.deep != 0)=false:=by simpa using hk
     rw[hR];simp only[if_pos hk];have hlen:=B2 t 0;have hps:=size_pos t;have hev:=gL (γ:=γ) t _ _ h2 (.ptr qx 0 0) (.v (.slice none 0 0)) [] hT (.inl ⟨rfl,rfl⟩) (by simp only[BD];omega);rw[Bi,BD]at hev;simp only[d5,B4,seval];refine Cc.orders [[0,1,2,7,3,4,5,6,8,9],[0,1,2,3,7,4,5,6,8,9],[0,1,2,3,4,7,5,6,8,9],[0,1,2,3,4,5,7,6,8,9],[0,1,2,3,4,5,6,7,8,9],[0,3,1,2,7,4,5,6,8,9],[0,3,1,2,4,7,5,6,8,9],[0,3,1,2,4,5,7,6,8,9],[0,3,1,2,4,5,6,7,8,9],[0,3,4,1,2,7,5,6,8,9],[0,3,4,1,2,5,7,6,8,9],[0,3,4,1,2,5,6,7,8,9],[0,3,4,5,1,2,7,6,8,9],[0,3,4,5,1,2,6,7,8,9],[0,3,4,5,6,1,2,7,8,9]] (fun _ _ _ h o h'=>mZ (.v (.slice none 0 0)) h (lay t 0) o h') fE (by kernel_rfl) (by kernel_rfl) (by kernel_rfl) (fun p hp=>?_);simp only[BI,List.not_mem_nil,or_false]at hp
     rcases hp with rfl|rfl|rfl|rfl|rfl|rfl|rfl|rfl|rfl|rfl|rfl|rfl|rfl|rfl|rfl
     all_goals simp only[Rz,CI,BU,Bu,Bz,Dt,hr1,B4,A7,seval]
     all_goals refine⟨o6,hev,fun r h3 hh=>?_,fun v h' hh=>by obtain⟨_,_,e,_⟩:=hh;cases e⟩
     all_goals obtain⟨f3,N3,eo,hN3,_⟩:=hh
     all_goals cases eo
     all_goals obtain⟨j,ver,rfl,hj⟩:=hN3.own (by omega)
     all_goals have k3:h3[0]?=some ⟨0,41,[.v (.slice none 0 0)]⟩:=f3.at k0 fun h=>h
     all_goals have k4:∀ b,(h3.set 0 b)[0]?=some b:=fun b=>Be (Bs.1 k3).1
     all_goals have hr3:h3[1]?=_:=f3.at hr1 fun h=>h
     all_goals have kx:∀ b,(h3.set 0 b)[1]?=some _:=fun b=>(Bn (by decide)).trans hr3
     all_goals have hj0:j≠0:=fun e=>by subst e;rw[k3]at hj;cases hj
     all_goals simp only[Bu,Bz,Dt,k3,k4,hr3,kx,JJ,B4,A7,seval]
     all_goals exact Lr ((Bn (Ne.symm hj0)).trans hj) (by omega)
    ·have d5:(Fa t.size t.deep != 0)=true:=by simpa using hk
     rw[hR];simp only[if_neg hk];simp only[Dt,d5,k0,kz,JJ,Ab,B4,seval]
def n1:List UInt8:=[105,110,116]
def n2:List UInt8:=[114,101,97,108]
def n3:List UInt8:=[99,111,109,112]
def n4:List UInt8:=[116,101,120,116]
def n5:List UInt8:=[98,111,111,108]
def Ei(l:List UInt8):Int×Bool:=if l=n1 then (1,true)else if l=n2 then (2,true)else if l=n3 then (3,true)else if l=n4 then (4,true)else if l=n5 then (5,true)else (0,false)
end Go.Proofs.YtlobiioioicmhaaGreatDoor
