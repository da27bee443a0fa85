/- A part of the proof. -/
import Derived.Test.YtlobiioioicmhaaGreatDoorDQ7
import Derived.Shelf.Strconv.Itoa0
import Derived.Shelf.Strconv.Itoa1
import Derived.Shelf.LaysM
import Derived.Shelf.Strconv.Itoa2
import Derived.Shelf.Strconv.Itoa3
import Derived.Test.YtlobiioioicmhaaGreatDoorProg
import Derived.Shelf.Strconv.ToError
import Derived.Lib.Walk
import Derived.Lib.ItoaMem
import Derived.Lib.AppendIntMem
import Derived.WalkKit
import Derived.BigCall
import Derived.BigGuard
import Derived.Lib.IndexLaws
import Derived.Lib.ItoaLen
set_option linter.all false
set_option maxHeartbeats 8000000
namespace Go.Proofs.YtlobiioioicmhaaGreatDoor.O
open _root_.Bool renaming not_true→Bv,not_false→Bf
open _root_.List renaming getElem?_eq_some_iff→Bs,getElem?_append_left→Ba,getElem?_set_self→Be,getElem?_set_ne→Bn,length_set→Bl,length_append→Bp,append_assoc→Bo,cons_append→Bc,nil_append→Bi,getElem?_cons_zero→Bz,getElem?_cons_succ→Bu,set_cons_zero→Bx,set_cons_succ→Bw,set_append_left→Bg,take_of_length_le→Bt,length_drop→Bd,length_take→Bh,mem_singleton→Bj,prefix_rfl→BB,length_cons→BC,length_nil→BD,flatMap_cons→BE,mem_cons→BI,getElem?_toArray→BU
open _root_.Nat renaming le_trans→BM,zero_le→BN,lt_of_lt_of_le→BO
open Go.Proofs.Tryz renaming prog→Tp
open Go Go.Ev
set_option maxRecDepth 20000
variable {γ:List (Nat×AV)}
theorem owL_vals{h:List ABlk}:∀ (l:List AV),(∀ y∈l,∃ v,y=AV.v v)→owL l h (List.replicate l.length .v) l []
 |[],_=>by simp only[owL,BD,List.replicate_zero];exact⟨trivial,trivial,trivial⟩
 |y::l,hl=>by
  obtain⟨v,rfl⟩:=hl y (List.mem_cons_self ..);simp only[owL,BC,List.replicate_succ];exact⟨.v,_,.v v,l,[],[],rfl,rfl,rfl,by simp only[ow];exact⟨.inl trivial,trivial,trivial⟩,owL_vals l fun y hy=>hl y (List.mem_cons_of_mem _ hy)⟩
theorem rows_115(n:Nat):rows 115 n=List.replicate (n * 9) .v:=by
 induction n with
 |zero=>rfl
 |succ n ih=>
  rw[rows_succ,ih,Nat.succ_mul,←List.replicate_append_replicate]
  rfl
theorem Rd.nodesN{S:Nat→Prop}{h:List ABlk}{j ver:Nat}{ns:List Nd}(hj:h[j]?=some ⟨ver,115,ndCells ns⟩)(hn:0<ns.length)(hS:¬S j):Rd (.s 115) S h (nodesA ns) (.own j ver ns.length):=by
 refine⟨[j],List.nodup_cons.2 ⟨List.not_mem_nil,.nil⟩,fun k hk=>by rcases Bj.1 hk with rfl;exact hS,?_⟩;cases ns with
 |nil=>exact absurd hn (by decide)
 |cons x r=>
  simp only[nodesA,ow];have:=owL_vals (h:=h) (ndCells (x::r)) (nds_v _);rw[ndCells_length,←rows_115]at this;exact⟨trivial,trivial,hn,115,j,ver,_,[],rfl,rfl,hj,rfl,this⟩
def ReadM(h:List ABlk)(r:List Nd×Int×Int)(o:Out)(h':List ABlk):Prop:=Fr NoB h h'∧∃ N,o=.ret (.tup [.agg [N],.v (.int .i64 r.2.1),.v (.int .i64 r.2.2)])∧Rd (.s 115) (Old h.length) h' (nodesA r.1) N
theorem read26M(hγ:Gl γ)(hγ2:GlW γ){L:AV}{ts:List Tk}(hL:LAs L ts)(ht:∀ t∈ts,okTk t)(hn:ts.length≤2000000)(f:Int)(h:List ABlk):EvM Tp γ 26 [L,.v (.int .i64 f)] h (ReadM h (readR ts f)):=by
 refine EvM.of Tryz.func26 rfl ?_
 have ll:∀ s,lenS Tp 48 s L=some (.v (.int .i64 ts.length)):=fun s=>by
  have e24:elemT Tp 48=some 53:=by kernel_rfl
  rcases hL with⟨rfl,rfl⟩|⟨b,m,cs,rfl,_⟩
  ·simp only[lenS,e24];rfl
  ·simp only[lenS,e24];rfl
 have fl:flat L=some [L]:=by rcases hL with⟨rfl,rfl⟩|⟨b,m,cs,rfl,_⟩<;>rfl
 have fo:oneA L=true:=by rcases hL with⟨rfl,rfl⟩|⟨b,m,cs,rfl,_⟩<;>rfl
 by_cases h1:f<0
 ·have d1:decide (f<0)=true:=decide_eq_true h1;have hR:readR ts f=([],0,2):=by unfold readR;rw[if_pos (.inl h1)]
  rw[hR];simp only[Tryz.f26,tyZ,ty41,d1,at_len,set_len,evE,Nat.reduceAdd,Nat.reduceSub,Nat.reduceLT,Nat.reduceLeDiff,Nat.reduceEqDiff,reduceCtorEq];exact⟨Fr.app _ _,_,rfl,Rd.none⟩
 ·have d1:decide (f<0)=false:=decide_eq_false h1
  by_cases h2:(ts.length:Int)<f
  ·have d2:decide ((ts.length:Int)<f)=true:=decide_eq_true h2;have hR:readR ts f=([],0,2):=by unfold readR;rw[if_pos (.inr h2)]
   rw[hR];simp only[Tryz.f26,tyZ,ty41,ll,d1,d2,at_len,set_len,evE,Nat.reduceAdd,Nat.reduceSub,Nat.reduceLT,Nat.reduceLeDiff,Nat.reduceEqDiff,reduceCtorEq];exact⟨Fr.app _ _,_,rfl,Rd.none⟩
  ·have d2:decide ((ts.length:Int)<f)=false:=decide_eq_false h2;obtain⟨p,rfl⟩:∃ p:Nat,f=p:=⟨f.toNat,by omega⟩;have hp:p≤ts.length:=by omega
   have hR:readR ts p=match readP (ts.take (cutN ts p)) p with
     |.bad q=>([],(q:Int),50)
     |.ok t q=>if limK t.size t.deep=0 then (lay t 0,(q:Int),0)else ([],(p:Int),limK t.size t.deep):=by
    unfold readR;rw[if_neg (by omega),Int.toNat_natCast]
    all_goals rfl
   have d2:decide (ts.length<p)=false:=decide_eq_false (by omega);clear h1 h2
   rcases hL with⟨rfl,rfl⟩|⟨b,m,cs,rfl,hcs,hc1,hc2⟩
   ·have hp0:p=0:=Nat.le_zero.1 hp;subst hp0;have dm:decide ((0:Int) ≤ -1)=false:=by decide
    simp only[Tryz.f26,tyZ,ll,d1,fl,fo,Bo,Bc,Bi,evE,tyX,Nat.reduceAdd,Nat.reduceSub,Nat.reduceLT,Nat.reduceLeDiff,Nat.reduceEqDiff,reduceCtorEq];refine CallE.pure (CallK.intro c65 rfl (index_ev hγ hγ2 (.inl ⟨rfl,rfl⟩) (fun t h=>by cases h) (by decide)) ?_);have e0:idxR [] = -1:=rfl;simp only[e0,evE,Nat.reduceLT,Nat.reduceEqDiff,reduceCtorEq,Int.reduceLE];have hcut2:(([]:List Tk).take (cutN [] 0)).length=0:=by simp
    refine CallE.intro c60 _ (read_ev (ts:=([]:List Tk).take (cutN [] 0)) (.inl ⟨rfl,List.take_nil⟩) (by rw[hcut2];decide) (h:=h++[⟨0,41,[.v (.slice none 0 0)]⟩,⟨0,104,[.v (.slice none 0 0),.v (.int .i64 (((0:Nat)):Int)),.v (.slice none 0 0)]⟩]) (i:=h.length+1) (p:=0) (N:=.v (.slice none 0 0)) (ns:=[]) (BN _) ⟨at_len1 _ _ _ _,.inl ⟨rfl,rfl⟩⟩ (by simp)) (fun r h1 hh=>?_) (fun v h' hh=>?_)
    rotate_left
    ·obtain⟨_,hh⟩:=hh;cases er:readP (([]:List Tk).take (cutN [] 0)) 0 with
     |bad q=>rw[er]at hh;cases hh
     |ok t q=>rw[er]at hh;cases hh.1
    obtain⟨f1,hh⟩:=hh;have k0:h1[h.length]?=some ⟨0,41,[.v (.slice none 0 0)]⟩:=f1.at (at_len _ _ _) fun h=>h.elim (fun e=>by omega) fun e=>e
    have F1:Fr NoB h h1:=(Fr.app (S:=NoB) h _).trans f1 fun k e=>.inr (e.elim (fun e=>by omega) fun e=>e.elim)
    have FZ:∀ b,Fr NoB h (h1.set h.length b):=fun b=>F1.trans (Fr.set (S:=IsI h.length) _ rfl) fun k e=>.inr (by have e:k=h.length:=e;omega)
    have kz:∀ b,(h1.set h.length b)[h.length]?=some b:=fun b=>Be (Bs.1 k0).1
    cases er:readP (([]:List Tk).take (cutN [] 0)) 0 with
    |bad q=>
     rw[er]at hh hR;have hh:Out.ret r=Out.ret (.v (.int .i64 (q:Int))):=hh;cases hh;have d4:decide ((0:Int)≤(q:Int))=true:=decide_eq_true (by omega);rw[hR];simp only[tyZ,k0,kz,ty41,evE,Nat.reduceLT,Nat.reduceLeDiff,Nat.reduceEqDiff,reduceCtorEq];exact⟨FZ _,_,rfl,Rd.none⟩
    |ok t q=>
     rw[er]at hh hR;obtain⟨eo,N',r1,n1⟩:=hh;cases eo;have hr1:h1[h.length+1]?=_:=r1.1;have d4:decide ((0:Int) ≤ -1)=false:=by decide
     have hadv:=pr_adv _ _ _ _ _ _ (BN _) er;obtain⟨⟨g1,g2⟩,g3⟩:=hadv;have hwf:=pr_wf _ _ _ _ _ _ (fun n a e=>by cases e) er;have hsz:t.size≤2000001:=(by rw[hcut2]at *;omega);have hN:=r1.2;rw[Bi,BD]at hN;have hlen:=lay_length t 0;have hps:=size_pos t;obtain⟨j,ver,rfl,hj⟩:=hN.own (by omega);simp only[hr1,evE,tyX,Nat.reduceLT,Nat.reduceEqDiff,reduceCtorEq,Int.reduceLE];refine CallE.pure (CallK.lend c61 _ (lend1 hj BB (nds_v _)) (limits_ev t hwf (by omega)) rfl ?_)
     by_cases hk:limK t.size t.deep=0
     ·have d5:(limK t.size t.deep != 0)=false:=by simpa using hk
      have hj0:j≠h.length:=fun e=>by subst e;rw[k0]at hj;cases hj
      have kx:∀ b,(h1.set h.length b)[h.length+1]?=some _:=fun b=>(Bn (by omega)).trans hr1
      have hjn:h.length≤j:=(n1 j rfl).elim (fun e=>e.elim) fun e=>by simp only[Bp,BC,BD]at e;omega
      rw[hR];simp only[if_pos hk];simp only[d5,evE,Nat.reduceLT,Nat.reduceEqDiff,reduceCtorEq];refine DrawK.orders [[0,1,2,3,4,5,6,7,8,9,10,11],[0,1,2,3,4,9,5,6,7,8,10,11],[0,1,2,3,4,5,9,6,7,8,10,11],[0,1,2,3,4,5,6,9,7,8,10,11],[0,1,2,3,4,5,6,7,9,8,10,11]] (by kernel_rfl) (by kernel_rfl) (by kernel_rfl) (fun p hp=>?_);simp only[BI,List.not_mem_nil,or_false]at hp
      rcases hp with rfl|rfl|rfl|rfl|rfl
      all_goals simp only[seqT,BU,Bu,Bz,tyZ,hr1,kx,k0,kz,ty41,evE,tyX,Nat.reduceLT,Nat.reduceLeDiff,Nat.reduceEqDiff,reduceCtorEq]
      all_goals exact⟨FZ _,_,rfl,Rd.nodesN (ns:=lay t 0) ((Bn (Ne.symm hj0)).trans hj) (by omega) (fun e=>by have e:j<h.length:=e;omega)⟩
     ·have d5:(limK t.size t.deep != 0)=true:=by simpa using hk
      rw[hR];simp only[if_neg hk];simp only[tyZ,d5,k0,kz,ty41,evE,Nat.reduceLT,Nat.reduceLeDiff,Nat.reduceEqDiff,reduceCtorEq];exact⟨FZ _,_,rfl,Rd.none⟩
   ·have e1:=Bd (i:=p) (l:=ts);simp only[Tryz.f26,tyZ,ll,d1,d2,fl,fo,Bo,Bc,Bi,evE,tyX,Nat.reduceAdd,Nat.reduceSub,Nat.reduceLT,Nat.reduceLeDiff,Nat.reduceEqDiff,reduceCtorEq];refine⟨⟨hc1,hc2,hp⟩,CallE.pure (CallK.intro c65 rfl (index_ev hγ hγ2 (ts:=ts.drop p) (.inr ⟨b,_,_,by rw[e1],LAt_drop hcs hp⟩) (fun t h=>ht t (List.mem_of_mem_drop h)) (by omega)) ?_)⟩
    by_cases hb:stN (ts.drop p)<(ts.drop p).length
    ·have e0:idxR (ts.drop p)=(stN (ts.drop p):Int):=by unfold idxR;rw[if_pos hb]
     have d3:decide ((0:Int)≤(stN (ts.drop p):Int))=true:=decide_eq_true (by omega);have w1:IntKind.i64.wrap ((p:Int)+(stN (ts.drop p):Int))=((cutN ts p:Nat):Int):=(i64w (by omega) (by omega)).trans (by unfold cutN;omega);have hcut:=cutN_le hp;have hcut2:(ts.take (cutN ts p)).length=cutN ts p:=by rw[Bh];omega
     simp only[e0,w1,at_len1,set_len1,evE,tyX,Nat.reduceAdd,Nat.reduceLT,Nat.reduceLeDiff,Nat.reduceEqDiff,reduceCtorEq];refine⟨⟨hc1,by omega⟩,?_⟩;refine CallE.intro c60 _ (read_ev (ts:=ts.take (cutN ts p)) (.inr ⟨b,m,cs,by rw[hcut2],LAt_take hcs _⟩) (by omega) (h:=h++[⟨0,41,[.v (.slice none 0 0)]⟩,⟨0,104,[.sl b (cutN ts p) m cs,.v (.int .i64 (p:Int)),.v (.slice none 0 0)]⟩]) (i:=h.length+1) (p:=p) (N:=.v (.slice none 0 0)) (ns:=[]) (by rw[hcut2];unfold cutN;omega) ⟨at_len1 _ _ _ _,.inl ⟨rfl,rfl⟩⟩ (by rw[hcut2,BD];omega)) (fun r h1 hh=>?_) (fun v h' hh=>?_)
     rotate_left
     ·obtain⟨_,hh⟩:=hh;cases er:readP (ts.take (cutN ts p)) p with
      |bad q=>rw[er]at hh;cases hh
      |ok t q=>rw[er]at hh;cases hh.1
     obtain⟨f1,hh⟩:=hh;have k0:h1[h.length]?=some ⟨0,41,[.v (.slice none 0 0)]⟩:=f1.at (at_len _ _ _) fun h=>h.elim (fun e=>by omega) fun e=>e
     have F1:Fr NoB h h1:=(Fr.app (S:=NoB) h _).trans f1 fun k e=>.inr (e.elim (fun e=>by omega) fun e=>e.elim)
     have FZ:∀ b,Fr NoB h (h1.set h.length b):=fun b=>F1.trans (Fr.set (S:=IsI h.length) _ rfl) fun k e=>.inr (by have e:k=h.length:=e;omega)
     have kz:∀ b,(h1.set h.length b)[h.length]?=some b:=fun b=>Be (Bs.1 k0).1
     cases er:readP (ts.take (cutN ts p)) p with
     |bad q=>
      rw[er]at hh hR;have hh:Out.ret r=Out.ret (.v (.int .i64 (q:Int))):=hh;cases hh;have d4:decide ((0:Int)≤(q:Int))=true:=decide_eq_true (by omega);rw[hR];simp only[tyZ,k0,kz,ty41,evE,Nat.reduceLT,Nat.reduceLeDiff,Nat.reduceEqDiff,reduceCtorEq];exact⟨FZ _,_,rfl,Rd.none⟩
     |ok t q=>
      rw[er]at hh hR;obtain⟨eo,N',r1,n1⟩:=hh;cases eo;have hr1:h1[h.length+1]?=_:=r1.1;have d4:decide ((0:Int) ≤ -1)=false:=by decide
      have hadv:=pr_adv _ _ _ _ _ _ (by rw[hcut2];unfold cutN;omega) er;obtain⟨⟨g1,g2⟩,g3⟩:=hadv;have hwf:=pr_wf _ _ _ _ _ _ (fun n a e=>by cases e) er;have hsz:t.size≤2000001:=(by rw[hcut2]at *;omega);have hN:=r1.2;rw[Bi,BD]at hN;have hlen:=lay_length t 0;have hps:=size_pos t;obtain⟨j,ver,rfl,hj⟩:=hN.own (by omega);simp only[hr1,evE,tyX,Nat.reduceLT,Nat.reduceEqDiff,reduceCtorEq,Int.reduceLE];refine CallE.pure (CallK.lend c61 _ (lend1 hj BB (nds_v _)) (limits_ev t hwf (by omega)) rfl ?_)
      by_cases hk:limK t.size t.deep=0
      ·have d5:(limK t.size t.deep != 0)=false:=by simpa using hk
       have hj0:j≠h.length:=fun e=>by subst e;rw[k0]at hj;cases hj
       have kx:∀ b,(h1.set h.length b)[h.length+1]?=some _:=fun b=>(Bn (by omega)).trans hr1
       have hjn:h.length≤j:=(n1 j rfl).elim (fun e=>e.elim) fun e=>by simp only[Bp,BC,BD]at e;omega
       rw[hR];simp only[if_pos hk];simp only[d5,evE,Nat.reduceLT,Nat.reduceEqDiff,reduceCtorEq];refine DrawK.orders [[0,1,2,3,4,5,6,7,8,9,10,11],[0,1,2,3,4,9,5,6,7,8,10,11],[0,1,2,3,4,5,9,6,7,8,10,11],[0,1,2,3,4,5,6,9,7,8,10,11],[0,1,2,3,4,5,6,7,9,8,10,11]] (by kernel_rfl) (by kernel_rfl) (by kernel_rfl) (fun p hp=>?_);simp only[BI,List.not_mem_nil,or_false]at hp
       rcases hp with rfl|rfl|rfl|rfl|rfl
       all_goals simp only[seqT,BU,Bu,Bz,tyZ,hr1,kx,k0,kz,ty41,evE,tyX,Nat.reduceLT,Nat.reduceLeDiff,Nat.reduceEqDiff,reduceCtorEq]
       all_goals exact⟨FZ _,_,rfl,Rd.nodesN (ns:=lay t 0) ((Bn (Ne.symm hj0)).trans hj) (by omega) (fun e=>by have e:j<h.length:=e;omega)⟩
      ·have d5:(limK t.size t.deep != 0)=true:=by simpa using hk
       rw[hR];simp only[if_neg hk];simp only[tyZ,d5,k0,kz,ty41,evE,Nat.reduceLT,Nat.reduceLeDiff,Nat.reduceEqDiff,reduceCtorEq];exact⟨FZ _,_,rfl,Rd.none⟩
    ·have e0:idxR (ts.drop p) = -1:=by unfold idxR;rw[if_neg hb]
     have dm:decide ((0:Int) ≤ -1)=false:=by decide
     have hcut:cutN ts p=ts.length:=by have:=stN_le (ts.drop p);unfold cutN;omega
     simp only[e0,evE,Nat.reduceLT,Nat.reduceEqDiff,reduceCtorEq,Int.reduceLE];have hcut2:(ts.take (cutN ts p)).length=ts.length:=by rw[Bh];omega
     refine CallE.intro c60 _ (read_ev (ts:=ts.take (cutN ts p)) (.inr ⟨b,m,cs,by rw[hcut2],LAt_take hcs _⟩) (by omega) (h:=h++[⟨0,41,[.v (.slice none 0 0)]⟩,⟨0,104,[.sl b ts.length m cs,.v (.int .i64 (p:Int)),.v (.slice none 0 0)]⟩]) (i:=h.length+1) (p:=p) (N:=.v (.slice none 0 0)) (ns:=[]) (by rw[hcut2];omega) ⟨at_len1 _ _ _ _,.inl ⟨rfl,rfl⟩⟩ (by rw[hcut2,BD];omega)) (fun r h1 hh=>?_) (fun v h' hh=>?_)
     rotate_left
     ·obtain⟨_,hh⟩:=hh;cases er:readP (ts.take (cutN ts p)) p with
      |bad q=>rw[er]at hh;cases hh
      |ok t q=>rw[er]at hh;cases hh.1
     obtain⟨f1,hh⟩:=hh;have k0:h1[h.length]?=some ⟨0,41,[.v (.slice none 0 0)]⟩:=f1.at (at_len _ _ _) fun h=>h.elim (fun e=>by omega) fun e=>e
     have F1:Fr NoB h h1:=(Fr.app (S:=NoB) h _).trans f1 fun k e=>.inr (e.elim (fun e=>by omega) fun e=>e.elim)
     have FZ:∀ b,Fr NoB h (h1.set h.length b):=fun b=>F1.trans (Fr.set (S:=IsI h.length) _ rfl) fun k e=>.inr (by have e:k=h.length:=e;omega)
     have kz:∀ b,(h1.set h.length b)[h.length]?=some b:=fun b=>Be (Bs.1 k0).1
     cases er:readP (ts.take (cutN ts p)) p with
     |bad q=>
      rw[er]at hh hR;have hh:Out.ret r=Out.ret (.v (.int .i64 (q:Int))):=hh;cases hh;have d4:decide ((0:Int)≤(q:Int))=true:=decide_eq_true (by omega);rw[hR];simp only[tyZ,k0,kz,ty41,evE,Nat.reduceLT,Nat.reduceLeDiff,Nat.reduceEqDiff,reduceCtorEq];exact⟨FZ _,_,rfl,Rd.none⟩
     |ok t q=>
      rw[er]at hh hR;obtain⟨eo,N',r1,n1⟩:=hh;cases eo;have hr1:h1[h.length+1]?=_:=r1.1;have d4:decide ((0:Int) ≤ -1)=false:=by decide
      have hadv:=pr_adv _ _ _ _ _ _ (by rw[hcut2];omega) er;obtain⟨⟨g1,g2⟩,g3⟩:=hadv;have hwf:=pr_wf _ _ _ _ _ _ (fun n a e=>by cases e) er;have hsz:t.size≤2000001:=(by rw[hcut2]at *;omega);have hN:=r1.2;rw[Bi,BD]at hN;have hlen:=lay_length t 0;have hps:=size_pos t;obtain⟨j,ver,rfl,hj⟩:=hN.own (by omega);simp only[hr1,evE,tyX,Nat.reduceLT,Nat.reduceEqDiff,reduceCtorEq,Int.reduceLE];refine CallE.pure (CallK.lend c61 _ (lend1 hj BB (nds_v _)) (limits_ev t hwf (by omega)) rfl ?_)
      by_cases hk:limK t.size t.deep=0
      ·have d5:(limK t.size t.deep != 0)=false:=by simpa using hk
       have hj0:j≠h.length:=fun e=>by subst e;rw[k0]at hj;cases hj
       have kx:∀ b,(h1.set h.length b)[h.length+1]?=some _:=fun b=>(Bn (by omega)).trans hr1
       have hjn:h.length≤j:=(n1 j rfl).elim (fun e=>e.elim) fun e=>by simp only[Bp,BC,BD]at e;omega
       rw[hR];simp only[if_pos hk];simp only[d5,evE,Nat.reduceLT,Nat.reduceEqDiff,reduceCtorEq];refine DrawK.orders [[0,1,2,3,4,5,6,7,8,9,10,11],[0,1,2,3,4,9,5,6,7,8,10,11],[0,1,2,3,4,5,9,6,7,8,10,11],[0,1,2,3,4,5,6,9,7,8,10,11],[0,1,2,3,4,5,6,7,9,8,10,11]] (by kernel_rfl) (by kernel_rfl) (by kernel_rfl) (fun p hp=>?_);simp only[BI,List.not_mem_nil,or_false]at hp
       rcases hp with rfl|rfl|rfl|rfl|rfl
       all_goals simp only[seqT,BU,Bu,Bz,tyZ,hr1,kx,k0,kz,ty41,evE,tyX,Nat.reduceLT,Nat.reduceLeDiff,Nat.reduceEqDiff,reduceCtorEq]
       all_goals exact⟨FZ _,_,rfl,Rd.nodesN (ns:=lay t 0) ((Bn (Ne.symm hj0)).trans hj) (by omega) (fun e=>by have e:j<h.length:=e;omega)⟩
      ·have d5:(limK t.size t.deep != 0)=true:=by simpa using hk
       rw[hR];simp only[if_neg hk];simp only[tyZ,d5,k0,kz,ty41,evE,Nat.reduceLT,Nat.reduceLeDiff,Nat.reduceEqDiff,reduceCtorEq];exact⟨FZ _,_,rfl,Rd.none⟩
end Go.Proofs.YtlobiioioicmhaaGreatDoor.O
namespace Go.Proofs.YtlobiioioicmhaaGreatDoor
open _root_.Bool renaming not_true→Bv,not_false→Bf
open _root_.List renaming getElem?_eq_some_iff→Bs,getElem?_append_left→Ba,getElem?_set_self→Be,getElem?_set_ne→Bn,length_set→Bl,length_append→Bp,append_assoc→Bo,cons_append→Bc,nil_append→Bi,getElem?_cons_zero→Bz,getElem?_cons_succ→Bu,set_cons_zero→Bx,set_cons_succ→Bw,set_append_left→Bg,take_of_length_le→Bt,length_drop→Bd,length_take→Bh,mem_singleton→Bj,prefix_rfl→BB,length_cons→BC,length_nil→BD,flatMap_cons→BE,mem_cons→BI,getElem?_toArray→BU
open _root_.Nat renaming le_trans→BM,zero_le→BN,lt_of_lt_of_le→BO
open Go.Proofs.Tryz renaming prog→Tp
open Go Go.Ev
set_option maxRecDepth 20000
variable {γ:List (Nat×AV)} {ts:List Tk} {L:AV}
def ResS(S:Nat→Prop){α:Type}(ts:List Tk)(n:Nat)(L:AV)(i:Nat)(h:List ABlk)(A:α→AV→List ABlk→Prop)(r:DR α)(o:Out)(h':List ABlk):Prop:=
 Fr S h h'∧match r with
 |.ok x q=>∃ a,o=.ret a∧RD h' i L q n∧A x a h'
 |.bad q e=>o=.pan (stopA (plO ts n q) e)
theorem ResS.elim{S:Nat→Prop}{α:Type}{n i:Nat}{h:List ABlk}{A:α→AV→List ABlk→Prop}{r:DR α}{K:AV→List ABlk→Prop}{E:AV→List ABlk→Prop}
  (hok:∀ x q a h1,r=.ok x q→Fr S h h1→RD h1 i L q n→A x a h1→K a h1)
  (hbad:∀ q e h1,r=.bad q e→Fr S h h1→E (stopA (plO ts n q) e) h1):(∀ a h1,ResS S ts n L i h A r (.ret a) h1→K a h1)∧(∀ v h1,ResS S ts n L i h A r (.pan v) h1→E v h1):=by
 constructor
 ·intro a h1 hh;cases r with
  |ok x q=>
   obtain⟨f,a',e,r1,hA⟩:=hh;cases e;exact hok x q _ h1 rfl f r1 hA
  |bad q e=>obtain⟨_,e⟩:=hh;cases e
 ·intro v h1 hh;cases r with
  |ok x q=>obtain⟨_,a',e,_⟩:=hh;cases e
  |bad q e=>
   obtain⟨f,e⟩:=hh;cases e;exact hbad q _ h1 rfl f
theorem callS{α:Type}{E:AV→St→Prop}{g:FuncId}{xs:List AV}{d:Option Tmp}{K:St→Prop}{s:St}{n i:Nat}{S:Nat→Prop}{A:α→AV→List ABlk→Prop}{r:DR α}(c:bodyT Tp g)
  (he:EvM Tp s.s.g g xs s.h (ResS S ts n L i s.h A r)) (hok:∀ x q a h1,r=.ok x q→Fr S s.h h1→RD h1 i L q n→A x a h1→K (pt ⟨s.s,h1⟩ d a))
  (hbad:∀ q e h1,r=.bad q e→Fr S s.h h1→E (stopA (plO ts n q) e) ⟨s.s,h1⟩):CallM Tp E g xs d K s:=by
 obtain⟨k1,k2⟩:=ResS.elim (ts:=ts) (L:=L) (K:=fun a h1=>K (pt ⟨s.s,h1⟩ d a)) (E:=fun v h1=>E v ⟨s.s,h1⟩) hok hbad;exact CallM.intro c _ he k1 k2
theorem callSE{α:Type}{E:AV→St→Prop}{g:FuncId}{xs:List AV}{d:Option Tmp}{K:St→Prop}{s:St}{n i:Nat}{S:Nat→Prop}{A:α→AV→List ABlk→Prop}{r:DR α}(c:bodyT Tp g)
  (he:EvM Tp s.s.g g xs s.h (ResS S ts n L i s.h A r)) (hok:∀ x q a h1,r=.ok x q→Fr S s.h h1→RD h1 i L q n→A x a h1→K (pt ⟨s.s,h1⟩ d a))
  (hbad:∀ q e h1,r=.bad q e→Fr S s.h h1→E (stopA (plO ts n q) e) ⟨s.s,h1⟩):CallE Tp E g xs d K s:=.inr (callS c he hok hbad)
def IN(i b n0:Nat)(k:Nat):Prop:=k=i∨k=b∨n0≤k
theorem IN.i{i b n0:Nat}{h h':List ABlk}(f:Fr (IsI i) h h'):Fr (IN i b n0) h h':=f.mono fun k e=>.inl e
theorem c200:bodyT Tp 200:=⟨_,Tryz.func200,by kernel_rfl,by kernel_rfl⟩
def lsS(γ:List (Nat×AV))(i:Nat)(C:AV)(y:Nat×List ABlk):St:=⟨⟨17,[(0,.ptr i 0 0),(1,C)],γ⟩,y.2⟩
def LsA{α:Type}(Φ:List ABlk→List α→Prop)(x:List α)(a:AV)(h:List ABlk):Prop:=a=.tup []∧Φ h x
theorem dlisted_ev{α:Type}(E:EnvD γ L ts){I:Nat→DR α}(hI:∀ p,p≤ts.length→(I p).adv ts p 1){i b n n0:Nat}{Φ:List ABlk→List α→Prop}{g:FuncId}{fs cs:List AV}(c:bodyT Tp g)
  (hΦ:∀ h h1 xs,Φ h xs→Fr (IsI i) h h1→Φ h1 xs)
  (hg:∀ h p xs,p≤ts.length→xs.length≤p→RD h i L p n→Φ h xs→EvM Tp γ g (fs++cs) h (ResS (IN i b n0) ts n L i h (fun x a h'=>a=.tup []∧Φ h' (xs++[x])) (I p)))
  {h:List ABlk} {p:Nat} (hp:p≤ts.length) (hr:RD h i L p n) (h0:Φ h []) :
  EvM Tp γ 200 [.ptr i 0 0,.clo g fs cs] h (ResS (IN i b n0) ts n L i h (LsA Φ) (listD ts I p)):=by
 refine EvM.of Tryz.func200 rfl ?_;simp only[Tryz.f200,evE,Nat.reduceAdd,Nat.reduceSub,Nat.reduceLT,Nat.reduceEqDiff,reduceCtorEq];refine callD c128 (dwant_ev E hp hr [40]) (fun x p1 a h1 e f1 r1 hA=>?_) (fun q e' h1 e f1=>?_)
 rotate_left
 ·have ed:listD ts I p=.bad q e':=by unfold listD;rw[e];rfl
  rw[ed];exact⟨IN.i f1,rfl⟩
 have adv1:=want_adv hp [40];rw[e]at adv1;obtain⟨a1,a2⟩:=adv1;have ed:listD ts I p=if isB ts p1 [41]=true then .ok [] (p1+1)else (I p1).bind fun x q=>moreD ts I (ts.length+1) [x] q:=by unfold listD;rw[e];rfl
 rw[ed];subst hA;simp only[evE,Nat.reduceLT,Nat.reduceEqDiff,reduceCtorEq];refine CallE.intro c131 _ (dtake_ev E a2 r1 [41]) (fun r h2 hh=>?_) (fun v h2 hh=>by cases hh.1);obtain⟨e2,f2,r2⟩:=hh;cases e2;have f02:Fr (IsI i) h h2:=f1.trans f2 fun k e=>.inl e
 cases hB:isB ts p1 [41]with
 |true=>
  rw[hB]at r2;rw[if_pos rfl];simp only[evE,Nat.reduceLT,Nat.reduceEqDiff,reduceCtorEq];exact⟨IN.i f02,_,rfl,r2,rfl,hΦ _ _ _ h0 f02⟩
 |false=>
  rw[hB]at r2;rw[if_neg (by decide)];simp only[evE,Nat.reduceLT,Nat.reduceEqDiff,reduceCtorEq];have r2':RD h2 i L p1 n:=by rw[if_neg (by decide)]at r2;exact r2
  refine callS c (hg h2 p1 [] a2 (BN _) r2' (hΦ _ _ _ h0 f02)) (fun x q a h3 e3 f3 r3 hA=>?_) (fun q e' h3 e3 f3=>?_)
  rotate_left
  ·rw[e3];exact⟨(IN.i (b:=b) (n0:=n0) f02).trans f3 fun k e=>.inl e,rfl⟩
  obtain⟨rfl,hΦ3⟩:=hA;have adv3:=hI p1 a2;rw[e3]at adv3⊢;obtain⟨b1,b2⟩:=adv3;have eD:(DR.ok x q).bind (fun x q=>moreD ts I (ts.length+1) [x] q)=moreD ts I (ts.length+1) [x] q:=rfl;rw[eD];generalize hR:moreD ts I (ts.length+1) [x] q=R;simp only[evE,Nat.reduceLT]
  refine LoopE.intro (lsS γ i (.clo g fs cs)) (fun y=>∃ xs f,y.1≤ts.length∧xs.length≤y.1∧RD y.2 i L y.1 n∧Φ y.2 xs∧Fr (IN i b n0) h y.2∧moreD ts I f xs y.1=R∧ts.length<f+y.1) (fun y=>ts.length+1-y.1) (q,h3) ⟨rfl,rfl,⟨rfl,rfl,trivial⟩,rfl⟩
   ⟨[x],ts.length+1,b2,by show 1≤q;omega,r3,hΦ3,(IN.i (b:=b) (n0:=n0) f02).trans f3 fun k e=>.inl e,hR,by show ts.length<ts.length+1+q;omega⟩ (fun y hy=>?_)
  clear hR r3 hΦ3 f3 e3 b1 b2 r2 r2' f02 f2 f1 r1 hB;obtain⟨p,h4⟩:=y;obtain⟨xs,f,hp4,hx4,r4,hΦ4,f4,hR,hf⟩:=hy;simp only at hp4 hx4 r4 hΦ4 f4 hR hf;obtain⟨f,rfl⟩:∃ g,f=g+1:=⟨f-1,by omega⟩;rw[moreD]at hR;simp only[lsS,evE,Nat.reduceLT,Nat.reduceEqDiff,reduceCtorEq];refine CallE.intro c131 _ (dtake_ev E hp4 r4 [41]) (fun r h5 hh=>?_) (fun v h5 hh=>by cases hh.1);obtain⟨e5,f5,r5⟩:=hh;cases e5;have f45:=f4.trans (IN.i (b:=b) (n0:=n0) f5) fun k e=>.inl e
  cases hB:isB ts p [41]with
  |true=>
   rw[hB]at r5 hR;rw[if_pos rfl]at hR;rw[←hR];simp only[evE,Bv,Nat.reduceLT,Nat.reduceEqDiff,reduceCtorEq];exact⟨f45,_,rfl,r5,rfl,hΦ _ _ _ hΦ4 f5⟩
  |false=>
   have r5':RD h5 i L p n:=by rw[hB,if_neg (by decide)]at r5;exact r5
   rw[hB,if_neg (by decide)]at hR;simp only[evE,Bf,Nat.reduceLT,Nat.reduceEqDiff,reduceCtorEq];refine callD c128 (dwant_ev E hp4 r5' [44]) (fun x p6 a h6 e6 f6 r6 hA=>?_) (fun q e' h6 e6 f6=>?_)
   rotate_left
   ·unfold wantD at e6
    split at e6
    ·cases e6
    ·rename_i hB2;cases e6;rw[if_neg hB2]at hR;rw[←hR];exact⟨f45.trans (IN.i f6) fun k e=>.inl e,rfl⟩
   unfold wantD at e6
   split at e6
   rotate_left
   ·cases e6
   rename_i hB2;cases e6;subst hA;rw[if_pos hB2]at hR;have hlt:=isB_lt hB2;have f06:=f45.trans (IN.i (b:=b) (n0:=n0) f6) fun k e=>.inl e
   simp only[evE,Nat.reduceLT,Nat.reduceEqDiff,reduceCtorEq];refine callS c (hg h6 (p+1) xs hlt (by omega) r6 (hΦ _ _ _ (hΦ _ _ _ hΦ4 f5) f6)) (fun x q a h7 e7 f7 r7 hA=>?_) (fun q e' h7 e7 f7=>?_)
   rotate_left
   ·rw[e7]at hR;rw[←hR];exact⟨f06.trans f7 fun k e=>.inl e,rfl⟩
   obtain⟨rfl,hΦ7⟩:=hA;have adv7:=hI (p+1) hlt;rw[e7]at hR adv7;obtain⟨b1,b2⟩:=adv7;simp only[evE,Nat.reduceLT];exact loopCE.intro (q,h7) ⟨xs++[x],f,b2,by rw[Bp];show xs.length+1≤q;omega,r7,hΦ7,f06.trans f7 fun k e=>.inl e,hR,by show ts.length<f+q;omega⟩ ⟨rfl,rfl,⟨rfl,rfl,trivial⟩,rfl⟩ (by show ts.length+1-q<ts.length+1-p;omega)
theorem ResD.ret{α:Type}{n i:Nat}{h h1:List ABlk}{A:α→AV→List ABlk→Prop}{R:DR α}{a:AV}(hh:ResD ts n L i h A R (.ret a) h1):∃ x q,R=.ok x q∧Fr (IsI i) h h1∧RD h1 i L q n∧A x a h1:=by
 cases R with
 |ok x q=>
  obtain⟨f,a',e,r1,hA⟩:=hh;cases e;exact⟨x,q,rfl,f,r1,hA⟩
 |bad q e=>obtain⟨_,e⟩:=hh;cases e
theorem ResD.pan{α:Type}{n i:Nat}{h h1:List ABlk}{A:α→AV→List ABlk→Prop}{R:DR α}{v:AV}(hh:ResD ts n L i h A R (.pan v) h1):∃ q e,R=.bad q e∧Fr (IsI i) h h1∧v=stopA (plO ts n q) e:=by
 cases R with
 |ok x q=>obtain⟨_,a',e,_⟩:=hh;cases e
 |bad q e=>
  obtain⟨f,e'⟩:=hh;cases e';exact⟨q,e,rfl,f,rfl⟩
theorem rR_bs{P:Program}{E:AV→St→Prop}{K:St→Prop}{s:St}{d:Option Tmp}{t:TypeId}{pos:String}{af:Array Edge}{g:Option (Nat×Bool)}{ρ:Rho}(u n:Nat)(ps:Array (Nat×Operand)):kopR P E ρ ⟨d,.buildSlice u n ps,t,pos,af,g⟩ K s=kop P ⟨d,.buildSlice u n ps,t,pos,af,g⟩ K s:=rfl
theorem c249:bodyT Tp 249:=⟨_,Tryz.func249,by kernel_rfl,by kernel_rfl⟩
def encX(x:List Nd):List AV:=[nodesA x]
end Go.Proofs.YtlobiioioicmhaaGreatDoor
namespace Go.Proofs.YtlobiioioicmhaaGreatDoor.O
open _root_.Bool renaming not_true→Bv,not_false→Bf
open _root_.List renaming getElem?_eq_some_iff→Bs,getElem?_append_left→Ba,getElem?_set_self→Be,getElem?_set_ne→Bn,length_set→Bl,length_append→Bp,append_assoc→Bo,cons_append→Bc,nil_append→Bi,getElem?_cons_zero→Bz,getElem?_cons_succ→Bu,set_cons_zero→Bx,set_cons_succ→Bw,set_append_left→Bg,take_of_length_le→Bt,length_drop→Bd,length_take→Bh,mem_singleton→Bj,prefix_rfl→BB,length_cons→BC,length_nil→BD,flatMap_cons→BE,mem_cons→BI,getElem?_toArray→BU
open _root_.Nat renaming le_trans→BM,zero_le→BN,lt_of_lt_of_le→BO
open Go.Proofs.Tryz renaming prog→Tp
open Go Go.Ev
set_option maxRecDepth 20000
variable {γ:List (Nat×AV)} {ts:List Tk} {L:AV}
theorem rd_agg{ks:List Ki}{S:Nat→Prop}{h:List ABlk}{ys:List AV}{a:AV}(r:Rd (.g ks) S h (.agg ys) a):∃ xs,a=.agg xs∧RdL ks S h ys xs:=by
 obtain⟨F,hn,hs,o⟩:=r;simp only[ow]at o;obtain⟨ks',xs,e,rfl,o⟩:=o;cases e;exact⟨xs,rfl,F,hn,hs,o⟩
theorem rdL_cons{k:Ki}{ks:List Ki}{S:Nat→Prop}{h:List ABlk}{y:AV}{ys xs:List AV}(r:RdL (k::ks) S h (y::ys) xs):∃ x xs',xs=x::xs'∧Rd k S h y x∧RdL ks S h ys xs':=by
 obtain⟨F,hn,hs,o⟩:=r;simp only[owL]at o;obtain⟨k',ks',x,xs',F1,F2,e,rfl,rfl,o1,o2⟩:=o;cases e;have hn':=List.nodup_append.1 hn;exact⟨x,xs',rfl,⟨F1,hn'.1,fun j hj=>hs j (List.mem_append_left _ hj),o1⟩,⟨F2,hn'.2.1,fun j hj=>hs j (List.mem_append_right _ hj),o2⟩⟩
theorem rdL_nil{ks:List Ki}{S:Nat→Prop}{h:List ABlk}{xs:List AV}(r:RdL ks S h [] xs):xs=[]:=by
 obtain⟨F,hn,hs,o⟩:=r;simp only[owL]at o;exact o.2.1
theorem rd_val{k:Ki}{S:Nat→Prop}{h:List ABlk}{v:Value}{x:AV}(r:Rd k S h (.v v) x):x=.v v:=by
 obtain⟨F,hn,hs,o⟩:=r;simp only[ow]at o;exact o.2.1
theorem rd_nodes{k:Ki}{S:Nat→Prop}{h:List ABlk}{g:List Nd}{x:AV}(r:Rd k S h (nodesA g) x):oneA x=true∧flat x=some [x]:=by
 cases g with
 |nil=>exact rd_one (n:=0) (cs:=[]) r
 |cons y g=>exact rd_one (n:=(y::g).length) (cs:=ndCells (y::g)) r
variable {S S1 S2:Nat→Prop} {h:List ABlk}
theorem RdL.str1(s:List UInt8):RdL (kT 9) S h [strC s] [strC s]:=by
 show RdL [.v] S h [.v _] [.v _]
 exact RdL.cv RdL.nil
theorem RdL.int1(k:Int):RdL (kT 3) S h [intC k] [intC k]:=by
 show RdL [.v] S h [.v _] [.v _]
 exact RdL.cv RdL.nil
theorem RdL.pt{x:Pt}{V:AV}(a:Rd (.s 9) S h (strsA x.vars) V):RdL (kT 130) S h x.cells [strC x.tag,V]:=by
 show RdL [.v,.s 9] S h [.v _,_] [.v _,_]
 exact RdL.cv (RdL.c1 a)
theorem RdL.tg{x:Tg}{V:AV}(a:Rd (.s 3) S h (intsA x.types) V):RdL (kT 137) S h x.cells [strC x.name,V]:=by
 show RdL [.v,.s 3] S h [.v _,_] [.v _,_]
 exact RdL.cv (RdL.c1 a)
theorem RdL.kd{x:Kd}{V:AV}(a:Rd (.s 59) S h (chordsA x.chords) V):RdL (kT 90) S h x.cells [strC x.name,V]:=by
 show RdL [.v,.s 59] S h [.v _,_] [.v _,_]
 exact RdL.cv (RdL.c1 a)
theorem RdL.ac{x:Ac}{T A:AV}(a:Rd (.s 115) S1 h (nodesA x.to) T)(b:Rd (.s 41) S2 h (expsA x.args) A)(d:∀ j,j<h.length→S1 j∨S2 j)(e1:∀ j,S j→j<h.length→S1 j)(e2:∀ j,S j→j<h.length→S2 j):
  RdL (kT 135) S h x.cells [intC x.kind,T,strC x.name,strC x.var,A]:=by
 show RdL [.v,.s 115,.v,.v,.s 41] S h [.v _,_,.v _,.v _,_] [.v _,_,.v _,.v _,_]
 exact RdL.cv (RdL.c2 a (RdL.cv (RdL.cv (RdL.c1 b))) d e1 e2)
theorem RdL.ch{x:Ch}{N G A:AV}{m1 m2 m3:Nat}(a:Rd (.s 130) (fun k=>k<m1∨m2≤k) h (partsA x.parts) N)(b:Rd (.s 115) (fun k=>k<m2∨m3≤k) h (nodesA x.guard) G)(c:Rd (.s 135) (Old m3) h (actsA x.body) A)(h1:m1≤m2)(h2:m2≤m3):
  RdL (kT 59) (Old m1) h x.cells [strC x.name,N,G,A]:=by
 show RdL [.v,.s 130,.s 115,.s 135] (Old m1) h [.v _,_,_,_] [.v _,_,_,_]
 refine RdL.cv (RdL.c2 (S2:=Old m2) a (RdL.c2 b (RdL.c1 c) (fun j _=>?_) (fun j e _=>.inl e) fun j e _=>?_) (fun j _=>?_) (fun j e _=>.inl e) fun j e _=>?_)
 ·by_cases e:j<m3
  ·exact .inr e
  ·exact .inl (.inr (by omega))
 ·have e:j<m2:=e;show j<m3
  omega
 ·by_cases e:j<m2
  ·exact .inr e
  ·exact .inl (.inr (by omega))
 ·have e:j<m1:=e;show j<m2
  omega
def ExpA(m:Nat)(x:List Nd)(a:AV)(h:List ABlk):Prop:=∃ N,a=.agg [N]∧Rd (.s 115) (Old m) h (nodesA x) N
theorem drawVia{P:Program}{E:AV→St→Prop}{ops:Array Oper}{Q:Post}{s:St}(F:St→Prop)(h:∀ K:Post,(∀ s',F s'→K .normal s')→DrawE P E ops K s)(h2:∀ s',F s'→Q .normal s'):DrawE P E ops Q s:=h Q h2
def exS(γ:List (Nat×AV))(i b c:Nat)(q e:Int)(h:List ABlk):St:=⟨⟨32,[(0,.ptr i 0 0),(2,.ptr b 0 0),(3,.ptr c 0 0),(4,.v (.int .i64 q)),(5,.v (.int .i64 e))],γ⟩,h⟩
theorem dexpr_ev(E:EnvD γ L ts){h:List ABlk}{i p n:Nat}(hp:p≤ts.length)(hr:RD h i L p n):
  EvM Tp γ 132 [.ptr i 0 0] h (ResD ts n L i h (ExpA h.length) (exprD ts p)):=by
 have hi:h[i]?=_:=hr;obtain⟨a1,a2,a3⟩:=readR_adv hp;have hn:=E.n;have hil:=hr.lt;have g1:∀ l,(h++l)[i]?=_:=fun l=>hr.app l
 refine EvM.ofG Tryz.func132 rfl ?_;simp only[Tryz.f132,tyD,evG,Nat.reduceAdd,Nat.reduceSub,Nat.reduceLT];refine drawVia (fun s'=>∃ c X hq,slotW s' (exS γ i h.length c (readR ts (p:Int)).2.1 (readR ts (p:Int)).2.2 hq)∧h.length<c∧hq[c]?=some ⟨0,41,[X]⟩∧hq[h.length]?=some ⟨0,41,[.v (.slice none 0 0)]⟩∧Fr NoB h hq∧Rd (.s 115) (Old (h.length+1)) hq (nodesA (readR ts (p:Int)).1) X) (fun K hK=>?_) (fun s' hs'=>?_)
 ·refine DrawE.orders [[0,1,2,3,4,5,6,7,8,9,10,11,12,13,14,15,16],[0,1,2,3,4,5,6,7,13,8,9,10,11,12,14,15,16]] (fun _ _ _ h o h'=>ReadM h (readR ts (p:Int)) o h') (panE_ext _) (by kernel_rfl) (by kernel_rfl) (by kernel_rfl) (fun w hw=>?_);simp only[BI,List.not_mem_nil,or_false]at hw
  rcases hw with rfl|rfl
  all_goals simp only[evR,seqT,BU,Bu,Bz,tyD,g1,Bo,Bc,Bi,evG,tyX,Nat.reduceLT,Nat.reduceEqDiff,reduceCtorEq]
  all_goals refine⟨c26,read26M E.gl E.glw E.l E.ok E.n (p:Int) _,fun r h1 hh=>?_,fun v h1 hh=>by obtain⟨_,N,e,_⟩:=hh;cases e⟩
  all_goals obtain⟨f1,X,e,rX⟩:=hh
  all_goals cases e
  all_goals obtain⟨oX,fX⟩:=rd_nodes rX
  ·have k0:h1[h.length]?=some ⟨0,41,[.v (.slice none 0 0)]⟩:=f1.at (at_len _ _ _) fun e=>e
   have F1:Fr NoB h h1:=(Fr.app (S:=NoB) h _).trans f1 fun k e=>e.elim
   have hf:=f1.1;rw[Bp]at rX;simp only[Bu,Bz,tyD,oX,at_len,set_len,setMany,Bx,evG,Nat.reduceLT,Nat.reduceLeDiff,Nat.reduceEqDiff,reduceCtorEq];refine hK _ ⟨h1.length,X,_,⟨rfl,rfl,⟨rfl,rfl,rfl,rfl,rfl,trivial⟩,rfl⟩,(Bs.1 k0).1,at_len _ _ _,(Ba (Bs.1 k0).1).trans k0,F1.trans (Fr.app (S:=NoB) _ _) fun k e=>e.elim,?_⟩;exact rX.up (Fr.app (S:=NoB) _ _) (fun k e=>e.elim) (fun k e _=>e)
  ·have k0:h1[h.length]?=some ⟨0,41,[.v (.slice none 0 0)]⟩:=f1.at (at_len _ _ _) fun e=>e
   have k1:h1[h.length+1]?=some ⟨0,41,[.v (.slice none 0 0)]⟩:=f1.at (at_len1 _ _ _ _) fun e=>e
   have F1:Fr NoB h h1:=(Fr.app (S:=NoB) h _).trans f1 fun k e=>e.elim
   have hk1:=(Bs.1 k1).1;simp only[Bu,Bz,tyD,oX,k1,setMany,Bx,evG,Nat.reduceLT,Nat.reduceLeDiff,Nat.reduceEqDiff,reduceCtorEq];refine hK _ ⟨h.length+1,X,_,⟨rfl,rfl,⟨rfl,rfl,rfl,rfl,rfl,trivial⟩,rfl⟩,Nat.lt_succ_self _,Be hk1,(Bn (by omega)).trans k0,F1.trans (Fr.set (S:=IsI (h.length+1)) _ rfl) fun k e=>.inr (by have e:k=h.length+1:=e;omega),?_⟩;exact rX.up (Fr.set (S:=IsI (h.length+1)) _ rfl) (fun k e _=>by have e:k=h.length+1:=e;show k<_;rw[Bp];simp only[BC,BD];omega) (fun k e _=>by have e:k<h.length+1:=e;show k<_;rw[Bp];simp only[BC,BD];omega)
 obtain⟨c,X,hq,hw,hc,kc,kb,F1,rX⟩:=hs';unfold exprD;generalize readR ts (p:Int)=R at *;obtain⟨ns,q,e⟩:=R;simp only at a1 a2 a3 hw rX⊢;obtain⟨q,rfl⟩:∃ q':Nat,q=q':=⟨q.toNat,by omega⟩;obtain⟨oX,fX⟩:=rd_nodes rX;obtain⟨⟨n0,l0,g0⟩,h0⟩:=s';obtain⟨v1,v2,⟨w3,w4,w5,w6,w7,_⟩,v8⟩:=hw;obtain rfl:32=n0:=v1;obtain rfl:γ=g0:=v2;obtain rfl:hq=h0:=v8;simp only at w3 w4 w5 w6 w7;have r1:=hr.fr F1 (fun e=>e);have hi1:hq[i]?=_:=r1;have hil1:=r1.lt;have hcl:=(Bs.1 kc).1;have si:∀ b,(hq.set i b)[i]?=some b:=fun b=>Be hil1
 have hb1:=(Bs.1 kb).1
 by_cases he:e=0
 ·have de:(e != 0)=false:=by simp[he]
  rw[if_pos he,Int.toNat_natCast]
  by_cases hic:i=c
  ·subst hic;rw[hi1]at kc;cases kc
  have sc:∀ b,(hq.set i b)[c]?=some ⟨0,41,[X]⟩:=fun b=>(Bn hic).trans kc
  have sb:∀ b,(hq.set i b)[h.length]?=some ⟨0,41,[.v (.slice none 0 0)]⟩:=fun b=>(Bn (by omega)).trans kb
  have sbb:∀ b d,((hq.set i b).set h.length d)[h.length]?=some d:=fun b d=>Be (by rw[Bl];exact hb1)
  simp only[tyD,w3,w4,w5,w6,w7,hi1,sc,sb,sbb,de,oX,setMany,Bx,Bw,evG,tyX,Nat.reduceAdd,Nat.reduceLT,Nat.reduceLeDiff,Nat.reduceEqDiff,reduceCtorEq];have FZ:Fr (fun k=>k=i∨k=h.length) hq ((hq.set i ⟨0,199,[L,.v (.int .i64 (q:Int)),.v (.int .i64 (n:Int))]⟩).set h.length ⟨0,41,[X]⟩):=(Fr.set (S:=fun k=>k=i∨k=h.length) _ (.inl rfl)).trans (Fr.set (S:=fun k=>k=i∨k=h.length) _ (.inr rfl)) fun k e=>.inl e
  exact⟨(F1.mono (S1:=IsI i) fun k e=>e.elim).trans FZ fun k e=>e.imp id fun e=>by omega,_,rfl,(Bn (by omega)).trans (Be hil1),X,rfl,rX.up FZ (fun k e _=>by show k<h.length+1;omega) (fun k e _=>by have e:k<h.length:=e;show k<h.length+1;omega)⟩
 ·have de:(e != 0)=true:=by simp[he]
  rw[if_neg he,Int.toNat_natCast];simp only[w3,w6,w7,de,evG,Nat.reduceLT,Nat.reduceEqDiff,reduceCtorEq];refine CallE.intro c199 _ (dplace_ev E r1 q) (fun r h2 hh=>?_) (fun v h2 hh=>by cases hh.1);obtain⟨e,rfl⟩:=hh;cases e;simp only[tyD,w7,evG,Nat.reduceAdd,Nat.reduceLT,Nat.reduceLeDiff,Nat.reduceEqDiff];exact⟨F1.mono fun k e=>e.elim,rfl⟩
def BoxN(N:AV)(i n0 b rb:Nat)(tb:TypeId)(pre:List AV)(tE:TypeId)(sz:Nat)(k:Nat)(ys:List AV)(h:List ABlk):Prop:=
 i<n0∧b<n0∧rb<n0∧rb≠b∧i≠b∧i≠rb∧n0≤h.length∧h[rb]?=some ⟨0,127,[.ptr i 0 0]⟩∧h[b]?=some ⟨0,tb,pre++[N]⟩∧GL n0 tE sz h N k ys
theorem BoxN.fr{N:AV}{i n0 b rb:Nat}{tb:TypeId}{pre:List AV}{tE:TypeId}{sz k:Nat}{ys:List AV}{h h1:List ABlk}(a:BoxN N i n0 b rb tb pre tE sz k ys h)(f:Fr (IsI i) h h1):BoxN N i n0 b rb tb pre tE sz k ys h1:=by
 obtain⟨a1,a2,a3,a4,a5,a6,a7,a8,a9,a10⟩:=a;exact⟨a1,a2,a3,a4,a5,a6,BM a7 f.1,f.at a8 (fun e=>a6 e.symm),f.at a9 (fun e=>a5 e.symm),a10.fr0 f (fun k e=>by have e:k=i:=e;omega)⟩
theorem BoxN.push{N:AV}{i n0 b rb:Nat}{tb:TypeId}{pre:List AV}{tE:TypeId}{sz k:Nat}{ys es ecs cs:List AV}{h h1 h':List ABlk}{j' ver':Nat}(a:BoxN N i n0 b rb tb pre tE sz k ys h)(f1:Fr (IsI i) h h1)
  (hx:∀ j ver,N=.own j ver k→j'=j∧h1[j]?=some ⟨ver,tE,cs⟩) (hx0:N=.v (.slice none 0 0)→h1.length≤j'∧cs=[])
  (f:Fr (fun k=>k=b∨nbk N k) h1 h') (hj:h'[j']?=some ⟨ver',tE,cs++es⟩) (hb:h'[b]?=some ⟨0,tb,pre++[.own j' ver' (k+1)]⟩) (hl:es.length=sz) (he:RdL (kT tE) (Old h.length) h1 ecs es) :
  BoxN (.own j' ver' (k+1)) i n0 b rb tb pre tE sz (k+1) (ys++ecs) h'∧Fr (IN i b n0) h1 h':=by
 have a':=a.fr f1;obtain⟨a1,a2,a3,a4,a5,a6,a7,a8,a9,a10⟩:=a;have g:=a10.frm0 f1 (fun k e=>by have e:k=i:=e;omega);have hN:∀ k,nbk N k→n0≤k:=fun k hk=>(a10.lt hk).1
 obtain⟨_,_,_,_,_,_,c7,c8,c9,_⟩:=a'
 exact⟨⟨a1,a2,a3,a4,a5,a6,BM c7 f.1,f.at c8 (fun e=>e.elim a4 fun e=>by have:=hN _ e;omega),hb,g.push hx hx0 a7 f1.1 (f.mono fun k e=>e.elim (fun e=>.inl (by omega)) .inr) hj hl he⟩,
  f.mono fun k e=>e.elim (fun e=>.inr (.inl e)) fun e=>.inr (.inr (hN _ e))⟩
def BoxL(i n0 b rb:Nat)(tb:TypeId)(pre:List AV)(tE:TypeId)(sz:Nat){α:Type}(enc:α→List AV)(h:List ABlk)(xs:List α):Prop:=∃ N,BoxN N i n0 b rb tb pre tE sz xs.length (xs.flatMap enc) h
theorem BoxL.fr{i n0 b rb:Nat}{tb:TypeId}{pre:List AV}{tE:TypeId}{sz:Nat}{α:Type}{enc:α→List AV}{h h1:List ABlk}{xs:List α}(a:BoxL i n0 b rb tb pre tE sz enc h xs)(f:Fr (IsI i) h h1):BoxL i n0 b rb tb pre tE sz enc h1 xs:=by
 obtain⟨N,a⟩:=a;exact⟨N,a.fr f⟩
theorem dargs1_ev(E:EnvD γ L ts){i n n0 b rb p:Nat}{h:List ABlk}{xs:List (List Nd)}(hp:p≤ts.length)(hr:RD h i L p n)(hB:BoxL i n0 b rb 133 [] 41 1 encX h xs)(hxs:(xs.length+1) * 24≤140737488355328):
  EvM Tp γ 249 [.ptr b 0 0,.ptr rb 0 0] h (ResS (IN i b n0) ts n L i h (fun x a h'=>a=.tup []∧BoxL i n0 b rb 133 [] 41 1 encX h' (xs++[x])) (exprD ts p)):=by
 obtain⟨N,hB'⟩:=hB;have hB2:=hB';obtain⟨a1,a2,a3,a4,a5,a6,a7,a8,a9,a10⟩:=hB2;refine EvM.ofG Tryz.func249 rfl ?_;simp only[Tryz.f249,evG,Nat.reduceAdd,Nat.reduceSub];refine DrawE.orders [[0,1,2,3,4,5],[1,0,2,3,4,5],[1,2,0,3,4,5],[1,2,3,0,4,5]] (fun _ _ _ h o h'=>ResD ts n L i h (ExpA h.length) (exprD ts p) o h') (panE_ext _) (by kernel_rfl) (by kernel_rfl) (by kernel_rfl) (fun q hq=>?_);simp only[BI,List.not_mem_nil,or_false]at hq
 rcases hq with rfl|rfl|rfl|rfl
 all_goals simp only[evR,rR_bs,seqT,BU,Bu,Bz,tyD,a8,a9,Bi,evG,Nat.reduceLT,Nat.reduceLeDiff,Nat.reduceEqDiff,reduceCtorEq,List.reduceReplicate]
 all_goals refine⟨c132,dexpr_ev E hp hr,fun r h1 hh=>?_,fun v h1 hh=>by obtain⟨q,e,eR,f1,rfl⟩:=ResD.pan hh;rw[eR];exact⟨IN.i f1,rfl⟩⟩
 all_goals obtain⟨x,q,eR,f1,r1,X,rfl,rX⟩:=ResD.ret hh
 all_goals rw[eR]
 all_goals obtain⟨b1,b2,b3,b4,b5,b6,b7,b8,b9,b10⟩:=hB'.fr f1
 all_goals have hbl:=(Bs.1 b9).1
 all_goals have hrl:=r1.lt
 all_goals have one:oneA X=true:=(rd_nodes rX).1
 all_goals have g7:∀ l,(h1++l)[b]?=some ⟨0,133,[N]⟩:=fun l=>(Ba hbl).trans b9
 all_goals have s6:∀ l c,(h1++l).set b c=h1.set b c++l:=fun l c=>Bg _ _ hbl
 all_goals have he:RdL (kT 41) (Old h.length) h1 [nodesA x] [X]:=RdL.c1 rX
 all_goals have hxe:(xs++[x]).length=xs.length+1:=by simp
 all_goals have hxf:(xs++[x]).flatMap encX=xs.flatMap encX++[nodesA x]:=by simp[encX]
 all_goals have hB3:=hB'.fr f1
 all_goals rcases b10 with⟨rfl,e0,e1⟩|⟨j,ver,cs,rfl,hn,hj0,hj,hl,hrd⟩
 all_goals first
  |(have e0':=e0
    simp only[tyD,b9,g7,one,at_len,s6,Bi,Bo,Bc,evG,Nat.reduceLT,Nat.reduceLeDiff,Nat.reduceEqDiff,reduceCtorEq];obtain⟨k1,k2⟩:=hB'.push f1 (h':=h1.set b ⟨0,133,[.own (h1.length+1) 0 1]⟩++[⟨0,41,[X]⟩,⟨0,41,[X]⟩]) (j':=h1.length+1) (ver':=0) (cs:=[]) (es:=[X]) (ecs:=[nodesA x]) (fun j ver e=>by cases e) (fun _=>⟨by omega,rfl⟩) ((Fr.set _ (.inl rfl)).trans (Fr.app (S:=NoB) _ _) fun k e=>e.elim) (at_lenS1 _ _ _ _ _ _) (by rw[e0];exact (Ba (by rw[Bl];exact hbl)).trans (Be hbl)) rfl he;rw[e0]at k1;refine⟨(IN.i f1).trans k2 fun k e=>.inl e,_,rfl,?_,rfl,.own (h1.length+1) 0 1,?_⟩
    ·exact (Ba (by rw[Bl];exact hrl)).trans ((Bn a5.symm).trans r1)
    ·rw[hxe,hxf,e0];exact k1)
  |(have hjl:=(Bs.1 hj).1
    have hjb:j≠b:=by omega
    have hji:j≠i:=by omega
    have q1:∀ l,(h1++l)[j]?=some ⟨ver,41,cs⟩:=fun l=>(Ba hjl).trans hj
    have s8:∀ l c,(h1++l).set j c=h1.set j c++l:=fun l c=>Bg _ _ hjl
    have g9:∀ l c,(h1.set j c++l)[b]?=some ⟨0,133,[.own j ver xs.length]⟩:=fun l c=>(Ba (by rw[Bl];exact hbl)).trans ((Bn hjb).trans b9)
    have s9:∀ l c d,(h1.set j c++l).set b d=(h1.set j c).set b d++l:=fun l c d=>Bg _ _ (by rw[Bl];exact hbl)
    have hl':cs.length=xs.length:=by omega
    have q4:List.take xs.length cs=cs:=Bt (by omega);have q6:xs.length≤cs.length:=by omega
    simp only[tyD,b9,g7,one,at_len,Bi,q1,s8,g9,s9,q4,q6,evG,Nat.reduceLT,Nat.reduceLeDiff,Nat.reduceEqDiff,reduceCtorEq];obtain⟨k1,k2⟩:=hB'.push f1 (h':=(h1.set j ⟨ver+1,41,cs++[X]⟩).set b ⟨0,133,[.own j (ver+1) (xs.length+1)]⟩++[⟨0,41,[X]⟩]) (j':=j) (ver':=ver+1) (cs:=cs) (es:=[X]) (ecs:=[nodesA x]) (fun j2 ver2 e=>by cases e;exact⟨rfl,hj⟩) (fun e=>by cases e) (((Fr.set (S:=fun k=>k=b∨nbk (.own j ver xs.length) k) _ (.inr rfl)).trans (Fr.set (S:=fun k=>k=b∨nbk (.own j ver xs.length) k) _ (.inl rfl)) fun k e=>.inl e).trans (Fr.app (S:=NoB) _ _) fun k e=>e.elim) ((Ba (by rw[Bl,Bl];exact hjl)).trans ((Bn hjb.symm).trans (Be hjl))) ((Ba (by rw[Bl,Bl];exact hbl)).trans (Be (by rw[Bl];exact hbl))) rfl he;refine⟨hxs,(IN.i f1).trans k2 fun k e=>.inl e,_,rfl,?_,rfl,.own j (ver+1) (xs.length+1),?_⟩
    ·exact (Ba (by rw[Bl,Bl];exact hrl)).trans ((Bn a5.symm).trans ((Bn hji).trans r1))
    ·rw[hxe,hxf];exact k1)
end Go.Proofs.YtlobiioioicmhaaGreatDoor.O
namespace Go.Proofs.YtlobiioioicmhaaGreatDoor
open _root_.Bool renaming not_true→Bv,not_false→Bf
open _root_.List renaming getElem?_eq_some_iff→Bs,getElem?_append_left→Ba,getElem?_set_self→Be,getElem?_set_ne→Bn,length_set→Bl,length_append→Bp,append_assoc→Bo,cons_append→Bc,nil_append→Bi,getElem?_cons_zero→Bz,getElem?_cons_succ→Bu,set_cons_zero→Bx,set_cons_succ→Bw,set_append_left→Bg,take_of_length_le→Bt,length_drop→Bd,length_take→Bh,mem_singleton→Bj,prefix_rfl→BB,length_cons→BC,length_nil→BD,flatMap_cons→BE,mem_cons→BI,getElem?_toArray→BU
open _root_.Nat renaming le_trans→BM,zero_le→BN,lt_of_lt_of_le→BO
open Go.Proofs.Tryz renaming prog→Tp
open Go Go.Ev
set_option maxRecDepth 20000
variable {γ:List (Nat×AV)} {ts:List Tk} {L:AV}
theorem c203:bodyT Tp 203:=⟨_,Tryz.func203,by kernel_rfl,by kernel_rfl⟩
theorem expsA_eq(xs:List (List Nd)):slA xs.length (xs.flatMap encX)=expsA xs:=by
 have:xs.flatMap encX=xs.map nodesA:=by
  induction xs with
  |nil=>rfl
  |cons x xs ih=>rw[BE,ih];rfl
 rw[this];rfl
theorem Fr.drop{i n0 b:Nat}{h h':List ABlk}{l:List ABlk}(f:Fr (IN i b n0) (h++l) h')(hb:h.length≤b)(hn:h.length≤n0):Fr (IsI i) h h':=
 (Fr.app (S:=IsI i) h l).trans f fun k e=>by
  rcases e with e|e|e
  ·exact .inl e
  ·exact .inr (by omega)
  ·exact .inr (by omega)
end Go.Proofs.YtlobiioioicmhaaGreatDoor
namespace Go.Proofs.YtlobiioioicmhaaGreatDoor.O
open _root_.Bool renaming not_true→Bv,not_false→Bf
open _root_.List renaming getElem?_eq_some_iff→Bs,getElem?_append_left→Ba,getElem?_set_self→Be,getElem?_set_ne→Bn,length_set→Bl,length_append→Bp,append_assoc→Bo,cons_append→Bc,nil_append→Bi,getElem?_cons_zero→Bz,getElem?_cons_succ→Bu,set_cons_zero→Bx,set_cons_succ→Bw,set_append_left→Bg,take_of_length_le→Bt,length_drop→Bd,length_take→Bh,mem_singleton→Bj,prefix_rfl→BB,length_cons→BC,length_nil→BD,flatMap_cons→BE,mem_cons→BI,getElem?_toArray→BU
open _root_.Nat renaming le_trans→BM,zero_le→BN,lt_of_lt_of_le→BO
open Go.Proofs.Tryz renaming prog→Tp
open Go Go.Ev
set_option maxRecDepth 20000
variable {γ:List (Nat×AV)} {ts:List Tk} {L:AV}
def RdA{α:Type}(k:Ki)(f:α→AV)(m:Nat)(x:α)(a:AV)(h':List ABlk):Prop:=Rd k (Old m) h' (f x) a
theorem dargs_ev(E:EnvD γ L ts){h:List ABlk}{i p n:Nat}(hp:p≤ts.length)(hr:RD h i L p n):
  EvM Tp γ 203 [.ptr i 0 0] h (ResD ts n L i h (RdA (.s 41) expsA h.length) (argsD ts p)):=by
 have hil:=hr.lt;have hn:=E.n;refine EvM.of Tryz.func203 rfl ?_;simp only[Tryz.f203,tyD,at_len,Bo,Bc,Bi,evE,Nat.reduceAdd,Nat.reduceSub,Nat.reduceLT,Nat.reduceEqDiff,reduceCtorEq]
 have hlist:=dlisted_ev (b:=h.length+1) (n0:=h.length+2) E (I:=exprD ts) (fun p hp=>expr_adv hp) (Φ:=BoxL i (h.length+2) (h.length+1) h.length 133 [] 41 1 encX) (fs:=[]) (cs:=[.ptr (h.length+1) 0 0,.ptr h.length 0 0]) c249
  (fun h h1 xs a f=>a.fr f) (fun h p xs hp hx hr hB=>dargs1_ev E hp hr hB (by omega)) hp (hr.app [⟨0,127,[.ptr i 0 0]⟩,⟨0,133,[.v (.slice none 0 0)]⟩]) ⟨.v (.slice none 0 0),by omega,by omega,by omega,by omega,by omega,by omega,by simp,at_len _ _ _,at_len1 _ _ _ _,GL.nil⟩
 unfold argsD;refine callSE c200 hlist (fun xs q a h1 e f1 r1 hA=>?_) (fun q e' h1 e f1=>?_)
 rotate_left
 ·rw[e];exact⟨f1.drop (by omega) (by omega),rfl⟩
 rw[e];obtain⟨rfl,N,b1,b2,b3,b4,b5,b6,b7,b8,b9,b10⟩:=hA;have hbl:=(Bs.1 b9).1;have s5:∀ c,(h1.set (h.length+1) c)[h.length+1]?=some c:=fun c=>Be hbl
 have rd:∀ c,Rd (.s 41) (Old h.length) (h1.set (h.length+1) c) (expsA xs) N:=fun c=>by
  have:=b10.rd.up (S':=Old h.length) (Fr.set (S:=IsI (h.length+1)) c rfl) (fun k e _=>by have e:k=h.length+1:=e;subst e;exact b2) (fun k e _=>by have e:k<h.length:=e;show k<h.length+2;omega)
  rwa [expsA_eq]at this
 have f2:∀ c,Fr (IN i (h.length+1) (h.length+2)) h1 (h1.set (h.length+1) c):=fun c=>Fr.set _ (.inr (.inl rfl))
 have hN:flat N=some [N]:=by rcases b10 with⟨rfl,_⟩|⟨j,ver,cs,rfl,_⟩<;>rfl
 have oN:oneA N=true:=by rcases b10 with⟨rfl,_⟩|⟨j,ver,cs,rfl,_⟩<;>rfl
 simp only[tyD,b9,s5,hN,setMany,Bi,evE,Nat.reduceLT,Nat.reduceLeDiff,Nat.reduceEqDiff,reduceCtorEq];exact⟨(f1.trans (f2 _) fun k e=>.inl e).drop (by omega) (by omega),N,rfl,(Bn b5.symm).trans r1,rd _⟩
end Go.Proofs.YtlobiioioicmhaaGreatDoor.O
namespace Go.Proofs.YtlobiioioicmhaaGreatDoor
open _root_.Bool renaming not_true→Bv,not_false→Bf
open _root_.List renaming getElem?_eq_some_iff→Bs,getElem?_append_left→Ba,getElem?_set_self→Be,getElem?_set_ne→Bn,length_set→Bl,length_append→Bp,append_assoc→Bo,cons_append→Bc,nil_append→Bi,getElem?_cons_zero→Bz,getElem?_cons_succ→Bu,set_cons_zero→Bx,set_cons_succ→Bw,set_append_left→Bg,take_of_length_le→Bt,length_drop→Bd,length_take→Bh,mem_singleton→Bj,prefix_rfl→BB,length_cons→BC,length_nil→BD,flatMap_cons→BE,mem_cons→BI,getElem?_toArray→BU
open _root_.Nat renaming le_trans→BM,zero_le→BN,lt_of_lt_of_le→BO
open Go.Proofs.Tryz renaming prog→Tp
open Go Go.Ev
set_option maxRecDepth 20000
variable {γ:List (Nat×AV)} {ts:List Tk} {L:AV}
theorem c201:bodyT Tp 201:=⟨_,Tryz.func201,by kernel_rfl,by kernel_rfl⟩
theorem c204:bodyT Tp 204:=⟨_,Tryz.func204,by kernel_rfl,by kernel_rfl⟩
def encV(x:List UInt8):List AV:=[strC x]
end Go.Proofs.YtlobiioioicmhaaGreatDoor
namespace Go.Proofs.YtlobiioioicmhaaGreatDoor.O
open _root_.Bool renaming not_true→Bv,not_false→Bf
open _root_.List renaming getElem?_eq_some_iff→Bs,getElem?_append_left→Ba,getElem?_set_self→Be,getElem?_set_ne→Bn,length_set→Bl,length_append→Bp,append_assoc→Bo,cons_append→Bc,nil_append→Bi,getElem?_cons_zero→Bz,getElem?_cons_succ→Bu,set_cons_zero→Bx,set_cons_succ→Bw,set_append_left→Bg,take_of_length_le→Bt,length_drop→Bd,length_take→Bh,mem_singleton→Bj,prefix_rfl→BB,length_cons→BC,length_nil→BD,flatMap_cons→BE,mem_cons→BI,getElem?_toArray→BU
open _root_.Nat renaming le_trans→BM,zero_le→BN,lt_of_lt_of_le→BO
open Go.Proofs.Tryz renaming prog→Tp
open Go Go.Ev
set_option maxRecDepth 20000
variable {γ:List (Nat×AV)} {ts:List Tk} {L:AV}
theorem dpart1_ev(E:EnvD γ L ts){i n n0 b rb p:Nat}{h:List ABlk}{nm:List UInt8}{xs:List (List UInt8)}(hp:p≤ts.length)(hr:RD h i L p n)(hB:BoxL i n0 b rb 130 [strC nm] 9 1 encV h xs)(hxs:(xs.length+1) * 16≤140737488355328):
  EvM Tp γ 201 [.ptr rb 0 0,.ptr b 0 0] h (ResS (IN i b n0) ts n L i h (fun x a h'=>a=.tup []∧BoxL i n0 b rb 130 [strC nm] 9 1 encV h' (xs++[x])) (varD ts p)):=by
 obtain⟨N,hB'⟩:=hB;have hB2:=hB';obtain⟨a1,a2,a3,a4,a5,a6,a7,a8,a9,a10⟩:=hB2;have hTake:=dtake_ev E hp hr [95];refine EvM.ofG Tryz.func201 rfl ?_;simp only[Tryz.f201,tyD,a8,evG,Nat.reduceAdd,Nat.reduceSub,Nat.reduceLT,Nat.reduceEqDiff,reduceCtorEq];refine CallE.intro c131 _ hTake (fun r h0 hh=>?_) (fun v h1 hh=>by cases hh.1);obtain⟨e,f0,r0⟩:=hh;cases e;unfold varD;cases hT:isB ts p [95]with
 |true=>
  obtain⟨h1,e1⟩:∃ h1,h1=h0:=⟨_,rfl⟩;subst e1;have f1:=f0;have r1:=r0;rw[hT]at r1;rw[if_pos rfl]at r1⊢;obtain⟨b1,b2,b3,b4,b5,b6,b7,b8,b9,b10⟩:=hB'.fr f1;obtain⟨x,hx⟩:∃ x:List UInt8,x=[95]:=⟨_,rfl⟩;have hx2:(⟨#[95]⟩:ByteArray)=⟨x.toArray⟩:=by rw[hx]
  rw[←hx]
  all_goals have hbl:=(Bs.1 b9).1
  all_goals have hrl:=r1.lt
  all_goals have g7:∀ l,(h1++l)[b]?=some ⟨0,130,[strC nm,N]⟩:=fun l=>(Ba hbl).trans b9
  all_goals have s6:∀ l c,(h1++l).set b c=h1.set b c++l:=fun l c=>Bg _ _ hbl
  all_goals have he:RdL (kT 9) (Old h.length) h1 [strC x] [strC x]:=RdL.str1 x
  all_goals have hxe:(xs++[x]).length=xs.length+1:=by simp
  all_goals have hxf:(xs++[x]).flatMap encV=xs.flatMap encV++[strC x]:=by simp[encV]
  all_goals have hB3:=hB'.fr f1
  all_goals rcases b10 with⟨rfl,e0,e1⟩|⟨j,ver,cs,rfl,hn,hj0,hj,hl,hrd⟩
  all_goals first
   |(have e0':=e0
     simp only[tyD,b9,g7,at_len,s6,Bi,Bo,Bc,strC,evG,Nat.reduceAdd,Nat.reduceLT,Nat.reduceLeDiff,Nat.reduceEqDiff,reduceCtorEq,List.reduceReplicate];obtain⟨k1,k2⟩:=hB'.push f1 (h':=h1.set b ⟨0,130,[strC nm,.own (h1.length+1) 0 1]⟩++[⟨0,9,[strC x]⟩,⟨0,9,[strC x]⟩]) (j':=h1.length+1) (ver':=0) (cs:=[]) (es:=[strC x]) (ecs:=[strC x]) (fun j ver e=>by cases e) (fun _=>⟨by omega,rfl⟩) ((Fr.set _ (.inl rfl)).trans (Fr.app (S:=NoB) _ _) fun k e=>e.elim) (at_lenS1 _ _ _ _ _ _) (by rw[e0];exact (Ba (by rw[Bl];exact hbl)).trans (Be hbl)) rfl he;rw[e0]at k1;refine⟨(IN.i f1).trans k2 fun k e=>.inl e,_,rfl,?_,rfl,.own (h1.length+1) 0 1,?_⟩
     ·exact (Ba (by rw[Bl];exact hrl)).trans ((Bn a5.symm).trans r1)
     ·rw[hxe,hxf,e0];exact k1)
   |(have hjl:=(Bs.1 hj).1
     have hjb:j≠b:=by omega
     have hji:j≠i:=by omega
     have q1:∀ l,(h1++l)[j]?=some ⟨ver,9,cs⟩:=fun l=>(Ba hjl).trans hj
     have s8:∀ l c,(h1++l).set j c=h1.set j c++l:=fun l c=>Bg _ _ hjl
     have g9:∀ l c,(h1.set j c++l)[b]?=some ⟨0,130,[strC nm,.own j ver xs.length]⟩:=fun l c=>(Ba (by rw[Bl];exact hbl)).trans ((Bn hjb).trans b9)
     have s9:∀ l c d,(h1.set j c++l).set b d=(h1.set j c).set b d++l:=fun l c d=>Bg _ _ (by rw[Bl];exact hbl)
     have hl':cs.length=xs.length * 1:=by omega
     have q4:List.take (xs.length * 1) cs=cs:=Bt (by omega);have q6:xs.length * 1≤cs.length:=by omega
     simp only[Nat.mul_one]at q4 q6;simp only[tyD,b9,at_len,Bi,Bc,strC,q1,s8,g9,s9,q4,q6,evG,Nat.reduceAdd,Nat.reduceLT,Nat.reduceLeDiff,Nat.reduceEqDiff,reduceCtorEq,List.reduceReplicate];obtain⟨k1,k2⟩:=hB'.push f1 (h':=(h1.set j ⟨ver+1,9,cs++[strC x]⟩).set b ⟨0,130,[strC nm,.own j (ver+1) (xs.length+1)]⟩++[⟨0,9,[strC x]⟩]) (j':=j) (ver':=ver+1) (cs:=cs) (es:=[strC x]) (ecs:=[strC x]) (fun j2 ver2 e=>by cases e;exact⟨rfl,hj⟩) (fun e=>by cases e) (((Fr.set (S:=fun k=>k=b∨nbk (.own j ver xs.length) k) _ (.inr rfl)).trans (Fr.set (S:=fun k=>k=b∨nbk (.own j ver xs.length) k) _ (.inl rfl)) fun k e=>.inl e).trans (Fr.app (S:=NoB) _ _) fun k e=>e.elim) ((Ba (by rw[Bl,Bl];exact hjl)).trans ((Bn hjb.symm).trans (Be hjl))) ((Ba (by rw[Bl,Bl];exact hbl)).trans (Be (by rw[Bl];exact hbl))) rfl he;refine⟨hxs,(IN.i f1).trans k2 fun k e=>.inl e,_,rfl,?_,rfl,.own j (ver+1) (xs.length+1),?_⟩
     ·exact (Ba (by rw[Bl,Bl];exact hrl)).trans ((Bn a5.symm).trans ((Bn hji).trans r1))
     ·rw[hxe,hxf];exact k1)
 |false=>
  rw[hT]at r0;rw[if_neg (by decide)]at r0⊢;obtain⟨d1,d2,d3,d4,d5,d6,d7,d8,d9,d10⟩:=hB'.fr f0;simp only[evG,Nat.reduceLT,Nat.reduceEqDiff,reduceCtorEq];refine DrawE.orders [[0,1,2,3,4,5,6,7],[0,2,1,3,4,5,6,7],[2,0,1,3,4,5,6,7],[0,2,3,1,4,5,6,7],[2,0,3,1,4,5,6,7],[0,2,3,4,1,5,6,7],[2,0,3,4,1,5,6,7],[2,3,0,1,4,5,6,7],[2,3,0,4,1,5,6,7],[2,3,4,0,1,5,6,7]] (fun _ _ _ h o h'=>ResD ts n L i h StrA (wordD ts p) o h') (panE_ext _) (by kernel_rfl) (by kernel_rfl) (by kernel_rfl) (fun q hq=>?_);simp only[BI,List.not_mem_nil,or_false]at hq
  rcases hq with rfl|rfl|rfl|rfl|rfl|rfl|rfl|rfl|rfl|rfl
  all_goals simp only[evR,rR_bs,seqT,BU,Bu,Bz,tyD,d8,d9,Bc,Bi,evG,Nat.reduceLT,Nat.reduceLeDiff,Nat.reduceEqDiff,reduceCtorEq,List.reduceReplicate]
  all_goals refine⟨c129,dword_ev E hp r0,fun r h1 hh=>?_,fun v h1 hh=>by obtain⟨q,e,eR,f1,rfl⟩:=ResD.pan hh;rw[eR];exact⟨IN.i (f0.trans f1 fun k e=>.inl e),rfl⟩⟩
  all_goals obtain⟨x,q,eR,f1',r1,rfl⟩:=ResD.ret hh
  all_goals rw[eR]
  all_goals have f1:Fr (IsI i) h h1:=f0.trans f1' fun k e=>.inl e
  all_goals obtain⟨b1,b2,b3,b4,b5,b6,b7,b8,b9,b10⟩:=hB'.fr f1
  all_goals have hbl:=(Bs.1 b9).1
  all_goals have hrl:=r1.lt
  all_goals have g7:∀ l,(h1++l)[b]?=some ⟨0,130,[strC nm,N]⟩:=fun l=>(Ba hbl).trans b9
  all_goals have s6:∀ l c,(h1++l).set b c=h1.set b c++l:=fun l c=>Bg _ _ hbl
  all_goals have he:RdL (kT 9) (Old h.length) h1 [strC x] [strC x]:=RdL.str1 x
  all_goals have hxe:(xs++[x]).length=xs.length+1:=by simp
  all_goals have hxf:(xs++[x]).flatMap encV=xs.flatMap encV++[strC x]:=by simp[encV]
  all_goals have hB3:=hB'.fr f1
  all_goals rcases b10 with⟨rfl,e0,e1⟩|⟨j,ver,cs,rfl,hn,hj0,hj,hl,hrd⟩
  all_goals first
   |(have e0':=e0
     simp only[Bu,Bz,tyD,b9,g7,at_len,s6,Bi,Bo,Bc,strC,evG,Nat.reduceAdd,Nat.reduceLT,Nat.reduceLeDiff,Nat.reduceEqDiff,reduceCtorEq];obtain⟨k1,k2⟩:=hB'.push f1 (h':=h1.set b ⟨0,130,[strC nm,.own (h1.length+1) 0 1]⟩++[⟨0,9,[strC x]⟩,⟨0,9,[strC x]⟩]) (j':=h1.length+1) (ver':=0) (cs:=[]) (es:=[strC x]) (ecs:=[strC x]) (fun j ver e=>by cases e) (fun _=>⟨by omega,rfl⟩) ((Fr.set _ (.inl rfl)).trans (Fr.app (S:=NoB) _ _) fun k e=>e.elim) (at_lenS1 _ _ _ _ _ _) (by rw[e0];exact (Ba (by rw[Bl];exact hbl)).trans (Be hbl)) rfl he;rw[e0]at k1;refine⟨(IN.i f1).trans k2 fun k e=>.inl e,_,rfl,?_,rfl,.own (h1.length+1) 0 1,?_⟩
     ·exact (Ba (by rw[Bl];exact hrl)).trans ((Bn a5.symm).trans r1)
     ·rw[hxe,hxf,e0];exact k1)
   |(have hjl:=(Bs.1 hj).1
     have hjb:j≠b:=by omega
     have hji:j≠i:=by omega
     have q1:∀ l,(h1++l)[j]?=some ⟨ver,9,cs⟩:=fun l=>(Ba hjl).trans hj
     have s8:∀ l c,(h1++l).set j c=h1.set j c++l:=fun l c=>Bg _ _ hjl
     have g9:∀ l c,(h1.set j c++l)[b]?=some ⟨0,130,[strC nm,.own j ver xs.length]⟩:=fun l c=>(Ba (by rw[Bl];exact hbl)).trans ((Bn hjb).trans b9)
     have s9:∀ l c d,(h1.set j c++l).set b d=(h1.set j c).set b d++l:=fun l c d=>Bg _ _ (by rw[Bl];exact hbl)
     have hl':cs.length=xs.length * 1:=by omega
     have q4:List.take (xs.length * 1) cs=cs:=Bt (by omega);have q6:xs.length * 1≤cs.length:=by omega
     simp only[Nat.mul_one]at q4 q6;simp only[Bu,Bz,tyD,b9,g7,at_len,Bi,Bc,strC,q1,s8,g9,s9,q4,q6,evG,Nat.reduceAdd,Nat.reduceLT,Nat.reduceLeDiff,Nat.reduceEqDiff,reduceCtorEq];obtain⟨k1,k2⟩:=hB'.push f1 (h':=(h1.set j ⟨ver+1,9,cs++[strC x]⟩).set b ⟨0,130,[strC nm,.own j (ver+1) (xs.length+1)]⟩++[⟨0,9,[strC x]⟩]) (j':=j) (ver':=ver+1) (cs:=cs) (es:=[strC x]) (ecs:=[strC x]) (fun j2 ver2 e=>by cases e;exact⟨rfl,hj⟩) (fun e=>by cases e) (((Fr.set (S:=fun k=>k=b∨nbk (.own j ver xs.length) k) _ (.inr rfl)).trans (Fr.set (S:=fun k=>k=b∨nbk (.own j ver xs.length) k) _ (.inl rfl)) fun k e=>.inl e).trans (Fr.app (S:=NoB) _ _) fun k e=>e.elim) ((Ba (by rw[Bl,Bl];exact hjl)).trans ((Bn hjb.symm).trans (Be hjl))) ((Ba (by rw[Bl,Bl];exact hbl)).trans (Be (by rw[Bl];exact hbl))) rfl he;refine⟨hxs,(IN.i f1).trans k2 fun k e=>.inl e,_,rfl,?_,rfl,.own j (ver+1) (xs.length+1),?_⟩
     ·exact (Ba (by rw[Bl,Bl];exact hrl)).trans ((Bn a5.symm).trans ((Bn hji).trans r1))
     ·rw[hxe,hxf];exact k1)
end Go.Proofs.YtlobiioioicmhaaGreatDoor.O
namespace Go.Proofs.YtlobiioioicmhaaGreatDoor
open _root_.Bool renaming not_true→Bv,not_false→Bf
open _root_.List renaming getElem?_eq_some_iff→Bs,getElem?_append_left→Ba,getElem?_set_self→Be,getElem?_set_ne→Bn,length_set→Bl,length_append→Bp,append_assoc→Bo,cons_append→Bc,nil_append→Bi,getElem?_cons_zero→Bz,getElem?_cons_succ→Bu,set_cons_zero→Bx,set_cons_succ→Bw,set_append_left→Bg,take_of_length_le→Bt,length_drop→Bd,length_take→Bh,mem_singleton→Bj,prefix_rfl→BB,length_cons→BC,length_nil→BD,flatMap_cons→BE,mem_cons→BI,getElem?_toArray→BU
open _root_.Nat renaming le_trans→BM,zero_le→BN,lt_of_lt_of_le→BO
open Go.Proofs.Tryz renaming prog→Tp
open Go Go.Ev
set_option maxRecDepth 20000
variable {γ:List (Nat×AV)} {ts:List Tk} {L:AV}
theorem c130:bodyT Tp 130:=⟨_,Tryz.func130,by kernel_rfl,by kernel_rfl⟩
def Pt.av(p:Pt):AV:=.agg p.cells
theorem strsA_eq(xs:List (List UInt8)):slA xs.length (xs.flatMap encV)=strsA xs:=by
 have:xs.flatMap encV=xs.map strC:=by
  induction xs with
  |nil=>rfl
  |cons x xs ih=>rw[BE,ih];rfl
 rw[this];rfl
theorem Fr.pre{S:Nat→Prop}{h h':List ABlk}{l:List ABlk}(f:Fr S (h++l) h'):Fr S h h':=(Fr.app (S:=S) h l).trans f fun k e=>.inl e
end Go.Proofs.YtlobiioioicmhaaGreatDoor
namespace Go.Proofs.YtlobiioioicmhaaGreatDoor.O
open _root_.Bool renaming not_true→Bv,not_false→Bf
open _root_.List renaming getElem?_eq_some_iff→Bs,getElem?_append_left→Ba,getElem?_set_self→Be,getElem?_set_ne→Bn,length_set→Bl,length_append→Bp,append_assoc→Bo,cons_append→Bc,nil_append→Bi,getElem?_cons_zero→Bz,getElem?_cons_succ→Bu,set_cons_zero→Bx,set_cons_succ→Bw,set_append_left→Bg,take_of_length_le→Bt,length_drop→Bd,length_take→Bh,mem_singleton→Bj,prefix_rfl→BB,length_cons→BC,length_nil→BD,flatMap_cons→BE,mem_cons→BI,getElem?_toArray→BU
open _root_.Nat renaming le_trans→BM,zero_le→BN,lt_of_lt_of_le→BO
open Go.Proofs.Tryz renaming prog→Tp
open Go Go.Ev
set_option maxRecDepth 20000
variable {γ:List (Nat×AV)} {ts:List Tk} {L:AV}
theorem GL.rdS{n0 m:Nat}{t:TypeId}{sz:Nat}{h h':List ABlk}{N:AV}{n:Nat}{ys:List AV}{S1:Nat→Prop}(a:GL n0 t sz h N n ys)(f:Fr S1 h h')(h1:∀ k,S1 k→k<h.length→k<n0)(hm:m≤n0):Rd (.s t) (Old m) h' (slA n ys) N:=
 a.rd.up f h1 fun k e _=>BO e hm
theorem dpart_ev(E:EnvD γ L ts){h:List ABlk}{i p n:Nat}(hp:p≤ts.length)(hr:RD h i L p n):
  EvM Tp γ 130 [.ptr i 0 0] h (ResD ts n L i h (RdA (.g (kT 130)) Pt.av h.length) (partD ts p)):=by
 have hil:=hr.lt;have hn:=E.n;refine EvM.of Tryz.func130 rfl ?_;simp only[Tryz.f130,tyD,at_len,Bo,Bc,Bi,evE,Nat.reduceAdd,Nat.reduceSub,Nat.reduceLT,Nat.reduceEqDiff,reduceCtorEq];refine callD c129 (dword_ev E hp (hr.app _)) (fun nm p1 a h1 e f1 r1 hA=>?_) (fun q e' h1 e f1=>?_)
 rotate_left
 ·unfold partD;rw[e];exact⟨f1.pre,rfl⟩
 have adv1:=word_adv hp;rw[e]at adv1;obtain⟨_,hp1⟩:=adv1;have eD:partD ts p=(listD ts (varD ts) p1).bind fun l p2=>.ok ⟨nm,l⟩ p2:=by unfold partD;rw[e];rfl
 rw[eD];subst hA;have k0:h1[h.length]?=some ⟨0,127,[.ptr i 0 0]⟩:=f1.at (at_len _ _ _) (fun e=>by have e:h.length=i:=e;omega);have k1:h1[h.length+1]?=some ⟨0,130,[strC [],.v (.slice none 0 0)]⟩:=f1.at (at_len1 _ _ _ _) (fun e=>by have e:h.length+1=i:=e;omega);have hl1:=(Bs.1 k1).1;have g0:∀ l,(h1++l)[h.length]?=some ⟨0,127,[.ptr i 0 0]⟩:=fun l=>(Ba (by omega)).trans k0
 simp only[tyD,g0,strC,at_len,set_len,evE,Nat.reduceAdd,Nat.reduceLT,Nat.reduceLeDiff,Nat.reduceEqDiff,reduceCtorEq]
 have hlist:=dlisted_ev (b:=h1.length) (n0:=h1.length+1) E (I:=varD ts) (fun p hp=>var_adv hp) (Φ:=BoxL i (h1.length+1) h1.length h.length 130 [strC nm] 9 1 encV) (fs:=[]) (cs:=[.ptr h.length 0 0,.ptr h1.length 0 0]) c201
  (fun h h1 xs a f=>a.fr f) (fun h p xs hp hx hr hB=>dpart1_ev E hp hr hB (by omega)) hp1 (r1.app [⟨0,130,[strC nm,.v (.slice none 0 0)]⟩]) ⟨.v (.slice none 0 0),by omega,by omega,by omega,by omega,by omega,by omega,by simp,g0 _,at_len _ _ _,GL.nil⟩
 refine callSE c200 hlist (fun xs q a h2 e2 f2 r2 hA=>?_) (fun q e' h2 e2 f2=>?_)
 rotate_left
 ·rw[e2];exact⟨f1.pre.trans (f2.drop (by omega) (by omega)) fun k e=>.inl e,rfl⟩
 rw[e2];obtain⟨rfl,N,b1,b2,b3,b4,b5,b6,b7,b8,b9,b10⟩:=hA;have hbl:=(Bs.1 b9).1;obtain⟨oN,fN⟩:=b10.one;have k2:h2[h.length+1]?=some ⟨0,130,[strC [],.v (.slice none 0 0)]⟩:=f2.at ((Ba (by omega)).trans k1) (fun e=>by rcases e with e|e|e<;>omega);have s5:∀ c,(h2.set (h.length+1) c)[h.length+1]?=some c:=fun c=>Be (Bs.1 k2).1
 simp only[tyD,b9,k2,s5,oN,setMany,strC,Bc,Bi,evE,Nat.reduceAdd,Nat.reduceLT,Nat.reduceLeDiff,Nat.reduceEqDiff,reduceCtorEq];have rd:=b10.rdS (m:=h.length) (Fr.set (S:=IsI (h.length+1)) (h:=h2) ⟨0,130,[strC nm,N]⟩ rfl) (fun k e _=>by have e:k=h.length+1:=e;omega) (by omega);rw[strsA_eq]at rd;have f12:Fr (IsI i) h h2:=f1.pre.trans (f2.drop (by omega) (by omega)) fun k e=>.inl e
 exact⟨f12.trans (Fr.set (S:=IsI (h.length+1)) _ rfl) fun k e=>.inr (by have e:k=h.length+1:=e;omega),_,rfl,(Bn (by omega)).trans r2,Rd.agg (RdL.pt rd)⟩
end Go.Proofs.YtlobiioioicmhaaGreatDoor.O
namespace Go.Proofs.YtlobiioioicmhaaGreatDoor
open _root_.Bool renaming not_true→Bv,not_false→Bf
open _root_.List renaming getElem?_eq_some_iff→Bs,getElem?_append_left→Ba,getElem?_set_self→Be,getElem?_set_ne→Bn,length_set→Bl,length_append→Bp,append_assoc→Bo,cons_append→Bc,nil_append→Bi,getElem?_cons_zero→Bz,getElem?_cons_succ→Bu,set_cons_zero→Bx,set_cons_succ→Bw,set_append_left→Bg,take_of_length_le→Bt,length_drop→Bd,length_take→Bh,mem_singleton→Bj,prefix_rfl→BB,length_cons→BC,length_nil→BD,flatMap_cons→BE,mem_cons→BI,getElem?_toArray→BU
open _root_.Nat renaming le_trans→BM,zero_le→BN,lt_of_lt_of_le→BO
open Go.Proofs.Tryz renaming prog→Tp
open Go Go.Ev
set_option maxRecDepth 20000
variable {γ:List (Nat×AV)}
def boolS(b:Bool):List UInt8:=if b then [116,114,117,101]else [102,97,108,115,101]
def oddT:Nat→Nat→Nat
 |0,_=>0
 |f+1,m=>if m%2=0 then oddT f (m / 2)+1 else 0
def mB(x:Nat):Nat:=x%4503599627370496
def eB(x:Nat):Nat:=(x / 4503599627370496)%2048
def nanB(x:Nat):Bool:=FloatKind.f64.format.order x x != some .eq
def mM(x:Nat):Nat:=if 0<eB x then mB x+4503599627370496 else mB x
def mE(x:Nat):Int:=if 0<eB x then (eB x:Int)-1075 else -1074
def mT(x:Nat):Nat:=oddT 64 (mM x)
theorem tyV:aggT Tp 23=some false∧
  aggT Tp 25=some true∧
  fieldT Tp 25 0=some (0,3)∧
  fieldT Tp 25 1=some (1,2)∧
  fieldT Tp 25 2=some (2,22)∧
  fieldT Tp 25 3=some (3,23)∧
  fieldT Tp 25 4=some (4,9)∧
  placesT Tp 25=some [(0,1),(1,1),(2,1),(3,1),(4,1)]∧
  sizeT Tp 23=some 1∧
  sizeT Tp 25=some 5∧
  zcT Tp 25=some [.v (.int .i64 0),.v (.int .i64 0),.v (.float .f64 0),.v (.complex .f64 0 0),.v (.string ⟨#[]⟩)]∧aggT Tp 4=some false:=
 (by and_intros<;>kernel_rfl)
structure VD where
 kind:Int
 int:Int
 real:Nat
 re:Nat
 im:Nat
 text:List UInt8
def vC(v:VD):List AV:=[.v (.int .i64 v.kind),.v (.int .i64 v.int),.v (.float .f64 v.real),.v (.complex .f64 v.re v.im),.v (.string ⟨v.text.toArray⟩)]
def vA(v:VD):AV:=.agg (vC v)
def mayF(v:VD):Bool:=if v.kind=1∨v.kind=2∨v.kind=3 then true else if v.kind=4 then decide (v.text.length≤256)else if v.kind=5 then (v.int==0) || (v.int==1)else false
theorem beq_f{a b:Int}(h:a≠b):(a==b)=false:=by
 cases hb:(a==b)with
 |false=>rfl
 |true=>exact absurd (eq_of_beq hb) h
end Go.Proofs.YtlobiioioicmhaaGreatDoor
