/- Contracts of the functions that the law reaches. -/
import Derived.Test.YtlobiioioicmhaaGreatDoorQ6
import Derived.Test.YtlobiioioicmhaaGreatDoorU9
set_option linter.all false
namespace Go.Proofs.YtlobiioioicmhaaGreatDoor
open Go Go.Ev
set_option maxRecDepth 20000
variable {γ:List (Nat×AV)}
def cutN(ts:List Tk)(p:Nat):Nat:=p+stN (ts.drop p)
def readR(ts:List Tk)(f:Int):List Nd×Int×Int:=
 if f<0∨(ts.length:Int)<f then ([],0,2)else match readP (ts.take (cutN ts f.toNat)) f.toNat with
  |.bad q=>([],q,50)
  |.ok t q=>if limK t.size t.deep=0 then (lay t 0,q,0)else ([],f,limK t.size t.deep)
def readA(ts:List Tk)(f:Int):AV:=.tup [.agg [nodesA (readR ts f).1],.v (.int .i64 (readR ts f).2.1),.v (.int .i64 (readR ts f).2.2)]
theorem cutN_le{ts:List Tk}{p:Nat}(hp:p≤ts.length):cutN ts p≤ts.length:=by
 have:=stN_le (ts.drop p)
 rw[List.length_drop]at this
 unfold cutN;omega
theorem tkCells_append(a b:List Tk):tkCells (a++b)=tkCells a++tkCells b:=List.flatMap_append
theorem LAt_take{ts:List Tk}{cs:List AV}(h:tkCells ts<+:cs)(k:Nat):tkCells (ts.take k)<+:cs:=by
 refine List.IsPrefix.trans ?_ h
 have:ts=ts.take k++ts.drop k:=(List.take_append_drop k ts).symm
 conv=>rhs;rw[this,tkCells_append]
 exact List.prefix_append _ _
theorem LAt_drop{ts:List Tk}{cs:List AV}(h:tkCells ts<+:cs){k:Nat}(hk:k≤ts.length):tkCells (ts.drop k)<+:cs.drop (k * 6):=by
 obtain⟨r,rfl⟩:=h
 have e:ts=ts.take k++ts.drop k:=(List.take_append_drop k ts).symm
 have hl:(tkCells (ts.take k)).length=k * 6:=by rw[tkCells_length,List.length_take,Nat.min_eq_left hk]
 conv=>rhs;rw[e,tkCells_append,List.append_assoc,←hl,List.drop_left]
 exact List.prefix_append _ _
def LAs(L:AV)(ts:List Tk):Prop:=(L=.v (.slice none 0 0)∧ts=[])∨∃ b m cs,L=.sl b ts.length m cs∧tkCells ts<+:cs∧cs.length≤m * 6∧ts.length≤m
theorem c26:bodyT Tryz.prog 26:=⟨_,Tryz.func26,by kernel_rfl,by kernel_rfl⟩
set_option maxHeartbeats 2000000 in
theorem read26_ev(hγ:Gl γ)(hγ2:GlW γ){L:AV}{ts:List Tk}(hL:LAs L ts)(ht:∀ t∈ts,okTk t)(hn:ts.length≤2000000)(f:Int):Ev Tryz.prog γ 26 [L,.v (.int .i64 f)] (readA ts f):=by
 refine Ev.ofE Tryz.func26 rfl ?_
 have ll:∀ s,lenS Tryz.prog 48 s L=some (.v (.int .i64 ts.length)):=fun s=>by
  have e24:elemT Tryz.prog 48=some 53:=by kernel_rfl
  rcases hL with⟨rfl,rfl⟩|⟨b,m,cs,rfl,_⟩
  ·simp only[lenS,e24];rfl
  ·simp only[lenS,e24];rfl
 have fl:flat L=some [L]:=by rcases hL with⟨rfl,rfl⟩|⟨b,m,cs,rfl,_⟩<;>rfl
 have fo:oneA L=true:=by rcases hL with⟨rfl,rfl⟩|⟨b,m,cs,rfl,_⟩<;>rfl
 unfold readA
 by_cases h1:f<0
 ·have d1:decide (f<0)=true:=decide_eq_true h1
  have hR:readR ts f=([],0,2):=by unfold readR;rw[if_pos (.inl h1)]
  rw[hR]
  simp only[Tryz.f26,tyZ,ty41,d1,nodesA,evE,Nat.reduceAdd,Nat.reduceSub,Nat.reduceLT,Nat.reduceLeDiff,Nat.reduceEqDiff,reduceCtorEq]
 ·have d1:decide (f<0)=false:=decide_eq_false h1
  by_cases h2:(ts.length:Int)<f
  ·have d2:decide ((ts.length:Int)<f)=true:=decide_eq_true h2
   have hR:readR ts f=([],0,2):=by unfold readR;rw[if_pos (.inr h2)]
   rw[hR]
   simp only[Tryz.f26,tyZ,ty41,ll,d1,d2,nodesA,evE,Nat.reduceAdd,Nat.reduceSub,Nat.reduceLT,Nat.reduceLeDiff,Nat.reduceEqDiff,reduceCtorEq]
  ·have d2:decide ((ts.length:Int)<f)=false:=decide_eq_false h2
   obtain⟨p,rfl⟩:∃ p:Nat,f=p:=⟨f.toNat,by omega⟩
   have hp:p≤ts.length:=by omega
   have hR:readR ts p=match readP (ts.take (cutN ts p)) p with
     |.bad q=>([],(q:Int),50)
     |.ok t q=>if limK t.size t.deep=0 then (lay t 0,(q:Int),0)else ([],(p:Int),limK t.size t.deep):=by
    unfold readR
    rw[if_neg (by omega),Int.toNat_natCast]
   have d2:decide (ts.length<p)=false:=decide_eq_false (by omega)
   clear h1 h2
   rcases hL with⟨rfl,rfl⟩|⟨b,m,cs,rfl,hcs,hc1,hc2⟩
   ·have hp0:p=0:=Nat.le_zero.1 hp
    subst hp0
    have dm:decide ((0:Int) ≤ -1)=false:=by decide
    simp only[Tryz.f26,tyZ,ll,d1,fl,fo,evE,tyX,Nat.reduceAdd,Nat.reduceSub,Nat.reduceLT,Nat.reduceLeDiff,Nat.reduceEqDiff,reduceCtorEq]
    refine CallE.pure (CallK.intro c65 rfl (index_ev hγ hγ2 (.inl ⟨rfl,rfl⟩) (fun t h=>by cases h) (by decide)) ?_)
    have e0:idxR [] = -1:=rfl
    simp only[e0,evE,Nat.reduceLT,Nat.reduceEqDiff,reduceCtorEq,Int.reduceLE]
    have hcut2:(([]:List Tk).take (cutN [] 0)).length=0:=by simp
    refine CallE.intro c60 _ (read_ev (ts:=([]:List Tk).take (cutN [] 0)) (.inl ⟨rfl,List.take_nil⟩) (by rw[hcut2];decide) (h:=[⟨0,41,[.v (.slice none 0 0)]⟩,⟨0,104,[.v (.slice none 0 0),.v (.int .i64 (((0:Nat)):Int)),.v (.slice none 0 0)]⟩]) (i:=1) (p:=0) (N:=.v (.slice none 0 0)) (ns:=[]) (Nat.zero_le _) ⟨rfl,.inl ⟨rfl,rfl⟩⟩ (by simp)) (fun r h1 hh=>?_) (fun v h' hh=>?_)
    rotate_left
    ·obtain⟨_,hh⟩:=hh
     cases er:readP (([]:List Tk).take (cutN [] 0)) 0 with
     |bad q=>rw[er]at hh;cases hh
     |ok t q=>rw[er]at hh;cases hh.1
    obtain⟨f1,hh⟩:=hh
    have k0:h1[0]?=some ⟨0,41,[.v (.slice none 0 0)]⟩:=f1.at rfl fun h=>h.elim (fun e=>by cases e) fun e=>e
    have kz:∀ b,(h1.set 0 b)[0]?=some b:=fun b=>List.getElem?_set_self (List.getElem?_eq_some_iff.1 k0).1
    cases er:readP (([]:List Tk).take (cutN [] 0)) 0 with
    |bad q=>
     rw[er]at hh hR
     have hh:Out.ret r=Out.ret (.v (.int .i64 (q:Int))):=hh
     cases hh
     have d4:decide ((0:Int)≤(q:Int))=true:=decide_eq_true (by omega)
     rw[hR]
     simp only[tyZ,k0,kz,ty41,nodesA,evE,Nat.reduceLT,Nat.reduceLeDiff,Nat.reduceEqDiff,reduceCtorEq]
    |ok t q=>
     rw[er]at hh hR
     obtain⟨eo,N',r1,n1⟩:=hh
     cases eo
     have hr1:h1[1]?=_:=r1.1
     have d4:decide ((0:Int) ≤ -1)=false:=by decide
     have hadv:=pr_adv _ _ _ _ _ _ (Nat.zero_le _) er
     obtain⟨⟨g1,g2⟩,g3⟩:=hadv
     have hwf:=pr_wf _ _ _ _ _ _ (fun n a e=>by cases e) er
     have hsz:t.size≤2000001:=(by rw[hcut2]at *;omega)
     have hN:=r1.2
     rw[List.nil_append,List.length_nil]at hN
     have hlen:=lay_length t 0
     have hps:=size_pos t
     obtain⟨j,ver,rfl,hj⟩:=hN.own (by omega)
     simp only[hr1,evE,tyX,Nat.reduceLT,Nat.reduceEqDiff,reduceCtorEq,Int.reduceLE]
     refine CallE.pure (CallK.lend c61 _ (lend1 hj List.prefix_rfl (nds_v _)) (limits_ev t hwf (by omega)) rfl ?_)
     by_cases hk:limK t.size t.deep=0
     ·have d5:(limK t.size t.deep != 0)=false:=by simpa using hk
      have hj0:j≠0:=fun e=>by subst e;rw[k0]at hj;cases hj
      have kx:∀ b,(h1.set 0 b)[1]?=some _:=fun b=>(List.getElem?_set_ne (by decide)).trans hr1
      rw[hR]
      simp only[if_pos hk]
      simp only[d5,evE,Nat.reduceLT,Nat.reduceEqDiff,reduceCtorEq]
      refine DrawK.orders [[0,1,2,3,4,5,6,7,8,9,10,11],[0,1,2,3,4,9,5,6,7,8,10,11],[0,1,2,3,4,5,9,6,7,8,10,11],[0,1,2,3,4,5,6,9,7,8,10,11],[0,1,2,3,4,5,6,7,9,8,10,11]] (by kernel_rfl) (by kernel_rfl) (by kernel_rfl) (fun p hp=>?_)
      simp only[List.mem_cons,List.not_mem_nil,or_false]at hp
      rcases hp with rfl|rfl|rfl|rfl|rfl
      all_goals simp only[seqT,List.getElem?_toArray,List.getElem?_cons_succ,List.getElem?_cons_zero,tyZ,hr1,kx,k0,kz,ty41,evE,tyX,Nat.reduceLT,Nat.reduceLeDiff,Nat.reduceEqDiff,reduceCtorEq]
      all_goals exact fz_nodes ((List.getElem?_set_ne (Ne.symm hj0)).trans hj) (by omega)
     ·have d5:(limK t.size t.deep != 0)=true:=by simpa using hk
      rw[hR]
      simp only[if_neg hk]
      simp only[tyZ,d5,k0,kz,ty41,nodesA,evE,Nat.reduceLT,Nat.reduceLeDiff,Nat.reduceEqDiff,reduceCtorEq]
   ·have e1:=List.length_drop (i:=p) (l:=ts)
    simp only[Tryz.f26,tyZ,ll,d1,d2,fl,fo,evE,tyX,Nat.reduceAdd,Nat.reduceSub,Nat.reduceLT,Nat.reduceLeDiff,Nat.reduceEqDiff,reduceCtorEq]
    refine⟨⟨hc1,hc2,hp⟩,CallE.pure (CallK.intro c65 rfl (index_ev hγ hγ2 (ts:=ts.drop p) (.inr ⟨b,_,_,by rw[e1],LAt_drop hcs hp⟩) (fun t h=>ht t (List.mem_of_mem_drop h)) (by omega)) ?_)⟩
    by_cases hb:stN (ts.drop p)<(ts.drop p).length
    ·have e0:idxR (ts.drop p)=(stN (ts.drop p):Int):=by unfold idxR;rw[if_pos hb]
     have d3:decide ((0:Int)≤(stN (ts.drop p):Int))=true:=decide_eq_true (by omega)
     have w1:IntKind.i64.wrap ((p:Int)+(stN (ts.drop p):Int))=((cutN ts p:Nat):Int):=(i64w (by omega) (by omega)).trans (by unfold cutN;omega)
     have hcut:=cutN_le hp
     have hcut2:(ts.take (cutN ts p)).length=cutN ts p:=by rw[List.length_take];omega
     simp only[e0,w1,evE,tyX,Nat.reduceAdd,Nat.reduceLT,Nat.reduceLeDiff,Nat.reduceEqDiff,reduceCtorEq]
     refine⟨⟨hc1,by omega⟩,?_⟩
     refine CallE.intro c60 _ (read_ev (ts:=ts.take (cutN ts p)) (.inr ⟨b,m,cs,by rw[hcut2],LAt_take hcs _⟩) (by omega) (h:=[⟨0,41,[.v (.slice none 0 0)]⟩,⟨0,104,[.sl b (cutN ts p) m cs,.v (.int .i64 (p:Int)),.v (.slice none 0 0)]⟩]) (i:=1) (p:=p) (N:=.v (.slice none 0 0)) (ns:=[]) (by rw[hcut2];unfold cutN;omega) ⟨rfl,.inl ⟨rfl,rfl⟩⟩ (by rw[hcut2,List.length_nil];omega)) (fun r h1 hh=>?_) (fun v h' hh=>?_)
     rotate_left
     ·obtain⟨_,hh⟩:=hh
      cases er:readP (ts.take (cutN ts p)) p with
      |bad q=>rw[er]at hh;cases hh
      |ok t q=>rw[er]at hh;cases hh.1
     obtain⟨f1,hh⟩:=hh
     have k0:h1[0]?=some ⟨0,41,[.v (.slice none 0 0)]⟩:=f1.at rfl fun h=>h.elim (fun e=>by cases e) fun e=>e
     have kz:∀ b,(h1.set 0 b)[0]?=some b:=fun b=>List.getElem?_set_self (List.getElem?_eq_some_iff.1 k0).1
     cases er:readP (ts.take (cutN ts p)) p with
     |bad q=>
      rw[er]at hh hR
      have hh:Out.ret r=Out.ret (.v (.int .i64 (q:Int))):=hh
      cases hh
      have d4:decide ((0:Int)≤(q:Int))=true:=decide_eq_true (by omega)
      rw[hR]
      simp only[tyZ,k0,kz,ty41,nodesA,evE,Nat.reduceLT,Nat.reduceLeDiff,Nat.reduceEqDiff,reduceCtorEq]
     |ok t q=>
      rw[er]at hh hR
      obtain⟨eo,N',r1,n1⟩:=hh
      cases eo
      have hr1:h1[1]?=_:=r1.1
      have d4:decide ((0:Int) ≤ -1)=false:=by decide
      have hadv:=pr_adv _ _ _ _ _ _ (by rw[hcut2];unfold cutN;omega) er
      obtain⟨⟨g1,g2⟩,g3⟩:=hadv
      have hwf:=pr_wf _ _ _ _ _ _ (fun n a e=>by cases e) er
      have hsz:t.size≤2000001:=(by rw[hcut2]at *;omega)
      have hN:=r1.2
      rw[List.nil_append,List.length_nil]at hN
      have hlen:=lay_length t 0
      have hps:=size_pos t
      obtain⟨j,ver,rfl,hj⟩:=hN.own (by omega)
      simp only[hr1,evE,tyX,Nat.reduceLT,Nat.reduceEqDiff,reduceCtorEq,Int.reduceLE]
      refine CallE.pure (CallK.lend c61 _ (lend1 hj List.prefix_rfl (nds_v _)) (limits_ev t hwf (by omega)) rfl ?_)
      by_cases hk:limK t.size t.deep=0
      ·have d5:(limK t.size t.deep != 0)=false:=by simpa using hk
       have hj0:j≠0:=fun e=>by subst e;rw[k0]at hj;cases hj
       have kx:∀ b,(h1.set 0 b)[1]?=some _:=fun b=>(List.getElem?_set_ne (by decide)).trans hr1
       rw[hR]
       simp only[if_pos hk]
       simp only[d5,evE,Nat.reduceLT,Nat.reduceEqDiff,reduceCtorEq]
       refine DrawK.orders [[0,1,2,3,4,5,6,7,8,9,10,11],[0,1,2,3,4,9,5,6,7,8,10,11],[0,1,2,3,4,5,9,6,7,8,10,11],[0,1,2,3,4,5,6,9,7,8,10,11],[0,1,2,3,4,5,6,7,9,8,10,11]] (by kernel_rfl) (by kernel_rfl) (by kernel_rfl) (fun p hp=>?_)
       simp only[List.mem_cons,List.not_mem_nil,or_false]at hp
       rcases hp with rfl|rfl|rfl|rfl|rfl
       all_goals simp only[seqT,List.getElem?_toArray,List.getElem?_cons_succ,List.getElem?_cons_zero,tyZ,hr1,kx,k0,kz,ty41,evE,tyX,Nat.reduceLT,Nat.reduceLeDiff,Nat.reduceEqDiff,reduceCtorEq]
       all_goals exact fz_nodes ((List.getElem?_set_ne (Ne.symm hj0)).trans hj) (by omega)
      ·have d5:(limK t.size t.deep != 0)=true:=by simpa using hk
       rw[hR]
       simp only[if_neg hk]
       simp only[tyZ,d5,k0,kz,ty41,nodesA,evE,Nat.reduceLT,Nat.reduceLeDiff,Nat.reduceEqDiff,reduceCtorEq]
    ·have e0:idxR (ts.drop p) = -1:=by unfold idxR;rw[if_neg hb]
     have dm:decide ((0:Int) ≤ -1)=false:=by decide
     have hcut:cutN ts p=ts.length:=by have:=stN_le (ts.drop p);unfold cutN;omega
     simp only[e0,evE,Nat.reduceLT,Nat.reduceEqDiff,reduceCtorEq,Int.reduceLE]
     have hcut2:(ts.take (cutN ts p)).length=ts.length:=by rw[List.length_take];omega
     refine CallE.intro c60 _ (read_ev (ts:=ts.take (cutN ts p)) (.inr ⟨b,m,cs,by rw[hcut2],LAt_take hcs _⟩) (by omega) (h:=[⟨0,41,[.v (.slice none 0 0)]⟩,⟨0,104,[.sl b ts.length m cs,.v (.int .i64 (p:Int)),.v (.slice none 0 0)]⟩]) (i:=1) (p:=p) (N:=.v (.slice none 0 0)) (ns:=[]) (by rw[hcut2];omega) ⟨rfl,.inl ⟨rfl,rfl⟩⟩ (by rw[hcut2,List.length_nil];omega)) (fun r h1 hh=>?_) (fun v h' hh=>?_)
     rotate_left
     ·obtain⟨_,hh⟩:=hh
      cases er:readP (ts.take (cutN ts p)) p with
      |bad q=>rw[er]at hh;cases hh
      |ok t q=>rw[er]at hh;cases hh.1
     obtain⟨f1,hh⟩:=hh
     have k0:h1[0]?=some ⟨0,41,[.v (.slice none 0 0)]⟩:=f1.at rfl fun h=>h.elim (fun e=>by cases e) fun e=>e
     have kz:∀ b,(h1.set 0 b)[0]?=some b:=fun b=>List.getElem?_set_self (List.getElem?_eq_some_iff.1 k0).1
     cases er:readP (ts.take (cutN ts p)) p with
     |bad q=>
      rw[er]at hh hR
      have hh:Out.ret r=Out.ret (.v (.int .i64 (q:Int))):=hh
      cases hh
      have d4:decide ((0:Int)≤(q:Int))=true:=decide_eq_true (by omega)
      rw[hR]
      simp only[tyZ,k0,kz,ty41,nodesA,evE,Nat.reduceLT,Nat.reduceLeDiff,Nat.reduceEqDiff,reduceCtorEq]
     |ok t q=>
      rw[er]at hh hR
      obtain⟨eo,N',r1,n1⟩:=hh
      cases eo
      have hr1:h1[1]?=_:=r1.1
      have d4:decide ((0:Int) ≤ -1)=false:=by decide
      have hadv:=pr_adv _ _ _ _ _ _ (by rw[hcut2];omega) er
      obtain⟨⟨g1,g2⟩,g3⟩:=hadv
      have hwf:=pr_wf _ _ _ _ _ _ (fun n a e=>by cases e) er
      have hsz:t.size≤2000001:=(by rw[hcut2]at *;omega)
      have hN:=r1.2
      rw[List.nil_append,List.length_nil]at hN
      have hlen:=lay_length t 0
      have hps:=size_pos t
      obtain⟨j,ver,rfl,hj⟩:=hN.own (by omega)
      simp only[hr1,evE,tyX,Nat.reduceLT,Nat.reduceEqDiff,reduceCtorEq,Int.reduceLE]
      refine CallE.pure (CallK.lend c61 _ (lend1 hj List.prefix_rfl (nds_v _)) (limits_ev t hwf (by omega)) rfl ?_)
      by_cases hk:limK t.size t.deep=0
      ·have d5:(limK t.size t.deep != 0)=false:=by simpa using hk
       have hj0:j≠0:=fun e=>by subst e;rw[k0]at hj;cases hj
       have kx:∀ b,(h1.set 0 b)[1]?=some _:=fun b=>(List.getElem?_set_ne (by decide)).trans hr1
       rw[hR]
       simp only[if_pos hk]
       simp only[d5,evE,Nat.reduceLT,Nat.reduceEqDiff,reduceCtorEq]
       refine DrawK.orders [[0,1,2,3,4,5,6,7,8,9,10,11],[0,1,2,3,4,9,5,6,7,8,10,11],[0,1,2,3,4,5,9,6,7,8,10,11],[0,1,2,3,4,5,6,9,7,8,10,11],[0,1,2,3,4,5,6,7,9,8,10,11]] (by kernel_rfl) (by kernel_rfl) (by kernel_rfl) (fun p hp=>?_)
       simp only[List.mem_cons,List.not_mem_nil,or_false]at hp
       rcases hp with rfl|rfl|rfl|rfl|rfl
       all_goals simp only[seqT,List.getElem?_toArray,List.getElem?_cons_succ,List.getElem?_cons_zero,tyZ,hr1,kx,k0,kz,ty41,evE,tyX,Nat.reduceLT,Nat.reduceLeDiff,Nat.reduceEqDiff,reduceCtorEq]
       all_goals exact fz_nodes ((List.getElem?_set_ne (Ne.symm hj0)).trans hj) (by omega)
      ·have d5:(limK t.size t.deep != 0)=true:=by simpa using hk
       rw[hR]
       simp only[if_neg hk]
       simp only[tyZ,d5,k0,kz,ty41,nodesA,evE,Nat.reduceLT,Nat.reduceLeDiff,Nat.reduceEqDiff,reduceCtorEq]
def n1:List UInt8:=[105,110,116]
def n2:List UInt8:=[114,101,97,108]
def n3:List UInt8:=[99,111,109,112]
def n4:List UInt8:=[116,101,120,116]
def n5:List UInt8:=[98,111,111,108]
def typeF(l:List UInt8):Int×Bool:=if l=n1 then (1,true)else if l=n2 then (2,true)else if l=n3 then (3,true)else if l=n4 then (4,true)else if l=n5 then (5,true)else (0,false)
structure Pt where
 tag:List UInt8
 vars:List (List UInt8)
structure Ac where
 kind:Int
 to:List Nd
 name:List UInt8
 var:List UInt8
 args:List (List Nd)
structure Ch where
 name:List UInt8
 parts:List Pt
 guard:List Nd
 body:List Ac
structure Tg where
 name:List UInt8
 types:List Int
structure Kd where
 name:List UInt8
 chords:List Ch
structure Pg where
 tags:List Tg
 kinds:List Kd
def slA(n:Nat)(cs:List AV):AV:=match n with
 |0=>.v (.slice none 0 0)
 |_+1=>.sl false n n cs
def strC(s:List UInt8):AV:=.v (.string ⟨s.toArray⟩)
def strsA(l:List (List UInt8)):AV:=slA l.length (l.map strC)
def intC(k:Int):AV:=.v (.int .i64 k)
def intsA(l:List Int):AV:=slA l.length (l.map intC)
def expsA(l:List (List Nd)):AV:=slA l.length (l.map nodesA)
def Pt.cells(p:Pt):List AV:=[strC p.tag,strsA p.vars]
def partsA(l:List Pt):AV:=slA l.length (l.flatMap Pt.cells)
def Ac.cells(a:Ac):List AV:=[intC a.kind,nodesA a.to,strC a.name,strC a.var,expsA a.args]
def actsA(l:List Ac):AV:=slA l.length (l.flatMap Ac.cells)
def Ch.cells(c:Ch):List AV:=[strC c.name,partsA c.parts,nodesA c.guard,actsA c.body]
def chordsA(l:List Ch):AV:=slA l.length (l.flatMap Ch.cells)
def Tg.cells(t:Tg):List AV:=[strC t.name,intsA t.types]
def tagsA(l:List Tg):AV:=slA l.length (l.flatMap Tg.cells)
def Kd.cells(k:Kd):List AV:=[strC k.name,chordsA k.chords]
def kindsA(l:List Kd):AV:=slA l.length (l.flatMap Kd.cells)
def Pg.cells(p:Pg):List AV:=[tagsA p.tags,kindsA p.kinds]
inductive DR(α:Type) where
 |ok (x:α) (p:Nat)
 |bad (q:Nat) (e:Int)
def DR.bind{α β:Type}(r:DR α)(f:α→Nat→DR β):DR β:=match r with
 |.ok x p=>f x p
 |.bad q e=>.bad q e
def kTag:List UInt8:=[116,97,103]
def kKind:List UInt8:=[107,105,110,100]
def kChord:List UInt8:=[99,104,111,114,100]
def kWhen:List UInt8:=[119,104,101,110]
def kSend:List UInt8:=[115,101,110,100]
def kSpawn:List UInt8:=[115,112,97,119,110]
def kAs:List UInt8:=[97,115]
def kReply:List UInt8:=[114,101,112,108,121]
def kBecome:List UInt8:=[98,101,99,111,109,101]
def kws:List (List UInt8):=[kTag,kKind,kChord,kWhen,kSend,kSpawn,kAs,kReply,kBecome]
def kwB(s:List UInt8):Bool:=decide (s∈kws)
def isB(ts:List Tk)(p:Nat)(s:List UInt8):Bool:=match ts[p]? with
 |some t=>decide ((t.kind=5∨t.kind=1)∧t.text=s)
 |none=>false
def wantD(ts:List Tk)(s:List UInt8)(p:Nat):DR Unit:=if isB ts p s=true then .ok () (p+1)else .bad p 80
def wordD(ts:List Tk)(p:Nat):DR (List UInt8):=match ts[p]? with
 |some t=>if t.kind=1∧kwB t.text=false then .ok t.text (p+1)else .bad p 80
 |none=>.bad p 80
def exprD(ts:List Tk)(p:Nat):DR (List Nd):=if (readR ts p).2.2=0 then .ok (readR ts p).1 (readR ts p).2.1.toNat else .bad (readR ts p).2.1.toNat (readR ts p).2.2
def kindD(ts:List Tk)(p:Nat):DR Int:=match ts[p]? with
 |some t=>if t.kind=1∧(typeF t.text).2=true∧(typeF t.text).1≠5 then .ok (typeF t.text).1 (p+1)else .bad p 80
 |none=>.bad p 80
def varD(ts:List Tk)(p:Nat):DR (List UInt8):=if isB ts p [95]=true then .ok [95] (p+1)else wordD ts p
def moreD{α:Type}(ts:List Tk)(I:Nat→DR α):Nat→List α→Nat→DR (List α)
 |0,_,p=>.bad p 80
 |f+1,l,p=>if isB ts p [41]=true then .ok l (p+1)else if isB ts p [44]=true then (I (p+1)).bind fun x q=>moreD ts I f (l++[x]) q else .bad p 80
def listD{α:Type}(ts:List Tk)(I:Nat→DR α)(p:Nat):DR (List α):=
 (wantD ts [40] p).bind fun _ p1=>if isB ts p1 [41]=true then .ok [] (p1+1)else (I p1).bind fun x q=>moreD ts I (ts.length+1) [x] q
def argsD(ts:List Tk)(p:Nat):DR (List (List Nd)):=listD ts (exprD ts) p
def tagD(ts:List Tk)(p:Nat):DR Tg:=(wordD ts p).bind fun n p1=>(listD ts (kindD ts) p1).bind fun l p2=>(wantD ts [59] p2).bind fun _ p3=>.ok ⟨n,l⟩ p3
def partD(ts:List Tk)(p:Nat):DR Pt:=(wordD ts p).bind fun n p1=>(listD ts (varD ts) p1).bind fun l p2=>.ok ⟨n,l⟩ p2
def actD(ts:List Tk)(p:Nat):DR Ac:=
 if isB ts p kSend=true then (exprD ts (p+1)).bind fun x p1=>(wordD ts p1).bind fun n p2=>(argsD ts p2).bind fun l p3=>.ok ⟨1,x,n,[],l⟩ p3
 else if isB ts p kSpawn=true then (wordD ts (p+1)).bind fun n p1=>(wantD ts kAs p1).bind fun _ p2=>(wordD ts p2).bind fun v p3=>.ok ⟨2,[],n,v,[]⟩ p3
 else if isB ts p kReply=true then (argsD ts (p+1)).bind fun l p1=>.ok ⟨3,[],[],[],l⟩ p1
 else if isB ts p kBecome=true then (wordD ts (p+1)).bind fun n p1=>.ok ⟨4,[],n,[],[]⟩ p1
 else .bad p 80
def actsD(ts:List Tk):Nat→List Ac→Nat→DR (List Ac)
 |0,_,p=>.bad p 80
 |f+1,l,p=>if isB ts p [125]=true then .ok l (p+1)else (actD ts p).bind fun a p1=>(wantD ts [59] p1).bind fun _ p2=>actsD ts f (l++[a]) p2
def bodyD(ts:List Tk)(p:Nat):DR (List Ac):=(wantD ts [123] p).bind fun _ p1=>actsD ts (ts.length+1) [] p1
def partsD(ts:List Tk):Nat→List Pt→Nat→DR (List Pt)
 |0,_,p=>.bad p 80
 |f+1,l,p=>if isB ts p [38]=true then (partD ts (p+1)).bind fun x q=>partsD ts f (l++[x]) q else .ok l p
def guardD(ts:List Tk)(p:Nat):DR (List Nd):=if isB ts p kWhen=true then exprD ts (p+1)else .ok [] p
def chordD(ts:List Tk)(p:Nat):DR Ch:=
 (wantD ts kChord p).bind fun _ p1=>(wordD ts p1).bind fun n p2=>(wantD ts [58] p2).bind fun _ p3=>(partD ts p3).bind fun x p4=>(partsD ts (ts.length+1) [x] p4).bind fun l p5=>(guardD ts p5).bind fun g p6=>(bodyD ts p6).bind fun b p7=>.ok ⟨n,l,g,b⟩ p7
def chordsD(ts:List Tk):Nat→List Ch→Nat→DR (List Ch)
 |0,_,p=>.bad p 80
 |f+1,l,p=>if isB ts p [125]=true then .ok l (p+1)else (chordD ts p).bind fun c q=>chordsD ts f (l++[c]) q
def kindD2(ts:List Tk)(p:Nat):DR Kd:=
 (wantD ts kKind p).bind fun _ p1=>(wordD ts p1).bind fun n p2=>(wantD ts [123] p2).bind fun _ p3=>(chordsD ts (ts.length+1) [] p3).bind fun l p4=>.ok ⟨n,l⟩ p4
def progD(ts:List Tk):Nat→Pg→Nat→DR Pg
 |0,_,p=>.bad p 80
 |f+1,g,p=>if p<ts.length then (if isB ts p kTag=true then (tagD ts (p+1)).bind fun t q=>progD ts f ⟨g.tags++[t],g.kinds⟩ q else (kindD2 ts p).bind fun k q=>progD ts f ⟨g.tags,g.kinds++[k]⟩ q)else .ok g p
def DR.adv{α:Type}(ts:List Tk)(p k:Nat):DR α→Prop
 |.ok _ q=>p+k≤q∧q≤ts.length
 |.bad q e=>q≤ts.length∧e≠0
theorem DR.adv_bind{α β:Type}{ts:List Tk}{p k:Nat}{r:DR α}{f:α→Nat→DR β}{j:Nat}(h:r.adv ts p j)(hf:∀ x q,r=.ok x q→p+j≤q→q≤ts.length→(f x q).adv ts p k):(r.bind f).adv ts p k:=by
 cases r with
 |ok x q=>exact hf x q rfl h.1 h.2
 |bad q e=>exact h
theorem DR.adv.le{α:Type}{ts:List Tk}{p p' k k':Nat}{r:DR α}(h:r.adv ts p k)(hk:p'+k'≤p+k):r.adv ts p' k':=by
 cases r with
 |ok x q=>exact⟨Nat.le_trans hk h.1,h.2⟩
 |bad q e=>exact h
theorem isB_lt{ts:List Tk}{p:Nat}{s:List UInt8}(h:isB ts p s=true):p<ts.length:=by
 unfold isB at h
 cases e:ts[p]? with
 |none=>rw[e]at h;cases h
 |some t=>exact (List.getElem?_eq_some_iff.1 e).1
theorem want_adv{ts:List Tk}{p:Nat}(hp:p≤ts.length)(s:List UInt8):(wantD ts s p).adv ts p 1:=by
 unfold wantD
 split
 ·rename_i h;exact⟨Nat.le_refl _,isB_lt h⟩
 ·exact⟨hp,by decide⟩
theorem word_adv{ts:List Tk}{p:Nat}(hp:p≤ts.length):(wordD ts p).adv ts p 1:=by
 unfold wordD
 split
 ·rename_i t e
  have:=(List.getElem?_eq_some_iff.1 e).1
  split
  ·exact⟨Nat.le_refl _,this⟩
  ·exact⟨hp,by decide⟩
 ·exact⟨hp,by decide⟩
theorem kind_adv{ts:List Tk}{p:Nat}(hp:p≤ts.length):(kindD ts p).adv ts p 1:=by
 unfold kindD
 split
 ·rename_i t e
  have:=(List.getElem?_eq_some_iff.1 e).1
  split
  ·exact⟨Nat.le_refl _,this⟩
  ·exact⟨hp,by decide⟩
 ·exact⟨hp,by decide⟩
theorem var_adv{ts:List Tk}{p:Nat}(hp:p≤ts.length):(varD ts p).adv ts p 1:=by
 unfold varD
 split
 ·rename_i h;exact⟨Nat.le_refl _,isB_lt h⟩
 ·exact word_adv hp
theorem pr_badq(ts:List Tk):∀ (f:Nat) (m:Md) (p q:Nat),p≤ts.length→pr ts f m p=.bad q→q≤ts.length:=by
 intro f
 induction f with
 |zero=>intro m p q hp h;cases m<;>(cases h;exact hp)
 |succ f ih=>
  intro m p q hp h
  have adv:=pr_adv ts f
  cases m with
  |bin n=>
   rw[pr]at h
   split at h
   ·exact ih _ _ _ hp h
   ·split at h
    ·rename_i e;cases h;exact ih _ _ _ hp e
    ·rename_i e;exact ih _ _ _ (adv _ _ _ _ hp e).2 h
  |lp n a=>
   rw[pr]at h
   split at h
   ·cases h
   ·rename_i hk
    have hlt:=opK_lt (fun e=>hk (.inl e))
    split at h
    ·rename_i e;cases h;exact ih _ _ _ (by omega) e
    ·rename_i e
     split at h
     ·cases h
     ·exact ih _ _ _ (adv _ _ _ _ (by omega) e).2 h
  |un=>
   rw[pr]at h
   split at h
   ·rename_i hm
    have hlt:p<ts.length:=hm.elim mkA_eq mkA_eq
    split at h
    ·rename_i e;cases h;exact ih _ _ _ (by omega) e
    ·cases h
   ·exact ih _ _ _ hp h
  |fs=>
   rw[pr]at h
   split at h
   ·rename_i hm
    have hlt:p<ts.length:=mkA_eq hm
    split at h
    ·rename_i e;cases h;exact ih _ _ _ (by omega) e
    ·rename_i e
     split at h
     ·cases h
     ·cases h;exact (adv _ _ _ _ (by omega) e).2
   ·split at h
    ·cases h;exact hp
    ·rename_i t e
     have hlt:p<ts.length:=(List.getElem?_eq_some_iff.1 e).1
     repeat' split at h
     all_goals first|(cases h;done)|(cases h;exact hp)|exact ih _ _ _ (by omega) h
  |nm s=>
   rw[pr]at h
   split at h
   ·cases h
   split at h
   ·cases h
   split at h
   ·cases h
   split at h
   ·cases h;exact hp
   rename_i hm
   have hlt:p<ts.length:=mkA_eq (Decidable.not_not.1 hm)
   split at h
   ·rename_i e;cases h;exact ih _ _ _ (by omega) e
   rename_i e
   have h1:=(adv _ _ _ _ (by omega) e).2
   split at h
   ·split at h
    ·cases h;exact h1
    rename_i hm2
    have hlt2:=mkA_eq (Decidable.not_not.1 hm2)
    split at h
    ·rename_i e2;cases h;exact ih _ _ _ (by omega) e2
    ·rename_i e2
     split at h
     ·cases h
     ·cases h;exact (adv _ _ _ _ (by omega) e2).2
   ·split at h
    ·cases h
    ·cases h;exact h1
theorem readR_adv{ts:List Tk}{p:Nat}(hp:p≤ts.length):((readR ts p).2.2=0→(p:Int)<(readR ts p).2.1)∧0≤(readR ts p).2.1∧(readR ts p).2.1≤ts.length:=by
 unfold readR
 rw[if_neg (by omega),Int.toNat_natCast]
 have hc:=cutN_le hp
 have hcl:(ts.take (cutN ts p)).length=cutN ts p:=by rw[List.length_take];omega
 have hpc:p≤(ts.take (cutN ts p)).length:=by rw[hcl];unfold cutN;omega
 cases e:readP (ts.take (cutN ts p)) p with
 |bad q=>
  have:=pr_badq _ _ _ _ _ hpc e
  dsimp only
  exact⟨fun h=>absurd h (by decide),by omega,by omega⟩
 |ok t q=>
  obtain⟨⟨h1,_⟩,h2⟩:=pr_adv _ _ _ _ _ _ hpc e
  dsimp only
  split
  ·dsimp only
   exact⟨fun _=>by omega,by omega,by omega⟩
  ·rename_i hk
   dsimp only
   exact⟨fun h=>absurd h hk,by omega,by omega⟩
theorem expr_adv{ts:List Tk}{p:Nat}(hp:p≤ts.length):(exprD ts p).adv ts p 1:=by
 obtain⟨h1,h2,h3⟩:=readR_adv hp
 unfold exprD
 split
 ·rename_i h
  have:=h1 h
  exact⟨by omega,by omega⟩
 ·rename_i h
  exact⟨by omega,h⟩
theorem more_adv{α:Type}{ts:List Tk}{I:Nat→DR α}(hI:∀ p,p≤ts.length→(I p).adv ts p 1):∀ (f:Nat) (l:List α) (p:Nat),p≤ts.length→(moreD ts I f l p).adv ts p 1
 |0,l,p,hp=>⟨hp,by decide⟩
 |f+1,l,p,hp=>by
  rw[moreD]
  split
  ·rename_i h;exact⟨Nat.le_refl _,isB_lt h⟩
  split
  ·rename_i h
   have:=isB_lt h
   exact DR.adv_bind (j:=2) ((hI (p+1) this).le (by omega)) fun x q _ h1 h2=>(more_adv hI f _ q h2).le (by omega)
  ·exact⟨hp,by decide⟩
theorem list_adv{α:Type}{ts:List Tk}{I:Nat→DR α}(hI:∀ p,p≤ts.length→(I p).adv ts p 1){p:Nat}(hp:p≤ts.length):(listD ts I p).adv ts p 1:=by
 unfold listD
 refine DR.adv_bind (want_adv hp _) fun _ p1 _ h1 h2=>?_
 split
 ·rename_i h;exact⟨by omega,isB_lt h⟩
 ·exact DR.adv_bind (j:=2) ((hI p1 h2).le (by omega)) fun x q _ h3 h4=>(more_adv hI _ _ q h4).le (by omega)
theorem args_adv{ts:List Tk}{p:Nat}(hp:p≤ts.length):(argsD ts p).adv ts p 1:=list_adv (fun _=>expr_adv) hp
theorem tag_adv{ts:List Tk}{p:Nat}(hp:p≤ts.length):(tagD ts p).adv ts p 1:=by
 unfold tagD
 refine DR.adv_bind (word_adv hp) fun n p1 _ h1 h2=>?_
 refine DR.adv_bind (j:=2) ((list_adv (fun _=>kind_adv) h2).le (by omega)) fun n p2 _ h3 h4=>?_
 exact DR.adv_bind (j:=2) ((want_adv h4 _).le (by omega)) fun n p3 _ h5 h6=>⟨by omega,h6⟩
theorem part_adv{ts:List Tk}{p:Nat}(hp:p≤ts.length):(partD ts p).adv ts p 1:=by
 unfold partD
 refine DR.adv_bind (word_adv hp) fun n p1 _ h1 h2=>?_
 exact DR.adv_bind (j:=2) ((list_adv (fun _=>var_adv) h2).le (by omega)) fun n p2 _ h3 h4=>⟨by omega,h4⟩
theorem act_adv{ts:List Tk}{p:Nat}(hp:p≤ts.length):(actD ts p).adv ts p 1:=by
 unfold actD
 split
 ·rename_i h
  have hl:=isB_lt h
  refine DR.adv_bind (j:=2) ((expr_adv hl).le (by omega)) fun n p1 _ h1 h2=>?_
  refine DR.adv_bind (j:=2) ((word_adv h2).le (by omega)) fun n p1 _ h1 h2=>?_
  exact DR.adv_bind (j:=2) ((args_adv h2).le (by omega)) fun n p1 _ h1 h2=>⟨by omega,h2⟩
 split
 ·rename_i h
  have hl:=isB_lt h
  refine DR.adv_bind (j:=2) ((word_adv hl).le (by omega)) fun n p1 _ h1 h2=>?_
  refine DR.adv_bind (j:=2) ((want_adv h2 _).le (by omega)) fun n p1 _ h1 h2=>?_
  exact DR.adv_bind (j:=2) ((word_adv h2).le (by omega)) fun n p1 _ h1 h2=>⟨by omega,h2⟩
 split
 ·rename_i h
  have hl:=isB_lt h
  exact DR.adv_bind (j:=2) ((args_adv hl).le (by omega)) fun n p1 _ h1 h2=>⟨by omega,h2⟩
 split
 ·rename_i h
  have hl:=isB_lt h
  exact DR.adv_bind (j:=2) ((word_adv hl).le (by omega)) fun n p1 _ h1 h2=>⟨by omega,h2⟩
 ·exact⟨hp,by decide⟩
theorem acts_adv{ts:List Tk}:∀ (f:Nat) (l:List Ac) (p:Nat),p≤ts.length→(actsD ts f l p).adv ts p 1
 |0,l,p,hp=>⟨hp,by decide⟩
 |f+1,l,p,hp=>by
  rw[actsD]
  split
  ·rename_i h;exact⟨Nat.le_refl _,isB_lt h⟩
  ·refine DR.adv_bind (act_adv hp) fun a p1 _ h1 h2=>?_
   refine DR.adv_bind (j:=2) ((want_adv h2 _).le (by omega)) fun _ p2 _ h3 h4=>?_
   exact (acts_adv f _ p2 h4).le (by omega)
theorem body_adv{ts:List Tk}{p:Nat}(hp:p≤ts.length):(bodyD ts p).adv ts p 1:=by
 unfold bodyD
 exact DR.adv_bind (want_adv hp _) fun _ p1 _ h1 h2=>(acts_adv _ _ p1 h2).le (by omega)
theorem parts_adv{ts:List Tk}:∀ (f:Nat) (l:List Pt) (p:Nat),p≤ts.length→(partsD ts f l p).adv ts p 0
 |0,l,p,hp=>⟨hp,by decide⟩
 |f+1,l,p,hp=>by
  rw[partsD]
  split
  ·rename_i h
   exact DR.adv_bind (j:=2) ((part_adv (isB_lt h)).le (by omega)) fun x q _ h1 h2=>(parts_adv f _ q h2).le (by omega)
  ·exact⟨Nat.le_refl _,hp⟩
theorem guard_adv{ts:List Tk}{p:Nat}(hp:p≤ts.length):(guardD ts p).adv ts p 0:=by
 unfold guardD
 split
 ·rename_i h;exact (expr_adv (isB_lt h)).le (by omega)
 ·exact⟨Nat.le_refl _,hp⟩
theorem chord_adv{ts:List Tk}{p:Nat}(hp:p≤ts.length):(chordD ts p).adv ts p 1:=by
 unfold chordD
 refine DR.adv_bind (want_adv hp _) fun _ p1 _ h1 h2=>?_
 refine DR.adv_bind (j:=2) ((word_adv h2).le (by omega)) fun n p2 _ h3 h4=>?_
 refine DR.adv_bind (j:=2) ((want_adv h4 _).le (by omega)) fun _ p3 _ h5 h6=>?_
 refine DR.adv_bind (j:=2) ((part_adv h6).le (by omega)) fun _ p4 _ h7 h8=>?_
 refine DR.adv_bind (j:=2) ((parts_adv _ _ _ h8).le (by omega)) fun _ p5 _ h9 h10=>?_
 refine DR.adv_bind (j:=2) ((guard_adv h10).le (by omega)) fun _ p6 _ h11 h12=>?_
 exact DR.adv_bind (j:=2) ((body_adv h12).le (by omega)) fun _ p7 _ h13 h14=>⟨by omega,h14⟩
theorem chords_adv{ts:List Tk}:∀ (f:Nat) (l:List Ch) (p:Nat),p≤ts.length→(chordsD ts f l p).adv ts p 1
 |0,l,p,hp=>⟨hp,by decide⟩
 |f+1,l,p,hp=>by
  rw[chordsD]
  split
  ·rename_i h;exact⟨Nat.le_refl _,isB_lt h⟩
  ·exact DR.adv_bind (chord_adv hp) fun a p1 _ h1 h2=>(chords_adv f _ p1 h2).le (by omega)
theorem kind2_adv{ts:List Tk}{p:Nat}(hp:p≤ts.length):(kindD2 ts p).adv ts p 1:=by
 unfold kindD2
 refine DR.adv_bind (want_adv hp _) fun _ p1 _ h1 h2=>?_
 refine DR.adv_bind (j:=2) ((word_adv h2).le (by omega)) fun n p2 _ h3 h4=>?_
 refine DR.adv_bind (j:=2) ((want_adv h4 _).le (by omega)) fun _ p3 _ h5 h6=>?_
 exact DR.adv_bind (j:=2) ((chords_adv _ _ _ h6).le (by omega)) fun _ p4 _ h7 h8=>⟨by omega,h8⟩
theorem prog_adv{ts:List Tk}:∀ (f:Nat) (g:Pg) (p:Nat),p≤ts.length→(progD ts f g p).adv ts p 0
 |0,l,p,hp=>⟨hp,by decide⟩
 |f+1,l,p,hp=>by
  rw[progD]
  split
  ·split
   ·rename_i h
    exact DR.adv_bind (j:=2) ((tag_adv (isB_lt h)).le (by omega)) fun a p1 _ h1 h2=>(prog_adv f _ p1 h2).le (by omega)
   ·exact DR.adv_bind (kind2_adv hp) fun a p1 _ h1 h2=>(prog_adv f _ p1 h2).le (by omega)
  ·exact⟨by omega,hp⟩
def Rd(S:Nat→Prop)(h:List ABlk)(y x:AV):Prop:=∀ h',Fr S h h'→fz Tryz.prog h' false y x
def RdL(S:Nat→Prop)(h:List ABlk)(ys xs:List AV):Prop:=∀ h',Fr S h h'→fzL Tryz.prog h' false ys xs
def Old(n:Nat)(k:Nat):Prop:=k<n
theorem Rd.fz{S:Nat→Prop}{h:List ABlk}{y x:AV}(a:Rd S h y x):Go.Ev.fz Tryz.prog h false y x:=a h (Fr.refl _ _)
theorem RdL.fz{S:Nat→Prop}{h:List ABlk}{y x:List AV}(a:RdL S h y x):fzL Tryz.prog h false y x:=a h (Fr.refl _ _)
theorem Fr.up{S S' S1:Nat→Prop}{m:Nat}{h2 h3 h4:List ABlk}(f:Fr S1 h2 h3)(h1:∀ k,S1 k→k<h2.length→S k)(h1':∀ k,S' k→k<h2.length→S k)(g:Fr S' h3 h4):Fr S h2 h4:=
 ⟨Nat.le_trans f.1 g.1,fun k hk hn=>(g.2 k (Nat.lt_of_lt_of_le hk f.1) fun e=>hn (h1' k e hk)).trans (f.2 k hk fun e=>hn (h1 k e hk))⟩
theorem Rd.up{S S' S1:Nat→Prop}{h2 h3:List ABlk}{y x:AV}(a:Rd S h2 y x)(f:Fr S1 h2 h3)(h1:∀ k,S1 k→k<h2.length→S k)(h1':∀ k,S' k→k<h2.length→S k):Rd S' h3 y x:=
 fun h4 g=>a h4 (Fr.up (m:=0) f h1 h1' g)
theorem RdL.up{S S' S1:Nat→Prop}{h2 h3:List ABlk}{y x:List AV}(a:RdL S h2 y x)(f:Fr S1 h2 h3)(h1:∀ k,S1 k→k<h2.length→S k)(h1':∀ k,S' k→k<h2.length→S k):RdL S' h3 y x:=
 fun h4 g=>a h4 (Fr.up (m:=0) f h1 h1' g)
theorem RdL.nil{S:Nat→Prop}{h:List ABlk}:RdL S h [] []:=fun _ _=>by simp only[fzL]
theorem RdL.cons{S:Nat→Prop}{h:List ABlk}{y x:AV}{ys xs:List AV}(a:Rd S h y x)(b:RdL S h ys xs):RdL S h (y::ys) (x::xs):=fun h' f=>by
 simp only[fzL]
 exact⟨_,_,rfl,a h' f,b h' f⟩
theorem fzL_append{P:Program}{H:List ABlk}{b:Bool}:∀ {ys xs ys' xs':List AV},fzL P H b ys xs→fzL P H b ys' xs'→fzL P H b (ys++ys') (xs++xs')
 |[],xs,ys',xs',h1,h2=>by simp only[fzL]at h1;subst h1;exact h2
 |y::ys,xs,ys',xs',h1,h2=>by
  simp only[fzL]at h1
  obtain⟨x,xs1,rfl,e1,e2⟩:=h1
  simp only[List.cons_append,fzL]
  exact⟨_,_,rfl,e1,fzL_append e2 h2⟩
theorem RdL.append{S:Nat→Prop}{h:List ABlk}{ys xs ys' xs':List AV}(a:RdL S h ys xs)(b:RdL S h ys' xs'):RdL S h (ys++ys') (xs++xs'):=fun h' f=>fzL_append (a h' f) (b h' f)
theorem Rd.val{S:Nat→Prop}{h:List ABlk}(v:Value):Rd S h (.v v) (.v v):=fun _ _=>by simp only[Go.Ev.fz]
theorem Rd.str{S:Nat→Prop}{h:List ABlk}(s:List UInt8):Rd S h (strC s) (strC s):=Rd.val _
theorem Rd.int{S:Nat→Prop}{h:List ABlk}(k:Int):Rd S h (intC k) (intC k):=Rd.val _
theorem Rd.sl{S:Nat→Prop}{h:List ABlk}(b:Bool)(n m:Nat)(cs:List AV):Rd S h (.sl b n m cs) (.sl b n m cs):=fun _ _=>by simp only[Go.Ev.fz,true_or]
theorem Rd.nodes{S:Nat→Prop}{h:List ABlk}(l:List Nd):Rd S h (nodesA l) (nodesA l):=by
 cases l with
 |nil=>exact Rd.val _
 |cons x l=>exact Rd.sl _ _ _ _
theorem Rd.agg{S:Nat→Prop}{h:List ABlk}{ys xs:List AV}(a:RdL S h ys xs):Rd S h (.agg ys) (.agg xs):=fun h' f=>by
 simp only[Go.Ev.fz]
 exact⟨_,rfl,a h' f⟩
def GL(n0:Nat)(t:TypeId)(sz:Nat)(h:List ABlk)(N:AV)(n:Nat)(ys:List AV):Prop:=
 (N=.v (.slice none 0 0)∧n=0∧ys=[])∨∃ j ver xs,N=.own j ver n∧0<n∧n0≤j∧h[j]?=some ⟨ver,t,xs⟩∧xs.length=n * sz∧RdL (fun k=>k<n0∨k=j) h ys xs
theorem GL.nil{n0:Nat}{t:TypeId}{sz:Nat}{h:List ABlk}:GL n0 t sz h (.v (.slice none 0 0)) 0 []:=.inl ⟨rfl,rfl,rfl⟩
theorem GL.fr{n0:Nat}{t:TypeId}{sz:Nat}{h h':List ABlk}{N:AV}{n:Nat}{ys:List AV}{S:Nat→Prop}(a:GL n0 t sz h N n ys)(f:Fr S h h')(hS:∀ k,S k→k<h.length→k<n0∧¬nbk N k):GL n0 t sz h' N n ys:=by
 rcases a with a|⟨j,ver,xs,rfl,hn,hj0,hj,hl,hr⟩
 ·exact .inl a
 ·have hjl:=(List.getElem?_eq_some_iff.1 hj).1
  exact .inr ⟨j,ver,xs,rfl,hn,hj0,f.at hj (fun e=>(hS j e hjl).2 rfl),hl,hr.up f (fun k e hk=>.inl (hS k e hk).1) (fun k e _=>e)⟩
theorem GL.lt{n0:Nat}{t:TypeId}{sz:Nat}{h:List ABlk}{N:AV}{n:Nat}{ys:List AV}(a:GL n0 t sz h N n ys){k:Nat}(hk:nbk N k):n0≤k∧k<h.length:=by
 rcases a with⟨rfl,_⟩|⟨j,ver,xs,rfl,hn,hj0,hj,hl,hr⟩
 ·exact hk.elim
 ·have hk':k=j:=hk
  subst hk'
  exact⟨hj0,(List.getElem?_eq_some_iff.1 hj).1⟩
theorem GL.fr0{n0:Nat}{t:TypeId}{sz:Nat}{h h':List ABlk}{N:AV}{n:Nat}{ys:List AV}{S:Nat→Prop}(a:GL n0 t sz h N n ys)(f:Fr S h h')(hS:∀ k,S k→k<n0):GL n0 t sz h' N n ys:=
 a.fr f fun k e _=>⟨hS k e,fun hk=>by have:=(a.lt hk).1;have:=hS k e;omega⟩
theorem GL.rd{n0:Nat}{t:TypeId}{sz:Nat}{h:List ABlk}{N:AV}{n:Nat}{ys:List AV}(a:GL n0 t sz h N n ys):Rd (Old n0) h (slA n ys) N:=by
 rcases a with⟨rfl,rfl,rfl⟩|⟨j,ver,xs,rfl,hn,hj0,hj,hl,hr⟩
 ·exact Rd.val _
 ·intro h' f
  obtain⟨n,rfl⟩:∃ m,n=m+1:=⟨n-1,by omega⟩
  have hj':=f.at hj (fun e=>by have:j<n0:=e;omega)
  simp only[slA,Go.Ev.fz]
  exact .inr ⟨trivial,j,_,xs,rfl,hj',Nat.le_refl _,.inl trivial,List.prefix_rfl,hr h' (f.mono fun k e=>.inl e)⟩
theorem GL.push{n0:Nat}{t:TypeId}{sz:Nat}{h h':List ABlk}{N:AV}{n:Nat}{ys es ecs:List AV}{j' ver':Nat}{xs:List AV}(a:GL n0 t sz h N n ys)
  (hx:∀ j ver,N=.own j ver n→j'=j∧h[j]?=some ⟨ver,t,xs⟩) (hx0:N=.v (.slice none 0 0)→h.length≤j'∧xs=[]) (hn0:n0≤h.length)
  (f:Fr (fun k=>k<n0∨nbk N k) h h') (hj:h'[j']?=some ⟨ver',t,xs++es⟩) (hl:es.length=sz) (he:RdL (fun k=>k<n0∨nbk N k) h ecs es):GL n0 t sz h' (.own j' ver' (n+1)) (n+1) (ys++ecs):=by
 rcases a with⟨rfl,rfl,rfl⟩|⟨j,ver,xs1,rfl,hn,hj0,hj1,hl1,hr⟩
 ·obtain⟨h1,rfl⟩:=hx0 rfl
  refine .inr ⟨j',ver',_,rfl,Nat.succ_pos _,by omega,hj,by simp[hl],?_⟩
  exact he.up f (fun k e _=>e) fun k e hk=>e.elim .inl fun e=>by omega
 ·obtain⟨rfl,h2⟩:=hx j ver rfl
  rw[hj1]at h2
  cases h2
  refine .inr ⟨j',ver',_,rfl,Nat.succ_pos _,hj0,hj,by rw[List.length_append,hl1,hl,Nat.succ_mul],?_⟩
  have f':Fr (fun k=>k<n0∨k=j') h h':=f
  exact (hr.up f' (fun k e _=>e) (fun k e _=>e)).append (he.up f' (fun k e _=>e) (fun k e _=>e))
variable {γ:List (Nat×AV)} {ts:List Tk} {L:AV}
theorem tyD:aggT Tryz.prog 127=some false∧
  aggT Tryz.prog 128=some false∧
  aggT Tryz.prog 130=some true∧
  aggT Tryz.prog 133=some false∧
  aggT Tryz.prog 135=some true∧
  aggT Tryz.prog 137=some true∧
  aggT Tryz.prog 26=some false∧
  aggT Tryz.prog 3=some false∧
  aggT Tryz.prog 41=some true∧
  aggT Tryz.prog 48=some false∧
  aggT Tryz.prog 53=some true∧
  aggT Tryz.prog 56=some false∧
  aggT Tryz.prog 59=some true∧
  aggT Tryz.prog 68=some false∧
  aggT Tryz.prog 69=some false∧
  aggT Tryz.prog 71=some true∧
  aggT Tryz.prog 78=some false∧
  aggT Tryz.prog 88=some false∧
  aggT Tryz.prog 9=some false∧
  aggT Tryz.prog 90=some true∧
  appT Tryz.prog 128 128=some (9,1,16)∧
  appT Tryz.prog 133 133=some (41,1,24)∧
  appT Tryz.prog 56 56=some (130,2,40)∧
  appT Tryz.prog 57 57=some (135,5,88)∧
  appT Tryz.prog 68 68=some (137,2,40)∧
  appT Tryz.prog 69 69=some (90,2,40)∧
  appT Tryz.prog 78 78=some (3,1,8)∧
  appT Tryz.prog 88 88=some (59,4,88)∧
  elemT Tryz.prog 37=some 5∧
  elemT Tryz.prog 48=some 53∧
  fieldT Tryz.prog 130 1=some (1,128)∧
  fieldT Tryz.prog 135 2=some (2,9)∧
  fieldT Tryz.prog 135 3=some (3,9)∧
  fieldT Tryz.prog 135 4=some (4,133)∧
  fieldT Tryz.prog 137 1=some (1,78)∧
  fieldT Tryz.prog 199 0=some (0,48)∧
  fieldT Tryz.prog 199 1=some (1,3)∧
  fieldT Tryz.prog 199 2=some (2,3)∧
  fieldT Tryz.prog 201 0=some (0,3)∧
  fieldT Tryz.prog 201 1=some (1,26)∧
  fieldT Tryz.prog 53 0=some (0,3)∧
  fieldT Tryz.prog 53 1=some (1,9)∧
  fieldT Tryz.prog 53 4=some (4,3)∧
  fieldT Tryz.prog 59 1=some (1,56)∧
  fieldT Tryz.prog 59 2=some (2,41)∧
  fieldT Tryz.prog 59 3=some (3,57)∧
  fieldT Tryz.prog 71 0=some (0,68)∧
  fieldT Tryz.prog 71 1=some (1,69)∧
  fieldT Tryz.prog 90 1=some (1,88)∧
  ifcT Tryz.prog 20=some true∧
  ifcT Tryz.prog 201=some false∧
  mkT Tryz.prog 128=some (9,1,[.v (.string ⟨#[]⟩)])∧
  mkT Tryz.prog 133=some (41,1,[.v (.slice none 0 0)])∧
  mkT Tryz.prog 56=some (130,2,[.v (.string ⟨#[]⟩),.v (.slice none 0 0)])∧
  mkT Tryz.prog 57=some (135,5,[.v (.int .i64 0),.v (.slice none 0 0),.v (.string ⟨#[]⟩),.v (.string ⟨#[]⟩),.v (.slice none 0 0)])∧
  mkT Tryz.prog 68=some (137,2,[.v (.string ⟨#[]⟩),.v (.slice none 0 0)])∧
  mkT Tryz.prog 69=some (90,2,[.v (.string ⟨#[]⟩),.v (.slice none 0 0)])∧
  mkT Tryz.prog 78=some (3,1,[.v (.int .i64 0)])∧
  mkT Tryz.prog 88=some (59,4,[.v (.string ⟨#[]⟩),.v (.slice none 0 0),.v (.slice none 0 0),.v (.slice none 0 0)])∧
  placesT Tryz.prog 130=some [(0,1),(1,1)]∧
  placesT Tryz.prog 135=some [(0,1),(1,1),(2,1),(3,1),(4,1)]∧
  placesT Tryz.prog 137=some [(0,1),(1,1)]∧
  placesT Tryz.prog 199=some [(0,1),(1,1),(2,1)]∧
  placesT Tryz.prog 201=some [(0,1),(1,1)]∧
  placesT Tryz.prog 59=some [(0,1),(1,1),(2,1),(3,1)]∧
  placesT Tryz.prog 90=some [(0,1),(1,1)]∧
  sizeT Tryz.prog 128=some 1∧
  sizeT Tryz.prog 130=some 2∧
  sizeT Tryz.prog 133=some 1∧
  sizeT Tryz.prog 135=some 5∧
  sizeT Tryz.prog 137=some 2∧
  sizeT Tryz.prog 201=some 2∧
  sizeT Tryz.prog 26=some 1∧
  sizeT Tryz.prog 3=some 1∧
  sizeT Tryz.prog 41=some 1∧
  sizeT Tryz.prog 48=some 1∧
  sizeT Tryz.prog 5=some 1∧
  sizeT Tryz.prog 53=some 6∧
  sizeT Tryz.prog 56=some 1∧
  sizeT Tryz.prog 57=some 1∧
  sizeT Tryz.prog 59=some 4∧
  sizeT Tryz.prog 68=some 1∧
  sizeT Tryz.prog 69=some 1∧
  sizeT Tryz.prog 71=some 2∧
  sizeT Tryz.prog 78=some 1∧
  sizeT Tryz.prog 88=some 1∧
  sizeT Tryz.prog 9=some 1∧
  sizeT Tryz.prog 90=some 2∧
  zcT Tryz.prog 130=some [.v (.string ⟨#[]⟩),.v (.slice none 0 0)]∧
  zcT Tryz.prog 133=some [.v (.slice none 0 0)]∧
  zcT Tryz.prog 135=some [.v (.int .i64 0),.v (.slice none 0 0),.v (.string ⟨#[]⟩),.v (.string ⟨#[]⟩),.v (.slice none 0 0)]∧
  zcT Tryz.prog 137=some [.v (.string ⟨#[]⟩),.v (.slice none 0 0)]∧
  zcT Tryz.prog 199=some [.v (.slice none 0 0),.v (.int .i64 0),.v (.int .i64 0)]∧
  zcT Tryz.prog 201=some [.v (.int .i64 0),.v (.int .i64 0)]∧
  zcT Tryz.prog 26=some [.v (.int .i64 0)]∧
  zcT Tryz.prog 3=some [.v (.int .i64 0)]∧
  zcT Tryz.prog 41=some [.v (.slice none 0 0)]∧
  zcT Tryz.prog 53=some [.v (.int .i64 0),.v (.string ⟨#[]⟩),.v (.int .i64 0),.v (.float .f64 0),.v (.int .i64 0),.v (.int .i64 0)]∧
  zcT Tryz.prog 59=some [.v (.string ⟨#[]⟩),.v (.slice none 0 0),.v (.slice none 0 0),.v (.slice none 0 0)]∧
  zcT Tryz.prog 71=some [.v (.slice none 0 0),.v (.slice none 0 0)]∧
  zcT Tryz.prog 90=some [.v (.string ⟨#[]⟩),.v (.slice none 0 0)]:=
 ⟨by kernel_rfl,by kernel_rfl,by kernel_rfl,by kernel_rfl,by kernel_rfl,by kernel_rfl,by kernel_rfl,by kernel_rfl,by kernel_rfl,by kernel_rfl,by kernel_rfl,by kernel_rfl,by kernel_rfl,by kernel_rfl,by kernel_rfl,by kernel_rfl,by kernel_rfl,by kernel_rfl,by kernel_rfl,by kernel_rfl,by kernel_rfl,by kernel_rfl,by kernel_rfl,by kernel_rfl,by kernel_rfl,by kernel_rfl,by kernel_rfl,by kernel_rfl,by kernel_rfl,by kernel_rfl,by kernel_rfl,by kernel_rfl,by kernel_rfl,by kernel_rfl,by kernel_rfl,by kernel_rfl,by kernel_rfl,by kernel_rfl,by kernel_rfl,by kernel_rfl,by kernel_rfl,by kernel_rfl,by kernel_rfl,by kernel_rfl,by kernel_rfl,by kernel_rfl,by kernel_rfl,by kernel_rfl,by kernel_rfl,by kernel_rfl,by kernel_rfl,by kernel_rfl,by kernel_rfl,by kernel_rfl,by kernel_rfl,by kernel_rfl,by kernel_rfl,by kernel_rfl,by kernel_rfl,by kernel_rfl,by kernel_rfl,by kernel_rfl,by kernel_rfl,by kernel_rfl,by kernel_rfl,by kernel_rfl,by kernel_rfl,by kernel_rfl,by kernel_rfl,by kernel_rfl,by kernel_rfl,by kernel_rfl,by kernel_rfl,by kernel_rfl,by kernel_rfl,by kernel_rfl,by kernel_rfl,by kernel_rfl,by kernel_rfl,by kernel_rfl,by kernel_rfl,by kernel_rfl,by kernel_rfl,by kernel_rfl,by kernel_rfl,by kernel_rfl,by kernel_rfl,by kernel_rfl,by kernel_rfl,by kernel_rfl,by kernel_rfl,by kernel_rfl,by kernel_rfl,by kernel_rfl,by kernel_rfl,by kernel_rfl,by kernel_rfl,by kernel_rfl,by kernel_rfl,by kernel_rfl,by kernel_rfl⟩
structure EnvD(γ:List (Nat×AV))(L:AV)(ts:List Tk):Prop where
 gl:Gl γ
 glw:GlW γ
 l:LAs L ts
 ok:∀ t∈ts,okTk t
 n:ts.length≤2000000
theorem EnvD.len(E:EnvD γ L ts)(s:List ABlk):lenS Tryz.prog 48 s L=some (.v (.int .i64 ts.length)):=by
 have e24:elemT Tryz.prog 48=some 53:=by kernel_rfl
 rcases E.l with⟨rfl,rfl⟩|⟨b,m,cs,rfl,_⟩
 ·simp only[lenS,e24];rfl
 ·simp only[lenS,e24];rfl
theorem EnvD.sl(E:EnvD γ L ts){p:Nat}(hp:p<ts.length):∃ b m cs,L=.sl b ts.length m cs∧tkCells ts<+:cs:=by
 rcases E.l with⟨rfl,rfl⟩|⟨b,m,cs,h,h1,_⟩
 ·exact absurd hp (by simp)
 ·exact⟨b,m,cs,h,h1⟩
def RD(h:List ABlk)(i:Nat)(L:AV)(p:Nat)(n:Nat):Prop:=h[i]?=some ⟨0,199,[L,.v (.int .i64 (p:Int)),.v (.int .i64 (n:Int))]⟩
theorem RD.lt{h:List ABlk}{i:Nat}{L:AV}{p n:Nat}(a:RD h i L p n):i<h.length:=(List.getElem?_eq_some_iff.1 a).1
theorem RD.fr{S:Nat→Prop}{h h1:List ABlk}{i:Nat}{L:AV}{p n:Nat}(a:RD h i L p n)(f:Fr S h h1)(hS:¬S i):RD h1 i L p n:=f.at a hS
theorem RD.app{h:List ABlk}{i:Nat}{L:AV}{p n:Nat}(a:RD h i L p n)(l:List ABlk):RD (h++l) i L p n:=a.fr (Fr.app (S:=NoB) h l) fun h=>h
def stopA(pl e:Int):AV:=.ifc 201 (.agg [intC pl,intC e])
def plO(ts:List Tk)(n q:Nat):Int:=match ts[q]? with
 |some t=>t.pos
 |none=>n
theorem c202:bodyT Tryz.prog 202:=⟨_,Tryz.func202,by kernel_rfl,by kernel_rfl⟩
theorem c131:bodyT Tryz.prog 131:=⟨_,Tryz.func131,by kernel_rfl,by kernel_rfl⟩
theorem c128:bodyT Tryz.prog 128:=⟨_,Tryz.func128,by kernel_rfl,by kernel_rfl⟩
theorem c127:bodyT Tryz.prog 127:=⟨_,Tryz.func127,by kernel_rfl,by kernel_rfl⟩
theorem c199:bodyT Tryz.prog 199:=⟨_,Tryz.func199,by kernel_rfl,by kernel_rfl⟩
theorem c129:bodyT Tryz.prog 129:=⟨_,Tryz.func129,by kernel_rfl,by kernel_rfl⟩
theorem dis_ev(E:EnvD γ L ts){h:List ABlk}{i p n:Nat}(hp:p≤ts.length)(hr:RD h i L p n)(s:List UInt8):
  EvM Tryz.prog γ 202 [.ptr i 0 0,.v (.string ⟨s.toArray⟩)] h fun o h'=>o=.ret (.v (.bool (isB ts p s)))∧Fr NoB h h':=by
 have hi:h[i]?=_:=hr
 have g1:∀ l,(h++l)[i]?=_:=fun l=>hr.app l
 have s1:∀ x,(h++[x])[h.length]?=some x:=fun x=>by simp
 have s2:∀ x y,(h++[x]).set h.length y=h++[y]:=fun x y=>by simp
 have ll:=E.len
 refine EvM.of Tryz.func202 rfl ?_
 by_cases hlt:p<ts.length
 ·obtain⟨b,m,cs,rfl,hcs⟩:=E.sl hlt
  obtain⟨t,ht⟩:∃ t,ts[p]?=some t:=⟨ts[p],by simp[hlt]⟩
  have h6:=LAt.take hcs ht
  have h6l:6≤(cs.drop (p * 6)).length:=by have:=LAt.len hcs hlt;rw[List.length_drop];omega
  have d1:((p:Int)==(ts.length:Int))=false:=by simp only[beq_eq_false_iff_ne,ne_eq];omega
  have hB:isB ts p s=decide ((t.kind=5∨t.kind=1)∧t.text=s):=by unfold isB;rw[ht]
  rw[hB]
  simp only[Tryz.f202,evE,Nat.reduceAdd,Nat.reduceSub,Nat.reduceLT]
  refine DrawK.intro (by kernel_rfl) (by kernel_rfl) ?_
  simp only[tyD,hi,ll,d1,evE,tyX,Nat.reduceLT,Nat.reduceEqDiff,reduceCtorEq]
  refine DrawK.text (by kernel_rfl) (by kernel_rfl) ?_
  simp only[tyD,hi,h6,h6l,s1,s2,Tk.cells,evE,tyX,Nat.reduceAdd,Nat.reduceLT,Nat.reduceLeDiff,Nat.reduceEqDiff,reduceCtorEq]
  refine⟨hlt,?_⟩
  (repeat' (first|(with_reducible refine And.intro ?_ ?_)|((first|refine GuardK.intro_f (fun h=>?_) (fun h=>?_)|refine GuardK.intro_t (fun h=>?_) (fun h=>?_)|refine CondK.intro (fun h=>?_) (fun h=>?_)|refine PickK.intro (fun h=>?_) (fun h=>?_))<;>simp only[h,s1,evE,tyX,Nat.reduceLT,Nat.reduceEqDiff,reduceCtorEq])|(refine DrawK.intro (by kernel_rfl) (by kernel_rfl) ?_;simp only[tyD,g1,hi,ll,d1,h6,h6l,s1,s2,Tk.cells,evE,tyX,Bool.not_true,Bool.not_false,Nat.reduceAdd,Nat.reduceSub,Nat.reduceMul,Nat.reduceLT,Nat.reduceLeDiff,Nat.reduceEqDiff,reduceCtorEq,List.reduceReplicate,Int.reduceToNat,Int.reduceLE,Int.reduceLT])))
  all_goals first|exact Fr.app _ _|(refine congrArg Out.ret (congrArg AV.v (congrArg Value.bool ?_));rw[Bool.eq_iff_iff];simp_all;done)
 ·have hp2:p=ts.length:=by omega
  have d1:((p:Int)==(ts.length:Int))=true:=by rw[hp2];simp
  have hB:isB ts p s=false:=by unfold isB;rw[List.getElem?_eq_none (by omega)]
  rw[hB]
  simp only[Tryz.f202,evE,Nat.reduceAdd,Nat.reduceSub,Nat.reduceLT]
  refine DrawK.intro (by kernel_rfl) (by kernel_rfl) ?_
  simp only[tyD,hi,ll,d1,evE,tyX,Nat.reduceLT,Nat.reduceEqDiff,reduceCtorEq]
  exact Fr.refl _ _
def ResD{α:Type}(ts:List Tk)(n:Nat)(L:AV)(i:Nat)(h:List ABlk)(A:α→AV→List ABlk→Prop)(r:DR α)(o:Out)(h':List ABlk):Prop:=
 Fr (IsI i) h h'∧match r with
 |.ok x q=>∃ a,o=.ret a∧RD h' i L q n∧A x a h'
 |.bad q e=>o=.pan (stopA (plO ts n q) e)
theorem callD{α:Type}{E:AV→St→Prop}{g:FuncId}{xs:List AV}{d:Option Tmp}{K:St→Prop}{s:St}{n i:Nat}{A:α→AV→List ABlk→Prop}{r:DR α}(c:bodyT Tryz.prog g)
  (he:EvM Tryz.prog s.s.g g xs s.h (ResD ts n L i s.h A r)) (hok:∀ x q a h1,r=.ok x q→Fr (IsI i) s.h h1→RD h1 i L q n→A x a h1→K (pt ⟨s.s,h1⟩ d a))
  (hbad:∀ q e h1,r=.bad q e→Fr (IsI i) s.h h1→E (stopA (plO ts n q) e) ⟨s.s,h1⟩):CallE Tryz.prog E g xs d K s:=by
 refine CallE.intro c _ he (fun a h1 hh=>?_) (fun v h1 hh=>?_)
 ·cases r with
  |ok x q=>
   obtain⟨f,a',e,r1,hA⟩:=hh
   cases e
   exact hok x q _ h1 rfl f r1 hA
  |bad q e=>obtain⟨_,e⟩:=hh;cases e
 ·cases r with
  |ok x q=>obtain⟨_,a',e,_⟩:=hh;cases e
  |bad q e=>
   obtain⟨f,e⟩:=hh
   cases e
   exact hbad q _ h1 rfl f
theorem RD.set{h:List ABlk}{i:Nat}{L:AV}{p n:Nat}(a:RD h i L p n)(q:Nat):RD (h.set i ⟨0,199,[L,.v (.int .i64 (q:Int)),.v (.int .i64 (n:Int))]⟩) i L q n:=List.getElem?_set_self a.lt
def TakeD(ts:List Tk)(L:AV)(i p n:Nat)(s:List UInt8)(h:List ABlk)(o:Out)(h':List ABlk):Prop:=
 o=.ret (.v (.bool (isB ts p s)))∧Fr (IsI i) h h'∧RD h' i L (if isB ts p s=true then p+1 else p) n
theorem dtake_ev(E:EnvD γ L ts){h:List ABlk}{i p n:Nat}(hp:p≤ts.length)(hr:RD h i L p n)(s:List UInt8):
  EvM Tryz.prog γ 131 [.ptr i 0 0,.v (.string ⟨s.toArray⟩)] h (TakeD ts L i p n s h):=by
 refine EvM.of Tryz.func131 rfl ?_
 simp only[Tryz.f131,evE,Nat.reduceAdd,Nat.reduceSub,Nat.reduceLT,Nat.reduceEqDiff,reduceCtorEq]
 refine CallE.intro c202 _ (dis_ev E hp hr s) (fun r h1 hh=>?_) (fun v h1 hh=>by cases hh.1)
 obtain⟨e,f1⟩:=hh
 cases e
 have r1:=hr.fr f1 (fun h=>h)
 have h1i:h1[i]?=_:=r1
 have f1':Fr (IsI i) h h1:=f1.mono fun k e=>e.elim
 cases hB:isB ts p s with
 |true=>
  have hlt:=isB_lt hB
  have hn:=E.n
  have w1:IntKind.i64.wrap ((p:Int)+1)=((p+1:Nat):Int):=(i64w (by omega) (by omega)).trans (by omega)
  simp only[tyD,h1i,w1,evE,tyX,Bool.not_true,Nat.reduceAdd,Nat.reduceLT,Nat.reduceLeDiff,Nat.reduceEqDiff,reduceCtorEq]
  refine⟨by rw[hB],f1'.trans (Fr.set (S:=IsI i) _ rfl) fun k e=>.inl e,?_⟩
  rw[hB]
  exact r1.set (p+1)
 |false=>
  simp only[evE,Bool.not_false,Nat.reduceLT,Nat.reduceEqDiff,reduceCtorEq]
  refine⟨by rw[hB],f1',?_⟩
  rw[hB]
  exact r1
theorem dplace_ev(E:EnvD γ L ts){h:List ABlk}{i p n:Nat}(hr:RD h i L p n)(q:Nat):
  EvM Tryz.prog γ 199 [.ptr i 0 0,.v (.int .i64 (q:Int))] h fun o h'=>o=.ret (.v (.int .i64 (plO ts n q)))∧h'=h:=by
 have hi:h[i]?=_:=hr
 have ll:=E.len
 refine EvM.of Tryz.func199 rfl ?_
 by_cases hlt:q<ts.length
 ·obtain⟨b,m,cs,rfl,hcs⟩:=E.sl hlt
  obtain⟨t,ht⟩:∃ t,ts[q]?=some t:=⟨ts[q],by simp[hlt]⟩
  have h6l:=LAt.len hcs hlt
  have h4:cs[q * 6+4]?=_:=LAt.cell (b:=b) hcs ht (k:=4) (by decide)
  have d1:decide (q<ts.length)=true:=decide_eq_true hlt
  have hP:plO ts n q=t.pos:=by unfold plO;rw[ht]
  rw[hP]
  simp only[Tryz.f199,tyD,hi,ll,d1,h4,Tk.cells,evE,tyX,Nat.reduceAdd,Nat.reduceSub,Nat.reduceLT,Nat.reduceEqDiff,reduceCtorEq]
  exact hlt
 ·have d1:decide (q<ts.length)=false:=decide_eq_false hlt
  have hP:plO ts n q=n:=by unfold plO;rw[List.getElem?_eq_none (by omega)]
  rw[hP]
  simp only[Tryz.f199,tyD,hi,ll,d1,evE,tyX,Nat.reduceAdd,Nat.reduceSub,Nat.reduceLT,Nat.reduceEqDiff,reduceCtorEq]
theorem dfail_ev(E:EnvD γ L ts){h:List ABlk}{i p n:Nat}(hr:RD h i L p n)(e:Int):
  EvM Tryz.prog γ 127 [.ptr i 0 0,.v (.int .i64 e)] h fun o h'=>o=.pan (stopA (plO ts n p) e)∧h'=h:=by
 have hi:h[i]?=_:=hr
 refine EvM.of Tryz.func127 rfl ?_
 simp only[Tryz.f127,tyD,hi,evE,tyX,Nat.reduceAdd,Nat.reduceSub,Nat.reduceLT,Nat.reduceEqDiff,reduceCtorEq]
 refine CallE.intro c199 _ (dplace_ev E hr p) (fun r h1 hh=>?_) (fun v h1 hh=>by cases hh.1)
 obtain⟨e,rfl⟩:=hh
 cases e
 simp only[tyD,evE,Nat.reduceAdd,Nat.reduceLT,Nat.reduceLeDiff,Nat.reduceEqDiff,reduceCtorEq]
 rfl
def UnitA(_:Unit)(a:AV)(_:List ABlk):Prop:=a=.tup []
theorem dwant_ev(E:EnvD γ L ts){h:List ABlk}{i p n:Nat}(hp:p≤ts.length)(hr:RD h i L p n)(s:List UInt8):
  EvM Tryz.prog γ 128 [.ptr i 0 0,.v (.string ⟨s.toArray⟩)] h (ResD ts n L i h UnitA (wantD ts s p)):=by
 refine EvM.of Tryz.func128 rfl ?_
 simp only[Tryz.f128,evE,Nat.reduceAdd,Nat.reduceSub,Nat.reduceLT,Nat.reduceEqDiff,reduceCtorEq]
 refine CallE.intro c131 _ (dtake_ev E hp hr s) (fun r h1 hh=>?_) (fun v h1 hh=>by cases hh.1)
 obtain⟨e,f1,r1⟩:=hh
 cases e
 unfold wantD
 cases hB:isB ts p s with
 |true=>
  rw[hB]at r1
  simp only[evE,Bool.not_true,Nat.reduceLT,Nat.reduceEqDiff,reduceCtorEq]
  exact⟨f1,_,rfl,r1,rfl⟩
 |false=>
  rw[hB]at r1
  simp only[evE,Bool.not_false,Nat.reduceLT,Nat.reduceEqDiff,reduceCtorEq]
  refine CallE.intro c127 _ (dfail_ev E r1 80) (fun r h2 hh=>by cases hh.1) (fun v h2 hh=>?_)
  obtain⟨e,rfl⟩:=hh
  cases e
  exact⟨f1,rfl⟩
abbrev S8:=Nat×Option (Int×Int)
variable (ts:List Tk) (n:Nat)
variable {ts n}
def okS(ts:List Tk)(S:S8):Prop:=S.1≤ts.length∧∀ b,S.2=some b→b.1≠0
theorem c35:bodyT Tryz.prog 35:=⟨_,Tryz.func35,by kernel_rfl,by kernel_rfl⟩
theorem kwB_eq(s:List UInt8):kwB s=(s==[116,97,103] || (s==[107,105,110,100] || (s==[99,104,111,114,100] || (s==[119,104,101,110] || (s==[115,101,110,100] || (s==[115,112,97,119,110] || (s==[97,115] || (s==[114,101,112,108,121] || s==[98,101,99,111,109,101])))))))):=by
 rw[Bool.eq_iff_iff]
 simp only[kwB,kws,kTag,kKind,kChord,kWhen,kSend,kSpawn,kAs,kReply,kBecome,decide_eq_true_eq,List.mem_cons,List.not_mem_nil,or_false,Bool.or_eq_true,beq_iff_eq]
set_option maxHeartbeats 2000000 in
theorem keyword_ev(s:List UInt8):Ev Tryz.prog γ 35 [.v (.string ⟨s.toArray⟩)] (.v (.bool (kwB s))):=by
 refine Ev.of Tryz.func35 rfl ?_
 rw[kwB_eq]
 simp only[Tryz.f35,evE,Nat.reduceAdd,Nat.reduceSub,Nat.reduceLT,Nat.reduceEqDiff,reduceCtorEq]
 (repeat' (first|(with_reducible refine And.intro ?_ ?_)|((first|refine GuardK.intro_f (fun h=>?_) (fun h=>?_)|refine GuardK.intro_t (fun h=>?_) (fun h=>?_)|refine CondK.intro (fun h=>?_) (fun h=>?_)|refine PickK.intro (fun h=>?_) (fun h=>?_))<;>simp only[h,evE,Nat.reduceLT,Nat.reduceEqDiff,reduceCtorEq])|(refine DrawK.intro (by kernel_rfl) (by kernel_rfl) ?_;simp only[evE,tyX,Bool.not_true,Bool.not_false,Nat.reduceAdd,Nat.reduceSub,Nat.reduceMul,Nat.reduceLT,Nat.reduceLeDiff,Nat.reduceEqDiff,reduceCtorEq,List.reduceReplicate,Int.reduceToNat,Int.reduceLE,Int.reduceLT])))
 all_goals (try (simp only[*,Bool.true_or,Bool.or_true,Bool.or_false,Bool.false_or];done))
 all_goals trace_state
def StrA(x:List UInt8)(a:AV)(_:List ABlk):Prop:=a=strC x
set_option maxHeartbeats 1000000 in
theorem dword_ev(E:EnvD γ L ts){h:List ABlk}{i p n:Nat}(hp:p≤ts.length)(hr:RD h i L p n):
  EvM Tryz.prog γ 129 [.ptr i 0 0] h (ResD ts n L i h StrA (wordD ts p)):=by
 have hi:h[i]?=_:=hr
 have ll:=E.len
 refine EvM.of Tryz.func129 rfl ?_
 by_cases hlt:p<ts.length
 ·obtain⟨b,m,cs,rfl,hcs⟩:=E.sl hlt
  obtain⟨t,ht⟩:∃ t,ts[p]?=some t:=⟨ts[p],by simp[hlt]⟩
  have h6l:=LAt.len hcs hlt
  have h0:cs[p * 6]?=some (.v (.int .i64 t.kind)):=LAt.cell (b:=b) hcs ht (k:=0) (by decide)
  have h1:cs[p * 6+1]?=_:=LAt.cell (b:=b) hcs ht (k:=1) (by decide)
  have d1:((p:Int)==(ts.length:Int))=false:=by simp only[beq_eq_false_iff_ne,ne_eq];omega
  have hW:wordD ts p=if t.kind=1∧kwB t.text=false then .ok t.text (p+1)else .bad p 80:=by unfold wordD;rw[ht]
  rw[hW]
  by_cases hk:t.kind=1
  ·have dk:(t.kind != 1)=false:=by simp[hk]
   have dk2:(t.kind==1)=true:=by simp[hk]
   simp only[Tryz.f129,evE,Nat.reduceAdd,Nat.reduceSub,Nat.reduceLT]
   refine DrawK.intro (by kernel_rfl) (by kernel_rfl) ?_
   simp only[tyD,hi,ll,d1,h0,h1,dk,Tk.cells,evE,tyX,Nat.reduceLT,Nat.reduceEqDiff,reduceCtorEq]
   refine⟨hlt,hlt,CallK.intro c35 rfl (keyword_ev _) ?_⟩
   cases hB:kwB t.text with
   |true=>
    rw[if_neg (fun h=>by cases h.2)]
    simp only[evE,Nat.reduceLT,Nat.reduceEqDiff,reduceCtorEq]
    refine CallE.intro c127 _ (dfail_ev E hr 80) (fun r h2 hh=>by cases hh.1) (fun v h2 hh=>?_)
    obtain⟨e,rfl⟩:=hh
    cases e
    exact⟨Fr.refl _ _,rfl⟩
   |false=>
    rw[if_pos ⟨hk,rfl⟩]
    have hn:=E.n
    have w1:IntKind.i64.wrap ((p:Int)+1)=((p+1:Nat):Int):=(i64w (by omega) (by omega)).trans (by omega)
    have w2:IntKind.i64.wrap (((p+1:Nat):Int)-1)=(p:Int):=(i64w (by omega) (by omega)).trans (by omega)
    have s3:∀ b,(h.set i b)[i]?=some b:=fun b=>List.getElem?_set_self hr.lt
    simp only[tyD,hi,w1,evE,tyX,Nat.reduceAdd,Nat.reduceLT,Nat.reduceLeDiff,Nat.reduceEqDiff,reduceCtorEq]
    refine DrawK.intro (by kernel_rfl) (by kernel_rfl) ?_
    simp only[tyD,s3,w2,h1,Tk.cells,evE,tyX,Nat.reduceLT,Nat.reduceEqDiff,reduceCtorEq]
    exact⟨hlt,Fr.set _ rfl,_,rfl,hr.set (p+1),rfl⟩
  ·have dk:(t.kind != 1)=true:=by simp[hk]
   have dk2:(t.kind==1)=false:=by simp[hk]
   rw[if_neg (fun h=>hk h.1)]
   simp only[Tryz.f129,evE,Nat.reduceAdd,Nat.reduceSub,Nat.reduceLT]
   refine DrawK.intro (by kernel_rfl) (by kernel_rfl) ?_
   simp only[tyD,hi,ll,d1,h0,dk,evE,tyX,Nat.reduceLT,Nat.reduceEqDiff,reduceCtorEq]
   refine⟨hlt,CallE.intro c127 _ (dfail_ev E hr 80) (fun r h2 hh=>by cases hh.1) (fun v h2 hh=>?_)⟩
   obtain⟨e,rfl⟩:=hh
   cases e
   exact⟨Fr.refl _ _,rfl⟩
 ·have d1:((p:Int)==(ts.length:Int))=true:=by simp only[beq_iff_eq];omega
  have hW:wordD ts p=.bad p 80:=by unfold wordD;rw[List.getElem?_eq_none (by omega)]
  rw[hW]
  simp only[Tryz.f129,evE,Nat.reduceAdd,Nat.reduceSub,Nat.reduceLT]
  refine DrawK.intro (by kernel_rfl) (by kernel_rfl) ?_
  simp only[tyD,hi,ll,d1,evE,tyX,Nat.reduceLT,Nat.reduceEqDiff,reduceCtorEq]
  refine CallE.intro c127 _ (dfail_ev E hr 80) (fun r h2 hh=>by cases hh.1) (fun v h2 hh=>?_)
  obtain⟨e,rfl⟩:=hh
  cases e
  exact⟨Fr.refl _ _,rfl⟩
theorem set_len(h:List ABlk)(x:ABlk)(l:List ABlk)(c:ABlk):(h++x::l).set h.length c=h++c::l:=by simp
theorem set_len1(h:List ABlk)(x y:ABlk)(l:List ABlk)(c:ABlk):(h++x::y::l).set (h.length+1) c=h++x::c::l:=by
 rw[List.set_append_right _ _ (by omega),show h.length+1-h.length=1 by omega];rfl
theorem at_lenS(h:List ABlk)(i:Nat)(b x:ABlk)(l:List ABlk):(h.set i b++x::l)[h.length]?=some x:=by
 have:=at_len (h.set i b) x l
 rwa [List.length_set]at this
theorem at_lenS1(h:List ABlk)(i:Nat)(b x y:ABlk)(l:List ABlk):(h.set i b++x::y::l)[h.length+1]?=some y:=by
 have:=at_len1 (h.set i b) x y l
 rwa [List.length_set]at this
theorem set_lenS(h:List ABlk)(i:Nat)(b x:ABlk)(l:List ABlk)(c:ABlk):(h.set i b++x::l).set h.length c=h.set i b++c::l:=by
 have:=set_len (h.set i b) x l c
 rwa [List.length_set]at this
def ExpA(x:List Nd)(a:AV)(_:List ABlk):Prop:=a=.agg [nodesA x]
theorem c132:bodyT Tryz.prog 132:=⟨_,Tryz.func132,by kernel_rfl,by kernel_rfl⟩
theorem treeL_LIs{L:AV}{ts:List Tk}(h:LAs L ts)(f:Int):treeL [L,.v (.int .i64 f)]=true:=by rcases h with⟨rfl,rfl⟩|⟨b,m,cs,rfl,_⟩<;>rfl
set_option maxHeartbeats 1000000 in
theorem dexpr_ev(E:EnvD γ L ts){h:List ABlk}{i p n:Nat}(hp:p≤ts.length)(hr:RD h i L p n):
  EvM Tryz.prog γ 132 [.ptr i 0 0] h (ResD ts n L i h ExpA (exprD ts p)):=by
 have hi:h[i]?=_:=hr
 have ll:=E.len
 obtain⟨a1,a2,a3⟩:=readR_adv hp
 have hn:=E.n
 have hread:=read26_ev E.gl E.glw E.l E.ok E.n (p:Int)
 have g1:∀ l,(h++l)[i]?=_:=fun l=>hr.app l
 have s1:∀ (x:ABlk) l,(h++x::l)[h.length]?=some x:=fun x l=>by simp
 have s2:∀ (x y:ABlk) l,(h++x::y::l)[h.length+1]?=some y:=fun x y l=>by simp
 have one:∀ ns,oneA (nodesA ns)=true:=fun ns=>by cases ns<;>rfl
 refine EvM.of Tryz.func132 rfl ?_
 simp only[Tryz.f132,tyD,evE,Nat.reduceAdd,Nat.reduceSub,Nat.reduceLT]
 refine DrawK.text (by kernel_rfl) (by kernel_rfl) ?_
 simp only[tyD,g1,evE,tyX,Nat.reduceLT,Nat.reduceEqDiff,reduceCtorEq]
 refine CallK.intro c26 (treeL_LIs E.l _) hread ?_
 unfold readA exprD
 generalize readR ts (p:Int)=R at a1 a2 a3
 obtain⟨ns,q,e⟩:=R
 simp only at a1 a2 a3
 obtain⟨q,rfl⟩:∃ q':Nat,q=q':=⟨q.toNat,by omega⟩
 have s6:∀ l b,(h++l).set i b=h.set i b++l:=fun l b=>List.set_append_left _ _ hr.lt
 have s7:∀ b l,(h.set i b++l)[i]?=some b:=fun b l=>by rw[List.getElem?_append_left (by rw[List.length_set];exact hr.lt)];exact List.getElem?_set_self hr.lt
 by_cases he:e=0
 ·have de:(e != 0)=false:=by simp[he]
  rw[if_pos he,Int.toNat_natCast]
  simp only[tyD,g1,one,de,at_len1,set_len1,at_lenS,at_lenS1,set_lenS,s6,List.append_assoc,List.cons_append,List.nil_append,evE,tyX,Nat.reduceAdd,Nat.reduceLT,Nat.reduceLeDiff,Nat.reduceEqDiff,reduceCtorEq]
  exact⟨Fr.trans (Fr.set _ rfl) (Fr.app (S:=NoB) _ _) (fun k e=>e.elim),_,rfl,s7 _ _,rfl⟩
 ·have de:(e != 0)=true:=by simp[he]
  rw[if_neg he,Int.toNat_natCast]
  simp only[tyD,one,de,at_len1,set_len1,List.append_assoc,List.cons_append,List.nil_append,evE,Nat.reduceLT,Nat.reduceLeDiff,Nat.reduceEqDiff,reduceCtorEq]
  refine CallE.intro c199 _ (dplace_ev E (hr.app _) q) (fun r h2 hh=>?_) (fun v h2 hh=>by cases hh.1)
  obtain⟨e,rfl⟩:=hh
  cases e
  simp only[tyD,evE,Nat.reduceAdd,Nat.reduceLT,Nat.reduceLeDiff,Nat.reduceEqDiff,reduceCtorEq]
  exact⟨Fr.app _ _,rfl⟩
end Go.Proofs.YtlobiioioicmhaaGreatDoor
