/- A part of the proof. -/
import Derived.Test.YtlobiioioicmhaaGreatDoorDQ4
import Derived.Test.YtlobiioioicmhaaGreatDoorDQ5
set_option linter.all false
set_option maxHeartbeats 8000000
namespace Go.Proofs.YtlobiioioicmhaaGreatDoor
open _root_.Bool renaming not_true→Bv,not_false→Bf
open _root_.List renaming getElem?_eq_some_iff→Bs,getElem?_append_left→Ba,getElem?_append_right→Br,getElem?_set_self→Be,getElem?_set_ne→Bn,length_set→Bl,length_append→Bp,append_assoc→Bo,cons_append→Bc,nil_append→Bi,getElem?_cons_zero→Bz,getElem?_map→Bm,length_map→Bk,getElem?_eq_none→Bq,length_drop→Bd,length_take→Bh,mem_singleton→Bj,map_cons→BA,prefix_rfl→BB,length_cons→BC,length_nil→BD,flatMap_cons→BE,mem_cons→BI,length_replicate→BJ,drop_drop→BT,getElem?_drop→BX,getElem?_take→BY
open _root_.Nat renaming le_refl→BL,le_trans→BM,zero_le→BN
open Go.Proofs.Tryz renaming prog→Tp
open Go Go.Ev
set_option maxRecDepth 20000
variable {γ:List (Nat×AV)} {ts:List Tk} {L:AV}
theorem RS.app{h:List ABlk}{i p:Nat}{L N:AV}{ns:List Nd}(a:RS h i L p N ns)(l:List ABlk):RS (h++l) i L p N ns:=
 ⟨(Ba a.lt).trans a.1,a.2.fr (S:=fun _=>False) (Fr.app h l) fun _ _ h=>h⟩
theorem RS.nlt{h:List ABlk}{i p:Nat}{L N:AV}{ns:List Nd}(a:RS h i L p N ns){k:Nat}(hk:nbk N k):k<h.length:=by
 rcases a.2 with⟨rfl,_⟩|⟨j,ver,rfl,hj⟩
 ·exact hk.elim
 ·have hk':k=j:=hk;subst hk';exact (Bs.1 hj).1
theorem RS.setO{h:List ABlk}{i p:Nat}{L N:AV}{ns:List Nd}(a:RS h i L p N ns){j:Nat}{b:ABlk}(hj:j≠i)(hn:¬nbk N j):RS (h.set j b) i L p N ns:=
 ⟨(Bn hj).trans a.1,a.2.fr (S:=fun k=>k=j) (Fr.set _ rfl) fun k hk e=>hn (e▸hk)⟩
theorem nm_step(hL:LAt L ts)(hb:ts.length<4611686018427387904){f:Nat}(H:∀ g≤f,PrOk γ ts L g)(s:List UInt8):CallOk γ ts L (f+1) 283 [.v (.string ⟨s.toArray⟩)] (.nm s):=by
 intro h i p N ns hp hf hr hB;have hi:=hr.1
 have leaf:∀ (k:Int) (nm:List UInt8) (vk vi:Int) (vr:Nat) (vt:List UInt8) (r:AV) (h2:List ABlk),pr ts (f+1) (.nm s) p=.ok (.lf k nm vk vi vr vt) p→PutP L i p N ns ⟨k,0,0,nm,vk,vi,vr,vt⟩ h (.ret r) h2→
   ResP L i N h ns (pr ts (f+1) (.nm s) p) (.ret r) h2:=by
  intro k nm vk vi vr vt r h2 e ⟨e2,f2,N2,r2,n2⟩;cases e2;exact ResP.ok_mk (t:=.lf k nm vk vi vr vt) e (by show (ns.length:Int)=((ns.length+1-1:Nat):Int);rw[Nat.add_sub_cancel]) f2 r2 rfl n2
 have hB1:(ns.length+1) * 96≤140737488355328:=BM (Nat.mul_le_mul_right 96 (by omega)) hB;refine EvM.of Tryz.func283 rfl ?_;simp only[Tryz.f283,evE,Nat.reduceAdd,Nat.reduceSub,Nat.reduceLT,Nat.reduceEqDiff,reduceCtorEq];refine CallE.pure (CallK.intro c299 rfl (word_ev _) ?_)
 by_cases ht:s=trueB
 ·have d1:(s==[116,114,117,101])=true:=by rw[ht];rfl
  simp only[d1,evE,tyX,Nat.reduceAdd,Nat.reduceLT,Nat.reduceLeDiff,Nat.reduceEqDiff,reduceCtorEq];refine CallE.intro c188 _ (put_ev hr ⟨1,0,0,[],5,1,0,[]⟩ hB1) (fun r h2 hh=>?_) (fun v h2 hh=>by cases hh.1);simp only[evE,Nat.reduceLT,Nat.reduceEqDiff,reduceCtorEq];exact leaf _ _ _ _ _ _ _ _ (by rw[pr,if_pos ht]) hh
 have d1:(s==[116,114,117,101])=false:=by simpa[trueB]using ht
 by_cases hfa:s=falseB
 ·have d2:(s==[102,97,108,115,101])=true:=by rw[hfa];rfl
  simp only[d1,d2,evE,tyX,Nat.reduceAdd,Nat.reduceLT,Nat.reduceLeDiff,Nat.reduceEqDiff,reduceCtorEq];refine CallE.intro c188 _ (put_ev hr ⟨1,0,0,[],5,0,0,[]⟩ hB1) (fun r h2 hh=>?_) (fun v h2 hh=>by cases hh.1);simp only[evE,Nat.reduceLT,Nat.reduceEqDiff,reduceCtorEq];exact leaf _ _ _ _ _ _ _ _ (by rw[pr,if_neg ht,if_pos hfa]) hh
 have d2:(s==[102,97,108,115,101])=false:=by simpa[falseB]using hfa
 by_cases hw:wordK s=0
 ·have d3:(wordK s==0)=true:=by simpa using hw
  simp only[d1,d2,d3,evE,tyX,Nat.reduceAdd,Nat.reduceLT,Nat.reduceLeDiff,Nat.reduceEqDiff,reduceCtorEq];refine CallE.intro c188 _ (put_ev hr ⟨2,0,0,s,0,0,0,[]⟩ hB1) (fun r h2 hh=>?_) (fun v h2 hh=>by cases hh.1);simp only[evE,Nat.reduceLT,Nat.reduceEqDiff,reduceCtorEq];exact leaf _ _ _ _ _ _ _ _ (by rw[pr,if_neg ht,if_neg hfa,if_pos hw]) hh
 have d3:(wordK s==0)=false:=by simpa using hw
 simp only[d1,d2,d3,evE,Nat.reduceLT,Nat.reduceEqDiff,reduceCtorEq];refine CallE.intro c282 _ (take_ev hL hr (by omega) [40]) (fun r h2 hh=>?_) (fun v h2 hh=>?_)
 rotate_left
 ·unfold TakeP at hh
  split at hh
  ·cases hh.1
  ·rename_i hm;obtain⟨e,rfl⟩:=hh;cases e;show ResP L i N h2 ns (pr ts (f+1) (.nm s) p) (.pan (faultA p)) h2;rw[pr,if_neg ht,if_neg hfa,if_neg hw,if_pos hm];exact⟨Fr.refl _ _,rfl⟩
 unfold TakeP at hh
 split at hh
 rotate_left
 ·cases hh.1
 rename_i hm;obtain⟨e,rfl⟩:=hh;cases e;have hlt:p<ts.length:=mkA_eq hm;have hn2:Md.need ts (p+1) (.bin 1)≤f:=by simp only[Md.need]at hf⊢;omega
 have epr:pr ts (f+1) (.nm s) p=match pr ts f (.bin 1) (p+1)with
   |.bad q=>.bad q
   |.ok a q=>if kidsK (wordK s)=2 then (if mkA ts q≠[44]then .bad q else match pr ts f (.bin 1) (q+1)with
     |.bad r=>.bad r
     |.ok b r=>if mkA ts r=[41]then .ok (.bi (wordK s) a b) (r+1)else .bad r)
    else if mkA ts q=[41]then .ok (.un (wordK s) a) (q+1)else .bad q:=by
  rw[pr,if_neg ht,if_neg hfa,if_neg hw,if_neg (fun h=>h hm)];cases pr ts f (.bin 1) (p+1)with
  |bad q=>rfl
  |ok a q=>
   show (if _ then (if _ then _ else _)else _)=(if _ then (if _ then _ else _)else _)
   cases pr ts f (.bin 1) (q+1)<;>rfl
 simp only[evE,Nat.reduceLT,Nat.reduceEqDiff,reduceCtorEq];refine CallE.intro c114 _ ((H f (BL _)).bin 1 (by decide) (by decide) _ i (p+1) N ns hlt hn2 (hr.move (p+1)) (bnd1 hB (by omega))) (fun r h3 hh=>?_) (fun v h3 hh=>?_)
 rotate_left
 ·cases e:pr ts f (.bin 1) (p+1)with
  |ok b q'=>rw[e]at hh;exact hh.ok_pan.elim
  |bad q'=>
   rw[e]at hh epr;show ResP L i N h ns (pr ts (f+1) (.nm s) p) (.pan v) h3;rw[epr];exact hh.bad_of (fr_move _) fun k hk=>.inl hk
 cases e:pr ts f (.bin 1) (p+1)with
 |bad q'=>rw[e]at hh;exact hh.bad_ret.elim
 |ok a q=>
  rw[e]at hh epr;obtain⟨er,f3,N3,r3,n3⟩:=hh.ok_ret;subst er;have n3':∀ k,nbk N3 k→nbk N k∨h.length≤k:=fun k hk=>(n3 k hk).imp id fun e=>by simpa using e
  have f03:Fr (RP i N) h h3:=Fr.more (fr_move _) f3 fun k hk=>.inl hk
  obtain⟨⟨g1,g2⟩,g3⟩:=pr_adv ts f (.bin 1) (p+1) a q hlt e;have s1:∀ x,(h3++[x])[h3.length]?=some x:=fun x=>by simp
  have s2:∀ x y,(h3++[x]).set h3.length y=h3++[y]:=fun x y=>by simp
  simp only[s1,s2,evE,tyX,Nat.reduceAdd,Nat.reduceLT,Nat.reduceLeDiff,Nat.reduceEqDiff,reduceCtorEq];refine CallE.pure (CallK.intro c115 rfl (children_ev _) ?_);simp only[evE,Nat.reduceLT,Nat.reduceEqDiff,reduceCtorEq];have hlen:(ns++lay a ns.length).length=ns.length+a.size:=by rw[Bp,lay_length]
  have ra:RS (h3++[⟨0,115,Nd.cells ⟨wordK s,((ns.length+a.size-1:Nat):Int),0,[],0,0,0,[]⟩⟩]) i L q N3 (ns++lay a ns.length):=r3.app _;have fa:Fr (RP i N) h (h3++[⟨0,115,Nd.cells ⟨wordK s,((ns.length+a.size-1:Nat):Int),0,[],0,0,0,[]⟩⟩]):=Fr.more (N':=N3) f03 (Fr.app _ _) n3'
  by_cases hk:kidsK (wordK s)=2
  ·have d4:(kidsK (wordK s)==2)=true:=by simpa using hk
   simp only[d4,evE,Nat.reduceLT,Nat.reduceEqDiff,reduceCtorEq]
   have epr2:pr ts (f+1) (.nm s) p=if mkA ts q≠[44]then .bad q else match pr ts f (.bin 1) (q+1)with
     |.bad r=>.bad r
     |.ok b r=>if mkA ts r=[41]then .ok (.bi (wordK s) a b) (r+1)else .bad r:=by rw[epr];exact if_pos hk
   refine CallE.intro c282 _ (take_ev hL ra (by omega) [44]) (fun r h6 hh=>?_) (fun v h6 hh=>?_)
   rotate_left
   ·unfold TakeP at hh
    split at hh
    ·cases hh.1
    ·rename_i hm;obtain⟨e,rfl⟩:=hh;cases e;show ResP L i N h ns (pr ts (f+1) (.nm s) p) (.pan (faultA q)) _;rw[epr2,if_pos hm];exact⟨fa,rfl⟩
   unfold TakeP at hh
   split at hh
   rotate_left
   ·cases hh.1
   rename_i hm6;obtain⟨e,rfl⟩:=hh;cases e;have hltq:q<ts.length:=mkA_eq hm6;rw[if_neg (fun h=>h hm6)]at epr2;have hn4:Md.need ts (q+1) (.bin 1)≤f:=by simp only[Md.need]at hf⊢;omega
   simp only[evE,Nat.reduceLT,Nat.reduceEqDiff,reduceCtorEq];refine CallE.intro c114 _ ((H f (BL _)).bin 1 (by decide) (by decide) _ i (q+1) N3 (ns++lay a ns.length) hltq hn4 (ra.move (q+1)) (by rw[hlen];exact bnd1 hB (by omega))) (fun r h4 hh=>?_) (fun v h4 hh=>?_)
   rotate_left
   ·cases e:pr ts f (.bin 1) (q+1)with
    |ok b q'=>rw[e]at hh;exact hh.ok_pan.elim
    |bad q'=>
     rw[e]at hh epr2;show ResP L i N h ns (pr ts (f+1) (.nm s) p) (.pan v) h4;rw[epr2];exact hh.bad_of (Fr.more fa (fr_move _) n3') n3'
   cases e:pr ts f (.bin 1) (q+1)with
   |bad q'=>rw[e]at hh;exact hh.bad_ret.elim
   |ok b q5=>
    rw[e]at hh epr2;have epr3:pr ts (f+1) (.nm s) p=if mkA ts q5=[41]then .ok (.bi (wordK s) a b) (q5+1)else .bad q5:=epr2
    obtain⟨er,f4,N4,r4,n4⟩:=hh.ok_ret;subst er;rw[hlen]at r4;obtain⟨⟨j1,j2⟩,j3⟩:=pr_adv ts f (.bin 1) (q+1) b q5 hltq e;have hil:i<h3.length:=r3.lt;have nlt:∀ k,nbk N3 k→k<h3.length:=fun k hk=>r3.nlt hk
    have k4:h4[h3.length]?=some ⟨0,115,Nd.cells ⟨wordK s,((ns.length+a.size-1:Nat):Int),0,[],0,0,0,[]⟩⟩:=by
     refine f4.at ?_ (fun hk=>hk.elim (fun e=>by omega) fun e=>Nat.lt_irrefl _ (nlt _ e));rw[Bn (by omega)];exact s1 _
    have n4a:∀ k,nbk N4 k→nbk N3 k∨h3.length+1≤k:=fun k hk=>(n4 k hk).imp id fun e=>by simpa using e
    have n4':∀ k,nbk N4 k→nbk N k∨h.length≤k:=fun k hk=>(n4a k hk).elim (n3' k) fun e=>.inr (by have:=f03.1;omega)
    have hlen4:(ns++lay a ns.length++lay b (ns.length+a.size)).length=ns.length+a.size+b.size:=by rw[Bp,lay_length,hlen]
    have k4':=k4;simp only[Nd.cells]at k4';simp only[k4',hlen,evE,tyX,Nat.reduceAdd,Nat.reduceLT,Nat.reduceLeDiff,Nat.reduceEqDiff,reduceCtorEq];obtain⟨h5,hh5⟩:∃ h5,h5=h4.set h3.length ⟨0,115,Nd.cells ⟨wordK s,((ns.length+a.size-1:Nat):Int),((ns.length+a.size+b.size-1:Nat):Int),[],0,0,0,[]⟩⟩:=⟨_,rfl⟩;have hS:∀ k,k=h3.length→k≠i∧¬nbk N4 k:=fun k e=>⟨by omega,fun hk=>(n4a k hk).elim (fun hk=>by have:=nlt k hk;omega) fun hk=>by omega⟩
    have r5:RS h5 i L q5 N4 (ns++lay a ns.length++lay b (ns.length+a.size)):=by rw[hh5];exact r4.setO (hS _ rfl).1 (hS _ rfl).2
    have k5:h5[h3.length]?=some ⟨0,115,Nd.cells ⟨wordK s,((ns.length+a.size-1:Nat):Int),((ns.length+a.size+b.size-1:Nat):Int),[],0,0,0,[]⟩⟩:=by rw[hh5];exact Be ((Bs.1 k4).1)
    have f04:Fr (RP i N) h h4:=Fr.more (Fr.more fa (fr_move _) n3') f4 n3';have f5:Fr (RP i N) h h5:=by rw[hh5];exact f04.trans (S1:=fun k=>k=h3.length) (Fr.set _ rfl) fun k e=>.inr (by have:=f03.1;omega)
    have hh5':=hh5;simp only[Nd.cells]at hh5';rw[←hh5'];refine CallE.intro c282 _ (take_ev hL r5 (by omega) [41]) (fun r h6 hh=>?_) (fun v h6 hh=>?_)
    rotate_left
    ·unfold TakeP at hh
     split at hh
     ·cases hh.1
     ·rename_i hm;obtain⟨e,rfl⟩:=hh;cases e;show ResP L i N h ns (pr ts (f+1) (.nm s) p) (.pan (faultA q5)) _;rw[epr3,if_neg hm];exact⟨f5,rfl⟩
    unfold TakeP at hh
    split at hh
    rotate_left
    ·cases hh.1
    rename_i hm6;obtain⟨e,rfl⟩:=hh;cases e;have l6:=Bn (l:=h5) (a:=(⟨0,104,[L,.v (.int .i64 ((q5+1:Nat):Int)),N4]⟩:ABlk)) (i:=i) (j:=h3.length) (by have:=r3.lt;omega);rw[k5]at l6;simp only[Nd.cells]at l6;simp only[l6,evE,tyX,Nat.reduceAdd,Nat.reduceLT,Nat.reduceLeDiff,Nat.reduceEqDiff,reduceCtorEq];refine CallE.intro c188 _ (put_ev (RS.move r5 (q5+1)) ⟨wordK s,((ns.length+a.size-1:Nat):Int),((ns.length+a.size+b.size-1:Nat):Int),[],0,0,0,[]⟩ (by rw[hlen4];exact BM (Nat.mul_le_mul_right 96 (by omega)) hB)) (fun r h7 hh=>?_) (fun v h2 hh=>by cases hh.1);obtain⟨e7,f7,N7,r7,n7⟩:=hh;cases e7;simp only[evE,Nat.reduceLT,Nat.reduceEqDiff,reduceCtorEq];have FR7:=Fr.more f5 (fr_move (N:=N4) ⟨0,104,[L,.v (.int .i64 ((q5+1:Nat):Int)),N4]⟩) n4';have n7':∀ k,nbk N7 k→nbk N4 k∨h5.length≤k:=fun k hk=>(n7 k hk).imp id fun e=>by simpa using e
    exact ResP.ok_mk (t:=.bi (wordK s) a b) (q:=q5+1) (by rw[epr3,if_pos hm6]) (by simp only[lay_length,Tr.size];omega) (Fr.more FR7 f7 n4') r7 (by simp only[lay,Bo]) (more_nbk f5.1 n4' n7')
  ·have d4:(kidsK (wordK s)==2)=false:=by simpa using hk
   have epr2:pr ts (f+1) (.nm s) p=if mkA ts q=[41]then .ok (.un (wordK s) a) (q+1)else .bad q:=by rw[epr];exact if_neg hk
   simp only[d4,evE,Nat.reduceLT,Nat.reduceEqDiff,reduceCtorEq];refine CallE.intro c282 _ (take_ev hL ra (by omega) [41]) (fun r h6 hh=>?_) (fun v h6 hh=>?_)
   rotate_left
   ·unfold TakeP at hh
    split at hh
    ·cases hh.1
    ·rename_i hm;obtain⟨e,rfl⟩:=hh;cases e;show ResP L i N h ns (pr ts (f+1) (.nm s) p) (.pan (faultA q)) _;rw[epr2,if_neg hm];exact⟨fa,rfl⟩
   unfold TakeP at hh
   split at hh
   rotate_left
   ·cases hh.1
   rename_i hm6;obtain⟨e,rfl⟩:=hh;cases e;have l6:=Bn (l:=(h3++[⟨0,115,Nd.cells ⟨wordK s,((ns.length+a.size-1:Nat):Int),0,[],0,0,0,[]⟩⟩])) (a:=(⟨0,104,[L,.v (.int .i64 ((q+1:Nat):Int)),N3]⟩:ABlk)) (i:=i) (j:=h3.length) (by have:=r3.lt;omega);rw[s1]at l6;simp only[Nd.cells]at l6;simp only[l6,Nd.cells,evE,tyX,Nat.reduceAdd,Nat.reduceLT,Nat.reduceLeDiff,Nat.reduceEqDiff,reduceCtorEq];refine CallE.intro c188 _ (put_ev (RS.move ra (q+1)) ⟨wordK s,((ns.length+a.size-1:Nat):Int),0,[],0,0,0,[]⟩ (by rw[hlen];exact BM (Nat.mul_le_mul_right 96 (by omega)) hB)) (fun r h7 hh=>?_) (fun v h2 hh=>by cases hh.1);obtain⟨e7,f7,N7,r7,n7⟩:=hh;cases e7;simp only[evE,Nat.reduceLT,Nat.reduceEqDiff,reduceCtorEq];have FR7:=Fr.more fa (fr_move (N:=N3) ⟨0,104,[L,.v (.int .i64 ((q+1:Nat):Int)),N3]⟩) n3';have n7':∀ k,nbk N7 k→nbk N3 k∨(h3++[(⟨0,115,Nd.cells ⟨wordK s,((ns.length+a.size-1:Nat):Int),0,[],0,0,0,[]⟩⟩:ABlk)]).length≤k:=fun k hk=>(n7 k hk).imp id fun e=>by simpa using e
   exact ResP.ok_mk (t:=.un (wordK s) a) (q:=q+1) (by rw[epr2,if_pos hm6]) (by simp only[lay_length,Tr.size];omega) (Fr.more FR7 f7 n3') r7 (by rw[Bo];rfl) (more_nbk fa.1 n3' n7')
theorem LAt.take{ts:List Tk}{cs:List AV}(h:tkCells ts<+:cs){p:Nat}{t:Tk}(hp:ts[p]?=some t):(cs.drop (p * 6)).take 6=t.cells:=by
 obtain⟨h0,h1,h2,h3,h4,h5⟩:=LAt.at h hp
 apply List.ext_getElem?
 intro j;rw[BY]
 split
 ·rename_i hj;rw[BX];have:j=0∨j=1∨j=2∨j=3∨j=4∨j=5:=by omega
  rcases this with rfl|rfl|rfl|rfl|rfl|rfl
  ·exact h0
  ·exact h1
  ·exact h2
  ·exact h3
  ·exact h4
  ·exact h5
 ·rename_i hj;rw[Bq];simp only[Tk.cells,BC,BD];omega
theorem LAt.len{ts:List Tk}{cs:List AV}(h:tkCells ts<+:cs){p:Nat}(hp:p<ts.length):p * 6+6≤cs.length:=by
 have:=h.length_le;rw[tkCells_length]at this
 omega
theorem fs_step(hL:LAt L ts)(hb:ts.length<4611686018427387904){f:Nat}(H:∀ g≤f,PrOk γ ts L g):CallOk γ ts L (f+1) 245 [] .fs:=by
 intro h i p N ns hp hf hr hB;have hi:=hr.1;have w1:IntKind.i64.wrap ((p:Int)+1)=((p+1:Nat):Int):=w64 hp hb;refine EvM.of Tryz.func245 rfl ?_;simp only[Tryz.f245,evE,Nat.reduceAdd,Nat.reduceSub,Nat.reduceLT,Nat.reduceEqDiff,reduceCtorEq];refine CallE.intro c186 _ (mark_ev hL hr) (fun r h2 hh=>?_) (fun v h' hh=>by cases hh.1);obtain⟨e,rfl⟩:=hh;cases e
 by_cases hm:mkA ts p=[40]
 ·have d1:(mkA ts p==[40])=true:=by simpa using hm
  have hlt:p<ts.length:=mkA_eq hm;have hn2:Md.need ts (p+1) (.bin 1)≤f:=by clear w1;simp only[Md.need]at hf⊢;omega
  have epr:pr ts (f+1) .fs p=match pr ts f (.bin 1) (p+1)with
   |.bad q=>.bad q
   |.ok a q=>if mkA ts q=[41]then .ok a (q+1)else .bad q:=by
   rw[pr,if_pos hm]<;>cases pr ts f (.bin 1) (p+1)<;>rfl
  simp only[d1,hi,w1,evE,tyX,Nat.reduceAdd,Nat.reduceLT,Nat.reduceLeDiff,Nat.reduceEqDiff,reduceCtorEq];refine CallE.intro c114 _ ((H f (BL _)).bin 1 (by decide) (by decide) _ i (p+1) N ns hlt hn2 (hr.move (p+1)) (bnd1 hB (by clear w1;omega))) (fun r h3 hh=>?_) (fun v h3 hh=>?_)
  rotate_left
  ·cases e:pr ts f (.bin 1) (p+1)with
   |ok b q'=>rw[e]at hh;exact hh.ok_pan.elim
   |bad q'=>
    rw[e]at hh epr;show ResP L i N h2 ns (pr ts (f+1) .fs p) (.pan v) h3;rw[epr];exact hh.bad_of (fr_move _) fun k hk=>.inl hk
  cases e:pr ts f (.bin 1) (p+1)with
  |bad q'=>rw[e]at hh;exact hh.bad_ret.elim
  |ok a q=>
   rw[e]at hh epr;obtain⟨er,f3,N3,r3,n3⟩:=hh.ok_ret;subst er;have n3':∀ k,nbk N3 k→nbk N k∨h2.length≤k:=fun k hk=>(n3 k hk).imp id fun e=>by simpa using e
   have f03:Fr (RP i N) h2 h3:=Fr.more (fr_move _) f3 fun k hk=>.inl hk
   obtain⟨⟨g1,g2⟩,g3⟩:=pr_adv ts f (.bin 1) (p+1) a q hlt e;have epr2:pr ts (f+1) .fs p=if mkA ts q=[41]then .ok a (q+1)else .bad q:=epr
   simp only[evE,Nat.reduceLT,Nat.reduceEqDiff,reduceCtorEq];refine CallE.intro c282 _ (take_ev hL r3 (by clear w1;omega) [41]) (fun r h6 hh=>?_) (fun v h6 hh=>?_)
   rotate_left
   ·unfold TakeP at hh
    split at hh
    ·cases hh.1
    ·rename_i hm;obtain⟨e,rfl⟩:=hh;cases e;show ResP L i N h2 ns (pr ts (f+1) .fs p) (.pan (faultA q)) _;rw[epr2,if_neg hm];exact⟨f03,rfl⟩
   unfold TakeP at hh
   split at hh
   rotate_left
   ·cases hh.1
   rename_i hm6;obtain⟨e,rfl⟩:=hh;cases e;simp only[evE,Nat.reduceLT,Nat.reduceEqDiff,reduceCtorEq];exact ResP.ok_mk (t:=a) (q:=q+1) (by rw[epr2,if_pos hm6]) rfl (Fr.more f03 (fr_move _) n3') (r3.move (q+1)) rfl n3'
 ·have d1:(mkA ts p==[40])=false:=by simpa using hm
  have stop:pr ts (f+1) .fs p=.bad p→ResP L i N h2 ns (pr ts (f+1) .fs p) (.pan (faultA p)) h2:=fun e=>by rw[e];exact⟨Fr.refl _ _,rfl⟩
  have leaf:∀ (nd:Nd) (t:Tr) (h3 h4:List ABlk) (r:AV),pr ts (f+1) .fs p=.ok t (p+1)→lay t ns.length=[nd]→t.size=1→Fr (RP i N) h2 h3→PutP L i (p+1) N ns nd h3 (.ret r) h4→ResP L i N h2 ns (pr ts (f+1) .fs p) (.ret r) h4:=by
   intro nd t h3 h4 r e hl ht f3 ⟨e2,f4,N4,r4,n4⟩;cases e2;refine ResP.ok_mk (t:=t) (q:=p+1) e ?_ (Fr.more f3 f4 fun k hk=>.inl hk) r4 (by rw[hl]) (more_nbk f3.1 (fun k hk=>.inl hk) n4);rw[ht,Nat.add_sub_cancel]
  rcases hL with⟨rfl,rfl⟩|⟨b,m,cs,rfl,hcs⟩
  ·have hp0:p=0:=Nat.le_zero.1 hp;subst hp0;have d0:(((0:Nat):Int)==0)=true:=rfl;simp only[d1,evE,Nat.reduceLT,Nat.reduceEqDiff,reduceCtorEq]
   (repeat' (first|(with_reducible refine aI ?_ ?_)|(first|(first|refine gF ?_ ?_|refine gT ?_ ?_|refine cI ?_ ?_|refine pI ?_ ?_)<;>intro h|(refine dI ?_;have h:=trivial))<;>simp only[h,d1,hi,d0,evE,tyX,Bv,Bf,Nat.reduceAdd,Nat.reduceSub,Nat.reduceMul,Nat.reduceLT,Nat.reduceLeDiff,Nat.reduceEqDiff,reduceCtorEq,List.reduceReplicate,Int.reduceToNat,Int.reduceLE,Int.reduceLT]))
   exact stop (by rw[pr,if_neg hm];rfl)
  ·by_cases hlt:p<ts.length
   ·have d2:((p:Int)==(ts.length:Int))=false:=by simp only[beq_eq_false_iff_ne,ne_eq];clear w1;omega
    have ht:ts[p]?=some ts[p]:=by simp[hlt]
    generalize ts[p]=t at ht;have htk:=LAt.take hcs ht;have htl:=LAt.len hcs hlt;obtain⟨k0,k1,k2,k3,k4,k5⟩:=LAt.at hcs ht;have g1:∀ l,(h2++l)[i]?=some ⟨0,104,[.sl b ts.length m cs,.v (.int .i64 p),N]⟩:=fun l=>(Ba hr.lt).trans hi
    have s1:∀ x,(h2++[x])[h2.length]?=some x:=fun x=>by simp
    have s2:∀ x y,(h2++[x]).set h2.length y=h2++[y]:=fun x y=>by simp
    by_cases hk5:t.kind=5
    ·have d3:(t.kind==5)=true:=by simpa using hk5
     simp only[d1,evE,Nat.reduceLT,Nat.reduceEqDiff,reduceCtorEq]
     (repeat' (first|(with_reducible refine aI ?_ ?_)|(first|(first|refine gF ?_ ?_|refine gT ?_ ?_|refine cI ?_ ?_|refine pI ?_ ?_)<;>intro h|(refine dI ?_;have h:=trivial))<;>simp only[h,d1,hi,d2,d3,k0,evE,tyX,Bv,Bf,Nat.reduceAdd,Nat.reduceSub,Nat.reduceMul,Nat.reduceLT,Nat.reduceLeDiff,Nat.reduceEqDiff,reduceCtorEq,List.reduceReplicate,Int.reduceToNat,Int.reduceLE,Int.reduceLT]))
     ·exact hlt
     ·exact stop (by rw[pr,if_neg hm,ht];exact if_pos hk5)
    ·have d3:(t.kind==5)=false:=by simpa using hk5
     simp only[d1,evE,Nat.reduceLT,Nat.reduceEqDiff,reduceCtorEq];refine dI ?_;simp only[hi,d2,d3,k0,evE,tyX,Nat.reduceLT,Nat.reduceEqDiff,reduceCtorEq];refine⟨hlt,?_⟩;refine dX ?_;have htl2:6≤(cs.drop (p * 6)).length:=by rw[Bd];clear w1;omega
     have s3:∀ x y,((h2++[x]).set i y)[h2.length]?=some x:=fun x y=>(Bn (by have:=hr.lt;omega)).trans (s1 x)
     have rm:=(hr.app [⟨0,53,t.cells⟩]).move (p+1);have fm:Fr (RP i N) h2 ((h2++[(⟨0,53,t.cells⟩:ABlk)]).set i ⟨0,104,[.sl b ts.length m cs,.v (.int .i64 ((p+1:Nat):Int)),N]⟩):=Fr.more (N':=N) (Fr.app _ _) (fr_move _) fun k hk=>.inl hk
     have hB1:(ns.length+1) * 96≤140737488355328:=BM (Nat.mul_le_mul_right 96 (by clear w1;omega)) hB
     by_cases h2':t.kind=2
     ·have e2:(t.kind==2)=true:=by simpa using h2'
      simp only[hi,htk,htl2,Tk.cells,g1,s1,s2,s3,w1,e2,evE,tyX,Nat.reduceAdd,Nat.reduceLT,Nat.reduceLeDiff,Nat.reduceEqDiff,reduceCtorEq];refine⟨hlt,?_⟩;refine CallE.intro c188 _ (put_ev rm ⟨1,0,0,[],1,t.int,0,[]⟩ hB1) (fun r h4 hh=>?_) (fun v h2 hh=>by cases hh.1);simp only[evE,Nat.reduceLT,Nat.reduceEqDiff,reduceCtorEq];exact leaf _ (.lf 1 [] 1 t.int 0 []) _ _ _ (by rw[pr,if_neg hm,ht];simp only[if_neg hk5,if_pos h2']) rfl rfl fm hh
     have e2:(t.kind==2)=false:=by simpa using h2'
     by_cases h3':t.kind=3
     ·have e3:(t.kind==3)=true:=by simpa using h3'
      simp only[hi,htk,htl2,Tk.cells,g1,s1,s2,s3,w1,e2,e3,evE,tyX,Nat.reduceAdd,Nat.reduceLT,Nat.reduceLeDiff,Nat.reduceEqDiff,reduceCtorEq];refine⟨hlt,?_⟩;refine CallE.intro c188 _ (put_ev rm ⟨1,0,0,[],2,0,t.real,[]⟩ hB1) (fun r h4 hh=>?_) (fun v h2 hh=>by cases hh.1);simp only[evE,Nat.reduceLT,Nat.reduceEqDiff,reduceCtorEq];exact leaf _ (.lf 1 [] 2 0 t.real []) _ _ _ (by rw[pr,if_neg hm,ht];simp only[if_neg hk5,if_neg h2',if_pos h3']) rfl rfl fm hh
     have e3:(t.kind==3)=false:=by simpa using h3'
     by_cases h4':t.kind=4
     ·have e4:(t.kind==4)=true:=by simpa using h4'
      simp only[hi,htk,htl2,Tk.cells,g1,s1,s2,s3,w1,e2,e3,e4,evE,tyX,Nat.reduceAdd,Nat.reduceLT,Nat.reduceLeDiff,Nat.reduceEqDiff,reduceCtorEq];refine⟨hlt,?_⟩;refine CallE.intro c188 _ (put_ev rm ⟨1,0,0,[],4,0,0,t.text⟩ hB1) (fun r h4 hh=>?_) (fun v h2 hh=>by cases hh.1);simp only[evE,Nat.reduceLT,Nat.reduceEqDiff,reduceCtorEq];exact leaf _ (.lf 1 [] 4 0 0 t.text) _ _ _ (by rw[pr,if_neg hm,ht];simp only[if_neg hk5,if_neg h2',if_neg h3',if_pos h4']) rfl rfl fm hh
     have e4:(t.kind==4)=false:=by simpa using h4'
     simp only[hi,htk,htl2,Tk.cells,g1,s1,s2,s3,w1,e2,e3,e4,evE,tyX,Nat.reduceAdd,Nat.reduceLT,Nat.reduceLeDiff,Nat.reduceEqDiff,reduceCtorEq];refine⟨hlt,?_⟩;have epr:pr ts (f+1) .fs p=pr ts f (.nm t.text) (p+1):=by rw[pr,if_neg hm,ht];simp only[if_neg hk5,if_neg h2',if_neg h3',if_neg h4']
     have hn2:Md.need ts (p+1) (.nm t.text)≤f:=by clear w1;simp only[Md.need]at hf⊢;omega
     refine CallE.intro c283 _ ((H f (BL _)).nm t.text _ i (p+1) N ns hlt hn2 rm (bnd1 hB (by clear w1;omega))) (fun r h4 hh=>?_) (fun v h4 hh=>?_)
     ·simp only[evE,Nat.reduceLT,Nat.reduceEqDiff,reduceCtorEq];rw[epr];cases e:pr ts f (.nm t.text) (p+1)with
      |bad q=>rw[e]at hh;exact hh.bad_ret.elim
      |ok a q=>
       rw[e]at hh;obtain⟨er,f4,N4,r4,n4⟩:=hh.ok_ret;subst er;exact ResP.ok_mk (t:=a) (q:=q) rfl rfl (Fr.more fm f4 fun k hk=>.inl hk) r4 rfl (more_nbk fm.1 (fun k hk=>.inl hk) n4)
     ·show ResP (.sl b ts.length m cs) i N h2 ns (pr ts (f+1) .fs p) (.pan v) h4
      rw[epr];cases e:pr ts f (.nm t.text) (p+1)with
      |bad q=>rw[e]at hh;exact hh.bad_of fm fun k hk=>.inl hk
      |ok a q=>rw[e]at hh;exact hh.ok_pan.elim
   ·have d2:((p:Int)==(ts.length:Int))=true:=by simp only[beq_iff_eq];clear w1;omega
    simp only[d1,evE,Nat.reduceLT,Nat.reduceEqDiff,reduceCtorEq]
    (repeat' (first|(with_reducible refine aI ?_ ?_)|(first|(first|refine gF ?_ ?_|refine gT ?_ ?_|refine cI ?_ ?_|refine pI ?_ ?_)<;>intro h|(refine dI ?_;have h:=trivial))<;>simp only[h,d1,hi,d2,evE,tyX,Bv,Bf,Nat.reduceAdd,Nat.reduceSub,Nat.reduceMul,Nat.reduceLT,Nat.reduceLeDiff,Nat.reduceEqDiff,reduceCtorEq,List.reduceReplicate,Int.reduceToNat,Int.reduceLE,Int.reduceLT]))
    exact stop (by rw[pr,if_neg hm,Bq (by clear w1;omega)])
variable {γ:List (Nat×AV)}
abbrev NoB:Nat→Prop:=fun _=>False
variable {sB:Tk→Bool} {all ts:List Tk} {from_:Nat} {L:AV}
theorem at_len(h:List ABlk)(x:ABlk)(l:List ABlk):(h++x::l)[h.length]?=some x:=by simp
theorem at_len1(h:List ABlk)(x y:ABlk)(l:List ABlk):(h++x::y::l)[h.length+1]?=some y:=by simp
abbrev IsI(i:Nat):Nat→Prop:=fun k=>k=i
theorem pr_ok(hL:LAt L ts)(hb:ts.length<4611686018427387904):∀ f,PrOk γ ts L f:=by
 intro f
 induction f using Nat.strongRecOn with
 |ind f ih=>
  cases f with
  |zero=>
   refine⟨fun n h1 h6 h i p N ns hp hf=>?_,fun h i p N ns hp hf=>?_,fun h i p N ns hp hf=>?_,fun s h i p N ns hp hf=>?_⟩<;>simp only[Md.need]at hf<;>omega
  |succ f=>
   have H:∀ g≤f,PrOk γ ts L g:=fun g hg=>ih g (Nat.lt_succ_of_le hg)
   exact⟨fun n h1 h6=>bin_step hL hb H h1 h6,un_step hL hb (H f (BL _)),fs_step hL hb H,fun s=>nm_step hL hb H s⟩
def readP(ts:List Tk)(p:Nat):Res:=pr ts (16 * ts.length+16) (.bin 1) p
theorem c60:bodyT Tp 60:=⟨_,Tryz.func60,by kernel_rfl,by kernel_rfl⟩
theorem c113:bodyT Tp 113:=⟨_,Tryz.func113,by kernel_rfl,by kernel_rfl⟩
theorem read1_none{h:List ABlk}{j:Nat}:EvD Tp γ 113 [.ptr j 0 0] h none fun h'=>h'=h:=by
 refine EvD.of Tryz.func113 rfl rfl ?_;simp only[recV,Tryz.f113,endR_ret,evE,tyX,Nat.reduceAdd,Nat.reduceSub,Nat.reduceLT,Nat.reduceEqDiff,reduceCtorEq]
 (repeat' (first|(with_reducible refine aI ?_ ?_)|(first|(first|refine gF ?_ ?_|refine gT ?_ ?_|refine cI ?_ ?_|refine pI ?_ ?_)<;>intro h|(refine dI ?_;have h:=trivial))<;>simp only[h,evE,tyX,Bv,Bf,Nat.reduceAdd,Nat.reduceSub,Nat.reduceMul,Nat.reduceLT,Nat.reduceLeDiff,Nat.reduceEqDiff,reduceCtorEq,List.reduceReplicate,Int.reduceToNat,Int.reduceLE,Int.reduceLT]))
 all_goals trace_state
theorem read1_some{h:List ABlk}{j q:Nat}{x:AV}(hj:h[j]?=some ⟨0,3,[x]⟩):EvD Tp γ 113 [.ptr j 0 0] h (some (faultA q)) fun h'=>h'=(h++[(⟨0,185,[.v (.int .i64 q)]⟩:ABlk)]).set j ⟨0,3,[.v (.int .i64 q)]⟩:=by
 have hl:j<h.length:=(Bs.1 hj).1;have s1:∀ x,(h++[x])[h.length]?=some x:=fun x=>by simp
 have s2:∀ x y,(h++[x]).set h.length y=h++[y]:=fun x y=>by simp
 have s3:∀ l,(h++l)[j]?=some ⟨0,3,[x]⟩:=fun l=>(Ba hl).trans hj
 refine EvD.of Tryz.func113 rfl rfl ?_;simp only[recV,faultA,Tryz.f113,endR_normal,s1,s2,s3,evE,tyX,Bv,Nat.reduceAdd,Nat.reduceSub,Nat.reduceLT,Nat.reduceLeDiff,Nat.reduceEqDiff,reduceCtorEq]
def ReadP(L:AV)(i:Nat)(N:AV)(h:List ABlk)(ns:List Nd)(r:Res)(o:Out)(h':List ABlk):Prop:=
 Fr (RP i N) h h'∧match r with
 |.ok t q=>o=.ret (.v (.int .i64 (-1)))∧∃ N',RS h' i L q N' (ns++lay t ns.length)∧∀ k,nbk N' k→nbk N k∨h.length≤k
 |.bad q=>o=.ret (.v (.int .i64 (q:Int)))
theorem read_ev(hL:LAt L ts)(hb:ts.length<4611686018427387904){h:List ABlk}{i p:Nat}{N:AV}{ns:List Nd}(hp:p≤ts.length)(hr:RS h i L p N ns)(hB:(ns.length+(ts.length-p)+1) * 96≤140737488355328):
  EvM Tp γ 60 [.ptr i 0 0] h (ReadP L i N h ns (readP ts p)):=by
 have s1:∀ x,(h++[x])[h.length]?=some x:=fun x=>by simp
 have hc:=(pr_ok (γ:=γ) hL hb (16 * ts.length+16)).bin 1 (by decide) (by decide) (h++[⟨0,3,[.v (.int .i64 0)]⟩]) i p N ns hp (by simp only[Md.need];omega) (hr.app _) hB;have hfr:Fr (RP i N) h (h++[⟨0,3,[.v (.int .i64 0)]⟩]):=Fr.app _ _;have hkeep:∀ h1,Fr (RP i N) (h++[⟨0,3,[.v (.int .i64 0)]⟩]) h1→h1[h.length]?=some ⟨0,3,[.v (.int .i64 0)]⟩:=fun h1 f=>f.at (s1 _) fun hk=>hk.elim (fun e=>by have:=hr.lt;omega) fun e=>by have:=hr.nlt e;omega
 refine EvM.ofD2 Tryz.func60 rfl ?_;have e0:(#[]:Array Operand).isEmpty=true:=rfl;simp only[kopsD,deferT,e0,Tryz.f60,evE,tyX,Nat.reduceAdd,Nat.reduceSub,Nat.reduceLT,Nat.reduceEqDiff,reduceCtorEq];refine CallE.intro c114 _ hc (fun r h1 hh=>?_) (fun v h1 hh=>?_)
 ·have hk:=hkeep h1 hh.1;simp only[hk,endDP_ret,endD,evE,tyX,Nat.reduceLT,Nat.reduceLeDiff,Nat.reduceEqDiff,reduceCtorEq];refine⟨c113,_,read1_none,fun h' e=>?_⟩;subst e;have hlt:h.length<h1.length:=(Bs.1 hk).1;have s2:∀ b,(h1.set h.length b)[h.length]?=some b:=fun b=>Be hlt
  simp only[s2,evE];show ReadP L i N h ns (pr ts (16 * ts.length+16) (.bin 1) p) _ _;cases e:pr ts (16 * ts.length+16) (.bin 1) p with
  |bad q=>rw[e]at hh;exact hh.bad_ret.elim
  |ok t q=>
   rw[e]at hh;obtain⟨_,f1,N1,r1,n1⟩:=hh.ok_ret;have n1':∀ k,nbk N1 k→nbk N k∨h.length+1≤k:=fun k hk=>(n1 k hk).imp id fun e=>by simpa using e
   have hj:h.length≠i:=by have:=hr.lt;omega
   have hnj:¬nbk N1 h.length:=fun hk=>(n1' _ hk).elim (fun e=>by have:=hr.nlt e;omega) fun e=>by omega
   exact⟨(Fr.more hfr f1 fun k hk=>.inl hk).trans (S1:=fun k=>k=h.length) (Fr.set _ rfl) fun k e=>.inr (by omega),rfl,N1,r1.setO hj hnj,fun k hk=>(n1' k hk).imp id fun e=>by omega⟩
 ·have hk:=hkeep h1 hh.1;have hlt:h.length<h1.length:=(Bs.1 hk).1;cases e:pr ts (16 * ts.length+16) (.bin 1) p with
  |ok t q=>rw[e]at hh;exact hh.ok_pan.elim
  |bad q=>
   rw[e]at hh;have ev:v=faultA q:=by have:=hh.2;cases this;rfl
   subst ev;simp only[endD,evE,tyX,Nat.reduceEqDiff,reduceCtorEq];refine⟨c113,_,read1_some hk,fun h' e'=>?_⟩;subst e';have s2:∀ l b,((h1++l).set h.length b)[h.length]?=some b:=fun l b=>Be (by rw[Bp];omega)
   simp only[s2,evE];show ReadP L i N h ns (pr ts (16 * ts.length+16) (.bin 1) p) _ _;rw[e];exact⟨((Fr.more hfr hh.1 fun k hk=>.inl hk).trans (S1:=fun _=>False) (Fr.app _ _) fun k e=>e.elim).trans (S1:=fun k=>k=h.length) (Fr.set _ rfl) fun k e=>.inr (by omega),rfl⟩
theorem NsAt.own{h:List ABlk}{N:AV}{ns:List Nd}(a:NsAt h N ns)(hn:0<ns.length):∃ j ver,N=.own j ver ns.length∧h[j]?=some ⟨ver,115,ndCells ns⟩:=by
 rcases a with⟨_,rfl⟩|a
 ·exact absurd hn (by decide)
 ·exact a
def tkOf(x:TokD×Nat):Tk:=⟨x.1.kind,x.1.text,x.1.int,x.1.real,x.2,x.1.size⟩
theorem tkOf_cells(x:TokD×Nat):(tkOf x).cells=tokCells x:=rfl
theorem tks_cells(L:List (TokD×Nat)):tkCells (L.map tkOf)=listCells L:=by
 induction L with
 |nil=>rfl
 |cons x L ih=>
  unfold tkCells listCells at *;rw[BA,BE,ih,BA,List.flatten_cons,tkOf_cells]
def okToks(l:List UInt8):Option (List (TokD×Nat)):=match (eachItems l).find? badI with
 |none=>some ((eachItems l).map fun x=>x.1)
 |some _=>none
def namedB(s:List UInt8):Bool:=match okToks s with
 |some [x]=>x.1.kind==1&&((x.1.size:Int)==(s.length:Int))
 |_=>false
theorem itemsF_head:∀ (f:Nat) (l:List UInt8) (i:Nat) (x:(TokD×Nat)×Int),x∈itemsF f l i→x.2=0→∃ s,headD s=.ok x.1.1∧1≤s.length
 |0,l,i,x,h,_=>by cases h
 |f+1,l,i,x,h,h0=>by
  rw[itemsF]at h
  split at h
  ·cases h
  ·rename_i hT
   split at h
   ·rename_i e he;rw[Bj]at h;subst h;exact absurd h0 (headD_err he)
   ·rename_i t ht
    rcases BI.1 h with rfl|h
    ·exact⟨_,ht,by rw[Bd];omega⟩
    ·exact itemsF_head f l _ x h h0
theorem okToks_head{l:List UInt8}{L:List (TokD×Nat)}(h:okToks l=some L){x:TokD×Nat}(hx:x∈L):∃ s,headD s=.ok x.1∧1≤s.length:=by
 unfold okToks at h
 split at h
 ·rename_i hn;cases h;obtain⟨y,hy,rfl⟩:=List.mem_map.1 hx
  have h0:y.2=0:=by
   have:=(List.find?_eq_none.1 hn) y hy;simpa[badI]using this
  unfold eachItems at hy
  split at hy
  ·rw[Bj]at hy;subst hy;cases h0
  ·exact itemsF_head _ _ _ y hy h0
 ·cases h
theorem textF_256(l:List UInt8):∀ (k i:Nat) (d q:List UInt8) (n:Nat),textF k l i d=some (q,n)→q.length≤256
 |0,i,d,q,n,h=>by cases h
 |k+1,i,d,q,n,h=>by
  rw[textF]at h
  split at h
  ·cases h
  ·split at h
   ·rename_i hc;cases h;exact hc.2
   ·split at h
    ·split at h
     ·cases h
     ·exact textF_256 l k _ _ q n h
    ·split at h
     ·cases h
     ·exact textF_256 l k _ _ q n h
theorem fzL_all(P:Program)(H:List ABlk)(b:Bool):∀ ys:List AV,(∀ y∈ys,∃ v,y=AV.v v)→fzL P H b ys ys
 |[],_=>by simp only[fzL]
 |y::ys,h=>by
  obtain⟨v,rfl⟩:=h y (List.mem_cons_self ..);simp only[fzL];exact⟨_,_,rfl,by simp only[fz],fzL_all P H b ys fun z hz=>h z (List.mem_cons_of_mem _ hz)⟩
theorem lend1{P:Program}{H:List ABlk}{i n:Nat}{k:ABlk}{ys:List AV}(h:H[i]?=some k)(hp:ys<+:k.cells)(hv:∀ y∈ys,∃ v,y=AV.v v):fzL P H true [.sl true n n ys] [.own i k.ver n]:=by
 simp only[fzL,fz];exact⟨_,_,rfl,.inr ⟨trivial,i,k,ys,rfl,h,BL _,.inl trivial,hp,fzL_all P H true ys hv⟩,rfl⟩
theorem bytes_v(l:List UInt8):∀ y∈l.map byteC,∃ v,y=AV.v v:=fun y hy=>by obtain⟨c,_,rfl⟩:=List.mem_map.1 hy;exact⟨_,rfl⟩
theorem nds_v(l:List Nd):∀ y∈ndCells l,∃ v,y=AV.v v:=fun y hy=>by
 obtain⟨n,_,hn⟩:=List.mem_flatMap.1 hy;simp only[Nd.cells,BI,List.not_mem_nil,or_false]at hn
 rcases hn with rfl|rfl|rfl|rfl|rfl|rfl|rfl|rfl|rfl<;>exact⟨_,rfl⟩
theorem noBor_list(L:List (TokD×Nat)):noBor (listA L)=true:=by
 cases L with
 |nil=>rfl
 |cons x L=>
  show (!false&&noBorL (listCells (x::L)))=true
  generalize x::L=L;unfold listCells
  induction L with
  |nil=>rfl
  |cons y L ih=>
   rw[BA,List.flatten_cons];show noBorL (tokCells y++_)=true;simp only[tokCells,tvals,BA,List.map_nil,Bc,Bi,noBorL,noBor,Bool.true_and];simpa using ih
def nodesA:List Nd→AV
 |[]=>.v (.slice none 0 0)
 |ns=>.sl false ns.length ns.length (ndCells ns)
theorem ty41:aggT Tp 41=some true∧sizeT Tp 41=some 1:=⟨by kernel_rfl,by kernel_rfl⟩
theorem flat_list(L:List (TokD×Nat)):flat (listA L)=some [listA L]:=by cases L<;>rfl
theorem one_list(L:List (TokD×Nat)):oneA (listA L)=true:=by cases L<;>rfl
theorem small_toks{l:List UInt8}{L:List (TokD×Nat)}(h:okToks l=some L):L.length≤32769:=by
 unfold okToks at h
 split at h
 ·cases h;rw[Bk];exact items_len l
 ·cases h
def iv(d:Nat):AV:=.v (.int .i64 (d:Int))
def dcs(ds:List Nat)(i:Nat):List AV:=(ds.take i).map iv++List.replicate (ds.length-i) (iv 0)
theorem dcs_length(ds:List Nat){i:Nat}(h:i≤ds.length):(dcs ds i).length=ds.length:=by
 simp only[dcs,Bp,Bk,Bh,BJ];omega
theorem dcs_at{ds:List Nat}{i j d:Nat}(hi:i≤ds.length)(hj:j<i)(hd:ds[j]?=some d):(dcs ds i)[j]?=some (iv d):=by
 unfold dcs;rw[Ba (by simp only[Bk,Bh];omega),Bm,BY,if_pos hj,hd];rfl
theorem dcs_set{ds:List Nat}{i d:Nat}(hd:ds[i]?=some d):(dcs ds i).set i (iv d)=dcs ds (i+1):=by
 have hi:i<ds.length:=(Bs.1 hd).1
 apply List.ext_getElem?
 intro j;rw[List.getElem?_set]
 by_cases hj:i=j
 ·subst hj;rw[if_pos rfl,dcs_length ds (by omega),if_pos hi,dcs_at (by omega) (by omega) hd]
 ·rw[if_neg hj];unfold dcs
  by_cases hj2:j<i
  ·rw[Ba (by simp only[Bk,Bh];omega),Ba (by simp only[Bk,Bh];omega),Bm,Bm,BY,BY,if_pos hj2,if_pos (by omega)]
  ·rw[Br (by simp only[Bk,Bh];omega),Br (by simp only[Bk,Bh];omega)];simp only[Bk,Bh,List.getElem?_replicate]
   by_cases hj3:j<ds.length
   ·rw[if_pos (by omega),if_pos (by omega)]
   ·rw[if_neg (by omega),if_neg (by omega)]
theorem dcs_zero(ds:List Nat):List.replicate ds.length (iv 0)=dcs ds 0:=by simp[dcs]
theorem tyZ:aggT Tp 115=some true∧
  aggT Tp 2=some false∧
  aggT Tp 22=some false∧
  aggT Tp 3=some false∧
  aggT Tp 37=some false∧
  aggT Tp 39=some false∧
  aggT Tp 48=some false∧
  aggT Tp 53=some true∧
  aggT Tp 9=some false∧
  elemT Tp 37=some 5∧
  elemT Tp 39=some 115∧
  elemT Tp 48=some 53∧
  elemT Tp 78=some 3∧
  fieldT Tp 104 0=some (0,48)∧
  fieldT Tp 104 1=some (1,3)∧
  fieldT Tp 104 2=some (2,39)∧
  fieldT Tp 115 0=some (0,3)∧
  fieldT Tp 115 1=some (1,3)∧
  fieldT Tp 115 2=some (2,3)∧
  fieldT Tp 53 0=some (0,3)∧
  fieldT Tp 53 1=some (1,9)∧
  fieldT Tp 53 2=some (2,2)∧
  fieldT Tp 53 3=some (3,22)∧
  fieldT Tp 53 4=some (4,3)∧
  fieldT Tp 53 5=some (5,3)∧
  fltT Tp 37=none∧
  intT Tp 37=none∧
  intT Tp 5=some .u8∧
  mkT Tp 78=some (3,1,[.v (.int .i64 0)])∧
  placesT Tp 104=some [(0,1),(1,1),(2,1)]∧
  placesT Tp 41=some [(0,1)]∧
  sizeT Tp 104=some 3∧
  sizeT Tp 115=some 9∧
  sizeT Tp 2=some 1∧
  sizeT Tp 22=some 1∧
  sizeT Tp 3=some 1∧
  sizeT Tp 37=some 1∧
  sizeT Tp 39=some 1∧
  sizeT Tp 41=some 1∧
  sizeT Tp 48=some 1∧
  sizeT Tp 5=some 1∧
  sizeT Tp 53=some 6∧
  sizeT Tp 9=some 1∧
  strT Tp 37=false∧
  strT Tp 9=true∧
  (Tryz.prog.underlying 9).isSome=true∧
  zcT Tp 104=some [.v (.slice none 0 0),.v (.int .i64 0),.v (.slice none 0 0)]∧
  zcT Tp 115=some [.v (.int .i64 0),.v (.int .i64 0),.v (.int .i64 0),.v (.string ⟨#[]⟩),.v (.int .i64 0),.v (.int .i64 0),.v (.float .f64 0),.v (.complex .f64 0 0),.v (.string ⟨#[]⟩)]∧
  zcT Tp 41=some [.v (.slice none 0 0)]∧
  zcT Tp 48=some [.v (.slice none 0 0)]:=
 (by and_intros<;>kernel_rfl)
def limS(γ:List (Nat×AV))(t:Tr)(i:Nat):St:=
 ⟨⟨58,[(0,.sl true (lay t 0).length (lay t 0).length (ndCells (lay t 0))),(3,.own 0 0 (lay t 0).length),(12,.sl true (lay t 0).length (lay t 0).length (ndCells (lay t 0))),(13,.v (.int .i64 ((lay t 0).length:Int))),(14,.v (.int .i64 (i:Int)))],γ⟩,[⟨0,3,dcs (dps t) i⟩]⟩
def limI(t:Tr)(i:Nat):Prop:=i≤t.size∧∀ j,j<i→∀ d,(dps t)[j]?=some d→d≤12
theorem ndCells_take9{l:List Nd}{i:Nat}{nd:Nd}(h:l[i]?=some nd):((ndCells l).drop (i * 9)).take 9=nd.cells:=by
 induction l generalizing i with
 |nil=>cases h
 |cons x l ih=>
  unfold ndCells at ih⊢;rw[BE];cases i with
  |zero=>
   simp only[Bz,Option.some.injEq]at h;subst h
   rfl
  |succ i=>
   have e:(i+1) * 9=(Nd.cells x).length+i * 9:=by simp only[Nd.cells,BC,BD];omega
   rw[e,←BT,List.drop_left];exact ih (by simpa using h)
theorem okRefL_dcs(n:Nat)(ds:List Nat)(i:Nat):okRefL n (dcs ds i)=true:=by
 unfold dcs;rw[okRefL_append,Bool.and_eq_true]
 constructor
 ·generalize ds.take i=l
  induction l with
  |nil=>rfl
  |cons x l ih=>rw[BA,okRefL,ih];rfl
 ·generalize ds.length-i=k
  induction k with
  |zero=>rfl
  |succ k ih=>rw[List.replicate_succ,okRefL,ih];rfl
theorem limits_ev(t:Tr)(hw:t.wf)(hb:t.size<4611686018427387904):Ev Tp γ 61 [.sl true (lay t 0).length (lay t 0).length (ndCells (lay t 0))] (.v (.int .i64 (limK t.size t.deep))):=by
 have hlen:=lay_length t 0;have hdl:=dps_length t;refine Ev.of Tryz.func61 rfl ?_
 by_cases h64:64<t.size
 ·have d1:decide ((64:Int)<(((lay t 0).length:Nat):Int))=true:=decide_eq_true (by omega);have e1:limK t.size t.deep=52:=if_pos h64;rw[e1];simp only[Tryz.f61,d1,evE,tyX,Nat.reduceAdd,Nat.reduceSub,Nat.reduceLT,Nat.reduceEqDiff,reduceCtorEq]
 ·have d1:decide ((64:Int)<(((lay t 0).length:Nat):Int))=false:=decide_eq_false (by omega)
  have hrep:rowsA (.int .i64 0) (lay t 0).length=dcs (dps t) 0:=by
   rw[hlen,←hdl,←dcs_zero];unfold rowsA;generalize (dps t).length=k
   induction k with
   |zero=>rfl
   |succ k ih=>rw[List.replicate_succ,List.flatten_cons,ih];rfl
  have b3:bytesT Tp 3=some 8:=by kernel_rfl
  have z3:Ev.zeroT Tp 3=some (.int .i64 0):=by kernel_rfl
  have l3:(zeroCells (.int .i64 0)).length=1:=rfl;simp only[Tryz.f61,tyZ,d1,b3,z3,l3,hrep,evE,tyX,Nat.reduceAdd,Nat.reduceSub,Nat.reduceLT,Nat.reduceEqDiff,reduceCtorEq];refine⟨⟨Int.le_refl _,by omega,by omega⟩,?_⟩;refine LoopK.intro (limS γ t) (limI t) (fun i=>t.size-i) 0 ?_ ⟨BN _,fun j hj=>by omega⟩ (fun i hi=>?_)
  ·refine⟨rfl,rfl,⟨rfl,rfl,rfl,rfl,rfl,trivial⟩,.inl rfl⟩
  ·obtain⟨hi1,hi2⟩:=hi;have hcl:=dcs_length (dps t) (i:=i) (by omega)
   by_cases hlt:i<t.size
   ·have d2:decide (i<(lay t 0).length)=true:=decide_eq_true (by omega);obtain⟨nd,hnd⟩:∃ nd,(lay t 0)[i]?=some nd:=⟨(lay t 0)[i]'(by omega),by simp[hlen,hlt]⟩;obtain⟨d,hd,hN⟩:=nodes_at t hw 0 i nd hnd;have h9:=ndCells_take9 hnd;have h9l:9≤((ndCells (lay t 0)).drop (i * 9)).length:=by rw[Bd,ndCells_length];omega
    have w1:IntKind.i64.wrap ((i:Int)+1)=((i+1:Nat):Int):=(i64w (by omega) (by omega)).trans (by omega);have hset:=dcs_set hd;have hil:i+1≤(dps t).length:=by omega
    have hin:i<(lay t 0).length:=by omega
    have q1:∀ x,((dcs (dps t) i).set i x)[i]?=some x:=fun x=>Be (by omega)
    have q2:∀ a x y,a<i→(dps t)[a]?=some y→((dcs (dps t) i).set i x)[a]?=some (.v (.int .i64 (y:Int))):=fun a x y ha hy=>(Bn (by omega)).trans (dcs_at (by omega) ha hy)
    simp only[limS,tyZ,d2,h9,h9l,hcl,hil,Nd.cells,evE,tyX,Nat.reduceAdd,Nat.reduceLT,Nat.reduceLeDiff,Nat.reduceEqDiff,reduceCtorEq];refine⟨hin,hin,CallK.intro c115 rfl (children_ev _) ?_⟩;have trm:∀ a x,(dps t)[a]?=some x→a<i→x≤12:=fun a x h ha=>hi2 a ha x h
    have z2:((0:Int)==2)=false:=rfl;have z1:((0:Int)==1)=false:=rfl;have y2:((1:Int)==2)=false:=rfl;have y1:((1:Int)==1)=true:=rfl;have x2:((2:Int)==2)=true:=rfl
    rcases hN with⟨hk,hd1⟩|⟨hk,a,x,hA,ha,hx,hx1,hdx⟩|⟨hk,a,x,b,y,hA,hB,ha,hbb,hx,hy,hdx⟩
    ·subst hd1;have hset:(dcs (dps t) i).set i (.v (.int .i64 1))=dcs (dps t) (i+1):=dcs_set hd;have q9:(dcs (dps t) (i+1))[i]?=some (.v (.int .i64 1)):=dcs_at (by omega) (by omega) hd;have hcl2:=dcs_length (dps t) (i:=i+1) (by omega);have h12:¬12<1:=by decide
     simp only[tyZ,hk,z2,z1,hset,q9,w1,evE,tyX,Nat.reduceLT,Nat.reduceEqDiff,reduceCtorEq,Int.reduceLT];refine⟨hin,?_⟩;refine loopC.intro (i+1) ⟨hlt,fun j hj d' hd'=>?_⟩ ?_ (by omega)
     ·by_cases e:j=i
      ·subst e;rw[hd]at hd';cases hd';omega
      ·exact hi2 j (by omega) d' hd'
     ·exact⟨rfl,rfl,⟨rfl,rfl,rfl,rfl,rfl,trivial⟩,.inr ⟨rfl,rfl,by show okRefB 1 [⟨0,3,dcs (dps t) (i+1)⟩]=true;simp only[okRefB,okRefL_dcs,Bool.and_self]⟩⟩
    ·subst hdx;have hx12:=trm a x hx ha;have hA':nd.a=(a:Int):=by rw[hA,Nat.zero_add]
     have han:a<(lay t 0).length:=by omega
     have q3:=q2 a (.v (.int .i64 1)) x ha hx;have w3:IntKind.i64.wrap (1+(x:Int))=((x+1:Nat):Int):=(i64w (by omega) (by omega)).trans (by omega);have m1:(if ((x+1:Nat):Int)>1 then ((x+1:Nat):Int)else 1)=((x+1:Nat):Int):=if_pos (by clear w3;omega);have qa:=q1 (.v (.int .i64 1));have hcs:((dcs (dps t) i).set i (.v (.int .i64 1))).length=(dps t).length:=by rw[Bl];exact hcl
     have hal:a+1≤(dps t).length:=by clear w3;omega
     have hset:(dcs (dps t) i).set i (.v (.int .i64 (x+1:Nat)))=dcs (dps t) (i+1):=dcs_set hd;have q9:(dcs (dps t) (i+1))[i]?=some (.v (.int .i64 (x+1:Nat))):=dcs_at (by omega) (by omega) hd;have hcl2:=dcs_length (dps t) (i:=i+1) (by omega)
     by_cases h12:12<x+1
     ·have d3:decide ((12:Int)<((x+1:Nat):Int))=true:=decide_eq_true (by omega)
      have e51:limK t.size t.deep=51:=by
       have:=dps_le t _ (List.mem_of_getElem? hd);unfold limK;rw[if_neg h64,if_pos (by omega)]
      rw[e51];simp only[tyZ,hk,y2,y1,hA',qa,evE,tyX,Nat.reduceLT,Nat.reduceEqDiff,reduceCtorEq,Int.reduceLT];refine dI ?_;simp only[tyZ,hcl,hil,qa,q3,w3,m1,List.set_set,hset,q9,d3,evE,tyX,Nat.reduceLT,Nat.reduceEqDiff,reduceCtorEq];exact⟨hin,han,hin⟩
     ·have d3:decide ((12:Int)<((x+1:Nat):Int))=false:=decide_eq_false (by omega);simp only[tyZ,hk,y2,y1,hA',qa,w1,evE,tyX,Nat.reduceLT,Nat.reduceEqDiff,reduceCtorEq,Int.reduceLT];refine dI ?_;simp only[tyZ,hcl,hil,qa,q3,w3,m1,List.set_set,hset,q9,d3,w1,evE,tyX,Nat.reduceLT,Nat.reduceEqDiff,reduceCtorEq];refine⟨hin,han,hin,hin,?_⟩;refine loopC.intro (i+1) ⟨hlt,fun j hj d' hd'=>?_⟩ ?_ (by omega)
      ·by_cases e:j=i
       ·subst e;rw[hd]at hd';cases hd';omega
       ·exact hi2 j (by omega) d' hd'
      ·exact⟨rfl,rfl,⟨rfl,rfl,rfl,rfl,rfl,trivial⟩,.inr ⟨rfl,rfl,by show okRefB 1 [⟨0,3,dcs (dps t) (i+1)⟩]=true;simp only[okRefB,okRefL_dcs,Bool.and_self]⟩⟩
    ·subst hdx;have hx12:=trm a x hx ha;have hy12:=trm b y hy hbb;have hA':nd.a=(a:Int):=by rw[hA,Nat.zero_add]
     have hB':nd.b=(b:Int):=by rw[hB,Nat.zero_add]
     have hbn:b<(lay t 0).length:=by omega
     have q4:=q2 b (.v (.int .i64 1)) y hbb hy;have han:a<(lay t 0).length:=by omega
     have q3:=q2 a (.v (.int .i64 ((y+1:Nat):Int))) x ha hx;have w3:IntKind.i64.wrap (1+(x:Int))=((x+1:Nat):Int):=(i64w (by omega) (by omega)).trans (by omega);have w4:IntKind.i64.wrap (1+(y:Int))=((y+1:Nat):Int):=(i64w (by clear w3;omega) (by clear w3;omega)).trans (by clear w3;omega);have m1:(if y+1<x+1 then ((x+1:Nat):Int)else ((y+1:Nat):Int))=((max x y+1:Nat):Int):=by clear w3 w4;split<;>omega
     have qa:=q1 (.v (.int .i64 ((y+1:Nat):Int)));have hcs:((dcs (dps t) i).set i (.v (.int .i64 1))).length=(dps t).length:=by rw[Bl];exact hcl
     have hal:a+1≤(dps t).length:=by clear w3 w4;omega
     have hbl:b+1≤(dps t).length:=by clear w3 w4;omega
     have hset:(dcs (dps t) i).set i (.v (.int .i64 (max x y+1:Nat)))=dcs (dps t) (i+1):=dcs_set hd;have q9:(dcs (dps t) (i+1))[i]?=some (.v (.int .i64 (max x y+1:Nat))):=dcs_at (by omega) (by omega) hd;have hcl2:=dcs_length (dps t) (i:=i+1) (by omega)
     by_cases h12:12<max x y+1
     ·have d3:decide ((12:Int)<((max x y+1:Nat):Int))=true:=decide_eq_true (by omega)
      have e51:limK t.size t.deep=51:=by
       have:=dps_le t _ (List.mem_of_getElem? hd);unfold limK;rw[if_neg h64,if_pos (by omega)]
      rw[e51];simp only[tyZ,hk,x2,hA',hB',q4,w4,hcl,hil,List.set_set,evE,tyX,Nat.reduceLT,Nat.reduceEqDiff,reduceCtorEq];refine⟨hbn,hin,?_⟩;refine dI ?_;simp only[tyZ,hcl,hil,qa,q3,w3,m1,List.set_set,hset,q9,d3,evE,tyX,Nat.reduceLT,Nat.reduceEqDiff,reduceCtorEq];exact⟨hin,han,hin⟩
     ·have d3:decide ((12:Int)<((max x y+1:Nat):Int))=false:=decide_eq_false (by omega);simp only[tyZ,hk,x2,hA',hB',q4,w4,hcl,hil,List.set_set,w1,evE,tyX,Nat.reduceLT,Nat.reduceEqDiff,reduceCtorEq];refine⟨hbn,hin,?_⟩;refine dI ?_;simp only[tyZ,hcl,hil,qa,q3,w3,m1,List.set_set,hset,q9,d3,w1,evE,tyX,Nat.reduceLT,Nat.reduceEqDiff,reduceCtorEq];refine⟨hin,han,hin,hin,?_⟩;refine loopC.intro (i+1) ⟨hlt,fun j hj d' hd'=>?_⟩ ?_ (by omega)
      ·by_cases e:j=i
       ·subst e;rw[hd]at hd';cases hd';omega
       ·exact hi2 j (by omega) d' hd'
      ·exact⟨rfl,rfl,⟨rfl,rfl,rfl,rfl,rfl,trivial⟩,.inr ⟨rfl,rfl,by show okRefB 1 [⟨0,3,dcs (dps t) (i+1)⟩]=true;simp only[okRefB,okRefL_dcs,Bool.and_self]⟩⟩
   ·have d2:decide (i<(lay t 0).length)=false:=decide_eq_false (by omega)
    have e0:limK t.size t.deep=0:=by
     unfold limK;have:=hi2 (t.size-1) (by have:=size_pos t;omega) _ (dps_last t);rw[if_neg h64,if_neg (by omega)]
    rw[e0];simp only[limS,d2,evE,Nat.reduceLT,Nat.reduceEqDiff,reduceCtorEq]
theorem c58:bodyT Tp 58:=⟨_,Tryz.func58,by kernel_rfl,by kernel_rfl⟩
theorem c61:bodyT Tp 61:=⟨_,Tryz.func61,by kernel_rfl,by kernel_rfl⟩
theorem lenS48(s:List ABlk)(L:List (TokD×Nat)):lenS Tp 48 s (listA L)=some (.v (.int .i64 L.length)):=by
 have e24:elemT Tp 48=some 53:=by kernel_rfl
 cases L with
 |nil=>simp only[listA,lenS,e24];rfl
 |cons y T=>simp only[listA,lenS,e24];rfl
theorem scan_okToks{l:List UInt8}{L:List (TokD×Nat)}(h:okToks l=some L):scanA l=.tup [listA L,.v (.int .i64 0),.v (.int .i64 0)]:=by
 unfold okToks at h;unfold scanA scanAL;cases e:(eachItems l).find? badI with
 |none=>rw[e]at h;cases h;rfl
 |some x=>rw[e]at h;cases h
theorem scan_noToks{l:List UInt8}(h:okToks l=none):∃ x,(eachItems l).find? badI=some x∧x.2≠0∧scanA l=.tup [.v (.slice none 0 0),.v (.int .i64 x.1.2),.v (.int .i64 x.2)]:=by
 unfold okToks at h;unfold scanA scanAL;cases e:(eachItems l).find? badI with
 |none=>rw[e]at h;cases h
 |some x=>exact⟨x,rfl,by simpa[badI]using List.find?_some e,rfl⟩
def finR(r:Nat):Bool:=match Ieee.double.read r with
 |.number false _ _=>true
 |_=>false
theorem read_cases(r:Nat):(∃ s f,Ieee.double.read r=.nan s f)∨(∃ s,Ieee.double.read r=.infinity s)∨∃ s m i,Ieee.double.read r=.number s m i∧m<9007199254740992 ∧ -1074≤i∧i≤971:=by
 have e1:Ieee.double.leastPlace = -1074:=by rfl
 have e2:Ieee.double.binade=4503599627370496:=by rfl
 have e3:Ieee.double.infRung=9218868437227405312:=by rfl
 have e4:Ieee.double.signWeight=9223372036854775808:=by rfl
 unfold Ieee.Format.read;simp only[e1,e2,e3,e4];generalize r%9223372036854775808=u
 split
 ·exact .inr (.inr ⟨_,_,_,rfl,by omega,by omega,by omega⟩)
 ·split
  ·refine .inr (.inr ⟨_,_,_,rfl,by omega,by omega,?_⟩);have:u / 4503599627370496≤2046:=by omega
   omega
  ·split
   ·exact .inr (.inl ⟨_,rfl⟩)
   ·exact .inl ⟨_,_,rfl⟩
theorem read_neg(r:Nat):(Ieee.double.read r).neg=(r / 9223372036854775808%2==1):=by
 have e4:Ieee.double.signWeight=9223372036854775808:=by rfl
 unfold Ieee.Format.read;simp only[e4]
 split
 ·rfl
 ·split
  ·rfl
  ·split<;>rfl
theorem ord_num{r m:Nat}{s:Bool}{i:Int}(h:Ieee.double.read r=.number s m i)(hi : -1074≤i):Ieee.double.order r 0=some (if m=0 then .eq else if s then .lt else .gt):=by
 unfold Ieee.Format.order;rw[h,rd0];simp only[Ieee.Datum.order,Ieee.signed,Bool.false_eq_true,if_false,Nat.shiftLeft_eq,Nat.zero_mul];have hp:=one_le_pow (i-min i (-1074)).toNat
 by_cases hm:m=0
 ·subst hm;rw[if_pos rfl,Nat.zero_mul];cases s<;>rfl
 ·have hA:0<m * 2^(i-min i (-1074)).toNat:=Nat.mul_pos (by omega) hp;generalize m * 2^(i-min i (-1074)).toNat=A at *;rw[if_neg hm];cases s with
  |false=>
   have:compare ((A:Nat):Int) ((0:Nat):Int)=.gt:=by rw[Int.compare_eq_gt];omega
   simp only[Bool.false_eq_true,if_false,this]
  |true=>
   have:compare (-((A:Nat):Int)) ((0:Nat):Int)=.lt:=by rw[Int.compare_eq_lt];omega
   simp only[if_true,this]
theorem ord_max_num{r m:Nat}{s:Bool}{i:Int}(h:Ieee.double.read r=.number s m i)(hm:m<9007199254740992)(hi:i≤971):(Ieee.double.order r 9218868437227405311==some .gt)=false:=by
 unfold Ieee.Format.order;rw[h,rdMax];simp only[Ieee.Datum.order,Ieee.signed,Bool.false_eq_true,if_false,Nat.shiftLeft_eq];have e1:(i-min i 971).toNat=0:=by omega
 rw[e1];have hp:=one_le_pow (971-min i 971).toNat;have:9007199254740991≤9007199254740991 * 2^(971-min i 971).toNat:=Nat.le_mul_of_pos_right _ hp;generalize 9007199254740991 * 2^(971-min i 971).toNat=A at *
 have key:∀ x:Int,x≤m→(some (compare x ((A:Nat):Int))==some Ordering.gt)=false:=fun x hx=>by
  have:compare x ((A:Nat):Int)≠.gt:=by rw[Ne,Int.compare_eq_gt];omega
  cases hc:compare x ((A:Nat):Int)with
  |gt=>exact absurd hc this
  |lt=>rfl
  |eq=>rfl
 cases s with
 |false=>exact key _ (by simp)
 |true=>exact key _ (by simp only[if_true];omega)
theorem ord_nan{r x f:Nat}{s:Bool}(h:Ieee.double.read r=.nan s f):Ieee.double.order r x=none:=by
 unfold Ieee.Format.order;rw[h];rfl
theorem ord_inf{r:Nat}{s:Bool}(h:Ieee.double.read r=.infinity s):Ieee.double.order r 0=some (if s then .lt else .gt)∧Ieee.double.order r 9218868437227405311=some (if s then .lt else .gt)∧Ieee.double.sub r r=none:=by
 unfold Ieee.Format.order Ieee.Format.sub;rw[h,rd0,rdMax];cases s<;>exact⟨rfl,rfl,rfl⟩
def standB(t:Tk):Bool:=if t.kind=1 then namedB t.text else if t.kind=2 then decide (0≤t.int)else if t.kind=3 then finR t.real else if t.kind=4 then decide (t.text.length≤256)else t.kind==5
theorem q1:(some Ordering.gt==some Ordering.gt)=true:=rfl
theorem q2:(some Ordering.gt==some Ordering.eq)=false:=rfl
theorem q3:(some Ordering.eq==some Ordering.gt)=false:=rfl
theorem q4:(some Ordering.eq==some Ordering.eq)=true:=rfl
theorem q5:(some Ordering.lt==some Ordering.gt)=false:=rfl
theorem q6:(some Ordering.lt==some Ordering.eq)=false:=rfl
theorem q7:((none:Option Ordering)==some Ordering.gt)=false:=rfl
theorem q8:((none:Option Ordering)==some Ordering.eq)=false:=rfl
theorem c67:bodyT Tp 67:=⟨_,Tryz.func67,by kernel_rfl,by kernel_rfl⟩
theorem c66:bodyT Tp 66:=⟨_,Tryz.func66,by kernel_rfl,by kernel_rfl⟩
theorem c121:bodyT Tp 121:=⟨_,Tryz.func121,by kernel_rfl,by kernel_rfl⟩
theorem c119:bodyT Tp 119:=⟨_,Tryz.func119,by kernel_rfl,by kernel_rfl⟩
theorem c120:bodyT Tp 120:=⟨_,Tryz.func120,by kernel_rfl,by kernel_rfl⟩
theorem noBor_scan(l:List UInt8):noBor (scanA l)=true:=by
 cases e:okToks l with
 |none=>
  obtain⟨x,_,_,hr⟩:=scan_noToks e;rw[hr];rfl
 |some L=>rw[scan_okToks e];simp only[noBor,noBorL,noBor_list,Bool.and_self]
theorem named_ev(hγ:Gl γ)(hγ2:GlW γ)(s:List UInt8)(hs:s.length≤140737488351232):Ev Tp γ 121 [.v (.string ⟨s.toArray⟩)] (.v (.bool (namedB s))):=by
 refine Ev.of Tryz.func121 rfl ?_;simp only[Tryz.f121,tyZ,evE,Nat.reduceAdd,Nat.reduceSub,Nat.reduceLT,Nat.reduceEqDiff,reduceCtorEq];refine⟨by omega,CallK.lend c58 _ (lend1 (k:=⟨0,5,s.map byteC⟩) rfl BB (bytes_v s)) (lexScan_ev hγ hγ2 true s hs) ?_ ?_⟩
 ·exact noBor_scan s
 cases e:okToks s with
 |none=>
  obtain⟨x,_,hk,hr⟩:=scan_noToks e;have d1:(x.2==0)=false:=by simpa using hk
  have en:namedB s=false:=by unfold namedB;rw[e]
  rw[hr,en];simp only[d1,evE,Nat.reduceLT,Nat.reduceEqDiff,reduceCtorEq]
 |some L=>
  rw[scan_okToks e];have ll:=lenS48 [⟨0,5,s.map byteC⟩] L;have z0:((0:Int)==0)=true:=rfl;simp only[ll,z0,evE,Nat.reduceLT,Nat.reduceEqDiff,reduceCtorEq]
  match L,e with
  |[],e=>
   have en:namedB s=false:=by unfold namedB;rw[e]
   rw[en];have n0:(((0:Nat):Int)==1)=false:=rfl;simp only[n0,evE,Nat.reduceLT,Nat.reduceEqDiff,reduceCtorEq]
  |[x],e=>
   have en:namedB s=(x.1.kind==1&&((x.1.size:Int)==(s.length:Int))):=by unfold namedB;rw[e]
   rw[en];have n1:(((1:Nat):Int)==1)=true:=rfl;simp only[n1,listA,listCells,tokCells,tvals,evE,tyX,Nat.reduceAdd,Nat.reduceLT,Nat.reduceLeDiff,Nat.reduceEqDiff,reduceCtorEq,Int.reduceLE]
   by_cases hk:x.1.kind=1
   ·have d1:(x.1.kind==1)=true:=by simpa using hk
    simp only[tyZ,d1,evE,tyX,Nat.reduceLT,Nat.reduceLeDiff,Nat.reduceEqDiff,reduceCtorEq,Int.reduceLE]
    decide
   ·have d1:(x.1.kind==1)=false:=by simpa using hk
    simp only[d1,evE,Nat.reduceLT,Nat.reduceEqDiff,reduceCtorEq];exact⟨by decide,rfl⟩
  |x::y::L,e=>
   have en:namedB s=false:=by unfold namedB;rw[e]
   rw[en];have n2:(((L.length+1+1:Nat):Int)==1)=false:=by simp only[beq_eq_false_iff_ne,ne_eq];omega
   simp only[n2,evE,Nat.reduceLT,Nat.reduceEqDiff,reduceCtorEq]
theorem isInf1_ev(r:Nat):Ev Tp γ 119 [.v (.float .f64 r),.v (.int .i64 1)] (.v (.bool (FloatKind.f64.format.order r 9218868437227405311==some .gt))):=by
 refine Ev.of Tryz.func119 rfl ?_;have h00:((1:Int)==0)=false:=by decide
 have h01:decide ((1:Int)<0)=false:=by decide
 simp only[Tryz.f119,h00,evE,Nat.reduceAdd,Nat.reduceSub,Nat.reduceLT,Nat.reduceEqDiff,reduceCtorEq,Int.reduceLT]
theorem sign_bit(r:Nat)(h:r<18446744073709551616):decide (IntKind.i64.wrap (r:Int)<0)=(Ieee.double.read r).neg:=by
 rw[read_neg]
 by_cases hr:r<9223372036854775808
 ·have e1:r / 9223372036854775808=0:=Nat.div_eq_of_lt hr;rw[i64w (by omega) (by omega),e1];exact decide_eq_false (by omega)
 ·have e1:r / 9223372036854775808=1:=by omega
  have e2:IntKind.i64.wrap (r:Int)=(r:Int)-18446744073709551616:=by
   have b1:IntKind.i64.bits=64:=rfl;have b2:IntKind.i64.signed=true:=rfl;have m1:(r:Int)%18446744073709551616=r:=by omega
   unfold IntKind.wrap;rw[b1,b2];show (if (true&&decide ((r:Int)%18446744073709551616≥9223372036854775808))=true then (r:Int)%18446744073709551616-18446744073709551616 else (r:Int)%18446744073709551616)=_;rw[m1,if_pos (by simp;omega)]
  rw[e1,e2];exact decide_eq_true (by omega)
theorem ty2:intT Tp 2=some .i64∧(Tryz.prog.underlying 176).isSome=true:=⟨by kernel_rfl,by kernel_rfl⟩
theorem signbit_ev(r:Nat)(h:r<18446744073709551616):Ev Tp γ 120 [.v (.float .f64 r)] (.v (.bool (Ieee.double.read r).neg)):=by
 have hb:=sign_bit r h;refine Ev.of Tryz.func120 rfl ?_;simp only[Tryz.f120,evE,Nat.reduceAdd,Nat.reduceSub,Nat.reduceLT,Nat.reduceEqDiff,reduceCtorEq];refine CallK.ext (ext33 r) ?_;simp only[ty2,hb,evE,Nat.reduceLT,Nat.reduceEqDiff,reduceCtorEq]
theorem knownB_ev(hγ:Gl γ)(hγ2:GlW γ)(t:Tk)(hs:t.text.length≤140737488351232)(hr:t.real<18446744073709551616):Ev Tp γ 67 [.agg t.cells] (.v (.bool (standB t))):=by
 refine Ev.of Tryz.func67 rfl ?_;obtain⟨kd,tx,ti,tr,tp,tz⟩:=t;simp only at hs hr;unfold standB;simp only
 by_cases h1:kd=1
 ·subst h1;simp only[Tryz.f67,Tk.cells,Int.reduceBEq,evE,tyX,Nat.reduceAdd,Nat.reduceSub,Nat.reduceLT,Nat.reduceEqDiff,reduceCtorEq];refine CallK.intro c121 rfl (named_ev hγ hγ2 tx hs) ?_;simp only[if_true,evE,Nat.reduceLT,Nat.reduceEqDiff,reduceCtorEq]
 ·have d1:(kd==1)=false:=by simpa using h1
  rw[if_neg h1]
  by_cases h2:kd=2
  ·subst h2;simp only[Tryz.f67,Tk.cells,Int.reduceBEq,if_true,evE,tyX,Nat.reduceAdd,Nat.reduceSub,Nat.reduceLT,Nat.reduceEqDiff,reduceCtorEq]
  ·have d2:(kd==2)=false:=by simpa using h2
   rw[if_neg h2]
   by_cases h3:kd=3
   ·subst h3;rw[if_pos rfl];unfold finR
    rcases read_cases tr with⟨s,f,h⟩|⟨s,h⟩|⟨s,m,i,h,hm,hi,hj⟩
    ·have o1:FloatKind.f64.format.order tr 0=none:=ord_nan h;rw[h];simp only[Tryz.f67,Tk.cells,Int.reduceBEq,q7,q8,o1,evE,tyX,Nat.reduceAdd,Nat.reduceSub,Nat.reduceLT,Nat.reduceEqDiff,reduceCtorEq]
    ·have o1:FloatKind.f64.format.order tr 0=some (if s then .lt else .gt):=(ord_inf h).1;have o2:FloatKind.f64.format.order tr 9218868437227405311=some (if s then .lt else .gt):=(ord_inf h).2.1;rw[h];cases s with
     |true=>
      simp only[if_true]at o1;simp only[Tryz.f67,Tk.cells,Int.reduceBEq,q5,q6,o1,evE,tyX,Nat.reduceAdd,Nat.reduceSub,Nat.reduceLT,Nat.reduceEqDiff,reduceCtorEq]
     |false=>
      simp only[Bool.false_eq_true,if_false]at o1 o2;simp only[Tryz.f67,Tk.cells,Int.reduceBEq,q1,q2,o1,evE,tyX,Nat.reduceAdd,Nat.reduceSub,Nat.reduceLT,Nat.reduceEqDiff,reduceCtorEq];refine CallK.intro c119 rfl (isInf1_ev tr) ?_;simp only[o2,q1,evE,Bv,Nat.reduceLT,Nat.reduceEqDiff,reduceCtorEq]
    ·have o1:FloatKind.f64.format.order tr 0=some (if m=0 then .eq else if s then .lt else .gt):=ord_num h hi;have o2:(FloatKind.f64.format.order tr 9218868437227405311==some .gt)=false:=ord_max_num h hm hj;have hn:=signbit_ev (γ:=γ) tr hr;rw[h]at hn⊢;have hn:Ev Tp γ 120 [.v (.float .f64 tr)] (.v (.bool s)):=hn
     by_cases h0:m=0
     ·simp only[if_pos h0]at o1;simp only[Tryz.f67,Tk.cells,Int.reduceBEq,q3,q4,o1,evE,tyX,Nat.reduceAdd,Nat.reduceSub,Nat.reduceLT,Nat.reduceEqDiff,reduceCtorEq];refine CallK.intro c119 rfl (isInf1_ev tr) ?_;simp only[o2,evE,tyX,Bf,Nat.reduceLT,Nat.reduceEqDiff,reduceCtorEq];refine CallK.intro c120 rfl hn ?_;simp only[evE,Nat.reduceLT,Nat.reduceEqDiff,reduceCtorEq];cases s<;>rfl
     ·simp only[if_neg h0]at o1;cases s with
      |true=>
       simp only[if_true]at o1;simp only[Tryz.f67,Tk.cells,Int.reduceBEq,q5,q6,o1,evE,tyX,Nat.reduceAdd,Nat.reduceSub,Nat.reduceLT,Nat.reduceEqDiff,reduceCtorEq]
      |false=>
       simp only[Bool.false_eq_true,if_false]at o1;simp only[Tryz.f67,Tk.cells,Int.reduceBEq,q1,q2,o1,evE,tyX,Nat.reduceAdd,Nat.reduceSub,Nat.reduceLT,Nat.reduceEqDiff,reduceCtorEq];refine CallK.intro c119 rfl (isInf1_ev tr) ?_;simp only[o2,evE,tyX,Bf,Nat.reduceLT,Nat.reduceEqDiff,reduceCtorEq];refine CallK.intro c120 rfl hn ?_;simp only[evE,Bf,Nat.reduceLT,Nat.reduceEqDiff,reduceCtorEq]
   ·have d3:(kd==3)=false:=by simpa using h3
    rw[if_neg h3]
    by_cases h4:kd=4
    ·subst h4;simp only[Tryz.f67,tyZ,Tk.cells,Int.reduceBEq,if_true,evE,tyX,Nat.reduceAdd,Nat.reduceSub,Nat.reduceLT,Nat.reduceEqDiff,reduceCtorEq];rw[show (decide ((tx.length:Int)≤256))=decide (tx.length≤256)by simp only[decide_eq_decide];omega]
    ·have d4:(kd==4)=false:=by simpa using h4
     rw[if_neg h4];simp only[Tryz.f67,Tk.cells,d1,d2,d3,d4,evE,tyX,Nat.reduceAdd,Nat.reduceSub,Nat.reduceLT,Nat.reduceEqDiff,reduceCtorEq]
theorem read1_ev(hγ:Gl γ)(hγ2:GlW γ)(t:Tk)(hs:t.text.length≤140737488351232)(hr:t.real<18446744073709551616):Ev Tp γ 66 [.agg t.cells] (.v (.bool (!standB t))):=by
 refine Ev.of Tryz.func66 rfl ?_;simp only[Tryz.f66,Tk.cells,evE,tyX,Nat.reduceAdd,Nat.reduceSub,Nat.reduceLT,Nat.reduceLeDiff,Nat.reduceEqDiff,reduceCtorEq];refine CallK.intro c67 rfl (knownB_ev hγ hγ2 t hs hr) ?_;simp only[evE,Nat.reduceLT,Nat.reduceEqDiff,reduceCtorEq]
end Go.Proofs.YtlobiioioicmhaaGreatDoor
