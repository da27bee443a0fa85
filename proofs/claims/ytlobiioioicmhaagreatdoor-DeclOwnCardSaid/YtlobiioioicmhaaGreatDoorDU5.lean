/- The evaluator: abstract values, and code carried out on them. -/
import Derived.Test.YtlobiioioicmhaaGreatDoorDU4
import Derived.ScopeJumps
import Derived.Laws.LoneSync
import Derived.Lib.Bytealg
set_option linter.all false
set_option maxHeartbeats 8000000
namespace Go.Ev
open _root_.Array renaming getElem?_eq_some_iff→BP
open _root_.List renaming length_set→Bl,length_append→Bp,cons_append→Bc,nil_append→Bi,getElem?_cons_zero→Bz,getElem?_cons_succ→Bu,set_cons_zero→Bx,set_cons_succ→Bw,getElem?_map→Bm,length_map→Bk,getElem?_eq_none→Bq,map_cons→BA,length_cons→BC,length_nil→BD,append_nil→BS,drop_drop→BT,getElem?_toArray→BU
open _root_.Nat renaming le_refl→BL,le_trans→BM,zero_le→BN
open Go Go.RowKit
def Frame(P:Program)(o:Oper)(K:St→Prop)(st:St):Prop:=
 ∃ r h',K (pt ⟨st.s,h'⟩ o.dst r)∧(wrO P o.op=false→h'=st.h)∧∀ st2:St,st2.s.g=st.s.g→(∀ x∈o.op.operands.toList,get st2.s x=get st.s x)→(rdO P o.op=true→st2.h=st.h)→
  ∀ K2:St→Prop,K2 (pt ⟨st2.s,if wrO P o.op=true then h' else st2.h⟩ o.dst r)→kop P o K2 st2
section
variable {P:Program} {o:Oper} {K:St→Prop} {st:St}
theorem frV(F:(Operand→AV)→List ABlk→Option AV)(he:∀ s K,kop P o K s=StepK (retV s o.dst (F (get s.s) s.h)) K)
  (hc:∀ g g' h,(∀ x∈o.op.operands.toList,g' x=g x)→F g' h=F g h) (hf:rdO P o.op=false→∀ g h h',F g h=F g h') (hw:wrO P o.op=false) (h:kop P o K st):Frame P o K st:=by
 rw[he]at h;cases e:F (get st.s) st.h with
 |none=>rw[e]at h;exact h.elim
 |some r=>
  rw[e,StepK_retV]at h;refine⟨r,st.h,h,fun _=>rfl,fun st2 h0 h1 h2 K2 hk=>?_⟩
  have e2:F (get st2.s) st2.h=some r:=by
   rw[hc (get st.s) (get st2.s) st2.h h1];cases hr:rdO P o.op with
   |true=>rw[h2 hr];exact e
   |false=>rw[hf hr _ _ st.h];exact e
  rw[he,e2,StepK_retV];simpa[hw]using hk
theorem frP(F:(Operand→AV)→List ABlk→SV)(he:∀ s K,kop P o K s=StepK (retP s o.dst (F (get s.s) s.h)) K)
  (hc:∀ g g' h,(∀ x∈o.op.operands.toList,g' x=g x)→F g' h=F g h) (hf:rdO P o.op=false→∀ g h h',F g h=F g h') (hw:wrO P o.op=false) (h:kop P o K st):Frame P o K st:=by
 rw[he]at h;cases e:F (get st.s) st.h with
 |none=>rw[e]at h;exact h.elim
 |some q=>
  obtain⟨p,r⟩:=q;rw[e,StepK_retP]at h;refine⟨r,st.h,h.2,fun _=>rfl,fun st2 h0 h1 h2 K2 hk=>?_⟩
  have e2:F (get st2.s) st2.h=some (p,r):=by
   rw[hc (get st.s) (get st2.s) st2.h h1];cases hr:rdO P o.op with
   |true=>rw[h2 hr];exact e
   |false=>rw[hf hr _ _ st.h];exact e
  rw[he,e2,StepK_retP];exact⟨h.1,by simpa[hw]using hk⟩
theorem frH(F:(Operand→AV)→List ABlk→Option (Prop×AV×List ABlk))(he:∀ s K,kop P o K s=StepK (retH s o.dst (F (get s.s) s.h)) K)
  (hc:∀ g g' h,(∀ x∈o.op.operands.toList,g' x=g x)→F g' h=F g h) (hr:rdO P o.op=true) (hw:wrO P o.op=true) (h:kop P o K st):Frame P o K st:=by
 rw[he]at h;cases e:F (get st.s) st.h with
 |none=>rw[e]at h;exact h.elim
 |some q=>
  obtain⟨p,r,h'⟩:=q;rw[e,StepK_retH]at h;refine⟨r,h',h.2,fun hw'=>(by rw[hw]at hw';cases hw'),fun st2 h0 h1 h2 K2 hk=>?_⟩;have e2:F (get st2.s) st2.h=some (p,r,h'):=by rw[hc (get st.s) (get st2.s) st2.h h1,h2 hr];exact e
  rw[he,e2,StepK_retH];exact⟨h.1,by simpa[hw]using hk⟩
end
theorem kop_frame{P:Program}{o:Oper}{K:St→Prop}{st:St}(h:kop P o K st):Frame P o K st:=by
 obtain⟨d,op,t,pos,af,g⟩:=o;cases op with
 |move x=>exact frV (fun g _=>some (g x)) (fun s K=>by rw[s_move,StepK_retV]) (fun g g' h e=>by rw[e x (by simp[Op.operands])]) (fun _ _ _ _=>rfl) rfl h
 |assign x=>exact frV (fun g _=>some (g x)) (fun s K=>by rw[s_assign,StepK_retV]) (fun g g' h e=>by rw[e x (by simp[Op.operands])]) (fun _ _ _ _=>rfl) rfl h
 |load u x=>exact frV (fun g h=>loadS P u h (g x)) (fun s K=>rfl) (fun g g' h e=>by rw[e x (by simp[Op.operands])]) (fun e=>by simp[rdO]at e) rfl h
 |fieldAddr u x f=>exact frV (fun g h=>fieldAddrS P u f h (g x)) (fun s K=>rfl) (fun g g' h e=>by rw[e x (by simp[Op.operands])]) (fun e=>by simp[rdO]at e) rfl h
 |field u x f=>exact frV (fun g h=>fieldS P u f (g x)) (fun s K=>rfl) (fun g g' h e=>by rw[e x (by simp[Op.operands])]) (fun _ _ _ _=>rfl) rfl h
 |extract x i=>exact frV (fun g h=>extractS i (g x)) (fun s K=>rfl) (fun g g' h e=>by rw[e x (by simp[Op.operands])]) (fun _ _ _ _=>rfl) rfl h
 |build u ps=>exact frV (fun g h=>buildS P u (ps.toList.map fun (i,x)=>(i,g x))) (fun s K=>rfl) (fun g g' h e=>by
   congr 1
   apply List.map_congr_left
   intro q hq;show ((q.1,g' q.2):Nat×AV)=(q.1,g q.2);rw[e q.2 (by simp[Op.operands];exact⟨q.1,by simpa using hq⟩)]) (fun _ _ _ _=>rfl) rfl h
 |binOp op u x y v=>exact frP (fun g h=>binS P op u (isConst x || isConst y) (g x) (g y)) (fun s K=>rfl) (fun g g' h e=>by rw[e x (by simp[Op.operands]),e y (by simp[Op.operands])]) (fun _ _ _ _=>rfl) rfl h
 |unOp op u x=>exact frP (fun g h=>unS op (g x)) (fun s K=>rfl) (fun g g' h e=>by rw[e x (by simp[Op.operands])]) (fun _ _ _ _=>rfl) rfl h
 |index u x y=>exact frP (fun g h=>indexS P u (g x) (g y)) (fun s K=>rfl) (fun g g' h e=>by rw[e x (by simp[Op.operands]),e y (by simp[Op.operands])]) (fun _ _ _ _=>rfl) rfl h
 |indexAddr u x y=>exact frP (fun g h=>indexAddrS P u h (g x) (g y)) (fun s K=>rfl) (fun g g' h e=>by rw[e x (by simp[Op.operands]),e y (by simp[Op.operands])]) (fun e=>by simp[rdO]at e) rfl h
 |slice u x lo hi mx=>
  cases mx with
  |some m=>simp only[kop,stepS,StepK]at h
  |none=>exact frP (fun g h=>sliceS P u h (lo.map g) (hi.map g) (g x)) (fun s K=>rfl) (fun g g' h e=>by
    have e1:lo.map g'=lo.map g:=by
     cases lo with
     |none=>rfl
     |some y=>simp only[Option.map_some];rw[e y (by simp[Op.operands])]
    have e2:hi.map g'=hi.map g:=by
     cases hi with
     |none=>rfl
     |some y=>simp only[Option.map_some];rw[e y (by simp[Op.operands])]
    rw[e1,e2,e x (by simp[Op.operands])]) (fun e g h h'=>by
    have ht:strT P u=true:=by simpa[rdO]using e
    have hel:elemT P u=none:=by
     unfold strT at ht;unfold elemT
     split at ht
     ·rename_i hu;rw[hu]
     ·cases ht
    show sliceS P u h (lo.map g) (hi.map g) (g x)=sliceS P u h' (lo.map g) (hi.map g) (g x)
    unfold sliceS;rw[hel]
    split<;>rfl) rfl h
 |makeInterface u x=>exact frV (fun g h=>if ifcT P u=some false then some (.ifc u (g x))else none) (fun s K=>by
   rw[s_makeIf];split<;>rfl) (fun g g' h e=>by rw[e x (by simp[Op.operands])]) (fun _ _ _ _=>rfl) rfl h
 |alloc u=>exact frH (fun g h=>(zeroT P u).bind fun z=>some (True,.ptr h.length 0 0,h++[⟨0,u,zeroCells z⟩])) (fun s K=>by
   rw[s_alloc];cases zeroT P u<;>rfl) (fun _ _ _ _=>rfl) rfl rfl h
 |box u x=>exact frH (fun g h=>(flat (g x)).bind fun cs=>some (True,.ptr h.length 0 0,h++[⟨0,u,cs⟩])) (fun s K=>by
   rw[s_box];cases flat (get s.s x)<;>rfl) (fun g g' h e=>by rw[e x (by simp[Op.operands])]) rfl rfl h
 |buildSlice u n ps=>exact frH (fun g h=>(buildSliceS P u n (ps.toList.map fun (i,x)=>(i,g x)) h).map fun (r,h)=>(True,r,h)) (fun s K=>rfl) (fun g g' h e=>by
   congr 2
   apply List.map_congr_left
   intro q hq;show ((q.1,g' q.2):Nat×AV)=(q.1,g q.2);rw[e q.2 (by simp[Op.operands];exact⟨q.1,by simpa using hq⟩)]) rfl rfl h
 |makeSlice u x y=>exact frH (fun g h=>makeSliceS P u h (g x) (g y)) (fun s K=>rfl) (fun g g' h e=>by rw[e x (by simp[Op.operands]),e y (by simp[Op.operands])]) rfl rfl h
 |store u x y=>exact frH (fun g h=>(storeS P u h (g x) (g y)).map fun h=>(True,.bad,h)) (fun s K=>by
   rw[s_store];cases storeS P u s.h (get s.s x) (get s.s y)<;>rfl) (fun g g' h e=>by rw[e x (by simp[Op.operands]),e y (by simp[Op.operands])]) rfl rfl h
 |nilCheck x=>
  refine frV (fun g h=>match g x with
   |.ptr i ver off=>(blkS h i ver).map fun _=>.ptr i ver off
   |.ela b cs=>some (.ela b cs)
   |_=>none) (fun s K=>?_) (fun g g' h e=>?_) (fun e=>?_) rfl h
  ·rw[s_nilCheck];cases hq:get s.s x<;>simp only[nilChk,hq]<;>try rfl
   cases blkS s.h _ _<;>rfl
  ·simp only[e x (by simp[Op.operands])]
  ·simp[rdO]at e
 |pick c x y=>
  rw[s_pick]at h;unfold PickK at h
  split at h
  ·rename_i z hz;refine⟨if z=true then get st.s x else get st.s y,st.h,?_,fun _=>rfl,fun st2 h0 h1 h2 K2 hk=>?_⟩
   ·cases z
    ·exact h.2 rfl
    ·exact h.1 rfl
   ·rw[s_pick,h1 c (by simp[Op.operands]),h1 x (by simp[Op.operands]),h1 y (by simp[Op.operands]),hz];refine PickK.intro (fun e=>?_) (fun e=>?_)<;>subst e<;>exact hk
  ·exact h.elim
 |convert a b x=>
  cases hb:(intT P b).isSome with
  |false=>exact frH (fun g h=>convertS P a b h (g x)) (fun s K=>rfl) (fun g g' h e=>by rw[e x (by simp[Op.operands])]) (by simp[rdO,hb]) (by simp[wrO,hb]) h
  |true=>
   obtain⟨k,hk⟩:=Option.isSome_iff_exists.1 hb
   have hs:strT P b=false:=by
    unfold intT at hk;unfold strT;cases hu:P.underlying b with
    |none=>rfl
    |some u=>rw[hu]at hk;cases u<;>simp at hk⊢
   have he:elemT P b=none:=by
    unfold intT at hk;unfold elemT;cases hu:P.underlying b with
    |none=>rfl
    |some u=>rw[hu]at hk;cases u<;>simp at hk⊢
   refine frP (fun g _=>match g x with
    |.v (.int _ n)=>if (P.underlying a).isSome=true then some (True,.v (.int k (k.wrap n)))else none
    |.v (.float .f64 b)=>if (P.underlying a).isSome=true then (f2i b k).map fun n=>(True,.v (.int k n))else none
    |_=>none) (fun s K=>?_) (fun g g' h e=>by simp only[e x (by simp[Op.operands])]) (fun _ _ _ _=>rfl) (by simp[wrO,hb]) h
   rw[s_convert];unfold convertS
   split<;>rename_i e<;>simp[e,hk,hs,he]
   ·split<;>rfl
   ·split
    ·cases f2i _ k<;>rfl
    ·rfl
   all_goals rfl
 |call c=>
  obtain⟨callee,xs,ts⟩:=c;cases callee with
  |builtin b=>
   cases b with
   |len=>
    obtain⟨l⟩:=xs;cases l with
    |nil=>simp only[kop,stepS,builtinS,StepK]at h
    |cons x l=>
     exact frV (fun g h=>(ts[0]?).bind fun t=>lenS P t h (g x)) (fun s K=>by
      simp only[kop,stepS,builtinS];cases ts[0]?<;>rfl) (fun g g' h e=>by rw[e x (by simp[Op.operands,Call.operands])]) (fun e=>by simp[rdO]at e) rfl h
   |append=>
    obtain⟨l⟩:=xs
    match l with
    |[]|[_]|_::_::_::_=>simp only[kop,stepS,builtinS,StepK]at h
    |[x,y]=>exact frH (fun g h=>appendS P ts h (g x) (g y)) (fun s K=>rfl) (fun g g' h e=>by rw[e x (by simp[Op.operands,Call.operands]),e y (by simp[Op.operands,Call.operands])]) rfl rfl h
   |real=>
    obtain⟨l⟩:=xs
    match l with
    |[]|_::_::_=>simp only[kop,stepS,builtinS,StepK]at h
    |[x]=>exact frV (fun g h=>partS false (g x)) (fun s K=>rfl) (fun g g' h e=>by rw[e x (by simp[Op.operands,Call.operands])]) (fun _ _ _ _=>rfl) rfl h
   |imag=>
    obtain⟨l⟩:=xs
    match l with
    |[]|_::_::_=>simp only[kop,stepS,builtinS,StepK]at h
    |[x]=>exact frV (fun g h=>partS true (g x)) (fun s K=>rfl) (fun g g' h e=>by rw[e x (by simp[Op.operands,Call.operands])]) (fun _ _ _ _=>rfl) rfl h
   |complex=>
    obtain⟨l⟩:=xs
    match l with
    |[]|[_]|_::_::_::_=>simp only[kop,stepS,builtinS,StepK]at h
    |[x,y]=>exact frV (fun g h=>compS (g x) (g y)) (fun s K=>rfl) (fun g g' h e=>by rw[e x (by simp[Op.operands,Call.operands]),e y (by simp[Op.operands,Call.operands])]) (fun _ _ _ _=>rfl) rfl h
   |max=>
    obtain⟨l⟩:=xs
    match l with
    |[]|[_]|_::_::_::_=>simp only[kop,stepS,builtinS,StepK]at h
    |[x,y]=>exact frV (fun g h=>maxS (g x) (g y)) (fun s K=>rfl) (fun g g' h e=>by rw[e x (by simp[Op.operands,Call.operands]),e y (by simp[Op.operands,Call.operands])]) (fun _ _ _ _=>rfl) rfl h
   |_=>simp only[kop,stepS,builtinS,StepK]at h
  |invoke r m=>simp only[kop,stepS,builtinS,StepK]at h
  |value f=>
   cases f with
   |func f=>
    rw[s_callF]at h;obtain⟨h1,ys,r,h2,h3,h4⟩|⟨r,h1,h2⟩:=h
    case inr=>
     refine⟨r,st.h,h2,fun _=>rfl,fun st2 g0 g1 g2 K2 hk=>?_⟩;have e:xs.toList.map (get st2.s)=xs.toList.map (get st.s):=List.map_congr_left fun x hx=>g1 x (by simp[Op.operands,Call.operands];exact .inr (by simpa using hx))
     have e2:=g2 rfl;have hk':K2 (pt st2 d r):=by rw[show st2=⟨st2.s,st2.h⟩from rfl];exact hk
     rw[s_callF,e];exact .inr ⟨r,h1,hk'⟩
    refine⟨r,st.h,h4,fun _=>rfl,fun st2 g0 g1 g2 K2 hk=>?_⟩;have e:xs.toList.map (get st2.s)=xs.toList.map (get st.s):=List.map_congr_left fun x hx=>g1 x (by simp[Op.operands,Call.operands];exact .inr (by simpa using hx))
    have e2:=g2 rfl;rw[s_callF,e];refine .inl ⟨h1,ys,r,?_,by rw[g0];exact h3,hk⟩;rw[e2];exact h2
   |_=>simp only[kop,stepS,builtinS,StepK]at h
 |_=>simp only[kop,stepS,StepK]at h
def StepF(P:Program)(ops:Array Oper)(o:Oper)(s:St)(r:AV)(h':List ABlk):Prop:=
 (wrO P o.op=false→h'=s.h)∧∀ s2:St,s2.s.g=s.s.g→(∀ t∈o.looksAt ops,look s2.s.l t=look s.s.l t)→(rwO P o.op=true→s2.h=s.h)→
  ∀ (X:Fix) (φ:List Nat) (a:Act) (w:World) (Q:Exit→Act→World→Prop) (i:Nat) (K2:St→Prop),X.P=P→SR X φ s2 a w→ops[i]?=some o→
   K2 (pt ⟨s2.s,if wrO P o.op=true then h' else s2.h⟩ o.dst r)→wpOp P ops Q i (Nx X K2) a w
theorem looks_get{ops:Array Oper}{o:Oper}{s s2:St}(hg:s2.s.g=s.s.g)(h:∀ t∈o.looksAt ops,look s2.s.l t=look s.s.l t):∀ x∈o.op.operands.toList,get s2.s x=get s.s x:=by
 intro x hx;cases x with
 |tmp t=>exact h t (by simp only[Oper.looksAt];exact List.mem_append_left _ (List.mem_filterMap.2 ⟨.tmp t,hx,rfl⟩))
 |global k=>simp only[get,hg]
 |_=>rfl
theorem frame_step{P:Program}{ops:Array Oper}{o:Oper}{s:St}{K:St→Prop}(hg:o.guard=none)(h:kop P o K s):∃ r h',K (pt ⟨s.s,h'⟩ o.dst r)∧StepF P ops o s r h':=by
 obtain⟨r,h',hk,hw,hf⟩:=kop_frame h;refine⟨r,h',hk,hw,fun s2 h0 h1 h2 X φ a w Q i K2 hP hs hi hk2=>?_⟩;subst hP;have hk3:=hf s2 h0 (looks_get h0 h1) (fun e=>h2 (by simp[rwO,e])) K2 hk2;unfold wpOp;rw[hi];have hw':Region.wanted o (yielded ops a.tmps)=true:=by simp[Region.wanted,hg]
 simp only[hw',if_true];exact .inl (kop_sound hs hk3)
theorem guard_yield{X:Fix}{φ:List Nat}{s2:St}{a:Act}{w:World}{ops:Array Oper}{j:Nat}{z:Bool}(hs:SR X φ s2 a w)(hz:guardA ops s2 j=.v (.bool z)):yielded ops a.tmps j=some z:=by
 unfold guardA at hz
 split at hz
 ·rename_i t ht;unfold yielded;rw[ht];have hr:=hs.slots t;rw[hz]at hr;simp only[rel]at hr;cases htm:a.tmps[t]? with
  |none=>simp[htm,undef]at hr
  |some u=>
   simp[htm]at hr;subst hr;simp[htm]
 ·cases hz
theorem guard_yield_none{X:Fix}{φ:List Nat}{s2:St}{a:Act}{w:World}{ops:Array Oper}{j:Nat}{us:Array Value}(hs:SR X φ s2 a w)(hz:guardA ops s2 j=.v (.tuple us)):yielded ops a.tmps j=none:=by
 unfold guardA at hz
 split at hz
 ·rename_i t ht;unfold yielded;rw[ht];have hr:=hs.slots t;rw[hz]at hr;simp only[rel]at hr;cases htm:a.tmps[t]? with
  |none=>simp[htm]
  |some u=>
   simp[htm]at hr;subst hr;simp[htm]
 ·cases hz
theorem skip_step{P:Program}{ops:Array Oper}{o:Oper}{s:St}{K:St→Prop}(hk:skipK o.dst K s)
  (hno:∀ s2:St,(∀ t∈o.looksAt ops,look s2.s.l t=look s.s.l t)→∀ (X:Fix) (φ:List Nat) (a:Act) (w:World),SR X φ s2 a w→Region.wanted o (yielded ops a.tmps)=false) :
  ∃ r h',K (pt ⟨s.s,h'⟩ o.dst r)∧StepF P ops o s r h':=by
 refine⟨.v (.tuple #[]),s.h,hk,fun _=>rfl,fun s2 h0 h1 h2 X φ a w Q i K2 hP hs hi hk2=>?_⟩;subst hP;unfold wpOp;rw[hi];simp only[hno s2 h1 X φ a w hs]
 have hh:(if wrO X.P o.op=true then s.h else s2.h)=s2.h:=by
  split
  ·rename_i e;exact (h2 (by simp[rwO,e])).symm
  ·rfl
 rw[hh]at hk2;exact⟨φ,_,hs.put o.dst (r:=.v (.tuple #[])) (u:=undef) (by simp only[rel,undef]),hk2⟩
theorem guard_step{P:Program}{ops:Array Oper}{o:Oper}{s:St}{K:St→Prop}{j:Nat}{b:Bool}(hg:o.guard=some (j,b))(h:GuardK (guardA ops s j) b (kop P o K) (skipK o.dst K) s):
  ∃ r h',K (pt ⟨s.s,h'⟩ o.dst r)∧StepF P ops o s r h':=by
 have hz2:∀ s2:St,(∀ t∈o.looksAt ops,look s2.s.l t=look s.s.l t)→guardA ops s2 j=guardA ops s j:=fun s2 h1=>by
  unfold guardA;cases hd:(ops[j]?).bind (·.dst)with
  |none=>rfl
  |some t=>
   simp only;exact h1 t (by simp only[Oper.looksAt,hg,hd];simp)
 unfold GuardK at h
 split at h
 ·rename_i z hz
  by_cases hb:z=b
  ·obtain⟨r,h',hk,hw,hf⟩:=kop_frame (h.1 hb);refine⟨r,h',hk,hw,fun s2 h0 h1 h2 X φ a w Q i K2 hP hs hi hk2=>?_⟩;subst hP;have hk3:=hf s2 h0 (looks_get h0 h1) (fun e=>h2 (by simp[rwO,e])) K2 hk2;unfold wpOp;rw[hi];have hw':Region.wanted o (yielded ops a.tmps)=true:=by simp[Region.wanted,hg,guard_yield hs ((hz2 s2 h1).trans hz),hb]
   simp only[hw',if_true];exact .inl (kop_sound hs hk3)
  ·exact skip_step (h.2 hb) fun s2 h1 X φ a w hs=>by simp[Region.wanted,hg,guard_yield hs ((hz2 s2 h1).trans hz),hb]
 ·rename_i us hz;exact skip_step h fun s2 h1 X φ a w hs=>by simp[Region.wanted,hg,guard_yield_none hs ((hz2 s2 h1).trans hz)]
 ·exact h.elim
theorem runs{P:Program}{ops:Array Oper}:∀ (os:List Oper) {K:St→Prop} {s:St},kops P ops os K s→
  ∃ (S:Nat→St) (r:Nat→AV),S 0=s∧K (S os.length)∧∀ (i:Nat) (o:Oper),os[i]?=some o→S (i+1)=pt ⟨(S i).s,(S (i+1)).h⟩ o.dst (r i)∧StepF P ops o (S i) (r i) (S (i+1)).h
 |[],K,s,h=>⟨fun _=>s,fun _=>.bad,rfl,h,fun i o ho=>by simp at ho⟩
 |o::os,K,s,h=>by
  have h':∃ r h',kops P ops os K (pt ⟨s.s,h'⟩ o.dst r)∧StepF P ops o s r h':=by
   simp only[kops]at h
   split at h
   ·rename_i hg;exact frame_step hg h
   ·rename_i j b hg;exact guard_step hg h
  obtain⟨r,h',hk,hf⟩:=h';obtain⟨S,rs,h0,h1,h2⟩:=runs os hk;refine⟨fun|0=>s|i+1=>S i,fun|0=>r|i+1=>rs i,rfl,h1,fun i p hp=>?_⟩;cases i with
  |zero=>
   simp only[Bz,Option.some.injEq]at hp;subst hp;have:(S 0).h=h':=by rw[h0];rfl
   simp only[this];exact⟨h0,hf⟩
  |succ i=>exact h2 i p (by simpa using hp)
section
variable {P:Program} {ops:Array Oper} {S:Nat→St} {r:Nat→AV}
def putL(n:Nat)(d:Option Tmp)(x:AV)(l:List (Nat×AV)):List (Nat×AV):=(putS ⟨n,l,[]⟩ d x).l
theorem look_putL(n:Nat)(d:Option Tmp)(x:AV)(l:List (Nat×AV))(t:Nat):look (putL n d x l) t=if d=some t∧t<n then x else look l t:=by
 unfold putL putS;cases d with
 |none=>simp
 |some d=>
  simp only[Option.some.injEq]
  by_cases hd:d<n
  ·simp only[hd,if_true,look]
   by_cases e:d=t
   ·subst e;simp[hd]
   ·simp[e]
  ·simp only[hd,if_false]
   by_cases e:d=t
   ·subst e;simp[hd]
   ·simp[e]
theorem look_putS(n:Nat)(d:Option Tmp)(x:AV)(l g:List (Nat×AV))(t:Nat):look (putS ⟨n,l,g⟩ d x).l t=if d=some t∧t<n then x else look l t:=by
 rw[←look_putL];unfold putL putS
 split<;>try rfl
 split<;>rfl
def lU(ops:Array Oper)(st:St)(r:Nat→AV)(L:Nat→Bool):Nat→List (Nat×AV)
 |0=>st.s.l
 |i+1=>if L i=true then putL st.s.n ((ops[i]?).bind (·.dst)) (r i) (lU ops st r L i)else lU ops st r L i
def hU(P:Program)(ops:Array Oper)(st:St)(S:Nat→St)(L:Nat→Bool):Nat→List ABlk
 |0=>st.h
 |i+1=>if L i=true∧((ops[i]?).map fun o=>wrO P o.op)=some true then (S (i+1)).h else hU P ops st S L i
structure Run(P:Program)(ops:Array Oper)(st:St)(S:Nat→St)(r:Nat→AV):Prop where
 zero:S 0=st
 step:∀ (i:Nat) (o:Oper),ops[i]?=some o→S (i+1)=pt ⟨(S i).s,(S (i+1)).h⟩ o.dst (r i)∧StepF P ops o (S i) (r i) (S (i+1)).h
variable {st:St} (R:Run P ops st S r)
include R
theorem Run.n:∀ i,i≤ops.size→(S i).s.n=st.s.n:=by
 intro i
 induction i with
 |zero=>intro _;rw[R.zero]
 |succ i ih=>
  intro hi;obtain⟨e,_⟩:=R.step i ops[i] (by simp);rw[e];show (putS (S i).s _ _).n=_;rw[←ih (by omega)];unfold putS
  split<;>try rfl
  split<;>rfl
theorem Run.g:∀ i,i≤ops.size→(S i).s.g=st.s.g:=by
 intro i
 induction i with
 |zero=>intro _;rw[R.zero]
 |succ i ih=>
  intro hi;obtain⟨e,_⟩:=R.step i ops[i] (by simp);rw[e];show (putS (S i).s _ _).g=_;rw[←ih (by omega)];unfold putS
  split<;>try rfl
  split<;>rfl
theorem Run.look{i:Nat}{o:Oper}(ho:ops[i]?=some o)(t:Nat):look (S (i+1)).s.l t=if o.dst=some t∧t<st.s.n then r i else look (S i).s.l t:=by
 obtain⟨e,_⟩:=R.step i o ho;have hi:i<ops.size:=(BP.1 ho).1;have hn:=R.n i (by omega);rw[e];show Ev.look (putS (S i).s o.dst (r i)).l t=_;have:=look_putL (S i).s.n o.dst (r i) (S i).s.l t;rw[hn]at this;rw[←this];unfold putL;rw[←hn];unfold putS
 split<;>try rfl
 split<;>rfl
theorem Run.lU_text{L:Nat→Bool}{t:Nat}:∀ i,i≤ops.size→(∀ j o,j<i→ops[j]?=some o→o.dst=some t→L j=true)→Ev.look (lU ops st r L i) t=Ev.look (S i).s.l t:=by
 intro i
 induction i with
 |zero=>intro _ _;rw[R.zero];rfl
 |succ i ih=>
  intro hi h;have ho:ops[i]?=some ops[i]:=by simp
  have ih:=ih (by omega) fun j o hj=>h j o (by omega)
  rw[R.look ho];simp only[lU]
  split
  ·rw[look_putL,ho,Option.bind_some,ih]
  ·rename_i hL;rw[ih,if_neg fun hd=>hL (h i _ (by omega) ho hd.1)]
omit R in
theorem lU_stay{L:Nat→Bool}{t:Nat}{i:Nat}:∀ m,i≤m→(∀ j o,i≤j→j<m→ops[j]?=some o→L j=true→o.dst≠some t)→Ev.look (lU ops st r L m) t=Ev.look (lU ops st r L i) t:=by
 intro m
 induction m with
 |zero=>intro h _;rw[show i=0 by omega]
 |succ m ih=>
  intro hm h
  by_cases e:i=m+1
  ·rw[e]
  ·rw[←ih (by omega) fun j o h1 h2=>h j o h1 (by omega)];simp only[lU]
   split
   ·rename_i hL;rw[look_putL,if_neg]
    rintro⟨hd,_⟩
    cases ho:ops[m]? with
    |none=>rw[ho]at hd;cases hd
    |some o=>rw[ho]at hd;exact h m o (by omega) (by omega) ho hL hd
   ·rfl
omit R in
theorem lU_same{L L':Nat→Bool}{t:Nat}:∀ m,(∀ j,j<m→L' j=L j∨(∀ o,ops[j]?=some o→o.dst≠some t))→Ev.look (lU ops st r L' m) t=Ev.look (lU ops st r L m) t:=by
 intro m
 induction m with
 |zero=>intro _;rfl
 |succ m ih=>
  intro h;have ih:=ih fun j hj=>h j (by omega)
  have hno:(∀ o,ops[m]?=some o→o.dst≠some t)→∀ (l:List (Nat×AV)),Ev.look (putL st.s.n ((ops[m]?).bind (·.dst)) (r m) l) t=Ev.look l t:=fun hd l=>by
   rw[look_putL,if_neg]
   rintro⟨e,_⟩
   cases ho:ops[m]? with
   |none=>rw[ho]at e;cases e
   |some o=>rw[ho]at e;exact hd o ho e
  simp only[lU]
  rcases h m (by omega)with e|hd
  ·rw[e]
   split
   ·rw[look_putL,look_putL,ih]
   ·exact ih
  ·split<;>split<;>simp only[hno hd,ih]
theorem Run.hU_text{L:Nat→Bool}:∀ i,i≤ops.size→(∀ j o,j<i→ops[j]?=some o→wrO P o.op=true→L j=true)→hU P ops st S L i=(S i).h:=by
 intro i
 induction i with
 |zero=>intro _ _;rw[R.zero];rfl
 |succ i ih=>
  intro hi h;have ho:ops[i]?=some ops[i]:=by simp
  have ih:=ih (by omega) fun j o hj=>h j o (by omega)
  obtain⟨_,hf,_⟩:=R.step i _ ho;simp only[hU,ho,Option.map_some,Option.some.injEq]
  split
  ·rfl
  ·rename_i hc;cases hw:wrO P ops[i].op with
   |true=>exact absurd ⟨h i _ (by omega) ho hw,hw⟩ hc
   |false=>rw[ih,hf hw]
omit R in
theorem hU_stay{L:Nat→Bool}{i:Nat}:∀ m,i≤m→(∀ j o,i≤j→j<m→ops[j]?=some o→L j=true→wrO P o.op=false)→hU P ops st S L m=hU P ops st S L i:=by
 intro m
 induction m with
 |zero=>intro h _;rw[show i=0 by omega]
 |succ m ih=>
  intro hm h
  by_cases e:i=m+1
  ·rw[e]
  ·rw[←ih (by omega) fun j o h1 h2=>h j o h1 (by omega)];simp only[hU];rw[if_neg]
   rintro⟨hL,hw⟩
   cases ho:ops[m]? with
   |none=>rw[ho]at hw;cases hw
   |some o=>rw[ho]at hw;have:=h m o (by omega) (by omega) ho hL;simp only[Option.map_some,Option.some.injEq]at hw;rw[this]at hw;cases hw
omit R in
theorem hU_same{L L':Nat→Bool}:∀ m,(∀ j,j<m→L' j=L j∨(∀ o,ops[j]?=some o→wrO P o.op=false))→hU P ops st S L' m=hU P ops st S L m:=by
 intro m
 induction m with
 |zero=>intro _;rfl
 |succ m ih=>
  intro h;have ih:=ih fun j hj=>h j (by omega)
  simp only[hU,ih]
  rcases h m (by omega)with e|hd
  ·rw[e]
  ·have:¬((ops[m]?).map fun o=>wrO P o.op)=some true:=by
    cases ho:ops[m]? with
    |none=>simp
    |some o=>simp[hd o ho]
   rw[if_neg fun h=>this h.2,if_neg fun h=>this h.2]
end
theorem putS_n(s:Slots)(d:Option Tmp)(x:AV):(putS s d x).n=s.n:=by
 unfold putS
 split<;>try rfl
 split<;>rfl
theorem putS_g(s:Slots)(d:Option Tmp)(x:AV):(putS s d x).g=s.g:=by
 unfold putS
 split<;>try rfl
 split<;>rfl
def closedL(ops:Array Oper)(L:Nat→Bool):Prop:=∀ (i:Nat) (o:Oper),ops[i]?=some o→L i=true→∀ e∈o.after.toList,bindsE e=true→L e.on=true
theorem ancOk_at{ops:Array Oper}{tbl:List (List Nat)}(h:ancOk ops tbl=true){i:Nat}{o:Oper}(ho:ops[i]?=some o):
  (∀ e∈o.after.toList,bindsE e=true→e.on<i)∧∀ j∈tbl.getD i [],∃ e∈o.after.toList,bindsE e=true∧(e.on=j∨j∈tbl.getD e.on []):=by
 have hi:i<ops.size:=(BP.1 ho).1;simp only[ancOk,List.all_eq_true]at h;have:=h i (List.mem_range.2 hi);rw[ho]at this;simp only[Bool.and_eq_true,List.all_eq_true,List.any_eq_true,Bool.or_eq_true,Bool.not_eq_true',decide_eq_true_eq,beq_iff_eq,List.contains_iff_mem]at this;refine⟨fun e he hb=>?_,this.2⟩
 rcases this.1 e he with h|h
 ·rw[hb]at h;cases h
 ·exact h
theorem anc_done{ops:Array Oper}{tbl:List (List Nat)}(h:ancOk ops tbl=true){L:Nat→Bool}(hc:closedL ops L):∀ (n i:Nat) (o:Oper),i<n→ops[i]?=some o→
  (∀ e∈o.after.toList,bindsE e=true→L e.on=true)→∀ j∈tbl.getD i [],L j=true
 |0,i,o,hi,_,_,_,_=>by omega
 |n+1,i,o,hi,ho,he,j,hj=>by
  obtain⟨h1,h2⟩:=ancOk_at h ho;obtain⟨e,hm,hb,hd⟩:=h2 j hj
  rcases hd with rfl|hd
  ·exact he e hm hb
  ·have hlt:=h1 e hm hb;have hi':i<ops.size:=(BP.1 ho).1;have ho':ops[e.on]?=some (ops[e.on]'(by omega)):=by simp[show e.on<ops.size by omega]
   exact anc_done h hc n e.on _ (by omega) ho' (hc _ _ ho' (he e hm hb)) j hd
theorem drawOk_at{P:Program}{ops:Array Oper}{tbl:List (List Nat)}(h:drawOkT P ops tbl=true){i j:Nat}{x y:Oper}(hij:i<j)(hx:ops[i]?=some x)(hy:ops[j]?=some y)(hc:clashO P ops x y=true):i∈tbl.getD j []:=by
 have hj:j<ops.size:=(BP.1 hy).1;simp only[drawOkT,Bool.and_eq_true,List.all_eq_true]at h;have:=h.2 j (List.mem_range.2 hj) i (List.mem_range.2 hij);rw[hx,hy]at this;simp only[Bool.or_eq_true,Bool.not_eq_true',List.contains_iff_mem]at this
 rcases this with h|h
 ·rw[hc]at h;cases h
 ·exact h
theorem SR.same{X:Fix}{φ:List Nat}{s s':St}{a:Act}{w:World}(hs:SR X φ s a w)(hn:s.s.n=s'.s.n)(hg:s.s.g=s'.s.g)(hl:∀ t,look s.s.l t=look s'.s.l t)(hh:s.h=s'.h):SR X φ s' a w:=by
 obtain⟨⟨n,l,g⟩,h⟩:=s;obtain⟨⟨n',l',g'⟩,h'⟩:=s';simp only at hn hg hl hh;subst hn;subst hg;subst hh;exact { hs with slots:=fun t=>by have:=hs.slots t;simp only at this⊢;rw[←hl t];exact this }
theorem clash_w{P:Program}{ops:Array Oper}{x y:Oper}{t:Tmp}(h1:x.dst=some t)(h2:t∈y.looksAt ops∨y.dst=some t):clashO P ops x y=true:=by
 simp only[clashO,h1,Bool.or_eq_true,List.contains_iff_mem,beq_iff_eq];exact .inl (.inl (.inl h2))
theorem clash_r{P:Program}{ops:Array Oper}{x y:Oper}{t:Tmp}(h1:y.dst=some t)(h2:t∈x.looksAt ops):clashO P ops x y=true:=by
 simp only[clashO,h1,Bool.or_eq_true,List.contains_iff_mem];exact .inl (.inl (.inr h2))
theorem clash_hw{P:Program}{ops:Array Oper}{x y:Oper}(h1:wrO P x.op=true)(h2:rwO P y.op=true):clashO P ops x y=true:=by
 simp only[clashO,h1,h2,Bool.or_eq_true,Bool.and_self];exact .inl (.inr trivial)
theorem clash_hr{P:Program}{ops:Array Oper}{x y:Oper}(h1:rwO P x.op=true)(h2:wrO P y.op=true):clashO P ops x y=true:=by
 simp only[clashO,h1,h2,Bool.or_eq_true,Bool.and_self];exact .inr trivial
def todo(n:Nat)(L:Nat→Bool):Nat:=((List.range n).filter fun i=> !L i).length
theorem draw_any{X:Fix}{P:Program}(hP:X.P=P){ops:Array Oper}{st:St}{S:Nat→St}{r:Nat→AV}(R:Run P ops st S r){tbl:List (List Nat)}(hok:drawOkT P ops tbl=true){Q:Exit→Act→World→Prop}{K:St→Prop}
  (hQ:∀ a w,Nx X K a w→Q .normal a w) (hK:K (S ops.size)):∀ (fuel:Nat) (listed:Array Bool) (a:Act) (w:World) (φ:List Nat),listed.size=ops.size→closedL ops (fun i=>listed.getD i false)→todo ops.size (fun i=>listed.getD i false)≤fuel→
  SR X φ ⟨⟨st.s.n,lU ops st r (fun i=>listed.getD i false) ops.size,st.s.g⟩,hU P ops st S (fun i=>listed.getD i false) ops.size⟩ a w→wpAny P .any ops Q fuel listed a w:=by
 have hanc:ancOk ops tbl=true:=by simp only[drawOkT,Bool.and_eq_true]at hok;exact hok.1
 have hready:∀ (listed:Array Bool),listed.size=ops.size→∀ i,i∈Region.ready .any ops listed↔∃ o,ops[i]?=some o∧listed.getD i false=false∧∀ e∈o.after.toList,bindsE e=true→listed.getD e.on false=true:=by
  intro listed hsz i;simp only[Region.ready,List.mem_filter,List.mem_range,Bool.and_eq_true,Bool.not_eq_true']
  constructor
  ·rintro⟨h1,h2,h3⟩
   have ho:ops[i]?=some ops[i]:=by simp[h1]
   rw[ho]at h3;simp only[Option.map_some,Option.getD_some,Array.all_eq_true_iff_forall_mem,Bool.or_eq_true,Bool.not_eq_true']at h3;refine⟨_,ho,?_,fun e he hb=>?_⟩
   ·simpa[Array.getD,hsz,h1]using h2
   ·rcases h3 e (by simpa using he)with h|h
    ·unfold bindsE at hb;rw[hb]at h;cases h
    ·exact h
  ·rintro⟨o,ho,h2,h3⟩
   have h1:i<ops.size:=(BP.1 ho).1;refine⟨h1,?_,?_⟩
   ·simpa[Array.getD,hsz,h1]using h2
   ·rw[ho];simp only[Option.map_some,Option.getD_some,Array.all_eq_true_iff_forall_mem,Bool.or_eq_true,Bool.not_eq_true'];intro e he;cases hb:bindsE e with
    |true=>exact .inr (h3 e (by simpa using he) hb)
    |false=>exact .inl hb
 have hall:∀ (listed:Array Bool),listed.size=ops.size→Region.ready .any ops listed=[]→∀ n i,i<n→i<ops.size→listed.getD i false=true:=by
  intro listed hsz hr n
  induction n with
  |zero=>intro i hi;omega
  |succ n ih=>
   intro i hi hi';cases hl:listed.getD i false with
   |true=>rfl
   |false=>
    exfalso
    have ho:ops[i]?=some ops[i]:=by simp[hi']
    have:i∈Region.ready .any ops listed:=(hready listed hsz i).2 ⟨_,ho,hl,fun e he hb=>by
     have:=(ancOk_at hanc ho).1 e he hb;exact ih e.on (by omega) (by omega)⟩
    rw[hr]at this;cases this
 have hend:∀ (listed:Array Bool) (a:Act) (w:World) (φ:List Nat),listed.size=ops.size→SR X φ ⟨⟨st.s.n,lU ops st r (fun i=>listed.getD i false) ops.size,st.s.g⟩,hU P ops st S (fun i=>listed.getD i false) ops.size⟩ a w→Region.ready .any ops listed=[]→Q .normal a w:=by
  intro listed a w φ hsz hs hr;have hL:=fun i hi=>hall listed hsz hr ops.size i hi hi
  refine hQ a w ⟨φ,S ops.size,hs.same (R.n _ (BL _)).symm (R.g _ (BL _)).symm (fun t=>?_) ?_,hK⟩
  ·exact R.lU_text ops.size (BL _) fun j o hj _ _=>hL j hj
  ·exact R.hU_text ops.size (BL _) fun j o hj _ _=>hL j hj
 intro fuel
 induction fuel with
 |zero=>
  intro listed a w φ hsz hc ht hs
  have hr:Region.ready .any ops listed=[]:=by
   apply List.eq_nil_iff_forall_not_mem.2
   intro i hi;obtain⟨o,ho,hl,_⟩:=(hready listed hsz i).1 hi;have h1:i<ops.size:=(BP.1 ho).1;have:i∈(List.range ops.size).filter fun i=> !listed.getD i false:=List.mem_filter.2 ⟨List.mem_range.2 h1,by simp[hl]⟩
   simp only[todo,Nat.le_zero,List.length_eq_zero_iff]at ht;rw[ht]at this;cases this
  exact⟨hr,hend listed a w φ hsz hs hr⟩
 |succ fuel ih=>
  intro listed a w φ hsz hc ht hs;refine⟨hend listed a w φ hsz hs,fun i hi=>?_⟩;obtain⟨o,ho,hl,he⟩:=(hready listed hsz i).1 hi;have h1:i<ops.size:=(BP.1 ho).1;obtain⟨e1,hf1,hf2⟩:=R.step i o ho
  have hL':∀ j,(listed.setIfInBounds i true).getD j false=if j=i then true else listed.getD j false:=by
   intro j;simp only[Array.getD_eq_getD_getElem?,Array.getElem?_setIfInBounds]
   by_cases hj:i=j
   ·subst hj;simp[hsz,h1]
   ·have:¬j=i:=fun h=>hj h.symm
    simp[hj,this]
  have hbefore:∀ j x,j<i→ops[j]?=some x→clashO P ops x o=true→listed.getD j false=true:=fun j x hj hx hcl=>
   anc_done hanc hc (i+1) i o (by omega) ho he j (drawOk_at hok hj hx ho hcl)
  have hafter:∀ j y,i<j→ops[j]?=some y→clashO P ops o y=true→listed.getD j false=false:=fun j y hj hy hcl=>by
   cases hlj:listed.getD j false with
   |false=>rfl
   |true=>
    have:=anc_done hanc hc (j+1) j y (by omega) hy (hc j y hy hlj) i (drawOk_at hok hj ho hy hcl);rw[hl]at this;cases this
  have hlook:∀ t∈o.looksAt ops,look (lU ops st r (fun i=>listed.getD i false) ops.size) t=look (S i).s.l t:=fun t htm=>by
   rw[lU_stay (i:=i) ops.size (by omega) fun j x h2 h3 hx hlj hd=>?_]
   ·exact R.lU_text i (by omega) fun j x hj hx hd=>hbefore j x hj hx (clash_w hd (.inl htm))
   ·by_cases hji:j=i
    ·subst hji;rw[hl]at hlj;cases hlj
    ·have:=hafter j x (by omega) hx (clash_r hd htm);rw[this]at hlj;cases hlj
  have hheap:rwO P o.op=true→hU P ops st S (fun i=>listed.getD i false) ops.size=(S i).h:=fun hrw=>by
   rw[hU_stay (i:=i) ops.size (by omega) fun j x h2 h3 hx hlj=>?_]
   ·exact R.hU_text i (by omega) fun j x hj hx hw=>hbefore j x hj hx (clash_hw hw hrw)
   ·cases hw:wrO P x.op with
    |false=>rfl
    |true=>
     by_cases hji:j=i
     ·subst hji;rw[hl]at hlj;cases hlj
     ·have:=hafter j x (by omega) hx (clash_hr hrw hw);rw[this]at hlj;cases hlj
  have key:=hf2 ⟨⟨st.s.n,lU ops st r (fun i=>listed.getD i false) ops.size,st.s.g⟩,hU P ops st S (fun i=>listed.getD i false) ops.size⟩ (R.g i (by omega)).symm hlook hheap X φ a w Q i
   (fun s=>s.s.n=st.s.n∧s.s.g=st.s.g∧(∀ t,look s.s.l t=look (lU ops st r (fun j=>(listed.setIfInBounds i true).getD j false) ops.size) t)∧s.h=hU P ops st S (fun j=>(listed.setIfInBounds i true).getD j false) ops.size) hP hs ho ⟨?_,?_,fun t=>?_,?_⟩
  ·refine wpOp_mono (fun a w hn=>?_) key;obtain⟨φ',s',hs',g1,g0,g2,g3⟩:=hn;refine ih _ a w φ' (by simpa using hsz) (fun j x hx hlj e hm hb=>?_) ?_ (hs'.same g1 g0 g2 g3)
   ·simp only[hL']at hlj⊢
    split
    ·rfl
    ·by_cases hji:j=i
     ·subst hji;rw[ho]at hx;cases hx;exact he e hm hb
     ·rw[if_neg hji]at hlj;exact hc j x hx hlj e hm hb
   ·have:todo ops.size (fun j=>(listed.setIfInBounds i true).getD j false)<todo ops.size (fun j=>listed.getD j false):=by
     simp only[todo]
     have e2:((List.range ops.size).filter fun j=> !(listed.setIfInBounds i true).getD j false)=((List.range ops.size).filter fun j=> !listed.getD j false).filter fun j=>j != i:=by
      rw[List.filter_filter]
      apply List.filter_congr
      intro j _;rw[hL']
      by_cases hji:j=i
      ·simp[hji]
      ·simp[hji]
     rw[e2]
     apply List.length_filter_lt_length_iff_exists.2
     exact⟨i,List.mem_filter.2 ⟨List.mem_range.2 h1,by simp[hl]⟩,by simp⟩
    omega
  ·exact putS_n _ _ _
  ·exact putS_g _ _ _
  ·have e3:look (pt (⟨⟨st.s.n,lU ops st r (fun i=>listed.getD i false) ops.size,st.s.g⟩,if wrO P o.op=true then (S (i+1)).h else hU P ops st S (fun i=>listed.getD i false) ops.size⟩:St) o.dst (r i)).s.l t =
     if o.dst=some t∧t<st.s.n then r i else look (lU ops st r (fun i=>listed.getD i false) ops.size) t:=look_putS st.s.n o.dst (r i) _ _ t
   refine e3.trans ?_
   by_cases hd:o.dst=some t
   ·have e4:look (lU ops st r (fun j=>(listed.setIfInBounds i true).getD j false) ops.size) t=look (lU ops st r (fun j=>(listed.setIfInBounds i true).getD j false) (i+1)) t:=by
     refine lU_stay (i:=i+1) ops.size (by omega) fun j x h2 h3 hx hlj hdx=>?_
     have:=hafter j x (by omega) hx (clash_w hd (.inr hdx));simp only[hL',if_neg (show ¬j=i by omega)]at hlj;rw[this]at hlj;cases hlj
    have e5:∀ m,m≤i→look (lU ops st r (fun j=>(listed.setIfInBounds i true).getD j false) m) t=look (lU ops st r (fun i=>listed.getD i false) m) t:=fun m hm=>
     lU_same m fun j hj=>.inl (by simp only[hL',if_neg (show ¬j=i by omega)])
    have e6:look (lU ops st r (fun i=>listed.getD i false) ops.size) t=look (lU ops st r (fun i=>listed.getD i false) i) t:=by
     refine lU_stay (i:=i) ops.size (by omega) fun j x h2 h3 hx hlj hdx=>?_
     by_cases hji:j=i
     ·subst hji;rw[hl]at hlj;cases hlj
     ·have:=hafter j x (by omega) hx (clash_w hd (.inr hdx));rw[this]at hlj;cases hlj
    rw[e4];simp only[lU,hL',if_true,ho,Option.bind_some];rw[look_putL,e6];have:=e5 i (BL _);simp only[hL']at this;rw[this]
   ·rw[if_neg fun h=>hd h.1]
    symm
    refine lU_same ops.size fun j hj=>?_
    by_cases hji:j=i
    ·subst hji;exact .inr fun x hx=>by rw[ho]at hx;cases hx;exact hd
    ·exact .inl (by simp only[hL',if_neg hji])
  ·show (if wrO P o.op=true then (S (i+1)).h else hU P ops st S (fun i=>listed.getD i false) ops.size)=_
   cases hw:wrO P o.op with
   |true=>
    have hrw:rwO P o.op=true:=by simp[rwO,hw]
    have e4:hU P ops st S (fun j=>(listed.setIfInBounds i true).getD j false) ops.size=hU P ops st S (fun j=>(listed.setIfInBounds i true).getD j false) (i+1):=by
     refine hU_stay (i:=i+1) ops.size (by omega) fun j x h2 h3 hx hlj=>?_
     cases hwx:wrO P x.op with
     |false=>rfl
     |true=>
      have:=hafter j x (by omega) hx (clash_hr hrw hwx);simp only[hL',if_neg (show ¬j=i by omega)]at hlj;rw[this]at hlj;cases hlj
    rw[e4];simp only[hU,hL',if_true,ho,Option.map_some,hw,and_self]
   |false=>
    simp only[Bool.false_eq_true,if_false]
    symm
    refine hU_same ops.size fun j hj=>?_
    by_cases hji:j=i
    ·subst hji;exact .inr fun x hx=>by rw[ho]at hx;cases hx;exact hw
    ·exact .inl (by simp only[hL',if_neg hji])
theorem anyK_sound{X:Fix}{ops:Array Oper}{K:St→Prop}{Q:Exit→Act→World→Prop}(hQ:∀ a w,Nx X K a w→Q .normal a w):∀ (f:Nat) (listed:Array Bool) {φ:List Nat} {st:St} {a:Act} {w:World},SR X φ st a w→anyK X.P ops K f listed st→wpAny X.P .any ops Q f listed a w
 |0,listed,φ,st,a,w,hs,h=>⟨h.1,hQ _ _ ⟨φ,st,hs,h.2⟩⟩
 |f+1,listed,φ,st,a,w,hs,h=>by
  refine⟨fun hr=>hQ _ _ ⟨φ,st,hs,h.1 hr⟩,fun i hi=>?_⟩
  have hi2:i∈List.range ops.size:=by
   simp only[Region.ready,List.mem_filter]at hi;exact hi.1
  obtain⟨o,ho,hg,hk⟩:=h.2 i hi2 (by simpa using hi);unfold wpOp;rw[ho];have hw:Region.wanted o (yielded ops a.tmps)=true:=by simp[Region.wanted,hg]
  simp only[hw,if_true];refine .inl (Oper.wp_mono (fun a2 w2 ⟨φ2,s2,hs2,hk2⟩=>anyK_sound hQ f _ hs2 hk2) (kop_sound hs hk))
theorem draw_sound{X:Fix}{φ:List Nat}{st:St}{a:Act}{w:World}{ops:Array Oper}{Q:Post}{id:Nat}(hs:SR X φ st a w)(h:DrawK X.P ops Q st):(Code.region id ops true).wp X.P (Qx X Q) a w:=by
 obtain⟨h1,⟨h2,h3⟩|h3|h3⟩:=h
 case inr.inr=>exact wp_region_any h1 (anyK_sound (K:=ExtC (normK Q)) (fun a w ⟨φ',s',hs',s2,he,h'⟩=>⟨φ',s2,hs'.same he.1.symm he.2.1.symm (fun t=>(he.2.2.2 t).symm) he.2.2.1.symm,h'⟩) _ _ (hs.world ⟨rfl,rfl,rfl,BL _,fun _ _=>rfl⟩) h3)
 case inr.inl=>exact wp_region_any h1 (anyK_sound (K:=normK Q) (fun a w ⟨φ',s',hs',h'⟩=>⟨φ',s',hs',h'⟩) _ _ (hs.world ⟨rfl,rfl,rfl,BL _,fun _ _=>rfl⟩) h3)
 obtain⟨S,r,e0,e1,e2⟩:=runs ops.toList h3;have R:Run X.P ops st S r:=⟨e0,fun i o ho=>e2 i o (by simpa using ho)⟩
 have hf:∀ i,(Array.replicate ops.size false).getD i false=false:=fun i=>by
  simp only[Array.getD_eq_getD_getElem?,Array.getElem?_replicate]
  split<;>rfl
 refine wp_region_any h1 (draw_any rfl R (tbl:=ancT ops) h2 (K:=normK Q) (fun a w ⟨φ',s',hs',h'⟩=>⟨φ',s',hs',h'⟩) (by simpa using e1) ops.size (Array.replicate ops.size false) a { w with drawn:=w.drawn+1 } φ (by simp) (fun i o _ hl=>by simp only[hf]at hl;cases hl) ?_ ?_)
 ·exact BM (List.length_filter_le _ _) (by simp)
 ·have hs2:SR X φ st a { w with drawn:=w.drawn+1 }:=hs.world ⟨rfl,rfl,rfl,BL _,fun _ _=>rfl⟩;refine hs2.same rfl rfl (fun t=>?_) ?_
  ·have:look (lU ops st r (fun i=>(Array.replicate ops.size false).getD i false) ops.size) t=look st.s.l t:=lU_stay (i:=0) ops.size (BN _) fun j o _ _ _ hl=>by simp only[hf]at hl;cases hl
   exact this.symm
  ·have:hU X.P ops st S (fun i=>(Array.replicate ops.size false).getD i false) ops.size=st.h:=hU_stay (i:=0) ops.size (BN _) fun j o _ _ _ hl=>by simp only[hf]at hl;cases hl
   exact this.symm
section
variable {X:Fix} {φ:List Nat} {st:St} {a:Act} {w:World}
theorem kwp_sound(h0:X.c0=none):∀ (c:Code) (Q:Post) {φ:List Nat} {st:St} {a:Act} {w:World},SR X φ st a w→kwp X.P c Q st→c.wp X.P (Qx X Q) a w
 |.skip,Q,φ,st,a,w,hs,h=>wp_skip ⟨φ,st,hs,h⟩
 |.region id ops draw,Q,φ,st,a,w,hs,h=>by
  simp only[kwp]at h
  split at h
  ·rename_i hd;subst hd;exact draw_sound hs h
  ·rename_i hd;have hd':draw=false:=by simpa using hd
   subst hd';refine wp_region (kops_sound ops _ ops.toList _ ?_ hs h (fun a w ⟨φ',st',hs',h'⟩=>⟨φ',st',hs',h'⟩))
   apply List.ext_getElem?
   intro i;simp only[Bm]
   by_cases hi:i<ops.size
   ·simp[hi]
   ·rw[Bq (by simpa using hi),Bq (by simpa using hi)];rfl
 |.seq x y,Q,φ,st,a,w,hs,h=>by
  simp only[kwp]at h;refine wp_seq (wp_mono (kwp_sound h0 x _ hs h) fun e a w hq=>Qx_then (fun a w ⟨φ',st',hs',h'⟩=>kwp_sound h0 y Q hs' h') e a w hq)
 |.cond c x y,Q,φ,st,a,w,hs,h=>by
  simp only[kwp]at h;unfold CondK at h
  split at h
  ·rename_i z hg;have hc:=hs.get c;rw[hg]at hc;simp only[rel]at hc;exact wp_cond_split hc (fun e=>kwp_sound h0 x Q hs (h.1 e)) (fun e=>kwp_sound h0 y Q hs (h.2 e))
  ·exact h.elim
 |.block id c,Q,φ,st,a,w,hs,h=>by
  simp only[kwp]at h;refine wp_block (wp_mono (kwp_sound h0 c _ hs h) fun e a w hq=>?_);obtain⟨φ',st',hs',hq⟩:=hq;cases e with
  |exit j=>
   simp only[inBlockA]at hq;simp only[Exit.inBlock]
   split<;>rename_i hj
   ·rw[if_pos hj]at hq;exact⟨φ',st',hs',hq⟩
   ·rw[if_neg hj]at hq;exact⟨φ',st',hs',hq⟩
  |_=>exact⟨φ',st',hs',hq⟩
 |.loop c,Q,φ,st,a,w,hs,h=>by
  simp only[kwp]at h;obtain⟨R,n,s0,hw,hI,hr⟩:=h;obtain⟨φ0,hs0⟩:=hs.weak h0 hw;refine wp_loopR (fun m a w=>∃ φ' st',SR X φ' st' a w∧R m st') (n:=n) ⟨φ0,s0,hs0,hI⟩ fun m a w ⟨φ1,s1,hs1,hI1⟩=>?_
  refine wp_mono (kwp_sound h0 c _ hs1 (hr m s1 hI1)) fun e a w hq=>Qx_then (fun a w ⟨φ2,s2,hs2,m',s3,hw3,hlt,hI3⟩=>?_) e a w hq
  obtain⟨φ3,hs3⟩:=hs2.weak h0 hw3;exact⟨m',hlt,φ3,s3,hs3,hI3⟩
 |.exit id,Q,φ,st,a,w,hs,h=>wp_exit ⟨φ,st,hs,h⟩
 |.ret,Q,φ,st,a,w,hs,h=>wp_ret ⟨φ,st,hs,h⟩
 |.label l,Q,φ,st,a,w,hs,h=>wp_label ⟨φ,st,hs,h⟩
 |.goto l,Q,φ,st,a,w,hs,h=>wp_goto ⟨φ,st,hs,h⟩
 |.rangeFunc ..,Q,φ,st,a,w,hs,h=>h X φ a w rfl h0 hs
 |.scope ..,Q,φ,st,a,w,hs,h=>h X φ a w rfl h0 hs
 |.refuse ..,Q,φ,st,a,w,hs,h=>by simp only[kwp]at h
end
theorem Ev.of{P:Program}{γ:List (Nat×AV)}{f:FuncId}{fn:Func}{c:Code}{args:List AV}{res:AV}(hf:P.funcs[f]?=some fn)(hb:fn.body=some c)
  (h:kwp P c (endS P fn.results.toList res) (startA γ args fn.ntmps)):Ev P γ f args res:=
 Ev.of_wp hf hb fun X hP h0 _ _ hs=>by subst hP;exact wp_mono (kwp_sound h0 c _ hs h) fun e a w ⟨φ,s,hs,hq⟩=>⟨φ,s,hs,endS_endA hq⟩
theorem take1_drop(l:List AV)(n:Nat):take1 (l.drop n)=l[n]?:=by simp[take1]
theorem take1_cons(x:AV)(l:List AV):take1 (x::l)=some x:=rfl
theorem byteMap_at{l:List UInt8}{n:Nat}(h:n<l.length):(l.map byteC)[n]?=some (.v (.int .u8 (l[n]'h).toNat)):=by
 simp[h,byteC]
theorem take1_byte{l:List UInt8}{n:Nat}(h:n<l.length):take1 ((l.map byteC).drop n)=some (.v (.int .u8 (l[n]'h).toNat)):=by
 rw[take1_drop,byteMap_at h]
theorem bytesOfA_map(l:List UInt8):bytesOfA (l.map byteC)=some l:=by
 induction l with
 |nil=>rfl
 |cons b l ih=>simp[bytesOfA,byteC,ih]
theorem strOf_map(l:List UInt8):strOf (l.map byteC)=some (.v (.string ⟨l.toArray⟩)):=by simp[strOf,bytesOfA_map]
theorem all_one_map(l:List UInt8):(l.map byteC).all oneA=true:=by
 induction l with
 |nil=>rfl
 |cons b l ih=>simp only[BA,List.all_cons,ih,Bool.and_true];rfl
theorem noBorL_map(l:List UInt8):noBorL (l.map byteC)=true:=by
 induction l with
 |nil=>rfl
 |cons b l ih=>simp only[BA,noBorL,ih,Bool.and_true];rfl
theorem take_len_map{α β:Type}(f:α→β)(l:List α):List.take l.length (l.map f)=l.map f:=by
 rw[←List.map_take,List.take_length]
theorem i64w{n:Int}(h1 : -9223372036854775808≤n)(h2:n<9223372036854775808):IntKind.i64.wrap n=n:=by
 simp only[IntKind.wrap,IntKind.bits,IntKind.signed];simp
 split<;>omega
theorem u64w{n:Int}(h1:0≤n)(h2:n<18446744073709551616):IntKind.u64.wrap n=n:=by
 simp[IntKind.wrap,IntKind.bits,IntKind.signed];omega
theorem u8w{n:Int}(h1:0≤n)(h2:n<256):IntKind.u8.wrap n=n:=by
 simp[IntKind.wrap,IntKind.bits,IntKind.signed];omega
theorem endS_ret(P:Program)(rs:List ResultVar)(res:AV)(s:St):endS P rs res .ret s=resS P rs s fun xs=>fz P s.h false res (oneOrTup xs):=rfl
theorem endS_normal(P:Program)(rs:List ResultVar)(res:AV)(s:St):endS P rs res .normal s=resS P rs s fun xs=>fz P s.h false res (oneOrTup xs):=rfl
theorem resS_nil(P:Program)(s:St)(K:List AV→Prop):resS P [] s K=K []:=rfl
theorem resS_tmp(P:Program)(t:Nat)(rs:List ResultVar)(s:St)(K:List AV→Prop):resS P (.tmp t::rs) s K=resS P rs s fun xs=>K (look s.s.l t::xs):=rfl
theorem resS_cell(P:Program)(p t:Nat)(rs:List ResultVar)(s:St)(K:List AV→Prop):resS P (.cell p t::rs) s K=ValK (loadS P t s.h (look s.s.l p)) fun x=>resS P rs s fun xs=>K (x::xs):=rfl
theorem ValK_some(x:AV)(K:AV→Prop):ValK (some x) K=K x:=rfl
theorem one_1(x:AV):oneOrTup [x]=x:=rfl
theorem one_2(x y:AV)(l:List AV):oneOrTup (x::y::l)=.tup (x::y::l):=rfl
theorem one_0:oneOrTup []=.tup []:=rfl
theorem fz_v(P:Program)(H:List ABlk)(b:Bool)(a:Value)(x:AV):fz P H b (.v a) x=(x=.v a):=by simp only[fz]
theorem fz_nan(P:Program)(H:List ABlk)(b:Bool)(x:AV):fz P H b .nan x=(x=.nan):=by simp only[fz]
theorem fz_bad(P:Program)(H:List ABlk)(b:Bool)(x:AV):fz P H b .bad x=True:=by simp only[fz]
theorem fz_tup(P:Program)(H:List ABlk)(b:Bool)(ys xs:List AV):fz P H b (.tup ys) (.tup xs)=fzL P H b ys xs:=by simp only[fz,AV.tup.injEq,exists_eq_left']
theorem fz_agg(P:Program)(H:List ABlk)(b:Bool)(ys xs:List AV):fz P H b (.agg ys) (.agg xs)=fzL P H b ys xs:=by simp only[fz,AV.agg.injEq,exists_eq_left']
theorem fz_ifc(P:Program)(H:List ABlk)(b:Bool)(t:TypeId)(y x:AV):fz P H b (.ifc t y) (.ifc t x)=fz P H b y x:=by simp only[fz,AV.ifc.injEq,true_and,exists_eq_left']
theorem fzL_nil(P:Program)(H:List ABlk)(b:Bool):fzL P H b [] []=True:=by simp only[fzL]
theorem fzL_cons(P:Program)(H:List ABlk)(b:Bool)(y x:AV)(ys xs:List AV):fzL P H b (y::ys) (x::xs)=(fz P H b y x∧fzL P H b ys xs):=by
 simp only[fzL,List.cons.injEq];exact propext ⟨fun⟨_,_,⟨h1,h2⟩,h⟩=>by subst h1;subst h2;exact h,fun h=>⟨x,xs,⟨rfl,rfl⟩,h⟩⟩
theorem StepK_byte(s:St)(d:Option Tmp)(K:St→Prop)(l:List UInt8)(j:Nat):StepK (retV s d (l.map byteC)[j]?) K=(j<l.length∧K (pt s d (.v (.int .u8 ((l.getD j 0).toNat:Nat))))):=by
 by_cases h:j<l.length
 ·rw[byteMap_at h];simp[StepK,retV,h]
 ·have:(l.map byteC)[j]?=none:=by simpa using h
  rw[this];simp[StepK,retV,h]
theorem sAt_list(l:List UInt8)(j:Nat):sAt ⟨l.toArray⟩ j=((l.getD j 0).toNat:Nat):=by simp[sAt]
theorem list_back(l:List UInt8):(⟨l.toArray⟩:ByteArray).data.toList=l:=by simp
theorem okRefL_map(n:Nat)(l:List UInt8):okRefL n (l.map byteC)=true:=by
 induction l with
 |nil=>rfl
 |cons b l ih=>simp only[BA,okRefL,ih,Bool.and_true];rfl
theorem okRefL_append(n:Nat)(a b:List AV):okRefL n (a++b)=(okRefL n a&&okRefL n b):=by
 induction a with
 |nil=>simp[okRefL]
 |cons x a ih=>simp only[Bc,okRefL,ih,Bool.and_assoc]
theorem b256{p:Nat→Prop}[DecidablePred p](h:∀ n:Fin 256,p n.val)(c:UInt8):p c.toNat:=h ⟨c.toNat,c.toNat_lt⟩
set_option linter.defProp false in
def eS:=And.intro @sAt_list (And.intro @list_back (And.intro @StepK_byte (And.intro @endS_ret (And.intro @endS_normal (And.intro @resS_nil (And.intro @resS_tmp (And.intro @resS_cell (And.intro @ValK_some (And.intro @one_0 (And.intro @one_1 (And.intro @one_2 (And.intro @fz_v (And.intro @fz_nan (And.intro @fz_bad (And.intro @fz_tup (And.intro @fz_agg (And.intro @fz_ifc (And.intro @fzL_nil @fzL_cons))))))))))))))))))
theorem strOf_takeMap(l:List UInt8)(n:Nat):strOf (List.take n (l.map byteC))=some (.v (.string ⟨(l.take n).toArray⟩)):=by rw[←List.map_take,strOf_map]
theorem beq_refl_int(a:Int):(a==a)=true:=by simp
theorem beq_refl_bytes(a:List UInt8):(a==a)=true:=by simp
def zcT(P:Program)(t:TypeId):Option (List AV):=(zeroT P t).map zeroCells
section
variable {P:Program} {s:St} {K:St→Prop} {t:TypeId} {d:Option Tmp} {pos:String} {af:Array Edge} {g:Option (Nat×Bool)}
theorem s_alloc2(u:TypeId):kop P ⟨d,.alloc u,t,pos,af,g⟩ K s=StepK ((zcT P u).bind fun z=>retH s d (some (True,.ptr s.h.length 0 0,s.h++[⟨0,u,z⟩]))) K:=by
 rw[s_alloc];unfold zcT;cases zeroT P u<;>rfl
def bldS(P:Program)(t:TypeId)(ps:List (Nat×AV)):Option AV:=
 (zcT P t).bind fun z=>match placesT P t with
  |some pl=>(fillS (pl[·]?) ps z).map .agg
  |none=>(arrT P t).bind fun x=>(sizeT P x.2).bind fun sz=>(fillS (fun i=>some (i * sz,sz)) ps z).map .agg
theorem s_build2(u:TypeId)(ps:Array (Nat×Operand)):kop P ⟨d,.build u ps,t,pos,af,g⟩ K s=StepK (retV s d (bldS P u (ps.toList.map fun x=>(x.1,get s.s x.2)))) K:=by
 rw[s_build];unfold buildS bldS zcT;cases zeroT P u<;>rfl
end
set_option linter.defProp false in
def vS:=And.intro @Go.Ev.ofV.eq_1 (And.intro @Go.Ev.ofV.eq_2 (And.intro @Go.Ev.lenS.eq_1 (And.intro @Go.Ev.lenS.eq_2 (And.intro @Go.Ev.lenS.eq_3 (And.intro @Go.Ev.lenS.eq_4 (And.intro @Go.Ev.lenS.eq_5 (And.intro @Go.Ev.binS.eq_1 (And.intro @Go.Ev.binS.eq_2 (And.intro @Go.Ev.binS.eq_3 (And.intro @Go.Ev.binS.eq_4 (And.intro @Go.Ev.binS.eq_5 (And.intro @Go.Ev.binS.eq_6 (And.intro @Go.Ev.binS.eq_7 (And.intro @Go.Ev.binS.eq_8 (And.intro @Go.Ev.binS.eq_9 (And.intro @Go.Ev.binS.eq_10 (And.intro @Go.Ev.binS.eq_11 (And.intro @Go.Ev.binS.eq_12 (And.intro @Go.Ev.intS.eq_1 (And.intro @Go.Ev.intS.eq_2 (And.intro @Go.Ev.intS.eq_3 (And.intro @Go.Ev.intS.eq_4 (And.intro @Go.Ev.intS.eq_5 (And.intro @Go.Ev.intS.eq_6 (And.intro @Go.Ev.intS.eq_7 (And.intro @Go.Ev.intS.eq_8 (And.intro @Go.Ev.intS.eq_9 (And.intro @Go.Ev.intS.eq_10 (And.intro @Go.Ev.intS.eq_11 (And.intro @Go.Ev.intS.eq_12 (And.intro @Go.Ev.intS.eq_13 (And.intro @Go.Ev.intS.eq_14 (And.intro @Go.Ev.intS.eq_15 (And.intro @Go.Ev.intS.eq_16 (And.intro @Go.Ev.intS.eq_17 (And.intro @Go.Ev.okS.eq_1 (And.intro @Go.Ev.nilS.eq_1 (And.intro @Go.Ev.nilS.eq_2 (And.intro @Go.Ev.nilS.eq_3 (And.intro @Go.Ev.boolS.eq_1 (And.intro @Go.Ev.boolS.eq_2 (And.intro @Go.Ev.boolS.eq_3 (And.intro @Go.Ev.strS.eq_1 (And.intro @Go.Ev.strS.eq_2 (And.intro @Go.Ev.strS.eq_3 (And.intro @Go.Ev.strS.eq_4 (And.intro @Go.Ev.strS.eq_5 (And.intro @Go.Ev.strS.eq_6 (And.intro @Go.Ev.strS.eq_7 (And.intro @Go.Ev.strS.eq_8 (And.intro @Go.Ev.fltS.eq_1 (And.intro @Go.Ev.fltS.eq_2 (And.intro @Go.Ev.fltS.eq_3 (And.intro @Go.Ev.fltS.eq_4 (And.intro @Go.Ev.fltS.eq_5 (And.intro @Go.Ev.fltS.eq_6 (And.intro @Go.Ev.fltS.eq_7 (And.intro @Go.Ev.fltS.eq_8 (And.intro @Go.Ev.fltS.eq_9 (And.intro @Go.Ev.fltS.eq_10 (And.intro @Go.Ev.fltS.eq_11 (And.intro @Go.Ev.nanS.eq_1 (And.intro @Go.Ev.nanS.eq_2 (And.intro @Go.Ev.nanS.eq_3 (And.intro @Go.Ev.nanS.eq_4 (And.intro @Go.Ev.nanS.eq_5 (And.intro @Go.Ev.nanS.eq_6 (And.intro @Go.Ev.nanS.eq_7 (And.intro @Go.Ev.nanS.eq_8 (And.intro @Go.Ev.nanS.eq_9 (And.intro @Go.Ev.nanS.eq_10 (And.intro @Go.Ev.nanS.eq_11 (And.intro @Go.Ev.isConst.eq_1 (And.intro @Go.Ev.isConst.eq_2 (And.intro @Go.Ev.unS.eq_1 (And.intro @Go.Ev.unS.eq_2 (And.intro @Go.Ev.unS.eq_3 (And.intro @Go.Ev.unS.eq_4 (And.intro @Go.Ev.indexAddrS.eq_1 (And.intro @Go.Ev.indexAddrS.eq_2 (And.intro @Go.Ev.indexAddrS.eq_3 (And.intro @Go.Ev.indexAddrS.eq_4 (And.intro @Go.Ev.indexS.eq_1 (And.intro @Go.Ev.indexS.eq_2 (And.intro @Go.Ev.indexS.eq_3 (And.intro @Go.Ev.loadS.eq_1 (And.intro @Go.Ev.loadS.eq_2 (And.intro @Go.Ev.loadS.eq_3 (And.intro @Go.Ev.storeS.eq_1 (And.intro @Go.Ev.storeS.eq_2 (And.intro @Go.Ev.takeS.eq_1 (And.intro @Go.Ev.blkS.eq_1 (And.intro @Go.Ev.srcS.eq_1 (And.intro @Go.Ev.srcS.eq_2 (And.intro @Go.Ev.srcS.eq_3 (And.intro @Go.Ev.srcS.eq_4 (And.intro @Go.Ev.srcS.eq_5 (And.intro @Go.Ev.ontoS.eq_1 (And.intro @Go.Ev.ontoS.eq_2 (And.intro @Go.Ev.ontoS.eq_3 (And.intro @Go.Ev.sliceS.eq_1 (And.intro @Go.Ev.sliceS.eq_2 (And.intro @Go.Ev.sliceS.eq_3 (And.intro @Go.Ev.sliceS.eq_4 (And.intro @Go.Ev.sliceS.eq_5 (And.intro @Go.Ev.boundS.eq_1 (And.intro @Go.Ev.boundS.eq_2 (And.intro @Go.Ev.boundS.eq_3 (And.intro @Go.Ev.convertS.eq_1 (And.intro @Go.Ev.convertS.eq_2 (And.intro @Go.Ev.convertS.eq_3 (And.intro @Go.Ev.convertS.eq_4 (And.intro @Go.Ev.convertS.eq_5 (And.intro @Go.Ev.convertS.eq_6 (And.intro @Go.Ev.convertS.eq_7 (And.intro @Go.Ev.extractS.eq_1 (And.intro @Go.Ev.extractS.eq_2 (And.intro @Go.Ev.fillS.eq_1 (And.intro @Go.Ev.fillS.eq_2 (And.intro @Go.Ev.flat.eq_1 (And.intro @Go.Ev.flat.eq_2 (And.intro @Go.Ev.oneA.eq_1 (And.intro @Go.Ev.oneA.eq_2 (And.intro @Go.Ev.oneA.eq_3 (And.intro @Go.Ev.oneA.eq_4 (And.intro @Go.Ev.oneA.eq_5 (And.intro @Go.Ev.setMany.eq_1 (And.intro @Go.Ev.setMany.eq_2 (And.intro @Go.Ev.fieldS.eq_1 (And.intro @Go.Ev.fieldS.eq_2 (And.intro @Go.Ev.fieldAddrS.eq_1 (And.intro @Go.Ev.fieldAddrS.eq_2 (And.intro @Go.Ev.fieldAddrS.eq_3 (And.intro @Go.Ev.makeSliceS.eq_1 (And.intro @Go.Ev.makeSliceS.eq_2 (And.intro @Go.Ev.nilChk.eq_1 (And.intro @Go.Ev.nilChk.eq_2 (And.intro @Go.Ev.nilChk.eq_3 (And.intro @Go.Ev.guardA.eq_1 (And.intro @Go.Ev.bldS.eq_1 (And.intro @Go.Value.oneCell'.eq_1 (And.intro @Go.Value.oneCell'.eq_2 (And.intro @Go.Value.oneCell'.eq_3 (And.intro @Go.Ev.startA.eq_1 (And.intro @Go.Ev.idxL.eq_1 (And.intro @Go.Ev.idxL.eq_2 (And.intro @Go.Ev.allIn.eq_1 (And.intro @Go.Ev.allIn.eq_2 (@Go.Ev.St.weak.eq_1)))))))))))))))))))))))))))))))))))))))))))))))))))))))))))))))))))))))))))))))))))))))))))))))))))))))))))))))))))))))))))))))))))))))))))))))))))))
set_option linter.defProp false in
def gS:=And.intro @decide_true (And.intro @decide_false (And.intro @Bool.and_true (And.intro @Bool.true_and (And.intro @Bool.and_self (And.intro @eq_self.{1} (And.intro @Option.some.injEq.{0} (And.intro @ne_eq.{1} (And.intro @not_false_eq_true (And.intro @not_true_eq_false ((And.intro @strOf_takeMap (And.intro @if_true.{1} (And.intro @if_false.{1} (And.intro @Bool.or_true (And.intro @Bool.true_or (And.intro @Bool.or_false (And.intro @Bool.false_or (And.intro @Option.map_some.{0,0} (And.intro @Option.map_none.{0,0} (And.intro @Option.bind_some.{0,0} (And.intro @Option.bind_none.{0,0} (And.intro @Option.isSome_some.{0} (And.intro @Option.isSome_none.{0} (And.intro @true_or (And.intro @or_true (And.intro @false_or (And.intro @or_false (And.intro @true_and (And.intro @and_true (And.intro @and_self (And.intro @BC.{0} (And.intro @BD.{0} (And.intro @Bp.{0} (And.intro @Bl.{0} (And.intro @BA.{0,0} (And.intro @List.map_nil.{0,0} (And.intro @Bk.{0,0} (And.intro @Bi.{0} (And.intro @Bc.{0} (And.intro @Bx.{0} (And.intro @Bw.{0} (And.intro @Bz.{0} (And.intro @Bu.{0} (And.intro @List.getElem?_nil.{0} (And.intro @List.drop_zero.{0} (And.intro @List.drop_succ_cons.{0} (And.intro @List.drop_nil.{0} (And.intro @take1_cons (And.intro @take1_drop (And.intro @List.take_succ_cons.{0} (And.intro @List.take_nil.{0} (And.intro @List.all_cons.{0} (And.intro @List.all_nil.{0} (And.intro @Nat.mul_one (And.intro @Nat.one_mul (And.intro @Nat.zero_add (And.intro @Nat.add_zero (And.intro @Nat.mul_zero (And.intro @Nat.zero_mul (And.intro @List.flatten_cons.{0} (And.intro @List.flatten_nil.{0} (And.intro @BS.{0} (And.intro @List.take_zero.{0} (And.intro @take_len_map (And.intro @BU.{0} (And.intro @Int.toNat_natCast (And.intro @Int.toNat_zero (And.intro @Nat.sub_zero (And.intro @Int.natCast_nonneg (And.intro @BN (And.intro @Int.ofNat_lt (And.intro @BT.{0} (And.intro @strOf_map (And.intro @okRefL_map (And.intro @okRefL_append (And.intro @beq_refl_int (@beq_refl_bytes)))))))))))))))))))))))))))))))))))))))))))))))))))))))))))))))))))))))))))))
set_option linter.defProp false in
def cS:=And.intro @s_max<|And.intro @maxS_mk<|And.intro @s_real (And.intro @s_imag (And.intro @s_comp (And.intro @partS_re (And.intro @partS_im (And.intro @compS_mk (And.intro @cplS_eql @cplS_neq))))))
set_option linter.defProp false in
def evS:=And.intro cS<|And.intro @s_alloc2 (And.intro @s_build2 (And.intro kS (And.intro eS (And.intro vS gS))))
def jumpsE(J:Nat→Act→World→Prop)(Q:Exit→Act→World→Prop):Exit→Act→World→Prop
 |.goto l,a,w=>J l a w
 |e,a,w=>Q e a w
theorem wp_scope_labels{P:Program}{a:Act}{w:World}{Q:Exit→Act→World→Prop}{c:Code}(J:Nat→Nat→Act→World→Prop)
  (first:c.wp P (jumpsE (fun l a w=>∃ m,J m l a w) Q) a w)
  (pass:∀ m l a w,J m l a w→∃ rest,findLabel c l=some rest∧rest.wp P (jumpsE (fun l' a' w'=>∃ m',m'<m∧J m' l' a' w') Q) a w):(Code.scope c).wp P Q a w:=by
 intro b k cs
 have key:∀ n l a w,J n l a w→∃ rest,gotoIn l (.inScope c::k)=some (.code rest::.inScope c::k)∧∃ e a' w',Q e a' w'∧Arrives P (lone (b.at a (.code rest::.inScope c::k)) cs w) b k cs e a' w':=by
  intro n
  induction n using Nat.strongRecOn with
  |_ n ih=>
   intro l a w hJ;obtain⟨rest,hf,hp⟩:=pass n l a w hJ;refine⟨rest,by simp[gotoIn,hf],?_⟩;obtain⟨e,a₁,w₁,hq,harr⟩:=hp b (.inScope c::k) cs;cases e with
   |normal=>exact⟨.normal,a₁,w₁,hq,Steps.trans harr (.one step_inScope)⟩
   |exit id=>exact⟨.exit id,a₁,w₁,hq,fun k' hk=>harr k' (by simp[exitTo,hk])⟩
   |goto l'=>
    obtain⟨m',hlt,hJ'⟩:=hq;obtain⟨rest',hg,e₂,a₂,w₂,hq₂,harr₂⟩:=ih m' hlt l' a₁ w₁ hJ';exact⟨e₂,a₂,w₂,hq₂,.of_steps (harr _ hg) harr₂⟩
   |ret=>exact⟨_,a₁,w₁,hq,harr⟩
   |panic ch=>exact⟨_,a₁,w₁,hq,harr⟩
   |outgrown=>exact⟨_,a₁,w₁,hq,harr⟩
 obtain⟨e,a₁,w₁,hq,harr⟩:=first b (.inScope c::k) cs
 cases e with
 |normal=>exact⟨.normal,a₁,w₁,hq,.head step_scope (Steps.trans harr (.one step_inScope))⟩
 |exit id=>exact⟨.exit id,a₁,w₁,hq,fun k' hk=>.head step_scope (harr k' (by simp[exitTo,hk]))⟩
 |goto l'=>
  obtain⟨m,hJ'⟩:=hq;obtain⟨rest',hg,e₂,a₂,w₂,hq₂,harr₂⟩:=key m l' a₁ w₁ hJ';exact⟨e₂,a₂,w₂,hq₂,.of_steps (.head step_scope (harr _ hg)) harr₂⟩
 |ret=>exact⟨_,a₁,w₁,hq,.of_steps (.one step_scope) harr⟩
 |panic ch=>exact⟨_,a₁,w₁,hq,.of_steps (.one step_scope) harr⟩
 |outgrown=>exact⟨_,a₁,w₁,hq,.of_steps (.one step_scope) harr⟩
def gotoA(J:Nat→St→Prop)(Q:Post):Post
 |.goto l,s=>J l s
 |e,s=>Q e s
theorem gotoA_goto(J:Nat→St→Prop)(Q:Post)(l:Nat)(s:St):gotoA J Q (.goto l) s=J l s:=rfl
theorem gotoA_normal(J:Nat→St→Prop)(Q:Post)(s:St):gotoA J Q .normal s=Q .normal s:=rfl
theorem gotoA_ret(J:Nat→St→Prop)(Q:Post)(s:St):gotoA J Q .ret s=Q .ret s:=rfl
theorem gotoA_exit(J:Nat→St→Prop)(Q:Post)(i:Nat)(s:St):gotoA J Q (.exit i) s=Q (.exit i) s:=rfl
def labelC{α:Type}(mk:α→St)(inv:α→Prop)(lbl μ:α→Nat)(m:Option Nat)(l:Nat)(s:St):Prop:=
 ∃ a,inv a∧lbl a=l∧s.weak (mk a)∧∀ k,m=some k→μ a<k
theorem labelC.intro{α:Type}{mk:α→St}{inv:α→Prop}{lbl μ:α→Nat}{m:Option Nat}{l:Nat}{s:St}(a:α)(h1:inv a)(h2:lbl a=l)(h3:s.weak (mk a))(h4:∀ k,m=some k→μ a<k):labelC mk inv lbl μ m l s:=⟨a,h1,h2,h3,h4⟩
theorem Qx_jumps{X:Fix}{Q:Post}{J:Nat→St→Prop}{J':Nat→Act→World→Prop}(h:∀ l a w φ s,SR X φ s a w→J l s→J' l a w):∀ e a w,Qx X (gotoA J Q) e a w→jumpsE J' (Qx X Q) e a w
 |.goto l,a,w,⟨φ,s,hs,hj⟩=>h l a w φ s hs hj
 |.normal,_,_,h=>h
 |.ret,_,_,h=>h
 |.exit _,_,_,h=>h
 |.panic _,_,_,h=>h
 |.outgrown,_,_,h=>h
theorem SemK.scope{P:Program}{c:Code}{Q:Post}{s:St}{α:Type}(mk:α→St)(inv:α→Prop)(lbl μ:α→Nat)
  (first:kwp P c (gotoA (labelC mk inv lbl μ none) Q) s)
  (pass:∀ a,inv a→∃ rest,findLabel c (lbl a)=some rest∧kwp P rest (gotoA (labelC mk inv lbl μ (some (μ a))) Q) (mk a)):SemK P (.scope c) Q s:=by
 intro X φ a w hP h0 hs;subst hP;refine wp_scope_labels (fun m l a w=>∃ x φ',inv x∧lbl x=l∧μ x=m∧SR X φ' (mk x) a w) ?_ fun m l a w ⟨x,φ',h1,h2,h3,h4⟩=>?_
 ·refine wp_mono (kwp_sound h0 c _ hs first) (Qx_jumps fun l a w φ s hs ⟨x,h1,h2,h3,_⟩=>?_);obtain⟨φ',h4⟩:=hs.weak h0 h3;exact⟨_,x,φ',h1,h2,rfl,h4⟩
 ·subst h2;obtain⟨rest,hf,hk⟩:=pass x h1;refine⟨rest,hf,wp_mono (kwp_sound h0 rest _ h4 hk) (Qx_jumps fun l a w φ s hs ⟨y,g1,g2,g3,g4⟩=>?_)⟩;obtain⟨φ',g5⟩:=hs.weak h0 g3;exact⟨_,by rw[←h3];exact g4 _ rfl,y,φ',g1,g2,rfl,g5⟩
set_option linter.defProp false in
def lS:=And.intro @gotoA_goto (And.intro @gotoA_normal (And.intro @gotoA_ret @gotoA_exit))
theorem ExtV.of{P:Program}{g:FuncId}{fn:Func}{e:Array Value→Sem Value}(hf:P.funcs[g]?=some fn)(hname:(fn.name == "runtime.NumGoroutine")=false)(hb:fn.body.isNone=true)(hn:Extern.findNext fn=none)
  (he:Extern.find fn=some e) {xs:List AV} {r:AV} (h:∀ (c:Cx) (w:World) (vs:Array Value),c.P=P→relL xs c vs.toList→∃ u,(e vs).run P w=.ok u w∧rel r c u):ExtV P g xs r:=by
 intro c w vs hc hr;obtain⟨u,h1,h2⟩:=h c w vs hc hr;refine⟨u,w,?_,Below.refl _ _,h2⟩;rw[run_callFunc_extern hf hname hb hn he];simp only[Sem.run_bind,h1]
 rfl
theorem ext_indexByteString{P:Program}{g:FuncId}{fn:Func}(hf:P.funcs[g]?=some fn)(hname:(fn.name == "runtime.NumGoroutine")=false)(hb:fn.body.isNone=true)(hn:Extern.findNext fn=none)
  (he:Extern.find fn=some Extern.BytealgIndexByte.indexByte) (s:ByteArray) (c:Int):ExtV P g [.v (.string s),.v (.int .u8 c)] (.v (.int .i64 (Lib.indexByte s.data.toList c.toNat.toUInt8))):=by
 refine ExtV.of hf hname hb hn he fun cx w vs _ hr=>?_
 simp only[relL,rel]at hr;obtain⟨u,us,e1,rfl,v,vs',rfl,rfl,rfl⟩:=hr;obtain rfl:vs = #[.string s,.int .u8 c]:=by cases vs;simp_all
 exact⟨_,Lib.run_indexByteString s c w,by simp only[rel]⟩
theorem ext_float64bits{P:Program}{g:FuncId}{fn:Func}(hf:P.funcs[g]?=some fn)(hname:(fn.name == "runtime.NumGoroutine")=false)(hb:fn.body.isNone=true)(hn:Extern.findNext fn=none)
  (he:Extern.find fn=some Extern.MathFloatBits.float64bits) (b:Nat):ExtV P g [.v (.float .f64 b)] (.v (.int .u64 b)):=by
 refine ExtV.of hf hname hb hn he fun cx w vs _ hr=>?_
 simp only[relL,rel]at hr;obtain⟨u,us,e1,rfl,rfl⟩:=hr;obtain rfl:vs = #[.float .f64 b]:=by cases vs;simp_all
 exact⟨.int .u64 b,rfl,by simp only[rel]⟩
theorem ext_float64frombits{P:Program}{g:FuncId}{fn:Func}(hf:P.funcs[g]?=some fn)(hname:(fn.name == "runtime.NumGoroutine")=false)(hb:fn.body.isNone=true)(hn:Extern.findNext fn=none)
  (he:Extern.find fn=some Extern.MathFloatBits.float64frombits) (n:Int):ExtV P g [.v (.int .u64 n)] (.v (.float .f64 n.toNat)):=by
 refine ExtV.of hf hname hb hn he fun cx w vs _ hr=>?_
 simp only[relL,rel]at hr;obtain⟨u,us,e1,rfl,rfl⟩:=hr;obtain rfl:vs = #[.int .u64 n]:=by cases vs;simp_all
 exact⟨.float .f64 n.toNat,rfl,by simp only[rel]⟩
end Go.Ev
