/- The evaluator: abstract values, and code carried out on them. -/
import Derived.Test.YtlobiioioicmhaaGreatDoorCU4
import Derived.ScopeJumps
import Derived.Laws.LoneSync
import Derived.Lib.Bytealg
set_option linter.all false
set_option maxHeartbeats 8000000
namespace Go.Ev
open _root_.Array renaming getElem?_eq_some_iff→BP
open _root_.List renaming length_set→Bl,length_append→Bp,cons_append→Bc,nil_append→Bi,getElem?_cons_zero→Bz,getElem?_cons_succ→Bu,set_cons_zero→Bx,set_cons_succ→Bw,getElem?_map→Bm,length_map→Bk,getElem?_eq_none→Bq,map_cons→BA,length_cons→BC,length_nil→BD,append_nil→BS,drop_drop→BT,getElem?_toArray→BU
open _root_.Nat renaming le_refl→BL,le_trans→BM,zero_le→BN
open Go Go.RowKit
def Frame(P:Program)(o:Oper)(K:St→Prop)(st:St):Prop:=
 ∃ r h',K (pt ⟨st.s,h'⟩ o.dst r)∧(Kc P o.op=false→h'=st.h)∧∀ st2:St,st2.s.g=st.s.g→(∀ x∈o.op.operands.toList,get st2.s x=get st.s x)→(O9 P o.op=true→st2.h=st.h)→
  ∀ K2:St→Prop,K2 (pt ⟨st2.s,if Kc P o.op=true then h' else st2.h⟩ o.dst r)→Cb P o K2 st2
section
variable {P:Program} {o:Oper} {K:St→Prop} {st:St}
theorem VN(F:(Operand→AV)→List Aa→Option AV)(he:∀ s K,Cb P o K s=AL (DP s o.dst (F (get s.s) s.h)) K)
  (hc:∀ g g' h,(∀ x∈o.op.operands.toList,g' x=g x)→F g' h=F g h) (hf:O9 P o.op=false→∀ g h h',F g h=F g h') (hw:Kc P o.op=false) (h:Cb P o K st):Frame P o K st:=by
 rw[he]at h;cases e:F (get st.s) st.h with
 |none=>rw[e]at h;exact h.elim
 |some r=>
  rw[e,Hc]at h;refine⟨r,st.h,h,fun _=>rfl,fun st2 h0 h1 h2 K2 hk=>?_⟩
  have e2:F (get st2.s) st2.h=some r:=by
   rw[hc (get st.s) (get st2.s) st2.h h1];cases hr:O9 P o.op with
   |true=>rw[h2 hr];exact e
   |false=>rw[hf hr _ _ st.h];exact e
  rw[he,e2,Hc];simpa[hw]using hk
theorem mD(F:(Operand→AV)→List Aa→SV)(he:∀ s K,Cb P o K s=AL (Jl s o.dst (F (get s.s) s.h)) K)
  (hc:∀ g g' h,(∀ x∈o.op.operands.toList,g' x=g x)→F g' h=F g h) (hf:O9 P o.op=false→∀ g h h',F g h=F g h') (hw:Kc P o.op=false) (h:Cb P o K st):Frame P o K st:=by
 rw[he]at h;cases e:F (get st.s) st.h with
 |none=>rw[e]at h;exact h.elim
 |some q=>
  obtain⟨p,r⟩:=q;rw[e,Kw]at h;refine⟨r,st.h,h.2,fun _=>rfl,fun st2 h0 h1 h2 K2 hk=>?_⟩
  have e2:F (get st2.s) st2.h=some (p,r):=by
   rw[hc (get st.s) (get st2.s) st2.h h1];cases hr:O9 P o.op with
   |true=>rw[h2 hr];exact e
   |false=>rw[hf hr _ _ st.h];exact e
  rw[he,e2,Kw];exact⟨h.1,by simpa[hw]using hk⟩
theorem kO(F:(Operand→AV)→List Aa→Option (Prop×AV×List Aa))(he:∀ s K,Cb P o K s=AL (Im s o.dst (F (get s.s) s.h)) K)
  (hc:∀ g g' h,(∀ x∈o.op.operands.toList,g' x=g x)→F g' h=F g h) (hr:O9 P o.op=true) (hw:Kc P o.op=true) (h:Cb P o K st):Frame P o K st:=by
 rw[he]at h;cases e:F (get st.s) st.h with
 |none=>rw[e]at h;exact h.elim
 |some q=>
  obtain⟨p,r,h'⟩:=q;rw[e,Kq]at h;refine⟨r,h',h.2,fun hw'=>(by rw[hw]at hw';cases hw'),fun st2 h0 h1 h2 K2 hk=>?_⟩;have e2:F (get st2.s) st2.h=some (p,r,h'):=by rw[hc (get st.s) (get st2.s) st2.h h1,h2 hr];exact e
  rw[he,e2,Kq];exact⟨h.1,by simpa[hw]using hk⟩
end
theorem HR{P:Program}{o:Oper}{K:St→Prop}{st:St}(h:Cb P o K st):Frame P o K st:=by
 obtain⟨d,op,t,pos,af,g⟩:=o;cases op with
 |move x=>exact VN (fun g _=>some (g x)) (fun s K=>by rw[bD,Hc]) (fun g g' h e=>by rw[e x (by simp[Op.operands])]) (fun _ _ _ _=>rfl) rfl h
 |assign x=>exact VN (fun g _=>some (g x)) (fun s K=>by rw[SL,Hc]) (fun g g' h e=>by rw[e x (by simp[Op.operands])]) (fun _ _ _ _=>rfl) rfl h
 |load u x=>exact VN (fun g h=>IE P u h (g x)) (fun s K=>rfl) (fun g g' h e=>by rw[e x (by simp[Op.operands])]) (fun e=>by simp[O9]at e) rfl h
 |fieldAddr u x f=>exact VN (fun g h=>D1 P u f h (g x)) (fun s K=>rfl) (fun g g' h e=>by rw[e x (by simp[Op.operands])]) (fun e=>by simp[O9]at e) rfl h
 |field u x f=>exact VN (fun g h=>LP P u f (g x)) (fun s K=>rfl) (fun g g' h e=>by rw[e x (by simp[Op.operands])]) (fun _ _ _ _=>rfl) rfl h
 |extract x i=>exact VN (fun g h=>HV i (g x)) (fun s K=>rfl) (fun g g' h e=>by rw[e x (by simp[Op.operands])]) (fun _ _ _ _=>rfl) rfl h
 |build u ps=>exact VN (fun g h=>L4 P u (ps.toList.map fun (i,x)=>(i,g x))) (fun s K=>rfl) (fun g g' h e=>by
   congr 1
   apply List.map_congr_left
   intro q hq;show ((q.1,g' q.2):Nat×AV)=(q.1,g q.2);rw[e q.2 (by simp[Op.operands];exact⟨q.1,by simpa using hq⟩)]) (fun _ _ _ _=>rfl) rfl h
 |binOp op u x y v=>exact mD (fun g h=>I7 P op u (isConst x || isConst y) (g x) (g y)) (fun s K=>rfl) (fun g g' h e=>by rw[e x (by simp[Op.operands]),e y (by simp[Op.operands])]) (fun _ _ _ _=>rfl) rfl h
 |unOp op u x=>exact mD (fun g h=>fW op (g x)) (fun s K=>rfl) (fun g g' h e=>by rw[e x (by simp[Op.operands])]) (fun _ _ _ _=>rfl) rfl h
 |index u x y=>exact mD (fun g h=>J0 P u (g x) (g y)) (fun s K=>rfl) (fun g g' h e=>by rw[e x (by simp[Op.operands]),e y (by simp[Op.operands])]) (fun _ _ _ _=>rfl) rfl h
 |indexAddr u x y=>exact mD (fun g h=>CL P u h (g x) (g y)) (fun s K=>rfl) (fun g g' h e=>by rw[e x (by simp[Op.operands]),e y (by simp[Op.operands])]) (fun e=>by simp[O9]at e) rfl h
 |slice u x lo hi mx=>
  cases mx with
  |some m=>simp only[Cb,EB,AL]at h
  |none=>exact mD (fun g h=>FO P u h (lo.map g) (hi.map g) (g x)) (fun s K=>rfl) (fun g g' h e=>by
    have e1:lo.map g'=lo.map g:=by
     cases lo with
     |none=>rfl
     |some y=>simp only[Option.map_some];rw[e y (by simp[Op.operands])]
    have e2:hi.map g'=hi.map g:=by
     cases hi with
     |none=>rfl
     |some y=>simp only[Option.map_some];rw[e y (by simp[Op.operands])]
    rw[e1,e2,e x (by simp[Op.operands])]) (fun e g h h'=>by
    have ht:Dl P u=true:=by simpa[O9]using e
    have hel:Az P u=none:=by
     unfold Dl at ht;unfold Az
     split at ht
     ·rename_i hu;rw[hu]
     ·cases ht
    show FO P u h (lo.map g) (hi.map g) (g x)=FO P u h' (lo.map g) (hi.map g) (g x)
    unfold FO;rw[hel]
    split<;>rfl) rfl h
 |makeInterface u x=>exact VN (fun g h=>if Gt P u=some false then some (.ifc u (g x))else none) (fun s K=>by
   rw[Ta];split<;>rfl) (fun g g' h e=>by rw[e x (by simp[Op.operands])]) (fun _ _ _ _=>rfl) rfl h
 |alloc u=>exact kO (fun g h=>(zeroT P u).bind fun z=>some (True,.ptr h.length 0 0,h++[⟨0,u,zeroCells z⟩])) (fun s K=>by
   rw[MJ];cases zeroT P u<;>rfl) (fun _ _ _ _=>rfl) rfl rfl h
 |box u x=>exact kO (fun g h=>(flat (g x)).bind fun cs=>some (True,.ptr h.length 0 0,h++[⟨0,u,cs⟩])) (fun s K=>by
   rw[VV];cases flat (get s.s x)<;>rfl) (fun g g' h e=>by rw[e x (by simp[Op.operands])]) rfl rfl h
 |buildSlice u n ps=>exact kO (fun g h=>(Du P u n (ps.toList.map fun (i,x)=>(i,g x)) h).map fun (r,h)=>(True,r,h)) (fun s K=>rfl) (fun g g' h e=>by
   congr 2
   apply List.map_congr_left
   intro q hq;show ((q.1,g' q.2):Nat×AV)=(q.1,g q.2);rw[e q.2 (by simp[Op.operands];exact⟨q.1,by simpa using hq⟩)]) rfl rfl h
 |makeSlice u x y=>exact kO (fun g h=>EI P u h (g x) (g y)) (fun s K=>rfl) (fun g g' h e=>by rw[e x (by simp[Op.operands]),e y (by simp[Op.operands])]) rfl rfl h
 |store u x y=>exact kO (fun g h=>(Ji P u h (g x) (g y)).map fun h=>(True,.bad,h)) (fun s K=>by
   rw[Wf];cases Ji P u s.h (get s.s x) (get s.s y)<;>rfl) (fun g g' h e=>by rw[e x (by simp[Op.operands]),e y (by simp[Op.operands])]) rfl rfl h
 |nilCheck x=>
  refine VN (fun g h=>match g x with
   |.ptr i ver off=>(Gw h i ver).map fun _=>.ptr i ver off
   |.ela b cs=>some (.ela b cs)
   |_=>none) (fun s K=>?_) (fun g g' h e=>?_) (fun e=>?_) rfl h
  ·rw[Ii];cases hq:get s.s x<;>simp only[Ih,hq]<;>try rfl
   cases Gw s.h _ _<;>rfl
  ·simp only[e x (by simp[Op.operands])]
  ·simp[O9]at e
 |pick c x y=>
  rw[Uf]at h;unfold Fc at h
  split at h
  ·rename_i z hz;refine⟨if z=true then get st.s x else get st.s y,st.h,?_,fun _=>rfl,fun st2 h0 h1 h2 K2 hk=>?_⟩
   ·cases z
    ·exact h.2 rfl
    ·exact h.1 rfl
   ·rw[Uf,h1 c (by simp[Op.operands]),h1 x (by simp[Op.operands]),h1 y (by simp[Op.operands]),hz];refine Fc.intro (fun e=>?_) (fun e=>?_)<;>subst e<;>exact hk
  ·exact h.elim
 |convert a b x=>
  cases hb:(CO P b).isSome with
  |false=>exact kO (fun g h=>CP P a b h (g x)) (fun s K=>rfl) (fun g g' h e=>by rw[e x (by simp[Op.operands])]) (by simp[O9,hb]) (by simp[Kc,hb]) h
  |true=>
   obtain⟨k,hk⟩:=Option.isSome_iff_exists.1 hb
   have hs:Dl P b=false:=by
    unfold CO at hk;unfold Dl;cases hu:P.underlying b with
    |none=>rfl
    |some u=>rw[hu]at hk;cases u<;>simp at hk⊢
   have he:Az P b=none:=by
    unfold CO at hk;unfold Az;cases hu:P.underlying b with
    |none=>rfl
    |some u=>rw[hu]at hk;cases u<;>simp at hk⊢
   refine mD (fun g _=>match g x with
    |.v (.int _ n)=>if (P.underlying a).isSome=true then some (True,.v (.int k (k.wrap n)))else none
    |.v (.float .f64 b)=>if (P.underlying a).isSome=true then (nM b k).map fun n=>(True,.v (.int k n))else none
    |_=>none) (fun s K=>?_) (fun g g' h e=>by simp only[e x (by simp[Op.operands])]) (fun _ _ _ _=>rfl) (by simp[Kc,hb]) h
   rw[JA];unfold CP
   split<;>rename_i e<;>simp[e,hk,hs,he]
   ·split<;>rfl
   ·split
    ·cases nM _ k<;>rfl
    ·rfl
   all_goals rfl
 |call c=>
  obtain⟨callee,xs,ts⟩:=c;cases callee with
  |builtin b=>
   cases b with
   |len=>
    obtain⟨l⟩:=xs;cases l with
    |nil=>simp only[Cb,EB,Et,AL]at h
    |cons x l=>
     exact VN (fun g h=>(ts[0]?).bind fun t=>CE P t h (g x)) (fun s K=>by
      simp only[Cb,EB,Et];cases ts[0]?<;>rfl) (fun g g' h e=>by rw[e x (by simp[Op.operands,Call.operands])]) (fun e=>by simp[O9]at e) rfl h
   |append=>
    obtain⟨l⟩:=xs
    match l with
    |[]|[_]|_::_::_::_=>simp only[Cb,EB,Et,AL]at h
    |[x,y]=>exact kO (fun g h=>JD P ts h (g x) (g y)) (fun s K=>rfl) (fun g g' h e=>by rw[e x (by simp[Op.operands,Call.operands]),e y (by simp[Op.operands,Call.operands])]) rfl rfl h
   |real=>
    obtain⟨l⟩:=xs
    match l with
    |[]|_::_::_=>simp only[Cb,EB,Et,AL]at h
    |[x]=>exact VN (fun g h=>I9 false (g x)) (fun s K=>rfl) (fun g g' h e=>by rw[e x (by simp[Op.operands,Call.operands])]) (fun _ _ _ _=>rfl) rfl h
   |imag=>
    obtain⟨l⟩:=xs
    match l with
    |[]|_::_::_=>simp only[Cb,EB,Et,AL]at h
    |[x]=>exact VN (fun g h=>I9 true (g x)) (fun s K=>rfl) (fun g g' h e=>by rw[e x (by simp[Op.operands,Call.operands])]) (fun _ _ _ _=>rfl) rfl h
   |complex=>
    obtain⟨l⟩:=xs
    match l with
    |[]|[_]|_::_::_::_=>simp only[Cb,EB,Et,AL]at h
    |[x,y]=>exact VN (fun g h=>Nv (g x) (g y)) (fun s K=>rfl) (fun g g' h e=>by rw[e x (by simp[Op.operands,Call.operands]),e y (by simp[Op.operands,Call.operands])]) (fun _ _ _ _=>rfl) rfl h
   |max=>
    obtain⟨l⟩:=xs
    match l with
    |[]|[_]|_::_::_::_=>simp only[Cb,EB,Et,AL]at h
    |[x,y]=>exact VN (fun g h=>TK (g x) (g y)) (fun s K=>rfl) (fun g g' h e=>by rw[e x (by simp[Op.operands,Call.operands]),e y (by simp[Op.operands,Call.operands])]) (fun _ _ _ _=>rfl) rfl h
   |_=>simp only[Cb,EB,Et,AL]at h
  |invoke r m=>simp only[Cb,EB,Et,AL]at h
  |value f=>
   cases f with
   |func f=>
    rw[I3]at h;obtain⟨h1,ys,r,h2,h3,h4⟩|⟨r,h1,h2⟩:=h
    case inr=>
     refine⟨r,st.h,h2,fun _=>rfl,fun st2 g0 g1 g2 K2 hk=>?_⟩;have e:xs.toList.map (get st2.s)=xs.toList.map (get st.s):=List.map_congr_left fun x hx=>g1 x (by simp[Op.operands,Call.operands];exact .inr (by simpa using hx))
     have e2:=g2 rfl;have hk':K2 (pt st2 d r):=by rw[show st2=⟨st2.s,st2.h⟩from rfl];exact hk
     rw[I3,e];exact .inr ⟨r,h1,hk'⟩
    refine⟨r,st.h,h4,fun _=>rfl,fun st2 g0 g1 g2 K2 hk=>?_⟩;have e:xs.toList.map (get st2.s)=xs.toList.map (get st.s):=List.map_congr_left fun x hx=>g1 x (by simp[Op.operands,Call.operands];exact .inr (by simpa using hx))
    have e2:=g2 rfl;rw[I3,e];refine .inl ⟨h1,ys,r,?_,by rw[g0];exact h3,hk⟩;rw[e2];exact h2
   |_=>simp only[Cb,EB,Et,AL]at h
 |_=>simp only[Cb,EB,AL]at h
def PG(P:Program)(ops:Array Oper)(o:Oper)(s:St)(r:AV)(h':List Aa):Prop:=
 (Kc P o.op=false→h'=s.h)∧∀ s2:St,s2.s.g=s.s.g→(∀ t∈o.looksAt ops,look s2.s.l t=look s.s.l t)→(aL P o.op=true→s2.h=s.h)→
  ∀ (X:Fix) (φ:List Nat) (a:Act) (w:World) (Q:Exit→Act→World→Prop) (i:Nat) (K2:St→Prop),X.P=P→SR X φ s2 a w→ops[i]?=some o→
   K2 (pt ⟨s2.s,if Kc P o.op=true then h' else s2.h⟩ o.dst r)→wpOp P ops Q i (Nx X K2) a w
theorem Px{ops:Array Oper}{o:Oper}{s s2:St}(hg:s2.s.g=s.s.g)(h:∀ t∈o.looksAt ops,look s2.s.l t=look s.s.l t):∀ x∈o.op.operands.toList,get s2.s x=get s.s x:=by
 intro x hx;cases x with
 |tmp t=>exact h t (by simp only[Oper.looksAt];exact List.mem_append_left _ (List.mem_filterMap.2 ⟨.tmp t,hx,rfl⟩))
 |global k=>simp only[get,hg]
 |_=>rfl
theorem Uu{P:Program}{ops:Array Oper}{o:Oper}{s:St}{K:St→Prop}(hg:o.guard=none)(h:Cb P o K s):∃ r h',K (pt ⟨s.s,h'⟩ o.dst r)∧PG P ops o s r h':=by
 obtain⟨r,h',hk,hw,hf⟩:=HR h;refine⟨r,h',hk,hw,fun s2 h0 h1 h2 X φ a w Q i K2 hP hs hi hk2=>?_⟩;subst hP;have hk3:=hf s2 h0 (Px h0 h1) (fun e=>h2 (by simp[aL,e])) K2 hk2;unfold wpOp;rw[hi];have hw':Region.wanted o (yielded ops a.tmps)=true:=by simp[Region.wanted,hg]
 simp only[hw',if_true];exact .inl (Ez hs hk3)
theorem Jq{X:Fix}{φ:List Nat}{s2:St}{a:Act}{w:World}{ops:Array Oper}{j:Nat}{z:Bool}(hs:SR X φ s2 a w)(hz:DN ops s2 j=.v (.bool z)):yielded ops a.tmps j=some z:=by
 unfold DN at hz
 split at hz
 ·rename_i t ht;unfold yielded;rw[ht];have hr:=hs.slots t;rw[hz]at hr;simp only[rel]at hr;cases htm:a.tmps[t]? with
  |none=>simp[htm,undef]at hr
  |some u=>
   simp[htm]at hr;subst hr;simp[htm]
 ·cases hz
theorem LR{X:Fix}{φ:List Nat}{s2:St}{a:Act}{w:World}{ops:Array Oper}{j:Nat}{us:Array Value}(hs:SR X φ s2 a w)(hz:DN ops s2 j=.v (.tuple us)):yielded ops a.tmps j=none:=by
 unfold DN at hz
 split at hz
 ·rename_i t ht;unfold yielded;rw[ht];have hr:=hs.slots t;rw[hz]at hr;simp only[rel]at hr;cases htm:a.tmps[t]? with
  |none=>simp[htm]
  |some u=>
   simp[htm]at hr;subst hr;simp[htm]
 ·cases hz
theorem P0{P:Program}{ops:Array Oper}{o:Oper}{s:St}{K:St→Prop}(hk:O1 o.dst K s)
  (hno:∀ s2:St,(∀ t∈o.looksAt ops,look s2.s.l t=look s.s.l t)→∀ (X:Fix) (φ:List Nat) (a:Act) (w:World),SR X φ s2 a w→Region.wanted o (yielded ops a.tmps)=false) :
  ∃ r h',K (pt ⟨s.s,h'⟩ o.dst r)∧PG P ops o s r h':=by
 refine⟨.v (.tuple #[]),s.h,hk,fun _=>rfl,fun s2 h0 h1 h2 X φ a w Q i K2 hP hs hi hk2=>?_⟩;subst hP;unfold wpOp;rw[hi];simp only[hno s2 h1 X φ a w hs]
 have hh:(if Kc X.P o.op=true then s.h else s2.h)=s2.h:=by
  split
  ·rename_i e;exact (h2 (by simp[aL,e])).symm
  ·rfl
 rw[hh]at hk2;exact⟨φ,_,hs.put o.dst (r:=.v (.tuple #[])) (u:=undef) (by simp only[rel,undef]),hk2⟩
theorem TT{P:Program}{ops:Array Oper}{o:Oper}{s:St}{K:St→Prop}{j:Nat}{b:Bool}(hg:o.guard=some (j,b))(h:Co (DN ops s j) b (Cb P o K) (O1 o.dst K) s):
  ∃ r h',K (pt ⟨s.s,h'⟩ o.dst r)∧PG P ops o s r h':=by
 have hz2:∀ s2:St,(∀ t∈o.looksAt ops,look s2.s.l t=look s.s.l t)→DN ops s2 j=DN ops s j:=fun s2 h1=>by
  unfold DN;cases hd:(ops[j]?).bind (·.dst)with
  |none=>rfl
  |some t=>
   simp only;exact h1 t (by simp only[Oper.looksAt,hg,hd];simp)
 unfold Co at h
 split at h
 ·rename_i z hz
  by_cases hb:z=b
  ·obtain⟨r,h',hk,hw,hf⟩:=HR (h.1 hb);refine⟨r,h',hk,hw,fun s2 h0 h1 h2 X φ a w Q i K2 hP hs hi hk2=>?_⟩;subst hP;have hk3:=hf s2 h0 (Px h0 h1) (fun e=>h2 (by simp[aL,e])) K2 hk2;unfold wpOp;rw[hi];have hw':Region.wanted o (yielded ops a.tmps)=true:=by simp[Region.wanted,hg,Jq hs ((hz2 s2 h1).trans hz),hb]
   simp only[hw',if_true];exact .inl (Ez hs hk3)
  ·exact P0 (h.2 hb) fun s2 h1 X φ a w hs=>by simp[Region.wanted,hg,Jq hs ((hz2 s2 h1).trans hz),hb]
 ·rename_i us hz;exact P0 h fun s2 h1 X φ a w hs=>by simp[Region.wanted,hg,LR hs ((hz2 s2 h1).trans hz)]
 ·exact h.elim
theorem runs{P:Program}{ops:Array Oper}:∀ (os:List Oper) {K:St→Prop} {s:St},EZ P ops os K s→
  ∃ (S:Nat→St) (r:Nat→AV),S 0=s∧K (S os.length)∧∀ (i:Nat) (o:Oper),os[i]?=some o→S (i+1)=pt ⟨(S i).s,(S (i+1)).h⟩ o.dst (r i)∧PG P ops o (S i) (r i) (S (i+1)).h
 |[],K,s,h=>⟨fun _=>s,fun _=>.bad,rfl,h,fun i o ho=>by simp at ho⟩
 |o::os,K,s,h=>by
  have h':∃ r h',EZ P ops os K (pt ⟨s.s,h'⟩ o.dst r)∧PG P ops o s r h':=by
   simp only[EZ]at h
   split at h
   ·rename_i hg;exact Uu hg h
   ·rename_i j b hg;exact TT hg h
  obtain⟨r,h',hk,hf⟩:=h';obtain⟨S,rs,h0,h1,h2⟩:=runs os hk;refine⟨fun|0=>s|i+1=>S i,fun|0=>r|i+1=>rs i,rfl,h1,fun i p hp=>?_⟩;cases i with
  |zero=>
   simp only[Bz,Option.some.injEq]at hp;subst hp;have:(S 0).h=h':=by rw[h0];rfl
   simp only[this];exact⟨h0,hf⟩
  |succ i=>exact h2 i p (by simpa using hp)
section
variable {P:Program} {ops:Array Oper} {S:Nat→St} {r:Nat→AV}
def Xa(n:Nat)(d:Option Tmp)(x:AV)(l:List (Nat×AV)):List (Nat×AV):=(Ci ⟨n,l,[]⟩ d x).l
theorem EY(n:Nat)(d:Option Tmp)(x:AV)(l:List (Nat×AV))(t:Nat):look (Xa n d x l) t=if d=some t∧t<n then x else look l t:=by
 unfold Xa Ci;cases d with
 |none=>simp
 |some d=>
  simp only[Option.some.injEq]
  by_cases hd:d<n
  ·simp only[hd,if_true,look]
   by_cases e:d=t
   ·subst e;simp[hd]
   ·simp[e]
  ·simp only[hd,if_false]
   by_cases e:d=t
   ·subst e;simp[hd]
   ·simp[e]
theorem Xv(n:Nat)(d:Option Tmp)(x:AV)(l g:List (Nat×AV))(t:Nat):look (Ci ⟨n,l,g⟩ d x).l t=if d=some t∧t<n then x else look l t:=by
 rw[←EY];unfold Xa Ci
 split<;>try rfl
 split<;>rfl
def lU(ops:Array Oper)(st:St)(r:Nat→AV)(L:Nat→Bool):Nat→List (Nat×AV)
 |0=>st.s.l
 |i+1=>if L i=true then Xa st.s.n ((ops[i]?).bind (·.dst)) (r i) (lU ops st r L i)else lU ops st r L i
def hU(P:Program)(ops:Array Oper)(st:St)(S:Nat→St)(L:Nat→Bool):Nat→List Aa
 |0=>st.h
 |i+1=>if L i=true∧((ops[i]?).map fun o=>Kc P o.op)=some true then (S (i+1)).h else hU P ops st S L i
structure iC(P:Program)(ops:Array Oper)(st:St)(S:Nat→St)(r:Nat→AV):Prop where
 zero:S 0=st
 step:∀ (i:Nat) (o:Oper),ops[i]?=some o→S (i+1)=pt ⟨(S i).s,(S (i+1)).h⟩ o.dst (r i)∧PG P ops o (S i) (r i) (S (i+1)).h
variable {st:St} (R:iC P ops st S r)
include R
theorem iC.n:∀ i,i≤ops.size→(S i).s.n=st.s.n:=by
 intro i
 induction i with
 |zero=>intro _;rw[R.zero]
 |succ i ih=>
  intro hi;obtain⟨e,_⟩:=R.step i ops[i] (by simp);rw[e];show (Ci (S i).s _ _).n=_;rw[←ih (by omega)];unfold Ci
  split<;>try rfl
  split<;>rfl
theorem iC.g:∀ i,i≤ops.size→(S i).s.g=st.s.g:=by
 intro i
 induction i with
 |zero=>intro _;rw[R.zero]
 |succ i ih=>
  intro hi;obtain⟨e,_⟩:=R.step i ops[i] (by simp);rw[e];show (Ci (S i).s _ _).g=_;rw[←ih (by omega)];unfold Ci
  split<;>try rfl
  split<;>rfl
theorem iC.look{i:Nat}{o:Oper}(ho:ops[i]?=some o)(t:Nat):look (S (i+1)).s.l t=if o.dst=some t∧t<st.s.n then r i else look (S i).s.l t:=by
 obtain⟨e,_⟩:=R.step i o ho;have hi:i<ops.size:=(BP.1 ho).1;have hn:=R.n i (by omega);rw[e];show Ev.look (Ci (S i).s o.dst (r i)).l t=_;have:=EY (S i).s.n o.dst (r i) (S i).s.l t;rw[hn]at this;rw[←this];unfold Xa;rw[←hn];unfold Ci
 split<;>try rfl
 split<;>rfl
theorem iC.lU_text{L:Nat→Bool}{t:Nat}:∀ i,i≤ops.size→(∀ j o,j<i→ops[j]?=some o→o.dst=some t→L j=true)→Ev.look (lU ops st r L i) t=Ev.look (S i).s.l t:=by
 intro i
 induction i with
 |zero=>intro _ _;rw[R.zero];rfl
 |succ i ih=>
  intro hi h;have ho:ops[i]?=some ops[i]:=by simp
  have ih:=ih (by omega) fun j o hj=>h j o (by omega)
  rw[R.look ho];simp only[lU]
  split
  ·rw[EY,ho,Option.bind_some,ih]
  ·rename_i hL;rw[ih,if_neg fun hd=>hL (h i _ (by omega) ho hd.1)]
omit R in
theorem Lh{L:Nat→Bool}{t:Nat}{i:Nat}:∀ m,i≤m→(∀ j o,i≤j→j<m→ops[j]?=some o→L j=true→o.dst≠some t)→Ev.look (lU ops st r L m) t=Ev.look (lU ops st r L i) t:=by
 intro m
 induction m with
 |zero=>intro h _;rw[show i=0 by omega]
 |succ m ih=>
  intro hm h
  by_cases e:i=m+1
  ·rw[e]
  ·rw[←ih (by omega) fun j o h1 h2=>h j o h1 (by omega)];simp only[lU]
   split
   ·rename_i hL;rw[EY,if_neg]
    rintro⟨hd,_⟩
    cases ho:ops[m]? with
    |none=>rw[ho]at hd;cases hd
    |some o=>rw[ho]at hd;exact h m o (by omega) (by omega) ho hL hd
   ·rfl
omit R in
theorem VZ{L L':Nat→Bool}{t:Nat}:∀ m,(∀ j,j<m→L' j=L j∨(∀ o,ops[j]?=some o→o.dst≠some t))→Ev.look (lU ops st r L' m) t=Ev.look (lU ops st r L m) t:=by
 intro m
 induction m with
 |zero=>intro _;rfl
 |succ m ih=>
  intro h;have ih:=ih fun j hj=>h j (by omega)
  have hno:(∀ o,ops[m]?=some o→o.dst≠some t)→∀ (l:List (Nat×AV)),Ev.look (Xa st.s.n ((ops[m]?).bind (·.dst)) (r m) l) t=Ev.look l t:=fun hd l=>by
   rw[EY,if_neg]
   rintro⟨e,_⟩
   cases ho:ops[m]? with
   |none=>rw[ho]at e;cases e
   |some o=>rw[ho]at e;exact hd o ho e
  simp only[lU]
  rcases h m (by omega)with e|hd
  ·rw[e]
   split
   ·rw[EY,EY,ih]
   ·exact ih
  ·split<;>split<;>simp only[hno hd,ih]
theorem iC.hU_text{L:Nat→Bool}:∀ i,i≤ops.size→(∀ j o,j<i→ops[j]?=some o→Kc P o.op=true→L j=true)→hU P ops st S L i=(S i).h:=by
 intro i
 induction i with
 |zero=>intro _ _;rw[R.zero];rfl
 |succ i ih=>
  intro hi h;have ho:ops[i]?=some ops[i]:=by simp
  have ih:=ih (by omega) fun j o hj=>h j o (by omega)
  obtain⟨_,hf,_⟩:=R.step i _ ho;simp only[hU,ho,Option.map_some,Option.some.injEq]
  split
  ·rfl
  ·rename_i hc;cases hw:Kc P ops[i].op with
   |true=>exact absurd ⟨h i _ (by omega) ho hw,hw⟩ hc
   |false=>rw[ih,hf hw]
omit R in
theorem MA{L:Nat→Bool}{i:Nat}:∀ m,i≤m→(∀ j o,i≤j→j<m→ops[j]?=some o→L j=true→Kc P o.op=false)→hU P ops st S L m=hU P ops st S L i:=by
 intro m
 induction m with
 |zero=>intro h _;rw[show i=0 by omega]
 |succ m ih=>
  intro hm h
  by_cases e:i=m+1
  ·rw[e]
  ·rw[←ih (by omega) fun j o h1 h2=>h j o h1 (by omega)];simp only[hU];rw[if_neg]
   rintro⟨hL,hw⟩
   cases ho:ops[m]? with
   |none=>rw[ho]at hw;cases hw
   |some o=>rw[ho]at hw;have:=h m o (by omega) (by omega) ho hL;simp only[Option.map_some,Option.some.injEq]at hw;rw[this]at hw;cases hw
omit R in
theorem dT{L L':Nat→Bool}:∀ m,(∀ j,j<m→L' j=L j∨(∀ o,ops[j]?=some o→Kc P o.op=false))→hU P ops st S L' m=hU P ops st S L m:=by
 intro m
 induction m with
 |zero=>intro _;rfl
 |succ m ih=>
  intro h;have ih:=ih fun j hj=>h j (by omega)
  simp only[hU,ih]
  rcases h m (by omega)with e|hd
  ·rw[e]
  ·have:¬((ops[m]?).map fun o=>Kc P o.op)=some true:=by
    cases ho:ops[m]? with
    |none=>simp
    |some o=>simp[hd o ho]
   rw[if_neg fun h=>this h.2,if_neg fun h=>this h.2]
end
theorem jQ(s:Db)(d:Option Tmp)(x:AV):(Ci s d x).n=s.n:=by
 unfold Ci
 split<;>try rfl
 split<;>rfl
theorem lO(s:Db)(d:Option Tmp)(x:AV):(Ci s d x).g=s.g:=by
 unfold Ci
 split<;>try rfl
 split<;>rfl
def VC(ops:Array Oper)(L:Nat→Bool):Prop:=∀ (i:Nat) (o:Oper),ops[i]?=some o→L i=true→∀ e∈o.after.toList,E4 e=true→L e.on=true
theorem Te{ops:Array Oper}{tbl:List (List Nat)}(h:Mb ops tbl=true){i:Nat}{o:Oper}(ho:ops[i]?=some o):
  (∀ e∈o.after.toList,E4 e=true→e.on<i)∧∀ j∈tbl.getD i [],∃ e∈o.after.toList,E4 e=true∧(e.on=j∨j∈tbl.getD e.on []):=by
 have hi:i<ops.size:=(BP.1 ho).1;simp only[Mb,List.all_eq_true]at h;have:=h i (List.mem_range.2 hi);rw[ho]at this;simp only[Bool.and_eq_true,List.all_eq_true,List.any_eq_true,Bool.or_eq_true,Bool.not_eq_true',decide_eq_true_eq,beq_iff_eq,List.contains_iff_mem]at this;refine⟨fun e he hb=>?_,this.2⟩
 rcases this.1 e he with h|h
 ·rw[hb]at h;cases h
 ·exact h
theorem NJ{ops:Array Oper}{tbl:List (List Nat)}(h:Mb ops tbl=true){L:Nat→Bool}(hc:VC ops L):∀ (n i:Nat) (o:Oper),i<n→ops[i]?=some o→
  (∀ e∈o.after.toList,E4 e=true→L e.on=true)→∀ j∈tbl.getD i [],L j=true
 |0,i,o,hi,_,_,_,_=>by omega
 |n+1,i,o,hi,ho,he,j,hj=>by
  obtain⟨h1,h2⟩:=Te h ho;obtain⟨e,hm,hb,hd⟩:=h2 j hj
  rcases hd with rfl|hd
  ·exact he e hm hb
  ·have hlt:=h1 e hm hb;have hi':i<ops.size:=(BP.1 ho).1;have ho':ops[e.on]?=some (ops[e.on]'(by omega)):=by simp[show e.on<ops.size by omega]
   exact NJ h hc n e.on _ (by omega) ho' (hc _ _ ho' (he e hm hb)) j hd
theorem Pp{P:Program}{ops:Array Oper}{tbl:List (List Nat)}(h:K5 P ops tbl=true){i j:Nat}{x y:Oper}(hij:i<j)(hx:ops[i]?=some x)(hy:ops[j]?=some y)(hc:Gu P ops x y=true):i∈tbl.getD j []:=by
 have hj:j<ops.size:=(BP.1 hy).1;simp only[K5,Bool.and_eq_true,List.all_eq_true]at h;have:=h.2 j (List.mem_range.2 hj) i (List.mem_range.2 hij);rw[hx,hy]at this;simp only[Bool.or_eq_true,Bool.not_eq_true',List.contains_iff_mem]at this
 rcases this with h|h
 ·rw[hc]at h;cases h
 ·exact h
theorem SR.same{X:Fix}{φ:List Nat}{s s':St}{a:Act}{w:World}(hs:SR X φ s a w)(hn:s.s.n=s'.s.n)(hg:s.s.g=s'.s.g)(hl:∀ t,look s.s.l t=look s'.s.l t)(hh:s.h=s'.h):SR X φ s' a w:=by
 obtain⟨⟨n,l,g⟩,h⟩:=s;obtain⟨⟨n',l',g'⟩,h'⟩:=s';simp only at hn hg hl hh;subst hn;subst hg;subst hh;exact { hs with slots:=fun t=>by have:=hs.slots t;simp only at this⊢;rw[←hl t];exact this }
theorem Ri{P:Program}{ops:Array Oper}{x y:Oper}{t:Tmp}(h1:x.dst=some t)(h2:t∈y.looksAt ops∨y.dst=some t):Gu P ops x y=true:=by
 simp only[Gu,h1,Bool.or_eq_true,List.contains_iff_mem,beq_iff_eq];exact .inl (.inl (.inl h2))
theorem dR{P:Program}{ops:Array Oper}{x y:Oper}{t:Tmp}(h1:y.dst=some t)(h2:t∈x.looksAt ops):Gu P ops x y=true:=by
 simp only[Gu,h1,Bool.or_eq_true,List.contains_iff_mem];exact .inl (.inl (.inr h2))
theorem bC{P:Program}{ops:Array Oper}{x y:Oper}(h1:Kc P x.op=true)(h2:aL P y.op=true):Gu P ops x y=true:=by
 simp only[Gu,h1,h2,Bool.or_eq_true,Bool.and_self];exact .inl (.inr trivial)
theorem Sg{P:Program}{ops:Array Oper}{x y:Oper}(h1:aL P x.op=true)(h2:Kc P y.op=true):Gu P ops x y=true:=by
 simp only[Gu,h1,h2,Bool.or_eq_true,Bool.and_self];exact .inr trivial
def todo(n:Nat)(L:Nat→Bool):Nat:=((List.range n).filter fun i=> !L i).length
theorem Sb{X:Fix}{P:Program}(hP:X.P=P){ops:Array Oper}{st:St}{S:Nat→St}{r:Nat→AV}(R:iC P ops st S r){tbl:List (List Nat)}(hok:K5 P ops tbl=true){Q:Exit→Act→World→Prop}{K:St→Prop}
  (hQ:∀ a w,Nx X K a w→Q .normal a w) (hK:K (S ops.size)):∀ (fuel:Nat) (listed:Array Bool) (a:Act) (w:World) (φ:List Nat),listed.size=ops.size→VC ops (fun i=>listed.getD i false)→todo ops.size (fun i=>listed.getD i false)≤fuel→
  SR X φ ⟨⟨st.s.n,lU ops st r (fun i=>listed.getD i false) ops.size,st.s.g⟩,hU P ops st S (fun i=>listed.getD i false) ops.size⟩ a w→wpAny P .any ops Q fuel listed a w:=by
 have hanc:Mb ops tbl=true:=by simp only[K5,Bool.and_eq_true]at hok;exact hok.1
 have hready:∀ (listed:Array Bool),listed.size=ops.size→∀ i,i∈Region.ready .any ops listed↔∃ o,ops[i]?=some o∧listed.getD i false=false∧∀ e∈o.after.toList,E4 e=true→listed.getD e.on false=true:=by
  intro listed hsz i;simp only[Region.ready,List.mem_filter,List.mem_range,Bool.and_eq_true,Bool.not_eq_true']
  constructor
  ·rintro⟨h1,h2,h3⟩
   have ho:ops[i]?=some ops[i]:=by simp[h1]
   rw[ho]at h3;simp only[Option.map_some,Option.getD_some,Array.all_eq_true_iff_forall_mem,Bool.or_eq_true,Bool.not_eq_true']at h3;refine⟨_,ho,?_,fun e he hb=>?_⟩
   ·simpa[Array.getD,hsz,h1]using h2
   ·rcases h3 e (by simpa using he)with h|h
    ·unfold E4 at hb;rw[hb]at h;cases h
    ·exact h
  ·rintro⟨o,ho,h2,h3⟩
   have h1:i<ops.size:=(BP.1 ho).1;refine⟨h1,?_,?_⟩
   ·simpa[Array.getD,hsz,h1]using h2
   ·rw[ho];simp only[Option.map_some,Option.getD_some,Array.all_eq_true_iff_forall_mem,Bool.or_eq_true,Bool.not_eq_true'];intro e he;cases hb:E4 e with
    |true=>exact .inr (h3 e (by simpa using he) hb)
    |false=>exact .inl hb
 have hall:∀ (listed:Array Bool),listed.size=ops.size→Region.ready .any ops listed=[]→∀ n i,i<n→i<ops.size→listed.getD i false=true:=by
  intro listed hsz hr n
  induction n with
  |zero=>intro i hi;omega
  |succ n ih=>
   intro i hi hi';cases hl:listed.getD i false with
   |true=>rfl
   |false=>
    exfalso
    have ho:ops[i]?=some ops[i]:=by simp[hi']
    have:i∈Region.ready .any ops listed:=(hready listed hsz i).2 ⟨_,ho,hl,fun e he hb=>by
     have:=(Te hanc ho).1 e he hb;exact ih e.on (by omega) (by omega)⟩
    rw[hr]at this;cases this
 have hend:∀ (listed:Array Bool) (a:Act) (w:World) (φ:List Nat),listed.size=ops.size→SR X φ ⟨⟨st.s.n,lU ops st r (fun i=>listed.getD i false) ops.size,st.s.g⟩,hU P ops st S (fun i=>listed.getD i false) ops.size⟩ a w→Region.ready .any ops listed=[]→Q .normal a w:=by
  intro listed a w φ hsz hs hr;have hL:=fun i hi=>hall listed hsz hr ops.size i hi hi
  refine hQ a w ⟨φ,S ops.size,hs.same (R.n _ (BL _)).symm (R.g _ (BL _)).symm (fun t=>?_) ?_,hK⟩
  ·exact R.lU_text ops.size (BL _) fun j o hj _ _=>hL j hj
  ·exact R.hU_text ops.size (BL _) fun j o hj _ _=>hL j hj
 intro fuel
 induction fuel with
 |zero=>
  intro listed a w φ hsz hc ht hs
  have hr:Region.ready .any ops listed=[]:=by
   apply List.eq_nil_iff_forall_not_mem.2
   intro i hi;obtain⟨o,ho,hl,_⟩:=(hready listed hsz i).1 hi;have h1:i<ops.size:=(BP.1 ho).1;have:i∈(List.range ops.size).filter fun i=> !listed.getD i false:=List.mem_filter.2 ⟨List.mem_range.2 h1,by simp[hl]⟩
   simp only[todo,Nat.le_zero,List.length_eq_zero_iff]at ht;rw[ht]at this;cases this
  exact⟨hr,hend listed a w φ hsz hs hr⟩
 |succ fuel ih=>
  intro listed a w φ hsz hc ht hs;refine⟨hend listed a w φ hsz hs,fun i hi=>?_⟩;obtain⟨o,ho,hl,he⟩:=(hready listed hsz i).1 hi;have h1:i<ops.size:=(BP.1 ho).1;obtain⟨e1,hf1,hf2⟩:=R.step i o ho
  have hL':∀ j,(listed.setIfInBounds i true).getD j false=if j=i then true else listed.getD j false:=by
   intro j;simp only[Array.getD_eq_getD_getElem?,Array.getElem?_setIfInBounds]
   by_cases hj:i=j
   ·subst hj;simp[hsz,h1]
   ·have:¬j=i:=fun h=>hj h.symm
    simp[hj,this]
  have hbefore:∀ j x,j<i→ops[j]?=some x→Gu P ops x o=true→listed.getD j false=true:=fun j x hj hx hcl=>
   NJ hanc hc (i+1) i o (by omega) ho he j (Pp hok hj hx ho hcl)
  have hafter:∀ j y,i<j→ops[j]?=some y→Gu P ops o y=true→listed.getD j false=false:=fun j y hj hy hcl=>by
   cases hlj:listed.getD j false with
   |false=>rfl
   |true=>
    have:=NJ hanc hc (j+1) j y (by omega) hy (hc j y hy hlj) i (Pp hok hj ho hy hcl);rw[hl]at this;cases this
  have hlook:∀ t∈o.looksAt ops,look (lU ops st r (fun i=>listed.getD i false) ops.size) t=look (S i).s.l t:=fun t htm=>by
   rw[Lh (i:=i) ops.size (by omega) fun j x h2 h3 hx hlj hd=>?_]
   ·exact R.lU_text i (by omega) fun j x hj hx hd=>hbefore j x hj hx (Ri hd (.inl htm))
   ·by_cases hji:j=i
    ·subst hji;rw[hl]at hlj;cases hlj
    ·have:=hafter j x (by omega) hx (dR hd htm);rw[this]at hlj;cases hlj
  have hheap:aL P o.op=true→hU P ops st S (fun i=>listed.getD i false) ops.size=(S i).h:=fun hrw=>by
   rw[MA (i:=i) ops.size (by omega) fun j x h2 h3 hx hlj=>?_]
   ·exact R.hU_text i (by omega) fun j x hj hx hw=>hbefore j x hj hx (bC hw hrw)
   ·cases hw:Kc P x.op with
    |false=>rfl
    |true=>
     by_cases hji:j=i
     ·subst hji;rw[hl]at hlj;cases hlj
     ·have:=hafter j x (by omega) hx (Sg hrw hw);rw[this]at hlj;cases hlj
  have key:=hf2 ⟨⟨st.s.n,lU ops st r (fun i=>listed.getD i false) ops.size,st.s.g⟩,hU P ops st S (fun i=>listed.getD i false) ops.size⟩ (R.g i (by omega)).symm hlook hheap X φ a w Q i
   (fun s=>s.s.n=st.s.n∧s.s.g=st.s.g∧(∀ t,look s.s.l t=look (lU ops st r (fun j=>(listed.setIfInBounds i true).getD j false) ops.size) t)∧s.h=hU P ops st S (fun j=>(listed.setIfInBounds i true).getD j false) ops.size) hP hs ho ⟨?_,?_,fun t=>?_,?_⟩
  ·refine wpOp_mono (fun a w hn=>?_) key;obtain⟨φ',s',hs',g1,g0,g2,g3⟩:=hn;refine ih _ a w φ' (by simpa using hsz) (fun j x hx hlj e hm hb=>?_) ?_ (hs'.same g1 g0 g2 g3)
   ·simp only[hL']at hlj⊢
    split
    ·rfl
    ·by_cases hji:j=i
     ·subst hji;rw[ho]at hx;cases hx;exact he e hm hb
     ·rw[if_neg hji]at hlj;exact hc j x hx hlj e hm hb
   ·have:todo ops.size (fun j=>(listed.setIfInBounds i true).getD j false)<todo ops.size (fun j=>listed.getD j false):=by
     simp only[todo]
     have e2:((List.range ops.size).filter fun j=> !(listed.setIfInBounds i true).getD j false)=((List.range ops.size).filter fun j=> !listed.getD j false).filter fun j=>j != i:=by
      rw[List.filter_filter]
      apply List.filter_congr
      intro j _;rw[hL']
      by_cases hji:j=i
      ·simp[hji]
      ·simp[hji]
     rw[e2]
     apply List.length_filter_lt_length_iff_exists.2
     exact⟨i,List.mem_filter.2 ⟨List.mem_range.2 h1,by simp[hl]⟩,by simp⟩
    omega
  ·exact jQ _ _ _
  ·exact lO _ _ _
  ·have e3:look (pt (⟨⟨st.s.n,lU ops st r (fun i=>listed.getD i false) ops.size,st.s.g⟩,if Kc P o.op=true then (S (i+1)).h else hU P ops st S (fun i=>listed.getD i false) ops.size⟩:St) o.dst (r i)).s.l t =
     if o.dst=some t∧t<st.s.n then r i else look (lU ops st r (fun i=>listed.getD i false) ops.size) t:=Xv st.s.n o.dst (r i) _ _ t
   refine e3.trans ?_
   by_cases hd:o.dst=some t
   ·have e4:look (lU ops st r (fun j=>(listed.setIfInBounds i true).getD j false) ops.size) t=look (lU ops st r (fun j=>(listed.setIfInBounds i true).getD j false) (i+1)) t:=by
     refine Lh (i:=i+1) ops.size (by omega) fun j x h2 h3 hx hlj hdx=>?_
     have:=hafter j x (by omega) hx (Ri hd (.inr hdx));simp only[hL',if_neg (show ¬j=i by omega)]at hlj;rw[this]at hlj;cases hlj
    have e5:∀ m,m≤i→look (lU ops st r (fun j=>(listed.setIfInBounds i true).getD j false) m) t=look (lU ops st r (fun i=>listed.getD i false) m) t:=fun m hm=>
     VZ m fun j hj=>.inl (by simp only[hL',if_neg (show ¬j=i by omega)])
    have e6:look (lU ops st r (fun i=>listed.getD i false) ops.size) t=look (lU ops st r (fun i=>listed.getD i false) i) t:=by
     refine Lh (i:=i) ops.size (by omega) fun j x h2 h3 hx hlj hdx=>?_
     by_cases hji:j=i
     ·subst hji;rw[hl]at hlj;cases hlj
     ·have:=hafter j x (by omega) hx (Ri hd (.inr hdx));rw[this]at hlj;cases hlj
    rw[e4];simp only[lU,hL',if_true,ho,Option.bind_some];rw[EY,e6];have:=e5 i (BL _);simp only[hL']at this;rw[this]
   ·rw[if_neg fun h=>hd h.1]
    symm
    refine VZ ops.size fun j hj=>?_
    by_cases hji:j=i
    ·subst hji;exact .inr fun x hx=>by rw[ho]at hx;cases hx;exact hd
    ·exact .inl (by simp only[hL',if_neg hji])
  ·show (if Kc P o.op=true then (S (i+1)).h else hU P ops st S (fun i=>listed.getD i false) ops.size)=_
   cases hw:Kc P o.op with
   |true=>
    have hrw:aL P o.op=true:=by simp[aL,hw]
    have e4:hU P ops st S (fun j=>(listed.setIfInBounds i true).getD j false) ops.size=hU P ops st S (fun j=>(listed.setIfInBounds i true).getD j false) (i+1):=by
     refine MA (i:=i+1) ops.size (by omega) fun j x h2 h3 hx hlj=>?_
     cases hwx:Kc P x.op with
     |false=>rfl
     |true=>
      have:=hafter j x (by omega) hx (Sg hrw hwx);simp only[hL',if_neg (show ¬j=i by omega)]at hlj;rw[this]at hlj;cases hlj
    rw[e4];simp only[hU,hL',if_true,ho,Option.map_some,hw,and_self]
   |false=>
    simp only[Bool.false_eq_true,if_false]
    symm
    refine dT ops.size fun j hj=>?_
    by_cases hji:j=i
    ·subst hji;exact .inr fun x hx=>by rw[ho]at hx;cases hx;exact hw
    ·exact .inl (by simp only[hL',if_neg hji])
theorem Ks{X:Fix}{ops:Array Oper}{K:St→Prop}{Q:Exit→Act→World→Prop}(hQ:∀ a w,Nx X K a w→Q .normal a w):∀ (f:Nat) (listed:Array Bool) {φ:List Nat} {st:St} {a:Act} {w:World},SR X φ st a w→M0 X.P ops K f listed st→wpAny X.P .any ops Q f listed a w
 |0,listed,φ,st,a,w,hs,h=>⟨h.1,hQ _ _ ⟨φ,st,hs,h.2⟩⟩
 |f+1,listed,φ,st,a,w,hs,h=>by
  refine⟨fun hr=>hQ _ _ ⟨φ,st,hs,h.1 hr⟩,fun i hi=>?_⟩
  have hi2:i∈List.range ops.size:=by
   simp only[Region.ready,List.mem_filter]at hi;exact hi.1
  obtain⟨o,ho,hg,hk⟩:=h.2 i hi2 (by simpa using hi);unfold wpOp;rw[ho];have hw:Region.wanted o (yielded ops a.tmps)=true:=by simp[Region.wanted,hg]
  simp only[hw,if_true];refine .inl (Oper.wp_mono (fun a2 w2 ⟨φ2,s2,hs2,hk2⟩=>Ks hQ f _ hs2 hk2) (Ez hs hk))
theorem Kj{X:Fix}{φ:List Nat}{st:St}{a:Act}{w:World}{ops:Array Oper}{Q:AY}{id:Nat}(hs:SR X φ st a w)(h:Cr X.P ops Q st):(Code.region id ops true).wp X.P (Qx X Q) a w:=by
 obtain⟨h1,⟨h2,h3⟩|h3|h3⟩:=h
 case inr.inr=>exact wp_region_any h1 (Ks (K:=Ls (C1 Q)) (fun a w ⟨φ',s',hs',s2,he,h'⟩=>⟨φ',s2,hs'.same he.1.symm he.2.1.symm (fun t=>(he.2.2.2 t).symm) he.2.2.1.symm,h'⟩) _ _ (hs.world ⟨rfl,rfl,rfl,BL _,fun _ _=>rfl⟩) h3)
 case inr.inl=>exact wp_region_any h1 (Ks (K:=C1 Q) (fun a w ⟨φ',s',hs',h'⟩=>⟨φ',s',hs',h'⟩) _ _ (hs.world ⟨rfl,rfl,rfl,BL _,fun _ _=>rfl⟩) h3)
 obtain⟨S,r,e0,e1,e2⟩:=runs ops.toList h3;have R:iC X.P ops st S r:=⟨e0,fun i o ho=>e2 i o (by simpa using ho)⟩
 have hf:∀ i,(Array.replicate ops.size false).getD i false=false:=fun i=>by
  simp only[Array.getD_eq_getD_getElem?,Array.getElem?_replicate]
  split<;>rfl
 refine wp_region_any h1 (Sb rfl R (tbl:=DG ops) h2 (K:=C1 Q) (fun a w ⟨φ',s',hs',h'⟩=>⟨φ',s',hs',h'⟩) (by simpa using e1) ops.size (Array.replicate ops.size false) a { w with drawn:=w.drawn+1 } φ (by simp) (fun i o _ hl=>by simp only[hf]at hl;cases hl) ?_ ?_)
 ·exact BM (List.length_filter_le _ _) (by simp)
 ·have hs2:SR X φ st a { w with drawn:=w.drawn+1 }:=hs.world ⟨rfl,rfl,rfl,BL _,fun _ _=>rfl⟩;refine hs2.same rfl rfl (fun t=>?_) ?_
  ·have:look (lU ops st r (fun i=>(Array.replicate ops.size false).getD i false) ops.size) t=look st.s.l t:=Lh (i:=0) ops.size (BN _) fun j o _ _ _ hl=>by simp only[hf]at hl;cases hl
   exact this.symm
  ·have:hU X.P ops st S (fun i=>(Array.replicate ops.size false).getD i false) ops.size=st.h:=MA (i:=0) ops.size (BN _) fun j o _ _ _ hl=>by simp only[hf]at hl;cases hl
   exact this.symm
section
variable {X:Fix} {φ:List Nat} {st:St} {a:Act} {w:World}
theorem Ey(h0:X.c0=none):∀ (c:Code) (Q:AY) {φ:List Nat} {st:St} {a:Act} {w:World},SR X φ st a w→Fs X.P c Q st→c.wp X.P (Qx X Q) a w
 |.skip,Q,φ,st,a,w,hs,h=>wp_skip ⟨φ,st,hs,h⟩
 |.region id ops draw,Q,φ,st,a,w,hs,h=>by
  simp only[Fs]at h
  split at h
  ·rename_i hd;subst hd;exact Kj hs h
  ·rename_i hd;have hd':draw=false:=by simpa using hd
   subst hd';refine wp_region (I8 ops _ ops.toList _ ?_ hs h (fun a w ⟨φ',st',hs',h'⟩=>⟨φ',st',hs',h'⟩))
   apply List.ext_getElem?
   intro i;simp only[Bm]
   by_cases hi:i<ops.size
   ·simp[hi]
   ·rw[Bq (by simpa using hi),Bq (by simpa using hi)];rfl
 |.seq x y,Q,φ,st,a,w,hs,h=>by
  simp only[Fs]at h;refine wp_seq (wp_mono (Ey h0 x _ hs h) fun e a w hq=>ME (fun a w ⟨φ',st',hs',h'⟩=>Ey h0 y Q hs' h') e a w hq)
 |.cond c x y,Q,φ,st,a,w,hs,h=>by
  simp only[Fs]at h;unfold BZ at h
  split at h
  ·rename_i z hg;have hc:=hs.get c;rw[hg]at hc;simp only[rel]at hc;exact wp_cond_split hc (fun e=>Ey h0 x Q hs (h.1 e)) (fun e=>Ey h0 y Q hs (h.2 e))
  ·exact h.elim
 |.block id c,Q,φ,st,a,w,hs,h=>by
  simp only[Fs]at h;refine wp_block (wp_mono (Ey h0 c _ hs h) fun e a w hq=>?_);obtain⟨φ',st',hs',hq⟩:=hq;cases e with
  |exit j=>
   simp only[Dn]at hq;simp only[Exit.inBlock]
   split<;>rename_i hj
   ·rw[if_pos hj]at hq;exact⟨φ',st',hs',hq⟩
   ·rw[if_neg hj]at hq;exact⟨φ',st',hs',hq⟩
  |_=>exact⟨φ',st',hs',hq⟩
 |.loop c,Q,φ,st,a,w,hs,h=>by
  simp only[Fs]at h;obtain⟨R,n,s0,hw,hI,hr⟩:=h;obtain⟨φ0,hs0⟩:=hs.weak h0 hw;refine NI (fun m a w=>∃ φ' st',SR X φ' st' a w∧R m st') (n:=n) ⟨φ0,s0,hs0,hI⟩ fun m a w ⟨φ1,s1,hs1,hI1⟩=>?_
  refine wp_mono (Ey h0 c _ hs1 (hr m s1 hI1)) fun e a w hq=>ME (fun a w ⟨φ2,s2,hs2,m',s3,hw3,hlt,hI3⟩=>?_) e a w hq
  obtain⟨φ3,hs3⟩:=hs2.weak h0 hw3;exact⟨m',hlt,φ3,s3,hs3,hI3⟩
 |.exit id,Q,φ,st,a,w,hs,h=>wp_exit ⟨φ,st,hs,h⟩
 |.ret,Q,φ,st,a,w,hs,h=>wp_ret ⟨φ,st,hs,h⟩
 |.label l,Q,φ,st,a,w,hs,h=>wp_label ⟨φ,st,hs,h⟩
 |.goto l,Q,φ,st,a,w,hs,h=>wp_goto ⟨φ,st,hs,h⟩
 |.rangeFunc ..,Q,φ,st,a,w,hs,h=>h X φ a w rfl h0 hs
 |.scope ..,Q,φ,st,a,w,hs,h=>h X φ a w rfl h0 hs
 |.refuse ..,Q,φ,st,a,w,hs,h=>by simp only[Fs]at h
end
theorem Ev.of{P:Program}{γ:List (Nat×AV)}{f:FuncId}{fn:Func}{c:Code}{args:List AV}{res:AV}(hf:P.funcs[f]?=some fn)(hb:fn.body=some c)
  (h:Fs P c (NN P fn.results.toList res) (EG γ args fn.ntmps)):Ev P γ f args res:=
 Ev.of_wp hf hb fun X hP h0 _ _ hs=>by subst hP;exact wp_mono (Ey h0 c _ hs h) fun e a w ⟨φ,s,hs,hq⟩=>⟨φ,s,hs,JG hq⟩
theorem Og(l:List AV)(n:Nat):Mg (l.drop n)=l[n]?:=by simp[Mg]
theorem Kp(x:AV)(l:List AV):Mg (x::l)=some x:=rfl
theorem NR{l:List UInt8}{n:Nat}(h:n<l.length):(l.map Am)[n]?=some (.v (.int .u8 (l[n]'h).toNat)):=by
 simp[h,Am]
theorem Nw{l:List UInt8}{n:Nat}(h:n<l.length):Mg ((l.map Am).drop n)=some (.v (.int .u8 (l[n]'h).toNat)):=by
 rw[Og,NR h]
theorem QQ(l:List UInt8):DY (l.map Am)=some l:=by
 induction l with
 |nil=>rfl
 |cons b l ih=>simp[DY,Am,ih]
theorem PQ(l:List UInt8):strOf (l.map Am)=some (.v (.string ⟨l.toArray⟩)):=by simp[strOf,QQ]
theorem EO(l:List UInt8):(l.map Am).all Cl=true:=by
 induction l with
 |nil=>rfl
 |cons b l ih=>simp only[BA,List.all_cons,ih,Bool.and_true];rfl
theorem Hf(l:List UInt8):AO (l.map Am)=true:=by
 induction l with
 |nil=>rfl
 |cons b l ih=>simp only[BA,AO,ih,Bool.and_true];rfl
theorem Q9{α β:Type}(f:α→β)(l:List α):List.take l.length (l.map f)=l.map f:=by
 rw[←List.map_take,List.take_length]
theorem A4{n:Int}(h1 : -9223372036854775808≤n)(h2:n<9223372036854775808):IntKind.i64.wrap n=n:=by
 simp only[IntKind.wrap,IntKind.bits,IntKind.signed];simp
 split<;>omega
theorem IL{n:Int}(h1:0≤n)(h2:n<18446744073709551616):IntKind.u64.wrap n=n:=by
 simp[IntKind.wrap,IntKind.bits,IntKind.signed];omega
theorem jI{n:Int}(h1:0≤n)(h2:n<256):IntKind.u8.wrap n=n:=by
 simp[IntKind.wrap,IntKind.bits,IntKind.signed];omega
theorem ZC(P:Program)(rs:List ResultVar)(res:AV)(s:St):NN P rs res .ret s=Gv P rs s fun xs=>fz P s.h false res (AJ xs):=rfl
theorem Td(P:Program)(rs:List ResultVar)(res:AV)(s:St):NN P rs res .normal s=Gv P rs s fun xs=>fz P s.h false res (AJ xs):=rfl
theorem Ys(P:Program)(s:St)(K:List AV→Prop):Gv P [] s K=K []:=rfl
theorem aA(P:Program)(t:Nat)(rs:List ResultVar)(s:St)(K:List AV→Prop):Gv P (.tmp t::rs) s K=Gv P rs s fun xs=>K (look s.s.l t::xs):=rfl
theorem XQ(P:Program)(p t:Nat)(rs:List ResultVar)(s:St)(K:List AV→Prop):Gv P (.cell p t::rs) s K=eQ (IE P t s.h (look s.s.l p)) fun x=>Gv P rs s fun xs=>K (x::xs):=rfl
theorem XW(x:AV)(K:AV→Prop):eQ (some x) K=K x:=rfl
theorem mS(x:AV):AJ [x]=x:=rfl
theorem mL(x y:AV)(l:List AV):AJ (x::y::l)=.tup (x::y::l):=rfl
theorem oS:AJ []=.tup []:=rfl
theorem lP(P:Program)(H:List Aa)(b:Bool)(a:Value)(x:AV):fz P H b (.v a) x=(x=.v a):=by simp only[fz]
theorem kN(P:Program)(H:List Aa)(b:Bool)(x:AV):fz P H b .nan x=(x=.nan):=by simp only[fz]
theorem lF(P:Program)(H:List Aa)(b:Bool)(x:AV):fz P H b .bad x=True:=by simp only[fz]
theorem jV(P:Program)(H:List Aa)(b:Bool)(ys xs:List AV):fz P H b (.tup ys) (.tup xs)=Fe P H b ys xs:=by simp only[fz,AV.tup.injEq,exists_eq_left']
theorem jU(P:Program)(H:List Aa)(b:Bool)(ys xs:List AV):fz P H b (.agg ys) (.agg xs)=Fe P H b ys xs:=by simp only[fz,AV.agg.injEq,exists_eq_left']
theorem lN(P:Program)(H:List Aa)(b:Bool)(t:TypeId)(y x:AV):fz P H b (.ifc t y) (.ifc t x)=fz P H b y x:=by simp only[fz,AV.ifc.injEq,true_and,exists_eq_left']
theorem QV(P:Program)(H:List Aa)(b:Bool):Fe P H b [] []=True:=by simp only[Fe]
theorem O6(P:Program)(H:List Aa)(b:Bool)(y x:AV)(ys xs:List AV):Fe P H b (y::ys) (x::xs)=(fz P H b y x∧Fe P H b ys xs):=by
 simp only[Fe,List.cons.injEq];exact propext ⟨fun⟨_,_,⟨h1,h2⟩,h⟩=>by subst h1;subst h2;exact h,fun h=>⟨x,xs,⟨rfl,rfl⟩,h⟩⟩
theorem ZZ{P:Program}{H:List Aa}{i ver e n m:Nat}{ys xs cells:List AV}(h:H[i]?=some ⟨ver,e,cells⟩)(hn:n≤m)(hc:P.cellsOf e=1)(hm:m=n∨m≤cells.length)(hx:xs<+:cells)(hy:Fe P H false ys xs):fz P H false (.sl false n m ys) (.own i ver n):=by
 simp only[fz];exact .inr ⟨trivial,i,_,xs,rfl,h,hn,by simpa[hc]using hm,hx,hy⟩
theorem Vw(s:St)(d:Option Tmp)(K:St→Prop)(l:List UInt8)(j:Nat):AL (DP s d (l.map Am)[j]?) K=(j<l.length∧K (pt s d (.v (.int .u8 ((l.getD j 0).toNat:Nat))))):=by
 by_cases h:j<l.length
 ·rw[NR h];simp[AL,DP,h]
 ·have:(l.map Am)[j]?=none:=by simpa using h
  rw[this];simp[AL,DP,h]
theorem Za(l:List UInt8)(j:Nat):nY ⟨l.toArray⟩ j=((l.getD j 0).toNat:Nat):=by simp[nY]
theorem X2(l:List UInt8):(⟨l.toArray⟩:ByteArray).data.toList=l:=by simp
theorem Iv(n:Nat)(l:List UInt8):AK n (l.map Am)=true:=by
 induction l with
 |nil=>rfl
 |cons b l ih=>simp only[BA,AK,ih,Bool.and_true];rfl
theorem EA(n:Nat)(a b:List AV):AK n (a++b)=(AK n a&&AK n b):=by
 induction a with
 |nil=>simp[AK]
 |cons x a ih=>simp only[Bc,AK,ih,Bool.and_assoc]
theorem b256{p:Nat→Prop}[DecidablePred p](h:∀ n:Fin 256,p n.val)(c:UInt8):p c.toNat:=h ⟨c.toNat,c.toNat_lt⟩
set_option linter.defProp false in
def eS:=And.intro @Za (And.intro @X2 (And.intro @Vw (And.intro @ZC (And.intro @Td (And.intro @Ys (And.intro @aA (And.intro @XQ (And.intro @XW (And.intro @oS (And.intro @mS (And.intro @mL (And.intro @lP (And.intro @kN (And.intro @lF (And.intro @jV (And.intro @jU (And.intro @lN (And.intro @QV @O6))))))))))))))))))
theorem OY(l:List UInt8)(n:Nat):strOf (List.take n (l.map Am))=some (.v (.string ⟨(l.take n).toArray⟩)):=by rw[←List.map_take,PQ]
theorem Ru(a:Int):(a==a)=true:=by simp
theorem NS(a:List UInt8):(a==a)=true:=by simp
def Hw(P:Program)(t:TypeId):Option (List AV):=(zeroT P t).map zeroCells
section
variable {P:Program} {s:St} {K:St→Prop} {t:TypeId} {d:Option Tmp} {pos:String} {af:Array Edge} {g:Option (Nat×Bool)}
theorem ZK(u:TypeId):Cb P ⟨d,.alloc u,t,pos,af,g⟩ K s=AL ((Hw P u).bind fun z=>Im s d (some (True,.ptr s.h.length 0 0,s.h++[⟨0,u,z⟩]))) K:=by
 rw[MJ];unfold Hw;cases zeroT P u<;>rfl
def kE(P:Program)(t:TypeId)(ps:List (Nat×AV)):Option AV:=
 (Hw P t).bind fun z=>match BW P t with
  |some pl=>(IA (pl[·]?) ps z).map .agg
  |none=>(OL P t).bind fun x=>(Aq P x.2).bind fun sz=>(IA (fun i=>some (i * sz,sz)) ps z).map .agg
theorem Zs(u:TypeId)(ps:Array (Nat×Operand)):Cb P ⟨d,.build u ps,t,pos,af,g⟩ K s=AL (DP s d (kE P u (ps.toList.map fun x=>(x.1,get s.s x.2)))) K:=by
 rw[bS];unfold L4 kE Hw;cases zeroT P u<;>rfl
end
set_option linter.defProp false in
def vS:=And.intro @Go.Ev.iK.eq_1 (And.intro @Go.Ev.iK.eq_2 (And.intro @Go.Ev.CE.eq_1 (And.intro @Go.Ev.CE.eq_2 (And.intro @Go.Ev.CE.eq_3 (And.intro @Go.Ev.CE.eq_4 (And.intro @Go.Ev.CE.eq_5 (And.intro @Go.Ev.I7.eq_1 (And.intro @Go.Ev.I7.eq_2 (And.intro @Go.Ev.I7.eq_3 (And.intro @Go.Ev.I7.eq_4 (And.intro @Go.Ev.I7.eq_5 (And.intro @Go.Ev.I7.eq_6 (And.intro @Go.Ev.I7.eq_7 (And.intro @Go.Ev.I7.eq_8 (And.intro @Go.Ev.I7.eq_9 (And.intro @Go.Ev.I7.eq_10 (And.intro @Go.Ev.I7.eq_11 (And.intro @Go.Ev.I7.eq_12 (And.intro @Go.Ev.HX.eq_1 (And.intro @Go.Ev.HX.eq_2 (And.intro @Go.Ev.HX.eq_3 (And.intro @Go.Ev.HX.eq_4 (And.intro @Go.Ev.HX.eq_5 (And.intro @Go.Ev.HX.eq_6 (And.intro @Go.Ev.HX.eq_7 (And.intro @Go.Ev.HX.eq_8 (And.intro @Go.Ev.HX.eq_9 (And.intro @Go.Ev.HX.eq_10 (And.intro @Go.Ev.HX.eq_11 (And.intro @Go.Ev.HX.eq_12 (And.intro @Go.Ev.HX.eq_13 (And.intro @Go.Ev.HX.eq_14 (And.intro @Go.Ev.HX.eq_15 (And.intro @Go.Ev.HX.eq_16 (And.intro @Go.Ev.HX.eq_17 (And.intro @Go.Ev.EF.eq_1 (And.intro @Go.Ev.Lv.eq_1 (And.intro @Go.Ev.Lv.eq_2 (And.intro @Go.Ev.Lv.eq_3 (And.intro @Go.Ev.PU.eq_1 (And.intro @Go.Ev.PU.eq_2 (And.intro @Go.Ev.PU.eq_3 (And.intro @Go.Ev.OS.eq_1 (And.intro @Go.Ev.OS.eq_2 (And.intro @Go.Ev.OS.eq_3 (And.intro @Go.Ev.OS.eq_4 (And.intro @Go.Ev.OS.eq_5 (And.intro @Go.Ev.OS.eq_6 (And.intro @Go.Ev.OS.eq_7 (And.intro @Go.Ev.OS.eq_8 (And.intro @Go.Ev.LB.eq_1 (And.intro @Go.Ev.LB.eq_2 (And.intro @Go.Ev.LB.eq_3 (And.intro @Go.Ev.LB.eq_4 (And.intro @Go.Ev.LB.eq_5 (And.intro @Go.Ev.LB.eq_6 (And.intro @Go.Ev.LB.eq_7 (And.intro @Go.Ev.LB.eq_8 (And.intro @Go.Ev.LB.eq_9 (And.intro @Go.Ev.LB.eq_10 (And.intro @Go.Ev.LB.eq_11 (And.intro @Go.Ev.Ju.eq_1 (And.intro @Go.Ev.Ju.eq_2 (And.intro @Go.Ev.Ju.eq_3 (And.intro @Go.Ev.Ju.eq_4 (And.intro @Go.Ev.Ju.eq_5 (And.intro @Go.Ev.Ju.eq_6 (And.intro @Go.Ev.Ju.eq_7 (And.intro @Go.Ev.Ju.eq_8 (And.intro @Go.Ev.Ju.eq_9 (And.intro @Go.Ev.Ju.eq_10 (And.intro @Go.Ev.Ju.eq_11 (And.intro @Go.Ev.isConst.eq_1 (And.intro @Go.Ev.isConst.eq_2 (And.intro @Go.Ev.fW.eq_1 (And.intro @Go.Ev.fW.eq_2 (And.intro @Go.Ev.fW.eq_3 (And.intro @Go.Ev.fW.eq_4 (And.intro @Go.Ev.CL.eq_1 (And.intro @Go.Ev.CL.eq_2 (And.intro @Go.Ev.CL.eq_3 (And.intro @Go.Ev.CL.eq_4 (And.intro @Go.Ev.J0.eq_1 (And.intro @Go.Ev.J0.eq_2 (And.intro @Go.Ev.J0.eq_3 (And.intro @Go.Ev.IE.eq_1 (And.intro @Go.Ev.IE.eq_2 (And.intro @Go.Ev.IE.eq_3 (And.intro @Go.Ev.Ji.eq_1 (And.intro @Go.Ev.Ji.eq_2 (And.intro @Go.Ev.NV.eq_1 (And.intro @Go.Ev.Gw.eq_1 (And.intro @Go.Ev.OT.eq_1 (And.intro @Go.Ev.OT.eq_2 (And.intro @Go.Ev.OT.eq_3 (And.intro @Go.Ev.OT.eq_4 (And.intro @Go.Ev.OT.eq_5 (And.intro @Go.Ev.JP.eq_1 (And.intro @Go.Ev.JP.eq_2 (And.intro @Go.Ev.JP.eq_3 (And.intro @Go.Ev.FO.eq_1 (And.intro @Go.Ev.FO.eq_2 (And.intro @Go.Ev.FO.eq_3 (And.intro @Go.Ev.FO.eq_4 (And.intro @Go.Ev.FO.eq_5 (And.intro @Go.Ev.FN.eq_1 (And.intro @Go.Ev.FN.eq_2 (And.intro @Go.Ev.FN.eq_3 (And.intro @Go.Ev.CP.eq_1 (And.intro @Go.Ev.CP.eq_2 (And.intro @Go.Ev.CP.eq_3 (And.intro @Go.Ev.CP.eq_4 (And.intro @Go.Ev.CP.eq_5 (And.intro @Go.Ev.CP.eq_6 (And.intro @Go.Ev.CP.eq_7 (And.intro @Go.Ev.HV.eq_1 (And.intro @Go.Ev.HV.eq_2 (And.intro @Go.Ev.IA.eq_1 (And.intro @Go.Ev.IA.eq_2 (And.intro @Go.Ev.flat.eq_1 (And.intro @Go.Ev.flat.eq_2 (And.intro @Go.Ev.Cl.eq_1 (And.intro @Go.Ev.Cl.eq_2 (And.intro @Go.Ev.Cl.eq_3 (And.intro @Go.Ev.Cl.eq_4 (And.intro @Go.Ev.Cl.eq_5 (And.intro @Go.Ev.Aj.eq_1 (And.intro @Go.Ev.Aj.eq_2 (And.intro @Go.Ev.LP.eq_1 (And.intro @Go.Ev.LP.eq_2 (And.intro @Go.Ev.D1.eq_1 (And.intro @Go.Ev.D1.eq_2 (And.intro @Go.Ev.D1.eq_3 (And.intro @Go.Ev.EI.eq_1 (And.intro @Go.Ev.EI.eq_2 (And.intro @Go.Ev.Ih.eq_1 (And.intro @Go.Ev.Ih.eq_2 (And.intro @Go.Ev.Ih.eq_3 (And.intro @Go.Ev.DN.eq_1 (And.intro @Go.Ev.kE.eq_1 (And.intro @Go.Value.oneCell'.eq_1 (And.intro @Go.Value.oneCell'.eq_2 (And.intro @Go.Value.oneCell'.eq_3 (And.intro @Go.Ev.EG.eq_1 (And.intro @Go.Ev.Hi.eq_1 (And.intro @Go.Ev.Hi.eq_2 (And.intro @Go.Ev.Oh.eq_1 (And.intro @Go.Ev.Oh.eq_2 (@Go.Ev.St.weak.eq_1)))))))))))))))))))))))))))))))))))))))))))))))))))))))))))))))))))))))))))))))))))))))))))))))))))))))))))))))))))))))))))))))))))))))))))))))))))))
set_option linter.defProp false in
def gS:=And.intro @decide_true (And.intro @decide_false (And.intro @Bool.and_true (And.intro @Bool.true_and (And.intro @Bool.and_self (And.intro @eq_self.{1} (And.intro @Option.some.injEq.{0} (And.intro @ne_eq.{1} (And.intro @not_false_eq_true (And.intro @not_true_eq_false ((And.intro @OY (And.intro @if_true.{1} (And.intro @if_false.{1} (And.intro @Bool.or_true (And.intro @Bool.true_or (And.intro @Bool.or_false (And.intro @Bool.false_or (And.intro @Option.map_some.{0,0} (And.intro @Option.map_none.{0,0} (And.intro @Option.bind_some.{0,0} (And.intro @Option.bind_none.{0,0} (And.intro @Option.isSome_some.{0} (And.intro @Option.isSome_none.{0} (And.intro @true_or (And.intro @or_true (And.intro @false_or (And.intro @or_false (And.intro @true_and (And.intro @and_true (And.intro @and_self (And.intro @BC.{0} (And.intro @BD.{0} (And.intro @Bp.{0} (And.intro @Bl.{0} (And.intro @BA.{0,0} (And.intro @List.map_nil.{0,0} (And.intro @Bk.{0,0} (And.intro @Bi.{0} (And.intro @Bc.{0} (And.intro @Bx.{0} (And.intro @Bw.{0} (And.intro @Bz.{0} (And.intro @Bu.{0} (And.intro @List.getElem?_nil.{0} (And.intro @List.drop_zero.{0} (And.intro @List.drop_succ_cons.{0} (And.intro @List.drop_nil.{0} (And.intro @Kp (And.intro @Og (And.intro @List.take_succ_cons.{0} (And.intro @List.take_nil.{0} (And.intro @List.all_cons.{0} (And.intro @List.all_nil.{0} (And.intro @Nat.mul_one (And.intro @Nat.one_mul (And.intro @Nat.zero_add (And.intro @Nat.add_zero (And.intro @Nat.mul_zero (And.intro @Nat.zero_mul (And.intro @List.flatten_cons.{0} (And.intro @List.flatten_nil.{0} (And.intro @BS.{0} (And.intro @List.take_zero.{0} (And.intro @Q9 (And.intro @BU.{0} (And.intro @Int.toNat_natCast (And.intro @Int.toNat_zero (And.intro @Nat.sub_zero (And.intro @Int.natCast_nonneg (And.intro @BN (And.intro @Int.ofNat_lt (And.intro @BT.{0} (And.intro @PQ (And.intro @Iv (And.intro @EA (And.intro @Ru (@NS)))))))))))))))))))))))))))))))))))))))))))))))))))))))))))))))))))))))))))))
set_option linter.defProp false in
def cS:=And.intro @mX<|And.intro @hZ<|And.intro @jW (And.intro @lA (And.intro @kC (And.intro @Zl (And.intro @Y2 (And.intro @Yl (And.intro @ZP @aV))))))
set_option linter.defProp false in
def Ad:=And.intro cS<|And.intro @ZK (And.intro @Zs (And.intro kS (And.intro eS (And.intro vS gS))))
def Ua(J:Nat→Act→World→Prop)(Q:Exit→Act→World→Prop):Exit→Act→World→Prop
 |.goto l,a,w=>J l a w
 |e,a,w=>Q e a w
theorem Gs{P:Program}{a:Act}{w:World}{Q:Exit→Act→World→Prop}{c:Code}(J:Nat→Nat→Act→World→Prop)
  (first:c.wp P (Ua (fun l a w=>∃ m,J m l a w) Q) a w)
  (pass:∀ m l a w,J m l a w→∃ rest,findLabel c l=some rest∧rest.wp P (Ua (fun l' a' w'=>∃ m',m'<m∧J m' l' a' w') Q) a w):(Code.scope c).wp P Q a w:=by
 intro b k cs
 have key:∀ n l a w,J n l a w→∃ rest,gotoIn l (.inScope c::k)=some (.code rest::.inScope c::k)∧∃ e a' w',Q e a' w'∧Arrives P (lone (b.at a (.code rest::.inScope c::k)) cs w) b k cs e a' w':=by
  intro n
  induction n using Nat.strongRecOn with
  |_ n ih=>
   intro l a w hJ;obtain⟨rest,hf,hp⟩:=pass n l a w hJ;refine⟨rest,by simp[gotoIn,hf],?_⟩;obtain⟨e,a₁,w₁,hq,harr⟩:=hp b (.inScope c::k) cs;cases e with
   |normal=>exact⟨.normal,a₁,w₁,hq,Steps.trans harr (.one step_inScope)⟩
   |exit id=>exact⟨.exit id,a₁,w₁,hq,fun k' hk=>harr k' (by simp[exitTo,hk])⟩
   |goto l'=>
    obtain⟨m',hlt,hJ'⟩:=hq;obtain⟨rest',hg,e₂,a₂,w₂,hq₂,harr₂⟩:=ih m' hlt l' a₁ w₁ hJ';exact⟨e₂,a₂,w₂,hq₂,.of_steps (harr _ hg) harr₂⟩
   |ret=>exact⟨_,a₁,w₁,hq,harr⟩
   |panic ch=>exact⟨_,a₁,w₁,hq,harr⟩
   |outgrown=>exact⟨_,a₁,w₁,hq,harr⟩
 obtain⟨e,a₁,w₁,hq,harr⟩:=first b (.inScope c::k) cs
 cases e with
 |normal=>exact⟨.normal,a₁,w₁,hq,.head step_scope (Steps.trans harr (.one step_inScope))⟩
 |exit id=>exact⟨.exit id,a₁,w₁,hq,fun k' hk=>.head step_scope (harr k' (by simp[exitTo,hk]))⟩
 |goto l'=>
  obtain⟨m,hJ'⟩:=hq;obtain⟨rest',hg,e₂,a₂,w₂,hq₂,harr₂⟩:=key m l' a₁ w₁ hJ';exact⟨e₂,a₂,w₂,hq₂,.of_steps (.head step_scope (harr _ hg)) harr₂⟩
 |ret=>exact⟨_,a₁,w₁,hq,.of_steps (.one step_scope) harr⟩
 |panic ch=>exact⟨_,a₁,w₁,hq,.of_steps (.one step_scope) harr⟩
 |outgrown=>exact⟨_,a₁,w₁,hq,.of_steps (.one step_scope) harr⟩
def MY(J:Nat→St→Prop)(Q:AY):AY
 |.goto l,s=>J l s
 |e,s=>Q e s
theorem UX(J:Nat→St→Prop)(Q:AY)(l:Nat)(s:St):MY J Q (.goto l) s=J l s:=rfl
theorem Rg(J:Nat→St→Prop)(Q:AY)(s:St):MY J Q .normal s=Q .normal s:=rfl
theorem Xw(J:Nat→St→Prop)(Q:AY)(s:St):MY J Q .ret s=Q .ret s:=rfl
theorem Vp(J:Nat→St→Prop)(Q:AY)(i:Nat)(s:St):MY J Q (.exit i) s=Q (.exit i) s:=rfl
def CC{α:Type}(mk:α→St)(inv:α→Prop)(lbl μ:α→Nat)(m:Option Nat)(l:Nat)(s:St):Prop:=
 ∃ a,inv a∧lbl a=l∧s.weak (mk a)∧∀ k,m=some k→μ a<k
theorem CC.intro{α:Type}{mk:α→St}{inv:α→Prop}{lbl μ:α→Nat}{m:Option Nat}{l:Nat}{s:St}(a:α)(h1:inv a)(h2:lbl a=l)(h3:s.weak (mk a))(h4:∀ k,m=some k→μ a<k):CC mk inv lbl μ m l s:=⟨a,h1,h2,h3,h4⟩
theorem SF{X:Fix}{Q:AY}{J:Nat→St→Prop}{J':Nat→Act→World→Prop}(h:∀ l a w φ s,SR X φ s a w→J l s→J' l a w):∀ e a w,Qx X (MY J Q) e a w→Ua J' (Qx X Q) e a w
 |.goto l,a,w,⟨φ,s,hs,hj⟩=>h l a w φ s hs hj
 |.normal,_,_,h=>h
 |.ret,_,_,h=>h
 |.exit _,_,_,h=>h
 |.panic _,_,_,h=>h
 |.outgrown,_,_,h=>h
theorem Ut.scope{P:Program}{c:Code}{Q:AY}{s:St}{α:Type}(mk:α→St)(inv:α→Prop)(lbl μ:α→Nat)
  (first:Fs P c (MY (CC mk inv lbl μ none) Q) s)
  (pass:∀ a,inv a→∃ rest,findLabel c (lbl a)=some rest∧Fs P rest (MY (CC mk inv lbl μ (some (μ a))) Q) (mk a)):Ut P (.scope c) Q s:=by
 intro X φ a w hP h0 hs;subst hP;refine Gs (fun m l a w=>∃ x φ',inv x∧lbl x=l∧μ x=m∧SR X φ' (mk x) a w) ?_ fun m l a w ⟨x,φ',h1,h2,h3,h4⟩=>?_
 ·refine wp_mono (Ey h0 c _ hs first) (SF fun l a w φ s hs ⟨x,h1,h2,h3,_⟩=>?_);obtain⟨φ',h4⟩:=hs.weak h0 h3;exact⟨_,x,φ',h1,h2,rfl,h4⟩
 ·subst h2;obtain⟨rest,hf,hk⟩:=pass x h1;refine⟨rest,hf,wp_mono (Ey h0 rest _ h4 hk) (SF fun l a w φ s hs ⟨y,g1,g2,g3,g4⟩=>?_)⟩;obtain⟨φ',g5⟩:=hs.weak h0 g3;exact⟨_,by rw[←h3];exact g4 _ rfl,y,φ',g1,g2,rfl,g5⟩
set_option linter.defProp false in
def lS:=And.intro @UX (And.intro @Rg (And.intro @Xw @Vp))
theorem My.of{P:Program}{g:FuncId}{fn:Func}{e:Array Value→Sem Value}(hf:P.funcs[g]?=some fn)(hname:(fn.name == "runtime.NumGoroutine")=false)(hb:fn.body.isNone=true)(hn:Extern.findNext fn=none)
  (he:Extern.find fn=some e) {xs:List AV} {r:AV} (h:∀ (c:Cx) (w:World) (vs:Array Value),c.P=P→Aw xs c vs.toList→∃ u,(e vs).run P w=.ok u w∧rel r c u):My P g xs r:=by
 intro c w vs hc hr;obtain⟨u,h1,h2⟩:=h c w vs hc hr;refine⟨u,w,?_,Below.refl _ _,h2⟩;rw[run_callFunc_extern hf hname hb hn he];simp only[Sem.run_bind,h1]
 rfl
theorem JN{P:Program}{g:FuncId}{fn:Func}(hf:P.funcs[g]?=some fn)(hname:(fn.name == "runtime.NumGoroutine")=false)(hb:fn.body.isNone=true)(hn:Extern.findNext fn=none)
  (he:Extern.find fn=some Extern.BytealgIndexByte.indexByte) (s:ByteArray) (c:Int):My P g [.v (.string s),.v (.int .u8 c)] (.v (.int .i64 (Lib.indexByte s.data.toList c.toNat.toUInt8))):=by
 refine My.of hf hname hb hn he fun cx w vs _ hr=>?_
 simp only[Aw,rel]at hr;obtain⟨u,us,e1,rfl,v,vs',rfl,rfl,rfl⟩:=hr;obtain rfl:vs = #[.string s,.int .u8 c]:=by cases vs;simp_all
 exact⟨_,Lib.run_indexByteString s c w,by simp only[rel]⟩
theorem Mu{P:Program}{g:FuncId}{fn:Func}(hf:P.funcs[g]?=some fn)(hname:(fn.name == "runtime.NumGoroutine")=false)(hb:fn.body.isNone=true)(hn:Extern.findNext fn=none)
  (he:Extern.find fn=some Extern.MathFloatBits.float64bits) (b:Nat):My P g [.v (.float .f64 b)] (.v (.int .u64 b)):=by
 refine My.of hf hname hb hn he fun cx w vs _ hr=>?_
 simp only[Aw,rel]at hr;obtain⟨u,us,e1,rfl,rfl⟩:=hr;obtain rfl:vs = #[.float .f64 b]:=by cases vs;simp_all
 exact⟨.int .u64 b,rfl,by simp only[rel]⟩
theorem JK{P:Program}{g:FuncId}{fn:Func}(hf:P.funcs[g]?=some fn)(hname:(fn.name == "runtime.NumGoroutine")=false)(hb:fn.body.isNone=true)(hn:Extern.findNext fn=none)
  (he:Extern.find fn=some Extern.MathFloatBits.float64frombits) (n:Int):My P g [.v (.int .u64 n)] (.v (.float .f64 n.toNat)):=by
 refine My.of hf hname hb hn he fun cx w vs _ hr=>?_
 simp only[Aw,rel]at hr;obtain⟨u,us,e1,rfl,rfl⟩:=hr;obtain rfl:vs = #[.int .u64 n]:=by cases vs;simp_all
 exact⟨.float .f64 n.toNat,rfl,by simp only[rel]⟩
end Go.Ev
