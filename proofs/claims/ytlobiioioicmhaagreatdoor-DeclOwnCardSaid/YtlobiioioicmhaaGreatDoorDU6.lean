/- The evaluator: abstract values, and code carried out on them. -/
import Derived.Test.YtlobiioioicmhaaGreatDoorDU5
import Derived.RangeFuncKeeps
import Derived.RangeFuncLeaves
import Derived.OrdersIn
import Derived.LoopNIn
set_option linter.all false
set_option maxHeartbeats 8000000
namespace Go.Ev
open _root_.Array renaming getElem?_eq_some_iff→BP
open _root_.List renaming getElem?_eq_some_iff→Bs,cons_append→Bc,getElem?_map→Bm,getElem?_eq_none→Bq,mem_cons→BI,append_nil→BS
open _root_.Nat renaming le_refl→BL,le_trans→BM,zero_le→BN,lt_of_lt_of_le→BO
open Go Go.RowKit
abbrev Fr(r:Option Nat):Fence:={ fn:=fun _=>True,depth:=none,alive:=false,round:=r }
def nd(o:Oper):Bool:=match o.op with|.defer _=>false|_=>true
theorem operIn{r:Option Nat}{n:Nat}{P:Program}{o:Oper}{a:Act}{w:World}{N N':Act→World→Prop}{Q:Exit→Act→World→Prop}(hnd:nd o=true)(hN:∀ a w,N a w→N' a w)
  (h:o.wp P a w N Q):o.wpIn (Fr r) n P a w N' Q:=by
 refine⟨fun _ _=>trivial,?_⟩;have e:o.semAt r a.eval=execOp a.eval o:=Oper.semAt_eq r a.eval o (fun c hc=>by simp[nd,hc]at hnd);show o.uponIn (Fr r) n P a N' Q ((o.semAt r a.eval).run P w);rw[e];unfold Oper.wp at h
 revert h
 generalize (execOp a.eval o).run P w=R;intro h;cases R with
 |ok x w'=>
  cases x with
  |value v=>exact hN _ _ h
  |skip=>exact hN _ _ h
  |defer d=>exact hN _ _ h
  |enter f args=>
   refine⟨fun h=>(by cases h),CallsIn.mono (callsIn_wide.2 h:CallsIn Fence.wide (n-1) P f args w' _) ?_⟩;intro e w2 h2;cases e with
   |returned v=>exact hN _ _ h2
   |panicked c=>exact h2
   |outgrown=>exact h2
  |row row args=>
   refine⟨fun h=>(by cases h),fun c cs _=>?_⟩;obtain⟨v,w2,h1,h2⟩:=h c cs;exact⟨v,w2,hN _ _ h1,stepsIn_wide.2 h2⟩
  |_=>exact h.elim
 |halt x w'=>
  cases x with
  |panic v=>exact h
  |_=>exact h.elim
section
variable {r:Option Nat} {n:Nat} {P:Program} {ops:Array Oper} {Q:Exit→Act→World→Prop}
theorem nd_at(hnd:ops.all nd=true){i:Nat}{o:Oper}(h:ops[i]?=some o):nd o=true:=by
 obtain⟨hi,e⟩:=BP.1 h;have:=Array.all_eq_true.1 hnd i hi
 rwa [e]at this
theorem wpOpIn_of(hnd:ops.all nd=true)(hl:¬LetsOut Q){K K':Act→World→Prop}(hK:∀ a w,K a w→K' a w){i:Nat}{a:Act}{w:World}(h:wpOp P ops Q i K a w):wpOpIn (Fr r) n P ops Q i K' a w:=by
 unfold wpOp at h;unfold wpOpIn;cases ho:ops[i]? with
 |none=>rw[ho]at h;exact hK _ _ h
 |some o=>
  rw[ho]at h;simp only at h⊢
  split
  ·rename_i hw;rw[if_pos hw]at h
   rcases h with h|⟨_,h⟩
   ·exact operIn (nd_at hnd ho) hK h
   ·exact absurd h hl
  ·rename_i hw;rw[if_neg hw]at h;exact⟨fun _ _=>trivial,hK _ _ h⟩
theorem wpOpsIn_of(hnd:ops.all nd=true)(hl:¬LetsOut Q):∀ (is:List Nat) (a:Act) (w:World),wpOps P ops Q is a w→wpOpsIn (Fr r) n P ops Q is a w
 |[],a,w,h=>h
 |i::is,a,w,h=>by
  rw[wpOps_cons]at h;rw[wpOpsIn_cons];exact wpOpIn_of hnd hl (fun a w=>wpOpsIn_of hnd hl is a w) h
theorem wpAnyIn_of{md:Region.Mode}(hnd:ops.all nd=true)(hl:¬LetsOut Q):∀ (fuel:Nat) (listed:Array Bool) (a:Act) (w:World),wpAny P md ops Q fuel listed a w→wpAnyIn (Fr r) n P md ops Q fuel listed a w
 |0,listed,a,w,h=>h
 |fuel+1,listed,a,w,h=>⟨h.1,fun i hi=>wpOpIn_of hnd hl (fun a w=>wpAnyIn_of hnd hl fuel _ a w) (h.2 i hi)⟩
end
def plainC:Code→Bool
 |.region _ ops _=>ops.all nd
 |.seq x y=>plainC x&&plainC y
 |.cond _ x y=>plainC x&&plainC y
 |.block _ x=>plainC x
 |.skip|.exit _|.ret|.label _|.goto _=>true
 |_=>false
def onlyN(Q:Act→World→Prop):Exit→Act→World→Prop
 |.normal,a,w=>Q a w
 |_,_,_=>False
theorem onlyN_out{Q:Act→World→Prop}:¬LetsOut (onlyN Q):=fun⟨_,_,h⟩=>h
theorem onlyN_mono{Q:Exit→Act→World→Prop}:∀ e a w,onlyN (Q .normal) e a w→Q e a w
 |.normal,_,_,h=>h
section
variable {X:Fix} {n:Nat} {r:Option Nat}
theorem anyK_soundIn{ops:Array Oper}{K:St→Prop}{Q:Exit→Act→World→Prop}(hnd:ops.all nd=true)(hQ:∀ a w,Nx X K a w→Q .normal a w):∀ (f:Nat) (listed:Array Bool) {φ:List Nat} {st:St} {a:Act} {w:World},SR X φ st a w→anyK X.P ops K f listed st→wpAnyIn (Fr r) n X.P .any ops Q f listed a w
 |0,listed,φ,st,a,w,hs,h=>⟨h.1,hQ _ _ ⟨φ,st,hs,h.2⟩⟩
 |f+1,listed,φ,st,a,w,hs,h=>by
  refine⟨fun hr=>hQ _ _ ⟨φ,st,hs,h.1 hr⟩,fun i hi=>?_⟩
  have hi2:i∈List.range ops.size:=by
   simp only[Region.ready,List.mem_filter]at hi;exact hi.1
  obtain⟨o,ho,hg,hk⟩:=h.2 i hi2 (by simpa using hi);unfold wpOpIn;rw[ho];have hw:Region.wanted o (yielded ops a.tmps)=true:=by simp[Region.wanted,hg]
  simp only[hw,if_true];exact operIn (nd_at hnd ho) (fun a' w' ⟨φ',s',hs',hk'⟩=>anyK_soundIn hnd hQ f _ hs' hk') (kop_sound hs hk)
theorem draw_soundIn{φ:List Nat}{st:St}{a:Act}{w:World}{ops:Array Oper}{Q:Post}{id:Nat}(hnd:ops.all nd=true)(hs:SR X φ st a w)(h:DrawK X.P ops Q st):(Code.region id ops true).wpIn (Fr r) n X.P (Qx X Q) a w:=by
 obtain⟨h1,⟨h2,h3⟩|h3|h3⟩:=h
 case inr.inr=>exact wpIn_region_any h1 (anyK_soundIn (K:=ExtC (normK Q)) hnd (fun a w ⟨φ',s',hs',s2,he,h'⟩=>⟨φ',s2,hs'.same he.1.symm he.2.1.symm (fun t=>(he.2.2.2 t).symm) he.2.2.1.symm,h'⟩) _ _ (hs.world ⟨rfl,rfl,rfl,BL _,fun _ _=>rfl⟩) h3)
 case inr.inl=>exact wpIn_region_any h1 (anyK_soundIn (K:=normK Q) hnd (fun a w ⟨φ',s',hs',h'⟩=>⟨φ',s',hs',h'⟩) _ _ (hs.world ⟨rfl,rfl,rfl,BL _,fun _ _=>rfl⟩) h3)
 obtain⟨S,rr,e0,e1,e2⟩:=runs ops.toList h3;have R:Run X.P ops st S rr:=⟨e0,fun i o ho=>e2 i o (by simpa using ho)⟩;refine wpIn_mono (wpIn_region_any h1 (wpAnyIn_of hnd onlyN_out _ _ _ _ (draw_any rfl R (tbl:=ancT ops) h2 (Q:=onlyN (Qx X Q .normal)) (K:=normK Q) (fun a w ⟨φ',s',hs',h'⟩=>⟨φ',s',hs',h'⟩) (by simpa using e1) ops.size (Array.replicate ops.size false) a { w with drawn:=w.drawn+1 } φ (by simp) (fun i o _ hl=>?_) ?_ ?_))) onlyN_mono
 ·simp only[Array.getD_eq_getD_getElem?,Array.getElem?_replicate]at hl
  split at hl<;>cases hl
 ·exact BM (List.length_filter_le _ _) (by simp)
 ·have hs2:SR X φ st a { w with drawn:=w.drawn+1 }:=hs.world ⟨rfl,rfl,rfl,BL _,fun _ _=>rfl⟩
  have hf:∀ i,(Array.replicate ops.size false).getD i false=false:=fun i=>by
   simp only[Array.getD_eq_getD_getElem?,Array.getElem?_replicate]
   split<;>rfl
  refine hs2.same rfl rfl (fun t=>?_) ?_
  ·have:look (lU ops st rr (fun i=>(Array.replicate ops.size false).getD i false) ops.size) t=look st.s.l t:=lU_stay (i:=0) ops.size (BN _) fun j o _ _ _ hl=>by simp only[hf]at hl;cases hl
   exact this.symm
  ·have:hU X.P ops st S (fun i=>(Array.replicate ops.size false).getD i false) ops.size=st.h:=hU_stay (i:=0) ops.size (BN _) fun j o _ _ _ hl=>by simp only[hf]at hl;cases hl
   exact this.symm
theorem kwp_soundIn:∀ (c:Code) (Q:Post) {φ:List Nat} {st:St} {a:Act} {w:World},plainC c=true→SR X φ st a w→kwp X.P c Q st→c.wpIn (Fr r) n X.P (Qx X Q) a w
 |.skip,Q,φ,st,a,w,_,hs,h=>wpIn_skip ⟨φ,st,hs,h⟩
 |.region id ops draw,Q,φ,st,a,w,hp,hs,h=>by
  simp only[kwp]at h
  split at h
  ·rename_i hd;subst hd;exact draw_soundIn hp hs h
  ·rename_i hd;have hd':draw=false:=by simpa using hd
   subst hd';refine wpIn_mono (wpIn_region (wpOpsIn_of hp onlyN_out _ _ _ (kops_sound ops (onlyN (Qx X Q .normal)) ops.toList _ ?_ hs h (fun a w ⟨φ',st',hs',h'⟩=>⟨φ',st',hs',h'⟩)))) onlyN_mono
   apply List.ext_getElem?
   intro i;simp only[Bm]
   by_cases hi:i<ops.size
   ·simp[hi]
   ·rw[Bq (by simpa using hi),Bq (by simpa using hi)];rfl
 |.seq x y,Q,φ,st,a,w,hp,hs,h=>by
  simp only[kwp]at h;have hp':plainC x=true∧plainC y=true:=by simpa[plainC]using hp
  refine wpIn_seq (wpIn_mono (kwp_soundIn x _ hp'.1 hs h) fun e a w hq=>Qx_then (fun a w ⟨φ',st',hs',h'⟩=>kwp_soundIn y Q hp'.2 hs' h') e a w hq)
 |.cond c x y,Q,φ,st,a,w,hp,hs,h=>by
  have hp':plainC x=true∧plainC y=true:=by simpa[plainC]using hp
  simp only[kwp]at h;unfold CondK at h
  split at h
  ·rename_i z hg;have hc:=hs.get c;rw[hg]at hc;simp only[rel]at hc;exact wpIn_cond_split hc (fun e=>kwp_soundIn x Q hp'.1 hs (h.1 e)) (fun e=>kwp_soundIn y Q hp'.2 hs (h.2 e))
  ·exact h.elim
 |.block id c,Q,φ,st,a,w,hp,hs,h=>by
  simp only[kwp]at h;refine wpIn_block (wpIn_mono (kwp_soundIn c _ hp hs h) fun e a w hq=>?_);obtain⟨φ',st',hs',hq⟩:=hq;cases e with
  |exit j=>
   simp only[inBlockA]at hq;simp only[Exit.inBlock]
   split<;>rename_i hj
   ·rw[if_pos hj]at hq;exact⟨φ',st',hs',hq⟩
   ·rw[if_neg hj]at hq;exact⟨φ',st',hs',hq⟩
  |_=>exact⟨φ',st',hs',hq⟩
 |.loop c,Q,φ,st,a,w,hp,hs,h=>by simp[plainC]at hp
 |.exit id,Q,φ,st,a,w,_,hs,h=>wpIn_exit ⟨φ,st,hs,h⟩
 |.ret,Q,φ,st,a,w,_,hs,h=>wpIn_ret ⟨φ,st,hs,h⟩
 |.label l,Q,φ,st,a,w,_,hs,h=>wpIn_label ⟨φ,st,hs,h⟩
 |.goto l,Q,φ,st,a,w,_,hs,h=>wpIn_goto ⟨φ,st,hs,h⟩
 |.rangeFunc ..,Q,φ,st,a,w,hp,hs,h=>by simp[plainC]at hp
 |.scope ..,Q,φ,st,a,w,hp,hs,h=>by simp[plainC]at hp
 |.refuse ..,Q,φ,st,a,w,hp,hs,h=>by simp[plainC]at hp
end
def Fix.with(X:Fix)(K:List (Nat×Obj))(df:List Deferred)(c0:Option Cx):Fix:={ X with K:=K,df:=df,c0:=c0 }
section
variable {X:Fix} {φ:List Nat} {st:St} {a:Act} {w:World}
theorem SR.move(hs:SR X φ st a w){K:List (Nat×Obj)}{df:List Deferred}{c0:Option Cx}{a':Act}{w':World}{s':Slots}
  (hb:Below X.w0.heap.size w w') (hE:∀ r,r<w.heap.size→w'.heap[r]?=w.heap[r]?∨∀ vs e fr,w.heap[r]?≠some (.cells vs e fr))
  (hd:a'.defers=df) (hn:a'.tmps.size=s'.n) (hg:∀ c',(cx X φ st.h w).le c'→∀ k,treeA (look s'.g k)=true∧rel (look s'.g k) c' (.pointer (some ⟨k,0,none⟩)))
  (hsl:∀ c',(cx X φ st.h w).le c'→∀ t,rel (look s'.l t) c' (a'.tmps.getD t undef))
  (hk:∀ p∈K,w'.heap[p.1]?=some p.2) (hkd:∀ p∈K,p.1∉φ)
  (hc:∀ c c',c0=some c→(cx X φ st.h w).le c'→c.le c'):SR (X.with K df c0) φ ⟨s',st.h⟩ a' w':=by
 have hcellE:∀ r,r<w.heap.size→∀ vs e fr,w.heap[r]?=some (.cells vs e fr)→w'.heap[r]?=w.heap[r]?:=fun r hr vs e fr h=>(hE r hr).resolve_right (fun hn=>hn _ _ _ h)
 have hcell:∀ r off u,r<w.heap.size→w.cell? ⟨r,off,none⟩=some u→w'.cell? ⟨r,off,none⟩=some u:=fun r off u hr hu=>by
  have h2:=hu;unfold World.cell? at hu;simp only at hu;cases ho:w.heap[r]? with
  |none=>rw[ho]at hu;cases hu
  |some o=>
   cases o with
   |cells vs e fr=>
    have:=hcellE r hr vs e fr ho;unfold World.cell? at h2⊢;simp only at h2⊢;rw[this];exact h2
   |_=>rw[ho]at hu;simp at hu
 have hblk:∀ β∈φ,∃ vs e fr,w.heap[β]?=some (.cells vs e fr):=fun β hβ=>by
  obtain⟨i,hi⟩:=List.getElem?_of_mem hβ
  have hlt:i<st.h.length:=by
   have:=(Bs.1 hi).1;rw[←hs.φlen];exact this
  obtain⟨⟨vs,fr,h1,_,_⟩,_⟩:=hs.blk i st.h[i] β (by simp[hlt]) hi;exact⟨_,_,_,h1⟩
 have hφ:∀ β∈φ,w'.heap[β]?=w.heap[β]?:=fun β hβ=>by
  obtain⟨vs,e,fr,h⟩:=hblk β hβ;exact hcellE β (hs.rng β hβ).2 _ _ _ h
 have hle:(cx X φ st.h w).le (cx (X.with K df c0) φ st.h w'):=by
  refine⟨rfl,fun b r ⟨h1,h2,h3⟩=>⟨BO h1 hb.size,h2,h3⟩,fun b r off u ⟨h1,_⟩ hu=>hcell r off u h1 hu,fun i k β hk'=>⟨k,β,hk',BL _,fun _=>⟨rfl,rfl,?_⟩⟩⟩;have hm:=List.mem_of_getElem? (curOf_eq.1 hk').2;simp only[cx,World.shape?,hφ β hm]
 have hB:∀ (i:Nat) (k:ABlk) (β:Nat),st.h[i]?=some k→φ[i]?=some β→(∃ vs fr,w'.heap[β]?=some (.cells vs k.e fr)∧k.cells.length≤vs.size∧(∀ off,off<vs.size→¬(fr.1≤off∧off<fr.2)))∧relAt k.cells (cx (X.with K df c0) φ st.h w') β 0:=fun i k β hk' hβ=>by
  obtain⟨⟨vs,fr,h1,h1',h2⟩,h3⟩:=hs.blk i k β hk' hβ;have hm:=List.mem_of_getElem? hβ;exact⟨⟨vs,fr,by rw[hφ β hm];exact h1,h1',h2⟩,relAt_le hle (fun off u hc'=>hcell β off u (hs.rng β hm).2 hc') h3⟩
 exact⟨hs.below.trans hb,hd,hk,hkd,fun c hc'=>hc c _ hc' hle,hsl _ hle,hn,hg _ hle,hs.φlen,hs.nodup,fun β hβ=>⟨(hs.rng β hβ).1,BO (hs.rng β hβ).2 hb.size⟩,hB⟩
theorem SR.slots_le(hs:SR X φ st a w):∀ c',(cx X φ st.h w).le c'→∀ t,rel (look st.s.l t) c' (a.tmps.getD t undef):=fun c' h t=>rel_mono h _ _ (hs.slots t)
theorem SR.gl_le(hs:SR X φ st a w):∀ c',(cx X φ st.h w).le c'→∀ k,treeA (look st.s.g k)=true∧rel (look st.s.g k) c' (.pointer (some ⟨k,0,none⟩)):=fun c' h k=>⟨(hs.gl k).1,rel_mono h _ _ (hs.gl k).2⟩
theorem putObj_other{w:World}{l:Nat}{o o':Obj}(h:w.heap[l]?=some o)(ho:∀ vs e fr,o≠.cells vs e fr)(r:Nat)(hr:r<w.heap.size):(w.putObj l o').heap[r]?=w.heap[r]?∨∀ vs e fr,w.heap[r]?≠some (.cells vs e fr):=by
 by_cases e:r=l
 ·subst e;exact .inr fun vs e fr hc=>by rw[h]at hc;exact ho _ _ _ (Option.some.inj hc)
 ·exact .inl (World.putObj_heap_other e)
theorem putObj_below{w:World}{l n:Nat}{o':Obj}(hn:n≤l)(hl:l<w.heap.size):Below n w (w.putObj l o'):=
 (Below.refl n w).grown (grownBy_putObj' w l o') (by omega) (fun k e=>by cases e;omega)
end
theorem _root_.Go.Ev.Cx.le.trans_le{a b c:Cx}(h:a.le b)(g:b.le c):a.le c:=Cx.le_trans h g
def SeqC(P:Program)(g:Nat)(lb:Array Value)(N:Nat)(item:Nat→Array Value)(base:World→Prop):Prop:=
 ∀ (l:Nat) (J:Nat→World→Prop) (Jx:World→Prop) (W:World),
  (∀ k A,J k A→base A)→(∀ k A B,J k A→Below A.heap.size A B→J k B)→(∀ A B,Jx A→Below A.heap.size A B→Jx B)→
  (∀ k W0 W1,k<N→J k W0→Below W0.heap.size W0 W1→YieldAt (Fr none) 0 P l (item k) W1 fun e W'=>
   (e=.returned (.bool true)∧J (k+1) W'∧(∀ r,W0.heap.size≤r→r<W1.heap.size→W'.heap[r]?=W1.heap[r]?))∨(e=.returned (.bool false)∧Jx W'))→
  J 0 W→Calls P g (#[.func (.yield l) #[] #[]]++lb) W fun e W'=>(∃ v,e=.returned v)∧(J N W'∨Jx W')
def markD(D:Nat):Deferred:={ target:=.collected D,args:= #[] }
def Fix.marked(X:Fix)(D:Nat):Fix:=X.with ((D,.deferred (some []))::X.K) (markD D::X.df) none
def roundQ(I:Prop)(S:Slots)(H:List ABlk)(Q:Post):Post
 |.normal,s=>I∧(⟨S,s.h⟩:St).weak ⟨S,H⟩
 |.ret,s=>Q .ret ⟨S,s.h⟩
 |.exit id,s=>Q (.exit id) ⟨S,s.h⟩
 |_,_=>False
def assignQ(P:Program)(body:Code)(R:Post):Post
 |.normal,s=>kwp P body R s
 |_,_=>False
def QM(X:Fix)(Q:Post)(e:Exit)(a:Act)(w:World):Prop:=∃ D φ st,(X.w0.heap.size≤D∧∀ p∈X.K,p.1<D)∧SR (X.marked D) φ st a w∧Q e st
def blocksFrom(n:Nat)(W:World):List (Nat×Obj):=(List.range W.heap.size).filterMap fun r=>if n≤r then (W.heap[r]?).map fun o=>(r,o)else none
theorem mem_blocksFrom{n:Nat}{W:World}{p:Nat×Obj}(h:p∈blocksFrom n W):n≤p.1∧W.heap[p.1]?=some p.2:=by
 obtain⟨r,hr,h2⟩:=List.mem_filterMap.1 h
 split at h2
 ·rename_i hn;cases ho:W.heap[r]? with
  |none=>rw[ho]at h2;cases h2
  |some o=>rw[ho]at h2;cases h2;exact⟨hn,ho⟩
 ·cases h2
theorem blocksFrom_mem{n:Nat}{W:World}{r:Nat}{o:Obj}(hn:n≤r)(h:W.heap[r]?=some o):(r,o)∈blocksFrom n W:=by
 refine List.mem_filterMap.2 ⟨r,List.mem_range.2 (BP.1 h).1,?_⟩;rw[if_pos hn,h];rfl
theorem range_rule{X:Fix}{φ:List Nat}{st:St}{a:Act}{w:World}{n:Nat}(hs:SR X φ st a w)(h0:X.c0=none)
  {g:Operand} {p q:Tmp} {assign body:Code} (hpa:plainC assign=true) (hpb:plainC body=true)
  {gf:Nat} {lb:Array Value} (hg:a.eval g=.func (.func gf) #[] lb) (eg:∀ args w,(callFunc gf args).run X.P w=.ok (.enter gf args) w)
  (N:Nat) (item:Nat→Value×Value) {base:World→Prop} (hseq:SeqC X.P gf lb N (fun k=> #[(item k).1,(item k).2]) base)
  (S:Slots) (H:Nat→List ABlk) (inv:Nat→Prop) (hi0:inv 0) (hw:st.weak ⟨S,H 0⟩)
  (hbase:∀ (X':Fix) (φ':List Nat) (k:Nat) (a':Act) (W:World),X'.P=X.P→X'.G=X.G→X'.B=X.B→(∀ p∈X.K,W.heap[p.1]?=some p.2)→a'.tmps=a.tmps→SR X' φ' ⟨S,H k⟩ a' W→base W)
  (xs ys:Nat→AV) (hx:∀ k,k<N→∀ c,rel (xs k) c (item k).1∧rel (ys k) c (item k).2)
  {Q:Post} (hround:∀ k,k<N→inv k→kwp X.P assign (assignQ X.P body (roundQ (inv (k+1)) S (H (k+1)) Q)) ⟨putS (putS S (some p) (xs k)) (some q) (ys k),H k⟩)
  (hdone:inv N→Q .normal ⟨S,H N⟩) :
  (Code.rangeFunc g #[p,q] assign body).wpIn (Fr none) n X.P (QM X Q) a w:=by
 obtain⟨φ0,hs0⟩:=hs.weak h0 hw;refine wpIn_rangeFunc ?_;intro fn _;obtain⟨rec,hrec⟩:∃ rec:LoopState→Option Code→Loop,rec=fun st pe=>{ state:=st,pending:=pe,fn,tmps:=a.tmps,params:= #[p,q],assign,body,defers:=w.heap.size }:=⟨_,rfl⟩
 obtain⟨W1,hW1⟩:∃ W1,(w.alloc (.deferred (some []))).alloc (.loop (rec .ready none))=W1:=⟨_,rfl⟩
 have hL1:W1.heap[w.heap.size+1]?=some (.loop (rec .ready none)):=by
  rw[←hW1];have:=World.alloc_heap_new (w.alloc (.deferred (some []))) (.loop (rec .ready none));rwa [World.size_alloc]at this
 have hK1:W1.heap[w.heap.size]?=some (.deferred (some [])):=by
  rw[←hW1];exact (Below.heap_alloc _ _ _ (by simp)).trans (World.alloc_heap_new w _)
 have hold:∀ r,r<w.heap.size→W1.heap[r]?=w.heap[r]?:=fun r hr=>by
  rw[←hW1];exact (Below.heap_alloc _ _ _ (by simp;omega)).trans (Below.heap_alloc _ _ _ hr)
 have hb1:Below X.w0.heap.size w W1:=by
  rw[←hW1];exact (((Below.refl _ w).alloc hs.below.size _).alloc (by simp;have:=hs.below.size;omega) _)
 obtain⟨a1,ha1⟩:∃ a1:Act,a1={ a with defers:=markD w.heap.size::a.defers }:=⟨_,rfl⟩;have ht1:a1.tmps=a.tmps:=by rw[ha1]
 have hd1:a1.defers=markD w.heap.size::X.df:=by rw[ha1,←hs.defers]
 have hsz:a1.tmps.size=S.n:=by rw[ht1];exact hs0.len
 obtain⟨KJ,hKJ⟩:∃ KJ:Loop→List (Nat×Obj),KJ=fun o=>(w.heap.size,Obj.deferred (some []))::(w.heap.size+1,Obj.loop o)::X.K:=⟨_,rfl⟩
 have hKlt:∀ p∈X.K,p.1<w.heap.size:=fun p hp=>hs.kp_lt hp
 have turn:∀ (o o':Loop) (E:List (Nat×Obj)) (W:World),(∀ p∈KJ o++E,W.heap[p.1]?=some p.2)→(∀ p∈E,p.1≠w.heap.size+1)→∀ p∈KJ o'++E,(W.putObj (w.heap.size+1) (.loop o')).heap[p.1]?=some p.2:=fun o o' E W h1 h2 p hp=>by
  rw[hKJ]at h1 hp;have hl:W.heap[w.heap.size+1]?=some (.loop o):=h1 (w.heap.size+1,.loop o) (by simp);simp only[Bc,BI,List.mem_append]at hp
  rcases hp with rfl|rfl|hp|hp
  ·exact (World.putObj_heap_other (by simp)).trans (h1 (w.heap.size,.deferred (some [])) (by simp))
  ·exact World.putObj_heap_same (BP.1 hl).1
  ·exact (World.putObj_heap_other (by have:=hKlt p hp;omega)).trans (h1 p (by simp[hp]))
  ·exact (World.putObj_heap_other (h2 p hp)).trans (h1 p (by simp[hp]))
 obtain⟨XJ,hXJ⟩:∃ XJ:Loop→Fix,XJ=fun o=>X.with (KJ o) (markD w.heap.size::X.df) none:=⟨_,rfl⟩
 obtain⟨J,hJ⟩:∃ J:Nat→World→Prop,J=fun k W=>inv k∧∃ φk,SR (XJ (rec .ready none)) φk ⟨S,H k⟩ a1 W:=⟨_,rfl⟩
 obtain⟨Jx,hJx⟩:∃ Jx:World→Prop,Jx=fun W=>∃ c φk s,SR (XJ (rec .done (some c))) φk ⟨S,s⟩ a1 W∧((c=.ret∧Q .ret ⟨S,s⟩)∨∃ id,c=.exit id∧Q (.exit id) ⟨S,s⟩):=⟨_,rfl⟩
 have hJ0:J 0 W1:=by
  rw[hJ,hXJ];refine⟨hi0,φ0,hs0.move hb1 (fun r hr=>.inl (hold r hr)) hd1 hsz hs0.gl_le (fun c' h t=>by rw[ht1];exact hs0.slots_le c' h t) ?_ ?_ (fun c c' h=>by cases h)⟩
  ·intro p hp;rw[hKJ]at hp;simp only[BI]at hp
   rcases hp with rfl|rfl|hp
   ·exact hK1
   ·exact hL1
   ·exact (hold _ (hKlt p hp)).trans (hs0.kp p hp)
  ·intro p hp hm;rw[hKJ]at hp;simp only[BI]at hp;have hlt:=(hs0.rng _ hm).2
   rcases hp with rfl|rfl|hp
   ·simp at hlt
   ·simp at hlt;omega
   ·exact hs0.kd p hp hm
 refine⟨w.heap.size+1,[{ target:=.collected w.heap.size,args:= #[] }],W1,{ target:=.fn (.func gf) lb,args:= #[.func (.yield (w.heap.size+1)) #[] #[]] },W1,gf,
  #[.func (.yield (w.heap.size+1)) #[] #[]]++lb,W1,?_,?_,fun _ _=>trivial,?_,fun h=>(by cases h),?_⟩
 ·rw[←hW1,hrec];exact run_enterLoop_outer _ _ _ _ _
 ·simp only[resolve,hg];simp[go_sem]
 ·simp[invoke,go_sem,eg]
 ·refine CallsIn.mono (callsIn_wide.2 (hseq (w.heap.size+1) J Jx W1 ?_ ?_ ?_ ?_ hJ0):CallsIn Fence.wide (n-1) X.P gf _ W1 _) ?_
  ·intro k A hA;rw[hJ,hXJ]at hA;obtain⟨_,φk,hk⟩:=hA;refine hbase (X.with (KJ (rec .ready none)) (markD w.heap.size::X.df) none) φk k a1 A rfl rfl rfl (fun p hp=>hk.kp p ?_) ht1 hk;show p∈KJ _;rw[hKJ];simp[hp]
  ·intro k A B hA hb;rw[hJ]at hA⊢;obtain⟨hik,φk,hk⟩:=hA;exact⟨hik,φk,hk.world hb⟩
  ·intro A B hA hb;rw[hJx]at hA⊢;obtain⟨c,φk,s,hk,hq⟩:=hA;exact⟨c,φk,s,hk.world hb,hq⟩
  ·intro k W0 W hkN hJk hbW;rw[hJ,hXJ]at hJk;obtain⟨hik,φk,hk0⟩:=hJk;have hk:=hk0.world hbW;have hmemJ:∀ (o:Loop) (E:List (Nat×Obj)),(w.heap.size+1,Obj.loop o)∈KJ o++E:=fun o E=>by rw[hKJ];simp
   have hl:W.heap[w.heap.size+1]?=some (.loop (rec .ready none)):=hk.kp (w.heap.size+1,.loop (rec .ready none)) (by have:=hmemJ (rec .ready none) [];rw[BS]at this;exact this)
   have hl0:w.heap.size+1<W0.heap.size:=by
    have:W0.heap[w.heap.size+1]?=some (.loop (rec .ready none)):=hk0.kp (w.heap.size+1,.loop (rec .ready none)) (by have:=hmemJ (rec .ready none) [];rw[BS]at this;exact this);exact (BP.1 this).1
   have hy:=run_yield (P:=X.P) (args:= #[(item k).1,(item k).2]) hl (by rw[hrec];rfl);rw[hrec]at hy;refine⟨fn,_,assign,body,hy,roundIn_of_wpIn (F:=Fr none) trivial ?_⟩;show assign.wpIn (Fr (some (w.heap.size+1))) 0 X.P _ _ W;obtain⟨E,hE⟩:∃ E,E=blocksFrom W0.heap.size W:=⟨_,rfl⟩;have hEne:∀ p∈E,p.1≠w.heap.size+1:=fun p hp=>by have:=(mem_blocksFrom (hE▸hp)).1;omega
   obtain⟨c0,hc0⟩:∃ c0,c0=cx (X.with (KJ (rec .ready none)) (markD w.heap.size::X.df) none) φk (H k) W:=⟨_,rfl⟩
   have h2:SR (X.with (KJ (rec .ready none)++E) [] (some c0)) φk ⟨S,H k⟩ { tmps:=a.tmps,defers:=[] } W:=by
    refine hk.move (Below.refl _ _) (fun r _=>.inl rfl) rfl (by show a.tmps.size=S.n;rw[←ht1];exact hsz) hk.gl_le (fun c' h t=>by show rel _ _ (a.tmps.getD t undef);rw[←ht1];exact hk.slots_le c' h t) ?_ ?_ (fun c c' h h3=>by cases h;rw[hc0];exact h3)
    ·intro p hp
     rcases List.mem_append.1 hp with hp|hp
     ·exact hk.kp p hp
     ·exact (mem_blocksFrom (hE▸hp)).2
    ·intro p hp hm
     rcases List.mem_append.1 hp with hp|hp
     ·exact hk.kd p hp hm
     ·have h1:=(mem_blocksFrom (hE▸hp)).1;have h2:=(hk0.rng _ hm).2
      omega
   obtain⟨hx1,hx2⟩:=hx k hkN (cx (X.with (KJ (rec .ready none)++E) [] (some c0)) φk (H k) W);have h3:=(h2.put (some p) hx1).put (some q) hx2
   have hact:(({ tmps:=a.tmps,defers:=[] }:Act).put (some p) (item k).1).put (some q) (item k).2={ tmps:=(#[p,q].zip #[(item k).1,(item k).2]).foldl (fun tmps (t,a)=>tmps.setIfInBounds t a) a.tmps,defers:=[] }:=by
    simp[Act.put]
   rw[hact]at h3;refine wpIn_mono (kwp_soundIn (X:=X.with (KJ (rec .ready none)++E) [] (some c0)) (r:=some (w.heap.size+1)) assign _ hpa h3 (hround k hkN hik)) ?_
   rintro e a2 W2 ⟨φ2,st2,hs2,hq2⟩
   cases e with
   |normal=>
    have hl2:W2.heap[w.heap.size+1]?=some (.loop (rec .ready none)):=hs2.kp _ (hmemJ _ _);refine⟨_,run_beginRound hl2 (by rw[hrec]),?_⟩;have hrb:({ rec .ready none with state:=.busy }:Loop)=rec .busy none:=by rw[hrec]
    rw[hrb];have hnc:∀ vs e fr,Obj.loop (rec .ready none)≠.cells vs e fr:=fun _ _ _ h=>by cases h
    have hlt2:=(BP.1 hl2).1;have hw0:X.w0.heap.size≤w.heap.size+1:=by have:=hs.below.size;omega
    have h4:SR (X.with (KJ (rec .busy none)++E) [] (some c0)) φ2 ⟨st2.s,st2.h⟩ a2 (W2.putObj (w.heap.size+1) (.loop (rec .busy none))):=by
     refine hs2.move (putObj_below hw0 hlt2) (putObj_other hl2 hnc) hs2.defers hs2.len hs2.gl_le hs2.slots_le (turn _ _ E W2 hs2.kp hEne) ?_ (fun c c' h h3=>by cases h;exact (hs2.le0 c0 rfl).trans_le h3);intro p hp hm;rw[hKJ]at hp;simp only[Bc,BI,List.mem_append]at hp;have hkd:=hs2.kd
     rcases hp with rfl|rfl|hp|hp
     ·exact hkd (w.heap.size,.deferred (some [])) (by show _∈KJ _++E;rw[hKJ];simp) hm
     ·exact hkd (w.heap.size+1,.loop (rec .ready none)) (hmemJ _ _) hm
     ·exact hkd p (by show _∈KJ _++E;rw[hKJ];simp[hp]) hm
     ·exact hkd p (by show _∈KJ _++E;rw[hKJ];simp[hp]) hm
    refine wpIn_mono (kwp_soundIn (X:=X.with (KJ (rec .busy none)++E) [] (some c0)) (r:=some (w.heap.size+1)) body _ hpb h4 hq2) ?_
    rintro e a3 W3 ⟨φ3,st3,hs3,hq3⟩
    have hl3:W3.heap[w.heap.size+1]?=some (.loop (rec .busy none)):=hs3.kp _ (hmemJ _ _);have hlt3:=(BP.1 hl3).1;have hnc3:∀ vs e fr,Obj.loop (rec .busy none)≠.cells vs e fr:=fun _ _ _ h=>by cases h
    have fin:∀ (stt:LoopState) (pe:Option Code),SR (X.with (KJ (rec stt pe)) (markD w.heap.size::X.df) none) φ3 ⟨S,st3.h⟩ a1 (W3.putObj (w.heap.size+1) (.loop (rec stt pe))):=fun stt pe=>by
     refine hs3.move (putObj_below hw0 hlt3) (putObj_other hl3 hnc3) hd1 hsz (fun c' h k=>?_) (fun c' h t=>?_) (fun p hp=>turn _ _ E W3 hs3.kp hEne p (List.mem_append_left _ hp)) ?_ (fun c c' h=>by cases h)
     ·have hcc:c0.le c':=(hs3.le0 c0 rfl).trans_le h;rw[hc0]at hcc;exact hk.gl_le c' hcc k
     ·have hcc:c0.le c':=(hs3.le0 c0 rfl).trans_le h;rw[hc0]at hcc;exact hk.slots_le c' hcc t
     ·intro p hp hm;rw[hKJ]at hp;simp only[BI]at hp;have hkd:=hs3.kd
      rcases hp with rfl|rfl|hp
      ·exact hkd (w.heap.size,.deferred (some [])) (by show _∈KJ _++E;rw[hKJ];simp) hm
      ·exact hkd (w.heap.size+1,.loop (rec .busy none)) (hmemJ _ _) hm
      ·exact hkd p (by show _∈KJ _++E;rw[hKJ];simp[hp]) hm
    have hrd:∀ pe,({ rec .busy none with state:=if pe.isNone then .ready else .done,pending:=pe }:Loop)=rec (if pe.isNone then .ready else .done) pe:=fun pe=>by rw[hrec]
    cases e with
    |normal=>
     have hr:=run_endRound (P:=X.P) none hl3;rw[hrd]at hr;refine⟨_,_,hr,.inl ⟨rfl,?_,?_⟩⟩
     ·rw[hJ,hXJ];obtain⟨φ',h5⟩:=(fin .ready none).weak rfl hq3.2;exact⟨hq3.1,φ',h5⟩
     ·intro r hr1 hr2;have hmem:(r,W.heap[r])∈E:=hE▸blocksFrom_mem hr1 (by simp[hr2]);have h6:=hs3.kp (r,W.heap[r]) (List.mem_append_right _ hmem);rw[World.putObj_heap_other (by omega)];exact h6.trans (by simp[hr2])
    |ret=>
     have hr:=run_endRound (P:=X.P) (some .ret) hl3;rw[hrd]at hr;refine⟨_,_,hr,.inr ⟨rfl,?_⟩⟩;rw[hJx,hXJ];exact⟨.ret,φ3,st3.h,fin .done (some .ret),.inl ⟨rfl,hq3⟩⟩
    |exit id=>
     have hr:=run_endRound (P:=X.P) (some (.exit id)) hl3;rw[hrd]at hr;refine⟨_,_,hr,.inr ⟨rfl,?_⟩⟩;rw[hJx,hXJ];exact⟨.exit id,φ3,st3.h,fin .done (some (.exit id)),.inr ⟨id,rfl,hq3⟩⟩
    |goto t=>exact hq3.elim
    |panic ch=>exact hq3.elim
    |outgrown=>exact hq3.elim
   |exit id=>exact hq2.elim
   |goto t=>exact hq2.elim
   |ret=>exact hq2.elim
   |panic ch=>exact hq2.elim
   |outgrown=>exact hq2.elim
  ·rintro e W2 ⟨⟨v,rfl⟩,hend⟩
   have fin:∀ (o o':Loop) (φk:List Nat) (h:List ABlk) (W:World),SR (X.with (KJ o) (markD w.heap.size::X.df) none) φk ⟨S,h⟩ a1 W→SR (X.marked w.heap.size) φk ⟨S,h⟩ a1 (W.putObj (w.heap.size+1) (.loop o')):=fun o o' φk h W hk=>by
    have hl:W.heap[w.heap.size+1]?=some (.loop o):=hk.kp (w.heap.size+1,.loop o) (by show _∈KJ o;rw[hKJ];simp);have hnc:∀ vs e fr,Obj.loop o≠.cells vs e fr:=fun _ _ _ h=>by cases h
    have hw0:X.w0.heap.size≤w.heap.size+1:=by have:=hs.below.size;omega
    refine hk.move (putObj_below hw0 (BP.1 hl).1) (putObj_other hl hnc) hd1 hsz hk.gl_le hk.slots_le ?_ ?_ (fun c c' h=>by cases h)
    ·intro p hp;simp only[BI]at hp
     rcases hp with rfl|hp
     ·exact (World.putObj_heap_other (by simp)).trans (hk.kp (w.heap.size,.deferred (some [])) (by show _∈KJ o;rw[hKJ];simp))
     ·exact (World.putObj_heap_other (by have:=hKlt p hp;omega)).trans (hk.kp p (by show _∈KJ o;rw[hKJ];simp[hp]))
    ·intro p hp hm;simp only[BI]at hp
     rcases hp with rfl|hp
     ·exact hk.kd (w.heap.size,.deferred (some [])) (by show _∈KJ o;rw[hKJ];simp) hm
     ·exact hk.kd p (by show _∈KJ o;rw[hKJ];simp[hp]) hm
   have ha1':({ a with defers:=[{ target:=.collected w.heap.size,args:= #[] }]++a.defers }:Act)=a1:=by rw[ha1];rfl
   rcases hend with hend|hend
   ·rw[hJ,hXJ]at hend;obtain⟨hiN,φk,hk⟩:=hend;have hl:W2.heap[w.heap.size+1]?=some (.loop (rec .ready none)):=hk.kp (w.heap.size+1,.loop (rec .ready none)) (by show _∈KJ _;rw[hKJ];simp);have hr:=run_endLoop (P:=X.P) hl (by rw[hrec];simp);have hpe:(rec .ready none).pending=none:=by rw[hrec]
    rw[hpe]at hr;refine⟨none,_,hr,?_⟩;show QM X Q .normal _ _;rw[ha1'];exact⟨_,φk,⟨S,H N⟩,⟨hs.below.size,hKlt⟩,fin _ _ φk _ W2 hk,hdone hiN⟩
   ·rw[hJx,hXJ]at hend;obtain⟨c,φk,s,hk,hq⟩:=hend;have hl:W2.heap[w.heap.size+1]?=some (.loop (rec .done (some c))):=hk.kp (w.heap.size+1,.loop (rec .done (some c))) (by show _∈KJ _;rw[hKJ];simp);have hr:=run_endLoop (P:=X.P) hl (by rw[hrec];simp);have hpe:(rec .done (some c)).pending=some c:=by rw[hrec]
    rw[hpe]at hr;refine⟨some c,_,hr,?_⟩;show c.wpIn (Fr none) n X.P (QM X Q) _ _;rw[ha1']
    rcases hq with⟨rfl,hq⟩|⟨id,rfl,hq⟩
    ·exact wpIn_ret ⟨_,φk,⟨S,s⟩,⟨hs.below.size,hKlt⟩,fin _ _ φk _ W2 hk,hq⟩
    ·exact wpIn_exit ⟨_,φk,⟨S,s⟩,⟨hs.below.size,hKlt⟩,fin _ _ φk _ W2 hk,hq⟩
theorem SR.fewer{X:Fix}{φ:List Nat}{st:St}{a:Act}{w:World}{K K':List (Nat×Obj)}{df:List Deferred}{c0:Option Cx}(hs:SR (X.with K df c0) φ st a w)(h:∀ p∈K',p∈K):SR (X.with K' df c0) φ st a w:=
 ⟨hs.below,hs.defers,fun p hp=>hs.kp p (h p hp),fun p hp=>hs.kd p (h p hp),hs.le0,hs.slots,hs.len,hs.gl,hs.φlen,hs.nodup,hs.rng,hs.blk⟩
def Fix.marks(X:Fix)(Ds:List Nat):Fix:=X.with (Ds.map (fun D=>(D,Obj.deferred (some [])))++X.K) (Ds.map markD++X.df) none
def QMs(X:Fix)(Q:Post)(e:Exit)(a:Act)(w:World):Prop:=∃ Ds φ st,Ds.Nodup∧(∀ D∈Ds,X.w0.heap.size≤D)∧SR (X.marks Ds) φ st a w∧Q e st
theorem leave_marks{X:Fix}{P:Program}{fn:Func}{R:Ending→World→Prop}(hK:X.K=[])(hdf:X.df=[]){φ:List Nat}{st:St}{tmps:Array Value}
  (hR:∀ (a:Act) (w:World),a.tmps=tmps→SR (X.marks []) φ st a w→∃ v,(results fn tmps).run P w=.ok v w∧R (.returned v) w) :
  ∀ (Ds:List Nat) (a:Act) (w:World),Ds.Nodup→(∀ D∈Ds,X.w0.heap.size≤D)→a.tmps=tmps→SR (X.marks Ds) φ st a w→LeavesInM (Fr none) 0 P fn tmps R a.defers .returning w
 |[],a,w,_,_,ht,hs=>by
  have hd:a.defers=[]:=by have:=hs.defers;simpa[Fix.marks,Fix.with,hdf]using this
  rw[hd];show LeavesIn (Fr none) 0 P fn tmps R [] .returning w;exact hR a w ht hs
 |D::Ds,a,w,hn,hw0,ht,hs=>by
  have hd:a.defers=markD D::Ds.map markD:=by have:=hs.defers;simpa[Fix.marks,Fix.with,hdf]using this
  have hk:w.heap[D]?=some (.deferred (some [])):=hs.kp (D,.deferred (some [])) (by simp[Fix.marks,Fix.with]);have hlt:=(BP.1 hk).1;obtain⟨hn1,hn2⟩:=List.nodup_cons.1 hn;rw[hd];refine⟨fun h=>(by cases h),.inl ⟨D,_,rfl,run_takeDeferred hk,?_⟩⟩
  have hs2:SR (X.marks Ds) φ ⟨st.s,st.h⟩ { a with defers:=Ds.map markD } (w.putObj D (.deferred none)):=by
   have:=hs.move (K:=(X.marks Ds).K) (df:=(X.marks Ds).df) (c0:=none) (a':={ a with defers:=Ds.map markD }) (w':=w.putObj D (.deferred none)) (s':=st.s)
    (putObj_below (hw0 D (by simp)) hlt) (putObj_other hk (fun _ _ _ h=>by cases h)) (by simp[Fix.marks,Fix.with,hdf]) hs.len hs.gl_le hs.slots_le
    (fun p hp=>by
     have hp':p∈(X.marks (D::Ds)).K:=by simp[Fix.marks,Fix.with]at hp⊢;exact .inr hp
     have hne:p.1≠D:=fun e=>by
      simp[Fix.marks,Fix.with,hK]at hp;obtain⟨D',h1,h2⟩:=hp;rw[←h2]at e;exact hn1 (e▸h1)
     exact (World.putObj_heap_other hne).trans (hs.kp p hp'))
    (fun p hp=>hs.kd p (by simp[Fix.marks,Fix.with]at hp⊢;exact .inr hp)) (fun c c' h=>by cases h)
   exact this
  have:=leave_marks hK hdf hR Ds { a with defers:=Ds.map markD } _ hn2 (fun D' h=>hw0 D' (by simp[h])) ht hs2;exact this
theorem Ev.of_wpM{P:Program}{γ:List (Nat×AV)}{f:FuncId}{fn:Func}{c:Code}{args:List AV}{res:AV}(hf:P.funcs[f]?=some fn)(hb:fn.body=some c)
  (h:∀ (X:Fix),X.P=P→X.c0=none→X.K=[]→X.df=[]→∀ {a:Act} {w:World},SR X [] (startA γ args fn.ntmps) a w→c.wpIn (Fr none) 0 P (QMs X (endA P fn.results.toList res)) a w):Ev P γ f args res:=by
 intro G B w vs hG hγ hargs
 let X:Fix:={ P,G,B:=fun r=>B r∧r<w.heap.size,w0:=w,hG,hB:=fun r h=>h.2 }
 have hle:(cx0 P G B w).le (cx X [] [] w):=⟨rfl,fun b r ⟨h1,h2⟩=>⟨h1,by simp,by cases b;exact h2;exact⟨h2,h1⟩⟩,fun _ _ _ _ _ h=>h,fun _ _ _ h=>by cases h⟩;have hargs':relL args (cx X [] [] w) vs.toList:=relL_mono hle _ _ hargs;have hl:vs.size=args.length:=by have:=relL_length hargs;simpa using this
 have hs:SR X [] (startA γ args fn.ntmps) { tmps:=vs++Array.replicate (fn.ntmps-vs.size) undef,defers:=[] } w:=
  {below:=Below.refl _ _,defers:=rfl,kp:=(fun p hp=>by cases hp),kd:=(fun p hp=>by cases hp),le0:=(fun c hc=>by cases hc),slots:=fun t=>by
    have key:∀ (xs:List AV) (us:List Value) (i:Nat),relL xs (cx X [] [] w) us→look (idxL i xs) (i+t)=.bad∨∃ u,us[t]?=some u∧rel (look (idxL i xs) (i+t)) (cx X [] [] w) u:=by
     induction t with
     |zero=>
      intro xs us i h;cases xs with
      |nil=>exact .inl rfl
      |cons x xs=>
       simp only[relL]at h;obtain⟨u,us',rfl,h2,_⟩:=h;exact .inr ⟨u,rfl,by simpa[idxL,look]using h2⟩
     |succ t ih=>
      intro xs us i h;cases xs with
      |nil=>exact .inl rfl
      |cons x xs=>
       simp only[relL]at h;obtain⟨u,us',rfl,_,h3⟩:=h;have:=ih xs us' (i+1) h3;rw[show i+(t+1)=i+1+t by omega];simp only[idxL,look];rw[if_neg (by omega)];simpa using this
    have:=key args vs.toList 0 hargs';simp only[Nat.zero_add]at this;simp only[startA]
    rcases this with h|⟨u,hu,h⟩
    ·rw[h];simp only[rel]
    ·have hu':vs[t]?=some u:=by simpa using hu
     have hlt:=(BP.1 hu').1;simpa[Array.getElem?_append_left hlt,hu']using h
   len:=by simp[startA,hl],gl:=fun k=>⟨(hγ k).1,rel_mono hle _ _ (hγ k).2⟩,φlen:=rfl,nodup:=List.nodup_nil,rng:=fun _ h=>by simp at h,blk:=fun i k β h=>by simp[startA]at h }
 refine callsIn_wide.1 (callsIn_of_wp_marks (F:=Fence.wide) (n:=0) hf hb trivial (wpIn_mono (h X rfl rfl rfl rfl hs) fun e a w' hq=>?_));obtain⟨Ds,φ,st,hn,hw0,hs',hq⟩:=hq
 have fin:∀ (a0:Act) (w':World),a0.tmps=a.tmps→SR (X.marks []) φ st a0 w'→(resA P fn.results.toList st fun xs=>fz P st.h false res (oneOrTup xs))→∃ v,(results fn a.tmps).run P w'=.ok v w'∧∃ u,Ending.returned v=.returned u∧rel res (cx0 P G B w') u∧Below w.heap.size w w':=by
  intro a0 w' hta hs' hr;rw[←hta];obtain⟨xs,us,h1,h2,h3⟩:=resA_run (X:=X.marks []) hs' fn.results.toList hr;have h1:=(show (fn.results.toList.mapM fun|.tmp t=>pure (a0.tmps.getD t undef)|.cell p t=>do loadVar t (←asAddr (a0.tmps.getD p undef)):Sem (List Value)).run P w'=.ok us w' from h1);refine⟨if h:us.toArray.size=1 then us.toArray[0]else .tuple us.toArray,?_,_,rfl,?_,hs'.below⟩
  ·unfold results;rw[Sem.run_bind]
   have e:(fn.results.mapM fun|.tmp t=>pure (a0.tmps.getD t undef)|.cell p t=>do loadVar t (←asAddr (a0.tmps.getD p undef)):Sem (Array Value)).run P w'=.ok us.toArray w':=by
    rw[Array.mapM_eq_mapM_toList,Sem.run_map,h1]
    rfl
   exact (congrArg (fun r=>Result.andThen r _) e).trans rfl
  ·have hrel:rel (oneOrTup xs) (cx (X.marks []) φ st.h w') (if h:us.toArray.size=1 then us.toArray[0]else .tuple us.toArray):=by
    have hlen:=relL_length h2
    match xs,us,h2,hlen with
    |[x],[u],h2,_=>
     simp only[relL]at h2;obtain⟨u',us',e,hr,_⟩:=h2;cases e;exact hr
    |[],[],h2,_=>
     simp only[oneOrTup,rel];exact⟨#[],rfl,h2⟩
    |x::y::xs,u::v::us,h2,_=>
     simp only[oneOrTup,rel];refine⟨(u::v::us).toArray,?_,h2⟩;rw[dif_neg (by simp)]
    |[],_::_,_,hl=>simp at hl
    |_::_,[],_,hl=>simp at hl
    |[_],_::_::_,_,hl=>simp at hl
    |_::_::_,[_],_,hl=>simp at hl
   refine rel_fz (X:=X.marks []) (b0:=false) (ok':=(cx0 P G B w').ok) hs' (fun b r ⟨h1,h2,h3⟩=>⟨h1,?_⟩) (fun β hβ=>⟨(hs'.rng β hβ).2,fun hg=>?_⟩) res _ _ h3 hrel
   ·cases b
    ·exact h3
    ·exact h3.1
   ·have:=(hs'.rng β hβ).1;have:=hG β hg;exact absurd this (by show ¬β<w.heap.size;have:w.heap.size≤β:=(hs'.rng β hβ).1;omega)
 have go:(resA P fn.results.toList st fun xs=>fz P st.h false res (oneOrTup xs))→LeavesInM Fence.wide 0 P fn a.tmps (fun e w'=>∃ u,e=.returned u∧rel res (cx0 P G B w') u∧Below w.heap.size w w') a.defers .returning w':=fun hr=>
  leave_marks (X:=X) rfl rfl (fun a0 w2 h1 h2=>fin a0 w2 h1 h2 hr) Ds a w' hn hw0 rfl hs'
 cases e with
 |normal=>exact go hq
 |ret=>exact go hq
 |_=>exact hq.elim
section
variable {r:Option Nat} {n:Nat} {P:Program} {ops:Array Oper} {Q:Exit→Act→World→Prop}
theorem operIn_post{o:Oper}{a:Act}{w:World}{Z N N':Act→World→Prop}(hN:∀ a w,N a w→N' a w)(h:o.wpIn (Fr r) n P a w N (onlyN Z)):o.wpIn (Fr r) n P a w N' Q:=by
 refine⟨fun _ _=>trivial,?_⟩;have h:=h.2
 revert h
 show o.uponIn (Fr r) n P a N (onlyN Z) ((o.semAt r a.eval).run P w)→o.uponIn (Fr r) n P a N' Q ((o.semAt r a.eval).run P w)
 generalize (o.semAt r a.eval).run P w=R;intro h;cases R with
 |ok x w'=>
  cases x with
  |value v=>exact hN _ _ h
  |skip=>exact hN _ _ h
  |defer d=>exact hN _ _ h
  |enter f args=>
   refine⟨fun h=>(by cases h),CallsIn.mono h.2 ?_⟩;intro e w2 h2;cases e with
   |returned v=>exact hN _ _ h2
   |panicked c=>exact h2.elim
   |outgrown=>exact absurd h2 onlyN_out
  |row row args=>exact⟨fun h=>(by cases h),RowsIn.mono h.2 fun v w2 h2=>hN _ _ h2⟩
  |round l f tmps assign body=>
   refine⟨fun h=>(by cases h),RoundIn.mono h.2 ?_⟩;intro e w2 h2;cases e with
   |returned v=>exact hN _ _ h2
   |panicked c=>exact h2.elim
   |outgrown=>exact absurd h2 onlyN_out
  |_=>exact h.elim
 |halt x w'=>
  cases x with
  |panic v=>exact h.elim
  |_=>exact h.elim
theorem wpOpsIn_split:∀ (is1 is2:List Nat) (a:Act) (w:World),wpOpsIn (Fr r) n P ops (onlyN (fun a w=>wpOpsIn (Fr r) n P ops Q is2 a w)) is1 a w→wpOpsIn (Fr r) n P ops Q (is1++is2) a w
 |[],is2,a,w,h=>h
 |i::is1,is2,a,w,h=>by
  rw[wpOpsIn_cons]at h;rw[Bc,wpOpsIn_cons];unfold wpOpIn at h⊢;cases ho:ops[i]? with
  |none=>rw[ho]at h;exact wpOpsIn_split is1 is2 a w h
  |some o=>
   rw[ho]at h;simp only at h⊢
   split
   ·rename_i hw;rw[if_pos hw]at h;exact operIn_post (fun a w=>wpOpsIn_split is1 is2 a w) h
   ·rename_i hw;rw[if_neg hw]at h;exact⟨h.1,wpOpsIn_split is1 is2 _ w h.2⟩
end
theorem roundIn_any{n m:Nat}{r:Option Nat}{P:Program}{l f:Nat}{tmps:Array Value}{assign body:Code}{w:World}{R:Ending→World→Prop}(h:RoundIn (Fr r) n P l f tmps assign body w R):RoundIn (Fr r) m P l f tmps assign body w R:=
 ⟨h.1,fun c cs _=>h.2 c cs (fun d hd=>by cases hd)⟩
theorem yield_wpIn{n m:Nat}{P:Program}{o:Oper}{a:Act}{w:World}{x:Operand}{args:Array Operand}{ts:Array TypeId}{l:Nat}{vs:Array Value}{R:Ending→World→Prop}{N:Act→World→Prop}{Q:Exit→Act→World→Prop}
  (ho:o.op=.call { callee:=.value x,args:=args,argTypes:=ts }) (hx:a.eval x=.func (.yield l) #[] #[]) (hvs:args.map a.eval=vs) (hY:YieldAt (Fr none) m P l vs w R)
  (hR:∀ e w',R e w'→∃ v,e=.returned v∧N (a.put o.dst v) w'):o.wpIn (Fr none) n P a w N Q:=by
 obtain⟨fn,tmps,assign,body,hy,hr⟩:=hY;refine⟨fun _ _=>trivial,?_⟩;have e:o.semAt none a.eval=execOp a.eval o:=rfl;show o.uponIn (Fr none) n P a N Q ((o.semAt none a.eval).run P w)
 have hrun:(execOp a.eval o).run P w=.ok (.round l fn tmps assign body) w:=by
  unfold execOp;rw[ho];simp only[resolve,hx];simp[go_sem,invoke,hvs,hy]
 rw[e,hrun];refine⟨fun h=>(by cases h),RoundIn.mono (roundIn_any hr) ?_⟩;intro e w' h;obtain⟨v,rfl,h2⟩:=hR e w' h;exact h2
def freshX(P:Program)(W:World)(B:Nat→Prop)(hB:∀ r,B r→r<W.heap.size):Fix:={ P,G:=fun _=>False,B,w0:=W,hG:=fun _ h=>h.elim,hB }
theorem SR.fresh{P:Program}{W:World}{B:Nat→Prop}{hB:∀ r,B r→r<W.heap.size}{s:Slots}{a:Act}(hd:a.defers=[])(hn:a.tmps.size=s.n)
  (hsl:∀ t,rel (look s.l t) (cx (freshX P W B hB) [] [] W) (a.tmps.getD t undef)) (hg:∀ k,treeA (look s.g k)=true∧rel (look s.g k) (cx (freshX P W B hB) [] [] W) (.pointer (some ⟨k,0,none⟩))):SR (freshX P W B hB) [] ⟨s,[]⟩ a W:=
 ⟨Below.refl _ _,hd,(fun p hp=>by cases hp),(fun p hp=>by cases hp),(fun c hc=>by cases hc),hsl,hn,hg,rfl,List.nodup_nil,(fun _ h=>by simp at h),(fun i k β h=>by simp at h)⟩
def wkQ(S:St):Post
 |.normal,s=>s.weak S
 |_,_=>False
theorem wkQ_normal(S s:St):wkQ S .normal s=s.weak S:=rfl
theorem pieceIn{X:Fix}{φ:List Nat}{st:St}{a:Act}{w:World}{r:Option Nat}{n:Nat}{c:Code}(S:St){N:Act→World→Prop}{Q:Exit→Act→World→Prop}(hp:plainC c=true)(h0:X.c0=none)(hs:SR X φ st a w)(hk:kwp X.P c (wkQ S) st)
  (hnext:∀ φ' a' w',SR X φ' S a' w'→N a' w'):c.wpIn (Fr r) n X.P (Exit.then N Q) a w:=by
 refine wpIn_mono (kwp_soundIn (r:=r) c _ hp hs hk) ?_
 rintro e a' w' ⟨φ',s',hs',hq⟩
 cases e with
 |normal=>
  obtain⟨φ2,h2⟩:=hs'.weak h0 hq;exact hnext _ _ _ h2
 |_=>exact hq.elim
theorem opsIn{X:Fix}{φ:List Nat}{st:St}{a:Act}{w:World}{n:Nat}{ops:Array Oper}(S:St){N:Act→World→Prop}(hnd:ops.all nd=true)(h0:X.c0=none)(os:List Oper)(is:List Nat)(he:is.map (ops[·]?)=os.map some)(hs:SR X φ st a w)(hk:kops X.P ops os (fun s=>s.weak S) st)
  (hnext:∀ φ' a' w',SR X φ' S a' w'→N a' w'):wpOpsIn (Fr none) n X.P ops (onlyN N) is a w:=by
 refine wpOpsIn_of hnd onlyN_out _ _ _ (kops_sound ops (onlyN N) os is he hs hk ?_)
 rintro a' w' ⟨φ',s',hs',hq⟩
 obtain⟨φ2,h2⟩:=hs'.weak h0 hq;exact hnext _ _ _ h2
theorem SR.getv{X:Fix}{φ:List Nat}{st:St}{a:Act}{w:World}(hs:SR X φ st a w){t:Nat}{x:Value}(h:look st.s.l t=.v x):a.tmps.getD t undef=x:=by
 have:=hs.slots t;rw[h]at this;simpa[rel]using this
theorem look_args{c:Cx}:∀ (t:Nat) (xs:List AV) (us:List Value) (i:Nat),relL xs c us→look (idxL i xs) (i+t)=.bad∨∃ u,us[t]?=some u∧rel (look (idxL i xs) (i+t)) c u
 |0,xs,us,i,h=>by
  cases xs with
  |nil=>exact .inl rfl
  |cons x xs=>
   simp only[relL]at h;obtain⟨u,us',rfl,h2,_⟩:=h;exact .inr ⟨u,rfl,by simpa[idxL,look]using h2⟩
 |t+1,xs,us,i,h=>by
  cases xs with
  |nil=>exact .inl rfl
  |cons x xs=>
   simp only[relL]at h;obtain⟨u,us',rfl,_,h3⟩:=h;have:=look_args t xs us' (i+1) h3;rw[show i+(t+1)=i+1+t by omega];simp only[idxL,look];rw[if_neg (by omega)];simpa using this
theorem rel_oneOrTup{c:Cx}{xs:List AV}{us:List Value}(h2:relL xs c us):rel (oneOrTup xs) c (if h:us.toArray.size=1 then us.toArray[0]else .tuple us.toArray):=by
 have hlen:=relL_length h2
 match xs,us,h2,hlen with
 |[x],[u],h2,_=>
  simp only[relL]at h2;obtain⟨u',us',e,hr,_⟩:=h2;cases e;exact hr
 |[],[],h2,_=>
  simp only[oneOrTup,rel];exact⟨#[],rfl,h2⟩
 |x::y::xs,u::v::us,h2,_=>
  simp only[oneOrTup,rel];refine⟨(u::v::us).toArray,?_,h2⟩;rw[dif_neg (by simp)]
 |[],_::_,_,hl=>simp at hl
 |_::_,[],_,hl=>simp at hl
 |[_],_::_::_,_,hl=>simp at hl
 |_::_::_,[_],_,hl=>simp at hl
def Fix.inl(X:Fix)(φ:List Nat)(h:List ABlk)(w:World):Fix:=X.with X.K [] (some (cx X φ h w))
def slotW(s S:St):Prop:=S.s.n=s.s.n∧S.s.g=s.s.g∧allIn s.s.l S.s.l∧S.h=s.h
theorem SR.slotW{X:Fix}{φ:List Nat}{st S:St}{a:Act}{w:World}(hs:SR X φ st a w)(h:slotW st S):SR X φ S a w:=by
 obtain⟨hn,hg,hl,hh⟩:=h;obtain⟨⟨n2,l2,g2⟩,sh⟩:=S;simp only at hn hg hl hh;subst hn;subst hg;subst hh;refine { hs with slots:=fun t=>?_ }
 rcases look_mem (l:=l2) (t:=t)with h|h
 ·simp only[h,rel]
 ·have:=(allIn_mem hl _ _ h).symm;simp only[this];exact hs.slots t
end Go.Ev
