/- A part of the proof. -/
import Derived.Test.YtlobiioioicmhaaGreatDoorDQ3
import Derived.LoopNIn
import Derived.WalkKit
set_option linter.all false
set_option maxHeartbeats 8000000
namespace Go.Proofs.YtlobiioioicmhaaGreatDoor
open _root_.Array renaming getElem?_eq_some_iff→BP,getElem?_eq_none→BQ
open _root_.Bool renaming not_true→Bv,not_false→Bf
open _root_.List renaming length_append→Bp,cons_append→Bc,nil_append→Bi,length_map→Bk,take_of_length_le→Bt,length_drop→Bd,length_take→Bh,mem_singleton→Bj,map_cons→BA,prefix_rfl→BB,length_cons→BC,length_nil→BD,getElem_cons_zero→BF,getElem_cons_succ→BG,getElem_toArray→BH,append_nil→BS
open _root_.Nat renaming le_refl→BL,zero_le→BN
open Go.Proofs.Tryz renaming prog→Tp
open Go Go.Ev Go.RowKit
set_option maxRecDepth 20000
variable {γ:List (Nat×AV)}
theorem cells_vs{c c':Cx}{r:Nat}(hc:∀ off,c'.w.cell? ⟨r,off,none⟩=c.w.cell? ⟨r,off,none⟩):∀ (vs:List Value) (off:Nat),relAt (vs.map AV.v) c r off→relAt (vs.map AV.v) c' r off
 |[],_,_=>trivial
 |x::vs,off,h=>by
  simp only[BA,relAt,rel]at h⊢;obtain⟨⟨u,h1,h2⟩,h3⟩:=h;exact⟨⟨u,(hc off).trans h1,h2⟩,cells_vs hc vs (off+1) h3⟩
def tvals(t:TokD)(pos:Nat):List Value:=[.int .i64 t.kind,.string ⟨t.text.toArray⟩,.int .i64 t.int,.float .f64 t.real,.int .i64 pos,.int .i64 t.size]
theorem av_vals(t:TokD)(pos:Nat):t.av pos=.agg ((tvals t pos).map AV.v):=rfl
theorem rel_av{t:TokD}{pos:Nat}{c:Cx}{u:Value}(h:rel (t.av pos) c u):u=tokV t pos:=by
 rw[av_vals]at h;simp only[tvals,BA,List.map_nil,rel,relL]at h;obtain⟨us,rfl,a1,b1,e1,rfl,a2,b2,rfl,rfl,a3,b3,rfl,rfl,a4,b4,rfl,rfl,a5,b5,rfl,rfl,a6,b6,rfl,rfl,rfl⟩:=h;unfold tokV
 congr 1
 apply Array.ext'
 rw[e1]
def yv(ly:Nat):AV:=.v (.func (.yield ly) #[] #[])
def headS(γ:List (Nat×AV))(l:List UInt8)(ly Nb i:Nat):St:=⟨⟨38,[(0,yv ly),(1,boxA l),(3,.v (.int .i64 i))],γ⟩,[]⟩
def gotS(γ:List (Nat×AV))(l:List UInt8)(ly:Nat)(there:Bool)(t:TokD)(pos:Nat)(e:Int):St:=
 ⟨⟨38,[(0,yv ly),(1,boxA l),(4,.ptr 0 0 0),(5,.v (.bool there)),(6,.v (.int .i64 e))],γ⟩,[⟨0,53,(tvals t pos).map AV.v⟩]⟩
def preS(γ:List (Nat×AV))(l:List UInt8)(ly:Nat)(t:TokD)(pos:Nat)(e:Int):St:=
 ⟨⟨38,[(0,yv ly),(1,boxA l),(4,.ptr 0 0 0),(6,.v (.int .i64 e)),(22,.v (.bool false)),(23,yv ly),(24,t.av pos),(25,.v (.int .i64 e))],γ⟩,[⟨0,53,(tvals t pos).map AV.v⟩]⟩
def postS(γ:List (Nat×AV))(l:List UInt8)(ly:Nat)(t:TokD)(pos:Nat)(e:Int)(z:Bool):St:=
 ⟨⟨38,[(0,yv ly),(1,boxA l),(4,.ela false ((tvals t pos).map AV.v)),(6,.v (.int .i64 e)),(22,.v (.bool false)),(26,.v (.bool z))],γ⟩,[]⟩
def endS32(γ:List (Nat×AV))(l:List UInt8)(ly:Nat)(t:TokD)(pos:Nat)(b:Bool):St:=
 ⟨⟨38,[(0,yv ly),(1,boxA l),(4,.ela false ((tvals t pos).map AV.v)),(32,.v (.bool b))],γ⟩,[]⟩
theorem headSR(hγ2:GlW γ){l:List UInt8}{ly Nb i:Nat}{a:Act}{W:World}(hb:eachBase γ l Nb W)(hd:a.defers=[])(hn:a.tmps.size=38)(h0:a.tmps.getD 0 undef=.func (.yield ly) #[] #[])(h1:a.tmps.getD 1 undef=.pointer (some ⟨Nb,0,none⟩))(h3:a.tmps.getD 3 undef=.int .i64 i):
  SR (eachX Tp W Nb (box_lt hb)) [] (headS γ l ly Nb i) a W:=by
 refine SR.fresh hd hn (fun t=>?_) (fun k=>gl_rel hγ2 hb.2 (c:=cx (eachX Tp W Nb (box_lt hb)) [] [] W) rfl (fun r hr=>⟨hr,by simp,by show ¬False;exact fun h=>h⟩) k)
 by_cases e0:t=0
 ·subst e0;rw[h0];show rel (yv ly) _ _;simp only[yv,rel]
 ·by_cases e1:t=1
  ·subst e1;rw[h1];exact box_rel hb
  ·by_cases e3:t=3
   ·subst e3;rw[h3];show rel (.v (.int .i64 i)) _ _;simp only[rel]
   ·have:Go.Ev.look [(0,yv ly),(1,boxA l),(3,AV.v (.int .i64 i))] t=.bad:=by
     simp only[Go.Ev.look];rw[if_neg (fun e=>e0 e.symm),if_neg (fun e=>e1 e.symm),if_neg (fun e=>e3 e.symm)]
    rw[this];simp only[rel]
theorem headD_err{s:List UInt8}{e:Int}(h:headD s=.error e):e≠0:=by
 unfold headD at h
 split at h
 ·split at h
  ·cases h;decide
  ·cases h
 ·split at h
  ·exact numberD_err h
  ·split at h
   ·exact textD_err h
   ·split at h
    ·cases h;decide
    ·cases h
theorem ptr_own{X:Fix}{φ:List Nat}{st:St}{a:Act}{w:World}(hs:SR X φ st a w){t i v:Nat}{k:ABlk}(hl:Go.Ev.look st.s.l t=.ptr i v 0)(hk:st.h[i]?=some k)(hv:v=k.ver):
  ∃ β,a.tmps.getD t undef=.pointer (some ⟨β,0,none⟩)∧X.w0.heap.size≤β∧β<w.heap.size∧relAt k.cells (cx X φ st.h w) β 0:=by
 have h:=hs.slots t;rw[hl]at h;simp only[rel]at h;obtain⟨k',β,h1,h2,h3,h4⟩:=h;obtain⟨g1,g2⟩:=curOf_eq.1 h1;rw[hk]at g1;cases g1;have hm:=hs.rng β (List.mem_of_getElem? g2);exact⟨β,h4 hv,hm.1,hm.2,(hs.blk i k β hk g2).2⟩
theorem wpOpIn_some{r:Option Nat}{n:Nat}{P:Program}{ops:Array Oper}{Q:Exit→Act→World→Prop}{i:Nat}{o:Oper}{K:Act→World→Prop}{a:Act}{w:World}(ho:ops[i]?=some o)(hw:Region.wanted o (yielded ops a.tmps)=true)(h:o.wpIn (Fr r) n P a w K Q):wpOpIn (Fr r) n P ops Q i K a w:=by
 unfold wpOpIn;rw[ho];simp only[hw,if_true];exact h
theorem wpOps_end{r:Option Nat}{n:Nat}{P:Program}{ops:Array Oper}{Q:Exit→Act→World→Prop}{is:List Nat}{a:Act}{w:World}(h:wpOpsIn (Fr r) n P ops (onlyN (Q .normal)) is a w):wpOpsIn (Fr r) n P ops Q is a w:=by
 have:=wpOpsIn_split (Q:=Q) is [] a w h
 rwa [BS]at this
theorem pieceInB{X:Fix}{φ:List Nat}{st:St}{a:Act}{w:World}{r:Option Nat}{n:Nat}{c:Code}(id:Nat)(S:St){N:Act→World→Prop}{Q:Exit→Act→World→Prop}(hp:plainC c=true)(h0:X.c0=none)(hs:SR X φ st a w)(hk:kwp X.P c (wkQ S) st)
  (hnext:∀ φ' a' w',SR X φ' S a' w'→N a' w'):c.wpIn (Fr r) n X.P (Exit.inBlock id (Exit.then N Q)) a w:=by
 refine wpIn_mono (pieceIn (Q:=fun _ _ _=>False) (N:=N) S hp h0 hs hk hnext) ?_;intro e a w h;cases e with
 |normal=>exact h
 |_=>exact h.elim
theorem frame2(n:Nat)(x y:Value)(h:2≤n):∃ A:Act,A={ tmps:= #[x] ++ #[y]++Array.replicate (n-(#[x] ++ #[y]).size) undef,defers:=[] }∧A.defers=[]∧A.tmps.size=n∧A.tmps.getD 0 undef=x∧A.tmps.getD 1 undef=y:=by
 refine⟨_,rfl,rfl,?_,?_,?_⟩
 ·simp;omega
 ·simp;rw[Array.getElem?_append_left (by simp)];rfl
 ·simp;rw[Array.getElem?_append_left (by simp)];rfl
set_option maxRecDepth 20000 in
theorem each_seq(hγ:Gl γ)(hγ2:GlW γ)(l:List UInt8)(hl:l.length≤140737488351232)(Nb:Nat):
  SeqC Tp 182 #[.pointer (some ⟨Nb,0,none⟩)] (eachItems l).length (fun k=> #[(itemV (itemAt (eachItems l) k)).1,(itemV (itemAt (eachItems l) k)).2]) (eachBase γ l Nb):=by
 intro ly J Jx W hJb hJw hJxw hY hJ0;refine callsIn_wide.1 (callsIn_of_wp (F:=Fence.wide) (n:=0) Tryz.func182 rfl trivial ?_);generalize hPE:bodyPost Tp Tryz.f182 _=PE
 have hret:∀ (a:Act) (w:World),a.defers=[]→(J (eachItems l).length w∨Jx w)→PE .ret a w:=fun a w h1 h2=>by
  rw[←hPE];refine⟨h1,.tuple #[],?_,⟨_,rfl⟩,h2⟩;unfold results;rw[show Tryz.f182.results = #[]from rfl,Sem.run_bind,Array.mapM_eq_mapM_toList,Sem.run_map]
  rfl
 have hb0:=hJb 0 W hJ0;have hnt:Tryz.f182.ntmps=38:=by kernel_rfl
 rw[hnt];obtain⟨A,hA,hAd,hAn,hA0,hA1⟩:=frame2 38 (.func (.yield ly) #[] #[]) (.pointer (some ⟨Nb,0,none⟩)) (by decide);rw[←hA]
 have hsr:SR (eachX Tp W Nb (box_lt hb0)) [] ⟨⟨38,[(0,yv ly),(1,boxA l)],γ⟩,[]⟩ A W:=by
  refine SR.fresh hAd hAn (fun t=>?_) (fun k=>gl_rel hγ2 hb0.2 (c:=cx (eachX Tp W Nb (box_lt hb0)) [] [] W) rfl (fun r hr=>⟨hr,by simp,by show ¬False;exact fun h=>h⟩) k)
  by_cases e0:t=0
  ·subst e0;rw[hA0];show rel (yv ly) _ _;simp only[yv,rel]
  ·by_cases e1:t=1
   ·subst e1;rw[hA1];exact box_rel hb0
   ·have:Go.Ev.look [(0,yv ly),(1,boxA l)] t=.bad:=by
     simp only[Go.Ev.look];rw[if_neg (fun e=>e0 e.symm),if_neg (fun e=>e1 e.symm)]
    rw[this];simp only[rel]
 by_cases hbig:32768<l.length
 ·have hit:eachItems l=[((zeroT,0),3)]:=by unfold eachItems;rw[if_pos hbig]
  refine wpIn_seq (wpIn_seq (pieceIn (X:=eachX Tp W Nb (box_lt hb0)) (r:=none) ⟨⟨38,[(0,yv ly),(9,.v (.bool true))],γ⟩,[]⟩ (by kernel_rfl) rfl hsr ?_ ?_))
  ·show kwp Tp _ _ _
   have hd:decide (32768<(l.length:Int))=true:=decide_eq_true (by omega);simp only[boxA,yv,hd,wkQ_normal,evS,tyS,Nat.reduceLT,Nat.reduceEqDiff,reduceCtorEq]
   (repeat' (first|(with_reducible refine aI ?_ ?_)|(first|(first|refine gF ?_ ?_|refine gT ?_ ?_|refine cI ?_ ?_|refine pI ?_ ?_)<;>intro h|(refine dI ?_;have h:=trivial))<;>simp only[h,evS,tyS,Bv,Bf,Nat.reduceAdd,Nat.reduceSub,Nat.reduceMul,Nat.reduceLT,Nat.reduceLeDiff,Nat.reduceEqDiff,reduceCtorEq,List.reduceReplicate,Int.reduceToNat,Int.reduceLE,Int.reduceLT]))
  ·intro φ1 a1 W1 h1;refine wpIn_cond_true (h1.getv rfl) (wpIn_seq (wpIn_region ?_));show wpOpsIn (Fr none) 0 Tp _ _ ([0,1]++(2::[])) a1 W1;refine wpOpsIn_split _ _ _ _ (opsIn (X:=eachX Tp W Nb (box_lt hb0)) ⟨⟨38,[(10,yv ly),(11,zeroT.av 0)],γ⟩,[]⟩ (by kernel_rfl) rfl [_,_] [0,1] rfl h1 ?_ ?_)
   ·show kops Tp _ _ _ _
    simp only[yv,zeroT,TokD.av,tokA,BH,BF,BG,evS,tyS,Nat.reduceLT,Nat.reduceEqDiff,reduceCtorEq]
    (repeat' (first|(with_reducible refine aI ?_ ?_)|(first|(first|refine gF ?_ ?_|refine gT ?_ ?_|refine cI ?_ ?_|refine pI ?_ ?_)<;>intro h|(refine dI ?_;have h:=trivial))<;>simp only[h,evS,tyS,Bv,Bf,Nat.reduceAdd,Nat.reduceSub,Nat.reduceMul,Nat.reduceLT,Nat.reduceLeDiff,Nat.reduceEqDiff,reduceCtorEq,List.reduceReplicate,Int.reduceToNat,Int.reduceLE,Int.reduceLT]))
    all_goals first|rfl|exact .inl rfl
   ·intro φ4 a4 W4 h4;rw[wpOpsIn_cons];have hYk:=hY 0 W W4 (by rw[hit];decide) hJ0 h4.below;have hitem:itemAt (eachItems l) 0=((zeroT,0),3):=by rw[hit];rfl
    simp only[hitem,itemV]at hYk
    have hv:(#[Operand.tmp 11,Operand.const (.int .i64 3)]:Array Operand).map a4.eval = #[tokV zeroT 0,.int .i64 3]:=by
     have e1:a4.tmps.getD 11 undef=tokV zeroT 0:=rel_av (h4.slots 11);rw[List.map_toArray,BA,BA,List.map_nil];show #[a4.tmps.getD 11 undef,Value.int .i64 3]=_;rw[e1]
    have hN1:(eachItems l).length=1:=by rw[hit];rfl
    refine wpOpIn_some rfl rfl (yield_wpIn rfl (h4.getv rfl) hv hYk ?_)
    rintro e' W5 (⟨rfl,hJ5,_⟩|⟨rfl,hJx5⟩)
    ·exact⟨_,rfl,wpIn_ret (hret _ W5 h4.defers (.inl (hN1▸hJ5)))⟩
    ·exact⟨_,rfl,wpIn_ret (hret _ W5 h4.defers (.inr hJx5))⟩
 ·refine wpIn_seq (wpIn_seq (pieceIn (X:=eachX Tp W Nb (box_lt hb0)) (r:=none) ⟨⟨38,[(0,yv ly),(1,boxA l),(9,.v (.bool false))],γ⟩,[]⟩ (by kernel_rfl) rfl hsr ?_ ?_))
  ·show kwp Tp _ _ _
   have hd:decide (32768<(l.length:Int))=false:=decide_eq_false (by omega);simp only[boxA,yv,hd,wkQ_normal,evS,tyS,Nat.reduceLT,Nat.reduceEqDiff,reduceCtorEq]
   (repeat' (first|(with_reducible refine aI ?_ ?_)|(first|(first|refine gF ?_ ?_|refine gT ?_ ?_|refine cI ?_ ?_|refine pI ?_ ?_)<;>intro h|(refine dI ?_;have h:=trivial))<;>simp only[h,evS,tyS,Bv,Bf,Nat.reduceAdd,Nat.reduceSub,Nat.reduceMul,Nat.reduceLT,Nat.reduceLeDiff,Nat.reduceEqDiff,reduceCtorEq,List.reduceReplicate,Int.reduceToNat,Int.reduceLE,Int.reduceLT]))
  ·intro φ1 a1 W1 h1;refine wpIn_cond_false (h1.getv rfl) (wpIn_skip ?_);refine wpIn_seq (pieceIn (X:=eachX Tp W Nb (box_lt hb0)) (r:=none) ⟨⟨38,[(0,yv ly),(1,boxA l),(3,.v (.int .i64 0))],γ⟩,[]⟩ (by kernel_rfl) rfl h1 ?_ ?_)
   ·show kwp Tp _ _ _
    simp only[boxA,yv,wkQ_normal,evS,Nat.reduceLT,Nat.reduceEqDiff,reduceCtorEq]
    (repeat' (first|(with_reducible refine aI ?_ ?_)|(first|(first|refine gF ?_ ?_|refine gT ?_ ?_|refine cI ?_ ?_|refine pI ?_ ?_)<;>intro h|(refine dI ?_;have h:=trivial))<;>simp only[h,evS,tyS,Bv,Bf,Nat.reduceAdd,Nat.reduceSub,Nat.reduceMul,Nat.reduceLT,Nat.reduceLeDiff,Nat.reduceEqDiff,reduceCtorEq,List.reduceReplicate,Int.reduceToNat,Int.reduceLE,Int.reduceLT]))
   ·intro φ2 a2 W2 h2;have hbW:Below W.heap.size W W2:=h2.below;have hJ2:=hJw 0 W W2 hJ0 hbW;refine wpIn_block (wpIn_loop_rounds ((eachItems l).length+1) ?_);have hbW2:=hJb 0 W2 hJ2
    have hc2:∃ v fr,W2.heap[Nb]?=some (.cells #[v] 37 fr):=by
     obtain⟨⟨u,fr,g1,_⟩,_⟩:=hbW2;exact⟨u,fr,g1⟩
    have hit:eachItems l=itemsF (l.length+1) l 0:=by unfold eachItems;rw[if_neg hbig]
    refine (?_:∀ (rest:List ((TokD×Nat)×Int)) (fuel k i:Nat) (a:Act) (W:World),itemsF fuel l i=rest→l.length+1≤fuel+i→i≤l.length→(eachItems l).drop k=rest→k≤(eachItems l).length→J k W→
     a.defers=[]→a.tmps.size=38→a.tmps.getD 0 undef=.func (.yield ly) #[] #[]→a.tmps.getD 1 undef=.pointer (some ⟨Nb,0,none⟩)→a.tmps.getD 3 undef=.int .i64 i→Code.roundsIn Fence.wide 0 Tp _ _ (rest.length+1) a W)
     (eachItems l) (l.length+1) 0 0 a2 W2 hit.symm (by omega) (by omega) rfl (by omega) hJ2 h2.defers h2.len (h2.getv rfl) (box_ptr (h2.slots 1) hc2) (h2.getv rfl)
    clear hc2 hbW2 hJ2 hbW h2 h1 hsr hA hAd hAn hA0 hA1 A;intro rest
    induction rest with
    |nil=>
     intro fuel k i a W hitm hfu hi hdr hkN hJk hd hn g0 g1 g3;have hb:=hJb k W hJk;have hsr:=headSR (γ:=γ) hγ2 hb hd hn g0 g1 g3
     have hT:l.length≤nextT l i:=by
      cases fuel with
      |zero=>omega
      |succ fuel=>
       rw[itemsF]at hitm
       split at hitm
       ·assumption
       ·split at hitm<;>cases hitm
     have hk:k=(eachItems l).length:=by
      have:=List.drop_eq_nil_iff.1 hdr
      omega
     rw[roundsIn_succ];refine wpIn_block (wpIn_seq (pieceIn (X:=eachX Tp W Nb (box_lt hb)) (r:=none) (gotS γ l ly false zeroT 0 0) (by kernel_rfl) rfl hsr ?_ ?_))
     ·show kwp Tp _ _ _
      have hnx:=lexNext_ev hγ false l i hi hl;rw[nextA,if_pos hT]at hnx;simp only[headS,boxA,yv,evS,tyS,Nat.reduceLT,Nat.reduceEqDiff,reduceCtorEq]
      (repeat' (first|(with_reducible refine aI ?_ ?_)|(first|(first|refine gF ?_ ?_|refine gT ?_ ?_|refine cI ?_ ?_|refine pI ?_ ?_)<;>intro h|(refine dI ?_;have h:=trivial))<;>simp only[h,evS,tyS,Bv,Bf,Nat.reduceAdd,Nat.reduceSub,Nat.reduceMul,Nat.reduceLT,Nat.reduceLeDiff,Nat.reduceEqDiff,reduceCtorEq,List.reduceReplicate,Int.reduceToNat,Int.reduceLE,Int.reduceLT]))
      refine CallK.intro b31 (by simp[treeL,treeA]) hnx ?_;simp only[tokA,f0,wkQ_normal,gotS,tvals,yv,boxA,zeroT,evS,tyS,Nat.reduceAdd,Nat.reduceLT,Nat.reduceLeDiff,Nat.reduceEqDiff,reduceCtorEq]
      (repeat' (first|(with_reducible refine aI ?_ ?_)|(first|(first|refine gF ?_ ?_|refine gT ?_ ?_|refine cI ?_ ?_|refine pI ?_ ?_)<;>intro h|(refine dI ?_;have h:=trivial))<;>simp only[h,evS,tyS,Bv,Bf,Nat.reduceAdd,Nat.reduceSub,Nat.reduceMul,Nat.reduceLT,Nat.reduceLeDiff,Nat.reduceEqDiff,reduceCtorEq,List.reduceReplicate,Int.reduceToNat,Int.reduceLE,Int.reduceLT]))
      all_goals first|rfl|exact .inl rfl
     ·intro φ3 a3 W3 h3;refine wpIn_seq (wpIn_seq (pieceIn (X:=eachX Tp W Nb (box_lt hb)) (r:=none) ⟨⟨38,[(32,.v (.bool true))],γ⟩,[]⟩ (by kernel_rfl) rfl h3 ?_ ?_))
      ·show kwp Tp _ _ _
       simp only[gotS,yv,boxA,wkQ_normal,evS,Bf,Nat.reduceLT,Nat.reduceEqDiff,reduceCtorEq]
       (repeat' (first|(with_reducible refine aI ?_ ?_)|(first|(first|refine gF ?_ ?_|refine gT ?_ ?_|refine cI ?_ ?_|refine pI ?_ ?_)<;>intro h|(refine dI ?_;have h:=trivial))<;>simp only[h,evS,tyS,Bv,Bf,Nat.reduceAdd,Nat.reduceSub,Nat.reduceMul,Nat.reduceLT,Nat.reduceLeDiff,Nat.reduceEqDiff,reduceCtorEq,List.reduceReplicate,Int.reduceToNat,Int.reduceLE,Int.reduceLT]))
       all_goals first|rfl|exact .inl rfl|trace_state
      ·intro φ4 a4 W4 h4;refine wpIn_cond_true (h4.getv rfl) (wpIn_ret ?_);exact hret a4 W4 h4.defers (.inl (hk▸hJw k W W4 hJk h4.below))
    |cons x rest ih=>
     intro fuel k i a W hitm hfu hi hdr hkN hJk hd hn g0 g1 g3;have hb:=hJb k W hJk;have hsr:=headSR (γ:=γ) hγ2 hb hd hn g0 g1 g3
     have hklt:k<(eachItems l).length:=by
      by_cases h:k<(eachItems l).length
      ·exact h
      ·rw[List.drop_eq_nil_of_le (by omega)]at hdr;cases hdr
     have hitem:itemAt (eachItems l) k=x:=by
      unfold itemAt;rw[List.drop_eq_getElem_cons hklt]at hdr;simp only[List.cons.injEq]at hdr;simp[List.getD,hklt,hdr.1]
     have hdr2:(eachItems l).drop (k+1)=rest:=by
      rw[List.drop_eq_getElem_cons hklt]at hdr;simp only[List.cons.injEq]at hdr;exact hdr.2
     obtain⟨f,t,T,e,hx,hnA,hcase⟩:∃ (f:Nat) (t:TokD) (T:Nat) (e:Int),x=((t,T),e)∧nextA l i=.tup [t.av T,.v (.bool true),.v (.int .i64 e)]∧((e≠0∧rest=[])∨(e=0∧itemsF f l (T+t.size)=rest∧T+t.size≤l.length∧l.length+1≤f+(T+t.size))):=by
      cases fuel with
      |zero=>omega
      |succ f=>
       rw[itemsF]at hitm
       split at hitm
       ·cases hitm
       ·rename_i hT;have hge:=nextT_ge l i
        split at hitm
        ·rename_i e he;cases hitm;refine⟨f,zeroT,nextT l i,e,rfl,?_,.inl ⟨headD_err he,rfl⟩⟩;rw[nextA,if_neg hT,he];rfl
        ·rename_i t ht;cases hitm;have hsz:=headD_size (by rw[Bd];omega) ht;rw[Bd]at hsz;refine⟨f,t,nextT l i,0,rfl,?_,.inr ⟨rfl,rfl,by omega,by omega⟩⟩;rw[nextA,if_neg hT,ht]
     subst hx;rw[roundsIn_succ];refine wpIn_block (wpIn_seq (pieceIn (X:=eachX Tp W Nb (box_lt hb)) (r:=none) (gotS γ l ly true t T e) (by kernel_rfl) rfl hsr ?_ ?_))
     ·show kwp Tp _ _ _
      have hnx:=lexNext_ev hγ false l i hi hl;rw[hnA]at hnx;simp only[headS,boxA,yv,evS,tyS,Nat.reduceLT,Nat.reduceEqDiff,reduceCtorEq]
      (repeat' (first|(with_reducible refine aI ?_ ?_)|(first|(first|refine gF ?_ ?_|refine gT ?_ ?_|refine cI ?_ ?_|refine pI ?_ ?_)<;>intro h|(refine dI ?_;have h:=trivial))<;>simp only[h,evS,tyS,Bv,Bf,Nat.reduceAdd,Nat.reduceSub,Nat.reduceMul,Nat.reduceLT,Nat.reduceLeDiff,Nat.reduceEqDiff,reduceCtorEq,List.reduceReplicate,Int.reduceToNat,Int.reduceLE,Int.reduceLT]))
      refine CallK.intro b31 (by simp[treeL,treeA]) hnx ?_;simp only[TokD.av,tokA,wkQ_normal,gotS,tvals,yv,boxA,evS,tyS,Nat.reduceAdd,Nat.reduceLT,Nat.reduceLeDiff,Nat.reduceEqDiff,reduceCtorEq]
      (repeat' (first|(with_reducible refine aI ?_ ?_)|(first|(first|refine gF ?_ ?_|refine gT ?_ ?_|refine cI ?_ ?_|refine pI ?_ ?_)<;>intro h|(refine dI ?_;have h:=trivial))<;>simp only[h,evS,tyS,Bv,Bf,Nat.reduceAdd,Nat.reduceSub,Nat.reduceMul,Nat.reduceLT,Nat.reduceLeDiff,Nat.reduceEqDiff,reduceCtorEq,List.reduceReplicate,Int.reduceToNat,Int.reduceLE,Int.reduceLT]))
      all_goals first|rfl|exact .inl rfl
     ·intro φ3 a3 W3 h3;refine wpIn_seq (wpIn_seq (wpIn_region ?_));show wpOpsIn (Fr none) 0 Tp _ _ ([0,1,2,3,4,5]++(6::[7,8,9,10,11,12])) a3 W3;refine wpOpsIn_split _ _ _ _ (opsIn (X:=eachX Tp W Nb (box_lt hb)) (preS γ l ly t T e) (by kernel_rfl) rfl [_,_,_,_,_,_] [0,1,2,3,4,5] rfl h3 ?_ ?_)
      ·show kops Tp _ _ _ _
       simp only[gotS,preS,yv,boxA,tvals,TokD.av,tokA,BH,BF,BG,evS,tyS,Bv,Nat.reduceAdd,Nat.reduceLT,Nat.reduceLeDiff,Nat.reduceEqDiff,reduceCtorEq]
       (repeat' (first|(with_reducible refine aI ?_ ?_)|(first|(first|refine gF ?_ ?_|refine gT ?_ ?_|refine cI ?_ ?_|refine pI ?_ ?_)<;>intro h|(refine dI ?_;have h:=trivial))<;>simp only[h,evS,tyS,Bv,Bf,Nat.reduceAdd,Nat.reduceSub,Nat.reduceMul,Nat.reduceLT,Nat.reduceLeDiff,Nat.reduceEqDiff,reduceCtorEq,List.reduceReplicate,Int.reduceToNat,Int.reduceLE,Int.reduceLT]))
       all_goals first|rfl|exact .inl rfl|trace_state
      ·intro φ4 a4 W4 h4;rw[wpOpsIn_cons];have hYk:=hY k W W4 hklt hJk h4.below;simp only[hitem,itemV]at hYk
       have hv:(#[Operand.tmp 24,Operand.tmp 25]:Array Operand).map a4.eval = #[tokV t T,.int .i64 e]:=by
        have e1:a4.tmps.getD 24 undef=tokV t T:=rel_av (h4.slots 24);have e2:a4.tmps.getD 25 undef=.int .i64 e:=h4.getv rfl;rw[List.map_toArray,BA,BA,List.map_nil];show #[a4.tmps.getD 24 undef,a4.tmps.getD 25 undef]=_;rw[e1,e2]
       refine wpOpIn_some rfl ?_ (yield_wpIn rfl (h4.getv rfl) hv hYk ?_)
       ·show (yielded _ a4.tmps 2==some false)=true
        rw[guard_yield h4 (z:=false) rfl]
        rfl
       ·rintro e' W5 (⟨rfl,hJ5,hkept⟩|⟨rfl,hJx5⟩)
        ·refine⟨_,rfl,?_⟩;have hb5:=hJb (k+1) W5 hJ5
         have hc4:∃ v fr,W4.heap[Nb]?=some (.cells #[v] 37 fr):=by
          obtain⟨⟨u,fr,q1,_⟩,_⟩:=hJb k W4 (hJw k W W4 hJk h4.below);exact⟨u,fr,q1⟩
         obtain⟨β,p1,p2,p3,p4⟩:=ptr_own h4 (t:=4) (k:=⟨0,53,(tvals t T).map AV.v⟩) rfl rfl rfl;have hβ5:W5.heap[β]?=W4.heap[β]?:=hkept β p2 p3
         have hlt5:β<W5.heap.size:=by
          by_cases h:β<W5.heap.size
          ·exact h
          ·rw[BQ (by omega)]at hβ5;rw[BP.2 ⟨p3,rfl⟩]at hβ5;cases hβ5
         have h0':a4.tmps.getD 0 undef=.func (.yield ly) #[] #[]:=h4.getv rfl;have h1':a4.tmps.getD 1 undef=.pointer (some ⟨Nb,0,none⟩):=box_ptr (h4.slots 1) hc4;have h6':a4.tmps.getD 6 undef=.int .i64 e:=h4.getv rfl;have h22':a4.tmps.getD 22 undef=.bool false:=h4.getv rfl
         obtain⟨φ5,h5⟩:∃ φ5,SR (eachX Tp W5 Nb (box_lt hb5)) φ5 (postS γ l ly t T e true) (a4.put (some 26) (.bool true)) W5:=by
          have hpre:SR (eachX Tp W5 Nb (box_lt hb5)) [] ⟨⟨38,[(0,yv ly),(1,boxA l),(4,.ela false ((tvals t T).map AV.v)),(6,.v (.int .i64 e)),(22,.v (.bool false))],γ⟩,[]⟩ a4 W5:=by
           refine SR.fresh h4.defers h4.len (fun tt=>?_) (fun k=>gl_rel hγ2 hb5.2 (c:=cx (eachX Tp W5 Nb (box_lt hb5)) [] [] W5) rfl (fun r hr=>⟨hr,by simp,by show ¬False;exact fun h=>h⟩) k)
           by_cases e0:tt=0
           ·subst e0;rw[h0'];show rel (yv ly) _ _;simp only[yv,rel]
           ·by_cases e1:tt=1
            ·subst e1;rw[h1'];exact box_rel hb5
            ·by_cases e4:tt=4
             ·subst e4;rw[p1];show rel (.ela false ((tvals t T).map AV.v)) _ _;rw[rel];refine⟨β,0,rfl,⟨hlt5,by simp,by show ¬False;exact fun h=>h⟩,?_⟩;refine cells_vs (c:=cx (eachX Tp W Nb (box_lt hb)) φ4 [⟨0,53,(tvals t T).map AV.v⟩] W4) (fun off=>?_) (tvals t T) 0 p4;show W5.cell? ⟨β,off,none⟩=W4.cell? ⟨β,off,none⟩;unfold World.cell?;simp only[hβ5]
             ·by_cases e6:tt=6
              ·subst e6;rw[h6'];show rel (.v (.int .i64 e)) _ _;simp only[rel]
              ·by_cases e22:tt=22
               ·subst e22;rw[h22'];show rel (.v (.bool false)) _ _;simp only[rel]
               ·have:Go.Ev.look [(0,yv ly),(1,boxA l),(4,AV.ela false ((tvals t T).map AV.v)),(6,AV.v (.int .i64 e)),(22,AV.v (.bool false))] tt=.bad:=by
                 simp only[Go.Ev.look];rw[if_neg (fun e=>e0 e.symm),if_neg (fun e=>e1 e.symm),if_neg (fun e=>e4 e.symm),if_neg (fun e=>e6 e.symm),if_neg (fun e=>e22 e.symm)]
                rw[this];simp only[rel]
          have:=hpre.put (some 26) (r:=.v (.bool true)) (u:=.bool true) (by simp only[rel]);exact this.weak (s2:=postS γ l ly t T e true) rfl (by simp only[postS,yv,boxA,tvals,evS];(repeat' (first|(with_reducible refine aI ?_ ?_)|(first|(first|refine gF ?_ ?_|refine gT ?_ ?_|refine cI ?_ ?_|refine pI ?_ ?_)<;>intro h|(refine dI ?_;have h:=trivial))<;>simp only[h,evS,tyS,Bv,Bf,Nat.reduceAdd,Nat.reduceSub,Nat.reduceMul,Nat.reduceLT,Nat.reduceLeDiff,Nat.reduceEqDiff,reduceCtorEq,List.reduceReplicate,Int.reduceToNat,Int.reduceLE,Int.reduceLT]));all_goals first|rfl|exact .inl rfl)
         refine wpOps_end (opsIn (X:=eachX Tp W5 Nb (box_lt hb5)) (endS32 γ l ly t T (e != 0)) (by kernel_rfl) rfl [_,_,_,_,_,_] [7,8,9,10,11,12] rfl h5 ?_ ?_)
         ·show kops Tp _ _ _ _
          simp only[postS,endS32,yv,boxA,tvals,BH,BF,BG,evS,Bv,Nat.reduceLT,Nat.reduceEqDiff,reduceCtorEq]
          (repeat' (first|(with_reducible refine aI ?_ ?_)|(first|(first|refine gF ?_ ?_|refine gT ?_ ?_|refine cI ?_ ?_|refine pI ?_ ?_)<;>intro h|(refine dI ?_;have h:=trivial))<;>simp only[h,evS,tyS,Bv,Bf,Nat.reduceAdd,Nat.reduceSub,Nat.reduceMul,Nat.reduceLT,Nat.reduceLeDiff,Nat.reduceEqDiff,reduceCtorEq,List.reduceReplicate,Int.reduceToNat,Int.reduceLE,Int.reduceLT]))
          all_goals first|rfl|exact .inl rfl|trace_state
         ·intro φ6 a6 W6 h6;have hJ6:=hJw (k+1) W5 W6 hJ5 h6.below;have hc:a6.eval (.tmp 32)=.bool (e != 0):=h6.getv rfl
          rcases hcase with⟨he,hrest⟩|⟨he,hrest,hle,hfu2⟩
          ·have hne:(e != 0)=true:=by simpa using he
           rw[hne]at hc;refine wpIn_cond_true hc (wpIn_ret ?_)
           have hkN2:k+1=(eachItems l).length:=by
            rw[hrest]at hdr2;have:=List.drop_eq_nil_iff.1 hdr2
            omega
           exact hret a6 W6 h6.defers (.inl (hkN2▸hJ6))
          ·have hne:(e != 0)=false:=by rw[he];rfl
           rw[hne]at hc;refine wpIn_cond_false hc (wpIn_skip ?_);have ew:IntKind.i64.wrap ((T:Int)+(t.size:Int))=((T+t.size:Nat):Int):=i64w (by omega) (by omega);refine pieceInB 1 (X:=eachX Tp W5 Nb (box_lt hb5)) (r:=none) (headS γ l ly Nb (T+t.size)) (by kernel_rfl) rfl h6 ?_ ?_
           ·show kwp Tp _ _ _
            simp only[endS32,headS,yv,boxA,tvals,wkQ_normal,ew,BA,List.map_nil,List.drop_succ_cons,List.drop_zero,take1_cons,evS,tyS,Nat.reduceAdd,Nat.reduceLT,Nat.reduceLeDiff,Nat.reduceEqDiff,reduceCtorEq]
            (repeat' (first|(with_reducible refine aI ?_ ?_)|(first|(first|refine gF ?_ ?_|refine gT ?_ ?_|refine cI ?_ ?_|refine pI ?_ ?_)<;>intro h|(refine dI ?_;have h:=trivial))<;>simp only[h,evS,tyS,Bv,Bf,Nat.reduceAdd,Nat.reduceSub,Nat.reduceMul,Nat.reduceLT,Nat.reduceLeDiff,Nat.reduceEqDiff,reduceCtorEq,List.reduceReplicate,Int.reduceToNat,Int.reduceLE,Int.reduceLT]))
            all_goals first|rfl|exact .inl rfl|trace_state
           ·intro φ7 a7 W7 h7;have hJ7:=hJw (k+1) W5 W7 hJ5 h7.below
            have hc7:∃ v fr,W7.heap[Nb]?=some (.cells #[v] 37 fr):=by
             obtain⟨⟨u,fr,q1,_⟩,_⟩:=hJb (k+1) W7 hJ7;exact⟨u,fr,q1⟩
            exact ih f (k+1) (T+t.size) a7 W7 hrest hfu2 hle hdr2 (by omega) hJ7 h7.defers h7.len (h7.getv rfl) (box_ptr (h7.slots 1) hc7) (h7.getv rfl)
        ·refine⟨_,rfl,?_⟩;have h6':a4.tmps.getD 6 undef=.int .i64 e:=h4.getv rfl;have h22':a4.tmps.getD 22 undef=.bool false:=h4.getv rfl
         obtain⟨φ5,h5⟩:∃ φ5,SR (freshX Tp W5 (fun _=>False) (fun _ h=>h.elim)) φ5 ⟨⟨38,[(6,.v (.int .i64 e)),(22,.v (.bool false)),(26,.v (.bool false))],[]⟩,[]⟩ (a4.put (some 26) (.bool false)) W5:=by
          have hpre:SR (freshX Tp W5 (fun _=>False) (fun _ h=>h.elim)) [] ⟨⟨38,[(6,.v (.int .i64 e)),(22,.v (.bool false))],[]⟩,[]⟩ a4 W5:=by
           refine SR.fresh h4.defers h4.len (fun tt=>?_) (fun k=>⟨rfl,by show rel .bad _ _;simp only[rel]⟩)
           by_cases e6:tt=6
           ·subst e6;rw[h6'];show rel (.v (.int .i64 e)) _ _;simp only[rel]
           ·by_cases e22:tt=22
            ·subst e22;rw[h22'];show rel (.v (.bool false)) _ _;simp only[rel]
            ·have:Go.Ev.look [(6,AV.v (.int .i64 e)),(22,AV.v (.bool false))] tt=.bad:=by
              simp only[Go.Ev.look];rw[if_neg (fun e=>e6 e.symm),if_neg (fun e=>e22 e.symm)]
             rw[this];simp only[rel]
          have:=hpre.put (some 26) (r:=.v (.bool false)) (u:=.bool false) (by simp only[rel]);exact this.weak rfl (by simp only[evS];(repeat' (first|(with_reducible refine aI ?_ ?_)|(first|(first|refine gF ?_ ?_|refine gT ?_ ?_|refine cI ?_ ?_|refine pI ?_ ?_)<;>intro h|(refine dI ?_;have h:=trivial))<;>simp only[h,evS,tyS,Bv,Bf,Nat.reduceAdd,Nat.reduceSub,Nat.reduceMul,Nat.reduceLT,Nat.reduceLeDiff,Nat.reduceEqDiff,reduceCtorEq,List.reduceReplicate,Int.reduceToNat,Int.reduceLE,Int.reduceLT]));all_goals first|rfl|exact .inl rfl)
         refine wpOps_end (opsIn (X:=freshX Tp W5 (fun _=>False) (fun _ h=>h.elim)) ⟨⟨38,[(32,.v (.bool true))],[]⟩,[]⟩ (by kernel_rfl) rfl [_,_,_,_,_,_] [7,8,9,10,11,12] rfl h5 ?_ ?_)
         ·show kops Tp _ _ _ _
          simp only[BH,BF,BG,evS,Bf,Nat.reduceLT,Nat.reduceEqDiff]
          (repeat' (first|(with_reducible refine aI ?_ ?_)|(first|(first|refine gF ?_ ?_|refine gT ?_ ?_|refine cI ?_ ?_|refine pI ?_ ?_)<;>intro h|(refine dI ?_;have h:=trivial))<;>simp only[h,evS,tyS,Bv,Bf,Nat.reduceAdd,Nat.reduceSub,Nat.reduceMul,Nat.reduceLT,Nat.reduceLeDiff,Nat.reduceEqDiff,reduceCtorEq,List.reduceReplicate,Int.reduceToNat,Int.reduceLE,Int.reduceLT]))
          all_goals first|rfl|exact .inl rfl|trace_state
         ·intro φ6 a6 W6 h6;refine wpIn_cond_true (h6.getv rfl) (wpIn_ret ?_);exact hret a6 W6 h6.defers (.inr (hJxw W5 W6 hJx5 h6.below))
theorem each13(r off n cap:Nat)(w:World):Calls Tp 112 #[.slice (some ⟨r,off,none⟩) n cap] w fun e w'=>∃ N,e=.returned (.func (.func 182) #[] #[.pointer (some ⟨N,0,none⟩)])∧w'.heap[N]?=some (.cells #[.slice (some ⟨r,off,none⟩) n cap] 37 (0,0))∧w.heap.size≤N∧Below w.heap.size w w':=by
 go_enter Tryz.func112,Tryz.ntmps112
 go_wp2
 go_ret
 exact⟨_,rfl,Go.Ev.heap_alloc_new w _,BL _,(Below.refl _ w).alloc (BL _) _⟩
def tokCells(x:TokD×Nat):List AV:=(tvals x.1 x.2).map AV.v
def listCells(L:List (TokD×Nat)):List AV:=(L.map tokCells).flatten
def listA:List (TokD×Nat)→AV
 |[]=>.v (.slice none 0 0)
 |L=>.sl false L.length L.length (listCells L)
def badI(x:(TokD×Nat)×Int):Bool:=decide (x.2≠0)
def scanAL(L:List ((TokD×Nat)×Int)):AV:=
 match L.find? badI with
 |none=>.tup [listA (L.map fun x=>x.1),.v (.int .i64 0),.v (.int .i64 0)]
 |some x=>.tup [.v (.slice none 0 0),.v (.int .i64 x.1.2),.v (.int .i64 x.2)]
def scanA(l:List UInt8):AV:=scanAL (eachItems l)
def base4(out:AV):List ABlk:=[⟨0,48,[.v (.slice none 0 0)]⟩,⟨0,3,[.v (.int .i64 0)]⟩,⟨0,26,[.v (.int .i64 0)]⟩,⟨0,48,[out]⟩]
def scanH:List (TokD×Nat)→List ABlk
 |[]=>base4 (.v (.slice none 0 0))
 |x::L=>base4 (.own 6 L.length (x::L).length)++[⟨0,53,tokCells x⟩,⟨0,53,tokCells x⟩,⟨L.length,53,listCells (x::L)⟩]
def scanS(γ:List (Nat×AV))(l:List UInt8)(b:Bool):Slots:=⟨22,[(0,.sl b l.length l.length (l.map byteC)),(2,.ptr 0 0 0),(3,.ptr 1 0 0),(4,.ptr 2 0 0),(5,.ptr 3 0 0)],γ⟩
def scanHf(L:List ((TokD×Nat)×Int))(k:Nat):List ABlk:=if (L.find? badI).isSome=true∧k=L.length then []else scanH ((L.take k).map fun x=>x.1)
theorem itemsF_ok:∀ (f:Nat) (l:List UInt8) (i:Nat) (k:Nat),k+1<(itemsF f l i).length→(itemAt (itemsF f l i) k).2=0
 |0,_,_,_,h=>by simp[itemsF]at h
 |f+1,l,i,k,h=>by
  rw[itemsF]at h⊢
  split at h
  ·simp at h
  ·rename_i hT;rw[if_neg hT]
   split at h
   ·rename_i e he;simp at h
   ·rename_i t ht;cases k with
    |zero=>rfl
    |succ k=>
     simp only[BC]at h;exact itemsF_ok f l _ k (by omega)
theorem items_ok(l:List UInt8)(k:Nat)(h:k+1<(eachItems l).length):(itemAt (eachItems l) k).2=0:=by
 unfold eachItems at h⊢
 split at h
 ·simp at h
 ·rename_i hb;rw[if_neg hb];exact itemsF_ok _ _ _ _ h
theorem find_first{L:List ((TokD×Nat)×Int)}{k:Nat}(hk:k<L.length)(hok:∀ j,j+1<L.length→(itemAt L j).2=0):(badI (itemAt L k)=true→L.find? badI=some (itemAt L k))∧(badI (itemAt L k)=false→k+1=L.length→L.find? badI=none):=by
 have hget:∀ j (h:j<L.length),itemAt L j=L[j]:=fun j h=>by simp[itemAt,List.getD,h]
 constructor
 ·intro hb
  have hk1:k+1=L.length:=by
   by_cases h:k+1<L.length
   ·have:=hok k h;simp[badI,this]at hb
   ·omega
  rw[List.find?_eq_some_iff_getElem];refine⟨hb,k,hk,(hget k hk).symm,fun j hj=>?_⟩;have:=hok j (by omega);rw[hget j (by omega)]at this;simp[badI,this]
 ·intro hb hk1;rw[List.find?_eq_none];intro x hx;obtain⟨j,hj,rfl⟩:=List.getElem_of_mem hx
  by_cases h:j+1<L.length
  ·have:=hok j h;rw[hget j hj]at this;simp[badI,this]
  ·have:j=k:=by omega
   subst this;rw[←hget j hj,hb]
   decide
theorem take_item{L:List ((TokD×Nat)×Int)}{k:Nat}(hk:k<L.length):(L.take (k+1)).map (fun x=>x.1)=(L.take k).map (fun x=>x.1)++[(itemAt L k).1]:=by
 have hget:itemAt L k=L[k]:=by simp[itemAt,List.getD,hk]
 rw[hget,List.take_add_one,List.map_append,List.getElem?_eq_getElem hk]
 rfl
theorem pieceP{P:Program}{X:Fix}{φ:List Nat}{st:St}{a:Act}{w:World}{r:Option Nat}{n:Nat}{c:Code}(hP:X.P=P)(S:St){N:Act→World→Prop}{Q:Exit→Act→World→Prop}(hp:plainC c=true)(h0:X.c0=none)(hs:SR X φ st a w)(hk:kwp P c (wkQ S) st)
  (hnext:∀ φ' a' w',SR X φ' S a' w'→N a' w'):c.wpIn (Fr r) n P (Exit.then N Q) a w:=by
 subst hP;exact pieceIn S hp h0 hs hk hnext
theorem opsP{P:Program}{X:Fix}{φ:List Nat}{st:St}{a:Act}{w:World}{n:Nat}{ops:Array Oper}(hP:X.P=P)(S:St){N:Act→World→Prop}(hnd:ops.all nd=true)(h0:X.c0=none)(os:List Oper)(is:List Nat)(he:is.map (ops[·]?)=os.map some)(hs:SR X φ st a w)(hk:kops P ops os (fun s=>s.weak S) st)
  (hnext:∀ φ' a' w',SR X φ' S a' w'→N a' w'):wpOpsIn (Fr none) n P ops (onlyN N) is a w:=by
 subst hP;exact opsIn S hnd h0 os is he hs hk hnext
theorem call_wpIn{r:Option Nat}{n:Nat}{P:Program}{o:Oper}{a:Act}{w:World}{g:Nat}{args:Array Operand}{ts:Array TypeId}{vs:Array Value}{R:Ending→World→Prop}{N:Act→World→Prop}{Q:Exit→Act→World→Prop}
  (ho:o.op=.call { callee:=.value (.func g),args:=args,argTypes:=ts }) (hvs:args.map a.eval=vs) (he:∀ args w,(callFunc g args).run P w=.ok (.enter g args) w) (hC:Calls P g vs w R)
  (hR:∀ e w',R e w'→∃ v,e=.returned v∧N (a.put o.dst v) w'):o.wpIn (Fr r) n P a w N Q:=by
 refine operIn (N:=N) (by simp[nd,ho]) (fun _ _ h=>h) ?_;unfold Oper.wp
 have hrun:(execOp a.eval o).run P w=.ok (.enter g vs) w:=by
  unfold execOp;rw[ho];have hf:a.eval (.func g)=.func (.func g) #[] #[]:=rfl;simp only[resolve,hf];simp[go_sem,invoke,hvs,he]
 rw[hrun];refine Calls.mono hC ?_;intro e w' h;obtain⟨v,rfl,h2⟩:=hR e w' h;exact h2
def scanQ(S:Slots)(h:List ABlk)(res:AV):Post
 |.normal,s=>s=⟨S,h⟩
 |.ret,s=>endS Tp [.cell 2 48,.cell 3 3,.cell 4 26] res .ret s
 |_,_=>False
def retQ(res:AV):Post
 |.ret,s=>endS Tp [.cell 2 48,.cell 3 3,.cell 4 26] res .ret s
 |_,_=>False
theorem retQ_ret(res:AV)(s:St):retQ res .ret s=endS Tp [.cell 2 48,.cell 3 3,.cell 4 26] res .ret s:=rfl
theorem kwp_soundP{P:Program}{X:Fix}{n:Nat}{r:Option Nat}(hP:X.P=P)(c:Code)(Q:Post){φ:List Nat}{st:St}{a:Act}{w:World}(hp:plainC c=true)(hs:SR X φ st a w)(h:kwp P c Q st):c.wpIn (Fr r) n P (Qx X Q) a w:=by
 subst hP;exact kwp_soundIn c Q hp hs h
theorem scanQ_ret(S:Slots)(h:List ABlk)(res:AV)(s:St):scanQ S h res .ret s=endS Tp [.cell 2 48,.cell 3 3,.cell 4 26] res .ret s:=rfl
theorem roundQ_ret(I:Prop)(S:Slots)(H:List ABlk)(Q:Post)(s:St):roundQ I S H Q .ret s=Q .ret ⟨S,s.h⟩:=rfl
theorem roundQ_normal(I:Prop)(S:Slots)(H:List ABlk)(Q:Post)(s:St):roundQ I S H Q .normal s=(I∧(⟨S,s.h⟩:St).weak ⟨S,H⟩):=rfl
theorem assignQ_normal(P:Program)(body:Code)(R:Post)(s:St):assignQ P body R .normal s=kwp P body R s:=rfl
theorem range_ruleP{P:Program}{X:Fix}{φ:List Nat}{st:St}{a:Act}{w:World}{n:Nat}(hP:X.P=P)(hs:SR X φ st a w)(h0:X.c0=none)
  {g:Operand} {p q:Tmp} {assign body:Code} (hpa:plainC assign=true) (hpb:plainC body=true)
  {gf:Nat} {lb:Array Value} (hg:a.eval g=.func (.func gf) #[] lb) (eg:∀ args w,(callFunc gf args).run P w=.ok (.enter gf args) w)
  (N:Nat) (item:Nat→Value×Value) {base:World→Prop} (hseq:SeqC P gf lb N (fun k=> #[(item k).1,(item k).2]) base)
  (S:Slots) (H:Nat→List ABlk) (inv:Nat→Prop) (hi0:inv 0) (hw:st.weak ⟨S,H 0⟩)
  (hbase:∀ (X':Fix) (φ':List Nat) (k:Nat) (a':Act) (W:World),X'.P=P→X'.G=X.G→X'.B=X.B→(∀ p∈X.K,W.heap[p.1]?=some p.2)→a'.tmps=a.tmps→SR X' φ' ⟨S,H k⟩ a' W→base W)
  (xs ys:Nat→AV) (hx:∀ k,k<N→∀ c,rel (xs k) c (item k).1∧rel (ys k) c (item k).2)
  {Q:Post} (hround:∀ k,k<N→inv k→kwp P assign (assignQ P body (roundQ (inv (k+1)) S (H (k+1)) Q)) ⟨putS (putS S (some p) (xs k)) (some q) (ys k),H k⟩)
  (hdone:inv N→Q .normal ⟨S,H N⟩) :
  (Code.rangeFunc g #[p,q] assign body).wpIn (Fr none) n P (QM X Q) a w:=by
 subst hP;exact range_rule hs h0 hpa hpb hg eg N item hseq S H inv hi0 hw hbase xs ys hx hround hdone
def scanS8(γ:List (Nat×AV))(l:List UInt8)(b:Bool):Slots:=⟨22,(8,.sl b l.length l.length (l.map byteC))::(scanS γ l b).l,γ⟩
theorem anyK_succ{P:Program}{ops:Array Oper}{K:St→Prop}{f:Nat}{listed:Array Bool}{s:St}(h0:(Region.ready .any ops listed).isEmpty=false)
  (h:∀ i∈List.range ops.size,(Region.ready .any ops listed).contains i=true→∃ o,ops[i]?=some o∧o.guard=none∧kop P o (fun s'=>anyK P ops K f (listed.setIfInBounds i true) s') s):anyK P ops K (f+1) listed s:=
 ⟨(fun e=>by rw[e]at h0;cases h0),h⟩
theorem all6{p:Nat→Prop}(h0:p 0)(h1:p 1)(h2:p 2)(h3:p 3)(h4:p 4)(h5:p 5):∀ i∈List.range 6,p i:=by
 intro i hi;have:=List.mem_range.1 hi
 match i,this with
 |0,_=>exact h0
 |1,_=>exact h1
 |2,_=>exact h2
 |3,_=>exact h3
 |4,_=>exact h4
 |5,_=>exact h5
theorem okRefL_vs(n:Nat):∀ vs:List Value,okRefL n (vs.map AV.v)=true
 |[]=>rfl
 |x::vs=>by rw[BA,okRefL,okRefL_vs n vs];rfl
theorem okRefL_app(n:Nat):∀ a b:List AV,okRefL n (a++b)=(okRefL n a&&okRefL n b)
 |[],b=>by simp[okRefL]
 |x::a,b=>by rw[Bc,okRefL,okRefL,okRefL_app n a b,Bool.and_assoc]
theorem okRefL_list(n:Nat):∀ L:List (TokD×Nat),okRefL n (listCells L)=true
 |[]=>rfl
 |x::L=>by
  have:=okRefL_list n L;unfold listCells at *;rw[BA,List.flatten_cons,okRefL_app,this];rw[show tokCells x=(tvals x.1 x.2).map AV.v from rfl,okRefL_vs];rfl
theorem okRefL_bytes(n:Nat):∀ l:List UInt8,okRefL n (l.map byteC)=true
 |[]=>rfl
 |x::l=>by rw[BA,okRefL,okRefL_bytes n l];rfl
theorem listCells_vs:∀ L:List (TokD×Nat),listCells L=(L.map fun x=>tvals x.1 x.2).flatten.map AV.v
 |[]=>rfl
 |x::L=>by
  have:=listCells_vs L;unfold listCells at *;rw[BA,List.flatten_cons,BA,List.flatten_cons,List.map_append,←this]
  rfl
theorem fzL_vs{P:Program}{H:List ABlk}{b:Bool}:∀ vs:List Value,fzL P H b (vs.map AV.v) (vs.map AV.v)
 |[]=>by simp only[List.map_nil,fzL]
 |x::vs=>by
  rw[BA,fzL];exact⟨_,_,rfl,by simp only[fz],fzL_vs vs⟩
theorem fzL_list{P:Program}{H:List ABlk}{b:Bool}(L:List (TokD×Nat)):fzL P H b (listCells L) (listCells L):=by
 rw[listCells_vs];exact fzL_vs _
theorem itemsF_len:∀ (f:Nat) (l:List UInt8) (i:Nat),(itemsF f l i).length≤f
 |0,_,_=>BL _
 |f+1,l,i=>by
  rw[itemsF]
  split
  ·exact BN _
  ·split
   ·show 1≤f+1;omega
   ·have h2:=itemsF_len f l;simp only[BC];exact Nat.succ_le_succ (h2 _)
theorem items_len(l:List UInt8):(eachItems l).length≤32769:=by
 unfold eachItems
 split
 ·decide
 ·have:=itemsF_len (l.length+1) l 0;omega
theorem listCells_len:∀ (L:List (TokD×Nat)),(listCells L).length=L.length * 6
 |[]=>rfl
 |x::L=>by
  have:=listCells_len L;unfold listCells at *;rw[BA,List.flatten_cons,Bp,this];simp[tokCells,tvals];omega
theorem listCells_app(L:List (TokD×Nat))(x:TokD×Nat):listCells (L++[x])=listCells L++tokCells x:=by simp[listCells]
set_option maxRecDepth 20000 in
theorem lexScan_ev(hγ:Gl γ)(hγ2:GlW γ)(b:Bool)(l:List UInt8)(hl:l.length≤140737488351232):
  Ev Tp γ 58 [.sl b l.length l.length (l.map byteC)] (scanA l):=by
 refine Ev.of_wpM Tryz.func58 rfl ?_;intro X hP hc0 hXK hXdf a w hs;have hnt:Tryz.f58.ntmps=22:=by kernel_rfl
 rw[hnt]at hs;refine wpIn_seq (pieceP hP (r:=none) ⟨⟨22,[(0,.sl b l.length l.length (l.map byteC)),(2,.ptr 0 0 0),(3,.ptr 1 0 0),(4,.ptr 2 0 0)],γ⟩,[⟨0,48,[.v (.slice none 0 0)]⟩,⟨0,3,[.v (.int .i64 0)]⟩,⟨0,26,[.v (.int .i64 0)]⟩]⟩ (by kernel_rfl) hc0 hs ?_ ?_)
 ·simp only[startA,idxL,wkQ_normal,evS,tyS,Nat.reduceAdd,Nat.reduceSub,Nat.reduceLT,Nat.reduceEqDiff,reduceCtorEq]
  (repeat' (first|(with_reducible refine aI ?_ ?_)|(first|(first|refine gF ?_ ?_|refine gT ?_ ?_|refine cI ?_ ?_|refine pI ?_ ?_)<;>intro h|(refine dI ?_;have h:=trivial))<;>simp only[h,evS,tyS,Bv,Bf,Nat.reduceAdd,Nat.reduceSub,Nat.reduceMul,Nat.reduceLT,Nat.reduceLeDiff,Nat.reduceEqDiff,reduceCtorEq,List.reduceReplicate,Int.reduceToNat,Int.reduceLE,Int.reduceLT]))
  all_goals first|rfl|exact .inl rfl|trace_state
 ·intro φ1 a1 w1 h1;refine wpIn_seq (pieceP hP (r:=none) ⟨scanS γ l b,base4 (.v (.slice none 0 0))⟩ (by kernel_rfl) hc0 h1 ?_ ?_)
  ·simp only[scanS,base4,wkQ_normal,evS,tyS,Nat.reduceAdd,Nat.reduceLT,Nat.reduceEqDiff,reduceCtorEq]
   (repeat' (first|(with_reducible refine aI ?_ ?_)|(first|(first|refine gF ?_ ?_|refine gT ?_ ?_|refine cI ?_ ?_|refine pI ?_ ?_)<;>intro h|(refine dI ?_;have h:=trivial))<;>simp only[h,evS,tyS,Bv,Bf,Nat.reduceAdd,Nat.reduceSub,Nat.reduceMul,Nat.reduceLT,Nat.reduceLeDiff,Nat.reduceEqDiff,reduceCtorEq,List.reduceReplicate,Int.reduceToNat,Int.reduceLE,Int.reduceLT]))
   all_goals first|rfl|exact .inl rfl|trace_state
  ·intro φ2 a2 w2 h2;have hb2:=h2.below;refine wpIn_seq (wpIn_seq (wpIn_region ?_));show wpOpsIn (Fr none) 0 Tp _ _ ([0]++(1::[])) a2 w2;refine wpOpsIn_split _ _ _ _ (opsP hP ⟨scanS8 γ l b,base4 (.v (.slice none 0 0))⟩ (by kernel_rfl) hc0 [_] [0] rfl h2 ?_ ?_)
   ·simp only[scanS8,scanS,base4,BH,BF,evS,Nat.reduceAdd,Nat.reduceLT,Nat.reduceEqDiff,reduceCtorEq]
    (repeat' (first|(with_reducible refine aI ?_ ?_)|(first|(first|refine gF ?_ ?_|refine gT ?_ ?_|refine cI ?_ ?_|refine pI ?_ ?_)<;>intro h|(refine dI ?_;have h:=trivial))<;>simp only[h,evS,tyS,Bv,Bf,Nat.reduceAdd,Nat.reduceSub,Nat.reduceMul,Nat.reduceLT,Nat.reduceLeDiff,Nat.reduceEqDiff,reduceCtorEq,List.reduceReplicate,Int.reduceToNat,Int.reduceLE,Int.reduceLT]))
    all_goals first|rfl|exact .inl rfl|trace_state
   ·intro φ3 a3 w3 h3;rw[wpOpsIn_cons];have h8:=h3.slots 8;have h8':rel (.sl b l.length l.length (l.map byteC)) (cx X φ3 (base4 (.v (.slice none 0 0))) w3) (a3.tmps.getD 8 undef):=h8;simp only[rel]at h8';obtain⟨r,off,cap,e8,n1,n2,n3,n4⟩:=h8';refine wpOpIn_some rfl rfl (call_wpIn (vs:= #[.slice (some ⟨r,off,none⟩) l.length cap]) rfl ?_ (enters_of Tryz.func112 (by kernel_rfl) rfl) (each13 r off l.length cap w3) ?_)
    ·rw[List.map_toArray,BA,List.map_nil];show #[a3.tmps.getD 8 undef]=_;rw[e8]
    ·rintro e' w4 ⟨Nb,rfl,hbox,hNb,hbel⟩
     refine⟨_,rfl,?_⟩;have hput:=(h3.world hbel).put (some 9) (r:=.bad) (u:=.func (.func 182) #[] #[.pointer (some ⟨Nb,0,none⟩)]) (by simp only[rel]);have hlen4:9<a3.tmps.size:=by have:=h3.len;rw[this];show 9<22;decide
     obtain⟨a4,ha4⟩:∃ a4,a4=a3.put (some 9) (.func (.func 182) #[] #[.pointer (some ⟨Nb,0,none⟩)]):=⟨_,rfl⟩;have h49:a4.eval (.tmp 9)=.func (.func 182) #[] #[.pointer (some ⟨Nb,0,none⟩)]:=by rw[ha4];show (a3.put _ _).tmps.getD 9 undef=_;simp[Act.put,hlen4]
     have h48:a4.tmps.getD 8 undef=.slice (some ⟨r,off,none⟩) l.length cap:=by rw[ha4,←e8];simp[Act.put]
     rw[←ha4]at hput
     have h5:SR (X.with [(Nb,.cells #[.slice (some ⟨r,off,none⟩) l.length cap] 37 (0,0))] [] none) φ3 ⟨scanS8 γ l b,base4 (.v (.slice none 0 0))⟩ a4 w4:=by
      refine hput.move (Below.refl _ _) (fun r _=>.inl rfl) (by rw[hput.defers,hXdf]) hput.len hput.gl_le (fun c' hc t=>?_) ?_ ?_ (fun c c' h=>by cases h)
      ·by_cases e9:t=9
       ·subst e9;show rel .bad _ _;simp only[rel]
       ·have:=hput.slots_le c' hc t
        have hl:Go.Ev.look (putS (scanS8 γ l b) (some 9) .bad).l t=Go.Ev.look (scanS8 γ l b).l t:=by
         have e10:putS (scanS8 γ l b) (some 9) .bad=⟨22,(9,.bad)::(scanS8 γ l b).l,γ⟩:=rfl;rw[e10];simp only[Go.Ev.look];rw[if_neg (fun e=>e9 e.symm)]
        rw[←hl];exact this
      ·intro p hp;simp only[Bj]at hp;subst hp;exact hbox
      ·intro p hp hm;simp only[Bj]at hp;subst hp;have:=(h3.rng _ hm).2
       omega
     show Code.wpIn (Fr none) 0 Tp _ _ (a3.put (some 9) (.func (.func 182) #[] #[.pointer (some ⟨Nb,0,none⟩)])) w4
     rw[←ha4]
     refine wpIn_block (wpIn_mono (range_ruleP (X:=X.with [(Nb,.cells #[.slice (some ⟨r,off,none⟩) l.length cap] 37 (0,0))] [] none) (Q:=scanQ (scanS8 γ l b) (scanHf (eachItems l) (eachItems l).length) (scanA l)) hP h5 rfl (by kernel_rfl) (by kernel_rfl) h49 (enters_of Tryz.func182 (by kernel_rfl) rfl) (eachItems l).length (fun k=>itemV (itemAt (eachItems l) k)) (each_seq hγ hγ2 l hl Nb)
      (scanS8 γ l b) (scanHf (eachItems l)) (fun _=>True) trivial ?_ ?_ (fun k=>(itemAt (eachItems l) k).1.1.av (itemAt (eachItems l) k).1.2) (fun k=>.v (.int .i64 (itemAt (eachItems l) k).2)) (fun k _ c=>⟨rel_tokV _ _ c,by simp only[rel,itemV]⟩) ?_ (fun _=>rfl)) ?_)
     ·have e0:scanHf (eachItems l) 0=base4 (.v (.slice none 0 0)):=by
       unfold scanHf;rw[if_neg]
       ·rfl
       ·rintro⟨h1,h2⟩
        rw[List.length_eq_zero_iff.1 h2.symm]at h1;simp at h1
      rw[e0];simp only[scanS8,scanS,base4,evS,Nat.reduceAdd,Nat.reduceEqDiff,reduceCtorEq]
      (repeat' (first|(with_reducible refine aI ?_ ?_)|(first|(first|refine gF ?_ ?_|refine gT ?_ ?_|refine cI ?_ ?_|refine pI ?_ ?_)<;>intro h|(refine dI ?_;have h:=trivial))<;>simp only[h,evS,tyS,Bv,Bf,Nat.reduceAdd,Nat.reduceSub,Nat.reduceMul,Nat.reduceLT,Nat.reduceLeDiff,Nat.reduceEqDiff,reduceCtorEq,List.reduceReplicate,Int.reduceToNat,Int.reduceLE,Int.reduceLT]))
      all_goals first|rfl|exact .inl rfl
     ·intro X' φ' k a' W hP' hG hB hK ht hsr;refine⟨⟨_,_,hK _ (Bj.2 rfl),?_⟩,gl_of_rel (c:=cx X' φ' (scanHf (eachItems l) k) W) rfl (fun r hr=>hr.1) (fun k=>(hsr.gl k).2)⟩;have:=hsr.slots 8;rw[ht,h48]at this;exact rel_bytes (c:=cx X' φ' (scanHf (eachItems l) k) W) (c':=allX Tp W) (b:=b) (b':=false) rfl (fun r hr=>⟨hr.1,by show ¬False;exact fun h=>h⟩) this
     ·intro k hk _;show kwp Tp _ _ ⟨⟨22,(11,_)::(10,_)::(scanS8 γ l b).l,γ⟩,_⟩;obtain⟨hf1,hf2⟩:=find_first hk (fun j hj=>items_ok l j hj);have hHk:scanHf (eachItems l) k=scanH (((eachItems l).take k).map fun x=>x.1):=by unfold scanHf;rw[if_neg (by omega)]
      rw[hHk];have hti:=take_item hk
      have hcount:(((eachItems l).take k).map (fun x=>x.1)).length≤32769:=by
       rw[Bk,Bh];have:=items_len l;omega
      generalize ((eachItems l).take k).map (fun x=>x.1)=toks at hti hcount⊢;obtain⟨⟨⟨t,pos⟩,e⟩,hx⟩:∃ x,x=itemAt (eachItems l) k:=⟨_,rfl⟩;rw[←hx]at hf1 hf2 hti⊢;have t25:aggT Tp 26=some false:=by kernel_rfl
      cases hbad:badI ((t,pos),e)with
      |true=>
       have hres:scanA l=.tup [.v (.slice none 0 0),.v (.int .i64 pos),.v (.int .i64 e)]:=by unfold scanA scanAL;rw[hf1 hbad]
       rw[hres];have hne:(e != 0)=true:=by have:=of_decide_eq_true hbad;simpa using this
       cases toks with
       |nil=>
        simp only[scanH,base4,scanS8,scanS,TokD.av,tokA,assignQ_normal,hne,evS,tyS,Nat.reduceAdd,Nat.reduceLT,Nat.reduceLeDiff,Nat.reduceEqDiff,reduceCtorEq];refine DrawK.any (by kernel_rfl) ?_;show anyK _ _ _ 6 _ _
        all_goals (refine anyK_succ (by decide +kernel) (all6 ?_ ?_ ?_ ?_ ?_ ?_)<;>first|exact notReady (by decide +kernel)|(intro _;refine⟨_,rfl,rfl,?_⟩;simp only[BH,BF,BG,evS,tyS,Nat.reduceLT,Nat.reduceLeDiff,Nat.reduceEqDiff,reduceCtorEq]))
        all_goals (refine anyK_succ (by decide +kernel) (all6 ?_ ?_ ?_ ?_ ?_ ?_)<;>first|exact notReady (by decide +kernel)|(intro _;refine⟨_,rfl,rfl,?_⟩;simp only[BH,BF,BG,evS,tyS,Nat.reduceLT,Nat.reduceLeDiff,Nat.reduceEqDiff,reduceCtorEq]))
        all_goals (refine anyK_succ (by decide +kernel) (all6 ?_ ?_ ?_ ?_ ?_ ?_)<;>first|exact notReady (by decide +kernel)|(intro _;refine⟨_,rfl,rfl,?_⟩;simp only[BH,BF,BG,evS,tyS,Nat.reduceLT,Nat.reduceLeDiff,Nat.reduceEqDiff,reduceCtorEq]))
        all_goals (refine anyK_succ (by decide +kernel) (all6 ?_ ?_ ?_ ?_ ?_ ?_)<;>first|exact notReady (by decide +kernel)|(intro _;refine⟨_,rfl,rfl,?_⟩;simp only[BH,BF,BG,evS,tyS,Nat.reduceLT,Nat.reduceLeDiff,Nat.reduceEqDiff,reduceCtorEq]))
        all_goals (refine anyK_succ (by decide +kernel) (all6 ?_ ?_ ?_ ?_ ?_ ?_)<;>first|exact notReady (by decide +kernel)|(intro _;refine⟨_,rfl,rfl,?_⟩;simp only[BH,BF,BG,evS,tyS,Nat.reduceLT,Nat.reduceLeDiff,Nat.reduceEqDiff,reduceCtorEq]))
        all_goals (refine anyK_succ (by decide +kernel) (all6 ?_ ?_ ?_ ?_ ?_ ?_)<;>first|exact notReady (by decide +kernel)|(intro _;refine⟨_,rfl,rfl,?_⟩;simp only[BH,BF,BG,evS,tyS,Nat.reduceLeDiff,Nat.reduceEqDiff,reduceCtorEq]))
        all_goals refine⟨by decide +kernel,?_⟩
        all_goals simp only[roundQ_ret,scanQ_ret,t25,evS,tyS,Nat.reduceEqDiff,reduceCtorEq]
       |cons y T=>
        simp only[scanH,base4,scanS8,scanS,TokD.av,tokA,assignQ_normal,hne,evS,tyS,Nat.reduceAdd,Nat.reduceLT,Nat.reduceLeDiff,Nat.reduceEqDiff,reduceCtorEq];refine DrawK.any (by kernel_rfl) ?_;show anyK _ _ _ 6 _ _
        all_goals (refine anyK_succ (by decide +kernel) (all6 ?_ ?_ ?_ ?_ ?_ ?_)<;>first|exact notReady (by decide +kernel)|(intro _;refine⟨_,rfl,rfl,?_⟩;simp only[BH,BF,BG,evS,tyS,Nat.reduceLT,Nat.reduceLeDiff,Nat.reduceEqDiff,reduceCtorEq]))
        all_goals (refine anyK_succ (by decide +kernel) (all6 ?_ ?_ ?_ ?_ ?_ ?_)<;>first|exact notReady (by decide +kernel)|(intro _;refine⟨_,rfl,rfl,?_⟩;simp only[BH,BF,BG,evS,tyS,Nat.reduceLT,Nat.reduceLeDiff,Nat.reduceEqDiff,reduceCtorEq]))
        all_goals (refine anyK_succ (by decide +kernel) (all6 ?_ ?_ ?_ ?_ ?_ ?_)<;>first|exact notReady (by decide +kernel)|(intro _;refine⟨_,rfl,rfl,?_⟩;simp only[BH,BF,BG,evS,tyS,Nat.reduceLT,Nat.reduceLeDiff,Nat.reduceEqDiff,reduceCtorEq]))
        all_goals (refine anyK_succ (by decide +kernel) (all6 ?_ ?_ ?_ ?_ ?_ ?_)<;>first|exact notReady (by decide +kernel)|(intro _;refine⟨_,rfl,rfl,?_⟩;simp only[BH,BF,BG,evS,tyS,Nat.reduceLT,Nat.reduceLeDiff,Nat.reduceEqDiff,reduceCtorEq]))
        all_goals (refine anyK_succ (by decide +kernel) (all6 ?_ ?_ ?_ ?_ ?_ ?_)<;>first|exact notReady (by decide +kernel)|(intro _;refine⟨_,rfl,rfl,?_⟩;simp only[BH,BF,BG,evS,tyS,Nat.reduceLT,Nat.reduceLeDiff,Nat.reduceEqDiff,reduceCtorEq]))
        all_goals (refine anyK_succ (by decide +kernel) (all6 ?_ ?_ ?_ ?_ ?_ ?_)<;>first|exact notReady (by decide +kernel)|(intro _;refine⟨_,rfl,rfl,?_⟩;simp only[BH,BF,BG,evS,tyS,Nat.reduceLeDiff,Nat.reduceEqDiff,reduceCtorEq]))
        all_goals refine⟨by decide +kernel,?_⟩
        all_goals simp only[roundQ_ret,scanQ_ret,t25,evS,tyS,Nat.reduceEqDiff,reduceCtorEq]
      |false=>
       have hee:e=0:=by
        have:=of_decide_eq_false hbad;simpa using this
       subst hee;have hz:((0:Int) != 0)=false:=by decide
       have hHk1:scanHf (eachItems l) (k+1)=scanH (toks++[(t,pos)]):=by
        unfold scanHf
        by_cases hk1:k+1=(eachItems l).length
        ·rw[if_neg (by rw[hf2 hbad hk1];rintro⟨q,_⟩;cases q),hti]
        ·rw[if_neg (by omega),hti]
       rw[hHk1];cases toks with
       |nil=>
        simp only[scanH,base4,scanS8,scanS,TokD.av,tokA,roundQ_normal,assignQ_normal,hz,Bi,tokCells,tvals,listCells,evS,tyS,Nat.reduceAdd,Nat.reduceLT,Nat.reduceLeDiff,Nat.reduceEqDiff,reduceCtorEq,List.reduceReplicate]
        (repeat' (first|(with_reducible refine aI ?_ ?_)|(first|(first|refine gF ?_ ?_|refine gT ?_ ?_|refine cI ?_ ?_|refine pI ?_ ?_)<;>intro h|(refine dI ?_;have h:=trivial))<;>simp only[h,roundQ_normal,hz,evS,tyS,Bv,Bf,Nat.reduceAdd,Nat.reduceSub,Nat.reduceMul,Nat.reduceLT,Nat.reduceLeDiff,Nat.reduceEqDiff,reduceCtorEq,List.reduceReplicate,Int.reduceToNat,Int.reduceLE,Int.reduceLT]))
       |cons y T=>
        have e1:scanH ((y::T)++[(t,pos)])=base4 (.own 6 (T.length+1) (T.length+1+1))++[⟨0,53,tokCells y⟩,⟨0,53,tokCells y⟩,⟨T.length+1,53,listCells (y::T)++tokCells (t,pos)⟩]:=by
         rw[←listCells_app];simp only[Bc,scanH,Bp,BC,BD]
        have hlc:=listCells_len (y::T);have htk:(listCells (y::T)).take ((T.length+1) * 6)=listCells (y::T):=Bt (by rw[hlc];exact BL _);rw[BC]at hlc hcount;rw[e1];have eh:scanH (y::T)=base4 (.own 6 T.length (T.length+1))++[⟨0,53,tokCells y⟩,⟨0,53,tokCells y⟩,⟨T.length,53,listCells (y::T)⟩]:=rfl;rw[eh];have hy6:tokCells y=(tvals y.1 y.2).map AV.v:=rfl;have hx6:tokCells (t,pos)=(tvals t pos).map AV.v:=rfl;have hLC7:=okRefL_list 7 (y::T);have hY7:okRefL 7 (tokCells y)=true:=okRefL_vs 7 _;have hb7:=okRefL_bytes 7 l;generalize listCells (y::T)=LC at hlc htk hLC7⊢;generalize tokCells y=Y at *;generalize T.length=m at *;simp only[base4,scanS8,scanS,TokD.av,tokA,roundQ_normal,assignQ_normal,hz,Bc,Bi,hx6,tvals,hlc,htk,evS,tyS,Nat.reduceAdd,Nat.reduceLT,Nat.reduceLeDiff,Nat.reduceEqDiff,reduceCtorEq,List.reduceReplicate]
        (repeat' (first|(with_reducible refine aI ?_ ?_)|(first|(first|refine gF ?_ ?_|refine gT ?_ ?_|refine cI ?_ ?_|refine pI ?_ ?_)<;>intro h|(refine dI ?_;have h:=trivial))<;>simp only[h,roundQ_normal,hz,hlc,htk,evS,tyS,Bv,Bf,Nat.reduceAdd,Nat.reduceSub,Nat.reduceMul,Nat.reduceLT,Nat.reduceLeDiff,Nat.reduceEqDiff,reduceCtorEq,List.reduceReplicate,Int.reduceToNat,Int.reduceLE,Int.reduceLT]))
        all_goals try omega
        all_goals (refine .inr ⟨?_,?_⟩<;>simp[okRefL,okRefB,okRef,okRefL_app,hLC7,hY7])
     ·have hmk:∀ D,X.marks [D]=X.with [(D,Obj.deferred (some []))] [markD D] none:=fun D=>by simp[Fix.marks,hXK,hXdf]
      have fin:∀ (D:Nat) (φ5:List Nat) (st5:St) (a5:Act) (w5:World),X.w0.heap.size≤D→SR ((X.with [(Nb,.cells #[.slice (some ⟨r,off,none⟩) l.length cap] 37 (0,0))] [] none).marked D) φ5 st5 a5 w5→endS Tp [.cell 2 48,.cell 3 3,.cell 4 26] (scanA l) .ret st5→QMs X (endA Tp Tryz.f58.results.toList (scanA l)) .ret a5 w5:=fun D φ5 st5 a5 w5 hD h6 hq=>by
       refine⟨[D],φ5,st5,by simp,fun D' h=>by rw[Bj.1 h];exact hD,?_,endS_endA hq⟩;rw[hmk];exact SR.fewer (X:=X) (K:=(D,Obj.deferred (some []))::[(Nb,.cells #[.slice (some ⟨r,off,none⟩) l.length cap] 37 (0,0))]) h6 (fun p hp=>by rw[Bj.1 hp];simp)
      rintro e a5 w5 ⟨D,φ5,st5,⟨hD,_⟩,h6,hq⟩
      cases e with
      |normal=>
       obtain rfl:st5=⟨scanS8 γ l b,scanHf (eachItems l) (eachItems l).length⟩:=hq;cases herr:(eachItems l).find? badI with
       |some x=>
        exfalso
        have hH:scanHf (eachItems l) (eachItems l).length=[]:=by unfold scanHf;rw[if_pos ⟨by rw[herr];rfl,rfl⟩]
        rw[hH]at h6;have:=h6.slots 5;have h5':rel (.ptr 3 0 0) (cx ((X.with [(Nb,.cells #[.slice (some ⟨r,off,none⟩) l.length cap] 37 (0,0))] [] none).marked D) φ5 [] w5) (a5.tmps.getD 5 undef):=this;simp only[rel]at h5';obtain⟨k,β,hc,_⟩:=h5';have:=(curOf_eq.1 (show curOf φ5 [] 3=some (k,β)from hc)).1;simp at this
       |none=>
        have hH:scanHf (eachItems l) (eachItems l).length=scanH ((eachItems l).map fun x=>x.1):=by
         unfold scanHf;rw[if_neg (by rw[herr];rintro⟨q,_⟩;cases q),List.take_length]
        have hres:scanA l=.tup [listA ((eachItems l).map fun x=>x.1),.v (.int .i64 0),.v (.int .i64 0)]:=by unfold scanA scanAL;rw[herr]
        rw[hH]at h6;refine wpIn_mono (kwp_soundP (X:=(X.with [(Nb,.cells #[.slice (some ⟨r,off,none⟩) l.length cap] 37 (0,0))] [] none).marked D) (r:=none) hP _ (retQ (scanA l)) (by kernel_rfl) h6 ?_) ?_
        ·rw[hres];have hb7:=okRefL_bytes 7 l;have t25:aggT Tp 26=some false:=by kernel_rfl
         generalize (eachItems l).map (fun x=>x.1)=toks;cases toks with
         |nil=>
          simp only[scanH,base4,scanS8,scanS,retQ_ret,listA,t25,evS,tyS,Nat.reduceLT,Nat.reduceLeDiff,Nat.reduceEqDiff,reduceCtorEq]
          (repeat' (first|(with_reducible refine aI ?_ ?_)|(first|(first|refine gF ?_ ?_|refine gT ?_ ?_|refine cI ?_ ?_|refine pI ?_ ?_)<;>intro h|(refine dI ?_;have h:=trivial))<;>simp only[h,t25,evS,tyS,Bv,Bf,Nat.reduceAdd,Nat.reduceSub,Nat.reduceMul,Nat.reduceLT,Nat.reduceLeDiff,Nat.reduceEqDiff,reduceCtorEq,List.reduceReplicate,Int.reduceToNat,Int.reduceLE,Int.reduceLT]))
         |cons y T=>
          simp only[scanH,base4,scanS8,scanS,retQ_ret,listA,t25,evS,tyS,Nat.reduceLT,Nat.reduceLeDiff,Nat.reduceEqDiff,reduceCtorEq]
          (repeat' (first|(with_reducible refine aI ?_ ?_)|(first|(first|refine gF ?_ ?_|refine gT ?_ ?_|refine cI ?_ ?_|refine pI ?_ ?_)<;>intro h|(refine dI ?_;have h:=trivial))<;>simp only[h,t25,evS,tyS,Bv,Bf,Nat.reduceAdd,Nat.reduceSub,Nat.reduceMul,Nat.reduceLT,Nat.reduceLeDiff,Nat.reduceEqDiff,reduceCtorEq,List.reduceReplicate,Int.reduceToNat,Int.reduceLE,Int.reduceLT]))
          rw[fz];exact .inr ⟨rfl,6,⟨T.length,53,listCells (y::T)⟩,listCells (y::T),rfl,rfl,BL _,.inl rfl,BB,fzL_list _⟩
        ·rintro e a6 w6 ⟨φ6,st6,h7,hq6⟩
         cases e with
         |ret=>exact fin D φ6 st6 a6 w6 hD h7 hq6
         |_=>exact hq6.elim
      |ret=>exact fin D φ5 st5 a5 w5 hD h6 hq
      |_=>exact hq.elim
end Go.Proofs.YtlobiioioicmhaaGreatDoor
