/- A part of the proof. -/
import Derived.Test.YtlobiioioicmhaaGreatDoorCQ5
import Derived.LoopNIn
import Derived.WalkKit
set_option linter.all false
set_option maxHeartbeats 8000000
namespace Go.Proofs.YtlobiioioicmhaaGreatDoor
open _root_.Array renaming getElem?_eq_some_iff→BP,getElem?_eq_none→BQ
open _root_.Bool renaming not_true→Bv,not_false→Bf
open _root_.List renaming length_append→Bp,cons_append→Bc,nil_append→Bi,length_map→Bk,take_of_length_le→Bt,length_drop→Bd,length_take→Bh,mem_singleton→Bj,map_cons→BA,prefix_rfl→BB,length_cons→BC,length_nil→BD,getElem_cons_zero→BF,getElem_cons_succ→BG,getElem_toArray→BH,append_nil→BS
open _root_.Nat renaming le_refl→BL,zero_le→BN
open Go.Proofs.Tryz renaming prog→Tp
open Go Go.Ev Go.RowKit
set_option maxRecDepth 20000
variable {γ:List (Nat×AV)}
theorem T3{c c':Cx}{r:Nat}(hc:∀ off,c'.w.cell? ⟨r,off,none⟩=c.w.cell? ⟨r,off,none⟩):∀ (vs:List Value) (off:Nat),B5 (vs.map AV.v) c r off→B5 (vs.map AV.v) c' r off
 |[],_,_=>trivial
 |x::vs,off,h=>by
  simp only[BA,B5,rel]at h⊢;obtain⟨⟨u,h1,h2⟩,h3⟩:=h;exact⟨⟨u,(hc off).trans h1,h2⟩,T3 hc vs (off+1) h3⟩
def CZ(t:AG)(pos:Nat):List Value:=[.int .i64 t.kind,.string ⟨t.text.toArray⟩,.int .i64 t.int,.float .f64 t.real,.int .i64 pos,.int .i64 t.size]
theorem bT(t:AG)(pos:Nat):t.av pos=.agg ((CZ t pos).map AV.v):=rfl
theorem aZ{t:AG}{pos:Nat}{c:Cx}{u:Value}(h:rel (t.av pos) c u):u=Rt t pos:=by
 rw[bT]at h;simp only[CZ,BA,List.map_nil,rel,Aw]at h;obtain⟨us,rfl,a1,b1,e1,rfl,a2,b2,rfl,rfl,a3,b3,rfl,rfl,a4,b4,rfl,rfl,a5,b5,rfl,rfl,a6,b6,rfl,rfl,rfl⟩:=h;unfold Rt
 congr 1
 apply Array.ext'
 rw[e1]
def yv(ly:Nat):AV:=.v (.func (.yield ly) #[] #[])
def SN(γ:List (Nat×AV))(l:List UInt8)(ly Nb i:Nat):St:=⟨⟨38,[(0,yv ly),(1,Fv l),(3,.v (.int .i64 i))],γ⟩,[]⟩
def Xn(γ:List (Nat×AV))(l:List UInt8)(ly:Nat)(there:Bool)(t:AG)(pos:Nat)(e:Int):St:=
 ⟨⟨38,[(0,yv ly),(1,Fv l),(4,.ptr 0 0 0),(5,.v (.bool there)),(6,.v (.int .i64 e))],γ⟩,[⟨0,53,(CZ t pos).map AV.v⟩]⟩
def nS(γ:List (Nat×AV))(l:List UInt8)(ly:Nat)(t:AG)(pos:Nat)(e:Int):St:=
 ⟨⟨38,[(0,yv ly),(1,Fv l),(4,.ptr 0 0 0),(6,.v (.int .i64 e)),(22,.v (.bool false)),(23,yv ly),(24,t.av pos),(25,.v (.int .i64 e))],γ⟩,[⟨0,53,(CZ t pos).map AV.v⟩]⟩
def V3(γ:List (Nat×AV))(l:List UInt8)(ly:Nat)(t:AG)(pos:Nat)(e:Int)(z:Bool):St:=
 ⟨⟨38,[(0,yv ly),(1,Fv l),(4,.ela false ((CZ t pos).map AV.v)),(6,.v (.int .i64 e)),(22,.v (.bool false)),(26,.v (.bool z))],γ⟩,[]⟩
def Uo(γ:List (Nat×AV))(l:List UInt8)(ly:Nat)(t:AG)(pos:Nat)(b:Bool):St:=
 ⟨⟨38,[(0,yv ly),(1,Fv l),(4,.ela false ((CZ t pos).map AV.v)),(32,.v (.bool b))],γ⟩,[]⟩
theorem aN(hγ2:TI γ){l:List UInt8}{ly Nb i:Nat}{a:Act}{W:World}(hb:Lg γ l Nb W)(hd:a.defers=[])(hn:a.tmps.size=38)(h0:a.tmps.getD 0 undef=.func (.yield ly) #[] #[])(h1:a.tmps.getD 1 undef=.pointer (some ⟨Nb,0,none⟩))(h3:a.tmps.getD 3 undef=.int .i64 i):
  SR (E7 Tp W Nb (DA hb)) [] (SN γ l ly Nb i) a W:=by
 refine SR.fresh hd hn (fun t=>?_) (fun k=>QU hγ2 hb.2 (c:=cx (E7 Tp W Nb (DA hb)) [] [] W) rfl (fun r hr=>⟨hr,by simp,by show ¬False;exact fun h=>h⟩) k)
 by_cases e0:t=0
 ·subst e0;rw[h0];show rel (yv ly) _ _;simp only[yv,rel]
 ·by_cases e1:t=1
  ·subst e1;rw[h1];exact Ro hb
  ·by_cases e3:t=3
   ·subst e3;rw[h3];show rel (.v (.int .i64 i)) _ _;simp only[rel]
   ·have:Go.Ev.look [(0,yv ly),(1,Fv l),(3,AV.v (.int .i64 i))] t=.bad:=by
     simp only[Go.Ev.look];rw[if_neg (fun e=>e0 e.symm),if_neg (fun e=>e1 e.symm),if_neg (fun e=>e3 e.symm)]
    rw[this];simp only[rel]
theorem JI{s:List UInt8}{e:Int}(h:headD s=.error e):e≠0:=by
 unfold headD at h
 split at h
 ·split at h
  ·cases h;decide
  ·cases h
 ·split at h
  ·exact Jv h
  ·split at h
   ·exact L2 h
   ·split at h
    ·cases h;decide
    ·cases h
theorem dS{X:Fix}{φ:List Nat}{st:St}{a:Act}{w:World}(hs:SR X φ st a w){t i v:Nat}{k:Aa}(hl:Go.Ev.look st.s.l t=.ptr i v 0)(hk:st.h[i]?=some k)(hv:v=k.ver):
  ∃ β,a.tmps.getD t undef=.pointer (some ⟨β,0,none⟩)∧X.w0.heap.size≤β∧β<w.heap.size∧B5 k.cells (cx X φ st.h w) β 0:=by
 have h:=hs.slots t;rw[hl]at h;simp only[rel]at h;obtain⟨k',β,h1,h2,h3,h4⟩:=h;obtain⟨g1,g2⟩:=Cw.1 h1;rw[hk]at g1;cases g1;have hm:=hs.rng β (List.mem_of_getElem? g2);exact⟨β,h4 hv,hm.1,hm.2,(hs.blk i k β hk g2).2⟩
theorem Jm{r:Option Nat}{n:Nat}{P:Program}{ops:Array Oper}{Q:Exit→Act→World→Prop}{i:Nat}{o:Oper}{K:Act→World→Prop}{a:Act}{w:World}(ho:ops[i]?=some o)(hw:Region.wanted o (yielded ops a.tmps)=true)(h:o.wpIn (Fr r) n P a w K Q):wpOpIn (Fr r) n P ops Q i K a w:=by
 unfold wpOpIn;rw[ho];simp only[hw,if_true];exact h
theorem PM{r:Option Nat}{n:Nat}{P:Program}{ops:Array Oper}{Q:Exit→Act→World→Prop}{is:List Nat}{a:Act}{w:World}(h:wpOpsIn (Fr r) n P ops (Jg (Q .normal)) is a w):wpOpsIn (Fr r) n P ops Q is a w:=by
 have:=Dz (Q:=Q) is [] a w h
 rwa [BS]at this
theorem YF{X:Fix}{φ:List Nat}{st:St}{a:Act}{w:World}{r:Option Nat}{n:Nat}{c:Code}(id:Nat)(S:St){N:Act→World→Prop}{Q:Exit→Act→World→Prop}(hp:CT c=true)(h0:X.c0=none)(hs:SR X φ st a w)(hk:Fs X.P c (o9 S) st)
  (hnext:∀ φ' a' w',SR X φ' S a' w'→N a' w'):c.wpIn (Fr r) n X.P (Exit.inBlock id (Exit.then N Q)) a w:=by
 refine wpIn_mono (H6 (Q:=fun _ _ _=>False) (N:=N) S hp h0 hs hk hnext) ?_;intro e a w h;cases e with
 |normal=>exact h
 |_=>exact h.elim
theorem jH(n:Nat)(x y:Value)(h:2≤n):∃ A:Act,A={ tmps:= #[x] ++ #[y]++Array.replicate (n-(#[x] ++ #[y]).size) undef,defers:=[] }∧A.defers=[]∧A.tmps.size=n∧A.tmps.getD 0 undef=x∧A.tmps.getD 1 undef=y:=by
 refine⟨_,rfl,rfl,?_,?_,?_⟩
 ·simp;omega
 ·simp;rw[Array.getElem?_append_left (by simp)];rfl
 ·simp;rw[Array.getElem?_append_left (by simp)];rfl
set_option maxRecDepth 20000 in
theorem YW(hγ:Gl γ)(hγ2:TI γ)(l:List UInt8)(hl:l.length≤140737488351232)(Nb:Nat):
  kF Tp 182 #[.pointer (some ⟨Nb,0,none⟩)] (Ah l).length (fun k=> #[(Pk (D2 (Ah l) k)).1,(Pk (D2 (Ah l) k)).2]) (Lg γ l Nb):=by
 intro ly J Jx W hJb hJw hJxw hY hJ0;refine callsIn_wide.1 (callsIn_of_wp (F:=Fence.wide) (n:=0) Tryz.func182 rfl trivial ?_);generalize hPE:bodyPost Tp Tryz.f182 _=PE
 have hret:∀ (a:Act) (w:World),a.defers=[]→(J (Ah l).length w∨Jx w)→PE .ret a w:=fun a w h1 h2=>by
  rw[←hPE];refine⟨h1,.tuple #[],?_,⟨_,rfl⟩,h2⟩;unfold results;rw[show Tryz.f182.results = #[]from rfl,Sem.run_bind,Array.mapM_eq_mapM_toList,Sem.run_map]
  rfl
 have hb0:=hJb 0 W hJ0;have hnt:Tryz.f182.ntmps=38:=by kernel_rfl
 rw[hnt];obtain⟨A,hA,hAd,hAn,hA0,hA1⟩:=jH 38 (.func (.yield ly) #[] #[]) (.pointer (some ⟨Nb,0,none⟩)) (by decide);rw[←hA]
 have hsr:SR (E7 Tp W Nb (DA hb0)) [] ⟨⟨38,[(0,yv ly),(1,Fv l)],γ⟩,[]⟩ A W:=by
  refine SR.fresh hAd hAn (fun t=>?_) (fun k=>QU hγ2 hb0.2 (c:=cx (E7 Tp W Nb (DA hb0)) [] [] W) rfl (fun r hr=>⟨hr,by simp,by show ¬False;exact fun h=>h⟩) k)
  by_cases e0:t=0
  ·subst e0;rw[hA0];show rel (yv ly) _ _;simp only[yv,rel]
  ·by_cases e1:t=1
   ·subst e1;rw[hA1];exact Ro hb0
   ·have:Go.Ev.look [(0,yv ly),(1,Fv l)] t=.bad:=by
     simp only[Go.Ev.look];rw[if_neg (fun e=>e0 e.symm),if_neg (fun e=>e1 e.symm)]
    rw[this];simp only[rel]
 by_cases hbig:32768<l.length
 ·have hit:Ah l=[((zeroT,0),3)]:=by unfold Ah;rw[if_pos hbig]
  refine wpIn_seq (wpIn_seq (H6 (X:=E7 Tp W Nb (DA hb0)) (r:=none) ⟨⟨38,[(0,yv ly),(9,.v (.bool true))],γ⟩,[]⟩ (by kernel_rfl) rfl hsr ?_ ?_))
  ·show Fs Tp _ _ _
   have hd:decide (32768<(l.length:Int))=true:=decide_eq_true (by omega);simp only[Fv,yv,hd,DS,Ad,An,seval]
   (repeat' (first|(with_reducible refine aI ?_ ?_)|(first|(first|refine gF ?_ ?_|refine gT ?_ ?_|refine cI ?_ ?_|refine pI ?_ ?_)<;>intro h|(refine dI ?_;have h:=trivial))<;>simp only[h,Ad,An,Bv,Bf,seval]))
  ·intro φ1 a1 W1 h1;refine wpIn_cond_true (h1.getv rfl) (wpIn_seq (wpIn_region ?_));show wpOpsIn (Fr none) 0 Tp _ _ ([0,1]++(2::[])) a1 W1;refine Dz _ _ _ _ (Sj (X:=E7 Tp W Nb (DA hb0)) ⟨⟨38,[(10,yv ly),(11,zeroT.av 0)],γ⟩,[]⟩ (by kernel_rfl) rfl [_,_] [0,1] rfl h1 ?_ ?_)
   ·show EZ Tp _ _ _ _
    simp only[yv,zeroT,AG.av,AM,BH,BF,BG,Ad,An,seval]
    (repeat' (first|(with_reducible refine aI ?_ ?_)|(first|(first|refine gF ?_ ?_|refine gT ?_ ?_|refine cI ?_ ?_|refine pI ?_ ?_)<;>intro h|(refine dI ?_;have h:=trivial))<;>simp only[h,Ad,An,Bv,Bf,seval]))
    all_goals first|rfl|exact .inl rfl
   ·intro φ4 a4 W4 h4;rw[wpOpsIn_cons];have hYk:=hY 0 W W4 (by rw[hit];decide) hJ0 h4.below;have hitem:D2 (Ah l) 0=((zeroT,0),3):=by rw[hit];rfl
    simp only[hitem,Pk]at hYk
    have hv:(#[Operand.tmp 11,Operand.const (.int .i64 3)]:Array Operand).map a4.eval = #[Rt zeroT 0,.int .i64 3]:=by
     have e1:a4.tmps.getD 11 undef=Rt zeroT 0:=aZ (h4.slots 11);rw[List.map_toArray,BA,BA,List.map_nil];show #[a4.tmps.getD 11 undef,Value.int .i64 3]=_;rw[e1]
    have hN1:(Ah l).length=1:=by rw[hit];rfl
    refine Jm rfl rfl (N8 rfl (h4.getv rfl) hv hYk ?_)
    rintro e' W5 (⟨rfl,hJ5,_⟩|⟨rfl,hJx5⟩)
    ·exact⟨_,rfl,wpIn_ret (hret _ W5 h4.defers (.inl (hN1▸hJ5)))⟩
    ·exact⟨_,rfl,wpIn_ret (hret _ W5 h4.defers (.inr hJx5))⟩
 ·refine wpIn_seq (wpIn_seq (H6 (X:=E7 Tp W Nb (DA hb0)) (r:=none) ⟨⟨38,[(0,yv ly),(1,Fv l),(9,.v (.bool false))],γ⟩,[]⟩ (by kernel_rfl) rfl hsr ?_ ?_))
  ·show Fs Tp _ _ _
   have hd:decide (32768<(l.length:Int))=false:=decide_eq_false (by omega);simp only[Fv,yv,hd,DS,Ad,An,seval]
   (repeat' (first|(with_reducible refine aI ?_ ?_)|(first|(first|refine gF ?_ ?_|refine gT ?_ ?_|refine cI ?_ ?_|refine pI ?_ ?_)<;>intro h|(refine dI ?_;have h:=trivial))<;>simp only[h,Ad,An,Bv,Bf,seval]))
  ·intro φ1 a1 W1 h1;refine wpIn_cond_false (h1.getv rfl) (wpIn_skip ?_);refine wpIn_seq (H6 (X:=E7 Tp W Nb (DA hb0)) (r:=none) ⟨⟨38,[(0,yv ly),(1,Fv l),(3,.v (.int .i64 0))],γ⟩,[]⟩ (by kernel_rfl) rfl h1 ?_ ?_)
   ·show Fs Tp _ _ _
    simp only[Fv,yv,DS,Ad,seval]
    (repeat' (first|(with_reducible refine aI ?_ ?_)|(first|(first|refine gF ?_ ?_|refine gT ?_ ?_|refine cI ?_ ?_|refine pI ?_ ?_)<;>intro h|(refine dI ?_;have h:=trivial))<;>simp only[h,Ad,An,Bv,Bf,seval]))
   ·intro φ2 a2 W2 h2;have hbW:Below W.heap.size W W2:=h2.below;have hJ2:=hJw 0 W W2 hJ0 hbW;refine wpIn_block (wpIn_loop_rounds ((Ah l).length+1) ?_);have hbW2:=hJb 0 W2 hJ2
    have hc2:∃ v fr,W2.heap[Nb]?=some (.cells #[v] 37 fr):=by
     obtain⟨⟨u,fr,g1,_⟩,_⟩:=hbW2;exact⟨u,fr,g1⟩
    have hit:Ah l=C0 (l.length+1) l 0:=by unfold Ah;rw[if_neg hbig]
    refine (?_:∀ (rest:List ((AG×Nat)×Int)) (fuel k i:Nat) (a:Act) (W:World),C0 fuel l i=rest→l.length+1≤fuel+i→i≤l.length→(Ah l).drop k=rest→k≤(Ah l).length→J k W→
     a.defers=[]→a.tmps.size=38→a.tmps.getD 0 undef=.func (.yield ly) #[] #[]→a.tmps.getD 1 undef=.pointer (some ⟨Nb,0,none⟩)→a.tmps.getD 3 undef=.int .i64 i→Code.roundsIn Fence.wide 0 Tp _ _ (rest.length+1) a W)
     (Ah l) (l.length+1) 0 0 a2 W2 hit.symm (by omega) (by omega) rfl (by omega) hJ2 h2.defers h2.len (h2.getv rfl) (Q0 (h2.slots 1) hc2) (h2.getv rfl)
    clear hc2 hbW2 hJ2 hbW h2 h1 hsr hA hAd hAn hA0 hA1 A;intro rest
    induction rest with
    |nil=>
     intro fuel k i a W hitm hfu hi hdr hkN hJk hd hn g0 g1 g3;have hb:=hJb k W hJk;have hsr:=aN (γ:=γ) hγ2 hb hd hn g0 g1 g3
     have hT:l.length≤AQ l i:=by
      cases fuel with
      |zero=>omega
      |succ fuel=>
       rw[C0]at hitm
       split at hitm
       ·assumption
       ·split at hitm<;>cases hitm
     have hk:k=(Ah l).length:=by
      have:=List.drop_eq_nil_iff.1 hdr
      omega
     rw[roundsIn_succ];refine wpIn_block (wpIn_seq (H6 (X:=E7 Tp W Nb (DA hb)) (r:=none) (Xn γ l ly false zeroT 0 0) (by kernel_rfl) rfl hsr ?_ ?_))
     ·show Fs Tp _ _ _
      have hnx:=NY hγ false l i hi hl;rw[KU,if_pos hT]at hnx;simp only[SN,Fv,yv,Ad,An,seval]
      (repeat' (first|(with_reducible refine aI ?_ ?_)|(first|(first|refine gF ?_ ?_|refine gT ?_ ?_|refine cI ?_ ?_|refine pI ?_ ?_)<;>intro h|(refine dI ?_;have h:=trivial))<;>simp only[h,Ad,An,Bv,Bf,seval]))
      refine Ag.intro b31 (by simp[A0,A6]) hnx ?_;simp only[AM,f0,DS,Xn,CZ,yv,Fv,zeroT,Ad,An,seval]
      (repeat' (first|(with_reducible refine aI ?_ ?_)|(first|(first|refine gF ?_ ?_|refine gT ?_ ?_|refine cI ?_ ?_|refine pI ?_ ?_)<;>intro h|(refine dI ?_;have h:=trivial))<;>simp only[h,Ad,An,Bv,Bf,seval]))
      all_goals first|rfl|exact .inl rfl
     ·intro φ3 a3 W3 h3;refine wpIn_seq (wpIn_seq (H6 (X:=E7 Tp W Nb (DA hb)) (r:=none) ⟨⟨38,[(32,.v (.bool true))],γ⟩,[]⟩ (by kernel_rfl) rfl h3 ?_ ?_))
      ·show Fs Tp _ _ _
       simp only[Xn,yv,Fv,DS,Ad,Bf,seval]
       (repeat' (first|(with_reducible refine aI ?_ ?_)|(first|(first|refine gF ?_ ?_|refine gT ?_ ?_|refine cI ?_ ?_|refine pI ?_ ?_)<;>intro h|(refine dI ?_;have h:=trivial))<;>simp only[h,Ad,An,Bv,Bf,seval]))
       all_goals first|rfl|exact .inl rfl|trace_state
      ·intro φ4 a4 W4 h4;refine wpIn_cond_true (h4.getv rfl) (wpIn_ret ?_);exact hret a4 W4 h4.defers (.inl (hk▸hJw k W W4 hJk h4.below))
    |cons x rest ih=>
     intro fuel k i a W hitm hfu hi hdr hkN hJk hd hn g0 g1 g3;have hb:=hJb k W hJk;have hsr:=aN (γ:=γ) hγ2 hb hd hn g0 g1 g3
     have hklt:k<(Ah l).length:=by
      by_cases h:k<(Ah l).length
      ·exact h
      ·rw[List.drop_eq_nil_of_le (by omega)]at hdr;cases hdr
     have hitem:D2 (Ah l) k=x:=by
      unfold D2;rw[List.drop_eq_getElem_cons hklt]at hdr;simp only[List.cons.injEq]at hdr;simp[List.getD,hklt,hdr.1]
     have hdr2:(Ah l).drop (k+1)=rest:=by
      rw[List.drop_eq_getElem_cons hklt]at hdr;simp only[List.cons.injEq]at hdr;exact hdr.2
     obtain⟨f,t,T,e,hx,hnA,hcase⟩:∃ (f:Nat) (t:AG) (T:Nat) (e:Int),x=((t,T),e)∧KU l i=.tup [t.av T,.v (.bool true),.v (.int .i64 e)]∧((e≠0∧rest=[])∨(e=0∧C0 f l (T+t.size)=rest∧T+t.size≤l.length∧l.length+1≤f+(T+t.size))):=by
      cases fuel with
      |zero=>omega
      |succ f=>
       rw[C0]at hitm
       split at hitm
       ·cases hitm
       ·rename_i hT;have hge:=R4 l i
        split at hitm
        ·rename_i e he;cases hitm;refine⟨f,zeroT,AQ l i,e,rfl,?_,.inl ⟨JI he,rfl⟩⟩;rw[KU,if_neg hT,he];rfl
        ·rename_i t ht;cases hitm;have hsz:=Kb (by rw[Bd];omega) ht;rw[Bd]at hsz;refine⟨f,t,AQ l i,0,rfl,?_,.inr ⟨rfl,rfl,by omega,by omega⟩⟩;rw[KU,if_neg hT,ht]
     subst hx;rw[roundsIn_succ];refine wpIn_block (wpIn_seq (H6 (X:=E7 Tp W Nb (DA hb)) (r:=none) (Xn γ l ly true t T e) (by kernel_rfl) rfl hsr ?_ ?_))
     ·show Fs Tp _ _ _
      have hnx:=NY hγ false l i hi hl;rw[hnA]at hnx;simp only[SN,Fv,yv,Ad,An,seval]
      (repeat' (first|(with_reducible refine aI ?_ ?_)|(first|(first|refine gF ?_ ?_|refine gT ?_ ?_|refine cI ?_ ?_|refine pI ?_ ?_)<;>intro h|(refine dI ?_;have h:=trivial))<;>simp only[h,Ad,An,Bv,Bf,seval]))
      refine Ag.intro b31 (by simp[A0,A6]) hnx ?_;simp only[AG.av,AM,DS,Xn,CZ,yv,Fv,Ad,An,seval]
      (repeat' (first|(with_reducible refine aI ?_ ?_)|(first|(first|refine gF ?_ ?_|refine gT ?_ ?_|refine cI ?_ ?_|refine pI ?_ ?_)<;>intro h|(refine dI ?_;have h:=trivial))<;>simp only[h,Ad,An,Bv,Bf,seval]))
      all_goals first|rfl|exact .inl rfl
     ·intro φ3 a3 W3 h3;refine wpIn_seq (wpIn_seq (wpIn_region ?_));show wpOpsIn (Fr none) 0 Tp _ _ ([0,1,2,3,4,5]++(6::[7,8,9,10,11,12])) a3 W3;refine Dz _ _ _ _ (Sj (X:=E7 Tp W Nb (DA hb)) (nS γ l ly t T e) (by kernel_rfl) rfl [_,_,_,_,_,_] [0,1,2,3,4,5] rfl h3 ?_ ?_)
      ·show EZ Tp _ _ _ _
       simp only[Xn,nS,yv,Fv,CZ,AG.av,AM,BH,BF,BG,Ad,An,Bv,seval]
       (repeat' (first|(with_reducible refine aI ?_ ?_)|(first|(first|refine gF ?_ ?_|refine gT ?_ ?_|refine cI ?_ ?_|refine pI ?_ ?_)<;>intro h|(refine dI ?_;have h:=trivial))<;>simp only[h,Ad,An,Bv,Bf,seval]))
       all_goals first|rfl|exact .inl rfl|trace_state
      ·intro φ4 a4 W4 h4;rw[wpOpsIn_cons];have hYk:=hY k W W4 hklt hJk h4.below;simp only[hitem,Pk]at hYk
       have hv:(#[Operand.tmp 24,Operand.tmp 25]:Array Operand).map a4.eval = #[Rt t T,.int .i64 e]:=by
        have e1:a4.tmps.getD 24 undef=Rt t T:=aZ (h4.slots 24);have e2:a4.tmps.getD 25 undef=.int .i64 e:=h4.getv rfl;rw[List.map_toArray,BA,BA,List.map_nil];show #[a4.tmps.getD 24 undef,a4.tmps.getD 25 undef]=_;rw[e1,e2]
       refine Jm rfl ?_ (N8 rfl (h4.getv rfl) hv hYk ?_)
       ·show (yielded _ a4.tmps 2==some false)=true
        rw[Jq h4 (z:=false) rfl]
        rfl
       ·rintro e' W5 (⟨rfl,hJ5,hkept⟩|⟨rfl,hJx5⟩)
        ·refine⟨_,rfl,?_⟩;have hb5:=hJb (k+1) W5 hJ5
         have hc4:∃ v fr,W4.heap[Nb]?=some (.cells #[v] 37 fr):=by
          obtain⟨⟨u,fr,q1,_⟩,_⟩:=hJb k W4 (hJw k W W4 hJk h4.below);exact⟨u,fr,q1⟩
         obtain⟨β,p1,p2,p3,p4⟩:=dS h4 (t:=4) (k:=⟨0,53,(CZ t T).map AV.v⟩) rfl rfl rfl;have hβ5:W5.heap[β]?=W4.heap[β]?:=hkept β p2 p3
         have hlt5:β<W5.heap.size:=by
          by_cases h:β<W5.heap.size
          ·exact h
          ·rw[BQ (by omega)]at hβ5;rw[BP.2 ⟨p3,rfl⟩]at hβ5;cases hβ5
         have h0':a4.tmps.getD 0 undef=.func (.yield ly) #[] #[]:=h4.getv rfl;have h1':a4.tmps.getD 1 undef=.pointer (some ⟨Nb,0,none⟩):=Q0 (h4.slots 1) hc4;have h6':a4.tmps.getD 6 undef=.int .i64 e:=h4.getv rfl;have h22':a4.tmps.getD 22 undef=.bool false:=h4.getv rfl
         obtain⟨φ5,h5⟩:∃ φ5,SR (E7 Tp W5 Nb (DA hb5)) φ5 (V3 γ l ly t T e true) (a4.put (some 26) (.bool true)) W5:=by
          have hpre:SR (E7 Tp W5 Nb (DA hb5)) [] ⟨⟨38,[(0,yv ly),(1,Fv l),(4,.ela false ((CZ t T).map AV.v)),(6,.v (.int .i64 e)),(22,.v (.bool false))],γ⟩,[]⟩ a4 W5:=by
           refine SR.fresh h4.defers h4.len (fun tt=>?_) (fun k=>QU hγ2 hb5.2 (c:=cx (E7 Tp W5 Nb (DA hb5)) [] [] W5) rfl (fun r hr=>⟨hr,by simp,by show ¬False;exact fun h=>h⟩) k)
           by_cases e0:tt=0
           ·subst e0;rw[h0'];show rel (yv ly) _ _;simp only[yv,rel]
           ·by_cases e1:tt=1
            ·subst e1;rw[h1'];exact Ro hb5
            ·by_cases e4:tt=4
             ·subst e4;rw[p1];show rel (.ela false ((CZ t T).map AV.v)) _ _;rw[rel];refine⟨β,0,rfl,⟨hlt5,by simp,by show ¬False;exact fun h=>h⟩,?_⟩;refine T3 (c:=cx (E7 Tp W Nb (DA hb)) φ4 [⟨0,53,(CZ t T).map AV.v⟩] W4) (fun off=>?_) (CZ t T) 0 p4;show W5.cell? ⟨β,off,none⟩=W4.cell? ⟨β,off,none⟩;unfold World.cell?;simp only[hβ5]
             ·by_cases e6:tt=6
              ·subst e6;rw[h6'];show rel (.v (.int .i64 e)) _ _;simp only[rel]
              ·by_cases e22:tt=22
               ·subst e22;rw[h22'];show rel (.v (.bool false)) _ _;simp only[rel]
               ·have:Go.Ev.look [(0,yv ly),(1,Fv l),(4,AV.ela false ((CZ t T).map AV.v)),(6,AV.v (.int .i64 e)),(22,AV.v (.bool false))] tt=.bad:=by
                 simp only[Go.Ev.look];rw[if_neg (fun e=>e0 e.symm),if_neg (fun e=>e1 e.symm),if_neg (fun e=>e4 e.symm),if_neg (fun e=>e6 e.symm),if_neg (fun e=>e22 e.symm)]
                rw[this];simp only[rel]
          have:=hpre.put (some 26) (r:=.v (.bool true)) (u:=.bool true) (by simp only[rel]);exact this.weak (s2:=V3 γ l ly t T e true) rfl (by simp only[V3,yv,Fv,CZ,Ad];(repeat' (first|(with_reducible refine aI ?_ ?_)|(first|(first|refine gF ?_ ?_|refine gT ?_ ?_|refine cI ?_ ?_|refine pI ?_ ?_)<;>intro h|(refine dI ?_;have h:=trivial))<;>simp only[h,Ad,An,Bv,Bf,seval]));all_goals first|rfl|exact .inl rfl)
         refine PM (Sj (X:=E7 Tp W5 Nb (DA hb5)) (Uo γ l ly t T (e != 0)) (by kernel_rfl) rfl [_,_,_,_,_,_] [7,8,9,10,11,12] rfl h5 ?_ ?_)
         ·show EZ Tp _ _ _ _
          simp only[V3,Uo,yv,Fv,CZ,BH,BF,BG,Ad,Bv,seval]
          (repeat' (first|(with_reducible refine aI ?_ ?_)|(first|(first|refine gF ?_ ?_|refine gT ?_ ?_|refine cI ?_ ?_|refine pI ?_ ?_)<;>intro h|(refine dI ?_;have h:=trivial))<;>simp only[h,Ad,An,Bv,Bf,seval]))
          all_goals first|rfl|exact .inl rfl|trace_state
         ·intro φ6 a6 W6 h6;have hJ6:=hJw (k+1) W5 W6 hJ5 h6.below;have hc:a6.eval (.tmp 32)=.bool (e != 0):=h6.getv rfl
          rcases hcase with⟨he,hrest⟩|⟨he,hrest,hle,hfu2⟩
          ·have hne:(e != 0)=true:=by simpa using he
           rw[hne]at hc;refine wpIn_cond_true hc (wpIn_ret ?_)
           have hkN2:k+1=(Ah l).length:=by
            rw[hrest]at hdr2;have:=List.drop_eq_nil_iff.1 hdr2
            omega
           exact hret a6 W6 h6.defers (.inl (hkN2▸hJ6))
          ·have hne:(e != 0)=false:=by rw[he];rfl
           rw[hne]at hc;refine wpIn_cond_false hc (wpIn_skip ?_);have ew:IntKind.i64.wrap ((T:Int)+(t.size:Int))=((T+t.size:Nat):Int):=A4 (by omega) (by omega);refine YF 1 (X:=E7 Tp W5 Nb (DA hb5)) (r:=none) (SN γ l ly Nb (T+t.size)) (by kernel_rfl) rfl h6 ?_ ?_
           ·show Fs Tp _ _ _
            simp only[Uo,SN,yv,Fv,CZ,DS,ew,BA,List.map_nil,List.drop_succ_cons,List.drop_zero,Kp,Ad,An,seval]
            (repeat' (first|(with_reducible refine aI ?_ ?_)|(first|(first|refine gF ?_ ?_|refine gT ?_ ?_|refine cI ?_ ?_|refine pI ?_ ?_)<;>intro h|(refine dI ?_;have h:=trivial))<;>simp only[h,Ad,An,Bv,Bf,seval]))
            all_goals first|rfl|exact .inl rfl|trace_state
           ·intro φ7 a7 W7 h7;have hJ7:=hJw (k+1) W5 W7 hJ5 h7.below
            have hc7:∃ v fr,W7.heap[Nb]?=some (.cells #[v] 37 fr):=by
             obtain⟨⟨u,fr,q1,_⟩,_⟩:=hJb (k+1) W7 hJ7;exact⟨u,fr,q1⟩
            exact ih f (k+1) (T+t.size) a7 W7 hrest hfu2 hle hdr2 (by omega) hJ7 h7.defers h7.len (h7.getv rfl) (Q0 (h7.slots 1) hc7) (h7.getv rfl)
        ·refine⟨_,rfl,?_⟩;have h6':a4.tmps.getD 6 undef=.int .i64 e:=h4.getv rfl;have h22':a4.tmps.getD 22 undef=.bool false:=h4.getv rfl
         obtain⟨φ5,h5⟩:∃ φ5,SR (K0 Tp W5 (fun _=>False) (fun _ h=>h.elim)) φ5 ⟨⟨38,[(6,.v (.int .i64 e)),(22,.v (.bool false)),(26,.v (.bool false))],[]⟩,[]⟩ (a4.put (some 26) (.bool false)) W5:=by
          have hpre:SR (K0 Tp W5 (fun _=>False) (fun _ h=>h.elim)) [] ⟨⟨38,[(6,.v (.int .i64 e)),(22,.v (.bool false))],[]⟩,[]⟩ a4 W5:=by
           refine SR.fresh h4.defers h4.len (fun tt=>?_) (fun k=>⟨rfl,by show rel .bad _ _;simp only[rel]⟩)
           by_cases e6:tt=6
           ·subst e6;rw[h6'];show rel (.v (.int .i64 e)) _ _;simp only[rel]
           ·by_cases e22:tt=22
            ·subst e22;rw[h22'];show rel (.v (.bool false)) _ _;simp only[rel]
            ·have:Go.Ev.look [(6,AV.v (.int .i64 e)),(22,AV.v (.bool false))] tt=.bad:=by
              simp only[Go.Ev.look];rw[if_neg (fun e=>e6 e.symm),if_neg (fun e=>e22 e.symm)]
             rw[this];simp only[rel]
          have:=hpre.put (some 26) (r:=.v (.bool false)) (u:=.bool false) (by simp only[rel]);exact this.weak rfl (by simp only[Ad];(repeat' (first|(with_reducible refine aI ?_ ?_)|(first|(first|refine gF ?_ ?_|refine gT ?_ ?_|refine cI ?_ ?_|refine pI ?_ ?_)<;>intro h|(refine dI ?_;have h:=trivial))<;>simp only[h,Ad,An,Bv,Bf,seval]));all_goals first|rfl|exact .inl rfl)
         refine PM (Sj (X:=K0 Tp W5 (fun _=>False) (fun _ h=>h.elim)) ⟨⟨38,[(32,.v (.bool true))],[]⟩,[]⟩ (by kernel_rfl) rfl [_,_,_,_,_,_] [7,8,9,10,11,12] rfl h5 ?_ ?_)
         ·show EZ Tp _ _ _ _
          simp only[BH,BF,BG,Ad,Bf,seval]
          (repeat' (first|(with_reducible refine aI ?_ ?_)|(first|(first|refine gF ?_ ?_|refine gT ?_ ?_|refine cI ?_ ?_|refine pI ?_ ?_)<;>intro h|(refine dI ?_;have h:=trivial))<;>simp only[h,Ad,An,Bv,Bf,seval]))
          all_goals first|rfl|exact .inl rfl|trace_state
         ·intro φ6 a6 W6 h6;refine wpIn_cond_true (h6.getv rfl) (wpIn_ret ?_);exact hret a6 W6 h6.defers (.inr (hJxw W5 W6 hJx5 h6.below))
theorem jF(r off n cap:Nat)(w:World):Calls Tp 112 #[.slice (some ⟨r,off,none⟩) n cap] w fun e w'=>∃ N,e=.returned (.func (.func 182) #[] #[.pointer (some ⟨N,0,none⟩)])∧w'.heap[N]?=some (.cells #[.slice (some ⟨r,off,none⟩) n cap] 37 (0,0))∧w.heap.size≤N∧Below w.heap.size w w':=by
 go_enter Tryz.func112,Tryz.ntmps112
 go_wp2
 go_ret
 exact⟨_,rfl,Go.Ev.heap_alloc_new w _,BL _,(Below.refl _ w).alloc (BL _) _⟩
def B7(x:AG×Nat):List AV:=(CZ x.1 x.2).map AV.v
def A3(L:List (AG×Nat)):List AV:=(L.map B7).flatten
def Ct:List (AG×Nat)→AV
 |[]=>.v (.slice none 0 0)
 |L=>.sl false L.length L.length (A3 L)
def EM(x:(AG×Nat)×Int):Bool:=decide (x.2≠0)
def MZ(L:List ((AG×Nat)×Int)):AV:=
 match L.find? EM with
 |none=>.tup [Ct (L.map fun x=>x.1),.v (.int .i64 0),.v (.int .i64 0)]
 |some x=>.tup [.v (.slice none 0 0),.v (.int .i64 x.1.2),.v (.int .i64 x.2)]
def G0(l:List UInt8):AV:=MZ (Ah l)
def Fx(out:AV):List Aa:=[⟨0,48,[.v (.slice none 0 0)]⟩,⟨0,3,[.v (.int .i64 0)]⟩,⟨0,26,[.v (.int .i64 0)]⟩,⟨0,48,[out]⟩]
def II:List (AG×Nat)→List Aa
 |[]=>Fx (.v (.slice none 0 0))
 |x::L=>Fx (.own 6 L.length (x::L).length)++[⟨0,53,B7 x⟩,⟨0,53,B7 x⟩,⟨L.length,53,A3 (x::L)⟩]
def Jf(γ:List (Nat×AV))(l:List UInt8)(b:Bool):Db:=⟨22,[(0,.sl b l.length l.length (l.map Am)),(2,.ptr 0 0 0),(3,.ptr 1 0 0),(4,.ptr 2 0 0),(5,.ptr 3 0 0)],γ⟩
def EH(L:List ((AG×Nat)×Int))(k:Nat):List Aa:=if (L.find? EM).isSome=true∧k=L.length then []else II ((L.take k).map fun x=>x.1)
theorem PT:∀ (f:Nat) (l:List UInt8) (i:Nat) (k:Nat),k+1<(C0 f l i).length→(D2 (C0 f l i) k).2=0
 |0,_,_,_,h=>by simp[C0]at h
 |f+1,l,i,k,h=>by
  rw[C0]at h⊢
  split at h
  ·simp at h
  ·rename_i hT;rw[if_neg hT]
   split at h
   ·rename_i e he;simp at h
   ·rename_i t ht;cases k with
    |zero=>rfl
    |succ k=>
     simp only[BC]at h;exact PT f l _ k (by omega)
theorem Yr(l:List UInt8)(k:Nat)(h:k+1<(Ah l).length):(D2 (Ah l) k).2=0:=by
 unfold Ah at h⊢
 split at h
 ·simp at h
 ·rename_i hb;rw[if_neg hb];exact PT _ _ _ _ h
theorem Vi{L:List ((AG×Nat)×Int)}{k:Nat}(hk:k<L.length)(hok:∀ j,j+1<L.length→(D2 L j).2=0):(EM (D2 L k)=true→L.find? EM=some (D2 L k))∧(EM (D2 L k)=false→k+1=L.length→L.find? EM=none):=by
 have hget:∀ j (h:j<L.length),D2 L j=L[j]:=fun j h=>by simp[D2,List.getD,h]
 constructor
 ·intro hb
  have hk1:k+1=L.length:=by
   by_cases h:k+1<L.length
   ·have:=hok k h;simp[EM,this]at hb
   ·omega
  rw[List.find?_eq_some_iff_getElem];refine⟨hb,k,hk,(hget k hk).symm,fun j hj=>?_⟩;have:=hok j (by omega);rw[hget j (by omega)]at this;simp[EM,this]
 ·intro hb hk1;rw[List.find?_eq_none];intro x hx;obtain⟨j,hj,rfl⟩:=List.getElem_of_mem hx
  by_cases h:j+1<L.length
  ·have:=hok j h;rw[hget j hj]at this;simp[EM,this]
  ·have:j=k:=by omega
   subst this;rw[←hget j hj,hb]
   decide
theorem Xq{L:List ((AG×Nat)×Int)}{k:Nat}(hk:k<L.length):(L.take (k+1)).map (fun x=>x.1)=(L.take k).map (fun x=>x.1)++[(D2 L k).1]:=by
 have hget:D2 L k=L[k]:=by simp[D2,List.getD,hk]
 rw[hget,List.take_add_one,List.map_append,List.getElem?_eq_getElem hk]
 rfl
theorem Zw{P:Program}{X:Fix}{φ:List Nat}{st:St}{a:Act}{w:World}{r:Option Nat}{n:Nat}{c:Code}(hP:X.P=P)(S:St){N:Act→World→Prop}{Q:Exit→Act→World→Prop}(hp:CT c=true)(h0:X.c0=none)(hs:SR X φ st a w)(hk:Fs P c (o9 S) st)
  (hnext:∀ φ' a' w',SR X φ' S a' w'→N a' w'):c.wpIn (Fr r) n P (Exit.then N Q) a w:=by
 subst hP;exact H6 S hp h0 hs hk hnext
theorem opsP{P:Program}{X:Fix}{φ:List Nat}{st:St}{a:Act}{w:World}{n:Nat}{ops:Array Oper}(hP:X.P=P)(S:St){N:Act→World→Prop}(hnd:ops.all nd=true)(h0:X.c0=none)(os:List Oper)(is:List Nat)(he:is.map (ops[·]?)=os.map some)(hs:SR X φ st a w)(hk:EZ P ops os (fun s=>s.weak S) st)
  (hnext:∀ φ' a' w',SR X φ' S a' w'→N a' w'):wpOpsIn (Fr none) n P ops (Jg N) is a w:=by
 subst hP;exact Sj S hnd h0 os is he hs hk hnext
theorem X5{r:Option Nat}{n:Nat}{P:Program}{o:Oper}{a:Act}{w:World}{g:Nat}{args:Array Operand}{ts:Array TypeId}{vs:Array Value}{R:Ending→World→Prop}{N:Act→World→Prop}{Q:Exit→Act→World→Prop}
  (ho:o.op=.call { callee:=.value (.func g),args:=args,argTypes:=ts }) (hvs:args.map a.eval=vs) (he:∀ args w,(callFunc g args).run P w=.ok (.enter g args) w) (hC:Calls P g vs w R)
  (hR:∀ e w',R e w'→∃ v,e=.returned v∧N (a.put o.dst v) w'):o.wpIn (Fr r) n P a w N Q:=by
 refine UQ (N:=N) (by simp[nd,ho]) (fun _ _ h=>h) ?_;unfold Oper.wp
 have hrun:(execOp a.eval o).run P w=.ok (.enter g vs) w:=by
  unfold execOp;rw[ho];have hf:a.eval (.func g)=.func (.func g) #[] #[]:=rfl;simp only[resolve,hf];simp[go_sem,invoke,hvs,he]
 rw[hrun];refine Calls.mono hC ?_;intro e w' h;obtain⟨v,rfl,h2⟩:=hR e w' h;exact h2
def iX(S:Db)(h:List Aa)(res:AV):AY
 |.normal,s=>s=⟨S,h⟩
 |.ret,s=>NN Tp [.cell 2 48,.cell 3 3,.cell 4 26] res .ret s
 |_,_=>False
def oD(res:AV):AY
 |.ret,s=>NN Tp [.cell 2 48,.cell 3 3,.cell 4 26] res .ret s
 |_,_=>False
theorem Sh(res:AV)(s:St):oD res .ret s=NN Tp [.cell 2 48,.cell 3 3,.cell 4 26] res .ret s:=rfl
theorem Uq{P:Program}{X:Fix}{n:Nat}{r:Option Nat}(hP:X.P=P)(c:Code)(Q:AY){φ:List Nat}{st:St}{a:Act}{w:World}(hp:CT c=true)(hs:SR X φ st a w)(h:Fs P c Q st):c.wpIn (Fr r) n P (Qx X Q) a w:=by
 subst hP;exact Dr c Q hp hs h
theorem P9(S:Db)(h:List Aa)(res:AV)(s:St):iX S h res .ret s=NN Tp [.cell 2 48,.cell 3 3,.cell 4 26] res .ret s:=rfl
theorem Nl(I:Prop)(S:Db)(H:List Aa)(Q:AY)(s:St):Rm I S H Q .ret s=Q .ret ⟨S,s.h⟩:=rfl
theorem FR(I:Prop)(S:Db)(H:List Aa)(Q:AY)(s:St):Rm I S H Q .normal s=(I∧(⟨S,s.h⟩:St).weak ⟨S,H⟩):=rfl
theorem Ff(P:Program)(body:Code)(R:AY)(s:St):Rr P body R .normal s=Fs P body R s:=rfl
theorem RA{P:Program}{X:Fix}{φ:List Nat}{st:St}{a:Act}{w:World}{n:Nat}(hP:X.P=P)(hs:SR X φ st a w)(h0:X.c0=none)
  {g:Operand} {p q:Tmp} {assign body:Code} (hpa:CT assign=true) (hpb:CT body=true)
  {gf:Nat} {lb:Array Value} (hg:a.eval g=.func (.func gf) #[] lb) (eg:∀ args w,(callFunc gf args).run P w=.ok (.enter gf args) w)
  (N:Nat) (item:Nat→Value×Value) {base:World→Prop} (hseq:kF P gf lb N (fun k=> #[(item k).1,(item k).2]) base)
  (S:Db) (H:Nat→List Aa) (inv:Nat→Prop) (hi0:inv 0) (hw:st.weak ⟨S,H 0⟩)
  (hbase:∀ (X':Fix) (φ':List Nat) (k:Nat) (a':Act) (W:World),X'.P=P→X'.G=X.G→X'.B=X.B→(∀ p∈X.K,W.heap[p.1]?=some p.2)→a'.tmps=a.tmps→SR X' φ' ⟨S,H k⟩ a' W→base W)
  (xs ys:Nat→AV) (hx:∀ k,k<N→∀ c,rel (xs k) c (item k).1∧rel (ys k) c (item k).2)
  {Q:AY} (hround:∀ k,k<N→inv k→Fs P assign (Rr P body (Rm (inv (k+1)) S (H (k+1)) Q)) ⟨Ci (Ci S (some p) (xs k)) (some q) (ys k),H k⟩)
  (hdone:inv N→Q .normal ⟨S,H N⟩) :
  (Code.rangeFunc g #[p,q] assign body).wpIn (Fr none) n P (QM X Q) a w:=by
 subst hP;exact UT hs h0 hpa hpb hg eg N item hseq S H inv hi0 hw hbase xs ys hx hround hdone
def Ee(γ:List (Nat×AV))(l:List UInt8)(b:Bool):Db:=⟨22,(8,.sl b l.length l.length (l.map Am))::(Jf γ l b).l,γ⟩
theorem Dm{P:Program}{ops:Array Oper}{K:St→Prop}{f:Nat}{listed:Array Bool}{s:St}(h0:(Region.ready .any ops listed).isEmpty=false)
  (h:∀ i∈List.range ops.size,(Region.ready .any ops listed).contains i=true→∃ o,ops[i]?=some o∧o.guard=none∧Cb P o (fun s'=>M0 P ops K f (listed.setIfInBounds i true) s') s):M0 P ops K (f+1) listed s:=
 ⟨(fun e=>by rw[e]at h0;cases h0),h⟩
theorem Mv{p:Nat→Prop}(h0:p 0)(h1:p 1)(h2:p 2)(h3:p 3)(h4:p 4)(h5:p 5):∀ i∈List.range 6,p i:=by
 intro i hi;have:=List.mem_range.1 hi
 match i,this with
 |0,_=>exact h0
 |1,_=>exact h1
 |2,_=>exact h2
 |3,_=>exact h3
 |4,_=>exact h4
 |5,_=>exact h5
theorem J7(n:Nat):∀ vs:List Value,AK n (vs.map AV.v)=true
 |[]=>rfl
 |x::vs=>by rw[BA,AK,J7 n vs];rfl
theorem Ig(n:Nat):∀ a b:List AV,AK n (a++b)=(AK n a&&AK n b)
 |[],b=>by simp[AK]
 |x::a,b=>by rw[Bc,AK,AK,Ig n a b,Bool.and_assoc]
theorem Ja(n:Nat):∀ L:List (AG×Nat),AK n (A3 L)=true
 |[]=>rfl
 |x::L=>by
  have:=Ja n L;unfold A3 at *;rw[BA,List.flatten_cons,Ig,this];rw[show B7 x=(CZ x.1 x.2).map AV.v from rfl,J7];rfl
theorem Ie(n:Nat):∀ l:List UInt8,AK n (l.map Am)=true
 |[]=>rfl
 |x::l=>by rw[BA,AK,Ie n l];rfl
theorem KI:∀ L:List (AG×Nat),A3 L=(L.map fun x=>CZ x.1 x.2).flatten.map AV.v
 |[]=>rfl
 |x::L=>by
  have:=KI L;unfold A3 at *;rw[BA,List.flatten_cons,BA,List.flatten_cons,List.map_append,←this]
  rfl
theorem Zo{P:Program}{H:List Aa}{b:Bool}:∀ vs:List Value,Fe P H b (vs.map AV.v) (vs.map AV.v)
 |[]=>by simp only[List.map_nil,Fe]
 |x::vs=>by
  rw[BA,Fe];exact⟨_,_,rfl,by simp only[fz],Zo vs⟩
theorem MU{P:Program}{H:List Aa}{b:Bool}(L:List (AG×Nat)):Fe P H b (A3 L) (A3 L):=by
 rw[KI];exact Zo _
theorem NP:∀ (f:Nat) (l:List UInt8) (i:Nat),(C0 f l i).length≤f
 |0,_,_=>BL _
 |f+1,l,i=>by
  rw[C0]
  split
  ·exact BN _
  ·split
   ·show 1≤f+1;omega
   ·have h2:=NP f l;simp only[BC];exact Nat.succ_le_succ (h2 _)
theorem LQ(l:List UInt8):(Ah l).length≤32769:=by
 unfold Ah
 split
 ·decide
 ·have:=NP (l.length+1) l 0;omega
theorem HA:∀ (L:List (AG×Nat)),(A3 L).length=L.length * 6
 |[]=>rfl
 |x::L=>by
  have:=HA L;unfold A3 at *;rw[BA,List.flatten_cons,Bp,this];simp[B7,CZ];omega
theorem JS(L:List (AG×Nat))(x:AG×Nat):A3 (L++[x])=A3 L++B7 x:=by simp[A3]
set_option maxRecDepth 20000 in
theorem O7(hγ:Gl γ)(hγ2:TI γ)(b:Bool)(l:List UInt8)(hl:l.length≤140737488351232):
  Ev Tp γ 58 [.sl b l.length l.length (l.map Am)] (G0 l):=by
 refine Ev.of_wpM Tryz.func58 rfl ?_;intro X hP hc0 hXK hXdf a w hs;have hnt:Tryz.f58.ntmps=22:=by kernel_rfl
 rw[hnt]at hs;refine wpIn_seq (Zw hP (r:=none) ⟨⟨22,[(0,.sl b l.length l.length (l.map Am)),(2,.ptr 0 0 0),(3,.ptr 1 0 0),(4,.ptr 2 0 0)],γ⟩,[⟨0,48,[.v (.slice none 0 0)]⟩,⟨0,3,[.v (.int .i64 0)]⟩,⟨0,26,[.v (.int .i64 0)]⟩]⟩ (by kernel_rfl) hc0 hs ?_ ?_)
 ·simp only[EG,Hi,DS,Ad,An,seval]
  (repeat' (first|(with_reducible refine aI ?_ ?_)|(first|(first|refine gF ?_ ?_|refine gT ?_ ?_|refine cI ?_ ?_|refine pI ?_ ?_)<;>intro h|(refine dI ?_;have h:=trivial))<;>simp only[h,Ad,An,Bv,Bf,seval]))
  all_goals first|rfl|exact .inl rfl|trace_state
 ·intro φ1 a1 w1 h1;refine wpIn_seq (Zw hP (r:=none) ⟨Jf γ l b,Fx (.v (.slice none 0 0))⟩ (by kernel_rfl) hc0 h1 ?_ ?_)
  ·simp only[Jf,Fx,DS,Ad,An,seval]
   (repeat' (first|(with_reducible refine aI ?_ ?_)|(first|(first|refine gF ?_ ?_|refine gT ?_ ?_|refine cI ?_ ?_|refine pI ?_ ?_)<;>intro h|(refine dI ?_;have h:=trivial))<;>simp only[h,Ad,An,Bv,Bf,seval]))
   all_goals first|rfl|exact .inl rfl|trace_state
  ·intro φ2 a2 w2 h2;have hb2:=h2.below;refine wpIn_seq (wpIn_seq (wpIn_region ?_));show wpOpsIn (Fr none) 0 Tp _ _ ([0]++(1::[])) a2 w2;refine Dz _ _ _ _ (opsP hP ⟨Ee γ l b,Fx (.v (.slice none 0 0))⟩ (by kernel_rfl) hc0 [_] [0] rfl h2 ?_ ?_)
   ·simp only[Ee,Jf,Fx,BH,BF,Ad,seval]
    (repeat' (first|(with_reducible refine aI ?_ ?_)|(first|(first|refine gF ?_ ?_|refine gT ?_ ?_|refine cI ?_ ?_|refine pI ?_ ?_)<;>intro h|(refine dI ?_;have h:=trivial))<;>simp only[h,Ad,An,Bv,Bf,seval]))
    all_goals first|rfl|exact .inl rfl|trace_state
   ·intro φ3 a3 w3 h3;rw[wpOpsIn_cons];have h8:=h3.slots 8;have h8':rel (.sl b l.length l.length (l.map Am)) (cx X φ3 (Fx (.v (.slice none 0 0))) w3) (a3.tmps.getD 8 undef):=h8;simp only[rel]at h8';obtain⟨r,off,cap,e8,n1,n2,n3,n4⟩:=h8';refine Jm rfl rfl (X5 (vs:= #[.slice (some ⟨r,off,none⟩) l.length cap]) rfl ?_ (enters_of Tryz.func112 (by kernel_rfl) rfl) (jF r off l.length cap w3) ?_)
    ·rw[List.map_toArray,BA,List.map_nil];show #[a3.tmps.getD 8 undef]=_;rw[e8]
    ·rintro e' w4 ⟨Nb,rfl,hbox,hNb,hbel⟩
     refine⟨_,rfl,?_⟩;have hput:=(h3.world hbel).put (some 9) (r:=.bad) (u:=.func (.func 182) #[] #[.pointer (some ⟨Nb,0,none⟩)]) (by simp only[rel]);have hlen4:9<a3.tmps.size:=by have:=h3.len;rw[this];show 9<22;decide
     obtain⟨a4,ha4⟩:∃ a4,a4=a3.put (some 9) (.func (.func 182) #[] #[.pointer (some ⟨Nb,0,none⟩)]):=⟨_,rfl⟩;have h49:a4.eval (.tmp 9)=.func (.func 182) #[] #[.pointer (some ⟨Nb,0,none⟩)]:=by rw[ha4];show (a3.put _ _).tmps.getD 9 undef=_;simp[Act.put,hlen4]
     have h48:a4.tmps.getD 8 undef=.slice (some ⟨r,off,none⟩) l.length cap:=by rw[ha4,←e8];simp[Act.put]
     rw[←ha4]at hput
     have h5:SR (X.with [(Nb,.cells #[.slice (some ⟨r,off,none⟩) l.length cap] 37 (0,0))] [] none) φ3 ⟨Ee γ l b,Fx (.v (.slice none 0 0))⟩ a4 w4:=by
      refine hput.move (Below.refl _ _) (fun r _=>.inl rfl) (by rw[hput.defers,hXdf]) hput.len hput.gl_le (fun c' hc t=>?_) ?_ ?_ (fun c c' h=>by cases h)
      ·by_cases e9:t=9
       ·subst e9;show rel .bad _ _;simp only[rel]
       ·have:=hput.slots_le c' hc t
        have hl:Go.Ev.look (Ci (Ee γ l b) (some 9) .bad).l t=Go.Ev.look (Ee γ l b).l t:=by
         have e10:Ci (Ee γ l b) (some 9) .bad=⟨22,(9,.bad)::(Ee γ l b).l,γ⟩:=rfl;rw[e10];simp only[Go.Ev.look];rw[if_neg (fun e=>e9 e.symm)]
        rw[←hl];exact this
      ·intro p hp;simp only[Bj]at hp;subst hp;exact hbox
      ·intro p hp hm;simp only[Bj]at hp;subst hp;have:=(h3.rng _ hm).2
       omega
     show Code.wpIn (Fr none) 0 Tp _ _ (a3.put (some 9) (.func (.func 182) #[] #[.pointer (some ⟨Nb,0,none⟩)])) w4
     rw[←ha4]
     refine wpIn_block (wpIn_mono (RA (X:=X.with [(Nb,.cells #[.slice (some ⟨r,off,none⟩) l.length cap] 37 (0,0))] [] none) (Q:=iX (Ee γ l b) (EH (Ah l) (Ah l).length) (G0 l)) hP h5 rfl (by kernel_rfl) (by kernel_rfl) h49 (enters_of Tryz.func182 (by kernel_rfl) rfl) (Ah l).length (fun k=>Pk (D2 (Ah l) k)) (YW hγ hγ2 l hl Nb)
      (Ee γ l b) (EH (Ah l)) (fun _=>True) trivial ?_ ?_ (fun k=>(D2 (Ah l) k).1.1.av (D2 (Ah l) k).1.2) (fun k=>.v (.int .i64 (D2 (Ah l) k).2)) (fun k _ c=>⟨Y6 _ _ c,by simp only[rel,Pk]⟩) ?_ (fun _=>rfl)) ?_)
     ·have e0:EH (Ah l) 0=Fx (.v (.slice none 0 0)):=by
       unfold EH;rw[if_neg]
       ·rfl
       ·rintro⟨h1,h2⟩
        rw[List.length_eq_zero_iff.1 h2.symm]at h1;simp at h1
      rw[e0];simp only[Ee,Jf,Fx,Ad,seval]
      (repeat' (first|(with_reducible refine aI ?_ ?_)|(first|(first|refine gF ?_ ?_|refine gT ?_ ?_|refine cI ?_ ?_|refine pI ?_ ?_)<;>intro h|(refine dI ?_;have h:=trivial))<;>simp only[h,Ad,An,Bv,Bf,seval]))
      all_goals first|rfl|exact .inl rfl
     ·intro X' φ' k a' W hP' hG hB hK ht hsr;refine⟨⟨_,_,hK _ (Bj.2 rfl),?_⟩,XI (c:=cx X' φ' (EH (Ah l) k) W) rfl (fun r hr=>hr.1) (fun k=>(hsr.gl k).2)⟩;have:=hsr.slots 8;rw[ht,h48]at this;exact PR (c:=cx X' φ' (EH (Ah l) k) W) (c':=kZ Tp W) (b:=b) (b':=false) rfl (fun r hr=>⟨hr.1,by show ¬False;exact fun h=>h⟩) this
     ·intro k hk _;show Fs Tp _ _ ⟨⟨22,(11,_)::(10,_)::(Ee γ l b).l,γ⟩,_⟩;obtain⟨hf1,hf2⟩:=Vi hk (fun j hj=>Yr l j hj);have hHk:EH (Ah l) k=II (((Ah l).take k).map fun x=>x.1):=by unfold EH;rw[if_neg (by omega)]
      rw[hHk];have hti:=Xq hk
      have hcount:(((Ah l).take k).map (fun x=>x.1)).length≤32769:=by
       rw[Bk,Bh];have:=LQ l;omega
      generalize ((Ah l).take k).map (fun x=>x.1)=toks at hti hcount⊢;obtain⟨⟨⟨t,pos⟩,e⟩,hx⟩:∃ x,x=D2 (Ah l) k:=⟨_,rfl⟩;rw[←hx]at hf1 hf2 hti⊢;have t25:AX Tp 26=some false:=by kernel_rfl
      cases hbad:EM ((t,pos),e)with
      |true=>
       have hres:G0 l=.tup [.v (.slice none 0 0),.v (.int .i64 pos),.v (.int .i64 e)]:=by unfold G0 MZ;rw[hf1 hbad]
       rw[hres];have hne:(e != 0)=true:=by have:=of_decide_eq_true hbad;simpa using this
       cases toks with
       |nil=>
        simp only[II,Fx,Ee,Jf,AG.av,AM,Ff,hne,Ad,An,seval];refine Cr.any (by kernel_rfl) ?_;show M0 _ _ _ 6 _ _
        all_goals (refine Dm (by decide +kernel) (Mv ?_ ?_ ?_ ?_ ?_ ?_)<;>first|exact notReady (by decide +kernel)|(intro _;refine⟨_,rfl,rfl,?_⟩;simp only[BH,BF,BG,Ad,An,seval]))
        all_goals (refine Dm (by decide +kernel) (Mv ?_ ?_ ?_ ?_ ?_ ?_)<;>first|exact notReady (by decide +kernel)|(intro _;refine⟨_,rfl,rfl,?_⟩;simp only[BH,BF,BG,Ad,An,seval]))
        all_goals (refine Dm (by decide +kernel) (Mv ?_ ?_ ?_ ?_ ?_ ?_)<;>first|exact notReady (by decide +kernel)|(intro _;refine⟨_,rfl,rfl,?_⟩;simp only[BH,BF,BG,Ad,An,seval]))
        all_goals (refine Dm (by decide +kernel) (Mv ?_ ?_ ?_ ?_ ?_ ?_)<;>first|exact notReady (by decide +kernel)|(intro _;refine⟨_,rfl,rfl,?_⟩;simp only[BH,BF,BG,Ad,An,seval]))
        all_goals (refine Dm (by decide +kernel) (Mv ?_ ?_ ?_ ?_ ?_ ?_)<;>first|exact notReady (by decide +kernel)|(intro _;refine⟨_,rfl,rfl,?_⟩;simp only[BH,BF,BG,Ad,An,seval]))
        all_goals (refine Dm (by decide +kernel) (Mv ?_ ?_ ?_ ?_ ?_ ?_)<;>first|exact notReady (by decide +kernel)|(intro _;refine⟨_,rfl,rfl,?_⟩;simp only[BH,BF,BG,Ad,An,seval]))
        all_goals refine⟨by decide +kernel,?_⟩
        all_goals simp only[Nl,P9,t25,Ad,An,seval]
       |cons y T=>
        simp only[II,Fx,Ee,Jf,AG.av,AM,Ff,hne,Ad,An,seval];refine Cr.any (by kernel_rfl) ?_;show M0 _ _ _ 6 _ _
        all_goals (refine Dm (by decide +kernel) (Mv ?_ ?_ ?_ ?_ ?_ ?_)<;>first|exact notReady (by decide +kernel)|(intro _;refine⟨_,rfl,rfl,?_⟩;simp only[BH,BF,BG,Ad,An,seval]))
        all_goals (refine Dm (by decide +kernel) (Mv ?_ ?_ ?_ ?_ ?_ ?_)<;>first|exact notReady (by decide +kernel)|(intro _;refine⟨_,rfl,rfl,?_⟩;simp only[BH,BF,BG,Ad,An,seval]))
        all_goals (refine Dm (by decide +kernel) (Mv ?_ ?_ ?_ ?_ ?_ ?_)<;>first|exact notReady (by decide +kernel)|(intro _;refine⟨_,rfl,rfl,?_⟩;simp only[BH,BF,BG,Ad,An,seval]))
        all_goals (refine Dm (by decide +kernel) (Mv ?_ ?_ ?_ ?_ ?_ ?_)<;>first|exact notReady (by decide +kernel)|(intro _;refine⟨_,rfl,rfl,?_⟩;simp only[BH,BF,BG,Ad,An,seval]))
        all_goals (refine Dm (by decide +kernel) (Mv ?_ ?_ ?_ ?_ ?_ ?_)<;>first|exact notReady (by decide +kernel)|(intro _;refine⟨_,rfl,rfl,?_⟩;simp only[BH,BF,BG,Ad,An,seval]))
        all_goals (refine Dm (by decide +kernel) (Mv ?_ ?_ ?_ ?_ ?_ ?_)<;>first|exact notReady (by decide +kernel)|(intro _;refine⟨_,rfl,rfl,?_⟩;simp only[BH,BF,BG,Ad,An,seval]))
        all_goals refine⟨by decide +kernel,?_⟩
        all_goals simp only[Nl,P9,t25,Ad,An,seval]
      |false=>
       have hee:e=0:=by
        have:=of_decide_eq_false hbad;simpa using this
       subst hee;have hz:((0:Int) != 0)=false:=by decide
       have hHk1:EH (Ah l) (k+1)=II (toks++[(t,pos)]):=by
        unfold EH
        by_cases hk1:k+1=(Ah l).length
        ·rw[if_neg (by rw[hf2 hbad hk1];rintro⟨q,_⟩;cases q),hti]
        ·rw[if_neg (by omega),hti]
       rw[hHk1];cases toks with
       |nil=>
        simp only[II,Fx,Ee,Jf,AG.av,AM,FR,Ff,hz,Bi,B7,CZ,A3,Ad,An,seval]
        (repeat' (first|(with_reducible refine aI ?_ ?_)|(first|(first|refine gF ?_ ?_|refine gT ?_ ?_|refine cI ?_ ?_|refine pI ?_ ?_)<;>intro h|(refine dI ?_;have h:=trivial))<;>simp only[h,FR,hz,Ad,An,Bv,Bf,seval]))
       |cons y T=>
        have e1:II ((y::T)++[(t,pos)])=Fx (.own 6 (T.length+1) (T.length+1+1))++[⟨0,53,B7 y⟩,⟨0,53,B7 y⟩,⟨T.length+1,53,A3 (y::T)++B7 (t,pos)⟩]:=by
         rw[←JS];simp only[Bc,II,Bp,BC,BD]
        have hlc:=HA (y::T);have htk:(A3 (y::T)).take ((T.length+1) * 6)=A3 (y::T):=Bt (by rw[hlc];exact BL _);rw[BC]at hlc hcount;rw[e1];have eh:II (y::T)=Fx (.own 6 T.length (T.length+1))++[⟨0,53,B7 y⟩,⟨0,53,B7 y⟩,⟨T.length,53,A3 (y::T)⟩]:=rfl;rw[eh];have hy6:B7 y=(CZ y.1 y.2).map AV.v:=rfl;have hx6:B7 (t,pos)=(CZ t pos).map AV.v:=rfl;have hLC7:=Ja 7 (y::T);have hY7:AK 7 (B7 y)=true:=J7 7 _;have hb7:=Ie 7 l;generalize A3 (y::T)=LC at hlc htk hLC7⊢;generalize B7 y=Y at *;generalize T.length=m at *;simp only[Fx,Ee,Jf,AG.av,AM,FR,Ff,hz,Bc,Bi,hx6,CZ,hlc,htk,Ad,An,seval]
        (repeat' (first|(with_reducible refine aI ?_ ?_)|(first|(first|refine gF ?_ ?_|refine gT ?_ ?_|refine cI ?_ ?_|refine pI ?_ ?_)<;>intro h|(refine dI ?_;have h:=trivial))<;>simp only[h,FR,hz,hlc,htk,Ad,An,Bv,Bf,seval]))
        all_goals try omega
        all_goals (refine .inr ⟨?_,?_⟩<;>simp[AK,okRefB,CM,Ig,hLC7,hY7])
     ·have hmk:∀ D,X.marks [D]=X.with [(D,Obj.deferred (some []))] [GX D] none:=fun D=>by simp[Fix.marks,hXK,hXdf]
      have fin:∀ (D:Nat) (φ5:List Nat) (st5:St) (a5:Act) (w5:World),X.w0.heap.size≤D→SR ((X.with [(Nb,.cells #[.slice (some ⟨r,off,none⟩) l.length cap] 37 (0,0))] [] none).marked D) φ5 st5 a5 w5→NN Tp [.cell 2 48,.cell 3 3,.cell 4 26] (G0 l) .ret st5→QMs X (dL Tp Tryz.f58.results.toList (G0 l)) .ret a5 w5:=fun D φ5 st5 a5 w5 hD h6 hq=>by
       refine⟨[D],φ5,st5,by simp,fun D' h=>by rw[Bj.1 h];exact hD,?_,JG hq⟩;rw[hmk];exact SR.fewer (X:=X) (K:=(D,Obj.deferred (some []))::[(Nb,.cells #[.slice (some ⟨r,off,none⟩) l.length cap] 37 (0,0))]) h6 (fun p hp=>by rw[Bj.1 hp];simp)
      rintro e a5 w5 ⟨D,φ5,st5,⟨hD,_⟩,h6,hq⟩
      cases e with
      |normal=>
       obtain rfl:st5=⟨Ee γ l b,EH (Ah l) (Ah l).length⟩:=hq;cases herr:(Ah l).find? EM with
       |some x=>
        exfalso
        have hH:EH (Ah l) (Ah l).length=[]:=by unfold EH;rw[if_pos ⟨by rw[herr];rfl,rfl⟩]
        rw[hH]at h6;have:=h6.slots 5;have h5':rel (.ptr 3 0 0) (cx ((X.with [(Nb,.cells #[.slice (some ⟨r,off,none⟩) l.length cap] 37 (0,0))] [] none).marked D) φ5 [] w5) (a5.tmps.getD 5 undef):=this;simp only[rel]at h5';obtain⟨k,β,hc,_⟩:=h5';have:=(Cw.1 (show Gg φ5 [] 3=some (k,β)from hc)).1;simp at this
       |none=>
        have hH:EH (Ah l) (Ah l).length=II ((Ah l).map fun x=>x.1):=by
         unfold EH;rw[if_neg (by rw[herr];rintro⟨q,_⟩;cases q),List.take_length]
        have hres:G0 l=.tup [Ct ((Ah l).map fun x=>x.1),.v (.int .i64 0),.v (.int .i64 0)]:=by unfold G0 MZ;rw[herr]
        rw[hH]at h6;refine wpIn_mono (Uq (X:=(X.with [(Nb,.cells #[.slice (some ⟨r,off,none⟩) l.length cap] 37 (0,0))] [] none).marked D) (r:=none) hP _ (oD (G0 l)) (by kernel_rfl) h6 ?_) ?_
        ·rw[hres];have hb7:=Ie 7 l;have t25:AX Tp 26=some false:=by kernel_rfl
         generalize (Ah l).map (fun x=>x.1)=toks;cases toks with
         |nil=>
          simp only[II,Fx,Ee,Jf,Sh,Ct,t25,Ad,An,seval]
          (repeat' (first|(with_reducible refine aI ?_ ?_)|(first|(first|refine gF ?_ ?_|refine gT ?_ ?_|refine cI ?_ ?_|refine pI ?_ ?_)<;>intro h|(refine dI ?_;have h:=trivial))<;>simp only[h,t25,Ad,An,Bv,Bf,seval]))
         |cons y T=>
          simp only[II,Fx,Ee,Jf,Sh,Ct,t25,Ad,An,seval]
          (repeat' (first|(with_reducible refine aI ?_ ?_)|(first|(first|refine gF ?_ ?_|refine gT ?_ ?_|refine cI ?_ ?_|refine pI ?_ ?_)<;>intro h|(refine dI ?_;have h:=trivial))<;>simp only[h,t25,Ad,An,Bv,Bf,seval]))
          rw[fz];exact .inr ⟨rfl,6,⟨T.length,53,A3 (y::T)⟩,A3 (y::T),rfl,rfl,BL _,.inl rfl,BB,MU _⟩
        ·rintro e a6 w6 ⟨φ6,st6,h7,hq6⟩
         cases e with
         |ret=>exact fin D φ6 st6 a6 w6 hD h7 hq6
         |_=>exact hq6.elim
      |ret=>exact fin D φ5 st5 a5 w5 hD h6 hq
      |_=>exact hq.elim
end Go.Proofs.YtlobiioioicmhaaGreatDoor
