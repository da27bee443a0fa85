/- The evaluator: abstract values, and code carried out on them. -/
import Derived.Test.YtlobiioioicmhaaGreatDoorDU1
import Derived.Laws.Tables
import Derived.Laws.Cells
import Derived.Laws.Entries
import Derived.Laws.CopyRow
import Derived.Laws.MakeOwn
import Derived.Laws.AppendOwn
import Derived.ArgAppend
import Derived.Laws.Strings
import Derived.Laws.BytesString
set_option linter.all false
set_option maxHeartbeats 8000000
namespace Go.Ev
open _root_.Bool renaming not_true→Bv
open _root_.List renaming getElem?_eq_some_iff→Bs,length_set→Bl,getElem?_eq_none→Bq,take_of_length_le→Bt,map_cons→BA,length_cons→BC,mem_cons→BI,getElem?_take→BY
open _root_.Nat renaming le_refl→BL
open Go Go.RowKit
def Nx(X:Fix)(K:St→Prop)(a:Act)(w:World):Prop:=∃ φ st,SR X φ st a w∧K st
section
variable {X:Fix} {φ:List Nat} {st:St} {a:Act} {w:World} {o:Oper} {Q:Exit→Act→World→Prop} {K:St→Prop}
theorem wp_val{s:Sem Value}(he:execOp a.eval o=(do pure (.value (←s)):Sem Next)){u:Value}{w':World}(hr:s.run X.P w=.ok u w')
  {N:Act→World→Prop} (hn:N (a.put o.dst u) w'):o.wp X.P a w N Q:=by
 unfold Oper.wp;rw[he,Sem.run_bind,hr];exact hn
theorem wp_yield(hs:SR X φ st a w){s:Sem Value}(he:execOp a.eval o=(do pure (.value (←s)):Sem Next)){u:Value}{w':World}(hr:s.run X.P w=.ok u w')(hw:w'=w∨w'=w.drew)
  {r:AV} (hrel:rel r (cx X φ st.h w) u) (hk:K { st with s:=putS st.s o.dst r }):o.wp X.P a w (Nx X K) Q:=by
 refine wp_val he hr ⟨φ,_,?_,hk⟩
 rcases hw with rfl|rfl
 ·exact hs.put _ hrel
 ·have hs':=hs.world (below_drew w);refine hs'.put _ (rel_mono (cx_le_same (w:=w) (w':=w.drew) (fun _ _=>rfl) (fun _ _=>rfl) (BL _) (fun β hβ=>(hs.rng β hβ).2) _) _ _ hrel)
theorem run_info{t:TypeId}{i:TypeInfo}(h:X.P.info? t=some i)(w:World):(typeInfo t).run X.P w=.ok i w:=by
 simp[typeInfo,h]
theorem run_size{P:Program}{t n:Nat}(h:sizeT P t=some n)(w:World):(sizeOf t).run P w=.ok n w:=by
 unfold sizeT at h;cases hi:P.info? t with
 |none=>simp[hi]at h
 |some i=>simp[hi]at h;simp[sizeOf,typeInfo,hi,h]
theorem run_zero{P:Program}{t:TypeId}{z:Value}(h:zeroT P t=some z)(w:World):(zeroValue t).run P w=.ok z w:=by
 unfold zeroT at h;cases hi:P.info? t with
 |none=>simp[hi]at h
 |some i=>simp[hi]at h;simp[zeroValue,typeInfo,hi,h]
theorem run_isAgg{P:Program}{t:TypeId}{b:Bool}(h:aggT P t=some b)(w:World):(isAgg t).run P w=.ok b w:=by
 unfold aggT at h;cases hd:P.underlying t with
 |none=>simp[hd]at h
 |some d=>
  rw[hd]at h;unfold isAgg;rw[Sem.run_bind,run_underlying hd w];cases d<;>simp_all
theorem elemT_eq{P:Program}{t e:TypeId}(h:elemT P t=some e):P.underlying t=some (.slice e):=by
 unfold elemT at h
 split at h
 ·cases h;assumption
 ·cases h
theorem arrT_eq{P:Program}{t n e:Nat}(h:arrT P t=some (n,e)):P.underlying t=some (.array n e):=by
 unfold arrT at h
 split at h
 ·cases h;assumption
 ·cases h
theorem intT_eq{P:Program}{t:Nat}{k:IntKind}(h:intT P t=some k):P.underlying t=some (.int k):=by
 unfold intT at h
 split at h
 ·cases h;assumption
 ·cases h
theorem strT_eq{P:Program}{t:Nat}(h:strT P t=true):P.underlying t=some .string:=by
 unfold strT at h
 split at h
 ·assumption
 ·cases h
theorem ifcT_eq{P:Program}{t:Nat}(h:ifcT P t=some true):∃ ms,P.underlying t=some (.interface ms):=by
 unfold ifcT at h;cases hd:P.underlying t with
 |none=>simp[hd]at h
 |some d=>rw[hd]at h;cases d<;>simp at h;exact⟨_,rfl⟩
theorem fieldT_eq{P:Program}{t f off ft:Nat}(h:fieldT P t f=some (off,ft)):∃ fs fd,P.underlying t=some (.struct fs)∧fs[f]?=some fd∧fd.offset=off∧fd.type=ft:=by
 unfold fieldT at h
 split at h
 ·rename_i fs hu;cases hf:fs[f]? with
  |none=>simp[hf]at h
  |some fd=>simp[hf]at h;exact⟨fs,fd,hu,hf,h.1,h.2⟩
 ·cases h
theorem sizeT_cells{P:Program}{t n:Nat}(h:sizeT P t=some n):P.cellsOf t=n:=by
 unfold sizeT at h;simp[Program.cellsOf,h]
theorem rel_one{c:Cx}{x:AV}{u:Value}(h:rel x c u)(ho:oneA x=true):u.oneCell'=true∧u.cells = #[u]:=by
 cases x with
 |v y=>simp only[rel]at h;subst h;refine⟨ho,?_⟩;cases u<;>simp[oneA,Value.oneCell']at ho<;>rfl
 |nan=>simp only[rel]at h;obtain⟨b,rfl,_⟩:=h;exact⟨rfl,rfl⟩
 |sl b n m cs=>simp only[rel]at h;obtain⟨r,off,cap,rfl,_⟩:=h;exact⟨rfl,rfl⟩
 |ela b cs=>simp only[rel]at h;obtain⟨r,off,rfl,_⟩:=h;exact⟨rfl,rfl⟩
 |agg cs=>simp[oneA]at ho
 |tup cs=>simp[oneA]at ho
 |ifc t x=>simp only[rel]at h;obtain⟨y,rfl,_⟩:=h;exact⟨rfl,rfl⟩
 |own i ver n=>simp only[rel]at h;obtain⟨_,_,_,_,⟨_,_,_,rfl⟩,_⟩:=h;exact⟨rfl,rfl⟩
 |ptr i ver off=>simp only[rel]at h;obtain⟨_,_,_,_,⟨_,rfl⟩,_⟩:=h;exact⟨rfl,rfl⟩
 |clo f fs cs=>simp only[rel]at h;obtain⟨_,_,rfl,_⟩:=h;exact⟨rfl,rfl⟩
 |bad=>simp[oneA]at ho
theorem relL_one{c:Cx}:∀ {xs:List AV} {us:List Value},relL xs c us→xs.all oneA=true→∀ u∈us,u.oneCell'=true
 |[],us,h,_,u,hu=>by simp only[relL]at h;subst h;simp at hu
 |x::xs,us,h,ho,u,hu=>by
  simp only[relL]at h;obtain⟨v,us',rfl,h2,h3⟩:=h;simp only[List.all_cons,Bool.and_eq_true]at ho
  rcases BI.1 hu with rfl|hm
  ·exact (rel_one h2 ho.1).1
  ·exact relL_one h3 ho.2 u hm
theorem rel_flat{c:Cx}{x:AV}{u:Value}{cs:List AV}(h:rel x c u)(hf:flat x=some cs):relL cs c u.cells.toList∧∀ v∈u.cells.toList,v.oneCell'=true:=by
 have key:∀ y:AV,rel y c u→oneA y=true→relL [y] c u.cells.toList∧∀ v∈u.cells.toList,v.oneCell'=true:=by
  intro y hy ho;obtain⟨h1,h2⟩:=rel_one hy ho;rw[h2];refine⟨by simp only[relL];exact⟨u,[],rfl,hy,rfl⟩,fun v hv=>?_⟩;simp at hv;subst hv;exact h1
 cases x with
 |agg cs'=>
  simp only[flat]at hf
  split at hf
  ·rename_i ho;cases hf;simp only[rel]at h;obtain⟨us,rfl,h2⟩:=h;exact⟨h2,relL_one h2 ho⟩
  ·cases hf
 |_=>
  simp only[flat]at hf
  split at hf
  ·rename_i ho;cases hf;exact key _ h ho
  ·cases hf
theorem rel_zeroCells(c:Cx)(z:Value):relL (zeroCells z) c z.cells.toList:=by
 cases z with
 |agg cs=>
  simp only[zeroCells,Value.cells];generalize cs.toList=l
  induction l with
  |nil=>simp[relL]
  |cons y l ih=>simp only[BA,relL,rel];exact⟨y,l,rfl,rfl,ih⟩
 |_=>simp only[zeroCells,Value.cells,relL,rel];exact⟨_,_,rfl,rfl,rfl⟩
theorem run_loadCells_at{P:Program}(r off:Nat)(us:List Value)(h:∀ (j:Nat) u,us[j]?=some u→w.cell? ⟨r,off+j,none⟩=some u):
  (loadCells ⟨r,off,none⟩ us.length).run P w=.ok us.toArray w:=
 run_loadCells_list w _ us (fun j v hv=>by rw[Addr.add_lit];exact h j v hv)
theorem relAt_list{c:Cx}{cs:List AV}{r off:Nat}(h:relAt cs c r off):∃ us,relL cs c us∧∀ (j:Nat) u,us[j]?=some u→c.w.cell? ⟨r,off+j,none⟩=some u:=by
 induction cs generalizing off with
 |nil=>exact⟨[],by simp[relL],fun j u h=>by simp at h⟩
 |cons x cs ih=>
  simp only[relAt]at h;obtain⟨⟨u,h1,h2⟩,h3⟩:=h;obtain⟨us,g1,g2⟩:=ih h3;refine⟨u::us,by simp only[relL];exact⟨u,us,rfl,h2,g1⟩,fun j v hv=>?_⟩;cases j with
  |zero=>simp at hv;subst hv;exact h1
  |succ j=>rw[show off+(j+1)=off+1+j by omega];exact g2 j v (by simpa using hv)
theorem run_takeA{c:Cx}{t:TypeId}{cs:List AV}{KA:AV→Prop}(h:takeA c.P t cs KA){r off:Nat}(hc:relAt cs c r off):
  ∃ x u,(loadVar t ⟨r,off,none⟩).run c.P c.w=.ok u c.w∧rel x c u∧KA x:=by
 unfold takeA at h
 split at h
 ·rename_i hb;obtain⟨n,hn,hle,hk⟩:=h;obtain⟨us,h1,h2⟩:=relAt_list (relAt_take hc n);have hl:us.length=n:=by have:=relL_length h1;simp at this;omega
  have hrun:=run_loadCells_at (P:=c.P) r off us h2;rw[hl]at hrun;refine⟨.agg (cs.take n),.agg us.toArray,?_,by simp only[rel];exact⟨_,rfl,by simpa using h1⟩,hk⟩;simp only[loadVar,Sem.run_bind,run_isAgg hb,Result.andThen_ok,if_true,run_size hn,hrun]
  rfl
 ·rename_i hb;obtain⟨x,hx,hk⟩:=h;obtain⟨u,hu,hr⟩:=relAt_get hc 0 x hx;refine⟨x,u,?_,hr,hk⟩;have hu':c.w.cell? ⟨r,off,none⟩=some u:=hu;simp[loadVar,Sem.run_bind,run_isAgg hb,run_load,hu']
 ·exact h.elim
theorem SR.at(hs:SR X φ st a w){i:Nat}{k:ABlk}(hk:st.h[i]?=some k):∃ β vs fr,φ[i]?=some β∧curOf φ st.h i=some (k,β)∧w.heap[β]?=some (.cells vs k.e fr)∧k.cells.length≤vs.size∧
  (∀ off,off<vs.size→¬(fr.1≤off∧off<fr.2))∧relAt k.cells (cx X φ st.h w) β 0:=by
 have hl:i<φ.length:=by rw[hs.φlen];exact (Bs.1 hk).1
 have hβ:φ[i]?=some φ[i]:=List.getElem?_eq_getElem hl;obtain⟨⟨vs,fr,h1,h2,h3⟩,h4⟩:=hs.blk i k _ hk hβ;exact⟨_,vs,fr,hβ,curOf_eq.2 ⟨hk,hβ⟩,h1,h2,h3,h4⟩
theorem relAt_shut{c:Cx}{cs:List AV}{r off:Nat}(h:relAt cs c.shut r off)(hr:∃ b,c.ok b r):relAt cs c r off:=
 relAt_mono (c:=c.shut) (c':=c) ⟨rfl,fun _ _ h=>h,fun _ _ _ _ _ h=>h,fun _ _ _ h=>by cases h⟩ cs r off hr h
theorem op_load(hs:SR X φ st a w){t:TypeId}{x:Operand}(ho:o.op=.load t x)
  (h:loadA X.P t st (get st.s x) fun r=>K { st with s:=putS st.s o.dst r }):o.wp X.P a w (Nx X K) Q:=by
 have hx:=hs.get x;have he:execOp a.eval o=(do pure (.value (←Instr.loadAt t (a.eval x))):Sem Next):=by simp only[execOp,ho]
 have key:∀ (r off:Nat) (cs:List AV),a.eval x=.pointer (some ⟨r,off,none⟩)→relAt cs (cx X φ st.h w) r off→takeA X.P t cs (fun r=>K { st with s:=putS st.s o.dst r })→o.wp X.P a w (Nx X K) Q:=by
  intro r off cs hu hc ht;obtain⟨y,u,hr,hrel,hk⟩:=run_takeA (c:=cx X φ st.h w) ht hc;refine wp_yield hs he (u:=u) (w':=w) ?_ (.inl rfl) hrel hk;rw[hu];exact hr
 unfold loadA at h
 split at h
 ·rename_i i ver off hg;obtain⟨k,hk,hv,ht⟩:=h;obtain⟨β,vs,fr,h1,h2,h3,h4,h5,h6⟩:=hs.at hk;rw[hg]at hx;simp only[rel]at hx;obtain⟨k',β',g1,g2,g3,g4⟩:=hx;have:curOf φ st.h i=some (k',β'):=g1;rw[h2]at this;cases this;refine key β off _ (g4 hv) ?_ ht;simpa using relAt_drop h6 off
 ·rename_i b cs hg;rw[hg]at hx;simp only[rel]at hx;obtain⟨r,off,g1,g2,g3⟩:=hx;exact key r off cs g1 (relAt_shut g3 ⟨_,g2⟩) h
 ·exact h.elim
theorem relL_setMany{c:Cx}:∀ (xs:List AV) (us:List Value) (l:List AV) (vs:List Value) (i:Nat),relL xs c us→relL l c (vs.take l.length)→i+xs.length≤l.length→l.length≤vs.length→
  relL (setMany l i xs) c ((vs.take i++us++vs.drop (i+us.length)).take l.length)
 |[],us,l,vs,i,hx,hl,_,_=>by
  simp only[relL]at hx;subst hx;simpa[setMany]using hl
 |x::xs,us,l,vs,i,hx,hl,hle,hlv=>by
  simp only[relL]at hx;obtain⟨u,us',rfl,h2,h3⟩:=hx;simp only[BC]at hle
  have hset:relL (l.set i x) c ((vs.set i u).take (l.set i x).length):=by
   have:=relL_set hl i h2;rw[Bl,List.take_set];exact this
  have:=relL_setMany xs us' (l.set i x) (vs.set i u) (i+1) h3 hset (by simp;omega) (by simp;omega);simp only[setMany];rw[Bl]at this
  have e:(vs.set i u).take (i+1)++us'++(vs.set i u).drop (i+1+us'.length)=vs.take i++(u::us')++vs.drop (i+(u::us').length):=by
   have hi:i<vs.length:=by omega
   rw[List.drop_set_of_lt (by omega)]
   have:(vs.set i u).take (i+1)=vs.take i++[u]:=by
    rw[List.take_succ_eq_append_getElem (by simpa using hi)];simp[List.take_set_of_le]
   rw[this];simp[Nat.add_assoc,Nat.add_comm,Nat.add_left_comm]
  rw[e]at this;exact this
theorem run_storeCells_blk{P:Program}(g:Nat)(t:TypeId)(fr:Nat×Nat):∀ (vs:List Value) (i off:Nat) (cur:Array Value) (w:World),w.heap[g]?=some (.cells cur t fr)→off+i+vs.length≤cur.size→
  (∀ q,q<cur.size→¬(fr.1≤q∧q<fr.2))→(∀ v∈vs,v.oneCell'=true)→
  ∃ w',(storeCells ⟨g,off,none⟩ vs i).run P w=.ok () w'∧w'.heap[g]?=some (.cells (cur.toList.take (off+i)++vs++cur.toList.drop (off+i+vs.length)).toArray t fr)∧
   (∀ r,r≠g→w'.heap[r]?=w.heap[r]?)∧w'.heap.size=w.heap.size∧w'.os=w.os∧w'.tape=w.tape∧w'.output=w.output
 |[],i,off,cur,w,hg,hl,hf,_=>⟨w,rfl,by simpa using hg,fun _ _=>rfl,rfl,rfl,rfl,rfl⟩
 |v::rest,i,off,cur,w,hg,hl,hf,h1=>by
  simp only[BC]at hl;have hi:off+i<cur.size:=by omega
  have hcell:w.cell? ⟨g,off+i,none⟩=some cur[off+i]:=by simp[World.cell?,hg,hi]
  have hfro:w.frozen? ⟨g,off+i,none⟩=false:=by
   have:=hf (off+i) hi;simp only[World.frozen?,hg];simp only[Bool.and_eq_false_iff,decide_eq_false_iff_not]
   omega
  have hset:(w.setCell ⟨g,off+i,none⟩ v).heap[g]?=some (.cells (cur.setIfInBounds (off+i) v) t fr):=by
   simp[World.setCell,Array.getElem?_modify,hg]
  have hst:(store ((⟨g,off,none⟩:Addr).add i) v).run P w=.ok () (w.setCell ⟨g,off+i,none⟩ v):=by
   rw[Addr.add_lit,run_store P w _ v _ (h1 v (by simp)),hcell];simp[hfro]
  obtain⟨w',g1,g2,g3,g4,g5,g6,g7⟩:=run_storeCells_blk g t fr rest (i+1) off (cur.setIfInBounds (off+i) v) (w.setCell ⟨g,off+i,none⟩ v) hset (by simp;omega) (by simpa using hf) (fun x hx=>h1 x (by simp[hx]));refine⟨w',by simp only[storeCells,Sem.run_bind,hst,Result.andThen_ok];exact g1,?_,fun r hr=>by rw[g3 r hr,Below.heap_setCell _ _ _ _ hr],by rw[g4];simp,g5,g6,g7⟩;rw[g2]
  congr 2
  apply congrArg
  have hi':off+i<cur.toList.length:=by simpa using hi
  simp only[Array.toList_setIfInBounds];rw[List.drop_set_of_lt (by omega)]
  have:(cur.toList.set (off+i) v).take (off+(i+1))=cur.toList.take (off+i)++[v]:=by
   rw[show off+(i+1)=off+i+1 by omega,List.take_succ_eq_append_getElem (by simpa using hi')];simp[List.take_set_of_le]
  rw[this];simp[Nat.add_assoc,Nat.add_comm,Nat.add_left_comm]
theorem op_store(hs:SR X φ st a w){t:TypeId}{x y:Operand}(ho:o.op=.store t x y)
  (h:storeA X.P t st (get st.s x) (get st.s y) fun s'=>K { s' with s:=putS s'.s o.dst .bad }):o.wp X.P a w (Nx X K) Q:=by
 have hx:=hs.get x;have hy:=hs.get y;unfold storeA at h
 split at h
 ·rename_i i ver off hg;obtain⟨k,cs,hk,hv,hf,hsz,hle,hK⟩:=h;obtain⟨β,vs,fr,h1,h2,h3,h4,h5,h6⟩:=hs.at hk;rw[hg]at hx;simp only[rel]at hx;obtain⟨k',β',g1,g2,g3,g4⟩:=hx;have:curOf φ st.h i=some (k',β'):=g1;rw[h2]at this;cases this;have hu:=g4 hv;obtain⟨hc,hone⟩:=rel_flat hy hf;have hlen:(a.eval y).cells.toList.length=cs.length:=relL_length hc;obtain⟨w',r1,r2,r3,r4,r5,r6,r7⟩:=run_storeCells_blk (P:=X.P) β k.e fr (a.eval y).cells.toList 0 off vs w h3 (by omega) h5 hone
  have hst:(storeVar t ⟨β,off,none⟩ (a.eval y)).run X.P w=.ok () w':=by
   have e:(a.eval y).cells.size=cs.length:=by simpa using hlen
   simp only[storeVar,Sem.run_bind,run_size hsz,Result.andThen_ok,e,ne_eq,not_true_eq_false,if_false];exact r1
  have hrun:(execOp a.eval o).run X.P w=.ok .skip w':=by
   simp[execOp,ho,hu,Instr.storeAt,Instr.sureAddr,hst]
  unfold Oper.wp;rw[hrun];obtain⟨us0,q1,q2⟩:=relAt_list h6
  have hvs:relL k.cells (cx X φ st.h w) (vs.toList.take k.cells.length):=by
   refine relL_of_get (by simp;omega) fun j z hz=>?_
   obtain⟨u,hu',hr⟩:=relAt_get h6 j z hz;refine⟨u,?_,hr⟩;have hj:=(Bs.1 hz).1;rw[BY,if_pos hj];simp only[cx,World.cell?,Nat.zero_add,h3]at hu';simpa using hu'
  have hnew:=relL_setMany cs (a.eval y).cells.toList k.cells vs.toList off hc hvs hle (by simpa using h4)
  have hlens:(setMany k.cells off cs).length=k.cells.length:=by
   have:∀ (xs l:List AV) (i:Nat),(setMany l i xs).length=l.length:=by
    intro xs
    induction xs with
    |nil=>intro l i;rfl
    |cons x xs ih=>intro l i;simp[setMany,ih]
   exact this _ _ _
  have hsr:=hs.upd (w':=w') hk h1 (vs:=vs) (vs':=(vs.toList.take (off+0)++(a.eval y).cells.toList++vs.toList.drop (off+0+(a.eval y).cells.toList.length)).toArray) (fr:=fr) (cells:=setMany k.cells off cs) (ver:=k.ver) (BL _) h3 r2
   (by simp;simp at hlen;omega) r3 r4 r5 r6 r7 (by simpa[hlens]using hnew)
  exact⟨φ,_,hsr.put o.dst (r:=.bad) (u:=undef) (by simp only[rel]),hK⟩
 ·exact h.elim
end
section
variable {X:Fix} {φ:List Nat} {st:St} {a:Act} {w:World} {o:Oper} {Q:Exit→Act→World→Prop} {K:St→Prop}
theorem op_move(hs:SR X φ st a w){x:Operand}(ho:o.op=.move x∨o.op=.assign x)(h:K { st with s:=putS st.s o.dst (get st.s x) }):o.wp X.P a w (Nx X K) Q:=by
 have he:execOp a.eval o=pure (.value (a.eval x)):=by rcases ho with ho|ho<;>simp only[execOp,ho]
 unfold Oper.wp;rw[he];exact⟨φ,_,hs.put _ (hs.get x),h⟩
theorem op_alloc(hs:SR X φ st a w){t:TypeId}(ho:o.op=.alloc t){z:Value}(hz:zeroT X.P t=some z)
  (h:K { s:=putS st.s o.dst (.ptr st.h.length 0 0),h:=st.h++[⟨0,t,zeroCells z⟩] }):o.wp X.P a w (Nx X K) Q:=by
 have he:execOp a.eval o=(do pure (.value (←Instr.alloc t true (.tuple #[]))):Sem Next):=by simp only[execOp,ho]
 have hrun:(Instr.alloc t true (.tuple #[])).run X.P w=.ok (.pointer (some ⟨w.heap.size,0,none⟩)) (w.alloc (.cells z.cells t)):=by
  simp[Instr.alloc,run_zero hz,newVar,newRow]
 have hl:z.cells.toList.take (zeroCells z).length=z.cells.toList:=Bt (by rw[relL_length (rel_zeroCells (cx X φ st.h w) z)];exact BL _);obtain⟨hp,_⟩:=hs.push (vs:=z.cells) (e:=t) (fr:=(0,0)) (cells:=zeroCells z) (ver:=0) (by rw[hl];exact rel_zeroCells _ z) (fun off _=>by omega);refine wp_val he hrun ⟨_,_,hp.put o.dst (r:=.ptr st.h.length 0 0) (u:=.pointer (some ⟨w.heap.size,0,none⟩)) ?_,h⟩;simp only[rel];exact⟨⟨0,t,zeroCells z⟩,w.heap.size,curOf_eq.2 ⟨by simp,by rw[←hs.φlen];simp⟩,BL _,⟨_,rfl⟩,fun _=>rfl⟩
theorem op_box(hs:SR X φ st a w){t:TypeId}{x:Operand}(ho:o.op=.box t x){cs:List AV}(hf:flat (get st.s x)=some cs)
  (h:K { s:=putS st.s o.dst (.ptr st.h.length 0 0),h:=st.h++[⟨0,t,cs⟩] }):o.wp X.P a w (Nx X K) Q:=by
 have he:execOp a.eval o=(do pure (.value (←Instr.box t (a.eval x))):Sem Next):=by simp only[execOp,ho]
 have hrun:(Instr.box t (a.eval x)).run X.P w=.ok (.pointer (some ⟨w.heap.size,0,none⟩)) (w.alloc (.cells (a.eval x).cells t)):=by
  simp[Instr.box,newVar,newRow]
 obtain⟨hc,_⟩:=rel_flat (hs.get x) hf;have hl:(a.eval x).cells.toList.take cs.length=(a.eval x).cells.toList:=Bt (by rw[relL_length hc];exact BL _);obtain⟨hp,_⟩:=hs.push (vs:=(a.eval x).cells) (e:=t) (fr:=(0,0)) (cells:=cs) (ver:=0) (by rw[hl];exact hc) (fun off _=>by omega);refine wp_val he hrun ⟨_,_,hp.put o.dst (r:=.ptr st.h.length 0 0) (u:=.pointer (some ⟨w.heap.size,0,none⟩)) ?_,h⟩;simp only[rel];exact⟨⟨0,t,cs⟩,w.heap.size,curOf_eq.2 ⟨by simp,by rw[←hs.φlen];simp⟩,BL _,⟨_,rfl⟩,fun _=>rfl⟩
theorem SR.ptr(hs:SR X φ st a w){x:Operand}{i ver off:Nat}(hg:Ev.get st.s x=.ptr i ver off)(hl:liveA st i ver):∃ k β,a.eval x=.pointer (some ⟨β,off,none⟩)∧curOf φ st.h i=some (k,β)∧ver=k.ver:=by
 obtain⟨k,hk,hv⟩:=hl;obtain⟨β,vs,fr,h1,h2,h3,h4,h5,h6⟩:=hs.at hk;have hx:=hs.get x;rw[hg]at hx;simp only[rel]at hx;obtain⟨k',β',g1,g2,g3,g4⟩:=hx;have:curOf φ st.h i=some (k',β'):=g1;rw[h2]at this;cases this;exact⟨k,β,g4 hv,h2,hv⟩
theorem SR.own(hs:SR X φ st a w){x:Operand}{i ver n:Nat}(hg:Ev.get st.s x=.own i ver n){k:ABlk}(hk:st.h[i]?=some k)(hv:ver=k.ver):
  ∃ β cap vs fr,a.eval x=.slice (some ⟨β,0,none⟩) n cap∧n≤cap∧vs.size=cap * X.P.cellsOf k.e∧φ[i]?=some β∧curOf φ st.h i=some (k,β)∧w.heap[β]?=some (.cells vs k.e fr)∧k.cells.length≤vs.size∧
  (∀ off,off<vs.size→¬(fr.1≤off∧off<fr.2))∧relAt k.cells (cx X φ st.h w) β 0:=by
 obtain⟨β,vs,fr,h1,h2,h3,h4,h5,h6⟩:=hs.at hk;have hx:=hs.get x;rw[hg]at hx;simp only[rel]at hx;obtain⟨k',β',g1,g2,g3,g4⟩:=hx;have:curOf φ st.h i=some (k',β'):=g1;rw[h2]at this;cases this;obtain⟨cap,q1,q2,q3⟩:=g4 hv;have q4:w.shape? β=some (k.e,cap * X.P.cellsOf k.e):=q3;simp only[World.shape?,h3]at q4;exact⟨β,cap,vs,fr,q1,q2,by simpa using q4,h1,h2,h3,h4,h5,h6⟩
theorem rel_ptr{k:ABlk}{β i ver off:Nat}(hc:curOf φ st.h i=some (k,β))(hv:ver=k.ver):rel (.ptr i ver off) (cx X φ st.h w) (.pointer (some ⟨β,off,none⟩)):=by
 simp only[rel];exact⟨k,β,hc,by omega,⟨_,rfl⟩,fun _=>rfl⟩
theorem rel_own{k:ABlk}{β i ver n cap:Nat}(hc:curOf φ st.h i=some (k,β))(hv:ver=k.ver)(hn:n≤cap)(hs:w.shape? β=some (k.e,cap * X.P.cellsOf k.e)):rel (.own i ver n) (cx X φ st.h w) (.slice (some ⟨β,0,none⟩) n cap):=by
 simp only[rel];exact⟨k,β,hc,by omega,⟨_,_,_,rfl⟩,fun _=>⟨cap,rfl,hn,hs⟩⟩
theorem op_nilCheck(hs:SR X φ st a w){x:Operand}(ho:o.op=.nilCheck x)(hx:(∃ i ver off,get st.s x=.ptr i ver off∧liveA st i ver)∨∃ b cs,get st.s x=.ela b cs)
  (h:K { st with s:=putS st.s o.dst (get st.s x) }):o.wp X.P a w (Nx X K) Q:=by
 have:∃ ad,a.eval x=.pointer (some ad):=by
  rcases hx with⟨i,ver,off,hg,hl⟩|⟨b,cs,hg⟩
  ·obtain⟨k,β,h1,_⟩:=hs.ptr hg hl;exact⟨_,h1⟩
  ·have:=hs.get x;rw[hg]at this;simp only[rel]at this;obtain⟨r,off,h1,_⟩:=this;exact⟨_,h1⟩
 obtain⟨ad,hu⟩:=this;have he:execOp a.eval o=pure (.value (a.eval x)):=by simp only[execOp,ho,hu]
 unfold Oper.wp;rw[he];exact⟨φ,_,hs.put _ (hs.get x),h⟩
theorem op_fieldAddr(hs:SR X φ st a w){t f:Nat}{x:Operand}(ho:o.op=.fieldAddr t x f)(h:fieldAddrA X.P t st (get st.s x) f fun r=>K { st with s:=putS st.s o.dst r }):o.wp X.P a w (Nx X K) Q:=by
 have hx:=hs.get x;have he:execOp a.eval o=(do pure (.value (←Instr.fieldAt t (a.eval x) f)):Sem Next):=by simp only[execOp,ho]
 obtain⟨off,ft,n,hf,hsz,hn,hm⟩:=h;obtain⟨fs,fd,hu,hfs,rfl,rfl⟩:=fieldT_eq hf
 have hrun:∀ r p,a.eval x=.pointer (some ⟨r,p,none⟩)→(Instr.fieldAt t (a.eval x) f).run X.P w=.ok (.pointer (some ⟨r,p+fd.offset,none⟩)) w:=by
  intro r p e;simp[Instr.fieldAt,run_underlying hu,hfs,e,Instr.sureAddr,fieldPlace,run_size hsz,hn,Addr.add_lit]
 split at hm
 ·rename_i i ver p hg;obtain⟨k,β,h1,h2,h3⟩:=hs.ptr hg hm.1;exact wp_yield hs he (hrun _ _ h1) (.inl rfl) (rel_ptr h2 h3) hm.2
 ·rename_i b cs hg;rw[hg]at hx;simp only[rel]at hx;obtain⟨r,p,g1,g2,g3⟩:=hx;refine wp_yield hs he (hrun _ _ g1) (.inl rfl) (r:=.ela b (cs.drop fd.offset)) ?_ hm;simp only[rel];exact⟨r,_,rfl,g2,relAt_drop g3 _⟩
 ·exact hm.elim
theorem op_indexAddr(hs:SR X φ st a w){t:Nat}{x y:Operand}(ho:o.op=.indexAddr t x y)(h:indexAddrA X.P t st (get st.s x) (get st.s y) fun r=>K { st with s:=putS st.s o.dst r }):o.wp X.P a w (Nx X K) Q:=by
 have hx:=hs.get x;have hy:=hs.get y;have he:execOp a.eval o=(do pure (.value (←Instr.indexAt t (a.eval x) (a.eval y))):Sem Next):=by simp only[execOp,ho]
 unfold indexAddrA at h
 split at h
 ·rename_i kk i hgy;rw[hgy]at hy;simp only[rel]at hy
  split at h
  ·rename_i b n m cs hg;obtain⟨e,sz,h1,h2,h3,h4,hk⟩:=h;rw[hg]at hx;simp only[rel]at hx;obtain⟨r,off,cap,g1,g2,g3,g4,g5⟩:=hx;refine wp_yield hs he (u:=.pointer (some ⟨r,off+i.toNat * sz,none⟩)) (w':=w) ?_ (.inl rfl) (r:=.ela b (cs.drop (i.toNat * sz))) ?_ hk
   ·simp[Instr.indexAt,hy,g1,asIntOf,run_underlying (elemT_eq h1),h3,h4,run_size h2,Addr.add_lit]
   ·simp only[rel];exact⟨r,_,rfl,g4,relAt_drop g5 _⟩
  ·rename_i j ver n hg;obtain⟨k,e,sz,hk,hv,h1,h2,h3,h4,hK⟩:=h;obtain⟨β,cap,vs,fr,g1,g2,g3,g4,g5,_⟩:=hs.own hg hk hv;refine wp_yield hs he (u:=.pointer (some ⟨β,i.toNat * sz,none⟩)) (w':=w) ?_ (.inl rfl) (rel_ptr g5 hv) hK;simp[Instr.indexAt,hy,g1,asIntOf,run_underlying (elemT_eq h1),h3,h4,run_size h2,Addr.add_lit]
  ·rename_i j ver off hg;obtain⟨hl,n,e,sz,h1,h2,h3,h4,hK⟩:=h;obtain⟨k,β,g1,g2,g3⟩:=hs.ptr hg hl;refine wp_yield hs he (u:=.pointer (some ⟨β,off+i.toNat * sz,none⟩)) (w':=w) ?_ (.inl rfl) (rel_ptr g2 g3) hK;simp[Instr.indexAt,Instr.sureAddr,hy,g1,asIntOf,run_underlying (arrT_eq h1),h3,h4,run_size h2,Addr.add_lit]
  ·exact h.elim
 ·exact h.elim
theorem run_part{c:Cx}{t:TypeId}{cs:List AV}{KA:AV→Prop}{off:Nat}(h:takeA c.P t (cs.drop off) KA){us:Array Value}(hc:relL cs c us.toList)(w:World):
  ∃ x u,(part t us off).run c.P w=.ok u w∧rel x c u∧KA x:=by
 have hd:=relL_drop hc off;unfold takeA at h
 split at h
 ·rename_i hb;obtain⟨n,hn,hle,hk⟩:=h;refine⟨_,.agg (us.extract off (off+n)),?_,?_,hk⟩
  ·simp[part,run_isAgg hb,run_size hn]
  ·simp only[rel];refine⟨_,rfl,?_⟩;have:(us.extract off (off+n)).toList=(us.toList.drop off).take n:=by simp[List.extract_eq_take_drop]
   rw[this];exact relL_take hd n
 ·rename_i hb;obtain⟨x,hx,hk⟩:=h;obtain⟨u,hu,hr⟩:=relL_get hd 0 x hx;refine⟨x,u,?_,hr,hk⟩;have:us[off]?=some u:=by simpa using hu
  simp[part,run_isAgg hb,this]
 ·exact h.elim
theorem op_field(hs:SR X φ st a w){t f:Nat}{x:Operand}(ho:o.op=.field t x f){cs:List AV}(hg:get st.s x=.agg cs){off ft:Nat}(hf:fieldT X.P t f=some (off,ft))
  (h:takeA X.P ft (cs.drop off) fun r=>K { st with s:=putS st.s o.dst r }):o.wp X.P a w (Nx X K) Q:=by
 have hx:=hs.get x;rw[hg]at hx;simp only[rel]at hx;obtain⟨us,hu,hc⟩:=hx;have he:execOp a.eval o=(do pure (.value (←Instr.field t (a.eval x) f)):Sem Next):=by simp only[execOp,ho]
 obtain⟨fs,fd,hund,hfs,rfl,rfl⟩:=fieldT_eq hf;obtain⟨y,u,h1,h2,h3⟩:=run_part (c:=cx X φ st.h w) h hc w;have h1':(part fd.type us fd.offset).run X.P w=.ok u w:=h1;refine wp_yield hs he (u:=u) (w':=w) ?_ (.inl rfl) h2 h3;simp[Instr.field,run_underlying hund,hfs,hu,asAgg,h1']
theorem str_get(s:ByteArray)(i:Nat)(h:i<s.data.toList.length):∃ b,s[i]?=some b∧s.data.toList[i]?=some b:=by
 have h':i<s.size:=by simpa using h
 refine⟨s[i],by simp[h'],?_⟩;rw[List.getElem?_eq_getElem h]
 rfl
theorem op_index(hs:SR X φ st a w){t:Nat}{x y:Operand}(ho:o.op=.index t x y)(h:indexA X.P t (get st.s x) (get st.s y) fun r=>K { st with s:=putS st.s o.dst r }):o.wp X.P a w (Nx X K) Q:=by
 have hx:=hs.get x;have hy:=hs.get y;have he:execOp a.eval o=(do pure (.value (←Instr.index t (a.eval x) (a.eval y))):Sem Next):=by simp only[execOp,ho]
 unfold indexA at h
 split at h
 ·rename_i kk i hgy;rw[hgy]at hy;simp only[rel]at hy
  split at h
  ·rename_i s hg;rw[hg]at hx;simp only[rel]at hx;obtain⟨h1,h2,h3,hk⟩:=h;obtain⟨b,g1,g2⟩:=str_get s i.toNat (by omega);refine wp_yield hs he (u:=.int .u8 b.toNat) (w':=w) ?_ (.inl rfl) ?_ hk
   ·simp[Instr.index,hy,hx,asIntOf,run_underlying (strT_eq h1),h2,g1]
   ·simp[rel,sAt,g2]
  ·rename_i cs hg;obtain⟨n,e,sz,h1,h2,h3,h4,hk⟩:=h;rw[hg]at hx;simp only[rel]at hx;obtain⟨us,hu,hc⟩:=hx;obtain⟨z,u,g1,g2,g3⟩:=run_part (c:=cx X φ st.h w) hk hc w;have g1':(part e us (i.toNat * sz)).run X.P w=.ok u w:=g1;refine wp_yield hs he (u:=u) (w':=w) ?_ (.inl rfl) g2 g3;simp[Instr.index,hy,hu,asIntOf,run_underlying (arrT_eq h1),h3,h4,run_size h2,g1']
  ·exact h.elim
 ·exact h.elim
theorem op_extract(hs:SR X φ st a w){i:Nat}{x:Operand}(ho:o.op=.extract x i){cs:List AV}(hg:get st.s x=.tup cs){y:AV}(hy:cs[i]?=some y)
  (h:K { st with s:=putS st.s o.dst y }):o.wp X.P a w (Nx X K) Q:=by
 have hx:=hs.get x;rw[hg]at hx;simp only[rel]at hx;obtain⟨us,hu,hc⟩:=hx;obtain⟨u,h1,h2⟩:=relL_get hc i y hy;have he:execOp a.eval o=(do pure (.value (←Instr.extract (a.eval x) i)):Sem Next):=by simp only[execOp,ho]
 refine wp_yield hs he (u:=u) (w':=w) ?_ (.inl rfl) h2 h;have:us[i]?=some u:=by simpa using h1
 simp[Instr.extract,hu,this]
theorem op_makeInterface(hs:SR X φ st a w){t:TypeId}{x:Operand}(ho:o.op=.makeInterface t x)(ht:ifcT X.P t=some false)(h:K { st with s:=putS st.s o.dst (.ifc t (get st.s x)) }):o.wp X.P a w (Nx X K) Q:=by
 have he:execOp a.eval o=(do pure (.value (←Instr.makeInterface t (a.eval x))):Sem Next):=by simp only[execOp,ho]
 unfold ifcT at ht;cases hd:X.P.underlying t with
 |none=>simp[hd]at ht
 |some d=>
  rw[hd]at ht;refine wp_yield hs he (u:=.iface t (a.eval x)) (w':=w) ?_ (.inl rfl) (r:=.ifc t (get st.s x)) (by simp only[rel];exact⟨_,rfl,hs.get x⟩) h;cases d<;>simp at ht<;>simp[Instr.makeInterface,run_underlying hd]
theorem op_pick(hs:SR X φ st a w){c x y:Operand}(ho:o.op=.pick c x y){z:Bool}(hg:get st.s c=.v (.bool z))
  (h1:z=true→K { st with s:=putS st.s o.dst (get st.s x) }) (h2:z=false→K { st with s:=putS st.s o.dst (get st.s y) }):o.wp X.P a w (Nx X K) Q:=by
 have hc:=hs.get c;rw[hg]at hc;simp only[rel]at hc;unfold Oper.wp;cases z with
 |true=>
  have he:(execOp a.eval o).run X.P w=.ok (.value (a.eval x)) w:=by simp[execOp,ho,hc,asBool]
  rw[he];exact⟨φ,_,hs.put _ (hs.get x),h1 rfl⟩
 |false=>
  have he:(execOp a.eval o).run X.P w=.ok (.value (a.eval y)) w:=by simp[execOp,ho,hc,asBool]
  rw[he];exact⟨φ,_,hs.put _ (hs.get y),h2 rfl⟩
theorem op_part(hs:SR X φ st a w){c:Call}(ho:o.op=.call c){im:Bool}(hc:c.callee=.builtin (if im then .imag else .real)){x:Operand}(hx:c.args = #[x]){r:AV}(h:partS im (get st.s x)=some r)
  (hk:K { st with s:=putS st.s o.dst r }):o.wp X.P a w (Nx X K) Q:=by
 have hr:=hs.get x;unfold partS at h
 split at h
 ·rename_i p q hg;cases h;rw[hg]at hr;simp only[rel]at hr;cases im with
  |true=>
   have he:execOp a.eval o=(do pure (.value (←Builtin.imag_ c.argTypes o.type #[a.eval x])):Sem Next):=by
    simp only[execOp,ho,resolve,hc,hx,List.map_toArray,BA,List.map_nil];rfl
   exact wp_yield hs he (u:=.float .f64 q) (w':=w) (by rw[hr];rfl) (.inl rfl) (by simp[rel]) hk
  |false=>
   have he:execOp a.eval o=(do pure (.value (←Builtin.real_ c.argTypes o.type #[a.eval x])):Sem Next):=by
    simp only[execOp,ho,resolve,hc,hx,List.map_toArray,BA,List.map_nil];rfl
   exact wp_yield hs he (u:=.float .f64 p) (w':=w) (by rw[hr];rfl) (.inl rfl) (by simp[rel]) hk
 ·cases h
theorem op_comp(hs:SR X φ st a w){c:Call}(ho:o.op=.call c)(hc:c.callee=.builtin .complex){x y:Operand}(hx:c.args = #[x,y]){r:AV}(h:compS (get st.s x) (get st.s y)=some r)
  (hk:K { st with s:=putS st.s o.dst r }):o.wp X.P a w (Nx X K) Q:=by
 have hr:=hs.get x;have hr2:=hs.get y;unfold compS at h
 split at h
 ·rename_i p q hg hg2;cases h;rw[hg]at hr;rw[hg2]at hr2;simp only[rel]at hr hr2
  have he:execOp a.eval o=(do pure (.value (←Builtin.complex_ c.argTypes o.type #[a.eval x,a.eval y])):Sem Next):=by
   simp only[execOp,ho,resolve,hc,hx,List.map_toArray,BA,List.map_nil];rfl
  exact wp_yield hs he (u:=.complex .f64 p q) (w':=w) (by rw[hr,hr2];rfl) (.inl rfl) (by simp[rel]) hk
 ·cases h
theorem op_max(hs:SR X φ st a w){c:Call}(ho:o.op=.call c)(hc:c.callee=.builtin .max){x y:Operand}(hx:c.args = #[x,y]){r:AV}(h:maxS (get st.s x) (get st.s y)=some r)
  (hk:K { st with s:=putS st.s o.dst r }):o.wp X.P a w (Nx X K) Q:=by
 have hr:=hs.get x;have hr2:=hs.get y;unfold maxS at h
 split at h
 ·rename_i k p k2 q hg hg2;cases h;rw[hg]at hr;rw[hg2]at hr2;simp only[rel]at hr hr2
  have he:execOp a.eval o=(do pure (.value (←Builtin.max_ c.argTypes o.type #[a.eval x,a.eval y])):Sem Next):=by
   simp only[execOp,ho,resolve,hc,hx,List.map_toArray,BA,List.map_nil];rfl
  exact wp_yield hs he (u:=.int k (if q>p then q else p)) (w':=w) (by rw[hr,hr2];simp[Builtin.max_,Builtin.max2]) (.inl rfl) (by simp[rel]) hk
 ·cases h
theorem op_len(hs:SR X φ st a w){c:Call}(ho:o.op=.call c)(hc:c.callee=.builtin .len){x:Operand}(hx:c.args[0]?=some x)
  (h:lenA X.P c.argTypes st (get st.s x) fun r=>K { st with s:=putS st.s o.dst r }):o.wp X.P a w (Nx X K) Q:=by
 have hr:=hs.get x;obtain⟨t,ht,h⟩:=h
 have he:execOp a.eval o=(do pure (.value (←Builtin.len_ c.argTypes o.type (c.args.map a.eval))):Sem Next):=by
  simp only[execOp,ho,resolve,hc];rfl
 have hargs:(c.args.map a.eval)[0]?=some (a.eval x):=by simp[hx]
 split at h
 ·rename_i b hg;rw[hg]at hr;simp only[rel]at hr;refine wp_yield hs he (u:=.int .i64 b.size) (w':=w) ?_ (.inl rfl) ?_ h.2
  ·simp[Builtin.len_,ht,hargs,hr,run_underlying (strT_eq h.1),goInt]
  ·simp[rel]
 ·rename_i hg;rw[hg]at hr;simp only[rel]at hr;obtain⟨e,he'⟩:=Option.isSome_iff_exists.1 h.1;refine wp_yield hs he (u:=.int .i64 0) (w':=w) ?_ (.inl rfl) (by simp[rel]) h.2;simp[Builtin.len_,ht,hargs,hr,run_underlying (elemT_eq he'),goInt]
 ·rename_i b n m cs hg;rw[hg]at hr;simp only[rel]at hr;obtain⟨r,off,cap,g1,_⟩:=hr;obtain⟨e,he'⟩:=Option.isSome_iff_exists.1 h.1;refine wp_yield hs he (u:=.int .i64 n) (w':=w) ?_ (.inl rfl) (by simp[rel]) h.2;simp[Builtin.len_,ht,hargs,g1,run_underlying (elemT_eq he'),goInt]
 ·rename_i i ver n hg;obtain⟨h1,⟨k,hk,hv⟩,h3⟩:=h;obtain⟨β,cap,vs,fr,g1,_⟩:=hs.own hg hk hv;obtain⟨e,he'⟩:=Option.isSome_iff_exists.1 h1;refine wp_yield hs he (u:=.int .i64 n) (w':=w) ?_ (.inl rfl) (by simp[rel]) h3;simp[Builtin.len_,ht,hargs,g1,run_underlying (elemT_eq he'),goInt]
 ·exact h.elim
end
theorem read_nan{b:Nat}(h:IsNaN b):∃ s t,FloatKind.f64.format.read b=.nan s t:=by
 unfold IsNaN FloatKind.decode at h;cases hd:FloatKind.f64.format.read b<;>simp[hd,Ieee.Datum.isNaN]at h
 exact⟨_,_,rfl⟩
theorem isNaN_cut(x y t:Nat):IsNaN ((Question.nanBits .f64 x y).cut t):=by
 unfold IsNaN FloatKind.decode;have hr:(t / 2)%(2^52-1)<2^52-1:=Nat.mod_lt _ (by decide);have hs:t%2=0∨t%2=1:=by omega
 have hc:(Question.nanBits .f64 x y).cut t=(t%2) * 2^63+0x7ff0000000000000+1+(t / 2)%(2^52-1):=rfl;rw[hc];obtain⟨q,hq⟩:∃ q,q=(t / 2)%(2^52-1):=⟨_,rfl⟩;rw[←hq]at hr⊢;have s1:FloatKind.f64.format.signWeight=2^63:=rfl;have s2:FloatKind.f64.format.binade=2^52:=rfl;have s3:FloatKind.f64.format.infRung=0x7ff0000000000000:=rfl
 have e:((t%2) * 2^63+0x7ff0000000000000+1+q)%FloatKind.f64.format.signWeight=0x7ff0000000000000+1+q:=by
  rw[s1];rcases hs with h|h<;>rw[h]<;>omega
 unfold Ieee.Format.read
 dsimp only
 rw[if_neg (by rw[e,s2];omega),if_neg (by rw[e,s3];omega),if_neg (by rw[e,s3];omega)]
 rfl
theorem nan_add{b x:Nat}(h:IsNaN b):FloatKind.f64.format.add b x=none∧FloatKind.f64.format.add x b=none:=by
 obtain⟨s,t,e⟩:=read_nan h;unfold Ieee.Format.add;rw[e];exact⟨rfl,by cases FloatKind.f64.format.read x<;>rfl⟩
theorem nan_sub{b x:Nat}(h:IsNaN b):FloatKind.f64.format.sub b x=none∧FloatKind.f64.format.sub x b=none:=by
 obtain⟨s,t,e⟩:=read_nan h;unfold Ieee.Format.sub;rw[e];exact⟨rfl,by cases FloatKind.f64.format.read x<;>rfl⟩
theorem nan_mul{b x:Nat}(h:IsNaN b):FloatKind.f64.format.mul b x=none∧FloatKind.f64.format.mul x b=none:=by
 obtain⟨s,t,e⟩:=read_nan h;unfold Ieee.Format.mul;rw[e];exact⟨rfl,by cases FloatKind.f64.format.read x<;>rfl⟩
theorem nan_div{b x:Nat}(h:IsNaN b):FloatKind.f64.format.div b x=none∧FloatKind.f64.format.div x b=none:=by
 obtain⟨s,t,e⟩:=read_nan h;unfold Ieee.Format.div;rw[e];exact⟨rfl,by cases FloatKind.f64.format.read x<;>rfl⟩
theorem nan_order{b x:Nat}(h:IsNaN b):FloatKind.f64.format.order b x=none∧FloatKind.f64.format.order x b=none:=by
 obtain⟨s,t,e⟩:=read_nan h;unfold Ieee.Format.order;rw[e];exact⟨rfl,by cases FloatKind.f64.format.read x<;>rfl⟩
section
variable {X:Fix} {φ:List Nat} {st:St} {a:Act} {w:World} {o:Oper} {Q:Exit→Act→World→Prop} {K:St→Prop}
theorem rel_v(c:Cx)(x:Value):rel (.v x) c x:=by simp only[rel]
theorem run_eqGuard_of{P:Program}(op:BinOp)(t:TypeId)(x y:Operand)(u v:Value)(w:World)(h:(∀ us,u≠.agg us))(h2:u=.nilIface→v=.nilIface→(Ev.isConst x || Ev.isConst y)=true):(eqGuard op t x y u v).run P w=.ok () w:=by
 cases op<;>first|rfl|(cases u<;>first
   |rfl
   |exact absurd rfl (h _)
   |(cases v<;>first
     |rfl
     |(have:=h2 rfl rfl
       cases x<;>cases y<;>simp[Ev.isConst]at this<;>rfl)))
theorem run_fltA{P:Program}{c:Cx}{op:BinOp}{p q:Nat}{KA:AV→Prop}(t:TypeId)(h:fltA op p q KA)(w:World):
  ∃ r u w',(binOp op t (.float .f64 p) (.float .f64 q)).run P w=.ok u w'∧(w'=w∨w'=w.drew)∧rel r c u∧KA r:=by
 have key:∀ (res:Option Nat),KA (fltRes res)→∃ r u w',((match res with|some r=>pure (.float .f64 r)|none=>do pure (.float .f64 (←choose (.nanBits .f64 p q))):Sem Value)).run P w=.ok u w'∧(w'=w∨w'=w.drew)∧rel r c u∧KA r:=by
  intro res hk;cases res with
  |some r=>exact⟨_,_,w,rfl,.inl rfl,rel_v _ _,hk⟩
  |none=>
   refine⟨.nan,.float .f64 ((Question.nanBits .f64 p q).cut (w.tape w.drawn (.nanBits .f64 p q))),w.drew,?_,.inr rfl,?_,hk⟩
   ·simp only[Sem.run_bind,run_choose];rfl
   ·simp only[rel];exact⟨_,rfl,isNaN_cut p q _⟩
 cases op with
 |add=>exact key _ h
 |sub=>exact key _ h
 |mul=>exact key _ h
 |quo=>exact key _ h
 |eql=>exact⟨_,_,w,rfl,.inl rfl,rel_v _ _,h⟩
 |neq=>exact⟨_,_,w,rfl,.inl rfl,rel_v _ _,h⟩
 |lss=>exact⟨_,_,w,rfl,.inl rfl,rel_v _ _,h⟩
 |leq=>exact⟨_,_,w,rfl,.inl rfl,rel_v _ _,h⟩
 |gtr=>exact⟨_,_,w,rfl,.inl rfl,rel_v _ _,h⟩
 |geq=>exact⟨_,_,w,rfl,.inl rfl,rel_v _ _,h⟩
 |_=>exact h.elim
theorem run_intA{P:Program}{op:BinOp}{k:IntKind}{p q:Int}{KA:AV→Prop}(t:TypeId)(h:intA op k p q KA)(w:World):
  ∃ u,(binOp op t (.int k p) (.int k q)).run P w=.ok u w∧KA (.v u):=by
 have hk:∀ (s1 s2:Sem Value),(if k≠k then s1 else s2)=s2:=fun _ _=>if_neg (fun h=>h rfl)
 cases op with
 |quo=>exact⟨_,by simp only[binOp,hk,Op.intDiv,if_neg h.1];rfl,h.2⟩
 |rem=>exact⟨_,by simp only[binOp,hk,Op.intDiv,if_neg h.1];rfl,h.2⟩
 |shl=>exact h.elim
 |shr=>exact h.elim
 |_=>exact⟨_,by simp only[binOp,hk,Op.intArith,Op.intBits,Op.intCmp];rfl,h⟩
theorem run_shiftA{P:Program}{op:BinOp}{k k':IntKind}{p q:Int}{KA:AV→Prop}(t:TypeId)(h:shiftA op k p q KA)(w:World):
  ∃ u,(binOp op t (.int k p) (.int k' q)).run P w=.ok u w∧KA (.v u):=by
 cases op with
 |shl=>exact⟨_,by simp only[binOp,Op.shift,if_neg (show ¬q<0 from Int.not_lt.2 h.1)];rfl,h.2⟩
 |shr=>exact⟨_,by simp only[binOp,Op.shift,if_neg (show ¬q<0 from Int.not_lt.2 h.1)];rfl,h.2⟩
 |_=>exact h.elim
theorem str_append(x y:ByteArray):x++y=⟨(x.data.toList++y.data.toList).toArray⟩:=by
 apply ByteArray.ext
 simp
theorem run_strA{P:Program}{op:BinOp}{p q:ByteArray}{KA:AV→Prop}(t:TypeId)(h:strA op p q KA)(w:World):
  ∃ u,(binOp op t (.string p) (.string q)).run P w=.ok u w∧KA (.v u):=by
 have e:∀ op,binOp op t (.string p) (.string q)=Op.stringOp op p q:=fun op=>by cases op<;>rfl
 rw[e];unfold Op.stringOp;rw[ByteArray.toList_eq,ByteArray.toList_eq];cases op with
 |add=>
  have h1:=h.1;refine⟨.string (p++q),?_,by rw[str_append];exact h.2⟩
  have:¬((p.size+q.size:Nat):Int)>IntKind.i64.max:=by
   simp at h1;have:IntKind.i64.max=9223372036854775807:=rfl
   omega
  simp only[if_neg this]
  rfl
 |eql=>exact⟨_,rfl,h⟩
 |neq=>exact⟨_,rfl,h⟩
 |lss=>exact⟨_,rfl,h⟩
 |leq=>exact⟨_,rfl,h⟩
 |gtr=>exact⟨_,rfl,h⟩
 |geq=>exact⟨_,rfl,h⟩
 |_=>exact h.elim
theorem run_equal{P:Program}{t:TypeId}{d:TypeDesc}(hd:P.underlying t=some d)(u v:Value)(b:Bool)(w:World)
  (h:match d,u,v with
   |.bool,.bool x,.bool y=>b=(x==y)
   |.interface _,.nilIface,.nilIface=>b=true
   |.interface _,.nilIface,.iface _ _|.interface _,.iface _ _,.nilIface=>b=false
   |_,_,_=>False):(Op.equal t u v).run P w=.ok b w:=by
 unfold Op.equal Op.maxDepth;rw[Op.equalIn,Sem.run_bind,run_underlying hd];simp only[Result.andThen_ok];cases d<;>cases u<;>cases v<;>first|exact h.elim|(simp only at h;subst h;rfl)
theorem run_nanA{P:Program}{c:Cx}{op:BinOp}{p q:Nat}{KA:AV→Prop}(t:TypeId)(h:nanA op KA)(hn:IsNaN p∨IsNaN q)(w:World):
  ∃ r u w',(binOp op t (.float .f64 p) (.float .f64 q)).run P w=.ok u w'∧(w'=w∨w'=w.drew)∧rel r c u∧KA r:=by
 refine run_fltA t ?_ w;have e1:FloatKind.f64.format.add p q=none:=by rcases hn with h|h;exact (nan_add h).1;exact (nan_add h).2
 have e2:FloatKind.f64.format.sub p q=none:=by rcases hn with h|h;exact (nan_sub h).1;exact (nan_sub h).2
 have e3:FloatKind.f64.format.mul p q=none:=by rcases hn with h|h;exact (nan_mul h).1;exact (nan_mul h).2
 have e4:FloatKind.f64.format.div p q=none:=by rcases hn with h|h;exact (nan_div h).1;exact (nan_div h).2
 have e5:FloatKind.f64.format.order p q=none:=by rcases hn with h|h;exact (nan_order h).1;exact (nan_order h).2
 cases op<;>simp only[fltA,e1,e2,e3,e4,e5,fltRes]<;>simp only[nanA]at h<;>exact h
theorem op_binOp(hs:SR X φ st a w){op:BinOp}{t t2:TypeId}{x y:Operand}(ho:o.op=.binOp op t x y t2)
  (h:binA X.P op t x y (get st.s x) (get st.s y) fun r=>K { st with s:=putS st.s o.dst r }):o.wp X.P a w (Nx X K) Q:=by
 have hx:=hs.get x;have hy:=hs.get y;have he:execOp a.eval o=(do pure (.value (← (do eqGuard op t x y (a.eval x) (a.eval y);binOp op t (a.eval x) (a.eval y):Sem Value))):Sem Next):=by simp only[execOp,ho]
 have fin:∀ {u:Value} {w':World} {r:AV},(∀ us,a.eval x≠.agg us)→(a.eval x=.nilIface→a.eval y=.nilIface→(Ev.isConst x || Ev.isConst y)=true)→(binOp op t (a.eval x) (a.eval y)).run X.P w=.ok u w'→(w'=w∨w'=w.drew)→rel r (cx X φ st.h w) u→K { st with s:=putS st.s o.dst r }→o.wp X.P a w (Nx X K) Q:=by
  intro u w' r h1 h1' h2 h3 h4 h5;refine wp_yield hs he (u:=u) (w':=w') ?_ h3 h4 h5;rw[Sem.run_bind,run_eqGuard_of op t x y _ _ w h1 h1'];exact h2
 have eql:∀ {d:TypeDesc} {b:Bool},X.P.underlying t=some d→(∀ us,a.eval x≠.agg us)→(a.eval x=.nilIface→a.eval y=.nilIface→(Ev.isConst x || Ev.isConst y)=true)→
   (binOp .eql t (a.eval x) (a.eval y)=(do pure (.bool (←Op.equal t (a.eval x) (a.eval y)))))→(binOp .neq t (a.eval x) (a.eval y)=(do pure (.bool (!(←Op.equal t (a.eval x) (a.eval y))))))→
   (Op.equal t (a.eval x) (a.eval y)).run X.P w=.ok b w→nilA op b (fun r=>K { st with s:=putS st.s o.dst r })→o.wp X.P a w (Nx X K) Q:=by
  intro d b _ h1 h1' e1 e2 hr hk;cases op with
  |eql=>exact fin h1 h1' (u:=.bool b) (w':=w) (by rw[e1,Sem.run_bind,hr];rfl) (.inl rfl) (rel_v _ _) hk
  |neq=>exact fin h1 h1' (u:=.bool (!b)) (w':=w) (by rw[e2,Sem.run_bind,hr];rfl) (.inl rfl) (rel_v _ _) hk
  |_=>exact hk.elim
 unfold binA at h
 split at h
 ·
  rename_i k p k' q hg1 hg2;rw[hg1]at hx;rw[hg2]at hy;simp only[rel]at hx hy;rw[hx,hy]at fin
  have hsh:shiftA op k p q (fun r=>K { st with s:=putS st.s o.dst r })→o.wp X.P a w (Nx X K) Q:=fun h'=>by
   obtain⟨u,h1,h2⟩:=run_shiftA (P:=X.P) (k':=k') t h' w;exact fin (fun _=>by simp) (fun h=>by simp at h) h1 (.inl rfl) (rel_v _ _) h2
  have hin:k=k'∧intA op k p q (fun r=>K { st with s:=putS st.s o.dst r })→o.wp X.P a w (Nx X K) Q:=fun⟨e,h'⟩=>by
   subst e;obtain⟨u,h1,h2⟩:=run_intA (P:=X.P) t h' w;exact fin (fun _=>by simp) (fun h=>by simp at h) h1 (.inl rfl) (rel_v _ _) h2
  cases op<;>first|exact hin h|exact hsh h
 ·
  rename_i p q hg1 hg2;rw[hg1]at hx;rw[hg2]at hy;simp only[rel]at hx hy;rw[hx,hy]at fin;obtain⟨r,u,w',h1,h2,h3,h4⟩:=run_fltA (P:=X.P) (c:=cx X φ st.h w) t h w;exact fin (fun _=>by simp) (fun h=>by simp at h) h1 h2 h3 h4
 ·rename_i q hg1 hg2;rw[hg1]at hx;rw[hg2]at hy;simp only[rel]at hx hy;obtain⟨p,hx,hn⟩:=hx;rw[hx,hy]at fin;obtain⟨r,u,w',h1,h2,h3,h4⟩:=run_nanA (P:=X.P) (c:=cx X φ st.h w) (p:=p) (q:=q) t h (.inl hn) w;exact fin (fun _=>by simp) (fun h=>by simp at h) h1 h2 h3 h4
 ·rename_i p hg1 hg2;rw[hg1]at hx;rw[hg2]at hy;simp only[rel]at hx hy;obtain⟨q,hy,hn⟩:=hy;rw[hx,hy]at fin;obtain⟨r,u,w',h1,h2,h3,h4⟩:=run_nanA (P:=X.P) (c:=cx X φ st.h w) (p:=p) (q:=q) t h (.inr hn) w;exact fin (fun _=>by simp) (fun h=>by simp at h) h1 h2 h3 h4
 ·rename_i hg1 hg2;rw[hg1]at hx;rw[hg2]at hy;simp only[rel]at hx hy;obtain⟨p,hx,hn⟩:=hx;obtain⟨q,hy,hn'⟩:=hy;rw[hx,hy]at fin;obtain⟨r,u,w',h1,h2,h3,h4⟩:=run_nanA (P:=X.P) (c:=cx X φ st.h w) (p:=p) (q:=q) t h (.inl hn) w;exact fin (fun _=>by simp) (fun h=>by simp at h) h1 h2 h3 h4
 ·
  rename_i p q hg1 hg2;rw[hg1]at hx;rw[hg2]at hy;simp only[rel]at hx hy;rw[hx,hy]at fin;obtain⟨u,h1,h2⟩:=run_strA (P:=X.P) t h w;exact fin (fun _=>by simp) (fun h=>by simp at h) h1 (.inl rfl) (rel_v _ _) h2
 ·
  rename_i p q hg1 hg2;rw[hg1]at hx;rw[hg2]at hy;simp only[rel]at hx hy;obtain⟨ht,h⟩:=h;rw[hx,hy]at eql;refine eql (b:=p==q) ht (fun _=>by simp) (fun h=>by simp at h) rfl rfl (run_equal ht _ _ _ _ rfl) ?_;cases op<;>first|exact h|exact h.elim
 ·rename_i hg1 hg2;rw[hg1]at hx;rw[hg2]at hy;simp only[rel]at hx hy;obtain⟨hc,ht,h⟩:=h;obtain⟨ms,ht⟩:=ifcT_eq ht;rw[hx,hy]at eql;refine eql (b:=true) ht (fun _=>by simp) (fun _ _=>hc) rfl rfl (run_equal ht _ _ _ _ rfl) ?_;cases op<;>first|exact h|exact h.elim
 ·rename_i tt z hg1 hg2;rw[hg1]at hx;rw[hg2]at hy;simp only[rel]at hx hy;obtain⟨zz,hx,_⟩:=hx;obtain⟨ht,h⟩:=h;obtain⟨ms,ht⟩:=ifcT_eq ht;rw[hx,hy]at eql;refine eql (b:=false) ht (fun _=>by simp) (fun h=>by simp at h) rfl rfl (run_equal ht _ _ _ _ rfl) ?_;cases op<;>first|exact h|exact h.elim
 ·rename_i tt z hg1 hg2;rw[hg1]at hx;rw[hg2]at hy;simp only[rel]at hx hy;obtain⟨zz,hy,_⟩:=hy;obtain⟨ht,h⟩:=h;obtain⟨ms,ht⟩:=ifcT_eq ht;rw[hx,hy]at eql;refine eql (b:=false) ht (fun _=>by simp) (fun _ h=>by simp at h) rfl rfl (run_equal ht _ _ _ _ rfl) ?_;cases op<;>first|exact h|exact h.elim
 ·rename_i tx k p ty k' q hg1 hg2;rw[hg1]at hx;rw[hg2]at hy;simp only[rel]at hx hy;obtain⟨_,hx,rfl⟩:=hx;obtain⟨_,hy,rfl⟩:=hy;obtain⟨ht,h⟩:=h;obtain⟨ms,ht⟩:=ifcT_eq ht;rw[hx,hy]at eql
  rcases h with⟨hne,h⟩|⟨rfl,rfl,hk,hc,h⟩
  ·refine eql (b:=false) ht (fun _=>by simp) (fun h=>by simp at h) rfl rfl ?_ ?_
   ·unfold Op.equal Op.maxDepth;rw[Op.equalIn,Sem.run_bind,run_underlying ht];simp only[Result.andThen_ok,hne,ne_eq,not_false_eq_true,if_true]
    rfl
   ·cases op<;>first|exact h|exact h.elim
  ·refine eql (b:=p==q) ht (fun _=>by simp) (fun h=>by simp at h) rfl rfl ?_ ?_
   ·unfold Op.equal Op.maxDepth;rw[Op.equalIn,Sem.run_bind,run_underlying ht];unfold cmpT at hc;unfold intT at hk;cases hi:X.P.info? tx with
    |none=>simp[hi]at hc
    |some i=>
     rw[hi]at hc;simp only[Option.map_some,Option.some.injEq]at hc
     have hu:X.P.underlying tx=some (.int k):=by
      split at hk
      ·cases hk;assumption
      ·cases hk
     simp only[Result.andThen_ok,ne_eq,not_true_eq_false,if_false,Sem.run_bind,run_info hi,hc,Bv,Bool.false_eq_true];rw[Op.equalIn,Sem.run_bind,run_underlying hu];simp only[Result.andThen_ok,if_true]
     rfl
   ·cases op<;>first|exact h|exact h.elim
 ·rename_i p q p' q' hg1 hg2;rw[hg1]at hx;rw[hg2]at hy;simp only[rel]at hx hy;rw[hx,hy]at fin;cases op with
  |eql=>exact fin (fun _=>by simp) (fun h=>by simp at h) (u:=.bool (cplEq p q p' q')) (w':=w) rfl (.inl rfl) (rel_v _ _) h
  |neq=>exact fin (fun _=>by simp) (fun h=>by simp at h) (u:=.bool (!cplEq p q p' q')) (w':=w) rfl (.inl rfl) (rel_v _ _) h
  |_=>exact h.elim
 ·exact h.elim
theorem op_unOp(hs:SR X φ st a w){op:UnOp}{t:TypeId}{x:Operand}(ho:o.op=.unOp op t x)
  (h:unA op (get st.s x) fun r=>K { st with s:=putS st.s o.dst r }):o.wp X.P a w (Nx X K) Q:=by
 have hx:=hs.get x;have he:execOp a.eval o=(do pure (.value (←Op.unary op (a.eval x))):Sem Next):=by simp only[execOp,ho]
 unfold unA at h
 split at h
 ·rename_i b hg;rw[hg]at hx;simp only[rel]at hx;exact wp_yield hs he (u:=.bool (!b)) (w':=w) (by rw[hx];rfl) (.inl rfl) (rel_v _ _) h
 ·rename_i k n hg;rw[hg]at hx;simp only[rel]at hx;exact wp_yield hs he (u:=.int k (k.wrap (0-n))) (w':=w) (by rw[hx];rfl) (.inl rfl) (rel_v _ _) h
 ·rename_i b hg;rw[hg]at hx;simp only[rel]at hx;exact wp_yield hs he (u:=.float .f64 (Op.negFloat .f64 b)) (w':=w) (by rw[hx];rfl) (.inl rfl) (rel_v _ _) h
 ·exact h.elim
end
section
variable {X:Fix} {φ:List Nat} {st:St} {a:Act} {w:World} {o:Oper} {Q:Exit→Act→World→Prop} {K:St→Prop}
theorem SR.bound(hs:SR X φ st a w){x:Option Operand}{d:Nat}{K1:Nat→Prop}(h:boundA (x.map (Ev.get st.s)) d K1):
  ∃ n,K1 n∧((x=none∧n=d)∨∃ k i y,x=some y∧a.eval y=.int k i∧0≤i∧n=i.toNat):=by
 cases x with
 |none=>exact⟨d,h,.inl ⟨rfl,rfl⟩⟩
 |some y=>
  simp only[Option.map_some]at h;unfold boundA at h;have hy:=hs.get y
  split at h
  ·rename_i e;cases e
  ·rename_i k i e;cases e':Ev.get st.s y<;>rw[e']at e<;>simp at e
   rename_i u;subst e;rw[e']at hy;simp only[rel]at hy;exact⟨_,h.2,.inr ⟨k,i,y,rfl,hy,h.1,rfl⟩⟩
  ·exact h.elim
theorem run_sliceBound{P:Program}{v:Value}{k:IntKind}{i:Int}(hv:v=.int k i)(h0:0≤i){y:Nat}(hy:i.toNat≤y)(code:BoundsCode)(w:World):(Instr.sliceBound v y code).run P w=.ok i.toNat w:=by
 have:i≤(y:Int):=by omega
 simp[Instr.sliceBound,hv,asIntOf,h0,this]
theorem SR.bounds(hs:SR X φ st a w){lo hi:Option Operand}{len cap:Nat}{isSl:Bool}{m:Nat}(hm:m≤cap){KK:Nat→Nat→Prop}
  (h:boundA (hi.map (Ev.get st.s)) len fun h=>h≤m∧boundA (lo.map (Ev.get st.s)) 0 fun l=>l≤h∧KK h l) :
  ∃ l h,l≤h∧h≤m∧KK h l∧(Instr.sliceBounds isSl len cap (lo.map a.eval) (hi.map a.eval) none).run X.P w=.ok (l,h,cap) w:=by
 obtain⟨h',⟨h1,h2⟩,h3⟩:=hs.bound h;obtain⟨l',⟨l1,l2⟩,l3⟩:=hs.bound h2;refine⟨l',h',l1,h1,l2,?_⟩
 have e1:∀ (code:BoundsCode),(match hi.map a.eval with|some v=>Instr.sliceBound v cap code|none=>pure len:Sem Nat).run X.P w=.ok h' w:=by
  intro code
  rcases h3 with⟨rfl,rfl⟩|⟨k,i,y,rfl,hy,h0,rfl⟩
  ·rfl
  ·exact run_sliceBound hy h0 (by omega) code w
 have e2:∀ (code:BoundsCode),(match lo.map a.eval with|some v=>Instr.sliceBound v h' code|none=>pure 0:Sem Nat).run X.P w=.ok l' w:=by
  intro code
  rcases l3 with⟨rfl,rfl⟩|⟨k,i,y,rfl,hy,h0,rfl⟩
  ·rfl
  ·exact run_sliceBound hy h0 (by omega) code w
 cases hi<;>cases lo<;>simp only[Option.map_some,Option.map_none]at e1 e2 <;>
  simp only[Instr.sliceBounds,Option.map_some,Option.map_none,Sem.run_bind,Sem.run_pure,Result.andThen_ok,e1,e2]
 all_goals first
  |(have:=e1 .index;have:=e2 .index;simp only[Sem.run_pure]at *;simp_all;done)
  |(have:=e1 .index;simp only[Sem.run_pure,Result.ok.injEq]at this;obtain⟨rfl,_⟩:=this;simp[e2])
  |(have:=e2 .index;simp only[Sem.run_pure,Result.ok.injEq]at this;obtain⟨rfl,_⟩:=this;rfl)
theorem op_slice(hs:SR X φ st a w){t:TypeId}{x:Operand}{lo hi mx:Option Operand}(ho:o.op=.slice t x lo hi mx)
  (h:sliceA X.P t st (get st.s x) (lo.map (get st.s)) (hi.map (get st.s)) (mx.map (get st.s)) fun r=>K { st with s:=putS st.s o.dst r }):o.wp X.P a w (Nx X K) Q:=by
 have hx:=hs.get x;obtain⟨hmx,h⟩:=h;have hmx':mx=none:=by cases mx<;>simp at hmx⊢
 subst hmx';have he:execOp a.eval o=(do pure (.value (←Instr.sliceAt t (a.eval x) (lo.map a.eval) (hi.map a.eval) none)):Sem Next):=by simp only[execOp,ho];rfl
 split at h
 ·rename_i b hg;rw[hg]at hx;simp only[rel]at hx;obtain⟨h1,h2⟩:=h;obtain⟨l,hh,q1,q2,q3,q4⟩:=hs.bounds (isSl:=false) (len:=b.data.toList.length) (cap:=b.data.toList.length) (BL _) h2;refine wp_yield hs he (u:=.string (b.extract l hh)) (w':=w) ?_ (.inl rfl) (r:=.v (.string ⟨((b.data.toList.take hh).drop l).toArray⟩)) ?_ q3
  ·have e:b.data.toList.length=b.size:=by simp
   rw[e]at q4;simp only[Instr.sliceAt,Instr.slice,Sem.run_bind,run_underlying (strT_eq h1),Result.andThen_ok,hx];rw[if_neg (by simp)];simp only[Sem.run_bind,q4,Result.andThen_ok,Sem.run_pure]
  ·have:b.extract l hh=⟨((b.data.toList.take hh).drop l).toArray⟩:=by
    apply ByteArray.ext
    rw[ByteArray.data_extract]
    apply Array.ext'
    simp[List.extract_eq_take_drop,List.drop_take]
   rw[this];exact rel_v _ _
 ·rename_i b n m cs hg;obtain⟨e,sz,h1,h2,h3,h4⟩:=h;rw[hg]at hx;simp only[rel]at hx;obtain⟨r,off,cap,g1,g2,g3,g4,g5⟩:=hx;obtain⟨l,hh,q1,q2,q3,q4⟩:=hs.bounds (isSl:=true) (len:=n) (cap:=cap) g3 h4;refine wp_yield hs he (u:=.slice (if cap=l then some ⟨r,off,none⟩else some ⟨r,off+l * sz,none⟩) (hh-l) (cap-l)) (w':=w) ?_ (.inl rfl) (r:=.sl b (hh-l) (m-l) (cs.drop (l * sz))) ?_ q3
  ·simp only[Instr.sliceAt,Instr.slice,Sem.run_bind,run_underlying (elemT_eq h1),Result.andThen_ok,g1,q4,run_size h2];simp only[Option.map_some,Addr.add_lit]
   rfl
  ·simp only[rel];refine⟨r,if cap=l then off else off+l * sz,cap-l,by split<;>rfl,by omega,by omega,g4,?_⟩
   split
   ·rename_i hcl;have:m * sz≤l * sz:=Nat.mul_le_mul_right _ (by omega);have:cs.drop (l * sz)=[]:=List.drop_eq_nil_of_le (by omega);rw[this];simp only[relAt]
   ·exact relAt_drop g5 _
 ·rename_i i ver n hg;obtain⟨e,k,sz,h1,hsz,hk,hv,h2⟩:=h;obtain⟨β,cap,vs,fr,g1,g2,g3,g4,g5,g6,_⟩:=hs.own hg hk hv;obtain⟨l,hh,q1,q2,⟨rfl,q3⟩,q4⟩:=hs.bounds (isSl:=true) (len:=n) (cap:=cap) g2 h2;refine wp_yield hs he (u:=.slice (some ⟨β,0,none⟩) (hh-0) (cap-0)) (w':=w) ?_ (.inl rfl) (r:=.own i ver hh) ?_ q3
  ·simp only[Instr.sliceAt,Instr.slice,Sem.run_bind,run_underlying (elemT_eq h1),Result.andThen_ok,g1,q4,run_size hsz];simp only[Option.map_some,Addr.add_lit,Nat.zero_mul,Nat.add_zero];simp
  ·simp only[Nat.sub_zero];exact rel_own g5 hv (by omega) (by simp only[World.shape?,g6,g3])
 ·rename_i hg;obtain⟨e,sz,h1,hsz,h2⟩:=h;rw[hg]at hx;simp only[rel]at hx;obtain⟨l,hh,q1,q2,q3,q4⟩:=hs.bounds (isSl:=true) (len:=0) (cap:=0) (BL 0) h2;obtain rfl:hh=0:=by omega
  obtain rfl:l=0:=by omega
  refine wp_yield hs he (u:=.slice none 0 0) (w':=w) ?_ (.inl rfl) (rel_v _ _) q3;simp only[Instr.sliceAt,Instr.slice,Sem.run_bind,run_underlying (elemT_eq h1),Result.andThen_ok,hx,q4,run_size hsz]
  rfl
 ·exact h.elim
end
section
variable {X:Fix} {φ:List Nat} {st:St} {a:Act} {w:World} {o:Oper} {Q:Exit→Act→World→Prop} {K:St→Prop}
theorem wp_row(hs:SR X φ st a w){s:Sem Value}(he:execOp a.eval o=(do pure (.value (←s)):Sem Next)){w1:World}(hw1:w1=w∨w1=w.drew){vs:Array Value}{e:TypeId}{fr:Nat×Nat}{n cap:Nat}{cells:List AV}
  (hr:s.run X.P w=.ok (.slice (some ⟨w.heap.size,0,none⟩) n cap) (w1.alloc (.cells vs e fr))) (hc:relL cells (cx X φ st.h w) (vs.toList.take cells.length)) (hfr:∀ off,off<vs.size→¬(fr.1≤off∧off<fr.2))
  (hn:n≤cap) (hcap:vs.size=cap * X.P.cellsOf e) (hk:K { s:=putS st.s o.dst (.own st.h.length 0 n),h:=st.h++[⟨0,e,cells⟩] }):o.wp X.P a w (Nx X K) Q:=by
 have hs1:SR X φ st a w1:=by rcases hw1 with rfl|rfl;exact hs;exact hs.world (below_drew w)
 have hsz:w1.heap.size=w.heap.size:=by rcases hw1 with rfl|rfl<;>rfl
 have hc1:relL cells (cx X φ st.h w1) (vs.toList.take cells.length):=by
  rcases hw1 with rfl|rfl
  ·exact hc
  ·exact relL_mono (cx_le_same (w:=w) (w':=w.drew) (fun _ _=>rfl) (fun _ _=>rfl) (BL _) (fun β hβ=>(hs.rng β hβ).2) _) _ _ hc
 obtain⟨hp,_⟩:=hs1.push (vs:=vs) (e:=e) (fr:=fr) (cells:=cells) (ver:=0) hc1 hfr;refine wp_val he hr ⟨_,_,hp.put o.dst (r:=.own st.h.length 0 n) (u:=.slice (some ⟨w.heap.size,0,none⟩) n cap) ?_,hk⟩;rw[hsz];refine rel_own (k:=⟨0,e,cells⟩) (β:=w.heap.size) (curOf_eq.2 ⟨by simp,by rw[←hs.φlen];simp⟩) rfl hn ?_;have h1:=heap_alloc_new w1 (.cells vs e fr);rw[hsz]at h1;simp only[World.shape?,h1,hcap]
theorem relL_rows(c:Cx)(z:Value):∀ n:Nat,relL (rowsA z n) c (List.replicate n z.cells.toList).flatten
 |0=>by simp[rowsA,relL]
 |n+1=>by
  simp only[rowsA,List.replicate_succ,List.flatten_cons];exact relL_append (rel_zeroCells c z) (relL_rows c z n)
theorem madeCells_list(z:Array Value)(n:Nat)(hz:0<z.size):(madeCells z (n * z.size)).toList=(List.replicate n z.toList).flatten:=by
 apply List.ext_getElem?
 intro i;have hlen:(List.replicate n z.toList).flatten.length=n * z.size:=by simp
 by_cases hi:i<n * z.size
 ·rw[show (madeCells z (n * z.size)).toList[i]?=some z[i%z.size]! by simp[madeCells,hi]];rw[List.getElem?_eq_getElem (by rw[hlen];exact hi)]
  congr 1
  have hm:i%z.size<z.size:=Nat.mod_lt _ hz;rw[show z[i%z.size]! = z[i%z.size]from getElem!_pos z _ hm]
  have key:∀ n i,(h:i<(List.replicate n z.toList).flatten.length)→(List.replicate n z.toList).flatten[i]=z.toList[i%z.size]'(by simpa using Nat.mod_lt _ hz):=by
   intro n
   induction n with
   |zero=>intro i h;simp at h
   |succ n ih=>
    intro i h;simp only[List.replicate_succ,List.flatten_cons]
    by_cases hl:i<z.toList.length
    ·rw[List.getElem_append_left hl]
     congr 1
     rw[Nat.mod_eq_of_lt (by simpa using hl)]
    ·rw[List.getElem_append_right (by omega)];rw[ih]
     congr 1
     have:z.toList.length=z.size:=by simp
     rw[this]at hl⊢;rw[Nat.mod_eq_sub_mod (show i≥z.size by omega)]
  rw[key];simp
 ·rw[Bq (by simp[madeCells];omega),Bq (by omega)]
theorem zeroCells_len(z:Value):(zeroCells z).length=z.cells.size:=by cases z<;>simp[zeroCells,Value.cells]
theorem sizeT_info{P:Program}{t n:Nat}(h:sizeT P t=some n):∃ i,P.info? t=some i∧i.size=n:=by
 unfold sizeT at h;cases hi:P.info? t with
 |none=>simp[hi]at h
 |some i=>simp[hi]at h;exact⟨i,rfl,h⟩
theorem op_makeSlice(hs:SR X φ st a w){t:TypeId}{x y:Operand}(ho:o.op=.makeSlice t x y)
  (h:makeSliceA X.P t (get st.s x) (get st.s y) st fun r s'=>K { s' with s:=putS s'.s o.dst r }):o.wp X.P a w (Nx X K) Q:=by
 have hx:=hs.get x;have hy:=hs.get y;have he:execOp a.eval o=(do pure (.value (←Instr.makeSlice t (a.eval x) (a.eval y))):Sem Next):=by simp only[execOp,ho]
 unfold makeSliceA at h
 split at h
 ·rename_i kn n kc c hg1 hg2;rw[hg1]at hx;rw[hg2]at hy;simp only[rel]at hx hy;obtain⟨e,sz,by',z,h1,h2,h3,h4,h5,h6,h7,h8,h9,h10,hk⟩:=h;obtain⟨i,hi,his⟩:=sizeT_info h2;have hib:i.bytes=by':=by simpa[bytesT,hi]using h3
  have hiz:i.zero=some z:=by simpa[zeroT,hi]using h4
  rw[zeroCells_len]at h5;have hb:(i.bytes:Int) * c≤281474976710656:=by rw[hib,Int.mul_comm];omega
  have hrun:=run_make (P:=X.P) w t e i z (elemT_eq h1) hi hiz kn kc n c h7 h8 hb (by omega);have hcl:(rowsA z c.toNat).length=c.toNat * sz:=by simp[rowsA,zeroCells_len,h5]
  refine wp_row hs he (w1:=w) (.inl rfl) (n:=n.toNat) (cap:=c.toNat) (fr:=(0,0)) (cells:=rowsA z c.toNat) (by rw[hx,hy];exact hrun) ?_ (fun off _=>by omega) (by omega) (by rw[size_madeCells,sizeT_cells h2,his]) hk;rw[his,←h5,madeCells_list _ _ (by omega)];rw[Bt (by simp[hcl,h5])];exact relL_rows _ z _
 ·exact h.elim
theorem foldl_set(us:List Value):∀ (off i:Nat) (cells:Array Value),((us.zipIdx i).foldl (fun cs (c,j)=>cs.setIfInBounds (off+j) c) cells).toList=(us.foldl (fun (p:List Value×Nat) c=>(p.1.set p.2 c,p.2+1)) (cells.toList,off+i)).1:=by
 induction us with
 |nil=>intro off i cells;rfl
 |cons u us ih=>
  intro off i cells;simp only[List.zipIdx_cons,List.foldl_cons];rw[ih];simp[Nat.add_assoc]
theorem relL_fill{c:Cx}:∀ (cs:List AV) (us:List Value) (l:List AV) (vs:List Value) (i:Nat),relL cs c us→relL l c vs→relL (setMany l i cs) c (us.foldl (fun (p:List Value×Nat) c=>(p.1.set p.2 c,p.2+1)) (vs,i)).1
 |[],us,l,vs,i,h,hl=>by simp only[relL]at h;subst h;exact hl
 |x::cs,us,l,vs,i,h,hl=>by
  simp only[relL]at h;obtain⟨u,us',rfl,h2,h3⟩:=h;simp only[setMany,List.foldl_cons];exact relL_fill cs us' _ _ _ h3 (relL_set hl i h2)
theorem SR.fill(hs:SR X φ st a w){place:Nat→Option (Nat×Nat)}:∀ (ps:List (Nat×Operand)) {l:List AV} {vs:Array Value} {KL:List AV→Prop},fillA place (Ev.get st.s) ps l KL→relL l (cx X φ st.h w) vs.toList→
  ∃ l' vs',Instr.fill place vs (ps.map fun (i,x)=>(i,a.eval x))=some vs'∧relL l' (cx X φ st.h w) vs'.toList∧KL l'∧vs'.size=vs.size
 |[],l,vs,KL,h,hl=>⟨l,vs,rfl,hl,h,rfl⟩
 |(i,x)::ps,l,vs,KL,h,hl=>by
  obtain⟨off,n,cs,h1,h2,h3,h4,h5⟩:=h;obtain⟨hc,_⟩:=rel_flat (hs.get x) h2;have hlen:(a.eval x).cells.size=n:=by have:=relL_length hc;simp at this;omega
  have hll:vs.size=l.length:=by have:=relL_length hl;simpa using this
  obtain⟨l',vs',g1,g2,g3,g4⟩:=hs.fill ps (vs:=((a.eval x).cells.zipIdx.foldl (fun cs (c,j)=>cs.setIfInBounds (off+j) c) vs)) h5 (by
   have e:((a.eval x).cells.zipIdx.foldl (fun cs (c,j)=>cs.setIfInBounds (off+j) c) vs).toList=((a.eval x).cells.toList.foldl (fun (p:List Value×Nat) c=>(p.1.set p.2 c,p.2+1)) (vs.toList,off)).1:=by
    rw[←Array.foldl_toList];have:=foldl_set (a.eval x).cells.toList off 0 vs;simpa using this
   rw[e];exact relL_fill _ _ _ _ _ hc hl)
  refine⟨l',vs',?_,g2,g3,?_⟩
  ·simp only[BA,Instr.fill,h1,hlen];rw[if_neg (by simp;omega)];exact g1
  ·rw[g4]
   have:∀ (us:List (Value×Nat)) (cells:Array Value),(us.foldl (fun cs (c,j)=>cs.setIfInBounds (off+j) c) cells).size=cells.size:=by
    intro us
    induction us with
    |nil=>intro cells;rfl
    |cons u us ih=>intro cells;simp[ih]
   rw[←Array.foldl_toList];exact this _ _
theorem op_build(hs:SR X φ st a w){t:TypeId}{ps:Array (Nat×Operand)}(ho:o.op=.build t ps)
  (h:buildA X.P t ps (get st.s) fun r=>K { st with s:=putS st.s o.dst r }):o.wp X.P a w (Nx X K) Q:=by
 have he:execOp a.eval o=(do pure (.value (←Instr.build t (ps.map fun (i,x)=>(i,a.eval x)))):Sem Next):=by simp only[execOp,ho]
 obtain⟨z,hz,h⟩:=h;have hz0:=rel_zeroCells (cx X φ st.h w) z;have hps:(ps.map fun (i,x)=>(i,a.eval x)).toList=ps.toList.map fun (i,x)=>(i,a.eval x):=by simp
 rcases h with⟨pl,hpl,h⟩|⟨n,e,sz,hu,hsz,h⟩
 ·obtain⟨l',vs',g1,g2,g3,g4⟩:=hs.fill ps.toList (vs:=z.cells) h hz0;refine wp_yield hs he (u:=.agg vs') (w':=w) ?_ (.inl rfl) (r:=.agg l') (by simp only[rel];exact⟨_,rfl,g2⟩) g3;unfold placesT at hpl
  split at hpl
  ·rename_i fs hu;refine run_build w t _ vs' ?_;unfold zeroT at hz;cases hi:X.P.info? t with
   |none=>simp[hi]at hz
   |some i=>
    have hiz:i.zero=some z:=by simpa[hi]using hz
    have e:(fun i:Nat=>pl.toArray[i]?)=(fun i:Nat=>pl[i]?):=by funext i;simp
    simp only[Program.built,hi,hu,hiz,hpl,e,hps,g1]
  ·cases hpl
 ·obtain⟨l',vs',g1,g2,g3,g4⟩:=hs.fill ps.toList (vs:=z.cells) h hz0;refine wp_yield hs he (u:=.agg vs') (w':=w) ?_ (.inl rfl) (r:=.agg l') (by simp only[rel];exact⟨_,rfl,g2⟩) g3;simp only[Instr.build,Sem.run_bind,run_zero hz,Result.andThen_ok,run_underlying (arrT_eq hu),run_size hsz,hps,g1,Sem.run_pure]
theorem op_buildSlice(hs:SR X φ st a w){t:TypeId}{n:Nat}{ps:Array (Nat×Operand)}(ho:o.op=.buildSlice t n ps)
  (h:buildSliceA X.P t n ps (get st.s) st fun r s'=>K { s' with s:=putS s'.s o.dst r }):o.wp X.P a w (Nx X K) Q:=by
 have he:execOp a.eval o=(do pure (.value (←Instr.buildSlice t n (ps.map fun (i,x)=>(i,a.eval x)))):Sem Next):=by simp only[execOp,ho]
 obtain⟨e,sz,z,h1,h2,h3,h4,h5,h6,h⟩:=h;rw[zeroCells_len]at h4;subst h4;have hps:(ps.map fun (i,x)=>(i,a.eval x)).toList=ps.toList.map fun (i,x)=>(i,a.eval x):=by simp
 have hz0:relL (rowsA z n) (cx X φ st.h w) ((Array.range (n * z.cells.size)).map (z.cells[·% z.cells.size]!)).toList:=by
  have:=madeCells_list z.cells n (by omega);unfold madeCells at this;rw[this];exact relL_rows _ z n
 obtain⟨l',vs',g1,g2,g3,g4⟩:=hs.fill ps.toList (vs:=(Array.range (n * z.cells.size)).map (z.cells[·% z.cells.size]!)) h hz0;have hl':vs'.toList.take l'.length=vs'.toList:=Bt (by rw[relL_length g2];exact BL _);refine wp_row hs he (w1:=w) (.inl rfl) (vs:=vs') (e:=e) (fr:=(0,0)) (n:=n) (cap:=n) (cells:=l') ?_ (by rw[hl'];exact g2) (fun off _=>by omega) (BL _) (by rw[g4,sizeT_cells h2];simp) g3;have h6':¬n * z.cells.size>2^24:=by omega
 simp only[Instr.buildSlice,Sem.run_bind,run_underlying (elemT_eq h1),Result.andThen_ok,run_size h2,Sem.run_ite,if_neg h6']
 by_cases h0:n * z.cells.size=0
 ·have e0:(Array.range (n * z.cells.size)).map (z.cells[·% z.cells.size]!)=(Array.range (n * z.cells.size)).map ((#[]:Array Value)[·% (#[]:Array Value).size]!):=by rw[h0];simp
  rw[e0]at g1;rw[if_pos h0];simp only[Sem.run_pure,Result.andThen_ok,hps,g1]
  rfl
 ·rw[if_neg h0];simp only[Sem.run_bind,run_zero h3,Result.andThen_ok,Sem.run_pure,hps,g1]
  rfl
end
end Go.Ev
