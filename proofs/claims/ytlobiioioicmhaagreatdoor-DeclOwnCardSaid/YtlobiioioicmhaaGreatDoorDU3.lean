/- The evaluator: abstract values, and code carried out on them. -/
import Derived.Test.YtlobiioioicmhaaGreatDoorDU2
set_option linter.all false
set_option maxHeartbeats 8000000
namespace Go.Ev
open _root_.Array renaming getElem?_eq_some_iff→BP
open _root_.List renaming getElem?_eq_some_iff→Bs,getElem?_append_left→Ba,length_append→Bp,append_assoc→Bo,nil_append→Bi,length_map→Bk,getElem?_eq_none→Bq,take_of_length_le→Bt,length_drop→Bd,length_take→Bh,map_cons→BA,length_nil→BD,getElem?_take→BY
open _root_.Nat renaming le_refl→BL
open Go Go.RowKit
section
variable {X:Fix} {φ:List Nat} {st:St} {a:Act} {w:World} {o:Oper} {Q:Exit→Act→World→Prop} {K:St→Prop}
theorem bytesOfA_spec{c:Cx}:∀ {cs:List AV} {l:List UInt8} {us:List Value},bytesOfA cs=some l→relL cs c us→∃ ns:List Int,us=ns.map (Value.int .u8)∧ns.map (fun n=>UInt8.ofNat n.toNat)=l
 |[],l,us,h,hr=>by simp only[bytesOfA,Option.some.injEq]at h;simp only[relL]at hr;subst h;subst hr;exact⟨[],rfl,rfl⟩
 |x::cs,l,us,h,hr=>by
  simp only[relL]at hr;obtain⟨u,us',rfl,h2,h3⟩:=hr;unfold bytesOfA at h
  split at h
  ·rename_i e;cases e
  ·rename_i k l' e;cases e;cases hb:bytesOfA cs with
   |none=>simp[hb]at h
   |some l2=>
    simp[hb]at h;subst h;obtain⟨ns,rfl,rfl⟩:=bytesOfA_spec hb h3;simp only[rel]at h2;subst h2;exact⟨k::ns,rfl,rfl⟩
  ·cases h
theorem run_bytesOf{P:Program}{src dst e:TypeId}(hs:P.underlying src=some (.slice e))(he:P.underlying e=some (.int .u8))(hd:P.underlying dst=some .string){r off n cap:Nat}{cs:List AV}{c:Cx}(hw:c.w=w)(hc:relAt cs c r off)(hn:n≤cs.length){l:List UInt8}(hl:bytesOfA (cs.take n)=some l):
  (convert src dst (.slice (some ⟨r,off,none⟩) n cap)).run P w=.ok (.string ⟨l.toArray⟩) w:=by
 obtain⟨us,h1,h2⟩:=relAt_list (relAt_take hc n);obtain⟨ns,rfl,rfl⟩:=bytesOfA_spec hl h1;have hlen:ns.length=n:=by have:=relL_length h1;simp at this;omega
 have hrun:=run_loadCells_at (P:=P) (w:=w) r off (ns.map (Value.int .u8)) (fun j u hj=>by rw[←hw];exact h2 j u hj);rw[Bk,hlen]at hrun;have e1:convert src dst (.slice (some ⟨r,off,none⟩) n cap)=convert src dst (.slice (some ⟨r,off,none⟩) n cap):=rfl;simp only[convert,Sem.run_bind,run_underlying hs,run_underlying hd,run_underlying he,Result.andThen_ok];rw[run_bytesToString w _ n cap ns hrun]
 congr 2
 have:∀ (ns:List Int) (s:ByteArray),ns.foldl (fun r n=>r.push (UInt8.ofNat n.toNat)) s=⟨s.data++(ns.map fun n=>UInt8.ofNat n.toNat).toArray⟩:=by
  intro ns
  induction ns with
  |nil=>intro s;simp
  |cons n ns ih=>intro s;rw[List.foldl_cons,ih];simp[ByteArray.push]
 rw[this];simp
theorem freeze_alloc(w:World)(vs:Array Value)(e:TypeId)(n:Nat):(w.alloc (.cells vs e)).freeze ⟨w.heap.size,n,none⟩ 1=w.alloc (.cells vs e (n,n+1)):=by
 unfold World.freeze World.alloc;simp only[if_neg (show ¬(1=0)by decide)]
 congr 1
 apply Array.ext_getElem?
 intro i;rw[Array.getElem?_modify]
 split
 ·rename_i h;subst h;simp
 ·rename_i h;simp only[Array.getElem?_push];split<;>rename_i h2
  ·exact absurd h2.symm h
  ·rfl
theorem op_convert(hs:SR X φ st a w){src dst:TypeId}{x:Operand}(ho:o.op=.convert src dst x)
  (h:convertA X.P src dst (get st.s x) st fun r s'=>K { s' with s:=putS s'.s o.dst r }):o.wp X.P a w (Nx X K) Q:=by
 have hx:=hs.get x;have he:execOp a.eval o=(do pure (.value (←convert src dst (a.eval x))):Sem Next):=by simp only[execOp,ho]
 have some_of:∀ {t:TypeId},(X.P.underlying t).isSome=true→∃ d,X.P.underlying t=some d:=fun h=>Option.isSome_iff_exists.1 h
 unfold convertA at h
 split at h
 ·rename_i kk n hg;rw[hg]at hx;simp only[rel]at hx
  split at h
  ·rename_i k hd;obtain⟨d,hsrc⟩:=some_of h.1;refine wp_yield hs he (u:=.int k (k.wrap n)) (w':=w) ?_ (.inl rfl) (rel_v _ _) h.2;simp only[convert,Sem.run_bind,run_underlying hsrc,run_underlying hd,Result.andThen_ok,hx]
   rfl
  ·rename_i hd;obtain⟨d,hsrc⟩:=some_of h.1;refine wp_yield hs he (u:=.float .f64 (FloatKind.f64.nearest n)) (w':=w) ?_ (.inl rfl) (rel_v _ _) h.2;simp only[convert,Sem.run_bind,run_underlying hsrc,run_underlying hd,Result.andThen_ok,hx]
   rfl
  ·rename_i hd;obtain⟨d,hsrc⟩:=some_of h.1;refine wp_yield hs he (u:=.string (Utf8.encode n)) (w':=w) ?_ (.inl rfl) (rel_v _ _) h.2;simp only[convert,Sem.run_bind,run_underlying hsrc,run_underlying hd,Result.andThen_ok,hx]
   rfl
  ·exact h.elim
 ·rename_i b hg;rw[hg]at hx;simp only[rel]at hx;obtain⟨k,n,hd,h1,h2,hk⟩:=h;obtain⟨d,hsrc⟩:=some_of h1;refine wp_yield hs he (u:=.int k n) (w':=w) ?_ (.inl rfl) (rel_v _ _) hk;simp only[convert,Sem.run_bind,run_underlying hsrc,run_underlying (intT_eq hd),Result.andThen_ok,hx];unfold f2i at h2;unfold Conv.floatToInt
  split at h2
  ·rename_i m hm
   split at h2
   ·rename_i hr;cases h2;have e:(FloatKind.f64.decode b).toInt .zero=some n:=hm;simp only[e,if_pos hr]
    rfl
   ·cases h2
  ·cases h2
 ·rename_i b hg;rw[hg]at hx;simp only[rel]at hx
  split at h
  ·rename_i hd;obtain⟨d,hsrc⟩:=some_of h.1;refine wp_yield hs he (u:=.string b) (w':=w) ?_ (.inl rfl) (rel_v _ _) (hg▸h.2);simp only[convert,Sem.run_bind,run_underlying hsrc,run_underlying hd,Result.andThen_ok,hx]
   rfl
  ·rename_i e hd;obtain⟨h1,h2,h3,h4,hk⟩:=h;have hsz:b.size=b.data.toList.length:=by simp
   obtain⟨vs,hvs⟩:∃ vs:Array Value,vs=b.data.map (fun c=>Value.int .u8 c.toNat)++Array.replicate (grownCap w b.size 0 e-b.size) (.int .u8 0):=⟨_,rfl⟩;have hge:=grownCap_ge w b.size 0 e;have hvsz:vs.size=grownCap w b.size 0 e:=by rw[hvs];simp;omega
   have hbytes:relL (b.data.toList.map byteC) (cx X φ st.h w) (b.data.toList.map fun c=>Value.int .u8 c.toNat):=by
    generalize b.data.toList=l
    induction l with
    |nil=>simp[relL]
    |cons c l ih=>simp only[BA,relL];exact⟨_,_,rfl,rel_v _ _,ih⟩
   refine wp_row hs he (w1:=w.drew) (.inr rfl) (vs:=vs) (e:=e) (fr:=(vs.size,vs.size+1)) (n:=b.data.toList.length) (cap:=grownCap w b.size 0 e) (cells:=b.data.toList.map byteC) ?_ ?_ (fun off _=>by simp only;omega) (by rw[←hsz];exact hge) (by rw[sizeT_cells h3,hvsz,Nat.mul_one]) hk
   ·simp only[convert,Sem.run_bind,run_underlying (strT_eq h1),run_underlying hd,run_underlying (intT_eq h2),Result.andThen_ok,hx];simp only[Conv.stringToBytes,Sem.run_bind,run_choose,Question.forced,Bool.false_eq_true,if_false,Result.andThen_ok,newRow,run_newObj,Sem.run_pure,markStringish,run_shape];have hgc:(Question.appendCap b.size 0 e).cut (w.tape w.drawn (.appendCap b.size 0 e))=grownCap w b.size 0 e:=rfl;rw[hgc,←hvs]
    have hsh:((w.drew).alloc (.cells vs e)).shape? w.heap.size=some (e,vs.size):=by
     have:=heap_alloc_new w.drew (.cells vs e);simp only[World.size_drew]at this;simp only[World.shape?,this]
    have e2:(w.drew.alloc (.cells vs e)).freeze ⟨w.heap.size,vs.size,none⟩ 1=w.drew.alloc (.cells vs e (vs.size,vs.size+1)):=freeze_alloc w.drew vs e vs.size;rw[←hsz,←e2];show ((Sem.run X.P (match (w.drew.alloc (.cells vs e)).shape? w.heap.size with|some (_,n)=>freeze ⟨w.heap.size,n,none⟩ 1|_=>pure ()) (w.drew.alloc (.cells vs e))).andThen fun a w'=>Result.ok (Value.slice (some ⟨w.heap.size,0,none⟩) b.size (grownCap w b.size 0 e)) w')=_;rw[hsh]
    rfl
   ·rw[hvs];simp only[Array.toList_append,Array.toList_map,Bk];rw[List.take_append_of_le_length (by simp),Bt (by simp)];exact hbytes
  ·exact h.elim
 ·rename_i bb n m cs hg;obtain⟨h1,h2,h3,l,h4,hk⟩:=h;rw[hg]at hx;simp only[rel]at hx;obtain⟨r,off,cap,g1,g2,g3,g4,g5⟩:=hx;cases hel:elemT X.P src with
  |none=>simp[hel]at h2
  |some e=>
   have h2':intT X.P e=some .u8:=by simpa[hel]using h2
   refine wp_yield hs he (u:=.string ⟨l.toArray⟩) (w':=w) ?_ (.inl rfl) (rel_v _ _) hk;rw[g1];exact run_bytesOf (elemT_eq hel) (intT_eq h2') (strT_eq h1) (c:=(cx X φ st.h w).shut) rfl g5 h3 h4
 ·rename_i i ver n hg;obtain⟨k,hk',hv,h1,h2,h3,l,h4,hk⟩:=h;obtain⟨β,cap,vs,fr,g1,g2,g3,g4,g5,g6,g7,g8,g9⟩:=hs.own hg hk' hv;cases hel:elemT X.P src with
  |none=>simp[hel]at h2
  |some e=>
   have h2':intT X.P e=some .u8:=by simpa[hel]using h2
   refine wp_yield hs he (u:=.string ⟨l.toArray⟩) (w':=w) ?_ (.inl rfl) (rel_v _ _) hk;rw[g1];exact run_bytesOf (elemT_eq hel) (intT_eq h2') (strT_eq h1) (c:=cx X φ st.h w) rfl g9 h3 h4
 ·rename_i hg;obtain⟨h1,h2,hk⟩:=h;rw[hg]at hx;simp only[rel]at hx;cases hel:elemT X.P src with
  |none=>simp[hel]at h2
  |some e=>
   have h2':intT X.P e=some .u8:=by simpa[hel]using h2
   refine wp_yield hs he (u:=.string .empty) (w':=w) ?_ (.inl rfl) (rel_v _ _) hk;simp only[convert,Sem.run_bind,run_underlying (elemT_eq hel),run_underlying (strT_eq h1),run_underlying (intT_eq h2'),Result.andThen_ok,hx]
   rfl
 ·exact h.elim
end
section
variable {X:Fix} {φ:List Nat} {st:St} {a:Act} {w:World} {o:Oper} {Q:Exit→Act→World→Prop} {K:St→Prop}
theorem SR.src(hs:SR X φ st a w){y:Operand}{sz:Nat}{KK:Nat→List AV→Prop}(h:srcA st sz (Ev.get st.s y) KK):
  ∃ n new us,KK n new∧relL new (cx X φ st.h w) us∧us.length=n * sz∧(Builtin.lenOf (a.eval y)).run X.P w=.ok n w∧
   ∀ w':World,(∀ p,w'.cell? p=w.cell? p)→(Builtin.firstCells sz n (a.eval y)).run X.P w'=.ok us.toArray w':=by
 have hy:=hs.get y;unfold srcA at h
 split at h
 ·rename_i b n m cs hg;rw[hg]at hy;simp only[rel]at hy;obtain⟨r,off,cap,g1,g2,g3,g4,g5⟩:=hy;obtain⟨us,h1,h2⟩:=relAt_list (relAt_take (relAt_shut g5 ⟨_,g4⟩) (n * sz));have hl:us.length=n * sz:=by have:=relL_length h1;simp at this;omega
  refine⟨n,_,us,h.2,h1,hl,by rw[g1];rfl,fun w' hw'=>?_⟩;rw[g1];refine run_firstCells_some w' sz n _ n cap us hl fun j v hj=>?_
  rw[hw',Addr.add_lit];exact h2 j v hj
 ·rename_i i ver n hg;obtain⟨k,hk,hv,hle,hKK⟩:=h;obtain⟨β,cap,vs,fr,g1,g2,g3,g4,g5,g6,g7,g8,g9⟩:=hs.own hg hk hv;obtain⟨us,h1,h2⟩:=relAt_list (relAt_take g9 (n * sz));have hl:us.length=n * sz:=by have:=relL_length h1;simp at this;omega
  refine⟨n,_,us,hKK,h1,hl,by rw[g1];rfl,fun w' hw'=>?_⟩;rw[g1];refine run_firstCells_some w' sz n _ n cap us hl fun j v hj=>?_
  rw[hw',Addr.add_lit];exact h2 j v hj
 ·rename_i hg;rw[hg]at hy;simp only[rel]at hy;exact⟨0,[],[],h,by simp[relL],by simp,by rw[hy];rfl,fun w' _=>by rw[hy];rfl⟩
 ·rename_i b hg;rw[hg]at hy;simp only[rel]at hy;obtain⟨rfl,hKK⟩:=h;refine⟨_,_,b.data.toList.map fun c=>Value.int .u8 c.toNat,hKK,?_,by simp,by rw[hy];simp[Builtin.lenOf],fun w' _=>?_⟩
  ·generalize b.data.toList=l
   induction l with
   |nil=>simp[relL]
   |cons c l ih=>simp only[BA,relL];exact⟨_,_,rfl,rel_v _ _,ih⟩
  ·rw[hy]
   have:(b.extract 0 b.data.toList.length)=b:=by
    apply ByteArray.ext
    rw[ByteArray.data_extract]
    apply Array.ext'
    simp;exact Bt (by simp)
   simp only[Builtin.firstCells,this,Sem.run_pure]
   congr 1
   try (apply Array.ext';simp)
 ·exact h.elim
theorem zeroCells_size(z:Array Value)(n:Nat):(Builtin.zeroCells z n).size=n * z.size:=by simp[Builtin.zeroCells]
theorem run_append{P:Program}{ts:Array TypeId}{ty t t2 e sz by':Nat}{z:Value}(hz:zeroT P e=some z)(h0:ts[0]?=some t)(h1:ts[1]?=some t2)(hni:intT P t2=none)(hso:(P.underlying t2).isSome=true)(he:elemT P t=some e)(hsz:sizeT P e=some sz)(hby:bytesT P e=some by')(hb0:0<by')
  {base:Option Addr} {m cap n:Nat} {y:Value} {us old:List Value} (hlen:(Builtin.lenOf y).run P w=.ok n w) (hfc:∀ w':World,(∀ p,w'.cell? p=w.cell? p)→(Builtin.firstCells sz n y).run P w'=.ok us.toArray w') :
  (m+n≤cap→(Builtin.append_ ts ty #[.slice base m cap,y]).run P w=((match base with|some ad=>storeCells (ad.add (m * sz)) us|none=>pure ():Sem Unit).run P w).andThen fun _ w'=>.ok (.slice base (m+n) cap) w')∧
  (cap<m+n→(m+n) * by'≤140737488355328→(∀ w':World,(∀ p,w'.cell? p=w.cell? p)→(Builtin.firstCells sz m (.slice base m cap)).run P w'=.ok old.toArray w')→
   (Builtin.append_ ts ty #[.slice base m cap,y]).run P w=.ok (.slice (some ⟨w.heap.size,0,none⟩) (m+n) (grownCap w (m+n) cap e)) (w.drew.alloc (.cells (old.toArray++us.toArray++Builtin.zeroCells z.cells (grownCap w (m+n) cap e-(m+n))) e))):=by
 obtain⟨i,hi,his⟩:=sizeT_info hsz;have hib:i.bytes=by':=by simpa[bytesT,hi]using hby
 have hiz:i.zero=some z:=by simpa[zeroT,hi]using hz
 obtain⟨d,hd⟩:=Option.isSome_iff_exists.1 hso;have hd':∀ k,d≠.int k:=fun k e=>by simp[intT,hd,e]at hni
 have hu:=elemT_eq he;have hs':i.size=sz:=his;have hf1:=hfc w (fun _=>rfl);have hf2:=hfc w.drew (fun _=>rfl);have hm:(d matches .int _)=false:=by cases d<;>first|rfl|exact absurd rfl (hd' _)
 constructor
 ·intro hle;simp[Builtin.append_,h0,h1,run_underlying hu,run_underlying hd,sizeOf,typeInfo,hi,hs',hlen,hle,hf1,hm];cases base<;>simp
 ·intro hlt hb hold;have hn:¬(m+n≤cap):=by omega
  have h63:¬(i.bytes=0):=by omega
  have hfit:=growslice_fits hlt hb;have h48:¬(281474976710656<Builtin.nextslicecap (m+n) cap * i.bytes):=by rw[hib];omega
  have ho:=hold w.drew (fun _=>rfl);simp[Builtin.append_,h0,h1,run_underlying hu,run_underlying hd,sizeOf,typeInfo,zeroValue,hi,hiz,hs',hlen,hn,h63,h48,Question.forced,ho,hf2,newRow,grownCap,hm]
  congr 2
  apply Array.ext'
  simp[Bo]
theorem op_append(hs:SR X φ st a w){c:Call}(ho:o.op=.call c)(hc:c.callee=.builtin .append){x y:Operand}(hxy:c.args = #[x,y])
  (h:appendA X.P c.argTypes st (get st.s x) (get st.s y) fun r s'=>K { s' with s:=putS s'.s o.dst r }):o.wp X.P a w (Nx X K) Q:=by
 have hx:=hs.get x
 have he:execOp a.eval o=(do pure (.value (←Builtin.append_ c.argTypes o.type #[a.eval x,a.eval y])):Sem Next):=by
  simp only[execOp,ho,resolve,hc,hxy,List.map_toArray,BA,List.map_nil];rfl
 obtain⟨t,t2,e,sz,by',z,hz,hzl,h0,h1,h2,h3,h4,h5,h6,h7,h8,h⟩:=h;rw[zeroCells_len]at hzl;obtain⟨n,new,us,⟨hone,hKK⟩,hrel,hul,hlen,hfc⟩:=hs.src h;have hnl:new.length=n * sz:=by rw[←hul,relL_length hrel]
 unfold ontoA at hKK
 split at hKK
 ·rename_i hg;rw[hg]at hx;simp only[rel]at hx;obtain⟨r1,r2⟩:=run_append (w:=w) (ty:=o.type) hz h0 h1 h2 h3 h4 h5 h6 h8 (base:=none) (m:=0) (cap:=0) (old:=[]) hlen hfc
  rcases hKK with⟨rfl,hk⟩|⟨hn,hb,hk⟩
  ·refine wp_yield hs he (u:=.slice none 0 0) (w':=w) ?_ (.inl rfl) (rel_v _ _) hk;rw[hx];exact r1 (BL _)
  ·have hrun:=r2 (by omega) (by simpa using hb) (fun w' _=>rfl);simp only[Nat.zero_add]at hrun;have hge:=grownCap_ge w n 0 e;refine wp_row hs he (w1:=w.drew) (.inr rfl) (n:=n) (cap:=grownCap w n 0 e) (fr:=(0,0)) (e:=e) (cells:=new) (by rw[hx];exact hrun) ?_ (fun off _=>by simp only;omega) hge ?_ hk
   ·simp only[Array.toList_append,Bi];rw[List.take_append_of_le_length (by simp[relL_length hrel]),Bt (by simp[relL_length hrel])];simpa using hrel
   ·rw[sizeT_cells h5];simp only[Array.size_append,List.size_toArray,zeroCells_size,hzl,hul,BD,Nat.zero_add,←Nat.add_mul]
    congr 1;omega
 ·rename_i i ver m hg;obtain⟨k,hk,hv,hke,hml,hKK⟩:=hKK;subst hke;obtain⟨β,cap,vs,fr,g1,g2,g3,g4,g5,g6,g7,g8,g9⟩:=hs.own hg hk hv;rw[sizeT_cells h5]at g3;obtain⟨oldA,q1,q2⟩:=relAt_list (relAt_take g9 (m * sz));have hol:oldA.length=m * sz:=by have:=relL_length q1;simp at this;omega
  have hold:∀ w':World,(∀ p,w'.cell? p=w.cell? p)→(Builtin.firstCells sz m (.slice (some ⟨β,0,none⟩) m cap)).run X.P w'=.ok oldA.toArray w':=fun w' hw'=>
   run_firstCells_some w' sz m _ m cap oldA hol fun j v hj=>by rw[hw',Addr.add_lit];exact q2 j v hj
  obtain⟨r1,r2⟩:=run_append (w:=w) (ty:=o.type) hz h0 h1 h2 h3 h4 h5 h6 h8 (base:=some ⟨β,0,none⟩) (m:=m) (cap:=cap) (old:=oldA) hlen hfc
  rcases hKK with⟨rfl,hk'⟩|⟨hb,hk'⟩
  ·have:us=[]:=by have:us.length=0:=by simpa using hul
                  exact List.length_eq_zero_iff.1 this
   subst this;refine wp_yield hs he (u:=.slice (some ⟨β,0,none⟩) m cap) (w':=w) ?_ (.inl rfl) (r:=.own i ver m) (rel_own g5 hv g2 (by simp only[World.shape?,g6,g3,sizeT_cells h5])) hk';rw[g1];have:=r1 (by omega);simpa[storeCells]using this
  ·by_cases hroom:m+n≤cap
   ·have hsz2:(m+n) * sz≤vs.size:=by rw[g3];exact Nat.mul_le_mul_right _ hroom
    rw[Nat.add_mul]at hsz2;have hone':=relL_one hrel hone;obtain⟨w',s1,s2,s3,s4,s5,s6,s7⟩:=run_storeCells_blk (P:=X.P) β k.e fr us 0 (m * sz) vs w g6 (by omega) g8 hone';have hrun:=r1 hroom;simp only[Addr.add_lit,Nat.zero_add,s1,Result.andThen_ok]at hrun
    have hvs:(vs.toList.take (m * sz))=oldA:=by
     apply List.ext_getElem?
     intro j
     by_cases hj:j<m * sz
     ·have hj':j<oldA.length:=by omega
      have:=q2 j _ (List.getElem?_eq_getElem hj');simp only[cx,World.cell?,Nat.zero_add,g6]at this;rw[BY,if_pos hj,List.getElem?_eq_getElem hj'];simpa using this
     ·rw[Bq (by simp;omega),Bq (by omega)]
    have hnew:relL (k.cells.take (m * sz)++new) (cx X φ st.h w) (oldA++us):=relL_append q1 hrel
    have hsr:=hs.upd (w':=w') hk g4 (vs:=vs) (vs':=(vs.toList.take (m * sz+0)++us++vs.toList.drop (m * sz+0+us.length)).toArray) (fr:=fr) (cells:=k.cells.take (m * sz)++new) (ver:=ver+1) (by omega) g6 s2
     (by simp;omega) s3 s4 s5 s6 s7 (by
      have hl2:(k.cells.take (m * sz)++new).length=(oldA++us).length:=(relL_length hnew).symm;simp only[Nat.add_zero,hvs];rw[hl2,List.take_left' rfl];exact hnew)
    refine wp_val he (u:=.slice (some ⟨β,0,none⟩) (m+n) cap) (w':=w') (by rw[g1];exact hrun) ⟨φ,_,hsr.put o.dst (r:=.own i (ver+1) (m+n)) ?_,hk'⟩;refine rel_own (k:=⟨ver+1,k.e,k.cells.take (m * sz)++new⟩) (β:=β) (curOf_eq.2 ⟨by simp[(Bs.1 hk).1],g4⟩) rfl hroom ?_;simp only[World.shape?,s2];simp only[List.size_toArray,Bp,Bh,Bd,Array.length_toList,sizeT_cells h5,g3,Option.some.injEq,Prod.mk.injEq,true_and];rw[g3]at hsz2
    omega
   ·have hrun:=r2 (by omega) hb hold;have hge:=grownCap_ge w (m+n) cap k.e;have hs1:=hs.world (below_drew w);have hle1:(cx X φ st.h w).le (cx X φ st.h w.drew):=cx_le_same (w:=w) (w':=w.drew) (fun _ _=>rfl) (fun _ _=>rfl) (BL _) (fun β hβ=>(hs.rng β hβ).2) _;have hnew:relL (k.cells.take (m * sz)++new) (cx X φ st.h w.drew) (oldA++us):=relL_mono hle1 _ _ (relL_append q1 hrel)
    have hsr:=hs1.moved hk g4 (vs:=oldA.toArray++us.toArray++Builtin.zeroCells z.cells (grownCap w (m+n) cap k.e-(m+n))) (e:=k.e) (fr:=(0,0)) (cells:=k.cells.take (m * sz)++new) (ver:=ver+1) (by omega) (by
      have hl2:(k.cells.take (m * sz)++new).length=(oldA++us).length:=(relL_length hnew).symm;simp only[Array.toList_append];rw[hl2,List.take_left' rfl];exact hnew) (fun off _=>by simp only;omega)
    refine wp_val he (u:=.slice (some ⟨w.heap.size,0,none⟩) (m+n) (grownCap w (m+n) cap k.e)) (by rw[g1];exact hrun) ⟨_,_,hsr.put o.dst (r:=.own i (ver+1) (m+n)) ?_,hk'⟩;refine rel_own (k:=⟨ver+1,k.e,k.cells.take (m * sz)++new⟩) (β:=w.drew.heap.size) (curOf_eq.2 ⟨by simp[(Bs.1 hk).1],by simp[(Bs.1 g4).1]⟩) rfl hge ?_;have h1':=heap_alloc_new w.drew (.cells (oldA.toArray++us.toArray++Builtin.zeroCells z.cells (grownCap w (m+n) cap k.e-(m+n))) k.e);simp only[World.shape?,h1'];simp only[Array.size_append,List.size_toArray,zeroCells_size,hzl,hul,hol,sizeT_cells h5,Option.some.injEq,Prod.mk.injEq,true_and,←Nat.add_mul]
    congr 1;omega
 ·exact hKK.elim
end
mutual
theorem rel_tree{c c':Cx}(hP:c'.P=c.P)(hw:c'.w=c.w)(hok:∀ b r,c.ok b r→c'.ok b r):∀ (x:AV) (u:Value),treeA x=true→rel x c u→rel x c' u
 |.v _,_,_,hr=>by simp only[rel]at hr⊢;exact hr
 |.nan,_,_,hr=>by simp only[rel]at hr⊢;exact hr
 |.sl b m m' cs,u,_,hr=>by
  simp only[rel]at hr⊢;obtain⟨r,off,cap,h1,h2,h3,h4,h5⟩:=hr;exact⟨r,off,cap,h1,h2,h3,hok _ _ h4,relAt_mono (c:=c.shut) (c':=c'.shut) ⟨hP,hok,fun _ _ _ _ _ h=>by show c'.w.cell? _=_;rw[hw];exact h,fun _ _ _ h=>by cases h⟩ cs r off ⟨b,h4⟩ h5⟩
 |.ela b cs,u,_,hr=>by
  simp only[rel]at hr⊢;obtain⟨r,off,h1,h4,h5⟩:=hr;exact⟨r,off,h1,hok _ _ h4,relAt_mono (c:=c.shut) (c':=c'.shut) ⟨hP,hok,fun _ _ _ _ _ h=>by show c'.w.cell? _=_;rw[hw];exact h,fun _ _ _ h=>by cases h⟩ cs r off ⟨b,h4⟩ h5⟩
 |.agg cs,u,ho,hr=>by
  simp only[rel]at hr⊢;obtain⟨us,h1,h2⟩:=hr;exact⟨us,h1,relL_tree hP hw hok cs _ (by simpa[treeA]using ho) h2⟩
 |.tup cs,u,ho,hr=>by
  simp only[rel]at hr⊢;obtain⟨us,h1,h2⟩:=hr;exact⟨us,h1,relL_tree hP hw hok cs _ (by simpa[treeA]using ho) h2⟩
 |.ifc t x,u,ho,hr=>by
  simp only[rel]at hr⊢;obtain⟨y,h1,h2⟩:=hr;exact⟨y,h1,rel_tree hP hw hok x _ (by simpa[treeA]using ho) h2⟩
 |.own i ver m,u,ho,hr=>by simp[treeA]at ho
 |.ptr i ver off,u,ho,hr=>by simp[treeA]at ho
 |.clo f fs cs,u,ho,hr=>by
  have ho':treeL fs=true∧treeL cs=true:=by simpa[treeA]using ho
  simp only[rel]at hr⊢;obtain⟨a,b,h1,h2,h3⟩:=hr;exact⟨a,b,h1,relL_tree hP hw hok fs _ ho'.1 h2,relL_tree hP hw hok cs _ ho'.2 h3⟩
 |.bad,_,_,_=>by simp only[rel]
theorem relL_tree{c c':Cx}(hP:c'.P=c.P)(hw:c'.w=c.w)(hok:∀ b r,c.ok b r→c'.ok b r):∀ (xs:List AV) (us:List Value),treeL xs=true→relL xs c us→relL xs c' us
 |[],_,_,hr=>by simp only[relL]at hr⊢;exact hr
 |x::xs,us,ho,hr=>by
  have ho':treeA x=true∧treeL xs=true:=by simpa[treeL]using ho
  simp only[relL]at hr⊢;obtain⟨u,us',h1,h2,h3⟩:=hr;exact⟨u,us',h1,rel_tree hP hw hok x _ ho'.1 h2,relL_tree hP hw hok xs _ ho'.2 h3⟩
end
mutual
theorem rel_noBor{c c':Cx}(hP:c'.P=c.P)(hw:c'.w=c.w)(hok:∀ r,c.ok false r→c'.ok false r)(hcur:∀ i,c.cur i=none):∀ (x:AV) (u:Value),noBor x=true→rel x c u→rel x c' u
 |.v _,_,_,hr=>by simp only[rel]at hr⊢;exact hr
 |.nan,_,_,hr=>by simp only[rel]at hr⊢;exact hr
 |.sl b m m' cs,u,ho,hr=>by
  have ho':b=false∧noBorL cs=true:=by simpa[noBor]using ho
  obtain⟨rfl,ho2⟩:=ho';simp only[rel]at hr⊢;obtain⟨r,off,cap,h1,h2,h3,h4,h5⟩:=hr;exact⟨r,off,cap,h1,h2,h3,hok _ h4,relAt_noBor (c:=c.shut) (c':=c'.shut) hP hw hok (fun _=>rfl) cs r off ho2 h5⟩
 |.ela b cs,u,ho,hr=>by
  have ho':b=false∧noBorL cs=true:=by simpa[noBor]using ho
  obtain⟨rfl,ho2⟩:=ho';simp only[rel]at hr⊢;obtain⟨r,off,h1,h4,h5⟩:=hr;exact⟨r,off,h1,hok _ h4,relAt_noBor (c:=c.shut) (c':=c'.shut) hP hw hok (fun _=>rfl) cs r off ho2 h5⟩
 |.agg cs,u,ho,hr=>by
  simp only[rel]at hr⊢;obtain⟨us,h1,h2⟩:=hr;exact⟨us,h1,relL_noBor hP hw hok hcur cs _ (by simpa[noBor]using ho) h2⟩
 |.tup cs,u,ho,hr=>by
  simp only[rel]at hr⊢;obtain⟨us,h1,h2⟩:=hr;exact⟨us,h1,relL_noBor hP hw hok hcur cs _ (by simpa[noBor]using ho) h2⟩
 |.ifc t x,u,ho,hr=>by
  simp only[rel]at hr⊢;obtain⟨y,h1,h2⟩:=hr;exact⟨y,h1,rel_noBor hP hw hok hcur x _ (by simpa[noBor]using ho) h2⟩
 |.own i ver m,u,ho,hr=>by
  simp only[rel]at hr;obtain⟨k,β,h,_⟩:=hr;rw[hcur]at h;cases h
 |.ptr i ver off,u,ho,hr=>by
  simp only[rel]at hr;obtain⟨k,β,h,_⟩:=hr;rw[hcur]at h;cases h
 |.clo f fs cs,u,ho,hr=>by
  have ho':noBorL fs=true∧noBorL cs=true:=by simpa[noBor]using ho
  simp only[rel]at hr⊢;obtain⟨a,b,h1,h2,h3⟩:=hr;exact⟨a,b,h1,relL_noBor hP hw hok hcur fs _ ho'.1 h2,relL_noBor hP hw hok hcur cs _ ho'.2 h3⟩
 |.bad,_,_,_=>by simp only[rel]
theorem relL_noBor{c c':Cx}(hP:c'.P=c.P)(hw:c'.w=c.w)(hok:∀ r,c.ok false r→c'.ok false r)(hcur:∀ i,c.cur i=none):∀ (xs:List AV) (us:List Value),noBorL xs=true→relL xs c us→relL xs c' us
 |[],_,_,hr=>by simp only[relL]at hr⊢;exact hr
 |x::xs,us,ho,hr=>by
  have ho':noBor x=true∧noBorL xs=true:=by simpa[noBorL]using ho
  simp only[relL]at hr⊢;obtain⟨u,us',h1,h2,h3⟩:=hr;exact⟨u,us',h1,rel_noBor hP hw hok hcur x _ ho'.1 h2,relL_noBor hP hw hok hcur xs _ ho'.2 h3⟩
theorem relAt_noBor{c c':Cx}(hP:c'.P=c.P)(hw:c'.w=c.w)(hok:∀ r,c.ok false r→c'.ok false r)(hcur:∀ i,c.cur i=none):∀ (xs:List AV) (r off:Nat),noBorL xs=true→relAt xs c r off→relAt xs c' r off
 |[],_,_,_,hr=>by simp only[relAt]at hr⊢
 |x::xs,r,off,ho,hr=>by
  have ho':noBor x=true∧noBorL xs=true:=by simpa[noBorL]using ho
  simp only[relAt]at hr⊢;obtain⟨⟨u,h1,h2⟩,h3⟩:=hr;exact⟨⟨u,by rw[hw];exact h1,rel_noBor hP hw hok hcur x _ ho'.1 h2⟩,relAt_noBor hP hw hok hcur xs r (off+1) ho'.2 h3⟩
end
section
variable {X:Fix} {φ:List Nat} {st:St} {a:Act} {w:World} {o:Oper} {Q:Exit→Act→World→Prop} {K:St→Prop}
mutual
theorem rel_fz{b0:Bool}{ok':Bool→Nat→Prop}(hs:SR X φ st a w)(hok:∀ b r,(cx X φ st.h w).ok b r→ok' b r)(hown:∀ β∈φ,ok' b0 β):∀ (y x:AV) (u:Value),fz X.P st.h b0 y x→rel x (cx X φ st.h w) u→rel y ⟨X.P,ok',fun _=>none,w⟩ u
 |.v _,x,u,hf,hr=>by simp only[fz]at hf;subst hf;simp only[rel]at hr⊢;exact hr
 |.nan,x,u,hf,hr=>by simp only[fz]at hf;subst hf;simp only[rel]at hr⊢;exact hr
 |.bad,_,_,_,_=>by simp only[rel]
 |.ela _ _,_,_,hf,_=>by simp only[fz]at hf
 |.own _ _ _,_,_,hf,_=>by simp only[fz]at hf
 |.ptr _ _ _,_,_,hf,_=>by simp only[fz]at hf
 |.clo f ys zs,x,u,hf,hr=>by
  simp only[fz]at hf;obtain⟨xs,xs',rfl,hf,hf2⟩:=hf;simp only[rel]at hr⊢;obtain⟨a,b,h1,h2,h3⟩:=hr;exact⟨a,b,h1,relL_fz hs hok hown ys xs _ hf h2,relL_fz hs hok hown zs xs' _ hf2 h3⟩
 |.agg ys,x,u,hf,hr=>by
  simp only[fz]at hf;obtain⟨xs,rfl,hf⟩:=hf;simp only[rel]at hr⊢;obtain⟨us,h1,h2⟩:=hr;exact⟨us,h1,relL_fz hs hok hown ys xs _ hf h2⟩
 |.tup ys,x,u,hf,hr=>by
  simp only[fz]at hf;obtain⟨xs,rfl,hf⟩:=hf;simp only[rel]at hr⊢;obtain⟨us,h1,h2⟩:=hr;exact⟨us,h1,relL_fz hs hok hown ys xs _ hf h2⟩
 |.ifc t y,x,u,hf,hr=>by
  simp only[fz]at hf;obtain⟨x',rfl,hf⟩:=hf;simp only[rel]at hr⊢;obtain⟨z,h1,h2⟩:=hr;exact⟨z,h1,rel_fz hs hok hown y x' _ hf h2⟩
 |.sl b n m ys,x,u,hf,hr=>by
  simp only[fz]at hf
  rcases hf with rfl|⟨rfl,i,k,xs,rfl,hk,hnm,hm,hpre,hf⟩
  ·exact rel_tree (c:=cx X φ st.h w) (c':=⟨X.P,ok',fun _=>none,w⟩) rfl rfl hok _ _ rfl hr
  ·obtain⟨β,vs,fr,g1,g2,g3,g4,g5,g6⟩:=hs.at hk;simp only[rel]at hr⊢;obtain⟨k',β',q1,q2,q3,q4⟩:=hr;have:curOf φ st.h i=some (k',β'):=q1;rw[g2]at this;cases this;obtain⟨cap,rfl,hcap,hsh⟩:=q4 rfl;have hsh':w.shape? β=some (k.e,cap * X.P.cellsOf k.e):=hsh;simp only[World.shape?,g3,Option.some.injEq,Prod.mk.injEq,true_and]at hsh';refine⟨β,0,cap,rfl,hnm,?_,hown β (List.mem_of_getElem? g1),?_⟩
   ·rcases hm with rfl|⟨h0,hm⟩
    ·exact hcap
    ·have:m * X.P.cellsOf k.e≤cap * X.P.cellsOf k.e:=by omega
     exact Nat.le_of_mul_le_mul_right this h0
   ·obtain⟨t,ht⟩:=hpre
    have hpx:relAt xs (cx X φ st.h w) β 0:=by
     refine relAt_of_get fun j z hz=>relAt_get g6 j z ?_
     rw[←ht,Ba (Bs.1 hz).1];exact hz
    exact relAt_fz hs hok hown ys xs β 0 hf hpx
theorem relL_fz{b0:Bool}{ok':Bool→Nat→Prop}(hs:SR X φ st a w)(hok:∀ b r,(cx X φ st.h w).ok b r→ok' b r)(hown:∀ β∈φ,ok' b0 β):∀ (ys xs:List AV) (us:List Value),fzL X.P st.h b0 ys xs→relL xs (cx X φ st.h w) us→relL ys ⟨X.P,ok',fun _=>none,w⟩ us
 |[],xs,us,hf,hr=>by simp only[fzL]at hf;subst hf;simp only[relL]at hr⊢;exact hr
 |y::ys,xs,us,hf,hr=>by
  simp only[fzL]at hf;obtain⟨x,xs',rfl,h1,h2⟩:=hf;simp only[relL]at hr⊢;obtain⟨u,us',rfl,h3,h4⟩:=hr;exact⟨u,us',rfl,rel_fz hs hok hown y x u h1 h3,relL_fz hs hok hown ys xs' us' h2 h4⟩
theorem relAt_fz{b0:Bool}{ok':Bool→Nat→Prop}(hs:SR X φ st a w)(hok:∀ b r,(cx X φ st.h w).ok b r→ok' b r)(hown:∀ β∈φ,ok' b0 β):∀ (ys xs:List AV) (r off:Nat),fzL X.P st.h b0 ys xs→relAt xs (cx X φ st.h w) r off→relAt ys (Cx.shut ⟨X.P,ok',fun _=>none,w⟩) r off
 |[],xs,_,_,hf,hr=>by simp only[relAt]
 |y::ys,xs,r,off,hf,hr=>by
  simp only[fzL]at hf;obtain⟨x,xs',rfl,h1,h2⟩:=hf;simp only[relAt]at hr⊢;obtain⟨⟨u,h3,h4⟩,h5⟩:=hr;exact⟨⟨u,h3,rel_fz hs hok hown y x u h1 h4⟩,relAt_fz hs hok hown ys xs' r (off+1) h2 h5⟩
end
theorem relL_map_get(hs:SR X φ st a w):∀ xs:List Operand,relL (xs.map (Ev.get st.s)) (cx X φ st.h w) (xs.map a.eval)
 |[]=>by simp[relL]
 |x::xs=>by simp only[BA,relL];exact⟨_,_,rfl,hs.get x,relL_map_get hs xs⟩
theorem op_callF(hs:SR X φ st a w){c:Call}(ho:o.op=.call c){g:FuncId}(hc:c.callee=.value (.func g))(hfn:∃ fn,X.P.funcs[g]?=some fn∧fn.body.isSome=true∧(fn.name == "runtime.NumGoroutine")=false)
  (h:callA X.P st g (c.args.toList.map (get st.s)) fun r=>K { st with s:=putS st.s o.dst r }):o.wp X.P a w (Nx X K) Q:=by
 obtain⟨fn,hf,hb,hn⟩:=hfn
 have hrun:(execOp a.eval o).run X.P w=.ok (.enter g (c.args.map a.eval)) w:=by
  have hb':¬fn.body=none:=by cases hq:fn.body<;>simp[hq]at hb⊢
  have hn':¬fn.name = "runtime.NumGoroutine" :=by simpa using hn
  simp[execOp,ho,resolve,hc,Deferred.ofValue,Act.eval,invoke,callFunc,hf,hn',hb']
 unfold Oper.wp;rw[hrun];simp only[Oper.upon];obtain⟨ys,r,hys,hev,hk⟩:=h
 have hargs:relL (c.args.toList.map (get st.s)) (cx X φ st.h w) (c.args.map a.eval).toList:=by
  rw[Array.toList_map];exact relL_map_get hs _
 have hsub:∀ β∈φ,β<w.heap.size:=fun β hβ=>(hs.rng β hβ).2
 have hw0:=hs.below.size
 rcases hys with⟨rfl,htr⟩|⟨hfz,hnb⟩
 ·refine (hev (fun r=>r<w.heap.size∧(X.G r∨r∈φ)) X.B w (c.args.map a.eval) (fun r h=>h.1) (fun k=>⟨(hs.gl k).1,?_⟩) ?_).mono fun e w' ⟨u,he,hr,hbel⟩=>?_
  ·refine rel_tree (c:=cx X φ st.h w) (c':=cx0 X.P (fun r=>r<w.heap.size∧(X.G r∨r∈φ)) X.B w) rfl rfl (fun b r ⟨h1,h2,h3⟩=>⟨h1,?_⟩) _ _ (hs.gl k).1 (hs.gl k).2;cases b
   ·exact fun⟨_,h⟩=>h.elim h3 h2
   ·exact h3
  ·refine relL_tree (c:=cx X φ st.h w) (c':=cx0 X.P (fun r=>r<w.heap.size∧(X.G r∨r∈φ)) X.B w) rfl rfl (fun b r ⟨h1,h2,h3⟩=>⟨h1,?_⟩) _ _ htr hargs;cases b
   ·exact fun⟨_,h⟩=>h.elim h3 h2
   ·exact h3
  ·subst he;have hs':=hs.world hbel;refine⟨φ,_,hs'.put o.dst (r:=r) ?_,hk⟩;refine rel_mono (c:=cx0 X.P (fun r=>r<w.heap.size∧(X.G r∨r∈φ)) X.B w') (c':=cx X φ st.h w') ⟨rfl,fun b r ⟨h1,h2⟩=>?_,fun _ _ _ _ _ h=>h,fun _ _ _ h=>by cases h⟩ r u hr;cases b
   ·have h2':¬(r<w.heap.size∧(X.G r∨r∈φ)):=h2;refine⟨h1,fun hm=>h2' ⟨hsub r hm,.inr hm⟩,fun hG=>h2' ⟨by have:=X.hG r hG;omega,.inl hG⟩⟩
   ·have h2':X.B r:=h2;exact⟨h1,fun hm=>by have:=(hs.rng r hm).1;have:=X.hB r h2';omega,h2'⟩
 ·refine (hev (fun r=>r<w.heap.size∧(X.G r∨r∈φ)) (fun r=>X.B r∨r∈φ) w (c.args.map a.eval) (fun r h=>h.1) (fun k=>⟨(hs.gl k).1,?_⟩) ?_).mono fun e w' ⟨u,he,hr,hbel⟩=>?_
  ·refine rel_tree (c:=cx X φ st.h w) (c':=cx0 X.P (fun r=>r<w.heap.size∧(X.G r∨r∈φ)) (fun r=>X.B r∨r∈φ) w) rfl rfl (fun b r ⟨h1,h2,h3⟩=>⟨h1,?_⟩) _ _ (hs.gl k).1 (hs.gl k).2;cases b
   ·exact fun⟨_,h⟩=>h.elim h3 h2
   ·exact .inl h3
  ·refine relL_fz (b0:=true) (ok':=(cx0 X.P (fun r=>r<w.heap.size∧(X.G r∨r∈φ)) (fun r=>X.B r∨r∈φ) w).ok) hs (fun b r ⟨h1,h2,h3⟩=>⟨h1,?_⟩) (fun β hβ=>⟨hsub β hβ,.inr hβ⟩) ys _ _ hfz hargs;cases b
   ·exact fun⟨_,h⟩=>h.elim h3 h2
   ·exact .inl h3
  ·subst he;have hs':=hs.world hbel;refine⟨φ,_,hs'.put o.dst (r:=r) ?_,hk⟩;refine rel_noBor (c:=cx0 X.P (fun r=>r<w.heap.size∧(X.G r∨r∈φ)) (fun r=>X.B r∨r∈φ) w') (c':=cx X φ st.h w') rfl rfl (fun r ⟨h1,h2⟩=>?_) (fun _=>rfl) r u hnb hr;have h2':¬(r<w.heap.size∧(X.G r∨r∈φ)):=h2;refine⟨h1,fun hm=>h2' ⟨hsub r hm,.inr hm⟩,fun hG=>h2' ⟨by have:=X.hG r hG;omega,.inl hG⟩⟩
end
section
variable {X:Fix} {φ:List Nat} {st:St} {a:Act} {w:World} {o:Oper} {Q:Exit→Act→World→Prop} {K:St→Prop}
theorem aop_sound(hs:SR X φ st a w)(h:aop X.P o st K):o.wp X.P a w (Nx X K) Q:=by
 unfold aop at h
 split at h
 ·rename_i x ho;exact op_move hs (.inl ho) h
 ·rename_i x ho;exact op_move hs (.inr ho) h
 ·rename_i c x y ho
  split at h
  ·rename_i z hg;exact op_pick hs ho hg h.1 h.2
  ·exact h.elim
 ·rename_i t ho;obtain⟨z,hz,hk⟩:=h;exact op_alloc hs ho hz hk
 ·rename_i t x ho;obtain⟨cs,hf,hk⟩:=h;exact op_box hs ho hf hk
 ·rename_i t ps ho;exact op_build hs ho h
 ·rename_i t n ps ho;exact op_buildSlice hs ho h
 ·rename_i t x ho;exact op_load hs ho h
 ·rename_i t x y ho;exact op_store hs ho h
 ·rename_i x ho
  split at h
  ·rename_i i ver off hg;exact op_nilCheck hs ho (.inl ⟨_,_,_,hg,h.1⟩) (hg▸h.2)
  ·rename_i b cs hg;exact op_nilCheck hs ho (.inr ⟨_,_,hg⟩) (hg▸h)
  ·exact h.elim
 ·rename_i op t x y t2 ho;exact op_binOp hs ho h
 ·rename_i op t x ho;exact op_unOp hs ho h
 ·rename_i t1 t2 x ho;exact op_convert hs ho h
 ·rename_i t x ho;exact op_makeInterface hs ho h.1 h.2
 ·rename_i t x y ho;exact op_makeSlice hs ho h
 ·rename_i t x lo hi mx ho;exact op_slice hs ho h
 ·rename_i t x f ho;exact op_fieldAddr hs ho h
 ·rename_i t x f ho
  split at h
  ·rename_i cs hg;obtain⟨off,ft,hf,hk⟩:=h;exact op_field hs ho hg hf hk
  ·exact h.elim
 ·rename_i t x y ho;exact op_indexAddr hs ho h
 ·rename_i t x y ho;exact op_index hs ho h
 ·rename_i x i ho
  split at h
  ·rename_i cs hg;obtain⟨y,hy,hk⟩:=h;exact op_extract hs ho hg hy hk
  ·exact h.elim
 ·rename_i c ho
  split at h
  ·rename_i hc;obtain⟨x,hx,hk⟩:=h;exact op_len hs ho hc hx hk
  ·rename_i hc;obtain⟨x,y,hxy,hk⟩:=h;exact op_append hs ho hc hxy hk
  ·rename_i hc;obtain⟨x,r,hx,hp,hk⟩:=h;exact op_part hs ho (im:=false) hc hx hp hk
  ·rename_i hc;obtain⟨x,r,hx,hp,hk⟩:=h;exact op_part hs ho (im:=true) hc hx hp hk
  ·rename_i hc;obtain⟨x,y,r,hx,hp,hk⟩:=h;exact op_comp hs ho hc hx hp hk
  ·rename_i hc;obtain⟨x,y,r,hx,hp,hk⟩:=h;exact op_max hs ho hc hx hp hk
  ·rename_i g hc;exact op_callF hs ho hc h.1 h.2
  ·exact h.elim
 ·exact h.elim
def Qx(X:Fix)(Q:Post)(e:Exit)(a:Act)(w:World):Prop:=∃ φ st,SR X φ st a w∧Q e st
theorem wp_loopR{P:Program}{c:Code}{Q:Exit→Act→World→Prop}(R:Nat→Act→World→Prop){n:Nat}{a:Act}{w:World}(h₀:R n a w)
  (round:∀ n a w,R n a w→c.wp P (Exit.then (fun a' w'=>∃ m,m<n∧R m a' w') Q) a w):(Code.loop c).wp P Q a w:=by
 intro b k cs
 have key:∀ n a w,R n a w→∃ e a' w',Q e a' w'∧Arrives P (lone (b.at a (.code c::.inLoop c::k)) cs w) b k cs e a' w':=by
  intro n
  induction n using Nat.strongRecOn with
  |_ n ih=>
   intro a w hI;obtain⟨e,a₁,w₁,hq,harr⟩:=round n a w hI b (.inLoop c::k) cs;cases e with
   |normal=>
    obtain⟨m,hlt,hm⟩:=hq;obtain⟨e₂,a₂,w₂,hq₂,harr₂⟩:=ih m hlt a₁ w₁ hm;exact⟨e₂,a₂,w₂,hq₂,.of_steps (Steps.trans harr (.one step_inLoop)) harr₂⟩
   |exit id=>exact⟨_,a₁,w₁,hq,.pass (x:=.inLoop c) rfl (fun _ _=>.inl (by simp)) harr⟩
   |goto l=>exact⟨_,a₁,w₁,hq,.pass (x:=.inLoop c) rfl (fun _ _=>.inl (by simp)) harr⟩
   |ret=>exact⟨_,a₁,w₁,hq,.pass (x:=.inLoop c) rfl (fun _ _=>.inl (by simp)) harr⟩
   |panic ch=>exact⟨_,a₁,w₁,hq,.pass (x:=.inLoop c) rfl (fun _ _=>.inl (by simp)) harr⟩
   |outgrown=>exact⟨_,a₁,w₁,hq,.pass (x:=.inLoop c) rfl (fun _ _=>.inl (by simp)) harr⟩
 obtain⟨e,a',w',hq,harr⟩:=key _ a w h₀;exact⟨e,a',w',hq,.of_steps (.one step_loop) harr⟩
theorem Qx_then{P1:St→Prop}{Q:Post}{N:Act→World→Prop}(hn:∀ a w,Nx X P1 a w→N a w)(e:Exit)(a:Act)(w:World)(h:Qx X (thenA P1 Q) e a w):Exit.then N (Qx X Q) e a w:=by
 obtain⟨φ,st,hs,hq⟩:=h;cases e with
 |normal=>exact hn _ _ ⟨φ,st,hs,hq⟩
 |_=>exact⟨φ,st,hs,hq⟩
theorem loadA_run(hs:SR X φ st a w){t:TypeId}{p:Nat}{KA:AV→Prop}(h:loadA X.P t st (look st.s.l p) KA):
  ∃ x u ad,a.tmps.getD p undef=.pointer (some ad)∧(loadVar t ad).run X.P w=.ok u w∧rel x (cx X φ st.h w) u∧KA x:=by
 have hx:=hs.get (.tmp p);unfold loadA at h
 split at h
 ·rename_i i ver off hg;obtain⟨k,hk,hv,ht⟩:=h;obtain⟨β,vs,fr,h1,h2,h3,h4,h5,h6⟩:=hs.at hk;obtain⟨k',β',g1,g2,g3⟩:=hs.ptr (x:=.tmp p) hg ⟨k,hk,hv⟩;rw[h2]at g2;cases g2;obtain⟨y,u,q1,q2,q3⟩:=run_takeA (c:=cx X φ st.h w) (r:=β) (off:=off) ht (by simpa using relAt_drop h6 off);exact⟨y,u,_,g1,q1,q2,q3⟩
 ·rename_i b cs hg;have hx':rel (look st.s.l p) (cx X φ st.h w) (a.eval (.tmp p)):=hx;rw[hg]at hx';simp only[rel]at hx';obtain⟨r,off,g1,g2,g3⟩:=hx';obtain⟨y,u,q1,q2,q3⟩:=run_takeA (c:=cx X φ st.h w) h (relAt_shut g3 ⟨_,g2⟩);exact⟨y,u,_,g1,q1,q2,q3⟩
 ·exact h.elim
theorem resA_run(hs:SR X φ st a w):∀ (rs:List ResultVar) {KL:List AV→Prop},resA X.P rs st KL→
  ∃ xs us,(rs.mapM (fun|.tmp t=>pure (a.tmps.getD t undef)|.cell p t=>do loadVar t (←asAddr (a.tmps.getD p undef)):ResultVar→Sem Value)).run X.P w=.ok us w∧relL xs (cx X φ st.h w) us∧KL xs
 |[],KL,h=>⟨[],[],rfl,by simp only[relL],h⟩
 |.tmp t::rs,KL,h=>by
  obtain⟨xs,us,h1,h2,h3⟩:=resA_run hs rs h;refine⟨_,a.tmps.getD t undef::us,?_,?_,h3⟩
  ·simp only[List.mapM_cons,Sem.run_bind,Sem.run_pure,Result.andThen_ok,h1]
  ·simp only[relL];exact⟨_,us,rfl,hs.get (.tmp t),h2⟩
 |.cell p t::rs,KL,h=>by
  obtain⟨x,u,ad,g1,g2,g3,g4⟩:=loadA_run hs h;obtain⟨xs,us,h1,h2,h3⟩:=resA_run hs rs g4;refine⟨x::xs,u::us,?_,?_,h3⟩
  ·have e:(asAddr (a.tmps.getD p undef)).run X.P w=.ok ad w:=by rw[g1];rfl
   simp only[List.mapM_cons,Sem.run_bind,Sem.run_pure,Result.andThen_ok,h1,e,g2]
  ·simp only[relL];exact⟨u,us,rfl,g3,h2⟩
end
theorem Ev.of_wp{P:Program}{γ:List (Nat×AV)}{f:FuncId}{fn:Func}{c:Code}{args:List AV}{res:AV}(hf:P.funcs[f]?=some fn)(hb:fn.body=some c)
  (h:∀ (X:Fix),X.P=P→X.c0=none→∀ {a:Act} {w:World},SR X [] (startA γ args fn.ntmps) a w→c.wp P (Qx X (endA P fn.results.toList res)) a w):Ev P γ f args res:=by
 intro G B w vs hG hγ hargs
 let X:Fix:={ P,G,B:=fun r=>B r∧r<w.heap.size,w0:=w,hG,hB:=fun r h=>h.2 }
 have hle:(cx0 P G B w).le (cx X [] [] w):=⟨rfl,fun b r ⟨h1,h2⟩=>⟨h1,by simp,by cases b;exact h2;exact⟨h2,h1⟩⟩,fun _ _ _ _ _ h=>h,fun _ _ _ h=>by cases h⟩;have hargs':relL args (cx X [] [] w) vs.toList:=relL_mono hle _ _ hargs;have hl:vs.size=args.length:=by have:=relL_length hargs;simpa using this
 have hs:SR X [] (startA γ args fn.ntmps) { tmps:=vs++Array.replicate (fn.ntmps-vs.size) undef,defers:=[] } w:=
  {below:=Below.refl _ _,defers:=rfl,kp:=(fun p hp=>by cases hp),kd:=(fun p hp=>by cases hp),le0:=(fun c hc=>by cases hc),slots:=fun t=>by
    have key:∀ (xs:List AV) (us:List Value) (i:Nat),relL xs (cx X [] [] w) us→look (idxL i xs) (i+t)=.bad∨∃ u,us[t]?=some u∧rel (look (idxL i xs) (i+t)) (cx X [] [] w) u:=by
     induction t with
     |zero=>
      intro xs us i h;cases xs with
      |nil=>exact .inl rfl
      |cons x xs=>
       simp only[relL]at h;obtain⟨u,us',rfl,h2,_⟩:=h;exact .inr ⟨u,rfl,by simpa[idxL,look]using h2⟩
     |succ t ih=>
      intro xs us i h;cases xs with
      |nil=>exact .inl rfl
      |cons x xs=>
       simp only[relL]at h;obtain⟨u,us',rfl,_,h3⟩:=h;have:=ih xs us' (i+1) h3;rw[show i+(t+1)=i+1+t by omega];simp only[idxL,look];rw[if_neg (by omega)];simpa using this
    have:=key args vs.toList 0 hargs';simp only[Nat.zero_add]at this;simp only[startA]
    rcases this with h|⟨u,hu,h⟩
    ·rw[h];simp only[rel]
    ·have hu':vs[t]?=some u:=by simpa using hu
     have hlt:=(BP.1 hu').1;simpa[Array.getElem?_append_left hlt,hu']using h
   len:=by simp[startA,hl],gl:=fun k=>⟨(hγ k).1,rel_mono hle _ _ (hγ k).2⟩,φlen:=rfl,nodup:=List.nodup_nil,rng:=fun _ h=>by simp at h,blk:=fun i k β h=>by simp[startA]at h }
 refine calls_of_wp hf hb (wp_mono (h X rfl rfl hs) fun e a w' hq=>?_);obtain⟨φ,st,hs',hq⟩:=hq
 have fin:(resA P fn.results.toList st fun xs=>fz P st.h false res (oneOrTup xs))→a.defers=[]∧∃ v,(results fn a.tmps).run P w'=.ok v w'∧∃ u,Ending.returned v=.returned u∧rel res (cx0 P G B w') u∧Below w.heap.size w w':=by
  intro hr;obtain⟨xs,us,h1,h2,h3⟩:=resA_run (X:=X) hs' fn.results.toList hr;refine⟨hs'.defers,if h:us.toArray.size=1 then us.toArray[0]else .tuple us.toArray,?_,_,rfl,?_,hs'.below⟩
  ·unfold results;rw[Sem.run_bind]
   have e:(fn.results.mapM fun|.tmp t=>pure (a.tmps.getD t undef)|.cell p t=>do loadVar t (←asAddr (a.tmps.getD p undef)):Sem (Array Value)).run P w'=.ok us.toArray w':=by
    rw[Array.mapM_eq_mapM_toList,Sem.run_map,h1]
    rfl
   exact (congrArg (fun r=>Result.andThen r _) e).trans rfl
  ·have hrel:rel (oneOrTup xs) (cx X φ st.h w') (if h:us.toArray.size=1 then us.toArray[0]else .tuple us.toArray):=by
    have hlen:=relL_length h2
    match xs,us,h2,hlen with
    |[x],[u],h2,_=>
     simp only[relL]at h2;obtain⟨u',us',e,hr,_⟩:=h2;cases e;exact hr
    |[],[],h2,_=>
     simp only[oneOrTup,rel];exact⟨#[],rfl,h2⟩
    |x::y::xs,u::v::us,h2,_=>
     simp only[oneOrTup,rel];refine⟨(u::v::us).toArray,?_,h2⟩;rw[dif_neg (by simp)]
    |[],_::_,_,hl=>simp at hl
    |_::_,[],_,hl=>simp at hl
    |[_],_::_::_,_,hl=>simp at hl
    |_::_::_,[_],_,hl=>simp at hl
   refine rel_fz (X:=X) (b0:=false) (ok':=(cx0 P G B w').ok) hs' (fun b r ⟨h1,h2,h3⟩=>⟨h1,?_⟩) (fun β hβ=>⟨(hs'.rng β hβ).2,fun hg=>?_⟩) res _ _ h3 hrel
   ·cases b
    ·exact h3
    ·exact h3.1
   ·have:=(hs'.rng β hβ).1;have:=hG β hg;exact absurd this (by show ¬β<w.heap.size;have:w.heap.size≤β:=(hs'.rng β hβ).1;omega)
 cases e with
 |normal=>exact fin hq
 |ret=>exact fin hq
 |_=>exact hq.elim
end Go.Ev
