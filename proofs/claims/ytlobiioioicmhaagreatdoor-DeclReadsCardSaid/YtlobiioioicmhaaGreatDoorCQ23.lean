import Derived.Test.YtlobiioioicmhaaGreatDoorCQ22
import Derived.Test.YtlobiioioicmhaaGreatDoorCards
import Derived.Test.YtlobiioioicmhaaGreatDoorTie
import Derived.WalkKit
import Derived.ProofKit
import Derived.OpenShut
import Derived.ShutString
import Derived.ChangeOld
import Derived.SizedLaws
import Derived.Deep.DeepHandedRow
import Derived.Deep.DeepWitnessRowRef
import Derived.Stop.LaidErr
import Derived.Lib.LaidIn
import Derived.Lib.LaidTab
set_option linter.all false
set_option maxHeartbeats 8000000
namespace Go.Proofs.YtlobiioioicmhaaGreatDoor
open _root_.Array renaming getElem?_eq_none→BQ
open _root_.List renaming getElem?_map→Bm,length_map→Bk,length_take→Bh,getElem?_take→BY
open _root_.Nat renaming le_refl→BL,le_trans→BM
open Go.Proofs.Tryz renaming prog→Tp
open Go Go.Ev Go.Lib
open Go.ChangeShapes Go.WideShapes Go.ChangeAt Go.RowKit
open Go.ChangeMaps (open_string shut_string)
set_option maxRecDepth 20000
theorem own:ownKnob Tryz.prog.godebug=none:=by kernel_rfl
theorem laidOut:laidOutB Tp=true:=by kernel_rfl
abbrev VX:List (String×DataW Unit):=[("math/bits.deBruijn32tab",Rows.laid_math_bits_deBruijn32tab),("math/bits.deBruijn64tab",Rows.laid_math_bits_deBruijn64tab),("internal/strconv.uint64pow10",Rows.laid_internal_strconv_uint64pow10),("strconv.ErrRange",Rows.laid_strconv_ErrRange),("strconv.ErrSyntax",Rows.laid_strconv_ErrSyntax)]
def ND:DataW Unit→List Value
 |.agg ds=>ds.map fun|.lit (.int k n)=>.int k n|_=>.nilIface
 |_=>[]
abbrev Zm:ByteArray:={ data:= #[118,97,108,117,101,32,111,117,116,32,111,102,32,114,97,110,103,101] }
abbrev Ww:ByteArray:={ data:= #[105,110,118,97,108,105,100,32,115,121,110,116,97,120] }
noncomputable abbrev N0:Nat:=(World.settled Tp default).heap.size
noncomputable def HO(os:Os):World:=
 let N:=(World.settled Tp os).heap.size
 let w0:=World.holding Tp os ⟨#[.cells #[.string Zm] 308,.cells #[.string Ww] 308],#[],[]⟩
 let put (h:Array Obj) (g:Nat) (cs:Array Value):Array Obj:=h.modify g fun
  |.cells _ t frozen=>.cells cs t frozen
  |o=>o
 let h1:=put w0.heap 5 (ND Rows.laid_math_bits_deBruijn32tab).toArray
 let h2:=put h1 6 (ND Rows.laid_math_bits_deBruijn64tab).toArray
 let h3:=put h2 4 (ND Rows.laid_internal_strconv_uint64pow10).toArray
 let h4:=put h3 3 #[.iface 306 (.pointer (some ⟨N,0,none⟩))]
 let h5:=put h4 2 #[.iface 306 (.pointer (some ⟨N+1,0,none⟩))]
 {w0 with heap:=h5 }
theorem XV(os:Os)(args:Array Value):LaidIn Tp ((HO os).forCall (fun _ _=>0) ⟨#[],args,[]⟩).memory VX [5,6,4,3,N0,2,N0+1]:=
 LaidIn.of_run [5,6,4,3,N0,2,N0+1] 8 (by kernel_rfl) (by kernel_rfl) (by kernel_rfl) (by kernel_rfl)
theorem Y4(os:Os)(args:Array Value):laidMet Tp VX ((HO os).forCall (fun _ _=>0) ⟨#[],args,[]⟩).memory:=(XV os args).met
theorem OQ{W:World}(h:laidMet Tp VX W):∃ te pe,W.cell? ⟨3,0,none⟩=some (.iface te pe):=by
 have gR:Tryz.prog.globalNamed "strconv.ErrRange" = some 3:=by kernel_rfl
 obtain⟨a,s,hv,_⟩:=laid_sentinel (n := "strconv.ErrRange") (nm := "*errors.errorString") (ti:=169) (tp:=306) (te:=308) (ts:=9) h.tail.tail.tail gR (by kernel_rfl) Tryz.underlying169
  (fun u hu=>typeName_ptr_named (nm := "errors.errorString") (by kernel_rfl) (by kernel_rfl) (by decide) u hu) Tryz.underlying306 Tryz.underlying308 rfl rfl Tryz.underlying9 (by kernel_rfl) (by kernel_rfl)
 exact⟨306,.pointer (some a),by simpa using World.var?_cell gR hv 0⟩
theorem PZ{P:Program}{w:World}{g:Nat}{t:TypeId}{k:IntKind}{zero:Array Value}(h:w.ShapedOpen P)(hg:g<P.globals.size)
  (h0:((begin P (fun _ _=>0) default).world.heap[g]?).bind Obj.row?=some (zero,t)) (hz:zero.size=1)
  (hb:P.buildable t=true) (hc:P.cellTypes P.depth t=some [t]) (hu:P.underlying t=some (.int k)):∃ n,w.cell? ⟨g,0,none⟩=some (.int k n):=by
 obtain⟨cs,hh,hs,hr⟩:=h.1 g zero t hg h0;obtain⟨ts,hts,_,hall⟩:=hr hb;rw[hc]at hts;cases hts;have h1:0<cs.size:=by omega
 obtain⟨u,hu',hok⟩:=hall 0 cs[0] (by simp[h1]);have:u=t:=by simpa using hu'.symm
 subst this;have hcell:w.cell? ⟨g,0,none⟩=some cs[0]:=by simp[World.cell?,hh,h1]
 rw[hcell];unfold Cell.ok at hok;rw[hu]at hok;cases hv:cs[0]<;>rw[hv]at hok<;>first|exact hok.elim|(obtain⟨rfl,_⟩:=hok;exact⟨_,rfl⟩)
theorem T0{W:World}(h:W.ShapedOpen Tp):∃ m,W.cell? ⟨1,0,none⟩=some (.int .i64 m):=
 PZ (zero:= #[.int .i64 0]) h (of_decide_eq_true (by kernel_rfl)) (by kernel_rfl) rfl (by kernel_rfl) (by kernel_rfl) Tryz.underlying3
theorem XD{P:Program}{w:World}{r:Reach}{base:Nat}{t e:TypeId}{v:Value}(ht:P.underlying t=some (.slice e))(h:Value.okWide P w r base t v):
  v=.slice none 0 0∨∃ b off len cap,v=.slice (some ⟨b,off,none⟩) len cap∧len≤cap∧b<w.heap.size:=by
 simp only[Value.okWide,ht,Cell.okWide]at h;cases v<;>simp_all [Cell.ok]
 rename_i a len cap;cases a with
 |none=>left;cases len<;>cases cap<;>simp_all
 |some a=>
  right
  have h':len≤cap∧(cap:Int)≤9223372036854775807∧World.has P w r base a e cap:=h;obtain⟨h1,_,_,hs,row,cells,hsh,_⟩:=h';obtain⟨b,off,spot⟩:=a;simp only at hs hsh;subst hs;refine⟨b,off,len,cap,⟨rfl,rfl,rfl⟩,h1,?_⟩;unfold World.shape? at hsh
  by_cases hb:b<w.heap.size
  ·exact hb
  ·rw[BQ (by omega)]at hsh;cases hsh
theorem Xd{H:Type}{enc:TypeId×Value→H}{P:Program}{W:World}{base:Nat}{spare:Nat→Bool}{held:Bool}{t e:TypeId}{k:IntKind}{a:Option Addr}{len cap:Nat}{d:DataW H}{ps:List MemPlace}{ts:List TypeId}{ds:List (DataW H)}{j:Nat}
  (hsz:(DataW.weightsEach P ts ds).all (·≤ reachBytes)=true) (ht:ts[j]?=some t) (hd:ds[j]?=some d) (hu:P.underlying t=some (.slice e)) (he:P.underlying e=some (.int k)) (hc:P.cellsOf e=1) {B:Nat} (hB:P.bytesOf e=B)
  (h:DataW.Trod enc P W base spare held t (.slice a len cap) d ps):len * B≤140737488351232:=by
 obtain⟨fuel,hf⟩:=h
 rcases open_ints hu he hc hf with⟨hcs,_⟩|⟨x,l,c,zs,hcs,_,hl,_,hz,hx,_,_⟩
 ·simp[Value.cells]at hcs;obtain⟨rfl,rfl,rfl⟩:=hcs;simp
 ·simp[Value.cells]at hcs;obtain⟨rfl,rfl,rfl⟩:=hcs;obtain⟨hx,_⟩:=Prod.mk.inj hx;subst hx;have z:=sized_slice hsz ht hd hu;rw[hB]at z
  have hl2:len≤zs.length:=by
   rw[hz]
   split
   ·exact hl
   ·exact BL _
  have h1:(lits (H:=H) k (zs.take len)).length+(lits (H:=H) k (zs.drop len)).length=zs.length:=by
   simp[lits]
   omega
  rw[h1]at z;exact BM (Nat.mul_le_mul_right _ hl2) z
theorem nU{W:World}{c:Cx}(hcw:c.w=W)(hok:∀ r,r<W.heap.size→c.ok false r){v:Value}{a:Option Addr}{len cap:Nat}{zs:List Int}(hv:v=.slice a len cap)
  (hs:v=.slice none 0 0∨∃ b off len cap,v=.slice (some ⟨b,off,none⟩) len cap∧len≤cap∧b<W.heap.size)
  (hz:zs.length=cap) (hcell:∀ x,a=some x→∀ i,i<zs.length→W.cell? (x.add i)=some (.int .u8 (zs.getD i 0))) (hw:∀ n∈zs,(Lit.int .u8 n).wf=true) :
  ∃ l:List UInt8,l.length=len∧((v=.slice none 0 0∧l=[]∧rel (.v (.slice none 0 0)) c v)∨rel (.sl false l.length l.length (l.map Am)) c v):=by
 rcases hs with rfl|⟨b,off,len',cap',rfl,h1,h2⟩
 ·cases hv;exact⟨[],rfl,.inl ⟨rfl,rfl,by simp only[rel]⟩⟩
 ·cases hv;have hl:((zs.take len).map fun n=>UInt8.ofNat n.toNat).length=len:=by rw[Bk,Bh];omega
  refine⟨(zs.take len).map fun n=>UInt8.ofNat n.toNat,hl,.inr ?_⟩;rw[hl];simp only[rel];refine⟨b,off,cap,rfl,BL _,h1,hok b h2,CR fun j x hj=>?_⟩;simp only[List.map_map,Bm,BY]at hj
  split at hj
  ·rename_i hjl;have hjz:j<zs.length:=by omega
   have hg:zs[j]?=some zs[j]:=by simp[hjz]
   rw[hg]at hj;simp only[Option.map_some,Option.some.injEq,Function.comp]at hj;subst hj;refine⟨.int .u8 (UInt8.ofNat zs[j].toNat).toNat,?_,by simp only[Am,rel]⟩;have:=hcell _ rfl j hjz
   have ea:(⟨b,off,none⟩:Addr).add j=⟨b,off+j,none⟩:=by
    simp only[Addr.add]
    by_cases h0:j=0
    ·subst h0;simp
    ·simp[h0]
   rw[ea]at this;rw[show c.shut.w=W from hcw,this];have hw':=hw zs[j] (List.getElem_mem hjz);have hzd:zs.getD j 0=zs[j]:=by simp[List.getD,hg]
   rw[hzd];have hb:0≤zs[j]∧zs[j]≤255:=by simpa[Lit.wf,IntKind.min,IntKind.max,IntKind.signed,IntKind.bits]using hw'
   have:((UInt8.ofNat zs[j].toNat).toNat:Int)=zs[j]:=by
    rw[UInt8.toNat_ofNat_of_lt' (by show _<256;omega)]
    omega
   rw[this]
  ·simp at hj
def mI(m:Int)(te:TypeId)(pe:Value):List (Nat×AV):=[(1,.ela false [.v (.int .i64 m)]),(3,.ela false [.v (.iface te pe)])]
theorem ZE(m:Int)(te:TypeId)(pe:Value):Gl (mI m te pe):=⟨⟨m,rfl⟩,te,pe,rfl⟩
theorem Qy(m:Int)(te:TypeId)(pe:Value):TI (mI m te pe):=by
 intro k;unfold mI;simp only[Go.Ev.look]
 split
 ·exact .inr ⟨_,rfl⟩
 ·split
  ·exact .inr ⟨_,rfl⟩
  ·exact .inl rfl
theorem lT{m:Int}{te:TypeId}{pe:Value}{W:World}(h1:W.cell? ⟨1,0,none⟩=some (.int .i64 m))(h4:W.cell? ⟨3,0,none⟩=some (.iface te pe)):dC (mI m te pe) W:=by
 have lt:∀ g u,W.cell? ⟨g,0,none⟩=some u→g<W.heap.size:=fun g u h=>by
  by_cases hg:g<W.heap.size
  ·exact hg
  ·unfold World.cell? at h;simp only[BQ (Nat.le_of_not_lt hg)]at h;cases h
 intro k x e;unfold mI at e;simp only[Go.Ev.look]at e
 split at e
 ·rename_i hk;subst hk;simp only[AV.ela.injEq,List.cons.injEq,AV.v.injEq,and_true,true_and]at e;subst e;exact⟨lt _ _ h1,h1⟩
 ·split at e
  ·rename_i hk;subst hk;simp only[AV.ela.injEq,List.cons.injEq,AV.v.injEq,and_true,true_and]at e;subst e;exact⟨lt _ _ h4,h4⟩
  ·cases e
theorem Mi{f:FuncId}{args:List AV}{res:AV}{m:Int}{te:TypeId}{pe:Value}{W:World}{vs:Array Value}(h:Ev Tp (mI m te pe) f args res)
  (h1:W.cell? ⟨1,0,none⟩=some (.int .i64 m)) (h4:W.cell? ⟨3,0,none⟩=some (.iface te pe)) (hr:Aw args (Lu Tp (fun _=>False) (fun _=>False) W) vs.toList) :
  Calls Tp f vs W fun e w'=>∃ u,e=.returned u∧rel res (Lu Tp (fun _=>False) (fun _=>False) w') u∧Below W.heap.size W w':=
 h _ _ W vs (fun _ h=>h.elim) (fun k=>QU (c:=Lu Tp (fun _=>False) (fun _=>False) W) (Qy m te pe) (lT h1 h4) rfl (fun r hr=>⟨hr,fun h=>h⟩) k) hr
namespace declReads
set_option maxRecDepth 100000 in
theorem bL(H:Type)(enc:TypeId×Value→H)(W:World)(base:Nat)(args:Array Value)(ds gs:List (DataW H))(before:List MemPlace)
  (hval:∀ (j:Nat) t v,Tryz.f7.params[j]?=some t→args[j]?=some v→Value.okWide Tp W .any base t v)
  (hW:DataW.Whole enc Tp Tryz.f7.params.toList Rows.declReadsSpec.vars false W args.toList ds gs before)
  (hsz:(DataW.weightsEach Tp (Tryz.f7.params.toList++Rows.declReadsSpec.plain.varTypes Tp) (ds++gs)).all (·≤ reachBytes)=true)
  (hL:laidMet Tp VX W) (hS:W.ShapedOpen Tp) :
  Calls Tp 7 args W fun e W'=>∃ v,e=.returned v∧Rows.declReadsSpec.post enc Tp Tryz.f7 false true false false W args v W':=by
 have hW':=hW;obtain⟨p,q,hA0,hV,rfl,hfz,hnd⟩:=hW;have hA:DataW.TrodAll enc Tp W 0 (fun _=>true) true Tryz.f7.params.toList args.toList ds p:=hA0;rw[Tryz.params7]at hA hval hsz;obtain⟨v0,vs0,d0,ds0,p0,q0,hargs,rfl,rfl,h0,r0⟩:=trodAll_cons hA;obtain⟨rfl,rfl,rfl⟩:=trodAll_nil r0;obtain rfl:args = #[v0]:=by cases args;simp_all
 obtain⟨rfl,rfl⟩:=trodVars_none hV;have hs0:=XD Tryz.underlying37 (hval 0 37 v0 rfl rfl);obtain⟨a0,len0,cap0,hv0⟩:=okWide_slice Tryz.underlying37 (hval 0 37 v0 rfl rfl);have k0:=h0;have lt0:∀ x∈p0,x.block<W.heap.size:=by obtain⟨m,hm⟩:=k0;exact DataW.trod_lt m _ _ _ hm
 have y0:len0 * 1≤140737488351232:=by
  rw[hv0]at h0;exact Xd hsz (j:=0) (t:=37) rfl rfl Tryz.underlying37 Tryz.underlying5 (by kernel_rfl) (by kernel_rfl) h0
 let c:Cx:=Lu Tp (fun _=>False) (fun _=>False) W
 have hrow:∃ l:List UInt8,l.length=len0∧((v0=.slice none 0 0∧l=[]∧rel (.v (.slice none 0 0)) c v0)∨rel (.sl false l.length l.length (l.map Am)) c v0):=by
  have h0':=h0;rw[hv0]at h0';obtain⟨fuel,hf⟩:=h0'
  rcases open_ints Tryz.underlying37 Tryz.underlying5 (by kernel_rfl) hf with⟨hcs,_⟩|⟨x,l,cp,zs,hcs,_,hl,hm,hz,_,hcell,hwz⟩
  ·simp[Value.cells]at hcs;obtain⟨rfl,rfl,rfl⟩:=hcs;exact⟨[],rfl,.inl ⟨hv0,rfl,by simp only[rel];exact hv0⟩⟩
  ·simp[Value.cells]at hcs;obtain⟨rfl,rfl,rfl⟩:=hcs;exact nU (c:=c) rfl (fun r hr=>⟨hr,by simp⟩) hv0 hs0 (by simpa using hz) (fun y hy=>by cases hy;exact hcell) hwz
 clear hA0 hsz;obtain⟨l,hl,hrow⟩:=hrow;have hl':l.length≤140737488351232:=by omega
 obtain⟨m,hm⟩:=T0 hS;obtain⟨te,pe,hpe⟩:=OQ hL
 have hcalls:Calls Tp 7 #[v0] W fun e w'=>∃ u,e=.returned u∧rel (.v (.bool true)) (Lu Tp (fun _=>False) (fun _=>False) w') u∧Below W.heap.size W w':=by
  rcases hrow with⟨rfl,rfl,hr⟩|hr
  ·refine Mi (KP (ZE m te pe) (Qy m te pe) (.v (.slice none 0 0)) [] (by simp) rfl (fun H=>by simp only[Fe,fz];exact⟨_,_,rfl,rfl,rfl⟩) Tv Xh (Wr true)) hm hpe ?_;simp only[Aw,rel];exact⟨_,_,rfl,rfl,rfl⟩
  ·refine Mi (KP (ZE m te pe) (Qy m te pe) (.sl false l.length l.length (l.map Am)) l hl' rfl (fun H=>nZ) (UI false l hl') (Y0 false l hl') (aQ true false l hl')) hm hpe ?_;simp only[Aw];exact⟨_,_,rfl,hr,rfl⟩
 refine hcalls.mono fun e W' ⟨u,he,hu,bel⟩=>?_
 simp only[rel]at hu;subst he;subst hu;exact⟨_,rfl,_,_,_,[],_,[],hW',trodAll_mk1 (shut_bool Tryz.underlying4 _),(trodAll_cons_mk (Below.trod laidOut (by kernel_rfl) (of_decide_eq_true (by kernel_rfl)) k0 bel lt0) trodAll_mk0),rfl,bel.frame _,fun h=>by cases h⟩
theorem Si(os:Os){H:Type}(enc:TypeId×Value→H):(OpenSpec.ofChange Rows.declReadsSpec).preRow enc Tp Tryz.f7 Rows.declReadsRow.domain false Rows.declReadsRow.laid ((HO os).forCall (fun _ _=>0) ⟨#[],#[.slice none 0 0],[]⟩).memory #[.slice none 0 0]:=by
 have hw:((DataW.whole enc Tp ((HO os).forCall (fun _ _=>0) ⟨#[],#[.slice none 0 0],[]⟩).memory Tryz.f7.params.toList Rows.declReadsSpec.vars false #[Value.slice none 0 0].toList 8).map (fun x=>(x.1,x.2.1))).isSome=true:=by kernel_rfl
 obtain⟨x,hx⟩:=Option.isSome_iff_exists.1 hw;obtain⟨⟨x1,x2,x3⟩,hx',hx1⟩:=Option.map_eq_some_iff.1 hx;exact OpenSpec.preRow_of_cond 8 hx' (by kernel_rfl) (fun k hk=>by cases hk) (by kernel_rfl) (Y4 os _)
set_option maxRecDepth 100000 in
theorem lifted(os:Os)(started:os.Started)(H:Type)(enc:TypeId×Value→H)(F:Stop.Interp):
  ReturnsInHanded {} Tryz.checked os 7 .any ((OpenSpec.ofChange Rows.declReadsSpec).preRow enc Tp Tryz.f7 Rows.declReadsRow.domain false Rows.declReadsRow.laid) (((OpenSpec.ofChange Rows.declReadsSpec).at F).post enc Tp Tryz.f7 false true false false):=by
 refine returnsInHanded_of_row (C:=Tryz.checked) (s:=OpenSpec.ofChange Rows.declReadsSpec) own started (by kernel_rfl) Tryz.func7
  (witness_row_atRef (enc:=enc) (C:=Tryz.checked) false (HO os) #[.slice none 0 0] rfl (by kernel_rfl) (by kernel_rfl) (by kernel_rfl) (Si os enc)) ?_
 intro W base args ds gs before hval hW _ _ hsz hL hS _;exact bL H enc W base args ds gs before hval hW hsz hL hS
theorem mA:(Rows.declReadsRow.inPlace==Tryz.prog.inPlace 7)=true:=by kernel_rfl
theorem jS:(Rows.declReadsRow.unfollowed==Tryz.prog.unfollowed 7)=true:=by kernel_rfl
theorem lC:(Rows.declReadsRow.recurses==Tryz.prog.recurses 7)=true:=by kernel_rfl
theorem jR:(Rows.declReadsRow.named==Tryz.prog.varsNamed 7)=true:=by kernel_rfl
theorem facts:joinedFacts Tp 7 Tryz.f7 (OpenSpec.ofChange Rows.declReadsSpec).bare Rows.declReadsRow=true:=by
 unfold joinedFacts;rw[mA,jS,lC,jR]
 kernel_rfl
theorem said:Rows.DeclReadsSaid:=
 OpenClaim.holds_of_cond 7 Tryz.f7 rfl rfl rfl rfl rfl rfl rfl ⟨rfl,rfl,rfl,rfl,rfl⟩ rfl rfl rfl rfl rfl (by kernel_rfl) Tryz.func7 facts
  (of_decide_eq_true (by kernel_rfl)) (by unfold Func.isWrapper;first|(rw[if_pos (by decide +kernel)];kernel_rfl)|(rw[if_neg (by decide +kernel)];exact⟨rfl,rfl⟩))
  (fun os started H enc _ F=>by rw[OpenClaim.pre_eq_preRow];exact lifted os started H enc F)
theorem plain(f:FuncId)(fn:Func)(hf:Tryz.pinned.checked.prog.funcNamed "chordmail/chordmaillaw08.DeclReads" = some f)(hfn:Tryz.pinned.checked.prog.funcs[f]?=some fn):
  true=Tryz.pinned.checked.prog.looks []∧∀ (j:Nat) t,fn.params[j]?=some t→Tryz.pinned.checked.prog.wantsStandIn t=false:=by
 obtain rfl:f=7:=Option.some.inj ((show Tryz.prog.funcNamed "chordmail/chordmaillaw08.DeclReads" = some 7 by kernel_rfl).symm.trans hf) |>.symm
 obtain rfl:fn=Tryz.f7:=(Option.some.inj (Tryz.func7.symm.trans hfn)).symm;refine⟨by kernel_rfl,fun j t ht=>?_⟩;rw[Tryz.params7]at ht;obtain rfl:t=37:=by simpa using Array.mem_of_getElem? ht
 exact (show Tryz.prog.wantsStandIn 37=false by kernel_rfl)
end declReads
theorem declReads_holds:Rows.DeclReadsCardSaid:=
 Claim7.holds_tied_plain_at .later [] _ _ _ _ declReads.said (fun _ h=>by cases h) (by kernel_rfl) (fun _ h=>by cases h) declReads_row_tie rfl ⟨rfl,rfl⟩ (by kernel_rfl) rfl declReads.plain (by kernel_rfl)
end Go.Proofs.YtlobiioioicmhaaGreatDoor
