/- The evaluator: abstract values, and code carried out on them. -/
import Derived.Test.YtlobiioioicmhaaGreatDoorDU3
set_option linter.all false
set_option maxHeartbeats 8000000
namespace Go.Ev
open _root_.List renaming map_cons→BA
open _root_.Option renaming bind_eq_some_iff→BK
open Go Go.RowKit
def pt(s:St)(d:Option Tmp)(r:AV):St:={ s with s:=putS s.s d r }
theorem pt_some(n:Nat)(l g:List (Nat×AV))(h:List ABlk)(d:Nat)(r:AV):pt ⟨⟨n,l,g⟩,h⟩ (some d) r=if d<n then⟨⟨n,(d,r)::l,g⟩,h⟩else⟨⟨n,l,g⟩,h⟩:=by
 by_cases hd:d<n<;>simp[pt,putS,hd]
theorem pt_none(s:St)(r:AV):pt s none r=s:=rfl
theorem get_tmp(s:Slots)(t:Nat):get s (.tmp t)=look s.l t:=rfl
theorem get_const(s:Slots)(x:Value):get s (.const x)=ofV x:=rfl
theorem get_global(s:Slots)(k:Nat):get s (.global k)=look s.g k:=rfl
theorem get_func(s:Slots)(f:Nat):get s (.func f)=.v (.func (.func f) #[] #[]):=rfl
theorem look_cons(d:Nat)(r:AV)(l:List (Nat×AV))(t:Nat):look ((d,r)::l) t=if d=t then r else look l t:=rfl
theorem look_nil(t:Nat):look [] t=.bad:=rfl
abbrev SV:=Option (Prop×AV)
abbrev SS:=Option (Prop×St)
def okS(r:AV):SV:=some (True,r)
def intS(op:BinOp)(k:IntKind)(a b:Int):SV:=
 match op with
 |.add=>okS (.v (.int k (k.wrap (a+b))))
 |.sub=>okS (.v (.int k (k.wrap (a-b))))
 |.mul=>okS (.v (.int k (k.wrap (a * b))))
 |.quo=>some (b≠0,.v (.int k (k.wrap (a.tdiv b))))
 |.rem=>some (b≠0,.v (.int k (a.tmod b)))
 |.and=>okS (.v (.int k (k.wrap (BitVec.ofInt k.bits a &&& BitVec.ofInt k.bits b).toNat)))
 |.or=>okS (.v (.int k (k.wrap (BitVec.ofInt k.bits a ||| BitVec.ofInt k.bits b).toNat)))
 |.xor=>okS (.v (.int k (k.wrap (BitVec.ofInt k.bits a ^^^ BitVec.ofInt k.bits b).toNat)))
 |.andNot=>okS (.v (.int k (k.wrap (BitVec.ofInt k.bits a &&& ~~~BitVec.ofInt k.bits b).toNat)))
 |.eql=>okS (.v (.bool (a==b)))
 |.neq=>okS (.v (.bool (a != b)))
 |.lss=>okS (.v (.bool (decide (a<b))))
 |.leq=>okS (.v (.bool (decide (a≤b))))
 |.gtr=>okS (.v (.bool (decide (b<a))))
 |.geq=>okS (.v (.bool (decide (b≤a))))
 |.shl=>some (0≤b,.v (.int k (k.wrap (a * 2^min b.toNat k.bits))))
 |.shr=>some (0≤b,.v (.int k (a.fdiv (2^min b.toNat k.bits))))
def fltS(op:BinOp)(a b:Nat):SV:=
 match op with
 |.add=>okS (fltRes (FloatKind.f64.format.add a b))
 |.sub=>okS (fltRes (FloatKind.f64.format.sub a b))
 |.mul=>okS (fltRes (FloatKind.f64.format.mul a b))
 |.quo=>okS (fltRes (FloatKind.f64.format.div a b))
 |.eql=>okS (.v (.bool (FloatKind.f64.format.order a b==some .eq)))
 |.neq=>okS (.v (.bool (FloatKind.f64.format.order a b != some .eq)))
 |.lss=>okS (.v (.bool (FloatKind.f64.format.order a b==some .lt)))
 |.leq=>okS (.v (.bool (FloatKind.f64.format.order a b==some .lt || FloatKind.f64.format.order a b==some .eq)))
 |.gtr=>okS (.v (.bool (FloatKind.f64.format.order a b==some .gt)))
 |.geq=>okS (.v (.bool (FloatKind.f64.format.order a b==some .gt || FloatKind.f64.format.order a b==some .eq)))
 |_=>none
def nanS(op:BinOp):SV:=
 match op with
 |.add|.sub|.mul|.quo=>okS .nan
 |.neq=>okS (.v (.bool true))
 |.eql|.lss|.leq|.gtr|.geq=>okS (.v (.bool false))
 |_=>none
def strS(op:BinOp)(x y:ByteArray):SV:=
 match op with
 |.add=>some (x.data.toList.length+y.data.toList.length≤9223372036854775807,.v (.string ⟨(x.data.toList++y.data.toList).toArray⟩))
 |.eql=>okS (.v (.bool (x.data.toList==y.data.toList)))
 |.neq=>okS (.v (.bool (!(x.data.toList==y.data.toList))))
 |.lss=>okS (.v (.bool (Op.bytesLess x.data.toList y.data.toList)))
 |.leq=>okS (.v (.bool (Op.bytesLess x.data.toList y.data.toList || x.data.toList==y.data.toList)))
 |.gtr=>okS (.v (.bool !(Op.bytesLess x.data.toList y.data.toList || x.data.toList==y.data.toList)))
 |.geq=>okS (.v (.bool !Op.bytesLess x.data.toList y.data.toList))
 |_=>none
def boolS(op:BinOp)(a b:Bool):SV:=
 match op with
 |.eql=>okS (.v (.bool (a==b)))
 |.neq=>okS (.v (.bool (!(a==b))))
 |_=>none
def nilS(op:BinOp)(same:Bool):SV:=
 match op with
 |.eql=>okS (.v (.bool same))
 |.neq=>okS (.v (.bool (!same)))
 |_=>none
def cplS(op:BinOp)(a b c d:Nat):SV:=
 match op with
 |.eql=>okS (.v (.bool (cplEq a b c d)))
 |.neq=>okS (.v (.bool (!(cplEq a b c d))))
 |_=>none
def binS(P:Program)(op:BinOp)(t:TypeId)(c:Bool):AV→AV→SV
 |.v (.int k a),.v (.int k' b)=>if k=k'∨op=.shl∨op=.shr then intS op k a b else none
 |.v (.float .f64 a),.v (.float .f64 b)=>fltS op a b
 |.nan,.v (.float .f64 _)=>nanS op
 |.v (.float .f64 _),.nan=>nanS op
 |.nan,.nan=>nanS op
 |.v (.string a),.v (.string b)=>strS op a b
 |.v (.bool a),.v (.bool b)=>if isBoolT P t=true then boolS op a b else none
 |.v .nilIface,.v .nilIface=>if c=true∧ifcT P t=some true then nilS op true else none
 |.ifc _ _,.v .nilIface=>if ifcT P t=some true then nilS op false else none
 |.v .nilIface,.ifc _ _=>if ifcT P t=some true then nilS op false else none
 |.ifc tx (.v (.int k a)),.ifc ty (.v (.int k' b))=>if ifcT P t=some true then (if tx=ty then (if k=k'∧intT P tx=some k∧cmpT P tx=some true then nilS op (a==b)else none)else nilS op false)else none
 |.v (.complex .f64 a b),.v (.complex .f64 c d)=>cplS op a b c d
 |_,_=>none
where
 isBoolT (P:Program) (t:TypeId):Bool:=match P.underlying t with|some .bool=>true|_=>false
def unS:UnOp→AV→SV
 |.not,.v (.bool b)=>okS (.v (.bool (!b)))
 |.neg,.v (.int k n)=>okS (.v (.int k (k.wrap (0-n))))
 |.neg,.v (.float .f64 b)=>okS (.v (.float .f64 (Op.negFloat .f64 b)))
 |_,_=>none
def take1(cs:List AV):Option AV:=cs[0]?
def takeS(P:Program)(t:TypeId)(cs:List AV):Option AV:=
 (aggT P t).bind fun b=>if b=true then (sizeT P t).bind fun n=>if n≤cs.length then some (.agg (cs.take n))else none else take1 cs
def blkS(h:List ABlk)(i ver:Nat):Option ABlk:=(h[i]?).bind fun k=>if ver=k.ver then some k else none
def loadS(P:Program)(t:TypeId)(h:List ABlk):AV→Option AV
 |.ptr i ver off=>(blkS h i ver).bind fun k=>takeS P t (k.cells.drop off)
 |.ela _ cs=>takeS P t cs
 |_=>none
def storeS(P:Program)(t:TypeId)(h:List ABlk):AV→AV→Option (List ABlk)
 |.ptr i ver off,x=>(blkS h i ver).bind fun k=>(flat x).bind fun cs=>if sizeT P t=some cs.length∧off+cs.length≤k.cells.length then some (h.set i { k with cells:=setMany k.cells off cs })else none
 |_,_=>none
def fieldAddrS(P:Program)(t f:Nat)(h:List ABlk):AV→Option AV
 |.ptr i ver off=>(fieldT P t f).bind fun (o,ft)=>(sizeT P ft).bind fun n=>if n≠0 then (blkS h i ver).bind fun _=>some (.ptr i ver (off+o))else none
 |.ela b cs=>(fieldT P t f).bind fun (o,ft)=>(sizeT P ft).bind fun n=>if n≠0 then some (.ela b (cs.drop o))else none
 |_=>none
def indexAddrS(P:Program)(t:Nat)(h:List ABlk):AV→AV→SV
 |.sl b n _ cs,.v (.int _ i)=>(elemT P t).bind fun e=>(sizeT P e).bind fun sz=>some (0≤i∧i<n,.ela b (cs.drop (i.toNat * sz)))
 |.own j ver n,.v (.int _ i)=>(blkS h j ver).bind fun _=>(elemT P t).bind fun e=>(sizeT P e).bind fun sz=>some (0≤i∧i<n,.ptr j ver (i.toNat * sz))
 |.ptr j ver off,.v (.int _ i)=>(blkS h j ver).bind fun _=>(arrT P t).bind fun (n,e)=>(sizeT P e).bind fun sz=>some (0≤i∧i<n,.ptr j ver (off+i.toNat * sz))
 |_,_=>none
def indexS(P:Program)(t:Nat):AV→AV→SV
 |.v (.string s),.v (.int _ i)=>if strT P t=true then some (0≤i∧i<(s.data.toList.length:Int),.v (.int .u8 (sAt s i.toNat)))else none
 |.agg cs,.v (.int _ i)=>(arrT P t).bind fun (n,e)=>(sizeT P e).bind fun sz=>(takeS P e (cs.drop (i.toNat * sz))).bind fun r=>some (0≤i∧i<n,r)
 |_,_=>none
def boundS:Option AV→Nat→Option (Prop×Nat)
 |none,d=>some (True,d)
 |some (.v (.int _ i)),_=>some (0≤i,i.toNat)
 |_,_=>none
def sliceS(P:Program)(t:Nat)(h:List ABlk)(lo hi:Option AV):AV→SV
 |.v (.string b)=>if strT P t=true then (boundS hi b.data.toList.length).bind fun (p,h)=>(boundS lo 0).bind fun (q,l)=>
   some (p∧h≤b.data.toList.length∧q∧l≤h,.v (.string ⟨((b.data.toList.take h).drop l).toArray⟩))else none
 |.sl b n m cs=>(elemT P t).bind fun e=>(sizeT P e).bind fun sz=>(boundS hi n).bind fun (p,h)=>(boundS lo 0).bind fun (q,l)=>
   some (cs.length≤m * sz∧p∧h≤m∧q∧l≤h,.sl b (h-l) (m-l) (cs.drop (l * sz)))
 |.own i ver n=>(elemT P t).bind fun e=>(sizeT P e).bind fun sz=>(blkS h i ver).bind fun _=>(boundS hi n).bind fun (p,h)=>(boundS lo 0).bind fun (q,l)=>
   some (p∧h≤n∧q∧l≤h∧l=0,.own i ver h)
 |.v (.slice none 0 0)=>(elemT P t).bind fun e=>(sizeT P e).bind fun sz=>(boundS hi 0).bind fun (p,h)=>(boundS lo 0).bind fun (q,l)=>
   some (p∧h≤0∧q∧l≤h,.v (.slice none 0 0))
 |_=>none
def srcS(h:List ABlk)(sz:Nat):AV→Option (Prop×Nat×List AV)
 |.sl _ n _ cs=>some (n * sz≤cs.length,n,cs.take (n * sz))
 |.own i ver n=>(blkS h i ver).bind fun k=>some (n * sz≤k.cells.length,n,k.cells.take (n * sz))
 |.v (.slice none 0 0)=>some (True,0,[])
 |.v (.string b)=>if sz=1 then some (True,b.data.toList.length,b.data.toList.map byteC)else none
 |_=>none
def ontoS(h:List ABlk)(e sz by':Nat)(p:Prop)(n:Nat)(new:List AV):AV→Option (Prop×AV×List ABlk)
 |.v (.slice none 0 0)=>if n=0 then some (p∧new.all oneA=true,.v (.slice none 0 0),h)else some (p∧new.all oneA=true∧n * by'≤140737488355328,.own h.length 0 n,h++[⟨0,e,new⟩])
 |.own i ver m=>(blkS h i ver).bind fun k=>if k.e=e then some (p∧new.all oneA=true∧m * sz≤k.cells.length∧(m+n) * by'≤140737488355328,.own i (ver+1) (m+n),h.set i ⟨ver+1,e,k.cells.take (m * sz)++new⟩)else none
 |_=>none
def appendS(P:Program)(ts:Array TypeId)(h:List ABlk)(x y:AV):Option (Prop×AV×List ABlk):=
 (ts[0]?).bind fun t=>(ts[1]?).bind fun t2=>if intT P t2=none∧(P.underlying t2).isSome=true then
  (elemT P t).bind fun e=>(sizeT P e).bind fun sz=>(bytesT P e).bind fun by'=>(zeroT P e).bind fun z=>
   if (zeroCells z).length=sz∧0<sz∧0<by' then (srcS h sz y).bind fun (p,n,new)=>ontoS h e sz by' p n new x else none
 else none
def fillS(place:Nat→Option (Nat×Nat)):List (Nat×AV)→List AV→Option (List AV)
 |[],l=>some l
 |(i,x)::r,l=>(place i).bind fun (o,n)=>(flat x).bind fun cs=>if cs.length=n∧o+n≤l.length then fillS place r (setMany l o cs)else none
def buildS(P:Program)(t:TypeId)(ps:List (Nat×AV)):Option AV:=
 (zeroT P t).bind fun z=>match placesT P t with
  |some pl=>(fillS (pl[·]?) ps (zeroCells z)).map .agg
  |none=>(arrT P t).bind fun (_,e)=>(sizeT P e).bind fun sz=>(fillS (fun i=>some (i * sz,sz)) ps (zeroCells z)).map .agg
def buildSliceS(P:Program)(t:TypeId)(len:Nat)(ps:List (Nat×AV))(h:List ABlk):Option (AV×List ABlk):=
 (elemT P t).bind fun e=>(sizeT P e).bind fun sz=>(zeroT P e).bind fun z=>
  if (zeroCells z).length=sz∧0<sz∧len * sz≤16777216 then (fillS (fun i=>some (i * sz,sz)) ps (rowsA z len)).map fun l=>(.own h.length 0 len,h++[⟨0,e,l⟩])else none
def makeSliceS(P:Program)(t:TypeId)(h:List ABlk):AV→AV→Option (Prop×AV×List ABlk)
 |.v (.int _ n),.v (.int _ c)=>(elemT P t).bind fun e=>(sizeT P e).bind fun sz=>(bytesT P e).bind fun by'=>(zeroT P e).bind fun z=>
   if (zeroCells z).length=sz∧0<sz then some (0≤n∧n≤c∧c<9223372036854775808∧c * by'≤140737488355328,.own h.length 0 n.toNat,h++[⟨0,e,rowsA z c.toNat⟩])else none
 |_,_=>none
def strOf(cs:List AV):Option AV:=(bytesOfA cs).map fun l=>.v (.string ⟨l.toArray⟩)
def convertS(P:Program)(src dst:TypeId)(h:List ABlk):AV→Option (Prop×AV×List ABlk)
 |.v (.int _ n)=>if (P.underlying src).isSome=true then
   (match intT P dst with
    |some k=>some (True,.v (.int k (k.wrap n)),h)
    |none=>if fltT P dst=some .f64 then some (True,.v (.float .f64 (FloatKind.f64.nearest n)),h)else if strT P dst=true then some (True,.v (.string (Utf8.encode n)),h)else none)else none
 |.v (.float .f64 b)=>if (P.underlying src).isSome=true then (intT P dst).bind fun k=>(f2i b k).map fun n=>(True,.v (.int k n),h)else none
 |.v (.string b)=>if strT P dst=true then (if (P.underlying src).isSome=true then some (True,.v (.string b),h)else none)else
   (elemT P dst).bind fun e=>if strT P src=true∧intT P e=some .u8∧sizeT P e=some 1 then some (b.data.toList.length<4611686018427387904,.own h.length 0 b.data.toList.length,h++[⟨0,e,b.data.toList.map byteC⟩])else none
 |.sl _ n _ cs=>if strT P dst=true∧(elemT P src).bind (intT P)=some .u8 then (strOf (cs.take n)).map fun r=>(n≤cs.length,r,h)else none
 |.own i ver n=>if strT P dst=true∧(elemT P src).bind (intT P)=some .u8 then (blkS h i ver).bind fun k=>(strOf (k.cells.take n)).map fun r=>(n≤k.cells.length,r,h)else none
 |.v (.slice none 0 0)=>if strT P dst=true∧(elemT P src).bind (intT P)=some .u8 then some (True,.v (.string ⟨#[]⟩),h)else none
 |_=>none
def lenS(P:Program)(t:TypeId)(h:List ABlk):AV→Option AV
 |.v (.string b)=>if strT P t=true then some (.v (.int .i64 b.data.toList.length))else none
 |.v (.slice none 0 0)=>if (elemT P t).isSome=true then some (.v (.int .i64 0))else none
 |.sl _ n _ _=>if (elemT P t).isSome=true then some (.v (.int .i64 n))else none
 |.own i ver n=>if (elemT P t).isSome=true then (blkS h i ver).bind fun _=>some (.v (.int .i64 n))else none
 |_=>none
def extractS(i:Nat):AV→Option AV
 |.tup cs=>cs[i]?
 |_=>none
def fieldS(P:Program)(t f:Nat):AV→Option AV
 |.agg cs=>(fieldT P t f).bind fun (o,ft)=>takeS P ft (cs.drop o)
 |_=>none
def retV(s:St)(d:Option Tmp)(r:Option AV):SS:=r.map fun r=>(True,pt s d r)
def retP(s:St)(d:Option Tmp)(r:SV):SS:=r.map fun r=>(r.1,pt s d r.2)
def retH(s:St)(d:Option Tmp)(r:Option (Prop×AV×List ABlk)):SS:=r.map fun r=>(r.1,pt { s with h:=r.2.2 } d r.2.1)
def builtinS(P:Program):Callee→List Operand→Array TypeId→St→Option Tmp→SS
 |.builtin .len,x::_,ts,s,d=>(ts[0]?).bind fun t=>retV s d (lenS P t s.h (get s.s x))
 |.builtin .append,[x,y],ts,s,d=>retH s d (appendS P ts s.h (get s.s x) (get s.s y))
 |.builtin .real,[x],_,s,d=>retV s d (partS false (get s.s x))
 |.builtin .imag,[x],_,s,d=>retV s d (partS true (get s.s x))
 |.builtin .complex,[x,y],_,s,d=>retV s d (compS (get s.s x) (get s.s y))
 |.builtin .max,[x,y],_,s,d=>retV s d (maxS (get s.s x) (get s.s y))
 |_,_,_,_,_=>none
def stepS(P:Program)(o:Oper)(s:St):SS:=
 match o.op with
 |.move x|.assign x=>retV s o.dst (some (get s.s x))
 |.alloc t=>(zeroT P t).bind fun z=>retH s o.dst (some (True,.ptr s.h.length 0 0,s.h++[⟨0,t,zeroCells z⟩]))
 |.box t x=>(flat (get s.s x)).bind fun cs=>retH s o.dst (some (True,.ptr s.h.length 0 0,s.h++[⟨0,t,cs⟩]))
 |.build t ps=>retV s o.dst (buildS P t (ps.toList.map fun (i,x)=>(i,get s.s x)))
 |.buildSlice t n ps=>retH s o.dst ((buildSliceS P t n (ps.toList.map fun (i,x)=>(i,get s.s x)) s.h).map fun (r,h)=>(True,r,h))
 |.load t a=>retV s o.dst (loadS P t s.h (get s.s a))
 |.store t a x=>(storeS P t s.h (get s.s a) (get s.s x)).map fun h=>(True,pt { s with h } o.dst .bad)
 |.nilCheck x=>(match get s.s x with
  |.ptr i ver off=>(blkS s.h i ver).bind fun _=>retV s o.dst (some (.ptr i ver off))
  |.ela b cs=>retV s o.dst (some (.ela b cs))
  |_=>none)
 |.binOp op t x y _=>retP s o.dst (binS P op t (isConst x || isConst y) (get s.s x) (get s.s y))
 |.unOp op _ x=>retP s o.dst (unS op (get s.s x))
 |.convert a b x=>retH s o.dst (convertS P a b s.h (get s.s x))
 |.makeInterface t x=>if ifcT P t=some false then retV s o.dst (some (.ifc t (get s.s x)))else none
 |.makeSlice t l c=>retH s o.dst (makeSliceS P t s.h (get s.s l) (get s.s c))
 |.slice t x lo hi none=>retP s o.dst (sliceS P t s.h (lo.map (get s.s)) (hi.map (get s.s)) (get s.s x))
 |.fieldAddr t x f=>retV s o.dst (fieldAddrS P t f s.h (get s.s x))
 |.field t x f=>retV s o.dst (fieldS P t f (get s.s x))
 |.indexAddr t x i=>retP s o.dst (indexAddrS P t s.h (get s.s x) (get s.s i))
 |.index t x i=>retP s o.dst (indexS P t (get s.s x) (get s.s i))
 |.extract t i=>retV s o.dst (extractS i (get s.s t))
 |.call c=>builtinS P c.callee c.args.toList c.argTypes s o.dst
 |_=>none
theorem blkS_eq{h:List ABlk}{i ver:Nat}{k:ABlk}(e:blkS h i ver=some k):h[i]?=some k∧ver=k.ver:=by
 unfold blkS at e;cases hh:h[i]? with
 |none=>simp[hh]at e
 |some k'=>simp[hh]at e;obtain⟨e1,rfl⟩:=e;exact⟨rfl,e1⟩
theorem takeS_eq{P:Program}{t:TypeId}{cs:List AV}{r:AV}(e:takeS P t cs=some r){K:AV→Prop}(hk:K r):takeA P t cs K:=by
 unfold takeS at e;unfold takeA;cases ha:aggT P t with
 |none=>simp[ha]at e
 |some b=>
  cases b with
  |true=>
   cases hs:sizeT P t with
   |none=>simp[ha,hs]at e
   |some n=>
    simp[ha,hs]at e;obtain⟨e1,rfl⟩:=e;exact⟨n,rfl,e1,hk⟩
  |false=>simp[ha,take1]at e;exact⟨r,e,hk⟩
theorem loadS_eq{P:Program}{t:TypeId}{s:St}{x r:AV}(e:loadS P t s.h x=some r){K:AV→Prop}(hk:K r):loadA P t s x K:=by
 unfold loadS at e
 split at e
 ·rename_i i ver off;obtain⟨k,hb,e⟩:=BK.1 e;obtain⟨h1,h2⟩:=blkS_eq hb;exact⟨k,h1,h2,takeS_eq e hk⟩
 ·exact takeS_eq e hk
 ·cases e
theorem intS_eq{P:Program}{t:TypeId}{ox oy:Operand}{op:BinOp}{k k':IntKind}{a b:Int}{p:Prop}{r:AV}(hk':k=k'∨op=.shl∨op=.shr)(e:intS op k a b=some (p,r))(hp:p){K:AV→Prop}(hk:K r):
  binA P op t ox oy (.v (.int k a)) (.v (.int k' b)) K:=by
 cases op<;>simp only[intS,okS,Option.some.injEq,Prod.mk.injEq]at e<;>obtain⟨rfl,rfl⟩:=e<;>simp only[binA,shiftA,intA]<;>simp_all
theorem binS_eq{P:Program}{op:BinOp}{t:TypeId}{ox oy:Operand}{x y r:AV}{p:Prop}(e:binS P op t (isConst ox || isConst oy) x y=some (p,r))(hp:p){K:AV→Prop}(hk:K r):binA P op t ox oy x y K:=by
 unfold binS at e
 split at e
 ·split at e
  ·rename_i hc;exact intS_eq hc e hp hk
  ·cases e
 ·cases op<;>simp only[fltS,okS,Option.some.injEq,Prod.mk.injEq,reduceCtorEq]at e<;>obtain⟨rfl,rfl⟩:=e<;>exact hk
 ·cases op<;>simp only[nanS,okS,Option.some.injEq,Prod.mk.injEq,reduceCtorEq]at e<;>obtain⟨rfl,rfl⟩:=e<;>exact hk
 ·cases op<;>simp only[nanS,okS,Option.some.injEq,Prod.mk.injEq,reduceCtorEq]at e<;>obtain⟨rfl,rfl⟩:=e<;>exact hk
 ·cases op<;>simp only[nanS,okS,Option.some.injEq,Prod.mk.injEq,reduceCtorEq]at e<;>obtain⟨rfl,rfl⟩:=e<;>exact hk
 ·cases op<;>simp only[strS,okS,Option.some.injEq,Prod.mk.injEq,reduceCtorEq]at e<;>obtain⟨rfl,rfl⟩:=e<;>first|exact hk|exact⟨hp,hk⟩
 ·split at e
  ·rename_i hb
   have hb':P.underlying t=some .bool:=by
    unfold binS.isBoolT at hb
    split at hb
    ·assumption
    ·cases hb
   cases op<;>simp only[boolS,okS,Option.some.injEq,Prod.mk.injEq,reduceCtorEq]at e<;>obtain⟨rfl,rfl⟩:=e<;>exact⟨hb',hk⟩
  ·cases e
 ·split at e
  ·rename_i hc;cases op<;>simp only[nilS,okS,Option.some.injEq,Prod.mk.injEq,reduceCtorEq]at e<;>obtain⟨rfl,rfl⟩:=e<;>exact⟨hc.1,hc.2,hk⟩
  ·cases e
 ·split at e
  ·rename_i hc;cases op<;>simp only[nilS,okS,Option.some.injEq,Prod.mk.injEq,reduceCtorEq]at e<;>obtain⟨rfl,rfl⟩:=e<;>exact⟨hc,hk⟩
  ·cases e
 ·split at e
  ·rename_i hc;cases op<;>simp only[nilS,okS,Option.some.injEq,Prod.mk.injEq,reduceCtorEq]at e<;>obtain⟨rfl,rfl⟩:=e<;>exact⟨hc,hk⟩
  ·cases e
 ·split at e
  ·rename_i hc
   split at e
   ·rename_i hty
    split at e
    ·rename_i hk2;cases op<;>simp only[nilS,okS,Option.some.injEq,Prod.mk.injEq,reduceCtorEq]at e<;>obtain⟨rfl,rfl⟩:=e<;>exact⟨hc,.inr ⟨hty,hk2.1,hk2.2.1,hk2.2.2,hk⟩⟩
    ·cases e
   ·rename_i hty;cases op<;>simp only[nilS,okS,Option.some.injEq,Prod.mk.injEq,reduceCtorEq]at e<;>obtain⟨rfl,rfl⟩:=e<;>exact⟨hc,.inl ⟨hty,hk⟩⟩
  ·cases e
 ·cases op<;>simp only[cplS,okS,Option.some.injEq,Prod.mk.injEq,reduceCtorEq]at e<;>obtain⟨rfl,rfl⟩:=e<;>exact hk
 ·cases e
theorem unS_eq{op:UnOp}{x r:AV}{p:Prop}(e:unS op x=some (p,r))(hp:p){K:AV→Prop}(hk:K r):unA op x K:=by
 unfold unS at e
 split at e<;>first|cases e;done|(simp only[okS,Option.some.injEq,Prod.mk.injEq]at e;obtain⟨rfl,rfl⟩:=e;exact hk)
theorem storeS_eq{P:Program}{t:TypeId}{s:St}{x y:AV}{h:List ABlk}(e:storeS P t s.h x y=some h){K:St→Prop}(hk:K { s with h }):storeA P t s x y K:=by
 unfold storeS at e
 split at e
 ·obtain⟨k,hb,e⟩:=BK.1 e;obtain⟨cs,hf,e⟩:=BK.1 e;obtain⟨h1,h2⟩:=blkS_eq hb
  split at e
  ·rename_i hc;cases e;exact⟨k,cs,h1,h2,hf,hc.1,hc.2,hk⟩
  ·cases e
 ·cases e
theorem fieldAddrS_eq{P:Program}{t f:Nat}{s:St}{x r:AV}(e:fieldAddrS P t f s.h x=some r){K:AV→Prop}(hk:K r):fieldAddrA P t s x f K:=by
 unfold fieldAddrS at e
 split at e
 ·obtain⟨⟨o,ft⟩,h1,e⟩:=BK.1 e;obtain⟨n,h2,e⟩:=BK.1 e
  split at e
  ·rename_i hn;obtain⟨k,hb,e⟩:=BK.1 e;cases e;exact⟨o,ft,n,h1,h2,hn,⟨k,(blkS_eq hb).1,(blkS_eq hb).2⟩,hk⟩
  ·cases e
 ·obtain⟨⟨o,ft⟩,h1,e⟩:=BK.1 e;obtain⟨n,h2,e⟩:=BK.1 e
  split at e
  ·rename_i hn;cases e;exact⟨o,ft,n,h1,h2,hn,hk⟩
  ·cases e
 ·cases e
theorem indexAddrS_eq{P:Program}{t:Nat}{s:St}{x y r:AV}{p:Prop}(e:indexAddrS P t s.h x y=some (p,r))(hp:p){K:AV→Prop}(hk:K r):indexAddrA P t s x y K:=by
 unfold indexAddrS at e
 split at e
 ·obtain⟨e',h1,e⟩:=BK.1 e;obtain⟨sz,h2,e⟩:=BK.1 e;cases e;exact⟨e',sz,h1,h2,hp.1,hp.2,hk⟩
 ·obtain⟨k,hb,e⟩:=BK.1 e;obtain⟨e',h1,e⟩:=BK.1 e;obtain⟨sz,h2,e⟩:=BK.1 e;cases e;exact⟨k,e',sz,(blkS_eq hb).1,(blkS_eq hb).2,h1,h2,hp.1,hp.2,hk⟩
 ·obtain⟨k,hb,e⟩:=BK.1 e;obtain⟨⟨n,e'⟩,h1,e⟩:=BK.1 e;obtain⟨sz,h2,e⟩:=BK.1 e;cases e;exact⟨⟨k,(blkS_eq hb).1,(blkS_eq hb).2⟩,n,e',sz,h1,h2,hp.1,hp.2,hk⟩
 ·cases e
theorem indexS_eq{P:Program}{t:Nat}{x y r:AV}{p:Prop}(e:indexS P t x y=some (p,r))(hp:p){K:AV→Prop}(hk:K r):indexA P t x y K:=by
 unfold indexS at e
 split at e
 ·split at e
  ·rename_i hs;cases e;exact⟨hs,hp.1,hp.2,hk⟩
  ·cases e
 ·obtain⟨⟨n,e'⟩,h1,e⟩:=BK.1 e;obtain⟨sz,h2,e⟩:=BK.1 e;obtain⟨r',h3,e⟩:=BK.1 e;cases e;exact⟨n,e',sz,h1,h2,hp.1,hp.2,takeS_eq h3 hk⟩
 ·cases e
theorem boundS_eq{x:Option AV}{d n:Nat}{p:Prop}(e:boundS x d=some (p,n))(hp:p){K:Nat→Prop}(hk:K n):boundA x d K:=by
 unfold boundS at e
 split at e
 ·cases e;exact hk
 ·cases e;exact⟨hp,hk⟩
 ·cases e
theorem sliceS_eq{P:Program}{t:Nat}{s:St}{x r:AV}{lo hi:Option AV}{p:Prop}(e:sliceS P t s.h lo hi x=some (p,r))(hp:p){K:AV→Prop}(hk:K r):sliceA P t s x lo hi none K:=by
 refine⟨rfl,?_⟩;unfold sliceS at e
 split at e
 ·split at e
  ·rename_i hs;obtain⟨⟨p1,h⟩,h1,e⟩:=BK.1 e;obtain⟨⟨q1,l⟩,h2,e⟩:=BK.1 e;cases e;exact⟨hs,boundS_eq h1 hp.1 ⟨hp.2.1,boundS_eq h2 hp.2.2.1 ⟨hp.2.2.2,hk⟩⟩⟩
  ·cases e
 ·obtain⟨e',g1,e⟩:=BK.1 e;obtain⟨sz,g2,e⟩:=BK.1 e;obtain⟨⟨p1,h⟩,h1,e⟩:=BK.1 e;obtain⟨⟨q1,l⟩,h2,e⟩:=BK.1 e;cases e;exact⟨e',sz,g1,g2,hp.1,boundS_eq h1 hp.2.1 ⟨hp.2.2.1,boundS_eq h2 hp.2.2.2.1 ⟨hp.2.2.2.2,hk⟩⟩⟩
 ·obtain⟨e',g1,e⟩:=BK.1 e;obtain⟨sz,g2,e⟩:=BK.1 e;obtain⟨k,hb,e⟩:=BK.1 e;obtain⟨⟨p1,h⟩,h1,e⟩:=BK.1 e;obtain⟨⟨q1,l⟩,h2,e⟩:=BK.1 e;cases e;exact⟨e',k,sz,g1,g2,(blkS_eq hb).1,(blkS_eq hb).2,boundS_eq h1 hp.1 ⟨hp.2.1,boundS_eq h2 hp.2.2.1 ⟨hp.2.2.2.1,hp.2.2.2.2,hk⟩⟩⟩
 ·obtain⟨e',g1,e⟩:=BK.1 e;obtain⟨sz,g2,e⟩:=BK.1 e;obtain⟨⟨p1,h⟩,h1,e⟩:=BK.1 e;obtain⟨⟨q1,l⟩,h2,e⟩:=BK.1 e;cases e;exact⟨e',sz,g1,g2,boundS_eq h1 hp.1 ⟨hp.2.1,boundS_eq h2 hp.2.2.1 ⟨hp.2.2.2,hk⟩⟩⟩
 ·cases e
theorem srcS_eq{s:St}{sz n:Nat}{y:AV}{new:List AV}{p:Prop}(e:srcS s.h sz y=some (p,n,new))(hp:p){K:Nat→List AV→Prop}(hk:K n new):srcA s sz y K:=by
 unfold srcS at e
 split at e
 ·cases e;exact⟨hp,hk⟩
 ·obtain⟨k,hb,e⟩:=BK.1 e;cases e;exact⟨k,(blkS_eq hb).1,(blkS_eq hb).2,hp,hk⟩
 ·cases e;exact hk
 ·split at e
  ·cases e;rename_i h;exact⟨h,hk⟩
  ·cases e
 ·cases e
theorem ontoS_p{h:List ABlk}{e sz by' n:Nat}{p q:Prop}{new:List AV}{x r:AV}{h':List ABlk}(hh:ontoS h e sz by' p n new x=some (q,r,h'))(hq:q):p:=by
 unfold ontoS at hh
 split at hh
 ·split at hh<;>(cases hh;exact hq.1)
 ·obtain⟨k,hb,hh⟩:=BK.1 hh
  split at hh
  ·cases hh;exact hq.1
  ·cases hh
 ·cases hh
theorem ontoS_eq{s:St}{e sz by' n:Nat}{p q:Prop}{new:List AV}{x r:AV}{h':List ABlk}(hh:ontoS s.h e sz by' p n new x=some (q,r,h'))(hq:q){K:AV→St→Prop}(hk:K r { s with h:=h' }):new.all oneA=true∧ontoA s e sz by' n new K x:=by
 unfold ontoS at hh
 split at hh
 ·split at hh
  ·rename_i hn;cases hh;exact⟨hq.2,.inl ⟨hn,hk⟩⟩
  ·rename_i hn;cases hh;exact⟨hq.2.1,.inr ⟨Nat.pos_of_ne_zero hn,hq.2.2,hk⟩⟩
 ·obtain⟨k,hb,hh⟩:=BK.1 hh
  split at hh
  ·rename_i hke;cases hh;exact⟨hq.2.1,k,(blkS_eq hb).1,(blkS_eq hb).2,hke,hq.2.2.1,.inr ⟨hq.2.2.2,hk⟩⟩
  ·cases hh
 ·cases hh
theorem appendS_eq{P:Program}{ts:Array TypeId}{s:St}{x y r:AV}{h:List ABlk}{p:Prop}(e:appendS P ts s.h x y=some (p,r,h))(hp:p){K:AV→St→Prop}(hk:K r { s with h }):appendA P ts s x y K:=by
 unfold appendS at e;obtain⟨t,h1,e⟩:=BK.1 e;obtain⟨t2,h2,e⟩:=BK.1 e
 split at e
 ·rename_i hi;obtain⟨e',h3,e⟩:=BK.1 e;obtain⟨sz,h4,e⟩:=BK.1 e;obtain⟨by',h5,e⟩:=BK.1 e;obtain⟨z,h6,e⟩:=BK.1 e
  split at e
  ·rename_i hz;obtain⟨⟨p1,n,new⟩,h7,e⟩:=BK.1 e;refine⟨t,t2,e',sz,by',z,h6,hz.1,h1,h2,hi.1,hi.2,h3,h4,h5,hz.2.1,hz.2.2,?_⟩;exact srcS_eq h7 (ontoS_p e hp) (ontoS_eq e hp hk)
  ·cases e
 ·cases e
theorem fillS_eq{place:Nat→Option (Nat×Nat)}{s:Slots}:∀ {ps:List (Nat×Operand)} {l r:List AV},fillS place (ps.map fun (i,x)=>(i,get s x)) l=some r→∀ {K:List AV→Prop},K r→fillA place (get s) ps l K
 |[],l,r,e,K,hk=>by cases e;exact hk
 |(i,x)::ps,l,r,e,K,hk=>by
  simp only[BA,fillS]at e;obtain⟨⟨o,n⟩,h1,e⟩:=BK.1 e;obtain⟨cs,h2,e⟩:=BK.1 e
  split at e
  ·rename_i hc;exact⟨o,n,cs,h1,h2,hc.1,hc.2,fillS_eq e hk⟩
  ·cases e
theorem buildS_eq{P:Program}{t:TypeId}{ps:Array (Nat×Operand)}{s:Slots}{r:AV}(e:buildS P t (ps.toList.map fun (i,x)=>(i,get s x))=some r){K:AV→Prop}(hk:K r):buildA P t ps (get s) K:=by
 unfold buildS at e;obtain⟨z,hz,e⟩:=BK.1 e;refine⟨z,hz,?_⟩
 split at e
 ·rename_i pl hp;obtain⟨l,h1,rfl⟩:=Option.map_eq_some_iff.1 e;exact .inl ⟨pl,hp,fillS_eq h1 hk⟩
 ·obtain⟨⟨n,e'⟩,h1,e⟩:=BK.1 e;obtain⟨sz,h2,e⟩:=BK.1 e;obtain⟨l,h3,rfl⟩:=Option.map_eq_some_iff.1 e;exact .inr ⟨n,e',sz,h1,h2,fillS_eq h3 hk⟩
theorem buildSliceS_eq{P:Program}{t len:Nat}{ps:Array (Nat×Operand)}{s:St}{r:AV}{h:List ABlk}(e:buildSliceS P t len (ps.toList.map fun (i,x)=>(i,get s.s x)) s.h=some (r,h)){K:AV→St→Prop}(hk:K r { s with h }):buildSliceA P t len ps (get s.s) s K:=by
 unfold buildSliceS at e;obtain⟨e',h1,e⟩:=BK.1 e;obtain⟨sz,h2,e⟩:=BK.1 e;obtain⟨z,h3,e⟩:=BK.1 e
 split at e
 ·rename_i hc;obtain⟨l,h4,e⟩:=Option.map_eq_some_iff.1 e;cases e;exact⟨e',sz,z,h1,h2,h3,hc.1,hc.2.1,hc.2.2,fillS_eq h4 hk⟩
 ·cases e
theorem makeSliceS_eq{P:Program}{t:Nat}{s:St}{x y r:AV}{h:List ABlk}{p:Prop}(e:makeSliceS P t s.h x y=some (p,r,h))(hp:p){K:AV→St→Prop}(hk:K r { s with h }):makeSliceA P t x y s K:=by
 unfold makeSliceS at e
 split at e
 ·obtain⟨e',h1,e⟩:=BK.1 e;obtain⟨sz,h2,e⟩:=BK.1 e;obtain⟨by',h3,e⟩:=BK.1 e;obtain⟨z,h4,e⟩:=BK.1 e
  split at e
  ·rename_i hc;cases e;exact⟨e',sz,by',z,h1,h2,h3,h4,hc.1,hc.2,hp.1,hp.2.1,hp.2.2.1,hp.2.2.2,hk⟩
  ·cases e
 ·cases e
theorem fltT_eq{P:Program}{t:Nat}{k:FloatKind}(h:fltT P t=some k):P.underlying t=some (.float k):=by
 unfold fltT at h
 split at h
 ·cases h;assumption
 ·cases h
theorem strOf_eq{cs:List AV}{r:AV}(e:strOf cs=some r):∃ l,bytesOfA cs=some l∧r=.v (.string ⟨l.toArray⟩):=by
 unfold strOf at e;obtain⟨l,h1,rfl⟩:=Option.map_eq_some_iff.1 e;exact⟨l,h1,rfl⟩
theorem convertS_eq{P:Program}{src dst:Nat}{s:St}{x r:AV}{h:List ABlk}{p:Prop}(e:convertS P src dst s.h x=some (p,r,h))(hp:p){K:AV→St→Prop}(hk:K r { s with h }):convertA P src dst x s K:=by
 unfold convertS at e
 split at e
 ·split at e
  ·rename_i hs
   split at e
   ·rename_i k hk';cases e;simp only[convertA,intT_eq hk'];exact⟨hs,hk⟩
   ·split at e
    ·rename_i hf;cases e;simp only[convertA,fltT_eq hf];exact⟨hs,hk⟩
    ·split at e
     ·rename_i hst;cases e;simp only[convertA,strT_eq hst];exact⟨hs,hk⟩
     ·cases e
  ·cases e
 ·split at e
  ·rename_i hs;obtain⟨k,h1,e⟩:=BK.1 e;obtain⟨n,h2,e⟩:=Option.map_eq_some_iff.1 e;cases e;exact⟨k,n,h1,hs,h2,hk⟩
  ·cases e
 ·split at e
  ·rename_i hd
   split at e
   ·rename_i hs;cases e;simp only[convertA,strT_eq hd];exact⟨hs,hk⟩
   ·cases e
  ·obtain⟨e',h1,e⟩:=BK.1 e
   split at e
   ·rename_i hc;cases e;simp only[convertA,elemT_eq h1];exact⟨hc.1,hc.2.1,hc.2.2,hp,hk⟩
   ·cases e
 ·split at e
  ·rename_i hc;obtain⟨r',h1,e⟩:=Option.map_eq_some_iff.1 e;cases e;obtain⟨l,h2,rfl⟩:=strOf_eq h1;exact⟨hc.1,hc.2,hp,l,h2,hk⟩
  ·cases e
 ·split at e
  ·rename_i hc;obtain⟨k,hb,e⟩:=BK.1 e;obtain⟨r',h1,e⟩:=Option.map_eq_some_iff.1 e;cases e;obtain⟨l,h2,rfl⟩:=strOf_eq h1;exact⟨k,(blkS_eq hb).1,(blkS_eq hb).2,hc.1,hc.2,hp,l,h2,hk⟩
  ·cases e
 ·split at e
  ·rename_i hc;cases e;exact⟨hc.1,hc.2,hk⟩
  ·cases e
 ·cases e
theorem lenS_eq{P:Program}{t:Nat}{ts:Array TypeId}(ht:ts[0]?=some t){s:St}{x r:AV}(e:lenS P t s.h x=some r){K:AV→Prop}(hk:K r):lenA P ts s x K:=by
 refine⟨t,ht,?_⟩;unfold lenS at e
 split at e<;>(try split at e)<;>first
  |(cases e;done)
  |(cases e;rename_i h;exact⟨h,hk⟩)
  |(rename_i h
    obtain⟨k,hb,e⟩:=BK.1 e;cases e;exact⟨h,⟨k,(blkS_eq hb).1,(blkS_eq hb).2⟩,hk⟩)
theorem stepS_eq{P:Program}{o:Oper}{s s':St}{p:Prop}(e:stepS P o s=some (p,s'))(hp:p){K:St→Prop}(hk:K s'):aop P o s K:=by
 have rv:∀ {r:Option AV},retV s o.dst r=some (p,s')→∃ x,r=some x∧s'=pt s o.dst x:=fun {r} h=>by
  obtain⟨x,h1,h2⟩:=Option.map_eq_some_iff.1 h;cases h2;exact⟨x,h1,rfl⟩
 have rp:∀ {r:SV},retP s o.dst r=some (p,s')→∃ x,r=some (p,x)∧s'=pt s o.dst x:=fun {r} h=>by
  obtain⟨⟨q,x⟩,h1,h2⟩:=Option.map_eq_some_iff.1 h;cases h2;exact⟨x,h1,rfl⟩
 have rh:∀ {r:Option (Prop×AV×List ABlk)},retH s o.dst r=some (p,s')→∃ x h,r=some (p,x,h)∧s'=pt { s with h } o.dst x:=fun {r} h=>by
  obtain⟨⟨q,x,h'⟩,h1,h2⟩:=Option.map_eq_some_iff.1 h;cases h2;exact⟨x,h',h1,rfl⟩
 unfold stepS at e;unfold aop
 split at e
 ·rename_i x ho;obtain⟨y,h1,rfl⟩:=rv e;cases h1;simp only[ho];exact hk
 ·rename_i x ho;obtain⟨y,h1,rfl⟩:=rv e;cases h1;simp only[ho];exact hk
 ·rename_i t ho;obtain⟨z,hz,e⟩:=BK.1 e;obtain⟨y,h,h1,rfl⟩:=rh e;cases h1;simp only[ho];exact⟨z,hz,hk⟩
 ·rename_i t x ho;obtain⟨z,hz,e⟩:=BK.1 e;obtain⟨y,h,h1,rfl⟩:=rh e;cases h1;simp only[ho];exact⟨z,hz,hk⟩
 ·rename_i t ps ho;obtain⟨y,h1,rfl⟩:=rv e;simp only[ho];exact buildS_eq h1 hk
 ·rename_i t n ps ho;obtain⟨y,h,h1,rfl⟩:=rh e;obtain⟨⟨y',h'⟩,h2,h3⟩:=Option.map_eq_some_iff.1 h1;cases h3;simp only[ho];exact buildSliceS_eq h2 hk
 ·rename_i t x ho;obtain⟨y,h1,rfl⟩:=rv e;simp only[ho];exact loadS_eq h1 hk
 ·rename_i t x y ho;obtain⟨h,h1,h2⟩:=Option.map_eq_some_iff.1 e;cases h2;simp only[ho];exact storeS_eq h1 hk
 ·rename_i x ho;simp only[ho]
  split at e
  ·rename_i hg;obtain⟨k,hb,e⟩:=BK.1 e;obtain⟨y,h1,rfl⟩:=rv e;cases h1;simp only[hg];exact⟨⟨k,(blkS_eq hb).1,(blkS_eq hb).2⟩,hk⟩
  ·rename_i hg;obtain⟨y,h1,rfl⟩:=rv e;cases h1;simp only[hg];exact hk
  ·cases e
 ·rename_i op t x y t2 ho;obtain⟨r,h1,rfl⟩:=rp e;simp only[ho];exact binS_eq h1 hp hk
 ·rename_i op t x ho;obtain⟨r,h1,rfl⟩:=rp e;simp only[ho];exact unS_eq h1 hp hk
 ·rename_i a b x ho;obtain⟨r,h,h1,rfl⟩:=rh e;simp only[ho];exact convertS_eq h1 hp hk
 ·rename_i t x ho
  split at e
  ·rename_i ht;obtain⟨y,h1,rfl⟩:=rv e;cases h1;simp only[ho];exact⟨ht,hk⟩
  ·cases e
 ·rename_i t l c ho;obtain⟨r,h,h1,rfl⟩:=rh e;simp only[ho];exact makeSliceS_eq h1 hp hk
 ·rename_i t x lo hi ho;obtain⟨r,h1,rfl⟩:=rp e;simp only[ho];exact sliceS_eq h1 hp hk
 ·rename_i t x f ho;obtain⟨r,h1,rfl⟩:=rv e;simp only[ho];exact fieldAddrS_eq h1 hk
 ·rename_i t x f ho;obtain⟨r,h1,rfl⟩:=rv e;simp only[ho];unfold fieldS at h1
  split at h1
  ·rename_i hg;obtain⟨⟨of,ft⟩,h2,h3⟩:=BK.1 h1;simp only[hg];exact⟨of,ft,h2,takeS_eq h3 hk⟩
  ·cases h1
 ·rename_i t x i ho;obtain⟨r,h1,rfl⟩:=rp e;simp only[ho];exact indexAddrS_eq h1 hp hk
 ·rename_i t x i ho;obtain⟨r,h1,rfl⟩:=rp e;simp only[ho];exact indexS_eq h1 hp hk
 ·rename_i t i ho;obtain⟨r,h1,rfl⟩:=rv e;simp only[ho];unfold extractS at h1
  split at h1
  ·rename_i hg;simp only[hg];exact⟨r,h1,hk⟩
  ·cases h1
 ·rename_i c ho;obtain⟨ce,⟨args⟩,ts⟩:=c;simp only[ho];cases ce with
  |value f=>cases e
  |invoke r m=>cases e
  |builtin b=>
   cases b with
   |len=>
    cases args with
    |nil=>cases e
    |cons x xs=>
     obtain⟨t,h2,e⟩:=BK.1 e;obtain⟨r,h3,rfl⟩:=rv e;exact⟨x,rfl,lenS_eq h2 h3 hk⟩
   |append=>
    match args,e with
    |[x,y],e=>
     obtain⟨r,h,h1,rfl⟩:=rh e;exact⟨x,y,rfl,appendS_eq h1 hp hk⟩
   |real=>
    match args,e with
    |[x],e=>
     obtain⟨r,h1,rfl⟩:=rv e;exact⟨x,r,rfl,h1,hk⟩
   |imag=>
    match args,e with
    |[x],e=>
     obtain⟨r,h1,rfl⟩:=rv e;exact⟨x,r,rfl,h1,hk⟩
   |complex=>
    match args,e with
    |[x,y],e=>
     obtain⟨r,h1,rfl⟩:=rv e;exact⟨x,y,r,rfl,h1,hk⟩
   |max=>
    match args,e with
    |[x,y],e=>
     obtain⟨r,h1,rfl⟩:=rv e;exact⟨x,y,r,rfl,h1,hk⟩
   |_=>cases e
 ·cases e
def StepK(r:SS)(K:St→Prop):Prop:=match r with
 |some (p,s)=>p∧K s
 |none=>False
theorem StepK_some(p:Prop)(s:St)(K:St→Prop):StepK (some (p,s)) K=(p∧K s):=rfl
def PickK(b x y:AV)(d:Option Tmp)(K:St→Prop)(s:St):Prop:=match b with
 |.v (.bool z)=>(z=true→K (pt s d x))∧(z=false→K (pt s d y))
 |_=>False
theorem PickK_true(x y:AV)(d:Option Tmp)(K:St→Prop)(s:St):PickK (.v (.bool true)) x y d K s=K (pt s d x):=by simp[PickK]
theorem PickK_false(x y:AV)(d:Option Tmp)(K:St→Prop)(s:St):PickK (.v (.bool false)) x y d K s=K (pt s d y):=by simp[PickK]
def CondK(b:AV)(A B:St→Prop)(s:St):Prop:=match b with
 |.v (.bool z)=>(z=true→A s)∧(z=false→B s)
 |_=>False
theorem CondK_true(A B:St→Prop)(s:St):CondK (.v (.bool true)) A B s=A s:=by simp[CondK]
theorem CondK_false(A B:St→Prop)(s:St):CondK (.v (.bool false)) A B s=B s:=by simp[CondK]
theorem CondK.intro{z:Bool}{A B:St→Prop}{s:St}(h1:z=true→A s)(h2:z=false→B s):CondK (.v (.bool z)) A B s:=⟨h1,h2⟩
theorem PickK.intro{z:Bool}{x y:AV}{d:Option Tmp}{K:St→Prop}{s:St}(h1:z=true→K (pt s d x))(h2:z=false→K (pt s d y)):PickK (.v (.bool z)) x y d K s:=⟨h1,h2⟩
def GuardK(b:AV)(want:Bool)(A B:St→Prop)(s:St):Prop:=match b with
 |.v (.bool z)=>(z=want→A s)∧(z≠want→B s)
 |.v (.tuple _)=>B s
 |_=>False
theorem GuardK_skip(u:Array Value)(want:Bool)(A B:St→Prop)(s:St):GuardK (.v (.tuple u)) want A B s=B s:=rfl
theorem GuardK_tt(A B:St→Prop)(s:St):GuardK (.v (.bool true)) true A B s=A s:=by simp[GuardK]
theorem GuardK_ff(A B:St→Prop)(s:St):GuardK (.v (.bool false)) false A B s=A s:=by simp[GuardK]
theorem GuardK_tf(A B:St→Prop)(s:St):GuardK (.v (.bool true)) false A B s=B s:=by simp[GuardK]
theorem GuardK_ft(A B:St→Prop)(s:St):GuardK (.v (.bool false)) true A B s=B s:=by simp[GuardK]
theorem GuardK.intro_t{z:Bool}{A B:St→Prop}{s:St}(h1:z=true→A s)(h2:z=false→B s):GuardK (.v (.bool z)) true A B s:=⟨h1,fun h=>h2 (by cases z<;>simp_all)⟩
theorem GuardK.intro_f{z:Bool}{A B:St→Prop}{s:St}(h1:z=false→A s)(h2:z=true→B s):GuardK (.v (.bool z)) false A B s:=⟨h1,fun h=>h2 (by cases z<;>simp_all)⟩
def skipK(d:Option Tmp)(K:St→Prop)(s:St):Prop:=K (pt s d (.v (.tuple #[])))
theorem skipK_eq(d:Option Tmp)(K:St→Prop)(s:St):skipK d K s=K (pt s d (.v (.tuple #[]))):=rfl
def ExtV(P:Program)(g:FuncId)(xs:List AV)(r:AV):Prop:=
 ∀ (c:Cx) (w:World) (vs:Array Value),c.P=P→relL xs c vs.toList→∃ u w',(callFunc g vs).run P w=.ok (.value u) w'∧Below w.heap.size w w'∧rel r c u
def CallK(P:Program)(g:FuncId)(xs:List AV)(d:Option Tmp)(K:St→Prop)(s:St):Prop:=
 ((∃ fn,P.funcs[g]?=some fn∧fn.body.isSome=true∧(fn.name == "runtime.NumGoroutine")=false)∧callA P s g xs fun r=>K (pt s d r))∨
 ∃ r,ExtV P g xs r∧K (pt s d r)
def bodyT(P:Program)(g:FuncId):Prop:=∃ fn,P.funcs[g]?=some fn∧fn.body.isSome=true∧(fn.name == "runtime.NumGoroutine")=false
theorem CallK.intro{P:Program}{g:FuncId}{xs:List AV}{d:Option Tmp}{K:St→Prop}{s:St}(hb:bodyT P g)(ht:treeL xs=true){r:AV}(hev:Ev P s.s.g g xs r)(hk:K (pt s d r)):CallK P g xs d K s:=
 .inl ⟨hb,xs,r,.inl ⟨rfl,ht⟩,hev,hk⟩
theorem CallK.lend{P:Program}{g:FuncId}{xs:List AV}{d:Option Tmp}{K:St→Prop}{s:St}(hb:bodyT P g)(ys:List AV)(hz:fzL P s.h true ys xs){r:AV}(hev:Ev P s.s.g g ys r)(hn:noBor r=true)(hk:K (pt s d r)):CallK P g xs d K s:=
 .inl ⟨hb,ys,r,.inr ⟨hz,hn⟩,hev,hk⟩
theorem CallK.ext{P:Program}{g:FuncId}{xs:List AV}{d:Option Tmp}{K:St→Prop}{s:St}{r:AV}(he:ExtV P g xs r)(hk:K (pt s d r)):CallK P g xs d K s:=.inr ⟨r,he,hk⟩
def SemK(P:Program)(c:Code)(Q:Post)(s:St):Prop:=
 ∀ (X:Fix) (φ:List Nat) (a:Act) (w:World),X.P=P→X.c0=none→SR X φ s a w→c.wp P (Qx X Q) a w
def kop(P:Program)(o:Oper)(K:St→Prop)(s:St):Prop:=
 match o.op with
 |.pick c a b=>PickK (get s.s c) (get s.s a) (get s.s b) o.dst K s
 |.call ⟨.value (.func g),xs,_⟩=>CallK P g (xs.toList.map (get s.s)) o.dst K s
 |_=>StepK (stepS P o s) K
def kops(P:Program)(ops:Array Oper):List Oper→(St→Prop)→St→Prop
 |[],K,s=>K s
 |o::os,K,s=>match o.guard with
  |none=>kop P o (kops P ops os K) s
  |some (j,want)=>GuardK (guardA ops s j) want (kop P o (kops P ops os K)) (skipK o.dst (kops P ops os K)) s
def normK(Q:Post)(s:St):Prop:=Q .normal s
theorem normK_eq(Q:Post)(s:St):normK Q s=Q .normal s:=rfl
theorem thenA_normal(K:St→Prop)(Q:Post)(s:St):thenA K Q .normal s=K s:=rfl
theorem thenA_ret(K:St→Prop)(Q:Post)(s:St):thenA K Q .ret s=Q .ret s:=rfl
theorem thenA_exit(K:St→Prop)(Q:Post)(i:Nat)(s:St):thenA K Q (.exit i) s=Q (.exit i) s:=rfl
theorem thenA_goto(K:St→Prop)(Q:Post)(i:Nat)(s:St):thenA K Q (.goto i) s=Q (.goto i) s:=rfl
theorem inBlockA_normal(id:Nat)(Q:Post)(s:St):inBlockA id Q .normal s=Q .normal s:=rfl
theorem inBlockA_ret(id:Nat)(Q:Post)(s:St):inBlockA id Q .ret s=Q .ret s:=rfl
theorem inBlockA_goto(id i:Nat)(Q:Post)(s:St):inBlockA id Q (.goto i) s=Q (.goto i) s:=rfl
theorem inBlockA_exit(id i:Nat)(Q:Post)(s:St):inBlockA id Q (.exit i) s=if i=id then Q .normal s else Q (.exit i) s:=rfl
def loopC(R:Nat→St→Prop)(m:Nat)(s2:St):Prop:=∃ m' s3,s2.weak s3∧m'<m∧R m' s3
def LoopK(F:Post→St→Prop)(Q:Post)(s:St):Prop:=
 ∃ (R:Nat→St→Prop) (n:Nat) (s0:St),s.weak s0∧R n s0∧∀ m s1,R m s1→F (thenA (loopC R m) Q) s1
def RR{α:Type}(mk:α→St)(inv:α→Prop)(μ:α→Nat)(n:Nat)(s:St):Prop:=∃ a,inv a∧s=mk a∧μ a=n
theorem LoopK.intro{F:Post→St→Prop}{Q:Post}{s:St}{α:Type}(mk:α→St)(inv:α→Prop)(μ:α→Nat)(a0:α)(hw:s.weak (mk a0))(h0:inv a0)
  (round:∀ a,inv a→F (thenA (loopC (RR mk inv μ) (μ a)) Q) (mk a)):LoopK F Q s:=
 ⟨RR mk inv μ,μ a0,mk a0,hw,⟨a0,h0,rfl,rfl⟩,fun m s1 ⟨a,h1,h2,h3⟩=>by subst h2;subst h3;exact round a h1⟩
theorem loopC.intro{α:Type}{mk:α→St}{inv:α→Prop}{μ:α→Nat}{n:Nat}{s2:St}(a:α)(h:inv a)(hw:s2.weak (mk a))(hm:μ a<n):loopC (RR mk inv μ) n s2:=
 ⟨μ a,mk a,hw,hm,a,h,rfl,rfl⟩
def wrO(P:Program):Op→Bool
 |.move _|.assign _|.pick .. | .binOp .. | .unOp .. | .makeInterface .. | .field .. | .index .. | .extract .. | .load .. | .nilCheck .. | .slice .. | .fieldAddr .. | .indexAddr .. | .build .. =>false
 |.call c=>match c.callee with
  |.builtin .len|.builtin .real|.builtin .imag|.builtin .complex|.builtin .max=>false
  |.value (.func _)=>false
  |_=>true
 |.convert _ b _=> !(intT P b).isSome
 |_=>true
def rdO(P:Program):Op→Bool
 |.move _|.assign _|.pick .. | .binOp .. | .unOp .. | .makeInterface .. | .field .. | .index .. | .extract .. | .build .. =>false
 |.call c=>match c.callee with
  |.builtin .real|.builtin .imag|.builtin .complex|.builtin .max=>false
  |_=>true
 |.convert _ b _=> !(intT P b).isSome
 |.slice t .. => !(strT P t)
 |_=>true
def rwO(P:Program)(o:Op):Bool:=rdO P o || wrO P o
def bindsE(e:Edge):Bool:=Region.binds .any e
def ancT(ops:Array Oper):List (List Nat):=
 ops.toList.foldl (fun tbl o=>tbl++[((o.after.toList.filter bindsE).flatMap fun e=>e.on::tbl.getD e.on []).eraseDups]) []
def ancOk(ops:Array Oper)(tbl:List (List Nat)):Bool:=
 (List.range ops.size).all fun i=>match ops[i]? with
  |some o=>o.after.toList.all (fun e=> !bindsE e || decide (e.on<i))&&(tbl.getD i []).all fun j=>o.after.toList.any fun e=>bindsE e&&(e.on==j || (tbl.getD e.on []).contains j)
  |none=>true
def clashO(P:Program)(ops:Array Oper)(x y:Oper):Bool:=
 (match x.dst with|some d=>(y.looksAt ops).contains d || y.dst==some d|none=>false) || (match y.dst with|some d=>(x.looksAt ops).contains d|none=>false) ||
  (wrO P x.op&&rwO P y.op) || (rwO P x.op&&wrO P y.op)
def drawOkT(P:Program)(ops:Array Oper)(tbl:List (List Nat)):Bool:=
 ancOk ops tbl&&(List.range ops.size).all fun j=>(List.range j).all fun i=>match ops[i]?,ops[j]? with
  |some x,some y=> !clashO P ops x y || (tbl.getD j []).contains i
  |_,_=>true
def drawOk(P:Program)(ops:Array Oper):Bool:=drawOkT P ops (ancT ops)
def anyK(P:Program)(ops:Array Oper)(K:St→Prop):Nat→Array Bool→St→Prop
 |0,listed,s=>Region.ready .any ops listed=[]∧K s
 |f+1,listed,s=>(Region.ready .any ops listed=[]→K s)∧
  ∀ i∈List.range ops.size,(Region.ready .any ops listed).contains i=true→∃ o,ops[i]?=some o∧o.guard=none∧kop P o (fun s'=>anyK P ops K f (listed.setIfInBounds i true) s') s
def eqvS(s s':St):Prop:=s.s.n=s'.s.n∧s.s.g=s'.s.g∧s.h=s'.h∧∀ t,look s.s.l t=look s'.s.l t
def ExtC(K:St→Prop)(s:St):Prop:=∃ s',eqvS s' s∧K s'
def DrawK(P:Program)(ops:Array Oper)(Q:Post)(s:St):Prop:=P.follows .mixedOrders=true∧((drawOk P ops=true∧kops P ops ops.toList (normK Q) s)∨anyK P ops (normK Q) ops.size (Array.replicate ops.size false) s∨anyK P ops (ExtC (normK Q)) ops.size (Array.replicate ops.size false) s)
theorem DrawK.intro{P:Program}{ops:Array Oper}{Q:Post}{s:St}(h1:P.follows .mixedOrders=true)(h2:drawOk P ops=true)(h3:kops P ops ops.toList (normK Q) s):DrawK P ops Q s:=⟨h1,.inl ⟨h2,h3⟩⟩
theorem DrawK.any{P:Program}{ops:Array Oper}{Q:Post}{s:St}(h1:P.follows .mixedOrders=true)(h3:anyK P ops (normK Q) ops.size (Array.replicate ops.size false) s):DrawK P ops Q s:=⟨h1,.inr (.inl h3)⟩
theorem notReady{b:Bool}{p:Prop}(h:b=false):b=true→p:=fun h'=>by rw[h]at h';cases h'
def kwp(P:Program):Code→Post→St→Prop
 |.skip,Q,s=>Q .normal s
 |.region _ ops draw,Q,s=>if draw=true then DrawK P ops Q s else kops P ops ops.toList (normK Q) s
 |.seq a b,Q,s=>kwp P a (thenA (kwp P b Q) Q) s
 |.cond c x y,Q,s=>CondK (get s.s c) (kwp P x Q) (kwp P y Q) s
 |.block id c,Q,s=>kwp P c (inBlockA id Q) s
 |.loop c,Q,s=>LoopK (fun Q s=>kwp P c Q s) Q s
 |.exit id,Q,s=>Q (.exit id) s
 |.ret,Q,s=>Q .ret s
 |.label _,Q,s=>Q .normal s
 |.goto l,Q,s=>Q (.goto l) s
 |.rangeFunc f ps x y,Q,s=>SemK P (.rangeFunc f ps x y) Q s
 |.scope c,Q,s=>SemK P (.scope c) Q s
 |.refuse ..,_,_=>False
def ValK(r:Option AV)(K:AV→Prop):Prop:=match r with
 |some x=>K x
 |none=>False
def resS(P:Program):List ResultVar→St→(List AV→Prop)→Prop
 |[],_,K=>K []
 |.tmp t::rs,s,K=>resS P rs s fun xs=>K (look s.s.l t::xs)
 |.cell p t::rs,s,K=>ValK (loadS P t s.h (look s.s.l p)) fun x=>resS P rs s fun xs=>K (x::xs)
def endS(P:Program)(rs:List ResultVar)(res:AV):Post
 |.normal,s|.ret,s=>resS P rs s fun xs=>fz P s.h false res (oneOrTup xs)
 |_,_=>False
theorem resS_resA{P:Program}:∀ (rs:List ResultVar) {s:St} {K:List AV→Prop},resS P rs s K→resA P rs s K
 |[],_,_,h=>h
 |.tmp t::rs,s,K,h=>resS_resA rs h
 |.cell p t::rs,s,K,h=>by
  simp only[resS,ValK]at h
  split at h
  ·rename_i x e;exact loadS_eq e (resS_resA rs h)
  ·exact h.elim
theorem endS_endA{P:Program}{rs:List ResultVar}{res:AV}:∀ {e:Exit} {s:St},endS P rs res e s→endA P rs res e s
 |.normal,_,h=>resS_resA rs h
 |.ret,_,h=>resS_resA rs h
 |.exit _,_,h=>h.elim
 |.goto _,_,h=>h.elim
 |.panic _,_,h=>h.elim
 |.outgrown,_,h=>h.elim
section
variable {X:Fix} {φ:List Nat} {st:St} {a:Act} {w:World} {o:Oper} {Q:Exit→Act→World→Prop} {K:St→Prop}
theorem StepK_aop{P:Program}(h:StepK (stepS P o st) K):aop P o st K:=by
 unfold StepK at h
 split at h
 ·rename_i p s e;exact stepS_eq e h.1 h.2
 ·exact h.elim
theorem kop_sound(hs:SR X φ st a w)(h:kop X.P o K st):o.wp X.P a w (Nx X K) Q:=by
 unfold kop at h
 split at h
 ·rename_i c x y ho;unfold PickK at h
  split at h
  ·rename_i z hg;exact op_pick hs ho hg h.1 h.2
  ·exact h.elim
 ·rename_i g xs ts ho
  rcases h with h|⟨r,he,hk⟩
  ·exact op_callF hs ho rfl h.1 h.2
  ·have hargs:relL (xs.toList.map (get st.s)) (cx X φ st.h w) (xs.map a.eval).toList:=by
    rw[Array.toList_map];exact relL_map_get hs _
   obtain⟨u,w',hr,hb,hu⟩:=he (cx X φ st.h w) w (xs.map a.eval) rfl hargs
   have hrun:(execOp a.eval o).run X.P w=.ok (.value u) w':=by
    rw[←hr];simp[execOp,ho,resolve,Deferred.ofValue,Act.eval,invoke]
   unfold Oper.wp;rw[hrun];simp only[Oper.upon];have hrng:=fun β hβ=>(hs.rng β hβ).2
   have hle:=cx_le_same (X:=X) (φ:=φ) (w:=w) (w':=w') (fun p hp=>hb.cell hp) (fun r hr=>by unfold World.shape?;rw[hb.block r hr]) hb.size hrng st.h;exact⟨φ,_,(hs.world hb).put o.dst (rel_mono hle _ _ hu),hk⟩
 ·exact aop_sound hs (StepK_aop h)
theorem kops_sound(ops:Array Oper)(Qn:Exit→Act→World→Prop):∀ (os:List Oper) (is:List Nat) {K:St→Prop} {φ:List Nat} {st:St} {a:Act} {w:World},is.map (ops[·]?)=os.map some→SR X φ st a w→kops X.P ops os K st→
  (∀ a w,Nx X K a w→Qn .normal a w)→wpOps X.P ops Qn is a w
 |[],[],K,φ,st,a,w,_,hs,h,hq=>hq _ _ ⟨φ,st,hs,h⟩
 |[],i::is,_,_,_,_,_,he,_,_,_=>by simp at he
 |o::os,[],_,_,_,_,_,he,_,_,_=>by simp at he
 |o::os,i::is,K,φ,st,a,w,he,hs,h,hq=>by
  simp only[BA,List.cons.injEq]at he;obtain⟨hi,he⟩:=he;have hrest:∀ a' w',Nx X (kops X.P ops os K) a' w'→wpOps X.P ops Qn is a' w':=fun a' w' ⟨φ',st',hs',h'⟩=>kops_sound ops Qn os is he hs' h' hq
  simp only[wpOps,hi];simp only[kops]at h
  split at h
  ·rename_i hg;have hw:Region.wanted o (yielded ops a.tmps)=true:=by simp[Region.wanted,hg]
   rw[if_pos hw];exact .inl (Oper.wp_mono hrest (kop_sound hs h))
  ·rename_i j want hg;unfold GuardK at h
   split at h
   ·rename_i z hz;obtain⟨h1,h2⟩:=h
    have hy:yielded ops a.tmps j=some z:=by
     unfold guardA at hz
     split at hz
     ·rename_i t ht;unfold yielded;rw[ht];have hr:=hs.slots t;rw[hz]at hr;simp only[rel]at hr;cases htm:a.tmps[t]? with
      |none=>simp[htm,undef]at hr
      |some u=>
       simp[htm]at hr;subst hr;simp[htm]
     ·cases hz
    by_cases hzw:z=want
    ·have hw:Region.wanted o (yielded ops a.tmps)=true:=by simp[Region.wanted,hg,hy,hzw]
     rw[if_pos hw];exact .inl (Oper.wp_mono hrest (kop_sound hs (h1 hzw)))
    ·have hw:Region.wanted o (yielded ops a.tmps)=false:=by simp[Region.wanted,hg,hy,hzw]
     rw[hw];exact hrest _ _ ⟨φ,_,hs.put o.dst (r:=.v (.tuple #[])) (u:=undef) (by simp only[rel,undef]),h2 hzw⟩
   ·rename_i us hz
    have hy:yielded ops a.tmps j=none:=by
     unfold guardA at hz
     split at hz
     ·rename_i t ht;unfold yielded;rw[ht];have hr:=hs.slots t;rw[hz]at hr;simp only[rel]at hr;cases htm:a.tmps[t]? with
      |none=>simp[htm]
      |some u=>
       simp[htm]at hr;subst hr;simp[htm]
     ·cases hz
    have hw:Region.wanted o (yielded ops a.tmps)=false:=by simp[Region.wanted,hg,hy]
    rw[hw];exact hrest _ _ ⟨φ,_,hs.put o.dst (r:=.v (.tuple #[])) (u:=undef) (by simp only[rel,undef]),h⟩
   ·exact h.elim
end
section
variable {P:Program} {Q:Post} {s:St} {K:St→Prop}
theorem k_seq(a b:Code):kwp P (.seq a b) Q s=kwp P a (thenA (kwp P b Q) Q) s:=rfl
theorem k_region(i:Nat)(ops:Array Oper):kwp P (.region i ops false) Q s=kops P ops ops.toList (normK Q) s:=by simp[kwp]
theorem k_draw(i:Nat)(ops:Array Oper):kwp P (.region i ops true) Q s=DrawK P ops Q s:=by simp[kwp]
theorem k_skip:kwp P .skip Q s=Q .normal s:=rfl
theorem k_cond(c:Operand)(x y:Code):kwp P (.cond c x y) Q s=CondK (get s.s c) (kwp P x Q) (kwp P y Q) s:=rfl
theorem k_block(i:Nat)(c:Code):kwp P (.block i c) Q s=kwp P c (inBlockA i Q) s:=rfl
theorem k_loop(c:Code):kwp P (.loop c) Q s=LoopK (kwp P c) Q s:=rfl
theorem k_exit(i:Nat):kwp P (.exit i) Q s=Q (.exit i) s:=rfl
theorem k_ret:kwp P .ret Q s=Q .ret s:=rfl
theorem k_label(i:Nat):kwp P (.label i) Q s=Q .normal s:=rfl
theorem k_scope(c:Code):kwp P (.scope c) Q s=SemK P (.scope c) Q s:=rfl
theorem k_rangeF(f:Operand)(ps:Array Tmp)(x y:Code):kwp P (.rangeFunc f ps x y) Q s=SemK P (.rangeFunc f ps x y) Q s:=rfl
theorem k_goto(i:Nat):kwp P (.goto i) Q s=Q (.goto i) s:=rfl
section
variable {ops:Array Oper} {os:List Oper} {d:Option Tmp} {t:TypeId} {pos:String} {af:Array Edge} {g:Option (Nat×Bool)}
theorem o_nil:kops P ops [] K s=K s:=rfl
theorem o_none(op:Op):kops P ops (⟨d,op,t,pos,af,none⟩::os) K s=kop P ⟨d,op,t,pos,af,none⟩ (kops P ops os K) s:=rfl
theorem o_some(op:Op)(j:Nat)(b:Bool):kops P ops (⟨d,op,t,pos,af,some (j,b)⟩::os) K s =
  GuardK (guardA ops s j) b (kop P ⟨d,op,t,pos,af,some (j,b)⟩ (kops P ops os K)) (skipK d (kops P ops os K)) s:=rfl
theorem s_move(x:Operand):kop P ⟨d,.move x,t,pos,af,g⟩ K s=K (pt s d (get s.s x)):=by simp[kop,stepS,StepK,retV]
theorem s_assign(x:Operand):kop P ⟨d,.assign x,t,pos,af,g⟩ K s=K (pt s d (get s.s x)):=by simp[kop,stepS,StepK,retV]
theorem s_pick(c a b:Operand):kop P ⟨d,.pick c a b,t,pos,af,g⟩ K s=PickK (get s.s c) (get s.s a) (get s.s b) d K s:=rfl
theorem s_callF(f:FuncId)(xs:Array Operand)(ts:Array TypeId):kop P ⟨d,.call ⟨.value (.func f),xs,ts⟩,t,pos,af,g⟩ K s=CallK P f (xs.toList.map (get s.s)) d K s:=rfl
theorem s_len(x:Operand)(u:TypeId):kop P ⟨d,.call ⟨.builtin .len,#[x],#[u]⟩,t,pos,af,g⟩ K s=StepK (retV s d (lenS P u s.h (get s.s x))) K:=rfl
theorem s_real(x:Operand)(ts:Array TypeId):kop P ⟨d,.call ⟨.builtin .real,#[x],ts⟩,t,pos,af,g⟩ K s=StepK (retV s d (partS false (get s.s x))) K:=rfl
theorem s_imag(x:Operand)(ts:Array TypeId):kop P ⟨d,.call ⟨.builtin .imag,#[x],ts⟩,t,pos,af,g⟩ K s=StepK (retV s d (partS true (get s.s x))) K:=rfl
theorem s_comp(x y:Operand)(ts:Array TypeId):kop P ⟨d,.call ⟨.builtin .complex,#[x,y],ts⟩,t,pos,af,g⟩ K s=StepK (retV s d (compS (get s.s x) (get s.s y))) K:=rfl
theorem s_max(x y:Operand)(ts:Array TypeId):kop P ⟨d,.call ⟨.builtin .max,#[x,y],ts⟩,t,pos,af,g⟩ K s=StepK (retV s d (maxS (get s.s x) (get s.s y))) K:=rfl
theorem maxS_mk(k k2:IntKind)(a b:Int):maxS (.v (.int k a)) (.v (.int k2 b))=some (.v (.int k (if b>a then b else a))):=rfl
theorem partS_re(a b:Nat):partS false (.v (.complex .f64 a b))=some (.v (.float .f64 a)):=rfl
theorem partS_im(a b:Nat):partS true (.v (.complex .f64 a b))=some (.v (.float .f64 b)):=rfl
theorem compS_mk(a b:Nat):compS (.v (.float .f64 a)) (.v (.float .f64 b))=some (.v (.complex .f64 a b)):=rfl
theorem cplS_eql(a b c e:Nat):cplS .eql a b c e=some (True,.v (.bool (cplEq a b c e))):=rfl
theorem cplS_neq(a b c e:Nat):cplS .neq a b c e=some (True,.v (.bool (!cplEq a b c e))):=rfl
theorem s_alloc(u:TypeId):kop P ⟨d,.alloc u,t,pos,af,g⟩ K s=StepK ((zeroT P u).bind fun z=>retH s d (some (True,.ptr s.h.length 0 0,s.h++[⟨0,u,zeroCells z⟩]))) K:=rfl
theorem s_box(u:TypeId)(x:Operand):kop P ⟨d,.box u x,t,pos,af,g⟩ K s=StepK ((flat (get s.s x)).bind fun cs=>retH s d (some (True,.ptr s.h.length 0 0,s.h++[⟨0,u,cs⟩]))) K:=rfl
theorem s_build(u:TypeId)(ps:Array (Nat×Operand)):kop P ⟨d,.build u ps,t,pos,af,g⟩ K s=StepK (retV s d (buildS P u (ps.toList.map fun (i,x)=>(i,get s.s x)))) K:=rfl
theorem s_buildSlice(u n:Nat)(ps:Array (Nat×Operand)):kop P ⟨d,.buildSlice u n ps,t,pos,af,g⟩ K s=StepK (retH s d ((buildSliceS P u n (ps.toList.map fun (i,x)=>(i,get s.s x)) s.h).map fun (r,h)=>(True,r,h))) K:=rfl
theorem s_load(u:TypeId)(a:Operand):kop P ⟨d,.load u a,t,pos,af,g⟩ K s=StepK (retV s d (loadS P u s.h (get s.s a))) K:=rfl
theorem s_store(u:TypeId)(a x:Operand):kop P ⟨d,.store u a x,t,pos,af,g⟩ K s=StepK ((storeS P u s.h (get s.s a) (get s.s x)).map fun h=>(True,pt { s with h } d .bad)) K:=rfl
def nilChk(s:St)(d:Option Tmp):AV→SS
 |.ptr i ver off=>(blkS s.h i ver).bind fun _=>retV s d (some (.ptr i ver off))
 |.ela b cs=>retV s d (some (.ela b cs))
 |_=>none
theorem s_nilCheck(x:Operand):kop P ⟨d,.nilCheck x,t,pos,af,g⟩ K s=StepK (nilChk s d (get s.s x)) K:=by
 simp only[kop,stepS];cases get s.s x<;>rfl
theorem s_binOp(op:BinOp)(u v:TypeId)(x y:Operand):kop P ⟨d,.binOp op u x y v,t,pos,af,g⟩ K s=StepK (retP s d (binS P op u (isConst x || isConst y) (get s.s x) (get s.s y))) K:=rfl
theorem s_unOp(op:UnOp)(u:TypeId)(x:Operand):kop P ⟨d,.unOp op u x,t,pos,af,g⟩ K s=StepK (retP s d (unS op (get s.s x))) K:=rfl
theorem s_convert(a b:TypeId)(x:Operand):kop P ⟨d,.convert a b x,t,pos,af,g⟩ K s=StepK (retH s d (convertS P a b s.h (get s.s x))) K:=rfl
theorem s_makeIf(u:TypeId)(x:Operand):kop P ⟨d,.makeInterface u x,t,pos,af,g⟩ K s=StepK (if ifcT P u=some false then retV s d (some (.ifc u (get s.s x)))else none) K:=rfl
theorem s_makeSlice(u:TypeId)(l c:Operand):kop P ⟨d,.makeSlice u l c,t,pos,af,g⟩ K s=StepK (retH s d (makeSliceS P u s.h (get s.s l) (get s.s c))) K:=rfl
theorem s_slice(u:TypeId)(x:Operand)(lo hi:Option Operand):kop P ⟨d,.slice u x lo hi none,t,pos,af,g⟩ K s=StepK (retP s d (sliceS P u s.h (lo.map (get s.s)) (hi.map (get s.s)) (get s.s x))) K:=rfl
theorem s_fieldAddr(u:TypeId)(x:Operand)(f:Nat):kop P ⟨d,.fieldAddr u x f,t,pos,af,g⟩ K s=StepK (retV s d (fieldAddrS P u f s.h (get s.s x))) K:=rfl
theorem s_field(u:TypeId)(x:Operand)(f:Nat):kop P ⟨d,.field u x f,t,pos,af,g⟩ K s=StepK (retV s d (fieldS P u f (get s.s x))) K:=rfl
theorem s_indexAddr(u:TypeId)(x i:Operand):kop P ⟨d,.indexAddr u x i,t,pos,af,g⟩ K s=StepK (retP s d (indexAddrS P u s.h (get s.s x) (get s.s i))) K:=rfl
theorem s_index(u:TypeId)(x i:Operand):kop P ⟨d,.index u x i,t,pos,af,g⟩ K s=StepK (retP s d (indexS P u (get s.s x) (get s.s i))) K:=rfl
theorem s_extract(x:Operand)(i:Nat):kop P ⟨d,.extract x i,t,pos,af,g⟩ K s=StepK (retV s d (extractS i (get s.s x))) K:=rfl
end
theorem StepK_retV(d:Option Tmp)(r:AV):StepK (retV s d (some r)) K=K (pt s d r):=by simp[StepK,retV]
theorem StepK_retP(d:Option Tmp)(p:Prop)(r:AV):StepK (retP s d (some (p,r))) K=(p∧K (pt s d r)):=rfl
theorem StepK_retPT(d:Option Tmp)(r:AV):StepK (retP s d (some (True,r))) K=K (pt s d r):=by simp[StepK,retP]
theorem StepK_okS(d:Option Tmp)(r:AV):StepK (retP s d (okS r)) K=K (pt s d r):=by simp[StepK,retP,okS]
theorem StepK_retH(d:Option Tmp)(p:Prop)(r:AV)(h:List ABlk):StepK (retH s d (some (p,r,h))) K=(p∧K (pt { s with h } d r)):=rfl
theorem StepK_retHT(d:Option Tmp)(r:AV)(h:List ABlk):StepK (retH s d (some (True,r,h))) K=K (pt { s with h } d r):=by simp[StepK,retH]
theorem StepK_someT(s':St):StepK (some (True,s')) K=K s':=by simp[StepK]
end
def appT(P:Program)(t t2:TypeId):Option (Nat×Nat×Nat):=
 if intT P t2=none∧(P.underlying t2).isSome=true then
  (elemT P t).bind fun e=>(sizeT P e).bind fun sz=>(bytesT P e).bind fun by'=>(zeroT P e).bind fun z=>
   if (zeroCells z).length=sz∧0<sz∧0<by' then some (e,sz,by')else none
 else none
theorem appendS_appT{P:Program}{t t2:TypeId}{h:List ABlk}{x y:AV}:appendS P #[t,t2] h x y =
  (appT P t t2).bind fun q=>(srcS h q.2.1 y).bind fun r=>ontoS h q.1 q.2.1 q.2.2 r.1 r.2.1 r.2.2 x:=by
 simp only[appendS,appT];simp
 split
 ·cases elemT P t<;>simp
  cases sizeT P _<;>simp
  cases bytesT P _<;>simp
  cases zeroT P _<;>simp
  split<;>simp
 ·simp
section
variable {P:Program} {s:St} {K:St→Prop} {t:TypeId} {d:Option Tmp} {pos:String} {af:Array Edge} {g:Option (Nat×Bool)}
theorem s_append2(x y:Operand)(u v:TypeId):kop P ⟨d,.call ⟨.builtin .append,#[x,y],#[u,v]⟩,t,pos,af,g⟩ K s =
  StepK (retH s d ((appT P u v).bind fun q=>(srcS s.h q.2.1 (get s.s y)).bind fun r=>ontoS s.h q.1 q.2.1 q.2.2 r.1 r.2.1 r.2.2 (get s.s x))) K:=by
 rw[←appendS_appT];rfl
end
def mkT(P:Program)(t:TypeId):Option (Nat×Nat×List AV):=
 (elemT P t).bind fun e=>(sizeT P e).bind fun sz=>(zeroT P e).bind fun z=>if (zeroCells z).length=sz∧0<sz then some (e,sz,zeroCells z)else none
theorem buildSliceS_mkT{P:Program}{t:TypeId}{len:Nat}{ps:List (Nat×AV)}{h:List ABlk}:buildSliceS P t len ps h =
  (mkT P t).bind fun q=>if len * q.2.1≤16777216 then (fillS (fun i=>some (i * q.2.1,q.2.1)) ps (List.replicate len q.2.2).flatten).map fun l=>(.own h.length 0 len,h++[⟨0,q.1,l⟩])else none:=by
 simp only[buildSliceS,mkT];cases elemT P t<;>simp
 cases sizeT P _<;>simp
 cases zeroT P _<;>simp
 rename_i e sz z
 by_cases h1:(zeroCells z).length=sz<;>by_cases h2:0<sz<;>by_cases h3:len * sz≤16777216<;>simp[h1,h2,h3,rowsA]
section
variable {P:Program} {s:St} {K:St→Prop} {t:TypeId} {d:Option Tmp} {pos:String} {af:Array Edge} {g:Option (Nat×Bool)}
theorem s_buildSlice2(u n:Nat)(ps:Array (Nat×Operand)):kop P ⟨d,.buildSlice u n ps,t,pos,af,g⟩ K s=StepK (retH s d ((mkT P u).bind fun q=>if n * q.2.1≤16777216 then (fillS (fun i=>some (i * q.2.1,q.2.1)) (ps.toList.map fun x=>(x.1,get s.s x.2)) (List.replicate n q.2.2).flatten).map fun l=>(True,.own s.h.length 0 n,s.h++[⟨0,q.1,l⟩])else none)) K:=by
 rw[s_buildSlice,buildSliceS_mkT]
 congr 2
 cases mkT P u<;>simp
 split<;>simp<;>rfl
end
set_option linter.defProp false in
def kS:=And.intro @k_seq (And.intro @k_region (And.intro @k_draw (And.intro @k_skip (And.intro @k_cond (And.intro @k_block (And.intro @k_loop (And.intro @k_exit (And.intro @k_ret (And.intro @k_label (And.intro @k_scope (And.intro @k_rangeF (And.intro @k_goto (And.intro @o_nil (And.intro @o_none (And.intro @o_some (And.intro @s_move (And.intro @s_assign (And.intro @s_pick (And.intro @s_callF (And.intro @s_len (And.intro @s_unOp (And.intro @s_box (And.intro @s_unOp (And.intro @s_load (And.intro @s_store (And.intro @s_nilCheck (And.intro @s_binOp (And.intro @s_unOp (And.intro @s_convert (And.intro @s_makeIf (And.intro @s_makeSlice (And.intro @s_slice (And.intro @s_fieldAddr (And.intro @s_field (And.intro @s_indexAddr (And.intro @s_index (And.intro @s_extract (And.intro @StepK_retV (And.intro @StepK_retPT (And.intro @StepK_okS (And.intro @StepK_retHT (And.intro @StepK_someT (And.intro @StepK_retP (And.intro @StepK_retH (And.intro @StepK_some (And.intro @pt_some (And.intro @pt_none (And.intro @get_tmp (And.intro @get_const (And.intro @get_global (And.intro @get_func (And.intro @look_cons (And.intro @look_nil (And.intro @normK_eq (And.intro @thenA_normal (And.intro @thenA_ret (And.intro @thenA_exit (And.intro @thenA_goto (And.intro @inBlockA_normal (And.intro @inBlockA_ret (And.intro @inBlockA_goto (And.intro @inBlockA_exit (And.intro @CondK_true (And.intro @CondK_false (And.intro @PickK_true (And.intro @PickK_false (And.intro @GuardK_skip (And.intro @GuardK_tt (And.intro @GuardK_ff (And.intro @GuardK_tf (And.intro @GuardK_ft (And.intro @skipK_eq (And.intro @s_append2 (@s_buildSlice2)))))))))))))))))))))))))))))))))))))))))))))))))))))))))))))))))))))) ))))
end Go.Ev
