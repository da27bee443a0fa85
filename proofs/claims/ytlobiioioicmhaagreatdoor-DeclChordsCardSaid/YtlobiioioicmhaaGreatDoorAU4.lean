/- The evaluator: abstract values, and code carried out on them. -/
import Derived.Test.YtlobiioioicmhaaGreatDoorAU3
set_option linter.all false
set_option maxHeartbeats 8000000
namespace Go.Ev
open _root_.List renaming map_cons→BA
open _root_.Option renaming bind_eq_some_iff→BK
open Go Go.RowKit
def pt(s:St)(d:Option Tmp)(r:AV):St:={ s with s:=Ca s.s d r }
theorem Z9(n:Nat)(l g:List (Nat×AV))(h:List Aa)(d:Nat)(r:AV):pt ⟨⟨n,l,g⟩,h⟩ (some d) r=if d<n then⟨⟨n,(d,r)::l,g⟩,h⟩else⟨⟨n,l,g⟩,h⟩:=by
 by_cases hd:d<n<;>simp[pt,Ca,hd]
theorem ZK(s:St)(r:AV):pt s none r=s:=rfl
theorem cO(s:CI)(t:Nat):get s (.tmp t)=look s.l t:=rfl
theorem V2(s:CI)(x:Value):get s (.const x)=dN x:=rfl
theorem Td(s:CI)(k:Nat):get s (.global k)=look s.g k:=rfl
theorem XC(s:CI)(f:Nat):get s (.func f)=.v (.func (.func f) #[] #[]):=rfl
theorem VJ(d:Nat)(r:AV)(l:List (Nat×AV))(t:Nat):look ((d,r)::l) t=if d=t then r else look l t:=rfl
theorem look_nil(t:Nat):look [] t=.bad:=rfl
abbrev SV:=Option (Prop×AV)
abbrev SS:=Option (Prop×St)
def E0(r:AV):SV:=some (True,r)
def H0(op:BinOp)(k:IntKind)(a b:Int):SV:=
 match op with
 |.add=>E0 (.v (.int k (k.wrap (a+b))))
 |.sub=>E0 (.v (.int k (k.wrap (a-b))))
 |.mul=>E0 (.v (.int k (k.wrap (a * b))))
 |.quo=>some (b≠0,.v (.int k (k.wrap (a.tdiv b))))
 |.rem=>some (b≠0,.v (.int k (a.tmod b)))
 |.and=>E0 (.v (.int k (k.wrap (BitVec.ofInt k.bits a &&& BitVec.ofInt k.bits b).toNat)))
 |.or=>E0 (.v (.int k (k.wrap (BitVec.ofInt k.bits a ||| BitVec.ofInt k.bits b).toNat)))
 |.xor=>E0 (.v (.int k (k.wrap (BitVec.ofInt k.bits a ^^^ BitVec.ofInt k.bits b).toNat)))
 |.andNot=>E0 (.v (.int k (k.wrap (BitVec.ofInt k.bits a &&& ~~~BitVec.ofInt k.bits b).toNat)))
 |.eql=>E0 (.v (.bool (a==b)))
 |.neq=>E0 (.v (.bool (a != b)))
 |.lss=>E0 (.v (.bool (decide (a<b))))
 |.leq=>E0 (.v (.bool (decide (a≤b))))
 |.gtr=>E0 (.v (.bool (decide (b<a))))
 |.geq=>E0 (.v (.bool (decide (b≤a))))
 |.shl=>some (0≤b,.v (.int k (k.wrap (a * 2^min b.toNat k.bits))))
 |.shr=>some (0≤b,.v (.int k (a.fdiv (2^min b.toNat k.bits))))
def KT(op:BinOp)(a b:Nat):SV:=
 match op with
 |.add=>E0 (DZ (FloatKind.f64.format.add a b))
 |.sub=>E0 (DZ (FloatKind.f64.format.sub a b))
 |.mul=>E0 (DZ (FloatKind.f64.format.mul a b))
 |.quo=>E0 (DZ (FloatKind.f64.format.div a b))
 |.eql=>E0 (.v (.bool (FloatKind.f64.format.order a b==some .eq)))
 |.neq=>E0 (.v (.bool (FloatKind.f64.format.order a b != some .eq)))
 |.lss=>E0 (.v (.bool (FloatKind.f64.format.order a b==some .lt)))
 |.leq=>E0 (.v (.bool (FloatKind.f64.format.order a b==some .lt || FloatKind.f64.format.order a b==some .eq)))
 |.gtr=>E0 (.v (.bool (FloatKind.f64.format.order a b==some .gt)))
 |.geq=>E0 (.v (.bool (FloatKind.f64.format.order a b==some .gt || FloatKind.f64.format.order a b==some .eq)))
 |_=>none
def Iu(op:BinOp):SV:=
 match op with
 |.add|.sub|.mul|.quo=>E0 .nan
 |.neq=>E0 (.v (.bool true))
 |.eql|.lss|.leq|.gtr|.geq=>E0 (.v (.bool false))
 |_=>none
def NX(op:BinOp)(x y:ByteArray):SV:=
 match op with
 |.add=>some (x.data.toList.length+y.data.toList.length≤9223372036854775807,.v (.string ⟨(x.data.toList++y.data.toList).toArray⟩))
 |.eql=>E0 (.v (.bool (x.data.toList==y.data.toList)))
 |.neq=>E0 (.v (.bool (!(x.data.toList==y.data.toList))))
 |.lss=>E0 (.v (.bool (Op.bytesLess x.data.toList y.data.toList)))
 |.leq=>E0 (.v (.bool (Op.bytesLess x.data.toList y.data.toList || x.data.toList==y.data.toList)))
 |.gtr=>E0 (.v (.bool !(Op.bytesLess x.data.toList y.data.toList || x.data.toList==y.data.toList)))
 |.geq=>E0 (.v (.bool !Op.bytesLess x.data.toList y.data.toList))
 |_=>none
def OU(op:BinOp)(a b:Bool):SV:=
 match op with
 |.eql=>E0 (.v (.bool (a==b)))
 |.neq=>E0 (.v (.bool (!(a==b))))
 |_=>none
def Lj(op:BinOp)(same:Bool):SV:=
 match op with
 |.eql=>E0 (.v (.bool same))
 |.neq=>E0 (.v (.bool (!same)))
 |_=>none
def ZW(op:BinOp)(a b c d:Nat):SV:=
 match op with
 |.eql=>E0 (.v (.bool (L7 a b c d)))
 |.neq=>E0 (.v (.bool (!(L7 a b c d))))
 |_=>none
def HR(P:Program)(op:BinOp)(t:TypeId)(c:Bool):AV→AV→SV
 |.v (.int k a),.v (.int k' b)=>if k=k'∨op=.shl∨op=.shr then H0 op k a b else none
 |.v (.float .f64 a),.v (.float .f64 b)=>KT op a b
 |.nan,.v (.float .f64 _)=>Iu op
 |.v (.float .f64 _),.nan=>Iu op
 |.nan,.nan=>Iu op
 |.v (.string a),.v (.string b)=>NX op a b
 |.v (.bool a),.v (.bool b)=>if isBoolT P t=true then OU op a b else none
 |.v .nilIface,.v .nilIface=>if c=true∧FU P t=some true then Lj op true else none
 |.ifc _ _,.v .nilIface=>if FU P t=some true then Lj op false else none
 |.v .nilIface,.ifc _ _=>if FU P t=some true then Lj op false else none
 |.ifc tx (.v (.int k a)),.ifc ty (.v (.int k' b))=>if FU P t=some true then (if tx=ty then (if k=k'∧C9 P tx=some k∧Z7 P tx=some true then Lj op (a==b)else none)else Lj op false)else none
 |.v (.complex .f64 a b),.v (.complex .f64 c d)=>ZW op a b c d
 |_,_=>none
where
 isBoolT (P:Program) (t:TypeId):Bool:=match P.underlying t with|some .bool=>true|_=>false
def ZG:UnOp→AV→SV
 |.not,.v (.bool b)=>E0 (.v (.bool (!b)))
 |.neg,.v (.int k n)=>E0 (.v (.int k (k.wrap (0-n))))
 |.neg,.v (.float .f64 b)=>E0 (.v (.float .f64 (Op.negFloat .f64 b)))
 |_,_=>none
def Lu(cs:List AV):Option AV:=cs[0]?
def Mp(P:Program)(t:TypeId)(cs:List AV):Option AV:=
 (AW P t).bind fun b=>if b=true then (Ap P t).bind fun n=>if n≤cs.length then some (.agg (cs.take n))else none else Lu cs
def FQ(h:List Aa)(i ver:Nat):Option Aa:=(h[i]?).bind fun k=>if ver=k.ver then some k else none
def Ih(P:Program)(t:TypeId)(h:List Aa):AV→Option AV
 |.ptr i ver off=>(FQ h i ver).bind fun k=>Mp P t (k.cells.drop off)
 |.ela _ cs=>Mp P t cs
 |_=>none
def I3(P:Program)(t:TypeId)(h:List Aa):AV→AV→Option (List Aa)
 |.ptr i ver off,x=>(FQ h i ver).bind fun k=>(flat x).bind fun cs=>if Ap P t=some cs.length∧off+cs.length≤k.cells.length then some (h.set i { k with cells:=Ao k.cells off cs })else none
 |_,_=>none
def Dm(P:Program)(t f:Nat)(h:List Aa):AV→Option AV
 |.ptr i ver off=>(Ak P t f).bind fun (o,ft)=>(Ap P ft).bind fun n=>if n≠0 then (FQ h i ver).bind fun _=>some (.ptr i ver (off+o))else none
 |.ela b cs=>(Ak P t f).bind fun (o,ft)=>(Ap P ft).bind fun n=>if n≠0 then some (.ela b (cs.drop o))else none
 |_=>none
def C5(P:Program)(t:Nat)(h:List Aa):AV→AV→SV
 |.sl b n _ cs,.v (.int _ i)=>(A5 P t).bind fun e=>(Ap P e).bind fun sz=>some (0≤i∧i<n,.ela b (cs.drop (i.toNat * sz)))
 |.own j ver n,.v (.int _ i)=>(FQ h j ver).bind fun _=>(A5 P t).bind fun e=>(Ap P e).bind fun sz=>some (0≤i∧i<n,.ptr j ver (i.toNat * sz))
 |.ptr j ver off,.v (.int _ i)=>(FQ h j ver).bind fun _=>(P4 P t).bind fun (n,e)=>(Ap P e).bind fun sz=>some (0≤i∧i<n,.ptr j ver (off+i.toNat * sz))
 |_,_=>none
def IA(P:Program)(t:Nat):AV→AV→SV
 |.v (.string s),.v (.int _ i)=>if CU P t=true then some (0≤i∧i<(s.data.toList.length:Int),.v (.int .u8 (j6 s i.toNat)))else none
 |.agg cs,.v (.int _ i)=>(P4 P t).bind fun (n,e)=>(Ap P e).bind fun sz=>(Mp P e (cs.drop (i.toNat * sz))).bind fun r=>some (0≤i∧i<n,r)
 |_,_=>none
def Fj:Option AV→Nat→Option (Prop×Nat)
 |none,d=>some (True,d)
 |some (.v (.int _ i)),_=>some (0≤i,i.toNat)
 |_,_=>none
def Fo(P:Program)(t:Nat)(h:List Aa)(lo hi:Option AV):AV→SV
 |.v (.string b)=>if CU P t=true then (Fj hi b.data.toList.length).bind fun (p,h)=>(Fj lo 0).bind fun (q,l)=>
   some (p∧h≤b.data.toList.length∧q∧l≤h,.v (.string ⟨((b.data.toList.take h).drop l).toArray⟩))else none
 |.sl b n m cs=>(A5 P t).bind fun e=>(Ap P e).bind fun sz=>(Fj hi n).bind fun (p,h)=>(Fj lo 0).bind fun (q,l)=>
   some (cs.length≤m * sz∧p∧h≤m∧q∧l≤h,.sl b (h-l) (m-l) (cs.drop (l * sz)))
 |.own i ver n=>(A5 P t).bind fun e=>(Ap P e).bind fun sz=>(FQ h i ver).bind fun _=>(Fj hi n).bind fun (p,h)=>(Fj lo 0).bind fun (q,l)=>
   some (p∧h≤n∧q∧l≤h∧l=0,.own i ver h)
 |.v (.slice none 0 0)=>(A5 P t).bind fun e=>(Ap P e).bind fun sz=>(Fj hi 0).bind fun (p,h)=>(Fj lo 0).bind fun (q,l)=>
   some (p∧h≤0∧q∧l≤h,.v (.slice none 0 0))
 |_=>none
def NN(h:List Aa)(sz:Nat):AV→Option (Prop×Nat×List AV)
 |.sl _ n _ cs=>some (n * sz≤cs.length,n,cs.take (n * sz))
 |.own i ver n=>(FQ h i ver).bind fun k=>some (n * sz≤k.cells.length,n,k.cells.take (n * sz))
 |.v (.slice none 0 0)=>some (True,0,[])
 |.v (.string b)=>if sz=1 then some (True,b.data.toList.length,b.data.toList.map Ai)else none
 |_=>none
def Jz(h:List Aa)(e sz by':Nat)(p:Prop)(n:Nat)(new:List AV):AV→Option (Prop×AV×List Aa)
 |.v (.slice none 0 0)=>if n=0 then some (p∧new.all Cd=true,.v (.slice none 0 0),h)else some (p∧new.all Cd=true∧n * by'≤140737488355328,.own h.length 0 n,h++[⟨0,e,new⟩])
 |.own i ver m=>(FQ h i ver).bind fun k=>if k.e=e then some (p∧new.all Cd=true∧m * sz≤k.cells.length∧(m+n) * by'≤140737488355328,.own i (ver+1) (m+n),h.set i ⟨ver+1,e,k.cells.take (m * sz)++new⟩)else none
 |_=>none
def Jk(P:Program)(ts:Array TypeId)(h:List Aa)(x y:AV):Option (Prop×AV×List Aa):=
 (ts[0]?).bind fun t=>(ts[1]?).bind fun t2=>if C9 P t2=none∧(P.underlying t2).isSome=true then
  (A5 P t).bind fun e=>(Ap P e).bind fun sz=>(FW P e).bind fun by'=>(zeroT P e).bind fun z=>
   if (zeroCells z).length=sz∧0<sz∧0<by' then (NN h sz y).bind fun (p,n,new)=>Jz h e sz by' p n new x else none
 else none
def Im(place:Nat→Option (Nat×Nat)):List (Nat×AV)→List AV→Option (List AV)
 |[],l=>some l
 |(i,x)::r,l=>(place i).bind fun (o,n)=>(flat x).bind fun cs=>if cs.length=n∧o+n≤l.length then Im place r (Ao l o cs)else none
def KI(P:Program)(t:TypeId)(ps:List (Nat×AV)):Option AV:=
 (zeroT P t).bind fun z=>match BR P t with
  |some pl=>(Im (pl[·]?) ps (zeroCells z)).map .agg
  |none=>(P4 P t).bind fun (_,e)=>(Ap P e).bind fun sz=>(Im (fun i=>some (i * sz,sz)) ps (zeroCells z)).map .agg
def Db(P:Program)(t:TypeId)(len:Nat)(ps:List (Nat×AV))(h:List Aa):Option (AV×List Aa):=
 (A5 P t).bind fun e=>(Ap P e).bind fun sz=>(zeroT P e).bind fun z=>
  if (zeroCells z).length=sz∧0<sz∧len * sz≤16777216 then (Im (fun i=>some (i * sz,sz)) ps (Hd z len)).map fun l=>(.own h.length 0 len,h++[⟨0,e,l⟩])else none
def E3(P:Program)(t:TypeId)(h:List Aa):AV→AV→Option (Prop×AV×List Aa)
 |.v (.int _ n),.v (.int _ c)=>(A5 P t).bind fun e=>(Ap P e).bind fun sz=>(FW P e).bind fun by'=>(zeroT P e).bind fun z=>
   if (zeroCells z).length=sz∧0<sz then some (0≤n∧n≤c∧c<9223372036854775808∧c * by'≤140737488355328,.own h.length 0 n.toNat,h++[⟨0,e,Hd z c.toNat⟩])else none
 |_,_=>none
def strOf(cs:List AV):Option AV:=(DN cs).map fun l=>.v (.string ⟨l.toArray⟩)
def C7(P:Program)(src dst:TypeId)(h:List Aa):AV→Option (Prop×AV×List Aa)
 |.v (.int _ n)=>if (P.underlying src).isSome=true then
   (match C9 P dst with
    |some k=>some (True,.v (.int k (k.wrap n)),h)
    |none=>if J7 P dst=some .f64 then some (True,.v (.float .f64 (FloatKind.f64.nearest n)),h)else if CU P dst=true then some (True,.v (.string (Utf8.encode n)),h)else none)else none
 |.v (.float .f64 b)=>if (P.underlying src).isSome=true then (C9 P dst).bind fun k=>(jR b k).map fun n=>(True,.v (.int k n),h)else none
 |.v (.string b)=>if CU P dst=true then (if (P.underlying src).isSome=true then some (True,.v (.string b),h)else none)else
   (A5 P dst).bind fun e=>if CU P src=true∧C9 P e=some .u8∧Ap P e=some 1 then some (b.data.toList.length<4611686018427387904,.own h.length 0 b.data.toList.length,h++[⟨0,e,b.data.toList.map Ai⟩])else none
 |.sl _ n _ cs=>if CU P dst=true∧(A5 P src).bind (C9 P)=some .u8 then (strOf (cs.take n)).map fun r=>(n≤cs.length,r,h)else none
 |.own i ver n=>if CU P dst=true∧(A5 P src).bind (C9 P)=some .u8 then (FQ h i ver).bind fun k=>(strOf (k.cells.take n)).map fun r=>(n≤k.cells.length,r,h)else none
 |.v (.slice none 0 0)=>if CU P dst=true∧(A5 P src).bind (C9 P)=some .u8 then some (True,.v (.string ⟨#[]⟩),h)else none
 |_=>none
def Dr(P:Program)(t:TypeId)(h:List Aa):AV→Option AV
 |.v (.string b)=>if CU P t=true then some (.v (.int .i64 b.data.toList.length))else none
 |.v (.slice none 0 0)=>if (A5 P t).isSome=true then some (.v (.int .i64 0))else none
 |.sl _ n _ _=>if (A5 P t).isSome=true then some (.v (.int .i64 n))else none
 |.own i ver n=>if (A5 P t).isSome=true then (FQ h i ver).bind fun _=>some (.v (.int .i64 n))else none
 |_=>none
def H5(i:Nat):AV→Option AV
 |.tup cs=>cs[i]?
 |_=>none
def KE(P:Program)(t f:Nat):AV→Option AV
 |.agg cs=>(Ak P t f).bind fun (o,ft)=>Mp P ft (cs.drop o)
 |_=>none
def DK(s:St)(d:Option Tmp)(r:Option AV):SS:=r.map fun r=>(True,pt s d r)
def IY(s:St)(d:Option Tmp)(r:SV):SS:=r.map fun r=>(r.1,pt s d r.2)
def HD(s:St)(d:Option Tmp)(r:Option (Prop×AV×List Aa)):SS:=r.map fun r=>(r.1,pt { s with h:=r.2.2 } d r.2.1)
def Ee(P:Program):Callee→List Operand→Array TypeId→St→Option Tmp→SS
 |.builtin .len,x::_,ts,s,d=>(ts[0]?).bind fun t=>DK s d (Dr P t s.h (get s.s x))
 |.builtin .append,[x,y],ts,s,d=>HD s d (Jk P ts s.h (get s.s x) (get s.s y))
 |.builtin .real,[x],_,s,d=>DK s d (Il false (get s.s x))
 |.builtin .imag,[x],_,s,d=>DK s d (Il true (get s.s x))
 |.builtin .complex,[x,y],_,s,d=>DK s d (Nl (get s.s x) (get s.s y))
 |.builtin .max,[x,y],_,s,d=>DK s d (Uc (get s.s x) (get s.s y))
 |_,_,_,_,_=>none
def Ex(P:Program)(o:Oper)(s:St):SS:=
 match o.op with
 |.move x|.assign x=>DK s o.dst (some (get s.s x))
 |.alloc t=>(zeroT P t).bind fun z=>HD s o.dst (some (True,.ptr s.h.length 0 0,s.h++[⟨0,t,zeroCells z⟩]))
 |.box t x=>(flat (get s.s x)).bind fun cs=>HD s o.dst (some (True,.ptr s.h.length 0 0,s.h++[⟨0,t,cs⟩]))
 |.build t ps=>DK s o.dst (KI P t (ps.toList.map fun (i,x)=>(i,get s.s x)))
 |.buildSlice t n ps=>HD s o.dst ((Db P t n (ps.toList.map fun (i,x)=>(i,get s.s x)) s.h).map fun (r,h)=>(True,r,h))
 |.load t a=>DK s o.dst (Ih P t s.h (get s.s a))
 |.store t a x=>(I3 P t s.h (get s.s a) (get s.s x)).map fun h=>(True,pt { s with h } o.dst .bad)
 |.nilCheck x=>(match get s.s x with
  |.ptr i ver off=>(FQ s.h i ver).bind fun _=>DK s o.dst (some (.ptr i ver off))
  |.ela b cs=>DK s o.dst (some (.ela b cs))
  |_=>none)
 |.binOp op t x y _=>IY s o.dst (HR P op t (isConst x || isConst y) (get s.s x) (get s.s y))
 |.unOp op _ x=>IY s o.dst (ZG op (get s.s x))
 |.convert a b x=>HD s o.dst (C7 P a b s.h (get s.s x))
 |.makeInterface t x=>if FU P t=some false then DK s o.dst (some (.ifc t (get s.s x)))else none
 |.makeSlice t l c=>HD s o.dst (E3 P t s.h (get s.s l) (get s.s c))
 |.slice t x lo hi none=>IY s o.dst (Fo P t s.h (lo.map (get s.s)) (hi.map (get s.s)) (get s.s x))
 |.fieldAddr t x f=>DK s o.dst (Dm P t f s.h (get s.s x))
 |.field t x f=>DK s o.dst (KE P t f (get s.s x))
 |.indexAddr t x i=>IY s o.dst (C5 P t s.h (get s.s x) (get s.s i))
 |.index t x i=>IY s o.dst (IA P t (get s.s x) (get s.s i))
 |.extract t i=>DK s o.dst (H5 i (get s.s t))
 |.call c=>Ee P c.callee c.args.toList c.argTypes s o.dst
 |_=>none
theorem Cy{h:List Aa}{i ver:Nat}{k:Aa}(e:FQ h i ver=some k):h[i]?=some k∧ver=k.ver:=by
 unfold FQ at e;cases hh:h[i]? with
 |none=>simp[hh]at e
 |some k'=>simp[hh]at e;obtain⟨e1,rfl⟩:=e;exact⟨rfl,e1⟩
theorem Kf{P:Program}{t:TypeId}{cs:List AV}{r:AV}(e:Mp P t cs=some r){K:AV→Prop}(hk:K r):Ii P t cs K:=by
 unfold Mp at e;unfold Ii;cases ha:AW P t with
 |none=>simp[ha]at e
 |some b=>
  cases b with
  |true=>
   cases hs:Ap P t with
   |none=>simp[ha,hs]at e
   |some n=>
    simp[ha,hs]at e;obtain⟨e1,rfl⟩:=e;exact⟨n,rfl,e1,hk⟩
  |false=>simp[ha,Lu]at e;exact⟨r,e,hk⟩
theorem QB{P:Program}{t:TypeId}{s:St}{x r:AV}(e:Ih P t s.h x=some r){K:AV→Prop}(hk:K r):MP P t s x K:=by
 unfold Ih at e
 split at e
 ·rename_i i ver off;obtain⟨k,hb,e⟩:=BK.1 e;obtain⟨h1,h2⟩:=Cy hb;exact⟨k,h1,h2,Kf e hk⟩
 ·exact Kf e hk
 ·cases e
theorem Zv{P:Program}{t:TypeId}{ox oy:Operand}{op:BinOp}{k k':IntKind}{a b:Int}{p:Prop}{r:AV}(hk':k=k'∨op=.shl∨op=.shr)(e:H0 op k a b=some (p,r))(hp:p){K:AV→Prop}(hk:K r):
  Wk P op t ox oy (.v (.int k a)) (.v (.int k' b)) K:=by
 cases op<;>simp only[H0,E0,Option.some.injEq,Prod.mk.injEq]at e<;>obtain⟨rfl,rfl⟩:=e<;>simp only[Wk,P3,cW]<;>simp_all
theorem bN{P:Program}{op:BinOp}{t:TypeId}{ox oy:Operand}{x y r:AV}{p:Prop}(e:HR P op t (isConst ox || isConst oy) x y=some (p,r))(hp:p){K:AV→Prop}(hk:K r):Wk P op t ox oy x y K:=by
 unfold HR at e
 split at e
 ·split at e
  ·rename_i hc;exact Zv hc e hp hk
  ·cases e
 ·cases op<;>simp only[KT,E0,Option.some.injEq,Prod.mk.injEq,seval]at e<;>obtain⟨rfl,rfl⟩:=e<;>exact hk
 ·cases op<;>simp only[Iu,E0,Option.some.injEq,Prod.mk.injEq,seval]at e<;>obtain⟨rfl,rfl⟩:=e<;>exact hk
 ·cases op<;>simp only[Iu,E0,Option.some.injEq,Prod.mk.injEq,seval]at e<;>obtain⟨rfl,rfl⟩:=e<;>exact hk
 ·cases op<;>simp only[Iu,E0,Option.some.injEq,Prod.mk.injEq,seval]at e<;>obtain⟨rfl,rfl⟩:=e<;>exact hk
 ·cases op<;>simp only[NX,E0,Option.some.injEq,Prod.mk.injEq,seval]at e<;>obtain⟨rfl,rfl⟩:=e<;>first|exact hk|exact⟨hp,hk⟩
 ·split at e
  ·rename_i hb
   have hb':P.underlying t=some .bool:=by
    unfold HR.isBoolT at hb
    split at hb
    ·assumption
    ·cases hb
   cases op<;>simp only[OU,E0,Option.some.injEq,Prod.mk.injEq,seval]at e<;>obtain⟨rfl,rfl⟩:=e<;>exact⟨hb',hk⟩
  ·cases e
 ·split at e
  ·rename_i hc;cases op<;>simp only[Lj,E0,Option.some.injEq,Prod.mk.injEq,seval]at e<;>obtain⟨rfl,rfl⟩:=e<;>exact⟨hc.1,hc.2,hk⟩
  ·cases e
 ·split at e
  ·rename_i hc;cases op<;>simp only[Lj,E0,Option.some.injEq,Prod.mk.injEq,seval]at e<;>obtain⟨rfl,rfl⟩:=e<;>exact⟨hc,hk⟩
  ·cases e
 ·split at e
  ·rename_i hc;cases op<;>simp only[Lj,E0,Option.some.injEq,Prod.mk.injEq,seval]at e<;>obtain⟨rfl,rfl⟩:=e<;>exact⟨hc,hk⟩
  ·cases e
 ·split at e
  ·rename_i hc
   split at e
   ·rename_i hty
    split at e
    ·rename_i hk2;cases op<;>simp only[Lj,E0,Option.some.injEq,Prod.mk.injEq,seval]at e<;>obtain⟨rfl,rfl⟩:=e<;>exact⟨hc,.inr ⟨hty,hk2.1,hk2.2.1,hk2.2.2,hk⟩⟩
    ·cases e
   ·rename_i hty;cases op<;>simp only[Lj,E0,Option.some.injEq,Prod.mk.injEq,seval]at e<;>obtain⟨rfl,rfl⟩:=e<;>exact⟨hc,.inl ⟨hty,hk⟩⟩
  ·cases e
 ·cases op<;>simp only[ZW,E0,Option.some.injEq,Prod.mk.injEq,seval]at e<;>obtain⟨rfl,rfl⟩:=e<;>exact hk
 ·cases e
theorem gN{op:UnOp}{x r:AV}{p:Prop}(e:ZG op x=some (p,r))(hp:p){K:AV→Prop}(hk:K r):lM op x K:=by
 unfold ZG at e
 split at e<;>first|cases e;done|(simp only[E0,Option.some.injEq,Prod.mk.injEq]at e;obtain⟨rfl,rfl⟩:=e;exact hk)
theorem W8{P:Program}{t:TypeId}{s:St}{x y:AV}{h:List Aa}(e:I3 P t s.h x y=some h){K:St→Prop}(hk:K { s with h }):PJ P t s x y K:=by
 unfold I3 at e
 split at e
 ·obtain⟨k,hb,e⟩:=BK.1 e;obtain⟨cs,hf,e⟩:=BK.1 e;obtain⟨h1,h2⟩:=Cy hb
  split at e
  ·rename_i hc;cases e;exact⟨k,cs,h1,h2,hf,hc.1,hc.2,hk⟩
  ·cases e
 ·cases e
theorem Oe{P:Program}{t f:Nat}{s:St}{x r:AV}(e:Dm P t f s.h x=some r){K:AV→Prop}(hk:K r):JP P t s x f K:=by
 unfold Dm at e
 split at e
 ·obtain⟨⟨o,ft⟩,h1,e⟩:=BK.1 e;obtain⟨n,h2,e⟩:=BK.1 e
  split at e
  ·rename_i hn;obtain⟨k,hb,e⟩:=BK.1 e;cases e;exact⟨o,ft,n,h1,h2,hn,⟨k,(Cy hb).1,(Cy hb).2⟩,hk⟩
  ·cases e
 ·obtain⟨⟨o,ft⟩,h1,e⟩:=BK.1 e;obtain⟨n,h2,e⟩:=BK.1 e
  split at e
  ·rename_i hn;cases e;exact⟨o,ft,n,h1,h2,hn,hk⟩
  ·cases e
 ·cases e
theorem NR{P:Program}{t:Nat}{s:St}{x y r:AV}{p:Prop}(e:C5 P t s.h x y=some (p,r))(hp:p){K:AV→Prop}(hk:K r):HE P t s x y K:=by
 unfold C5 at e
 split at e
 ·obtain⟨e',h1,e⟩:=BK.1 e;obtain⟨sz,h2,e⟩:=BK.1 e;cases e;exact⟨e',sz,h1,h2,hp.1,hp.2,hk⟩
 ·obtain⟨k,hb,e⟩:=BK.1 e;obtain⟨e',h1,e⟩:=BK.1 e;obtain⟨sz,h2,e⟩:=BK.1 e;cases e;exact⟨k,e',sz,(Cy hb).1,(Cy hb).2,h1,h2,hp.1,hp.2,hk⟩
 ·obtain⟨k,hb,e⟩:=BK.1 e;obtain⟨⟨n,e'⟩,h1,e⟩:=BK.1 e;obtain⟨sz,h2,e⟩:=BK.1 e;cases e;exact⟨⟨k,(Cy hb).1,(Cy hb).2⟩,n,e',sz,h1,h2,hp.1,hp.2,hk⟩
 ·cases e
theorem WH{P:Program}{t:Nat}{x y r:AV}{p:Prop}(e:IA P t x y=some (p,r))(hp:p){K:AV→Prop}(hk:K r):PS P t x y K:=by
 unfold IA at e
 split at e
 ·split at e
  ·rename_i hs;cases e;exact⟨hs,hp.1,hp.2,hk⟩
  ·cases e
 ·obtain⟨⟨n,e'⟩,h1,e⟩:=BK.1 e;obtain⟨sz,h2,e⟩:=BK.1 e;obtain⟨r',h3,e⟩:=BK.1 e;cases e;exact⟨n,e',sz,h1,h2,hp.1,hp.2,Kf h3 hk⟩
 ·cases e
theorem ED{x:Option AV}{d n:Nat}{p:Prop}(e:Fj x d=some (p,n))(hp:p){K:Nat→Prop}(hk:K n):Ff x d K:=by
 unfold Fj at e
 split at e
 ·cases e;exact hk
 ·cases e;exact⟨hp,hk⟩
 ·cases e
theorem V4{P:Program}{t:Nat}{s:St}{x r:AV}{lo hi:Option AV}{p:Prop}(e:Fo P t s.h lo hi x=some (p,r))(hp:p){K:AV→Prop}(hk:K r):Tu P t s x lo hi none K:=by
 refine⟨rfl,?_⟩;unfold Fo at e
 split at e
 ·split at e
  ·rename_i hs;obtain⟨⟨p1,h⟩,h1,e⟩:=BK.1 e;obtain⟨⟨q1,l⟩,h2,e⟩:=BK.1 e;cases e;exact⟨hs,ED h1 hp.1 ⟨hp.2.1,ED h2 hp.2.2.1 ⟨hp.2.2.2,hk⟩⟩⟩
  ·cases e
 ·obtain⟨e',g1,e⟩:=BK.1 e;obtain⟨sz,g2,e⟩:=BK.1 e;obtain⟨⟨p1,h⟩,h1,e⟩:=BK.1 e;obtain⟨⟨q1,l⟩,h2,e⟩:=BK.1 e;cases e;exact⟨e',sz,g1,g2,hp.1,ED h1 hp.2.1 ⟨hp.2.2.1,ED h2 hp.2.2.2.1 ⟨hp.2.2.2.2,hk⟩⟩⟩
 ·obtain⟨e',g1,e⟩:=BK.1 e;obtain⟨sz,g2,e⟩:=BK.1 e;obtain⟨k,hb,e⟩:=BK.1 e;obtain⟨⟨p1,h⟩,h1,e⟩:=BK.1 e;obtain⟨⟨q1,l⟩,h2,e⟩:=BK.1 e;cases e;exact⟨e',k,sz,g1,g2,(Cy hb).1,(Cy hb).2,ED h1 hp.1 ⟨hp.2.1,ED h2 hp.2.2.1 ⟨hp.2.2.2.1,hp.2.2.2.2,hk⟩⟩⟩
 ·obtain⟨e',g1,e⟩:=BK.1 e;obtain⟨sz,g2,e⟩:=BK.1 e;obtain⟨⟨p1,h⟩,h1,e⟩:=BK.1 e;obtain⟨⟨q1,l⟩,h2,e⟩:=BK.1 e;cases e;exact⟨e',sz,g1,g2,ED h1 hp.1 ⟨hp.2.1,ED h2 hp.2.2.1 ⟨hp.2.2.2,hk⟩⟩⟩
 ·cases e
theorem aP{s:St}{sz n:Nat}{y:AV}{new:List AV}{p:Prop}(e:NN s.h sz y=some (p,n,new))(hp:p){K:Nat→List AV→Prop}(hk:K n new):Z2 s sz y K:=by
 unfold NN at e
 split at e
 ·cases e;exact⟨hp,hk⟩
 ·obtain⟨k,hb,e⟩:=BK.1 e;cases e;exact⟨k,(Cy hb).1,(Cy hb).2,hp,hk⟩
 ·cases e;exact hk
 ·split at e
  ·cases e;rename_i h;exact⟨h,hk⟩
  ·cases e
 ·cases e
theorem aC{h:List Aa}{e sz by' n:Nat}{p q:Prop}{new:List AV}{x r:AV}{h':List Aa}(hh:Jz h e sz by' p n new x=some (q,r,h'))(hq:q):p:=by
 unfold Jz at hh
 split at hh
 ·split at hh<;>(cases hh;exact hq.1)
 ·obtain⟨k,hb,hh⟩:=BK.1 hh
  split at hh
  ·cases hh;exact hq.1
  ·cases hh
 ·cases hh
theorem XS{s:St}{e sz by' n:Nat}{p q:Prop}{new:List AV}{x r:AV}{h':List Aa}(hh:Jz s.h e sz by' p n new x=some (q,r,h'))(hq:q){K:AV→St→Prop}(hk:K r { s with h:=h' }):new.all Cd=true∧YC s e sz by' n new K x:=by
 unfold Jz at hh
 split at hh
 ·split at hh
  ·rename_i hn;cases hh;exact⟨hq.2,.inl ⟨hn,hk⟩⟩
  ·rename_i hn;cases hh;exact⟨hq.2.1,.inr ⟨Nat.pos_of_ne_zero hn,hq.2.2,hk⟩⟩
 ·obtain⟨k,hb,hh⟩:=BK.1 hh
  split at hh
  ·rename_i hke;cases hh;exact⟨hq.2.1,k,(Cy hb).1,(Cy hb).2,hke,hq.2.2.1,.inr ⟨hq.2.2.2,hk⟩⟩
  ·cases hh
 ·cases hh
theorem Ug{P:Program}{ts:Array TypeId}{s:St}{x y r:AV}{h:List Aa}{p:Prop}(e:Jk P ts s.h x y=some (p,r,h))(hp:p){K:AV→St→Prop}(hk:K r { s with h }):Pq P ts s x y K:=by
 unfold Jk at e;obtain⟨t,h1,e⟩:=BK.1 e;obtain⟨t2,h2,e⟩:=BK.1 e
 split at e
 ·rename_i hi;obtain⟨e',h3,e⟩:=BK.1 e;obtain⟨sz,h4,e⟩:=BK.1 e;obtain⟨by',h5,e⟩:=BK.1 e;obtain⟨z,h6,e⟩:=BK.1 e
  split at e
  ·rename_i hz;obtain⟨⟨p1,n,new⟩,h7,e⟩:=BK.1 e;refine⟨t,t2,e',sz,by',z,h6,hz.1,h1,h2,hi.1,hi.2,h3,h4,h5,hz.2.1,hz.2.2,?_⟩;exact aP h7 (aC e hp) (XS e hp hk)
  ·cases e
 ·cases e
theorem Ko{place:Nat→Option (Nat×Nat)}{s:CI}:∀ {ps:List (Nat×Operand)} {l r:List AV},Im place (ps.map fun (i,x)=>(i,get s x)) l=some r→∀ {K:List AV→Prop},K r→O0 place (get s) ps l K
 |[],l,r,e,K,hk=>by cases e;exact hk
 |(i,x)::ps,l,r,e,K,hk=>by
  simp only[BA,Im]at e;obtain⟨⟨o,n⟩,h1,e⟩:=BK.1 e;obtain⟨cs,h2,e⟩:=BK.1 e
  split at e
  ·rename_i hc;exact⟨o,n,cs,h1,h2,hc.1,hc.2,Ko e hk⟩
  ·cases e
theorem VZ{P:Program}{t:TypeId}{ps:Array (Nat×Operand)}{s:CI}{r:AV}(e:KI P t (ps.toList.map fun (i,x)=>(i,get s x))=some r){K:AV→Prop}(hk:K r):TN P t ps (get s) K:=by
 unfold KI at e;obtain⟨z,hz,e⟩:=BK.1 e;refine⟨z,hz,?_⟩
 split at e
 ·rename_i pl hp;obtain⟨l,h1,rfl⟩:=Option.map_eq_some_iff.1 e;exact .inl ⟨pl,hp,Ko h1 hk⟩
 ·obtain⟨⟨n,e'⟩,h1,e⟩:=BK.1 e;obtain⟨sz,h2,e⟩:=BK.1 e;obtain⟨l,h3,rfl⟩:=Option.map_eq_some_iff.1 e;exact .inr ⟨n,e',sz,h1,h2,Ko h3 hk⟩
theorem MQ{P:Program}{t len:Nat}{ps:Array (Nat×Operand)}{s:St}{r:AV}{h:List Aa}(e:Db P t len (ps.toList.map fun (i,x)=>(i,get s.s x)) s.h=some (r,h)){K:AV→St→Prop}(hk:K r { s with h }):IZ P t len ps (get s.s) s K:=by
 unfold Db at e;obtain⟨e',h1,e⟩:=BK.1 e;obtain⟨sz,h2,e⟩:=BK.1 e;obtain⟨z,h3,e⟩:=BK.1 e
 split at e
 ·rename_i hc;obtain⟨l,h4,e⟩:=Option.map_eq_some_iff.1 e;cases e;exact⟨e',sz,z,h1,h2,h3,hc.1,hc.2.1,hc.2.2,Ko h4 hk⟩
 ·cases e
theorem Ob{P:Program}{t:Nat}{s:St}{x y r:AV}{h:List Aa}{p:Prop}(e:E3 P t s.h x y=some (p,r,h))(hp:p){K:AV→St→Prop}(hk:K r { s with h }):HN P t x y s K:=by
 unfold E3 at e
 split at e
 ·obtain⟨e',h1,e⟩:=BK.1 e;obtain⟨sz,h2,e⟩:=BK.1 e;obtain⟨by',h3,e⟩:=BK.1 e;obtain⟨z,h4,e⟩:=BK.1 e
  split at e
  ·rename_i hc;cases e;exact⟨e',sz,by',z,h1,h2,h3,h4,hc.1,hc.2,hp.1,hp.2.1,hp.2.2.1,hp.2.2.2,hk⟩
  ·cases e
 ·cases e
theorem aK{P:Program}{t:Nat}{k:FloatKind}(h:J7 P t=some k):P.underlying t=some (.float k):=by
 unfold J7 at h
 split at h
 ·cases h;assumption
 ·cases h
theorem QG{cs:List AV}{r:AV}(e:strOf cs=some r):∃ l,DN cs=some l∧r=.v (.string ⟨l.toArray⟩):=by
 unfold strOf at e;obtain⟨l,h1,rfl⟩:=Option.map_eq_some_iff.1 e;exact⟨l,h1,rfl⟩
theorem RJ{P:Program}{src dst:Nat}{s:St}{x r:AV}{h:List Aa}{p:Prop}(e:C7 P src dst s.h x=some (p,r,h))(hp:p){K:AV→St→Prop}(hk:K r { s with h }):EP P src dst x s K:=by
 unfold C7 at e
 split at e
 ·split at e
  ·rename_i hs
   split at e
   ·rename_i k hk';cases e;simp only[EP,Jf hk'];exact⟨hs,hk⟩
   ·split at e
    ·rename_i hf;cases e;simp only[EP,aK hf];exact⟨hs,hk⟩
    ·split at e
     ·rename_i hst;cases e;simp only[EP,Gg hst];exact⟨hs,hk⟩
     ·cases e
  ·cases e
 ·split at e
  ·rename_i hs;obtain⟨k,h1,e⟩:=BK.1 e;obtain⟨n,h2,e⟩:=Option.map_eq_some_iff.1 e;cases e;exact⟨k,n,h1,hs,h2,hk⟩
  ·cases e
 ·split at e
  ·rename_i hd
   split at e
   ·rename_i hs;cases e;simp only[EP,Gg hd];exact⟨hs,hk⟩
   ·cases e
  ·obtain⟨e',h1,e⟩:=BK.1 e
   split at e
   ·rename_i hc;cases e;simp only[EP,CM h1];exact⟨hc.1,hc.2.1,hc.2.2,hp,hk⟩
   ·cases e
 ·split at e
  ·rename_i hc;obtain⟨r',h1,e⟩:=Option.map_eq_some_iff.1 e;cases e;obtain⟨l,h2,rfl⟩:=QG h1;exact⟨hc.1,hc.2,hp,l,h2,hk⟩
  ·cases e
 ·split at e
  ·rename_i hc;obtain⟨k,hb,e⟩:=BK.1 e;obtain⟨r',h1,e⟩:=Option.map_eq_some_iff.1 e;cases e;obtain⟨l,h2,rfl⟩:=QG h1;exact⟨k,(Cy hb).1,(Cy hb).2,hc.1,hc.2,hp,l,h2,hk⟩
  ·cases e
 ·split at e
  ·rename_i hc;cases e;exact⟨hc.1,hc.2,hk⟩
  ·cases e
 ·cases e
theorem ZZ{P:Program}{t:Nat}{ts:Array TypeId}(ht:ts[0]?=some t){s:St}{x r:AV}(e:Dr P t s.h x=some r){K:AV→Prop}(hk:K r):eC P ts s x K:=by
 refine⟨t,ht,?_⟩;unfold Dr at e
 split at e<;>(try split at e)<;>first
  |(cases e;done)
  |(cases e;rename_i h;exact⟨h,hk⟩)
  |(rename_i h
    obtain⟨k,hb,e⟩:=BK.1 e;cases e;exact⟨h,⟨k,(Cy hb).1,(Cy hb).2⟩,hk⟩)
theorem WX{P:Program}{o:Oper}{s s':St}{p:Prop}(e:Ex P o s=some (p,s'))(hp:p){K:St→Prop}(hk:K s'):kY P o s K:=by
 have rv:∀ {r:Option AV},DK s o.dst r=some (p,s')→∃ x,r=some x∧s'=pt s o.dst x:=fun {r} h=>by
  obtain⟨x,h1,h2⟩:=Option.map_eq_some_iff.1 h;cases h2;exact⟨x,h1,rfl⟩
 have rp:∀ {r:SV},IY s o.dst r=some (p,s')→∃ x,r=some (p,x)∧s'=pt s o.dst x:=fun {r} h=>by
  obtain⟨⟨q,x⟩,h1,h2⟩:=Option.map_eq_some_iff.1 h;cases h2;exact⟨x,h1,rfl⟩
 have rh:∀ {r:Option (Prop×AV×List Aa)},HD s o.dst r=some (p,s')→∃ x h,r=some (p,x,h)∧s'=pt { s with h } o.dst x:=fun {r} h=>by
  obtain⟨⟨q,x,h'⟩,h1,h2⟩:=Option.map_eq_some_iff.1 h;cases h2;exact⟨x,h',h1,rfl⟩
 unfold Ex at e;unfold kY
 split at e
 ·rename_i x ho;obtain⟨y,h1,rfl⟩:=rv e;cases h1;simp only[ho];exact hk
 ·rename_i x ho;obtain⟨y,h1,rfl⟩:=rv e;cases h1;simp only[ho];exact hk
 ·rename_i t ho;obtain⟨z,hz,e⟩:=BK.1 e;obtain⟨y,h,h1,rfl⟩:=rh e;cases h1;simp only[ho];exact⟨z,hz,hk⟩
 ·rename_i t x ho;obtain⟨z,hz,e⟩:=BK.1 e;obtain⟨y,h,h1,rfl⟩:=rh e;cases h1;simp only[ho];exact⟨z,hz,hk⟩
 ·rename_i t ps ho;obtain⟨y,h1,rfl⟩:=rv e;simp only[ho];exact VZ h1 hk
 ·rename_i t n ps ho;obtain⟨y,h,h1,rfl⟩:=rh e;obtain⟨⟨y',h'⟩,h2,h3⟩:=Option.map_eq_some_iff.1 h1;cases h3;simp only[ho];exact MQ h2 hk
 ·rename_i t x ho;obtain⟨y,h1,rfl⟩:=rv e;simp only[ho];exact QB h1 hk
 ·rename_i t x y ho;obtain⟨h,h1,h2⟩:=Option.map_eq_some_iff.1 e;cases h2;simp only[ho];exact W8 h1 hk
 ·rename_i x ho;simp only[ho]
  split at e
  ·rename_i hg;obtain⟨k,hb,e⟩:=BK.1 e;obtain⟨y,h1,rfl⟩:=rv e;cases h1;simp only[hg];exact⟨⟨k,(Cy hb).1,(Cy hb).2⟩,hk⟩
  ·rename_i hg;obtain⟨y,h1,rfl⟩:=rv e;cases h1;simp only[hg];exact hk
  ·cases e
 ·rename_i op t x y t2 ho;obtain⟨r,h1,rfl⟩:=rp e;simp only[ho];exact bN h1 hp hk
 ·rename_i op t x ho;obtain⟨r,h1,rfl⟩:=rp e;simp only[ho];exact gN h1 hp hk
 ·rename_i a b x ho;obtain⟨r,h,h1,rfl⟩:=rh e;simp only[ho];exact RJ h1 hp hk
 ·rename_i t x ho
  split at e
  ·rename_i ht;obtain⟨y,h1,rfl⟩:=rv e;cases h1;simp only[ho];exact⟨ht,hk⟩
  ·cases e
 ·rename_i t l c ho;obtain⟨r,h,h1,rfl⟩:=rh e;simp only[ho];exact Ob h1 hp hk
 ·rename_i t x lo hi ho;obtain⟨r,h1,rfl⟩:=rp e;simp only[ho];exact V4 h1 hp hk
 ·rename_i t x f ho;obtain⟨r,h1,rfl⟩:=rv e;simp only[ho];exact Oe h1 hk
 ·rename_i t x f ho;obtain⟨r,h1,rfl⟩:=rv e;simp only[ho];unfold KE at h1
  split at h1
  ·rename_i hg;obtain⟨⟨of,ft⟩,h2,h3⟩:=BK.1 h1;simp only[hg];exact⟨of,ft,h2,Kf h3 hk⟩
  ·cases h1
 ·rename_i t x i ho;obtain⟨r,h1,rfl⟩:=rp e;simp only[ho];exact NR h1 hp hk
 ·rename_i t x i ho;obtain⟨r,h1,rfl⟩:=rp e;simp only[ho];exact WH h1 hp hk
 ·rename_i t i ho;obtain⟨r,h1,rfl⟩:=rv e;simp only[ho];unfold H5 at h1
  split at h1
  ·rename_i hg;simp only[hg];exact⟨r,h1,hk⟩
  ·cases h1
 ·rename_i c ho;obtain⟨ce,⟨args⟩,ts⟩:=c;simp only[ho];cases ce with
  |value f=>cases e
  |invoke r m=>cases e
  |builtin b=>
   cases b with
   |len=>
    cases args with
    |nil=>cases e
    |cons x xs=>
     obtain⟨t,h2,e⟩:=BK.1 e;obtain⟨r,h3,rfl⟩:=rv e;exact⟨x,rfl,ZZ h2 h3 hk⟩
   |append=>
    match args,e with
    |[x,y],e=>
     obtain⟨r,h,h1,rfl⟩:=rh e;exact⟨x,y,rfl,Ug h1 hp hk⟩
   |real=>
    match args,e with
    |[x],e=>
     obtain⟨r,h1,rfl⟩:=rv e;exact⟨x,r,rfl,h1,hk⟩
   |imag=>
    match args,e with
    |[x],e=>
     obtain⟨r,h1,rfl⟩:=rv e;exact⟨x,r,rfl,h1,hk⟩
   |complex=>
    match args,e with
    |[x,y],e=>
     obtain⟨r,h1,rfl⟩:=rv e;exact⟨x,y,r,rfl,h1,hk⟩
   |max=>
    match args,e with
    |[x,y],e=>
     obtain⟨r,h1,rfl⟩:=rv e;exact⟨x,y,r,rfl,h1,hk⟩
   |_=>cases e
 ·cases e
def AH(r:SS)(K:St→Prop):Prop:=match r with
 |some (p,s)=>p∧K s
 |none=>False
theorem TU(p:Prop)(s:St)(K:St→Prop):AH (some (p,s)) K=(p∧K s):=rfl
def ET(b x y:AV)(d:Option Tmp)(K:St→Prop)(s:St):Prop:=match b with
 |.v (.bool z)=>(z=true→K (pt s d x))∧(z=false→K (pt s d y))
 |_=>False
theorem Tv(x y:AV)(d:Option Tmp)(K:St→Prop)(s:St):ET (.v (.bool true)) x y d K s=K (pt s d x):=by simp[ET]
theorem R4(x y:AV)(d:Option Tmp)(K:St→Prop)(s:St):ET (.v (.bool false)) x y d K s=K (pt s d y):=by simp[ET]
def B5(b:AV)(A B:St→Prop)(s:St):Prop:=match b with
 |.v (.bool z)=>(z=true→A s)∧(z=false→B s)
 |_=>False
theorem Tc(A B:St→Prop)(s:St):B5 (.v (.bool true)) A B s=A s:=by simp[B5]
theorem QT(A B:St→Prop)(s:St):B5 (.v (.bool false)) A B s=B s:=by simp[B5]
theorem B5.intro{z:Bool}{A B:St→Prop}{s:St}(h1:z=true→A s)(h2:z=false→B s):B5 (.v (.bool z)) A B s:=⟨h1,h2⟩
theorem ET.intro{z:Bool}{x y:AV}{d:Option Tmp}{K:St→Prop}{s:St}(h1:z=true→K (pt s d x))(h2:z=false→K (pt s d y)):ET (.v (.bool z)) x y d K s:=⟨h1,h2⟩
def Cb(b:AV)(want:Bool)(A B:St→Prop)(s:St):Prop:=match b with
 |.v (.bool z)=>(z=want→A s)∧(z≠want→B s)
 |.v (.tuple _)=>B s
 |_=>False
theorem Rm(u:Array Value)(want:Bool)(A B:St→Prop)(s:St):Cb (.v (.tuple u)) want A B s=B s:=rfl
theorem VN(A B:St→Prop)(s:St):Cb (.v (.bool true)) true A B s=A s:=by simp[Cb]
theorem Vk(A B:St→Prop)(s:St):Cb (.v (.bool false)) false A B s=A s:=by simp[Cb]
theorem Wx(A B:St→Prop)(s:St):Cb (.v (.bool true)) false A B s=B s:=by simp[Cb]
theorem Wf(A B:St→Prop)(s:St):Cb (.v (.bool false)) true A B s=B s:=by simp[Cb]
theorem Cb.intro_t{z:Bool}{A B:St→Prop}{s:St}(h1:z=true→A s)(h2:z=false→B s):Cb (.v (.bool z)) true A B s:=⟨h1,fun h=>h2 (by cases z<;>simp_all)⟩
theorem Cb.intro_f{z:Bool}{A B:St→Prop}{s:St}(h1:z=false→A s)(h2:z=true→B s):Cb (.v (.bool z)) false A B s:=⟨h1,fun h=>h2 (by cases z<;>simp_all)⟩
def Nc(d:Option Tmp)(K:St→Prop)(s:St):Prop:=K (pt s d (.v (.tuple #[])))
theorem Yv(d:Option Tmp)(K:St→Prop)(s:St):Nc d K s=K (pt s d (.v (.tuple #[]))):=rfl
def LH(P:Program)(g:FuncId)(xs:List AV)(r:AV):Prop:=
 ∀ (c:Cx) (w:World) (vs:Array Value),c.P=P→Ar xs c vs.toList→∃ u w',(callFunc g vs).run P w=.ok (.value u) w'∧Below w.heap.size w w'∧rel r c u
def Ae(P:Program)(g:FuncId)(xs:List AV)(d:Option Tmp)(K:St→Prop)(s:St):Prop:=
 ((∃ fn,P.funcs[g]?=some fn∧fn.body.isSome=true∧(fn.name == "runtime.NumGoroutine")=false)∧Zi P s g xs fun r=>K (pt s d r))∨
 ∃ r,LH P g xs r∧K (pt s d r)
def Al(P:Program)(g:FuncId):Prop:=∃ fn,P.funcs[g]?=some fn∧fn.body.isSome=true∧(fn.name == "runtime.NumGoroutine")=false
theorem Ae.intro{P:Program}{g:FuncId}{xs:List AV}{d:Option Tmp}{K:St→Prop}{s:St}(hb:Al P g)(ht:A4 xs=true){r:AV}(hev:Ev P s.s.g g xs r)(hk:K (pt s d r)):Ae P g xs d K s:=
 .inl ⟨hb,xs,r,.inl ⟨rfl,ht⟩,hev,hk⟩
theorem Ae.lend{P:Program}{g:FuncId}{xs:List AV}{d:Option Tmp}{K:St→Prop}{s:St}(hb:Al P g)(ys:List AV)(hz:EW P s.h true ys xs){r:AV}(hev:Ev P s.s.g g ys r)(hn:CJ r=true)(hk:K (pt s d r)):Ae P g xs d K s:=
 .inl ⟨hb,ys,r,.inr ⟨hz,hn⟩,hev,hk⟩
theorem Ae.ext{P:Program}{g:FuncId}{xs:List AV}{d:Option Tmp}{K:St→Prop}{s:St}{r:AV}(he:LH P g xs r)(hk:K (pt s d r)):Ae P g xs d K s:=.inr ⟨r,he,hk⟩
def TS(P:Program)(c:Code)(Q:AQ)(s:St):Prop:=
 ∀ (X:Fix) (φ:List Nat) (a:Act) (w:World),X.P=P→X.c0=none→SR X φ s a w→c.wp P (Qx X Q) a w
def B7(P:Program)(o:Oper)(K:St→Prop)(s:St):Prop:=
 match o.op with
 |.pick c a b=>ET (get s.s c) (get s.s a) (get s.s b) o.dst K s
 |.call ⟨.value (.func g),xs,_⟩=>Ae P g (xs.toList.map (get s.s)) o.dst K s
 |_=>AH (Ex P o s) K
def EG(P:Program)(ops:Array Oper):List Oper→(St→Prop)→St→Prop
 |[],K,s=>K s
 |o::os,K,s=>match o.guard with
  |none=>B7 P o (EG P ops os K) s
  |some (j,want)=>Cb (DG ops s j) want (B7 P o (EG P ops os K)) (Nc o.dst (EG P ops os K)) s
def Cq(Q:AQ)(s:St):Prop:=Q .normal s
theorem X3(Q:AQ)(s:St):Cq Q s=Q .normal s:=rfl
theorem Q2(K:St→Prop)(Q:AQ)(s:St):FJ K Q .normal s=K s:=rfl
theorem Wa(K:St→Prop)(Q:AQ)(s:St):FJ K Q .ret s=Q .ret s:=rfl
theorem TV(K:St→Prop)(Q:AQ)(i:Nat)(s:St):FJ K Q (.exit i) s=Q (.exit i) s:=rfl
theorem Ue(K:St→Prop)(Q:AQ)(i:Nat)(s:St):FJ K Q (.goto i) s=Q (.goto i) s:=rfl
theorem LB(id:Nat)(Q:AQ)(s:St):De id Q .normal s=Q .normal s:=rfl
theorem PV(id:Nat)(Q:AQ)(s:St):De id Q .ret s=Q .ret s:=rfl
theorem Oa(id i:Nat)(Q:AQ)(s:St):De id Q (.goto i) s=Q (.goto i) s:=rfl
theorem NH(id i:Nat)(Q:AQ)(s:St):De id Q (.exit i) s=if i=id then Q .normal s else Q (.exit i) s:=rfl
def Cg(R:Nat→St→Prop)(m:Nat)(s2:St):Prop:=∃ m' s3,s2.weak s3∧m'<m∧R m' s3
def Eg(F:AQ→St→Prop)(Q:AQ)(s:St):Prop:=
 ∃ (R:Nat→St→Prop) (n:Nat) (s0:St),s.weak s0∧R n s0∧∀ m s1,R m s1→F (FJ (Cg R m) Q) s1
def RR{α:Type}(mk:α→St)(inv:α→Prop)(μ:α→Nat)(n:Nat)(s:St):Prop:=∃ a,inv a∧s=mk a∧μ a=n
theorem Eg.intro{F:AQ→St→Prop}{Q:AQ}{s:St}{α:Type}(mk:α→St)(inv:α→Prop)(μ:α→Nat)(a0:α)(hw:s.weak (mk a0))(h0:inv a0)
  (round:∀ a,inv a→F (FJ (Cg (RR mk inv μ) (μ a)) Q) (mk a)):Eg F Q s:=
 ⟨RR mk inv μ,μ a0,mk a0,hw,⟨a0,h0,rfl,rfl⟩,fun m s1 ⟨a,h1,h2,h3⟩=>by subst h2;subst h3;exact round a h1⟩
theorem Cg.intro{α:Type}{mk:α→St}{inv:α→Prop}{μ:α→Nat}{n:Nat}{s2:St}(a:α)(h:inv a)(hw:s2.weak (mk a))(hm:μ a<n):Cg (RR mk inv μ) n s2:=
 ⟨μ a,mk a,hw,hm,a,h,rfl,rfl⟩
def J4(P:Program):Op→Bool
 |.move _|.assign _|.pick .. | .binOp .. | .unOp .. | .makeInterface .. | .field .. | .index .. | .extract .. | .load .. | .nilCheck .. | .slice .. | .fieldAddr .. | .indexAddr .. | .build .. =>false
 |.call c=>match c.callee with
  |.builtin .len|.builtin .real|.builtin .imag|.builtin .complex|.builtin .max=>false
  |.value (.func _)=>false
  |_=>true
 |.convert _ b _=> !(C9 P b).isSome
 |_=>true
def NG(P:Program):Op→Bool
 |.move _|.assign _|.pick .. | .binOp .. | .unOp .. | .makeInterface .. | .field .. | .index .. | .extract .. | .build .. =>false
 |.call c=>match c.callee with
  |.builtin .real|.builtin .imag|.builtin .complex|.builtin .max=>false
  |_=>true
 |.convert _ b _=> !(C9 P b).isSome
 |.slice t .. => !(CU P t)
 |_=>true
def Yb(P:Program)(o:Op):Bool:=NG P o || J4 P o
def Er(e:Edge):Bool:=Region.binds .any e
def D5(ops:Array Oper):List (List Nat):=
 ops.toList.foldl (fun tbl o=>tbl++[((o.after.toList.filter Er).flatMap fun e=>e.on::tbl.getD e.on []).eraseDups]) []
def Ln(ops:Array Oper)(tbl:List (List Nat)):Bool:=
 (List.range ops.size).all fun i=>match ops[i]? with
  |some o=>o.after.toList.all (fun e=> !Er e || decide (e.on<i))&&(tbl.getD i []).all fun j=>o.after.toList.any fun e=>Er e&&(e.on==j || (tbl.getD e.on []).contains j)
  |none=>true
def FP(P:Program)(ops:Array Oper)(x y:Oper):Bool:=
 (match x.dst with|some d=>(y.looksAt ops).contains d || y.dst==some d|none=>false) || (match y.dst with|some d=>(x.looksAt ops).contains d|none=>false) ||
  (J4 P x.op&&Yb P y.op) || (Yb P x.op&&J4 P y.op)
def Kn(P:Program)(ops:Array Oper)(tbl:List (List Nat)):Bool:=
 Ln ops tbl&&(List.range ops.size).all fun j=>(List.range j).all fun i=>match ops[i]?,ops[j]? with
  |some x,some y=> !FP P ops x y || (tbl.getD j []).contains i
  |_,_=>true
def Ts(P:Program)(ops:Array Oper):Bool:=Kn P ops (D5 ops)
def L9(P:Program)(ops:Array Oper)(K:St→Prop):Nat→Array Bool→St→Prop
 |0,listed,s=>Region.ready .any ops listed=[]∧K s
 |f+1,listed,s=>(Region.ready .any ops listed=[]→K s)∧
  ∀ i∈List.range ops.size,(Region.ready .any ops listed).contains i=true→∃ o,ops[i]?=some o∧o.guard=none∧B7 P o (fun s'=>L9 P ops K f (listed.setIfInBounds i true) s') s
def NV(s s':St):Prop:=s.s.n=s'.s.n∧s.s.g=s'.s.g∧s.h=s'.h∧∀ t,look s.s.l t=look s'.s.l t
def Kx(K:St→Prop)(s:St):Prop:=∃ s',NV s' s∧K s'
def Cp(P:Program)(ops:Array Oper)(Q:AQ)(s:St):Prop:=P.follows .mixedOrders=true∧((Ts P ops=true∧EG P ops ops.toList (Cq Q) s)∨L9 P ops (Cq Q) ops.size (Array.replicate ops.size false) s∨L9 P ops (Kx (Cq Q)) ops.size (Array.replicate ops.size false) s)
theorem Cp.intro{P:Program}{ops:Array Oper}{Q:AQ}{s:St}(h1:P.follows .mixedOrders=true)(h2:Ts P ops=true)(h3:EG P ops ops.toList (Cq Q) s):Cp P ops Q s:=⟨h1,.inl ⟨h2,h3⟩⟩
theorem Cp.any{P:Program}{ops:Array Oper}{Q:AQ}{s:St}(h1:P.follows .mixedOrders=true)(h3:L9 P ops (Cq Q) ops.size (Array.replicate ops.size false) s):Cp P ops Q s:=⟨h1,.inr (.inl h3)⟩
theorem notReady{b:Bool}{p:Prop}(h:b=false):b=true→p:=fun h'=>by rw[h]at h';cases h'
def EX(P:Program):Code→AQ→St→Prop
 |.skip,Q,s=>Q .normal s
 |.region _ ops draw,Q,s=>if draw=true then Cp P ops Q s else EG P ops ops.toList (Cq Q) s
 |.seq a b,Q,s=>EX P a (FJ (EX P b Q) Q) s
 |.cond c x y,Q,s=>B5 (get s.s c) (EX P x Q) (EX P y Q) s
 |.block id c,Q,s=>EX P c (De id Q) s
 |.loop c,Q,s=>Eg (fun Q s=>EX P c Q s) Q s
 |.exit id,Q,s=>Q (.exit id) s
 |.ret,Q,s=>Q .ret s
 |.label _,Q,s=>Q .normal s
 |.goto l,Q,s=>Q (.goto l) s
 |.rangeFunc f ps x y,Q,s=>TS P (.rangeFunc f ps x y) Q s
 |.scope c,Q,s=>TS P (.scope c) Q s
 |.refuse ..,_,_=>False
def Z0(r:Option AV)(K:AV→Prop):Prop:=match r with
 |some x=>K x
 |none=>False
def FV(P:Program):List ResultVar→St→(List AV→Prop)→Prop
 |[],_,K=>K []
 |.tmp t::rs,s,K=>FV P rs s fun xs=>K (look s.s.l t::xs)
 |.cell p t::rs,s,K=>Z0 (Ih P t s.h (look s.s.l p)) fun x=>FV P rs s fun xs=>K (x::xs)
def M9(P:Program)(rs:List ResultVar)(res:AV):AQ
 |.normal,s|.ret,s=>FV P rs s fun xs=>fz P s.h false res (AF xs)
 |_,_=>False
theorem Hx{P:Program}:∀ (rs:List ResultVar) {s:St} {K:List AV→Prop},FV P rs s K→RY P rs s K
 |[],_,_,h=>h
 |.tmp t::rs,s,K,h=>Hx rs h
 |.cell p t::rs,s,K,h=>by
  simp only[FV,Z0]at h
  split at h
  ·rename_i x e;exact QB e (Hx rs h)
  ·exact h.elim
theorem Jl{P:Program}{rs:List ResultVar}{res:AV}:∀ {e:Exit} {s:St},M9 P rs res e s→cL P rs res e s
 |.normal,_,h=>Hx rs h
 |.ret,_,h=>Hx rs h
 |.exit _,_,h=>h.elim
 |.goto _,_,h=>h.elim
 |.panic _,_,h=>h.elim
 |.outgrown,_,h=>h.elim
section
variable {X:Fix} {φ:List Nat} {st:St} {a:Act} {w:World} {o:Oper} {Q:Exit→Act→World→Prop} {K:St→Prop}
theorem O4{P:Program}(h:AH (Ex P o st) K):kY P o st K:=by
 unfold AH at h
 split at h
 ·rename_i p s e;exact WX e h.1 h.2
 ·exact h.elim
theorem Ek(hs:SR X φ st a w)(h:B7 X.P o K st):o.wp X.P a w (Nx X K) Q:=by
 unfold B7 at h
 split at h
 ·rename_i c x y ho;unfold ET at h
  split at h
  ·rename_i z hg;exact UT hs ho hg h.1 h.2
  ·exact h.elim
 ·rename_i g xs ts ho
  rcases h with h|⟨r,he,hk⟩
  ·exact QH hs ho rfl h.1 h.2
  ·have hargs:Ar (xs.toList.map (get st.s)) (cx X φ st.h w) (xs.map a.eval).toList:=by
    rw[Array.toList_map];exact CE hs _
   obtain⟨u,w',hr,hb,hu⟩:=he (cx X φ st.h w) w (xs.map a.eval) rfl hargs
   have hrun:(execOp a.eval o).run X.P w=.ok (.value u) w':=by
    rw[←hr];simp[execOp,ho,resolve,Deferred.ofValue,Act.eval,invoke]
   unfold Oper.wp;rw[hrun];simp only[Oper.upon];have hrng:=fun β hβ=>(hs.rng β hβ).2
   have hle:=Gv (X:=X) (φ:=φ) (w:=w) (w':=w') (fun p hp=>hb.cell hp) (fun r hr=>by unfold World.shape?;rw[hb.block r hr]) hb.size hrng st.h;exact⟨φ,_,(hs.world hb).put o.dst (BW hle _ _ hu),hk⟩
 ·exact Oz hs (O4 h)
theorem HF(ops:Array Oper)(Qn:Exit→Act→World→Prop):∀ (os:List Oper) (is:List Nat) {K:St→Prop} {φ:List Nat} {st:St} {a:Act} {w:World},is.map (ops[·]?)=os.map some→SR X φ st a w→EG X.P ops os K st→
  (∀ a w,Nx X K a w→Qn .normal a w)→wpOps X.P ops Qn is a w
 |[],[],K,φ,st,a,w,_,hs,h,hq=>hq _ _ ⟨φ,st,hs,h⟩
 |[],i::is,_,_,_,_,_,he,_,_,_=>by simp at he
 |o::os,[],_,_,_,_,_,he,_,_,_=>by simp at he
 |o::os,i::is,K,φ,st,a,w,he,hs,h,hq=>by
  simp only[BA,List.cons.injEq]at he;obtain⟨hi,he⟩:=he;have hrest:∀ a' w',Nx X (EG X.P ops os K) a' w'→wpOps X.P ops Qn is a' w':=fun a' w' ⟨φ',st',hs',h'⟩=>HF ops Qn os is he hs' h' hq
  simp only[wpOps,hi];simp only[EG]at h
  split at h
  ·rename_i hg;have hw:Region.wanted o (yielded ops a.tmps)=true:=by simp[Region.wanted,hg]
   rw[if_pos hw];exact .inl (Oper.wp_mono hrest (Ek hs h))
  ·rename_i j want hg;unfold Cb at h
   split at h
   ·rename_i z hz;obtain⟨h1,h2⟩:=h
    have hy:yielded ops a.tmps j=some z:=by
     unfold DG at hz
     split at hz
     ·rename_i t ht;unfold yielded;rw[ht];have hr:=hs.slots t;rw[hz]at hr;simp only[rel]at hr;cases htm:a.tmps[t]? with
      |none=>simp[htm,undef]at hr
      |some u=>
       simp[htm]at hr;subst hr;simp[htm]
     ·cases hz
    by_cases hzw:z=want
    ·have hw:Region.wanted o (yielded ops a.tmps)=true:=by simp[Region.wanted,hg,hy,hzw]
     rw[if_pos hw];exact .inl (Oper.wp_mono hrest (Ek hs (h1 hzw)))
    ·have hw:Region.wanted o (yielded ops a.tmps)=false:=by simp[Region.wanted,hg,hy,hzw]
     rw[hw];exact hrest _ _ ⟨φ,_,hs.put o.dst (r:=.v (.tuple #[])) (u:=undef) (by simp only[rel,undef]),h2 hzw⟩
   ·rename_i us hz
    have hy:yielded ops a.tmps j=none:=by
     unfold DG at hz
     split at hz
     ·rename_i t ht;unfold yielded;rw[ht];have hr:=hs.slots t;rw[hz]at hr;simp only[rel]at hr;cases htm:a.tmps[t]? with
      |none=>simp[htm]
      |some u=>
       simp[htm]at hr;subst hr;simp[htm]
     ·cases hz
    have hw:Region.wanted o (yielded ops a.tmps)=false:=by simp[Region.wanted,hg,hy]
    rw[hw];exact hrest _ _ ⟨φ,_,hs.put o.dst (r:=.v (.tuple #[])) (u:=undef) (by simp only[rel,undef]),h⟩
   ·exact h.elim
end
section
variable {P:Program} {Q:AQ} {s:St} {K:St→Prop}
theorem jG(a b:Code):EX P (.seq a b) Q s=EX P a (FJ (EX P b Q) Q) s:=rfl
theorem X8(i:Nat)(ops:Array Oper):EX P (.region i ops false) Q s=EG P ops ops.toList (Cq Q) s:=by simp[EX]
theorem fE(i:Nat)(ops:Array Oper):EX P (.region i ops true) Q s=Cp P ops Q s:=by simp[EX]
theorem iB:EX P .skip Q s=Q .normal s:=rfl
theorem eY(c:Operand)(x y:Code):EX P (.cond c x y) Q s=B5 (get s.s c) (EX P x Q) (EX P y Q) s:=rfl
theorem cK(i:Nat)(c:Code):EX P (.block i c) Q s=EX P c (De i Q) s:=rfl
theorem fK(c:Code):EX P (.loop c) Q s=Eg (EX P c) Q s:=rfl
theorem dZ(i:Nat):EX P (.exit i) Q s=Q (.exit i) s:=rfl
theorem jB:EX P .ret Q s=Q .ret s:=rfl
theorem Zw(i:Nat):EX P (.label i) Q s=Q .normal s:=rfl
theorem ZA(c:Code):EX P (.scope c) Q s=TS P (.scope c) Q s:=rfl
theorem Xy(f:Operand)(ps:Array Tmp)(x y:Code):EX P (.rangeFunc f ps x y) Q s=TS P (.rangeFunc f ps x y) Q s:=rfl
theorem iP(i:Nat):EX P (.goto i) Q s=Q (.goto i) s:=rfl
section
variable {ops:Array Oper} {os:List Oper} {d:Option Tmp} {t:TypeId} {pos:String} {af:Array Edge} {g:Option (Nat×Bool)}
theorem j8:EG P ops [] K s=K s:=rfl
theorem fB(op:Op):EG P ops (⟨d,op,t,pos,af,none⟩::os) K s=B7 P ⟨d,op,t,pos,af,none⟩ (EG P ops os K) s:=rfl
theorem gA(op:Op)(j:Nat)(b:Bool):EG P ops (⟨d,op,t,pos,af,some (j,b)⟩::os) K s =
  Cb (DG ops s j) b (B7 P ⟨d,op,t,pos,af,some (j,b)⟩ (EG P ops os K)) (Nc d (EG P ops os K)) s:=rfl
theorem Y9(x:Operand):B7 P ⟨d,.move x,t,pos,af,g⟩ K s=K (pt s d (get s.s x)):=by simp[B7,Ex,AH,DK]
theorem Rl(x:Operand):B7 P ⟨d,.assign x,t,pos,af,g⟩ K s=K (pt s d (get s.s x)):=by simp[B7,Ex,AH,DK]
theorem TY(c a b:Operand):B7 P ⟨d,.pick c a b,t,pos,af,g⟩ K s=ET (get s.s c) (get s.s a) (get s.s b) d K s:=rfl
theorem HC(f:FuncId)(xs:Array Operand)(ts:Array TypeId):B7 P ⟨d,.call ⟨.value (.func f),xs,ts⟩,t,pos,af,g⟩ K s=Ae P f (xs.toList.map (get s.s)) d K s:=rfl
theorem jS(x:Operand)(u:TypeId):B7 P ⟨d,.call ⟨.builtin .len,#[x],#[u]⟩,t,pos,af,g⟩ K s=AH (DK s d (Dr P u s.h (get s.s x))) K:=rfl
theorem eL(x:Operand)(ts:Array TypeId):B7 P ⟨d,.call ⟨.builtin .real,#[x],ts⟩,t,pos,af,g⟩ K s=AH (DK s d (Il false (get s.s x))) K:=rfl
theorem eQ(x:Operand)(ts:Array TypeId):B7 P ⟨d,.call ⟨.builtin .imag,#[x],ts⟩,t,pos,af,g⟩ K s=AH (DK s d (Il true (get s.s x))) K:=rfl
theorem fD(x y:Operand)(ts:Array TypeId):B7 P ⟨d,.call ⟨.builtin .complex,#[x,y],ts⟩,t,pos,af,g⟩ K s=AH (DK s d (Nl (get s.s x) (get s.s y))) K:=rfl
theorem jT(x y:Operand)(ts:Array TypeId):B7 P ⟨d,.call ⟨.builtin .max,#[x,y],ts⟩,t,pos,af,g⟩ K s=AH (DK s d (Uc (get s.s x) (get s.s y))) K:=rfl
theorem bI(k k2:IntKind)(a b:Int):Uc (.v (.int k a)) (.v (.int k2 b))=some (.v (.int k (if b>a then b else a))):=rfl
theorem Xu(a b:Nat):Il false (.v (.complex .f64 a b))=some (.v (.float .f64 a)):=rfl
theorem Xw(a b:Nat):Il true (.v (.complex .f64 a b))=some (.v (.float .f64 b)):=rfl
theorem Xb(a b:Nat):Nl (.v (.float .f64 a)) (.v (.float .f64 b))=some (.v (.complex .f64 a b)):=rfl
theorem X0(a b c e:Nat):ZW .eql a b c e=some (True,.v (.bool (L7 a b c e))):=rfl
theorem YN(a b c e:Nat):ZW .neq a b c e=some (True,.v (.bool (!L7 a b c e))):=rfl
theorem LZ(u:TypeId):B7 P ⟨d,.alloc u,t,pos,af,g⟩ K s=AH ((zeroT P u).bind fun z=>HD s d (some (True,.ptr s.h.length 0 0,s.h++[⟨0,u,zeroCells z⟩]))) K:=rfl
theorem UY(u:TypeId)(x:Operand):B7 P ⟨d,.box u x,t,pos,af,g⟩ K s=AH ((flat (get s.s x)).bind fun cs=>HD s d (some (True,.ptr s.h.length 0 0,s.h++[⟨0,u,cs⟩]))) K:=rfl
theorem bU(u:TypeId)(ps:Array (Nat×Operand)):B7 P ⟨d,.build u ps,t,pos,af,g⟩ K s=AH (DK s d (KI P u (ps.toList.map fun (i,x)=>(i,get s.s x)))) K:=rfl
theorem HQ(u n:Nat)(ps:Array (Nat×Operand)):B7 P ⟨d,.buildSlice u n ps,t,pos,af,g⟩ K s=AH (HD s d ((Db P u n (ps.toList.map fun (i,x)=>(i,get s.s x)) s.h).map fun (r,h)=>(True,r,h))) K:=rfl
theorem Tn(u:TypeId)(a:Operand):B7 P ⟨d,.load u a,t,pos,af,g⟩ K s=AH (DK s d (Ih P u s.h (get s.s a))) K:=rfl
theorem Uz(u:TypeId)(a x:Operand):B7 P ⟨d,.store u a x,t,pos,af,g⟩ K s=AH ((I3 P u s.h (get s.s a) (get s.s x)).map fun h=>(True,pt { s with h } d .bad)) K:=rfl
def HP(s:St)(d:Option Tmp):AV→SS
 |.ptr i ver off=>(FQ s.h i ver).bind fun _=>DK s d (some (.ptr i ver off))
 |.ela b cs=>DK s d (some (.ela b cs))
 |_=>none
theorem HT(x:Operand):B7 P ⟨d,.nilCheck x,t,pos,af,g⟩ K s=AH (HP s d (get s.s x)) K:=by
 simp only[B7,Ex];cases get s.s x<;>rfl
theorem ZQ(op:BinOp)(u v:TypeId)(x y:Operand):B7 P ⟨d,.binOp op u x y v,t,pos,af,g⟩ K s=AH (IY s d (HR P op u (isConst x || isConst y) (get s.s x) (get s.s y))) K:=rfl
theorem Tj(op:UnOp)(u:TypeId)(x:Operand):B7 P ⟨d,.unOp op u x,t,pos,af,g⟩ K s=AH (IY s d (ZG op (get s.s x))) K:=rfl
theorem Ji(a b:TypeId)(x:Operand):B7 P ⟨d,.convert a b x,t,pos,af,g⟩ K s=AH (HD s d (C7 P a b s.h (get s.s x))) K:=rfl
theorem Ri(u:TypeId)(x:Operand):B7 P ⟨d,.makeInterface u x,t,pos,af,g⟩ K s=AH (if FU P u=some false then DK s d (some (.ifc u (get s.s x)))else none) K:=rfl
theorem RE(u:TypeId)(l c:Operand):B7 P ⟨d,.makeSlice u l c,t,pos,af,g⟩ K s=AH (HD s d (E3 P u s.h (get s.s l) (get s.s c))) K:=rfl
theorem ZD(u:TypeId)(x:Operand)(lo hi:Option Operand):B7 P ⟨d,.slice u x lo hi none,t,pos,af,g⟩ K s=AH (IY s d (Fo P u s.h (lo.map (get s.s)) (hi.map (get s.s)) (get s.s x))) K:=rfl
theorem Iz(u:TypeId)(x:Operand)(f:Nat):B7 P ⟨d,.fieldAddr u x f,t,pos,af,g⟩ K s=AH (DK s d (Dm P u f s.h (get s.s x))) K:=rfl
theorem ZY(u:TypeId)(x:Operand)(f:Nat):B7 P ⟨d,.field u x f,t,pos,af,g⟩ K s=AH (DK s d (KE P u f (get s.s x))) K:=rfl
theorem IH(u:TypeId)(x i:Operand):B7 P ⟨d,.indexAddr u x i,t,pos,af,g⟩ K s=AH (IY s d (C5 P u s.h (get s.s x) (get s.s i))) K:=rfl
theorem bX(u:TypeId)(x i:Operand):B7 P ⟨d,.index u x i,t,pos,af,g⟩ K s=AH (IY s d (IA P u (get s.s x) (get s.s i))) K:=rfl
theorem WB(x:Operand)(i:Nat):B7 P ⟨d,.extract x i,t,pos,af,g⟩ K s=AH (DK s d (H5 i (get s.s x))) K:=rfl
end
theorem GU(d:Option Tmp)(r:AV):AH (DK s d (some r)) K=K (pt s d r):=by simp[AH,DK]
theorem JB(d:Option Tmp)(p:Prop)(r:AV):AH (IY s d (some (p,r))) K=(p∧K (pt s d r)):=rfl
theorem QR(d:Option Tmp)(r:AV):AH (IY s d (some (True,r))) K=K (pt s d r):=by simp[AH,IY]
theorem We(d:Option Tmp)(r:AV):AH (IY s d (E0 r)) K=K (pt s d r):=by simp[AH,IY,E0]
theorem JA(d:Option Tmp)(p:Prop)(r:AV)(h:List Aa):AH (HD s d (some (p,r,h))) K=(p∧K (pt { s with h } d r)):=rfl
theorem RG(d:Option Tmp)(r:AV)(h:List Aa):AH (HD s d (some (True,r,h))) K=K (pt { s with h } d r):=by simp[AH,HD]
theorem QP(s':St):AH (some (True,s')) K=K s':=by simp[AH]
end
def Ic(P:Program)(t t2:TypeId):Option (Nat×Nat×Nat):=
 if C9 P t2=none∧(P.underlying t2).isSome=true then
  (A5 P t).bind fun e=>(Ap P e).bind fun sz=>(FW P e).bind fun by'=>(zeroT P e).bind fun z=>
   if (zeroCells z).length=sz∧0<sz∧0<by' then some (e,sz,by')else none
 else none
theorem Pu{P:Program}{t t2:TypeId}{h:List Aa}{x y:AV}:Jk P #[t,t2] h x y =
  (Ic P t t2).bind fun q=>(NN h q.2.1 y).bind fun r=>Jz h q.1 q.2.1 q.2.2 r.1 r.2.1 r.2.2 x:=by
 simp only[Jk,Ic];simp
 split
 ·cases A5 P t<;>simp
  cases Ap P _<;>simp
  cases FW P _<;>simp
  cases zeroT P _<;>simp
  split<;>simp
 ·simp
section
variable {P:Program} {s:St} {K:St→Prop} {t:TypeId} {d:Option Tmp} {pos:String} {af:Array Edge} {g:Option (Nat×Bool)}
theorem Wb(x y:Operand)(u v:TypeId):B7 P ⟨d,.call ⟨.builtin .append,#[x,y],#[u,v]⟩,t,pos,af,g⟩ K s =
  AH (HD s d ((Ic P u v).bind fun q=>(NN s.h q.2.1 (get s.s y)).bind fun r=>Jz s.h q.1 q.2.1 q.2.2 r.1 r.2.1 r.2.2 (get s.s x))) K:=by
 rw[←Pu];rfl
end
def MC(P:Program)(t:TypeId):Option (Nat×Nat×List AV):=
 (A5 P t).bind fun e=>(Ap P e).bind fun sz=>(zeroT P e).bind fun z=>if (zeroCells z).length=sz∧0<sz then some (e,sz,zeroCells z)else none
theorem LG{P:Program}{t:TypeId}{len:Nat}{ps:List (Nat×AV)}{h:List Aa}:Db P t len ps h =
  (MC P t).bind fun q=>if len * q.2.1≤16777216 then (Im (fun i=>some (i * q.2.1,q.2.1)) ps (List.replicate len q.2.2).flatten).map fun l=>(.own h.length 0 len,h++[⟨0,q.1,l⟩])else none:=by
 simp only[Db,MC];cases A5 P t<;>simp
 cases Ap P _<;>simp
 cases zeroT P _<;>simp
 rename_i e sz z
 by_cases h1:(zeroCells z).length=sz<;>by_cases h2:0<sz<;>by_cases h3:len * sz≤16777216<;>simp[h1,h2,h3,Hd]
section
variable {P:Program} {s:St} {K:St→Prop} {t:TypeId} {d:Option Tmp} {pos:String} {af:Array Edge} {g:Option (Nat×Bool)}
theorem NK(u n:Nat)(ps:Array (Nat×Operand)):B7 P ⟨d,.buildSlice u n ps,t,pos,af,g⟩ K s=AH (HD s d ((MC P u).bind fun q=>if n * q.2.1≤16777216 then (Im (fun i=>some (i * q.2.1,q.2.1)) (ps.toList.map fun x=>(x.1,get s.s x.2)) (List.replicate n q.2.2).flatten).map fun l=>(True,.own s.h.length 0 n,s.h++[⟨0,q.1,l⟩])else none)) K:=by
 rw[HQ,LG]
 congr 2
 cases MC P u<;>simp
 split<;>simp<;>rfl
end
set_option linter.defProp false in
def kS:=And.intro @jG (And.intro @X8 (And.intro @fE (And.intro @iB (And.intro @eY (And.intro @cK (And.intro @fK (And.intro @dZ (And.intro @jB (And.intro @Zw (And.intro @ZA (And.intro @Xy (And.intro @iP (And.intro @j8 (And.intro @fB (And.intro @gA (And.intro @Y9 (And.intro @Rl (And.intro @TY (And.intro @HC (And.intro @jS (And.intro @Tj (And.intro @UY (And.intro @Tj (And.intro @Tn (And.intro @Uz (And.intro @HT (And.intro @ZQ (And.intro @Tj (And.intro @Ji (And.intro @Ri (And.intro @RE (And.intro @ZD (And.intro @Iz (And.intro @ZY (And.intro @IH (And.intro @bX (And.intro @WB (And.intro @GU (And.intro @QR (And.intro @We (And.intro @RG (And.intro @QP (And.intro @JB (And.intro @JA (And.intro @TU (And.intro @Z9 (And.intro @ZK (And.intro @cO (And.intro @V2 (And.intro @Td (And.intro @XC (And.intro @VJ (And.intro @look_nil (And.intro @X3 (And.intro @Q2 (And.intro @Wa (And.intro @TV (And.intro @Ue (And.intro @LB (And.intro @PV (And.intro @Oa (And.intro @NH (And.intro @Tc (And.intro @QT (And.intro @Tv (And.intro @R4 (And.intro @Rm (And.intro @VN (And.intro @Vk (And.intro @Wx (And.intro @Wf (And.intro @Yv (And.intro @Wb (@NK)))))))))))))))))))))))))))))))))))))))))))))))))))))))))))))))))))))) ))))
end Go.Ev
