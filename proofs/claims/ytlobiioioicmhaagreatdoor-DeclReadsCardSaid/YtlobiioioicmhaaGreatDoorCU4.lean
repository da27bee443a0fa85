/- The evaluator: abstract values, and code carried out on them. -/
import Derived.Test.YtlobiioioicmhaaGreatDoorCU3
set_option linter.all false
set_option maxHeartbeats 8000000
namespace Go.Ev
open _root_.List renaming map_cons→BA
open _root_.Option renaming bind_eq_some_iff→BK
open Go Go.RowKit
def pt(s:St)(d:Option Tmp)(r:AV):St:={ s with s:=Ci s.s d r }
theorem cU(n:Nat)(l g:List (Nat×AV))(h:List Aa)(d:Nat)(r:AV):pt ⟨⟨n,l,g⟩,h⟩ (some d) r=if d<n then⟨⟨n,(d,r)::l,g⟩,h⟩else⟨⟨n,l,g⟩,h⟩:=by
 by_cases hd:d<n<;>simp[pt,Ci,hd]
theorem cY(s:St)(r:AV):pt s none r=s:=rfl
theorem dJ(s:Db)(t:Nat):get s (.tmp t)=look s.l t:=rfl
theorem WM(s:Db)(x:Value):get s (.const x)=iK x:=rfl
theorem Us(s:Db)(k:Nat):get s (.global k)=look s.g k:=rfl
theorem ZS(s:Db)(f:Nat):get s (.func f)=.v (.func (.func f) #[] #[]):=rfl
theorem WQ(d:Nat)(r:AV)(l:List (Nat×AV))(t:Nat):look ((d,r)::l) t=if d=t then r else look l t:=rfl
theorem look_nil(t:Nat):look [] t=.bad:=rfl
abbrev SV:=Option (Prop×AV)
abbrev SS:=Option (Prop×St)
def EF(r:AV):SV:=some (True,r)
def HX(op:BinOp)(k:IntKind)(a b:Int):SV:=
 match op with
 |.add=>EF (.v (.int k (k.wrap (a+b))))
 |.sub=>EF (.v (.int k (k.wrap (a-b))))
 |.mul=>EF (.v (.int k (k.wrap (a * b))))
 |.quo=>some (b≠0,.v (.int k (k.wrap (a.tdiv b))))
 |.rem=>some (b≠0,.v (.int k (a.tmod b)))
 |.and=>EF (.v (.int k (k.wrap (BitVec.ofInt k.bits a &&& BitVec.ofInt k.bits b).toNat)))
 |.or=>EF (.v (.int k (k.wrap (BitVec.ofInt k.bits a ||| BitVec.ofInt k.bits b).toNat)))
 |.xor=>EF (.v (.int k (k.wrap (BitVec.ofInt k.bits a ^^^ BitVec.ofInt k.bits b).toNat)))
 |.andNot=>EF (.v (.int k (k.wrap (BitVec.ofInt k.bits a &&& ~~~BitVec.ofInt k.bits b).toNat)))
 |.eql=>EF (.v (.bool (a==b)))
 |.neq=>EF (.v (.bool (a != b)))
 |.lss=>EF (.v (.bool (decide (a<b))))
 |.leq=>EF (.v (.bool (decide (a≤b))))
 |.gtr=>EF (.v (.bool (decide (b<a))))
 |.geq=>EF (.v (.bool (decide (b≤a))))
 |.shl=>some (0≤b,.v (.int k (k.wrap (a * 2^min b.toNat k.bits))))
 |.shr=>some (0≤b,.v (.int k (a.fdiv (2^min b.toNat k.bits))))
def LB(op:BinOp)(a b:Nat):SV:=
 match op with
 |.add=>EF (En (FloatKind.f64.format.add a b))
 |.sub=>EF (En (FloatKind.f64.format.sub a b))
 |.mul=>EF (En (FloatKind.f64.format.mul a b))
 |.quo=>EF (En (FloatKind.f64.format.div a b))
 |.eql=>EF (.v (.bool (FloatKind.f64.format.order a b==some .eq)))
 |.neq=>EF (.v (.bool (FloatKind.f64.format.order a b != some .eq)))
 |.lss=>EF (.v (.bool (FloatKind.f64.format.order a b==some .lt)))
 |.leq=>EF (.v (.bool (FloatKind.f64.format.order a b==some .lt || FloatKind.f64.format.order a b==some .eq)))
 |.gtr=>EF (.v (.bool (FloatKind.f64.format.order a b==some .gt)))
 |.geq=>EF (.v (.bool (FloatKind.f64.format.order a b==some .gt || FloatKind.f64.format.order a b==some .eq)))
 |_=>none
def Ju(op:BinOp):SV:=
 match op with
 |.add|.sub|.mul|.quo=>EF .nan
 |.neq=>EF (.v (.bool true))
 |.eql|.lss|.leq|.gtr|.geq=>EF (.v (.bool false))
 |_=>none
def OS(op:BinOp)(x y:ByteArray):SV:=
 match op with
 |.add=>some (x.data.toList.length+y.data.toList.length≤9223372036854775807,.v (.string ⟨(x.data.toList++y.data.toList).toArray⟩))
 |.eql=>EF (.v (.bool (x.data.toList==y.data.toList)))
 |.neq=>EF (.v (.bool (!(x.data.toList==y.data.toList))))
 |.lss=>EF (.v (.bool (Op.bytesLess x.data.toList y.data.toList)))
 |.leq=>EF (.v (.bool (Op.bytesLess x.data.toList y.data.toList || x.data.toList==y.data.toList)))
 |.gtr=>EF (.v (.bool !(Op.bytesLess x.data.toList y.data.toList || x.data.toList==y.data.toList)))
 |.geq=>EF (.v (.bool !Op.bytesLess x.data.toList y.data.toList))
 |_=>none
def PU(op:BinOp)(a b:Bool):SV:=
 match op with
 |.eql=>EF (.v (.bool (a==b)))
 |.neq=>EF (.v (.bool (!(a==b))))
 |_=>none
def Lv(op:BinOp)(same:Bool):SV:=
 match op with
 |.eql=>EF (.v (.bool same))
 |.neq=>EF (.v (.bool (!same)))
 |_=>none
def fB(op:BinOp)(a b c d:Nat):SV:=
 match op with
 |.eql=>EF (.v (.bool (Mt a b c d)))
 |.neq=>EF (.v (.bool (!(Mt a b c d))))
 |_=>none
def I7(P:Program)(op:BinOp)(t:TypeId)(c:Bool):AV→AV→SV
 |.v (.int k a),.v (.int k' b)=>if k=k'∨op=.shl∨op=.shr then HX op k a b else none
 |.v (.float .f64 a),.v (.float .f64 b)=>LB op a b
 |.nan,.v (.float .f64 _)=>Ju op
 |.v (.float .f64 _),.nan=>Ju op
 |.nan,.nan=>Ju op
 |.v (.string a),.v (.string b)=>OS op a b
 |.v (.bool a),.v (.bool b)=>if isBoolT P t=true then PU op a b else none
 |.v .nilIface,.v .nilIface=>if c=true∧Gt P t=some true then Lv op true else none
 |.ifc _ _,.v .nilIface=>if Gt P t=some true then Lv op false else none
 |.v .nilIface,.ifc _ _=>if Gt P t=some true then Lv op false else none
 |.ifc tx (.v (.int k a)),.ifc ty (.v (.int k' b))=>if Gt P t=some true then (if tx=ty then (if k=k'∧CO P tx=some k∧fJ P tx=some true then Lv op (a==b)else none)else Lv op false)else none
 |.v (.complex .f64 a b),.v (.complex .f64 c d)=>fB op a b c d
 |_,_=>none
where
 isBoolT (P:Program) (t:TypeId):Bool:=match P.underlying t with|some .bool=>true|_=>false
def fW:UnOp→AV→SV
 |.not,.v (.bool b)=>EF (.v (.bool (!b)))
 |.neg,.v (.int k n)=>EF (.v (.int k (k.wrap (0-n))))
 |.neg,.v (.float .f64 b)=>EF (.v (.float .f64 (Op.negFloat .f64 b)))
 |_,_=>none
def Mg(cs:List AV):Option AV:=cs[0]?
def NV(P:Program)(t:TypeId)(cs:List AV):Option AV:=
 (AX P t).bind fun b=>if b=true then (Aq P t).bind fun n=>if n≤cs.length then some (.agg (cs.take n))else none else Mg cs
def Gw(h:List Aa)(i ver:Nat):Option Aa:=(h[i]?).bind fun k=>if ver=k.ver then some k else none
def IE(P:Program)(t:TypeId)(h:List Aa):AV→Option AV
 |.ptr i ver off=>(Gw h i ver).bind fun k=>NV P t (k.cells.drop off)
 |.ela _ cs=>NV P t cs
 |_=>none
def Ji(P:Program)(t:TypeId)(h:List Aa):AV→AV→Option (List Aa)
 |.ptr i ver off,x=>(Gw h i ver).bind fun k=>(flat x).bind fun cs=>if Aq P t=some cs.length∧off+cs.length≤k.cells.length then some (h.set i { k with cells:=Aj k.cells off cs })else none
 |_,_=>none
def D1(P:Program)(t f:Nat)(h:List Aa):AV→Option AV
 |.ptr i ver off=>(Al P t f).bind fun (o,ft)=>(Aq P ft).bind fun n=>if n≠0 then (Gw h i ver).bind fun _=>some (.ptr i ver (off+o))else none
 |.ela b cs=>(Al P t f).bind fun (o,ft)=>(Aq P ft).bind fun n=>if n≠0 then some (.ela b (cs.drop o))else none
 |_=>none
def CL(P:Program)(t:Nat)(h:List Aa):AV→AV→SV
 |.sl b n _ cs,.v (.int _ i)=>(Az P t).bind fun e=>(Aq P e).bind fun sz=>some (0≤i∧i<n,.ela b (cs.drop (i.toNat * sz)))
 |.own j ver n,.v (.int _ i)=>(Gw h j ver).bind fun _=>(Az P t).bind fun e=>(Aq P e).bind fun sz=>some (0≤i∧i<n,.ptr j ver (i.toNat * sz))
 |.ptr j ver off,.v (.int _ i)=>(Gw h j ver).bind fun _=>(OL P t).bind fun (n,e)=>(Aq P e).bind fun sz=>some (0≤i∧i<n,.ptr j ver (off+i.toNat * sz))
 |_,_=>none
def J0(P:Program)(t:Nat):AV→AV→SV
 |.v (.string s),.v (.int _ i)=>if Dl P t=true then some (0≤i∧i<(s.data.toList.length:Int),.v (.int .u8 (nY s i.toNat)))else none
 |.agg cs,.v (.int _ i)=>(OL P t).bind fun (n,e)=>(Aq P e).bind fun sz=>(NV P e (cs.drop (i.toNat * sz))).bind fun r=>some (0≤i∧i<n,r)
 |_,_=>none
def FN:Option AV→Nat→Option (Prop×Nat)
 |none,d=>some (True,d)
 |some (.v (.int _ i)),_=>some (0≤i,i.toNat)
 |_,_=>none
def FO(P:Program)(t:Nat)(h:List Aa)(lo hi:Option AV):AV→SV
 |.v (.string b)=>if Dl P t=true then (FN hi b.data.toList.length).bind fun (p,h)=>(FN lo 0).bind fun (q,l)=>
   some (p∧h≤b.data.toList.length∧q∧l≤h,.v (.string ⟨((b.data.toList.take h).drop l).toArray⟩))else none
 |.sl b n m cs=>(Az P t).bind fun e=>(Aq P e).bind fun sz=>(FN hi n).bind fun (p,h)=>(FN lo 0).bind fun (q,l)=>
   some (cs.length≤m * sz∧p∧h≤m∧q∧l≤h,.sl b (h-l) (m-l) (cs.drop (l * sz)))
 |.own i ver n=>(Az P t).bind fun e=>(Aq P e).bind fun sz=>(Gw h i ver).bind fun _=>(FN hi n).bind fun (p,h)=>(FN lo 0).bind fun (q,l)=>
   some (p∧h≤n∧q∧l≤h∧l=0,.own i ver h)
 |.v (.slice none 0 0)=>(Az P t).bind fun e=>(Aq P e).bind fun sz=>(FN hi 0).bind fun (p,h)=>(FN lo 0).bind fun (q,l)=>
   some (p∧h≤0∧q∧l≤h,.v (.slice none 0 0))
 |_=>none
def OT(h:List Aa)(sz:Nat):AV→Option (Prop×Nat×List AV)
 |.sl _ n _ cs=>some (n * sz≤cs.length,n,cs.take (n * sz))
 |.own i ver n=>(Gw h i ver).bind fun k=>some (n * sz≤k.cells.length,n,k.cells.take (n * sz))
 |.v (.slice none 0 0)=>some (True,0,[])
 |.v (.string b)=>if sz=1 then some (True,b.data.toList.length,b.data.toList.map Am)else none
 |_=>none
def JP(h:List Aa)(e sz by':Nat)(p:Prop)(n:Nat)(new:List AV):AV→Option (Prop×AV×List Aa)
 |.v (.slice none 0 0)=>if n=0 then some (p∧new.all Cl=true,.v (.slice none 0 0),h)else some (p∧new.all Cl=true∧n * by'≤140737488355328,.own h.length 0 n,h++[⟨0,e,new⟩])
 |.own i ver m=>(Gw h i ver).bind fun k=>if k.e=e then some (p∧new.all Cl=true∧m * sz≤k.cells.length∧(m+n) * by'≤140737488355328,.own i (ver+1) (m+n),h.set i ⟨ver+1,e,k.cells.take (m * sz)++new⟩)else none
 |_=>none
def JD(P:Program)(ts:Array TypeId)(h:List Aa)(x y:AV):Option (Prop×AV×List Aa):=
 (ts[0]?).bind fun t=>(ts[1]?).bind fun t2=>if CO P t2=none∧(P.underlying t2).isSome=true then
  (Az P t).bind fun e=>(Aq P e).bind fun sz=>(Gx P e).bind fun by'=>(zeroT P e).bind fun z=>
   if (zeroCells z).length=sz∧0<sz∧0<by' then (OT h sz y).bind fun (p,n,new)=>JP h e sz by' p n new x else none
 else none
def IA(place:Nat→Option (Nat×Nat)):List (Nat×AV)→List AV→Option (List AV)
 |[],l=>some l
 |(i,x)::r,l=>(place i).bind fun (o,n)=>(flat x).bind fun cs=>if cs.length=n∧o+n≤l.length then IA place r (Aj l o cs)else none
def L4(P:Program)(t:TypeId)(ps:List (Nat×AV)):Option AV:=
 (zeroT P t).bind fun z=>match BW P t with
  |some pl=>(IA (pl[·]?) ps (zeroCells z)).map .agg
  |none=>(OL P t).bind fun (_,e)=>(Aq P e).bind fun sz=>(IA (fun i=>some (i * sz,sz)) ps (zeroCells z)).map .agg
def Du(P:Program)(t:TypeId)(len:Nat)(ps:List (Nat×AV))(h:List Aa):Option (AV×List Aa):=
 (Az P t).bind fun e=>(Aq P e).bind fun sz=>(zeroT P e).bind fun z=>
  if (zeroCells z).length=sz∧0<sz∧len * sz≤16777216 then (IA (fun i=>some (i * sz,sz)) ps (H0 z len)).map fun l=>(.own h.length 0 len,h++[⟨0,e,l⟩])else none
def EI(P:Program)(t:TypeId)(h:List Aa):AV→AV→Option (Prop×AV×List Aa)
 |.v (.int _ n),.v (.int _ c)=>(Az P t).bind fun e=>(Aq P e).bind fun sz=>(Gx P e).bind fun by'=>(zeroT P e).bind fun z=>
   if (zeroCells z).length=sz∧0<sz then some (0≤n∧n≤c∧c<9223372036854775808∧c * by'≤140737488355328,.own h.length 0 n.toNat,h++[⟨0,e,H0 z c.toNat⟩])else none
 |_,_=>none
def strOf(cs:List AV):Option AV:=(DY cs).map fun l=>.v (.string ⟨l.toArray⟩)
def CP(P:Program)(src dst:TypeId)(h:List Aa):AV→Option (Prop×AV×List Aa)
 |.v (.int _ n)=>if (P.underlying src).isSome=true then
   (match CO P dst with
    |some k=>some (True,.v (.int k (k.wrap n)),h)
    |none=>if JZ P dst=some .f64 then some (True,.v (.float .f64 (FloatKind.f64.nearest n)),h)else if Dl P dst=true then some (True,.v (.string (Utf8.encode n)),h)else none)else none
 |.v (.float .f64 b)=>if (P.underlying src).isSome=true then (CO P dst).bind fun k=>(nM b k).map fun n=>(True,.v (.int k n),h)else none
 |.v (.string b)=>if Dl P dst=true then (if (P.underlying src).isSome=true then some (True,.v (.string b),h)else none)else
   (Az P dst).bind fun e=>if Dl P src=true∧CO P e=some .u8∧Aq P e=some 1 then some (b.data.toList.length<4611686018427387904,.own h.length 0 b.data.toList.length,h++[⟨0,e,b.data.toList.map Am⟩])else none
 |.sl _ n _ cs=>if Dl P dst=true∧(Az P src).bind (CO P)=some .u8 then (strOf (cs.take n)).map fun r=>(n≤cs.length,r,h)else none
 |.own i ver n=>if Dl P dst=true∧(Az P src).bind (CO P)=some .u8 then (Gw h i ver).bind fun k=>(strOf (k.cells.take n)).map fun r=>(n≤k.cells.length,r,h)else none
 |.v (.slice none 0 0)=>if Dl P dst=true∧(Az P src).bind (CO P)=some .u8 then some (True,.v (.string ⟨#[]⟩),h)else none
 |_=>none
def CE(P:Program)(t:TypeId)(h:List Aa):AV→Option AV
 |.v (.string b)=>if Dl P t=true then some (.v (.int .i64 b.data.toList.length))else none
 |.v (.slice none 0 0)=>if (Az P t).isSome=true then some (.v (.int .i64 0))else none
 |.sl _ n _ _=>if (Az P t).isSome=true then some (.v (.int .i64 n))else none
 |.own i ver n=>if (Az P t).isSome=true then (Gw h i ver).bind fun _=>some (.v (.int .i64 n))else none
 |_=>none
def HV(i:Nat):AV→Option AV
 |.tup cs=>cs[i]?
 |_=>none
def LP(P:Program)(t f:Nat):AV→Option AV
 |.agg cs=>(Al P t f).bind fun (o,ft)=>NV P ft (cs.drop o)
 |_=>none
def DP(s:St)(d:Option Tmp)(r:Option AV):SS:=r.map fun r=>(True,pt s d r)
def Jl(s:St)(d:Option Tmp)(r:SV):SS:=r.map fun r=>(r.1,pt s d r.2)
def Im(s:St)(d:Option Tmp)(r:Option (Prop×AV×List Aa)):SS:=r.map fun r=>(r.1,pt { s with h:=r.2.2 } d r.2.1)
def Et(P:Program):Callee→List Operand→Array TypeId→St→Option Tmp→SS
 |.builtin .len,x::_,ts,s,d=>(ts[0]?).bind fun t=>DP s d (CE P t s.h (get s.s x))
 |.builtin .append,[x,y],ts,s,d=>Im s d (JD P ts s.h (get s.s x) (get s.s y))
 |.builtin .real,[x],_,s,d=>DP s d (I9 false (get s.s x))
 |.builtin .imag,[x],_,s,d=>DP s d (I9 true (get s.s x))
 |.builtin .complex,[x,y],_,s,d=>DP s d (Nv (get s.s x) (get s.s y))
 |.builtin .max,[x,y],_,s,d=>DP s d (TK (get s.s x) (get s.s y))
 |_,_,_,_,_=>none
def EB(P:Program)(o:Oper)(s:St):SS:=
 match o.op with
 |.move x|.assign x=>DP s o.dst (some (get s.s x))
 |.alloc t=>(zeroT P t).bind fun z=>Im s o.dst (some (True,.ptr s.h.length 0 0,s.h++[⟨0,t,zeroCells z⟩]))
 |.box t x=>(flat (get s.s x)).bind fun cs=>Im s o.dst (some (True,.ptr s.h.length 0 0,s.h++[⟨0,t,cs⟩]))
 |.build t ps=>DP s o.dst (L4 P t (ps.toList.map fun (i,x)=>(i,get s.s x)))
 |.buildSlice t n ps=>Im s o.dst ((Du P t n (ps.toList.map fun (i,x)=>(i,get s.s x)) s.h).map fun (r,h)=>(True,r,h))
 |.load t a=>DP s o.dst (IE P t s.h (get s.s a))
 |.store t a x=>(Ji P t s.h (get s.s a) (get s.s x)).map fun h=>(True,pt { s with h } o.dst .bad)
 |.nilCheck x=>(match get s.s x with
  |.ptr i ver off=>(Gw s.h i ver).bind fun _=>DP s o.dst (some (.ptr i ver off))
  |.ela b cs=>DP s o.dst (some (.ela b cs))
  |_=>none)
 |.binOp op t x y _=>Jl s o.dst (I7 P op t (isConst x || isConst y) (get s.s x) (get s.s y))
 |.unOp op _ x=>Jl s o.dst (fW op (get s.s x))
 |.convert a b x=>Im s o.dst (CP P a b s.h (get s.s x))
 |.makeInterface t x=>if Gt P t=some false then DP s o.dst (some (.ifc t (get s.s x)))else none
 |.makeSlice t l c=>Im s o.dst (EI P t s.h (get s.s l) (get s.s c))
 |.slice t x lo hi none=>Jl s o.dst (FO P t s.h (lo.map (get s.s)) (hi.map (get s.s)) (get s.s x))
 |.fieldAddr t x f=>DP s o.dst (D1 P t f s.h (get s.s x))
 |.field t x f=>DP s o.dst (LP P t f (get s.s x))
 |.indexAddr t x i=>Jl s o.dst (CL P t s.h (get s.s x) (get s.s i))
 |.index t x i=>Jl s o.dst (J0 P t (get s.s x) (get s.s i))
 |.extract t i=>DP s o.dst (HV i (get s.s t))
 |.call c=>Et P c.callee c.args.toList c.argTypes s o.dst
 |_=>none
theorem C7{h:List Aa}{i ver:Nat}{k:Aa}(e:Gw h i ver=some k):h[i]?=some k∧ver=k.ver:=by
 unfold Gw at e;cases hh:h[i]? with
 |none=>simp[hh]at e
 |some k'=>simp[hh]at e;obtain⟨e1,rfl⟩:=e;exact⟨rfl,e1⟩
theorem KD{P:Program}{t:TypeId}{cs:List AV}{r:AV}(e:NV P t cs=some r){K:AV→Prop}(hk:K r):IG P t cs K:=by
 unfold NV at e;unfold IG;cases ha:AX P t with
 |none=>simp[ha]at e
 |some b=>
  cases b with
  |true=>
   cases hs:Aq P t with
   |none=>simp[ha,hs]at e
   |some n=>
    simp[ha,hs]at e;obtain⟨e1,rfl⟩:=e;exact⟨n,rfl,e1,hk⟩
  |false=>simp[ha,Mg]at e;exact⟨r,e,hk⟩
theorem Tb{P:Program}{t:TypeId}{s:St}{x r:AV}(e:IE P t s.h x=some r){K:AV→Prop}(hk:K r):O2 P t s x K:=by
 unfold IE at e
 split at e
 ·rename_i i ver off;obtain⟨k,hb,e⟩:=BK.1 e;obtain⟨h1,h2⟩:=C7 hb;exact⟨k,h1,h2,KD e hk⟩
 ·exact KD e hk
 ·cases e
theorem dQ{P:Program}{t:TypeId}{ox oy:Operand}{op:BinOp}{k k':IntKind}{a b:Int}{p:Prop}{r:AV}(hk':k=k'∨op=.shl∨op=.shr)(e:HX op k a b=some (p,r))(hp:p){K:AV→Prop}(hk:K r):
  WU P op t ox oy (.v (.int k a)) (.v (.int k' b)) K:=by
 cases op<;>simp only[HX,EF,Option.some.injEq,Prod.mk.injEq]at e<;>obtain⟨rfl,rfl⟩:=e<;>simp only[WU,Q7,cV]<;>simp_all
theorem eA{P:Program}{op:BinOp}{t:TypeId}{ox oy:Operand}{x y r:AV}{p:Prop}(e:I7 P op t (isConst ox || isConst oy) x y=some (p,r))(hp:p){K:AV→Prop}(hk:K r):WU P op t ox oy x y K:=by
 unfold I7 at e
 split at e
 ·split at e
  ·rename_i hc;exact dQ hc e hp hk
  ·cases e
 ·cases op<;>simp only[LB,EF,Option.some.injEq,Prod.mk.injEq,seval]at e<;>obtain⟨rfl,rfl⟩:=e<;>exact hk
 ·cases op<;>simp only[Ju,EF,Option.some.injEq,Prod.mk.injEq,seval]at e<;>obtain⟨rfl,rfl⟩:=e<;>exact hk
 ·cases op<;>simp only[Ju,EF,Option.some.injEq,Prod.mk.injEq,seval]at e<;>obtain⟨rfl,rfl⟩:=e<;>exact hk
 ·cases op<;>simp only[Ju,EF,Option.some.injEq,Prod.mk.injEq,seval]at e<;>obtain⟨rfl,rfl⟩:=e<;>exact hk
 ·cases op<;>simp only[OS,EF,Option.some.injEq,Prod.mk.injEq,seval]at e<;>obtain⟨rfl,rfl⟩:=e<;>first|exact hk|exact⟨hp,hk⟩
 ·split at e
  ·rename_i hb
   have hb':P.underlying t=some .bool:=by
    unfold I7.isBoolT at hb
    split at hb
    ·assumption
    ·cases hb
   cases op<;>simp only[PU,EF,Option.some.injEq,Prod.mk.injEq,seval]at e<;>obtain⟨rfl,rfl⟩:=e<;>exact⟨hb',hk⟩
  ·cases e
 ·split at e
  ·rename_i hc;cases op<;>simp only[Lv,EF,Option.some.injEq,Prod.mk.injEq,seval]at e<;>obtain⟨rfl,rfl⟩:=e<;>exact⟨hc.1,hc.2,hk⟩
  ·cases e
 ·split at e
  ·rename_i hc;cases op<;>simp only[Lv,EF,Option.some.injEq,Prod.mk.injEq,seval]at e<;>obtain⟨rfl,rfl⟩:=e<;>exact⟨hc,hk⟩
  ·cases e
 ·split at e
  ·rename_i hc;cases op<;>simp only[Lv,EF,Option.some.injEq,Prod.mk.injEq,seval]at e<;>obtain⟨rfl,rfl⟩:=e<;>exact⟨hc,hk⟩
  ·cases e
 ·split at e
  ·rename_i hc
   split at e
   ·rename_i hty
    split at e
    ·rename_i hk2;cases op<;>simp only[Lv,EF,Option.some.injEq,Prod.mk.injEq,seval]at e<;>obtain⟨rfl,rfl⟩:=e<;>exact⟨hc,.inr ⟨hty,hk2.1,hk2.2.1,hk2.2.2,hk⟩⟩
    ·cases e
   ·rename_i hty;cases op<;>simp only[Lv,EF,Option.some.injEq,Prod.mk.injEq,seval]at e<;>obtain⟨rfl,rfl⟩:=e<;>exact⟨hc,.inl ⟨hty,hk⟩⟩
  ·cases e
 ·cases op<;>simp only[fB,EF,Option.some.injEq,Prod.mk.injEq,seval]at e<;>obtain⟨rfl,rfl⟩:=e<;>exact hk
 ·cases e
theorem kI{op:UnOp}{x r:AV}{p:Prop}(e:fW op x=some (p,r))(hp:p){K:AV→Prop}(hk:K r):pH op x K:=by
 unfold fW at e
 split at e<;>first|cases e;done|(simp only[EF,Option.some.injEq,Prod.mk.injEq]at e;obtain⟨rfl,rfl⟩:=e;exact hk)
theorem X7{P:Program}{t:TypeId}{s:St}{x y:AV}{h:List Aa}(e:Ji P t s.h x y=some h){K:St→Prop}(hk:K { s with h }):Qb P t s x y K:=by
 unfold Ji at e
 split at e
 ·obtain⟨k,hb,e⟩:=BK.1 e;obtain⟨cs,hf,e⟩:=BK.1 e;obtain⟨h1,h2⟩:=C7 hb
  split at e
  ·rename_i hc;cases e;exact⟨k,cs,h1,h2,hf,hc.1,hc.2,hk⟩
  ·cases e
 ·cases e
theorem OP{P:Program}{t f:Nat}{s:St}{x r:AV}(e:D1 P t f s.h x=some r){K:AV→Prop}(hk:K r):JX P t s x f K:=by
 unfold D1 at e
 split at e
 ·obtain⟨⟨o,ft⟩,h1,e⟩:=BK.1 e;obtain⟨n,h2,e⟩:=BK.1 e
  split at e
  ·rename_i hn;obtain⟨k,hb,e⟩:=BK.1 e;cases e;exact⟨o,ft,n,h1,h2,hn,⟨k,(C7 hb).1,(C7 hb).2⟩,hk⟩
  ·cases e
 ·obtain⟨⟨o,ft⟩,h1,e⟩:=BK.1 e;obtain⟨n,h2,e⟩:=BK.1 e
  split at e
  ·rename_i hn;cases e;exact⟨o,ft,n,h1,h2,hn,hk⟩
  ·cases e
 ·cases e
theorem OK{P:Program}{t:Nat}{s:St}{x y r:AV}{p:Prop}(e:CL P t s.h x y=some (p,r))(hp:p){K:AV→Prop}(hk:K r):Iq P t s x y K:=by
 unfold CL at e
 split at e
 ·obtain⟨e',h1,e⟩:=BK.1 e;obtain⟨sz,h2,e⟩:=BK.1 e;cases e;exact⟨e',sz,h1,h2,hp.1,hp.2,hk⟩
 ·obtain⟨k,hb,e⟩:=BK.1 e;obtain⟨e',h1,e⟩:=BK.1 e;obtain⟨sz,h2,e⟩:=BK.1 e;cases e;exact⟨k,e',sz,(C7 hb).1,(C7 hb).2,h1,h2,hp.1,hp.2,hk⟩
 ·obtain⟨k,hb,e⟩:=BK.1 e;obtain⟨⟨n,e'⟩,h1,e⟩:=BK.1 e;obtain⟨sz,h2,e⟩:=BK.1 e;cases e;exact⟨⟨k,(C7 hb).1,(C7 hb).2⟩,n,e',sz,h1,h2,hp.1,hp.2,hk⟩
 ·cases e
theorem Wx{P:Program}{t:Nat}{x y r:AV}{p:Prop}(e:J0 P t x y=some (p,r))(hp:p){K:AV→Prop}(hk:K r):Re P t x y K:=by
 unfold J0 at e
 split at e
 ·split at e
  ·rename_i hs;cases e;exact⟨hs,hp.1,hp.2,hk⟩
  ·cases e
 ·obtain⟨⟨n,e'⟩,h1,e⟩:=BK.1 e;obtain⟨sz,h2,e⟩:=BK.1 e;obtain⟨r',h3,e⟩:=BK.1 e;cases e;exact⟨n,e',sz,h1,h2,hp.1,hp.2,KD h3 hk⟩
 ·cases e
theorem EX{x:Option AV}{d n:Nat}{p:Prop}(e:FN x d=some (p,n))(hp:p){K:Nat→Prop}(hk:K n):FM x d K:=by
 unfold FN at e
 split at e
 ·cases e;exact hk
 ·cases e;exact⟨hp,hk⟩
 ·cases e
theorem Ws{P:Program}{t:Nat}{s:St}{x r:AV}{lo hi:Option AV}{p:Prop}(e:FO P t s.h lo hi x=some (p,r))(hp:p){K:AV→Prop}(hk:K r):UR P t s x lo hi none K:=by
 refine⟨rfl,?_⟩;unfold FO at e
 split at e
 ·split at e
  ·rename_i hs;obtain⟨⟨p1,h⟩,h1,e⟩:=BK.1 e;obtain⟨⟨q1,l⟩,h2,e⟩:=BK.1 e;cases e;exact⟨hs,EX h1 hp.1 ⟨hp.2.1,EX h2 hp.2.2.1 ⟨hp.2.2.2,hk⟩⟩⟩
  ·cases e
 ·obtain⟨e',g1,e⟩:=BK.1 e;obtain⟨sz,g2,e⟩:=BK.1 e;obtain⟨⟨p1,h⟩,h1,e⟩:=BK.1 e;obtain⟨⟨q1,l⟩,h2,e⟩:=BK.1 e;cases e;exact⟨e',sz,g1,g2,hp.1,EX h1 hp.2.1 ⟨hp.2.2.1,EX h2 hp.2.2.2.1 ⟨hp.2.2.2.2,hk⟩⟩⟩
 ·obtain⟨e',g1,e⟩:=BK.1 e;obtain⟨sz,g2,e⟩:=BK.1 e;obtain⟨k,hb,e⟩:=BK.1 e;obtain⟨⟨p1,h⟩,h1,e⟩:=BK.1 e;obtain⟨⟨q1,l⟩,h2,e⟩:=BK.1 e;cases e;exact⟨e',k,sz,g1,g2,(C7 hb).1,(C7 hb).2,EX h1 hp.1 ⟨hp.2.1,EX h2 hp.2.2.1 ⟨hp.2.2.2.1,hp.2.2.2.2,hk⟩⟩⟩
 ·obtain⟨e',g1,e⟩:=BK.1 e;obtain⟨sz,g2,e⟩:=BK.1 e;obtain⟨⟨p1,h⟩,h1,e⟩:=BK.1 e;obtain⟨⟨q1,l⟩,h2,e⟩:=BK.1 e;cases e;exact⟨e',sz,g1,g2,EX h1 hp.1 ⟨hp.2.1,EX h2 hp.2.2.1 ⟨hp.2.2.2,hk⟩⟩⟩
 ·cases e
theorem c6{s:St}{sz n:Nat}{y:AV}{new:List AV}{p:Prop}(e:OT s.h sz y=some (p,n,new))(hp:p){K:Nat→List AV→Prop}(hk:K n new):gB s sz y K:=by
 unfold OT at e
 split at e
 ·cases e;exact⟨hp,hk⟩
 ·obtain⟨k,hb,e⟩:=BK.1 e;cases e;exact⟨k,(C7 hb).1,(C7 hb).2,hp,hk⟩
 ·cases e;exact hk
 ·split at e
  ·cases e;rename_i h;exact⟨h,hk⟩
  ·cases e
 ·cases e
theorem c7{h:List Aa}{e sz by' n:Nat}{p q:Prop}{new:List AV}{x r:AV}{h':List Aa}(hh:JP h e sz by' p n new x=some (q,r,h'))(hq:q):p:=by
 unfold JP at hh
 split at hh
 ·split at hh<;>(cases hh;exact hq.1)
 ·obtain⟨k,hb,hh⟩:=BK.1 hh
  split at hh
  ·cases hh;exact hq.1
  ·cases hh
 ·cases hh
theorem Yk{s:St}{e sz by' n:Nat}{p q:Prop}{new:List AV}{x r:AV}{h':List Aa}(hh:JP s.h e sz by' p n new x=some (q,r,h'))(hq:q){K:AV→St→Prop}(hk:K r { s with h:=h' }):new.all Cl=true∧aY s e sz by' n new K x:=by
 unfold JP at hh
 split at hh
 ·split at hh
  ·rename_i hn;cases hh;exact⟨hq.2,.inl ⟨hn,hk⟩⟩
  ·rename_i hn;cases hh;exact⟨hq.2.1,.inr ⟨Nat.pos_of_ne_zero hn,hq.2.2,hk⟩⟩
 ·obtain⟨k,hb,hh⟩:=BK.1 hh
  split at hh
  ·rename_i hke;cases hh;exact⟨hq.2.1,k,(C7 hb).1,(C7 hb).2,hke,hq.2.2.1,.inr ⟨hq.2.2.2,hk⟩⟩
  ·cases hh
 ·cases hh
theorem TL{P:Program}{ts:Array TypeId}{s:St}{x y r:AV}{h:List Aa}{p:Prop}(e:JD P ts s.h x y=some (p,r,h))(hp:p){K:AV→St→Prop}(hk:K r { s with h }):Qj P ts s x y K:=by
 unfold JD at e;obtain⟨t,h1,e⟩:=BK.1 e;obtain⟨t2,h2,e⟩:=BK.1 e
 split at e
 ·rename_i hi;obtain⟨e',h3,e⟩:=BK.1 e;obtain⟨sz,h4,e⟩:=BK.1 e;obtain⟨by',h5,e⟩:=BK.1 e;obtain⟨z,h6,e⟩:=BK.1 e
  split at e
  ·rename_i hz;obtain⟨⟨p1,n,new⟩,h7,e⟩:=BK.1 e;refine⟨t,t2,e',sz,by',z,h6,hz.1,h1,h2,hi.1,hi.2,h3,h4,h5,hz.2.1,hz.2.2,?_⟩;exact c6 h7 (c7 e hp) (Yk e hp hk)
  ·cases e
 ·cases e
theorem KZ{place:Nat→Option (Nat×Nat)}{s:Db}:∀ {ps:List (Nat×Operand)} {l r:List AV},IA place (ps.map fun (i,x)=>(i,get s x)) l=some r→∀ {K:List AV→Prop},K r→P5 place (get s) ps l K
 |[],l,r,e,K,hk=>by cases e;exact hk
 |(i,x)::ps,l,r,e,K,hk=>by
  simp only[BA,IA]at e;obtain⟨⟨o,n⟩,h1,e⟩:=BK.1 e;obtain⟨cs,h2,e⟩:=BK.1 e
  split at e
  ·rename_i hc;exact⟨o,n,cs,h1,h2,hc.1,hc.2,KZ e hk⟩
  ·cases e
theorem Xb{P:Program}{t:TypeId}{ps:Array (Nat×Operand)}{s:Db}{r:AV}(e:L4 P t (ps.toList.map fun (i,x)=>(i,get s x))=some r){K:AV→Prop}(hk:K r):UD P t ps (get s) K:=by
 unfold L4 at e;obtain⟨z,hz,e⟩:=BK.1 e;refine⟨z,hz,?_⟩
 split at e
 ·rename_i pl hp;obtain⟨l,h1,rfl⟩:=Option.map_eq_some_iff.1 e;exact .inl ⟨pl,hp,KZ h1 hk⟩
 ·obtain⟨⟨n,e'⟩,h1,e⟩:=BK.1 e;obtain⟨sz,h2,e⟩:=BK.1 e;obtain⟨l,h3,rfl⟩:=Option.map_eq_some_iff.1 e;exact .inr ⟨n,e',sz,h1,h2,KZ h3 hk⟩
theorem NM{P:Program}{t len:Nat}{ps:Array (Nat×Operand)}{s:St}{r:AV}{h:List Aa}(e:Du P t len (ps.toList.map fun (i,x)=>(i,get s.s x)) s.h=some (r,h)){K:AV→St→Prop}(hk:K r { s with h }):Jb P t len ps (get s.s) s K:=by
 unfold Du at e;obtain⟨e',h1,e⟩:=BK.1 e;obtain⟨sz,h2,e⟩:=BK.1 e;obtain⟨z,h3,e⟩:=BK.1 e
 split at e
 ·rename_i hc;obtain⟨l,h4,e⟩:=Option.map_eq_some_iff.1 e;cases e;exact⟨e',sz,z,h1,h2,h3,hc.1,hc.2.1,hc.2.2,KZ h4 hk⟩
 ·cases e
theorem OA{P:Program}{t:Nat}{s:St}{x y r:AV}{h:List Aa}{p:Prop}(e:EI P t s.h x y=some (p,r,h))(hp:p){K:AV→St→Prop}(hk:K r { s with h }):Ir P t x y s K:=by
 unfold EI at e
 split at e
 ·obtain⟨e',h1,e⟩:=BK.1 e;obtain⟨sz,h2,e⟩:=BK.1 e;obtain⟨by',h3,e⟩:=BK.1 e;obtain⟨z,h4,e⟩:=BK.1 e
  split at e
  ·rename_i hc;cases e;exact⟨e',sz,by',z,h1,h2,h3,h4,hc.1,hc.2,hp.1,hp.2.1,hp.2.2.1,hp.2.2.2,hk⟩
  ·cases e
 ·cases e
theorem bU{P:Program}{t:Nat}{k:FloatKind}(h:JZ P t=some k):P.underlying t=some (.float k):=by
 unfold JZ at h
 split at h
 ·cases h;assumption
 ·cases h
theorem RC{cs:List AV}{r:AV}(e:strOf cs=some r):∃ l,DY cs=some l∧r=.v (.string ⟨l.toArray⟩):=by
 unfold strOf at e;obtain⟨l,h1,rfl⟩:=Option.map_eq_some_iff.1 e;exact⟨l,h1,rfl⟩
theorem Tn{P:Program}{src dst:Nat}{s:St}{x r:AV}{h:List Aa}{p:Prop}(e:CP P src dst s.h x=some (p,r,h))(hp:p){K:AV→St→Prop}(hk:K r { s with h }):Fk P src dst x s K:=by
 unfold CP at e
 split at e
 ·split at e
  ·rename_i hs
   split at e
   ·rename_i k hk';cases e;simp only[Fk,JB hk'];exact⟨hs,hk⟩
   ·split at e
    ·rename_i hf;cases e;simp only[Fk,bU hf];exact⟨hs,hk⟩
    ·split at e
     ·rename_i hst;cases e;simp only[Fk,GJ hst];exact⟨hs,hk⟩
     ·cases e
  ·cases e
 ·split at e
  ·rename_i hs;obtain⟨k,h1,e⟩:=BK.1 e;obtain⟨n,h2,e⟩:=Option.map_eq_some_iff.1 e;cases e;exact⟨k,n,h1,hs,h2,hk⟩
  ·cases e
 ·split at e
  ·rename_i hd
   split at e
   ·rename_i hs;cases e;simp only[Fk,GJ hd];exact⟨hs,hk⟩
   ·cases e
  ·obtain⟨e',h1,e⟩:=BK.1 e
   split at e
   ·rename_i hc;cases e;simp only[Fk,Df h1];exact⟨hc.1,hc.2.1,hc.2.2,hp,hk⟩
   ·cases e
 ·split at e
  ·rename_i hc;obtain⟨r',h1,e⟩:=Option.map_eq_some_iff.1 e;cases e;obtain⟨l,h2,rfl⟩:=RC h1;exact⟨hc.1,hc.2,hp,l,h2,hk⟩
  ·cases e
 ·split at e
  ·rename_i hc;obtain⟨k,hb,e⟩:=BK.1 e;obtain⟨r',h1,e⟩:=Option.map_eq_some_iff.1 e;cases e;obtain⟨l,h2,rfl⟩:=RC h1;exact⟨k,(C7 hb).1,(C7 hb).2,hc.1,hc.2,hp,l,h2,hk⟩
  ·cases e
 ·split at e
  ·rename_i hc;cases e;exact⟨hc.1,hc.2,hk⟩
  ·cases e
 ·cases e
theorem cJ{P:Program}{t:Nat}{ts:Array TypeId}(ht:ts[0]?=some t){s:St}{x r:AV}(e:CE P t s.h x=some r){K:AV→Prop}(hk:K r):kT P ts s x K:=by
 refine⟨t,ht,?_⟩;unfold CE at e
 split at e<;>(try split at e)<;>first
  |(cases e;done)
  |(cases e;rename_i h;exact⟨h,hk⟩)
  |(rename_i h
    obtain⟨k,hb,e⟩:=BK.1 e;cases e;exact⟨h,⟨k,(C7 hb).1,(C7 hb).2⟩,hk⟩)
theorem YV{P:Program}{o:Oper}{s s':St}{p:Prop}(e:EB P o s=some (p,s'))(hp:p){K:St→Prop}(hk:K s'):mW P o s K:=by
 have rv:∀ {r:Option AV},DP s o.dst r=some (p,s')→∃ x,r=some x∧s'=pt s o.dst x:=fun {r} h=>by
  obtain⟨x,h1,h2⟩:=Option.map_eq_some_iff.1 h;cases h2;exact⟨x,h1,rfl⟩
 have rp:∀ {r:SV},Jl s o.dst r=some (p,s')→∃ x,r=some (p,x)∧s'=pt s o.dst x:=fun {r} h=>by
  obtain⟨⟨q,x⟩,h1,h2⟩:=Option.map_eq_some_iff.1 h;cases h2;exact⟨x,h1,rfl⟩
 have rh:∀ {r:Option (Prop×AV×List Aa)},Im s o.dst r=some (p,s')→∃ x h,r=some (p,x,h)∧s'=pt { s with h } o.dst x:=fun {r} h=>by
  obtain⟨⟨q,x,h'⟩,h1,h2⟩:=Option.map_eq_some_iff.1 h;cases h2;exact⟨x,h',h1,rfl⟩
 unfold EB at e;unfold mW
 split at e
 ·rename_i x ho;obtain⟨y,h1,rfl⟩:=rv e;cases h1;simp only[ho];exact hk
 ·rename_i x ho;obtain⟨y,h1,rfl⟩:=rv e;cases h1;simp only[ho];exact hk
 ·rename_i t ho;obtain⟨z,hz,e⟩:=BK.1 e;obtain⟨y,h,h1,rfl⟩:=rh e;cases h1;simp only[ho];exact⟨z,hz,hk⟩
 ·rename_i t x ho;obtain⟨z,hz,e⟩:=BK.1 e;obtain⟨y,h,h1,rfl⟩:=rh e;cases h1;simp only[ho];exact⟨z,hz,hk⟩
 ·rename_i t ps ho;obtain⟨y,h1,rfl⟩:=rv e;simp only[ho];exact Xb h1 hk
 ·rename_i t n ps ho;obtain⟨y,h,h1,rfl⟩:=rh e;obtain⟨⟨y',h'⟩,h2,h3⟩:=Option.map_eq_some_iff.1 h1;cases h3;simp only[ho];exact NM h2 hk
 ·rename_i t x ho;obtain⟨y,h1,rfl⟩:=rv e;simp only[ho];exact Tb h1 hk
 ·rename_i t x y ho;obtain⟨h,h1,h2⟩:=Option.map_eq_some_iff.1 e;cases h2;simp only[ho];exact X7 h1 hk
 ·rename_i x ho;simp only[ho]
  split at e
  ·rename_i hg;obtain⟨k,hb,e⟩:=BK.1 e;obtain⟨y,h1,rfl⟩:=rv e;cases h1;simp only[hg];exact⟨⟨k,(C7 hb).1,(C7 hb).2⟩,hk⟩
  ·rename_i hg;obtain⟨y,h1,rfl⟩:=rv e;cases h1;simp only[hg];exact hk
  ·cases e
 ·rename_i op t x y t2 ho;obtain⟨r,h1,rfl⟩:=rp e;simp only[ho];exact eA h1 hp hk
 ·rename_i op t x ho;obtain⟨r,h1,rfl⟩:=rp e;simp only[ho];exact kI h1 hp hk
 ·rename_i a b x ho;obtain⟨r,h,h1,rfl⟩:=rh e;simp only[ho];exact Tn h1 hp hk
 ·rename_i t x ho
  split at e
  ·rename_i ht;obtain⟨y,h1,rfl⟩:=rv e;cases h1;simp only[ho];exact⟨ht,hk⟩
  ·cases e
 ·rename_i t l c ho;obtain⟨r,h,h1,rfl⟩:=rh e;simp only[ho];exact OA h1 hp hk
 ·rename_i t x lo hi ho;obtain⟨r,h1,rfl⟩:=rp e;simp only[ho];exact Ws h1 hp hk
 ·rename_i t x f ho;obtain⟨r,h1,rfl⟩:=rv e;simp only[ho];exact OP h1 hk
 ·rename_i t x f ho;obtain⟨r,h1,rfl⟩:=rv e;simp only[ho];unfold LP at h1
  split at h1
  ·rename_i hg;obtain⟨⟨of,ft⟩,h2,h3⟩:=BK.1 h1;simp only[hg];exact⟨of,ft,h2,KD h3 hk⟩
  ·cases h1
 ·rename_i t x i ho;obtain⟨r,h1,rfl⟩:=rp e;simp only[ho];exact OK h1 hp hk
 ·rename_i t x i ho;obtain⟨r,h1,rfl⟩:=rp e;simp only[ho];exact Wx h1 hp hk
 ·rename_i t i ho;obtain⟨r,h1,rfl⟩:=rv e;simp only[ho];unfold HV at h1
  split at h1
  ·rename_i hg;simp only[hg];exact⟨r,h1,hk⟩
  ·cases h1
 ·rename_i c ho;obtain⟨ce,⟨args⟩,ts⟩:=c;simp only[ho];cases ce with
  |value f=>cases e
  |invoke r m=>cases e
  |builtin b=>
   cases b with
   |len=>
    cases args with
    |nil=>cases e
    |cons x xs=>
     obtain⟨t,h2,e⟩:=BK.1 e;obtain⟨r,h3,rfl⟩:=rv e;exact⟨x,rfl,cJ h2 h3 hk⟩
   |append=>
    match args,e with
    |[x,y],e=>
     obtain⟨r,h,h1,rfl⟩:=rh e;exact⟨x,y,rfl,TL h1 hp hk⟩
   |real=>
    match args,e with
    |[x],e=>
     obtain⟨r,h1,rfl⟩:=rv e;exact⟨x,r,rfl,h1,hk⟩
   |imag=>
    match args,e with
    |[x],e=>
     obtain⟨r,h1,rfl⟩:=rv e;exact⟨x,r,rfl,h1,hk⟩
   |complex=>
    match args,e with
    |[x,y],e=>
     obtain⟨r,h1,rfl⟩:=rv e;exact⟨x,y,r,rfl,h1,hk⟩
   |max=>
    match args,e with
    |[x,y],e=>
     obtain⟨r,h1,rfl⟩:=rv e;exact⟨x,y,r,rfl,h1,hk⟩
   |_=>cases e
 ·cases e
def AL(r:SS)(K:St→Prop):Prop:=match r with
 |some (p,s)=>p∧K s
 |none=>False
theorem Uv(p:Prop)(s:St)(K:St→Prop):AL (some (p,s)) K=(p∧K s):=rfl
def Fc(b x y:AV)(d:Option Tmp)(K:St→Prop)(s:St):Prop:=match b with
 |.v (.bool z)=>(z=true→K (pt s d x))∧(z=false→K (pt s d y))
 |_=>False
theorem UJ(x y:AV)(d:Option Tmp)(K:St→Prop)(s:St):Fc (.v (.bool true)) x y d K s=K (pt s d x):=by simp[Fc]
theorem T1(x y:AV)(d:Option Tmp)(K:St→Prop)(s:St):Fc (.v (.bool false)) x y d K s=K (pt s d y):=by simp[Fc]
def BZ(b:AV)(A B:St→Prop)(s:St):Prop:=match b with
 |.v (.bool z)=>(z=true→A s)∧(z=false→B s)
 |_=>False
theorem TX(A B:St→Prop)(s:St):BZ (.v (.bool true)) A B s=A s:=by simp[BZ]
theorem TB(A B:St→Prop)(s:St):BZ (.v (.bool false)) A B s=B s:=by simp[BZ]
theorem BZ.intro{z:Bool}{A B:St→Prop}{s:St}(h1:z=true→A s)(h2:z=false→B s):BZ (.v (.bool z)) A B s:=⟨h1,h2⟩
theorem Fc.intro{z:Bool}{x y:AV}{d:Option Tmp}{K:St→Prop}{s:St}(h1:z=true→K (pt s d x))(h2:z=false→K (pt s d y)):Fc (.v (.bool z)) x y d K s:=⟨h1,h2⟩
def Co(b:AV)(want:Bool)(A B:St→Prop)(s:St):Prop:=match b with
 |.v (.bool z)=>(z=want→A s)∧(z≠want→B s)
 |.v (.tuple _)=>B s
 |_=>False
theorem Th(u:Array Value)(want:Bool)(A B:St→Prop)(s:St):Co (.v (.tuple u)) want A B s=B s:=rfl
theorem WE(A B:St→Prop)(s:St):Co (.v (.bool true)) true A B s=A s:=by simp[Co]
theorem XM(A B:St→Prop)(s:St):Co (.v (.bool false)) false A B s=A s:=by simp[Co]
theorem WI(A B:St→Prop)(s:St):Co (.v (.bool true)) false A B s=B s:=by simp[Co]
theorem WO(A B:St→Prop)(s:St):Co (.v (.bool false)) true A B s=B s:=by simp[Co]
theorem Co.intro_t{z:Bool}{A B:St→Prop}{s:St}(h1:z=true→A s)(h2:z=false→B s):Co (.v (.bool z)) true A B s:=⟨h1,fun h=>h2 (by cases z<;>simp_all)⟩
theorem Co.intro_f{z:Bool}{A B:St→Prop}{s:St}(h1:z=false→A s)(h2:z=true→B s):Co (.v (.bool z)) false A B s:=⟨h1,fun h=>h2 (by cases z<;>simp_all)⟩
def O1(d:Option Tmp)(K:St→Prop)(s:St):Prop:=K (pt s d (.v (.tuple #[])))
theorem Y7(d:Option Tmp)(K:St→Prop)(s:St):O1 d K s=K (pt s d (.v (.tuple #[]))):=rfl
def My(P:Program)(g:FuncId)(xs:List AV)(r:AV):Prop:=
 ∀ (c:Cx) (w:World) (vs:Array Value),c.P=P→Aw xs c vs.toList→∃ u w',(callFunc g vs).run P w=.ok (.value u) w'∧Below w.heap.size w w'∧rel r c u
def Ag(P:Program)(g:FuncId)(xs:List AV)(d:Option Tmp)(K:St→Prop)(s:St):Prop:=
 ((∃ fn,P.funcs[g]?=some fn∧fn.body.isSome=true∧(fn.name == "runtime.NumGoroutine")=false)∧Yg P s g xs fun r=>K (pt s d r))∨
 ∃ r,My P g xs r∧K (pt s d r)
def Ak(P:Program)(g:FuncId):Prop:=∃ fn,P.funcs[g]?=some fn∧fn.body.isSome=true∧(fn.name == "runtime.NumGoroutine")=false
theorem Ag.intro{P:Program}{g:FuncId}{xs:List AV}{d:Option Tmp}{K:St→Prop}{s:St}(hb:Ak P g)(ht:A0 xs=true){r:AV}(hev:Ev P s.s.g g xs r)(hk:K (pt s d r)):Ag P g xs d K s:=
 .inl ⟨hb,xs,r,.inl ⟨rfl,ht⟩,hev,hk⟩
theorem Ag.lend{P:Program}{g:FuncId}{xs:List AV}{d:Option Tmp}{K:St→Prop}{s:St}(hb:Ak P g)(ys:List AV)(hz:Fe P s.h true ys xs){r:AV}(hev:Ev P s.s.g g ys r)(hn:CH r=true)(hk:K (pt s d r)):Ag P g xs d K s:=
 .inl ⟨hb,ys,r,.inr ⟨hz,hn⟩,hev,hk⟩
theorem Ag.ext{P:Program}{g:FuncId}{xs:List AV}{d:Option Tmp}{K:St→Prop}{s:St}{r:AV}(he:My P g xs r)(hk:K (pt s d r)):Ag P g xs d K s:=.inr ⟨r,he,hk⟩
def Ut(P:Program)(c:Code)(Q:AY)(s:St):Prop:=
 ∀ (X:Fix) (φ:List Nat) (a:Act) (w:World),X.P=P→X.c0=none→SR X φ s a w→c.wp P (Qx X Q) a w
def Cb(P:Program)(o:Oper)(K:St→Prop)(s:St):Prop:=
 match o.op with
 |.pick c a b=>Fc (get s.s c) (get s.s a) (get s.s b) o.dst K s
 |.call ⟨.value (.func g),xs,_⟩=>Ag P g (xs.toList.map (get s.s)) o.dst K s
 |_=>AL (EB P o s) K
def EZ(P:Program)(ops:Array Oper):List Oper→(St→Prop)→St→Prop
 |[],K,s=>K s
 |o::os,K,s=>match o.guard with
  |none=>Cb P o (EZ P ops os K) s
  |some (j,want)=>Co (DN ops s j) want (Cb P o (EZ P ops os K)) (O1 o.dst (EZ P ops os K)) s
def C1(Q:AY)(s:St):Prop:=Q .normal s
theorem ZG(Q:AY)(s:St):C1 Q s=Q .normal s:=rfl
theorem QL(K:St→Prop)(Q:AY)(s:St):Ge K Q .normal s=K s:=rfl
theorem Xk(K:St→Prop)(Q:AY)(s:St):Ge K Q .ret s=Q .ret s:=rfl
theorem Uz(K:St→Prop)(Q:AY)(i:Nat)(s:St):Ge K Q (.exit i) s=Q (.exit i) s:=rfl
theorem Vb(K:St→Prop)(Q:AY)(i:Nat)(s:St):Ge K Q (.goto i) s=Q (.goto i) s:=rfl
theorem Mz(id:Nat)(Q:AY)(s:St):Dn id Q .normal s=Q .normal s:=rfl
theorem Rh(id:Nat)(Q:AY)(s:St):Dn id Q .ret s=Q .ret s:=rfl
theorem OC(id i:Nat)(Q:AY)(s:St):Dn id Q (.goto i) s=Q (.goto i) s:=rfl
theorem OW(id i:Nat)(Q:AY)(s:St):Dn id Q (.exit i) s=if i=id then Q .normal s else Q (.exit i) s:=rfl
def Cg(R:Nat→St→Prop)(m:Nat)(s2:St):Prop:=∃ m' s3,s2.weak s3∧m'<m∧R m' s3
def Ea(F:AY→St→Prop)(Q:AY)(s:St):Prop:=
 ∃ (R:Nat→St→Prop) (n:Nat) (s0:St),s.weak s0∧R n s0∧∀ m s1,R m s1→F (Ge (Cg R m) Q) s1
def RR{α:Type}(mk:α→St)(inv:α→Prop)(μ:α→Nat)(n:Nat)(s:St):Prop:=∃ a,inv a∧s=mk a∧μ a=n
theorem Ea.intro{F:AY→St→Prop}{Q:AY}{s:St}{α:Type}(mk:α→St)(inv:α→Prop)(μ:α→Nat)(a0:α)(hw:s.weak (mk a0))(h0:inv a0)
  (round:∀ a,inv a→F (Ge (Cg (RR mk inv μ) (μ a)) Q) (mk a)):Ea F Q s:=
 ⟨RR mk inv μ,μ a0,mk a0,hw,⟨a0,h0,rfl,rfl⟩,fun m s1 ⟨a,h1,h2,h3⟩=>by subst h2;subst h3;exact round a h1⟩
theorem Cg.intro{α:Type}{mk:α→St}{inv:α→Prop}{μ:α→Nat}{n:Nat}{s2:St}(a:α)(h:inv a)(hw:s2.weak (mk a))(hm:μ a<n):Cg (RR mk inv μ) n s2:=
 ⟨μ a,mk a,hw,hm,a,h,rfl,rfl⟩
def Kc(P:Program):Op→Bool
 |.move _|.assign _|.pick .. | .binOp .. | .unOp .. | .makeInterface .. | .field .. | .index .. | .extract .. | .load .. | .nilCheck .. | .slice .. | .fieldAddr .. | .indexAddr .. | .build .. =>false
 |.call c=>match c.callee with
  |.builtin .len|.builtin .real|.builtin .imag|.builtin .complex|.builtin .max=>false
  |.value (.func _)=>false
  |_=>true
 |.convert _ b _=> !(CO P b).isSome
 |_=>true
def O9(P:Program):Op→Bool
 |.move _|.assign _|.pick .. | .binOp .. | .unOp .. | .makeInterface .. | .field .. | .index .. | .extract .. | .build .. =>false
 |.call c=>match c.callee with
  |.builtin .real|.builtin .imag|.builtin .complex|.builtin .max=>false
  |_=>true
 |.convert _ b _=> !(CO P b).isSome
 |.slice t .. => !(Dl P t)
 |_=>true
def aL(P:Program)(o:Op):Bool:=O9 P o || Kc P o
def E4(e:Edge):Bool:=Region.binds .any e
def DG(ops:Array Oper):List (List Nat):=
 ops.toList.foldl (fun tbl o=>tbl++[((o.after.toList.filter E4).flatMap fun e=>e.on::tbl.getD e.on []).eraseDups]) []
def Mb(ops:Array Oper)(tbl:List (List Nat)):Bool:=
 (List.range ops.size).all fun i=>match ops[i]? with
  |some o=>o.after.toList.all (fun e=> !E4 e || decide (e.on<i))&&(tbl.getD i []).all fun j=>o.after.toList.any fun e=>E4 e&&(e.on==j || (tbl.getD e.on []).contains j)
  |none=>true
def Gu(P:Program)(ops:Array Oper)(x y:Oper):Bool:=
 (match x.dst with|some d=>(y.looksAt ops).contains d || y.dst==some d|none=>false) || (match y.dst with|some d=>(x.looksAt ops).contains d|none=>false) ||
  (Kc P x.op&&aL P y.op) || (aL P x.op&&Kc P y.op)
def K5(P:Program)(ops:Array Oper)(tbl:List (List Nat)):Bool:=
 Mb ops tbl&&(List.range ops.size).all fun j=>(List.range j).all fun i=>match ops[i]?,ops[j]? with
  |some x,some y=> !Gu P ops x y || (tbl.getD j []).contains i
  |_,_=>true
def U4(P:Program)(ops:Array Oper):Bool:=K5 P ops (DG ops)
def M0(P:Program)(ops:Array Oper)(K:St→Prop):Nat→Array Bool→St→Prop
 |0,listed,s=>Region.ready .any ops listed=[]∧K s
 |f+1,listed,s=>(Region.ready .any ops listed=[]→K s)∧
  ∀ i∈List.range ops.size,(Region.ready .any ops listed).contains i=true→∃ o,ops[i]?=some o∧o.guard=none∧Cb P o (fun s'=>M0 P ops K f (listed.setIfInBounds i true) s') s
def OU(s s':St):Prop:=s.s.n=s'.s.n∧s.s.g=s'.s.g∧s.h=s'.h∧∀ t,look s.s.l t=look s'.s.l t
def Ls(K:St→Prop)(s:St):Prop:=∃ s',OU s' s∧K s'
def Cr(P:Program)(ops:Array Oper)(Q:AY)(s:St):Prop:=P.follows .mixedOrders=true∧((U4 P ops=true∧EZ P ops ops.toList (C1 Q) s)∨M0 P ops (C1 Q) ops.size (Array.replicate ops.size false) s∨M0 P ops (Ls (C1 Q)) ops.size (Array.replicate ops.size false) s)
theorem Cr.intro{P:Program}{ops:Array Oper}{Q:AY}{s:St}(h1:P.follows .mixedOrders=true)(h2:U4 P ops=true)(h3:EZ P ops ops.toList (C1 Q) s):Cr P ops Q s:=⟨h1,.inl ⟨h2,h3⟩⟩
theorem Cr.any{P:Program}{ops:Array Oper}{Q:AY}{s:St}(h1:P.follows .mixedOrders=true)(h3:M0 P ops (C1 Q) ops.size (Array.replicate ops.size false) s):Cr P ops Q s:=⟨h1,.inr (.inl h3)⟩
theorem notReady{b:Bool}{p:Prop}(h:b=false):b=true→p:=fun h'=>by rw[h]at h';cases h'
def Fs(P:Program):Code→AY→St→Prop
 |.skip,Q,s=>Q .normal s
 |.region _ ops draw,Q,s=>if draw=true then Cr P ops Q s else EZ P ops ops.toList (C1 Q) s
 |.seq a b,Q,s=>Fs P a (Ge (Fs P b Q) Q) s
 |.cond c x y,Q,s=>BZ (get s.s c) (Fs P x Q) (Fs P y Q) s
 |.block id c,Q,s=>Fs P c (Dn id Q) s
 |.loop c,Q,s=>Ea (fun Q s=>Fs P c Q s) Q s
 |.exit id,Q,s=>Q (.exit id) s
 |.ret,Q,s=>Q .ret s
 |.label _,Q,s=>Q .normal s
 |.goto l,Q,s=>Q (.goto l) s
 |.rangeFunc f ps x y,Q,s=>Ut P (.rangeFunc f ps x y) Q s
 |.scope c,Q,s=>Ut P (.scope c) Q s
 |.refuse ..,_,_=>False
def eQ(r:Option AV)(K:AV→Prop):Prop:=match r with
 |some x=>K x
 |none=>False
def Gv(P:Program):List ResultVar→St→(List AV→Prop)→Prop
 |[],_,K=>K []
 |.tmp t::rs,s,K=>Gv P rs s fun xs=>K (look s.s.l t::xs)
 |.cell p t::rs,s,K=>eQ (IE P t s.h (look s.s.l p)) fun x=>Gv P rs s fun xs=>K (x::xs)
def NN(P:Program)(rs:List ResultVar)(res:AV):AY
 |.normal,s|.ret,s=>Gv P rs s fun xs=>fz P s.h false res (AJ xs)
 |_,_=>False
theorem HG{P:Program}:∀ (rs:List ResultVar) {s:St} {K:List AV→Prop},Gv P rs s K→RN P rs s K
 |[],_,_,h=>h
 |.tmp t::rs,s,K,h=>HG rs h
 |.cell p t::rs,s,K,h=>by
  simp only[Gv,eQ]at h
  split at h
  ·rename_i x e;exact Tb e (HG rs h)
  ·exact h.elim
theorem JG{P:Program}{rs:List ResultVar}{res:AV}:∀ {e:Exit} {s:St},NN P rs res e s→dL P rs res e s
 |.normal,_,h=>HG rs h
 |.ret,_,h=>HG rs h
 |.exit _,_,h=>h.elim
 |.goto _,_,h=>h.elim
 |.panic _,_,h=>h.elim
 |.outgrown,_,h=>h.elim
section
variable {X:Fix} {φ:List Nat} {st:St} {a:Act} {w:World} {o:Oper} {Q:Exit→Act→World→Prop} {K:St→Prop}
theorem PB{P:Program}(h:AL (EB P o st) K):mW P o st K:=by
 unfold AL at h
 split at h
 ·rename_i p s e;exact YV e h.1 h.2
 ·exact h.elim
theorem Ez(hs:SR X φ st a w)(h:Cb X.P o K st):o.wp X.P a w (Nx X K) Q:=by
 unfold Cb at h
 split at h
 ·rename_i c x y ho;unfold Fc at h
  split at h
  ·rename_i z hg;exact VQ hs ho hg h.1 h.2
  ·exact h.elim
 ·rename_i g xs ts ho
  rcases h with h|⟨r,he,hk⟩
  ·exact Sp hs ho rfl h.1 h.2
  ·have hargs:Aw (xs.toList.map (get st.s)) (cx X φ st.h w) (xs.map a.eval).toList:=by
    rw[Array.toList_map];exact CY hs _
   obtain⟨u,w',hr,hb,hu⟩:=he (cx X φ st.h w) w (xs.map a.eval) rfl hargs
   have hrun:(execOp a.eval o).run X.P w=.ok (.value u) w':=by
    rw[←hr];simp[execOp,ho,resolve,Deferred.ofValue,Act.eval,invoke]
   unfold Oper.wp;rw[hrun];simp only[Oper.upon];have hrng:=fun β hβ=>(hs.rng β hβ).2
   have hle:=Hn (X:=X) (φ:=φ) (w:=w) (w':=w') (fun p hp=>hb.cell hp) (fun r hr=>by unfold World.shape?;rw[hb.block r hr]) hb.size hrng st.h;exact⟨φ,_,(hs.world hb).put o.dst (Cd hle _ _ hu),hk⟩
 ·exact Pc hs (PB h)
theorem I8(ops:Array Oper)(Qn:Exit→Act→World→Prop):∀ (os:List Oper) (is:List Nat) {K:St→Prop} {φ:List Nat} {st:St} {a:Act} {w:World},is.map (ops[·]?)=os.map some→SR X φ st a w→EZ X.P ops os K st→
  (∀ a w,Nx X K a w→Qn .normal a w)→wpOps X.P ops Qn is a w
 |[],[],K,φ,st,a,w,_,hs,h,hq=>hq _ _ ⟨φ,st,hs,h⟩
 |[],i::is,_,_,_,_,_,he,_,_,_=>by simp at he
 |o::os,[],_,_,_,_,_,he,_,_,_=>by simp at he
 |o::os,i::is,K,φ,st,a,w,he,hs,h,hq=>by
  simp only[BA,List.cons.injEq]at he;obtain⟨hi,he⟩:=he;have hrest:∀ a' w',Nx X (EZ X.P ops os K) a' w'→wpOps X.P ops Qn is a' w':=fun a' w' ⟨φ',st',hs',h'⟩=>I8 ops Qn os is he hs' h' hq
  simp only[wpOps,hi];simp only[EZ]at h
  split at h
  ·rename_i hg;have hw:Region.wanted o (yielded ops a.tmps)=true:=by simp[Region.wanted,hg]
   rw[if_pos hw];exact .inl (Oper.wp_mono hrest (Ez hs h))
  ·rename_i j want hg;unfold Co at h
   split at h
   ·rename_i z hz;obtain⟨h1,h2⟩:=h
    have hy:yielded ops a.tmps j=some z:=by
     unfold DN at hz
     split at hz
     ·rename_i t ht;unfold yielded;rw[ht];have hr:=hs.slots t;rw[hz]at hr;simp only[rel]at hr;cases htm:a.tmps[t]? with
      |none=>simp[htm,undef]at hr
      |some u=>
       simp[htm]at hr;subst hr;simp[htm]
     ·cases hz
    by_cases hzw:z=want
    ·have hw:Region.wanted o (yielded ops a.tmps)=true:=by simp[Region.wanted,hg,hy,hzw]
     rw[if_pos hw];exact .inl (Oper.wp_mono hrest (Ez hs (h1 hzw)))
    ·have hw:Region.wanted o (yielded ops a.tmps)=false:=by simp[Region.wanted,hg,hy,hzw]
     rw[hw];exact hrest _ _ ⟨φ,_,hs.put o.dst (r:=.v (.tuple #[])) (u:=undef) (by simp only[rel,undef]),h2 hzw⟩
   ·rename_i us hz
    have hy:yielded ops a.tmps j=none:=by
     unfold DN at hz
     split at hz
     ·rename_i t ht;unfold yielded;rw[ht];have hr:=hs.slots t;rw[hz]at hr;simp only[rel]at hr;cases htm:a.tmps[t]? with
      |none=>simp[htm]
      |some u=>
       simp[htm]at hr;subst hr;simp[htm]
     ·cases hz
    have hw:Region.wanted o (yielded ops a.tmps)=false:=by simp[Region.wanted,hg,hy]
    rw[hw];exact hrest _ _ ⟨φ,_,hs.put o.dst (r:=.v (.tuple #[])) (u:=undef) (by simp only[rel,undef]),h⟩
   ·exact h.elim
end
section
variable {P:Program} {Q:AY} {s:St} {K:St→Prop}
theorem nC(a b:Code):Fs P (.seq a b) Q s=Fs P a (Ge (Fs P b Q) Q) s:=rfl
theorem Yz(i:Nat)(ops:Array Oper):Fs P (.region i ops false) Q s=EZ P ops ops.toList (C1 Q) s:=by simp[Fs]
theorem kD(i:Nat)(ops:Array Oper):Fs P (.region i ops true) Q s=Cr P ops Q s:=by simp[Fs]
theorem j8:Fs P .skip Q s=Q .normal s:=rfl
theorem l8(c:Operand)(x y:Code):Fs P (.cond c x y) Q s=BZ (get s.s c) (Fs P x Q) (Fs P y Q) s:=rfl
theorem dD(i:Nat)(c:Code):Fs P (.block i c) Q s=Fs P c (Dn i Q) s:=rfl
theorem kW(c:Code):Fs P (.loop c) Q s=Ea (Fs P c) Q s:=rfl
theorem lI(i:Nat):Fs P (.exit i) Q s=Q (.exit i) s:=rfl
theorem mN:Fs P .ret Q s=Q .ret s:=rfl
theorem cO(i:Nat):Fs P (.label i) Q s=Q .normal s:=rfl
theorem eT(c:Code):Fs P (.scope c) Q s=Ut P (.scope c) Q s:=rfl
theorem ZI(f:Operand)(ps:Array Tmp)(x y:Code):Fs P (.rangeFunc f ps x y) Q s=Ut P (.rangeFunc f ps x y) Q s:=rfl
theorem lQ(i:Nat):Fs P (.goto i) Q s=Q (.goto i) s:=rfl
section
variable {ops:Array Oper} {os:List Oper} {d:Option Tmp} {t:TypeId} {pos:String} {af:Array Edge} {g:Option (Nat×Bool)}
theorem nQ:EZ P ops [] K s=K s:=rfl
theorem kJ(op:Op):EZ P ops (⟨d,op,t,pos,af,none⟩::os) K s=Cb P ⟨d,op,t,pos,af,none⟩ (EZ P ops os K) s:=rfl
theorem j7(op:Op)(j:Nat)(b:Bool):EZ P ops (⟨d,op,t,pos,af,some (j,b)⟩::os) K s =
  Co (DN ops s j) b (Cb P ⟨d,op,t,pos,af,some (j,b)⟩ (EZ P ops os K)) (O1 d (EZ P ops os K)) s:=rfl
theorem bD(x:Operand):Cb P ⟨d,.move x,t,pos,af,g⟩ K s=K (pt s d (get s.s x)):=by simp[Cb,EB,AL,DP]
theorem SL(x:Operand):Cb P ⟨d,.assign x,t,pos,af,g⟩ K s=K (pt s d (get s.s x)):=by simp[Cb,EB,AL,DP]
theorem Uf(c a b:Operand):Cb P ⟨d,.pick c a b,t,pos,af,g⟩ K s=Fc (get s.s c) (get s.s a) (get s.s b) d K s:=rfl
theorem I3(f:FuncId)(xs:Array Operand)(ts:Array TypeId):Cb P ⟨d,.call ⟨.value (.func f),xs,ts⟩,t,pos,af,g⟩ K s=Ag P f (xs.toList.map (get s.s)) d K s:=rfl
theorem nE(x:Operand)(u:TypeId):Cb P ⟨d,.call ⟨.builtin .len,#[x],#[u]⟩,t,pos,af,g⟩ K s=AL (DP s d (CE P u s.h (get s.s x))) K:=rfl
theorem jW(x:Operand)(ts:Array TypeId):Cb P ⟨d,.call ⟨.builtin .real,#[x],ts⟩,t,pos,af,g⟩ K s=AL (DP s d (I9 false (get s.s x))) K:=rfl
theorem lA(x:Operand)(ts:Array TypeId):Cb P ⟨d,.call ⟨.builtin .imag,#[x],ts⟩,t,pos,af,g⟩ K s=AL (DP s d (I9 true (get s.s x))) K:=rfl
theorem kC(x y:Operand)(ts:Array TypeId):Cb P ⟨d,.call ⟨.builtin .complex,#[x,y],ts⟩,t,pos,af,g⟩ K s=AL (DP s d (Nv (get s.s x) (get s.s y))) K:=rfl
theorem mX(x y:Operand)(ts:Array TypeId):Cb P ⟨d,.call ⟨.builtin .max,#[x,y],ts⟩,t,pos,af,g⟩ K s=AL (DP s d (TK (get s.s x) (get s.s y))) K:=rfl
theorem hZ(k k2:IntKind)(a b:Int):TK (.v (.int k a)) (.v (.int k2 b))=some (.v (.int k (if b>a then b else a))):=rfl
theorem Zl(a b:Nat):I9 false (.v (.complex .f64 a b))=some (.v (.float .f64 a)):=rfl
theorem Y2(a b:Nat):I9 true (.v (.complex .f64 a b))=some (.v (.float .f64 b)):=rfl
theorem Yl(a b:Nat):Nv (.v (.float .f64 a)) (.v (.float .f64 b))=some (.v (.complex .f64 a b)):=rfl
theorem ZP(a b c e:Nat):fB .eql a b c e=some (True,.v (.bool (Mt a b c e))):=rfl
theorem aV(a b c e:Nat):fB .neq a b c e=some (True,.v (.bool (!Mt a b c e))):=rfl
theorem MJ(u:TypeId):Cb P ⟨d,.alloc u,t,pos,af,g⟩ K s=AL ((zeroT P u).bind fun z=>Im s d (some (True,.ptr s.h.length 0 0,s.h++[⟨0,u,zeroCells z⟩]))) K:=rfl
theorem VV(u:TypeId)(x:Operand):Cb P ⟨d,.box u x,t,pos,af,g⟩ K s=AL ((flat (get s.s x)).bind fun cs=>Im s d (some (True,.ptr s.h.length 0 0,s.h++[⟨0,u,cs⟩]))) K:=rfl
theorem bS(u:TypeId)(ps:Array (Nat×Operand)):Cb P ⟨d,.build u ps,t,pos,af,g⟩ K s=AL (DP s d (L4 P u (ps.toList.map fun (i,x)=>(i,get s.s x)))) K:=rfl
theorem Ip(u n:Nat)(ps:Array (Nat×Operand)):Cb P ⟨d,.buildSlice u n ps,t,pos,af,g⟩ K s=AL (Im s d ((Du P u n (ps.toList.map fun (i,x)=>(i,get s.s x)) s.h).map fun (r,h)=>(True,r,h))) K:=rfl
theorem TY(u:TypeId)(a:Operand):Cb P ⟨d,.load u a,t,pos,af,g⟩ K s=AL (DP s d (IE P u s.h (get s.s a))) K:=rfl
theorem Wf(u:TypeId)(a x:Operand):Cb P ⟨d,.store u a x,t,pos,af,g⟩ K s=AL ((Ji P u s.h (get s.s a) (get s.s x)).map fun h=>(True,pt { s with h } d .bad)) K:=rfl
def Ih(s:St)(d:Option Tmp):AV→SS
 |.ptr i ver off=>(Gw s.h i ver).bind fun _=>DP s d (some (.ptr i ver off))
 |.ela b cs=>DP s d (some (.ela b cs))
 |_=>none
theorem Ii(x:Operand):Cb P ⟨d,.nilCheck x,t,pos,af,g⟩ K s=AL (Ih s d (get s.s x)) K:=by
 simp only[Cb,EB];cases get s.s x<;>rfl
theorem fH(op:BinOp)(u v:TypeId)(x y:Operand):Cb P ⟨d,.binOp op u x y v,t,pos,af,g⟩ K s=AL (Jl s d (I7 P op u (isConst x || isConst y) (get s.s x) (get s.s y))) K:=rfl
theorem Vc(op:UnOp)(u:TypeId)(x:Operand):Cb P ⟨d,.unOp op u x,t,pos,af,g⟩ K s=AL (Jl s d (fW op (get s.s x))) K:=rfl
theorem JA(a b:TypeId)(x:Operand):Cb P ⟨d,.convert a b x,t,pos,af,g⟩ K s=AL (Im s d (CP P a b s.h (get s.s x))) K:=rfl
theorem Ta(u:TypeId)(x:Operand):Cb P ⟨d,.makeInterface u x,t,pos,af,g⟩ K s=AL (if Gt P u=some false then DP s d (some (.ifc u (get s.s x)))else none) K:=rfl
theorem TD(u:TypeId)(l c:Operand):Cb P ⟨d,.makeSlice u l c,t,pos,af,g⟩ K s=AL (Im s d (EI P u s.h (get s.s l) (get s.s c))) K:=rfl
theorem cX(u:TypeId)(x:Operand)(lo hi:Option Operand):Cb P ⟨d,.slice u x lo hi none,t,pos,af,g⟩ K s=AL (Jl s d (FO P u s.h (lo.map (get s.s)) (hi.map (get s.s)) (get s.s x))) K:=rfl
theorem J2(u:TypeId)(x:Operand)(f:Nat):Cb P ⟨d,.fieldAddr u x f,t,pos,af,g⟩ K s=AL (DP s d (D1 P u f s.h (get s.s x))) K:=rfl
theorem eY(u:TypeId)(x:Operand)(f:Nat):Cb P ⟨d,.field u x f,t,pos,af,g⟩ K s=AL (DP s d (LP P u f (get s.s x))) K:=rfl
theorem IX(u:TypeId)(x i:Operand):Cb P ⟨d,.indexAddr u x i,t,pos,af,g⟩ K s=AL (Jl s d (CL P u s.h (get s.s x) (get s.s i))) K:=rfl
theorem gU(u:TypeId)(x i:Operand):Cb P ⟨d,.index u x i,t,pos,af,g⟩ K s=AL (Jl s d (J0 P u (get s.s x) (get s.s i))) K:=rfl
theorem Xg(x:Operand)(i:Nat):Cb P ⟨d,.extract x i,t,pos,af,g⟩ K s=AL (DP s d (HV i (get s.s x))) K:=rfl
end
theorem Hc(d:Option Tmp)(r:AV):AL (DP s d (some r)) K=K (pt s d r):=by simp[AL,DP]
theorem Kw(d:Option Tmp)(p:Prop)(r:AV):AL (Jl s d (some (p,r))) K=(p∧K (pt s d r)):=rfl
theorem Tx(d:Option Tmp)(r:AV):AL (Jl s d (some (True,r))) K=K (pt s d r):=by simp[AL,Jl]
theorem Wz(d:Option Tmp)(r:AV):AL (Jl s d (EF r)) K=K (pt s d r):=by simp[AL,Jl,EF]
theorem Kq(d:Option Tmp)(p:Prop)(r:AV)(h:List Aa):AL (Im s d (some (p,r,h))) K=(p∧K (pt { s with h } d r)):=rfl
theorem TC(d:Option Tmp)(r:AV)(h:List Aa):AL (Im s d (some (True,r,h))) K=K (pt { s with h } d r):=by simp[AL,Im]
theorem RI(s':St):AL (some (True,s')) K=K s':=by simp[AL]
end
def I0(P:Program)(t t2:TypeId):Option (Nat×Nat×Nat):=
 if CO P t2=none∧(P.underlying t2).isSome=true then
  (Az P t).bind fun e=>(Aq P e).bind fun sz=>(Gx P e).bind fun by'=>(zeroT P e).bind fun z=>
   if (zeroCells z).length=sz∧0<sz∧0<by' then some (e,sz,by')else none
 else none
theorem Rl{P:Program}{t t2:TypeId}{h:List Aa}{x y:AV}:JD P #[t,t2] h x y =
  (I0 P t t2).bind fun q=>(OT h q.2.1 y).bind fun r=>JP h q.1 q.2.1 q.2.2 r.1 r.2.1 r.2.2 x:=by
 simp only[JD,I0];simp
 split
 ·cases Az P t<;>simp
  cases Aq P _<;>simp
  cases Gx P _<;>simp
  cases zeroT P _<;>simp
  split<;>simp
 ·simp
section
variable {P:Program} {s:St} {K:St→Prop} {t:TypeId} {d:Option Tmp} {pos:String} {af:Array Edge} {g:Option (Nat×Bool)}
theorem WL(x y:Operand)(u v:TypeId):Cb P ⟨d,.call ⟨.builtin .append,#[x,y],#[u,v]⟩,t,pos,af,g⟩ K s =
  AL (Im s d ((I0 P u v).bind fun q=>(OT s.h q.2.1 (get s.s y)).bind fun r=>JP s.h q.1 q.2.1 q.2.2 r.1 r.2.1 r.2.2 (get s.s x))) K:=by
 rw[←Rl];rfl
end
def Od(P:Program)(t:TypeId):Option (Nat×Nat×List AV):=
 (Az P t).bind fun e=>(Aq P e).bind fun sz=>(zeroT P e).bind fun z=>if (zeroCells z).length=sz∧0<sz then some (e,sz,zeroCells z)else none
theorem M3{P:Program}{t:TypeId}{len:Nat}{ps:List (Nat×AV)}{h:List Aa}:Du P t len ps h =
  (Od P t).bind fun q=>if len * q.2.1≤16777216 then (IA (fun i=>some (i * q.2.1,q.2.1)) ps (List.replicate len q.2.2).flatten).map fun l=>(.own h.length 0 len,h++[⟨0,q.1,l⟩])else none:=by
 simp only[Du,Od];cases Az P t<;>simp
 cases Aq P _<;>simp
 cases zeroT P _<;>simp
 rename_i e sz z
 by_cases h1:(zeroCells z).length=sz<;>by_cases h2:0<sz<;>by_cases h3:len * sz≤16777216<;>simp[h1,h2,h3,H0]
section
variable {P:Program} {s:St} {K:St→Prop} {t:TypeId} {d:Option Tmp} {pos:String} {af:Array Edge} {g:Option (Nat×Bool)}
theorem OZ(u n:Nat)(ps:Array (Nat×Operand)):Cb P ⟨d,.buildSlice u n ps,t,pos,af,g⟩ K s=AL (Im s d ((Od P u).bind fun q=>if n * q.2.1≤16777216 then (IA (fun i=>some (i * q.2.1,q.2.1)) (ps.toList.map fun x=>(x.1,get s.s x.2)) (List.replicate n q.2.2).flatten).map fun l=>(True,.own s.h.length 0 n,s.h++[⟨0,q.1,l⟩])else none)) K:=by
 rw[Ip,M3]
 congr 2
 cases Od P u<;>simp
 split<;>simp<;>rfl
end
set_option linter.defProp false in
def kS:=And.intro @nC (And.intro @Yz (And.intro @kD (And.intro @j8 (And.intro @l8 (And.intro @dD (And.intro @kW (And.intro @lI (And.intro @mN (And.intro @cO (And.intro @eT (And.intro @ZI (And.intro @lQ (And.intro @nQ (And.intro @kJ (And.intro @j7 (And.intro @bD (And.intro @SL (And.intro @Uf (And.intro @I3 (And.intro @nE (And.intro @Vc (And.intro @VV (And.intro @Vc (And.intro @TY (And.intro @Wf (And.intro @Ii (And.intro @fH (And.intro @Vc (And.intro @JA (And.intro @Ta (And.intro @TD (And.intro @cX (And.intro @J2 (And.intro @eY (And.intro @IX (And.intro @gU (And.intro @Xg (And.intro @Hc (And.intro @Tx (And.intro @Wz (And.intro @TC (And.intro @RI (And.intro @Kw (And.intro @Kq (And.intro @Uv (And.intro @cU (And.intro @cY (And.intro @dJ (And.intro @WM (And.intro @Us (And.intro @ZS (And.intro @WQ (And.intro @look_nil (And.intro @ZG (And.intro @QL (And.intro @Xk (And.intro @Uz (And.intro @Vb (And.intro @Mz (And.intro @Rh (And.intro @OC (And.intro @OW (And.intro @TX (And.intro @TB (And.intro @UJ (And.intro @T1 (And.intro @Th (And.intro @WE (And.intro @XM (And.intro @WI (And.intro @WO (And.intro @Y7 (And.intro @WL (@OZ)))))))))))))))))))))))))))))))))))))))))))))))))))))))))))))))))))))) ))))
end Go.Ev
