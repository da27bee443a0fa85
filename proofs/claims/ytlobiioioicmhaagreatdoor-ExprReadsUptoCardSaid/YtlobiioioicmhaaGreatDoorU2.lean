/- The evaluator: abstract values, and code carried out on them. -/
import Derived.Test.YtlobiioioicmhaaGreatDoorU1
import Derived.ScopeJumps
import Derived.Laws.LoneSync
import Derived.Lib.Bytealg
/- The same, as a function that computes: what simp runs. -/
namespace Go.Ev
set_option linter.all false
open Go Go.RowKit

def pt (s : St) (d : Option Tmp) (r : AV) : St := { s with s := putS s.s d r }
theorem pt_some (n : Nat) (l g : List (Nat × AV)) (h : List ABlk) (d : Nat) (r : AV) : pt ⟨⟨n, l, g⟩, h⟩ (some d) r = if d < n then ⟨⟨n, (d, r) :: l, g⟩, h⟩ else ⟨⟨n, l, g⟩, h⟩ := by
  by_cases hd : d < n <;> simp [pt, putS, hd]
theorem pt_none (s : St) (r : AV) : pt s none r = s := rfl
theorem get_tmp (s : Slots) (t : Nat) : get s (.tmp t) = look s.l t := rfl
theorem get_const (s : Slots) (x : Value) : get s (.const x) = ofV x := rfl
theorem get_global (s : Slots) (k : Nat) : get s (.global k) = look s.g k := rfl
theorem get_func (s : Slots) (f : Nat) : get s (.func f) = .v (.func (.func f) #[] #[]) := rfl
theorem look_cons (d : Nat) (r : AV) (l : List (Nat × AV)) (t : Nat) : look ((d, r) :: l) t = if d = t then r else look l t := rfl
theorem look_nil (t : Nat) : look [] t = .bad := rfl

abbrev SV := Option (Prop × AV)
abbrev SS := Option (Prop × St)
def okS (r : AV) : SV := some (True, r)

def intS (op : BinOp) (k : IntKind) (a b : Int) : SV :=
  match op with
  | .add => okS (.v (.int k (k.wrap (a + b))))
  | .sub => okS (.v (.int k (k.wrap (a - b))))
  | .mul => okS (.v (.int k (k.wrap (a * b))))
  | .quo => some (b ≠ 0, .v (.int k (k.wrap (a.tdiv b))))
  | .rem => some (b ≠ 0, .v (.int k (a.tmod b)))
  | .and => okS (.v (.int k (k.wrap (BitVec.ofInt k.bits a &&& BitVec.ofInt k.bits b).toNat)))
  | .or => okS (.v (.int k (k.wrap (BitVec.ofInt k.bits a ||| BitVec.ofInt k.bits b).toNat)))
  | .xor => okS (.v (.int k (k.wrap (BitVec.ofInt k.bits a ^^^ BitVec.ofInt k.bits b).toNat)))
  | .andNot => okS (.v (.int k (k.wrap (BitVec.ofInt k.bits a &&& ~~~BitVec.ofInt k.bits b).toNat)))
  | .eql => okS (.v (.bool (a == b)))
  | .neq => okS (.v (.bool (a != b)))
  | .lss => okS (.v (.bool (decide (a < b))))
  | .leq => okS (.v (.bool (decide (a ≤ b))))
  | .gtr => okS (.v (.bool (decide (b < a))))
  | .geq => okS (.v (.bool (decide (b ≤ a))))
  | .shl => some (0 ≤ b, .v (.int k (k.wrap (a * 2 ^ min b.toNat k.bits))))
  | .shr => some (0 ≤ b, .v (.int k (a.fdiv (2 ^ min b.toNat k.bits))))
def fltS (op : BinOp) (a b : Nat) : SV :=
  match op with
  | .add => okS (fltRes (FloatKind.f64.format.add a b))
  | .sub => okS (fltRes (FloatKind.f64.format.sub a b))
  | .mul => okS (fltRes (FloatKind.f64.format.mul a b))
  | .quo => okS (fltRes (FloatKind.f64.format.div a b))
  | .eql => okS (.v (.bool (FloatKind.f64.format.order a b == some .eq)))
  | .neq => okS (.v (.bool (FloatKind.f64.format.order a b != some .eq)))
  | .lss => okS (.v (.bool (FloatKind.f64.format.order a b == some .lt)))
  | .leq => okS (.v (.bool (FloatKind.f64.format.order a b == some .lt || FloatKind.f64.format.order a b == some .eq)))
  | .gtr => okS (.v (.bool (FloatKind.f64.format.order a b == some .gt)))
  | .geq => okS (.v (.bool (FloatKind.f64.format.order a b == some .gt || FloatKind.f64.format.order a b == some .eq)))
  | _ => none
def nanS (op : BinOp) : SV :=
  match op with
  | .add | .sub | .mul | .quo => okS .nan
  | .neq => okS (.v (.bool true))
  | .eql | .lss | .leq | .gtr | .geq => okS (.v (.bool false))
  | _ => none
def strS (op : BinOp) (x y : ByteArray) : SV :=
  match op with
  | .add => some (x.data.toList.length + y.data.toList.length ≤ 9223372036854775807, .v (.string ⟨(x.data.toList ++ y.data.toList).toArray⟩))
  | .eql => okS (.v (.bool (x.data.toList == y.data.toList)))
  | .neq => okS (.v (.bool (!(x.data.toList == y.data.toList))))
  | .lss => okS (.v (.bool (Op.bytesLess x.data.toList y.data.toList)))
  | .leq => okS (.v (.bool (Op.bytesLess x.data.toList y.data.toList || x.data.toList == y.data.toList)))
  | .gtr => okS (.v (.bool !(Op.bytesLess x.data.toList y.data.toList || x.data.toList == y.data.toList)))
  | .geq => okS (.v (.bool !Op.bytesLess x.data.toList y.data.toList))
  | _ => none
def boolS (op : BinOp) (a b : Bool) : SV :=
  match op with
  | .eql => okS (.v (.bool (a == b)))
  | .neq => okS (.v (.bool (!(a == b))))
  | _ => none
def nilS (op : BinOp) (same : Bool) : SV :=
  match op with
  | .eql => okS (.v (.bool same))
  | .neq => okS (.v (.bool (!same)))
  | _ => none
def cplS (op : BinOp) (a b c d : Nat) : SV :=
  match op with
  | .eql => okS (.v (.bool (cplEq a b c d)))
  | .neq => okS (.v (.bool (!(cplEq a b c d))))
  | _ => none
def binS (P : Program) (op : BinOp) (t : TypeId) (c : Bool) : AV → AV → SV
  | .v (.int k a), .v (.int k' b) => if k = k' ∨ op = .shl ∨ op = .shr then intS op k a b else none
  | .v (.float .f64 a), .v (.float .f64 b) => fltS op a b
  | .nan, .v (.float .f64 _) => nanS op
  | .v (.float .f64 _), .nan => nanS op
  | .nan, .nan => nanS op
  | .v (.string a), .v (.string b) => strS op a b
  | .v (.bool a), .v (.bool b) => if isBoolT P t = true then boolS op a b else none
  | .v .nilIface, .v .nilIface => if c = true ∧ ifcT P t = some true then nilS op true else none
  | .ifc _ _, .v .nilIface => if ifcT P t = some true then nilS op false else none
  | .v .nilIface, .ifc _ _ => if ifcT P t = some true then nilS op false else none
  | .ifc tx (.v (.int k a)), .ifc ty (.v (.int k' b)) => if ifcT P t = some true then (if tx = ty then (if k = k' ∧ intT P tx = some k ∧ cmpT P tx = some true then nilS op (a == b) else none) else nilS op false) else none
  | .v (.complex .f64 a b), .v (.complex .f64 c d) => cplS op a b c d
  | _, _ => none
where
  isBoolT (P : Program) (t : TypeId) : Bool := match P.underlying t with | some .bool => true | _ => false
def unS : UnOp → AV → SV
  | .not, .v (.bool b) => okS (.v (.bool (!b)))
  | .neg, .v (.int k n) => okS (.v (.int k (k.wrap (0 - n))))
  | .neg, .v (.float .f64 b) => okS (.v (.float .f64 (Op.negFloat .f64 b)))
  | _, _ => none
/-- Out of known cells. -/
def take1 (cs : List AV) : Option AV := cs[0]?
def takeS (P : Program) (t : TypeId) (cs : List AV) : Option AV :=
  (aggT P t).bind fun b => if b = true then (sizeT P t).bind fun n => if n ≤ cs.length then some (.agg (cs.take n)) else none else take1 cs
def blkS (h : List ABlk) (i ver : Nat) : Option ABlk := (h[i]?).bind fun k => if ver = k.ver then some k else none
def loadS (P : Program) (t : TypeId) (h : List ABlk) : AV → Option AV
  | .ptr i ver off => (blkS h i ver).bind fun k => takeS P t (k.cells.drop off)
  | .ela _ cs => takeS P t cs
  | _ => none
def storeS (P : Program) (t : TypeId) (h : List ABlk) : AV → AV → Option (List ABlk)
  | .ptr i ver off, x => (blkS h i ver).bind fun k => (flat x).bind fun cs => if sizeT P t = some cs.length ∧ off + cs.length ≤ k.cells.length then some (h.set i { k with cells := setMany k.cells off cs }) else none
  | _, _ => none
def fieldAddrS (P : Program) (t f : Nat) (h : List ABlk) : AV → Option AV
  | .ptr i ver off => (fieldT P t f).bind fun (o, ft) => (sizeT P ft).bind fun n => if n ≠ 0 then (blkS h i ver).bind fun _ => some (.ptr i ver (off + o)) else none
  | .ela b cs => (fieldT P t f).bind fun (o, ft) => (sizeT P ft).bind fun n => if n ≠ 0 then some (.ela b (cs.drop o)) else none
  | _ => none
def indexAddrS (P : Program) (t : Nat) (h : List ABlk) : AV → AV → SV
  | .sl b n _ cs, .v (.int _ i) => (elemT P t).bind fun e => (sizeT P e).bind fun sz => some (0 ≤ i ∧ i < n, .ela b (cs.drop (i.toNat * sz)))
  | .own j ver n, .v (.int _ i) => (blkS h j ver).bind fun _ => (elemT P t).bind fun e => (sizeT P e).bind fun sz => some (0 ≤ i ∧ i < n, .ptr j ver (i.toNat * sz))
  | .ptr j ver off, .v (.int _ i) => (blkS h j ver).bind fun _ => (arrT P t).bind fun (n, e) => (sizeT P e).bind fun sz => some (0 ≤ i ∧ i < n, .ptr j ver (off + i.toNat * sz))
  | _, _ => none
def indexS (P : Program) (t : Nat) : AV → AV → SV
  | .v (.string s), .v (.int _ i) => if strT P t = true then some (0 ≤ i ∧ i < (s.data.toList.length : Int), .v (.int .u8 (sAt s i.toNat))) else none
  | .agg cs, .v (.int _ i) => (arrT P t).bind fun (n, e) => (sizeT P e).bind fun sz => (takeS P e (cs.drop (i.toNat * sz))).bind fun r => some (0 ≤ i ∧ i < n, r)
  | _, _ => none
def boundS : Option AV → Nat → Option (Prop × Nat)
  | none, d => some (True, d)
  | some (.v (.int _ i)), _ => some (0 ≤ i, i.toNat)
  | _, _ => none
def sliceS (P : Program) (t : Nat) (h : List ABlk) (lo hi : Option AV) : AV → SV
  | .v (.string b) => if strT P t = true then (boundS hi b.data.toList.length).bind fun (p, h) => (boundS lo 0).bind fun (q, l) =>
      some (p ∧ h ≤ b.data.toList.length ∧ q ∧ l ≤ h, .v (.string ⟨((b.data.toList.take h).drop l).toArray⟩)) else none
  | .sl b n m cs => (elemT P t).bind fun e => (sizeT P e).bind fun sz => (boundS hi n).bind fun (p, h) => (boundS lo 0).bind fun (q, l) =>
      some (cs.length ≤ m * sz ∧ p ∧ h ≤ m ∧ q ∧ l ≤ h, .sl b (h - l) (m - l) (cs.drop (l * sz)))
  | .own i ver n => (elemT P t).bind fun e => (sizeT P e).bind fun sz => (blkS h i ver).bind fun _ => (boundS hi n).bind fun (p, h) => (boundS lo 0).bind fun (q, l) =>
      some (p ∧ h ≤ n ∧ q ∧ l ≤ h ∧ l = 0, .own i ver h)
  | .v (.slice none 0 0) => (elemT P t).bind fun e => (sizeT P e).bind fun sz => (boundS hi 0).bind fun (p, h) => (boundS lo 0).bind fun (q, l) =>
      some (p ∧ h ≤ 0 ∧ q ∧ l ≤ h, .v (.slice none 0 0))
  | _ => none
def srcS (h : List ABlk) (sz : Nat) : AV → Option (Prop × Nat × List AV)
  | .sl _ n _ cs => some (n * sz ≤ cs.length, n, cs.take (n * sz))
  | .own i ver n => (blkS h i ver).bind fun k => some (n * sz ≤ k.cells.length, n, k.cells.take (n * sz))
  | .v (.slice none 0 0) => some (True, 0, [])
  | .v (.string b) => if sz = 1 then some (True, b.data.toList.length, b.data.toList.map byteC) else none
  | _ => none
/-- An append onto a row of the call's own, or onto nil of at least one element. -/
def ontoS (h : List ABlk) (e sz by' : Nat) (p : Prop) (n : Nat) (new : List AV) : AV → Option (Prop × AV × List ABlk)
  | .v (.slice none 0 0) => if n = 0 then some (p ∧ new.all oneA = true, .v (.slice none 0 0), h) else some (p ∧ new.all oneA = true ∧ n * by' ≤ 140737488355328, .own h.length 0 n, h ++ [⟨0, e, new⟩])
  | .own i ver m => (blkS h i ver).bind fun k => if k.e = e then some (p ∧ new.all oneA = true ∧ m * sz ≤ k.cells.length ∧ (m + n) * by' ≤ 140737488355328, .own i (ver + 1) (m + n), h.set i ⟨ver + 1, e, k.cells.take (m * sz) ++ new⟩) else none
  | _ => none
def appendS (P : Program) (ts : Array TypeId) (h : List ABlk) (x y : AV) : Option (Prop × AV × List ABlk) :=
  (ts[0]?).bind fun t => (ts[1]?).bind fun t2 => if intT P t2 = none ∧ (P.underlying t2).isSome = true then
    (elemT P t).bind fun e => (sizeT P e).bind fun sz => (bytesT P e).bind fun by' => (zeroT P e).bind fun z =>
      if (zeroCells z).length = sz ∧ 0 < sz ∧ 0 < by' then (srcS h sz y).bind fun (p, n, new) => ontoS h e sz by' p n new x else none
  else none
def fillS (place : Nat → Option (Nat × Nat)) : List (Nat × AV) → List AV → Option (List AV)
  | [], l => some l
  | (i, x) :: r, l => (place i).bind fun (o, n) => (flat x).bind fun cs => if cs.length = n ∧ o + n ≤ l.length then fillS place r (setMany l o cs) else none
def buildS (P : Program) (t : TypeId) (ps : List (Nat × AV)) : Option AV :=
  (zeroT P t).bind fun z => match placesT P t with
    | some pl => (fillS (pl[·]?) ps (zeroCells z)).map .agg
    | none => (arrT P t).bind fun (_, e) => (sizeT P e).bind fun sz => (fillS (fun i => some (i * sz, sz)) ps (zeroCells z)).map .agg
def buildSliceS (P : Program) (t : TypeId) (len : Nat) (ps : List (Nat × AV)) (h : List ABlk) : Option (AV × List ABlk) :=
  (elemT P t).bind fun e => (sizeT P e).bind fun sz => (zeroT P e).bind fun z =>
    if (zeroCells z).length = sz ∧ 0 < sz ∧ len * sz ≤ 16777216 then (fillS (fun i => some (i * sz, sz)) ps (rowsA z len)).map fun l => (.own h.length 0 len, h ++ [⟨0, e, l⟩]) else none
def makeSliceS (P : Program) (t : TypeId) (h : List ABlk) : AV → AV → Option (Prop × AV × List ABlk)
  | .v (.int _ n), .v (.int _ c) => (elemT P t).bind fun e => (sizeT P e).bind fun sz => (bytesT P e).bind fun by' => (zeroT P e).bind fun z =>
      if (zeroCells z).length = sz ∧ 0 < sz then some (0 ≤ n ∧ n ≤ c ∧ c < 9223372036854775808 ∧ c * by' ≤ 140737488355328, .own h.length 0 n.toNat, h ++ [⟨0, e, rowsA z c.toNat⟩]) else none
  | _, _ => none
def strOf (cs : List AV) : Option AV := (bytesOfA cs).map fun l => .v (.string ⟨l.toArray⟩)
def convertS (P : Program) (src dst : TypeId) (h : List ABlk) : AV → Option (Prop × AV × List ABlk)
  | .v (.int _ n) => if (P.underlying src).isSome = true then
      (match intT P dst with
       | some k => some (True, .v (.int k (k.wrap n)), h)
       | none => if fltT P dst = some .f64 then some (True, .v (.float .f64 (FloatKind.f64.nearest n)), h) else if strT P dst = true then some (True, .v (.string (Utf8.encode n)), h) else none) else none
  | .v (.float .f64 b) => if (P.underlying src).isSome = true then (intT P dst).bind fun k => (f2i b k).map fun n => (True, .v (.int k n), h) else none
  | .v (.string b) => if strT P dst = true then (if (P.underlying src).isSome = true then some (True, .v (.string b), h) else none) else
      (elemT P dst).bind fun e => if strT P src = true ∧ intT P e = some .u8 ∧ sizeT P e = some 1 then some (b.data.toList.length < 4611686018427387904, .own h.length 0 b.data.toList.length, h ++ [⟨0, e, b.data.toList.map byteC⟩]) else none
  | .sl _ n _ cs => if strT P dst = true ∧ (elemT P src).bind (intT P) = some .u8 then (strOf (cs.take n)).map fun r => (n ≤ cs.length, r, h) else none
  | .own i ver n => if strT P dst = true ∧ (elemT P src).bind (intT P) = some .u8 then (blkS h i ver).bind fun k => (strOf (k.cells.take n)).map fun r => (n ≤ k.cells.length, r, h) else none
  | .v (.slice none 0 0) => if strT P dst = true ∧ (elemT P src).bind (intT P) = some .u8 then some (True, .v (.string ⟨#[]⟩), h) else none
  | _ => none
def lenS (P : Program) (t : TypeId) (h : List ABlk) : AV → Option AV
  | .v (.string b) => if strT P t = true then some (.v (.int .i64 b.data.toList.length)) else none
  | .v (.slice none 0 0) => if (elemT P t).isSome = true then some (.v (.int .i64 0)) else none
  | .sl _ n _ _ => if (elemT P t).isSome = true then some (.v (.int .i64 n)) else none
  | .own i ver n => if (elemT P t).isSome = true then (blkS h i ver).bind fun _ => some (.v (.int .i64 n)) else none
  | _ => none
def extractS (i : Nat) : AV → Option AV
  | .tup cs => cs[i]?
  | _ => none
def fieldS (P : Program) (t f : Nat) : AV → Option AV
  | .agg cs => (fieldT P t f).bind fun (o, ft) => takeS P ft (cs.drop o)
  | _ => none

def retV (s : St) (d : Option Tmp) (r : Option AV) : SS := r.map fun r => (True, pt s d r)
def retP (s : St) (d : Option Tmp) (r : SV) : SS := r.map fun r => (r.1, pt s d r.2)
def retH (s : St) (d : Option Tmp) (r : Option (Prop × AV × List ABlk)) : SS := r.map fun r => (r.1, pt { s with h := r.2.2 } d r.2.1)
def builtinS (P : Program) : Callee → List Operand → Array TypeId → St → Option Tmp → SS
  | .builtin .len, x :: _, ts, s, d => (ts[0]?).bind fun t => retV s d (lenS P t s.h (get s.s x))
  | .builtin .append, [x, y], ts, s, d => retH s d (appendS P ts s.h (get s.s x) (get s.s y))
  | .builtin .real, [x], _, s, d => retV s d (partS false (get s.s x))
  | .builtin .imag, [x], _, s, d => retV s d (partS true (get s.s x))
  | .builtin .complex, [x, y], _, s, d => retV s d (compS (get s.s x) (get s.s y))
  | .builtin .max, [x, y], _, s, d => retV s d (maxS (get s.s x) (get s.s y))
  | _, _, _, _, _ => none
/-- One operation, where it neither parts the ways nor calls. -/
def stepS (P : Program) (o : Oper) (s : St) : SS :=
  match o.op with
  | .move x | .assign x => retV s o.dst (some (get s.s x))
  | .alloc t => (zeroT P t).bind fun z => retH s o.dst (some (True, .ptr s.h.length 0 0, s.h ++ [⟨0, t, zeroCells z⟩]))
  | .box t x => (flat (get s.s x)).bind fun cs => retH s o.dst (some (True, .ptr s.h.length 0 0, s.h ++ [⟨0, t, cs⟩]))
  | .build t ps => retV s o.dst (buildS P t (ps.toList.map fun (i, x) => (i, get s.s x)))
  | .buildSlice t n ps => retH s o.dst ((buildSliceS P t n (ps.toList.map fun (i, x) => (i, get s.s x)) s.h).map fun (r, h) => (True, r, h))
  | .load t a => retV s o.dst (loadS P t s.h (get s.s a))
  | .store t a x => (storeS P t s.h (get s.s a) (get s.s x)).map fun h => (True, pt { s with h } o.dst .bad)
  | .nilCheck x => (match get s.s x with
    | .ptr i ver off => (blkS s.h i ver).bind fun _ => retV s o.dst (some (.ptr i ver off))
    | .ela b cs => retV s o.dst (some (.ela b cs))
    | _ => none)
  | .binOp op t x y _ => retP s o.dst (binS P op t (isConst x || isConst y) (get s.s x) (get s.s y))
  | .unOp op _ x => retP s o.dst (unS op (get s.s x))
  | .convert a b x => retH s o.dst (convertS P a b s.h (get s.s x))
  | .makeInterface t x => if ifcT P t = some false then retV s o.dst (some (.ifc t (get s.s x))) else none
  | .makeSlice t l c => retH s o.dst (makeSliceS P t s.h (get s.s l) (get s.s c))
  | .slice t x lo hi none => retP s o.dst (sliceS P t s.h (lo.map (get s.s)) (hi.map (get s.s)) (get s.s x))
  | .fieldAddr t x f => retV s o.dst (fieldAddrS P t f s.h (get s.s x))
  | .field t x f => retV s o.dst (fieldS P t f (get s.s x))
  | .indexAddr t x i => retP s o.dst (indexAddrS P t s.h (get s.s x) (get s.s i))
  | .index t x i => retP s o.dst (indexS P t (get s.s x) (get s.s i))
  | .extract t i => retV s o.dst (extractS i (get s.s t))
  | .call c => builtinS P c.callee c.args.toList c.argTypes s o.dst
  | _ => none

/-! ### It is what the evaluator says -/
theorem blkS_eq {h : List ABlk} {i ver : Nat} {k : ABlk} (e : blkS h i ver = some k) : h[i]? = some k ∧ ver = k.ver := by
  unfold blkS at e
  cases hh : h[i]? with
  | none => simp [hh] at e
  | some k' => simp [hh] at e; obtain ⟨e1, rfl⟩ := e; exact ⟨rfl, e1⟩
theorem takeS_eq {P : Program} {t : TypeId} {cs : List AV} {r : AV} (e : takeS P t cs = some r) {K : AV → Prop} (hk : K r) : takeA P t cs K := by
  unfold takeS at e
  unfold takeA
  cases ha : aggT P t with
  | none => simp [ha] at e
  | some b =>
    cases b with
    | true =>
      cases hs : sizeT P t with
      | none => simp [ha, hs] at e
      | some n =>
        simp [ha, hs] at e
        obtain ⟨e1, rfl⟩ := e
        exact ⟨n, rfl, e1, hk⟩
    | false => simp [ha, take1] at e; exact ⟨r, e, hk⟩
theorem loadS_eq {P : Program} {t : TypeId} {s : St} {x r : AV} (e : loadS P t s.h x = some r) {K : AV → Prop} (hk : K r) : loadA P t s x K := by
  unfold loadS at e
  split at e
  · rename_i i ver off
    obtain ⟨k, hb, e⟩ := Option.bind_eq_some_iff.1 e
    obtain ⟨h1, h2⟩ := blkS_eq hb
    exact ⟨k, h1, h2, takeS_eq e hk⟩
  · exact takeS_eq e hk
  · cases e
theorem intS_eq {P : Program} {t : TypeId} {ox oy : Operand} {op : BinOp} {k k' : IntKind} {a b : Int} {p : Prop} {r : AV} (hk' : k = k' ∨ op = .shl ∨ op = .shr) (e : intS op k a b = some (p, r)) (hp : p) {K : AV → Prop} (hk : K r) :
    binA P op t ox oy (.v (.int k a)) (.v (.int k' b)) K := by
  cases op <;> simp only [intS, okS, Option.some.injEq, Prod.mk.injEq] at e <;> obtain ⟨rfl, rfl⟩ := e <;> simp only [binA, shiftA, intA] <;> simp_all
theorem binS_eq {P : Program} {op : BinOp} {t : TypeId} {ox oy : Operand} {x y r : AV} {p : Prop} (e : binS P op t (isConst ox || isConst oy) x y = some (p, r)) (hp : p) {K : AV → Prop} (hk : K r) : binA P op t ox oy x y K := by
  unfold binS at e
  split at e
  · split at e
    · rename_i hc; exact intS_eq hc e hp hk
    · cases e
  · cases op <;> simp only [fltS, okS, Option.some.injEq, Prod.mk.injEq, reduceCtorEq] at e <;> obtain ⟨rfl, rfl⟩ := e <;> exact hk
  · cases op <;> simp only [nanS, okS, Option.some.injEq, Prod.mk.injEq, reduceCtorEq] at e <;> obtain ⟨rfl, rfl⟩ := e <;> exact hk
  · cases op <;> simp only [nanS, okS, Option.some.injEq, Prod.mk.injEq, reduceCtorEq] at e <;> obtain ⟨rfl, rfl⟩ := e <;> exact hk
  · cases op <;> simp only [nanS, okS, Option.some.injEq, Prod.mk.injEq, reduceCtorEq] at e <;> obtain ⟨rfl, rfl⟩ := e <;> exact hk
  · cases op <;> simp only [strS, okS, Option.some.injEq, Prod.mk.injEq, reduceCtorEq] at e <;> obtain ⟨rfl, rfl⟩ := e <;> first | exact hk | exact ⟨hp, hk⟩
  · split at e
    · rename_i hb
      have hb' : P.underlying t = some .bool := by
        unfold binS.isBoolT at hb
        split at hb
        · assumption
        · cases hb
      cases op <;> simp only [boolS, okS, Option.some.injEq, Prod.mk.injEq, reduceCtorEq] at e <;> obtain ⟨rfl, rfl⟩ := e <;> exact ⟨hb', hk⟩
    · cases e
  · split at e
    · rename_i hc
      cases op <;> simp only [nilS, okS, Option.some.injEq, Prod.mk.injEq, reduceCtorEq] at e <;> obtain ⟨rfl, rfl⟩ := e <;> exact ⟨hc.1, hc.2, hk⟩
    · cases e
  · split at e
    · rename_i hc
      cases op <;> simp only [nilS, okS, Option.some.injEq, Prod.mk.injEq, reduceCtorEq] at e <;> obtain ⟨rfl, rfl⟩ := e <;> exact ⟨hc, hk⟩
    · cases e
  · split at e
    · rename_i hc
      cases op <;> simp only [nilS, okS, Option.some.injEq, Prod.mk.injEq, reduceCtorEq] at e <;> obtain ⟨rfl, rfl⟩ := e <;> exact ⟨hc, hk⟩
    · cases e
  · split at e
    · rename_i hc
      split at e
      · rename_i hty
        split at e
        · rename_i hk2
          cases op <;> simp only [nilS, okS, Option.some.injEq, Prod.mk.injEq, reduceCtorEq] at e <;> obtain ⟨rfl, rfl⟩ := e <;> exact ⟨hc, .inr ⟨hty, hk2.1, hk2.2.1, hk2.2.2, hk⟩⟩
        · cases e
      · rename_i hty
        cases op <;> simp only [nilS, okS, Option.some.injEq, Prod.mk.injEq, reduceCtorEq] at e <;> obtain ⟨rfl, rfl⟩ := e <;> exact ⟨hc, .inl ⟨hty, hk⟩⟩
    · cases e
  · cases op <;> simp only [cplS, okS, Option.some.injEq, Prod.mk.injEq, reduceCtorEq] at e <;> obtain ⟨rfl, rfl⟩ := e <;> exact hk
  · cases e
theorem unS_eq {op : UnOp} {x r : AV} {p : Prop} (e : unS op x = some (p, r)) (hp : p) {K : AV → Prop} (hk : K r) : unA op x K := by
  unfold unS at e
  split at e <;> first | cases e; done | (simp only [okS, Option.some.injEq, Prod.mk.injEq] at e; obtain ⟨rfl, rfl⟩ := e; exact hk)
theorem storeS_eq {P : Program} {t : TypeId} {s : St} {x y : AV} {h : List ABlk} (e : storeS P t s.h x y = some h) {K : St → Prop} (hk : K { s with h }) : storeA P t s x y K := by
  unfold storeS at e
  split at e
  · obtain ⟨k, hb, e⟩ := Option.bind_eq_some_iff.1 e
    obtain ⟨cs, hf, e⟩ := Option.bind_eq_some_iff.1 e
    obtain ⟨h1, h2⟩ := blkS_eq hb
    split at e
    · rename_i hc
      cases e
      exact ⟨k, cs, h1, h2, hf, hc.1, hc.2, hk⟩
    · cases e
  · cases e
theorem fieldAddrS_eq {P : Program} {t f : Nat} {s : St} {x r : AV} (e : fieldAddrS P t f s.h x = some r) {K : AV → Prop} (hk : K r) : fieldAddrA P t s x f K := by
  unfold fieldAddrS at e
  split at e
  · obtain ⟨⟨o, ft⟩, h1, e⟩ := Option.bind_eq_some_iff.1 e
    obtain ⟨n, h2, e⟩ := Option.bind_eq_some_iff.1 e
    split at e
    · rename_i hn
      obtain ⟨k, hb, e⟩ := Option.bind_eq_some_iff.1 e
      cases e
      exact ⟨o, ft, n, h1, h2, hn, ⟨k, (blkS_eq hb).1, (blkS_eq hb).2⟩, hk⟩
    · cases e
  · obtain ⟨⟨o, ft⟩, h1, e⟩ := Option.bind_eq_some_iff.1 e
    obtain ⟨n, h2, e⟩ := Option.bind_eq_some_iff.1 e
    split at e
    · rename_i hn
      cases e
      exact ⟨o, ft, n, h1, h2, hn, hk⟩
    · cases e
  · cases e
theorem indexAddrS_eq {P : Program} {t : Nat} {s : St} {x y r : AV} {p : Prop} (e : indexAddrS P t s.h x y = some (p, r)) (hp : p) {K : AV → Prop} (hk : K r) : indexAddrA P t s x y K := by
  unfold indexAddrS at e
  split at e
  · obtain ⟨e', h1, e⟩ := Option.bind_eq_some_iff.1 e
    obtain ⟨sz, h2, e⟩ := Option.bind_eq_some_iff.1 e
    cases e
    exact ⟨e', sz, h1, h2, hp.1, hp.2, hk⟩
  · obtain ⟨k, hb, e⟩ := Option.bind_eq_some_iff.1 e
    obtain ⟨e', h1, e⟩ := Option.bind_eq_some_iff.1 e
    obtain ⟨sz, h2, e⟩ := Option.bind_eq_some_iff.1 e
    cases e
    exact ⟨k, e', sz, (blkS_eq hb).1, (blkS_eq hb).2, h1, h2, hp.1, hp.2, hk⟩
  · obtain ⟨k, hb, e⟩ := Option.bind_eq_some_iff.1 e
    obtain ⟨⟨n, e'⟩, h1, e⟩ := Option.bind_eq_some_iff.1 e
    obtain ⟨sz, h2, e⟩ := Option.bind_eq_some_iff.1 e
    cases e
    exact ⟨⟨k, (blkS_eq hb).1, (blkS_eq hb).2⟩, n, e', sz, h1, h2, hp.1, hp.2, hk⟩
  · cases e
theorem indexS_eq {P : Program} {t : Nat} {x y r : AV} {p : Prop} (e : indexS P t x y = some (p, r)) (hp : p) {K : AV → Prop} (hk : K r) : indexA P t x y K := by
  unfold indexS at e
  split at e
  · split at e
    · rename_i hs
      cases e
      exact ⟨hs, hp.1, hp.2, hk⟩
    · cases e
  · obtain ⟨⟨n, e'⟩, h1, e⟩ := Option.bind_eq_some_iff.1 e
    obtain ⟨sz, h2, e⟩ := Option.bind_eq_some_iff.1 e
    obtain ⟨r', h3, e⟩ := Option.bind_eq_some_iff.1 e
    cases e
    exact ⟨n, e', sz, h1, h2, hp.1, hp.2, takeS_eq h3 hk⟩
  · cases e
theorem boundS_eq {x : Option AV} {d n : Nat} {p : Prop} (e : boundS x d = some (p, n)) (hp : p) {K : Nat → Prop} (hk : K n) : boundA x d K := by
  unfold boundS at e
  split at e
  · cases e; exact hk
  · cases e; exact ⟨hp, hk⟩
  · cases e
theorem sliceS_eq {P : Program} {t : Nat} {s : St} {x r : AV} {lo hi : Option AV} {p : Prop} (e : sliceS P t s.h lo hi x = some (p, r)) (hp : p) {K : AV → Prop} (hk : K r) : sliceA P t s x lo hi none K := by
  refine ⟨rfl, ?_⟩
  unfold sliceS at e
  split at e
  · split at e
    · rename_i hs
      obtain ⟨⟨p1, h⟩, h1, e⟩ := Option.bind_eq_some_iff.1 e
      obtain ⟨⟨q1, l⟩, h2, e⟩ := Option.bind_eq_some_iff.1 e
      cases e
      exact ⟨hs, boundS_eq h1 hp.1 ⟨hp.2.1, boundS_eq h2 hp.2.2.1 ⟨hp.2.2.2, hk⟩⟩⟩
    · cases e
  · obtain ⟨e', g1, e⟩ := Option.bind_eq_some_iff.1 e
    obtain ⟨sz, g2, e⟩ := Option.bind_eq_some_iff.1 e
    obtain ⟨⟨p1, h⟩, h1, e⟩ := Option.bind_eq_some_iff.1 e
    obtain ⟨⟨q1, l⟩, h2, e⟩ := Option.bind_eq_some_iff.1 e
    cases e
    exact ⟨e', sz, g1, g2, hp.1, boundS_eq h1 hp.2.1 ⟨hp.2.2.1, boundS_eq h2 hp.2.2.2.1 ⟨hp.2.2.2.2, hk⟩⟩⟩
  · obtain ⟨e', g1, e⟩ := Option.bind_eq_some_iff.1 e
    obtain ⟨sz, g2, e⟩ := Option.bind_eq_some_iff.1 e
    obtain ⟨k, hb, e⟩ := Option.bind_eq_some_iff.1 e
    obtain ⟨⟨p1, h⟩, h1, e⟩ := Option.bind_eq_some_iff.1 e
    obtain ⟨⟨q1, l⟩, h2, e⟩ := Option.bind_eq_some_iff.1 e
    cases e
    exact ⟨e', k, sz, g1, g2, (blkS_eq hb).1, (blkS_eq hb).2, boundS_eq h1 hp.1 ⟨hp.2.1, boundS_eq h2 hp.2.2.1 ⟨hp.2.2.2.1, hp.2.2.2.2, hk⟩⟩⟩
  · obtain ⟨e', g1, e⟩ := Option.bind_eq_some_iff.1 e
    obtain ⟨sz, g2, e⟩ := Option.bind_eq_some_iff.1 e
    obtain ⟨⟨p1, h⟩, h1, e⟩ := Option.bind_eq_some_iff.1 e
    obtain ⟨⟨q1, l⟩, h2, e⟩ := Option.bind_eq_some_iff.1 e
    cases e
    exact ⟨e', sz, g1, g2, boundS_eq h1 hp.1 ⟨hp.2.1, boundS_eq h2 hp.2.2.1 ⟨hp.2.2.2, hk⟩⟩⟩
  · cases e
theorem srcS_eq {s : St} {sz n : Nat} {y : AV} {new : List AV} {p : Prop} (e : srcS s.h sz y = some (p, n, new)) (hp : p) {K : Nat → List AV → Prop} (hk : K n new) : srcA s sz y K := by
  unfold srcS at e
  split at e
  · cases e; exact ⟨hp, hk⟩
  · obtain ⟨k, hb, e⟩ := Option.bind_eq_some_iff.1 e
    cases e
    exact ⟨k, (blkS_eq hb).1, (blkS_eq hb).2, hp, hk⟩
  · cases e; exact hk
  · split at e
    · cases e; rename_i h; exact ⟨h, hk⟩
    · cases e
  · cases e
theorem ontoS_p {h : List ABlk} {e sz by' n : Nat} {p q : Prop} {new : List AV} {x r : AV} {h' : List ABlk} (hh : ontoS h e sz by' p n new x = some (q, r, h')) (hq : q) : p := by
  unfold ontoS at hh
  split at hh
  · split at hh <;> (cases hh; exact hq.1)
  · obtain ⟨k, hb, hh⟩ := Option.bind_eq_some_iff.1 hh
    split at hh
    · cases hh; exact hq.1
    · cases hh
  · cases hh
theorem ontoS_eq {s : St} {e sz by' n : Nat} {p q : Prop} {new : List AV} {x r : AV} {h' : List ABlk} (hh : ontoS s.h e sz by' p n new x = some (q, r, h')) (hq : q) {K : AV → St → Prop} (hk : K r { s with h := h' }) : new.all oneA = true ∧ ontoA s e sz by' n new K x := by
  unfold ontoS at hh
  split at hh
  · split at hh
    · rename_i hn
      cases hh
      exact ⟨hq.2, .inl ⟨hn, hk⟩⟩
    · rename_i hn
      cases hh
      exact ⟨hq.2.1, .inr ⟨Nat.pos_of_ne_zero hn, hq.2.2, hk⟩⟩
  · obtain ⟨k, hb, hh⟩ := Option.bind_eq_some_iff.1 hh
    split at hh
    · rename_i hke
      cases hh
      exact ⟨hq.2.1, k, (blkS_eq hb).1, (blkS_eq hb).2, hke, hq.2.2.1, .inr ⟨hq.2.2.2, hk⟩⟩
    · cases hh
  · cases hh
theorem appendS_eq {P : Program} {ts : Array TypeId} {s : St} {x y r : AV} {h : List ABlk} {p : Prop} (e : appendS P ts s.h x y = some (p, r, h)) (hp : p) {K : AV → St → Prop} (hk : K r { s with h }) : appendA P ts s x y K := by
  unfold appendS at e
  obtain ⟨t, h1, e⟩ := Option.bind_eq_some_iff.1 e
  obtain ⟨t2, h2, e⟩ := Option.bind_eq_some_iff.1 e
  split at e
  · rename_i hi
    obtain ⟨e', h3, e⟩ := Option.bind_eq_some_iff.1 e
    obtain ⟨sz, h4, e⟩ := Option.bind_eq_some_iff.1 e
    obtain ⟨by', h5, e⟩ := Option.bind_eq_some_iff.1 e
    obtain ⟨z, h6, e⟩ := Option.bind_eq_some_iff.1 e
    split at e
    · rename_i hz
      obtain ⟨⟨p1, n, new⟩, h7, e⟩ := Option.bind_eq_some_iff.1 e
      refine ⟨t, t2, e', sz, by', z, h6, hz.1, h1, h2, hi.1, hi.2, h3, h4, h5, hz.2.1, hz.2.2, ?_⟩
      exact srcS_eq h7 (ontoS_p e hp) (ontoS_eq e hp hk)
    · cases e
  · cases e
theorem fillS_eq {place : Nat → Option (Nat × Nat)} {s : Slots} : ∀ {ps : List (Nat × Operand)} {l r : List AV}, fillS place (ps.map fun (i, x) => (i, get s x)) l = some r → ∀ {K : List AV → Prop}, K r → fillA place (get s) ps l K
  | [], l, r, e, K, hk => by cases e; exact hk
  | (i, x) :: ps, l, r, e, K, hk => by
    simp only [List.map_cons, fillS] at e
    obtain ⟨⟨o, n⟩, h1, e⟩ := Option.bind_eq_some_iff.1 e
    obtain ⟨cs, h2, e⟩ := Option.bind_eq_some_iff.1 e
    split at e
    · rename_i hc
      exact ⟨o, n, cs, h1, h2, hc.1, hc.2, fillS_eq e hk⟩
    · cases e
theorem buildS_eq {P : Program} {t : TypeId} {ps : Array (Nat × Operand)} {s : Slots} {r : AV} (e : buildS P t (ps.toList.map fun (i, x) => (i, get s x)) = some r) {K : AV → Prop} (hk : K r) : buildA P t ps (get s) K := by
  unfold buildS at e
  obtain ⟨z, hz, e⟩ := Option.bind_eq_some_iff.1 e
  refine ⟨z, hz, ?_⟩
  split at e
  · rename_i pl hp
    obtain ⟨l, h1, rfl⟩ := Option.map_eq_some_iff.1 e
    exact .inl ⟨pl, hp, fillS_eq h1 hk⟩
  · obtain ⟨⟨n, e'⟩, h1, e⟩ := Option.bind_eq_some_iff.1 e
    obtain ⟨sz, h2, e⟩ := Option.bind_eq_some_iff.1 e
    obtain ⟨l, h3, rfl⟩ := Option.map_eq_some_iff.1 e
    exact .inr ⟨n, e', sz, h1, h2, fillS_eq h3 hk⟩
theorem buildSliceS_eq {P : Program} {t len : Nat} {ps : Array (Nat × Operand)} {s : St} {r : AV} {h : List ABlk} (e : buildSliceS P t len (ps.toList.map fun (i, x) => (i, get s.s x)) s.h = some (r, h)) {K : AV → St → Prop} (hk : K r { s with h }) : buildSliceA P t len ps (get s.s) s K := by
  unfold buildSliceS at e
  obtain ⟨e', h1, e⟩ := Option.bind_eq_some_iff.1 e
  obtain ⟨sz, h2, e⟩ := Option.bind_eq_some_iff.1 e
  obtain ⟨z, h3, e⟩ := Option.bind_eq_some_iff.1 e
  split at e
  · rename_i hc
    obtain ⟨l, h4, e⟩ := Option.map_eq_some_iff.1 e
    cases e
    exact ⟨e', sz, z, h1, h2, h3, hc.1, hc.2.1, hc.2.2, fillS_eq h4 hk⟩
  · cases e
theorem makeSliceS_eq {P : Program} {t : Nat} {s : St} {x y r : AV} {h : List ABlk} {p : Prop} (e : makeSliceS P t s.h x y = some (p, r, h)) (hp : p) {K : AV → St → Prop} (hk : K r { s with h }) : makeSliceA P t x y s K := by
  unfold makeSliceS at e
  split at e
  · obtain ⟨e', h1, e⟩ := Option.bind_eq_some_iff.1 e
    obtain ⟨sz, h2, e⟩ := Option.bind_eq_some_iff.1 e
    obtain ⟨by', h3, e⟩ := Option.bind_eq_some_iff.1 e
    obtain ⟨z, h4, e⟩ := Option.bind_eq_some_iff.1 e
    split at e
    · rename_i hc
      cases e
      exact ⟨e', sz, by', z, h1, h2, h3, h4, hc.1, hc.2, hp.1, hp.2.1, hp.2.2.1, hp.2.2.2, hk⟩
    · cases e
  · cases e
theorem fltT_eq {P : Program} {t : Nat} {k : FloatKind} (h : fltT P t = some k) : P.underlying t = some (.float k) := by
  unfold fltT at h
  split at h
  · cases h; assumption
  · cases h
theorem strOf_eq {cs : List AV} {r : AV} (e : strOf cs = some r) : ∃ l, bytesOfA cs = some l ∧ r = .v (.string ⟨l.toArray⟩) := by
  unfold strOf at e
  obtain ⟨l, h1, rfl⟩ := Option.map_eq_some_iff.1 e
  exact ⟨l, h1, rfl⟩
theorem convertS_eq {P : Program} {src dst : Nat} {s : St} {x r : AV} {h : List ABlk} {p : Prop} (e : convertS P src dst s.h x = some (p, r, h)) (hp : p) {K : AV → St → Prop} (hk : K r { s with h }) : convertA P src dst x s K := by
  unfold convertS at e
  split at e
  · split at e
    · rename_i hs
      split at e
      · rename_i k hk'
        cases e
        simp only [convertA, intT_eq hk']
        exact ⟨hs, hk⟩
      · split at e
        · rename_i hf
          cases e
          simp only [convertA, fltT_eq hf]
          exact ⟨hs, hk⟩
        · split at e
          · rename_i hst
            cases e
            simp only [convertA, strT_eq hst]
            exact ⟨hs, hk⟩
          · cases e
    · cases e
  · split at e
    · rename_i hs
      obtain ⟨k, h1, e⟩ := Option.bind_eq_some_iff.1 e
      obtain ⟨n, h2, e⟩ := Option.map_eq_some_iff.1 e
      cases e
      exact ⟨k, n, h1, hs, h2, hk⟩
    · cases e
  · split at e
    · rename_i hd
      split at e
      · rename_i hs
        cases e
        simp only [convertA, strT_eq hd]
        exact ⟨hs, hk⟩
      · cases e
    · obtain ⟨e', h1, e⟩ := Option.bind_eq_some_iff.1 e
      split at e
      · rename_i hc
        cases e
        simp only [convertA, elemT_eq h1]
        exact ⟨hc.1, hc.2.1, hc.2.2, hp, hk⟩
      · cases e
  · split at e
    · rename_i hc
      obtain ⟨r', h1, e⟩ := Option.map_eq_some_iff.1 e
      cases e
      obtain ⟨l, h2, rfl⟩ := strOf_eq h1
      exact ⟨hc.1, hc.2, hp, l, h2, hk⟩
    · cases e
  · split at e
    · rename_i hc
      obtain ⟨k, hb, e⟩ := Option.bind_eq_some_iff.1 e
      obtain ⟨r', h1, e⟩ := Option.map_eq_some_iff.1 e
      cases e
      obtain ⟨l, h2, rfl⟩ := strOf_eq h1
      exact ⟨k, (blkS_eq hb).1, (blkS_eq hb).2, hc.1, hc.2, hp, l, h2, hk⟩
    · cases e
  · split at e
    · rename_i hc
      cases e
      exact ⟨hc.1, hc.2, hk⟩
    · cases e
  · cases e
theorem lenS_eq {P : Program} {t : Nat} {ts : Array TypeId} (ht : ts[0]? = some t) {s : St} {x r : AV} (e : lenS P t s.h x = some r) {K : AV → Prop} (hk : K r) : lenA P ts s x K := by
  refine ⟨t, ht, ?_⟩
  unfold lenS at e
  split at e <;> (try split at e) <;> first
    | (cases e; done)
    | (cases e; rename_i h; exact ⟨h, hk⟩)
    | (rename_i h
       obtain ⟨k, hb, e⟩ := Option.bind_eq_some_iff.1 e
       cases e
       exact ⟨h, ⟨k, (blkS_eq hb).1, (blkS_eq hb).2⟩, hk⟩)
theorem stepS_eq {P : Program} {o : Oper} {s s' : St} {p : Prop} (e : stepS P o s = some (p, s')) (hp : p) {K : St → Prop} (hk : K s') : aop P o s K := by
  have rv : ∀ {r : Option AV}, retV s o.dst r = some (p, s') → ∃ x, r = some x ∧ s' = pt s o.dst x := fun {r} h => by
    obtain ⟨x, h1, h2⟩ := Option.map_eq_some_iff.1 h
    cases h2; exact ⟨x, h1, rfl⟩
  have rp : ∀ {r : SV}, retP s o.dst r = some (p, s') → ∃ x, r = some (p, x) ∧ s' = pt s o.dst x := fun {r} h => by
    obtain ⟨⟨q, x⟩, h1, h2⟩ := Option.map_eq_some_iff.1 h
    cases h2; exact ⟨x, h1, rfl⟩
  have rh : ∀ {r : Option (Prop × AV × List ABlk)}, retH s o.dst r = some (p, s') → ∃ x h, r = some (p, x, h) ∧ s' = pt { s with h } o.dst x := fun {r} h => by
    obtain ⟨⟨q, x, h'⟩, h1, h2⟩ := Option.map_eq_some_iff.1 h
    cases h2; exact ⟨x, h', h1, rfl⟩
  unfold stepS at e
  unfold aop
  split at e
  · rename_i x ho; obtain ⟨y, h1, rfl⟩ := rv e; cases h1; simp only [ho]; exact hk
  · rename_i x ho; obtain ⟨y, h1, rfl⟩ := rv e; cases h1; simp only [ho]; exact hk
  · rename_i t ho
    obtain ⟨z, hz, e⟩ := Option.bind_eq_some_iff.1 e
    obtain ⟨y, h, h1, rfl⟩ := rh e; cases h1; simp only [ho]; exact ⟨z, hz, hk⟩
  · rename_i t x ho
    obtain ⟨z, hz, e⟩ := Option.bind_eq_some_iff.1 e
    obtain ⟨y, h, h1, rfl⟩ := rh e; cases h1; simp only [ho]; exact ⟨z, hz, hk⟩
  · rename_i t ps ho; obtain ⟨y, h1, rfl⟩ := rv e; simp only [ho]; exact buildS_eq h1 hk
  · rename_i t n ps ho
    obtain ⟨y, h, h1, rfl⟩ := rh e
    obtain ⟨⟨y', h'⟩, h2, h3⟩ := Option.map_eq_some_iff.1 h1
    cases h3
    simp only [ho]; exact buildSliceS_eq h2 hk
  · rename_i t x ho; obtain ⟨y, h1, rfl⟩ := rv e; simp only [ho]; exact loadS_eq h1 hk
  · rename_i t x y ho
    obtain ⟨h, h1, h2⟩ := Option.map_eq_some_iff.1 e
    cases h2
    simp only [ho]; exact storeS_eq h1 hk
  · rename_i x ho
    simp only [ho]
    split at e
    · rename_i hg
      obtain ⟨k, hb, e⟩ := Option.bind_eq_some_iff.1 e
      obtain ⟨y, h1, rfl⟩ := rv e; cases h1
      simp only [hg]
      exact ⟨⟨k, (blkS_eq hb).1, (blkS_eq hb).2⟩, hk⟩
    · rename_i hg
      obtain ⟨y, h1, rfl⟩ := rv e; cases h1
      simp only [hg]
      exact hk
    · cases e
  · rename_i op t x y t2 ho; obtain ⟨r, h1, rfl⟩ := rp e; simp only [ho]; exact binS_eq h1 hp hk
  · rename_i op t x ho; obtain ⟨r, h1, rfl⟩ := rp e; simp only [ho]; exact unS_eq h1 hp hk
  · rename_i a b x ho; obtain ⟨r, h, h1, rfl⟩ := rh e; simp only [ho]; exact convertS_eq h1 hp hk
  · rename_i t x ho
    split at e
    · rename_i ht
      obtain ⟨y, h1, rfl⟩ := rv e; cases h1; simp only [ho]; exact ⟨ht, hk⟩
    · cases e
  · rename_i t l c ho; obtain ⟨r, h, h1, rfl⟩ := rh e; simp only [ho]; exact makeSliceS_eq h1 hp hk
  · rename_i t x lo hi ho; obtain ⟨r, h1, rfl⟩ := rp e; simp only [ho]; exact sliceS_eq h1 hp hk
  · rename_i t x f ho; obtain ⟨r, h1, rfl⟩ := rv e; simp only [ho]; exact fieldAddrS_eq h1 hk
  · rename_i t x f ho
    obtain ⟨r, h1, rfl⟩ := rv e
    simp only [ho]
    unfold fieldS at h1
    split at h1
    · rename_i hg
      obtain ⟨⟨of, ft⟩, h2, h3⟩ := Option.bind_eq_some_iff.1 h1
      simp only [hg]
      exact ⟨of, ft, h2, takeS_eq h3 hk⟩
    · cases h1
  · rename_i t x i ho; obtain ⟨r, h1, rfl⟩ := rp e; simp only [ho]; exact indexAddrS_eq h1 hp hk
  · rename_i t x i ho; obtain ⟨r, h1, rfl⟩ := rp e; simp only [ho]; exact indexS_eq h1 hp hk
  · rename_i t i ho
    obtain ⟨r, h1, rfl⟩ := rv e
    simp only [ho]
    unfold extractS at h1
    split at h1
    · rename_i hg
      simp only [hg]
      exact ⟨r, h1, hk⟩
    · cases h1
  · rename_i c ho
    obtain ⟨ce, ⟨args⟩, ts⟩ := c
    simp only [ho]
    cases ce with
    | value f => cases e
    | invoke r m => cases e
    | builtin b =>
      cases b with
      | len =>
        cases args with
        | nil => cases e
        | cons x xs =>
          obtain ⟨t, h2, e⟩ := Option.bind_eq_some_iff.1 e
          obtain ⟨r, h3, rfl⟩ := rv e
          exact ⟨x, rfl, lenS_eq h2 h3 hk⟩
      | append =>
        match args, e with
        | [x, y], e =>
          obtain ⟨r, h, h1, rfl⟩ := rh e
          exact ⟨x, y, rfl, appendS_eq h1 hp hk⟩
      | real =>
        match args, e with
        | [x], e =>
          obtain ⟨r, h1, rfl⟩ := rv e
          exact ⟨x, r, rfl, h1, hk⟩
      | imag =>
        match args, e with
        | [x], e =>
          obtain ⟨r, h1, rfl⟩ := rv e
          exact ⟨x, r, rfl, h1, hk⟩
      | complex =>
        match args, e with
        | [x, y], e =>
          obtain ⟨r, h1, rfl⟩ := rv e
          exact ⟨x, y, r, rfl, h1, hk⟩
      | max =>
        match args, e with
        | [x, y], e =>
          obtain ⟨r, h1, rfl⟩ := rv e
          exact ⟨x, y, r, rfl, h1, hk⟩
      | _ => cases e
  · cases e
end Go.Ev
/- The code, by what computes; and what a prover meets on the way. -/
namespace Go.Ev
set_option linter.all false
open Go Go.RowKit

def StepK (r : SS) (K : St → Prop) : Prop := match r with
  | some (p, s) => p ∧ K s
  | none => False
theorem StepK_some (p : Prop) (s : St) (K : St → Prop) : StepK (some (p, s)) K = (p ∧ K s) := rfl
def PickK (b x y : AV) (d : Option Tmp) (K : St → Prop) (s : St) : Prop := match b with
  | .v (.bool z) => (z = true → K (pt s d x)) ∧ (z = false → K (pt s d y))
  | _ => False
theorem PickK_true (x y : AV) (d : Option Tmp) (K : St → Prop) (s : St) : PickK (.v (.bool true)) x y d K s = K (pt s d x) := by simp [PickK]
theorem PickK_false (x y : AV) (d : Option Tmp) (K : St → Prop) (s : St) : PickK (.v (.bool false)) x y d K s = K (pt s d y) := by simp [PickK]
def CondK (b : AV) (A B : St → Prop) (s : St) : Prop := match b with
  | .v (.bool z) => (z = true → A s) ∧ (z = false → B s)
  | _ => False
theorem CondK_true (A B : St → Prop) (s : St) : CondK (.v (.bool true)) A B s = A s := by simp [CondK]
theorem CondK_false (A B : St → Prop) (s : St) : CondK (.v (.bool false)) A B s = B s := by simp [CondK]
theorem CondK.intro {z : Bool} {A B : St → Prop} {s : St} (h1 : z = true → A s) (h2 : z = false → B s) : CondK (.v (.bool z)) A B s := ⟨h1, h2⟩
theorem PickK.intro {z : Bool} {x y : AV} {d : Option Tmp} {K : St → Prop} {s : St} (h1 : z = true → K (pt s d x)) (h2 : z = false → K (pt s d y)) : PickK (.v (.bool z)) x y d K s := ⟨h1, h2⟩
def GuardK (b : AV) (want : Bool) (A B : St → Prop) (s : St) : Prop := match b with
  | .v (.bool z) => (z = want → A s) ∧ (z ≠ want → B s)
  | .v (.tuple _) => B s
  | _ => False
theorem GuardK_skip (u : Array Value) (want : Bool) (A B : St → Prop) (s : St) : GuardK (.v (.tuple u)) want A B s = B s := rfl
theorem GuardK_tt (A B : St → Prop) (s : St) : GuardK (.v (.bool true)) true A B s = A s := by simp [GuardK]
theorem GuardK_ff (A B : St → Prop) (s : St) : GuardK (.v (.bool false)) false A B s = A s := by simp [GuardK]
theorem GuardK_tf (A B : St → Prop) (s : St) : GuardK (.v (.bool true)) false A B s = B s := by simp [GuardK]
theorem GuardK_ft (A B : St → Prop) (s : St) : GuardK (.v (.bool false)) true A B s = B s := by simp [GuardK]
theorem GuardK.intro_t {z : Bool} {A B : St → Prop} {s : St} (h1 : z = true → A s) (h2 : z = false → B s) : GuardK (.v (.bool z)) true A B s := ⟨h1, fun h => h2 (by cases z <;> simp_all)⟩
theorem GuardK.intro_f {z : Bool} {A B : St → Prop} {s : St} (h1 : z = false → A s) (h2 : z = true → B s) : GuardK (.v (.bool z)) false A B s := ⟨h1, fun h => h2 (by cases z <;> simp_all)⟩
def skipK (d : Option Tmp) (K : St → Prop) (s : St) : Prop := K (pt s d (.v (.tuple #[])))
theorem skipK_eq (d : Option Tmp) (K : St → Prop) (s : St) : skipK d K s = K (pt s d (.v (.tuple #[]))) := rfl
/-- A function without a body that the model itself carries out: what it answers, from what it is handed. -/
def ExtV (P : Program) (g : FuncId) (xs : List AV) (r : AV) : Prop :=
  ∀ (c : Cx) (w : World) (vs : Array Value), c.P = P → relL xs c vs.toList → ∃ u w', (callFunc g vs).run P w = .ok (.value u) w' ∧ Below w.heap.size w w' ∧ rel r c u
def CallK (P : Program) (g : FuncId) (xs : List AV) (d : Option Tmp) (K : St → Prop) (s : St) : Prop :=
  ((∃ fn, P.funcs[g]? = some fn ∧ fn.body.isSome = true ∧ (fn.name == "runtime.NumGoroutine") = false) ∧ callA P s g xs fun r => K (pt s d r)) ∨
  ∃ r, ExtV P g xs r ∧ K (pt s d r)
/-- Is this a function with a body? -/
def bodyT (P : Program) (g : FuncId) : Prop := ∃ fn, P.funcs[g]? = some fn ∧ fn.body.isSome = true ∧ (fn.name == "runtime.NumGoroutine") = false
theorem CallK.intro {P : Program} {g : FuncId} {xs : List AV} {d : Option Tmp} {K : St → Prop} {s : St} (hb : bodyT P g) (ht : treeL xs = true) {r : AV} (hev : Ev P s.s.g g xs r) (hk : K (pt s d r)) : CallK P g xs d K s :=
  .inl ⟨hb, xs, r, .inl ⟨rfl, ht⟩, hev, hk⟩
/-- A call that is lent rows of the call's own. -/
theorem CallK.lend {P : Program} {g : FuncId} {xs : List AV} {d : Option Tmp} {K : St → Prop} {s : St} (hb : bodyT P g) (ys : List AV) (hz : fzL P s.h true ys xs) {r : AV} (hev : Ev P s.s.g g ys r) (hn : noBor r = true) (hk : K (pt s d r)) : CallK P g xs d K s :=
  .inl ⟨hb, ys, r, .inr ⟨hz, hn⟩, hev, hk⟩
theorem CallK.ext {P : Program} {g : FuncId} {xs : List AV} {d : Option Tmp} {K : St → Prop} {s : St} {r : AV} (he : ExtV P g xs r) (hk : K (pt s d r)) : CallK P g xs d K s := .inr ⟨r, he, hk⟩
/-- What a piece of code does, said of the machine itself. -/
def SemK (P : Program) (c : Code) (Q : Post) (s : St) : Prop :=
  ∀ (X : Fix) (φ : List Nat) (a : Act) (w : World), X.P = P → X.c0 = none → SR X φ s a w → c.wp P (Qx X Q) a w
def kop (P : Program) (o : Oper) (K : St → Prop) (s : St) : Prop :=
  match o.op with
  | .pick c a b => PickK (get s.s c) (get s.s a) (get s.s b) o.dst K s
  | .call ⟨.value (.func g), xs, _⟩ => CallK P g (xs.toList.map (get s.s)) o.dst K s
  | _ => StepK (stepS P o s) K
def kops (P : Program) (ops : Array Oper) : List Oper → (St → Prop) → St → Prop
  | [], K, s => K s
  | o :: os, K, s => match o.guard with
    | none => kop P o (kops P ops os K) s
    | some (j, want) => GuardK (guardA ops s j) want (kop P o (kops P ops os K)) (skipK o.dst (kops P ops os K)) s
def normK (Q : Post) (s : St) : Prop := Q .normal s
theorem normK_eq (Q : Post) (s : St) : normK Q s = Q .normal s := rfl
theorem thenA_normal (K : St → Prop) (Q : Post) (s : St) : thenA K Q .normal s = K s := rfl
theorem thenA_ret (K : St → Prop) (Q : Post) (s : St) : thenA K Q .ret s = Q .ret s := rfl
theorem thenA_exit (K : St → Prop) (Q : Post) (i : Nat) (s : St) : thenA K Q (.exit i) s = Q (.exit i) s := rfl
theorem thenA_goto (K : St → Prop) (Q : Post) (i : Nat) (s : St) : thenA K Q (.goto i) s = Q (.goto i) s := rfl
theorem inBlockA_normal (id : Nat) (Q : Post) (s : St) : inBlockA id Q .normal s = Q .normal s := rfl
theorem inBlockA_ret (id : Nat) (Q : Post) (s : St) : inBlockA id Q .ret s = Q .ret s := rfl
theorem inBlockA_goto (id i : Nat) (Q : Post) (s : St) : inBlockA id Q (.goto i) s = Q (.goto i) s := rfl
theorem inBlockA_exit (id i : Nat) (Q : Post) (s : St) : inBlockA id Q (.exit i) s = if i = id then Q .normal s else Q (.exit i) s := rfl
def loopC (R : Nat → St → Prop) (m : Nat) (s2 : St) : Prop := ∃ m' s3, s2.weak s3 ∧ m' < m ∧ R m' s3
def LoopK (F : Post → St → Prop) (Q : Post) (s : St) : Prop :=
  ∃ (R : Nat → St → Prop) (n : Nat) (s0 : St), s.weak s0 ∧ R n s0 ∧ ∀ m s1, R m s1 → F (thenA (loopC R m) Q) s1
def RR {α : Type} (mk : α → St) (inv : α → Prop) (μ : α → Nat) (n : Nat) (s : St) : Prop := ∃ a, inv a ∧ s = mk a ∧ μ a = n
/-- A loop: what its head knows (mk a, for an a of which inv holds), and what goes down. -/
theorem LoopK.intro {F : Post → St → Prop} {Q : Post} {s : St} {α : Type} (mk : α → St) (inv : α → Prop) (μ : α → Nat) (a0 : α) (hw : s.weak (mk a0)) (h0 : inv a0)
    (round : ∀ a, inv a → F (thenA (loopC (RR mk inv μ) (μ a)) Q) (mk a)) : LoopK F Q s :=
  ⟨RR mk inv μ, μ a0, mk a0, hw, ⟨a0, h0, rfl, rfl⟩, fun m s1 ⟨a, h1, h2, h3⟩ => by subst h2; subst h3; exact round a h1⟩
theorem loopC.intro {α : Type} {mk : α → St} {inv : α → Prop} {μ : α → Nat} {n : Nat} {s2 : St} (a : α) (h : inv a) (hw : s2.weak (mk a)) (hm : μ a < n) : loopC (RR mk inv μ) n s2 :=
  ⟨μ a, mk a, hw, hm, a, h, rfl, rfl⟩
/-- Does it write the call's own blocks, or make one? -/
def wrO (P : Program) : Op → Bool
  | .move _ | .assign _ | .pick .. | .binOp .. | .unOp .. | .makeInterface .. | .field .. | .index .. | .extract .. | .load .. | .nilCheck .. | .slice .. | .fieldAddr .. | .indexAddr .. | .build .. => false
  | .call c => match c.callee with
    | .builtin .len | .builtin .real | .builtin .imag | .builtin .complex | .builtin .max => false
    | .value (.func _) => false
    | _ => true
  | .convert _ b _ => !(intT P b).isSome
  | _ => true
/-- Does what it answers hang on the call's own blocks? -/
def rdO (P : Program) : Op → Bool
  | .move _ | .assign _ | .pick .. | .binOp .. | .unOp .. | .makeInterface .. | .field .. | .index .. | .extract .. | .build .. => false
  | .call c => match c.callee with
    | .builtin .real | .builtin .imag | .builtin .complex | .builtin .max => false
    | _ => true
  | .convert _ b _ => !(intT P b).isSome
  | .slice t .. => !(strT P t)
  | _ => true
def rwO (P : Program) (o : Op) : Bool := rdO P o || wrO P o
def bindsE (e : Edge) : Bool := Region.binds .any e
/-- What an operation comes after, step by step. -/
def ancT (ops : Array Oper) : List (List Nat) :=
  ops.toList.foldl (fun tbl o => tbl ++ [((o.after.toList.filter bindsE).flatMap fun e => e.on :: tbl.getD e.on []).eraseDups]) []
def ancOk (ops : Array Oper) (tbl : List (List Nat)) : Bool :=
  (List.range ops.size).all fun i => match ops[i]? with
    | some o => o.after.toList.all (fun e => !bindsE e || decide (e.on < i)) && (tbl.getD i []).all fun j => o.after.toList.any fun e => bindsE e && (e.on == j || (tbl.getD e.on []).contains j)
    | none => true
/-- May x, the earlier one in the text, not change places with y? -/
def clashO (P : Program) (ops : Array Oper) (x y : Oper) : Bool :=
  (match x.dst with | some d => (y.looksAt ops).contains d || y.dst == some d | none => false) || (match y.dst with | some d => (x.looksAt ops).contains d | none => false) ||
    (wrO P x.op && rwO P y.op) || (rwO P x.op && wrO P y.op)
def drawOkT (P : Program) (ops : Array Oper) (tbl : List (List Nat)) : Bool :=
  ancOk ops tbl && (List.range ops.size).all fun j => (List.range j).all fun i => match ops[i]?, ops[j]? with
    | some x, some y => !clashO P ops x y || (tbl.getD j []).contains i
    | _, _ => true
def drawOk (P : Program) (ops : Array Oper) : Bool := drawOkT P ops (ancT ops)
/-- Every order that the edges leave, one by one. -/
def anyK (P : Program) (ops : Array Oper) (K : St → Prop) : Nat → Array Bool → St → Prop
  | 0, listed, s => Region.ready .any ops listed = [] ∧ K s
  | f + 1, listed, s => (Region.ready .any ops listed = [] → K s) ∧
    ∀ i ∈ List.range ops.size, (Region.ready .any ops listed).contains i = true → ∃ o, ops[i]? = some o ∧ o.guard = none ∧ kop P o (fun s' => anyK P ops K f (listed.setIfInBounds i true) s') s
/-- The same state, however its slots are listed. -/
def eqvS (s s' : St) : Prop := s.s.n = s'.s.n ∧ s.s.g = s'.s.g ∧ s.h = s'.h ∧ ∀ t, look s.s.l t = look s'.s.l t
def ExtC (K : St → Prop) (s : St) : Prop := ∃ s', eqvS s' s ∧ K s'
/-- A region that draws its order: its clashes are ordered, so the text's order serves; or each order is walked. -/
def DrawK (P : Program) (ops : Array Oper) (Q : Post) (s : St) : Prop := P.follows .mixedOrders = true ∧ ((drawOk P ops = true ∧ kops P ops ops.toList (normK Q) s) ∨ anyK P ops (normK Q) ops.size (Array.replicate ops.size false) s ∨ anyK P ops (ExtC (normK Q)) ops.size (Array.replicate ops.size false) s)
theorem DrawK.intro {P : Program} {ops : Array Oper} {Q : Post} {s : St} (h1 : P.follows .mixedOrders = true) (h2 : drawOk P ops = true) (h3 : kops P ops ops.toList (normK Q) s) : DrawK P ops Q s := ⟨h1, .inl ⟨h2, h3⟩⟩
theorem DrawK.any {P : Program} {ops : Array Oper} {Q : Post} {s : St} (h1 : P.follows .mixedOrders = true) (h3 : anyK P ops (normK Q) ops.size (Array.replicate ops.size false) s) : DrawK P ops Q s := ⟨h1, .inr (.inl h3)⟩
theorem notReady {b : Bool} {p : Prop} (h : b = false) : b = true → p := fun h' => by rw [h] at h'; cases h'
def kwp (P : Program) : Code → Post → St → Prop
  | .skip, Q, s => Q .normal s
  | .region _ ops draw, Q, s => if draw = true then DrawK P ops Q s else kops P ops ops.toList (normK Q) s
  | .seq a b, Q, s => kwp P a (thenA (kwp P b Q) Q) s
  | .cond c x y, Q, s => CondK (get s.s c) (kwp P x Q) (kwp P y Q) s
  | .block id c, Q, s => kwp P c (inBlockA id Q) s
  | .loop c, Q, s => LoopK (fun Q s => kwp P c Q s) Q s
  | .exit id, Q, s => Q (.exit id) s
  | .ret, Q, s => Q .ret s
  | .label _, Q, s => Q .normal s
  | .goto l, Q, s => Q (.goto l) s
  | .rangeFunc f ps x y, Q, s => SemK P (.rangeFunc f ps x y) Q s
  | .scope c, Q, s => SemK P (.scope c) Q s
  | .refuse .., _, _ => False

/-- The results, as what computes. -/
def ValK (r : Option AV) (K : AV → Prop) : Prop := match r with
  | some x => K x
  | none => False
def resS (P : Program) : List ResultVar → St → (List AV → Prop) → Prop
  | [], _, K => K []
  | .tmp t :: rs, s, K => resS P rs s fun xs => K (look s.s.l t :: xs)
  | .cell p t :: rs, s, K => ValK (loadS P t s.h (look s.s.l p)) fun x => resS P rs s fun xs => K (x :: xs)
def endS (P : Program) (rs : List ResultVar) (res : AV) : Post
  | .normal, s | .ret, s => resS P rs s fun xs => fz P s.h false res (oneOrTup xs)
  | _, _ => False
theorem resS_resA {P : Program} : ∀ (rs : List ResultVar) {s : St} {K : List AV → Prop}, resS P rs s K → resA P rs s K
  | [], _, _, h => h
  | .tmp t :: rs, s, K, h => resS_resA rs h
  | .cell p t :: rs, s, K, h => by
    simp only [resS, ValK] at h
    split at h
    · rename_i x e; exact loadS_eq e (resS_resA rs h)
    · exact h.elim
theorem endS_endA {P : Program} {rs : List ResultVar} {res : AV} : ∀ {e : Exit} {s : St}, endS P rs res e s → endA P rs res e s
  | .normal, _, h => resS_resA rs h
  | .ret, _, h => resS_resA rs h
  | .exit _, _, h => h.elim
  | .goto _, _, h => h.elim
  | .panic _, _, h => h.elim
  | .outgrown, _, h => h.elim
section
variable {X : Fix} {φ : List Nat} {st : St} {a : Act} {w : World} {o : Oper} {Q : Exit → Act → World → Prop} {K : St → Prop}
theorem StepK_aop {P : Program} (h : StepK (stepS P o st) K) : aop P o st K := by
  unfold StepK at h
  split at h
  · rename_i p s e; exact stepS_eq e h.1 h.2
  · exact h.elim
theorem kop_sound (hs : SR X φ st a w) (h : kop X.P o K st) : o.wp X.P a w (Nx X K) Q := by
  unfold kop at h
  split at h
  · rename_i c x y ho
    unfold PickK at h
    split at h
    · rename_i z hg; exact op_pick hs ho hg h.1 h.2
    · exact h.elim
  · rename_i g xs ts ho
    rcases h with h | ⟨r, he, hk⟩
    · exact op_callF hs ho rfl h.1 h.2
    · have hargs : relL (xs.toList.map (get st.s)) (cx X φ st.h w) (xs.map a.eval).toList := by
        rw [Array.toList_map]; exact relL_map_get hs _
      obtain ⟨u, w', hr, hb, hu⟩ := he (cx X φ st.h w) w (xs.map a.eval) rfl hargs
      have hrun : (execOp a.eval o).run X.P w = .ok (.value u) w' := by
        rw [← hr]
        simp [execOp, ho, resolve, Deferred.ofValue, Act.eval, invoke]
      unfold Oper.wp
      rw [hrun]
      simp only [Oper.upon]
      have hrng := fun β hβ => (hs.rng β hβ).2
      have hle := cx_le_same (X := X) (φ := φ) (w := w) (w' := w') (fun p hp => hb.cell hp) (fun r hr => by unfold World.shape?; rw [hb.block r hr]) hb.size hrng st.h
      exact ⟨φ, _, (hs.world hb).put o.dst (rel_mono hle _ _ hu), hk⟩
  · exact aop_sound hs (StepK_aop h)
theorem kops_sound (ops : Array Oper) (Qn : Exit → Act → World → Prop) : ∀ (os : List Oper) (is : List Nat) {K : St → Prop} {φ : List Nat} {st : St} {a : Act} {w : World}, is.map (ops[·]?) = os.map some → SR X φ st a w → kops X.P ops os K st →
    (∀ a w, Nx X K a w → Qn .normal a w) → wpOps X.P ops Qn is a w
  | [], [], K, φ, st, a, w, _, hs, h, hq => hq _ _ ⟨φ, st, hs, h⟩
  | [], i :: is, _, _, _, _, _, he, _, _, _ => by simp at he
  | o :: os, [], _, _, _, _, _, he, _, _, _ => by simp at he
  | o :: os, i :: is, K, φ, st, a, w, he, hs, h, hq => by
    simp only [List.map_cons, List.cons.injEq] at he
    obtain ⟨hi, he⟩ := he
    have hrest : ∀ a' w', Nx X (kops X.P ops os K) a' w' → wpOps X.P ops Qn is a' w' := fun a' w' ⟨φ', st', hs', h'⟩ => kops_sound ops Qn os is he hs' h' hq
    simp only [wpOps, hi]
    simp only [kops] at h
    split at h
    · rename_i hg
      have hw : Region.wanted o (yielded ops a.tmps) = true := by simp [Region.wanted, hg]
      rw [if_pos hw]
      exact .inl (Oper.wp_mono hrest (kop_sound hs h))
    · rename_i j want hg
      unfold GuardK at h
      split at h
      · rename_i z hz
        obtain ⟨h1, h2⟩ := h
        have hy : yielded ops a.tmps j = some z := by
          unfold guardA at hz
          split at hz
          · rename_i t ht
            unfold yielded
            rw [ht]
            have hr := hs.slots t
            rw [hz] at hr
            simp only [rel] at hr
            cases htm : a.tmps[t]? with
            | none => simp [htm, undef] at hr
            | some u =>
              simp [htm] at hr
              subst hr
              simp [htm]
          · cases hz
        by_cases hzw : z = want
        · have hw : Region.wanted o (yielded ops a.tmps) = true := by simp [Region.wanted, hg, hy, hzw]
          rw [if_pos hw]
          exact .inl (Oper.wp_mono hrest (kop_sound hs (h1 hzw)))
        · have hw : Region.wanted o (yielded ops a.tmps) = false := by simp [Region.wanted, hg, hy, hzw]
          rw [hw]
          exact hrest _ _ ⟨φ, _, hs.put o.dst (r := .v (.tuple #[])) (u := undef) (by simp only [rel, undef]), h2 hzw⟩
      · rename_i us hz
        have hy : yielded ops a.tmps j = none := by
          unfold guardA at hz
          split at hz
          · rename_i t ht
            unfold yielded
            rw [ht]
            have hr := hs.slots t
            rw [hz] at hr
            simp only [rel] at hr
            cases htm : a.tmps[t]? with
            | none => simp [htm]
            | some u =>
              simp [htm] at hr
              subst hr
              simp [htm]
          · cases hz
        have hw : Region.wanted o (yielded ops a.tmps) = false := by simp [Region.wanted, hg, hy]
        rw [hw]
        exact hrest _ _ ⟨φ, _, hs.put o.dst (r := .v (.tuple #[])) (u := undef) (by simp only [rel, undef]), h⟩
      · exact h.elim
end
end Go.Ev
/- Code and operations opened from the head alone: what simp runs. -/
namespace Go.Ev
set_option linter.all false
open Go Go.RowKit
section
variable {P : Program} {Q : Post} {s : St} {K : St → Prop}
theorem k_seq (a b : Code) : kwp P (.seq a b) Q s = kwp P a (thenA (kwp P b Q) Q) s := rfl
theorem k_region (i : Nat) (ops : Array Oper) : kwp P (.region i ops false) Q s = kops P ops ops.toList (normK Q) s := by simp [kwp]
theorem k_draw (i : Nat) (ops : Array Oper) : kwp P (.region i ops true) Q s = DrawK P ops Q s := by simp [kwp]
theorem k_skip : kwp P .skip Q s = Q .normal s := rfl
theorem k_cond (c : Operand) (x y : Code) : kwp P (.cond c x y) Q s = CondK (get s.s c) (kwp P x Q) (kwp P y Q) s := rfl
theorem k_block (i : Nat) (c : Code) : kwp P (.block i c) Q s = kwp P c (inBlockA i Q) s := rfl
theorem k_loop (c : Code) : kwp P (.loop c) Q s = LoopK (kwp P c) Q s := rfl
theorem k_exit (i : Nat) : kwp P (.exit i) Q s = Q (.exit i) s := rfl
theorem k_ret : kwp P .ret Q s = Q .ret s := rfl
theorem k_label (i : Nat) : kwp P (.label i) Q s = Q .normal s := rfl
theorem k_scope (c : Code) : kwp P (.scope c) Q s = SemK P (.scope c) Q s := rfl
theorem k_rangeF (f : Operand) (ps : Array Tmp) (x y : Code) : kwp P (.rangeFunc f ps x y) Q s = SemK P (.rangeFunc f ps x y) Q s := rfl
theorem k_goto (i : Nat) : kwp P (.goto i) Q s = Q (.goto i) s := rfl
section
variable {ops : Array Oper} {os : List Oper} {d : Option Tmp} {t : TypeId} {pos : String} {af : Array Edge} {g : Option (Nat × Bool)}
theorem o_nil : kops P ops [] K s = K s := rfl
theorem o_none (op : Op) : kops P ops (⟨d, op, t, pos, af, none⟩ :: os) K s = kop P ⟨d, op, t, pos, af, none⟩ (kops P ops os K) s := rfl
theorem o_some (op : Op) (j : Nat) (b : Bool) : kops P ops (⟨d, op, t, pos, af, some (j, b)⟩ :: os) K s =
    GuardK (guardA ops s j) b (kop P ⟨d, op, t, pos, af, some (j, b)⟩ (kops P ops os K)) (skipK d (kops P ops os K)) s := rfl
theorem s_move (x : Operand) : kop P ⟨d, .move x, t, pos, af, g⟩ K s = K (pt s d (get s.s x)) := by simp [kop, stepS, StepK, retV]
theorem s_assign (x : Operand) : kop P ⟨d, .assign x, t, pos, af, g⟩ K s = K (pt s d (get s.s x)) := by simp [kop, stepS, StepK, retV]
theorem s_pick (c a b : Operand) : kop P ⟨d, .pick c a b, t, pos, af, g⟩ K s = PickK (get s.s c) (get s.s a) (get s.s b) d K s := rfl
theorem s_callF (f : FuncId) (xs : Array Operand) (ts : Array TypeId) : kop P ⟨d, .call ⟨.value (.func f), xs, ts⟩, t, pos, af, g⟩ K s = CallK P f (xs.toList.map (get s.s)) d K s := rfl
theorem s_len (x : Operand) (u : TypeId) : kop P ⟨d, .call ⟨.builtin .len, #[x], #[u]⟩, t, pos, af, g⟩ K s = StepK (retV s d (lenS P u s.h (get s.s x))) K := rfl
theorem s_real (x : Operand) (ts : Array TypeId) : kop P ⟨d, .call ⟨.builtin .real, #[x], ts⟩, t, pos, af, g⟩ K s = StepK (retV s d (partS false (get s.s x))) K := rfl
theorem s_imag (x : Operand) (ts : Array TypeId) : kop P ⟨d, .call ⟨.builtin .imag, #[x], ts⟩, t, pos, af, g⟩ K s = StepK (retV s d (partS true (get s.s x))) K := rfl
theorem s_comp (x y : Operand) (ts : Array TypeId) : kop P ⟨d, .call ⟨.builtin .complex, #[x, y], ts⟩, t, pos, af, g⟩ K s = StepK (retV s d (compS (get s.s x) (get s.s y))) K := rfl
theorem s_max (x y : Operand) (ts : Array TypeId) : kop P ⟨d, .call ⟨.builtin .max, #[x, y], ts⟩, t, pos, af, g⟩ K s = StepK (retV s d (maxS (get s.s x) (get s.s y))) K := rfl
theorem maxS_mk (k k2 : IntKind) (a b : Int) : maxS (.v (.int k a)) (.v (.int k2 b)) = some (.v (.int k (if b > a then b else a))) := rfl
theorem partS_re (a b : Nat) : partS false (.v (.complex .f64 a b)) = some (.v (.float .f64 a)) := rfl
theorem partS_im (a b : Nat) : partS true (.v (.complex .f64 a b)) = some (.v (.float .f64 b)) := rfl
theorem compS_mk (a b : Nat) : compS (.v (.float .f64 a)) (.v (.float .f64 b)) = some (.v (.complex .f64 a b)) := rfl
theorem cplS_eql (a b c e : Nat) : cplS .eql a b c e = some (True, .v (.bool (cplEq a b c e))) := rfl
theorem cplS_neq (a b c e : Nat) : cplS .neq a b c e = some (True, .v (.bool (!cplEq a b c e))) := rfl
theorem s_alloc (u : TypeId) : kop P ⟨d, .alloc u, t, pos, af, g⟩ K s = StepK ((zeroT P u).bind fun z => retH s d (some (True, .ptr s.h.length 0 0, s.h ++ [⟨0, u, zeroCells z⟩]))) K := rfl
theorem s_box (u : TypeId) (x : Operand) : kop P ⟨d, .box u x, t, pos, af, g⟩ K s = StepK ((flat (get s.s x)).bind fun cs => retH s d (some (True, .ptr s.h.length 0 0, s.h ++ [⟨0, u, cs⟩]))) K := rfl
theorem s_build (u : TypeId) (ps : Array (Nat × Operand)) : kop P ⟨d, .build u ps, t, pos, af, g⟩ K s = StepK (retV s d (buildS P u (ps.toList.map fun (i, x) => (i, get s.s x)))) K := rfl
theorem s_buildSlice (u n : Nat) (ps : Array (Nat × Operand)) : kop P ⟨d, .buildSlice u n ps, t, pos, af, g⟩ K s = StepK (retH s d ((buildSliceS P u n (ps.toList.map fun (i, x) => (i, get s.s x)) s.h).map fun (r, h) => (True, r, h))) K := rfl
theorem s_load (u : TypeId) (a : Operand) : kop P ⟨d, .load u a, t, pos, af, g⟩ K s = StepK (retV s d (loadS P u s.h (get s.s a))) K := rfl
theorem s_store (u : TypeId) (a x : Operand) : kop P ⟨d, .store u a x, t, pos, af, g⟩ K s = StepK ((storeS P u s.h (get s.s a) (get s.s x)).map fun h => (True, pt { s with h } d .bad)) K := rfl
def nilChk (s : St) (d : Option Tmp) : AV → SS
  | .ptr i ver off => (blkS s.h i ver).bind fun _ => retV s d (some (.ptr i ver off))
  | .ela b cs => retV s d (some (.ela b cs))
  | _ => none
theorem s_nilCheck (x : Operand) : kop P ⟨d, .nilCheck x, t, pos, af, g⟩ K s = StepK (nilChk s d (get s.s x)) K := by
  simp only [kop, stepS]; cases get s.s x <;> rfl
theorem s_binOp (op : BinOp) (u v : TypeId) (x y : Operand) : kop P ⟨d, .binOp op u x y v, t, pos, af, g⟩ K s = StepK (retP s d (binS P op u (isConst x || isConst y) (get s.s x) (get s.s y))) K := rfl
theorem s_unOp (op : UnOp) (u : TypeId) (x : Operand) : kop P ⟨d, .unOp op u x, t, pos, af, g⟩ K s = StepK (retP s d (unS op (get s.s x))) K := rfl
theorem s_convert (a b : TypeId) (x : Operand) : kop P ⟨d, .convert a b x, t, pos, af, g⟩ K s = StepK (retH s d (convertS P a b s.h (get s.s x))) K := rfl
theorem s_makeIf (u : TypeId) (x : Operand) : kop P ⟨d, .makeInterface u x, t, pos, af, g⟩ K s = StepK (if ifcT P u = some false then retV s d (some (.ifc u (get s.s x))) else none) K := rfl
theorem s_makeSlice (u : TypeId) (l c : Operand) : kop P ⟨d, .makeSlice u l c, t, pos, af, g⟩ K s = StepK (retH s d (makeSliceS P u s.h (get s.s l) (get s.s c))) K := rfl
theorem s_slice (u : TypeId) (x : Operand) (lo hi : Option Operand) : kop P ⟨d, .slice u x lo hi none, t, pos, af, g⟩ K s = StepK (retP s d (sliceS P u s.h (lo.map (get s.s)) (hi.map (get s.s)) (get s.s x))) K := rfl
theorem s_fieldAddr (u : TypeId) (x : Operand) (f : Nat) : kop P ⟨d, .fieldAddr u x f, t, pos, af, g⟩ K s = StepK (retV s d (fieldAddrS P u f s.h (get s.s x))) K := rfl
theorem s_field (u : TypeId) (x : Operand) (f : Nat) : kop P ⟨d, .field u x f, t, pos, af, g⟩ K s = StepK (retV s d (fieldS P u f (get s.s x))) K := rfl
theorem s_indexAddr (u : TypeId) (x i : Operand) : kop P ⟨d, .indexAddr u x i, t, pos, af, g⟩ K s = StepK (retP s d (indexAddrS P u s.h (get s.s x) (get s.s i))) K := rfl
theorem s_index (u : TypeId) (x i : Operand) : kop P ⟨d, .index u x i, t, pos, af, g⟩ K s = StepK (retP s d (indexS P u (get s.s x) (get s.s i))) K := rfl
theorem s_extract (x : Operand) (i : Nat) : kop P ⟨d, .extract x i, t, pos, af, g⟩ K s = StepK (retV s d (extractS i (get s.s x))) K := rfl
end
theorem StepK_retV (d : Option Tmp) (r : AV) : StepK (retV s d (some r)) K = K (pt s d r) := by simp [StepK, retV]
theorem StepK_retP (d : Option Tmp) (p : Prop) (r : AV) : StepK (retP s d (some (p, r))) K = (p ∧ K (pt s d r)) := rfl
theorem StepK_retPT (d : Option Tmp) (r : AV) : StepK (retP s d (some (True, r))) K = K (pt s d r) := by simp [StepK, retP]
theorem StepK_okS (d : Option Tmp) (r : AV) : StepK (retP s d (okS r)) K = K (pt s d r) := by simp [StepK, retP, okS]
theorem StepK_retH (d : Option Tmp) (p : Prop) (r : AV) (h : List ABlk) : StepK (retH s d (some (p, r, h))) K = (p ∧ K (pt { s with h } d r)) := rfl
theorem StepK_retHT (d : Option Tmp) (r : AV) (h : List ABlk) : StepK (retH s d (some (True, r, h))) K = K (pt { s with h } d r) := by simp [StepK, retH]
theorem StepK_someT (s' : St) : StepK (some (True, s')) K = K s' := by simp [StepK]
end

/-- What an append asks of its types: the element's type, its cells, its bytes. -/
def appT (P : Program) (t t2 : TypeId) : Option (Nat × Nat × Nat) :=
  if intT P t2 = none ∧ (P.underlying t2).isSome = true then
    (elemT P t).bind fun e => (sizeT P e).bind fun sz => (bytesT P e).bind fun by' => (zeroT P e).bind fun z =>
      if (zeroCells z).length = sz ∧ 0 < sz ∧ 0 < by' then some (e, sz, by') else none
  else none
theorem appendS_appT {P : Program} {t t2 : TypeId} {h : List ABlk} {x y : AV} : appendS P #[t, t2] h x y =
    (appT P t t2).bind fun q => (srcS h q.2.1 y).bind fun r => ontoS h q.1 q.2.1 q.2.2 r.1 r.2.1 r.2.2 x := by
  simp only [appendS, appT]
  simp
  split
  · cases elemT P t <;> simp
    cases sizeT P _ <;> simp
    cases bytesT P _ <;> simp
    cases zeroT P _ <;> simp
    split <;> simp
  · simp
section
variable {P : Program} {s : St} {K : St → Prop} {t : TypeId} {d : Option Tmp} {pos : String} {af : Array Edge} {g : Option (Nat × Bool)}
theorem s_append2 (x y : Operand) (u v : TypeId) : kop P ⟨d, .call ⟨.builtin .append, #[x, y], #[u, v]⟩, t, pos, af, g⟩ K s =
    StepK (retH s d ((appT P u v).bind fun q => (srcS s.h q.2.1 (get s.s y)).bind fun r => ontoS s.h q.1 q.2.1 q.2.2 r.1 r.2.1 r.2.2 (get s.s x))) K := by
  rw [← appendS_appT]; rfl
end
/-- What a row's literal, or make, asks of its types: the element's type, its cells, its zero. -/
def mkT (P : Program) (t : TypeId) : Option (Nat × Nat × List AV) :=
  (elemT P t).bind fun e => (sizeT P e).bind fun sz => (zeroT P e).bind fun z => if (zeroCells z).length = sz ∧ 0 < sz then some (e, sz, zeroCells z) else none
theorem buildSliceS_mkT {P : Program} {t : TypeId} {len : Nat} {ps : List (Nat × AV)} {h : List ABlk} : buildSliceS P t len ps h =
    (mkT P t).bind fun q => if len * q.2.1 ≤ 16777216 then (fillS (fun i => some (i * q.2.1, q.2.1)) ps (List.replicate len q.2.2).flatten).map fun l => (.own h.length 0 len, h ++ [⟨0, q.1, l⟩]) else none := by
  simp only [buildSliceS, mkT]
  cases elemT P t <;> simp
  cases sizeT P _ <;> simp
  cases zeroT P _ <;> simp
  rename_i e sz z
  by_cases h1 : (zeroCells z).length = sz <;> by_cases h2 : 0 < sz <;> by_cases h3 : len * sz ≤ 16777216 <;> simp [h1, h2, h3, rowsA]
section
variable {P : Program} {s : St} {K : St → Prop} {t : TypeId} {d : Option Tmp} {pos : String} {af : Array Edge} {g : Option (Nat × Bool)}
theorem s_buildSlice2 (u n : Nat) (ps : Array (Nat × Operand)) : kop P ⟨d, .buildSlice u n ps, t, pos, af, g⟩ K s = StepK (retH s d ((mkT P u).bind fun q => if n * q.2.1 ≤ 16777216 then (fillS (fun i => some (i * q.2.1, q.2.1)) (ps.toList.map fun x => (x.1, get s.s x.2)) (List.replicate n q.2.2).flatten).map fun l => (True, .own s.h.length 0 n, s.h ++ [⟨0, q.1, l⟩]) else none)) K := by
  rw [s_buildSlice, buildSliceS_mkT]
  congr 2
  cases mkT P u <;> simp
  split <;> simp <;> rfl
end
set_option linter.defProp false in
def kS := And.intro @k_seq (And.intro @k_region (And.intro @k_draw (And.intro @k_skip (And.intro @k_cond (And.intro @k_block (And.intro @k_loop (And.intro @k_exit (And.intro @k_ret (And.intro @k_label (And.intro @k_scope (And.intro @k_rangeF (And.intro @k_goto (And.intro @o_nil (And.intro @o_none (And.intro @o_some (And.intro @s_move (And.intro @s_assign (And.intro @s_pick (And.intro @s_callF (And.intro @s_len (And.intro @s_unOp (And.intro @s_box (And.intro @s_unOp (And.intro @s_load (And.intro @s_store (And.intro @s_nilCheck (And.intro @s_binOp (And.intro @s_unOp (And.intro @s_convert (And.intro @s_makeIf (And.intro @s_makeSlice (And.intro @s_slice (And.intro @s_fieldAddr (And.intro @s_field (And.intro @s_indexAddr (And.intro @s_index (And.intro @s_extract (And.intro @StepK_retV (And.intro @StepK_retPT (And.intro @StepK_okS (And.intro @StepK_retHT (And.intro @StepK_someT (And.intro @StepK_retP (And.intro @StepK_retH (And.intro @StepK_some (And.intro @pt_some (And.intro @pt_none (And.intro @get_tmp (And.intro @get_const (And.intro @get_global (And.intro @get_func (And.intro @look_cons (And.intro @look_nil (And.intro @normK_eq (And.intro @thenA_normal (And.intro @thenA_ret (And.intro @thenA_exit (And.intro @thenA_goto (And.intro @inBlockA_normal (And.intro @inBlockA_ret (And.intro @inBlockA_goto (And.intro @inBlockA_exit (And.intro @CondK_true (And.intro @CondK_false (And.intro @PickK_true (And.intro @PickK_false (And.intro @GuardK_skip (And.intro @GuardK_tt (And.intro @GuardK_ff (And.intro @GuardK_tf (And.intro @GuardK_ft (And.intro @skipK_eq (And.intro @s_append2 (@s_buildSlice2)))))))))))))))))))))))))))))))))))))))))))))))))))))))))))))))))))))) ))))
end Go.Ev
/- Regions that draw their order: what is told in the text's order holds in every order that the edges leave. -/
namespace Go.Ev
set_option linter.all false
open Go Go.RowKit

/-- What an operation does hangs on its operands, and on the own blocks if it reads them. -/
def Frame (P : Program) (o : Oper) (K : St → Prop) (st : St) : Prop :=
  ∃ r h', K (pt ⟨st.s, h'⟩ o.dst r) ∧ (wrO P o.op = false → h' = st.h) ∧ ∀ st2 : St, st2.s.g = st.s.g → (∀ x ∈ o.op.operands.toList, get st2.s x = get st.s x) → (rdO P o.op = true → st2.h = st.h) →
    ∀ K2 : St → Prop, K2 (pt ⟨st2.s, if wrO P o.op = true then h' else st2.h⟩ o.dst r) → kop P o K2 st2

section
variable {P : Program} {o : Oper} {K : St → Prop} {st : St}
theorem frV (F : (Operand → AV) → List ABlk → Option AV) (he : ∀ s K, kop P o K s = StepK (retV s o.dst (F (get s.s) s.h)) K)
    (hc : ∀ g g' h, (∀ x ∈ o.op.operands.toList, g' x = g x) → F g' h = F g h) (hf : rdO P o.op = false → ∀ g h h', F g h = F g h') (hw : wrO P o.op = false) (h : kop P o K st) : Frame P o K st := by
  rw [he] at h
  cases e : F (get st.s) st.h with
  | none => rw [e] at h; exact h.elim
  | some r =>
    rw [e, StepK_retV] at h
    refine ⟨r, st.h, h, fun _ => rfl, fun st2 h0 h1 h2 K2 hk => ?_⟩
    have e2 : F (get st2.s) st2.h = some r := by
      rw [hc (get st.s) (get st2.s) st2.h h1]
      cases hr : rdO P o.op with
      | true => rw [h2 hr]; exact e
      | false => rw [hf hr _ _ st.h]; exact e
    rw [he, e2, StepK_retV]
    simpa [hw] using hk
theorem frP (F : (Operand → AV) → List ABlk → SV) (he : ∀ s K, kop P o K s = StepK (retP s o.dst (F (get s.s) s.h)) K)
    (hc : ∀ g g' h, (∀ x ∈ o.op.operands.toList, g' x = g x) → F g' h = F g h) (hf : rdO P o.op = false → ∀ g h h', F g h = F g h') (hw : wrO P o.op = false) (h : kop P o K st) : Frame P o K st := by
  rw [he] at h
  cases e : F (get st.s) st.h with
  | none => rw [e] at h; exact h.elim
  | some q =>
    obtain ⟨p, r⟩ := q
    rw [e, StepK_retP] at h
    refine ⟨r, st.h, h.2, fun _ => rfl, fun st2 h0 h1 h2 K2 hk => ?_⟩
    have e2 : F (get st2.s) st2.h = some (p, r) := by
      rw [hc (get st.s) (get st2.s) st2.h h1]
      cases hr : rdO P o.op with
      | true => rw [h2 hr]; exact e
      | false => rw [hf hr _ _ st.h]; exact e
    rw [he, e2, StepK_retP]
    exact ⟨h.1, by simpa [hw] using hk⟩
theorem frH (F : (Operand → AV) → List ABlk → Option (Prop × AV × List ABlk)) (he : ∀ s K, kop P o K s = StepK (retH s o.dst (F (get s.s) s.h)) K)
    (hc : ∀ g g' h, (∀ x ∈ o.op.operands.toList, g' x = g x) → F g' h = F g h) (hr : rdO P o.op = true) (hw : wrO P o.op = true) (h : kop P o K st) : Frame P o K st := by
  rw [he] at h
  cases e : F (get st.s) st.h with
  | none => rw [e] at h; exact h.elim
  | some q =>
    obtain ⟨p, r, h'⟩ := q
    rw [e, StepK_retH] at h
    refine ⟨r, h', h.2, fun hw' => (by rw [hw] at hw'; cases hw'), fun st2 h0 h1 h2 K2 hk => ?_⟩
    have e2 : F (get st2.s) st2.h = some (p, r, h') := by rw [hc (get st.s) (get st2.s) st2.h h1, h2 hr]; exact e
    rw [he, e2, StepK_retH]
    exact ⟨h.1, by simpa [hw] using hk⟩
end
theorem kop_frame {P : Program} {o : Oper} {K : St → Prop} {st : St} (h : kop P o K st) : Frame P o K st := by
  obtain ⟨d, op, t, pos, af, g⟩ := o
  cases op with
  | move x => exact frV (fun g _ => some (g x)) (fun s K => by rw [s_move, StepK_retV]) (fun g g' h e => by rw [e x (by simp [Op.operands])]) (fun _ _ _ _ => rfl) rfl h
  | assign x => exact frV (fun g _ => some (g x)) (fun s K => by rw [s_assign, StepK_retV]) (fun g g' h e => by rw [e x (by simp [Op.operands])]) (fun _ _ _ _ => rfl) rfl h
  | load u x => exact frV (fun g h => loadS P u h (g x)) (fun s K => rfl) (fun g g' h e => by rw [e x (by simp [Op.operands])]) (fun e => by simp [rdO] at e) rfl h
  | fieldAddr u x f => exact frV (fun g h => fieldAddrS P u f h (g x)) (fun s K => rfl) (fun g g' h e => by rw [e x (by simp [Op.operands])]) (fun e => by simp [rdO] at e) rfl h
  | field u x f => exact frV (fun g h => fieldS P u f (g x)) (fun s K => rfl) (fun g g' h e => by rw [e x (by simp [Op.operands])]) (fun _ _ _ _ => rfl) rfl h
  | extract x i => exact frV (fun g h => extractS i (g x)) (fun s K => rfl) (fun g g' h e => by rw [e x (by simp [Op.operands])]) (fun _ _ _ _ => rfl) rfl h
  | build u ps => exact frV (fun g h => buildS P u (ps.toList.map fun (i, x) => (i, g x))) (fun s K => rfl) (fun g g' h e => by
      congr 1
      apply List.map_congr_left
      intro q hq
      show ((q.1, g' q.2) : Nat × AV) = (q.1, g q.2)
      rw [e q.2 (by simp [Op.operands]; exact ⟨q.1, by simpa using hq⟩)]) (fun _ _ _ _ => rfl) rfl h
  | binOp op u x y v => exact frP (fun g h => binS P op u (isConst x || isConst y) (g x) (g y)) (fun s K => rfl) (fun g g' h e => by rw [e x (by simp [Op.operands]), e y (by simp [Op.operands])]) (fun _ _ _ _ => rfl) rfl h
  | unOp op u x => exact frP (fun g h => unS op (g x)) (fun s K => rfl) (fun g g' h e => by rw [e x (by simp [Op.operands])]) (fun _ _ _ _ => rfl) rfl h
  | index u x y => exact frP (fun g h => indexS P u (g x) (g y)) (fun s K => rfl) (fun g g' h e => by rw [e x (by simp [Op.operands]), e y (by simp [Op.operands])]) (fun _ _ _ _ => rfl) rfl h
  | indexAddr u x y => exact frP (fun g h => indexAddrS P u h (g x) (g y)) (fun s K => rfl) (fun g g' h e => by rw [e x (by simp [Op.operands]), e y (by simp [Op.operands])]) (fun e => by simp [rdO] at e) rfl h
  | slice u x lo hi mx =>
    cases mx with
    | some m => simp only [kop, stepS, StepK] at h
    | none => exact frP (fun g h => sliceS P u h (lo.map g) (hi.map g) (g x)) (fun s K => rfl) (fun g g' h e => by
        have e1 : lo.map g' = lo.map g := by
          cases lo with
          | none => rfl
          | some y => simp only [Option.map_some]; rw [e y (by simp [Op.operands])]
        have e2 : hi.map g' = hi.map g := by
          cases hi with
          | none => rfl
          | some y => simp only [Option.map_some]; rw [e y (by simp [Op.operands])]
        rw [e1, e2, e x (by simp [Op.operands])]) (fun e g h h' => by
        have ht : strT P u = true := by simpa [rdO] using e
        have hel : elemT P u = none := by
          unfold strT at ht
          unfold elemT
          split at ht
          · rename_i hu; rw [hu]
          · cases ht
        show sliceS P u h (lo.map g) (hi.map g) (g x) = sliceS P u h' (lo.map g) (hi.map g) (g x)
        unfold sliceS
        rw [hel]
        split <;> rfl) rfl h
  | makeInterface u x => exact frV (fun g h => if ifcT P u = some false then some (.ifc u (g x)) else none) (fun s K => by
      rw [s_makeIf]; split <;> rfl) (fun g g' h e => by rw [e x (by simp [Op.operands])]) (fun _ _ _ _ => rfl) rfl h
  | alloc u => exact frH (fun g h => (zeroT P u).bind fun z => some (True, .ptr h.length 0 0, h ++ [⟨0, u, zeroCells z⟩])) (fun s K => by
      rw [s_alloc]; cases zeroT P u <;> rfl) (fun _ _ _ _ => rfl) rfl rfl h
  | box u x => exact frH (fun g h => (flat (g x)).bind fun cs => some (True, .ptr h.length 0 0, h ++ [⟨0, u, cs⟩])) (fun s K => by
      rw [s_box]; cases flat (get s.s x) <;> rfl) (fun g g' h e => by rw [e x (by simp [Op.operands])]) rfl rfl h
  | buildSlice u n ps => exact frH (fun g h => (buildSliceS P u n (ps.toList.map fun (i, x) => (i, g x)) h).map fun (r, h) => (True, r, h)) (fun s K => rfl) (fun g g' h e => by
      congr 2
      apply List.map_congr_left
      intro q hq
      show ((q.1, g' q.2) : Nat × AV) = (q.1, g q.2)
      rw [e q.2 (by simp [Op.operands]; exact ⟨q.1, by simpa using hq⟩)]) rfl rfl h
  | makeSlice u x y => exact frH (fun g h => makeSliceS P u h (g x) (g y)) (fun s K => rfl) (fun g g' h e => by rw [e x (by simp [Op.operands]), e y (by simp [Op.operands])]) rfl rfl h
  | store u x y => exact frH (fun g h => (storeS P u h (g x) (g y)).map fun h => (True, .bad, h)) (fun s K => by
      rw [s_store]; cases storeS P u s.h (get s.s x) (get s.s y) <;> rfl) (fun g g' h e => by rw [e x (by simp [Op.operands]), e y (by simp [Op.operands])]) rfl rfl h
  | nilCheck x =>
    refine frV (fun g h => match g x with
      | .ptr i ver off => (blkS h i ver).map fun _ => .ptr i ver off
      | .ela b cs => some (.ela b cs)
      | _ => none) (fun s K => ?_) (fun g g' h e => ?_) (fun e => ?_) rfl h
    · rw [s_nilCheck]
      cases hq : get s.s x <;> simp only [nilChk, hq] <;> try rfl
      cases blkS s.h _ _ <;> rfl
    · simp only [e x (by simp [Op.operands])]
    · simp [rdO] at e
  | pick c x y =>
    rw [s_pick] at h
    unfold PickK at h
    split at h
    · rename_i z hz
      refine ⟨if z = true then get st.s x else get st.s y, st.h, ?_, fun _ => rfl, fun st2 h0 h1 h2 K2 hk => ?_⟩
      · cases z
        · exact h.2 rfl
        · exact h.1 rfl
      · rw [s_pick, h1 c (by simp [Op.operands]), h1 x (by simp [Op.operands]), h1 y (by simp [Op.operands]), hz]
        refine PickK.intro (fun e => ?_) (fun e => ?_) <;> subst e <;> exact hk
    · exact h.elim
  | convert a b x =>
    cases hb : (intT P b).isSome with
    | false => exact frH (fun g h => convertS P a b h (g x)) (fun s K => rfl) (fun g g' h e => by rw [e x (by simp [Op.operands])]) (by simp [rdO, hb]) (by simp [wrO, hb]) h
    | true =>
      obtain ⟨k, hk⟩ := Option.isSome_iff_exists.1 hb
      have hs : strT P b = false := by
        unfold intT at hk; unfold strT
        cases hu : P.underlying b with
        | none => rfl
        | some u => rw [hu] at hk; cases u <;> simp at hk ⊢
      have he : elemT P b = none := by
        unfold intT at hk; unfold elemT
        cases hu : P.underlying b with
        | none => rfl
        | some u => rw [hu] at hk; cases u <;> simp at hk ⊢
      refine frP (fun g _ => match g x with
        | .v (.int _ n) => if (P.underlying a).isSome = true then some (True, .v (.int k (k.wrap n))) else none
        | .v (.float .f64 b) => if (P.underlying a).isSome = true then (f2i b k).map fun n => (True, .v (.int k n)) else none
        | _ => none) (fun s K => ?_) (fun g g' h e => by simp only [e x (by simp [Op.operands])]) (fun _ _ _ _ => rfl) (by simp [wrO, hb]) h
      rw [s_convert]
      unfold convertS
      split <;> rename_i e <;> simp [e, hk, hs, he]
      · split <;> rfl
      · split
        · cases f2i _ k <;> rfl
        · rfl
      all_goals rfl
  | call c =>
    obtain ⟨callee, xs, ts⟩ := c
    cases callee with
    | builtin b =>
      cases b with
      | len =>
        obtain ⟨l⟩ := xs
        cases l with
        | nil => simp only [kop, stepS, builtinS, StepK] at h
        | cons x l =>
          exact frV (fun g h => (ts[0]?).bind fun t => lenS P t h (g x)) (fun s K => by
            simp only [kop, stepS, builtinS]; cases ts[0]? <;> rfl) (fun g g' h e => by rw [e x (by simp [Op.operands, Call.operands])]) (fun e => by simp [rdO] at e) rfl h
      | append =>
        obtain ⟨l⟩ := xs
        match l with
        | [] | [_] | _ :: _ :: _ :: _ => simp only [kop, stepS, builtinS, StepK] at h
        | [x, y] => exact frH (fun g h => appendS P ts h (g x) (g y)) (fun s K => rfl) (fun g g' h e => by rw [e x (by simp [Op.operands, Call.operands]), e y (by simp [Op.operands, Call.operands])]) rfl rfl h
      | real =>
        obtain ⟨l⟩ := xs
        match l with
        | [] | _ :: _ :: _ => simp only [kop, stepS, builtinS, StepK] at h
        | [x] => exact frV (fun g h => partS false (g x)) (fun s K => rfl) (fun g g' h e => by rw [e x (by simp [Op.operands, Call.operands])]) (fun _ _ _ _ => rfl) rfl h
      | imag =>
        obtain ⟨l⟩ := xs
        match l with
        | [] | _ :: _ :: _ => simp only [kop, stepS, builtinS, StepK] at h
        | [x] => exact frV (fun g h => partS true (g x)) (fun s K => rfl) (fun g g' h e => by rw [e x (by simp [Op.operands, Call.operands])]) (fun _ _ _ _ => rfl) rfl h
      | complex =>
        obtain ⟨l⟩ := xs
        match l with
        | [] | [_] | _ :: _ :: _ :: _ => simp only [kop, stepS, builtinS, StepK] at h
        | [x, y] => exact frV (fun g h => compS (g x) (g y)) (fun s K => rfl) (fun g g' h e => by rw [e x (by simp [Op.operands, Call.operands]), e y (by simp [Op.operands, Call.operands])]) (fun _ _ _ _ => rfl) rfl h
      | max =>
        obtain ⟨l⟩ := xs
        match l with
        | [] | [_] | _ :: _ :: _ :: _ => simp only [kop, stepS, builtinS, StepK] at h
        | [x, y] => exact frV (fun g h => maxS (g x) (g y)) (fun s K => rfl) (fun g g' h e => by rw [e x (by simp [Op.operands, Call.operands]), e y (by simp [Op.operands, Call.operands])]) (fun _ _ _ _ => rfl) rfl h
      | _ => simp only [kop, stepS, builtinS, StepK] at h
    | invoke r m => simp only [kop, stepS, builtinS, StepK] at h
    | value f =>
      cases f with
      | func f =>
        rw [s_callF] at h
        obtain ⟨h1, ys, r, h2, h3, h4⟩ | ⟨r, h1, h2⟩ := h
        case inr =>
          refine ⟨r, st.h, h2, fun _ => rfl, fun st2 g0 g1 g2 K2 hk => ?_⟩
          have e : xs.toList.map (get st2.s) = xs.toList.map (get st.s) := List.map_congr_left fun x hx => g1 x (by simp [Op.operands, Call.operands]; exact .inr (by simpa using hx))
          have e2 := g2 rfl
          have hk' : K2 (pt st2 d r) := by rw [show st2 = ⟨st2.s, st2.h⟩ from rfl]; exact hk
          rw [s_callF, e]
          exact .inr ⟨r, h1, hk'⟩
        refine ⟨r, st.h, h4, fun _ => rfl, fun st2 g0 g1 g2 K2 hk => ?_⟩
        have e : xs.toList.map (get st2.s) = xs.toList.map (get st.s) := List.map_congr_left fun x hx => g1 x (by simp [Op.operands, Call.operands]; exact .inr (by simpa using hx))
        have e2 := g2 rfl
        rw [s_callF, e]
        refine .inl ⟨h1, ys, r, ?_, by rw [g0]; exact h3, hk⟩
        rw [e2]; exact h2
      | _ => simp only [kop, stepS, builtinS, StepK] at h
  | _ => simp only [kop, stepS, StepK] at h
end Go.Ev
/- Drawn regions: the text's order serves for every order that the edges leave. And the whole: what the code layer says is sound. -/
namespace Go.Ev
set_option linter.all false
open Go Go.RowKit

/-- What an operation did in the text's order, it does wherever what it looks at is the same. -/
def StepF (P : Program) (ops : Array Oper) (o : Oper) (s : St) (r : AV) (h' : List ABlk) : Prop :=
  (wrO P o.op = false → h' = s.h) ∧ ∀ s2 : St, s2.s.g = s.s.g → (∀ t ∈ o.looksAt ops, look s2.s.l t = look s.s.l t) → (rwO P o.op = true → s2.h = s.h) →
    ∀ (X : Fix) (φ : List Nat) (a : Act) (w : World) (Q : Exit → Act → World → Prop) (i : Nat) (K2 : St → Prop), X.P = P → SR X φ s2 a w → ops[i]? = some o →
      K2 (pt ⟨s2.s, if wrO P o.op = true then h' else s2.h⟩ o.dst r) → wpOp P ops Q i (Nx X K2) a w
theorem looks_get {ops : Array Oper} {o : Oper} {s s2 : St} (hg : s2.s.g = s.s.g) (h : ∀ t ∈ o.looksAt ops, look s2.s.l t = look s.s.l t) : ∀ x ∈ o.op.operands.toList, get s2.s x = get s.s x := by
  intro x hx
  cases x with
  | tmp t => exact h t (by simp only [Oper.looksAt]; exact List.mem_append_left _ (List.mem_filterMap.2 ⟨.tmp t, hx, rfl⟩))
  | global k => simp only [get, hg]
  | _ => rfl
theorem frame_step {P : Program} {ops : Array Oper} {o : Oper} {s : St} {K : St → Prop} (hg : o.guard = none) (h : kop P o K s) : ∃ r h', K (pt ⟨s.s, h'⟩ o.dst r) ∧ StepF P ops o s r h' := by
  obtain ⟨r, h', hk, hw, hf⟩ := kop_frame h
  refine ⟨r, h', hk, hw, fun s2 h0 h1 h2 X φ a w Q i K2 hP hs hi hk2 => ?_⟩
  subst hP
  have hk3 := hf s2 h0 (looks_get h0 h1) (fun e => h2 (by simp [rwO, e])) K2 hk2
  unfold wpOp
  rw [hi]
  have hw' : Region.wanted o (yielded ops a.tmps) = true := by simp [Region.wanted, hg]
  simp only [hw', if_true]
  exact .inl (kop_sound hs hk3)
theorem guard_yield {X : Fix} {φ : List Nat} {s2 : St} {a : Act} {w : World} {ops : Array Oper} {j : Nat} {z : Bool} (hs : SR X φ s2 a w) (hz : guardA ops s2 j = .v (.bool z)) : yielded ops a.tmps j = some z := by
  unfold guardA at hz
  split at hz
  · rename_i t ht
    unfold yielded
    rw [ht]
    have hr := hs.slots t
    rw [hz] at hr
    simp only [rel] at hr
    cases htm : a.tmps[t]? with
    | none => simp [htm, undef] at hr
    | some u =>
      simp [htm] at hr
      subst hr
      simp [htm]
  · cases hz
theorem guard_yield_none {X : Fix} {φ : List Nat} {s2 : St} {a : Act} {w : World} {ops : Array Oper} {j : Nat} {us : Array Value} (hs : SR X φ s2 a w) (hz : guardA ops s2 j = .v (.tuple us)) : yielded ops a.tmps j = none := by
  unfold guardA at hz
  split at hz
  · rename_i t ht
    unfold yielded
    rw [ht]
    have hr := hs.slots t
    rw [hz] at hr
    simp only [rel] at hr
    cases htm : a.tmps[t]? with
    | none => simp [htm]
    | some u =>
      simp [htm] at hr
      subst hr
      simp [htm]
  · cases hz
theorem skip_step {P : Program} {ops : Array Oper} {o : Oper} {s : St} {K : St → Prop} (hk : skipK o.dst K s)
    (hno : ∀ s2 : St, (∀ t ∈ o.looksAt ops, look s2.s.l t = look s.s.l t) → ∀ (X : Fix) (φ : List Nat) (a : Act) (w : World), SR X φ s2 a w → Region.wanted o (yielded ops a.tmps) = false) :
    ∃ r h', K (pt ⟨s.s, h'⟩ o.dst r) ∧ StepF P ops o s r h' := by
  refine ⟨.v (.tuple #[]), s.h, hk, fun _ => rfl, fun s2 h0 h1 h2 X φ a w Q i K2 hP hs hi hk2 => ?_⟩
  subst hP
  unfold wpOp
  rw [hi]
  simp only [hno s2 h1 X φ a w hs]
  have hh : (if wrO X.P o.op = true then s.h else s2.h) = s2.h := by
    split
    · rename_i e; exact (h2 (by simp [rwO, e])).symm
    · rfl
  rw [hh] at hk2
  exact ⟨φ, _, hs.put o.dst (r := .v (.tuple #[])) (u := undef) (by simp only [rel, undef]), hk2⟩
theorem guard_step {P : Program} {ops : Array Oper} {o : Oper} {s : St} {K : St → Prop} {j : Nat} {b : Bool} (hg : o.guard = some (j, b)) (h : GuardK (guardA ops s j) b (kop P o K) (skipK o.dst K) s) :
    ∃ r h', K (pt ⟨s.s, h'⟩ o.dst r) ∧ StepF P ops o s r h' := by
  have hz2 : ∀ s2 : St, (∀ t ∈ o.looksAt ops, look s2.s.l t = look s.s.l t) → guardA ops s2 j = guardA ops s j := fun s2 h1 => by
    unfold guardA
    cases hd : (ops[j]?).bind (·.dst) with
    | none => rfl
    | some t =>
      simp only
      exact h1 t (by simp only [Oper.looksAt, hg, hd]; simp)
  unfold GuardK at h
  split at h
  · rename_i z hz
    by_cases hb : z = b
    · obtain ⟨r, h', hk, hw, hf⟩ := kop_frame (h.1 hb)
      refine ⟨r, h', hk, hw, fun s2 h0 h1 h2 X φ a w Q i K2 hP hs hi hk2 => ?_⟩
      subst hP
      have hk3 := hf s2 h0 (looks_get h0 h1) (fun e => h2 (by simp [rwO, e])) K2 hk2
      unfold wpOp
      rw [hi]
      have hw' : Region.wanted o (yielded ops a.tmps) = true := by simp [Region.wanted, hg, guard_yield hs ((hz2 s2 h1).trans hz), hb]
      simp only [hw', if_true]
      exact .inl (kop_sound hs hk3)
    · exact skip_step (h.2 hb) fun s2 h1 X φ a w hs => by simp [Region.wanted, hg, guard_yield hs ((hz2 s2 h1).trans hz), hb]
  · rename_i us hz
    exact skip_step h fun s2 h1 X φ a w hs => by simp [Region.wanted, hg, guard_yield_none hs ((hz2 s2 h1).trans hz)]
  · exact h.elim
theorem runs {P : Program} {ops : Array Oper} : ∀ (os : List Oper) {K : St → Prop} {s : St}, kops P ops os K s →
    ∃ (S : Nat → St) (r : Nat → AV), S 0 = s ∧ K (S os.length) ∧ ∀ (i : Nat) (o : Oper), os[i]? = some o → S (i + 1) = pt ⟨(S i).s, (S (i + 1)).h⟩ o.dst (r i) ∧ StepF P ops o (S i) (r i) (S (i + 1)).h
  | [], K, s, h => ⟨fun _ => s, fun _ => .bad, rfl, h, fun i o ho => by simp at ho⟩
  | o :: os, K, s, h => by
    have h' : ∃ r h', kops P ops os K (pt ⟨s.s, h'⟩ o.dst r) ∧ StepF P ops o s r h' := by
      simp only [kops] at h
      split at h
      · rename_i hg; exact frame_step hg h
      · rename_i j b hg; exact guard_step hg h
    obtain ⟨r, h', hk, hf⟩ := h'
    obtain ⟨S, rs, h0, h1, h2⟩ := runs os hk
    refine ⟨fun | 0 => s | i + 1 => S i, fun | 0 => r | i + 1 => rs i, rfl, h1, fun i p hp => ?_⟩
    cases i with
    | zero =>
      simp only [List.getElem?_cons_zero, Option.some.injEq] at hp
      subst hp
      have : (S 0).h = h' := by rw [h0]; rfl
      simp only [this]
      exact ⟨h0, hf⟩
    | succ i => exact h2 i p (by simpa using hp)

section
variable {P : Program} {ops : Array Oper} {S : Nat → St} {r : Nat → AV}
def putL (n : Nat) (d : Option Tmp) (x : AV) (l : List (Nat × AV)) : List (Nat × AV) := (putS ⟨n, l, []⟩ d x).l
theorem look_putL (n : Nat) (d : Option Tmp) (x : AV) (l : List (Nat × AV)) (t : Nat) : look (putL n d x l) t = if d = some t ∧ t < n then x else look l t := by
  unfold putL putS
  cases d with
  | none => simp
  | some d =>
    simp only [Option.some.injEq]
    by_cases hd : d < n
    · simp only [hd, if_true, look]
      by_cases e : d = t
      · subst e; simp [hd]
      · simp [e]
    · simp only [hd, if_false]
      by_cases e : d = t
      · subst e; simp [hd]
      · simp [e]
theorem look_putS (n : Nat) (d : Option Tmp) (x : AV) (l g : List (Nat × AV)) (t : Nat) : look (putS ⟨n, l, g⟩ d x).l t = if d = some t ∧ t < n then x else look l t := by
  rw [← look_putL]
  unfold putL putS
  split <;> try rfl
  split <;> rfl
/-- The slots when those of L are done. -/
def lU (ops : Array Oper) (st : St) (r : Nat → AV) (L : Nat → Bool) : Nat → List (Nat × AV)
  | 0 => st.s.l
  | i + 1 => if L i = true then putL st.s.n ((ops[i]?).bind (·.dst)) (r i) (lU ops st r L i) else lU ops st r L i
def hU (P : Program) (ops : Array Oper) (st : St) (S : Nat → St) (L : Nat → Bool) : Nat → List ABlk
  | 0 => st.h
  | i + 1 => if L i = true ∧ ((ops[i]?).map fun o => wrO P o.op) = some true then (S (i + 1)).h else hU P ops st S L i
structure Run (P : Program) (ops : Array Oper) (st : St) (S : Nat → St) (r : Nat → AV) : Prop where
  zero : S 0 = st
  step : ∀ (i : Nat) (o : Oper), ops[i]? = some o → S (i + 1) = pt ⟨(S i).s, (S (i + 1)).h⟩ o.dst (r i) ∧ StepF P ops o (S i) (r i) (S (i + 1)).h
variable {st : St} (R : Run P ops st S r)
include R
theorem Run.n : ∀ i, i ≤ ops.size → (S i).s.n = st.s.n := by
  intro i
  induction i with
  | zero => intro _; rw [R.zero]
  | succ i ih =>
    intro hi
    obtain ⟨e, _⟩ := R.step i ops[i] (by simp)
    rw [e]
    show (putS (S i).s _ _).n = _
    rw [← ih (by omega)]
    unfold putS
    split <;> try rfl
    split <;> rfl
theorem Run.g : ∀ i, i ≤ ops.size → (S i).s.g = st.s.g := by
  intro i
  induction i with
  | zero => intro _; rw [R.zero]
  | succ i ih =>
    intro hi
    obtain ⟨e, _⟩ := R.step i ops[i] (by simp)
    rw [e]
    show (putS (S i).s _ _).g = _
    rw [← ih (by omega)]
    unfold putS
    split <;> try rfl
    split <;> rfl
theorem Run.look {i : Nat} {o : Oper} (ho : ops[i]? = some o) (t : Nat) : look (S (i + 1)).s.l t = if o.dst = some t ∧ t < st.s.n then r i else look (S i).s.l t := by
  obtain ⟨e, _⟩ := R.step i o ho
  have hi : i < ops.size := (Array.getElem?_eq_some_iff.1 ho).1
  have hn := R.n i (by omega)
  rw [e]
  show Ev.look (putS (S i).s o.dst (r i)).l t = _
  have := look_putL (S i).s.n o.dst (r i) (S i).s.l t
  rw [hn] at this
  rw [← this]
  unfold putL
  rw [← hn]
  unfold putS
  split <;> try rfl
  split <;> rfl
theorem Run.lU_text {L : Nat → Bool} {t : Nat} : ∀ i, i ≤ ops.size → (∀ j o, j < i → ops[j]? = some o → o.dst = some t → L j = true) → Ev.look (lU ops st r L i) t = Ev.look (S i).s.l t := by
  intro i
  induction i with
  | zero => intro _ _; rw [R.zero]; rfl
  | succ i ih =>
    intro hi h
    have ho : ops[i]? = some ops[i] := by simp
    have ih := ih (by omega) fun j o hj => h j o (by omega)
    rw [R.look ho]
    simp only [lU]
    split
    · rw [look_putL, ho, Option.bind_some, ih]
    · rename_i hL
      rw [ih, if_neg fun hd => hL (h i _ (by omega) ho hd.1)]
omit R in
theorem lU_stay {L : Nat → Bool} {t : Nat} {i : Nat} : ∀ m, i ≤ m → (∀ j o, i ≤ j → j < m → ops[j]? = some o → L j = true → o.dst ≠ some t) → Ev.look (lU ops st r L m) t = Ev.look (lU ops st r L i) t := by
  intro m
  induction m with
  | zero => intro h _; rw [show i = 0 by omega]
  | succ m ih =>
    intro hm h
    by_cases e : i = m + 1
    · rw [e]
    · rw [← ih (by omega) fun j o h1 h2 => h j o h1 (by omega)]
      simp only [lU]
      split
      · rename_i hL
        rw [look_putL, if_neg]
        rintro ⟨hd, _⟩
        cases ho : ops[m]? with
        | none => rw [ho] at hd; cases hd
        | some o => rw [ho] at hd; exact h m o (by omega) (by omega) ho hL hd
      · rfl
omit R in
theorem lU_same {L L' : Nat → Bool} {t : Nat} : ∀ m, (∀ j, j < m → L' j = L j ∨ (∀ o, ops[j]? = some o → o.dst ≠ some t)) → Ev.look (lU ops st r L' m) t = Ev.look (lU ops st r L m) t := by
  intro m
  induction m with
  | zero => intro _; rfl
  | succ m ih =>
    intro h
    have ih := ih fun j hj => h j (by omega)
    have hno : (∀ o, ops[m]? = some o → o.dst ≠ some t) → ∀ (l : List (Nat × AV)), Ev.look (putL st.s.n ((ops[m]?).bind (·.dst)) (r m) l) t = Ev.look l t := fun hd l => by
      rw [look_putL, if_neg]
      rintro ⟨e, _⟩
      cases ho : ops[m]? with
      | none => rw [ho] at e; cases e
      | some o => rw [ho] at e; exact hd o ho e
    simp only [lU]
    rcases h m (by omega) with e | hd
    · rw [e]
      split
      · rw [look_putL, look_putL, ih]
      · exact ih
    · split <;> split <;> simp only [hno hd, ih]
theorem Run.hU_text {L : Nat → Bool} : ∀ i, i ≤ ops.size → (∀ j o, j < i → ops[j]? = some o → wrO P o.op = true → L j = true) → hU P ops st S L i = (S i).h := by
  intro i
  induction i with
  | zero => intro _ _; rw [R.zero]; rfl
  | succ i ih =>
    intro hi h
    have ho : ops[i]? = some ops[i] := by simp
    have ih := ih (by omega) fun j o hj => h j o (by omega)
    obtain ⟨_, hf, _⟩ := R.step i _ ho
    simp only [hU, ho, Option.map_some, Option.some.injEq]
    split
    · rfl
    · rename_i hc
      cases hw : wrO P ops[i].op with
      | true => exact absurd ⟨h i _ (by omega) ho hw, hw⟩ hc
      | false => rw [ih, hf hw]
omit R in
theorem hU_stay {L : Nat → Bool} {i : Nat} : ∀ m, i ≤ m → (∀ j o, i ≤ j → j < m → ops[j]? = some o → L j = true → wrO P o.op = false) → hU P ops st S L m = hU P ops st S L i := by
  intro m
  induction m with
  | zero => intro h _; rw [show i = 0 by omega]
  | succ m ih =>
    intro hm h
    by_cases e : i = m + 1
    · rw [e]
    · rw [← ih (by omega) fun j o h1 h2 => h j o h1 (by omega)]
      simp only [hU]
      rw [if_neg]
      rintro ⟨hL, hw⟩
      cases ho : ops[m]? with
      | none => rw [ho] at hw; cases hw
      | some o => rw [ho] at hw; have := h m o (by omega) (by omega) ho hL; simp only [Option.map_some, Option.some.injEq] at hw; rw [this] at hw; cases hw
omit R in
theorem hU_same {L L' : Nat → Bool} : ∀ m, (∀ j, j < m → L' j = L j ∨ (∀ o, ops[j]? = some o → wrO P o.op = false)) → hU P ops st S L' m = hU P ops st S L m := by
  intro m
  induction m with
  | zero => intro _; rfl
  | succ m ih =>
    intro h
    have ih := ih fun j hj => h j (by omega)
    simp only [hU, ih]
    rcases h m (by omega) with e | hd
    · rw [e]
    · have : ¬ ((ops[m]?).map fun o => wrO P o.op) = some true := by
        cases ho : ops[m]? with
        | none => simp
        | some o => simp [hd o ho]
      rw [if_neg fun h => this h.2, if_neg fun h => this h.2]
end
end Go.Ev
/- Drawn regions, the end; and the code layer as a whole. -/
namespace Go.Ev
set_option linter.all false
open Go Go.RowKit

theorem putS_n (s : Slots) (d : Option Tmp) (x : AV) : (putS s d x).n = s.n := by
  unfold putS
  split <;> try rfl
  split <;> rfl
theorem putS_g (s : Slots) (d : Option Tmp) (x : AV) : (putS s d x).g = s.g := by
  unfold putS
  split <;> try rfl
  split <;> rfl
def closedL (ops : Array Oper) (L : Nat → Bool) : Prop := ∀ (i : Nat) (o : Oper), ops[i]? = some o → L i = true → ∀ e ∈ o.after.toList, bindsE e = true → L e.on = true
theorem ancOk_at {ops : Array Oper} {tbl : List (List Nat)} (h : ancOk ops tbl = true) {i : Nat} {o : Oper} (ho : ops[i]? = some o) :
    (∀ e ∈ o.after.toList, bindsE e = true → e.on < i) ∧ ∀ j ∈ tbl.getD i [], ∃ e ∈ o.after.toList, bindsE e = true ∧ (e.on = j ∨ j ∈ tbl.getD e.on []) := by
  have hi : i < ops.size := (Array.getElem?_eq_some_iff.1 ho).1
  simp only [ancOk, List.all_eq_true] at h
  have := h i (List.mem_range.2 hi)
  rw [ho] at this
  simp only [Bool.and_eq_true, List.all_eq_true, List.any_eq_true, Bool.or_eq_true, Bool.not_eq_true', decide_eq_true_eq, beq_iff_eq, List.contains_iff_mem] at this
  refine ⟨fun e he hb => ?_, this.2⟩
  rcases this.1 e he with h | h
  · rw [hb] at h; cases h
  · exact h
theorem anc_done {ops : Array Oper} {tbl : List (List Nat)} (h : ancOk ops tbl = true) {L : Nat → Bool} (hc : closedL ops L) : ∀ (n i : Nat) (o : Oper), i < n → ops[i]? = some o →
    (∀ e ∈ o.after.toList, bindsE e = true → L e.on = true) → ∀ j ∈ tbl.getD i [], L j = true
  | 0, i, o, hi, _, _, _, _ => by omega
  | n + 1, i, o, hi, ho, he, j, hj => by
    obtain ⟨h1, h2⟩ := ancOk_at h ho
    obtain ⟨e, hm, hb, hd⟩ := h2 j hj
    rcases hd with rfl | hd
    · exact he e hm hb
    · have hlt := h1 e hm hb
      have hi' : i < ops.size := (Array.getElem?_eq_some_iff.1 ho).1
      have ho' : ops[e.on]? = some (ops[e.on]'(by omega)) := by simp [show e.on < ops.size by omega]
      exact anc_done h hc n e.on _ (by omega) ho' (hc _ _ ho' (he e hm hb)) j hd
theorem drawOk_at {P : Program} {ops : Array Oper} {tbl : List (List Nat)} (h : drawOkT P ops tbl = true) {i j : Nat} {x y : Oper} (hij : i < j) (hx : ops[i]? = some x) (hy : ops[j]? = some y) (hc : clashO P ops x y = true) : i ∈ tbl.getD j [] := by
  have hj : j < ops.size := (Array.getElem?_eq_some_iff.1 hy).1
  simp only [drawOkT, Bool.and_eq_true, List.all_eq_true] at h
  have := h.2 j (List.mem_range.2 hj) i (List.mem_range.2 hij)
  rw [hx, hy] at this
  simp only [Bool.or_eq_true, Bool.not_eq_true', List.contains_iff_mem] at this
  rcases this with h | h
  · rw [hc] at h; cases h
  · exact h
theorem SR.same {X : Fix} {φ : List Nat} {s s' : St} {a : Act} {w : World} (hs : SR X φ s a w) (hn : s.s.n = s'.s.n) (hg : s.s.g = s'.s.g) (hl : ∀ t, look s.s.l t = look s'.s.l t) (hh : s.h = s'.h) : SR X φ s' a w := by
  obtain ⟨⟨n, l, g⟩, h⟩ := s
  obtain ⟨⟨n', l', g'⟩, h'⟩ := s'
  simp only at hn hg hl hh
  subst hn; subst hg; subst hh
  exact { hs with slots := fun t => by have := hs.slots t; simp only at this ⊢; rw [← hl t]; exact this }
theorem clash_w {P : Program} {ops : Array Oper} {x y : Oper} {t : Tmp} (h1 : x.dst = some t) (h2 : t ∈ y.looksAt ops ∨ y.dst = some t) : clashO P ops x y = true := by
  simp only [clashO, h1, Bool.or_eq_true, List.contains_iff_mem, beq_iff_eq]
  exact .inl (.inl (.inl h2))
theorem clash_r {P : Program} {ops : Array Oper} {x y : Oper} {t : Tmp} (h1 : y.dst = some t) (h2 : t ∈ x.looksAt ops) : clashO P ops x y = true := by
  simp only [clashO, h1, Bool.or_eq_true, List.contains_iff_mem]
  exact .inl (.inl (.inr h2))
theorem clash_hw {P : Program} {ops : Array Oper} {x y : Oper} (h1 : wrO P x.op = true) (h2 : rwO P y.op = true) : clashO P ops x y = true := by
  simp only [clashO, h1, h2, Bool.or_eq_true, Bool.and_self]
  exact .inl (.inr trivial)
theorem clash_hr {P : Program} {ops : Array Oper} {x y : Oper} (h1 : rwO P x.op = true) (h2 : wrO P y.op = true) : clashO P ops x y = true := by
  simp only [clashO, h1, h2, Bool.or_eq_true, Bool.and_self]
  exact .inr trivial
def todo (n : Nat) (L : Nat → Bool) : Nat := ((List.range n).filter fun i => !L i).length
theorem draw_any {X : Fix} {P : Program} (hP : X.P = P) {ops : Array Oper} {st : St} {S : Nat → St} {r : Nat → AV} (R : Run P ops st S r) {tbl : List (List Nat)} (hok : drawOkT P ops tbl = true) {Q : Exit → Act → World → Prop} {K : St → Prop}
    (hQ : ∀ a w, Nx X K a w → Q .normal a w) (hK : K (S ops.size)) : ∀ (fuel : Nat) (listed : Array Bool) (a : Act) (w : World) (φ : List Nat), listed.size = ops.size → closedL ops (fun i => listed.getD i false) → todo ops.size (fun i => listed.getD i false) ≤ fuel →
    SR X φ ⟨⟨st.s.n, lU ops st r (fun i => listed.getD i false) ops.size, st.s.g⟩, hU P ops st S (fun i => listed.getD i false) ops.size⟩ a w → wpAny P .any ops Q fuel listed a w := by
  have hanc : ancOk ops tbl = true := by simp only [drawOkT, Bool.and_eq_true] at hok; exact hok.1
  have hready : ∀ (listed : Array Bool), listed.size = ops.size → ∀ i, i ∈ Region.ready .any ops listed ↔ ∃ o, ops[i]? = some o ∧ listed.getD i false = false ∧ ∀ e ∈ o.after.toList, bindsE e = true → listed.getD e.on false = true := by
    intro listed hsz i
    simp only [Region.ready, List.mem_filter, List.mem_range, Bool.and_eq_true, Bool.not_eq_true']
    constructor
    · rintro ⟨h1, h2, h3⟩
      have ho : ops[i]? = some ops[i] := by simp [h1]
      rw [ho] at h3
      simp only [Option.map_some, Option.getD_some, Array.all_eq_true_iff_forall_mem, Bool.or_eq_true, Bool.not_eq_true'] at h3
      refine ⟨_, ho, ?_, fun e he hb => ?_⟩
      · simpa [Array.getD, hsz, h1] using h2
      · rcases h3 e (by simpa using he) with h | h
        · unfold bindsE at hb; rw [hb] at h; cases h
        · exact h
    · rintro ⟨o, ho, h2, h3⟩
      have h1 : i < ops.size := (Array.getElem?_eq_some_iff.1 ho).1
      refine ⟨h1, ?_, ?_⟩
      · simpa [Array.getD, hsz, h1] using h2
      · rw [ho]
        simp only [Option.map_some, Option.getD_some, Array.all_eq_true_iff_forall_mem, Bool.or_eq_true, Bool.not_eq_true']
        intro e he
        cases hb : bindsE e with
        | true => exact .inr (h3 e (by simpa using he) hb)
        | false => exact .inl hb
  have hall : ∀ (listed : Array Bool), listed.size = ops.size → Region.ready .any ops listed = [] → ∀ n i, i < n → i < ops.size → listed.getD i false = true := by
    intro listed hsz hr n
    induction n with
    | zero => intro i hi; omega
    | succ n ih =>
      intro i hi hi'
      cases hl : listed.getD i false with
      | true => rfl
      | false =>
        exfalso
        have ho : ops[i]? = some ops[i] := by simp [hi']
        have : i ∈ Region.ready .any ops listed := (hready listed hsz i).2 ⟨_, ho, hl, fun e he hb => by
          have := (ancOk_at hanc ho).1 e he hb
          exact ih e.on (by omega) (by omega)⟩
        rw [hr] at this
        cases this
  have hend : ∀ (listed : Array Bool) (a : Act) (w : World) (φ : List Nat), listed.size = ops.size → SR X φ ⟨⟨st.s.n, lU ops st r (fun i => listed.getD i false) ops.size, st.s.g⟩, hU P ops st S (fun i => listed.getD i false) ops.size⟩ a w → Region.ready .any ops listed = [] → Q .normal a w := by
    intro listed a w φ hsz hs hr
    have hL := fun i hi => hall listed hsz hr ops.size i hi hi
    refine hQ a w ⟨φ, S ops.size, hs.same (R.n _ (Nat.le_refl _)).symm (R.g _ (Nat.le_refl _)).symm (fun t => ?_) ?_, hK⟩
    · exact R.lU_text ops.size (Nat.le_refl _) fun j o hj _ _ => hL j hj
    · exact R.hU_text ops.size (Nat.le_refl _) fun j o hj _ _ => hL j hj
  intro fuel
  induction fuel with
  | zero =>
    intro listed a w φ hsz hc ht hs
    have hr : Region.ready .any ops listed = [] := by
      apply List.eq_nil_iff_forall_not_mem.2
      intro i hi
      obtain ⟨o, ho, hl, _⟩ := (hready listed hsz i).1 hi
      have h1 : i < ops.size := (Array.getElem?_eq_some_iff.1 ho).1
      have : i ∈ (List.range ops.size).filter fun i => !listed.getD i false := List.mem_filter.2 ⟨List.mem_range.2 h1, by simp [hl]⟩
      simp only [todo, Nat.le_zero, List.length_eq_zero_iff] at ht
      rw [ht] at this
      cases this
    exact ⟨hr, hend listed a w φ hsz hs hr⟩
  | succ fuel ih =>
    intro listed a w φ hsz hc ht hs
    refine ⟨hend listed a w φ hsz hs, fun i hi => ?_⟩
    obtain ⟨o, ho, hl, he⟩ := (hready listed hsz i).1 hi
    have h1 : i < ops.size := (Array.getElem?_eq_some_iff.1 ho).1
    obtain ⟨e1, hf1, hf2⟩ := R.step i o ho
    have hL' : ∀ j, (listed.setIfInBounds i true).getD j false = if j = i then true else listed.getD j false := by
      intro j
      simp only [Array.getD_eq_getD_getElem?, Array.getElem?_setIfInBounds]
      by_cases hj : i = j
      · subst hj; simp [hsz, h1]
      · have : ¬ j = i := fun h => hj h.symm
        simp [hj, this]
    -- what stands ahead of i is done, and what stands behind it is not
    have hbefore : ∀ j x, j < i → ops[j]? = some x → clashO P ops x o = true → listed.getD j false = true := fun j x hj hx hcl =>
      anc_done hanc hc (i + 1) i o (by omega) ho he j (drawOk_at hok hj hx ho hcl)
    have hafter : ∀ j y, i < j → ops[j]? = some y → clashO P ops o y = true → listed.getD j false = false := fun j y hj hy hcl => by
      cases hlj : listed.getD j false with
      | false => rfl
      | true =>
        have := anc_done hanc hc (j + 1) j y (by omega) hy (hc j y hy hlj) i (drawOk_at hok hj ho hy hcl)
        rw [hl] at this; cases this
    have hlook : ∀ t ∈ o.looksAt ops, look (lU ops st r (fun i => listed.getD i false) ops.size) t = look (S i).s.l t := fun t htm => by
      rw [lU_stay (i := i) ops.size (by omega) fun j x h2 h3 hx hlj hd => ?_]
      · exact R.lU_text i (by omega) fun j x hj hx hd => hbefore j x hj hx (clash_w hd (.inl htm))
      · by_cases hji : j = i
        · subst hji; rw [hl] at hlj; cases hlj
        · have := hafter j x (by omega) hx (clash_r hd htm)
          rw [this] at hlj; cases hlj
    have hheap : rwO P o.op = true → hU P ops st S (fun i => listed.getD i false) ops.size = (S i).h := fun hrw => by
      rw [hU_stay (i := i) ops.size (by omega) fun j x h2 h3 hx hlj => ?_]
      · exact R.hU_text i (by omega) fun j x hj hx hw => hbefore j x hj hx (clash_hw hw hrw)
      · cases hw : wrO P x.op with
        | false => rfl
        | true =>
          by_cases hji : j = i
          · subst hji; rw [hl] at hlj; cases hlj
          · have := hafter j x (by omega) hx (clash_hr hrw hw)
            rw [this] at hlj; cases hlj
    have key := hf2 ⟨⟨st.s.n, lU ops st r (fun i => listed.getD i false) ops.size, st.s.g⟩, hU P ops st S (fun i => listed.getD i false) ops.size⟩ (R.g i (by omega)).symm hlook hheap X φ a w Q i
      (fun s => s.s.n = st.s.n ∧ s.s.g = st.s.g ∧ (∀ t, look s.s.l t = look (lU ops st r (fun j => (listed.setIfInBounds i true).getD j false) ops.size) t) ∧ s.h = hU P ops st S (fun j => (listed.setIfInBounds i true).getD j false) ops.size) hP hs ho ⟨?_, ?_, fun t => ?_, ?_⟩
    · refine wpOp_mono (fun a w hn => ?_) key
      obtain ⟨φ', s', hs', g1, g0, g2, g3⟩ := hn
      refine ih _ a w φ' (by simpa using hsz) (fun j x hx hlj e hm hb => ?_) ?_ (hs'.same g1 g0 g2 g3)
      · simp only [hL'] at hlj ⊢
        split
        · rfl
        · by_cases hji : j = i
          · subst hji; rw [ho] at hx; cases hx; exact he e hm hb
          · rw [if_neg hji] at hlj; exact hc j x hx hlj e hm hb
      · have : todo ops.size (fun j => (listed.setIfInBounds i true).getD j false) < todo ops.size (fun j => listed.getD j false) := by
          simp only [todo]
          have e2 : ((List.range ops.size).filter fun j => !(listed.setIfInBounds i true).getD j false) = ((List.range ops.size).filter fun j => !listed.getD j false).filter fun j => j != i := by
            rw [List.filter_filter]
            apply List.filter_congr
            intro j _
            rw [hL']
            by_cases hji : j = i
            · simp [hji]
            · simp [hji]
          rw [e2]
          apply List.length_filter_lt_length_iff_exists.2
          exact ⟨i, List.mem_filter.2 ⟨List.mem_range.2 h1, by simp [hl]⟩, by simp⟩
        omega
    · exact putS_n _ _ _
    · exact putS_g _ _ _
    · have e3 : look (pt (⟨⟨st.s.n, lU ops st r (fun i => listed.getD i false) ops.size, st.s.g⟩, if wrO P o.op = true then (S (i + 1)).h else hU P ops st S (fun i => listed.getD i false) ops.size⟩ : St) o.dst (r i)).s.l t =
          if o.dst = some t ∧ t < st.s.n then r i else look (lU ops st r (fun i => listed.getD i false) ops.size) t := look_putS st.s.n o.dst (r i) _ _ t
      refine e3.trans ?_
      by_cases hd : o.dst = some t
      · have e4 : look (lU ops st r (fun j => (listed.setIfInBounds i true).getD j false) ops.size) t = look (lU ops st r (fun j => (listed.setIfInBounds i true).getD j false) (i + 1)) t := by
          refine lU_stay (i := i + 1) ops.size (by omega) fun j x h2 h3 hx hlj hdx => ?_
          have := hafter j x (by omega) hx (clash_w hd (.inr hdx))
          simp only [hL', if_neg (show ¬ j = i by omega)] at hlj
          rw [this] at hlj; cases hlj
        have e5 : ∀ m, m ≤ i → look (lU ops st r (fun j => (listed.setIfInBounds i true).getD j false) m) t = look (lU ops st r (fun i => listed.getD i false) m) t := fun m hm =>
          lU_same m fun j hj => .inl (by simp only [hL', if_neg (show ¬ j = i by omega)])
        have e6 : look (lU ops st r (fun i => listed.getD i false) ops.size) t = look (lU ops st r (fun i => listed.getD i false) i) t := by
          refine lU_stay (i := i) ops.size (by omega) fun j x h2 h3 hx hlj hdx => ?_
          by_cases hji : j = i
          · subst hji; rw [hl] at hlj; cases hlj
          · have := hafter j x (by omega) hx (clash_w hd (.inr hdx))
            rw [this] at hlj; cases hlj
        rw [e4]
        simp only [lU, hL', if_true, ho, Option.bind_some]
        rw [look_putL, e6]
        have := e5 i (Nat.le_refl _)
        simp only [hL'] at this
        rw [this]
      · rw [if_neg fun h => hd h.1]
        symm
        refine lU_same ops.size fun j hj => ?_
        by_cases hji : j = i
        · subst hji
          exact .inr fun x hx => by rw [ho] at hx; cases hx; exact hd
        · exact .inl (by simp only [hL', if_neg hji])
    · show (if wrO P o.op = true then (S (i + 1)).h else hU P ops st S (fun i => listed.getD i false) ops.size) = _
      cases hw : wrO P o.op with
      | true =>
        have hrw : rwO P o.op = true := by simp [rwO, hw]
        have e4 : hU P ops st S (fun j => (listed.setIfInBounds i true).getD j false) ops.size = hU P ops st S (fun j => (listed.setIfInBounds i true).getD j false) (i + 1) := by
          refine hU_stay (i := i + 1) ops.size (by omega) fun j x h2 h3 hx hlj => ?_
          cases hwx : wrO P x.op with
          | false => rfl
          | true =>
            have := hafter j x (by omega) hx (clash_hr hrw hwx)
            simp only [hL', if_neg (show ¬ j = i by omega)] at hlj
            rw [this] at hlj; cases hlj
        rw [e4]
        simp only [hU, hL', if_true, ho, Option.map_some, hw, and_self]
      | false =>
        simp only [Bool.false_eq_true, if_false]
        symm
        refine hU_same ops.size fun j hj => ?_
        by_cases hji : j = i
        · subst hji
          exact .inr fun x hx => by rw [ho] at hx; cases hx; exact hw
        · exact .inl (by simp only [hL', if_neg hji])
theorem anyK_sound {X : Fix} {ops : Array Oper} {K : St → Prop} {Q : Exit → Act → World → Prop} (hQ : ∀ a w, Nx X K a w → Q .normal a w) : ∀ (f : Nat) (listed : Array Bool) {φ : List Nat} {st : St} {a : Act} {w : World}, SR X φ st a w → anyK X.P ops K f listed st → wpAny X.P .any ops Q f listed a w
  | 0, listed, φ, st, a, w, hs, h => ⟨h.1, hQ _ _ ⟨φ, st, hs, h.2⟩⟩
  | f + 1, listed, φ, st, a, w, hs, h => by
    refine ⟨fun hr => hQ _ _ ⟨φ, st, hs, h.1 hr⟩, fun i hi => ?_⟩
    have hi2 : i ∈ List.range ops.size := by
      simp only [Region.ready, List.mem_filter] at hi
      exact hi.1
    obtain ⟨o, ho, hg, hk⟩ := h.2 i hi2 (by simpa using hi)
    unfold wpOp
    rw [ho]
    have hw : Region.wanted o (yielded ops a.tmps) = true := by simp [Region.wanted, hg]
    simp only [hw, if_true]
    refine .inl (Oper.wp_mono (fun a2 w2 ⟨φ2, s2, hs2, hk2⟩ => anyK_sound hQ f _ hs2 hk2) (kop_sound hs hk))
theorem draw_sound {X : Fix} {φ : List Nat} {st : St} {a : Act} {w : World} {ops : Array Oper} {Q : Post} {id : Nat} (hs : SR X φ st a w) (h : DrawK X.P ops Q st) : (Code.region id ops true).wp X.P (Qx X Q) a w := by
  obtain ⟨h1, ⟨h2, h3⟩ | h3 | h3⟩ := h
  case inr.inr => exact wp_region_any h1 (anyK_sound (K := ExtC (normK Q)) (fun a w ⟨φ', s', hs', s2, he, h'⟩ => ⟨φ', s2, hs'.same he.1.symm he.2.1.symm (fun t => (he.2.2.2 t).symm) he.2.2.1.symm, h'⟩) _ _ (hs.world ⟨rfl, rfl, rfl, Nat.le_refl _, fun _ _ => rfl⟩) h3)
  case inr.inl => exact wp_region_any h1 (anyK_sound (K := normK Q) (fun a w ⟨φ', s', hs', h'⟩ => ⟨φ', s', hs', h'⟩) _ _ (hs.world ⟨rfl, rfl, rfl, Nat.le_refl _, fun _ _ => rfl⟩) h3)
  obtain ⟨S, r, e0, e1, e2⟩ := runs ops.toList h3
  have R : Run X.P ops st S r := ⟨e0, fun i o ho => e2 i o (by simpa using ho)⟩
  have hf : ∀ i, (Array.replicate ops.size false).getD i false = false := fun i => by
    simp only [Array.getD_eq_getD_getElem?, Array.getElem?_replicate]
    split <;> rfl
  refine wp_region_any h1 (draw_any rfl R (tbl := ancT ops) h2 (K := normK Q) (fun a w ⟨φ', s', hs', h'⟩ => ⟨φ', s', hs', h'⟩) (by simpa using e1) ops.size (Array.replicate ops.size false) a { w with drawn := w.drawn + 1 } φ (by simp) (fun i o _ hl => by simp only [hf] at hl; cases hl) ?_ ?_)
  · exact Nat.le_trans (List.length_filter_le _ _) (by simp)
  · have hs2 : SR X φ st a { w with drawn := w.drawn + 1 } := hs.world ⟨rfl, rfl, rfl, Nat.le_refl _, fun _ _ => rfl⟩
    refine hs2.same rfl rfl (fun t => ?_) ?_
    · have : look (lU ops st r (fun i => (Array.replicate ops.size false).getD i false) ops.size) t = look st.s.l t := lU_stay (i := 0) ops.size (Nat.zero_le _) fun j o _ _ _ hl => by simp only [hf] at hl; cases hl
      exact this.symm
    · have : hU X.P ops st S (fun i => (Array.replicate ops.size false).getD i false) ops.size = st.h := hU_stay (i := 0) ops.size (Nat.zero_le _) fun j o _ _ _ hl => by simp only [hf] at hl; cases hl
      exact this.symm
section
variable {X : Fix} {φ : List Nat} {st : St} {a : Act} {w : World}
theorem kwp_sound (h0 : X.c0 = none) : ∀ (c : Code) (Q : Post) {φ : List Nat} {st : St} {a : Act} {w : World}, SR X φ st a w → kwp X.P c Q st → c.wp X.P (Qx X Q) a w
  | .skip, Q, φ, st, a, w, hs, h => wp_skip ⟨φ, st, hs, h⟩
  | .region id ops draw, Q, φ, st, a, w, hs, h => by
    simp only [kwp] at h
    split at h
    · rename_i hd
      subst hd
      exact draw_sound hs h
    · rename_i hd
      have hd' : draw = false := by simpa using hd
      subst hd'
      refine wp_region (kops_sound ops _ ops.toList _ ?_ hs h (fun a w ⟨φ', st', hs', h'⟩ => ⟨φ', st', hs', h'⟩))
      apply List.ext_getElem?
      intro i
      simp only [List.getElem?_map]
      by_cases hi : i < ops.size
      · simp [hi]
      · rw [List.getElem?_eq_none (by simpa using hi), List.getElem?_eq_none (by simpa using hi)]; rfl
  | .seq x y, Q, φ, st, a, w, hs, h => by
    simp only [kwp] at h
    refine wp_seq (wp_mono (kwp_sound h0 x _ hs h) fun e a w hq => Qx_then (fun a w ⟨φ', st', hs', h'⟩ => kwp_sound h0 y Q hs' h') e a w hq)
  | .cond c x y, Q, φ, st, a, w, hs, h => by
    simp only [kwp] at h
    unfold CondK at h
    split at h
    · rename_i z hg
      have hc := hs.get c
      rw [hg] at hc
      simp only [rel] at hc
      exact wp_cond_split hc (fun e => kwp_sound h0 x Q hs (h.1 e)) (fun e => kwp_sound h0 y Q hs (h.2 e))
    · exact h.elim
  | .block id c, Q, φ, st, a, w, hs, h => by
    simp only [kwp] at h
    refine wp_block (wp_mono (kwp_sound h0 c _ hs h) fun e a w hq => ?_)
    obtain ⟨φ', st', hs', hq⟩ := hq
    cases e with
    | exit j =>
      simp only [inBlockA] at hq
      simp only [Exit.inBlock]
      split <;> rename_i hj
      · rw [if_pos hj] at hq; exact ⟨φ', st', hs', hq⟩
      · rw [if_neg hj] at hq; exact ⟨φ', st', hs', hq⟩
    | _ => exact ⟨φ', st', hs', hq⟩
  | .loop c, Q, φ, st, a, w, hs, h => by
    simp only [kwp] at h
    obtain ⟨R, n, s0, hw, hI, hr⟩ := h
    obtain ⟨φ0, hs0⟩ := hs.weak h0 hw
    refine wp_loopR (fun m a w => ∃ φ' st', SR X φ' st' a w ∧ R m st') (n := n) ⟨φ0, s0, hs0, hI⟩ fun m a w ⟨φ1, s1, hs1, hI1⟩ => ?_
    refine wp_mono (kwp_sound h0 c _ hs1 (hr m s1 hI1)) fun e a w hq => Qx_then (fun a w ⟨φ2, s2, hs2, m', s3, hw3, hlt, hI3⟩ => ?_) e a w hq
    obtain ⟨φ3, hs3⟩ := hs2.weak h0 hw3
    exact ⟨m', hlt, φ3, s3, hs3, hI3⟩
  | .exit id, Q, φ, st, a, w, hs, h => wp_exit ⟨φ, st, hs, h⟩
  | .ret, Q, φ, st, a, w, hs, h => wp_ret ⟨φ, st, hs, h⟩
  | .label l, Q, φ, st, a, w, hs, h => wp_label ⟨φ, st, hs, h⟩
  | .goto l, Q, φ, st, a, w, hs, h => wp_goto ⟨φ, st, hs, h⟩
  | .rangeFunc .., Q, φ, st, a, w, hs, h => h X φ a w rfl h0 hs
  | .scope .., Q, φ, st, a, w, hs, h => h X φ a w rfl h0 hs
  | .refuse .., Q, φ, st, a, w, hs, h => by simp only [kwp] at h
end
/-- A function's contract out of what its code does to the abstract state. -/
theorem Ev.of {P : Program} {γ : List (Nat × AV)} {f : FuncId} {fn : Func} {c : Code} {args : List AV} {res : AV} (hf : P.funcs[f]? = some fn) (hb : fn.body = some c)
    (h : kwp P c (endS P fn.results.toList res) (startA γ args fn.ntmps)) : Ev P γ f args res :=
  Ev.of_wp hf hb fun X hP h0 _ _ hs => by subst hP; exact wp_mono (kwp_sound h0 c _ hs h) fun e a w ⟨φ, s, hs, hq⟩ => ⟨φ, s, hs, endS_endA hq⟩
end Go.Ev
/- Rows of bytes, known by their list. -/
namespace Go.Ev
set_option linter.all false
open Go Go.RowKit
theorem take1_drop (l : List AV) (n : Nat) : take1 (l.drop n) = l[n]? := by simp [take1]
theorem take1_cons (x : AV) (l : List AV) : take1 (x :: l) = some x := rfl
theorem byteMap_at {l : List UInt8} {n : Nat} (h : n < l.length) : (l.map byteC)[n]? = some (.v (.int .u8 (l[n]'h).toNat)) := by
  simp [h, byteC]
theorem take1_byte {l : List UInt8} {n : Nat} (h : n < l.length) : take1 ((l.map byteC).drop n) = some (.v (.int .u8 (l[n]'h).toNat)) := by
  rw [take1_drop, byteMap_at h]
theorem bytesOfA_map (l : List UInt8) : bytesOfA (l.map byteC) = some l := by
  induction l with
  | nil => rfl
  | cons b l ih => simp [bytesOfA, byteC, ih]
theorem strOf_map (l : List UInt8) : strOf (l.map byteC) = some (.v (.string ⟨l.toArray⟩)) := by simp [strOf, bytesOfA_map]
theorem all_one_map (l : List UInt8) : (l.map byteC).all oneA = true := by
  induction l with
  | nil => rfl
  | cons b l ih => simp only [List.map_cons, List.all_cons, ih, Bool.and_true]; rfl
theorem take_len_map {α β : Type} (f : α → β) (l : List α) : List.take l.length (l.map f) = l.map f := by
  rw [← List.map_take, List.take_length]
theorem i64w {n : Int} (h1 : -9223372036854775808 ≤ n) (h2 : n < 9223372036854775808) : IntKind.i64.wrap n = n := by
  simp only [IntKind.wrap, IntKind.bits, IntKind.signed]
  simp
  split <;> omega
theorem u64w {n : Int} (h1 : 0 ≤ n) (h2 : n < 18446744073709551616) : IntKind.u64.wrap n = n := by
  simp [IntKind.wrap, IntKind.bits, IntKind.signed]; omega
theorem u8w {n : Int} (h1 : 0 ≤ n) (h2 : n < 256) : IntKind.u8.wrap n = n := by
  simp [IntKind.wrap, IntKind.bits, IntKind.signed]; omega
theorem endS_ret (P : Program) (rs : List ResultVar) (res : AV) (s : St) : endS P rs res .ret s = resS P rs s fun xs => fz P s.h false res (oneOrTup xs) := rfl
theorem endS_normal (P : Program) (rs : List ResultVar) (res : AV) (s : St) : endS P rs res .normal s = resS P rs s fun xs => fz P s.h false res (oneOrTup xs) := rfl
theorem resS_nil (P : Program) (s : St) (K : List AV → Prop) : resS P [] s K = K [] := rfl
theorem resS_tmp (P : Program) (t : Nat) (rs : List ResultVar) (s : St) (K : List AV → Prop) : resS P (.tmp t :: rs) s K = resS P rs s fun xs => K (look s.s.l t :: xs) := rfl
theorem resS_cell (P : Program) (p t : Nat) (rs : List ResultVar) (s : St) (K : List AV → Prop) : resS P (.cell p t :: rs) s K = ValK (loadS P t s.h (look s.s.l p)) fun x => resS P rs s fun xs => K (x :: xs) := rfl
theorem ValK_some (x : AV) (K : AV → Prop) : ValK (some x) K = K x := rfl
theorem one_1 (x : AV) : oneOrTup [x] = x := rfl
theorem one_2 (x y : AV) (l : List AV) : oneOrTup (x :: y :: l) = .tup (x :: y :: l) := rfl
theorem one_0 : oneOrTup [] = .tup [] := rfl
theorem fz_v (P : Program) (H : List ABlk) (b : Bool) (a : Value) (x : AV) : fz P H b (.v a) x = (x = .v a) := by simp only [fz]
theorem fz_nan (P : Program) (H : List ABlk) (b : Bool) (x : AV) : fz P H b .nan x = (x = .nan) := by simp only [fz]
theorem fz_bad (P : Program) (H : List ABlk) (b : Bool) (x : AV) : fz P H b .bad x = True := by simp only [fz]
theorem fz_tup (P : Program) (H : List ABlk) (b : Bool) (ys xs : List AV) : fz P H b (.tup ys) (.tup xs) = fzL P H b ys xs := by simp only [fz, AV.tup.injEq, exists_eq_left']
theorem fz_agg (P : Program) (H : List ABlk) (b : Bool) (ys xs : List AV) : fz P H b (.agg ys) (.agg xs) = fzL P H b ys xs := by simp only [fz, AV.agg.injEq, exists_eq_left']
theorem fz_ifc (P : Program) (H : List ABlk) (b : Bool) (t : TypeId) (y x : AV) : fz P H b (.ifc t y) (.ifc t x) = fz P H b y x := by simp only [fz, AV.ifc.injEq, true_and, exists_eq_left']
theorem fzL_nil (P : Program) (H : List ABlk) (b : Bool) : fzL P H b [] [] = True := by simp only [fzL]
theorem fzL_cons (P : Program) (H : List ABlk) (b : Bool) (y x : AV) (ys xs : List AV) : fzL P H b (y :: ys) (x :: xs) = (fz P H b y x ∧ fzL P H b ys xs) := by
  simp only [fzL, List.cons.injEq]
  exact propext ⟨fun ⟨_, _, ⟨h1, h2⟩, h⟩ => by subst h1; subst h2; exact h, fun h => ⟨x, xs, ⟨rfl, rfl⟩, h⟩⟩
/-- A row of the call's own, handed back: what is told of it behind its end needs cells of one. -/
theorem fz_own {P : Program} {H : List ABlk} {i ver e n m : Nat} {ys xs cells : List AV} (h : H[i]? = some ⟨ver, e, cells⟩) (hn : n ≤ m) (hc : P.cellsOf e = 1) (hm : m = n ∨ m ≤ cells.length) (hx : xs <+: cells) (hy : fzL P H false ys xs) : fz P H false (.sl false n m ys) (.own i ver n) := by
  simp only [fz]
  exact .inr ⟨trivial, i, _, xs, rfl, h, hn, by simpa [hc] using hm, hx, hy⟩
theorem StepK_byte (s : St) (d : Option Tmp) (K : St → Prop) (l : List UInt8) (j : Nat) : StepK (retV s d (l.map byteC)[j]?) K = (j < l.length ∧ K (pt s d (.v (.int .u8 ((l.getD j 0).toNat : Nat))))) := by
  by_cases h : j < l.length
  · rw [byteMap_at h]; simp [StepK, retV, h]
  · have : (l.map byteC)[j]? = none := by simpa using h
    rw [this]; simp [StepK, retV, h]
theorem sAt_list (l : List UInt8) (j : Nat) : sAt ⟨l.toArray⟩ j = ((l.getD j 0).toNat : Nat) := by simp [sAt]
theorem list_back (l : List UInt8) : (⟨l.toArray⟩ : ByteArray).data.toList = l := by simp
theorem okRefL_map (n : Nat) (l : List UInt8) : okRefL n (l.map byteC) = true := by
  induction l with
  | nil => rfl
  | cons b l ih => simp only [List.map_cons, okRefL, ih, Bool.and_true]; rfl
theorem okRefL_append (n : Nat) (a b : List AV) : okRefL n (a ++ b) = (okRefL n a && okRefL n b) := by
  induction a with
  | nil => simp [okRefL]
  | cons x a ih => simp only [List.cons_append, okRefL, ih, Bool.and_assoc]
theorem b256 {p : Nat → Prop} [DecidablePred p] (h : ∀ n : Fin 256, p n.val) (c : UInt8) : p c.toNat := h ⟨c.toNat, c.toNat_lt⟩
set_option linter.defProp false in
def eS := And.intro @sAt_list (And.intro @list_back (And.intro @StepK_byte (And.intro @endS_ret (And.intro @endS_normal (And.intro @resS_nil (And.intro @resS_tmp (And.intro @resS_cell (And.intro @ValK_some (And.intro @one_0 (And.intro @one_1 (And.intro @one_2 (And.intro @fz_v (And.intro @fz_nan (And.intro @fz_bad (And.intro @fz_tup (And.intro @fz_agg (And.intro @fz_ifc (And.intro @fzL_nil @fzL_cons))))))))))))))))))
end Go.Ev
/- One bundle of all that simp runs. -/
namespace Go.Ev
set_option linter.all false
open Go Go.RowKit
theorem strOf_takeMap (l : List UInt8) (n : Nat) : strOf (List.take n (l.map byteC)) = some (.v (.string ⟨(l.take n).toArray⟩)) := by rw [← List.map_take, strOf_map]
theorem beq_refl_int (a : Int) : (a == a) = true := by simp
theorem beq_refl_bytes (a : List UInt8) : (a == a) = true := by simp
/-- The cells of a type's zero. -/
def zcT (P : Program) (t : TypeId) : Option (List AV) := (zeroT P t).map zeroCells
section
variable {P : Program} {s : St} {K : St → Prop} {t : TypeId} {d : Option Tmp} {pos : String} {af : Array Edge} {g : Option (Nat × Bool)}
theorem s_alloc2 (u : TypeId) : kop P ⟨d, .alloc u, t, pos, af, g⟩ K s = StepK ((zcT P u).bind fun z => retH s d (some (True, .ptr s.h.length 0 0, s.h ++ [⟨0, u, z⟩]))) K := by
  rw [s_alloc]; unfold zcT; cases zeroT P u <;> rfl
/-- A literal of a struct or an array. -/
def bldS (P : Program) (t : TypeId) (ps : List (Nat × AV)) : Option AV :=
  (zcT P t).bind fun z => match placesT P t with
    | some pl => (fillS (pl[·]?) ps z).map .agg
    | none => (arrT P t).bind fun x => (sizeT P x.2).bind fun sz => (fillS (fun i => some (i * sz, sz)) ps z).map .agg
theorem s_build2 (u : TypeId) (ps : Array (Nat × Operand)) : kop P ⟨d, .build u ps, t, pos, af, g⟩ K s = StepK (retV s d (bldS P u (ps.toList.map fun x => (x.1, get s.s x.2)))) K := by
  rw [s_build]; unfold buildS bldS zcT
  cases zeroT P u <;> rfl
end
set_option linter.defProp false in
def vS := And.intro @Go.Ev.ofV.eq_1 (And.intro @Go.Ev.ofV.eq_2 (And.intro @Go.Ev.lenS.eq_1 (And.intro @Go.Ev.lenS.eq_2 (And.intro @Go.Ev.lenS.eq_3 (And.intro @Go.Ev.lenS.eq_4 (And.intro @Go.Ev.lenS.eq_5 (And.intro @Go.Ev.binS.eq_1 (And.intro @Go.Ev.binS.eq_2 (And.intro @Go.Ev.binS.eq_3 (And.intro @Go.Ev.binS.eq_4 (And.intro @Go.Ev.binS.eq_5 (And.intro @Go.Ev.binS.eq_6 (And.intro @Go.Ev.binS.eq_7 (And.intro @Go.Ev.binS.eq_8 (And.intro @Go.Ev.binS.eq_9 (And.intro @Go.Ev.binS.eq_10 (And.intro @Go.Ev.binS.eq_11 (And.intro @Go.Ev.binS.eq_12 (And.intro @Go.Ev.intS.eq_1 (And.intro @Go.Ev.intS.eq_2 (And.intro @Go.Ev.intS.eq_3 (And.intro @Go.Ev.intS.eq_4 (And.intro @Go.Ev.intS.eq_5 (And.intro @Go.Ev.intS.eq_6 (And.intro @Go.Ev.intS.eq_7 (And.intro @Go.Ev.intS.eq_8 (And.intro @Go.Ev.intS.eq_9 (And.intro @Go.Ev.intS.eq_10 (And.intro @Go.Ev.intS.eq_11 (And.intro @Go.Ev.intS.eq_12 (And.intro @Go.Ev.intS.eq_13 (And.intro @Go.Ev.intS.eq_14 (And.intro @Go.Ev.intS.eq_15 (And.intro @Go.Ev.intS.eq_16 (And.intro @Go.Ev.intS.eq_17 (And.intro @Go.Ev.okS.eq_1 (And.intro @Go.Ev.nilS.eq_1 (And.intro @Go.Ev.nilS.eq_2 (And.intro @Go.Ev.nilS.eq_3 (And.intro @Go.Ev.boolS.eq_1 (And.intro @Go.Ev.boolS.eq_2 (And.intro @Go.Ev.boolS.eq_3 (And.intro @Go.Ev.strS.eq_1 (And.intro @Go.Ev.strS.eq_2 (And.intro @Go.Ev.strS.eq_3 (And.intro @Go.Ev.strS.eq_4 (And.intro @Go.Ev.strS.eq_5 (And.intro @Go.Ev.strS.eq_6 (And.intro @Go.Ev.strS.eq_7 (And.intro @Go.Ev.strS.eq_8 (And.intro @Go.Ev.fltS.eq_1 (And.intro @Go.Ev.fltS.eq_2 (And.intro @Go.Ev.fltS.eq_3 (And.intro @Go.Ev.fltS.eq_4 (And.intro @Go.Ev.fltS.eq_5 (And.intro @Go.Ev.fltS.eq_6 (And.intro @Go.Ev.fltS.eq_7 (And.intro @Go.Ev.fltS.eq_8 (And.intro @Go.Ev.fltS.eq_9 (And.intro @Go.Ev.fltS.eq_10 (And.intro @Go.Ev.fltS.eq_11 (And.intro @Go.Ev.nanS.eq_1 (And.intro @Go.Ev.nanS.eq_2 (And.intro @Go.Ev.nanS.eq_3 (And.intro @Go.Ev.nanS.eq_4 (And.intro @Go.Ev.nanS.eq_5 (And.intro @Go.Ev.nanS.eq_6 (And.intro @Go.Ev.nanS.eq_7 (And.intro @Go.Ev.nanS.eq_8 (And.intro @Go.Ev.nanS.eq_9 (And.intro @Go.Ev.nanS.eq_10 (And.intro @Go.Ev.nanS.eq_11 (And.intro @Go.Ev.isConst.eq_1 (And.intro @Go.Ev.isConst.eq_2 (And.intro @Go.Ev.unS.eq_1 (And.intro @Go.Ev.unS.eq_2 (And.intro @Go.Ev.unS.eq_3 (And.intro @Go.Ev.unS.eq_4 (And.intro @Go.Ev.indexAddrS.eq_1 (And.intro @Go.Ev.indexAddrS.eq_2 (And.intro @Go.Ev.indexAddrS.eq_3 (And.intro @Go.Ev.indexAddrS.eq_4 (And.intro @Go.Ev.indexS.eq_1 (And.intro @Go.Ev.indexS.eq_2 (And.intro @Go.Ev.indexS.eq_3 (And.intro @Go.Ev.loadS.eq_1 (And.intro @Go.Ev.loadS.eq_2 (And.intro @Go.Ev.loadS.eq_3 (And.intro @Go.Ev.storeS.eq_1 (And.intro @Go.Ev.storeS.eq_2 (And.intro @Go.Ev.takeS.eq_1 (And.intro @Go.Ev.blkS.eq_1 (And.intro @Go.Ev.srcS.eq_1 (And.intro @Go.Ev.srcS.eq_2 (And.intro @Go.Ev.srcS.eq_3 (And.intro @Go.Ev.srcS.eq_4 (And.intro @Go.Ev.srcS.eq_5 (And.intro @Go.Ev.ontoS.eq_1 (And.intro @Go.Ev.ontoS.eq_2 (And.intro @Go.Ev.ontoS.eq_3 (And.intro @Go.Ev.sliceS.eq_1 (And.intro @Go.Ev.sliceS.eq_2 (And.intro @Go.Ev.sliceS.eq_3 (And.intro @Go.Ev.sliceS.eq_4 (And.intro @Go.Ev.sliceS.eq_5 (And.intro @Go.Ev.boundS.eq_1 (And.intro @Go.Ev.boundS.eq_2 (And.intro @Go.Ev.boundS.eq_3 (And.intro @Go.Ev.convertS.eq_1 (And.intro @Go.Ev.convertS.eq_2 (And.intro @Go.Ev.convertS.eq_3 (And.intro @Go.Ev.convertS.eq_4 (And.intro @Go.Ev.convertS.eq_5 (And.intro @Go.Ev.convertS.eq_6 (And.intro @Go.Ev.convertS.eq_7 (And.intro @Go.Ev.extractS.eq_1 (And.intro @Go.Ev.extractS.eq_2 (And.intro @Go.Ev.fillS.eq_1 (And.intro @Go.Ev.fillS.eq_2 (And.intro @Go.Ev.flat.eq_1 (And.intro @Go.Ev.flat.eq_2 (And.intro @Go.Ev.oneA.eq_1 (And.intro @Go.Ev.oneA.eq_2 (And.intro @Go.Ev.oneA.eq_3 (And.intro @Go.Ev.oneA.eq_4 (And.intro @Go.Ev.oneA.eq_5 (And.intro @Go.Ev.setMany.eq_1 (And.intro @Go.Ev.setMany.eq_2 (And.intro @Go.Ev.fieldS.eq_1 (And.intro @Go.Ev.fieldS.eq_2 (And.intro @Go.Ev.fieldAddrS.eq_1 (And.intro @Go.Ev.fieldAddrS.eq_2 (And.intro @Go.Ev.fieldAddrS.eq_3 (And.intro @Go.Ev.makeSliceS.eq_1 (And.intro @Go.Ev.makeSliceS.eq_2 (And.intro @Go.Ev.nilChk.eq_1 (And.intro @Go.Ev.nilChk.eq_2 (And.intro @Go.Ev.nilChk.eq_3 (And.intro @Go.Ev.guardA.eq_1 (And.intro @Go.Ev.bldS.eq_1 (And.intro @Go.Value.oneCell'.eq_1 (And.intro @Go.Value.oneCell'.eq_2 (And.intro @Go.Value.oneCell'.eq_3 (And.intro @Go.Ev.startA.eq_1 (And.intro @Go.Ev.idxL.eq_1 (And.intro @Go.Ev.idxL.eq_2 (And.intro @Go.Ev.allIn.eq_1 (And.intro @Go.Ev.allIn.eq_2 (@Go.Ev.St.weak.eq_1)))))))))))))))))))))))))))))))))))))))))))))))))))))))))))))))))))))))))))))))))))))))))))))))))))))))))))))))))))))))))))))))))))))))))))))))))))))
set_option linter.defProp false in
def gS := And.intro @decide_true (And.intro @decide_false (And.intro @Bool.and_true (And.intro @Bool.true_and (And.intro @Bool.and_self (And.intro @eq_self.{1} (And.intro @Option.some.injEq.{0} (And.intro @ne_eq.{1} (And.intro @not_false_eq_true (And.intro @not_true_eq_false ((And.intro @strOf_takeMap (And.intro @if_true.{1} (And.intro @if_false.{1} (And.intro @Bool.or_true (And.intro @Bool.true_or (And.intro @Bool.or_false (And.intro @Bool.false_or (And.intro @Option.map_some.{0, 0} (And.intro @Option.map_none.{0, 0} (And.intro @Option.bind_some.{0, 0} (And.intro @Option.bind_none.{0, 0} (And.intro @Option.isSome_some.{0} (And.intro @Option.isSome_none.{0} (And.intro @true_or (And.intro @or_true (And.intro @false_or (And.intro @or_false (And.intro @true_and (And.intro @and_true (And.intro @and_self (And.intro @List.length_cons.{0} (And.intro @List.length_nil.{0} (And.intro @List.length_append.{0} (And.intro @List.length_set.{0} (And.intro @List.map_cons.{0, 0} (And.intro @List.map_nil.{0, 0} (And.intro @List.length_map.{0, 0} (And.intro @List.nil_append.{0} (And.intro @List.cons_append.{0} (And.intro @List.set_cons_zero.{0} (And.intro @List.set_cons_succ.{0} (And.intro @List.getElem?_cons_zero.{0} (And.intro @List.getElem?_cons_succ.{0} (And.intro @List.getElem?_nil.{0} (And.intro @List.drop_zero.{0} (And.intro @List.drop_succ_cons.{0} (And.intro @List.drop_nil.{0} (And.intro @take1_cons (And.intro @take1_drop (And.intro @List.take_succ_cons.{0} (And.intro @List.take_nil.{0} (And.intro @List.all_cons.{0} (And.intro @List.all_nil.{0} (And.intro @Nat.mul_one (And.intro @Nat.one_mul (And.intro @Nat.zero_add (And.intro @Nat.add_zero (And.intro @Nat.mul_zero (And.intro @Nat.zero_mul (And.intro @List.flatten_cons.{0} (And.intro @List.flatten_nil.{0} (And.intro @List.append_nil.{0} (And.intro @List.take_zero.{0} (And.intro @take_len_map (And.intro @List.getElem?_toArray.{0} (And.intro @Int.toNat_natCast (And.intro @Int.toNat_zero (And.intro @Nat.sub_zero (And.intro @Int.natCast_nonneg (And.intro @Nat.zero_le (And.intro @Int.ofNat_lt (And.intro @List.drop_drop.{0} (And.intro @strOf_map (And.intro @okRefL_map (And.intro @okRefL_append (And.intro @beq_refl_int (@beq_refl_bytes)))))))))))))))))))))))))))))))))))))))))))))))))))))))))))))))))))))))))))))
set_option linter.defProp false in
def cS := And.intro @s_max <| And.intro @maxS_mk <| And.intro @s_real (And.intro @s_imag (And.intro @s_comp (And.intro @partS_re (And.intro @partS_im (And.intro @compS_mk (And.intro @cplS_eql @cplS_neq))))))
set_option linter.defProp false in
def evS := And.intro cS <| And.intro @s_alloc2 (And.intro @s_build2 (And.intro kS (And.intro eS (And.intro vS gS))))
end Go.Ev
/- A scope with labels: what holds at each label, and a measure that every jump lowers. -/
namespace Go.Ev
set_option linter.all false
open Go Go.RowKit
/-- As Q; by a goto to a label l: J l. -/
def jumpsE (J : Nat → Act → World → Prop) (Q : Exit → Act → World → Prop) : Exit → Act → World → Prop
  | .goto l, a, w => J l a w
  | e, a, w => Q e a w
theorem wp_scope_labels {P : Program} {a : Act} {w : World} {Q : Exit → Act → World → Prop} {c : Code} (J : Nat → Nat → Act → World → Prop)
    (first : c.wp P (jumpsE (fun l a w => ∃ m, J m l a w) Q) a w)
    (pass : ∀ m l a w, J m l a w → ∃ rest, findLabel c l = some rest ∧ rest.wp P (jumpsE (fun l' a' w' => ∃ m', m' < m ∧ J m' l' a' w') Q) a w) : (Code.scope c).wp P Q a w := by
  intro b k cs
  have key : ∀ n l a w, J n l a w → ∃ rest, gotoIn l (.inScope c :: k) = some (.code rest :: .inScope c :: k) ∧ ∃ e a' w', Q e a' w' ∧ Arrives P (lone (b.at a (.code rest :: .inScope c :: k)) cs w) b k cs e a' w' := by
    intro n
    induction n using Nat.strongRecOn with
    | _ n ih =>
      intro l a w hJ
      obtain ⟨rest, hf, hp⟩ := pass n l a w hJ
      refine ⟨rest, by simp [gotoIn, hf], ?_⟩
      obtain ⟨e, a₁, w₁, hq, harr⟩ := hp b (.inScope c :: k) cs
      cases e with
      | normal => exact ⟨.normal, a₁, w₁, hq, Steps.trans harr (.one step_inScope)⟩
      | exit id => exact ⟨.exit id, a₁, w₁, hq, fun k' hk => harr k' (by simp [exitTo, hk])⟩
      | goto l' =>
        obtain ⟨m', hlt, hJ'⟩ := hq
        obtain ⟨rest', hg, e₂, a₂, w₂, hq₂, harr₂⟩ := ih m' hlt l' a₁ w₁ hJ'
        exact ⟨e₂, a₂, w₂, hq₂, .of_steps (harr _ hg) harr₂⟩
      | ret => exact ⟨_, a₁, w₁, hq, harr⟩
      | panic ch => exact ⟨_, a₁, w₁, hq, harr⟩
      | outgrown => exact ⟨_, a₁, w₁, hq, harr⟩
  obtain ⟨e, a₁, w₁, hq, harr⟩ := first b (.inScope c :: k) cs
  cases e with
  | normal => exact ⟨.normal, a₁, w₁, hq, .head step_scope (Steps.trans harr (.one step_inScope))⟩
  | exit id => exact ⟨.exit id, a₁, w₁, hq, fun k' hk => .head step_scope (harr k' (by simp [exitTo, hk]))⟩
  | goto l' =>
    obtain ⟨m, hJ'⟩ := hq
    obtain ⟨rest', hg, e₂, a₂, w₂, hq₂, harr₂⟩ := key m l' a₁ w₁ hJ'
    exact ⟨e₂, a₂, w₂, hq₂, .of_steps (.head step_scope (harr _ hg)) harr₂⟩
  | ret => exact ⟨_, a₁, w₁, hq, .of_steps (.one step_scope) harr⟩
  | panic ch => exact ⟨_, a₁, w₁, hq, .of_steps (.one step_scope) harr⟩
  | outgrown => exact ⟨_, a₁, w₁, hq, .of_steps (.one step_scope) harr⟩
def gotoA (J : Nat → St → Prop) (Q : Post) : Post
  | .goto l, s => J l s
  | e, s => Q e s
theorem gotoA_goto (J : Nat → St → Prop) (Q : Post) (l : Nat) (s : St) : gotoA J Q (.goto l) s = J l s := rfl
theorem gotoA_normal (J : Nat → St → Prop) (Q : Post) (s : St) : gotoA J Q .normal s = Q .normal s := rfl
theorem gotoA_ret (J : Nat → St → Prop) (Q : Post) (s : St) : gotoA J Q .ret s = Q .ret s := rfl
theorem gotoA_exit (J : Nat → St → Prop) (Q : Post) (i : Nat) (s : St) : gotoA J Q (.exit i) s = Q (.exit i) s := rfl
/-- At a label: a state of those that its head knows, of a smaller measure (if m is given). -/
def labelC {α : Type} (mk : α → St) (inv : α → Prop) (lbl μ : α → Nat) (m : Option Nat) (l : Nat) (s : St) : Prop :=
  ∃ a, inv a ∧ lbl a = l ∧ s.weak (mk a) ∧ ∀ k, m = some k → μ a < k
theorem labelC.intro {α : Type} {mk : α → St} {inv : α → Prop} {lbl μ : α → Nat} {m : Option Nat} {l : Nat} {s : St} (a : α) (h1 : inv a) (h2 : lbl a = l) (h3 : s.weak (mk a)) (h4 : ∀ k, m = some k → μ a < k) : labelC mk inv lbl μ m l s := ⟨a, h1, h2, h3, h4⟩
theorem Qx_jumps {X : Fix} {Q : Post} {J : Nat → St → Prop} {J' : Nat → Act → World → Prop} (h : ∀ l a w φ s, SR X φ s a w → J l s → J' l a w) : ∀ e a w, Qx X (gotoA J Q) e a w → jumpsE J' (Qx X Q) e a w
  | .goto l, a, w, ⟨φ, s, hs, hj⟩ => h l a w φ s hs hj
  | .normal, _, _, h => h
  | .ret, _, _, h => h
  | .exit _, _, _, h => h
  | .panic _, _, _, h => h
  | .outgrown, _, _, h => h
theorem SemK.scope {P : Program} {c : Code} {Q : Post} {s : St} {α : Type} (mk : α → St) (inv : α → Prop) (lbl μ : α → Nat)
    (first : kwp P c (gotoA (labelC mk inv lbl μ none) Q) s)
    (pass : ∀ a, inv a → ∃ rest, findLabel c (lbl a) = some rest ∧ kwp P rest (gotoA (labelC mk inv lbl μ (some (μ a))) Q) (mk a)) : SemK P (.scope c) Q s := by
  intro X φ a w hP h0 hs
  subst hP
  refine wp_scope_labels (fun m l a w => ∃ x φ', inv x ∧ lbl x = l ∧ μ x = m ∧ SR X φ' (mk x) a w) ?_ fun m l a w ⟨x, φ', h1, h2, h3, h4⟩ => ?_
  · refine wp_mono (kwp_sound h0 c _ hs first) (Qx_jumps fun l a w φ s hs ⟨x, h1, h2, h3, _⟩ => ?_)
    obtain ⟨φ', h4⟩ := hs.weak h0 h3
    exact ⟨_, x, φ', h1, h2, rfl, h4⟩
  · subst h2
    obtain ⟨rest, hf, hk⟩ := pass x h1
    refine ⟨rest, hf, wp_mono (kwp_sound h0 rest _ h4 hk) (Qx_jumps fun l a w φ s hs ⟨y, g1, g2, g3, g4⟩ => ?_)⟩
    obtain ⟨φ', g5⟩ := hs.weak h0 g3
    exact ⟨_, by rw [← h3]; exact g4 _ rfl, y, φ', g1, g2, rfl, g5⟩
set_option linter.defProp false in
def lS := And.intro @gotoA_goto (And.intro @gotoA_normal (And.intro @gotoA_ret @gotoA_exit))
end Go.Ev
/- Functions without a body, that the model itself carries out. -/
namespace Go.Ev
set_option linter.all false
open Go Go.RowKit
theorem ExtV.of {P : Program} {g : FuncId} {fn : Func} {e : Array Value → Sem Value} (hf : P.funcs[g]? = some fn) (hname : (fn.name == "runtime.NumGoroutine") = false) (hb : fn.body.isNone = true) (hn : Extern.findNext fn = none)
    (he : Extern.find fn = some e) {xs : List AV} {r : AV} (h : ∀ (c : Cx) (w : World) (vs : Array Value), c.P = P → relL xs c vs.toList → ∃ u, (e vs).run P w = .ok u w ∧ rel r c u) : ExtV P g xs r := by
  intro c w vs hc hr
  obtain ⟨u, h1, h2⟩ := h c w vs hc hr
  refine ⟨u, w, ?_, Below.refl _ _, h2⟩
  rw [run_callFunc_extern hf hname hb hn he]
  simp only [Sem.run_bind, h1]
  rfl
theorem ext_indexByteString {P : Program} {g : FuncId} {fn : Func} (hf : P.funcs[g]? = some fn) (hname : (fn.name == "runtime.NumGoroutine") = false) (hb : fn.body.isNone = true) (hn : Extern.findNext fn = none)
    (he : Extern.find fn = some Extern.BytealgIndexByte.indexByte) (s : ByteArray) (c : Int) : ExtV P g [.v (.string s), .v (.int .u8 c)] (.v (.int .i64 (Lib.indexByte s.data.toList c.toNat.toUInt8))) := by
  refine ExtV.of hf hname hb hn he fun cx w vs _ hr => ?_
  simp only [relL, rel] at hr
  obtain ⟨u, us, e1, rfl, v, vs', rfl, rfl, rfl⟩ := hr
  obtain rfl : vs = #[.string s, .int .u8 c] := by cases vs; simp_all
  exact ⟨_, Lib.run_indexByteString s c w, by simp only [rel]⟩
theorem ext_float64bits {P : Program} {g : FuncId} {fn : Func} (hf : P.funcs[g]? = some fn) (hname : (fn.name == "runtime.NumGoroutine") = false) (hb : fn.body.isNone = true) (hn : Extern.findNext fn = none)
    (he : Extern.find fn = some Extern.MathFloatBits.float64bits) (b : Nat) : ExtV P g [.v (.float .f64 b)] (.v (.int .u64 b)) := by
  refine ExtV.of hf hname hb hn he fun cx w vs _ hr => ?_
  simp only [relL, rel] at hr
  obtain ⟨u, us, e1, rfl, rfl⟩ := hr
  obtain rfl : vs = #[.float .f64 b] := by cases vs; simp_all
  exact ⟨.int .u64 b, rfl, by simp only [rel]⟩
theorem ext_float64frombits {P : Program} {g : FuncId} {fn : Func} (hf : P.funcs[g]? = some fn) (hname : (fn.name == "runtime.NumGoroutine") = false) (hb : fn.body.isNone = true) (hn : Extern.findNext fn = none)
    (he : Extern.find fn = some Extern.MathFloatBits.float64frombits) (n : Int) : ExtV P g [.v (.int .u64 n)] (.v (.float .f64 n.toNat)) := by
  refine ExtV.of hf hname hb hn he fun cx w vs _ hr => ?_
  simp only [relL, rel] at hr
  obtain ⟨u, us, e1, rfl, rfl⟩ := hr
  obtain rfl : vs = #[.int .u64 n] := by cases vs; simp_all
  exact ⟨.float .f64 n.toNat, rfl, by simp only [rel]⟩
end Go.Ev
