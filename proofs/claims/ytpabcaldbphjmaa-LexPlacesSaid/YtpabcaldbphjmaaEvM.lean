/- The same, as a function that computes: what simp runs. -/
import Derived.Test.YtpabcaldbphjmaaEvL
namespace Go.Ev
set_option linter.all false
open Go Go.RowKit
set_option linter.unusedVariables false
set_option linter.unusedSimpArgs false

def pt (s : St) (d : Option Tmp) (r : AV) : St := { s with s := putS s.s d r }
theorem pt_some (n : Nat) (l : List (Nat × AV)) (h : List ABlk) (d : Nat) (r : AV) : pt ⟨⟨n, l⟩, h⟩ (some d) r = if d < n then ⟨⟨n, (d, r) :: l⟩, h⟩ else ⟨⟨n, l⟩, h⟩ := by
  by_cases hd : d < n <;> simp [pt, putS, hd]
theorem pt_none (s : St) (r : AV) : pt s none r = s := rfl
theorem get_tmp (s : Slots) (t : Nat) : get s (.tmp t) = look s.l t := rfl
theorem get_const (s : Slots) (x : Value) : get s (.const x) = ofV x := rfl
theorem get_func (s : Slots) (f : Nat) : get s (.func f) = .v (.func (.func f) #[] #[]) := rfl
theorem look_cons (d : Nat) (r : AV) (l : List (Nat × AV)) (t : Nat) : look ((d, r) :: l) t = if d = t then r else look l t := rfl
theorem look_nil (t : Nat) : look [] t = .bad := rfl

abbrev SV := Option (Prop × AV)
abbrev SS := Option (Prop × St)
def okS (r : AV) : SV := some (True, r)

def intS (op : BinOp) (k : IntKind) (a b : Int) : SV :=
  match op with
  | .add => okS (.v (.int k (k.wrap (a + b))))
  | .sub => okS (.v (.int k (k.wrap (a - b))))
  | .mul => okS (.v (.int k (k.wrap (a * b))))
  | .quo => some (b ≠ 0, .v (.int k (k.wrap (a.tdiv b))))
  | .rem => some (b ≠ 0, .v (.int k (a.tmod b)))
  | .and => okS (.v (.int k (k.wrap (BitVec.ofInt k.bits a &&& BitVec.ofInt k.bits b).toNat)))
  | .or => okS (.v (.int k (k.wrap (BitVec.ofInt k.bits a ||| BitVec.ofInt k.bits b).toNat)))
  | .xor => okS (.v (.int k (k.wrap (BitVec.ofInt k.bits a ^^^ BitVec.ofInt k.bits b).toNat)))
  | .andNot => okS (.v (.int k (k.wrap (BitVec.ofInt k.bits a &&& ~~~BitVec.ofInt k.bits b).toNat)))
  | .eql => okS (.v (.bool (a == b)))
  | .neq => okS (.v (.bool (a != b)))
  | .lss => okS (.v (.bool (decide (a < b))))
  | .leq => okS (.v (.bool (decide (a ≤ b))))
  | .gtr => okS (.v (.bool (decide (b < a))))
  | .geq => okS (.v (.bool (decide (b ≤ a))))
  | .shl => some (0 ≤ b, .v (.int k (k.wrap (a * 2 ^ min b.toNat k.bits))))
  | .shr => some (0 ≤ b, .v (.int k (a.fdiv (2 ^ min b.toNat k.bits))))
def fltS (op : BinOp) (a b : Nat) : SV :=
  match op with
  | .add => okS (fltRes (FloatKind.f64.format.add a b))
  | .sub => okS (fltRes (FloatKind.f64.format.sub a b))
  | .mul => okS (fltRes (FloatKind.f64.format.mul a b))
  | .quo => okS (fltRes (FloatKind.f64.format.div a b))
  | .eql => okS (.v (.bool (FloatKind.f64.format.order a b == some .eq)))
  | .neq => okS (.v (.bool (FloatKind.f64.format.order a b != some .eq)))
  | .lss => okS (.v (.bool (FloatKind.f64.format.order a b == some .lt)))
  | .leq => okS (.v (.bool (FloatKind.f64.format.order a b == some .lt || FloatKind.f64.format.order a b == some .eq)))
  | .gtr => okS (.v (.bool (FloatKind.f64.format.order a b == some .gt)))
  | .geq => okS (.v (.bool (FloatKind.f64.format.order a b == some .gt || FloatKind.f64.format.order a b == some .eq)))
  | _ => none
def nanS (op : BinOp) : SV :=
  match op with
  | .add | .sub | .mul | .quo => okS .nan
  | .neq => okS (.v (.bool true))
  | .eql | .lss | .leq | .gtr | .geq => okS (.v (.bool false))
  | _ => none
def strS (op : BinOp) (x y : ByteArray) : SV :=
  match op with
  | .add => some (x.data.toList.length + y.data.toList.length ≤ 9223372036854775807, .v (.string ⟨(x.data.toList ++ y.data.toList).toArray⟩))
  | .eql => okS (.v (.bool (x.data.toList == y.data.toList)))
  | .neq => okS (.v (.bool (!(x.data.toList == y.data.toList))))
  | .lss => okS (.v (.bool (Op.bytesLess x.data.toList y.data.toList)))
  | .leq => okS (.v (.bool (Op.bytesLess x.data.toList y.data.toList || x.data.toList == y.data.toList)))
  | .gtr => okS (.v (.bool !(Op.bytesLess x.data.toList y.data.toList || x.data.toList == y.data.toList)))
  | .geq => okS (.v (.bool !Op.bytesLess x.data.toList y.data.toList))
  | _ => none
def boolS (op : BinOp) (a b : Bool) : SV :=
  match op with
  | .eql => okS (.v (.bool (a == b)))
  | .neq => okS (.v (.bool (!(a == b))))
  | _ => none
def nilS (op : BinOp) (same : Bool) : SV :=
  match op with
  | .eql => okS (.v (.bool same))
  | .neq => okS (.v (.bool (!same)))
  | _ => none
def binS (P : Program) (op : BinOp) (t : TypeId) (c : Bool) : AV → AV → SV
  | .v (.int k a), .v (.int k' b) => if k = k' ∨ op = .shl ∨ op = .shr then intS op k a b else none
  | .v (.float .f64 a), .v (.float .f64 b) => fltS op a b
  | .nan, .v (.float .f64 _) => nanS op
  | .v (.float .f64 _), .nan => nanS op
  | .nan, .nan => nanS op
  | .v (.string a), .v (.string b) => strS op a b
  | .v (.bool a), .v (.bool b) => if isBoolT P t = true then boolS op a b else none
  | .v .nilIface, .v .nilIface => if c = true ∧ ifcT P t = some true then nilS op true else none
  | .ifc _ _, .v .nilIface => if ifcT P t = some true then nilS op false else none
  | .v .nilIface, .ifc _ _ => if ifcT P t = some true then nilS op false else none
  | _, _ => none
where
  isBoolT (P : Program) (t : TypeId) : Bool := match P.underlying t with | some .bool => true | _ => false
def unS : UnOp → AV → SV
  | .not, .v (.bool b) => okS (.v (.bool (!b)))
  | .neg, .v (.int k n) => okS (.v (.int k (k.wrap (0 - n))))
  | .neg, .v (.float .f64 b) => okS (.v (.float .f64 (Op.negFloat .f64 b)))
  | _, _ => none
/-- Out of known cells. -/
def take1 (cs : List AV) : Option AV := cs[0]?
def takeS (P : Program) (t : TypeId) (cs : List AV) : Option AV :=
  (aggT P t).bind fun b => if b = true then (sizeT P t).bind fun n => if n ≤ cs.length then some (.agg (cs.take n)) else none else take1 cs
def blkS (h : List ABlk) (i ver : Nat) : Option ABlk := (h[i]?).bind fun k => if ver = k.ver then some k else none
def loadS (P : Program) (t : TypeId) (h : List ABlk) : AV → Option AV
  | .ptr i ver off => (blkS h i ver).bind fun k => takeS P t (k.cells.drop off)
  | .ela _ cs => takeS P t cs
  | _ => none
def storeS (P : Program) (t : TypeId) (h : List ABlk) : AV → AV → Option (List ABlk)
  | .ptr i ver off, x => (blkS h i ver).bind fun k => (flat x).bind fun cs => if sizeT P t = some cs.length ∧ off + cs.length ≤ k.cells.length then some (h.set i { k with cells := setMany k.cells off cs }) else none
  | _, _ => none
def fieldAddrS (P : Program) (t f : Nat) (h : List ABlk) : AV → Option AV
  | .ptr i ver off => (fieldT P t f).bind fun (o, ft) => (sizeT P ft).bind fun n => if n ≠ 0 then (blkS h i ver).bind fun _ => some (.ptr i ver (off + o)) else none
  | .ela b cs => (fieldT P t f).bind fun (o, ft) => (sizeT P ft).bind fun n => if n ≠ 0 then some (.ela b (cs.drop o)) else none
  | _ => none
def indexAddrS (P : Program) (t : Nat) (h : List ABlk) : AV → AV → SV
  | .sl b n _ cs, .v (.int _ i) => (elemT P t).bind fun e => (sizeT P e).bind fun sz => some (0 ≤ i ∧ i < n, .ela b (cs.drop (i.toNat * sz)))
  | .own j ver n, .v (.int _ i) => (blkS h j ver).bind fun _ => (elemT P t).bind fun e => (sizeT P e).bind fun sz => some (0 ≤ i ∧ i < n, .ptr j ver (i.toNat * sz))
  | .ptr j ver off, .v (.int _ i) => (blkS h j ver).bind fun _ => (arrT P t).bind fun (n, e) => (sizeT P e).bind fun sz => some (0 ≤ i ∧ i < n, .ptr j ver (off + i.toNat * sz))
  | _, _ => none
def indexS (P : Program) (t : Nat) : AV → AV → SV
  | .v (.string s), .v (.int _ i) => if strT P t = true then some (0 ≤ i ∧ i < (s.data.toList.length : Int), .v (.int .u8 (sAt s i.toNat))) else none
  | .agg cs, .v (.int _ i) => (arrT P t).bind fun (n, e) => (sizeT P e).bind fun sz => (takeS P e (cs.drop (i.toNat * sz))).bind fun r => some (0 ≤ i ∧ i < n, r)
  | _, _ => none
def boundS : Option AV → Nat → Option (Prop × Nat)
  | none, d => some (True, d)
  | some (.v (.int _ i)), _ => some (0 ≤ i, i.toNat)
  | _, _ => none
def sliceS (P : Program) (t : Nat) (h : List ABlk) (lo hi : Option AV) : AV → SV
  | .v (.string b) => if strT P t = true then (boundS hi b.data.toList.length).bind fun (p, h) => (boundS lo 0).bind fun (q, l) =>
      some (p ∧ h ≤ b.data.toList.length ∧ q ∧ l ≤ h, .v (.string ⟨((b.data.toList.take h).drop l).toArray⟩)) else none
  | .sl b n m cs => (elemT P t).bind fun e => (sizeT P e).bind fun sz => (boundS hi n).bind fun (p, h) => (boundS lo 0).bind fun (q, l) =>
      some (cs.length ≤ m * sz ∧ p ∧ h ≤ m ∧ q ∧ l ≤ h, .sl b (h - l) (m - l) (cs.drop (l * sz)))
  | .own i ver n => (elemT P t).bind fun e => (sizeT P e).bind fun sz => (blkS h i ver).bind fun _ => (boundS hi n).bind fun (p, h) => (boundS lo 0).bind fun (q, l) =>
      some (p ∧ h ≤ n ∧ q ∧ l ≤ h ∧ l = 0, .own i ver h)
  | .v (.slice none 0 0) => (elemT P t).bind fun e => (sizeT P e).bind fun sz => (boundS hi 0).bind fun (p, h) => (boundS lo 0).bind fun (q, l) =>
      some (p ∧ h ≤ 0 ∧ q ∧ l ≤ h, .v (.slice none 0 0))
  | _ => none
def srcS (h : List ABlk) (sz : Nat) : AV → Option (Prop × Nat × List AV)
  | .sl _ n _ cs => some (n * sz ≤ cs.length, n, cs.take (n * sz))
  | .own i ver n => (blkS h i ver).bind fun k => some (n * sz ≤ k.cells.length, n, k.cells.take (n * sz))
  | .v (.slice none 0 0) => some (True, 0, [])
  | .v (.string b) => if sz = 1 then some (True, b.data.toList.length, b.data.toList.map byteC) else none
  | _ => none
/-- An append onto a row of the call's own, or onto nil of at least one element. -/
def ontoS (h : List ABlk) (e sz by' : Nat) (p : Prop) (n : Nat) (new : List AV) : AV → Option (Prop × AV × List ABlk)
  | .v (.slice none 0 0) => if n = 0 then some (p ∧ new.all oneA = true, .v (.slice none 0 0), h) else some (p ∧ new.all oneA = true ∧ n * by' ≤ 140737488355328, .own h.length 0 n, h ++ [⟨0, e, new⟩])
  | .own i ver m => (blkS h i ver).bind fun k => if k.e = e then some (p ∧ new.all oneA = true ∧ m * sz ≤ k.cells.length ∧ (m + n) * by' ≤ 140737488355328, .own i (ver + 1) (m + n), h.set i ⟨ver + 1, e, k.cells.take (m * sz) ++ new⟩) else none
  | _ => none
def appendS (P : Program) (ts : Array TypeId) (h : List ABlk) (x y : AV) : Option (Prop × AV × List ABlk) :=
  (ts[0]?).bind fun t => (ts[1]?).bind fun t2 => if intT P t2 = none ∧ (P.underlying t2).isSome = true then
    (elemT P t).bind fun e => (sizeT P e).bind fun sz => (bytesT P e).bind fun by' => (zeroT P e).bind fun z =>
      if (zeroCells z).length = sz ∧ 0 < sz ∧ 0 < by' then (srcS h sz y).bind fun (p, n, new) => ontoS h e sz by' p n new x else none
  else none
def fillS (place : Nat → Option (Nat × Nat)) : List (Nat × AV) → List AV → Option (List AV)
  | [], l => some l
  | (i, x) :: r, l => (place i).bind fun (o, n) => (flat x).bind fun cs => if cs.length = n ∧ o + n ≤ l.length then fillS place r (setMany l o cs) else none
def buildS (P : Program) (t : TypeId) (ps : List (Nat × AV)) : Option AV :=
  (zeroT P t).bind fun z => match placesT P t with
    | some pl => (fillS (pl[·]?) ps (zeroCells z)).map .agg
    | none => (arrT P t).bind fun (_, e) => (sizeT P e).bind fun sz => (fillS (fun i => some (i * sz, sz)) ps (zeroCells z)).map .agg
def buildSliceS (P : Program) (t : TypeId) (len : Nat) (ps : List (Nat × AV)) (h : List ABlk) : Option (AV × List ABlk) :=
  (elemT P t).bind fun e => (sizeT P e).bind fun sz => (zeroT P e).bind fun z =>
    if (zeroCells z).length = sz ∧ 0 < sz ∧ len * sz ≤ 16777216 then (fillS (fun i => some (i * sz, sz)) ps (rowsA z len)).map fun l => (.own h.length 0 len, h ++ [⟨0, e, l⟩]) else none
def makeSliceS (P : Program) (t : TypeId) (h : List ABlk) : AV → AV → Option (Prop × AV × List ABlk)
  | .v (.int _ n), .v (.int _ c) => (elemT P t).bind fun e => (sizeT P e).bind fun sz => (bytesT P e).bind fun by' => (zeroT P e).bind fun z =>
      if (zeroCells z).length = sz ∧ 0 < sz then some (0 ≤ n ∧ n ≤ c ∧ c < 9223372036854775808 ∧ c * by' ≤ 140737488355328, .own h.length 0 n.toNat, h ++ [⟨0, e, rowsA z c.toNat⟩]) else none
  | _, _ => none
def strOf (cs : List AV) : Option AV := (bytesOfA cs).map fun l => .v (.string ⟨l.toArray⟩)
def convertS (P : Program) (src dst : TypeId) (h : List ABlk) : AV → Option (Prop × AV × List ABlk)
  | .v (.int _ n) => if (P.underlying src).isSome = true then
      (match intT P dst with
       | some k => some (True, .v (.int k (k.wrap n)), h)
       | none => if fltT P dst = some .f64 then some (True, .v (.float .f64 (FloatKind.f64.nearest n)), h) else if strT P dst = true then some (True, .v (.string (Utf8.encode n)), h) else none) else none
  | .v (.string b) => if strT P dst = true then (if (P.underlying src).isSome = true then some (True, .v (.string b), h) else none) else
      (elemT P dst).bind fun e => if strT P src = true ∧ intT P e = some .u8 ∧ sizeT P e = some 1 then some (b.data.toList.length < 4611686018427387904, .own h.length 0 b.data.toList.length, h ++ [⟨0, e, b.data.toList.map byteC⟩]) else none
  | .sl _ n _ cs => if strT P dst = true ∧ (elemT P src).bind (intT P) = some .u8 then (strOf (cs.take n)).map fun r => (n ≤ cs.length, r, h) else none
  | .own i ver n => if strT P dst = true ∧ (elemT P src).bind (intT P) = some .u8 then (blkS h i ver).bind fun k => (strOf (k.cells.take n)).map fun r => (n ≤ k.cells.length, r, h) else none
  | .v (.slice none 0 0) => if strT P dst = true ∧ (elemT P src).bind (intT P) = some .u8 then some (True, .v (.string ⟨#[]⟩), h) else none
  | _ => none
def lenS (P : Program) (t : TypeId) (h : List ABlk) : AV → Option AV
  | .v (.string b) => if strT P t = true then some (.v (.int .i64 b.data.toList.length)) else none
  | .v (.slice none 0 0) => if (elemT P t).isSome = true then some (.v (.int .i64 0)) else none
  | .sl _ n _ _ => if (elemT P t).isSome = true then some (.v (.int .i64 n)) else none
  | .own i ver n => if (elemT P t).isSome = true then (blkS h i ver).bind fun _ => some (.v (.int .i64 n)) else none
  | _ => none
def extractS (i : Nat) : AV → Option AV
  | .tup cs => cs[i]?
  | _ => none
def fieldS (P : Program) (t f : Nat) : AV → Option AV
  | .agg cs => (fieldT P t f).bind fun (o, ft) => takeS P ft (cs.drop o)
  | _ => none

def retV (s : St) (d : Option Tmp) (r : Option AV) : SS := r.map fun r => (True, pt s d r)
def retP (s : St) (d : Option Tmp) (r : SV) : SS := r.map fun r => (r.1, pt s d r.2)
def retH (s : St) (d : Option Tmp) (r : Option (Prop × AV × List ABlk)) : SS := r.map fun r => (r.1, pt { s with h := r.2.2 } d r.2.1)
def builtinS (P : Program) : Callee → List Operand → Array TypeId → St → Option Tmp → SS
  | .builtin .len, x :: _, ts, s, d => (ts[0]?).bind fun t => retV s d (lenS P t s.h (get s.s x))
  | .builtin .append, [x, y], ts, s, d => retH s d (appendS P ts s.h (get s.s x) (get s.s y))
  | _, _, _, _, _ => none
/-- One operation, where it neither parts the ways nor calls. -/
def stepS (P : Program) (o : Oper) (s : St) : SS :=
  match o.op with
  | .move x | .assign x => retV s o.dst (some (get s.s x))
  | .alloc t => (zeroT P t).bind fun z => retH s o.dst (some (True, .ptr s.h.length 0 0, s.h ++ [⟨0, t, zeroCells z⟩]))
  | .box t x => (flat (get s.s x)).bind fun cs => retH s o.dst (some (True, .ptr s.h.length 0 0, s.h ++ [⟨0, t, cs⟩]))
  | .build t ps => retV s o.dst (buildS P t (ps.toList.map fun (i, x) => (i, get s.s x)))
  | .buildSlice t n ps => retH s o.dst ((buildSliceS P t n (ps.toList.map fun (i, x) => (i, get s.s x)) s.h).map fun (r, h) => (True, r, h))
  | .load t a => retV s o.dst (loadS P t s.h (get s.s a))
  | .store t a x => (storeS P t s.h (get s.s a) (get s.s x)).map fun h => (True, pt { s with h } o.dst .bad)
  | .nilCheck x => (match get s.s x with
    | .ptr i ver off => (blkS s.h i ver).bind fun _ => retV s o.dst (some (.ptr i ver off))
    | .ela b cs => retV s o.dst (some (.ela b cs))
    | _ => none)
  | .binOp op t x y _ => retP s o.dst (binS P op t (isConst x || isConst y) (get s.s x) (get s.s y))
  | .unOp op _ x => retP s o.dst (unS op (get s.s x))
  | .convert a b x => retH s o.dst (convertS P a b s.h (get s.s x))
  | .makeInterface t x => if ifcT P t = some false then retV s o.dst (some (.ifc t (get s.s x))) else none
  | .makeSlice t l c => retH s o.dst (makeSliceS P t s.h (get s.s l) (get s.s c))
  | .slice t x lo hi none => retP s o.dst (sliceS P t s.h (lo.map (get s.s)) (hi.map (get s.s)) (get s.s x))
  | .fieldAddr t x f => retV s o.dst (fieldAddrS P t f s.h (get s.s x))
  | .field t x f => retV s o.dst (fieldS P t f (get s.s x))
  | .indexAddr t x i => retP s o.dst (indexAddrS P t s.h (get s.s x) (get s.s i))
  | .index t x i => retP s o.dst (indexS P t (get s.s x) (get s.s i))
  | .extract t i => retV s o.dst (extractS i (get s.s t))
  | .call c => builtinS P c.callee c.args.toList c.argTypes s o.dst
  | _ => none

/-! ### It is what the evaluator says -/
theorem blkS_eq {h : List ABlk} {i ver : Nat} {k : ABlk} (e : blkS h i ver = some k) : h[i]? = some k ∧ ver = k.ver := by
  unfold blkS at e
  cases hh : h[i]? with
  | none => simp [hh] at e
  | some k' => simp [hh] at e; obtain ⟨e1, rfl⟩ := e; exact ⟨rfl, e1⟩
theorem takeS_eq {P : Program} {t : TypeId} {cs : List AV} {r : AV} (e : takeS P t cs = some r) {K : AV → Prop} (hk : K r) : takeA P t cs K := by
  unfold takeS at e
  unfold takeA
  cases ha : aggT P t with
  | none => simp [ha] at e
  | some b =>
    cases b with
    | true =>
      cases hs : sizeT P t with
      | none => simp [ha, hs] at e
      | some n =>
        simp [ha, hs] at e
        obtain ⟨e1, rfl⟩ := e
        exact ⟨n, rfl, e1, hk⟩
    | false => simp [ha, take1] at e; exact ⟨r, e, hk⟩
theorem loadS_eq {P : Program} {t : TypeId} {s : St} {x r : AV} (e : loadS P t s.h x = some r) {K : AV → Prop} (hk : K r) : loadA P t s x K := by
  unfold loadS at e
  split at e
  · rename_i i ver off
    obtain ⟨k, hb, e⟩ := Option.bind_eq_some_iff.1 e
    obtain ⟨h1, h2⟩ := blkS_eq hb
    exact ⟨k, h1, h2, takeS_eq e hk⟩
  · exact takeS_eq e hk
  · cases e
theorem intS_eq {P : Program} {t : TypeId} {ox oy : Operand} {op : BinOp} {k k' : IntKind} {a b : Int} {p : Prop} {r : AV} (hk' : k = k' ∨ op = .shl ∨ op = .shr) (e : intS op k a b = some (p, r)) (hp : p) {K : AV → Prop} (hk : K r) :
    binA P op t ox oy (.v (.int k a)) (.v (.int k' b)) K := by
  cases op <;> simp only [intS, okS, Option.some.injEq, Prod.mk.injEq] at e <;> obtain ⟨rfl, rfl⟩ := e <;> simp only [binA, shiftA, intA] <;> simp_all
theorem binS_eq {P : Program} {op : BinOp} {t : TypeId} {ox oy : Operand} {x y r : AV} {p : Prop} (e : binS P op t (isConst ox || isConst oy) x y = some (p, r)) (hp : p) {K : AV → Prop} (hk : K r) : binA P op t ox oy x y K := by
  unfold binS at e
  split at e
  · split at e
    · rename_i hc; exact intS_eq hc e hp hk
    · cases e
  · cases op <;> simp only [fltS, okS, Option.some.injEq, Prod.mk.injEq, reduceCtorEq] at e <;> obtain ⟨rfl, rfl⟩ := e <;> exact hk
  · cases op <;> simp only [nanS, okS, Option.some.injEq, Prod.mk.injEq, reduceCtorEq] at e <;> obtain ⟨rfl, rfl⟩ := e <;> exact hk
  · cases op <;> simp only [nanS, okS, Option.some.injEq, Prod.mk.injEq, reduceCtorEq] at e <;> obtain ⟨rfl, rfl⟩ := e <;> exact hk
  · cases op <;> simp only [nanS, okS, Option.some.injEq, Prod.mk.injEq, reduceCtorEq] at e <;> obtain ⟨rfl, rfl⟩ := e <;> exact hk
  · cases op <;> simp only [strS, okS, Option.some.injEq, Prod.mk.injEq, reduceCtorEq] at e <;> obtain ⟨rfl, rfl⟩ := e <;> first | exact hk | exact ⟨hp, hk⟩
  · split at e
    · rename_i hb
      have hb' : P.underlying t = some .bool := by
        unfold binS.isBoolT at hb
        split at hb
        · assumption
        · cases hb
      cases op <;> simp only [boolS, okS, Option.some.injEq, Prod.mk.injEq, reduceCtorEq] at e <;> obtain ⟨rfl, rfl⟩ := e <;> exact ⟨hb', hk⟩
    · cases e
  · split at e
    · rename_i hc
      cases op <;> simp only [nilS, okS, Option.some.injEq, Prod.mk.injEq, reduceCtorEq] at e <;> obtain ⟨rfl, rfl⟩ := e <;> exact ⟨hc.1, hc.2, hk⟩
    · cases e
  · split at e
    · rename_i hc
      cases op <;> simp only [nilS, okS, Option.some.injEq, Prod.mk.injEq, reduceCtorEq] at e <;> obtain ⟨rfl, rfl⟩ := e <;> exact ⟨hc, hk⟩
    · cases e
  · split at e
    · rename_i hc
      cases op <;> simp only [nilS, okS, Option.some.injEq, Prod.mk.injEq, reduceCtorEq] at e <;> obtain ⟨rfl, rfl⟩ := e <;> exact ⟨hc, hk⟩
    · cases e
  · cases e
theorem unS_eq {op : UnOp} {x r : AV} {p : Prop} (e : unS op x = some (p, r)) (hp : p) {K : AV → Prop} (hk : K r) : unA op x K := by
  unfold unS at e
  split at e <;> first | cases e; done | (simp only [okS, Option.some.injEq, Prod.mk.injEq] at e; obtain ⟨rfl, rfl⟩ := e; exact hk)
theorem storeS_eq {P : Program} {t : TypeId} {s : St} {x y : AV} {h : List ABlk} (e : storeS P t s.h x y = some h) {K : St → Prop} (hk : K { s with h }) : storeA P t s x y K := by
  unfold storeS at e
  split at e
  · obtain ⟨k, hb, e⟩ := Option.bind_eq_some_iff.1 e
    obtain ⟨cs, hf, e⟩ := Option.bind_eq_some_iff.1 e
    obtain ⟨h1, h2⟩ := blkS_eq hb
    split at e
    · rename_i hc
      cases e
      exact ⟨k, cs, h1, h2, hf, hc.1, hc.2, hk⟩
    · cases e
  · cases e
theorem fieldAddrS_eq {P : Program} {t f : Nat} {s : St} {x r : AV} (e : fieldAddrS P t f s.h x = some r) {K : AV → Prop} (hk : K r) : fieldAddrA P t s x f K := by
  unfold fieldAddrS at e
  split at e
  · obtain ⟨⟨o, ft⟩, h1, e⟩ := Option.bind_eq_some_iff.1 e
    obtain ⟨n, h2, e⟩ := Option.bind_eq_some_iff.1 e
    split at e
    · rename_i hn
      obtain ⟨k, hb, e⟩ := Option.bind_eq_some_iff.1 e
      cases e
      exact ⟨o, ft, n, h1, h2, hn, ⟨k, (blkS_eq hb).1, (blkS_eq hb).2⟩, hk⟩
    · cases e
  · obtain ⟨⟨o, ft⟩, h1, e⟩ := Option.bind_eq_some_iff.1 e
    obtain ⟨n, h2, e⟩ := Option.bind_eq_some_iff.1 e
    split at e
    · rename_i hn
      cases e
      exact ⟨o, ft, n, h1, h2, hn, hk⟩
    · cases e
  · cases e
theorem indexAddrS_eq {P : Program} {t : Nat} {s : St} {x y r : AV} {p : Prop} (e : indexAddrS P t s.h x y = some (p, r)) (hp : p) {K : AV → Prop} (hk : K r) : indexAddrA P t s x y K := by
  unfold indexAddrS at e
  split at e
  · obtain ⟨e', h1, e⟩ := Option.bind_eq_some_iff.1 e
    obtain ⟨sz, h2, e⟩ := Option.bind_eq_some_iff.1 e
    cases e
    exact ⟨e', sz, h1, h2, hp.1, hp.2, hk⟩
  · obtain ⟨k, hb, e⟩ := Option.bind_eq_some_iff.1 e
    obtain ⟨e', h1, e⟩ := Option.bind_eq_some_iff.1 e
    obtain ⟨sz, h2, e⟩ := Option.bind_eq_some_iff.1 e
    cases e
    exact ⟨k, e', sz, (blkS_eq hb).1, (blkS_eq hb).2, h1, h2, hp.1, hp.2, hk⟩
  · obtain ⟨k, hb, e⟩ := Option.bind_eq_some_iff.1 e
    obtain ⟨⟨n, e'⟩, h1, e⟩ := Option.bind_eq_some_iff.1 e
    obtain ⟨sz, h2, e⟩ := Option.bind_eq_some_iff.1 e
    cases e
    exact ⟨⟨k, (blkS_eq hb).1, (blkS_eq hb).2⟩, n, e', sz, h1, h2, hp.1, hp.2, hk⟩
  · cases e
theorem indexS_eq {P : Program} {t : Nat} {x y r : AV} {p : Prop} (e : indexS P t x y = some (p, r)) (hp : p) {K : AV → Prop} (hk : K r) : indexA P t x y K := by
  unfold indexS at e
  split at e
  · split at e
    · rename_i hs
      cases e
      exact ⟨hs, hp.1, hp.2, hk⟩
    · cases e
  · obtain ⟨⟨n, e'⟩, h1, e⟩ := Option.bind_eq_some_iff.1 e
    obtain ⟨sz, h2, e⟩ := Option.bind_eq_some_iff.1 e
    obtain ⟨r', h3, e⟩ := Option.bind_eq_some_iff.1 e
    cases e
    exact ⟨n, e', sz, h1, h2, hp.1, hp.2, takeS_eq h3 hk⟩
  · cases e
theorem boundS_eq {x : Option AV} {d n : Nat} {p : Prop} (e : boundS x d = some (p, n)) (hp : p) {K : Nat → Prop} (hk : K n) : boundA x d K := by
  unfold boundS at e
  split at e
  · cases e; exact hk
  · cases e; exact ⟨hp, hk⟩
  · cases e
theorem sliceS_eq {P : Program} {t : Nat} {s : St} {x r : AV} {lo hi : Option AV} {p : Prop} (e : sliceS P t s.h lo hi x = some (p, r)) (hp : p) {K : AV → Prop} (hk : K r) : sliceA P t s x lo hi none K := by
  refine ⟨rfl, ?_⟩
  unfold sliceS at e
  split at e
  · split at e
    · rename_i hs
      obtain ⟨⟨p1, h⟩, h1, e⟩ := Option.bind_eq_some_iff.1 e
      obtain ⟨⟨q1, l⟩, h2, e⟩ := Option.bind_eq_some_iff.1 e
      cases e
      exact ⟨hs, boundS_eq h1 hp.1 ⟨hp.2.1, boundS_eq h2 hp.2.2.1 ⟨hp.2.2.2, hk⟩⟩⟩
    · cases e
  · obtain ⟨e', g1, e⟩ := Option.bind_eq_some_iff.1 e
    obtain ⟨sz, g2, e⟩ := Option.bind_eq_some_iff.1 e
    obtain ⟨⟨p1, h⟩, h1, e⟩ := Option.bind_eq_some_iff.1 e
    obtain ⟨⟨q1, l⟩, h2, e⟩ := Option.bind_eq_some_iff.1 e
    cases e
    exact ⟨e', sz, g1, g2, hp.1, boundS_eq h1 hp.2.1 ⟨hp.2.2.1, boundS_eq h2 hp.2.2.2.1 ⟨hp.2.2.2.2, hk⟩⟩⟩
  · obtain ⟨e', g1, e⟩ := Option.bind_eq_some_iff.1 e
    obtain ⟨sz, g2, e⟩ := Option.bind_eq_some_iff.1 e
    obtain ⟨k, hb, e⟩ := Option.bind_eq_some_iff.1 e
    obtain ⟨⟨p1, h⟩, h1, e⟩ := Option.bind_eq_some_iff.1 e
    obtain ⟨⟨q1, l⟩, h2, e⟩ := Option.bind_eq_some_iff.1 e
    cases e
    exact ⟨e', k, sz, g1, g2, (blkS_eq hb).1, (blkS_eq hb).2, boundS_eq h1 hp.1 ⟨hp.2.1, boundS_eq h2 hp.2.2.1 ⟨hp.2.2.2.1, hp.2.2.2.2, hk⟩⟩⟩
  · obtain ⟨e', g1, e⟩ := Option.bind_eq_some_iff.1 e
    obtain ⟨sz, g2, e⟩ := Option.bind_eq_some_iff.1 e
    obtain ⟨⟨p1, h⟩, h1, e⟩ := Option.bind_eq_some_iff.1 e
    obtain ⟨⟨q1, l⟩, h2, e⟩ := Option.bind_eq_some_iff.1 e
    cases e
    exact ⟨e', sz, g1, g2, boundS_eq h1 hp.1 ⟨hp.2.1, boundS_eq h2 hp.2.2.1 ⟨hp.2.2.2, hk⟩⟩⟩
  · cases e
theorem srcS_eq {s : St} {sz n : Nat} {y : AV} {new : List AV} {p : Prop} (e : srcS s.h sz y = some (p, n, new)) (hp : p) {K : Nat → List AV → Prop} (hk : K n new) : srcA s sz y K := by
  unfold srcS at e
  split at e
  · cases e; exact ⟨hp, hk⟩
  · obtain ⟨k, hb, e⟩ := Option.bind_eq_some_iff.1 e
    cases e
    exact ⟨k, (blkS_eq hb).1, (blkS_eq hb).2, hp, hk⟩
  · cases e; exact hk
  · split at e
    · cases e; rename_i h; exact ⟨h, hk⟩
    · cases e
  · cases e
theorem ontoS_p {h : List ABlk} {e sz by' n : Nat} {p q : Prop} {new : List AV} {x r : AV} {h' : List ABlk} (hh : ontoS h e sz by' p n new x = some (q, r, h')) (hq : q) : p := by
  unfold ontoS at hh
  split at hh
  · split at hh <;> (cases hh; exact hq.1)
  · obtain ⟨k, hb, hh⟩ := Option.bind_eq_some_iff.1 hh
    split at hh
    · cases hh; exact hq.1
    · cases hh
  · cases hh
theorem ontoS_eq {s : St} {e sz by' n : Nat} {p q : Prop} {new : List AV} {x r : AV} {h' : List ABlk} (hh : ontoS s.h e sz by' p n new x = some (q, r, h')) (hq : q) {K : AV → St → Prop} (hk : K r { s with h := h' }) : new.all oneA = true ∧ ontoA s e sz by' n new K x := by
  unfold ontoS at hh
  split at hh
  · split at hh
    · rename_i hn
      cases hh
      exact ⟨hq.2, .inl ⟨hn, hk⟩⟩
    · rename_i hn
      cases hh
      exact ⟨hq.2.1, .inr ⟨Nat.pos_of_ne_zero hn, hq.2.2, hk⟩⟩
  · obtain ⟨k, hb, hh⟩ := Option.bind_eq_some_iff.1 hh
    split at hh
    · rename_i hke
      cases hh
      exact ⟨hq.2.1, k, (blkS_eq hb).1, (blkS_eq hb).2, hke, hq.2.2.1, .inr ⟨hq.2.2.2, hk⟩⟩
    · cases hh
  · cases hh
theorem appendS_eq {P : Program} {ts : Array TypeId} {s : St} {x y r : AV} {h : List ABlk} {p : Prop} (e : appendS P ts s.h x y = some (p, r, h)) (hp : p) {K : AV → St → Prop} (hk : K r { s with h }) : appendA P ts s x y K := by
  unfold appendS at e
  obtain ⟨t, h1, e⟩ := Option.bind_eq_some_iff.1 e
  obtain ⟨t2, h2, e⟩ := Option.bind_eq_some_iff.1 e
  split at e
  · rename_i hi
    obtain ⟨e', h3, e⟩ := Option.bind_eq_some_iff.1 e
    obtain ⟨sz, h4, e⟩ := Option.bind_eq_some_iff.1 e
    obtain ⟨by', h5, e⟩ := Option.bind_eq_some_iff.1 e
    obtain ⟨z, h6, e⟩ := Option.bind_eq_some_iff.1 e
    split at e
    · rename_i hz
      obtain ⟨⟨p1, n, new⟩, h7, e⟩ := Option.bind_eq_some_iff.1 e
      refine ⟨t, t2, e', sz, by', z, h6, hz.1, h1, h2, hi.1, hi.2, h3, h4, h5, hz.2.1, hz.2.2, ?_⟩
      exact srcS_eq h7 (ontoS_p e hp) (ontoS_eq e hp hk)
    · cases e
  · cases e
theorem fillS_eq {place : Nat → Option (Nat × Nat)} {s : Slots} : ∀ {ps : List (Nat × Operand)} {l r : List AV}, fillS place (ps.map fun (i, x) => (i, get s x)) l = some r → ∀ {K : List AV → Prop}, K r → fillA place (get s) ps l K
  | [], l, r, e, K, hk => by cases e; exact hk
  | (i, x) :: ps, l, r, e, K, hk => by
    simp only [List.map_cons, fillS] at e
    obtain ⟨⟨o, n⟩, h1, e⟩ := Option.bind_eq_some_iff.1 e
    obtain ⟨cs, h2, e⟩ := Option.bind_eq_some_iff.1 e
    split at e
    · rename_i hc
      exact ⟨o, n, cs, h1, h2, hc.1, hc.2, fillS_eq e hk⟩
    · cases e
theorem buildS_eq {P : Program} {t : TypeId} {ps : Array (Nat × Operand)} {s : Slots} {r : AV} (e : buildS P t (ps.toList.map fun (i, x) => (i, get s x)) = some r) {K : AV → Prop} (hk : K r) : buildA P t ps (get s) K := by
  unfold buildS at e
  obtain ⟨z, hz, e⟩ := Option.bind_eq_some_iff.1 e
  refine ⟨z, hz, ?_⟩
  split at e
  · rename_i pl hp
    obtain ⟨l, h1, rfl⟩ := Option.map_eq_some_iff.1 e
    exact .inl ⟨pl, hp, fillS_eq h1 hk⟩
  · obtain ⟨⟨n, e'⟩, h1, e⟩ := Option.bind_eq_some_iff.1 e
    obtain ⟨sz, h2, e⟩ := Option.bind_eq_some_iff.1 e
    obtain ⟨l, h3, rfl⟩ := Option.map_eq_some_iff.1 e
    exact .inr ⟨n, e', sz, h1, h2, fillS_eq h3 hk⟩
theorem buildSliceS_eq {P : Program} {t len : Nat} {ps : Array (Nat × Operand)} {s : St} {r : AV} {h : List ABlk} (e : buildSliceS P t len (ps.toList.map fun (i, x) => (i, get s.s x)) s.h = some (r, h)) {K : AV → St → Prop} (hk : K r { s with h }) : buildSliceA P t len ps (get s.s) s K := by
  unfold buildSliceS at e
  obtain ⟨e', h1, e⟩ := Option.bind_eq_some_iff.1 e
  obtain ⟨sz, h2, e⟩ := Option.bind_eq_some_iff.1 e
  obtain ⟨z, h3, e⟩ := Option.bind_eq_some_iff.1 e
  split at e
  · rename_i hc
    obtain ⟨l, h4, e⟩ := Option.map_eq_some_iff.1 e
    cases e
    exact ⟨e', sz, z, h1, h2, h3, hc.1, hc.2.1, hc.2.2, fillS_eq h4 hk⟩
  · cases e
theorem makeSliceS_eq {P : Program} {t : Nat} {s : St} {x y r : AV} {h : List ABlk} {p : Prop} (e : makeSliceS P t s.h x y = some (p, r, h)) (hp : p) {K : AV → St → Prop} (hk : K r { s with h }) : makeSliceA P t x y s K := by
  unfold makeSliceS at e
  split at e
  · obtain ⟨e', h1, e⟩ := Option.bind_eq_some_iff.1 e
    obtain ⟨sz, h2, e⟩ := Option.bind_eq_some_iff.1 e
    obtain ⟨by', h3, e⟩ := Option.bind_eq_some_iff.1 e
    obtain ⟨z, h4, e⟩ := Option.bind_eq_some_iff.1 e
    split at e
    · rename_i hc
      cases e
      exact ⟨e', sz, by', z, h1, h2, h3, h4, hc.1, hc.2, hp.1, hp.2.1, hp.2.2.1, hp.2.2.2, hk⟩
    · cases e
  · cases e
theorem fltT_eq {P : Program} {t : Nat} {k : FloatKind} (h : fltT P t = some k) : P.underlying t = some (.float k) := by
  unfold fltT at h
  split at h
  · cases h; assumption
  · cases h
theorem strOf_eq {cs : List AV} {r : AV} (e : strOf cs = some r) : ∃ l, bytesOfA cs = some l ∧ r = .v (.string ⟨l.toArray⟩) := by
  unfold strOf at e
  obtain ⟨l, h1, rfl⟩ := Option.map_eq_some_iff.1 e
  exact ⟨l, h1, rfl⟩
theorem convertS_eq {P : Program} {src dst : Nat} {s : St} {x r : AV} {h : List ABlk} {p : Prop} (e : convertS P src dst s.h x = some (p, r, h)) (hp : p) {K : AV → St → Prop} (hk : K r { s with h }) : convertA P src dst x s K := by
  unfold convertS at e
  split at e
  · split at e
    · rename_i hs
      split at e
      · rename_i k hk'
        cases e
        simp only [convertA, intT_eq hk']
        exact ⟨hs, hk⟩
      · split at e
        · rename_i hf
          cases e
          simp only [convertA, fltT_eq hf]
          exact ⟨hs, hk⟩
        · split at e
          · rename_i hst
            cases e
            simp only [convertA, strT_eq hst]
            exact ⟨hs, hk⟩
          · cases e
    · cases e
  · split at e
    · rename_i hd
      split at e
      · rename_i hs
        cases e
        simp only [convertA, strT_eq hd]
        exact ⟨hs, hk⟩
      · cases e
    · obtain ⟨e', h1, e⟩ := Option.bind_eq_some_iff.1 e
      split at e
      · rename_i hc
        cases e
        simp only [convertA, elemT_eq h1]
        exact ⟨hc.1, hc.2.1, hc.2.2, hp, hk⟩
      · cases e
  · split at e
    · rename_i hc
      obtain ⟨r', h1, e⟩ := Option.map_eq_some_iff.1 e
      cases e
      obtain ⟨l, h2, rfl⟩ := strOf_eq h1
      exact ⟨hc.1, hc.2, hp, l, h2, hk⟩
    · cases e
  · split at e
    · rename_i hc
      obtain ⟨k, hb, e⟩ := Option.bind_eq_some_iff.1 e
      obtain ⟨r', h1, e⟩ := Option.map_eq_some_iff.1 e
      cases e
      obtain ⟨l, h2, rfl⟩ := strOf_eq h1
      exact ⟨k, (blkS_eq hb).1, (blkS_eq hb).2, hc.1, hc.2, hp, l, h2, hk⟩
    · cases e
  · split at e
    · rename_i hc
      cases e
      exact ⟨hc.1, hc.2, hk⟩
    · cases e
  · cases e
theorem lenS_eq {P : Program} {t : Nat} {ts : Array TypeId} (ht : ts[0]? = some t) {s : St} {x r : AV} (e : lenS P t s.h x = some r) {K : AV → Prop} (hk : K r) : lenA P ts s x K := by
  refine ⟨t, ht, ?_⟩
  unfold lenS at e
  split at e <;> (try split at e) <;> first
    | (cases e; done)
    | (cases e; rename_i h; exact ⟨h, hk⟩)
    | (rename_i h
       obtain ⟨k, hb, e⟩ := Option.bind_eq_some_iff.1 e
       cases e
       exact ⟨h, ⟨k, (blkS_eq hb).1, (blkS_eq hb).2⟩, hk⟩)
theorem stepS_eq {P : Program} {o : Oper} {s s' : St} {p : Prop} (e : stepS P o s = some (p, s')) (hp : p) {K : St → Prop} (hk : K s') : aop P o s K := by
  have rv : ∀ {r : Option AV}, retV s o.dst r = some (p, s') → ∃ x, r = some x ∧ s' = pt s o.dst x := fun {r} h => by
    obtain ⟨x, h1, h2⟩ := Option.map_eq_some_iff.1 h
    cases h2; exact ⟨x, h1, rfl⟩
  have rp : ∀ {r : SV}, retP s o.dst r = some (p, s') → ∃ x, r = some (p, x) ∧ s' = pt s o.dst x := fun {r} h => by
    obtain ⟨⟨q, x⟩, h1, h2⟩ := Option.map_eq_some_iff.1 h
    cases h2; exact ⟨x, h1, rfl⟩
  have rh : ∀ {r : Option (Prop × AV × List ABlk)}, retH s o.dst r = some (p, s') → ∃ x h, r = some (p, x, h) ∧ s' = pt { s with h } o.dst x := fun {r} h => by
    obtain ⟨⟨q, x, h'⟩, h1, h2⟩ := Option.map_eq_some_iff.1 h
    cases h2; exact ⟨x, h', h1, rfl⟩
  unfold stepS at e
  unfold aop
  split at e
  · rename_i x ho; obtain ⟨y, h1, rfl⟩ := rv e; cases h1; simp only [ho]; exact hk
  · rename_i x ho; obtain ⟨y, h1, rfl⟩ := rv e; cases h1; simp only [ho]; exact hk
  · rename_i t ho
    obtain ⟨z, hz, e⟩ := Option.bind_eq_some_iff.1 e
    obtain ⟨y, h, h1, rfl⟩ := rh e; cases h1; simp only [ho]; exact ⟨z, hz, hk⟩
  · rename_i t x ho
    obtain ⟨z, hz, e⟩ := Option.bind_eq_some_iff.1 e
    obtain ⟨y, h, h1, rfl⟩ := rh e; cases h1; simp only [ho]; exact ⟨z, hz, hk⟩
  · rename_i t ps ho; obtain ⟨y, h1, rfl⟩ := rv e; simp only [ho]; exact buildS_eq h1 hk
  · rename_i t n ps ho
    obtain ⟨y, h, h1, rfl⟩ := rh e
    obtain ⟨⟨y', h'⟩, h2, h3⟩ := Option.map_eq_some_iff.1 h1
    cases h3
    simp only [ho]; exact buildSliceS_eq h2 hk
  · rename_i t x ho; obtain ⟨y, h1, rfl⟩ := rv e; simp only [ho]; exact loadS_eq h1 hk
  · rename_i t x y ho
    obtain ⟨h, h1, h2⟩ := Option.map_eq_some_iff.1 e
    cases h2
    simp only [ho]; exact storeS_eq h1 hk
  · rename_i x ho
    simp only [ho]
    split at e
    · rename_i hg
      obtain ⟨k, hb, e⟩ := Option.bind_eq_some_iff.1 e
      obtain ⟨y, h1, rfl⟩ := rv e; cases h1
      simp only [hg]
      exact ⟨⟨k, (blkS_eq hb).1, (blkS_eq hb).2⟩, hk⟩
    · rename_i hg
      obtain ⟨y, h1, rfl⟩ := rv e; cases h1
      simp only [hg]
      exact hk
    · cases e
  · rename_i op t x y t2 ho; obtain ⟨r, h1, rfl⟩ := rp e; simp only [ho]; exact binS_eq h1 hp hk
  · rename_i op t x ho; obtain ⟨r, h1, rfl⟩ := rp e; simp only [ho]; exact unS_eq h1 hp hk
  · rename_i a b x ho; obtain ⟨r, h, h1, rfl⟩ := rh e; simp only [ho]; exact convertS_eq h1 hp hk
  · rename_i t x ho
    split at e
    · rename_i ht
      obtain ⟨y, h1, rfl⟩ := rv e; cases h1; simp only [ho]; exact ⟨ht, hk⟩
    · cases e
  · rename_i t l c ho; obtain ⟨r, h, h1, rfl⟩ := rh e; simp only [ho]; exact makeSliceS_eq h1 hp hk
  · rename_i t x lo hi ho; obtain ⟨r, h1, rfl⟩ := rp e; simp only [ho]; exact sliceS_eq h1 hp hk
  · rename_i t x f ho; obtain ⟨r, h1, rfl⟩ := rv e; simp only [ho]; exact fieldAddrS_eq h1 hk
  · rename_i t x f ho
    obtain ⟨r, h1, rfl⟩ := rv e
    simp only [ho]
    unfold fieldS at h1
    split at h1
    · rename_i hg
      obtain ⟨⟨of, ft⟩, h2, h3⟩ := Option.bind_eq_some_iff.1 h1
      simp only [hg]
      exact ⟨of, ft, h2, takeS_eq h3 hk⟩
    · cases h1
  · rename_i t x i ho; obtain ⟨r, h1, rfl⟩ := rp e; simp only [ho]; exact indexAddrS_eq h1 hp hk
  · rename_i t x i ho; obtain ⟨r, h1, rfl⟩ := rp e; simp only [ho]; exact indexS_eq h1 hp hk
  · rename_i t i ho
    obtain ⟨r, h1, rfl⟩ := rv e
    simp only [ho]
    unfold extractS at h1
    split at h1
    · rename_i hg
      simp only [hg]
      exact ⟨r, h1, hk⟩
    · cases h1
  · rename_i c ho
    obtain ⟨ce, ⟨args⟩, ts⟩ := c
    simp only [ho]
    cases ce with
    | value f => cases e
    | invoke r m => cases e
    | builtin b =>
      cases b with
      | len =>
        cases args with
        | nil => cases e
        | cons x xs =>
          obtain ⟨t, h2, e⟩ := Option.bind_eq_some_iff.1 e
          obtain ⟨r, h3, rfl⟩ := rv e
          exact ⟨x, rfl, lenS_eq h2 h3 hk⟩
      | append =>
        match args, e with
        | [x, y], e =>
          obtain ⟨r, h, h1, rfl⟩ := rh e
          exact ⟨x, y, rfl, appendS_eq h1 hp hk⟩
      | _ => cases e
  · cases e
end Go.Ev
