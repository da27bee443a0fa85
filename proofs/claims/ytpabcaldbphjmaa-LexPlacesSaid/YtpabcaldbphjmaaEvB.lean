/- What a function's code does to abstract values: a weakest precondition by recursion on the code. -/
import Derived.Test.YtpabcaldbphjmaaEvA
namespace Go.Ev
set_option linter.all false
open Go Go.RowKit

/-! ### Types -/
def fieldT (P : Program) (t f : Nat) : Option (Nat × TypeId) :=
  match P.underlying t with
  | some (.struct fs) => (fs[f]?).map fun x => (x.offset, x.type)
  | _ => none
def elemT (P : Program) (t : TypeId) : Option TypeId :=
  match P.underlying t with
  | some (.slice e) => some e
  | _ => none
def arrT (P : Program) (t : TypeId) : Option (Nat × TypeId) :=
  match P.underlying t with
  | some (.array n e) => some (n, e)
  | _ => none
def aggT (P : Program) (t : TypeId) : Option Bool :=
  (P.underlying t).map fun | .struct _ | .array _ _ => true | _ => false
def intT (P : Program) (t : TypeId) : Option IntKind :=
  match P.underlying t with
  | some (.int k) => some k
  | _ => none
def strT (P : Program) (t : TypeId) : Bool := match P.underlying t with | some .string => true | _ => false
def fltT (P : Program) (t : TypeId) : Option FloatKind :=
  match P.underlying t with
  | some (.float k) => some k
  | _ => none
def ifcT (P : Program) (t : TypeId) : Option Bool := (P.underlying t).map fun | .interface _ => true | _ => false
def sizeT (P : Program) (t : TypeId) : Option Nat := (P.info? t).map (·.size)
def bytesT (P : Program) (t : TypeId) : Option Nat := (P.info? t).map (·.bytes)
def zeroT (P : Program) (t : TypeId) : Option Value := (P.info? t).bind (·.zero)

/-- Where a struct's fields begin, and how many cells they fill. -/
def placesT (P : Program) (t : TypeId) : Option (List (Nat × Nat)) :=
  match P.underlying t with
  | some (.struct fs) => fs.toList.mapM fun f => (P.info? f.type).map fun i => (f.offset, i.size)
  | _ => none

/-! ### States -/
/-- What is known of a frame's n slots; the first entry of a slot counts. -/
structure Slots where
  n : Nat
  l : List (Nat × AV)
structure St where
  s : Slots
  h : List ABlk

def look : List (Nat × AV) → Nat → AV
  | [], _ => .bad
  | (d, r) :: l, t => if d = t then r else look l t
def ofV : Value → AV
  | .agg cs => .agg (cs.toList.map .v)
  | x => .v x
def get (s : Slots) : Operand → AV
  | .tmp t => look s.l t
  | .const x => ofV x
  | .func f => .v (.func (.func f) #[] #[])
  | .global _ => .bad
def putS (s : Slots) : Option Tmp → AV → Slots
  | none, _ => s
  | some d, r => if d < s.n then ⟨s.n, (d, r) :: s.l⟩ else s
/-- A value that fills one cell. -/
def oneA : AV → Bool
  | .v x => x.oneCell'
  | .agg _ | .tup _ | .bad => false
  | _ => true
def flat : AV → Option (List AV)
  | .agg cs => if cs.all oneA then some cs else none
  | x => if oneA x then some [x] else none
def setMany : List AV → Nat → List AV → List AV
  | l, _, [] => l
  | l, i, x :: xs => setMany (l.set i x) (i + 1) xs
def zeroCells (z : Value) : List AV := match z with | .agg cs => cs.toList.map .v | x => [.v x]

/-! ### Operations on scalars -/
def bytesOfA : List AV → Option (List UInt8)
  | [] => some []
  | .v (.int .u8 k) :: l => (bytesOfA l).map (UInt8.ofNat k.toNat :: ·)
  | _ :: _ => none
def byteC (b : UInt8) : AV := .v (.int .u8 b.toNat)

def intA (op : BinOp) (k : IntKind) (a b : Int) (K : AV → Prop) : Prop :=
  match op with
  | .add => K (.v (.int k (k.wrap (a + b))))
  | .sub => K (.v (.int k (k.wrap (a - b))))
  | .mul => K (.v (.int k (k.wrap (a * b))))
  | .quo => b ≠ 0 ∧ K (.v (.int k (k.wrap (a.tdiv b))))
  | .rem => b ≠ 0 ∧ K (.v (.int k (a.tmod b)))
  | .and => K (.v (.int k (k.wrap (BitVec.ofInt k.bits a &&& BitVec.ofInt k.bits b).toNat)))
  | .or => K (.v (.int k (k.wrap (BitVec.ofInt k.bits a ||| BitVec.ofInt k.bits b).toNat)))
  | .xor => K (.v (.int k (k.wrap (BitVec.ofInt k.bits a ^^^ BitVec.ofInt k.bits b).toNat)))
  | .andNot => K (.v (.int k (k.wrap (BitVec.ofInt k.bits a &&& ~~~BitVec.ofInt k.bits b).toNat)))
  | .eql => K (.v (.bool (a == b)))
  | .neq => K (.v (.bool (a != b)))
  | .lss => K (.v (.bool (decide (a < b))))
  | .leq => K (.v (.bool (decide (a ≤ b))))
  | .gtr => K (.v (.bool (decide (b < a))))
  | .geq => K (.v (.bool (decide (b ≤ a))))
  | _ => False
def shiftA (op : BinOp) (k : IntKind) (a b : Int) (K : AV → Prop) : Prop :=
  match op with
  | .shl => 0 ≤ b ∧ K (.v (.int k (k.wrap (a * 2 ^ min b.toNat k.bits))))
  | .shr => 0 ≤ b ∧ K (.v (.int k (a.fdiv (2 ^ min b.toNat k.bits))))
  | _ => False
def fltRes : Option Nat → AV
  | some r => .v (.float .f64 r)
  | none => .nan
def fltA (op : BinOp) (a b : Nat) (K : AV → Prop) : Prop :=
  match op with
  | .add => K (fltRes (FloatKind.f64.format.add a b))
  | .sub => K (fltRes (FloatKind.f64.format.sub a b))
  | .mul => K (fltRes (FloatKind.f64.format.mul a b))
  | .quo => K (fltRes (FloatKind.f64.format.div a b))
  | .eql => K (.v (.bool (FloatKind.f64.format.order a b == some .eq)))
  | .neq => K (.v (.bool (FloatKind.f64.format.order a b != some .eq)))
  | .lss => K (.v (.bool (FloatKind.f64.format.order a b == some .lt)))
  | .leq => K (.v (.bool (FloatKind.f64.format.order a b == some .lt || FloatKind.f64.format.order a b == some .eq)))
  | .gtr => K (.v (.bool (FloatKind.f64.format.order a b == some .gt)))
  | .geq => K (.v (.bool (FloatKind.f64.format.order a b == some .gt || FloatKind.f64.format.order a b == some .eq)))
  | _ => False
def nanA (op : BinOp) (K : AV → Prop) : Prop :=
  match op with
  | .add | .sub | .mul | .quo => K .nan
  | .neq => K (.v (.bool true))
  | .eql | .lss | .leq | .gtr | .geq => K (.v (.bool false))
  | _ => False
def strA (op : BinOp) (x y : ByteArray) (K : AV → Prop) : Prop :=
  match op with
  | .add => x.data.toList.length + y.data.toList.length ≤ 9223372036854775807 ∧ K (.v (.string ⟨(x.data.toList ++ y.data.toList).toArray⟩))
  | .eql => K (.v (.bool (x.data.toList == y.data.toList)))
  | .neq => K (.v (.bool (!(x.data.toList == y.data.toList))))
  | .lss => K (.v (.bool (Op.bytesLess x.data.toList y.data.toList)))
  | .leq => K (.v (.bool (Op.bytesLess x.data.toList y.data.toList || x.data.toList == y.data.toList)))
  | .gtr => K (.v (.bool !(Op.bytesLess x.data.toList y.data.toList || x.data.toList == y.data.toList)))
  | .geq => K (.v (.bool !Op.bytesLess x.data.toList y.data.toList))
  | _ => False
def boolA (op : BinOp) (a b : Bool) (K : AV → Prop) : Prop :=
  match op with
  | .eql => K (.v (.bool (a == b)))
  | .neq => K (.v (.bool (!(a == b))))
  | _ => False
/-- Is an interface value nil? -/
def nilA (op : BinOp) (same : Bool) (K : AV → Prop) : Prop :=
  match op with
  | .eql => K (.v (.bool same))
  | .neq => K (.v (.bool (!same)))
  | _ => False
def isConst : Operand → Bool
  | .const _ => true
  | _ => false
def binA (P : Program) (op : BinOp) (t : TypeId) (ox oy : Operand) (x y : AV) (K : AV → Prop) : Prop :=
  match x, y with
  | .v (.int k a), .v (.int k' b) => match op with
    | .shl | .shr => shiftA op k a b K
    | _ => k = k' ∧ intA op k a b K
  | .v (.float .f64 a), .v (.float .f64 b) => fltA op a b K
  | .nan, .v (.float .f64 _) | .v (.float .f64 _), .nan | .nan, .nan => nanA op K
  | .v (.string a), .v (.string b) => strA op a b K
  | .v (.bool a), .v (.bool b) => P.underlying t = some .bool ∧ boolA op a b K
  | .v .nilIface, .v .nilIface => (isConst ox || isConst oy) = true ∧ ifcT P t = some true ∧ nilA op true K
  | .ifc _ _, .v .nilIface | .v .nilIface, .ifc _ _ => ifcT P t = some true ∧ nilA op false K
  | _, _ => False
def unA (op : UnOp) (x : AV) (K : AV → Prop) : Prop :=
  match op, x with
  | .not, .v (.bool b) => K (.v (.bool (!b)))
  | .neg, .v (.int k n) => K (.v (.int k (k.wrap (0 - n))))
  | .neg, .v (.float .f64 b) => K (.v (.float .f64 (Op.negFloat .f64 b)))
  | _, _ => False

/-! ### Memory -/
def takeA (P : Program) (t : TypeId) (cs : List AV) (K : AV → Prop) : Prop :=
  match aggT P t with
  | some true => ∃ n, sizeT P t = some n ∧ n ≤ cs.length ∧ K (.agg (cs.take n))
  | some false => ∃ x, cs[0]? = some x ∧ K x
  | none => False
def loadA (P : Program) (t : TypeId) (s : St) (a : AV) (K : AV → Prop) : Prop :=
  match a with
  | .ptr i ver off => ∃ k, s.h[i]? = some k ∧ ver = k.ver ∧ takeA P t (k.cells.drop off) K
  | .ela _ cs => takeA P t cs K
  | _ => False
def storeA (P : Program) (t : TypeId) (s : St) (a x : AV) (K : St → Prop) : Prop :=
  match a with
  | .ptr i ver off => ∃ k cs, s.h[i]? = some k ∧ ver = k.ver ∧ flat x = some cs ∧ sizeT P t = some cs.length ∧ off + cs.length ≤ k.cells.length ∧
      K { s with h := s.h.set i { k with cells := setMany k.cells off cs } }
  | _ => False
/-- The block is there, and was not made anew since. -/
def liveA (s : St) (i ver : Nat) : Prop := ∃ k, s.h[i]? = some k ∧ ver = k.ver
def fieldAddrA (P : Program) (t : TypeId) (s : St) (a : AV) (f : Nat) (K : AV → Prop) : Prop :=
  ∃ o ft n, fieldT P t f = some (o, ft) ∧ sizeT P ft = some n ∧ n ≠ 0 ∧
    match a with
    | .ptr i ver off => liveA s i ver ∧ K (.ptr i ver (off + o))
    | .ela b cs => K (.ela b (cs.drop o))
    | _ => False
def indexAddrA (P : Program) (t : TypeId) (s : St) (x ix : AV) (K : AV → Prop) : Prop :=
  match ix with
  | .v (.int _ i) =>
    match x with
    | .sl b n _ cs => ∃ e sz, elemT P t = some e ∧ sizeT P e = some sz ∧ 0 ≤ i ∧ i < n ∧ K (.ela b (cs.drop (i.toNat * sz)))
    | .own j ver n => ∃ k e sz, s.h[j]? = some k ∧ ver = k.ver ∧ elemT P t = some e ∧ sizeT P e = some sz ∧ 0 ≤ i ∧ i < n ∧ K (.ptr j ver (i.toNat * sz))
    | .ptr j ver off => liveA s j ver ∧ ∃ n e sz, arrT P t = some (n, e) ∧ sizeT P e = some sz ∧ 0 ≤ i ∧ i < n ∧ K (.ptr j ver (off + i.toNat * sz))
    | _ => False
  | _ => False
/-- A byte of a string. -/
def sAt (s : ByteArray) (i : Nat) : Int := ((s.data.toList[i]?).getD 0).toNat
def indexA (P : Program) (t : TypeId) (x ix : AV) (K : AV → Prop) : Prop :=
  match ix with
  | .v (.int _ i) =>
    match x with
    | .v (.string s) => strT P t = true ∧ 0 ≤ i ∧ i < (s.data.toList.length : Int) ∧ K (.v (.int .u8 (sAt s i.toNat)))
    | .agg cs => ∃ n e sz, arrT P t = some (n, e) ∧ sizeT P e = some sz ∧ 0 ≤ i ∧ i < n ∧ takeA P e (cs.drop (i.toNat * sz)) K
    | _ => False
  | _ => False
def boundA (x : Option AV) (d : Nat) (K : Nat → Prop) : Prop :=
  match x with
  | none => K d
  | some (.v (.int _ i)) => 0 ≤ i ∧ K i.toNat
  | _ => False
def sliceA (P : Program) (t : TypeId) (s : St) (x : AV) (lo hi mx : Option AV) (K : AV → Prop) : Prop :=
  mx = none ∧
  match x with
  | .v (.string b) => strT P t = true ∧ boundA hi b.data.toList.length fun h => h ≤ b.data.toList.length ∧ boundA lo 0 fun l => l ≤ h ∧ K (.v (.string ⟨((b.data.toList.take h).drop l).toArray⟩))
  | .sl b n m cs => ∃ e sz, elemT P t = some e ∧ sizeT P e = some sz ∧ cs.length ≤ m * sz ∧ boundA hi n fun h => h ≤ m ∧ boundA lo 0 fun l => l ≤ h ∧ K (.sl b (h - l) (m - l) (cs.drop (l * sz)))
  | .own i ver n => ∃ e k sz, elemT P t = some e ∧ sizeT P e = some sz ∧ s.h[i]? = some k ∧ ver = k.ver ∧ boundA hi n fun h => h ≤ n ∧ boundA lo 0 fun l => l ≤ h ∧ l = 0 ∧ K (.own i ver h)
  | .v (.slice none 0 0) => ∃ e sz, elemT P t = some e ∧ sizeT P e = some sz ∧ boundA hi 0 fun h => h ≤ 0 ∧ boundA lo 0 fun l => l ≤ h ∧ K (.v (.slice none 0 0))
  | _ => False
/-- The cells of a source of an append (or a copy): n elements. -/
def srcA (s : St) (sz : Nat) (x : AV) (K : Nat → List AV → Prop) : Prop :=
  match x with
  | .sl _ n _ cs => n * sz ≤ cs.length ∧ K n (cs.take (n * sz))
  | .own i ver n => ∃ k, s.h[i]? = some k ∧ ver = k.ver ∧ n * sz ≤ k.cells.length ∧ K n (k.cells.take (n * sz))
  | .v (.slice none 0 0) => K 0 []
  | .v (.string b) => sz = 1 ∧ K b.data.toList.length (b.data.toList.map byteC)
  | _ => False
def ontoA (s : St) (e sz by' n : Nat) (new : List AV) (K : AV → St → Prop) : AV → Prop
  | .v (.slice none 0 0) => (n = 0 ∧ K (.v (.slice none 0 0)) s) ∨ (0 < n ∧ n * by' ≤ 140737488355328 ∧ K (.own s.h.length 0 n) { s with h := s.h ++ [⟨0, e, new⟩] })
  | .own i ver m => ∃ k, s.h[i]? = some k ∧ ver = k.ver ∧ k.e = e ∧ m * sz ≤ k.cells.length ∧
      ((n = 0 ∧ K (.own i ver m) s) ∨ ((m + n) * by' ≤ 140737488355328 ∧ K (.own i (ver + 1) (m + n)) { s with h := s.h.set i ⟨ver + 1, e, k.cells.take (m * sz) ++ new⟩ }))
  | _ => False
def appendA (P : Program) (ts : Array TypeId) (s : St) (x y : AV) (K : AV → St → Prop) : Prop :=
  ∃ t t2 e sz by' z, zeroT P e = some z ∧ (zeroCells z).length = sz ∧ ts[0]? = some t ∧ ts[1]? = some t2 ∧ intT P t2 = none ∧ (P.underlying t2).isSome = true ∧ elemT P t = some e ∧ sizeT P e = some sz ∧ bytesT P e = some by' ∧ 0 < sz ∧ 0 < by' ∧
    srcA s sz y fun n new => new.all oneA = true ∧ ontoA s e sz by' n new K x
def fillA (place : Nat → Option (Nat × Nat)) (get : Operand → AV) : List (Nat × Operand) → List AV → (List AV → Prop) → Prop
  | [], l, K => K l
  | (i, x) :: r, l, K => ∃ o n cs, place i = some (o, n) ∧ flat (get x) = some cs ∧ cs.length = n ∧ o + n ≤ l.length ∧ fillA place get r (setMany l o cs) K
def buildA (P : Program) (t : TypeId) (parts : Array (Nat × Operand)) (get : Operand → AV) (K : AV → Prop) : Prop :=
  ∃ z, zeroT P t = some z ∧
    ((∃ pl, placesT P t = some pl ∧ fillA (pl[·]?) get parts.toList (zeroCells z) fun l => K (.agg l)) ∨
     (∃ n e sz, arrT P t = some (n, e) ∧ sizeT P e = some sz ∧ fillA (fun i => some (i * sz, sz)) get parts.toList (zeroCells z) fun l => K (.agg l)))
def rowsA (z : Value) (n : Nat) : List AV := (List.replicate n (zeroCells z)).flatten
def buildSliceA (P : Program) (t : TypeId) (len : Nat) (parts : Array (Nat × Operand)) (get : Operand → AV) (s : St) (K : AV → St → Prop) : Prop :=
  ∃ e sz z, elemT P t = some e ∧ sizeT P e = some sz ∧ zeroT P e = some z ∧ (zeroCells z).length = sz ∧ 0 < sz ∧ len * sz ≤ 16777216 ∧
    fillA (fun i => some (i * sz, sz)) get parts.toList (rowsA z len) fun l => K (.own s.h.length 0 len) { s with h := s.h ++ [⟨0, e, l⟩] }
def makeSliceA (P : Program) (t : TypeId) (len cap : AV) (s : St) (K : AV → St → Prop) : Prop :=
  match len, cap with
  | .v (.int _ n), .v (.int _ c) => ∃ e sz by' z, elemT P t = some e ∧ sizeT P e = some sz ∧ bytesT P e = some by' ∧ zeroT P e = some z ∧ (zeroCells z).length = sz ∧ 0 < sz ∧
      0 ≤ n ∧ n ≤ c ∧ c < 9223372036854775808 ∧ c * by' ≤ 140737488355328 ∧ K (.own s.h.length 0 n.toNat) { s with h := s.h ++ [⟨0, e, rowsA z c.toNat⟩] }
  | _, _ => False
def convertA (P : Program) (src dst : TypeId) (x : AV) (s : St) (K : AV → St → Prop) : Prop :=
  match x with
  | .v (.int _ n) => match P.underlying dst with
    | some (.int k) => (P.underlying src).isSome = true ∧ K (.v (.int k (k.wrap n))) s
    | some (.float .f64) => (P.underlying src).isSome = true ∧ K (.v (.float .f64 (FloatKind.f64.nearest n))) s
    | some .string => (P.underlying src).isSome = true ∧ K (.v (.string (Utf8.encode n))) s
    | _ => False
  | .v (.string b) => match P.underlying dst with
    | some .string => (P.underlying src).isSome = true ∧ K x s
    | some (.slice e) => strT P src = true ∧ intT P e = some .u8 ∧ sizeT P e = some 1 ∧ b.data.toList.length < 4611686018427387904 ∧ K (.own s.h.length 0 b.data.toList.length) { s with h := s.h ++ [⟨0, e, b.data.toList.map byteC⟩] }
    | _ => False
  | .sl _ n _ cs => strT P dst = true ∧ (elemT P src).bind (intT P) = some .u8 ∧ n ≤ cs.length ∧ ∃ l, bytesOfA (cs.take n) = some l ∧ K (.v (.string ⟨l.toArray⟩)) s
  | .own i ver n => ∃ k, s.h[i]? = some k ∧ ver = k.ver ∧ strT P dst = true ∧ (elemT P src).bind (intT P) = some .u8 ∧ n ≤ k.cells.length ∧ ∃ l, bytesOfA (k.cells.take n) = some l ∧ K (.v (.string ⟨l.toArray⟩)) s
  | .v (.slice none 0 0) => strT P dst = true ∧ (elemT P src).bind (intT P) = some .u8 ∧ K (.v (.string ⟨#[]⟩)) s
  | _ => False
def lenA (P : Program) (ts : Array TypeId) (s : St) (x : AV) (K : AV → Prop) : Prop :=
  ∃ t, ts[0]? = some t ∧
    match x with
    | .v (.string b) => strT P t = true ∧ K (.v (.int .i64 b.data.toList.length))
    | .v (.slice none 0 0) => (elemT P t).isSome = true ∧ K (.v (.int .i64 0))
    | .sl _ n _ _ => (elemT P t).isSome = true ∧ K (.v (.int .i64 n))
    | .own i ver n => (elemT P t).isSome = true ∧ liveA s i ver ∧ K (.v (.int .i64 n))
    | _ => False

/-! ### What is handed over or handed back -/
mutual
/-- y is x with the call's own rows told as frozen ones. -/
def fz (P : Program) (H : List ABlk) (b0 : Bool) : AV → AV → Prop
  | .v a, x => x = .v a
  | .nan, x => x = .nan
  | .bad, _ => True
  | .ela _ _, _ => False
  | .own _ _ _, _ => False
  | .ptr _ _ _, _ => False
  | .agg ys, x => ∃ xs, x = .agg xs ∧ fzL P H b0 ys xs
  | .tup ys, x => ∃ xs, x = .tup xs ∧ fzL P H b0 ys xs
  | .ifc t y, x => ∃ x', x = .ifc t x' ∧ fz P H b0 y x'
  | .sl b n m ys, x => x = .sl b n m ys ∨ (b = b0 ∧ ∃ i k xs, x = .own i k.ver n ∧ H[i]? = some k ∧ n ≤ m ∧ (m = n ∨ (0 < P.cellsOf k.e ∧ m * P.cellsOf k.e ≤ k.cells.length)) ∧ xs <+: k.cells ∧ fzL P H b0 ys xs)
def fzL (P : Program) (H : List ABlk) (b0 : Bool) : List AV → List AV → Prop
  | [], xs => xs = []
  | y :: ys, xs => ∃ x xs', xs = x :: xs' ∧ fz P H b0 y x ∧ fzL P H b0 ys xs'
end
mutual
/-- No borrowed memory in it. -/
def noBor : AV → Bool
  | .sl b _ _ cs => !b && noBorL cs
  | .ela b cs => !b && noBorL cs
  | .agg cs => noBorL cs
  | .tup cs => noBorL cs
  | .ifc _ x => noBor x
  | _ => true
def noBorL : List AV → Bool
  | [] => true
  | x :: xs => noBor x && noBorL xs
end

mutual
/-- It leads to none of the call's own blocks. -/
def treeA : AV → Bool
  | .own _ _ _ => false
  | .ptr _ _ _ => false
  | .agg cs => treeL cs
  | .tup cs => treeL cs
  | .ifc _ x => treeA x
  | _ => true
def treeL : List AV → Bool
  | [] => true
  | x :: xs => treeA x && treeL xs
end

/-- The context of a call: blocks that data which isn't borrowed keeps off (G), blocks of what is borrowed (B). -/
def cx0 (P : Program) (G B : Nat → Prop) (w : World) : Cx :=
  { P, w, ok := fun b r => r < w.heap.size ∧ (if b then B r else ¬ G r), cur := fun _ => none }
/-- THE CONTRACT: whatever the memory, the call returns what res says, and writes nothing that was there. -/
def Ev (P : Program) (f : FuncId) (args : List AV) (res : AV) : Prop :=
  ∀ (G B : Nat → Prop) (w : World) (vs : Array Value), (∀ r, G r → r < w.heap.size) → relL args (cx0 P G B w) vs.toList →
    Calls P f vs w fun e w' => ∃ u, e = .returned u ∧ rel res (cx0 P G B w') u ∧ Below w.heap.size w w'

/-! ### Operations -/
def callA (P : Program) (s : St) (g : FuncId) (xs : List AV) (K : AV → Prop) : Prop :=
  ∃ ys r, ((ys = xs ∧ treeL xs = true) ∨ (fzL P s.h true ys xs ∧ noBor r = true)) ∧ Ev P g ys r ∧ K r
def aop (P : Program) (o : Oper) (s : St) (K : St → Prop) : Prop :=
  let put (r : AV) : Prop := K { s with s := putS s.s o.dst r }
  let putH (r : AV) (s' : St) : Prop := K { s' with s := putS s'.s o.dst r }
  match o.op with
  | .move x | .assign x => put (get s.s x)
  | .pick c a b => match get s.s c with
    | .v (.bool z) => (z = true → put (get s.s a)) ∧ (z = false → put (get s.s b))
    | _ => False
  | .alloc t => ∃ z, zeroT P t = some z ∧ K { s := putS s.s o.dst (.ptr s.h.length 0 0), h := s.h ++ [⟨0, t, zeroCells z⟩] }
  | .box t x => ∃ cs, flat (get s.s x) = some cs ∧ K { s := putS s.s o.dst (.ptr s.h.length 0 0), h := s.h ++ [⟨0, t, cs⟩] }
  | .build t ps => buildA P t ps (get s.s) put
  | .buildSlice t n ps => buildSliceA P t n ps (get s.s) s putH
  | .load t a => loadA P t s (get s.s a) put
  | .store t a x => storeA P t s (get s.s a) (get s.s x) fun s' => K { s' with s := putS s'.s o.dst .bad }
  | .nilCheck x => match get s.s x with
    | .ptr i ver off => liveA s i ver ∧ put (.ptr i ver off)
    | .ela b cs => put (.ela b cs)
    | _ => False
  | .binOp op t x y _ => binA P op t x y (get s.s x) (get s.s y) put
  | .unOp op _ x => unA op (get s.s x) put
  | .convert a b x => convertA P a b (get s.s x) s putH
  | .makeInterface t x => ifcT P t = some false ∧ put (.ifc t (get s.s x))
  | .makeSlice t l c => makeSliceA P t (get s.s l) (get s.s c) s putH
  | .slice t x lo hi mx => sliceA P t s (get s.s x) (lo.map (get s.s)) (hi.map (get s.s)) (mx.map (get s.s)) put
  | .fieldAddr t x f => fieldAddrA P t s (get s.s x) f put
  | .field t x f => match get s.s x with
    | .agg cs => ∃ o ft, fieldT P t f = some (o, ft) ∧ takeA P ft (cs.drop o) put
    | _ => False
  | .indexAddr t x i => indexAddrA P t s (get s.s x) (get s.s i) put
  | .index t x i => indexA P t (get s.s x) (get s.s i) put
  | .extract t i => match get s.s t with
    | .tup cs => ∃ x, cs[i]? = some x ∧ put x
    | _ => False
  | .call c => match c.callee with
    | .builtin .len => ∃ x, c.args[0]? = some x ∧ lenA P c.argTypes s (get s.s x) put
    | .builtin .append => ∃ x y, c.args = #[x, y] ∧ appendA P c.argTypes s (get s.s x) (get s.s y) putH
    | .value (.func g) => (∃ fn, P.funcs[g]? = some fn ∧ fn.body.isSome = true ∧ (fn.name == "runtime.NumGoroutine") = false) ∧ callA P s g (c.args.toList.map (get s.s)) put
    | _ => False
  | _ => False

def guardA (ops : Array Oper) (s : St) (j : Nat) : AV :=
  match (ops[j]?).bind (·.dst) with
  | some t => look s.s.l t
  | none => .bad
def aop1 (P : Program) (ops : Array Oper) (o : Oper) (s : St) (K : St → Prop) : Prop :=
  match o.guard with
  | none => aop P o s K
  | some (j, want) => match guardA ops s j with
    | .v (.bool z) => (z = want → aop P o s K) ∧ (z ≠ want → K { s with s := putS s.s o.dst .bad })
    | _ => False
def aops (P : Program) (ops : Array Oper) : List Oper → (St → Prop) → St → Prop
  | [], K, s => K s
  | o :: os, K, s => aop1 P ops o s (aops P ops os K)

/-! ### Code -/
abbrev Post := Exit → St → Prop
def thenA (K : St → Prop) (Q : Post) : Post
  | .normal, s => K s
  | e, s => Q e s
def inBlockA (id : Nat) (Q : Post) : Post
  | .exit j, s => if j = id then Q .normal s else Q (.exit j) s
  | e, s => Q e s
/-- All that l2 says l says. -/
def allIn (l : List (Nat × AV)) : List (Nat × AV) → Prop
  | [] => True
  | (d, r) :: l2 => look l d = r ∧ allIn l l2
mutual
/-- It leads to none but the first n blocks. -/
def okRef (n : Nat) : AV → Bool
  | .own i _ _ => decide (i < n)
  | .ptr i _ _ => decide (i < n)
  | .agg cs => okRefL n cs
  | .tup cs => okRefL n cs
  | .ifc _ x => okRef n x
  | _ => true
def okRefL (n : Nat) : List AV → Bool
  | [] => true
  | x :: xs => okRef n x && okRefL n xs
end
def okRefB (n : Nat) : List ABlk → Bool
  | [] => true
  | k :: ks => okRefL n k.cells && okRefB n ks
/-- Less is known: of the slots, and the first n blocks alone. -/
def St.weak (s s2 : St) : Prop :=
  s2.s.n = s.s.n ∧ allIn s.s.l s2.s.l ∧ (s2.h = s.h ∨ (s2.h = s.h.take s2.h.length ∧ okRefL s2.h.length (s2.s.l.map (·.2)) = true ∧ okRefB s2.h.length s2.h = true))
def awp (P : Program) : Code → Post → St → Prop
  | .skip, Q, s => Q .normal s
  | .region _ ops draw, Q, s => draw = false ∧ aops P ops ops.toList (fun s' => Q .normal s') s
  | .seq a b, Q, s => awp P a (thenA (awp P b Q) Q) s
  | .cond c x y, Q, s => match get s.s c with
    | .v (.bool z) => (z = true → awp P x Q s) ∧ (z = false → awp P y Q s)
    | _ => False
  | .block id c, Q, s => awp P c (inBlockA id Q) s
  | .loop c, Q, s => ∃ (I : St → Prop) (μ : St → Nat) (s0 : St), s.weak s0 ∧ I s0 ∧ ∀ s1, I s1 → awp P c (thenA (fun s2 => ∃ s3, s2.weak s3 ∧ I s3 ∧ μ s3 < μ s1) Q) s1
  | .exit id, Q, s => Q (.exit id) s
  | .ret, Q, s => Q .ret s
  | .label _, Q, s => Q .normal s
  | .goto l, Q, s => Q (.goto l) s
  | _, _, _ => False
/-- A function's results out of its last state. -/
def resA (P : Program) : List ResultVar → St → (List AV → Prop) → Prop
  | [], _, K => K []
  | .tmp t :: rs, s, K => resA P rs s fun xs => K (look s.s.l t :: xs)
  | .cell p t :: rs, s, K => loadA P t s (look s.s.l p) fun x => resA P rs s fun xs => K (x :: xs)
def oneOrTup : List AV → AV
  | [x] => x
  | xs => .tup xs
def endA (P : Program) (rs : List ResultVar) (res : AV) : Post
  | .normal, s | .ret, s => resA P rs s fun xs => fz P s.h false res (oneOrTup xs)
  | _, _ => False
/-- The state in which a call begins. -/
def idxL : Nat → List AV → List (Nat × AV)
  | _, [] => []
  | i, x :: xs => (i, x) :: idxL (i + 1) xs
def startA (args : List AV) (n : Nat) : St := { s := ⟨args.length + (n - args.length), idxL 0 args⟩, h := [] }
end Go.Ev
