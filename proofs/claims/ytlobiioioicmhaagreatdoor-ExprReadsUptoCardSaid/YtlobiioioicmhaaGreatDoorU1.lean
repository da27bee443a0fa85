/- The evaluator: abstract values, and code carried out on them. -/
import Derived.Calls
import Derived.Orders
import Derived.Below
import Derived.Laws.Sem
import Derived.Laws.World
import Derived.Laws.Tables
import Derived.Laws.Cells
import Derived.Laws.Entries
import Derived.Laws.CopyRow
import Derived.Laws.MakeOwn
import Derived.Laws.AppendOwn
import Derived.ArgAppend
import Derived.Laws.Strings
import Derived.Laws.BytesString
/- Abstract values, how they stand to the machine's values, and how that is kept when the world moves on. -/
namespace Go.Ev
set_option linter.all false
open Go Go.RowKit

/-- What is known of a value. `sl b n m cs`: a slice of n elements, m of them (those behind its end too) known, their cells cs; b: its memory is borrowed. `ela`: an address in such memory. `own i ver n`: the first n elements of the block i of the call's own. `ptr i ver off`: an address in it. -/
inductive AV where
  | v (x : Value)
  | nan
  | sl (b : Bool) (n m : Nat) (cs : List AV)
  | ela (b : Bool) (cs : List AV)
  | agg (cs : List AV)
  | tup (cs : List AV)
  | ifc (t : TypeId) (x : AV)
  | own (i ver n : Nat)
  | ptr (i ver off : Nat)
  | clo (f : FuncId) (fs cs : List AV)
  | bad
  deriving Inhabited

/-- A block of the call's own: how often it was remade, its elements' type, its cells. -/
structure ABlk where
  ver : Nat
  e : TypeId
  cells : List AV
  deriving Inhabited

def IsNaN (b : Nat) : Prop := (FloatKind.f64.decode b).isNaN = true

structure Cx where
  P : Program
  ok : Bool → Nat → Prop
  cur : Nat → Option (ABlk × Nat)
  w : World

/-- Without the blocks of the call's own. -/
def Cx.shut (c : Cx) : Cx := { c with cur := fun _ => none }

mutual
def rel : AV → Cx → Value → Prop
  | .v x, _, u => u = x
  | .nan, _, u => ∃ b, u = .float .f64 b ∧ IsNaN b
  | .sl b n m cs, c, u => ∃ r off cap, u = .slice (some ⟨r, off, none⟩) n cap ∧ n ≤ m ∧ m ≤ cap ∧ c.ok b r ∧ relAt cs c.shut r off
  | .ela b cs, c, u => ∃ r off, u = .pointer (some ⟨r, off, none⟩) ∧ c.ok b r ∧ relAt cs c.shut r off
  | .agg cs, c, u => ∃ us, u = .agg us ∧ relL cs c us.toList
  | .tup cs, c, u => ∃ us, u = .tuple us ∧ relL cs c us.toList
  | .ifc t x, c, u => ∃ y, u = .iface t y ∧ rel x c y
  | .own i ver n, c, u => ∃ k β, c.cur i = some (k, β) ∧ ver ≤ k.ver ∧ (∃ a n' cap', u = .slice a n' cap') ∧ (ver = k.ver → ∃ cap, u = .slice (some ⟨β, 0, none⟩) n cap ∧ n ≤ cap ∧ c.w.shape? β = some (k.e, cap * c.P.cellsOf k.e))
  | .ptr i ver off, c, u => ∃ k β, c.cur i = some (k, β) ∧ ver ≤ k.ver ∧ (∃ a, u = .pointer a) ∧ (ver = k.ver → u = .pointer (some ⟨β, off, none⟩))
  | .clo f fs cs, c, u => ∃ a b, u = .func (.func f) a b ∧ relL fs c a.toList ∧ relL cs c b.toList
  | .bad, _, _ => True
def relL : List AV → Cx → List Value → Prop
  | [], _, us => us = []
  | x :: xs, c, us => ∃ u us', us = u :: us' ∧ rel x c u ∧ relL xs c us'
def relAt : List AV → Cx → Nat → Nat → Prop
  | [], _, _, _ => True
  | x :: xs, c, r, off => (∃ u, c.w.cell? ⟨r, off, none⟩ = some u ∧ rel x c u) ∧ relAt xs c r (off + 1)
end

/-- All that stood in c stands in c'. -/
structure Cx.le (c c' : Cx) : Prop where
  P : c'.P = c.P
  ok : ∀ b r, c.ok b r → c'.ok b r
  cell : ∀ b r off u, c.ok b r → c.w.cell? ⟨r, off, none⟩ = some u → c'.w.cell? ⟨r, off, none⟩ = some u
  cur : ∀ i k β, c.cur i = some (k, β) → ∃ k' β', c'.cur i = some (k', β') ∧ k.ver ≤ k'.ver ∧ (k.ver = k'.ver → β' = β ∧ k'.e = k.e ∧ c'.w.shape? β = c.w.shape? β)

theorem Cx.le.shut {c c' : Cx} (h : c.le c') : c.shut.le c'.shut := ⟨h.P, h.ok, h.cell, fun _ _ _ hk => by cases hk⟩
mutual
theorem rel_mono {c c' : Cx} (h : c.le c') : ∀ (x : AV) (u : Value), rel x c u → rel x c' u
  | .v _, _, hr => hr
  | .nan, _, hr => hr
  | .sl b n m cs, u, hr => by
    simp only [rel] at hr ⊢
    obtain ⟨r, off, cap, h1, h2, h3, h4, h5⟩ := hr
    exact ⟨r, off, cap, h1, h2, h3, h.ok _ _ h4, relAt_mono h.shut cs r off ⟨b, h4⟩ h5⟩
  | .ela b cs, u, hr => by
    simp only [rel] at hr ⊢
    obtain ⟨r, off, h1, h4, h5⟩ := hr
    exact ⟨r, off, h1, h.ok _ _ h4, relAt_mono h.shut cs r off ⟨b, h4⟩ h5⟩
  | .agg cs, u, hr => by
    simp only [rel] at hr ⊢
    obtain ⟨us, h1, h2⟩ := hr
    exact ⟨us, h1, relL_mono h cs _ h2⟩
  | .tup cs, u, hr => by
    simp only [rel] at hr ⊢
    obtain ⟨us, h1, h2⟩ := hr
    exact ⟨us, h1, relL_mono h cs _ h2⟩
  | .ifc t x, u, hr => by
    simp only [rel] at hr ⊢
    obtain ⟨y, h1, h2⟩ := hr
    exact ⟨y, h1, rel_mono h x _ h2⟩
  | .own i ver n, u, hr => by
    simp only [rel] at hr ⊢
    obtain ⟨k, β, h1, h2, h0, h3⟩ := hr
    obtain ⟨k', β', h1', h2', h3'⟩ := h.cur i k β h1
    refine ⟨k', β', h1', by omega, h0, fun e => ?_⟩
    obtain ⟨rfl, he, hs⟩ := h3' (by omega)
    obtain ⟨cap, hu, hn, hc⟩ := h3 (by omega)
    exact ⟨cap, hu, hn, by rw [hs, hc, he, h.P]⟩
  | .ptr i ver off, u, hr => by
    simp only [rel] at hr ⊢
    obtain ⟨k, β, h1, h2, h0, h3⟩ := hr
    obtain ⟨k', β', h1', h2', h3'⟩ := h.cur i k β h1
    refine ⟨k', β', h1', by omega, h0, fun e => ?_⟩
    obtain ⟨rfl, he, hs⟩ := h3' (by omega)
    exact h3 (by omega)
  | .clo f fs cs, u, hr => by
    simp only [rel] at hr ⊢
    obtain ⟨a, b, h1, h2, h3⟩ := hr
    exact ⟨a, b, h1, relL_mono h fs _ h2, relL_mono h cs _ h3⟩
  | .bad, _, _ => by simp only [rel]
theorem relL_mono {c c' : Cx} (h : c.le c') : ∀ (xs : List AV) (us : List Value), relL xs c us → relL xs c' us
  | [], _, hr => hr
  | x :: xs, us, hr => by
    simp only [relL] at hr ⊢
    obtain ⟨u, us', h1, h2, h3⟩ := hr
    exact ⟨u, us', h1, rel_mono h x _ h2, relL_mono h xs _ h3⟩
theorem relAt_mono {c c' : Cx} (h : c.le c') : ∀ (xs : List AV) (r off : Nat), (∃ b, c.ok b r) → relAt xs c r off → relAt xs c' r off
  | [], _, _, _, _ => by simp only [relAt]
  | x :: xs, r, off, hb, hr => by
    simp only [relAt] at hr ⊢
    obtain ⟨⟨u, h1, h2⟩, h3⟩ := hr
    obtain ⟨b, hb'⟩ := hb
    exact ⟨⟨u, h.cell b r off u hb' h1, rel_mono h x _ h2⟩, relAt_mono h xs r _ ⟨b, hb'⟩ h3⟩
end

theorem Cx.le_refl (c : Cx) : c.le c := ⟨rfl, fun _ _ h => h, fun _ _ _ _ _ h => h, fun i k β h => ⟨k, β, h, Nat.le_refl _, fun _ => ⟨rfl, rfl, rfl⟩⟩⟩
theorem Cx.le_trans {a b c : Cx} (h : a.le b) (g : b.le c) : a.le c :=
  ⟨g.P.trans h.P, fun b r x => g.ok b r (h.ok b r x), fun b r off u hb hu => g.cell b r off u (h.ok b r hb) (h.cell b r off u hb hu), fun _ _ _ hk => by
    obtain ⟨k1, β1, h1, h2, h3⟩ := h.cur _ _ _ hk
    obtain ⟨k2, β2, g1, g2, g3⟩ := g.cur _ k1 β1 h1
    refine ⟨k2, β2, g1, by omega, fun e => ?_⟩
    obtain ⟨rfl, e1, s1⟩ := h3 (by omega)
    obtain ⟨rfl, e2, s2⟩ := g3 (by omega)
    exact ⟨rfl, e2.trans e1, s2.trans s1⟩⟩

theorem relL_length {c : Cx} : ∀ {xs : List AV} {us : List Value}, relL xs c us → us.length = xs.length
  | [], us, h => by simp only [relL] at h; subst h; rfl
  | x :: xs, us, h => by
    simp only [relL] at h
    obtain ⟨u, us', rfl, _, h3⟩ := h
    simp [relL_length h3]
theorem relL_get {c : Cx} : ∀ {xs : List AV} {us : List Value}, relL xs c us → ∀ (j : Nat) x, xs[j]? = some x → ∃ u, us[j]? = some u ∧ rel x c u
  | [], _, _, j, x, h => by simp at h
  | y :: xs, us, h, j, x, hj => by
    simp only [relL] at h
    obtain ⟨u, us', rfl, h2, h3⟩ := h
    cases j with
    | zero => simp at hj; subst hj; exact ⟨u, rfl, h2⟩
    | succ j => simpa using relL_get h3 j x (by simpa using hj)
theorem relL_of_get {c : Cx} : ∀ {xs : List AV} {us : List Value}, us.length = xs.length → (∀ (j : Nat) x, xs[j]? = some x → ∃ u, us[j]? = some u ∧ rel x c u) → relL xs c us
  | [], us, hl, _ => by simp only [relL]; exact List.length_eq_zero_iff.1 hl
  | x :: xs, [], hl, _ => by simp at hl
  | x :: xs, u :: us, hl, h => by
    simp only [relL]
    refine ⟨u, us, rfl, ?_, relL_of_get (by simpa using hl) fun j y hy => by simpa using h (j + 1) y (by simpa using hy)⟩
    obtain ⟨u', hu', hr⟩ := h 0 x rfl
    simp at hu'; subst hu'; exact hr
theorem relL_append {c : Cx} {xs ys : List AV} {us vs : List Value} (h : relL xs c us) (g : relL ys c vs) : relL (xs ++ ys) c (us ++ vs) := by
  induction xs generalizing us with
  | nil => simp only [relL] at h; subst h; exact g
  | cons x xs ih =>
    simp only [relL] at h
    obtain ⟨u, us', rfl, h2, h3⟩ := h
    simp only [List.cons_append, relL]
    exact ⟨u, us' ++ vs, rfl, h2, ih h3⟩
theorem relL_drop {c : Cx} {xs : List AV} {us : List Value} (h : relL xs c us) (n : Nat) : relL (xs.drop n) c (us.drop n) := by
  induction n generalizing xs us with
  | zero => simpa using h
  | succ n ih =>
    cases xs with
    | nil => simp only [relL] at h; subst h; simp [relL]
    | cons x xs => simp only [relL] at h; obtain ⟨u, us', rfl, _, h3⟩ := h; simpa using ih h3
theorem relL_take {c : Cx} {xs : List AV} {us : List Value} (h : relL xs c us) (n : Nat) : relL (xs.take n) c (us.take n) := by
  induction n generalizing xs us with
  | zero => simp [relL]
  | succ n ih =>
    cases xs with
    | nil => simp only [relL] at h; subst h; simp [relL]
    | cons x xs => simp only [relL] at h; obtain ⟨u, us', rfl, h2, h3⟩ := h; simp only [List.take_succ_cons, relL]; exact ⟨u, _, rfl, h2, ih h3⟩
theorem relAt_get {c : Cx} : ∀ {xs : List AV} {r off : Nat}, relAt xs c r off → ∀ (j : Nat) x, xs[j]? = some x → ∃ u, c.w.cell? ⟨r, off + j, none⟩ = some u ∧ rel x c u
  | [], _, _, _, j, x, h => by simp at h
  | y :: xs, r, off, h, j, x, hj => by
    simp only [relAt] at h
    obtain ⟨⟨u, h1, h2⟩, h3⟩ := h
    cases j with
    | zero => simp at hj; subst hj; exact ⟨u, h1, h2⟩
    | succ j =>
      obtain ⟨u', hu', hr⟩ := relAt_get h3 j x (by simpa using hj)
      exact ⟨u', by rw [show off + (j + 1) = off + 1 + j by omega]; exact hu', hr⟩
theorem relAt_of_get {c : Cx} : ∀ {xs : List AV} {r off : Nat}, (∀ (j : Nat) x, xs[j]? = some x → ∃ u, c.w.cell? ⟨r, off + j, none⟩ = some u ∧ rel x c u) → relAt xs c r off
  | [], _, _, _ => by simp only [relAt]
  | x :: xs, r, off, h => by
    simp only [relAt]
    refine ⟨h 0 x rfl, relAt_of_get fun j y hy => ?_⟩
    obtain ⟨u, hu, hr⟩ := h (j + 1) y (by simpa using hy)
    exact ⟨u, by rw [show off + 1 + j = off + (j + 1) by omega]; exact hu, hr⟩
theorem relAt_drop {c : Cx} {xs : List AV} {r off : Nat} (h : relAt xs c r off) (n : Nat) : relAt (xs.drop n) c r (off + n) :=
  relAt_of_get fun j x hj => by
    obtain ⟨u, hu, hr⟩ := relAt_get h (n + j) x (by rw [List.getElem?_drop] at hj; exact hj)
    exact ⟨u, by rw [Nat.add_assoc]; exact hu, hr⟩
theorem relAt_take {c : Cx} {xs : List AV} {r off : Nat} (h : relAt xs c r off) (n : Nat) : relAt (xs.take n) c r off :=
  relAt_of_get fun j x hj => by
    refine relAt_get h j x ?_
    rw [List.getElem?_take] at hj
    split at hj
    · exact hj
    · cases hj
end Go.Ev
/- What a function's code does to abstract values: a weakest precondition by recursion on the code. -/
namespace Go.Ev
set_option linter.all false
open Go Go.RowKit

/-! ### Types -/
def fieldT (P : Program) (t f : Nat) : Option (Nat × TypeId) :=
  match P.underlying t with
  | some (.struct fs) => (fs[f]?).map fun x => (x.offset, x.type)
  | _ => none
def elemT (P : Program) (t : TypeId) : Option TypeId :=
  match P.underlying t with
  | some (.slice e) => some e
  | _ => none
def arrT (P : Program) (t : TypeId) : Option (Nat × TypeId) :=
  match P.underlying t with
  | some (.array n e) => some (n, e)
  | _ => none
def aggT (P : Program) (t : TypeId) : Option Bool :=
  (P.underlying t).map fun | .struct _ | .array _ _ => true | _ => false
def intT (P : Program) (t : TypeId) : Option IntKind :=
  match P.underlying t with
  | some (.int k) => some k
  | _ => none
def strT (P : Program) (t : TypeId) : Bool := match P.underlying t with | some .string => true | _ => false
def fltT (P : Program) (t : TypeId) : Option FloatKind :=
  match P.underlying t with
  | some (.float k) => some k
  | _ => none
def ifcT (P : Program) (t : TypeId) : Option Bool := (P.underlying t).map fun | .interface _ => true | _ => false
def cmpT (P : Program) (t : TypeId) : Option Bool := (P.info? t).map (·.comparable)
def sizeT (P : Program) (t : TypeId) : Option Nat := (P.info? t).map (·.size)
def bytesT (P : Program) (t : TypeId) : Option Nat := (P.info? t).map (·.bytes)
def zeroT (P : Program) (t : TypeId) : Option Value := (P.info? t).bind (·.zero)

/-- Where a struct's fields begin, and how many cells they fill. -/
def placesT (P : Program) (t : TypeId) : Option (List (Nat × Nat)) :=
  match P.underlying t with
  | some (.struct fs) => fs.toList.mapM fun f => (P.info? f.type).map fun i => (f.offset, i.size)
  | _ => none

/-! ### States -/
/-- What is known of a frame's n slots (the first entry of a slot counts), and of the addresses of package-level variables. -/
structure Slots where
  n : Nat
  l : List (Nat × AV)
  g : List (Nat × AV)
structure St where
  s : Slots
  h : List ABlk

def look : List (Nat × AV) → Nat → AV
  | [], _ => .bad
  | (d, r) :: l, t => if d = t then r else look l t
def ofV : Value → AV
  | .agg cs => .agg (cs.toList.map .v)
  | x => .v x
def get (s : Slots) : Operand → AV
  | .tmp t => look s.l t
  | .const x => ofV x
  | .func f => .v (.func (.func f) #[] #[])
  | .global k => look s.g k
def putS (s : Slots) : Option Tmp → AV → Slots
  | none, _ => s
  | some d, r => if d < s.n then ⟨s.n, (d, r) :: s.l, s.g⟩ else s
/-- A value that fills one cell. -/
def oneA : AV → Bool
  | .v x => x.oneCell'
  | .agg _ | .tup _ | .bad => false
  | _ => true
def flat : AV → Option (List AV)
  | .agg cs => if cs.all oneA then some cs else none
  | x => if oneA x then some [x] else none
def setMany : List AV → Nat → List AV → List AV
  | l, _, [] => l
  | l, i, x :: xs => setMany (l.set i x) (i + 1) xs
def zeroCells (z : Value) : List AV := match z with | .agg cs => cs.toList.map .v | x => [.v x]

/-! ### Operations on scalars -/
def bytesOfA : List AV → Option (List UInt8)
  | [] => some []
  | .v (.int .u8 k) :: l => (bytesOfA l).map (UInt8.ofNat k.toNat :: ·)
  | _ :: _ => none
def byteC (b : UInt8) : AV := .v (.int .u8 b.toNat)

def intA (op : BinOp) (k : IntKind) (a b : Int) (K : AV → Prop) : Prop :=
  match op with
  | .add => K (.v (.int k (k.wrap (a + b))))
  | .sub => K (.v (.int k (k.wrap (a - b))))
  | .mul => K (.v (.int k (k.wrap (a * b))))
  | .quo => b ≠ 0 ∧ K (.v (.int k (k.wrap (a.tdiv b))))
  | .rem => b ≠ 0 ∧ K (.v (.int k (a.tmod b)))
  | .and => K (.v (.int k (k.wrap (BitVec.ofInt k.bits a &&& BitVec.ofInt k.bits b).toNat)))
  | .or => K (.v (.int k (k.wrap (BitVec.ofInt k.bits a ||| BitVec.ofInt k.bits b).toNat)))
  | .xor => K (.v (.int k (k.wrap (BitVec.ofInt k.bits a ^^^ BitVec.ofInt k.bits b).toNat)))
  | .andNot => K (.v (.int k (k.wrap (BitVec.ofInt k.bits a &&& ~~~BitVec.ofInt k.bits b).toNat)))
  | .eql => K (.v (.bool (a == b)))
  | .neq => K (.v (.bool (a != b)))
  | .lss => K (.v (.bool (decide (a < b))))
  | .leq => K (.v (.bool (decide (a ≤ b))))
  | .gtr => K (.v (.bool (decide (b < a))))
  | .geq => K (.v (.bool (decide (b ≤ a))))
  | _ => False
def shiftA (op : BinOp) (k : IntKind) (a b : Int) (K : AV → Prop) : Prop :=
  match op with
  | .shl => 0 ≤ b ∧ K (.v (.int k (k.wrap (a * 2 ^ min b.toNat k.bits))))
  | .shr => 0 ≤ b ∧ K (.v (.int k (a.fdiv (2 ^ min b.toNat k.bits))))
  | _ => False
def fltRes : Option Nat → AV
  | some r => .v (.float .f64 r)
  | none => .nan
def fltA (op : BinOp) (a b : Nat) (K : AV → Prop) : Prop :=
  match op with
  | .add => K (fltRes (FloatKind.f64.format.add a b))
  | .sub => K (fltRes (FloatKind.f64.format.sub a b))
  | .mul => K (fltRes (FloatKind.f64.format.mul a b))
  | .quo => K (fltRes (FloatKind.f64.format.div a b))
  | .eql => K (.v (.bool (FloatKind.f64.format.order a b == some .eq)))
  | .neq => K (.v (.bool (FloatKind.f64.format.order a b != some .eq)))
  | .lss => K (.v (.bool (FloatKind.f64.format.order a b == some .lt)))
  | .leq => K (.v (.bool (FloatKind.f64.format.order a b == some .lt || FloatKind.f64.format.order a b == some .eq)))
  | .gtr => K (.v (.bool (FloatKind.f64.format.order a b == some .gt)))
  | .geq => K (.v (.bool (FloatKind.f64.format.order a b == some .gt || FloatKind.f64.format.order a b == some .eq)))
  | _ => False
def nanA (op : BinOp) (K : AV → Prop) : Prop :=
  match op with
  | .add | .sub | .mul | .quo => K .nan
  | .neq => K (.v (.bool true))
  | .eql | .lss | .leq | .gtr | .geq => K (.v (.bool false))
  | _ => False
def strA (op : BinOp) (x y : ByteArray) (K : AV → Prop) : Prop :=
  match op with
  | .add => x.data.toList.length + y.data.toList.length ≤ 9223372036854775807 ∧ K (.v (.string ⟨(x.data.toList ++ y.data.toList).toArray⟩))
  | .eql => K (.v (.bool (x.data.toList == y.data.toList)))
  | .neq => K (.v (.bool (!(x.data.toList == y.data.toList))))
  | .lss => K (.v (.bool (Op.bytesLess x.data.toList y.data.toList)))
  | .leq => K (.v (.bool (Op.bytesLess x.data.toList y.data.toList || x.data.toList == y.data.toList)))
  | .gtr => K (.v (.bool !(Op.bytesLess x.data.toList y.data.toList || x.data.toList == y.data.toList)))
  | .geq => K (.v (.bool !Op.bytesLess x.data.toList y.data.toList))
  | _ => False
def boolA (op : BinOp) (a b : Bool) (K : AV → Prop) : Prop :=
  match op with
  | .eql => K (.v (.bool (a == b)))
  | .neq => K (.v (.bool (!(a == b))))
  | _ => False
/-- Is an interface value nil? -/
def nilA (op : BinOp) (same : Bool) (K : AV → Prop) : Prop :=
  match op with
  | .eql => K (.v (.bool same))
  | .neq => K (.v (.bool (!same)))
  | _ => False
/-- Complex numbers: are they the same? -/
def cplEq (a b c d : Nat) : Bool := (FloatKind.f64.format.order a c == some .eq) && (FloatKind.f64.format.order b d == some .eq)
def cplA (op : BinOp) (a b c d : Nat) (K : AV → Prop) : Prop :=
  match op with
  | .eql => K (.v (.bool (cplEq a b c d)))
  | .neq => K (.v (.bool (!(cplEq a b c d))))
  | _ => False
def isConst : Operand → Bool
  | .const _ => true
  | _ => false
def binA (P : Program) (op : BinOp) (t : TypeId) (ox oy : Operand) (x y : AV) (K : AV → Prop) : Prop :=
  match x, y with
  | .v (.int k a), .v (.int k' b) => match op with
    | .shl | .shr => shiftA op k a b K
    | _ => k = k' ∧ intA op k a b K
  | .v (.float .f64 a), .v (.float .f64 b) => fltA op a b K
  | .nan, .v (.float .f64 _) | .v (.float .f64 _), .nan | .nan, .nan => nanA op K
  | .v (.string a), .v (.string b) => strA op a b K
  | .v (.bool a), .v (.bool b) => P.underlying t = some .bool ∧ boolA op a b K
  | .v .nilIface, .v .nilIface => (isConst ox || isConst oy) = true ∧ ifcT P t = some true ∧ nilA op true K
  | .ifc _ _, .v .nilIface | .v .nilIface, .ifc _ _ => ifcT P t = some true ∧ nilA op false K
  | .ifc tx (.v (.int k a)), .ifc ty (.v (.int k' b)) => ifcT P t = some true ∧ ((tx ≠ ty ∧ nilA op false K) ∨ (tx = ty ∧ k = k' ∧ intT P tx = some k ∧ cmpT P tx = some true ∧ nilA op (a == b) K))
  | .v (.complex .f64 a b), .v (.complex .f64 c d) => cplA op a b c d K
  | _, _ => False
def unA (op : UnOp) (x : AV) (K : AV → Prop) : Prop :=
  match op, x with
  | .not, .v (.bool b) => K (.v (.bool (!b)))
  | .neg, .v (.int k n) => K (.v (.int k (k.wrap (0 - n))))
  | .neg, .v (.float .f64 b) => K (.v (.float .f64 (Op.negFloat .f64 b)))
  | _, _ => False

/-! ### Memory -/
def takeA (P : Program) (t : TypeId) (cs : List AV) (K : AV → Prop) : Prop :=
  match aggT P t with
  | some true => ∃ n, sizeT P t = some n ∧ n ≤ cs.length ∧ K (.agg (cs.take n))
  | some false => ∃ x, cs[0]? = some x ∧ K x
  | none => False
def loadA (P : Program) (t : TypeId) (s : St) (a : AV) (K : AV → Prop) : Prop :=
  match a with
  | .ptr i ver off => ∃ k, s.h[i]? = some k ∧ ver = k.ver ∧ takeA P t (k.cells.drop off) K
  | .ela _ cs => takeA P t cs K
  | _ => False
def storeA (P : Program) (t : TypeId) (s : St) (a x : AV) (K : St → Prop) : Prop :=
  match a with
  | .ptr i ver off => ∃ k cs, s.h[i]? = some k ∧ ver = k.ver ∧ flat x = some cs ∧ sizeT P t = some cs.length ∧ off + cs.length ≤ k.cells.length ∧
      K { s with h := s.h.set i { k with cells := setMany k.cells off cs } }
  | _ => False
/-- The block is there, and was not made anew since. -/
def liveA (s : St) (i ver : Nat) : Prop := ∃ k, s.h[i]? = some k ∧ ver = k.ver
def fieldAddrA (P : Program) (t : TypeId) (s : St) (a : AV) (f : Nat) (K : AV → Prop) : Prop :=
  ∃ o ft n, fieldT P t f = some (o, ft) ∧ sizeT P ft = some n ∧ n ≠ 0 ∧
    match a with
    | .ptr i ver off => liveA s i ver ∧ K (.ptr i ver (off + o))
    | .ela b cs => K (.ela b (cs.drop o))
    | _ => False
def indexAddrA (P : Program) (t : TypeId) (s : St) (x ix : AV) (K : AV → Prop) : Prop :=
  match ix with
  | .v (.int _ i) =>
    match x with
    | .sl b n _ cs => ∃ e sz, elemT P t = some e ∧ sizeT P e = some sz ∧ 0 ≤ i ∧ i < n ∧ K (.ela b (cs.drop (i.toNat * sz)))
    | .own j ver n => ∃ k e sz, s.h[j]? = some k ∧ ver = k.ver ∧ elemT P t = some e ∧ sizeT P e = some sz ∧ 0 ≤ i ∧ i < n ∧ K (.ptr j ver (i.toNat * sz))
    | .ptr j ver off => liveA s j ver ∧ ∃ n e sz, arrT P t = some (n, e) ∧ sizeT P e = some sz ∧ 0 ≤ i ∧ i < n ∧ K (.ptr j ver (off + i.toNat * sz))
    | _ => False
  | _ => False
/-- A byte of a string. -/
def sAt (s : ByteArray) (i : Nat) : Int := ((s.data.toList[i]?).getD 0).toNat
def indexA (P : Program) (t : TypeId) (x ix : AV) (K : AV → Prop) : Prop :=
  match ix with
  | .v (.int _ i) =>
    match x with
    | .v (.string s) => strT P t = true ∧ 0 ≤ i ∧ i < (s.data.toList.length : Int) ∧ K (.v (.int .u8 (sAt s i.toNat)))
    | .agg cs => ∃ n e sz, arrT P t = some (n, e) ∧ sizeT P e = some sz ∧ 0 ≤ i ∧ i < n ∧ takeA P e (cs.drop (i.toNat * sz)) K
    | _ => False
  | _ => False
def boundA (x : Option AV) (d : Nat) (K : Nat → Prop) : Prop :=
  match x with
  | none => K d
  | some (.v (.int _ i)) => 0 ≤ i ∧ K i.toNat
  | _ => False
def sliceA (P : Program) (t : TypeId) (s : St) (x : AV) (lo hi mx : Option AV) (K : AV → Prop) : Prop :=
  mx = none ∧
  match x with
  | .v (.string b) => strT P t = true ∧ boundA hi b.data.toList.length fun h => h ≤ b.data.toList.length ∧ boundA lo 0 fun l => l ≤ h ∧ K (.v (.string ⟨((b.data.toList.take h).drop l).toArray⟩))
  | .sl b n m cs => ∃ e sz, elemT P t = some e ∧ sizeT P e = some sz ∧ cs.length ≤ m * sz ∧ boundA hi n fun h => h ≤ m ∧ boundA lo 0 fun l => l ≤ h ∧ K (.sl b (h - l) (m - l) (cs.drop (l * sz)))
  | .own i ver n => ∃ e k sz, elemT P t = some e ∧ sizeT P e = some sz ∧ s.h[i]? = some k ∧ ver = k.ver ∧ boundA hi n fun h => h ≤ n ∧ boundA lo 0 fun l => l ≤ h ∧ l = 0 ∧ K (.own i ver h)
  | .v (.slice none 0 0) => ∃ e sz, elemT P t = some e ∧ sizeT P e = some sz ∧ boundA hi 0 fun h => h ≤ 0 ∧ boundA lo 0 fun l => l ≤ h ∧ K (.v (.slice none 0 0))
  | _ => False
/-- The cells of a source of an append (or a copy): n elements. -/
def srcA (s : St) (sz : Nat) (x : AV) (K : Nat → List AV → Prop) : Prop :=
  match x with
  | .sl _ n _ cs => n * sz ≤ cs.length ∧ K n (cs.take (n * sz))
  | .own i ver n => ∃ k, s.h[i]? = some k ∧ ver = k.ver ∧ n * sz ≤ k.cells.length ∧ K n (k.cells.take (n * sz))
  | .v (.slice none 0 0) => K 0 []
  | .v (.string b) => sz = 1 ∧ K b.data.toList.length (b.data.toList.map byteC)
  | _ => False
def ontoA (s : St) (e sz by' n : Nat) (new : List AV) (K : AV → St → Prop) : AV → Prop
  | .v (.slice none 0 0) => (n = 0 ∧ K (.v (.slice none 0 0)) s) ∨ (0 < n ∧ n * by' ≤ 140737488355328 ∧ K (.own s.h.length 0 n) { s with h := s.h ++ [⟨0, e, new⟩] })
  | .own i ver m => ∃ k, s.h[i]? = some k ∧ ver = k.ver ∧ k.e = e ∧ m * sz ≤ k.cells.length ∧
      ((n = 0 ∧ K (.own i ver m) s) ∨ ((m + n) * by' ≤ 140737488355328 ∧ K (.own i (ver + 1) (m + n)) { s with h := s.h.set i ⟨ver + 1, e, k.cells.take (m * sz) ++ new⟩ }))
  | _ => False
def appendA (P : Program) (ts : Array TypeId) (s : St) (x y : AV) (K : AV → St → Prop) : Prop :=
  ∃ t t2 e sz by' z, zeroT P e = some z ∧ (zeroCells z).length = sz ∧ ts[0]? = some t ∧ ts[1]? = some t2 ∧ intT P t2 = none ∧ (P.underlying t2).isSome = true ∧ elemT P t = some e ∧ sizeT P e = some sz ∧ bytesT P e = some by' ∧ 0 < sz ∧ 0 < by' ∧
    srcA s sz y fun n new => new.all oneA = true ∧ ontoA s e sz by' n new K x
def fillA (place : Nat → Option (Nat × Nat)) (get : Operand → AV) : List (Nat × Operand) → List AV → (List AV → Prop) → Prop
  | [], l, K => K l
  | (i, x) :: r, l, K => ∃ o n cs, place i = some (o, n) ∧ flat (get x) = some cs ∧ cs.length = n ∧ o + n ≤ l.length ∧ fillA place get r (setMany l o cs) K
def buildA (P : Program) (t : TypeId) (parts : Array (Nat × Operand)) (get : Operand → AV) (K : AV → Prop) : Prop :=
  ∃ z, zeroT P t = some z ∧
    ((∃ pl, placesT P t = some pl ∧ fillA (pl[·]?) get parts.toList (zeroCells z) fun l => K (.agg l)) ∨
     (∃ n e sz, arrT P t = some (n, e) ∧ sizeT P e = some sz ∧ fillA (fun i => some (i * sz, sz)) get parts.toList (zeroCells z) fun l => K (.agg l)))
def rowsA (z : Value) (n : Nat) : List AV := (List.replicate n (zeroCells z)).flatten
def buildSliceA (P : Program) (t : TypeId) (len : Nat) (parts : Array (Nat × Operand)) (get : Operand → AV) (s : St) (K : AV → St → Prop) : Prop :=
  ∃ e sz z, elemT P t = some e ∧ sizeT P e = some sz ∧ zeroT P e = some z ∧ (zeroCells z).length = sz ∧ 0 < sz ∧ len * sz ≤ 16777216 ∧
    fillA (fun i => some (i * sz, sz)) get parts.toList (rowsA z len) fun l => K (.own s.h.length 0 len) { s with h := s.h ++ [⟨0, e, l⟩] }
def makeSliceA (P : Program) (t : TypeId) (len cap : AV) (s : St) (K : AV → St → Prop) : Prop :=
  match len, cap with
  | .v (.int _ n), .v (.int _ c) => ∃ e sz by' z, elemT P t = some e ∧ sizeT P e = some sz ∧ bytesT P e = some by' ∧ zeroT P e = some z ∧ (zeroCells z).length = sz ∧ 0 < sz ∧
      0 ≤ n ∧ n ≤ c ∧ c < 9223372036854775808 ∧ c * by' ≤ 140737488355328 ∧ K (.own s.h.length 0 n.toNat) { s with h := s.h ++ [⟨0, e, rowsA z c.toNat⟩] }
  | _, _ => False
/-- A real, turned to a whole number that fits. -/
def f2i (b : Nat) (k : IntKind) : Option Int := match (FloatKind.f64.decode b).toInt .zero with
  | some n => if k.min ≤ n ∧ n ≤ k.max then some n else none
  | none => none
def convertA (P : Program) (src dst : TypeId) (x : AV) (s : St) (K : AV → St → Prop) : Prop :=
  match x with
  | .v (.int _ n) => match P.underlying dst with
    | some (.int k) => (P.underlying src).isSome = true ∧ K (.v (.int k (k.wrap n))) s
    | some (.float .f64) => (P.underlying src).isSome = true ∧ K (.v (.float .f64 (FloatKind.f64.nearest n))) s
    | some .string => (P.underlying src).isSome = true ∧ K (.v (.string (Utf8.encode n))) s
    | _ => False
  | .v (.float .f64 b) => ∃ k n, intT P dst = some k ∧ (P.underlying src).isSome = true ∧ f2i b k = some n ∧ K (.v (.int k n)) s
  | .v (.string b) => match P.underlying dst with
    | some .string => (P.underlying src).isSome = true ∧ K x s
    | some (.slice e) => strT P src = true ∧ intT P e = some .u8 ∧ sizeT P e = some 1 ∧ b.data.toList.length < 4611686018427387904 ∧ K (.own s.h.length 0 b.data.toList.length) { s with h := s.h ++ [⟨0, e, b.data.toList.map byteC⟩] }
    | _ => False
  | .sl _ n _ cs => strT P dst = true ∧ (elemT P src).bind (intT P) = some .u8 ∧ n ≤ cs.length ∧ ∃ l, bytesOfA (cs.take n) = some l ∧ K (.v (.string ⟨l.toArray⟩)) s
  | .own i ver n => ∃ k, s.h[i]? = some k ∧ ver = k.ver ∧ strT P dst = true ∧ (elemT P src).bind (intT P) = some .u8 ∧ n ≤ k.cells.length ∧ ∃ l, bytesOfA (k.cells.take n) = some l ∧ K (.v (.string ⟨l.toArray⟩)) s
  | .v (.slice none 0 0) => strT P dst = true ∧ (elemT P src).bind (intT P) = some .u8 ∧ K (.v (.string ⟨#[]⟩)) s
  | _ => False
def lenA (P : Program) (ts : Array TypeId) (s : St) (x : AV) (K : AV → Prop) : Prop :=
  ∃ t, ts[0]? = some t ∧
    match x with
    | .v (.string b) => strT P t = true ∧ K (.v (.int .i64 b.data.toList.length))
    | .v (.slice none 0 0) => (elemT P t).isSome = true ∧ K (.v (.int .i64 0))
    | .sl _ n _ _ => (elemT P t).isSome = true ∧ K (.v (.int .i64 n))
    | .own i ver n => (elemT P t).isSome = true ∧ liveA s i ver ∧ K (.v (.int .i64 n))
    | _ => False

/-! ### What is handed over or handed back -/
mutual
/-- y is x with the call's own rows told as frozen ones. -/
def fz (P : Program) (H : List ABlk) (b0 : Bool) : AV → AV → Prop
  | .v a, x => x = .v a
  | .nan, x => x = .nan
  | .bad, _ => True
  | .ela _ _, _ => False
  | .own _ _ _, _ => False
  | .ptr _ _ _, _ => False
  | .agg ys, x => ∃ xs, x = .agg xs ∧ fzL P H b0 ys xs
  | .tup ys, x => ∃ xs, x = .tup xs ∧ fzL P H b0 ys xs
  | .ifc t y, x => ∃ x', x = .ifc t x' ∧ fz P H b0 y x'
  | .clo f ys zs, x => ∃ xs xs', x = .clo f xs xs' ∧ fzL P H b0 ys xs ∧ fzL P H b0 zs xs'
  | .sl b n m ys, x => x = .sl b n m ys ∨ (b = b0 ∧ ∃ i k xs, x = .own i k.ver n ∧ H[i]? = some k ∧ n ≤ m ∧ (m = n ∨ (0 < P.cellsOf k.e ∧ m * P.cellsOf k.e ≤ k.cells.length)) ∧ xs <+: k.cells ∧ fzL P H b0 ys xs)
def fzL (P : Program) (H : List ABlk) (b0 : Bool) : List AV → List AV → Prop
  | [], xs => xs = []
  | y :: ys, xs => ∃ x xs', xs = x :: xs' ∧ fz P H b0 y x ∧ fzL P H b0 ys xs'
end
mutual
/-- No borrowed memory in it. -/
def noBor : AV → Bool
  | .sl b _ _ cs => !b && noBorL cs
  | .ela b cs => !b && noBorL cs
  | .agg cs => noBorL cs
  | .tup cs => noBorL cs
  | .ifc _ x => noBor x
  | .clo _ fs cs => noBorL fs && noBorL cs
  | _ => true
def noBorL : List AV → Bool
  | [] => true
  | x :: xs => noBor x && noBorL xs
end

mutual
/-- It leads to none of the call's own blocks. -/
def treeA : AV → Bool
  | .own _ _ _ => false
  | .ptr _ _ _ => false
  | .agg cs => treeL cs
  | .tup cs => treeL cs
  | .ifc _ x => treeA x
  | .clo _ fs cs => treeL fs && treeL cs
  | _ => true
def treeL : List AV → Bool
  | [] => true
  | x :: xs => treeA x && treeL xs
end

/-- The context of a call: blocks that data which isn't borrowed keeps off (G), blocks of what is borrowed (B). -/
def cx0 (P : Program) (G B : Nat → Prop) (w : World) : Cx :=
  { P, w, ok := fun b r => r < w.heap.size ∧ (if b then B r else ¬ G r), cur := fun _ => none }
/-- THE CONTRACT: whatever the memory (γ: what is known of package-level variables), the call returns what res says, and writes nothing that was there. -/
def Ev (P : Program) (γ : List (Nat × AV)) (f : FuncId) (args : List AV) (res : AV) : Prop :=
  ∀ (G B : Nat → Prop) (w : World) (vs : Array Value), (∀ r, G r → r < w.heap.size) → (∀ k, treeA (look γ k) = true ∧ rel (look γ k) (cx0 P G B w) (.pointer (some ⟨k, 0, none⟩))) → relL args (cx0 P G B w) vs.toList →
    Calls P f vs w fun e w' => ∃ u, e = .returned u ∧ rel res (cx0 P G B w') u ∧ Below w.heap.size w w'

/-! ### Operations -/
def callA (P : Program) (s : St) (g : FuncId) (xs : List AV) (K : AV → Prop) : Prop :=
  ∃ ys r, ((ys = xs ∧ treeL xs = true) ∨ (fzL P s.h true ys xs ∧ noBor r = true)) ∧ Ev P s.s.g g ys r ∧ K r
/-- A complex number's parts, and a complex number of two parts. -/
def partS (im : Bool) : AV → Option AV
  | .v (.complex .f64 a b) => some (.v (.float .f64 (if im then b else a)))
  | _ => none
/-- The greater of two whole numbers. -/
def maxS : AV → AV → Option AV
  | .v (.int k a), .v (.int _ b) => some (.v (.int k (if b > a then b else a)))
  | _, _ => none
def compS : AV → AV → Option AV
  | .v (.float .f64 a), .v (.float .f64 b) => some (.v (.complex .f64 a b))
  | _, _ => none
def aop (P : Program) (o : Oper) (s : St) (K : St → Prop) : Prop :=
  let put (r : AV) : Prop := K { s with s := putS s.s o.dst r }
  let putH (r : AV) (s' : St) : Prop := K { s' with s := putS s'.s o.dst r }
  match o.op with
  | .move x | .assign x => put (get s.s x)
  | .pick c a b => match get s.s c with
    | .v (.bool z) => (z = true → put (get s.s a)) ∧ (z = false → put (get s.s b))
    | _ => False
  | .alloc t => ∃ z, zeroT P t = some z ∧ K { s := putS s.s o.dst (.ptr s.h.length 0 0), h := s.h ++ [⟨0, t, zeroCells z⟩] }
  | .box t x => ∃ cs, flat (get s.s x) = some cs ∧ K { s := putS s.s o.dst (.ptr s.h.length 0 0), h := s.h ++ [⟨0, t, cs⟩] }
  | .build t ps => buildA P t ps (get s.s) put
  | .buildSlice t n ps => buildSliceA P t n ps (get s.s) s putH
  | .load t a => loadA P t s (get s.s a) put
  | .store t a x => storeA P t s (get s.s a) (get s.s x) fun s' => K { s' with s := putS s'.s o.dst .bad }
  | .nilCheck x => match get s.s x with
    | .ptr i ver off => liveA s i ver ∧ put (.ptr i ver off)
    | .ela b cs => put (.ela b cs)
    | _ => False
  | .binOp op t x y _ => binA P op t x y (get s.s x) (get s.s y) put
  | .unOp op _ x => unA op (get s.s x) put
  | .convert a b x => convertA P a b (get s.s x) s putH
  | .makeInterface t x => ifcT P t = some false ∧ put (.ifc t (get s.s x))
  | .makeSlice t l c => makeSliceA P t (get s.s l) (get s.s c) s putH
  | .slice t x lo hi mx => sliceA P t s (get s.s x) (lo.map (get s.s)) (hi.map (get s.s)) (mx.map (get s.s)) put
  | .fieldAddr t x f => fieldAddrA P t s (get s.s x) f put
  | .field t x f => match get s.s x with
    | .agg cs => ∃ o ft, fieldT P t f = some (o, ft) ∧ takeA P ft (cs.drop o) put
    | _ => False
  | .indexAddr t x i => indexAddrA P t s (get s.s x) (get s.s i) put
  | .index t x i => indexA P t (get s.s x) (get s.s i) put
  | .extract t i => match get s.s t with
    | .tup cs => ∃ x, cs[i]? = some x ∧ put x
    | _ => False
  | .call c => match c.callee with
    | .builtin .len => ∃ x, c.args[0]? = some x ∧ lenA P c.argTypes s (get s.s x) put
    | .builtin .append => ∃ x y, c.args = #[x, y] ∧ appendA P c.argTypes s (get s.s x) (get s.s y) putH
    | .builtin .real => ∃ x r, c.args = #[x] ∧ partS false (get s.s x) = some r ∧ put r
    | .builtin .imag => ∃ x r, c.args = #[x] ∧ partS true (get s.s x) = some r ∧ put r
    | .builtin .complex => ∃ x y r, c.args = #[x, y] ∧ compS (get s.s x) (get s.s y) = some r ∧ put r
    | .builtin .max => ∃ x y r, c.args = #[x, y] ∧ maxS (get s.s x) (get s.s y) = some r ∧ put r
    | .value (.func g) => (∃ fn, P.funcs[g]? = some fn ∧ fn.body.isSome = true ∧ (fn.name == "runtime.NumGoroutine") = false) ∧ callA P s g (c.args.toList.map (get s.s)) put
    | _ => False
  | _ => False

def guardA (ops : Array Oper) (s : St) (j : Nat) : AV :=
  match (ops[j]?).bind (·.dst) with
  | some t => look s.s.l t
  | none => .bad
/-! ### Code -/
abbrev Post := Exit → St → Prop
def thenA (K : St → Prop) (Q : Post) : Post
  | .normal, s => K s
  | e, s => Q e s
def inBlockA (id : Nat) (Q : Post) : Post
  | .exit j, s => if j = id then Q .normal s else Q (.exit j) s
  | e, s => Q e s
/-- All that l2 says l says. -/
def allIn (l : List (Nat × AV)) : List (Nat × AV) → Prop
  | [] => True
  | (d, r) :: l2 => look l d = r ∧ allIn l l2
mutual
/-- It leads to none but the first n blocks. -/
def okRef (n : Nat) : AV → Bool
  | .own i _ _ => decide (i < n)
  | .ptr i _ _ => decide (i < n)
  | .agg cs => okRefL n cs
  | .tup cs => okRefL n cs
  | .ifc _ x => okRef n x
  | .clo _ fs cs => okRefL n fs && okRefL n cs
  | _ => true
def okRefL (n : Nat) : List AV → Bool
  | [] => true
  | x :: xs => okRef n x && okRefL n xs
end
def okRefB (n : Nat) : List ABlk → Bool
  | [] => true
  | k :: ks => okRefL n k.cells && okRefB n ks
/-- Less is known: of the slots, and the first n blocks alone. -/
def St.weak (s s2 : St) : Prop :=
  s2.s.n = s.s.n ∧ s2.s.g = s.s.g ∧ allIn s.s.l s2.s.l ∧ (s2.h = s.h ∨ (s2.h = s.h.take s2.h.length ∧ okRefL s2.h.length (s2.s.l.map (·.2)) = true ∧ okRefB s2.h.length s2.h = true))
/-- A function's results out of its last state. -/
def resA (P : Program) : List ResultVar → St → (List AV → Prop) → Prop
  | [], _, K => K []
  | .tmp t :: rs, s, K => resA P rs s fun xs => K (look s.s.l t :: xs)
  | .cell p t :: rs, s, K => loadA P t s (look s.s.l p) fun x => resA P rs s fun xs => K (x :: xs)
def oneOrTup : List AV → AV
  | [x] => x
  | xs => .tup xs
def endA (P : Program) (rs : List ResultVar) (res : AV) : Post
  | .normal, s | .ret, s => resA P rs s fun xs => fz P s.h false res (oneOrTup xs)
  | _, _ => False
/-- The state in which a call begins. -/
def idxL : Nat → List AV → List (Nat × AV)
  | _, [] => []
  | i, x :: xs => (i, x) :: idxL (i + 1) xs
def startA (γ : List (Nat × AV)) (args : List AV) (n : Nat) : St := { s := ⟨args.length + (n - args.length), idxL 0 args, γ⟩, h := [] }
end Go.Ev
/- How a state stands to the machine's frame and world; the moves that keep it. -/
namespace Go.Ev
set_option linter.all false
open Go Go.RowKit

structure Fix where
  P : Program
  G : Nat → Prop
  B : Nat → Prop
  w0 : World
  hG : ∀ r, G r → r < w0.heap.size
  hB : ∀ r, B r → r < w0.heap.size
  /-- Blocks that are no cells and stay. -/
  K : List (Nat × Obj) := []
  df : List Deferred := []
  /-- What is known of an earlier time. -/
  c0 : Option Cx := none

def curOf (φ : List Nat) (h : List ABlk) (i : Nat) : Option (ABlk × Nat) :=
  match h[i]?, φ[i]? with
  | some k, some β => some (k, β)
  | _, _ => none
theorem curOf_eq {φ : List Nat} {h : List ABlk} {i : Nat} {k : ABlk} {β : Nat} : curOf φ h i = some (k, β) ↔ h[i]? = some k ∧ φ[i]? = some β := by
  unfold curOf
  cases h[i]? <;> cases φ[i]? <;> simp
def cx (X : Fix) (φ : List Nat) (h : List ABlk) (w : World) : Cx :=
  { P := X.P, w, ok := fun b r => r < w.heap.size ∧ r ∉ φ ∧ (if b then X.B r else ¬ X.G r), cur := curOf φ h }

structure SR (X : Fix) (φ : List Nat) (st : St) (a : Act) (w : World) : Prop where
  below : Below X.w0.heap.size X.w0 w
  defers : a.defers = X.df
  kp : ∀ p ∈ X.K, w.heap[p.1]? = some p.2
  kd : ∀ p ∈ X.K, p.1 ∉ φ
  le0 : ∀ c, X.c0 = some c → c.le (cx X φ st.h w)
  slots : ∀ t, rel (look st.s.l t) (cx X φ st.h w) (a.tmps.getD t undef)
  len : a.tmps.size = st.s.n
  gl : ∀ k, treeA (look st.s.g k) = true ∧ rel (look st.s.g k) (cx X φ st.h w) (.pointer (some ⟨k, 0, none⟩))
  φlen : φ.length = st.h.length
  nodup : φ.Nodup
  rng : ∀ β ∈ φ, X.w0.heap.size ≤ β ∧ β < w.heap.size
  blk : ∀ (i : Nat) (k : ABlk) (β : Nat), st.h[i]? = some k → φ[i]? = some β →
    (∃ vs fr, w.heap[β]? = some (.cells vs k.e fr) ∧ k.cells.length ≤ vs.size ∧ (∀ off, off < vs.size → ¬ (fr.1 ≤ off ∧ off < fr.2))) ∧ relAt k.cells (cx X φ st.h w) β 0

section
variable {X : Fix} {φ : List Nat} {st : St} {a : Act} {w : World}

theorem rel_ofV (c : Cx) (x : Value) : rel (ofV x) c x := by
  cases x <;> simp only [ofV, rel]
  rename_i cs
  refine ⟨cs, rfl, ?_⟩
  generalize cs.toList = l
  induction l with
  | nil => simp [relL]
  | cons y l ih => simp only [List.map_cons, relL, rel]; exact ⟨y, l, rfl, rfl, ih⟩
theorem SR.get (hs : SR X φ st a w) (x : Operand) : rel (get st.s x) (cx X φ st.h w) (a.eval x) := by
  cases x with
  | tmp t => exact hs.slots t
  | const v => exact rel_ofV _ _
  | global g => exact (hs.gl g).2
  | func f => simp [Ev.get, Act.eval, rel]
theorem relL_set {c : Cx} {xs : List AV} {us : List Value} (h : relL xs c us) (t : Nat) {r : AV} {u : Value} (hr : rel r c u) : relL (xs.set t r) c (us.set t u) := by
  induction xs generalizing us t with
  | nil => simp only [relL] at h; subst h; simp [relL]
  | cons x xs ih =>
    simp only [relL] at h
    obtain ⟨v, us', rfl, h2, h3⟩ := h
    cases t with
    | zero => simp only [List.set_cons_zero, relL]; exact ⟨u, us', rfl, hr, h3⟩
    | succ t => simp only [List.set_cons_succ, relL]; exact ⟨v, _, rfl, h2, ih h3 t⟩
theorem SR.put (hs : SR X φ st a w) (dst : Option Tmp) {r : AV} {u : Value} (hr : rel r (cx X φ st.h w) u) :
    SR X φ { st with s := putS st.s dst r } (a.put dst u) w := by
  cases dst with
  | none => exact hs
  | some d =>
    by_cases hd : d < st.s.n
    · simp only [putS, if_pos hd]
      refine { hs with slots := fun t => ?_, len := by simp [Act.put, hs.len] }
      simp only [look, Act.put]
      split
      · rename_i e
        subst e
        have : d < a.tmps.size := by rw [hs.len]; exact hd
        simpa [this] using hr
      · rename_i e
        have := hs.slots t
        simpa [Array.getElem?_setIfInBounds_ne e] using this
    · simp only [putS, if_neg hd]
      have : a.put (some d) u = a := by
        simp only [Act.put]
        rw [Array.setIfInBounds_eq_of_size_le (by rw [hs.len]; exact Nat.not_lt.1 hd)]
      rw [this]
      exact hs

/-- A step that keeps every block, and adds none of the call's own. -/
theorem cx_le_same {w' : World} (hcell : ∀ p : Addr, p.block < w.heap.size → w'.cell? p = w.cell? p) (hshape : ∀ r, r < w.heap.size → w'.shape? r = w.shape? r) (hsize : w.heap.size ≤ w'.heap.size) (hr : ∀ β ∈ φ, β < w.heap.size) (h : List ABlk) :
    (cx X φ h w).le (cx X φ h w') :=
  ⟨rfl, fun b r ⟨h1, h2⟩ => ⟨Nat.lt_of_lt_of_le h1 hsize, h2⟩, fun b r off u ⟨h1, _⟩ hc => (hcell ⟨r, off, none⟩ h1).trans hc,
    fun i k β hk => ⟨k, β, hk, Nat.le_refl _, fun _ => ⟨rfl, rfl, hshape β (hr β (List.mem_of_getElem? (curOf_eq.1 hk).2))⟩⟩⟩
theorem relAt_le {c c' : Cx} (h : c.le c') {r : Nat} (hcell : ∀ off u, c.w.cell? ⟨r, off, none⟩ = some u → c'.w.cell? ⟨r, off, none⟩ = some u) : ∀ {xs : List AV} {off : Nat}, relAt xs c r off → relAt xs c' r off
  | [], _, _ => by simp only [relAt]
  | x :: xs, off, hr => by
    simp only [relAt] at hr ⊢
    obtain ⟨⟨u, h1, h2⟩, h3⟩ := hr
    exact ⟨⟨u, hcell _ _ h1, rel_mono h x _ h2⟩, relAt_le h hcell h3⟩
theorem SR.kp_lt (hs : SR X φ st a w) {p : Nat × Obj} (h : p ∈ X.K) : p.1 < w.heap.size := (Array.getElem?_eq_some_iff.1 (hs.kp p h)).1
theorem SR.kp_not (hs : SR X φ st a w) {p : Nat × Obj} (h : p ∈ X.K) {i β : Nat} (hb : φ[i]? = some β) : p.1 ≠ β := fun e' => hs.kd p h (e' ▸ List.mem_of_getElem? hb)
/-- The world moves on: all blocks that were there stay. -/
theorem SR.world (hs : SR X φ st a w) {w' : World} (hb : Below w.heap.size w w') : SR X φ st a w' := by
  have hrng := fun β hβ => (hs.rng β hβ).2
  have hle := cx_le_same (X := X) (φ := φ) (w := w) (w' := w') (fun p hp => hb.cell hp) (fun r hr => by unfold World.shape?; rw [hb.block r hr]) hb.size hrng st.h
  refine { below := hs.below.trans (hb.mono hs.below.size), defers := hs.defers, kp := fun p hp => (hb.block p.1 (hs.kp_lt hp)).trans (hs.kp p hp), kd := hs.kd, le0 := fun c hc => Cx.le_trans (hs.le0 c hc) hle, slots := fun t => rel_mono hle _ _ (hs.slots t), len := hs.len, gl := fun k => ⟨(hs.gl k).1, rel_mono hle _ _ (hs.gl k).2⟩, φlen := hs.φlen, nodup := hs.nodup, rng := fun β hβ => ⟨(hs.rng β hβ).1, Nat.lt_of_lt_of_le (hrng β hβ) hb.size⟩, blk := fun i k β hk hβ => ?_ }
  obtain ⟨⟨vs, fr, h1, h1', h2⟩, h3⟩ := hs.blk i k β hk hβ
  have hlt := hrng β (List.mem_of_getElem? hβ)
  exact ⟨⟨vs, fr, by rw [hb.block β hlt]; exact h1, h1', h2⟩, relAt_le hle (fun off u hc => (hb.cell (p := ⟨β, off, none⟩) hlt).trans hc) h3⟩
theorem below_drew (w : World) : Below w.heap.size w w.drew := (Below.refl _ _).drew

theorem heap_alloc_new (w : World) (o : Obj) : (w.alloc o).heap[w.heap.size]? = some o := by show (w.heap.push o)[w.heap.size]? = _; simp
/-- A new block of the call's own. -/
theorem SR.push (hs : SR X φ st a w) {vs : Array Value} {e : TypeId} {fr : Nat × Nat} {cells : List AV} {ver : Nat} (hc : relL cells (cx X φ st.h w) (vs.toList.take cells.length)) (hfr : ∀ off, off < vs.size → ¬ (fr.1 ≤ off ∧ off < fr.2)) :
    SR X (φ ++ [w.heap.size]) { st with h := st.h ++ [⟨ver, e, cells⟩] } a (w.alloc (.cells vs e fr)) ∧ (cx X φ st.h w).le (cx X (φ ++ [w.heap.size]) (st.h ++ [⟨ver, e, cells⟩]) (w.alloc (.cells vs e fr))) := by
  have hnot : w.heap.size ∉ φ := fun hm => Nat.lt_irrefl _ (hs.rng _ hm).2
  have hlt : ∀ β ∈ φ, β < w.heap.size := fun β hβ => (hs.rng β hβ).2
  have hle : (cx X φ st.h w).le (cx X (φ ++ [w.heap.size]) (st.h ++ [⟨ver, e, cells⟩]) (w.alloc (.cells vs e fr))) := by
    refine ⟨rfl, fun b r ⟨h1, h2, h3⟩ => ⟨by simp; omega, by simp [h2]; omega, h3⟩, fun b r off u ⟨h1, _⟩ hc => ?_, fun i k β hk => ⟨k, β, ?_, Nat.le_refl _, fun _ => ⟨rfl, rfl, ?_⟩⟩⟩
    · exact (World.cell?_alloc_lt _ _ ⟨r, off, none⟩ h1).trans hc
    · obtain ⟨h1, h2⟩ := curOf_eq.1 hk
      exact curOf_eq.2 ⟨by rw [List.getElem?_append_left (List.getElem?_eq_some_iff.1 h1).1]; exact h1, by rw [List.getElem?_append_left (List.getElem?_eq_some_iff.1 h2).1]; exact h2⟩
    · have hl := hlt β (List.mem_of_getElem? (curOf_eq.1 hk).2)
      simp only [cx, World.shape?]
      rw [Below.heap_alloc _ _ _ hl]
  refine ⟨{ below := hs.below.alloc hs.below.size _, defers := hs.defers, kp := fun p hp => (Below.heap_alloc _ _ _ (hs.kp_lt hp)).trans (hs.kp p hp), kd := (fun p hp hm => by have h1 := hs.kp_lt hp; rcases List.mem_append.1 hm with h | h; exact hs.kd p hp h; simp at h; omega), le0 := fun c hc => Cx.le_trans (hs.le0 c hc) hle, slots := fun t => rel_mono hle _ _ (hs.slots t), len := hs.len, gl := fun k => ⟨(hs.gl k).1, rel_mono hle _ _ (hs.gl k).2⟩, φlen := by simp [hs.φlen], nodup := ?_, rng := ?_, blk := ?_ }, hle⟩
  · rw [List.nodup_append]
    exact ⟨hs.nodup, by simp, fun x hx y hy => by simp at hy; subst hy; exact fun e => hnot (e ▸ hx)⟩
  · intro β hβ
    rcases List.mem_append.1 hβ with h | h
    · exact ⟨(hs.rng β h).1, by simp; have := hlt β h; omega⟩
    · simp at h; subst h; exact ⟨hs.below.size, by simp⟩
  · intro i k β hk hβ
    by_cases hi : i < st.h.length
    · rw [List.getElem?_append_left hi] at hk
      rw [List.getElem?_append_left (by rw [hs.φlen]; exact hi)] at hβ
      obtain ⟨⟨vs', fr', h1, h1', h2⟩, h3⟩ := hs.blk i k β hk hβ
      have hl := hlt β (List.mem_of_getElem? hβ)
      exact ⟨⟨vs', fr', by rw [Below.heap_alloc _ _ _ hl]; exact h1, h1', h2⟩, relAt_le hle (fun off u hc => (World.cell?_alloc_lt _ _ ⟨β, off, none⟩ hl).trans hc) h3⟩
    · rw [List.getElem?_append_right (by omega)] at hk
      rw [List.getElem?_append_right (by rw [hs.φlen]; omega)] at hβ
      have hi' : i - st.h.length = 0 := by
        have := (List.getElem?_eq_some_iff.1 hk).1
        simp at this; omega
      rw [hi'] at hk; rw [hs.φlen, hi'] at hβ
      simp at hk hβ
      subst hk; subst hβ
      have hlen : cells.length ≤ vs.size := by
        have := relL_length hc
        simp at this; omega
      refine ⟨⟨vs, fr, heap_alloc_new _ _, hlen, hfr⟩, relAt_of_get fun j x hj => ?_⟩
      obtain ⟨u, hu, hr⟩ := relL_get hc j x hj
      refine ⟨u, ?_, rel_mono hle x u hr⟩
      have hjl := (List.getElem?_eq_some_iff.1 hj).1
      rw [List.getElem?_take, if_pos hjl] at hu
      simp only [cx, World.cell?, Nat.zero_add, heap_alloc_new]
      simpa using hu

theorem curOf_set {φ : List Nat} {h : List ABlk} {i j : Nat} {k k' : ABlk} {β β' : Nat} (hc : curOf φ h j = some (k, β)) (k1 : ABlk) (β1 : Nat) :
    ∃ k2 β2, curOf (φ.set i β1) (h.set i k1) j = some (k2, β2) ∧ (i = j → k2 = k1 ∧ β2 = β1) ∧ (i ≠ j → k2 = k ∧ β2 = β) := by
  obtain ⟨h1, h2⟩ := curOf_eq.1 hc
  by_cases e : i = j
  · subst e
    have l1 := (List.getElem?_eq_some_iff.1 h1).1
    have l2 := (List.getElem?_eq_some_iff.1 h2).1
    exact ⟨k1, β1, curOf_eq.2 ⟨by simp [l1], by simp [l2]⟩, fun _ => ⟨rfl, rfl⟩, fun h => absurd rfl h⟩
  · exact ⟨k, β, curOf_eq.2 ⟨by rw [List.getElem?_set_ne e]; exact h1, by rw [List.getElem?_set_ne e]; exact h2⟩, fun h => absurd h e, fun _ => ⟨rfl, rfl⟩⟩
theorem set_self {α : Type} {l : List α} {i : Nat} {x : α} (h : l[i]? = some x) : l.set i x = l := by
  apply List.ext_getElem?
  intro j
  by_cases e : i = j
  · subst e; rw [List.getElem?_set_self (List.getElem?_eq_some_iff.1 h).1, h]
  · rw [List.getElem?_set_ne e]
theorem nodup_get {l : List Nat} (h : l.Nodup) {i j : Nat} {x : Nat} (hi : l[i]? = some x) (hj : l[j]? = some x) : i = j := by
  obtain ⟨h1, e1⟩ := List.getElem?_eq_some_iff.1 hi
  obtain ⟨h2, e2⟩ := List.getElem?_eq_some_iff.1 hj
  exact (List.getElem_inj h).1 (e1.trans e2.symm)

/-- Cells of a block of the call's own are written, in place. -/
theorem SR.upd (hs : SR X φ st a w) {w' : World} {i : Nat} {k : ABlk} {β : Nat} (hk : st.h[i]? = some k) (hβ : φ[i]? = some β) {vs vs' : Array Value} {fr : Nat × Nat} {cells : List AV} {ver : Nat} (hver : k.ver ≤ ver)
    (hold : w.heap[β]? = some (.cells vs k.e fr)) (hnew : w'.heap[β]? = some (.cells vs' k.e fr)) (hvs : vs'.size = vs.size) (hoth : ∀ r, r ≠ β → w'.heap[r]? = w.heap[r]?) (hsz : w'.heap.size = w.heap.size)
    (hos : w'.os = w.os) (htape : w'.tape = w.tape) (hout : w'.output = w.output) (hc : relL cells (cx X φ st.h w) (vs'.toList.take cells.length)) :
    SR X φ { st with h := st.h.set i ⟨ver, k.e, cells⟩ } a w' := by
  have hβm := List.mem_of_getElem? hβ
  have hlt := fun β hβ => (hs.rng β hβ).2
  have hcell : ∀ r off, r ≠ β → w'.cell? ⟨r, off, none⟩ = w.cell? ⟨r, off, none⟩ := fun r off hr => by unfold World.cell?; simp only [hoth r hr]
  have hle : (cx X φ st.h w).le (cx X φ (st.h.set i ⟨ver, k.e, cells⟩) w') := by
    refine ⟨rfl, fun b r ⟨h1, h2, h3⟩ => ⟨by simpa [cx, hsz] using h1, h2, h3⟩, fun b r off u ⟨_, h2, _⟩ hu => ?_, fun j k2 β2 hj => ?_⟩
    · have : r ≠ β := fun e => h2 (e ▸ hβm)
      exact (hcell r off this).trans hu
    · obtain ⟨k3, β3, h1, h2, h3⟩ := curOf_set (k' := k) (β' := β) hj ⟨ver, k.e, cells⟩ β (i := i)
      rw [set_self hβ] at h1
      obtain ⟨g1, g2⟩ := curOf_eq.1 hj
      refine ⟨k3, β3, h1, ?_, fun ev => ?_⟩
      · by_cases ij : i = j
        · obtain ⟨rfl, _⟩ := h2 ij
          subst ij
          rw [hk] at g1; cases g1; exact hver
        · obtain ⟨rfl, _⟩ := h3 ij; exact Nat.le_refl _
      · by_cases ij : i = j
        · obtain ⟨rfl, rfl⟩ := h2 ij
          subst ij
          rw [hk] at g1; cases g1
          rw [hβ] at g2; cases g2
          refine ⟨rfl, rfl, ?_⟩
          simp only [cx, World.shape?, hold, hnew, hvs]
        · obtain ⟨rfl, rfl⟩ := h3 ij
          refine ⟨rfl, rfl, ?_⟩
          have : β3 ≠ β := fun e' => ij (nodup_get hs.nodup hβ (e' ▸ g2))
          simp only [cx, World.shape?, hoth _ this]
  have hbw : Below X.w0.heap.size w w' := ⟨hos, htape, hout, by omega, fun r hr => hoth r (by have := (hs.rng β hβm).1; omega)⟩
  refine { below := hs.below.trans hbw, defers := hs.defers, kp := fun p hp => (hoth p.1 (hs.kp_not hp hβ)).trans (hs.kp p hp), kd := hs.kd, le0 := fun c hc => Cx.le_trans (hs.le0 c hc) hle, slots := fun t => rel_mono hle _ _ (hs.slots t), len := hs.len, gl := fun k => ⟨(hs.gl k).1, rel_mono hle _ _ (hs.gl k).2⟩, φlen := by simp [hs.φlen], nodup := hs.nodup, rng := fun β' h' => ⟨(hs.rng β' h').1, by rw [hsz]; exact hlt β' h'⟩, blk := fun j k2 β2 hj hb2 => ?_ }
  by_cases ij : i = j
  · subst ij
    rw [hβ] at hb2; cases hb2
    have l1 := (List.getElem?_eq_some_iff.1 hk).1
    have : k2 = ⟨ver, k.e, cells⟩ := by simpa [l1] using hj.symm
    subst this
    obtain ⟨⟨vs0, fr0, h1, h1', h2⟩, h3⟩ := hs.blk i k β hk hβ
    rw [hold] at h1; cases h1
    have hlen : cells.length ≤ vs'.size := by
      have := relL_length hc
      simp at this; omega
    refine ⟨⟨vs', fr, hnew, hlen, fun off ho => h2 off (by omega)⟩, relAt_of_get fun j x hj' => ?_⟩
    obtain ⟨u, hu, hr⟩ := relL_get hc j x hj'
    refine ⟨u, ?_, rel_mono hle x u hr⟩
    have hjl := (List.getElem?_eq_some_iff.1 hj').1
    rw [List.getElem?_take, if_pos hjl] at hu
    simp only [cx, World.cell?, Nat.zero_add, hnew]
    simpa using hu
  · rw [List.getElem?_set_ne ij] at hj
    have hne : β2 ≠ β := fun e' => ij (nodup_get hs.nodup hβ (e' ▸ hb2))
    obtain ⟨⟨vs0, fr0, h1, h1', h2⟩, h3⟩ := hs.blk j k2 β2 hj hb2
    exact ⟨⟨vs0, fr0, by rw [hoth _ hne]; exact h1, h1', h2⟩, relAt_le hle (fun off u hu => (hcell β2 off hne).trans hu) h3⟩

/-- A block of the call's own is made anew elsewhere. -/
theorem SR.moved (hs : SR X φ st a w) {i : Nat} {k : ABlk} {β : Nat} (hk : st.h[i]? = some k) (hβ : φ[i]? = some β) {vs : Array Value} {e : TypeId} {fr : Nat × Nat} {cells : List AV} {ver : Nat} (hver : k.ver < ver)
    (hc : relL cells (cx X φ st.h w) (vs.toList.take cells.length)) (hfr : ∀ off, off < vs.size → ¬ (fr.1 ≤ off ∧ off < fr.2)) :
    SR X (φ.set i w.heap.size) { st with h := st.h.set i ⟨ver, e, cells⟩ } a (w.alloc (.cells vs e fr)) := by
  have hnot : w.heap.size ∉ φ := fun hm => Nat.lt_irrefl _ (hs.rng _ hm).2
  have hlt : ∀ β ∈ φ, β < w.heap.size := fun β hβ => (hs.rng β hβ).2
  have hle : (cx X φ st.h w).le (cx X (φ.set i w.heap.size) (st.h.set i ⟨ver, e, cells⟩) (w.alloc (.cells vs e fr))) := by
    refine ⟨rfl, fun b r ⟨h1, h2, h3⟩ => ⟨by simp; omega, fun hm => ?_, h3⟩, fun b r off u ⟨h1, _⟩ hu => (World.cell?_alloc_lt _ _ ⟨r, off, none⟩ h1).trans hu, fun j k2 β2 hj => ?_⟩
    · rcases List.mem_or_eq_of_mem_set hm with h | h
      · exact h2 h
      · omega
    · obtain ⟨k3, β3, h1, h2, h3⟩ := curOf_set (k' := k) (β' := β) hj ⟨ver, e, cells⟩ w.heap.size (i := i)
      obtain ⟨g1, g2⟩ := curOf_eq.1 hj
      refine ⟨k3, β3, h1, ?_, fun ev => ?_⟩
      · by_cases ij : i = j
        · obtain ⟨rfl, _⟩ := h2 ij
          subst ij
          rw [hk] at g1; cases g1; exact Nat.le_of_lt hver
        · obtain ⟨rfl, _⟩ := h3 ij; exact Nat.le_refl _
      · by_cases ij : i = j
        · obtain ⟨rfl, rfl⟩ := h2 ij
          subst ij
          rw [hk] at g1; cases g1
          simp at ev; omega
        · obtain ⟨rfl, rfl⟩ := h3 ij
          refine ⟨rfl, rfl, ?_⟩
          simp only [cx, World.shape?]
          rw [Below.heap_alloc _ _ _ (hlt _ (List.mem_of_getElem? g2))]
  refine { below := hs.below.alloc hs.below.size _, defers := hs.defers, kp := fun p hp => (Below.heap_alloc _ _ _ (hs.kp_lt hp)).trans (hs.kp p hp), kd := (fun p hp hm => by have h1 := hs.kp_lt hp; rcases List.mem_or_eq_of_mem_set hm with h | h; exact hs.kd p hp h; omega), le0 := fun c hc => Cx.le_trans (hs.le0 c hc) hle, slots := fun t => rel_mono hle _ _ (hs.slots t), len := hs.len, gl := fun k => ⟨(hs.gl k).1, rel_mono hle _ _ (hs.gl k).2⟩, φlen := by simp [hs.φlen], nodup := ?_, rng := ?_, blk := ?_ }
  · rw [List.nodup_iff_pairwise_ne, List.pairwise_iff_getElem]
    intro p q hp hq hpq
    have hp' : p < φ.length := by simpa using hp
    have hq' : q < φ.length := by simpa using hq
    rw [List.getElem_set, List.getElem_set]
    split <;> split
    · omega
    · exact fun e => hnot (e ▸ List.getElem_mem hq')
    · exact fun e => hnot (e ▸ List.getElem_mem hp')
    · exact fun e => by have := (List.getElem_inj hs.nodup).1 e; omega
  · intro β' h'
    rcases List.mem_or_eq_of_mem_set h' with h | h
    · exact ⟨(hs.rng β' h).1, by simp; have := hlt β' h; omega⟩
    · subst h; exact ⟨hs.below.size, by simp⟩
  · intro j k2 β2 hj hb2
    by_cases ij : i = j
    · subst ij
      have l1 := (List.getElem?_eq_some_iff.1 hk).1
      have l2 := (List.getElem?_eq_some_iff.1 hβ).1
      have e1 : k2 = ⟨ver, e, cells⟩ := by simpa [l1] using hj.symm
      have e2 : β2 = w.heap.size := by simpa [l2] using hb2.symm
      subst e1; subst e2
      have hlen : cells.length ≤ vs.size := by
        have := relL_length hc
        simp at this; omega
      refine ⟨⟨vs, fr, heap_alloc_new _ _, hlen, hfr⟩, relAt_of_get fun j x hj' => ?_⟩
      obtain ⟨u, hu, hr⟩ := relL_get hc j x hj'
      refine ⟨u, ?_, rel_mono hle x u hr⟩
      have hjl := (List.getElem?_eq_some_iff.1 hj').1
      rw [List.getElem?_take, if_pos hjl] at hu
      simp only [cx, World.cell?, Nat.zero_add, heap_alloc_new]
      simpa using hu
    · rw [List.getElem?_set_ne ij] at hj hb2
      obtain ⟨⟨vs0, fr0, h1, h1', h2⟩, h3⟩ := hs.blk j k2 β2 hj hb2
      have hl := hlt β2 (List.mem_of_getElem? hb2)
      exact ⟨⟨vs0, fr0, by rw [Below.heap_alloc _ _ _ hl]; exact h1, h1', h2⟩, relAt_le hle (fun off u hu => (World.cell?_alloc_lt _ _ ⟨β2, off, none⟩ hl).trans hu) h3⟩

mutual
theorem rel_cut {c c' : Cx} (hP : c'.P = c.P) (hw : c'.w = c.w) (hok : ∀ b r, c.ok b r → c'.ok b r) {n : Nat} (hcur : ∀ i, i < n → c'.cur i = c.cur i) : ∀ (x : AV) (u : Value), okRef n x = true → rel x c u → rel x c' u
  | .v _, _, _, hr => hr
  | .nan, _, _, hr => hr
  | .sl b m m' cs, u, _, hr => by
    simp only [rel] at hr ⊢
    obtain ⟨r, off, cap, h1, h2, h3, h4, h5⟩ := hr
    exact ⟨r, off, cap, h1, h2, h3, hok _ _ h4, relAt_mono (c := c.shut) (c' := c'.shut) ⟨hP, hok, fun _ _ _ _ _ h => by show c'.w.cell? _ = _; rw [hw]; exact h, fun _ _ _ h => by cases h⟩ cs r off ⟨b, h4⟩ h5⟩
  | .ela b cs, u, _, hr => by
    simp only [rel] at hr ⊢
    obtain ⟨r, off, h1, h4, h5⟩ := hr
    exact ⟨r, off, h1, hok _ _ h4, relAt_mono (c := c.shut) (c' := c'.shut) ⟨hP, hok, fun _ _ _ _ _ h => by show c'.w.cell? _ = _; rw [hw]; exact h, fun _ _ _ h => by cases h⟩ cs r off ⟨b, h4⟩ h5⟩
  | .agg cs, u, ho, hr => by
    simp only [rel] at hr ⊢
    obtain ⟨us, h1, h2⟩ := hr
    exact ⟨us, h1, relL_cut hP hw hok hcur cs _ (by simpa [okRef] using ho) h2⟩
  | .tup cs, u, ho, hr => by
    simp only [rel] at hr ⊢
    obtain ⟨us, h1, h2⟩ := hr
    exact ⟨us, h1, relL_cut hP hw hok hcur cs _ (by simpa [okRef] using ho) h2⟩
  | .ifc t x, u, ho, hr => by
    simp only [rel] at hr ⊢
    obtain ⟨y, h1, h2⟩ := hr
    exact ⟨y, h1, rel_cut hP hw hok hcur x _ (by simpa [okRef] using ho) h2⟩
  | .own i ver m, u, ho, hr => by
    have hi : i < n := by simpa [okRef] using ho
    simp only [rel] at hr ⊢
    rw [hcur i hi, hw, hP]; exact hr
  | .ptr i ver off, u, ho, hr => by
    have hi : i < n := by simpa [okRef] using ho
    simp only [rel] at hr ⊢
    rw [hcur i hi]; exact hr
  | .clo f fs cs, u, ho, hr => by
    have ho' : okRefL n fs = true ∧ okRefL n cs = true := by simpa [okRef] using ho
    simp only [rel] at hr ⊢
    obtain ⟨a, b, h1, h2, h3⟩ := hr
    exact ⟨a, b, h1, relL_cut hP hw hok hcur fs _ ho'.1 h2, relL_cut hP hw hok hcur cs _ ho'.2 h3⟩
  | .bad, _, _, _ => by simp only [rel]
theorem relL_cut {c c' : Cx} (hP : c'.P = c.P) (hw : c'.w = c.w) (hok : ∀ b r, c.ok b r → c'.ok b r) {n : Nat} (hcur : ∀ i, i < n → c'.cur i = c.cur i) : ∀ (xs : List AV) (us : List Value), okRefL n xs = true → relL xs c us → relL xs c' us
  | [], _, _, hr => hr
  | x :: xs, us, ho, hr => by
    have ho' : okRef n x = true ∧ okRefL n xs = true := by simpa [okRefL] using ho
    simp only [relL] at hr ⊢
    obtain ⟨u, us', h1, h2, h3⟩ := hr
    exact ⟨u, us', h1, rel_cut hP hw hok hcur x _ ho'.1 h2, relL_cut hP hw hok hcur xs _ ho'.2 h3⟩
end
theorem okRefL_get {n : Nat} : ∀ {xs : List AV}, okRefL n xs = true → ∀ (j : Nat) x, xs[j]? = some x → okRef n x = true
  | [], _, j, x, h => by simp at h
  | y :: xs, ho, j, x, h => by
    have ho' : okRef n y = true ∧ okRefL n xs = true := by simpa [okRefL] using ho
    cases j with
    | zero => simp at h; subst h; exact ho'.1
    | succ j => exact okRefL_get ho'.2 j x (by simpa using h)
theorem okRefB_get {n : Nat} : ∀ {ks : List ABlk}, okRefB n ks = true → ∀ (j : Nat) k, ks[j]? = some k → okRefL n k.cells = true
  | [], _, j, x, h => by simp at h
  | y :: xs, ho, j, x, h => by
    have ho' : okRefL n y.cells = true ∧ okRefB n xs = true := by simpa [okRefB] using ho
    cases j with
    | zero => simp at h; subst h; exact ho'.1
    | succ j => exact okRefB_get ho'.2 j x (by simpa using h)
theorem look_mem : ∀ {l : List (Nat × AV)} {t : Nat}, look l t = .bad ∨ (t, look l t) ∈ l
  | [], t => .inl rfl
  | (d, r) :: l, t => by
    simp only [look]
    split
    · rename_i e; subst e; exact .inr (by simp)
    · rcases look_mem (l := l) (t := t) with h | h
      · exact .inl h
      · exact .inr (by simp [h])
theorem allIn_mem {l : List (Nat × AV)} : ∀ {l2 : List (Nat × AV)}, allIn l l2 → ∀ d r, (d, r) ∈ l2 → look l d = r
  | [], _, d, r, hm => by simp at hm
  | (d', r') :: l2, h, d, r, hm => by
    simp only [allIn] at h
    rcases List.mem_cons.1 hm with e | hm
    · cases e; exact h.1
    · exact allIn_mem h.2 d r hm
theorem okRefL_mem {n : Nat} : ∀ {xs : List AV}, okRefL n xs = true → ∀ x ∈ xs, okRef n x = true
  | [], _, x, h => by simp at h
  | y :: xs, ho, x, h => by
    have ho' : okRef n y = true ∧ okRefL n xs = true := by simpa [okRefL] using ho
    rcases List.mem_cons.1 h with rfl | h
    · exact ho'.1
    · exact okRefL_mem ho'.2 x h
mutual
theorem okRef_tree {n : Nat} : ∀ (x : AV), treeA x = true → okRef n x = true
  | .v _, _ => rfl
  | .nan, _ => rfl
  | .sl .., _ => rfl
  | .ela .., _ => rfl
  | .agg cs, h => by simp only [okRef]; exact okRefL_tree cs (by simpa [treeA] using h)
  | .tup cs, h => by simp only [okRef]; exact okRefL_tree cs (by simpa [treeA] using h)
  | .ifc _ x, h => by simp only [okRef]; exact okRef_tree x (by simpa [treeA] using h)
  | .own .., h => by simp [treeA] at h
  | .ptr .., h => by simp [treeA] at h
  | .clo _ fs cs, h => by
    have h' : treeL fs = true ∧ treeL cs = true := by simpa [treeA] using h
    simp only [okRef, okRefL_tree fs h'.1, okRefL_tree cs h'.2, Bool.and_self]
  | .bad, _ => rfl
theorem okRefL_tree {n : Nat} : ∀ (xs : List AV), treeL xs = true → okRefL n xs = true
  | [], _ => rfl
  | x :: xs, h => by
    have h' : treeA x = true ∧ treeL xs = true := by simpa [treeL] using h
    simp only [okRefL, okRef_tree x h'.1, okRefL_tree xs h'.2, Bool.and_self]
end
theorem SR.weak (hs : SR X φ st a w) (h0 : X.c0 = none) {s2 : St} (hw : st.weak s2) : ∃ φ', SR X φ' s2 a w := by
  obtain ⟨hn, hg, hl, h2⟩ := hw
  obtain ⟨⟨n2, l2, g2⟩, sh⟩ := s2
  simp only at hn hg hl h2
  subst hn
  subst hg
  have hlook : ∀ t, look l2 t = .bad ∨ look l2 t = look st.s.l t := fun t => by
    rcases look_mem (l := l2) (t := t) with h | h
    · exact .inl h
    · exact .inr (allIn_mem hl _ _ h).symm
  rcases h2 with rfl | ⟨hsh, ho, hb⟩
  · refine ⟨φ, { hs with slots := fun t => ?_ }⟩
    rcases hlook t with h | h
    · simp only [h, rel]
    · simp only [h]; exact hs.slots t
  · obtain ⟨n, hn⟩ : ∃ n, n = sh.length := ⟨_, rfl⟩
    rw [← hn] at hsh ho hb
    subst hsh
    have hok : ∀ b r, (cx X φ st.h w).ok b r → (cx X (φ.take n) (st.h.take n) w).ok b r := fun b r ⟨g1, g2, g3⟩ => ⟨g1, fun hm => g2 (List.mem_of_mem_take hm), g3⟩
    have hcur : ∀ i, i < n → (cx X (φ.take n) (st.h.take n) w).cur i = (cx X φ st.h w).cur i := fun i hi => by simp only [cx, curOf, List.getElem?_take, hi, if_true]
    refine ⟨φ.take n, { below := hs.below, defers := hs.defers, kp := hs.kp, kd := (fun p hp hm => hs.kd p hp (List.mem_of_mem_take hm)), le0 := (fun c hc => by rw [h0] at hc; cases hc), slots := fun t => ?_, len := hs.len, gl := fun k => ⟨(hs.gl k).1, rel_cut (c := cx X φ st.h w) (c' := cx X (φ.take n) (st.h.take n) w) rfl rfl hok hcur _ _ (okRef_tree _ (hs.gl k).1) (hs.gl k).2⟩, φlen := by simp [hs.φlen], nodup := hs.nodup.sublist (List.take_sublist _ _), rng := fun β hβ => hs.rng β (List.mem_of_mem_take hβ), blk := fun i k β hk hβ => ?_ }⟩
    · rcases look_mem (l := l2) (t := t) with h | h
      · simp only [h, rel]
      · have e := allIn_mem hl _ _ h
        have ho' : okRef n (look l2 t) = true := okRefL_mem ho _ (List.mem_map.2 ⟨_, h, rfl⟩)
        refine rel_cut (c := cx X φ st.h w) (c' := cx X (φ.take n) (st.h.take n) w) rfl rfl hok hcur _ _ ho' ?_
        rw [← e]; exact hs.slots t
    · have hi : i < n := by
        by_cases hi : i < n
        · exact hi
        · rw [List.getElem?_take, if_neg hi] at hk; cases hk
      have hk' := hk
      rw [List.getElem?_take, if_pos hi] at hk hβ
      obtain ⟨g1, g2⟩ := hs.blk i k β hk hβ
      refine ⟨g1, relAt_of_get fun j x hj => ?_⟩
      obtain ⟨u, hu, hr⟩ := relAt_get g2 j x hj
      exact ⟨u, hu, rel_cut (c := cx X φ st.h w) (c' := cx X (φ.take n) (st.h.take n) w) rfl rfl hok hcur x u (okRefL_get (okRefB_get hb i k hk') j x hj) hr⟩
end
end Go.Ev
/- Each operation does to the machine what it does to the abstract state. -/
namespace Go.Ev
set_option linter.all false
open Go Go.RowKit

def Nx (X : Fix) (K : St → Prop) (a : Act) (w : World) : Prop := ∃ φ st, SR X φ st a w ∧ K st

section
variable {X : Fix} {φ : List Nat} {st : St} {a : Act} {w : World} {o : Oper} {Q : Exit → Act → World → Prop} {K : St → Prop}

theorem wp_val {s : Sem Value} (he : execOp a.eval o = (do pure (.value (← s)) : Sem Next)) {u : Value} {w' : World} (hr : s.run X.P w = .ok u w')
    {N : Act → World → Prop} (hn : N (a.put o.dst u) w') : o.wp X.P a w N Q := by
  unfold Oper.wp
  rw [he, Sem.run_bind, hr]
  exact hn
/-- The operation yields a value, the world stays (but for draws). -/
theorem wp_yield (hs : SR X φ st a w) {s : Sem Value} (he : execOp a.eval o = (do pure (.value (← s)) : Sem Next)) {u : Value} {w' : World} (hr : s.run X.P w = .ok u w') (hw : w' = w ∨ w' = w.drew)
    {r : AV} (hrel : rel r (cx X φ st.h w) u) (hk : K { st with s := putS st.s o.dst r }) : o.wp X.P a w (Nx X K) Q := by
  refine wp_val he hr ⟨φ, _, ?_, hk⟩
  rcases hw with rfl | rfl
  · exact hs.put _ hrel
  · have hs' := hs.world (below_drew w)
    refine hs'.put _ (rel_mono (cx_le_same (w := w) (w' := w.drew) (fun _ _ => rfl) (fun _ _ => rfl) (Nat.le_refl _) (fun β hβ => (hs.rng β hβ).2) _) _ _ hrel)

/-! ### Types -/
theorem run_info {t : TypeId} {i : TypeInfo} (h : X.P.info? t = some i) (w : World) : (typeInfo t).run X.P w = .ok i w := by
  simp [typeInfo, h]
theorem run_size {P : Program} {t n : Nat} (h : sizeT P t = some n) (w : World) : (sizeOf t).run P w = .ok n w := by
  unfold sizeT at h
  cases hi : P.info? t with
  | none => simp [hi] at h
  | some i => simp [hi] at h; simp [sizeOf, typeInfo, hi, h]
theorem run_zero {P : Program} {t : TypeId} {z : Value} (h : zeroT P t = some z) (w : World) : (zeroValue t).run P w = .ok z w := by
  unfold zeroT at h
  cases hi : P.info? t with
  | none => simp [hi] at h
  | some i => simp [hi] at h; simp [zeroValue, typeInfo, hi, h]
theorem run_isAgg {P : Program} {t : TypeId} {b : Bool} (h : aggT P t = some b) (w : World) : (isAgg t).run P w = .ok b w := by
  unfold aggT at h
  cases hd : P.underlying t with
  | none => simp [hd] at h
  | some d =>
    rw [hd] at h
    unfold isAgg
    rw [Sem.run_bind, run_underlying hd w]
    cases d <;> simp_all
theorem elemT_eq {P : Program} {t e : TypeId} (h : elemT P t = some e) : P.underlying t = some (.slice e) := by
  unfold elemT at h
  split at h
  · cases h; assumption
  · cases h
theorem arrT_eq {P : Program} {t n e : Nat} (h : arrT P t = some (n, e)) : P.underlying t = some (.array n e) := by
  unfold arrT at h
  split at h
  · cases h; assumption
  · cases h
theorem intT_eq {P : Program} {t : Nat} {k : IntKind} (h : intT P t = some k) : P.underlying t = some (.int k) := by
  unfold intT at h
  split at h
  · cases h; assumption
  · cases h
theorem strT_eq {P : Program} {t : Nat} (h : strT P t = true) : P.underlying t = some .string := by
  unfold strT at h
  split at h
  · assumption
  · cases h
theorem ifcT_eq {P : Program} {t : Nat} (h : ifcT P t = some true) : ∃ ms, P.underlying t = some (.interface ms) := by
  unfold ifcT at h
  cases hd : P.underlying t with
  | none => simp [hd] at h
  | some d => rw [hd] at h; cases d <;> simp at h; exact ⟨_, rfl⟩
theorem fieldT_eq {P : Program} {t f off ft : Nat} (h : fieldT P t f = some (off, ft)) : ∃ fs fd, P.underlying t = some (.struct fs) ∧ fs[f]? = some fd ∧ fd.offset = off ∧ fd.type = ft := by
  unfold fieldT at h
  split at h
  · rename_i fs hu
    cases hf : fs[f]? with
    | none => simp [hf] at h
    | some fd => simp [hf] at h; exact ⟨fs, fd, hu, hf, h.1, h.2⟩
  · cases h
theorem sizeT_cells {P : Program} {t n : Nat} (h : sizeT P t = some n) : P.cellsOf t = n := by
  unfold sizeT at h; simp [Program.cellsOf, h]

/-! ### Values -/
theorem rel_one {c : Cx} {x : AV} {u : Value} (h : rel x c u) (ho : oneA x = true) : u.oneCell' = true ∧ u.cells = #[u] := by
  cases x with
  | v y => simp only [rel] at h; subst h; refine ⟨ho, ?_⟩; cases u <;> simp [oneA, Value.oneCell'] at ho <;> rfl
  | nan => simp only [rel] at h; obtain ⟨b, rfl, _⟩ := h; exact ⟨rfl, rfl⟩
  | sl b n m cs => simp only [rel] at h; obtain ⟨r, off, cap, rfl, _⟩ := h; exact ⟨rfl, rfl⟩
  | ela b cs => simp only [rel] at h; obtain ⟨r, off, rfl, _⟩ := h; exact ⟨rfl, rfl⟩
  | agg cs => simp [oneA] at ho
  | tup cs => simp [oneA] at ho
  | ifc t x => simp only [rel] at h; obtain ⟨y, rfl, _⟩ := h; exact ⟨rfl, rfl⟩
  | own i ver n => simp only [rel] at h; obtain ⟨_, _, _, _, ⟨_, _, _, rfl⟩, _⟩ := h; exact ⟨rfl, rfl⟩
  | ptr i ver off => simp only [rel] at h; obtain ⟨_, _, _, _, ⟨_, rfl⟩, _⟩ := h; exact ⟨rfl, rfl⟩
  | clo f fs cs => simp only [rel] at h; obtain ⟨_, _, rfl, _⟩ := h; exact ⟨rfl, rfl⟩
  | bad => simp [oneA] at ho
theorem relL_one {c : Cx} : ∀ {xs : List AV} {us : List Value}, relL xs c us → xs.all oneA = true → ∀ u ∈ us, u.oneCell' = true
  | [], us, h, _, u, hu => by simp only [relL] at h; subst h; simp at hu
  | x :: xs, us, h, ho, u, hu => by
    simp only [relL] at h
    obtain ⟨v, us', rfl, h2, h3⟩ := h
    simp only [List.all_cons, Bool.and_eq_true] at ho
    rcases List.mem_cons.1 hu with rfl | hm
    · exact (rel_one h2 ho.1).1
    · exact relL_one h3 ho.2 u hm
theorem rel_flat {c : Cx} {x : AV} {u : Value} {cs : List AV} (h : rel x c u) (hf : flat x = some cs) : relL cs c u.cells.toList ∧ ∀ v ∈ u.cells.toList, v.oneCell' = true := by
  have key : ∀ y : AV, rel y c u → oneA y = true → relL [y] c u.cells.toList ∧ ∀ v ∈ u.cells.toList, v.oneCell' = true := by
    intro y hy ho
    obtain ⟨h1, h2⟩ := rel_one hy ho
    rw [h2]
    refine ⟨by simp only [relL]; exact ⟨u, [], rfl, hy, rfl⟩, fun v hv => ?_⟩
    simp at hv; subst hv; exact h1
  cases x with
  | agg cs' =>
    simp only [flat] at hf
    split at hf
    · rename_i ho
      cases hf
      simp only [rel] at h
      obtain ⟨us, rfl, h2⟩ := h
      exact ⟨h2, relL_one h2 ho⟩
    · cases hf
  | _ =>
    simp only [flat] at hf
    split at hf
    · rename_i ho
      cases hf
      exact key _ h ho
    · cases hf
theorem rel_zeroCells (c : Cx) (z : Value) : relL (zeroCells z) c z.cells.toList := by
  cases z with
  | agg cs =>
    simp only [zeroCells, Value.cells]
    generalize cs.toList = l
    induction l with
    | nil => simp [relL]
    | cons y l ih => simp only [List.map_cons, relL, rel]; exact ⟨y, l, rfl, rfl, ih⟩
  | _ => simp only [zeroCells, Value.cells, relL, rel]; exact ⟨_, _, rfl, rfl, rfl⟩

/-! ### Loads -/
theorem run_loadCells_at {P : Program} (r off : Nat) (us : List Value) (h : ∀ (j : Nat) u, us[j]? = some u → w.cell? ⟨r, off + j, none⟩ = some u) :
    (loadCells ⟨r, off, none⟩ us.length).run P w = .ok us.toArray w :=
  run_loadCells_list w _ us (fun j v hv => by rw [Addr.add_lit]; exact h j v hv)
theorem relAt_list {c : Cx} {cs : List AV} {r off : Nat} (h : relAt cs c r off) : ∃ us, relL cs c us ∧ ∀ (j : Nat) u, us[j]? = some u → c.w.cell? ⟨r, off + j, none⟩ = some u := by
  induction cs generalizing off with
  | nil => exact ⟨[], by simp [relL], fun j u h => by simp at h⟩
  | cons x cs ih =>
    simp only [relAt] at h
    obtain ⟨⟨u, h1, h2⟩, h3⟩ := h
    obtain ⟨us, g1, g2⟩ := ih h3
    refine ⟨u :: us, by simp only [relL]; exact ⟨u, us, rfl, h2, g1⟩, fun j v hv => ?_⟩
    cases j with
    | zero => simp at hv; subst hv; exact h1
    | succ j => rw [show off + (j + 1) = off + 1 + j by omega]; exact g2 j v (by simpa using hv)
/-- A load out of cells that are known. -/
theorem run_takeA {c : Cx} {t : TypeId} {cs : List AV} {KA : AV → Prop} (h : takeA c.P t cs KA) {r off : Nat} (hc : relAt cs c r off) :
    ∃ x u, (loadVar t ⟨r, off, none⟩).run c.P c.w = .ok u c.w ∧ rel x c u ∧ KA x := by
  unfold takeA at h
  split at h
  · rename_i hb
    obtain ⟨n, hn, hle, hk⟩ := h
    obtain ⟨us, h1, h2⟩ := relAt_list (relAt_take hc n)
    have hl : us.length = n := by have := relL_length h1; simp at this; omega
    have hrun := run_loadCells_at (P := c.P) r off us h2
    rw [hl] at hrun
    refine ⟨.agg (cs.take n), .agg us.toArray, ?_, by simp only [rel]; exact ⟨_, rfl, by simpa using h1⟩, hk⟩
    simp only [loadVar, Sem.run_bind, run_isAgg hb, Result.andThen_ok, if_true, run_size hn, hrun]
    rfl
  · rename_i hb
    obtain ⟨x, hx, hk⟩ := h
    obtain ⟨u, hu, hr⟩ := relAt_get hc 0 x hx
    refine ⟨x, u, ?_, hr, hk⟩
    have hu' : c.w.cell? ⟨r, off, none⟩ = some u := hu
    simp [loadVar, Sem.run_bind, run_isAgg hb, run_load, hu']
  · exact h.elim

theorem SR.at (hs : SR X φ st a w) {i : Nat} {k : ABlk} (hk : st.h[i]? = some k) : ∃ β vs fr, φ[i]? = some β ∧ curOf φ st.h i = some (k, β) ∧ w.heap[β]? = some (.cells vs k.e fr) ∧ k.cells.length ≤ vs.size ∧
    (∀ off, off < vs.size → ¬ (fr.1 ≤ off ∧ off < fr.2)) ∧ relAt k.cells (cx X φ st.h w) β 0 := by
  have hl : i < φ.length := by rw [hs.φlen]; exact (List.getElem?_eq_some_iff.1 hk).1
  have hβ : φ[i]? = some φ[i] := List.getElem?_eq_getElem hl
  obtain ⟨⟨vs, fr, h1, h2, h3⟩, h4⟩ := hs.blk i k _ hk hβ
  exact ⟨_, vs, fr, hβ, curOf_eq.2 ⟨hk, hβ⟩, h1, h2, h3, h4⟩
/-- A context under which frozen data still reads: the same but for the call's own blocks. -/
theorem relAt_shut {c : Cx} {cs : List AV} {r off : Nat} (h : relAt cs c.shut r off) (hr : ∃ b, c.ok b r) : relAt cs c r off :=
  relAt_mono (c := c.shut) (c' := c) ⟨rfl, fun _ _ h => h, fun _ _ _ _ _ h => h, fun _ _ _ h => by cases h⟩ cs r off hr h

theorem op_load (hs : SR X φ st a w) {t : TypeId} {x : Operand} (ho : o.op = .load t x)
    (h : loadA X.P t st (get st.s x) fun r => K { st with s := putS st.s o.dst r }) : o.wp X.P a w (Nx X K) Q := by
  have hx := hs.get x
  have he : execOp a.eval o = (do pure (.value (← Instr.loadAt t (a.eval x))) : Sem Next) := by simp only [execOp, ho]
  have key : ∀ (r off : Nat) (cs : List AV), a.eval x = .pointer (some ⟨r, off, none⟩) → relAt cs (cx X φ st.h w) r off → takeA X.P t cs (fun r => K { st with s := putS st.s o.dst r }) → o.wp X.P a w (Nx X K) Q := by
    intro r off cs hu hc ht
    obtain ⟨y, u, hr, hrel, hk⟩ := run_takeA (c := cx X φ st.h w) ht hc
    refine wp_yield hs he (u := u) (w' := w) ?_ (.inl rfl) hrel hk
    rw [hu]
    exact hr
  unfold loadA at h
  split at h
  · rename_i i ver off hg
    obtain ⟨k, hk, hv, ht⟩ := h
    obtain ⟨β, vs, fr, h1, h2, h3, h4, h5, h6⟩ := hs.at hk
    rw [hg] at hx
    simp only [rel] at hx
    obtain ⟨k', β', g1, g2, g3, g4⟩ := hx
    have : curOf φ st.h i = some (k', β') := g1
    rw [h2] at this; cases this
    refine key β off _ (g4 hv) ?_ ht
    simpa using relAt_drop h6 off
  · rename_i b cs hg
    rw [hg] at hx
    simp only [rel] at hx
    obtain ⟨r, off, g1, g2, g3⟩ := hx
    exact key r off cs g1 (relAt_shut g3 ⟨_, g2⟩) h
  · exact h.elim

/-! ### Stores -/
theorem relL_setMany {c : Cx} : ∀ (xs : List AV) (us : List Value) (l : List AV) (vs : List Value) (i : Nat), relL xs c us → relL l c (vs.take l.length) → i + xs.length ≤ l.length → l.length ≤ vs.length →
    relL (setMany l i xs) c ((vs.take i ++ us ++ vs.drop (i + us.length)).take l.length)
  | [], us, l, vs, i, hx, hl, _, _ => by
    simp only [relL] at hx; subst hx
    simpa [setMany] using hl
  | x :: xs, us, l, vs, i, hx, hl, hle, hlv => by
    simp only [relL] at hx
    obtain ⟨u, us', rfl, h2, h3⟩ := hx
    simp only [List.length_cons] at hle
    have hset : relL (l.set i x) c ((vs.set i u).take (l.set i x).length) := by
      have := relL_set hl i h2
      rw [List.length_set, List.take_set]
      exact this
    have := relL_setMany xs us' (l.set i x) (vs.set i u) (i + 1) h3 hset (by simp; omega) (by simp; omega)
    simp only [setMany]
    rw [List.length_set] at this
    have e : (vs.set i u).take (i + 1) ++ us' ++ (vs.set i u).drop (i + 1 + us'.length) = vs.take i ++ (u :: us') ++ vs.drop (i + (u :: us').length) := by
      have hi : i < vs.length := by omega
      rw [List.drop_set_of_lt (by omega)]
      have : (vs.set i u).take (i + 1) = vs.take i ++ [u] := by
        rw [List.take_succ_eq_append_getElem (by simpa using hi)]
        simp [List.take_set_of_le]
      rw [this]
      simp [Nat.add_assoc, Nat.add_comm, Nat.add_left_comm]
    rw [e] at this
    exact this
theorem run_storeCells_blk {P : Program} (g : Nat) (t : TypeId) (fr : Nat × Nat) : ∀ (vs : List Value) (i off : Nat) (cur : Array Value) (w : World), w.heap[g]? = some (.cells cur t fr) → off + i + vs.length ≤ cur.size →
    (∀ q, q < cur.size → ¬ (fr.1 ≤ q ∧ q < fr.2)) → (∀ v ∈ vs, v.oneCell' = true) →
    ∃ w', (storeCells ⟨g, off, none⟩ vs i).run P w = .ok () w' ∧ w'.heap[g]? = some (.cells (cur.toList.take (off + i) ++ vs ++ cur.toList.drop (off + i + vs.length)).toArray t fr) ∧
      (∀ r, r ≠ g → w'.heap[r]? = w.heap[r]?) ∧ w'.heap.size = w.heap.size ∧ w'.os = w.os ∧ w'.tape = w.tape ∧ w'.output = w.output
  | [], i, off, cur, w, hg, hl, hf, _ => ⟨w, rfl, by simpa using hg, fun _ _ => rfl, rfl, rfl, rfl, rfl⟩
  | v :: rest, i, off, cur, w, hg, hl, hf, h1 => by
    simp only [List.length_cons] at hl
    have hi : off + i < cur.size := by omega
    have hcell : w.cell? ⟨g, off + i, none⟩ = some cur[off + i] := by simp [World.cell?, hg, hi]
    have hfro : w.frozen? ⟨g, off + i, none⟩ = false := by
      have := hf (off + i) hi
      simp only [World.frozen?, hg]
      simp only [Bool.and_eq_false_iff, decide_eq_false_iff_not]
      omega
    have hset : (w.setCell ⟨g, off + i, none⟩ v).heap[g]? = some (.cells (cur.setIfInBounds (off + i) v) t fr) := by
      simp [World.setCell, Array.getElem?_modify, hg]
    have hst : (store ((⟨g, off, none⟩ : Addr).add i) v).run P w = .ok () (w.setCell ⟨g, off + i, none⟩ v) := by
      rw [Addr.add_lit, run_store P w _ v _ (h1 v (by simp)), hcell]
      simp [hfro]
    obtain ⟨w', g1, g2, g3, g4, g5, g6, g7⟩ := run_storeCells_blk g t fr rest (i + 1) off (cur.setIfInBounds (off + i) v) (w.setCell ⟨g, off + i, none⟩ v) hset (by simp; omega) (by simpa using hf) (fun x hx => h1 x (by simp [hx]))
    refine ⟨w', by simp only [storeCells, Sem.run_bind, hst, Result.andThen_ok]; exact g1, ?_, fun r hr => by rw [g3 r hr, Below.heap_setCell _ _ _ _ hr], by rw [g4]; simp, g5, g6, g7⟩
    rw [g2]
    congr 2
    apply congrArg
    have hi' : off + i < cur.toList.length := by simpa using hi
    simp only [Array.toList_setIfInBounds]
    rw [List.drop_set_of_lt (by omega)]
    have : (cur.toList.set (off + i) v).take (off + (i + 1)) = cur.toList.take (off + i) ++ [v] := by
      rw [show off + (i + 1) = off + i + 1 by omega, List.take_succ_eq_append_getElem (by simpa using hi')]
      simp [List.take_set_of_le]
    rw [this]
    simp [Nat.add_assoc, Nat.add_comm, Nat.add_left_comm]
theorem op_store (hs : SR X φ st a w) {t : TypeId} {x y : Operand} (ho : o.op = .store t x y)
    (h : storeA X.P t st (get st.s x) (get st.s y) fun s' => K { s' with s := putS s'.s o.dst .bad }) : o.wp X.P a w (Nx X K) Q := by
  have hx := hs.get x
  have hy := hs.get y
  unfold storeA at h
  split at h
  · rename_i i ver off hg
    obtain ⟨k, cs, hk, hv, hf, hsz, hle, hK⟩ := h
    obtain ⟨β, vs, fr, h1, h2, h3, h4, h5, h6⟩ := hs.at hk
    rw [hg] at hx
    simp only [rel] at hx
    obtain ⟨k', β', g1, g2, g3, g4⟩ := hx
    have : curOf φ st.h i = some (k', β') := g1
    rw [h2] at this; cases this
    have hu := g4 hv
    obtain ⟨hc, hone⟩ := rel_flat hy hf
    have hlen : (a.eval y).cells.toList.length = cs.length := relL_length hc
    obtain ⟨w', r1, r2, r3, r4, r5, r6, r7⟩ := run_storeCells_blk (P := X.P) β k.e fr (a.eval y).cells.toList 0 off vs w h3 (by omega) h5 hone
    have hst : (storeVar t ⟨β, off, none⟩ (a.eval y)).run X.P w = .ok () w' := by
      have e : (a.eval y).cells.size = cs.length := by simpa using hlen
      simp only [storeVar, Sem.run_bind, run_size hsz, Result.andThen_ok, e, ne_eq, not_true_eq_false, if_false]
      exact r1
    have hrun : (execOp a.eval o).run X.P w = .ok .skip w' := by
      simp [execOp, ho, hu, Instr.storeAt, Instr.sureAddr, hst]
    unfold Oper.wp
    rw [hrun]
    obtain ⟨us0, q1, q2⟩ := relAt_list h6
    have hvs : relL k.cells (cx X φ st.h w) (vs.toList.take k.cells.length) := by
      refine relL_of_get (by simp; omega) fun j z hz => ?_
      obtain ⟨u, hu', hr⟩ := relAt_get h6 j z hz
      refine ⟨u, ?_, hr⟩
      have hj := (List.getElem?_eq_some_iff.1 hz).1
      rw [List.getElem?_take, if_pos hj]
      simp only [cx, World.cell?, Nat.zero_add, h3] at hu'
      simpa using hu'
    have hnew := relL_setMany cs (a.eval y).cells.toList k.cells vs.toList off hc hvs hle (by simpa using h4)
    have hlens : (setMany k.cells off cs).length = k.cells.length := by
      have : ∀ (xs l : List AV) (i : Nat), (setMany l i xs).length = l.length := by
        intro xs
        induction xs with
        | nil => intro l i; rfl
        | cons x xs ih => intro l i; simp [setMany, ih]
      exact this _ _ _
    have hsr := hs.upd (w' := w') hk h1 (vs := vs) (vs' := (vs.toList.take (off + 0) ++ (a.eval y).cells.toList ++ vs.toList.drop (off + 0 + (a.eval y).cells.toList.length)).toArray) (fr := fr) (cells := setMany k.cells off cs) (ver := k.ver) (Nat.le_refl _) h3 r2
      (by simp; simp at hlen; omega) r3 r4 r5 r6 r7 (by simpa [hlens] using hnew)
    exact ⟨φ, _, hsr.put o.dst (r := .bad) (u := undef) (by simp only [rel]), hK⟩
  · exact h.elim
end
end Go.Ev
namespace Go.Ev
set_option linter.all false
open Go Go.RowKit
section
variable {X : Fix} {φ : List Nat} {st : St} {a : Act} {w : World} {o : Oper} {Q : Exit → Act → World → Prop} {K : St → Prop}

theorem op_move (hs : SR X φ st a w) {x : Operand} (ho : o.op = .move x ∨ o.op = .assign x) (h : K { st with s := putS st.s o.dst (get st.s x) }) : o.wp X.P a w (Nx X K) Q := by
  have he : execOp a.eval o = pure (.value (a.eval x)) := by rcases ho with ho | ho <;> simp only [execOp, ho]
  unfold Oper.wp
  rw [he]
  exact ⟨φ, _, hs.put _ (hs.get x), h⟩
theorem op_alloc (hs : SR X φ st a w) {t : TypeId} (ho : o.op = .alloc t) {z : Value} (hz : zeroT X.P t = some z)
    (h : K { s := putS st.s o.dst (.ptr st.h.length 0 0), h := st.h ++ [⟨0, t, zeroCells z⟩] }) : o.wp X.P a w (Nx X K) Q := by
  have he : execOp a.eval o = (do pure (.value (← Instr.alloc t true (.tuple #[]))) : Sem Next) := by simp only [execOp, ho]
  have hrun : (Instr.alloc t true (.tuple #[])).run X.P w = .ok (.pointer (some ⟨w.heap.size, 0, none⟩)) (w.alloc (.cells z.cells t)) := by
    simp [Instr.alloc, run_zero hz, newVar, newRow]
  have hl : z.cells.toList.take (zeroCells z).length = z.cells.toList := List.take_of_length_le (by rw [relL_length (rel_zeroCells (cx X φ st.h w) z)]; exact Nat.le_refl _)
  obtain ⟨hp, _⟩ := hs.push (vs := z.cells) (e := t) (fr := (0, 0)) (cells := zeroCells z) (ver := 0) (by rw [hl]; exact rel_zeroCells _ z) (fun off _ => by omega)
  refine wp_val he hrun ⟨_, _, hp.put o.dst (r := .ptr st.h.length 0 0) (u := .pointer (some ⟨w.heap.size, 0, none⟩)) ?_, h⟩
  simp only [rel]
  exact ⟨⟨0, t, zeroCells z⟩, w.heap.size, curOf_eq.2 ⟨by simp, by rw [← hs.φlen]; simp⟩, Nat.le_refl _, ⟨_, rfl⟩, fun _ => rfl⟩
theorem op_box (hs : SR X φ st a w) {t : TypeId} {x : Operand} (ho : o.op = .box t x) {cs : List AV} (hf : flat (get st.s x) = some cs)
    (h : K { s := putS st.s o.dst (.ptr st.h.length 0 0), h := st.h ++ [⟨0, t, cs⟩] }) : o.wp X.P a w (Nx X K) Q := by
  have he : execOp a.eval o = (do pure (.value (← Instr.box t (a.eval x))) : Sem Next) := by simp only [execOp, ho]
  have hrun : (Instr.box t (a.eval x)).run X.P w = .ok (.pointer (some ⟨w.heap.size, 0, none⟩)) (w.alloc (.cells (a.eval x).cells t)) := by
    simp [Instr.box, newVar, newRow]
  obtain ⟨hc, _⟩ := rel_flat (hs.get x) hf
  have hl : (a.eval x).cells.toList.take cs.length = (a.eval x).cells.toList := List.take_of_length_le (by rw [relL_length hc]; exact Nat.le_refl _)
  obtain ⟨hp, _⟩ := hs.push (vs := (a.eval x).cells) (e := t) (fr := (0, 0)) (cells := cs) (ver := 0) (by rw [hl]; exact hc) (fun off _ => by omega)
  refine wp_val he hrun ⟨_, _, hp.put o.dst (r := .ptr st.h.length 0 0) (u := .pointer (some ⟨w.heap.size, 0, none⟩)) ?_, h⟩
  simp only [rel]
  exact ⟨⟨0, t, cs⟩, w.heap.size, curOf_eq.2 ⟨by simp, by rw [← hs.φlen]; simp⟩, Nat.le_refl _, ⟨_, rfl⟩, fun _ => rfl⟩
theorem SR.ptr (hs : SR X φ st a w) {x : Operand} {i ver off : Nat} (hg : Ev.get st.s x = .ptr i ver off) (hl : liveA st i ver) : ∃ k β, a.eval x = .pointer (some ⟨β, off, none⟩) ∧ curOf φ st.h i = some (k, β) ∧ ver = k.ver := by
  obtain ⟨k, hk, hv⟩ := hl
  obtain ⟨β, vs, fr, h1, h2, h3, h4, h5, h6⟩ := hs.at hk
  have hx := hs.get x
  rw [hg] at hx
  simp only [rel] at hx
  obtain ⟨k', β', g1, g2, g3, g4⟩ := hx
  have : curOf φ st.h i = some (k', β') := g1
  rw [h2] at this; cases this
  exact ⟨k, β, g4 hv, h2, hv⟩
theorem SR.own (hs : SR X φ st a w) {x : Operand} {i ver n : Nat} (hg : Ev.get st.s x = .own i ver n) {k : ABlk} (hk : st.h[i]? = some k) (hv : ver = k.ver) :
    ∃ β cap vs fr, a.eval x = .slice (some ⟨β, 0, none⟩) n cap ∧ n ≤ cap ∧ vs.size = cap * X.P.cellsOf k.e ∧ φ[i]? = some β ∧ curOf φ st.h i = some (k, β) ∧ w.heap[β]? = some (.cells vs k.e fr) ∧ k.cells.length ≤ vs.size ∧
    (∀ off, off < vs.size → ¬ (fr.1 ≤ off ∧ off < fr.2)) ∧ relAt k.cells (cx X φ st.h w) β 0 := by
  obtain ⟨β, vs, fr, h1, h2, h3, h4, h5, h6⟩ := hs.at hk
  have hx := hs.get x
  rw [hg] at hx
  simp only [rel] at hx
  obtain ⟨k', β', g1, g2, g3, g4⟩ := hx
  have : curOf φ st.h i = some (k', β') := g1
  rw [h2] at this; cases this
  obtain ⟨cap, q1, q2, q3⟩ := g4 hv
  have q4 : w.shape? β = some (k.e, cap * X.P.cellsOf k.e) := q3
  simp only [World.shape?, h3] at q4
  exact ⟨β, cap, vs, fr, q1, q2, by simpa using q4, h1, h2, h3, h4, h5, h6⟩
theorem rel_ptr {k : ABlk} {β i ver off : Nat} (hc : curOf φ st.h i = some (k, β)) (hv : ver = k.ver) : rel (.ptr i ver off) (cx X φ st.h w) (.pointer (some ⟨β, off, none⟩)) := by
  simp only [rel]
  exact ⟨k, β, hc, by omega, ⟨_, rfl⟩, fun _ => rfl⟩
theorem rel_own {k : ABlk} {β i ver n cap : Nat} (hc : curOf φ st.h i = some (k, β)) (hv : ver = k.ver) (hn : n ≤ cap) (hs : w.shape? β = some (k.e, cap * X.P.cellsOf k.e)) : rel (.own i ver n) (cx X φ st.h w) (.slice (some ⟨β, 0, none⟩) n cap) := by
  simp only [rel]
  exact ⟨k, β, hc, by omega, ⟨_, _, _, rfl⟩, fun _ => ⟨cap, rfl, hn, hs⟩⟩
theorem op_nilCheck (hs : SR X φ st a w) {x : Operand} (ho : o.op = .nilCheck x) (hx : (∃ i ver off, get st.s x = .ptr i ver off ∧ liveA st i ver) ∨ ∃ b cs, get st.s x = .ela b cs)
    (h : K { st with s := putS st.s o.dst (get st.s x) }) : o.wp X.P a w (Nx X K) Q := by
  have : ∃ ad, a.eval x = .pointer (some ad) := by
    rcases hx with ⟨i, ver, off, hg, hl⟩ | ⟨b, cs, hg⟩
    · obtain ⟨k, β, h1, _⟩ := hs.ptr hg hl
      exact ⟨_, h1⟩
    · have := hs.get x
      rw [hg] at this
      simp only [rel] at this
      obtain ⟨r, off, h1, _⟩ := this
      exact ⟨_, h1⟩
  obtain ⟨ad, hu⟩ := this
  have he : execOp a.eval o = pure (.value (a.eval x)) := by simp only [execOp, ho, hu]
  unfold Oper.wp
  rw [he]
  exact ⟨φ, _, hs.put _ (hs.get x), h⟩
theorem op_fieldAddr (hs : SR X φ st a w) {t f : Nat} {x : Operand} (ho : o.op = .fieldAddr t x f) (h : fieldAddrA X.P t st (get st.s x) f fun r => K { st with s := putS st.s o.dst r }) : o.wp X.P a w (Nx X K) Q := by
  have hx := hs.get x
  have he : execOp a.eval o = (do pure (.value (← Instr.fieldAt t (a.eval x) f)) : Sem Next) := by simp only [execOp, ho]
  obtain ⟨off, ft, n, hf, hsz, hn, hm⟩ := h
  obtain ⟨fs, fd, hu, hfs, rfl, rfl⟩ := fieldT_eq hf
  have hrun : ∀ r p, a.eval x = .pointer (some ⟨r, p, none⟩) → (Instr.fieldAt t (a.eval x) f).run X.P w = .ok (.pointer (some ⟨r, p + fd.offset, none⟩)) w := by
    intro r p e
    simp [Instr.fieldAt, run_underlying hu, hfs, e, Instr.sureAddr, fieldPlace, run_size hsz, hn, Addr.add_lit]
  split at hm
  · rename_i i ver p hg
    obtain ⟨k, β, h1, h2, h3⟩ := hs.ptr hg hm.1
    exact wp_yield hs he (hrun _ _ h1) (.inl rfl) (rel_ptr h2 h3) hm.2
  · rename_i b cs hg
    rw [hg] at hx
    simp only [rel] at hx
    obtain ⟨r, p, g1, g2, g3⟩ := hx
    refine wp_yield hs he (hrun _ _ g1) (.inl rfl) (r := .ela b (cs.drop fd.offset)) ?_ hm
    simp only [rel]
    exact ⟨r, _, rfl, g2, relAt_drop g3 _⟩
  · exact hm.elim
theorem op_indexAddr (hs : SR X φ st a w) {t : Nat} {x y : Operand} (ho : o.op = .indexAddr t x y) (h : indexAddrA X.P t st (get st.s x) (get st.s y) fun r => K { st with s := putS st.s o.dst r }) : o.wp X.P a w (Nx X K) Q := by
  have hx := hs.get x
  have hy := hs.get y
  have he : execOp a.eval o = (do pure (.value (← Instr.indexAt t (a.eval x) (a.eval y))) : Sem Next) := by simp only [execOp, ho]
  unfold indexAddrA at h
  split at h
  · rename_i kk i hgy
    rw [hgy] at hy
    simp only [rel] at hy
    split at h
    · rename_i b n m cs hg
      obtain ⟨e, sz, h1, h2, h3, h4, hk⟩ := h
      rw [hg] at hx
      simp only [rel] at hx
      obtain ⟨r, off, cap, g1, g2, g3, g4, g5⟩ := hx
      refine wp_yield hs he (u := .pointer (some ⟨r, off + i.toNat * sz, none⟩)) (w' := w) ?_ (.inl rfl) (r := .ela b (cs.drop (i.toNat * sz))) ?_ hk
      · simp [Instr.indexAt, hy, g1, asIntOf, run_underlying (elemT_eq h1), h3, h4, run_size h2, Addr.add_lit]
      · simp only [rel]
        exact ⟨r, _, rfl, g4, relAt_drop g5 _⟩
    · rename_i j ver n hg
      obtain ⟨k, e, sz, hk, hv, h1, h2, h3, h4, hK⟩ := h
      obtain ⟨β, cap, vs, fr, g1, g2, g3, g4, g5, _⟩ := hs.own hg hk hv
      refine wp_yield hs he (u := .pointer (some ⟨β, i.toNat * sz, none⟩)) (w' := w) ?_ (.inl rfl) (rel_ptr g5 hv) hK
      simp [Instr.indexAt, hy, g1, asIntOf, run_underlying (elemT_eq h1), h3, h4, run_size h2, Addr.add_lit]
    · rename_i j ver off hg
      obtain ⟨hl, n, e, sz, h1, h2, h3, h4, hK⟩ := h
      obtain ⟨k, β, g1, g2, g3⟩ := hs.ptr hg hl
      refine wp_yield hs he (u := .pointer (some ⟨β, off + i.toNat * sz, none⟩)) (w' := w) ?_ (.inl rfl) (rel_ptr g2 g3) hK
      simp [Instr.indexAt, Instr.sureAddr, hy, g1, asIntOf, run_underlying (arrT_eq h1), h3, h4, run_size h2, Addr.add_lit]
    · exact h.elim
  · exact h.elim
/-- A part of a struct or an array. -/
theorem run_part {c : Cx} {t : TypeId} {cs : List AV} {KA : AV → Prop} {off : Nat} (h : takeA c.P t (cs.drop off) KA) {us : Array Value} (hc : relL cs c us.toList) (w : World) :
    ∃ x u, (part t us off).run c.P w = .ok u w ∧ rel x c u ∧ KA x := by
  have hd := relL_drop hc off
  unfold takeA at h
  split at h
  · rename_i hb
    obtain ⟨n, hn, hle, hk⟩ := h
    refine ⟨_, .agg (us.extract off (off + n)), ?_, ?_, hk⟩
    · simp [part, run_isAgg hb, run_size hn]
    · simp only [rel]
      refine ⟨_, rfl, ?_⟩
      have : (us.extract off (off + n)).toList = (us.toList.drop off).take n := by simp [List.extract_eq_take_drop]
      rw [this]
      exact relL_take hd n
  · rename_i hb
    obtain ⟨x, hx, hk⟩ := h
    obtain ⟨u, hu, hr⟩ := relL_get hd 0 x hx
    refine ⟨x, u, ?_, hr, hk⟩
    have : us[off]? = some u := by simpa using hu
    simp [part, run_isAgg hb, this]
  · exact h.elim
theorem op_field (hs : SR X φ st a w) {t f : Nat} {x : Operand} (ho : o.op = .field t x f) {cs : List AV} (hg : get st.s x = .agg cs) {off ft : Nat} (hf : fieldT X.P t f = some (off, ft))
    (h : takeA X.P ft (cs.drop off) fun r => K { st with s := putS st.s o.dst r }) : o.wp X.P a w (Nx X K) Q := by
  have hx := hs.get x
  rw [hg] at hx
  simp only [rel] at hx
  obtain ⟨us, hu, hc⟩ := hx
  have he : execOp a.eval o = (do pure (.value (← Instr.field t (a.eval x) f)) : Sem Next) := by simp only [execOp, ho]
  obtain ⟨fs, fd, hund, hfs, rfl, rfl⟩ := fieldT_eq hf
  obtain ⟨y, u, h1, h2, h3⟩ := run_part (c := cx X φ st.h w) h hc w
  have h1' : (part fd.type us fd.offset).run X.P w = .ok u w := h1
  refine wp_yield hs he (u := u) (w' := w) ?_ (.inl rfl) h2 h3
  simp [Instr.field, run_underlying hund, hfs, hu, asAgg, h1']
theorem str_get (s : ByteArray) (i : Nat) (h : i < s.data.toList.length) : ∃ b, s[i]? = some b ∧ s.data.toList[i]? = some b := by
  have h' : i < s.size := by simpa using h
  refine ⟨s[i], by simp [h'], ?_⟩
  rw [List.getElem?_eq_getElem h]
  rfl
theorem op_index (hs : SR X φ st a w) {t : Nat} {x y : Operand} (ho : o.op = .index t x y) (h : indexA X.P t (get st.s x) (get st.s y) fun r => K { st with s := putS st.s o.dst r }) : o.wp X.P a w (Nx X K) Q := by
  have hx := hs.get x
  have hy := hs.get y
  have he : execOp a.eval o = (do pure (.value (← Instr.index t (a.eval x) (a.eval y))) : Sem Next) := by simp only [execOp, ho]
  unfold indexA at h
  split at h
  · rename_i kk i hgy
    rw [hgy] at hy
    simp only [rel] at hy
    split at h
    · rename_i s hg
      rw [hg] at hx
      simp only [rel] at hx
      obtain ⟨h1, h2, h3, hk⟩ := h
      obtain ⟨b, g1, g2⟩ := str_get s i.toNat (by omega)
      refine wp_yield hs he (u := .int .u8 b.toNat) (w' := w) ?_ (.inl rfl) ?_ hk
      · simp [Instr.index, hy, hx, asIntOf, run_underlying (strT_eq h1), h2, g1]
      · simp [rel, sAt, g2]
    · rename_i cs hg
      obtain ⟨n, e, sz, h1, h2, h3, h4, hk⟩ := h
      rw [hg] at hx
      simp only [rel] at hx
      obtain ⟨us, hu, hc⟩ := hx
      obtain ⟨z, u, g1, g2, g3⟩ := run_part (c := cx X φ st.h w) hk hc w
      have g1' : (part e us (i.toNat * sz)).run X.P w = .ok u w := g1
      refine wp_yield hs he (u := u) (w' := w) ?_ (.inl rfl) g2 g3
      simp [Instr.index, hy, hu, asIntOf, run_underlying (arrT_eq h1), h3, h4, run_size h2, g1']
    · exact h.elim
  · exact h.elim
theorem op_extract (hs : SR X φ st a w) {i : Nat} {x : Operand} (ho : o.op = .extract x i) {cs : List AV} (hg : get st.s x = .tup cs) {y : AV} (hy : cs[i]? = some y)
    (h : K { st with s := putS st.s o.dst y }) : o.wp X.P a w (Nx X K) Q := by
  have hx := hs.get x
  rw [hg] at hx
  simp only [rel] at hx
  obtain ⟨us, hu, hc⟩ := hx
  obtain ⟨u, h1, h2⟩ := relL_get hc i y hy
  have he : execOp a.eval o = (do pure (.value (← Instr.extract (a.eval x) i)) : Sem Next) := by simp only [execOp, ho]
  refine wp_yield hs he (u := u) (w' := w) ?_ (.inl rfl) h2 h
  have : us[i]? = some u := by simpa using h1
  simp [Instr.extract, hu, this]
theorem op_makeInterface (hs : SR X φ st a w) {t : TypeId} {x : Operand} (ho : o.op = .makeInterface t x) (ht : ifcT X.P t = some false) (h : K { st with s := putS st.s o.dst (.ifc t (get st.s x)) }) : o.wp X.P a w (Nx X K) Q := by
  have he : execOp a.eval o = (do pure (.value (← Instr.makeInterface t (a.eval x))) : Sem Next) := by simp only [execOp, ho]
  unfold ifcT at ht
  cases hd : X.P.underlying t with
  | none => simp [hd] at ht
  | some d =>
    rw [hd] at ht
    refine wp_yield hs he (u := .iface t (a.eval x)) (w' := w) ?_ (.inl rfl) (r := .ifc t (get st.s x)) (by simp only [rel]; exact ⟨_, rfl, hs.get x⟩) h
    cases d <;> simp at ht <;> simp [Instr.makeInterface, run_underlying hd]
theorem op_pick (hs : SR X φ st a w) {c x y : Operand} (ho : o.op = .pick c x y) {z : Bool} (hg : get st.s c = .v (.bool z))
    (h1 : z = true → K { st with s := putS st.s o.dst (get st.s x) }) (h2 : z = false → K { st with s := putS st.s o.dst (get st.s y) }) : o.wp X.P a w (Nx X K) Q := by
  have hc := hs.get c
  rw [hg] at hc
  simp only [rel] at hc
  unfold Oper.wp
  cases z with
  | true =>
    have he : (execOp a.eval o).run X.P w = .ok (.value (a.eval x)) w := by simp [execOp, ho, hc, asBool]
    rw [he]
    exact ⟨φ, _, hs.put _ (hs.get x), h1 rfl⟩
  | false =>
    have he : (execOp a.eval o).run X.P w = .ok (.value (a.eval y)) w := by simp [execOp, ho, hc, asBool]
    rw [he]
    exact ⟨φ, _, hs.put _ (hs.get y), h2 rfl⟩
theorem op_part (hs : SR X φ st a w) {c : Call} (ho : o.op = .call c) {im : Bool} (hc : c.callee = .builtin (if im then .imag else .real)) {x : Operand} (hx : c.args = #[x]) {r : AV} (h : partS im (get st.s x) = some r)
    (hk : K { st with s := putS st.s o.dst r }) : o.wp X.P a w (Nx X K) Q := by
  have hr := hs.get x
  unfold partS at h
  split at h
  · rename_i p q hg
    cases h
    rw [hg] at hr
    simp only [rel] at hr
    cases im with
    | true =>
      have he : execOp a.eval o = (do pure (.value (← Builtin.imag_ c.argTypes o.type #[a.eval x])) : Sem Next) := by
        simp only [execOp, ho, resolve, hc, hx, List.map_toArray, List.map_cons, List.map_nil]; rfl
      exact wp_yield hs he (u := .float .f64 q) (w' := w) (by rw [hr]; rfl) (.inl rfl) (by simp [rel]) hk
    | false =>
      have he : execOp a.eval o = (do pure (.value (← Builtin.real_ c.argTypes o.type #[a.eval x])) : Sem Next) := by
        simp only [execOp, ho, resolve, hc, hx, List.map_toArray, List.map_cons, List.map_nil]; rfl
      exact wp_yield hs he (u := .float .f64 p) (w' := w) (by rw [hr]; rfl) (.inl rfl) (by simp [rel]) hk
  · cases h
theorem op_comp (hs : SR X φ st a w) {c : Call} (ho : o.op = .call c) (hc : c.callee = .builtin .complex) {x y : Operand} (hx : c.args = #[x, y]) {r : AV} (h : compS (get st.s x) (get st.s y) = some r)
    (hk : K { st with s := putS st.s o.dst r }) : o.wp X.P a w (Nx X K) Q := by
  have hr := hs.get x
  have hr2 := hs.get y
  unfold compS at h
  split at h
  · rename_i p q hg hg2
    cases h
    rw [hg] at hr; rw [hg2] at hr2
    simp only [rel] at hr hr2
    have he : execOp a.eval o = (do pure (.value (← Builtin.complex_ c.argTypes o.type #[a.eval x, a.eval y])) : Sem Next) := by
      simp only [execOp, ho, resolve, hc, hx, List.map_toArray, List.map_cons, List.map_nil]; rfl
    exact wp_yield hs he (u := .complex .f64 p q) (w' := w) (by rw [hr, hr2]; rfl) (.inl rfl) (by simp [rel]) hk
  · cases h
theorem op_max (hs : SR X φ st a w) {c : Call} (ho : o.op = .call c) (hc : c.callee = .builtin .max) {x y : Operand} (hx : c.args = #[x, y]) {r : AV} (h : maxS (get st.s x) (get st.s y) = some r)
    (hk : K { st with s := putS st.s o.dst r }) : o.wp X.P a w (Nx X K) Q := by
  have hr := hs.get x
  have hr2 := hs.get y
  unfold maxS at h
  split at h
  · rename_i k p k2 q hg hg2
    cases h
    rw [hg] at hr; rw [hg2] at hr2
    simp only [rel] at hr hr2
    have he : execOp a.eval o = (do pure (.value (← Builtin.max_ c.argTypes o.type #[a.eval x, a.eval y])) : Sem Next) := by
      simp only [execOp, ho, resolve, hc, hx, List.map_toArray, List.map_cons, List.map_nil]; rfl
    exact wp_yield hs he (u := .int k (if q > p then q else p)) (w' := w) (by rw [hr, hr2]; simp [Builtin.max_, Builtin.max2]) (.inl rfl) (by simp [rel]) hk
  · cases h
theorem op_len (hs : SR X φ st a w) {c : Call} (ho : o.op = .call c) (hc : c.callee = .builtin .len) {x : Operand} (hx : c.args[0]? = some x)
    (h : lenA X.P c.argTypes st (get st.s x) fun r => K { st with s := putS st.s o.dst r }) : o.wp X.P a w (Nx X K) Q := by
  have hr := hs.get x
  obtain ⟨t, ht, h⟩ := h
  have he : execOp a.eval o = (do pure (.value (← Builtin.len_ c.argTypes o.type (c.args.map a.eval))) : Sem Next) := by
    simp only [execOp, ho, resolve, hc]; rfl
  have hargs : (c.args.map a.eval)[0]? = some (a.eval x) := by simp [hx]
  split at h
  · rename_i b hg
    rw [hg] at hr
    simp only [rel] at hr
    refine wp_yield hs he (u := .int .i64 b.size) (w' := w) ?_ (.inl rfl) ?_ h.2
    · simp [Builtin.len_, ht, hargs, hr, run_underlying (strT_eq h.1), goInt]
    · simp [rel]
  · rename_i hg
    rw [hg] at hr
    simp only [rel] at hr
    obtain ⟨e, he'⟩ := Option.isSome_iff_exists.1 h.1
    refine wp_yield hs he (u := .int .i64 0) (w' := w) ?_ (.inl rfl) (by simp [rel]) h.2
    simp [Builtin.len_, ht, hargs, hr, run_underlying (elemT_eq he'), goInt]
  · rename_i b n m cs hg
    rw [hg] at hr
    simp only [rel] at hr
    obtain ⟨r, off, cap, g1, _⟩ := hr
    obtain ⟨e, he'⟩ := Option.isSome_iff_exists.1 h.1
    refine wp_yield hs he (u := .int .i64 n) (w' := w) ?_ (.inl rfl) (by simp [rel]) h.2
    simp [Builtin.len_, ht, hargs, g1, run_underlying (elemT_eq he'), goInt]
  · rename_i i ver n hg
    obtain ⟨h1, ⟨k, hk, hv⟩, h3⟩ := h
    obtain ⟨β, cap, vs, fr, g1, _⟩ := hs.own hg hk hv
    obtain ⟨e, he'⟩ := Option.isSome_iff_exists.1 h1
    refine wp_yield hs he (u := .int .i64 n) (w' := w) ?_ (.inl rfl) (by simp [rel]) h3
    simp [Builtin.len_, ht, hargs, g1, run_underlying (elemT_eq he'), goInt]
  · exact h.elim
end
end Go.Ev
namespace Go.Ev
set_option linter.all false
open Go Go.RowKit

/-! ### Numbers that are none -/
theorem read_nan {b : Nat} (h : IsNaN b) : ∃ s t, FloatKind.f64.format.read b = .nan s t := by
  unfold IsNaN FloatKind.decode at h
  cases hd : FloatKind.f64.format.read b <;> simp [hd, Ieee.Datum.isNaN] at h
  exact ⟨_, _, rfl⟩
theorem isNaN_cut (x y t : Nat) : IsNaN ((Question.nanBits .f64 x y).cut t) := by
  unfold IsNaN FloatKind.decode
  have hr : (t / 2) % (2 ^ 52 - 1) < 2 ^ 52 - 1 := Nat.mod_lt _ (by decide)
  have hs : t % 2 = 0 ∨ t % 2 = 1 := by omega
  have hc : (Question.nanBits .f64 x y).cut t = (t % 2) * 2 ^ 63 + 0x7ff0000000000000 + 1 + (t / 2) % (2 ^ 52 - 1) := rfl
  rw [hc]
  obtain ⟨q, hq⟩ : ∃ q, q = (t / 2) % (2 ^ 52 - 1) := ⟨_, rfl⟩
  rw [← hq] at hr ⊢
  have s1 : FloatKind.f64.format.signWeight = 2 ^ 63 := rfl
  have s2 : FloatKind.f64.format.binade = 2 ^ 52 := rfl
  have s3 : FloatKind.f64.format.infRung = 0x7ff0000000000000 := rfl
  have e : ((t % 2) * 2 ^ 63 + 0x7ff0000000000000 + 1 + q) % FloatKind.f64.format.signWeight = 0x7ff0000000000000 + 1 + q := by
    rw [s1]; rcases hs with h | h <;> rw [h] <;> omega
  unfold Ieee.Format.read
  dsimp only
  rw [if_neg (by rw [e, s2]; omega), if_neg (by rw [e, s3]; omega), if_neg (by rw [e, s3]; omega)]
  rfl
theorem nan_add {b x : Nat} (h : IsNaN b) : FloatKind.f64.format.add b x = none ∧ FloatKind.f64.format.add x b = none := by
  obtain ⟨s, t, e⟩ := read_nan h
  unfold Ieee.Format.add
  rw [e]
  exact ⟨rfl, by cases FloatKind.f64.format.read x <;> rfl⟩
theorem nan_sub {b x : Nat} (h : IsNaN b) : FloatKind.f64.format.sub b x = none ∧ FloatKind.f64.format.sub x b = none := by
  obtain ⟨s, t, e⟩ := read_nan h
  unfold Ieee.Format.sub
  rw [e]
  exact ⟨rfl, by cases FloatKind.f64.format.read x <;> rfl⟩
theorem nan_mul {b x : Nat} (h : IsNaN b) : FloatKind.f64.format.mul b x = none ∧ FloatKind.f64.format.mul x b = none := by
  obtain ⟨s, t, e⟩ := read_nan h
  unfold Ieee.Format.mul
  rw [e]
  exact ⟨rfl, by cases FloatKind.f64.format.read x <;> rfl⟩
theorem nan_div {b x : Nat} (h : IsNaN b) : FloatKind.f64.format.div b x = none ∧ FloatKind.f64.format.div x b = none := by
  obtain ⟨s, t, e⟩ := read_nan h
  unfold Ieee.Format.div
  rw [e]
  exact ⟨rfl, by cases FloatKind.f64.format.read x <;> rfl⟩
theorem nan_order {b x : Nat} (h : IsNaN b) : FloatKind.f64.format.order b x = none ∧ FloatKind.f64.format.order x b = none := by
  obtain ⟨s, t, e⟩ := read_nan h
  unfold Ieee.Format.order
  rw [e]
  exact ⟨rfl, by cases FloatKind.f64.format.read x <;> rfl⟩

section
variable {X : Fix} {φ : List Nat} {st : St} {a : Act} {w : World} {o : Oper} {Q : Exit → Act → World → Prop} {K : St → Prop}

theorem rel_v (c : Cx) (x : Value) : rel (.v x) c x := by simp only [rel]
theorem run_eqGuard_of {P : Program} (op : BinOp) (t : TypeId) (x y : Operand) (u v : Value) (w : World) (h : (∀ us, u ≠ .agg us)) (h2 : u = .nilIface → v = .nilIface → (Ev.isConst x || Ev.isConst y) = true) : (eqGuard op t x y u v).run P w = .ok () w := by
  cases op <;> first | rfl | (cases u <;> first
      | rfl
      | exact absurd rfl (h _)
      | (cases v <;> first
          | rfl
          | (have := h2 rfl rfl
             cases x <;> cases y <;> simp [Ev.isConst] at this <;> rfl)))
/-- What a float operation comes to. -/
theorem run_fltA {P : Program} {c : Cx} {op : BinOp} {p q : Nat} {KA : AV → Prop} (t : TypeId) (h : fltA op p q KA) (w : World) :
    ∃ r u w', (binOp op t (.float .f64 p) (.float .f64 q)).run P w = .ok u w' ∧ (w' = w ∨ w' = w.drew) ∧ rel r c u ∧ KA r := by
  have key : ∀ (res : Option Nat), KA (fltRes res) → ∃ r u w', ((match res with | some r => pure (.float .f64 r) | none => do pure (.float .f64 (← choose (.nanBits .f64 p q))) : Sem Value)).run P w = .ok u w' ∧ (w' = w ∨ w' = w.drew) ∧ rel r c u ∧ KA r := by
    intro res hk
    cases res with
    | some r => exact ⟨_, _, w, rfl, .inl rfl, rel_v _ _, hk⟩
    | none =>
      refine ⟨.nan, .float .f64 ((Question.nanBits .f64 p q).cut (w.tape w.drawn (.nanBits .f64 p q))), w.drew, ?_, .inr rfl, ?_, hk⟩
      · simp only [Sem.run_bind, run_choose]; rfl
      · simp only [rel]; exact ⟨_, rfl, isNaN_cut p q _⟩
  cases op with
  | add => exact key _ h
  | sub => exact key _ h
  | mul => exact key _ h
  | quo => exact key _ h
  | eql => exact ⟨_, _, w, rfl, .inl rfl, rel_v _ _, h⟩
  | neq => exact ⟨_, _, w, rfl, .inl rfl, rel_v _ _, h⟩
  | lss => exact ⟨_, _, w, rfl, .inl rfl, rel_v _ _, h⟩
  | leq => exact ⟨_, _, w, rfl, .inl rfl, rel_v _ _, h⟩
  | gtr => exact ⟨_, _, w, rfl, .inl rfl, rel_v _ _, h⟩
  | geq => exact ⟨_, _, w, rfl, .inl rfl, rel_v _ _, h⟩
  | _ => exact h.elim
theorem run_intA {P : Program} {op : BinOp} {k : IntKind} {p q : Int} {KA : AV → Prop} (t : TypeId) (h : intA op k p q KA) (w : World) :
    ∃ u, (binOp op t (.int k p) (.int k q)).run P w = .ok u w ∧ KA (.v u) := by
  have hk : ∀ (s1 s2 : Sem Value), (if k ≠ k then s1 else s2) = s2 := fun _ _ => if_neg (fun h => h rfl)
  cases op with
  | quo => exact ⟨_, by simp only [binOp, hk, Op.intDiv, if_neg h.1]; rfl, h.2⟩
  | rem => exact ⟨_, by simp only [binOp, hk, Op.intDiv, if_neg h.1]; rfl, h.2⟩
  | shl => exact h.elim
  | shr => exact h.elim
  | _ => exact ⟨_, by simp only [binOp, hk, Op.intArith, Op.intBits, Op.intCmp]; rfl, h⟩
theorem run_shiftA {P : Program} {op : BinOp} {k k' : IntKind} {p q : Int} {KA : AV → Prop} (t : TypeId) (h : shiftA op k p q KA) (w : World) :
    ∃ u, (binOp op t (.int k p) (.int k' q)).run P w = .ok u w ∧ KA (.v u) := by
  cases op with
  | shl => exact ⟨_, by simp only [binOp, Op.shift, if_neg (show ¬ q < 0 from Int.not_lt.2 h.1)]; rfl, h.2⟩
  | shr => exact ⟨_, by simp only [binOp, Op.shift, if_neg (show ¬ q < 0 from Int.not_lt.2 h.1)]; rfl, h.2⟩
  | _ => exact h.elim
theorem str_append (x y : ByteArray) : x ++ y = ⟨(x.data.toList ++ y.data.toList).toArray⟩ := by
  apply ByteArray.ext
  simp
theorem run_strA {P : Program} {op : BinOp} {p q : ByteArray} {KA : AV → Prop} (t : TypeId) (h : strA op p q KA) (w : World) :
    ∃ u, (binOp op t (.string p) (.string q)).run P w = .ok u w ∧ KA (.v u) := by
  have e : ∀ op, binOp op t (.string p) (.string q) = Op.stringOp op p q := fun op => by cases op <;> rfl
  rw [e]
  unfold Op.stringOp
  rw [ByteArray.toList_eq, ByteArray.toList_eq]
  cases op with
  | add =>
    have h1 := h.1
    refine ⟨.string (p ++ q), ?_, by rw [str_append]; exact h.2⟩
    have : ¬ ((p.size + q.size : Nat) : Int) > IntKind.i64.max := by
      simp at h1
      have : IntKind.i64.max = 9223372036854775807 := rfl
      omega
    simp only [if_neg this]
    rfl
  | eql => exact ⟨_, rfl, h⟩
  | neq => exact ⟨_, rfl, h⟩
  | lss => exact ⟨_, rfl, h⟩
  | leq => exact ⟨_, rfl, h⟩
  | gtr => exact ⟨_, rfl, h⟩
  | geq => exact ⟨_, rfl, h⟩
  | _ => exact h.elim
theorem run_equal {P : Program} {t : TypeId} {d : TypeDesc} (hd : P.underlying t = some d) (u v : Value) (b : Bool) (w : World)
    (h : match d, u, v with
      | .bool, .bool x, .bool y => b = (x == y)
      | .interface _, .nilIface, .nilIface => b = true
      | .interface _, .nilIface, .iface _ _ | .interface _, .iface _ _, .nilIface => b = false
      | _, _, _ => False) : (Op.equal t u v).run P w = .ok b w := by
  unfold Op.equal Op.maxDepth
  rw [Op.equalIn, Sem.run_bind, run_underlying hd]
  simp only [Result.andThen_ok]
  cases d <;> cases u <;> cases v <;> first | exact h.elim | (simp only at h; subst h; rfl)
theorem run_nanA {P : Program} {c : Cx} {op : BinOp} {p q : Nat} {KA : AV → Prop} (t : TypeId) (h : nanA op KA) (hn : IsNaN p ∨ IsNaN q) (w : World) :
    ∃ r u w', (binOp op t (.float .f64 p) (.float .f64 q)).run P w = .ok u w' ∧ (w' = w ∨ w' = w.drew) ∧ rel r c u ∧ KA r := by
  refine run_fltA t ?_ w
  have e1 : FloatKind.f64.format.add p q = none := by rcases hn with h | h; exact (nan_add h).1; exact (nan_add h).2
  have e2 : FloatKind.f64.format.sub p q = none := by rcases hn with h | h; exact (nan_sub h).1; exact (nan_sub h).2
  have e3 : FloatKind.f64.format.mul p q = none := by rcases hn with h | h; exact (nan_mul h).1; exact (nan_mul h).2
  have e4 : FloatKind.f64.format.div p q = none := by rcases hn with h | h; exact (nan_div h).1; exact (nan_div h).2
  have e5 : FloatKind.f64.format.order p q = none := by rcases hn with h | h; exact (nan_order h).1; exact (nan_order h).2
  cases op <;> simp only [fltA, e1, e2, e3, e4, e5, fltRes] <;> simp only [nanA] at h <;> exact h
theorem op_binOp (hs : SR X φ st a w) {op : BinOp} {t t2 : TypeId} {x y : Operand} (ho : o.op = .binOp op t x y t2)
    (h : binA X.P op t x y (get st.s x) (get st.s y) fun r => K { st with s := putS st.s o.dst r }) : o.wp X.P a w (Nx X K) Q := by
  have hx := hs.get x
  have hy := hs.get y
  have he : execOp a.eval o = (do pure (.value (← (do eqGuard op t x y (a.eval x) (a.eval y); binOp op t (a.eval x) (a.eval y) : Sem Value))) : Sem Next) := by simp only [execOp, ho]
  have fin : ∀ {u : Value} {w' : World} {r : AV}, (∀ us, a.eval x ≠ .agg us) → (a.eval x = .nilIface → a.eval y = .nilIface → (Ev.isConst x || Ev.isConst y) = true) → (binOp op t (a.eval x) (a.eval y)).run X.P w = .ok u w' → (w' = w ∨ w' = w.drew) → rel r (cx X φ st.h w) u → K { st with s := putS st.s o.dst r } → o.wp X.P a w (Nx X K) Q := by
    intro u w' r h1 h1' h2 h3 h4 h5
    refine wp_yield hs he (u := u) (w' := w') ?_ h3 h4 h5
    rw [Sem.run_bind, run_eqGuard_of op t x y _ _ w h1 h1']
    exact h2
  have eql : ∀ {d : TypeDesc} {b : Bool}, X.P.underlying t = some d → (∀ us, a.eval x ≠ .agg us) → (a.eval x = .nilIface → a.eval y = .nilIface → (Ev.isConst x || Ev.isConst y) = true) →
      (binOp .eql t (a.eval x) (a.eval y) = (do pure (.bool (← Op.equal t (a.eval x) (a.eval y))))) → (binOp .neq t (a.eval x) (a.eval y) = (do pure (.bool (!(← Op.equal t (a.eval x) (a.eval y)))))) →
      (Op.equal t (a.eval x) (a.eval y)).run X.P w = .ok b w → nilA op b (fun r => K { st with s := putS st.s o.dst r }) → o.wp X.P a w (Nx X K) Q := by
    intro d b _ h1 h1' e1 e2 hr hk
    cases op with
    | eql => exact fin h1 h1' (u := .bool b) (w' := w) (by rw [e1, Sem.run_bind, hr]; rfl) (.inl rfl) (rel_v _ _) hk
    | neq => exact fin h1 h1' (u := .bool (!b)) (w' := w) (by rw [e2, Sem.run_bind, hr]; rfl) (.inl rfl) (rel_v _ _) hk
    | _ => exact hk.elim
  unfold binA at h
  split at h
  · -- ints
    rename_i k p k' q hg1 hg2
    rw [hg1] at hx; rw [hg2] at hy
    simp only [rel] at hx hy
    rw [hx, hy] at fin
    have hsh : shiftA op k p q (fun r => K { st with s := putS st.s o.dst r }) → o.wp X.P a w (Nx X K) Q := fun h' => by
      obtain ⟨u, h1, h2⟩ := run_shiftA (P := X.P) (k' := k') t h' w
      exact fin (fun _ => by simp) (fun h => by simp at h) h1 (.inl rfl) (rel_v _ _) h2
    have hin : k = k' ∧ intA op k p q (fun r => K { st with s := putS st.s o.dst r }) → o.wp X.P a w (Nx X K) Q := fun ⟨e, h'⟩ => by
      subst e
      obtain ⟨u, h1, h2⟩ := run_intA (P := X.P) t h' w
      exact fin (fun _ => by simp) (fun h => by simp at h) h1 (.inl rfl) (rel_v _ _) h2
    cases op <;> first | exact hin h | exact hsh h
  · -- floats
    rename_i p q hg1 hg2
    rw [hg1] at hx; rw [hg2] at hy
    simp only [rel] at hx hy
    rw [hx, hy] at fin
    obtain ⟨r, u, w', h1, h2, h3, h4⟩ := run_fltA (P := X.P) (c := cx X φ st.h w) t h w
    exact fin (fun _ => by simp) (fun h => by simp at h) h1 h2 h3 h4
  · rename_i q hg1 hg2
    rw [hg1] at hx; rw [hg2] at hy
    simp only [rel] at hx hy
    obtain ⟨p, hx, hn⟩ := hx
    rw [hx, hy] at fin
    obtain ⟨r, u, w', h1, h2, h3, h4⟩ := run_nanA (P := X.P) (c := cx X φ st.h w) (p := p) (q := q) t h (.inl hn) w
    exact fin (fun _ => by simp) (fun h => by simp at h) h1 h2 h3 h4
  · rename_i p hg1 hg2
    rw [hg1] at hx; rw [hg2] at hy
    simp only [rel] at hx hy
    obtain ⟨q, hy, hn⟩ := hy
    rw [hx, hy] at fin
    obtain ⟨r, u, w', h1, h2, h3, h4⟩ := run_nanA (P := X.P) (c := cx X φ st.h w) (p := p) (q := q) t h (.inr hn) w
    exact fin (fun _ => by simp) (fun h => by simp at h) h1 h2 h3 h4
  · rename_i hg1 hg2
    rw [hg1] at hx; rw [hg2] at hy
    simp only [rel] at hx hy
    obtain ⟨p, hx, hn⟩ := hx
    obtain ⟨q, hy, hn'⟩ := hy
    rw [hx, hy] at fin
    obtain ⟨r, u, w', h1, h2, h3, h4⟩ := run_nanA (P := X.P) (c := cx X φ st.h w) (p := p) (q := q) t h (.inl hn) w
    exact fin (fun _ => by simp) (fun h => by simp at h) h1 h2 h3 h4
  · -- strings
    rename_i p q hg1 hg2
    rw [hg1] at hx; rw [hg2] at hy
    simp only [rel] at hx hy
    rw [hx, hy] at fin
    obtain ⟨u, h1, h2⟩ := run_strA (P := X.P) t h w
    exact fin (fun _ => by simp) (fun h => by simp at h) h1 (.inl rfl) (rel_v _ _) h2
  · -- bools
    rename_i p q hg1 hg2
    rw [hg1] at hx; rw [hg2] at hy
    simp only [rel] at hx hy
    obtain ⟨ht, h⟩ := h
    rw [hx, hy] at eql
    refine eql (b := p == q) ht (fun _ => by simp) (fun h => by simp at h) rfl rfl (run_equal ht _ _ _ _ rfl) ?_
    cases op <;> first | exact h | exact h.elim
  · rename_i hg1 hg2
    rw [hg1] at hx; rw [hg2] at hy
    simp only [rel] at hx hy
    obtain ⟨hc, ht, h⟩ := h
    obtain ⟨ms, ht⟩ := ifcT_eq ht
    rw [hx, hy] at eql
    refine eql (b := true) ht (fun _ => by simp) (fun _ _ => hc) rfl rfl (run_equal ht _ _ _ _ rfl) ?_
    cases op <;> first | exact h | exact h.elim
  · rename_i tt z hg1 hg2
    rw [hg1] at hx; rw [hg2] at hy
    simp only [rel] at hx hy
    obtain ⟨zz, hx, _⟩ := hx
    obtain ⟨ht, h⟩ := h
    obtain ⟨ms, ht⟩ := ifcT_eq ht
    rw [hx, hy] at eql
    refine eql (b := false) ht (fun _ => by simp) (fun h => by simp at h) rfl rfl (run_equal ht _ _ _ _ rfl) ?_
    cases op <;> first | exact h | exact h.elim
  · rename_i tt z hg1 hg2
    rw [hg1] at hx; rw [hg2] at hy
    simp only [rel] at hx hy
    obtain ⟨zz, hy, _⟩ := hy
    obtain ⟨ht, h⟩ := h
    obtain ⟨ms, ht⟩ := ifcT_eq ht
    rw [hx, hy] at eql
    refine eql (b := false) ht (fun _ => by simp) (fun _ h => by simp at h) rfl rfl (run_equal ht _ _ _ _ rfl) ?_
    cases op <;> first | exact h | exact h.elim
  · rename_i tx k p ty k' q hg1 hg2
    rw [hg1] at hx; rw [hg2] at hy
    simp only [rel] at hx hy
    obtain ⟨_, hx, rfl⟩ := hx
    obtain ⟨_, hy, rfl⟩ := hy
    obtain ⟨ht, h⟩ := h
    obtain ⟨ms, ht⟩ := ifcT_eq ht
    rw [hx, hy] at eql
    rcases h with ⟨hne, h⟩ | ⟨rfl, rfl, hk, hc, h⟩
    · refine eql (b := false) ht (fun _ => by simp) (fun h => by simp at h) rfl rfl ?_ ?_
      · unfold Op.equal Op.maxDepth
        rw [Op.equalIn, Sem.run_bind, run_underlying ht]
        simp only [Result.andThen_ok, hne, ne_eq, not_false_eq_true, if_true]
        rfl
      · cases op <;> first | exact h | exact h.elim
    · refine eql (b := p == q) ht (fun _ => by simp) (fun h => by simp at h) rfl rfl ?_ ?_
      · unfold Op.equal Op.maxDepth
        rw [Op.equalIn, Sem.run_bind, run_underlying ht]
        unfold cmpT at hc
        unfold intT at hk
        cases hi : X.P.info? tx with
        | none => simp [hi] at hc
        | some i =>
          rw [hi] at hc
          simp only [Option.map_some, Option.some.injEq] at hc
          have hu : X.P.underlying tx = some (.int k) := by
            split at hk
            · cases hk; assumption
            · cases hk
          simp only [Result.andThen_ok, ne_eq, not_true_eq_false, if_false, Sem.run_bind, run_info hi, hc, Bool.not_true, Bool.false_eq_true]
          rw [Op.equalIn, Sem.run_bind, run_underlying hu]
          simp only [Result.andThen_ok, if_true]
          rfl
      · cases op <;> first | exact h | exact h.elim
  · rename_i p q p' q' hg1 hg2
    rw [hg1] at hx; rw [hg2] at hy
    simp only [rel] at hx hy
    rw [hx, hy] at fin
    cases op with
    | eql => exact fin (fun _ => by simp) (fun h => by simp at h) (u := .bool (cplEq p q p' q')) (w' := w) rfl (.inl rfl) (rel_v _ _) h
    | neq => exact fin (fun _ => by simp) (fun h => by simp at h) (u := .bool (!cplEq p q p' q')) (w' := w) rfl (.inl rfl) (rel_v _ _) h
    | _ => exact h.elim
  · exact h.elim
theorem op_unOp (hs : SR X φ st a w) {op : UnOp} {t : TypeId} {x : Operand} (ho : o.op = .unOp op t x)
    (h : unA op (get st.s x) fun r => K { st with s := putS st.s o.dst r }) : o.wp X.P a w (Nx X K) Q := by
  have hx := hs.get x
  have he : execOp a.eval o = (do pure (.value (← Op.unary op (a.eval x))) : Sem Next) := by simp only [execOp, ho]
  unfold unA at h
  split at h
  · rename_i b hg
    rw [hg] at hx
    simp only [rel] at hx
    exact wp_yield hs he (u := .bool (!b)) (w' := w) (by rw [hx]; rfl) (.inl rfl) (rel_v _ _) h
  · rename_i k n hg
    rw [hg] at hx
    simp only [rel] at hx
    exact wp_yield hs he (u := .int k (k.wrap (0 - n))) (w' := w) (by rw [hx]; rfl) (.inl rfl) (rel_v _ _) h
  · rename_i b hg
    rw [hg] at hx
    simp only [rel] at hx
    exact wp_yield hs he (u := .float .f64 (Op.negFloat .f64 b)) (w' := w) (by rw [hx]; rfl) (.inl rfl) (rel_v _ _) h
  · exact h.elim
end
end Go.Ev
namespace Go.Ev
set_option linter.all false
open Go Go.RowKit
section
variable {X : Fix} {φ : List Nat} {st : St} {a : Act} {w : World} {o : Oper} {Q : Exit → Act → World → Prop} {K : St → Prop}

theorem SR.bound (hs : SR X φ st a w) {x : Option Operand} {d : Nat} {K1 : Nat → Prop} (h : boundA (x.map (Ev.get st.s)) d K1) :
    ∃ n, K1 n ∧ ((x = none ∧ n = d) ∨ ∃ k i y, x = some y ∧ a.eval y = .int k i ∧ 0 ≤ i ∧ n = i.toNat) := by
  cases x with
  | none => exact ⟨d, h, .inl ⟨rfl, rfl⟩⟩
  | some y =>
    simp only [Option.map_some] at h
    unfold boundA at h
    have hy := hs.get y
    split at h
    · rename_i e; cases e
    · rename_i k i e
      cases e' : Ev.get st.s y <;> rw [e'] at e <;> simp at e
      rename_i u
      subst e
      rw [e'] at hy
      simp only [rel] at hy
      exact ⟨_, h.2, .inr ⟨k, i, y, rfl, hy, h.1, rfl⟩⟩
    · exact h.elim
theorem run_sliceBound {P : Program} {v : Value} {k : IntKind} {i : Int} (hv : v = .int k i) (h0 : 0 ≤ i) {y : Nat} (hy : i.toNat ≤ y) (code : BoundsCode) (w : World) : (Instr.sliceBound v y code).run P w = .ok i.toNat w := by
  have : i ≤ (y : Int) := by omega
  simp [Instr.sliceBound, hv, asIntOf, h0, this]
theorem SR.bounds (hs : SR X φ st a w) {lo hi : Option Operand} {len cap : Nat} {isSl : Bool} {m : Nat} (hm : m ≤ cap) {KK : Nat → Nat → Prop}
    (h : boundA (hi.map (Ev.get st.s)) len fun h => h ≤ m ∧ boundA (lo.map (Ev.get st.s)) 0 fun l => l ≤ h ∧ KK h l) :
    ∃ l h, l ≤ h ∧ h ≤ m ∧ KK h l ∧ (Instr.sliceBounds isSl len cap (lo.map a.eval) (hi.map a.eval) none).run X.P w = .ok (l, h, cap) w := by
  obtain ⟨h', ⟨h1, h2⟩, h3⟩ := hs.bound h
  obtain ⟨l', ⟨l1, l2⟩, l3⟩ := hs.bound h2
  refine ⟨l', h', l1, h1, l2, ?_⟩
  have e1 : ∀ (code : BoundsCode), (match hi.map a.eval with | some v => Instr.sliceBound v cap code | none => pure len : Sem Nat).run X.P w = .ok h' w := by
    intro code
    rcases h3 with ⟨rfl, rfl⟩ | ⟨k, i, y, rfl, hy, h0, rfl⟩
    · rfl
    · exact run_sliceBound hy h0 (by omega) code w
  have e2 : ∀ (code : BoundsCode), (match lo.map a.eval with | some v => Instr.sliceBound v h' code | none => pure 0 : Sem Nat).run X.P w = .ok l' w := by
    intro code
    rcases l3 with ⟨rfl, rfl⟩ | ⟨k, i, y, rfl, hy, h0, rfl⟩
    · rfl
    · exact run_sliceBound hy h0 (by omega) code w
  cases hi <;> cases lo <;> simp only [Option.map_some, Option.map_none] at e1 e2 <;>
    simp only [Instr.sliceBounds, Option.map_some, Option.map_none, Sem.run_bind, Sem.run_pure, Result.andThen_ok, e1, e2]
  all_goals first
    | (have := e1 .index; have := e2 .index; simp only [Sem.run_pure] at *; simp_all; done)
    | (have := e1 .index; simp only [Sem.run_pure, Result.ok.injEq] at this; obtain ⟨rfl, _⟩ := this; simp [e2])
    | (have := e2 .index; simp only [Sem.run_pure, Result.ok.injEq] at this; obtain ⟨rfl, _⟩ := this; rfl)
theorem op_slice (hs : SR X φ st a w) {t : TypeId} {x : Operand} {lo hi mx : Option Operand} (ho : o.op = .slice t x lo hi mx)
    (h : sliceA X.P t st (get st.s x) (lo.map (get st.s)) (hi.map (get st.s)) (mx.map (get st.s)) fun r => K { st with s := putS st.s o.dst r }) : o.wp X.P a w (Nx X K) Q := by
  have hx := hs.get x
  obtain ⟨hmx, h⟩ := h
  have hmx' : mx = none := by cases mx <;> simp at hmx ⊢
  subst hmx'
  have he : execOp a.eval o = (do pure (.value (← Instr.sliceAt t (a.eval x) (lo.map a.eval) (hi.map a.eval) none)) : Sem Next) := by simp only [execOp, ho]; rfl
  split at h
  · rename_i b hg
    rw [hg] at hx
    simp only [rel] at hx
    obtain ⟨h1, h2⟩ := h
    obtain ⟨l, hh, q1, q2, q3, q4⟩ := hs.bounds (isSl := false) (len := b.data.toList.length) (cap := b.data.toList.length) (Nat.le_refl _) h2
    refine wp_yield hs he (u := .string (b.extract l hh)) (w' := w) ?_ (.inl rfl) (r := .v (.string ⟨((b.data.toList.take hh).drop l).toArray⟩)) ?_ q3
    · have e : b.data.toList.length = b.size := by simp
      rw [e] at q4
      simp only [Instr.sliceAt, Instr.slice, Sem.run_bind, run_underlying (strT_eq h1), Result.andThen_ok, hx]
      rw [if_neg (by simp)]
      simp only [Sem.run_bind, q4, Result.andThen_ok, Sem.run_pure]
    · have : b.extract l hh = ⟨((b.data.toList.take hh).drop l).toArray⟩ := by
        apply ByteArray.ext
        rw [ByteArray.data_extract]
        apply Array.ext'
        simp [List.extract_eq_take_drop, List.drop_take]
      rw [this]; exact rel_v _ _
  · rename_i b n m cs hg
    obtain ⟨e, sz, h1, h2, h3, h4⟩ := h
    rw [hg] at hx
    simp only [rel] at hx
    obtain ⟨r, off, cap, g1, g2, g3, g4, g5⟩ := hx
    obtain ⟨l, hh, q1, q2, q3, q4⟩ := hs.bounds (isSl := true) (len := n) (cap := cap) g3 h4
    refine wp_yield hs he (u := .slice (if cap = l then some ⟨r, off, none⟩ else some ⟨r, off + l * sz, none⟩) (hh - l) (cap - l)) (w' := w) ?_ (.inl rfl) (r := .sl b (hh - l) (m - l) (cs.drop (l * sz))) ?_ q3
    · simp only [Instr.sliceAt, Instr.slice, Sem.run_bind, run_underlying (elemT_eq h1), Result.andThen_ok, g1, q4, run_size h2]
      simp only [Option.map_some, Addr.add_lit]
      rfl
    · simp only [rel]
      refine ⟨r, if cap = l then off else off + l * sz, cap - l, by split <;> rfl, by omega, by omega, g4, ?_⟩
      split
      · rename_i hcl
        have : m * sz ≤ l * sz := Nat.mul_le_mul_right _ (by omega)
        have : cs.drop (l * sz) = [] := List.drop_eq_nil_of_le (by omega)
        rw [this]; simp only [relAt]
      · exact relAt_drop g5 _
  · rename_i i ver n hg
    obtain ⟨e, k, sz, h1, hsz, hk, hv, h2⟩ := h
    obtain ⟨β, cap, vs, fr, g1, g2, g3, g4, g5, g6, _⟩ := hs.own hg hk hv
    obtain ⟨l, hh, q1, q2, ⟨rfl, q3⟩, q4⟩ := hs.bounds (isSl := true) (len := n) (cap := cap) g2 h2
    refine wp_yield hs he (u := .slice (some ⟨β, 0, none⟩) (hh - 0) (cap - 0)) (w' := w) ?_ (.inl rfl) (r := .own i ver hh) ?_ q3
    · simp only [Instr.sliceAt, Instr.slice, Sem.run_bind, run_underlying (elemT_eq h1), Result.andThen_ok, g1, q4, run_size hsz]
      simp only [Option.map_some, Addr.add_lit, Nat.zero_mul, Nat.add_zero]
      simp
    · simp only [Nat.sub_zero]
      exact rel_own g5 hv (by omega) (by simp only [World.shape?, g6, g3])
  · rename_i hg
    obtain ⟨e, sz, h1, hsz, h2⟩ := h
    rw [hg] at hx
    simp only [rel] at hx
    obtain ⟨l, hh, q1, q2, q3, q4⟩ := hs.bounds (isSl := true) (len := 0) (cap := 0) (Nat.le_refl 0) h2
    obtain rfl : hh = 0 := by omega
    obtain rfl : l = 0 := by omega
    refine wp_yield hs he (u := .slice none 0 0) (w' := w) ?_ (.inl rfl) (rel_v _ _) q3
    simp only [Instr.sliceAt, Instr.slice, Sem.run_bind, run_underlying (elemT_eq h1), Result.andThen_ok, hx, q4, run_size hsz]
    rfl
  · exact h.elim
end
end Go.Ev
namespace Go.Ev
set_option linter.all false
open Go Go.RowKit
section
variable {X : Fix} {φ : List Nat} {st : St} {a : Act} {w : World} {o : Oper} {Q : Exit → Act → World → Prop} {K : St → Prop}

/-- A value that is a new row. -/
theorem wp_row (hs : SR X φ st a w) {s : Sem Value} (he : execOp a.eval o = (do pure (.value (← s)) : Sem Next)) {w1 : World} (hw1 : w1 = w ∨ w1 = w.drew) {vs : Array Value} {e : TypeId} {fr : Nat × Nat} {n cap : Nat} {cells : List AV}
    (hr : s.run X.P w = .ok (.slice (some ⟨w.heap.size, 0, none⟩) n cap) (w1.alloc (.cells vs e fr))) (hc : relL cells (cx X φ st.h w) (vs.toList.take cells.length)) (hfr : ∀ off, off < vs.size → ¬ (fr.1 ≤ off ∧ off < fr.2))
    (hn : n ≤ cap) (hcap : vs.size = cap * X.P.cellsOf e) (hk : K { s := putS st.s o.dst (.own st.h.length 0 n), h := st.h ++ [⟨0, e, cells⟩] }) : o.wp X.P a w (Nx X K) Q := by
  have hs1 : SR X φ st a w1 := by rcases hw1 with rfl | rfl; exact hs; exact hs.world (below_drew w)
  have hsz : w1.heap.size = w.heap.size := by rcases hw1 with rfl | rfl <;> rfl
  have hc1 : relL cells (cx X φ st.h w1) (vs.toList.take cells.length) := by
    rcases hw1 with rfl | rfl
    · exact hc
    · exact relL_mono (cx_le_same (w := w) (w' := w.drew) (fun _ _ => rfl) (fun _ _ => rfl) (Nat.le_refl _) (fun β hβ => (hs.rng β hβ).2) _) _ _ hc
  obtain ⟨hp, _⟩ := hs1.push (vs := vs) (e := e) (fr := fr) (cells := cells) (ver := 0) hc1 hfr
  refine wp_val he hr ⟨_, _, hp.put o.dst (r := .own st.h.length 0 n) (u := .slice (some ⟨w.heap.size, 0, none⟩) n cap) ?_, hk⟩
  rw [hsz]
  refine rel_own (k := ⟨0, e, cells⟩) (β := w.heap.size) (curOf_eq.2 ⟨by simp, by rw [← hs.φlen]; simp⟩) rfl hn ?_
  have h1 := heap_alloc_new w1 (.cells vs e fr)
  rw [hsz] at h1
  simp only [World.shape?, h1, hcap]
theorem relL_rows (c : Cx) (z : Value) : ∀ n : Nat, relL (rowsA z n) c (List.replicate n z.cells.toList).flatten
  | 0 => by simp [rowsA, relL]
  | n + 1 => by
    simp only [rowsA, List.replicate_succ, List.flatten_cons]
    exact relL_append (rel_zeroCells c z) (relL_rows c z n)
theorem madeCells_list (z : Array Value) (n : Nat) (hz : 0 < z.size) : (madeCells z (n * z.size)).toList = (List.replicate n z.toList).flatten := by
  apply List.ext_getElem?
  intro i
  have hlen : (List.replicate n z.toList).flatten.length = n * z.size := by simp
  by_cases hi : i < n * z.size
  · rw [show (madeCells z (n * z.size)).toList[i]? = some z[i % z.size]! by simp [madeCells, hi]]
    rw [List.getElem?_eq_getElem (by rw [hlen]; exact hi)]
    congr 1
    have hm : i % z.size < z.size := Nat.mod_lt _ hz
    rw [show z[i % z.size]! = z[i % z.size] from getElem!_pos z _ hm]
    have key : ∀ n i, (h : i < (List.replicate n z.toList).flatten.length) → (List.replicate n z.toList).flatten[i] = z.toList[i % z.size]'(by simpa using Nat.mod_lt _ hz) := by
      intro n
      induction n with
      | zero => intro i h; simp at h
      | succ n ih =>
        intro i h
        simp only [List.replicate_succ, List.flatten_cons]
        by_cases hl : i < z.toList.length
        · rw [List.getElem_append_left hl]
          congr 1
          rw [Nat.mod_eq_of_lt (by simpa using hl)]
        · rw [List.getElem_append_right (by omega)]
          rw [ih]
          congr 1
          have : z.toList.length = z.size := by simp
          rw [this] at hl ⊢
          rw [Nat.mod_eq_sub_mod (show i ≥ z.size by omega)]
    rw [key]
    simp
  · rw [List.getElem?_eq_none (by simp [madeCells]; omega), List.getElem?_eq_none (by omega)]
theorem zeroCells_len (z : Value) : (zeroCells z).length = z.cells.size := by cases z <;> simp [zeroCells, Value.cells]
theorem sizeT_info {P : Program} {t n : Nat} (h : sizeT P t = some n) : ∃ i, P.info? t = some i ∧ i.size = n := by
  unfold sizeT at h
  cases hi : P.info? t with
  | none => simp [hi] at h
  | some i => simp [hi] at h; exact ⟨i, rfl, h⟩
theorem op_makeSlice (hs : SR X φ st a w) {t : TypeId} {x y : Operand} (ho : o.op = .makeSlice t x y)
    (h : makeSliceA X.P t (get st.s x) (get st.s y) st fun r s' => K { s' with s := putS s'.s o.dst r }) : o.wp X.P a w (Nx X K) Q := by
  have hx := hs.get x
  have hy := hs.get y
  have he : execOp a.eval o = (do pure (.value (← Instr.makeSlice t (a.eval x) (a.eval y))) : Sem Next) := by simp only [execOp, ho]
  unfold makeSliceA at h
  split at h
  · rename_i kn n kc c hg1 hg2
    rw [hg1] at hx; rw [hg2] at hy
    simp only [rel] at hx hy
    obtain ⟨e, sz, by', z, h1, h2, h3, h4, h5, h6, h7, h8, h9, h10, hk⟩ := h
    obtain ⟨i, hi, his⟩ := sizeT_info h2
    have hib : i.bytes = by' := by simpa [bytesT, hi] using h3
    have hiz : i.zero = some z := by simpa [zeroT, hi] using h4
    rw [zeroCells_len] at h5
    have hb : (i.bytes : Int) * c ≤ 281474976710656 := by rw [hib, Int.mul_comm]; omega
    have hrun := run_make (P := X.P) w t e i z (elemT_eq h1) hi hiz kn kc n c h7 h8 hb (by omega)
    have hcl : (rowsA z c.toNat).length = c.toNat * sz := by simp [rowsA, zeroCells_len, h5]
    refine wp_row hs he (w1 := w) (.inl rfl) (n := n.toNat) (cap := c.toNat) (fr := (0, 0)) (cells := rowsA z c.toNat) (by rw [hx, hy]; exact hrun) ?_ (fun off _ => by omega) (by omega) (by rw [size_madeCells, sizeT_cells h2, his]) hk
    rw [his, ← h5, madeCells_list _ _ (by omega)]
    rw [List.take_of_length_le (by simp [hcl, h5])]
    exact relL_rows _ z _
  · exact h.elim

/-! ### Literals -/
theorem foldl_set (us : List Value) : ∀ (off i : Nat) (cells : Array Value), ((us.zipIdx i).foldl (fun cs (c, j) => cs.setIfInBounds (off + j) c) cells).toList = (us.foldl (fun (p : List Value × Nat) c => (p.1.set p.2 c, p.2 + 1)) (cells.toList, off + i)).1 := by
  induction us with
  | nil => intro off i cells; rfl
  | cons u us ih =>
    intro off i cells
    simp only [List.zipIdx_cons, List.foldl_cons]
    rw [ih]
    simp [Nat.add_assoc]
theorem relL_fill {c : Cx} : ∀ (cs : List AV) (us : List Value) (l : List AV) (vs : List Value) (i : Nat), relL cs c us → relL l c vs → relL (setMany l i cs) c (us.foldl (fun (p : List Value × Nat) c => (p.1.set p.2 c, p.2 + 1)) (vs, i)).1
  | [], us, l, vs, i, h, hl => by simp only [relL] at h; subst h; exact hl
  | x :: cs, us, l, vs, i, h, hl => by
    simp only [relL] at h
    obtain ⟨u, us', rfl, h2, h3⟩ := h
    simp only [setMany, List.foldl_cons]
    exact relL_fill cs us' _ _ _ h3 (relL_set hl i h2)
theorem SR.fill (hs : SR X φ st a w) {place : Nat → Option (Nat × Nat)} : ∀ (ps : List (Nat × Operand)) {l : List AV} {vs : Array Value} {KL : List AV → Prop}, fillA place (Ev.get st.s) ps l KL → relL l (cx X φ st.h w) vs.toList →
    ∃ l' vs', Instr.fill place vs (ps.map fun (i, x) => (i, a.eval x)) = some vs' ∧ relL l' (cx X φ st.h w) vs'.toList ∧ KL l' ∧ vs'.size = vs.size
  | [], l, vs, KL, h, hl => ⟨l, vs, rfl, hl, h, rfl⟩
  | (i, x) :: ps, l, vs, KL, h, hl => by
    obtain ⟨off, n, cs, h1, h2, h3, h4, h5⟩ := h
    obtain ⟨hc, _⟩ := rel_flat (hs.get x) h2
    have hlen : (a.eval x).cells.size = n := by have := relL_length hc; simp at this; omega
    have hll : vs.size = l.length := by have := relL_length hl; simpa using this
    obtain ⟨l', vs', g1, g2, g3, g4⟩ := hs.fill ps (vs := ((a.eval x).cells.zipIdx.foldl (fun cs (c, j) => cs.setIfInBounds (off + j) c) vs)) h5 (by
      have e : ((a.eval x).cells.zipIdx.foldl (fun cs (c, j) => cs.setIfInBounds (off + j) c) vs).toList = ((a.eval x).cells.toList.foldl (fun (p : List Value × Nat) c => (p.1.set p.2 c, p.2 + 1)) (vs.toList, off)).1 := by
        rw [← Array.foldl_toList]
        have := foldl_set (a.eval x).cells.toList off 0 vs
        simpa using this
      rw [e]
      exact relL_fill _ _ _ _ _ hc hl)
    refine ⟨l', vs', ?_, g2, g3, ?_⟩
    · simp only [List.map_cons, Instr.fill, h1, hlen]
      rw [if_neg (by simp; omega)]
      exact g1
    · rw [g4]
      have : ∀ (us : List (Value × Nat)) (cells : Array Value), (us.foldl (fun cs (c, j) => cs.setIfInBounds (off + j) c) cells).size = cells.size := by
        intro us
        induction us with
        | nil => intro cells; rfl
        | cons u us ih => intro cells; simp [ih]
      rw [← Array.foldl_toList]
      exact this _ _
theorem op_build (hs : SR X φ st a w) {t : TypeId} {ps : Array (Nat × Operand)} (ho : o.op = .build t ps)
    (h : buildA X.P t ps (get st.s) fun r => K { st with s := putS st.s o.dst r }) : o.wp X.P a w (Nx X K) Q := by
  have he : execOp a.eval o = (do pure (.value (← Instr.build t (ps.map fun (i, x) => (i, a.eval x)))) : Sem Next) := by simp only [execOp, ho]
  obtain ⟨z, hz, h⟩ := h
  have hz0 := rel_zeroCells (cx X φ st.h w) z
  have hps : (ps.map fun (i, x) => (i, a.eval x)).toList = ps.toList.map fun (i, x) => (i, a.eval x) := by simp
  rcases h with ⟨pl, hpl, h⟩ | ⟨n, e, sz, hu, hsz, h⟩
  · obtain ⟨l', vs', g1, g2, g3, g4⟩ := hs.fill ps.toList (vs := z.cells) h hz0
    refine wp_yield hs he (u := .agg vs') (w' := w) ?_ (.inl rfl) (r := .agg l') (by simp only [rel]; exact ⟨_, rfl, g2⟩) g3
    unfold placesT at hpl
    split at hpl
    · rename_i fs hu
      refine run_build w t _ vs' ?_
      unfold zeroT at hz
      cases hi : X.P.info? t with
      | none => simp [hi] at hz
      | some i =>
        have hiz : i.zero = some z := by simpa [hi] using hz
        have e : (fun i : Nat => pl.toArray[i]?) = (fun i : Nat => pl[i]?) := by funext i; simp
        simp only [Program.built, hi, hu, hiz, hpl, e, hps, g1]
    · cases hpl
  · obtain ⟨l', vs', g1, g2, g3, g4⟩ := hs.fill ps.toList (vs := z.cells) h hz0
    refine wp_yield hs he (u := .agg vs') (w' := w) ?_ (.inl rfl) (r := .agg l') (by simp only [rel]; exact ⟨_, rfl, g2⟩) g3
    simp only [Instr.build, Sem.run_bind, run_zero hz, Result.andThen_ok, run_underlying (arrT_eq hu), run_size hsz, hps, g1, Sem.run_pure]
theorem op_buildSlice (hs : SR X φ st a w) {t : TypeId} {n : Nat} {ps : Array (Nat × Operand)} (ho : o.op = .buildSlice t n ps)
    (h : buildSliceA X.P t n ps (get st.s) st fun r s' => K { s' with s := putS s'.s o.dst r }) : o.wp X.P a w (Nx X K) Q := by
  have he : execOp a.eval o = (do pure (.value (← Instr.buildSlice t n (ps.map fun (i, x) => (i, a.eval x)))) : Sem Next) := by simp only [execOp, ho]
  obtain ⟨e, sz, z, h1, h2, h3, h4, h5, h6, h⟩ := h
  rw [zeroCells_len] at h4
  subst h4
  have hps : (ps.map fun (i, x) => (i, a.eval x)).toList = ps.toList.map fun (i, x) => (i, a.eval x) := by simp
  have hz0 : relL (rowsA z n) (cx X φ st.h w) ((Array.range (n * z.cells.size)).map (z.cells[· % z.cells.size]!)).toList := by
    have := madeCells_list z.cells n (by omega)
    unfold madeCells at this
    rw [this]
    exact relL_rows _ z n
  obtain ⟨l', vs', g1, g2, g3, g4⟩ := hs.fill ps.toList (vs := (Array.range (n * z.cells.size)).map (z.cells[· % z.cells.size]!)) h hz0
  have hl' : vs'.toList.take l'.length = vs'.toList := List.take_of_length_le (by rw [relL_length g2]; exact Nat.le_refl _)
  refine wp_row hs he (w1 := w) (.inl rfl) (vs := vs') (e := e) (fr := (0, 0)) (n := n) (cap := n) (cells := l') ?_ (by rw [hl']; exact g2) (fun off _ => by omega) (Nat.le_refl _) (by rw [g4, sizeT_cells h2]; simp) g3
  have h6' : ¬ n * z.cells.size > 2 ^ 24 := by omega
  simp only [Instr.buildSlice, Sem.run_bind, run_underlying (elemT_eq h1), Result.andThen_ok, run_size h2, Sem.run_ite, if_neg h6']
  by_cases h0 : n * z.cells.size = 0
  · have e0 : (Array.range (n * z.cells.size)).map (z.cells[· % z.cells.size]!) = (Array.range (n * z.cells.size)).map ((#[] : Array Value)[· % (#[] : Array Value).size]!) := by rw [h0]; simp
    rw [e0] at g1
    rw [if_pos h0]
    simp only [Sem.run_pure, Result.andThen_ok, hps, g1]
    rfl
  · rw [if_neg h0]
    simp only [Sem.run_bind, run_zero h3, Result.andThen_ok, Sem.run_pure, hps, g1]
    rfl
end
end Go.Ev
namespace Go.Ev
set_option linter.all false
open Go Go.RowKit
section
variable {X : Fix} {φ : List Nat} {st : St} {a : Act} {w : World} {o : Oper} {Q : Exit → Act → World → Prop} {K : St → Prop}

theorem bytesOfA_spec {c : Cx} : ∀ {cs : List AV} {l : List UInt8} {us : List Value}, bytesOfA cs = some l → relL cs c us → ∃ ns : List Int, us = ns.map (Value.int .u8) ∧ ns.map (fun n => UInt8.ofNat n.toNat) = l
  | [], l, us, h, hr => by simp only [bytesOfA, Option.some.injEq] at h; simp only [relL] at hr; subst h; subst hr; exact ⟨[], rfl, rfl⟩
  | x :: cs, l, us, h, hr => by
    simp only [relL] at hr
    obtain ⟨u, us', rfl, h2, h3⟩ := hr
    unfold bytesOfA at h
    split at h
    · rename_i e; cases e
    · rename_i k l' e
      cases e
      cases hb : bytesOfA cs with
      | none => simp [hb] at h
      | some l2 =>
        simp [hb] at h
        subst h
        obtain ⟨ns, rfl, rfl⟩ := bytesOfA_spec hb h3
        simp only [rel] at h2
        subst h2
        exact ⟨k :: ns, rfl, rfl⟩
    · cases h
theorem run_bytesOf {P : Program} {src dst e : TypeId} (hs : P.underlying src = some (.slice e)) (he : P.underlying e = some (.int .u8)) (hd : P.underlying dst = some .string) {r off n cap : Nat} {cs : List AV} {c : Cx} (hw : c.w = w) (hc : relAt cs c r off) (hn : n ≤ cs.length) {l : List UInt8} (hl : bytesOfA (cs.take n) = some l) :
    (convert src dst (.slice (some ⟨r, off, none⟩) n cap)).run P w = .ok (.string ⟨l.toArray⟩) w := by
  obtain ⟨us, h1, h2⟩ := relAt_list (relAt_take hc n)
  obtain ⟨ns, rfl, rfl⟩ := bytesOfA_spec hl h1
  have hlen : ns.length = n := by have := relL_length h1; simp at this; omega
  have hrun := run_loadCells_at (P := P) (w := w) r off (ns.map (Value.int .u8)) (fun j u hj => by rw [← hw]; exact h2 j u hj)
  rw [List.length_map, hlen] at hrun
  have e1 : convert src dst (.slice (some ⟨r, off, none⟩) n cap) = convert src dst (.slice (some ⟨r, off, none⟩) n cap) := rfl
  simp only [convert, Sem.run_bind, run_underlying hs, run_underlying hd, run_underlying he, Result.andThen_ok]
  rw [run_bytesToString w _ n cap ns hrun]
  congr 2
  have : ∀ (ns : List Int) (s : ByteArray), ns.foldl (fun r n => r.push (UInt8.ofNat n.toNat)) s = ⟨s.data ++ (ns.map fun n => UInt8.ofNat n.toNat).toArray⟩ := by
    intro ns
    induction ns with
    | nil => intro s; simp
    | cons n ns ih => intro s; rw [List.foldl_cons, ih]; simp [ByteArray.push]
  rw [this]
  simp
theorem freeze_alloc (w : World) (vs : Array Value) (e : TypeId) (n : Nat) : (w.alloc (.cells vs e)).freeze ⟨w.heap.size, n, none⟩ 1 = w.alloc (.cells vs e (n, n + 1)) := by
  unfold World.freeze World.alloc
  simp only [if_neg (show ¬ (1 = 0) by decide)]
  congr 1
  apply Array.ext_getElem?
  intro i
  rw [Array.getElem?_modify]
  split
  · rename_i h; subst h; simp
  · rename_i h; simp only [Array.getElem?_push]; split <;> rename_i h2
    · exact absurd h2.symm h
    · rfl
theorem op_convert (hs : SR X φ st a w) {src dst : TypeId} {x : Operand} (ho : o.op = .convert src dst x)
    (h : convertA X.P src dst (get st.s x) st fun r s' => K { s' with s := putS s'.s o.dst r }) : o.wp X.P a w (Nx X K) Q := by
  have hx := hs.get x
  have he : execOp a.eval o = (do pure (.value (← convert src dst (a.eval x))) : Sem Next) := by simp only [execOp, ho]
  have some_of : ∀ {t : TypeId}, (X.P.underlying t).isSome = true → ∃ d, X.P.underlying t = some d := fun h => Option.isSome_iff_exists.1 h
  unfold convertA at h
  split at h
  · rename_i kk n hg
    rw [hg] at hx
    simp only [rel] at hx
    split at h
    · rename_i k hd
      obtain ⟨d, hsrc⟩ := some_of h.1
      refine wp_yield hs he (u := .int k (k.wrap n)) (w' := w) ?_ (.inl rfl) (rel_v _ _) h.2
      simp only [convert, Sem.run_bind, run_underlying hsrc, run_underlying hd, Result.andThen_ok, hx]
      rfl
    · rename_i hd
      obtain ⟨d, hsrc⟩ := some_of h.1
      refine wp_yield hs he (u := .float .f64 (FloatKind.f64.nearest n)) (w' := w) ?_ (.inl rfl) (rel_v _ _) h.2
      simp only [convert, Sem.run_bind, run_underlying hsrc, run_underlying hd, Result.andThen_ok, hx]
      rfl
    · rename_i hd
      obtain ⟨d, hsrc⟩ := some_of h.1
      refine wp_yield hs he (u := .string (Utf8.encode n)) (w' := w) ?_ (.inl rfl) (rel_v _ _) h.2
      simp only [convert, Sem.run_bind, run_underlying hsrc, run_underlying hd, Result.andThen_ok, hx]
      rfl
    · exact h.elim
  · rename_i b hg
    rw [hg] at hx
    simp only [rel] at hx
    obtain ⟨k, n, hd, h1, h2, hk⟩ := h
    obtain ⟨d, hsrc⟩ := some_of h1
    refine wp_yield hs he (u := .int k n) (w' := w) ?_ (.inl rfl) (rel_v _ _) hk
    simp only [convert, Sem.run_bind, run_underlying hsrc, run_underlying (intT_eq hd), Result.andThen_ok, hx]
    unfold f2i at h2
    unfold Conv.floatToInt
    split at h2
    · rename_i m hm
      split at h2
      · rename_i hr
        cases h2
        have e : (FloatKind.f64.decode b).toInt .zero = some n := hm
        simp only [e, if_pos hr]
        rfl
      · cases h2
    · cases h2
  · rename_i b hg
    rw [hg] at hx
    simp only [rel] at hx
    split at h
    · rename_i hd
      obtain ⟨d, hsrc⟩ := some_of h.1
      refine wp_yield hs he (u := .string b) (w' := w) ?_ (.inl rfl) (rel_v _ _) (hg ▸ h.2)
      simp only [convert, Sem.run_bind, run_underlying hsrc, run_underlying hd, Result.andThen_ok, hx]
      rfl
    · rename_i e hd
      obtain ⟨h1, h2, h3, h4, hk⟩ := h
      have hsz : b.size = b.data.toList.length := by simp
      obtain ⟨vs, hvs⟩ : ∃ vs : Array Value, vs = b.data.map (fun c => Value.int .u8 c.toNat) ++ Array.replicate (grownCap w b.size 0 e - b.size) (.int .u8 0) := ⟨_, rfl⟩
      have hge := grownCap_ge w b.size 0 e
      have hvsz : vs.size = grownCap w b.size 0 e := by rw [hvs]; simp; omega
      have hbytes : relL (b.data.toList.map byteC) (cx X φ st.h w) (b.data.toList.map fun c => Value.int .u8 c.toNat) := by
        generalize b.data.toList = l
        induction l with
        | nil => simp [relL]
        | cons c l ih => simp only [List.map_cons, relL]; exact ⟨_, _, rfl, rel_v _ _, ih⟩
      refine wp_row hs he (w1 := w.drew) (.inr rfl) (vs := vs) (e := e) (fr := (vs.size, vs.size + 1)) (n := b.data.toList.length) (cap := grownCap w b.size 0 e) (cells := b.data.toList.map byteC) ?_ ?_ (fun off _ => by simp only; omega) (by rw [← hsz]; exact hge) (by rw [sizeT_cells h3, hvsz, Nat.mul_one]) hk
      · simp only [convert, Sem.run_bind, run_underlying (strT_eq h1), run_underlying hd, run_underlying (intT_eq h2), Result.andThen_ok, hx]
        simp only [Conv.stringToBytes, Sem.run_bind, run_choose, Question.forced, Bool.false_eq_true, if_false, Result.andThen_ok, newRow, run_newObj, Sem.run_pure, markStringish, run_shape]
        have hgc : (Question.appendCap b.size 0 e).cut (w.tape w.drawn (.appendCap b.size 0 e)) = grownCap w b.size 0 e := rfl
        rw [hgc, ← hvs]
        have hsh : ((w.drew).alloc (.cells vs e)).shape? w.heap.size = some (e, vs.size) := by
          have := heap_alloc_new w.drew (.cells vs e)
          simp only [World.size_drew] at this
          simp only [World.shape?, this]
        have e2 : (w.drew.alloc (.cells vs e)).freeze ⟨w.heap.size, vs.size, none⟩ 1 = w.drew.alloc (.cells vs e (vs.size, vs.size + 1)) := freeze_alloc w.drew vs e vs.size
        rw [← hsz, ← e2]
        show ((Sem.run X.P (match (w.drew.alloc (.cells vs e)).shape? w.heap.size with | some (_, n) => freeze ⟨w.heap.size, n, none⟩ 1 | _ => pure ()) (w.drew.alloc (.cells vs e))).andThen fun a w' => Result.ok (Value.slice (some ⟨w.heap.size, 0, none⟩) b.size (grownCap w b.size 0 e)) w') = _
        rw [hsh]
        rfl
      · rw [hvs]
        simp only [Array.toList_append, Array.toList_map, List.length_map]
        rw [List.take_append_of_le_length (by simp), List.take_of_length_le (by simp)]
        exact hbytes
    · exact h.elim
  · rename_i bb n m cs hg
    obtain ⟨h1, h2, h3, l, h4, hk⟩ := h
    rw [hg] at hx
    simp only [rel] at hx
    obtain ⟨r, off, cap, g1, g2, g3, g4, g5⟩ := hx
    cases hel : elemT X.P src with
    | none => simp [hel] at h2
    | some e =>
      have h2' : intT X.P e = some .u8 := by simpa [hel] using h2
      refine wp_yield hs he (u := .string ⟨l.toArray⟩) (w' := w) ?_ (.inl rfl) (rel_v _ _) hk
      rw [g1]
      exact run_bytesOf (elemT_eq hel) (intT_eq h2') (strT_eq h1) (c := (cx X φ st.h w).shut) rfl g5 h3 h4
  · rename_i i ver n hg
    obtain ⟨k, hk', hv, h1, h2, h3, l, h4, hk⟩ := h
    obtain ⟨β, cap, vs, fr, g1, g2, g3, g4, g5, g6, g7, g8, g9⟩ := hs.own hg hk' hv
    cases hel : elemT X.P src with
    | none => simp [hel] at h2
    | some e =>
      have h2' : intT X.P e = some .u8 := by simpa [hel] using h2
      refine wp_yield hs he (u := .string ⟨l.toArray⟩) (w' := w) ?_ (.inl rfl) (rel_v _ _) hk
      rw [g1]
      exact run_bytesOf (elemT_eq hel) (intT_eq h2') (strT_eq h1) (c := cx X φ st.h w) rfl g9 h3 h4
  · rename_i hg
    obtain ⟨h1, h2, hk⟩ := h
    rw [hg] at hx
    simp only [rel] at hx
    cases hel : elemT X.P src with
    | none => simp [hel] at h2
    | some e =>
      have h2' : intT X.P e = some .u8 := by simpa [hel] using h2
      refine wp_yield hs he (u := .string .empty) (w' := w) ?_ (.inl rfl) (rel_v _ _) hk
      simp only [convert, Sem.run_bind, run_underlying (elemT_eq hel), run_underlying (strT_eq h1), run_underlying (intT_eq h2'), Result.andThen_ok, hx]
      rfl
  · exact h.elim
end
end Go.Ev
namespace Go.Ev
set_option linter.all false
open Go Go.RowKit
section
variable {X : Fix} {φ : List Nat} {st : St} {a : Act} {w : World} {o : Oper} {Q : Exit → Act → World → Prop} {K : St → Prop}

/-- What is appended: its length, its cells. -/
theorem SR.src (hs : SR X φ st a w) {y : Operand} {sz : Nat} {KK : Nat → List AV → Prop} (h : srcA st sz (Ev.get st.s y) KK) :
    ∃ n new us, KK n new ∧ relL new (cx X φ st.h w) us ∧ us.length = n * sz ∧ (Builtin.lenOf (a.eval y)).run X.P w = .ok n w ∧
      ∀ w' : World, (∀ p, w'.cell? p = w.cell? p) → (Builtin.firstCells sz n (a.eval y)).run X.P w' = .ok us.toArray w' := by
  have hy := hs.get y
  unfold srcA at h
  split at h
  · rename_i b n m cs hg
    rw [hg] at hy
    simp only [rel] at hy
    obtain ⟨r, off, cap, g1, g2, g3, g4, g5⟩ := hy
    obtain ⟨us, h1, h2⟩ := relAt_list (relAt_take (relAt_shut g5 ⟨_, g4⟩) (n * sz))
    have hl : us.length = n * sz := by have := relL_length h1; simp at this; omega
    refine ⟨n, _, us, h.2, h1, hl, by rw [g1]; rfl, fun w' hw' => ?_⟩
    rw [g1]
    refine run_firstCells_some w' sz n _ n cap us hl fun j v hj => ?_
    rw [hw', Addr.add_lit]; exact h2 j v hj
  · rename_i i ver n hg
    obtain ⟨k, hk, hv, hle, hKK⟩ := h
    obtain ⟨β, cap, vs, fr, g1, g2, g3, g4, g5, g6, g7, g8, g9⟩ := hs.own hg hk hv
    obtain ⟨us, h1, h2⟩ := relAt_list (relAt_take g9 (n * sz))
    have hl : us.length = n * sz := by have := relL_length h1; simp at this; omega
    refine ⟨n, _, us, hKK, h1, hl, by rw [g1]; rfl, fun w' hw' => ?_⟩
    rw [g1]
    refine run_firstCells_some w' sz n _ n cap us hl fun j v hj => ?_
    rw [hw', Addr.add_lit]; exact h2 j v hj
  · rename_i hg
    rw [hg] at hy
    simp only [rel] at hy
    exact ⟨0, [], [], h, by simp [relL], by simp, by rw [hy]; rfl, fun w' _ => by rw [hy]; rfl⟩
  · rename_i b hg
    rw [hg] at hy
    simp only [rel] at hy
    obtain ⟨rfl, hKK⟩ := h
    refine ⟨_, _, b.data.toList.map fun c => Value.int .u8 c.toNat, hKK, ?_, by simp, by rw [hy]; simp [Builtin.lenOf], fun w' _ => ?_⟩
    · generalize b.data.toList = l
      induction l with
      | nil => simp [relL]
      | cons c l ih => simp only [List.map_cons, relL]; exact ⟨_, _, rfl, rel_v _ _, ih⟩
    · rw [hy]
      have : (b.extract 0 b.data.toList.length) = b := by
        apply ByteArray.ext
        rw [ByteArray.data_extract]
        apply Array.ext'
        simp
        exact List.take_of_length_le (by simp)
      simp only [Builtin.firstCells, this, Sem.run_pure]
      congr 1
      try (apply Array.ext'; simp)
  · exact h.elim
theorem zeroCells_size (z : Array Value) (n : Nat) : (Builtin.zeroCells z n).size = n * z.size := by simp [Builtin.zeroCells]
/-- What append comes to, arm by arm. -/
theorem run_append {P : Program} {ts : Array TypeId} {ty t t2 e sz by' : Nat} {z : Value} (hz : zeroT P e = some z) (h0 : ts[0]? = some t) (h1 : ts[1]? = some t2) (hni : intT P t2 = none) (hso : (P.underlying t2).isSome = true) (he : elemT P t = some e) (hsz : sizeT P e = some sz) (hby : bytesT P e = some by') (hb0 : 0 < by')
    {base : Option Addr} {m cap n : Nat} {y : Value} {us old : List Value} (hlen : (Builtin.lenOf y).run P w = .ok n w) (hfc : ∀ w' : World, (∀ p, w'.cell? p = w.cell? p) → (Builtin.firstCells sz n y).run P w' = .ok us.toArray w') :
    (m + n ≤ cap → (Builtin.append_ ts ty #[.slice base m cap, y]).run P w = ((match base with | some ad => storeCells (ad.add (m * sz)) us | none => pure () : Sem Unit).run P w).andThen fun _ w' => .ok (.slice base (m + n) cap) w') ∧
    (cap < m + n → (m + n) * by' ≤ 140737488355328 → (∀ w' : World, (∀ p, w'.cell? p = w.cell? p) → (Builtin.firstCells sz m (.slice base m cap)).run P w' = .ok old.toArray w') →
      (Builtin.append_ ts ty #[.slice base m cap, y]).run P w = .ok (.slice (some ⟨w.heap.size, 0, none⟩) (m + n) (grownCap w (m + n) cap e)) (w.drew.alloc (.cells (old.toArray ++ us.toArray ++ Builtin.zeroCells z.cells (grownCap w (m + n) cap e - (m + n))) e))) := by
  obtain ⟨i, hi, his⟩ := sizeT_info hsz
  have hib : i.bytes = by' := by simpa [bytesT, hi] using hby
  have hiz : i.zero = some z := by simpa [zeroT, hi] using hz
  obtain ⟨d, hd⟩ := Option.isSome_iff_exists.1 hso
  have hd' : ∀ k, d ≠ .int k := fun k e => by simp [intT, hd, e] at hni
  have hu := elemT_eq he
  have hs' : i.size = sz := his
  have hf1 := hfc w (fun _ => rfl)
  have hf2 := hfc w.drew (fun _ => rfl)
  have hm : (d matches .int _) = false := by cases d <;> first | rfl | exact absurd rfl (hd' _)
  constructor
  · intro hle
    simp [Builtin.append_, h0, h1, run_underlying hu, run_underlying hd, sizeOf, typeInfo, hi, hs', hlen, hle, hf1, hm]
    cases base <;> simp
  · intro hlt hb hold
    have hn : ¬ (m + n ≤ cap) := by omega
    have h63 : ¬ (i.bytes = 0) := by omega
    have hfit := growslice_fits hlt hb
    have h48 : ¬ (281474976710656 < Builtin.nextslicecap (m + n) cap * i.bytes) := by rw [hib]; omega
    have ho := hold w.drew (fun _ => rfl)
    simp [Builtin.append_, h0, h1, run_underlying hu, run_underlying hd, sizeOf, typeInfo, zeroValue, hi, hiz, hs', hlen, hn, h63, h48, Question.forced, ho, hf2, newRow, grownCap, hm]
    congr 2
    apply Array.ext'
    simp [List.append_assoc]
theorem op_append (hs : SR X φ st a w) {c : Call} (ho : o.op = .call c) (hc : c.callee = .builtin .append) {x y : Operand} (hxy : c.args = #[x, y])
    (h : appendA X.P c.argTypes st (get st.s x) (get st.s y) fun r s' => K { s' with s := putS s'.s o.dst r }) : o.wp X.P a w (Nx X K) Q := by
  have hx := hs.get x
  have he : execOp a.eval o = (do pure (.value (← Builtin.append_ c.argTypes o.type #[a.eval x, a.eval y])) : Sem Next) := by
    simp only [execOp, ho, resolve, hc, hxy, List.map_toArray, List.map_cons, List.map_nil]; rfl
  obtain ⟨t, t2, e, sz, by', z, hz, hzl, h0, h1, h2, h3, h4, h5, h6, h7, h8, h⟩ := h
  rw [zeroCells_len] at hzl
  obtain ⟨n, new, us, ⟨hone, hKK⟩, hrel, hul, hlen, hfc⟩ := hs.src h
  have hnl : new.length = n * sz := by rw [← hul, relL_length hrel]
  unfold ontoA at hKK
  split at hKK
  · rename_i hg
    rw [hg] at hx
    simp only [rel] at hx
    obtain ⟨r1, r2⟩ := run_append (w := w) (ty := o.type) hz h0 h1 h2 h3 h4 h5 h6 h8 (base := none) (m := 0) (cap := 0) (old := []) hlen hfc
    rcases hKK with ⟨rfl, hk⟩ | ⟨hn, hb, hk⟩
    · refine wp_yield hs he (u := .slice none 0 0) (w' := w) ?_ (.inl rfl) (rel_v _ _) hk
      rw [hx]
      exact r1 (Nat.le_refl _)
    · have hrun := r2 (by omega) (by simpa using hb) (fun w' _ => rfl)
      simp only [Nat.zero_add] at hrun
      have hge := grownCap_ge w n 0 e
      refine wp_row hs he (w1 := w.drew) (.inr rfl) (n := n) (cap := grownCap w n 0 e) (fr := (0, 0)) (e := e) (cells := new) (by rw [hx]; exact hrun) ?_ (fun off _ => by simp only; omega) hge ?_ hk
      · simp only [Array.toList_append, List.nil_append]
        rw [List.take_append_of_le_length (by simp [relL_length hrel]), List.take_of_length_le (by simp [relL_length hrel])]
        simpa using hrel
      · rw [sizeT_cells h5]
        simp only [Array.size_append, List.size_toArray, zeroCells_size, hzl, hul, List.length_nil, Nat.zero_add, ← Nat.add_mul]
        congr 1; omega
  · rename_i i ver m hg
    obtain ⟨k, hk, hv, hke, hml, hKK⟩ := hKK
    subst hke
    obtain ⟨β, cap, vs, fr, g1, g2, g3, g4, g5, g6, g7, g8, g9⟩ := hs.own hg hk hv
    rw [sizeT_cells h5] at g3
    obtain ⟨oldA, q1, q2⟩ := relAt_list (relAt_take g9 (m * sz))
    have hol : oldA.length = m * sz := by have := relL_length q1; simp at this; omega
    have hold : ∀ w' : World, (∀ p, w'.cell? p = w.cell? p) → (Builtin.firstCells sz m (.slice (some ⟨β, 0, none⟩) m cap)).run X.P w' = .ok oldA.toArray w' := fun w' hw' =>
      run_firstCells_some w' sz m _ m cap oldA hol fun j v hj => by rw [hw', Addr.add_lit]; exact q2 j v hj
    obtain ⟨r1, r2⟩ := run_append (w := w) (ty := o.type) hz h0 h1 h2 h3 h4 h5 h6 h8 (base := some ⟨β, 0, none⟩) (m := m) (cap := cap) (old := oldA) hlen hfc
    rcases hKK with ⟨rfl, hk'⟩ | ⟨hb, hk'⟩
    · have : us = [] := by have : us.length = 0 := by simpa using hul
                           exact List.length_eq_zero_iff.1 this
      subst this
      refine wp_yield hs he (u := .slice (some ⟨β, 0, none⟩) m cap) (w' := w) ?_ (.inl rfl) (r := .own i ver m) (rel_own g5 hv g2 (by simp only [World.shape?, g6, g3, sizeT_cells h5])) hk'
      rw [g1]
      have := r1 (by omega)
      simpa [storeCells] using this
    · by_cases hroom : m + n ≤ cap
      · have hsz2 : (m + n) * sz ≤ vs.size := by rw [g3]; exact Nat.mul_le_mul_right _ hroom
        rw [Nat.add_mul] at hsz2
        have hone' := relL_one hrel hone
        obtain ⟨w', s1, s2, s3, s4, s5, s6, s7⟩ := run_storeCells_blk (P := X.P) β k.e fr us 0 (m * sz) vs w g6 (by omega) g8 hone'
        have hrun := r1 hroom
        simp only [Addr.add_lit, Nat.zero_add, s1, Result.andThen_ok] at hrun
        have hvs : (vs.toList.take (m * sz)) = oldA := by
          apply List.ext_getElem?
          intro j
          by_cases hj : j < m * sz
          · have hj' : j < oldA.length := by omega
            have := q2 j _ (List.getElem?_eq_getElem hj')
            simp only [cx, World.cell?, Nat.zero_add, g6] at this
            rw [List.getElem?_take, if_pos hj, List.getElem?_eq_getElem hj']
            simpa using this
          · rw [List.getElem?_eq_none (by simp; omega), List.getElem?_eq_none (by omega)]
        have hnew : relL (k.cells.take (m * sz) ++ new) (cx X φ st.h w) (oldA ++ us) := relL_append q1 hrel
        have hsr := hs.upd (w' := w') hk g4 (vs := vs) (vs' := (vs.toList.take (m * sz + 0) ++ us ++ vs.toList.drop (m * sz + 0 + us.length)).toArray) (fr := fr) (cells := k.cells.take (m * sz) ++ new) (ver := ver + 1) (by omega) g6 s2
          (by simp; omega) s3 s4 s5 s6 s7 (by
            have hl2 : (k.cells.take (m * sz) ++ new).length = (oldA ++ us).length := (relL_length hnew).symm
            simp only [Nat.add_zero, hvs]
            rw [hl2, List.take_left' rfl]
            exact hnew)
        refine wp_val he (u := .slice (some ⟨β, 0, none⟩) (m + n) cap) (w' := w') (by rw [g1]; exact hrun) ⟨φ, _, hsr.put o.dst (r := .own i (ver + 1) (m + n)) ?_, hk'⟩
        refine rel_own (k := ⟨ver + 1, k.e, k.cells.take (m * sz) ++ new⟩) (β := β) (curOf_eq.2 ⟨by simp [(List.getElem?_eq_some_iff.1 hk).1], g4⟩) rfl hroom ?_
        simp only [World.shape?, s2]
        simp only [List.size_toArray, List.length_append, List.length_take, List.length_drop, Array.length_toList, sizeT_cells h5, g3, Option.some.injEq, Prod.mk.injEq, true_and]
        rw [g3] at hsz2
        omega
      · have hrun := r2 (by omega) hb hold
        have hge := grownCap_ge w (m + n) cap k.e
        have hs1 := hs.world (below_drew w)
        have hle1 : (cx X φ st.h w).le (cx X φ st.h w.drew) := cx_le_same (w := w) (w' := w.drew) (fun _ _ => rfl) (fun _ _ => rfl) (Nat.le_refl _) (fun β hβ => (hs.rng β hβ).2) _
        have hnew : relL (k.cells.take (m * sz) ++ new) (cx X φ st.h w.drew) (oldA ++ us) := relL_mono hle1 _ _ (relL_append q1 hrel)
        have hsr := hs1.moved hk g4 (vs := oldA.toArray ++ us.toArray ++ Builtin.zeroCells z.cells (grownCap w (m + n) cap k.e - (m + n))) (e := k.e) (fr := (0, 0)) (cells := k.cells.take (m * sz) ++ new) (ver := ver + 1) (by omega) (by
            have hl2 : (k.cells.take (m * sz) ++ new).length = (oldA ++ us).length := (relL_length hnew).symm
            simp only [Array.toList_append]
            rw [hl2, List.take_left' rfl]
            exact hnew) (fun off _ => by simp only; omega)
        refine wp_val he (u := .slice (some ⟨w.heap.size, 0, none⟩) (m + n) (grownCap w (m + n) cap k.e)) (by rw [g1]; exact hrun) ⟨_, _, hsr.put o.dst (r := .own i (ver + 1) (m + n)) ?_, hk'⟩
        refine rel_own (k := ⟨ver + 1, k.e, k.cells.take (m * sz) ++ new⟩) (β := w.drew.heap.size) (curOf_eq.2 ⟨by simp [(List.getElem?_eq_some_iff.1 hk).1], by simp [(List.getElem?_eq_some_iff.1 g4).1]⟩) rfl hge ?_
        have h1' := heap_alloc_new w.drew (.cells (oldA.toArray ++ us.toArray ++ Builtin.zeroCells z.cells (grownCap w (m + n) cap k.e - (m + n))) k.e)
        simp only [World.shape?, h1']
        simp only [Array.size_append, List.size_toArray, zeroCells_size, hzl, hul, hol, sizeT_cells h5, Option.some.injEq, Prod.mk.injEq, true_and, ← Nat.add_mul]
        congr 1; omega
  · exact hKK.elim
end
end Go.Ev
namespace Go.Ev
set_option linter.all false
open Go Go.RowKit

mutual
theorem rel_tree {c c' : Cx} (hP : c'.P = c.P) (hw : c'.w = c.w) (hok : ∀ b r, c.ok b r → c'.ok b r) : ∀ (x : AV) (u : Value), treeA x = true → rel x c u → rel x c' u
  | .v _, _, _, hr => by simp only [rel] at hr ⊢; exact hr
  | .nan, _, _, hr => by simp only [rel] at hr ⊢; exact hr
  | .sl b m m' cs, u, _, hr => by
    simp only [rel] at hr ⊢
    obtain ⟨r, off, cap, h1, h2, h3, h4, h5⟩ := hr
    exact ⟨r, off, cap, h1, h2, h3, hok _ _ h4, relAt_mono (c := c.shut) (c' := c'.shut) ⟨hP, hok, fun _ _ _ _ _ h => by show c'.w.cell? _ = _; rw [hw]; exact h, fun _ _ _ h => by cases h⟩ cs r off ⟨b, h4⟩ h5⟩
  | .ela b cs, u, _, hr => by
    simp only [rel] at hr ⊢
    obtain ⟨r, off, h1, h4, h5⟩ := hr
    exact ⟨r, off, h1, hok _ _ h4, relAt_mono (c := c.shut) (c' := c'.shut) ⟨hP, hok, fun _ _ _ _ _ h => by show c'.w.cell? _ = _; rw [hw]; exact h, fun _ _ _ h => by cases h⟩ cs r off ⟨b, h4⟩ h5⟩
  | .agg cs, u, ho, hr => by
    simp only [rel] at hr ⊢
    obtain ⟨us, h1, h2⟩ := hr
    exact ⟨us, h1, relL_tree hP hw hok cs _ (by simpa [treeA] using ho) h2⟩
  | .tup cs, u, ho, hr => by
    simp only [rel] at hr ⊢
    obtain ⟨us, h1, h2⟩ := hr
    exact ⟨us, h1, relL_tree hP hw hok cs _ (by simpa [treeA] using ho) h2⟩
  | .ifc t x, u, ho, hr => by
    simp only [rel] at hr ⊢
    obtain ⟨y, h1, h2⟩ := hr
    exact ⟨y, h1, rel_tree hP hw hok x _ (by simpa [treeA] using ho) h2⟩
  | .own i ver m, u, ho, hr => by simp [treeA] at ho
  | .ptr i ver off, u, ho, hr => by simp [treeA] at ho
  | .clo f fs cs, u, ho, hr => by
    have ho' : treeL fs = true ∧ treeL cs = true := by simpa [treeA] using ho
    simp only [rel] at hr ⊢
    obtain ⟨a, b, h1, h2, h3⟩ := hr
    exact ⟨a, b, h1, relL_tree hP hw hok fs _ ho'.1 h2, relL_tree hP hw hok cs _ ho'.2 h3⟩
  | .bad, _, _, _ => by simp only [rel]
theorem relL_tree {c c' : Cx} (hP : c'.P = c.P) (hw : c'.w = c.w) (hok : ∀ b r, c.ok b r → c'.ok b r) : ∀ (xs : List AV) (us : List Value), treeL xs = true → relL xs c us → relL xs c' us
  | [], _, _, hr => by simp only [relL] at hr ⊢; exact hr
  | x :: xs, us, ho, hr => by
    have ho' : treeA x = true ∧ treeL xs = true := by simpa [treeL] using ho
    simp only [relL] at hr ⊢
    obtain ⟨u, us', h1, h2, h3⟩ := hr
    exact ⟨u, us', h1, rel_tree hP hw hok x _ ho'.1 h2, relL_tree hP hw hok xs _ ho'.2 h3⟩
end
mutual
theorem rel_noBor {c c' : Cx} (hP : c'.P = c.P) (hw : c'.w = c.w) (hok : ∀ r, c.ok false r → c'.ok false r) (hcur : ∀ i, c.cur i = none) : ∀ (x : AV) (u : Value), noBor x = true → rel x c u → rel x c' u
  | .v _, _, _, hr => by simp only [rel] at hr ⊢; exact hr
  | .nan, _, _, hr => by simp only [rel] at hr ⊢; exact hr
  | .sl b m m' cs, u, ho, hr => by
    have ho' : b = false ∧ noBorL cs = true := by simpa [noBor] using ho
    obtain ⟨rfl, ho2⟩ := ho'
    simp only [rel] at hr ⊢
    obtain ⟨r, off, cap, h1, h2, h3, h4, h5⟩ := hr
    exact ⟨r, off, cap, h1, h2, h3, hok _ h4, relAt_noBor (c := c.shut) (c' := c'.shut) hP hw hok (fun _ => rfl) cs r off ho2 h5⟩
  | .ela b cs, u, ho, hr => by
    have ho' : b = false ∧ noBorL cs = true := by simpa [noBor] using ho
    obtain ⟨rfl, ho2⟩ := ho'
    simp only [rel] at hr ⊢
    obtain ⟨r, off, h1, h4, h5⟩ := hr
    exact ⟨r, off, h1, hok _ h4, relAt_noBor (c := c.shut) (c' := c'.shut) hP hw hok (fun _ => rfl) cs r off ho2 h5⟩
  | .agg cs, u, ho, hr => by
    simp only [rel] at hr ⊢
    obtain ⟨us, h1, h2⟩ := hr
    exact ⟨us, h1, relL_noBor hP hw hok hcur cs _ (by simpa [noBor] using ho) h2⟩
  | .tup cs, u, ho, hr => by
    simp only [rel] at hr ⊢
    obtain ⟨us, h1, h2⟩ := hr
    exact ⟨us, h1, relL_noBor hP hw hok hcur cs _ (by simpa [noBor] using ho) h2⟩
  | .ifc t x, u, ho, hr => by
    simp only [rel] at hr ⊢
    obtain ⟨y, h1, h2⟩ := hr
    exact ⟨y, h1, rel_noBor hP hw hok hcur x _ (by simpa [noBor] using ho) h2⟩
  | .own i ver m, u, ho, hr => by
    simp only [rel] at hr
    obtain ⟨k, β, h, _⟩ := hr
    rw [hcur] at h; cases h
  | .ptr i ver off, u, ho, hr => by
    simp only [rel] at hr
    obtain ⟨k, β, h, _⟩ := hr
    rw [hcur] at h; cases h
  | .clo f fs cs, u, ho, hr => by
    have ho' : noBorL fs = true ∧ noBorL cs = true := by simpa [noBor] using ho
    simp only [rel] at hr ⊢
    obtain ⟨a, b, h1, h2, h3⟩ := hr
    exact ⟨a, b, h1, relL_noBor hP hw hok hcur fs _ ho'.1 h2, relL_noBor hP hw hok hcur cs _ ho'.2 h3⟩
  | .bad, _, _, _ => by simp only [rel]
theorem relL_noBor {c c' : Cx} (hP : c'.P = c.P) (hw : c'.w = c.w) (hok : ∀ r, c.ok false r → c'.ok false r) (hcur : ∀ i, c.cur i = none) : ∀ (xs : List AV) (us : List Value), noBorL xs = true → relL xs c us → relL xs c' us
  | [], _, _, hr => by simp only [relL] at hr ⊢; exact hr
  | x :: xs, us, ho, hr => by
    have ho' : noBor x = true ∧ noBorL xs = true := by simpa [noBorL] using ho
    simp only [relL] at hr ⊢
    obtain ⟨u, us', h1, h2, h3⟩ := hr
    exact ⟨u, us', h1, rel_noBor hP hw hok hcur x _ ho'.1 h2, relL_noBor hP hw hok hcur xs _ ho'.2 h3⟩
theorem relAt_noBor {c c' : Cx} (hP : c'.P = c.P) (hw : c'.w = c.w) (hok : ∀ r, c.ok false r → c'.ok false r) (hcur : ∀ i, c.cur i = none) : ∀ (xs : List AV) (r off : Nat), noBorL xs = true → relAt xs c r off → relAt xs c' r off
  | [], _, _, _, hr => by simp only [relAt] at hr ⊢
  | x :: xs, r, off, ho, hr => by
    have ho' : noBor x = true ∧ noBorL xs = true := by simpa [noBorL] using ho
    simp only [relAt] at hr ⊢
    obtain ⟨⟨u, h1, h2⟩, h3⟩ := hr
    exact ⟨⟨u, by rw [hw]; exact h1, rel_noBor hP hw hok hcur x _ ho'.1 h2⟩, relAt_noBor hP hw hok hcur xs r (off + 1) ho'.2 h3⟩
end

section
variable {X : Fix} {φ : List Nat} {st : St} {a : Act} {w : World} {o : Oper} {Q : Exit → Act → World → Prop} {K : St → Prop}

mutual
/-- What is told as frozen (or lent) reads so under a context that allows the blocks of the call's own. -/
theorem rel_fz {b0 : Bool} {ok' : Bool → Nat → Prop} (hs : SR X φ st a w) (hok : ∀ b r, (cx X φ st.h w).ok b r → ok' b r) (hown : ∀ β ∈ φ, ok' b0 β) : ∀ (y x : AV) (u : Value), fz X.P st.h b0 y x → rel x (cx X φ st.h w) u → rel y ⟨X.P, ok', fun _ => none, w⟩ u
  | .v _, x, u, hf, hr => by simp only [fz] at hf; subst hf; simp only [rel] at hr ⊢; exact hr
  | .nan, x, u, hf, hr => by simp only [fz] at hf; subst hf; simp only [rel] at hr ⊢; exact hr
  | .bad, _, _, _, _ => by simp only [rel]
  | .ela _ _, _, _, hf, _ => by simp only [fz] at hf
  | .own _ _ _, _, _, hf, _ => by simp only [fz] at hf
  | .ptr _ _ _, _, _, hf, _ => by simp only [fz] at hf
  | .clo f ys zs, x, u, hf, hr => by
    simp only [fz] at hf
    obtain ⟨xs, xs', rfl, hf, hf2⟩ := hf
    simp only [rel] at hr ⊢
    obtain ⟨a, b, h1, h2, h3⟩ := hr
    exact ⟨a, b, h1, relL_fz hs hok hown ys xs _ hf h2, relL_fz hs hok hown zs xs' _ hf2 h3⟩
  | .agg ys, x, u, hf, hr => by
    simp only [fz] at hf
    obtain ⟨xs, rfl, hf⟩ := hf
    simp only [rel] at hr ⊢
    obtain ⟨us, h1, h2⟩ := hr
    exact ⟨us, h1, relL_fz hs hok hown ys xs _ hf h2⟩
  | .tup ys, x, u, hf, hr => by
    simp only [fz] at hf
    obtain ⟨xs, rfl, hf⟩ := hf
    simp only [rel] at hr ⊢
    obtain ⟨us, h1, h2⟩ := hr
    exact ⟨us, h1, relL_fz hs hok hown ys xs _ hf h2⟩
  | .ifc t y, x, u, hf, hr => by
    simp only [fz] at hf
    obtain ⟨x', rfl, hf⟩ := hf
    simp only [rel] at hr ⊢
    obtain ⟨z, h1, h2⟩ := hr
    exact ⟨z, h1, rel_fz hs hok hown y x' _ hf h2⟩
  | .sl b n m ys, x, u, hf, hr => by
    simp only [fz] at hf
    rcases hf with rfl | ⟨rfl, i, k, xs, rfl, hk, hnm, hm, hpre, hf⟩
    · exact rel_tree (c := cx X φ st.h w) (c' := ⟨X.P, ok', fun _ => none, w⟩) rfl rfl hok _ _ rfl hr
    · obtain ⟨β, vs, fr, g1, g2, g3, g4, g5, g6⟩ := hs.at hk
      simp only [rel] at hr ⊢
      obtain ⟨k', β', q1, q2, q3, q4⟩ := hr
      have : curOf φ st.h i = some (k', β') := q1
      rw [g2] at this; cases this
      obtain ⟨cap, rfl, hcap, hsh⟩ := q4 rfl
      have hsh' : w.shape? β = some (k.e, cap * X.P.cellsOf k.e) := hsh
      simp only [World.shape?, g3, Option.some.injEq, Prod.mk.injEq, true_and] at hsh'
      refine ⟨β, 0, cap, rfl, hnm, ?_, hown β (List.mem_of_getElem? g1), ?_⟩
      · rcases hm with rfl | ⟨h0, hm⟩
        · exact hcap
        · have : m * X.P.cellsOf k.e ≤ cap * X.P.cellsOf k.e := by omega
          exact Nat.le_of_mul_le_mul_right this h0
      · obtain ⟨t, ht⟩ := hpre
        have hpx : relAt xs (cx X φ st.h w) β 0 := by
          refine relAt_of_get fun j z hz => relAt_get g6 j z ?_
          rw [← ht, List.getElem?_append_left (List.getElem?_eq_some_iff.1 hz).1]; exact hz
        exact relAt_fz hs hok hown ys xs β 0 hf hpx
theorem relL_fz {b0 : Bool} {ok' : Bool → Nat → Prop} (hs : SR X φ st a w) (hok : ∀ b r, (cx X φ st.h w).ok b r → ok' b r) (hown : ∀ β ∈ φ, ok' b0 β) : ∀ (ys xs : List AV) (us : List Value), fzL X.P st.h b0 ys xs → relL xs (cx X φ st.h w) us → relL ys ⟨X.P, ok', fun _ => none, w⟩ us
  | [], xs, us, hf, hr => by simp only [fzL] at hf; subst hf; simp only [relL] at hr ⊢; exact hr
  | y :: ys, xs, us, hf, hr => by
    simp only [fzL] at hf
    obtain ⟨x, xs', rfl, h1, h2⟩ := hf
    simp only [relL] at hr ⊢
    obtain ⟨u, us', rfl, h3, h4⟩ := hr
    exact ⟨u, us', rfl, rel_fz hs hok hown y x u h1 h3, relL_fz hs hok hown ys xs' us' h2 h4⟩
theorem relAt_fz {b0 : Bool} {ok' : Bool → Nat → Prop} (hs : SR X φ st a w) (hok : ∀ b r, (cx X φ st.h w).ok b r → ok' b r) (hown : ∀ β ∈ φ, ok' b0 β) : ∀ (ys xs : List AV) (r off : Nat), fzL X.P st.h b0 ys xs → relAt xs (cx X φ st.h w) r off → relAt ys (Cx.shut ⟨X.P, ok', fun _ => none, w⟩) r off
  | [], xs, _, _, hf, hr => by simp only [relAt]
  | y :: ys, xs, r, off, hf, hr => by
    simp only [fzL] at hf
    obtain ⟨x, xs', rfl, h1, h2⟩ := hf
    simp only [relAt] at hr ⊢
    obtain ⟨⟨u, h3, h4⟩, h5⟩ := hr
    exact ⟨⟨u, h3, rel_fz hs hok hown y x u h1 h4⟩, relAt_fz hs hok hown ys xs' r (off + 1) h2 h5⟩
end
theorem relL_map_get (hs : SR X φ st a w) : ∀ xs : List Operand, relL (xs.map (Ev.get st.s)) (cx X φ st.h w) (xs.map a.eval)
  | [] => by simp [relL]
  | x :: xs => by simp only [List.map_cons, relL]; exact ⟨_, _, rfl, hs.get x, relL_map_get hs xs⟩
theorem op_callF (hs : SR X φ st a w) {c : Call} (ho : o.op = .call c) {g : FuncId} (hc : c.callee = .value (.func g)) (hfn : ∃ fn, X.P.funcs[g]? = some fn ∧ fn.body.isSome = true ∧ (fn.name == "runtime.NumGoroutine") = false)
    (h : callA X.P st g (c.args.toList.map (get st.s)) fun r => K { st with s := putS st.s o.dst r }) : o.wp X.P a w (Nx X K) Q := by
  obtain ⟨fn, hf, hb, hn⟩ := hfn
  have hrun : (execOp a.eval o).run X.P w = .ok (.enter g (c.args.map a.eval)) w := by
    have hb' : ¬ fn.body = none := by cases hq : fn.body <;> simp [hq] at hb ⊢
    have hn' : ¬ fn.name = "runtime.NumGoroutine" := by simpa using hn
    simp [execOp, ho, resolve, hc, Deferred.ofValue, Act.eval, invoke, callFunc, hf, hn', hb']
  unfold Oper.wp
  rw [hrun]
  simp only [Oper.upon]
  obtain ⟨ys, r, hys, hev, hk⟩ := h
  have hargs : relL (c.args.toList.map (get st.s)) (cx X φ st.h w) (c.args.map a.eval).toList := by
    rw [Array.toList_map]; exact relL_map_get hs _
  have hsub : ∀ β ∈ φ, β < w.heap.size := fun β hβ => (hs.rng β hβ).2
  have hw0 := hs.below.size
  rcases hys with ⟨rfl, htr⟩ | ⟨hfz, hnb⟩
  · refine (hev (fun r => r < w.heap.size ∧ (X.G r ∨ r ∈ φ)) X.B w (c.args.map a.eval) (fun r h => h.1) (fun k => ⟨(hs.gl k).1, ?_⟩) ?_).mono fun e w' ⟨u, he, hr, hbel⟩ => ?_
    · refine rel_tree (c := cx X φ st.h w) (c' := cx0 X.P (fun r => r < w.heap.size ∧ (X.G r ∨ r ∈ φ)) X.B w) rfl rfl (fun b r ⟨h1, h2, h3⟩ => ⟨h1, ?_⟩) _ _ (hs.gl k).1 (hs.gl k).2
      cases b
      · exact fun ⟨_, h⟩ => h.elim h3 h2
      · exact h3
    · refine relL_tree (c := cx X φ st.h w) (c' := cx0 X.P (fun r => r < w.heap.size ∧ (X.G r ∨ r ∈ φ)) X.B w) rfl rfl (fun b r ⟨h1, h2, h3⟩ => ⟨h1, ?_⟩) _ _ htr hargs
      cases b
      · exact fun ⟨_, h⟩ => h.elim h3 h2
      · exact h3
    · subst he
      have hs' := hs.world hbel
      refine ⟨φ, _, hs'.put o.dst (r := r) ?_, hk⟩
      refine rel_mono (c := cx0 X.P (fun r => r < w.heap.size ∧ (X.G r ∨ r ∈ φ)) X.B w') (c' := cx X φ st.h w') ⟨rfl, fun b r ⟨h1, h2⟩ => ?_, fun _ _ _ _ _ h => h, fun _ _ _ h => by cases h⟩ r u hr
      cases b
      · have h2' : ¬ (r < w.heap.size ∧ (X.G r ∨ r ∈ φ)) := h2
        refine ⟨h1, fun hm => h2' ⟨hsub r hm, .inr hm⟩, fun hG => h2' ⟨by have := X.hG r hG; omega, .inl hG⟩⟩
      · have h2' : X.B r := h2
        exact ⟨h1, fun hm => by have := (hs.rng r hm).1; have := X.hB r h2'; omega, h2'⟩
  · refine (hev (fun r => r < w.heap.size ∧ (X.G r ∨ r ∈ φ)) (fun r => X.B r ∨ r ∈ φ) w (c.args.map a.eval) (fun r h => h.1) (fun k => ⟨(hs.gl k).1, ?_⟩) ?_).mono fun e w' ⟨u, he, hr, hbel⟩ => ?_
    · refine rel_tree (c := cx X φ st.h w) (c' := cx0 X.P (fun r => r < w.heap.size ∧ (X.G r ∨ r ∈ φ)) (fun r => X.B r ∨ r ∈ φ) w) rfl rfl (fun b r ⟨h1, h2, h3⟩ => ⟨h1, ?_⟩) _ _ (hs.gl k).1 (hs.gl k).2
      cases b
      · exact fun ⟨_, h⟩ => h.elim h3 h2
      · exact .inl h3
    · refine relL_fz (b0 := true) (ok' := (cx0 X.P (fun r => r < w.heap.size ∧ (X.G r ∨ r ∈ φ)) (fun r => X.B r ∨ r ∈ φ) w).ok) hs (fun b r ⟨h1, h2, h3⟩ => ⟨h1, ?_⟩) (fun β hβ => ⟨hsub β hβ, .inr hβ⟩) ys _ _ hfz hargs
      cases b
      · exact fun ⟨_, h⟩ => h.elim h3 h2
      · exact .inl h3
    · subst he
      have hs' := hs.world hbel
      refine ⟨φ, _, hs'.put o.dst (r := r) ?_, hk⟩
      refine rel_noBor (c := cx0 X.P (fun r => r < w.heap.size ∧ (X.G r ∨ r ∈ φ)) (fun r => X.B r ∨ r ∈ φ) w') (c' := cx X φ st.h w') rfl rfl (fun r ⟨h1, h2⟩ => ?_) (fun _ => rfl) r u hnb hr
      have h2' : ¬ (r < w.heap.size ∧ (X.G r ∨ r ∈ φ)) := h2
      refine ⟨h1, fun hm => h2' ⟨hsub r hm, .inr hm⟩, fun hG => h2' ⟨by have := X.hG r hG; omega, .inl hG⟩⟩
end
end Go.Ev
namespace Go.Ev
set_option linter.all false
open Go Go.RowKit
section
variable {X : Fix} {φ : List Nat} {st : St} {a : Act} {w : World} {o : Oper} {Q : Exit → Act → World → Prop} {K : St → Prop}

theorem aop_sound (hs : SR X φ st a w) (h : aop X.P o st K) : o.wp X.P a w (Nx X K) Q := by
  unfold aop at h
  split at h
  · rename_i x ho; exact op_move hs (.inl ho) h
  · rename_i x ho; exact op_move hs (.inr ho) h
  · rename_i c x y ho
    split at h
    · rename_i z hg; exact op_pick hs ho hg h.1 h.2
    · exact h.elim
  · rename_i t ho; obtain ⟨z, hz, hk⟩ := h; exact op_alloc hs ho hz hk
  · rename_i t x ho; obtain ⟨cs, hf, hk⟩ := h; exact op_box hs ho hf hk
  · rename_i t ps ho; exact op_build hs ho h
  · rename_i t n ps ho; exact op_buildSlice hs ho h
  · rename_i t x ho; exact op_load hs ho h
  · rename_i t x y ho; exact op_store hs ho h
  · rename_i x ho
    split at h
    · rename_i i ver off hg; exact op_nilCheck hs ho (.inl ⟨_, _, _, hg, h.1⟩) (hg ▸ h.2)
    · rename_i b cs hg; exact op_nilCheck hs ho (.inr ⟨_, _, hg⟩) (hg ▸ h)
    · exact h.elim
  · rename_i op t x y t2 ho; exact op_binOp hs ho h
  · rename_i op t x ho; exact op_unOp hs ho h
  · rename_i t1 t2 x ho; exact op_convert hs ho h
  · rename_i t x ho; exact op_makeInterface hs ho h.1 h.2
  · rename_i t x y ho; exact op_makeSlice hs ho h
  · rename_i t x lo hi mx ho; exact op_slice hs ho h
  · rename_i t x f ho; exact op_fieldAddr hs ho h
  · rename_i t x f ho
    split at h
    · rename_i cs hg; obtain ⟨off, ft, hf, hk⟩ := h; exact op_field hs ho hg hf hk
    · exact h.elim
  · rename_i t x y ho; exact op_indexAddr hs ho h
  · rename_i t x y ho; exact op_index hs ho h
  · rename_i x i ho
    split at h
    · rename_i cs hg; obtain ⟨y, hy, hk⟩ := h; exact op_extract hs ho hg hy hk
    · exact h.elim
  · rename_i c ho
    split at h
    · rename_i hc; obtain ⟨x, hx, hk⟩ := h; exact op_len hs ho hc hx hk
    · rename_i hc; obtain ⟨x, y, hxy, hk⟩ := h; exact op_append hs ho hc hxy hk
    · rename_i hc; obtain ⟨x, r, hx, hp, hk⟩ := h; exact op_part hs ho (im := false) hc hx hp hk
    · rename_i hc; obtain ⟨x, r, hx, hp, hk⟩ := h; exact op_part hs ho (im := true) hc hx hp hk
    · rename_i hc; obtain ⟨x, y, r, hx, hp, hk⟩ := h; exact op_comp hs ho hc hx hp hk
    · rename_i hc; obtain ⟨x, y, r, hx, hp, hk⟩ := h; exact op_max hs ho hc hx hp hk
    · rename_i g hc; exact op_callF hs ho hc h.1 h.2
    · exact h.elim
  · exact h.elim

/-- What an exit leaves. -/
def Qx (X : Fix) (Q : Post) (e : Exit) (a : Act) (w : World) : Prop := ∃ φ st, SR X φ st a w ∧ Q e st

theorem wp_loopR {P : Program} {c : Code} {Q : Exit → Act → World → Prop} (R : Nat → Act → World → Prop) {n : Nat} {a : Act} {w : World} (h₀ : R n a w)
    (round : ∀ n a w, R n a w → c.wp P (Exit.then (fun a' w' => ∃ m, m < n ∧ R m a' w') Q) a w) : (Code.loop c).wp P Q a w := by
  intro b k cs
  have key : ∀ n a w, R n a w → ∃ e a' w', Q e a' w' ∧ Arrives P (lone (b.at a (.code c :: .inLoop c :: k)) cs w) b k cs e a' w' := by
    intro n
    induction n using Nat.strongRecOn with
    | _ n ih =>
      intro a w hI
      obtain ⟨e, a₁, w₁, hq, harr⟩ := round n a w hI b (.inLoop c :: k) cs
      cases e with
      | normal =>
        obtain ⟨m, hlt, hm⟩ := hq
        obtain ⟨e₂, a₂, w₂, hq₂, harr₂⟩ := ih m hlt a₁ w₁ hm
        exact ⟨e₂, a₂, w₂, hq₂, .of_steps (Steps.trans harr (.one step_inLoop)) harr₂⟩
      | exit id => exact ⟨_, a₁, w₁, hq, .pass (x := .inLoop c) rfl (fun _ _ => .inl (by simp)) harr⟩
      | goto l => exact ⟨_, a₁, w₁, hq, .pass (x := .inLoop c) rfl (fun _ _ => .inl (by simp)) harr⟩
      | ret => exact ⟨_, a₁, w₁, hq, .pass (x := .inLoop c) rfl (fun _ _ => .inl (by simp)) harr⟩
      | panic ch => exact ⟨_, a₁, w₁, hq, .pass (x := .inLoop c) rfl (fun _ _ => .inl (by simp)) harr⟩
      | outgrown => exact ⟨_, a₁, w₁, hq, .pass (x := .inLoop c) rfl (fun _ _ => .inl (by simp)) harr⟩
  obtain ⟨e, a', w', hq, harr⟩ := key _ a w h₀
  exact ⟨e, a', w', hq, .of_steps (.one step_loop) harr⟩
theorem Qx_then {P1 : St → Prop} {Q : Post} {N : Act → World → Prop} (hn : ∀ a w, Nx X P1 a w → N a w) (e : Exit) (a : Act) (w : World) (h : Qx X (thenA P1 Q) e a w) : Exit.then N (Qx X Q) e a w := by
  obtain ⟨φ, st, hs, hq⟩ := h
  cases e with
  | normal => exact hn _ _ ⟨φ, st, hs, hq⟩
  | _ => exact ⟨φ, st, hs, hq⟩
theorem loadA_run (hs : SR X φ st a w) {t : TypeId} {p : Nat} {KA : AV → Prop} (h : loadA X.P t st (look st.s.l p) KA) :
    ∃ x u ad, a.tmps.getD p undef = .pointer (some ad) ∧ (loadVar t ad).run X.P w = .ok u w ∧ rel x (cx X φ st.h w) u ∧ KA x := by
  have hx := hs.get (.tmp p)
  unfold loadA at h
  split at h
  · rename_i i ver off hg
    obtain ⟨k, hk, hv, ht⟩ := h
    obtain ⟨β, vs, fr, h1, h2, h3, h4, h5, h6⟩ := hs.at hk
    obtain ⟨k', β', g1, g2, g3⟩ := hs.ptr (x := .tmp p) hg ⟨k, hk, hv⟩
    rw [h2] at g2; cases g2
    obtain ⟨y, u, q1, q2, q3⟩ := run_takeA (c := cx X φ st.h w) (r := β) (off := off) ht (by simpa using relAt_drop h6 off)
    exact ⟨y, u, _, g1, q1, q2, q3⟩
  · rename_i b cs hg
    have hx' : rel (look st.s.l p) (cx X φ st.h w) (a.eval (.tmp p)) := hx
    rw [hg] at hx'
    simp only [rel] at hx'
    obtain ⟨r, off, g1, g2, g3⟩ := hx'
    obtain ⟨y, u, q1, q2, q3⟩ := run_takeA (c := cx X φ st.h w) h (relAt_shut g3 ⟨_, g2⟩)
    exact ⟨y, u, _, g1, q1, q2, q3⟩
  · exact h.elim
theorem resA_run (hs : SR X φ st a w) : ∀ (rs : List ResultVar) {KL : List AV → Prop}, resA X.P rs st KL →
    ∃ xs us, (rs.mapM (fun | .tmp t => pure (a.tmps.getD t undef) | .cell p t => do loadVar t (← asAddr (a.tmps.getD p undef)) : ResultVar → Sem Value)).run X.P w = .ok us w ∧ relL xs (cx X φ st.h w) us ∧ KL xs
  | [], KL, h => ⟨[], [], rfl, by simp only [relL], h⟩
  | .tmp t :: rs, KL, h => by
    obtain ⟨xs, us, h1, h2, h3⟩ := resA_run hs rs h
    refine ⟨_, a.tmps.getD t undef :: us, ?_, ?_, h3⟩
    · simp only [List.mapM_cons, Sem.run_bind, Sem.run_pure, Result.andThen_ok, h1]
    · simp only [relL]; exact ⟨_, us, rfl, hs.get (.tmp t), h2⟩
  | .cell p t :: rs, KL, h => by
    obtain ⟨x, u, ad, g1, g2, g3, g4⟩ := loadA_run hs h
    obtain ⟨xs, us, h1, h2, h3⟩ := resA_run hs rs g4
    refine ⟨x :: xs, u :: us, ?_, ?_, h3⟩
    · have e : (asAddr (a.tmps.getD p undef)).run X.P w = .ok ad w := by rw [g1]; rfl
      simp only [List.mapM_cons, Sem.run_bind, Sem.run_pure, Result.andThen_ok, h1, e, g2]
    · simp only [relL]; exact ⟨u, us, rfl, g3, h2⟩
end

/-- A function's contract out of what its code does to the abstract state. -/
theorem Ev.of_wp {P : Program} {γ : List (Nat × AV)} {f : FuncId} {fn : Func} {c : Code} {args : List AV} {res : AV} (hf : P.funcs[f]? = some fn) (hb : fn.body = some c)
    (h : ∀ (X : Fix), X.P = P → X.c0 = none → ∀ {a : Act} {w : World}, SR X [] (startA γ args fn.ntmps) a w → c.wp P (Qx X (endA P fn.results.toList res)) a w) : Ev P γ f args res := by
  intro G B w vs hG hγ hargs
  let X : Fix := { P, G, B := fun r => B r ∧ r < w.heap.size, w0 := w, hG, hB := fun r h => h.2 }
  have hle : (cx0 P G B w).le (cx X [] [] w) := ⟨rfl, fun b r ⟨h1, h2⟩ => ⟨h1, by simp, by cases b; exact h2; exact ⟨h2, h1⟩⟩, fun _ _ _ _ _ h => h, fun _ _ _ h => by cases h⟩
  have hargs' : relL args (cx X [] [] w) vs.toList := relL_mono hle _ _ hargs
  have hl : vs.size = args.length := by have := relL_length hargs; simpa using this
  have hs : SR X [] (startA γ args fn.ntmps) { tmps := vs ++ Array.replicate (fn.ntmps - vs.size) undef, defers := [] } w :=
    { below := Below.refl _ _, defers := rfl, kp := (fun p hp => by cases hp), kd := (fun p hp => by cases hp), le0 := (fun c hc => by cases hc), slots := fun t => by
        have key : ∀ (xs : List AV) (us : List Value) (i : Nat), relL xs (cx X [] [] w) us → look (idxL i xs) (i + t) = .bad ∨ ∃ u, us[t]? = some u ∧ rel (look (idxL i xs) (i + t)) (cx X [] [] w) u := by
          induction t with
          | zero =>
            intro xs us i h
            cases xs with
            | nil => exact .inl rfl
            | cons x xs =>
              simp only [relL] at h
              obtain ⟨u, us', rfl, h2, _⟩ := h
              exact .inr ⟨u, rfl, by simpa [idxL, look] using h2⟩
          | succ t ih =>
            intro xs us i h
            cases xs with
            | nil => exact .inl rfl
            | cons x xs =>
              simp only [relL] at h
              obtain ⟨u, us', rfl, _, h3⟩ := h
              have := ih xs us' (i + 1) h3
              rw [show i + (t + 1) = i + 1 + t by omega]
              simp only [idxL, look]
              rw [if_neg (by omega)]
              simpa using this
        have := key args vs.toList 0 hargs'
        simp only [Nat.zero_add] at this
        simp only [startA]
        rcases this with h | ⟨u, hu, h⟩
        · rw [h]; simp only [rel]
        · have hu' : vs[t]? = some u := by simpa using hu
          have hlt := (Array.getElem?_eq_some_iff.1 hu').1
          simpa [Array.getElem?_append_left hlt, hu'] using h
      len := by simp [startA, hl], gl := fun k => ⟨(hγ k).1, rel_mono hle _ _ (hγ k).2⟩, φlen := rfl, nodup := List.nodup_nil, rng := fun _ h => by simp at h, blk := fun i k β h => by simp [startA] at h }
  refine calls_of_wp hf hb (wp_mono (h X rfl rfl hs) fun e a w' hq => ?_)
  obtain ⟨φ, st, hs', hq⟩ := hq
  have fin : (resA P fn.results.toList st fun xs => fz P st.h false res (oneOrTup xs)) → a.defers = [] ∧ ∃ v, (results fn a.tmps).run P w' = .ok v w' ∧ ∃ u, Ending.returned v = .returned u ∧ rel res (cx0 P G B w') u ∧ Below w.heap.size w w' := by
    intro hr
    obtain ⟨xs, us, h1, h2, h3⟩ := resA_run (X := X) hs' fn.results.toList hr
    refine ⟨hs'.defers, if h : us.toArray.size = 1 then us.toArray[0] else .tuple us.toArray, ?_, _, rfl, ?_, hs'.below⟩
    · unfold results
      rw [Sem.run_bind]
      have e : (fn.results.mapM fun | .tmp t => pure (a.tmps.getD t undef) | .cell p t => do loadVar t (← asAddr (a.tmps.getD p undef)) : Sem (Array Value)).run P w' = .ok us.toArray w' := by
        rw [Array.mapM_eq_mapM_toList, Sem.run_map, h1]
        rfl
      exact (congrArg (fun r => Result.andThen r _) e).trans rfl
    · have hrel : rel (oneOrTup xs) (cx X φ st.h w') (if h : us.toArray.size = 1 then us.toArray[0] else .tuple us.toArray) := by
        have hlen := relL_length h2
        match xs, us, h2, hlen with
        | [x], [u], h2, _ =>
          simp only [relL] at h2
          obtain ⟨u', us', e, hr, _⟩ := h2
          cases e
          exact hr
        | [], [], h2, _ =>
          simp only [oneOrTup, rel]
          exact ⟨#[], rfl, h2⟩
        | x :: y :: xs, u :: v :: us, h2, _ =>
          simp only [oneOrTup, rel]
          refine ⟨(u :: v :: us).toArray, ?_, h2⟩
          rw [dif_neg (by simp)]
        | [], _ :: _, _, hl => simp at hl
        | _ :: _, [], _, hl => simp at hl
        | [_], _ :: _ :: _, _, hl => simp at hl
        | _ :: _ :: _, [_], _, hl => simp at hl
      refine rel_fz (X := X) (b0 := false) (ok' := (cx0 P G B w').ok) hs' (fun b r ⟨h1, h2, h3⟩ => ⟨h1, ?_⟩) (fun β hβ => ⟨(hs'.rng β hβ).2, fun hg => ?_⟩) res _ _ h3 hrel
      · cases b
        · exact h3
        · exact h3.1
      · have := (hs'.rng β hβ).1
        have := hG β hg
        exact absurd this (by show ¬ β < w.heap.size; have : w.heap.size ≤ β := (hs'.rng β hβ).1; omega)
  cases e with
  | normal => exact fin hq
  | ret => exact fin hq
  | _ => exact hq.elim
end Go.Ev
