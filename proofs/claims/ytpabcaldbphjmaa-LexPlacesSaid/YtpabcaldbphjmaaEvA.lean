/- Abstract values, how they stand to the machine's values, and how that is kept when the world moves on. -/
import Derived.Calls
import Derived.Orders
import Derived.Below
import Derived.Laws.Sem
import Derived.Laws.World
namespace Go.Ev
set_option linter.all false
open Go Go.RowKit

/-- What is known of a value. `sl b n m cs`: a slice of n elements, m of them (those behind its end too) known, their cells cs; b: its memory is borrowed. `ela`: an address in such memory. `own i ver n`: the first n elements of the block i of the call's own. `ptr i ver off`: an address in it. -/
inductive AV where
  | v (x : Value)
  | nan
  | sl (b : Bool) (n m : Nat) (cs : List AV)
  | ela (b : Bool) (cs : List AV)
  | agg (cs : List AV)
  | tup (cs : List AV)
  | ifc (t : TypeId) (x : AV)
  | own (i ver n : Nat)
  | ptr (i ver off : Nat)
  | bad
  deriving Inhabited

/-- A block of the call's own: how often it was remade, its elements' type, its cells. -/
structure ABlk where
  ver : Nat
  e : TypeId
  cells : List AV
  deriving Inhabited

def IsNaN (b : Nat) : Prop := (FloatKind.f64.decode b).isNaN = true

structure Cx where
  P : Program
  ok : Bool → Nat → Prop
  cur : Nat → Option (ABlk × Nat)
  w : World

/-- Without the blocks of the call's own. -/
def Cx.shut (c : Cx) : Cx := { c with cur := fun _ => none }

mutual
def rel : AV → Cx → Value → Prop
  | .v x, _, u => u = x
  | .nan, _, u => ∃ b, u = .float .f64 b ∧ IsNaN b
  | .sl b n m cs, c, u => ∃ r off cap, u = .slice (some ⟨r, off, none⟩) n cap ∧ n ≤ m ∧ m ≤ cap ∧ c.ok b r ∧ relAt cs c.shut r off
  | .ela b cs, c, u => ∃ r off, u = .pointer (some ⟨r, off, none⟩) ∧ c.ok b r ∧ relAt cs c.shut r off
  | .agg cs, c, u => ∃ us, u = .agg us ∧ relL cs c us.toList
  | .tup cs, c, u => ∃ us, u = .tuple us ∧ relL cs c us.toList
  | .ifc t x, c, u => ∃ y, u = .iface t y ∧ rel x c y
  | .own i ver n, c, u => ∃ k β, c.cur i = some (k, β) ∧ ver ≤ k.ver ∧ (∃ a n' cap', u = .slice a n' cap') ∧ (ver = k.ver → ∃ cap, u = .slice (some ⟨β, 0, none⟩) n cap ∧ n ≤ cap ∧ c.w.shape? β = some (k.e, cap * c.P.cellsOf k.e))
  | .ptr i ver off, c, u => ∃ k β, c.cur i = some (k, β) ∧ ver ≤ k.ver ∧ (∃ a, u = .pointer a) ∧ (ver = k.ver → u = .pointer (some ⟨β, off, none⟩))
  | .bad, _, _ => True
def relL : List AV → Cx → List Value → Prop
  | [], _, us => us = []
  | x :: xs, c, us => ∃ u us', us = u :: us' ∧ rel x c u ∧ relL xs c us'
def relAt : List AV → Cx → Nat → Nat → Prop
  | [], _, _, _ => True
  | x :: xs, c, r, off => (∃ u, c.w.cell? ⟨r, off, none⟩ = some u ∧ rel x c u) ∧ relAt xs c r (off + 1)
end

/-- All that stood in c stands in c'. -/
structure Cx.le (c c' : Cx) : Prop where
  P : c'.P = c.P
  ok : ∀ b r, c.ok b r → c'.ok b r
  cell : ∀ b r off u, c.ok b r → c.w.cell? ⟨r, off, none⟩ = some u → c'.w.cell? ⟨r, off, none⟩ = some u
  cur : ∀ i k β, c.cur i = some (k, β) → ∃ k' β', c'.cur i = some (k', β') ∧ k.ver ≤ k'.ver ∧ (k.ver = k'.ver → β' = β ∧ k'.e = k.e ∧ c'.w.shape? β = c.w.shape? β)

theorem Cx.le.shut {c c' : Cx} (h : c.le c') : c.shut.le c'.shut := ⟨h.P, h.ok, h.cell, fun _ _ _ hk => by cases hk⟩
mutual
theorem rel_mono {c c' : Cx} (h : c.le c') : ∀ (x : AV) (u : Value), rel x c u → rel x c' u
  | .v _, _, hr => hr
  | .nan, _, hr => hr
  | .sl b n m cs, u, hr => by
    simp only [rel] at hr ⊢
    obtain ⟨r, off, cap, h1, h2, h3, h4, h5⟩ := hr
    exact ⟨r, off, cap, h1, h2, h3, h.ok _ _ h4, relAt_mono h.shut cs r off ⟨b, h4⟩ h5⟩
  | .ela b cs, u, hr => by
    simp only [rel] at hr ⊢
    obtain ⟨r, off, h1, h4, h5⟩ := hr
    exact ⟨r, off, h1, h.ok _ _ h4, relAt_mono h.shut cs r off ⟨b, h4⟩ h5⟩
  | .agg cs, u, hr => by
    simp only [rel] at hr ⊢
    obtain ⟨us, h1, h2⟩ := hr
    exact ⟨us, h1, relL_mono h cs _ h2⟩
  | .tup cs, u, hr => by
    simp only [rel] at hr ⊢
    obtain ⟨us, h1, h2⟩ := hr
    exact ⟨us, h1, relL_mono h cs _ h2⟩
  | .ifc t x, u, hr => by
    simp only [rel] at hr ⊢
    obtain ⟨y, h1, h2⟩ := hr
    exact ⟨y, h1, rel_mono h x _ h2⟩
  | .own i ver n, u, hr => by
    simp only [rel] at hr ⊢
    obtain ⟨k, β, h1, h2, h0, h3⟩ := hr
    obtain ⟨k', β', h1', h2', h3'⟩ := h.cur i k β h1
    refine ⟨k', β', h1', by omega, h0, fun e => ?_⟩
    obtain ⟨rfl, he, hs⟩ := h3' (by omega)
    obtain ⟨cap, hu, hn, hc⟩ := h3 (by omega)
    exact ⟨cap, hu, hn, by rw [hs, hc, he, h.P]⟩
  | .ptr i ver off, u, hr => by
    simp only [rel] at hr ⊢
    obtain ⟨k, β, h1, h2, h0, h3⟩ := hr
    obtain ⟨k', β', h1', h2', h3'⟩ := h.cur i k β h1
    refine ⟨k', β', h1', by omega, h0, fun e => ?_⟩
    obtain ⟨rfl, he, hs⟩ := h3' (by omega)
    exact h3 (by omega)
  | .bad, _, _ => by simp only [rel]
theorem relL_mono {c c' : Cx} (h : c.le c') : ∀ (xs : List AV) (us : List Value), relL xs c us → relL xs c' us
  | [], _, hr => hr
  | x :: xs, us, hr => by
    simp only [relL] at hr ⊢
    obtain ⟨u, us', h1, h2, h3⟩ := hr
    exact ⟨u, us', h1, rel_mono h x _ h2, relL_mono h xs _ h3⟩
theorem relAt_mono {c c' : Cx} (h : c.le c') : ∀ (xs : List AV) (r off : Nat), (∃ b, c.ok b r) → relAt xs c r off → relAt xs c' r off
  | [], _, _, _, _ => by simp only [relAt]
  | x :: xs, r, off, hb, hr => by
    simp only [relAt] at hr ⊢
    obtain ⟨⟨u, h1, h2⟩, h3⟩ := hr
    obtain ⟨b, hb'⟩ := hb
    exact ⟨⟨u, h.cell b r off u hb' h1, rel_mono h x _ h2⟩, relAt_mono h xs r _ ⟨b, hb'⟩ h3⟩
end

theorem Cx.le_refl (c : Cx) : c.le c := ⟨rfl, fun _ _ h => h, fun _ _ _ _ _ h => h, fun i k β h => ⟨k, β, h, Nat.le_refl _, fun _ => ⟨rfl, rfl, rfl⟩⟩⟩
theorem Cx.le_trans {a b c : Cx} (h : a.le b) (g : b.le c) : a.le c :=
  ⟨g.P.trans h.P, fun b r x => g.ok b r (h.ok b r x), fun b r off u hb hu => g.cell b r off u (h.ok b r hb) (h.cell b r off u hb hu), fun _ _ _ hk => by
    obtain ⟨k1, β1, h1, h2, h3⟩ := h.cur _ _ _ hk
    obtain ⟨k2, β2, g1, g2, g3⟩ := g.cur _ k1 β1 h1
    refine ⟨k2, β2, g1, by omega, fun e => ?_⟩
    obtain ⟨rfl, e1, s1⟩ := h3 (by omega)
    obtain ⟨rfl, e2, s2⟩ := g3 (by omega)
    exact ⟨rfl, e2.trans e1, s2.trans s1⟩⟩

theorem relL_length {c : Cx} : ∀ {xs : List AV} {us : List Value}, relL xs c us → us.length = xs.length
  | [], us, h => by simp only [relL] at h; subst h; rfl
  | x :: xs, us, h => by
    simp only [relL] at h
    obtain ⟨u, us', rfl, _, h3⟩ := h
    simp [relL_length h3]
theorem relL_get {c : Cx} : ∀ {xs : List AV} {us : List Value}, relL xs c us → ∀ (j : Nat) x, xs[j]? = some x → ∃ u, us[j]? = some u ∧ rel x c u
  | [], _, _, j, x, h => by simp at h
  | y :: xs, us, h, j, x, hj => by
    simp only [relL] at h
    obtain ⟨u, us', rfl, h2, h3⟩ := h
    cases j with
    | zero => simp at hj; subst hj; exact ⟨u, rfl, h2⟩
    | succ j => simpa using relL_get h3 j x (by simpa using hj)
theorem relL_of_get {c : Cx} : ∀ {xs : List AV} {us : List Value}, us.length = xs.length → (∀ (j : Nat) x, xs[j]? = some x → ∃ u, us[j]? = some u ∧ rel x c u) → relL xs c us
  | [], us, hl, _ => by simp only [relL]; exact List.length_eq_zero_iff.1 hl
  | x :: xs, [], hl, _ => by simp at hl
  | x :: xs, u :: us, hl, h => by
    simp only [relL]
    refine ⟨u, us, rfl, ?_, relL_of_get (by simpa using hl) fun j y hy => by simpa using h (j + 1) y (by simpa using hy)⟩
    obtain ⟨u', hu', hr⟩ := h 0 x rfl
    simp at hu'; subst hu'; exact hr
theorem relL_append {c : Cx} {xs ys : List AV} {us vs : List Value} (h : relL xs c us) (g : relL ys c vs) : relL (xs ++ ys) c (us ++ vs) := by
  induction xs generalizing us with
  | nil => simp only [relL] at h; subst h; exact g
  | cons x xs ih =>
    simp only [relL] at h
    obtain ⟨u, us', rfl, h2, h3⟩ := h
    simp only [List.cons_append, relL]
    exact ⟨u, us' ++ vs, rfl, h2, ih h3⟩
theorem relL_drop {c : Cx} {xs : List AV} {us : List Value} (h : relL xs c us) (n : Nat) : relL (xs.drop n) c (us.drop n) := by
  induction n generalizing xs us with
  | zero => simpa using h
  | succ n ih =>
    cases xs with
    | nil => simp only [relL] at h; subst h; simp [relL]
    | cons x xs => simp only [relL] at h; obtain ⟨u, us', rfl, _, h3⟩ := h; simpa using ih h3
theorem relL_take {c : Cx} {xs : List AV} {us : List Value} (h : relL xs c us) (n : Nat) : relL (xs.take n) c (us.take n) := by
  induction n generalizing xs us with
  | zero => simp [relL]
  | succ n ih =>
    cases xs with
    | nil => simp only [relL] at h; subst h; simp [relL]
    | cons x xs => simp only [relL] at h; obtain ⟨u, us', rfl, h2, h3⟩ := h; simp only [List.take_succ_cons, relL]; exact ⟨u, _, rfl, h2, ih h3⟩
theorem relAt_get {c : Cx} : ∀ {xs : List AV} {r off : Nat}, relAt xs c r off → ∀ (j : Nat) x, xs[j]? = some x → ∃ u, c.w.cell? ⟨r, off + j, none⟩ = some u ∧ rel x c u
  | [], _, _, _, j, x, h => by simp at h
  | y :: xs, r, off, h, j, x, hj => by
    simp only [relAt] at h
    obtain ⟨⟨u, h1, h2⟩, h3⟩ := h
    cases j with
    | zero => simp at hj; subst hj; exact ⟨u, h1, h2⟩
    | succ j =>
      obtain ⟨u', hu', hr⟩ := relAt_get h3 j x (by simpa using hj)
      exact ⟨u', by rw [show off + (j + 1) = off + 1 + j by omega]; exact hu', hr⟩
theorem relAt_of_get {c : Cx} : ∀ {xs : List AV} {r off : Nat}, (∀ (j : Nat) x, xs[j]? = some x → ∃ u, c.w.cell? ⟨r, off + j, none⟩ = some u ∧ rel x c u) → relAt xs c r off
  | [], _, _, _ => by simp only [relAt]
  | x :: xs, r, off, h => by
    simp only [relAt]
    refine ⟨h 0 x rfl, relAt_of_get fun j y hy => ?_⟩
    obtain ⟨u, hu, hr⟩ := h (j + 1) y (by simpa using hy)
    exact ⟨u, by rw [show off + 1 + j = off + (j + 1) by omega]; exact hu, hr⟩
theorem relAt_drop {c : Cx} {xs : List AV} {r off : Nat} (h : relAt xs c r off) (n : Nat) : relAt (xs.drop n) c r (off + n) :=
  relAt_of_get fun j x hj => by
    obtain ⟨u, hu, hr⟩ := relAt_get h (n + j) x (by rw [List.getElem?_drop] at hj; exact hj)
    exact ⟨u, by rw [Nat.add_assoc]; exact hu, hr⟩
theorem relAt_take {c : Cx} {xs : List AV} {r off : Nat} (h : relAt xs c r off) (n : Nat) : relAt (xs.take n) c r off :=
  relAt_of_get fun j x hj => by
    refine relAt_get h j x ?_
    rw [List.getElem?_take] at hj
    split at hj
    · exact hj
    · cases hj
end Go.Ev
