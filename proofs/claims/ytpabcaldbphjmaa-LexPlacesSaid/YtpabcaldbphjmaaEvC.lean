/- How a state stands to the machine's frame and world; the moves that keep it. -/
import Derived.Test.YtpabcaldbphjmaaEvB
namespace Go.Ev
set_option linter.all false
open Go Go.RowKit
set_option linter.unusedVariables false

structure Fix where
  P : Program
  G : Nat → Prop
  B : Nat → Prop
  w0 : World
  hG : ∀ r, G r → r < w0.heap.size
  hB : ∀ r, B r → r < w0.heap.size

def curOf (φ : List Nat) (h : List ABlk) (i : Nat) : Option (ABlk × Nat) :=
  match h[i]?, φ[i]? with
  | some k, some β => some (k, β)
  | _, _ => none
theorem curOf_eq {φ : List Nat} {h : List ABlk} {i : Nat} {k : ABlk} {β : Nat} : curOf φ h i = some (k, β) ↔ h[i]? = some k ∧ φ[i]? = some β := by
  unfold curOf
  cases h[i]? <;> cases φ[i]? <;> simp
def cx (X : Fix) (φ : List Nat) (h : List ABlk) (w : World) : Cx :=
  { P := X.P, w, ok := fun b r => r < w.heap.size ∧ r ∉ φ ∧ (if b then X.B r else ¬ X.G r), cur := curOf φ h }

structure SR (X : Fix) (φ : List Nat) (st : St) (a : Act) (w : World) : Prop where
  below : Below X.w0.heap.size X.w0 w
  defers : a.defers = []
  slots : ∀ t, rel (look st.s.l t) (cx X φ st.h w) (a.tmps.getD t undef)
  len : a.tmps.size = st.s.n
  φlen : φ.length = st.h.length
  nodup : φ.Nodup
  rng : ∀ β ∈ φ, X.w0.heap.size ≤ β ∧ β < w.heap.size
  blk : ∀ (i : Nat) (k : ABlk) (β : Nat), st.h[i]? = some k → φ[i]? = some β →
    (∃ vs fr, w.heap[β]? = some (.cells vs k.e fr) ∧ k.cells.length ≤ vs.size ∧ (∀ off, off < vs.size → ¬ (fr.1 ≤ off ∧ off < fr.2))) ∧ relAt k.cells (cx X φ st.h w) β 0

section
variable {X : Fix} {φ : List Nat} {st : St} {a : Act} {w : World}

theorem rel_ofV (c : Cx) (x : Value) : rel (ofV x) c x := by
  cases x <;> simp only [ofV, rel]
  rename_i cs
  refine ⟨cs, rfl, ?_⟩
  generalize cs.toList = l
  induction l with
  | nil => simp [relL]
  | cons y l ih => simp only [List.map_cons, relL, rel]; exact ⟨y, l, rfl, rfl, ih⟩
theorem SR.get (hs : SR X φ st a w) (x : Operand) : rel (get st.s x) (cx X φ st.h w) (a.eval x) := by
  cases x with
  | tmp t => exact hs.slots t
  | const v => exact rel_ofV _ _
  | global g => simp [Ev.get, rel]
  | func f => simp [Ev.get, Act.eval, rel]
theorem relL_set {c : Cx} {xs : List AV} {us : List Value} (h : relL xs c us) (t : Nat) {r : AV} {u : Value} (hr : rel r c u) : relL (xs.set t r) c (us.set t u) := by
  induction xs generalizing us t with
  | nil => simp only [relL] at h; subst h; simp [relL]
  | cons x xs ih =>
    simp only [relL] at h
    obtain ⟨v, us', rfl, h2, h3⟩ := h
    cases t with
    | zero => simp only [List.set_cons_zero, relL]; exact ⟨u, us', rfl, hr, h3⟩
    | succ t => simp only [List.set_cons_succ, relL]; exact ⟨v, _, rfl, h2, ih h3 t⟩
theorem SR.put (hs : SR X φ st a w) (dst : Option Tmp) {r : AV} {u : Value} (hr : rel r (cx X φ st.h w) u) :
    SR X φ { st with s := putS st.s dst r } (a.put dst u) w := by
  cases dst with
  | none => exact hs
  | some d =>
    by_cases hd : d < st.s.n
    · simp only [putS, if_pos hd]
      refine { hs with slots := fun t => ?_, len := by simp [Act.put, hs.len] }
      simp only [look, Act.put]
      split
      · rename_i e
        subst e
        have : d < a.tmps.size := by rw [hs.len]; exact hd
        simpa [this] using hr
      · rename_i e
        have := hs.slots t
        simpa [Array.getElem?_setIfInBounds_ne e] using this
    · simp only [putS, if_neg hd]
      have : a.put (some d) u = a := by
        simp only [Act.put]
        rw [Array.setIfInBounds_eq_of_size_le (by rw [hs.len]; exact Nat.not_lt.1 hd)]
      rw [this]
      exact hs

/-- A step that keeps every block, and adds none of the call's own. -/
theorem cx_le_same {w' : World} (hcell : ∀ p : Addr, p.block < w.heap.size → w'.cell? p = w.cell? p) (hshape : ∀ r, r < w.heap.size → w'.shape? r = w.shape? r) (hsize : w.heap.size ≤ w'.heap.size) (hr : ∀ β ∈ φ, β < w.heap.size) (h : List ABlk) :
    (cx X φ h w).le (cx X φ h w') :=
  ⟨rfl, fun b r ⟨h1, h2⟩ => ⟨Nat.lt_of_lt_of_le h1 hsize, h2⟩, fun b r off u ⟨h1, _⟩ hc => (hcell ⟨r, off, none⟩ h1).trans hc,
    fun i k β hk => ⟨k, β, hk, Nat.le_refl _, fun _ => ⟨rfl, rfl, hshape β (hr β (List.mem_of_getElem? (curOf_eq.1 hk).2))⟩⟩⟩
theorem relAt_le {c c' : Cx} (h : c.le c') {r : Nat} (hcell : ∀ off u, c.w.cell? ⟨r, off, none⟩ = some u → c'.w.cell? ⟨r, off, none⟩ = some u) : ∀ {xs : List AV} {off : Nat}, relAt xs c r off → relAt xs c' r off
  | [], _, _ => by simp only [relAt]
  | x :: xs, off, hr => by
    simp only [relAt] at hr ⊢
    obtain ⟨⟨u, h1, h2⟩, h3⟩ := hr
    exact ⟨⟨u, hcell _ _ h1, rel_mono h x _ h2⟩, relAt_le h hcell h3⟩
/-- The world moves on: all blocks that were there stay. -/
theorem SR.world (hs : SR X φ st a w) {w' : World} (hb : Below w.heap.size w w') : SR X φ st a w' := by
  have hrng := fun β hβ => (hs.rng β hβ).2
  have hle := cx_le_same (X := X) (φ := φ) (w := w) (w' := w') (fun p hp => hb.cell hp) (fun r hr => by unfold World.shape?; rw [hb.block r hr]) hb.size hrng st.h
  refine { below := hs.below.trans (hb.mono hs.below.size), defers := hs.defers, slots := fun t => rel_mono hle _ _ (hs.slots t), len := hs.len, φlen := hs.φlen, nodup := hs.nodup, rng := fun β hβ => ⟨(hs.rng β hβ).1, Nat.lt_of_lt_of_le (hrng β hβ) hb.size⟩, blk := fun i k β hk hβ => ?_ }
  obtain ⟨⟨vs, fr, h1, h1', h2⟩, h3⟩ := hs.blk i k β hk hβ
  have hlt := hrng β (List.mem_of_getElem? hβ)
  exact ⟨⟨vs, fr, by rw [hb.block β hlt]; exact h1, h1', h2⟩, relAt_le hle (fun off u hc => (hb.cell (p := ⟨β, off, none⟩) hlt).trans hc) h3⟩
theorem below_drew (w : World) : Below w.heap.size w w.drew := (Below.refl _ _).drew

theorem heap_alloc_new (w : World) (o : Obj) : (w.alloc o).heap[w.heap.size]? = some o := by show (w.heap.push o)[w.heap.size]? = _; simp
/-- A new block of the call's own. -/
theorem SR.push (hs : SR X φ st a w) {vs : Array Value} {e : TypeId} {fr : Nat × Nat} {cells : List AV} {ver : Nat} (hc : relL cells (cx X φ st.h w) (vs.toList.take cells.length)) (hfr : ∀ off, off < vs.size → ¬ (fr.1 ≤ off ∧ off < fr.2)) :
    SR X (φ ++ [w.heap.size]) { st with h := st.h ++ [⟨ver, e, cells⟩] } a (w.alloc (.cells vs e fr)) ∧ (cx X φ st.h w).le (cx X (φ ++ [w.heap.size]) (st.h ++ [⟨ver, e, cells⟩]) (w.alloc (.cells vs e fr))) := by
  have hnot : w.heap.size ∉ φ := fun hm => Nat.lt_irrefl _ (hs.rng _ hm).2
  have hlt : ∀ β ∈ φ, β < w.heap.size := fun β hβ => (hs.rng β hβ).2
  have hle : (cx X φ st.h w).le (cx X (φ ++ [w.heap.size]) (st.h ++ [⟨ver, e, cells⟩]) (w.alloc (.cells vs e fr))) := by
    refine ⟨rfl, fun b r ⟨h1, h2, h3⟩ => ⟨by simp; omega, by simp [h2]; omega, h3⟩, fun b r off u ⟨h1, _⟩ hc => ?_, fun i k β hk => ⟨k, β, ?_, Nat.le_refl _, fun _ => ⟨rfl, rfl, ?_⟩⟩⟩
    · exact (World.cell?_alloc_lt _ _ ⟨r, off, none⟩ h1).trans hc
    · obtain ⟨h1, h2⟩ := curOf_eq.1 hk
      exact curOf_eq.2 ⟨by rw [List.getElem?_append_left (List.getElem?_eq_some_iff.1 h1).1]; exact h1, by rw [List.getElem?_append_left (List.getElem?_eq_some_iff.1 h2).1]; exact h2⟩
    · have hl := hlt β (List.mem_of_getElem? (curOf_eq.1 hk).2)
      simp only [cx, World.shape?]
      rw [Below.heap_alloc _ _ _ hl]
  refine ⟨{ below := hs.below.alloc hs.below.size _, defers := hs.defers, slots := fun t => rel_mono hle _ _ (hs.slots t), len := hs.len, φlen := by simp [hs.φlen], nodup := ?_, rng := ?_, blk := ?_ }, hle⟩
  · rw [List.nodup_append]
    exact ⟨hs.nodup, by simp, fun x hx y hy => by simp at hy; subst hy; exact fun e => hnot (e ▸ hx)⟩
  · intro β hβ
    rcases List.mem_append.1 hβ with h | h
    · exact ⟨(hs.rng β h).1, by simp; have := hlt β h; omega⟩
    · simp at h; subst h; exact ⟨hs.below.size, by simp⟩
  · intro i k β hk hβ
    by_cases hi : i < st.h.length
    · rw [List.getElem?_append_left hi] at hk
      rw [List.getElem?_append_left (by rw [hs.φlen]; exact hi)] at hβ
      obtain ⟨⟨vs', fr', h1, h1', h2⟩, h3⟩ := hs.blk i k β hk hβ
      have hl := hlt β (List.mem_of_getElem? hβ)
      exact ⟨⟨vs', fr', by rw [Below.heap_alloc _ _ _ hl]; exact h1, h1', h2⟩, relAt_le hle (fun off u hc => (World.cell?_alloc_lt _ _ ⟨β, off, none⟩ hl).trans hc) h3⟩
    · rw [List.getElem?_append_right (by omega)] at hk
      rw [List.getElem?_append_right (by rw [hs.φlen]; omega)] at hβ
      have hi' : i - st.h.length = 0 := by
        have := (List.getElem?_eq_some_iff.1 hk).1
        simp at this; omega
      rw [hi'] at hk; rw [hs.φlen, hi'] at hβ
      simp at hk hβ
      subst hk; subst hβ
      have hlen : cells.length ≤ vs.size := by
        have := relL_length hc
        simp at this; omega
      refine ⟨⟨vs, fr, heap_alloc_new _ _, hlen, hfr⟩, relAt_of_get fun j x hj => ?_⟩
      obtain ⟨u, hu, hr⟩ := relL_get hc j x hj
      refine ⟨u, ?_, rel_mono hle x u hr⟩
      have hjl := (List.getElem?_eq_some_iff.1 hj).1
      rw [List.getElem?_take, if_pos hjl] at hu
      simp only [cx, World.cell?, Nat.zero_add, heap_alloc_new]
      simpa using hu

theorem curOf_set {φ : List Nat} {h : List ABlk} {i j : Nat} {k k' : ABlk} {β β' : Nat} (hc : curOf φ h j = some (k, β)) (k1 : ABlk) (β1 : Nat) :
    ∃ k2 β2, curOf (φ.set i β1) (h.set i k1) j = some (k2, β2) ∧ (i = j → k2 = k1 ∧ β2 = β1) ∧ (i ≠ j → k2 = k ∧ β2 = β) := by
  obtain ⟨h1, h2⟩ := curOf_eq.1 hc
  by_cases e : i = j
  · subst e
    have l1 := (List.getElem?_eq_some_iff.1 h1).1
    have l2 := (List.getElem?_eq_some_iff.1 h2).1
    exact ⟨k1, β1, curOf_eq.2 ⟨by simp [l1], by simp [l2]⟩, fun _ => ⟨rfl, rfl⟩, fun h => absurd rfl h⟩
  · exact ⟨k, β, curOf_eq.2 ⟨by rw [List.getElem?_set_ne e]; exact h1, by rw [List.getElem?_set_ne e]; exact h2⟩, fun h => absurd h e, fun _ => ⟨rfl, rfl⟩⟩
theorem set_self {α : Type} {l : List α} {i : Nat} {x : α} (h : l[i]? = some x) : l.set i x = l := by
  apply List.ext_getElem?
  intro j
  by_cases e : i = j
  · subst e; rw [List.getElem?_set_self (List.getElem?_eq_some_iff.1 h).1, h]
  · rw [List.getElem?_set_ne e]
theorem nodup_get {l : List Nat} (h : l.Nodup) {i j : Nat} {x : Nat} (hi : l[i]? = some x) (hj : l[j]? = some x) : i = j := by
  obtain ⟨h1, e1⟩ := List.getElem?_eq_some_iff.1 hi
  obtain ⟨h2, e2⟩ := List.getElem?_eq_some_iff.1 hj
  exact (List.getElem_inj h).1 (e1.trans e2.symm)

/-- Cells of a block of the call's own are written, in place. -/
theorem SR.upd (hs : SR X φ st a w) {w' : World} {i : Nat} {k : ABlk} {β : Nat} (hk : st.h[i]? = some k) (hβ : φ[i]? = some β) {vs vs' : Array Value} {fr : Nat × Nat} {cells : List AV} {ver : Nat} (hver : k.ver ≤ ver)
    (hold : w.heap[β]? = some (.cells vs k.e fr)) (hnew : w'.heap[β]? = some (.cells vs' k.e fr)) (hvs : vs'.size = vs.size) (hoth : ∀ r, r ≠ β → w'.heap[r]? = w.heap[r]?) (hsz : w'.heap.size = w.heap.size)
    (hos : w'.os = w.os) (htape : w'.tape = w.tape) (hout : w'.output = w.output) (hc : relL cells (cx X φ st.h w) (vs'.toList.take cells.length)) :
    SR X φ { st with h := st.h.set i ⟨ver, k.e, cells⟩ } a w' := by
  have hβm := List.mem_of_getElem? hβ
  have hlt := fun β hβ => (hs.rng β hβ).2
  have hcell : ∀ r off, r ≠ β → w'.cell? ⟨r, off, none⟩ = w.cell? ⟨r, off, none⟩ := fun r off hr => by unfold World.cell?; simp only [hoth r hr]
  have hle : (cx X φ st.h w).le (cx X φ (st.h.set i ⟨ver, k.e, cells⟩) w') := by
    refine ⟨rfl, fun b r ⟨h1, h2, h3⟩ => ⟨by simpa [cx, hsz] using h1, h2, h3⟩, fun b r off u ⟨_, h2, _⟩ hu => ?_, fun j k2 β2 hj => ?_⟩
    · have : r ≠ β := fun e => h2 (e ▸ hβm)
      exact (hcell r off this).trans hu
    · obtain ⟨k3, β3, h1, h2, h3⟩ := curOf_set (k' := k) (β' := β) hj ⟨ver, k.e, cells⟩ β (i := i)
      rw [set_self hβ] at h1
      obtain ⟨g1, g2⟩ := curOf_eq.1 hj
      refine ⟨k3, β3, h1, ?_, fun ev => ?_⟩
      · by_cases ij : i = j
        · obtain ⟨rfl, _⟩ := h2 ij
          subst ij
          rw [hk] at g1; cases g1; exact hver
        · obtain ⟨rfl, _⟩ := h3 ij; exact Nat.le_refl _
      · by_cases ij : i = j
        · obtain ⟨rfl, rfl⟩ := h2 ij
          subst ij
          rw [hk] at g1; cases g1
          rw [hβ] at g2; cases g2
          refine ⟨rfl, rfl, ?_⟩
          simp only [cx, World.shape?, hold, hnew, hvs]
        · obtain ⟨rfl, rfl⟩ := h3 ij
          refine ⟨rfl, rfl, ?_⟩
          have : β3 ≠ β := fun e' => ij (nodup_get hs.nodup hβ (e' ▸ g2))
          simp only [cx, World.shape?, hoth _ this]
  have hbw : Below X.w0.heap.size w w' := ⟨hos, htape, hout, by omega, fun r hr => hoth r (by have := (hs.rng β hβm).1; omega)⟩
  refine { below := hs.below.trans hbw, defers := hs.defers, slots := fun t => rel_mono hle _ _ (hs.slots t), len := hs.len, φlen := by simp [hs.φlen], nodup := hs.nodup, rng := fun β' h' => ⟨(hs.rng β' h').1, by rw [hsz]; exact hlt β' h'⟩, blk := fun j k2 β2 hj hb2 => ?_ }
  by_cases ij : i = j
  · subst ij
    rw [hβ] at hb2; cases hb2
    have l1 := (List.getElem?_eq_some_iff.1 hk).1
    have : k2 = ⟨ver, k.e, cells⟩ := by simpa [l1] using hj.symm
    subst this
    obtain ⟨⟨vs0, fr0, h1, h1', h2⟩, h3⟩ := hs.blk i k β hk hβ
    rw [hold] at h1; cases h1
    have hlen : cells.length ≤ vs'.size := by
      have := relL_length hc
      simp at this; omega
    refine ⟨⟨vs', fr, hnew, hlen, fun off ho => h2 off (by omega)⟩, relAt_of_get fun j x hj' => ?_⟩
    obtain ⟨u, hu, hr⟩ := relL_get hc j x hj'
    refine ⟨u, ?_, rel_mono hle x u hr⟩
    have hjl := (List.getElem?_eq_some_iff.1 hj').1
    rw [List.getElem?_take, if_pos hjl] at hu
    simp only [cx, World.cell?, Nat.zero_add, hnew]
    simpa using hu
  · rw [List.getElem?_set_ne ij] at hj
    have hne : β2 ≠ β := fun e' => ij (nodup_get hs.nodup hβ (e' ▸ hb2))
    obtain ⟨⟨vs0, fr0, h1, h1', h2⟩, h3⟩ := hs.blk j k2 β2 hj hb2
    exact ⟨⟨vs0, fr0, by rw [hoth _ hne]; exact h1, h1', h2⟩, relAt_le hle (fun off u hu => (hcell β2 off hne).trans hu) h3⟩

/-- A block of the call's own is made anew elsewhere. -/
theorem SR.moved (hs : SR X φ st a w) {i : Nat} {k : ABlk} {β : Nat} (hk : st.h[i]? = some k) (hβ : φ[i]? = some β) {vs : Array Value} {e : TypeId} {fr : Nat × Nat} {cells : List AV} {ver : Nat} (hver : k.ver < ver)
    (hc : relL cells (cx X φ st.h w) (vs.toList.take cells.length)) (hfr : ∀ off, off < vs.size → ¬ (fr.1 ≤ off ∧ off < fr.2)) :
    SR X (φ.set i w.heap.size) { st with h := st.h.set i ⟨ver, e, cells⟩ } a (w.alloc (.cells vs e fr)) := by
  have hnot : w.heap.size ∉ φ := fun hm => Nat.lt_irrefl _ (hs.rng _ hm).2
  have hlt : ∀ β ∈ φ, β < w.heap.size := fun β hβ => (hs.rng β hβ).2
  have hle : (cx X φ st.h w).le (cx X (φ.set i w.heap.size) (st.h.set i ⟨ver, e, cells⟩) (w.alloc (.cells vs e fr))) := by
    refine ⟨rfl, fun b r ⟨h1, h2, h3⟩ => ⟨by simp; omega, fun hm => ?_, h3⟩, fun b r off u ⟨h1, _⟩ hu => (World.cell?_alloc_lt _ _ ⟨r, off, none⟩ h1).trans hu, fun j k2 β2 hj => ?_⟩
    · rcases List.mem_or_eq_of_mem_set hm with h | h
      · exact h2 h
      · omega
    · obtain ⟨k3, β3, h1, h2, h3⟩ := curOf_set (k' := k) (β' := β) hj ⟨ver, e, cells⟩ w.heap.size (i := i)
      obtain ⟨g1, g2⟩ := curOf_eq.1 hj
      refine ⟨k3, β3, h1, ?_, fun ev => ?_⟩
      · by_cases ij : i = j
        · obtain ⟨rfl, _⟩ := h2 ij
          subst ij
          rw [hk] at g1; cases g1; exact Nat.le_of_lt hver
        · obtain ⟨rfl, _⟩ := h3 ij; exact Nat.le_refl _
      · by_cases ij : i = j
        · obtain ⟨rfl, rfl⟩ := h2 ij
          subst ij
          rw [hk] at g1; cases g1
          simp at ev; omega
        · obtain ⟨rfl, rfl⟩ := h3 ij
          refine ⟨rfl, rfl, ?_⟩
          simp only [cx, World.shape?]
          rw [Below.heap_alloc _ _ _ (hlt _ (List.mem_of_getElem? g2))]
  refine { below := hs.below.alloc hs.below.size _, defers := hs.defers, slots := fun t => rel_mono hle _ _ (hs.slots t), len := hs.len, φlen := by simp [hs.φlen], nodup := ?_, rng := ?_, blk := ?_ }
  · rw [List.nodup_iff_pairwise_ne, List.pairwise_iff_getElem]
    intro p q hp hq hpq
    have hp' : p < φ.length := by simpa using hp
    have hq' : q < φ.length := by simpa using hq
    rw [List.getElem_set, List.getElem_set]
    split <;> split
    · omega
    · exact fun e => hnot (e ▸ List.getElem_mem hq')
    · exact fun e => hnot (e ▸ List.getElem_mem hp')
    · exact fun e => by have := (List.getElem_inj hs.nodup).1 e; omega
  · intro β' h'
    rcases List.mem_or_eq_of_mem_set h' with h | h
    · exact ⟨(hs.rng β' h).1, by simp; have := hlt β' h; omega⟩
    · subst h; exact ⟨hs.below.size, by simp⟩
  · intro j k2 β2 hj hb2
    by_cases ij : i = j
    · subst ij
      have l1 := (List.getElem?_eq_some_iff.1 hk).1
      have l2 := (List.getElem?_eq_some_iff.1 hβ).1
      have e1 : k2 = ⟨ver, e, cells⟩ := by simpa [l1] using hj.symm
      have e2 : β2 = w.heap.size := by simpa [l2] using hb2.symm
      subst e1; subst e2
      have hlen : cells.length ≤ vs.size := by
        have := relL_length hc
        simp at this; omega
      refine ⟨⟨vs, fr, heap_alloc_new _ _, hlen, hfr⟩, relAt_of_get fun j x hj' => ?_⟩
      obtain ⟨u, hu, hr⟩ := relL_get hc j x hj'
      refine ⟨u, ?_, rel_mono hle x u hr⟩
      have hjl := (List.getElem?_eq_some_iff.1 hj').1
      rw [List.getElem?_take, if_pos hjl] at hu
      simp only [cx, World.cell?, Nat.zero_add, heap_alloc_new]
      simpa using hu
    · rw [List.getElem?_set_ne ij] at hj hb2
      obtain ⟨⟨vs0, fr0, h1, h1', h2⟩, h3⟩ := hs.blk j k2 β2 hj hb2
      have hl := hlt β2 (List.mem_of_getElem? hb2)
      exact ⟨⟨vs0, fr0, by rw [Below.heap_alloc _ _ _ hl]; exact h1, h1', h2⟩, relAt_le hle (fun off u hu => (World.cell?_alloc_lt _ _ ⟨β2, off, none⟩ hl).trans hu) h3⟩

mutual
theorem rel_cut {c c' : Cx} (hP : c'.P = c.P) (hw : c'.w = c.w) (hok : ∀ b r, c.ok b r → c'.ok b r) {n : Nat} (hcur : ∀ i, i < n → c'.cur i = c.cur i) : ∀ (x : AV) (u : Value), okRef n x = true → rel x c u → rel x c' u
  | .v _, _, _, hr => hr
  | .nan, _, _, hr => hr
  | .sl b m m' cs, u, _, hr => by
    simp only [rel] at hr ⊢
    obtain ⟨r, off, cap, h1, h2, h3, h4, h5⟩ := hr
    exact ⟨r, off, cap, h1, h2, h3, hok _ _ h4, relAt_mono (c := c.shut) (c' := c'.shut) ⟨hP, hok, fun _ _ _ _ _ h => by show c'.w.cell? _ = _; rw [hw]; exact h, fun _ _ _ h => by cases h⟩ cs r off ⟨b, h4⟩ h5⟩
  | .ela b cs, u, _, hr => by
    simp only [rel] at hr ⊢
    obtain ⟨r, off, h1, h4, h5⟩ := hr
    exact ⟨r, off, h1, hok _ _ h4, relAt_mono (c := c.shut) (c' := c'.shut) ⟨hP, hok, fun _ _ _ _ _ h => by show c'.w.cell? _ = _; rw [hw]; exact h, fun _ _ _ h => by cases h⟩ cs r off ⟨b, h4⟩ h5⟩
  | .agg cs, u, ho, hr => by
    simp only [rel] at hr ⊢
    obtain ⟨us, h1, h2⟩ := hr
    exact ⟨us, h1, relL_cut hP hw hok hcur cs _ (by simpa [okRef] using ho) h2⟩
  | .tup cs, u, ho, hr => by
    simp only [rel] at hr ⊢
    obtain ⟨us, h1, h2⟩ := hr
    exact ⟨us, h1, relL_cut hP hw hok hcur cs _ (by simpa [okRef] using ho) h2⟩
  | .ifc t x, u, ho, hr => by
    simp only [rel] at hr ⊢
    obtain ⟨y, h1, h2⟩ := hr
    exact ⟨y, h1, rel_cut hP hw hok hcur x _ (by simpa [okRef] using ho) h2⟩
  | .own i ver m, u, ho, hr => by
    have hi : i < n := by simpa [okRef] using ho
    simp only [rel] at hr ⊢
    rw [hcur i hi, hw, hP]; exact hr
  | .ptr i ver off, u, ho, hr => by
    have hi : i < n := by simpa [okRef] using ho
    simp only [rel] at hr ⊢
    rw [hcur i hi]; exact hr
  | .bad, _, _, _ => by simp only [rel]
theorem relL_cut {c c' : Cx} (hP : c'.P = c.P) (hw : c'.w = c.w) (hok : ∀ b r, c.ok b r → c'.ok b r) {n : Nat} (hcur : ∀ i, i < n → c'.cur i = c.cur i) : ∀ (xs : List AV) (us : List Value), okRefL n xs = true → relL xs c us → relL xs c' us
  | [], _, _, hr => hr
  | x :: xs, us, ho, hr => by
    have ho' : okRef n x = true ∧ okRefL n xs = true := by simpa [okRefL] using ho
    simp only [relL] at hr ⊢
    obtain ⟨u, us', h1, h2, h3⟩ := hr
    exact ⟨u, us', h1, rel_cut hP hw hok hcur x _ ho'.1 h2, relL_cut hP hw hok hcur xs _ ho'.2 h3⟩
end
theorem okRefL_get {n : Nat} : ∀ {xs : List AV}, okRefL n xs = true → ∀ (j : Nat) x, xs[j]? = some x → okRef n x = true
  | [], _, j, x, h => by simp at h
  | y :: xs, ho, j, x, h => by
    have ho' : okRef n y = true ∧ okRefL n xs = true := by simpa [okRefL] using ho
    cases j with
    | zero => simp at h; subst h; exact ho'.1
    | succ j => exact okRefL_get ho'.2 j x (by simpa using h)
theorem okRefB_get {n : Nat} : ∀ {ks : List ABlk}, okRefB n ks = true → ∀ (j : Nat) k, ks[j]? = some k → okRefL n k.cells = true
  | [], _, j, x, h => by simp at h
  | y :: xs, ho, j, x, h => by
    have ho' : okRefL n y.cells = true ∧ okRefB n xs = true := by simpa [okRefB] using ho
    cases j with
    | zero => simp at h; subst h; exact ho'.1
    | succ j => exact okRefB_get ho'.2 j x (by simpa using h)
theorem look_mem : ∀ {l : List (Nat × AV)} {t : Nat}, look l t = .bad ∨ (t, look l t) ∈ l
  | [], t => .inl rfl
  | (d, r) :: l, t => by
    simp only [look]
    split
    · rename_i e; subst e; exact .inr (by simp)
    · rcases look_mem (l := l) (t := t) with h | h
      · exact .inl h
      · exact .inr (by simp [h])
theorem allIn_mem {l : List (Nat × AV)} : ∀ {l2 : List (Nat × AV)}, allIn l l2 → ∀ d r, (d, r) ∈ l2 → look l d = r
  | [], _, d, r, hm => by simp at hm
  | (d', r') :: l2, h, d, r, hm => by
    simp only [allIn] at h
    rcases List.mem_cons.1 hm with e | hm
    · cases e; exact h.1
    · exact allIn_mem h.2 d r hm
theorem okRefL_mem {n : Nat} : ∀ {xs : List AV}, okRefL n xs = true → ∀ x ∈ xs, okRef n x = true
  | [], _, x, h => by simp at h
  | y :: xs, ho, x, h => by
    have ho' : okRef n y = true ∧ okRefL n xs = true := by simpa [okRefL] using ho
    rcases List.mem_cons.1 h with rfl | h
    · exact ho'.1
    · exact okRefL_mem ho'.2 x h
theorem SR.weak (hs : SR X φ st a w) {s2 : St} (hw : st.weak s2) : ∃ φ', SR X φ' s2 a w := by
  obtain ⟨hn, hl, h2⟩ := hw
  obtain ⟨⟨n2, l2⟩, sh⟩ := s2
  simp only at hn hl h2
  subst hn
  have hlook : ∀ t, look l2 t = .bad ∨ look l2 t = look st.s.l t := fun t => by
    rcases look_mem (l := l2) (t := t) with h | h
    · exact .inl h
    · exact .inr (allIn_mem hl _ _ h).symm
  rcases h2 with rfl | ⟨hsh, ho, hb⟩
  · refine ⟨φ, { hs with slots := fun t => ?_ }⟩
    rcases hlook t with h | h
    · simp only [h, rel]
    · simp only [h]; exact hs.slots t
  · obtain ⟨n, hn⟩ : ∃ n, n = sh.length := ⟨_, rfl⟩
    rw [← hn] at hsh ho hb
    subst hsh
    have hok : ∀ b r, (cx X φ st.h w).ok b r → (cx X (φ.take n) (st.h.take n) w).ok b r := fun b r ⟨g1, g2, g3⟩ => ⟨g1, fun hm => g2 (List.mem_of_mem_take hm), g3⟩
    have hcur : ∀ i, i < n → (cx X (φ.take n) (st.h.take n) w).cur i = (cx X φ st.h w).cur i := fun i hi => by simp only [cx, curOf, List.getElem?_take, hi, if_true]
    refine ⟨φ.take n, { below := hs.below, defers := hs.defers, slots := fun t => ?_, len := hs.len, φlen := by simp [hs.φlen], nodup := hs.nodup.sublist (List.take_sublist _ _), rng := fun β hβ => hs.rng β (List.mem_of_mem_take hβ), blk := fun i k β hk hβ => ?_ }⟩
    · rcases look_mem (l := l2) (t := t) with h | h
      · simp only [h, rel]
      · have e := allIn_mem hl _ _ h
        have ho' : okRef n (look l2 t) = true := okRefL_mem ho _ (List.mem_map.2 ⟨_, h, rfl⟩)
        refine rel_cut (c := cx X φ st.h w) (c' := cx X (φ.take n) (st.h.take n) w) rfl rfl hok hcur _ _ ho' ?_
        rw [← e]; exact hs.slots t
    · have hi : i < n := by
        by_cases hi : i < n
        · exact hi
        · rw [List.getElem?_take, if_neg hi] at hk; cases hk
      have hk' := hk
      rw [List.getElem?_take, if_pos hi] at hk hβ
      obtain ⟨g1, g2⟩ := hs.blk i k β hk hβ
      refine ⟨g1, relAt_of_get fun j x hj => ?_⟩
      obtain ⟨u, hu, hr⟩ := relAt_get g2 j x hj
      exact ⟨u, hu, rel_cut (c := cx X φ st.h w) (c' := cx X (φ.take n) (st.h.take n) w) rfl rfl hok hcur x u (okRefL_get (okRefB_get hb i k hk') j x hj) hr⟩
end
end Go.Ev
