/- The evaluator: abstract values, and code carried out on them. -/
import Derived.Test.YtlobiioioicmhaaGreatDoorU2
import Derived.RangeFuncKeeps
import Derived.RangeFuncLeaves
import Derived.OrdersIn
import Derived.LoopNIn
/- Code that is carried out within a round of a range over a function. -/
namespace Go.Ev
set_option linter.all false
open Go Go.RowKit
abbrev Fr (r : Option Nat) : Fence := { fn := fun _ => True, depth := none, alive := false, round := r }
def nd (o : Oper) : Bool := match o.op with | .defer _ => false | _ => true
theorem operIn {r : Option Nat} {n : Nat} {P : Program} {o : Oper} {a : Act} {w : World} {N N' : Act → World → Prop} {Q : Exit → Act → World → Prop} (hnd : nd o = true) (hN : ∀ a w, N a w → N' a w)
    (h : o.wp P a w N Q) : o.wpIn (Fr r) n P a w N' Q := by
  refine ⟨fun _ _ => trivial, ?_⟩
  have e : o.semAt r a.eval = execOp a.eval o := Oper.semAt_eq r a.eval o (fun c hc => by simp [nd, hc] at hnd)
  show o.uponIn (Fr r) n P a N' Q ((o.semAt r a.eval).run P w)
  rw [e]
  unfold Oper.wp at h
  revert h
  generalize (execOp a.eval o).run P w = R
  intro h
  cases R with
  | ok x w' =>
    cases x with
    | value v => exact hN _ _ h
    | skip => exact hN _ _ h
    | defer d => exact hN _ _ h
    | enter f args =>
      refine ⟨fun h => (by cases h), CallsIn.mono (callsIn_wide.2 h : CallsIn Fence.wide (n - 1) P f args w' _) ?_⟩
      intro e w2 h2
      cases e with
      | returned v => exact hN _ _ h2
      | panicked c => exact h2
      | outgrown => exact h2
    | row row args =>
      refine ⟨fun h => (by cases h), fun c cs _ => ?_⟩
      obtain ⟨v, w2, h1, h2⟩ := h c cs
      exact ⟨v, w2, hN _ _ h1, stepsIn_wide.2 h2⟩
    | _ => exact h.elim
  | halt x w' =>
    cases x with
    | panic v => exact h
    | _ => exact h.elim
section
variable {r : Option Nat} {n : Nat} {P : Program} {ops : Array Oper} {Q : Exit → Act → World → Prop}
theorem nd_at (hnd : ops.all nd = true) {i : Nat} {o : Oper} (h : ops[i]? = some o) : nd o = true := by
  obtain ⟨hi, e⟩ := Array.getElem?_eq_some_iff.1 h
  have := Array.all_eq_true.1 hnd i hi
  rwa [e] at this
theorem wpOpIn_of (hnd : ops.all nd = true) (hl : ¬ LetsOut Q) {K K' : Act → World → Prop} (hK : ∀ a w, K a w → K' a w) {i : Nat} {a : Act} {w : World} (h : wpOp P ops Q i K a w) : wpOpIn (Fr r) n P ops Q i K' a w := by
  unfold wpOp at h
  unfold wpOpIn
  cases ho : ops[i]? with
  | none => rw [ho] at h; exact hK _ _ h
  | some o =>
    rw [ho] at h
    simp only at h ⊢
    split
    · rename_i hw
      rw [if_pos hw] at h
      rcases h with h | ⟨_, h⟩
      · exact operIn (nd_at hnd ho) hK h
      · exact absurd h hl
    · rename_i hw
      rw [if_neg hw] at h
      exact ⟨fun _ _ => trivial, hK _ _ h⟩
theorem wpOpsIn_of (hnd : ops.all nd = true) (hl : ¬ LetsOut Q) : ∀ (is : List Nat) (a : Act) (w : World), wpOps P ops Q is a w → wpOpsIn (Fr r) n P ops Q is a w
  | [], a, w, h => h
  | i :: is, a, w, h => by
    rw [wpOps_cons] at h
    rw [wpOpsIn_cons]
    exact wpOpIn_of hnd hl (fun a w => wpOpsIn_of hnd hl is a w) h
theorem wpAnyIn_of {md : Region.Mode} (hnd : ops.all nd = true) (hl : ¬ LetsOut Q) : ∀ (fuel : Nat) (listed : Array Bool) (a : Act) (w : World), wpAny P md ops Q fuel listed a w → wpAnyIn (Fr r) n P md ops Q fuel listed a w
  | 0, listed, a, w, h => h
  | fuel + 1, listed, a, w, h => ⟨h.1, fun i hi => wpOpIn_of hnd hl (fun a w => wpAnyIn_of hnd hl fuel _ a w) (h.2 i hi)⟩
end
def plainC : Code → Bool
  | .region _ ops _ => ops.all nd
  | .seq x y => plainC x && plainC y
  | .cond _ x y => plainC x && plainC y
  | .block _ x => plainC x
  | .skip | .exit _ | .ret | .label _ | .goto _ => true
  | _ => false
def onlyN (Q : Act → World → Prop) : Exit → Act → World → Prop
  | .normal, a, w => Q a w
  | _, _, _ => False
theorem onlyN_out {Q : Act → World → Prop} : ¬ LetsOut (onlyN Q) := fun ⟨_, _, h⟩ => h
theorem onlyN_mono {Q : Exit → Act → World → Prop} : ∀ e a w, onlyN (Q .normal) e a w → Q e a w
  | .normal, _, _, h => h
section
variable {X : Fix} {n : Nat} {r : Option Nat}
theorem anyK_soundIn {ops : Array Oper} {K : St → Prop} {Q : Exit → Act → World → Prop} (hnd : ops.all nd = true) (hQ : ∀ a w, Nx X K a w → Q .normal a w) : ∀ (f : Nat) (listed : Array Bool) {φ : List Nat} {st : St} {a : Act} {w : World}, SR X φ st a w → anyK X.P ops K f listed st → wpAnyIn (Fr r) n X.P .any ops Q f listed a w
  | 0, listed, φ, st, a, w, hs, h => ⟨h.1, hQ _ _ ⟨φ, st, hs, h.2⟩⟩
  | f + 1, listed, φ, st, a, w, hs, h => by
    refine ⟨fun hr => hQ _ _ ⟨φ, st, hs, h.1 hr⟩, fun i hi => ?_⟩
    have hi2 : i ∈ List.range ops.size := by
      simp only [Region.ready, List.mem_filter] at hi
      exact hi.1
    obtain ⟨o, ho, hg, hk⟩ := h.2 i hi2 (by simpa using hi)
    unfold wpOpIn
    rw [ho]
    have hw : Region.wanted o (yielded ops a.tmps) = true := by simp [Region.wanted, hg]
    simp only [hw, if_true]
    exact operIn (nd_at hnd ho) (fun a' w' ⟨φ', s', hs', hk'⟩ => anyK_soundIn hnd hQ f _ hs' hk') (kop_sound hs hk)
theorem draw_soundIn {φ : List Nat} {st : St} {a : Act} {w : World} {ops : Array Oper} {Q : Post} {id : Nat} (hnd : ops.all nd = true) (hs : SR X φ st a w) (h : DrawK X.P ops Q st) : (Code.region id ops true).wpIn (Fr r) n X.P (Qx X Q) a w := by
  obtain ⟨h1, ⟨h2, h3⟩ | h3 | h3⟩ := h
  case inr.inr => exact wpIn_region_any h1 (anyK_soundIn (K := ExtC (normK Q)) hnd (fun a w ⟨φ', s', hs', s2, he, h'⟩ => ⟨φ', s2, hs'.same he.1.symm he.2.1.symm (fun t => (he.2.2.2 t).symm) he.2.2.1.symm, h'⟩) _ _ (hs.world ⟨rfl, rfl, rfl, Nat.le_refl _, fun _ _ => rfl⟩) h3)
  case inr.inl => exact wpIn_region_any h1 (anyK_soundIn (K := normK Q) hnd (fun a w ⟨φ', s', hs', h'⟩ => ⟨φ', s', hs', h'⟩) _ _ (hs.world ⟨rfl, rfl, rfl, Nat.le_refl _, fun _ _ => rfl⟩) h3)
  obtain ⟨S, rr, e0, e1, e2⟩ := runs ops.toList h3
  have R : Run X.P ops st S rr := ⟨e0, fun i o ho => e2 i o (by simpa using ho)⟩
  refine wpIn_mono (wpIn_region_any h1 (wpAnyIn_of hnd onlyN_out _ _ _ _ (draw_any rfl R (tbl := ancT ops) h2 (Q := onlyN (Qx X Q .normal)) (K := normK Q) (fun a w ⟨φ', s', hs', h'⟩ => ⟨φ', s', hs', h'⟩) (by simpa using e1) ops.size (Array.replicate ops.size false) a { w with drawn := w.drawn + 1 } φ (by simp) (fun i o _ hl => ?_) ?_ ?_))) onlyN_mono
  · simp only [Array.getD_eq_getD_getElem?, Array.getElem?_replicate] at hl
    split at hl <;> cases hl
  · exact Nat.le_trans (List.length_filter_le _ _) (by simp)
  · have hs2 : SR X φ st a { w with drawn := w.drawn + 1 } := hs.world ⟨rfl, rfl, rfl, Nat.le_refl _, fun _ _ => rfl⟩
    have hf : ∀ i, (Array.replicate ops.size false).getD i false = false := fun i => by
      simp only [Array.getD_eq_getD_getElem?, Array.getElem?_replicate]
      split <;> rfl
    refine hs2.same rfl rfl (fun t => ?_) ?_
    · have : look (lU ops st rr (fun i => (Array.replicate ops.size false).getD i false) ops.size) t = look st.s.l t := lU_stay (i := 0) ops.size (Nat.zero_le _) fun j o _ _ _ hl => by simp only [hf] at hl; cases hl
      exact this.symm
    · have : hU X.P ops st S (fun i => (Array.replicate ops.size false).getD i false) ops.size = st.h := hU_stay (i := 0) ops.size (Nat.zero_le _) fun j o _ _ _ hl => by simp only [hf] at hl; cases hl
      exact this.symm
theorem kwp_soundIn : ∀ (c : Code) (Q : Post) {φ : List Nat} {st : St} {a : Act} {w : World}, plainC c = true → SR X φ st a w → kwp X.P c Q st → c.wpIn (Fr r) n X.P (Qx X Q) a w
  | .skip, Q, φ, st, a, w, _, hs, h => wpIn_skip ⟨φ, st, hs, h⟩
  | .region id ops draw, Q, φ, st, a, w, hp, hs, h => by
    simp only [kwp] at h
    split at h
    · rename_i hd
      subst hd
      exact draw_soundIn hp hs h
    · rename_i hd
      have hd' : draw = false := by simpa using hd
      subst hd'
      refine wpIn_mono (wpIn_region (wpOpsIn_of hp onlyN_out _ _ _ (kops_sound ops (onlyN (Qx X Q .normal)) ops.toList _ ?_ hs h (fun a w ⟨φ', st', hs', h'⟩ => ⟨φ', st', hs', h'⟩)))) onlyN_mono
      apply List.ext_getElem?
      intro i
      simp only [List.getElem?_map]
      by_cases hi : i < ops.size
      · simp [hi]
      · rw [List.getElem?_eq_none (by simpa using hi), List.getElem?_eq_none (by simpa using hi)]; rfl
  | .seq x y, Q, φ, st, a, w, hp, hs, h => by
    simp only [kwp] at h
    have hp' : plainC x = true ∧ plainC y = true := by simpa [plainC] using hp
    refine wpIn_seq (wpIn_mono (kwp_soundIn x _ hp'.1 hs h) fun e a w hq => Qx_then (fun a w ⟨φ', st', hs', h'⟩ => kwp_soundIn y Q hp'.2 hs' h') e a w hq)
  | .cond c x y, Q, φ, st, a, w, hp, hs, h => by
    have hp' : plainC x = true ∧ plainC y = true := by simpa [plainC] using hp
    simp only [kwp] at h
    unfold CondK at h
    split at h
    · rename_i z hg
      have hc := hs.get c
      rw [hg] at hc
      simp only [rel] at hc
      exact wpIn_cond_split hc (fun e => kwp_soundIn x Q hp'.1 hs (h.1 e)) (fun e => kwp_soundIn y Q hp'.2 hs (h.2 e))
    · exact h.elim
  | .block id c, Q, φ, st, a, w, hp, hs, h => by
    simp only [kwp] at h
    refine wpIn_block (wpIn_mono (kwp_soundIn c _ hp hs h) fun e a w hq => ?_)
    obtain ⟨φ', st', hs', hq⟩ := hq
    cases e with
    | exit j =>
      simp only [inBlockA] at hq
      simp only [Exit.inBlock]
      split <;> rename_i hj
      · rw [if_pos hj] at hq; exact ⟨φ', st', hs', hq⟩
      · rw [if_neg hj] at hq; exact ⟨φ', st', hs', hq⟩
    | _ => exact ⟨φ', st', hs', hq⟩
  | .loop c, Q, φ, st, a, w, hp, hs, h => by simp [plainC] at hp
  | .exit id, Q, φ, st, a, w, _, hs, h => wpIn_exit ⟨φ, st, hs, h⟩
  | .ret, Q, φ, st, a, w, _, hs, h => wpIn_ret ⟨φ, st, hs, h⟩
  | .label l, Q, φ, st, a, w, _, hs, h => wpIn_label ⟨φ, st, hs, h⟩
  | .goto l, Q, φ, st, a, w, _, hs, h => wpIn_goto ⟨φ, st, hs, h⟩
  | .rangeFunc .., Q, φ, st, a, w, hp, hs, h => by simp [plainC] at hp
  | .scope .., Q, φ, st, a, w, hp, hs, h => by simp [plainC] at hp
  | .refuse .., Q, φ, st, a, w, hp, hs, h => by simp [plainC] at hp
end
end Go.Ev
/- A range over a function whose rounds are known: the rule, and the contract of a function that holds one. -/
namespace Go.Ev
set_option linter.all false
open Go Go.RowKit
/-- The same frame, with other blocks kept, other marks, another time in view. -/
def Fix.with (X : Fix) (K : List (Nat × Obj)) (df : List Deferred) (c0 : Option Cx) : Fix := { X with K := K, df := df, c0 := c0 }
section
variable {X : Fix} {φ : List Nat} {st : St} {a : Act} {w : World}
theorem SR.move (hs : SR X φ st a w) {K : List (Nat × Obj)} {df : List Deferred} {c0 : Option Cx} {a' : Act} {w' : World} {s' : Slots}
    (hb : Below X.w0.heap.size w w') (hE : ∀ r, r < w.heap.size → w'.heap[r]? = w.heap[r]? ∨ ∀ vs e fr, w.heap[r]? ≠ some (.cells vs e fr))
    (hd : a'.defers = df) (hn : a'.tmps.size = s'.n) (hg : ∀ c', (cx X φ st.h w).le c' → ∀ k, treeA (look s'.g k) = true ∧ rel (look s'.g k) c' (.pointer (some ⟨k, 0, none⟩)))
    (hsl : ∀ c', (cx X φ st.h w).le c' → ∀ t, rel (look s'.l t) c' (a'.tmps.getD t undef))
    (hk : ∀ p ∈ K, w'.heap[p.1]? = some p.2) (hkd : ∀ p ∈ K, p.1 ∉ φ)
    (hc : ∀ c c', c0 = some c → (cx X φ st.h w).le c' → c.le c') : SR (X.with K df c0) φ ⟨s', st.h⟩ a' w' := by
  have hcellE : ∀ r, r < w.heap.size → ∀ vs e fr, w.heap[r]? = some (.cells vs e fr) → w'.heap[r]? = w.heap[r]? := fun r hr vs e fr h => (hE r hr).resolve_right (fun hn => hn _ _ _ h)
  have hcell : ∀ r off u, r < w.heap.size → w.cell? ⟨r, off, none⟩ = some u → w'.cell? ⟨r, off, none⟩ = some u := fun r off u hr hu => by
    have h2 := hu
    unfold World.cell? at hu
    simp only at hu
    cases ho : w.heap[r]? with
    | none => rw [ho] at hu; cases hu
    | some o =>
      cases o with
      | cells vs e fr =>
        have := hcellE r hr vs e fr ho
        unfold World.cell? at h2 ⊢
        simp only at h2 ⊢
        rw [this]; exact h2
      | _ => rw [ho] at hu; simp at hu
  have hblk : ∀ β ∈ φ, ∃ vs e fr, w.heap[β]? = some (.cells vs e fr) := fun β hβ => by
    obtain ⟨i, hi⟩ := List.getElem?_of_mem hβ
    have hlt : i < st.h.length := by
      have := (List.getElem?_eq_some_iff.1 hi).1
      rw [← hs.φlen]; exact this
    obtain ⟨⟨vs, fr, h1, _, _⟩, _⟩ := hs.blk i st.h[i] β (by simp [hlt]) hi
    exact ⟨_, _, _, h1⟩
  have hφ : ∀ β ∈ φ, w'.heap[β]? = w.heap[β]? := fun β hβ => by
    obtain ⟨vs, e, fr, h⟩ := hblk β hβ
    exact hcellE β (hs.rng β hβ).2 _ _ _ h
  have hle : (cx X φ st.h w).le (cx (X.with K df c0) φ st.h w') := by
    refine ⟨rfl, fun b r ⟨h1, h2, h3⟩ => ⟨Nat.lt_of_lt_of_le h1 hb.size, h2, h3⟩, fun b r off u ⟨h1, _⟩ hu => hcell r off u h1 hu, fun i k β hk' => ⟨k, β, hk', Nat.le_refl _, fun _ => ⟨rfl, rfl, ?_⟩⟩⟩
    have hm := List.mem_of_getElem? (curOf_eq.1 hk').2
    simp only [cx, World.shape?, hφ β hm]
  have hB : ∀ (i : Nat) (k : ABlk) (β : Nat), st.h[i]? = some k → φ[i]? = some β → (∃ vs fr, w'.heap[β]? = some (.cells vs k.e fr) ∧ k.cells.length ≤ vs.size ∧ (∀ off, off < vs.size → ¬ (fr.1 ≤ off ∧ off < fr.2))) ∧ relAt k.cells (cx (X.with K df c0) φ st.h w') β 0 := fun i k β hk' hβ => by
    obtain ⟨⟨vs, fr, h1, h1', h2⟩, h3⟩ := hs.blk i k β hk' hβ
    have hm := List.mem_of_getElem? hβ
    exact ⟨⟨vs, fr, by rw [hφ β hm]; exact h1, h1', h2⟩, relAt_le hle (fun off u hc' => hcell β off u (hs.rng β hm).2 hc') h3⟩
  exact ⟨hs.below.trans hb, hd, hk, hkd, fun c hc' => hc c _ hc' hle, hsl _ hle, hn, hg _ hle, hs.φlen, hs.nodup, fun β hβ => ⟨(hs.rng β hβ).1, Nat.lt_of_lt_of_le (hs.rng β hβ).2 hb.size⟩, hB⟩
theorem SR.slots_le (hs : SR X φ st a w) : ∀ c', (cx X φ st.h w).le c' → ∀ t, rel (look st.s.l t) c' (a.tmps.getD t undef) := fun c' h t => rel_mono h _ _ (hs.slots t)
theorem SR.gl_le (hs : SR X φ st a w) : ∀ c', (cx X φ st.h w).le c' → ∀ k, treeA (look st.s.g k) = true ∧ rel (look st.s.g k) c' (.pointer (some ⟨k, 0, none⟩)) := fun c' h k => ⟨(hs.gl k).1, rel_mono h _ _ (hs.gl k).2⟩
theorem putObj_other {w : World} {l : Nat} {o o' : Obj} (h : w.heap[l]? = some o) (ho : ∀ vs e fr, o ≠ .cells vs e fr) (r : Nat) (hr : r < w.heap.size) : (w.putObj l o').heap[r]? = w.heap[r]? ∨ ∀ vs e fr, w.heap[r]? ≠ some (.cells vs e fr) := by
  by_cases e : r = l
  · subst e
    exact .inr fun vs e fr hc => by rw [h] at hc; exact ho _ _ _ (Option.some.inj hc)
  · exact .inl (World.putObj_heap_other e)
theorem putObj_below {w : World} {l n : Nat} {o' : Obj} (hn : n ≤ l) (hl : l < w.heap.size) : Below n w (w.putObj l o') :=
  (Below.refl n w).grown (grownBy_putObj' w l o') (by omega) (fun k e => by cases e; omega)
end
theorem _root_.Go.Ev.Cx.le.trans_le {a b c : Cx} (h : a.le b) (g : b.le c) : a.le c := Cx.le_trans h g
/-- THE CONTRACT OF AN ITERATOR whose N things are known: whatever the caller's rounds do with memory of their own. -/
def SeqC (P : Program) (g : Nat) (lb : Array Value) (N : Nat) (item : Nat → Array Value) (base : World → Prop) : Prop :=
  ∀ (l : Nat) (J : Nat → World → Prop) (Jx : World → Prop) (W : World),
    (∀ k A, J k A → base A) → (∀ k A B, J k A → Below A.heap.size A B → J k B) → (∀ A B, Jx A → Below A.heap.size A B → Jx B) →
    (∀ k W0 W1, k < N → J k W0 → Below W0.heap.size W0 W1 → YieldAt (Fr none) 0 P l (item k) W1 fun e W' =>
      (e = .returned (.bool true) ∧ J (k + 1) W' ∧ (∀ r, W0.heap.size ≤ r → r < W1.heap.size → W'.heap[r]? = W1.heap[r]?)) ∨ (e = .returned (.bool false) ∧ Jx W')) →
    J 0 W → Calls P g (#[.func (.yield l) #[] #[]] ++ lb) W fun e W' => (∃ v, e = .returned v) ∧ (J N W' ∨ Jx W')
def markD (D : Nat) : Deferred := { target := .collected D, args := #[] }
def Fix.marked (X : Fix) (D : Nat) : Fix := X.with ((D, .deferred (some [])) :: X.K) (markD D :: X.df) none
/-- How a round may end. -/
def roundQ (I : Prop) (S : Slots) (H : List ABlk) (Q : Post) : Post
  | .normal, s => I ∧ (⟨S, s.h⟩ : St).weak ⟨S, H⟩
  | .ret, s => Q .ret ⟨S, s.h⟩
  | .exit id, s => Q (.exit id) ⟨S, s.h⟩
  | _, _ => False
def assignQ (P : Program) (body : Code) (R : Post) : Post
  | .normal, s => kwp P body R s
  | _, _ => False
def QM (X : Fix) (Q : Post) (e : Exit) (a : Act) (w : World) : Prop := ∃ D φ st, (X.w0.heap.size ≤ D ∧ ∀ p ∈ X.K, p.1 < D) ∧ SR (X.marked D) φ st a w ∧ Q e st
/-- Blocks from n on. -/
def blocksFrom (n : Nat) (W : World) : List (Nat × Obj) := (List.range W.heap.size).filterMap fun r => if n ≤ r then (W.heap[r]?).map fun o => (r, o) else none
theorem mem_blocksFrom {n : Nat} {W : World} {p : Nat × Obj} (h : p ∈ blocksFrom n W) : n ≤ p.1 ∧ W.heap[p.1]? = some p.2 := by
  obtain ⟨r, hr, h2⟩ := List.mem_filterMap.1 h
  split at h2
  · rename_i hn
    cases ho : W.heap[r]? with
    | none => rw [ho] at h2; cases h2
    | some o => rw [ho] at h2; cases h2; exact ⟨hn, ho⟩
  · cases h2
theorem blocksFrom_mem {n : Nat} {W : World} {r : Nat} {o : Obj} (hn : n ≤ r) (h : W.heap[r]? = some o) : (r, o) ∈ blocksFrom n W := by
  refine List.mem_filterMap.2 ⟨r, List.mem_range.2 (Array.getElem?_eq_some_iff.1 h).1, ?_⟩
  rw [if_pos hn, h]; rfl
theorem range_rule {X : Fix} {φ : List Nat} {st : St} {a : Act} {w : World} {n : Nat} (hs : SR X φ st a w) (h0 : X.c0 = none)
    {g : Operand} {p q : Tmp} {assign body : Code} (hpa : plainC assign = true) (hpb : plainC body = true)
    {gf : Nat} {lb : Array Value} (hg : a.eval g = .func (.func gf) #[] lb) (eg : ∀ args w, (callFunc gf args).run X.P w = .ok (.enter gf args) w)
    (N : Nat) (item : Nat → Value × Value) {base : World → Prop} (hseq : SeqC X.P gf lb N (fun k => #[(item k).1, (item k).2]) base)
    (S : Slots) (H : Nat → List ABlk) (inv : Nat → Prop) (hi0 : inv 0) (hw : st.weak ⟨S, H 0⟩)
    (hbase : ∀ (X' : Fix) (φ' : List Nat) (k : Nat) (a' : Act) (W : World), X'.P = X.P → X'.G = X.G → X'.B = X.B → (∀ p ∈ X.K, W.heap[p.1]? = some p.2) → a'.tmps = a.tmps → SR X' φ' ⟨S, H k⟩ a' W → base W)
    (xs ys : Nat → AV) (hx : ∀ k, k < N → ∀ c, rel (xs k) c (item k).1 ∧ rel (ys k) c (item k).2)
    {Q : Post} (hround : ∀ k, k < N → inv k → kwp X.P assign (assignQ X.P body (roundQ (inv (k + 1)) S (H (k + 1)) Q)) ⟨putS (putS S (some p) (xs k)) (some q) (ys k), H k⟩)
    (hdone : inv N → Q .normal ⟨S, H N⟩) :
    (Code.rangeFunc g #[p, q] assign body).wpIn (Fr none) n X.P (QM X Q) a w := by
  obtain ⟨φ0, hs0⟩ := hs.weak h0 hw
  refine wpIn_rangeFunc ?_
  intro fn _
  obtain ⟨rec, hrec⟩ : ∃ rec : LoopState → Option Code → Loop, rec = fun st pe => { state := st, pending := pe, fn, tmps := a.tmps, params := #[p, q], assign, body, defers := w.heap.size } := ⟨_, rfl⟩
  obtain ⟨W1, hW1⟩ : ∃ W1, (w.alloc (.deferred (some []))).alloc (.loop (rec .ready none)) = W1 := ⟨_, rfl⟩
  have hL1 : W1.heap[w.heap.size + 1]? = some (.loop (rec .ready none)) := by
    rw [← hW1]; have := World.alloc_heap_new (w.alloc (.deferred (some []))) (.loop (rec .ready none)); rwa [World.size_alloc] at this
  have hK1 : W1.heap[w.heap.size]? = some (.deferred (some [])) := by
    rw [← hW1]; exact (Below.heap_alloc _ _ _ (by simp)).trans (World.alloc_heap_new w _)
  have hold : ∀ r, r < w.heap.size → W1.heap[r]? = w.heap[r]? := fun r hr => by
    rw [← hW1]; exact (Below.heap_alloc _ _ _ (by simp; omega)).trans (Below.heap_alloc _ _ _ hr)
  have hb1 : Below X.w0.heap.size w W1 := by
    rw [← hW1]; exact (((Below.refl _ w).alloc hs.below.size _).alloc (by simp; have := hs.below.size; omega) _)
  obtain ⟨a1, ha1⟩ : ∃ a1 : Act, a1 = { a with defers := markD w.heap.size :: a.defers } := ⟨_, rfl⟩
  have ht1 : a1.tmps = a.tmps := by rw [ha1]
  have hd1 : a1.defers = markD w.heap.size :: X.df := by rw [ha1, ← hs.defers]
  have hsz : a1.tmps.size = S.n := by rw [ht1]; exact hs0.len
  obtain ⟨KJ, hKJ⟩ : ∃ KJ : Loop → List (Nat × Obj), KJ = fun o => (w.heap.size, Obj.deferred (some [])) :: (w.heap.size + 1, Obj.loop o) :: X.K := ⟨_, rfl⟩
  have hKlt : ∀ p ∈ X.K, p.1 < w.heap.size := fun p hp => hs.kp_lt hp
  -- the record turned, all else kept
  have turn : ∀ (o o' : Loop) (E : List (Nat × Obj)) (W : World), (∀ p ∈ KJ o ++ E, W.heap[p.1]? = some p.2) → (∀ p ∈ E, p.1 ≠ w.heap.size + 1) → ∀ p ∈ KJ o' ++ E, (W.putObj (w.heap.size + 1) (.loop o')).heap[p.1]? = some p.2 := fun o o' E W h1 h2 p hp => by
    rw [hKJ] at h1 hp
    have hl : W.heap[w.heap.size + 1]? = some (.loop o) := h1 (w.heap.size + 1, .loop o) (by simp)
    simp only [List.cons_append, List.mem_cons, List.mem_append] at hp
    rcases hp with rfl | rfl | hp | hp
    · exact (World.putObj_heap_other (by simp)).trans (h1 (w.heap.size, .deferred (some [])) (by simp))
    · exact World.putObj_heap_same (Array.getElem?_eq_some_iff.1 hl).1
    · exact (World.putObj_heap_other (by have := hKlt p hp; omega)).trans (h1 p (by simp [hp]))
    · exact (World.putObj_heap_other (h2 p hp)).trans (h1 p (by simp [hp]))
  obtain ⟨XJ, hXJ⟩ : ∃ XJ : Loop → Fix, XJ = fun o => X.with (KJ o) (markD w.heap.size :: X.df) none := ⟨_, rfl⟩
  obtain ⟨J, hJ⟩ : ∃ J : Nat → World → Prop, J = fun k W => inv k ∧ ∃ φk, SR (XJ (rec .ready none)) φk ⟨S, H k⟩ a1 W := ⟨_, rfl⟩
  obtain ⟨Jx, hJx⟩ : ∃ Jx : World → Prop, Jx = fun W => ∃ c φk s, SR (XJ (rec .done (some c))) φk ⟨S, s⟩ a1 W ∧ ((c = .ret ∧ Q .ret ⟨S, s⟩) ∨ ∃ id, c = .exit id ∧ Q (.exit id) ⟨S, s⟩) := ⟨_, rfl⟩
  have hJ0 : J 0 W1 := by
    rw [hJ, hXJ]
    refine ⟨hi0, φ0, hs0.move hb1 (fun r hr => .inl (hold r hr)) hd1 hsz hs0.gl_le (fun c' h t => by rw [ht1]; exact hs0.slots_le c' h t) ?_ ?_ (fun c c' h => by cases h)⟩
    · intro p hp
      rw [hKJ] at hp
      simp only [List.mem_cons] at hp
      rcases hp with rfl | rfl | hp
      · exact hK1
      · exact hL1
      · exact (hold _ (hKlt p hp)).trans (hs0.kp p hp)
    · intro p hp hm
      rw [hKJ] at hp
      simp only [List.mem_cons] at hp
      have hlt := (hs0.rng _ hm).2
      rcases hp with rfl | rfl | hp
      · simp at hlt
      · simp at hlt; omega
      · exact hs0.kd p hp hm
  refine ⟨w.heap.size + 1, [{ target := .collected w.heap.size, args := #[] }], W1, { target := .fn (.func gf) lb, args := #[.func (.yield (w.heap.size + 1)) #[] #[]] }, W1, gf,
    #[.func (.yield (w.heap.size + 1)) #[] #[]] ++ lb, W1, ?_, ?_, fun _ _ => trivial, ?_, fun h => (by cases h), ?_⟩
  · rw [← hW1, hrec]; exact run_enterLoop_outer _ _ _ _ _
  · simp only [resolve, hg]
    simp [go_sem]
  · simp [invoke, go_sem, eg]
  · refine CallsIn.mono (callsIn_wide.2 (hseq (w.heap.size + 1) J Jx W1 ?_ ?_ ?_ ?_ hJ0) : CallsIn Fence.wide (n - 1) X.P gf _ W1 _) ?_
    · intro k A hA
      rw [hJ, hXJ] at hA
      obtain ⟨_, φk, hk⟩ := hA
      refine hbase (X.with (KJ (rec .ready none)) (markD w.heap.size :: X.df) none) φk k a1 A rfl rfl rfl (fun p hp => hk.kp p ?_) ht1 hk
      show p ∈ KJ _
      rw [hKJ]; simp [hp]
    · intro k A B hA hb
      rw [hJ] at hA ⊢
      obtain ⟨hik, φk, hk⟩ := hA
      exact ⟨hik, φk, hk.world hb⟩
    · intro A B hA hb
      rw [hJx] at hA ⊢
      obtain ⟨c, φk, s, hk, hq⟩ := hA
      exact ⟨c, φk, s, hk.world hb, hq⟩
    · intro k W0 W hkN hJk hbW
      rw [hJ, hXJ] at hJk
      obtain ⟨hik, φk, hk0⟩ := hJk
      have hk := hk0.world hbW
      have hmemJ : ∀ (o : Loop) (E : List (Nat × Obj)), (w.heap.size + 1, Obj.loop o) ∈ KJ o ++ E := fun o E => by rw [hKJ]; simp
      have hl : W.heap[w.heap.size + 1]? = some (.loop (rec .ready none)) := hk.kp (w.heap.size + 1, .loop (rec .ready none)) (by have := hmemJ (rec .ready none) []; rw [List.append_nil] at this; exact this)
      have hl0 : w.heap.size + 1 < W0.heap.size := by
        have : W0.heap[w.heap.size + 1]? = some (.loop (rec .ready none)) := hk0.kp (w.heap.size + 1, .loop (rec .ready none)) (by have := hmemJ (rec .ready none) []; rw [List.append_nil] at this; exact this)
        exact (Array.getElem?_eq_some_iff.1 this).1
      have hy := run_yield (P := X.P) (args := #[(item k).1, (item k).2]) hl (by rw [hrec]; rfl)
      rw [hrec] at hy
      refine ⟨fn, _, assign, body, hy, roundIn_of_wpIn (F := Fr none) trivial ?_⟩
      show assign.wpIn (Fr (some (w.heap.size + 1))) 0 X.P _ _ W
      obtain ⟨E, hE⟩ : ∃ E, E = blocksFrom W0.heap.size W := ⟨_, rfl⟩
      have hEne : ∀ p ∈ E, p.1 ≠ w.heap.size + 1 := fun p hp => by have := (mem_blocksFrom (hE ▸ hp)).1; omega
      obtain ⟨c0, hc0⟩ : ∃ c0, c0 = cx (X.with (KJ (rec .ready none)) (markD w.heap.size :: X.df) none) φk (H k) W := ⟨_, rfl⟩
      have h2 : SR (X.with (KJ (rec .ready none) ++ E) [] (some c0)) φk ⟨S, H k⟩ { tmps := a.tmps, defers := [] } W := by
        refine hk.move (Below.refl _ _) (fun r _ => .inl rfl) rfl (by show a.tmps.size = S.n; rw [← ht1]; exact hsz) hk.gl_le (fun c' h t => by show rel _ _ (a.tmps.getD t undef); rw [← ht1]; exact hk.slots_le c' h t) ?_ ?_ (fun c c' h h3 => by cases h; rw [hc0]; exact h3)
        · intro p hp
          rcases List.mem_append.1 hp with hp | hp
          · exact hk.kp p hp
          · exact (mem_blocksFrom (hE ▸ hp)).2
        · intro p hp hm
          rcases List.mem_append.1 hp with hp | hp
          · exact hk.kd p hp hm
          · have h1 := (mem_blocksFrom (hE ▸ hp)).1
            have h2 := (hk0.rng _ hm).2
            omega
      obtain ⟨hx1, hx2⟩ := hx k hkN (cx (X.with (KJ (rec .ready none) ++ E) [] (some c0)) φk (H k) W)
      have h3 := (h2.put (some p) hx1).put (some q) hx2
      have hact : (({ tmps := a.tmps, defers := [] } : Act).put (some p) (item k).1).put (some q) (item k).2 = { tmps := (#[p, q].zip #[(item k).1, (item k).2]).foldl (fun tmps (t, a) => tmps.setIfInBounds t a) a.tmps, defers := [] } := by
        simp [Act.put]
      rw [hact] at h3
      refine wpIn_mono (kwp_soundIn (X := X.with (KJ (rec .ready none) ++ E) [] (some c0)) (r := some (w.heap.size + 1)) assign _ hpa h3 (hround k hkN hik)) ?_
      rintro e a2 W2 ⟨φ2, st2, hs2, hq2⟩
      cases e with
      | normal =>
        have hl2 : W2.heap[w.heap.size + 1]? = some (.loop (rec .ready none)) := hs2.kp _ (hmemJ _ _)
        refine ⟨_, run_beginRound hl2 (by rw [hrec]), ?_⟩
        have hrb : ({ rec .ready none with state := .busy } : Loop) = rec .busy none := by rw [hrec]
        rw [hrb]
        have hnc : ∀ vs e fr, Obj.loop (rec .ready none) ≠ .cells vs e fr := fun _ _ _ h => by cases h
        have hlt2 := (Array.getElem?_eq_some_iff.1 hl2).1
        have hw0 : X.w0.heap.size ≤ w.heap.size + 1 := by have := hs.below.size; omega
        have h4 : SR (X.with (KJ (rec .busy none) ++ E) [] (some c0)) φ2 ⟨st2.s, st2.h⟩ a2 (W2.putObj (w.heap.size + 1) (.loop (rec .busy none))) := by
          refine hs2.move (putObj_below hw0 hlt2) (putObj_other hl2 hnc) hs2.defers hs2.len hs2.gl_le hs2.slots_le (turn _ _ E W2 hs2.kp hEne) ?_ (fun c c' h h3 => by cases h; exact (hs2.le0 c0 rfl).trans_le h3)
          intro p hp hm
          rw [hKJ] at hp
          simp only [List.cons_append, List.mem_cons, List.mem_append] at hp
          have hkd := hs2.kd
          rcases hp with rfl | rfl | hp | hp
          · exact hkd (w.heap.size, .deferred (some [])) (by show _ ∈ KJ _ ++ E; rw [hKJ]; simp) hm
          · exact hkd (w.heap.size + 1, .loop (rec .ready none)) (hmemJ _ _) hm
          · exact hkd p (by show _ ∈ KJ _ ++ E; rw [hKJ]; simp [hp]) hm
          · exact hkd p (by show _ ∈ KJ _ ++ E; rw [hKJ]; simp [hp]) hm
        refine wpIn_mono (kwp_soundIn (X := X.with (KJ (rec .busy none) ++ E) [] (some c0)) (r := some (w.heap.size + 1)) body _ hpb h4 hq2) ?_
        rintro e a3 W3 ⟨φ3, st3, hs3, hq3⟩
        have hl3 : W3.heap[w.heap.size + 1]? = some (.loop (rec .busy none)) := hs3.kp _ (hmemJ _ _)
        have hlt3 := (Array.getElem?_eq_some_iff.1 hl3).1
        have hnc3 : ∀ vs e fr, Obj.loop (rec .busy none) ≠ .cells vs e fr := fun _ _ _ h => by cases h
        -- back in the caller's frame
        have fin : ∀ (stt : LoopState) (pe : Option Code), SR (X.with (KJ (rec stt pe)) (markD w.heap.size :: X.df) none) φ3 ⟨S, st3.h⟩ a1 (W3.putObj (w.heap.size + 1) (.loop (rec stt pe))) := fun stt pe => by
          refine hs3.move (putObj_below hw0 hlt3) (putObj_other hl3 hnc3) hd1 hsz (fun c' h k => ?_) (fun c' h t => ?_) (fun p hp => turn _ _ E W3 hs3.kp hEne p (List.mem_append_left _ hp)) ?_ (fun c c' h => by cases h)
          · have hcc : c0.le c' := (hs3.le0 c0 rfl).trans_le h
            rw [hc0] at hcc
            exact hk.gl_le c' hcc k
          · have hcc : c0.le c' := (hs3.le0 c0 rfl).trans_le h
            rw [hc0] at hcc
            exact hk.slots_le c' hcc t
          · intro p hp hm
            rw [hKJ] at hp
            simp only [List.mem_cons] at hp
            have hkd := hs3.kd
            rcases hp with rfl | rfl | hp
            · exact hkd (w.heap.size, .deferred (some [])) (by show _ ∈ KJ _ ++ E; rw [hKJ]; simp) hm
            · exact hkd (w.heap.size + 1, .loop (rec .busy none)) (hmemJ _ _) hm
            · exact hkd p (by show _ ∈ KJ _ ++ E; rw [hKJ]; simp [hp]) hm
        have hrd : ∀ pe, ({ rec .busy none with state := if pe.isNone then .ready else .done, pending := pe } : Loop) = rec (if pe.isNone then .ready else .done) pe := fun pe => by rw [hrec]
        cases e with
        | normal =>
          have hr := run_endRound (P := X.P) none hl3
          rw [hrd] at hr
          refine ⟨_, _, hr, .inl ⟨rfl, ?_, ?_⟩⟩
          · rw [hJ, hXJ]
            obtain ⟨φ', h5⟩ := (fin .ready none).weak rfl hq3.2
            exact ⟨hq3.1, φ', h5⟩
          · intro r hr1 hr2
            have hmem : (r, W.heap[r]) ∈ E := hE ▸ blocksFrom_mem hr1 (by simp [hr2])
            have h6 := hs3.kp (r, W.heap[r]) (List.mem_append_right _ hmem)
            rw [World.putObj_heap_other (by omega)]
            exact h6.trans (by simp [hr2])
        | ret =>
          have hr := run_endRound (P := X.P) (some .ret) hl3
          rw [hrd] at hr
          refine ⟨_, _, hr, .inr ⟨rfl, ?_⟩⟩
          rw [hJx, hXJ]
          exact ⟨.ret, φ3, st3.h, fin .done (some .ret), .inl ⟨rfl, hq3⟩⟩
        | exit id =>
          have hr := run_endRound (P := X.P) (some (.exit id)) hl3
          rw [hrd] at hr
          refine ⟨_, _, hr, .inr ⟨rfl, ?_⟩⟩
          rw [hJx, hXJ]
          exact ⟨.exit id, φ3, st3.h, fin .done (some (.exit id)), .inr ⟨id, rfl, hq3⟩⟩
        | goto t => exact hq3.elim
        | panic ch => exact hq3.elim
        | outgrown => exact hq3.elim
      | exit id => exact hq2.elim
      | goto t => exact hq2.elim
      | ret => exact hq2.elim
      | panic ch => exact hq2.elim
      | outgrown => exact hq2.elim
    · rintro e W2 ⟨⟨v, rfl⟩, hend⟩
      -- the record is done with
      have fin : ∀ (o o' : Loop) (φk : List Nat) (h : List ABlk) (W : World), SR (X.with (KJ o) (markD w.heap.size :: X.df) none) φk ⟨S, h⟩ a1 W → SR (X.marked w.heap.size) φk ⟨S, h⟩ a1 (W.putObj (w.heap.size + 1) (.loop o')) := fun o o' φk h W hk => by
        have hl : W.heap[w.heap.size + 1]? = some (.loop o) := hk.kp (w.heap.size + 1, .loop o) (by show _ ∈ KJ o; rw [hKJ]; simp)
        have hnc : ∀ vs e fr, Obj.loop o ≠ .cells vs e fr := fun _ _ _ h => by cases h
        have hw0 : X.w0.heap.size ≤ w.heap.size + 1 := by have := hs.below.size; omega
        refine hk.move (putObj_below hw0 (Array.getElem?_eq_some_iff.1 hl).1) (putObj_other hl hnc) hd1 hsz hk.gl_le hk.slots_le ?_ ?_ (fun c c' h => by cases h)
        · intro p hp
          simp only [List.mem_cons] at hp
          rcases hp with rfl | hp
          · exact (World.putObj_heap_other (by simp)).trans (hk.kp (w.heap.size, .deferred (some [])) (by show _ ∈ KJ o; rw [hKJ]; simp))
          · exact (World.putObj_heap_other (by have := hKlt p hp; omega)).trans (hk.kp p (by show _ ∈ KJ o; rw [hKJ]; simp [hp]))
        · intro p hp hm
          simp only [List.mem_cons] at hp
          rcases hp with rfl | hp
          · exact hk.kd (w.heap.size, .deferred (some [])) (by show _ ∈ KJ o; rw [hKJ]; simp) hm
          · exact hk.kd p (by show _ ∈ KJ o; rw [hKJ]; simp [hp]) hm
      have ha1' : ({ a with defers := [{ target := .collected w.heap.size, args := #[] }] ++ a.defers } : Act) = a1 := by rw [ha1]; rfl
      rcases hend with hend | hend
      · rw [hJ, hXJ] at hend
        obtain ⟨hiN, φk, hk⟩ := hend
        have hl : W2.heap[w.heap.size + 1]? = some (.loop (rec .ready none)) := hk.kp (w.heap.size + 1, .loop (rec .ready none)) (by show _ ∈ KJ _; rw [hKJ]; simp)
        have hr := run_endLoop (P := X.P) hl (by rw [hrec]; simp)
        have hpe : (rec .ready none).pending = none := by rw [hrec]
        rw [hpe] at hr
        refine ⟨none, _, hr, ?_⟩
        show QM X Q .normal _ _
        rw [ha1']
        exact ⟨_, φk, ⟨S, H N⟩, ⟨hs.below.size, hKlt⟩, fin _ _ φk _ W2 hk, hdone hiN⟩
      · rw [hJx, hXJ] at hend
        obtain ⟨c, φk, s, hk, hq⟩ := hend
        have hl : W2.heap[w.heap.size + 1]? = some (.loop (rec .done (some c))) := hk.kp (w.heap.size + 1, .loop (rec .done (some c))) (by show _ ∈ KJ _; rw [hKJ]; simp)
        have hr := run_endLoop (P := X.P) hl (by rw [hrec]; simp)
        have hpe : (rec .done (some c)).pending = some c := by rw [hrec]
        rw [hpe] at hr
        refine ⟨some c, _, hr, ?_⟩
        show c.wpIn (Fr none) n X.P (QM X Q) _ _
        rw [ha1']
        rcases hq with ⟨rfl, hq⟩ | ⟨id, rfl, hq⟩
        · exact wpIn_ret ⟨_, φk, ⟨S, s⟩, ⟨hs.below.size, hKlt⟩, fin _ _ φk _ W2 hk, hq⟩
        · exact wpIn_exit ⟨_, φk, ⟨S, s⟩, ⟨hs.below.size, hKlt⟩, fin _ _ φk _ W2 hk, hq⟩
/-- Fewer blocks need be kept. -/
theorem SR.fewer {X : Fix} {φ : List Nat} {st : St} {a : Act} {w : World} {K K' : List (Nat × Obj)} {df : List Deferred} {c0 : Option Cx} (hs : SR (X.with K df c0) φ st a w) (h : ∀ p ∈ K', p ∈ K) : SR (X.with K' df c0) φ st a w :=
  ⟨hs.below, hs.defers, fun p hp => hs.kp p (h p hp), fun p hp => hs.kd p (h p hp), hs.le0, hs.slots, hs.len, hs.gl, hs.φlen, hs.nodup, hs.rng, hs.blk⟩
end Go.Ev
/- The contract of a function that holds ranges over functions: its marks are taken off at its end. -/
namespace Go.Ev
set_option linter.all false
open Go Go.RowKit
def Fix.marks (X : Fix) (Ds : List Nat) : Fix := X.with (Ds.map (fun D => (D, Obj.deferred (some []))) ++ X.K) (Ds.map markD ++ X.df) none
def QMs (X : Fix) (Q : Post) (e : Exit) (a : Act) (w : World) : Prop := ∃ Ds φ st, Ds.Nodup ∧ (∀ D ∈ Ds, X.w0.heap.size ≤ D) ∧ SR (X.marks Ds) φ st a w ∧ Q e st
theorem leave_marks {X : Fix} {P : Program} {fn : Func} {R : Ending → World → Prop} (hK : X.K = []) (hdf : X.df = []) {φ : List Nat} {st : St} {tmps : Array Value}
    (hR : ∀ (a : Act) (w : World), a.tmps = tmps → SR (X.marks []) φ st a w → ∃ v, (results fn tmps).run P w = .ok v w ∧ R (.returned v) w) :
    ∀ (Ds : List Nat) (a : Act) (w : World), Ds.Nodup → (∀ D ∈ Ds, X.w0.heap.size ≤ D) → a.tmps = tmps → SR (X.marks Ds) φ st a w → LeavesInM (Fr none) 0 P fn tmps R a.defers .returning w
  | [], a, w, _, _, ht, hs => by
    have hd : a.defers = [] := by have := hs.defers; simpa [Fix.marks, Fix.with, hdf] using this
    rw [hd]
    show LeavesIn (Fr none) 0 P fn tmps R [] .returning w
    exact hR a w ht hs
  | D :: Ds, a, w, hn, hw0, ht, hs => by
    have hd : a.defers = markD D :: Ds.map markD := by have := hs.defers; simpa [Fix.marks, Fix.with, hdf] using this
    have hk : w.heap[D]? = some (.deferred (some [])) := hs.kp (D, .deferred (some [])) (by simp [Fix.marks, Fix.with])
    have hlt := (Array.getElem?_eq_some_iff.1 hk).1
    obtain ⟨hn1, hn2⟩ := List.nodup_cons.1 hn
    rw [hd]
    refine ⟨fun h => (by cases h), .inl ⟨D, _, rfl, run_takeDeferred hk, ?_⟩⟩
    have hs2 : SR (X.marks Ds) φ ⟨st.s, st.h⟩ { a with defers := Ds.map markD } (w.putObj D (.deferred none)) := by
      have := hs.move (K := (X.marks Ds).K) (df := (X.marks Ds).df) (c0 := none) (a' := { a with defers := Ds.map markD }) (w' := w.putObj D (.deferred none)) (s' := st.s)
        (putObj_below (hw0 D (by simp)) hlt) (putObj_other hk (fun _ _ _ h => by cases h)) (by simp [Fix.marks, Fix.with, hdf]) hs.len hs.gl_le hs.slots_le
        (fun p hp => by
          have hp' : p ∈ (X.marks (D :: Ds)).K := by simp [Fix.marks, Fix.with] at hp ⊢; exact .inr hp
          have hne : p.1 ≠ D := fun e => by
            simp [Fix.marks, Fix.with, hK] at hp
            obtain ⟨D', h1, h2⟩ := hp
            rw [← h2] at e
            exact hn1 (e ▸ h1)
          exact (World.putObj_heap_other hne).trans (hs.kp p hp'))
        (fun p hp => hs.kd p (by simp [Fix.marks, Fix.with] at hp ⊢; exact .inr hp)) (fun c c' h => by cases h)
      exact this
    have := leave_marks hK hdf hR Ds { a with defers := Ds.map markD } _ hn2 (fun D' h => hw0 D' (by simp [h])) ht hs2
    exact this
theorem Ev.of_wpM {P : Program} {γ : List (Nat × AV)} {f : FuncId} {fn : Func} {c : Code} {args : List AV} {res : AV} (hf : P.funcs[f]? = some fn) (hb : fn.body = some c)
    (h : ∀ (X : Fix), X.P = P → X.c0 = none → X.K = [] → X.df = [] → ∀ {a : Act} {w : World}, SR X [] (startA γ args fn.ntmps) a w → c.wpIn (Fr none) 0 P (QMs X (endA P fn.results.toList res)) a w) : Ev P γ f args res := by
  intro G B w vs hG hγ hargs
  let X : Fix := { P, G, B := fun r => B r ∧ r < w.heap.size, w0 := w, hG, hB := fun r h => h.2 }
  have hle : (cx0 P G B w).le (cx X [] [] w) := ⟨rfl, fun b r ⟨h1, h2⟩ => ⟨h1, by simp, by cases b; exact h2; exact ⟨h2, h1⟩⟩, fun _ _ _ _ _ h => h, fun _ _ _ h => by cases h⟩
  have hargs' : relL args (cx X [] [] w) vs.toList := relL_mono hle _ _ hargs
  have hl : vs.size = args.length := by have := relL_length hargs; simpa using this
  have hs : SR X [] (startA γ args fn.ntmps) { tmps := vs ++ Array.replicate (fn.ntmps - vs.size) undef, defers := [] } w :=
    { below := Below.refl _ _, defers := rfl, kp := (fun p hp => by cases hp), kd := (fun p hp => by cases hp), le0 := (fun c hc => by cases hc), slots := fun t => by
        have key : ∀ (xs : List AV) (us : List Value) (i : Nat), relL xs (cx X [] [] w) us → look (idxL i xs) (i + t) = .bad ∨ ∃ u, us[t]? = some u ∧ rel (look (idxL i xs) (i + t)) (cx X [] [] w) u := by
          induction t with
          | zero =>
            intro xs us i h
            cases xs with
            | nil => exact .inl rfl
            | cons x xs =>
              simp only [relL] at h
              obtain ⟨u, us', rfl, h2, _⟩ := h
              exact .inr ⟨u, rfl, by simpa [idxL, look] using h2⟩
          | succ t ih =>
            intro xs us i h
            cases xs with
            | nil => exact .inl rfl
            | cons x xs =>
              simp only [relL] at h
              obtain ⟨u, us', rfl, _, h3⟩ := h
              have := ih xs us' (i + 1) h3
              rw [show i + (t + 1) = i + 1 + t by omega]
              simp only [idxL, look]
              rw [if_neg (by omega)]
              simpa using this
        have := key args vs.toList 0 hargs'
        simp only [Nat.zero_add] at this
        simp only [startA]
        rcases this with h | ⟨u, hu, h⟩
        · rw [h]; simp only [rel]
        · have hu' : vs[t]? = some u := by simpa using hu
          have hlt := (Array.getElem?_eq_some_iff.1 hu').1
          simpa [Array.getElem?_append_left hlt, hu'] using h
      len := by simp [startA, hl], gl := fun k => ⟨(hγ k).1, rel_mono hle _ _ (hγ k).2⟩, φlen := rfl, nodup := List.nodup_nil, rng := fun _ h => by simp at h, blk := fun i k β h => by simp [startA] at h }
  refine callsIn_wide.1 (callsIn_of_wp_marks (F := Fence.wide) (n := 0) hf hb trivial (wpIn_mono (h X rfl rfl rfl rfl hs) fun e a w' hq => ?_))
  obtain ⟨Ds, φ, st, hn, hw0, hs', hq⟩ := hq
  have fin : ∀ (a0 : Act) (w' : World), a0.tmps = a.tmps → SR (X.marks []) φ st a0 w' → (resA P fn.results.toList st fun xs => fz P st.h false res (oneOrTup xs)) → ∃ v, (results fn a.tmps).run P w' = .ok v w' ∧ ∃ u, Ending.returned v = .returned u ∧ rel res (cx0 P G B w') u ∧ Below w.heap.size w w' := by
    intro a0 w' hta hs' hr
    rw [← hta]
    obtain ⟨xs, us, h1, h2, h3⟩ := resA_run (X := X.marks []) hs' fn.results.toList hr
    have h1 := (show (fn.results.toList.mapM fun | .tmp t => pure (a0.tmps.getD t undef) | .cell p t => do loadVar t (← asAddr (a0.tmps.getD p undef)) : Sem (List Value)).run P w' = .ok us w' from h1)
    refine ⟨if h : us.toArray.size = 1 then us.toArray[0] else .tuple us.toArray, ?_, _, rfl, ?_, hs'.below⟩
    · unfold results
      rw [Sem.run_bind]
      have e : (fn.results.mapM fun | .tmp t => pure (a0.tmps.getD t undef) | .cell p t => do loadVar t (← asAddr (a0.tmps.getD p undef)) : Sem (Array Value)).run P w' = .ok us.toArray w' := by
        rw [Array.mapM_eq_mapM_toList, Sem.run_map, h1]
        rfl
      exact (congrArg (fun r => Result.andThen r _) e).trans rfl
    · have hrel : rel (oneOrTup xs) (cx (X.marks []) φ st.h w') (if h : us.toArray.size = 1 then us.toArray[0] else .tuple us.toArray) := by
        have hlen := relL_length h2
        match xs, us, h2, hlen with
        | [x], [u], h2, _ =>
          simp only [relL] at h2
          obtain ⟨u', us', e, hr, _⟩ := h2
          cases e
          exact hr
        | [], [], h2, _ =>
          simp only [oneOrTup, rel]
          exact ⟨#[], rfl, h2⟩
        | x :: y :: xs, u :: v :: us, h2, _ =>
          simp only [oneOrTup, rel]
          refine ⟨(u :: v :: us).toArray, ?_, h2⟩
          rw [dif_neg (by simp)]
        | [], _ :: _, _, hl => simp at hl
        | _ :: _, [], _, hl => simp at hl
        | [_], _ :: _ :: _, _, hl => simp at hl
        | _ :: _ :: _, [_], _, hl => simp at hl
      refine rel_fz (X := X.marks []) (b0 := false) (ok' := (cx0 P G B w').ok) hs' (fun b r ⟨h1, h2, h3⟩ => ⟨h1, ?_⟩) (fun β hβ => ⟨(hs'.rng β hβ).2, fun hg => ?_⟩) res _ _ h3 hrel
      · cases b
        · exact h3
        · exact h3.1
      · have := (hs'.rng β hβ).1
        have := hG β hg
        exact absurd this (by show ¬ β < w.heap.size; have : w.heap.size ≤ β := (hs'.rng β hβ).1; omega)
  have go : (resA P fn.results.toList st fun xs => fz P st.h false res (oneOrTup xs)) → LeavesInM Fence.wide 0 P fn a.tmps (fun e w' => ∃ u, e = .returned u ∧ rel res (cx0 P G B w') u ∧ Below w.heap.size w w') a.defers .returning w' := fun hr =>
    leave_marks (X := X) rfl rfl (fun a0 w2 h1 h2 => fin a0 w2 h1 h2 hr) Ds a w' hn hw0 rfl hs'
  cases e with
  | normal => exact go hq
  | ret => exact go hq
  | _ => exact hq.elim
end Go.Ev
/- A region that calls yield; a fresh frame. -/
namespace Go.Ev
set_option linter.all false
open Go Go.RowKit
section
variable {r : Option Nat} {n : Nat} {P : Program} {ops : Array Oper} {Q : Exit → Act → World → Prop}
theorem operIn_post {o : Oper} {a : Act} {w : World} {Z N N' : Act → World → Prop} (hN : ∀ a w, N a w → N' a w) (h : o.wpIn (Fr r) n P a w N (onlyN Z)) : o.wpIn (Fr r) n P a w N' Q := by
  refine ⟨fun _ _ => trivial, ?_⟩
  have h := h.2
  revert h
  show o.uponIn (Fr r) n P a N (onlyN Z) ((o.semAt r a.eval).run P w) → o.uponIn (Fr r) n P a N' Q ((o.semAt r a.eval).run P w)
  generalize (o.semAt r a.eval).run P w = R
  intro h
  cases R with
  | ok x w' =>
    cases x with
    | value v => exact hN _ _ h
    | skip => exact hN _ _ h
    | defer d => exact hN _ _ h
    | enter f args =>
      refine ⟨fun h => (by cases h), CallsIn.mono h.2 ?_⟩
      intro e w2 h2
      cases e with
      | returned v => exact hN _ _ h2
      | panicked c => exact h2.elim
      | outgrown => exact absurd h2 onlyN_out
    | row row args => exact ⟨fun h => (by cases h), RowsIn.mono h.2 fun v w2 h2 => hN _ _ h2⟩
    | round l f tmps assign body =>
      refine ⟨fun h => (by cases h), RoundIn.mono h.2 ?_⟩
      intro e w2 h2
      cases e with
      | returned v => exact hN _ _ h2
      | panicked c => exact h2.elim
      | outgrown => exact absurd h2 onlyN_out
    | _ => exact h.elim
  | halt x w' =>
    cases x with
    | panic v => exact h.elim
    | _ => exact h.elim
theorem wpOpsIn_split : ∀ (is1 is2 : List Nat) (a : Act) (w : World), wpOpsIn (Fr r) n P ops (onlyN (fun a w => wpOpsIn (Fr r) n P ops Q is2 a w)) is1 a w → wpOpsIn (Fr r) n P ops Q (is1 ++ is2) a w
  | [], is2, a, w, h => h
  | i :: is1, is2, a, w, h => by
    rw [wpOpsIn_cons] at h
    rw [List.cons_append, wpOpsIn_cons]
    unfold wpOpIn at h ⊢
    cases ho : ops[i]? with
    | none => rw [ho] at h; exact wpOpsIn_split is1 is2 a w h
    | some o =>
      rw [ho] at h
      simp only at h ⊢
      split
      · rename_i hw
        rw [if_pos hw] at h
        exact operIn_post (fun a w => wpOpsIn_split is1 is2 a w) h
      · rename_i hw
        rw [if_neg hw] at h
        exact ⟨h.1, wpOpsIn_split is1 is2 _ w h.2⟩
end
theorem roundIn_any {n m : Nat} {r : Option Nat} {P : Program} {l f : Nat} {tmps : Array Value} {assign body : Code} {w : World} {R : Ending → World → Prop} (h : RoundIn (Fr r) n P l f tmps assign body w R) : RoundIn (Fr r) m P l f tmps assign body w R :=
  ⟨h.1, fun c cs _ => h.2 c cs (fun d hd => by cases hd)⟩
/-- A call of yield. -/
theorem yield_wpIn {n m : Nat} {P : Program} {o : Oper} {a : Act} {w : World} {x : Operand} {args : Array Operand} {ts : Array TypeId} {l : Nat} {vs : Array Value} {R : Ending → World → Prop} {N : Act → World → Prop} {Q : Exit → Act → World → Prop}
    (ho : o.op = .call { callee := .value x, args := args, argTypes := ts }) (hx : a.eval x = .func (.yield l) #[] #[]) (hvs : args.map a.eval = vs) (hY : YieldAt (Fr none) m P l vs w R)
    (hR : ∀ e w', R e w' → ∃ v, e = .returned v ∧ N (a.put o.dst v) w') : o.wpIn (Fr none) n P a w N Q := by
  obtain ⟨fn, tmps, assign, body, hy, hr⟩ := hY
  refine ⟨fun _ _ => trivial, ?_⟩
  have e : o.semAt none a.eval = execOp a.eval o := rfl
  show o.uponIn (Fr none) n P a N Q ((o.semAt none a.eval).run P w)
  have hrun : (execOp a.eval o).run P w = .ok (.round l fn tmps assign body) w := by
    unfold execOp
    rw [ho]
    simp only [resolve, hx]
    simp [go_sem, invoke, hvs, hy]
  rw [e, hrun]
  refine ⟨fun h => (by cases h), RoundIn.mono (roundIn_any hr) ?_⟩
  intro e w' h
  obtain ⟨v, rfl, h2⟩ := hR e w' h
  exact h2
/-- A frame that begins in a world. -/
def freshX (P : Program) (W : World) (B : Nat → Prop) (hB : ∀ r, B r → r < W.heap.size) : Fix := { P, G := fun _ => False, B, w0 := W, hG := fun _ h => h.elim, hB }
theorem SR.fresh {P : Program} {W : World} {B : Nat → Prop} {hB : ∀ r, B r → r < W.heap.size} {s : Slots} {a : Act} (hd : a.defers = []) (hn : a.tmps.size = s.n)
    (hsl : ∀ t, rel (look s.l t) (cx (freshX P W B hB) [] [] W) (a.tmps.getD t undef)) (hg : ∀ k, treeA (look s.g k) = true ∧ rel (look s.g k) (cx (freshX P W B hB) [] [] W) (.pointer (some ⟨k, 0, none⟩))) : SR (freshX P W B hB) [] ⟨s, []⟩ a W :=
  ⟨Below.refl _ _, hd, (fun p hp => by cases hp), (fun p hp => by cases hp), (fun c hc => by cases hc), hsl, hn, hg, rfl, List.nodup_nil, (fun _ h => by simp at h), (fun i k β h => by simp at h)⟩
def wkQ (S : St) : Post
  | .normal, s => s.weak S
  | _, _ => False
theorem wkQ_normal (S s : St) : wkQ S .normal s = s.weak S := rfl
/-- A piece of plain code, known by the state that it leaves. -/
theorem pieceIn {X : Fix} {φ : List Nat} {st : St} {a : Act} {w : World} {r : Option Nat} {n : Nat} {c : Code} (S : St) {N : Act → World → Prop} {Q : Exit → Act → World → Prop} (hp : plainC c = true) (h0 : X.c0 = none) (hs : SR X φ st a w) (hk : kwp X.P c (wkQ S) st)
    (hnext : ∀ φ' a' w', SR X φ' S a' w' → N a' w') : c.wpIn (Fr r) n X.P (Exit.then N Q) a w := by
  refine wpIn_mono (kwp_soundIn (r := r) c _ hp hs hk) ?_
  rintro e a' w' ⟨φ', s', hs', hq⟩
  cases e with
  | normal =>
    obtain ⟨φ2, h2⟩ := hs'.weak h0 hq
    exact hnext _ _ _ h2
  | _ => exact hq.elim
/-- Some operations of a region, known by the state that they leave. -/
theorem opsIn {X : Fix} {φ : List Nat} {st : St} {a : Act} {w : World} {n : Nat} {ops : Array Oper} (S : St) {N : Act → World → Prop} (hnd : ops.all nd = true) (h0 : X.c0 = none) (os : List Oper) (is : List Nat) (he : is.map (ops[·]?) = os.map some) (hs : SR X φ st a w) (hk : kops X.P ops os (fun s => s.weak S) st)
    (hnext : ∀ φ' a' w', SR X φ' S a' w' → N a' w') : wpOpsIn (Fr none) n X.P ops (onlyN N) is a w := by
  refine wpOpsIn_of hnd onlyN_out _ _ _ (kops_sound ops (onlyN N) os is he hs hk ?_)
  rintro a' w' ⟨φ', s', hs', hq⟩
  obtain ⟨φ2, h2⟩ := hs'.weak h0 hq
  exact hnext _ _ _ h2
theorem SR.getv {X : Fix} {φ : List Nat} {st : St} {a : Act} {w : World} (hs : SR X φ st a w) {t : Nat} {x : Value} (h : look st.s.l t = .v x) : a.tmps.getD t undef = x := by
  have := hs.slots t
  rw [h] at this
  simpa [rel] using this
end Go.Ev
/- A call carried out on the caller's own blocks: what it makes stays the caller's, and it may write what it was lent. -/
namespace Go.Ev
set_option linter.all false
open Go Go.RowKit
theorem look_args {c : Cx} : ∀ (t : Nat) (xs : List AV) (us : List Value) (i : Nat), relL xs c us → look (idxL i xs) (i + t) = .bad ∨ ∃ u, us[t]? = some u ∧ rel (look (idxL i xs) (i + t)) c u
  | 0, xs, us, i, h => by
    cases xs with
    | nil => exact .inl rfl
    | cons x xs =>
      simp only [relL] at h
      obtain ⟨u, us', rfl, h2, _⟩ := h
      exact .inr ⟨u, rfl, by simpa [idxL, look] using h2⟩
  | t + 1, xs, us, i, h => by
    cases xs with
    | nil => exact .inl rfl
    | cons x xs =>
      simp only [relL] at h
      obtain ⟨u, us', rfl, _, h3⟩ := h
      have := look_args t xs us' (i + 1) h3
      rw [show i + (t + 1) = i + 1 + t by omega]
      simp only [idxL, look]
      rw [if_neg (by omega)]
      simpa using this
theorem rel_oneOrTup {c : Cx} {xs : List AV} {us : List Value} (h2 : relL xs c us) : rel (oneOrTup xs) c (if h : us.toArray.size = 1 then us.toArray[0] else .tuple us.toArray) := by
  have hlen := relL_length h2
  match xs, us, h2, hlen with
  | [x], [u], h2, _ =>
    simp only [relL] at h2
    obtain ⟨u', us', e, hr, _⟩ := h2
    cases e
    exact hr
  | [], [], h2, _ =>
    simp only [oneOrTup, rel]
    exact ⟨#[], rfl, h2⟩
  | x :: y :: xs, u :: v :: us, h2, _ =>
    simp only [oneOrTup, rel]
    refine ⟨(u :: v :: us).toArray, ?_, h2⟩
    rw [dif_neg (by simp)]
  | [], _ :: _, _, hl => simp at hl
  | _ :: _, [], _, hl => simp at hl
  | [_], _ :: _ :: _, _, hl => simp at hl
  | _ :: _ :: _, [_], _, hl => simp at hl
/-- The frame of a call on the caller's blocks. -/
def Fix.inl (X : Fix) (φ : List Nat) (h : List ABlk) (w : World) : Fix := X.with X.K [] (some (cx X φ h w))
/-- Less is known of the slots; the blocks are the same. -/
def slotW (s S : St) : Prop := S.s.n = s.s.n ∧ S.s.g = s.s.g ∧ allIn s.s.l S.s.l ∧ S.h = s.h
theorem SR.slotW {X : Fix} {φ : List Nat} {st S : St} {a : Act} {w : World} (hs : SR X φ st a w) (h : slotW st S) : SR X φ S a w := by
  obtain ⟨hn, hg, hl, hh⟩ := h
  obtain ⟨⟨n2, l2, g2⟩, sh⟩ := S
  simp only at hn hg hl hh
  subst hn
  subst hg
  subst hh
  refine { hs with slots := fun t => ?_ }
  rcases look_mem (l := l2) (t := t) with h | h
  · simp only [h, rel]
  · have := (allIn_mem hl _ _ h).symm
    simp only [this]; exact hs.slots t
end Go.Ev
/- Regions that draw their order: what holds in some orders holds in every order, if what may change places does not matter. -/
namespace Go.Ev
set_option linter.all false
open Go Go.RowKit
def ExtK (K : St → Prop) : Prop := ∀ s s', eqvS s s' → K s → K s'
theorem eqvS_refl (s : St) : eqvS s s := ⟨rfl, rfl, rfl, fun _ => rfl⟩
theorem eqvS_trans {a b c : St} (h : eqvS a b) (g : eqvS b c) : eqvS a c := ⟨h.1.trans g.1, h.2.1.trans g.2.1, h.2.2.1.trans g.2.2.1, fun t => (h.2.2.2 t).trans (g.2.2.2 t)⟩
theorem eqvS_get {s s' : St} (h : eqvS s s') (x : Operand) : get s.s x = get s'.s x := by
  cases x with
  | tmp t => exact h.2.2.2 t
  | const v => rfl
  | global g => simp only [get, h.2.1]
  | func f => rfl
theorem look_pt (s : St) (d : Option Tmp) (r : AV) (t : Nat) : look (pt s d r).s.l t = if d = some t ∧ t < s.s.n then r else look s.s.l t := by
  cases d with
  | none => simp [pt, putS]
  | some d =>
    by_cases hd : d < s.s.n
    · simp only [pt, putS, if_pos hd, look]
      by_cases e : d = t
      · subst e; simp [hd]
      · simp [e]
    · simp only [pt, putS, if_neg hd]
      by_cases e : d = t
      · subst e; simp [hd]
      · simp [e]
theorem pt_n (s : St) (d : Option Tmp) (r : AV) : (pt s d r).s.n = s.s.n := by
  cases d with
  | none => rfl
  | some d => simp only [pt, putS]; split <;> rfl
theorem pt_g (s : St) (d : Option Tmp) (r : AV) : (pt s d r).s.g = s.s.g := by
  cases d with
  | none => rfl
  | some d => simp only [pt, putS]; split <;> rfl
theorem eqvS_pt {s s' : St} (hn : s.s.n = s'.s.n) (hg : s.s.g = s'.s.g) (hl : ∀ t, look s.s.l t = look s'.s.l t) (h : List ABlk) (d : Option Tmp) (r : AV) : eqvS (pt ⟨s.s, h⟩ d r) (pt ⟨s'.s, h⟩ d r) :=
  ⟨by rw [pt_n, pt_n]; exact hn, by rw [pt_g, pt_g]; exact hg, rfl, fun t => by rw [look_pt, look_pt]; simp only [hn, hl t]⟩
/-- Two writes to unlike slots. -/
theorem eqvS_swap (s : Slots) (h : List ABlk) {d1 d2 : Option Tmp} (hne : ∀ t, ¬ (d1 = some t ∧ d2 = some t)) (r1 r2 : AV) (h1 h2 : List ABlk) : eqvS (pt ⟨(pt ⟨s, h1⟩ d1 r1).s, h⟩ d2 r2) (pt ⟨(pt ⟨s, h2⟩ d2 r2).s, h⟩ d1 r1) := by
  refine ⟨by simp only [pt_n], by simp only [pt_g], rfl, fun t => ?_⟩
  simp only [look_pt, pt_n]
  by_cases a : d1 = some t ∧ t < s.n
  · by_cases b : d2 = some t ∧ t < s.n
    · exact absurd ⟨a.1, b.1⟩ (hne t)
    · rw [if_neg b, if_pos a, if_pos a]
  · by_cases b : d2 = some t ∧ t < s.n
    · rw [if_pos b, if_neg a, if_pos b]
    · rw [if_neg b, if_neg a, if_neg a, if_neg b]
/-! ### What an operation must be like -/
structure TOk (T : Oper → (St → Prop) → St → Prop) (cl : Oper → Oper → Bool) : Prop where
  mono : ∀ {o K K' s}, (∀ s, K s → K' s) → T o K s → T o K' s
  ext : ∀ {o K}, ExtK K → ExtK (T o K)
  comm : ∀ {x y K s}, cl x y = false → ExtK K → T x (T y K) s → T y (T x K) s
def seqT (T : Oper → (St → Prop) → St → Prop) (ops : Array Oper) : List Nat → (St → Prop) → St → Prop
  | [], K, s => K s
  | i :: p, K, s => match ops[i]? with | some o => T o (seqT T ops p K) s | none => False
def anyG (T : Oper → (St → Prop) → St → Prop) (ops : Array Oper) (K : St → Prop) : Nat → Array Bool → St → Prop
  | 0, listed, s => Region.ready .any ops listed = [] ∧ K s
  | f + 1, listed, s => (Region.ready .any ops listed = [] → K s) ∧
    ∀ i ∈ List.range ops.size, (Region.ready .any ops listed).contains i = true → ∃ o, ops[i]? = some o ∧ o.guard = none ∧ T o (fun s' => anyG T ops K f (listed.setIfInBounds i true) s') s
theorem anyK_eq (P : Program) (ops : Array Oper) (K : St → Prop) : ∀ (f : Nat), anyG (kop P) ops K f = anyK P ops K f
  | 0 => rfl
  | f + 1 => by
    funext l s
    simp only [anyG, anyK, anyK_eq P ops K f]
theorem seqT_mono {T : Oper → (St → Prop) → St → Prop} (hm : ∀ o (K K' : St → Prop) s, (∀ s, K s → K' s) → T o K s → T o K' s) {ops : Array Oper} {K K' : St → Prop} (h : ∀ s, K s → K' s) : ∀ (p : List Nat) {s : St}, seqT T ops p K s → seqT T ops p K' s
  | [], s, hs => h s hs
  | i :: p, s, hs => by
    simp only [seqT] at hs ⊢
    cases ho : ops[i]? with
    | none => rw [ho] at hs; exact hs.elim
    | some o => rw [ho] at hs; exact hm _ _ _ _ (fun s h' => seqT_mono hm h p h') hs
section
variable {T : Oper → (St → Prop) → St → Prop} {cl : Oper → Oper → Bool} (hT : TOk T cl) {ops : Array Oper} {K : St → Prop}
include hT
theorem seqT_ext (hK : ExtK K) : ∀ p, ExtK (seqT T ops p K)
  | [] => hK
  | i :: p => by
    intro s s' he h
    simp only [seqT] at h ⊢
    cases ho : ops[i]? with
    | none => rw [ho] at h; exact h.elim
    | some o => rw [ho] at h; exact hT.ext (seqT_ext hK p) s s' he h
def clI (cl : Oper → Oper → Bool) (ops : Array Oper) (i j : Nat) : Bool := match ops[i]?, ops[j]? with | some x, some y => cl x y | _, _ => true
/-- One that clashes with none ahead of it may be first. -/
theorem seqT_front (hK : ExtK K) {i : Nat} : ∀ (p1 p2 : List Nat) {s : St}, (∀ j ∈ p1, clI cl ops j i = false) → seqT T ops (p1 ++ i :: p2) K s → seqT T ops (i :: (p1 ++ p2)) K s
  | [], p2, s, _, h => h
  | j :: p1, p2, s, hc, h => by
    have hj := hc j (by simp)
    simp only [List.cons_append, seqT] at h ⊢
    unfold clI at hj
    cases ho : ops[j]? with
    | none => rw [ho] at h; exact h.elim
    | some x =>
      rw [ho] at h hj
      cases hoi : ops[i]? with
      | none => rw [hoi] at hj; cases hj
      | some y =>
        rw [hoi] at hj
        have h2 := hT.mono (fun s h => seqT_front hK p1 p2 (fun k hk => hc k (by simp [hk])) h) h
        simp only [seqT, hoi] at h2
        exact hT.comm hj (seqT_ext hT hK _) h2
end
/-- Every order of the rest is like one of W: as those that clash stand. -/
def Cov (cl : Oper → Oper → Bool) (ops : Array Oper) (W : List Nat → Prop) (R : Nat → Prop) : Prop :=
  ∀ ρ : Nat → Nat, (∀ i j, R i → R j → ρ i = ρ j → i = j) → (∀ (j : Nat) o, R j → ops[j]? = some o → ∀ e ∈ o.after.toList, bindsE e = true → R e.on → ρ e.on < ρ j) →
    ∃ p, W p ∧ p.Pairwise fun j k => clI cl ops j k = true → ρ j < ρ k
theorem ready_iff {ops : Array Oper} {listed : Array Bool} {i : Nat} : i ∈ Region.ready .any ops listed ↔ i < ops.size ∧ listed.getD i true = false ∧ ((ops[i]?).map (·.after.all fun e => !Region.binds .any e || listed.getD e.on false)).getD false = true := by
  simp [Region.ready, List.mem_filter, Bool.and_eq_true]
theorem unl_lt {listed : Array Bool} {i : Nat} (h : listed.getD i true = false) : i < listed.size := by
  by_cases hi : i < listed.size
  · exact hi
  · simp [Array.getD, hi] at h
theorem lst_set {listed : Array Bool} {i j : Nat} (hi : i < listed.size) : (listed.setIfInBounds i true).getD j true = if j = i then true else listed.getD j true := by
  by_cases e : j = i
  · subst e; simp [Array.getD, hi]
  · rw [if_neg e]
    simp only [Array.getD_eq_getD_getElem?]
    rw [Array.getElem?_setIfInBounds_ne (fun h => e h.symm)]
theorem exMin {p : Nat → Prop} (h : ∃ i, p i) : ∃ i, p i ∧ ∀ j, j < i → ¬ p j := by
  obtain ⟨i, hi⟩ := h
  induction i using Nat.strongRecOn with
  | ind i ih =>
    by_cases hc : ∃ j, j < i ∧ p j
    · obtain ⟨j, h1, h2⟩ := hc
      exact ih j h1 h2
    · exact ⟨i, hi, fun j hj hp => hc ⟨j, hj, hp⟩⟩
theorem any_of_orders {T : Oper → (St → Prop) → St → Prop} {cl : Oper → Oper → Bool} (hT : TOk T cl) {ops : Array Oper} {K : St → Prop} (hK : ExtK K) (hg : ∀ (i : Nat) o, ops[i]? = some o → o.guard = none)
    (hl : ∀ (i : Nat) o, ops[i]? = some o → ∀ e ∈ o.after.toList, bindsE e = true → e.on < i) :
    ∀ (f : Nat) (listed : Array Bool) (W : List Nat → Prop) (s : St), listed.size = ops.size → (∃ p, W p) → (∀ p, W p → p.Nodup ∧ (∀ i, i ∈ p ↔ listed.getD i true = false) ∧ p.length = f) →
      Cov cl ops W (fun i => listed.getD i true = false) →
      ((∀ p q, W p → W q → p = q) ∨ ∀ (i : Nat) o, ops[i]? = some o → ∀ (F : List Nat → St → Prop) (V : List Nat → Prop) (s : St), (∃ p, V p) → (∀ p, V p → T o (F p) s) → T o (fun s' => ∀ p, V p → F p s') s) →
      (∀ p, W p → seqT T ops p K s) → anyG T ops K f listed s
  | 0, listed, W, s, hsz, ⟨p, hw⟩, hp, hc, _, h => by
    obtain ⟨h1, h2, h3⟩ := hp p hw
    have hn : p = [] := List.length_eq_zero_iff.1 h3
    subst hn
    refine ⟨?_, h _ hw⟩
    apply List.eq_nil_iff_forall_not_mem.2
    intro i hi
    have := (h2 i).2 (ready_iff.1 hi).2.1
    simp at this
  | f + 1, listed, W, s, hsz, ⟨p0, hw0⟩, hp, hc, hd, h => by
    refine ⟨fun he => ?_, fun i hi hr => ?_⟩
    · obtain ⟨h1, h2, h3⟩ := hp p0 hw0
      have hex : ∃ i, listed.getD i true = false := by
        cases p0 with
        | nil => simp at h3
        | cons i p => exact ⟨i, (h2 i).1 (by simp)⟩
      obtain ⟨i, hm, hmin⟩ := exMin hex
      have hlt := unl_lt hm
      have hin : i ∈ Region.ready .any ops listed := by
        refine ready_iff.2 ⟨by omega, hm, ?_⟩
        have ho : ops[i]? = some ops[i] := Array.getElem?_eq_getElem (by omega)
        rw [ho]
        simp only [Option.map_some, Option.getD_some]
        rw [← Array.all_toList, List.all_eq_true]
        intro e hem
        cases hb : Region.binds .any e with
        | false => rfl
        | true =>
          have hlt2 := hl i _ ho e hem hb
          have := hmin _ hlt2
          simp only [Bool.not_true, Bool.false_or]
          have hsz2 : e.on < listed.size := by omega
          simp [Array.getD, hsz2] at this ⊢
          exact this
      rw [he] at hin
      cases hin
    · have hr2 := ready_iff.1 (by simpa using hr : i ∈ Region.ready .any ops listed)
      obtain ⟨hi1, hi2, hi3⟩ := hr2
      have ho : ops[i]? = some ops[i] := Array.getElem?_eq_getElem hi1
      generalize ops[i] = o at ho
      have hpre : ∀ e ∈ o.after.toList, bindsE e = true → ¬ listed.getD e.on true = false := by
        rw [ho] at hi3
        simp only [Option.map_some, Option.getD_some] at hi3
        rw [← Array.all_toList, List.all_eq_true] at hi3
        intro e hem hb hc
        have := hi3 e hem
        have hb' : Region.binds .any e = true := hb
        rw [hb'] at this
        have hlt := unl_lt hc
        simp [Array.getD, hlt] at this hc
        rw [this] at hc
        cases hc
      obtain ⟨W', hW'⟩ : ∃ W' : List Nat → Prop, W' = fun q => ∃ p p1 p2, W p ∧ p = p1 ++ i :: p2 ∧ (∀ j ∈ p1, clI cl ops j i = false) ∧ q = p1 ++ p2 := ⟨_, rfl⟩
      have cov : Cov cl ops W' (fun j => (listed.setIfInBounds i true).getD j true = false) := by
        intro ρ hinj hed
        have hR : ∀ j, (listed.setIfInBounds i true).getD j true = false ↔ j ≠ i ∧ listed.getD j true = false := fun j => by
          rw [lst_set (by omega)]
          by_cases e : j = i
          · simp [e]
          · simp [e]
        obtain ⟨p, hw, hpw⟩ := hc (fun x => if x = i then 0 else ρ x + 1) (fun a b ha hb hab => by
            by_cases ea : a = i
            · by_cases eb : b = i
              · exact ea.trans eb.symm
              · simp [ea, eb] at hab
            · by_cases eb : b = i
              · simp [ea, eb] at hab
              · simp only [if_neg ea, if_neg eb] at hab
                exact hinj a b ((hR a).2 ⟨ea, ha⟩) ((hR b).2 ⟨eb, hb⟩) (by omega)) (fun j o' hj ho' e hem hb hre => by
            by_cases ej : j = i
            · subst ej
              rw [ho] at ho'
              cases ho'
              exact absurd hre (hpre e hem hb)
            · simp only [if_neg ej]
              by_cases ee : e.on = i
              · simp [ee]
              · simp only [if_neg ee]
                have := hed j o' ((hR j).2 ⟨ej, hj⟩) ho' e hem hb ((hR e.on).2 ⟨ee, hre⟩)
                omega)
        obtain ⟨h1, h2, h3⟩ := hp p hw
        obtain ⟨p1, p2, rfl⟩ := List.append_of_mem ((h2 i).2 hi2)
        have hpa := List.pairwise_append.1 hpw
        have hni : ∀ x ∈ p1 ++ p2, x ≠ i := fun x hx e => by
          subst e
          have h4 := List.nodup_append.1 h1
          rcases List.mem_append.1 hx with hx | hx
          · exact h4.2.2 x hx x (by simp) rfl
          · exact (List.nodup_cons.1 h4.2.1).1 hx
        have hfr : ∀ j ∈ p1, clI cl ops j i = false := fun j hj => by
          cases hcl : clI cl ops j i with
          | false => rfl
          | true =>
            have := hpa.2.2 j hj i (by simp) hcl
            simp at this
        have hin : W' (p1 ++ p2) := by rw [hW']; exact ⟨_, p1, p2, hw, rfl, hfr, rfl⟩
        refine ⟨p1 ++ p2, hin, ?_⟩
        · have hsub : (p1 ++ p2).Pairwise fun j k => clI cl ops j k = true → (if j = i then 0 else ρ j + 1) < (if k = i then 0 else ρ k + 1) := List.Pairwise.sublist (List.Sublist.append (List.Sublist.refl p1) (List.sublist_cons_self i p2)) hpw
          refine List.Pairwise.imp_of_mem (fun {a b} ha hb hab hcl => ?_) hsub
          have := hab hcl
          rw [if_neg (hni a ha), if_neg (hni b hb)] at this
          omega
      have hne : ∃ q, W' q := by
        obtain ⟨q, hq, _⟩ := cov (fun x => x) (fun _ _ _ _ h => h) (fun j o' _ ho' e hem hb _ => hl j o' ho' e hem hb)
        exact ⟨q, hq⟩
      have hp' : ∀ q, W' q → q.Nodup ∧ (∀ j, j ∈ q ↔ (listed.setIfInBounds i true).getD j true = false) ∧ q.length = f := by
        intro q hq
        rw [hW'] at hq
        obtain ⟨p, p1, p2, hw, rfl, _, rfl⟩ := hq
        obtain ⟨h1, h2, h3⟩ := hp _ hw
        have h4 := List.nodup_append.1 h1
        have h5 := List.nodup_cons.1 h4.2.1
        refine ⟨List.nodup_append.2 ⟨h4.1, h5.2, fun a ha b hb => h4.2.2 a ha b (by simp [hb])⟩, fun j => ?_, by simp at h3 ⊢; omega⟩
        rw [lst_set (by omega)]
        have h6 := h2 j
        by_cases e : j = i
        · subst e
          simp only [if_true]
          constructor
          · intro hj
            rcases List.mem_append.1 hj with hj | hj
            · exact absurd rfl (h4.2.2 j hj j (by simp))
            · exact absurd hj h5.1
          · intro hj; cases hj
        · rw [if_neg e, ← h6]
          simp [e]
      have hseq : ∀ q, W' q → T o (seqT T ops q K) s := by
        intro q hq
        rw [hW'] at hq
        obtain ⟨p, p1, p2, hw, rfl, hcl, rfl⟩ := hq
        have := seqT_front hT hK p1 p2 hcl (h _ hw)
        simp only [seqT, ho] at this
        exact this
      have hd' : (∀ p q, W' p → W' q → p = q) ∨ ∀ (i : Nat) o, ops[i]? = some o → ∀ (F : List Nat → St → Prop) (V : List Nat → Prop) (s : St), (∃ p, V p) → (∀ p, V p → T o (F p) s) → T o (fun s' => ∀ p, V p → F p s') s := by
        rcases hd with hd | hd
        · left
          intro q1 q2 hq1 hq2
          rw [hW'] at hq1 hq2
          obtain ⟨p, p1, p2, hw, rfl, _, rfl⟩ := hq1
          obtain ⟨p', p1', p2', hw', rfl, _, rfl⟩ := hq2
          have e := hd _ _ hw hw'
          have h4 := List.nodup_append.1 (hp _ hw).1
          have h4' := List.nodup_append.1 (hp _ hw').1
          have g1 : (p1 ++ i :: p2).erase i = p1 ++ p2 := by
            rw [List.erase_append_right _ (fun hm => absurd rfl (h4.2.2 i hm i (by simp))), List.erase_cons_head]
          have g2 : (p1' ++ i :: p2').erase i = p1' ++ p2' := by
            rw [List.erase_append_right _ (fun hm => absurd rfl (h4'.2.2 i hm i (by simp))), List.erase_cons_head]
          rw [← g1, ← g2, e]
        · exact .inr hd
      refine ⟨o, ho, hg i o ho, ?_⟩
      have key : T o (fun s' => ∀ q, W' q → seqT T ops q K s') s := by
        rcases hd' with h1 | h1
        · obtain ⟨q, hq⟩ := hne
          exact hT.mono (fun s' h' q' hq' => by rw [h1 q' q hq' hq]; exact h') (hseq q hq)
        · exact h1 i o ho (fun q => seqT T ops q K) W' s hne hseq
      exact hT.mono (fun s' h' => any_of_orders hT hK hg hl f _ W' s' (by simp [hsz]) hne hp' cov hd' h') key
/-! ### The check -/
def befB : List Nat → Nat → Nat → Bool
  | [], _, _ => false
  | x :: p, i, j => if x = i then true else if x = j then false else befB p i j
def pairB (r : Nat → Nat → Bool) : List Nat → Bool
  | [] => true
  | x :: p => p.all (r x) && pairB r p
def nodB : List Nat → Bool
  | [] => true
  | x :: p => !p.contains x && nodB p
def allB : Nat → List (List Bool)
  | 0 => [[]]
  | n + 1 => (allB n).flatMap fun l => [true :: l, false :: l]
def freeP (cl : Oper → Oper → Bool) (ops : Array Oper) (tbl : List (List Nat)) : List (Nat × Nat) :=
  (List.range ops.size).flatMap fun j => ((List.range j).filter fun i => (clI cl ops i j || clI cl ops j i) && !(tbl.getD j []).contains i).map fun i => (i, j)
/-- Which of two comes first. -/
def oriB (u : Nat × Nat) (b : Bool) : Nat × Nat := if b then u else (u.2, u.1)
/-- No order is so: two of these against what is ordered anyway. -/
def noneB (tbl : List (List Nat)) (l : List ((Nat × Nat) × Bool)) : Bool := l.any fun p => l.any fun q => (oriB p.1 p.2).2 == (oriB q.1 q.2).1 && (tbl.getD (oriB p.1 p.2).1 []).contains (oriB q.1 q.2).2
/-- Do these orders stand for all? -/
def ordersOk (cl : Oper → Oper → Bool) (ops : Array Oper) (W : List (List Nat)) : Bool :=
  ancOk ops (ancT ops) && ops.all (fun o => o.guard.isNone) &&
  W.all (fun p => nodB p && p.length == ops.size && p.all (fun i => decide (i < ops.size)) && (List.range ops.size).all (fun i => p.contains i) && pairB (fun j k => !(clI cl ops j k) || !((ancT ops).getD j []).contains k) p) &&
  (allB (freeP cl ops (ancT ops)).length).all fun bs => noneB (ancT ops) ((freeP cl ops (ancT ops)).zip bs) || W.any fun p => ((freeP cl ops (ancT ops)).zip bs).all fun u => if befB p u.1.1 u.1.2 then !(clI cl ops u.1.1 u.1.2) || u.2 else !(clI cl ops u.1.2 u.1.1) || !u.2
theorem befB_at : ∀ (p1 p2 : List Nat) {j k : Nat}, nodB (p1 ++ j :: p2) = true → k ∈ p2 → befB (p1 ++ j :: p2) j k = true ∧ befB (p1 ++ j :: p2) k j = false
  | [], p2, j, k, hn, hk => by
    have hn' : p2.contains j = false ∧ nodB p2 = true := by simpa [nodB] using hn
    have hne : j ≠ k := fun e => by
      subst e
      have : p2.contains j = true := by simpa using hk
      rw [hn'.1] at this; cases this
    exact ⟨by simp [befB], by simp [befB, hne]⟩
  | x :: p1, p2, j, k, hn, hk => by
    have hn' : (p1 ++ j :: p2).contains x = false ∧ nodB (p1 ++ j :: p2) = true := by simpa only [List.cons_append, nodB, Bool.and_eq_true, Bool.not_eq_true'] using hn
    have h1 := befB_at p1 p2 hn'.2 hk
    have hx : ∀ y ∈ p1 ++ j :: p2, x ≠ y := fun y hy e => by
      subst e
      have : (p1 ++ j :: p2).contains x = true := by simpa using hy
      rw [hn'.1] at this; cases this
    have hxj := hx j (by simp)
    have hxk := hx k (by simp [hk])
    simp only [List.cons_append, befB, if_neg hxj, if_neg hxk]
    exact h1
theorem nodB_nodup : ∀ (p : List Nat), nodB p = true → p.Nodup
  | [], _ => List.nodup_nil
  | x :: p, h => by
    have h' : p.contains x = false ∧ nodB p = true := by simpa [nodB] using h
    refine List.nodup_cons.2 ⟨fun hm => ?_, nodB_nodup p h'.2⟩
    have : p.contains x = true := by simpa using hm
    rw [h'.1] at this; cases this
theorem pairB_spec {r : Nat → Nat → Bool} : ∀ (p : List Nat), pairB r p = true → p.Pairwise fun j k => r j k = true
  | [], _ => List.Pairwise.nil
  | x :: p, h => by
    have h' : p.all (r x) = true ∧ pairB r p = true := by simpa only [pairB, Bool.and_eq_true] using h
    exact List.Pairwise.cons (fun k hk => List.all_eq_true.1 h'.1 k hk) (pairB_spec p h'.2)
theorem pair_of {r : Nat → Nat → Prop} : ∀ (p : List Nat), (∀ p1 j p2, p = p1 ++ j :: p2 → ∀ k ∈ p2, r j k) → p.Pairwise r
  | [], _ => List.Pairwise.nil
  | x :: p, h => List.Pairwise.cons (fun k hk => h [] x p rfl k hk) (pair_of p fun p1 j p2 e k hk => h (x :: p1) j p2 (by rw [e]; rfl) k hk)
theorem pair_at {r : Nat → Nat → Prop} {p1 : List Nat} {j : Nat} {p2 : List Nat} (h : (p1 ++ j :: p2).Pairwise r) {k : Nat} (hk : k ∈ p2) : r j k :=
  (List.pairwise_cons.1 (List.pairwise_append.1 h).2.1).1 k hk
theorem mem_allB : ∀ (l : List Bool), l ∈ allB l.length
  | [] => by simp [allB]
  | b :: l => by
    simp only [List.length_cons, allB, List.mem_flatMap]
    exact ⟨l, mem_allB l, by cases b <;> simp⟩
theorem zip_all {α : Type} {f : α → Bool} {q : α × Bool → Bool} : ∀ (U : List α), (U.zip (U.map f)).all q = true → ∀ u ∈ U, q (u, f u) = true
  | [], _, u, hu => by cases hu
  | x :: U, h, u, hu => by
    have h' : q (x, f x) = true ∧ (U.zip (U.map f)).all q = true := by simpa [List.zip_cons_cons, List.all_cons] using h
    rcases List.mem_cons.1 hu with rfl | hu
    · exact h'.1
    · exact zip_all U h'.2 u hu
theorem anc_rank {ops : Array Oper} {tbl : List (List Nat)} (h : ancOk ops tbl = true) {ρ : Nat → Nat} (hed : ∀ (j : Nat) o, ops[j]? = some o → ∀ e ∈ o.after.toList, bindsE e = true → ρ e.on < ρ j) :
    ∀ (n i : Nat), i < n → i < ops.size → ∀ j ∈ tbl.getD i [], ρ j < ρ i
  | 0, i, hi, _, _, _ => absurd hi (Nat.not_lt_zero _)
  | n + 1, i, hi, his, j, hj => by
    have ho : ops[i]? = some ops[i] := Array.getElem?_eq_getElem his
    generalize ops[i] = o at ho
    have h1 := List.all_eq_true.1 h i (List.mem_range.2 his)
    rw [ho] at h1
    simp only [Bool.and_eq_true] at h1
    have h2 := List.all_eq_true.1 h1.2 j hj
    obtain ⟨e, he, h3⟩ := List.any_eq_true.1 h2
    simp only [Bool.and_eq_true, Bool.or_eq_true] at h3
    have h4 := hed i o ho e he h3.1
    rcases h3.2 with h5 | h5
    · rw [← eq_of_beq h5]; exact h4
    · have hlt : e.on < i := by
        have := List.all_eq_true.1 h1.1 e he
        rw [h3.1] at this
        simpa using this
      have := anc_rank h hed n e.on (by omega) (by omega) j (by simpa using h5)
      omega
theorem orders_cov {cl : Oper → Oper → Bool} {ops : Array Oper} {W : List (List Nat)} (h : ordersOk cl ops W = true) {listed : Array Bool} (hl : ∀ i, listed.getD i true = false ↔ i < ops.size) :
    Cov cl ops (fun p => p ∈ W) (fun i => listed.getD i true = false) := by
  simp only [ordersOk, Bool.and_eq_true] at h
  obtain ⟨⟨⟨h1, h2⟩, h3⟩, h4⟩ := h
  intro ρ hinj hed
  have hon : ∀ (j : Nat) o, ops[j]? = some o → ∀ e ∈ o.after.toList, bindsE e = true → e.on < j := fun j o ho e he hb => by
    have hj : j < ops.size := (Array.getElem?_eq_some_iff.1 ho).1
    have q1 := List.all_eq_true.1 h1 j (List.mem_range.2 hj)
    rw [ho] at q1
    simp only [Bool.and_eq_true] at q1
    have := List.all_eq_true.1 q1.1 e he
    rw [hb] at this
    simpa using this
  have hrk : ∀ i, i < ops.size → ∀ j ∈ (ancT ops).getD i [], ρ j < ρ i := fun i hi => anc_rank h1 (fun j o ho e he hb => by
    have hj : j < ops.size := (Array.getElem?_eq_some_iff.1 ho).1
    exact hed j o ((hl j).2 hj) ho e he hb ((hl e.on).2 (by have := hon j o ho e he hb; omega))) (i + 1) i (by omega) hi
  have h5 := List.all_eq_true.1 h4 ((freeP cl ops (ancT ops)).map fun u => decide (ρ u.1 < ρ u.2)) (by
    have := mem_allB ((freeP cl ops (ancT ops)).map fun u => decide (ρ u.1 < ρ u.2))
    rw [List.length_map] at this
    exact this)
  have h5 : (W.any fun p => ((freeP cl ops (ancT ops)).zip ((freeP cl ops (ancT ops)).map fun u => decide (ρ u.1 < ρ u.2))).all fun u => if befB p u.1.1 u.1.2 then !(clI cl ops u.1.1 u.1.2) || u.2 else !(clI cl ops u.1.2 u.1.1) || !u.2) = true := by
    rw [Bool.or_eq_true] at h5
    rcases h5 with h | h
    · exfalso
      obtain ⟨p, hp, h⟩ := List.any_eq_true.1 h
      obtain ⟨q, hq, h⟩ := List.any_eq_true.1 h
      simp only [Bool.and_eq_true] at h
      have hz : ∀ p ∈ (freeP cl ops (ancT ops)).zip ((freeP cl ops (ancT ops)).map fun u => decide (ρ u.1 < ρ u.2)), p.1 ∈ freeP cl ops (ancT ops) ∧ p.2 = decide (ρ p.1.1 < ρ p.1.2) := by
        generalize freeP cl ops (ancT ops) = U
        intro p hp
        induction U with
        | nil => cases hp
        | cons u U ih =>
          rw [List.map_cons, List.zip_cons_cons] at hp
          rcases List.mem_cons.1 hp with rfl | hp
          · exact ⟨by simp, rfl⟩
          · exact ⟨by simp [(ih hp).1], (ih hp).2⟩
      have hori : ∀ p ∈ (freeP cl ops (ancT ops)).zip ((freeP cl ops (ancT ops)).map fun u => decide (ρ u.1 < ρ u.2)), ρ (oriB p.1 p.2).1 < ρ (oriB p.1 p.2).2 ∧ (oriB p.1 p.2).1 < ops.size := by
        intro p hp
        obtain ⟨hm, e⟩ := hz p hp
        simp only [freeP, List.mem_flatMap, List.mem_map, List.mem_filter, List.mem_range] at hm
        obtain ⟨j, hj, i, ⟨hi, _⟩, hu⟩ := hm
        rw [e]
        unfold oriB
        rw [← hu]
        simp only
        by_cases hd : ρ i < ρ j
        · rw [if_pos (decide_eq_true hd)]; exact ⟨hd, by show i < _; omega⟩
        · rw [if_neg (by simpa using hd)]
          have hne : ρ i ≠ ρ j := fun ee => by have := hinj i j ((hl i).2 (by omega)) ((hl j).2 hj) ee; omega
          exact ⟨by show ρ j < ρ i; omega, hj⟩
      obtain ⟨a1, a2⟩ := hori p hp
      obtain ⟨b1, b2⟩ := hori q hq
      have c1 := eq_of_beq h.1
      have c2 := hrk _ a2 (oriB q.1 q.2).2 (by simpa using h.2)
      rw [c1] at a1
      omega
    · exact h
  obtain ⟨p, hp, h6⟩ := List.any_eq_true.1 h5
  have h7 := zip_all _ h6
  have h8 := List.all_eq_true.1 h3 p hp
  simp only [Bool.and_eq_true] at h8
  obtain ⟨⟨⟨⟨k1, k2⟩, k3⟩, k5⟩, k4⟩ := h8
  refine ⟨p, hp, pair_of p fun p1 j p2 e k hk hcl => ?_⟩
  have hjl : j < ops.size := by have := List.all_eq_true.1 k3 j (by rw [e]; simp); simpa using this
  have hkl : k < ops.size := by have := List.all_eq_true.1 k3 k (by rw [e]; simp [hk]); simpa using this
  have hpr := pairB_spec p k4
  rw [e] at hpr k1
  have hnk := pair_at hpr hk
  rw [hcl] at hnk
  have hnk' : ((ancT ops).getD j []).contains k = false := by simpa using hnk
  obtain ⟨b1, b2⟩ := befB_at p1 p2 k1 hk
  have hjk : j ≠ k := fun ee => by
    subst ee
    exact absurd hk (List.nodup_cons.1 (List.nodup_append.1 (nodB_nodup _ k1)).2.1).1
  cases ha : ((ancT ops).getD k []).contains j with
  | true => exact hrk k hkl j (by simpa using ha)
  | false =>
    rcases Nat.lt_or_ge j k with hlt | hge
    · have hm : (j, k) ∈ freeP cl ops (ancT ops) := by
        simp only [freeP, List.mem_flatMap, List.mem_map, List.mem_filter, List.mem_range]
        exact ⟨k, hkl, j, ⟨hlt, by rw [hcl, ha]; rfl⟩, rfl⟩
      have := h7 _ hm
      simp only at this
      rw [e, b1, hcl] at this
      simpa using this
    · have hm : (k, j) ∈ freeP cl ops (ancT ops) := by
        simp only [freeP, List.mem_flatMap, List.mem_map, List.mem_filter, List.mem_range]
        exact ⟨j, hjl, k, ⟨by omega, by rw [hcl, hnk']; simp⟩, rfl⟩
      have := h7 _ hm
      simp only at this
      rw [e, b2, hcl] at this
      have hnl : ¬ ρ k < ρ j := by simpa using this
      have hne : ρ j ≠ ρ k := fun ee => hjk (hinj j k ((hl j).2 hjl) ((hl k).2 hkl) ee)
      omega
/-- A region, by some orders of its operations that stand for all. -/
theorem anyG_orders {T : Oper → (St → Prop) → St → Prop} {cl : Oper → Oper → Bool} (hT : TOk T cl) {ops : Array Oper} {K : St → Prop} (hK : ExtK K) {W : List (List Nat)} (h : ordersOk cl ops W = true) (hne : W ≠ [])
    (hd : (∀ p q, p ∈ W → q ∈ W → p = q) ∨ ∀ (i : Nat) o, ops[i]? = some o → ∀ (F : List Nat → St → Prop) (V : List Nat → Prop) (s : St), (∃ p, V p) → (∀ p, V p → T o (F p) s) → T o (fun s' => ∀ p, V p → F p s') s)
    {s : St} (hs : ∀ p ∈ W, seqT T ops p K s) : anyG T ops K ops.size (Array.replicate ops.size false) s := by
  have hl : ∀ i, (Array.replicate ops.size false).getD i true = false ↔ i < ops.size := fun i => by
    simp only [Array.getD_eq_getD_getElem?, Array.getElem?_replicate]
    split <;> simp_all
  have h' := h
  simp only [ordersOk, Bool.and_eq_true] at h'
  obtain ⟨⟨⟨h1, h2⟩, h3⟩, h4⟩ := h'
  refine any_of_orders hT hK (fun i o ho => ?_) (fun j o ho e he hb => ?_) _ _ (fun p => p ∈ W) s (by simp) ?_ (fun p hp => ?_) (orders_cov h hl) hd hs
  · obtain ⟨hi, e⟩ := Array.getElem?_eq_some_iff.1 ho
    have := Array.all_eq_true.1 h2 i hi
    rw [e] at this
    simpa using this
  · have hj : j < ops.size := (Array.getElem?_eq_some_iff.1 ho).1
    have q1 := List.all_eq_true.1 h1 j (List.mem_range.2 hj)
    rw [ho] at q1
    simp only [Bool.and_eq_true] at q1
    have := List.all_eq_true.1 q1.1 e he
    rw [hb] at this
    simpa using this
  · cases W with
    | nil => exact absurd rfl hne
    | cons p W => exact ⟨p, by simp⟩
  · have h8 := List.all_eq_true.1 h3 p hp
    simp only [Bool.and_eq_true] at h8
    obtain ⟨⟨⟨⟨k1, k2⟩, k3⟩, k5⟩, k4⟩ := h8
    have hnd := nodB_nodup p k1
    have hlen : p.length = ops.size := eq_of_beq k2
    refine ⟨hnd, fun i => ?_, hlen⟩
    rw [hl]
    constructor
    · intro hi
      have := List.all_eq_true.1 k3 i hi
      simpa using this
    · intro hi
      have := List.all_eq_true.1 k5 i (List.mem_range.2 hi)
      simpa using this
/-! ### The evaluator's own operations -/
/-- Does it make a block, and nothing else? -/
def allocO : Op → Bool
  | .alloc _ | .box .. | .buildSlice .. => true
  | _ => false
/-- A text made of bytes is no new block. -/
def wrC (P : Program) (o : Op) : Bool := match o with | .convert _ b _ => wrO P o && !(strT P b) | _ => wrO P o
theorem convert_str {P : Program} {a b : TypeId} {h h' : List ABlk} {x r : AV} {p : Prop} (hs : strT P b = true) (e : convertS P a b h x = some (p, r, h')) : h' = h := by
  have hi : intT P b = none := by
    unfold strT at hs; unfold intT
    cases hu : P.underlying b with
    | none => rfl
    | some u => rw [hu] at hs; cases u <;> simp at hs ⊢
  unfold convertS at e
  split at e
  · split at e
    · rw [hi] at e
      simp only at e
      split at e
      · cases e; rfl
      · first
          | (cases e; rfl)
          | (rw [if_pos hs] at e; cases e; rfl)
    · cases e
  · split at e
    · rw [hi] at e; cases e
    · cases e
  · rw [if_pos hs] at e
    split at e
    · cases e; rfl
    · cases e
  · split at e
    · obtain ⟨_, _, e⟩ := Option.map_eq_some_iff.1 e; cases e; rfl
    · cases e
  · split at e
    · obtain ⟨_, _, e⟩ := Option.bind_eq_some_iff.1 e
      obtain ⟨_, _, e⟩ := Option.map_eq_some_iff.1 e; cases e; rfl
    · cases e
  · split at e
    · cases e; rfl
    · cases e
  · cases e
theorem kop_frameC {P : Program} {o : Oper} {K : St → Prop} {st : St} (h : kop P o K st) : ∃ r h', K (pt ⟨st.s, h'⟩ o.dst r) ∧ (wrC P o.op = false → h' = st.h) ∧ ∀ st2 : St, st2.s.g = st.s.g → (∀ x ∈ o.op.operands.toList, get st2.s x = get st.s x) → (rdO P o.op = true → st2.h = st.h) →
    ∀ K2 : St → Prop, K2 (pt ⟨st2.s, if wrC P o.op = true then h' else st2.h⟩ o.dst r) → kop P o K2 st2 := by
  obtain ⟨d, op, t, pos, af, g⟩ := o
  by_cases hc : ∃ a b x, op = .convert a b x ∧ strT P b = true
  · obtain ⟨a, b, x, rfl, hs⟩ := hc
    have hw : wrC P (Op.convert a b x) = false := by simp [wrC, hs]
    have hi : intT P b = none := by
      unfold strT at hs; unfold intT
      cases hu : P.underlying b with
      | none => rfl
      | some u => rw [hu] at hs; cases u <;> simp at hs ⊢
    rw [s_convert] at h
    cases e : convertS P a b st.h (get st.s x) with
    | none => rw [e] at h; exact h.elim
    | some q =>
      obtain ⟨p, r, h'⟩ := q
      have eh := convert_str hs e
      subst eh
      rw [e] at h
      refine ⟨r, st.h, h.2, fun _ => rfl, fun st2 e1 e2 e3 K2 hk => ?_⟩
      have e4 := e3 (by simp [rdO, hi])
      rw [s_convert, e2 x (by simp [Op.operands]), e4, e]
      rw [hw, e4] at hk
      exact ⟨h.1, hk⟩
  · have hw : wrC P op = wrO P op := by
      cases op with
      | convert a b x =>
        have : strT P b = false := by
          cases hs : strT P b with
          | false => rfl
          | true => exact absurd ⟨a, b, x, rfl, hs⟩ hc
        simp [wrC, this]
      | _ => rfl
    have := kop_frame h
    simp only [Frame] at this
    rw [hw]
    exact this
def tmpsO (o : Oper) : List Nat := o.op.operands.toList.filterMap fun | .tmp t => some t | _ => none
theorem mem_tmpsO {o : Oper} {t : Nat} (h : Operand.tmp t ∈ o.op.operands.toList) : t ∈ tmpsO o := List.mem_filterMap.2 ⟨_, h, rfl⟩
/-- Does it read, and what it reads is there with more blocks, too? -/
def readO : Op → Bool
  | .call ⟨.value (.func _), _, _⟩ | .load .. | .fieldAddr .. | .nilCheck _ | .indexAddr .. => true
  | _ => false
def slotC (x y : Oper) : Bool :=
  (match x.dst with | some d => (tmpsO y).contains d || y.dst == some d | none => false) || (match y.dst with | some d => (tmpsO x).contains d | none => false)
/-- May x, carried out first, not change places with y? -/
def clashC (P : Program) (x y : Oper) : Bool :=
  slotC x y || (!(readO x.op && allocO y.op) && ((wrC P x.op && (rdO P y.op || wrC P y.op)) || ((rdO P x.op || wrC P x.op) && wrC P y.op)))
theorem slotC_f {x y : Oper} (h : slotC x y = false) : (∀ t, ¬ (x.dst = some t ∧ y.dst = some t)) ∧ (∀ (s s2 : St), s2.s.g = s.s.g → (∀ t, x.dst ≠ some t → look s2.s.l t = look s.s.l t) → ∀ z ∈ y.op.operands.toList, get s2.s z = get s.s z) ∧
    ∀ (s s2 : St), s2.s.g = s.s.g → (∀ t, y.dst ≠ some t → look s2.s.l t = look s.s.l t) → ∀ z ∈ x.op.operands.toList, get s2.s z = get s.s z := by
  simp only [slotC, Bool.or_eq_false_iff] at h
  have gen : ∀ (o : Oper) (d : Option Tmp), (∀ t, d = some t → Operand.tmp t ∉ o.op.operands.toList) → ∀ (s s2 : St), s2.s.g = s.s.g → (∀ t, d ≠ some t → look s2.s.l t = look s.s.l t) → ∀ z ∈ o.op.operands.toList, get s2.s z = get s.s z := by
    intro o d hd s s2 hg hl z hz
    cases z with
    | tmp t => exact hl t fun e => hd t e hz
    | const v => rfl
    | global g => simp only [get, hg]
    | func f => rfl
  refine ⟨fun t ht => ?_, gen y x.dst fun t e hm => ?_, gen x y.dst fun t e hm => ?_⟩
  · have h1 := h.1
    rw [ht.1] at h1
    simp only [Bool.or_eq_false_iff] at h1
    rw [ht.2] at h1
    simp at h1
  · have h1 := h.1
    rw [e] at h1
    simp only [Bool.or_eq_false_iff] at h1
    have := h1.1
    rw [List.contains_iff_mem.2 (mem_tmpsO hm)] at this
    cases this
  · have h1 := h.2
    rw [e] at h1
    simp only at h1
    rw [List.contains_iff_mem.2 (mem_tmpsO hm)] at h1
    cases h1
theorem kop_ext {P : Program} {o : Oper} {K : St → Prop} (hK : ExtK K) : ExtK (kop P o K) := by
  intro s s2 he h
  obtain ⟨r, h', h1, h2, h3⟩ := kop_frame h
  obtain ⟨e1, e2, e3, e4⟩ := he
  refine h3 s2 e2.symm (fun x _ => (eqvS_get ⟨e1, e2, e3, e4⟩ x).symm) (fun _ => e3.symm) K ?_
  have eh : (if wrO P o.op = true then h' else s2.h) = h' := by
    split
    · rfl
    · rename_i hw; rw [h2 (by simpa using hw)]; exact e3.symm
  rw [eh]
  exact hK _ _ (eqvS_pt e1 e2 e4 h' o.dst r) h1
theorem kop_mono {P : Program} {o : Oper} {K K' : St → Prop} {s : St} (hm : ∀ s, K s → K' s) (h : kop P o K s) : kop P o K' s := by
  obtain ⟨r, h', h1, h2, h3⟩ := kop_frame h
  refine h3 s rfl (fun _ _ => rfl) (fun _ => rfl) K' (hm _ ?_)
  have eh : (if wrO P o.op = true then h' else s.h) = h' := by
    split
    · rfl
    · rename_i hw; exact (h2 (by simpa using hw)).symm
  rw [eh]
  exact h1
mutual
theorem fz_more {P : Program} {H H2 : List ABlk} {b : Bool} : ∀ (y x : AV), fz P H b y x → fz P (H ++ H2) b y x
  | .v _, x, h => by simp only [fz] at h ⊢; exact h
  | .nan, x, h => by simp only [fz] at h ⊢; exact h
  | .bad, _, _ => by simp only [fz]
  | .ela _ _, _, h => by simp only [fz] at h
  | .own _ _ _, _, h => by simp only [fz] at h
  | .ptr _ _ _, _, h => by simp only [fz] at h
  | .agg ys, x, h => by simp only [fz] at h ⊢; obtain ⟨xs, h1, h2⟩ := h; exact ⟨xs, h1, fzL_more ys xs h2⟩
  | .tup ys, x, h => by simp only [fz] at h ⊢; obtain ⟨xs, h1, h2⟩ := h; exact ⟨xs, h1, fzL_more ys xs h2⟩
  | .ifc t y, x, h => by simp only [fz] at h ⊢; obtain ⟨x', h1, h2⟩ := h; exact ⟨x', h1, fz_more y x' h2⟩
  | .clo f ys zs, x, h => by simp only [fz] at h ⊢; obtain ⟨xs, xs', h1, h2, h3⟩ := h; exact ⟨xs, xs', h1, fzL_more ys xs h2, fzL_more zs xs' h3⟩
  | .sl bb n m ys, x, h => by
    simp only [fz] at h ⊢
    rcases h with h | ⟨h1, i, k, xs, h2, h3, h4, h5, h6, h7⟩
    · exact .inl h
    · exact .inr ⟨h1, i, k, xs, h2, by rw [List.getElem?_append_left (List.getElem?_eq_some_iff.1 h3).1]; exact h3, h4, h5, h6, fzL_more ys xs h7⟩
theorem fzL_more {P : Program} {H H2 : List ABlk} {b : Bool} : ∀ (ys xs : List AV), fzL P H b ys xs → fzL P (H ++ H2) b ys xs
  | [], xs, h => by simp only [fzL] at h ⊢; exact h
  | y :: ys, xs, h => by
    simp only [fzL] at h ⊢
    obtain ⟨x, xs', h1, h2, h3⟩ := h
    exact ⟨x, xs', h1, fz_more y x h2, fzL_more ys xs' h3⟩
end
theorem alloc_app {P : Program} {o : Oper} {K : St → Prop} {s : St} (ha : allocO o.op = true) (h : kop P o K s) : ∃ r t, K (pt ⟨s.s, s.h ++ t⟩ o.dst r) ∧ ∀ (s2 : St), s2.s.g = s.s.g → (∀ x ∈ o.op.operands.toList, get s2.s x = get s.s x) → s2.h = s.h → ∀ K2 : St → Prop, K2 (pt ⟨s2.s, s.h ++ t⟩ o.dst r) → kop P o K2 s2 := by
  obtain ⟨d, op, t, pos, af, g⟩ := o
  cases op with
  | alloc u =>
    rw [s_alloc] at h
    cases hz : zeroT P u with
    | none => rw [hz] at h; exact h.elim
    | some z =>
      rw [hz] at h
      refine ⟨_, _, h.2, fun s2 e1 e2 e3 K2 hk => ?_⟩
      rw [s_alloc, hz]
      refine ⟨trivial, ?_⟩
      rw [e3]
      exact hk
  | box u x =>
    rw [s_box] at h
    cases hz : flat (get s.s x) with
    | none => rw [hz] at h; exact h.elim
    | some z =>
      rw [hz] at h
      refine ⟨_, _, h.2, fun s2 e1 e2 e3 K2 hk => ?_⟩
      rw [s_box, e2 x (by simp [Op.operands]), hz]
      refine ⟨trivial, ?_⟩
      rw [e3]
      exact hk
  | buildSlice u n ps =>
    rw [s_buildSlice] at h
    cases hz : buildSliceS P u n (ps.toList.map fun (i, x) => (i, get s.s x)) s.h with
    | none => rw [hz] at h; exact h.elim
    | some z =>
      obtain ⟨zr, zh⟩ := z
      have hzh : ∃ t, zh = s.h ++ t := by
        unfold buildSliceS at hz
        obtain ⟨_, _, hz⟩ := Option.bind_eq_some_iff.1 hz
        obtain ⟨_, _, hz⟩ := Option.bind_eq_some_iff.1 hz
        obtain ⟨_, _, hz⟩ := Option.bind_eq_some_iff.1 hz
        split at hz
        · obtain ⟨l, _, h2⟩ := Option.map_eq_some_iff.1 hz
          cases h2
          exact ⟨_, rfl⟩
        · cases hz
      obtain ⟨t', rfl⟩ := hzh
      rw [hz] at h
      refine ⟨zr, t', h.2, fun s2 e1 e2 e3 K2 hk => ?_⟩
      have em : (ps.toList.map fun (i, x) => (i, get s2.s x)) = ps.toList.map fun (i, x) => (i, get s.s x) := by
        apply List.map_congr_left
        intro q hq
        show ((q.1, get s2.s q.2) : Nat × AV) = (q.1, get s.s q.2)
        rw [e2 q.2 (by simp [Op.operands]; exact ⟨q.1, by simpa using hq⟩)]
      rw [s_buildSlice, em, e3, hz]
      exact ⟨trivial, hk⟩
  | _ => simp [allocO] at ha
theorem blk_more {h t : List ABlk} {i ver : Nat} {k : ABlk} (e : blkS h i ver = some k) : blkS (h ++ t) i ver = some k := by
  obtain ⟨h1, h2⟩ := blkS_eq e
  unfold blkS
  rw [List.getElem?_append_left (List.getElem?_eq_some_iff.1 h1).1, h1]
  simp [h2]
theorem read_app {P : Program} {o : Oper} {K : St → Prop} {s : St} (ha : readO o.op = true) (h : kop P o K s) : ∃ r, K (pt s o.dst r) ∧ ∀ (s2 : St), s2.s.g = s.s.g → (∀ x ∈ o.op.operands.toList, get s2.s x = get s.s x) → (∃ t, s2.h = s.h ++ t) → ∀ K2 : St → Prop, K2 (pt s2 o.dst r) → kop P o K2 s2 := by
  have rv : ∀ {d : Option Tmp} {R : Option AV}, StepK (retV s d R) K → ∃ r, R = some r ∧ K (pt s d r) := fun {d R} h => by
    cases R with
    | none => exact h.elim
    | some r => exact ⟨r, rfl, h.2⟩
  obtain ⟨d, op, t, pos, af, g⟩ := o
  cases op with
  | load u x =>
    rw [s_load] at h
    obtain ⟨r, e, hk⟩ := rv h
    refine ⟨r, hk, fun s2 e1 e2 ⟨t, e3⟩ K2 hk2 => ?_⟩
    have e4 : loadS P u s2.h (get s2.s x) = some r := by
      rw [e2 x (by simp [Op.operands]), e3]
      unfold loadS at e ⊢
      split at e
      · obtain ⟨k, hb, e⟩ := Option.bind_eq_some_iff.1 e
        simp only [blk_more hb, Option.bind_some, e]
      · exact e
      · cases e
    rw [s_load, e4]
    exact ⟨trivial, hk2⟩
  | fieldAddr u x f =>
    rw [s_fieldAddr] at h
    obtain ⟨r, e, hk⟩ := rv h
    refine ⟨r, hk, fun s2 e1 e2 ⟨t, e3⟩ K2 hk2 => ?_⟩
    have e4 : fieldAddrS P u f s2.h (get s2.s x) = some r := by
      rw [e2 x (by simp [Op.operands]), e3]
      unfold fieldAddrS at e ⊢
      split at e
      · obtain ⟨⟨o1, o2⟩, h1, e⟩ := Option.bind_eq_some_iff.1 e
        obtain ⟨n, h2, e⟩ := Option.bind_eq_some_iff.1 e
        simp only [h1, Option.bind_some, h2]
        split at e
        · rename_i hn
          obtain ⟨k, hb, e⟩ := Option.bind_eq_some_iff.1 e
          rw [if_pos hn, blk_more hb]
          exact e
        · cases e
      · exact e
      · cases e
    rw [s_fieldAddr, e4]
    exact ⟨trivial, hk2⟩
  | nilCheck x =>
    rw [s_nilCheck] at h
    have e4 : ∃ r, K (pt s d r) ∧ ∀ (s2 : St), get s2.s x = get s.s x → (∃ t, s2.h = s.h ++ t) → nilChk s2 d (get s2.s x) = retV s2 d (some r) := by
      unfold nilChk at h
      split at h
      · rename_i i ver off hg
        cases hb : blkS s.h i ver with
        | none => rw [hb] at h; exact h.elim
        | some k =>
          rw [hb] at h
          refine ⟨_, h.2, fun s2 e ⟨t, e3⟩ => ?_⟩
          rw [e, hg]
          simp only [nilChk, e3, blk_more hb]
          rfl
      · rename_i b cs hg
        refine ⟨_, h.2, fun s2 e _ => ?_⟩
        rw [e, hg]
        simp only [nilChk]
      · exact h.elim
    obtain ⟨r, hk, he⟩ := e4
    refine ⟨r, hk, fun s2 e1 e2 e3 K2 hk2 => ?_⟩
    rw [s_nilCheck, he s2 (e2 x (by simp [Op.operands])) e3]
    exact ⟨trivial, hk2⟩
  | indexAddr u x y =>
    rw [s_indexAddr] at h
    cases e : indexAddrS P u s.h (get s.s x) (get s.s y) with
    | none => rw [e] at h; exact h.elim
    | some q =>
      obtain ⟨p, r⟩ := q
      rw [e] at h
      refine ⟨r, h.2, fun s2 e1 e2 ⟨t, e3⟩ K2 hk2 => ?_⟩
      have e4 : indexAddrS P u s2.h (get s2.s x) (get s2.s y) = some (p, r) := by
        rw [e2 x (by simp [Op.operands]), e2 y (by simp [Op.operands]), e3]
        unfold indexAddrS at e ⊢
        split at e
        · exact e
        · obtain ⟨k, hb, e⟩ := Option.bind_eq_some_iff.1 e
          simp only [blk_more hb, Option.bind_some]
          exact e
        · obtain ⟨k, hb, e⟩ := Option.bind_eq_some_iff.1 e
          simp only [blk_more hb, Option.bind_some]
          exact e
        · cases e
      rw [s_indexAddr, e4]
      exact ⟨h.1, hk2⟩
  | call c =>
    obtain ⟨callee, xs, ts⟩ := c
    cases callee with
    | value f =>
      cases f with
      | func f =>
        rw [s_callF] at h
        have em : ∀ s2 : St, (∀ x ∈ (Op.call ⟨.value (.func f), xs, ts⟩).operands.toList, get s2.s x = get s.s x) → xs.toList.map (get s2.s) = xs.toList.map (get s.s) := fun s2 e2 => List.map_congr_left fun z hz => e2 z (by simp [Op.operands, Call.operands]; exact .inr (by simpa using hz))
        obtain ⟨h1, ys, r, h2, h3, h4⟩ | ⟨r, h1, h2⟩ := h
        · refine ⟨r, h4, fun s2 e1 e2 ⟨t, e3⟩ K2 hk => ?_⟩
          rw [s_callF, em s2 e2]
          refine .inl ⟨h1, ys, r, ?_, by rw [e1]; exact h3, hk⟩
          rcases h2 with h2 | ⟨h2, h5⟩
          · exact .inl h2
          · exact .inr ⟨by rw [e3]; exact fzL_more _ _ h2, h5⟩
        · refine ⟨r, h2, fun s2 e1 e2 _ K2 hk => ?_⟩
          rw [s_callF, em s2 e2]
          exact .inr ⟨r, h1, hk⟩
      | _ => simp [readO] at ha
    | _ => simp [readO] at ha
  | _ => simp [readO] at ha
/-- What does not clash may change places. -/
theorem kop_comm {P : Program} {x y : Oper} {K : St → Prop} {s : St} (hc : clashC P x y = false) (hK : ExtK K) (h : kop P x (kop P y K) s) : kop P y (kop P x K) s := by
  simp only [clashC, Bool.or_eq_false_iff] at hc
  obtain ⟨hsl, hm⟩ := hc
  obtain ⟨n1, n2, n3⟩ := slotC_f hsl
  by_cases hca : (readO x.op && allocO y.op) = true
  · simp only [Bool.and_eq_true] at hca
    obtain ⟨r, hy, hx⟩ := read_app hca.1 h
    obtain ⟨r2, t2, g1, g2⟩ := alloc_app hca.2 hy
    refine g2 s (pt_g s x.dst r).symm (fun z hz => (n2 s (pt s x.dst r) (pt_g s x.dst r) (fun t ht => by rw [look_pt, if_neg (fun h => ht h.1)]) z hz).symm) rfl _ ?_
    refine hx (pt ⟨s.s, s.h ++ t2⟩ y.dst r2) (pt_g _ _ _) (fun z hz => n3 ⟨s.s, s.h ++ t2⟩ (pt ⟨s.s, s.h ++ t2⟩ y.dst r2) (pt_g _ _ _) (fun t ht => by rw [look_pt, if_neg (fun h => ht h.1)]) z hz) ⟨t2, rfl⟩ K ?_
    exact hK _ _ (eqvS_swap s.s _ n1 _ _ _ _) g1
  · have hm : ((wrC P x.op && (rdO P y.op || wrC P y.op)) || ((rdO P x.op || wrC P x.op) && wrC P y.op)) = false := by
      have : (readO x.op && allocO y.op) = false := by simpa using hca
      rw [this] at hm
      simpa using hm
    simp only [Bool.or_eq_false_iff] at hm
    obtain ⟨r1, h1, a1, a2, a3⟩ := kop_frameC h
    obtain ⟨r2, h2, b1, b2, b3⟩ := kop_frameC a1
    have c1 : rdO P y.op = true → wrC P x.op = false := fun hr => by
      have := hm.1
      rw [hr] at this
      simpa using this
    have c2 : rdO P x.op = true → wrC P y.op = false := fun hr => by
      have := hm.2
      rw [hr] at this
      simpa using this
    have c3 : ¬ (wrC P x.op = true ∧ wrC P y.op = true) := fun ⟨p, q⟩ => by
      have := hm.1
      rw [p, q] at this
      simp at this
    refine b3 s (pt_g _ _ _).symm (fun z hz => (n2 s (pt ⟨s.s, h1⟩ x.dst r1) (pt_g _ _ _) (fun t ht => by rw [look_pt, if_neg (fun h => ht h.1)]) z hz).symm) (fun hr => (a2 (c1 hr)).symm) _ ?_
    refine a3 (pt ⟨s.s, if wrC P y.op = true then h2 else s.h⟩ y.dst r2) (pt_g _ _ _) (fun z hz => n3 s (pt ⟨s.s, if wrC P y.op = true then h2 else s.h⟩ y.dst r2) (pt_g _ _ _) (fun t ht => by rw [look_pt, if_neg (fun h => ht h.1)]) z hz) (fun hr => by show (if wrC P y.op = true then h2 else s.h) = s.h; rw [if_neg (by rw [c2 hr]; simp)]) K ?_
    have eh : (if wrC P x.op = true then h1 else (pt ⟨s.s, if wrC P y.op = true then h2 else s.h⟩ y.dst r2).h) = h2 := by
      show (if wrC P x.op = true then h1 else if wrC P y.op = true then h2 else s.h) = h2
      by_cases wx : wrC P x.op = true
      · rw [if_pos wx]
        have : wrC P y.op = false := by
          cases hw : wrC P y.op with
          | false => rfl
          | true => exact absurd ⟨wx, hw⟩ c3
        exact (b2 this).symm
      · rw [if_neg wx]
        by_cases wy : wrC P y.op = true
        · rw [if_pos wy]
        · rw [if_neg wy]
          have q1 := b2 (by simpa using wy)
          have q2 := a2 (by simpa using wx)
          exact (q1.trans q2).symm
    rw [eh]
    exact hK _ _ (eqvS_swap s.s _ n1 _ _ _ _) b1
theorem kop_ok (P : Program) : TOk (kop P) (clashC P) := ⟨fun hm h => kop_mono hm h, fun hK => kop_ext hK, fun hc hK h => kop_comm hc hK h⟩
def detO (o : Op) : Bool := match o with | .pick .. => true | .call ⟨.value (.func _), _, _⟩ => false | _ => true
/-- An operation that answers one thing alone. -/
theorem kop_conj {P : Program} {o : Oper} (hd : detO o.op = true) (F : List Nat → St → Prop) (V : List Nat → Prop) (s : St) (hne : ∃ p, V p) (h : ∀ p, V p → kop P o (F p) s) : kop P o (fun s' => ∀ p, V p → F p s') s := by
  obtain ⟨p0, hp0⟩ := hne
  unfold kop at h ⊢
  split
  · rename_i c a b ho
    have h0 := h p0 hp0
    rw [ho] at h0
    simp only at h0
    unfold PickK at h0 ⊢
    split at h0
    · rename_i z hz
      have hh : ∀ p, V p → (z = true → F p (pt s o.dst (get s.s a))) ∧ (z = false → F p (pt s o.dst (get s.s b))) := fun p hp => by
        have := h p hp
        rw [ho] at this
        simp only [PickK, hz] at this
        exact this
      exact ⟨fun e p hp => (hh p hp).1 e, fun e p hp => (hh p hp).2 e⟩
    · exact h0.elim
  · rename_i g xs ts ho
    rw [ho] at hd
    cases hd
  · rename_i hn1 hn2
    have hh : ∀ p, V p → StepK (stepS P o s) (F p) := fun p hp => by
      have := h p hp
      split at this
      · rename_i c a b ho; exact absurd ho (hn1 c a b)
      · rename_i g xs ts ho; exact absurd ho (hn2 g xs ts)
      · exact this
    have h0 := hh p0 hp0
    unfold StepK at h0 ⊢
    split at h0
    · rename_i pr s' e
      refine ⟨h0.1, fun p hp => ?_⟩
      have := hh p hp
      rw [e] at this
      exact this.2
    · exact h0.elim
def okW (ops : Array Oper) : List (List Nat) → Bool
  | [] => false
  | [_] => true
  | _ => ops.all fun o => detO o.op
/-- A drawn region, by some orders of it that stand for all. -/
theorem DrawK.orders {P : Program} {ops : Array Oper} {Q : Post} {s : St} (W : List (List Nat)) (h1 : P.follows .mixedOrders = true) (h2 : ordersOk (clashC P) ops W = true) (h3 : okW ops W = true) (h4 : ∀ p ∈ W, seqT (kop P) ops p (normK Q) s) : DrawK P ops Q s := by
  refine ⟨h1, .inr (.inr ?_)⟩
  rw [← anyK_eq]
  have hQ : ExtK (ExtC (normK Q)) := fun s s' he ⟨s2, h1, h2⟩ => ⟨s2, eqvS_trans h1 he, h2⟩
  have h4 : ∀ p ∈ W, seqT (kop P) ops p (ExtC (normK Q)) s := fun p hp => seqT_mono (T := kop P) (fun o K K' s hm h => kop_mono hm h) (K := normK Q) (fun s h => (⟨s, eqvS_refl s, h⟩ : ExtC (normK Q) s)) p (h4 p hp)
  refine anyG_orders (kop_ok P) hQ h2 (fun e => by rw [e] at h3; cases h3) ?_ h4
  match W, h3 with
  | [p], _ => exact .inl fun a b ha hb => by rw [List.mem_singleton.1 ha, List.mem_singleton.1 hb]
  | p :: q :: W, h3 =>
    refine .inr fun i o ho F V s hne h => kop_conj ?_ F V s hne h
    obtain ⟨hi, e⟩ := Array.getElem?_eq_some_iff.1 ho
    have := Array.all_eq_true.1 h3 i hi
    rw [e] at this
    exact this
theorem seqT_kops {P : Program} {ops : Array Oper} {K : St → Prop} : ∀ (p : List Nat) (os : List Oper) {s : St}, p.map (ops[·]?) = os.map some → (∀ o ∈ os, o.guard = none) → kops P ops os K s → seqT (kop P) ops p K s
  | [], [], s, _, _, h => h
  | i :: p, o :: os, s, he, hg, h => by
    simp only [List.map_cons, List.cons.injEq] at he
    simp only [seqT, he.1]
    have := hg o (by simp)
    simp only [kops, this] at h
    exact kop_mono (fun s' h' => seqT_kops p os he.2 (fun x hx => hg x (by simp [hx])) h') h
  | [], o :: os, s, he, _, _ => by simp at he
  | i :: p, [], s, he, _, _ => by simp at he
theorem range_toList (ops : Array Oper) : (List.range ops.size).map (ops[·]?) = ops.toList.map some := by
  apply List.ext_getElem?
  intro i
  simp only [List.getElem?_map]
  by_cases hi : i < ops.size
  · simp [hi]
  · rw [List.getElem?_eq_none (by simpa using hi), List.getElem?_eq_none (by simpa using hi)]; rfl
theorem DrawK.text {P : Program} {ops : Array Oper} {Q : Post} {s : St} (h1 : P.follows .mixedOrders = true) (h2 : ordersOk (clashC P) ops [List.range ops.size] = true) (h : kops P ops ops.toList (normK Q) s) : DrawK P ops Q s :=
  DrawK.orders [List.range ops.size] h1 h2 rfl fun p hp => by
    rw [List.mem_singleton.1 hp]
    refine seqT_kops _ _ (range_toList ops) (fun o ho => ?_) h
    simp only [ordersOk, Bool.and_eq_true] at h2
    have := Array.all_eq_true.1 h2.1.1.2
    obtain ⟨i, hi, e⟩ := Array.mem_iff_getElem.1 (Array.mem_toList_iff.1 ho)
    have := this i hi
    rw [e] at this
    simpa using this
/-- .. by its operations as they are listed (one order), and the same with two of them the other way round. -/
theorem DrawK.one {P : Program} {ops : Array Oper} {Q : Post} {s : St} (W : List Nat) (os : List Oper) (h1 : P.follows .mixedOrders = true) (h2 : ordersOk (clashC P) ops [W] = true) (he : W.map (ops[·]?) = os.map some) (hg : os.all (fun o => o.guard.isNone) = true) (h : kops P ops os (normK Q) s) : DrawK P ops Q s :=
  DrawK.orders [W] h1 h2 rfl fun p hp => by
    rw [List.mem_singleton.1 hp]
    exact seqT_kops W os he (fun o ho => by have := List.all_eq_true.1 hg o ho; simpa using this) h
theorem DrawK.two {P : Program} {ops : Array Oper} {Q : Post} {s : St} (W W2 : List Nat) (os os2 : List Oper) (h1 : P.follows .mixedOrders = true) (h2 : ordersOk (clashC P) ops [W, W2] = true) (h3 : okW ops [W, W2] = true) (he : W.map (ops[·]?) = os.map some) (he2 : W2.map (ops[·]?) = os2.map some) (hg : os.all (fun o => o.guard.isNone) = true) (hg2 : os2.all (fun o => o.guard.isNone) = true)
    (h : kops P ops os (normK Q) s) (h' : kops P ops os2 (normK Q) s) : DrawK P ops Q s :=
  DrawK.orders [W, W2] h1 h2 h3 fun p hp => by
    rcases List.mem_cons.1 hp with rfl | hp
    · exact seqT_kops p os he (fun o ho => by have := List.all_eq_true.1 hg o ho; simpa using this) h
    · rw [List.mem_singleton.1 hp]
      exact seqT_kops W2 os2 he2 (fun o ho => by have := List.all_eq_true.1 hg2 o ho; simpa using this) h'
end Go.Ev
