import Derived.Test.YtpabcaldbphjmaaEvG
namespace Go.Ev
set_option linter.all false
open Go Go.RowKit
set_option linter.unusedVariables false
set_option linter.unusedSimpArgs false
section
variable {X : Fix} {φ : List Nat} {st : St} {a : Act} {w : World} {o : Oper} {Q : Exit → Act → World → Prop} {K : St → Prop}

/-- A value that is a new row. -/
theorem wp_row (hs : SR X φ st a w) {s : Sem Value} (he : execOp a.eval o = (do pure (.value (← s)) : Sem Next)) {w1 : World} (hw1 : w1 = w ∨ w1 = w.drew) {vs : Array Value} {e : TypeId} {fr : Nat × Nat} {n cap : Nat} {cells : List AV}
    (hr : s.run X.P w = .ok (.slice (some ⟨w.heap.size, 0, none⟩) n cap) (w1.alloc (.cells vs e fr))) (hc : relL cells (cx X φ st.h w) (vs.toList.take cells.length)) (hfr : ∀ off, off < vs.size → ¬ (fr.1 ≤ off ∧ off < fr.2))
    (hn : n ≤ cap) (hcap : vs.size = cap * X.P.cellsOf e) (hk : K { s := putS st.s o.dst (.own st.h.length 0 n), h := st.h ++ [⟨0, e, cells⟩] }) : o.wp X.P a w (Nx X K) Q := by
  have hs1 : SR X φ st a w1 := by rcases hw1 with rfl | rfl; exact hs; exact hs.world (below_drew w)
  have hsz : w1.heap.size = w.heap.size := by rcases hw1 with rfl | rfl <;> rfl
  have hc1 : relL cells (cx X φ st.h w1) (vs.toList.take cells.length) := by
    rcases hw1 with rfl | rfl
    · exact hc
    · exact relL_mono (cx_le_same (w := w) (w' := w.drew) (fun _ _ => rfl) (fun _ _ => rfl) (Nat.le_refl _) (fun β hβ => (hs.rng β hβ).2) _) _ _ hc
  obtain ⟨hp, _⟩ := hs1.push (vs := vs) (e := e) (fr := fr) (cells := cells) (ver := 0) hc1 hfr
  refine wp_val he hr ⟨_, _, hp.put o.dst (r := .own st.h.length 0 n) (u := .slice (some ⟨w.heap.size, 0, none⟩) n cap) ?_, hk⟩
  rw [hsz]
  refine rel_own (k := ⟨0, e, cells⟩) (β := w.heap.size) (curOf_eq.2 ⟨by simp, by rw [← hs.φlen]; simp⟩) rfl hn ?_
  have h1 := heap_alloc_new w1 (.cells vs e fr)
  rw [hsz] at h1
  simp only [World.shape?, h1, hcap]
theorem relL_rows (c : Cx) (z : Value) : ∀ n : Nat, relL (rowsA z n) c (List.replicate n z.cells.toList).flatten
  | 0 => by simp [rowsA, relL]
  | n + 1 => by
    simp only [rowsA, List.replicate_succ, List.flatten_cons]
    exact relL_append (rel_zeroCells c z) (relL_rows c z n)
theorem madeCells_list (z : Array Value) (n : Nat) (hz : 0 < z.size) : (madeCells z (n * z.size)).toList = (List.replicate n z.toList).flatten := by
  apply List.ext_getElem?
  intro i
  have hlen : (List.replicate n z.toList).flatten.length = n * z.size := by simp
  by_cases hi : i < n * z.size
  · rw [show (madeCells z (n * z.size)).toList[i]? = some z[i % z.size]! by simp [madeCells, hi]]
    rw [List.getElem?_eq_getElem (by rw [hlen]; exact hi)]
    congr 1
    have hm : i % z.size < z.size := Nat.mod_lt _ hz
    rw [show z[i % z.size]! = z[i % z.size] from getElem!_pos z _ hm]
    have key : ∀ n i, (h : i < (List.replicate n z.toList).flatten.length) → (List.replicate n z.toList).flatten[i] = z.toList[i % z.size]'(by simpa using Nat.mod_lt _ hz) := by
      intro n
      induction n with
      | zero => intro i h; simp at h
      | succ n ih =>
        intro i h
        simp only [List.replicate_succ, List.flatten_cons]
        by_cases hl : i < z.toList.length
        · rw [List.getElem_append_left hl]
          congr 1
          rw [Nat.mod_eq_of_lt (by simpa using hl)]
        · rw [List.getElem_append_right (by omega)]
          rw [ih]
          congr 1
          have : z.toList.length = z.size := by simp
          rw [this] at hl ⊢
          rw [Nat.mod_eq_sub_mod (show i ≥ z.size by omega)]
    rw [key]
    simp
  · rw [List.getElem?_eq_none (by simp [madeCells]; omega), List.getElem?_eq_none (by omega)]
theorem zeroCells_len (z : Value) : (zeroCells z).length = z.cells.size := by cases z <;> simp [zeroCells, Value.cells]
theorem sizeT_info {P : Program} {t n : Nat} (h : sizeT P t = some n) : ∃ i, P.info? t = some i ∧ i.size = n := by
  unfold sizeT at h
  cases hi : P.info? t with
  | none => simp [hi] at h
  | some i => simp [hi] at h; exact ⟨i, rfl, h⟩
theorem op_makeSlice (hs : SR X φ st a w) {t : TypeId} {x y : Operand} (ho : o.op = .makeSlice t x y)
    (h : makeSliceA X.P t (get st.s x) (get st.s y) st fun r s' => K { s' with s := putS s'.s o.dst r }) : o.wp X.P a w (Nx X K) Q := by
  have hx := hs.get x
  have hy := hs.get y
  have he : execOp a.eval o = (do pure (.value (← Instr.makeSlice t (a.eval x) (a.eval y))) : Sem Next) := by simp only [execOp, ho]
  unfold makeSliceA at h
  split at h
  · rename_i kn n kc c hg1 hg2
    rw [hg1] at hx; rw [hg2] at hy
    simp only [rel] at hx hy
    obtain ⟨e, sz, by', z, h1, h2, h3, h4, h5, h6, h7, h8, h9, h10, hk⟩ := h
    obtain ⟨i, hi, his⟩ := sizeT_info h2
    have hib : i.bytes = by' := by simpa [bytesT, hi] using h3
    have hiz : i.zero = some z := by simpa [zeroT, hi] using h4
    rw [zeroCells_len] at h5
    have hb : (i.bytes : Int) * c ≤ 281474976710656 := by rw [hib, Int.mul_comm]; omega
    have hrun := run_make (P := X.P) w t e i z (elemT_eq h1) hi hiz kn kc n c h7 h8 hb (by omega)
    have hcl : (rowsA z c.toNat).length = c.toNat * sz := by simp [rowsA, zeroCells_len, h5]
    refine wp_row hs he (w1 := w) (.inl rfl) (n := n.toNat) (cap := c.toNat) (fr := (0, 0)) (cells := rowsA z c.toNat) (by rw [hx, hy]; exact hrun) ?_ (fun off _ => by omega) (by omega) (by rw [size_madeCells, sizeT_cells h2, his]) hk
    rw [his, ← h5, madeCells_list _ _ (by omega)]
    rw [List.take_of_length_le (by simp [hcl, h5])]
    exact relL_rows _ z _
  · exact h.elim

/-! ### Literals -/
theorem setMany_len : ∀ (xs l : List AV) (i : Nat), (setMany l i xs).length = l.length
  | [], l, i => rfl
  | x :: xs, l, i => by simp [setMany, setMany_len xs]
theorem foldl_set (us : List Value) : ∀ (off i : Nat) (cells : Array Value), ((us.zipIdx i).foldl (fun cs (c, j) => cs.setIfInBounds (off + j) c) cells).toList = (us.foldl (fun (p : List Value × Nat) c => (p.1.set p.2 c, p.2 + 1)) (cells.toList, off + i)).1 := by
  induction us with
  | nil => intro off i cells; rfl
  | cons u us ih =>
    intro off i cells
    simp only [List.zipIdx_cons, List.foldl_cons]
    rw [ih]
    simp [Nat.add_assoc]
theorem relL_fill {c : Cx} : ∀ (cs : List AV) (us : List Value) (l : List AV) (vs : List Value) (i : Nat), relL cs c us → relL l c vs → relL (setMany l i cs) c (us.foldl (fun (p : List Value × Nat) c => (p.1.set p.2 c, p.2 + 1)) (vs, i)).1
  | [], us, l, vs, i, h, hl => by simp only [relL] at h; subst h; exact hl
  | x :: cs, us, l, vs, i, h, hl => by
    simp only [relL] at h
    obtain ⟨u, us', rfl, h2, h3⟩ := h
    simp only [setMany, List.foldl_cons]
    exact relL_fill cs us' _ _ _ h3 (relL_set hl i h2)
theorem SR.fill (hs : SR X φ st a w) {place : Nat → Option (Nat × Nat)} : ∀ (ps : List (Nat × Operand)) {l : List AV} {vs : Array Value} {KL : List AV → Prop}, fillA place (Ev.get st.s) ps l KL → relL l (cx X φ st.h w) vs.toList →
    ∃ l' vs', Instr.fill place vs (ps.map fun (i, x) => (i, a.eval x)) = some vs' ∧ relL l' (cx X φ st.h w) vs'.toList ∧ KL l' ∧ vs'.size = vs.size
  | [], l, vs, KL, h, hl => ⟨l, vs, rfl, hl, h, rfl⟩
  | (i, x) :: ps, l, vs, KL, h, hl => by
    obtain ⟨off, n, cs, h1, h2, h3, h4, h5⟩ := h
    obtain ⟨hc, _⟩ := rel_flat (hs.get x) h2
    have hlen : (a.eval x).cells.size = n := by have := relL_length hc; simp at this; omega
    have hll : vs.size = l.length := by have := relL_length hl; simpa using this
    obtain ⟨l', vs', g1, g2, g3, g4⟩ := hs.fill ps (vs := ((a.eval x).cells.zipIdx.foldl (fun cs (c, j) => cs.setIfInBounds (off + j) c) vs)) h5 (by
      have e : ((a.eval x).cells.zipIdx.foldl (fun cs (c, j) => cs.setIfInBounds (off + j) c) vs).toList = ((a.eval x).cells.toList.foldl (fun (p : List Value × Nat) c => (p.1.set p.2 c, p.2 + 1)) (vs.toList, off)).1 := by
        rw [← Array.foldl_toList]
        have := foldl_set (a.eval x).cells.toList off 0 vs
        simpa using this
      rw [e]
      exact relL_fill _ _ _ _ _ hc hl)
    refine ⟨l', vs', ?_, g2, g3, ?_⟩
    · simp only [List.map_cons, Instr.fill, h1, hlen]
      rw [if_neg (by simp; omega)]
      exact g1
    · rw [g4]
      have : ∀ (us : List (Value × Nat)) (cells : Array Value), (us.foldl (fun cs (c, j) => cs.setIfInBounds (off + j) c) cells).size = cells.size := by
        intro us
        induction us with
        | nil => intro cells; rfl
        | cons u us ih => intro cells; simp [ih]
      rw [← Array.foldl_toList]
      exact this _ _
theorem op_build (hs : SR X φ st a w) {t : TypeId} {ps : Array (Nat × Operand)} (ho : o.op = .build t ps)
    (h : buildA X.P t ps (get st.s) fun r => K { st with s := putS st.s o.dst r }) : o.wp X.P a w (Nx X K) Q := by
  have he : execOp a.eval o = (do pure (.value (← Instr.build t (ps.map fun (i, x) => (i, a.eval x)))) : Sem Next) := by simp only [execOp, ho]
  obtain ⟨z, hz, h⟩ := h
  have hz0 := rel_zeroCells (cx X φ st.h w) z
  have hps : (ps.map fun (i, x) => (i, a.eval x)).toList = ps.toList.map fun (i, x) => (i, a.eval x) := by simp
  rcases h with ⟨pl, hpl, h⟩ | ⟨n, e, sz, hu, hsz, h⟩
  · obtain ⟨l', vs', g1, g2, g3, g4⟩ := hs.fill ps.toList (vs := z.cells) h hz0
    refine wp_yield hs he (u := .agg vs') (w' := w) ?_ (.inl rfl) (r := .agg l') (by simp only [rel]; exact ⟨_, rfl, g2⟩) g3
    unfold placesT at hpl
    split at hpl
    · rename_i fs hu
      refine run_build w t _ vs' ?_
      unfold zeroT at hz
      cases hi : X.P.info? t with
      | none => simp [hi] at hz
      | some i =>
        have hiz : i.zero = some z := by simpa [hi] using hz
        have e : (fun i : Nat => pl.toArray[i]?) = (fun i : Nat => pl[i]?) := by funext i; simp
        simp only [Program.built, hi, hu, hiz, hpl, e, hps, g1]
    · cases hpl
  · obtain ⟨l', vs', g1, g2, g3, g4⟩ := hs.fill ps.toList (vs := z.cells) h hz0
    refine wp_yield hs he (u := .agg vs') (w' := w) ?_ (.inl rfl) (r := .agg l') (by simp only [rel]; exact ⟨_, rfl, g2⟩) g3
    simp only [Instr.build, Sem.run_bind, run_zero hz, Result.andThen_ok, run_underlying (arrT_eq hu), run_size hsz, hps, g1, Sem.run_pure]
theorem op_buildSlice (hs : SR X φ st a w) {t : TypeId} {n : Nat} {ps : Array (Nat × Operand)} (ho : o.op = .buildSlice t n ps)
    (h : buildSliceA X.P t n ps (get st.s) st fun r s' => K { s' with s := putS s'.s o.dst r }) : o.wp X.P a w (Nx X K) Q := by
  have he : execOp a.eval o = (do pure (.value (← Instr.buildSlice t n (ps.map fun (i, x) => (i, a.eval x)))) : Sem Next) := by simp only [execOp, ho]
  obtain ⟨e, sz, z, h1, h2, h3, h4, h5, h6, h⟩ := h
  rw [zeroCells_len] at h4
  subst h4
  have hps : (ps.map fun (i, x) => (i, a.eval x)).toList = ps.toList.map fun (i, x) => (i, a.eval x) := by simp
  have hz0 : relL (rowsA z n) (cx X φ st.h w) ((Array.range (n * z.cells.size)).map (z.cells[· % z.cells.size]!)).toList := by
    have := madeCells_list z.cells n (by omega)
    unfold madeCells at this
    rw [this]
    exact relL_rows _ z n
  obtain ⟨l', vs', g1, g2, g3, g4⟩ := hs.fill ps.toList (vs := (Array.range (n * z.cells.size)).map (z.cells[· % z.cells.size]!)) h hz0
  have hl' : vs'.toList.take l'.length = vs'.toList := List.take_of_length_le (by rw [relL_length g2]; exact Nat.le_refl _)
  refine wp_row hs he (w1 := w) (.inl rfl) (vs := vs') (e := e) (fr := (0, 0)) (n := n) (cap := n) (cells := l') ?_ (by rw [hl']; exact g2) (fun off _ => by omega) (Nat.le_refl _) (by rw [g4, sizeT_cells h2]; simp) g3
  have h6' : ¬ n * z.cells.size > 2 ^ 24 := by omega
  simp only [Instr.buildSlice, Sem.run_bind, run_underlying (elemT_eq h1), Result.andThen_ok, run_size h2, Sem.run_ite, if_neg h6']
  by_cases h0 : n * z.cells.size = 0
  · have e0 : (Array.range (n * z.cells.size)).map (z.cells[· % z.cells.size]!) = (Array.range (n * z.cells.size)).map ((#[] : Array Value)[· % (#[] : Array Value).size]!) := by rw [h0]; simp
    rw [e0] at g1
    rw [if_pos h0]
    simp only [Sem.run_pure, Result.andThen_ok, hps, g1]
    rfl
  · rw [if_neg h0]
    simp only [Sem.run_bind, run_zero h3, Result.andThen_ok, Sem.run_pure, hps, g1]
    rfl
end
end Go.Ev
