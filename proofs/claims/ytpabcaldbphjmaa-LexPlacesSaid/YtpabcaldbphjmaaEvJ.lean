import Derived.Test.YtpabcaldbphjmaaEvI
namespace Go.Ev
set_option linter.all false
open Go Go.RowKit
set_option linter.unusedVariables false
set_option linter.unusedSimpArgs false
section
variable {X : Fix} {φ : List Nat} {st : St} {a : Act} {w : World} {o : Oper} {Q : Exit → Act → World → Prop} {K : St → Prop}

/-- What is appended: its length, its cells. -/
theorem SR.src (hs : SR X φ st a w) {y : Operand} {sz : Nat} {KK : Nat → List AV → Prop} (h : srcA st sz (Ev.get st.s y) KK) :
    ∃ n new us, KK n new ∧ relL new (cx X φ st.h w) us ∧ us.length = n * sz ∧ (Builtin.lenOf (a.eval y)).run X.P w = .ok n w ∧
      ∀ w' : World, (∀ p, w'.cell? p = w.cell? p) → (Builtin.firstCells sz n (a.eval y)).run X.P w' = .ok us.toArray w' := by
  have hy := hs.get y
  unfold srcA at h
  split at h
  · rename_i b n m cs hg
    rw [hg] at hy
    simp only [rel] at hy
    obtain ⟨r, off, cap, g1, g2, g3, g4, g5⟩ := hy
    obtain ⟨us, h1, h2⟩ := relAt_list (relAt_take (relAt_shut g5 ⟨_, g4⟩) (n * sz))
    have hl : us.length = n * sz := by have := relL_length h1; simp at this; omega
    refine ⟨n, _, us, h.2, h1, hl, by rw [g1]; rfl, fun w' hw' => ?_⟩
    rw [g1]
    refine run_firstCells_some w' sz n _ n cap us hl fun j v hj => ?_
    rw [hw', Addr.add_lit]; exact h2 j v hj
  · rename_i i ver n hg
    obtain ⟨k, hk, hv, hle, hKK⟩ := h
    obtain ⟨β, cap, vs, fr, g1, g2, g3, g4, g5, g6, g7, g8, g9⟩ := hs.own hg hk hv
    obtain ⟨us, h1, h2⟩ := relAt_list (relAt_take g9 (n * sz))
    have hl : us.length = n * sz := by have := relL_length h1; simp at this; omega
    refine ⟨n, _, us, hKK, h1, hl, by rw [g1]; rfl, fun w' hw' => ?_⟩
    rw [g1]
    refine run_firstCells_some w' sz n _ n cap us hl fun j v hj => ?_
    rw [hw', Addr.add_lit]; exact h2 j v hj
  · rename_i hg
    rw [hg] at hy
    simp only [rel] at hy
    exact ⟨0, [], [], h, by simp [relL], by simp, by rw [hy]; rfl, fun w' _ => by rw [hy]; rfl⟩
  · rename_i b hg
    rw [hg] at hy
    simp only [rel] at hy
    obtain ⟨rfl, hKK⟩ := h
    refine ⟨_, _, b.data.toList.map fun c => Value.int .u8 c.toNat, hKK, ?_, by simp, by rw [hy]; simp [Builtin.lenOf], fun w' _ => ?_⟩
    · generalize b.data.toList = l
      induction l with
      | nil => simp [relL]
      | cons c l ih => simp only [List.map_cons, relL]; exact ⟨_, _, rfl, rel_v _ _, ih⟩
    · rw [hy]
      have : (b.extract 0 b.data.toList.length) = b := by
        apply ByteArray.ext
        rw [ByteArray.data_extract]
        apply Array.ext'
        simp
        exact List.take_of_length_le (by simp)
      simp only [Builtin.firstCells, this, Sem.run_pure]
      congr 1
      try (apply Array.ext'; simp)
  · exact h.elim
theorem zeroCells_size (z : Array Value) (n : Nat) : (Builtin.zeroCells z n).size = n * z.size := by simp [Builtin.zeroCells]
/-- What append comes to, arm by arm. -/
theorem run_append {P : Program} {ts : Array TypeId} {ty t t2 e sz by' : Nat} {z : Value} (hz : zeroT P e = some z) (h0 : ts[0]? = some t) (h1 : ts[1]? = some t2) (hni : intT P t2 = none) (hso : (P.underlying t2).isSome = true) (he : elemT P t = some e) (hsz : sizeT P e = some sz) (hby : bytesT P e = some by') (hb0 : 0 < by')
    {base : Option Addr} {m cap n : Nat} {y : Value} {us old : List Value} (hlen : (Builtin.lenOf y).run P w = .ok n w) (hfc : ∀ w' : World, (∀ p, w'.cell? p = w.cell? p) → (Builtin.firstCells sz n y).run P w' = .ok us.toArray w') :
    (m + n ≤ cap → (Builtin.append_ ts ty #[.slice base m cap, y]).run P w = ((match base with | some ad => storeCells (ad.add (m * sz)) us | none => pure () : Sem Unit).run P w).andThen fun _ w' => .ok (.slice base (m + n) cap) w') ∧
    (cap < m + n → (m + n) * by' ≤ 140737488355328 → (∀ w' : World, (∀ p, w'.cell? p = w.cell? p) → (Builtin.firstCells sz m (.slice base m cap)).run P w' = .ok old.toArray w') →
      (Builtin.append_ ts ty #[.slice base m cap, y]).run P w = .ok (.slice (some ⟨w.heap.size, 0, none⟩) (m + n) (grownCap w (m + n) cap e)) (w.drew.alloc (.cells (old.toArray ++ us.toArray ++ Builtin.zeroCells z.cells (grownCap w (m + n) cap e - (m + n))) e))) := by
  obtain ⟨i, hi, his⟩ := sizeT_info hsz
  have hib : i.bytes = by' := by simpa [bytesT, hi] using hby
  have hiz : i.zero = some z := by simpa [zeroT, hi] using hz
  obtain ⟨d, hd⟩ := Option.isSome_iff_exists.1 hso
  have hd' : ∀ k, d ≠ .int k := fun k e => by simp [intT, hd, e] at hni
  have hu := elemT_eq he
  have hs' : i.size = sz := his
  have hf1 := hfc w (fun _ => rfl)
  have hf2 := hfc w.drew (fun _ => rfl)
  have hm : (d matches .int _) = false := by cases d <;> first | rfl | exact absurd rfl (hd' _)
  constructor
  · intro hle
    simp [Builtin.append_, h0, h1, run_underlying hu, run_underlying hd, sizeOf, typeInfo, hi, hs', hlen, hle, hf1, hm]
    cases base <;> simp
  · intro hlt hb hold
    have hn : ¬ (m + n ≤ cap) := by omega
    have h63 : ¬ (i.bytes = 0) := by omega
    have hfit := growslice_fits hlt hb
    have h48 : ¬ (281474976710656 < Builtin.nextslicecap (m + n) cap * i.bytes) := by rw [hib]; omega
    have ho := hold w.drew (fun _ => rfl)
    simp [Builtin.append_, h0, h1, run_underlying hu, run_underlying hd, sizeOf, typeInfo, zeroValue, hi, hiz, hs', hlen, hn, h63, h48, Question.forced, ho, hf2, newRow, grownCap, hm]
    congr 2
    apply Array.ext'
    simp [List.append_assoc]
theorem op_append (hs : SR X φ st a w) {c : Call} (ho : o.op = .call c) (hc : c.callee = .builtin .append) {x y : Operand} (hxy : c.args = #[x, y])
    (h : appendA X.P c.argTypes st (get st.s x) (get st.s y) fun r s' => K { s' with s := putS s'.s o.dst r }) : o.wp X.P a w (Nx X K) Q := by
  have hx := hs.get x
  have he : execOp a.eval o = (do pure (.value (← Builtin.append_ c.argTypes o.type #[a.eval x, a.eval y])) : Sem Next) := by
    simp only [execOp, ho, resolve, hc, hxy, List.map_toArray, List.map_cons, List.map_nil]; rfl
  obtain ⟨t, t2, e, sz, by', z, hz, hzl, h0, h1, h2, h3, h4, h5, h6, h7, h8, h⟩ := h
  rw [zeroCells_len] at hzl
  obtain ⟨n, new, us, ⟨hone, hKK⟩, hrel, hul, hlen, hfc⟩ := hs.src h
  have hnl : new.length = n * sz := by rw [← hul, relL_length hrel]
  unfold ontoA at hKK
  split at hKK
  · rename_i hg
    rw [hg] at hx
    simp only [rel] at hx
    obtain ⟨r1, r2⟩ := run_append (w := w) (ty := o.type) hz h0 h1 h2 h3 h4 h5 h6 h8 (base := none) (m := 0) (cap := 0) (old := []) hlen hfc
    rcases hKK with ⟨rfl, hk⟩ | ⟨hn, hb, hk⟩
    · refine wp_yield hs he (u := .slice none 0 0) (w' := w) ?_ (.inl rfl) (rel_v _ _) hk
      rw [hx]
      exact r1 (Nat.le_refl _)
    · have hrun := r2 (by omega) (by simpa using hb) (fun w' _ => rfl)
      simp only [Nat.zero_add] at hrun
      have hge := grownCap_ge w n 0 e
      refine wp_row hs he (w1 := w.drew) (.inr rfl) (n := n) (cap := grownCap w n 0 e) (fr := (0, 0)) (e := e) (cells := new) (by rw [hx]; exact hrun) ?_ (fun off _ => by simp only; omega) hge ?_ hk
      · simp only [Array.toList_append, List.nil_append]
        rw [List.take_append_of_le_length (by simp [relL_length hrel]), List.take_of_length_le (by simp [relL_length hrel])]
        simpa using hrel
      · rw [sizeT_cells h5]
        simp only [Array.size_append, List.size_toArray, zeroCells_size, hzl, hul, List.length_nil, Nat.zero_add, ← Nat.add_mul]
        congr 1; omega
  · rename_i i ver m hg
    obtain ⟨k, hk, hv, hke, hml, hKK⟩ := hKK
    subst hke
    obtain ⟨β, cap, vs, fr, g1, g2, g3, g4, g5, g6, g7, g8, g9⟩ := hs.own hg hk hv
    rw [sizeT_cells h5] at g3
    obtain ⟨oldA, q1, q2⟩ := relAt_list (relAt_take g9 (m * sz))
    have hol : oldA.length = m * sz := by have := relL_length q1; simp at this; omega
    have hold : ∀ w' : World, (∀ p, w'.cell? p = w.cell? p) → (Builtin.firstCells sz m (.slice (some ⟨β, 0, none⟩) m cap)).run X.P w' = .ok oldA.toArray w' := fun w' hw' =>
      run_firstCells_some w' sz m _ m cap oldA hol fun j v hj => by rw [hw', Addr.add_lit]; exact q2 j v hj
    obtain ⟨r1, r2⟩ := run_append (w := w) (ty := o.type) hz h0 h1 h2 h3 h4 h5 h6 h8 (base := some ⟨β, 0, none⟩) (m := m) (cap := cap) (old := oldA) hlen hfc
    rcases hKK with ⟨rfl, hk'⟩ | ⟨hb, hk'⟩
    · have : us = [] := by have : us.length = 0 := by simpa using hul
                           exact List.length_eq_zero_iff.1 this
      subst this
      refine wp_yield hs he (u := .slice (some ⟨β, 0, none⟩) m cap) (w' := w) ?_ (.inl rfl) (r := .own i ver m) (rel_own g5 hv g2 (by simp only [World.shape?, g6, g3, sizeT_cells h5])) hk'
      rw [g1]
      have := r1 (by omega)
      simpa [storeCells] using this
    · by_cases hroom : m + n ≤ cap
      · have hsz2 : (m + n) * sz ≤ vs.size := by rw [g3]; exact Nat.mul_le_mul_right _ hroom
        rw [Nat.add_mul] at hsz2
        have hone' := relL_one hrel hone
        obtain ⟨w', s1, s2, s3, s4, s5, s6, s7⟩ := run_storeCells_blk (P := X.P) β k.e fr us 0 (m * sz) vs w g6 (by omega) g8 hone'
        have hrun := r1 hroom
        simp only [Addr.add_lit, Nat.zero_add, s1, Result.andThen_ok] at hrun
        have hvs : (vs.toList.take (m * sz)) = oldA := by
          apply List.ext_getElem?
          intro j
          by_cases hj : j < m * sz
          · have hj' : j < oldA.length := by omega
            have := q2 j _ (List.getElem?_eq_getElem hj')
            simp only [cx, World.cell?, Nat.zero_add, g6] at this
            rw [List.getElem?_take, if_pos hj, List.getElem?_eq_getElem hj']
            simpa using this
          · rw [List.getElem?_eq_none (by simp; omega), List.getElem?_eq_none (by omega)]
        have hnew : relL (k.cells.take (m * sz) ++ new) (cx X φ st.h w) (oldA ++ us) := relL_append q1 hrel
        have hsr := hs.upd (w' := w') hk g4 (vs := vs) (vs' := (vs.toList.take (m * sz + 0) ++ us ++ vs.toList.drop (m * sz + 0 + us.length)).toArray) (fr := fr) (cells := k.cells.take (m * sz) ++ new) (ver := ver + 1) (by omega) g6 s2
          (by simp; omega) s3 s4 s5 s6 s7 (by
            have hl2 : (k.cells.take (m * sz) ++ new).length = (oldA ++ us).length := (relL_length hnew).symm
            simp only [Nat.add_zero, hvs]
            rw [hl2, List.take_left' rfl]
            exact hnew)
        refine wp_val he (u := .slice (some ⟨β, 0, none⟩) (m + n) cap) (w' := w') (by rw [g1]; exact hrun) ⟨φ, _, hsr.put o.dst (r := .own i (ver + 1) (m + n)) ?_, hk'⟩
        refine rel_own (k := ⟨ver + 1, k.e, k.cells.take (m * sz) ++ new⟩) (β := β) (curOf_eq.2 ⟨by simp [(List.getElem?_eq_some_iff.1 hk).1], g4⟩) rfl hroom ?_
        simp only [World.shape?, s2]
        simp only [List.size_toArray, List.length_append, List.length_take, List.length_drop, Array.length_toList, sizeT_cells h5, g3, Option.some.injEq, Prod.mk.injEq, true_and]
        rw [g3] at hsz2
        omega
      · have hrun := r2 (by omega) hb hold
        have hge := grownCap_ge w (m + n) cap k.e
        have hs1 := hs.world (below_drew w)
        have hle1 : (cx X φ st.h w).le (cx X φ st.h w.drew) := cx_le_same (w := w) (w' := w.drew) (fun _ _ => rfl) (fun _ _ => rfl) (Nat.le_refl _) (fun β hβ => (hs.rng β hβ).2) _
        have hnew : relL (k.cells.take (m * sz) ++ new) (cx X φ st.h w.drew) (oldA ++ us) := relL_mono hle1 _ _ (relL_append q1 hrel)
        have hsr := hs1.moved hk g4 (vs := oldA.toArray ++ us.toArray ++ Builtin.zeroCells z.cells (grownCap w (m + n) cap k.e - (m + n))) (e := k.e) (fr := (0, 0)) (cells := k.cells.take (m * sz) ++ new) (ver := ver + 1) (by omega) (by
            have hl2 : (k.cells.take (m * sz) ++ new).length = (oldA ++ us).length := (relL_length hnew).symm
            simp only [Array.toList_append]
            rw [hl2, List.take_left' rfl]
            exact hnew) (fun off _ => by simp only; omega)
        refine wp_val he (u := .slice (some ⟨w.heap.size, 0, none⟩) (m + n) (grownCap w (m + n) cap k.e)) (by rw [g1]; exact hrun) ⟨_, _, hsr.put o.dst (r := .own i (ver + 1) (m + n)) ?_, hk'⟩
        refine rel_own (k := ⟨ver + 1, k.e, k.cells.take (m * sz) ++ new⟩) (β := w.drew.heap.size) (curOf_eq.2 ⟨by simp [(List.getElem?_eq_some_iff.1 hk).1], by simp [(List.getElem?_eq_some_iff.1 g4).1]⟩) rfl hge ?_
        have h1' := heap_alloc_new w.drew (.cells (oldA.toArray ++ us.toArray ++ Builtin.zeroCells z.cells (grownCap w (m + n) cap k.e - (m + n))) k.e)
        simp only [World.shape?, h1']
        simp only [Array.size_append, List.size_toArray, zeroCells_size, hzl, hul, hol, sizeT_cells h5, Option.some.injEq, Prod.mk.injEq, true_and, ← Nat.add_mul]
        congr 1; omega
  · exact hKK.elim
end
end Go.Ev
