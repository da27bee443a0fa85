import Derived.Test.YtpabcaldbphjmaaEvF
namespace Go.Ev
set_option linter.all false
open Go Go.RowKit
set_option linter.unusedVariables false
set_option linter.unusedSimpArgs false
section
variable {X : Fix} {φ : List Nat} {st : St} {a : Act} {w : World} {o : Oper} {Q : Exit → Act → World → Prop} {K : St → Prop}

theorem SR.bound (hs : SR X φ st a w) {x : Option Operand} {d : Nat} {K1 : Nat → Prop} (h : boundA (x.map (Ev.get st.s)) d K1) :
    ∃ n, K1 n ∧ ((x = none ∧ n = d) ∨ ∃ k i y, x = some y ∧ a.eval y = .int k i ∧ 0 ≤ i ∧ n = i.toNat) := by
  cases x with
  | none => exact ⟨d, h, .inl ⟨rfl, rfl⟩⟩
  | some y =>
    simp only [Option.map_some] at h
    unfold boundA at h
    have hy := hs.get y
    split at h
    · rename_i e; cases e
    · rename_i k i e
      cases e' : Ev.get st.s y <;> rw [e'] at e <;> simp at e
      rename_i u
      subst e
      rw [e'] at hy
      simp only [rel] at hy
      exact ⟨_, h.2, .inr ⟨k, i, y, rfl, hy, h.1, rfl⟩⟩
    · exact h.elim
theorem run_sliceBound {P : Program} {v : Value} {k : IntKind} {i : Int} (hv : v = .int k i) (h0 : 0 ≤ i) {y : Nat} (hy : i.toNat ≤ y) (code : BoundsCode) (w : World) : (Instr.sliceBound v y code).run P w = .ok i.toNat w := by
  have : i ≤ (y : Int) := by omega
  simp [Instr.sliceBound, hv, asIntOf, h0, this]
theorem SR.bounds (hs : SR X φ st a w) {lo hi : Option Operand} {len cap : Nat} {isSl : Bool} {m : Nat} (hm : m ≤ cap) {KK : Nat → Nat → Prop}
    (h : boundA (hi.map (Ev.get st.s)) len fun h => h ≤ m ∧ boundA (lo.map (Ev.get st.s)) 0 fun l => l ≤ h ∧ KK h l) :
    ∃ l h, l ≤ h ∧ h ≤ m ∧ KK h l ∧ (Instr.sliceBounds isSl len cap (lo.map a.eval) (hi.map a.eval) none).run X.P w = .ok (l, h, cap) w := by
  obtain ⟨h', ⟨h1, h2⟩, h3⟩ := hs.bound h
  obtain ⟨l', ⟨l1, l2⟩, l3⟩ := hs.bound h2
  refine ⟨l', h', l1, h1, l2, ?_⟩
  have e1 : ∀ (code : BoundsCode), (match hi.map a.eval with | some v => Instr.sliceBound v cap code | none => pure len : Sem Nat).run X.P w = .ok h' w := by
    intro code
    rcases h3 with ⟨rfl, rfl⟩ | ⟨k, i, y, rfl, hy, h0, rfl⟩
    · rfl
    · exact run_sliceBound hy h0 (by omega) code w
  have e2 : ∀ (code : BoundsCode), (match lo.map a.eval with | some v => Instr.sliceBound v h' code | none => pure 0 : Sem Nat).run X.P w = .ok l' w := by
    intro code
    rcases l3 with ⟨rfl, rfl⟩ | ⟨k, i, y, rfl, hy, h0, rfl⟩
    · rfl
    · exact run_sliceBound hy h0 (by omega) code w
  cases hi <;> cases lo <;> simp only [Option.map_some, Option.map_none] at e1 e2 <;>
    simp only [Instr.sliceBounds, Option.map_some, Option.map_none, Sem.run_bind, Sem.run_pure, Result.andThen_ok, e1, e2]
  all_goals first
    | (have := e1 .index; have := e2 .index; simp only [Sem.run_pure] at *; simp_all; done)
    | (have := e1 .index; simp only [Sem.run_pure, Result.ok.injEq] at this; obtain ⟨rfl, _⟩ := this; simp [e2])
    | (have := e2 .index; simp only [Sem.run_pure, Result.ok.injEq] at this; obtain ⟨rfl, _⟩ := this; rfl)
theorem op_slice (hs : SR X φ st a w) {t : TypeId} {x : Operand} {lo hi mx : Option Operand} (ho : o.op = .slice t x lo hi mx)
    (h : sliceA X.P t st (get st.s x) (lo.map (get st.s)) (hi.map (get st.s)) (mx.map (get st.s)) fun r => K { st with s := putS st.s o.dst r }) : o.wp X.P a w (Nx X K) Q := by
  have hx := hs.get x
  obtain ⟨hmx, h⟩ := h
  have hmx' : mx = none := by cases mx <;> simp at hmx ⊢
  subst hmx'
  have he : execOp a.eval o = (do pure (.value (← Instr.sliceAt t (a.eval x) (lo.map a.eval) (hi.map a.eval) none)) : Sem Next) := by simp only [execOp, ho]; rfl
  split at h
  · rename_i b hg
    rw [hg] at hx
    simp only [rel] at hx
    obtain ⟨h1, h2⟩ := h
    obtain ⟨l, hh, q1, q2, q3, q4⟩ := hs.bounds (isSl := false) (len := b.data.toList.length) (cap := b.data.toList.length) (Nat.le_refl _) h2
    refine wp_yield hs he (u := .string (b.extract l hh)) (w' := w) ?_ (.inl rfl) (r := .v (.string ⟨((b.data.toList.take hh).drop l).toArray⟩)) ?_ q3
    · have e : b.data.toList.length = b.size := by simp
      rw [e] at q4
      simp only [Instr.sliceAt, Instr.slice, Sem.run_bind, run_underlying (strT_eq h1), Result.andThen_ok, hx]
      rw [if_neg (by simp)]
      simp only [Sem.run_bind, q4, Result.andThen_ok, Sem.run_pure]
    · have : b.extract l hh = ⟨((b.data.toList.take hh).drop l).toArray⟩ := by
        apply ByteArray.ext
        rw [ByteArray.data_extract]
        apply Array.ext'
        simp [List.extract_eq_take_drop, List.drop_take]
      rw [this]; exact rel_v _ _
  · rename_i b n m cs hg
    obtain ⟨e, sz, h1, h2, h3, h4⟩ := h
    rw [hg] at hx
    simp only [rel] at hx
    obtain ⟨r, off, cap, g1, g2, g3, g4, g5⟩ := hx
    obtain ⟨l, hh, q1, q2, q3, q4⟩ := hs.bounds (isSl := true) (len := n) (cap := cap) g3 h4
    refine wp_yield hs he (u := .slice (if cap = l then some ⟨r, off, none⟩ else some ⟨r, off + l * sz, none⟩) (hh - l) (cap - l)) (w' := w) ?_ (.inl rfl) (r := .sl b (hh - l) (m - l) (cs.drop (l * sz))) ?_ q3
    · simp only [Instr.sliceAt, Instr.slice, Sem.run_bind, run_underlying (elemT_eq h1), Result.andThen_ok, g1, q4, run_size h2]
      simp only [Option.map_some, Addr.add_lit]
      rfl
    · simp only [rel]
      refine ⟨r, if cap = l then off else off + l * sz, cap - l, by split <;> rfl, by omega, by omega, g4, ?_⟩
      split
      · rename_i hcl
        have : m * sz ≤ l * sz := Nat.mul_le_mul_right _ (by omega)
        have : cs.drop (l * sz) = [] := List.drop_eq_nil_of_le (by omega)
        rw [this]; simp only [relAt]
      · exact relAt_drop g5 _
  · rename_i i ver n hg
    obtain ⟨e, k, sz, h1, hsz, hk, hv, h2⟩ := h
    obtain ⟨β, cap, vs, fr, g1, g2, g3, g4, g5, g6, _⟩ := hs.own hg hk hv
    obtain ⟨l, hh, q1, q2, ⟨rfl, q3⟩, q4⟩ := hs.bounds (isSl := true) (len := n) (cap := cap) g2 h2
    refine wp_yield hs he (u := .slice (some ⟨β, 0, none⟩) (hh - 0) (cap - 0)) (w' := w) ?_ (.inl rfl) (r := .own i ver hh) ?_ q3
    · simp only [Instr.sliceAt, Instr.slice, Sem.run_bind, run_underlying (elemT_eq h1), Result.andThen_ok, g1, q4, run_size hsz]
      simp only [Option.map_some, Addr.add_lit, Nat.zero_mul, Nat.add_zero]
      simp
    · simp only [Nat.sub_zero]
      exact rel_own g5 hv (by omega) (by simp only [World.shape?, g6, g3])
  · rename_i hg
    obtain ⟨e, sz, h1, hsz, h2⟩ := h
    rw [hg] at hx
    simp only [rel] at hx
    obtain ⟨l, hh, q1, q2, q3, q4⟩ := hs.bounds (isSl := true) (len := 0) (cap := 0) (Nat.le_refl 0) h2
    obtain rfl : hh = 0 := by omega
    obtain rfl : l = 0 := by omega
    refine wp_yield hs he (u := .slice none 0 0) (w' := w) ?_ (.inl rfl) (rel_v _ _) q3
    simp only [Instr.sliceAt, Instr.slice, Sem.run_bind, run_underlying (elemT_eq h1), Result.andThen_ok, hx, q4, run_size hsz]
    rfl
  · exact h.elim
end
end Go.Ev
