import Derived.Test.YtpabcaldbphjmaaEvH
namespace Go.Ev
set_option linter.all false
open Go Go.RowKit
set_option linter.unusedVariables false
set_option linter.unusedSimpArgs false
section
variable {X : Fix} {φ : List Nat} {st : St} {a : Act} {w : World} {o : Oper} {Q : Exit → Act → World → Prop} {K : St → Prop}

theorem bytesOfA_spec {c : Cx} : ∀ {cs : List AV} {l : List UInt8} {us : List Value}, bytesOfA cs = some l → relL cs c us → ∃ ns : List Int, us = ns.map (Value.int .u8) ∧ ns.map (fun n => UInt8.ofNat n.toNat) = l
  | [], l, us, h, hr => by simp only [bytesOfA, Option.some.injEq] at h; simp only [relL] at hr; subst h; subst hr; exact ⟨[], rfl, rfl⟩
  | x :: cs, l, us, h, hr => by
    simp only [relL] at hr
    obtain ⟨u, us', rfl, h2, h3⟩ := hr
    unfold bytesOfA at h
    split at h
    · rename_i e; cases e
    · rename_i k l' e
      cases e
      cases hb : bytesOfA cs with
      | none => simp [hb] at h
      | some l2 =>
        simp [hb] at h
        subst h
        obtain ⟨ns, rfl, rfl⟩ := bytesOfA_spec hb h3
        simp only [rel] at h2
        subst h2
        exact ⟨k :: ns, rfl, rfl⟩
    · cases h
theorem run_bytesOf {P : Program} {src dst e : TypeId} (hs : P.underlying src = some (.slice e)) (he : P.underlying e = some (.int .u8)) (hd : P.underlying dst = some .string) {r off n cap : Nat} {cs : List AV} {c : Cx} (hw : c.w = w) (hc : relAt cs c r off) (hn : n ≤ cs.length) {l : List UInt8} (hl : bytesOfA (cs.take n) = some l) :
    (convert src dst (.slice (some ⟨r, off, none⟩) n cap)).run P w = .ok (.string ⟨l.toArray⟩) w := by
  obtain ⟨us, h1, h2⟩ := relAt_list (relAt_take hc n)
  obtain ⟨ns, rfl, rfl⟩ := bytesOfA_spec hl h1
  have hlen : ns.length = n := by have := relL_length h1; simp at this; omega
  have hrun := run_loadCells_at (P := P) (w := w) r off (ns.map (Value.int .u8)) (fun j u hj => by rw [← hw]; exact h2 j u hj)
  rw [List.length_map, hlen] at hrun
  have e1 : convert src dst (.slice (some ⟨r, off, none⟩) n cap) = convert src dst (.slice (some ⟨r, off, none⟩) n cap) := rfl
  simp only [convert, Sem.run_bind, run_underlying hs, run_underlying hd, run_underlying he, Result.andThen_ok]
  rw [run_bytesToString w _ n cap ns hrun]
  congr 2
  have : ∀ (ns : List Int) (s : ByteArray), ns.foldl (fun r n => r.push (UInt8.ofNat n.toNat)) s = ⟨s.data ++ (ns.map fun n => UInt8.ofNat n.toNat).toArray⟩ := by
    intro ns
    induction ns with
    | nil => intro s; simp
    | cons n ns ih => intro s; rw [List.foldl_cons, ih]; simp [ByteArray.push]
  rw [this]
  simp
theorem freeze_alloc (w : World) (vs : Array Value) (e : TypeId) (n : Nat) : (w.alloc (.cells vs e)).freeze ⟨w.heap.size, n, none⟩ 1 = w.alloc (.cells vs e (n, n + 1)) := by
  unfold World.freeze World.alloc
  simp only [if_neg (show ¬ (1 = 0) by decide)]
  congr 1
  apply Array.ext_getElem?
  intro i
  rw [Array.getElem?_modify]
  split
  · rename_i h; subst h; simp
  · rename_i h; simp only [Array.getElem?_push]; split <;> rename_i h2
    · exact absurd h2.symm h
    · rfl
theorem op_convert (hs : SR X φ st a w) {src dst : TypeId} {x : Operand} (ho : o.op = .convert src dst x)
    (h : convertA X.P src dst (get st.s x) st fun r s' => K { s' with s := putS s'.s o.dst r }) : o.wp X.P a w (Nx X K) Q := by
  have hx := hs.get x
  have he : execOp a.eval o = (do pure (.value (← convert src dst (a.eval x))) : Sem Next) := by simp only [execOp, ho]
  have some_of : ∀ {t : TypeId}, (X.P.underlying t).isSome = true → ∃ d, X.P.underlying t = some d := fun h => Option.isSome_iff_exists.1 h
  unfold convertA at h
  split at h
  · rename_i kk n hg
    rw [hg] at hx
    simp only [rel] at hx
    split at h
    · rename_i k hd
      obtain ⟨d, hsrc⟩ := some_of h.1
      refine wp_yield hs he (u := .int k (k.wrap n)) (w' := w) ?_ (.inl rfl) (rel_v _ _) h.2
      simp only [convert, Sem.run_bind, run_underlying hsrc, run_underlying hd, Result.andThen_ok, hx]
      rfl
    · rename_i hd
      obtain ⟨d, hsrc⟩ := some_of h.1
      refine wp_yield hs he (u := .float .f64 (FloatKind.f64.nearest n)) (w' := w) ?_ (.inl rfl) (rel_v _ _) h.2
      simp only [convert, Sem.run_bind, run_underlying hsrc, run_underlying hd, Result.andThen_ok, hx]
      rfl
    · rename_i hd
      obtain ⟨d, hsrc⟩ := some_of h.1
      refine wp_yield hs he (u := .string (Utf8.encode n)) (w' := w) ?_ (.inl rfl) (rel_v _ _) h.2
      simp only [convert, Sem.run_bind, run_underlying hsrc, run_underlying hd, Result.andThen_ok, hx]
      rfl
    · exact h.elim
  · rename_i b hg
    rw [hg] at hx
    simp only [rel] at hx
    split at h
    · rename_i hd
      obtain ⟨d, hsrc⟩ := some_of h.1
      refine wp_yield hs he (u := .string b) (w' := w) ?_ (.inl rfl) (rel_v _ _) (hg ▸ h.2)
      simp only [convert, Sem.run_bind, run_underlying hsrc, run_underlying hd, Result.andThen_ok, hx]
      rfl
    · rename_i e hd
      obtain ⟨h1, h2, h3, h4, hk⟩ := h
      have hsz : b.size = b.data.toList.length := by simp
      obtain ⟨vs, hvs⟩ : ∃ vs : Array Value, vs = b.data.map (fun c => Value.int .u8 c.toNat) ++ Array.replicate (grownCap w b.size 0 e - b.size) (.int .u8 0) := ⟨_, rfl⟩
      have hge := grownCap_ge w b.size 0 e
      have hvsz : vs.size = grownCap w b.size 0 e := by rw [hvs]; simp; omega
      have hbytes : relL (b.data.toList.map byteC) (cx X φ st.h w) (b.data.toList.map fun c => Value.int .u8 c.toNat) := by
        generalize b.data.toList = l
        induction l with
        | nil => simp [relL]
        | cons c l ih => simp only [List.map_cons, relL]; exact ⟨_, _, rfl, rel_v _ _, ih⟩
      refine wp_row hs he (w1 := w.drew) (.inr rfl) (vs := vs) (e := e) (fr := (vs.size, vs.size + 1)) (n := b.data.toList.length) (cap := grownCap w b.size 0 e) (cells := b.data.toList.map byteC) ?_ ?_ (fun off _ => by simp only; omega) (by rw [← hsz]; exact hge) (by rw [sizeT_cells h3, hvsz, Nat.mul_one]) hk
      · simp only [convert, Sem.run_bind, run_underlying (strT_eq h1), run_underlying hd, run_underlying (intT_eq h2), Result.andThen_ok, hx]
        simp only [Conv.stringToBytes, Sem.run_bind, run_choose, Question.forced, Bool.false_eq_true, if_false, Result.andThen_ok, newRow, run_newObj, Sem.run_pure, markStringish, run_shape]
        have hgc : (Question.appendCap b.size 0 e).cut (w.tape w.drawn (.appendCap b.size 0 e)) = grownCap w b.size 0 e := rfl
        rw [hgc, ← hvs]
        have hsh : ((w.drew).alloc (.cells vs e)).shape? w.heap.size = some (e, vs.size) := by
          have := heap_alloc_new w.drew (.cells vs e)
          simp only [World.size_drew] at this
          simp only [World.shape?, this]
        have e2 : (w.drew.alloc (.cells vs e)).freeze ⟨w.heap.size, vs.size, none⟩ 1 = w.drew.alloc (.cells vs e (vs.size, vs.size + 1)) := freeze_alloc w.drew vs e vs.size
        rw [← hsz, ← e2]
        show ((Sem.run X.P (match (w.drew.alloc (.cells vs e)).shape? w.heap.size with | some (_, n) => freeze ⟨w.heap.size, n, none⟩ 1 | _ => pure ()) (w.drew.alloc (.cells vs e))).andThen fun a w' => Result.ok (Value.slice (some ⟨w.heap.size, 0, none⟩) b.size (grownCap w b.size 0 e)) w') = _
        rw [hsh]
        rfl
      · rw [hvs]
        simp only [Array.toList_append, Array.toList_map, List.length_map]
        rw [List.take_append_of_le_length (by simp), List.take_of_length_le (by simp)]
        exact hbytes
    · exact h.elim
  · rename_i bb n m cs hg
    obtain ⟨h1, h2, h3, l, h4, hk⟩ := h
    rw [hg] at hx
    simp only [rel] at hx
    obtain ⟨r, off, cap, g1, g2, g3, g4, g5⟩ := hx
    cases hel : elemT X.P src with
    | none => simp [hel] at h2
    | some e =>
      have h2' : intT X.P e = some .u8 := by simpa [hel] using h2
      refine wp_yield hs he (u := .string ⟨l.toArray⟩) (w' := w) ?_ (.inl rfl) (rel_v _ _) hk
      rw [g1]
      exact run_bytesOf (elemT_eq hel) (intT_eq h2') (strT_eq h1) (c := (cx X φ st.h w).shut) rfl g5 h3 h4
  · rename_i i ver n hg
    obtain ⟨k, hk', hv, h1, h2, h3, l, h4, hk⟩ := h
    obtain ⟨β, cap, vs, fr, g1, g2, g3, g4, g5, g6, g7, g8, g9⟩ := hs.own hg hk' hv
    cases hel : elemT X.P src with
    | none => simp [hel] at h2
    | some e =>
      have h2' : intT X.P e = some .u8 := by simpa [hel] using h2
      refine wp_yield hs he (u := .string ⟨l.toArray⟩) (w' := w) ?_ (.inl rfl) (rel_v _ _) hk
      rw [g1]
      exact run_bytesOf (elemT_eq hel) (intT_eq h2') (strT_eq h1) (c := cx X φ st.h w) rfl g9 h3 h4
  · rename_i hg
    obtain ⟨h1, h2, hk⟩ := h
    rw [hg] at hx
    simp only [rel] at hx
    cases hel : elemT X.P src with
    | none => simp [hel] at h2
    | some e =>
      have h2' : intT X.P e = some .u8 := by simpa [hel] using h2
      refine wp_yield hs he (u := .string .empty) (w' := w) ?_ (.inl rfl) (rel_v _ _) hk
      simp only [convert, Sem.run_bind, run_underlying (elemT_eq hel), run_underlying (strT_eq h1), run_underlying (intT_eq h2'), Result.andThen_ok, hx]
      rfl
  · exact h.elim
end
end Go.Ev
