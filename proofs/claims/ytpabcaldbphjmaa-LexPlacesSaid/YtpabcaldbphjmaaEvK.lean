import Derived.Test.YtpabcaldbphjmaaEvJ
namespace Go.Ev
set_option linter.all false
open Go Go.RowKit
set_option linter.unusedVariables false
set_option linter.unusedSimpArgs false

mutual
theorem rel_tree {c c' : Cx} (hP : c'.P = c.P) (hw : c'.w = c.w) (hok : ∀ b r, c.ok b r → c'.ok b r) : ∀ (x : AV) (u : Value), treeA x = true → rel x c u → rel x c' u
  | .v _, _, _, hr => by simp only [rel] at hr ⊢; exact hr
  | .nan, _, _, hr => by simp only [rel] at hr ⊢; exact hr
  | .sl b m m' cs, u, _, hr => by
    simp only [rel] at hr ⊢
    obtain ⟨r, off, cap, h1, h2, h3, h4, h5⟩ := hr
    exact ⟨r, off, cap, h1, h2, h3, hok _ _ h4, relAt_mono (c := c.shut) (c' := c'.shut) ⟨hP, hok, fun _ _ _ _ _ h => by show c'.w.cell? _ = _; rw [hw]; exact h, fun _ _ _ h => by cases h⟩ cs r off ⟨b, h4⟩ h5⟩
  | .ela b cs, u, _, hr => by
    simp only [rel] at hr ⊢
    obtain ⟨r, off, h1, h4, h5⟩ := hr
    exact ⟨r, off, h1, hok _ _ h4, relAt_mono (c := c.shut) (c' := c'.shut) ⟨hP, hok, fun _ _ _ _ _ h => by show c'.w.cell? _ = _; rw [hw]; exact h, fun _ _ _ h => by cases h⟩ cs r off ⟨b, h4⟩ h5⟩
  | .agg cs, u, ho, hr => by
    simp only [rel] at hr ⊢
    obtain ⟨us, h1, h2⟩ := hr
    exact ⟨us, h1, relL_tree hP hw hok cs _ (by simpa [treeA] using ho) h2⟩
  | .tup cs, u, ho, hr => by
    simp only [rel] at hr ⊢
    obtain ⟨us, h1, h2⟩ := hr
    exact ⟨us, h1, relL_tree hP hw hok cs _ (by simpa [treeA] using ho) h2⟩
  | .ifc t x, u, ho, hr => by
    simp only [rel] at hr ⊢
    obtain ⟨y, h1, h2⟩ := hr
    exact ⟨y, h1, rel_tree hP hw hok x _ (by simpa [treeA] using ho) h2⟩
  | .own i ver m, u, ho, hr => by simp [treeA] at ho
  | .ptr i ver off, u, ho, hr => by simp [treeA] at ho
  | .bad, _, _, _ => by simp only [rel]
theorem relL_tree {c c' : Cx} (hP : c'.P = c.P) (hw : c'.w = c.w) (hok : ∀ b r, c.ok b r → c'.ok b r) : ∀ (xs : List AV) (us : List Value), treeL xs = true → relL xs c us → relL xs c' us
  | [], _, _, hr => by simp only [relL] at hr ⊢; exact hr
  | x :: xs, us, ho, hr => by
    have ho' : treeA x = true ∧ treeL xs = true := by simpa [treeL] using ho
    simp only [relL] at hr ⊢
    obtain ⟨u, us', h1, h2, h3⟩ := hr
    exact ⟨u, us', h1, rel_tree hP hw hok x _ ho'.1 h2, relL_tree hP hw hok xs _ ho'.2 h3⟩
end
mutual
theorem rel_noBor {c c' : Cx} (hP : c'.P = c.P) (hw : c'.w = c.w) (hok : ∀ r, c.ok false r → c'.ok false r) (hcur : ∀ i, c.cur i = none) : ∀ (x : AV) (u : Value), noBor x = true → rel x c u → rel x c' u
  | .v _, _, _, hr => by simp only [rel] at hr ⊢; exact hr
  | .nan, _, _, hr => by simp only [rel] at hr ⊢; exact hr
  | .sl b m m' cs, u, ho, hr => by
    have ho' : b = false ∧ noBorL cs = true := by simpa [noBor] using ho
    obtain ⟨rfl, ho2⟩ := ho'
    simp only [rel] at hr ⊢
    obtain ⟨r, off, cap, h1, h2, h3, h4, h5⟩ := hr
    exact ⟨r, off, cap, h1, h2, h3, hok _ h4, relAt_noBor (c := c.shut) (c' := c'.shut) hP hw hok (fun _ => rfl) cs r off ho2 h5⟩
  | .ela b cs, u, ho, hr => by
    have ho' : b = false ∧ noBorL cs = true := by simpa [noBor] using ho
    obtain ⟨rfl, ho2⟩ := ho'
    simp only [rel] at hr ⊢
    obtain ⟨r, off, h1, h4, h5⟩ := hr
    exact ⟨r, off, h1, hok _ h4, relAt_noBor (c := c.shut) (c' := c'.shut) hP hw hok (fun _ => rfl) cs r off ho2 h5⟩
  | .agg cs, u, ho, hr => by
    simp only [rel] at hr ⊢
    obtain ⟨us, h1, h2⟩ := hr
    exact ⟨us, h1, relL_noBor hP hw hok hcur cs _ (by simpa [noBor] using ho) h2⟩
  | .tup cs, u, ho, hr => by
    simp only [rel] at hr ⊢
    obtain ⟨us, h1, h2⟩ := hr
    exact ⟨us, h1, relL_noBor hP hw hok hcur cs _ (by simpa [noBor] using ho) h2⟩
  | .ifc t x, u, ho, hr => by
    simp only [rel] at hr ⊢
    obtain ⟨y, h1, h2⟩ := hr
    exact ⟨y, h1, rel_noBor hP hw hok hcur x _ (by simpa [noBor] using ho) h2⟩
  | .own i ver m, u, ho, hr => by
    simp only [rel] at hr
    obtain ⟨k, β, h, _⟩ := hr
    rw [hcur] at h; cases h
  | .ptr i ver off, u, ho, hr => by
    simp only [rel] at hr
    obtain ⟨k, β, h, _⟩ := hr
    rw [hcur] at h; cases h
  | .bad, _, _, _ => by simp only [rel]
theorem relL_noBor {c c' : Cx} (hP : c'.P = c.P) (hw : c'.w = c.w) (hok : ∀ r, c.ok false r → c'.ok false r) (hcur : ∀ i, c.cur i = none) : ∀ (xs : List AV) (us : List Value), noBorL xs = true → relL xs c us → relL xs c' us
  | [], _, _, hr => by simp only [relL] at hr ⊢; exact hr
  | x :: xs, us, ho, hr => by
    have ho' : noBor x = true ∧ noBorL xs = true := by simpa [noBorL] using ho
    simp only [relL] at hr ⊢
    obtain ⟨u, us', h1, h2, h3⟩ := hr
    exact ⟨u, us', h1, rel_noBor hP hw hok hcur x _ ho'.1 h2, relL_noBor hP hw hok hcur xs _ ho'.2 h3⟩
theorem relAt_noBor {c c' : Cx} (hP : c'.P = c.P) (hw : c'.w = c.w) (hok : ∀ r, c.ok false r → c'.ok false r) (hcur : ∀ i, c.cur i = none) : ∀ (xs : List AV) (r off : Nat), noBorL xs = true → relAt xs c r off → relAt xs c' r off
  | [], _, _, _, hr => by simp only [relAt] at hr ⊢
  | x :: xs, r, off, ho, hr => by
    have ho' : noBor x = true ∧ noBorL xs = true := by simpa [noBorL] using ho
    simp only [relAt] at hr ⊢
    obtain ⟨⟨u, h1, h2⟩, h3⟩ := hr
    exact ⟨⟨u, by rw [hw]; exact h1, rel_noBor hP hw hok hcur x _ ho'.1 h2⟩, relAt_noBor hP hw hok hcur xs r (off + 1) ho'.2 h3⟩
end

section
variable {X : Fix} {φ : List Nat} {st : St} {a : Act} {w : World} {o : Oper} {Q : Exit → Act → World → Prop} {K : St → Prop}

mutual
/-- What is told as frozen (or lent) reads so under a context that allows the blocks of the call's own. -/
theorem rel_fz {b0 : Bool} {ok' : Bool → Nat → Prop} (hs : SR X φ st a w) (hok : ∀ b r, (cx X φ st.h w).ok b r → ok' b r) (hown : ∀ β ∈ φ, ok' b0 β) : ∀ (y x : AV) (u : Value), fz X.P st.h b0 y x → rel x (cx X φ st.h w) u → rel y ⟨X.P, ok', fun _ => none, w⟩ u
  | .v _, x, u, hf, hr => by simp only [fz] at hf; subst hf; simp only [rel] at hr ⊢; exact hr
  | .nan, x, u, hf, hr => by simp only [fz] at hf; subst hf; simp only [rel] at hr ⊢; exact hr
  | .bad, _, _, _, _ => by simp only [rel]
  | .ela _ _, _, _, hf, _ => by simp only [fz] at hf
  | .own _ _ _, _, _, hf, _ => by simp only [fz] at hf
  | .ptr _ _ _, _, _, hf, _ => by simp only [fz] at hf
  | .agg ys, x, u, hf, hr => by
    simp only [fz] at hf
    obtain ⟨xs, rfl, hf⟩ := hf
    simp only [rel] at hr ⊢
    obtain ⟨us, h1, h2⟩ := hr
    exact ⟨us, h1, relL_fz hs hok hown ys xs _ hf h2⟩
  | .tup ys, x, u, hf, hr => by
    simp only [fz] at hf
    obtain ⟨xs, rfl, hf⟩ := hf
    simp only [rel] at hr ⊢
    obtain ⟨us, h1, h2⟩ := hr
    exact ⟨us, h1, relL_fz hs hok hown ys xs _ hf h2⟩
  | .ifc t y, x, u, hf, hr => by
    simp only [fz] at hf
    obtain ⟨x', rfl, hf⟩ := hf
    simp only [rel] at hr ⊢
    obtain ⟨z, h1, h2⟩ := hr
    exact ⟨z, h1, rel_fz hs hok hown y x' _ hf h2⟩
  | .sl b n m ys, x, u, hf, hr => by
    simp only [fz] at hf
    rcases hf with rfl | ⟨rfl, i, k, xs, rfl, hk, hnm, hm, hpre, hf⟩
    · exact rel_tree (c := cx X φ st.h w) (c' := ⟨X.P, ok', fun _ => none, w⟩) rfl rfl hok _ _ rfl hr
    · obtain ⟨β, vs, fr, g1, g2, g3, g4, g5, g6⟩ := hs.at hk
      simp only [rel] at hr ⊢
      obtain ⟨k', β', q1, q2, q3, q4⟩ := hr
      have : curOf φ st.h i = some (k', β') := q1
      rw [g2] at this; cases this
      obtain ⟨cap, rfl, hcap, hsh⟩ := q4 rfl
      have hsh' : w.shape? β = some (k.e, cap * X.P.cellsOf k.e) := hsh
      simp only [World.shape?, g3, Option.some.injEq, Prod.mk.injEq, true_and] at hsh'
      refine ⟨β, 0, cap, rfl, hnm, ?_, hown β (List.mem_of_getElem? g1), ?_⟩
      · rcases hm with rfl | ⟨h0, hm⟩
        · exact hcap
        · have : m * X.P.cellsOf k.e ≤ cap * X.P.cellsOf k.e := by omega
          exact Nat.le_of_mul_le_mul_right this h0
      · obtain ⟨t, ht⟩ := hpre
        have hpx : relAt xs (cx X φ st.h w) β 0 := by
          refine relAt_of_get fun j z hz => relAt_get g6 j z ?_
          rw [← ht, List.getElem?_append_left (List.getElem?_eq_some_iff.1 hz).1]; exact hz
        exact relAt_fz hs hok hown ys xs β 0 hf hpx
theorem relL_fz {b0 : Bool} {ok' : Bool → Nat → Prop} (hs : SR X φ st a w) (hok : ∀ b r, (cx X φ st.h w).ok b r → ok' b r) (hown : ∀ β ∈ φ, ok' b0 β) : ∀ (ys xs : List AV) (us : List Value), fzL X.P st.h b0 ys xs → relL xs (cx X φ st.h w) us → relL ys ⟨X.P, ok', fun _ => none, w⟩ us
  | [], xs, us, hf, hr => by simp only [fzL] at hf; subst hf; simp only [relL] at hr ⊢; exact hr
  | y :: ys, xs, us, hf, hr => by
    simp only [fzL] at hf
    obtain ⟨x, xs', rfl, h1, h2⟩ := hf
    simp only [relL] at hr ⊢
    obtain ⟨u, us', rfl, h3, h4⟩ := hr
    exact ⟨u, us', rfl, rel_fz hs hok hown y x u h1 h3, relL_fz hs hok hown ys xs' us' h2 h4⟩
theorem relAt_fz {b0 : Bool} {ok' : Bool → Nat → Prop} (hs : SR X φ st a w) (hok : ∀ b r, (cx X φ st.h w).ok b r → ok' b r) (hown : ∀ β ∈ φ, ok' b0 β) : ∀ (ys xs : List AV) (r off : Nat), fzL X.P st.h b0 ys xs → relAt xs (cx X φ st.h w) r off → relAt ys (Cx.shut ⟨X.P, ok', fun _ => none, w⟩) r off
  | [], xs, _, _, hf, hr => by simp only [relAt]
  | y :: ys, xs, r, off, hf, hr => by
    simp only [fzL] at hf
    obtain ⟨x, xs', rfl, h1, h2⟩ := hf
    simp only [relAt] at hr ⊢
    obtain ⟨⟨u, h3, h4⟩, h5⟩ := hr
    exact ⟨⟨u, h3, rel_fz hs hok hown y x u h1 h4⟩, relAt_fz hs hok hown ys xs' r (off + 1) h2 h5⟩
end
theorem relL_map_get (hs : SR X φ st a w) : ∀ xs : List Operand, relL (xs.map (Ev.get st.s)) (cx X φ st.h w) (xs.map a.eval)
  | [] => by simp [relL]
  | x :: xs => by simp only [List.map_cons, relL]; exact ⟨_, _, rfl, hs.get x, relL_map_get hs xs⟩
theorem op_callF (hs : SR X φ st a w) {c : Call} (ho : o.op = .call c) {g : FuncId} (hc : c.callee = .value (.func g)) (hfn : ∃ fn, X.P.funcs[g]? = some fn ∧ fn.body.isSome = true ∧ (fn.name == "runtime.NumGoroutine") = false)
    (h : callA X.P st g (c.args.toList.map (get st.s)) fun r => K { st with s := putS st.s o.dst r }) : o.wp X.P a w (Nx X K) Q := by
  obtain ⟨fn, hf, hb, hn⟩ := hfn
  have hrun : (execOp a.eval o).run X.P w = .ok (.enter g (c.args.map a.eval)) w := by
    have hb' : ¬ fn.body = none := by cases hq : fn.body <;> simp [hq] at hb ⊢
    have hn' : ¬ fn.name = "runtime.NumGoroutine" := by simpa using hn
    simp [execOp, ho, resolve, hc, Deferred.ofValue, Act.eval, invoke, callFunc, hf, hn', hb']
  unfold Oper.wp
  rw [hrun]
  simp only [Oper.upon]
  obtain ⟨ys, r, hys, hev, hk⟩ := h
  have hargs : relL (c.args.toList.map (get st.s)) (cx X φ st.h w) (c.args.map a.eval).toList := by
    rw [Array.toList_map]; exact relL_map_get hs _
  have hsub : ∀ β ∈ φ, β < w.heap.size := fun β hβ => (hs.rng β hβ).2
  have hw0 := hs.below.size
  rcases hys with ⟨rfl, htr⟩ | ⟨hfz, hnb⟩
  · refine (hev (fun r => r < w.heap.size ∧ (X.G r ∨ r ∈ φ)) X.B w (c.args.map a.eval) (fun r h => h.1) ?_).mono fun e w' ⟨u, he, hr, hbel⟩ => ?_
    · refine relL_tree (c := cx X φ st.h w) (c' := cx0 X.P (fun r => r < w.heap.size ∧ (X.G r ∨ r ∈ φ)) X.B w) rfl rfl (fun b r ⟨h1, h2, h3⟩ => ⟨h1, ?_⟩) _ _ htr hargs
      cases b
      · exact fun ⟨_, h⟩ => h.elim h3 h2
      · exact h3
    · subst he
      have hs' := hs.world hbel
      refine ⟨φ, _, hs'.put o.dst (r := r) ?_, hk⟩
      refine rel_mono (c := cx0 X.P (fun r => r < w.heap.size ∧ (X.G r ∨ r ∈ φ)) X.B w') (c' := cx X φ st.h w') ⟨rfl, fun b r ⟨h1, h2⟩ => ?_, fun _ _ _ _ _ h => h, fun _ _ _ h => by cases h⟩ r u hr
      cases b
      · have h2' : ¬ (r < w.heap.size ∧ (X.G r ∨ r ∈ φ)) := h2
        refine ⟨h1, fun hm => h2' ⟨hsub r hm, .inr hm⟩, fun hG => h2' ⟨by have := X.hG r hG; omega, .inl hG⟩⟩
      · have h2' : X.B r := h2
        exact ⟨h1, fun hm => by have := (hs.rng r hm).1; have := X.hB r h2'; omega, h2'⟩
  · refine (hev (fun r => r < w.heap.size ∧ (X.G r ∨ r ∈ φ)) (fun r => X.B r ∨ r ∈ φ) w (c.args.map a.eval) (fun r h => h.1) ?_).mono fun e w' ⟨u, he, hr, hbel⟩ => ?_
    · refine relL_fz (b0 := true) (ok' := (cx0 X.P (fun r => r < w.heap.size ∧ (X.G r ∨ r ∈ φ)) (fun r => X.B r ∨ r ∈ φ) w).ok) hs (fun b r ⟨h1, h2, h3⟩ => ⟨h1, ?_⟩) (fun β hβ => ⟨hsub β hβ, .inr hβ⟩) ys _ _ hfz hargs
      cases b
      · exact fun ⟨_, h⟩ => h.elim h3 h2
      · exact .inl h3
    · subst he
      have hs' := hs.world hbel
      refine ⟨φ, _, hs'.put o.dst (r := r) ?_, hk⟩
      refine rel_noBor (c := cx0 X.P (fun r => r < w.heap.size ∧ (X.G r ∨ r ∈ φ)) (fun r => X.B r ∨ r ∈ φ) w') (c' := cx X φ st.h w') rfl rfl (fun r ⟨h1, h2⟩ => ?_) (fun _ => rfl) r u hnb hr
      have h2' : ¬ (r < w.heap.size ∧ (X.G r ∨ r ∈ φ)) := h2
      refine ⟨h1, fun hm => h2' ⟨hsub r hm, .inr hm⟩, fun hG => h2' ⟨by have := X.hG r hG; omega, .inl hG⟩⟩
end
end Go.Ev
