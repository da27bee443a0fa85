import Derived.Test.YtpabcaldbphjmaaEvK
namespace Go.Ev
set_option linter.all false
open Go Go.RowKit
set_option linter.unusedVariables false
set_option linter.unusedSimpArgs false
section
variable {X : Fix} {φ : List Nat} {st : St} {a : Act} {w : World} {o : Oper} {Q : Exit → Act → World → Prop} {K : St → Prop}

theorem aop_sound (hs : SR X φ st a w) (h : aop X.P o st K) : o.wp X.P a w (Nx X K) Q := by
  unfold aop at h
  split at h
  · rename_i x ho; exact op_move hs (.inl ho) h
  · rename_i x ho; exact op_move hs (.inr ho) h
  · rename_i c x y ho
    split at h
    · rename_i z hg; exact op_pick hs ho hg h.1 h.2
    · exact h.elim
  · rename_i t ho; obtain ⟨z, hz, hk⟩ := h; exact op_alloc hs ho hz hk
  · rename_i t x ho; obtain ⟨cs, hf, hk⟩ := h; exact op_box hs ho hf hk
  · rename_i t ps ho; exact op_build hs ho h
  · rename_i t n ps ho; exact op_buildSlice hs ho h
  · rename_i t x ho; exact op_load hs ho h
  · rename_i t x y ho; exact op_store hs ho h
  · rename_i x ho
    split at h
    · rename_i i ver off hg; exact op_nilCheck hs ho (.inl ⟨_, _, _, hg, h.1⟩) (hg ▸ h.2)
    · rename_i b cs hg; exact op_nilCheck hs ho (.inr ⟨_, _, hg⟩) (hg ▸ h)
    · exact h.elim
  · rename_i op t x y t2 ho; exact op_binOp hs ho h
  · rename_i op t x ho; exact op_unOp hs ho h
  · rename_i t1 t2 x ho; exact op_convert hs ho h
  · rename_i t x ho; exact op_makeInterface hs ho h.1 h.2
  · rename_i t x y ho; exact op_makeSlice hs ho h
  · rename_i t x lo hi mx ho; exact op_slice hs ho h
  · rename_i t x f ho; exact op_fieldAddr hs ho h
  · rename_i t x f ho
    split at h
    · rename_i cs hg; obtain ⟨off, ft, hf, hk⟩ := h; exact op_field hs ho hg hf hk
    · exact h.elim
  · rename_i t x y ho; exact op_indexAddr hs ho h
  · rename_i t x y ho; exact op_index hs ho h
  · rename_i x i ho
    split at h
    · rename_i cs hg; obtain ⟨y, hy, hk⟩ := h; exact op_extract hs ho hg hy hk
    · exact h.elim
  · rename_i c ho
    split at h
    · rename_i hc; obtain ⟨x, hx, hk⟩ := h; exact op_len hs ho hc hx hk
    · rename_i hc; obtain ⟨x, y, hxy, hk⟩ := h; exact op_append hs ho hc hxy hk
    · rename_i g hc; exact op_callF hs ho hc h.1 h.2
    · exact h.elim
  · exact h.elim

/-- What an exit leaves. -/
def Qx (X : Fix) (Q : Post) (e : Exit) (a : Act) (w : World) : Prop := ∃ φ st, SR X φ st a w ∧ Q e st

theorem aops_sound (ops : Array Oper) (Qn : Exit → Act → World → Prop) : ∀ (os : List Oper) (is : List Nat) {K : St → Prop} {φ : List Nat} {st : St} {a : Act} {w : World}, is.map (ops[·]?) = os.map some → SR X φ st a w → aops X.P ops os K st →
    (∀ a w, Nx X K a w → Qn .normal a w) → wpOps X.P ops Qn is a w
  | [], [], K, φ, st, a, w, _, hs, h, hq => hq _ _ ⟨φ, st, hs, h⟩
  | [], i :: is, _, _, _, _, _, he, _, _, _ => by simp at he
  | o :: os, [], _, _, _, _, _, he, _, _, _ => by simp at he
  | o :: os, i :: is, K, φ, st, a, w, he, hs, h, hq => by
    simp only [List.map_cons, List.cons.injEq] at he
    obtain ⟨hi, he⟩ := he
    have hrest : ∀ a' w', Nx X (aops X.P ops os K) a' w' → wpOps X.P ops Qn is a' w' := fun a' w' ⟨φ', st', hs', h'⟩ => aops_sound ops Qn os is he hs' h' hq
    simp only [wpOps, hi]
    simp only [aops, aop1] at h
    split at h
    · rename_i hg
      have hw : Region.wanted o (yielded ops a.tmps) = true := by simp [Region.wanted, hg]
      rw [if_pos hw]
      exact .inl (Oper.wp_mono hrest (aop_sound hs h))
    · rename_i j want hg
      split at h
      · rename_i z hz
        obtain ⟨h1, h2⟩ := h
        have hy : yielded ops a.tmps j = some z := by
          unfold guardA at hz
          split at hz
          · rename_i t ht
            unfold yielded
            rw [ht]
            have hr := hs.slots t
            rw [hz] at hr
            simp only [rel] at hr
            cases htm : a.tmps[t]? with
            | none => simp [htm, undef] at hr
            | some u =>
              simp [htm] at hr
              subst hr
              simp [htm]
          · cases hz
        by_cases hzw : z = want
        · have hw : Region.wanted o (yielded ops a.tmps) = true := by simp [Region.wanted, hg, hy, hzw]
          rw [if_pos hw]
          exact .inl (Oper.wp_mono hrest (aop_sound hs (h1 hzw)))
        · have hw : Region.wanted o (yielded ops a.tmps) = false := by simp [Region.wanted, hg, hy, hzw]
          rw [hw]
          exact hrest _ _ ⟨φ, _, hs.put o.dst (r := .bad) (u := undef) (by simp only [rel]), h2 hzw⟩
      · exact h.elim
theorem wp_loopR {P : Program} {c : Code} {Q : Exit → Act → World → Prop} (R : Nat → Act → World → Prop) {n : Nat} {a : Act} {w : World} (h₀ : R n a w)
    (round : ∀ n a w, R n a w → c.wp P (Exit.then (fun a' w' => ∃ m, m < n ∧ R m a' w') Q) a w) : (Code.loop c).wp P Q a w := by
  intro b k cs
  have key : ∀ n a w, R n a w → ∃ e a' w', Q e a' w' ∧ Arrives P (lone (b.at a (.code c :: .inLoop c :: k)) cs w) b k cs e a' w' := by
    intro n
    induction n using Nat.strongRecOn with
    | _ n ih =>
      intro a w hI
      obtain ⟨e, a₁, w₁, hq, harr⟩ := round n a w hI b (.inLoop c :: k) cs
      cases e with
      | normal =>
        obtain ⟨m, hlt, hm⟩ := hq
        obtain ⟨e₂, a₂, w₂, hq₂, harr₂⟩ := ih m hlt a₁ w₁ hm
        exact ⟨e₂, a₂, w₂, hq₂, .of_steps (Steps.trans harr (.one step_inLoop)) harr₂⟩
      | exit id => exact ⟨_, a₁, w₁, hq, .pass (x := .inLoop c) rfl (fun _ _ => .inl (by simp)) harr⟩
      | goto l => exact ⟨_, a₁, w₁, hq, .pass (x := .inLoop c) rfl (fun _ _ => .inl (by simp)) harr⟩
      | ret => exact ⟨_, a₁, w₁, hq, .pass (x := .inLoop c) rfl (fun _ _ => .inl (by simp)) harr⟩
      | panic ch => exact ⟨_, a₁, w₁, hq, .pass (x := .inLoop c) rfl (fun _ _ => .inl (by simp)) harr⟩
      | outgrown => exact ⟨_, a₁, w₁, hq, .pass (x := .inLoop c) rfl (fun _ _ => .inl (by simp)) harr⟩
  obtain ⟨e, a', w', hq, harr⟩ := key _ a w h₀
  exact ⟨e, a', w', hq, .of_steps (.one step_loop) harr⟩
theorem Qx_then {P1 : St → Prop} {Q : Post} {N : Act → World → Prop} (hn : ∀ a w, Nx X P1 a w → N a w) (e : Exit) (a : Act) (w : World) (h : Qx X (thenA P1 Q) e a w) : Exit.then N (Qx X Q) e a w := by
  obtain ⟨φ, st, hs, hq⟩ := h
  cases e with
  | normal => exact hn _ _ ⟨φ, st, hs, hq⟩
  | _ => exact ⟨φ, st, hs, hq⟩
theorem awp_sound : ∀ (c : Code) (Q : Post) {φ : List Nat} {st : St} {a : Act} {w : World}, SR X φ st a w → awp X.P c Q st → c.wp X.P (Qx X Q) a w
  | .skip, Q, φ, st, a, w, hs, h => wp_skip ⟨φ, st, hs, h⟩
  | .region id ops draw, Q, φ, st, a, w, hs, h => by
    obtain ⟨rfl, h⟩ := h
    refine wp_region (aops_sound ops _ ops.toList _ ?_ hs h (fun a w ⟨φ', st', hs', h'⟩ => ⟨φ', st', hs', h'⟩))
    apply List.ext_getElem?
    intro i
    simp only [List.getElem?_map]
    by_cases hi : i < ops.size
    · simp [hi]
    · rw [List.getElem?_eq_none (by simpa using hi), List.getElem?_eq_none (by simpa using hi)]; rfl
  | .seq x y, Q, φ, st, a, w, hs, h => by
    simp only [awp] at h
    refine wp_seq (wp_mono (awp_sound x _ hs h) fun e a w hq => Qx_then (fun a w ⟨φ', st', hs', h'⟩ => awp_sound y Q hs' h') e a w hq)
  | .cond c x y, Q, φ, st, a, w, hs, h => by
    simp only [awp] at h
    split at h
    · rename_i z hg
      have hc := hs.get c
      rw [hg] at hc
      simp only [rel] at hc
      exact wp_cond_split hc (fun e => awp_sound x Q hs (h.1 e)) (fun e => awp_sound y Q hs (h.2 e))
    · exact h.elim
  | .block id c, Q, φ, st, a, w, hs, h => by
    simp only [awp] at h
    refine wp_block (wp_mono (awp_sound c _ hs h) fun e a w hq => ?_)
    obtain ⟨φ', st', hs', hq⟩ := hq
    cases e with
    | exit j =>
      simp only [inBlockA] at hq
      simp only [Exit.inBlock]
      split <;> rename_i hj
      · rw [if_pos hj] at hq; exact ⟨φ', st', hs', hq⟩
      · rw [if_neg hj] at hq; exact ⟨φ', st', hs', hq⟩
    | _ => exact ⟨φ', st', hs', hq⟩
  | .loop c, Q, φ, st, a, w, hs, h => by
    simp only [awp] at h
    obtain ⟨I, μ, s0, hw, hI, hr⟩ := h
    obtain ⟨φ0, hs0⟩ := hs.weak hw
    -- the loop is come to in the weaker state
    refine wp_loopR (fun m a w => ∃ φ' st', SR X φ' st' a w ∧ I st' ∧ μ st' = m) (n := μ s0) ⟨φ0, s0, hs0, hI, rfl⟩ fun m a w ⟨φ1, s1, hs1, hI1, hm⟩ => ?_
    refine wp_mono (awp_sound c _ hs1 (hr s1 hI1)) fun e a w hq => Qx_then (fun a w ⟨φ2, s2, hs2, s3, hw3, hI3, hlt⟩ => ?_) e a w hq
    obtain ⟨φ3, hs3⟩ := hs2.weak hw3
    exact ⟨μ s3, by omega, φ3, s3, hs3, hI3, rfl⟩
  | .exit id, Q, φ, st, a, w, hs, h => wp_exit ⟨φ, st, hs, h⟩
  | .ret, Q, φ, st, a, w, hs, h => wp_ret ⟨φ, st, hs, h⟩
  | .label l, Q, φ, st, a, w, hs, h => wp_label ⟨φ, st, hs, h⟩
  | .goto l, Q, φ, st, a, w, hs, h => wp_goto ⟨φ, st, hs, h⟩
  | .rangeFunc .., Q, φ, st, a, w, hs, h => by simp only [awp] at h
  | .scope .., Q, φ, st, a, w, hs, h => by simp only [awp] at h
  | .refuse .., Q, φ, st, a, w, hs, h => by simp only [awp] at h

theorem loadA_run (hs : SR X φ st a w) {t : TypeId} {p : Nat} {KA : AV → Prop} (h : loadA X.P t st (look st.s.l p) KA) :
    ∃ x u ad, a.tmps.getD p undef = .pointer (some ad) ∧ (loadVar t ad).run X.P w = .ok u w ∧ rel x (cx X φ st.h w) u ∧ KA x := by
  have hx := hs.get (.tmp p)
  unfold loadA at h
  split at h
  · rename_i i ver off hg
    obtain ⟨k, hk, hv, ht⟩ := h
    obtain ⟨β, vs, fr, h1, h2, h3, h4, h5, h6⟩ := hs.at hk
    obtain ⟨k', β', g1, g2, g3⟩ := hs.ptr (x := .tmp p) hg ⟨k, hk, hv⟩
    rw [h2] at g2; cases g2
    obtain ⟨y, u, q1, q2, q3⟩ := run_takeA (c := cx X φ st.h w) (r := β) (off := off) ht (by simpa using relAt_drop h6 off)
    exact ⟨y, u, _, g1, q1, q2, q3⟩
  · rename_i b cs hg
    have hx' : rel (look st.s.l p) (cx X φ st.h w) (a.eval (.tmp p)) := hx
    rw [hg] at hx'
    simp only [rel] at hx'
    obtain ⟨r, off, g1, g2, g3⟩ := hx'
    obtain ⟨y, u, q1, q2, q3⟩ := run_takeA (c := cx X φ st.h w) h (relAt_shut g3 ⟨_, g2⟩)
    exact ⟨y, u, _, g1, q1, q2, q3⟩
  · exact h.elim
theorem resA_run (hs : SR X φ st a w) : ∀ (rs : List ResultVar) {KL : List AV → Prop}, resA X.P rs st KL →
    ∃ xs us, (rs.mapM (fun | .tmp t => pure (a.tmps.getD t undef) | .cell p t => do loadVar t (← asAddr (a.tmps.getD p undef)) : ResultVar → Sem Value)).run X.P w = .ok us w ∧ relL xs (cx X φ st.h w) us ∧ KL xs
  | [], KL, h => ⟨[], [], rfl, by simp only [relL], h⟩
  | .tmp t :: rs, KL, h => by
    obtain ⟨xs, us, h1, h2, h3⟩ := resA_run hs rs h
    refine ⟨_, a.tmps.getD t undef :: us, ?_, ?_, h3⟩
    · simp only [List.mapM_cons, Sem.run_bind, Sem.run_pure, Result.andThen_ok, h1]
    · simp only [relL]; exact ⟨_, us, rfl, hs.get (.tmp t), h2⟩
  | .cell p t :: rs, KL, h => by
    obtain ⟨x, u, ad, g1, g2, g3, g4⟩ := loadA_run hs h
    obtain ⟨xs, us, h1, h2, h3⟩ := resA_run hs rs g4
    refine ⟨x :: xs, u :: us, ?_, ?_, h3⟩
    · have e : (asAddr (a.tmps.getD p undef)).run X.P w = .ok ad w := by rw [g1]; rfl
      simp only [List.mapM_cons, Sem.run_bind, Sem.run_pure, Result.andThen_ok, h1, e, g2]
    · simp only [relL]; exact ⟨u, us, rfl, g3, h2⟩
end

/-- A function's contract out of what its code does to the abstract state. -/
theorem Ev.of_wp {P : Program} {f : FuncId} {fn : Func} {c : Code} {args : List AV} {res : AV} (hf : P.funcs[f]? = some fn) (hb : fn.body = some c)
    (h : ∀ (X : Fix), X.P = P → ∀ {a : Act} {w : World}, SR X [] (startA args fn.ntmps) a w → c.wp P (Qx X (endA P fn.results.toList res)) a w) : Ev P f args res := by
  intro G B w vs hG hargs
  let X : Fix := { P, G, B := fun r => B r ∧ r < w.heap.size, w0 := w, hG, hB := fun r h => h.2 }
  have hargs' : relL args (cx X [] [] w) vs.toList := relL_mono (c := cx0 P G B w) (c' := cx X [] [] w) ⟨rfl, fun b r ⟨h1, h2⟩ => ⟨h1, by simp, by cases b; exact h2; exact ⟨h2, h1⟩⟩, fun _ _ _ _ _ h => h, fun _ _ _ h => by cases h⟩ _ _ hargs
  have hl : vs.size = args.length := by have := relL_length hargs; simpa using this
  have hs : SR X [] (startA args fn.ntmps) { tmps := vs ++ Array.replicate (fn.ntmps - vs.size) undef, defers := [] } w :=
    { below := Below.refl _ _, defers := rfl, slots := fun t => by
        have key : ∀ (xs : List AV) (us : List Value) (i : Nat), relL xs (cx X [] [] w) us → look (idxL i xs) (i + t) = .bad ∨ ∃ u, us[t]? = some u ∧ rel (look (idxL i xs) (i + t)) (cx X [] [] w) u := by
          induction t with
          | zero =>
            intro xs us i h
            cases xs with
            | nil => exact .inl rfl
            | cons x xs =>
              simp only [relL] at h
              obtain ⟨u, us', rfl, h2, _⟩ := h
              exact .inr ⟨u, rfl, by simpa [idxL, look] using h2⟩
          | succ t ih =>
            intro xs us i h
            cases xs with
            | nil => exact .inl rfl
            | cons x xs =>
              simp only [relL] at h
              obtain ⟨u, us', rfl, _, h3⟩ := h
              have := ih xs us' (i + 1) h3
              rw [show i + (t + 1) = i + 1 + t by omega]
              simp only [idxL, look]
              rw [if_neg (by omega)]
              simpa using this
        have := key args vs.toList 0 hargs'
        simp only [Nat.zero_add] at this
        simp only [startA]
        rcases this with h | ⟨u, hu, h⟩
        · rw [h]; simp only [rel]
        · have hu' : vs[t]? = some u := by simpa using hu
          have hlt := (Array.getElem?_eq_some_iff.1 hu').1
          simpa [Array.getElem?_append_left hlt, hu'] using h
      len := by simp [startA, hl], φlen := rfl, nodup := List.nodup_nil, rng := fun _ h => by simp at h, blk := fun i k β h => by simp [startA] at h }
  refine calls_of_wp hf hb (wp_mono (h X rfl hs) fun e a w' hq => ?_)
  obtain ⟨φ, st, hs', hq⟩ := hq
  have fin : (resA P fn.results.toList st fun xs => fz P st.h false res (oneOrTup xs)) → a.defers = [] ∧ ∃ v, (results fn a.tmps).run P w' = .ok v w' ∧ ∃ u, Ending.returned v = .returned u ∧ rel res (cx0 P G B w') u ∧ Below w.heap.size w w' := by
    intro hr
    obtain ⟨xs, us, h1, h2, h3⟩ := resA_run (X := X) hs' fn.results.toList hr
    refine ⟨hs'.defers, if h : us.toArray.size = 1 then us.toArray[0] else .tuple us.toArray, ?_, _, rfl, ?_, hs'.below⟩
    · unfold results
      rw [Sem.run_bind]
      have e : (fn.results.mapM fun | .tmp t => pure (a.tmps.getD t undef) | .cell p t => do loadVar t (← asAddr (a.tmps.getD p undef)) : Sem (Array Value)).run P w' = .ok us.toArray w' := by
        rw [Array.mapM_eq_mapM_toList, Sem.run_map, h1]
        rfl
      exact (congrArg (fun r => Result.andThen r _) e).trans rfl
    · have hrel : rel (oneOrTup xs) (cx X φ st.h w') (if h : us.toArray.size = 1 then us.toArray[0] else .tuple us.toArray) := by
        have hlen := relL_length h2
        match xs, us, h2, hlen with
        | [x], [u], h2, _ =>
          simp only [relL] at h2
          obtain ⟨u', us', e, hr, _⟩ := h2
          cases e
          exact hr
        | [], [], h2, _ =>
          simp only [oneOrTup, rel]
          exact ⟨#[], rfl, h2⟩
        | x :: y :: xs, u :: v :: us, h2, _ =>
          simp only [oneOrTup, rel]
          refine ⟨(u :: v :: us).toArray, ?_, h2⟩
          rw [dif_neg (by simp)]
        | [], _ :: _, _, hl => simp at hl
        | _ :: _, [], _, hl => simp at hl
        | [_], _ :: _ :: _, _, hl => simp at hl
        | _ :: _ :: _, [_], _, hl => simp at hl
      refine rel_fz (X := X) (b0 := false) (ok' := (cx0 P G B w').ok) hs' (fun b r ⟨h1, h2, h3⟩ => ⟨h1, ?_⟩) (fun β hβ => ⟨(hs'.rng β hβ).2, fun hg => ?_⟩) res _ _ h3 hrel
      · cases b
        · exact h3
        · exact h3.1
      · have := (hs'.rng β hβ).1
        have := hG β hg
        exact absurd this (by show ¬ β < w.heap.size; have : w.heap.size ≤ β := (hs'.rng β hβ).1; omega)
  cases e with
  | normal => exact fin hq
  | ret => exact fin hq
  | _ => exact hq.elim
theorem Ev.of_awp {P : Program} {f : FuncId} {fn : Func} {c : Code} {args : List AV} {res : AV} (hf : P.funcs[f]? = some fn) (hb : fn.body = some c)
    (h : awp P c (endA P fn.results.toList res) (startA args fn.ntmps)) : Ev P f args res :=
  Ev.of_wp hf hb fun X hP _ _ hs => by subst hP; exact awp_sound c _ hs h
end Go.Ev
