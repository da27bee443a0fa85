/- Contracts of the functions that the law reaches. -/
import Derived.Test.YtlobiioioicmhaaGreatDoorQA
import Derived.Test.YtlobiioioicmhaaGreatDoorQB
/- The document's text of a value, and its reader, walked. -/
namespace Go.Proofs.YtlobiioioicmhaaGreatDoor
set_option linter.all false
open Go Go.Ev
set_option maxRecDepth 20000
variable {γ : List (Nat × AV)}
theorem c55 : bodyT Tryz.prog 55 := ⟨_, Tryz.func55, by kernel_rfl, by kernel_rfl⟩
theorem c53 : bodyT Tryz.prog 53 := ⟨_, Tryz.func53, by kernel_rfl, by kernel_rfl⟩
theorem c13 : bodyT Tryz.prog 13 := ⟨_, Tryz.func13, by kernel_rfl, by kernel_rfl⟩
set_option maxHeartbeats 4000000 in
set_option maxRecDepth 20000 in
theorem rprint_ev (v : VD) (hv : okV v) : Ev Tryz.prog γ 55 [vA v] (.v (.string ⟨(printF v).toArray⟩)) := by
  refine Ev.of Tryz.func55 rfl ?_
  have km := rmay_ev (γ := γ) v
  obtain ⟨g1, g2, g3, g4, g5⟩ := hv
  obtain ⟨k, n, x, a, b, t⟩ := v
  simp only at g1 g2 g3 g4 g5
  cases hm : mayF ⟨k, n, x, a, b, t⟩ with
  | false =>
    have e : printF ⟨k, n, x, a, b, t⟩ = [] := by unfold printF; rw [if_pos hm]
    rw [e]
    rw [hm] at km
    simp only [vA, vC] at km ⊢
    simp only [Tryz.f55, tyV, evS, tyS, Bool.not_true, Bool.not_false, Nat.reduceAdd, Nat.reduceSub, Nat.reduceMul, Nat.reduceLT, Nat.reduceLeDiff, Nat.reduceEqDiff, reduceCtorEq, List.reduceReplicate, Int.reduceToNat, Int.reduceLE, Int.reduceLT]
    refine CallK.intro c54 rfl km ?_
    simp only [tyV, evS, tyS, Bool.not_true, Bool.not_false, Nat.reduceAdd, Nat.reduceSub, Nat.reduceMul, Nat.reduceLT, Nat.reduceLeDiff, Nat.reduceEqDiff, reduceCtorEq, List.reduceReplicate, Int.reduceToNat, Int.reduceLE, Int.reduceLT]
    all_goals first | done | rfl | trace_state
  | true =>
    have hp : printF ⟨k, n, x, a, b, t⟩ = if k = 1 then Lib.itoa n else if k = 2 then measF x
      else if k = 3 then (((40 :: measF a) ++ [44]) ++ measF b) ++ [41] else if k = 4 then quotF t else boolS (n == 1) := by unfold printF; rw [if_neg (by rw [hm]; simp)]
    rw [hp]
    rw [hm] at km
    have hmay : (if k = 1 ∨ k = 2 ∨ k = 3 then true else if k = 4 then decide (t.length ≤ 256) else if k = 5 then (n == 0) || (n == 1) else false) = true := hm
    simp only [vA, vC] at km ⊢
    simp only [Tryz.f55, tyV, evS, tyS, Bool.not_true, Bool.not_false, Nat.reduceAdd, Nat.reduceSub, Nat.reduceMul, Nat.reduceLT, Nat.reduceLeDiff, Nat.reduceEqDiff, reduceCtorEq, List.reduceReplicate, Int.reduceToNat, Int.reduceLE, Int.reduceLT]
    refine CallK.intro c54 rfl km ?_
    by_cases h1 : k = 1
    · subst h1
      rw [if_pos rfl]
      have z : ((1 : Int) == 1) = true := rfl
      simp only [tyV, z, evS, tyS, Bool.not_true, Bool.not_false, Nat.reduceAdd, Nat.reduceSub, Nat.reduceMul, Nat.reduceLT, Nat.reduceLeDiff, Nat.reduceEqDiff, reduceCtorEq, List.reduceReplicate, Int.reduceToNat, Int.reduceLE, Int.reduceLT]
      refine CallK.intro c108 rfl (whole_ev n g1 g2) ?_
      simp only [tyV, z, evS, tyS, Bool.not_true, Bool.not_false, Nat.reduceAdd, Nat.reduceSub, Nat.reduceMul, Nat.reduceLT, Nat.reduceLeDiff, Nat.reduceEqDiff, reduceCtorEq, List.reduceReplicate, Int.reduceToNat, Int.reduceLE, Int.reduceLT]
      all_goals first | done | rfl | trace_state
    · have z1 := beq_f h1
      rw [if_neg h1]
      by_cases h2 : k = 2
      · subst h2
        rw [if_pos rfl]
        have z : ((2 : Int) == 2) = true := rfl
        simp only [tyV, z1, z, evS, tyS, Bool.not_true, Bool.not_false, Nat.reduceAdd, Nat.reduceSub, Nat.reduceMul, Nat.reduceLT, Nat.reduceLeDiff, Nat.reduceEqDiff, reduceCtorEq, List.reduceReplicate, Int.reduceToNat, Int.reduceLE, Int.reduceLT]
        refine CallK.intro c109 rfl (real_ev x g3) ?_
        simp only [tyV, z, evS, tyS, Bool.not_true, Bool.not_false, Nat.reduceAdd, Nat.reduceSub, Nat.reduceMul, Nat.reduceLT, Nat.reduceLeDiff, Nat.reduceEqDiff, reduceCtorEq, List.reduceReplicate, Int.reduceToNat, Int.reduceLE, Int.reduceLT]
        all_goals first | done | rfl | trace_state
      · have z2 := beq_f h2
        rw [if_neg h2]
        by_cases h3 : k = 3
        · subst h3
          rw [if_pos rfl]
          have z : ((3 : Int) == 3) = true := rfl
          have la := measF_le a
          have lb := measF_le b
          simp only [tyV, z1, z2, z, evS, tyS, Bool.not_true, Bool.not_false, Nat.reduceAdd, Nat.reduceSub, Nat.reduceMul, Nat.reduceLT, Nat.reduceLeDiff, Nat.reduceEqDiff, reduceCtorEq, List.reduceReplicate, Int.reduceToNat, Int.reduceLE, Int.reduceLT]
          (repeat' (first | (with_reducible refine And.intro ?_ ?_) | ((first | refine GuardK.intro_f (fun h => ?_) (fun h => ?_) | refine GuardK.intro_t (fun h => ?_) (fun h => ?_) | refine CondK.intro (fun h => ?_) (fun h => ?_) | refine PickK.intro (fun h => ?_) (fun h => ?_)) <;> simp only [h, tyV, z1, z2, z, evS, tyS, Bool.not_true, Bool.not_false, Nat.reduceAdd, Nat.reduceSub, Nat.reduceMul, Nat.reduceLT, Nat.reduceLeDiff, Nat.reduceEqDiff, reduceCtorEq, List.reduceReplicate, Int.reduceToNat, Int.reduceLE, Int.reduceLT]) | (refine DrawK.intro (by kernel_rfl) (by kernel_rfl) ?_; simp only [tyV, z1, z2, z, evS, tyS, Bool.not_true, Bool.not_false, Nat.reduceAdd, Nat.reduceSub, Nat.reduceMul, Nat.reduceLT, Nat.reduceLeDiff, Nat.reduceEqDiff, reduceCtorEq, List.reduceReplicate, Int.reduceToNat, Int.reduceLE, Int.reduceLT])))
          refine CallK.intro c109 rfl (real_ev a g4) ?_
          simp only [tyV, z, evS, tyS, Bool.not_true, Bool.not_false, Nat.reduceAdd, Nat.reduceSub, Nat.reduceMul, Nat.reduceLT, Nat.reduceLeDiff, Nat.reduceEqDiff, reduceCtorEq, List.reduceReplicate, Int.reduceToNat, Int.reduceLE, Int.reduceLT]
          (repeat' (first | (with_reducible refine And.intro ?_ ?_) | ((first | refine GuardK.intro_f (fun h => ?_) (fun h => ?_) | refine GuardK.intro_t (fun h => ?_) (fun h => ?_) | refine CondK.intro (fun h => ?_) (fun h => ?_) | refine PickK.intro (fun h => ?_) (fun h => ?_)) <;> simp only [h, tyV, z, evS, tyS, Bool.not_true, Bool.not_false, Nat.reduceAdd, Nat.reduceSub, Nat.reduceMul, Nat.reduceLT, Nat.reduceLeDiff, Nat.reduceEqDiff, reduceCtorEq, List.reduceReplicate, Int.reduceToNat, Int.reduceLE, Int.reduceLT]) | (refine DrawK.intro (by kernel_rfl) (by kernel_rfl) ?_; simp only [tyV, z, evS, tyS, Bool.not_true, Bool.not_false, Nat.reduceAdd, Nat.reduceSub, Nat.reduceMul, Nat.reduceLT, Nat.reduceLeDiff, Nat.reduceEqDiff, reduceCtorEq, List.reduceReplicate, Int.reduceToNat, Int.reduceLE, Int.reduceLT])))
          all_goals try (first | (omega; done) | (simp only [List.length_append, List.length_cons, List.length_nil]; omega))
          refine CallK.intro c109 rfl (real_ev b g5) ?_
          simp only [tyV, z, evS, tyS, Bool.not_true, Bool.not_false, Nat.reduceAdd, Nat.reduceSub, Nat.reduceMul, Nat.reduceLT, Nat.reduceLeDiff, Nat.reduceEqDiff, reduceCtorEq, List.reduceReplicate, Int.reduceToNat, Int.reduceLE, Int.reduceLT]
          (repeat' (first | (with_reducible refine And.intro ?_ ?_) | ((first | refine GuardK.intro_f (fun h => ?_) (fun h => ?_) | refine GuardK.intro_t (fun h => ?_) (fun h => ?_) | refine CondK.intro (fun h => ?_) (fun h => ?_) | refine PickK.intro (fun h => ?_) (fun h => ?_)) <;> simp only [h, tyV, z, evS, tyS, Bool.not_true, Bool.not_false, Nat.reduceAdd, Nat.reduceSub, Nat.reduceMul, Nat.reduceLT, Nat.reduceLeDiff, Nat.reduceEqDiff, reduceCtorEq, List.reduceReplicate, Int.reduceToNat, Int.reduceLE, Int.reduceLT]) | (refine DrawK.intro (by kernel_rfl) (by kernel_rfl) ?_; simp only [tyV, z, evS, tyS, Bool.not_true, Bool.not_false, Nat.reduceAdd, Nat.reduceSub, Nat.reduceMul, Nat.reduceLT, Nat.reduceLeDiff, Nat.reduceEqDiff, reduceCtorEq, List.reduceReplicate, Int.reduceToNat, Int.reduceLE, Int.reduceLT])))
          all_goals try (first | (omega; done) | (simp only [List.length_append, List.length_cons, List.length_nil]; omega))
          all_goals first | done | rfl | (simp [List.append_assoc]; done) | trace_state
        · have z3 := beq_f h3
          rw [if_neg h3]
          rw [if_neg (by omega)] at hmay
          by_cases h4 : k = 4
          · subst h4
            rw [if_pos rfl] at hmay ⊢
            have ht : t.length ≤ 256 := of_decide_eq_true hmay
            have z : ((4 : Int) == 4) = true := rfl
            simp only [tyV, z1, z2, z3, z, evS, tyS, Bool.not_true, Bool.not_false, Nat.reduceAdd, Nat.reduceSub, Nat.reduceMul, Nat.reduceLT, Nat.reduceLeDiff, Nat.reduceEqDiff, reduceCtorEq, List.reduceReplicate, Int.reduceToNat, Int.reduceLE, Int.reduceLT]
            refine CallK.intro c110 rfl (rquoted_ev t ht) ?_
            simp only [tyV, z, evS, tyS, Bool.not_true, Bool.not_false, Nat.reduceAdd, Nat.reduceSub, Nat.reduceMul, Nat.reduceLT, Nat.reduceLeDiff, Nat.reduceEqDiff, reduceCtorEq, List.reduceReplicate, Int.reduceToNat, Int.reduceLE, Int.reduceLT]
            all_goals first | done | rfl | trace_state
          · have z4 := beq_f h4
            rw [if_neg h4] at hmay ⊢
            cases hn : (n == 1) with
            | true =>
              simp only [tyV, z1, z2, z3, z4, hn, evS, tyS, Bool.not_true, Bool.not_false, Nat.reduceAdd, Nat.reduceSub, Nat.reduceMul, Nat.reduceLT, Nat.reduceLeDiff, Nat.reduceEqDiff, reduceCtorEq, List.reduceReplicate, Int.reduceToNat, Int.reduceLE, Int.reduceLT]
              all_goals first | done | rfl | trace_state
            | false =>
              simp only [tyV, z1, z2, z3, z4, hn, evS, tyS, Bool.not_true, Bool.not_false, Nat.reduceAdd, Nat.reduceSub, Nat.reduceMul, Nat.reduceLT, Nat.reduceLeDiff, Nat.reduceEqDiff, reduceCtorEq, List.reduceReplicate, Int.reduceToNat, Int.reduceLE, Int.reduceLT]
              all_goals first | done | rfl | trace_state
theorem u25 : (Tryz.prog.underlying 176).isSome = true := by kernel_rfl
theorem neg_back (n : Nat) (h : n ≤ 9223372036854775808) : IntKind.i64.wrap (IntKind.i64.wrap (0 - IntKind.i64.wrap (IntKind.u64.wrap ((n : Int) - 1))) - 1) = -(n : Int) := by
  by_cases h0 : n = 0
  · subst h0; decide
  · rw [u64w (by omega) (by omega), i64w (n := (n : Int) - 1) (by omega) (by omega), i64w (n := 0 - ((n : Int) - 1)) (by omega) (by omega), i64w (by omega) (by omega)]
    omega
set_option maxHeartbeats 8000000 in
theorem rread_ev (l : List UInt8) (hl : l.length ≤ 1026) : Ev Tryz.prog γ 53 [.v (.string ⟨l.toArray⟩)] (readR (rreadF l)) := by
  refine Ev.of Tryz.func53 rfl ?_
  have ea : ∀ (l : List UInt8) j, (l.getD j 0).toNat = atL l j := fun _ _ => rfl
  have tk : ∀ l : List UInt8, l.take l.length = l := fun _ => List.take_length
  have kw := rweighed_ev (γ := γ) l (by omega)
  unfold rwA at kw
  by_cases h1 : l = trueT
  · have e : rreadF l = (⟨5, 1, 0, 0, 0, []⟩, true) := by unfold rreadF; rw [if_pos h1]
    rw [e]
    have z1 : (l == [116, 114, 117, 101]) = true := by rw [h1]; rfl
    simp only [readR, vA, vC]
    simp only [Tryz.f53, tyV, z1, evS, tyS, Bool.not_true, Bool.not_false, Nat.reduceAdd, Nat.reduceSub, Nat.reduceMul, Nat.reduceLT, Nat.reduceLeDiff, Nat.reduceEqDiff, reduceCtorEq, List.reduceReplicate, Int.reduceToNat, Int.reduceLE, Int.reduceLT]
    all_goals first | done | rfl | trace_state
  · have z1 : (l == [116, 114, 117, 101]) = false := beq_bytes_f h1
    by_cases h2 : l = falseT
    · have e : rreadF l = (⟨5, 0, 0, 0, 0, []⟩, true) := by unfold rreadF; rw [if_neg h1, if_pos h2]
      rw [e]
      have z2 : (l == [102, 97, 108, 115, 101]) = true := by rw [h2]; rfl
      simp only [readR, vA, vC]
      simp only [Tryz.f53, tyV, z1, z2, evS, tyS, Bool.not_true, Bool.not_false, Nat.reduceAdd, Nat.reduceSub, Nat.reduceMul, Nat.reduceLT, Nat.reduceLeDiff, Nat.reduceEqDiff, reduceCtorEq, List.reduceReplicate, Int.reduceToNat, Int.reduceLE, Int.reduceLT]
      all_goals first | done | rfl | trace_state
    · have z2 : (l == [102, 97, 108, 115, 101]) = false := beq_bytes_f h2
      have wl : 1 ≤ l.length → IntKind.i64.wrap ((l.length : Int) - 1) = ((l.length - 1 : Nat) : Int) := fun h => by rw [i64w] <;> omega
      by_cases h3 : 2 ≤ l.length ∧ atL l 0 = 34 ∧ atL l (l.length - 1) = 34
      · have e : rreadF l = (⟨4, 0, 0, 0, 0, (runO l).1⟩, (runO l).2) := by unfold rreadF; rw [if_neg h1, if_neg h2, if_pos h3]
        rw [e]
        obtain ⟨g1, g2, g3⟩ := h3
        have d1 : decide (2 ≤ l.length) = true := decide_eq_true g1
        have d1' : decide ((2 : Int) ≤ (l.length : Int)) = true := decide_eq_true (by omega)
        have y1 : ((atL l 0 : Int) == 34) = true := by rw [g2]; rfl
        have y2 : ((atL l (l.length - 1) : Int) == 34) = true := by rw [g3]; rfl
        have wl' := wl (by omega)
        have k := runquoted_ev (γ := γ) l g1 hl
        have er : runR (runN (inner l).length (inner l) []) = .tup [.v (.string ⟨(runO l).1.toArray⟩), .v (.bool (runO l).2)] := by
          unfold runO
          cases runN (inner l).length (inner l) [] <;> rfl
        rw [er] at k
        simp only [readR, vA, vC]
        simp only [Tryz.f53, tyV, z1, z2, d1, d1', ea, y1, y2, wl', evS, tyS, Bool.not_true, Bool.not_false, Nat.reduceAdd, Nat.reduceSub, Nat.reduceMul, Nat.reduceLT, Nat.reduceLeDiff, Nat.reduceEqDiff, reduceCtorEq, List.reduceReplicate, Int.reduceToNat, Int.reduceLE, Int.reduceLT]
        (repeat' (first | (with_reducible refine And.intro ?_ ?_) | ((first | refine GuardK.intro_f (fun h => ?_) (fun h => ?_) | refine GuardK.intro_t (fun h => ?_) (fun h => ?_) | refine CondK.intro (fun h => ?_) (fun h => ?_) | refine PickK.intro (fun h => ?_) (fun h => ?_)) <;> simp only [h, tyV, z1, z2, d1, d1', ea, y1, y2, wl', evS, tyS, Bool.not_true, Bool.not_false, Nat.reduceAdd, Nat.reduceSub, Nat.reduceMul, Nat.reduceLT, Nat.reduceLeDiff, Nat.reduceEqDiff, reduceCtorEq, List.reduceReplicate, Int.reduceToNat, Int.reduceLE, Int.reduceLT]) | (refine DrawK.intro (by kernel_rfl) (by kernel_rfl) ?_; simp only [tyV, z1, z2, d1, d1', ea, y1, y2, wl', evS, tyS, Bool.not_true, Bool.not_false, Nat.reduceAdd, Nat.reduceSub, Nat.reduceMul, Nat.reduceLT, Nat.reduceLeDiff, Nat.reduceEqDiff, reduceCtorEq, List.reduceReplicate, Int.reduceToNat, Int.reduceLE, Int.reduceLT])))
        all_goals try (((try simp only [decide_eq_true_eq, decide_eq_false_iff_not, beq_iff_eq, bne_iff_ne, ne_eq, beq_eq_false_iff_ne, bne_eq_false_iff_eq] at *) <;> (try omega)); done)
        refine CallK.intro c105 rfl k ?_
        simp only [tyV, evS, tyS, Bool.not_true, Bool.not_false, Nat.reduceAdd, Nat.reduceSub, Nat.reduceMul, Nat.reduceLT, Nat.reduceLeDiff, Nat.reduceEqDiff, reduceCtorEq, List.reduceReplicate, Int.reduceToNat, Int.reduceLE, Int.reduceLT]
        all_goals first | done | rfl | trace_state
      · by_cases h4 : 2 ≤ l.length ∧ atL l 0 = 40 ∧ atL l (l.length - 1) = 41
        · obtain ⟨g1, g2, g3⟩ := h4
          have d1 : decide (2 ≤ l.length) = true := decide_eq_true g1
          have d1' : decide ((2 : Int) ≤ (l.length : Int)) = true := decide_eq_true (by omega)
          have y1 : ((atL l 0 : Int) == 34) = false := by rw [g2]; rfl
          have y3 : ((atL l 0 : Int) == 40) = true := by rw [g2]; rfl
          have y4 : ((atL l (l.length - 1) : Int) == 41) = true := by rw [g3]; rfl
          have wl' := wl (by omega)
          have e : rreadF l = if findC 44 l 1 = l.length then (zeroV, false)
              else (⟨3, 0, 0, (rwgt ((l.take (findC 44 l 1)).drop 1)).1, (rwgt ((l.take (l.length - 1)).drop (findC 44 l 1 + 1))).1, []⟩, (rwgt ((l.take (findC 44 l 1)).drop 1)).2 && (rwgt ((l.take (l.length - 1)).drop (findC 44 l 1 + 1))).2) := by
            unfold rreadF; rw [if_neg h1, if_neg h2, if_neg h3, if_pos ⟨g1, g2, g3⟩]
          rw [e]
          simp only [Tryz.f53, tyV, z1, z2, d1, d1', ea, y1, y3, y4, wl', evS, tyS, Bool.not_true, Bool.not_false, Nat.reduceAdd, Nat.reduceSub, Nat.reduceMul, Nat.reduceLT, Nat.reduceLeDiff, Nat.reduceEqDiff, reduceCtorEq, List.reduceReplicate, Int.reduceToNat, Int.reduceLE, Int.reduceLT]
          (repeat' (first | (with_reducible refine And.intro ?_ ?_) | ((first | refine GuardK.intro_f (fun h => ?_) (fun h => ?_) | refine GuardK.intro_t (fun h => ?_) (fun h => ?_) | refine CondK.intro (fun h => ?_) (fun h => ?_) | refine PickK.intro (fun h => ?_) (fun h => ?_)) <;> simp only [h, tyV, z1, z2, d1, d1', ea, y1, y3, y4, wl', evS, tyS, Bool.not_true, Bool.not_false, Nat.reduceAdd, Nat.reduceSub, Nat.reduceMul, Nat.reduceLT, Nat.reduceLeDiff, Nat.reduceEqDiff, reduceCtorEq, List.reduceReplicate, Int.reduceToNat, Int.reduceLE, Int.reduceLT]) | (refine DrawK.intro (by kernel_rfl) (by kernel_rfl) ?_; simp only [tyV, z1, z2, d1, d1', ea, y1, y3, y4, wl', evS, tyS, Bool.not_true, Bool.not_false, Nat.reduceAdd, Nat.reduceSub, Nat.reduceMul, Nat.reduceLT, Nat.reduceLeDiff, Nat.reduceEqDiff, reduceCtorEq, List.reduceReplicate, Int.reduceToNat, Int.reduceLE, Int.reduceLT])))
          all_goals try (((try simp only [decide_eq_true_eq, decide_eq_false_iff_not, beq_iff_eq, bne_iff_ne, ne_eq, beq_eq_false_iff_ne, bne_eq_false_iff_eq] at *) <;> (try omega)); done)
          refine LoopK.intro (fun j : Nat => ⟨⟨155, [(6, .v (.int .i64 j)), (0, .v (.string ⟨l.toArray⟩)), (2, .ptr 0 0 0)], γ⟩, [⟨0, 25, vC zeroV⟩]⟩) (fun j => 1 ≤ j ∧ j ≤ l.length ∧ findC 44 l j = findC 44 l 1) (fun j => l.length - j) 1 ?_ ⟨Nat.le_refl _, by omega, rfl⟩ ?_
          · exact ⟨rfl, rfl, ⟨rfl, rfl, rfl, trivial⟩, .inl rfl⟩
          · rintro j ⟨hj1, hj, hfc⟩
            simp only [vC, zeroV]
            by_cases hjl : j < l.length
            · have q1 : decide (j < l.length) = true := decide_eq_true hjl
              have q1' : decide ((j : Int) < (l.length : Int)) = true := decide_eq_true (by omega)
              by_cases hp : l.getD j 0 = 44
              · have z : ((atL l j : Int) != 44) = false := by unfold atL; rw [hp]; rfl
                have hj0 : findC 44 l 1 = j := by rw [← hfc]; exact findC_stop hjl hp
                have hjn : j ≠ l.length - 1 := fun hc => by
                  rw [← hc] at g3
                  unfold atL at g3
                  rw [hp] at g3
                  revert g3; decide
                have zl : ((j : Int) == (l.length : Int)) = false := beq_f (by omega)
                have w1 : IntKind.i64.wrap ((j : Int) + 1) = ((j + 1 : Nat) : Int) := by rw [i64w] <;> omega
                rw [hj0, if_neg (show ¬ j = l.length by omega)]
                have ka := rweighed_ev (γ := γ) ((l.take j).drop 1) (by rw [List.length_drop, List.length_take]; omega)
                have kb := rweighed_ev (γ := γ) ((l.take (l.length - 1)).drop (j + 1)) (by rw [List.length_drop, List.length_take]; omega)
                generalize rwgt ((l.take j).drop 1) = A at ka ⊢
                generalize rwgt ((l.take (l.length - 1)).drop (j + 1)) = B at kb ⊢
                obtain ⟨ax, ab⟩ := A
                obtain ⟨bx, bb⟩ := B
                simp only [rwA] at ka kb
                simp only [readR, vA, vC]
                simp only [tyV, q1, q1', ea, z, zl, w1, wl', evS, tyS, Bool.not_true, Bool.not_false, Nat.reduceAdd, Nat.reduceSub, Nat.reduceMul, Nat.reduceLT, Nat.reduceLeDiff, Nat.reduceEqDiff, reduceCtorEq, List.reduceReplicate, Int.reduceToNat, Int.reduceLE, Int.reduceLT]
                (repeat' (first | (with_reducible refine And.intro ?_ ?_) | ((first | refine GuardK.intro_f (fun h => ?_) (fun h => ?_) | refine GuardK.intro_t (fun h => ?_) (fun h => ?_) | refine CondK.intro (fun h => ?_) (fun h => ?_) | refine PickK.intro (fun h => ?_) (fun h => ?_)) <;> simp only [h, tyV, q1, q1', ea, z, zl, w1, wl', evS, tyS, Bool.not_true, Bool.not_false, Nat.reduceAdd, Nat.reduceSub, Nat.reduceMul, Nat.reduceLT, Nat.reduceLeDiff, Nat.reduceEqDiff, reduceCtorEq, List.reduceReplicate, Int.reduceToNat, Int.reduceLE, Int.reduceLT]) | (refine DrawK.intro (by kernel_rfl) (by kernel_rfl) ?_; simp only [tyV, q1, q1', ea, z, zl, w1, wl', evS, tyS, Bool.not_true, Bool.not_false, Nat.reduceAdd, Nat.reduceSub, Nat.reduceMul, Nat.reduceLT, Nat.reduceLeDiff, Nat.reduceEqDiff, reduceCtorEq, List.reduceReplicate, Int.reduceToNat, Int.reduceLE, Int.reduceLT])))
                all_goals try (((try simp only [decide_eq_true_eq, decide_eq_false_iff_not, beq_iff_eq, bne_iff_ne, ne_eq, beq_eq_false_iff_ne, bne_eq_false_iff_eq] at *) <;> (try omega)); done)
                refine CallK.intro c106 rfl ka ?_
                simp only [tyV, w1, wl', evS, tyS, Bool.not_true, Bool.not_false, Nat.reduceAdd, Nat.reduceSub, Nat.reduceMul, Nat.reduceLT, Nat.reduceLeDiff, Nat.reduceEqDiff, reduceCtorEq, List.reduceReplicate, Int.reduceToNat, Int.reduceLE, Int.reduceLT]
                (repeat' (first | (with_reducible refine And.intro ?_ ?_) | ((first | refine GuardK.intro_f (fun h => ?_) (fun h => ?_) | refine GuardK.intro_t (fun h => ?_) (fun h => ?_) | refine CondK.intro (fun h => ?_) (fun h => ?_) | refine PickK.intro (fun h => ?_) (fun h => ?_)) <;> simp only [h, tyV, w1, wl', evS, tyS, Bool.not_true, Bool.not_false, Nat.reduceAdd, Nat.reduceSub, Nat.reduceMul, Nat.reduceLT, Nat.reduceLeDiff, Nat.reduceEqDiff, reduceCtorEq, List.reduceReplicate, Int.reduceToNat, Int.reduceLE, Int.reduceLT]) | (refine DrawK.intro (by kernel_rfl) (by kernel_rfl) ?_; simp only [tyV, w1, wl', evS, tyS, Bool.not_true, Bool.not_false, Nat.reduceAdd, Nat.reduceSub, Nat.reduceMul, Nat.reduceLT, Nat.reduceLeDiff, Nat.reduceEqDiff, reduceCtorEq, List.reduceReplicate, Int.reduceToNat, Int.reduceLE, Int.reduceLT])))
                all_goals try (((try simp only [decide_eq_true_eq, decide_eq_false_iff_not, beq_iff_eq, bne_iff_ne, ne_eq, beq_eq_false_iff_ne, bne_eq_false_iff_eq] at *) <;> (try omega)); done)
                refine CallK.intro c106 rfl kb ?_
                cases ab with
                | true =>
                  simp only [tyV, evS, tyS, Bool.not_true, Bool.not_false, Nat.reduceAdd, Nat.reduceSub, Nat.reduceMul, Nat.reduceLT, Nat.reduceLeDiff, Nat.reduceEqDiff, reduceCtorEq, List.reduceReplicate, Int.reduceToNat, Int.reduceLE, Int.reduceLT]
                  all_goals first | done | rfl | trace_state
                | false =>
                  simp only [tyV, evS, tyS, Bool.not_true, Bool.not_false, Nat.reduceAdd, Nat.reduceSub, Nat.reduceMul, Nat.reduceLT, Nat.reduceLeDiff, Nat.reduceEqDiff, reduceCtorEq, List.reduceReplicate, Int.reduceToNat, Int.reduceLE, Int.reduceLT]
                  all_goals first | done | rfl | trace_state
              · have z : ((atL l j : Int) != 44) = true := by
                  have : atL l j ≠ 44 := fun hc => hp (UInt8.toNat_inj.1 hc)
                  cases hb : ((atL l j : Int) != 44) with
                  | true => rfl
                  | false => exact absurd (by simpa using hb) (by omega)
                have w1 : IntKind.i64.wrap ((j : Int) + 1) = ((j + 1 : Nat) : Int) := by rw [i64w] <;> omega
                simp only [q1, q1', ea, z, w1, evS, tyS, Bool.not_true, Bool.not_false, Nat.reduceAdd, Nat.reduceSub, Nat.reduceMul, Nat.reduceLT, Nat.reduceLeDiff, Nat.reduceEqDiff, reduceCtorEq, List.reduceReplicate, Int.reduceToNat, Int.reduceLE, Int.reduceLT]
                (repeat' (first | (with_reducible refine And.intro ?_ ?_) | ((first | refine GuardK.intro_f (fun h => ?_) (fun h => ?_) | refine GuardK.intro_t (fun h => ?_) (fun h => ?_) | refine CondK.intro (fun h => ?_) (fun h => ?_) | refine PickK.intro (fun h => ?_) (fun h => ?_)) <;> simp only [h, q1, q1', ea, z, w1, evS, tyS, Bool.not_true, Bool.not_false, Nat.reduceAdd, Nat.reduceSub, Nat.reduceMul, Nat.reduceLT, Nat.reduceLeDiff, Nat.reduceEqDiff, reduceCtorEq, List.reduceReplicate, Int.reduceToNat, Int.reduceLE, Int.reduceLT]) | (refine DrawK.intro (by kernel_rfl) (by kernel_rfl) ?_; simp only [q1, q1', ea, z, w1, evS, tyS, Bool.not_true, Bool.not_false, Nat.reduceAdd, Nat.reduceSub, Nat.reduceMul, Nat.reduceLT, Nat.reduceLeDiff, Nat.reduceEqDiff, reduceCtorEq, List.reduceReplicate, Int.reduceToNat, Int.reduceLE, Int.reduceLT])))
                all_goals try (((try simp only [decide_eq_true_eq, decide_eq_false_iff_not, beq_iff_eq, bne_iff_ne, ne_eq, beq_eq_false_iff_ne, bne_eq_false_iff_eq] at *) <;> (try omega)); done)
                refine loopC.intro (j + 1) ⟨by omega, by omega, by rw [← findC_step hjl hp]; exact hfc⟩ ?_ (by omega)
                exact ⟨rfl, rfl, ⟨by simp only [w1, evS, tyS, Bool.not_true, Bool.not_false, Nat.reduceAdd, Nat.reduceSub, Nat.reduceMul, Nat.reduceLT, Nat.reduceLeDiff, Nat.reduceEqDiff, reduceCtorEq, List.reduceReplicate, Int.reduceToNat, Int.reduceLE, Int.reduceLT], rfl, rfl, trivial⟩, .inl rfl⟩
            · have q1 : decide (j < l.length) = false := decide_eq_false hjl
              have q1' : decide ((j : Int) < (l.length : Int)) = false := decide_eq_false (by omega)
              have zl : ((j : Int) == (l.length : Int)) = true := by rw [show j = l.length by omega]; simp
              have hj0 : findC 44 l 1 = l.length := by rw [← hfc, show j = l.length by omega]; exact findC_end (Nat.le_refl _)
              rw [if_pos hj0]
              simp only [readR, vA, vC, zeroV]
              simp only [tyV, q1, q1', zl, evS, tyS, Bool.not_true, Bool.not_false, Nat.reduceAdd, Nat.reduceSub, Nat.reduceMul, Nat.reduceLT, Nat.reduceLeDiff, Nat.reduceEqDiff, reduceCtorEq, List.reduceReplicate, Int.reduceToNat, Int.reduceLE, Int.reduceLT]
              all_goals try (((try simp only [decide_eq_true_eq, decide_eq_false_iff_not, beq_iff_eq, bne_iff_ne, ne_eq, beq_eq_false_iff_ne, bne_eq_false_iff_eq] at *) <;> (try omega)); done)
              all_goals first | done | rfl | trace_state
        · have e : rreadF l = if (numR (cutP l 45)).2 = true ∧ ((numR (cutP l 45)).1 < 9223372036854775808 ∨ preB l 45 = true ∧ (numR (cutP l 45)).1 = 9223372036854775808) then
              if preB l 45 = true then (⟨1, -((numR (cutP l 45)).1 : Int), 0, 0, 0, []⟩, decide (0 < (numR (cutP l 45)).1)) else (⟨1, (numR (cutP l 45)).1, 0, 0, 0, []⟩, true)
            else (⟨2, 0, (rwgt l).1, 0, 0, []⟩, (rwgt l).2) := by
            unfold rreadF; rw [if_neg h1, if_neg h2, if_neg h3, if_neg h4]
          rw [e]
          have hcl := cutP_len l 45
          have kn := number_ev (γ := γ) (cutP l 45) (by omega)
          generalize hr : rwgt l = W at kw ⊢
          obtain ⟨wx, wb⟩ := W
          have hnl := numR_lt (cutP l 45)
          by_cases h0 : l = []
          · subst h0
            have en : numR (cutP [] 45) = (0, false) := rfl
            have ec : cutP [] 45 = [] := rfl
            rw [en, ec] at kn
            rw [en, if_neg (by simp)]
            have dz : decide ((0 : Int) < ((0 : Nat) : Int)) = false := by decide
            have dz2 : decide ((0 : Int) < 0) = false := by decide
            have dz3 : decide (0 < 0) = false := by decide
            have dy : decide ((2 : Int) ≤ ((0 : Nat) : Int)) = false := by decide
            have dy2 : decide (2 ≤ 0) = false := by decide
            have dy3 : decide ((2 : Int) ≤ 0) = false := by decide
            simp only [readR, vA, vC, numA] at kn ⊢
            simp only [Tryz.f53, tyV, z1, z2, dz, dz2, dz3, dy, dy2, dy3, evS, tyS, Bool.not_true, Bool.not_false, Nat.reduceAdd, Nat.reduceSub, Nat.reduceMul, Nat.reduceLT, Nat.reduceLeDiff, Nat.reduceEqDiff, reduceCtorEq, List.reduceReplicate, Int.reduceToNat, Int.reduceLE, Int.reduceLT]
            refine CallK.intro c107 rfl kn ?_
            simp only [tyV, evS, tyS, Bool.not_true, Bool.not_false, Nat.reduceAdd, Nat.reduceSub, Nat.reduceMul, Nat.reduceLT, Nat.reduceLeDiff, Nat.reduceEqDiff, reduceCtorEq, List.reduceReplicate, Int.reduceToNat, Int.reduceLE, Int.reduceLT]
            refine CallK.intro c106 rfl kw ?_
            simp only [tyV, evS, tyS, Bool.not_true, Bool.not_false, Nat.reduceAdd, Nat.reduceSub, Nat.reduceMul, Nat.reduceLT, Nat.reduceLeDiff, Nat.reduceEqDiff, reduceCtorEq, List.reduceReplicate, Int.reduceToNat, Int.reduceLE, Int.reduceLT]
            all_goals first | done | rfl | trace_state
          · have hlen : 0 < l.length := List.length_pos_iff.2 h0
            have d0 : decide (0 < l.length) = true := decide_eq_true hlen
            have d0' : decide ((0 : Int) < (l.length : Int)) = true := decide_eq_true (by omega)
            have zs := preB_at hlen 45
            have wl' := wl (by omega)
            have hT : preB l 45 = true → l.drop 1 = cutP l 45 := fun hs => by unfold cutP; rw [if_pos hs]
            have hF : preB l 45 = false → l = cutP l 45 := fun hs => by unfold cutP; rw [if_neg (by rw [hs]; simp)]
            generalize hA : numR (cutP l 45) = A at kn hnl ⊢
            obtain ⟨nm, nb⟩ := A
            generalize hs : preB l 45 = s at zs hT hF ⊢
            have zs' : ((atL l 0 : Int) == 45) = s := zs.symm
            simp only [numA] at kn hnl
            simp only [readR, vA, vC]
            by_cases g1 : 2 ≤ l.length
            · have d1 : decide (2 ≤ l.length) = true := decide_eq_true g1
              have d1' : decide ((2 : Int) ≤ (l.length : Int)) = true := decide_eq_true (by omega)
              by_cases g34 : atL l 0 = 34
              · have y1 : ((atL l 0 : Int) == 34) = true := by rw [g34]; rfl
                have y2 : ((atL l (l.length - 1) : Int) == 34) = false := beq_f (by have : atL l (l.length - 1) ≠ 34 := fun h => h3 ⟨g1, g34, h⟩; omega)
                have y3 : ((atL l 0 : Int) == 40) = false := by rw [g34]; rfl
                cases s with
                | true =>
                  exact absurd (eq_of_beq zs') (by omega)
                | false =>
                  have hF' := hF rfl
                  rw [← hF'] at kn
                  by_cases hc : nb = true ∧ (nm < 9223372036854775808 ∨ false = true ∧ nm = 9223372036854775808)
                  · rw [if_pos hc]
                    obtain ⟨hc1, hc2⟩ := hc
                    subst hc1
                    simp only [Bool.false_eq_true, if_false]
                    simp only [Tryz.f53, tyV, z1, z2, d1, d1', y1, y2, y3, wl', d0, d0', ea, zs', evS, tyS, Bool.not_true, Bool.not_false, Nat.reduceAdd, Nat.reduceSub, Nat.reduceMul, Nat.reduceLT, Nat.reduceLeDiff, Nat.reduceEqDiff, reduceCtorEq, List.reduceReplicate, Int.reduceToNat, Int.reduceLE, Int.reduceLT]
                    (repeat' (first | (with_reducible refine And.intro ?_ ?_) | ((first | refine GuardK.intro_f (fun h => ?_) (fun h => ?_) | refine GuardK.intro_t (fun h => ?_) (fun h => ?_) | refine CondK.intro (fun h => ?_) (fun h => ?_) | refine PickK.intro (fun h => ?_) (fun h => ?_)) <;> simp only [h, tyV, z1, z2, d1, d1', y1, y2, y3, wl', d0, d0', ea, zs', evS, tyS, Bool.not_true, Bool.not_false, Nat.reduceAdd, Nat.reduceSub, Nat.reduceMul, Nat.reduceLT, Nat.reduceLeDiff, Nat.reduceEqDiff, reduceCtorEq, List.reduceReplicate, Int.reduceToNat, Int.reduceLE, Int.reduceLT]) | (refine DrawK.intro (by kernel_rfl) (by kernel_rfl) ?_; simp only [tyV, z1, z2, d1, d1', y1, y2, y3, wl', d0, d0', ea, zs', evS, tyS, Bool.not_true, Bool.not_false, Nat.reduceAdd, Nat.reduceSub, Nat.reduceMul, Nat.reduceLT, Nat.reduceLeDiff, Nat.reduceEqDiff, reduceCtorEq, List.reduceReplicate, Int.reduceToNat, Int.reduceLE, Int.reduceLT])))
                    all_goals try (((try simp only [decide_eq_true_eq, decide_eq_false_iff_not, beq_iff_eq, bne_iff_ne, ne_eq, beq_eq_false_iff_ne, bne_eq_false_iff_eq] at *) <;> (try omega)); done)
                    refine CallK.intro c107 rfl kn ?_
                    have h63 : nm < 9223372036854775808 := by
                      rcases hc2 with h | h
                      · exact h
                      · exact absurd h.1 (by simp)
                    have u1 : IntKind.i64.wrap (nm : Int) = (nm : Int) := i64w (by omega) (by omega)
                    have q1 : decide ((nm : Int) < 9223372036854775808) = true := decide_eq_true (by omega)
                    have q1' : decide (nm < 9223372036854775808) = true := decide_eq_true h63
                    simp only [tyV, q1, q1', u1, u25, evS, tyS, Bool.not_true, Bool.not_false, Nat.reduceAdd, Nat.reduceSub, Nat.reduceMul, Nat.reduceLT, Nat.reduceLeDiff, Nat.reduceEqDiff, reduceCtorEq, List.reduceReplicate, Int.reduceToNat, Int.reduceLE, Int.reduceLT]
                    all_goals first | done | rfl | trace_state
                  · rw [if_neg hc]
                    simp only [Tryz.f53, tyV, z1, z2, d1, d1', y1, y2, y3, wl', d0, d0', ea, zs', evS, tyS, Bool.not_true, Bool.not_false, Nat.reduceAdd, Nat.reduceSub, Nat.reduceMul, Nat.reduceLT, Nat.reduceLeDiff, Nat.reduceEqDiff, reduceCtorEq, List.reduceReplicate, Int.reduceToNat, Int.reduceLE, Int.reduceLT]
                    (repeat' (first | (with_reducible refine And.intro ?_ ?_) | ((first | refine GuardK.intro_f (fun h => ?_) (fun h => ?_) | refine GuardK.intro_t (fun h => ?_) (fun h => ?_) | refine CondK.intro (fun h => ?_) (fun h => ?_) | refine PickK.intro (fun h => ?_) (fun h => ?_)) <;> simp only [h, tyV, z1, z2, d1, d1', y1, y2, y3, wl', d0, d0', ea, zs', evS, tyS, Bool.not_true, Bool.not_false, Nat.reduceAdd, Nat.reduceSub, Nat.reduceMul, Nat.reduceLT, Nat.reduceLeDiff, Nat.reduceEqDiff, reduceCtorEq, List.reduceReplicate, Int.reduceToNat, Int.reduceLE, Int.reduceLT]) | (refine DrawK.intro (by kernel_rfl) (by kernel_rfl) ?_; simp only [tyV, z1, z2, d1, d1', y1, y2, y3, wl', d0, d0', ea, zs', evS, tyS, Bool.not_true, Bool.not_false, Nat.reduceAdd, Nat.reduceSub, Nat.reduceMul, Nat.reduceLT, Nat.reduceLeDiff, Nat.reduceEqDiff, reduceCtorEq, List.reduceReplicate, Int.reduceToNat, Int.reduceLE, Int.reduceLT])))
                    all_goals try (((try simp only [decide_eq_true_eq, decide_eq_false_iff_not, beq_iff_eq, bne_iff_ne, ne_eq, beq_eq_false_iff_ne, bne_eq_false_iff_eq] at *) <;> (try omega)); done)
                    refine CallK.intro c107 rfl kn ?_
                    cases nb with
                    | false =>
                      simp only [tyV, evS, tyS, Bool.not_true, Bool.not_false, Nat.reduceAdd, Nat.reduceSub, Nat.reduceMul, Nat.reduceLT, Nat.reduceLeDiff, Nat.reduceEqDiff, reduceCtorEq, List.reduceReplicate, Int.reduceToNat, Int.reduceLE, Int.reduceLT]
                      refine CallK.intro c106 rfl kw ?_
                      simp only [tyV, evS, tyS, Bool.not_true, Bool.not_false, Nat.reduceAdd, Nat.reduceSub, Nat.reduceMul, Nat.reduceLT, Nat.reduceLeDiff, Nat.reduceEqDiff, reduceCtorEq, List.reduceReplicate, Int.reduceToNat, Int.reduceLE, Int.reduceLT]
                      all_goals first | done | rfl | trace_state
                    | true =>
                      have h63 : ¬ nm < 9223372036854775808 := fun h => hc ⟨rfl, .inl h⟩
                      have q1 : decide ((nm : Int) < 9223372036854775808) = false := decide_eq_false (by omega)
                      have q1' : decide (nm < 9223372036854775808) = false := decide_eq_false h63
                      simp only [tyV, q1, q1', evS, tyS, Bool.not_true, Bool.not_false, Nat.reduceAdd, Nat.reduceSub, Nat.reduceMul, Nat.reduceLT, Nat.reduceLeDiff, Nat.reduceEqDiff, reduceCtorEq, List.reduceReplicate, Int.reduceToNat, Int.reduceLE, Int.reduceLT]
                      refine CallK.intro c106 rfl kw ?_
                      simp only [tyV, evS, tyS, Bool.not_true, Bool.not_false, Nat.reduceAdd, Nat.reduceSub, Nat.reduceMul, Nat.reduceLT, Nat.reduceLeDiff, Nat.reduceEqDiff, reduceCtorEq, List.reduceReplicate, Int.reduceToNat, Int.reduceLE, Int.reduceLT]
                      all_goals first | done | rfl | trace_state
              · have y1 : ((atL l 0 : Int) == 34) = false := beq_f (by omega)
                by_cases g40 : atL l 0 = 40
                · have y3 : ((atL l 0 : Int) == 40) = true := by rw [g40]; rfl
                  have y4 : ((atL l (l.length - 1) : Int) == 41) = false := beq_f (by have : atL l (l.length - 1) ≠ 41 := fun h => h4 ⟨g1, g40, h⟩; omega)
                  cases s with
                  | true =>
                    exact absurd (eq_of_beq zs') (by omega)
                  | false =>
                    have hF' := hF rfl
                    rw [← hF'] at kn
                    by_cases hc : nb = true ∧ (nm < 9223372036854775808 ∨ false = true ∧ nm = 9223372036854775808)
                    · rw [if_pos hc]
                      obtain ⟨hc1, hc2⟩ := hc
                      subst hc1
                      simp only [Bool.false_eq_true, if_false]
                      simp only [Tryz.f53, tyV, z1, z2, d1, d1', y1, y3, y4, wl', d0, d0', ea, zs', evS, tyS, Bool.not_true, Bool.not_false, Nat.reduceAdd, Nat.reduceSub, Nat.reduceMul, Nat.reduceLT, Nat.reduceLeDiff, Nat.reduceEqDiff, reduceCtorEq, List.reduceReplicate, Int.reduceToNat, Int.reduceLE, Int.reduceLT]
                      (repeat' (first | (with_reducible refine And.intro ?_ ?_) | ((first | refine GuardK.intro_f (fun h => ?_) (fun h => ?_) | refine GuardK.intro_t (fun h => ?_) (fun h => ?_) | refine CondK.intro (fun h => ?_) (fun h => ?_) | refine PickK.intro (fun h => ?_) (fun h => ?_)) <;> simp only [h, tyV, z1, z2, d1, d1', y1, y3, y4, wl', d0, d0', ea, zs', evS, tyS, Bool.not_true, Bool.not_false, Nat.reduceAdd, Nat.reduceSub, Nat.reduceMul, Nat.reduceLT, Nat.reduceLeDiff, Nat.reduceEqDiff, reduceCtorEq, List.reduceReplicate, Int.reduceToNat, Int.reduceLE, Int.reduceLT]) | (refine DrawK.intro (by kernel_rfl) (by kernel_rfl) ?_; simp only [tyV, z1, z2, d1, d1', y1, y3, y4, wl', d0, d0', ea, zs', evS, tyS, Bool.not_true, Bool.not_false, Nat.reduceAdd, Nat.reduceSub, Nat.reduceMul, Nat.reduceLT, Nat.reduceLeDiff, Nat.reduceEqDiff, reduceCtorEq, List.reduceReplicate, Int.reduceToNat, Int.reduceLE, Int.reduceLT])))
                      all_goals try (((try simp only [decide_eq_true_eq, decide_eq_false_iff_not, beq_iff_eq, bne_iff_ne, ne_eq, beq_eq_false_iff_ne, bne_eq_false_iff_eq] at *) <;> (try omega)); done)
                      refine CallK.intro c107 rfl kn ?_
                      have h63 : nm < 9223372036854775808 := by
                        rcases hc2 with h | h
                        · exact h
                        · exact absurd h.1 (by simp)
                      have u1 : IntKind.i64.wrap (nm : Int) = (nm : Int) := i64w (by omega) (by omega)
                      have q1 : decide ((nm : Int) < 9223372036854775808) = true := decide_eq_true (by omega)
                      have q1' : decide (nm < 9223372036854775808) = true := decide_eq_true h63
                      simp only [tyV, q1, q1', u1, u25, evS, tyS, Bool.not_true, Bool.not_false, Nat.reduceAdd, Nat.reduceSub, Nat.reduceMul, Nat.reduceLT, Nat.reduceLeDiff, Nat.reduceEqDiff, reduceCtorEq, List.reduceReplicate, Int.reduceToNat, Int.reduceLE, Int.reduceLT]
                      all_goals first | done | rfl | trace_state
                    · rw [if_neg hc]
                      simp only [Tryz.f53, tyV, z1, z2, d1, d1', y1, y3, y4, wl', d0, d0', ea, zs', evS, tyS, Bool.not_true, Bool.not_false, Nat.reduceAdd, Nat.reduceSub, Nat.reduceMul, Nat.reduceLT, Nat.reduceLeDiff, Nat.reduceEqDiff, reduceCtorEq, List.reduceReplicate, Int.reduceToNat, Int.reduceLE, Int.reduceLT]
                      (repeat' (first | (with_reducible refine And.intro ?_ ?_) | ((first | refine GuardK.intro_f (fun h => ?_) (fun h => ?_) | refine GuardK.intro_t (fun h => ?_) (fun h => ?_) | refine CondK.intro (fun h => ?_) (fun h => ?_) | refine PickK.intro (fun h => ?_) (fun h => ?_)) <;> simp only [h, tyV, z1, z2, d1, d1', y1, y3, y4, wl', d0, d0', ea, zs', evS, tyS, Bool.not_true, Bool.not_false, Nat.reduceAdd, Nat.reduceSub, Nat.reduceMul, Nat.reduceLT, Nat.reduceLeDiff, Nat.reduceEqDiff, reduceCtorEq, List.reduceReplicate, Int.reduceToNat, Int.reduceLE, Int.reduceLT]) | (refine DrawK.intro (by kernel_rfl) (by kernel_rfl) ?_; simp only [tyV, z1, z2, d1, d1', y1, y3, y4, wl', d0, d0', ea, zs', evS, tyS, Bool.not_true, Bool.not_false, Nat.reduceAdd, Nat.reduceSub, Nat.reduceMul, Nat.reduceLT, Nat.reduceLeDiff, Nat.reduceEqDiff, reduceCtorEq, List.reduceReplicate, Int.reduceToNat, Int.reduceLE, Int.reduceLT])))
                      all_goals try (((try simp only [decide_eq_true_eq, decide_eq_false_iff_not, beq_iff_eq, bne_iff_ne, ne_eq, beq_eq_false_iff_ne, bne_eq_false_iff_eq] at *) <;> (try omega)); done)
                      refine CallK.intro c107 rfl kn ?_
                      cases nb with
                      | false =>
                        simp only [tyV, evS, tyS, Bool.not_true, Bool.not_false, Nat.reduceAdd, Nat.reduceSub, Nat.reduceMul, Nat.reduceLT, Nat.reduceLeDiff, Nat.reduceEqDiff, reduceCtorEq, List.reduceReplicate, Int.reduceToNat, Int.reduceLE, Int.reduceLT]
                        refine CallK.intro c106 rfl kw ?_
                        simp only [tyV, evS, tyS, Bool.not_true, Bool.not_false, Nat.reduceAdd, Nat.reduceSub, Nat.reduceMul, Nat.reduceLT, Nat.reduceLeDiff, Nat.reduceEqDiff, reduceCtorEq, List.reduceReplicate, Int.reduceToNat, Int.reduceLE, Int.reduceLT]
                        all_goals first | done | rfl | trace_state
                      | true =>
                        have h63 : ¬ nm < 9223372036854775808 := fun h => hc ⟨rfl, .inl h⟩
                        have q1 : decide ((nm : Int) < 9223372036854775808) = false := decide_eq_false (by omega)
                        have q1' : decide (nm < 9223372036854775808) = false := decide_eq_false h63
                        simp only [tyV, q1, q1', evS, tyS, Bool.not_true, Bool.not_false, Nat.reduceAdd, Nat.reduceSub, Nat.reduceMul, Nat.reduceLT, Nat.reduceLeDiff, Nat.reduceEqDiff, reduceCtorEq, List.reduceReplicate, Int.reduceToNat, Int.reduceLE, Int.reduceLT]
                        refine CallK.intro c106 rfl kw ?_
                        simp only [tyV, evS, tyS, Bool.not_true, Bool.not_false, Nat.reduceAdd, Nat.reduceSub, Nat.reduceMul, Nat.reduceLT, Nat.reduceLeDiff, Nat.reduceEqDiff, reduceCtorEq, List.reduceReplicate, Int.reduceToNat, Int.reduceLE, Int.reduceLT]
                        all_goals first | done | rfl | trace_state
                · have y3 : ((atL l 0 : Int) == 40) = false := beq_f (by omega)
                  cases s with
                  | true =>
                    have hT' := hT rfl
                    by_cases hc : nb = true ∧ (nm < 9223372036854775808 ∨ true = true ∧ nm = 9223372036854775808)
                    · rw [if_pos hc]
                      obtain ⟨hc1, hc2⟩ := hc
                      subst hc1
                      simp only [if_true]
                      simp only [Tryz.f53, tyV, z1, z2, d1, d1', y1, y3, wl', d0, d0', ea, zs', tk, hT', evS, tyS, Bool.not_true, Bool.not_false, Nat.reduceAdd, Nat.reduceSub, Nat.reduceMul, Nat.reduceLT, Nat.reduceLeDiff, Nat.reduceEqDiff, reduceCtorEq, List.reduceReplicate, Int.reduceToNat, Int.reduceLE, Int.reduceLT]
                      (repeat' (first | (with_reducible refine And.intro ?_ ?_) | ((first | refine GuardK.intro_f (fun h => ?_) (fun h => ?_) | refine GuardK.intro_t (fun h => ?_) (fun h => ?_) | refine CondK.intro (fun h => ?_) (fun h => ?_) | refine PickK.intro (fun h => ?_) (fun h => ?_)) <;> simp only [h, tyV, z1, z2, d1, d1', y1, y3, wl', d0, d0', ea, zs', tk, hT', evS, tyS, Bool.not_true, Bool.not_false, Nat.reduceAdd, Nat.reduceSub, Nat.reduceMul, Nat.reduceLT, Nat.reduceLeDiff, Nat.reduceEqDiff, reduceCtorEq, List.reduceReplicate, Int.reduceToNat, Int.reduceLE, Int.reduceLT]) | (refine DrawK.intro (by kernel_rfl) (by kernel_rfl) ?_; simp only [tyV, z1, z2, d1, d1', y1, y3, wl', d0, d0', ea, zs', tk, hT', evS, tyS, Bool.not_true, Bool.not_false, Nat.reduceAdd, Nat.reduceSub, Nat.reduceMul, Nat.reduceLT, Nat.reduceLeDiff, Nat.reduceEqDiff, reduceCtorEq, List.reduceReplicate, Int.reduceToNat, Int.reduceLE, Int.reduceLT])))
                      all_goals try (((try simp only [decide_eq_true_eq, decide_eq_false_iff_not, beq_iff_eq, bne_iff_ne, ne_eq, beq_eq_false_iff_ne, bne_eq_false_iff_eq] at *) <;> (try omega)); done)
                      refine CallK.intro c107 rfl kn ?_
                      have u1 : IntKind.i64.wrap (IntKind.i64.wrap (0 - IntKind.i64.wrap (IntKind.u64.wrap ((nm : Int) - 1))) - 1) = -(nm : Int) := neg_back nm (by omega)
                      have dl : decide (0 < nm) = decide ((0 : Int) < (nm : Int)) := by
                        by_cases h : 0 < nm
                        · rw [decide_eq_true h, decide_eq_true (by omega)]
                        · rw [decide_eq_false h, decide_eq_false (by omega)]
                      by_cases h63 : nm < 9223372036854775808
                      · have q1 : decide ((nm : Int) < 9223372036854775808) = true := decide_eq_true (by omega)
                        have q1' : decide (nm < 9223372036854775808) = true := decide_eq_true h63
                        simp only [tyV, q1, q1', u1, u25, dl, evS, tyS, Bool.not_true, Bool.not_false, Nat.reduceAdd, Nat.reduceSub, Nat.reduceMul, Nat.reduceLT, Nat.reduceLeDiff, Nat.reduceEqDiff, reduceCtorEq, List.reduceReplicate, Int.reduceToNat, Int.reduceLE, Int.reduceLT]
                        all_goals first | done | rfl | trace_state
                      · have q1 : decide ((nm : Int) < 9223372036854775808) = false := decide_eq_false (by omega)
                        have q1' : decide (nm < 9223372036854775808) = false := decide_eq_false h63
                        have q2 : ((nm : Int) == 9223372036854775808) = true := by rw [show nm = 9223372036854775808 by omega]; rfl
                        simp only [tyV, q1, q1', q2, u1, u25, dl, evS, tyS, Bool.not_true, Bool.not_false, Nat.reduceAdd, Nat.reduceSub, Nat.reduceMul, Nat.reduceLT, Nat.reduceLeDiff, Nat.reduceEqDiff, reduceCtorEq, List.reduceReplicate, Int.reduceToNat, Int.reduceLE, Int.reduceLT]
                        all_goals first | done | rfl | trace_state
                    · rw [if_neg hc]
                      simp only [Tryz.f53, tyV, z1, z2, d1, d1', y1, y3, wl', d0, d0', ea, zs', tk, hT', evS, tyS, Bool.not_true, Bool.not_false, Nat.reduceAdd, Nat.reduceSub, Nat.reduceMul, Nat.reduceLT, Nat.reduceLeDiff, Nat.reduceEqDiff, reduceCtorEq, List.reduceReplicate, Int.reduceToNat, Int.reduceLE, Int.reduceLT]
                      (repeat' (first | (with_reducible refine And.intro ?_ ?_) | ((first | refine GuardK.intro_f (fun h => ?_) (fun h => ?_) | refine GuardK.intro_t (fun h => ?_) (fun h => ?_) | refine CondK.intro (fun h => ?_) (fun h => ?_) | refine PickK.intro (fun h => ?_) (fun h => ?_)) <;> simp only [h, tyV, z1, z2, d1, d1', y1, y3, wl', d0, d0', ea, zs', tk, hT', evS, tyS, Bool.not_true, Bool.not_false, Nat.reduceAdd, Nat.reduceSub, Nat.reduceMul, Nat.reduceLT, Nat.reduceLeDiff, Nat.reduceEqDiff, reduceCtorEq, List.reduceReplicate, Int.reduceToNat, Int.reduceLE, Int.reduceLT]) | (refine DrawK.intro (by kernel_rfl) (by kernel_rfl) ?_; simp only [tyV, z1, z2, d1, d1', y1, y3, wl', d0, d0', ea, zs', tk, hT', evS, tyS, Bool.not_true, Bool.not_false, Nat.reduceAdd, Nat.reduceSub, Nat.reduceMul, Nat.reduceLT, Nat.reduceLeDiff, Nat.reduceEqDiff, reduceCtorEq, List.reduceReplicate, Int.reduceToNat, Int.reduceLE, Int.reduceLT])))
                      all_goals try (((try simp only [decide_eq_true_eq, decide_eq_false_iff_not, beq_iff_eq, bne_iff_ne, ne_eq, beq_eq_false_iff_ne, bne_eq_false_iff_eq] at *) <;> (try omega)); done)
                      refine CallK.intro c107 rfl kn ?_
                      cases nb with
                      | false =>
                        simp only [tyV, evS, tyS, Bool.not_true, Bool.not_false, Nat.reduceAdd, Nat.reduceSub, Nat.reduceMul, Nat.reduceLT, Nat.reduceLeDiff, Nat.reduceEqDiff, reduceCtorEq, List.reduceReplicate, Int.reduceToNat, Int.reduceLE, Int.reduceLT]
                        refine CallK.intro c106 rfl kw ?_
                        simp only [tyV, evS, tyS, Bool.not_true, Bool.not_false, Nat.reduceAdd, Nat.reduceSub, Nat.reduceMul, Nat.reduceLT, Nat.reduceLeDiff, Nat.reduceEqDiff, reduceCtorEq, List.reduceReplicate, Int.reduceToNat, Int.reduceLE, Int.reduceLT]
                        all_goals first | done | rfl | trace_state
                      | true =>
                        have h63 : ¬ nm < 9223372036854775808 := fun h => hc ⟨rfl, .inl h⟩
                        have hne : nm ≠ 9223372036854775808 := fun h => hc ⟨rfl, .inr ⟨rfl, h⟩⟩
                        have q1 : decide ((nm : Int) < 9223372036854775808) = false := decide_eq_false (by omega)
                        have q1' : decide (nm < 9223372036854775808) = false := decide_eq_false h63
                        have q2 : ((nm : Int) == 9223372036854775808) = false := beq_f (by omega)
                        simp only [tyV, q1, q1', q2, evS, tyS, Bool.not_true, Bool.not_false, Nat.reduceAdd, Nat.reduceSub, Nat.reduceMul, Nat.reduceLT, Nat.reduceLeDiff, Nat.reduceEqDiff, reduceCtorEq, List.reduceReplicate, Int.reduceToNat, Int.reduceLE, Int.reduceLT]
                        refine CallK.intro c106 rfl kw ?_
                        simp only [tyV, evS, tyS, Bool.not_true, Bool.not_false, Nat.reduceAdd, Nat.reduceSub, Nat.reduceMul, Nat.reduceLT, Nat.reduceLeDiff, Nat.reduceEqDiff, reduceCtorEq, List.reduceReplicate, Int.reduceToNat, Int.reduceLE, Int.reduceLT]
                        all_goals first | done | rfl | trace_state
                  | false =>
                    have hF' := hF rfl
                    rw [← hF'] at kn
                    by_cases hc : nb = true ∧ (nm < 9223372036854775808 ∨ false = true ∧ nm = 9223372036854775808)
                    · rw [if_pos hc]
                      obtain ⟨hc1, hc2⟩ := hc
                      subst hc1
                      simp only [Bool.false_eq_true, if_false]
                      simp only [Tryz.f53, tyV, z1, z2, d1, d1', y1, y3, wl', d0, d0', ea, zs', evS, tyS, Bool.not_true, Bool.not_false, Nat.reduceAdd, Nat.reduceSub, Nat.reduceMul, Nat.reduceLT, Nat.reduceLeDiff, Nat.reduceEqDiff, reduceCtorEq, List.reduceReplicate, Int.reduceToNat, Int.reduceLE, Int.reduceLT]
                      (repeat' (first | (with_reducible refine And.intro ?_ ?_) | ((first | refine GuardK.intro_f (fun h => ?_) (fun h => ?_) | refine GuardK.intro_t (fun h => ?_) (fun h => ?_) | refine CondK.intro (fun h => ?_) (fun h => ?_) | refine PickK.intro (fun h => ?_) (fun h => ?_)) <;> simp only [h, tyV, z1, z2, d1, d1', y1, y3, wl', d0, d0', ea, zs', evS, tyS, Bool.not_true, Bool.not_false, Nat.reduceAdd, Nat.reduceSub, Nat.reduceMul, Nat.reduceLT, Nat.reduceLeDiff, Nat.reduceEqDiff, reduceCtorEq, List.reduceReplicate, Int.reduceToNat, Int.reduceLE, Int.reduceLT]) | (refine DrawK.intro (by kernel_rfl) (by kernel_rfl) ?_; simp only [tyV, z1, z2, d1, d1', y1, y3, wl', d0, d0', ea, zs', evS, tyS, Bool.not_true, Bool.not_false, Nat.reduceAdd, Nat.reduceSub, Nat.reduceMul, Nat.reduceLT, Nat.reduceLeDiff, Nat.reduceEqDiff, reduceCtorEq, List.reduceReplicate, Int.reduceToNat, Int.reduceLE, Int.reduceLT])))
                      all_goals try (((try simp only [decide_eq_true_eq, decide_eq_false_iff_not, beq_iff_eq, bne_iff_ne, ne_eq, beq_eq_false_iff_ne, bne_eq_false_iff_eq] at *) <;> (try omega)); done)
                      refine CallK.intro c107 rfl kn ?_
                      have h63 : nm < 9223372036854775808 := by
                        rcases hc2 with h | h
                        · exact h
                        · exact absurd h.1 (by simp)
                      have u1 : IntKind.i64.wrap (nm : Int) = (nm : Int) := i64w (by omega) (by omega)
                      have q1 : decide ((nm : Int) < 9223372036854775808) = true := decide_eq_true (by omega)
                      have q1' : decide (nm < 9223372036854775808) = true := decide_eq_true h63
                      simp only [tyV, q1, q1', u1, u25, evS, tyS, Bool.not_true, Bool.not_false, Nat.reduceAdd, Nat.reduceSub, Nat.reduceMul, Nat.reduceLT, Nat.reduceLeDiff, Nat.reduceEqDiff, reduceCtorEq, List.reduceReplicate, Int.reduceToNat, Int.reduceLE, Int.reduceLT]
                      all_goals first | done | rfl | trace_state
                    · rw [if_neg hc]
                      simp only [Tryz.f53, tyV, z1, z2, d1, d1', y1, y3, wl', d0, d0', ea, zs', evS, tyS, Bool.not_true, Bool.not_false, Nat.reduceAdd, Nat.reduceSub, Nat.reduceMul, Nat.reduceLT, Nat.reduceLeDiff, Nat.reduceEqDiff, reduceCtorEq, List.reduceReplicate, Int.reduceToNat, Int.reduceLE, Int.reduceLT]
                      (repeat' (first | (with_reducible refine And.intro ?_ ?_) | ((first | refine GuardK.intro_f (fun h => ?_) (fun h => ?_) | refine GuardK.intro_t (fun h => ?_) (fun h => ?_) | refine CondK.intro (fun h => ?_) (fun h => ?_) | refine PickK.intro (fun h => ?_) (fun h => ?_)) <;> simp only [h, tyV, z1, z2, d1, d1', y1, y3, wl', d0, d0', ea, zs', evS, tyS, Bool.not_true, Bool.not_false, Nat.reduceAdd, Nat.reduceSub, Nat.reduceMul, Nat.reduceLT, Nat.reduceLeDiff, Nat.reduceEqDiff, reduceCtorEq, List.reduceReplicate, Int.reduceToNat, Int.reduceLE, Int.reduceLT]) | (refine DrawK.intro (by kernel_rfl) (by kernel_rfl) ?_; simp only [tyV, z1, z2, d1, d1', y1, y3, wl', d0, d0', ea, zs', evS, tyS, Bool.not_true, Bool.not_false, Nat.reduceAdd, Nat.reduceSub, Nat.reduceMul, Nat.reduceLT, Nat.reduceLeDiff, Nat.reduceEqDiff, reduceCtorEq, List.reduceReplicate, Int.reduceToNat, Int.reduceLE, Int.reduceLT])))
                      all_goals try (((try simp only [decide_eq_true_eq, decide_eq_false_iff_not, beq_iff_eq, bne_iff_ne, ne_eq, beq_eq_false_iff_ne, bne_eq_false_iff_eq] at *) <;> (try omega)); done)
                      refine CallK.intro c107 rfl kn ?_
                      cases nb with
                      | false =>
                        simp only [tyV, evS, tyS, Bool.not_true, Bool.not_false, Nat.reduceAdd, Nat.reduceSub, Nat.reduceMul, Nat.reduceLT, Nat.reduceLeDiff, Nat.reduceEqDiff, reduceCtorEq, List.reduceReplicate, Int.reduceToNat, Int.reduceLE, Int.reduceLT]
                        refine CallK.intro c106 rfl kw ?_
                        simp only [tyV, evS, tyS, Bool.not_true, Bool.not_false, Nat.reduceAdd, Nat.reduceSub, Nat.reduceMul, Nat.reduceLT, Nat.reduceLeDiff, Nat.reduceEqDiff, reduceCtorEq, List.reduceReplicate, Int.reduceToNat, Int.reduceLE, Int.reduceLT]
                        all_goals first | done | rfl | trace_state
                      | true =>
                        have h63 : ¬ nm < 9223372036854775808 := fun h => hc ⟨rfl, .inl h⟩
                        have q1 : decide ((nm : Int) < 9223372036854775808) = false := decide_eq_false (by omega)
                        have q1' : decide (nm < 9223372036854775808) = false := decide_eq_false h63
                        simp only [tyV, q1, q1', evS, tyS, Bool.not_true, Bool.not_false, Nat.reduceAdd, Nat.reduceSub, Nat.reduceMul, Nat.reduceLT, Nat.reduceLeDiff, Nat.reduceEqDiff, reduceCtorEq, List.reduceReplicate, Int.reduceToNat, Int.reduceLE, Int.reduceLT]
                        refine CallK.intro c106 rfl kw ?_
                        simp only [tyV, evS, tyS, Bool.not_true, Bool.not_false, Nat.reduceAdd, Nat.reduceSub, Nat.reduceMul, Nat.reduceLT, Nat.reduceLeDiff, Nat.reduceEqDiff, reduceCtorEq, List.reduceReplicate, Int.reduceToNat, Int.reduceLE, Int.reduceLT]
                        all_goals first | done | rfl | trace_state
            · have d1 : decide (2 ≤ l.length) = false := decide_eq_false g1
              have d1' : decide ((2 : Int) ≤ (l.length : Int)) = false := decide_eq_false (by omega)
              cases s with
              | true =>
                have hT' := hT rfl
                by_cases hc : nb = true ∧ (nm < 9223372036854775808 ∨ true = true ∧ nm = 9223372036854775808)
                · rw [if_pos hc]
                  obtain ⟨hc1, hc2⟩ := hc
                  subst hc1
                  simp only [if_true]
                  simp only [Tryz.f53, tyV, z1, z2, d1, d1', d0, d0', ea, zs', tk, hT', evS, tyS, Bool.not_true, Bool.not_false, Nat.reduceAdd, Nat.reduceSub, Nat.reduceMul, Nat.reduceLT, Nat.reduceLeDiff, Nat.reduceEqDiff, reduceCtorEq, List.reduceReplicate, Int.reduceToNat, Int.reduceLE, Int.reduceLT]
                  (repeat' (first | (with_reducible refine And.intro ?_ ?_) | ((first | refine GuardK.intro_f (fun h => ?_) (fun h => ?_) | refine GuardK.intro_t (fun h => ?_) (fun h => ?_) | refine CondK.intro (fun h => ?_) (fun h => ?_) | refine PickK.intro (fun h => ?_) (fun h => ?_)) <;> simp only [h, tyV, z1, z2, d1, d1', d0, d0', ea, zs', tk, hT', evS, tyS, Bool.not_true, Bool.not_false, Nat.reduceAdd, Nat.reduceSub, Nat.reduceMul, Nat.reduceLT, Nat.reduceLeDiff, Nat.reduceEqDiff, reduceCtorEq, List.reduceReplicate, Int.reduceToNat, Int.reduceLE, Int.reduceLT]) | (refine DrawK.intro (by kernel_rfl) (by kernel_rfl) ?_; simp only [tyV, z1, z2, d1, d1', d0, d0', ea, zs', tk, hT', evS, tyS, Bool.not_true, Bool.not_false, Nat.reduceAdd, Nat.reduceSub, Nat.reduceMul, Nat.reduceLT, Nat.reduceLeDiff, Nat.reduceEqDiff, reduceCtorEq, List.reduceReplicate, Int.reduceToNat, Int.reduceLE, Int.reduceLT])))
                  all_goals try (((try simp only [decide_eq_true_eq, decide_eq_false_iff_not, beq_iff_eq, bne_iff_ne, ne_eq, beq_eq_false_iff_ne, bne_eq_false_iff_eq] at *) <;> (try omega)); done)
                  refine CallK.intro c107 rfl kn ?_
                  have u1 : IntKind.i64.wrap (IntKind.i64.wrap (0 - IntKind.i64.wrap (IntKind.u64.wrap ((nm : Int) - 1))) - 1) = -(nm : Int) := neg_back nm (by omega)
                  have dl : decide (0 < nm) = decide ((0 : Int) < (nm : Int)) := by
                    by_cases h : 0 < nm
                    · rw [decide_eq_true h, decide_eq_true (by omega)]
                    · rw [decide_eq_false h, decide_eq_false (by omega)]
                  by_cases h63 : nm < 9223372036854775808
                  · have q1 : decide ((nm : Int) < 9223372036854775808) = true := decide_eq_true (by omega)
                    have q1' : decide (nm < 9223372036854775808) = true := decide_eq_true h63
                    simp only [tyV, q1, q1', u1, u25, dl, evS, tyS, Bool.not_true, Bool.not_false, Nat.reduceAdd, Nat.reduceSub, Nat.reduceMul, Nat.reduceLT, Nat.reduceLeDiff, Nat.reduceEqDiff, reduceCtorEq, List.reduceReplicate, Int.reduceToNat, Int.reduceLE, Int.reduceLT]
                    all_goals first | done | rfl | trace_state
                  · have q1 : decide ((nm : Int) < 9223372036854775808) = false := decide_eq_false (by omega)
                    have q1' : decide (nm < 9223372036854775808) = false := decide_eq_false h63
                    have q2 : ((nm : Int) == 9223372036854775808) = true := by rw [show nm = 9223372036854775808 by omega]; rfl
                    simp only [tyV, q1, q1', q2, u1, u25, dl, evS, tyS, Bool.not_true, Bool.not_false, Nat.reduceAdd, Nat.reduceSub, Nat.reduceMul, Nat.reduceLT, Nat.reduceLeDiff, Nat.reduceEqDiff, reduceCtorEq, List.reduceReplicate, Int.reduceToNat, Int.reduceLE, Int.reduceLT]
                    all_goals first | done | rfl | trace_state
                · rw [if_neg hc]
                  simp only [Tryz.f53, tyV, z1, z2, d1, d1', d0, d0', ea, zs', tk, hT', evS, tyS, Bool.not_true, Bool.not_false, Nat.reduceAdd, Nat.reduceSub, Nat.reduceMul, Nat.reduceLT, Nat.reduceLeDiff, Nat.reduceEqDiff, reduceCtorEq, List.reduceReplicate, Int.reduceToNat, Int.reduceLE, Int.reduceLT]
                  (repeat' (first | (with_reducible refine And.intro ?_ ?_) | ((first | refine GuardK.intro_f (fun h => ?_) (fun h => ?_) | refine GuardK.intro_t (fun h => ?_) (fun h => ?_) | refine CondK.intro (fun h => ?_) (fun h => ?_) | refine PickK.intro (fun h => ?_) (fun h => ?_)) <;> simp only [h, tyV, z1, z2, d1, d1', d0, d0', ea, zs', tk, hT', evS, tyS, Bool.not_true, Bool.not_false, Nat.reduceAdd, Nat.reduceSub, Nat.reduceMul, Nat.reduceLT, Nat.reduceLeDiff, Nat.reduceEqDiff, reduceCtorEq, List.reduceReplicate, Int.reduceToNat, Int.reduceLE, Int.reduceLT]) | (refine DrawK.intro (by kernel_rfl) (by kernel_rfl) ?_; simp only [tyV, z1, z2, d1, d1', d0, d0', ea, zs', tk, hT', evS, tyS, Bool.not_true, Bool.not_false, Nat.reduceAdd, Nat.reduceSub, Nat.reduceMul, Nat.reduceLT, Nat.reduceLeDiff, Nat.reduceEqDiff, reduceCtorEq, List.reduceReplicate, Int.reduceToNat, Int.reduceLE, Int.reduceLT])))
                  all_goals try (((try simp only [decide_eq_true_eq, decide_eq_false_iff_not, beq_iff_eq, bne_iff_ne, ne_eq, beq_eq_false_iff_ne, bne_eq_false_iff_eq] at *) <;> (try omega)); done)
                  refine CallK.intro c107 rfl kn ?_
                  cases nb with
                  | false =>
                    simp only [tyV, evS, tyS, Bool.not_true, Bool.not_false, Nat.reduceAdd, Nat.reduceSub, Nat.reduceMul, Nat.reduceLT, Nat.reduceLeDiff, Nat.reduceEqDiff, reduceCtorEq, List.reduceReplicate, Int.reduceToNat, Int.reduceLE, Int.reduceLT]
                    refine CallK.intro c106 rfl kw ?_
                    simp only [tyV, evS, tyS, Bool.not_true, Bool.not_false, Nat.reduceAdd, Nat.reduceSub, Nat.reduceMul, Nat.reduceLT, Nat.reduceLeDiff, Nat.reduceEqDiff, reduceCtorEq, List.reduceReplicate, Int.reduceToNat, Int.reduceLE, Int.reduceLT]
                    all_goals first | done | rfl | trace_state
                  | true =>
                    have h63 : ¬ nm < 9223372036854775808 := fun h => hc ⟨rfl, .inl h⟩
                    have hne : nm ≠ 9223372036854775808 := fun h => hc ⟨rfl, .inr ⟨rfl, h⟩⟩
                    have q1 : decide ((nm : Int) < 9223372036854775808) = false := decide_eq_false (by omega)
                    have q1' : decide (nm < 9223372036854775808) = false := decide_eq_false h63
                    have q2 : ((nm : Int) == 9223372036854775808) = false := beq_f (by omega)
                    simp only [tyV, q1, q1', q2, evS, tyS, Bool.not_true, Bool.not_false, Nat.reduceAdd, Nat.reduceSub, Nat.reduceMul, Nat.reduceLT, Nat.reduceLeDiff, Nat.reduceEqDiff, reduceCtorEq, List.reduceReplicate, Int.reduceToNat, Int.reduceLE, Int.reduceLT]
                    refine CallK.intro c106 rfl kw ?_
                    simp only [tyV, evS, tyS, Bool.not_true, Bool.not_false, Nat.reduceAdd, Nat.reduceSub, Nat.reduceMul, Nat.reduceLT, Nat.reduceLeDiff, Nat.reduceEqDiff, reduceCtorEq, List.reduceReplicate, Int.reduceToNat, Int.reduceLE, Int.reduceLT]
                    all_goals first | done | rfl | trace_state
              | false =>
                have hF' := hF rfl
                rw [← hF'] at kn
                by_cases hc : nb = true ∧ (nm < 9223372036854775808 ∨ false = true ∧ nm = 9223372036854775808)
                · rw [if_pos hc]
                  obtain ⟨hc1, hc2⟩ := hc
                  subst hc1
                  simp only [Bool.false_eq_true, if_false]
                  simp only [Tryz.f53, tyV, z1, z2, d1, d1', d0, d0', ea, zs', evS, tyS, Bool.not_true, Bool.not_false, Nat.reduceAdd, Nat.reduceSub, Nat.reduceMul, Nat.reduceLT, Nat.reduceLeDiff, Nat.reduceEqDiff, reduceCtorEq, List.reduceReplicate, Int.reduceToNat, Int.reduceLE, Int.reduceLT]
                  (repeat' (first | (with_reducible refine And.intro ?_ ?_) | ((first | refine GuardK.intro_f (fun h => ?_) (fun h => ?_) | refine GuardK.intro_t (fun h => ?_) (fun h => ?_) | refine CondK.intro (fun h => ?_) (fun h => ?_) | refine PickK.intro (fun h => ?_) (fun h => ?_)) <;> simp only [h, tyV, z1, z2, d1, d1', d0, d0', ea, zs', evS, tyS, Bool.not_true, Bool.not_false, Nat.reduceAdd, Nat.reduceSub, Nat.reduceMul, Nat.reduceLT, Nat.reduceLeDiff, Nat.reduceEqDiff, reduceCtorEq, List.reduceReplicate, Int.reduceToNat, Int.reduceLE, Int.reduceLT]) | (refine DrawK.intro (by kernel_rfl) (by kernel_rfl) ?_; simp only [tyV, z1, z2, d1, d1', d0, d0', ea, zs', evS, tyS, Bool.not_true, Bool.not_false, Nat.reduceAdd, Nat.reduceSub, Nat.reduceMul, Nat.reduceLT, Nat.reduceLeDiff, Nat.reduceEqDiff, reduceCtorEq, List.reduceReplicate, Int.reduceToNat, Int.reduceLE, Int.reduceLT])))
                  all_goals try (((try simp only [decide_eq_true_eq, decide_eq_false_iff_not, beq_iff_eq, bne_iff_ne, ne_eq, beq_eq_false_iff_ne, bne_eq_false_iff_eq] at *) <;> (try omega)); done)
                  refine CallK.intro c107 rfl kn ?_
                  have h63 : nm < 9223372036854775808 := by
                    rcases hc2 with h | h
                    · exact h
                    · exact absurd h.1 (by simp)
                  have u1 : IntKind.i64.wrap (nm : Int) = (nm : Int) := i64w (by omega) (by omega)
                  have q1 : decide ((nm : Int) < 9223372036854775808) = true := decide_eq_true (by omega)
                  have q1' : decide (nm < 9223372036854775808) = true := decide_eq_true h63
                  simp only [tyV, q1, q1', u1, u25, evS, tyS, Bool.not_true, Bool.not_false, Nat.reduceAdd, Nat.reduceSub, Nat.reduceMul, Nat.reduceLT, Nat.reduceLeDiff, Nat.reduceEqDiff, reduceCtorEq, List.reduceReplicate, Int.reduceToNat, Int.reduceLE, Int.reduceLT]
                  all_goals first | done | rfl | trace_state
                · rw [if_neg hc]
                  simp only [Tryz.f53, tyV, z1, z2, d1, d1', d0, d0', ea, zs', evS, tyS, Bool.not_true, Bool.not_false, Nat.reduceAdd, Nat.reduceSub, Nat.reduceMul, Nat.reduceLT, Nat.reduceLeDiff, Nat.reduceEqDiff, reduceCtorEq, List.reduceReplicate, Int.reduceToNat, Int.reduceLE, Int.reduceLT]
                  (repeat' (first | (with_reducible refine And.intro ?_ ?_) | ((first | refine GuardK.intro_f (fun h => ?_) (fun h => ?_) | refine GuardK.intro_t (fun h => ?_) (fun h => ?_) | refine CondK.intro (fun h => ?_) (fun h => ?_) | refine PickK.intro (fun h => ?_) (fun h => ?_)) <;> simp only [h, tyV, z1, z2, d1, d1', d0, d0', ea, zs', evS, tyS, Bool.not_true, Bool.not_false, Nat.reduceAdd, Nat.reduceSub, Nat.reduceMul, Nat.reduceLT, Nat.reduceLeDiff, Nat.reduceEqDiff, reduceCtorEq, List.reduceReplicate, Int.reduceToNat, Int.reduceLE, Int.reduceLT]) | (refine DrawK.intro (by kernel_rfl) (by kernel_rfl) ?_; simp only [tyV, z1, z2, d1, d1', d0, d0', ea, zs', evS, tyS, Bool.not_true, Bool.not_false, Nat.reduceAdd, Nat.reduceSub, Nat.reduceMul, Nat.reduceLT, Nat.reduceLeDiff, Nat.reduceEqDiff, reduceCtorEq, List.reduceReplicate, Int.reduceToNat, Int.reduceLE, Int.reduceLT])))
                  all_goals try (((try simp only [decide_eq_true_eq, decide_eq_false_iff_not, beq_iff_eq, bne_iff_ne, ne_eq, beq_eq_false_iff_ne, bne_eq_false_iff_eq] at *) <;> (try omega)); done)
                  refine CallK.intro c107 rfl kn ?_
                  cases nb with
                  | false =>
                    simp only [tyV, evS, tyS, Bool.not_true, Bool.not_false, Nat.reduceAdd, Nat.reduceSub, Nat.reduceMul, Nat.reduceLT, Nat.reduceLeDiff, Nat.reduceEqDiff, reduceCtorEq, List.reduceReplicate, Int.reduceToNat, Int.reduceLE, Int.reduceLT]
                    refine CallK.intro c106 rfl kw ?_
                    simp only [tyV, evS, tyS, Bool.not_true, Bool.not_false, Nat.reduceAdd, Nat.reduceSub, Nat.reduceMul, Nat.reduceLT, Nat.reduceLeDiff, Nat.reduceEqDiff, reduceCtorEq, List.reduceReplicate, Int.reduceToNat, Int.reduceLE, Int.reduceLT]
                    all_goals first | done | rfl | trace_state
                  | true =>
                    have h63 : ¬ nm < 9223372036854775808 := fun h => hc ⟨rfl, .inl h⟩
                    have q1 : decide ((nm : Int) < 9223372036854775808) = false := decide_eq_false (by omega)
                    have q1' : decide (nm < 9223372036854775808) = false := decide_eq_false h63
                    simp only [tyV, q1, q1', evS, tyS, Bool.not_true, Bool.not_false, Nat.reduceAdd, Nat.reduceSub, Nat.reduceMul, Nat.reduceLT, Nat.reduceLeDiff, Nat.reduceEqDiff, reduceCtorEq, List.reduceReplicate, Int.reduceToNat, Int.reduceLE, Int.reduceLT]
                    refine CallK.intro c106 rfl kw ?_
                    simp only [tyV, evS, tyS, Bool.not_true, Bool.not_false, Nat.reduceAdd, Nat.reduceSub, Nat.reduceMul, Nat.reduceLT, Nat.reduceLeDiff, Nat.reduceEqDiff, reduceCtorEq, List.reduceReplicate, Int.reduceToNat, Int.reduceLE, Int.reduceLT]
                    all_goals first | done | rfl | trace_state
set_option maxHeartbeats 4000000 in
theorem rparse_ev (l : List UInt8) (hl : l.length ≤ 140737488351232) : Ev Tryz.prog γ 13 [.v (.string ⟨l.toArray⟩)] (.tup [vA (rparseF l).1, .v (.int .i64 (rparseF l).2)]) := by
  refine Ev.of Tryz.func13 rfl ?_
  by_cases hlong : 1026 < l.length
  · have e : rparseF l = (zeroV, 20) := by unfold rparseF; rw [if_pos hlong]
    have d1 : decide (1026 < l.length) = true := decide_eq_true hlong
    have d1' : decide ((1026 : Int) < (l.length : Int)) = true := decide_eq_true (by omega)
    rw [e]
    simp only [vA, vC, zeroV]
    simp only [Tryz.f13, tyV, d1, d1', evS, tyS, Bool.not_true, Bool.not_false, Nat.reduceAdd, Nat.reduceSub, Nat.reduceMul, Nat.reduceLT, Nat.reduceLeDiff, Nat.reduceEqDiff, reduceCtorEq, List.reduceReplicate, Int.reduceToNat, Int.reduceLE, Int.reduceLT]
    all_goals first | done | rfl | trace_state
  · have d1 : decide (1026 < l.length) = false := decide_eq_false hlong
    have d1' : decide ((1026 : Int) < (l.length : Int)) = false := decide_eq_false (by omega)
    have kr := rread_ev (γ := γ) l (by omega)
    have km := rmay_ev (γ := γ) (rreadF l).1
    have kp := rprint_ev (γ := γ) (rreadF l).1 (rreadF_ok l)
    unfold rparseF
    rw [if_neg hlong]
    generalize rreadF l = r at kr km kp ⊢
    obtain ⟨v, ok⟩ := r
    simp only [readR, vA, vC] at kr km kp ⊢
    simp only [Tryz.f13, tyV, d1, d1', evS, tyS, Bool.not_true, Bool.not_false, Nat.reduceAdd, Nat.reduceSub, Nat.reduceMul, Nat.reduceLT, Nat.reduceLeDiff, Nat.reduceEqDiff, reduceCtorEq, List.reduceReplicate, Int.reduceToNat, Int.reduceLE, Int.reduceLT]
    refine CallK.intro c53 rfl kr ?_
    cases ok with
    | false =>
      simp only [Bool.false_and, Bool.false_eq_true, if_false, zeroV]
      simp only [tyV, evS, tyS, Bool.not_true, Bool.not_false, Nat.reduceAdd, Nat.reduceSub, Nat.reduceMul, Nat.reduceLT, Nat.reduceLeDiff, Nat.reduceEqDiff, reduceCtorEq, List.reduceReplicate, Int.reduceToNat, Int.reduceLE, Int.reduceLT]
      all_goals first | done | rfl | trace_state
    | true =>
      cases hm : mayF v with
      | false =>
        rw [hm] at km
        simp only [Bool.true_and, Bool.false_and, Bool.false_eq_true, if_false, zeroV]
        simp only [tyV, evS, tyS, Bool.not_true, Bool.not_false, Nat.reduceAdd, Nat.reduceSub, Nat.reduceMul, Nat.reduceLT, Nat.reduceLeDiff, Nat.reduceEqDiff, reduceCtorEq, List.reduceReplicate, Int.reduceToNat, Int.reduceLE, Int.reduceLT]
        refine CallK.intro c54 rfl km ?_
        simp only [tyV, evS, tyS, Bool.not_true, Bool.not_false, Nat.reduceAdd, Nat.reduceSub, Nat.reduceMul, Nat.reduceLT, Nat.reduceLeDiff, Nat.reduceEqDiff, reduceCtorEq, List.reduceReplicate, Int.reduceToNat, Int.reduceLE, Int.reduceLT]
        all_goals first | done | rfl | trace_state
      | true =>
        rw [hm] at km
        cases hp : (printF v == l) with
        | true =>
          simp only [Bool.true_and, Bool.and_self, if_true]
          simp only [tyV, evS, tyS, Bool.not_true, Bool.not_false, Nat.reduceAdd, Nat.reduceSub, Nat.reduceMul, Nat.reduceLT, Nat.reduceLeDiff, Nat.reduceEqDiff, reduceCtorEq, List.reduceReplicate, Int.reduceToNat, Int.reduceLE, Int.reduceLT]
          refine CallK.intro c54 rfl km ?_
          simp only [tyV, evS, tyS, Bool.not_true, Bool.not_false, Nat.reduceAdd, Nat.reduceSub, Nat.reduceMul, Nat.reduceLT, Nat.reduceLeDiff, Nat.reduceEqDiff, reduceCtorEq, List.reduceReplicate, Int.reduceToNat, Int.reduceLE, Int.reduceLT]
          refine CallK.intro c55 rfl kp ?_
          simp only [tyV, hp, evS, tyS, Bool.not_true, Bool.not_false, Nat.reduceAdd, Nat.reduceSub, Nat.reduceMul, Nat.reduceLT, Nat.reduceLeDiff, Nat.reduceEqDiff, reduceCtorEq, List.reduceReplicate, Int.reduceToNat, Int.reduceLE, Int.reduceLT]
          all_goals first | done | rfl | trace_state
        | false =>
          simp only [Bool.true_and, Bool.and_self, Bool.false_eq_true, if_false, zeroV]
          simp only [tyV, evS, tyS, Bool.not_true, Bool.not_false, Nat.reduceAdd, Nat.reduceSub, Nat.reduceMul, Nat.reduceLT, Nat.reduceLeDiff, Nat.reduceEqDiff, reduceCtorEq, List.reduceReplicate, Int.reduceToNat, Int.reduceLE, Int.reduceLT]
          refine CallK.intro c54 rfl km ?_
          simp only [tyV, evS, tyS, Bool.not_true, Bool.not_false, Nat.reduceAdd, Nat.reduceSub, Nat.reduceMul, Nat.reduceLT, Nat.reduceLeDiff, Nat.reduceEqDiff, reduceCtorEq, List.reduceReplicate, Int.reduceToNat, Int.reduceLE, Int.reduceLT]
          refine CallK.intro c55 rfl kp ?_
          simp only [tyV, hp, evS, tyS, Bool.not_true, Bool.not_false, Nat.reduceAdd, Nat.reduceSub, Nat.reduceMul, Nat.reduceLT, Nat.reduceLeDiff, Nat.reduceEqDiff, reduceCtorEq, List.reduceReplicate, Int.reduceToNat, Int.reduceLE, Int.reduceLT]
          all_goals first | done | rfl | trace_state
end Go.Proofs.YtlobiioioicmhaaGreatDoor
