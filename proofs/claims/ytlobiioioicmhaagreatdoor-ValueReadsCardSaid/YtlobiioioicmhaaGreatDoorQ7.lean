/- Contracts of the functions that the law reaches. -/
import Derived.Test.YtlobiioioicmhaaGreatDoorQ6
import Derived.Test.YtlobiioioicmhaaGreatDoorU3
/- The document's small functions of layer 2, walked. -/
namespace Go.Proofs.YtlobiioioicmhaaGreatDoor
set_option linter.all false
open Go Go.Ev
set_option maxRecDepth 20000
variable {γ : List (Nat × AV)}
theorem c107 : bodyT Tryz.prog 107 := ⟨_, Tryz.func107, by kernel_rfl, by kernel_rfl⟩
theorem c176 : bodyT Tryz.prog 176 := ⟨_, Tryz.func176, by kernel_rfl, by kernel_rfl⟩
theorem c177 : bodyT Tryz.prog 177 := ⟨_, Tryz.func177, by kernel_rfl, by kernel_rfl⟩
theorem c108 : bodyT Tryz.prog 108 := ⟨_, Tryz.func108, by kernel_rfl, by kernel_rfl⟩
theorem c54 : bodyT Tryz.prog 54 := ⟨_, Tryz.func54, by kernel_rfl, by kernel_rfl⟩
theorem strOf_one (k : Nat) : strOf [.v (.int .u8 (k : Int))] = some (.v (.string ⟨#[UInt8.ofNat k]⟩)) := by simp [strOf, bytesOfA]
theorem digits_ev : ∀ (n : Nat), n < 18446744073709551616 → Ev Tryz.prog γ 177 [.v (.int .u64 n)] (.v (.string ⟨(Lib.decDigits n).toArray⟩)) := by
  intro n
  induction n using Nat.strongRecOn with
  | ind n ih =>
    intro hn
    refine Ev.of Tryz.func177 rfl ?_
    by_cases h : n < 10
    · have d1 : decide ((n : Int) < 10) = true := decide_eq_true (by omega)
      have d2 : decide (n < 10) = true := decide_eq_true h
      have e1 : IntKind.u64.wrap (48 + (n : Int)) = ((48 + n : Nat) : Int) := (u64w (by omega) (by omega)).trans (by omega)
      have e2 : IntKind.u8.wrap ((48 + n : Nat) : Int) = ((48 + n : Nat) : Int) := by rw [u8w] <;> omega
      have e3 : Lib.decDigits n = [UInt8.ofNat (48 + n)] := Lib.decDigits_one h
      have e4 := strOf_one (48 + n)
      rw [e3]
      simp only [Tryz.f177, tyV, d1, d2, e1, e2, e4, evS, tyS, Bool.not_true, Bool.not_false, Nat.reduceAdd, Nat.reduceSub, Nat.reduceMul, Nat.reduceLT, Nat.reduceLeDiff, Nat.reduceEqDiff, reduceCtorEq, List.reduceReplicate, Int.reduceToNat, Int.reduceLE, Int.reduceLT]
    · have d1 : decide ((n : Int) < 10) = false := decide_eq_false (by omega)
      have d2 : decide (n < 10) = false := decide_eq_false h
      have e0 : IntKind.u64.wrap ((n : Int).tdiv 10) = ((n / 10 : Nat) : Int) := by
        rw [Int.tdiv_eq_ediv_of_nonneg (by omega)]
        exact (u64w (by omega) (by omega)).trans (by omega)
      have em : (n : Int).tmod 10 = ((n % 10 : Nat) : Int) := by rw [Int.tmod_eq_emod_of_nonneg (by omega)]; omega
      have e1 : IntKind.u64.wrap (48 + ((n % 10 : Nat) : Int)) = ((48 + n % 10 : Nat) : Int) := (u64w (by omega) (by omega)).trans (by omega)
      have e2 : IntKind.u8.wrap ((48 + n % 10 : Nat) : Int) = ((48 + n % 10 : Nat) : Int) := by rw [u8w] <;> omega
      have k := ih (n / 10) (by omega) (by omega)
      have e3 : Lib.decDigits n = Lib.decDigits (n / 10) ++ [UInt8.ofNat (48 + n % 10)] := by rw [Lib.decDigits, dif_neg h]
      have hlen : (Lib.decDigits (n / 10)).length ≤ 20 := by rw [Lib.decDigits_length]; exact Lib.nDigits_le20 _ (by omega)
      have e4 := strOf_one (48 + n % 10)
      rw [e3]
      simp only [Tryz.f177, tyV, d1, d2, e0, em, e1, e2, e4, evS, tyS, Bool.not_true, Bool.not_false, Nat.reduceAdd, Nat.reduceSub, Nat.reduceMul, Nat.reduceLT, Nat.reduceLeDiff, Nat.reduceEqDiff, reduceCtorEq, List.reduceReplicate, Int.reduceToNat, Int.reduceLE, Int.reduceLT]
      (repeat' (first | (with_reducible refine And.intro ?_ ?_) | ((first | refine GuardK.intro_f (fun h => ?_) (fun h => ?_) | refine GuardK.intro_t (fun h => ?_) (fun h => ?_) | refine CondK.intro (fun h => ?_) (fun h => ?_) | refine PickK.intro (fun h => ?_) (fun h => ?_)) <;> simp only [h, tyV, d1, d2, e0, em, e1, e2, e4, evS, tyS, Bool.not_true, Bool.not_false, Nat.reduceAdd, Nat.reduceSub, Nat.reduceMul, Nat.reduceLT, Nat.reduceLeDiff, Nat.reduceEqDiff, reduceCtorEq, List.reduceReplicate, Int.reduceToNat, Int.reduceLE, Int.reduceLT]) | (refine DrawK.text (by kernel_rfl) (by kernel_rfl) ?_; simp only [tyV, d1, d2, e0, em, e1, e2, e4, evS, tyS, Bool.not_true, Bool.not_false, Nat.reduceAdd, Nat.reduceSub, Nat.reduceMul, Nat.reduceLT, Nat.reduceLeDiff, Nat.reduceEqDiff, reduceCtorEq, List.reduceReplicate, Int.reduceToNat, Int.reduceLE, Int.reduceLT])))
      all_goals try (((try simp only [decide_eq_true_eq, decide_eq_false_iff_not, beq_iff_eq, bne_iff_ne, ne_eq, beq_eq_false_iff_ne, bne_eq_false_iff_eq] at *) <;> (try omega)); done)
      refine CallK.intro c177 rfl k ?_
      simp only [tyV, d1, d2, e0, em, e1, e2, e4, evS, tyS, Bool.not_true, Bool.not_false, Nat.reduceAdd, Nat.reduceSub, Nat.reduceMul, Nat.reduceLT, Nat.reduceLeDiff, Nat.reduceEqDiff, reduceCtorEq, List.reduceReplicate, Int.reduceToNat, Int.reduceLE, Int.reduceLT]
      (repeat' (first | (with_reducible refine And.intro ?_ ?_) | ((first | refine GuardK.intro_f (fun h => ?_) (fun h => ?_) | refine GuardK.intro_t (fun h => ?_) (fun h => ?_) | refine CondK.intro (fun h => ?_) (fun h => ?_) | refine PickK.intro (fun h => ?_) (fun h => ?_)) <;> simp only [h, tyV, d1, d2, e0, em, e1, e2, e4, evS, tyS, Bool.not_true, Bool.not_false, Nat.reduceAdd, Nat.reduceSub, Nat.reduceMul, Nat.reduceLT, Nat.reduceLeDiff, Nat.reduceEqDiff, reduceCtorEq, List.reduceReplicate, Int.reduceToNat, Int.reduceLE, Int.reduceLT]) | (refine DrawK.intro (by kernel_rfl) (by kernel_rfl) ?_; simp only [tyV, d1, d2, e0, em, e1, e2, e4, evS, tyS, Bool.not_true, Bool.not_false, Nat.reduceAdd, Nat.reduceSub, Nat.reduceMul, Nat.reduceLT, Nat.reduceLeDiff, Nat.reduceEqDiff, reduceCtorEq, List.reduceReplicate, Int.reduceToNat, Int.reduceLE, Int.reduceLT])))
      all_goals try (((try simp only [decide_eq_true_eq, decide_eq_false_iff_not, beq_iff_eq, bne_iff_ne, ne_eq, beq_eq_false_iff_ne, bne_eq_false_iff_eq] at *) <;> (try omega)); done)
      all_goals first | rfl | (simp; done) | (simp; omega) | trace_state
theorem whole_ev (n : Int) (h0 : -9223372036854775808 ≤ n) (h1 : n ≤ 9223372036854775807) : Ev Tryz.prog γ 108 [.v (.int .i64 n)] (.v (.string ⟨(Lib.itoa n).toArray⟩)) := by
  refine Ev.of Tryz.func108 rfl ?_
  by_cases h : n < 0
  · have d1 : decide (n < 0) = true := decide_eq_true h
    have e1 : IntKind.i64.wrap (n + 1) = n + 1 := i64w (by omega) (by omega)
    have e2 : IntKind.i64.wrap (0 - (n + 1)) = 0 - (n + 1) := i64w (by omega) (by omega)
    have e3 : IntKind.u64.wrap (0 - (n + 1)) = 0 - (n + 1) := u64w (by omega) (by omega)
    have e4 : IntKind.u64.wrap (0 - (n + 1) + 1) = ((n.natAbs : Nat) : Int) := (u64w (by omega) (by omega)).trans (by omega)
    have k := digits_ev (γ := γ) n.natAbs (by omega)
    have hlen : (Lib.decDigits n.natAbs).length ≤ 20 := by rw [Lib.decDigits_length]; exact Lib.nDigits_le20 _ (by omega)
    have e5 : Lib.itoa n = 45 :: Lib.decDigits n.natAbs := by unfold Lib.itoa; rw [if_pos h]
    rw [e5]
    simp only [Tryz.f108, tyV, d1, e1, e2, e3, e4, evS, tyS, Bool.not_true, Bool.not_false, Nat.reduceAdd, Nat.reduceSub, Nat.reduceMul, Nat.reduceLT, Nat.reduceLeDiff, Nat.reduceEqDiff, reduceCtorEq, List.reduceReplicate, Int.reduceToNat, Int.reduceLE, Int.reduceLT]
    refine CallK.intro c177 rfl k ?_
    simp only [tyV, evS, tyS, Bool.not_true, Bool.not_false, Nat.reduceAdd, Nat.reduceSub, Nat.reduceMul, Nat.reduceLT, Nat.reduceLeDiff, Nat.reduceEqDiff, reduceCtorEq, List.reduceReplicate, Int.reduceToNat, Int.reduceLE, Int.reduceLT]
    all_goals try (((try simp only [decide_eq_true_eq, decide_eq_false_iff_not, beq_iff_eq, bne_iff_ne, ne_eq, beq_eq_false_iff_ne, bne_eq_false_iff_eq] at *) <;> (try omega)); done)
    all_goals first | rfl | (simp; done) | (simp; omega) | trace_state
  · have d1 : decide (n < 0) = false := decide_eq_false h
    have e3 : IntKind.u64.wrap n = ((n.toNat : Nat) : Int) := (u64w (by omega) (by omega)).trans (by omega)
    have k := digits_ev (γ := γ) n.toNat (by omega)
    have e5 : Lib.itoa n = Lib.decDigits n.toNat := by unfold Lib.itoa; rw [if_neg h]
    rw [e5]
    simp only [Tryz.f108, tyV, d1, e3, evS, tyS, Bool.not_true, Bool.not_false, Nat.reduceAdd, Nat.reduceSub, Nat.reduceMul, Nat.reduceLT, Nat.reduceLeDiff, Nat.reduceEqDiff, reduceCtorEq, List.reduceReplicate, Int.reduceToNat, Int.reduceLE, Int.reduceLT]
    refine CallK.intro c177 rfl k ?_
    simp only [tyV, evS, tyS, Bool.not_true, Bool.not_false, Nat.reduceAdd, Nat.reduceSub, Nat.reduceMul, Nat.reduceLT, Nat.reduceLeDiff, Nat.reduceEqDiff, reduceCtorEq, List.reduceReplicate, Int.reduceToNat, Int.reduceLE, Int.reduceLT]
    all_goals try (((try simp only [decide_eq_true_eq, decide_eq_false_iff_not, beq_iff_eq, bne_iff_ne, ne_eq, beq_eq_false_iff_ne, bne_eq_false_iff_eq] at *) <;> (try omega)); done)
    all_goals first | rfl | trace_state
def numA (r : Nat × Bool) : AV := .tup [.v (.int .u64 r.1), .v (.bool r.2)]
set_option maxHeartbeats 2000000 in
theorem number_ev (l : List UInt8) (hl : l.length ≤ 140737488351232) : Ev Tryz.prog γ 107 [.v (.string ⟨l.toArray⟩)] (numA (numR l)) := by
  refine Ev.of Tryz.func107 rfl ?_
  have ea : ∀ j, (l.getD j 0).toNat = atL l j := fun _ => rfl
  by_cases h0 : l = []
  · subst h0
    have e : numA (numR []) = .tup [.v (.int .u64 0), .v (.bool false)] := rfl
    rw [e]
    simp only [Tryz.f107, tyV, evS, tyS, Bool.not_true, Bool.not_false, Nat.reduceAdd, Nat.reduceSub, Nat.reduceMul, Nat.reduceLT, Nat.reduceLeDiff, Nat.reduceEqDiff, reduceCtorEq, List.reduceReplicate, Int.reduceToNat, Int.reduceLE, Int.reduceLT]
    all_goals first | rfl | trace_state
  · have z0 : (l == []) = false := beq_bytes_f h0
    have hR : numR l = numG l 0 := by unfold numR; rw [if_neg h0]
    rw [hR]
    simp only [Tryz.f107, tyV, z0, evS, tyS, Bool.not_true, Bool.not_false, Nat.reduceAdd, Nat.reduceSub, Nat.reduceMul, Nat.reduceLT, Nat.reduceLeDiff, Nat.reduceEqDiff, reduceCtorEq, List.reduceReplicate, Int.reduceToNat, Int.reduceLE, Int.reduceLT]
    refine LoopK.intro (fun x : Nat × Nat => ⟨⟨47, [(5, .v (.int .i64 x.1)), (4, .v (.int .u64 x.2)), (0, .v (.string ⟨l.toArray⟩))], γ⟩, []⟩) (fun x => x.1 ≤ l.length ∧ x.2 < 18446744073709551616 ∧ numG (l.drop x.1) x.2 = numG l 0) (fun x => l.length - x.1) (0, 0) ?_ ⟨Nat.zero_le _, by decide, by rw [List.drop_zero]⟩ ?_
    · simp only [evS, tyS, Bool.not_true, Bool.not_false, Nat.reduceAdd, Nat.reduceSub, Nat.reduceMul, Nat.reduceLT, Nat.reduceLeDiff, Nat.reduceEqDiff, reduceCtorEq, List.reduceReplicate, Int.reduceToNat, Int.reduceLE, Int.reduceLT]
      (repeat' (first | (with_reducible refine And.intro ?_ ?_) | ((first | refine GuardK.intro_f (fun h => ?_) (fun h => ?_) | refine GuardK.intro_t (fun h => ?_) (fun h => ?_) | refine CondK.intro (fun h => ?_) (fun h => ?_) | refine PickK.intro (fun h => ?_) (fun h => ?_)) <;> simp only [h, evS, tyS, Bool.not_true, Bool.not_false, Nat.reduceAdd, Nat.reduceSub, Nat.reduceMul, Nat.reduceLT, Nat.reduceLeDiff, Nat.reduceEqDiff, reduceCtorEq, List.reduceReplicate, Int.reduceToNat, Int.reduceLE, Int.reduceLT]) | (refine DrawK.intro (by kernel_rfl) (by kernel_rfl) ?_; simp only [evS, tyS, Bool.not_true, Bool.not_false, Nat.reduceAdd, Nat.reduceSub, Nat.reduceMul, Nat.reduceLT, Nat.reduceLeDiff, Nat.reduceEqDiff, reduceCtorEq, List.reduceReplicate, Int.reduceToNat, Int.reduceLE, Int.reduceLT])))
      all_goals first | rfl | exact .inl rfl
    · rintro ⟨j, n⟩ ⟨hj, hn, hs⟩
      simp only at hj hn hs
      by_cases hjl : j < l.length
      · rw [drop_at hjl, numG_cons, ea] at hs
        have hb : atL l j < 256 := (l.getD j 0).toNat_lt
        by_cases hbad : atL l j < 48 ∨ 57 < atL l j ∨ 1844674407370955161 < n ∨ n = 1844674407370955161 ∧ 53 < atL l j
        · rw [if_pos hbad] at hs
          have e : numA (numG l 0) = .tup [.v (.int .u64 0), .v (.bool false)] := by rw [← hs]; rfl
          rw [e]
          simp only [tyV, ea, evS, tyS, Bool.not_true, Bool.not_false, Nat.reduceAdd, Nat.reduceSub, Nat.reduceMul, Nat.reduceLT, Nat.reduceLeDiff, Nat.reduceEqDiff, reduceCtorEq, List.reduceReplicate, Int.reduceToNat, Int.reduceLE, Int.reduceLT]
          (repeat' (first | (with_reducible refine And.intro ?_ ?_) | ((first | refine GuardK.intro_f (fun h => ?_) (fun h => ?_) | refine GuardK.intro_t (fun h => ?_) (fun h => ?_) | refine CondK.intro (fun h => ?_) (fun h => ?_) | refine PickK.intro (fun h => ?_) (fun h => ?_)) <;> simp only [h, tyV, ea, evS, tyS, Bool.not_true, Bool.not_false, Nat.reduceAdd, Nat.reduceSub, Nat.reduceMul, Nat.reduceLT, Nat.reduceLeDiff, Nat.reduceEqDiff, reduceCtorEq, List.reduceReplicate, Int.reduceToNat, Int.reduceLE, Int.reduceLT]) | (refine DrawK.intro (by kernel_rfl) (by kernel_rfl) ?_; simp only [tyV, ea, evS, tyS, Bool.not_true, Bool.not_false, Nat.reduceAdd, Nat.reduceSub, Nat.reduceMul, Nat.reduceLT, Nat.reduceLeDiff, Nat.reduceEqDiff, reduceCtorEq, List.reduceReplicate, Int.reduceToNat, Int.reduceLE, Int.reduceLT])))
          all_goals try (((try simp only [decide_eq_true_eq, decide_eq_false_iff_not, beq_iff_eq, bne_iff_ne, ne_eq, beq_eq_false_iff_ne, bne_eq_false_iff_eq] at *) <;> (try omega)); done)
          all_goals trace_state
        · rw [if_neg hbad] at hs
          have w1 : IntKind.u64.wrap ((n : Int) * 10) = ((n * 10 : Nat) : Int) := (u64w (by omega) (by omega)).trans (by omega)
          have w2 : IntKind.u8.wrap ((atL l j : Int) - 48) = ((atL l j - 48 : Nat) : Int) := (u8w (by omega) (by omega)).trans (by omega)
          have w3 : IntKind.u64.wrap ((atL l j - 48 : Nat) : Int) = ((atL l j - 48 : Nat) : Int) := u64w (by omega) (by omega)
          have w4 : IntKind.u64.wrap (((n * 10 : Nat) : Int) + ((atL l j - 48 : Nat) : Int)) = ((n * 10 + (atL l j - 48) : Nat) : Int) := (u64w (by omega) (by omega)).trans (by omega)
          have w5 : IntKind.i64.wrap ((j : Int) + 1) = ((j + 1 : Nat) : Int) := by rw [i64w] <;> omega
          simp only [tyV, ea, w1, w2, w3, w4, w5, evS, tyS, Bool.not_true, Bool.not_false, Nat.reduceAdd, Nat.reduceSub, Nat.reduceMul, Nat.reduceLT, Nat.reduceLeDiff, Nat.reduceEqDiff, reduceCtorEq, List.reduceReplicate, Int.reduceToNat, Int.reduceLE, Int.reduceLT]
          (repeat' (first | (with_reducible refine And.intro ?_ ?_) | ((first | refine GuardK.intro_f (fun h => ?_) (fun h => ?_) | refine GuardK.intro_t (fun h => ?_) (fun h => ?_) | refine CondK.intro (fun h => ?_) (fun h => ?_) | refine PickK.intro (fun h => ?_) (fun h => ?_)) <;> simp only [h, tyV, ea, w1, w2, w3, w4, w5, evS, tyS, Bool.not_true, Bool.not_false, Nat.reduceAdd, Nat.reduceSub, Nat.reduceMul, Nat.reduceLT, Nat.reduceLeDiff, Nat.reduceEqDiff, reduceCtorEq, List.reduceReplicate, Int.reduceToNat, Int.reduceLE, Int.reduceLT]) | (refine DrawK.intro (by kernel_rfl) (by kernel_rfl) ?_; simp only [tyV, ea, w1, w2, w3, w4, w5, evS, tyS, Bool.not_true, Bool.not_false, Nat.reduceAdd, Nat.reduceSub, Nat.reduceMul, Nat.reduceLT, Nat.reduceLeDiff, Nat.reduceEqDiff, reduceCtorEq, List.reduceReplicate, Int.reduceToNat, Int.reduceLE, Int.reduceLT])))
          all_goals try (((try simp only [decide_eq_true_eq, decide_eq_false_iff_not, beq_iff_eq, bne_iff_ne, ne_eq, beq_eq_false_iff_ne, bne_eq_false_iff_eq] at *) <;> (try omega)); done)
          all_goals refine loopC.intro (j + 1, n * 10 + (atL l j - 48)) ⟨by show j + 1 ≤ _; omega, by show n * 10 + (atL l j - 48) < _; omega, hs⟩ ?_ (by show l.length - (j + 1) < l.length - j; omega)
          all_goals
            simp only [evS, tyS, Bool.not_true, Bool.not_false, Nat.reduceAdd, Nat.reduceSub, Nat.reduceMul, Nat.reduceLT, Nat.reduceLeDiff, Nat.reduceEqDiff, reduceCtorEq, List.reduceReplicate, Int.reduceToNat, Int.reduceLE, Int.reduceLT]
          all_goals first | done | rfl | exact .inl rfl | trace_state
      · have hd : l.drop j = [] := List.drop_eq_nil_of_le (by omega)
        rw [hd, numG_nil] at hs
        rw [← hs]
        simp only [tyV, numA, evS, tyS, Bool.not_true, Bool.not_false, Nat.reduceAdd, Nat.reduceSub, Nat.reduceMul, Nat.reduceLT, Nat.reduceLeDiff, Nat.reduceEqDiff, reduceCtorEq, List.reduceReplicate, Int.reduceToNat, Int.reduceLE, Int.reduceLT]
        (repeat' (first | (with_reducible refine And.intro ?_ ?_) | ((first | refine GuardK.intro_f (fun h => ?_) (fun h => ?_) | refine GuardK.intro_t (fun h => ?_) (fun h => ?_) | refine CondK.intro (fun h => ?_) (fun h => ?_) | refine PickK.intro (fun h => ?_) (fun h => ?_)) <;> simp only [h, tyV, numA, evS, tyS, Bool.not_true, Bool.not_false, Nat.reduceAdd, Nat.reduceSub, Nat.reduceMul, Nat.reduceLT, Nat.reduceLeDiff, Nat.reduceEqDiff, reduceCtorEq, List.reduceReplicate, Int.reduceToNat, Int.reduceLE, Int.reduceLT]) | (refine DrawK.intro (by kernel_rfl) (by kernel_rfl) ?_; simp only [tyV, numA, evS, tyS, Bool.not_true, Bool.not_false, Nat.reduceAdd, Nat.reduceSub, Nat.reduceMul, Nat.reduceLT, Nat.reduceLeDiff, Nat.reduceEqDiff, reduceCtorEq, List.reduceReplicate, Int.reduceToNat, Int.reduceLE, Int.reduceLT])))
        all_goals try (((try simp only [decide_eq_true_eq, decide_eq_false_iff_not, beq_iff_eq, bne_iff_ne, ne_eq, beq_eq_false_iff_ne, bne_eq_false_iff_eq] at *) <;> (try omega)); done)
        all_goals first | done | rfl | trace_state
/-- Which digit of sixteen is it? -/
theorem hex_at (k : Nat) (h : k < 16) : (([48, 49, 50, 51, 52, 53, 54, 55, 56, 57, 97, 98, 99, 100, 101, 102] : List UInt8).getD k 0).toNat = if k < 10 then 48 + k else 87 + k := by
  have : ∀ i : Fin 16, (([48, 49, 50, 51, 52, 53, 54, 55, 56, 57, 97, 98, 99, 100, 101, 102] : List UInt8).getD i.val 0).toNat = if i.val < 10 then 48 + i.val else 87 + i.val := by decide
  exact this ⟨k, h⟩
theorem nibble_ev (n : Nat) (hn : n < 256) : Ev Tryz.prog γ 176 [.v (.int .u8 n)] (.v (.int .i64 (hexN n))) := by
  refine Ev.of Tryz.func176 rfl ?_
  simp only [Tryz.f176, tyV, evS, tyS, Bool.not_true, Bool.not_false, Nat.reduceAdd, Nat.reduceSub, Nat.reduceMul, Nat.reduceLT, Nat.reduceLeDiff, Nat.reduceEqDiff, reduceCtorEq, List.reduceReplicate, Int.reduceToNat, Int.reduceLE, Int.reduceLT]
  refine LoopK.intro (fun j : Nat => ⟨⟨13, [(3, .v (.int .i64 j)), (0, .v (.int .u8 n))], γ⟩, []⟩) (fun j => j ≤ 16 ∧ ∀ k, k < j → n ≠ if k < 10 then 48 + k else 87 + k) (fun j => 16 - j) 0 ?_ ⟨Nat.zero_le _, fun k hk => absurd hk (Nat.not_lt_zero _)⟩ ?_
  · simp only [evS, tyS, Bool.not_true, Bool.not_false, Nat.reduceAdd, Nat.reduceSub, Nat.reduceMul, Nat.reduceLT, Nat.reduceLeDiff, Nat.reduceEqDiff, reduceCtorEq, List.reduceReplicate, Int.reduceToNat, Int.reduceLE, Int.reduceLT]
    all_goals first | rfl | exact .inl rfl
  · rintro j ⟨hj, hs⟩
    by_cases hj2 : j < 16
    · have hx := hex_at j hj2
      have w5 : IntKind.i64.wrap ((j : Int) + 1) = ((j + 1 : Nat) : Int) := by rw [i64w] <;> omega
      generalize hg : (([48, 49, 50, 51, 52, 53, 54, 55, 56, 57, 97, 98, 99, 100, 101, 102] : List UInt8).getD j 0).toNat = q at hx
      by_cases he : n = q
      · have z : ((q : Int) == (n : Int)) = true := by rw [he]; simp
        have hv : hexN n = (j : Int) := by
          rw [he, hx]
          unfold hexN
          split
          · rw [if_pos (by omega)]; omega
          · rw [if_neg (by omega), if_pos (by omega)]; omega
        rw [hv]
        simp only [tyV, hg, z, evS, tyS, Bool.not_true, Bool.not_false, Nat.reduceAdd, Nat.reduceSub, Nat.reduceMul, Nat.reduceLT, Nat.reduceLeDiff, Nat.reduceEqDiff, reduceCtorEq, List.reduceReplicate, Int.reduceToNat, Int.reduceLE, Int.reduceLT]
        (repeat' (first | (with_reducible refine And.intro ?_ ?_) | ((first | refine GuardK.intro_f (fun h => ?_) (fun h => ?_) | refine GuardK.intro_t (fun h => ?_) (fun h => ?_) | refine CondK.intro (fun h => ?_) (fun h => ?_) | refine PickK.intro (fun h => ?_) (fun h => ?_)) <;> simp only [h, tyV, hg, z, evS, tyS, Bool.not_true, Bool.not_false, Nat.reduceAdd, Nat.reduceSub, Nat.reduceMul, Nat.reduceLT, Nat.reduceLeDiff, Nat.reduceEqDiff, reduceCtorEq, List.reduceReplicate, Int.reduceToNat, Int.reduceLE, Int.reduceLT]) | (refine DrawK.intro (by kernel_rfl) (by kernel_rfl) ?_; simp only [tyV, hg, z, evS, tyS, Bool.not_true, Bool.not_false, Nat.reduceAdd, Nat.reduceSub, Nat.reduceMul, Nat.reduceLT, Nat.reduceLeDiff, Nat.reduceEqDiff, reduceCtorEq, List.reduceReplicate, Int.reduceToNat, Int.reduceLE, Int.reduceLT])))
        all_goals try (((try simp only [decide_eq_true_eq, decide_eq_false_iff_not, beq_iff_eq, bne_iff_ne, ne_eq, beq_eq_false_iff_ne, bne_eq_false_iff_eq] at *) <;> (try omega)); done)
        all_goals first | done | rfl | trace_state
      · have z : ((q : Int) == (n : Int)) = false := beq_f (by omega)
        simp only [tyV, hg, z, w5, evS, tyS, Bool.not_true, Bool.not_false, Nat.reduceAdd, Nat.reduceSub, Nat.reduceMul, Nat.reduceLT, Nat.reduceLeDiff, Nat.reduceEqDiff, reduceCtorEq, List.reduceReplicate, Int.reduceToNat, Int.reduceLE, Int.reduceLT]
        (repeat' (first | (with_reducible refine And.intro ?_ ?_) | ((first | refine GuardK.intro_f (fun h => ?_) (fun h => ?_) | refine GuardK.intro_t (fun h => ?_) (fun h => ?_) | refine CondK.intro (fun h => ?_) (fun h => ?_) | refine PickK.intro (fun h => ?_) (fun h => ?_)) <;> simp only [h, tyV, hg, z, w5, evS, tyS, Bool.not_true, Bool.not_false, Nat.reduceAdd, Nat.reduceSub, Nat.reduceMul, Nat.reduceLT, Nat.reduceLeDiff, Nat.reduceEqDiff, reduceCtorEq, List.reduceReplicate, Int.reduceToNat, Int.reduceLE, Int.reduceLT]) | (refine DrawK.intro (by kernel_rfl) (by kernel_rfl) ?_; simp only [tyV, hg, z, w5, evS, tyS, Bool.not_true, Bool.not_false, Nat.reduceAdd, Nat.reduceSub, Nat.reduceMul, Nat.reduceLT, Nat.reduceLeDiff, Nat.reduceEqDiff, reduceCtorEq, List.reduceReplicate, Int.reduceToNat, Int.reduceLE, Int.reduceLT])))
        all_goals try (((try simp only [decide_eq_true_eq, decide_eq_false_iff_not, beq_iff_eq, bne_iff_ne, ne_eq, beq_eq_false_iff_ne, bne_eq_false_iff_eq] at *) <;> (try omega)); done)
        refine loopC.intro (j + 1) ⟨by omega, fun k hk => ?_⟩ ?_ (by omega)
        · by_cases hkj : k = j
          · subst hkj; rw [← hx]; exact he
          · exact hs k (by omega)
        · simp only [evS, tyS, Bool.not_true, Bool.not_false, Nat.reduceAdd, Nat.reduceSub, Nat.reduceMul, Nat.reduceLT, Nat.reduceLeDiff, Nat.reduceEqDiff, reduceCtorEq, List.reduceReplicate, Int.reduceToNat, Int.reduceLE, Int.reduceLT]
          all_goals first | done | rfl | exact .inl rfl | trace_state
    · have hj16 : j = 16 := by omega
      subst hj16
      have hv : hexN n = -1 := by
        unfold hexN
        rw [if_neg, if_neg]
        · intro hc; have := hs (n - 87) (by omega); rw [if_neg (by omega)] at this; omega
        · intro hc; have := hs (n - 48) (by omega); rw [if_pos (by omega)] at this; omega
      rw [hv]
      simp only [tyV, evS, tyS, Bool.not_true, Bool.not_false, Nat.reduceAdd, Nat.reduceSub, Nat.reduceMul, Nat.reduceLT, Nat.reduceLeDiff, Nat.reduceEqDiff, reduceCtorEq, List.reduceReplicate, Int.reduceToNat, Int.reduceLE, Int.reduceLT]
      (repeat' (first | (with_reducible refine And.intro ?_ ?_) | ((first | refine GuardK.intro_f (fun h => ?_) (fun h => ?_) | refine GuardK.intro_t (fun h => ?_) (fun h => ?_) | refine CondK.intro (fun h => ?_) (fun h => ?_) | refine PickK.intro (fun h => ?_) (fun h => ?_)) <;> simp only [h, tyV, evS, tyS, Bool.not_true, Bool.not_false, Nat.reduceAdd, Nat.reduceSub, Nat.reduceMul, Nat.reduceLT, Nat.reduceLeDiff, Nat.reduceEqDiff, reduceCtorEq, List.reduceReplicate, Int.reduceToNat, Int.reduceLE, Int.reduceLT]) | (refine DrawK.intro (by kernel_rfl) (by kernel_rfl) ?_; simp only [tyV, evS, tyS, Bool.not_true, Bool.not_false, Nat.reduceAdd, Nat.reduceSub, Nat.reduceMul, Nat.reduceLT, Nat.reduceLeDiff, Nat.reduceEqDiff, reduceCtorEq, List.reduceReplicate, Int.reduceToNat, Int.reduceLE, Int.reduceLT])))
      all_goals try (((try simp only [decide_eq_true_eq, decide_eq_false_iff_not, beq_iff_eq, bne_iff_ne, ne_eq, beq_eq_false_iff_ne, bne_eq_false_iff_eq] at *) <;> (try omega)); done)
      all_goals first | done | rfl | trace_state
theorem rmay_ev (v : VD) : Ev Tryz.prog γ 54 [vA v] (.v (.bool (mayF v))) := by
  refine Ev.of Tryz.func54 rfl ?_
  obtain ⟨k, n, x, a, b, t⟩ := v
  simp only [vA, vC]
  by_cases h4 : k = 4
  · subst h4
    have z : ((4 : Int) == 4) = true := rfl
    have e : decide ((t.length : Int) ≤ 256) = decide (t.length ≤ 256) := by
      by_cases h : t.length ≤ 256
      · rw [decide_eq_true h, decide_eq_true (by omega)]
      · rw [decide_eq_false h, decide_eq_false (by omega)]
    have em : mayF ⟨4, n, x, a, b, t⟩ = decide (t.length ≤ 256) := by unfold mayF; rw [if_neg (by show ¬ ((4 : Int) = 1 ∨ (4 : Int) = 2 ∨ (4 : Int) = 3); decide), if_pos rfl]
    rw [em]
    simp only [Tryz.f54, tyV, z, e, evS, tyS, Bool.not_true, Bool.not_false, Nat.reduceAdd, Nat.reduceSub, Nat.reduceMul, Nat.reduceLT, Nat.reduceLeDiff, Nat.reduceEqDiff, reduceCtorEq, List.reduceReplicate, Int.reduceToNat, Int.reduceLE, Int.reduceLT]
    all_goals first | done | rfl | trace_state
  · have z4 := beq_f h4
    by_cases h5 : k = 5
    · subst h5
      have z : ((5 : Int) == 5) = true := rfl
      have em : mayF ⟨5, n, x, a, b, t⟩ = ((n == 0) || (n == 1)) := by unfold mayF; rw [if_neg (by show ¬ ((5 : Int) = 1 ∨ (5 : Int) = 2 ∨ (5 : Int) = 3); decide), if_neg (by show ¬ ((5 : Int) = 4); decide), if_pos rfl]
      rw [em]
      cases hn : (n == 0) with
      | true =>
        simp only [Tryz.f54, tyV, z4, z, hn, evS, tyS, Bool.not_true, Bool.not_false, Nat.reduceAdd, Nat.reduceSub, Nat.reduceMul, Nat.reduceLT, Nat.reduceLeDiff, Nat.reduceEqDiff, reduceCtorEq, List.reduceReplicate, Int.reduceToNat, Int.reduceLE, Int.reduceLT]
        all_goals first | done | rfl | trace_state
      | false =>
        simp only [Tryz.f54, tyV, z4, z, hn, evS, tyS, Bool.not_true, Bool.not_false, Nat.reduceAdd, Nat.reduceSub, Nat.reduceMul, Nat.reduceLT, Nat.reduceLeDiff, Nat.reduceEqDiff, reduceCtorEq, List.reduceReplicate, Int.reduceToNat, Int.reduceLE, Int.reduceLT]
        all_goals first | done | rfl | trace_state
    · have z5 := beq_f h5
      have em : mayF ⟨k, n, x, a, b, t⟩ = (decide (1 ≤ k) && decide (k ≤ 3)) := by
        unfold mayF
        simp only
        by_cases h : k = 1 ∨ k = 2 ∨ k = 3
        · rw [if_pos h, decide_eq_true (by omega), decide_eq_true (by omega)]; rfl
        · rw [if_neg h, if_neg h4, if_neg h5]
          by_cases h1 : 1 ≤ k
          · rw [decide_eq_false (show ¬ k ≤ 3 by omega)]; simp
          · rw [decide_eq_false h1]; rfl
      rw [em]
      cases d1 : decide (1 ≤ k) with
      | true =>
        simp only [Tryz.f54, tyV, z4, z5, d1, evS, tyS, Bool.not_true, Bool.not_false, Nat.reduceAdd, Nat.reduceSub, Nat.reduceMul, Nat.reduceLT, Nat.reduceLeDiff, Nat.reduceEqDiff, reduceCtorEq, List.reduceReplicate, Int.reduceToNat, Int.reduceLE, Int.reduceLT]
        all_goals first | done | rfl | trace_state
      | false =>
        simp only [Tryz.f54, tyV, z4, z5, d1, evS, tyS, Bool.not_true, Bool.not_false, Nat.reduceAdd, Nat.reduceSub, Nat.reduceMul, Nat.reduceLT, Nat.reduceLeDiff, Nat.reduceEqDiff, reduceCtorEq, List.reduceReplicate, Int.reduceToNat, Int.reduceLE, Int.reduceLT]
        all_goals first | done | rfl | trace_state
end Go.Proofs.YtlobiioioicmhaaGreatDoor
/- The document's text of a real, walked. -/
namespace Go.Proofs.YtlobiioioicmhaaGreatDoor
set_option linter.all false
open Go Go.Ev
set_option maxRecDepth 20000
variable {γ : List (Nat × AV)}
theorem u22 : (Tryz.prog.underlying 22).isSome = true := by kernel_rfl
theorem c178 : bodyT Tryz.prog 178 := ⟨_, Tryz.func178, by kernel_rfl, by kernel_rfl⟩
theorem c179 : bodyT Tryz.prog 179 := ⟨_, Tryz.func179, by kernel_rfl, by kernel_rfl⟩
theorem c109 : bodyT Tryz.prog 109 := ⟨_, Tryz.func109, by kernel_rfl, by kernel_rfl⟩
theorem ext_floor {P : Program} {g : FuncId} {fn : Func} (hf : P.funcs[g]? = some fn) (hname : (fn.name == "runtime.NumGoroutine") = false) (hb : fn.body.isNone = true) (hn : Extern.findNext fn = none)
    (he : Extern.find fn = some (Extern.MathFloor.toIntegral "math.archFloor" .down)) (b : Nat) (hnan : (FloatKind.f64.decode b).isNaN = false) : ExtV P g [.v (.float .f64 b)] (.v (.float .f64 (floorB b))) := by
  refine ExtV.of hf hname hb hn he fun cx w vs _ hr => ?_
  simp only [relL, rel] at hr
  obtain ⟨u, us, e1, rfl, rfl⟩ := hr
  obtain rfl : vs = #[.float .f64 b] := by cases vs; simp_all
  refine ⟨.float .f64 (floorB b), ?_, by simp only [rel]⟩
  have e : Extern.MathFloor.toIntegral "math.archFloor" .down #[.float .f64 b] = match FloatKind.f64.decode b with
      | .nan s t => if FloatKind.f64.format.quiet t = t then pure (.float .f64 b) else do
          let kept ← choose (.extern "math.Floor,Ceil,Trunc,RoundToEven.signallingNaN kept" 2)
          pure (.float .f64 (if kept == 1 then b else FloatKind.f64.encode (.nan s (FloatKind.f64.format.quiet t))))
      | d => pure (.float .f64 (FloatKind.f64.encode (d.integral .down))) := rfl
  rw [e]
  unfold floorB
  cases hd : FloatKind.f64.decode b with
  | nan s t => rw [hd] at hnan; cases hnan
  | _ => rfl
theorem floor_ev (b : Nat) (hnan : (FloatKind.f64.decode b).isNaN = false) : Ev Tryz.prog γ 179 [.v (.float .f64 b)] (.v (.float .f64 (floorB b))) := by
  refine Ev.of Tryz.func179 rfl ?_
  simp only [Tryz.f179, evS, tyS, Bool.not_true, Bool.not_false, Nat.reduceAdd, Nat.reduceSub, Nat.reduceMul, Nat.reduceLT, Nat.reduceLeDiff, Nat.reduceEqDiff, reduceCtorEq, List.reduceReplicate, Int.reduceToNat, Int.reduceLE, Int.reduceLT]
  refine CallK.ext (ext_floor Tryz.func237 (by kernel_rfl) (by kernel_rfl) (by kernel_rfl) (by kernel_rfl) b hnan) ?_
  simp only [evS, tyS, Bool.not_true, Bool.not_false, Nat.reduceAdd, Nat.reduceSub, Nat.reduceMul, Nat.reduceLT, Nat.reduceLeDiff, Nat.reduceEqDiff, reduceCtorEq, List.reduceReplicate, Int.reduceToNat, Int.reduceLE, Int.reduceLT]
theorem dbl_num {m : Nat} {e : Int} (h0 : 0 < m) (h : m < 9007199254740992) (he : -1074 ≤ e) (hf : e + m.log2 ≤ 1023) : (FloatKind.f64.decode (dblN m e)).isNaN = false := by
  show (Ieee.double.read (dblN m e)).isNaN = false
  rw [read_dbl h0 h he hf]; rfl
theorem read0 : Ieee.double.read 0 = .number false 0 (-1074) := rd0
theorem ord0 (x : Nat) (hx : x < 18446744073709551616) (hn : nanB x = false) : (FloatKind.f64.format.order x 0 == some .lt) = (sgB x && !decide (eB x = 0 ∧ mB x = 0)) ∧ (FloatKind.f64.format.order x 0 == some .eq) = decide (eB x = 0 ∧ mB x = 0) := by
  rw [nanB_eq x hx] at hn
  have hn' : ¬ (eB x = 2047 ∧ mB x ≠ 0) := of_decide_eq_false hn
  show (Ieee.double.order x 0 == some .lt) = _ ∧ (Ieee.double.order x 0 == some .eq) = _
  unfold Ieee.Format.order
  rw [rd_bits x hx, read0]
  by_cases h1 : eB x = 2047
  · have h2 : mB x = 0 := by omega
    rw [if_pos h1, if_pos h2, decide_eq_false (by omega)]
    cases sgB x <;> exact ⟨rfl, rfl⟩
  · rw [if_neg h1]
    have hE : -1074 ≤ mE x := by unfold mE; split <;> omega
    have hz : (mM x = 0) ↔ (eB x = 0 ∧ mB x = 0) := by
      unfold mM
      split <;> omega
    simp only [Ieee.Datum.order]
    rw [Int.min_eq_right hE]
    have hp : 0 < 2 ^ (mE x - -1074).toNat := Nat.two_pow_pos _
    have e0 : Ieee.signed false 0 (-1074 - -1074 : Int).toNat = 0 := rfl
    rw [e0]
    generalize hk : (mE x - -1074).toNat = k at hp ⊢
    by_cases h2 : mM x = 0
    · rw [decide_eq_true (hz.1 h2), h2]
      have : Ieee.signed (sgB x) 0 k = 0 := by unfold Ieee.signed; simp
      rw [this]
      cases sgB x <;> exact ⟨rfl, rfl⟩
    · rw [decide_eq_false (fun h => h2 (hz.2 h))]
      have hpos : 0 < mM x * 2 ^ k := Nat.mul_pos (by omega) hp
      cases sgB x with
      | true =>
        have : Ieee.signed true (mM x) k = -((mM x * 2 ^ k : Nat) : Int) := by unfold Ieee.signed; rw [if_pos rfl, Nat.shiftLeft_eq]
        rw [this]
        have hc : compare (-((mM x * 2 ^ k : Nat) : Int)) 0 = .lt := by rw [Int.compare_eq_lt]; omega
        rw [hc]; exact ⟨rfl, rfl⟩
      | false =>
        rw [signed_f]
        have hc : compare (((mM x * 2 ^ k : Nat) : Int)) 0 = .gt := by rw [Int.compare_eq_gt]; omega
        rw [hc]; exact ⟨rfl, rfl⟩
theorem zero_cases {x : Nat} (hx : x < 18446744073709551616) (h : eB x = 0 ∧ mB x = 0) : x = 0 ∨ x = 9223372036854775808 := by
  unfold eB mB at h
  omega
theorem below_ev (x : Nat) (hx : x < 18446744073709551616) (hn : nanB x = false) : Ev Tryz.prog γ 178 [.v (.float .f64 x)] (.v (.bool (sgB x))) := by
  refine Ev.of Tryz.func178 rfl ?_
  obtain ⟨h1, h2⟩ := ord0 x hx hn
  by_cases hz : eB x = 0 ∧ mB x = 0
  · rw [decide_eq_true hz] at h1 h2
    rcases zero_cases hx hz with rfl | rfl
    · have d : fltRes (FloatKind.f64.format.div 4607182418800017408 0) = .v (.float .f64 9218868437227405312) := by kernel_rfl
      have o : (FloatKind.f64.format.order 9218868437227405312 0 == some .lt) = false := by kernel_rfl
      have h1' : (FloatKind.f64.format.order 0 0 == some .lt) = false := by kernel_rfl
      have h2' : (FloatKind.f64.format.order 0 0 == some .eq) = true := by kernel_rfl
      have e : sgB 0 = false := by kernel_rfl
      rw [e]
      simp only [Tryz.f178, h1', h2', d, o, evS, tyS, Bool.not_true, Bool.not_false, Nat.reduceAdd, Nat.reduceSub, Nat.reduceMul, Nat.reduceLT, Nat.reduceLeDiff, Nat.reduceEqDiff, reduceCtorEq, List.reduceReplicate, Int.reduceToNat, Int.reduceLE, Int.reduceLT]
      all_goals first | done | rfl | trace_state
    · have d : fltRes (FloatKind.f64.format.div 4607182418800017408 9223372036854775808) = .v (.float .f64 18442240474082181120) := by kernel_rfl
      have o : (FloatKind.f64.format.order 18442240474082181120 0 == some .lt) = true := by kernel_rfl
      have h1' : (FloatKind.f64.format.order 9223372036854775808 0 == some .lt) = false := by kernel_rfl
      have h2' : (FloatKind.f64.format.order 9223372036854775808 0 == some .eq) = true := by kernel_rfl
      have e : sgB 9223372036854775808 = true := by kernel_rfl
      rw [e]
      simp only [Tryz.f178, h1', h2', d, o, evS, tyS, Bool.not_true, Bool.not_false, Nat.reduceAdd, Nat.reduceSub, Nat.reduceMul, Nat.reduceLT, Nat.reduceLeDiff, Nat.reduceEqDiff, reduceCtorEq, List.reduceReplicate, Int.reduceToNat, Int.reduceLE, Int.reduceLT]
      all_goals first | done | rfl | trace_state
  · rw [decide_eq_false hz] at h1 h2
    cases hs : sgB x with
    | true =>
      rw [hs] at h1
      have h1' : (FloatKind.f64.format.order x 0 == some .lt) = true := h1
      simp only [Tryz.f178, h1', h2, evS, tyS, Bool.not_true, Bool.not_false, Nat.reduceAdd, Nat.reduceSub, Nat.reduceMul, Nat.reduceLT, Nat.reduceLeDiff, Nat.reduceEqDiff, reduceCtorEq, List.reduceReplicate, Int.reduceToNat, Int.reduceLE, Int.reduceLT]
      all_goals first | done | rfl | trace_state
    | false =>
      rw [hs] at h1
      have h1' : (FloatKind.f64.format.order x 0 == some .lt) = false := h1
      simp only [Tryz.f178, h1', h2, evS, tyS, Bool.not_true, Bool.not_false, Nat.reduceAdd, Nat.reduceSub, Nat.reduceMul, Nat.reduceLT, Nat.reduceLeDiff, Nat.reduceEqDiff, reduceCtorEq, List.reduceReplicate, Int.reduceToNat, Int.reduceLE, Int.reduceLT]
      all_goals first | done | rfl | trace_state
theorem neg_neg (x : Nat) : Op.negFloat .f64 (Op.negFloat .f64 x) = x := by
  have e : ∀ y, Op.negFloat .f64 y = y ^^^ 2 ^ 63 := fun _ => rfl
  rw [e, e, Nat.xor_assoc, Nat.xor_self, Nat.xor_zero]
def sgT (s : Bool) : List UInt8 := if s then [45] else []
def flA (b : Nat) : AV := .v (.float .f64 b)
def inA (n : Int) : AV := .v (.int .i64 n)
/-- Doubled till it is whole. -/
theorem real_loop1 {c : Code} (hc : Tryz.f109.body.bind (pieceC [1, 1, 1, 1, 1, 1, 1, 0, 2, 3]) = some c) {m : Nat} {e : Int} (m0 : 0 < m) (h1 : m < 9007199254740992) (g1 : m % 2 = 1) (h2 : -1074 ≤ e) (g2 : e + m.log2 ≤ 1023) {J : Nat} (hJ : J = (-e).toNat) {S : AV} {Q : Post} {s : St}
    (hw : s.weak ⟨⟨47, [(4, inA 0), (0, flA (dblN m e)), (3, S)], γ⟩, []⟩)
    (hex : Q (.exit 0) ⟨⟨47, [(23, .v (.bool false)), (22, flA (dblN m (e + J))), (21, flA (dblN m (e + J))), (20, flA (dblN m (e + J))), (4, inA (-(J : Int))), (0, flA (dblN m (e + J))), (3, S)], γ⟩, []⟩) : LoopK (kwp Tryz.prog c) Q s := by
  obtain rfl := Option.some.inj (hc.symm.trans rfl)
  clear hc
  have hlog := log2_lt53 m0 h1
  refine LoopK.intro (fun j : Nat => ⟨⟨47, [(4, inA (-(j : Int))), (0, flA (dblN m (e + j))), (3, S)], γ⟩, []⟩) (fun j => j ≤ J) (fun j => J - j) 0 ?_ (Nat.zero_le _) ?_
  · simpa using hw
  · intro j hj
    have kf : Ev Tryz.prog γ 179 [.v (.float .f64 (dblN m (e + j)))] (.v (.float .f64 (floorB (dblN m (e + j))))) := floor_ev _ (dbl_num m0 h1 (by omega) (by omega))
    by_cases hjJ : j = J
    · subst hjJ
      have hge : 0 ≤ e + (j : Int) := by omega
      have hfl : floorB (dblN m (e + j)) = dblN m (e + j) := floor_whole m0 h1 hge (by omega)
      have o : (FloatKind.f64.format.order (dblN m (e + j)) (dblN m (e + j)) != some .eq) = false := by
        show (Ieee.double.order _ _ != some .eq) = false
        rw [ord_self m0 h1 (by omega)]; rfl
      rw [hfl] at kf
      unfold inA flA at *
      simp only [evS, tyS, Bool.not_true, Bool.not_false, Nat.reduceAdd, Nat.reduceSub, Nat.reduceMul, Nat.reduceLT, Nat.reduceLeDiff, Nat.reduceEqDiff, reduceCtorEq, List.reduceReplicate, Int.reduceToNat, Int.reduceLE, Int.reduceLT]
      refine CallK.intro c179 rfl kf ?_
      simp only [o, evS, tyS, Bool.not_true, Bool.not_false, Nat.reduceAdd, Nat.reduceSub, Nat.reduceMul, Nat.reduceLT, Nat.reduceLeDiff, Nat.reduceEqDiff, reduceCtorEq, List.reduceReplicate, Int.reduceToNat, Int.reduceLE, Int.reduceLT]
      all_goals first | exact hex | trace_state
    · have hlt : e + (j : Int) < 0 := by omega
      have hfo := floor_odd m0 h1 g1 (show -1074 ≤ e + (j : Int) by omega) hlt
      have o : (FloatKind.f64.format.order (dblN m (e + j)) (floorB (dblN m (e + j))) != some .eq) = true := by
        cases hh : (FloatKind.f64.format.order (dblN m (e + j)) (floorB (dblN m (e + j))) != some .eq) with
        | true => rfl
        | false => exact absurd (by simpa using hh) hfo
      have mt : fltRes (FloatKind.f64.format.mul (dblN m (e + j)) 4611686018427387904) = .v (.float .f64 (dblN m (e + ((j + 1 : Nat) : Int)))) := by
        show fltRes (Ieee.double.mul _ _) = _
        rw [mul_two m0 h1 (by omega), show e + ((j + 1 : Nat) : Int) = e + (j : Int) + 1 by omega]; rfl
      have w : IntKind.i64.wrap (-(j : Int) - 1) = -((j + 1 : Nat) : Int) := (i64w (by omega) (by omega)).trans (by omega)
      unfold inA flA at *
      simp only [evS, tyS, Bool.not_true, Bool.not_false, Nat.reduceAdd, Nat.reduceSub, Nat.reduceMul, Nat.reduceLT, Nat.reduceLeDiff, Nat.reduceEqDiff, reduceCtorEq, List.reduceReplicate, Int.reduceToNat, Int.reduceLE, Int.reduceLT]
      refine CallK.intro c179 rfl kf ?_
      simp only [o, mt, w, evS, tyS, Bool.not_true, Bool.not_false, Nat.reduceAdd, Nat.reduceSub, Nat.reduceMul, Nat.reduceLT, Nat.reduceLeDiff, Nat.reduceEqDiff, reduceCtorEq, List.reduceReplicate, Int.reduceToNat, Int.reduceLE, Int.reduceLT]
      refine loopC.intro (j + 1) (by omega) ?_ (by omega)
      simp only [evS, tyS, Bool.not_true, Bool.not_false, Nat.reduceAdd, Nat.reduceSub, Nat.reduceMul, Nat.reduceLT, Nat.reduceLeDiff, Nat.reduceEqDiff, reduceCtorEq, List.reduceReplicate, Int.reduceToNat, Int.reduceLE, Int.reduceLT]
      all_goals first | done | rfl | exact .inl rfl | trace_state
/-- Halved as long as it stays whole. -/
theorem real_loop2 {c : Code} (hc : Tryz.f109.body.bind (pieceC [1, 1, 1, 1, 1, 1, 1, 1, 0, 2, 3]) = some c) {m : Nat} {f : Int} {E : Nat} (m0 : 0 < m) (h1 : m < 9007199254740992) (g1 : m % 2 = 1) (g2 : (E : Int) + m.log2 ≤ 1023) (hf : -1074 ≤ f) (hf2 : f ≤ 0) {S : AV} {Q : Post} {s : St}
    (hw : s.weak ⟨⟨47, [(4, inA f), (0, flA (dblN m E)), (3, S)], γ⟩, []⟩)
    (hex : Q (.exit 2) ⟨⟨47, [(33, .v (.bool false)), (32, flA (floorB (dblN m (-1)))), (31, flA (dblN m (-1))), (30, flA (dblN m 0)), (29, flA (dblN m (-1))), (28, flA (dblN m 0)), (4, inA (f + E)), (0, flA (dblN m 0)), (3, S)], γ⟩, []⟩) : LoopK (kwp Tryz.prog c) Q s := by
  obtain rfl := Option.some.inj (hc.symm.trans rfl)
  clear hc
  have hlog := log2_lt53 m0 h1
  refine LoopK.intro (fun j : Nat => ⟨⟨47, [(4, inA (f + (j : Int))), (0, flA (dblN m ((E : Int) - j))), (3, S)], γ⟩, []⟩) (fun j => j ≤ E) (fun j => E - j) 0 ?_ (Nat.zero_le _) ?_
  · simpa using hw
  · intro j hj
    have dt : fltRes (FloatKind.f64.format.div (dblN m ((E : Int) - j)) 4611686018427387904) = .v (.float .f64 (dblN m ((E : Int) - j - 1))) := by
      show fltRes (Ieee.double.div _ _) = _
      rw [div_two m0 h1 (by omega) (by omega)]; rfl
    have kf : Ev Tryz.prog γ 179 [.v (.float .f64 (dblN m ((E : Int) - j - 1)))] (.v (.float .f64 (floorB (dblN m ((E : Int) - j - 1))))) := floor_ev _ (dbl_num m0 h1 (by omega) (by omega))
    by_cases hjE : j = E
    · subst hjE
      have e0 : (j : Int) - (j : Int) = 0 := by omega
      have e1 : (0 : Int) - 1 = -1 := rfl
      simp only [e0, e1] at dt kf
      have hfo := floor_odd m0 h1 g1 (show -1074 ≤ (-1 : Int) by omega) (by omega)
      have o : (FloatKind.f64.format.order (dblN m (-1)) (floorB (dblN m (-1))) == some .eq) = false := by
        cases hh : (FloatKind.f64.format.order (dblN m (-1)) (floorB (dblN m (-1))) == some .eq) with
        | false => rfl
        | true => exact absurd (eq_of_beq hh) hfo
      unfold inA flA at *
      simp only [e0, dt, evS, tyS, Bool.not_true, Bool.not_false, Nat.reduceAdd, Nat.reduceSub, Nat.reduceMul, Nat.reduceLT, Nat.reduceLeDiff, Nat.reduceEqDiff, reduceCtorEq, List.reduceReplicate, Int.reduceToNat, Int.reduceLE, Int.reduceLT]
      refine CallK.intro c179 rfl kf ?_
      simp only [o, evS, tyS, Bool.not_true, Bool.not_false, Nat.reduceAdd, Nat.reduceSub, Nat.reduceMul, Nat.reduceLT, Nat.reduceLeDiff, Nat.reduceEqDiff, reduceCtorEq, List.reduceReplicate, Int.reduceToNat, Int.reduceLE, Int.reduceLT]
      all_goals first | exact hex | trace_state
    · have hge : 0 ≤ (E : Int) - j - 1 := by omega
      have hfl : floorB (dblN m ((E : Int) - j - 1)) = dblN m ((E : Int) - j - 1) := floor_whole m0 h1 hge (by omega)
      have o : (FloatKind.f64.format.order (dblN m ((E : Int) - j - 1)) (dblN m ((E : Int) - j - 1)) == some .eq) = true := by
        show (Ieee.double.order _ _ == some .eq) = true
        rw [ord_self m0 h1 (by omega)]; rfl
      rw [hfl] at kf
      have e2 : (E : Int) - ((j + 1 : Nat) : Int) = (E : Int) - j - 1 := by omega
      have w : IntKind.i64.wrap (f + (j : Int) + 1) = f + ((j + 1 : Nat) : Int) := (i64w (by omega) (by omega)).trans (by omega)
      unfold inA flA at *
      simp only [dt, evS, tyS, Bool.not_true, Bool.not_false, Nat.reduceAdd, Nat.reduceSub, Nat.reduceMul, Nat.reduceLT, Nat.reduceLeDiff, Nat.reduceEqDiff, reduceCtorEq, List.reduceReplicate, Int.reduceToNat, Int.reduceLE, Int.reduceLT]
      refine CallK.intro c179 rfl kf ?_
      simp only [o, dt, w, evS, tyS, Bool.not_true, Bool.not_false, Nat.reduceAdd, Nat.reduceSub, Nat.reduceMul, Nat.reduceLT, Nat.reduceLeDiff, Nat.reduceEqDiff, reduceCtorEq, List.reduceReplicate, Int.reduceToNat, Int.reduceLE, Int.reduceLT]
      refine loopC.intro (j + 1) (by omega) ?_ (by omega)
      simp only [e2]
      simp only [w, evS, tyS, Bool.not_true, Bool.not_false, Nat.reduceAdd, Nat.reduceSub, Nat.reduceMul, Nat.reduceLT, Nat.reduceLeDiff, Nat.reduceEqDiff, reduceCtorEq, List.reduceReplicate, Int.reduceToNat, Int.reduceLE, Int.reduceLT]
      all_goals first | done | rfl | exact .inl rfl | trace_state
set_option maxHeartbeats 4000000 in
theorem real_ev (x : Nat) (hx : x < 18446744073709551616) : Ev Tryz.prog γ 109 [.v (.float .f64 x)] (.v (.string ⟨(measF x).toArray⟩)) := by
  refine Ev.of Tryz.func109 rfl ?_
  have hn : (FloatKind.f64.format.order x x != some .eq) = nanB x := rfl
  by_cases hnan : nanB x = true
  · have e : measF x = nanT := by unfold measF; rw [if_pos hnan]
    rw [e, nanT]
    simp only [Tryz.f109, hn, hnan, evS, tyS, Bool.not_true, Bool.not_false, Nat.reduceAdd, Nat.reduceSub, Nat.reduceMul, Nat.reduceLT, Nat.reduceLeDiff, Nat.reduceEqDiff, reduceCtorEq, List.reduceReplicate, Int.reduceToNat, Int.reduceLE, Int.reduceLT]
    all_goals first | done | rfl | trace_state
  · have hnan' : nanB x = false := by simpa using hnan
    have kb := below_ev (γ := γ) x hx hnan'
    rcases meas_cases x hx with ⟨h1, _⟩ | ⟨h1, h2⟩ | ⟨m, e, h1, h2, h3, h4, h5, h6⟩
    · exact absurd h1 hnan
    · rw [h1]
      have o : (FloatKind.f64.format.order 9218868437227405312 9218868437227405311 == some .gt) = true := by kernel_rfl
      cases hs : sgB x with
      | true =>
        rw [hs, if_pos rfl] at h2
        have hneg : Op.negFloat .f64 x = 9218868437227405312 := by rw [h2, neg_neg]
        simp only [Tryz.f109, hn, hnan', evS, tyS, Bool.not_true, Bool.not_false, Nat.reduceAdd, Nat.reduceSub, Nat.reduceMul, Nat.reduceLT, Nat.reduceLeDiff, Nat.reduceEqDiff, reduceCtorEq, List.reduceReplicate, Int.reduceToNat, Int.reduceLE, Int.reduceLT]
        refine CallK.intro c178 rfl kb ?_
        rw [hs]
        simp only [hneg, o, evS, tyS, Bool.not_true, Bool.not_false, Nat.reduceAdd, Nat.reduceSub, Nat.reduceMul, Nat.reduceLT, Nat.reduceLeDiff, Nat.reduceEqDiff, reduceCtorEq, List.reduceReplicate, Int.reduceToNat, Int.reduceLE, Int.reduceLT]
        all_goals first | done | rfl | (simp [infT]; done) | trace_state
      | false =>
        rw [hs, if_neg (by simp)] at h2
        simp only [Tryz.f109, hn, hnan', evS, tyS, Bool.not_true, Bool.not_false, Nat.reduceAdd, Nat.reduceSub, Nat.reduceMul, Nat.reduceLT, Nat.reduceLeDiff, Nat.reduceEqDiff, reduceCtorEq, List.reduceReplicate, Int.reduceToNat, Int.reduceLE, Int.reduceLT]
        refine CallK.intro c178 rfl kb ?_
        rw [hs, h2]
        simp only [o, evS, tyS, Bool.not_true, Bool.not_false, Nat.reduceAdd, Nat.reduceSub, Nat.reduceMul, Nat.reduceLT, Nat.reduceLeDiff, Nat.reduceEqDiff, reduceCtorEq, List.reduceReplicate, Int.reduceToNat, Int.reduceLE, Int.reduceLT]
        all_goals first | done | rfl | (simp [infT]; done) | trace_state
    · rw [h4]
      rcases h6 with ⟨g1, g2⟩ | ⟨rfl, rfl⟩
      · have m0 : 0 < m := by omega
        have hr : realB m e = dblN m e := by unfold realB; rw [if_neg (by omega)]
        rw [hr] at h5
        have hlog := log2_lt53 m0 h1
        obtain ⟨J, hJ⟩ : ∃ J : Nat, J = (-e).toNat := ⟨_, rfl⟩
        obtain ⟨E, hE⟩ : ∃ E : Nat, E = e.toNat := ⟨_, rfl⟩
        have o1 : (FloatKind.f64.format.order (dblN m e) 9218868437227405311 == some .gt) = false := (ord_max m0 h1 h2).trans (decide_eq_false (by omega))
        have o2 : (FloatKind.f64.format.order (dblN m e) 0 == some .eq) = false := by
          show (Ieee.double.order (dblN m e) 0 == some .eq) = false
          rw [ord_zero m0 h1 h2]; rfl
        have f2 := f2i_dbl m0 h1
        have kd := digits_ev (γ := γ) m (by omega)
        have kw := whole_ev (γ := γ) e (by omega) (by omega)
        have hdl : (Lib.decDigits m).length ≤ 20 := by rw [Lib.decDigits_length]; exact Lib.nDigits_le20 _ (by omega)
        have hil := Lib.itoa_length_le e (by omega) (by omega)
        have hneg : sgB x = true → Op.negFloat .f64 x = dblN m e := fun hs => by rw [h5, if_pos hs, neg_neg]
        have hpos : sgB x = false → x = dblN m e := fun hs => by rw [h5, if_neg (by rw [hs]; simp)]
        have hsl : (sgT (sgB x)).length ≤ 1 := by unfold sgT; split <;> simp
        have hft : finT (sgB x) m e = ((sgT (sgB x) ++ Lib.decDigits m) ++ [112]) ++ Lib.itoa e := by unfold finT sgT; simp
        rw [hft]
        have hEJ : e + (J : Int) = (E : Int) := by omega
        have hfe : -(J : Int) + (E : Int) = e := by omega
        cases hs : sgB x with
        | true =>
          have hneg := hneg hs
          rw [hs] at kb hsl
          have hsg : sgT true = [45] := rfl
          simp only [Tryz.f109, hn, hnan', evS, tyS, Bool.not_true, Bool.not_false, Nat.reduceAdd, Nat.reduceSub, Nat.reduceMul, Nat.reduceLT, Nat.reduceLeDiff, Nat.reduceEqDiff, reduceCtorEq, List.reduceReplicate, Int.reduceToNat, Int.reduceLE, Int.reduceLT]
          refine CallK.intro c178 rfl kb ?_
          simp only [hneg, o1, o2, evS, tyS, Bool.not_true, Bool.not_false, Nat.reduceAdd, Nat.reduceSub, Nat.reduceMul, Nat.reduceLT, Nat.reduceLeDiff, Nat.reduceEqDiff, reduceCtorEq, List.reduceReplicate, Int.reduceToNat, Int.reduceLE, Int.reduceLT]
          refine real_loop1 (γ := γ) (e := e) (S := .v (.string ⟨(sgT true).toArray⟩)) (by kernel_rfl) m0 h1 g1 h2 g2 hJ ?_ ?_
          · exact ⟨rfl, rfl, ⟨rfl, rfl, rfl, trivial⟩, .inl rfl⟩
          rw [hEJ]
          unfold inA flA
          simp only [evS, tyS, Bool.not_true, Bool.not_false, Nat.reduceAdd, Nat.reduceSub, Nat.reduceMul, Nat.reduceLT, Nat.reduceLeDiff, Nat.reduceEqDiff, reduceCtorEq, List.reduceReplicate, Int.reduceToNat, Int.reduceLE, Int.reduceLT]
          refine real_loop2 (γ := γ) (f := -(J : Int)) (E := E) (S := .v (.string ⟨(sgT true).toArray⟩)) (by kernel_rfl) m0 h1 g1 (by omega) (by omega) (by omega) ?_ ?_
          · exact ⟨rfl, rfl, ⟨rfl, rfl, rfl, trivial⟩, .inl rfl⟩
          rw [hfe]
          unfold inA flA
          simp only [f2, tyV, u22, evS, tyS, Bool.not_true, Bool.not_false, Nat.reduceAdd, Nat.reduceSub, Nat.reduceMul, Nat.reduceLT, Nat.reduceLeDiff, Nat.reduceEqDiff, reduceCtorEq, List.reduceReplicate, Int.reduceToNat, Int.reduceLE, Int.reduceLT]
          refine CallK.intro c177 rfl kd ?_
          simp only [evS, tyS, Bool.not_true, Bool.not_false, Nat.reduceAdd, Nat.reduceSub, Nat.reduceMul, Nat.reduceLT, Nat.reduceLeDiff, Nat.reduceEqDiff, reduceCtorEq, List.reduceReplicate, Int.reduceToNat, Int.reduceLE, Int.reduceLT]
          (repeat' (first | (with_reducible refine And.intro ?_ ?_) | ((first | refine GuardK.intro_f (fun h => ?_) (fun h => ?_) | refine GuardK.intro_t (fun h => ?_) (fun h => ?_) | refine CondK.intro (fun h => ?_) (fun h => ?_) | refine PickK.intro (fun h => ?_) (fun h => ?_)) <;> simp only [h, evS, tyS, Bool.not_true, Bool.not_false, Nat.reduceAdd, Nat.reduceSub, Nat.reduceMul, Nat.reduceLT, Nat.reduceLeDiff, Nat.reduceEqDiff, reduceCtorEq, List.reduceReplicate, Int.reduceToNat, Int.reduceLE, Int.reduceLT]) | (refine DrawK.intro (by kernel_rfl) (by kernel_rfl) ?_; simp only [evS, tyS, Bool.not_true, Bool.not_false, Nat.reduceAdd, Nat.reduceSub, Nat.reduceMul, Nat.reduceLT, Nat.reduceLeDiff, Nat.reduceEqDiff, reduceCtorEq, List.reduceReplicate, Int.reduceToNat, Int.reduceLE, Int.reduceLT])))
          all_goals try first | (omega; done) | (simp only [List.length_append, List.length_cons, List.length_nil] at *; omega)
          refine CallK.intro c108 rfl kw ?_
          simp only [evS, tyS, Bool.not_true, Bool.not_false, Nat.reduceAdd, Nat.reduceSub, Nat.reduceMul, Nat.reduceLT, Nat.reduceLeDiff, Nat.reduceEqDiff, reduceCtorEq, List.reduceReplicate, Int.reduceToNat, Int.reduceLE, Int.reduceLT]
          all_goals try first | (omega; done) | (simp only [List.length_append, List.length_cons, List.length_nil] at *; omega)
          all_goals first | done | rfl | trace_state
        | false =>
          have hpos := hpos hs
          rw [hs] at kb hsl
          simp only [Tryz.f109, hn, hnan', evS, tyS, Bool.not_true, Bool.not_false, Nat.reduceAdd, Nat.reduceSub, Nat.reduceMul, Nat.reduceLT, Nat.reduceLeDiff, Nat.reduceEqDiff, reduceCtorEq, List.reduceReplicate, Int.reduceToNat, Int.reduceLE, Int.reduceLT]
          refine CallK.intro c178 rfl kb ?_
          rw [hpos]
          simp only [o1, o2, evS, tyS, Bool.not_true, Bool.not_false, Nat.reduceAdd, Nat.reduceSub, Nat.reduceMul, Nat.reduceLT, Nat.reduceLeDiff, Nat.reduceEqDiff, reduceCtorEq, List.reduceReplicate, Int.reduceToNat, Int.reduceLE, Int.reduceLT]
          refine real_loop1 (γ := γ) (e := e) (S := .v (.string ⟨(sgT false).toArray⟩)) (by kernel_rfl) m0 h1 g1 h2 g2 hJ ?_ ?_
          · exact ⟨rfl, rfl, ⟨rfl, rfl, rfl, trivial⟩, .inl rfl⟩
          rw [hEJ]
          unfold inA flA
          simp only [evS, tyS, Bool.not_true, Bool.not_false, Nat.reduceAdd, Nat.reduceSub, Nat.reduceMul, Nat.reduceLT, Nat.reduceLeDiff, Nat.reduceEqDiff, reduceCtorEq, List.reduceReplicate, Int.reduceToNat, Int.reduceLE, Int.reduceLT]
          refine real_loop2 (γ := γ) (f := -(J : Int)) (E := E) (S := .v (.string ⟨(sgT false).toArray⟩)) (by kernel_rfl) m0 h1 g1 (by omega) (by omega) (by omega) ?_ ?_
          · exact ⟨rfl, rfl, ⟨rfl, rfl, rfl, trivial⟩, .inl rfl⟩
          rw [hfe]
          unfold inA flA
          simp only [f2, tyV, u22, evS, tyS, Bool.not_true, Bool.not_false, Nat.reduceAdd, Nat.reduceSub, Nat.reduceMul, Nat.reduceLT, Nat.reduceLeDiff, Nat.reduceEqDiff, reduceCtorEq, List.reduceReplicate, Int.reduceToNat, Int.reduceLE, Int.reduceLT]
          refine CallK.intro c177 rfl kd ?_
          simp only [evS, tyS, Bool.not_true, Bool.not_false, Nat.reduceAdd, Nat.reduceSub, Nat.reduceMul, Nat.reduceLT, Nat.reduceLeDiff, Nat.reduceEqDiff, reduceCtorEq, List.reduceReplicate, Int.reduceToNat, Int.reduceLE, Int.reduceLT]
          (repeat' (first | (with_reducible refine And.intro ?_ ?_) | ((first | refine GuardK.intro_f (fun h => ?_) (fun h => ?_) | refine GuardK.intro_t (fun h => ?_) (fun h => ?_) | refine CondK.intro (fun h => ?_) (fun h => ?_) | refine PickK.intro (fun h => ?_) (fun h => ?_)) <;> simp only [h, evS, tyS, Bool.not_true, Bool.not_false, Nat.reduceAdd, Nat.reduceSub, Nat.reduceMul, Nat.reduceLT, Nat.reduceLeDiff, Nat.reduceEqDiff, reduceCtorEq, List.reduceReplicate, Int.reduceToNat, Int.reduceLE, Int.reduceLT]) | (refine DrawK.intro (by kernel_rfl) (by kernel_rfl) ?_; simp only [evS, tyS, Bool.not_true, Bool.not_false, Nat.reduceAdd, Nat.reduceSub, Nat.reduceMul, Nat.reduceLT, Nat.reduceLeDiff, Nat.reduceEqDiff, reduceCtorEq, List.reduceReplicate, Int.reduceToNat, Int.reduceLE, Int.reduceLT])))
          all_goals try first | (omega; done) | (simp only [List.length_append, List.length_cons, List.length_nil] at *; omega)
          refine CallK.intro c108 rfl kw ?_
          simp only [evS, tyS, Bool.not_true, Bool.not_false, Nat.reduceAdd, Nat.reduceSub, Nat.reduceMul, Nat.reduceLT, Nat.reduceLeDiff, Nat.reduceEqDiff, reduceCtorEq, List.reduceReplicate, Int.reduceToNat, Int.reduceLE, Int.reduceLT]
          all_goals try first | (omega; done) | (simp only [List.length_append, List.length_cons, List.length_nil] at *; omega)
          all_goals first | done | rfl | trace_state
      · have hr : realB 0 0 = 0 := rfl
        rw [hr] at h5
        rw [← finT_zero]
        have o1 : (FloatKind.f64.format.order 0 9218868437227405311 == some .gt) = false := by kernel_rfl
        have o2 : (FloatKind.f64.format.order 0 0 == some .eq) = true := by kernel_rfl
        cases hs : sgB x with
        | true =>
          rw [hs, if_pos rfl] at h5
          have hneg : Op.negFloat .f64 x = 0 := by rw [h5, neg_neg]
          simp only [Tryz.f109, hn, hnan', evS, tyS, Bool.not_true, Bool.not_false, Nat.reduceAdd, Nat.reduceSub, Nat.reduceMul, Nat.reduceLT, Nat.reduceLeDiff, Nat.reduceEqDiff, reduceCtorEq, List.reduceReplicate, Int.reduceToNat, Int.reduceLE, Int.reduceLT]
          refine CallK.intro c178 rfl kb ?_
          rw [hs]
          simp only [hneg, o1, o2, evS, tyS, Bool.not_true, Bool.not_false, Nat.reduceAdd, Nat.reduceSub, Nat.reduceMul, Nat.reduceLT, Nat.reduceLeDiff, Nat.reduceEqDiff, reduceCtorEq, List.reduceReplicate, Int.reduceToNat, Int.reduceLE, Int.reduceLT]
          all_goals first | done | rfl | trace_state
        | false =>
          rw [hs, if_neg (by simp)] at h5
          simp only [Tryz.f109, hn, hnan', evS, tyS, Bool.not_true, Bool.not_false, Nat.reduceAdd, Nat.reduceSub, Nat.reduceMul, Nat.reduceLT, Nat.reduceLeDiff, Nat.reduceEqDiff, reduceCtorEq, List.reduceReplicate, Int.reduceToNat, Int.reduceLE, Int.reduceLT]
          refine CallK.intro c178 rfl kb ?_
          rw [hs, h5]
          simp only [o1, o2, evS, tyS, Bool.not_true, Bool.not_false, Nat.reduceAdd, Nat.reduceSub, Nat.reduceMul, Nat.reduceLT, Nat.reduceLeDiff, Nat.reduceEqDiff, reduceCtorEq, List.reduceReplicate, Int.reduceToNat, Int.reduceLE, Int.reduceLT]
          all_goals first | done | rfl | trace_state
end Go.Proofs.YtlobiioioicmhaaGreatDoor
