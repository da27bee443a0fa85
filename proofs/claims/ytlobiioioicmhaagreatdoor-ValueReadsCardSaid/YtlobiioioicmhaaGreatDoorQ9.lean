/- Contracts of the functions that the law reaches. -/
import Derived.Test.YtlobiioioicmhaaGreatDoorQ7
/- The document's texts and readers of reals, walked. -/
namespace Go.Proofs.YtlobiioioicmhaaGreatDoor
set_option linter.all false
open Go Go.Ev
set_option maxRecDepth 20000
variable {γ : List (Nat × AV)}
theorem c110 : bodyT Tryz.prog 110 := ⟨_, Tryz.func110, by kernel_rfl, by kernel_rfl⟩
theorem c106 : bodyT Tryz.prog 106 := ⟨_, Tryz.func106, by kernel_rfl, by kernel_rfl⟩
set_option maxHeartbeats 4000000 in
theorem rquoted_ev (l : List UInt8) (hl : l.length ≤ 256) : Ev Tryz.prog γ 110 [.v (.string ⟨l.toArray⟩)] (.v (.string ⟨(quotF l).toArray⟩)) := by
  refine Ev.of Tryz.func110 rfl ?_
  unfold quotF
  simp only [Tryz.f110, evS, tyS, Bool.not_true, Bool.not_false, Nat.reduceAdd, Nat.reduceSub, Nat.reduceMul, Nat.reduceLT, Nat.reduceLeDiff, Nat.reduceEqDiff, reduceCtorEq, List.reduceReplicate, Int.reduceToNat, Int.reduceLE, Int.reduceLT]
  all_goals try (((try simp only [decide_eq_true_eq, decide_eq_false_iff_not, beq_iff_eq, bne_iff_ne, ne_eq, beq_eq_false_iff_ne, bne_eq_false_iff_eq] at *) <;> (try omega)); done)
  refine LoopK.intro (fun j : Nat => ⟨⟨62, [(0, .v (.string ⟨l.toArray⟩)), (4, .v (.int .i64 j)), (3, .own 0 j (quoteB (l.take j)).length)], γ⟩, [⟨j, 5, (quoteB (l.take j)).map byteC⟩]⟩) (fun j => j ≤ l.length) (fun j => l.length - j) 0 ?_ (Nat.zero_le _) (fun j hj => ?_)
  · simp only [evS, tyS, Bool.not_true, Bool.not_false, Nat.reduceAdd, Nat.reduceSub, Nat.reduceMul, Nat.reduceLT, Nat.reduceLeDiff, Nat.reduceEqDiff, reduceCtorEq, List.reduceReplicate, Int.reduceToNat, Int.reduceLE, Int.reduceLT]
    (repeat' (first | (with_reducible refine And.intro ?_ ?_) | ((first | refine GuardK.intro_f (fun h => ?_) (fun h => ?_) | refine GuardK.intro_t (fun h => ?_) (fun h => ?_) | refine CondK.intro (fun h => ?_) (fun h => ?_) | refine PickK.intro (fun h => ?_) (fun h => ?_)) <;> simp only [h, evS, tyS, Bool.not_true, Bool.not_false, Nat.reduceAdd, Nat.reduceSub, Nat.reduceMul, Nat.reduceLT, Nat.reduceLeDiff, Nat.reduceEqDiff, reduceCtorEq, List.reduceReplicate, Int.reduceToNat, Int.reduceLE, Int.reduceLT]) | (refine DrawK.intro (by kernel_rfl) (by kernel_rfl) ?_; simp only [evS, tyS, Bool.not_true, Bool.not_false, Nat.reduceAdd, Nat.reduceSub, Nat.reduceMul, Nat.reduceLT, Nat.reduceLeDiff, Nat.reduceEqDiff, reduceCtorEq, List.reduceReplicate, Int.reduceToNat, Int.reduceLE, Int.reduceLT])))
    all_goals first | rfl | exact .inl rfl
  · have hq := quoteB_len (l.take j)
    have hl2 : (l.take j).length = j := by rw [List.length_take]; omega
    have hc256 := (l.getD j 0).toNat_lt
    by_cases hj' : j < l.length
    · have d1 : decide (j < l.length) = true := decide_eq_true hj'
      have d2 : decide ((j : Int) < (l.length : Int)) = true := decide_eq_true (by omega)
      have ew : IntKind.i64.wrap ((j : Int) + 1) = ((j + 1 : Nat) : Int) := by rw [i64w] <;> omega
      by_cases h1 : (l.getD j 0).toNat = 34 ∨ (l.getD j 0).toNat = 92
      · have hE := esc1 h1
        by_cases h34 : (l.getD j 0).toNat = 34
        · have z1 : (((l.getD j 0).toNat : Int) == 34) = true := by rw [h34]; rfl
          simp only [d1, d2, z1, ub_shr4, ub_shr4b, ub_and15, ub_div16, ub_mod16, evS, tyS, Bool.not_true, Bool.not_false, Nat.reduceAdd, Nat.reduceSub, Nat.reduceMul, Nat.reduceLT, Nat.reduceLeDiff, Nat.reduceEqDiff, reduceCtorEq, List.reduceReplicate, Int.reduceToNat, Int.reduceLE, Int.reduceLT]
          (repeat' (first | (with_reducible refine And.intro ?_ ?_) | ((first | refine GuardK.intro_f (fun h => ?_) (fun h => ?_) | refine GuardK.intro_t (fun h => ?_) (fun h => ?_) | refine CondK.intro (fun h => ?_) (fun h => ?_) | refine PickK.intro (fun h => ?_) (fun h => ?_)) <;> simp only [h, d1, d2, z1, ub_shr4, ub_shr4b, ub_and15, ub_div16, ub_mod16, evS, tyS, Bool.not_true, Bool.not_false, Nat.reduceAdd, Nat.reduceSub, Nat.reduceMul, Nat.reduceLT, Nat.reduceLeDiff, Nat.reduceEqDiff, reduceCtorEq, List.reduceReplicate, Int.reduceToNat, Int.reduceLE, Int.reduceLT]) | (refine DrawK.intro (by kernel_rfl) (by kernel_rfl) ?_; simp only [d1, d2, z1, ub_shr4, ub_shr4b, ub_and15, ub_div16, ub_mod16, evS, tyS, Bool.not_true, Bool.not_false, Nat.reduceAdd, Nat.reduceSub, Nat.reduceMul, Nat.reduceLT, Nat.reduceLeDiff, Nat.reduceEqDiff, reduceCtorEq, List.reduceReplicate, Int.reduceToNat, Int.reduceLE, Int.reduceLT])))
          all_goals try (first | (((try simp only [decide_eq_true_eq, decide_eq_false_iff_not, beq_iff_eq, bne_iff_ne, ne_eq, beq_eq_false_iff_ne, bne_eq_false_iff_eq] at *) <;> (try omega)); done) | rfl)
          refine loopC.intro (j + 1) hj' ?_ (by omega)
          refine ⟨rfl, rfl, ?_, .inr ⟨?_, ?_, ?_⟩⟩ <;> simp only [ew, take_snoc hj', quoteB_snoc, hE, List.map_append, okRefL, okRef, okRefB, okRefL_map, okRefL_append, Bool.and_self, decide_true, List.take_succ_cons, byteC, ub_shr4, ub_shr4b, ub_and15, ub_div16, ub_mod16, evS, tyS, Bool.not_true, Bool.not_false, Nat.reduceAdd, Nat.reduceSub, Nat.reduceMul, Nat.reduceLT, Nat.reduceLeDiff, Nat.reduceEqDiff, reduceCtorEq, List.reduceReplicate, Int.reduceToNat, Int.reduceLE, Int.reduceLT] <;> try (first | rfl | trivial | (simp [byteC, hexL]; done))
        · have z1 : (((l.getD j 0).toNat : Int) == 34) = false := by
            cases hb : (((l.getD j 0).toNat : Int) == 34) with
            | false => rfl
            | true => have := eq_of_beq hb; omega
          have z2 : (((l.getD j 0).toNat : Int) == 92) = true := by rw [show (l.getD j 0).toNat = 92 by omega]; rfl
          simp only [d1, d2, z1, z2, ub_shr4, ub_shr4b, ub_and15, ub_div16, ub_mod16, evS, tyS, Bool.not_true, Bool.not_false, Nat.reduceAdd, Nat.reduceSub, Nat.reduceMul, Nat.reduceLT, Nat.reduceLeDiff, Nat.reduceEqDiff, reduceCtorEq, List.reduceReplicate, Int.reduceToNat, Int.reduceLE, Int.reduceLT]
          (repeat' (first | (with_reducible refine And.intro ?_ ?_) | ((first | refine GuardK.intro_f (fun h => ?_) (fun h => ?_) | refine GuardK.intro_t (fun h => ?_) (fun h => ?_) | refine CondK.intro (fun h => ?_) (fun h => ?_) | refine PickK.intro (fun h => ?_) (fun h => ?_)) <;> simp only [h, d1, d2, z1, z2, ub_shr4, ub_shr4b, ub_and15, ub_div16, ub_mod16, evS, tyS, Bool.not_true, Bool.not_false, Nat.reduceAdd, Nat.reduceSub, Nat.reduceMul, Nat.reduceLT, Nat.reduceLeDiff, Nat.reduceEqDiff, reduceCtorEq, List.reduceReplicate, Int.reduceToNat, Int.reduceLE, Int.reduceLT]) | (refine DrawK.intro (by kernel_rfl) (by kernel_rfl) ?_; simp only [d1, d2, z1, z2, ub_shr4, ub_shr4b, ub_and15, ub_div16, ub_mod16, evS, tyS, Bool.not_true, Bool.not_false, Nat.reduceAdd, Nat.reduceSub, Nat.reduceMul, Nat.reduceLT, Nat.reduceLeDiff, Nat.reduceEqDiff, reduceCtorEq, List.reduceReplicate, Int.reduceToNat, Int.reduceLE, Int.reduceLT])))
          all_goals try (first | (((try simp only [decide_eq_true_eq, decide_eq_false_iff_not, beq_iff_eq, bne_iff_ne, ne_eq, beq_eq_false_iff_ne, bne_eq_false_iff_eq] at *) <;> (try omega)); done) | rfl)
          refine loopC.intro (j + 1) hj' ?_ (by omega)
          refine ⟨rfl, rfl, ?_, .inr ⟨?_, ?_, ?_⟩⟩ <;> simp only [ew, take_snoc hj', quoteB_snoc, hE, List.map_append, okRefL, okRef, okRefB, okRefL_map, okRefL_append, Bool.and_self, decide_true, List.take_succ_cons, byteC, ub_shr4, ub_shr4b, ub_and15, ub_div16, ub_mod16, evS, tyS, Bool.not_true, Bool.not_false, Nat.reduceAdd, Nat.reduceSub, Nat.reduceMul, Nat.reduceLT, Nat.reduceLeDiff, Nat.reduceEqDiff, reduceCtorEq, List.reduceReplicate, Int.reduceToNat, Int.reduceLE, Int.reduceLT] <;> try (first | rfl | trivial | (simp [byteC, hexL]; done))
      · have z1 : (((l.getD j 0).toNat : Int) == 34) = false := by
          cases hb : (((l.getD j 0).toNat : Int) == 34) with
          | false => rfl
          | true => have := eq_of_beq hb; omega
        have z2 : (((l.getD j 0).toNat : Int) == 92) = false := by
          cases hb : (((l.getD j 0).toNat : Int) == 92) with
          | false => rfl
          | true => have := eq_of_beq hb; omega
        by_cases h2 : (l.getD j 0).toNat < 32 ∨ 126 < (l.getD j 0).toNat
        · have hE := esc2 h1 h2
          by_cases h3 : (l.getD j 0).toNat < 32
          · have z3 : decide (32 ≤ (l.getD j 0).toNat) = false := decide_eq_false (by omega)
            have z4 : decide ((32 : Int) ≤ ((l.getD j 0).toNat : Int)) = false := decide_eq_false (by omega)
            simp only [d1, d2, z1, z2, z3, z4, ub_shr4, ub_shr4b, ub_and15, ub_div16, ub_mod16, evS, tyS, Bool.not_true, Bool.not_false, Nat.reduceAdd, Nat.reduceSub, Nat.reduceMul, Nat.reduceLT, Nat.reduceLeDiff, Nat.reduceEqDiff, reduceCtorEq, List.reduceReplicate, Int.reduceToNat, Int.reduceLE, Int.reduceLT]
            (repeat' (first | (with_reducible refine And.intro ?_ ?_) | ((first | refine GuardK.intro_f (fun h => ?_) (fun h => ?_) | refine GuardK.intro_t (fun h => ?_) (fun h => ?_) | refine CondK.intro (fun h => ?_) (fun h => ?_) | refine PickK.intro (fun h => ?_) (fun h => ?_)) <;> simp only [h, d1, d2, z1, z2, z3, z4, ub_shr4, ub_shr4b, ub_and15, ub_div16, ub_mod16, evS, tyS, Bool.not_true, Bool.not_false, Nat.reduceAdd, Nat.reduceSub, Nat.reduceMul, Nat.reduceLT, Nat.reduceLeDiff, Nat.reduceEqDiff, reduceCtorEq, List.reduceReplicate, Int.reduceToNat, Int.reduceLE, Int.reduceLT]) | (refine DrawK.intro (by kernel_rfl) (by kernel_rfl) ?_; simp only [d1, d2, z1, z2, z3, z4, ub_shr4, ub_shr4b, ub_and15, ub_div16, ub_mod16, evS, tyS, Bool.not_true, Bool.not_false, Nat.reduceAdd, Nat.reduceSub, Nat.reduceMul, Nat.reduceLT, Nat.reduceLeDiff, Nat.reduceEqDiff, reduceCtorEq, List.reduceReplicate, Int.reduceToNat, Int.reduceLE, Int.reduceLT])))
            all_goals try (first | (((try simp only [decide_eq_true_eq, decide_eq_false_iff_not, beq_iff_eq, bne_iff_ne, ne_eq, beq_eq_false_iff_ne, bne_eq_false_iff_eq] at *) <;> (try omega)); done) | rfl)
            refine loopC.intro (j + 1) hj' ?_ (by omega)
            refine ⟨rfl, rfl, ?_, .inr ⟨?_, ?_, ?_⟩⟩ <;> simp only [ew, take_snoc hj', quoteB_snoc, hE, List.map_append, okRefL, okRef, okRefB, okRefL_map, okRefL_append, Bool.and_self, decide_true, List.take_succ_cons, byteC, ub_shr4, ub_shr4b, ub_and15, ub_div16, ub_mod16, evS, tyS, Bool.not_true, Bool.not_false, Nat.reduceAdd, Nat.reduceSub, Nat.reduceMul, Nat.reduceLT, Nat.reduceLeDiff, Nat.reduceEqDiff, reduceCtorEq, List.reduceReplicate, Int.reduceToNat, Int.reduceLE, Int.reduceLT] <;> try (first | rfl | trivial | (simp [byteC, hexL]; done))
          · have z3 : decide (32 ≤ (l.getD j 0).toNat) = true := decide_eq_true (by omega)
            have z4 : decide ((32 : Int) ≤ ((l.getD j 0).toNat : Int)) = true := decide_eq_true (by omega)
            have z5 : decide ((l.getD j 0).toNat ≤ 126) = false := decide_eq_false (by omega)
            have z6 : decide (((l.getD j 0).toNat : Int) ≤ 126) = false := decide_eq_false (by omega)
            simp only [d1, d2, z1, z2, z3, z4, z5, z6, ub_shr4, ub_shr4b, ub_and15, ub_div16, ub_mod16, evS, tyS, Bool.not_true, Bool.not_false, Nat.reduceAdd, Nat.reduceSub, Nat.reduceMul, Nat.reduceLT, Nat.reduceLeDiff, Nat.reduceEqDiff, reduceCtorEq, List.reduceReplicate, Int.reduceToNat, Int.reduceLE, Int.reduceLT]
            (repeat' (first | (with_reducible refine And.intro ?_ ?_) | ((first | refine GuardK.intro_f (fun h => ?_) (fun h => ?_) | refine GuardK.intro_t (fun h => ?_) (fun h => ?_) | refine CondK.intro (fun h => ?_) (fun h => ?_) | refine PickK.intro (fun h => ?_) (fun h => ?_)) <;> simp only [h, d1, d2, z1, z2, z3, z4, z5, z6, ub_shr4, ub_shr4b, ub_and15, ub_div16, ub_mod16, evS, tyS, Bool.not_true, Bool.not_false, Nat.reduceAdd, Nat.reduceSub, Nat.reduceMul, Nat.reduceLT, Nat.reduceLeDiff, Nat.reduceEqDiff, reduceCtorEq, List.reduceReplicate, Int.reduceToNat, Int.reduceLE, Int.reduceLT]) | (refine DrawK.intro (by kernel_rfl) (by kernel_rfl) ?_; simp only [d1, d2, z1, z2, z3, z4, z5, z6, ub_shr4, ub_shr4b, ub_and15, ub_div16, ub_mod16, evS, tyS, Bool.not_true, Bool.not_false, Nat.reduceAdd, Nat.reduceSub, Nat.reduceMul, Nat.reduceLT, Nat.reduceLeDiff, Nat.reduceEqDiff, reduceCtorEq, List.reduceReplicate, Int.reduceToNat, Int.reduceLE, Int.reduceLT])))
            all_goals try (first | (((try simp only [decide_eq_true_eq, decide_eq_false_iff_not, beq_iff_eq, bne_iff_ne, ne_eq, beq_eq_false_iff_ne, bne_eq_false_iff_eq] at *) <;> (try omega)); done) | rfl)
            refine loopC.intro (j + 1) hj' ?_ (by omega)
            refine ⟨rfl, rfl, ?_, .inr ⟨?_, ?_, ?_⟩⟩ <;> simp only [ew, take_snoc hj', quoteB_snoc, hE, List.map_append, okRefL, okRef, okRefB, okRefL_map, okRefL_append, Bool.and_self, decide_true, List.take_succ_cons, byteC, ub_shr4, ub_shr4b, ub_and15, ub_div16, ub_mod16, evS, tyS, Bool.not_true, Bool.not_false, Nat.reduceAdd, Nat.reduceSub, Nat.reduceMul, Nat.reduceLT, Nat.reduceLeDiff, Nat.reduceEqDiff, reduceCtorEq, List.reduceReplicate, Int.reduceToNat, Int.reduceLE, Int.reduceLT] <;> try (first | rfl | trivial | (simp [byteC, hexL]; done))
        · have hE := esc3 h1 h2
          have z3 : decide (32 ≤ (l.getD j 0).toNat) = true := decide_eq_true (by omega)
          have z4 : decide ((32 : Int) ≤ ((l.getD j 0).toNat : Int)) = true := decide_eq_true (by omega)
          have z5 : decide ((l.getD j 0).toNat ≤ 126) = true := decide_eq_true (by omega)
          have z6 : decide (((l.getD j 0).toNat : Int) ≤ 126) = true := decide_eq_true (by omega)
          simp only [d1, d2, z1, z2, z3, z4, z5, z6, ub_shr4, ub_shr4b, ub_and15, ub_div16, ub_mod16, evS, tyS, Bool.not_true, Bool.not_false, Nat.reduceAdd, Nat.reduceSub, Nat.reduceMul, Nat.reduceLT, Nat.reduceLeDiff, Nat.reduceEqDiff, reduceCtorEq, List.reduceReplicate, Int.reduceToNat, Int.reduceLE, Int.reduceLT]
          (repeat' (first | (with_reducible refine And.intro ?_ ?_) | ((first | refine GuardK.intro_f (fun h => ?_) (fun h => ?_) | refine GuardK.intro_t (fun h => ?_) (fun h => ?_) | refine CondK.intro (fun h => ?_) (fun h => ?_) | refine PickK.intro (fun h => ?_) (fun h => ?_)) <;> simp only [h, d1, d2, z1, z2, z3, z4, z5, z6, ub_shr4, ub_shr4b, ub_and15, ub_div16, ub_mod16, evS, tyS, Bool.not_true, Bool.not_false, Nat.reduceAdd, Nat.reduceSub, Nat.reduceMul, Nat.reduceLT, Nat.reduceLeDiff, Nat.reduceEqDiff, reduceCtorEq, List.reduceReplicate, Int.reduceToNat, Int.reduceLE, Int.reduceLT]) | (refine DrawK.intro (by kernel_rfl) (by kernel_rfl) ?_; simp only [d1, d2, z1, z2, z3, z4, z5, z6, ub_shr4, ub_shr4b, ub_and15, ub_div16, ub_mod16, evS, tyS, Bool.not_true, Bool.not_false, Nat.reduceAdd, Nat.reduceSub, Nat.reduceMul, Nat.reduceLT, Nat.reduceLeDiff, Nat.reduceEqDiff, reduceCtorEq, List.reduceReplicate, Int.reduceToNat, Int.reduceLE, Int.reduceLT])))
          all_goals try (first | (((try simp only [decide_eq_true_eq, decide_eq_false_iff_not, beq_iff_eq, bne_iff_ne, ne_eq, beq_eq_false_iff_ne, bne_eq_false_iff_eq] at *) <;> (try omega)); done) | rfl)
          refine loopC.intro (j + 1) hj' ?_ (by omega)
          refine ⟨rfl, rfl, ?_, .inr ⟨?_, ?_, ?_⟩⟩ <;> simp only [ew, take_snoc hj', quoteB_snoc, hE, List.map_append, okRefL, okRef, okRefB, okRefL_map, okRefL_append, Bool.and_self, decide_true, List.take_succ_cons, byteC, ub_shr4, ub_shr4b, ub_and15, ub_div16, ub_mod16, evS, tyS, Bool.not_true, Bool.not_false, Nat.reduceAdd, Nat.reduceSub, Nat.reduceMul, Nat.reduceLT, Nat.reduceLeDiff, Nat.reduceEqDiff, reduceCtorEq, List.reduceReplicate, Int.reduceToNat, Int.reduceLE, Int.reduceLT] <;> try (first | rfl | trivial | (simp [byteC, hexL]; done))
    · have ej : l.take j = l := by rw [List.take_of_length_le (by omega)]
      have d1 : decide (j < l.length) = false := decide_eq_false hj'
      have d2 : decide ((j : Int) < (l.length : Int)) = false := decide_eq_false (by omega)
      rw [ej] at hq ⊢
      simp only [strOf_34, d1, d2, evS, tyS, Bool.not_true, Bool.not_false, Nat.reduceAdd, Nat.reduceSub, Nat.reduceMul, Nat.reduceLT, Nat.reduceLeDiff, Nat.reduceEqDiff, reduceCtorEq, List.reduceReplicate, Int.reduceToNat, Int.reduceLE, Int.reduceLT]
      (repeat' (first | (with_reducible refine And.intro ?_ ?_) | ((first | refine GuardK.intro_f (fun h => ?_) (fun h => ?_) | refine GuardK.intro_t (fun h => ?_) (fun h => ?_) | refine CondK.intro (fun h => ?_) (fun h => ?_) | refine PickK.intro (fun h => ?_) (fun h => ?_)) <;> simp only [h, strOf_34, d1, d2, evS, tyS, Bool.not_true, Bool.not_false, Nat.reduceAdd, Nat.reduceSub, Nat.reduceMul, Nat.reduceLT, Nat.reduceLeDiff, Nat.reduceEqDiff, reduceCtorEq, List.reduceReplicate, Int.reduceToNat, Int.reduceLE, Int.reduceLT]) | (refine DrawK.intro (by kernel_rfl) (by kernel_rfl) ?_; simp only [strOf_34, d1, d2, evS, tyS, Bool.not_true, Bool.not_false, Nat.reduceAdd, Nat.reduceSub, Nat.reduceMul, Nat.reduceLT, Nat.reduceLeDiff, Nat.reduceEqDiff, reduceCtorEq, List.reduceReplicate, Int.reduceToNat, Int.reduceLE, Int.reduceLT])))
      all_goals first | (((try simp only [decide_eq_true_eq, decide_eq_false_iff_not, beq_iff_eq, bne_iff_ne, ne_eq, beq_eq_false_iff_ne, bne_eq_false_iff_eq] at *) <;> (try omega)); done) | rfl | trace_state
theorem cut_bool (b : Bool) (n d : Nat) : Ieee.Toward.even.cut b n d = Ieee.Toward.even.cut false n d := rfl
theorem nearest_neg (m : Nat) (p : Int) : Ieee.double.nearest true m p = Ieee.double.nearest false m p + 9223372036854775808 := by
  have e4 : Ieee.double.signWeight = 9223372036854775808 := by rfl
  unfold Ieee.Format.nearest Ieee.Format.word
  split
  · simp only [e4]; rfl
  · simp only [e4, cut_bool]
    simp only [if_true, Bool.false_eq_true, if_false]
    exact Nat.add_comm _ _
theorem mul_inf (s : Bool) : fltRes (FloatKind.f64.format.mul (if s = true then 13830554455654793216 else 4607182418800017408) 9218868437227405312) = .v (.float .f64 (if s = true then Op.negFloat .f64 9218868437227405312 else 9218868437227405312)) := by cases s <;> kernel_rfl
theorem mul_sign (s : Bool) {m : Nat} (h : m < 9007199254740992) {e : Int} (he : -1074 ≤ e) :
    fltRes (FloatKind.f64.format.mul (if s = true then 13830554455654793216 else 4607182418800017408) (realB m e)) = .v (.float .f64 (if s = true then Op.negFloat .f64 (realB m e) else realB m e)) := by
  unfold realB
  by_cases h0 : m = 0
  · rw [if_pos h0]
    cases s <;> kernel_rfl
  · rw [if_neg h0]
    have m0 : 0 < m := by omega
    by_cases hf : e + m.log2 ≤ 1023
    · have hle := lastP_le m0 h he
      have hge : -1074 ≤ lastP m e := by unfold lastP; omega
      have r1 : Ieee.double.read 4607182418800017408 = .number false 4503599627370496 (-52) := by rfl
      have r2 : Ieee.double.read 13830554455654793216 = .number true 4503599627370496 (-52) := by rfl
      have a1 : 4503599627370496 * (m * 2 ^ (e - lastP m e).toNat) = m * 2 ^ ((e - lastP m e).toNat + 52) := by
        rw [Nat.pow_add, p52, Nat.mul_comm 4503599627370496, Nat.mul_assoc]
      have a2 : -52 + lastP m e = e - (((e - lastP m e).toNat + 52 : Nat) : Int) := by omega
      have key := nearest_exact m e ((e - lastP m e).toNat + 52) m0 h he
      have hlt : dblN m e < 9223372036854775808 := Nat.lt_of_le_of_lt (dblN_le m e) (by omega)
      cases s with
      | true =>
        show fltRes (Ieee.double.mul _ _) = _
        unfold Ieee.Format.mul
        simp only [if_true]
        rw [r2, read_dbl m0 h he hf]
        simp only [Ieee.Datum.product, Option.map_some, Ieee.Format.write]
        rw [a1, a2, show (true ^^ false) = true from rfl, nearest_neg, key, neg_pos hlt]
        rfl
      | false =>
        show fltRes (Ieee.double.mul _ _) = _
        unfold Ieee.Format.mul
        simp only [Bool.false_eq_true, if_false]
        rw [r1, read_dbl m0 h he hf]
        simp only [Ieee.Datum.product, Option.map_some, Ieee.Format.write]
        rw [a1, a2, show (false ^^ false) = false from rfl, key]
        rfl
    · rw [dbl_inf m0 h he (by omega)]
      exact mul_inf s
theorem mul_real {m : Nat} (h : m < 9007199254740992) {e : Int} (he : -1074 ≤ e) : fltRes (FloatKind.f64.format.mul (realB m e) 4611686018427387904) = .v (.float .f64 (realB m (e + 1))) := by
  unfold realB
  by_cases h0 : m = 0
  · rw [if_pos h0, if_pos h0]; kernel_rfl
  · rw [if_neg h0, if_neg h0]
    show fltRes (Ieee.double.mul _ _) = _
    rw [mul_two (by omega) h he]; rfl
theorem div_real {m : Nat} (h : m < 9007199254740992) {e : Int} (he : -1073 ≤ e) (he2 : e ≤ 0) : fltRes (FloatKind.f64.format.div (realB m e) 4611686018427387904) = .v (.float .f64 (realB m (e - 1))) := by
  unfold realB
  by_cases h0 : m = 0
  · rw [if_pos h0, if_pos h0]; kernel_rfl
  · rw [if_neg h0, if_neg h0]
    have := log2_lt53 (by omega : 0 < m) h
    show fltRes (Ieee.double.div _ _) = _
    rw [div_two (by omega) h he (by omega)]; rfl
theorem inf_sign (s : Bool) : fltRes (FloatKind.f64.format.mul (if s = true then 13830554455654793216 else 4607182418800017408) 9218868437227405312) = .v (.float .f64 (if s = true then Op.negFloat .f64 9218868437227405312 else 9218868437227405312)) := by cases s <;> kernel_rfl
end Go.Proofs.YtlobiioioicmhaaGreatDoor
