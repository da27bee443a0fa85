/- Contracts of the functions that the law reaches. -/
import Derived.Test.YtplnhipgifcafaaDoorW6
namespace Go.Proofs.YtplnhipgifcafaaDoor
set_option linter.all false
open Go Go.Ev
variable {γ : List (Nat × AV)}
set_option maxHeartbeats 4000000 in
set_option maxRecDepth 20000 in
theorem refNumberI_ev (b : Bool) (l : List UInt8) (p : Nat) (hd : digitN (atL l p) = true) (hl : l.length ≤ 140737488351232)
    (hint : ¬ (atL l (p + (digitsEnd l p - p)) = 112 ∧ digitN (atL l (p + (digitsEnd l p - p) + 1 + sgOf (l.drop p))) = true)) :
    Ev Tryd.prog γ 42 [.sl b l.length l.length (l.map byteC), .v (.int .i64 p)] (resTP p (numberD (l.drop p))) := by
  refine Ev.of Tryd.func42 rfl ?_
  have hlt := digitsEnd_lt hd
  have hpl := (digitsEnd_step hd).2
  have hle := digitsEnd_le (l := l) (i := p) (by omega)
  obtain ⟨n, hn⟩ : ∃ n, n = digitsEnd l p - p := ⟨_, rfl⟩
  obtain ⟨sg, hsg⟩ : ∃ sg, sg = sgOf (l.drop p) := ⟨_, rfl⟩
  rw [← hn, ← hsg] at hint
  have hdg := refDigits_ev (γ := γ) b l p (by omega) (by omega)
  rw [← digitsEnd_span, ← hn] at hdg
  have hen := refEnd_ev (γ := γ) b l (p + n) (by omega) (by omega)
  have w1 : IntKind.i64.wrap ((p : Int) + (n : Int)) = ((p + n : Nat) : Int) := (i64w (by omega) (by omega)).trans (by omega)
  have ea : ∀ j, (l.getD j 0).toNat = atL l j := fun _ => rfl
  obtain ⟨hE, hND⟩ := refNum_int l p n sg (by omega) hn (by omega) hsg hint
  rw [hE] at hen
  have hn1 : 1 ≤ n := by omega
  have hpn : p + n ≤ l.length := by omega
  obtain ⟨A, hA⟩ : ∃ A, A = numL (l.drop p) 0 := ⟨_, rfl⟩
  have hdn : digitsEnd (l.drop p) 0 = n := by have := dE_drop l p 0; rw [Nat.add_zero] at this; omega
  have hA' : A = (l.drop p).take (p + n - p) := by rw [hA, numL, hdn, List.drop_zero]; congr 1; omega
  have hAl : A.length = n := by rw [hA', List.length_take, List.length_drop]; omega
  have hA0 : atL A 0 = atL l p := by rw [hA', atL_take (by omega), atL_dropk]; rfl
  have hwa := wholeAt_ev (γ := γ) b l p (p + n) (by omega) (by omega) (by omega) (fun k hk => by rw [atL_take hk, atL_dropk]; exact digitsEnd_all k rfl (by omega))
  rw [← hA', wholeR_eq] at hwa
  rw [hND, ← hA]
  have hlz := fun (h : 1 < A.length ∧ atL A 0 = 48) => lz_out (most := 9223372036854775807) h
  rw [hAl, hA0] at hlz
  have hdo : ¬ (1 < n ∧ atL l p = 48) → decO A 9223372036854775807 = decide (decV A ≤ 9223372036854775807) := fun h => by
    unfold decO
    rw [hAl, hA0]
    by_cases h2 : decV A ≤ 9223372036854775807
    · rw [decide_eq_true h2, decide_eq_true]; exact ⟨h, by omega, by omega⟩
    · rw [decide_eq_false h2, decide_eq_false]; rintro ⟨_, _, q⟩; omega
  have w5 : IntKind.i64.wrap (((p + n : Nat) : Int) + 0) = ((p + n : Nat) : Int) := (i64w (by omega) (by omega)).trans (by omega)
  have w6 : IntKind.i64.wrap (0 + 1) = 1 := by decide
  have w50 : IntKind.i64.wrap (((p + n : Nat) : Int) + ((0 : Nat) : Int)) = ((p + n : Nat) : Int) := (i64w (by omega) (by omega)).trans (by omega)
  have dEl : decide (((p + n : Nat) : Int) < (l.length : Int)) = decide (p + n < l.length) := by
    by_cases h : p + n < l.length
    · rw [decide_eq_true h, decide_eq_true]; omega
    · rw [decide_eq_false h, decide_eq_false]; omega
  have kp48 : ((atL l p : Int) == 48) = decide (atL l p = 48) := by
    by_cases h : atL l p = 48
    · simp [h]
    · rw [decide_eq_false h]; simp; omega
  have dn1 : decide ((1 : Int) < (n : Int)) = decide (1 < n) := by
    by_cases h : 1 < n
    · rw [decide_eq_true h, decide_eq_true]; omega
    · rw [decide_eq_false h, decide_eq_false]; omega
  have kE95 : ((atL l (p + n) : Int) == 95) = decide (atL l (p + n) = 95) := by
    by_cases h : atL l (p + n) = 95
    · simp [h]
    · rw [decide_eq_false h]; simp; omega
  have ept : ((p : Int) + (n : Int)).toNat = p + n := by omega
  have w60 : IntKind.i64.wrap (((0 : Nat) : Int) + 1) = 1 := by decide
  have d10c : decide ((1 : Int) < ((0 : Nat) : Int)) = false := by decide
  have d10 : decide ((1 : Int) < 0) = false := by decide
  have d00 : decide ((0 : Int) < 0) = false := by decide
  clear hA' hA hdn hND hE hn hsg hint hlt
  simp only [Tryd.f42, evS, tyS, Bool.not_true, Bool.not_false, Nat.reduceAdd, Nat.reduceSub, Nat.reduceMul, Nat.reduceLT, Nat.reduceLeDiff, Nat.reduceEqDiff, reduceCtorEq, List.reduceReplicate, Int.reduceToNat, Int.reduceLE, Int.reduceLT]
  refine CallK.intro b64 (by simp [treeL, treeA]) hdg ?_
  simp only [w1, evS, tyS, Bool.not_true, Bool.not_false, Nat.reduceAdd, Nat.reduceSub, Nat.reduceMul, Nat.reduceLT, Nat.reduceLeDiff, Nat.reduceEqDiff, reduceCtorEq, List.reduceReplicate, Int.reduceToNat, Int.reduceLE, Int.reduceLT]
  refine CallK.intro b65 (by simp [treeL, treeA]) hen ?_
  clear hdg hen
  simp only [w1, w5, w50, w6, ea, dEl, kp48, dn1, kE95, d10, d00, ept, w60, d10c, evS, tyS, Bool.not_true, Bool.not_false, Nat.reduceAdd, Nat.reduceSub, Nat.reduceMul, Nat.reduceLT, Nat.reduceLeDiff, Nat.reduceEqDiff, reduceCtorEq, List.reduceReplicate, Int.reduceToNat, Int.reduceLE, Int.reduceLT]
  (repeat' (first | (with_reducible refine And.intro ?_ ?_) | ((first | refine GuardK.intro_f (fun h => ?_) (fun h => ?_) | refine GuardK.intro_t (fun h => ?_) (fun h => ?_) | refine CondK.intro (fun h => ?_) (fun h => ?_) | refine PickK.intro (fun h => ?_) (fun h => ?_)) <;> simp only [h, w1, w5, w50, w6, ea, dEl, kp48, dn1, kE95, d10, d00, ept, w60, d10c, evS, tyS, Bool.not_true, Bool.not_false, Nat.reduceAdd, Nat.reduceSub, Nat.reduceMul, Nat.reduceLT, Nat.reduceLeDiff, Nat.reduceEqDiff, reduceCtorEq, List.reduceReplicate, Int.reduceToNat, Int.reduceLE, Int.reduceLT]) | (refine DrawK.intro (by kernel_rfl) (by kernel_rfl) ?_; simp only [w1, w5, w50, w6, ea, dEl, kp48, dn1, kE95, d10, d00, ept, w60, d10c, evS, tyS, Bool.not_true, Bool.not_false, Nat.reduceAdd, Nat.reduceSub, Nat.reduceMul, Nat.reduceLT, Nat.reduceLeDiff, Nat.reduceEqDiff, reduceCtorEq, List.reduceReplicate, Int.reduceToNat, Int.reduceLE, Int.reduceLT])))
  all_goals try (((try simp only [decide_eq_true_eq, decide_eq_false_iff_not, beq_iff_eq, bne_iff_ne, ne_eq, beq_eq_false_iff_ne, bne_eq_false_iff_eq] at *) <;> (try omega)); done)
  all_goals try (refine CallK.intro b40 rfl (refLetter_ev _) ?_; simp only [w1, w5, w50, w6, ea, dEl, kp48, dn1, kE95, d10, d00, ept, w60, d10c, evS, tyS, Bool.not_true, Bool.not_false, Nat.reduceAdd, Nat.reduceSub, Nat.reduceMul, Nat.reduceLT, Nat.reduceLeDiff, Nat.reduceEqDiff, reduceCtorEq, List.reduceReplicate, Int.reduceToNat, Int.reduceLE, Int.reduceLT]; (repeat' (first | (with_reducible refine And.intro ?_ ?_) | ((first | refine GuardK.intro_f (fun h => ?_) (fun h => ?_) | refine GuardK.intro_t (fun h => ?_) (fun h => ?_) | refine CondK.intro (fun h => ?_) (fun h => ?_) | refine PickK.intro (fun h => ?_) (fun h => ?_)) <;> simp only [h, w1, w5, w50, w6, ea, dEl, kp48, dn1, kE95, d10, d00, ept, w60, d10c, evS, tyS, Bool.not_true, Bool.not_false, Nat.reduceAdd, Nat.reduceSub, Nat.reduceMul, Nat.reduceLT, Nat.reduceLeDiff, Nat.reduceEqDiff, reduceCtorEq, List.reduceReplicate, Int.reduceToNat, Int.reduceLE, Int.reduceLT]) | (refine DrawK.intro (by kernel_rfl) (by kernel_rfl) ?_; simp only [w1, w5, w50, w6, ea, dEl, kp48, dn1, kE95, d10, d00, ept, w60, d10c, evS, tyS, Bool.not_true, Bool.not_false, Nat.reduceAdd, Nat.reduceSub, Nat.reduceMul, Nat.reduceLT, Nat.reduceLeDiff, Nat.reduceEqDiff, reduceCtorEq, List.reduceReplicate, Int.reduceToNat, Int.reduceLE, Int.reduceLT]))))
  all_goals try (((try simp only [decide_eq_true_eq, decide_eq_false_iff_not, beq_iff_eq, bne_iff_ne, ne_eq, beq_eq_false_iff_ne, bne_eq_false_iff_eq] at *) <;> (try omega)); done)
  all_goals try (refine CallK.intro b41 rfl (refDigit_ev _) ?_; simp only [w1, w5, w50, w6, ea, dEl, kp48, dn1, kE95, d10, d00, ept, w60, d10c, evS, tyS, Bool.not_true, Bool.not_false, Nat.reduceAdd, Nat.reduceSub, Nat.reduceMul, Nat.reduceLT, Nat.reduceLeDiff, Nat.reduceEqDiff, reduceCtorEq, List.reduceReplicate, Int.reduceToNat, Int.reduceLE, Int.reduceLT]; (repeat' (first | (with_reducible refine And.intro ?_ ?_) | ((first | refine GuardK.intro_f (fun h => ?_) (fun h => ?_) | refine GuardK.intro_t (fun h => ?_) (fun h => ?_) | refine CondK.intro (fun h => ?_) (fun h => ?_) | refine PickK.intro (fun h => ?_) (fun h => ?_)) <;> simp only [h, w1, w5, w50, w6, ea, dEl, kp48, dn1, kE95, d10, d00, ept, w60, d10c, evS, tyS, Bool.not_true, Bool.not_false, Nat.reduceAdd, Nat.reduceSub, Nat.reduceMul, Nat.reduceLT, Nat.reduceLeDiff, Nat.reduceEqDiff, reduceCtorEq, List.reduceReplicate, Int.reduceToNat, Int.reduceLE, Int.reduceLT]) | (refine DrawK.intro (by kernel_rfl) (by kernel_rfl) ?_; simp only [w1, w5, w50, w6, ea, dEl, kp48, dn1, kE95, d10, d00, ept, w60, d10c, evS, tyS, Bool.not_true, Bool.not_false, Nat.reduceAdd, Nat.reduceSub, Nat.reduceMul, Nat.reduceLT, Nat.reduceLeDiff, Nat.reduceEqDiff, reduceCtorEq, List.reduceReplicate, Int.reduceToNat, Int.reduceLE, Int.reduceLT]))))
  all_goals try (((try simp only [decide_eq_true_eq, decide_eq_false_iff_not, beq_iff_eq, bne_iff_ne, ne_eq, beq_eq_false_iff_ne, bne_eq_false_iff_eq] at *) <;> (try omega)); done)
  all_goals (try simp only [decide_eq_true_eq, decide_eq_false_iff_not] at *)
  all_goals first
    | (refine CallK.intro b67 (by simp [treeL, treeA]) hwa ?_
       have hnm : nameN (atL l (p + n)) = false := (by
        first
          | (rw [atL_out (by omega)]; decide)
          | (rw [nameN_or]; simp_all; done))
       have hdo' := hdo (by omega)
       by_cases hv : decV A ≤ 9223372036854775807
       · rw [if_pos hv, decide_eq_true hv, if_pos ⟨by rw [hdo']; exact decide_eq_true hv, hnm⟩]
         simp only [resTP, okTok, TokD.av, tokA, w5, w6, evS, tyS, Bool.not_true, Bool.not_false, Nat.reduceAdd, Nat.reduceSub, Nat.reduceMul, Nat.reduceLT, Nat.reduceLeDiff, Nat.reduceEqDiff, reduceCtorEq, List.reduceReplicate, Int.reduceToNat, Int.reduceLE, Int.reduceLT]
         first | done | rfl
       · rw [if_neg hv, decide_eq_false hv, if_neg (by rintro ⟨q, _⟩; rw [hdo', decide_eq_false hv] at q; cases q)]
         simp only [resTP, errTok, tokA, f0, w5, w6, evS, tyS, Bool.not_true, Bool.not_false, Nat.reduceAdd, Nat.reduceSub, Nat.reduceMul, Nat.reduceLT, Nat.reduceLeDiff, Nat.reduceEqDiff, reduceCtorEq, List.reduceReplicate, Int.reduceToNat, Int.reduceLE, Int.reduceLT]
         first | done | rfl)
    | (have hr : ¬ (decO A 9223372036854775807 = true ∧ nameN (atL l (p + n)) = false) := (by
        rintro ⟨q1, q3⟩
        first
          | (rw [hlz ⟨by omega, by omega⟩] at q1; cases q1)
          | (simp_all [nameN_or]; done)
          | (simp_all [nameN_or]; omega))
       rw [if_neg hr]
       simp only [resTP, errTok, tokA, f0, evS, tyS, Bool.not_true, Bool.not_false, Nat.reduceAdd, Nat.reduceSub, Nat.reduceMul, Nat.reduceLT, Nat.reduceLeDiff, Nat.reduceEqDiff, reduceCtorEq, List.reduceReplicate, Int.reduceToNat, Int.reduceLE, Int.reduceLT]
       first | done | rfl)
theorem refNumber_ev (b : Bool) (l : List UInt8) (p : Nat) (hd : digitN (atL l p) = true) (hl : l.length ≤ 140737488351232) :
    Ev Tryd.prog γ 42 [.sl b l.length l.length (l.map byteC), .v (.int .i64 p)] (resTP p (numberD (l.drop p))) := by
  by_cases hreal : atL l (p + (digitsEnd l p - p)) = 112 ∧ digitN (atL l (p + (digitsEnd l p - p) + 1 + sgOf (l.drop p))) = true
  · exact refNumberR_ev b l p hd hl hreal
  · exact refNumberI_ev b l p hd hl hreal
end Go.Proofs.YtplnhipgifcafaaDoor
