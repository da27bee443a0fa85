/- Contracts of the functions that the law reaches. -/
import Derived.Test.YtlobiioioicmhaaGreatDoorQ2
namespace Go.Proofs.YtlobiioioicmhaaGreatDoor
set_option linter.all false
open Go Go.Ev
set_option maxRecDepth 20000
variable {γ : List (Nat × AV)}
/-- What ref.real asks of the two rows of digits. -/
def rrealO (sg : Nat) (a b : List UInt8) : Bool :=
  decide (decV a < 9007199254740992) && decide (decV b ≤ 1023 + 51 * sg) && (decide (decV a % 2 = 1) || (decide (decV a = 0) && decide (decV b = 0))) && !(decide (sg = 1) && decide (decV b = 0)) && finB (decV a) (expOf sg (decV b))
theorem rrealO_iff {sg : Nat} {a b : List UInt8} : rrealO sg a b = true ↔ decV a < 9007199254740992 ∧ decV b ≤ 1023 + 51 * sg ∧ (decV a % 2 = 1 ∨ decV a = 0 ∧ decV b = 0) ∧ ¬ (sg = 1 ∧ decV b = 0) ∧ finB (decV a) (expOf sg (decV b)) = true := by
  unfold rrealO
  simp only [Bool.and_eq_true, Bool.or_eq_true, Bool.not_eq_true', decide_eq_true_eq, Bool.and_eq_false_iff, decide_eq_false_iff_not]
  constructor
  · rintro ⟨⟨⟨⟨a1, a2⟩, a3⟩, a4⟩, a5⟩
    exact ⟨a1, a2, a3, by omega, a5⟩
  · rintro ⟨a1, a2, a3, a4, a5⟩
    exact ⟨⟨⟨⟨a1, a2⟩, a3⟩, by omega⟩, a5⟩
theorem powerB_ev (m x sg : Nat) (h : m < 9007199254740992) (hx : x ≤ 1023 + 51 * sg) (hsg : sg = 0 ∨ sg = 1) (h0 : m = 0 → x = 0) : Ev Tryz.prog γ 250 [.v (.int .i64 m), .v (.int .i64 x), .v (.bool (decide (sg = 1)))] (.v (.float .f64 (realB m (expOf sg x)))) := by
  by_cases hm : m = 0
  · subst hm
    have hx0 := h0 rfl
    subst hx0
    have := refPower_ev (γ := γ) ((0 : Nat) : Int) 0 (decide (sg = 1)) (fun _ => 0) (by omega) (by rfl) (fun j hj => by omega)
    have e : realB 0 (expOf sg 0) = 0 := by unfold realB; rw [if_pos rfl]
    rw [e]; exact this
  · have hlg := log2_lt53 (by omega : 0 < m) h
    have := refPower_ev (γ := γ) (m : Int) x (decide (sg = 1)) (fun j => dblN m (expOf sg j)) (by omega) (by
        rw [near_eq m h]; unfold realB; rw [if_neg hm]
        have : expOf sg 0 = 0 := by unfold expOf; split <;> rfl
        simp only [this]) (fun j hj => by
        by_cases hs1 : sg = 1
        · rw [if_pos (by rw [hs1]; rfl)]
          have e1 : expOf sg j = -(j : Int) := by unfold expOf; rw [if_pos hs1]
          have e2 : expOf sg (j + 1) = -(j : Int) - 1 := by unfold expOf; rw [if_pos hs1]; omega
          simp only [e1, e2]
          exact div_two (by omega) h (by omega) (by omega)
        · rw [if_neg (by rw [decide_eq_true_eq]; exact hs1)]
          have e1 : expOf sg j = (j : Int) := by unfold expOf; rw [if_neg hs1]
          have e2 : expOf sg (j + 1) = (j : Int) + 1 := by unfold expOf; rw [if_neg hs1]; omega
          simp only [e1, e2]
          exact mul_two (by omega) h (by omega))
    have e : realB m (expOf sg x) = dblN m (expOf sg x) := by unfold realB; rw [if_neg hm]
    rw [e]; exact this
theorem sub_fin {m : Nat} {e : Int} (h : m < 9007199254740992) (he : -1074 ≤ e) (hf : finB m e = true) : FloatKind.f64.format.sub (realB m e) (realB m e) = some 0 := by
  unfold realB
  have hf := of_decide_eq_true hf
  by_cases hm : m = 0
  · rw [if_pos hm]; rfl
  · rw [if_neg hm]; exact sub_self_fin (by omega) h he (hf.resolve_left hm)
theorem sub_inf {m : Nat} {e : Int} (h : m < 9007199254740992) (he : -1074 ≤ e) (hf : finB m e = false) : FloatKind.f64.format.sub (realB m e) (realB m e) = none := by
  unfold realB
  have hf := of_decide_eq_false hf
  have hm : ¬ m = 0 := fun h => hf (.inl h)
  rw [if_neg hm]; exact sub_self_inf (by omega) h he (by omega)
theorem wholeR_eq (l : List UInt8) : wholeR l = .tup [.v (.int .i64 (if decV l ≤ 9223372036854775807 then (decV l : Int) else 0)), .v (.bool (decide (decV l ≤ 9223372036854775807)))] := by
  unfold wholeR
  by_cases h : decV l ≤ 9223372036854775807
  · rw [if_pos h, if_pos h, decide_eq_true h]
  · rw [if_neg h, if_neg h, decide_eq_false h]
end Go.Proofs.YtlobiioioicmhaaGreatDoor
namespace Go.Proofs.YtlobiioioicmhaaGreatDoor
set_option linter.all false
open Go Go.Ev
set_option maxRecDepth 20000
variable {γ : List (Nat × AV)}
theorem wholeAt_ev (b : Bool) (l : List UInt8) (i j : Nat) (hij : i ≤ j) (hj : j ≤ l.length) (hl : l.length ≤ 140737488351232) (hd : ∀ k, k < (j - i) → digitN (atL ((l.drop i).take (j - i)) k) = true) :
    Ev Tryz.prog γ 208 [.sl b (j - i) (l.length - i) (List.drop i (l.map byteC))] (wholeR ((l.drop i).take (j - i))) := by
  rw [← List.map_drop]
  refine Ev_cut1 (by omega) (by rw [List.length_drop]; omega) ?_
  have hlen : ((l.drop i).take (j - i)).length = j - i := by rw [List.length_take, List.length_drop]; omega
  exact refWhole_ev b _ (by rw [hlen]; omega) (fun k hk => hd k (by rw [hlen] at hk; exact hk))
theorem fltRes_none : fltRes none = AV.nan := rfl
set_option maxHeartbeats 4000000 in
set_option maxRecDepth 20000 in
theorem refReal_ev (b : Bool) (l : List UInt8) (p n more sg : Nat) (a c : List UInt8) (ha : a = (l.drop p).take (p + n - p)) (hc : c = (l.drop (p + n + (sg + 1))).take (p + n + more - (p + n + (sg + 1)))) (hpn : p + n + more ≤ l.length) (hsg : sg = 0 ∨ sg = 1) (hm : sg + 1 ≤ more) (hl : l.length ≤ 140737488351232)
    (hda : ∀ k, k < p + n - p → digitN (atL a k) = true) (hdc : ∀ k, k < p + n + more - (p + n + (sg + 1)) → digitN (atL c k) = true) :
    Ev Tryz.prog γ 207 [.sl b l.length l.length (l.map byteC), .v (.int .i64 p), .v (.int .i64 n), .v (.int .i64 more), .v (.int .i64 ((sg + 1 : Nat) : Int))]
      (if rrealO sg a c = true then okTok (tokA 3 [] 0 (.v (.float .f64 (realB (decV a) (expOf sg (decV c))))) p (n + more : Nat)) else errTok 12) := by
  refine Ev.of Tryz.func207 rfl ?_
  generalize hR : (if rrealO sg a c = true then okTok (tokA 3 [] 0 (.v (.float .f64 (realB (decV a) (expOf sg (decV c))))) p (n + more : Nat)) else errTok 12) = R
  have hwa := wholeAt_ev (γ := γ) b l p (p + n) (by omega) (by omega) hl (by rw [← ha]; exact hda)
  have hwc := wholeAt_ev (γ := γ) b l (p + n + (sg + 1)) (p + n + more) (by omega) hpn hl (by rw [← hc]; exact hdc)
  rw [← ha, wholeR_eq] at hwa
  rw [← hc, wholeR_eq] at hwc
  clear ha hc hda hdc
  have w1 : IntKind.i64.wrap ((p : Int) + (n : Int)) = ((p + n : Nat) : Int) := (i64w (by omega) (by omega)).trans (by omega)
  have w2 : IntKind.i64.wrap (((p + n : Nat) : Int) + ((sg + 1 : Nat) : Int)) = ((p + n + (sg + 1) : Nat) : Int) := (i64w (by omega) (by omega)).trans (by omega)
  have w3 : IntKind.i64.wrap (((p + n : Nat) : Int) + (more : Int)) = ((p + n + more : Nat) : Int) := (i64w (by omega) (by omega)).trans (by omega)
  have w4 : IntKind.i64.wrap ((n : Int) + (more : Int)) = ((n + more : Nat) : Int) := (i64w (by omega) (by omega)).trans (by omega)
  have e2 : (((sg + 1 : Nat) : Int) == 2) = decide (sg = 1) := by
    by_cases h : sg = 1
    · subst h; rfl
    · rw [decide_eq_false h]; simp; omega
  simp only [Tryz.f207, w1, evS, tyS, Nat.reduceAdd, Nat.reduceSub, Nat.reduceLT, Nat.reduceEqDiff, reduceCtorEq]
  (repeat' (first | (with_reducible refine And.intro ?_ ?_) | ((first | refine GuardK.intro_f (fun h => ?_) (fun h => ?_) | refine GuardK.intro_t (fun h => ?_) (fun h => ?_) | refine CondK.intro (fun h => ?_) (fun h => ?_) | refine PickK.intro (fun h => ?_) (fun h => ?_)) <;> simp only [h, w1, w2, w3, w4, e2, evS, tyS, Bool.not_true, Bool.not_false, Nat.reduceAdd, Nat.reduceSub, Nat.reduceMul, Nat.reduceLT, Nat.reduceLeDiff, Nat.reduceEqDiff, reduceCtorEq, List.reduceReplicate, Int.reduceToNat, Int.reduceLE, Int.reduceLT]) | (refine DrawK.intro (by kernel_rfl) (by kernel_rfl) ?_; simp only [w1, w2, w3, w4, e2, evS, tyS, Bool.not_true, Bool.not_false, Nat.reduceAdd, Nat.reduceSub, Nat.reduceMul, Nat.reduceLT, Nat.reduceLeDiff, Nat.reduceEqDiff, reduceCtorEq, List.reduceReplicate, Int.reduceToNat, Int.reduceLE, Int.reduceLT])))
  all_goals try (((try simp only [decide_eq_true_eq, decide_eq_false_iff_not, beq_iff_eq, bne_iff_ne, ne_eq, beq_eq_false_iff_ne, bne_eq_false_iff_eq] at *) <;> (try omega)); done)
  refine CallK.intro b67 (by simp [treeL, treeA]) hwa ?_
  simp only [w1, w2, w3, evS, tyS, Nat.reduceLT, Nat.reduceEqDiff, reduceCtorEq]
  (repeat' (first | (with_reducible refine And.intro ?_ ?_) | ((first | refine GuardK.intro_f (fun h => ?_) (fun h => ?_) | refine GuardK.intro_t (fun h => ?_) (fun h => ?_) | refine CondK.intro (fun h => ?_) (fun h => ?_) | refine PickK.intro (fun h => ?_) (fun h => ?_)) <;> simp only [h, w1, w2, w3, w4, e2, evS, tyS, Bool.not_true, Bool.not_false, Nat.reduceAdd, Nat.reduceSub, Nat.reduceMul, Nat.reduceLT, Nat.reduceLeDiff, Nat.reduceEqDiff, reduceCtorEq, List.reduceReplicate, Int.reduceToNat, Int.reduceLE, Int.reduceLT]) | (refine DrawK.intro (by kernel_rfl) (by kernel_rfl) ?_; simp only [w1, w2, w3, w4, e2, evS, tyS, Bool.not_true, Bool.not_false, Nat.reduceAdd, Nat.reduceSub, Nat.reduceMul, Nat.reduceLT, Nat.reduceLeDiff, Nat.reduceEqDiff, reduceCtorEq, List.reduceReplicate, Int.reduceToNat, Int.reduceLE, Int.reduceLT])))
  all_goals try (((try simp only [decide_eq_true_eq, decide_eq_false_iff_not, beq_iff_eq, bne_iff_ne, ne_eq, beq_eq_false_iff_ne, bne_eq_false_iff_eq] at *) <;> (try omega)); done)
  refine CallK.intro b67 (by simp [treeL, treeA]) hwc ?_
  clear hwa hwc
  by_cases hOa : decV a ≤ 9223372036854775807
  · by_cases hOc : decV c ≤ 9223372036854775807
    · have hPw : ∀ bb : Bool, bb = decide (sg = 1) → decV a < 9007199254740992 → decV c ≤ 1023 + 51 * sg → (decV a = 0 → decV c = 0) → Ev Tryz.prog γ 250 [.v (.int .i64 (decV a)), .v (.int .i64 (decV c)), .v (.bool bb)] (.v (.float .f64 (realB (decV a) (expOf sg (decV c))))) := fun bb hbb h1 h2 h3 => by rw [hbb]; exact powerB_ev (γ := γ) (decV a) (decV c) sg h1 h2 hsg h3
      have hfi := fun h1 h2 => sub_fin (m := decV a) (e := expOf sg (decV c)) h1 h2
      have hin := fun h1 h2 => sub_inf (m := decV a) (e := expOf sg (decV c)) h1 h2
      simp only [rrealO_iff] at hR
      rw [if_pos hOa, if_pos hOc, decide_eq_true hOa, decide_eq_true hOc]
      have hex : decV c ≤ 1023 + 51 * sg → -1074 ≤ expOf sg (decV c) := fun h => by unfold expOf; split <;> omega
      generalize expOf sg (decV c) = ex at *
      generalize decV a = A at *
      generalize decV c = C at *
      have etm : ∀ n : Nat, ((n : Int).tmod 2 == 0) = decide (n % 2 = 0) := fun n => by
        rw [Int.tmod_eq_emod_of_nonneg (by omega)]
        by_cases h : n % 2 = 0
        · rw [decide_eq_true h]; simp; omega
        · rw [decide_eq_false h]; simp; omega
      have ez : ∀ n : Nat, ((n : Int) == 0) = decide (n = 0) := fun n => by
        by_cases h : n = 0
        · simp [h]
        · rw [decide_eq_false h]; simp [h]
      have en : ∀ n : Nat, ((n : Int) != 0) = decide (n ≠ 0) := fun n => by
        by_cases h : n = 0
        · simp [h]
        · rw [decide_eq_true h]; simp [h]
      have eg : ∀ (n : Nat), decide ((9007199254740992 : Int) ≤ (n : Int)) = decide (9007199254740992 ≤ n) := fun n => by
        by_cases h : 9007199254740992 ≤ n
        · rw [decide_eq_true h, decide_eq_true]; omega
        · rw [decide_eq_false h, decide_eq_false]; omega
      have o00 : (FloatKind.f64.format.order 0 0 != some .eq) = false := by rfl
      rcases hsg with rfl | rfl
      · have hPb := hPw false (by decide)
        clear hPw
        have e22 : (((1 : Nat) : Int) == 2) = false := by decide
        have d01 : decide ((0 : Nat) = 1) = false := by decide
        have el : decide ((1023 : Int) < (C : Int)) = decide (1023 < C) := by
          by_cases h : 1023 < C
          · rw [decide_eq_true h, decide_eq_true]; omega
          · rw [decide_eq_false h, decide_eq_false]; omega
        simp only [eg, e22, evS, Bool.not_true, Nat.reduceLT, Nat.reduceEqDiff, reduceCtorEq]
        (repeat' (first | (with_reducible refine And.intro ?_ ?_) | ((first | refine GuardK.intro_f (fun h => ?_) (fun h => ?_) | refine GuardK.intro_t (fun h => ?_) (fun h => ?_) | refine CondK.intro (fun h => ?_) (fun h => ?_) | refine PickK.intro (fun h => ?_) (fun h => ?_)) <;> simp only [h, etm, ez, en, el, evS, tyS, Nat.reduceAdd, Nat.reduceLT, Nat.reduceLeDiff, Nat.reduceEqDiff, reduceCtorEq]) | (refine DrawK.intro (by kernel_rfl) (by kernel_rfl) ?_; simp only [etm, ez, en, eg, el, d01, e22, evS, tyS, Bool.not_true, Bool.not_false, Nat.reduceAdd, Nat.reduceSub, Nat.reduceMul, Nat.reduceLT, Nat.reduceLeDiff, Nat.reduceEqDiff, reduceCtorEq, List.reduceReplicate, Int.reduceToNat, Int.reduceLE, Int.reduceLT])))
        all_goals try (((try simp only [decide_eq_true_eq, decide_eq_false_iff_not, ne_eq, beq_eq_false_iff_ne, bne_eq_false_iff_eq] at *) <;> (try omega)); done)
        all_goals (try simp only [decide_eq_true_eq, decide_eq_false_iff_not, ne_eq, Classical.not_not] at *)
        all_goals try (rw [← hR, if_neg (by rintro ⟨q1, q2, q3, q4, q5⟩; first | omega | exact q4 ⟨trivial, by omega⟩)]; simp only [errTok, tokA, f0, evS]; done)
        all_goals
          (have hexx := hex (by omega)
           refine CallK.intro b98 rfl (hPb (by omega) (by omega) (by omega)) ?_
           cases hf : finB A ex with
           | true =>
             have s1 := hfi (by omega) hexx hf
             rw [← hR, if_pos ⟨by omega, by omega, by omega, by omega, hf⟩]
             simp only [s1, fltRes_some, o00, okTok, tokA, w4, evS, tyS, Nat.reduceAdd, Nat.reduceLT, Nat.reduceLeDiff, Nat.reduceEqDiff, reduceCtorEq]
           | false =>
             have s1 := hin (by omega) hexx hf
             rw [← hR, if_neg (by rintro ⟨q1, q2, q3, q4, q5⟩; rw [hf] at q5; cases q5)]
             simp only [s1, fltRes_none, errTok, tokA, f0, evS, tyS, Nat.reduceAdd, Nat.reduceLT, Nat.reduceLeDiff, Nat.reduceEqDiff, reduceCtorEq])
      · have hPb := hPw true (by decide)
        clear hPw
        have e22 : (((2 : Nat) : Int) == 2) = true := by decide
        have d01 : decide ((1 : Nat) = 1) = true := by decide
        have el : decide ((1074 : Int) < (C : Int)) = decide (1074 < C) := by
          by_cases h : 1074 < C
          · rw [decide_eq_true h, decide_eq_true]; omega
          · rw [decide_eq_false h, decide_eq_false]; omega
        simp only [eg, e22, evS, Bool.not_true, Nat.reduceAdd, Nat.reduceLT, Nat.reduceEqDiff, reduceCtorEq]
        (repeat' (first | (with_reducible refine And.intro ?_ ?_) | ((first | refine GuardK.intro_f (fun h => ?_) (fun h => ?_) | refine GuardK.intro_t (fun h => ?_) (fun h => ?_) | refine CondK.intro (fun h => ?_) (fun h => ?_) | refine PickK.intro (fun h => ?_) (fun h => ?_)) <;> simp only [h, etm, ez, en, el, evS, tyS, Nat.reduceAdd, Nat.reduceLT, Nat.reduceLeDiff, Nat.reduceEqDiff, reduceCtorEq]) | (refine DrawK.intro (by kernel_rfl) (by kernel_rfl) ?_; simp only [etm, ez, en, eg, el, d01, e22, evS, tyS, Bool.not_true, Bool.not_false, Nat.reduceAdd, Nat.reduceSub, Nat.reduceMul, Nat.reduceLT, Nat.reduceLeDiff, Nat.reduceEqDiff, reduceCtorEq, List.reduceReplicate, Int.reduceToNat, Int.reduceLE, Int.reduceLT])))
        all_goals try (((try simp only [decide_eq_true_eq, decide_eq_false_iff_not, beq_iff_eq, ne_eq, bne_eq_false_iff_eq] at *) <;> (try omega)); done)
        all_goals (try simp only [decide_eq_true_eq, decide_eq_false_iff_not, ne_eq, Classical.not_not] at *)
        all_goals try (rw [← hR, if_neg (by rintro ⟨q1, q2, q3, q4, q5⟩; first | omega | exact q4 ⟨trivial, by omega⟩)]; simp only [errTok, tokA, f0, evS]; done)
        all_goals
          (have hexx := hex (by omega)
           refine CallK.intro b98 rfl (hPb (by omega) (by omega) (by omega)) ?_
           cases hf : finB A ex with
           | true =>
             have s1 := hfi (by omega) hexx hf
             rw [← hR, if_pos ⟨by omega, by omega, by omega, by omega, hf⟩]
             simp only [s1, fltRes_some, o00, okTok, tokA, w4, evS, tyS, Nat.reduceAdd, Nat.reduceLT, Nat.reduceLeDiff, Nat.reduceEqDiff, reduceCtorEq]
           | false =>
             have s1 := hin (by omega) hexx hf
             rw [← hR, if_neg (by rintro ⟨q1, q2, q3, q4, q5⟩; rw [hf] at q5; cases q5)]
             simp only [s1, fltRes_none, errTok, tokA, f0, evS, tyS, Nat.reduceAdd, Nat.reduceLT, Nat.reduceLeDiff, Nat.reduceEqDiff, reduceCtorEq])
    · have hz : ¬ (rrealO sg a c = true) := fun q => by have := (rrealO_iff.1 q).2.1; omega
      rw [if_neg hz] at hR
      rw [← hR, decide_eq_false hOc, decide_eq_true hOa]
      simp only [evS, Nat.reduceLT, Nat.reduceEqDiff, reduceCtorEq]
      (repeat' (first | (with_reducible refine And.intro ?_ ?_) | ((first | refine GuardK.intro_f (fun h => ?_) (fun h => ?_) | refine GuardK.intro_t (fun h => ?_) (fun h => ?_) | refine CondK.intro (fun h => ?_) (fun h => ?_) | refine PickK.intro (fun h => ?_) (fun h => ?_)) <;> simp only [h, evS, tyS, Bool.not_true, Bool.not_false, Nat.reduceAdd, Nat.reduceLT, Nat.reduceLeDiff, Nat.reduceEqDiff, reduceCtorEq]) | (refine DrawK.intro (by kernel_rfl) (by kernel_rfl) ?_; simp only [evS, tyS, Bool.not_true, Bool.not_false, Nat.reduceAdd, Nat.reduceSub, Nat.reduceMul, Nat.reduceLT, Nat.reduceLeDiff, Nat.reduceEqDiff, reduceCtorEq, List.reduceReplicate, Int.reduceToNat, Int.reduceLE, Int.reduceLT])))
      all_goals try (((try simp only [beq_iff_eq, ne_eq, beq_eq_false_iff_ne] at *) <;> (try omega)); done)
      all_goals (simp only [errTok, tokA, f0, evS]; done)
  · have hz : ¬ (rrealO sg a c = true) := fun q => by have := (rrealO_iff.1 q).1; omega
    rw [if_neg hz] at hR
    rw [← hR, decide_eq_false hOa]
    simp only [evS, Nat.reduceLT, Nat.reduceEqDiff, reduceCtorEq]
    (repeat' (first | (with_reducible refine And.intro ?_ ?_) | ((first | refine GuardK.intro_f (fun h => ?_) (fun h => ?_) | refine GuardK.intro_t (fun h => ?_) (fun h => ?_) | refine CondK.intro (fun h => ?_) (fun h => ?_) | refine PickK.intro (fun h => ?_) (fun h => ?_)) <;> simp only [h, evS, tyS, Bool.not_false, Nat.reduceAdd, Nat.reduceLT, Nat.reduceLeDiff, Nat.reduceEqDiff, reduceCtorEq]) | (refine DrawK.intro (by kernel_rfl) (by kernel_rfl) ?_; simp only [evS, tyS, Bool.not_true, Bool.not_false, Nat.reduceAdd, Nat.reduceSub, Nat.reduceMul, Nat.reduceLT, Nat.reduceLeDiff, Nat.reduceEqDiff, reduceCtorEq, List.reduceReplicate, Int.reduceToNat, Int.reduceLE, Int.reduceLT])))
    all_goals try (((try simp only [beq_iff_eq, ne_eq, beq_eq_false_iff_ne] at *) <;> (try omega)); done)
    all_goals (simp only [errTok, tokA, f0, evS]; done)
end Go.Proofs.YtlobiioioicmhaaGreatDoor
namespace Go.Proofs.YtlobiioioicmhaaGreatDoor
set_option linter.all false
open Go Go.Ev
set_option maxRecDepth 20000
variable {γ : List (Nat × AV)}
theorem dE_drop (l : List UInt8) (p i : Nat) : digitsEnd (l.drop p) i + p = digitsEnd l (p + i) := by
  unfold digitsEnd
  rw [List.drop_drop]
  omega
theorem lz_out {l : List UInt8} {most : Int} (h : 1 < l.length ∧ atL l 0 = 48) : decO l most = false := by
  unfold decO; exact decide_eq_false (fun q => q.1 h)
theorem realO_rreal {sg : Nat} (hsg : sg = 0 ∨ sg = 1) {a c : List UInt8} {f : Nat} (ha : ¬ (1 < a.length ∧ atL a 0 = 48)) (hc : ¬ (1 < c.length ∧ atL c 0 = 48)) (hf : nameN f = false) : realO sg a c f = rrealO sg a c := by
  rw [Bool.eq_iff_iff, realO_iff, rrealO_iff]
  have h1 : decO a 9007199254740991 = true ↔ decV a < 9007199254740992 := by
    unfold decO
    rw [decide_eq_true_eq]
    constructor
    · rintro ⟨_, _, h⟩; omega
    · intro h; exact ⟨ha, by omega, by omega⟩
  have h2 : decO c (1023 + 51 * sg) = true ↔ decV c ≤ 1023 + 51 * sg := by
    unfold decO
    rw [decide_eq_true_eq]
    constructor
    · rintro ⟨_, _, h⟩; omega
    · intro h; exact ⟨hc, by omega, by omega⟩
  rw [h1, h2]
  constructor
  · rintro ⟨a1, a2, a3, a4, _, a6⟩; exact ⟨a1, a2, a3, a4, a6⟩
  · rintro ⟨a1, a2, a3, a4, a6⟩; exact ⟨a1, a2, a3, a4, hf, a6⟩
/-- What ref.number sees, in the words of the text from its place on. -/
theorem refNum_real (l : List UInt8) (p n sg : Nat) (hp : p + n ≤ l.length) (hn : n = digitsEnd l p - p) (hge : p ≤ digitsEnd l p) (hs : sg = sgOf (l.drop p)) (h112 : atL l (p + n) = 112) (hd : digitN (atL l (p + n + 1 + sg)) = true) :
    endF l (p + n) = (digitsEnd l (p + n + 1 + sg) - (p + n), sg + 1) ∧ numberD (l.drop p) = realD (l.drop p) n sg ∧ (sg = 0 ∨ sg = 1) ∧ p + n + 1 + sg < digitsEnd l (p + n + 1 + sg) ∧ digitsEnd l (p + n + 1 + sg) ≤ l.length := by
  have hlt := digitsEnd_lt hd
  have hl2 := (digitsEnd_step hd).2
  have hle := digitsEnd_le (l := l) (i := p + n + 1 + sg) (by omega)
  have hdn : digitsEnd (l.drop p) 0 = n := by have := dE_drop l p 0; rw [Nat.add_zero] at this; omega
  have hsg : sg = if atL l (p + n + 1) = 45 then 1 else 0 := by
    rw [hs]; unfold sgOf
    rw [hdn, atL_dropk, atL_dropk, ← Nat.add_assoc]
    by_cases h : atL l (p + n + 1) = 45
    · rw [if_pos ⟨h112, h⟩, if_pos h]
    · rw [if_neg (fun q => h q.2), if_neg h]
  have hhead : headF l (p + n) = sg + 1 := by
    unfold headF; rw [hsg]; split <;> rfl
  have hspan : spanN l (p + n + headF l (p + n)) = digitsEnd l (p + n + 1 + sg) - (p + n + 1 + sg) := by
    unfold spanN
    rw [hhead, ← digitsEnd_span, show p + n + (sg + 1) = p + n + 1 + sg from by omega]
  refine ⟨?_, ?_, ?_, hlt, hle⟩
  · unfold endF
    rw [if_neg (by omega), if_neg (by rw [hspan]; omega), hspan, hhead]
    congr 1; omega
  · unfold numberD
    rw [hdn, ← hs, if_pos ⟨by rw [atL_dropk]; exact h112, by rw [atL_dropk, ← Nat.add_assoc, ← Nat.add_assoc]; exact hd⟩]
  · rw [hsg]; split
    · exact .inr rfl
    · exact .inl rfl
theorem refNum_int (l : List UInt8) (p n sg : Nat) (hp : p + n ≤ l.length) (hn : n = digitsEnd l p - p) (hge : p ≤ digitsEnd l p) (hs : sg = sgOf (l.drop p)) (h : ¬ (atL l (p + n) = 112 ∧ digitN (atL l (p + n + 1 + sg)) = true)) :
    endF l (p + n) = (0, 0) ∧ numberD (l.drop p) = if decO (numL (l.drop p) 0) 9223372036854775807 = true ∧ nameN (atL l (p + n)) = false then .ok ⟨2, [], decV (numL (l.drop p) 0), 0, n⟩ else .error 12 := by
  have hdn : digitsEnd (l.drop p) 0 = n := by have := dE_drop l p 0; rw [Nat.add_zero] at this; omega
  constructor
  · unfold endF
    by_cases h112 : atL l (p + n) = 112
    · rw [if_neg (by omega)]
      have hsg : sg = if atL l (p + n + 1) = 45 then 1 else 0 := by
        rw [hs]; unfold sgOf
        rw [hdn, atL_dropk, atL_dropk, ← Nat.add_assoc]
        by_cases h : atL l (p + n + 1) = 45
        · rw [if_pos ⟨h112, h⟩, if_pos h]
        · rw [if_neg (fun q => h q.2), if_neg h]
      have hhead : headF l (p + n) = sg + 1 := by
        unfold headF; rw [hsg]; split <;> rfl
      have hnd : digitN (atL l (p + n + 1 + sg)) = false := by
        cases hc : digitN (atL l (p + n + 1 + sg)) with
        | true => exact absurd ⟨h112, hc⟩ h
        | false => rfl
      have hst := digitsEnd_stop hnd
      rw [if_pos]
      unfold spanN
      rw [hhead, ← digitsEnd_span, show p + n + (sg + 1) = p + n + 1 + sg from by omega, hst]
      omega
    · rw [if_pos h112]
  · unfold numberD
    rw [hdn, ← hs, if_neg (by rw [atL_dropk, atL_dropk, ← Nat.add_assoc, ← Nat.add_assoc]; exact h), atL_dropk]
/-- Does a name's byte stand there? As the reference asks it. -/
theorem nameN_or (x : Nat) : nameN x = (letterN x || digitN x || decide (x = 95)) := rfl
set_option maxHeartbeats 4000000 in
set_option maxRecDepth 20000 in
theorem refNumberR_ev (b : Bool) (l : List UInt8) (p : Nat) (hd : digitN (atL l p) = true) (hl : l.length ≤ 140737488351232)
    (hreal : atL l (p + (digitsEnd l p - p)) = 112 ∧ digitN (atL l (p + (digitsEnd l p - p) + 1 + sgOf (l.drop p))) = true) :
    Ev Tryz.prog γ 140 [.sl b l.length l.length (l.map byteC), .v (.int .i64 p)] (resTP p (numberD (l.drop p))) := by
  refine Ev.of Tryz.func140 rfl ?_
  have hlt := digitsEnd_lt hd
  have hpl := (digitsEnd_step hd).2
  have hle := digitsEnd_le (l := l) (i := p) (by omega)
  obtain ⟨n, hn⟩ : ∃ n, n = digitsEnd l p - p := ⟨_, rfl⟩
  obtain ⟨sg, hsg⟩ : ∃ sg, sg = sgOf (l.drop p) := ⟨_, rfl⟩
  rw [← hn, ← hsg] at hreal
  have hdg := refDigits_ev (γ := γ) b l p (by omega) (by omega)
  rw [← digitsEnd_span, ← hn] at hdg
  have hen := refEnd_ev (γ := γ) b l (p + n) (by omega) (by omega)
  have w1 : IntKind.i64.wrap ((p : Int) + (n : Int)) = ((p + n : Nat) : Int) := (i64w (by omega) (by omega)).trans (by omega)
  have ea : ∀ j, (l.getD j 0).toNat = atL l j := fun _ => rfl
  simp only [Tryz.f140, evS, tyS, Nat.reduceAdd, Nat.reduceSub, Nat.reduceLT, Nat.reduceEqDiff, reduceCtorEq]
  refine CallK.intro b64 (by simp [treeL, treeA]) hdg ?_
  simp only [w1, evS, Nat.reduceLT, Nat.reduceEqDiff, reduceCtorEq]
  obtain ⟨hE, hND, hs01, hlt2, hle2⟩ := refNum_real l p n sg (by omega) hn (by omega) hsg hreal.1 hreal.2
  rw [hE] at hen
  refine CallK.intro b65 (by simp [treeL, treeA]) hen ?_
  obtain ⟨E, hE'⟩ : ∃ E, E = digitsEnd l (p + n + 1 + sg) := ⟨_, rfl⟩
  have hEb : p + n + 1 + sg < E ∧ E ≤ l.length := by rw [hE']; exact ⟨hlt2, hle2⟩
  clear hlt2 hle2
  obtain ⟨A, hA⟩ : ∃ A, A = numL (l.drop p) 0 := ⟨_, rfl⟩
  obtain ⟨C, hC⟩ : ∃ C, C = numL (l.drop p) (n + 1 + sg) := ⟨_, rfl⟩
  have hdn : digitsEnd (l.drop p) 0 = n := by have := dE_drop l p 0; rw [Nat.add_zero] at this; omega
  have hdE : digitsEnd (l.drop p) (n + 1 + sg) = E - p := by have := dE_drop l p (n + 1 + sg); rw [← Nat.add_assoc, ← Nat.add_assoc, ← hE'] at this; omega
  have hA' : A = (l.drop p).take (p + n - p) := by rw [hA, numL, hdn, List.drop_zero]; congr 1; omega
  have hC' : C = (l.drop (p + n + (sg + 1))).take (p + n + (E - (p + n)) - (p + n + (sg + 1))) := by
    rw [hC, numL, hdE, List.drop_drop, show p + (n + 1 + sg) = p + n + (sg + 1) from by omega]; congr 1; omega
  have hAl : A.length = n := by rw [hA', List.length_take, List.length_drop]; omega
  have hCl : C.length = E - (p + n + (sg + 1)) := by rw [hC', List.length_take, List.length_drop]; omega
  have hA0 : atL A 0 = atL l p := by rw [hA', atL_take (by omega), atL_dropk]; rfl
  have hC0 : atL C 0 = atL l (p + n + (sg + 1)) := by rw [hC', atL_take (by omega), atL_dropk]; rfl
  have hres : resTP p (numberD (l.drop p)) = if realO sg A C (atL l E) = true then okTok (tokA 3 [] 0 (.v (.float .f64 (realB (decV A) (expOf sg (decV C))))) p (n + (E - (p + n)) : Nat)) else errTok 12 := by
    rw [hND, realD, ← hA, ← hC, hdE, atL_dropk, show p + (E - p) = E from by omega]
    split
    · show okTok (tokA 3 [] 0 _ _ ((E - p : Nat) : Int)) = _
      rw [show n + (E - (p + n)) = E - p from by omega]
    · rfl
  have hreal66 := refReal_ev (γ := γ) b l p n (E - (p + n)) sg A C hA' hC' (by omega) hs01 (by omega) (by omega)
    (fun k hk => by rw [hA', atL_take hk, atL_dropk]; exact digitsEnd_all k rfl (by omega))
    (fun k hk => by rw [hC', atL_take hk, atL_dropk]; exact digitsEnd_all (i := p + n + 1 + sg) k (by omega) (by rw [← hE']; omega))
  have hrr := fun h1 h2 h3 => realO_rreal (a := A) (c := C) (f := atL l E) hs01 h1 h2 h3
  have hlzA := fun (h : 1 < A.length ∧ atL A 0 = 48) => lz_out (most := 9007199254740991) h
  have hlzC := fun (h : 1 < C.length ∧ atL C 0 = 48) => lz_out (most := 1023 + 51 * sg) h
  rw [hAl, hA0] at hlzA
  rw [hCl, hC0] at hlzC
  rw [hAl, hA0, hCl, hC0] at hrr
  have hro : realO sg A C (atL l E) = true → decO A 9007199254740991 = true ∧ decO C (1023 + 51 * sg) = true ∧ nameN (atL l E) = false := fun h => by
    have := realO_iff.1 h; exact ⟨this.1, this.2.1, this.2.2.2.2.1⟩
  rw [hres]
  generalize realO sg A C (atL l E) = ro at *
  rw [← hE']
  have w5 : IntKind.i64.wrap (((p + n : Nat) : Int) + ((E - (p + n) : Nat) : Int)) = (E : Int) := (i64w (by omega) (by omega)).trans (by omega)
  have w6 : IntKind.i64.wrap (((sg + 1 : Nat) : Int) + 1) = ((sg + 1 + 1 : Nat) : Int) := (i64w (by omega) (by omega)).trans (by omega)
  have w7 : IntKind.i64.wrap (((p + n : Nat) : Int) + ((sg + 1 : Nat) : Int)) = ((p + n + (sg + 1) : Nat) : Int) := (i64w (by omega) (by omega)).trans (by omega)
  have dEl : decide ((E : Int) < (l.length : Int)) = decide (E < l.length) := by
    by_cases h : E < l.length
    · rw [decide_eq_true h, decide_eq_true]; omega
    · rw [decide_eq_false h, decide_eq_false]; omega
  have dpos : decide ((0 : Int) < ((E - (p + n) : Nat) : Int)) = true := decide_eq_true (by omega)
  have kp48 : ((atL l p : Int) == 48) = decide (atL l p = 48) := by
    by_cases h : atL l p = 48
    · simp [h]
    · rw [decide_eq_false h]; simp; omega
  have k48 : ((atL l (p + n + (sg + 1)) : Int) == 48) = decide (atL l (p + n + (sg + 1)) = 48) := by
    by_cases h : atL l (p + n + (sg + 1)) = 48
    · simp [h]
    · rw [decide_eq_false h]; simp; omega
  have dn1 : decide ((1 : Int) < (n : Int)) = decide (1 < n) := by
    by_cases h : 1 < n
    · rw [decide_eq_true h, decide_eq_true]; omega
    · rw [decide_eq_false h, decide_eq_false]; omega
  have dsg : decide (((sg + 1 + 1 : Nat) : Int) < ((E - (p + n) : Nat) : Int)) = decide (sg + 1 + 1 < E - (p + n)) := by
    by_cases h : sg + 1 + 1 < E - (p + n)
    · rw [decide_eq_true h, decide_eq_true]; omega
    · rw [decide_eq_false h, decide_eq_false]; omega
  have kE95 : ((atL l E : Int) == 95) = decide (atL l E = 95) := by
    by_cases h : atL l E = 95
    · simp [h]
    · rw [decide_eq_false h]; simp; omega
  clear hres hND hen hdg hA' hC' hA hC hdE hdn hE' hE
  simp only [w1, w5, evS, tyS, Nat.reduceLT, Nat.reduceEqDiff, reduceCtorEq]
  (repeat' (first | (with_reducible refine And.intro ?_ ?_) | ((first | refine GuardK.intro_f (fun h => ?_) (fun h => ?_) | refine GuardK.intro_t (fun h => ?_) (fun h => ?_) | refine CondK.intro (fun h => ?_) (fun h => ?_) | refine PickK.intro (fun h => ?_) (fun h => ?_)) <;> simp only [h, w1, w6, w7, ea, dpos, kp48, k48, dn1, evS, tyS, Nat.reduceAdd, Nat.reduceLT, Nat.reduceLeDiff, Nat.reduceEqDiff, reduceCtorEq]) | (refine DrawK.intro (by kernel_rfl) (by kernel_rfl) ?_; simp only [w1, w5, w6, w7, ea, dEl, dpos, kp48, k48, dn1, dsg, kE95, evS, tyS, Bool.not_true, Bool.not_false, Nat.reduceAdd, Nat.reduceSub, Nat.reduceMul, Nat.reduceLT, Nat.reduceLeDiff, Nat.reduceEqDiff, reduceCtorEq, List.reduceReplicate, Int.reduceToNat, Int.reduceLE, Int.reduceLT])))
  all_goals try (((try simp only [decide_eq_true_eq, decide_eq_false_iff_not] at *) <;> (try omega)); done)
  all_goals try (refine CallK.intro b40 rfl (refLetter_ev _) ?_; simp only [evS, Nat.reduceLT, Nat.reduceEqDiff, reduceCtorEq]; (repeat' (first | (with_reducible refine And.intro ?_ ?_) | ((first | refine GuardK.intro_f (fun h => ?_) (fun h => ?_) | refine GuardK.intro_t (fun h => ?_) (fun h => ?_) | refine CondK.intro (fun h => ?_) (fun h => ?_) | refine PickK.intro (fun h => ?_) (fun h => ?_)) <;> simp only [h, w1, w6, w7, ea, kp48, k48, dn1, evS, tyS, Nat.reduceAdd, Nat.reduceLT, Nat.reduceLeDiff, Nat.reduceEqDiff, reduceCtorEq]) | (refine DrawK.intro (by kernel_rfl) (by kernel_rfl) ?_; simp only [w1, w5, w6, w7, ea, dEl, dpos, kp48, k48, dn1, dsg, kE95, evS, tyS, Bool.not_true, Bool.not_false, Nat.reduceAdd, Nat.reduceSub, Nat.reduceMul, Nat.reduceLT, Nat.reduceLeDiff, Nat.reduceEqDiff, reduceCtorEq, List.reduceReplicate, Int.reduceToNat, Int.reduceLE, Int.reduceLT]))))
  all_goals try (((try simp only [decide_eq_true_eq, decide_eq_false_iff_not] at *) <;> (try omega)); done)
  all_goals try (refine CallK.intro b41 rfl (refDigit_ev _) ?_; simp only [evS, Nat.reduceLT, Nat.reduceEqDiff, reduceCtorEq]; (repeat' (first | (with_reducible refine And.intro ?_ ?_) | ((first | refine GuardK.intro_f (fun h => ?_) (fun h => ?_) | refine GuardK.intro_t (fun h => ?_) (fun h => ?_) | refine CondK.intro (fun h => ?_) (fun h => ?_) | refine PickK.intro (fun h => ?_) (fun h => ?_)) <;> simp only [h, w1, w6, w7, ea, dpos, kp48, k48, dn1, kE95, evS, tyS, Nat.reduceAdd, Nat.reduceLT, Nat.reduceLeDiff, Nat.reduceEqDiff, reduceCtorEq]) | (refine DrawK.intro (by kernel_rfl) (by kernel_rfl) ?_; simp only [w1, w5, w6, w7, ea, dEl, dpos, kp48, k48, dn1, dsg, kE95, evS, tyS, Bool.not_true, Bool.not_false, Nat.reduceAdd, Nat.reduceSub, Nat.reduceMul, Nat.reduceLT, Nat.reduceLeDiff, Nat.reduceEqDiff, reduceCtorEq, List.reduceReplicate, Int.reduceToNat, Int.reduceLE, Int.reduceLT]))))
  all_goals try (((try simp only [decide_eq_true_eq, decide_eq_false_iff_not] at *) <;> (try omega)); done)
  all_goals (try simp only [decide_eq_true_eq, decide_eq_false_iff_not] at *)
  all_goals first
    | (have hr : ro = false := (by
        cases hr : ro with
        | false => rfl
        | true =>
          exfalso
          obtain ⟨q1, q2, q3⟩ := hro hr
          first
            | (rw [hlzA ⟨by omega, by omega⟩] at q1; cases q1)
            | (rw [hlzC ⟨by omega, by omega⟩] at q2; cases q2)
            | (simp_all [nameN_or]; done))
       rw [hr, if_neg (by decide)]
       simp only [errTok, tokA, f0, evS]
       first | done | rfl)
    | (have hnm : nameN (atL l E) = false := (by
        first
          | (rw [atL_out (by omega)]; decide)
          | (rw [nameN_or]; simp_all; done))
       have hrr' := hrr (by omega) (by omega) hnm
       have h66 := hreal66
       rw [← hrr'] at h66
       cases hr : ro with
       | true =>
         rw [hr, if_pos rfl] at h66
         refine CallK.intro b66 (by simp [treeL, treeA]) h66 ?_
         rw [if_pos rfl]
         simp only [okTok, tokA, evS, tyS, Nat.reduceAdd, Nat.reduceLT, Nat.reduceLeDiff, Nat.reduceEqDiff, reduceCtorEq]
         first | done | rfl
       | false =>
         rw [hr, if_neg (by decide)] at h66
         refine CallK.intro b66 (by simp [treeL, treeA]) h66 ?_
         rw [if_neg (by decide)]
         simp only [errTok, tokA, f0, evS, tyS, Nat.reduceAdd, Nat.reduceLT, Nat.reduceLeDiff, Nat.reduceEqDiff, reduceCtorEq]
         first | done | rfl)
    | trace_state
end Go.Proofs.YtlobiioioicmhaaGreatDoor
namespace Go.Proofs.YtlobiioioicmhaaGreatDoor
set_option linter.all false
open Go Go.Ev
set_option maxRecDepth 20000
variable {γ : List (Nat × AV)}
set_option maxHeartbeats 4000000 in
set_option maxRecDepth 20000 in
theorem refNumberI_ev (b : Bool) (l : List UInt8) (p : Nat) (hd : digitN (atL l p) = true) (hl : l.length ≤ 140737488351232)
    (hint : ¬ (atL l (p + (digitsEnd l p - p)) = 112 ∧ digitN (atL l (p + (digitsEnd l p - p) + 1 + sgOf (l.drop p))) = true)) :
    Ev Tryz.prog γ 140 [.sl b l.length l.length (l.map byteC), .v (.int .i64 p)] (resTP p (numberD (l.drop p))) := by
  refine Ev.of Tryz.func140 rfl ?_
  have hlt := digitsEnd_lt hd
  have hpl := (digitsEnd_step hd).2
  have hle := digitsEnd_le (l := l) (i := p) (by omega)
  obtain ⟨n, hn⟩ : ∃ n, n = digitsEnd l p - p := ⟨_, rfl⟩
  obtain ⟨sg, hsg⟩ : ∃ sg, sg = sgOf (l.drop p) := ⟨_, rfl⟩
  rw [← hn, ← hsg] at hint
  have hdg := refDigits_ev (γ := γ) b l p (by omega) (by omega)
  rw [← digitsEnd_span, ← hn] at hdg
  have hen := refEnd_ev (γ := γ) b l (p + n) (by omega) (by omega)
  have w1 : IntKind.i64.wrap ((p : Int) + (n : Int)) = ((p + n : Nat) : Int) := (i64w (by omega) (by omega)).trans (by omega)
  have ea : ∀ j, (l.getD j 0).toNat = atL l j := fun _ => rfl
  obtain ⟨hE, hND⟩ := refNum_int l p n sg (by omega) hn (by omega) hsg hint
  rw [hE] at hen
  have hn1 : 1 ≤ n := by omega
  have hpn : p + n ≤ l.length := by omega
  obtain ⟨A, hA⟩ : ∃ A, A = numL (l.drop p) 0 := ⟨_, rfl⟩
  have hdn : digitsEnd (l.drop p) 0 = n := by have := dE_drop l p 0; rw [Nat.add_zero] at this; omega
  have hA' : A = (l.drop p).take (p + n - p) := by rw [hA, numL, hdn, List.drop_zero]; congr 1; omega
  have hAl : A.length = n := by rw [hA', List.length_take, List.length_drop]; omega
  have hA0 : atL A 0 = atL l p := by rw [hA', atL_take (by omega), atL_dropk]; rfl
  have hwa := wholeAt_ev (γ := γ) b l p (p + n) (by omega) (by omega) (by omega) (fun k hk => by rw [atL_take hk, atL_dropk]; exact digitsEnd_all k rfl (by omega))
  rw [← hA', wholeR_eq] at hwa
  rw [hND, ← hA]
  have hlz := fun (h : 1 < A.length ∧ atL A 0 = 48) => lz_out (most := 9223372036854775807) h
  rw [hAl, hA0] at hlz
  have hdo : ¬ (1 < n ∧ atL l p = 48) → decO A 9223372036854775807 = decide (decV A ≤ 9223372036854775807) := fun h => by
    unfold decO
    rw [hAl, hA0]
    by_cases h2 : decV A ≤ 9223372036854775807
    · rw [decide_eq_true h2, decide_eq_true]; exact ⟨h, by omega, by omega⟩
    · rw [decide_eq_false h2, decide_eq_false]; rintro ⟨_, _, q⟩; omega
  have w5 : IntKind.i64.wrap (((p + n : Nat) : Int) + 0) = ((p + n : Nat) : Int) := (i64w (by omega) (by omega)).trans (by omega)
  have w6 : IntKind.i64.wrap (0 + 1) = 1 := by decide
  have w50 : IntKind.i64.wrap (((p + n : Nat) : Int) + ((0 : Nat) : Int)) = ((p + n : Nat) : Int) := (i64w (by omega) (by omega)).trans (by omega)
  have dEl : decide (((p + n : Nat) : Int) < (l.length : Int)) = decide (p + n < l.length) := by
    by_cases h : p + n < l.length
    · rw [decide_eq_true h, decide_eq_true]; omega
    · rw [decide_eq_false h, decide_eq_false]; omega
  have kp48 : ((atL l p : Int) == 48) = decide (atL l p = 48) := by
    by_cases h : atL l p = 48
    · simp [h]
    · rw [decide_eq_false h]; simp; omega
  have dn1 : decide ((1 : Int) < (n : Int)) = decide (1 < n) := by
    by_cases h : 1 < n
    · rw [decide_eq_true h, decide_eq_true]; omega
    · rw [decide_eq_false h, decide_eq_false]; omega
  have kE95 : ((atL l (p + n) : Int) == 95) = decide (atL l (p + n) = 95) := by
    by_cases h : atL l (p + n) = 95
    · simp [h]
    · rw [decide_eq_false h]; simp; omega
  have ept : ((p : Int) + (n : Int)).toNat = p + n := by omega
  have w60 : IntKind.i64.wrap (((0 : Nat) : Int) + 1) = 1 := by decide
  have d10c : decide ((1 : Int) < ((0 : Nat) : Int)) = false := by decide
  have d10 : decide ((1 : Int) < 0) = false := by decide
  have d00 : decide ((0 : Int) < 0) = false := by decide
  clear hA' hA hdn hND hE hn hsg hint hlt
  simp only [Tryz.f140, evS, tyS, Nat.reduceAdd, Nat.reduceSub, Nat.reduceLT, Nat.reduceEqDiff, reduceCtorEq]
  refine CallK.intro b64 (by simp [treeL, treeA]) hdg ?_
  simp only [w1, evS, Nat.reduceLT, Nat.reduceEqDiff, reduceCtorEq]
  refine CallK.intro b65 (by simp [treeL, treeA]) hen ?_
  clear hdg hen
  simp only [w1, w50, evS, tyS, Nat.reduceLT, Nat.reduceEqDiff, reduceCtorEq]
  (repeat' (first | (with_reducible refine And.intro ?_ ?_) | ((first | refine GuardK.intro_f (fun h => ?_) (fun h => ?_) | refine GuardK.intro_t (fun h => ?_) (fun h => ?_) | refine CondK.intro (fun h => ?_) (fun h => ?_) | refine PickK.intro (fun h => ?_) (fun h => ?_)) <;> simp only [h, ea, kp48, dn1, w60, d10c, evS, tyS, Nat.reduceAdd, Nat.reduceLT, Nat.reduceLeDiff, Nat.reduceEqDiff, reduceCtorEq]) | (refine DrawK.intro (by kernel_rfl) (by kernel_rfl) ?_; simp only [w1, w5, w50, w6, ea, dEl, kp48, dn1, kE95, d10, d00, ept, w60, d10c, evS, tyS, Bool.not_true, Bool.not_false, Nat.reduceAdd, Nat.reduceSub, Nat.reduceMul, Nat.reduceLT, Nat.reduceLeDiff, Nat.reduceEqDiff, reduceCtorEq, List.reduceReplicate, Int.reduceToNat, Int.reduceLE, Int.reduceLT])))
  all_goals try (((try simp only [decide_eq_true_eq, decide_eq_false_iff_not] at *) <;> (try omega)); done)
  all_goals try (refine CallK.intro b40 rfl (refLetter_ev _) ?_; simp only [evS, Nat.reduceLT, Nat.reduceEqDiff, reduceCtorEq]; (repeat' (first | (with_reducible refine And.intro ?_ ?_) | ((first | refine GuardK.intro_f (fun h => ?_) (fun h => ?_) | refine GuardK.intro_t (fun h => ?_) (fun h => ?_) | refine CondK.intro (fun h => ?_) (fun h => ?_) | refine PickK.intro (fun h => ?_) (fun h => ?_)) <;> simp only [h, ea, kp48, dn1, w60, d10c, evS, tyS, Nat.reduceAdd, Nat.reduceLT, Nat.reduceLeDiff, Nat.reduceEqDiff, reduceCtorEq]) | (refine DrawK.intro (by kernel_rfl) (by kernel_rfl) ?_; simp only [w1, w5, w50, w6, ea, dEl, kp48, dn1, kE95, d10, d00, ept, w60, d10c, evS, tyS, Bool.not_true, Bool.not_false, Nat.reduceAdd, Nat.reduceSub, Nat.reduceMul, Nat.reduceLT, Nat.reduceLeDiff, Nat.reduceEqDiff, reduceCtorEq, List.reduceReplicate, Int.reduceToNat, Int.reduceLE, Int.reduceLT]))))
  all_goals try (((try simp only [decide_eq_true_eq, decide_eq_false_iff_not] at *) <;> (try omega)); done)
  all_goals try (refine CallK.intro b41 rfl (refDigit_ev _) ?_; simp only [evS, Nat.reduceLT, Nat.reduceEqDiff, reduceCtorEq]; (repeat' (first | (with_reducible refine And.intro ?_ ?_) | ((first | refine GuardK.intro_f (fun h => ?_) (fun h => ?_) | refine GuardK.intro_t (fun h => ?_) (fun h => ?_) | refine CondK.intro (fun h => ?_) (fun h => ?_) | refine PickK.intro (fun h => ?_) (fun h => ?_)) <;> simp only [h, ea, kp48, dn1, kE95, w60, d10c, evS, tyS, Nat.reduceAdd, Nat.reduceLT, Nat.reduceLeDiff, Nat.reduceEqDiff, reduceCtorEq]) | (refine DrawK.intro (by kernel_rfl) (by kernel_rfl) ?_; simp only [w1, w5, w50, w6, ea, dEl, kp48, dn1, kE95, d10, d00, ept, w60, d10c, evS, tyS, Bool.not_true, Bool.not_false, Nat.reduceAdd, Nat.reduceSub, Nat.reduceMul, Nat.reduceLT, Nat.reduceLeDiff, Nat.reduceEqDiff, reduceCtorEq, List.reduceReplicate, Int.reduceToNat, Int.reduceLE, Int.reduceLT]))))
  all_goals try (((try simp only [decide_eq_true_eq, decide_eq_false_iff_not] at *) <;> (try omega)); done)
  all_goals (try simp only [decide_eq_true_eq, decide_eq_false_iff_not] at *)
  all_goals first
    | (refine CallK.intro b67 (by simp [treeL, treeA]) hwa ?_
       have hnm : nameN (atL l (p + n)) = false := (by
        first
          | (rw [atL_out (by omega)]; decide)
          | (rw [nameN_or]; simp_all; done))
       have hdo' := hdo (by omega)
       by_cases hv : decV A ≤ 9223372036854775807
       · rw [if_pos hv, decide_eq_true hv, if_pos ⟨by rw [hdo']; exact decide_eq_true hv, hnm⟩]
         simp only [resTP, okTok, TokD.av, tokA, evS, tyS, Bool.not_true, Nat.reduceAdd, Nat.reduceLT, Nat.reduceLeDiff, Nat.reduceEqDiff, reduceCtorEq]
         first | done | rfl
       · rw [if_neg hv, decide_eq_false hv, if_neg (by rintro ⟨q, _⟩; rw [hdo', decide_eq_false hv] at q; cases q)]
         simp only [resTP, errTok, tokA, f0, evS, tyS, Bool.not_false, Nat.reduceAdd, Nat.reduceLT, Nat.reduceLeDiff, Nat.reduceEqDiff, reduceCtorEq]
         first | done | rfl)
    | (have hr : ¬ (decO A 9223372036854775807 = true ∧ nameN (atL l (p + n)) = false) := (by
        rintro ⟨q1, q3⟩
        first
          | (rw [hlz ⟨by omega, by omega⟩] at q1; cases q1)
          | (simp_all [nameN_or]; done)
          | (simp_all [nameN_or]; omega))
       rw [if_neg hr]
       simp only [resTP, errTok, tokA, f0, evS]
       first | done | rfl)
theorem refNumber_ev (b : Bool) (l : List UInt8) (p : Nat) (hd : digitN (atL l p) = true) (hl : l.length ≤ 140737488351232) :
    Ev Tryz.prog γ 140 [.sl b l.length l.length (l.map byteC), .v (.int .i64 p)] (resTP p (numberD (l.drop p))) := by
  by_cases hreal : atL l (p + (digitsEnd l p - p)) = 112 ∧ digitN (atL l (p + (digitsEnd l p - p) + 1 + sgOf (l.drop p))) = true
  · exact refNumberR_ev b l p hd hl hreal
  · exact refNumberI_ev b l p hd hl hreal
end Go.Proofs.YtlobiioioicmhaaGreatDoor
