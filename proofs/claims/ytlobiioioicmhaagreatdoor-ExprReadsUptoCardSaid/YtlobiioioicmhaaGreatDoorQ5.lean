/- Contracts of the functions that the law reaches. -/
import Derived.Test.YtlobiioioicmhaaGreatDoorQ3
import Derived.Test.YtlobiioioicmhaaGreatDoorQ4
namespace Go.Proofs.YtlobiioioicmhaaGreatDoor
set_option linter.all false
open Go Go.Ev
set_option maxRecDepth 20000
variable {γ : List (Nat × AV)}
theorem nameN_or' (x : Nat) : nameN x = (letterN x || digitN x || decide (x = 95)) := rfl
theorem resTP_shape (p : Nat) (x : Except Int TokD) : ∃ k t i r q z e, resTP p x = .tup [.agg [.v (.int .i64 k), .v (.string t), .v (.int .i64 i), .v (.float .f64 r), .v (.int .i64 q), .v (.int .i64 z)], .v (.int .i64 e)] := by
  cases x with
  | ok t => exact ⟨_, _, _, _, _, _, _, rfl⟩
  | error e => exact ⟨_, _, _, _, _, _, _, rfl⟩
theorem spanEnd_drop (q : Nat → Bool) (l : List UInt8) (p i : Nat) : spanEnd q (l.drop p) i + p = spanEnd q l (p + i) := by
  unfold spanEnd
  rw [List.drop_drop]
  omega
theorem markN_ref (s : List UInt8) (h1 : 1 ≤ s.length) : markN s = if 2 ≤ s.length ∧ marksL.contains (s.take 2) = true then 2 else if marksL.contains (s.take 1) = true then 1 else 0 := by
  match s, h1 with
  | [a], _ =>
    have e0 : (atL [a] 0).toUInt8 = a := by simp [atL]
    have hR : (if 2 ≤ [a].length ∧ marksL.contains ([a].take 2) = true then 2 else if marksL.contains ([a].take 1) = true then 1 else 0) = if marksL.contains [a] = true then 1 else 0 := by rw [if_neg (by simp)]; rfl
    rw [hR]
    unfold markN
    rw [if_neg (by simp), e0, mark1 a]
    by_cases h : 0 ≤ Lib.indexByte sglL a
    · rw [if_pos h, if_pos (decide_eq_true h)]
    · rw [if_neg h, if_neg (by rw [decide_eq_true_eq]; exact h)]
  | a :: b :: t, _ =>
    have e0 : (atL (a :: b :: t) 0).toUInt8 = a := by simp [atL]
    have n0 : atL (a :: b :: t) 0 = a.toNat := rfl
    have n1 : atL (a :: b :: t) 1 = b.toNat := rfl
    have ht : (a :: b :: t).take 2 = [a, b] := rfl
    have ht1 : (a :: b :: t).take 1 = [a] := rfl
    unfold markN
    rw [ht, ht1, e0, n0, n1, mark1 a]
    have hne : ∀ x : UInt8, x.toNat ≠ 32 ↔ x ≠ 32 := fun x => by
      constructor
      · intro h e; exact h (by rw [e]; rfl)
      · intro h e; exact h (UInt8.toNat_inj.1 (by rw [e]; rfl))
    have hiff : (1 < (a :: b :: t).length ∧ a.toNat ≠ 32 ∧ b.toNat ≠ 32 ∧ hasSub dblL [a, b] = true) ↔ (2 ≤ (a :: b :: t).length ∧ marksL.contains [a, b] = true) := by
      rw [hne, hne]
      constructor
      · rintro ⟨q1, q2, q3, q4⟩; exact ⟨q1, by rw [mark2 a b q2 q3]; exact q4⟩
      · rintro ⟨q1, q2⟩
        by_cases h : a = 32 ∨ b = 32
        · rw [mark2s a b h] at q2; cases q2
        · have h' : a ≠ 32 ∧ b ≠ 32 := ⟨fun e => h (.inl e), fun e => h (.inr e)⟩
          exact ⟨q1, h'.1, h'.2, by rw [← mark2 a b h'.1 h'.2]; exact q2⟩
    by_cases hc : 2 ≤ (a :: b :: t).length ∧ marksL.contains [a, b] = true
    · rw [if_pos hc, if_pos (hiff.2 hc)]
    · rw [if_neg hc, if_neg (fun q => hc (hiff.1 q))]
      by_cases h : 0 ≤ Lib.indexByte sglL a
      · rw [if_pos h, if_pos (decide_eq_true h)]
      · rw [if_neg h, if_neg (by rw [decide_eq_true_eq]; exact h)]
set_option maxHeartbeats 4000000 in
set_option maxRecDepth 20000 in
theorem refToken_ev (b : Bool) (l : List UInt8) (p : Nat) (hp : p < l.length) (hl : l.length ≤ 140737488351232) :
    Ev Tryz.prog γ 86 [.sl b l.length l.length (l.map byteC), .v (.int .i64 p)] (resTP p (headD (l.drop p))) := by
  refine Ev.of Tryz.func86 rfl ?_
  have ea : ∀ j, (l.getD j 0).toNat = atL l j := fun _ => rfl
  have hmd : List.drop p (List.map byteC l) = List.map byteC (List.drop p l) := List.map_drop.symm
  have k95 : ∀ x : Nat, ((x : Int) == 95) = decide (x = 95) := fun x => by
    by_cases h : x = 95
    · simp [h]
    · rw [decide_eq_false h]; simp; omega
  have ha0 : atL (l.drop p) 0 = atL l p := by rw [atL_dropk]; rfl
  have hh : headD (l.drop p) = if letterN (atL l p) = true then (if 32 < spanEnd nameN (l.drop p) 1 then .error 13 else .ok ⟨1, (l.drop p).take (spanEnd nameN (l.drop p) 1), 0, 0, spanEnd nameN (l.drop p) 1⟩)
      else if digitN (atL l p) = true then numberD (l.drop p)
      else if atL l p = 34 then textD (l.drop p)
      else if markN (l.drop p) = 0 then .error 10 else .ok ⟨5, (l.drop p).take (markN (l.drop p)), 0, 0, markN (l.drop p)⟩ := by rw [headD, ha0]
  simp only [Tryz.f86, ea, evS, tyS, Nat.reduceAdd, Nat.reduceSub, Nat.reduceLT, Nat.reduceEqDiff, reduceCtorEq]
  (repeat' (first | (with_reducible refine And.intro ?_ ?_) | ((first | refine GuardK.intro_f (fun h => ?_) (fun h => ?_) | refine GuardK.intro_t (fun h => ?_) (fun h => ?_) | refine CondK.intro (fun h => ?_) (fun h => ?_) | refine PickK.intro (fun h => ?_) (fun h => ?_)) <;> simp only [h, ea, evS, tyS, Bool.not_true, Bool.not_false, Nat.reduceAdd, Nat.reduceSub, Nat.reduceMul, Nat.reduceLT, Nat.reduceLeDiff, Nat.reduceEqDiff, reduceCtorEq, List.reduceReplicate, Int.reduceToNat, Int.reduceLE, Int.reduceLT]) | (refine DrawK.intro (by kernel_rfl) (by kernel_rfl) ?_; simp only [ea, evS, tyS, Bool.not_true, Bool.not_false, Nat.reduceAdd, Nat.reduceSub, Nat.reduceMul, Nat.reduceLT, Nat.reduceLeDiff, Nat.reduceEqDiff, reduceCtorEq, List.reduceReplicate, Int.reduceToNat, Int.reduceLE, Int.reduceLT])))
  all_goals try (((try simp only [decide_eq_true_eq, decide_eq_false_iff_not, beq_iff_eq, bne_iff_ne, ne_eq, beq_eq_false_iff_ne, bne_eq_false_iff_eq] at *) <;> (try omega)); done)
  refine CallK.intro b40 rfl (refLetter_ev _) ?_
  simp only [evS, Nat.reduceLT, Nat.reduceEqDiff, reduceCtorEq]
  cases hlet : letterN (atL l p) with
  | true =>
    rw [if_pos hlet] at hh
    have hsp := spanEnd_drop nameN l p 1
    obtain ⟨N, hN⟩ : ∃ N, N = spanEnd nameN (l.drop p) 1 := ⟨_, rfl⟩
    have hNle := spanEnd_le (p := nameN) (l := l) (i := p + 1) (by omega)
    rw [← hN] at hh hsp
    simp only [evS, Nat.reduceLT]
    refine LoopK.intro (fun j : Nat => ⟨⟨122, [(0, .sl b l.length l.length (l.map byteC)), (1, .v (.int .i64 p)), (4, .ptr 0 0 0), (6, .v (.int .i64 j))], γ⟩, [⟨0, 54, zero6⟩]⟩) (fun j => 1 ≤ j ∧ p + j ≤ l.length ∧ spanEnd nameN l (p + j) = p + N) (fun j => l.length - j) 1 ?_ ⟨by omega, by omega, by omega⟩ (fun j hj => ?_)
    · simp only [zero6, evS, Nat.reduceEqDiff, reduceCtorEq]
      (repeat' (first | (with_reducible refine And.intro ?_ ?_) | ((first | refine GuardK.intro_f (fun h => ?_) (fun h => ?_) | refine GuardK.intro_t (fun h => ?_) (fun h => ?_) | refine CondK.intro (fun h => ?_) (fun h => ?_) | refine PickK.intro (fun h => ?_) (fun h => ?_)) <;> simp only [h, evS, tyS, Bool.not_true, Bool.not_false, Nat.reduceAdd, Nat.reduceSub, Nat.reduceMul, Nat.reduceLT, Nat.reduceLeDiff, Nat.reduceEqDiff, reduceCtorEq, List.reduceReplicate, Int.reduceToNat, Int.reduceLE, Int.reduceLT]) | (refine DrawK.intro (by kernel_rfl) (by kernel_rfl) ?_; simp only [evS, tyS, Bool.not_true, Bool.not_false, Nat.reduceAdd, Nat.reduceSub, Nat.reduceMul, Nat.reduceLT, Nat.reduceLeDiff, Nat.reduceEqDiff, reduceCtorEq, List.reduceReplicate, Int.reduceToNat, Int.reduceLE, Int.reduceLT])))
      all_goals first | rfl | exact .inl rfl
    · obtain ⟨hj1, hj2, hj3⟩ := hj
      have w1 : IntKind.i64.wrap ((p : Int) + (j : Int)) = ((p + j : Nat) : Int) := (i64w (by omega) (by omega)).trans (by omega)
      have ej : IntKind.i64.wrap ((j : Int) + 1) = ((j + 1 : Nat) : Int) := i64w (by omega) (by omega)
      have esub : p + j - p = j := by omega
      have hdl : (List.drop p l).length = l.length - p := List.length_drop
      have hstop : ∀ (hs : p + j < l.length → nameN (l.getD (p + j) 0).toNat = false), j = N := fun hs => by have := spanEnd_stop (p := nameN) hs; omega
      have hgo : ∀ (h1 : p + j < l.length) (h2 : nameN (atL l (p + j)) = true), spanEnd nameN l (p + (j + 1)) = p + N := fun h1 h2 => by rw [← Nat.add_assoc, ← spanEnd_step h1 h2]; exact hj3
      simp only [w1, zero6, evS, tyS, Nat.reduceLT, Nat.reduceEqDiff, reduceCtorEq]
      (repeat' (first | (with_reducible refine And.intro ?_ ?_) | ((first | refine GuardK.intro_f (fun h => ?_) (fun h => ?_) | refine GuardK.intro_t (fun h => ?_) (fun h => ?_) | refine CondK.intro (fun h => ?_) (fun h => ?_) | refine PickK.intro (fun h => ?_) (fun h => ?_)) <;> simp only [h, w1, ea, hmd, esub, evS, tyS, Nat.reduceAdd, Nat.reduceLT, Nat.reduceLeDiff, Nat.reduceEqDiff, reduceCtorEq]) | (refine DrawK.intro (by kernel_rfl) (by kernel_rfl) ?_; simp only [w1, ea, k95, hmd, esub, evS, tyS, Bool.not_true, Bool.not_false, Nat.reduceAdd, Nat.reduceSub, Nat.reduceMul, Nat.reduceLT, Nat.reduceLeDiff, Nat.reduceEqDiff, reduceCtorEq, List.reduceReplicate, Int.reduceToNat, Int.reduceLE, Int.reduceLT])))
      all_goals try (((try simp only [decide_eq_true_eq, decide_eq_false_iff_not] at *) <;> (try omega)); done)
      all_goals try (refine CallK.intro b40 rfl (refLetter_ev _) ?_; simp only [evS, Nat.reduceLT, Nat.reduceEqDiff, reduceCtorEq]; (repeat' (first | (with_reducible refine And.intro ?_ ?_) | ((first | refine GuardK.intro_f (fun h => ?_) (fun h => ?_) | refine GuardK.intro_t (fun h => ?_) (fun h => ?_) | refine CondK.intro (fun h => ?_) (fun h => ?_) | refine PickK.intro (fun h => ?_) (fun h => ?_)) <;> simp only [h, w1, ea, evS, tyS, Nat.reduceLT, Nat.reduceEqDiff, reduceCtorEq]) | (refine DrawK.intro (by kernel_rfl) (by kernel_rfl) ?_; simp only [w1, ea, k95, hmd, esub, evS, tyS, Bool.not_true, Bool.not_false, Nat.reduceAdd, Nat.reduceSub, Nat.reduceMul, Nat.reduceLT, Nat.reduceLeDiff, Nat.reduceEqDiff, reduceCtorEq, List.reduceReplicate, Int.reduceToNat, Int.reduceLE, Int.reduceLT]))))
      all_goals try (((try simp only [decide_eq_true_eq, decide_eq_false_iff_not] at *) <;> (try omega)); done)
      all_goals try (refine CallK.intro b41 rfl (refDigit_ev _) ?_; simp only [evS, Nat.reduceLT, Nat.reduceEqDiff, reduceCtorEq]; (repeat' (first | (with_reducible refine And.intro ?_ ?_) | ((first | refine GuardK.intro_f (fun h => ?_) (fun h => ?_) | refine GuardK.intro_t (fun h => ?_) (fun h => ?_) | refine CondK.intro (fun h => ?_) (fun h => ?_) | refine PickK.intro (fun h => ?_) (fun h => ?_)) <;> simp only [h, w1, ea, k95, hmd, esub, evS, tyS, Nat.reduceAdd, Nat.reduceLT, Nat.reduceLeDiff, Nat.reduceEqDiff, reduceCtorEq]) | (refine DrawK.intro (by kernel_rfl) (by kernel_rfl) ?_; simp only [w1, ea, k95, hmd, esub, evS, tyS, Bool.not_true, Bool.not_false, Nat.reduceAdd, Nat.reduceSub, Nat.reduceMul, Nat.reduceLT, Nat.reduceLeDiff, Nat.reduceEqDiff, reduceCtorEq, List.reduceReplicate, Int.reduceToNat, Int.reduceLE, Int.reduceLT]))))
      all_goals try (((try simp only [decide_eq_true_eq, decide_eq_false_iff_not] at *) <;> (try omega)); done)
      all_goals first
        | (refine loopC.intro (j + 1) ⟨by omega, by (try simp only [decide_eq_true_eq] at *); omega, hgo (by (try simp only [decide_eq_true_eq] at *); omega) (by rw [nameN_or']; simp_all)⟩ ?_ (by (try simp only [decide_eq_true_eq, decide_eq_false_iff_not] at *); omega)
           simp only [ej, evS, Nat.reduceEqDiff, reduceCtorEq]
           (repeat' (first | (with_reducible refine And.intro ?_ ?_) | ((first | refine GuardK.intro_f (fun h => ?_) (fun h => ?_) | refine GuardK.intro_t (fun h => ?_) (fun h => ?_) | refine CondK.intro (fun h => ?_) (fun h => ?_) | refine PickK.intro (fun h => ?_) (fun h => ?_)) <;> simp only [h, evS, tyS, Bool.not_true, Bool.not_false, Nat.reduceAdd, Nat.reduceSub, Nat.reduceMul, Nat.reduceLT, Nat.reduceLeDiff, Nat.reduceEqDiff, reduceCtorEq, List.reduceReplicate, Int.reduceToNat, Int.reduceLE, Int.reduceLT]) | (refine DrawK.intro (by kernel_rfl) (by kernel_rfl) ?_; simp only [evS, tyS, Bool.not_true, Bool.not_false, Nat.reduceAdd, Nat.reduceSub, Nat.reduceMul, Nat.reduceLT, Nat.reduceLeDiff, Nat.reduceEqDiff, reduceCtorEq, List.reduceReplicate, Int.reduceToNat, Int.reduceLE, Int.reduceLT])))
           all_goals first | rfl | exact .inl rfl)
        | (have hjN : j = N := hstop (fun hlt => by
             show nameN (atL l (p + j)) = false
             rw [nameN_or']; simp_all)
           subst hjN
           (try simp only [decide_eq_true_eq, decide_eq_false_iff_not] at *)
           first
             | (rw [hh, if_pos (by omega)]; simp only [resTP, errTok, tokA, f0, evS]; first | done | rfl)
             | (rw [hh, if_neg (by omega)]; simp only [resTP, okTok, TokD.av, tokA, evS]; first | done | rfl)
             | (refine And.intro (by omega) (And.intro (by omega) ?_); rw [hh, if_neg (by omega)]; simp only [resTP, okTok, TokD.av, tokA, evS, tyS, Bool.not_true, Bool.not_false, Nat.reduceAdd, Nat.reduceSub, Nat.reduceMul, Nat.reduceLT, Nat.reduceLeDiff, Nat.reduceEqDiff, reduceCtorEq, List.reduceReplicate, Int.reduceToNat, Int.reduceLE, Int.reduceLT]; first | done | rfl)
             | (refine And.intro (by omega) ?_; rw [hh, if_neg (by omega)]; simp only [resTP, okTok, TokD.av, tokA, evS, tyS, Bool.not_true, Bool.not_false, Nat.reduceAdd, Nat.reduceSub, Nat.reduceMul, Nat.reduceLT, Nat.reduceLeDiff, Nat.reduceEqDiff, reduceCtorEq, List.reduceReplicate, Int.reduceToNat, Int.reduceLE, Int.reduceLT]; first | done | rfl)
             | omega
             | trace_state)
        | trace_state
  | false =>
    rw [if_neg (by rw [hlet]; decide)] at hh
    simp only [ea, evS, tyS, Nat.reduceLT, Nat.reduceEqDiff, reduceCtorEq]
    (repeat' (first | (with_reducible refine And.intro ?_ ?_) | ((first | refine GuardK.intro_f (fun h => ?_) (fun h => ?_) | refine GuardK.intro_t (fun h => ?_) (fun h => ?_) | refine CondK.intro (fun h => ?_) (fun h => ?_) | refine PickK.intro (fun h => ?_) (fun h => ?_)) <;> simp only [h, ea, evS, tyS, Bool.not_true, Bool.not_false, Nat.reduceAdd, Nat.reduceSub, Nat.reduceMul, Nat.reduceLT, Nat.reduceLeDiff, Nat.reduceEqDiff, reduceCtorEq, List.reduceReplicate, Int.reduceToNat, Int.reduceLE, Int.reduceLT]) | (refine DrawK.intro (by kernel_rfl) (by kernel_rfl) ?_; simp only [ea, evS, tyS, Bool.not_true, Bool.not_false, Nat.reduceAdd, Nat.reduceSub, Nat.reduceMul, Nat.reduceLT, Nat.reduceLeDiff, Nat.reduceEqDiff, reduceCtorEq, List.reduceReplicate, Int.reduceToNat, Int.reduceLE, Int.reduceLT])))
    all_goals try (((try simp only [decide_eq_true_eq, decide_eq_false_iff_not, beq_iff_eq, bne_iff_ne, ne_eq, beq_eq_false_iff_ne, bne_eq_false_iff_eq] at *) <;> (try omega)); done)
    refine CallK.intro b41 rfl (refDigit_ev _) ?_
    cases hdig : digitN (atL l p) with
    | true =>
      rw [if_pos hdig] at hh
      have hr := refNumber_ev (γ := γ) b l p hdig hl
      rw [hh]
      obtain ⟨k1, k2, k3, k4, k5, k6, k7, hsh⟩ := resTP_shape p (numberD (l.drop p))
      rw [hsh] at hr ⊢
      simp only [evS, Nat.reduceLT, Nat.reduceEqDiff, reduceCtorEq]
      refine CallK.intro b42 (by simp [treeL, treeA]) hr ?_
      simp only [evS, tyS, Nat.reduceAdd, Nat.reduceLT, Nat.reduceLeDiff, Nat.reduceEqDiff, reduceCtorEq]
    | false =>
      rw [if_neg (by rw [hdig]; decide)] at hh
      have k34 : ((atL l p : Int) == 34) = decide (atL l p = 34) := by
        by_cases h : atL l p = 34
        · simp [h]
        · rw [decide_eq_false h]; simp; omega
      simp only [ea, k34, evS, tyS, Nat.reduceLT, Nat.reduceEqDiff, reduceCtorEq]
      (repeat' (first | (with_reducible refine And.intro ?_ ?_) | ((first | refine GuardK.intro_f (fun h => ?_) (fun h => ?_) | refine GuardK.intro_t (fun h => ?_) (fun h => ?_) | refine CondK.intro (fun h => ?_) (fun h => ?_) | refine PickK.intro (fun h => ?_) (fun h => ?_)) <;> simp only [h, evS, Nat.reduceLT, Nat.reduceEqDiff, reduceCtorEq]) | (refine DrawK.intro (by kernel_rfl) (by kernel_rfl) ?_; simp only [ea, k34, evS, tyS, Bool.not_true, Bool.not_false, Nat.reduceAdd, Nat.reduceSub, Nat.reduceMul, Nat.reduceLT, Nat.reduceLeDiff, Nat.reduceEqDiff, reduceCtorEq, List.reduceReplicate, Int.reduceToNat, Int.reduceLE, Int.reduceLT])))
      all_goals try (((try simp only [decide_eq_true_eq, decide_eq_false_iff_not] at *) <;> (try omega)); done)
      · rw [if_pos (of_decide_eq_true h)] at hh
        have hr := refText_ev (γ := γ) b l p (by omega) hp
        rw [refText_av l p hp] at hr
        rw [hh]
        obtain ⟨k1, k2, k3, k4, k5, k6, k7, hsh⟩ := resTP_shape p (textD (l.drop p))
        rw [hsh] at hr ⊢
        refine CallK.intro b43 (by simp [treeL, treeA]) hr ?_
        simp only [evS, tyS, Nat.reduceAdd, Nat.reduceLT, Nat.reduceLeDiff, Nat.reduceEqDiff, reduceCtorEq]
      · rw [if_neg (of_decide_eq_false h)] at hh
        have hdl : (List.drop p l).length = l.length - p := List.length_drop
        have hmr := markN_ref (l.drop p) (by omega)
        refine LoopK.intro (fun j : Nat => ⟨⟨122, [(0, .sl b l.length l.length (l.map byteC)), (1, .v (.int .i64 p)), (4, .ptr 0 0 0), (11, .v (.int .i64 ((2 - j : Nat) : Int)))], γ⟩, [⟨0, 54, zero6⟩]⟩) (fun j => j ≤ 2 ∧ (1 ≤ j → ¬ (2 ≤ (l.drop p).length ∧ marksL.contains ((l.drop p).take 2) = true)) ∧ (2 ≤ j → ¬ (marksL.contains ((l.drop p).take 1) = true))) (fun j => 2 - j) 0 ?_ ⟨by omega, by omega, by omega⟩ (fun j hj => ?_)
        · simp only [zero6, evS, Nat.reduceEqDiff, reduceCtorEq]
          (repeat' (first | (with_reducible refine And.intro ?_ ?_) | ((first | refine GuardK.intro_f (fun h => ?_) (fun h => ?_) | refine GuardK.intro_t (fun h => ?_) (fun h => ?_) | refine CondK.intro (fun h => ?_) (fun h => ?_) | refine PickK.intro (fun h => ?_) (fun h => ?_)) <;> simp only [h, evS, tyS, Bool.not_true, Bool.not_false, Nat.reduceAdd, Nat.reduceSub, Nat.reduceMul, Nat.reduceLT, Nat.reduceLeDiff, Nat.reduceEqDiff, reduceCtorEq, List.reduceReplicate, Int.reduceToNat, Int.reduceLE, Int.reduceLT]) | (refine DrawK.intro (by kernel_rfl) (by kernel_rfl) ?_; simp only [evS, tyS, Bool.not_true, Bool.not_false, Nat.reduceAdd, Nat.reduceSub, Nat.reduceMul, Nat.reduceLT, Nat.reduceLeDiff, Nat.reduceEqDiff, reduceCtorEq, List.reduceReplicate, Int.reduceToNat, Int.reduceLE, Int.reduceLT])))
          all_goals first | rfl | exact .inl rfl
        · obtain ⟨hj1, hj2, hj3⟩ := hj
          match j, hj1 with
          | 0, _ =>
            have w1 : IntKind.i64.wrap ((p : Int) + ((2 - 0 : Nat) : Int)) = ((p + 2 : Nat) : Int) := (i64w (by omega) (by omega)).trans (by omega)
            have c1 : decide ((1 : Int) ≤ ((2 - 0 : Nat) : Int)) = true := by decide
            have d1 : decide (((p + 2 : Nat) : Int) ≤ (l.length : Int)) = decide (p + 2 ≤ l.length) := by
              by_cases h : p + 2 ≤ l.length
              · rw [decide_eq_true h, decide_eq_true]; omega
              · rw [decide_eq_false h, decide_eq_false]; omega
            have ws : IntKind.i64.wrap (((2 - 0 : Nat) : Int) - 1) = ((2 - 1 : Nat) : Int) := by decide
            simp only [w1, zero6, c1, d1, evS, tyS, Nat.reduceLT, Nat.reduceEqDiff, reduceCtorEq]
            (repeat' (first | (with_reducible refine And.intro ?_ ?_) | ((first | refine GuardK.intro_f (fun h => ?_) (fun h => ?_) | refine GuardK.intro_t (fun h => ?_) (fun h => ?_) | refine CondK.intro (fun h => ?_) (fun h => ?_) | refine PickK.intro (fun h => ?_) (fun h => ?_)) <;> simp only [h, w1, hmd, evS, tyS, Nat.reduceLT, Nat.reduceEqDiff, reduceCtorEq]) | (refine DrawK.intro (by kernel_rfl) (by kernel_rfl) ?_; simp only [w1, ea, hmd, evS, tyS, Bool.not_true, Bool.not_false, Nat.reduceAdd, Nat.reduceSub, Nat.reduceMul, Nat.reduceLT, Nat.reduceLeDiff, Nat.reduceEqDiff, reduceCtorEq, List.reduceReplicate, Int.reduceToNat, Int.reduceLE, Int.reduceLT])))
            all_goals try (((try simp only [decide_eq_true_eq, decide_eq_false_iff_not] at *) <;> (try omega)); done)
            · have hle : p + 2 ≤ l.length := of_decide_eq_true (by assumption)
              (repeat' (with_reducible refine And.intro ?_ ?_))
              all_goals try omega
              refine CallK.intro b44 rfl (refIsMark_ev _) ?_
              have etk : p + 2 - p = 2 := by omega
              rw [etk]
              cases hmk : marksL.contains (List.take 2 (List.drop p l)) with
              | true =>
                have hM : markN (l.drop p) = 2 := by rw [hmr]; rw [if_pos ⟨by omega, hmk⟩]
                rw [hM, if_neg (by decide)] at hh
                simp only [w1, hmd, etk, evS, tyS, Nat.reduceAdd, Nat.reduceLT, Nat.reduceLeDiff, Nat.reduceEqDiff, reduceCtorEq]
                (repeat' (first | (with_reducible refine And.intro ?_ ?_) | ((first | refine GuardK.intro_f (fun h => ?_) (fun h => ?_) | refine GuardK.intro_t (fun h => ?_) (fun h => ?_) | refine CondK.intro (fun h => ?_) (fun h => ?_) | refine PickK.intro (fun h => ?_) (fun h => ?_)) <;> simp only [h, w1, ea, hmd, etk, evS, tyS, Bool.not_true, Bool.not_false, Nat.reduceAdd, Nat.reduceSub, Nat.reduceMul, Nat.reduceLT, Nat.reduceLeDiff, Nat.reduceEqDiff, reduceCtorEq, List.reduceReplicate, Int.reduceToNat, Int.reduceLE, Int.reduceLT]) | (refine DrawK.intro (by kernel_rfl) (by kernel_rfl) ?_; simp only [w1, ea, hmd, etk, evS, tyS, Bool.not_true, Bool.not_false, Nat.reduceAdd, Nat.reduceSub, Nat.reduceMul, Nat.reduceLT, Nat.reduceLeDiff, Nat.reduceEqDiff, reduceCtorEq, List.reduceReplicate, Int.reduceToNat, Int.reduceLE, Int.reduceLT])))
                all_goals try omega
                rw [hh]
                simp only [resTP, okTok, TokD.av, tokA, evS]
                all_goals first | done | rfl | trace_state
              | false =>
                simp only [evS, Nat.reduceLT, Nat.reduceEqDiff, reduceCtorEq]
                refine loopC.intro 1 ⟨by omega, ?_, ?_⟩ ?_ (by omega)
                · intro _; first | (rintro ⟨_, q⟩; cases q; done) | (rintro ⟨_, q⟩; simp_all; done) | simp_all
                · intro _; omega
                · simp only [ws, evS, Nat.reduceSub, Nat.reduceEqDiff, reduceCtorEq]
                  (repeat' (first | (with_reducible refine And.intro ?_ ?_) | ((first | refine GuardK.intro_f (fun h => ?_) (fun h => ?_) | refine GuardK.intro_t (fun h => ?_) (fun h => ?_) | refine CondK.intro (fun h => ?_) (fun h => ?_) | refine PickK.intro (fun h => ?_) (fun h => ?_)) <;> simp only [h, evS, tyS, Bool.not_true, Bool.not_false, Nat.reduceAdd, Nat.reduceSub, Nat.reduceMul, Nat.reduceLT, Nat.reduceLeDiff, Nat.reduceEqDiff, reduceCtorEq, List.reduceReplicate, Int.reduceToNat, Int.reduceLE, Int.reduceLT]) | (refine DrawK.intro (by kernel_rfl) (by kernel_rfl) ?_; simp only [evS, tyS, Bool.not_true, Bool.not_false, Nat.reduceAdd, Nat.reduceSub, Nat.reduceMul, Nat.reduceLT, Nat.reduceLeDiff, Nat.reduceEqDiff, reduceCtorEq, List.reduceReplicate, Int.reduceToNat, Int.reduceLE, Int.reduceLT])))
                  all_goals first | rfl | exact .inl rfl | trace_state
            · have hgt : ¬ p + 2 ≤ l.length := of_decide_eq_false (by assumption)
              refine loopC.intro 1 ⟨by omega, fun _ => by rintro ⟨q, _⟩; omega, by omega⟩ ?_ (by omega)
              simp only [ws, evS, Nat.reduceSub, Nat.reduceEqDiff, reduceCtorEq]
              (repeat' (first | (with_reducible refine And.intro ?_ ?_) | ((first | refine GuardK.intro_f (fun h => ?_) (fun h => ?_) | refine GuardK.intro_t (fun h => ?_) (fun h => ?_) | refine CondK.intro (fun h => ?_) (fun h => ?_) | refine PickK.intro (fun h => ?_) (fun h => ?_)) <;> simp only [h, evS, tyS, Bool.not_true, Bool.not_false, Nat.reduceAdd, Nat.reduceSub, Nat.reduceMul, Nat.reduceLT, Nat.reduceLeDiff, Nat.reduceEqDiff, reduceCtorEq, List.reduceReplicate, Int.reduceToNat, Int.reduceLE, Int.reduceLT]) | (refine DrawK.intro (by kernel_rfl) (by kernel_rfl) ?_; simp only [evS, tyS, Bool.not_true, Bool.not_false, Nat.reduceAdd, Nat.reduceSub, Nat.reduceMul, Nat.reduceLT, Nat.reduceLeDiff, Nat.reduceEqDiff, reduceCtorEq, List.reduceReplicate, Int.reduceToNat, Int.reduceLE, Int.reduceLT])))
              all_goals first | rfl | exact .inl rfl | trace_state
          | 1, _ =>
            have w1 : IntKind.i64.wrap ((p : Int) + ((2 - 1 : Nat) : Int)) = ((p + 1 : Nat) : Int) := (i64w (by omega) (by omega)).trans (by omega)
            have c1 : decide ((1 : Int) ≤ ((2 - 1 : Nat) : Int)) = true := by decide
            have d1 : decide (((p + 1 : Nat) : Int) ≤ (l.length : Int)) = decide (p + 1 ≤ l.length) := by
              by_cases h : p + 1 ≤ l.length
              · rw [decide_eq_true h, decide_eq_true]; omega
              · rw [decide_eq_false h, decide_eq_false]; omega
            have ws : IntKind.i64.wrap (((2 - 1 : Nat) : Int) - 1) = ((2 - 2 : Nat) : Int) := by decide
            simp only [w1, zero6, c1, d1, evS, tyS, Nat.reduceSub, Nat.reduceLT, Nat.reduceEqDiff, reduceCtorEq]
            (repeat' (first | (with_reducible refine And.intro ?_ ?_) | ((first | refine GuardK.intro_f (fun h => ?_) (fun h => ?_) | refine GuardK.intro_t (fun h => ?_) (fun h => ?_) | refine CondK.intro (fun h => ?_) (fun h => ?_) | refine PickK.intro (fun h => ?_) (fun h => ?_)) <;> simp only [h, w1, hmd, evS, tyS, Nat.reduceLT, Nat.reduceEqDiff, reduceCtorEq]) | (refine DrawK.intro (by kernel_rfl) (by kernel_rfl) ?_; simp only [w1, ea, hmd, evS, tyS, Bool.not_true, Bool.not_false, Nat.reduceAdd, Nat.reduceSub, Nat.reduceMul, Nat.reduceLT, Nat.reduceLeDiff, Nat.reduceEqDiff, reduceCtorEq, List.reduceReplicate, Int.reduceToNat, Int.reduceLE, Int.reduceLT])))
            all_goals try (((try simp only [decide_eq_true_eq, decide_eq_false_iff_not] at *) <;> (try omega)); done)
            · have hle : p + 1 ≤ l.length := of_decide_eq_true (by assumption)
              (repeat' (with_reducible refine And.intro ?_ ?_))
              all_goals try omega
              refine CallK.intro b44 rfl (refIsMark_ev _) ?_
              have etk : p + 1 - p = 1 := by omega
              rw [etk]
              cases hmk : marksL.contains (List.take 1 (List.drop p l)) with
              | true =>
                have hM : markN (l.drop p) = 1 := by rw [hmr]; rw [if_neg (hj2 (by omega)), if_pos hmk]
                rw [hM, if_neg (by decide)] at hh
                simp only [w1, hmd, etk, evS, tyS, Nat.reduceAdd, Nat.reduceLT, Nat.reduceLeDiff, Nat.reduceEqDiff, reduceCtorEq]
                (repeat' (first | (with_reducible refine And.intro ?_ ?_) | ((first | refine GuardK.intro_f (fun h => ?_) (fun h => ?_) | refine GuardK.intro_t (fun h => ?_) (fun h => ?_) | refine CondK.intro (fun h => ?_) (fun h => ?_) | refine PickK.intro (fun h => ?_) (fun h => ?_)) <;> simp only [h, w1, ea, hmd, etk, evS, tyS, Bool.not_true, Bool.not_false, Nat.reduceAdd, Nat.reduceSub, Nat.reduceMul, Nat.reduceLT, Nat.reduceLeDiff, Nat.reduceEqDiff, reduceCtorEq, List.reduceReplicate, Int.reduceToNat, Int.reduceLE, Int.reduceLT]) | (refine DrawK.intro (by kernel_rfl) (by kernel_rfl) ?_; simp only [w1, ea, hmd, etk, evS, tyS, Bool.not_true, Bool.not_false, Nat.reduceAdd, Nat.reduceSub, Nat.reduceMul, Nat.reduceLT, Nat.reduceLeDiff, Nat.reduceEqDiff, reduceCtorEq, List.reduceReplicate, Int.reduceToNat, Int.reduceLE, Int.reduceLT])))
                all_goals try omega
                rw [hh]
                simp only [resTP, okTok, TokD.av, tokA, evS]
                all_goals first | done | rfl | trace_state
              | false =>
                simp only [evS, Nat.reduceLT, Nat.reduceEqDiff, reduceCtorEq]
                refine loopC.intro 2 ⟨by omega, ?_, ?_⟩ ?_ (by omega)
                · intro _; exact hj2 (by omega)
                · intro _; first | decide | (rw [hmk]; decide) | simp_all
                · simp only [ws, evS, Nat.reduceSub, Nat.reduceEqDiff, reduceCtorEq]
                  (repeat' (first | (with_reducible refine And.intro ?_ ?_) | ((first | refine GuardK.intro_f (fun h => ?_) (fun h => ?_) | refine GuardK.intro_t (fun h => ?_) (fun h => ?_) | refine CondK.intro (fun h => ?_) (fun h => ?_) | refine PickK.intro (fun h => ?_) (fun h => ?_)) <;> simp only [h, evS, tyS, Bool.not_true, Bool.not_false, Nat.reduceAdd, Nat.reduceSub, Nat.reduceMul, Nat.reduceLT, Nat.reduceLeDiff, Nat.reduceEqDiff, reduceCtorEq, List.reduceReplicate, Int.reduceToNat, Int.reduceLE, Int.reduceLT]) | (refine DrawK.intro (by kernel_rfl) (by kernel_rfl) ?_; simp only [evS, tyS, Bool.not_true, Bool.not_false, Nat.reduceAdd, Nat.reduceSub, Nat.reduceMul, Nat.reduceLT, Nat.reduceLeDiff, Nat.reduceEqDiff, reduceCtorEq, List.reduceReplicate, Int.reduceToNat, Int.reduceLE, Int.reduceLT])))
                  all_goals first | rfl | exact .inl rfl | trace_state
          | 2, _ =>
            have c1 : decide ((1 : Int) ≤ ((2 - 2 : Nat) : Int)) = false := by decide
            have hM : markN (l.drop p) = 0 := by rw [hmr, if_neg (hj2 (by omega)), if_neg (hj3 (by omega))]
            rw [hM, if_pos rfl] at hh
            rw [hh]
            simp only [zero6, c1, resTP, errTok, tokA, f0, evS, tyS, Nat.reduceAdd, Nat.reduceSub, Nat.reduceLT, Nat.reduceLeDiff, Nat.reduceEqDiff, reduceCtorEq]
end Go.Proofs.YtlobiioioicmhaaGreatDoor
namespace Go.Proofs.YtlobiioioicmhaaGreatDoor
set_option linter.all false
open Go Go.Ev
set_option maxRecDepth 20000
variable {γ : List (Nat × AV)}
theorem itemsF_next {l : List UInt8} {i j : Nat} (h : nextT l i = nextT l j) : ∀ f, itemsF f l i = itemsF f l j
  | 0 => rfl
  | f + 1 => by rw [itemsF, itemsF, h]
def okI (x : TokD × Nat) : (TokD × Nat) × Int := (x, 0)
def rscanA (l : List UInt8) : AV :=
  match (eachItems l).find? badI with
  | none => .tup [listA ((eachItems l).map fun x => x.1), .v (.int .i64 0), .v (.int .i64 0)]
  | some x => .tup [listA (((eachItems l).takeWhile fun x => !badI x).map fun x => x.1), .v (.int .i64 x.1.2), .v (.int .i64 x.2)]
theorem okI_not (x : TokD × Nat) : badI (okI x) = false := by simp [badI, okI]
theorem rscan_end {l : List UInt8} {toks : List (TokD × Nat)} (h : eachItems l = toks.map okI) : rscanA l = .tup [listA toks, .v (.int .i64 0), .v (.int .i64 0)] := by
  have h1 : (toks.map okI).find? badI = none := by
    rw [List.find?_eq_none]
    intro x hx
    obtain ⟨y, _, rfl⟩ := List.mem_map.1 hx
    rw [okI_not]; decide
  have h2 : (toks.map okI).map (fun x => x.1) = toks := by
    rw [List.map_map]; exact List.map_id' _
  unfold rscanA
  rw [h, h1, h2]
theorem rscan_err {l : List UInt8} {toks : List (TokD × Nat)} {t : TokD} {p : Nat} {e : Int} (he : e ≠ 0) (h : eachItems l = toks.map okI ++ [((t, p), e)]) : rscanA l = .tup [listA toks, .v (.int .i64 p), .v (.int .i64 e)] := by
  have hb : badI ((t, p), e) = true := decide_eq_true he
  have h0 : ∀ L : List (TokD × Nat), (L.map okI ++ [((t, p), e)]).find? badI = some ((t, p), e) ∧ ((L.map okI ++ [((t, p), e)]).takeWhile fun x => !badI x) = L.map okI := by
    intro L
    induction L with
    | nil => simp [hb]
    | cons y L ih => simp [okI_not, ih.1, ih.2]
  have h2 : (toks.map okI).map (fun x => x.1) = toks := by
    rw [List.map_map]; exact List.map_id' _
  unfold rscanA
  rw [h, (h0 toks).1, (h0 toks).2, h2]
def rscanS (γ : List (Nat × AV)) (l : List UInt8) (b : Bool) : Nat × List (TokD × Nat) → St
  | (i, []) => ⟨⟨61, [(0, .sl b l.length l.length (l.map byteC)), (5, .v (.slice none 0 0)), (6, .v (.int .i64 i))], γ⟩, []⟩
  | (i, y :: T) => ⟨⟨61, [(0, .sl b l.length l.length (l.map byteC)), (5, .own 2 T.length (T.length + 1)), (6, .v (.int .i64 i))], γ⟩, [⟨0, 54, tokCells y⟩, ⟨0, 54, tokCells y⟩, ⟨T.length, 54, listCells (y :: T)⟩]⟩
def rscanI (l : List UInt8) (a : Nat × List (TokD × Nat)) : Prop := a.1 ≤ l.length ∧ ∃ f, eachItems l = a.2.map okI ++ itemsF f l a.1 ∧ l.length + 1 ≤ f + a.1
set_option maxHeartbeats 4000000 in
set_option maxRecDepth 20000 in
theorem refScan_ev (b : Bool) (l : List UInt8) (hl : l.length ≤ 140737488351232) : Ev Tryz.prog γ 41 [.sl b l.length l.length (l.map byteC)] (rscanA l) := by
  refine Ev.of Tryz.func41 rfl ?_
  have ea : ∀ j, (l.getD j 0).toNat = atL l j := fun _ => rfl
  by_cases hbig : 32768 < l.length
  · have hd : decide (32768 < (l.length : Int)) = true := decide_eq_true (by omega)
    have hit : eachItems l = ([] : List (TokD × Nat)).map okI ++ [((zeroT, 0), 3)] := by unfold eachItems; rw [if_pos hbig]; rfl
    rw [rscan_err (by decide) hit]
    simp only [Tryz.f41, hd, listA, evS, tyS, Nat.reduceAdd, Nat.reduceSub, Nat.reduceLT, Nat.reduceEqDiff, reduceCtorEq]
    (repeat' (first | (with_reducible refine And.intro ?_ ?_) | ((first | refine GuardK.intro_f (fun h => ?_) (fun h => ?_) | refine GuardK.intro_t (fun h => ?_) (fun h => ?_) | refine CondK.intro (fun h => ?_) (fun h => ?_) | refine PickK.intro (fun h => ?_) (fun h => ?_)) <;> simp only [h, evS, tyS, Bool.not_true, Bool.not_false, Nat.reduceAdd, Nat.reduceSub, Nat.reduceMul, Nat.reduceLT, Nat.reduceLeDiff, Nat.reduceEqDiff, reduceCtorEq, List.reduceReplicate, Int.reduceToNat, Int.reduceLE, Int.reduceLT]) | (refine DrawK.intro (by kernel_rfl) (by kernel_rfl) ?_; simp only [evS, tyS, Bool.not_true, Bool.not_false, Nat.reduceAdd, Nat.reduceSub, Nat.reduceMul, Nat.reduceLT, Nat.reduceLeDiff, Nat.reduceEqDiff, reduceCtorEq, List.reduceReplicate, Int.reduceToNat, Int.reduceLE, Int.reduceLT])))
    all_goals first | done | rfl | trace_state
  · have hd : decide (32768 < (l.length : Int)) = false := decide_eq_false (by omega)
    have hit : eachItems l = itemsF (l.length + 1) l 0 := by unfold eachItems; rw [if_neg hbig]
    simp only [Tryz.f41, hd, evS, tyS, Nat.reduceAdd, Nat.reduceSub, Nat.reduceLT, Nat.reduceEqDiff, reduceCtorEq]
    refine LoopK.intro (rscanS γ l b) (rscanI l) (fun a => l.length - a.1) (0, []) ?_ ⟨by simp, l.length + 1, by simp [hit], by simp⟩ ?_
    · simp only [rscanS, evS, Nat.reduceEqDiff, reduceCtorEq]
      (repeat' (first | (with_reducible refine And.intro ?_ ?_) | ((first | refine GuardK.intro_f (fun h => ?_) (fun h => ?_) | refine GuardK.intro_t (fun h => ?_) (fun h => ?_) | refine CondK.intro (fun h => ?_) (fun h => ?_) | refine PickK.intro (fun h => ?_) (fun h => ?_)) <;> simp only [h, evS, tyS, Bool.not_true, Bool.not_false, Nat.reduceAdd, Nat.reduceSub, Nat.reduceMul, Nat.reduceLT, Nat.reduceLeDiff, Nat.reduceEqDiff, reduceCtorEq, List.reduceReplicate, Int.reduceToNat, Int.reduceLE, Int.reduceLT]) | (refine DrawK.intro (by kernel_rfl) (by kernel_rfl) ?_; simp only [evS, tyS, Bool.not_true, Bool.not_false, Nat.reduceAdd, Nat.reduceSub, Nat.reduceMul, Nat.reduceLT, Nat.reduceLeDiff, Nat.reduceEqDiff, reduceCtorEq, List.reduceReplicate, Int.reduceToNat, Int.reduceLE, Int.reduceLT])))
      all_goals first | rfl | exact .inl rfl | trace_state
    · rintro ⟨i, toks⟩ ⟨hi, f, hf, hfi⟩
      simp only at hi hf hfi
      by_cases hil : i < l.length
      · have d1 : decide (i < l.length) = true := decide_eq_true hil
        have ew : IntKind.i64.wrap ((i : Int) + 1) = ((i + 1 : Nat) : Int) := i64w (by omega) (by omega)
        have k35 : ((atL l i : Int) == 35) = decide (atL l i = 35) := by
          by_cases h : atL l i = 35
          · simp [h]
          · rw [decide_eq_false h]; simp; omega
        cases hb : blankN (atL l i) with
        | true =>
          have hnx : nextT l i = nextT l (i + 1) := by rw [nextT, gap_blank hil hb, nextT]; omega
          cases toks with
          | nil =>
            simp only [rscanS, d1, ea, evS, tyS, Nat.reduceLT, Nat.reduceEqDiff, reduceCtorEq]
            (repeat' (first | (with_reducible refine And.intro ?_ ?_) | ((first | refine GuardK.intro_f (fun h => ?_) (fun h => ?_) | refine GuardK.intro_t (fun h => ?_) (fun h => ?_) | refine CondK.intro (fun h => ?_) (fun h => ?_) | refine PickK.intro (fun h => ?_) (fun h => ?_)) <;> simp only [h, ea, evS, tyS, Bool.not_true, Bool.not_false, Nat.reduceAdd, Nat.reduceSub, Nat.reduceMul, Nat.reduceLT, Nat.reduceLeDiff, Nat.reduceEqDiff, reduceCtorEq, List.reduceReplicate, Int.reduceToNat, Int.reduceLE, Int.reduceLT]) | (refine DrawK.intro (by kernel_rfl) (by kernel_rfl) ?_; simp only [ea, evS, tyS, Bool.not_true, Bool.not_false, Nat.reduceAdd, Nat.reduceSub, Nat.reduceMul, Nat.reduceLT, Nat.reduceLeDiff, Nat.reduceEqDiff, reduceCtorEq, List.reduceReplicate, Int.reduceToNat, Int.reduceLE, Int.reduceLT])))
            all_goals try (((try simp only [decide_eq_true_eq, decide_eq_false_iff_not] at *) <;> (try omega)); done)
            refine CallK.intro b28 rfl (refBlank_ev _) ?_
            simp only [hb, ew, evS, Nat.reduceLT, Nat.reduceEqDiff, reduceCtorEq]
            refine loopC.intro (i + 1, []) ⟨by simp only; omega, f, by simp only; rw [← itemsF_next hnx]; exact hf, by simp only; omega⟩ ?_ (by simp only; omega)
            simp only [rscanS, evS, Nat.reduceEqDiff, reduceCtorEq]
            (repeat' (first | (with_reducible refine And.intro ?_ ?_) | ((first | refine GuardK.intro_f (fun h => ?_) (fun h => ?_) | refine GuardK.intro_t (fun h => ?_) (fun h => ?_) | refine CondK.intro (fun h => ?_) (fun h => ?_) | refine PickK.intro (fun h => ?_) (fun h => ?_)) <;> simp only [h, evS, tyS, Bool.not_true, Bool.not_false, Nat.reduceAdd, Nat.reduceSub, Nat.reduceMul, Nat.reduceLT, Nat.reduceLeDiff, Nat.reduceEqDiff, reduceCtorEq, List.reduceReplicate, Int.reduceToNat, Int.reduceLE, Int.reduceLT]) | (refine DrawK.intro (by kernel_rfl) (by kernel_rfl) ?_; simp only [evS, tyS, Bool.not_true, Bool.not_false, Nat.reduceAdd, Nat.reduceSub, Nat.reduceMul, Nat.reduceLT, Nat.reduceLeDiff, Nat.reduceEqDiff, reduceCtorEq, List.reduceReplicate, Int.reduceToNat, Int.reduceLE, Int.reduceLT])))
            all_goals first | rfl | exact .inl rfl | trace_state
          | cons y T =>
            simp only [rscanS, d1, ea, evS, tyS, Nat.reduceLT, Nat.reduceEqDiff, reduceCtorEq]
            (repeat' (first | (with_reducible refine And.intro ?_ ?_) | ((first | refine GuardK.intro_f (fun h => ?_) (fun h => ?_) | refine GuardK.intro_t (fun h => ?_) (fun h => ?_) | refine CondK.intro (fun h => ?_) (fun h => ?_) | refine PickK.intro (fun h => ?_) (fun h => ?_)) <;> simp only [h, ea, evS, tyS, Bool.not_true, Bool.not_false, Nat.reduceAdd, Nat.reduceSub, Nat.reduceMul, Nat.reduceLT, Nat.reduceLeDiff, Nat.reduceEqDiff, reduceCtorEq, List.reduceReplicate, Int.reduceToNat, Int.reduceLE, Int.reduceLT]) | (refine DrawK.intro (by kernel_rfl) (by kernel_rfl) ?_; simp only [ea, evS, tyS, Bool.not_true, Bool.not_false, Nat.reduceAdd, Nat.reduceSub, Nat.reduceMul, Nat.reduceLT, Nat.reduceLeDiff, Nat.reduceEqDiff, reduceCtorEq, List.reduceReplicate, Int.reduceToNat, Int.reduceLE, Int.reduceLT])))
            all_goals try (((try simp only [decide_eq_true_eq, decide_eq_false_iff_not] at *) <;> (try omega)); done)
            refine CallK.intro b28 rfl (refBlank_ev _) ?_
            simp only [hb, ew, evS, Nat.reduceLT, Nat.reduceEqDiff, reduceCtorEq]
            refine loopC.intro (i + 1, y :: T) ⟨by simp only; omega, f, by simp only; rw [← itemsF_next hnx]; exact hf, by simp only; omega⟩ ?_ (by simp only; omega)
            simp only [rscanS, evS, Nat.reduceAdd, Nat.reduceEqDiff, reduceCtorEq]
            (repeat' (first | (with_reducible refine And.intro ?_ ?_) | ((first | refine GuardK.intro_f (fun h => ?_) (fun h => ?_) | refine GuardK.intro_t (fun h => ?_) (fun h => ?_) | refine CondK.intro (fun h => ?_) (fun h => ?_) | refine PickK.intro (fun h => ?_) (fun h => ?_)) <;> simp only [h, evS, tyS, Bool.not_true, Bool.not_false, Nat.reduceAdd, Nat.reduceSub, Nat.reduceMul, Nat.reduceLT, Nat.reduceLeDiff, Nat.reduceEqDiff, reduceCtorEq, List.reduceReplicate, Int.reduceToNat, Int.reduceLE, Int.reduceLT]) | (refine DrawK.intro (by kernel_rfl) (by kernel_rfl) ?_; simp only [evS, tyS, Bool.not_true, Bool.not_false, Nat.reduceAdd, Nat.reduceSub, Nat.reduceMul, Nat.reduceLT, Nat.reduceLeDiff, Nat.reduceEqDiff, reduceCtorEq, List.reduceReplicate, Int.reduceToNat, Int.reduceLE, Int.reduceLT])))
            all_goals first | rfl | exact .inl rfl | trace_state
        | false =>
          by_cases h35 : atL l i = 35
          · have d35 : decide (atL l i = 35) = true := decide_eq_true h35
            cases toks with
            | nil =>
              simp only [rscanS, d1, ea, evS, tyS, Nat.reduceLT, Nat.reduceEqDiff, reduceCtorEq]
              (repeat' (first | (with_reducible refine And.intro ?_ ?_) | ((first | refine GuardK.intro_f (fun h => ?_) (fun h => ?_) | refine GuardK.intro_t (fun h => ?_) (fun h => ?_) | refine CondK.intro (fun h => ?_) (fun h => ?_) | refine PickK.intro (fun h => ?_) (fun h => ?_)) <;> simp only [h, ea, evS, tyS, Bool.not_true, Bool.not_false, Nat.reduceAdd, Nat.reduceSub, Nat.reduceMul, Nat.reduceLT, Nat.reduceLeDiff, Nat.reduceEqDiff, reduceCtorEq, List.reduceReplicate, Int.reduceToNat, Int.reduceLE, Int.reduceLT]) | (refine DrawK.intro (by kernel_rfl) (by kernel_rfl) ?_; simp only [ea, evS, tyS, Bool.not_true, Bool.not_false, Nat.reduceAdd, Nat.reduceSub, Nat.reduceMul, Nat.reduceLT, Nat.reduceLeDiff, Nat.reduceEqDiff, reduceCtorEq, List.reduceReplicate, Int.reduceToNat, Int.reduceLE, Int.reduceLT])))
              all_goals try (((try simp only [decide_eq_true_eq, decide_eq_false_iff_not] at *) <;> (try omega)); done)
              refine CallK.intro b28 rfl (refBlank_ev _) ?_
              simp only [hb, ea, k35, d35, evS, tyS, Nat.reduceLT, Nat.reduceEqDiff, reduceCtorEq]
              (repeat' (first | (with_reducible refine And.intro ?_ ?_) | ((first | refine GuardK.intro_f (fun h => ?_) (fun h => ?_) | refine GuardK.intro_t (fun h => ?_) (fun h => ?_) | refine CondK.intro (fun h => ?_) (fun h => ?_) | refine PickK.intro (fun h => ?_) (fun h => ?_)) <;> simp only [h, ea, k35, d35, evS, tyS, Bool.not_true, Bool.not_false, Nat.reduceAdd, Nat.reduceSub, Nat.reduceMul, Nat.reduceLT, Nat.reduceLeDiff, Nat.reduceEqDiff, reduceCtorEq, List.reduceReplicate, Int.reduceToNat, Int.reduceLE, Int.reduceLT]) | (refine DrawK.intro (by kernel_rfl) (by kernel_rfl) ?_; simp only [ea, k35, d35, evS, tyS, Bool.not_true, Bool.not_false, Nat.reduceAdd, Nat.reduceSub, Nat.reduceMul, Nat.reduceLT, Nat.reduceLeDiff, Nat.reduceEqDiff, reduceCtorEq, List.reduceReplicate, Int.reduceToNat, Int.reduceLE, Int.reduceLT])))
              all_goals try (((try simp only [decide_eq_true_eq, decide_eq_false_iff_not] at *) <;> (try omega)); done)
              refine LoopK.intro (fun j : Nat => rscanS γ l b (j, [])) (fun j => i ≤ j ∧ j ≤ l.length ∧ nextT l i = j + gapL true (l.drop j)) (fun j => l.length - j) i ?_ ⟨by omega, by omega, by rw [nextT, gap_com hil hb h35, ← gap_in hil (by omega)]⟩ (fun j hj => ?_)
              · simp only [rscanS, evS, Nat.reduceEqDiff, reduceCtorEq]
                (repeat' (first | (with_reducible refine And.intro ?_ ?_) | ((first | refine GuardK.intro_f (fun h => ?_) (fun h => ?_) | refine GuardK.intro_t (fun h => ?_) (fun h => ?_) | refine CondK.intro (fun h => ?_) (fun h => ?_) | refine PickK.intro (fun h => ?_) (fun h => ?_)) <;> simp only [h, evS, tyS, Bool.not_true, Bool.not_false, Nat.reduceAdd, Nat.reduceSub, Nat.reduceMul, Nat.reduceLT, Nat.reduceLeDiff, Nat.reduceEqDiff, reduceCtorEq, List.reduceReplicate, Int.reduceToNat, Int.reduceLE, Int.reduceLT]) | (refine DrawK.intro (by kernel_rfl) (by kernel_rfl) ?_; simp only [evS, tyS, Bool.not_true, Bool.not_false, Nat.reduceAdd, Nat.reduceSub, Nat.reduceMul, Nat.reduceLT, Nat.reduceLeDiff, Nat.reduceEqDiff, reduceCtorEq, List.reduceReplicate, Int.reduceToNat, Int.reduceLE, Int.reduceLT])))
                all_goals first | rfl | exact .inl rfl | trace_state
              · obtain ⟨hj0, hj1, hj2⟩ := hj
                have ej : IntKind.i64.wrap ((j : Int) + 1) = ((j + 1 : Nat) : Int) := i64w (by omega) (by omega)
                have hend : (l.length ≤ j ∨ atL l j = 10) → nextT l i = nextT l j ∧ i < j := fun h => by
                  constructor
                  · rw [hj2, nextT]
                    rcases h with h | h
                    · rw [gap_end h, gap_end h]
                    · by_cases hlt : j < l.length
                      · rw [gap_nl hlt h]
                      · rw [gap_end (by omega), gap_end (by omega)]
                  · by_cases hij : i < j
                    · exact hij
                    · have : j = i := by omega
                      subst this
                      rcases h with h | h
                      · omega
                      · omega
                by_cases hjl : j < l.length
                · have d2 : decide (j < l.length) = true := decide_eq_true hjl
                  by_cases h10 : atL l j = 10
                  · have k10 : ((atL l j : Int) != 10) = false := by rw [h10]; decide
                    obtain ⟨hn1, hn2⟩ := hend (.inr h10)
                    simp only [rscanS, d2, ea, k10, evS, tyS, Nat.reduceLT, Nat.reduceEqDiff, reduceCtorEq]
                    (repeat' (first | (with_reducible refine And.intro ?_ ?_) | ((first | refine GuardK.intro_f (fun h => ?_) (fun h => ?_) | refine GuardK.intro_t (fun h => ?_) (fun h => ?_) | refine CondK.intro (fun h => ?_) (fun h => ?_) | refine PickK.intro (fun h => ?_) (fun h => ?_)) <;> simp only [h, ea, k10, evS, tyS, Bool.not_true, Bool.not_false, Nat.reduceAdd, Nat.reduceSub, Nat.reduceMul, Nat.reduceLT, Nat.reduceLeDiff, Nat.reduceEqDiff, reduceCtorEq, List.reduceReplicate, Int.reduceToNat, Int.reduceLE, Int.reduceLT]) | (refine DrawK.intro (by kernel_rfl) (by kernel_rfl) ?_; simp only [ea, k10, evS, tyS, Bool.not_true, Bool.not_false, Nat.reduceAdd, Nat.reduceSub, Nat.reduceMul, Nat.reduceLT, Nat.reduceLeDiff, Nat.reduceEqDiff, reduceCtorEq, List.reduceReplicate, Int.reduceToNat, Int.reduceLE, Int.reduceLT])))
                    all_goals try (((try simp only [decide_eq_true_eq, decide_eq_false_iff_not, bne_eq_false_iff_eq] at *) <;> (try omega)); done)
                    refine loopC.intro (j, []) ⟨by simp only; omega, f, by simp only; rw [← itemsF_next hn1]; exact hf, by simp only; omega⟩ ?_ (by simp only; omega)
                    simp only [rscanS, evS, Nat.reduceEqDiff, reduceCtorEq]
                    (repeat' (first | (with_reducible refine And.intro ?_ ?_) | ((first | refine GuardK.intro_f (fun h => ?_) (fun h => ?_) | refine GuardK.intro_t (fun h => ?_) (fun h => ?_) | refine CondK.intro (fun h => ?_) (fun h => ?_) | refine PickK.intro (fun h => ?_) (fun h => ?_)) <;> simp only [h, evS, tyS, Bool.not_true, Bool.not_false, Nat.reduceAdd, Nat.reduceSub, Nat.reduceMul, Nat.reduceLT, Nat.reduceLeDiff, Nat.reduceEqDiff, reduceCtorEq, List.reduceReplicate, Int.reduceToNat, Int.reduceLE, Int.reduceLT]) | (refine DrawK.intro (by kernel_rfl) (by kernel_rfl) ?_; simp only [evS, tyS, Bool.not_true, Bool.not_false, Nat.reduceAdd, Nat.reduceSub, Nat.reduceMul, Nat.reduceLT, Nat.reduceLeDiff, Nat.reduceEqDiff, reduceCtorEq, List.reduceReplicate, Int.reduceToNat, Int.reduceLE, Int.reduceLT])))
                    all_goals first | rfl | exact .inl rfl | trace_state
                  · have k10 : ((atL l j : Int) != 10) = true := by simp; omega
                    simp only [rscanS, d2, ea, k10, ej, evS, tyS, Nat.reduceLT, Nat.reduceEqDiff, reduceCtorEq]
                    (repeat' (first | (with_reducible refine And.intro ?_ ?_) | ((first | refine GuardK.intro_f (fun h => ?_) (fun h => ?_) | refine GuardK.intro_t (fun h => ?_) (fun h => ?_) | refine CondK.intro (fun h => ?_) (fun h => ?_) | refine PickK.intro (fun h => ?_) (fun h => ?_)) <;> simp only [h, ea, k10, ej, evS, tyS, Bool.not_true, Bool.not_false, Nat.reduceAdd, Nat.reduceSub, Nat.reduceMul, Nat.reduceLT, Nat.reduceLeDiff, Nat.reduceEqDiff, reduceCtorEq, List.reduceReplicate, Int.reduceToNat, Int.reduceLE, Int.reduceLT]) | (refine DrawK.intro (by kernel_rfl) (by kernel_rfl) ?_; simp only [ea, k10, ej, evS, tyS, Bool.not_true, Bool.not_false, Nat.reduceAdd, Nat.reduceSub, Nat.reduceMul, Nat.reduceLT, Nat.reduceLeDiff, Nat.reduceEqDiff, reduceCtorEq, List.reduceReplicate, Int.reduceToNat, Int.reduceLE, Int.reduceLT])))
                    all_goals try (((try simp only [decide_eq_true_eq, decide_eq_false_iff_not, bne_iff_ne, ne_eq] at *) <;> (try omega)); done)
                    refine loopC.intro (j + 1) ⟨by omega, by omega, by rw [hj2, gap_in hjl h10]; omega⟩ ?_ (by omega)
                    simp only [evS, Nat.reduceEqDiff, reduceCtorEq]
                    (repeat' (first | (with_reducible refine And.intro ?_ ?_) | ((first | refine GuardK.intro_f (fun h => ?_) (fun h => ?_) | refine GuardK.intro_t (fun h => ?_) (fun h => ?_) | refine CondK.intro (fun h => ?_) (fun h => ?_) | refine PickK.intro (fun h => ?_) (fun h => ?_)) <;> simp only [h, evS, tyS, Bool.not_true, Bool.not_false, Nat.reduceAdd, Nat.reduceSub, Nat.reduceMul, Nat.reduceLT, Nat.reduceLeDiff, Nat.reduceEqDiff, reduceCtorEq, List.reduceReplicate, Int.reduceToNat, Int.reduceLE, Int.reduceLT]) | (refine DrawK.intro (by kernel_rfl) (by kernel_rfl) ?_; simp only [evS, tyS, Bool.not_true, Bool.not_false, Nat.reduceAdd, Nat.reduceSub, Nat.reduceMul, Nat.reduceLT, Nat.reduceLeDiff, Nat.reduceEqDiff, reduceCtorEq, List.reduceReplicate, Int.reduceToNat, Int.reduceLE, Int.reduceLT])))
                    all_goals first | rfl | exact .inl rfl | trace_state
                · have d2 : decide (j < l.length) = false := decide_eq_false hjl
                  obtain ⟨hn1, hn2⟩ := hend (.inl (by omega))
                  simp only [rscanS, d2, evS, tyS, Nat.reduceLT, Nat.reduceEqDiff, reduceCtorEq]
                  (repeat' (first | (with_reducible refine And.intro ?_ ?_) | ((first | refine GuardK.intro_f (fun h => ?_) (fun h => ?_) | refine GuardK.intro_t (fun h => ?_) (fun h => ?_) | refine CondK.intro (fun h => ?_) (fun h => ?_) | refine PickK.intro (fun h => ?_) (fun h => ?_)) <;> simp only [h, ea, evS, tyS, Bool.not_true, Bool.not_false, Nat.reduceAdd, Nat.reduceSub, Nat.reduceMul, Nat.reduceLT, Nat.reduceLeDiff, Nat.reduceEqDiff, reduceCtorEq, List.reduceReplicate, Int.reduceToNat, Int.reduceLE, Int.reduceLT]) | (refine DrawK.intro (by kernel_rfl) (by kernel_rfl) ?_; simp only [ea, evS, tyS, Bool.not_true, Bool.not_false, Nat.reduceAdd, Nat.reduceSub, Nat.reduceMul, Nat.reduceLT, Nat.reduceLeDiff, Nat.reduceEqDiff, reduceCtorEq, List.reduceReplicate, Int.reduceToNat, Int.reduceLE, Int.reduceLT])))
                  all_goals try (((try simp only [decide_eq_true_eq, decide_eq_false_iff_not] at *) <;> (try omega)); done)
                  refine loopC.intro (j, []) ⟨by simp only; omega, f, by simp only; rw [← itemsF_next hn1]; exact hf, by simp only; omega⟩ ?_ (by simp only; omega)
                  simp only [rscanS, evS, Nat.reduceEqDiff, reduceCtorEq]
                  (repeat' (first | (with_reducible refine And.intro ?_ ?_) | ((first | refine GuardK.intro_f (fun h => ?_) (fun h => ?_) | refine GuardK.intro_t (fun h => ?_) (fun h => ?_) | refine CondK.intro (fun h => ?_) (fun h => ?_) | refine PickK.intro (fun h => ?_) (fun h => ?_)) <;> simp only [h, evS, tyS, Bool.not_true, Bool.not_false, Nat.reduceAdd, Nat.reduceSub, Nat.reduceMul, Nat.reduceLT, Nat.reduceLeDiff, Nat.reduceEqDiff, reduceCtorEq, List.reduceReplicate, Int.reduceToNat, Int.reduceLE, Int.reduceLT]) | (refine DrawK.intro (by kernel_rfl) (by kernel_rfl) ?_; simp only [evS, tyS, Bool.not_true, Bool.not_false, Nat.reduceAdd, Nat.reduceSub, Nat.reduceMul, Nat.reduceLT, Nat.reduceLeDiff, Nat.reduceEqDiff, reduceCtorEq, List.reduceReplicate, Int.reduceToNat, Int.reduceLE, Int.reduceLT])))
                  all_goals first | rfl | exact .inl rfl | trace_state
            | cons y T =>
              simp only [rscanS, d1, ea, evS, tyS, Nat.reduceLT, Nat.reduceEqDiff, reduceCtorEq]
              (repeat' (first | (with_reducible refine And.intro ?_ ?_) | ((first | refine GuardK.intro_f (fun h => ?_) (fun h => ?_) | refine GuardK.intro_t (fun h => ?_) (fun h => ?_) | refine CondK.intro (fun h => ?_) (fun h => ?_) | refine PickK.intro (fun h => ?_) (fun h => ?_)) <;> simp only [h, ea, evS, tyS, Bool.not_true, Bool.not_false, Nat.reduceAdd, Nat.reduceSub, Nat.reduceMul, Nat.reduceLT, Nat.reduceLeDiff, Nat.reduceEqDiff, reduceCtorEq, List.reduceReplicate, Int.reduceToNat, Int.reduceLE, Int.reduceLT]) | (refine DrawK.intro (by kernel_rfl) (by kernel_rfl) ?_; simp only [ea, evS, tyS, Bool.not_true, Bool.not_false, Nat.reduceAdd, Nat.reduceSub, Nat.reduceMul, Nat.reduceLT, Nat.reduceLeDiff, Nat.reduceEqDiff, reduceCtorEq, List.reduceReplicate, Int.reduceToNat, Int.reduceLE, Int.reduceLT])))
              all_goals try (((try simp only [decide_eq_true_eq, decide_eq_false_iff_not] at *) <;> (try omega)); done)
              refine CallK.intro b28 rfl (refBlank_ev _) ?_
              simp only [hb, ea, k35, d35, evS, tyS, Nat.reduceLT, Nat.reduceEqDiff, reduceCtorEq]
              (repeat' (first | (with_reducible refine And.intro ?_ ?_) | ((first | refine GuardK.intro_f (fun h => ?_) (fun h => ?_) | refine GuardK.intro_t (fun h => ?_) (fun h => ?_) | refine CondK.intro (fun h => ?_) (fun h => ?_) | refine PickK.intro (fun h => ?_) (fun h => ?_)) <;> simp only [h, ea, k35, d35, evS, tyS, Bool.not_true, Bool.not_false, Nat.reduceAdd, Nat.reduceSub, Nat.reduceMul, Nat.reduceLT, Nat.reduceLeDiff, Nat.reduceEqDiff, reduceCtorEq, List.reduceReplicate, Int.reduceToNat, Int.reduceLE, Int.reduceLT]) | (refine DrawK.intro (by kernel_rfl) (by kernel_rfl) ?_; simp only [ea, k35, d35, evS, tyS, Bool.not_true, Bool.not_false, Nat.reduceAdd, Nat.reduceSub, Nat.reduceMul, Nat.reduceLT, Nat.reduceLeDiff, Nat.reduceEqDiff, reduceCtorEq, List.reduceReplicate, Int.reduceToNat, Int.reduceLE, Int.reduceLT])))
              all_goals try (((try simp only [decide_eq_true_eq, decide_eq_false_iff_not] at *) <;> (try omega)); done)
              refine LoopK.intro (fun j : Nat => rscanS γ l b (j, y :: T)) (fun j => i ≤ j ∧ j ≤ l.length ∧ nextT l i = j + gapL true (l.drop j)) (fun j => l.length - j) i ?_ ⟨by omega, by omega, by rw [nextT, gap_com hil hb h35, ← gap_in hil (by omega)]⟩ (fun j hj => ?_)
              · simp only [rscanS, evS, Nat.reduceAdd, Nat.reduceEqDiff, reduceCtorEq]
                (repeat' (first | (with_reducible refine And.intro ?_ ?_) | ((first | refine GuardK.intro_f (fun h => ?_) (fun h => ?_) | refine GuardK.intro_t (fun h => ?_) (fun h => ?_) | refine CondK.intro (fun h => ?_) (fun h => ?_) | refine PickK.intro (fun h => ?_) (fun h => ?_)) <;> simp only [h, evS, tyS, Bool.not_true, Bool.not_false, Nat.reduceAdd, Nat.reduceSub, Nat.reduceMul, Nat.reduceLT, Nat.reduceLeDiff, Nat.reduceEqDiff, reduceCtorEq, List.reduceReplicate, Int.reduceToNat, Int.reduceLE, Int.reduceLT]) | (refine DrawK.intro (by kernel_rfl) (by kernel_rfl) ?_; simp only [evS, tyS, Bool.not_true, Bool.not_false, Nat.reduceAdd, Nat.reduceSub, Nat.reduceMul, Nat.reduceLT, Nat.reduceLeDiff, Nat.reduceEqDiff, reduceCtorEq, List.reduceReplicate, Int.reduceToNat, Int.reduceLE, Int.reduceLT])))
                all_goals first | rfl | exact .inl rfl | trace_state
              · obtain ⟨hj0, hj1, hj2⟩ := hj
                have ej : IntKind.i64.wrap ((j : Int) + 1) = ((j + 1 : Nat) : Int) := i64w (by omega) (by omega)
                have hend : (l.length ≤ j ∨ atL l j = 10) → nextT l i = nextT l j ∧ i < j := fun h => by
                  constructor
                  · rw [hj2, nextT]
                    rcases h with h | h
                    · rw [gap_end h, gap_end h]
                    · by_cases hlt : j < l.length
                      · rw [gap_nl hlt h]
                      · rw [gap_end (by omega), gap_end (by omega)]
                  · by_cases hij : i < j
                    · exact hij
                    · have : j = i := by omega
                      subst this
                      rcases h with h | h
                      · omega
                      · omega
                by_cases hjl : j < l.length
                · have d2 : decide (j < l.length) = true := decide_eq_true hjl
                  by_cases h10 : atL l j = 10
                  · have k10 : ((atL l j : Int) != 10) = false := by rw [h10]; decide
                    obtain ⟨hn1, hn2⟩ := hend (.inr h10)
                    simp only [rscanS, d2, ea, k10, evS, tyS, Nat.reduceLT, Nat.reduceEqDiff, reduceCtorEq]
                    (repeat' (first | (with_reducible refine And.intro ?_ ?_) | ((first | refine GuardK.intro_f (fun h => ?_) (fun h => ?_) | refine GuardK.intro_t (fun h => ?_) (fun h => ?_) | refine CondK.intro (fun h => ?_) (fun h => ?_) | refine PickK.intro (fun h => ?_) (fun h => ?_)) <;> simp only [h, ea, k10, evS, tyS, Bool.not_true, Bool.not_false, Nat.reduceAdd, Nat.reduceSub, Nat.reduceMul, Nat.reduceLT, Nat.reduceLeDiff, Nat.reduceEqDiff, reduceCtorEq, List.reduceReplicate, Int.reduceToNat, Int.reduceLE, Int.reduceLT]) | (refine DrawK.intro (by kernel_rfl) (by kernel_rfl) ?_; simp only [ea, k10, evS, tyS, Bool.not_true, Bool.not_false, Nat.reduceAdd, Nat.reduceSub, Nat.reduceMul, Nat.reduceLT, Nat.reduceLeDiff, Nat.reduceEqDiff, reduceCtorEq, List.reduceReplicate, Int.reduceToNat, Int.reduceLE, Int.reduceLT])))
                    all_goals try (((try simp only [decide_eq_true_eq, decide_eq_false_iff_not, bne_eq_false_iff_eq] at *) <;> (try omega)); done)
                    refine loopC.intro (j, y :: T) ⟨by simp only; omega, f, by simp only; rw [← itemsF_next hn1]; exact hf, by simp only; omega⟩ ?_ (by simp only; omega)
                    simp only [rscanS, evS, Nat.reduceAdd, Nat.reduceEqDiff, reduceCtorEq]
                    (repeat' (first | (with_reducible refine And.intro ?_ ?_) | ((first | refine GuardK.intro_f (fun h => ?_) (fun h => ?_) | refine GuardK.intro_t (fun h => ?_) (fun h => ?_) | refine CondK.intro (fun h => ?_) (fun h => ?_) | refine PickK.intro (fun h => ?_) (fun h => ?_)) <;> simp only [h, evS, tyS, Bool.not_true, Bool.not_false, Nat.reduceAdd, Nat.reduceSub, Nat.reduceMul, Nat.reduceLT, Nat.reduceLeDiff, Nat.reduceEqDiff, reduceCtorEq, List.reduceReplicate, Int.reduceToNat, Int.reduceLE, Int.reduceLT]) | (refine DrawK.intro (by kernel_rfl) (by kernel_rfl) ?_; simp only [evS, tyS, Bool.not_true, Bool.not_false, Nat.reduceAdd, Nat.reduceSub, Nat.reduceMul, Nat.reduceLT, Nat.reduceLeDiff, Nat.reduceEqDiff, reduceCtorEq, List.reduceReplicate, Int.reduceToNat, Int.reduceLE, Int.reduceLT])))
                    all_goals first | rfl | exact .inl rfl | trace_state
                  · have k10 : ((atL l j : Int) != 10) = true := by simp; omega
                    simp only [rscanS, d2, ea, k10, ej, evS, tyS, Nat.reduceLT, Nat.reduceEqDiff, reduceCtorEq]
                    (repeat' (first | (with_reducible refine And.intro ?_ ?_) | ((first | refine GuardK.intro_f (fun h => ?_) (fun h => ?_) | refine GuardK.intro_t (fun h => ?_) (fun h => ?_) | refine CondK.intro (fun h => ?_) (fun h => ?_) | refine PickK.intro (fun h => ?_) (fun h => ?_)) <;> simp only [h, ea, k10, ej, evS, tyS, Bool.not_true, Bool.not_false, Nat.reduceAdd, Nat.reduceSub, Nat.reduceMul, Nat.reduceLT, Nat.reduceLeDiff, Nat.reduceEqDiff, reduceCtorEq, List.reduceReplicate, Int.reduceToNat, Int.reduceLE, Int.reduceLT]) | (refine DrawK.intro (by kernel_rfl) (by kernel_rfl) ?_; simp only [ea, k10, ej, evS, tyS, Bool.not_true, Bool.not_false, Nat.reduceAdd, Nat.reduceSub, Nat.reduceMul, Nat.reduceLT, Nat.reduceLeDiff, Nat.reduceEqDiff, reduceCtorEq, List.reduceReplicate, Int.reduceToNat, Int.reduceLE, Int.reduceLT])))
                    all_goals try (((try simp only [decide_eq_true_eq, decide_eq_false_iff_not, bne_iff_ne, ne_eq] at *) <;> (try omega)); done)
                    refine loopC.intro (j + 1) ⟨by omega, by omega, by rw [hj2, gap_in hjl h10]; omega⟩ ?_ (by omega)
                    simp only [evS, Nat.reduceAdd, Nat.reduceEqDiff, reduceCtorEq]
                    (repeat' (first | (with_reducible refine And.intro ?_ ?_) | ((first | refine GuardK.intro_f (fun h => ?_) (fun h => ?_) | refine GuardK.intro_t (fun h => ?_) (fun h => ?_) | refine CondK.intro (fun h => ?_) (fun h => ?_) | refine PickK.intro (fun h => ?_) (fun h => ?_)) <;> simp only [h, evS, tyS, Bool.not_true, Bool.not_false, Nat.reduceAdd, Nat.reduceSub, Nat.reduceMul, Nat.reduceLT, Nat.reduceLeDiff, Nat.reduceEqDiff, reduceCtorEq, List.reduceReplicate, Int.reduceToNat, Int.reduceLE, Int.reduceLT]) | (refine DrawK.intro (by kernel_rfl) (by kernel_rfl) ?_; simp only [evS, tyS, Bool.not_true, Bool.not_false, Nat.reduceAdd, Nat.reduceSub, Nat.reduceMul, Nat.reduceLT, Nat.reduceLeDiff, Nat.reduceEqDiff, reduceCtorEq, List.reduceReplicate, Int.reduceToNat, Int.reduceLE, Int.reduceLT])))
                    all_goals first | rfl | exact .inl rfl | trace_state
                · have d2 : decide (j < l.length) = false := decide_eq_false hjl
                  obtain ⟨hn1, hn2⟩ := hend (.inl (by omega))
                  simp only [rscanS, d2, evS, tyS, Nat.reduceLT, Nat.reduceEqDiff, reduceCtorEq]
                  (repeat' (first | (with_reducible refine And.intro ?_ ?_) | ((first | refine GuardK.intro_f (fun h => ?_) (fun h => ?_) | refine GuardK.intro_t (fun h => ?_) (fun h => ?_) | refine CondK.intro (fun h => ?_) (fun h => ?_) | refine PickK.intro (fun h => ?_) (fun h => ?_)) <;> simp only [h, ea, evS, tyS, Bool.not_true, Bool.not_false, Nat.reduceAdd, Nat.reduceSub, Nat.reduceMul, Nat.reduceLT, Nat.reduceLeDiff, Nat.reduceEqDiff, reduceCtorEq, List.reduceReplicate, Int.reduceToNat, Int.reduceLE, Int.reduceLT]) | (refine DrawK.intro (by kernel_rfl) (by kernel_rfl) ?_; simp only [ea, evS, tyS, Bool.not_true, Bool.not_false, Nat.reduceAdd, Nat.reduceSub, Nat.reduceMul, Nat.reduceLT, Nat.reduceLeDiff, Nat.reduceEqDiff, reduceCtorEq, List.reduceReplicate, Int.reduceToNat, Int.reduceLE, Int.reduceLT])))
                  all_goals try (((try simp only [decide_eq_true_eq, decide_eq_false_iff_not] at *) <;> (try omega)); done)
                  refine loopC.intro (j, y :: T) ⟨by simp only; omega, f, by simp only; rw [← itemsF_next hn1]; exact hf, by simp only; omega⟩ ?_ (by simp only; omega)
                  simp only [rscanS, evS, Nat.reduceAdd, Nat.reduceEqDiff, reduceCtorEq]
                  (repeat' (first | (with_reducible refine And.intro ?_ ?_) | ((first | refine GuardK.intro_f (fun h => ?_) (fun h => ?_) | refine GuardK.intro_t (fun h => ?_) (fun h => ?_) | refine CondK.intro (fun h => ?_) (fun h => ?_) | refine PickK.intro (fun h => ?_) (fun h => ?_)) <;> simp only [h, evS, tyS, Bool.not_true, Bool.not_false, Nat.reduceAdd, Nat.reduceSub, Nat.reduceMul, Nat.reduceLT, Nat.reduceLeDiff, Nat.reduceEqDiff, reduceCtorEq, List.reduceReplicate, Int.reduceToNat, Int.reduceLE, Int.reduceLT]) | (refine DrawK.intro (by kernel_rfl) (by kernel_rfl) ?_; simp only [evS, tyS, Bool.not_true, Bool.not_false, Nat.reduceAdd, Nat.reduceSub, Nat.reduceMul, Nat.reduceLT, Nat.reduceLeDiff, Nat.reduceEqDiff, reduceCtorEq, List.reduceReplicate, Int.reduceToNat, Int.reduceLE, Int.reduceLT])))
                  all_goals first | rfl | exact .inl rfl | trace_state

          · have d35 : decide (atL l i = 35) = false := decide_eq_false h35
            have hTi : nextT l i = i := by rw [nextT, gap_stop hil hb h35]; omega
            obtain ⟨f, rfl⟩ : ∃ f', f = f' + 1 := ⟨f - 1, by omega⟩
            cases toks with
            | nil =>
              cases hh : headD (l.drop i) with
              | error e =>
                have he := headD_err hh
                have hne : (e != 0) = true := by simpa using he
                have hit2 : eachItems l = (([] : List (TokD × Nat))).map okI ++ [((zeroT, i), e)] := by
                  rw [hf, itemsF, hTi, if_neg (by omega), hh]
                rw [rscan_err he hit2]
                have htk := refToken_ev (γ := γ) b l i hil hl
                rw [hh] at htk
                simp only [rscanS, d1, ea, evS, tyS, Nat.reduceLT, Nat.reduceEqDiff, reduceCtorEq]
                (repeat' (first | (with_reducible refine And.intro ?_ ?_) | ((first | refine GuardK.intro_f (fun h => ?_) (fun h => ?_) | refine GuardK.intro_t (fun h => ?_) (fun h => ?_) | refine CondK.intro (fun h => ?_) (fun h => ?_) | refine PickK.intro (fun h => ?_) (fun h => ?_)) <;> simp only [h, ea, evS, tyS, Bool.not_true, Bool.not_false, Nat.reduceAdd, Nat.reduceSub, Nat.reduceMul, Nat.reduceLT, Nat.reduceLeDiff, Nat.reduceEqDiff, reduceCtorEq, List.reduceReplicate, Int.reduceToNat, Int.reduceLE, Int.reduceLT]) | (refine DrawK.intro (by kernel_rfl) (by kernel_rfl) ?_; simp only [ea, evS, tyS, Bool.not_true, Bool.not_false, Nat.reduceAdd, Nat.reduceSub, Nat.reduceMul, Nat.reduceLT, Nat.reduceLeDiff, Nat.reduceEqDiff, reduceCtorEq, List.reduceReplicate, Int.reduceToNat, Int.reduceLE, Int.reduceLT])))
                all_goals try (((try simp only [decide_eq_true_eq, decide_eq_false_iff_not, bne_iff_ne, ne_eq] at *) <;> (try omega)); done)
                refine CallK.intro b28 rfl (refBlank_ev _) ?_
                simp only [hb, ea, k35, d35, evS, tyS, Nat.reduceLT, Nat.reduceEqDiff, reduceCtorEq]
                (repeat' (first | (with_reducible refine And.intro ?_ ?_) | ((first | refine GuardK.intro_f (fun h => ?_) (fun h => ?_) | refine GuardK.intro_t (fun h => ?_) (fun h => ?_) | refine CondK.intro (fun h => ?_) (fun h => ?_) | refine PickK.intro (fun h => ?_) (fun h => ?_)) <;> simp only [h, ea, k35, d35, evS, tyS, Bool.not_true, Bool.not_false, Nat.reduceAdd, Nat.reduceSub, Nat.reduceMul, Nat.reduceLT, Nat.reduceLeDiff, Nat.reduceEqDiff, reduceCtorEq, List.reduceReplicate, Int.reduceToNat, Int.reduceLE, Int.reduceLT]) | (refine DrawK.intro (by kernel_rfl) (by kernel_rfl) ?_; simp only [ea, k35, d35, evS, tyS, Bool.not_true, Bool.not_false, Nat.reduceAdd, Nat.reduceSub, Nat.reduceMul, Nat.reduceLT, Nat.reduceLeDiff, Nat.reduceEqDiff, reduceCtorEq, List.reduceReplicate, Int.reduceToNat, Int.reduceLE, Int.reduceLT])))
                all_goals try (((try simp only [decide_eq_true_eq, decide_eq_false_iff_not, bne_iff_ne, ne_eq] at *) <;> (try omega)); done)
                refine CallK.intro b29 (by simp [treeL, treeA]) htk ?_
                simp only [resTP, errTok, tokA, f0, hne, listA, evS, tyS, Nat.reduceAdd, Nat.reduceLT, Nat.reduceLeDiff, Nat.reduceEqDiff, reduceCtorEq]
                all_goals first | done | rfl | trace_state
              | ok t =>
                have hsz := headD_size (by rw [List.length_drop]; omega) hh
                rw [List.length_drop] at hsz
                have hz : ((0 : Int) != 0) = false := by decide
                have ws : IntKind.i64.wrap ((i : Int) + (t.size : Int)) = ((i + t.size : Nat) : Int) := (i64w (by omega) (by omega)).trans (by omega)
                have hit2 : eachItems l = ((([] : List (TokD × Nat))) ++ [(t, i)]).map okI ++ itemsF f l (i + t.size) := by
                  rw [hf, itemsF, hTi, if_neg (by omega), hh, List.map_append]
                  simp [okI]
                have htk := refToken_ev (γ := γ) b l i hil hl
                rw [hh] at htk
                simp only [rscanS, d1, ea, evS, tyS, Nat.reduceLT, Nat.reduceEqDiff, reduceCtorEq]
                (repeat' (first | (with_reducible refine And.intro ?_ ?_) | ((first | refine GuardK.intro_f (fun h => ?_) (fun h => ?_) | refine GuardK.intro_t (fun h => ?_) (fun h => ?_) | refine CondK.intro (fun h => ?_) (fun h => ?_) | refine PickK.intro (fun h => ?_) (fun h => ?_)) <;> simp only [h, ea, evS, tyS, Bool.not_true, Bool.not_false, Nat.reduceAdd, Nat.reduceSub, Nat.reduceMul, Nat.reduceLT, Nat.reduceLeDiff, Nat.reduceEqDiff, reduceCtorEq, List.reduceReplicate, Int.reduceToNat, Int.reduceLE, Int.reduceLT]) | (refine DrawK.intro (by kernel_rfl) (by kernel_rfl) ?_; simp only [ea, evS, tyS, Bool.not_true, Bool.not_false, Nat.reduceAdd, Nat.reduceSub, Nat.reduceMul, Nat.reduceLT, Nat.reduceLeDiff, Nat.reduceEqDiff, reduceCtorEq, List.reduceReplicate, Int.reduceToNat, Int.reduceLE, Int.reduceLT])))
                all_goals try (((try simp only [decide_eq_true_eq, decide_eq_false_iff_not, bne_eq_false_iff_eq] at *) <;> (try omega)); done)
                refine CallK.intro b28 rfl (refBlank_ev _) ?_
                simp only [hb, ea, k35, d35, evS, tyS, Nat.reduceLT, Nat.reduceEqDiff, reduceCtorEq]
                (repeat' (first | (with_reducible refine And.intro ?_ ?_) | ((first | refine GuardK.intro_f (fun h => ?_) (fun h => ?_) | refine GuardK.intro_t (fun h => ?_) (fun h => ?_) | refine CondK.intro (fun h => ?_) (fun h => ?_) | refine PickK.intro (fun h => ?_) (fun h => ?_)) <;> simp only [h, ea, k35, d35, evS, tyS, Bool.not_true, Bool.not_false, Nat.reduceAdd, Nat.reduceSub, Nat.reduceMul, Nat.reduceLT, Nat.reduceLeDiff, Nat.reduceEqDiff, reduceCtorEq, List.reduceReplicate, Int.reduceToNat, Int.reduceLE, Int.reduceLT]) | (refine DrawK.intro (by kernel_rfl) (by kernel_rfl) ?_; simp only [ea, k35, d35, evS, tyS, Bool.not_true, Bool.not_false, Nat.reduceAdd, Nat.reduceSub, Nat.reduceMul, Nat.reduceLT, Nat.reduceLeDiff, Nat.reduceEqDiff, reduceCtorEq, List.reduceReplicate, Int.reduceToNat, Int.reduceLE, Int.reduceLT])))
                all_goals try (((try simp only [decide_eq_true_eq, decide_eq_false_iff_not, bne_eq_false_iff_eq] at *) <;> (try omega)); done)
                refine CallK.intro b29 (by simp [treeL, treeA]) htk ?_
                simp only [resTP, okTok, TokD.av, tokA, hz, ws, evS, tyS, Nat.reduceAdd, Nat.reduceLT, Nat.reduceLeDiff, Nat.reduceEqDiff, reduceCtorEq, List.reduceReplicate]
                (repeat' (first | (with_reducible refine And.intro ?_ ?_) | ((first | refine GuardK.intro_f (fun h => ?_) (fun h => ?_) | refine GuardK.intro_t (fun h => ?_) (fun h => ?_) | refine CondK.intro (fun h => ?_) (fun h => ?_) | refine PickK.intro (fun h => ?_) (fun h => ?_)) <;> simp only [h, hz, ws, evS, tyS, Bool.not_true, Bool.not_false, Nat.reduceAdd, Nat.reduceSub, Nat.reduceMul, Nat.reduceLT, Nat.reduceLeDiff, Nat.reduceEqDiff, reduceCtorEq, List.reduceReplicate, Int.reduceToNat, Int.reduceLE, Int.reduceLT]) | (refine DrawK.intro (by kernel_rfl) (by kernel_rfl) ?_; simp only [hz, ws, evS, tyS, Bool.not_true, Bool.not_false, Nat.reduceAdd, Nat.reduceSub, Nat.reduceMul, Nat.reduceLT, Nat.reduceLeDiff, Nat.reduceEqDiff, reduceCtorEq, List.reduceReplicate, Int.reduceToNat, Int.reduceLE, Int.reduceLT])))
                refine loopC.intro (i + t.size, [(t, i)]) ⟨by simp only; omega, f, by simp only; exact hit2, by simp only; omega⟩ ?_ (by simp only; omega)
                simp only [rscanS, tokCells, tvals, listCells, evS, Nat.reduceAdd, Nat.reduceEqDiff, reduceCtorEq]
                (repeat' (first | (with_reducible refine And.intro ?_ ?_) | ((first | refine GuardK.intro_f (fun h => ?_) (fun h => ?_) | refine GuardK.intro_t (fun h => ?_) (fun h => ?_) | refine CondK.intro (fun h => ?_) (fun h => ?_) | refine PickK.intro (fun h => ?_) (fun h => ?_)) <;> simp only [h, evS, tyS, Bool.not_true, Bool.not_false, Nat.reduceAdd, Nat.reduceSub, Nat.reduceMul, Nat.reduceLT, Nat.reduceLeDiff, Nat.reduceEqDiff, reduceCtorEq, List.reduceReplicate, Int.reduceToNat, Int.reduceLE, Int.reduceLT]) | (refine DrawK.intro (by kernel_rfl) (by kernel_rfl) ?_; simp only [evS, tyS, Bool.not_true, Bool.not_false, Nat.reduceAdd, Nat.reduceSub, Nat.reduceMul, Nat.reduceLT, Nat.reduceLeDiff, Nat.reduceEqDiff, reduceCtorEq, List.reduceReplicate, Int.reduceToNat, Int.reduceLE, Int.reduceLT])))
                all_goals first | rfl | exact .inl rfl | trace_state
            | cons y T =>
              cases hh : headD (l.drop i) with
              | error e =>
                have he := headD_err hh
                have hne : (e != 0) = true := by simpa using he
                have hit2 : eachItems l = (y :: T).map okI ++ [((zeroT, i), e)] := by
                  rw [hf, itemsF, hTi, if_neg (by omega), hh]
                rw [rscan_err he hit2]
                have htk := refToken_ev (γ := γ) b l i hil hl
                rw [hh] at htk
                simp only [rscanS, d1, ea, evS, tyS, Nat.reduceLT, Nat.reduceEqDiff, reduceCtorEq]
                (repeat' (first | (with_reducible refine And.intro ?_ ?_) | ((first | refine GuardK.intro_f (fun h => ?_) (fun h => ?_) | refine GuardK.intro_t (fun h => ?_) (fun h => ?_) | refine CondK.intro (fun h => ?_) (fun h => ?_) | refine PickK.intro (fun h => ?_) (fun h => ?_)) <;> simp only [h, ea, evS, tyS, Bool.not_true, Bool.not_false, Nat.reduceAdd, Nat.reduceSub, Nat.reduceMul, Nat.reduceLT, Nat.reduceLeDiff, Nat.reduceEqDiff, reduceCtorEq, List.reduceReplicate, Int.reduceToNat, Int.reduceLE, Int.reduceLT]) | (refine DrawK.intro (by kernel_rfl) (by kernel_rfl) ?_; simp only [ea, evS, tyS, Bool.not_true, Bool.not_false, Nat.reduceAdd, Nat.reduceSub, Nat.reduceMul, Nat.reduceLT, Nat.reduceLeDiff, Nat.reduceEqDiff, reduceCtorEq, List.reduceReplicate, Int.reduceToNat, Int.reduceLE, Int.reduceLT])))
                all_goals try (((try simp only [decide_eq_true_eq, decide_eq_false_iff_not, bne_iff_ne, ne_eq] at *) <;> (try omega)); done)
                refine CallK.intro b28 rfl (refBlank_ev _) ?_
                simp only [hb, ea, k35, d35, evS, tyS, Nat.reduceLT, Nat.reduceEqDiff, reduceCtorEq]
                (repeat' (first | (with_reducible refine And.intro ?_ ?_) | ((first | refine GuardK.intro_f (fun h => ?_) (fun h => ?_) | refine GuardK.intro_t (fun h => ?_) (fun h => ?_) | refine CondK.intro (fun h => ?_) (fun h => ?_) | refine PickK.intro (fun h => ?_) (fun h => ?_)) <;> simp only [h, ea, k35, d35, evS, tyS, Bool.not_true, Bool.not_false, Nat.reduceAdd, Nat.reduceSub, Nat.reduceMul, Nat.reduceLT, Nat.reduceLeDiff, Nat.reduceEqDiff, reduceCtorEq, List.reduceReplicate, Int.reduceToNat, Int.reduceLE, Int.reduceLT]) | (refine DrawK.intro (by kernel_rfl) (by kernel_rfl) ?_; simp only [ea, k35, d35, evS, tyS, Bool.not_true, Bool.not_false, Nat.reduceAdd, Nat.reduceSub, Nat.reduceMul, Nat.reduceLT, Nat.reduceLeDiff, Nat.reduceEqDiff, reduceCtorEq, List.reduceReplicate, Int.reduceToNat, Int.reduceLE, Int.reduceLT])))
                all_goals try (((try simp only [decide_eq_true_eq, decide_eq_false_iff_not, bne_iff_ne, ne_eq] at *) <;> (try omega)); done)
                refine CallK.intro b29 (by simp [treeL, treeA]) htk ?_
                simp only [resTP, errTok, tokA, f0, hne, listA, evS, tyS, Nat.reduceAdd, Nat.reduceLT, Nat.reduceLeDiff, Nat.reduceEqDiff, reduceCtorEq]
                rw [fz]
                exact .inr ⟨rfl, 2, ⟨T.length, 54, listCells (y :: T)⟩, listCells (y :: T), rfl, rfl, Nat.le_refl _, .inl rfl, List.prefix_rfl, fzL_list _⟩
              | ok t =>
                have hsz := headD_size (by rw [List.length_drop]; omega) hh
                rw [List.length_drop] at hsz
                have hz : ((0 : Int) != 0) = false := by decide
                have ws : IntKind.i64.wrap ((i : Int) + (t.size : Int)) = ((i + t.size : Nat) : Int) := (i64w (by omega) (by omega)).trans (by omega)
                have hit2 : eachItems l = ((y :: T) ++ [(t, i)]).map okI ++ itemsF f l (i + t.size) := by
                  rw [hf, itemsF, hTi, if_neg (by omega), hh, List.map_append]
                  simp [okI]
                have htk := refToken_ev (γ := γ) b l i hil hl
                rw [hh] at htk
                simp only [rscanS, d1, ea, evS, tyS, Nat.reduceLT, Nat.reduceEqDiff, reduceCtorEq]
                (repeat' (first | (with_reducible refine And.intro ?_ ?_) | ((first | refine GuardK.intro_f (fun h => ?_) (fun h => ?_) | refine GuardK.intro_t (fun h => ?_) (fun h => ?_) | refine CondK.intro (fun h => ?_) (fun h => ?_) | refine PickK.intro (fun h => ?_) (fun h => ?_)) <;> simp only [h, ea, evS, tyS, Bool.not_true, Bool.not_false, Nat.reduceAdd, Nat.reduceSub, Nat.reduceMul, Nat.reduceLT, Nat.reduceLeDiff, Nat.reduceEqDiff, reduceCtorEq, List.reduceReplicate, Int.reduceToNat, Int.reduceLE, Int.reduceLT]) | (refine DrawK.intro (by kernel_rfl) (by kernel_rfl) ?_; simp only [ea, evS, tyS, Bool.not_true, Bool.not_false, Nat.reduceAdd, Nat.reduceSub, Nat.reduceMul, Nat.reduceLT, Nat.reduceLeDiff, Nat.reduceEqDiff, reduceCtorEq, List.reduceReplicate, Int.reduceToNat, Int.reduceLE, Int.reduceLT])))
                all_goals try (((try simp only [decide_eq_true_eq, decide_eq_false_iff_not, bne_eq_false_iff_eq] at *) <;> (try omega)); done)
                refine CallK.intro b28 rfl (refBlank_ev _) ?_
                simp only [hb, ea, k35, d35, evS, tyS, Nat.reduceLT, Nat.reduceEqDiff, reduceCtorEq]
                (repeat' (first | (with_reducible refine And.intro ?_ ?_) | ((first | refine GuardK.intro_f (fun h => ?_) (fun h => ?_) | refine GuardK.intro_t (fun h => ?_) (fun h => ?_) | refine CondK.intro (fun h => ?_) (fun h => ?_) | refine PickK.intro (fun h => ?_) (fun h => ?_)) <;> simp only [h, ea, k35, d35, evS, tyS, Bool.not_true, Bool.not_false, Nat.reduceAdd, Nat.reduceSub, Nat.reduceMul, Nat.reduceLT, Nat.reduceLeDiff, Nat.reduceEqDiff, reduceCtorEq, List.reduceReplicate, Int.reduceToNat, Int.reduceLE, Int.reduceLT]) | (refine DrawK.intro (by kernel_rfl) (by kernel_rfl) ?_; simp only [ea, k35, d35, evS, tyS, Bool.not_true, Bool.not_false, Nat.reduceAdd, Nat.reduceSub, Nat.reduceMul, Nat.reduceLT, Nat.reduceLeDiff, Nat.reduceEqDiff, reduceCtorEq, List.reduceReplicate, Int.reduceToNat, Int.reduceLE, Int.reduceLT])))
                all_goals try (((try simp only [decide_eq_true_eq, decide_eq_false_iff_not, bne_eq_false_iff_eq] at *) <;> (try omega)); done)
                refine CallK.intro b29 (by simp [treeL, treeA]) htk ?_
                have hcnt : T.length + 2 ≤ 32769 := by
                  have h1 := items_len l
                  rw [hit2] at h1
                  simp at h1; omega
                have hlc := listCells_len (y :: T)
                have htk6 : (listCells (y :: T)).take ((T.length + 1) * 6) = listCells (y :: T) := List.take_of_length_le (by rw [hlc]; exact Nat.le_refl _)
                rw [List.length_cons] at hlc
                have hLC7 := okRefL_list 3 (y :: T)
                have hY7 : okRefL 3 (tokCells y) = true := okRefL_vs 3 _
                have happ := listCells_app (y :: T) (t, i)
                have hx6 : tokCells (t, i) = (tvals t i).map AV.v := rfl
                simp only [resTP, okTok, TokD.av, tokA, hz, ws, hlc, htk6, evS, tyS, Nat.reduceAdd, Nat.reduceLT, Nat.reduceLeDiff, Nat.reduceEqDiff, reduceCtorEq, List.reduceReplicate]
                (repeat' (first | (with_reducible refine And.intro ?_ ?_) | ((first | refine GuardK.intro_f (fun h => ?_) (fun h => ?_) | refine GuardK.intro_t (fun h => ?_) (fun h => ?_) | refine CondK.intro (fun h => ?_) (fun h => ?_) | refine PickK.intro (fun h => ?_) (fun h => ?_)) <;> simp only [h, hz, ws, hlc, htk6, evS, tyS, Bool.not_true, Bool.not_false, Nat.reduceAdd, Nat.reduceSub, Nat.reduceMul, Nat.reduceLT, Nat.reduceLeDiff, Nat.reduceEqDiff, reduceCtorEq, List.reduceReplicate, Int.reduceToNat, Int.reduceLE, Int.reduceLT]) | (refine DrawK.intro (by kernel_rfl) (by kernel_rfl) ?_; simp only [hz, ws, hlc, htk6, evS, tyS, Bool.not_true, Bool.not_false, Nat.reduceAdd, Nat.reduceSub, Nat.reduceMul, Nat.reduceLT, Nat.reduceLeDiff, Nat.reduceEqDiff, reduceCtorEq, List.reduceReplicate, Int.reduceToNat, Int.reduceLE, Int.reduceLT])))
                all_goals try omega
                refine loopC.intro (i + t.size, y :: (T ++ [(t, i)])) ⟨by simp only; omega, f, by simp only; exact hit2, by simp only; omega⟩ ?_ (by simp only; omega)
                rw [List.cons_append] at happ
                simp only [rscanS, happ, hx6, tvals, List.length_append, List.length_cons, List.length_nil, evS, Nat.reduceAdd, Nat.reduceEqDiff, reduceCtorEq]
                (repeat' (first | (with_reducible refine And.intro ?_ ?_) | ((first | refine GuardK.intro_f (fun h => ?_) (fun h => ?_) | refine GuardK.intro_t (fun h => ?_) (fun h => ?_) | refine CondK.intro (fun h => ?_) (fun h => ?_) | refine PickK.intro (fun h => ?_) (fun h => ?_)) <;> simp only [h, evS, tyS, Bool.not_true, Bool.not_false, Nat.reduceAdd, Nat.reduceSub, Nat.reduceMul, Nat.reduceLT, Nat.reduceLeDiff, Nat.reduceEqDiff, reduceCtorEq, List.reduceReplicate, Int.reduceToNat, Int.reduceLE, Int.reduceLT]) | (refine DrawK.intro (by kernel_rfl) (by kernel_rfl) ?_; simp only [evS, tyS, Bool.not_true, Bool.not_false, Nat.reduceAdd, Nat.reduceSub, Nat.reduceMul, Nat.reduceLT, Nat.reduceLeDiff, Nat.reduceEqDiff, reduceCtorEq, List.reduceReplicate, Int.reduceToNat, Int.reduceLE, Int.reduceLT])))
                all_goals first | rfl | exact .inl rfl | (refine .inr ⟨?_, ?_⟩ <;> simp [okRefL, okRefB, okRef, okRefL_app, hLC7, hY7]; done) | trace_state
      · have d1 : decide (i < l.length) = false := decide_eq_false hil
        have hT : l.length ≤ nextT l i := by have := nextT_ge l i; omega
        have hno : itemsF f l i = [] := by
          cases f with
          | zero => rfl
          | succ f => rw [itemsF, if_pos hT]
        rw [hno, List.append_nil] at hf
        rw [rscan_end hf]
        cases toks with
        | nil =>
          simp only [rscanS, d1, listA, evS, tyS, Nat.reduceLT, Nat.reduceEqDiff, reduceCtorEq]
          all_goals first | done | rfl | trace_state
        | cons y T =>
          simp only [rscanS, d1, listA, evS, tyS, Nat.reduceLT, Nat.reduceEqDiff, reduceCtorEq]
          rw [fz]
          exact .inr ⟨rfl, 2, ⟨T.length, 54, listCells (y :: T)⟩, listCells (y :: T), rfl, rfl, Nat.le_refl _, .inl rfl, List.prefix_rfl, fzL_list _⟩
end Go.Proofs.YtlobiioioicmhaaGreatDoor
