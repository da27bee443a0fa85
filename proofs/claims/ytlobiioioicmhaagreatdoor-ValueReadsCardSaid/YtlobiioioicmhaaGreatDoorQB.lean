/- Contracts of the functions that the law reaches. -/
import Derived.Test.YtlobiioioicmhaaGreatDoorQ9
/- The document's reader of a text's text, walked. -/
namespace Go.Proofs.YtlobiioioicmhaaGreatDoor
set_option linter.all false
open Go Go.Ev
set_option maxRecDepth 20000
variable {γ : List (Nat × AV)}
theorem c105 : bodyT Tryz.prog 105 := ⟨_, Tryz.func105, by kernel_rfl, by kernel_rfl⟩
def runR : Option (List UInt8) → AV
  | none => .tup [.v (.string ⟨#[]⟩), .v (.bool false)]
  | some o => .tup [.v (.string ⟨o.toArray⟩), .v (.bool (decide (o.length ≤ 256)))]
def runS (γ : List (Nat × AV)) (l : List UInt8) : Nat × List UInt8 → St
  | (i, []) => ⟨⟨107, [(0, .v (.string ⟨l.toArray⟩)), (5, .v (.int .i64 i)), (4, .v (.slice none 0 0))], γ⟩, []⟩
  | (i, a :: A) => ⟨⟨107, [(0, .v (.string ⟨l.toArray⟩)), (5, .v (.int .i64 i)), (4, .own 1 A.length (A.length + 1))], γ⟩, [⟨0, 5, [byteC a]⟩, ⟨A.length, 5, (a :: A).map byteC⟩]⟩
theorem runS_nil (l : List UInt8) (i : Nat) : runS γ l (i, []) = ⟨⟨107, [(0, .v (.string ⟨l.toArray⟩)), (5, .v (.int .i64 i)), (4, .v (.slice none 0 0))], γ⟩, []⟩ := rfl
theorem runS_cons (l : List UInt8) (i : Nat) (a : UInt8) (A : List UInt8) : runS γ l (i, a :: A) = ⟨⟨107, [(0, .v (.string ⟨l.toArray⟩)), (5, .v (.int .i64 i)), (4, .own 1 A.length (A.length + 1))], γ⟩, [⟨0, 5, [byteC a]⟩, ⟨A.length, 5, (a :: A).map byteC⟩]⟩ := rfl
theorem run_weak_nil (l : List UInt8) (i : Nat) (x : UInt8) (L : List (Nat × AV)) (h0 : Go.Ev.look L 0 = .v (.string ⟨l.toArray⟩)) (h5 : Go.Ev.look L 5 = .v (.int .i64 i)) (h4 : Go.Ev.look L 4 = .own 1 0 1) :
    St.weak ⟨⟨107, L, γ⟩, [⟨0, 5, [.v (.int .u8 (x.toNat : Int))]⟩, ⟨0, 5, [.v (.int .u8 (x.toNat : Int))]⟩]⟩ (runS γ l (i, [] ++ [x])) := ⟨rfl, rfl, ⟨h0, h5, h4, trivial⟩, .inl rfl⟩
theorem run_weak_cons (l : List UInt8) (i : Nat) (a : UInt8) (A : List UInt8) (x : UInt8) (lit : ABlk) (L : List (Nat × AV)) (h0 : Go.Ev.look L 0 = .v (.string ⟨l.toArray⟩)) (h5 : Go.Ev.look L 5 = .v (.int .i64 i)) (h4 : Go.Ev.look L 4 = .own 1 (A.length + 1) (A.length + 1 + 1)) :
    St.weak ⟨⟨107, L, γ⟩, [⟨0, 5, [byteC a]⟩, ⟨A.length + 1, 5, byteC a :: (A.map byteC ++ [.v (.int .u8 (x.toNat : Int))])⟩, lit]⟩ (runS γ l (i, a :: A ++ [x])) := by
  have e : a :: A ++ [x] = a :: (A ++ [x]) := rfl
  rw [e, runS_cons]
  refine ⟨rfl, rfl, ⟨h0, h5, ?_, trivial⟩, .inr ⟨?_, ?_, ?_⟩⟩
  · rw [List.length_append]; exact h4
  · simp [byteC]
  · simp [okRefL, okRef]
  · simp [okRefB, okRefL, okRef, okRefL_append, okRefL_map, byteC]
theorem rest_at {l : List UInt8} {i k : Nat} (h : i + k < l.length - 1) : ((l.take (l.length - 1)).drop i).getD k 0 = l.getD (i + k) 0 := by
  simp only [List.getD_eq_getElem?_getD, List.getElem?_drop, List.getElem?_take]
  rw [if_pos h]
set_option maxHeartbeats 8000000 in
theorem runquoted_ev (l : List UInt8) (h2 : 2 ≤ l.length) (hl : l.length ≤ 1026) : Ev Tryz.prog γ 105 [.v (.string ⟨l.toArray⟩)] (runR (runN (inner l).length (inner l) [])) := by
  refine Ev.of Tryz.func105 rfl ?_
  have ea : ∀ (l : List UInt8) j, (l.getD j 0).toNat = atL l j := fun _ _ => rfl
  have w0 : IntKind.i64.wrap ((l.length : Int) - 1) = ((l.length - 1 : Nat) : Int) := by rw [i64w] <;> omega
  obtain ⟨R, hR⟩ : ∃ R : Nat → List UInt8, ∀ i, R i = (l.take (l.length - 1)).drop i := ⟨_, fun _ => rfl⟩
  have hin : inner l = R 1 := (hR 1).symm
  have hRl : ∀ i, (R i).length = l.length - 1 - i := fun i => by rw [hR, List.length_drop, List.length_take]; omega
  have hRd : ∀ i k, (R i).drop k = R (i + k) := fun i k => by rw [hR, hR, List.drop_drop]
  have hRa : ∀ i k, i + k < l.length - 1 → (R i).getD k 0 = l.getD (i + k) 0 := fun i k h => by rw [hR]; exact rest_at h
  have hRA : ∀ i k, i + k < l.length - 1 → atL (R i) k = atL l (i + k) := fun i k h => by unfold atL; rw [hRa i k h]
  rw [hin]
  obtain ⟨N, hN⟩ : ∃ N, N = (R 1).length := ⟨_, rfl⟩
  rw [← hN]
  simp only [Tryz.f105, evS, tyS, Bool.not_true, Bool.not_false, Nat.reduceAdd, Nat.reduceSub, Nat.reduceMul, Nat.reduceLT, Nat.reduceLeDiff, Nat.reduceEqDiff, reduceCtorEq, List.reduceReplicate, Int.reduceToNat, Int.reduceLE, Int.reduceLT]
  refine LoopK.intro (runS γ l) (fun x => 1 ≤ x.1 ∧ x.1 ≤ l.length - 1 ∧ x.2.length ≤ 257 ∧ ∃ f, (R x.1).length ≤ f ∧ runN f (R x.1) x.2 = runN N (R 1) []) (fun x => l.length - x.1) (1, []) ?_ ⟨Nat.le_refl _, by show 1 ≤ l.length - 1; omega, by show 0 ≤ 257; omega, N, by rw [← hN]; exact Nat.le_refl _, rfl⟩ ?_
  · rw [runS_nil]
    exact ⟨rfl, rfl, ⟨rfl, rfl, rfl, trivial⟩, .inl rfl⟩
  · rintro ⟨i, acc⟩ ⟨hi1, hi2, hac, f, hf, hs⟩
    simp only at hi1 hi2 hac hf hs
    by_cases hend : i = l.length - 1 ∨ 256 < acc.length
    · have hs' : runN N (R 1) [] = some acc := by
        rw [← hs]
        cases f with
        | zero => rfl
        | succ f => rw [runN_succ, if_pos]; rw [hRl]; omega
      rw [hs']
      by_cases hie : i = l.length - 1
      · have d1 : decide ((i : Int) < ((l.length - 1 : Nat) : Int)) = false := decide_eq_false (by omega)
        have d2 : decide (i < l.length - 1) = false := decide_eq_false (by omega)
        cases acc with
        | nil =>
          rw [runS_nil]
          simp only [w0, d1, d2, runR, evS, tyS, Bool.not_true, Bool.not_false, Nat.reduceAdd, Nat.reduceSub, Nat.reduceMul, Nat.reduceLT, Nat.reduceLeDiff, Nat.reduceEqDiff, reduceCtorEq, List.reduceReplicate, Int.reduceToNat, Int.reduceLE, Int.reduceLT]
          all_goals try (((try simp only [decide_eq_true_eq, decide_eq_false_iff_not, beq_iff_eq, bne_iff_ne, ne_eq, beq_eq_false_iff_ne, bne_eq_false_iff_eq] at *) <;> (try omega)); done)
          all_goals first | done | rfl | trace_state
        | cons a A =>
          have e3 := strOf_own a A
          have e4 : strOf (byteC a :: List.map byteC A) = some (.v (.string ⟨(a :: A).toArray⟩)) := strOf_map (a :: A)
          have e5 : decide ((A.length : Int) + 1 ≤ 256) = decide (A.length + 1 ≤ 256) := by
            by_cases h : A.length + 1 ≤ 256
            · rw [decide_eq_true h, decide_eq_true (by omega)]
            · rw [decide_eq_false h, decide_eq_false (by omega)]
          rw [runS_cons]
          simp only [w0, d1, d2, runR, e4, e5, List.length_cons, evS, tyS, Bool.not_true, Bool.not_false, Nat.reduceAdd, Nat.reduceSub, Nat.reduceMul, Nat.reduceLT, Nat.reduceLeDiff, Nat.reduceEqDiff, reduceCtorEq, List.reduceReplicate, Int.reduceToNat, Int.reduceLE, Int.reduceLT]
          (repeat' (first | (with_reducible refine And.intro ?_ ?_) | ((first | refine GuardK.intro_f (fun h => ?_) (fun h => ?_) | refine GuardK.intro_t (fun h => ?_) (fun h => ?_) | refine CondK.intro (fun h => ?_) (fun h => ?_) | refine PickK.intro (fun h => ?_) (fun h => ?_)) <;> simp only [h, w0, d1, d2, runR, e4, e5, List.length_cons, evS, tyS, Bool.not_true, Bool.not_false, Nat.reduceAdd, Nat.reduceSub, Nat.reduceMul, Nat.reduceLT, Nat.reduceLeDiff, Nat.reduceEqDiff, reduceCtorEq, List.reduceReplicate, Int.reduceToNat, Int.reduceLE, Int.reduceLT]) | (refine DrawK.intro (by kernel_rfl) (by kernel_rfl) ?_; simp only [w0, d1, d2, runR, e4, e5, List.length_cons, evS, tyS, Bool.not_true, Bool.not_false, Nat.reduceAdd, Nat.reduceSub, Nat.reduceMul, Nat.reduceLT, Nat.reduceLeDiff, Nat.reduceEqDiff, reduceCtorEq, List.reduceReplicate, Int.reduceToNat, Int.reduceLE, Int.reduceLT])))
          all_goals try (((try simp only [decide_eq_true_eq, decide_eq_false_iff_not, beq_iff_eq, bne_iff_ne, ne_eq, beq_eq_false_iff_ne, bne_eq_false_iff_eq] at *) <;> (try omega)); done)
          all_goals (refine congrArg (fun b => AV.v (Value.bool b)) ?_)
          all_goals (by_cases h : A.length ≤ 255)
          all_goals first | (rw [decide_eq_true h, decide_eq_true (by omega)]; done) | (rw [decide_eq_false h, decide_eq_false (by omega)]; done)
      · have hlong : 256 < acc.length := by omega
        have d1 : decide ((i : Int) < ((l.length - 1 : Nat) : Int)) = true := decide_eq_true (by omega)
        have d2 : decide (i < l.length - 1) = true := decide_eq_true (by omega)
        cases acc with
        | nil => simp at hlong
        | cons a A =>
          simp only [List.length_cons] at hlong
          have e3 := strOf_own a A
          have e4 : strOf (byteC a :: List.map byteC A) = some (.v (.string ⟨(a :: A).toArray⟩)) := strOf_map (a :: A)
          have e5 : decide ((A.length : Int) + 1 ≤ 256) = false := decide_eq_false (by omega)
          have e6 : decide (A.length + 1 ≤ 256) = false := decide_eq_false (by omega)
          have e7 : decide (((A.length + 1 : Nat) : Int) ≤ 256) = false := decide_eq_false (by omega)
          have e8 : decide (A.length ≤ 255) = false := decide_eq_false (by omega)
          rw [runS_cons]
          simp only [w0, d1, d2, runR, e4, e5, e6, e7, e8, List.length_cons, evS, tyS, Bool.not_true, Bool.not_false, Nat.reduceAdd, Nat.reduceSub, Nat.reduceMul, Nat.reduceLT, Nat.reduceLeDiff, Nat.reduceEqDiff, reduceCtorEq, List.reduceReplicate, Int.reduceToNat, Int.reduceLE, Int.reduceLT]
          all_goals try (((try simp only [decide_eq_true_eq, decide_eq_false_iff_not, beq_iff_eq, bne_iff_ne, ne_eq, beq_eq_false_iff_ne, bne_eq_false_iff_eq] at *) <;> (try omega)); done)
          all_goals first | done | rfl | trace_state
    · have hilt : i < l.length - 1 := by omega
      have hlong : ¬ 256 < acc.length := by omega
      obtain ⟨f, rfl⟩ : ∃ f', f = f' + 1 := ⟨f - 1, by have := hRl i; omega⟩
      rw [runN_succ, if_neg (by rw [hRl]; omega)] at hs
      rw [hRA i 0 (by omega)] at hs
      simp only [Nat.add_zero] at hs
      have d1 : decide ((i : Int) < ((l.length - 1 : Nat) : Int)) = true := decide_eq_true (by omega)
      have d2 : decide (i < l.length - 1) = true := decide_eq_true hilt
      have w1 : IntKind.i64.wrap ((i : Int) + 1) = ((i + 1 : Nat) : Int) := by rw [i64w] <;> omega
      have w2 : IntKind.i64.wrap ((i : Int) + 2) = ((i + 2 : Nat) : Int) := by rw [i64w] <;> omega
      have w3 : IntKind.i64.wrap ((i : Int) + 3) = ((i + 3 : Nat) : Int) := by rw [i64w] <;> omega
      have w11 : IntKind.i64.wrap (((i + 1 : Nat) : Int) + 1) = ((i + 2 : Nat) : Int) := (i64w (by omega) (by omega)).trans (by omega)
      have w31 : IntKind.i64.wrap (((i + 3 : Nat) : Int) + 1) = ((i + 4 : Nat) : Int) := (i64w (by omega) (by omega)).trans (by omega)
      have grown : ∀ (k : Nat) (x : UInt8) (s2 : St), 1 ≤ k → i + k ≤ l.length - 1 → runN f (R (i + k)) (acc ++ [x]) = runN N (R 1) [] → s2.weak (runS γ l (i + k, acc ++ [x])) →
          loopC (RR (runS γ l) (fun x => 1 ≤ x.1 ∧ x.1 ≤ l.length - 1 ∧ x.2.length ≤ 257 ∧ ∃ f, (R x.1).length ≤ f ∧ runN f (R x.1) x.2 = runN N (R 1) []) (fun x => l.length - x.1)) (l.length - i) s2 := fun k x s2 g1 g2 g3 g4 =>
        loopC.intro (i + k, acc ++ [x]) ⟨by show 1 ≤ i + k; omega, g2, by show (acc ++ [x]).length ≤ 257; rw [List.length_append]; simp only [List.length_cons, List.length_nil]; omega, f, by show (R (i + k)).length ≤ f; have a := hRl i; have b := hRl (i + k); omega, g3⟩ g4 (by show l.length - (i + k) < l.length - i; omega)
      by_cases h92 : atL l i = 92
      · have z1 : ((atL l i : Int) == 92) = true := by rw [h92]; rfl
        by_cases hx : i + 1 < l.length - 1 ∧ atL l (i + 1) = 120
        · have c1 : decide (((i + 1 : Nat) : Int) < ((l.length - 1 : Nat) : Int)) = true := decide_eq_true (by omega)
          have c2 : decide (i + 1 < l.length - 1) = true := decide_eq_true hx.1
          have z2 : ((atL l (i + 1) : Int) == 120) = true := by rw [hx.2]; rfl
          rw [if_pos ⟨h92, by rw [hRl]; omega, by rw [hRA i 1 hx.1]; exact hx.2⟩] at hs
          by_cases h3 : l.length - 1 ≤ i + 3
          · have q1 : decide (((l.length - 1 : Nat) : Int) ≤ ((i + 3 : Nat) : Int)) = true := decide_eq_true (by omega)
            have q2 : decide (l.length - 1 ≤ i + 3) = true := decide_eq_true h3
            rw [if_pos (.inl (by rw [hRl]; omega))] at hs
            have hno : runR (runN N (R 1) []) = .tup [.v (.string ⟨#[]⟩), .v (.bool false)] := by rw [← hs]; rfl
            cases acc with
            | nil =>
              have n1 : decide ((0 : Int) ≤ 256) = true := by decide
              rw [hno, runS_nil]
              simp only [w0, ea, d1, d2, w1, w2, w3, z1, z2, c1, c2, q1, q2, n1, evS, tyS, Bool.not_true, Bool.not_false, Nat.reduceAdd, Nat.reduceSub, Nat.reduceMul, Nat.reduceLT, Nat.reduceLeDiff, Nat.reduceEqDiff, reduceCtorEq, List.reduceReplicate, Int.reduceToNat, Int.reduceLE, Int.reduceLT]
              (repeat' (first | (with_reducible refine And.intro ?_ ?_) | ((first | refine GuardK.intro_f (fun h => ?_) (fun h => ?_) | refine GuardK.intro_t (fun h => ?_) (fun h => ?_) | refine CondK.intro (fun h => ?_) (fun h => ?_) | refine PickK.intro (fun h => ?_) (fun h => ?_)) <;> simp only [h, w0, ea, d1, d2, w1, w2, w3, z1, z2, c1, c2, q1, q2, n1, evS, tyS, Bool.not_true, Bool.not_false, Nat.reduceAdd, Nat.reduceSub, Nat.reduceMul, Nat.reduceLT, Nat.reduceLeDiff, Nat.reduceEqDiff, reduceCtorEq, List.reduceReplicate, Int.reduceToNat, Int.reduceLE, Int.reduceLT]) | (refine DrawK.intro (by kernel_rfl) (by kernel_rfl) ?_; simp only [w0, ea, d1, d2, w1, w2, w3, z1, z2, c1, c2, q1, q2, n1, evS, tyS, Bool.not_true, Bool.not_false, Nat.reduceAdd, Nat.reduceSub, Nat.reduceMul, Nat.reduceLT, Nat.reduceLeDiff, Nat.reduceEqDiff, reduceCtorEq, List.reduceReplicate, Int.reduceToNat, Int.reduceLE, Int.reduceLT])))
              all_goals try (((try simp only [decide_eq_true_eq, decide_eq_false_iff_not, beq_iff_eq, bne_iff_ne, ne_eq, beq_eq_false_iff_ne, bne_eq_false_iff_eq] at *) <;> (try omega)); done)
              all_goals first | done | rfl | trace_state
            | cons a A =>
              simp only [List.length_cons] at hac hlong
              have m1 : decide ((A.length : Int) + 1 ≤ 256) = true := decide_eq_true (by omega)
              have m2 : decide (A.length + 1 ≤ 256) = true := decide_eq_true (by omega)
              have m3 : decide (((A.length + 1 : Nat) : Int) ≤ 256) = true := decide_eq_true (by omega)
              have m4 : decide (A.length ≤ 255) = true := decide_eq_true (by omega)
              rw [hno, runS_cons]
              simp only [w0, ea, d1, d2, w1, w2, w3, z1, z2, c1, c2, q1, q2, m1, m2, m3, m4, List.length_cons, evS, tyS, Bool.not_true, Bool.not_false, Nat.reduceAdd, Nat.reduceSub, Nat.reduceMul, Nat.reduceLT, Nat.reduceLeDiff, Nat.reduceEqDiff, reduceCtorEq, List.reduceReplicate, Int.reduceToNat, Int.reduceLE, Int.reduceLT]
              (repeat' (first | (with_reducible refine And.intro ?_ ?_) | ((first | refine GuardK.intro_f (fun h => ?_) (fun h => ?_) | refine GuardK.intro_t (fun h => ?_) (fun h => ?_) | refine CondK.intro (fun h => ?_) (fun h => ?_) | refine PickK.intro (fun h => ?_) (fun h => ?_)) <;> simp only [h, w0, ea, d1, d2, w1, w2, w3, z1, z2, c1, c2, q1, q2, m1, m2, m3, m4, List.length_cons, evS, tyS, Bool.not_true, Bool.not_false, Nat.reduceAdd, Nat.reduceSub, Nat.reduceMul, Nat.reduceLT, Nat.reduceLeDiff, Nat.reduceEqDiff, reduceCtorEq, List.reduceReplicate, Int.reduceToNat, Int.reduceLE, Int.reduceLT]) | (refine DrawK.intro (by kernel_rfl) (by kernel_rfl) ?_; simp only [w0, ea, d1, d2, w1, w2, w3, z1, z2, c1, c2, q1, q2, m1, m2, m3, m4, List.length_cons, evS, tyS, Bool.not_true, Bool.not_false, Nat.reduceAdd, Nat.reduceSub, Nat.reduceMul, Nat.reduceLT, Nat.reduceLeDiff, Nat.reduceEqDiff, reduceCtorEq, List.reduceReplicate, Int.reduceToNat, Int.reduceLE, Int.reduceLT])))
              all_goals try (((try simp only [decide_eq_true_eq, decide_eq_false_iff_not, beq_iff_eq, bne_iff_ne, ne_eq, beq_eq_false_iff_ne, bne_eq_false_iff_eq] at *) <;> (try omega)); done)
              all_goals first | done | rfl | trace_state
          · have q1 : decide (((l.length - 1 : Nat) : Int) ≤ ((i + 3 : Nat) : Int)) = false := decide_eq_false (by omega)
            have q2 : decide (l.length - 1 ≤ i + 3) = false := decide_eq_false h3
            have x2 := hexN_le (atL l (i + 2))
            have x3 := hexN_le (atL l (i + 3))
            have k2 : Ev Tryz.prog γ 176 [.v (.int .u8 (atL l (i + 2)))] (.v (.int .i64 (hexN (atL l (i + 2))))) := nibble_ev _ (l.getD (i + 2) 0).toNat_lt
            have k3 : Ev Tryz.prog γ 176 [.v (.int .u8 (atL l (i + 3)))] (.v (.int .i64 (hexN (atL l (i + 3))))) := nibble_ev _ (l.getD (i + 3) 0).toNat_lt
            rw [hRA i 2 (by omega), hRA i 3 (by omega)] at hs
            by_cases g2 : hexN (atL l (i + 2)) < 0
            · have q3 : decide (hexN (atL l (i + 2)) < 0) = true := decide_eq_true g2
              rw [if_pos (.inr (.inl g2))] at hs
              have hno : runR (runN N (R 1) []) = .tup [.v (.string ⟨#[]⟩), .v (.bool false)] := by rw [← hs]; rfl
              cases acc with
              | nil =>
                have n1 : decide ((0 : Int) ≤ 256) = true := by decide
                rw [hno, runS_nil]
                simp only [w0, ea, d1, d2, w1, w2, w3, z1, z2, c1, c2, q1, q2, q3, n1, evS, tyS, Bool.not_true, Bool.not_false, Nat.reduceAdd, Nat.reduceSub, Nat.reduceMul, Nat.reduceLT, Nat.reduceLeDiff, Nat.reduceEqDiff, reduceCtorEq, List.reduceReplicate, Int.reduceToNat, Int.reduceLE, Int.reduceLT]
                (repeat' (first | (with_reducible refine And.intro ?_ ?_) | ((first | refine GuardK.intro_f (fun h => ?_) (fun h => ?_) | refine GuardK.intro_t (fun h => ?_) (fun h => ?_) | refine CondK.intro (fun h => ?_) (fun h => ?_) | refine PickK.intro (fun h => ?_) (fun h => ?_)) <;> simp only [h, w0, ea, d1, d2, w1, w2, w3, z1, z2, c1, c2, q1, q2, q3, n1, evS, tyS, Bool.not_true, Bool.not_false, Nat.reduceAdd, Nat.reduceSub, Nat.reduceMul, Nat.reduceLT, Nat.reduceLeDiff, Nat.reduceEqDiff, reduceCtorEq, List.reduceReplicate, Int.reduceToNat, Int.reduceLE, Int.reduceLT]) | (refine DrawK.intro (by kernel_rfl) (by kernel_rfl) ?_; simp only [w0, ea, d1, d2, w1, w2, w3, z1, z2, c1, c2, q1, q2, q3, n1, evS, tyS, Bool.not_true, Bool.not_false, Nat.reduceAdd, Nat.reduceSub, Nat.reduceMul, Nat.reduceLT, Nat.reduceLeDiff, Nat.reduceEqDiff, reduceCtorEq, List.reduceReplicate, Int.reduceToNat, Int.reduceLE, Int.reduceLT])))
                all_goals try (((try simp only [decide_eq_true_eq, decide_eq_false_iff_not, beq_iff_eq, bne_iff_ne, ne_eq, beq_eq_false_iff_ne, bne_eq_false_iff_eq] at *) <;> (try omega)); done)
                refine CallK.intro c176 rfl k2 ?_
                simp only [w0, ea, d1, d2, w1, w2, w3, z1, z2, c1, c2, q1, q2, q3, n1, evS, tyS, Bool.not_true, Bool.not_false, Nat.reduceAdd, Nat.reduceSub, Nat.reduceMul, Nat.reduceLT, Nat.reduceLeDiff, Nat.reduceEqDiff, reduceCtorEq, List.reduceReplicate, Int.reduceToNat, Int.reduceLE, Int.reduceLT]
                all_goals try (((try simp only [decide_eq_true_eq, decide_eq_false_iff_not, beq_iff_eq, bne_iff_ne, ne_eq, beq_eq_false_iff_ne, bne_eq_false_iff_eq] at *) <;> (try omega)); done)
                all_goals first | done | rfl | trace_state
              | cons a A =>
                simp only [List.length_cons] at hac hlong
                have m1 : decide ((A.length : Int) + 1 ≤ 256) = true := decide_eq_true (by omega)
                have m2 : decide (A.length + 1 ≤ 256) = true := decide_eq_true (by omega)
                have m3 : decide (((A.length + 1 : Nat) : Int) ≤ 256) = true := decide_eq_true (by omega)
                have m4 : decide (A.length ≤ 255) = true := decide_eq_true (by omega)
                rw [hno, runS_cons]
                simp only [w0, ea, d1, d2, w1, w2, w3, z1, z2, c1, c2, q1, q2, q3, m1, m2, m3, m4, List.length_cons, evS, tyS, Bool.not_true, Bool.not_false, Nat.reduceAdd, Nat.reduceSub, Nat.reduceMul, Nat.reduceLT, Nat.reduceLeDiff, Nat.reduceEqDiff, reduceCtorEq, List.reduceReplicate, Int.reduceToNat, Int.reduceLE, Int.reduceLT]
                (repeat' (first | (with_reducible refine And.intro ?_ ?_) | ((first | refine GuardK.intro_f (fun h => ?_) (fun h => ?_) | refine GuardK.intro_t (fun h => ?_) (fun h => ?_) | refine CondK.intro (fun h => ?_) (fun h => ?_) | refine PickK.intro (fun h => ?_) (fun h => ?_)) <;> simp only [h, w0, ea, d1, d2, w1, w2, w3, z1, z2, c1, c2, q1, q2, q3, m1, m2, m3, m4, List.length_cons, evS, tyS, Bool.not_true, Bool.not_false, Nat.reduceAdd, Nat.reduceSub, Nat.reduceMul, Nat.reduceLT, Nat.reduceLeDiff, Nat.reduceEqDiff, reduceCtorEq, List.reduceReplicate, Int.reduceToNat, Int.reduceLE, Int.reduceLT]) | (refine DrawK.intro (by kernel_rfl) (by kernel_rfl) ?_; simp only [w0, ea, d1, d2, w1, w2, w3, z1, z2, c1, c2, q1, q2, q3, m1, m2, m3, m4, List.length_cons, evS, tyS, Bool.not_true, Bool.not_false, Nat.reduceAdd, Nat.reduceSub, Nat.reduceMul, Nat.reduceLT, Nat.reduceLeDiff, Nat.reduceEqDiff, reduceCtorEq, List.reduceReplicate, Int.reduceToNat, Int.reduceLE, Int.reduceLT])))
                all_goals try (((try simp only [decide_eq_true_eq, decide_eq_false_iff_not, beq_iff_eq, bne_iff_ne, ne_eq, beq_eq_false_iff_ne, bne_eq_false_iff_eq] at *) <;> (try omega)); done)
                refine CallK.intro c176 rfl k2 ?_
                simp only [w0, ea, d1, d2, w1, w2, w3, z1, z2, c1, c2, q1, q2, q3, m1, m2, m3, m4, List.length_cons, evS, tyS, Bool.not_true, Bool.not_false, Nat.reduceAdd, Nat.reduceSub, Nat.reduceMul, Nat.reduceLT, Nat.reduceLeDiff, Nat.reduceEqDiff, reduceCtorEq, List.reduceReplicate, Int.reduceToNat, Int.reduceLE, Int.reduceLT]
                all_goals try (((try simp only [decide_eq_true_eq, decide_eq_false_iff_not, beq_iff_eq, bne_iff_ne, ne_eq, beq_eq_false_iff_ne, bne_eq_false_iff_eq] at *) <;> (try omega)); done)
                all_goals first | done | rfl | trace_state
            · have q3 : decide (hexN (atL l (i + 2)) < 0) = false := decide_eq_false g2
              by_cases g3 : hexN (atL l (i + 3)) < 0
              · have q4 : decide (hexN (atL l (i + 3)) < 0) = true := decide_eq_true g3
                rw [if_pos (.inr (.inr g3))] at hs
                have hno : runR (runN N (R 1) []) = .tup [.v (.string ⟨#[]⟩), .v (.bool false)] := by rw [← hs]; rfl
                cases acc with
                | nil =>
                  have n1 : decide ((0 : Int) ≤ 256) = true := by decide
                  rw [hno, runS_nil]
                  simp only [w0, ea, d1, d2, w1, w2, w3, z1, z2, c1, c2, q1, q2, q3, q4, n1, evS, tyS, Bool.not_true, Bool.not_false, Nat.reduceAdd, Nat.reduceSub, Nat.reduceMul, Nat.reduceLT, Nat.reduceLeDiff, Nat.reduceEqDiff, reduceCtorEq, List.reduceReplicate, Int.reduceToNat, Int.reduceLE, Int.reduceLT]
                  (repeat' (first | (with_reducible refine And.intro ?_ ?_) | ((first | refine GuardK.intro_f (fun h => ?_) (fun h => ?_) | refine GuardK.intro_t (fun h => ?_) (fun h => ?_) | refine CondK.intro (fun h => ?_) (fun h => ?_) | refine PickK.intro (fun h => ?_) (fun h => ?_)) <;> simp only [h, w0, ea, d1, d2, w1, w2, w3, z1, z2, c1, c2, q1, q2, q3, q4, n1, evS, tyS, Bool.not_true, Bool.not_false, Nat.reduceAdd, Nat.reduceSub, Nat.reduceMul, Nat.reduceLT, Nat.reduceLeDiff, Nat.reduceEqDiff, reduceCtorEq, List.reduceReplicate, Int.reduceToNat, Int.reduceLE, Int.reduceLT]) | (refine DrawK.intro (by kernel_rfl) (by kernel_rfl) ?_; simp only [w0, ea, d1, d2, w1, w2, w3, z1, z2, c1, c2, q1, q2, q3, q4, n1, evS, tyS, Bool.not_true, Bool.not_false, Nat.reduceAdd, Nat.reduceSub, Nat.reduceMul, Nat.reduceLT, Nat.reduceLeDiff, Nat.reduceEqDiff, reduceCtorEq, List.reduceReplicate, Int.reduceToNat, Int.reduceLE, Int.reduceLT])))
                  all_goals try (((try simp only [decide_eq_true_eq, decide_eq_false_iff_not, beq_iff_eq, bne_iff_ne, ne_eq, beq_eq_false_iff_ne, bne_eq_false_iff_eq] at *) <;> (try omega)); done)
                  refine CallK.intro c176 rfl k2 ?_
                  simp only [w0, ea, d1, d2, w1, w2, w3, z1, z2, c1, c2, q1, q2, q3, q4, n1, evS, tyS, Bool.not_true, Bool.not_false, Nat.reduceAdd, Nat.reduceSub, Nat.reduceMul, Nat.reduceLT, Nat.reduceLeDiff, Nat.reduceEqDiff, reduceCtorEq, List.reduceReplicate, Int.reduceToNat, Int.reduceLE, Int.reduceLT]
                  (repeat' (first | (with_reducible refine And.intro ?_ ?_) | ((first | refine GuardK.intro_f (fun h => ?_) (fun h => ?_) | refine GuardK.intro_t (fun h => ?_) (fun h => ?_) | refine CondK.intro (fun h => ?_) (fun h => ?_) | refine PickK.intro (fun h => ?_) (fun h => ?_)) <;> simp only [h, w0, ea, d1, d2, w1, w2, w3, z1, z2, c1, c2, q1, q2, q3, q4, n1, evS, tyS, Bool.not_true, Bool.not_false, Nat.reduceAdd, Nat.reduceSub, Nat.reduceMul, Nat.reduceLT, Nat.reduceLeDiff, Nat.reduceEqDiff, reduceCtorEq, List.reduceReplicate, Int.reduceToNat, Int.reduceLE, Int.reduceLT]) | (refine DrawK.intro (by kernel_rfl) (by kernel_rfl) ?_; simp only [w0, ea, d1, d2, w1, w2, w3, z1, z2, c1, c2, q1, q2, q3, q4, n1, evS, tyS, Bool.not_true, Bool.not_false, Nat.reduceAdd, Nat.reduceSub, Nat.reduceMul, Nat.reduceLT, Nat.reduceLeDiff, Nat.reduceEqDiff, reduceCtorEq, List.reduceReplicate, Int.reduceToNat, Int.reduceLE, Int.reduceLT])))
                  all_goals try (((try simp only [decide_eq_true_eq, decide_eq_false_iff_not, beq_iff_eq, bne_iff_ne, ne_eq, beq_eq_false_iff_ne, bne_eq_false_iff_eq] at *) <;> (try omega)); done)
                  refine CallK.intro c176 rfl k3 ?_
                  simp only [w0, ea, d1, d2, w1, w2, w3, z1, z2, c1, c2, q1, q2, q3, q4, n1, evS, tyS, Bool.not_true, Bool.not_false, Nat.reduceAdd, Nat.reduceSub, Nat.reduceMul, Nat.reduceLT, Nat.reduceLeDiff, Nat.reduceEqDiff, reduceCtorEq, List.reduceReplicate, Int.reduceToNat, Int.reduceLE, Int.reduceLT]
                  all_goals try (((try simp only [decide_eq_true_eq, decide_eq_false_iff_not, beq_iff_eq, bne_iff_ne, ne_eq, beq_eq_false_iff_ne, bne_eq_false_iff_eq] at *) <;> (try omega)); done)
                  all_goals first | done | rfl | trace_state
                | cons a A =>
                  simp only [List.length_cons] at hac hlong
                  have m1 : decide ((A.length : Int) + 1 ≤ 256) = true := decide_eq_true (by omega)
                  have m2 : decide (A.length + 1 ≤ 256) = true := decide_eq_true (by omega)
                  have m3 : decide (((A.length + 1 : Nat) : Int) ≤ 256) = true := decide_eq_true (by omega)
                  have m4 : decide (A.length ≤ 255) = true := decide_eq_true (by omega)
                  rw [hno, runS_cons]
                  simp only [w0, ea, d1, d2, w1, w2, w3, z1, z2, c1, c2, q1, q2, q3, q4, m1, m2, m3, m4, List.length_cons, evS, tyS, Bool.not_true, Bool.not_false, Nat.reduceAdd, Nat.reduceSub, Nat.reduceMul, Nat.reduceLT, Nat.reduceLeDiff, Nat.reduceEqDiff, reduceCtorEq, List.reduceReplicate, Int.reduceToNat, Int.reduceLE, Int.reduceLT]
                  (repeat' (first | (with_reducible refine And.intro ?_ ?_) | ((first | refine GuardK.intro_f (fun h => ?_) (fun h => ?_) | refine GuardK.intro_t (fun h => ?_) (fun h => ?_) | refine CondK.intro (fun h => ?_) (fun h => ?_) | refine PickK.intro (fun h => ?_) (fun h => ?_)) <;> simp only [h, w0, ea, d1, d2, w1, w2, w3, z1, z2, c1, c2, q1, q2, q3, q4, m1, m2, m3, m4, List.length_cons, evS, tyS, Bool.not_true, Bool.not_false, Nat.reduceAdd, Nat.reduceSub, Nat.reduceMul, Nat.reduceLT, Nat.reduceLeDiff, Nat.reduceEqDiff, reduceCtorEq, List.reduceReplicate, Int.reduceToNat, Int.reduceLE, Int.reduceLT]) | (refine DrawK.intro (by kernel_rfl) (by kernel_rfl) ?_; simp only [w0, ea, d1, d2, w1, w2, w3, z1, z2, c1, c2, q1, q2, q3, q4, m1, m2, m3, m4, List.length_cons, evS, tyS, Bool.not_true, Bool.not_false, Nat.reduceAdd, Nat.reduceSub, Nat.reduceMul, Nat.reduceLT, Nat.reduceLeDiff, Nat.reduceEqDiff, reduceCtorEq, List.reduceReplicate, Int.reduceToNat, Int.reduceLE, Int.reduceLT])))
                  all_goals try (((try simp only [decide_eq_true_eq, decide_eq_false_iff_not, beq_iff_eq, bne_iff_ne, ne_eq, beq_eq_false_iff_ne, bne_eq_false_iff_eq] at *) <;> (try omega)); done)
                  refine CallK.intro c176 rfl k2 ?_
                  simp only [w0, ea, d1, d2, w1, w2, w3, z1, z2, c1, c2, q1, q2, q3, q4, m1, m2, m3, m4, List.length_cons, evS, tyS, Bool.not_true, Bool.not_false, Nat.reduceAdd, Nat.reduceSub, Nat.reduceMul, Nat.reduceLT, Nat.reduceLeDiff, Nat.reduceEqDiff, reduceCtorEq, List.reduceReplicate, Int.reduceToNat, Int.reduceLE, Int.reduceLT]
                  (repeat' (first | (with_reducible refine And.intro ?_ ?_) | ((first | refine GuardK.intro_f (fun h => ?_) (fun h => ?_) | refine GuardK.intro_t (fun h => ?_) (fun h => ?_) | refine CondK.intro (fun h => ?_) (fun h => ?_) | refine PickK.intro (fun h => ?_) (fun h => ?_)) <;> simp only [h, w0, ea, d1, d2, w1, w2, w3, z1, z2, c1, c2, q1, q2, q3, q4, m1, m2, m3, m4, List.length_cons, evS, tyS, Bool.not_true, Bool.not_false, Nat.reduceAdd, Nat.reduceSub, Nat.reduceMul, Nat.reduceLT, Nat.reduceLeDiff, Nat.reduceEqDiff, reduceCtorEq, List.reduceReplicate, Int.reduceToNat, Int.reduceLE, Int.reduceLT]) | (refine DrawK.intro (by kernel_rfl) (by kernel_rfl) ?_; simp only [w0, ea, d1, d2, w1, w2, w3, z1, z2, c1, c2, q1, q2, q3, q4, m1, m2, m3, m4, List.length_cons, evS, tyS, Bool.not_true, Bool.not_false, Nat.reduceAdd, Nat.reduceSub, Nat.reduceMul, Nat.reduceLT, Nat.reduceLeDiff, Nat.reduceEqDiff, reduceCtorEq, List.reduceReplicate, Int.reduceToNat, Int.reduceLE, Int.reduceLT])))
                  all_goals try (((try simp only [decide_eq_true_eq, decide_eq_false_iff_not, beq_iff_eq, bne_iff_ne, ne_eq, beq_eq_false_iff_ne, bne_eq_false_iff_eq] at *) <;> (try omega)); done)
                  refine CallK.intro c176 rfl k3 ?_
                  simp only [w0, ea, d1, d2, w1, w2, w3, z1, z2, c1, c2, q1, q2, q3, q4, m1, m2, m3, m4, List.length_cons, evS, tyS, Bool.not_true, Bool.not_false, Nat.reduceAdd, Nat.reduceSub, Nat.reduceMul, Nat.reduceLT, Nat.reduceLeDiff, Nat.reduceEqDiff, reduceCtorEq, List.reduceReplicate, Int.reduceToNat, Int.reduceLE, Int.reduceLT]
                  all_goals try (((try simp only [decide_eq_true_eq, decide_eq_false_iff_not, beq_iff_eq, bne_iff_ne, ne_eq, beq_eq_false_iff_ne, bne_eq_false_iff_eq] at *) <;> (try omega)); done)
                  all_goals first | done | rfl | trace_state
              · have q4 : decide (hexN (atL l (i + 3)) < 0) = false := decide_eq_false g3
                rw [if_neg (by rw [hRl]; omega), hRd] at hs
                have e1 : IntKind.i64.wrap (hexN (atL l (i + 2)) * 16) = hexN (atL l (i + 2)) * 16 := i64w (by omega) (by omega)
                have e2 : IntKind.i64.wrap (hexN (atL l (i + 2)) * 16 + hexN (atL l (i + 3))) = hexN (atL l (i + 2)) * 16 + hexN (atL l (i + 3)) := i64w (by omega) (by omega)
                have e3 : IntKind.u8.wrap (hexN (atL l (i + 2)) * 16 + hexN (atL l (i + 3))) = (((UInt8.ofNat (hexN (atL l (i + 2)) * 16 + hexN (atL l (i + 3))).toNat).toNat : Nat) : Int) := by
                  rw [UInt8.toNat_ofNat_of_lt' (show (hexN (atL l (i + 2)) * 16 + hexN (atL l (i + 3))).toNat < 256 by omega)]
                  exact (u8w (by omega) (by omega)).trans (by omega)
                cases acc with
                | nil =>
                  have n1 : decide ((0 : Int) ≤ 256) = true := by decide
                  rw [runS_nil]
                  simp only [w0, ea, d1, d2, w1, w2, w3, w31, z1, z2, c1, c2, q1, q2, q3, q4, e1, e2, e3, n1, evS, tyS, Bool.not_true, Bool.not_false, Nat.reduceAdd, Nat.reduceSub, Nat.reduceMul, Nat.reduceLT, Nat.reduceLeDiff, Nat.reduceEqDiff, reduceCtorEq, List.reduceReplicate, Int.reduceToNat, Int.reduceLE, Int.reduceLT]
                  (repeat' (first | (with_reducible refine And.intro ?_ ?_) | ((first | refine GuardK.intro_f (fun h => ?_) (fun h => ?_) | refine GuardK.intro_t (fun h => ?_) (fun h => ?_) | refine CondK.intro (fun h => ?_) (fun h => ?_) | refine PickK.intro (fun h => ?_) (fun h => ?_)) <;> simp only [h, w0, ea, d1, d2, w1, w2, w3, w31, z1, z2, c1, c2, q1, q2, q3, q4, e1, e2, e3, n1, evS, tyS, Bool.not_true, Bool.not_false, Nat.reduceAdd, Nat.reduceSub, Nat.reduceMul, Nat.reduceLT, Nat.reduceLeDiff, Nat.reduceEqDiff, reduceCtorEq, List.reduceReplicate, Int.reduceToNat, Int.reduceLE, Int.reduceLT]) | (refine DrawK.intro (by kernel_rfl) (by kernel_rfl) ?_; simp only [w0, ea, d1, d2, w1, w2, w3, w31, z1, z2, c1, c2, q1, q2, q3, q4, e1, e2, e3, n1, evS, tyS, Bool.not_true, Bool.not_false, Nat.reduceAdd, Nat.reduceSub, Nat.reduceMul, Nat.reduceLT, Nat.reduceLeDiff, Nat.reduceEqDiff, reduceCtorEq, List.reduceReplicate, Int.reduceToNat, Int.reduceLE, Int.reduceLT])))
                  all_goals try (((try simp only [decide_eq_true_eq, decide_eq_false_iff_not, beq_iff_eq, bne_iff_ne, ne_eq, beq_eq_false_iff_ne, bne_eq_false_iff_eq] at *) <;> (try omega)); done)
                  refine CallK.intro c176 rfl k2 ?_
                  simp only [w0, ea, d1, d2, w1, w2, w3, w31, z1, z2, c1, c2, q1, q2, q3, q4, e1, e2, e3, n1, evS, tyS, Bool.not_true, Bool.not_false, Nat.reduceAdd, Nat.reduceSub, Nat.reduceMul, Nat.reduceLT, Nat.reduceLeDiff, Nat.reduceEqDiff, reduceCtorEq, List.reduceReplicate, Int.reduceToNat, Int.reduceLE, Int.reduceLT]
                  (repeat' (first | (with_reducible refine And.intro ?_ ?_) | ((first | refine GuardK.intro_f (fun h => ?_) (fun h => ?_) | refine GuardK.intro_t (fun h => ?_) (fun h => ?_) | refine CondK.intro (fun h => ?_) (fun h => ?_) | refine PickK.intro (fun h => ?_) (fun h => ?_)) <;> simp only [h, w0, ea, d1, d2, w1, w2, w3, w31, z1, z2, c1, c2, q1, q2, q3, q4, e1, e2, e3, n1, evS, tyS, Bool.not_true, Bool.not_false, Nat.reduceAdd, Nat.reduceSub, Nat.reduceMul, Nat.reduceLT, Nat.reduceLeDiff, Nat.reduceEqDiff, reduceCtorEq, List.reduceReplicate, Int.reduceToNat, Int.reduceLE, Int.reduceLT]) | (refine DrawK.intro (by kernel_rfl) (by kernel_rfl) ?_; simp only [w0, ea, d1, d2, w1, w2, w3, w31, z1, z2, c1, c2, q1, q2, q3, q4, e1, e2, e3, n1, evS, tyS, Bool.not_true, Bool.not_false, Nat.reduceAdd, Nat.reduceSub, Nat.reduceMul, Nat.reduceLT, Nat.reduceLeDiff, Nat.reduceEqDiff, reduceCtorEq, List.reduceReplicate, Int.reduceToNat, Int.reduceLE, Int.reduceLT])))
                  all_goals try (((try simp only [decide_eq_true_eq, decide_eq_false_iff_not, beq_iff_eq, bne_iff_ne, ne_eq, beq_eq_false_iff_ne, bne_eq_false_iff_eq] at *) <;> (try omega)); done)
                  refine CallK.intro c176 rfl k3 ?_
                  simp only [w0, ea, d1, d2, w1, w2, w3, w31, z1, z2, c1, c2, q1, q2, q3, q4, e1, e2, e3, n1, evS, tyS, Bool.not_true, Bool.not_false, Nat.reduceAdd, Nat.reduceSub, Nat.reduceMul, Nat.reduceLT, Nat.reduceLeDiff, Nat.reduceEqDiff, reduceCtorEq, List.reduceReplicate, Int.reduceToNat, Int.reduceLE, Int.reduceLT]
                  (repeat' (first | (with_reducible refine And.intro ?_ ?_) | ((first | refine GuardK.intro_f (fun h => ?_) (fun h => ?_) | refine GuardK.intro_t (fun h => ?_) (fun h => ?_) | refine CondK.intro (fun h => ?_) (fun h => ?_) | refine PickK.intro (fun h => ?_) (fun h => ?_)) <;> simp only [h, w0, ea, d1, d2, w1, w2, w3, w31, z1, z2, c1, c2, q1, q2, q3, q4, e1, e2, e3, n1, evS, tyS, Bool.not_true, Bool.not_false, Nat.reduceAdd, Nat.reduceSub, Nat.reduceMul, Nat.reduceLT, Nat.reduceLeDiff, Nat.reduceEqDiff, reduceCtorEq, List.reduceReplicate, Int.reduceToNat, Int.reduceLE, Int.reduceLT]) | (refine DrawK.intro (by kernel_rfl) (by kernel_rfl) ?_; simp only [w0, ea, d1, d2, w1, w2, w3, w31, z1, z2, c1, c2, q1, q2, q3, q4, e1, e2, e3, n1, evS, tyS, Bool.not_true, Bool.not_false, Nat.reduceAdd, Nat.reduceSub, Nat.reduceMul, Nat.reduceLT, Nat.reduceLeDiff, Nat.reduceEqDiff, reduceCtorEq, List.reduceReplicate, Int.reduceToNat, Int.reduceLE, Int.reduceLT])))
                  all_goals try (((try simp only [decide_eq_true_eq, decide_eq_false_iff_not, beq_iff_eq, bne_iff_ne, ne_eq, beq_eq_false_iff_ne, bne_eq_false_iff_eq] at *) <;> (try omega)); done)
                  refine CallK.intro c176 rfl k2 ?_
                  simp only [w0, ea, d1, d2, w1, w2, w3, w31, z1, z2, c1, c2, q1, q2, q3, q4, e1, e2, e3, n1, evS, tyS, Bool.not_true, Bool.not_false, Nat.reduceAdd, Nat.reduceSub, Nat.reduceMul, Nat.reduceLT, Nat.reduceLeDiff, Nat.reduceEqDiff, reduceCtorEq, List.reduceReplicate, Int.reduceToNat, Int.reduceLE, Int.reduceLT]
                  (repeat' (first | (with_reducible refine And.intro ?_ ?_) | ((first | refine GuardK.intro_f (fun h => ?_) (fun h => ?_) | refine GuardK.intro_t (fun h => ?_) (fun h => ?_) | refine CondK.intro (fun h => ?_) (fun h => ?_) | refine PickK.intro (fun h => ?_) (fun h => ?_)) <;> simp only [h, w0, ea, d1, d2, w1, w2, w3, w31, z1, z2, c1, c2, q1, q2, q3, q4, e1, e2, e3, n1, evS, tyS, Bool.not_true, Bool.not_false, Nat.reduceAdd, Nat.reduceSub, Nat.reduceMul, Nat.reduceLT, Nat.reduceLeDiff, Nat.reduceEqDiff, reduceCtorEq, List.reduceReplicate, Int.reduceToNat, Int.reduceLE, Int.reduceLT]) | (refine DrawK.intro (by kernel_rfl) (by kernel_rfl) ?_; simp only [w0, ea, d1, d2, w1, w2, w3, w31, z1, z2, c1, c2, q1, q2, q3, q4, e1, e2, e3, n1, evS, tyS, Bool.not_true, Bool.not_false, Nat.reduceAdd, Nat.reduceSub, Nat.reduceMul, Nat.reduceLT, Nat.reduceLeDiff, Nat.reduceEqDiff, reduceCtorEq, List.reduceReplicate, Int.reduceToNat, Int.reduceLE, Int.reduceLT])))
                  all_goals try (((try simp only [decide_eq_true_eq, decide_eq_false_iff_not, beq_iff_eq, bne_iff_ne, ne_eq, beq_eq_false_iff_ne, bne_eq_false_iff_eq] at *) <;> (try omega)); done)
                  refine CallK.intro c176 rfl k3 ?_
                  simp only [w0, ea, d1, d2, w1, w2, w3, w31, z1, z2, c1, c2, q1, q2, q3, q4, e1, e2, e3, n1, evS, tyS, Bool.not_true, Bool.not_false, Nat.reduceAdd, Nat.reduceSub, Nat.reduceMul, Nat.reduceLT, Nat.reduceLeDiff, Nat.reduceEqDiff, reduceCtorEq, List.reduceReplicate, Int.reduceToNat, Int.reduceLE, Int.reduceLT]
                  all_goals try (((try simp only [decide_eq_true_eq, decide_eq_false_iff_not, beq_iff_eq, bne_iff_ne, ne_eq, beq_eq_false_iff_ne, bne_eq_false_iff_eq] at *) <;> (try omega)); done)
                  all_goals exact grown 4 _ _ (by omega) (by omega) hs (run_weak_nil _ _ _ _ rfl (by simp only [w0, ea, d1, d2, w1, w2, w3, w31, z1, z2, c1, c2, q1, q2, q3, q4, e1, e2, e3, evS, tyS, Bool.not_true, Bool.not_false, Nat.reduceAdd, Nat.reduceSub, Nat.reduceMul, Nat.reduceLT, Nat.reduceLeDiff, Nat.reduceEqDiff, reduceCtorEq, List.reduceReplicate, Int.reduceToNat, Int.reduceLE, Int.reduceLT]) rfl)
                | cons a A =>
                  simp only [List.length_cons] at hac hlong
                  have m1 : decide ((A.length : Int) + 1 ≤ 256) = true := decide_eq_true (by omega)
                  have m2 : decide (A.length + 1 ≤ 256) = true := decide_eq_true (by omega)
                  have m3 : decide (((A.length + 1 : Nat) : Int) ≤ 256) = true := decide_eq_true (by omega)
                  have m4 : decide (A.length ≤ 255) = true := decide_eq_true (by omega)
                  rw [runS_cons]
                  simp only [w0, ea, d1, d2, w1, w2, w3, w31, z1, z2, c1, c2, q1, q2, q3, q4, e1, e2, e3, m1, m2, m3, m4, List.length_cons, evS, tyS, Bool.not_true, Bool.not_false, Nat.reduceAdd, Nat.reduceSub, Nat.reduceMul, Nat.reduceLT, Nat.reduceLeDiff, Nat.reduceEqDiff, reduceCtorEq, List.reduceReplicate, Int.reduceToNat, Int.reduceLE, Int.reduceLT]
                  (repeat' (first | (with_reducible refine And.intro ?_ ?_) | ((first | refine GuardK.intro_f (fun h => ?_) (fun h => ?_) | refine GuardK.intro_t (fun h => ?_) (fun h => ?_) | refine CondK.intro (fun h => ?_) (fun h => ?_) | refine PickK.intro (fun h => ?_) (fun h => ?_)) <;> simp only [h, w0, ea, d1, d2, w1, w2, w3, w31, z1, z2, c1, c2, q1, q2, q3, q4, e1, e2, e3, m1, m2, m3, m4, List.length_cons, evS, tyS, Bool.not_true, Bool.not_false, Nat.reduceAdd, Nat.reduceSub, Nat.reduceMul, Nat.reduceLT, Nat.reduceLeDiff, Nat.reduceEqDiff, reduceCtorEq, List.reduceReplicate, Int.reduceToNat, Int.reduceLE, Int.reduceLT]) | (refine DrawK.intro (by kernel_rfl) (by kernel_rfl) ?_; simp only [w0, ea, d1, d2, w1, w2, w3, w31, z1, z2, c1, c2, q1, q2, q3, q4, e1, e2, e3, m1, m2, m3, m4, List.length_cons, evS, tyS, Bool.not_true, Bool.not_false, Nat.reduceAdd, Nat.reduceSub, Nat.reduceMul, Nat.reduceLT, Nat.reduceLeDiff, Nat.reduceEqDiff, reduceCtorEq, List.reduceReplicate, Int.reduceToNat, Int.reduceLE, Int.reduceLT])))
                  all_goals try (((try simp only [decide_eq_true_eq, decide_eq_false_iff_not, beq_iff_eq, bne_iff_ne, ne_eq, beq_eq_false_iff_ne, bne_eq_false_iff_eq] at *) <;> (try omega)); done)
                  refine CallK.intro c176 rfl k2 ?_
                  simp only [w0, ea, d1, d2, w1, w2, w3, w31, z1, z2, c1, c2, q1, q2, q3, q4, e1, e2, e3, m1, m2, m3, m4, List.length_cons, evS, tyS, Bool.not_true, Bool.not_false, Nat.reduceAdd, Nat.reduceSub, Nat.reduceMul, Nat.reduceLT, Nat.reduceLeDiff, Nat.reduceEqDiff, reduceCtorEq, List.reduceReplicate, Int.reduceToNat, Int.reduceLE, Int.reduceLT]
                  (repeat' (first | (with_reducible refine And.intro ?_ ?_) | ((first | refine GuardK.intro_f (fun h => ?_) (fun h => ?_) | refine GuardK.intro_t (fun h => ?_) (fun h => ?_) | refine CondK.intro (fun h => ?_) (fun h => ?_) | refine PickK.intro (fun h => ?_) (fun h => ?_)) <;> simp only [h, w0, ea, d1, d2, w1, w2, w3, w31, z1, z2, c1, c2, q1, q2, q3, q4, e1, e2, e3, m1, m2, m3, m4, List.length_cons, evS, tyS, Bool.not_true, Bool.not_false, Nat.reduceAdd, Nat.reduceSub, Nat.reduceMul, Nat.reduceLT, Nat.reduceLeDiff, Nat.reduceEqDiff, reduceCtorEq, List.reduceReplicate, Int.reduceToNat, Int.reduceLE, Int.reduceLT]) | (refine DrawK.intro (by kernel_rfl) (by kernel_rfl) ?_; simp only [w0, ea, d1, d2, w1, w2, w3, w31, z1, z2, c1, c2, q1, q2, q3, q4, e1, e2, e3, m1, m2, m3, m4, List.length_cons, evS, tyS, Bool.not_true, Bool.not_false, Nat.reduceAdd, Nat.reduceSub, Nat.reduceMul, Nat.reduceLT, Nat.reduceLeDiff, Nat.reduceEqDiff, reduceCtorEq, List.reduceReplicate, Int.reduceToNat, Int.reduceLE, Int.reduceLT])))
                  all_goals try (((try simp only [decide_eq_true_eq, decide_eq_false_iff_not, beq_iff_eq, bne_iff_ne, ne_eq, beq_eq_false_iff_ne, bne_eq_false_iff_eq] at *) <;> (try omega)); done)
                  refine CallK.intro c176 rfl k3 ?_
                  simp only [w0, ea, d1, d2, w1, w2, w3, w31, z1, z2, c1, c2, q1, q2, q3, q4, e1, e2, e3, m1, m2, m3, m4, List.length_cons, evS, tyS, Bool.not_true, Bool.not_false, Nat.reduceAdd, Nat.reduceSub, Nat.reduceMul, Nat.reduceLT, Nat.reduceLeDiff, Nat.reduceEqDiff, reduceCtorEq, List.reduceReplicate, Int.reduceToNat, Int.reduceLE, Int.reduceLT]
                  (repeat' (first | (with_reducible refine And.intro ?_ ?_) | ((first | refine GuardK.intro_f (fun h => ?_) (fun h => ?_) | refine GuardK.intro_t (fun h => ?_) (fun h => ?_) | refine CondK.intro (fun h => ?_) (fun h => ?_) | refine PickK.intro (fun h => ?_) (fun h => ?_)) <;> simp only [h, w0, ea, d1, d2, w1, w2, w3, w31, z1, z2, c1, c2, q1, q2, q3, q4, e1, e2, e3, m1, m2, m3, m4, List.length_cons, evS, tyS, Bool.not_true, Bool.not_false, Nat.reduceAdd, Nat.reduceSub, Nat.reduceMul, Nat.reduceLT, Nat.reduceLeDiff, Nat.reduceEqDiff, reduceCtorEq, List.reduceReplicate, Int.reduceToNat, Int.reduceLE, Int.reduceLT]) | (refine DrawK.intro (by kernel_rfl) (by kernel_rfl) ?_; simp only [w0, ea, d1, d2, w1, w2, w3, w31, z1, z2, c1, c2, q1, q2, q3, q4, e1, e2, e3, m1, m2, m3, m4, List.length_cons, evS, tyS, Bool.not_true, Bool.not_false, Nat.reduceAdd, Nat.reduceSub, Nat.reduceMul, Nat.reduceLT, Nat.reduceLeDiff, Nat.reduceEqDiff, reduceCtorEq, List.reduceReplicate, Int.reduceToNat, Int.reduceLE, Int.reduceLT])))
                  all_goals try (((try simp only [decide_eq_true_eq, decide_eq_false_iff_not, beq_iff_eq, bne_iff_ne, ne_eq, beq_eq_false_iff_ne, bne_eq_false_iff_eq] at *) <;> (try omega)); done)
                  refine CallK.intro c176 rfl k2 ?_
                  simp only [w0, ea, d1, d2, w1, w2, w3, w31, z1, z2, c1, c2, q1, q2, q3, q4, e1, e2, e3, m1, m2, m3, m4, List.length_cons, evS, tyS, Bool.not_true, Bool.not_false, Nat.reduceAdd, Nat.reduceSub, Nat.reduceMul, Nat.reduceLT, Nat.reduceLeDiff, Nat.reduceEqDiff, reduceCtorEq, List.reduceReplicate, Int.reduceToNat, Int.reduceLE, Int.reduceLT]
                  (repeat' (first | (with_reducible refine And.intro ?_ ?_) | ((first | refine GuardK.intro_f (fun h => ?_) (fun h => ?_) | refine GuardK.intro_t (fun h => ?_) (fun h => ?_) | refine CondK.intro (fun h => ?_) (fun h => ?_) | refine PickK.intro (fun h => ?_) (fun h => ?_)) <;> simp only [h, w0, ea, d1, d2, w1, w2, w3, w31, z1, z2, c1, c2, q1, q2, q3, q4, e1, e2, e3, m1, m2, m3, m4, List.length_cons, evS, tyS, Bool.not_true, Bool.not_false, Nat.reduceAdd, Nat.reduceSub, Nat.reduceMul, Nat.reduceLT, Nat.reduceLeDiff, Nat.reduceEqDiff, reduceCtorEq, List.reduceReplicate, Int.reduceToNat, Int.reduceLE, Int.reduceLT]) | (refine DrawK.intro (by kernel_rfl) (by kernel_rfl) ?_; simp only [w0, ea, d1, d2, w1, w2, w3, w31, z1, z2, c1, c2, q1, q2, q3, q4, e1, e2, e3, m1, m2, m3, m4, List.length_cons, evS, tyS, Bool.not_true, Bool.not_false, Nat.reduceAdd, Nat.reduceSub, Nat.reduceMul, Nat.reduceLT, Nat.reduceLeDiff, Nat.reduceEqDiff, reduceCtorEq, List.reduceReplicate, Int.reduceToNat, Int.reduceLE, Int.reduceLT])))
                  all_goals try (((try simp only [decide_eq_true_eq, decide_eq_false_iff_not, beq_iff_eq, bne_iff_ne, ne_eq, beq_eq_false_iff_ne, bne_eq_false_iff_eq] at *) <;> (try omega)); done)
                  refine CallK.intro c176 rfl k3 ?_
                  simp only [w0, ea, d1, d2, w1, w2, w3, w31, z1, z2, c1, c2, q1, q2, q3, q4, e1, e2, e3, m1, m2, m3, m4, List.length_cons, evS, tyS, Bool.not_true, Bool.not_false, Nat.reduceAdd, Nat.reduceSub, Nat.reduceMul, Nat.reduceLT, Nat.reduceLeDiff, Nat.reduceEqDiff, reduceCtorEq, List.reduceReplicate, Int.reduceToNat, Int.reduceLE, Int.reduceLT]
                  (repeat' (first | (with_reducible refine And.intro ?_ ?_) | ((first | refine GuardK.intro_f (fun h => ?_) (fun h => ?_) | refine GuardK.intro_t (fun h => ?_) (fun h => ?_) | refine CondK.intro (fun h => ?_) (fun h => ?_) | refine PickK.intro (fun h => ?_) (fun h => ?_)) <;> simp only [h, w0, ea, d1, d2, w1, w2, w3, w31, z1, z2, c1, c2, q1, q2, q3, q4, e1, e2, e3, m1, m2, m3, m4, List.length_cons, evS, tyS, Bool.not_true, Bool.not_false, Nat.reduceAdd, Nat.reduceSub, Nat.reduceMul, Nat.reduceLT, Nat.reduceLeDiff, Nat.reduceEqDiff, reduceCtorEq, List.reduceReplicate, Int.reduceToNat, Int.reduceLE, Int.reduceLT]) | (refine DrawK.intro (by kernel_rfl) (by kernel_rfl) ?_; simp only [w0, ea, d1, d2, w1, w2, w3, w31, z1, z2, c1, c2, q1, q2, q3, q4, e1, e2, e3, m1, m2, m3, m4, List.length_cons, evS, tyS, Bool.not_true, Bool.not_false, Nat.reduceAdd, Nat.reduceSub, Nat.reduceMul, Nat.reduceLT, Nat.reduceLeDiff, Nat.reduceEqDiff, reduceCtorEq, List.reduceReplicate, Int.reduceToNat, Int.reduceLE, Int.reduceLT])))
                  all_goals try (((try simp only [decide_eq_true_eq, decide_eq_false_iff_not, beq_iff_eq, bne_iff_ne, ne_eq, beq_eq_false_iff_ne, bne_eq_false_iff_eq] at *) <;> (try omega)); done)
                  all_goals exact grown 4 _ _ (by omega) (by omega) hs (run_weak_cons _ _ _ _ _ _ _ rfl (by simp only [w0, ea, d1, d2, w1, w2, w3, w31, z1, z2, c1, c2, q1, q2, q3, q4, e1, e2, e3, evS, tyS, Bool.not_true, Bool.not_false, Nat.reduceAdd, Nat.reduceSub, Nat.reduceMul, Nat.reduceLT, Nat.reduceLeDiff, Nat.reduceEqDiff, reduceCtorEq, List.reduceReplicate, Int.reduceToNat, Int.reduceLE, Int.reduceLT]) rfl)
        · rw [if_neg (fun h => hx ⟨by have := h.2.1; rw [hRl] at this; omega, by have := h.2.2; rw [hRA i 1 (by have := h.2.1; rw [hRl] at this; omega)] at this; exact this⟩), if_pos h92] at hs
          by_cases h1 : i + 1 < l.length - 1
          · have c1 : decide (((i + 1 : Nat) : Int) < ((l.length - 1 : Nat) : Int)) = true := decide_eq_true (by omega)
            have c2 : decide (i + 1 < l.length - 1) = true := decide_eq_true h1
            have c3 : decide (((l.length - 1 : Nat) : Int) ≤ ((i + 1 : Nat) : Int)) = false := decide_eq_false (by omega)
            have c4 : decide (l.length - 1 ≤ i + 1) = false := decide_eq_false (by omega)
            have z2 : ((atL l (i + 1) : Int) == 120) = false := beq_f (by have : atL l (i + 1) ≠ 120 := fun h => hx ⟨h1, h⟩; omega)
            rw [if_neg (by rw [hRl]; omega), hRd, hRa i 1 h1] at hs
            cases acc with
            | nil =>
              have n1 : decide ((0 : Int) ≤ 256) = true := by decide
              rw [runS_nil]
              simp only [w0, ea, d1, d2, w1, w11, z1, z2, c1, c2, c3, c4, n1, evS, tyS, Bool.not_true, Bool.not_false, Nat.reduceAdd, Nat.reduceSub, Nat.reduceMul, Nat.reduceLT, Nat.reduceLeDiff, Nat.reduceEqDiff, reduceCtorEq, List.reduceReplicate, Int.reduceToNat, Int.reduceLE, Int.reduceLT]
              (repeat' (first | (with_reducible refine And.intro ?_ ?_) | ((first | refine GuardK.intro_f (fun h => ?_) (fun h => ?_) | refine GuardK.intro_t (fun h => ?_) (fun h => ?_) | refine CondK.intro (fun h => ?_) (fun h => ?_) | refine PickK.intro (fun h => ?_) (fun h => ?_)) <;> simp only [h, w0, ea, d1, d2, w1, w11, z1, z2, c1, c2, c3, c4, n1, evS, tyS, Bool.not_true, Bool.not_false, Nat.reduceAdd, Nat.reduceSub, Nat.reduceMul, Nat.reduceLT, Nat.reduceLeDiff, Nat.reduceEqDiff, reduceCtorEq, List.reduceReplicate, Int.reduceToNat, Int.reduceLE, Int.reduceLT]) | (refine DrawK.intro (by kernel_rfl) (by kernel_rfl) ?_; simp only [w0, ea, d1, d2, w1, w11, z1, z2, c1, c2, c3, c4, n1, evS, tyS, Bool.not_true, Bool.not_false, Nat.reduceAdd, Nat.reduceSub, Nat.reduceMul, Nat.reduceLT, Nat.reduceLeDiff, Nat.reduceEqDiff, reduceCtorEq, List.reduceReplicate, Int.reduceToNat, Int.reduceLE, Int.reduceLT])))
              all_goals try (((try simp only [decide_eq_true_eq, decide_eq_false_iff_not, beq_iff_eq, bne_iff_ne, ne_eq, beq_eq_false_iff_ne, bne_eq_false_iff_eq] at *) <;> (try omega)); done)
              all_goals exact grown 2 _ _ (by omega) (by omega) hs (run_weak_nil _ _ _ _ rfl (by simp only [w0, ea, d1, d2, w1, w11, z1, z2, c1, c2, c3, c4, evS, tyS, Bool.not_true, Bool.not_false, Nat.reduceAdd, Nat.reduceSub, Nat.reduceMul, Nat.reduceLT, Nat.reduceLeDiff, Nat.reduceEqDiff, reduceCtorEq, List.reduceReplicate, Int.reduceToNat, Int.reduceLE, Int.reduceLT]) rfl)
            | cons a A =>
              simp only [List.length_cons] at hac hlong
              have m1 : decide ((A.length : Int) + 1 ≤ 256) = true := decide_eq_true (by omega)
              have m2 : decide (A.length + 1 ≤ 256) = true := decide_eq_true (by omega)
              have m3 : decide (((A.length + 1 : Nat) : Int) ≤ 256) = true := decide_eq_true (by omega)
              have m4 : decide (A.length ≤ 255) = true := decide_eq_true (by omega)
              rw [runS_cons]
              simp only [w0, ea, d1, d2, w1, w11, z1, z2, c1, c2, c3, c4, m1, m2, m3, m4, List.length_cons, evS, tyS, Bool.not_true, Bool.not_false, Nat.reduceAdd, Nat.reduceSub, Nat.reduceMul, Nat.reduceLT, Nat.reduceLeDiff, Nat.reduceEqDiff, reduceCtorEq, List.reduceReplicate, Int.reduceToNat, Int.reduceLE, Int.reduceLT]
              (repeat' (first | (with_reducible refine And.intro ?_ ?_) | ((first | refine GuardK.intro_f (fun h => ?_) (fun h => ?_) | refine GuardK.intro_t (fun h => ?_) (fun h => ?_) | refine CondK.intro (fun h => ?_) (fun h => ?_) | refine PickK.intro (fun h => ?_) (fun h => ?_)) <;> simp only [h, w0, ea, d1, d2, w1, w11, z1, z2, c1, c2, c3, c4, m1, m2, m3, m4, List.length_cons, evS, tyS, Bool.not_true, Bool.not_false, Nat.reduceAdd, Nat.reduceSub, Nat.reduceMul, Nat.reduceLT, Nat.reduceLeDiff, Nat.reduceEqDiff, reduceCtorEq, List.reduceReplicate, Int.reduceToNat, Int.reduceLE, Int.reduceLT]) | (refine DrawK.intro (by kernel_rfl) (by kernel_rfl) ?_; simp only [w0, ea, d1, d2, w1, w11, z1, z2, c1, c2, c3, c4, m1, m2, m3, m4, List.length_cons, evS, tyS, Bool.not_true, Bool.not_false, Nat.reduceAdd, Nat.reduceSub, Nat.reduceMul, Nat.reduceLT, Nat.reduceLeDiff, Nat.reduceEqDiff, reduceCtorEq, List.reduceReplicate, Int.reduceToNat, Int.reduceLE, Int.reduceLT])))
              all_goals try (((try simp only [decide_eq_true_eq, decide_eq_false_iff_not, beq_iff_eq, bne_iff_ne, ne_eq, beq_eq_false_iff_ne, bne_eq_false_iff_eq] at *) <;> (try omega)); done)
              all_goals exact grown 2 _ _ (by omega) (by omega) hs (run_weak_cons _ _ _ _ _ _ _ rfl (by simp only [w0, ea, d1, d2, w1, w11, z1, z2, c1, c2, c3, c4, evS, tyS, Bool.not_true, Bool.not_false, Nat.reduceAdd, Nat.reduceSub, Nat.reduceMul, Nat.reduceLT, Nat.reduceLeDiff, Nat.reduceEqDiff, reduceCtorEq, List.reduceReplicate, Int.reduceToNat, Int.reduceLE, Int.reduceLT]) rfl)
          · have c1 : decide (((i + 1 : Nat) : Int) < ((l.length - 1 : Nat) : Int)) = false := decide_eq_false (by omega)
            have c2 : decide (i + 1 < l.length - 1) = false := decide_eq_false h1
            have c3 : decide (((l.length - 1 : Nat) : Int) ≤ ((i + 1 : Nat) : Int)) = true := decide_eq_true (by omega)
            have c4 : decide (l.length - 1 ≤ i + 1) = true := decide_eq_true (by omega)
            rw [if_pos (by rw [hRl]; omega)] at hs
            have hno : runR (runN N (R 1) []) = .tup [.v (.string ⟨#[]⟩), .v (.bool false)] := by rw [← hs]; rfl
            cases acc with
            | nil =>
              have n1 : decide ((0 : Int) ≤ 256) = true := by decide
              rw [hno, runS_nil]
              simp only [w0, ea, d1, d2, w1, z1, c1, c2, c3, c4, n1, evS, tyS, Bool.not_true, Bool.not_false, Nat.reduceAdd, Nat.reduceSub, Nat.reduceMul, Nat.reduceLT, Nat.reduceLeDiff, Nat.reduceEqDiff, reduceCtorEq, List.reduceReplicate, Int.reduceToNat, Int.reduceLE, Int.reduceLT]
              all_goals try (((try simp only [decide_eq_true_eq, decide_eq_false_iff_not, beq_iff_eq, bne_iff_ne, ne_eq, beq_eq_false_iff_ne, bne_eq_false_iff_eq] at *) <;> (try omega)); done)
              all_goals first | done | rfl | trace_state
            | cons a A =>
              simp only [List.length_cons] at hac hlong
              have m1 : decide ((A.length : Int) + 1 ≤ 256) = true := decide_eq_true (by omega)
              have m2 : decide (A.length + 1 ≤ 256) = true := decide_eq_true (by omega)
              have m3 : decide (((A.length + 1 : Nat) : Int) ≤ 256) = true := decide_eq_true (by omega)
              have m4 : decide (A.length ≤ 255) = true := decide_eq_true (by omega)
              rw [hno, runS_cons]
              simp only [w0, ea, d1, d2, w1, z1, c1, c2, c3, c4, m1, m2, m3, m4, List.length_cons, evS, tyS, Bool.not_true, Bool.not_false, Nat.reduceAdd, Nat.reduceSub, Nat.reduceMul, Nat.reduceLT, Nat.reduceLeDiff, Nat.reduceEqDiff, reduceCtorEq, List.reduceReplicate, Int.reduceToNat, Int.reduceLE, Int.reduceLT]
              all_goals try (((try simp only [decide_eq_true_eq, decide_eq_false_iff_not, beq_iff_eq, bne_iff_ne, ne_eq, beq_eq_false_iff_ne, bne_eq_false_iff_eq] at *) <;> (try omega)); done)
              all_goals first | done | rfl | trace_state
      · have z1 : ((atL l i : Int) == 92) = false := beq_f (by omega)
        rw [if_neg (fun h => h92 h.1), if_neg h92, hRd, hRa i 0 (by omega)] at hs
        simp only [Nat.add_zero] at hs
        cases acc with
        | nil =>
          have n1 : decide ((0 : Int) ≤ 256) = true := by decide
          rw [runS_nil]
          simp only [w0, ea, d1, d2, w1, z1, n1, evS, tyS, Bool.not_true, Bool.not_false, Nat.reduceAdd, Nat.reduceSub, Nat.reduceMul, Nat.reduceLT, Nat.reduceLeDiff, Nat.reduceEqDiff, reduceCtorEq, List.reduceReplicate, Int.reduceToNat, Int.reduceLE, Int.reduceLT]
          (repeat' (first | (with_reducible refine And.intro ?_ ?_) | ((first | refine GuardK.intro_f (fun h => ?_) (fun h => ?_) | refine GuardK.intro_t (fun h => ?_) (fun h => ?_) | refine CondK.intro (fun h => ?_) (fun h => ?_) | refine PickK.intro (fun h => ?_) (fun h => ?_)) <;> simp only [h, w0, ea, d1, d2, w1, z1, n1, evS, tyS, Bool.not_true, Bool.not_false, Nat.reduceAdd, Nat.reduceSub, Nat.reduceMul, Nat.reduceLT, Nat.reduceLeDiff, Nat.reduceEqDiff, reduceCtorEq, List.reduceReplicate, Int.reduceToNat, Int.reduceLE, Int.reduceLT]) | (refine DrawK.intro (by kernel_rfl) (by kernel_rfl) ?_; simp only [w0, ea, d1, d2, w1, z1, n1, evS, tyS, Bool.not_true, Bool.not_false, Nat.reduceAdd, Nat.reduceSub, Nat.reduceMul, Nat.reduceLT, Nat.reduceLeDiff, Nat.reduceEqDiff, reduceCtorEq, List.reduceReplicate, Int.reduceToNat, Int.reduceLE, Int.reduceLT])))
          all_goals try (((try simp only [decide_eq_true_eq, decide_eq_false_iff_not, beq_iff_eq, bne_iff_ne, ne_eq, beq_eq_false_iff_ne, bne_eq_false_iff_eq] at *) <;> (try omega)); done)
          all_goals exact grown 1 _ _ (by omega) (by omega) hs (run_weak_nil _ _ _ _ rfl (by simp only [w0, ea, d1, d2, w1, z1, evS, tyS, Bool.not_true, Bool.not_false, Nat.reduceAdd, Nat.reduceSub, Nat.reduceMul, Nat.reduceLT, Nat.reduceLeDiff, Nat.reduceEqDiff, reduceCtorEq, List.reduceReplicate, Int.reduceToNat, Int.reduceLE, Int.reduceLT]) rfl)
        | cons a A =>
          simp only [List.length_cons] at hac hlong
          have m1 : decide ((A.length : Int) + 1 ≤ 256) = true := decide_eq_true (by omega)
          have m2 : decide (A.length + 1 ≤ 256) = true := decide_eq_true (by omega)
          have m3 : decide (((A.length + 1 : Nat) : Int) ≤ 256) = true := decide_eq_true (by omega)
          have m4 : decide (A.length ≤ 255) = true := decide_eq_true (by omega)
          rw [runS_cons]
          simp only [w0, ea, d1, d2, w1, z1, m1, m2, m3, m4, List.length_cons, evS, tyS, Bool.not_true, Bool.not_false, Nat.reduceAdd, Nat.reduceSub, Nat.reduceMul, Nat.reduceLT, Nat.reduceLeDiff, Nat.reduceEqDiff, reduceCtorEq, List.reduceReplicate, Int.reduceToNat, Int.reduceLE, Int.reduceLT]
          (repeat' (first | (with_reducible refine And.intro ?_ ?_) | ((first | refine GuardK.intro_f (fun h => ?_) (fun h => ?_) | refine GuardK.intro_t (fun h => ?_) (fun h => ?_) | refine CondK.intro (fun h => ?_) (fun h => ?_) | refine PickK.intro (fun h => ?_) (fun h => ?_)) <;> simp only [h, w0, ea, d1, d2, w1, z1, m1, m2, m3, m4, List.length_cons, evS, tyS, Bool.not_true, Bool.not_false, Nat.reduceAdd, Nat.reduceSub, Nat.reduceMul, Nat.reduceLT, Nat.reduceLeDiff, Nat.reduceEqDiff, reduceCtorEq, List.reduceReplicate, Int.reduceToNat, Int.reduceLE, Int.reduceLT]) | (refine DrawK.intro (by kernel_rfl) (by kernel_rfl) ?_; simp only [w0, ea, d1, d2, w1, z1, m1, m2, m3, m4, List.length_cons, evS, tyS, Bool.not_true, Bool.not_false, Nat.reduceAdd, Nat.reduceSub, Nat.reduceMul, Nat.reduceLT, Nat.reduceLeDiff, Nat.reduceEqDiff, reduceCtorEq, List.reduceReplicate, Int.reduceToNat, Int.reduceLE, Int.reduceLT])))
          all_goals try (((try simp only [decide_eq_true_eq, decide_eq_false_iff_not, beq_iff_eq, bne_iff_ne, ne_eq, beq_eq_false_iff_ne, bne_eq_false_iff_eq] at *) <;> (try omega)); done)
          all_goals exact grown 1 _ _ (by omega) (by omega) hs (run_weak_cons _ _ _ _ _ _ _ rfl (by simp only [w0, ea, d1, d2, w1, z1, evS, tyS, Bool.not_true, Bool.not_false, Nat.reduceAdd, Nat.reduceSub, Nat.reduceMul, Nat.reduceLT, Nat.reduceLeDiff, Nat.reduceEqDiff, reduceCtorEq, List.reduceReplicate, Int.reduceToNat, Int.reduceLE, Int.reduceLT]) rfl)
end Go.Proofs.YtlobiioioicmhaaGreatDoor
