/- Contracts of the functions that the law reaches. -/
import Derived.Test.YtlobiioioicmhaaGreatDoorQ2
import Derived.Lib.Walk
import Derived.Lib.ItoaMem
import Derived.Lib.AppendIntMem
import Derived.WalkKit
import Derived.BigCall
import Derived.BigGuard
/- strconv.ParseInt, Atoi, ParseUint of any text. -/
namespace Go.Proofs.YtlobiioioicmhaaGreatDoor
set_option linter.all false
open Go Go.Ev
set_option maxRecDepth 20000
variable {γ : List (Nat × AV)}
/-- A number with a sign: 0 it, 1 too great, 2 no number. -/
def intOf (neg : Bool) (r : Nat × Nat) : Nat × Int :=
  if r.1 = 2 then (2, 0) else if neg = false ∧ 9223372036854775808 ≤ r.2 then (1, 9223372036854775807) else if neg = true ∧ 9223372036854775808 < r.2 then (1, -9223372036854775808) else (0, if neg then -(r.2 : Int) else r.2)
def signed (l : List UInt8) : Bool × List UInt8 := if atL l 0 = 43 then (false, l.drop 1) else if atL l 0 = 45 then (true, l.drop 1) else (false, l)
def scanI (l : List UInt8) : Nat × Int := if l = [] then (2, 0) else intOf (signed l).1 (scanW 18446744073709551615 (signed l).2)
def iRes (r : Nat × Int) : AV := .tup [.v (.int .i64 r.2), uErr r.1]
theorem scanU_one (M : Nat) : ∀ (l : List UInt8) (n : Nat), (scanU M l n).1 = 1 → (scanU M l n).2 = M
  | [], n, h => by simp [scanU] at h
  | c :: l, n, h => by
    rw [scanU_cons] at h ⊢
    split at h
    · simp at h
    · rename_i h1
      rw [if_neg h1]
      split at h
      · rename_i h2; rw [if_pos h2]
      · rename_i h2; rw [if_neg h2]; exact scanU_one M l _ h
theorem scanW_one (M : Nat) (l : List UInt8) (h : (scanW M l).1 = 1) : (scanW M l).2 = M := by
  unfold scanW at h ⊢
  split at h
  · simp at h
  · rename_i h1; rw [if_neg h1]; exact scanU_one M l 0 h
set_option maxHeartbeats 8000000 in
set_option maxRecDepth 20000 in
theorem parseIntG_ev (B : Int) (hB : B = 0 ∨ B = 64) (l : List UInt8) (hl : l.length ≤ 140737488351232) : Ev Tryz.prog γ 169 [.v (.string ⟨l.toArray⟩), .v (.int .i64 10), .v (.int .i64 B)] (iRes (scanI l)) := by
  refine Ev.of Tryz.func169 rfl ?_
  by_cases h0 : l = []
  · subst h0
    have e : iRes (scanI []) = .tup [.v (.int .i64 0), .ifc 260 (.v (.int .i64 2))] := rfl
    rw [e]
    simp only [Tryz.f169, tyP, tyQ, evS, tyS, Bool.not_true, Bool.not_false, Nat.reduceAdd, Nat.reduceSub, Nat.reduceMul, Nat.reduceLT, Nat.reduceLeDiff, Nat.reduceEqDiff, reduceCtorEq, List.reduceReplicate, Int.reduceToNat, Int.reduceLE, Int.reduceLT]
    all_goals try (((try simp only [decide_eq_true_eq, decide_eq_false_iff_not, beq_iff_eq, bne_iff_ne, ne_eq, beq_eq_false_iff_ne, bne_eq_false_iff_eq] at *) <;> (try omega)); done)
  · have hne : (l == ([] : List UInt8)) = false := by
      cases l with
      | nil => simp at h0
      | cons => rfl
    have hlen : 0 < l.length := List.length_pos_iff.2 h0
    have hW : scanI l = intOf (signed l).1 (scanW 18446744073709551615 (signed l).2) := by unfold scanI; rw [if_neg h0]
    rw [hW]
    have hB' : ∃ C : Int, C = B ∧ (B = 0 ∨ B = 64) := ⟨B, rfl, hB⟩
    have ea : ∀ j, (l.getD j 0).toNat = atL l j := fun _ => rfl
    have tk : l.take l.length = l := List.take_length
    have hdl : (l.drop 1).length ≤ 140737488351232 := by rw [List.length_drop]; omega
    have kA : ∀ r : List UInt8, r.length ≤ 140737488351232 → Ev Tryz.prog γ 223 [.v (.string ⟨r.toArray⟩), .v (.int .i64 10), .v (.int .i64 B)] (uRes (scanW 18446744073709551615 r)) := fun r hr => parseUintG_ev B _ (by rcases hB with h | h <;> simp [h]) r hr
    have h640 : ((64 : Int) == 0) = false := by decide
    have z21 : ((2 : Int) == 1) = false := by decide
    have z11 : ((1 : Int) == 1) = true := by decide
    have w63 : IntKind.u64.wrap 63 = 63 := by rw [u64w] <;> omega
    have w631 : IntKind.i64.wrap (64 - 1) = 63 := by decide
    have wsh : IntKind.u64.wrap (1 * 2 ^ min (Int.toNat 63) IntKind.u64.bits) = 9223372036854775808 := by decide
    have wsh' : IntKind.u64.wrap (1 * 2 ^ min 63 IntKind.u64.bits) = 9223372036854775808 := by decide
    have wm1 : IntKind.u64.wrap (9223372036854775808 - 1) = 9223372036854775807 := by decide
    have wm2 : IntKind.i64.wrap 9223372036854775807 = 9223372036854775807 := by decide
    have wm3 : IntKind.i64.wrap 9223372036854775808 = -9223372036854775808 := by decide
    have wm4 : IntKind.i64.wrap (0 - -9223372036854775808) = -9223372036854775808 := by decide
    have hBz : (B == 0) = true ∨ B = 64 := by rcases hB with h | h <;> simp [h]
    rcases hB with rfl | rfl
    · by_cases s1 : atL l 0 = 43
      · have n43 : ((atL l 0 : Int) == 43) = true := by simp; omega
        have es : signed l = (false, l.drop 1) := by unfold signed; rw [if_pos s1]
        rw [es]
        simp only [Tryz.f169, tyP, tyQ, hne, ea, tk, n43, evS, tyS, Bool.not_true, Bool.not_false, Nat.reduceAdd, Nat.reduceSub, Nat.reduceMul, Nat.reduceLT, Nat.reduceLeDiff, Nat.reduceEqDiff, reduceCtorEq, List.reduceReplicate, Int.reduceToNat, Int.reduceLE, Int.reduceLT]
        (repeat' (first | (with_reducible refine And.intro ?_ ?_) | ((first | refine GuardK.intro_f (fun h => ?_) (fun h => ?_) | refine GuardK.intro_t (fun h => ?_) (fun h => ?_) | refine CondK.intro (fun h => ?_) (fun h => ?_) | refine PickK.intro (fun h => ?_) (fun h => ?_)) <;> simp only [h, tyP, tyQ, hne, ea, tk, n43, evS, tyS, Bool.not_true, Bool.not_false, Nat.reduceAdd, Nat.reduceSub, Nat.reduceMul, Nat.reduceLT, Nat.reduceLeDiff, Nat.reduceEqDiff, reduceCtorEq, List.reduceReplicate, Int.reduceToNat, Int.reduceLE, Int.reduceLT]) | (refine DrawK.intro (by kernel_rfl) (by kernel_rfl) ?_; simp only [tyP, tyQ, hne, ea, tk, n43, evS, tyS, Bool.not_true, Bool.not_false, Nat.reduceAdd, Nat.reduceSub, Nat.reduceMul, Nat.reduceLT, Nat.reduceLeDiff, Nat.reduceEqDiff, reduceCtorEq, List.reduceReplicate, Int.reduceToNat, Int.reduceLE, Int.reduceLT])))
        all_goals try (((try simp only [decide_eq_true_eq, decide_eq_false_iff_not, beq_iff_eq, bne_iff_ne, ne_eq, beq_eq_false_iff_ne, bne_eq_false_iff_eq] at *) <;> (try omega)); done)
        have kB := kA (l.drop 1) hdl
        have hle := scanW_le 18446744073709551615 (l.drop 1)
        have hon := scanW_one 18446744073709551615 (l.drop 1)
        generalize scanW 18446744073709551615 (l.drop 1) = r at kB hle hon ⊢
        obtain ⟨k, u⟩ := r
        simp only at hle hon
        refine CallK.intro b109 rfl kB ?_
        by_cases hk2 : k = 2
        · subst hk2
          have e1 : uRes (2, u) = .tup [.v (.int .u64 u), .ifc 260 (.v (.int .i64 2))] := rfl
          have e2 : iRes (intOf false (2, u)) = .tup [.v (.int .i64 0), .ifc 260 (.v (.int .i64 2))] := rfl
          rw [e1, e2]
          simp only [tyP, tyQ, hne, ea, tk, h640, w63, w631, wsh, wsh', wm1, wm2, wm3, wm4, z21, z11, n43, evS, tyS, Bool.not_true, Bool.not_false, Nat.reduceAdd, Nat.reduceSub, Nat.reduceMul, Nat.reduceLT, Nat.reduceLeDiff, Nat.reduceEqDiff, reduceCtorEq, List.reduceReplicate, Int.reduceToNat, Int.reduceLE, Int.reduceLT]
          all_goals try (((try simp only [decide_eq_true_eq, decide_eq_false_iff_not, beq_iff_eq, bne_iff_ne, ne_eq, beq_eq_false_iff_ne, bne_eq_false_iff_eq] at *) <;> (try omega)); done)
        · by_cases hbig : 9223372036854775808 ≤ u
          · have e2 : iRes (intOf false (k, u)) = .tup [.v (.int .i64 9223372036854775807), .ifc 260 (.v (.int .i64 1))] := by
              unfold intOf
              rw [if_neg hk2]
              simp [hbig, iRes, uErr]
            rw [e2]
            have d1 : decide (9223372036854775808 ≤ u) = true := decide_eq_true hbig
            have d2 : decide ((9223372036854775808 : Int) ≤ (u : Int)) = true := decide_eq_true (by omega)
            rcases (show k = 0 ∨ k = 1 by omega) with rfl | rfl
            · have e1 : uRes (0, u) = .tup [.v (.int .u64 u), .v .nilIface] := rfl
              rw [e1]
              simp only [tyP, tyQ, hne, ea, tk, h640, w63, w631, wsh, wsh', wm1, wm2, wm3, wm4, z21, z11, n43, d1, d2, evS, tyS, Bool.not_true, Bool.not_false, Nat.reduceAdd, Nat.reduceSub, Nat.reduceMul, Nat.reduceLT, Nat.reduceLeDiff, Nat.reduceEqDiff, reduceCtorEq, List.reduceReplicate, Int.reduceToNat, Int.reduceLE, Int.reduceLT]
              all_goals try (((try simp only [decide_eq_true_eq, decide_eq_false_iff_not, beq_iff_eq, bne_iff_ne, ne_eq, beq_eq_false_iff_ne, bne_eq_false_iff_eq] at *) <;> (try omega)); done)
            · have e1 : uRes (1, u) = .tup [.v (.int .u64 u), .ifc 260 (.v (.int .i64 1))] := rfl
              rw [e1]
              simp only [tyP, tyQ, hne, ea, tk, h640, w63, w631, wsh, wsh', wm1, wm2, wm3, wm4, z21, z11, n43, d1, d2, evS, tyS, Bool.not_true, Bool.not_false, Nat.reduceAdd, Nat.reduceSub, Nat.reduceMul, Nat.reduceLT, Nat.reduceLeDiff, Nat.reduceEqDiff, reduceCtorEq, List.reduceReplicate, Int.reduceToNat, Int.reduceLE, Int.reduceLT]
              all_goals try (((try simp only [decide_eq_true_eq, decide_eq_false_iff_not, beq_iff_eq, bne_iff_ne, ne_eq, beq_eq_false_iff_ne, bne_eq_false_iff_eq] at *) <;> (try omega)); done)
          · have hk0 : k = 0 := by
              by_cases h1 : k = 1
              · have := hon h1; omega
              · omega
            subst hk0
            have e1 : uRes (0, u) = .tup [.v (.int .u64 u), .v .nilIface] := rfl
            have e2 : iRes (intOf false (0, u)) = .tup [.v (.int .i64 ((u : Int))), .v .nilIface] := by
              unfold intOf
              rw [if_neg hk2]
              simp [hbig, iRes, uErr]
            rw [e1, e2]
            have d1 : decide (9223372036854775808 ≤ u) = false := decide_eq_false hbig
            have d2 : decide ((9223372036854775808 : Int) ≤ (u : Int)) = false := decide_eq_false (by omega)
            have wu : IntKind.i64.wrap (u : Int) = (u : Int) := by rw [i64w] <;> omega
            simp only [tyP, tyQ, hne, ea, tk, h640, w63, w631, wsh, wsh', wm1, wm2, wm3, wm4, z21, z11, n43, d1, d2, wu, evS, tyS, Bool.not_true, Bool.not_false, Nat.reduceAdd, Nat.reduceSub, Nat.reduceMul, Nat.reduceLT, Nat.reduceLeDiff, Nat.reduceEqDiff, reduceCtorEq, List.reduceReplicate, Int.reduceToNat, Int.reduceLE, Int.reduceLT]
            all_goals try (((try simp only [decide_eq_true_eq, decide_eq_false_iff_not, beq_iff_eq, bne_iff_ne, ne_eq, beq_eq_false_iff_ne, bne_eq_false_iff_eq] at *) <;> (try omega)); done)
      · have n43 : ((atL l 0 : Int) == 43) = false := by simp; omega
        by_cases s2 : atL l 0 = 45
        · have n45 : ((atL l 0 : Int) == 45) = true := by simp; omega
          have es : signed l = (true, l.drop 1) := by unfold signed; rw [if_neg s1, if_pos s2]
          rw [es]
          simp only [Tryz.f169, tyP, tyQ, hne, ea, tk, n43, n45, evS, tyS, Bool.not_true, Bool.not_false, Nat.reduceAdd, Nat.reduceSub, Nat.reduceMul, Nat.reduceLT, Nat.reduceLeDiff, Nat.reduceEqDiff, reduceCtorEq, List.reduceReplicate, Int.reduceToNat, Int.reduceLE, Int.reduceLT]
          (repeat' (first | (with_reducible refine And.intro ?_ ?_) | ((first | refine GuardK.intro_f (fun h => ?_) (fun h => ?_) | refine GuardK.intro_t (fun h => ?_) (fun h => ?_) | refine CondK.intro (fun h => ?_) (fun h => ?_) | refine PickK.intro (fun h => ?_) (fun h => ?_)) <;> simp only [h, tyP, tyQ, hne, ea, tk, n43, n45, evS, tyS, Bool.not_true, Bool.not_false, Nat.reduceAdd, Nat.reduceSub, Nat.reduceMul, Nat.reduceLT, Nat.reduceLeDiff, Nat.reduceEqDiff, reduceCtorEq, List.reduceReplicate, Int.reduceToNat, Int.reduceLE, Int.reduceLT]) | (refine DrawK.intro (by kernel_rfl) (by kernel_rfl) ?_; simp only [tyP, tyQ, hne, ea, tk, n43, n45, evS, tyS, Bool.not_true, Bool.not_false, Nat.reduceAdd, Nat.reduceSub, Nat.reduceMul, Nat.reduceLT, Nat.reduceLeDiff, Nat.reduceEqDiff, reduceCtorEq, List.reduceReplicate, Int.reduceToNat, Int.reduceLE, Int.reduceLT])))
          all_goals try (((try simp only [decide_eq_true_eq, decide_eq_false_iff_not, beq_iff_eq, bne_iff_ne, ne_eq, beq_eq_false_iff_ne, bne_eq_false_iff_eq] at *) <;> (try omega)); done)
          have kB := kA (l.drop 1) hdl
          have hle := scanW_le 18446744073709551615 (l.drop 1)
          have hon := scanW_one 18446744073709551615 (l.drop 1)
          generalize scanW 18446744073709551615 (l.drop 1) = r at kB hle hon ⊢
          obtain ⟨k, u⟩ := r
          simp only at hle hon
          refine CallK.intro b109 rfl kB ?_
          by_cases hk2 : k = 2
          · subst hk2
            have e1 : uRes (2, u) = .tup [.v (.int .u64 u), .ifc 260 (.v (.int .i64 2))] := rfl
            have e2 : iRes (intOf true (2, u)) = .tup [.v (.int .i64 0), .ifc 260 (.v (.int .i64 2))] := rfl
            rw [e1, e2]
            simp only [tyP, tyQ, hne, ea, tk, h640, w63, w631, wsh, wsh', wm1, wm2, wm3, wm4, z21, z11, n43, n45, evS, tyS, Bool.not_true, Bool.not_false, Nat.reduceAdd, Nat.reduceSub, Nat.reduceMul, Nat.reduceLT, Nat.reduceLeDiff, Nat.reduceEqDiff, reduceCtorEq, List.reduceReplicate, Int.reduceToNat, Int.reduceLE, Int.reduceLT]
            all_goals try (((try simp only [decide_eq_true_eq, decide_eq_false_iff_not, beq_iff_eq, bne_iff_ne, ne_eq, beq_eq_false_iff_ne, bne_eq_false_iff_eq] at *) <;> (try omega)); done)
          · by_cases hbig : 9223372036854775808 < u
            · have e2 : iRes (intOf true (k, u)) = .tup [.v (.int .i64 (-9223372036854775808)), .ifc 260 (.v (.int .i64 1))] := by
                unfold intOf
                rw [if_neg hk2]
                simp [hbig, iRes, uErr]
              rw [e2]
              have d1 : decide (9223372036854775808 < u) = true := decide_eq_true hbig
              have d2 : decide ((9223372036854775808 : Int) < (u : Int)) = true := decide_eq_true (by omega)
              rcases (show k = 0 ∨ k = 1 by omega) with rfl | rfl
              · have e1 : uRes (0, u) = .tup [.v (.int .u64 u), .v .nilIface] := rfl
                rw [e1]
                simp only [tyP, tyQ, hne, ea, tk, h640, w63, w631, wsh, wsh', wm1, wm2, wm3, wm4, z21, z11, n43, n45, d1, d2, evS, tyS, Bool.not_true, Bool.not_false, Nat.reduceAdd, Nat.reduceSub, Nat.reduceMul, Nat.reduceLT, Nat.reduceLeDiff, Nat.reduceEqDiff, reduceCtorEq, List.reduceReplicate, Int.reduceToNat, Int.reduceLE, Int.reduceLT]
                all_goals try (((try simp only [decide_eq_true_eq, decide_eq_false_iff_not, beq_iff_eq, bne_iff_ne, ne_eq, beq_eq_false_iff_ne, bne_eq_false_iff_eq] at *) <;> (try omega)); done)
              · have e1 : uRes (1, u) = .tup [.v (.int .u64 u), .ifc 260 (.v (.int .i64 1))] := rfl
                rw [e1]
                simp only [tyP, tyQ, hne, ea, tk, h640, w63, w631, wsh, wsh', wm1, wm2, wm3, wm4, z21, z11, n43, n45, d1, d2, evS, tyS, Bool.not_true, Bool.not_false, Nat.reduceAdd, Nat.reduceSub, Nat.reduceMul, Nat.reduceLT, Nat.reduceLeDiff, Nat.reduceEqDiff, reduceCtorEq, List.reduceReplicate, Int.reduceToNat, Int.reduceLE, Int.reduceLT]
                all_goals try (((try simp only [decide_eq_true_eq, decide_eq_false_iff_not, beq_iff_eq, bne_iff_ne, ne_eq, beq_eq_false_iff_ne, bne_eq_false_iff_eq] at *) <;> (try omega)); done)
            · have hk0 : k = 0 := by
                by_cases h1 : k = 1
                · have := hon h1; omega
                · omega
              subst hk0
              have e1 : uRes (0, u) = .tup [.v (.int .u64 u), .v .nilIface] := rfl
              have e2 : iRes (intOf true (0, u)) = .tup [.v (.int .i64 (-(u : Int))), .v .nilIface] := by
                unfold intOf
                rw [if_neg hk2]
                simp [hbig, iRes, uErr]
              rw [e1, e2]
              have d1 : decide (9223372036854775808 < u) = false := decide_eq_false hbig
              have d2 : decide ((9223372036854775808 : Int) < (u : Int)) = false := decide_eq_false (by omega)
              by_cases hmin : u = 9223372036854775808
              · subst hmin
                have wn : IntKind.i64.wrap ((9223372036854775808 : Nat) : Int) = -9223372036854775808 := by decide
                simp only [tyP, tyQ, hne, ea, tk, h640, w63, w631, wsh, wsh', wm1, wm2, wm3, wm4, z21, z11, n43, n45, d1, d2, wn, evS, tyS, Bool.not_true, Bool.not_false, Nat.reduceAdd, Nat.reduceSub, Nat.reduceMul, Nat.reduceLT, Nat.reduceLeDiff, Nat.reduceEqDiff, reduceCtorEq, List.reduceReplicate, Int.reduceToNat, Int.reduceLE, Int.reduceLT]
                all_goals try (((try simp only [decide_eq_true_eq, decide_eq_false_iff_not, beq_iff_eq, bne_iff_ne, ne_eq, beq_eq_false_iff_ne, bne_eq_false_iff_eq] at *) <;> (try omega)); done)
                all_goals rfl
              · have wu : IntKind.i64.wrap (u : Int) = (u : Int) := by rw [i64w] <;> omega
                have wv : IntKind.i64.wrap (0 - (u : Int)) = -(u : Int) := by rw [i64w (by omega) (by omega)]; omega
                simp only [tyP, tyQ, hne, ea, tk, h640, w63, w631, wsh, wsh', wm1, wm2, wm3, wm4, z21, z11, n43, n45, d1, d2, wu, wv, evS, tyS, Bool.not_true, Bool.not_false, Nat.reduceAdd, Nat.reduceSub, Nat.reduceMul, Nat.reduceLT, Nat.reduceLeDiff, Nat.reduceEqDiff, reduceCtorEq, List.reduceReplicate, Int.reduceToNat, Int.reduceLE, Int.reduceLT]
                all_goals try (((try simp only [decide_eq_true_eq, decide_eq_false_iff_not, beq_iff_eq, bne_iff_ne, ne_eq, beq_eq_false_iff_ne, bne_eq_false_iff_eq] at *) <;> (try omega)); done)
        · have n45 : ((atL l 0 : Int) == 45) = false := by simp; omega
          have es : signed l = (false, l) := by unfold signed; rw [if_neg s1, if_neg s2]
          rw [es]
          simp only [Tryz.f169, tyP, tyQ, hne, ea, tk, n43, n45, evS, tyS, Bool.not_true, Bool.not_false, Nat.reduceAdd, Nat.reduceSub, Nat.reduceMul, Nat.reduceLT, Nat.reduceLeDiff, Nat.reduceEqDiff, reduceCtorEq, List.reduceReplicate, Int.reduceToNat, Int.reduceLE, Int.reduceLT]
          (repeat' (first | (with_reducible refine And.intro ?_ ?_) | ((first | refine GuardK.intro_f (fun h => ?_) (fun h => ?_) | refine GuardK.intro_t (fun h => ?_) (fun h => ?_) | refine CondK.intro (fun h => ?_) (fun h => ?_) | refine PickK.intro (fun h => ?_) (fun h => ?_)) <;> simp only [h, tyP, tyQ, hne, ea, tk, n43, n45, evS, tyS, Bool.not_true, Bool.not_false, Nat.reduceAdd, Nat.reduceSub, Nat.reduceMul, Nat.reduceLT, Nat.reduceLeDiff, Nat.reduceEqDiff, reduceCtorEq, List.reduceReplicate, Int.reduceToNat, Int.reduceLE, Int.reduceLT]) | (refine DrawK.intro (by kernel_rfl) (by kernel_rfl) ?_; simp only [tyP, tyQ, hne, ea, tk, n43, n45, evS, tyS, Bool.not_true, Bool.not_false, Nat.reduceAdd, Nat.reduceSub, Nat.reduceMul, Nat.reduceLT, Nat.reduceLeDiff, Nat.reduceEqDiff, reduceCtorEq, List.reduceReplicate, Int.reduceToNat, Int.reduceLE, Int.reduceLT])))
          all_goals try (((try simp only [decide_eq_true_eq, decide_eq_false_iff_not, beq_iff_eq, bne_iff_ne, ne_eq, beq_eq_false_iff_ne, bne_eq_false_iff_eq] at *) <;> (try omega)); done)
          have kB := kA l hl
          have hle := scanW_le 18446744073709551615 l
          have hon := scanW_one 18446744073709551615 l
          generalize scanW 18446744073709551615 l = r at kB hle hon ⊢
          obtain ⟨k, u⟩ := r
          simp only at hle hon
          refine CallK.intro b109 rfl kB ?_
          by_cases hk2 : k = 2
          · subst hk2
            have e1 : uRes (2, u) = .tup [.v (.int .u64 u), .ifc 260 (.v (.int .i64 2))] := rfl
            have e2 : iRes (intOf false (2, u)) = .tup [.v (.int .i64 0), .ifc 260 (.v (.int .i64 2))] := rfl
            rw [e1, e2]
            simp only [tyP, tyQ, hne, ea, tk, h640, w63, w631, wsh, wsh', wm1, wm2, wm3, wm4, z21, z11, n43, n45, evS, tyS, Bool.not_true, Bool.not_false, Nat.reduceAdd, Nat.reduceSub, Nat.reduceMul, Nat.reduceLT, Nat.reduceLeDiff, Nat.reduceEqDiff, reduceCtorEq, List.reduceReplicate, Int.reduceToNat, Int.reduceLE, Int.reduceLT]
            all_goals try (((try simp only [decide_eq_true_eq, decide_eq_false_iff_not, beq_iff_eq, bne_iff_ne, ne_eq, beq_eq_false_iff_ne, bne_eq_false_iff_eq] at *) <;> (try omega)); done)
          · by_cases hbig : 9223372036854775808 ≤ u
            · have e2 : iRes (intOf false (k, u)) = .tup [.v (.int .i64 9223372036854775807), .ifc 260 (.v (.int .i64 1))] := by
                unfold intOf
                rw [if_neg hk2]
                simp [hbig, iRes, uErr]
              rw [e2]
              have d1 : decide (9223372036854775808 ≤ u) = true := decide_eq_true hbig
              have d2 : decide ((9223372036854775808 : Int) ≤ (u : Int)) = true := decide_eq_true (by omega)
              rcases (show k = 0 ∨ k = 1 by omega) with rfl | rfl
              · have e1 : uRes (0, u) = .tup [.v (.int .u64 u), .v .nilIface] := rfl
                rw [e1]
                simp only [tyP, tyQ, hne, ea, tk, h640, w63, w631, wsh, wsh', wm1, wm2, wm3, wm4, z21, z11, n43, n45, d1, d2, evS, tyS, Bool.not_true, Bool.not_false, Nat.reduceAdd, Nat.reduceSub, Nat.reduceMul, Nat.reduceLT, Nat.reduceLeDiff, Nat.reduceEqDiff, reduceCtorEq, List.reduceReplicate, Int.reduceToNat, Int.reduceLE, Int.reduceLT]
                all_goals try (((try simp only [decide_eq_true_eq, decide_eq_false_iff_not, beq_iff_eq, bne_iff_ne, ne_eq, beq_eq_false_iff_ne, bne_eq_false_iff_eq] at *) <;> (try omega)); done)
              · have e1 : uRes (1, u) = .tup [.v (.int .u64 u), .ifc 260 (.v (.int .i64 1))] := rfl
                rw [e1]
                simp only [tyP, tyQ, hne, ea, tk, h640, w63, w631, wsh, wsh', wm1, wm2, wm3, wm4, z21, z11, n43, n45, d1, d2, evS, tyS, Bool.not_true, Bool.not_false, Nat.reduceAdd, Nat.reduceSub, Nat.reduceMul, Nat.reduceLT, Nat.reduceLeDiff, Nat.reduceEqDiff, reduceCtorEq, List.reduceReplicate, Int.reduceToNat, Int.reduceLE, Int.reduceLT]
                all_goals try (((try simp only [decide_eq_true_eq, decide_eq_false_iff_not, beq_iff_eq, bne_iff_ne, ne_eq, beq_eq_false_iff_ne, bne_eq_false_iff_eq] at *) <;> (try omega)); done)
            · have hk0 : k = 0 := by
                by_cases h1 : k = 1
                · have := hon h1; omega
                · omega
              subst hk0
              have e1 : uRes (0, u) = .tup [.v (.int .u64 u), .v .nilIface] := rfl
              have e2 : iRes (intOf false (0, u)) = .tup [.v (.int .i64 ((u : Int))), .v .nilIface] := by
                unfold intOf
                rw [if_neg hk2]
                simp [hbig, iRes, uErr]
              rw [e1, e2]
              have d1 : decide (9223372036854775808 ≤ u) = false := decide_eq_false hbig
              have d2 : decide ((9223372036854775808 : Int) ≤ (u : Int)) = false := decide_eq_false (by omega)
              have wu : IntKind.i64.wrap (u : Int) = (u : Int) := by rw [i64w] <;> omega
              simp only [tyP, tyQ, hne, ea, tk, h640, w63, w631, wsh, wsh', wm1, wm2, wm3, wm4, z21, z11, n43, n45, d1, d2, wu, evS, tyS, Bool.not_true, Bool.not_false, Nat.reduceAdd, Nat.reduceSub, Nat.reduceMul, Nat.reduceLT, Nat.reduceLeDiff, Nat.reduceEqDiff, reduceCtorEq, List.reduceReplicate, Int.reduceToNat, Int.reduceLE, Int.reduceLT]
              all_goals try (((try simp only [decide_eq_true_eq, decide_eq_false_iff_not, beq_iff_eq, bne_iff_ne, ne_eq, beq_eq_false_iff_ne, bne_eq_false_iff_eq] at *) <;> (try omega)); done)
    · by_cases s1 : atL l 0 = 43
      · have n43 : ((atL l 0 : Int) == 43) = true := by simp; omega
        have es : signed l = (false, l.drop 1) := by unfold signed; rw [if_pos s1]
        rw [es]
        simp only [Tryz.f169, tyP, tyQ, hne, ea, tk, n43, evS, tyS, Bool.not_true, Bool.not_false, Nat.reduceAdd, Nat.reduceSub, Nat.reduceMul, Nat.reduceLT, Nat.reduceLeDiff, Nat.reduceEqDiff, reduceCtorEq, List.reduceReplicate, Int.reduceToNat, Int.reduceLE, Int.reduceLT]
        (repeat' (first | (with_reducible refine And.intro ?_ ?_) | ((first | refine GuardK.intro_f (fun h => ?_) (fun h => ?_) | refine GuardK.intro_t (fun h => ?_) (fun h => ?_) | refine CondK.intro (fun h => ?_) (fun h => ?_) | refine PickK.intro (fun h => ?_) (fun h => ?_)) <;> simp only [h, tyP, tyQ, hne, ea, tk, n43, evS, tyS, Bool.not_true, Bool.not_false, Nat.reduceAdd, Nat.reduceSub, Nat.reduceMul, Nat.reduceLT, Nat.reduceLeDiff, Nat.reduceEqDiff, reduceCtorEq, List.reduceReplicate, Int.reduceToNat, Int.reduceLE, Int.reduceLT]) | (refine DrawK.intro (by kernel_rfl) (by kernel_rfl) ?_; simp only [tyP, tyQ, hne, ea, tk, n43, evS, tyS, Bool.not_true, Bool.not_false, Nat.reduceAdd, Nat.reduceSub, Nat.reduceMul, Nat.reduceLT, Nat.reduceLeDiff, Nat.reduceEqDiff, reduceCtorEq, List.reduceReplicate, Int.reduceToNat, Int.reduceLE, Int.reduceLT])))
        all_goals try (((try simp only [decide_eq_true_eq, decide_eq_false_iff_not, beq_iff_eq, bne_iff_ne, ne_eq, beq_eq_false_iff_ne, bne_eq_false_iff_eq] at *) <;> (try omega)); done)
        have kB := kA (l.drop 1) hdl
        have hle := scanW_le 18446744073709551615 (l.drop 1)
        have hon := scanW_one 18446744073709551615 (l.drop 1)
        generalize scanW 18446744073709551615 (l.drop 1) = r at kB hle hon ⊢
        obtain ⟨k, u⟩ := r
        simp only at hle hon
        refine CallK.intro b109 rfl kB ?_
        by_cases hk2 : k = 2
        · subst hk2
          have e1 : uRes (2, u) = .tup [.v (.int .u64 u), .ifc 260 (.v (.int .i64 2))] := rfl
          have e2 : iRes (intOf false (2, u)) = .tup [.v (.int .i64 0), .ifc 260 (.v (.int .i64 2))] := rfl
          rw [e1, e2]
          simp only [tyP, tyQ, hne, ea, tk, h640, w63, w631, wsh, wsh', wm1, wm2, wm3, wm4, z21, z11, n43, evS, tyS, Bool.not_true, Bool.not_false, Nat.reduceAdd, Nat.reduceSub, Nat.reduceMul, Nat.reduceLT, Nat.reduceLeDiff, Nat.reduceEqDiff, reduceCtorEq, List.reduceReplicate, Int.reduceToNat, Int.reduceLE, Int.reduceLT]
          all_goals try (((try simp only [decide_eq_true_eq, decide_eq_false_iff_not, beq_iff_eq, bne_iff_ne, ne_eq, beq_eq_false_iff_ne, bne_eq_false_iff_eq] at *) <;> (try omega)); done)
        · by_cases hbig : 9223372036854775808 ≤ u
          · have e2 : iRes (intOf false (k, u)) = .tup [.v (.int .i64 9223372036854775807), .ifc 260 (.v (.int .i64 1))] := by
              unfold intOf
              rw [if_neg hk2]
              simp [hbig, iRes, uErr]
            rw [e2]
            have d1 : decide (9223372036854775808 ≤ u) = true := decide_eq_true hbig
            have d2 : decide ((9223372036854775808 : Int) ≤ (u : Int)) = true := decide_eq_true (by omega)
            rcases (show k = 0 ∨ k = 1 by omega) with rfl | rfl
            · have e1 : uRes (0, u) = .tup [.v (.int .u64 u), .v .nilIface] := rfl
              rw [e1]
              simp only [tyP, tyQ, hne, ea, tk, h640, w63, w631, wsh, wsh', wm1, wm2, wm3, wm4, z21, z11, n43, d1, d2, evS, tyS, Bool.not_true, Bool.not_false, Nat.reduceAdd, Nat.reduceSub, Nat.reduceMul, Nat.reduceLT, Nat.reduceLeDiff, Nat.reduceEqDiff, reduceCtorEq, List.reduceReplicate, Int.reduceToNat, Int.reduceLE, Int.reduceLT]
              all_goals try (((try simp only [decide_eq_true_eq, decide_eq_false_iff_not, beq_iff_eq, bne_iff_ne, ne_eq, beq_eq_false_iff_ne, bne_eq_false_iff_eq] at *) <;> (try omega)); done)
            · have e1 : uRes (1, u) = .tup [.v (.int .u64 u), .ifc 260 (.v (.int .i64 1))] := rfl
              rw [e1]
              simp only [tyP, tyQ, hne, ea, tk, h640, w63, w631, wsh, wsh', wm1, wm2, wm3, wm4, z21, z11, n43, d1, d2, evS, tyS, Bool.not_true, Bool.not_false, Nat.reduceAdd, Nat.reduceSub, Nat.reduceMul, Nat.reduceLT, Nat.reduceLeDiff, Nat.reduceEqDiff, reduceCtorEq, List.reduceReplicate, Int.reduceToNat, Int.reduceLE, Int.reduceLT]
              all_goals try (((try simp only [decide_eq_true_eq, decide_eq_false_iff_not, beq_iff_eq, bne_iff_ne, ne_eq, beq_eq_false_iff_ne, bne_eq_false_iff_eq] at *) <;> (try omega)); done)
          · have hk0 : k = 0 := by
              by_cases h1 : k = 1
              · have := hon h1; omega
              · omega
            subst hk0
            have e1 : uRes (0, u) = .tup [.v (.int .u64 u), .v .nilIface] := rfl
            have e2 : iRes (intOf false (0, u)) = .tup [.v (.int .i64 ((u : Int))), .v .nilIface] := by
              unfold intOf
              rw [if_neg hk2]
              simp [hbig, iRes, uErr]
            rw [e1, e2]
            have d1 : decide (9223372036854775808 ≤ u) = false := decide_eq_false hbig
            have d2 : decide ((9223372036854775808 : Int) ≤ (u : Int)) = false := decide_eq_false (by omega)
            have wu : IntKind.i64.wrap (u : Int) = (u : Int) := by rw [i64w] <;> omega
            simp only [tyP, tyQ, hne, ea, tk, h640, w63, w631, wsh, wsh', wm1, wm2, wm3, wm4, z21, z11, n43, d1, d2, wu, evS, tyS, Bool.not_true, Bool.not_false, Nat.reduceAdd, Nat.reduceSub, Nat.reduceMul, Nat.reduceLT, Nat.reduceLeDiff, Nat.reduceEqDiff, reduceCtorEq, List.reduceReplicate, Int.reduceToNat, Int.reduceLE, Int.reduceLT]
            all_goals try (((try simp only [decide_eq_true_eq, decide_eq_false_iff_not, beq_iff_eq, bne_iff_ne, ne_eq, beq_eq_false_iff_ne, bne_eq_false_iff_eq] at *) <;> (try omega)); done)
      · have n43 : ((atL l 0 : Int) == 43) = false := by simp; omega
        by_cases s2 : atL l 0 = 45
        · have n45 : ((atL l 0 : Int) == 45) = true := by simp; omega
          have es : signed l = (true, l.drop 1) := by unfold signed; rw [if_neg s1, if_pos s2]
          rw [es]
          simp only [Tryz.f169, tyP, tyQ, hne, ea, tk, n43, n45, evS, tyS, Bool.not_true, Bool.not_false, Nat.reduceAdd, Nat.reduceSub, Nat.reduceMul, Nat.reduceLT, Nat.reduceLeDiff, Nat.reduceEqDiff, reduceCtorEq, List.reduceReplicate, Int.reduceToNat, Int.reduceLE, Int.reduceLT]
          (repeat' (first | (with_reducible refine And.intro ?_ ?_) | ((first | refine GuardK.intro_f (fun h => ?_) (fun h => ?_) | refine GuardK.intro_t (fun h => ?_) (fun h => ?_) | refine CondK.intro (fun h => ?_) (fun h => ?_) | refine PickK.intro (fun h => ?_) (fun h => ?_)) <;> simp only [h, tyP, tyQ, hne, ea, tk, n43, n45, evS, tyS, Bool.not_true, Bool.not_false, Nat.reduceAdd, Nat.reduceSub, Nat.reduceMul, Nat.reduceLT, Nat.reduceLeDiff, Nat.reduceEqDiff, reduceCtorEq, List.reduceReplicate, Int.reduceToNat, Int.reduceLE, Int.reduceLT]) | (refine DrawK.intro (by kernel_rfl) (by kernel_rfl) ?_; simp only [tyP, tyQ, hne, ea, tk, n43, n45, evS, tyS, Bool.not_true, Bool.not_false, Nat.reduceAdd, Nat.reduceSub, Nat.reduceMul, Nat.reduceLT, Nat.reduceLeDiff, Nat.reduceEqDiff, reduceCtorEq, List.reduceReplicate, Int.reduceToNat, Int.reduceLE, Int.reduceLT])))
          all_goals try (((try simp only [decide_eq_true_eq, decide_eq_false_iff_not, beq_iff_eq, bne_iff_ne, ne_eq, beq_eq_false_iff_ne, bne_eq_false_iff_eq] at *) <;> (try omega)); done)
          have kB := kA (l.drop 1) hdl
          have hle := scanW_le 18446744073709551615 (l.drop 1)
          have hon := scanW_one 18446744073709551615 (l.drop 1)
          generalize scanW 18446744073709551615 (l.drop 1) = r at kB hle hon ⊢
          obtain ⟨k, u⟩ := r
          simp only at hle hon
          refine CallK.intro b109 rfl kB ?_
          by_cases hk2 : k = 2
          · subst hk2
            have e1 : uRes (2, u) = .tup [.v (.int .u64 u), .ifc 260 (.v (.int .i64 2))] := rfl
            have e2 : iRes (intOf true (2, u)) = .tup [.v (.int .i64 0), .ifc 260 (.v (.int .i64 2))] := rfl
            rw [e1, e2]
            simp only [tyP, tyQ, hne, ea, tk, h640, w63, w631, wsh, wsh', wm1, wm2, wm3, wm4, z21, z11, n43, n45, evS, tyS, Bool.not_true, Bool.not_false, Nat.reduceAdd, Nat.reduceSub, Nat.reduceMul, Nat.reduceLT, Nat.reduceLeDiff, Nat.reduceEqDiff, reduceCtorEq, List.reduceReplicate, Int.reduceToNat, Int.reduceLE, Int.reduceLT]
            all_goals try (((try simp only [decide_eq_true_eq, decide_eq_false_iff_not, beq_iff_eq, bne_iff_ne, ne_eq, beq_eq_false_iff_ne, bne_eq_false_iff_eq] at *) <;> (try omega)); done)
          · by_cases hbig : 9223372036854775808 < u
            · have e2 : iRes (intOf true (k, u)) = .tup [.v (.int .i64 (-9223372036854775808)), .ifc 260 (.v (.int .i64 1))] := by
                unfold intOf
                rw [if_neg hk2]
                simp [hbig, iRes, uErr]
              rw [e2]
              have d1 : decide (9223372036854775808 < u) = true := decide_eq_true hbig
              have d2 : decide ((9223372036854775808 : Int) < (u : Int)) = true := decide_eq_true (by omega)
              rcases (show k = 0 ∨ k = 1 by omega) with rfl | rfl
              · have e1 : uRes (0, u) = .tup [.v (.int .u64 u), .v .nilIface] := rfl
                rw [e1]
                simp only [tyP, tyQ, hne, ea, tk, h640, w63, w631, wsh, wsh', wm1, wm2, wm3, wm4, z21, z11, n43, n45, d1, d2, evS, tyS, Bool.not_true, Bool.not_false, Nat.reduceAdd, Nat.reduceSub, Nat.reduceMul, Nat.reduceLT, Nat.reduceLeDiff, Nat.reduceEqDiff, reduceCtorEq, List.reduceReplicate, Int.reduceToNat, Int.reduceLE, Int.reduceLT]
                all_goals try (((try simp only [decide_eq_true_eq, decide_eq_false_iff_not, beq_iff_eq, bne_iff_ne, ne_eq, beq_eq_false_iff_ne, bne_eq_false_iff_eq] at *) <;> (try omega)); done)
              · have e1 : uRes (1, u) = .tup [.v (.int .u64 u), .ifc 260 (.v (.int .i64 1))] := rfl
                rw [e1]
                simp only [tyP, tyQ, hne, ea, tk, h640, w63, w631, wsh, wsh', wm1, wm2, wm3, wm4, z21, z11, n43, n45, d1, d2, evS, tyS, Bool.not_true, Bool.not_false, Nat.reduceAdd, Nat.reduceSub, Nat.reduceMul, Nat.reduceLT, Nat.reduceLeDiff, Nat.reduceEqDiff, reduceCtorEq, List.reduceReplicate, Int.reduceToNat, Int.reduceLE, Int.reduceLT]
                all_goals try (((try simp only [decide_eq_true_eq, decide_eq_false_iff_not, beq_iff_eq, bne_iff_ne, ne_eq, beq_eq_false_iff_ne, bne_eq_false_iff_eq] at *) <;> (try omega)); done)
            · have hk0 : k = 0 := by
                by_cases h1 : k = 1
                · have := hon h1; omega
                · omega
              subst hk0
              have e1 : uRes (0, u) = .tup [.v (.int .u64 u), .v .nilIface] := rfl
              have e2 : iRes (intOf true (0, u)) = .tup [.v (.int .i64 (-(u : Int))), .v .nilIface] := by
                unfold intOf
                rw [if_neg hk2]
                simp [hbig, iRes, uErr]
              rw [e1, e2]
              have d1 : decide (9223372036854775808 < u) = false := decide_eq_false hbig
              have d2 : decide ((9223372036854775808 : Int) < (u : Int)) = false := decide_eq_false (by omega)
              by_cases hmin : u = 9223372036854775808
              · subst hmin
                have wn : IntKind.i64.wrap ((9223372036854775808 : Nat) : Int) = -9223372036854775808 := by decide
                simp only [tyP, tyQ, hne, ea, tk, h640, w63, w631, wsh, wsh', wm1, wm2, wm3, wm4, z21, z11, n43, n45, d1, d2, wn, evS, tyS, Bool.not_true, Bool.not_false, Nat.reduceAdd, Nat.reduceSub, Nat.reduceMul, Nat.reduceLT, Nat.reduceLeDiff, Nat.reduceEqDiff, reduceCtorEq, List.reduceReplicate, Int.reduceToNat, Int.reduceLE, Int.reduceLT]
                all_goals try (((try simp only [decide_eq_true_eq, decide_eq_false_iff_not, beq_iff_eq, bne_iff_ne, ne_eq, beq_eq_false_iff_ne, bne_eq_false_iff_eq] at *) <;> (try omega)); done)
                all_goals rfl
              · have wu : IntKind.i64.wrap (u : Int) = (u : Int) := by rw [i64w] <;> omega
                have wv : IntKind.i64.wrap (0 - (u : Int)) = -(u : Int) := by rw [i64w (by omega) (by omega)]; omega
                simp only [tyP, tyQ, hne, ea, tk, h640, w63, w631, wsh, wsh', wm1, wm2, wm3, wm4, z21, z11, n43, n45, d1, d2, wu, wv, evS, tyS, Bool.not_true, Bool.not_false, Nat.reduceAdd, Nat.reduceSub, Nat.reduceMul, Nat.reduceLT, Nat.reduceLeDiff, Nat.reduceEqDiff, reduceCtorEq, List.reduceReplicate, Int.reduceToNat, Int.reduceLE, Int.reduceLT]
                all_goals try (((try simp only [decide_eq_true_eq, decide_eq_false_iff_not, beq_iff_eq, bne_iff_ne, ne_eq, beq_eq_false_iff_ne, bne_eq_false_iff_eq] at *) <;> (try omega)); done)
        · have n45 : ((atL l 0 : Int) == 45) = false := by simp; omega
          have es : signed l = (false, l) := by unfold signed; rw [if_neg s1, if_neg s2]
          rw [es]
          simp only [Tryz.f169, tyP, tyQ, hne, ea, tk, n43, n45, evS, tyS, Bool.not_true, Bool.not_false, Nat.reduceAdd, Nat.reduceSub, Nat.reduceMul, Nat.reduceLT, Nat.reduceLeDiff, Nat.reduceEqDiff, reduceCtorEq, List.reduceReplicate, Int.reduceToNat, Int.reduceLE, Int.reduceLT]
          (repeat' (first | (with_reducible refine And.intro ?_ ?_) | ((first | refine GuardK.intro_f (fun h => ?_) (fun h => ?_) | refine GuardK.intro_t (fun h => ?_) (fun h => ?_) | refine CondK.intro (fun h => ?_) (fun h => ?_) | refine PickK.intro (fun h => ?_) (fun h => ?_)) <;> simp only [h, tyP, tyQ, hne, ea, tk, n43, n45, evS, tyS, Bool.not_true, Bool.not_false, Nat.reduceAdd, Nat.reduceSub, Nat.reduceMul, Nat.reduceLT, Nat.reduceLeDiff, Nat.reduceEqDiff, reduceCtorEq, List.reduceReplicate, Int.reduceToNat, Int.reduceLE, Int.reduceLT]) | (refine DrawK.intro (by kernel_rfl) (by kernel_rfl) ?_; simp only [tyP, tyQ, hne, ea, tk, n43, n45, evS, tyS, Bool.not_true, Bool.not_false, Nat.reduceAdd, Nat.reduceSub, Nat.reduceMul, Nat.reduceLT, Nat.reduceLeDiff, Nat.reduceEqDiff, reduceCtorEq, List.reduceReplicate, Int.reduceToNat, Int.reduceLE, Int.reduceLT])))
          all_goals try (((try simp only [decide_eq_true_eq, decide_eq_false_iff_not, beq_iff_eq, bne_iff_ne, ne_eq, beq_eq_false_iff_ne, bne_eq_false_iff_eq] at *) <;> (try omega)); done)
          have kB := kA l hl
          have hle := scanW_le 18446744073709551615 l
          have hon := scanW_one 18446744073709551615 l
          generalize scanW 18446744073709551615 l = r at kB hle hon ⊢
          obtain ⟨k, u⟩ := r
          simp only at hle hon
          refine CallK.intro b109 rfl kB ?_
          by_cases hk2 : k = 2
          · subst hk2
            have e1 : uRes (2, u) = .tup [.v (.int .u64 u), .ifc 260 (.v (.int .i64 2))] := rfl
            have e2 : iRes (intOf false (2, u)) = .tup [.v (.int .i64 0), .ifc 260 (.v (.int .i64 2))] := rfl
            rw [e1, e2]
            simp only [tyP, tyQ, hne, ea, tk, h640, w63, w631, wsh, wsh', wm1, wm2, wm3, wm4, z21, z11, n43, n45, evS, tyS, Bool.not_true, Bool.not_false, Nat.reduceAdd, Nat.reduceSub, Nat.reduceMul, Nat.reduceLT, Nat.reduceLeDiff, Nat.reduceEqDiff, reduceCtorEq, List.reduceReplicate, Int.reduceToNat, Int.reduceLE, Int.reduceLT]
            all_goals try (((try simp only [decide_eq_true_eq, decide_eq_false_iff_not, beq_iff_eq, bne_iff_ne, ne_eq, beq_eq_false_iff_ne, bne_eq_false_iff_eq] at *) <;> (try omega)); done)
          · by_cases hbig : 9223372036854775808 ≤ u
            · have e2 : iRes (intOf false (k, u)) = .tup [.v (.int .i64 9223372036854775807), .ifc 260 (.v (.int .i64 1))] := by
                unfold intOf
                rw [if_neg hk2]
                simp [hbig, iRes, uErr]
              rw [e2]
              have d1 : decide (9223372036854775808 ≤ u) = true := decide_eq_true hbig
              have d2 : decide ((9223372036854775808 : Int) ≤ (u : Int)) = true := decide_eq_true (by omega)
              rcases (show k = 0 ∨ k = 1 by omega) with rfl | rfl
              · have e1 : uRes (0, u) = .tup [.v (.int .u64 u), .v .nilIface] := rfl
                rw [e1]
                simp only [tyP, tyQ, hne, ea, tk, h640, w63, w631, wsh, wsh', wm1, wm2, wm3, wm4, z21, z11, n43, n45, d1, d2, evS, tyS, Bool.not_true, Bool.not_false, Nat.reduceAdd, Nat.reduceSub, Nat.reduceMul, Nat.reduceLT, Nat.reduceLeDiff, Nat.reduceEqDiff, reduceCtorEq, List.reduceReplicate, Int.reduceToNat, Int.reduceLE, Int.reduceLT]
                all_goals try (((try simp only [decide_eq_true_eq, decide_eq_false_iff_not, beq_iff_eq, bne_iff_ne, ne_eq, beq_eq_false_iff_ne, bne_eq_false_iff_eq] at *) <;> (try omega)); done)
              · have e1 : uRes (1, u) = .tup [.v (.int .u64 u), .ifc 260 (.v (.int .i64 1))] := rfl
                rw [e1]
                simp only [tyP, tyQ, hne, ea, tk, h640, w63, w631, wsh, wsh', wm1, wm2, wm3, wm4, z21, z11, n43, n45, d1, d2, evS, tyS, Bool.not_true, Bool.not_false, Nat.reduceAdd, Nat.reduceSub, Nat.reduceMul, Nat.reduceLT, Nat.reduceLeDiff, Nat.reduceEqDiff, reduceCtorEq, List.reduceReplicate, Int.reduceToNat, Int.reduceLE, Int.reduceLT]
                all_goals try (((try simp only [decide_eq_true_eq, decide_eq_false_iff_not, beq_iff_eq, bne_iff_ne, ne_eq, beq_eq_false_iff_ne, bne_eq_false_iff_eq] at *) <;> (try omega)); done)
            · have hk0 : k = 0 := by
                by_cases h1 : k = 1
                · have := hon h1; omega
                · omega
              subst hk0
              have e1 : uRes (0, u) = .tup [.v (.int .u64 u), .v .nilIface] := rfl
              have e2 : iRes (intOf false (0, u)) = .tup [.v (.int .i64 ((u : Int))), .v .nilIface] := by
                unfold intOf
                rw [if_neg hk2]
                simp [hbig, iRes, uErr]
              rw [e1, e2]
              have d1 : decide (9223372036854775808 ≤ u) = false := decide_eq_false hbig
              have d2 : decide ((9223372036854775808 : Int) ≤ (u : Int)) = false := decide_eq_false (by omega)
              have wu : IntKind.i64.wrap (u : Int) = (u : Int) := by rw [i64w] <;> omega
              simp only [tyP, tyQ, hne, ea, tk, h640, w63, w631, wsh, wsh', wm1, wm2, wm3, wm4, z21, z11, n43, n45, d1, d2, wu, evS, tyS, Bool.not_true, Bool.not_false, Nat.reduceAdd, Nat.reduceSub, Nat.reduceMul, Nat.reduceLT, Nat.reduceLeDiff, Nat.reduceEqDiff, reduceCtorEq, List.reduceReplicate, Int.reduceToNat, Int.reduceLE, Int.reduceLT]
              all_goals try (((try simp only [decide_eq_true_eq, decide_eq_false_iff_not, beq_iff_eq, bne_iff_ne, ne_eq, beq_eq_false_iff_ne, bne_eq_false_iff_eq] at *) <;> (try omega)); done)
end Go.Proofs.YtlobiioioicmhaaGreatDoor
/- strconv's writers at base 10, the table known by its cells alone (the worked proofs of the shelf, turned). -/
namespace Go.Proofs.YtlobiioioicmhaaGreatDoor
set_option linter.all false
open Go Go.Proofs Go.Shelf Go.RowKit Go.Sort Go.Lib
def tabC (g : Nat) (w : World) : Prop := ∀ i, i < 20 → w.cell? ⟨g, i, none⟩ = some (.int .u64 ((10 ^ i : Nat) : Int))
theorem tabC_alloc {g : Nat} {w : World} (h : tabC g w) (o : Obj) : tabC g (w.alloc o) := fun i hi => by
  have h0 := h i hi
  have hlt : g < w.heap.size := by
    rcases Nat.lt_or_ge g w.heap.size with h' | h'
    · exact h'
    · unfold World.cell? at h0
      simp only [Array.getElem?_eq_none h'] at h0
      cases h0
  exact (World.cell?_alloc_lt _ _ ⟨g, i, none⟩ hlt).trans h0
section
variable {P : Program} {ρ : Ren}
set_option maxHeartbeats 6400000 in
set_option maxRecDepth 100000 in
theorem digits_cells (L : LaysM.n284 P ρ) (u : Nat) (h1 : 1 ≤ u) (h2 : u < 18446744073709551616) (w : World)
    (htab : tabC (ρ.g 17) w) :
    Calls P (ρ.f 284) #[.int .u64 u] w fun e w' => e = .returned (.int .i64 (Lib.nDigits u)) ∧ w' = w := by
  have mixed := L.mixed
  have t53 := L.t53; have a53 := L.a53; have z53 := L.z53; have v53 := L.v53
  have t3 := L.t3; have a3 := L.a3; have z3 := L.z3; have v3 := L.v3
  have t212 := L.t212; have a212 := L.a212; have z212 := L.z212; have v212 := L.v212
  have t0 := L.t0; have a0 := L.a0; have z0 := L.z0; have v0 := L.v0
  have t4 := L.t4; have a4 := L.a4; have z4 := L.z4; have v4 := L.v4
  have e129 : ∀ args w, (callFunc (ρ.f 129) args).run P w = .ok (.enter (ρ.f 129) args) w := enters_of L.f129 (by kernel_rfl) rfl
  have e317 : ∀ args w, (callFunc (ρ.f 317) args).run P w = .ok (.enter (ρ.f 317) args) w := enters_of L.f317 (by kernel_rfl) rfl
  have e318 : ∀ args w, (callFunc (ρ.f 318) args).run P w = .ok (.enter (ρ.f 318) args) w := enters_of L.f318 (by kernel_rfl) rfl
  obtain ⟨hnd, h19⟩ := Lib.numDigits_eq u h1 h2
  have hL : Lib.bitLen u ≤ 64 := Lib.bitLen_le u 64 (Nat.le_refl _) h2
  have hcell : w.cell? ⟨(ρ.g 17), Lib.l10 (Lib.bitLen u), none⟩ = some (.int .u64 ((10 ^ Lib.l10 (Lib.bitLen u) : Nat) : Int)) := by
    exact htab _ (by omega)
  have hto : ((u : Int)).toNat = u := by omega
  -- the two numbers under names (the equations stay: by them the walk writes the names in)
  generalize hq : Lib.l10 (Lib.bitLen u) = q at hnd h19 hcell
  generalize hT : 10 ^ q = T at hnd hcell
  have h20 : q < 20 := by omega
  have Hnd := Lib.hid hnd
  clear hnd htab
  go_enter L.f284, Body.n284_ntmps ρ
  go_wp2_with (first
    | (go_at_fn (ρ.f 129); refine (Any.bits_Len64 { L with } _ _ (by omega) (by omega)).mono ?_; rintro e w' ⟨rfl, rfl⟩)
    | (go_at_fn (ρ.f 317); refine (Any.internal_strconv_log10Pow2 { L with } _ (by first | exact hL | (rw [hto]; exact hL)) _).mono ?_; rintro e w' ⟨rfl, rfl⟩)
    | (go_at_fn (ρ.f 318); refine (Any.internal_strconv_bool2_int { L with } _ _).mono ?_; rintro e w' ⟨rfl, rfl⟩))
  all_goals go_ret
  all_goals (
    refine ⟨?_, rfl⟩
    have hnd := Hnd.out
    congr 2
    split at hnd <;> simp_all <;> omega)
set_option maxHeartbeats 6400000 in
set_option maxRecDepth 100000 in
theorem formatInt_cells (L : LaysM.n246 P ρ) (n : Int) (h0 : -9223372036854775808 ≤ n) (h1 : n ≤ 9223372036854775807) (w : World)
    (htab : tabC (ρ.g 17) w) :
    Calls P (ρ.f 246) #[.int .i64 n, .int .i64 10] w fun e w' => e = .returned (.string ⟨(Lib.itoa n).toArray⟩) ∧ ∃ k os, w' = grow (w.drewN k) os := by
  have mixed := L.mixed
  have t2 := L.t2; have a2 := L.a2; have z2 := L.z2; have v2 := L.v2
  have t3 := L.t3; have a3 := L.a3; have z3 := L.z3; have v3 := L.v3
  have t9 := L.t9; have a9 := L.a9; have z9 := L.z9; have v9 := L.v9
  have t4 := L.t4; have a4 := L.a4; have z4 := L.z4; have v4 := L.v4
  have t171 := L.t171; have a171 := L.a171; have z171 := L.z171; have v171 := L.v171
  have t0 := L.t0; have a0 := L.a0; have z0 := L.z0; have v0 := L.v0
  have t53 := L.t53; have a53 := L.a53; have z53 := L.z53; have v53 := L.v53
  have t37 := L.t37; have a37 := L.a37; have z37 := L.z37; have v37 := L.v37
  have t5 := L.t5; have a5 := L.a5; have z5 := L.z5; have v5 := L.v5
  have t173 := L.t173; have a173 := L.a173; have z173 := L.z173; have v173 := L.v173
  have e283 : ∀ args w, (callFunc (ρ.f 283) args).run P w = .ok (.enter (ρ.f 283) args) w := enters_of L.f283 (by kernel_rfl) rfl
  have e284 : ∀ args w, (callFunc (ρ.f 284) args).run P w = .ok (.enter (ρ.f 284) args) w := enters_of L.f284 (by kernel_rfl) rfl
  have e285 : ∀ args w, (callFunc (ρ.f 285) args).run P w = .ok (.enter (ρ.f 285) args) w := enters_of L.f285 (by kernel_rfl) rfl
  by_cases hs : 0 ≤ n ∧ n < 100
  · -- 0 .. 99: two constants
    obtain ⟨i, rfl⟩ : ∃ i : Nat, n = i := ⟨n.toNat, by omega⟩
    have hi : i < 100 := by omega
    go_enter L.f246, Body.n246_ntmps ρ
    go_wp2_with (go_at_fn (ρ.f 283); refine (Any.internal_strconv_small { L with } i hi _).mono ?_; rintro e w' ⟨rfl, rfl⟩)
    go_ret
    refine ⟨?_, 0, #[], by simp [World.drewN_zero]⟩
    rw [Lib.itoa_nonneg]
    rfl
  · by_cases hneg : n < 0
    · obtain ⟨u, rfl⟩ : ∃ u : Nat, n = -(u : Int) := ⟨n.natAbs, by omega⟩
      have hu1 : 1 ≤ u := by omega
      have hu64 : u < 18446744073709551616 := by omega
      have hnd20 : Lib.nDigits u ≤ 20 := by have := Lib.numDigits_eq u hu1 hu64; split at this <;> omega
      -- 'u := uint64(i); u = -u', for the walk to take
      have hwr : IntKind.u64.wrap (-IntKind.u64.wrap (-(u : Int))) = (u : Int) := by rw [IntKind.wrap_u64, IntKind.wrap_u64]; omega
      have hb3 : Lib.nDigits u ≤ 23 := by omega
      have hal : P.arrayLen (ρ.t 171) = 24 := by simp [Program.arrayLen, L.t171]
      -- 'a[1 : 1+nd]', for the walk to take
      have hsl1 : ∀ W, (Instr.sliceAt (ρ.t 171) (.pointer (some ⟨w.heap.size, 0, none⟩)) (some (.int .i64 1)) (some (.int .i64 (1 + (Lib.nDigits u : Int)))) none).run P W = .ok (.slice (some ⟨w.heap.size, 1, none⟩) (Lib.nDigits u) 23) W := fun W => by
        rw [run_sliceAt_array_lh W (ρ.t 171) ⟨w.heap.size, 0, none⟩ (by simp [Program.arrayLen, Program.elem, L.t171]) .i64 .i64 1 (1 + (Lib.nDigits u : Int)) (by omega) (by omega) (by rw [hal]; omega)]
        go_simp
        omega
      -- formatBase10's contract at the new block's row of zeros
      have hH0 := Lib.holds_zero w (ρ.t 171) (Lib.nDigits u) (by omega)
      have hfmt := Any.internal_strconv_formatBase10 { L with } w.heap.size 1 23 u (Array.replicate (Lib.nDigits u) 0) (w.alloc (.cells Lib.zeros24 (ρ.t 171))) hH0 (by rw [Array.size_replicate]; exact Lib.lt_pow_nDigits u) hu64 (by rw [Array.size_replicate]; omega)
      rw [Array.size_replicate] at hfmt
      have HH0 := Lib.hid hH0
      clear hH0 hal
      go_enter L.f246, Body.n246_ntmps ρ
      go_wp2_with (first
        | (go_at_fn (ρ.f 284); refine (digits_cells { L with } u hu1 hu64 _ (tabC_alloc htab _)).mono ?_; rintro e w' ⟨rfl, rfl⟩))
      go_at_fn (ρ.f 285)
      refine hfmt.mono ?_
      rintro e w' ⟨rfl, k, v', dk, rfl, hF⟩
      -- 'a[0] = '-'': its cell, in the world behind formatBase10
      have hc0 : ((putRow (fun (b : UInt8) => Value.int .u8 (b.toNat : Int)) (w.alloc (.cells Lib.zeros24 (ρ.t 171))) w.heap.size 1 dk).drewN k).cell? ⟨w.heap.size, 0, none⟩ = some (.int .u8 0) := by
        rw [World.cell?_drewN, cell?_putRow_other _ _ _ _ _ _ (Or.inr (Or.inl (Nat.zero_lt_one))), World.cell?_alloc_new]
        exact Lib.zeros24_at 0 (by omega)
      have hf0 : ((putRow (fun (b : UInt8) => Value.int .u8 (b.toNat : Int)) (w.alloc (.cells Lib.zeros24 (ρ.t 171))) w.heap.size 1 dk).drewN k).frozen? ⟨w.heap.size, 0, none⟩ = false := by
        rw [World.frozen?_drewN, frozen?_putRow]
        exact World.frozen?_alloc_new _ _ _ _
      -- 'a[: 1+nd]', for the walk to take
      have hal : P.arrayLen (ρ.t 171) = 24 := by simp [Program.arrayLen, L.t171]
      have hsl2 : ∀ W, (Instr.sliceAt (ρ.t 171) (.pointer (some ⟨w.heap.size, 0, none⟩)) none (some (.int .i64 (1 + (Lib.nDigits u : Int)))) none).run P W = .ok (.slice (some ⟨w.heap.size, 0, none⟩) (1 + Lib.nDigits u) 24) W := fun W => by
        rw [run_sliceAt_array_h W (ρ.t 171) ⟨w.heap.size, 0, none⟩ (by simp [Program.arrayLen, Program.elem, L.t171]) .i64 (1 + (Lib.nDigits u : Int)) (by omega) (by rw [hal]; omega)]
        go_simp
        omega
      clear hal
      -- 'string(a[: 1+nd])', for the walk to take: '-', then the numeral
      have hcv : (convert (ρ.t 37) (ρ.t 9) (.slice (some ⟨w.heap.size, 0, none⟩) (1 + Lib.nDigits u) 24)).run P (((putRow (fun (b : UInt8) => Value.int .u8 (b.toNat : Int)) (w.alloc (.cells Lib.zeros24 (ρ.t 171))) w.heap.size 1 dk).drewN k).setCell ⟨w.heap.size, 0, none⟩ (.int .u8 45)) = .ok (.string ⟨(45 :: Lib.decDigits u).toArray⟩) (((putRow (fun (b : UInt8) => Value.int .u8 (b.toNat : Int)) (w.alloc (.cells Lib.zeros24 (ρ.t 171))) w.heap.size 1 dk).drewN k).setCell ⟨w.heap.size, 0, none⟩ (.int .u8 45)) := by
        have h := run_convert_bytes_back (P := P) (((putRow (fun (b : UInt8) => Value.int .u8 (b.toNat : Int)) (w.alloc (.cells Lib.zeros24 (ρ.t 171))) w.heap.size 1 dk).drewN k).setCell ⟨w.heap.size, 0, none⟩ (.int .u8 45)) (ρ.t 37) (ρ.t 9) (ρ.t 5) ⟨w.heap.size, 0, none⟩ 24 (45 :: Lib.decDigits u) L.t37 L.t5 L.t9 (fun j hj => by
          rw [Lib.add_plain]
          cases j with
          | zero => exact World.cell?_setCell_same _ _ _ hc0
          | succ i =>
            have hi : i < (Lib.decDigits u).length := by simpa using hj
            rw [World.cell?_setCell_other _ _ _ _ (by simp), List.getElem_cons_succ, Lib.row_is_numeral hF i hi, World.cell?_drewN, show 0 + (i + 1) = 1 + i by omega]
            exact cell?_putRow (fun (b : UInt8) => Value.int .u8 (b.toNat : Int)) _ w.heap.size 1 _ dk HH0.out (by rw [hF.size, Array.size_replicate]) i (by rw [hF.size]; rw [Lib.decDigits_length] at hi; exact hi))
        rw [List.length_cons, Lib.decDigits_length, Nat.add_comm] at h
        exact h
      go_wp2
      go_ret
      obtain ⟨os, eo⟩ := Lib.fin_neg w (.cells Lib.zeros24 (ρ.t 171)) dk k (.int .u8 45)
      refine ⟨?_, k, os, eo⟩
      rw [Lib.itoa_neg u hu1]
      rfl
    · obtain ⟨u, rfl⟩ : ∃ u : Nat, n = u := ⟨n.toNat, by omega⟩
      have hu1 : 1 ≤ u := by omega
      have hu64 : u < 18446744073709551616 := by omega
      have hnd20 : Lib.nDigits u ≤ 20 := by have := Lib.numDigits_eq u hu1 hu64; split at this <;> omega
      have hb3 : Lib.nDigits u ≤ 23 := by omega
      have hal : P.arrayLen (ρ.t 171) = 24 := by simp [Program.arrayLen, L.t171]
      -- 'a[1 : 1+nd]', for the walk to take
      have hsl1 : ∀ W, (Instr.sliceAt (ρ.t 171) (.pointer (some ⟨w.heap.size, 0, none⟩)) (some (.int .i64 1)) (some (.int .i64 (1 + (Lib.nDigits u : Int)))) none).run P W = .ok (.slice (some ⟨w.heap.size, 1, none⟩) (Lib.nDigits u) 23) W := fun W => by
        rw [run_sliceAt_array_lh W (ρ.t 171) ⟨w.heap.size, 0, none⟩ (by simp [Program.arrayLen, Program.elem, L.t171]) .i64 .i64 1 (1 + (Lib.nDigits u : Int)) (by omega) (by omega) (by rw [hal]; omega)]
        go_simp
        omega
      -- formatBase10's contract at the new block's row of zeros
      have hH0 := Lib.holds_zero w (ρ.t 171) (Lib.nDigits u) (by omega)
      have hfmt := Any.internal_strconv_formatBase10 { L with } w.heap.size 1 23 u (Array.replicate (Lib.nDigits u) 0) (w.alloc (.cells Lib.zeros24 (ρ.t 171))) hH0 (by rw [Array.size_replicate]; exact Lib.lt_pow_nDigits u) hu64 (by rw [Array.size_replicate]; omega)
      rw [Array.size_replicate] at hfmt
      have HH0 := Lib.hid hH0
      clear hH0 hal
      go_enter L.f246, Body.n246_ntmps ρ
      go_wp2_with (first
        | (go_at_fn (ρ.f 284); refine (digits_cells { L with } u hu1 hu64 _ (tabC_alloc htab _)).mono ?_; rintro e w' ⟨rfl, rfl⟩))
      go_at_fn (ρ.f 285)
      refine hfmt.mono ?_
      rintro e w' ⟨rfl, k, v', dk, rfl, hF⟩
      -- 'string(a[1 : 1+nd])', for the walk to take: the row reads as the numeral
      have hcv : (convert (ρ.t 37) (ρ.t 9) (.slice (some ⟨w.heap.size, 1, none⟩) (Lib.nDigits u) 23)).run P ((putRow (fun (b : UInt8) => Value.int .u8 (b.toNat : Int)) (w.alloc (.cells Lib.zeros24 (ρ.t 171))) w.heap.size 1 dk).drewN k) = .ok (.string ⟨(Lib.decDigits u).toArray⟩) ((putRow (fun (b : UInt8) => Value.int .u8 (b.toNat : Int)) (w.alloc (.cells Lib.zeros24 (ρ.t 171))) w.heap.size 1 dk).drewN k) := by
        have h := run_convert_bytes_back (P := P) ((putRow (fun (b : UInt8) => Value.int .u8 (b.toNat : Int)) (w.alloc (.cells Lib.zeros24 (ρ.t 171))) w.heap.size 1 dk).drewN k) (ρ.t 37) (ρ.t 9) (ρ.t 5) ⟨w.heap.size, 1, none⟩ 23 (Lib.decDigits u) L.t37 L.t5 L.t9 (fun j hj => by
          rw [Lib.row_is_numeral hF j hj, Lib.add_plain, World.cell?_drewN]
          exact cell?_putRow (fun (b : UInt8) => Value.int .u8 (b.toNat : Int)) _ w.heap.size 1 _ dk HH0.out (by rw [hF.size, Array.size_replicate]) j (by rw [hF.size]; rw [Lib.decDigits_length] at hj; exact hj))
        rw [Lib.decDigits_length] at h
        exact h
      go_wp2
      go_ret
      obtain ⟨os, eo⟩ := Lib.fin_pos w (.cells Lib.zeros24 (ρ.t 171)) dk k
      refine ⟨?_, k, os, eo⟩
      rw [Lib.itoa_nonneg]
      rfl
end
set_option maxHeartbeats 6400000 in
set_option maxRecDepth 100000 in
theorem formatUint_cells (u : Nat) (hu64 : u < 18446744073709551616) (w : World) (htab : tabC 4 w) :
    Calls Tryz.prog 235 #[.int .u64 u, .int .i64 10] w fun e w' => e = .returned (.string ⟨(Lib.decDigits u).toArray⟩) ∧ ∃ k os, w' = grow (w.drewN k) os := by
  have mixed := Tryz.laysM246.mixed
  have t3 := Tryz.underlying3; have a3 := Tryz.isAgg3; have z3 := Tryz.sizeOf3; have v3 := Tryz.zeroValue3
  have t9 := Tryz.underlying9; have a9 := Tryz.isAgg9; have z9 := Tryz.sizeOf9; have v9 := Tryz.zeroValue9
  have t4 := Tryz.underlying4; have a4 := Tryz.isAgg4; have z4 := Tryz.sizeOf4; have v4 := Tryz.zeroValue4
  have t124 := Tryz.underlying264; have a124 := Tryz.isAgg264; have z124 := Tryz.sizeOf264; have v124 := Tryz.zeroValue264
  have t0 := Tryz.underlying0; have a0 := Tryz.isAgg0; have z0 := Tryz.sizeOf0; have v0 := Tryz.zeroValue0
  have t49 := Tryz.underlying176; have a49 := Tryz.isAgg176; have z49 := Tryz.sizeOf176; have v49 := Tryz.zeroValue176
  have t22 := Tryz.underlying37; have a22 := Tryz.isAgg37; have z22 := Tryz.sizeOf37; have v22 := Tryz.zeroValue37
  have t5 := Tryz.underlying5; have a5 := Tryz.isAgg5; have z5 := Tryz.sizeOf5; have v5 := Tryz.zeroValue5
  have t127 := Tryz.underlying267; have a127 := Tryz.isAgg267; have z127 := Tryz.sizeOf267; have v127 := Tryz.zeroValue267
  have e92 : ∀ args w, (callFunc 231 args).run Tryz.prog w = .ok (.enter 231 args) w := enters_of Tryz.func231 (by kernel_rfl) rfl
  have e93 : ∀ args w, (callFunc 232 args).run Tryz.prog w = .ok (.enter 232 args) w := enters_of Tryz.func232 (by kernel_rfl) rfl
  have e94 : ∀ args w, (callFunc 233 args).run Tryz.prog w = .ok (.enter 233 args) w := enters_of Tryz.func233 (by kernel_rfl) rfl
  by_cases hs : u < 100
  · go_enter Tryz.func235, Tryz.ntmps235
    go_wp2_with (go_at_fn 231; refine (Tryz.internal_strconv_small u hs _).mono ?_; rintro e w' ⟨rfl, rfl⟩)
    go_ret
    exact ⟨rfl, 0, #[], by simp [World.drewN_zero]⟩
  · have hu1 : 1 ≤ u := by omega
    have hnd20 : Lib.nDigits u ≤ 20 := by have := Lib.numDigits_eq u hu1 hu64; split at this <;> omega
    have hal : Tryz.prog.arrayLen 264 = 24 := by simp [Program.arrayLen, Tryz.underlying264]
    have hsl : ∀ W, (Instr.sliceAt 264 (.pointer (some ⟨w.heap.size, 0, none⟩)) none (some (.int .i64 (Lib.nDigits u : Int))) none).run Tryz.prog W = .ok (.slice (some ⟨w.heap.size, 0, none⟩) (Lib.nDigits u) 24) W := fun W => by
      rw [run_sliceAt_array_h W 264 ⟨w.heap.size, 0, none⟩ (by simp [Program.arrayLen, Program.elem, Tryz.underlying264]) .i64 (Lib.nDigits u : Int) (by omega) (by rw [hal]; omega)]
      go_simp
    have hH0 := Lib.holds_zero0 w 264 (Lib.nDigits u) (by omega)
    have hfmt := Tryz.internal_strconv_formatBase10 w.heap.size 0 24 u (Array.replicate (Lib.nDigits u) 0) (w.alloc (.cells Lib.zeros24 264)) hH0 (by rw [Array.size_replicate]; exact Lib.lt_pow_nDigits u) hu64 (by rw [Array.size_replicate]; omega)
    rw [Array.size_replicate] at hfmt
    have HH0 := Lib.hid hH0
    clear hH0 hal
    go_enter Tryz.func235, Tryz.ntmps235
    go_wp2_with (first
      | (go_at_fn 232; refine (digits_cells Tryz.laysM284 u hu1 hu64 _ (tabC_alloc htab _)).mono ?_; rintro e w' ⟨rfl, rfl⟩))
    go_at_fn 233
    refine hfmt.mono ?_
    rintro e w' ⟨rfl, k, v', dk, rfl, hF⟩
    have hcv : (convert 37 9 (.slice (some ⟨w.heap.size, 0, none⟩) (Lib.nDigits u) 24)).run Tryz.prog ((putRow (fun (b : UInt8) => Value.int .u8 (b.toNat : Int)) (w.alloc (.cells Lib.zeros24 264)) w.heap.size 0 dk).drewN k) = .ok (.string ⟨(Lib.decDigits u).toArray⟩) ((putRow (fun (b : UInt8) => Value.int .u8 (b.toNat : Int)) (w.alloc (.cells Lib.zeros24 264)) w.heap.size 0 dk).drewN k) := by
      have h := run_convert_bytes_back (P := Tryz.prog) ((putRow (fun (b : UInt8) => Value.int .u8 (b.toNat : Int)) (w.alloc (.cells Lib.zeros24 264)) w.heap.size 0 dk).drewN k) 37 9 5 ⟨w.heap.size, 0, none⟩ 24 (Lib.decDigits u) Tryz.underlying37 Tryz.underlying5 Tryz.underlying9 (fun j hj => by
        rw [Lib.row_is_numeral hF j hj, Lib.add_plain, World.cell?_drewN]
        exact cell?_putRow (fun (b : UInt8) => Value.int .u8 (b.toNat : Int)) _ w.heap.size 0 _ dk HH0.out (by rw [hF.size, Array.size_replicate]) j (by rw [hF.size]; rw [Lib.decDigits_length] at hj; exact hj))
      rw [Lib.decDigits_length] at h
      exact h
    go_wp2
    go_ret
    obtain ⟨os, eo⟩ := Lib.fin_at w (.cells Lib.zeros24 264) dk k 0
    exact ⟨rfl, k, os, eo⟩
end Go.Proofs.YtlobiioioicmhaaGreatDoor
/- strconv's functions as the program calls them. -/
namespace Go.Proofs.YtlobiioioicmhaaGreatDoor
set_option linter.all false
open Go Go.Ev
set_option maxRecDepth 20000
variable {γ : List (Nat × AV)}
def pow10A : List AV := (List.range 20).map fun i => .v (.int .u64 ((10 ^ i : Nat) : Int))
/-- What is known of the package-level variables: the powers of ten, two errors. -/
def GlN (γ : List (Nat × AV)) : Prop := Go.Ev.look γ 4 = AV.ela false pow10A ∧ (∃ te pe, Go.Ev.look γ 2 = AV.ela false [AV.v (.iface te pe)]) ∧ ∃ te pe, Go.Ev.look γ 3 = AV.ela false [AV.v (.iface te pe)]
theorem tab_of (hγ : GlN γ) {G B : Nat → Prop} {w : World} (hg : ∀ k, treeA (Go.Ev.look γ k) = true ∧ rel (Go.Ev.look γ k) (cx0 Tryz.prog G B w) (.pointer (some ⟨k, 0, none⟩))) : tabC 4 w := by
  have h := (hg 4).2
  rw [hγ.1] at h
  simp only [rel] at h
  obtain ⟨r, off, e, _, h⟩ := h
  cases e
  intro i hi
  obtain ⟨u, h1, h2⟩ := relAt_get h i (.v (.int .u64 ((10 ^ i : Nat) : Int))) (by unfold pow10A; simp [hi])
  simp only [rel] at h2
  subst h2
  simpa [Cx.shut, cx0] using h1
theorem formatInt_ev (hγ : GlN γ) (n : Int) (h0 : -9223372036854775808 ≤ n) (h1 : n ≤ 9223372036854775807) : Ev Tryz.prog γ 171 [.v (.int .i64 n), .v (.int .i64 10)] (.v (.string ⟨(Lib.itoa n).toArray⟩)) := by
  intro G B w vs hG hg hr
  simp only [relL, rel] at hr
  obtain ⟨u1, us, e1, rfl, u2, us2, rfl, rfl, rfl⟩ := hr
  obtain rfl : vs = #[.int .i64 n, .int .i64 10] := by cases vs; simp_all
  refine (formatInt_cells Go.Proofs.Tryz.laysM246 n h0 h1 w (tab_of hγ hg)).mono ?_
  rintro e w' ⟨rfl, k, os, rfl⟩
  exact ⟨_, rfl, by simp only [rel], Lib.below_grow _ _ (Nat.le_refl _) _ _⟩
theorem formatUint_ev (hγ : GlN γ) (u : Nat) (h1 : u < 18446744073709551616) : Ev Tryz.prog γ 235 [.v (.int .u64 u), .v (.int .i64 10)] (.v (.string ⟨(Lib.decDigits u).toArray⟩)) := by
  intro G B w vs hG hg hr
  simp only [relL, rel] at hr
  obtain ⟨u1, us, e1, rfl, u2, us2, rfl, rfl, rfl⟩ := hr
  obtain rfl : vs = #[.int .u64 u, .int .i64 10] := by cases vs; simp_all
  refine (formatUint_cells u h1 w (tab_of hγ hg)).mono ?_
  rintro e w' ⟨rfl, k, os, rfl⟩
  exact ⟨_, rfl, by simp only [rel], Lib.below_grow _ _ (Nat.le_refl _) _ _⟩
theorem b60 : bodyT Tryz.prog 171 := ⟨_, Tryz.func171, by kernel_rfl, by kernel_rfl⟩
theorem b96 : bodyT Tryz.prog 235 := ⟨_, Tryz.func235, by kernel_rfl, by kernel_rfl⟩
theorem b97 : bodyT Tryz.prog 236 := ⟨_, Tryz.func236, by kernel_rfl, by kernel_rfl⟩
theorem b36 : bodyT Tryz.prog 101 := ⟨_, Tryz.func101, by kernel_rfl, by kernel_rfl⟩
theorem b61 : bodyT Tryz.prog 173 := ⟨_, Tryz.func173, by kernel_rfl, by kernel_rfl⟩
theorem b62 : bodyT Tryz.prog 174 := ⟨_, Tryz.func174, by kernel_rfl, by kernel_rfl⟩
theorem b63 : bodyT Tryz.prog 175 := ⟨_, Tryz.func175, by kernel_rfl, by kernel_rfl⟩
theorem b39 : bodyT Tryz.prog 104 := ⟨_, Tryz.func104, by kernel_rfl, by kernel_rfl⟩
theorem formatInt36_ev (hγ : GlN γ) (n : Int) (h0 : -9223372036854775808 ≤ n) (h1 : n ≤ 9223372036854775807) : Ev Tryz.prog γ 101 [.v (.int .i64 n), .v (.int .i64 10)] (.v (.string ⟨(Lib.itoa n).toArray⟩)) := by
  refine Ev.of Tryz.func101 rfl ?_
  simp only [Tryz.f101, evS, tyS, Bool.not_true, Bool.not_false, Nat.reduceAdd, Nat.reduceSub, Nat.reduceMul, Nat.reduceLT, Nat.reduceLeDiff, Nat.reduceEqDiff, reduceCtorEq, List.reduceReplicate, Int.reduceToNat, Int.reduceLE, Int.reduceLT]
  refine CallK.intro b60 rfl (formatInt_ev hγ n h0 h1) ?_
  simp only [evS, tyS, Bool.not_true, Bool.not_false, Nat.reduceAdd, Nat.reduceSub, Nat.reduceMul, Nat.reduceLT, Nat.reduceLeDiff, Nat.reduceEqDiff, reduceCtorEq, List.reduceReplicate, Int.reduceToNat, Int.reduceLE, Int.reduceLT]
theorem formatUint61_ev (hγ : GlN γ) (u : Nat) (h1 : u < 18446744073709551616) : Ev Tryz.prog γ 173 [.v (.int .u64 u), .v (.int .i64 10)] (.v (.string ⟨(Lib.decDigits u).toArray⟩)) := by
  refine Ev.of Tryz.func173 rfl ?_
  simp only [Tryz.f173, evS, tyS, Bool.not_true, Bool.not_false, Nat.reduceAdd, Nat.reduceSub, Nat.reduceMul, Nat.reduceLT, Nat.reduceLeDiff, Nat.reduceEqDiff, reduceCtorEq, List.reduceReplicate, Int.reduceToNat, Int.reduceLE, Int.reduceLT]
  refine CallK.intro b96 rfl (formatUint_ev hγ u h1) ?_
  simp only [evS, tyS, Bool.not_true, Bool.not_false, Nat.reduceAdd, Nat.reduceSub, Nat.reduceMul, Nat.reduceLT, Nat.reduceLeDiff, Nat.reduceEqDiff, reduceCtorEq, List.reduceReplicate, Int.reduceToNat, Int.reduceLE, Int.reduceLT]
theorem itoa97_ev (hγ : GlN γ) (n : Int) (h0 : -9223372036854775808 ≤ n) (h1 : n ≤ 9223372036854775807) : Ev Tryz.prog γ 236 [.v (.int .i64 n)] (.v (.string ⟨(Lib.itoa n).toArray⟩)) := by
  refine Ev.of Tryz.func236 rfl ?_
  simp only [Tryz.f236, evS, tyS, Bool.not_true, Bool.not_false, Nat.reduceAdd, Nat.reduceSub, Nat.reduceMul, Nat.reduceLT, Nat.reduceLeDiff, Nat.reduceEqDiff, reduceCtorEq, List.reduceReplicate, Int.reduceToNat, Int.reduceLE, Int.reduceLT]
  refine CallK.intro b60 rfl (formatInt_ev hγ n h0 h1) ?_
  simp only [evS, tyS, Bool.not_true, Bool.not_false, Nat.reduceAdd, Nat.reduceSub, Nat.reduceMul, Nat.reduceLT, Nat.reduceLeDiff, Nat.reduceEqDiff, reduceCtorEq, List.reduceReplicate, Int.reduceToNat, Int.reduceLE, Int.reduceLT]
theorem itoa_ev (hγ : GlN γ) (n : Int) (h0 : -9223372036854775808 ≤ n) (h1 : n ≤ 9223372036854775807) : Ev Tryz.prog γ 174 [.v (.int .i64 n)] (.v (.string ⟨(Lib.itoa n).toArray⟩)) := by
  refine Ev.of Tryz.func174 rfl ?_
  simp only [Tryz.f174, evS, tyS, Bool.not_true, Bool.not_false, Nat.reduceAdd, Nat.reduceSub, Nat.reduceMul, Nat.reduceLT, Nat.reduceLeDiff, Nat.reduceEqDiff, reduceCtorEq, List.reduceReplicate, Int.reduceToNat, Int.reduceLE, Int.reduceLT]
  refine CallK.intro b97 rfl (itoa97_ev hγ n h0 h1) ?_
  simp only [evS, tyS, Bool.not_true, Bool.not_false, Nat.reduceAdd, Nat.reduceSub, Nat.reduceMul, Nat.reduceLT, Nat.reduceLeDiff, Nat.reduceEqDiff, reduceCtorEq, List.reduceReplicate, Int.reduceToNat, Int.reduceLE, Int.reduceLT]
def boolS (b : Bool) : List UInt8 := if b then [116, 114, 117, 101] else [102, 97, 108, 115, 101]
theorem formatBool63_ev (b : Bool) : Ev Tryz.prog γ 175 [.v (.bool b)] (.v (.string ⟨(boolS b).toArray⟩)) := by
  refine Ev.of Tryz.func175 rfl ?_
  cases b <;> (simp only [Tryz.f175, evS, tyS, Bool.not_true, Bool.not_false, Nat.reduceAdd, Nat.reduceSub, Nat.reduceMul, Nat.reduceLT, Nat.reduceLeDiff, Nat.reduceEqDiff, reduceCtorEq, List.reduceReplicate, Int.reduceToNat, Int.reduceLE, Int.reduceLT]; (repeat' (first | (with_reducible refine And.intro ?_ ?_) | ((first | refine GuardK.intro_f (fun h => ?_) (fun h => ?_) | refine GuardK.intro_t (fun h => ?_) (fun h => ?_) | refine CondK.intro (fun h => ?_) (fun h => ?_) | refine PickK.intro (fun h => ?_) (fun h => ?_)) <;> simp only [h, evS, tyS, Bool.not_true, Bool.not_false, Nat.reduceAdd, Nat.reduceSub, Nat.reduceMul, Nat.reduceLT, Nat.reduceLeDiff, Nat.reduceEqDiff, reduceCtorEq, List.reduceReplicate, Int.reduceToNat, Int.reduceLE, Int.reduceLT]) | (refine DrawK.intro (by kernel_rfl) (by kernel_rfl) ?_; simp only [evS, tyS, Bool.not_true, Bool.not_false, Nat.reduceAdd, Nat.reduceSub, Nat.reduceMul, Nat.reduceLT, Nat.reduceLeDiff, Nat.reduceEqDiff, reduceCtorEq, List.reduceReplicate, Int.reduceToNat, Int.reduceLE, Int.reduceLT]))); all_goals rfl)
theorem formatBool_ev (b : Bool) : Ev Tryz.prog γ 104 [.v (.bool b)] (.v (.string ⟨(boolS b).toArray⟩)) := by
  refine Ev.of Tryz.func104 rfl ?_
  simp only [Tryz.f104, evS, tyS, Bool.not_true, Bool.not_false, Nat.reduceAdd, Nat.reduceSub, Nat.reduceMul, Nat.reduceLT, Nat.reduceLeDiff, Nat.reduceEqDiff, reduceCtorEq, List.reduceReplicate, Int.reduceToNat, Int.reduceLE, Int.reduceLT]
  refine CallK.intro b63 rfl (formatBool63_ev b) ?_
  simp only [evS, tyS, Bool.not_true, Bool.not_false, Nat.reduceAdd, Nat.reduceSub, Nat.reduceMul, Nat.reduceLT, Nat.reduceLeDiff, Nat.reduceEqDiff, reduceCtorEq, List.reduceReplicate, Int.reduceToNat, Int.reduceLE, Int.reduceLT]
theorem toErrorG_ev (hγ : GlN γ) (fn s : ByteArray) (hs : s.size ≤ 281474976710656) (b n : Int) (k : Int) (hk : k = 1 ∨ k = 2) : Ev Tryz.prog γ 170 [.v (.string fn), .v (.string s), .v (.int .i64 b), .v (.int .i64 n), .ifc 260 (.v (.int .i64 k))] (.ifc 261 .bad) := by
  intro G B w vs hG hg hr
  have cell : ∀ g, (∃ te pe, Go.Ev.look γ g = AV.ela false [AV.v (.iface te pe)]) → ∃ te pe, w.cell? ⟨g, 0, none⟩ = some (.iface te pe) := fun g ⟨te, pe, h⟩ => by
    have hm := (hg g).2
    rw [h] at hm
    simp only [rel, relAt, Cx.shut] at hm
    obtain ⟨r, off, e1, _, ⟨u, hc, rfl⟩, _⟩ := hm
    cases e1
    exact ⟨te, pe, hc⟩
  simp only [relL, rel] at hr
  obtain ⟨u1, us, e1, rfl, u2, us2, rfl, rfl, u3, us3, rfl, rfl, u4, us4, rfl, rfl, u5, us5, rfl, ⟨y, rfl, rfl⟩, rfl⟩ := hr
  obtain rfl : vs = #[.string fn, .string s, .int .i64 b, .int .i64 n, .iface 260 (.int .i64 k)] := by cases vs; simp_all
  rcases hk with rfl | rfl
  · obtain ⟨te, pe, hc⟩ := cell 3 hγ.2.2
    refine (Any.strconv_toError_range Go.Proofs.Tryz.laysC245 fn s b n (.iface te pe) w hs hc (.inr ⟨_, _, rfl⟩)).mono ?_
    rintro e w' ⟨N, rfl, _, _, hb⟩
    refine ⟨_, rfl, ?_, hb⟩
    simp only [rel]
    exact ⟨_, rfl, trivial⟩
  · obtain ⟨te, pe, hc⟩ := cell 2 hγ.2.1
    refine (Any.strconv_toError_syntax Go.Proofs.Tryz.laysC245 fn s b n (.iface te pe) w hs hc (.inr ⟨_, _, rfl⟩)).mono ?_
    rintro e w' ⟨N, rfl, _, _, hb⟩
    refine ⟨_, rfl, ?_, hb⟩
    simp only [rel]
    exact ⟨_, rfl, trivial⟩
end Go.Proofs.YtlobiioioicmhaaGreatDoor
/- strconv.ParseInt, ParseUint, Atoi of any text. -/
namespace Go.Proofs.YtlobiioioicmhaaGreatDoor
set_option linter.all false
open Go Go.Ev
set_option maxRecDepth 20000
variable {γ : List (Nat × AV)}
def eErr (k : Nat) : AV := if k = 0 then .v .nilIface else .ifc 261 .bad
theorem intOf_le (neg : Bool) (r : Nat × Nat) : (intOf neg r).1 ≤ 2 := by
  unfold intOf
  by_cases h1 : r.1 = 2
  · rw [if_pos h1]; exact Nat.le_refl _
  · rw [if_neg h1]
    by_cases h2 : neg = false ∧ 9223372036854775808 ≤ r.2
    · rw [if_pos h2]; exact Nat.le_succ _
    · rw [if_neg h2]
      by_cases h3 : neg = true ∧ 9223372036854775808 < r.2
      · rw [if_pos h3]; exact Nat.le_succ _
      · rw [if_neg h3]; exact Nat.zero_le _
theorem scanI_le (l : List UInt8) : (scanI l).1 ≤ 2 := by
  unfold scanI
  split
  · exact Nat.le_refl _
  · exact intOf_le _ _
theorem b87 : bodyT Tryz.prog 166 := ⟨_, Tryz.func166, by kernel_rfl, by kernel_rfl⟩
theorem b88 : bodyT Tryz.prog 167 := ⟨_, Tryz.func167, by kernel_rfl, by kernel_rfl⟩
theorem b110 : bodyT Tryz.prog 224 := ⟨_, Tryz.func224, by kernel_rfl, by kernel_rfl⟩
set_option maxRecDepth 20000 in
theorem parseInt59G_ev (hγ : GlN γ) (l : List UInt8) (hl : l.length ≤ 140737488351232) : Ev Tryz.prog γ 100 [.v (.string ⟨l.toArray⟩), .v (.int .i64 10), .v (.int .i64 64)] (.tup [.v (.int .i64 (scanI l).2), eErr (scanI l).1]) := by
  refine Ev.of Tryz.func100 rfl ?_
  have k90 := parseIntG_ev (γ := γ) 64 (.inr rfl) l hl
  have hle := scanI_le l
  simp only [Tryz.f100, evS, tyS, Bool.not_true, Bool.not_false, Nat.reduceAdd, Nat.reduceSub, Nat.reduceMul, Nat.reduceLT, Nat.reduceLeDiff, Nat.reduceEqDiff, reduceCtorEq, List.reduceReplicate, Int.reduceToNat, Int.reduceLE, Int.reduceLT]
  refine CallK.intro b90 rfl k90 ?_
  generalize scanI l = r at hle ⊢
  obtain ⟨k, v⟩ := r
  simp only at hle
  have kE : ∀ e : Int, e = 1 ∨ e = 2 → Ev Tryz.prog γ 170 [.v (.string _), .v (.string ⟨l.toArray⟩), .v (.int .i64 10), .v (.int .i64 64), .ifc 260 (.v (.int .i64 e))] (.ifc 261 .bad) := fun e he => toErrorG_ev hγ ⟨#[80, 97, 114, 115, 101, 73, 110, 116]⟩ ⟨l.toArray⟩ (by show l.toArray.size ≤ _; rw [List.size_toArray]; omega) 10 64 e he
  rcases (show k = 0 ∨ k = 1 ∨ k = 2 by omega) with rfl | rfl | rfl
  · have e1 : iRes (0, v) = .tup [.v (.int .i64 v), .v .nilIface] := rfl
    have e2 : eErr 0 = .v .nilIface := rfl
    rw [e1, e2]
    simp only [tyP, tyQ, evS, tyS, Bool.not_true, Bool.not_false, Nat.reduceAdd, Nat.reduceSub, Nat.reduceMul, Nat.reduceLT, Nat.reduceLeDiff, Nat.reduceEqDiff, reduceCtorEq, List.reduceReplicate, Int.reduceToNat, Int.reduceLE, Int.reduceLT]
    all_goals try (((try simp only [decide_eq_true_eq, decide_eq_false_iff_not, beq_iff_eq, bne_iff_ne, ne_eq, beq_eq_false_iff_ne, bne_eq_false_iff_eq] at *) <;> (try omega)); done)
  · have e1 : iRes (1, v) = .tup [.v (.int .i64 v), .ifc 260 (.v (.int .i64 1))] := rfl
    have e2 : eErr 1 = .ifc 261 .bad := rfl
    rw [e1, e2]
    simp only [tyP, tyQ, evS, tyS, Bool.not_true, Bool.not_false, Nat.reduceAdd, Nat.reduceSub, Nat.reduceMul, Nat.reduceLT, Nat.reduceLeDiff, Nat.reduceEqDiff, reduceCtorEq, List.reduceReplicate, Int.reduceToNat, Int.reduceLE, Int.reduceLT]
    refine CallK.intro b91 rfl (kE 1 (.inl rfl)) ?_
    simp only [tyP, tyQ, evS, tyS, Bool.not_true, Bool.not_false, Nat.reduceAdd, Nat.reduceSub, Nat.reduceMul, Nat.reduceLT, Nat.reduceLeDiff, Nat.reduceEqDiff, reduceCtorEq, List.reduceReplicate, Int.reduceToNat, Int.reduceLE, Int.reduceLT]
    all_goals try (((try simp only [decide_eq_true_eq, decide_eq_false_iff_not, beq_iff_eq, bne_iff_ne, ne_eq, beq_eq_false_iff_ne, bne_eq_false_iff_eq] at *) <;> (try omega)); done)
  · have e1 : iRes (2, v) = .tup [.v (.int .i64 v), .ifc 260 (.v (.int .i64 2))] := rfl
    have e2 : eErr 2 = .ifc 261 .bad := rfl
    rw [e1, e2]
    simp only [tyP, tyQ, evS, tyS, Bool.not_true, Bool.not_false, Nat.reduceAdd, Nat.reduceSub, Nat.reduceMul, Nat.reduceLT, Nat.reduceLeDiff, Nat.reduceEqDiff, reduceCtorEq, List.reduceReplicate, Int.reduceToNat, Int.reduceLE, Int.reduceLT]
    refine CallK.intro b91 rfl (kE 2 (.inr rfl)) ?_
    simp only [tyP, tyQ, evS, tyS, Bool.not_true, Bool.not_false, Nat.reduceAdd, Nat.reduceSub, Nat.reduceMul, Nat.reduceLT, Nat.reduceLeDiff, Nat.reduceEqDiff, reduceCtorEq, List.reduceReplicate, Int.reduceToNat, Int.reduceLE, Int.reduceLT]
    all_goals try (((try simp only [decide_eq_true_eq, decide_eq_false_iff_not, beq_iff_eq, bne_iff_ne, ne_eq, beq_eq_false_iff_ne, bne_eq_false_iff_eq] at *) <;> (try omega)); done)
set_option maxRecDepth 20000 in
theorem parseUint87_ev (hγ : GlN γ) (l : List UInt8) (hl : l.length ≤ 140737488351232) : Ev Tryz.prog γ 166 [.v (.string ⟨l.toArray⟩), .v (.int .i64 10), .v (.int .i64 53)] (.tup [.v (.int .u64 (scanW 9007199254740991 l).2), eErr (scanW 9007199254740991 l).1]) := by
  refine Ev.of Tryz.func166 rfl ?_
  have k109 := parseUintG_ev (γ := γ) 53 9007199254740991 (.inr (.inr ⟨rfl, rfl⟩)) l hl
  have hle := scanW_le 9007199254740991 l
  simp only [Tryz.f166, evS, tyS, Bool.not_true, Bool.not_false, Nat.reduceAdd, Nat.reduceSub, Nat.reduceMul, Nat.reduceLT, Nat.reduceLeDiff, Nat.reduceEqDiff, reduceCtorEq, List.reduceReplicate, Int.reduceToNat, Int.reduceLE, Int.reduceLT]
  refine CallK.intro b109 rfl k109 ?_
  generalize scanW 9007199254740991 l = r at hle ⊢
  obtain ⟨k, v⟩ := r
  simp only at hle
  have kE : ∀ e : Int, e = 1 ∨ e = 2 → Ev Tryz.prog γ 170 [.v (.string _), .v (.string ⟨l.toArray⟩), .v (.int .i64 10), .v (.int .i64 53), .ifc 260 (.v (.int .i64 e))] (.ifc 261 .bad) := fun e he => toErrorG_ev hγ ⟨#[80, 97, 114, 115, 101, 85, 105, 110, 116]⟩ ⟨l.toArray⟩ (by show l.toArray.size ≤ _; rw [List.size_toArray]; omega) 10 53 e he
  rcases (show k = 0 ∨ k = 1 ∨ k = 2 by omega) with rfl | rfl | rfl
  · have e1 : uRes (0, v) = .tup [.v (.int .u64 v), .v .nilIface] := rfl
    have e2 : eErr 0 = .v .nilIface := rfl
    rw [e1, e2]
    simp only [tyP, tyQ, evS, tyS, Bool.not_true, Bool.not_false, Nat.reduceAdd, Nat.reduceSub, Nat.reduceMul, Nat.reduceLT, Nat.reduceLeDiff, Nat.reduceEqDiff, reduceCtorEq, List.reduceReplicate, Int.reduceToNat, Int.reduceLE, Int.reduceLT]
    all_goals try (((try simp only [decide_eq_true_eq, decide_eq_false_iff_not, beq_iff_eq, bne_iff_ne, ne_eq, beq_eq_false_iff_ne, bne_eq_false_iff_eq] at *) <;> (try omega)); done)
  · have e1 : uRes (1, v) = .tup [.v (.int .u64 v), .ifc 260 (.v (.int .i64 1))] := rfl
    have e2 : eErr 1 = .ifc 261 .bad := rfl
    rw [e1, e2]
    simp only [tyP, tyQ, evS, tyS, Bool.not_true, Bool.not_false, Nat.reduceAdd, Nat.reduceSub, Nat.reduceMul, Nat.reduceLT, Nat.reduceLeDiff, Nat.reduceEqDiff, reduceCtorEq, List.reduceReplicate, Int.reduceToNat, Int.reduceLE, Int.reduceLT]
    refine CallK.intro b91 rfl (kE 1 (.inl rfl)) ?_
    simp only [tyP, tyQ, evS, tyS, Bool.not_true, Bool.not_false, Nat.reduceAdd, Nat.reduceSub, Nat.reduceMul, Nat.reduceLT, Nat.reduceLeDiff, Nat.reduceEqDiff, reduceCtorEq, List.reduceReplicate, Int.reduceToNat, Int.reduceLE, Int.reduceLT]
    all_goals try (((try simp only [decide_eq_true_eq, decide_eq_false_iff_not, beq_iff_eq, bne_iff_ne, ne_eq, beq_eq_false_iff_ne, bne_eq_false_iff_eq] at *) <;> (try omega)); done)
  · have e1 : uRes (2, v) = .tup [.v (.int .u64 v), .ifc 260 (.v (.int .i64 2))] := rfl
    have e2 : eErr 2 = .ifc 261 .bad := rfl
    rw [e1, e2]
    simp only [tyP, tyQ, evS, tyS, Bool.not_true, Bool.not_false, Nat.reduceAdd, Nat.reduceSub, Nat.reduceMul, Nat.reduceLT, Nat.reduceLeDiff, Nat.reduceEqDiff, reduceCtorEq, List.reduceReplicate, Int.reduceToNat, Int.reduceLE, Int.reduceLT]
    refine CallK.intro b91 rfl (kE 2 (.inr rfl)) ?_
    simp only [tyP, tyQ, evS, tyS, Bool.not_true, Bool.not_false, Nat.reduceAdd, Nat.reduceSub, Nat.reduceMul, Nat.reduceLT, Nat.reduceLeDiff, Nat.reduceEqDiff, reduceCtorEq, List.reduceReplicate, Int.reduceToNat, Int.reduceLE, Int.reduceLT]
    all_goals try (((try simp only [decide_eq_true_eq, decide_eq_false_iff_not, beq_iff_eq, bne_iff_ne, ne_eq, beq_eq_false_iff_ne, bne_eq_false_iff_eq] at *) <;> (try omega)); done)
/-- Digits without end, and nothing else. -/
def scanD : List UInt8 → Nat → Nat × Int
  | [], n => (0, n)
  | c :: l, n => if c.toNat < 48 ∨ 57 < c.toNat then (2, 0) else scanD l (n * 10 + (c.toNat - 48))
theorem scanD_cons (c : UInt8) (l : List UInt8) (n : Nat) : scanD (c :: l) n = if c.toNat < 48 ∨ 57 < c.toNat then (2, 0) else scanD l (n * 10 + (c.toNat - 48)) := rfl
theorem scanD_nil (n : Nat) : scanD [] n = (0, (n : Int)) := rfl
theorem scanD_cases : ∀ (l : List UInt8) (n : Nat), scanD l n = (2, 0) ∨ ∃ m : Nat, scanD l n = (0, (m : Int)) ∧ (scanD l n).1 = 0
  | [], n => .inr ⟨n, rfl, rfl⟩
  | c :: l, n => by
    rw [scanD_cons]
    split
    · exact .inl rfl
    · exact scanD_cases l _
def negR (b : Bool) (r : Nat × Int) : Nat × Int := if b = true ∧ r.1 = 0 then (0, -r.2) else r
def signedA (l : List UInt8) : Bool × List UInt8 := if atL l 0 = 45 then (true, l.drop 1) else if atL l 0 = 43 then (false, l.drop 1) else (false, l)
def fastA (l : List UInt8) : Nat × Int := if (signedA l).2 = [] then (2, 0) else negR (signedA l).1 (scanD (signedA l).2 0)
def scanA (l : List UInt8) : Nat × Int := if 0 < l.length ∧ l.length < 19 then fastA l else scanI l
theorem scanD_eqS {l : List UInt8} {j : Nat} (h : j < l.length) (n : Nat) : scanD (l.drop j) n = if atL l j < 48 ∨ 57 < atL l j then (2, 0) else scanD (l.drop (j + 1)) (n * 10 + (atL l j - 48)) := by
  rw [drop_at h, scanD_cons]; rfl
def atoiS (γ : List (Nat × AV)) (s0 r : List UInt8) (j n : Nat) : St :=
  ⟨⟨77, [(49, .v (.int .i64 j)), (48, .v (.int .i64 r.length)), (47, .own 0 0 r.length), (6, .v (.int .i64 n)), (5, .v (.string ⟨s0.toArray⟩))], γ⟩, [⟨0, 5, r.map byteC⟩]⟩
/-- A piece of code by its path. -/
def pieceC : List Nat → Code → Option Code
  | [], c => some c
  | 0 :: p, .seq a _ => pieceC p a
  | 1 :: p, .seq _ b => pieceC p b
  | 2 :: p, .block _ c => pieceC p c
  | 3 :: p, .loop c => pieceC p c
  | 4 :: p, .cond _ c _ => pieceC p c
  | 5 :: p, .cond _ _ c => pieceC p c
  | _, _ => none
set_option maxHeartbeats 8000000 in
set_option maxRecDepth 20000 in
/-- The short road's loop. -/
theorem atoi_loopK {c : Code} (hc : Tryz.f224.body.bind (pieceC [1, 1, 0, 1, 4, 1, 1, 1, 0, 1, 2, 3]) = some c) {l r : List UInt8} (hr : r.length ≤ 18) {Q : Post} {R : AV} {s : St}
    (hret : ∀ st, Q .ret st = endS Tryz.prog [.tmp 2, .tmp 3] R .ret st) (hR : scanD r 0 = (2, 0) → R = .tup [.v (.int .i64 0), .ifc 260 (.v (.int .i64 2))])
    (hexit : ∀ n : Nat, n < 1000000000000000000 → scanD r 0 = (0, (n : Int)) → Q (.exit 0) ⟨⟨77, (50, .v (.bool false)) :: (atoiS γ l r r.length n).s.l, γ⟩, (atoiS γ l r r.length n).h⟩)
    (hw : s.weak (atoiS γ l r 0 0)) : LoopK (kwp Tryz.prog c) Q s := by
  obtain rfl := Option.some.inj (hc.symm.trans rfl)
  clear hc
  refine LoopK.intro (fun x : Nat × Nat => atoiS γ l r x.1 x.2) (fun x => x.1 ≤ r.length ∧ x.2 < 10 ^ x.1 ∧ scanD (r.drop x.1) x.2 = scanD r 0) (fun x => r.length - x.1) (0, 0) hw ⟨Nat.zero_le _, by decide, by rw [List.drop_zero]⟩ ?_
  rintro ⟨j, n⟩ ⟨hj, hn, hs⟩
  simp only at hj hn hs
  have ea : ∀ j, (r.getD j 0).toNat = atL r j := fun _ => rfl
  by_cases hjl : j < r.length
  · have ej : IntKind.i64.wrap ((j : Int) + 1) = ((j + 1 : Nat) : Int) := by rw [i64w] <;> omega
    have hc256 : atL r j < 256 := (r.getD j 0).toNat_lt
    have hpow : 10 ^ (j + 1) ≤ 1000000000000000000 := by
      have : 10 ^ (j + 1) ≤ 10 ^ 18 := Nat.pow_le_pow_right (by decide) (by omega)
      simpa using this
    have hp2 : 10 ^ (j + 1) = 10 ^ j * 10 := Nat.pow_succ ..
    rw [scanD_eqS hjl] at hs
    by_cases hd : 48 ≤ atL r j ∧ atL r j ≤ 57
    · rw [if_neg (by omega)] at hs
      have e1 : IntKind.u8.wrap ((atL r j : Int) - 48) = ((atL r j - 48 : Nat) : Int) := by rw [u8w] <;> omega
      have d1 : decide (9 < atL r j - 48) = false := decide_eq_false (by omega)
      have d2 : decide ((9 : Int) < ((atL r j - 48 : Nat) : Int)) = false := decide_eq_false (by omega)
      have e2 : IntKind.i64.wrap ((atL r j - 48 : Nat) : Int) = ((atL r j - 48 : Nat) : Int) := by rw [i64w] <;> omega
      have e3 : IntKind.i64.wrap ((n : Int) * 10) = ((n * 10 : Nat) : Int) := by rw [i64w] <;> omega
      have e4 : IntKind.i64.wrap (((n * 10 : Nat) : Int) + ((atL r j - 48 : Nat) : Int)) = ((n * 10 + (atL r j - 48) : Nat) : Int) := by rw [i64w] <;> omega
      simp only [tyP, tyQ, ea, e1, d1, d2, e2, e3, e4, atoiS, evS, tyS, Bool.not_true, Bool.not_false, Nat.reduceAdd, Nat.reduceSub, Nat.reduceMul, Nat.reduceLT, Nat.reduceLeDiff, Nat.reduceEqDiff, reduceCtorEq, List.reduceReplicate, Int.reduceToNat, Int.reduceLE, Int.reduceLT]
      (repeat' (first | (with_reducible refine And.intro ?_ ?_) | ((first | refine GuardK.intro_f (fun h => ?_) (fun h => ?_) | refine GuardK.intro_t (fun h => ?_) (fun h => ?_) | refine CondK.intro (fun h => ?_) (fun h => ?_) | refine PickK.intro (fun h => ?_) (fun h => ?_)) <;> simp only [h, tyP, tyQ, ea, e1, d1, d2, e2, e3, e4, evS, tyS, Bool.not_true, Bool.not_false, Nat.reduceAdd, Nat.reduceSub, Nat.reduceMul, Nat.reduceLT, Nat.reduceLeDiff, Nat.reduceEqDiff, reduceCtorEq, List.reduceReplicate, Int.reduceToNat, Int.reduceLE, Int.reduceLT]) | (refine DrawK.intro (by kernel_rfl) (by kernel_rfl) ?_; simp only [tyP, tyQ, ea, e1, d1, d2, e2, e3, e4, evS, tyS, Bool.not_true, Bool.not_false, Nat.reduceAdd, Nat.reduceSub, Nat.reduceMul, Nat.reduceLT, Nat.reduceLeDiff, Nat.reduceEqDiff, reduceCtorEq, List.reduceReplicate, Int.reduceToNat, Int.reduceLE, Int.reduceLT])))
      all_goals try (((try simp only [decide_eq_true_eq, decide_eq_false_iff_not, beq_iff_eq, bne_iff_ne, ne_eq, beq_eq_false_iff_ne, bne_eq_false_iff_eq] at *) <;> (try omega)); done)
      refine loopC.intro (j + 1, n * 10 + (atL r j - 48)) ⟨by omega, by simp only; omega, hs⟩ ?_ (by simp only; omega)
      simp only [ej, evS, tyS, Bool.not_true, Bool.not_false, Nat.reduceAdd, Nat.reduceSub, Nat.reduceMul, Nat.reduceLT, Nat.reduceLeDiff, Nat.reduceEqDiff, reduceCtorEq, List.reduceReplicate, Int.reduceToNat, Int.reduceLE, Int.reduceLT]
      all_goals rfl
    · rw [if_pos (by omega)] at hs
      have hR' := hR hs.symm
      obtain ⟨q, hq, hq9⟩ : ∃ q : Nat, IntKind.u8.wrap ((atL r j : Int) - 48) = (q : Int) ∧ 9 < q := by
        by_cases h48 : atL r j < 48
        · refine ⟨atL r j + 256 - 48, ?_, by omega⟩
          show ((atL r j : Int) - 48) % 256 = _
          omega
        · exact ⟨atL r j - 48, by rw [u8w] <;> omega, by omega⟩
      have d1 : decide (9 < q) = true := decide_eq_true (by omega)
      have d2 : decide ((9 : Int) < (q : Int)) = true := decide_eq_true (by omega)
      simp only [tyP, tyQ, ea, hq, d1, d2, atoiS, hret, hR', evS, tyS, Bool.not_true, Bool.not_false, Nat.reduceAdd, Nat.reduceSub, Nat.reduceMul, Nat.reduceLT, Nat.reduceLeDiff, Nat.reduceEqDiff, reduceCtorEq, List.reduceReplicate, Int.reduceToNat, Int.reduceLE, Int.reduceLT]
      (repeat' (first | (with_reducible refine And.intro ?_ ?_) | ((first | refine GuardK.intro_f (fun h => ?_) (fun h => ?_) | refine GuardK.intro_t (fun h => ?_) (fun h => ?_) | refine CondK.intro (fun h => ?_) (fun h => ?_) | refine PickK.intro (fun h => ?_) (fun h => ?_)) <;> simp only [h, tyP, tyQ, ea, hq, d1, d2, hret, hR', evS, tyS, Bool.not_true, Bool.not_false, Nat.reduceAdd, Nat.reduceSub, Nat.reduceMul, Nat.reduceLT, Nat.reduceLeDiff, Nat.reduceEqDiff, reduceCtorEq, List.reduceReplicate, Int.reduceToNat, Int.reduceLE, Int.reduceLT]) | (refine DrawK.intro (by kernel_rfl) (by kernel_rfl) ?_; simp only [tyP, tyQ, ea, hq, d1, d2, hret, hR', evS, tyS, Bool.not_true, Bool.not_false, Nat.reduceAdd, Nat.reduceSub, Nat.reduceMul, Nat.reduceLT, Nat.reduceLeDiff, Nat.reduceEqDiff, reduceCtorEq, List.reduceReplicate, Int.reduceToNat, Int.reduceLE, Int.reduceLT])))
      all_goals try (((try simp only [decide_eq_true_eq, decide_eq_false_iff_not, beq_iff_eq, bne_iff_ne, ne_eq, beq_eq_false_iff_ne, bne_eq_false_iff_eq] at *) <;> (try omega)); done)
  · obtain rfl : j = r.length := by omega
    rw [List.drop_length, scanD_nil] at hs
    have hpow : 10 ^ r.length ≤ 1000000000000000000 := by
      have : 10 ^ r.length ≤ 10 ^ 18 := Nat.pow_le_pow_right (by decide) hr
      simpa using this
    have hx := hexit n (by omega) hs.symm
    have d1 : decide (r.length < r.length) = false := decide_eq_false (by omega)
    unfold atoiS at hx ⊢
    simp only [tyP, tyQ, ea, d1, evS, tyS, Bool.not_true, Bool.not_false, Nat.reduceAdd, Nat.reduceSub, Nat.reduceMul, Nat.reduceLT, Nat.reduceLeDiff, Nat.reduceEqDiff, reduceCtorEq, List.reduceReplicate, Int.reduceToNat, Int.reduceLE, Int.reduceLT]
    all_goals try exact hx
    all_goals trace_state
theorem fz_err {P : Program} {H : List ABlk} {b : Bool} (k : Nat) : fz P H b (uErr k) (uErr k) := by
  unfold uErr
  split
  · simp only [fz]
  · simp only [fz, AV.ifc.injEq, true_and, exists_eq_left']
theorem negR_two (b : Bool) : negR b (2, 0) = (2, 0) := by unfold negR; rw [if_neg (by simp)]
set_option maxHeartbeats 8000000 in
set_option maxRecDepth 20000 in
theorem atoi110_ev (l : List UInt8) (hl : l.length ≤ 140737488351232) : Ev Tryz.prog γ 224 [.v (.string ⟨l.toArray⟩)] (iRes (scanA l)) := by
  refine Ev.of Tryz.func224 rfl ?_
  have ea : ∀ j, (l.getD j 0).toNat = atL l j := fun _ => rfl
  have tk : l.take l.length = l := List.take_length
  by_cases hs : 0 < l.length ∧ l.length < 19
  · have hA : scanA l = fastA l := by unfold scanA; rw [if_pos hs]
    rw [hA]
    have d1 : decide (0 < l.length) = true := decide_eq_true hs.1
    have d2 : decide ((0 : Int) < (l.length : Int)) = true := decide_eq_true (by omega)
    have d3 : decide (l.length < 19) = true := decide_eq_true hs.2
    have d4 : decide ((l.length : Int) < 19) = true := decide_eq_true (by omega)
    have d5 : decide (l.length < 10) = true ∨ decide (l.length < 10) = false := by cases decide (l.length < 10) <;> simp
    by_cases s1 : atL l 0 = 45
    · have n45 : ((atL l 0 : Int) == 45) = true := by simp; omega
      have es : signedA l = (true, l.drop 1) := by unfold signedA; rw [if_pos s1]
      have hF : fastA l = if l.drop 1 = [] then (2, 0) else negR true (scanD (l.drop 1) 0) := by unfold fastA; rw [es]
      rw [hF]
      by_cases h1 : l.drop 1 = []
      · rw [if_pos h1]
        have e : iRes (2, 0) = .tup [.v (.int .i64 0), .ifc 260 (.v (.int .i64 2))] := rfl
        rw [e]
        simp only [Tryz.f224, tyP, tyQ, ea, tk, d1, d2, d3, d4, n45, h1, evS, tyS, Bool.not_true, Bool.not_false, Nat.reduceAdd, Nat.reduceSub, Nat.reduceMul, Nat.reduceLT, Nat.reduceLeDiff, Nat.reduceEqDiff, reduceCtorEq, List.reduceReplicate, Int.reduceToNat, Int.reduceLE, Int.reduceLT]
        (repeat' (first | (with_reducible refine And.intro ?_ ?_) | ((first | refine GuardK.intro_f (fun h => ?_) (fun h => ?_) | refine GuardK.intro_t (fun h => ?_) (fun h => ?_) | refine CondK.intro (fun h => ?_) (fun h => ?_) | refine PickK.intro (fun h => ?_) (fun h => ?_)) <;> simp only [h, tyP, tyQ, ea, tk, d1, d2, d3, d4, n45, h1, evS, tyS, Bool.not_true, Bool.not_false, Nat.reduceAdd, Nat.reduceSub, Nat.reduceMul, Nat.reduceLT, Nat.reduceLeDiff, Nat.reduceEqDiff, reduceCtorEq, List.reduceReplicate, Int.reduceToNat, Int.reduceLE, Int.reduceLT]) | (refine DrawK.intro (by kernel_rfl) (by kernel_rfl) ?_; simp only [tyP, tyQ, ea, tk, d1, d2, d3, d4, n45, h1, evS, tyS, Bool.not_true, Bool.not_false, Nat.reduceAdd, Nat.reduceSub, Nat.reduceMul, Nat.reduceLT, Nat.reduceLeDiff, Nat.reduceEqDiff, reduceCtorEq, List.reduceReplicate, Int.reduceToNat, Int.reduceLE, Int.reduceLT])))
        all_goals try (((try simp only [decide_eq_true_eq, decide_eq_false_iff_not, beq_iff_eq, bne_iff_ne, ne_eq, beq_eq_false_iff_ne, bne_eq_false_iff_eq] at *) <;> (try omega)); done)
      · rw [if_neg h1]
        have h1l : 1 ≤ (l.drop 1).length := List.length_pos_iff.2 h1
        have d6 : decide ((l.drop 1).length < 1) = false := decide_eq_false (by omega)
        have d7 : decide (((l.drop 1).length : Int) < 1) = false := decide_eq_false (by omega)
        simp only [Tryz.f224, tyP, tyQ, ea, tk, d1, d2, d3, d4, d6, d7, n45, evS, tyS, Bool.not_true, Bool.not_false, Nat.reduceAdd, Nat.reduceSub, Nat.reduceMul, Nat.reduceLT, Nat.reduceLeDiff, Nat.reduceEqDiff, reduceCtorEq, List.reduceReplicate, Int.reduceToNat, Int.reduceLE, Int.reduceLT]
        (repeat' (first | (with_reducible refine And.intro ?_ ?_) | ((first | refine GuardK.intro_f (fun h => ?_) (fun h => ?_) | refine GuardK.intro_t (fun h => ?_) (fun h => ?_) | refine CondK.intro (fun h => ?_) (fun h => ?_) | refine PickK.intro (fun h => ?_) (fun h => ?_)) <;> simp only [h, tyP, tyQ, ea, tk, d1, d2, d3, d4, d6, d7, n45, evS, tyS, Bool.not_true, Bool.not_false, Nat.reduceAdd, Nat.reduceSub, Nat.reduceMul, Nat.reduceLT, Nat.reduceLeDiff, Nat.reduceEqDiff, reduceCtorEq, List.reduceReplicate, Int.reduceToNat, Int.reduceLE, Int.reduceLT]) | (refine DrawK.intro (by kernel_rfl) (by kernel_rfl) ?_; simp only [tyP, tyQ, ea, tk, d1, d2, d3, d4, d6, d7, n45, evS, tyS, Bool.not_true, Bool.not_false, Nat.reduceAdd, Nat.reduceSub, Nat.reduceMul, Nat.reduceLT, Nat.reduceLeDiff, Nat.reduceEqDiff, reduceCtorEq, List.reduceReplicate, Int.reduceToNat, Int.reduceLE, Int.reduceLT])))
        all_goals try (((try simp only [decide_eq_true_eq, decide_eq_false_iff_not, beq_iff_eq, bne_iff_ne, ne_eq, beq_eq_false_iff_ne, bne_eq_false_iff_eq] at *) <;> (try omega)); done)
        all_goals try (rw [List.length_drop]; omega)
        refine atoi_loopK (γ := γ) (by kernel_rfl) (l := l) (r := (l.drop 1)) (R := iRes (negR true (scanD (l.drop 1) 0))) ?_ (fun _ => rfl) (fun h => by rw [h, negR_two]; rfl) ?_ ?_
        · first | (rw [List.length_drop]; omega) | omega
        · intro n hn hsc
          rw [hsc]
          have e : iRes (negR true (0, (n : Int))) = .tup [.v (.int .i64 (-(n : Int))), .v .nilIface] := rfl
          rw [e]
          have wn : IntKind.i64.wrap (0 - (n : Int)) = -(n : Int) := (i64w (by omega) (by omega)).trans (by omega)
          unfold atoiS
          simp only [tyP, tyQ, ea, tk, d1, d2, d3, d4, wn, n45, evS, tyS, Bool.not_true, Bool.not_false, Nat.reduceAdd, Nat.reduceSub, Nat.reduceMul, Nat.reduceLT, Nat.reduceLeDiff, Nat.reduceEqDiff, reduceCtorEq, List.reduceReplicate, Int.reduceToNat, Int.reduceLE, Int.reduceLT]
          all_goals try (((try simp only [decide_eq_true_eq, decide_eq_false_iff_not, beq_iff_eq, bne_iff_ne, ne_eq, beq_eq_false_iff_ne, bne_eq_false_iff_eq] at *) <;> (try omega)); done)
        · unfold atoiS
          simp only [evS, tyS, Bool.not_true, Bool.not_false, Nat.reduceAdd, Nat.reduceSub, Nat.reduceMul, Nat.reduceLT, Nat.reduceLeDiff, Nat.reduceEqDiff, reduceCtorEq, List.reduceReplicate, Int.reduceToNat, Int.reduceLE, Int.reduceLT]
          all_goals rfl
    · have n45 : ((atL l 0 : Int) == 45) = false := by simp; omega
      by_cases s2 : atL l 0 = 43
      · have n43 : ((atL l 0 : Int) == 43) = true := by simp; omega
        have es : signedA l = (false, l.drop 1) := by unfold signedA; rw [if_neg s1, if_pos s2]
        have hF : fastA l = if l.drop 1 = [] then (2, 0) else negR false (scanD (l.drop 1) 0) := by unfold fastA; rw [es]
        rw [hF]
        by_cases h1 : l.drop 1 = []
        · rw [if_pos h1]
          have e : iRes (2, 0) = .tup [.v (.int .i64 0), .ifc 260 (.v (.int .i64 2))] := rfl
          rw [e]
          simp only [Tryz.f224, tyP, tyQ, ea, tk, d1, d2, d3, d4, n45, n43, h1, evS, tyS, Bool.not_true, Bool.not_false, Nat.reduceAdd, Nat.reduceSub, Nat.reduceMul, Nat.reduceLT, Nat.reduceLeDiff, Nat.reduceEqDiff, reduceCtorEq, List.reduceReplicate, Int.reduceToNat, Int.reduceLE, Int.reduceLT]
          (repeat' (first | (with_reducible refine And.intro ?_ ?_) | ((first | refine GuardK.intro_f (fun h => ?_) (fun h => ?_) | refine GuardK.intro_t (fun h => ?_) (fun h => ?_) | refine CondK.intro (fun h => ?_) (fun h => ?_) | refine PickK.intro (fun h => ?_) (fun h => ?_)) <;> simp only [h, tyP, tyQ, ea, tk, d1, d2, d3, d4, n45, n43, h1, evS, tyS, Bool.not_true, Bool.not_false, Nat.reduceAdd, Nat.reduceSub, Nat.reduceMul, Nat.reduceLT, Nat.reduceLeDiff, Nat.reduceEqDiff, reduceCtorEq, List.reduceReplicate, Int.reduceToNat, Int.reduceLE, Int.reduceLT]) | (refine DrawK.intro (by kernel_rfl) (by kernel_rfl) ?_; simp only [tyP, tyQ, ea, tk, d1, d2, d3, d4, n45, n43, h1, evS, tyS, Bool.not_true, Bool.not_false, Nat.reduceAdd, Nat.reduceSub, Nat.reduceMul, Nat.reduceLT, Nat.reduceLeDiff, Nat.reduceEqDiff, reduceCtorEq, List.reduceReplicate, Int.reduceToNat, Int.reduceLE, Int.reduceLT])))
          all_goals try (((try simp only [decide_eq_true_eq, decide_eq_false_iff_not, beq_iff_eq, bne_iff_ne, ne_eq, beq_eq_false_iff_ne, bne_eq_false_iff_eq] at *) <;> (try omega)); done)
        · rw [if_neg h1]
          have h1l : 1 ≤ (l.drop 1).length := List.length_pos_iff.2 h1
          have d6 : decide ((l.drop 1).length < 1) = false := decide_eq_false (by omega)
          have d7 : decide (((l.drop 1).length : Int) < 1) = false := decide_eq_false (by omega)
          simp only [Tryz.f224, tyP, tyQ, ea, tk, d1, d2, d3, d4, d6, d7, n45, n43, evS, tyS, Bool.not_true, Bool.not_false, Nat.reduceAdd, Nat.reduceSub, Nat.reduceMul, Nat.reduceLT, Nat.reduceLeDiff, Nat.reduceEqDiff, reduceCtorEq, List.reduceReplicate, Int.reduceToNat, Int.reduceLE, Int.reduceLT]
          (repeat' (first | (with_reducible refine And.intro ?_ ?_) | ((first | refine GuardK.intro_f (fun h => ?_) (fun h => ?_) | refine GuardK.intro_t (fun h => ?_) (fun h => ?_) | refine CondK.intro (fun h => ?_) (fun h => ?_) | refine PickK.intro (fun h => ?_) (fun h => ?_)) <;> simp only [h, tyP, tyQ, ea, tk, d1, d2, d3, d4, d6, d7, n45, n43, evS, tyS, Bool.not_true, Bool.not_false, Nat.reduceAdd, Nat.reduceSub, Nat.reduceMul, Nat.reduceLT, Nat.reduceLeDiff, Nat.reduceEqDiff, reduceCtorEq, List.reduceReplicate, Int.reduceToNat, Int.reduceLE, Int.reduceLT]) | (refine DrawK.intro (by kernel_rfl) (by kernel_rfl) ?_; simp only [tyP, tyQ, ea, tk, d1, d2, d3, d4, d6, d7, n45, n43, evS, tyS, Bool.not_true, Bool.not_false, Nat.reduceAdd, Nat.reduceSub, Nat.reduceMul, Nat.reduceLT, Nat.reduceLeDiff, Nat.reduceEqDiff, reduceCtorEq, List.reduceReplicate, Int.reduceToNat, Int.reduceLE, Int.reduceLT])))
          all_goals try (((try simp only [decide_eq_true_eq, decide_eq_false_iff_not, beq_iff_eq, bne_iff_ne, ne_eq, beq_eq_false_iff_ne, bne_eq_false_iff_eq] at *) <;> (try omega)); done)
          all_goals try (rw [List.length_drop]; omega)
          refine atoi_loopK (γ := γ) (by kernel_rfl) (l := l) (r := (l.drop 1)) (R := iRes (negR false (scanD (l.drop 1) 0))) ?_ (fun _ => rfl) (fun h => by rw [h, negR_two]; rfl) ?_ ?_
          · first | (rw [List.length_drop]; omega) | omega
          · intro n hn hsc
            rw [hsc]
            have e : iRes (negR false (0, (n : Int))) = .tup [.v (.int .i64 ((n : Int))), .v .nilIface] := rfl
            rw [e]
            have wn : IntKind.i64.wrap (0 - (n : Int)) = -(n : Int) := (i64w (by omega) (by omega)).trans (by omega)
            unfold atoiS
            simp only [tyP, tyQ, ea, tk, d1, d2, d3, d4, wn, n45, n43, evS, tyS, Bool.not_true, Bool.not_false, Nat.reduceAdd, Nat.reduceSub, Nat.reduceMul, Nat.reduceLT, Nat.reduceLeDiff, Nat.reduceEqDiff, reduceCtorEq, List.reduceReplicate, Int.reduceToNat, Int.reduceLE, Int.reduceLT]
            all_goals try (((try simp only [decide_eq_true_eq, decide_eq_false_iff_not, beq_iff_eq, bne_iff_ne, ne_eq, beq_eq_false_iff_ne, bne_eq_false_iff_eq] at *) <;> (try omega)); done)
          · unfold atoiS
            simp only [evS, tyS, Bool.not_true, Bool.not_false, Nat.reduceAdd, Nat.reduceSub, Nat.reduceMul, Nat.reduceLT, Nat.reduceLeDiff, Nat.reduceEqDiff, reduceCtorEq, List.reduceReplicate, Int.reduceToNat, Int.reduceLE, Int.reduceLT]
            all_goals rfl
      · have n43 : ((atL l 0 : Int) == 43) = false := by simp; omega
        have es : signedA l = (false, l) := by unfold signedA; rw [if_neg s1, if_neg s2]
        have h0 : l ≠ [] := fun e => by rw [e] at hs; simp at hs
        have hF : fastA l = negR false (scanD l 0) := by unfold fastA; rw [es]; simp only [if_neg h0]
        rw [hF]
        have d6 : decide (l.length < 1) = false := decide_eq_false (by omega)
        have d7 : decide ((l.length : Int) < 1) = false := decide_eq_false (by omega)
        simp only [Tryz.f224, tyP, tyQ, ea, tk, d1, d2, d3, d4, d6, d7, n45, n43, evS, tyS, Bool.not_true, Bool.not_false, Nat.reduceAdd, Nat.reduceSub, Nat.reduceMul, Nat.reduceLT, Nat.reduceLeDiff, Nat.reduceEqDiff, reduceCtorEq, List.reduceReplicate, Int.reduceToNat, Int.reduceLE, Int.reduceLT]
        (repeat' (first | (with_reducible refine And.intro ?_ ?_) | ((first | refine GuardK.intro_f (fun h => ?_) (fun h => ?_) | refine GuardK.intro_t (fun h => ?_) (fun h => ?_) | refine CondK.intro (fun h => ?_) (fun h => ?_) | refine PickK.intro (fun h => ?_) (fun h => ?_)) <;> simp only [h, tyP, tyQ, ea, tk, d1, d2, d3, d4, d6, d7, n45, n43, evS, tyS, Bool.not_true, Bool.not_false, Nat.reduceAdd, Nat.reduceSub, Nat.reduceMul, Nat.reduceLT, Nat.reduceLeDiff, Nat.reduceEqDiff, reduceCtorEq, List.reduceReplicate, Int.reduceToNat, Int.reduceLE, Int.reduceLT]) | (refine DrawK.intro (by kernel_rfl) (by kernel_rfl) ?_; simp only [tyP, tyQ, ea, tk, d1, d2, d3, d4, d6, d7, n45, n43, evS, tyS, Bool.not_true, Bool.not_false, Nat.reduceAdd, Nat.reduceSub, Nat.reduceMul, Nat.reduceLT, Nat.reduceLeDiff, Nat.reduceEqDiff, reduceCtorEq, List.reduceReplicate, Int.reduceToNat, Int.reduceLE, Int.reduceLT])))
        all_goals try (((try simp only [decide_eq_true_eq, decide_eq_false_iff_not, beq_iff_eq, bne_iff_ne, ne_eq, beq_eq_false_iff_ne, bne_eq_false_iff_eq] at *) <;> (try omega)); done)
        all_goals try (rw [List.length_drop]; omega)
        refine atoi_loopK (γ := γ) (by kernel_rfl) (l := l) (r := l) (R := iRes (negR false (scanD l 0))) ?_ (fun _ => rfl) (fun h => by rw [h, negR_two]; rfl) ?_ ?_
        · first | (rw [List.length_drop]; omega) | omega
        · intro n hn hsc
          rw [hsc]
          have e : iRes (negR false (0, (n : Int))) = .tup [.v (.int .i64 ((n : Int))), .v .nilIface] := rfl
          rw [e]
          have wn : IntKind.i64.wrap (0 - (n : Int)) = -(n : Int) := (i64w (by omega) (by omega)).trans (by omega)
          unfold atoiS
          simp only [tyP, tyQ, ea, tk, d1, d2, d3, d4, wn, n45, n43, evS, tyS, Bool.not_true, Bool.not_false, Nat.reduceAdd, Nat.reduceSub, Nat.reduceMul, Nat.reduceLT, Nat.reduceLeDiff, Nat.reduceEqDiff, reduceCtorEq, List.reduceReplicate, Int.reduceToNat, Int.reduceLE, Int.reduceLT]
          all_goals try (((try simp only [decide_eq_true_eq, decide_eq_false_iff_not, beq_iff_eq, bne_iff_ne, ne_eq, beq_eq_false_iff_ne, bne_eq_false_iff_eq] at *) <;> (try omega)); done)
        · unfold atoiS
          simp only [evS, tyS, Bool.not_true, Bool.not_false, Nat.reduceAdd, Nat.reduceSub, Nat.reduceMul, Nat.reduceLT, Nat.reduceLeDiff, Nat.reduceEqDiff, reduceCtorEq, List.reduceReplicate, Int.reduceToNat, Int.reduceLE, Int.reduceLT]
          all_goals rfl
  · have hA : scanA l = scanI l := by unfold scanA; rw [if_neg hs]
    rw [hA]
    have kI := parseIntG_ev (γ := γ) 0 (.inl rfl) l hl
    by_cases h0 : l.length = 0
    · have l0 : l = [] := List.length_eq_zero_iff.1 h0
      subst l0
      simp only [Tryz.f224, tyP, tyQ, ea, evS, tyS, Bool.not_true, Bool.not_false, Nat.reduceAdd, Nat.reduceSub, Nat.reduceMul, Nat.reduceLT, Nat.reduceLeDiff, Nat.reduceEqDiff, reduceCtorEq, List.reduceReplicate, Int.reduceToNat, Int.reduceLE, Int.reduceLT]
      (repeat' (first | (with_reducible refine And.intro ?_ ?_) | ((first | refine GuardK.intro_f (fun h => ?_) (fun h => ?_) | refine GuardK.intro_t (fun h => ?_) (fun h => ?_) | refine CondK.intro (fun h => ?_) (fun h => ?_) | refine PickK.intro (fun h => ?_) (fun h => ?_)) <;> simp only [h, tyP, tyQ, ea, evS, tyS, Bool.not_true, Bool.not_false, Nat.reduceAdd, Nat.reduceSub, Nat.reduceMul, Nat.reduceLT, Nat.reduceLeDiff, Nat.reduceEqDiff, reduceCtorEq, List.reduceReplicate, Int.reduceToNat, Int.reduceLE, Int.reduceLT]) | (refine DrawK.intro (by kernel_rfl) (by kernel_rfl) ?_; simp only [tyP, tyQ, ea, evS, tyS, Bool.not_true, Bool.not_false, Nat.reduceAdd, Nat.reduceSub, Nat.reduceMul, Nat.reduceLT, Nat.reduceLeDiff, Nat.reduceEqDiff, reduceCtorEq, List.reduceReplicate, Int.reduceToNat, Int.reduceLE, Int.reduceLT])))
      all_goals try (((try simp only [decide_eq_true_eq, decide_eq_false_iff_not, beq_iff_eq, bne_iff_ne, ne_eq, beq_eq_false_iff_ne, bne_eq_false_iff_eq] at *) <;> (try omega)); done)
      all_goals (refine CallK.intro b90 rfl kI ?_)
      all_goals (simp only [iRes, tyP, tyQ, evS, tyS, Bool.not_true, Bool.not_false, Nat.reduceAdd, Nat.reduceSub, Nat.reduceMul, Nat.reduceLT, Nat.reduceLeDiff, Nat.reduceEqDiff, reduceCtorEq, List.reduceReplicate, Int.reduceToNat, Int.reduceLE, Int.reduceLT]; (repeat' (first | (with_reducible refine And.intro ?_ ?_) | ((first | refine GuardK.intro_f (fun h => ?_) (fun h => ?_) | refine GuardK.intro_t (fun h => ?_) (fun h => ?_) | refine CondK.intro (fun h => ?_) (fun h => ?_) | refine PickK.intro (fun h => ?_) (fun h => ?_)) <;> simp only [h, tyP, tyQ, evS, tyS, Bool.not_true, Bool.not_false, Nat.reduceAdd, Nat.reduceSub, Nat.reduceMul, Nat.reduceLT, Nat.reduceLeDiff, Nat.reduceEqDiff, reduceCtorEq, List.reduceReplicate, Int.reduceToNat, Int.reduceLE, Int.reduceLT]) | (refine DrawK.intro (by kernel_rfl) (by kernel_rfl) ?_; simp only [tyP, tyQ, evS, tyS, Bool.not_true, Bool.not_false, Nat.reduceAdd, Nat.reduceSub, Nat.reduceMul, Nat.reduceLT, Nat.reduceLeDiff, Nat.reduceEqDiff, reduceCtorEq, List.reduceReplicate, Int.reduceToNat, Int.reduceLE, Int.reduceLT]))); all_goals first | rfl | exact fz_err _ | trace_state)
    · have d1 : decide (0 < l.length) = true := decide_eq_true (by omega)
      have d2 : decide ((0 : Int) < (l.length : Int)) = true := decide_eq_true (by omega)
      have d3 : decide (l.length < 19) = false := decide_eq_false (by omega)
      have d4 : decide ((l.length : Int) < 19) = false := decide_eq_false (by omega)
      have d5 : decide (l.length < 10) = false := decide_eq_false (by omega)
      have d6 : decide ((l.length : Int) < 10) = false := decide_eq_false (by omega)
      simp only [Tryz.f224, tyP, tyQ, ea, d1, d2, d3, d4, d5, d6, evS, tyS, Bool.not_true, Bool.not_false, Nat.reduceAdd, Nat.reduceSub, Nat.reduceMul, Nat.reduceLT, Nat.reduceLeDiff, Nat.reduceEqDiff, reduceCtorEq, List.reduceReplicate, Int.reduceToNat, Int.reduceLE, Int.reduceLT]
      all_goals try (((try simp only [decide_eq_true_eq, decide_eq_false_iff_not, beq_iff_eq, bne_iff_ne, ne_eq, beq_eq_false_iff_ne, bne_eq_false_iff_eq] at *) <;> (try omega)); done)
      all_goals (refine CallK.intro b90 rfl kI ?_)
      all_goals (simp only [iRes, tyP, tyQ, evS, tyS, Bool.not_true, Bool.not_false, Nat.reduceAdd, Nat.reduceSub, Nat.reduceMul, Nat.reduceLT, Nat.reduceLeDiff, Nat.reduceEqDiff, reduceCtorEq, List.reduceReplicate, Int.reduceToNat, Int.reduceLE, Int.reduceLT]; (repeat' (first | (with_reducible refine And.intro ?_ ?_) | ((first | refine GuardK.intro_f (fun h => ?_) (fun h => ?_) | refine GuardK.intro_t (fun h => ?_) (fun h => ?_) | refine CondK.intro (fun h => ?_) (fun h => ?_) | refine PickK.intro (fun h => ?_) (fun h => ?_)) <;> simp only [h, tyP, tyQ, evS, tyS, Bool.not_true, Bool.not_false, Nat.reduceAdd, Nat.reduceSub, Nat.reduceMul, Nat.reduceLT, Nat.reduceLeDiff, Nat.reduceEqDiff, reduceCtorEq, List.reduceReplicate, Int.reduceToNat, Int.reduceLE, Int.reduceLT]) | (refine DrawK.intro (by kernel_rfl) (by kernel_rfl) ?_; simp only [tyP, tyQ, evS, tyS, Bool.not_true, Bool.not_false, Nat.reduceAdd, Nat.reduceSub, Nat.reduceMul, Nat.reduceLT, Nat.reduceLeDiff, Nat.reduceEqDiff, reduceCtorEq, List.reduceReplicate, Int.reduceToNat, Int.reduceLE, Int.reduceLT]))); all_goals first | rfl | exact fz_err _ | trace_state)
end Go.Proofs.YtlobiioioicmhaaGreatDoor
