/- Contracts of the functions that the law reaches. -/
import Derived.Test.YtlobiioioicmhaaGreatDoorQ3
import Derived.Lib.IndexLaws
import Derived.Lib.ItoaLen
/- A real's text, read. -/
namespace Go.Proofs.YtlobiioioicmhaaGreatDoor
set_option linter.all false
open Go Go.Ev
set_option maxRecDepth 20000
variable {γ : List (Nat × AV)}
theorem scanD_le (l : List UInt8) (n : Nat) : (scanD l n).1 ≤ 2 := by
  rcases scanD_cases l n with h | ⟨m, h, _⟩ <;> rw [h] <;> simp
theorem scanA_le (l : List UInt8) : (scanA l).1 ≤ 2 := by
  unfold scanA
  split
  · unfold fastA
    split
    · exact Nat.le_refl _
    · have := scanD_le (signedA l).2 0
      unfold negR
      split
      · exact Nat.zero_le _
      · exact this
  · exact scanI_le l
set_option maxRecDepth 20000 in
theorem atoi88_ev (hγ : GlN γ) (l : List UInt8) (hl : l.length ≤ 140737488351232) : Ev Tryz.prog γ 167 [.v (.string ⟨l.toArray⟩)] (.tup [.v (.int .i64 (scanA l).2), eErr (scanA l).1]) := by
  refine Ev.of Tryz.func167 rfl ?_
  have k110 := atoi110_ev (γ := γ) l hl
  have hle := scanA_le l
  simp only [Tryz.f167, evS, tyS, Bool.not_true, Bool.not_false, Nat.reduceAdd, Nat.reduceSub, Nat.reduceMul, Nat.reduceLT, Nat.reduceLeDiff, Nat.reduceEqDiff, reduceCtorEq, List.reduceReplicate, Int.reduceToNat, Int.reduceLE, Int.reduceLT]
  refine CallK.intro b110 rfl k110 ?_
  generalize scanA l = r at hle ⊢
  obtain ⟨k, v⟩ := r
  simp only at hle
  have kE : ∀ e : Int, e = 1 ∨ e = 2 → Ev Tryz.prog γ 170 [.v (.string _), .v (.string ⟨l.toArray⟩), .v (.int .i64 0), .v (.int .i64 0), .ifc 260 (.v (.int .i64 e))] (.ifc 261 .bad) := fun e he => toErrorG_ev hγ ⟨#[65, 116, 111, 105]⟩ ⟨l.toArray⟩ (by show l.toArray.size ≤ _; rw [List.size_toArray]; omega) 0 0 e he
  rcases (show k = 0 ∨ k = 1 ∨ k = 2 by omega) with rfl | rfl | rfl
  · have e1 : iRes (0, v) = .tup [.v (.int .i64 v), .v .nilIface] := rfl
    have e2 : eErr 0 = .v .nilIface := rfl
    rw [e1, e2]
    simp only [tyP, tyQ, evS, tyS, Bool.not_true, Bool.not_false, Nat.reduceAdd, Nat.reduceSub, Nat.reduceMul, Nat.reduceLT, Nat.reduceLeDiff, Nat.reduceEqDiff, reduceCtorEq, List.reduceReplicate, Int.reduceToNat, Int.reduceLE, Int.reduceLT]
    (repeat' (first | (with_reducible refine And.intro ?_ ?_) | ((first | refine GuardK.intro_f (fun h => ?_) (fun h => ?_) | refine GuardK.intro_t (fun h => ?_) (fun h => ?_) | refine CondK.intro (fun h => ?_) (fun h => ?_) | refine PickK.intro (fun h => ?_) (fun h => ?_)) <;> simp only [h, tyP, tyQ, evS, tyS, Bool.not_true, Bool.not_false, Nat.reduceAdd, Nat.reduceSub, Nat.reduceMul, Nat.reduceLT, Nat.reduceLeDiff, Nat.reduceEqDiff, reduceCtorEq, List.reduceReplicate, Int.reduceToNat, Int.reduceLE, Int.reduceLT]) | (refine DrawK.intro (by kernel_rfl) (by kernel_rfl) ?_; simp only [tyP, tyQ, evS, tyS, Bool.not_true, Bool.not_false, Nat.reduceAdd, Nat.reduceSub, Nat.reduceMul, Nat.reduceLT, Nat.reduceLeDiff, Nat.reduceEqDiff, reduceCtorEq, List.reduceReplicate, Int.reduceToNat, Int.reduceLE, Int.reduceLT])))
    all_goals try (((try simp only [decide_eq_true_eq, decide_eq_false_iff_not, beq_iff_eq, bne_iff_ne, ne_eq, beq_eq_false_iff_ne, bne_eq_false_iff_eq] at *) <;> (try omega)); done)
  · have e1 : iRes (1, v) = .tup [.v (.int .i64 v), .ifc 260 (.v (.int .i64 1))] := rfl
    have e2 : eErr 1 = .ifc 261 .bad := rfl
    rw [e1, e2]
    simp only [tyP, tyQ, evS, tyS, Bool.not_true, Bool.not_false, Nat.reduceAdd, Nat.reduceSub, Nat.reduceMul, Nat.reduceLT, Nat.reduceLeDiff, Nat.reduceEqDiff, reduceCtorEq, List.reduceReplicate, Int.reduceToNat, Int.reduceLE, Int.reduceLT]
    refine CallK.intro b91 rfl (kE 1 (.inl rfl)) ?_
    simp only [tyP, tyQ, evS, tyS, Bool.not_true, Bool.not_false, Nat.reduceAdd, Nat.reduceSub, Nat.reduceMul, Nat.reduceLT, Nat.reduceLeDiff, Nat.reduceEqDiff, reduceCtorEq, List.reduceReplicate, Int.reduceToNat, Int.reduceLE, Int.reduceLT]
    (repeat' (first | (with_reducible refine And.intro ?_ ?_) | ((first | refine GuardK.intro_f (fun h => ?_) (fun h => ?_) | refine GuardK.intro_t (fun h => ?_) (fun h => ?_) | refine CondK.intro (fun h => ?_) (fun h => ?_) | refine PickK.intro (fun h => ?_) (fun h => ?_)) <;> simp only [h, tyP, tyQ, evS, tyS, Bool.not_true, Bool.not_false, Nat.reduceAdd, Nat.reduceSub, Nat.reduceMul, Nat.reduceLT, Nat.reduceLeDiff, Nat.reduceEqDiff, reduceCtorEq, List.reduceReplicate, Int.reduceToNat, Int.reduceLE, Int.reduceLT]) | (refine DrawK.intro (by kernel_rfl) (by kernel_rfl) ?_; simp only [tyP, tyQ, evS, tyS, Bool.not_true, Bool.not_false, Nat.reduceAdd, Nat.reduceSub, Nat.reduceMul, Nat.reduceLT, Nat.reduceLeDiff, Nat.reduceEqDiff, reduceCtorEq, List.reduceReplicate, Int.reduceToNat, Int.reduceLE, Int.reduceLT])))
    all_goals try (((try simp only [decide_eq_true_eq, decide_eq_false_iff_not, beq_iff_eq, bne_iff_ne, ne_eq, beq_eq_false_iff_ne, bne_eq_false_iff_eq] at *) <;> (try omega)); done)
  · have e1 : iRes (2, v) = .tup [.v (.int .i64 v), .ifc 260 (.v (.int .i64 2))] := rfl
    have e2 : eErr 2 = .ifc 261 .bad := rfl
    rw [e1, e2]
    simp only [tyP, tyQ, evS, tyS, Bool.not_true, Bool.not_false, Nat.reduceAdd, Nat.reduceSub, Nat.reduceMul, Nat.reduceLT, Nat.reduceLeDiff, Nat.reduceEqDiff, reduceCtorEq, List.reduceReplicate, Int.reduceToNat, Int.reduceLE, Int.reduceLT]
    refine CallK.intro b91 rfl (kE 2 (.inr rfl)) ?_
    simp only [tyP, tyQ, evS, tyS, Bool.not_true, Bool.not_false, Nat.reduceAdd, Nat.reduceSub, Nat.reduceMul, Nat.reduceLT, Nat.reduceLeDiff, Nat.reduceEqDiff, reduceCtorEq, List.reduceReplicate, Int.reduceToNat, Int.reduceLE, Int.reduceLT]
    (repeat' (first | (with_reducible refine And.intro ?_ ?_) | ((first | refine GuardK.intro_f (fun h => ?_) (fun h => ?_) | refine GuardK.intro_t (fun h => ?_) (fun h => ?_) | refine CondK.intro (fun h => ?_) (fun h => ?_) | refine PickK.intro (fun h => ?_) (fun h => ?_)) <;> simp only [h, tyP, tyQ, evS, tyS, Bool.not_true, Bool.not_false, Nat.reduceAdd, Nat.reduceSub, Nat.reduceMul, Nat.reduceLT, Nat.reduceLeDiff, Nat.reduceEqDiff, reduceCtorEq, List.reduceReplicate, Int.reduceToNat, Int.reduceLE, Int.reduceLT]) | (refine DrawK.intro (by kernel_rfl) (by kernel_rfl) ?_; simp only [tyP, tyQ, evS, tyS, Bool.not_true, Bool.not_false, Nat.reduceAdd, Nat.reduceSub, Nat.reduceMul, Nat.reduceLT, Nat.reduceLeDiff, Nat.reduceEqDiff, reduceCtorEq, List.reduceReplicate, Int.reduceToNat, Int.reduceLE, Int.reduceLT])))
    all_goals try (((try simp only [decide_eq_true_eq, decide_eq_false_iff_not, beq_iff_eq, bne_iff_ne, ne_eq, beq_eq_false_iff_ne, bne_eq_false_iff_eq] at *) <;> (try omega)); done)
theorem b127 : bodyT Tryz.prog 261 := ⟨_, Tryz.func261, by kernel_rfl, by kernel_rfl⟩
theorem b107 : bodyT Tryz.prog 221 := ⟨_, Tryz.func221, by kernel_rfl, by kernel_rfl⟩
theorem b84 : bodyT Tryz.prog 163 := ⟨_, Tryz.func163, by kernel_rfl, by kernel_rfl⟩
theorem b106 : bodyT Tryz.prog 220 := ⟨_, Tryz.func220, by kernel_rfl, by kernel_rfl⟩
theorem b83 : bodyT Tryz.prog 162 := ⟨_, Tryz.func162, by kernel_rfl, by kernel_rfl⟩
theorem b57 : bodyT Tryz.prog 98 := ⟨_, Tryz.func98, by kernel_rfl, by kernel_rfl⟩
theorem b105 : bodyT Tryz.prog 219 := ⟨_, Tryz.func219, by kernel_rfl, by kernel_rfl⟩
theorem b82 : bodyT Tryz.prog 161 := ⟨_, Tryz.func161, by kernel_rfl, by kernel_rfl⟩
theorem b56 : bodyT Tryz.prog 97 := ⟨_, Tryz.func97, by kernel_rfl, by kernel_rfl⟩
theorem b85 : bodyT Tryz.prog 164 := ⟨_, Tryz.func164, by kernel_rfl, by kernel_rfl⟩
theorem b58 : bodyT Tryz.prog 99 := ⟨_, Tryz.func99, by kernel_rfl, by kernel_rfl⟩
/-- Does it begin, or end, with that byte? -/
def preB (l : List UInt8) (c : UInt8) : Bool := decide (1 ≤ l.length) && (l.take 1 == [c])
def sufB (l : List UInt8) (c : UInt8) : Bool := decide (1 ≤ l.length) && (l.drop (l.length - 1) == [c])
theorem hasPrefix_ev (l : List UInt8) (hl : l.length ≤ 140737488351232) (c : UInt8) : Ev Tryz.prog γ 261 [.v (.string ⟨l.toArray⟩), .v (.string ⟨[c].toArray⟩)] (.v (.bool (preB l c))) := by
  refine Ev.of Tryz.func261 rfl ?_
  have t1 : List.drop 0 (l.take 1) = l.take 1 := rfl
  by_cases h : 1 ≤ l.length
  · have d1 : decide (1 ≤ l.length) = true := decide_eq_true h
    have d2 : decide ((1 : Int) ≤ (l.length : Int)) = true := decide_eq_true (by omega)
    simp only [Tryz.f261, preB, d1, d2, evS, tyS, Bool.not_true, Bool.not_false, Nat.reduceAdd, Nat.reduceSub, Nat.reduceMul, Nat.reduceLT, Nat.reduceLeDiff, Nat.reduceEqDiff, reduceCtorEq, List.reduceReplicate, Int.reduceToNat, Int.reduceLE, Int.reduceLT]
    (repeat' (first | (with_reducible refine And.intro ?_ ?_) | ((first | refine GuardK.intro_f (fun h => ?_) (fun h => ?_) | refine GuardK.intro_t (fun h => ?_) (fun h => ?_) | refine CondK.intro (fun h => ?_) (fun h => ?_) | refine PickK.intro (fun h => ?_) (fun h => ?_)) <;> simp only [h, d1, d2, evS, tyS, Bool.not_true, Bool.not_false, Nat.reduceAdd, Nat.reduceSub, Nat.reduceMul, Nat.reduceLT, Nat.reduceLeDiff, Nat.reduceEqDiff, reduceCtorEq, List.reduceReplicate, Int.reduceToNat, Int.reduceLE, Int.reduceLT]) | (refine DrawK.intro (by kernel_rfl) (by kernel_rfl) ?_; simp only [d1, d2, evS, tyS, Bool.not_true, Bool.not_false, Nat.reduceAdd, Nat.reduceSub, Nat.reduceMul, Nat.reduceLT, Nat.reduceLeDiff, Nat.reduceEqDiff, reduceCtorEq, List.reduceReplicate, Int.reduceToNat, Int.reduceLE, Int.reduceLT])))
    all_goals try (((try simp only [decide_eq_true_eq, decide_eq_false_iff_not, beq_iff_eq, bne_iff_ne, ne_eq, beq_eq_false_iff_ne, bne_eq_false_iff_eq] at *) <;> (try omega)); done)
    all_goals first | rfl | trace_state
  · have d1 : decide (1 ≤ l.length) = false := decide_eq_false h
    have d2 : decide ((1 : Int) ≤ (l.length : Int)) = false := decide_eq_false (by omega)
    simp only [Tryz.f261, preB, d1, d2, evS, tyS, Bool.not_true, Bool.not_false, Nat.reduceAdd, Nat.reduceSub, Nat.reduceMul, Nat.reduceLT, Nat.reduceLeDiff, Nat.reduceEqDiff, reduceCtorEq, List.reduceReplicate, Int.reduceToNat, Int.reduceLE, Int.reduceLT]
    (repeat' (first | (with_reducible refine And.intro ?_ ?_) | ((first | refine GuardK.intro_f (fun h => ?_) (fun h => ?_) | refine GuardK.intro_t (fun h => ?_) (fun h => ?_) | refine CondK.intro (fun h => ?_) (fun h => ?_) | refine PickK.intro (fun h => ?_) (fun h => ?_)) <;> simp only [h, d1, d2, evS, tyS, Bool.not_true, Bool.not_false, Nat.reduceAdd, Nat.reduceSub, Nat.reduceMul, Nat.reduceLT, Nat.reduceLeDiff, Nat.reduceEqDiff, reduceCtorEq, List.reduceReplicate, Int.reduceToNat, Int.reduceLE, Int.reduceLT]) | (refine DrawK.intro (by kernel_rfl) (by kernel_rfl) ?_; simp only [d1, d2, evS, tyS, Bool.not_true, Bool.not_false, Nat.reduceAdd, Nat.reduceSub, Nat.reduceMul, Nat.reduceLT, Nat.reduceLeDiff, Nat.reduceEqDiff, reduceCtorEq, List.reduceReplicate, Int.reduceToNat, Int.reduceLE, Int.reduceLT])))
    all_goals try (((try simp only [decide_eq_true_eq, decide_eq_false_iff_not, beq_iff_eq, bne_iff_ne, ne_eq, beq_eq_false_iff_ne, bne_eq_false_iff_eq] at *) <;> (try omega)); done)
    all_goals first | rfl | trace_state
theorem hasSuffix_ev (l : List UInt8) (hl : l.length ≤ 140737488351232) (c : UInt8) : Ev Tryz.prog γ 220 [.v (.string ⟨l.toArray⟩), .v (.string ⟨[c].toArray⟩)] (.v (.bool (sufB l c))) := by
  refine Ev.of Tryz.func220 rfl ?_
  have tk : l.take l.length = l := List.take_length
  by_cases h : 1 ≤ l.length
  · have d1 : decide (1 ≤ l.length) = true := decide_eq_true h
    have d2 : decide ((1 : Int) ≤ (l.length : Int)) = true := decide_eq_true (by omega)
    have w1 : IntKind.i64.wrap ((l.length : Int) - ((1 : Nat) : Int)) = ((l.length - 1 : Nat) : Int) := by rw [i64w] <;> omega
    simp only [Tryz.f220, sufB, d1, d2, w1, tk, evS, tyS, Bool.not_true, Bool.not_false, Nat.reduceAdd, Nat.reduceSub, Nat.reduceMul, Nat.reduceLT, Nat.reduceLeDiff, Nat.reduceEqDiff, reduceCtorEq, List.reduceReplicate, Int.reduceToNat, Int.reduceLE, Int.reduceLT]
    (repeat' (first | (with_reducible refine And.intro ?_ ?_) | ((first | refine GuardK.intro_f (fun h => ?_) (fun h => ?_) | refine GuardK.intro_t (fun h => ?_) (fun h => ?_) | refine CondK.intro (fun h => ?_) (fun h => ?_) | refine PickK.intro (fun h => ?_) (fun h => ?_)) <;> simp only [h, d1, d2, w1, tk, evS, tyS, Bool.not_true, Bool.not_false, Nat.reduceAdd, Nat.reduceSub, Nat.reduceMul, Nat.reduceLT, Nat.reduceLeDiff, Nat.reduceEqDiff, reduceCtorEq, List.reduceReplicate, Int.reduceToNat, Int.reduceLE, Int.reduceLT]) | (refine DrawK.intro (by kernel_rfl) (by kernel_rfl) ?_; simp only [d1, d2, w1, tk, evS, tyS, Bool.not_true, Bool.not_false, Nat.reduceAdd, Nat.reduceSub, Nat.reduceMul, Nat.reduceLT, Nat.reduceLeDiff, Nat.reduceEqDiff, reduceCtorEq, List.reduceReplicate, Int.reduceToNat, Int.reduceLE, Int.reduceLT])))
    all_goals try (((try simp only [decide_eq_true_eq, decide_eq_false_iff_not, beq_iff_eq, bne_iff_ne, ne_eq, beq_eq_false_iff_ne, bne_eq_false_iff_eq] at *) <;> (try omega)); done)
    all_goals first | rfl | trace_state
  · have d1 : decide (1 ≤ l.length) = false := decide_eq_false h
    have d2 : decide ((1 : Int) ≤ (l.length : Int)) = false := decide_eq_false (by omega)
    simp only [Tryz.f220, sufB, d1, d2, evS, tyS, Bool.not_true, Bool.not_false, Nat.reduceAdd, Nat.reduceSub, Nat.reduceMul, Nat.reduceLT, Nat.reduceLeDiff, Nat.reduceEqDiff, reduceCtorEq, List.reduceReplicate, Int.reduceToNat, Int.reduceLE, Int.reduceLT]
    (repeat' (first | (with_reducible refine And.intro ?_ ?_) | ((first | refine GuardK.intro_f (fun h => ?_) (fun h => ?_) | refine GuardK.intro_t (fun h => ?_) (fun h => ?_) | refine CondK.intro (fun h => ?_) (fun h => ?_) | refine PickK.intro (fun h => ?_) (fun h => ?_)) <;> simp only [h, d1, d2, evS, tyS, Bool.not_true, Bool.not_false, Nat.reduceAdd, Nat.reduceSub, Nat.reduceMul, Nat.reduceLT, Nat.reduceLeDiff, Nat.reduceEqDiff, reduceCtorEq, List.reduceReplicate, Int.reduceToNat, Int.reduceLE, Int.reduceLT]) | (refine DrawK.intro (by kernel_rfl) (by kernel_rfl) ?_; simp only [d1, d2, evS, tyS, Bool.not_true, Bool.not_false, Nat.reduceAdd, Nat.reduceSub, Nat.reduceMul, Nat.reduceLT, Nat.reduceLeDiff, Nat.reduceEqDiff, reduceCtorEq, List.reduceReplicate, Int.reduceToNat, Int.reduceLE, Int.reduceLT])))
    all_goals try (((try simp only [decide_eq_true_eq, decide_eq_false_iff_not, beq_iff_eq, bne_iff_ne, ne_eq, beq_eq_false_iff_ne, bne_eq_false_iff_eq] at *) <;> (try omega)); done)
    all_goals first | rfl | trace_state
def cutP (l : List UInt8) (c : UInt8) : List UInt8 := if preB l c = true then l.drop 1 else l
theorem preB_len {l : List UInt8} {c : UInt8} (h : preB l c = true) : 1 ≤ l.length := by
  unfold preB at h; simp at h; exact h.1
theorem sufB_len {l : List UInt8} {c : UInt8} (h : sufB l c = true) : 1 ≤ l.length := by
  unfold sufB at h; simp at h; exact h.1
theorem cutPrefix107_ev (l : List UInt8) (hl : l.length ≤ 140737488351232) (c : UInt8) : Ev Tryz.prog γ 221 [.v (.string ⟨l.toArray⟩), .v (.string ⟨[c].toArray⟩)] (.tup [.v (.string ⟨(cutP l c).toArray⟩), .v (.bool (preB l c))]) := by
  refine Ev.of Tryz.func221 rfl ?_
  have tk : l.take l.length = l := List.take_length
  simp only [Tryz.f221, evS, tyS, Bool.not_true, Bool.not_false, Nat.reduceAdd, Nat.reduceSub, Nat.reduceMul, Nat.reduceLT, Nat.reduceLeDiff, Nat.reduceEqDiff, reduceCtorEq, List.reduceReplicate, Int.reduceToNat, Int.reduceLE, Int.reduceLT]
  refine CallK.intro b127 rfl (hasPrefix_ev l hl c) ?_
  cases h : preB l c with
  | true =>
    have := preB_len h
    have e : cutP l c = l.drop 1 := by unfold cutP; rw [if_pos h]
    rw [e]
    simp only [tk, evS, tyS, Bool.not_true, Bool.not_false, Nat.reduceAdd, Nat.reduceSub, Nat.reduceMul, Nat.reduceLT, Nat.reduceLeDiff, Nat.reduceEqDiff, reduceCtorEq, List.reduceReplicate, Int.reduceToNat, Int.reduceLE, Int.reduceLT]
    (repeat' (first | (with_reducible refine And.intro ?_ ?_) | ((first | refine GuardK.intro_f (fun h => ?_) (fun h => ?_) | refine GuardK.intro_t (fun h => ?_) (fun h => ?_) | refine CondK.intro (fun h => ?_) (fun h => ?_) | refine PickK.intro (fun h => ?_) (fun h => ?_)) <;> simp only [h, tk, evS, tyS, Bool.not_true, Bool.not_false, Nat.reduceAdd, Nat.reduceSub, Nat.reduceMul, Nat.reduceLT, Nat.reduceLeDiff, Nat.reduceEqDiff, reduceCtorEq, List.reduceReplicate, Int.reduceToNat, Int.reduceLE, Int.reduceLT]) | (refine DrawK.intro (by kernel_rfl) (by kernel_rfl) ?_; simp only [tk, evS, tyS, Bool.not_true, Bool.not_false, Nat.reduceAdd, Nat.reduceSub, Nat.reduceMul, Nat.reduceLT, Nat.reduceLeDiff, Nat.reduceEqDiff, reduceCtorEq, List.reduceReplicate, Int.reduceToNat, Int.reduceLE, Int.reduceLT])))
    all_goals try (((try simp only [decide_eq_true_eq, decide_eq_false_iff_not, beq_iff_eq, bne_iff_ne, ne_eq, beq_eq_false_iff_ne, bne_eq_false_iff_eq] at *) <;> (try omega)); done)
    all_goals first | rfl | trace_state
  | false =>
    have e : cutP l c = l := by unfold cutP; rw [if_neg (by rw [h]; simp)]
    rw [e]
    simp only [tk, evS, tyS, Bool.not_true, Bool.not_false, Nat.reduceAdd, Nat.reduceSub, Nat.reduceMul, Nat.reduceLT, Nat.reduceLeDiff, Nat.reduceEqDiff, reduceCtorEq, List.reduceReplicate, Int.reduceToNat, Int.reduceLE, Int.reduceLT]
    (repeat' (first | (with_reducible refine And.intro ?_ ?_) | ((first | refine GuardK.intro_f (fun h => ?_) (fun h => ?_) | refine GuardK.intro_t (fun h => ?_) (fun h => ?_) | refine CondK.intro (fun h => ?_) (fun h => ?_) | refine PickK.intro (fun h => ?_) (fun h => ?_)) <;> simp only [h, tk, evS, tyS, Bool.not_true, Bool.not_false, Nat.reduceAdd, Nat.reduceSub, Nat.reduceMul, Nat.reduceLT, Nat.reduceLeDiff, Nat.reduceEqDiff, reduceCtorEq, List.reduceReplicate, Int.reduceToNat, Int.reduceLE, Int.reduceLT]) | (refine DrawK.intro (by kernel_rfl) (by kernel_rfl) ?_; simp only [tk, evS, tyS, Bool.not_true, Bool.not_false, Nat.reduceAdd, Nat.reduceSub, Nat.reduceMul, Nat.reduceLT, Nat.reduceLeDiff, Nat.reduceEqDiff, reduceCtorEq, List.reduceReplicate, Int.reduceToNat, Int.reduceLE, Int.reduceLT])))
    all_goals try (((try simp only [decide_eq_true_eq, decide_eq_false_iff_not, beq_iff_eq, bne_iff_ne, ne_eq, beq_eq_false_iff_ne, bne_eq_false_iff_eq] at *) <;> (try omega)); done)
    all_goals first | rfl | trace_state
theorem cutPrefix_ev (l : List UInt8) (hl : l.length ≤ 140737488351232) (c : UInt8) : Ev Tryz.prog γ 163 [.v (.string ⟨l.toArray⟩), .v (.string ⟨[c].toArray⟩)] (.tup [.v (.string ⟨(cutP l c).toArray⟩), .v (.bool (preB l c))]) := by
  refine Ev.of Tryz.func163 rfl ?_
  simp only [Tryz.f163, evS, tyS, Bool.not_true, Bool.not_false, Nat.reduceAdd, Nat.reduceSub, Nat.reduceMul, Nat.reduceLT, Nat.reduceLeDiff, Nat.reduceEqDiff, reduceCtorEq, List.reduceReplicate, Int.reduceToNat, Int.reduceLE, Int.reduceLT]
  refine CallK.intro b107 rfl (cutPrefix107_ev l hl c) ?_
  simp only [evS, tyS, Bool.not_true, Bool.not_false, Nat.reduceAdd, Nat.reduceSub, Nat.reduceMul, Nat.reduceLT, Nat.reduceLeDiff, Nat.reduceEqDiff, reduceCtorEq, List.reduceReplicate, Int.reduceToNat, Int.reduceLE, Int.reduceLT]
def trimS (l : List UInt8) (c : UInt8) : List UInt8 := if sufB l c = true then l.take (l.length - 1) else l
theorem trimSuffix83_ev (l : List UInt8) (hl : l.length ≤ 140737488351232) (c : UInt8) : Ev Tryz.prog γ 162 [.v (.string ⟨l.toArray⟩), .v (.string ⟨[c].toArray⟩)] (.v (.string ⟨(trimS l c).toArray⟩)) := by
  refine Ev.of Tryz.func162 rfl ?_
  simp only [Tryz.f162, evS, tyS, Bool.not_true, Bool.not_false, Nat.reduceAdd, Nat.reduceSub, Nat.reduceMul, Nat.reduceLT, Nat.reduceLeDiff, Nat.reduceEqDiff, reduceCtorEq, List.reduceReplicate, Int.reduceToNat, Int.reduceLE, Int.reduceLT]
  refine CallK.intro b106 rfl (hasSuffix_ev l hl c) ?_
  cases h : sufB l c with
  | true =>
    have := sufB_len h
    have w1 : IntKind.i64.wrap ((l.length : Int) - ((1 : Nat) : Int)) = ((l.length - 1 : Nat) : Int) := by rw [i64w] <;> omega
    have e : trimS l c = l.take (l.length - 1) := by unfold trimS; rw [if_pos h]
    rw [e]
    simp only [w1, evS, tyS, Bool.not_true, Bool.not_false, Nat.reduceAdd, Nat.reduceSub, Nat.reduceMul, Nat.reduceLT, Nat.reduceLeDiff, Nat.reduceEqDiff, reduceCtorEq, List.reduceReplicate, Int.reduceToNat, Int.reduceLE, Int.reduceLT]
    (repeat' (first | (with_reducible refine And.intro ?_ ?_) | ((first | refine GuardK.intro_f (fun h => ?_) (fun h => ?_) | refine GuardK.intro_t (fun h => ?_) (fun h => ?_) | refine CondK.intro (fun h => ?_) (fun h => ?_) | refine PickK.intro (fun h => ?_) (fun h => ?_)) <;> simp only [h, w1, evS, tyS, Bool.not_true, Bool.not_false, Nat.reduceAdd, Nat.reduceSub, Nat.reduceMul, Nat.reduceLT, Nat.reduceLeDiff, Nat.reduceEqDiff, reduceCtorEq, List.reduceReplicate, Int.reduceToNat, Int.reduceLE, Int.reduceLT]) | (refine DrawK.intro (by kernel_rfl) (by kernel_rfl) ?_; simp only [w1, evS, tyS, Bool.not_true, Bool.not_false, Nat.reduceAdd, Nat.reduceSub, Nat.reduceMul, Nat.reduceLT, Nat.reduceLeDiff, Nat.reduceEqDiff, reduceCtorEq, List.reduceReplicate, Int.reduceToNat, Int.reduceLE, Int.reduceLT])))
    all_goals try (((try simp only [decide_eq_true_eq, decide_eq_false_iff_not, beq_iff_eq, bne_iff_ne, ne_eq, beq_eq_false_iff_ne, bne_eq_false_iff_eq] at *) <;> (try omega)); done)
    all_goals first | rfl | trace_state
  | false =>
    have e : trimS l c = l := by unfold trimS; rw [if_neg (by rw [h]; simp)]
    rw [e]
    simp only [evS, tyS, Bool.not_true, Bool.not_false, Nat.reduceAdd, Nat.reduceSub, Nat.reduceMul, Nat.reduceLT, Nat.reduceLeDiff, Nat.reduceEqDiff, reduceCtorEq, List.reduceReplicate, Int.reduceToNat, Int.reduceLE, Int.reduceLT]
    (repeat' (first | (with_reducible refine And.intro ?_ ?_) | ((first | refine GuardK.intro_f (fun h => ?_) (fun h => ?_) | refine GuardK.intro_t (fun h => ?_) (fun h => ?_) | refine CondK.intro (fun h => ?_) (fun h => ?_) | refine PickK.intro (fun h => ?_) (fun h => ?_)) <;> simp only [h, evS, tyS, Bool.not_true, Bool.not_false, Nat.reduceAdd, Nat.reduceSub, Nat.reduceMul, Nat.reduceLT, Nat.reduceLeDiff, Nat.reduceEqDiff, reduceCtorEq, List.reduceReplicate, Int.reduceToNat, Int.reduceLE, Int.reduceLT]) | (refine DrawK.intro (by kernel_rfl) (by kernel_rfl) ?_; simp only [evS, tyS, Bool.not_true, Bool.not_false, Nat.reduceAdd, Nat.reduceSub, Nat.reduceMul, Nat.reduceLT, Nat.reduceLeDiff, Nat.reduceEqDiff, reduceCtorEq, List.reduceReplicate, Int.reduceToNat, Int.reduceLE, Int.reduceLT])))
    all_goals try (((try simp only [decide_eq_true_eq, decide_eq_false_iff_not, beq_iff_eq, bne_iff_ne, ne_eq, beq_eq_false_iff_ne, bne_eq_false_iff_eq] at *) <;> (try omega)); done)
    all_goals first | rfl | trace_state
theorem trimSuffix_ev (l : List UInt8) (hl : l.length ≤ 140737488351232) (c : UInt8) : Ev Tryz.prog γ 98 [.v (.string ⟨l.toArray⟩), .v (.string ⟨[c].toArray⟩)] (.v (.string ⟨(trimS l c).toArray⟩)) := by
  refine Ev.of Tryz.func98 rfl ?_
  simp only [Tryz.f98, evS, tyS, Bool.not_true, Bool.not_false, Nat.reduceAdd, Nat.reduceSub, Nat.reduceMul, Nat.reduceLT, Nat.reduceLeDiff, Nat.reduceEqDiff, reduceCtorEq, List.reduceReplicate, Int.reduceToNat, Int.reduceLE, Int.reduceLT]
  refine CallK.intro b83 rfl (trimSuffix83_ev l hl c) ?_
  simp only [evS, tyS, Bool.not_true, Bool.not_false, Nat.reduceAdd, Nat.reduceSub, Nat.reduceMul, Nat.reduceLT, Nat.reduceLeDiff, Nat.reduceEqDiff, reduceCtorEq, List.reduceReplicate, Int.reduceToNat, Int.reduceLE, Int.reduceLT]
/-- Where a byte stands first; of a text that is that byte alone, at its start. -/
def idxB (l : List UInt8) (c : UInt8) : Int := if l = [c] then 0 else Lib.indexByte l c
theorem idxB_lt {l : List UInt8} {c : UInt8} (h : 0 ≤ idxB l c) : (idxB l c).toNat < l.length := by
  unfold idxB at h ⊢
  split
  · rename_i e; rw [e]; exact Nat.zero_lt_one
  · rename_i e
    rw [if_neg e] at h
    obtain ⟨o, ho⟩ : ∃ o : Nat, Lib.indexByte l c = o := ⟨(Lib.indexByte l c).toNat, by omega⟩
    have := (Lib.indexByte_some ho).1
    rw [ho]
    exact (List.getElem?_eq_some_iff.1 this).1
theorem index_ev (l : List UInt8) (hl : l.length ≤ 140737488351232) (c : UInt8) : Ev Tryz.prog γ 219 [.v (.string ⟨l.toArray⟩), .v (.string ⟨[c].toArray⟩)] (.v (.int .i64 (idxB l c))) := by
  refine Ev.of Tryz.func219 rfl ?_
  have k102 := sl_IndexByte_ev (γ := γ) ⟨l.toArray⟩ ((c.toNat : Nat) : Int)
  have ec : (((c.toNat : Nat) : Int)).toNat.toUInt8 = c := by simp
  rw [ec] at k102
  have z1 : ((1 : Int) == 0) = false := by decide
  have z2 : ((1 : Int) == 1) = true := by decide
  by_cases h : l = [c]
  · have e1 : ([c] == l) = true := by rw [h]; simp
    have e2 : idxB l c = 0 := by unfold idxB; rw [if_pos h]
    rw [e2]
    simp only [Tryz.f219, z1, z2, e1, evS, tyS, Bool.not_true, Bool.not_false, Nat.reduceAdd, Nat.reduceSub, Nat.reduceMul, Nat.reduceLT, Nat.reduceLeDiff, Nat.reduceEqDiff, reduceCtorEq, List.reduceReplicate, Int.reduceToNat, Int.reduceLE, Int.reduceLT]
    (repeat' (first | (with_reducible refine And.intro ?_ ?_) | ((first | refine GuardK.intro_f (fun h => ?_) (fun h => ?_) | refine GuardK.intro_t (fun h => ?_) (fun h => ?_) | refine CondK.intro (fun h => ?_) (fun h => ?_) | refine PickK.intro (fun h => ?_) (fun h => ?_)) <;> simp only [h, z1, z2, e1, evS, tyS, Bool.not_true, Bool.not_false, Nat.reduceAdd, Nat.reduceSub, Nat.reduceMul, Nat.reduceLT, Nat.reduceLeDiff, Nat.reduceEqDiff, reduceCtorEq, List.reduceReplicate, Int.reduceToNat, Int.reduceLE, Int.reduceLT]) | (refine DrawK.intro (by kernel_rfl) (by kernel_rfl) ?_; simp only [z1, z2, e1, evS, tyS, Bool.not_true, Bool.not_false, Nat.reduceAdd, Nat.reduceSub, Nat.reduceMul, Nat.reduceLT, Nat.reduceLeDiff, Nat.reduceEqDiff, reduceCtorEq, List.reduceReplicate, Int.reduceToNat, Int.reduceLE, Int.reduceLT])))
    all_goals try (((try simp only [decide_eq_true_eq, decide_eq_false_iff_not, beq_iff_eq, bne_iff_ne, ne_eq, beq_eq_false_iff_ne, bne_eq_false_iff_eq] at *) <;> (try omega)); done)
  · have e1 : ([c] == l) = false := by
      cases hb : ([c] == l) with
      | false => rfl
      | true => exact absurd (eq_of_beq hb).symm h
    have e2 : idxB l c = Lib.indexByte l c := by unfold idxB; rw [if_neg h]
    rw [e2]
    simp only [Tryz.f219, z1, z2, e1, evS, tyS, Bool.not_true, Bool.not_false, Nat.reduceAdd, Nat.reduceSub, Nat.reduceMul, Nat.reduceLT, Nat.reduceLeDiff, Nat.reduceEqDiff, reduceCtorEq, List.reduceReplicate, Int.reduceToNat, Int.reduceLE, Int.reduceLT]
    (repeat' (first | (with_reducible refine And.intro ?_ ?_) | ((first | refine GuardK.intro_f (fun h => ?_) (fun h => ?_) | refine GuardK.intro_t (fun h => ?_) (fun h => ?_) | refine CondK.intro (fun h => ?_) (fun h => ?_) | refine PickK.intro (fun h => ?_) (fun h => ?_)) <;> simp only [h, z1, z2, e1, evS, tyS, Bool.not_true, Bool.not_false, Nat.reduceAdd, Nat.reduceSub, Nat.reduceMul, Nat.reduceLT, Nat.reduceLeDiff, Nat.reduceEqDiff, reduceCtorEq, List.reduceReplicate, Int.reduceToNat, Int.reduceLE, Int.reduceLT]) | (refine DrawK.intro (by kernel_rfl) (by kernel_rfl) ?_; simp only [z1, z2, e1, evS, tyS, Bool.not_true, Bool.not_false, Nat.reduceAdd, Nat.reduceSub, Nat.reduceMul, Nat.reduceLT, Nat.reduceLeDiff, Nat.reduceEqDiff, reduceCtorEq, List.reduceReplicate, Int.reduceToNat, Int.reduceLE, Int.reduceLT])))
    all_goals try (((try simp only [decide_eq_true_eq, decide_eq_false_iff_not, beq_iff_eq, bne_iff_ne, ne_eq, beq_eq_false_iff_ne, bne_eq_false_iff_eq] at *) <;> (try omega)); done)
    refine CallK.intro b102 rfl k102 ?_
    simp only [evS, tyS, Bool.not_true, Bool.not_false, Nat.reduceAdd, Nat.reduceSub, Nat.reduceMul, Nat.reduceLT, Nat.reduceLeDiff, Nat.reduceEqDiff, reduceCtorEq, List.reduceReplicate, Int.reduceToNat, Int.reduceLE, Int.reduceLT]
    (repeat' (first | (with_reducible refine And.intro ?_ ?_) | ((first | refine GuardK.intro_f (fun h => ?_) (fun h => ?_) | refine GuardK.intro_t (fun h => ?_) (fun h => ?_) | refine CondK.intro (fun h => ?_) (fun h => ?_) | refine PickK.intro (fun h => ?_) (fun h => ?_)) <;> simp only [h, evS, tyS, Bool.not_true, Bool.not_false, Nat.reduceAdd, Nat.reduceSub, Nat.reduceMul, Nat.reduceLT, Nat.reduceLeDiff, Nat.reduceEqDiff, reduceCtorEq, List.reduceReplicate, Int.reduceToNat, Int.reduceLE, Int.reduceLT]) | (refine DrawK.intro (by kernel_rfl) (by kernel_rfl) ?_; simp only [evS, tyS, Bool.not_true, Bool.not_false, Nat.reduceAdd, Nat.reduceSub, Nat.reduceMul, Nat.reduceLT, Nat.reduceLeDiff, Nat.reduceEqDiff, reduceCtorEq, List.reduceReplicate, Int.reduceToNat, Int.reduceLE, Int.reduceLT])))
    all_goals try (((try simp only [decide_eq_true_eq, decide_eq_false_iff_not, beq_iff_eq, bne_iff_ne, ne_eq, beq_eq_false_iff_ne, bne_eq_false_iff_eq] at *) <;> (try omega)); done)
def cutB (l : List UInt8) (c : UInt8) : List UInt8 × List UInt8 × Bool := if 0 ≤ idxB l c then (l.take (idxB l c).toNat, l.drop ((idxB l c).toNat + 1), true) else (l, [], false)
def cutR (r : List UInt8 × List UInt8 × Bool) : AV := .tup [.v (.string ⟨r.1.toArray⟩), .v (.string ⟨r.2.1.toArray⟩), .v (.bool r.2.2)]
set_option maxHeartbeats 2000000 in
theorem cut82_ev (l : List UInt8) (hl : l.length ≤ 140737488351232) (c : UInt8) : Ev Tryz.prog γ 161 [.v (.string ⟨l.toArray⟩), .v (.string ⟨[c].toArray⟩)] (cutR (cutB l c)) := by
  refine Ev.of Tryz.func161 rfl ?_
  have tk : l.take l.length = l := List.take_length
  have k105 := index_ev (γ := γ) l hl c
  simp only [Tryz.f161, evS, tyS, Bool.not_true, Bool.not_false, Nat.reduceAdd, Nat.reduceSub, Nat.reduceMul, Nat.reduceLT, Nat.reduceLeDiff, Nat.reduceEqDiff, reduceCtorEq, List.reduceReplicate, Int.reduceToNat, Int.reduceLE, Int.reduceLT]
  refine CallK.intro b105 rfl k105 ?_
  by_cases h : 0 ≤ idxB l c
  · have hlt := idxB_lt h
    have e : cutR (cutB l c) = .tup [.v (.string ⟨(l.take (idxB l c).toNat).toArray⟩), .v (.string ⟨(l.drop ((idxB l c).toNat + 1)).toArray⟩), .v (.bool true)] := by unfold cutB cutR; rw [if_pos h]
    rw [e]
    obtain ⟨o, ho⟩ : ∃ o : Nat, idxB l c = (o : Int) := ⟨(idxB l c).toNat, by omega⟩
    rw [ho] at hlt ⊢
    simp only [Int.toNat_natCast] at hlt ⊢
    have w1 : IntKind.i64.wrap ((o : Int) + ((1 : Nat) : Int)) = ((o + 1 : Nat) : Int) := by rw [i64w] <;> omega
    have d1 : decide (0 ≤ (o : Int)) = true := decide_eq_true (by omega)
    have d2 : decide (0 ≤ o) = true := decide_eq_true (by omega)
    simp only [tk, w1, d1, d2, evS, tyS, Bool.not_true, Bool.not_false, Nat.reduceAdd, Nat.reduceSub, Nat.reduceMul, Nat.reduceLT, Nat.reduceLeDiff, Nat.reduceEqDiff, reduceCtorEq, List.reduceReplicate, Int.reduceToNat, Int.reduceLE, Int.reduceLT]
    (repeat' (first | (with_reducible refine And.intro ?_ ?_) | ((first | refine GuardK.intro_f (fun h => ?_) (fun h => ?_) | refine GuardK.intro_t (fun h => ?_) (fun h => ?_) | refine CondK.intro (fun h => ?_) (fun h => ?_) | refine PickK.intro (fun h => ?_) (fun h => ?_)) <;> simp only [h, tk, w1, d1, d2, evS, tyS, Bool.not_true, Bool.not_false, Nat.reduceAdd, Nat.reduceSub, Nat.reduceMul, Nat.reduceLT, Nat.reduceLeDiff, Nat.reduceEqDiff, reduceCtorEq, List.reduceReplicate, Int.reduceToNat, Int.reduceLE, Int.reduceLT]) | (refine DrawK.intro (by kernel_rfl) (by kernel_rfl) ?_; simp only [tk, w1, d1, d2, evS, tyS, Bool.not_true, Bool.not_false, Nat.reduceAdd, Nat.reduceSub, Nat.reduceMul, Nat.reduceLT, Nat.reduceLeDiff, Nat.reduceEqDiff, reduceCtorEq, List.reduceReplicate, Int.reduceToNat, Int.reduceLE, Int.reduceLT])))
    all_goals try (((try simp only [decide_eq_true_eq, decide_eq_false_iff_not, beq_iff_eq, bne_iff_ne, ne_eq, beq_eq_false_iff_ne, bne_eq_false_iff_eq] at *) <;> (try omega)); done)
    all_goals first | rfl | trace_state
  · have e : cutR (cutB l c) = .tup [.v (.string ⟨l.toArray⟩), .v (.string ⟨[].toArray⟩), .v (.bool false)] := by unfold cutB cutR; rw [if_neg h]
    rw [e]
    have d1 : decide (0 ≤ idxB l c) = false := decide_eq_false h
    simp only [tk, d1, evS, tyS, Bool.not_true, Bool.not_false, Nat.reduceAdd, Nat.reduceSub, Nat.reduceMul, Nat.reduceLT, Nat.reduceLeDiff, Nat.reduceEqDiff, reduceCtorEq, List.reduceReplicate, Int.reduceToNat, Int.reduceLE, Int.reduceLT]
    (repeat' (first | (with_reducible refine And.intro ?_ ?_) | ((first | refine GuardK.intro_f (fun h => ?_) (fun h => ?_) | refine GuardK.intro_t (fun h => ?_) (fun h => ?_) | refine CondK.intro (fun h => ?_) (fun h => ?_) | refine PickK.intro (fun h => ?_) (fun h => ?_)) <;> simp only [h, tk, d1, evS, tyS, Bool.not_true, Bool.not_false, Nat.reduceAdd, Nat.reduceSub, Nat.reduceMul, Nat.reduceLT, Nat.reduceLeDiff, Nat.reduceEqDiff, reduceCtorEq, List.reduceReplicate, Int.reduceToNat, Int.reduceLE, Int.reduceLT]) | (refine DrawK.intro (by kernel_rfl) (by kernel_rfl) ?_; simp only [tk, d1, evS, tyS, Bool.not_true, Bool.not_false, Nat.reduceAdd, Nat.reduceSub, Nat.reduceMul, Nat.reduceLT, Nat.reduceLeDiff, Nat.reduceEqDiff, reduceCtorEq, List.reduceReplicate, Int.reduceToNat, Int.reduceLE, Int.reduceLT])))
    all_goals try (((try simp only [decide_eq_true_eq, decide_eq_false_iff_not, beq_iff_eq, bne_iff_ne, ne_eq, beq_eq_false_iff_ne, bne_eq_false_iff_eq] at *) <;> (try omega)); done)
    all_goals first | rfl | trace_state
theorem cut_ev (l : List UInt8) (hl : l.length ≤ 140737488351232) (c : UInt8) : Ev Tryz.prog γ 97 [.v (.string ⟨l.toArray⟩), .v (.string ⟨[c].toArray⟩)] (cutR (cutB l c)) := by
  refine Ev.of Tryz.func97 rfl ?_
  simp only [Tryz.f97, evS, tyS, Bool.not_true, Bool.not_false, Nat.reduceAdd, Nat.reduceSub, Nat.reduceMul, Nat.reduceLT, Nat.reduceLeDiff, Nat.reduceEqDiff, reduceCtorEq, List.reduceReplicate, Int.reduceToNat, Int.reduceLE, Int.reduceLT]
  refine CallK.intro b82 rfl (cut82_ev l hl c) ?_
  unfold cutR
  simp only [evS, tyS, Bool.not_true, Bool.not_false, Nat.reduceAdd, Nat.reduceSub, Nat.reduceMul, Nat.reduceLT, Nat.reduceLeDiff, Nat.reduceEqDiff, reduceCtorEq, List.reduceReplicate, Int.reduceToNat, Int.reduceLE, Int.reduceLT]
  (repeat' (first | (with_reducible refine And.intro ?_ ?_) | ((first | refine GuardK.intro_f (fun h => ?_) (fun h => ?_) | refine GuardK.intro_t (fun h => ?_) (fun h => ?_) | refine CondK.intro (fun h => ?_) (fun h => ?_) | refine PickK.intro (fun h => ?_) (fun h => ?_)) <;> simp only [h, evS, tyS, Bool.not_true, Bool.not_false, Nat.reduceAdd, Nat.reduceSub, Nat.reduceMul, Nat.reduceLT, Nat.reduceLeDiff, Nat.reduceEqDiff, reduceCtorEq, List.reduceReplicate, Int.reduceToNat, Int.reduceLE, Int.reduceLT]) | (refine DrawK.intro (by kernel_rfl) (by kernel_rfl) ?_; simp only [evS, tyS, Bool.not_true, Bool.not_false, Nat.reduceAdd, Nat.reduceSub, Nat.reduceMul, Nat.reduceLT, Nat.reduceLeDiff, Nat.reduceEqDiff, reduceCtorEq, List.reduceReplicate, Int.reduceToNat, Int.reduceLE, Int.reduceLT])))
  all_goals first | done | rfl | trace_state
theorem nan_ev : Ev Tryz.prog γ 164 [] (.v (.float .f64 9221120237041090561)) := by
  refine Ev.of Tryz.func164 rfl ?_
  simp only [Tryz.f164, evS, tyS, Bool.not_true, Bool.not_false, Nat.reduceAdd, Nat.reduceSub, Nat.reduceMul, Nat.reduceLT, Nat.reduceLeDiff, Nat.reduceEqDiff, reduceCtorEq, List.reduceReplicate, Int.reduceToNat, Int.reduceLE, Int.reduceLT]
  refine CallK.ext (ext108 9221120237041090561) ?_
  simp only [evS, tyS, Bool.not_true, Bool.not_false, Nat.reduceAdd, Nat.reduceSub, Nat.reduceMul, Nat.reduceLT, Nat.reduceLeDiff, Nat.reduceEqDiff, reduceCtorEq, List.reduceReplicate, Int.reduceToNat, Int.reduceLE, Int.reduceLT]
theorem LdexpZ_ev (x : Int) : Ev Tryz.prog γ 168 [.v (.float .f64 0), .v (.int .i64 x)] (.v (.float .f64 0)) := by
  have o0 : (FloatKind.f64.format.order 0 0 == some .eq) = true := by rfl
  have h1 : Ev Tryz.prog γ 226 [.v (.float .f64 0), .v (.int .i64 x)] (.v (.float .f64 0)) := by
    refine Ev.of Tryz.func226 rfl ?_
    simp only [Tryz.f226, o0, evS, tyS, Bool.not_true, Bool.not_false, Nat.reduceAdd, Nat.reduceSub, Nat.reduceMul, Nat.reduceLT, Nat.reduceLeDiff, Nat.reduceEqDiff, reduceCtorEq, List.reduceReplicate, Int.reduceToNat, Int.reduceLE, Int.reduceLT]
  refine Ev.of Tryz.func168 rfl ?_
  simp only [Tryz.f168, evS, tyS, Bool.not_true, Bool.not_false, Nat.reduceAdd, Nat.reduceSub, Nat.reduceMul, Nat.reduceLT, Nat.reduceLeDiff, Nat.reduceEqDiff, reduceCtorEq, List.reduceReplicate, Int.reduceToNat, Int.reduceLE, Int.reduceLT]
  refine CallK.intro b112 rfl h1 ?_
  simp only [evS, tyS, Bool.not_true, Bool.not_false, Nat.reduceAdd, Nat.reduceSub, Nat.reduceMul, Nat.reduceLT, Nat.reduceLeDiff, Nat.reduceEqDiff, reduceCtorEq, List.reduceReplicate, Int.reduceToNat, Int.reduceLE, Int.reduceLT]
theorem LdexpG_ev (m : Nat) (h : m < 9007199254740992) (x : Int) (hx : -1074 ≤ x) (hx2 : x ≤ 1074) : Ev Tryz.prog γ 168 [.v (.float .f64 (realB m 0)), .v (.int .i64 x)] (.v (.float .f64 (realB m x))) := by
  unfold realB
  by_cases hm : m = 0
  · rw [if_pos hm, if_pos hm]; exact LdexpZ_ev x
  · rw [if_neg hm, if_neg hm]; exact Ldexp_ev m (by omega) h x hx hx2
end Go.Proofs.YtlobiioioicmhaaGreatDoor
/- value.weighed: a real's text, read. -/
namespace Go.Proofs.YtlobiioioicmhaaGreatDoor
set_option linter.all false
open Go Go.Ev
set_option maxRecDepth 20000
variable {γ : List (Nat × AV)}
def nanT : List UInt8 := [110, 97, 110]
def infT : List UInt8 := [105, 110, 102]
/-- A real's text without its sign. -/
def magF (r : List UInt8) : Option Nat :=
  if r = infT then some 9218868437227405312 else
    if (scanW 9007199254740991 (cutB r 112).1).1 ≠ 0 ∨ (scanA (cutB r 112).2.1).1 ≠ 0 ∨ (scanA (cutB r 112).2.1).2 < -1074 ∨ 1023 < (scanA (cutB r 112).2.1).2 then none
    else some (realB (scanW 9007199254740991 (cutB r 112).1).2 (scanA (cutB r 112).2.1).2)
def wgtV (b : Bool) : Option Nat → AV
  | none => .tup [.v (.float .f64 0), .v (.bool false)]
  | some x => .tup [.v (.float .f64 (if b = true then Op.negFloat .f64 x else x)), .v (.bool true)]
def wgtA (l : List UInt8) : AV := if cutP l 45 = nanT then .tup [.v (.float .f64 9221120237041090561), .v (.bool (!preB l 45))] else wgtV (preB l 45) (magF (cutP l 45))
theorem wgtV_t (x : Nat) : wgtV true (some x) = .tup [.v (.float .f64 (Op.negFloat .f64 x)), .v (.bool true)] := rfl
theorem wgtV_f (x : Nat) : wgtV false (some x) = .tup [.v (.float .f64 x), .v (.bool true)] := rfl
theorem wgtV_n (b : Bool) : wgtV b none = .tup [.v (.float .f64 0), .v (.bool false)] := rfl
theorem eErr_pos {k : Nat} (h : k ≠ 0) : eErr k = .ifc 261 .bad := by unfold eErr; rw [if_neg h]
theorem eErr_zero : eErr 0 = .v .nilIface := rfl
theorem cutP_len (l : List UInt8) (c : UInt8) : (cutP l c).length ≤ l.length := by
  unfold cutP; split <;> simp
theorem cutB_len (l : List UInt8) (c : UInt8) : (cutB l c).1.length ≤ l.length ∧ (cutB l c).2.1.length ≤ l.length := by
  unfold cutB; split <;> simp <;> omega
set_option maxHeartbeats 4000000 in
set_option maxRecDepth 20000 in
theorem weighed_ev (hγ : GlN γ) (l : List UInt8) (hl : l.length ≤ 140737488351232) : Ev Tryz.prog γ 99 [.v (.string ⟨l.toArray⟩)] (wgtA l) := by
  refine Ev.of Tryz.func99 rfl ?_
  have k84 := cutPrefix_ev (γ := γ) l hl 45
  have hcl := cutP_len l 45
  unfold wgtA
  simp only [Tryz.f99, evS, tyS, Bool.not_true, Bool.not_false, Nat.reduceAdd, Nat.reduceSub, Nat.reduceMul, Nat.reduceLT, Nat.reduceLeDiff, Nat.reduceEqDiff, reduceCtorEq, List.reduceReplicate, Int.reduceToNat, Int.reduceLE, Int.reduceLT]
  refine CallK.intro b84 rfl k84 ?_
  generalize cutP l 45 = r at hcl ⊢
  generalize preB l 45 = b
  have hr : r.length ≤ 140737488351232 := by omega
  by_cases h1 : r = nanT
  · have e1 : (r == [110, 97, 110]) = true := by rw [h1]; rfl
    rw [if_pos h1]
    simp only [e1, evS, tyS, Bool.not_true, Bool.not_false, Nat.reduceAdd, Nat.reduceSub, Nat.reduceMul, Nat.reduceLT, Nat.reduceLeDiff, Nat.reduceEqDiff, reduceCtorEq, List.reduceReplicate, Int.reduceToNat, Int.reduceLE, Int.reduceLT]
    all_goals try (((try simp only [decide_eq_true_eq, decide_eq_false_iff_not, beq_iff_eq, bne_iff_ne, ne_eq, beq_eq_false_iff_ne, bne_eq_false_iff_eq] at *) <;> (try omega)); done)
    refine CallK.intro b85 rfl nan_ev ?_
    simp only [evS, tyS, Bool.not_true, Bool.not_false, Nat.reduceAdd, Nat.reduceSub, Nat.reduceMul, Nat.reduceLT, Nat.reduceLeDiff, Nat.reduceEqDiff, reduceCtorEq, List.reduceReplicate, Int.reduceToNat, Int.reduceLE, Int.reduceLT]
    all_goals first | done | rfl | trace_state
  · have e1 : (r == [110, 97, 110]) = false := by
      cases hb : (r == [110, 97, 110]) with
      | false => rfl
      | true => exact absurd (eq_of_beq hb) h1
    rw [if_neg h1]
    by_cases h2 : r = infT
    · have e2 : (r == [105, 110, 102]) = true := by rw [h2]; rfl
      have em : magF r = some 9218868437227405312 := by unfold magF; rw [if_pos h2]
      rw [em]
      cases b with
      | true =>
        rw [wgtV_t]
        simp only [e1, e2, evS, tyS, Bool.not_true, Bool.not_false, Nat.reduceAdd, Nat.reduceSub, Nat.reduceMul, Nat.reduceLT, Nat.reduceLeDiff, Nat.reduceEqDiff, reduceCtorEq, List.reduceReplicate, Int.reduceToNat, Int.reduceLE, Int.reduceLT]
        all_goals try (((try simp only [decide_eq_true_eq, decide_eq_false_iff_not, beq_iff_eq, bne_iff_ne, ne_eq, beq_eq_false_iff_ne, bne_eq_false_iff_eq] at *) <;> (try omega)); done)
        refine CallK.intro b86 rfl inf_ev ?_
        simp only [e1, e2, evS, tyS, Bool.not_true, Bool.not_false, Nat.reduceAdd, Nat.reduceSub, Nat.reduceMul, Nat.reduceLT, Nat.reduceLeDiff, Nat.reduceEqDiff, reduceCtorEq, List.reduceReplicate, Int.reduceToNat, Int.reduceLE, Int.reduceLT]
        all_goals first | done | rfl | trace_state
      | false =>
        rw [wgtV_f]
        simp only [e1, e2, evS, tyS, Bool.not_true, Bool.not_false, Nat.reduceAdd, Nat.reduceSub, Nat.reduceMul, Nat.reduceLT, Nat.reduceLeDiff, Nat.reduceEqDiff, reduceCtorEq, List.reduceReplicate, Int.reduceToNat, Int.reduceLE, Int.reduceLT]
        all_goals try (((try simp only [decide_eq_true_eq, decide_eq_false_iff_not, beq_iff_eq, bne_iff_ne, ne_eq, beq_eq_false_iff_ne, bne_eq_false_iff_eq] at *) <;> (try omega)); done)
        refine CallK.intro b86 rfl inf_ev ?_
        simp only [e1, e2, evS, tyS, Bool.not_true, Bool.not_false, Nat.reduceAdd, Nat.reduceSub, Nat.reduceMul, Nat.reduceLT, Nat.reduceLeDiff, Nat.reduceEqDiff, reduceCtorEq, List.reduceReplicate, Int.reduceToNat, Int.reduceLE, Int.reduceLT]
        all_goals first | done | rfl | trace_state
    · have e2 : (r == [105, 110, 102]) = false := by
        cases hb : (r == [105, 110, 102]) with
        | false => rfl
        | true => exact absurd (eq_of_beq hb) h2
      have k56 := cut_ev (γ := γ) r hr 112
      have hcb := cutB_len r 112
      have em : magF r = if (scanW 9007199254740991 (cutB r 112).1).1 ≠ 0 ∨ (scanA (cutB r 112).2.1).1 ≠ 0 ∨ (scanA (cutB r 112).2.1).2 < -1074 ∨ 1023 < (scanA (cutB r 112).2.1).2 then none
        else some (realB (scanW 9007199254740991 (cutB r 112).1).2 (scanA (cutB r 112).2.1).2) := by unfold magF; rw [if_neg h2]
      rw [em]
      simp only [e1, e2, evS, tyS, Bool.not_true, Bool.not_false, Nat.reduceAdd, Nat.reduceSub, Nat.reduceMul, Nat.reduceLT, Nat.reduceLeDiff, Nat.reduceEqDiff, reduceCtorEq, List.reduceReplicate, Int.reduceToNat, Int.reduceLE, Int.reduceLT]
      all_goals try (((try simp only [decide_eq_true_eq, decide_eq_false_iff_not, beq_iff_eq, bne_iff_ne, ne_eq, beq_eq_false_iff_ne, bne_eq_false_iff_eq] at *) <;> (try omega)); done)
      refine CallK.intro b56 rfl k56 ?_
      generalize cutB r 112 = cc at hcb ⊢
      obtain ⟨ca, cb, ct⟩ := cc
      simp only at hcb
      have k87 := parseUint87_ev hγ ca (by omega)
      have k88 := atoi88_ev hγ cb (by omega)
      have hm := scanW_le 9007199254740991 ca
      have ha := scanA_le cb
      simp only [cutR]
      simp only [evS, tyS, Bool.not_true, Bool.not_false, Nat.reduceAdd, Nat.reduceSub, Nat.reduceMul, Nat.reduceLT, Nat.reduceLeDiff, Nat.reduceEqDiff, reduceCtorEq, List.reduceReplicate, Int.reduceToNat, Int.reduceLE, Int.reduceLT]
      refine CallK.intro b87 rfl k87 ?_
      simp only [evS, tyS, Bool.not_true, Bool.not_false, Nat.reduceAdd, Nat.reduceSub, Nat.reduceMul, Nat.reduceLT, Nat.reduceLeDiff, Nat.reduceEqDiff, reduceCtorEq, List.reduceReplicate, Int.reduceToNat, Int.reduceLE, Int.reduceLT]
      refine CallK.intro b88 rfl k88 ?_
      generalize scanW 9007199254740991 ca = mm at hm ⊢
      generalize scanA cb = aa at ha ⊢
      obtain ⟨mk, mv⟩ := mm
      obtain ⟨ak, av⟩ := aa
      simp only at hm ha ⊢
      by_cases hbad : mk ≠ 0 ∨ ak ≠ 0 ∨ av < -1074 ∨ 1023 < av
      · rw [if_pos hbad, wgtV_n]
        by_cases hk : mk = 0
        · subst hk
          rw [eErr_zero]
          by_cases hk2 : ak = 0
          · subst hk2
            rw [eErr_zero]
            by_cases hv : av < -1074
            · have d1 : decide (av < -1074) = true := decide_eq_true hv
              simp only [tyP, tyQ, d1, evS, tyS, Bool.not_true, Bool.not_false, Nat.reduceAdd, Nat.reduceSub, Nat.reduceMul, Nat.reduceLT, Nat.reduceLeDiff, Nat.reduceEqDiff, reduceCtorEq, List.reduceReplicate, Int.reduceToNat, Int.reduceLE, Int.reduceLT]
              all_goals first | done | rfl | trace_state
            · have d1 : decide (av < -1074) = false := decide_eq_false hv
              have d2 : decide (1023 < av) = true := decide_eq_true (by omega)
              simp only [tyP, tyQ, d1, d2, evS, tyS, Bool.not_true, Bool.not_false, Nat.reduceAdd, Nat.reduceSub, Nat.reduceMul, Nat.reduceLT, Nat.reduceLeDiff, Nat.reduceEqDiff, reduceCtorEq, List.reduceReplicate, Int.reduceToNat, Int.reduceLE, Int.reduceLT]
              all_goals first | done | rfl | trace_state
          · rw [eErr_pos hk2]
            simp only [tyP, tyQ, evS, tyS, Bool.not_true, Bool.not_false, Nat.reduceAdd, Nat.reduceSub, Nat.reduceMul, Nat.reduceLT, Nat.reduceLeDiff, Nat.reduceEqDiff, reduceCtorEq, List.reduceReplicate, Int.reduceToNat, Int.reduceLE, Int.reduceLT]
            all_goals first | done | rfl | trace_state
        · rw [eErr_pos hk]
          simp only [tyP, tyQ, evS, tyS, Bool.not_true, Bool.not_false, Nat.reduceAdd, Nat.reduceSub, Nat.reduceMul, Nat.reduceLT, Nat.reduceLeDiff, Nat.reduceEqDiff, reduceCtorEq, List.reduceReplicate, Int.reduceToNat, Int.reduceLE, Int.reduceLT]
          all_goals first | done | rfl | trace_state
      · rw [if_neg hbad]
        have hmk : mk = 0 := by omega
        have hak : ak = 0 := by omega
        subst hmk
        subst hak
        rw [eErr_zero]
        have d1 : decide (av < -1074) = false := decide_eq_false (by omega)
        have d2 : decide (1023 < av) = false := decide_eq_false (by omega)
        have hm53 : mv < 9007199254740992 := by omega
        have k89 := LdexpG_ev (γ := γ) mv hm53 av (by omega) (by omega)
        have hn := near_eq mv hm53
        simp only [tyP, tyQ, d1, d2, hn, evS, tyS, Bool.not_true, Bool.not_false, Nat.reduceAdd, Nat.reduceSub, Nat.reduceMul, Nat.reduceLT, Nat.reduceLeDiff, Nat.reduceEqDiff, reduceCtorEq, List.reduceReplicate, Int.reduceToNat, Int.reduceLE, Int.reduceLT]
        refine CallK.intro b89 rfl k89 ?_
        cases b with
        | true =>
          rw [wgtV_t]
          simp only [evS, tyS, Bool.not_true, Bool.not_false, Nat.reduceAdd, Nat.reduceSub, Nat.reduceMul, Nat.reduceLT, Nat.reduceLeDiff, Nat.reduceEqDiff, reduceCtorEq, List.reduceReplicate, Int.reduceToNat, Int.reduceLE, Int.reduceLT]
          all_goals first | done | rfl | trace_state
        | false =>
          rw [wgtV_f]
          simp only [evS, tyS, Bool.not_true, Bool.not_false, Nat.reduceAdd, Nat.reduceSub, Nat.reduceMul, Nat.reduceLT, Nat.reduceLeDiff, Nat.reduceEqDiff, reduceCtorEq, List.reduceReplicate, Int.reduceToNat, Int.reduceLE, Int.reduceLT]
          all_goals first | done | rfl | trace_state
end Go.Proofs.YtlobiioioicmhaaGreatDoor
/- value.measured: a real's text. -/
namespace Go.Proofs.YtlobiioioicmhaaGreatDoor
set_option linter.all false
open Go Go.Ev
set_option maxRecDepth 20000
variable {γ : List (Nat × AV)}
/-- How often a number can be halved. -/
def oddT : Nat → Nat → Nat
  | 0, _ => 0
  | f + 1, m => if m % 2 = 0 then oddT f (m / 2) + 1 else 0
theorem oddT_spec : ∀ (f m : Nat), 0 < m → m < 2 ^ f → (m / 2 ^ oddT f m) % 2 = 1 ∧ (∀ t, t < oddT f m → (m / 2 ^ t) % 2 = 0) ∧ oddT f m ≤ f
  | 0, m, h0, h => by simp at h; omega
  | f + 1, m, h0, h => by
    unfold oddT
    by_cases h2 : m % 2 = 0
    · rw [if_pos h2]
      have hp : 2 ^ (f + 1) = 2 ^ f * 2 := Nat.pow_succ ..
      obtain ⟨a, b, c⟩ := oddT_spec f (m / 2) (by omega) (by omega)
      refine ⟨?_, fun t ht => ?_, by omega⟩
      · rw [Nat.pow_succ, Nat.mul_comm, ← Nat.div_div_eq_div_mul]; exact a
      · cases t with
        | zero => simpa using h2
        | succ t => rw [Nat.pow_succ, Nat.mul_comm, ← Nat.div_div_eq_div_mul]; exact b t (by omega)
    · rw [if_neg h2]
      exact ⟨by simp; omega, fun t ht => by omega, Nat.zero_le _⟩
theorem and_mask (a : Nat) (ha : a < 18446744073709551616) (k : Nat) (hk : k ≤ 64) : (BitVec.ofInt 64 (a : Int) &&& BitVec.ofInt 64 ((2 ^ k - 1 : Nat) : Int)).toNat = a % 2 ^ k := by
  have hp : 2 ^ k ≤ 2 ^ 64 := Nat.pow_le_pow_right (by decide) hk
  have h64 : (2 : Nat) ^ 64 = 18446744073709551616 := by decide
  have hpos : 0 < 2 ^ k := Nat.two_pow_pos k
  rw [BitVec.toNat_and, BitVec.ofInt_natCast, BitVec.ofInt_natCast, BitVec.toNat_ofNat, BitVec.toNat_ofNat, Nat.mod_eq_of_lt (by omega), Nat.mod_eq_of_lt (by omega), Nat.and_two_pow_sub_one_eq_mod]
theorem or_first (a : Nat) (ha : a < 4503599627370496) : (BitVec.ofInt 64 (a : Int) ||| BitVec.ofInt 64 4503599627370496).toNat = a + 4503599627370496 := by
  have h64 : (2 : Nat) ^ 64 = 18446744073709551616 := by decide
  have e : (4503599627370496 : Int) = ((4503599627370496 : Nat) : Int) := rfl
  rw [e, BitVec.toNat_or, BitVec.ofInt_natCast, BitVec.ofInt_natCast, BitVec.toNat_ofNat, BitVec.toNat_ofNat, Nat.mod_eq_of_lt (by omega), Nat.mod_eq_of_lt (by omega), Nat.or_comm]
  have := Nat.two_pow_add_eq_or_of_lt (i := 52) (b := a) (by simpa using ha) 1
  rw [Nat.mul_one] at this
  have e2 : (2 : Nat) ^ 52 = 4503599627370496 := by decide
  rw [e2] at this
  omega
def mB (x : Nat) : Nat := x % 4503599627370496
def eB (x : Nat) : Nat := (x / 4503599627370496) % 2048
def sgnS (x : Nat) : List UInt8 := if x / 9223372036854775808 = 1 then [45] else []
def nanB (x : Nat) : Bool := FloatKind.f64.format.order x x != some .eq
def mM (x : Nat) : Nat := if 0 < eB x then mB x + 4503599627370496 else mB x
def mE (x : Nat) : Int := if 0 < eB x then (eB x : Int) - 1075 else -1074
def mT (x : Nat) : Nat := oddT 64 (mM x)
def measF (x : Nat) : List UInt8 :=
  if nanB x = true then nanT else if eB x = 2047 then sgnS x ++ infT else if mB x = 0 ∧ eB x = 0 then sgnS x ++ [48, 112, 48]
  else ((sgnS x ++ Lib.decDigits (mM x / 2 ^ mT x)) ++ [112]) ++ Lib.itoa (mE x + mT x)
theorem sgnS_le (x : Nat) : (sgnS x).length ≤ 1 := by unfold sgnS; split <;> simp
theorem measF_le (x : Nat) : (measF x).length ≤ 50 := by
  have h1 := sgnS_le x
  have hm : mM x < 18446744073709551616 := by unfold mM mB; split <;> omega
  have h2 : (Lib.decDigits (mM x / 2 ^ mT x)).length ≤ 20 := by
    rw [Lib.decDigits_length]; exact Lib.nDigits_le20 _ (Nat.lt_of_le_of_lt (Nat.div_le_self _ _) hm)
  have hT : mT x ≤ 64 := by
    unfold mT
    generalize mM x = m
    have : ∀ f m, oddT f m ≤ f := by
      intro f
      induction f with
      | zero => intro m; exact Nat.le_refl _
      | succ f ih => intro m; unfold oddT; split; have := ih (m / 2); omega; omega
    exact this 64 m
  have hE : -1074 ≤ mE x ∧ mE x ≤ 2047 := by unfold mE eB; split <;> omega
  have h3 := Lib.itoa_length_le (mE x + mT x) (by omega) (by omega)
  unfold measF nanT infT
  split
  · decide
  · split
    · simp; omega
    · split
      · simp; omega
      · simp only [List.length_append, List.length_cons, List.length_nil]; omega
theorem b37 : bodyT Tryz.prog 102 := ⟨_, Tryz.func102, by kernel_rfl, by kernel_rfl⟩
set_option maxHeartbeats 4000000 in
set_option maxRecDepth 20000 in
theorem measured_ev (hγ : GlN γ) (x : Nat) (hx : x < 18446744073709551616) : Ev Tryz.prog γ 102 [.v (.float .f64 x)] (.v (.string ⟨(measF x).toArray⟩)) := by
  refine Ev.of Tryz.func102 rfl ?_
  have s52 : IntKind.u64.bits = 64 := rfl
  have a1 : (BitVec.ofInt IntKind.u64.bits (x : Int) &&& BitVec.ofInt IntKind.u64.bits 4503599627370495).toNat = mB x := and_mask x hx 52 (by decide)
  have q1 : Int.fdiv (x : Int) (2 ^ min (Int.toNat 52) 64) = ((x / 4503599627370496 : Nat) : Int) := by
    rw [Int.fdiv_eq_ediv_of_nonneg _ (by decide)]; rfl
  have q1' : Int.fdiv (x : Int) (2 ^ min 52 64) = ((x / 4503599627370496 : Nat) : Int) := q1
  have q2 : Int.fdiv (x : Int) (2 ^ min (Int.toNat 63) 64) = ((x / 9223372036854775808 : Nat) : Int) := by
    rw [Int.fdiv_eq_ediv_of_nonneg _ (by decide)]; rfl
  have q2' : Int.fdiv (x : Int) (2 ^ min 63 64) = ((x / 9223372036854775808 : Nat) : Int) := q2
  have a2 : (BitVec.ofInt IntKind.u64.bits ((x / 4503599627370496 : Nat) : Int) &&& BitVec.ofInt IntKind.u64.bits 2047).toNat = eB x := and_mask (x / 4503599627370496) (by omega) 11 (by decide)
  have hmB : mB x < 4503599627370496 := Nat.mod_lt _ (by decide)
  have heB : eB x < 2048 := Nat.mod_lt _ (by decide)
  have w1 : IntKind.u64.wrap ((mB x : Nat) : Int) = ((mB x : Nat) : Int) := by rw [u64w] <;> omega
  have w2 : IntKind.u64.wrap ((eB x : Nat) : Int) = ((eB x : Nat) : Int) := by rw [u64w] <;> omega
  have w3 : IntKind.i64.wrap ((eB x : Nat) : Int) = ((eB x : Nat) : Int) := by rw [i64w] <;> omega
  have hn : (FloatKind.f64.format.order x x != some .eq) = nanB x := rfl
  by_cases hsg : x / 9223372036854775808 = 1
  · have zz : (((x / 9223372036854775808 : Nat) : Int) == 1) = true := by rw [hsg]; rfl
    have es : sgnS x = [45] := by unfold sgnS; rw [if_pos hsg]
    simp only [Tryz.f102, evS, tyS, Bool.not_true, Bool.not_false, Nat.reduceAdd, Nat.reduceSub, Nat.reduceMul, Nat.reduceLT, Nat.reduceLeDiff, Nat.reduceEqDiff, reduceCtorEq, List.reduceReplicate, Int.reduceToNat, Int.reduceLE, Int.reduceLT]
    refine CallK.ext (ext33 x) ?_
    by_cases h1 : nanB x = true
    · have e : measF x = nanT := by unfold measF; rw [if_pos h1]
      rw [e, nanT]
      simp only [s52, a1, q1, q1', q2, q2', a2, w1, w2, w3, hn, zz, h1, evS, tyS, Bool.not_true, Bool.not_false, Nat.reduceAdd, Nat.reduceSub, Nat.reduceMul, Nat.reduceLT, Nat.reduceLeDiff, Nat.reduceEqDiff, reduceCtorEq, List.reduceReplicate, Int.reduceToNat, Int.reduceLE, Int.reduceLT]
      all_goals first | done | rfl | trace_state
    · have h1' : nanB x = false := by simpa using h1
      by_cases h2 : eB x = 2047
      · have e : measF x = [45] ++ infT := by unfold measF; rw [if_neg h1, if_pos h2, es]
        rw [e, infT]
        have e1 : (((eB x : Nat) : Int) == 2047) = true := by rw [h2]; rfl
        simp only [s52, a1, q1, q1', q2, q2', a2, w1, w2, w3, hn, zz, h1', e1, evS, tyS, Bool.not_true, Bool.not_false, Nat.reduceAdd, Nat.reduceSub, Nat.reduceMul, Nat.reduceLT, Nat.reduceLeDiff, Nat.reduceEqDiff, reduceCtorEq, List.reduceReplicate, Int.reduceToNat, Int.reduceLE, Int.reduceLT]
        all_goals first | done | rfl | trace_state
      · have e1 : (((eB x : Nat) : Int) == 2047) = false := by simp; omega
        by_cases h3 : mB x = 0 ∧ eB x = 0
        · have e : measF x = [45] ++ [48, 112, 48] := by unfold measF; rw [if_neg h1, if_neg h2, if_pos h3, es]
          rw [e]
          have e2 : (((mB x : Nat) : Int) == 0) = true := by rw [h3.1]; rfl
          have e3 : (((eB x : Nat) : Int) == 0) = true := by rw [h3.2]; rfl
          simp only [s52, a1, q1, q1', q2, q2', a2, w1, w2, w3, hn, zz, h1', e1, e2, e3, evS, tyS, Bool.not_true, Bool.not_false, Nat.reduceAdd, Nat.reduceSub, Nat.reduceMul, Nat.reduceLT, Nat.reduceLeDiff, Nat.reduceEqDiff, reduceCtorEq, List.reduceReplicate, Int.reduceToNat, Int.reduceLE, Int.reduceLT]
          all_goals first | done | rfl | trace_state
        · have e : measF x = (([45] ++ Lib.decDigits (mM x / 2 ^ mT x)) ++ [112]) ++ Lib.itoa (mE x + mT x) := by unfold measF; rw [if_neg h1, if_neg h2, if_neg h3, es]
          rw [e]
          have hM0 : 0 < mM x := by unfold mM; split <;> omega
          have hM : mM x < 9007199254740992 := by unfold mM; split <;> omega
          obtain ⟨t1, t2, t3⟩ := oddT_spec 64 (mM x) hM0 (by omega)
          have hTd : oddT 64 (mM x) = mT x := rfl
          rw [hTd] at t1 t2 t3
          have hE : -1074 ≤ mE x ∧ mE x ≤ 972 := by unfold mE; split <;> omega
          have hlen := Lib.itoa_length_le (mE x + mT x) (by omega) (by omega)
          have hdl : (Lib.decDigits (mM x / 2 ^ mT x)).length ≤ 20 := by
            rw [Lib.decDigits_length]; exact Lib.nDigits_le20 _ (Nat.lt_of_le_of_lt (Nat.div_le_self _ _) (by omega))
          have hMT : mM x / 2 ^ mT x ≤ mM x := Nat.div_le_self _ _
          have k61 := formatUint61_ev hγ (mM x / 2 ^ mT x) (by omega)
          have k62 := itoa_ev hγ (mE x + mT x) (by omega) (by omega)
          have loop : ∀ (Q : Post) (s : St) (c : Code), Tryz.f102.body.bind (pieceC [1, 1, 1, 1, 1, 1, 1, 0, 2, 3]) = some c → s.weak ⟨⟨60, [(5, .v (.int .i64 (mE x))), (4, .v (.int .u64 (mM x))), (6, .v (.string ⟨[45].toArray⟩))], γ⟩, []⟩ →
              (Q (.exit 1) ⟨⟨60, [(47, .v (.bool false)), (46, .v (.int .u64 1)), (45, .v (.int .u64 (mM x / 2 ^ mT x : Nat))), (5, .v (.int .i64 (mE x + mT x))), (4, .v (.int .u64 (mM x / 2 ^ mT x : Nat))), (6, .v (.string ⟨[45].toArray⟩))], γ⟩, []⟩) → LoopK (kwp Tryz.prog c) Q s := by
            intro Q s c hc hw hex
            obtain rfl := Option.some.inj (hc.symm.trans rfl)
            clear hc
            refine LoopK.intro (fun t : Nat => ⟨⟨60, [(5, .v (.int .i64 (mE x + t))), (4, .v (.int .u64 (mM x / 2 ^ t : Nat))), (6, .v (.string ⟨[45].toArray⟩))], γ⟩, []⟩) (fun t => t ≤ mT x) (fun t => mT x - t) 0 ?_ (Nat.zero_le _) ?_
            · simpa using hw
            · intro t ht
              have hMt : mM x / 2 ^ t ≤ mM x := Nat.div_le_self _ _
              have b1 : (BitVec.ofInt IntKind.u64.bits ((mM x / 2 ^ t : Nat) : Int) &&& BitVec.ofInt IntKind.u64.bits 1).toNat = (mM x / 2 ^ t) % 2 := and_mask _ (by omega) 1 (by decide)
              by_cases htT : t = mT x
              · subst htT
                have b2 : IntKind.u64.wrap ((1 : Nat) : Int) = 1 := by decide
                have b3 : ((1 : Int) == 0) = false := by decide
                rw [t1] at b1
                simp only [s52, b1, b2, b3, evS, tyS, Bool.not_true, Bool.not_false, Nat.reduceAdd, Nat.reduceSub, Nat.reduceMul, Nat.reduceLT, Nat.reduceLeDiff, Nat.reduceEqDiff, reduceCtorEq, List.reduceReplicate, Int.reduceToNat, Int.reduceLE, Int.reduceLT]
                all_goals first | exact hex | trace_state
              · have hlt : t < mT x := by omega
                have b2 : IntKind.u64.wrap ((0 : Nat) : Int) = 0 := by decide
                have b3 : ((0 : Int) == 0) = true := by decide
                rw [t2 t hlt] at b1
                have b4 : Int.fdiv ((mM x / 2 ^ t : Nat) : Int) (2 ^ min (Int.toNat 1) 64) = ((mM x / 2 ^ (t + 1) : Nat) : Int) := by
                  rw [Int.fdiv_eq_ediv_of_nonneg _ (by decide), Nat.pow_succ, ← Nat.div_div_eq_div_mul]; rfl
                have b4' : Int.fdiv ((mM x / 2 ^ t : Nat) : Int) (2 ^ min 1 64) = ((mM x / 2 ^ (t + 1) : Nat) : Int) := b4
                have b5 : IntKind.i64.wrap (mE x + (t : Int) + 1) = mE x + ((t + 1 : Nat) : Int) := (i64w (by omega) (by omega)).trans (by omega)
                simp only [s52, b1, b2, b3, b4, b4', b5, evS, tyS, Bool.not_true, Bool.not_false, Nat.reduceAdd, Nat.reduceSub, Nat.reduceMul, Nat.reduceLT, Nat.reduceLeDiff, Nat.reduceEqDiff, reduceCtorEq, List.reduceReplicate, Int.reduceToNat, Int.reduceLE, Int.reduceLT]
                refine loopC.intro (t + 1) (by omega) ?_ (by omega)
                simp only [b4, b4', b5, evS, tyS, Bool.not_true, Bool.not_false, Nat.reduceAdd, Nat.reduceSub, Nat.reduceMul, Nat.reduceLT, Nat.reduceLeDiff, Nat.reduceEqDiff, reduceCtorEq, List.reduceReplicate, Int.reduceToNat, Int.reduceLE, Int.reduceLT]
                all_goals first | done | rfl | trace_state
          have tail : ∀ (s : St) (g1 : Prop), True := fun _ _ => trivial
          by_cases h4 : 0 < eB x
          · have d1 : decide (0 < eB x) = true := decide_eq_true h4
            have d2 : decide ((0 : Int) < ((eB x : Nat) : Int)) = true := decide_eq_true (by omega)
            have m1 : IntKind.u64.wrap (((BitVec.ofInt IntKind.u64.bits ((mB x : Nat) : Int) ||| BitVec.ofInt IntKind.u64.bits 4503599627370496).toNat : Nat) : Int) = ((mM x : Nat) : Int) := by
              exact (congrArg (fun n : Nat => IntKind.u64.wrap (n : Int)) (or_first _ hmB)).trans (by show IntKind.u64.wrap ((mB x + 4503599627370496 : Nat) : Int) = _; unfold mM; rw [if_pos h4]; rw [u64w] <;> omega)
            have m2 : IntKind.i64.wrap (((eB x : Nat) : Int) - 1) = ((eB x : Nat) : Int) - 1 := i64w (by omega) (by omega)
            have m3 : IntKind.i64.wrap (((eB x : Nat) : Int) - 1 + -1074) = mE x := by unfold mE; rw [if_pos h4]; exact (i64w (by omega) (by omega)).trans (by omega)
            simp only [s52, a1, q1, q1', q2, q2', a2, w1, w2, w3, hn, zz, h1', e1, d1, d2, m1, m2, m3, evS, tyS, Bool.not_true, Bool.not_false, Nat.reduceAdd, Nat.reduceSub, Nat.reduceMul, Nat.reduceLT, Nat.reduceLeDiff, Nat.reduceEqDiff, reduceCtorEq, List.reduceReplicate, Int.reduceToNat, Int.reduceLE, Int.reduceLT]
            (repeat' (first | (with_reducible refine And.intro ?_ ?_) | ((first | refine GuardK.intro_f (fun h => ?_) (fun h => ?_) | refine GuardK.intro_t (fun h => ?_) (fun h => ?_) | refine CondK.intro (fun h => ?_) (fun h => ?_) | refine PickK.intro (fun h => ?_) (fun h => ?_)) <;> simp only [h, s52, a1, q1, q1', q2, q2', a2, w1, w2, w3, hn, zz, h1', e1, d1, d2, m1, m2, m3, evS, tyS, Bool.not_true, Bool.not_false, Nat.reduceAdd, Nat.reduceSub, Nat.reduceMul, Nat.reduceLT, Nat.reduceLeDiff, Nat.reduceEqDiff, reduceCtorEq, List.reduceReplicate, Int.reduceToNat, Int.reduceLE, Int.reduceLT]) | (refine DrawK.intro (by kernel_rfl) (by kernel_rfl) ?_; simp only [s52, a1, q1, q1', q2, q2', a2, w1, w2, w3, hn, zz, h1', e1, d1, d2, m1, m2, m3, evS, tyS, Bool.not_true, Bool.not_false, Nat.reduceAdd, Nat.reduceSub, Nat.reduceMul, Nat.reduceLT, Nat.reduceLeDiff, Nat.reduceEqDiff, reduceCtorEq, List.reduceReplicate, Int.reduceToNat, Int.reduceLE, Int.reduceLT])))
            all_goals try (((try simp only [decide_eq_true_eq, decide_eq_false_iff_not, beq_iff_eq, bne_iff_ne, ne_eq, beq_eq_false_iff_ne, bne_eq_false_iff_eq] at *) <;> (try omega)); done)
            all_goals refine loop _ _ _ (by kernel_rfl) ?_ ?_
            all_goals first
              | exact ⟨rfl, rfl, ⟨rfl, rfl, rfl, trivial⟩, .inl rfl⟩
              | skip
            all_goals
              simp only [evS, tyS, Bool.not_true, Bool.not_false, Nat.reduceAdd, Nat.reduceSub, Nat.reduceMul, Nat.reduceLT, Nat.reduceLeDiff, Nat.reduceEqDiff, reduceCtorEq, List.reduceReplicate, Int.reduceToNat, Int.reduceLE, Int.reduceLT]
            all_goals (refine CallK.intro b61 rfl k61 ?_; simp only [evS, tyS, Bool.not_true, Bool.not_false, Nat.reduceAdd, Nat.reduceSub, Nat.reduceMul, Nat.reduceLT, Nat.reduceLeDiff, Nat.reduceEqDiff, reduceCtorEq, List.reduceReplicate, Int.reduceToNat, Int.reduceLE, Int.reduceLT]; (repeat' (first | (with_reducible refine And.intro ?_ ?_) | ((first | refine GuardK.intro_f (fun h => ?_) (fun h => ?_) | refine GuardK.intro_t (fun h => ?_) (fun h => ?_) | refine CondK.intro (fun h => ?_) (fun h => ?_) | refine PickK.intro (fun h => ?_) (fun h => ?_)) <;> simp only [h, evS, tyS, Bool.not_true, Bool.not_false, Nat.reduceAdd, Nat.reduceSub, Nat.reduceMul, Nat.reduceLT, Nat.reduceLeDiff, Nat.reduceEqDiff, reduceCtorEq, List.reduceReplicate, Int.reduceToNat, Int.reduceLE, Int.reduceLT]) | (refine DrawK.intro (by kernel_rfl) (by kernel_rfl) ?_; simp only [evS, tyS, Bool.not_true, Bool.not_false, Nat.reduceAdd, Nat.reduceSub, Nat.reduceMul, Nat.reduceLT, Nat.reduceLeDiff, Nat.reduceEqDiff, reduceCtorEq, List.reduceReplicate, Int.reduceToNat, Int.reduceLE, Int.reduceLT]))))
            all_goals try first | (omega; done) | (simp only [List.length_append, List.length_cons, List.length_nil] at *; omega)
            all_goals (refine CallK.intro b62 rfl k62 ?_; simp only [evS, tyS, Bool.not_true, Bool.not_false, Nat.reduceAdd, Nat.reduceSub, Nat.reduceMul, Nat.reduceLT, Nat.reduceLeDiff, Nat.reduceEqDiff, reduceCtorEq, List.reduceReplicate, Int.reduceToNat, Int.reduceLE, Int.reduceLT]; (repeat' (first | (with_reducible refine And.intro ?_ ?_) | ((first | refine GuardK.intro_f (fun h => ?_) (fun h => ?_) | refine GuardK.intro_t (fun h => ?_) (fun h => ?_) | refine CondK.intro (fun h => ?_) (fun h => ?_) | refine PickK.intro (fun h => ?_) (fun h => ?_)) <;> simp only [h, evS, tyS, Bool.not_true, Bool.not_false, Nat.reduceAdd, Nat.reduceSub, Nat.reduceMul, Nat.reduceLT, Nat.reduceLeDiff, Nat.reduceEqDiff, reduceCtorEq, List.reduceReplicate, Int.reduceToNat, Int.reduceLE, Int.reduceLT]) | (refine DrawK.intro (by kernel_rfl) (by kernel_rfl) ?_; simp only [evS, tyS, Bool.not_true, Bool.not_false, Nat.reduceAdd, Nat.reduceSub, Nat.reduceMul, Nat.reduceLT, Nat.reduceLeDiff, Nat.reduceEqDiff, reduceCtorEq, List.reduceReplicate, Int.reduceToNat, Int.reduceLE, Int.reduceLT]))))
            all_goals try first | (omega; done) | (simp only [List.length_append, List.length_cons, List.length_nil] at *; omega)
            all_goals first | done | rfl | (simp only [List.append_assoc, List.cons_append, List.nil_append]; done) | (simp [List.append_assoc]; done) | trace_state
          · have d1 : decide (0 < eB x) = false := decide_eq_false h4
            have d2 : decide ((0 : Int) < ((eB x : Nat) : Int)) = false := decide_eq_false (by omega)
            have hmm : mB x = mM x := by unfold mM; rw [if_neg h4]
            have m3 : IntKind.i64.wrap (((eB x : Nat) : Int) + -1074) = mE x := by unfold mE; rw [if_neg h4]; exact (i64w (by omega) (by omega)).trans (by omega)
            simp only [s52, a1, q1, q1', q2, q2', a2, w1, w2, w3, hn, zz, h1', e1, d1, d2, m3, evS, tyS, Bool.not_true, Bool.not_false, Nat.reduceAdd, Nat.reduceSub, Nat.reduceMul, Nat.reduceLT, Nat.reduceLeDiff, Nat.reduceEqDiff, reduceCtorEq, List.reduceReplicate, Int.reduceToNat, Int.reduceLE, Int.reduceLT]
            (repeat' (first | (with_reducible refine And.intro ?_ ?_) | ((first | refine GuardK.intro_f (fun h => ?_) (fun h => ?_) | refine GuardK.intro_t (fun h => ?_) (fun h => ?_) | refine CondK.intro (fun h => ?_) (fun h => ?_) | refine PickK.intro (fun h => ?_) (fun h => ?_)) <;> simp only [h, s52, a1, q1, q1', q2, q2', a2, w1, w2, w3, hn, zz, h1', e1, d1, d2, m3, evS, tyS, Bool.not_true, Bool.not_false, Nat.reduceAdd, Nat.reduceSub, Nat.reduceMul, Nat.reduceLT, Nat.reduceLeDiff, Nat.reduceEqDiff, reduceCtorEq, List.reduceReplicate, Int.reduceToNat, Int.reduceLE, Int.reduceLT]) | (refine DrawK.intro (by kernel_rfl) (by kernel_rfl) ?_; simp only [s52, a1, q1, q1', q2, q2', a2, w1, w2, w3, hn, zz, h1', e1, d1, d2, m3, evS, tyS, Bool.not_true, Bool.not_false, Nat.reduceAdd, Nat.reduceSub, Nat.reduceMul, Nat.reduceLT, Nat.reduceLeDiff, Nat.reduceEqDiff, reduceCtorEq, List.reduceReplicate, Int.reduceToNat, Int.reduceLE, Int.reduceLT])))
            all_goals try (((try simp only [decide_eq_true_eq, decide_eq_false_iff_not, beq_iff_eq, bne_iff_ne, ne_eq, beq_eq_false_iff_ne, bne_eq_false_iff_eq] at *) <;> (try omega)); done)
            all_goals refine loop _ _ _ (by kernel_rfl) ?_ ?_
            all_goals first
              | exact ⟨rfl, rfl, ⟨rfl, congrArg (fun n : Nat => AV.v (.int .u64 (n : Int))) hmm, rfl, trivial⟩, .inl rfl⟩
              | skip
            all_goals
              simp only [evS, tyS, Bool.not_true, Bool.not_false, Nat.reduceAdd, Nat.reduceSub, Nat.reduceMul, Nat.reduceLT, Nat.reduceLeDiff, Nat.reduceEqDiff, reduceCtorEq, List.reduceReplicate, Int.reduceToNat, Int.reduceLE, Int.reduceLT]
            all_goals (refine CallK.intro b61 rfl k61 ?_; simp only [evS, tyS, Bool.not_true, Bool.not_false, Nat.reduceAdd, Nat.reduceSub, Nat.reduceMul, Nat.reduceLT, Nat.reduceLeDiff, Nat.reduceEqDiff, reduceCtorEq, List.reduceReplicate, Int.reduceToNat, Int.reduceLE, Int.reduceLT]; (repeat' (first | (with_reducible refine And.intro ?_ ?_) | ((first | refine GuardK.intro_f (fun h => ?_) (fun h => ?_) | refine GuardK.intro_t (fun h => ?_) (fun h => ?_) | refine CondK.intro (fun h => ?_) (fun h => ?_) | refine PickK.intro (fun h => ?_) (fun h => ?_)) <;> simp only [h, evS, tyS, Bool.not_true, Bool.not_false, Nat.reduceAdd, Nat.reduceSub, Nat.reduceMul, Nat.reduceLT, Nat.reduceLeDiff, Nat.reduceEqDiff, reduceCtorEq, List.reduceReplicate, Int.reduceToNat, Int.reduceLE, Int.reduceLT]) | (refine DrawK.intro (by kernel_rfl) (by kernel_rfl) ?_; simp only [evS, tyS, Bool.not_true, Bool.not_false, Nat.reduceAdd, Nat.reduceSub, Nat.reduceMul, Nat.reduceLT, Nat.reduceLeDiff, Nat.reduceEqDiff, reduceCtorEq, List.reduceReplicate, Int.reduceToNat, Int.reduceLE, Int.reduceLT]))))
            all_goals try first | (omega; done) | (simp only [List.length_append, List.length_cons, List.length_nil] at *; omega)
            all_goals (refine CallK.intro b62 rfl k62 ?_; simp only [evS, tyS, Bool.not_true, Bool.not_false, Nat.reduceAdd, Nat.reduceSub, Nat.reduceMul, Nat.reduceLT, Nat.reduceLeDiff, Nat.reduceEqDiff, reduceCtorEq, List.reduceReplicate, Int.reduceToNat, Int.reduceLE, Int.reduceLT]; (repeat' (first | (with_reducible refine And.intro ?_ ?_) | ((first | refine GuardK.intro_f (fun h => ?_) (fun h => ?_) | refine GuardK.intro_t (fun h => ?_) (fun h => ?_) | refine CondK.intro (fun h => ?_) (fun h => ?_) | refine PickK.intro (fun h => ?_) (fun h => ?_)) <;> simp only [h, evS, tyS, Bool.not_true, Bool.not_false, Nat.reduceAdd, Nat.reduceSub, Nat.reduceMul, Nat.reduceLT, Nat.reduceLeDiff, Nat.reduceEqDiff, reduceCtorEq, List.reduceReplicate, Int.reduceToNat, Int.reduceLE, Int.reduceLT]) | (refine DrawK.intro (by kernel_rfl) (by kernel_rfl) ?_; simp only [evS, tyS, Bool.not_true, Bool.not_false, Nat.reduceAdd, Nat.reduceSub, Nat.reduceMul, Nat.reduceLT, Nat.reduceLeDiff, Nat.reduceEqDiff, reduceCtorEq, List.reduceReplicate, Int.reduceToNat, Int.reduceLE, Int.reduceLT]))))
            all_goals try first | (omega; done) | (simp only [List.length_append, List.length_cons, List.length_nil] at *; omega)
            all_goals first | done | rfl | (simp only [List.append_assoc, List.cons_append, List.nil_append]; done) | (simp [List.append_assoc]; done) | trace_state
  · have zz : (((x / 9223372036854775808 : Nat) : Int) == 1) = false := by simp; omega
    have es : sgnS x = [] := by unfold sgnS; rw [if_neg hsg]
    simp only [Tryz.f102, evS, tyS, Bool.not_true, Bool.not_false, Nat.reduceAdd, Nat.reduceSub, Nat.reduceMul, Nat.reduceLT, Nat.reduceLeDiff, Nat.reduceEqDiff, reduceCtorEq, List.reduceReplicate, Int.reduceToNat, Int.reduceLE, Int.reduceLT]
    refine CallK.ext (ext33 x) ?_
    by_cases h1 : nanB x = true
    · have e : measF x = nanT := by unfold measF; rw [if_pos h1]
      rw [e, nanT]
      simp only [s52, a1, q1, q1', q2, q2', a2, w1, w2, w3, hn, zz, h1, evS, tyS, Bool.not_true, Bool.not_false, Nat.reduceAdd, Nat.reduceSub, Nat.reduceMul, Nat.reduceLT, Nat.reduceLeDiff, Nat.reduceEqDiff, reduceCtorEq, List.reduceReplicate, Int.reduceToNat, Int.reduceLE, Int.reduceLT]
      all_goals first | done | rfl | trace_state
    · have h1' : nanB x = false := by simpa using h1
      by_cases h2 : eB x = 2047
      · have e : measF x = [] ++ infT := by unfold measF; rw [if_neg h1, if_pos h2, es]
        rw [e, infT]
        have e1 : (((eB x : Nat) : Int) == 2047) = true := by rw [h2]; rfl
        simp only [s52, a1, q1, q1', q2, q2', a2, w1, w2, w3, hn, zz, h1', e1, evS, tyS, Bool.not_true, Bool.not_false, Nat.reduceAdd, Nat.reduceSub, Nat.reduceMul, Nat.reduceLT, Nat.reduceLeDiff, Nat.reduceEqDiff, reduceCtorEq, List.reduceReplicate, Int.reduceToNat, Int.reduceLE, Int.reduceLT]
        all_goals first | done | rfl | trace_state
      · have e1 : (((eB x : Nat) : Int) == 2047) = false := by simp; omega
        by_cases h3 : mB x = 0 ∧ eB x = 0
        · have e : measF x = [] ++ [48, 112, 48] := by unfold measF; rw [if_neg h1, if_neg h2, if_pos h3, es]
          rw [e]
          have e2 : (((mB x : Nat) : Int) == 0) = true := by rw [h3.1]; rfl
          have e3 : (((eB x : Nat) : Int) == 0) = true := by rw [h3.2]; rfl
          simp only [s52, a1, q1, q1', q2, q2', a2, w1, w2, w3, hn, zz, h1', e1, e2, e3, evS, tyS, Bool.not_true, Bool.not_false, Nat.reduceAdd, Nat.reduceSub, Nat.reduceMul, Nat.reduceLT, Nat.reduceLeDiff, Nat.reduceEqDiff, reduceCtorEq, List.reduceReplicate, Int.reduceToNat, Int.reduceLE, Int.reduceLT]
          all_goals first | done | rfl | trace_state
        · have e : measF x = (([] ++ Lib.decDigits (mM x / 2 ^ mT x)) ++ [112]) ++ Lib.itoa (mE x + mT x) := by unfold measF; rw [if_neg h1, if_neg h2, if_neg h3, es]
          rw [e]
          have hM0 : 0 < mM x := by unfold mM; split <;> omega
          have hM : mM x < 9007199254740992 := by unfold mM; split <;> omega
          obtain ⟨t1, t2, t3⟩ := oddT_spec 64 (mM x) hM0 (by omega)
          have hTd : oddT 64 (mM x) = mT x := rfl
          rw [hTd] at t1 t2 t3
          have hE : -1074 ≤ mE x ∧ mE x ≤ 972 := by unfold mE; split <;> omega
          have hlen := Lib.itoa_length_le (mE x + mT x) (by omega) (by omega)
          have hdl : (Lib.decDigits (mM x / 2 ^ mT x)).length ≤ 20 := by
            rw [Lib.decDigits_length]; exact Lib.nDigits_le20 _ (Nat.lt_of_le_of_lt (Nat.div_le_self _ _) (by omega))
          have hMT : mM x / 2 ^ mT x ≤ mM x := Nat.div_le_self _ _
          have k61 := formatUint61_ev hγ (mM x / 2 ^ mT x) (by omega)
          have k62 := itoa_ev hγ (mE x + mT x) (by omega) (by omega)
          have loop : ∀ (Q : Post) (s : St) (c : Code), Tryz.f102.body.bind (pieceC [1, 1, 1, 1, 1, 1, 1, 0, 2, 3]) = some c → s.weak ⟨⟨60, [(5, .v (.int .i64 (mE x))), (4, .v (.int .u64 (mM x))), (6, .v (.string ⟨[].toArray⟩))], γ⟩, []⟩ →
              (Q (.exit 1) ⟨⟨60, [(47, .v (.bool false)), (46, .v (.int .u64 1)), (45, .v (.int .u64 (mM x / 2 ^ mT x : Nat))), (5, .v (.int .i64 (mE x + mT x))), (4, .v (.int .u64 (mM x / 2 ^ mT x : Nat))), (6, .v (.string ⟨[].toArray⟩))], γ⟩, []⟩) → LoopK (kwp Tryz.prog c) Q s := by
            intro Q s c hc hw hex
            obtain rfl := Option.some.inj (hc.symm.trans rfl)
            clear hc
            refine LoopK.intro (fun t : Nat => ⟨⟨60, [(5, .v (.int .i64 (mE x + t))), (4, .v (.int .u64 (mM x / 2 ^ t : Nat))), (6, .v (.string ⟨[].toArray⟩))], γ⟩, []⟩) (fun t => t ≤ mT x) (fun t => mT x - t) 0 ?_ (Nat.zero_le _) ?_
            · simpa using hw
            · intro t ht
              have hMt : mM x / 2 ^ t ≤ mM x := Nat.div_le_self _ _
              have b1 : (BitVec.ofInt IntKind.u64.bits ((mM x / 2 ^ t : Nat) : Int) &&& BitVec.ofInt IntKind.u64.bits 1).toNat = (mM x / 2 ^ t) % 2 := and_mask _ (by omega) 1 (by decide)
              by_cases htT : t = mT x
              · subst htT
                have b2 : IntKind.u64.wrap ((1 : Nat) : Int) = 1 := by decide
                have b3 : ((1 : Int) == 0) = false := by decide
                rw [t1] at b1
                simp only [s52, b1, b2, b3, evS, tyS, Bool.not_true, Bool.not_false, Nat.reduceAdd, Nat.reduceSub, Nat.reduceMul, Nat.reduceLT, Nat.reduceLeDiff, Nat.reduceEqDiff, reduceCtorEq, List.reduceReplicate, Int.reduceToNat, Int.reduceLE, Int.reduceLT]
                all_goals first | exact hex | trace_state
              · have hlt : t < mT x := by omega
                have b2 : IntKind.u64.wrap ((0 : Nat) : Int) = 0 := by decide
                have b3 : ((0 : Int) == 0) = true := by decide
                rw [t2 t hlt] at b1
                have b4 : Int.fdiv ((mM x / 2 ^ t : Nat) : Int) (2 ^ min (Int.toNat 1) 64) = ((mM x / 2 ^ (t + 1) : Nat) : Int) := by
                  rw [Int.fdiv_eq_ediv_of_nonneg _ (by decide), Nat.pow_succ, ← Nat.div_div_eq_div_mul]; rfl
                have b4' : Int.fdiv ((mM x / 2 ^ t : Nat) : Int) (2 ^ min 1 64) = ((mM x / 2 ^ (t + 1) : Nat) : Int) := b4
                have b5 : IntKind.i64.wrap (mE x + (t : Int) + 1) = mE x + ((t + 1 : Nat) : Int) := (i64w (by omega) (by omega)).trans (by omega)
                simp only [s52, b1, b2, b3, b4, b4', b5, evS, tyS, Bool.not_true, Bool.not_false, Nat.reduceAdd, Nat.reduceSub, Nat.reduceMul, Nat.reduceLT, Nat.reduceLeDiff, Nat.reduceEqDiff, reduceCtorEq, List.reduceReplicate, Int.reduceToNat, Int.reduceLE, Int.reduceLT]
                refine loopC.intro (t + 1) (by omega) ?_ (by omega)
                simp only [b4, b4', b5, evS, tyS, Bool.not_true, Bool.not_false, Nat.reduceAdd, Nat.reduceSub, Nat.reduceMul, Nat.reduceLT, Nat.reduceLeDiff, Nat.reduceEqDiff, reduceCtorEq, List.reduceReplicate, Int.reduceToNat, Int.reduceLE, Int.reduceLT]
                all_goals first | done | rfl | trace_state
          have tail : ∀ (s : St) (g1 : Prop), True := fun _ _ => trivial
          by_cases h4 : 0 < eB x
          · have d1 : decide (0 < eB x) = true := decide_eq_true h4
            have d2 : decide ((0 : Int) < ((eB x : Nat) : Int)) = true := decide_eq_true (by omega)
            have m1 : IntKind.u64.wrap (((BitVec.ofInt IntKind.u64.bits ((mB x : Nat) : Int) ||| BitVec.ofInt IntKind.u64.bits 4503599627370496).toNat : Nat) : Int) = ((mM x : Nat) : Int) := by
              exact (congrArg (fun n : Nat => IntKind.u64.wrap (n : Int)) (or_first _ hmB)).trans (by show IntKind.u64.wrap ((mB x + 4503599627370496 : Nat) : Int) = _; unfold mM; rw [if_pos h4]; rw [u64w] <;> omega)
            have m2 : IntKind.i64.wrap (((eB x : Nat) : Int) - 1) = ((eB x : Nat) : Int) - 1 := i64w (by omega) (by omega)
            have m3 : IntKind.i64.wrap (((eB x : Nat) : Int) - 1 + -1074) = mE x := by unfold mE; rw [if_pos h4]; exact (i64w (by omega) (by omega)).trans (by omega)
            simp only [s52, a1, q1, q1', q2, q2', a2, w1, w2, w3, hn, zz, h1', e1, d1, d2, m1, m2, m3, evS, tyS, Bool.not_true, Bool.not_false, Nat.reduceAdd, Nat.reduceSub, Nat.reduceMul, Nat.reduceLT, Nat.reduceLeDiff, Nat.reduceEqDiff, reduceCtorEq, List.reduceReplicate, Int.reduceToNat, Int.reduceLE, Int.reduceLT]
            (repeat' (first | (with_reducible refine And.intro ?_ ?_) | ((first | refine GuardK.intro_f (fun h => ?_) (fun h => ?_) | refine GuardK.intro_t (fun h => ?_) (fun h => ?_) | refine CondK.intro (fun h => ?_) (fun h => ?_) | refine PickK.intro (fun h => ?_) (fun h => ?_)) <;> simp only [h, s52, a1, q1, q1', q2, q2', a2, w1, w2, w3, hn, zz, h1', e1, d1, d2, m1, m2, m3, evS, tyS, Bool.not_true, Bool.not_false, Nat.reduceAdd, Nat.reduceSub, Nat.reduceMul, Nat.reduceLT, Nat.reduceLeDiff, Nat.reduceEqDiff, reduceCtorEq, List.reduceReplicate, Int.reduceToNat, Int.reduceLE, Int.reduceLT]) | (refine DrawK.intro (by kernel_rfl) (by kernel_rfl) ?_; simp only [s52, a1, q1, q1', q2, q2', a2, w1, w2, w3, hn, zz, h1', e1, d1, d2, m1, m2, m3, evS, tyS, Bool.not_true, Bool.not_false, Nat.reduceAdd, Nat.reduceSub, Nat.reduceMul, Nat.reduceLT, Nat.reduceLeDiff, Nat.reduceEqDiff, reduceCtorEq, List.reduceReplicate, Int.reduceToNat, Int.reduceLE, Int.reduceLT])))
            all_goals try (((try simp only [decide_eq_true_eq, decide_eq_false_iff_not, beq_iff_eq, bne_iff_ne, ne_eq, beq_eq_false_iff_ne, bne_eq_false_iff_eq] at *) <;> (try omega)); done)
            all_goals refine loop _ _ _ (by kernel_rfl) ?_ ?_
            all_goals first
              | exact ⟨rfl, rfl, ⟨rfl, rfl, rfl, trivial⟩, .inl rfl⟩
              | skip
            all_goals
              simp only [evS, tyS, Bool.not_true, Bool.not_false, Nat.reduceAdd, Nat.reduceSub, Nat.reduceMul, Nat.reduceLT, Nat.reduceLeDiff, Nat.reduceEqDiff, reduceCtorEq, List.reduceReplicate, Int.reduceToNat, Int.reduceLE, Int.reduceLT]
            all_goals (refine CallK.intro b61 rfl k61 ?_; simp only [evS, tyS, Bool.not_true, Bool.not_false, Nat.reduceAdd, Nat.reduceSub, Nat.reduceMul, Nat.reduceLT, Nat.reduceLeDiff, Nat.reduceEqDiff, reduceCtorEq, List.reduceReplicate, Int.reduceToNat, Int.reduceLE, Int.reduceLT]; (repeat' (first | (with_reducible refine And.intro ?_ ?_) | ((first | refine GuardK.intro_f (fun h => ?_) (fun h => ?_) | refine GuardK.intro_t (fun h => ?_) (fun h => ?_) | refine CondK.intro (fun h => ?_) (fun h => ?_) | refine PickK.intro (fun h => ?_) (fun h => ?_)) <;> simp only [h, evS, tyS, Bool.not_true, Bool.not_false, Nat.reduceAdd, Nat.reduceSub, Nat.reduceMul, Nat.reduceLT, Nat.reduceLeDiff, Nat.reduceEqDiff, reduceCtorEq, List.reduceReplicate, Int.reduceToNat, Int.reduceLE, Int.reduceLT]) | (refine DrawK.intro (by kernel_rfl) (by kernel_rfl) ?_; simp only [evS, tyS, Bool.not_true, Bool.not_false, Nat.reduceAdd, Nat.reduceSub, Nat.reduceMul, Nat.reduceLT, Nat.reduceLeDiff, Nat.reduceEqDiff, reduceCtorEq, List.reduceReplicate, Int.reduceToNat, Int.reduceLE, Int.reduceLT]))))
            all_goals try first | (omega; done) | (simp only [List.length_append, List.length_cons, List.length_nil] at *; omega)
            all_goals (refine CallK.intro b62 rfl k62 ?_; simp only [evS, tyS, Bool.not_true, Bool.not_false, Nat.reduceAdd, Nat.reduceSub, Nat.reduceMul, Nat.reduceLT, Nat.reduceLeDiff, Nat.reduceEqDiff, reduceCtorEq, List.reduceReplicate, Int.reduceToNat, Int.reduceLE, Int.reduceLT]; (repeat' (first | (with_reducible refine And.intro ?_ ?_) | ((first | refine GuardK.intro_f (fun h => ?_) (fun h => ?_) | refine GuardK.intro_t (fun h => ?_) (fun h => ?_) | refine CondK.intro (fun h => ?_) (fun h => ?_) | refine PickK.intro (fun h => ?_) (fun h => ?_)) <;> simp only [h, evS, tyS, Bool.not_true, Bool.not_false, Nat.reduceAdd, Nat.reduceSub, Nat.reduceMul, Nat.reduceLT, Nat.reduceLeDiff, Nat.reduceEqDiff, reduceCtorEq, List.reduceReplicate, Int.reduceToNat, Int.reduceLE, Int.reduceLT]) | (refine DrawK.intro (by kernel_rfl) (by kernel_rfl) ?_; simp only [evS, tyS, Bool.not_true, Bool.not_false, Nat.reduceAdd, Nat.reduceSub, Nat.reduceMul, Nat.reduceLT, Nat.reduceLeDiff, Nat.reduceEqDiff, reduceCtorEq, List.reduceReplicate, Int.reduceToNat, Int.reduceLE, Int.reduceLT]))))
            all_goals try first | (omega; done) | (simp only [List.length_append, List.length_cons, List.length_nil] at *; omega)
            all_goals first | done | rfl | (simp only [List.append_assoc, List.cons_append, List.nil_append]; done) | (simp [List.append_assoc]; done) | trace_state
          · have d1 : decide (0 < eB x) = false := decide_eq_false h4
            have d2 : decide ((0 : Int) < ((eB x : Nat) : Int)) = false := decide_eq_false (by omega)
            have hmm : mB x = mM x := by unfold mM; rw [if_neg h4]
            have m3 : IntKind.i64.wrap (((eB x : Nat) : Int) + -1074) = mE x := by unfold mE; rw [if_neg h4]; exact (i64w (by omega) (by omega)).trans (by omega)
            simp only [s52, a1, q1, q1', q2, q2', a2, w1, w2, w3, hn, zz, h1', e1, d1, d2, m3, evS, tyS, Bool.not_true, Bool.not_false, Nat.reduceAdd, Nat.reduceSub, Nat.reduceMul, Nat.reduceLT, Nat.reduceLeDiff, Nat.reduceEqDiff, reduceCtorEq, List.reduceReplicate, Int.reduceToNat, Int.reduceLE, Int.reduceLT]
            (repeat' (first | (with_reducible refine And.intro ?_ ?_) | ((first | refine GuardK.intro_f (fun h => ?_) (fun h => ?_) | refine GuardK.intro_t (fun h => ?_) (fun h => ?_) | refine CondK.intro (fun h => ?_) (fun h => ?_) | refine PickK.intro (fun h => ?_) (fun h => ?_)) <;> simp only [h, s52, a1, q1, q1', q2, q2', a2, w1, w2, w3, hn, zz, h1', e1, d1, d2, m3, evS, tyS, Bool.not_true, Bool.not_false, Nat.reduceAdd, Nat.reduceSub, Nat.reduceMul, Nat.reduceLT, Nat.reduceLeDiff, Nat.reduceEqDiff, reduceCtorEq, List.reduceReplicate, Int.reduceToNat, Int.reduceLE, Int.reduceLT]) | (refine DrawK.intro (by kernel_rfl) (by kernel_rfl) ?_; simp only [s52, a1, q1, q1', q2, q2', a2, w1, w2, w3, hn, zz, h1', e1, d1, d2, m3, evS, tyS, Bool.not_true, Bool.not_false, Nat.reduceAdd, Nat.reduceSub, Nat.reduceMul, Nat.reduceLT, Nat.reduceLeDiff, Nat.reduceEqDiff, reduceCtorEq, List.reduceReplicate, Int.reduceToNat, Int.reduceLE, Int.reduceLT])))
            all_goals try (((try simp only [decide_eq_true_eq, decide_eq_false_iff_not, beq_iff_eq, bne_iff_ne, ne_eq, beq_eq_false_iff_ne, bne_eq_false_iff_eq] at *) <;> (try omega)); done)
            all_goals refine loop _ _ _ (by kernel_rfl) ?_ ?_
            all_goals first
              | exact ⟨rfl, rfl, ⟨rfl, congrArg (fun n : Nat => AV.v (.int .u64 (n : Int))) hmm, rfl, trivial⟩, .inl rfl⟩
              | skip
            all_goals
              simp only [evS, tyS, Bool.not_true, Bool.not_false, Nat.reduceAdd, Nat.reduceSub, Nat.reduceMul, Nat.reduceLT, Nat.reduceLeDiff, Nat.reduceEqDiff, reduceCtorEq, List.reduceReplicate, Int.reduceToNat, Int.reduceLE, Int.reduceLT]
            all_goals (refine CallK.intro b61 rfl k61 ?_; simp only [evS, tyS, Bool.not_true, Bool.not_false, Nat.reduceAdd, Nat.reduceSub, Nat.reduceMul, Nat.reduceLT, Nat.reduceLeDiff, Nat.reduceEqDiff, reduceCtorEq, List.reduceReplicate, Int.reduceToNat, Int.reduceLE, Int.reduceLT]; (repeat' (first | (with_reducible refine And.intro ?_ ?_) | ((first | refine GuardK.intro_f (fun h => ?_) (fun h => ?_) | refine GuardK.intro_t (fun h => ?_) (fun h => ?_) | refine CondK.intro (fun h => ?_) (fun h => ?_) | refine PickK.intro (fun h => ?_) (fun h => ?_)) <;> simp only [h, evS, tyS, Bool.not_true, Bool.not_false, Nat.reduceAdd, Nat.reduceSub, Nat.reduceMul, Nat.reduceLT, Nat.reduceLeDiff, Nat.reduceEqDiff, reduceCtorEq, List.reduceReplicate, Int.reduceToNat, Int.reduceLE, Int.reduceLT]) | (refine DrawK.intro (by kernel_rfl) (by kernel_rfl) ?_; simp only [evS, tyS, Bool.not_true, Bool.not_false, Nat.reduceAdd, Nat.reduceSub, Nat.reduceMul, Nat.reduceLT, Nat.reduceLeDiff, Nat.reduceEqDiff, reduceCtorEq, List.reduceReplicate, Int.reduceToNat, Int.reduceLE, Int.reduceLT]))))
            all_goals try first | (omega; done) | (simp only [List.length_append, List.length_cons, List.length_nil] at *; omega)
            all_goals (refine CallK.intro b62 rfl k62 ?_; simp only [evS, tyS, Bool.not_true, Bool.not_false, Nat.reduceAdd, Nat.reduceSub, Nat.reduceMul, Nat.reduceLT, Nat.reduceLeDiff, Nat.reduceEqDiff, reduceCtorEq, List.reduceReplicate, Int.reduceToNat, Int.reduceLE, Int.reduceLT]; (repeat' (first | (with_reducible refine And.intro ?_ ?_) | ((first | refine GuardK.intro_f (fun h => ?_) (fun h => ?_) | refine GuardK.intro_t (fun h => ?_) (fun h => ?_) | refine CondK.intro (fun h => ?_) (fun h => ?_) | refine PickK.intro (fun h => ?_) (fun h => ?_)) <;> simp only [h, evS, tyS, Bool.not_true, Bool.not_false, Nat.reduceAdd, Nat.reduceSub, Nat.reduceMul, Nat.reduceLT, Nat.reduceLeDiff, Nat.reduceEqDiff, reduceCtorEq, List.reduceReplicate, Int.reduceToNat, Int.reduceLE, Int.reduceLT]) | (refine DrawK.intro (by kernel_rfl) (by kernel_rfl) ?_; simp only [evS, tyS, Bool.not_true, Bool.not_false, Nat.reduceAdd, Nat.reduceSub, Nat.reduceMul, Nat.reduceLT, Nat.reduceLeDiff, Nat.reduceEqDiff, reduceCtorEq, List.reduceReplicate, Int.reduceToNat, Int.reduceLE, Int.reduceLT]))))
            all_goals try first | (omega; done) | (simp only [List.length_append, List.length_cons, List.length_nil] at *; omega)
            all_goals first | done | rfl | (simp only [List.append_assoc, List.cons_append, List.nil_append]; done) | (simp [List.append_assoc]; done) | trace_state
end Go.Proofs.YtlobiioioicmhaaGreatDoor
/- value.quoted: a text's text. -/
namespace Go.Proofs.YtlobiioioicmhaaGreatDoor
set_option linter.all false
open Go Go.Ev
set_option maxRecDepth 20000
variable {γ : List (Nat × AV)}
theorem ub_shr4b (c : UInt8) : ((c.toNat : Int)).fdiv (2 ^ min 4 IntKind.u8.bits) = ((c.toNat / 16 : Nat) : Int) := ub_shr4 c
def hexL : List UInt8 := [48, 49, 50, 51, 52, 53, 54, 55, 56, 57, 97, 98, 99, 100, 101, 102]
def esc (c : UInt8) : List UInt8 := if c = 34 ∨ c = 92 then [92, c] else if c < 32 ∨ 126 < c then [92, 120, hexL.getD (c.toNat / 16) 0, hexL.getD (c.toNat % 16) 0] else [c]
def quoteB (l : List UInt8) : List UInt8 := 34 :: l.flatMap esc
theorem quoteB_snoc (l : List UInt8) (x : UInt8) : quoteB (l ++ [x]) = quoteB l ++ esc x := by simp [quoteB]
theorem esc_len (x : UInt8) : (esc x).length ≤ 4 := by
  unfold esc
  split
  · simp
  · split <;> simp
theorem quoteB_len (l : List UInt8) : (quoteB l).length ≤ 1 + 4 * l.length := by
  induction l with
  | nil => simp [quoteB]
  | cons x l ih => simp only [quoteB, List.flatMap_cons, List.length_cons, List.length_append] at *; have := esc_len x; omega
theorem esc1 {c : UInt8} (h : c.toNat = 34 ∨ c.toNat = 92) : esc c = [92, c] := by
  unfold esc; rw [if_pos]
  rcases h with h | h
  · exact .inl (by rw [← UInt8.toNat_inj, h]; rfl)
  · exact .inr (by rw [← UInt8.toNat_inj, h]; rfl)
theorem esc_n {c : UInt8} (h : ¬ (c.toNat = 34 ∨ c.toNat = 92)) : ¬ (c = 34 ∨ c = 92) := fun e => h (by rcases e with rfl | rfl; exact .inl rfl; exact .inr rfl)
theorem esc2 {c : UInt8} (h : ¬ (c.toNat = 34 ∨ c.toNat = 92)) (h2 : c.toNat < 32 ∨ 126 < c.toNat) : esc c = [92, 120, hexL.getD (c.toNat / 16) 0, hexL.getD (c.toNat % 16) 0] := by
  unfold esc; rw [if_neg (esc_n h), if_pos]
  simpa [UInt8.lt_iff_toNat_lt] using h2
theorem esc3 {c : UInt8} (h : ¬ (c.toNat = 34 ∨ c.toNat = 92)) (h2 : ¬ (c.toNat < 32 ∨ 126 < c.toNat)) : esc c = [c] := by
  unfold esc; rw [if_neg (esc_n h), if_neg]
  simpa [UInt8.lt_iff_toNat_lt] using h2
theorem strOf_34 (q : List UInt8) : strOf (List.take (q.length + 1) (q.map byteC ++ [.v (.int .u8 34)])) = some (.v (.string ⟨(q ++ [34]).toArray⟩)) := by
  have : q.map byteC ++ [.v (.int .u8 34)] = (q ++ [34]).map byteC := by simp [byteC]
  rw [this, List.take_of_length_le (by simp), strOf_map]
theorem b38 : bodyT Tryz.prog 103 := ⟨_, Tryz.func103, by kernel_rfl, by kernel_rfl⟩
def quotF (l : List UInt8) : List UInt8 := quoteB l ++ [34]
set_option maxHeartbeats 4000000 in
theorem quoted_ev (l : List UInt8) (hl : l.length ≤ 256) : Ev Tryz.prog γ 103 [.v (.string ⟨l.toArray⟩)] (.v (.string ⟨(quotF l).toArray⟩)) := by
  refine Ev.of Tryz.func103 rfl ?_
  unfold quotF
  simp only [Tryz.f103, evS, tyS, Bool.not_true, Bool.not_false, Nat.reduceAdd, Nat.reduceSub, Nat.reduceMul, Nat.reduceLT, Nat.reduceLeDiff, Nat.reduceEqDiff, reduceCtorEq, List.reduceReplicate, Int.reduceToNat, Int.reduceLE, Int.reduceLT]
  (repeat' (first | (with_reducible refine And.intro ?_ ?_) | ((first | refine GuardK.intro_f (fun h => ?_) (fun h => ?_) | refine GuardK.intro_t (fun h => ?_) (fun h => ?_) | refine CondK.intro (fun h => ?_) (fun h => ?_) | refine PickK.intro (fun h => ?_) (fun h => ?_)) <;> simp only [h, evS, tyS, Bool.not_true, Bool.not_false, Nat.reduceAdd, Nat.reduceSub, Nat.reduceMul, Nat.reduceLT, Nat.reduceLeDiff, Nat.reduceEqDiff, reduceCtorEq, List.reduceReplicate, Int.reduceToNat, Int.reduceLE, Int.reduceLT]) | (refine DrawK.intro (by kernel_rfl) (by kernel_rfl) ?_; simp only [evS, tyS, Bool.not_true, Bool.not_false, Nat.reduceAdd, Nat.reduceSub, Nat.reduceMul, Nat.reduceLT, Nat.reduceLeDiff, Nat.reduceEqDiff, reduceCtorEq, List.reduceReplicate, Int.reduceToNat, Int.reduceLE, Int.reduceLT])))
  all_goals try (((try simp only [decide_eq_true_eq, decide_eq_false_iff_not, beq_iff_eq, bne_iff_ne, ne_eq, beq_eq_false_iff_ne, bne_eq_false_iff_eq] at *) <;> (try omega)); done)
  refine LoopK.intro (fun j : Nat => ⟨⟨51, [(0, .v (.string ⟨l.toArray⟩)), (9, .v (.int .i64 j)), (8, .v (.int .i64 l.length)), (3, .own 0 j (quoteB (l.take j)).length)], γ⟩, [⟨j, 5, (quoteB (l.take j)).map byteC⟩]⟩) (fun j => j ≤ l.length) (fun j => l.length - j) 0 ?_ (Nat.zero_le _) (fun j hj => ?_)
  · simp only [evS, tyS, Bool.not_true, Bool.not_false, Nat.reduceAdd, Nat.reduceSub, Nat.reduceMul, Nat.reduceLT, Nat.reduceLeDiff, Nat.reduceEqDiff, reduceCtorEq, List.reduceReplicate, Int.reduceToNat, Int.reduceLE, Int.reduceLT]
    (repeat' (first | (with_reducible refine And.intro ?_ ?_) | ((first | refine GuardK.intro_f (fun h => ?_) (fun h => ?_) | refine GuardK.intro_t (fun h => ?_) (fun h => ?_) | refine CondK.intro (fun h => ?_) (fun h => ?_) | refine PickK.intro (fun h => ?_) (fun h => ?_)) <;> simp only [h, evS, tyS, Bool.not_true, Bool.not_false, Nat.reduceAdd, Nat.reduceSub, Nat.reduceMul, Nat.reduceLT, Nat.reduceLeDiff, Nat.reduceEqDiff, reduceCtorEq, List.reduceReplicate, Int.reduceToNat, Int.reduceLE, Int.reduceLT]) | (refine DrawK.intro (by kernel_rfl) (by kernel_rfl) ?_; simp only [evS, tyS, Bool.not_true, Bool.not_false, Nat.reduceAdd, Nat.reduceSub, Nat.reduceMul, Nat.reduceLT, Nat.reduceLeDiff, Nat.reduceEqDiff, reduceCtorEq, List.reduceReplicate, Int.reduceToNat, Int.reduceLE, Int.reduceLT])))
    all_goals first | rfl | exact .inl rfl
  · have hq := quoteB_len (l.take j)
    have hl2 : (l.take j).length = j := by rw [List.length_take]; omega
    have hc256 := (l.getD j 0).toNat_lt
    by_cases hj' : j < l.length
    · have d1 : decide (j < l.length) = true := decide_eq_true hj'
      have d2 : decide ((j : Int) < (l.length : Int)) = true := decide_eq_true (by omega)
      have ew : IntKind.i64.wrap ((j : Int) + 1) = ((j + 1 : Nat) : Int) := by rw [i64w] <;> omega
      by_cases h1 : (l.getD j 0).toNat = 34 ∨ (l.getD j 0).toNat = 92
      · have hE := esc1 h1
        by_cases h34 : (l.getD j 0).toNat = 34
        · have z1 : (((l.getD j 0).toNat : Int) == 34) = true := by rw [h34]; rfl
          simp only [d1, d2, z1, ub_shr4, ub_shr4b, ub_and15, ub_div16, ub_mod16, evS, tyS, Bool.not_true, Bool.not_false, Nat.reduceAdd, Nat.reduceSub, Nat.reduceMul, Nat.reduceLT, Nat.reduceLeDiff, Nat.reduceEqDiff, reduceCtorEq, List.reduceReplicate, Int.reduceToNat, Int.reduceLE, Int.reduceLT]
          (repeat' (first | (with_reducible refine And.intro ?_ ?_) | ((first | refine GuardK.intro_f (fun h => ?_) (fun h => ?_) | refine GuardK.intro_t (fun h => ?_) (fun h => ?_) | refine CondK.intro (fun h => ?_) (fun h => ?_) | refine PickK.intro (fun h => ?_) (fun h => ?_)) <;> simp only [h, d1, d2, z1, ub_shr4, ub_shr4b, ub_and15, ub_div16, ub_mod16, evS, tyS, Bool.not_true, Bool.not_false, Nat.reduceAdd, Nat.reduceSub, Nat.reduceMul, Nat.reduceLT, Nat.reduceLeDiff, Nat.reduceEqDiff, reduceCtorEq, List.reduceReplicate, Int.reduceToNat, Int.reduceLE, Int.reduceLT]) | (refine DrawK.intro (by kernel_rfl) (by kernel_rfl) ?_; simp only [d1, d2, z1, ub_shr4, ub_shr4b, ub_and15, ub_div16, ub_mod16, evS, tyS, Bool.not_true, Bool.not_false, Nat.reduceAdd, Nat.reduceSub, Nat.reduceMul, Nat.reduceLT, Nat.reduceLeDiff, Nat.reduceEqDiff, reduceCtorEq, List.reduceReplicate, Int.reduceToNat, Int.reduceLE, Int.reduceLT])))
          all_goals try (first | (((try simp only [decide_eq_true_eq, decide_eq_false_iff_not, beq_iff_eq, bne_iff_ne, ne_eq, beq_eq_false_iff_ne, bne_eq_false_iff_eq] at *) <;> (try omega)); done) | rfl)
          refine loopC.intro (j + 1) hj' ?_ (by omega)
          refine ⟨rfl, rfl, ?_, .inr ⟨?_, ?_, ?_⟩⟩ <;> simp only [ew, take_snoc hj', quoteB_snoc, hE, List.map_append, okRefL, okRef, okRefB, okRefL_map, okRefL_append, Bool.and_self, decide_true, List.take_succ_cons, byteC, ub_shr4, ub_shr4b, ub_and15, ub_div16, ub_mod16, evS, tyS, Bool.not_true, Bool.not_false, Nat.reduceAdd, Nat.reduceSub, Nat.reduceMul, Nat.reduceLT, Nat.reduceLeDiff, Nat.reduceEqDiff, reduceCtorEq, List.reduceReplicate, Int.reduceToNat, Int.reduceLE, Int.reduceLT] <;> try (first | rfl | trivial | (simp [byteC, hexL]; done))
        · have z1 : (((l.getD j 0).toNat : Int) == 34) = false := by
            cases hb : (((l.getD j 0).toNat : Int) == 34) with
            | false => rfl
            | true => have := eq_of_beq hb; omega
          have z2 : (((l.getD j 0).toNat : Int) == 92) = true := by rw [show (l.getD j 0).toNat = 92 by omega]; rfl
          simp only [d1, d2, z1, z2, ub_shr4, ub_shr4b, ub_and15, ub_div16, ub_mod16, evS, tyS, Bool.not_true, Bool.not_false, Nat.reduceAdd, Nat.reduceSub, Nat.reduceMul, Nat.reduceLT, Nat.reduceLeDiff, Nat.reduceEqDiff, reduceCtorEq, List.reduceReplicate, Int.reduceToNat, Int.reduceLE, Int.reduceLT]
          (repeat' (first | (with_reducible refine And.intro ?_ ?_) | ((first | refine GuardK.intro_f (fun h => ?_) (fun h => ?_) | refine GuardK.intro_t (fun h => ?_) (fun h => ?_) | refine CondK.intro (fun h => ?_) (fun h => ?_) | refine PickK.intro (fun h => ?_) (fun h => ?_)) <;> simp only [h, d1, d2, z1, z2, ub_shr4, ub_shr4b, ub_and15, ub_div16, ub_mod16, evS, tyS, Bool.not_true, Bool.not_false, Nat.reduceAdd, Nat.reduceSub, Nat.reduceMul, Nat.reduceLT, Nat.reduceLeDiff, Nat.reduceEqDiff, reduceCtorEq, List.reduceReplicate, Int.reduceToNat, Int.reduceLE, Int.reduceLT]) | (refine DrawK.intro (by kernel_rfl) (by kernel_rfl) ?_; simp only [d1, d2, z1, z2, ub_shr4, ub_shr4b, ub_and15, ub_div16, ub_mod16, evS, tyS, Bool.not_true, Bool.not_false, Nat.reduceAdd, Nat.reduceSub, Nat.reduceMul, Nat.reduceLT, Nat.reduceLeDiff, Nat.reduceEqDiff, reduceCtorEq, List.reduceReplicate, Int.reduceToNat, Int.reduceLE, Int.reduceLT])))
          all_goals try (first | (((try simp only [decide_eq_true_eq, decide_eq_false_iff_not, beq_iff_eq, bne_iff_ne, ne_eq, beq_eq_false_iff_ne, bne_eq_false_iff_eq] at *) <;> (try omega)); done) | rfl)
          refine loopC.intro (j + 1) hj' ?_ (by omega)
          refine ⟨rfl, rfl, ?_, .inr ⟨?_, ?_, ?_⟩⟩ <;> simp only [ew, take_snoc hj', quoteB_snoc, hE, List.map_append, okRefL, okRef, okRefB, okRefL_map, okRefL_append, Bool.and_self, decide_true, List.take_succ_cons, byteC, ub_shr4, ub_shr4b, ub_and15, ub_div16, ub_mod16, evS, tyS, Bool.not_true, Bool.not_false, Nat.reduceAdd, Nat.reduceSub, Nat.reduceMul, Nat.reduceLT, Nat.reduceLeDiff, Nat.reduceEqDiff, reduceCtorEq, List.reduceReplicate, Int.reduceToNat, Int.reduceLE, Int.reduceLT] <;> try (first | rfl | trivial | (simp [byteC, hexL]; done))
      · have z1 : (((l.getD j 0).toNat : Int) == 34) = false := by
          cases hb : (((l.getD j 0).toNat : Int) == 34) with
          | false => rfl
          | true => have := eq_of_beq hb; omega
        have z2 : (((l.getD j 0).toNat : Int) == 92) = false := by
          cases hb : (((l.getD j 0).toNat : Int) == 92) with
          | false => rfl
          | true => have := eq_of_beq hb; omega
        by_cases h2 : (l.getD j 0).toNat < 32 ∨ 126 < (l.getD j 0).toNat
        · have hE := esc2 h1 h2
          by_cases h3 : (l.getD j 0).toNat < 32
          · have z3 : decide (32 ≤ (l.getD j 0).toNat) = false := decide_eq_false (by omega)
            have z4 : decide ((32 : Int) ≤ ((l.getD j 0).toNat : Int)) = false := decide_eq_false (by omega)
            simp only [d1, d2, z1, z2, z3, z4, ub_shr4, ub_shr4b, ub_and15, ub_div16, ub_mod16, evS, tyS, Bool.not_true, Bool.not_false, Nat.reduceAdd, Nat.reduceSub, Nat.reduceMul, Nat.reduceLT, Nat.reduceLeDiff, Nat.reduceEqDiff, reduceCtorEq, List.reduceReplicate, Int.reduceToNat, Int.reduceLE, Int.reduceLT]
            (repeat' (first | (with_reducible refine And.intro ?_ ?_) | ((first | refine GuardK.intro_f (fun h => ?_) (fun h => ?_) | refine GuardK.intro_t (fun h => ?_) (fun h => ?_) | refine CondK.intro (fun h => ?_) (fun h => ?_) | refine PickK.intro (fun h => ?_) (fun h => ?_)) <;> simp only [h, d1, d2, z1, z2, z3, z4, ub_shr4, ub_shr4b, ub_and15, ub_div16, ub_mod16, evS, tyS, Bool.not_true, Bool.not_false, Nat.reduceAdd, Nat.reduceSub, Nat.reduceMul, Nat.reduceLT, Nat.reduceLeDiff, Nat.reduceEqDiff, reduceCtorEq, List.reduceReplicate, Int.reduceToNat, Int.reduceLE, Int.reduceLT]) | (refine DrawK.intro (by kernel_rfl) (by kernel_rfl) ?_; simp only [d1, d2, z1, z2, z3, z4, ub_shr4, ub_shr4b, ub_and15, ub_div16, ub_mod16, evS, tyS, Bool.not_true, Bool.not_false, Nat.reduceAdd, Nat.reduceSub, Nat.reduceMul, Nat.reduceLT, Nat.reduceLeDiff, Nat.reduceEqDiff, reduceCtorEq, List.reduceReplicate, Int.reduceToNat, Int.reduceLE, Int.reduceLT])))
            all_goals try (first | (((try simp only [decide_eq_true_eq, decide_eq_false_iff_not, beq_iff_eq, bne_iff_ne, ne_eq, beq_eq_false_iff_ne, bne_eq_false_iff_eq] at *) <;> (try omega)); done) | rfl)
            refine loopC.intro (j + 1) hj' ?_ (by omega)
            refine ⟨rfl, rfl, ?_, .inr ⟨?_, ?_, ?_⟩⟩ <;> simp only [ew, take_snoc hj', quoteB_snoc, hE, List.map_append, okRefL, okRef, okRefB, okRefL_map, okRefL_append, Bool.and_self, decide_true, List.take_succ_cons, byteC, ub_shr4, ub_shr4b, ub_and15, ub_div16, ub_mod16, evS, tyS, Bool.not_true, Bool.not_false, Nat.reduceAdd, Nat.reduceSub, Nat.reduceMul, Nat.reduceLT, Nat.reduceLeDiff, Nat.reduceEqDiff, reduceCtorEq, List.reduceReplicate, Int.reduceToNat, Int.reduceLE, Int.reduceLT] <;> try (first | rfl | trivial | (simp [byteC, hexL]; done))
          · have z3 : decide (32 ≤ (l.getD j 0).toNat) = true := decide_eq_true (by omega)
            have z4 : decide ((32 : Int) ≤ ((l.getD j 0).toNat : Int)) = true := decide_eq_true (by omega)
            have z5 : decide ((l.getD j 0).toNat ≤ 126) = false := decide_eq_false (by omega)
            have z6 : decide (((l.getD j 0).toNat : Int) ≤ 126) = false := decide_eq_false (by omega)
            simp only [d1, d2, z1, z2, z3, z4, z5, z6, ub_shr4, ub_shr4b, ub_and15, ub_div16, ub_mod16, evS, tyS, Bool.not_true, Bool.not_false, Nat.reduceAdd, Nat.reduceSub, Nat.reduceMul, Nat.reduceLT, Nat.reduceLeDiff, Nat.reduceEqDiff, reduceCtorEq, List.reduceReplicate, Int.reduceToNat, Int.reduceLE, Int.reduceLT]
            (repeat' (first | (with_reducible refine And.intro ?_ ?_) | ((first | refine GuardK.intro_f (fun h => ?_) (fun h => ?_) | refine GuardK.intro_t (fun h => ?_) (fun h => ?_) | refine CondK.intro (fun h => ?_) (fun h => ?_) | refine PickK.intro (fun h => ?_) (fun h => ?_)) <;> simp only [h, d1, d2, z1, z2, z3, z4, z5, z6, ub_shr4, ub_shr4b, ub_and15, ub_div16, ub_mod16, evS, tyS, Bool.not_true, Bool.not_false, Nat.reduceAdd, Nat.reduceSub, Nat.reduceMul, Nat.reduceLT, Nat.reduceLeDiff, Nat.reduceEqDiff, reduceCtorEq, List.reduceReplicate, Int.reduceToNat, Int.reduceLE, Int.reduceLT]) | (refine DrawK.intro (by kernel_rfl) (by kernel_rfl) ?_; simp only [d1, d2, z1, z2, z3, z4, z5, z6, ub_shr4, ub_shr4b, ub_and15, ub_div16, ub_mod16, evS, tyS, Bool.not_true, Bool.not_false, Nat.reduceAdd, Nat.reduceSub, Nat.reduceMul, Nat.reduceLT, Nat.reduceLeDiff, Nat.reduceEqDiff, reduceCtorEq, List.reduceReplicate, Int.reduceToNat, Int.reduceLE, Int.reduceLT])))
            all_goals try (first | (((try simp only [decide_eq_true_eq, decide_eq_false_iff_not, beq_iff_eq, bne_iff_ne, ne_eq, beq_eq_false_iff_ne, bne_eq_false_iff_eq] at *) <;> (try omega)); done) | rfl)
            refine loopC.intro (j + 1) hj' ?_ (by omega)
            refine ⟨rfl, rfl, ?_, .inr ⟨?_, ?_, ?_⟩⟩ <;> simp only [ew, take_snoc hj', quoteB_snoc, hE, List.map_append, okRefL, okRef, okRefB, okRefL_map, okRefL_append, Bool.and_self, decide_true, List.take_succ_cons, byteC, ub_shr4, ub_shr4b, ub_and15, ub_div16, ub_mod16, evS, tyS, Bool.not_true, Bool.not_false, Nat.reduceAdd, Nat.reduceSub, Nat.reduceMul, Nat.reduceLT, Nat.reduceLeDiff, Nat.reduceEqDiff, reduceCtorEq, List.reduceReplicate, Int.reduceToNat, Int.reduceLE, Int.reduceLT] <;> try (first | rfl | trivial | (simp [byteC, hexL]; done))
        · have hE := esc3 h1 h2
          have z3 : decide (32 ≤ (l.getD j 0).toNat) = true := decide_eq_true (by omega)
          have z4 : decide ((32 : Int) ≤ ((l.getD j 0).toNat : Int)) = true := decide_eq_true (by omega)
          have z5 : decide ((l.getD j 0).toNat ≤ 126) = true := decide_eq_true (by omega)
          have z6 : decide (((l.getD j 0).toNat : Int) ≤ 126) = true := decide_eq_true (by omega)
          simp only [d1, d2, z1, z2, z3, z4, z5, z6, ub_shr4, ub_shr4b, ub_and15, ub_div16, ub_mod16, evS, tyS, Bool.not_true, Bool.not_false, Nat.reduceAdd, Nat.reduceSub, Nat.reduceMul, Nat.reduceLT, Nat.reduceLeDiff, Nat.reduceEqDiff, reduceCtorEq, List.reduceReplicate, Int.reduceToNat, Int.reduceLE, Int.reduceLT]
          (repeat' (first | (with_reducible refine And.intro ?_ ?_) | ((first | refine GuardK.intro_f (fun h => ?_) (fun h => ?_) | refine GuardK.intro_t (fun h => ?_) (fun h => ?_) | refine CondK.intro (fun h => ?_) (fun h => ?_) | refine PickK.intro (fun h => ?_) (fun h => ?_)) <;> simp only [h, d1, d2, z1, z2, z3, z4, z5, z6, ub_shr4, ub_shr4b, ub_and15, ub_div16, ub_mod16, evS, tyS, Bool.not_true, Bool.not_false, Nat.reduceAdd, Nat.reduceSub, Nat.reduceMul, Nat.reduceLT, Nat.reduceLeDiff, Nat.reduceEqDiff, reduceCtorEq, List.reduceReplicate, Int.reduceToNat, Int.reduceLE, Int.reduceLT]) | (refine DrawK.intro (by kernel_rfl) (by kernel_rfl) ?_; simp only [d1, d2, z1, z2, z3, z4, z5, z6, ub_shr4, ub_shr4b, ub_and15, ub_div16, ub_mod16, evS, tyS, Bool.not_true, Bool.not_false, Nat.reduceAdd, Nat.reduceSub, Nat.reduceMul, Nat.reduceLT, Nat.reduceLeDiff, Nat.reduceEqDiff, reduceCtorEq, List.reduceReplicate, Int.reduceToNat, Int.reduceLE, Int.reduceLT])))
          all_goals try (first | (((try simp only [decide_eq_true_eq, decide_eq_false_iff_not, beq_iff_eq, bne_iff_ne, ne_eq, beq_eq_false_iff_ne, bne_eq_false_iff_eq] at *) <;> (try omega)); done) | rfl)
          refine loopC.intro (j + 1) hj' ?_ (by omega)
          refine ⟨rfl, rfl, ?_, .inr ⟨?_, ?_, ?_⟩⟩ <;> simp only [ew, take_snoc hj', quoteB_snoc, hE, List.map_append, okRefL, okRef, okRefB, okRefL_map, okRefL_append, Bool.and_self, decide_true, List.take_succ_cons, byteC, ub_shr4, ub_shr4b, ub_and15, ub_div16, ub_mod16, evS, tyS, Bool.not_true, Bool.not_false, Nat.reduceAdd, Nat.reduceSub, Nat.reduceMul, Nat.reduceLT, Nat.reduceLeDiff, Nat.reduceEqDiff, reduceCtorEq, List.reduceReplicate, Int.reduceToNat, Int.reduceLE, Int.reduceLT] <;> try (first | rfl | trivial | (simp [byteC, hexL]; done))
    · have ej : l.take j = l := by rw [List.take_of_length_le (by omega)]
      have d1 : decide (j < l.length) = false := decide_eq_false hj'
      have d2 : decide ((j : Int) < (l.length : Int)) = false := decide_eq_false (by omega)
      rw [ej] at hq ⊢
      simp only [strOf_34, d1, d2, evS, tyS, Bool.not_true, Bool.not_false, Nat.reduceAdd, Nat.reduceSub, Nat.reduceMul, Nat.reduceLT, Nat.reduceLeDiff, Nat.reduceEqDiff, reduceCtorEq, List.reduceReplicate, Int.reduceToNat, Int.reduceLE, Int.reduceLT]
      (repeat' (first | (with_reducible refine And.intro ?_ ?_) | ((first | refine GuardK.intro_f (fun h => ?_) (fun h => ?_) | refine GuardK.intro_t (fun h => ?_) (fun h => ?_) | refine CondK.intro (fun h => ?_) (fun h => ?_) | refine PickK.intro (fun h => ?_) (fun h => ?_)) <;> simp only [h, strOf_34, d1, d2, evS, tyS, Bool.not_true, Bool.not_false, Nat.reduceAdd, Nat.reduceSub, Nat.reduceMul, Nat.reduceLT, Nat.reduceLeDiff, Nat.reduceEqDiff, reduceCtorEq, List.reduceReplicate, Int.reduceToNat, Int.reduceLE, Int.reduceLT]) | (refine DrawK.intro (by kernel_rfl) (by kernel_rfl) ?_; simp only [strOf_34, d1, d2, evS, tyS, Bool.not_true, Bool.not_false, Nat.reduceAdd, Nat.reduceSub, Nat.reduceMul, Nat.reduceLT, Nat.reduceLeDiff, Nat.reduceEqDiff, reduceCtorEq, List.reduceReplicate, Int.reduceToNat, Int.reduceLE, Int.reduceLT])))
      all_goals first | (((try simp only [decide_eq_true_eq, decide_eq_false_iff_not, beq_iff_eq, bne_iff_ne, ne_eq, beq_eq_false_iff_ne, bne_eq_false_iff_eq] at *) <;> (try omega)); done) | rfl | trace_state
end Go.Proofs.YtlobiioioicmhaaGreatDoor
