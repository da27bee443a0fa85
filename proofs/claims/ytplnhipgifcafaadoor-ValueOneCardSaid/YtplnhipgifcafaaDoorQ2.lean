/- A part of the proof. -/
import Derived.Test.YtplnhipgifcafaaDoorQ1
namespace Go.Proofs.YtplnhipgifcafaaDoor
set_option linter.all false
open Go Go.Ev
variable {γ : List (Nat × AV)}
/-- Less need be known of a row that is handed over. -/
theorem Ev_cut1 {P : Program} {f : FuncId} {b : Bool} {n m : Nat} {L : List UInt8} {rest : List AV} {r : AV} (h1 : n ≤ m) (h2 : n ≤ L.length) (hev : Ev P γ f (.sl b (L.take n).length (L.take n).length ((L.take n).map byteC) :: rest) r) : Ev P γ f (.sl b n m (L.map byteC) :: rest) r := by
  have e : (L.take n).length = n := by rw [List.length_take]; omega
  rw [e] at hev
  intro G B w vs hG hγ hr
  refine hev G B w vs hG hγ ?_
  simp only [relL] at hr ⊢
  obtain ⟨u, us, e1, h3, h4⟩ := hr
  refine ⟨u, us, e1, ?_, h4⟩
  simp only [rel] at h3 ⊢
  obtain ⟨r, off, cap, e2, g1, g2, g3, g4⟩ := h3
  exact ⟨r, off, cap, e2, Nat.le_refl _, by omega, g3, by rw [List.map_take]; exact relAt_take g4 n⟩
def decFrom (n : Nat) (l : List UInt8) : Nat := l.foldl (fun n c => 10 * n + (c.toNat - 48)) n
def decV (l : List UInt8) : Nat := decFrom 0 l
theorem decFrom_ge (l : List UInt8) : ∀ n, n ≤ decFrom n l := by
  induction l with
  | nil => intro n; exact Nat.le_refl _
  | cons c l ih => intro n; have := ih (10 * n + (c.toNat - 48)); simp only [decFrom, List.foldl_cons] at *; omega
theorem decV_snoc (l : List UInt8) (c : UInt8) : decV (l ++ [c]) = 10 * decV l + (c.toNat - 48) := by simp [decV, decFrom]
theorem decV_take (l : List UInt8) (j : Nat) : decV (l.take j) ≤ decV l := by
  have e : decV l = decFrom (decV (l.take j)) (l.drop j) := by
    conv => lhs; rw [← List.take_append_drop j l]
    simp only [decV, decFrom, List.foldl_append]
  rw [e]; exact decFrom_ge _ _
theorem take_snoc {l : List UInt8} {j : Nat} (h : j < l.length) : l.take (j + 1) = l.take j ++ [l.getD j 0] := by
  rw [List.take_add_one]; simp [h]
def wholeR (l : List UInt8) : AV := if decV l ≤ 9223372036854775807 then .tup [.v (.int .i64 (decV l)), .v (.bool true)] else .tup [.v (.int .i64 0), .v (.bool false)]
set_option maxRecDepth 20000 in
theorem refWhole_ev (b : Bool) (l : List UInt8) (hl : l.length ≤ 140737488351232) (hd : ∀ j, j < l.length → digitN (atL l j) = true) : Ev Tryd.prog γ 67 [.sl b l.length l.length (l.map byteC)] (wholeR l) := by
  refine Ev.of Tryd.func67 rfl ?_
  simp only [Tryd.f67, evS, tyS, Bool.not_true, Bool.not_false, Nat.reduceAdd, Nat.reduceSub, Nat.reduceMul, Nat.reduceLT, Nat.reduceLeDiff, Nat.reduceEqDiff, reduceCtorEq, List.reduceReplicate, Int.reduceToNat, Int.reduceLE, Int.reduceLT]
  refine LoopK.intro (fun j : Nat => ⟨⟨30, [(0, .sl b l.length l.length (l.map byteC)), (5, .v (.int .i64 j)), (4, .v (.int .u64 (decV (l.take j))))], γ⟩, []⟩) (fun j => j ≤ l.length ∧ decV (l.take j) ≤ 9223372036854775807) (fun j => l.length - j) 0 ?_ ⟨by omega, by simp [decV, decFrom]⟩ (fun j hj => ?_)
  · simp only [evS, tyS, Bool.not_true, Bool.not_false, Nat.reduceAdd, Nat.reduceSub, Nat.reduceMul, Nat.reduceLT, Nat.reduceLeDiff, Nat.reduceEqDiff, reduceCtorEq, List.reduceReplicate, Int.reduceToNat, Int.reduceLE, Int.reduceLT]
    (repeat' (first | (with_reducible refine And.intro ?_ ?_) | ((first | refine GuardK.intro_f (fun h => ?_) (fun h => ?_) | refine GuardK.intro_t (fun h => ?_) (fun h => ?_) | refine CondK.intro (fun h => ?_) (fun h => ?_) | refine PickK.intro (fun h => ?_) (fun h => ?_)) <;> simp only [h, evS, tyS, Bool.not_true, Bool.not_false, Nat.reduceAdd, Nat.reduceSub, Nat.reduceMul, Nat.reduceLT, Nat.reduceLeDiff, Nat.reduceEqDiff, reduceCtorEq, List.reduceReplicate, Int.reduceToNat, Int.reduceLE, Int.reduceLT]) | (refine DrawK.intro (by kernel_rfl) (by kernel_rfl) ?_; simp only [evS, tyS, Bool.not_true, Bool.not_false, Nat.reduceAdd, Nat.reduceSub, Nat.reduceMul, Nat.reduceLT, Nat.reduceLeDiff, Nat.reduceEqDiff, reduceCtorEq, List.reduceReplicate, Int.reduceToNat, Int.reduceLE, Int.reduceLT])))
    all_goals rfl
  · have ea : ∀ j, (l.getD j 0).toNat = atL l j := fun _ => rfl
    have ej : IntKind.i64.wrap ((j : Int) + 1) = ((j + 1 : Nat) : Int) := by rw [i64w] <;> omega
    by_cases hjl : j < l.length
    · have hdj : 48 ≤ atL l j ∧ atL l j ≤ 57 := by simpa [digitN] using hd j hjl
      have e1 : IntKind.u8.wrap ((atL l j : Int) - 48) = ((atL l j - 48 : Nat) : Int) := by rw [u8w] <;> omega
      have e2 : IntKind.u64.wrap ((atL l j - 48 : Nat) : Int) = ((atL l j - 48 : Nat) : Int) := by rw [u64w] <;> omega
      have e3 : IntKind.u64.wrap (9223372036854775807 - ((atL l j - 48 : Nat) : Int)) = ((9223372036854775807 - (atL l j - 48) : Nat) : Int) := by rw [u64w] <;> omega
      have e4 : IntKind.u64.wrap (((9223372036854775807 - (atL l j - 48) : Nat) : Int).tdiv 10) = (((9223372036854775807 - (atL l j - 48)) / 10 : Nat) : Int) := by
        rw [Int.tdiv_eq_ediv_of_nonneg (by omega), u64w] <;> omega
      have hsn : decV (l.take (j + 1)) = 10 * decV (l.take j) + (atL l j - 48) := by rw [take_snoc hjl, decV_snoc]; rfl
      simp only [ea, e1, e2, e3, e4, evS, tyS, Bool.not_true, Bool.not_false, Nat.reduceAdd, Nat.reduceSub, Nat.reduceMul, Nat.reduceLT, Nat.reduceLeDiff, Nat.reduceEqDiff, reduceCtorEq, List.reduceReplicate, Int.reduceToNat, Int.reduceLE, Int.reduceLT]
      (repeat' (first | (with_reducible refine And.intro ?_ ?_) | ((first | refine GuardK.intro_f (fun h => ?_) (fun h => ?_) | refine GuardK.intro_t (fun h => ?_) (fun h => ?_) | refine CondK.intro (fun h => ?_) (fun h => ?_) | refine PickK.intro (fun h => ?_) (fun h => ?_)) <;> simp only [h, ea, e1, e2, e3, e4, evS, tyS, Bool.not_true, Bool.not_false, Nat.reduceAdd, Nat.reduceSub, Nat.reduceMul, Nat.reduceLT, Nat.reduceLeDiff, Nat.reduceEqDiff, reduceCtorEq, List.reduceReplicate, Int.reduceToNat, Int.reduceLE, Int.reduceLT]) | (refine DrawK.intro (by kernel_rfl) (by kernel_rfl) ?_; simp only [ea, e1, e2, e3, e4, evS, tyS, Bool.not_true, Bool.not_false, Nat.reduceAdd, Nat.reduceSub, Nat.reduceMul, Nat.reduceLT, Nat.reduceLeDiff, Nat.reduceEqDiff, reduceCtorEq, List.reduceReplicate, Int.reduceToNat, Int.reduceLE, Int.reduceLT])))
      all_goals try (((try simp only [decide_eq_true_eq, decide_eq_false_iff_not, beq_iff_eq, bne_iff_ne, ne_eq, beq_eq_false_iff_ne, bne_eq_false_iff_eq] at *) <;> (try omega)); done)
      · ((try simp only [decide_eq_true_eq, decide_eq_false_iff_not, beq_iff_eq, bne_iff_ne, ne_eq, beq_eq_false_iff_ne, bne_eq_false_iff_eq] at *) <;> (try omega))
        have hbig : 9223372036854775807 < decV l := by
          have := decV_take l (j + 1); omega
        rw [wholeR, if_neg (by omega)]
        simp only [evS, tyS, Bool.not_true, Bool.not_false, Nat.reduceAdd, Nat.reduceSub, Nat.reduceMul, Nat.reduceLT, Nat.reduceLeDiff, Nat.reduceEqDiff, reduceCtorEq, List.reduceReplicate, Int.reduceToNat, Int.reduceLE, Int.reduceLT]
      · ((try simp only [decide_eq_true_eq, decide_eq_false_iff_not, beq_iff_eq, bne_iff_ne, ne_eq, beq_eq_false_iff_ne, bne_eq_false_iff_eq] at *) <;> (try omega))
        have hle : 10 * decV (l.take j) + (atL l j - 48) ≤ 9223372036854775807 := by omega
        have e5 : IntKind.u64.wrap (10 * (decV (l.take j) : Int)) = ((10 * decV (l.take j) : Nat) : Int) := by rw [u64w] <;> omega
        have e6 : IntKind.u64.wrap (((10 * decV (l.take j) : Nat) : Int) + ((atL l j - 48 : Nat) : Int)) = ((decV (l.take (j + 1)) : Nat) : Int) := by rw [hsn, u64w] <;> omega
        refine loopC.intro (j + 1) ⟨by omega, by omega⟩ ?_ (by omega)
        simp only [ej, e5, e6, evS, tyS, Bool.not_true, Bool.not_false, Nat.reduceAdd, Nat.reduceSub, Nat.reduceMul, Nat.reduceLT, Nat.reduceLeDiff, Nat.reduceEqDiff, reduceCtorEq, List.reduceReplicate, Int.reduceToNat, Int.reduceLE, Int.reduceLT]
    · have hjn : j = l.length := by omega
      have et : l.take j = l := by rw [hjn, List.take_length]
      rw [et] at hj ⊢
      have ef : ((j : Int) < l.length) = False := by simp; omega
      have e7 : IntKind.i64.wrap ((decV l : Nat) : Int) = ((decV l : Nat) : Int) := by rw [i64w] <;> omega
      simp only [evS, tyS, Bool.not_true, Bool.not_false, Nat.reduceAdd, Nat.reduceSub, Nat.reduceMul, Nat.reduceLT, Nat.reduceLeDiff, Nat.reduceEqDiff, reduceCtorEq, List.reduceReplicate, Int.reduceToNat, Int.reduceLE, Int.reduceLT]
      (repeat' (first | (with_reducible refine And.intro ?_ ?_) | ((first | refine GuardK.intro_f (fun h => ?_) (fun h => ?_) | refine GuardK.intro_t (fun h => ?_) (fun h => ?_) | refine CondK.intro (fun h => ?_) (fun h => ?_) | refine PickK.intro (fun h => ?_) (fun h => ?_)) <;> simp only [h, evS, tyS, Bool.not_true, Bool.not_false, Nat.reduceAdd, Nat.reduceSub, Nat.reduceMul, Nat.reduceLT, Nat.reduceLeDiff, Nat.reduceEqDiff, reduceCtorEq, List.reduceReplicate, Int.reduceToNat, Int.reduceLE, Int.reduceLT]) | (refine DrawK.intro (by kernel_rfl) (by kernel_rfl) ?_; simp only [evS, tyS, Bool.not_true, Bool.not_false, Nat.reduceAdd, Nat.reduceSub, Nat.reduceMul, Nat.reduceLT, Nat.reduceLeDiff, Nat.reduceEqDiff, reduceCtorEq, List.reduceReplicate, Int.reduceToNat, Int.reduceLE, Int.reduceLT])))
      all_goals try (((try simp only [decide_eq_true_eq, decide_eq_false_iff_not, beq_iff_eq, bne_iff_ne, ne_eq, beq_eq_false_iff_ne, bne_eq_false_iff_eq] at *) <;> (try omega)); done)
      rw [wholeR, if_pos hj.2]
      simp only [e7, evS, tyS, Bool.not_true, Bool.not_false, Nat.reduceAdd, Nat.reduceSub, Nat.reduceMul, Nat.reduceLT, Nat.reduceLeDiff, Nat.reduceEqDiff, reduceCtorEq, List.reduceReplicate, Int.reduceToNat, Int.reduceLE, Int.reduceLT]
end Go.Proofs.YtplnhipgifcafaaDoor
namespace Go.Proofs.YtplnhipgifcafaaDoor
set_option linter.all false
open Go Go.Ev
variable {γ : List (Nat × AV)}
def headF (l : List UInt8) (i : Nat) : Nat := if atL l (i + 1) = 45 then 2 else 1
def spanN (l : List UInt8) (i : Nat) : Nat := spanEnd digitN l i - i
def endF (l : List UInt8) (i : Nat) : Nat × Nat :=
  if atL l i ≠ 112 then (0, 0)
  else if spanN l (i + headF l i) = 0 then (0, 0)
  else (headF l i + spanN l (i + headF l i), headF l i)
theorem atL_out {l : List UInt8} {i : Nat} (h : l.length ≤ i) : atL l i = 0 := by
  simp only [atL, List.getD]; rw [List.getElem?_eq_none (by omega)]; rfl
theorem spanN_le (l : List UInt8) (i : Nat) : spanN l i ≤ l.length := by
  unfold spanN
  by_cases h : i ≤ l.length
  · have := spanEnd_le (p := digitN) h; omega
  · rw [spanEnd_stop (by omega)]; omega
theorem b64' : bodyT Tryd.prog 64 := b64
set_option maxRecDepth 20000 in
theorem refEnd_ev (b : Bool) (l : List UInt8) (i : Nat) (hl : l.length ≤ 140737488351232) (hi : i ≤ l.length) : Ev Tryd.prog γ 65 [.sl b l.length l.length (l.map byteC), .v (.int .i64 i)] (.tup [.v (.int .i64 (endF l i).1), .v (.int .i64 (endF l i).2)]) := by
  refine Ev.of Tryd.func65 rfl ?_
  have ea : ∀ j, (l.getD j 0).toNat = atL l j := fun _ => rfl
  have e1 : IntKind.i64.wrap ((i : Int) + 1) = ((i + 1 : Nat) : Int) := by rw [i64w] <;> omega
  have e2 : IntKind.i64.wrap ((i : Int) + 2) = ((i + 2 : Nat) : Int) := by rw [i64w] <;> omega
  have ho := atL_out (l := l) (i := i)
  have ho1 := atL_out (l := l) (i := i + 1)
  have c1 := refDigits_ev (γ := γ) b l (i + 1) hl (by omega)
  have c2 := refDigits_ev (γ := γ) b l (i + 2) hl (by omega)
  have s1 := spanN_le l (i + 1)
  have s2 := spanN_le l (i + 2)
  have w1 : IntKind.i64.wrap (1 + ((spanN l (i + 1) : Nat) : Int)) = ((1 + spanN l (i + 1) : Nat) : Int) := by rw [i64w] <;> omega
  have w2 : IntKind.i64.wrap (2 + ((spanN l (i + 2) : Nat) : Int)) = ((2 + spanN l (i + 2) : Nat) : Int) := by rw [i64w] <;> omega
  simp only [Tryd.f65, e1, ea, evS, tyS, Bool.not_true, Bool.not_false, Nat.reduceAdd, Nat.reduceSub, Nat.reduceMul, Nat.reduceLT, Nat.reduceLeDiff, Nat.reduceEqDiff, reduceCtorEq, List.reduceReplicate, Int.reduceToNat, Int.reduceLE, Int.reduceLT]
  (repeat' (first | (with_reducible refine And.intro ?_ ?_) | ((first | refine GuardK.intro_f (fun h => ?_) (fun h => ?_) | refine GuardK.intro_t (fun h => ?_) (fun h => ?_) | refine CondK.intro (fun h => ?_) (fun h => ?_) | refine PickK.intro (fun h => ?_) (fun h => ?_)) <;> simp only [h, e1, e2, ea, evS, tyS, Bool.not_true, Bool.not_false, Nat.reduceAdd, Nat.reduceSub, Nat.reduceMul, Nat.reduceLT, Nat.reduceLeDiff, Nat.reduceEqDiff, reduceCtorEq, List.reduceReplicate, Int.reduceToNat, Int.reduceLE, Int.reduceLT]) | (refine DrawK.intro (by kernel_rfl) (by kernel_rfl) ?_; simp only [e1, e2, ea, evS, tyS, Bool.not_true, Bool.not_false, Nat.reduceAdd, Nat.reduceSub, Nat.reduceMul, Nat.reduceLT, Nat.reduceLeDiff, Nat.reduceEqDiff, reduceCtorEq, List.reduceReplicate, Int.reduceToNat, Int.reduceLE, Int.reduceLT])))
  all_goals try (((try simp only [decide_eq_true_eq, decide_eq_false_iff_not, beq_iff_eq, bne_iff_ne, ne_eq, beq_eq_false_iff_ne, bne_eq_false_iff_eq] at *) <;> (try omega)); done)
  · ((try simp only [decide_eq_true_eq, decide_eq_false_iff_not, beq_iff_eq, bne_iff_ne, ne_eq, beq_eq_false_iff_ne, bne_eq_false_iff_eq] at *) <;> (try omega)); rw [endF, if_pos (by omega)]; rfl
  · ((try simp only [decide_eq_true_eq, decide_eq_false_iff_not, beq_iff_eq, bne_iff_ne, ne_eq, beq_eq_false_iff_ne, bne_eq_false_iff_eq] at *) <;> (try omega)); rw [endF, if_pos (by omega)]; rfl
  · ((try simp only [decide_eq_true_eq, decide_eq_false_iff_not, beq_iff_eq, bne_iff_ne, ne_eq, beq_eq_false_iff_ne, bne_eq_false_iff_eq] at *) <;> (try omega))
    have hh : headF l i = 2 := by unfold headF; rw [if_pos (by omega)]
    refine CallK.intro b64 (by simp only [treeL, treeA, Bool.and_self]) c2 ?_
    rw [show spanEnd digitN l (i + 2) - (i + 2) = spanN l (i + 2) from rfl]
    simp only [evS, tyS, Bool.not_true, Bool.not_false, Nat.reduceAdd, Nat.reduceSub, Nat.reduceMul, Nat.reduceLT, Nat.reduceLeDiff, Nat.reduceEqDiff, reduceCtorEq, List.reduceReplicate, Int.reduceToNat, Int.reduceLE, Int.reduceLT]
    refine CondK.intro (fun h => ?_) (fun h => ?_)
    · simp only [h, evS, tyS, Bool.not_true, Bool.not_false, Nat.reduceAdd, Nat.reduceSub, Nat.reduceMul, Nat.reduceLT, Nat.reduceLeDiff, Nat.reduceEqDiff, reduceCtorEq, List.reduceReplicate, Int.reduceToNat, Int.reduceLE, Int.reduceLT]
      ((try simp only [decide_eq_true_eq, decide_eq_false_iff_not, beq_iff_eq, bne_iff_ne, ne_eq, beq_eq_false_iff_ne, bne_eq_false_iff_eq] at *) <;> (try omega))
      rw [endF, if_neg (by omega), hh, if_pos (by omega)]
      simp only [evS, tyS, Bool.not_true, Bool.not_false, Nat.reduceAdd, Nat.reduceSub, Nat.reduceMul, Nat.reduceLT, Nat.reduceLeDiff, Nat.reduceEqDiff, reduceCtorEq, List.reduceReplicate, Int.reduceToNat, Int.reduceLE, Int.reduceLT]
      (repeat' (first | (with_reducible refine And.intro ?_ ?_) | ((first | refine GuardK.intro_f (fun h => ?_) (fun h => ?_) | refine GuardK.intro_t (fun h => ?_) (fun h => ?_) | refine CondK.intro (fun h => ?_) (fun h => ?_) | refine PickK.intro (fun h => ?_) (fun h => ?_)) <;> simp only [h, evS, tyS, Bool.not_true, Bool.not_false, Nat.reduceAdd, Nat.reduceSub, Nat.reduceMul, Nat.reduceLT, Nat.reduceLeDiff, Nat.reduceEqDiff, reduceCtorEq, List.reduceReplicate, Int.reduceToNat, Int.reduceLE, Int.reduceLT]) | (refine DrawK.intro (by kernel_rfl) (by kernel_rfl) ?_; simp only [evS, tyS, Bool.not_true, Bool.not_false, Nat.reduceAdd, Nat.reduceSub, Nat.reduceMul, Nat.reduceLT, Nat.reduceLeDiff, Nat.reduceEqDiff, reduceCtorEq, List.reduceReplicate, Int.reduceToNat, Int.reduceLE, Int.reduceLT])))
      all_goals rfl
    · simp only [h, w2, evS, tyS, Bool.not_true, Bool.not_false, Nat.reduceAdd, Nat.reduceSub, Nat.reduceMul, Nat.reduceLT, Nat.reduceLeDiff, Nat.reduceEqDiff, reduceCtorEq, List.reduceReplicate, Int.reduceToNat, Int.reduceLE, Int.reduceLT]
      ((try simp only [decide_eq_true_eq, decide_eq_false_iff_not, beq_iff_eq, bne_iff_ne, ne_eq, beq_eq_false_iff_ne, bne_eq_false_iff_eq] at *) <;> (try omega))
      rw [endF, if_neg (by omega), hh, if_neg (by omega)]
      (repeat' (first | (with_reducible refine And.intro ?_ ?_) | ((first | refine GuardK.intro_f (fun h => ?_) (fun h => ?_) | refine GuardK.intro_t (fun h => ?_) (fun h => ?_) | refine CondK.intro (fun h => ?_) (fun h => ?_) | refine PickK.intro (fun h => ?_) (fun h => ?_)) <;> simp only [h, evS, tyS, Bool.not_true, Bool.not_false, Nat.reduceAdd, Nat.reduceSub, Nat.reduceMul, Nat.reduceLT, Nat.reduceLeDiff, Nat.reduceEqDiff, reduceCtorEq, List.reduceReplicate, Int.reduceToNat, Int.reduceLE, Int.reduceLT]) | (refine DrawK.intro (by kernel_rfl) (by kernel_rfl) ?_; simp only [evS, tyS, Bool.not_true, Bool.not_false, Nat.reduceAdd, Nat.reduceSub, Nat.reduceMul, Nat.reduceLT, Nat.reduceLeDiff, Nat.reduceEqDiff, reduceCtorEq, List.reduceReplicate, Int.reduceToNat, Int.reduceLE, Int.reduceLT])))
      all_goals rfl
  · ((try simp only [decide_eq_true_eq, decide_eq_false_iff_not, beq_iff_eq, bne_iff_ne, ne_eq, beq_eq_false_iff_ne, bne_eq_false_iff_eq] at *) <;> (try omega))
    have hh : headF l i = 1 := by unfold headF; rw [if_neg (by omega)]
    refine CallK.intro b64 (by simp only [treeL, treeA, Bool.and_self]) c1 ?_
    rw [show spanEnd digitN l (i + 1) - (i + 1) = spanN l (i + 1) from rfl]
    simp only [evS, tyS, Bool.not_true, Bool.not_false, Nat.reduceAdd, Nat.reduceSub, Nat.reduceMul, Nat.reduceLT, Nat.reduceLeDiff, Nat.reduceEqDiff, reduceCtorEq, List.reduceReplicate, Int.reduceToNat, Int.reduceLE, Int.reduceLT]
    refine CondK.intro (fun h => ?_) (fun h => ?_)
    · simp only [h, evS, tyS, Bool.not_true, Bool.not_false, Nat.reduceAdd, Nat.reduceSub, Nat.reduceMul, Nat.reduceLT, Nat.reduceLeDiff, Nat.reduceEqDiff, reduceCtorEq, List.reduceReplicate, Int.reduceToNat, Int.reduceLE, Int.reduceLT]
      ((try simp only [decide_eq_true_eq, decide_eq_false_iff_not, beq_iff_eq, bne_iff_ne, ne_eq, beq_eq_false_iff_ne, bne_eq_false_iff_eq] at *) <;> (try omega))
      rw [endF, if_neg (by omega), hh, if_pos (by omega)]
      simp only [evS, tyS, Bool.not_true, Bool.not_false, Nat.reduceAdd, Nat.reduceSub, Nat.reduceMul, Nat.reduceLT, Nat.reduceLeDiff, Nat.reduceEqDiff, reduceCtorEq, List.reduceReplicate, Int.reduceToNat, Int.reduceLE, Int.reduceLT]
      (repeat' (first | (with_reducible refine And.intro ?_ ?_) | ((first | refine GuardK.intro_f (fun h => ?_) (fun h => ?_) | refine GuardK.intro_t (fun h => ?_) (fun h => ?_) | refine CondK.intro (fun h => ?_) (fun h => ?_) | refine PickK.intro (fun h => ?_) (fun h => ?_)) <;> simp only [h, evS, tyS, Bool.not_true, Bool.not_false, Nat.reduceAdd, Nat.reduceSub, Nat.reduceMul, Nat.reduceLT, Nat.reduceLeDiff, Nat.reduceEqDiff, reduceCtorEq, List.reduceReplicate, Int.reduceToNat, Int.reduceLE, Int.reduceLT]) | (refine DrawK.intro (by kernel_rfl) (by kernel_rfl) ?_; simp only [evS, tyS, Bool.not_true, Bool.not_false, Nat.reduceAdd, Nat.reduceSub, Nat.reduceMul, Nat.reduceLT, Nat.reduceLeDiff, Nat.reduceEqDiff, reduceCtorEq, List.reduceReplicate, Int.reduceToNat, Int.reduceLE, Int.reduceLT])))
      all_goals rfl
    · simp only [h, w1, evS, tyS, Bool.not_true, Bool.not_false, Nat.reduceAdd, Nat.reduceSub, Nat.reduceMul, Nat.reduceLT, Nat.reduceLeDiff, Nat.reduceEqDiff, reduceCtorEq, List.reduceReplicate, Int.reduceToNat, Int.reduceLE, Int.reduceLT]
      ((try simp only [decide_eq_true_eq, decide_eq_false_iff_not, beq_iff_eq, bne_iff_ne, ne_eq, beq_eq_false_iff_ne, bne_eq_false_iff_eq] at *) <;> (try omega))
      rw [endF, if_neg (by omega), hh, if_neg (by omega)]
      (repeat' (first | (with_reducible refine And.intro ?_ ?_) | ((first | refine GuardK.intro_f (fun h => ?_) (fun h => ?_) | refine GuardK.intro_t (fun h => ?_) (fun h => ?_) | refine CondK.intro (fun h => ?_) (fun h => ?_) | refine PickK.intro (fun h => ?_) (fun h => ?_)) <;> simp only [h, evS, tyS, Bool.not_true, Bool.not_false, Nat.reduceAdd, Nat.reduceSub, Nat.reduceMul, Nat.reduceLT, Nat.reduceLeDiff, Nat.reduceEqDiff, reduceCtorEq, List.reduceReplicate, Int.reduceToNat, Int.reduceLE, Int.reduceLT]) | (refine DrawK.intro (by kernel_rfl) (by kernel_rfl) ?_; simp only [evS, tyS, Bool.not_true, Bool.not_false, Nat.reduceAdd, Nat.reduceSub, Nat.reduceMul, Nat.reduceLT, Nat.reduceLeDiff, Nat.reduceEqDiff, reduceCtorEq, List.reduceReplicate, Int.reduceToNat, Int.reduceLE, Int.reduceLT])))
      all_goals rfl
  · ((try simp only [decide_eq_true_eq, decide_eq_false_iff_not, beq_iff_eq, bne_iff_ne, ne_eq, beq_eq_false_iff_ne, bne_eq_false_iff_eq] at *) <;> (try omega))
    have hh : headF l i = 1 := by unfold headF; rw [if_neg (by omega)]
    refine CallK.intro b64 (by simp only [treeL, treeA, Bool.and_self]) c1 ?_
    rw [show spanEnd digitN l (i + 1) - (i + 1) = spanN l (i + 1) from rfl]
    simp only [evS, tyS, Bool.not_true, Bool.not_false, Nat.reduceAdd, Nat.reduceSub, Nat.reduceMul, Nat.reduceLT, Nat.reduceLeDiff, Nat.reduceEqDiff, reduceCtorEq, List.reduceReplicate, Int.reduceToNat, Int.reduceLE, Int.reduceLT]
    refine CondK.intro (fun h => ?_) (fun h => ?_)
    · simp only [h, evS, tyS, Bool.not_true, Bool.not_false, Nat.reduceAdd, Nat.reduceSub, Nat.reduceMul, Nat.reduceLT, Nat.reduceLeDiff, Nat.reduceEqDiff, reduceCtorEq, List.reduceReplicate, Int.reduceToNat, Int.reduceLE, Int.reduceLT]
      ((try simp only [decide_eq_true_eq, decide_eq_false_iff_not, beq_iff_eq, bne_iff_ne, ne_eq, beq_eq_false_iff_ne, bne_eq_false_iff_eq] at *) <;> (try omega))
      rw [endF, if_neg (by omega), hh, if_pos (by omega)]
      simp only [evS, tyS, Bool.not_true, Bool.not_false, Nat.reduceAdd, Nat.reduceSub, Nat.reduceMul, Nat.reduceLT, Nat.reduceLeDiff, Nat.reduceEqDiff, reduceCtorEq, List.reduceReplicate, Int.reduceToNat, Int.reduceLE, Int.reduceLT]
      (repeat' (first | (with_reducible refine And.intro ?_ ?_) | ((first | refine GuardK.intro_f (fun h => ?_) (fun h => ?_) | refine GuardK.intro_t (fun h => ?_) (fun h => ?_) | refine CondK.intro (fun h => ?_) (fun h => ?_) | refine PickK.intro (fun h => ?_) (fun h => ?_)) <;> simp only [h, evS, tyS, Bool.not_true, Bool.not_false, Nat.reduceAdd, Nat.reduceSub, Nat.reduceMul, Nat.reduceLT, Nat.reduceLeDiff, Nat.reduceEqDiff, reduceCtorEq, List.reduceReplicate, Int.reduceToNat, Int.reduceLE, Int.reduceLT]) | (refine DrawK.intro (by kernel_rfl) (by kernel_rfl) ?_; simp only [evS, tyS, Bool.not_true, Bool.not_false, Nat.reduceAdd, Nat.reduceSub, Nat.reduceMul, Nat.reduceLT, Nat.reduceLeDiff, Nat.reduceEqDiff, reduceCtorEq, List.reduceReplicate, Int.reduceToNat, Int.reduceLE, Int.reduceLT])))
      all_goals rfl
    · simp only [h, w1, evS, tyS, Bool.not_true, Bool.not_false, Nat.reduceAdd, Nat.reduceSub, Nat.reduceMul, Nat.reduceLT, Nat.reduceLeDiff, Nat.reduceEqDiff, reduceCtorEq, List.reduceReplicate, Int.reduceToNat, Int.reduceLE, Int.reduceLT]
      ((try simp only [decide_eq_true_eq, decide_eq_false_iff_not, beq_iff_eq, bne_iff_ne, ne_eq, beq_eq_false_iff_ne, bne_eq_false_iff_eq] at *) <;> (try omega))
      rw [endF, if_neg (by omega), hh, if_neg (by omega)]
      (repeat' (first | (with_reducible refine And.intro ?_ ?_) | ((first | refine GuardK.intro_f (fun h => ?_) (fun h => ?_) | refine GuardK.intro_t (fun h => ?_) (fun h => ?_) | refine CondK.intro (fun h => ?_) (fun h => ?_) | refine PickK.intro (fun h => ?_) (fun h => ?_)) <;> simp only [h, evS, tyS, Bool.not_true, Bool.not_false, Nat.reduceAdd, Nat.reduceSub, Nat.reduceMul, Nat.reduceLT, Nat.reduceLeDiff, Nat.reduceEqDiff, reduceCtorEq, List.reduceReplicate, Int.reduceToNat, Int.reduceLE, Int.reduceLT]) | (refine DrawK.intro (by kernel_rfl) (by kernel_rfl) ?_; simp only [evS, tyS, Bool.not_true, Bool.not_false, Nat.reduceAdd, Nat.reduceSub, Nat.reduceMul, Nat.reduceLT, Nat.reduceLeDiff, Nat.reduceEqDiff, reduceCtorEq, List.reduceReplicate, Int.reduceToNat, Int.reduceLE, Int.reduceLT])))
      all_goals rfl
  · ((try simp only [decide_eq_true_eq, decide_eq_false_iff_not, beq_iff_eq, bne_iff_ne, ne_eq, beq_eq_false_iff_ne, bne_eq_false_iff_eq] at *) <;> (try omega)); rw [endF, if_pos (by omega)]; rfl
  · ((try simp only [decide_eq_true_eq, decide_eq_false_iff_not, beq_iff_eq, bne_iff_ne, ne_eq, beq_eq_false_iff_ne, bne_eq_false_iff_eq] at *) <;> (try omega)); rw [endF, if_pos (by omega)]; rfl
end Go.Proofs.YtplnhipgifcafaaDoor
namespace Go.Proofs.YtplnhipgifcafaaDoor
set_option linter.all false
open Go Go.Ev
variable {γ : List (Nat × AV)}
def blankN (n : Nat) : Bool := decide (n = 32 ∨ n = 9 ∨ n = 10 ∨ n = 13)
theorem refBlank_ev (n : Nat) : Ev Tryd.prog γ 28 [.v (.int .u8 n)] (.v (.bool (blankN n))) := by
  refine Ev.of Tryd.func28 rfl ?_
  simp only [Tryd.f28, evS, tyS, Bool.not_true, Bool.not_false, Nat.reduceAdd, Nat.reduceSub, Nat.reduceMul, Nat.reduceLT, Nat.reduceLeDiff, Nat.reduceEqDiff, reduceCtorEq, List.reduceReplicate, Int.reduceToNat, Int.reduceLE, Int.reduceLT]
  (repeat' (first | (with_reducible refine And.intro ?_ ?_) | ((first | refine GuardK.intro_f (fun h => ?_) (fun h => ?_) | refine GuardK.intro_t (fun h => ?_) (fun h => ?_) | refine CondK.intro (fun h => ?_) (fun h => ?_) | refine PickK.intro (fun h => ?_) (fun h => ?_)) <;> simp only [h, evS, tyS, Bool.not_true, Bool.not_false, Nat.reduceAdd, Nat.reduceSub, Nat.reduceMul, Nat.reduceLT, Nat.reduceLeDiff, Nat.reduceEqDiff, reduceCtorEq, List.reduceReplicate, Int.reduceToNat, Int.reduceLE, Int.reduceLT]) | (refine DrawK.intro (by kernel_rfl) (by kernel_rfl) ?_; simp only [evS, tyS, Bool.not_true, Bool.not_false, Nat.reduceAdd, Nat.reduceSub, Nat.reduceMul, Nat.reduceLT, Nat.reduceLeDiff, Nat.reduceEqDiff, reduceCtorEq, List.reduceReplicate, Int.reduceToNat, Int.reduceLE, Int.reduceLT])))
  all_goals (((try simp only [decide_eq_true_eq, decide_eq_false_iff_not, beq_iff_eq, bne_iff_ne, ne_eq, beq_eq_false_iff_ne, bne_eq_false_iff_eq] at *) <;> (try omega)) <;> simp only [blankN, AV.v.injEq, Value.bool.injEq] <;> first | exact (decide_eq_true (by omega)).symm | exact (decide_eq_false (by omega)).symm | (rw [Bool.eq_iff_iff]; simp; omega))
theorem b67 : bodyT Tryd.prog 67 := ⟨_, Tryd.func67, by kernel_rfl, by kernel_rfl⟩
theorem b65 : bodyT Tryd.prog 65 := ⟨_, Tryd.func65, by kernel_rfl, by kernel_rfl⟩
theorem b43 : bodyT Tryd.prog 43 := ⟨_, Tryd.func43, by kernel_rfl, by kernel_rfl⟩
theorem b44 : bodyT Tryd.prog 44 := ⟨_, Tryd.func44, by kernel_rfl, by kernel_rfl⟩
theorem b42 : bodyT Tryd.prog 42 := ⟨_, Tryd.func42, by kernel_rfl, by kernel_rfl⟩
theorem b66 : bodyT Tryd.prog 66 := ⟨_, Tryd.func66, by kernel_rfl, by kernel_rfl⟩
theorem b98 : bodyT Tryd.prog 98 := ⟨_, Tryd.func98, by kernel_rfl, by kernel_rfl⟩
theorem b29 : bodyT Tryd.prog 29 := ⟨_, Tryd.func29, by kernel_rfl, by kernel_rfl⟩
theorem b46 : bodyT Tryd.prog 46 := ⟨_, Tryd.func46, by kernel_rfl, by kernel_rfl⟩
theorem b48 : bodyT Tryd.prog 48 := ⟨_, Tryd.func48, by kernel_rfl, by kernel_rfl⟩
theorem b49 : bodyT Tryd.prog 49 := ⟨_, Tryd.func49, by kernel_rfl, by kernel_rfl⟩
theorem b50 : bodyT Tryd.prog 50 := ⟨_, Tryd.func50, by kernel_rfl, by kernel_rfl⟩
theorem b72 : bodyT Tryd.prog 72 := ⟨_, Tryd.func72, by kernel_rfl, by kernel_rfl⟩
theorem b73 : bodyT Tryd.prog 73 := ⟨_, Tryd.func73, by kernel_rfl, by kernel_rfl⟩
theorem b31 : bodyT Tryd.prog 31 := ⟨_, Tryd.func31, by kernel_rfl, by kernel_rfl⟩
end Go.Proofs.YtplnhipgifcafaaDoor
namespace Go.Proofs.YtplnhipgifcafaaDoor
set_option linter.all false
open Go Go.Ev
variable {γ : List (Nat × AV)}
/-- ref.power, where f tells the steps. -/
theorem refPower_ev (m : Int) (x : Nat) (below : Bool) (f : Nat → Nat) (hx : x ≤ 4611686018427387904) (h0 : FloatKind.f64.nearest m = f 0)
    (hs : ∀ j, j < x → (if below = true then FloatKind.f64.format.div (f j) 4611686018427387904 else FloatKind.f64.format.mul (f j) 4611686018427387904) = some (f (j + 1))) :
    Ev Tryd.prog γ 98 [.v (.int .i64 m), .v (.int .i64 x), .v (.bool below)] (.v (.float .f64 (f x))) := by
  refine Ev.of Tryd.func98 rfl ?_
  simp only [Tryd.f98, h0, evS, tyS, Bool.not_true, Bool.not_false, Nat.reduceAdd, Nat.reduceSub, Nat.reduceMul, Nat.reduceLT, Nat.reduceLeDiff, Nat.reduceEqDiff, reduceCtorEq, List.reduceReplicate, Int.reduceToNat, Int.reduceLE, Int.reduceLT]
  refine LoopK.intro (fun j : Nat => ⟨⟨22, [(1, .v (.int .i64 x)), (2, .v (.bool below)), (7, .v (.float .f64 (f j))), (8, .v (.int .i64 j))], γ⟩, []⟩) (fun j => j ≤ x) (fun j => x - j) 0 ?_ (Nat.zero_le _) (fun j hj => ?_)
  · simp only [evS, tyS, Bool.not_true, Bool.not_false, Nat.reduceAdd, Nat.reduceSub, Nat.reduceMul, Nat.reduceLT, Nat.reduceLeDiff, Nat.reduceEqDiff, reduceCtorEq, List.reduceReplicate, Int.reduceToNat, Int.reduceLE, Int.reduceLT]
    (repeat' (first | (with_reducible refine And.intro ?_ ?_) | ((first | refine GuardK.intro_f (fun h => ?_) (fun h => ?_) | refine GuardK.intro_t (fun h => ?_) (fun h => ?_) | refine CondK.intro (fun h => ?_) (fun h => ?_) | refine PickK.intro (fun h => ?_) (fun h => ?_)) <;> simp only [h, evS, tyS, Bool.not_true, Bool.not_false, Nat.reduceAdd, Nat.reduceSub, Nat.reduceMul, Nat.reduceLT, Nat.reduceLeDiff, Nat.reduceEqDiff, reduceCtorEq, List.reduceReplicate, Int.reduceToNat, Int.reduceLE, Int.reduceLT]) | (refine DrawK.intro (by kernel_rfl) (by kernel_rfl) ?_; simp only [evS, tyS, Bool.not_true, Bool.not_false, Nat.reduceAdd, Nat.reduceSub, Nat.reduceMul, Nat.reduceLT, Nat.reduceLeDiff, Nat.reduceEqDiff, reduceCtorEq, List.reduceReplicate, Int.reduceToNat, Int.reduceLE, Int.reduceLT])))
    all_goals rfl
  · have ej : IntKind.i64.wrap ((j : Int) + 1) = ((j + 1 : Nat) : Int) := by rw [i64w] <;> omega
    simp only [evS, tyS, Bool.not_true, Bool.not_false, Nat.reduceAdd, Nat.reduceSub, Nat.reduceMul, Nat.reduceLT, Nat.reduceLeDiff, Nat.reduceEqDiff, reduceCtorEq, List.reduceReplicate, Int.reduceToNat, Int.reduceLE, Int.reduceLT]
    refine CondK.intro (fun h => ?_) (fun h => ?_) <;> simp only [h, evS, tyS, Bool.not_true, Bool.not_false, Nat.reduceAdd, Nat.reduceSub, Nat.reduceMul, Nat.reduceLT, Nat.reduceLeDiff, Nat.reduceEqDiff, reduceCtorEq, List.reduceReplicate, Int.reduceToNat, Int.reduceLE, Int.reduceLT]
    · have hjx : j < x := by ((try simp only [decide_eq_true_eq, decide_eq_false_iff_not, beq_iff_eq, bne_iff_ne, ne_eq, beq_eq_false_iff_ne, bne_eq_false_iff_eq] at *) <;> (try omega))
      have hsj := hs j hjx
      refine CondK.intro (fun hb => ?_) (fun hb => ?_)
      · rw [if_pos hb] at hsj
        simp only [hb, hsj, fltRes, ej, evS, tyS, Bool.not_true, Bool.not_false, Nat.reduceAdd, Nat.reduceSub, Nat.reduceMul, Nat.reduceLT, Nat.reduceLeDiff, Nat.reduceEqDiff, reduceCtorEq, List.reduceReplicate, Int.reduceToNat, Int.reduceLE, Int.reduceLT]
        refine loopC.intro (j + 1) (by omega) ?_ (by omega)
        simp only [hb, evS, tyS, Bool.not_true, Bool.not_false, Nat.reduceAdd, Nat.reduceSub, Nat.reduceMul, Nat.reduceLT, Nat.reduceLeDiff, Nat.reduceEqDiff, reduceCtorEq, List.reduceReplicate, Int.reduceToNat, Int.reduceLE, Int.reduceLT]
      · rw [if_neg (by simp [hb])] at hsj
        simp only [hb, hsj, fltRes, ej, evS, tyS, Bool.not_true, Bool.not_false, Nat.reduceAdd, Nat.reduceSub, Nat.reduceMul, Nat.reduceLT, Nat.reduceLeDiff, Nat.reduceEqDiff, reduceCtorEq, List.reduceReplicate, Int.reduceToNat, Int.reduceLE, Int.reduceLT]
        refine loopC.intro (j + 1) (by omega) ?_ (by omega)
        simp only [hb, evS, tyS, Bool.not_true, Bool.not_false, Nat.reduceAdd, Nat.reduceSub, Nat.reduceMul, Nat.reduceLT, Nat.reduceLeDiff, Nat.reduceEqDiff, reduceCtorEq, List.reduceReplicate, Int.reduceToNat, Int.reduceLE, Int.reduceLT]
    · have hjx : j = x := by ((try simp only [decide_eq_true_eq, decide_eq_false_iff_not, beq_iff_eq, bne_iff_ne, ne_eq, beq_eq_false_iff_ne, bne_eq_false_iff_eq] at *) <;> (try omega))
      rw [hjx]
end Go.Proofs.YtplnhipgifcafaaDoor
namespace Go.Proofs.YtplnhipgifcafaaDoor
set_option linter.all false
open Go Go.Ev
variable {γ : List (Nat × AV)}
theorem tyP : fltT Tryd.prog 51 = none ∧
    ifcT Tryd.prog 133 = some false ∧
    ifcT Tryd.prog 134 = some false ∧
    ifcT Tryd.prog 93 = some true ∧
    intT Tryd.prog 51 = some .u64 ∧
    strT Tryd.prog 51 = false ∧
    (Tryd.prog.underlying 9).isSome = true :=
  ⟨by kernel_rfl, by kernel_rfl, by kernel_rfl, by kernel_rfl, by kernel_rfl, by kernel_rfl, by kernel_rfl⟩
theorem tyQ : intT Tryd.prog 133 = some .i64 ∧ cmpT Tryd.prog 133 = some true := by
  refine ⟨?_, ?_⟩ <;> kernel_rfl
def uintR (l : List UInt8) : AV := if decV l < 18446744073709551616 then .tup [.v (.int .u64 (decV l)), .v .nilIface] else .tup [.v (.int .u64 18446744073709551615), .ifc 133 (.v (.int .i64 1))]
set_option maxHeartbeats 2000000 in
set_option maxRecDepth 20000 in
theorem parseUint_ev (l : List UInt8) (h1 : 1 ≤ l.length) (hl : l.length ≤ 140737488351232) (hd : ∀ j, j < l.length → digitN (atL l j) = true) :
    Ev Tryd.prog γ 109 [.v (.string ⟨l.toArray⟩), .v (.int .i64 10), .v (.int .i64 64)] (uintR l) := by
  refine Ev.of Tryd.func109 rfl ?_
  have hne : (l == ([] : List UInt8)) = false := by
    cases l with
    | nil => simp at h1
    | cons => rfl
  have w64 : IntKind.u64.wrap 64 = 64 := by rw [u64w] <;> omega
  have wsh : IntKind.u64.wrap (1 * 2 ^ min (Int.toNat 64) IntKind.u64.bits) = 0 := by decide
  have wsh' : IntKind.u64.wrap (1 * 2 ^ min 64 IntKind.u64.bits) = 0 := by decide
  have wm1 : IntKind.u64.wrap (0 - 1) = 18446744073709551615 := by decide
  have h100 : ((10 : Int) == 0) = false := by decide
  have h640 : ((64 : Int) == 0) = false := by decide
  simp only [Tryd.f109, tyP, tyQ, hne, w64, wsh, wsh', wm1, h100, h640, evS, tyS, Bool.not_true, Bool.not_false, Nat.reduceAdd, Nat.reduceSub, Nat.reduceMul, Nat.reduceLT, Nat.reduceLeDiff, Nat.reduceEqDiff, reduceCtorEq, List.reduceReplicate, Int.reduceToNat, Int.reduceLE, Int.reduceLT]
  (repeat' (first | (with_reducible refine And.intro ?_ ?_) | ((first | refine GuardK.intro_f (fun h => ?_) (fun h => ?_) | refine GuardK.intro_t (fun h => ?_) (fun h => ?_) | refine CondK.intro (fun h => ?_) (fun h => ?_) | refine PickK.intro (fun h => ?_) (fun h => ?_)) <;> simp only [h, tyP, tyQ, w64, wsh, wsh', wm1, h100, h640, evS, tyS, Bool.not_true, Bool.not_false, Nat.reduceAdd, Nat.reduceSub, Nat.reduceMul, Nat.reduceLT, Nat.reduceLeDiff, Nat.reduceEqDiff, reduceCtorEq, List.reduceReplicate, Int.reduceToNat, Int.reduceLE, Int.reduceLT]) | (refine DrawK.intro (by kernel_rfl) (by kernel_rfl) ?_; simp only [tyP, tyQ, w64, wsh, wsh', wm1, h100, h640, evS, tyS, Bool.not_true, Bool.not_false, Nat.reduceAdd, Nat.reduceSub, Nat.reduceMul, Nat.reduceLT, Nat.reduceLeDiff, Nat.reduceEqDiff, reduceCtorEq, List.reduceReplicate, Int.reduceToNat, Int.reduceLE, Int.reduceLT])))
  all_goals try (((try simp only [decide_eq_true_eq, decide_eq_false_iff_not, beq_iff_eq, bne_iff_ne, ne_eq, beq_eq_false_iff_ne, bne_eq_false_iff_eq] at *) <;> (try omega)); done)
  refine LoopK.intro (fun j : Nat => ⟨⟨172, [(101, .v (.int .i64 j)), (100, .v (.int .i64 l.length)), (99, .own 0 0 l.length), (13, .v (.int .u64 (decV (l.take j)))), (12, .v (.bool false)), (11, .v (.int .u64 18446744073709551615)), (10, .v (.int .u64 1844674407370955162)), (9, .v (.string ⟨l.toArray⟩)), (8, .v (.bool false)), (1, .v (.int .i64 10))], γ⟩, [⟨0, 5, l.map byteC⟩]⟩) (fun j => j ≤ l.length ∧ decV (l.take j) < 18446744073709551616) (fun j => l.length - j) 0 ?_ ⟨by omega, by simp [decV, decFrom]⟩ (fun j hj => ?_)
  · simp only [evS, tyS, Bool.not_true, Bool.not_false, Nat.reduceAdd, Nat.reduceSub, Nat.reduceMul, Nat.reduceLT, Nat.reduceLeDiff, Nat.reduceEqDiff, reduceCtorEq, List.reduceReplicate, Int.reduceToNat, Int.reduceLE, Int.reduceLT]
    (repeat' (first | (with_reducible refine And.intro ?_ ?_) | ((first | refine GuardK.intro_f (fun h => ?_) (fun h => ?_) | refine GuardK.intro_t (fun h => ?_) (fun h => ?_) | refine CondK.intro (fun h => ?_) (fun h => ?_) | refine PickK.intro (fun h => ?_) (fun h => ?_)) <;> simp only [h, evS, tyS, Bool.not_true, Bool.not_false, Nat.reduceAdd, Nat.reduceSub, Nat.reduceMul, Nat.reduceLT, Nat.reduceLeDiff, Nat.reduceEqDiff, reduceCtorEq, List.reduceReplicate, Int.reduceToNat, Int.reduceLE, Int.reduceLT]) | (refine DrawK.intro (by kernel_rfl) (by kernel_rfl) ?_; simp only [evS, tyS, Bool.not_true, Bool.not_false, Nat.reduceAdd, Nat.reduceSub, Nat.reduceMul, Nat.reduceLT, Nat.reduceLeDiff, Nat.reduceEqDiff, reduceCtorEq, List.reduceReplicate, Int.reduceToNat, Int.reduceLE, Int.reduceLT])))
    all_goals rfl
  · have ea : ∀ j, (l.getD j 0).toNat = atL l j := fun _ => rfl
    have ej : IntKind.i64.wrap ((j : Int) + 1) = ((j + 1 : Nat) : Int) := by rw [i64w] <;> omega
    have w10 : IntKind.u64.wrap 10 = 10 := by rw [u64w] <;> omega
    have v10 : IntKind.u8.wrap 10 = 10 := by rw [u8w] <;> omega
    by_cases hjl : j < l.length
    · have hdj : 48 ≤ atL l j ∧ atL l j ≤ 57 := by simpa [digitN] using hd j hjl
      have e1 : IntKind.u8.wrap ((atL l j : Int) - 48) = ((atL l j - 48 : Nat) : Int) := by rw [u8w] <;> omega
      have e2 : IntKind.u64.wrap ((atL l j - 48 : Nat) : Int) = ((atL l j - 48 : Nat) : Int) := by rw [u64w] <;> omega
      have hsn : decV (l.take (j + 1)) = 10 * decV (l.take j) + (atL l j - 48) := by rw [take_snoc hjl, decV_snoc]; rfl
      have hmo := decV_take l (j + 1)
      have h95 : ((atL l j : Int) == 95) = false := by simp; omega
      by_cases hc : decV (l.take j) < 1844674407370955162
      · have e5 : IntKind.u64.wrap ((decV (l.take j) : Int) * 10) = ((decV (l.take j) * 10 : Nat) : Int) := by rw [u64w] <;> omega
        by_cases ho : decV (l.take (j + 1)) < 18446744073709551616
        · have e6 : IntKind.u64.wrap (((decV (l.take j) * 10 : Nat) : Int) + ((atL l j - 48 : Nat) : Int)) = ((decV (l.take (j + 1)) : Nat) : Int) := by rw [u64w] <;> omega
          simp only [tyP, tyQ, ea, e1, e2, w10, v10, h95, e5, e6, evS, tyS, Bool.not_true, Bool.not_false, Nat.reduceAdd, Nat.reduceSub, Nat.reduceMul, Nat.reduceLT, Nat.reduceLeDiff, Nat.reduceEqDiff, reduceCtorEq, List.reduceReplicate, Int.reduceToNat, Int.reduceLE, Int.reduceLT]
          (repeat' (first | (with_reducible refine And.intro ?_ ?_) | ((first | refine GuardK.intro_f (fun h => ?_) (fun h => ?_) | refine GuardK.intro_t (fun h => ?_) (fun h => ?_) | refine CondK.intro (fun h => ?_) (fun h => ?_) | refine PickK.intro (fun h => ?_) (fun h => ?_)) <;> simp only [h, tyP, tyQ, ea, e1, e2, w10, v10, h95, e5, e6, evS, tyS, Bool.not_true, Bool.not_false, Nat.reduceAdd, Nat.reduceSub, Nat.reduceMul, Nat.reduceLT, Nat.reduceLeDiff, Nat.reduceEqDiff, reduceCtorEq, List.reduceReplicate, Int.reduceToNat, Int.reduceLE, Int.reduceLT]) | (refine DrawK.intro (by kernel_rfl) (by kernel_rfl) ?_; simp only [tyP, tyQ, ea, e1, e2, w10, v10, h95, e5, e6, evS, tyS, Bool.not_true, Bool.not_false, Nat.reduceAdd, Nat.reduceSub, Nat.reduceMul, Nat.reduceLT, Nat.reduceLeDiff, Nat.reduceEqDiff, reduceCtorEq, List.reduceReplicate, Int.reduceToNat, Int.reduceLE, Int.reduceLT])))
          all_goals try (((try simp only [decide_eq_true_eq, decide_eq_false_iff_not, beq_iff_eq, bne_iff_ne, ne_eq, beq_eq_false_iff_ne, bne_eq_false_iff_eq] at *) <;> (try omega)); done)
          refine loopC.intro (j + 1) ⟨by omega, ho⟩ ?_ (by omega)
          simp only [ej, evS, tyS, Bool.not_true, Bool.not_false, Nat.reduceAdd, Nat.reduceSub, Nat.reduceMul, Nat.reduceLT, Nat.reduceLeDiff, Nat.reduceEqDiff, reduceCtorEq, List.reduceReplicate, Int.reduceToNat, Int.reduceLE, Int.reduceLT]
          (repeat' (first | (with_reducible refine And.intro ?_ ?_) | ((first | refine GuardK.intro_f (fun h => ?_) (fun h => ?_) | refine GuardK.intro_t (fun h => ?_) (fun h => ?_) | refine CondK.intro (fun h => ?_) (fun h => ?_) | refine PickK.intro (fun h => ?_) (fun h => ?_)) <;> simp only [h, evS, tyS, Bool.not_true, Bool.not_false, Nat.reduceAdd, Nat.reduceSub, Nat.reduceMul, Nat.reduceLT, Nat.reduceLeDiff, Nat.reduceEqDiff, reduceCtorEq, List.reduceReplicate, Int.reduceToNat, Int.reduceLE, Int.reduceLT]) | (refine DrawK.intro (by kernel_rfl) (by kernel_rfl) ?_; simp only [evS, tyS, Bool.not_true, Bool.not_false, Nat.reduceAdd, Nat.reduceSub, Nat.reduceMul, Nat.reduceLT, Nat.reduceLeDiff, Nat.reduceEqDiff, reduceCtorEq, List.reduceReplicate, Int.reduceToNat, Int.reduceLE, Int.reduceLT])))
          all_goals rfl
        · have e6 : IntKind.u64.wrap (((decV (l.take j) * 10 : Nat) : Int) + ((atL l j - 48 : Nat) : Int)) = ((decV (l.take (j + 1)) - 18446744073709551616 : Nat) : Int) := by
            have : (((decV (l.take j) * 10 : Nat) : Int) + ((atL l j - 48 : Nat) : Int)) = ((decV (l.take (j + 1)) : Nat) : Int) := by omega
            rw [this]
            show ((decV (l.take (j + 1)) : Nat) : Int) % 18446744073709551616 = _
            omega
          simp only [tyP, tyQ, ea, e1, e2, w10, v10, h95, e5, e6, evS, tyS, Bool.not_true, Bool.not_false, Nat.reduceAdd, Nat.reduceSub, Nat.reduceMul, Nat.reduceLT, Nat.reduceLeDiff, Nat.reduceEqDiff, reduceCtorEq, List.reduceReplicate, Int.reduceToNat, Int.reduceLE, Int.reduceLT]
          (repeat' (first | (with_reducible refine And.intro ?_ ?_) | ((first | refine GuardK.intro_f (fun h => ?_) (fun h => ?_) | refine GuardK.intro_t (fun h => ?_) (fun h => ?_) | refine CondK.intro (fun h => ?_) (fun h => ?_) | refine PickK.intro (fun h => ?_) (fun h => ?_)) <;> simp only [h, tyP, tyQ, ea, e1, e2, w10, v10, h95, e5, e6, evS, tyS, Bool.not_true, Bool.not_false, Nat.reduceAdd, Nat.reduceSub, Nat.reduceMul, Nat.reduceLT, Nat.reduceLeDiff, Nat.reduceEqDiff, reduceCtorEq, List.reduceReplicate, Int.reduceToNat, Int.reduceLE, Int.reduceLT]) | (refine DrawK.intro (by kernel_rfl) (by kernel_rfl) ?_; simp only [tyP, tyQ, ea, e1, e2, w10, v10, h95, e5, e6, evS, tyS, Bool.not_true, Bool.not_false, Nat.reduceAdd, Nat.reduceSub, Nat.reduceMul, Nat.reduceLT, Nat.reduceLeDiff, Nat.reduceEqDiff, reduceCtorEq, List.reduceReplicate, Int.reduceToNat, Int.reduceLE, Int.reduceLT])))
          all_goals try (((try simp only [decide_eq_true_eq, decide_eq_false_iff_not, beq_iff_eq, bne_iff_ne, ne_eq, beq_eq_false_iff_ne, bne_eq_false_iff_eq] at *) <;> (try omega)); done)
          all_goals (rw [uintR, if_neg (by omega)]; simp only [evS, tyS, Bool.not_true, Bool.not_false, Nat.reduceAdd, Nat.reduceSub, Nat.reduceMul, Nat.reduceLT, Nat.reduceLeDiff, Nat.reduceEqDiff, reduceCtorEq, List.reduceReplicate, Int.reduceToNat, Int.reduceLE, Int.reduceLT])
      · simp only [tyP, tyQ, ea, e1, e2, w10, v10, h95, evS, tyS, Bool.not_true, Bool.not_false, Nat.reduceAdd, Nat.reduceSub, Nat.reduceMul, Nat.reduceLT, Nat.reduceLeDiff, Nat.reduceEqDiff, reduceCtorEq, List.reduceReplicate, Int.reduceToNat, Int.reduceLE, Int.reduceLT]
        (repeat' (first | (with_reducible refine And.intro ?_ ?_) | ((first | refine GuardK.intro_f (fun h => ?_) (fun h => ?_) | refine GuardK.intro_t (fun h => ?_) (fun h => ?_) | refine CondK.intro (fun h => ?_) (fun h => ?_) | refine PickK.intro (fun h => ?_) (fun h => ?_)) <;> simp only [h, tyP, tyQ, ea, e1, e2, w10, v10, h95, evS, tyS, Bool.not_true, Bool.not_false, Nat.reduceAdd, Nat.reduceSub, Nat.reduceMul, Nat.reduceLT, Nat.reduceLeDiff, Nat.reduceEqDiff, reduceCtorEq, List.reduceReplicate, Int.reduceToNat, Int.reduceLE, Int.reduceLT]) | (refine DrawK.intro (by kernel_rfl) (by kernel_rfl) ?_; simp only [tyP, tyQ, ea, e1, e2, w10, v10, h95, evS, tyS, Bool.not_true, Bool.not_false, Nat.reduceAdd, Nat.reduceSub, Nat.reduceMul, Nat.reduceLT, Nat.reduceLeDiff, Nat.reduceEqDiff, reduceCtorEq, List.reduceReplicate, Int.reduceToNat, Int.reduceLE, Int.reduceLT])))
        all_goals try (((try simp only [decide_eq_true_eq, decide_eq_false_iff_not, beq_iff_eq, bne_iff_ne, ne_eq, beq_eq_false_iff_ne, bne_eq_false_iff_eq] at *) <;> (try omega)); done)
        all_goals (rw [uintR, if_neg (by omega)]; simp only [evS, tyS, Bool.not_true, Bool.not_false, Nat.reduceAdd, Nat.reduceSub, Nat.reduceMul, Nat.reduceLT, Nat.reduceLeDiff, Nat.reduceEqDiff, reduceCtorEq, List.reduceReplicate, Int.reduceToNat, Int.reduceLE, Int.reduceLT])
    · have hjn : j = l.length := by omega
      have et : l.take j = l := by rw [hjn, List.take_length]
      rw [et] at hj ⊢
      simp only [evS, tyS, Bool.not_true, Bool.not_false, Nat.reduceAdd, Nat.reduceSub, Nat.reduceMul, Nat.reduceLT, Nat.reduceLeDiff, Nat.reduceEqDiff, reduceCtorEq, List.reduceReplicate, Int.reduceToNat, Int.reduceLE, Int.reduceLT]
      (repeat' (first | (with_reducible refine And.intro ?_ ?_) | ((first | refine GuardK.intro_f (fun h => ?_) (fun h => ?_) | refine GuardK.intro_t (fun h => ?_) (fun h => ?_) | refine CondK.intro (fun h => ?_) (fun h => ?_) | refine PickK.intro (fun h => ?_) (fun h => ?_)) <;> simp only [h, evS, tyS, Bool.not_true, Bool.not_false, Nat.reduceAdd, Nat.reduceSub, Nat.reduceMul, Nat.reduceLT, Nat.reduceLeDiff, Nat.reduceEqDiff, reduceCtorEq, List.reduceReplicate, Int.reduceToNat, Int.reduceLE, Int.reduceLT]) | (refine DrawK.intro (by kernel_rfl) (by kernel_rfl) ?_; simp only [evS, tyS, Bool.not_true, Bool.not_false, Nat.reduceAdd, Nat.reduceSub, Nat.reduceMul, Nat.reduceLT, Nat.reduceLeDiff, Nat.reduceEqDiff, reduceCtorEq, List.reduceReplicate, Int.reduceToNat, Int.reduceLE, Int.reduceLT])))
      all_goals try (((try simp only [decide_eq_true_eq, decide_eq_false_iff_not, beq_iff_eq, bne_iff_ne, ne_eq, beq_eq_false_iff_ne, bne_eq_false_iff_eq] at *) <;> (try omega)); done)
      rw [uintR, if_pos hj.2]
      simp only [evS, tyS, Bool.not_true, Bool.not_false, Nat.reduceAdd, Nat.reduceSub, Nat.reduceMul, Nat.reduceLT, Nat.reduceLeDiff, Nat.reduceEqDiff, reduceCtorEq, List.reduceReplicate, Int.reduceToNat, Int.reduceLE, Int.reduceLT]
end Go.Proofs.YtplnhipgifcafaaDoor
namespace Go.Proofs.YtplnhipgifcafaaDoor
set_option linter.all false
open Go Go.Ev
variable {γ : List (Nat × AV)}
def hasSub : List UInt8 → List UInt8 → Bool
  | [], sub => sub.isEmpty
  | b :: l, sub => sub.isPrefixOf (b :: l) || hasSub l sub
theorem contains_hasSub (s sub : List UInt8) : Lib.contains s sub = hasSub s sub := by
  unfold Lib.contains
  induction s with
  | nil => unfold Lib.index hasSub; cases sub.isEmpty <;> rfl
  | cons b l ih =>
    unfold Lib.index hasSub
    have hg := Lib.index_ge l sub
    rw [← ih]
    cases sub.isPrefixOf (b :: l) with
    | true => rfl
    | false =>
      simp only [Bool.false_eq_true, if_false, Bool.false_or]
      by_cases h : Lib.index l sub = -1
      · simp [h]
      · have : ¬ (Lib.index l sub == -1) = true := by simpa using h
        rw [if_neg this]
        have h1 : 0 ≤ Lib.index l sub := by omega
        have h2 : 0 ≤ Lib.index l sub + 1 := by omega
        simp [h1, h2]
theorem contains_ev (m : Int) (hγ : Go.Ev.look γ 1 = AV.ela false [.v (.int .i64 m)]) (s sub : ByteArray) (hs : s.size < 4294967281) : Ev Tryd.prog γ 75 [.v (.string s), .v (.string sub)] (.v (.bool (hasSub s.data.toList sub.data.toList))) := by
  intro G B w vs hG hg hr
  have hm := (hg 1).2
  rw [hγ] at hm
  simp only [rel, relAt, Cx.shut] at hm
  obtain ⟨r, off, e1, _, ⟨u, hc, rfl⟩, _⟩ := hm
  cases e1
  simp only [relL, rel] at hr
  obtain ⟨u1, us, e1, rfl, u2, us2, rfl, rfl, rfl⟩ := hr
  obtain rfl : vs = #[.string s, .string sub] := by cases vs; simp_all
  refine (Go.Proofs.Tryd.strings_Contains s sub m w hs hc).mono ?_
  rintro e w' ⟨rfl, rfl⟩
  refine ⟨_, rfl, ?_, Go.RowKit.Below.refl _ _⟩
  rw [contains_hasSub]
  simp only [rel]
theorem b75 : bodyT Tryd.prog 75 := ⟨_, Tryd.func75, by kernel_rfl, by kernel_rfl⟩
def dblL : List UInt8 := [61, 61, 32, 33, 61, 32, 60, 61, 32, 62, 61, 32, 38, 38, 32, 124, 124, 32, 45, 62]
def sglL : List UInt8 := [40, 41, 123, 125, 44, 59, 58, 46, 38, 43, 45, 42, 47, 37, 60, 62, 33, 61, 95]
/-- How many bytes the mark at the head has. -/
def markN (l : List UInt8) : Nat := if 1 < l.length ∧ atL l 0 ≠ 32 ∧ atL l 1 ≠ 32 ∧ hasSub dblL (l.take 2) = true then 2 else if 0 ≤ Lib.indexByte sglL (atL l 0).toUInt8 then 1 else 0
def markA (l : List UInt8) : AV := if markN l = 0 then tokA 0 [] 0 f0 0 0 else tokA 5 (l.take (markN l)) 0 f0 0 (markN l)
set_option maxRecDepth 20000 in
theorem lexMark_ev (m : Int) (hγ : Go.Ev.look γ 1 = AV.ela false [.v (.int .i64 m)]) (b : Bool) (l : List UInt8) (h1 : 1 ≤ l.length) (hl : l.length ≤ 140737488355328) : Ev Tryd.prog γ 50 [.sl b l.length l.length (l.map byteC)] (markA l) := by
  refine Ev.of Tryd.func50 rfl ?_
  have ea : ∀ j, (l.getD j 0).toNat = atL l j := fun _ => rfl
  have t0 : take1 (l.map byteC) = some (.v (.int .u8 (atL l 0))) := by
    have := take1_byte (l := l) (n := 0) (by omega)
    rw [List.drop_zero] at this
    rw [this]; simp [atL, List.getD, List.getElem?_eq_getElem (show 0 < l.length by omega)]
  simp only [Tryd.f50, ea, t0, evS, tyS, Bool.not_true, Bool.not_false, Nat.reduceAdd, Nat.reduceSub, Nat.reduceMul, Nat.reduceLT, Nat.reduceLeDiff, Nat.reduceEqDiff, reduceCtorEq, List.reduceReplicate, Int.reduceToNat, Int.reduceLE, Int.reduceLT]
  (repeat' (first | (with_reducible refine And.intro ?_ ?_) | ((first | refine GuardK.intro_f (fun h => ?_) (fun h => ?_) | refine GuardK.intro_t (fun h => ?_) (fun h => ?_) | refine CondK.intro (fun h => ?_) (fun h => ?_) | refine PickK.intro (fun h => ?_) (fun h => ?_)) <;> simp only [h, ea, t0, evS, tyS, Bool.not_true, Bool.not_false, Nat.reduceAdd, Nat.reduceSub, Nat.reduceMul, Nat.reduceLT, Nat.reduceLeDiff, Nat.reduceEqDiff, reduceCtorEq, List.reduceReplicate, Int.reduceToNat, Int.reduceLE, Int.reduceLT]) | (refine DrawK.intro (by kernel_rfl) (by kernel_rfl) ?_; simp only [ea, t0, evS, tyS, Bool.not_true, Bool.not_false, Nat.reduceAdd, Nat.reduceSub, Nat.reduceMul, Nat.reduceLT, Nat.reduceLeDiff, Nat.reduceEqDiff, reduceCtorEq, List.reduceReplicate, Int.reduceToNat, Int.reduceLE, Int.reduceLT])))
  all_goals try (((try simp only [decide_eq_true_eq, decide_eq_false_iff_not, beq_iff_eq, bne_iff_ne, ne_eq, beq_eq_false_iff_ne, bne_eq_false_iff_eq] at *) <;> (try omega)); done)
  all_goals try
    (refine CallK.intro b75 rfl (contains_ev m hγ _ _ (by decide)) ?_
     simp only [ea, t0, evS, tyS, Bool.not_true, Bool.not_false, Nat.reduceAdd, Nat.reduceSub, Nat.reduceMul, Nat.reduceLT, Nat.reduceLeDiff, Nat.reduceEqDiff, reduceCtorEq, List.reduceReplicate, Int.reduceToNat, Int.reduceLE, Int.reduceLT]
     refine CondK.intro (fun h => ?_) (fun h => ?_) <;> simp only [h, ea, t0, evS, tyS, Bool.not_true, Bool.not_false, Nat.reduceAdd, Nat.reduceSub, Nat.reduceMul, Nat.reduceLT, Nat.reduceLeDiff, Nat.reduceEqDiff, reduceCtorEq, List.reduceReplicate, Int.reduceToNat, Int.reduceLE, Int.reduceLT])
  all_goals try refine ⟨by omega, ?_⟩
  all_goals try
    (refine CallK.intro b76 rfl (strings_IndexByte_ev _ _) ?_
     simp only [ea, t0, evS, tyS, Bool.not_true, Bool.not_false, Nat.reduceAdd, Nat.reduceSub, Nat.reduceMul, Nat.reduceLT, Nat.reduceLeDiff, Nat.reduceEqDiff, reduceCtorEq, List.reduceReplicate, Int.reduceToNat, Int.reduceLE, Int.reduceLT]
     refine CondK.intro (fun h => ?_) (fun h => ?_) <;> simp only [h, ea, t0, evS, tyS, Bool.not_true, Bool.not_false, Nat.reduceAdd, Nat.reduceSub, Nat.reduceMul, Nat.reduceLT, Nat.reduceLeDiff, Nat.reduceEqDiff, reduceCtorEq, List.reduceReplicate, Int.reduceToNat, Int.reduceLE, Int.reduceLT])
  all_goals try refine ⟨by omega, ?_⟩
  all_goals try refine ⟨by omega, ?_⟩
  all_goals ((try simp only [decide_eq_true_eq, decide_eq_false_iff_not, beq_iff_eq, bne_iff_ne, ne_eq, beq_eq_false_iff_ne, bne_eq_false_iff_eq] at *) <;> (try omega))
  all_goals try refine ⟨⟨by omega, by omega⟩, by omega, ?_⟩
  all_goals first
    | (have hm : markN l = 2 := by rw [markN, if_pos ⟨by omega, by omega, by omega, by unfold dblL; assumption⟩]
       rw [markA, hm, if_neg (by omega)]; simp only [tokA, f0, evS, tyS, Bool.not_true, Bool.not_false, Nat.reduceAdd, Nat.reduceSub, Nat.reduceMul, Nat.reduceLT, Nat.reduceLeDiff, Nat.reduceEqDiff, reduceCtorEq, List.reduceReplicate, Int.reduceToNat, Int.reduceLE, Int.reduceLT]; first | done | rfl)
    | (have hm : markN l = 1 := by rw [markN, if_neg (by rintro ⟨g1, g2, g3, g4⟩; first | omega | (have g5 : hasSub dblL (l.take 2) = false := (by unfold dblL; assumption); rw [g5] at g4; cases g4)), if_pos (by unfold sglL; assumption)]
       rw [markA, hm, if_neg (by omega)]; simp only [tokA, f0, evS, tyS, Bool.not_true, Bool.not_false, Nat.reduceAdd, Nat.reduceSub, Nat.reduceMul, Nat.reduceLT, Nat.reduceLeDiff, Nat.reduceEqDiff, reduceCtorEq, List.reduceReplicate, Int.reduceToNat, Int.reduceLE, Int.reduceLT]; first | done | rfl)
    | (have hm : markN l = 0 := by rw [markN, if_neg (by rintro ⟨g1, g2, g3, g4⟩; first | omega | (have g5 : hasSub dblL (l.take 2) = false := (by unfold dblL; assumption); rw [g5] at g4; cases g4)), if_neg (by unfold sglL; assumption)]
       rw [markA, hm, if_pos rfl]; simp only [tokA, f0, evS, tyS, Bool.not_true, Bool.not_false, Nat.reduceAdd, Nat.reduceSub, Nat.reduceMul, Nat.reduceLT, Nat.reduceLeDiff, Nat.reduceEqDiff, reduceCtorEq, List.reduceReplicate, Int.reduceToNat, Int.reduceLE, Int.reduceLT]; first | done | rfl)
    | trace_state
end Go.Proofs.YtplnhipgifcafaaDoor
namespace Go.Proofs.YtplnhipgifcafaaDoor
set_option linter.all false
open Go Go.Ev
variable {γ : List (Nat × AV)}
/-- What is known of the package-level variables: internal/bytealg.MaxLen holds some int, strconv.ErrRange some error. -/
def Gl (γ : List (Nat × AV)) : Prop := (∃ m, Go.Ev.look γ 1 = AV.ela false [AV.v (.int .i64 m)]) ∧ ∃ te pe, Go.Ev.look γ 4 = AV.ela false [AV.v (.iface te pe)]
theorem toError_ev (hγ : Gl γ) (fn s : ByteArray) (hs : s.size ≤ 281474976710656) (b n : Int) : Ev Tryd.prog γ 91 [.v (.string fn), .v (.string s), .v (.int .i64 b), .v (.int .i64 n), .ifc 133 (.v (.int .i64 1))] (.ifc 134 .bad) := by
  intro G B w vs hG hg hr
  obtain ⟨te, pe, h4⟩ := hγ.2
  have hm := (hg 4).2
  rw [h4] at hm
  simp only [rel, relAt, Cx.shut] at hm
  obtain ⟨r, off, e1, _, ⟨u, hc, rfl⟩, _⟩ := hm
  cases e1
  simp only [relL, rel] at hr
  obtain ⟨u1, us, e1, rfl, u2, us2, rfl, rfl, u3, us3, rfl, rfl, u4, us4, rfl, rfl, u5, us5, rfl, ⟨y, rfl, rfl⟩, rfl⟩ := hr
  obtain rfl : vs = #[.string fn, .string s, .int .i64 b, .int .i64 n, .iface 133 (.int .i64 1)] := by cases vs; simp_all
  refine (Any.strconv_toError_range Go.Proofs.Tryd.laysC245 fn s b n (.iface te pe) w hs hc (.inr ⟨_, _, rfl⟩)).mono ?_
  rintro e w' ⟨N, rfl, _, _, hb⟩
  refine ⟨_, rfl, ?_, hb⟩
  simp only [rel]
  exact ⟨_, rfl, trivial⟩
def intR (l : List UInt8) : AV := if decV l < 9223372036854775808 then .tup [.v (.int .i64 (decV l)), .v .nilIface] else .tup [.v (.int .i64 9223372036854775807), .ifc 133 (.v (.int .i64 1))]
theorem b109 : bodyT Tryd.prog 109 := ⟨_, Tryd.func109, by kernel_rfl, by kernel_rfl⟩
theorem b90 : bodyT Tryd.prog 90 := ⟨_, Tryd.func90, by kernel_rfl, by kernel_rfl⟩
theorem b91 : bodyT Tryd.prog 91 := ⟨_, Tryd.func91, by kernel_rfl, by kernel_rfl⟩
theorem b59 : bodyT Tryd.prog 59 := ⟨_, Tryd.func59, by kernel_rfl, by kernel_rfl⟩
set_option maxHeartbeats 2000000 in
set_option maxRecDepth 20000 in
theorem parseInt_ev (l : List UInt8) (h1 : 1 ≤ l.length) (hl : l.length ≤ 140737488351232) (hd : ∀ j, j < l.length → digitN (atL l j) = true) :
    Ev Tryd.prog γ 90 [.v (.string ⟨l.toArray⟩), .v (.int .i64 10), .v (.int .i64 64)] (intR l) := by
  refine Ev.of Tryd.func90 rfl ?_
  have hne : (l == ([] : List UInt8)) = false := by
    cases l with
    | nil => simp at h1
    | cons => rfl
  have hd0 : 48 ≤ atL l 0 ∧ atL l 0 ≤ 57 := by simpa [digitN] using hd 0 (by omega)
  have ea : ∀ j, (l.getD j 0).toNat = atL l j := fun _ => rfl
  have n43 : ((atL l 0 : Int) == 43) = false := by simp; omega
  have n45 : ((atL l 0 : Int) == 45) = false := by simp; omega
  have h640 : ((64 : Int) == 0) = false := by decide
  have w63 : IntKind.u64.wrap 63 = 63 := by rw [u64w] <;> omega
  have w631 : IntKind.i64.wrap (64 - 1) = 63 := by decide
  have wsh : IntKind.u64.wrap (1 * 2 ^ min (Int.toNat 63) IntKind.u64.bits) = 9223372036854775808 := by decide
  have wsh' : IntKind.u64.wrap (1 * 2 ^ min 63 IntKind.u64.bits) = 9223372036854775808 := by decide
  have wm1 : IntKind.u64.wrap (9223372036854775808 - 1) = 9223372036854775807 := by decide
  have wm2 : IntKind.i64.wrap 9223372036854775807 = 9223372036854775807 := by decide
  simp only [Tryd.f90, tyP, tyQ, hne, ea, n43, n45, evS, tyS, Bool.not_true, Bool.not_false, Nat.reduceAdd, Nat.reduceSub, Nat.reduceMul, Nat.reduceLT, Nat.reduceLeDiff, Nat.reduceEqDiff, reduceCtorEq, List.reduceReplicate, Int.reduceToNat, Int.reduceLE, Int.reduceLT]
  (repeat' (first | (with_reducible refine And.intro ?_ ?_) | ((first | refine GuardK.intro_f (fun h => ?_) (fun h => ?_) | refine GuardK.intro_t (fun h => ?_) (fun h => ?_) | refine CondK.intro (fun h => ?_) (fun h => ?_) | refine PickK.intro (fun h => ?_) (fun h => ?_)) <;> simp only [h, tyP, tyQ, hne, ea, n43, n45, evS, tyS, Bool.not_true, Bool.not_false, Nat.reduceAdd, Nat.reduceSub, Nat.reduceMul, Nat.reduceLT, Nat.reduceLeDiff, Nat.reduceEqDiff, reduceCtorEq, List.reduceReplicate, Int.reduceToNat, Int.reduceLE, Int.reduceLT]) | (refine DrawK.intro (by kernel_rfl) (by kernel_rfl) ?_; simp only [tyP, tyQ, hne, ea, n43, n45, evS, tyS, Bool.not_true, Bool.not_false, Nat.reduceAdd, Nat.reduceSub, Nat.reduceMul, Nat.reduceLT, Nat.reduceLeDiff, Nat.reduceEqDiff, reduceCtorEq, List.reduceReplicate, Int.reduceToNat, Int.reduceLE, Int.reduceLT])))
  all_goals try (((try simp only [decide_eq_true_eq, decide_eq_false_iff_not, beq_iff_eq, bne_iff_ne, ne_eq, beq_eq_false_iff_ne, bne_eq_false_iff_eq] at *) <;> (try omega)); done)
  refine CallK.intro b109 rfl (parseUint_ev l h1 hl hd) ?_
  by_cases h64 : decV l < 18446744073709551616
  · rw [uintR, if_pos h64]
    by_cases h63 : decV l < 9223372036854775808
    · have e1 : IntKind.i64.wrap (decV l : Int) = decV l := by rw [i64w] <;> omega
      have e2 : (decide (9223372036854775808 ≤ (decV l : Int))) = false := by simp; omega
      rw [intR, if_pos h63]
      simp only [tyP, tyQ, hne, ea, h640, w63, w631, wsh, wsh', wm1, wm2, e1, e2, evS, tyS, Bool.not_true, Bool.not_false, Nat.reduceAdd, Nat.reduceSub, Nat.reduceMul, Nat.reduceLT, Nat.reduceLeDiff, Nat.reduceEqDiff, reduceCtorEq, List.reduceReplicate, Int.reduceToNat, Int.reduceLE, Int.reduceLT]
      (repeat' (first | (with_reducible refine And.intro ?_ ?_) | ((first | refine GuardK.intro_f (fun h => ?_) (fun h => ?_) | refine GuardK.intro_t (fun h => ?_) (fun h => ?_) | refine CondK.intro (fun h => ?_) (fun h => ?_) | refine PickK.intro (fun h => ?_) (fun h => ?_)) <;> simp only [h, tyP, tyQ, hne, ea, h640, w63, w631, wsh, wsh', wm1, wm2, e1, e2, evS, tyS, Bool.not_true, Bool.not_false, Nat.reduceAdd, Nat.reduceSub, Nat.reduceMul, Nat.reduceLT, Nat.reduceLeDiff, Nat.reduceEqDiff, reduceCtorEq, List.reduceReplicate, Int.reduceToNat, Int.reduceLE, Int.reduceLT]) | (refine DrawK.intro (by kernel_rfl) (by kernel_rfl) ?_; simp only [tyP, tyQ, hne, ea, h640, w63, w631, wsh, wsh', wm1, wm2, e1, e2, evS, tyS, Bool.not_true, Bool.not_false, Nat.reduceAdd, Nat.reduceSub, Nat.reduceMul, Nat.reduceLT, Nat.reduceLeDiff, Nat.reduceEqDiff, reduceCtorEq, List.reduceReplicate, Int.reduceToNat, Int.reduceLE, Int.reduceLT])))
      all_goals try (((try simp only [decide_eq_true_eq, decide_eq_false_iff_not, beq_iff_eq, bne_iff_ne, ne_eq, beq_eq_false_iff_ne, bne_eq_false_iff_eq] at *) <;> (try omega)); done)
    · have e2 : (decide (9223372036854775808 ≤ (decV l : Int))) = true := by simp; omega
      rw [intR, if_neg h63]
      simp only [tyP, tyQ, hne, ea, h640, w63, w631, wsh, wsh', wm1, wm2, e2, evS, tyS, Bool.not_true, Bool.not_false, Nat.reduceAdd, Nat.reduceSub, Nat.reduceMul, Nat.reduceLT, Nat.reduceLeDiff, Nat.reduceEqDiff, reduceCtorEq, List.reduceReplicate, Int.reduceToNat, Int.reduceLE, Int.reduceLT]
      (repeat' (first | (with_reducible refine And.intro ?_ ?_) | ((first | refine GuardK.intro_f (fun h => ?_) (fun h => ?_) | refine GuardK.intro_t (fun h => ?_) (fun h => ?_) | refine CondK.intro (fun h => ?_) (fun h => ?_) | refine PickK.intro (fun h => ?_) (fun h => ?_)) <;> simp only [h, tyP, tyQ, hne, ea, h640, w63, w631, wsh, wsh', wm1, wm2, e2, evS, tyS, Bool.not_true, Bool.not_false, Nat.reduceAdd, Nat.reduceSub, Nat.reduceMul, Nat.reduceLT, Nat.reduceLeDiff, Nat.reduceEqDiff, reduceCtorEq, List.reduceReplicate, Int.reduceToNat, Int.reduceLE, Int.reduceLT]) | (refine DrawK.intro (by kernel_rfl) (by kernel_rfl) ?_; simp only [tyP, tyQ, hne, ea, h640, w63, w631, wsh, wsh', wm1, wm2, e2, evS, tyS, Bool.not_true, Bool.not_false, Nat.reduceAdd, Nat.reduceSub, Nat.reduceMul, Nat.reduceLT, Nat.reduceLeDiff, Nat.reduceEqDiff, reduceCtorEq, List.reduceReplicate, Int.reduceToNat, Int.reduceLE, Int.reduceLT])))
      all_goals try (((try simp only [decide_eq_true_eq, decide_eq_false_iff_not, beq_iff_eq, bne_iff_ne, ne_eq, beq_eq_false_iff_ne, bne_eq_false_iff_eq] at *) <;> (try omega)); done)
  · rw [uintR, if_neg h64, intR, if_neg (by omega)]
    simp only [tyP, tyQ, hne, ea, h640, w63, w631, wsh, wsh', wm1, wm2, evS, tyS, Bool.not_true, Bool.not_false, Nat.reduceAdd, Nat.reduceSub, Nat.reduceMul, Nat.reduceLT, Nat.reduceLeDiff, Nat.reduceEqDiff, reduceCtorEq, List.reduceReplicate, Int.reduceToNat, Int.reduceLE, Int.reduceLT]
    (repeat' (first | (with_reducible refine And.intro ?_ ?_) | ((first | refine GuardK.intro_f (fun h => ?_) (fun h => ?_) | refine GuardK.intro_t (fun h => ?_) (fun h => ?_) | refine CondK.intro (fun h => ?_) (fun h => ?_) | refine PickK.intro (fun h => ?_) (fun h => ?_)) <;> simp only [h, tyP, tyQ, hne, ea, h640, w63, w631, wsh, wsh', wm1, wm2, evS, tyS, Bool.not_true, Bool.not_false, Nat.reduceAdd, Nat.reduceSub, Nat.reduceMul, Nat.reduceLT, Nat.reduceLeDiff, Nat.reduceEqDiff, reduceCtorEq, List.reduceReplicate, Int.reduceToNat, Int.reduceLE, Int.reduceLT]) | (refine DrawK.intro (by kernel_rfl) (by kernel_rfl) ?_; simp only [tyP, tyQ, hne, ea, h640, w63, w631, wsh, wsh', wm1, wm2, evS, tyS, Bool.not_true, Bool.not_false, Nat.reduceAdd, Nat.reduceSub, Nat.reduceMul, Nat.reduceLT, Nat.reduceLeDiff, Nat.reduceEqDiff, reduceCtorEq, List.reduceReplicate, Int.reduceToNat, Int.reduceLE, Int.reduceLT])))
    all_goals try (((try simp only [decide_eq_true_eq, decide_eq_false_iff_not, beq_iff_eq, bne_iff_ne, ne_eq, beq_eq_false_iff_ne, bne_eq_false_iff_eq] at *) <;> (try omega)); done)
def int59R (l : List UInt8) : AV := if decV l < 9223372036854775808 then .tup [.v (.int .i64 (decV l)), .v .nilIface] else .tup [.v (.int .i64 9223372036854775807), .ifc 134 .bad]
set_option maxRecDepth 20000 in
theorem parseInt59_ev (hγ : Gl γ) (l : List UInt8) (h1 : 1 ≤ l.length) (hl : l.length ≤ 140737488351232) (hd : ∀ j, j < l.length → digitN (atL l j) = true) :
    Ev Tryd.prog γ 59 [.v (.string ⟨l.toArray⟩), .v (.int .i64 10), .v (.int .i64 64)] (int59R l) := by
  refine Ev.of Tryd.func59 rfl ?_
  simp only [Tryd.f59, evS, tyS, Bool.not_true, Bool.not_false, Nat.reduceAdd, Nat.reduceSub, Nat.reduceMul, Nat.reduceLT, Nat.reduceLeDiff, Nat.reduceEqDiff, reduceCtorEq, List.reduceReplicate, Int.reduceToNat, Int.reduceLE, Int.reduceLT]
  refine CallK.intro b90 rfl (parseInt_ev l h1 hl hd) ?_
  by_cases h63 : decV l < 9223372036854775808
  · rw [intR, if_pos h63, int59R, if_pos h63]
    simp only [tyP, tyQ, evS, tyS, Bool.not_true, Bool.not_false, Nat.reduceAdd, Nat.reduceSub, Nat.reduceMul, Nat.reduceLT, Nat.reduceLeDiff, Nat.reduceEqDiff, reduceCtorEq, List.reduceReplicate, Int.reduceToNat, Int.reduceLE, Int.reduceLT]
    (repeat' (first | (with_reducible refine And.intro ?_ ?_) | ((first | refine GuardK.intro_f (fun h => ?_) (fun h => ?_) | refine GuardK.intro_t (fun h => ?_) (fun h => ?_) | refine CondK.intro (fun h => ?_) (fun h => ?_) | refine PickK.intro (fun h => ?_) (fun h => ?_)) <;> simp only [h, tyP, tyQ, evS, tyS, Bool.not_true, Bool.not_false, Nat.reduceAdd, Nat.reduceSub, Nat.reduceMul, Nat.reduceLT, Nat.reduceLeDiff, Nat.reduceEqDiff, reduceCtorEq, List.reduceReplicate, Int.reduceToNat, Int.reduceLE, Int.reduceLT]) | (refine DrawK.intro (by kernel_rfl) (by kernel_rfl) ?_; simp only [tyP, tyQ, evS, tyS, Bool.not_true, Bool.not_false, Nat.reduceAdd, Nat.reduceSub, Nat.reduceMul, Nat.reduceLT, Nat.reduceLeDiff, Nat.reduceEqDiff, reduceCtorEq, List.reduceReplicate, Int.reduceToNat, Int.reduceLE, Int.reduceLT])))
    all_goals try (((try simp only [decide_eq_true_eq, decide_eq_false_iff_not, beq_iff_eq, bne_iff_ne, ne_eq, beq_eq_false_iff_ne, bne_eq_false_iff_eq] at *) <;> (try omega)); done)
  · rw [intR, if_neg h63, int59R, if_neg h63]
    simp only [tyP, tyQ, evS, tyS, Bool.not_true, Bool.not_false, Nat.reduceAdd, Nat.reduceSub, Nat.reduceMul, Nat.reduceLT, Nat.reduceLeDiff, Nat.reduceEqDiff, reduceCtorEq, List.reduceReplicate, Int.reduceToNat, Int.reduceLE, Int.reduceLT]
    refine CallK.intro b91 rfl (toError_ev hγ _ _ (by show l.toArray.size ≤ _; rw [List.size_toArray]; omega) _ _) ?_
    simp only [tyP, tyQ, evS, tyS, Bool.not_true, Bool.not_false, Nat.reduceAdd, Nat.reduceSub, Nat.reduceMul, Nat.reduceLT, Nat.reduceLeDiff, Nat.reduceEqDiff, reduceCtorEq, List.reduceReplicate, Int.reduceToNat, Int.reduceLE, Int.reduceLT]
    (repeat' (first | (with_reducible refine And.intro ?_ ?_) | ((first | refine GuardK.intro_f (fun h => ?_) (fun h => ?_) | refine GuardK.intro_t (fun h => ?_) (fun h => ?_) | refine CondK.intro (fun h => ?_) (fun h => ?_) | refine PickK.intro (fun h => ?_) (fun h => ?_)) <;> simp only [h, tyP, tyQ, evS, tyS, Bool.not_true, Bool.not_false, Nat.reduceAdd, Nat.reduceSub, Nat.reduceMul, Nat.reduceLT, Nat.reduceLeDiff, Nat.reduceEqDiff, reduceCtorEq, List.reduceReplicate, Int.reduceToNat, Int.reduceLE, Int.reduceLT]) | (refine DrawK.intro (by kernel_rfl) (by kernel_rfl) ?_; simp only [tyP, tyQ, evS, tyS, Bool.not_true, Bool.not_false, Nat.reduceAdd, Nat.reduceSub, Nat.reduceMul, Nat.reduceLT, Nat.reduceLeDiff, Nat.reduceEqDiff, reduceCtorEq, List.reduceReplicate, Int.reduceToNat, Int.reduceLE, Int.reduceLT])))
    all_goals try (((try simp only [decide_eq_true_eq, decide_eq_false_iff_not, beq_iff_eq, bne_iff_ne, ne_eq, beq_eq_false_iff_ne, bne_eq_false_iff_eq] at *) <;> (try omega)); done)
def decR (l : List UInt8) (most : Int) : AV := if 1 < l.length ∧ atL l 0 = 48 then .tup [.v (.int .i64 0), .v (.bool false)] else if decV l < 9223372036854775808 then .tup [.v (.int .i64 (decV l)), .v (.bool (decide ((decV l : Int) ≤ most)))] else .tup [.v (.int .i64 9223372036854775807), .v (.bool false)]
set_option maxRecDepth 20000 in
theorem lexDecimal_ev (hγ : Gl γ) (b : Bool) (l : List UInt8) (most : Int) (h1 : 1 ≤ l.length) (hl : l.length ≤ 140737488351232) (hd : ∀ j, j < l.length → digitN (atL l j) = true) :
    Ev Tryd.prog γ 73 [.sl b l.length l.length (l.map byteC), .v (.int .i64 most)] (decR l most) := by
  refine Ev.of Tryd.func73 rfl ?_
  have t0 : take1 (l.map byteC) = some (.v (.int .u8 (atL l 0))) := by
    have := take1_byte (l := l) (n := 0) (by omega)
    rw [List.drop_zero] at this
    rw [this]; simp [atL, List.getD, List.getElem?_eq_getElem (show 0 < l.length by omega)]
  simp only [Tryd.f73, t0, evS, tyS, Bool.not_true, Bool.not_false, Nat.reduceAdd, Nat.reduceSub, Nat.reduceMul, Nat.reduceLT, Nat.reduceLeDiff, Nat.reduceEqDiff, reduceCtorEq, List.reduceReplicate, Int.reduceToNat, Int.reduceLE, Int.reduceLT]
  (repeat' (first | (with_reducible refine And.intro ?_ ?_) | ((first | refine GuardK.intro_f (fun h => ?_) (fun h => ?_) | refine GuardK.intro_t (fun h => ?_) (fun h => ?_) | refine CondK.intro (fun h => ?_) (fun h => ?_) | refine PickK.intro (fun h => ?_) (fun h => ?_)) <;> simp only [h, t0, evS, tyS, Bool.not_true, Bool.not_false, Nat.reduceAdd, Nat.reduceSub, Nat.reduceMul, Nat.reduceLT, Nat.reduceLeDiff, Nat.reduceEqDiff, reduceCtorEq, List.reduceReplicate, Int.reduceToNat, Int.reduceLE, Int.reduceLT]) | (refine DrawK.intro (by kernel_rfl) (by kernel_rfl) ?_; simp only [t0, evS, tyS, Bool.not_true, Bool.not_false, Nat.reduceAdd, Nat.reduceSub, Nat.reduceMul, Nat.reduceLT, Nat.reduceLeDiff, Nat.reduceEqDiff, reduceCtorEq, List.reduceReplicate, Int.reduceToNat, Int.reduceLE, Int.reduceLT])))
  all_goals try (((try simp only [decide_eq_true_eq, decide_eq_false_iff_not, beq_iff_eq, bne_iff_ne, ne_eq, beq_eq_false_iff_ne, bne_eq_false_iff_eq] at *) <;> (try omega)); done)
  · ((try simp only [decide_eq_true_eq, decide_eq_false_iff_not, beq_iff_eq, bne_iff_ne, ne_eq, beq_eq_false_iff_ne, bne_eq_false_iff_eq] at *) <;> (try omega))
    rw [decR, if_pos (by omega)]
    simp only [evS, tyS, Bool.not_true, Bool.not_false, Nat.reduceAdd, Nat.reduceSub, Nat.reduceMul, Nat.reduceLT, Nat.reduceLeDiff, Nat.reduceEqDiff, reduceCtorEq, List.reduceReplicate, Int.reduceToNat, Int.reduceLE, Int.reduceLT]
  all_goals
    (have hz : ¬ (1 < l.length ∧ atL l 0 = 48) := by ((try simp only [decide_eq_true_eq, decide_eq_false_iff_not, beq_iff_eq, bne_iff_ne, ne_eq, beq_eq_false_iff_ne, bne_eq_false_iff_eq] at *) <;> (try omega))
     refine CallK.intro b59 rfl (parseInt59_ev hγ l h1 hl hd) ?_
     by_cases h63 : decV l < 9223372036854775808
     · rw [int59R, if_pos h63, decR, if_neg hz, if_pos h63]
       simp only [tyP, tyQ, evS, tyS, Bool.not_true, Bool.not_false, Nat.reduceAdd, Nat.reduceSub, Nat.reduceMul, Nat.reduceLT, Nat.reduceLeDiff, Nat.reduceEqDiff, reduceCtorEq, List.reduceReplicate, Int.reduceToNat, Int.reduceLE, Int.reduceLT]
     · rw [int59R, if_neg h63, decR, if_neg hz, if_neg h63]
       simp only [tyP, tyQ, evS, tyS, Bool.not_true, Bool.not_false, Nat.reduceAdd, Nat.reduceSub, Nat.reduceMul, Nat.reduceLT, Nat.reduceLeDiff, Nat.reduceEqDiff, reduceCtorEq, List.reduceReplicate, Int.reduceToNat, Int.reduceLE, Int.reduceLT])
end Go.Proofs.YtplnhipgifcafaaDoor
