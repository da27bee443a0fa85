/- Contracts of the functions that the law reaches. -/
import Derived.Test.YtlobiioioicmhaaGreatDoorU2
import Derived.Test.YtlobiioioicmhaaGreatDoorProg
import Derived.KernelRfl
import Derived.Shelf.Strings.Search3
import Derived.Shelf.Strconv.ToErrorRange
import GoSem.Core.Float
namespace Go.Proofs.YtlobiioioicmhaaGreatDoor
set_option linter.all false
open Go Go.Ev
set_option maxRecDepth 20000
theorem tyS : aggT Tryz.prog 2 = some false ∧
    aggT Tryz.prog 37 = some false ∧
    aggT Tryz.prog 3 = some false ∧
    aggT Tryz.prog 22 = some false ∧
    aggT Tryz.prog 53 = some true ∧
    aggT Tryz.prog 48 = some false ∧
    aggT Tryz.prog 5 = some false ∧
    aggT Tryz.prog 54 = some true ∧
    aggT Tryz.prog 9 = some false ∧
    appT Tryz.prog 37 37 = some (5, 1, 1) ∧
    appT Tryz.prog 47 47 = some (54, 6, 56) ∧
    appT Tryz.prog 48 48 = some (53, 6, 56) ∧
    elemT Tryz.prog 37 = some 5 ∧
    elemT Tryz.prog 47 = some 54 ∧
    elemT Tryz.prog 48 = some 53 ∧
    fieldT Tryz.prog 53 0 = some (0, 3) ∧
    fieldT Tryz.prog 53 1 = some (1, 9) ∧
    fieldT Tryz.prog 53 2 = some (2, 2) ∧
    fieldT Tryz.prog 53 3 = some (3, 22) ∧
    fieldT Tryz.prog 53 4 = some (4, 3) ∧
    fieldT Tryz.prog 53 5 = some (5, 3) ∧
    fieldT Tryz.prog 54 0 = some (0, 3) ∧
    fieldT Tryz.prog 54 1 = some (1, 9) ∧
    fieldT Tryz.prog 54 2 = some (2, 2) ∧
    fieldT Tryz.prog 54 3 = some (3, 22) ∧
    fieldT Tryz.prog 54 4 = some (4, 3) ∧
    fieldT Tryz.prog 54 5 = some (5, 3) ∧
    fltT Tryz.prog 2 = none ∧
    fltT Tryz.prog 21 = none ∧
    fltT Tryz.prog 37 = none ∧
    fltT Tryz.prog 3 = none ∧
    fltT Tryz.prog 22 = some .f64 ∧
    fltT Tryz.prog 176 = none ∧
    fltT Tryz.prog 5 = none ∧
    fltT Tryz.prog 9 = none ∧
    intT Tryz.prog 2 = some .i64 ∧
    intT Tryz.prog 21 = some .i32 ∧
    intT Tryz.prog 37 = none ∧
    intT Tryz.prog 3 = some .i64 ∧
    intT Tryz.prog 22 = none ∧
    intT Tryz.prog 176 = some .u64 ∧
    intT Tryz.prog 5 = some .u8 ∧
    intT Tryz.prog 9 = none ∧
    mkT Tryz.prog 37 = some (5, 1, [.v (.int .u8 0)]) ∧
    mkT Tryz.prog 47 = some (54, 6, [.v (.int .i64 0), .v (.string ⟨#[]⟩), .v (.int .i64 0), .v (.float .f64 0), .v (.int .i64 0), .v (.int .i64 0)]) ∧
    mkT Tryz.prog 48 = some (53, 6, [.v (.int .i64 0), .v (.string ⟨#[]⟩), .v (.int .i64 0), .v (.float .f64 0), .v (.int .i64 0), .v (.int .i64 0)]) ∧
    placesT Tryz.prog 53 = some [(0, 1), (1, 1), (2, 1), (3, 1), (4, 1), (5, 1)] ∧
    placesT Tryz.prog 54 = some [(0, 1), (1, 1), (2, 1), (3, 1), (4, 1), (5, 1)] ∧
    sizeT Tryz.prog 2 = some 1 ∧
    sizeT Tryz.prog 26 = some 1 ∧
    sizeT Tryz.prog 3 = some 1 ∧
    sizeT Tryz.prog 22 = some 1 ∧
    sizeT Tryz.prog 53 = some 6 ∧
    sizeT Tryz.prog 48 = some 1 ∧
    sizeT Tryz.prog 5 = some 1 ∧
    sizeT Tryz.prog 54 = some 6 ∧
    sizeT Tryz.prog 9 = some 1 ∧
    strT Tryz.prog 2 = false ∧
    strT Tryz.prog 21 = false ∧
    strT Tryz.prog 37 = false ∧
    strT Tryz.prog 3 = false ∧
    strT Tryz.prog 22 = false ∧
    strT Tryz.prog 176 = false ∧
    strT Tryz.prog 5 = false ∧
    strT Tryz.prog 9 = true ∧
    (Tryz.prog.underlying 2).isSome = true ∧
    (Tryz.prog.underlying 21).isSome = true ∧
    (Tryz.prog.underlying 37).isSome = true ∧
    (Tryz.prog.underlying 3).isSome = true ∧
    (Tryz.prog.underlying 176).isSome = true ∧
    (Tryz.prog.underlying 5).isSome = true ∧
    zcT Tryz.prog 26 = some [.v (.int .i64 0)] ∧
    zcT Tryz.prog 3 = some [.v (.int .i64 0)] ∧
    zcT Tryz.prog 53 = some [.v (.int .i64 0), .v (.string ⟨#[]⟩), .v (.int .i64 0), .v (.float .f64 0), .v (.int .i64 0), .v (.int .i64 0)] ∧
    zcT Tryz.prog 48 = some [.v (.slice none 0 0)] ∧
    zcT Tryz.prog 54 = some [.v (.int .i64 0), .v (.string ⟨#[]⟩), .v (.int .i64 0), .v (.float .f64 0), .v (.int .i64 0), .v (.int .i64 0)] :=
  ⟨by kernel_rfl, by kernel_rfl, by kernel_rfl, by kernel_rfl, by kernel_rfl, by kernel_rfl, by kernel_rfl, by kernel_rfl, by kernel_rfl, by kernel_rfl, by kernel_rfl, by kernel_rfl, by kernel_rfl, by kernel_rfl, by kernel_rfl, by kernel_rfl, by kernel_rfl, by kernel_rfl, by kernel_rfl, by kernel_rfl, by kernel_rfl, by kernel_rfl, by kernel_rfl, by kernel_rfl, by kernel_rfl, by kernel_rfl, by kernel_rfl, by kernel_rfl, by kernel_rfl, by kernel_rfl, by kernel_rfl, by kernel_rfl, by kernel_rfl, by kernel_rfl, by kernel_rfl, by kernel_rfl, by kernel_rfl, by kernel_rfl, by kernel_rfl, by kernel_rfl, by kernel_rfl, by kernel_rfl, by kernel_rfl, by kernel_rfl, by kernel_rfl, by kernel_rfl, by kernel_rfl, by kernel_rfl, by kernel_rfl, by kernel_rfl, by kernel_rfl, by kernel_rfl, by kernel_rfl, by kernel_rfl, by kernel_rfl, by kernel_rfl, by kernel_rfl, by kernel_rfl, by kernel_rfl, by kernel_rfl, by kernel_rfl, by kernel_rfl, by kernel_rfl, by kernel_rfl, by kernel_rfl, by kernel_rfl, by kernel_rfl, by kernel_rfl, by kernel_rfl, by kernel_rfl, by kernel_rfl, by kernel_rfl, by kernel_rfl, by kernel_rfl, by kernel_rfl, by kernel_rfl⟩
end Go.Proofs.YtlobiioioicmhaaGreatDoor
namespace Go.Proofs.YtlobiioioicmhaaGreatDoor
set_option linter.all false
open Go Go.Ev
set_option maxRecDepth 20000
variable {γ : List (Nat × AV)}
def letterN (n : Nat) : Bool := decide (97 ≤ n ∧ n ≤ 122 ∨ 65 ≤ n ∧ n ≤ 90)
def digitN (n : Nat) : Bool := decide (48 ≤ n ∧ n ≤ 57)
def nameN (n : Nat) : Bool := letterN n || digitN n || decide (n = 95)
theorem b45 : bodyT Tryz.prog 239 := ⟨_, Tryz.func239, by kernel_rfl, by kernel_rfl⟩
theorem b47 : bodyT Tryz.prog 241 := ⟨_, Tryz.func241, by kernel_rfl, by kernel_rfl⟩
theorem b69 : bodyT Tryz.prog 275 := ⟨_, Tryz.func275, by kernel_rfl, by kernel_rfl⟩
theorem b71 : bodyT Tryz.prog 277 := ⟨_, Tryz.func277, by kernel_rfl, by kernel_rfl⟩
theorem b70 : bodyT Tryz.prog 276 := ⟨_, Tryz.func276, by kernel_rfl, by kernel_rfl⟩
theorem b40 : bodyT Tryz.prog 138 := ⟨_, Tryz.func138, by kernel_rfl, by kernel_rfl⟩
theorem b41 : bodyT Tryz.prog 139 := ⟨_, Tryz.func139, by kernel_rfl, by kernel_rfl⟩
theorem b28 : bodyT Tryz.prog 85 := ⟨_, Tryz.func85, by kernel_rfl, by kernel_rfl⟩
theorem b64 : bodyT Tryz.prog 205 := ⟨_, Tryz.func205, by kernel_rfl, by kernel_rfl⟩
theorem b99 : bodyT Tryz.prog 251 := ⟨_, Tryz.func251, by kernel_rfl, by kernel_rfl⟩
theorem lexLetter_ev (n : Nat) : Ev Tryz.prog γ 239 [.v (.int .u8 n)] (.v (.bool (letterN n))) := by
  refine Ev.of Tryz.func239 rfl ?_
  simp only [Tryz.f239, evS, Nat.reduceAdd, Nat.reduceSub, Nat.reduceLT, Nat.reduceEqDiff, reduceCtorEq]
  (repeat' (first | (with_reducible refine And.intro ?_ ?_) | ((first | refine GuardK.intro_f (fun h => ?_) (fun h => ?_) | refine GuardK.intro_t (fun h => ?_) (fun h => ?_) | refine CondK.intro (fun h => ?_) (fun h => ?_) | refine PickK.intro (fun h => ?_) (fun h => ?_)) <;> simp only [h, evS, Nat.reduceLT, Nat.reduceEqDiff, reduceCtorEq]) | (refine DrawK.intro (by kernel_rfl) (by kernel_rfl) ?_; simp only [evS, tyS, Bool.not_true, Bool.not_false, Nat.reduceAdd, Nat.reduceSub, Nat.reduceMul, Nat.reduceLT, Nat.reduceLeDiff, Nat.reduceEqDiff, reduceCtorEq, List.reduceReplicate, Int.reduceToNat, Int.reduceLE, Int.reduceLT])))
  all_goals (((try simp only [decide_eq_true_eq, decide_eq_false_iff_not] at *) <;> (try omega)) <;> simp only [letterN, AV.v.injEq, Value.bool.injEq] <;> first | exact (decide_eq_true (by omega)).symm | exact (decide_eq_false (by omega)).symm | exact decide_eq_decide.2 (by omega))
theorem lexDigit_ev (n : Nat) : Ev Tryz.prog γ 241 [.v (.int .u8 n)] (.v (.bool (digitN n))) := by
  refine Ev.of Tryz.func241 rfl ?_
  simp only [Tryz.f241, evS, Nat.reduceAdd, Nat.reduceSub, Nat.reduceLT, Nat.reduceEqDiff, reduceCtorEq]
  (repeat' (first | (with_reducible refine And.intro ?_ ?_) | ((first | refine GuardK.intro_f (fun h => ?_) (fun h => ?_) | refine GuardK.intro_t (fun h => ?_) (fun h => ?_) | refine CondK.intro (fun h => ?_) (fun h => ?_) | refine PickK.intro (fun h => ?_) (fun h => ?_)) <;> simp only [h, evS, Nat.reduceLT, Nat.reduceEqDiff, reduceCtorEq]) | (refine DrawK.intro (by kernel_rfl) (by kernel_rfl) ?_; simp only [evS, tyS, Bool.not_true, Bool.not_false, Nat.reduceAdd, Nat.reduceSub, Nat.reduceMul, Nat.reduceLT, Nat.reduceLeDiff, Nat.reduceEqDiff, reduceCtorEq, List.reduceReplicate, Int.reduceToNat, Int.reduceLE, Int.reduceLT])))
  all_goals (((try simp only [decide_eq_true_eq, decide_eq_false_iff_not] at *) <;> (try omega)) <;> simp only [digitN, AV.v.injEq, Value.bool.injEq] <;> first | exact (decide_eq_true (by omega)).symm | exact (decide_eq_false (by omega)).symm | exact decide_eq_decide.2 (by omega))
theorem refLetter_ev (n : Nat) : Ev Tryz.prog γ 138 [.v (.int .u8 n)] (.v (.bool (letterN n))) := by
  refine Ev.of Tryz.func138 rfl ?_
  simp only [Tryz.f138, evS, Nat.reduceAdd, Nat.reduceSub, Nat.reduceLT, Nat.reduceEqDiff, reduceCtorEq]
  (repeat' (first | (with_reducible refine And.intro ?_ ?_) | ((first | refine GuardK.intro_f (fun h => ?_) (fun h => ?_) | refine GuardK.intro_t (fun h => ?_) (fun h => ?_) | refine CondK.intro (fun h => ?_) (fun h => ?_) | refine PickK.intro (fun h => ?_) (fun h => ?_)) <;> simp only [h, evS, Nat.reduceLT, Nat.reduceEqDiff, reduceCtorEq]) | (refine DrawK.intro (by kernel_rfl) (by kernel_rfl) ?_; simp only [evS, tyS, Bool.not_true, Bool.not_false, Nat.reduceAdd, Nat.reduceSub, Nat.reduceMul, Nat.reduceLT, Nat.reduceLeDiff, Nat.reduceEqDiff, reduceCtorEq, List.reduceReplicate, Int.reduceToNat, Int.reduceLE, Int.reduceLT])))
  all_goals (((try simp only [decide_eq_true_eq, decide_eq_false_iff_not] at *) <;> (try omega)) <;> simp only [letterN, AV.v.injEq, Value.bool.injEq] <;> first | exact (decide_eq_true (by omega)).symm | exact (decide_eq_false (by omega)).symm | exact decide_eq_decide.2 (by omega))
theorem refDigit_ev (n : Nat) : Ev Tryz.prog γ 139 [.v (.int .u8 n)] (.v (.bool (digitN n))) := by
  refine Ev.of Tryz.func139 rfl ?_
  simp only [Tryz.f139, evS, Nat.reduceAdd, Nat.reduceSub, Nat.reduceLT, Nat.reduceEqDiff, reduceCtorEq]
  (repeat' (first | (with_reducible refine And.intro ?_ ?_) | ((first | refine GuardK.intro_f (fun h => ?_) (fun h => ?_) | refine GuardK.intro_t (fun h => ?_) (fun h => ?_) | refine CondK.intro (fun h => ?_) (fun h => ?_) | refine PickK.intro (fun h => ?_) (fun h => ?_)) <;> simp only [h, evS, Nat.reduceLT, Nat.reduceEqDiff, reduceCtorEq]) | (refine DrawK.intro (by kernel_rfl) (by kernel_rfl) ?_; simp only [evS, tyS, Bool.not_true, Bool.not_false, Nat.reduceAdd, Nat.reduceSub, Nat.reduceMul, Nat.reduceLT, Nat.reduceLeDiff, Nat.reduceEqDiff, reduceCtorEq, List.reduceReplicate, Int.reduceToNat, Int.reduceLE, Int.reduceLT])))
  all_goals (((try simp only [decide_eq_true_eq, decide_eq_false_iff_not] at *) <;> (try omega)) <;> simp only [digitN, AV.v.injEq, Value.bool.injEq] <;> first | exact (decide_eq_true (by omega)).symm | exact (decide_eq_false (by omega)).symm | exact decide_eq_decide.2 (by omega))
theorem lexInName_ev (n : Nat) : Ev Tryz.prog γ 275 [.v (.int .u8 n)] (.v (.bool (nameN n))) := by
  refine Ev.of Tryz.func275 rfl ?_
  simp only [Tryz.f275, evS, Nat.reduceAdd, Nat.reduceSub, Nat.reduceLT, Nat.reduceEqDiff, reduceCtorEq]
  refine CallK.intro b45 rfl (lexLetter_ev n) ?_
  simp only [evS, Nat.reduceLT, Nat.reduceEqDiff, reduceCtorEq]
  refine GuardK.intro_f (fun h => ?_) (fun h => ?_) <;> simp only [h, evS, Nat.reduceLT, Nat.reduceEqDiff, reduceCtorEq]
  · refine CallK.intro b47 rfl (lexDigit_ev n) ?_
    simp only [evS, Nat.reduceLT, Nat.reduceEqDiff, reduceCtorEq]
    (repeat' (first | (with_reducible refine And.intro ?_ ?_) | ((first | refine GuardK.intro_f (fun h => ?_) (fun h => ?_) | refine GuardK.intro_t (fun h => ?_) (fun h => ?_) | refine CondK.intro (fun h => ?_) (fun h => ?_) | refine PickK.intro (fun h => ?_) (fun h => ?_)) <;> simp only [h, evS, Nat.reduceLT, Nat.reduceEqDiff, reduceCtorEq]) | (refine DrawK.intro (by kernel_rfl) (by kernel_rfl) ?_; simp only [evS, tyS, Bool.not_true, Bool.not_false, Nat.reduceAdd, Nat.reduceSub, Nat.reduceMul, Nat.reduceLT, Nat.reduceLeDiff, Nat.reduceEqDiff, reduceCtorEq, List.reduceReplicate, Int.reduceToNat, Int.reduceLE, Int.reduceLT])))
    all_goals (((try simp only [decide_eq_true_eq, decide_eq_false_iff_not, beq_iff_eq, bne_iff_ne, ne_eq, beq_eq_false_iff_ne, bne_eq_false_iff_eq] at *) <;> (try omega)) <;> simp only [nameN]; simp [*] <;> first | (rw [Bool.eq_iff_iff]; simp; omega) | omega)
  · (repeat' (first | (with_reducible refine And.intro ?_ ?_) | ((first | refine GuardK.intro_f (fun h => ?_) (fun h => ?_) | refine GuardK.intro_t (fun h => ?_) (fun h => ?_) | refine CondK.intro (fun h => ?_) (fun h => ?_) | refine PickK.intro (fun h => ?_) (fun h => ?_)) <;> simp only [h, evS, tyS, Bool.not_true, Bool.not_false, Nat.reduceAdd, Nat.reduceSub, Nat.reduceMul, Nat.reduceLT, Nat.reduceLeDiff, Nat.reduceEqDiff, reduceCtorEq, List.reduceReplicate, Int.reduceToNat, Int.reduceLE, Int.reduceLT]) | (refine DrawK.intro (by kernel_rfl) (by kernel_rfl) ?_; simp only [evS, tyS, Bool.not_true, Bool.not_false, Nat.reduceAdd, Nat.reduceSub, Nat.reduceMul, Nat.reduceLT, Nat.reduceLeDiff, Nat.reduceEqDiff, reduceCtorEq, List.reduceReplicate, Int.reduceToNat, Int.reduceLE, Int.reduceLT])))
    all_goals (((try simp only [decide_eq_true_eq, decide_eq_false_iff_not, beq_iff_eq, bne_iff_ne, ne_eq, beq_eq_false_iff_ne, bne_eq_false_iff_eq] at *) <;> (try omega)) <;> simp only [nameN]; simp [*] <;> first | (rw [Bool.eq_iff_iff]; simp; omega) | omega)
/-- The byte at a place; 0 behind the end. -/
def atL (l : List UInt8) (i : Nat) : Nat := (l.getD i 0).toNat
theorem lexAt_ev (b : Bool) (l : List UInt8) (i : Nat) : Ev Tryz.prog γ 277 [.sl b l.length l.length (l.map byteC), .v (.int .i64 i)] (.v (.int .u8 (atL l i))) := by
  refine Ev.of Tryz.func277 rfl ?_
  simp only [Tryz.f277, evS, tyS, Nat.reduceAdd, Nat.reduceSub, Nat.reduceLT, Nat.reduceEqDiff, reduceCtorEq]
  (repeat' (first | (with_reducible refine And.intro ?_ ?_) | ((first | refine GuardK.intro_f (fun h => ?_) (fun h => ?_) | refine GuardK.intro_t (fun h => ?_) (fun h => ?_) | refine CondK.intro (fun h => ?_) (fun h => ?_) | refine PickK.intro (fun h => ?_) (fun h => ?_)) <;> simp only [h, evS, tyS, Nat.reduceLT, Nat.reduceEqDiff, reduceCtorEq]) | (refine DrawK.intro (by kernel_rfl) (by kernel_rfl) ?_; simp only [evS, tyS, Bool.not_true, Bool.not_false, Nat.reduceAdd, Nat.reduceSub, Nat.reduceMul, Nat.reduceLT, Nat.reduceLeDiff, Nat.reduceEqDiff, reduceCtorEq, List.reduceReplicate, Int.reduceToNat, Int.reduceLE, Int.reduceLT])))
  all_goals (((try simp only [decide_eq_true_eq, decide_eq_false_iff_not] at *) <;> (try omega)); try rfl)
  simp only [atL, List.getD]
  rw [List.getElem?_eq_none (by omega)]
  rfl
/-- Behind how many digits from a place on it goes on. -/
def digitsEnd (l : List UInt8) (i : Nat) : Nat := i + ((l.drop i).takeWhile fun c => digitN c.toNat).length
theorem digitsEnd_step {l : List UInt8} {i : Nat} (h : digitN (atL l i) = true) : digitsEnd l i = digitsEnd l (i + 1) ∧ i < l.length := by
  have hi : i < l.length := by
    by_cases hi : i < l.length
    · exact hi
    · have e : atL l i = 0 := by simp only [atL, List.getD]; rw [List.getElem?_eq_none (by omega)]; rfl
      rw [e] at h; exact absurd h (by decide)
  refine ⟨?_, hi⟩
  have e : l.drop i = l[i] :: l.drop (i + 1) := List.drop_eq_getElem_cons hi
  have e2 : atL l i = l[i].toNat := by simp [atL, List.getD, hi]
  rw [e2] at h
  unfold digitsEnd
  rw [e, List.takeWhile_cons, if_pos h]
  simp only [List.length_cons]; omega
theorem digitsEnd_stop {l : List UInt8} {i : Nat} (h : digitN (atL l i) = false) : digitsEnd l i = i := by
  unfold digitsEnd
  by_cases hi : i < l.length
  · have e : l.drop i = l[i] :: l.drop (i + 1) := List.drop_eq_getElem_cons hi
    have e2 : atL l i = l[i].toNat := by simp [atL, List.getD, hi]
    rw [e2] at h
    rw [e, List.takeWhile_cons, if_neg (by simp [h])]; rfl
  · rw [List.drop_eq_nil_of_le (by omega)]; rfl
theorem lexDigits_ev (b : Bool) (l : List UInt8) (i : Nat) (hl : l.length ≤ 140737488355328) (hi : i ≤ 140737488355330) : Ev Tryz.prog γ 276 [.sl b l.length l.length (l.map byteC), .v (.int .i64 i)] (.v (.int .i64 (digitsEnd l i))) := by
  refine Ev.of Tryz.func276 rfl ?_
  simp only [Tryz.f276, evS, Nat.reduceAdd, Nat.reduceSub, Nat.reduceLT]
  refine LoopK.intro (fun j : Nat => ⟨⟨12, [(0, .sl b l.length l.length (l.map byteC)), (1, .v (.int .i64 j))], γ⟩, []⟩) (fun j => j ≤ 140737488355330 ∧ digitsEnd l j = digitsEnd l i) (fun j => l.length - j) i ?_ ⟨hi, rfl⟩ (fun j hj => ?_)
  · simp only [evS, Nat.reduceEqDiff, reduceCtorEq]
  · simp only [evS, Nat.reduceLT, Nat.reduceEqDiff, reduceCtorEq]
    refine CallK.intro b71 (by simp [treeL, treeA]) (lexAt_ev b l j) ?_
    simp only [evS, Nat.reduceLT, Nat.reduceEqDiff, reduceCtorEq]
    refine CallK.intro b47 rfl (lexDigit_ev _) ?_
    simp only [evS, Nat.reduceLT, Nat.reduceEqDiff, reduceCtorEq]
    refine CondK.intro (fun h => ?_) (fun h => ?_) <;> simp only [h, evS, Nat.reduceLT, Nat.reduceEqDiff, reduceCtorEq]
    · have hs := digitsEnd_step h
      have ew : IntKind.i64.wrap ((j : Int) + 1) = ((j + 1 : Nat) : Int) := by rw [i64w] <;> omega
      refine loopC.intro (j + 1) ⟨by omega, by rw [← hs.1]; exact hj.2⟩ ?_ (by omega)
      simp only [ew, evS, Nat.reduceEqDiff, reduceCtorEq]
    · have hs := digitsEnd_stop h
      rw [hs] at hj
      rw [← hj.2]
end Go.Proofs.YtlobiioioicmhaaGreatDoor
namespace Go.Proofs.YtlobiioioicmhaaGreatDoor
set_option linter.all false
open Go Go.Ev
set_option maxRecDepth 20000
variable {γ : List (Nat × AV)}
/-- Where the bytes with p end, from a place on. -/
def spanEnd (p : Nat → Bool) (l : List UInt8) (i : Nat) : Nat := i + ((l.drop i).takeWhile fun c => p c.toNat).length
theorem spanEnd_step {p : Nat → Bool} {l : List UInt8} {i : Nat} (hi : i < l.length) (h : p (l.getD i 0).toNat = true) : spanEnd p l i = spanEnd p l (i + 1) := by
  have e : l.drop i = l[i] :: l.drop (i + 1) := List.drop_eq_getElem_cons hi
  have e2 : l.getD i 0 = l[i] := by simp [List.getD, hi]
  rw [e2] at h
  unfold spanEnd
  rw [e, List.takeWhile_cons, if_pos h]
  simp only [List.length_cons]; omega
theorem spanEnd_stop {p : Nat → Bool} {l : List UInt8} {i : Nat} (h : i < l.length → p (l.getD i 0).toNat = false) : spanEnd p l i = i := by
  unfold spanEnd
  by_cases hi : i < l.length
  · have e : l.drop i = l[i] :: l.drop (i + 1) := List.drop_eq_getElem_cons hi
    have e2 : l.getD i 0 = l[i] := by simp [List.getD, hi]
    have h := h hi
    rw [e2] at h
    rw [e, List.takeWhile_cons, if_neg (by simp [h])]; rfl
  · rw [List.drop_eq_nil_of_le (by omega)]; rfl
theorem spanEnd_le {p : Nat → Bool} {l : List UInt8} {i : Nat} (h : i ≤ l.length) : i ≤ spanEnd p l i ∧ spanEnd p l i ≤ l.length := by
  unfold spanEnd
  have := (List.takeWhile_sublist (l := l.drop i) (fun c => p c.toNat)).length_le
  rw [List.length_drop] at this
  omega
theorem digitsEnd_span (l : List UInt8) (i : Nat) : digitsEnd l i = spanEnd digitN l i := rfl
def tokA (kind : Int) (text : List UInt8) (int : Int) (real : AV) (pos size : Int) : AV :=
  .agg [.v (.int .i64 kind), .v (.string ⟨text.toArray⟩), .v (.int .i64 int), real, .v (.int .i64 pos), .v (.int .i64 size)]
def f0 : AV := .v (.float .f64 0)
set_option maxRecDepth 20000 in
theorem lexName_ev (b : Bool) (l : List UInt8) (hl : l.length ≤ 140737488355328) (h1 : 1 ≤ l.length) : Ev Tryz.prog γ 240 [.sl b l.length l.length (l.map byteC)] (tokA 1 (l.take (spanEnd nameN l 1)) 0 f0 0 (spanEnd nameN l 1 : Nat)) := by
  refine Ev.of Tryz.func240 rfl ?_
  simp only [Tryz.f240, evS, tyS, Nat.reduceAdd, Nat.reduceSub, Nat.reduceLT]
  refine LoopK.intro (fun j : Nat => ⟨⟨23, [(0, .sl b l.length l.length (l.map byteC)), (2, .ptr 0 0 0), (3, .v (.int .i64 j))], γ⟩, [⟨0, 53, [.v (.int .i64 0), .v (.string ⟨#[]⟩), .v (.int .i64 0), .v (.float .f64 0), .v (.int .i64 0), .v (.int .i64 0)]⟩]⟩) (fun j => j ≤ l.length ∧ spanEnd nameN l j = spanEnd nameN l 1) (fun j => l.length - j) 1 ?_ ⟨h1, rfl⟩ (fun j hj => ?_)
  · simp only [evS, Nat.reduceEqDiff, reduceCtorEq]
    rfl
  · have hstop : ∀ (hs : j < l.length → nameN (l.getD j 0).toNat = false), spanEnd nameN l 1 = j := fun hs => hj.2.symm.trans (spanEnd_stop hs)
    simp only [evS, tyS, Nat.reduceLT, Nat.reduceEqDiff, reduceCtorEq]
    (repeat' (first | (with_reducible refine And.intro ?_ ?_) | ((first | refine GuardK.intro_f (fun h => ?_) (fun h => ?_) | refine GuardK.intro_t (fun h => ?_) (fun h => ?_) | refine CondK.intro (fun h => ?_) (fun h => ?_) | refine PickK.intro (fun h => ?_) (fun h => ?_)) <;> simp only [h, evS, tyS, Nat.reduceAdd, Nat.reduceLT, Nat.reduceLeDiff, Nat.reduceEqDiff, reduceCtorEq]) | (refine DrawK.intro (by kernel_rfl) (by kernel_rfl) ?_; simp only [evS, tyS, Bool.not_true, Bool.not_false, Nat.reduceAdd, Nat.reduceSub, Nat.reduceMul, Nat.reduceLT, Nat.reduceLeDiff, Nat.reduceEqDiff, reduceCtorEq, List.reduceReplicate, Int.reduceToNat, Int.reduceLE, Int.reduceLT])))
    all_goals try (((try simp only [decide_eq_true_eq, decide_eq_false_iff_not] at *) <;> (try omega)); done)
    · ((try simp only [decide_eq_true_eq] at *) <;> (try omega))
      refine CallK.intro b69 rfl (lexInName_ev _) ?_
      simp only [evS, Nat.reduceLT, Nat.reduceEqDiff, reduceCtorEq]
      refine CondK.intro (fun h => ?_) (fun h => ?_) <;> simp only [h, evS, tyS, Nat.reduceAdd, Nat.reduceLT, Nat.reduceLeDiff, Nat.reduceEqDiff, reduceCtorEq]
      · have ew : IntKind.i64.wrap ((j : Int) + 1) = ((j + 1 : Nat) : Int) := by rw [i64w] <;> omega
        refine loopC.intro (j + 1) ⟨by omega, by rw [← spanEnd_step (by omega) h]; exact hj.2⟩ ?_ (by omega)
        simp only [ew, evS, Nat.reduceEqDiff, reduceCtorEq]
      · rw [hstop fun _ => h]
        simp only [tokA, f0, evS]
        (repeat' (first | (with_reducible refine And.intro ?_ ?_) | ((first | refine GuardK.intro_f (fun h => ?_) (fun h => ?_) | refine GuardK.intro_t (fun h => ?_) (fun h => ?_) | refine CondK.intro (fun h => ?_) (fun h => ?_) | refine PickK.intro (fun h => ?_) (fun h => ?_)) <;> simp only [h, evS, tyS, Bool.not_true, Bool.not_false, Nat.reduceAdd, Nat.reduceSub, Nat.reduceMul, Nat.reduceLT, Nat.reduceLeDiff, Nat.reduceEqDiff, reduceCtorEq, List.reduceReplicate, Int.reduceToNat, Int.reduceLE, Int.reduceLT]) | (refine DrawK.intro (by kernel_rfl) (by kernel_rfl) ?_; simp only [evS, tyS, Bool.not_true, Bool.not_false, Nat.reduceAdd, Nat.reduceSub, Nat.reduceMul, Nat.reduceLT, Nat.reduceLeDiff, Nat.reduceEqDiff, reduceCtorEq, List.reduceReplicate, Int.reduceToNat, Int.reduceLE, Int.reduceLT])))
        all_goals first | (((try simp only [decide_eq_true_eq, decide_eq_false_iff_not, beq_iff_eq, bne_iff_ne, ne_eq, beq_eq_false_iff_ne, bne_eq_false_iff_eq] at *) <;> (try omega)); done) | trivial
    · ((try simp only [decide_eq_false_iff_not] at *) <;> (try omega))
      rw [hstop fun h' => by omega]
      simp only [tokA, f0, evS]
end Go.Proofs.YtlobiioioicmhaaGreatDoor
namespace Go.Proofs.YtlobiioioicmhaaGreatDoor
set_option linter.all false
open Go Go.Ev
set_option maxRecDepth 20000
variable {γ : List (Nat × AV)}
theorem b76 : bodyT Tryz.prog 160 := ⟨_, Tryz.func160, by kernel_rfl, by kernel_rfl⟩
theorem b102 : bodyT Tryz.prog 218 := ⟨_, Tryz.func218, by kernel_rfl, by kernel_rfl⟩
theorem sl_IndexByte_ev (s : ByteArray) (c : Int) : Ev Tryz.prog γ 218 [.v (.string s), .v (.int .u8 c)] (.v (.int .i64 (Lib.indexByte s.data.toList c.toNat.toUInt8))) := by
  refine Ev.of Tryz.func218 rfl ?_
  simp only [Tryz.f218, evS, Nat.reduceAdd, Nat.reduceSub, Nat.reduceLT, Nat.reduceEqDiff, reduceCtorEq]
  refine CallK.ext (ext_indexByteString Tryz.func257 (by kernel_rfl) (by kernel_rfl) (by kernel_rfl) (by kernel_rfl) s c) ?_
  simp only [evS, Nat.reduceLT, Nat.reduceEqDiff, reduceCtorEq]
theorem strings_IndexByte_ev (s : ByteArray) (c : Int) : Ev Tryz.prog γ 160 [.v (.string s), .v (.int .u8 c)] (.v (.int .i64 (Lib.indexByte s.data.toList c.toNat.toUInt8))) := by
  refine Ev.of Tryz.func160 rfl ?_
  simp only [Tryz.f160, evS, Nat.reduceAdd, Nat.reduceSub, Nat.reduceLT, Nat.reduceEqDiff, reduceCtorEq]
  refine CallK.intro b102 rfl (sl_IndexByte_ev s c) ?_
  simp only [evS, Nat.reduceLT, Nat.reduceEqDiff, reduceCtorEq]
/-- What a digit of sixteen says; -1: it is none. -/
def hexN (n : Nat) : Int := if 48 ≤ n ∧ n ≤ 57 then n - 48 else if 97 ≤ n ∧ n ≤ 102 then n - 87 else -1
theorem refHex_ev (n : Nat) (hn : n < 256) : Ev Tryz.prog γ 251 [.v (.int .u8 n)] (.v (.int .i64 (hexN n))) := by
  refine Ev.of Tryz.func251 rfl ?_
  simp only [Tryz.f251, evS, Nat.reduceAdd, Nat.reduceSub, Nat.reduceLT, Nat.reduceEqDiff, reduceCtorEq]
  refine CallK.intro b41 rfl (refDigit_ev n) ?_
  simp only [evS, Nat.reduceLT, Nat.reduceEqDiff, reduceCtorEq]
  refine CondK.intro (fun h => ?_) (fun h => ?_) <;> simp only [h, evS, tyS, Nat.reduceLT, Nat.reduceEqDiff, reduceCtorEq]
  · have h' : 48 ≤ n ∧ n ≤ 57 := by simpa [digitN] using h
    have e1 : IntKind.u8.wrap ((n : Int) - 48) = (n : Int) - 48 := by rw [u8w] <;> omega
    simp only [e1]
    rw [hexN, if_pos h', i64w (by omega) (by omega)]
  · have h' : ¬ (48 ≤ n ∧ n ≤ 57) := by simpa [digitN] using h
    (repeat' (first | (with_reducible refine And.intro ?_ ?_) | ((first | refine GuardK.intro_f (fun h => ?_) (fun h => ?_) | refine GuardK.intro_t (fun h => ?_) (fun h => ?_) | refine CondK.intro (fun h => ?_) (fun h => ?_) | refine PickK.intro (fun h => ?_) (fun h => ?_)) <;> simp only [h, evS, tyS, Nat.reduceLT, Nat.reduceEqDiff, reduceCtorEq]) | (refine DrawK.intro (by kernel_rfl) (by kernel_rfl) ?_; simp only [evS, tyS, Bool.not_true, Bool.not_false, Nat.reduceAdd, Nat.reduceSub, Nat.reduceMul, Nat.reduceLT, Nat.reduceLeDiff, Nat.reduceEqDiff, reduceCtorEq, List.reduceReplicate, Int.reduceToNat, Int.reduceLE, Int.reduceLT])))
    · ((try simp only [decide_eq_true_eq] at *) <;> (try omega))
      have e2 : IntKind.i64.wrap ((n : Int) - 97) = (n : Int) - 97 := by rw [i64w] <;> omega
      rw [hexN, if_neg h', if_pos (by omega), u8w (by omega) (by omega), e2, i64w (by omega) (by omega)]
      congr 2
      omega
    · ((try simp only [decide_eq_true_eq, decide_eq_false_iff_not] at *) <;> (try omega))
      rw [hexN, if_neg h', if_neg (by omega)]
    · ((try simp only [decide_eq_false_iff_not] at *) <;> (try omega))
      rw [hexN, if_neg h', if_neg (by omega)]
theorem hexN_index (c : UInt8) : Lib.indexByte [48, 49, 50, 51, 52, 53, 54, 55, 56, 57, 97, 98, 99, 100, 101, 102] c = hexN c.toNat := by
  have := b256 (p := fun n => Lib.indexByte [48, 49, 50, 51, 52, 53, 54, 55, 56, 57, 97, 98, 99, 100, 101, 102] (UInt8.ofNat n) = hexN n) (by decide +kernel) c
  simpa using this
theorem hexIdx_ev (c : UInt8) : Ev Tryz.prog γ 160 [.v (.string ⟨#[48, 49, 50, 51, 52, 53, 54, 55, 56, 57, 97, 98, 99, 100, 101, 102]⟩), .v (.int .u8 (c.toNat : Nat))] (.v (.int .i64 (hexN c.toNat))) := by
  have := strings_IndexByte_ev (γ := γ) ⟨#[48, 49, 50, 51, 52, 53, 54, 55, 56, 57, 97, 98, 99, 100, 101, 102]⟩ (c.toNat : Nat)
  rw [← hexN_index]
  simpa using this
theorem hexN_le (n : Nat) : -1 ≤ hexN n ∧ hexN n ≤ 15 := by
  unfold hexN
  split
  · omega
  · split <;> omega
/-- What an escape stands for, and how many bytes it has; 0: there is none. -/
def escV (a b : Nat) : Nat := (16 * hexN a + hexN b).toNat
def escF (l : List UInt8) : Nat × Nat :=
  if atL l 1 = 34 ∨ atL l 1 = 92 then (atL l 1, 2)
  else if atL l 1 = 120 ∧ 4 ≤ l.length ∧ 0 ≤ hexN (atL l 2) ∧ 0 ≤ hexN (atL l 3) ∧ (escV (atL l 2) (atL l 3) < 32 ∨ 126 < escV (atL l 2) (atL l 3)) then (escV (atL l 2) (atL l 3), 4)
  else (0, 0)
set_option maxRecDepth 20000 in
theorem lexEscaped_ev (b : Bool) (l : List UInt8) (hl : l.length ≤ 140737488355328) : Ev Tryz.prog γ 280 [.sl b l.length l.length (l.map byteC)] (.tup [.v (.int .u8 (escF l).1), .v (.int .i64 (escF l).2)]) := by
  refine Ev.of Tryz.func280 rfl ?_
  have hlen : ∀ i, atL l i ≠ 0 → i < l.length := fun i h => by
    by_cases hi : i < l.length
    · exact hi
    · exact absurd (by simp only [atL, List.getD]; rw [List.getElem?_eq_none (by omega)]; rfl) h
  simp only [Tryz.f280, evS, Nat.reduceAdd, Nat.reduceSub, Nat.reduceLT, Nat.reduceEqDiff, reduceCtorEq]
  refine CallK.intro b71 (by simp [treeL, treeA]) (lexAt_ev b l 1) ?_
  simp only [evS, Nat.reduceLT, Nat.reduceEqDiff, reduceCtorEq]
  have hlen' : atL l 1 ≠ 0 → 1 < l.length := hlen 1
  (repeat' (first | (with_reducible refine And.intro ?_ ?_) | ((first | refine GuardK.intro_f (fun h => ?_) (fun h => ?_) | refine GuardK.intro_t (fun h => ?_) (fun h => ?_) | refine CondK.intro (fun h => ?_) (fun h => ?_) | refine PickK.intro (fun h => ?_) (fun h => ?_)) <;> simp only [h, evS, tyS, Nat.reduceLT, Nat.reduceEqDiff, reduceCtorEq, Int.reduceToNat, Int.reduceLE]) | (refine DrawK.intro (by kernel_rfl) (by kernel_rfl) ?_; simp only [evS, tyS, Nat.reduceLT, Nat.reduceEqDiff, reduceCtorEq, Int.reduceToNat, Int.reduceLE])))
  all_goals try (((try simp only [decide_eq_true_eq, decide_eq_false_iff_not, beq_iff_eq, ne_eq, beq_eq_false_iff_ne] at *) <;> (try omega)); done)
  · ((try simp only [beq_iff_eq, ne_eq] at *) <;> (try omega)); rw [escF, if_pos (by omega)]; rfl
  · ((try simp only [beq_iff_eq, ne_eq] at *) <;> (try omega)); rw [escF, if_pos (by omega)]; rfl
  · ((try simp only [beq_iff_eq, ne_eq, beq_eq_false_iff_ne] at *) <;> (try omega)); rw [escF, if_pos (by omega)]; rfl
  · ((try simp only [beq_iff_eq, ne_eq, beq_eq_false_iff_ne] at *) <;> (try omega)); rw [escF, if_pos (by omega)]; rfl
  · ((try simp only [decide_eq_true_eq, beq_iff_eq, ne_eq, beq_eq_false_iff_ne] at *) <;> (try omega)); rw [escF, if_neg (by omega), if_neg (by omega)]; rfl
  · ((try simp only [decide_eq_true_eq, beq_iff_eq, ne_eq, beq_eq_false_iff_ne] at *) <;> (try omega)); rw [escF, if_neg (by omega), if_neg (by omega)]; rfl
  · ((try simp only [decide_eq_false_iff_not, beq_iff_eq, ne_eq, beq_eq_false_iff_ne] at *) <;> (try omega))
    refine CallK.intro b76 rfl (hexIdx_ev (l.getD 2 0)) ?_
    simp only [evS, tyS, Nat.reduceLT, Nat.reduceEqDiff, reduceCtorEq, Int.reduceToNat, Int.reduceLE]
    (repeat' (first | (with_reducible refine And.intro ?_ ?_) | ((first | refine GuardK.intro_f (fun h => ?_) (fun h => ?_) | refine GuardK.intro_t (fun h => ?_) (fun h => ?_) | refine CondK.intro (fun h => ?_) (fun h => ?_) | refine PickK.intro (fun h => ?_) (fun h => ?_)) <;> simp only [h, evS, tyS, Bool.not_true, Bool.not_false, Nat.reduceAdd, Nat.reduceSub, Nat.reduceMul, Nat.reduceLT, Nat.reduceLeDiff, Nat.reduceEqDiff, reduceCtorEq, List.reduceReplicate, Int.reduceToNat, Int.reduceLE, Int.reduceLT]) | (refine DrawK.intro (by kernel_rfl) (by kernel_rfl) ?_; simp only [evS, tyS, Bool.not_true, Bool.not_false, Nat.reduceAdd, Nat.reduceSub, Nat.reduceMul, Nat.reduceLT, Nat.reduceLeDiff, Nat.reduceEqDiff, reduceCtorEq, List.reduceReplicate, Int.reduceToNat, Int.reduceLE, Int.reduceLT])))
    all_goals try (((try simp only [decide_eq_true_eq, decide_eq_false_iff_not, beq_iff_eq, bne_iff_ne, ne_eq, beq_eq_false_iff_ne, bne_eq_false_iff_eq] at *) <;> (try omega)); done)
    refine CallK.intro b76 rfl (hexIdx_ev (l.getD 3 0)) ?_
    have x2 := hexN_le (atL l 2)
    have x3 := hexN_le (atL l 3)
    rw [show (l.getD 2 0).toNat = atL l 2 from rfl, show (l.getD 3 0).toNat = atL l 3 from rfl]
    have e1 : IntKind.i64.wrap (16 * hexN (atL l 2)) = 16 * hexN (atL l 2) := by rw [i64w] <;> omega
    have e2 : IntKind.i64.wrap (16 * hexN (atL l 2) + hexN (atL l 3)) = 16 * hexN (atL l 2) + hexN (atL l 3) := by rw [i64w] <;> omega
    simp only [e1, e2, evS, tyS, Nat.reduceLT, Nat.reduceEqDiff, reduceCtorEq]
    (repeat' (first | (with_reducible refine And.intro ?_ ?_) | ((first | refine GuardK.intro_f (fun h => ?_) (fun h => ?_) | refine GuardK.intro_t (fun h => ?_) (fun h => ?_) | refine CondK.intro (fun h => ?_) (fun h => ?_) | refine PickK.intro (fun h => ?_) (fun h => ?_)) <;> simp only [h, evS, Nat.reduceLT, Nat.reduceEqDiff, reduceCtorEq]) | (refine DrawK.intro (by kernel_rfl) (by kernel_rfl) ?_; simp only [evS, tyS, Bool.not_true, Bool.not_false, Nat.reduceAdd, Nat.reduceSub, Nat.reduceMul, Nat.reduceLT, Nat.reduceLeDiff, Nat.reduceEqDiff, reduceCtorEq, List.reduceReplicate, Int.reduceToNat, Int.reduceLE, Int.reduceLT])))
    all_goals
      by_cases hh : 0 ≤ hexN (atL l 2) ∧ 0 ≤ hexN (atL l 3)
      · have e3 : IntKind.u8.wrap (16 * hexN (atL l 2) + hexN (atL l 3)) = (escV (atL l 2) (atL l 3) : Int) := by
          rw [u8w (by omega) (by omega)]; unfold escV; omega
        simp only [e3] at *
        ((try simp only [decide_eq_true_eq, decide_eq_false_iff_not] at *) <;> (try omega)) <;> first
          | (rw [escF, if_neg (by omega), if_pos (by omega)]; done)
          | (rw [escF, if_neg (by omega), if_neg (by omega)]; rfl)
          | (rw [escF, if_neg (by omega), if_pos (by omega)]; rfl)
          | omega
      · ((try simp only [decide_eq_true_eq, decide_eq_false_iff_not] at *) <;> (try omega)) <;> first
          | (rw [escF, if_neg (by omega), if_neg (by omega)]; rfl)
          | omega
  all_goals (((try simp only [ne_eq, beq_eq_false_iff_ne] at *) <;> (try omega)); rw [escF, if_neg (by omega), if_neg (by omega)]; rfl)
end Go.Proofs.YtlobiioioicmhaaGreatDoor
namespace Go.Proofs.YtlobiioioicmhaaGreatDoor
set_option linter.all false
open Go Go.Ev
set_option maxRecDepth 20000
variable {γ : List (Nat × AV)}
theorem b74 : bodyT Tryz.prog 280 := ⟨_, Tryz.func280, by kernel_rfl, by kernel_rfl⟩
/-- lex.text: what the text stands for, and where it ends; none: it is wrong. -/
def textF : Nat → List UInt8 → Nat → List UInt8 → Option (List UInt8 × Nat)
  | 0, _, _, _ => none
  | k + 1, l, i, d =>
    if l.length ≤ i then none
    else if atL l i = 34 ∧ d.length ≤ 256 then some (d, i + 1)
    else if atL l i = 92 then (if (escF (l.drop i)).2 = 0 then none else textF k l (i + (escF (l.drop i)).2) (d ++ [UInt8.ofNat (escF (l.drop i)).1]))
    else if atL l i = 34 ∨ atL l i < 32 ∨ 126 < atL l i then none
    else textF k l (i + 1) (d ++ [UInt8.ofNat (atL l i)])
def zero6 : List AV := [.v (.int .i64 0), .v (.string ⟨#[]⟩), .v (.int .i64 0), .v (.float .f64 0), .v (.int .i64 0), .v (.int .i64 0)]
def textR : Option (List UInt8 × Nat) → AV
  | none => .tup [.agg zero6, .v (.int .i64 11)]
  | some (d, n) => .tup [tokA 4 d 0 f0 0 n, .v (.int .i64 0)]
def textS (γ : List (Nat × AV)) (l : List UInt8) (b : Bool) : Nat × List UInt8 → St
  | (i, []) => ⟨⟨69, [(0, .sl b l.length l.length (l.map byteC)), (2, .ptr 0 0 0), (5, .v (.int .i64 i)), (4, .v (.slice none 0 0))], γ⟩, [⟨0, 53, zero6⟩]⟩
  | (i, x :: d) => ⟨⟨69, [(0, .sl b l.length l.length (l.map byteC)), (2, .ptr 0 0 0), (5, .v (.int .i64 i)), (4, .own 2 d.length (x :: d).length)], γ⟩, [⟨0, 53, zero6⟩, ⟨0, 5, [byteC x]⟩, ⟨d.length, 5, (x :: d).map byteC⟩]⟩
theorem textS_nil (γ : List (Nat × AV)) (l : List UInt8) (b : Bool) (i : Nat) : textS γ l b (i, []) = ⟨⟨69, [(0, .sl b l.length l.length (l.map byteC)), (2, .ptr 0 0 0), (5, .v (.int .i64 i)), (4, .v (.slice none 0 0))], γ⟩, [⟨0, 53, zero6⟩]⟩ := rfl
theorem textS_cons (γ : List (Nat × AV)) (l : List UInt8) (b : Bool) (i : Nat) (x : UInt8) (d : List UInt8) : textS γ l b (i, x :: d) = ⟨⟨69, [(0, .sl b l.length l.length (l.map byteC)), (2, .ptr 0 0 0), (5, .v (.int .i64 i)), (4, .own 2 d.length (x :: d).length)], γ⟩, [⟨0, 53, zero6⟩, ⟨0, 5, [byteC x]⟩, ⟨d.length, 5, (x :: d).map byteC⟩]⟩ := rfl
theorem textS_ne (γ : List (Nat × AV)) (l : List UInt8) (b : Bool) (i : Nat) {D : List UInt8} (h : D ≠ []) : textS γ l b (i, D) = ⟨⟨69, [(0, .sl b l.length l.length (l.map byteC)), (2, .ptr 0 0 0), (5, .v (.int .i64 i)), (4, .own 2 (D.length - 1) D.length)], γ⟩, [⟨0, 53, zero6⟩, ⟨0, 5, [byteC (D.getD 0 0)]⟩, ⟨D.length - 1, 5, D.map byteC⟩]⟩ := by
  cases D with
  | nil => exact absurd rfl h
  | cons x d => rfl
theorem textS_app (γ : List (Nat × AV)) (l : List UInt8) (b : Bool) (i : Nat) {d : List UInt8} (y : UInt8) (h : d ≠ []) : textS γ l b (i, d ++ [y]) = ⟨⟨69, [(0, .sl b l.length l.length (l.map byteC)), (2, .ptr 0 0 0), (5, .v (.int .i64 i)), (4, .own 2 d.length (d.length + 1))], γ⟩, [⟨0, 53, zero6⟩, ⟨0, 5, [byteC (d.getD 0 0)]⟩, ⟨d.length, 5, d.map byteC ++ [byteC y]⟩]⟩ := by
  cases d with
  | nil => exact absurd rfl h
  | cons x d => simp [textS]
theorem escF_2 (l : List UInt8) : (escF l).2 = 0 ∨ (escF l).2 = 2 ∨ (escF l).2 = 4 := by
  unfold escF; split
  · exact .inr (.inl rfl)
  · split
    · exact .inr (.inr rfl)
    · exact .inl rfl
theorem escF_1 (l : List UInt8) : (escF l).1 < 256 := by
  unfold escF; split
  · exact (l.getD 1 0).toNat_lt
  · split
    · show escV _ _ < 256
      unfold escV
      have := hexN_le (atL l 2); have := hexN_le (atL l 3); omega
    · show 0 < 256; omega
theorem atL_lt (l : List UInt8) (i : Nat) : atL l i < 256 := (l.getD i 0).toNat_lt
set_option maxRecDepth 20000 in
theorem lexText_ev (b : Bool) (l : List UInt8) (hl : l.length ≤ 140737488351232) : Ev Tryz.prog γ 243 [.sl b l.length l.length (l.map byteC)] (textR (textF l.length l 1 [])) := by
  refine Ev.of Tryz.func243 rfl ?_
  generalize hR : textR (textF l.length l 1 []) = R
  simp only [Tryz.f243, evS, tyS, Nat.reduceAdd, Nat.reduceSub, Nat.reduceLT]
  refine LoopK.intro (textS γ l b) (fun a => a.2.length ≤ a.1 ∧ 1 ≤ a.1 ∧ a.1 ≤ l.length + 4 ∧ ∃ k, l.length ≤ k + a.1 ∧ textR (textF k l a.1 a.2) = R) (fun a => l.length + 4 - a.1) (1, []) ?_ ⟨by simp, by simp, by simp, l.length, by simp, hR⟩ ?_
  · simp only [textS_nil, zero6, evS, Nat.reduceEqDiff, reduceCtorEq]
    (repeat' (first | (with_reducible refine And.intro ?_ ?_) | ((first | refine GuardK.intro_f (fun h => ?_) (fun h => ?_) | refine GuardK.intro_t (fun h => ?_) (fun h => ?_) | refine CondK.intro (fun h => ?_) (fun h => ?_) | refine PickK.intro (fun h => ?_) (fun h => ?_)) <;> simp only [h, evS, tyS, Bool.not_true, Bool.not_false, Nat.reduceAdd, Nat.reduceSub, Nat.reduceMul, Nat.reduceLT, Nat.reduceLeDiff, Nat.reduceEqDiff, reduceCtorEq, List.reduceReplicate, Int.reduceToNat, Int.reduceLE, Int.reduceLT]) | (refine DrawK.intro (by kernel_rfl) (by kernel_rfl) ?_; simp only [evS, tyS, Bool.not_true, Bool.not_false, Nat.reduceAdd, Nat.reduceSub, Nat.reduceMul, Nat.reduceLT, Nat.reduceLeDiff, Nat.reduceEqDiff, reduceCtorEq, List.reduceReplicate, Int.reduceToNat, Int.reduceLE, Int.reduceLT])))
    all_goals rfl
  · rintro ⟨i, d⟩ ⟨hd, hi1, hi4, k, hk, hR⟩
    have hend : l.length ≤ i → R = .tup [.agg zero6, .v (.int .i64 11)] := fun h => by
      rw [← hR]
      cases k with
      | zero => rfl
      | succ k => simp only [textF, if_pos h, textR]
    have hs : i < l.length → ∃ k', l.length ≤ k' + i + 1 ∧ R = textR (if atL l i = 34 ∧ d.length ≤ 256 then some (d, i + 1)
        else if atL l i = 92 then (if (escF (l.drop i)).2 = 0 then none else textF k' l (i + (escF (l.drop i)).2) (d ++ [UInt8.ofNat (escF (l.drop i)).1]))
        else if atL l i = 34 ∨ atL l i < 32 ∨ 126 < atL l i then none
        else textF k' l (i + 1) (d ++ [UInt8.ofNat (atL l i)])) := fun h => by
      cases k with
      | zero => simp only at hk; omega
      | succ k =>
        refine ⟨k, by simp only at hk; omega, ?_⟩
        rw [← hR]
        simp only [textF, if_neg (show ¬ l.length ≤ i by omega)]
    have ea : (l.getD i 0).toNat = atL l i := rfl
    have hb256 := atL_lt l i
    have hub : ((UInt8.ofNat (atL l i)).toNat : Int) = atL l i := by rw [UInt8.toNat_ofNat_of_lt' hb256]
    have hx1 := escF_1 (l.drop i)
    have hx2 := escF_2 (l.drop i)
    have hue : ((UInt8.ofNat (escF (l.drop i)).1).toNat : Int) = (escF (l.drop i)).1 := by rw [UInt8.toNat_ofNat_of_lt' hx1]
    have ew1 : IntKind.i64.wrap ((i : Int) + 1) = ((i + 1 : Nat) : Int) := by simp only at hi4; rw [i64w] <;> omega
    have ewn : IntKind.i64.wrap ((i : Int) + ((escF (l.drop i)).2 : Nat)) = ((i + (escF (l.drop i)).2 : Nat) : Int) := by simp only at hi4; rw [i64w] <;> omega
    clear hR
    simp only at hd hi1 hi4 hk
    have hesc : Ev Tryz.prog γ 280 [.sl b (l.length - i) (l.length - i) (List.drop i (l.map byteC))] (.tup [.v (.int .u8 (escF (l.drop i)).1), .v (.int .i64 (escF (l.drop i)).2)]) := by
      have := lexEscaped_ev (γ := γ) b (l.drop i) (by rw [List.length_drop]; omega)
      rwa [List.length_drop, List.map_drop] at this
    by_cases hne : d = []
    · subst hne
      simp only [textS_nil, zero6, evS, tyS, Nat.reduceLT, Nat.reduceEqDiff, reduceCtorEq]
      (repeat' (first | (with_reducible refine And.intro ?_ ?_) | ((first | refine GuardK.intro_f (fun h => ?_) (fun h => ?_) | refine GuardK.intro_t (fun h => ?_) (fun h => ?_) | refine CondK.intro (fun h => ?_) (fun h => ?_) | refine PickK.intro (fun h => ?_) (fun h => ?_)) <;> simp only [h, ea, evS, tyS, Nat.reduceAdd, Nat.reduceLT, Nat.reduceLeDiff, Nat.reduceEqDiff, reduceCtorEq, List.reduceReplicate, Int.reduceLE]) | (refine DrawK.intro (by kernel_rfl) (by kernel_rfl) ?_; simp only [zero6, ea, evS, tyS, Bool.not_true, Bool.not_false, Nat.reduceAdd, Nat.reduceSub, Nat.reduceMul, Nat.reduceLT, Nat.reduceLeDiff, Nat.reduceEqDiff, reduceCtorEq, List.reduceReplicate, Int.reduceToNat, Int.reduceLE, Int.reduceLT])))
      all_goals try (((try simp only [decide_eq_true_eq, decide_eq_false_iff_not, beq_iff_eq, ne_eq, beq_eq_false_iff_ne] at *) <;> (try omega)); done)
      · ((try simp only [decide_eq_true_eq, beq_iff_eq] at *) <;> (try omega))
        obtain ⟨k', hk', hR'⟩ := hs (by omega)
        rw [if_pos ⟨by omega, by simp⟩] at hR'
        rw [hR', ew1]
        simp only [textR, tokA, f0, evS]
      · ((try simp only [decide_eq_true_eq, beq_iff_eq, ne_eq, beq_eq_false_iff_ne] at *) <;> (try omega))
        obtain ⟨k', hk', hR'⟩ := hs (by omega)
        rw [if_neg (by omega), if_pos (by omega)] at hR'
        refine CallK.intro b74 (by simp only [treeL, treeA, Bool.and_self]) hesc ?_
        simp only [evS, Nat.reduceLT, Nat.reduceEqDiff, reduceCtorEq]
        refine CondK.intro (fun h => ?_) (fun h => ?_)
        · ((try simp only [beq_iff_eq] at *) <;> (try omega))
          rw [if_pos (by omega)] at hR'
          simp only [evS, tyS, Nat.reduceAdd, Nat.reduceLT, Nat.reduceLeDiff, Nat.reduceEqDiff, reduceCtorEq]
          rw [hR']
          simp only [textR, zero6, evS]
        · ((try simp only [ne_eq, beq_eq_false_iff_ne] at *) <;> (try omega))
          rw [if_neg (by omega)] at hR'
          simp only [ewn, evS, tyS, Nat.reduceAdd, Nat.reduceLT, Nat.reduceLeDiff, Nat.reduceEqDiff, reduceCtorEq, List.reduceReplicate]
          (repeat' (first | (with_reducible refine And.intro ?_ ?_) | ((first | refine GuardK.intro_f (fun h => ?_) (fun h => ?_) | refine GuardK.intro_t (fun h => ?_) (fun h => ?_) | refine CondK.intro (fun h => ?_) (fun h => ?_) | refine PickK.intro (fun h => ?_) (fun h => ?_)) <;> simp only [h, evS, tyS, Bool.not_true, Bool.not_false, Nat.reduceAdd, Nat.reduceSub, Nat.reduceMul, Nat.reduceLT, Nat.reduceLeDiff, Nat.reduceEqDiff, reduceCtorEq, List.reduceReplicate, Int.reduceToNat, Int.reduceLE, Int.reduceLT]) | (refine DrawK.intro (by kernel_rfl) (by kernel_rfl) ?_; simp only [evS, tyS, Bool.not_true, Bool.not_false, Nat.reduceAdd, Nat.reduceSub, Nat.reduceMul, Nat.reduceLT, Nat.reduceLeDiff, Nat.reduceEqDiff, reduceCtorEq, List.reduceReplicate, Int.reduceToNat, Int.reduceLE, Int.reduceLT])))
          all_goals try (((try simp only [decide_eq_true_eq, decide_eq_false_iff_not, beq_iff_eq, bne_iff_ne, ne_eq, beq_eq_false_iff_ne, bne_eq_false_iff_eq] at *) <;> (try omega)); done)
          all_goals try exact all_one_map _
          refine loopC.intro (i + (escF (l.drop i)).2, [UInt8.ofNat (escF (l.drop i)).1]) ⟨by simp only [List.length_cons, List.length_nil] at *; omega, by simp only; omega, by simp only; omega, k', by simp only; omega, hR'.symm⟩ ?_ (by simp only; omega)
          refine ⟨rfl, rfl, ?_, .inl ?_⟩ <;> simp only [textS_cons, zero6, byteC, hue, evS, Nat.reduceEqDiff, reduceCtorEq] <;> try (first | rfl | trivial | (simp [byteC, hue, hub, okRef]; done))
      · ((try simp only [decide_eq_true_eq, decide_eq_false_iff_not, ne_eq, beq_eq_false_iff_ne] at *) <;> (try omega))
        obtain ⟨k', hk', hR'⟩ := hs (by omega)
        rw [if_neg (by omega), if_neg (by omega), if_pos (by omega)] at hR'
        rw [hR']
        simp only [textR, zero6, evS]
      · ((try simp only [decide_eq_true_eq, decide_eq_false_iff_not, ne_eq, beq_eq_false_iff_ne] at *) <;> (try omega))
        obtain ⟨k', hk', hR'⟩ := hs (by omega)
        rw [if_neg (by omega), if_neg (by omega), if_neg (by omega)] at hR'
        rw [ew1]
        refine loopC.intro (i + 1, [UInt8.ofNat (atL l i)]) ⟨by simp only [List.length_cons, List.length_nil] at *; omega, by simp only; omega, by simp only; omega, k', by simp only; omega, hR'.symm⟩ ?_ (by simp only; omega)
        refine ⟨rfl, rfl, ?_, .inl ?_⟩ <;> simp only [textS_cons, zero6, byteC, hub, evS, Nat.reduceEqDiff, reduceCtorEq] <;> try (first | rfl | trivial | (simp [byteC, hue, hub, okRef]; done))
      · ((try simp only [decide_eq_true_eq, ne_eq, beq_eq_false_iff_ne] at *) <;> (try omega))
        obtain ⟨k', hk', hR'⟩ := hs (by omega)
        rw [if_neg (by omega), if_neg (by omega), if_pos (by omega)] at hR'
        rw [hR']
        simp only [textR, zero6, evS]
      · ((try simp only [decide_eq_false_iff_not] at *) <;> (try omega))
        rw [hend (by omega)]
        simp only [zero6, evS]
    · have hp : 0 < d.length := List.length_pos_iff.2 hne
      have ev1 : d.length - 1 + 1 = d.length := by omega
      have ev2 : d.length + 1 - 1 = d.length := by omega
      simp only [textS_ne γ l b i hne, zero6, evS, tyS, Nat.reduceLT, Nat.reduceEqDiff, reduceCtorEq]
      (repeat' (first | (with_reducible refine And.intro ?_ ?_) | ((first | refine GuardK.intro_f (fun h => ?_) (fun h => ?_) | refine GuardK.intro_t (fun h => ?_) (fun h => ?_) | refine CondK.intro (fun h => ?_) (fun h => ?_) | refine PickK.intro (fun h => ?_) (fun h => ?_)) <;> simp only [h, ea, evS, tyS, Nat.reduceAdd, Nat.reduceLT, Nat.reduceLeDiff, Nat.reduceEqDiff, reduceCtorEq, List.reduceReplicate]) | (refine DrawK.intro (by kernel_rfl) (by kernel_rfl) ?_; simp only [zero6, ea, evS, tyS, Bool.not_true, Bool.not_false, Nat.reduceAdd, Nat.reduceSub, Nat.reduceMul, Nat.reduceLT, Nat.reduceLeDiff, Nat.reduceEqDiff, reduceCtorEq, List.reduceReplicate, Int.reduceToNat, Int.reduceLE, Int.reduceLT])))
      all_goals try (((try simp only [decide_eq_true_eq, decide_eq_false_iff_not, beq_iff_eq, ne_eq, beq_eq_false_iff_ne] at *) <;> (try omega)); done)
      · ((try simp only [decide_eq_true_eq, beq_iff_eq] at *) <;> (try omega))
        obtain ⟨k', hk', hR'⟩ := hs (by omega)
        rw [if_pos ⟨by omega, by omega⟩] at hR'
        rw [hR', ew1]
        simp only [textR, tokA, f0, evS]
      · ((try simp only [decide_eq_true_eq, decide_eq_false_iff_not, beq_iff_eq, ne_eq, beq_eq_false_iff_ne] at *) <;> (try omega))
        obtain ⟨k', hk', hR'⟩ := hs (by omega)
        rw [if_neg (by omega), if_neg (by omega), if_pos (by omega)] at hR'
        rw [hR']
        simp only [textR, zero6, evS]
      · ((try simp only [decide_eq_true_eq, beq_iff_eq, ne_eq, beq_eq_false_iff_ne] at *) <;> (try omega))
        obtain ⟨k', hk', hR'⟩ := hs (by omega)
        rw [if_neg (by omega), if_pos (by omega)] at hR'
        refine CallK.intro b74 (by simp only [treeL, treeA, Bool.and_self]) hesc ?_
        simp only [evS, Nat.reduceLT, Nat.reduceEqDiff, reduceCtorEq]
        refine CondK.intro (fun h => ?_) (fun h => ?_)
        · ((try simp only [beq_iff_eq] at *) <;> (try omega))
          rw [if_pos (by omega)] at hR'
          simp only [evS, tyS, Nat.reduceAdd, Nat.reduceLT, Nat.reduceLeDiff, Nat.reduceEqDiff, reduceCtorEq]
          rw [hR']
          simp only [textR, zero6, evS]
        · ((try simp only [ne_eq, beq_eq_false_iff_ne] at *) <;> (try omega))
          rw [if_neg (by omega)] at hR'
          simp only [ewn, evS, tyS, Nat.reduceAdd, Nat.reduceLT, Nat.reduceLeDiff, Nat.reduceEqDiff, reduceCtorEq, List.reduceReplicate]
          (repeat' (first | (with_reducible refine And.intro ?_ ?_) | ((first | refine GuardK.intro_f (fun h => ?_) (fun h => ?_) | refine GuardK.intro_t (fun h => ?_) (fun h => ?_) | refine CondK.intro (fun h => ?_) (fun h => ?_) | refine PickK.intro (fun h => ?_) (fun h => ?_)) <;> simp only [h, evS, tyS, Bool.not_true, Bool.not_false, Nat.reduceAdd, Nat.reduceSub, Nat.reduceMul, Nat.reduceLT, Nat.reduceLeDiff, Nat.reduceEqDiff, reduceCtorEq, List.reduceReplicate, Int.reduceToNat, Int.reduceLE, Int.reduceLT]) | (refine DrawK.intro (by kernel_rfl) (by kernel_rfl) ?_; simp only [evS, tyS, Bool.not_true, Bool.not_false, Nat.reduceAdd, Nat.reduceSub, Nat.reduceMul, Nat.reduceLT, Nat.reduceLeDiff, Nat.reduceEqDiff, reduceCtorEq, List.reduceReplicate, Int.reduceToNat, Int.reduceLE, Int.reduceLT])))
          all_goals try (((try simp only [decide_eq_true_eq, decide_eq_false_iff_not, beq_iff_eq, bne_iff_ne, ne_eq, beq_eq_false_iff_ne, bne_eq_false_iff_eq] at *) <;> (try omega)); done)
          all_goals try exact all_one_map _
          refine loopC.intro (i + (escF (l.drop i)).2, d ++ [UInt8.ofNat (escF (l.drop i)).1]) ⟨by simp only [List.length_append, List.length_cons, List.length_nil] at *; omega, by simp only; omega, by simp only; omega, k', by simp only; omega, hR'.symm⟩ ?_ (by simp only; omega)
          have hT := textS_app γ l b (i + (escF (l.drop i)).2) (UInt8.ofNat (escF (l.drop i)).1) hne
          refine ⟨by rw [hT], by rw [hT], ?_, .inr ?_⟩ <;> rw [hT]
          · simp only [ev1, evS, Nat.reduceEqDiff, reduceCtorEq] <;> try (first | rfl | trivial | (simp [byteC, hue, hub, okRef]; done))
          · refine ⟨?_, ?_, ?_⟩ <;> simp only [zero6, byteC, hue, okRefL, okRef, okRefB, okRefL_map, okRefL_append, Bool.and_self, decide_true, ev1, evS, Nat.reduceAdd, Nat.reduceLT] <;> try (first | rfl | trivial | (simp [byteC, hue, hub, okRef]; done))
      · ((try simp only [decide_eq_true_eq, decide_eq_false_iff_not, ne_eq, beq_eq_false_iff_ne] at *) <;> (try omega))
        obtain ⟨k', hk', hR'⟩ := hs (by omega)
        rw [if_neg (by omega), if_neg (by omega), if_pos (by omega)] at hR'
        rw [hR']
        simp only [textR, zero6, evS]
      · ((try simp only [decide_eq_true_eq, decide_eq_false_iff_not, ne_eq, beq_eq_false_iff_ne] at *) <;> (try omega))
        obtain ⟨k', hk', hR'⟩ := hs (by omega)
        rw [if_neg (by omega), if_neg (by omega), if_neg (by omega)] at hR'
        rw [ew1]
        refine loopC.intro (i + 1, d ++ [UInt8.ofNat (atL l i)]) ⟨by simp only [List.length_append, List.length_cons, List.length_nil] at *; omega, by simp only; omega, by simp only; omega, k', by simp only; omega, hR'.symm⟩ ?_ (by simp only; omega)
        have hT := textS_app γ l b (i + 1) (UInt8.ofNat (atL l i)) hne
        refine ⟨by rw [hT], by rw [hT], ?_, .inr ?_⟩ <;> rw [hT]
        · simp only [ev1, evS, Nat.reduceEqDiff, reduceCtorEq] <;> try (first | rfl | trivial | (simp [byteC, hue, hub, okRef]; done))
        · refine ⟨?_, ?_, ?_⟩ <;> simp only [zero6, byteC, hub, okRefL, okRef, okRefB, okRefL_map, okRefL_append, Bool.and_self, decide_true, ev1, evS, Nat.reduceAdd, Nat.reduceLT] <;> try (first | rfl | trivial | (simp [byteC, hue, hub, okRef]; done))
      · ((try simp only [decide_eq_true_eq, ne_eq, beq_eq_false_iff_ne] at *) <;> (try omega))
        obtain ⟨k', hk', hR'⟩ := hs (by omega)
        rw [if_neg (by omega), if_neg (by omega), if_pos (by omega)] at hR'
        rw [hR']
        simp only [textR, zero6, evS]
      · ((try simp only [decide_eq_false_iff_not] at *) <;> (try omega))
        rw [hend (by omega)]
        simp only [zero6, evS]
end Go.Proofs.YtlobiioioicmhaaGreatDoor
namespace Go.Proofs.YtlobiioioicmhaaGreatDoor
set_option linter.all false
open Go Go.Ev
set_option maxRecDepth 20000
variable {γ : List (Nat × AV)}
/-- ref.part: what a text's part at a place stands for, and how many bytes it has; 0: there is none. -/
def partF (l : List UInt8) (i : Nat) : Nat × Nat :=
  if l.length ≤ i ∨ atL l i < 32 ∨ 126 < atL l i ∨ atL l i = 34 then (0, 0)
  else if atL l i ≠ 92 then (atL l i, 1)
  else if l.length < i + 2 then (0, 0)
  else if atL l (i + 1) = 34 then (34, 2)
  else if atL l (i + 1) = 92 then (92, 2)
  else if atL l (i + 1) = 120 ∧ i + 4 ≤ l.length ∧ 0 ≤ hexN (atL l (i + 2)) ∧ 0 ≤ hexN (atL l (i + 3)) ∧ (escV (atL l (i + 2)) (atL l (i + 3)) < 32 ∨ 126 < escV (atL l (i + 2)) (atL l (i + 3))) then (escV (atL l (i + 2)) (atL l (i + 3)), 4)
  else (0, 0)
set_option maxRecDepth 20000 in
set_option maxHeartbeats 2000000 in
theorem refPart_ev (b : Bool) (l : List UInt8) (i : Nat) (hl : l.length ≤ 140737488351232) (hi : i ≤ l.length) : Ev Tryz.prog γ 209 [.sl b l.length l.length (l.map byteC), .v (.int .i64 i)] (.tup [.v (.int .u8 (partF l i).1), .v (.int .i64 (partF l i).2)]) := by
  refine Ev.of Tryz.func209 rfl ?_
  have ew : IntKind.i64.wrap ((l.length : Int) - i) = ((l.length - i : Nat) : Int) := by rw [i64w] <;> omega
  have e1 : IntKind.i64.wrap ((i : Int) + 1) = ((i + 1 : Nat) : Int) := by rw [i64w] <;> omega
  have e2 : IntKind.i64.wrap ((i : Int) + 2) = ((i + 2 : Nat) : Int) := by rw [i64w] <;> omega
  have e3 : IntKind.i64.wrap ((i : Int) + 3) = ((i + 3 : Nat) : Int) := by rw [i64w] <;> omega
  have ea : ∀ j, (l.getD j 0).toNat = atL l j := fun _ => rfl
  have x2 := hexN_le (atL l (i + 2))
  have x3 := hexN_le (atL l (i + 3))
  have w1 : IntKind.i64.wrap (16 * hexN (atL l (i + 2))) = 16 * hexN (atL l (i + 2)) := by rw [i64w] <;> omega
  have w2 : IntKind.i64.wrap (16 * hexN (atL l (i + 2)) + hexN (atL l (i + 3))) = 16 * hexN (atL l (i + 2)) + hexN (atL l (i + 3)) := by rw [i64w] <;> omega
  have h2 := refHex_ev (γ := γ) (atL l (i + 2)) (atL_lt l _)
  have h3 := refHex_ev (γ := γ) (atL l (i + 3)) (atL_lt l _)
  simp only [Tryz.f209, ew, evS, tyS, Nat.reduceAdd, Nat.reduceSub, Nat.reduceLT, Nat.reduceEqDiff, reduceCtorEq]
  (repeat' (first | (with_reducible refine And.intro ?_ ?_) | ((first | refine GuardK.intro_f (fun h => ?_) (fun h => ?_) | refine GuardK.intro_t (fun h => ?_) (fun h => ?_) | refine CondK.intro (fun h => ?_) (fun h => ?_) | refine PickK.intro (fun h => ?_) (fun h => ?_)) <;> simp only [h, e1, e2, ea, evS, tyS, Nat.reduceLT, Nat.reduceEqDiff, reduceCtorEq]) | (refine DrawK.intro (by kernel_rfl) (by kernel_rfl) ?_; simp only [ew, e1, e2, e3, ea, w1, w2, evS, tyS, Bool.not_true, Bool.not_false, Nat.reduceAdd, Nat.reduceSub, Nat.reduceMul, Nat.reduceLT, Nat.reduceLeDiff, Nat.reduceEqDiff, reduceCtorEq, List.reduceReplicate, Int.reduceToNat, Int.reduceLE, Int.reduceLT])))
  all_goals try (((try simp only [decide_eq_true_eq, decide_eq_false_iff_not, beq_iff_eq, bne_iff_ne, ne_eq, beq_eq_false_iff_ne, bne_eq_false_iff_eq] at *) <;> (try omega)); done)
  all_goals try (((try simp only [decide_eq_true_eq, decide_eq_false_iff_not, beq_iff_eq, bne_iff_ne, ne_eq, beq_eq_false_iff_ne, bne_eq_false_iff_eq] at *) <;> (try omega)) <;> first | (rw [partF, if_pos (by omega)] <;> rfl) | (rw [partF, if_neg (by omega), if_pos (by omega)] <;> rfl) | (rw [partF, if_neg (by omega), if_neg (by omega), if_pos (by omega)] <;> rfl) | (rw [partF, if_neg (by omega), if_neg (by omega), if_neg (by omega), if_pos (by omega)] <;> rfl) | (rw [partF, if_neg (by omega), if_neg (by omega), if_neg (by omega), if_neg (by omega), if_pos (by omega)] <;> rfl) | (rw [partF, if_neg (by omega), if_neg (by omega), if_neg (by omega), if_neg (by omega), if_neg (by omega), if_pos (by omega)] <;> rfl) | (rw [partF, if_neg (by omega), if_neg (by omega), if_neg (by omega), if_neg (by omega), if_neg (by omega), if_neg (by omega)] <;> rfl))
  · refine CallK.intro b99 rfl h2 ?_
    simp only [evS, Nat.reduceLT, Nat.reduceEqDiff, reduceCtorEq]
    (repeat' (first | (with_reducible refine And.intro ?_ ?_) | ((first | refine GuardK.intro_f (fun h => ?_) (fun h => ?_) | refine GuardK.intro_t (fun h => ?_) (fun h => ?_) | refine CondK.intro (fun h => ?_) (fun h => ?_) | refine PickK.intro (fun h => ?_) (fun h => ?_)) <;> simp only [h, e3, ea, evS, tyS, Nat.reduceLT, Nat.reduceEqDiff, reduceCtorEq]) | (refine DrawK.intro (by kernel_rfl) (by kernel_rfl) ?_; simp only [e2, e3, ea, w1, w2, evS, tyS, Bool.not_true, Bool.not_false, Nat.reduceAdd, Nat.reduceSub, Nat.reduceMul, Nat.reduceLT, Nat.reduceLeDiff, Nat.reduceEqDiff, reduceCtorEq, List.reduceReplicate, Int.reduceToNat, Int.reduceLE, Int.reduceLT])))
    all_goals try (((try simp only [decide_eq_true_eq, decide_eq_false_iff_not, beq_iff_eq, ne_eq, beq_eq_false_iff_ne, bne_eq_false_iff_eq] at *) <;> (try omega)); done)
    all_goals try (((try simp only [decide_eq_true_eq, decide_eq_false_iff_not, beq_iff_eq, ne_eq, beq_eq_false_iff_ne, bne_eq_false_iff_eq] at *) <;> (try omega)) <;> first | (rw [partF, if_pos (by omega)] <;> rfl) | (rw [partF, if_neg (by omega), if_pos (by omega)] <;> rfl) | (rw [partF, if_neg (by omega), if_neg (by omega), if_pos (by omega)] <;> rfl) | (rw [partF, if_neg (by omega), if_neg (by omega), if_neg (by omega), if_pos (by omega)] <;> rfl) | (rw [partF, if_neg (by omega), if_neg (by omega), if_neg (by omega), if_neg (by omega), if_pos (by omega)] <;> rfl) | (rw [partF, if_neg (by omega), if_neg (by omega), if_neg (by omega), if_neg (by omega), if_neg (by omega), if_pos (by omega)] <;> rfl) | (rw [partF, if_neg (by omega), if_neg (by omega), if_neg (by omega), if_neg (by omega), if_neg (by omega), if_neg (by omega)] <;> rfl))
    refine CallK.intro b99 rfl h3 ?_
    simp only [evS, Nat.reduceLT, Nat.reduceEqDiff, reduceCtorEq]
    (repeat' (first | (with_reducible refine And.intro ?_ ?_) | ((first | refine GuardK.intro_f (fun h => ?_) (fun h => ?_) | refine GuardK.intro_t (fun h => ?_) (fun h => ?_) | refine CondK.intro (fun h => ?_) (fun h => ?_) | refine PickK.intro (fun h => ?_) (fun h => ?_)) <;> simp only [h, evS, Nat.reduceLT, Nat.reduceEqDiff, reduceCtorEq]) | (refine DrawK.intro (by kernel_rfl) (by kernel_rfl) ?_; simp only [e2, ea, evS, tyS, Nat.reduceLT, Nat.reduceEqDiff, reduceCtorEq])))
    all_goals try (((try simp only [decide_eq_true_eq, decide_eq_false_iff_not, beq_iff_eq, ne_eq, beq_eq_false_iff_ne, bne_eq_false_iff_eq] at *) <;> (try omega)); done)
    all_goals try (((try simp only [decide_eq_true_eq, decide_eq_false_iff_not, beq_iff_eq, ne_eq, beq_eq_false_iff_ne, bne_eq_false_iff_eq] at *) <;> (try omega)) <;> first | (rw [partF, if_pos (by omega)] <;> rfl) | (rw [partF, if_neg (by omega), if_pos (by omega)] <;> rfl) | (rw [partF, if_neg (by omega), if_neg (by omega), if_pos (by omega)] <;> rfl) | (rw [partF, if_neg (by omega), if_neg (by omega), if_neg (by omega), if_pos (by omega)] <;> rfl) | (rw [partF, if_neg (by omega), if_neg (by omega), if_neg (by omega), if_neg (by omega), if_pos (by omega)] <;> rfl) | (rw [partF, if_neg (by omega), if_neg (by omega), if_neg (by omega), if_neg (by omega), if_neg (by omega), if_pos (by omega)] <;> rfl) | (rw [partF, if_neg (by omega), if_neg (by omega), if_neg (by omega), if_neg (by omega), if_neg (by omega), if_neg (by omega)] <;> rfl))
    refine CallK.intro b99 rfl h2 ?_
    simp only [w1, e3, ea, evS, tyS, Nat.reduceLT, Nat.reduceEqDiff, reduceCtorEq]
    (repeat' (first | (with_reducible refine And.intro ?_ ?_) | ((first | refine GuardK.intro_f (fun h => ?_) (fun h => ?_) | refine GuardK.intro_t (fun h => ?_) (fun h => ?_) | refine CondK.intro (fun h => ?_) (fun h => ?_) | refine PickK.intro (fun h => ?_) (fun h => ?_)) <;> simp only [h, e2, e3, ea, w1, w2, evS, tyS, Bool.not_true, Bool.not_false, Nat.reduceAdd, Nat.reduceSub, Nat.reduceMul, Nat.reduceLT, Nat.reduceLeDiff, Nat.reduceEqDiff, reduceCtorEq, List.reduceReplicate, Int.reduceToNat, Int.reduceLE, Int.reduceLT]) | (refine DrawK.intro (by kernel_rfl) (by kernel_rfl) ?_; simp only [e2, e3, ea, w1, w2, evS, tyS, Bool.not_true, Bool.not_false, Nat.reduceAdd, Nat.reduceSub, Nat.reduceMul, Nat.reduceLT, Nat.reduceLeDiff, Nat.reduceEqDiff, reduceCtorEq, List.reduceReplicate, Int.reduceToNat, Int.reduceLE, Int.reduceLT])))
    all_goals try (((try simp only [decide_eq_true_eq, decide_eq_false_iff_not, beq_iff_eq, ne_eq, beq_eq_false_iff_ne, bne_eq_false_iff_eq] at *) <;> (try omega)); done)
    refine CallK.intro b99 rfl h3 ?_
    by_cases hh : 0 ≤ hexN (atL l (i + 2)) ∧ 0 ≤ hexN (atL l (i + 3))
    · have u1 : IntKind.u8.wrap (16 * hexN (atL l (i + 2)) + hexN (atL l (i + 3))) = (escV (atL l (i + 2)) (atL l (i + 3)) : Int) := by
        rw [u8w (by omega) (by omega)]; unfold escV; omega
      simp only [w2, u1, evS, tyS, Nat.reduceLT, Nat.reduceEqDiff, reduceCtorEq]
      (repeat' (first | (with_reducible refine And.intro ?_ ?_) | ((first | refine GuardK.intro_f (fun h => ?_) (fun h => ?_) | refine GuardK.intro_t (fun h => ?_) (fun h => ?_) | refine CondK.intro (fun h => ?_) (fun h => ?_) | refine PickK.intro (fun h => ?_) (fun h => ?_)) <;> simp only [h, evS, Nat.reduceLT, Nat.reduceEqDiff, reduceCtorEq]) | (refine DrawK.intro (by kernel_rfl) (by kernel_rfl) ?_; simp only [evS, tyS, Bool.not_true, Bool.not_false, Nat.reduceAdd, Nat.reduceSub, Nat.reduceMul, Nat.reduceLT, Nat.reduceLeDiff, Nat.reduceEqDiff, reduceCtorEq, List.reduceReplicate, Int.reduceToNat, Int.reduceLE, Int.reduceLT])))
      all_goals try (((try simp only [decide_eq_true_eq, decide_eq_false_iff_not, beq_iff_eq, ne_eq, beq_eq_false_iff_ne, bne_eq_false_iff_eq] at *) <;> (try omega)) <;> first | (rw [partF, if_pos (by omega)] <;> rfl) | (rw [partF, if_neg (by omega), if_pos (by omega)] <;> rfl) | (rw [partF, if_neg (by omega), if_neg (by omega), if_pos (by omega)] <;> rfl) | (rw [partF, if_neg (by omega), if_neg (by omega), if_neg (by omega), if_pos (by omega)] <;> rfl) | (rw [partF, if_neg (by omega), if_neg (by omega), if_neg (by omega), if_neg (by omega), if_pos (by omega)] <;> rfl) | (rw [partF, if_neg (by omega), if_neg (by omega), if_neg (by omega), if_neg (by omega), if_neg (by omega), if_pos (by omega)] <;> rfl) | (rw [partF, if_neg (by omega), if_neg (by omega), if_neg (by omega), if_neg (by omega), if_neg (by omega), if_neg (by omega)] <;> rfl))
    · ((try simp only [decide_eq_true_eq, decide_eq_false_iff_not, beq_iff_eq, ne_eq, beq_eq_false_iff_ne, bne_eq_false_iff_eq] at *) <;> (try omega))
end Go.Proofs.YtlobiioioicmhaaGreatDoor
namespace Go.Proofs.YtlobiioioicmhaaGreatDoor
set_option linter.all false
open Go Go.Ev
set_option maxRecDepth 20000
variable {γ : List (Nat × AV)}
theorem b68 : bodyT Tryz.prog 209 := ⟨_, Tryz.func209, by kernel_rfl, by kernel_rfl⟩
/-- ref.text's loop: the parts one by one. -/
def partsF : Nat → List UInt8 → Nat → List UInt8 → List UInt8 × Nat
  | 0, _, i, d => (d, i)
  | k + 1, l, i, d => if (partF l i).2 = 0 then (d, i) else partsF k l (i + (partF l i).2) (d ++ [UInt8.ofNat (partF l i).1])
theorem partF_2 (l : List UInt8) (i : Nat) : (partF l i).2 = 0 ∨ (i + (partF l i).2 ≤ l.length ∧ (partF l i).2 ≤ 4) := by
  unfold partF
  split
  · exact .inl rfl
  · split
    · right; constructor
      · show i + 1 ≤ _; omega
      · show 1 ≤ 4; omega
    · split
      · exact .inl rfl
      · split
        · right; constructor
          · show i + 2 ≤ _; omega
          · show 2 ≤ 4; omega
        · split
          · right; constructor
            · show i + 2 ≤ _; omega
            · show 2 ≤ 4; omega
          · split
            · right; constructor
              · show i + 4 ≤ _; omega
              · show 4 ≤ 4; omega
            · exact .inl rfl
theorem partF_1 (l : List UInt8) (i : Nat) : (partF l i).1 < 256 := by
  unfold partF
  have := hexN_le (atL l (i + 2)); have := hexN_le (atL l (i + 3))
  split
  · show 0 < 256; omega
  · split
    · exact atL_lt l i
    · split
      · show 0 < 256; omega
      · split
        · show 34 < 256; omega
        · split
          · show 92 < 256; omega
          · split
            · show escV _ _ < 256
              unfold escV; omega
            · show 0 < 256; omega
def refTextR (l : List UInt8) (at' : Nat) (q : List UInt8 × Nat) : AV :=
  if l.length ≤ q.2 ∨ atL l q.2 ≠ 34 ∨ 256 < q.1.length then .tup [.agg zero6, .v (.int .i64 11)]
  else .tup [tokA 4 q.1 0 f0 at' ((q.2 + 1 - at' : Nat) : Int), .v (.int .i64 0)]
def rtextS (γ : List (Nat × AV)) (l : List UInt8) (b : Bool) (p : Nat) : Nat × List UInt8 → St
  | (i, []) => ⟨⟨52, [(0, .sl b l.length l.length (l.map byteC)), (1, .v (.int .i64 p)), (4, .ptr 0 0 0), (6, .v (.int .i64 i)), (7, .v (.slice none 0 0))], γ⟩, [⟨0, 54, zero6⟩]⟩
  | (i, x :: d) => ⟨⟨52, [(0, .sl b l.length l.length (l.map byteC)), (1, .v (.int .i64 p)), (4, .ptr 0 0 0), (6, .v (.int .i64 i)), (7, .own 2 d.length (x :: d).length)], γ⟩, [⟨0, 54, zero6⟩, ⟨0, 5, [byteC x]⟩, ⟨d.length, 5, (x :: d).map byteC⟩]⟩
theorem rtextS_nil (γ : List (Nat × AV)) (l : List UInt8) (b : Bool) (p i : Nat) : rtextS γ l b p (i, []) = ⟨⟨52, [(0, .sl b l.length l.length (l.map byteC)), (1, .v (.int .i64 p)), (4, .ptr 0 0 0), (6, .v (.int .i64 i)), (7, .v (.slice none 0 0))], γ⟩, [⟨0, 54, zero6⟩]⟩ := rfl
theorem rtextS_one (γ : List (Nat × AV)) (l : List UInt8) (b : Bool) (p i : Nat) (x : UInt8) : rtextS γ l b p (i, [x]) = ⟨⟨52, [(0, .sl b l.length l.length (l.map byteC)), (1, .v (.int .i64 p)), (4, .ptr 0 0 0), (6, .v (.int .i64 i)), (7, .own 2 0 1)], γ⟩, [⟨0, 54, zero6⟩, ⟨0, 5, [byteC x]⟩, ⟨0, 5, [byteC x]⟩]⟩ := rfl
theorem rtextS_ne (γ : List (Nat × AV)) (l : List UInt8) (b : Bool) (p i : Nat) {D : List UInt8} (h : D ≠ []) : rtextS γ l b p (i, D) = ⟨⟨52, [(0, .sl b l.length l.length (l.map byteC)), (1, .v (.int .i64 p)), (4, .ptr 0 0 0), (6, .v (.int .i64 i)), (7, .own 2 (D.length - 1) D.length)], γ⟩, [⟨0, 54, zero6⟩, ⟨0, 5, [byteC (D.getD 0 0)]⟩, ⟨D.length - 1, 5, D.map byteC⟩]⟩ := by
  cases D with
  | nil => exact absurd rfl h
  | cons x d => rfl
theorem rtextS_app (γ : List (Nat × AV)) (l : List UInt8) (b : Bool) (p i : Nat) {d : List UInt8} (y : UInt8) (h : d ≠ []) : rtextS γ l b p (i, d ++ [y]) = ⟨⟨52, [(0, .sl b l.length l.length (l.map byteC)), (1, .v (.int .i64 p)), (4, .ptr 0 0 0), (6, .v (.int .i64 i)), (7, .own 2 d.length (d.length + 1))], γ⟩, [⟨0, 54, zero6⟩, ⟨0, 5, [byteC (d.getD 0 0)]⟩, ⟨d.length, 5, d.map byteC ++ [byteC y]⟩]⟩ := by
  cases d with
  | nil => exact absurd rfl h
  | cons x d => simp [rtextS]
set_option maxHeartbeats 2000000 in
set_option maxRecDepth 20000 in
theorem refText_ev (b : Bool) (l : List UInt8) (p : Nat) (hl : l.length ≤ 140737488351232) (hp : p < l.length) : Ev Tryz.prog γ 141 [.sl b l.length l.length (l.map byteC), .v (.int .i64 p)] (refTextR l p (partsF l.length l (p + 1) [])) := by
  refine Ev.of Tryz.func141 rfl ?_
  generalize hR : refTextR l p (partsF l.length l (p + 1) []) = R
  have ep : IntKind.i64.wrap ((p : Int) + 1) = ((p + 1 : Nat) : Int) := by rw [i64w] <;> omega
  simp only [Tryz.f141, ep, evS, tyS, Nat.reduceAdd, Nat.reduceSub, Nat.reduceLT, Nat.reduceEqDiff, reduceCtorEq]
  refine LoopK.intro (rtextS γ l b p) (fun a => a.2.length ≤ a.1 ∧ p + 1 ≤ a.1 ∧ a.1 ≤ l.length ∧ ∃ k, l.length ≤ k + a.1 ∧ refTextR l p (partsF k l a.1 a.2) = R) (fun a => l.length - a.1) (p + 1, []) ?_ ⟨by simp, by simp, by simp; omega, l.length, by simp, hR⟩ ?_
  · simp only [rtextS_nil, zero6, evS, Nat.reduceEqDiff, reduceCtorEq]
    (repeat' (first | (with_reducible refine And.intro ?_ ?_) | ((first | refine GuardK.intro_f (fun h => ?_) (fun h => ?_) | refine GuardK.intro_t (fun h => ?_) (fun h => ?_) | refine CondK.intro (fun h => ?_) (fun h => ?_) | refine PickK.intro (fun h => ?_) (fun h => ?_)) <;> simp only [h, evS, tyS, Bool.not_true, Bool.not_false, Nat.reduceAdd, Nat.reduceSub, Nat.reduceMul, Nat.reduceLT, Nat.reduceLeDiff, Nat.reduceEqDiff, reduceCtorEq, List.reduceReplicate, Int.reduceToNat, Int.reduceLE, Int.reduceLT]) | (refine DrawK.intro (by kernel_rfl) (by kernel_rfl) ?_; simp only [evS, tyS, Bool.not_true, Bool.not_false, Nat.reduceAdd, Nat.reduceSub, Nat.reduceMul, Nat.reduceLT, Nat.reduceLeDiff, Nat.reduceEqDiff, reduceCtorEq, List.reduceReplicate, Int.reduceToNat, Int.reduceLE, Int.reduceLT])))
    all_goals rfl
  · rintro ⟨i, d⟩ ⟨hd, hi1, hi4, k, hk, hR⟩
    simp only at hd hi1 hi4 hk hR
    have ea : ∀ j, (l.getD j 0).toNat = atL l j := fun _ => rfl
    have hx1 := partF_1 l i
    have hx2 := partF_2 l i
    have hue : ((UInt8.ofNat (partF l i).1).toNat : Int) = (partF l i).1 := by rw [UInt8.toNat_ofNat_of_lt' hx1]
    have ei : IntKind.i64.wrap ((i : Int) + 1) = ((i + 1 : Nat) : Int) := by rw [i64w] <;> omega
    have ei2 : IntKind.i64.wrap (((i + 1 : Nat) : Int) - p) = ((i + 1 - p : Nat) : Int) := by rw [i64w] <;> omega
    have ewn : IntKind.i64.wrap ((i : Int) + ((partF l i).2 : Nat)) = ((i + (partF l i).2 : Nat) : Int) := by rw [i64w] <;> omega
    have hstop : (partF l i).2 = 0 → R = refTextR l p (d, i) := fun h => by
      rw [← hR]
      cases k with
      | zero => rfl
      | succ k => simp only [partsF, if_pos h]
    have hgo : (partF l i).2 ≠ 0 → ∃ k', l.length ≤ k' + (i + (partF l i).2) ∧ refTextR l p (partsF k' l (i + (partF l i).2) (d ++ [UInt8.ofNat (partF l i).1])) = R := fun h => by
      cases k with
      | zero => omega
      | succ k => exact ⟨k, by omega, by rw [← hR]; simp only [partsF, if_neg h]⟩
    have hpart := refPart_ev (γ := γ) b l i hl hi4
    clear hR
    by_cases hne : d = []
    · subst hne
      simp only [rtextS_nil, zero6, evS, Nat.reduceLT, Nat.reduceEqDiff, reduceCtorEq]
      refine CallK.intro b68 (by simp only [treeL, treeA, Bool.and_self]) hpart ?_
      simp only [evS, Nat.reduceLT, Nat.reduceEqDiff, reduceCtorEq]
      refine CondK.intro (fun h => ?_) (fun h => ?_)
      · simp only [h, evS, tyS, Nat.reduceLT, Nat.reduceEqDiff, reduceCtorEq]
        (repeat' (first | (with_reducible refine And.intro ?_ ?_) | ((first | refine GuardK.intro_f (fun h => ?_) (fun h => ?_) | refine GuardK.intro_t (fun h => ?_) (fun h => ?_) | refine CondK.intro (fun h => ?_) (fun h => ?_) | refine PickK.intro (fun h => ?_) (fun h => ?_)) <;> simp only [h, ea, ei, ei2, evS, tyS, Nat.reduceAdd, Nat.reduceLT, Nat.reduceLeDiff, Nat.reduceEqDiff, reduceCtorEq, Int.reduceLT]) | (refine DrawK.intro (by kernel_rfl) (by kernel_rfl) ?_; simp only [ea, ei, ei2, zero6, evS, tyS, Bool.not_true, Bool.not_false, Nat.reduceAdd, Nat.reduceSub, Nat.reduceMul, Nat.reduceLT, Nat.reduceLeDiff, Nat.reduceEqDiff, reduceCtorEq, List.reduceReplicate, Int.reduceToNat, Int.reduceLE, Int.reduceLT])))
        all_goals try (((try simp only [decide_eq_true_eq, decide_eq_false_iff_not, beq_iff_eq, bne_iff_ne, ne_eq, bne_eq_false_iff_eq] at *) <;> (try omega)); done)
        · ((try simp only [decide_eq_false_iff_not, beq_iff_eq, ne_eq, bne_eq_false_iff_eq] at *) <;> (try omega))
          rw [hstop (by omega), refTextR, if_neg (by simp only [List.length_nil]; omega)]
          simp only [tokA, f0, evS]
        · ((try simp only [decide_eq_false_iff_not, beq_iff_eq, bne_iff_ne, ne_eq] at *) <;> (try omega))
          rw [hstop (by omega), refTextR, if_pos (by simp only; omega)]
          simp only [zero6, evS]
        · ((try simp only [decide_eq_true_eq, beq_iff_eq, ne_eq] at *) <;> (try omega))
          rw [hstop (by omega), refTextR, if_pos (by simp only; omega)]
          simp only [zero6, evS]
      · simp only [h, ewn, evS, tyS, Nat.reduceAdd, Nat.reduceLT, Nat.reduceLeDiff, Nat.reduceEqDiff, reduceCtorEq, List.reduceReplicate]
        (repeat' (first | (with_reducible refine And.intro ?_ ?_) | ((first | refine GuardK.intro_f (fun h => ?_) (fun h => ?_) | refine GuardK.intro_t (fun h => ?_) (fun h => ?_) | refine CondK.intro (fun h => ?_) (fun h => ?_) | refine PickK.intro (fun h => ?_) (fun h => ?_)) <;> simp only [h, evS, tyS, Bool.not_true, Bool.not_false, Nat.reduceAdd, Nat.reduceSub, Nat.reduceMul, Nat.reduceLT, Nat.reduceLeDiff, Nat.reduceEqDiff, reduceCtorEq, List.reduceReplicate, Int.reduceToNat, Int.reduceLE, Int.reduceLT]) | (refine DrawK.intro (by kernel_rfl) (by kernel_rfl) ?_; simp only [evS, tyS, Bool.not_true, Bool.not_false, Nat.reduceAdd, Nat.reduceSub, Nat.reduceMul, Nat.reduceLT, Nat.reduceLeDiff, Nat.reduceEqDiff, reduceCtorEq, List.reduceReplicate, Int.reduceToNat, Int.reduceLE, Int.reduceLT])))
        all_goals try (((try simp only [ne_eq, beq_eq_false_iff_ne] at *) <;> (try omega)); done)
        ((try simp only [ne_eq, beq_eq_false_iff_ne] at *) <;> (try omega))
        obtain ⟨k', hk', hR'⟩ := hgo (by omega)
        refine loopC.intro (i + (partF l i).2, [UInt8.ofNat (partF l i).1]) ⟨by simp only [List.length_cons, List.length_nil]; omega, by simp only; omega, by simp only; omega, k', by simp only; omega, hR'⟩ ?_ (by simp only; omega)
        refine ⟨rfl, rfl, ?_, .inl ?_⟩ <;> simp only [rtextS_one, zero6, byteC, hue, evS, Nat.reduceEqDiff, reduceCtorEq] <;> try (first | rfl | trivial | (simp [byteC, hue]; done))
    · have hpos : 0 < d.length := List.length_pos_iff.2 hne
      have ev1 : d.length - 1 + 1 = d.length := by omega
      have ev2 : d.length + 1 - 1 = d.length := by omega
      simp only [rtextS_ne γ l b p i hne, zero6, evS, Nat.reduceLT, Nat.reduceEqDiff, reduceCtorEq]
      refine CallK.intro b68 (by simp only [treeL, treeA, Bool.and_self]) hpart ?_
      simp only [evS, Nat.reduceLT, Nat.reduceEqDiff, reduceCtorEq]
      refine CondK.intro (fun h => ?_) (fun h => ?_)
      · simp only [h, evS, tyS, Nat.reduceLT, Nat.reduceEqDiff, reduceCtorEq]
        (repeat' (first | (with_reducible refine And.intro ?_ ?_) | ((first | refine GuardK.intro_f (fun h => ?_) (fun h => ?_) | refine GuardK.intro_t (fun h => ?_) (fun h => ?_) | refine CondK.intro (fun h => ?_) (fun h => ?_) | refine PickK.intro (fun h => ?_) (fun h => ?_)) <;> simp only [h, ea, ei, ei2, evS, tyS, Nat.reduceAdd, Nat.reduceLT, Nat.reduceLeDiff, Nat.reduceEqDiff, reduceCtorEq]) | (refine DrawK.intro (by kernel_rfl) (by kernel_rfl) ?_; simp only [ea, ei, ei2, zero6, evS, tyS, Bool.not_true, Bool.not_false, Nat.reduceAdd, Nat.reduceSub, Nat.reduceMul, Nat.reduceLT, Nat.reduceLeDiff, Nat.reduceEqDiff, reduceCtorEq, List.reduceReplicate, Int.reduceToNat, Int.reduceLE, Int.reduceLT])))
        all_goals try (((try simp only [decide_eq_true_eq, decide_eq_false_iff_not, beq_iff_eq, bne_iff_ne, ne_eq, bne_eq_false_iff_eq] at *) <;> (try omega)); done)
        · ((try simp only [decide_eq_true_eq, decide_eq_false_iff_not, beq_iff_eq, ne_eq, bne_eq_false_iff_eq] at *) <;> (try omega))
          rw [hstop (by omega), refTextR, if_pos (by simp only; omega)]
          simp only [zero6, evS]
        · ((try simp only [decide_eq_false_iff_not, beq_iff_eq, ne_eq, bne_eq_false_iff_eq] at *) <;> (try omega))
          rw [hstop (by omega), refTextR, if_neg (by simp only; omega)]
          simp only [tokA, f0, evS]
        · ((try simp only [decide_eq_false_iff_not, beq_iff_eq, bne_iff_ne, ne_eq] at *) <;> (try omega))
          rw [hstop (by omega), refTextR, if_pos (by simp only; omega)]
          simp only [zero6, evS]
        · ((try simp only [decide_eq_true_eq, beq_iff_eq, ne_eq] at *) <;> (try omega))
          rw [hstop (by omega), refTextR, if_pos (by simp only; omega)]
          simp only [zero6, evS]
      · simp only [h, ewn, evS, tyS, Nat.reduceAdd, Nat.reduceLT, Nat.reduceLeDiff, Nat.reduceEqDiff, reduceCtorEq, List.reduceReplicate]
        (repeat' (first | (with_reducible refine And.intro ?_ ?_) | ((first | refine GuardK.intro_f (fun h => ?_) (fun h => ?_) | refine GuardK.intro_t (fun h => ?_) (fun h => ?_) | refine CondK.intro (fun h => ?_) (fun h => ?_) | refine PickK.intro (fun h => ?_) (fun h => ?_)) <;> simp only [h, evS, tyS, Bool.not_true, Bool.not_false, Nat.reduceAdd, Nat.reduceSub, Nat.reduceMul, Nat.reduceLT, Nat.reduceLeDiff, Nat.reduceEqDiff, reduceCtorEq, List.reduceReplicate, Int.reduceToNat, Int.reduceLE, Int.reduceLT]) | (refine DrawK.intro (by kernel_rfl) (by kernel_rfl) ?_; simp only [evS, tyS, Bool.not_true, Bool.not_false, Nat.reduceAdd, Nat.reduceSub, Nat.reduceMul, Nat.reduceLT, Nat.reduceLeDiff, Nat.reduceEqDiff, reduceCtorEq, List.reduceReplicate, Int.reduceToNat, Int.reduceLE, Int.reduceLT])))
        all_goals try (((try simp only [ne_eq, beq_eq_false_iff_ne] at *) <;> (try omega)); done)
        all_goals try exact all_one_map _
        ((try simp only [ne_eq, beq_eq_false_iff_ne] at *) <;> (try omega))
        obtain ⟨k', hk', hR'⟩ := hgo (by omega)
        refine loopC.intro (i + (partF l i).2, d ++ [UInt8.ofNat (partF l i).1]) ⟨by simp only [List.length_append, List.length_cons, List.length_nil]; omega, by simp only; omega, by simp only; omega, k', by simp only; omega, hR'⟩ ?_ (by simp only; omega)
        have hT := rtextS_app γ l b p (i + (partF l i).2) (UInt8.ofNat (partF l i).1) hne
        refine ⟨by rw [hT], by rw [hT], ?_, .inr ?_⟩ <;> rw [hT]
        · simp only [ev1, evS, Nat.reduceEqDiff, reduceCtorEq] <;> try (first | rfl | trivial | (simp [byteC, hue, okRef]; done))
        · refine ⟨?_, ?_, ?_⟩ <;> simp only [zero6, byteC, hue, okRefL, okRef, okRefB, okRefL_map, okRefL_append, Bool.and_self, decide_true, ev1, evS, Nat.reduceAdd, Nat.reduceLT] <;> try (first | rfl | trivial | (simp [byteC, hue, okRef]; done))
end Go.Proofs.YtlobiioioicmhaaGreatDoor
namespace Go.Proofs.YtlobiioioicmhaaGreatDoor
set_option linter.all false
open Go Go.Ev
set_option maxRecDepth 20000
variable {γ : List (Nat × AV)}
set_option maxRecDepth 20000 in
theorem refDigits_ev (b : Bool) (l : List UInt8) (i : Nat) (hl : l.length ≤ 140737488351232) (hi : i ≤ l.length + 8) : Ev Tryz.prog γ 205 [.sl b l.length l.length (l.map byteC), .v (.int .i64 i)] (.v (.int .i64 (spanEnd digitN l i - i : Nat))) := by
  refine Ev.of Tryz.func205 rfl ?_
  have ea : ∀ j, (l.getD j 0).toNat = atL l j := fun _ => rfl
  simp only [Tryz.f205, evS, Nat.reduceAdd, Nat.reduceSub, Nat.reduceLT]
  refine LoopK.intro (fun j : Nat => ⟨⟨24, [(0, .sl b l.length l.length (l.map byteC)), (1, .v (.int .i64 i)), (5, .v (.int .i64 j))], γ⟩, []⟩) (fun j => i + j ≤ l.length + 8 ∧ spanEnd digitN l (i + j) = spanEnd digitN l i) (fun j => l.length - (i + j)) 0 ?_ ⟨by omega, rfl⟩ (fun j hj => ?_)
  · simp only [evS, Nat.reduceEqDiff, reduceCtorEq]
    rfl
  · have ew : IntKind.i64.wrap ((i : Int) + j) = ((i + j : Nat) : Int) := by rw [i64w] <;> omega
    have ej : IntKind.i64.wrap ((j : Int) + 1) = ((j + 1 : Nat) : Int) := by rw [i64w] <;> omega
    have hstop : (i + j < l.length → digitN (atL l (i + j)) = false) → spanEnd digitN l i - i = j := fun h => by
      rw [← hj.2, spanEnd_stop h]; omega
    simp only [ew, evS, tyS, Nat.reduceLT, Nat.reduceEqDiff, reduceCtorEq]
    (repeat' (first | (with_reducible refine And.intro ?_ ?_) | ((first | refine GuardK.intro_f (fun h => ?_) (fun h => ?_) | refine GuardK.intro_t (fun h => ?_) (fun h => ?_) | refine CondK.intro (fun h => ?_) (fun h => ?_) | refine PickK.intro (fun h => ?_) (fun h => ?_)) <;> simp only [h, ew, ea, evS, tyS, Nat.reduceLT, Nat.reduceEqDiff, reduceCtorEq]) | (refine DrawK.intro (by kernel_rfl) (by kernel_rfl) ?_; simp only [ew, ea, evS, tyS, Bool.not_true, Bool.not_false, Nat.reduceAdd, Nat.reduceSub, Nat.reduceMul, Nat.reduceLT, Nat.reduceLeDiff, Nat.reduceEqDiff, reduceCtorEq, List.reduceReplicate, Int.reduceToNat, Int.reduceLE, Int.reduceLT])))
    all_goals try (((try simp only [decide_eq_true_eq, decide_eq_false_iff_not] at *) <;> (try omega)); done)
    · ((try simp only [decide_eq_true_eq] at *) <;> (try omega))
      refine CallK.intro b41 rfl (refDigit_ev _) ?_
      simp only [evS, Nat.reduceLT, Nat.reduceEqDiff, reduceCtorEq]
      refine CondK.intro (fun h => ?_) (fun h => ?_) <;> simp only [h, ej, evS, Nat.reduceLT, Nat.reduceEqDiff, reduceCtorEq]
      · refine loopC.intro (j + 1) ⟨by omega, by rw [← hj.2, spanEnd_step (by omega) h]; congr 1⟩ ?_ (by omega)
        simp only [evS, Nat.reduceEqDiff, reduceCtorEq]
      · rw [hstop fun _ => h]
    · ((try simp only [decide_eq_false_iff_not] at *) <;> (try omega))
      rw [hstop fun h' => by omega]
end Go.Proofs.YtlobiioioicmhaaGreatDoor
namespace Go.Proofs.YtlobiioioicmhaaGreatDoor
set_option linter.all false
open Go Go.Ev
set_option maxRecDepth 20000
variable {γ : List (Nat × AV)}
def marksL : List (List UInt8) := [[40], [41], [123], [125], [44], [59], [58], [46], [38], [43], [45], [42], [47], [37], [60], [62], [33], [61], [95], [61, 61], [33, 61], [60, 61], [62, 61], [38, 38], [124, 124], [45, 62]]
set_option maxHeartbeats 4000000 in
set_option maxRecDepth 40000 in
theorem refIsMark_ev (l : List UInt8) : Ev Tryz.prog γ 142 [.v (.string ⟨l.toArray⟩)] (.v (.bool (marksL.contains l))) := by
  refine Ev.of Tryz.func142 rfl ?_
  simp only [Tryz.f142, evS, Nat.reduceAdd, Nat.reduceSub, Nat.reduceLT, Nat.reduceEqDiff, reduceCtorEq]
  (repeat' (first | (with_reducible refine And.intro ?_ ?_) | ((first | refine GuardK.intro_f (fun h => ?_) (fun h => ?_) | refine GuardK.intro_t (fun h => ?_) (fun h => ?_) | refine CondK.intro (fun h => ?_) (fun h => ?_) | refine PickK.intro (fun h => ?_) (fun h => ?_)) <;> simp only [h, evS, Nat.reduceLT, Nat.reduceEqDiff, reduceCtorEq]) | (refine DrawK.intro (by kernel_rfl) (by kernel_rfl) ?_; simp only [evS, tyS, Bool.not_true, Bool.not_false, Nat.reduceAdd, Nat.reduceSub, Nat.reduceMul, Nat.reduceLT, Nat.reduceLeDiff, Nat.reduceEqDiff, reduceCtorEq, List.reduceReplicate, Int.reduceToNat, Int.reduceLE, Int.reduceLT])))
  all_goals try (have e := eq_of_beq h; subst e; rfl)
  all_goals simp only [AV.v.injEq, Value.bool.injEq]
  all_goals (simp only [marksL, List.contains, List.elem, *])
end Go.Proofs.YtlobiioioicmhaaGreatDoor
namespace Go.Proofs.YtlobiioioicmhaaGreatDoor
set_option linter.all false
open Go Go.Ev
set_option maxRecDepth 20000
variable {γ : List (Nat × AV)}
/-- Less need be known of a row that is handed over. -/
theorem Ev_cut1 {P : Program} {f : FuncId} {b : Bool} {n m : Nat} {L : List UInt8} {rest : List AV} {r : AV} (h1 : n ≤ m) (h2 : n ≤ L.length) (hev : Ev P γ f (.sl b (L.take n).length (L.take n).length ((L.take n).map byteC) :: rest) r) : Ev P γ f (.sl b n m (L.map byteC) :: rest) r := by
  have e : (L.take n).length = n := by rw [List.length_take]; omega
  rw [e] at hev
  intro G B w vs hG hγ hr
  refine hev G B w vs hG hγ ?_
  simp only [relL] at hr ⊢
  obtain ⟨u, us, e1, h3, h4⟩ := hr
  refine ⟨u, us, e1, ?_, h4⟩
  simp only [rel] at h3 ⊢
  obtain ⟨r, off, cap, e2, g1, g2, g3, g4⟩ := h3
  exact ⟨r, off, cap, e2, Nat.le_refl _, by omega, g3, by rw [List.map_take]; exact relAt_take g4 n⟩
def decFrom (n : Nat) (l : List UInt8) : Nat := l.foldl (fun n c => 10 * n + (c.toNat - 48)) n
def decV (l : List UInt8) : Nat := decFrom 0 l
theorem decFrom_ge (l : List UInt8) : ∀ n, n ≤ decFrom n l := by
  induction l with
  | nil => intro n; exact Nat.le_refl _
  | cons c l ih => intro n; have := ih (10 * n + (c.toNat - 48)); simp only [decFrom, List.foldl_cons] at *; omega
theorem decV_snoc (l : List UInt8) (c : UInt8) : decV (l ++ [c]) = 10 * decV l + (c.toNat - 48) := by simp [decV, decFrom]
theorem decV_take (l : List UInt8) (j : Nat) : decV (l.take j) ≤ decV l := by
  have e : decV l = decFrom (decV (l.take j)) (l.drop j) := by
    conv => lhs; rw [← List.take_append_drop j l]
    simp only [decV, decFrom, List.foldl_append]
  rw [e]; exact decFrom_ge _ _
theorem take_snoc {l : List UInt8} {j : Nat} (h : j < l.length) : l.take (j + 1) = l.take j ++ [l.getD j 0] := by
  rw [List.take_add_one]; simp [h]
def wholeR (l : List UInt8) : AV := if decV l ≤ 9223372036854775807 then .tup [.v (.int .i64 (decV l)), .v (.bool true)] else .tup [.v (.int .i64 0), .v (.bool false)]
set_option maxRecDepth 20000 in
theorem refWhole_ev (b : Bool) (l : List UInt8) (hl : l.length ≤ 140737488351232) (hd : ∀ j, j < l.length → digitN (atL l j) = true) : Ev Tryz.prog γ 208 [.sl b l.length l.length (l.map byteC)] (wholeR l) := by
  refine Ev.of Tryz.func208 rfl ?_
  simp only [Tryz.f208, evS, Nat.reduceAdd, Nat.reduceSub, Nat.reduceLT]
  refine LoopK.intro (fun j : Nat => ⟨⟨30, [(0, .sl b l.length l.length (l.map byteC)), (5, .v (.int .i64 j)), (4, .v (.int .u64 (decV (l.take j))))], γ⟩, []⟩) (fun j => j ≤ l.length ∧ decV (l.take j) ≤ 9223372036854775807) (fun j => l.length - j) 0 ?_ ⟨by omega, by simp [decV, decFrom]⟩ (fun j hj => ?_)
  · simp only [evS, Nat.reduceEqDiff, reduceCtorEq]
    (repeat' (first | (with_reducible refine And.intro ?_ ?_) | ((first | refine GuardK.intro_f (fun h => ?_) (fun h => ?_) | refine GuardK.intro_t (fun h => ?_) (fun h => ?_) | refine CondK.intro (fun h => ?_) (fun h => ?_) | refine PickK.intro (fun h => ?_) (fun h => ?_)) <;> simp only [h, evS, tyS, Bool.not_true, Bool.not_false, Nat.reduceAdd, Nat.reduceSub, Nat.reduceMul, Nat.reduceLT, Nat.reduceLeDiff, Nat.reduceEqDiff, reduceCtorEq, List.reduceReplicate, Int.reduceToNat, Int.reduceLE, Int.reduceLT]) | (refine DrawK.intro (by kernel_rfl) (by kernel_rfl) ?_; simp only [evS, tyS, Bool.not_true, Bool.not_false, Nat.reduceAdd, Nat.reduceSub, Nat.reduceMul, Nat.reduceLT, Nat.reduceLeDiff, Nat.reduceEqDiff, reduceCtorEq, List.reduceReplicate, Int.reduceToNat, Int.reduceLE, Int.reduceLT])))
    all_goals rfl
  · have ea : ∀ j, (l.getD j 0).toNat = atL l j := fun _ => rfl
    have ej : IntKind.i64.wrap ((j : Int) + 1) = ((j + 1 : Nat) : Int) := by rw [i64w] <;> omega
    by_cases hjl : j < l.length
    · have hdj : 48 ≤ atL l j ∧ atL l j ≤ 57 := by simpa [digitN] using hd j hjl
      have e1 : IntKind.u8.wrap ((atL l j : Int) - 48) = ((atL l j - 48 : Nat) : Int) := by rw [u8w] <;> omega
      have e2 : IntKind.u64.wrap ((atL l j - 48 : Nat) : Int) = ((atL l j - 48 : Nat) : Int) := by rw [u64w] <;> omega
      have e3 : IntKind.u64.wrap (9223372036854775807 - ((atL l j - 48 : Nat) : Int)) = ((9223372036854775807 - (atL l j - 48) : Nat) : Int) := by rw [u64w] <;> omega
      have e4 : IntKind.u64.wrap (((9223372036854775807 - (atL l j - 48) : Nat) : Int).tdiv 10) = (((9223372036854775807 - (atL l j - 48)) / 10 : Nat) : Int) := by
        rw [Int.tdiv_eq_ediv_of_nonneg (by omega), u64w] <;> omega
      have hsn : decV (l.take (j + 1)) = 10 * decV (l.take j) + (atL l j - 48) := by rw [take_snoc hjl, decV_snoc]; rfl
      simp only [evS, tyS, Nat.reduceLT, Nat.reduceEqDiff, reduceCtorEq]
      (repeat' (first | (with_reducible refine And.intro ?_ ?_) | ((first | refine GuardK.intro_f (fun h => ?_) (fun h => ?_) | refine GuardK.intro_t (fun h => ?_) (fun h => ?_) | refine CondK.intro (fun h => ?_) (fun h => ?_) | refine PickK.intro (fun h => ?_) (fun h => ?_)) <;> simp only [h, ea, e1, e2, e3, e4, evS, tyS, Nat.reduceLT, Nat.reduceEqDiff, reduceCtorEq]) | (refine DrawK.intro (by kernel_rfl) (by kernel_rfl) ?_; simp only [ea, e1, e2, e3, e4, evS, tyS, Bool.not_true, Bool.not_false, Nat.reduceAdd, Nat.reduceSub, Nat.reduceMul, Nat.reduceLT, Nat.reduceLeDiff, Nat.reduceEqDiff, reduceCtorEq, List.reduceReplicate, Int.reduceToNat, Int.reduceLE, Int.reduceLT])))
      all_goals try (((try simp only [decide_eq_true_eq, decide_eq_false_iff_not] at *) <;> (try omega)); done)
      · ((try simp only [decide_eq_true_eq] at *) <;> (try omega))
        have hbig : 9223372036854775807 < decV l := by
          have := decV_take l (j + 1); omega
        rw [wholeR, if_neg (by omega)]
        simp only [evS]
      · ((try simp only [decide_eq_true_eq, decide_eq_false_iff_not] at *) <;> (try omega))
        have hle : 10 * decV (l.take j) + (atL l j - 48) ≤ 9223372036854775807 := by omega
        have e5 : IntKind.u64.wrap (10 * (decV (l.take j) : Int)) = ((10 * decV (l.take j) : Nat) : Int) := by rw [u64w] <;> omega
        have e6 : IntKind.u64.wrap (((10 * decV (l.take j) : Nat) : Int) + ((atL l j - 48 : Nat) : Int)) = ((decV (l.take (j + 1)) : Nat) : Int) := by rw [hsn, u64w] <;> omega
        refine loopC.intro (j + 1) ⟨by omega, by omega⟩ ?_ (by omega)
        simp only [ej, e5, e6, evS, Nat.reduceEqDiff, reduceCtorEq]
    · have hjn : j = l.length := by omega
      have et : l.take j = l := by rw [hjn, List.take_length]
      rw [et] at hj ⊢
      have ef : ((j : Int) < l.length) = False := by simp; omega
      have e7 : IntKind.i64.wrap ((decV l : Nat) : Int) = ((decV l : Nat) : Int) := by rw [i64w] <;> omega
      simp only [evS, tyS, Nat.reduceLT, Nat.reduceEqDiff, reduceCtorEq]
      (repeat' (first | (with_reducible refine And.intro ?_ ?_) | ((first | refine GuardK.intro_f (fun h => ?_) (fun h => ?_) | refine GuardK.intro_t (fun h => ?_) (fun h => ?_) | refine CondK.intro (fun h => ?_) (fun h => ?_) | refine PickK.intro (fun h => ?_) (fun h => ?_)) <;> simp only [h, evS, tyS, Nat.reduceLT, Nat.reduceEqDiff, reduceCtorEq]) | (refine DrawK.intro (by kernel_rfl) (by kernel_rfl) ?_; simp only [evS, tyS, Bool.not_true, Bool.not_false, Nat.reduceAdd, Nat.reduceSub, Nat.reduceMul, Nat.reduceLT, Nat.reduceLeDiff, Nat.reduceEqDiff, reduceCtorEq, List.reduceReplicate, Int.reduceToNat, Int.reduceLE, Int.reduceLT])))
      all_goals try (((try simp only [decide_eq_true_eq, decide_eq_false_iff_not] at *) <;> (try omega)); done)
      rw [wholeR, if_pos hj.2]
      simp only [e7, evS]
end Go.Proofs.YtlobiioioicmhaaGreatDoor
namespace Go.Proofs.YtlobiioioicmhaaGreatDoor
set_option linter.all false
open Go Go.Ev
set_option maxRecDepth 20000
variable {γ : List (Nat × AV)}
def headF (l : List UInt8) (i : Nat) : Nat := if atL l (i + 1) = 45 then 2 else 1
def spanN (l : List UInt8) (i : Nat) : Nat := spanEnd digitN l i - i
def endF (l : List UInt8) (i : Nat) : Nat × Nat :=
  if atL l i ≠ 112 then (0, 0)
  else if spanN l (i + headF l i) = 0 then (0, 0)
  else (headF l i + spanN l (i + headF l i), headF l i)
theorem atL_out {l : List UInt8} {i : Nat} (h : l.length ≤ i) : atL l i = 0 := by
  simp only [atL, List.getD]; rw [List.getElem?_eq_none (by omega)]; rfl
theorem spanN_le (l : List UInt8) (i : Nat) : spanN l i ≤ l.length := by
  unfold spanN
  by_cases h : i ≤ l.length
  · have := spanEnd_le (p := digitN) h; omega
  · rw [spanEnd_stop (by omega)]; omega
set_option maxRecDepth 20000 in
theorem refEnd_ev (b : Bool) (l : List UInt8) (i : Nat) (hl : l.length ≤ 140737488351232) (hi : i ≤ l.length) : Ev Tryz.prog γ 206 [.sl b l.length l.length (l.map byteC), .v (.int .i64 i)] (.tup [.v (.int .i64 (endF l i).1), .v (.int .i64 (endF l i).2)]) := by
  refine Ev.of Tryz.func206 rfl ?_
  have ea : ∀ j, (l.getD j 0).toNat = atL l j := fun _ => rfl
  have e1 : IntKind.i64.wrap ((i : Int) + 1) = ((i + 1 : Nat) : Int) := by rw [i64w] <;> omega
  have e2 : IntKind.i64.wrap ((i : Int) + 2) = ((i + 2 : Nat) : Int) := by rw [i64w] <;> omega
  have ho := atL_out (l := l) (i := i)
  have ho1 := atL_out (l := l) (i := i + 1)
  have c1 := refDigits_ev (γ := γ) b l (i + 1) hl (by omega)
  have c2 := refDigits_ev (γ := γ) b l (i + 2) hl (by omega)
  have s1 := spanN_le l (i + 1)
  have s2 := spanN_le l (i + 2)
  have w1 : IntKind.i64.wrap (1 + ((spanN l (i + 1) : Nat) : Int)) = ((1 + spanN l (i + 1) : Nat) : Int) := by rw [i64w] <;> omega
  have w2 : IntKind.i64.wrap (2 + ((spanN l (i + 2) : Nat) : Int)) = ((2 + spanN l (i + 2) : Nat) : Int) := by rw [i64w] <;> omega
  simp only [Tryz.f206, evS, tyS, Nat.reduceAdd, Nat.reduceSub, Nat.reduceLT, Nat.reduceEqDiff, reduceCtorEq]
  (repeat' (first | (with_reducible refine And.intro ?_ ?_) | ((first | refine GuardK.intro_f (fun h => ?_) (fun h => ?_) | refine GuardK.intro_t (fun h => ?_) (fun h => ?_) | refine CondK.intro (fun h => ?_) (fun h => ?_) | refine PickK.intro (fun h => ?_) (fun h => ?_)) <;> simp only [h, e1, e2, ea, evS, tyS, Nat.reduceLT, Nat.reduceEqDiff, reduceCtorEq]) | (refine DrawK.intro (by kernel_rfl) (by kernel_rfl) ?_; simp only [e1, e2, ea, evS, tyS, Bool.not_true, Bool.not_false, Nat.reduceAdd, Nat.reduceSub, Nat.reduceMul, Nat.reduceLT, Nat.reduceLeDiff, Nat.reduceEqDiff, reduceCtorEq, List.reduceReplicate, Int.reduceToNat, Int.reduceLE, Int.reduceLT])))
  all_goals try (((try simp only [decide_eq_true_eq, decide_eq_false_iff_not, beq_iff_eq, bne_iff_ne, ne_eq, beq_eq_false_iff_ne, bne_eq_false_iff_eq] at *) <;> (try omega)); done)
  · ((try simp only [decide_eq_false_iff_not, bne_iff_ne, ne_eq] at *) <;> (try omega)); rw [endF, if_pos (by omega)]; rfl
  · ((try simp only [decide_eq_false_iff_not, bne_iff_ne, ne_eq] at *) <;> (try omega)); rw [endF, if_pos (by omega)]; rfl
  · ((try simp only [decide_eq_true_eq, decide_eq_false_iff_not, beq_iff_eq, bne_eq_false_iff_eq] at *) <;> (try omega))
    have hh : headF l i = 2 := by unfold headF; rw [if_pos (by omega)]
    refine CallK.intro b64 (by simp only [treeL, treeA, Bool.and_self]) c2 ?_
    rw [show spanEnd digitN l (i + 2) - (i + 2) = spanN l (i + 2) from rfl]
    simp only [evS, Nat.reduceLT, Nat.reduceEqDiff, reduceCtorEq]
    refine CondK.intro (fun h => ?_) (fun h => ?_)
    · simp only [h, evS, Nat.reduceLT, Nat.reduceEqDiff, reduceCtorEq]
      ((try simp only [beq_iff_eq] at *) <;> (try omega))
      rw [endF, if_neg (by omega), hh, if_pos (by omega)]
      simp only [evS]
      (repeat' (first | (with_reducible refine And.intro ?_ ?_) | ((first | refine GuardK.intro_f (fun h => ?_) (fun h => ?_) | refine GuardK.intro_t (fun h => ?_) (fun h => ?_) | refine CondK.intro (fun h => ?_) (fun h => ?_) | refine PickK.intro (fun h => ?_) (fun h => ?_)) <;> simp only [h, evS, tyS, Bool.not_true, Bool.not_false, Nat.reduceAdd, Nat.reduceSub, Nat.reduceMul, Nat.reduceLT, Nat.reduceLeDiff, Nat.reduceEqDiff, reduceCtorEq, List.reduceReplicate, Int.reduceToNat, Int.reduceLE, Int.reduceLT]) | (refine DrawK.intro (by kernel_rfl) (by kernel_rfl) ?_; simp only [evS, tyS, Bool.not_true, Bool.not_false, Nat.reduceAdd, Nat.reduceSub, Nat.reduceMul, Nat.reduceLT, Nat.reduceLeDiff, Nat.reduceEqDiff, reduceCtorEq, List.reduceReplicate, Int.reduceToNat, Int.reduceLE, Int.reduceLT])))
      all_goals rfl
    · simp only [h, w2, evS, Nat.reduceLT, Nat.reduceEqDiff, reduceCtorEq]
      ((try simp only [ne_eq, beq_eq_false_iff_ne] at *) <;> (try omega))
      rw [endF, if_neg (by omega), hh, if_neg (by omega)]
      (repeat' (first | (with_reducible refine And.intro ?_ ?_) | ((first | refine GuardK.intro_f (fun h => ?_) (fun h => ?_) | refine GuardK.intro_t (fun h => ?_) (fun h => ?_) | refine CondK.intro (fun h => ?_) (fun h => ?_) | refine PickK.intro (fun h => ?_) (fun h => ?_)) <;> simp only [h, evS, tyS, Bool.not_true, Bool.not_false, Nat.reduceAdd, Nat.reduceSub, Nat.reduceMul, Nat.reduceLT, Nat.reduceLeDiff, Nat.reduceEqDiff, reduceCtorEq, List.reduceReplicate, Int.reduceToNat, Int.reduceLE, Int.reduceLT]) | (refine DrawK.intro (by kernel_rfl) (by kernel_rfl) ?_; simp only [evS, tyS, Bool.not_true, Bool.not_false, Nat.reduceAdd, Nat.reduceSub, Nat.reduceMul, Nat.reduceLT, Nat.reduceLeDiff, Nat.reduceEqDiff, reduceCtorEq, List.reduceReplicate, Int.reduceToNat, Int.reduceLE, Int.reduceLT])))
      all_goals rfl
  · ((try simp only [decide_eq_true_eq, decide_eq_false_iff_not, ne_eq, beq_eq_false_iff_ne, bne_eq_false_iff_eq] at *) <;> (try omega))
    have hh : headF l i = 1 := by unfold headF; rw [if_neg (by omega)]
    refine CallK.intro b64 (by simp only [treeL, treeA, Bool.and_self]) c1 ?_
    rw [show spanEnd digitN l (i + 1) - (i + 1) = spanN l (i + 1) from rfl]
    simp only [evS, Nat.reduceLT, Nat.reduceEqDiff, reduceCtorEq]
    refine CondK.intro (fun h => ?_) (fun h => ?_)
    · simp only [h, evS, Nat.reduceLT, Nat.reduceEqDiff, reduceCtorEq]
      ((try simp only [beq_iff_eq] at *) <;> (try omega))
      rw [endF, if_neg (by omega), hh, if_pos (by omega)]
      simp only [evS]
      (repeat' (first | (with_reducible refine And.intro ?_ ?_) | ((first | refine GuardK.intro_f (fun h => ?_) (fun h => ?_) | refine GuardK.intro_t (fun h => ?_) (fun h => ?_) | refine CondK.intro (fun h => ?_) (fun h => ?_) | refine PickK.intro (fun h => ?_) (fun h => ?_)) <;> simp only [h, evS, tyS, Bool.not_true, Bool.not_false, Nat.reduceAdd, Nat.reduceSub, Nat.reduceMul, Nat.reduceLT, Nat.reduceLeDiff, Nat.reduceEqDiff, reduceCtorEq, List.reduceReplicate, Int.reduceToNat, Int.reduceLE, Int.reduceLT]) | (refine DrawK.intro (by kernel_rfl) (by kernel_rfl) ?_; simp only [evS, tyS, Bool.not_true, Bool.not_false, Nat.reduceAdd, Nat.reduceSub, Nat.reduceMul, Nat.reduceLT, Nat.reduceLeDiff, Nat.reduceEqDiff, reduceCtorEq, List.reduceReplicate, Int.reduceToNat, Int.reduceLE, Int.reduceLT])))
      all_goals rfl
    · simp only [h, w1, evS, Nat.reduceLT, Nat.reduceEqDiff, reduceCtorEq]
      ((try simp only [ne_eq, beq_eq_false_iff_ne] at *) <;> (try omega))
      rw [endF, if_neg (by omega), hh, if_neg (by omega)]
      (repeat' (first | (with_reducible refine And.intro ?_ ?_) | ((first | refine GuardK.intro_f (fun h => ?_) (fun h => ?_) | refine GuardK.intro_t (fun h => ?_) (fun h => ?_) | refine CondK.intro (fun h => ?_) (fun h => ?_) | refine PickK.intro (fun h => ?_) (fun h => ?_)) <;> simp only [h, evS, tyS, Bool.not_true, Bool.not_false, Nat.reduceAdd, Nat.reduceSub, Nat.reduceMul, Nat.reduceLT, Nat.reduceLeDiff, Nat.reduceEqDiff, reduceCtorEq, List.reduceReplicate, Int.reduceToNat, Int.reduceLE, Int.reduceLT]) | (refine DrawK.intro (by kernel_rfl) (by kernel_rfl) ?_; simp only [evS, tyS, Bool.not_true, Bool.not_false, Nat.reduceAdd, Nat.reduceSub, Nat.reduceMul, Nat.reduceLT, Nat.reduceLeDiff, Nat.reduceEqDiff, reduceCtorEq, List.reduceReplicate, Int.reduceToNat, Int.reduceLE, Int.reduceLT])))
      all_goals rfl
  · ((try simp only [decide_eq_false_iff_not, bne_eq_false_iff_eq] at *) <;> (try omega))
    have hh : headF l i = 1 := by unfold headF; rw [if_neg (by omega)]
    refine CallK.intro b64 (by simp only [treeL, treeA, Bool.and_self]) c1 ?_
    rw [show spanEnd digitN l (i + 1) - (i + 1) = spanN l (i + 1) from rfl]
    simp only [evS, Nat.reduceLT, Nat.reduceEqDiff, reduceCtorEq]
    refine CondK.intro (fun h => ?_) (fun h => ?_)
    · simp only [h, evS, Nat.reduceLT, Nat.reduceEqDiff, reduceCtorEq]
      ((try simp only [beq_iff_eq] at *) <;> (try omega))
      rw [endF, if_neg (by omega), hh, if_pos (by omega)]
      simp only [evS]
      (repeat' (first | (with_reducible refine And.intro ?_ ?_) | ((first | refine GuardK.intro_f (fun h => ?_) (fun h => ?_) | refine GuardK.intro_t (fun h => ?_) (fun h => ?_) | refine CondK.intro (fun h => ?_) (fun h => ?_) | refine PickK.intro (fun h => ?_) (fun h => ?_)) <;> simp only [h, evS, tyS, Bool.not_true, Bool.not_false, Nat.reduceAdd, Nat.reduceSub, Nat.reduceMul, Nat.reduceLT, Nat.reduceLeDiff, Nat.reduceEqDiff, reduceCtorEq, List.reduceReplicate, Int.reduceToNat, Int.reduceLE, Int.reduceLT]) | (refine DrawK.intro (by kernel_rfl) (by kernel_rfl) ?_; simp only [evS, tyS, Bool.not_true, Bool.not_false, Nat.reduceAdd, Nat.reduceSub, Nat.reduceMul, Nat.reduceLT, Nat.reduceLeDiff, Nat.reduceEqDiff, reduceCtorEq, List.reduceReplicate, Int.reduceToNat, Int.reduceLE, Int.reduceLT])))
      all_goals rfl
    · simp only [h, w1, evS, Nat.reduceLT, Nat.reduceEqDiff, reduceCtorEq]
      ((try simp only [ne_eq, beq_eq_false_iff_ne] at *) <;> (try omega))
      rw [endF, if_neg (by omega), hh, if_neg (by omega)]
      (repeat' (first | (with_reducible refine And.intro ?_ ?_) | ((first | refine GuardK.intro_f (fun h => ?_) (fun h => ?_) | refine GuardK.intro_t (fun h => ?_) (fun h => ?_) | refine CondK.intro (fun h => ?_) (fun h => ?_) | refine PickK.intro (fun h => ?_) (fun h => ?_)) <;> simp only [h, evS, tyS, Bool.not_true, Bool.not_false, Nat.reduceAdd, Nat.reduceSub, Nat.reduceMul, Nat.reduceLT, Nat.reduceLeDiff, Nat.reduceEqDiff, reduceCtorEq, List.reduceReplicate, Int.reduceToNat, Int.reduceLE, Int.reduceLT]) | (refine DrawK.intro (by kernel_rfl) (by kernel_rfl) ?_; simp only [evS, tyS, Bool.not_true, Bool.not_false, Nat.reduceAdd, Nat.reduceSub, Nat.reduceMul, Nat.reduceLT, Nat.reduceLeDiff, Nat.reduceEqDiff, reduceCtorEq, List.reduceReplicate, Int.reduceToNat, Int.reduceLE, Int.reduceLT])))
      all_goals rfl
  · ((try simp only [decide_eq_true_eq] at *) <;> (try omega)); rw [endF, if_pos (by omega)]; rfl
  · ((try simp only [decide_eq_true_eq] at *) <;> (try omega)); rw [endF, if_pos (by omega)]; rfl
end Go.Proofs.YtlobiioioicmhaaGreatDoor
namespace Go.Proofs.YtlobiioioicmhaaGreatDoor
set_option linter.all false
open Go Go.Ev
set_option maxRecDepth 20000
variable {γ : List (Nat × AV)}
def blankN (n : Nat) : Bool := decide (n = 32 ∨ n = 9 ∨ n = 10 ∨ n = 13)
theorem refBlank_ev (n : Nat) : Ev Tryz.prog γ 85 [.v (.int .u8 n)] (.v (.bool (blankN n))) := by
  refine Ev.of Tryz.func85 rfl ?_
  simp only [Tryz.f85, evS, Nat.reduceAdd, Nat.reduceSub, Nat.reduceLT, Nat.reduceEqDiff, reduceCtorEq]
  (repeat' (first | (with_reducible refine And.intro ?_ ?_) | ((first | refine GuardK.intro_f (fun h => ?_) (fun h => ?_) | refine GuardK.intro_t (fun h => ?_) (fun h => ?_) | refine CondK.intro (fun h => ?_) (fun h => ?_) | refine PickK.intro (fun h => ?_) (fun h => ?_)) <;> simp only [h, evS, Nat.reduceLT, Nat.reduceEqDiff, reduceCtorEq]) | (refine DrawK.intro (by kernel_rfl) (by kernel_rfl) ?_; simp only [evS, tyS, Bool.not_true, Bool.not_false, Nat.reduceAdd, Nat.reduceSub, Nat.reduceMul, Nat.reduceLT, Nat.reduceLeDiff, Nat.reduceEqDiff, reduceCtorEq, List.reduceReplicate, Int.reduceToNat, Int.reduceLE, Int.reduceLT])))
  all_goals (((try simp only [beq_iff_eq, ne_eq, beq_eq_false_iff_ne] at *) <;> (try omega)) <;> simp only [blankN, AV.v.injEq, Value.bool.injEq] <;> first | exact (decide_eq_true (by omega)).symm | exact (decide_eq_false (by omega)).symm | (rw [Bool.eq_iff_iff]; simp; omega))
theorem b67 : bodyT Tryz.prog 208 := ⟨_, Tryz.func208, by kernel_rfl, by kernel_rfl⟩
theorem b65 : bodyT Tryz.prog 206 := ⟨_, Tryz.func206, by kernel_rfl, by kernel_rfl⟩
theorem b43 : bodyT Tryz.prog 141 := ⟨_, Tryz.func141, by kernel_rfl, by kernel_rfl⟩
theorem b44 : bodyT Tryz.prog 142 := ⟨_, Tryz.func142, by kernel_rfl, by kernel_rfl⟩
theorem b42 : bodyT Tryz.prog 140 := ⟨_, Tryz.func140, by kernel_rfl, by kernel_rfl⟩
theorem b66 : bodyT Tryz.prog 207 := ⟨_, Tryz.func207, by kernel_rfl, by kernel_rfl⟩
theorem b98 : bodyT Tryz.prog 250 := ⟨_, Tryz.func250, by kernel_rfl, by kernel_rfl⟩
theorem b29 : bodyT Tryz.prog 86 := ⟨_, Tryz.func86, by kernel_rfl, by kernel_rfl⟩
theorem b46 : bodyT Tryz.prog 240 := ⟨_, Tryz.func240, by kernel_rfl, by kernel_rfl⟩
theorem b48 : bodyT Tryz.prog 242 := ⟨_, Tryz.func242, by kernel_rfl, by kernel_rfl⟩
theorem b49 : bodyT Tryz.prog 243 := ⟨_, Tryz.func243, by kernel_rfl, by kernel_rfl⟩
theorem b50 : bodyT Tryz.prog 244 := ⟨_, Tryz.func244, by kernel_rfl, by kernel_rfl⟩
theorem b72 : bodyT Tryz.prog 278 := ⟨_, Tryz.func278, by kernel_rfl, by kernel_rfl⟩
theorem b73 : bodyT Tryz.prog 279 := ⟨_, Tryz.func279, by kernel_rfl, by kernel_rfl⟩
theorem b31 : bodyT Tryz.prog 183 := ⟨_, Tryz.func183, by kernel_rfl, by kernel_rfl⟩
end Go.Proofs.YtlobiioioicmhaaGreatDoor
namespace Go.Proofs.YtlobiioioicmhaaGreatDoor
set_option linter.all false
open Go Go.Ev
set_option maxRecDepth 20000
variable {γ : List (Nat × AV)}
/-- ref.power, where f tells the steps. -/
theorem refPower_ev (m : Int) (x : Nat) (below : Bool) (f : Nat → Nat) (hx : x ≤ 4611686018427387904) (h0 : FloatKind.f64.nearest m = f 0)
    (hs : ∀ j, j < x → (if below = true then FloatKind.f64.format.div (f j) 4611686018427387904 else FloatKind.f64.format.mul (f j) 4611686018427387904) = some (f (j + 1))) :
    Ev Tryz.prog γ 250 [.v (.int .i64 m), .v (.int .i64 x), .v (.bool below)] (.v (.float .f64 (f x))) := by
  refine Ev.of Tryz.func250 rfl ?_
  simp only [Tryz.f250, h0, evS, tyS, Nat.reduceAdd, Nat.reduceSub, Nat.reduceLT, Nat.reduceEqDiff, reduceCtorEq]
  refine LoopK.intro (fun j : Nat => ⟨⟨22, [(1, .v (.int .i64 x)), (2, .v (.bool below)), (7, .v (.float .f64 (f j))), (8, .v (.int .i64 j))], γ⟩, []⟩) (fun j => j ≤ x) (fun j => x - j) 0 ?_ (Nat.zero_le _) (fun j hj => ?_)
  · simp only [evS, Nat.reduceEqDiff, reduceCtorEq]
    (repeat' (first | (with_reducible refine And.intro ?_ ?_) | ((first | refine GuardK.intro_f (fun h => ?_) (fun h => ?_) | refine GuardK.intro_t (fun h => ?_) (fun h => ?_) | refine CondK.intro (fun h => ?_) (fun h => ?_) | refine PickK.intro (fun h => ?_) (fun h => ?_)) <;> simp only [h, evS, tyS, Bool.not_true, Bool.not_false, Nat.reduceAdd, Nat.reduceSub, Nat.reduceMul, Nat.reduceLT, Nat.reduceLeDiff, Nat.reduceEqDiff, reduceCtorEq, List.reduceReplicate, Int.reduceToNat, Int.reduceLE, Int.reduceLT]) | (refine DrawK.intro (by kernel_rfl) (by kernel_rfl) ?_; simp only [evS, tyS, Bool.not_true, Bool.not_false, Nat.reduceAdd, Nat.reduceSub, Nat.reduceMul, Nat.reduceLT, Nat.reduceLeDiff, Nat.reduceEqDiff, reduceCtorEq, List.reduceReplicate, Int.reduceToNat, Int.reduceLE, Int.reduceLT])))
    all_goals rfl
  · have ej : IntKind.i64.wrap ((j : Int) + 1) = ((j + 1 : Nat) : Int) := by rw [i64w] <;> omega
    simp only [evS, Nat.reduceLT, Nat.reduceEqDiff, reduceCtorEq]
    refine CondK.intro (fun h => ?_) (fun h => ?_) <;> simp only [h, evS, Nat.reduceLT, Nat.reduceEqDiff]
    · have hjx : j < x := by ((try simp only [decide_eq_true_eq] at *) <;> (try omega))
      have hsj := hs j hjx
      refine CondK.intro (fun hb => ?_) (fun hb => ?_)
      · rw [if_pos hb] at hsj
        simp only [hb, hsj, fltRes, ej, evS, Nat.reduceLT, Nat.reduceEqDiff, reduceCtorEq]
        refine loopC.intro (j + 1) (by omega) ?_ (by omega)
        simp only [evS, Nat.reduceEqDiff]
      · rw [if_neg (by simp [hb])] at hsj
        simp only [hb, hsj, fltRes, ej, evS, Nat.reduceLT, Nat.reduceEqDiff, reduceCtorEq]
        refine loopC.intro (j + 1) (by omega) ?_ (by omega)
        simp only [evS, Nat.reduceEqDiff]
    · have hjx : j = x := by ((try simp only [decide_eq_false_iff_not] at *) <;> (try omega))
      rw [hjx]
end Go.Proofs.YtlobiioioicmhaaGreatDoor
namespace Go.Proofs.YtlobiioioicmhaaGreatDoor
set_option linter.all false
open Go Go.Ev
set_option maxRecDepth 20000
variable {γ : List (Nat × AV)}
theorem tyP : fltT Tryz.prog 219 = none ∧
    ifcT Tryz.prog 260 = some false ∧
    ifcT Tryz.prog 261 = some false ∧
    ifcT Tryz.prog 169 = some true ∧
    intT Tryz.prog 219 = some .u64 ∧
    strT Tryz.prog 219 = false ∧
    (Tryz.prog.underlying 9).isSome = true :=
  ⟨by kernel_rfl, by kernel_rfl, by kernel_rfl, by kernel_rfl, by kernel_rfl, by kernel_rfl, by kernel_rfl⟩
theorem tyQ : intT Tryz.prog 260 = some .i64 ∧ cmpT Tryz.prog 260 = some true := by
  refine ⟨?_, ?_⟩ <;> kernel_rfl
def uintR (l : List UInt8) : AV := if decV l < 18446744073709551616 then .tup [.v (.int .u64 (decV l)), .v .nilIface] else .tup [.v (.int .u64 18446744073709551615), .ifc 260 (.v (.int .i64 1))]
set_option maxHeartbeats 2000000 in
set_option maxRecDepth 20000 in
theorem parseUint_ev (l : List UInt8) (h1 : 1 ≤ l.length) (hl : l.length ≤ 140737488351232) (hd : ∀ j, j < l.length → digitN (atL l j) = true) :
    Ev Tryz.prog γ 223 [.v (.string ⟨l.toArray⟩), .v (.int .i64 10), .v (.int .i64 64)] (uintR l) := by
  refine Ev.of Tryz.func223 rfl ?_
  have hne : (l == ([] : List UInt8)) = false := by
    cases l with
    | nil => simp at h1
    | cons => rfl
  have w64 : IntKind.u64.wrap 64 = 64 := by rw [u64w] <;> omega
  have wsh : IntKind.u64.wrap (1 * 2 ^ min (Int.toNat 64) IntKind.u64.bits) = 0 := by decide
  have wsh' : IntKind.u64.wrap (1 * 2 ^ min 64 IntKind.u64.bits) = 0 := by decide
  have wm1 : IntKind.u64.wrap (0 - 1) = 18446744073709551615 := by decide
  have h100 : ((10 : Int) == 0) = false := by decide
  have h640 : ((64 : Int) == 0) = false := by decide
  simp only [Tryz.f223, tyP, hne, w64, wsh', wm1, h100, h640, evS, tyS, Nat.reduceAdd, Nat.reduceSub, Nat.reduceLT, Nat.reduceEqDiff, reduceCtorEq, Int.reduceToNat, Int.reduceLE, Int.reduceLT]
  (repeat' (first | (with_reducible refine And.intro ?_ ?_) | ((first | refine GuardK.intro_f (fun h => ?_) (fun h => ?_) | refine GuardK.intro_t (fun h => ?_) (fun h => ?_) | refine CondK.intro (fun h => ?_) (fun h => ?_) | refine PickK.intro (fun h => ?_) (fun h => ?_)) <;> simp only [h, tyP, tyQ, w64, wsh, wsh', wm1, h100, h640, evS, tyS, Bool.not_true, Bool.not_false, Nat.reduceAdd, Nat.reduceSub, Nat.reduceMul, Nat.reduceLT, Nat.reduceLeDiff, Nat.reduceEqDiff, reduceCtorEq, List.reduceReplicate, Int.reduceToNat, Int.reduceLE, Int.reduceLT]) | (refine DrawK.intro (by kernel_rfl) (by kernel_rfl) ?_; simp only [tyP, tyQ, w64, wsh, wsh', wm1, h100, h640, evS, tyS, Bool.not_true, Bool.not_false, Nat.reduceAdd, Nat.reduceSub, Nat.reduceMul, Nat.reduceLT, Nat.reduceLeDiff, Nat.reduceEqDiff, reduceCtorEq, List.reduceReplicate, Int.reduceToNat, Int.reduceLE, Int.reduceLT])))
  all_goals try (((try simp only [ne_eq, beq_eq_false_iff_ne] at *) <;> (try omega)); done)
  refine LoopK.intro (fun j : Nat => ⟨⟨172, [(101, .v (.int .i64 j)), (100, .v (.int .i64 l.length)), (99, .own 0 0 l.length), (13, .v (.int .u64 (decV (l.take j)))), (12, .v (.bool false)), (11, .v (.int .u64 18446744073709551615)), (10, .v (.int .u64 1844674407370955162)), (9, .v (.string ⟨l.toArray⟩)), (8, .v (.bool false)), (1, .v (.int .i64 10))], γ⟩, [⟨0, 5, l.map byteC⟩]⟩) (fun j => j ≤ l.length ∧ decV (l.take j) < 18446744073709551616) (fun j => l.length - j) 0 ?_ ⟨by omega, by simp [decV, decFrom]⟩ (fun j hj => ?_)
  · simp only [evS, Nat.reduceEqDiff, reduceCtorEq]
    (repeat' (first | (with_reducible refine And.intro ?_ ?_) | ((first | refine GuardK.intro_f (fun h => ?_) (fun h => ?_) | refine GuardK.intro_t (fun h => ?_) (fun h => ?_) | refine CondK.intro (fun h => ?_) (fun h => ?_) | refine PickK.intro (fun h => ?_) (fun h => ?_)) <;> simp only [h, evS, tyS, Bool.not_true, Bool.not_false, Nat.reduceAdd, Nat.reduceSub, Nat.reduceMul, Nat.reduceLT, Nat.reduceLeDiff, Nat.reduceEqDiff, reduceCtorEq, List.reduceReplicate, Int.reduceToNat, Int.reduceLE, Int.reduceLT]) | (refine DrawK.intro (by kernel_rfl) (by kernel_rfl) ?_; simp only [evS, tyS, Bool.not_true, Bool.not_false, Nat.reduceAdd, Nat.reduceSub, Nat.reduceMul, Nat.reduceLT, Nat.reduceLeDiff, Nat.reduceEqDiff, reduceCtorEq, List.reduceReplicate, Int.reduceToNat, Int.reduceLE, Int.reduceLT])))
    all_goals rfl
  · have ea : ∀ j, (l.getD j 0).toNat = atL l j := fun _ => rfl
    have ej : IntKind.i64.wrap ((j : Int) + 1) = ((j + 1 : Nat) : Int) := by rw [i64w] <;> omega
    have w10 : IntKind.u64.wrap 10 = 10 := by rw [u64w] <;> omega
    have v10 : IntKind.u8.wrap 10 = 10 := by rw [u8w] <;> omega
    by_cases hjl : j < l.length
    · have hdj : 48 ≤ atL l j ∧ atL l j ≤ 57 := by simpa [digitN] using hd j hjl
      have e1 : IntKind.u8.wrap ((atL l j : Int) - 48) = ((atL l j - 48 : Nat) : Int) := by rw [u8w] <;> omega
      have e2 : IntKind.u64.wrap ((atL l j - 48 : Nat) : Int) = ((atL l j - 48 : Nat) : Int) := by rw [u64w] <;> omega
      have hsn : decV (l.take (j + 1)) = 10 * decV (l.take j) + (atL l j - 48) := by rw [take_snoc hjl, decV_snoc]; rfl
      have hmo := decV_take l (j + 1)
      have h95 : ((atL l j : Int) == 95) = false := by simp; omega
      by_cases hc : decV (l.take j) < 1844674407370955162
      · have e5 : IntKind.u64.wrap ((decV (l.take j) : Int) * 10) = ((decV (l.take j) * 10 : Nat) : Int) := by rw [u64w] <;> omega
        by_cases ho : decV (l.take (j + 1)) < 18446744073709551616
        · have e6 : IntKind.u64.wrap (((decV (l.take j) * 10 : Nat) : Int) + ((atL l j - 48 : Nat) : Int)) = ((decV (l.take (j + 1)) : Nat) : Int) := by rw [u64w] <;> omega
          simp only [evS, Nat.reduceLT, Nat.reduceEqDiff, reduceCtorEq]
          (repeat' (first | (with_reducible refine And.intro ?_ ?_) | ((first | refine GuardK.intro_f (fun h => ?_) (fun h => ?_) | refine GuardK.intro_t (fun h => ?_) (fun h => ?_) | refine CondK.intro (fun h => ?_) (fun h => ?_) | refine PickK.intro (fun h => ?_) (fun h => ?_)) <;> simp only [h, tyP, ea, e1, e2, w10, v10, h95, e5, e6, evS, tyS, Nat.reduceLT, Nat.reduceEqDiff, reduceCtorEq]) | (refine DrawK.intro (by kernel_rfl) (by kernel_rfl) ?_; simp only [tyP, tyQ, ea, e1, e2, w10, v10, h95, e5, e6, evS, tyS, Bool.not_true, Bool.not_false, Nat.reduceAdd, Nat.reduceSub, Nat.reduceMul, Nat.reduceLT, Nat.reduceLeDiff, Nat.reduceEqDiff, reduceCtorEq, List.reduceReplicate, Int.reduceToNat, Int.reduceLE, Int.reduceLT])))
          all_goals try (((try simp only [decide_eq_true_eq, decide_eq_false_iff_not, ne_eq, beq_eq_false_iff_ne] at *) <;> (try omega)); done)
          refine loopC.intro (j + 1) ⟨by omega, ho⟩ ?_ (by omega)
          simp only [ej, evS, Nat.reduceEqDiff]
          (repeat' (first | (with_reducible refine And.intro ?_ ?_) | ((first | refine GuardK.intro_f (fun h => ?_) (fun h => ?_) | refine GuardK.intro_t (fun h => ?_) (fun h => ?_) | refine CondK.intro (fun h => ?_) (fun h => ?_) | refine PickK.intro (fun h => ?_) (fun h => ?_)) <;> simp only [h, evS, tyS, Bool.not_true, Bool.not_false, Nat.reduceAdd, Nat.reduceSub, Nat.reduceMul, Nat.reduceLT, Nat.reduceLeDiff, Nat.reduceEqDiff, reduceCtorEq, List.reduceReplicate, Int.reduceToNat, Int.reduceLE, Int.reduceLT]) | (refine DrawK.intro (by kernel_rfl) (by kernel_rfl) ?_; simp only [evS, tyS, Bool.not_true, Bool.not_false, Nat.reduceAdd, Nat.reduceSub, Nat.reduceMul, Nat.reduceLT, Nat.reduceLeDiff, Nat.reduceEqDiff, reduceCtorEq, List.reduceReplicate, Int.reduceToNat, Int.reduceLE, Int.reduceLT])))
          all_goals rfl
        · have e6 : IntKind.u64.wrap (((decV (l.take j) * 10 : Nat) : Int) + ((atL l j - 48 : Nat) : Int)) = ((decV (l.take (j + 1)) - 18446744073709551616 : Nat) : Int) := by
            have : (((decV (l.take j) * 10 : Nat) : Int) + ((atL l j - 48 : Nat) : Int)) = ((decV (l.take (j + 1)) : Nat) : Int) := by omega
            rw [this]
            show ((decV (l.take (j + 1)) : Nat) : Int) % 18446744073709551616 = _
            omega
          simp only [evS, Nat.reduceLT, Nat.reduceEqDiff, reduceCtorEq]
          (repeat' (first | (with_reducible refine And.intro ?_ ?_) | ((first | refine GuardK.intro_f (fun h => ?_) (fun h => ?_) | refine GuardK.intro_t (fun h => ?_) (fun h => ?_) | refine CondK.intro (fun h => ?_) (fun h => ?_) | refine PickK.intro (fun h => ?_) (fun h => ?_)) <;> simp only [h, tyP, ea, e1, e2, w10, v10, h95, e5, e6, evS, tyS, Nat.reduceLT, Nat.reduceEqDiff, reduceCtorEq]) | (refine DrawK.intro (by kernel_rfl) (by kernel_rfl) ?_; simp only [tyP, tyQ, ea, e1, e2, w10, v10, h95, e5, e6, evS, tyS, Bool.not_true, Bool.not_false, Nat.reduceAdd, Nat.reduceSub, Nat.reduceMul, Nat.reduceLT, Nat.reduceLeDiff, Nat.reduceEqDiff, reduceCtorEq, List.reduceReplicate, Int.reduceToNat, Int.reduceLE, Int.reduceLT])))
          all_goals try (((try simp only [decide_eq_true_eq, decide_eq_false_iff_not, ne_eq, beq_eq_false_iff_ne] at *) <;> (try omega)); done)
          all_goals (rw [uintR, if_neg (by omega)]; simp only [evS])
      · simp only [evS, Nat.reduceLT, Nat.reduceEqDiff, reduceCtorEq]
        (repeat' (first | (with_reducible refine And.intro ?_ ?_) | ((first | refine GuardK.intro_f (fun h => ?_) (fun h => ?_) | refine GuardK.intro_t (fun h => ?_) (fun h => ?_) | refine CondK.intro (fun h => ?_) (fun h => ?_) | refine PickK.intro (fun h => ?_) (fun h => ?_)) <;> simp only [h, tyP, ea, e1, e2, w10, v10, h95, evS, tyS, Nat.reduceLT, Nat.reduceEqDiff, reduceCtorEq]) | (refine DrawK.intro (by kernel_rfl) (by kernel_rfl) ?_; simp only [tyP, tyQ, ea, e1, e2, w10, v10, h95, evS, tyS, Bool.not_true, Bool.not_false, Nat.reduceAdd, Nat.reduceSub, Nat.reduceMul, Nat.reduceLT, Nat.reduceLeDiff, Nat.reduceEqDiff, reduceCtorEq, List.reduceReplicate, Int.reduceToNat, Int.reduceLE, Int.reduceLT])))
        all_goals try (((try simp only [decide_eq_true_eq, decide_eq_false_iff_not, ne_eq, beq_eq_false_iff_ne] at *) <;> (try omega)); done)
        all_goals (rw [uintR, if_neg (by omega)]; simp only [evS])
    · have hjn : j = l.length := by omega
      have et : l.take j = l := by rw [hjn, List.take_length]
      rw [et] at hj ⊢
      simp only [evS, Nat.reduceLT, Nat.reduceEqDiff, reduceCtorEq]
      (repeat' (first | (with_reducible refine And.intro ?_ ?_) | ((first | refine GuardK.intro_f (fun h => ?_) (fun h => ?_) | refine GuardK.intro_t (fun h => ?_) (fun h => ?_) | refine CondK.intro (fun h => ?_) (fun h => ?_) | refine PickK.intro (fun h => ?_) (fun h => ?_)) <;> simp only [h, evS, tyS, Nat.reduceLT, Nat.reduceEqDiff, reduceCtorEq]) | (refine DrawK.intro (by kernel_rfl) (by kernel_rfl) ?_; simp only [evS, tyS, Bool.not_true, Bool.not_false, Nat.reduceAdd, Nat.reduceSub, Nat.reduceMul, Nat.reduceLT, Nat.reduceLeDiff, Nat.reduceEqDiff, reduceCtorEq, List.reduceReplicate, Int.reduceToNat, Int.reduceLE, Int.reduceLT])))
      all_goals try (((try simp only [decide_eq_true_eq, decide_eq_false_iff_not, beq_iff_eq, ne_eq, beq_eq_false_iff_ne] at *) <;> (try omega)); done)
      rw [uintR, if_pos hj.2]
      simp only [evS]
end Go.Proofs.YtlobiioioicmhaaGreatDoor
/-
  DERIVED: THE SHELF's CONTRACTS AT THIS DUMP, IN PLAIN WORDS (tools/lay-plain.mjs out of 'TryzShelf.lean', which tools/lay-shelf.mjs wrote): THE SAME DECLARATIONS UNDER THE SAME NAMES: 'import', 'namespace', 'open', 'def', 'theorem' AND NOTHING ELSE: no command of the shelf's: FOR A HAND-IN. Each laying: the table of numbers ('.._ren') and one theorem, a field a fact of the dump's own or the kernel's comparison; each contract: ONE APPLICATION.
-/
namespace Go.Proofs
open Go.Shelf
def Tryz.lays144_ren : Go.Shelf.Ren := ⟨fun | 144 => 281 | 143 => 298 | 219 => 219 | 217 => 218 | 225 => 258 | 224 => 259 | 267 => 260 | 266 => 257 | 314 => 294 | n => n, fun | 9 => 9 | 4 => 4 | 3 => 3 | 5 => 5 | 46 => 219 | 146 => 304 | 51 => 289 | n => n, fun | 1 => 1 | n => n⟩
theorem Tryz.lays144 : Go.Proofs.Lays.n144 Tryz.prog Tryz.lays144_ren := {
  mixed := by kernel_rfl
  f143 := Tryz.func298.trans (congrArg some (by kernel_rfl))
  f144 := Tryz.func281.trans (congrArg some (by kernel_rfl))
  f217 := Tryz.func218.trans (congrArg some (by kernel_rfl))
  f219 := Tryz.func219.trans (congrArg some (by kernel_rfl))
  f224 := Tryz.func259.trans (congrArg some (by kernel_rfl))
  f225 := Tryz.func258.trans (congrArg some (by kernel_rfl))
  f266 := Tryz.func257.trans (congrArg some (by kernel_rfl))
  f267 := Tryz.func260.trans (congrArg some (by kernel_rfl))
  f314 := Tryz.func294.trans (congrArg some (by kernel_rfl))
  t3 := Tryz.underlying3
  a3 := Tryz.isAgg3
  z3 := Tryz.sizeOf3
  v3 := Tryz.zeroValue3
  t4 := Tryz.underlying4
  a4 := Tryz.isAgg4
  z4 := Tryz.sizeOf4
  v4 := Tryz.zeroValue4
  t5 := Tryz.underlying5
  a5 := Tryz.isAgg5
  z5 := Tryz.sizeOf5
  v5 := Tryz.zeroValue5
  t9 := Tryz.underlying9
  a9 := Tryz.isAgg9
  z9 := Tryz.sizeOf9
  v9 := Tryz.zeroValue9
  t46 := Tryz.underlying219
  a46 := Tryz.isAgg219
  z46 := Tryz.sizeOf219
  v46 := Tryz.zeroValue219
  t51 := Tryz.underlying289
  a51 := Tryz.isAgg289
  z51 := Tryz.sizeOf289
  v51 := Tryz.zeroValue289
  t146 := Tryz.underlying304
  a146 := Tryz.isAgg304
  z146 := Tryz.sizeOf304
  v146 := Tryz.zeroValue304
  g1 := by kernel_rfl }
open Go.RowKit Go.Lib in
/-- strings.Contains. -/
theorem Tryz.strings_Contains (s sub : ByteArray) (m : Int) (w : World) (hs : s.size < 4294967281) (hm : w.cell? ⟨1, 0, none⟩ = some (.int .i64 m)) :
    Calls Tryz.prog 281 #[.string s, .string sub] w fun e w' => e = .returned (.bool (Lib.contains s.data.toList sub.data.toList)) ∧ w' = w := Any.strings_Contains Tryz.lays144 s sub m w hs hm
end Go.Proofs
namespace Go.Proofs.YtlobiioioicmhaaGreatDoor
set_option linter.all false
open Go Go.Ev
set_option maxRecDepth 20000
variable {γ : List (Nat × AV)}
def hasSub : List UInt8 → List UInt8 → Bool
  | [], sub => sub.isEmpty
  | b :: l, sub => sub.isPrefixOf (b :: l) || hasSub l sub
theorem contains_hasSub (s sub : List UInt8) : Lib.contains s sub = hasSub s sub := by
  unfold Lib.contains
  induction s with
  | nil => unfold Lib.index hasSub; cases sub.isEmpty <;> rfl
  | cons b l ih =>
    unfold Lib.index hasSub
    have hg := Lib.index_ge l sub
    rw [← ih]
    cases sub.isPrefixOf (b :: l) with
    | true => rfl
    | false =>
      simp only [Bool.false_eq_true, if_false, Bool.false_or]
      by_cases h : Lib.index l sub = -1
      · simp [h]
      · have : ¬ (Lib.index l sub == -1) = true := by simpa using h
        rw [if_neg this]
        have h1 : 0 ≤ Lib.index l sub := by omega
        have h2 : 0 ≤ Lib.index l sub + 1 := by omega
        simp [h1, h2]
theorem contains_ev (m : Int) (hγ : Go.Ev.look γ 1 = AV.ela false [.v (.int .i64 m)]) (s sub : ByteArray) (hs : s.size < 4294967281) : Ev Tryz.prog γ 281 [.v (.string s), .v (.string sub)] (.v (.bool (hasSub s.data.toList sub.data.toList))) := by
  intro G B w vs hG hg hr
  have hm := (hg 1).2
  rw [hγ] at hm
  simp only [rel, relAt, Cx.shut] at hm
  obtain ⟨r, off, e1, _, ⟨u, hc, rfl⟩, _⟩ := hm
  cases e1
  simp only [relL, rel] at hr
  obtain ⟨u1, us, e1, rfl, u2, us2, rfl, rfl, rfl⟩ := hr
  obtain rfl : vs = #[.string s, .string sub] := by cases vs; simp_all
  refine (Go.Proofs.Tryz.strings_Contains s sub m w hs hc).mono ?_
  rintro e w' ⟨rfl, rfl⟩
  refine ⟨_, rfl, ?_, Go.RowKit.Below.refl _ _⟩
  rw [contains_hasSub]
  simp only [rel]
theorem b75 : bodyT Tryz.prog 281 := ⟨_, Tryz.func281, by kernel_rfl, by kernel_rfl⟩
def dblL : List UInt8 := [61, 61, 32, 33, 61, 32, 60, 61, 32, 62, 61, 32, 38, 38, 32, 124, 124, 32, 45, 62]
def sglL : List UInt8 := [40, 41, 123, 125, 44, 59, 58, 46, 38, 43, 45, 42, 47, 37, 60, 62, 33, 61, 95]
/-- How many bytes the mark at the head has. -/
def markN (l : List UInt8) : Nat := if 1 < l.length ∧ atL l 0 ≠ 32 ∧ atL l 1 ≠ 32 ∧ hasSub dblL (l.take 2) = true then 2 else if 0 ≤ Lib.indexByte sglL (atL l 0).toUInt8 then 1 else 0
def markA (l : List UInt8) : AV := if markN l = 0 then tokA 0 [] 0 f0 0 0 else tokA 5 (l.take (markN l)) 0 f0 0 (markN l)
set_option maxRecDepth 20000 in
theorem lexMark_ev (m : Int) (hγ : Go.Ev.look γ 1 = AV.ela false [.v (.int .i64 m)]) (b : Bool) (l : List UInt8) (h1 : 1 ≤ l.length) (hl : l.length ≤ 140737488355328) : Ev Tryz.prog γ 244 [.sl b l.length l.length (l.map byteC)] (markA l) := by
  refine Ev.of Tryz.func244 rfl ?_
  have ea : ∀ j, (l.getD j 0).toNat = atL l j := fun _ => rfl
  have t0 : take1 (l.map byteC) = some (.v (.int .u8 (atL l 0))) := by
    have := take1_byte (l := l) (n := 0) (by omega)
    rw [List.drop_zero] at this
    rw [this]; simp [atL, List.getD, List.getElem?_eq_getElem (show 0 < l.length by omega)]
  simp only [Tryz.f244, evS, tyS, Nat.reduceAdd, Nat.reduceSub, Nat.reduceLT, Nat.reduceEqDiff, reduceCtorEq]
  (repeat' (first | (with_reducible refine And.intro ?_ ?_) | ((first | refine GuardK.intro_f (fun h => ?_) (fun h => ?_) | refine GuardK.intro_t (fun h => ?_) (fun h => ?_) | refine CondK.intro (fun h => ?_) (fun h => ?_) | refine PickK.intro (fun h => ?_) (fun h => ?_)) <;> simp only [h, ea, t0, evS, tyS, Nat.reduceLT, Nat.reduceEqDiff, reduceCtorEq, Int.reduceToNat, Int.reduceLE]) | (refine DrawK.intro (by kernel_rfl) (by kernel_rfl) ?_; simp only [ea, t0, evS, tyS, Bool.not_true, Bool.not_false, Nat.reduceAdd, Nat.reduceSub, Nat.reduceMul, Nat.reduceLT, Nat.reduceLeDiff, Nat.reduceEqDiff, reduceCtorEq, List.reduceReplicate, Int.reduceToNat, Int.reduceLE, Int.reduceLT])))
  all_goals try (((try simp only [decide_eq_true_eq, decide_eq_false_iff_not, bne_iff_ne, ne_eq, bne_eq_false_iff_eq] at *) <;> (try omega)); done)
  all_goals try
    (refine CallK.intro b75 rfl (contains_ev m hγ _ _ (by decide)) ?_
     simp only [evS, Nat.reduceLT, Nat.reduceEqDiff, reduceCtorEq]
     refine CondK.intro (fun h => ?_) (fun h => ?_) <;> simp only [h, t0, evS, tyS, Nat.reduceAdd, Nat.reduceLT, Nat.reduceLeDiff, Nat.reduceEqDiff, reduceCtorEq, Int.reduceToNat, Int.reduceLE])
  all_goals try refine ⟨by omega, ?_⟩
  all_goals try
    (refine CallK.intro b76 rfl (strings_IndexByte_ev _ _) ?_
     simp only [evS, Nat.reduceLT, Nat.reduceEqDiff, reduceCtorEq]
     refine CondK.intro (fun h => ?_) (fun h => ?_) <;> simp only [h, evS, tyS, Nat.reduceAdd, Nat.reduceLT, Nat.reduceLeDiff, Nat.reduceEqDiff, reduceCtorEq, Int.reduceToNat, Int.reduceLE])
  all_goals try refine ⟨by omega, ?_⟩
  all_goals try refine ⟨by omega, ?_⟩
  all_goals ((try simp only [decide_eq_true_eq, decide_eq_false_iff_not, bne_iff_ne, ne_eq, bne_eq_false_iff_eq] at *) <;> (try omega))
  all_goals try refine ⟨⟨by omega, by omega⟩, by omega, ?_⟩
  all_goals first
    | (have hm : markN l = 2 := by rw [markN, if_pos ⟨by omega, by omega, by omega, by unfold dblL; assumption⟩]
       rw [markA, hm, if_neg (by omega)]; simp only [tokA, f0, evS]; first | done | rfl)
    | (have hm : markN l = 1 := by rw [markN, if_neg (by rintro ⟨g1, g2, g3, g4⟩; first | omega | (have g5 : hasSub dblL (l.take 2) = false := (by unfold dblL; assumption); rw [g5] at g4; cases g4)), if_pos (by unfold sglL; assumption)]
       rw [markA, hm, if_neg (by omega)]; simp only [tokA, f0, evS]; first | done | rfl)
    | (have hm : markN l = 0 := by rw [markN, if_neg (by rintro ⟨g1, g2, g3, g4⟩; first | omega | (have g5 : hasSub dblL (l.take 2) = false := (by unfold dblL; assumption); rw [g5] at g4; cases g4)), if_neg (by unfold sglL; assumption)]
       rw [markA, hm, if_pos rfl]; simp only [tokA, f0, evS]; first | done | rfl)
    | trace_state
end Go.Proofs.YtlobiioioicmhaaGreatDoor
/-
  DERIVED: THE SHELF's CONTRACTS AT THIS DUMP, IN PLAIN WORDS (tools/lay-plain.mjs out of 'TryzShelf.lean', which tools/lay-shelf.mjs wrote): THE SAME DECLARATIONS UNDER THE SAME NAMES: 'import', 'namespace', 'open', 'def', 'theorem' AND NOTHING ELSE: no command of the shelf's: FOR A HAND-IN. Each laying: the table of numbers ('.._ren') and one theorem, a field a fact of the dump's own or the kernel's comparison; each contract: ONE APPLICATION.
-/
namespace Go.Proofs
open Go.Shelf
def Tryz.laysC245_ren : Go.Shelf.Ren := ⟨fun | 245 => 170 | 279 => 227 | 280 => 228 | 281 => 229 | 282 => 230 | 316 => 267 | 171 => 174 | 205 => 268 | 243 => 236 | 246 => 171 | 283 => 231 | 284 => 232 | 285 => 233 | 286 => 234 | 129 => 270 | 317 => 269 | 318 => 271 | 319 => 272 | 320 => 273 | 337 => 295 | 338 => 296 | n => n, fun | 9 => 9 | 3 => 3 | 75 => 169 | 167 => 260 | 4 => 4 | 168 => 261 | 210 => 285 | 37 => 37 | 0 => 0 | 127 => 252 | 145 => 308 | 143 => 306 | 2 => 2 | 171 => 264 | 53 => 176 | 5 => 5 | 173 => 267 | 212 => 288 | 51 => 289 | 20 => 20 | 213 => 290 | 46 => 219 | 232 => 312 | 233 => 313 | 80 => 140 | n => n, fun | 15 => 2 | 16 => 3 | 17 => 4 | 18 => 5 | 19 => 6 | n => n⟩
theorem Tryz.laysC245 : Go.Proofs.LaysC.n245 Tryz.prog Tryz.laysC245_ren := {
  mixed := by kernel_rfl
  f129 := Tryz.func270.trans (congrArg some (by kernel_rfl))
  f171 := Tryz.func174.trans (congrArg some (by kernel_rfl))
  f205 := Tryz.func268.trans (congrArg some (by kernel_rfl))
  f243 := Tryz.func236.trans (congrArg some (by kernel_rfl))
  f245 := Tryz.func170.trans (congrArg some (by kernel_rfl))
  f246 := Tryz.func171.trans (congrArg some (by kernel_rfl))
  f279 := Tryz.func227.trans (congrArg some (by kernel_rfl))
  f280 := Tryz.func228.trans (congrArg some (by kernel_rfl))
  f281 := Tryz.func229.trans (congrArg some (by kernel_rfl))
  f282 := Tryz.func230.trans (congrArg some (by kernel_rfl))
  f283 := Tryz.func231.trans (congrArg some (by kernel_rfl))
  f284 := Tryz.func232.trans (congrArg some (by kernel_rfl))
  f285 := Tryz.func233.trans (congrArg some (by kernel_rfl))
  f286 := Tryz.func234.trans (congrArg some (by kernel_rfl))
  f316 := Tryz.func267.trans (congrArg some (by kernel_rfl))
  f317 := Tryz.func269.trans (congrArg some (by kernel_rfl))
  f318 := Tryz.func271.trans (congrArg some (by kernel_rfl))
  f319 := Tryz.func272.trans (congrArg some (by kernel_rfl))
  f320 := Tryz.func273.trans (congrArg some (by kernel_rfl))
  f337 := Tryz.func295.trans (congrArg some (by kernel_rfl))
  f338 := Tryz.func296.trans (congrArg some (by kernel_rfl))
  t0 := Tryz.underlying0
  a0 := Tryz.isAgg0
  z0 := Tryz.sizeOf0
  v0 := Tryz.zeroValue0
  t2 := Tryz.underlying2
  a2 := Tryz.isAgg2
  z2 := Tryz.sizeOf2
  v2 := Tryz.zeroValue2
  t3 := Tryz.underlying3
  a3 := Tryz.isAgg3
  z3 := Tryz.sizeOf3
  v3 := Tryz.zeroValue3
  t4 := Tryz.underlying4
  a4 := Tryz.isAgg4
  z4 := Tryz.sizeOf4
  v4 := Tryz.zeroValue4
  t5 := Tryz.underlying5
  a5 := Tryz.isAgg5
  z5 := Tryz.sizeOf5
  v5 := Tryz.zeroValue5
  t9 := Tryz.underlying9
  a9 := Tryz.isAgg9
  z9 := Tryz.sizeOf9
  v9 := Tryz.zeroValue9
  t20 := Tryz.underlying20
  a20 := Tryz.isAgg20
  z20 := Tryz.sizeOf20
  v20 := Tryz.zeroValue20
  t37 := Tryz.underlying37
  a37 := Tryz.isAgg37
  z37 := Tryz.sizeOf37
  v37 := Tryz.zeroValue37
  t46 := Tryz.underlying219
  a46 := Tryz.isAgg219
  z46 := Tryz.sizeOf219
  v46 := Tryz.zeroValue219
  t51 := Tryz.underlying289
  a51 := Tryz.isAgg289
  z51 := Tryz.sizeOf289
  v51 := Tryz.zeroValue289
  t53 := Tryz.underlying176
  a53 := Tryz.isAgg176
  z53 := Tryz.sizeOf176
  v53 := Tryz.zeroValue176
  t75 := Tryz.underlying169
  a75 := Tryz.isAgg169
  z75 := Tryz.sizeOf169
  v75 := Tryz.zeroValue169
  t127 := Tryz.underlying252
  a127 := Tryz.isAgg252
  z127 := Tryz.sizeOf252
  v127 := Tryz.zeroValue252
  t143 := Tryz.underlying306
  a143 := Tryz.isAgg306
  z143 := Tryz.sizeOf306
  v143 := Tryz.zeroValue306
  t145 := Tryz.underlying308
  a145 := Tryz.isAgg308
  z145 := Tryz.sizeOf308
  v145 := Tryz.zeroValue308
  t167 := Tryz.underlying260
  a167 := Tryz.isAgg260
  z167 := Tryz.sizeOf260
  v167 := Tryz.zeroValue260
  t168 := Tryz.underlying261
  a168 := Tryz.isAgg261
  z168 := Tryz.sizeOf261
  v168 := Tryz.zeroValue261
  t171 := Tryz.underlying264
  a171 := Tryz.isAgg264
  z171 := Tryz.sizeOf264
  v171 := Tryz.zeroValue264
  t173 := Tryz.underlying267
  a173 := Tryz.isAgg267
  z173 := Tryz.sizeOf267
  v173 := Tryz.zeroValue267
  t210 := Tryz.underlying285
  a210 := Tryz.isAgg285
  z210 := Tryz.sizeOf285
  v210 := Tryz.zeroValue285
  t212 := Tryz.underlying288
  a212 := Tryz.isAgg288
  z212 := Tryz.sizeOf288
  v212 := Tryz.zeroValue288
  t213 := Tryz.underlying290
  a213 := Tryz.isAgg290
  z213 := Tryz.sizeOf290
  t232 := Tryz.underlying312
  a232 := Tryz.isAgg312
  z232 := Tryz.sizeOf312
  v232 := Tryz.zeroValue312
  t233 := Tryz.underlying313
  a233 := Tryz.isAgg313
  z233 := Tryz.sizeOf313
  v233 := Tryz.zeroValue313
  g15 := by kernel_rfl
  g16 := by kernel_rfl
  g17 := by kernel_rfl
  g18 := by kernel_rfl
  g19 := by kernel_rfl
  t80 := Tryz.underlying140
  a80 := Tryz.isAgg140
  z80 := Tryz.sizeOf140
  v80 := Tryz.zeroValue140
  i0 := by kernel_rfl
  i2 := by kernel_rfl
  i3 := by kernel_rfl
  i4 := by kernel_rfl
  i5 := by kernel_rfl
  i9 := by kernel_rfl
  i20 := by kernel_rfl
  i37 := by kernel_rfl
  i46 := by kernel_rfl
  i51 := by kernel_rfl
  i53 := by kernel_rfl
  i75 := by kernel_rfl
  i80 := by kernel_rfl
  i127 := by kernel_rfl
  i143 := by kernel_rfl
  i145 := by kernel_rfl
  i167 := by kernel_rfl
  i168 := by kernel_rfl
  i171 := by kernel_rfl
  i173 := by kernel_rfl
  i210 := by kernel_rfl
  i212 := by kernel_rfl
  i232 := by kernel_rfl
  i233 := by kernel_rfl
  m15 := by kernel_rfl
  m16 := by kernel_rfl
  m17 := by kernel_rfl
  m18 := by kernel_rfl
  m19 := by kernel_rfl
  c0 := by kernel_rfl
  c2 := by kernel_rfl
  c3 := by kernel_rfl
  c4 := by kernel_rfl
  c5 := by kernel_rfl
  c9 := by kernel_rfl
  c20 := by kernel_rfl
  c37 := by kernel_rfl
  c46 := by kernel_rfl
  c51 := by kernel_rfl
  c53 := by kernel_rfl
  c75 := by kernel_rfl
  c80 := by kernel_rfl
  c127 := by kernel_rfl
  c143 := by kernel_rfl
  c145 := by kernel_rfl
  c167 := by kernel_rfl
  c168 := by kernel_rfl
  c171 := by kernel_rfl
  c173 := by kernel_rfl
  c210 := by kernel_rfl
  c212 := by kernel_rfl
  c213 := by kernel_rfl
  c232 := by kernel_rfl
  c233 := by kernel_rfl }
end Go.Proofs
namespace Go.Proofs.YtlobiioioicmhaaGreatDoor
set_option linter.all false
open Go Go.Ev
set_option maxRecDepth 20000
variable {γ : List (Nat × AV)}
/-- What is known of the package-level variables: internal/bytealg.MaxLen holds some int, strconv.ErrRange some error. -/
def Gl (γ : List (Nat × AV)) : Prop := (∃ m, Go.Ev.look γ 1 = AV.ela false [AV.v (.int .i64 m)]) ∧ ∃ te pe, Go.Ev.look γ 3 = AV.ela false [AV.v (.iface te pe)]
theorem toError_ev (hγ : Gl γ) (fn s : ByteArray) (hs : s.size ≤ 281474976710656) (b n : Int) : Ev Tryz.prog γ 170 [.v (.string fn), .v (.string s), .v (.int .i64 b), .v (.int .i64 n), .ifc 260 (.v (.int .i64 1))] (.ifc 261 .bad) := by
  intro G B w vs hG hg hr
  obtain ⟨te, pe, h4⟩ := hγ.2
  have hm := (hg 3).2
  rw [h4] at hm
  simp only [rel, relAt, Cx.shut] at hm
  obtain ⟨r, off, e1, _, ⟨u, hc, rfl⟩, _⟩ := hm
  cases e1
  simp only [relL, rel] at hr
  obtain ⟨u1, us, e1, rfl, u2, us2, rfl, rfl, u3, us3, rfl, rfl, u4, us4, rfl, rfl, u5, us5, rfl, ⟨y, rfl, rfl⟩, rfl⟩ := hr
  obtain rfl : vs = #[.string fn, .string s, .int .i64 b, .int .i64 n, .iface 260 (.int .i64 1)] := by cases vs; simp_all
  refine (Any.strconv_toError_range Go.Proofs.Tryz.laysC245 fn s b n (.iface te pe) w hs hc (.inr ⟨_, _, rfl⟩)).mono ?_
  rintro e w' ⟨N, rfl, _, _, hb⟩
  refine ⟨_, rfl, ?_, hb⟩
  simp only [rel]
  exact ⟨_, rfl, trivial⟩
def intR (l : List UInt8) : AV := if decV l < 9223372036854775808 then .tup [.v (.int .i64 (decV l)), .v .nilIface] else .tup [.v (.int .i64 9223372036854775807), .ifc 260 (.v (.int .i64 1))]
theorem b109 : bodyT Tryz.prog 223 := ⟨_, Tryz.func223, by kernel_rfl, by kernel_rfl⟩
theorem b90 : bodyT Tryz.prog 169 := ⟨_, Tryz.func169, by kernel_rfl, by kernel_rfl⟩
theorem b91 : bodyT Tryz.prog 170 := ⟨_, Tryz.func170, by kernel_rfl, by kernel_rfl⟩
theorem b59 : bodyT Tryz.prog 100 := ⟨_, Tryz.func100, by kernel_rfl, by kernel_rfl⟩
set_option maxHeartbeats 2000000 in
set_option maxRecDepth 20000 in
theorem parseInt_ev (l : List UInt8) (h1 : 1 ≤ l.length) (hl : l.length ≤ 140737488351232) (hd : ∀ j, j < l.length → digitN (atL l j) = true) :
    Ev Tryz.prog γ 169 [.v (.string ⟨l.toArray⟩), .v (.int .i64 10), .v (.int .i64 64)] (intR l) := by
  refine Ev.of Tryz.func169 rfl ?_
  have hne : (l == ([] : List UInt8)) = false := by
    cases l with
    | nil => simp at h1
    | cons => rfl
  have hd0 : 48 ≤ atL l 0 ∧ atL l 0 ≤ 57 := by simpa [digitN] using hd 0 (by omega)
  have ea : ∀ j, (l.getD j 0).toNat = atL l j := fun _ => rfl
  have n43 : ((atL l 0 : Int) == 43) = false := by simp; omega
  have n45 : ((atL l 0 : Int) == 45) = false := by simp; omega
  have h640 : ((64 : Int) == 0) = false := by decide
  have w63 : IntKind.u64.wrap 63 = 63 := by rw [u64w] <;> omega
  have w631 : IntKind.i64.wrap (64 - 1) = 63 := by decide
  have wsh : IntKind.u64.wrap (1 * 2 ^ min (Int.toNat 63) IntKind.u64.bits) = 9223372036854775808 := by decide
  have wsh' : IntKind.u64.wrap (1 * 2 ^ min 63 IntKind.u64.bits) = 9223372036854775808 := by decide
  have wm1 : IntKind.u64.wrap (9223372036854775808 - 1) = 9223372036854775807 := by decide
  have wm2 : IntKind.i64.wrap 9223372036854775807 = 9223372036854775807 := by decide
  simp only [Tryz.f169, hne, ea, n43, n45, evS, tyS, Nat.reduceAdd, Nat.reduceSub, Nat.reduceLT, Nat.reduceEqDiff, reduceCtorEq, Int.reduceLE]
  (repeat' (first | (with_reducible refine And.intro ?_ ?_) | ((first | refine GuardK.intro_f (fun h => ?_) (fun h => ?_) | refine GuardK.intro_t (fun h => ?_) (fun h => ?_) | refine CondK.intro (fun h => ?_) (fun h => ?_) | refine PickK.intro (fun h => ?_) (fun h => ?_)) <;> simp only [h, tyP, tyQ, hne, ea, n43, n45, evS, tyS, Bool.not_true, Bool.not_false, Nat.reduceAdd, Nat.reduceSub, Nat.reduceMul, Nat.reduceLT, Nat.reduceLeDiff, Nat.reduceEqDiff, reduceCtorEq, List.reduceReplicate, Int.reduceToNat, Int.reduceLE, Int.reduceLT]) | (refine DrawK.intro (by kernel_rfl) (by kernel_rfl) ?_; simp only [tyP, tyQ, hne, ea, n43, n45, evS, tyS, Bool.not_true, Bool.not_false, Nat.reduceAdd, Nat.reduceSub, Nat.reduceMul, Nat.reduceLT, Nat.reduceLeDiff, Nat.reduceEqDiff, reduceCtorEq, List.reduceReplicate, Int.reduceToNat, Int.reduceLE, Int.reduceLT])))
  all_goals try (((try simp only [ne_eq, beq_eq_false_iff_ne] at *) <;> (try omega)); done)
  refine CallK.intro b109 rfl (parseUint_ev l h1 hl hd) ?_
  by_cases h64 : decV l < 18446744073709551616
  · rw [uintR, if_pos h64]
    by_cases h63 : decV l < 9223372036854775808
    · have e1 : IntKind.i64.wrap (decV l : Int) = decV l := by rw [i64w] <;> omega
      have e2 : (decide (9223372036854775808 ≤ (decV l : Int))) = false := by simp; omega
      rw [intR, if_pos h63]
      simp only [tyP, h640, w63, w631, wsh', e1, e2, evS, tyS, Bool.not_true, Bool.not_false, Nat.reduceLT, Nat.reduceEqDiff, reduceCtorEq, Int.reduceToNat, Int.reduceLE]
      (repeat' (first | (with_reducible refine And.intro ?_ ?_) | ((first | refine GuardK.intro_f (fun h => ?_) (fun h => ?_) | refine GuardK.intro_t (fun h => ?_) (fun h => ?_) | refine CondK.intro (fun h => ?_) (fun h => ?_) | refine PickK.intro (fun h => ?_) (fun h => ?_)) <;> simp only [h, tyP, tyQ, hne, ea, h640, w63, w631, wsh, wsh', wm1, wm2, e1, e2, evS, tyS, Bool.not_true, Bool.not_false, Nat.reduceAdd, Nat.reduceSub, Nat.reduceMul, Nat.reduceLT, Nat.reduceLeDiff, Nat.reduceEqDiff, reduceCtorEq, List.reduceReplicate, Int.reduceToNat, Int.reduceLE, Int.reduceLT]) | (refine DrawK.intro (by kernel_rfl) (by kernel_rfl) ?_; simp only [tyP, tyQ, hne, ea, h640, w63, w631, wsh, wsh', wm1, wm2, e1, e2, evS, tyS, Bool.not_true, Bool.not_false, Nat.reduceAdd, Nat.reduceSub, Nat.reduceMul, Nat.reduceLT, Nat.reduceLeDiff, Nat.reduceEqDiff, reduceCtorEq, List.reduceReplicate, Int.reduceToNat, Int.reduceLE, Int.reduceLT])))
      all_goals try (((try simp only [decide_eq_true_eq, decide_eq_false_iff_not, beq_iff_eq, bne_iff_ne, ne_eq, beq_eq_false_iff_ne, bne_eq_false_iff_eq] at *) <;> (try omega)); done)
    · have e2 : (decide (9223372036854775808 ≤ (decV l : Int))) = true := by simp; omega
      rw [intR, if_neg h63]
      simp only [tyP, h640, w63, w631, wsh', wm1, wm2, e2, evS, tyS, Bool.not_true, Bool.not_false, Nat.reduceLT, Nat.reduceEqDiff, reduceCtorEq, Int.reduceToNat, Int.reduceLE]
      (repeat' (first | (with_reducible refine And.intro ?_ ?_) | ((first | refine GuardK.intro_f (fun h => ?_) (fun h => ?_) | refine GuardK.intro_t (fun h => ?_) (fun h => ?_) | refine CondK.intro (fun h => ?_) (fun h => ?_) | refine PickK.intro (fun h => ?_) (fun h => ?_)) <;> simp only [h, tyP, tyQ, hne, ea, h640, w63, w631, wsh, wsh', wm1, wm2, e2, evS, tyS, Bool.not_true, Bool.not_false, Nat.reduceAdd, Nat.reduceSub, Nat.reduceMul, Nat.reduceLT, Nat.reduceLeDiff, Nat.reduceEqDiff, reduceCtorEq, List.reduceReplicate, Int.reduceToNat, Int.reduceLE, Int.reduceLT]) | (refine DrawK.intro (by kernel_rfl) (by kernel_rfl) ?_; simp only [tyP, tyQ, hne, ea, h640, w63, w631, wsh, wsh', wm1, wm2, e2, evS, tyS, Bool.not_true, Bool.not_false, Nat.reduceAdd, Nat.reduceSub, Nat.reduceMul, Nat.reduceLT, Nat.reduceLeDiff, Nat.reduceEqDiff, reduceCtorEq, List.reduceReplicate, Int.reduceToNat, Int.reduceLE, Int.reduceLT])))
      all_goals try (((try simp only [decide_eq_true_eq, decide_eq_false_iff_not, beq_iff_eq, bne_iff_ne, ne_eq, beq_eq_false_iff_ne, bne_eq_false_iff_eq] at *) <;> (try omega)); done)
  · rw [uintR, if_neg h64, intR, if_neg (by omega)]
    simp only [tyP, tyQ, h640, w63, w631, wsh', wm1, wm2, evS, tyS, Bool.not_true, Bool.not_false, Nat.reduceLT, Nat.reduceEqDiff, reduceCtorEq, Int.reduceToNat, Int.reduceLE]
    (repeat' (first | (with_reducible refine And.intro ?_ ?_) | ((first | refine GuardK.intro_f (fun h => ?_) (fun h => ?_) | refine GuardK.intro_t (fun h => ?_) (fun h => ?_) | refine CondK.intro (fun h => ?_) (fun h => ?_) | refine PickK.intro (fun h => ?_) (fun h => ?_)) <;> simp only [h, tyP, tyQ, hne, ea, h640, w63, w631, wsh, wsh', wm1, wm2, evS, tyS, Bool.not_true, Bool.not_false, Nat.reduceAdd, Nat.reduceSub, Nat.reduceMul, Nat.reduceLT, Nat.reduceLeDiff, Nat.reduceEqDiff, reduceCtorEq, List.reduceReplicate, Int.reduceToNat, Int.reduceLE, Int.reduceLT]) | (refine DrawK.intro (by kernel_rfl) (by kernel_rfl) ?_; simp only [tyP, tyQ, hne, ea, h640, w63, w631, wsh, wsh', wm1, wm2, evS, tyS, Bool.not_true, Bool.not_false, Nat.reduceAdd, Nat.reduceSub, Nat.reduceMul, Nat.reduceLT, Nat.reduceLeDiff, Nat.reduceEqDiff, reduceCtorEq, List.reduceReplicate, Int.reduceToNat, Int.reduceLE, Int.reduceLT])))
    all_goals try (((try simp only [decide_eq_true_eq, decide_eq_false_iff_not, beq_iff_eq, bne_iff_ne, ne_eq, beq_eq_false_iff_ne, bne_eq_false_iff_eq] at *) <;> (try omega)); done)
def int59R (l : List UInt8) : AV := if decV l < 9223372036854775808 then .tup [.v (.int .i64 (decV l)), .v .nilIface] else .tup [.v (.int .i64 9223372036854775807), .ifc 261 .bad]
set_option maxRecDepth 20000 in
theorem parseInt59_ev (hγ : Gl γ) (l : List UInt8) (h1 : 1 ≤ l.length) (hl : l.length ≤ 140737488351232) (hd : ∀ j, j < l.length → digitN (atL l j) = true) :
    Ev Tryz.prog γ 100 [.v (.string ⟨l.toArray⟩), .v (.int .i64 10), .v (.int .i64 64)] (int59R l) := by
  refine Ev.of Tryz.func100 rfl ?_
  simp only [Tryz.f100, evS, Nat.reduceAdd, Nat.reduceSub, Nat.reduceLT, Nat.reduceEqDiff, reduceCtorEq]
  refine CallK.intro b90 rfl (parseInt_ev l h1 hl hd) ?_
  by_cases h63 : decV l < 9223372036854775808
  · rw [intR, if_pos h63, int59R, if_pos h63]
    simp only [tyP, evS, Bool.not_true, Nat.reduceLT, Nat.reduceEqDiff, reduceCtorEq]
    (repeat' (first | (with_reducible refine And.intro ?_ ?_) | ((first | refine GuardK.intro_f (fun h => ?_) (fun h => ?_) | refine GuardK.intro_t (fun h => ?_) (fun h => ?_) | refine CondK.intro (fun h => ?_) (fun h => ?_) | refine PickK.intro (fun h => ?_) (fun h => ?_)) <;> simp only [h, tyP, tyQ, evS, tyS, Bool.not_true, Bool.not_false, Nat.reduceAdd, Nat.reduceSub, Nat.reduceMul, Nat.reduceLT, Nat.reduceLeDiff, Nat.reduceEqDiff, reduceCtorEq, List.reduceReplicate, Int.reduceToNat, Int.reduceLE, Int.reduceLT]) | (refine DrawK.intro (by kernel_rfl) (by kernel_rfl) ?_; simp only [tyP, tyQ, evS, tyS, Bool.not_true, Bool.not_false, Nat.reduceAdd, Nat.reduceSub, Nat.reduceMul, Nat.reduceLT, Nat.reduceLeDiff, Nat.reduceEqDiff, reduceCtorEq, List.reduceReplicate, Int.reduceToNat, Int.reduceLE, Int.reduceLT])))
    all_goals try (((try simp only [decide_eq_true_eq, decide_eq_false_iff_not, beq_iff_eq, bne_iff_ne, ne_eq, beq_eq_false_iff_ne, bne_eq_false_iff_eq] at *) <;> (try omega)); done)
  · rw [intR, if_neg h63, int59R, if_neg h63]
    simp only [tyP, evS, Bool.not_false, Nat.reduceLT, Nat.reduceEqDiff, reduceCtorEq]
    refine CallK.intro b91 rfl (toError_ev hγ _ _ (by show l.toArray.size ≤ _; rw [List.size_toArray]; omega) _ _) ?_
    simp only [evS, Nat.reduceLT, Nat.reduceEqDiff, reduceCtorEq]
    (repeat' (first | (with_reducible refine And.intro ?_ ?_) | ((first | refine GuardK.intro_f (fun h => ?_) (fun h => ?_) | refine GuardK.intro_t (fun h => ?_) (fun h => ?_) | refine CondK.intro (fun h => ?_) (fun h => ?_) | refine PickK.intro (fun h => ?_) (fun h => ?_)) <;> simp only [h, tyP, tyQ, evS, tyS, Bool.not_true, Bool.not_false, Nat.reduceAdd, Nat.reduceSub, Nat.reduceMul, Nat.reduceLT, Nat.reduceLeDiff, Nat.reduceEqDiff, reduceCtorEq, List.reduceReplicate, Int.reduceToNat, Int.reduceLE, Int.reduceLT]) | (refine DrawK.intro (by kernel_rfl) (by kernel_rfl) ?_; simp only [tyP, tyQ, evS, tyS, Bool.not_true, Bool.not_false, Nat.reduceAdd, Nat.reduceSub, Nat.reduceMul, Nat.reduceLT, Nat.reduceLeDiff, Nat.reduceEqDiff, reduceCtorEq, List.reduceReplicate, Int.reduceToNat, Int.reduceLE, Int.reduceLT])))
    all_goals try (((try simp only [decide_eq_true_eq, decide_eq_false_iff_not, beq_iff_eq, bne_iff_ne, ne_eq, beq_eq_false_iff_ne, bne_eq_false_iff_eq] at *) <;> (try omega)); done)
def decR (l : List UInt8) (most : Int) : AV := if 1 < l.length ∧ atL l 0 = 48 then .tup [.v (.int .i64 0), .v (.bool false)] else if decV l < 9223372036854775808 then .tup [.v (.int .i64 (decV l)), .v (.bool (decide ((decV l : Int) ≤ most)))] else .tup [.v (.int .i64 9223372036854775807), .v (.bool false)]
set_option maxRecDepth 20000 in
theorem lexDecimal_ev (hγ : Gl γ) (b : Bool) (l : List UInt8) (most : Int) (h1 : 1 ≤ l.length) (hl : l.length ≤ 140737488351232) (hd : ∀ j, j < l.length → digitN (atL l j) = true) :
    Ev Tryz.prog γ 279 [.sl b l.length l.length (l.map byteC), .v (.int .i64 most)] (decR l most) := by
  refine Ev.of Tryz.func279 rfl ?_
  have t0 : take1 (l.map byteC) = some (.v (.int .u8 (atL l 0))) := by
    have := take1_byte (l := l) (n := 0) (by omega)
    rw [List.drop_zero] at this
    rw [this]; simp [atL, List.getD, List.getElem?_eq_getElem (show 0 < l.length by omega)]
  simp only [Tryz.f279, evS, tyS, Nat.reduceAdd, Nat.reduceSub, Nat.reduceLT, Nat.reduceEqDiff, reduceCtorEq]
  (repeat' (first | (with_reducible refine And.intro ?_ ?_) | ((first | refine GuardK.intro_f (fun h => ?_) (fun h => ?_) | refine GuardK.intro_t (fun h => ?_) (fun h => ?_) | refine CondK.intro (fun h => ?_) (fun h => ?_) | refine PickK.intro (fun h => ?_) (fun h => ?_)) <;> simp only [h, t0, evS, tyS, Nat.reduceLT, Nat.reduceEqDiff, reduceCtorEq, Int.reduceLE]) | (refine DrawK.intro (by kernel_rfl) (by kernel_rfl) ?_; simp only [t0, evS, tyS, Bool.not_true, Bool.not_false, Nat.reduceAdd, Nat.reduceSub, Nat.reduceMul, Nat.reduceLT, Nat.reduceLeDiff, Nat.reduceEqDiff, reduceCtorEq, List.reduceReplicate, Int.reduceToNat, Int.reduceLE, Int.reduceLT])))
  all_goals try (((try simp only [decide_eq_true_eq, decide_eq_false_iff_not, beq_iff_eq, ne_eq, beq_eq_false_iff_ne] at *) <;> (try omega)); done)
  · ((try simp only [decide_eq_true_eq, beq_iff_eq] at *) <;> (try omega))
    rw [decR, if_pos (by omega)]
    simp only [evS]
  all_goals
    (have hz : ¬ (1 < l.length ∧ atL l 0 = 48) := by ((try simp only [decide_eq_true_eq, decide_eq_false_iff_not, ne_eq, beq_eq_false_iff_ne] at *) <;> (try omega))
     refine CallK.intro b59 rfl (parseInt59_ev hγ l h1 hl hd) ?_
     by_cases h63 : decV l < 9223372036854775808
     · rw [int59R, if_pos h63, decR, if_neg hz, if_pos h63]
       simp only [tyP, evS, Nat.reduceLT, Nat.reduceEqDiff, reduceCtorEq]
     · rw [int59R, if_neg h63, decR, if_neg hz, if_neg h63]
       simp only [tyP, evS, Nat.reduceLT, Nat.reduceEqDiff, reduceCtorEq])
end Go.Proofs.YtlobiioioicmhaaGreatDoor
/- Doubles that hold a whole number times a power of two exactly. -/
namespace Go.Ev
set_option linter.all false
open Go
/-- The place of the last digit that is kept of m * 2^e. -/
def lastP (m : Nat) (e : Int) : Int := max (e + m.log2 - 52) (-1074)
/-- The word of m * 2^e (0 < m < 2^53, e at least -1074). -/
def dblN (m : Nat) (e : Int) : Nat := min ((lastP m e + 1074).toNat * 4503599627370496 + m * 2 ^ (e - lastP m e).toNat) 9218868437227405312
theorem log2_lt53 {m : Nat} (h0 : 0 < m) (h : m < 9007199254740992) : m.log2 ≤ 52 := by
  have : m.log2 < 53 := (Nat.log2_lt (by omega)).2 (by simpa using h)
  omega
theorem lastP_le {m : Nat} {e : Int} (h0 : 0 < m) (h : m < 9007199254740992) (he : -1074 ≤ e) : lastP m e ≤ e := by
  have := log2_lt53 h0 h
  unfold lastP; omega
theorem log2_mul_pow {m : Nat} (h0 : 0 < m) (k : Nat) : (m * 2 ^ k).log2 = m.log2 + k := by
  have hp : 0 < 2 ^ k := Nat.pos_of_ne_zero (by simp)
  have hm : 0 < m * 2 ^ k := Nat.mul_pos h0 hp
  have hlt : m < 2 ^ (m.log2 + 1) := Nat.lt_log2_self
  have hge : 2 ^ m.log2 ≤ m := Nat.log2_self_le (by omega)
  have a : (m * 2 ^ k).log2 < m.log2 + k + 1 := (Nat.log2_lt (by omega)).2 (by
    rw [show m.log2 + k + 1 = (m.log2 + 1) + k from by omega, Nat.pow_add]; exact Nat.mul_lt_mul_of_pos_right hlt hp)
  have b : ¬ (m * 2 ^ k).log2 < m.log2 + k := fun hc => by
    have := (Nat.log2_lt (by omega)).1 hc
    rw [Nat.pow_add] at this
    exact absurd (Nat.mul_le_mul_right (2 ^ k) hge) (by omega)
  omega
theorem cut_exact (n d : Nat) (h0 : 0 < n) : Ieee.Toward.even.cut false (n * 2 ^ d) d = n := by
  have h2 : 0 < 2 ^ d := Nat.pos_of_ne_zero (by simp)
  have hm : min d ((n * 2 ^ d).log2 + 2) = d := by rw [log2_mul_pow h0]; omega
  unfold Ieee.Toward.cut
  simp only [hm, Nat.one_shiftLeft, Nat.mul_mod_left, Nat.mul_div_left _ h2]
  have : ¬ (2 ^ d < 2 * 0) := by omega
  have h3 : (2 ^ d == 2 * 0) = false := by simp
  simp [this, h3]
theorem cut_zero (n : Nat) : Ieee.Toward.even.cut false n 0 = n := by
  unfold Ieee.Toward.cut
  have : (min 0 (n.log2 + 2)) = 0 := by omega
  simp [this, Nat.mod_one]
theorem nearest_exact (m : Nat) (e : Int) (k : Nat) (h0 : 0 < m) (h : m < 9007199254740992) (he : -1074 ≤ e) : Ieee.double.nearest false (m * 2 ^ k) (e - k) = dblN m e := by
  have hl := log2_lt53 h0 h
  have hle := lastP_le h0 h he
  have hp : m * 2 ^ k ≠ 0 := by have : 0 < 2 ^ k := Nat.pos_of_ne_zero (by simp)
                                exact Nat.ne_of_gt (Nat.mul_pos h0 this)
  have e1 : Ieee.double.leastPlace = -1074 := by rfl
  have e2 : Ieee.double.binade = 4503599627370496 := by rfl
  have e3 : Ieee.double.infRung = 9218868437227405312 := by rfl
  have e4 : Ieee.double.fractionBits = 52 := rfl
  have e5 : max (e - k + ((m * 2 ^ k).log2 : Nat) - (52 : Nat)) (-1074) = lastP m e := by rw [log2_mul_pow h0]; unfold lastP; omega
  unfold Ieee.Format.nearest
  rw [if_neg hp]
  simp only [e1, e2, e3, e4, e5]
  unfold Ieee.Format.word dblN
  simp only [Bool.false_eq_true, if_false]
  have e6 : (lastP m e - -1074).toNat = (lastP m e + 1074).toNat := by congr 1
  rw [e6]
  have key : Ieee.Toward.even.cut false ((m * 2 ^ k) <<< (e - k - lastP m e).toNat) (lastP m e - (e - k)).toNat = m * 2 ^ (e - lastP m e).toNat := by
    by_cases hk : (k : Int) ≤ e - lastP m e
    · have a1 : (lastP m e - (e - k)).toNat = 0 := by omega
      have a2 : k + (e - k - lastP m e).toNat = (e - lastP m e).toNat := by omega
      rw [a1, cut_zero, Nat.shiftLeft_eq, Nat.mul_assoc, ← Nat.pow_add, a2]
    · have a1 : (e - k - lastP m e).toNat = 0 := by omega
      have a2 : k = (e - lastP m e).toNat + (lastP m e - (e - k)).toNat := by omega
      rw [a1]
      have : (m * 2 ^ k) <<< 0 = (m * 2 ^ (e - lastP m e).toNat) * 2 ^ (lastP m e - (e - k)).toNat := by
        rw [Nat.shiftLeft_eq, Nat.pow_zero, Nat.mul_one, Nat.mul_assoc, ← Nat.pow_add, ← a2]
      rw [this, cut_exact]
      exact Nat.mul_pos h0 (Nat.pos_of_ne_zero (by simp))
  rw [key]
theorem pow_le52 {m : Nat} {e : Int} (h0 : 0 < m) (h : m < 9007199254740992) (he : -1074 ≤ e) : m * 2 ^ (e - lastP m e).toNat < 9007199254740992 ∧ (-1074 < lastP m e → 4503599627370496 ≤ m * 2 ^ (e - lastP m e).toNat) := by
  have hl := log2_lt53 h0 h
  have hle := lastP_le h0 h he
  have hlt : m < 2 ^ (m.log2 + 1) := Nat.lt_log2_self
  have hge : 2 ^ m.log2 ≤ m := Nat.log2_self_le (by omega)
  constructor
  · have : (e - lastP m e).toNat ≤ 52 - m.log2 := by unfold lastP; omega
    calc m * 2 ^ (e - lastP m e).toNat < 2 ^ (m.log2 + 1) * 2 ^ (e - lastP m e).toNat := Nat.mul_lt_mul_of_pos_right hlt (Nat.pos_of_ne_zero (by simp))
      _ = 2 ^ (m.log2 + 1 + (e - lastP m e).toNat) := (Nat.pow_add _ _ _).symm
      _ ≤ 2 ^ 53 := Nat.pow_le_pow_right (by omega) (by omega)
      _ = 9007199254740992 := by rfl
  · intro hg
    have : (e - lastP m e).toNat = 52 - m.log2 := by unfold lastP at *; omega
    rw [this]
    calc 4503599627370496 = 2 ^ (m.log2 + (52 - m.log2)) := by rw [show m.log2 + (52 - m.log2) = 52 from by omega]
      _ = 2 ^ m.log2 * 2 ^ (52 - m.log2) := by rw [Nat.pow_add]
      _ ≤ m * 2 ^ (52 - m.log2) := Nat.mul_le_mul_right _ hge
theorem fin_iff {m : Nat} {e : Int} (h0 : 0 < m) (h : m < 9007199254740992) (he : -1074 ≤ e) : (e + m.log2 ≤ 1023 → (lastP m e + 1074).toNat * 4503599627370496 + m * 2 ^ (e - lastP m e).toNat < 9218868437227405312) ∧ (1024 ≤ e + m.log2 → 9218868437227405312 ≤ (lastP m e + 1074).toNat * 4503599627370496 + m * 2 ^ (e - lastP m e).toNat) := by
  have hl := log2_lt53 h0 h
  have hle := lastP_le h0 h he
  have hp := pow_le52 h0 h he
  generalize m * 2 ^ (e - lastP m e).toNat = K at *
  constructor
  · intro hf
    have : lastP m e ≤ 971 := by unfold lastP; omega
    omega
  · intro hf
    have h2 : 972 ≤ lastP m e := by unfold lastP; omega
    have := hp.2 (by omega)
    omega
theorem read_dbl {m : Nat} {e : Int} (h0 : 0 < m) (h : m < 9007199254740992) (he : -1074 ≤ e) (hf : e + m.log2 ≤ 1023) : Ieee.double.read (dblN m e) = .number false (m * 2 ^ (e - lastP m e).toNat) (lastP m e) := by
  have hlt := (fin_iff h0 h he).1 hf
  have hp := pow_le52 h0 h he
  have hge : -1074 ≤ lastP m e := by unfold lastP; omega
  have hd : dblN m e = (lastP m e + 1074).toNat * 4503599627370496 + m * 2 ^ (e - lastP m e).toNat := by unfold dblN; omega
  have e1 : Ieee.double.leastPlace = -1074 := by rfl
  have e2 : Ieee.double.binade = 4503599627370496 := by rfl
  have e3 : Ieee.double.infRung = 9218868437227405312 := by rfl
  have e4 : Ieee.double.signWeight = 9223372036854775808 := by rfl
  rw [hd]
  unfold Ieee.Format.read
  simp only [e1, e2, e3, e4]
  generalize m * 2 ^ (e - lastP m e).toNat = K at *
  generalize lastP m e = L at *
  have b1 : ((L + 1074).toNat * 4503599627370496 + K) / 9223372036854775808 = 0 := Nat.div_eq_of_lt (by omega)
  have b2 : ((L + 1074).toNat * 4503599627370496 + K) % 9223372036854775808 = (L + 1074).toNat * 4503599627370496 + K := Nat.mod_eq_of_lt (by omega)
  rw [b1, b2]
  have b3 : ((0 % 2 : Nat) == 1) = false := by rfl
  rw [b3]
  by_cases hs : (L + 1074).toNat * 4503599627370496 + K < 4503599627370496
  · rw [if_pos hs]
    have : L = -1074 := by omega
    subst this
    simp
  · rw [if_neg hs, if_pos hlt]
    by_cases hK : 4503599627370496 ≤ K
    · have c1 : 4503599627370496 + ((L + 1074).toNat * 4503599627370496 + K) % 4503599627370496 = K := by omega
      have c2 : (-1074 : Int) + ((((L + 1074).toNat * 4503599627370496 + K) / 4503599627370496 - 1 : Nat) : Int) = L := by omega
      rw [c1, c2]
    · have : L = -1074 := by
        rcases Int.lt_or_le (-1074) L with hne | hne
        · exact absurd (hp.2 hne) hK
        · omega
      omega
theorem dbl_inf {m : Nat} {e : Int} (h0 : 0 < m) (h : m < 9007199254740992) (he : -1074 ≤ e) (hf : 1024 ≤ e + m.log2) : dblN m e = 9218868437227405312 := by
  have := (fin_iff h0 h he).2 hf
  unfold dblN; omega
theorem mul_two {m : Nat} {e : Int} (h0 : 0 < m) (h : m < 9007199254740992) (he : -1074 ≤ e) : Ieee.double.mul (dblN m e) 4611686018427387904 = some (dblN m (e + 1)) := by
  have r2 : Ieee.double.read 4611686018427387904 = .number false 4503599627370496 (-51) := by rfl
  unfold Ieee.Format.mul
  rw [r2]
  by_cases hf : e + m.log2 ≤ 1023
  · rw [read_dbl h0 h he hf]
    have hle := lastP_le h0 h he
    simp only [Ieee.Datum.product, Option.map_some, Ieee.Format.write]
    have a1 : m * 2 ^ (e - lastP m e).toNat * 4503599627370496 = m * 2 ^ ((e - lastP m e).toNat + 52) := by
      rw [Nat.pow_add, Nat.mul_assoc]
    have a2 : lastP m e + -51 = (e + 1) - (((e - lastP m e).toNat + 52 : Nat) : Int) := by omega
    rw [a1, a2, show (false ^^ false) = false from rfl, nearest_exact m (e + 1) _ h0 h (by omega)]
  · rw [dbl_inf h0 h he (by omega), dbl_inf h0 h (by omega) (by omega)]
    rfl
theorem div_two {m : Nat} {e : Int} (h0 : 0 < m) (h : m < 9007199254740992) (he : -1073 ≤ e) (hf : e + m.log2 ≤ 1023) : Ieee.double.div (dblN m e) 4611686018427387904 = some (dblN m (e - 1)) := by
  have r2 : Ieee.double.read 4611686018427387904 = .number false 4503599627370496 (-51) := by rfl
  have hle := lastP_le h0 h (by omega : -1074 ≤ e)
  have hK := (pow_le52 h0 h (by omega : -1074 ≤ e)).1
  have hK0 : 0 < m * 2 ^ (e - lastP m e).toNat := Nat.mul_pos h0 (Nat.pos_of_ne_zero (by simp))
  unfold Ieee.Format.div
  rw [r2, read_dbl h0 h (by omega) hf]
  have hlg := log2_lt53 hK0 hK
  have l2 : (4503599627370496 : Nat).log2 = 52 := by rfl
  have f52 : Ieee.double.fractionBits = 52 := rfl
  simp only [Ieee.Datum.quotient, l2, f52, Option.map_some, Ieee.Format.write]
  rw [if_neg (by omega)]
  generalize hM : m * 2 ^ (e - lastP m e).toNat = M at *
  have hmore : 54 ≤ 52 + 2 + 52 - M.log2 := by omega
  generalize 52 + 2 + 52 - M.log2 = more at *
  have d1 : M <<< more = (M * 2 ^ (more - 52)) * 4503599627370496 := by
    rw [Nat.shiftLeft_eq, Nat.mul_assoc, show (4503599627370496 : Nat) = 2 ^ 52 from rfl, ← Nat.pow_add, show more - 52 + 52 = more from by omega]
  rw [d1, Nat.mul_div_cancel _ (by omega), Nat.mul_mod_left]
  have d2 : 2 * (M * 2 ^ (more - 52)) + ((0 : Nat) != 0).toNat = m * 2 ^ ((e - lastP m e).toNat + (more - 51)) := by
    rw [← hM, Nat.pow_add, ← Nat.mul_assoc, show more - 51 = (more - 52) + 1 from by omega, Nat.pow_succ]
    have : ((0 : Nat) != 0).toNat = 0 := rfl
    rw [this]
    rw [Nat.add_zero]; ac_rfl
  have d3 : lastP m e - -51 - (more : Int) - 1 = (e - 1) - (((e - lastP m e).toNat + (more - 51) : Nat) : Int) := by omega
  have d4 : (Ieee.double.nearest false (m * 2 ^ ((e - lastP m e).toNat + (more - 51))) ((e - 1) - (((e - lastP m e).toNat + (more - 51) : Nat) : Int))) = dblN m (e - 1) := nearest_exact m (e - 1) _ h0 h (by omega)
  simp only [Option.map_some, Ieee.Format.write, show (false ^^ false) = false from rfl]
  rw [d2, d3, d4]
end Go.Ev
/- Comparisons of such doubles; the bits of a word. -/
namespace Go.Ev
set_option linter.all false
open Go
theorem rd0 : Ieee.double.read 0 = .number false 0 (-1074) := by rfl
theorem rdMin : Ieee.double.read 4503599627370496 = .number false 4503599627370496 (-1074) := by rfl
theorem rdMax : Ieee.double.read 9218868437227405311 = .number false 9007199254740991 971 := by rfl
theorem rdInf : Ieee.double.read 9218868437227405312 = .infinity false := by rfl
theorem one_le_pow (k : Nat) : 1 ≤ 2 ^ k := Nat.pos_of_ne_zero (by simp)
section
variable {m : Nat} {e : Int}
theorem rd_inf (h0 : 0 < m) (h : m < 9007199254740992) (he : -1074 ≤ e) (hf : 1024 ≤ e + m.log2) : Ieee.double.read (dblN m e) = .infinity false := by
  rw [dbl_inf h0 h he hf, rdInf]
theorem ord_zero (h0 : 0 < m) (h : m < 9007199254740992) (he : -1074 ≤ e) : Ieee.double.order (dblN m e) 0 = some .gt := by
  unfold Ieee.Format.order
  by_cases hf : e + m.log2 ≤ 1023
  · rw [read_dbl h0 h he hf, rd0]
    have hM : 0 < m * 2 ^ (e - lastP m e).toNat := Nat.mul_pos h0 (Nat.pos_of_ne_zero (by simp))
    have hl : -1074 ≤ lastP m e := by unfold lastP; omega
    simp only [Ieee.Datum.order, Ieee.signed, Bool.false_eq_true, if_false, Nat.shiftLeft_eq, Nat.zero_mul]
    generalize m * 2 ^ (e - lastP m e).toNat = M at *
    have hp := one_le_pow (lastP m e - min (lastP m e) (-1074)).toNat
    have : 0 < M * 2 ^ (lastP m e - min (lastP m e) (-1074)).toNat := Nat.mul_pos hM hp
    generalize M * 2 ^ (lastP m e - min (lastP m e) (-1074)).toNat = A at *
    have : compare ((A : Nat) : Int) ((0 : Nat) : Int) = .gt := by
      rw [Int.compare_eq_gt]; omega
    rw [this]
  · rw [rd_inf h0 h he (by omega), rd0]; rfl
theorem ord_min (h0 : 0 < m) (h : m < 9007199254740992) : Ieee.double.order (dblN m 0) 4503599627370496 = some .gt := by
  have hlg := log2_lt53 h0 h
  have hf : (0 : Int) + m.log2 ≤ 1023 := by omega
  unfold Ieee.Format.order
  rw [read_dbl h0 h (by omega) hf, rdMin]
  have hl : lastP m 0 = (m.log2 : Int) - 52 := by unfold lastP; omega
  have hM := (pow_le52 h0 h (by omega : (-1074 : Int) ≤ 0)).2 (by omega)
  simp only [Ieee.Datum.order, Ieee.signed, Bool.false_eq_true, if_false, Nat.shiftLeft_eq]
  generalize m * 2 ^ ((0 : Int) - lastP m 0).toNat = M at *
  have e1 : ((-1074 : Int) - min (lastP m 0) (-1074)).toNat = 0 := by omega
  obtain ⟨k, hk⟩ : ∃ k, (lastP m 0 - min (lastP m 0) (-1074)).toNat = k + 1 := ⟨(lastP m 0 - min (lastP m 0) (-1074)).toNat - 1, by omega⟩
  rw [e1, hk]
  have hp := one_le_pow k
  have : 9007199254740992 ≤ M * 2 ^ (k + 1) := by
    rw [Nat.pow_succ]
    calc 9007199254740992 = 4503599627370496 * (1 * 2) := by omega
      _ ≤ M * (2 ^ k * 2) := Nat.mul_le_mul hM (Nat.mul_le_mul_right _ hp)
  generalize M * 2 ^ (k + 1) = A at *
  have : compare ((A : Nat) : Int) ((4503599627370496 * 2 ^ 0 : Nat) : Int) = .gt := by
    rw [Int.compare_eq_gt]; omega
  rw [this]
theorem ord_max (h0 : 0 < m) (h : m < 9007199254740992) (he : -1074 ≤ e) : (Ieee.double.order (dblN m e) 9218868437227405311 == some .gt) = decide (1024 ≤ e + m.log2) := by
  unfold Ieee.Format.order
  by_cases hf : e + m.log2 ≤ 1023
  · rw [read_dbl h0 h he hf, rdMax]
    have hlg := log2_lt53 h0 h
    have hM := (pow_le52 h0 h he).1
    have hl : lastP m e ≤ 971 := by unfold lastP; omega
    simp only [Ieee.Datum.order, Ieee.signed, Bool.false_eq_true, if_false, Nat.shiftLeft_eq]
    generalize m * 2 ^ (e - lastP m e).toNat = M at *
    have e1 : (lastP m e - min (lastP m e) 971).toNat = 0 := by omega
    rw [e1]
    have hp := one_le_pow (971 - min (lastP m e) 971).toNat
    have : 9007199254740991 ≤ 9007199254740991 * 2 ^ (971 - min (lastP m e) 971).toNat := Nat.le_mul_of_pos_right _ hp
    generalize 9007199254740991 * 2 ^ (971 - min (lastP m e) 971).toNat = A at *
    have : compare ((M * 2 ^ 0 : Nat) : Int) ((A : Nat) : Int) ≠ .gt := by
      rw [Ne, Int.compare_eq_gt]; omega
    cases hc : compare ((M * 2 ^ 0 : Nat) : Int) ((A : Nat) : Int) with
    | gt => exact absurd hc this
    | lt => simp; omega
    | eq => simp; omega
  · rw [rd_inf h0 h he (by omega), rdMax]
    have : 1024 ≤ e + (m.log2 : Int) := by omega
    simp only [this, decide_true]; rfl
theorem ord_self (h0 : 0 < m) (h : m < 9007199254740992) (he : -1074 ≤ e) : Ieee.double.order (dblN m e) (dblN m e) = some .eq := by
  unfold Ieee.Format.order
  by_cases hf : e + m.log2 ≤ 1023
  · rw [read_dbl h0 h he hf]
    simp only [Ieee.Datum.order]
    congr 1
    rw [Int.compare_eq_eq]
  · rw [rd_inf h0 h he (by omega)]; rfl
theorem sub_self_fin (h0 : 0 < m) (h : m < 9007199254740992) (he : -1074 ≤ e) (hf : e + m.log2 ≤ 1023) : Ieee.double.sub (dblN m e) (dblN m e) = some 0 := by
  unfold Ieee.Format.sub
  rw [read_dbl h0 h he hf]
  simp only [Ieee.Datum.opposite, Ieee.Datum.sum, Bool.not_false, Ieee.signed, Bool.false_eq_true, if_false, if_true, Option.map_some, Ieee.Format.write]
  generalize ((m * 2 ^ (e - lastP m e).toNat) <<< (lastP m e - min (lastP m e) (lastP m e)).toNat : Nat) = A
  have : ((A : Nat) : Int) + -((A : Nat) : Int) = 0 := by omega
  rw [this]
  rfl
theorem sub_self_inf (h0 : 0 < m) (h : m < 9007199254740992) (he : -1074 ≤ e) (hf : 1024 ≤ e + m.log2) : Ieee.double.sub (dblN m e) (dblN m e) = none := by
  rw [dbl_inf h0 h he hf]; rfl
end
theorem mul_pow2 {m : Nat} {e : Int} (h0 : 0 < m) (h : m < 9007199254740992) (he : -1074 ≤ e) (hf : e + m.log2 ≤ 1023) (C : Nat) (p : Int) (hC : Ieee.double.read C = .number false 4503599627370496 (p - 52)) (hp : -1074 ≤ e + p) :
    Ieee.double.mul C (dblN m e) = some (dblN m (e + p)) := by
  unfold Ieee.Format.mul
  rw [hC, read_dbl h0 h he hf]
  have hle := lastP_le h0 h he
  simp only [Ieee.Datum.product, Option.map_some, Ieee.Format.write]
  have a1 : 4503599627370496 * (m * 2 ^ (e - lastP m e).toNat) = m * 2 ^ ((e - lastP m e).toNat + 52) := by
    rw [Nat.pow_add, Nat.mul_comm, Nat.mul_assoc]
  have a2 : p - 52 + lastP m e = (e + p) - (((e - lastP m e).toNat + 52 : Nat) : Int) := by omega
  rw [a1, a2, show (false ^^ false) = false from rfl, nearest_exact m (e + p) _ h0 h (by omega)]
theorem word_eq {m : Nat} {e : Int} (h0 : 0 < m) (h : m < 9007199254740992) (h1 : -1022 ≤ e + m.log2) (h2 : e + m.log2 ≤ 1023) :
    dblN m e = (e + m.log2 + 1023).toNat * 4503599627370496 + (m * 2 ^ (52 - m.log2) - 4503599627370496) ∧ 4503599627370496 ≤ m * 2 ^ (52 - m.log2) ∧ m * 2 ^ (52 - m.log2) < 9007199254740992 := by
  have hlg := log2_lt53 h0 h
  have he : -1074 ≤ e := by omega
  have hl : lastP m e = e + m.log2 - 52 := by unfold lastP; omega
  have hk : (e - lastP m e).toNat = 52 - m.log2 := by omega
  have hM := pow_le52 h0 h he
  have hq := (fin_iff h0 h he).1 h2
  rw [hk] at hM hq
  have hl0 : lastP m 0 = (m.log2 : Int) - 52 := by unfold lastP; omega
  have hk0 : ((0 : Int) - lastP m 0).toNat = 52 - m.log2 := by omega
  have hM0 := (pow_le52 h0 h (by omega : (-1074 : Int) ≤ 0)).2 (by omega)
  rw [hk0] at hM0
  refine ⟨?_, hM0, hM.1⟩
  unfold dblN
  rw [hk, hl]
  rw [hl] at hq
  generalize m * 2 ^ (52 - m.log2) = K at *
  generalize (m.log2 : Int) = L at *
  have ht : (e + L + 1023).toNat = (e + L - 52 + 1074).toNat + 1 := by omega
  rw [ht, Nat.add_mul, Nat.one_mul, Nat.min_eq_left (Nat.le_of_lt hq), Nat.add_assoc, Nat.add_sub_cancel' hM0]
theorem ldexp_word {m : Nat} (h0 : 0 < m) (h : m < 9007199254740992) : ∃ L F : Nat, m.log2 = L ∧ L ≤ 52 ∧ F < 4503599627370496 ∧ dblN m 0 = (L + 1023) * 4503599627370496 + F ∧
    ∀ (e : Int) (E : Nat), -1022 ≤ e + L → e + L ≤ 1023 → (E : Int) = e + L + 1023 → (E : Int) * 4503599627370496 + (F : Int) = ((dblN m e : Nat) : Int) := by
  have hlg := log2_lt53 h0 h
  obtain ⟨a1, a2, a3⟩ := word_eq (e := 0) h0 h (by omega) (by omega)
  refine ⟨m.log2, m * 2 ^ (52 - m.log2) - 4503599627370496, rfl, hlg, ?_, ?_, fun e E g1 g2 g3 => ?_⟩
  · generalize m * 2 ^ (52 - m.log2) = K at *
    omega
  · rw [a1]
    congr 2
    omega
  · obtain ⟨b1, _, _⟩ := word_eq (e := e) h0 h g1 g2
    rw [b1, ← g3]
    generalize m * 2 ^ (52 - m.log2) - 4503599627370496 = F
    rw [Int.natCast_add, Int.natCast_mul]
    rfl
/-! ### Bits -/
theorem nat_split (X : Nat) : X = X / 2 ^ 52 * 2 ^ 52 + X % 2 ^ 52 := by rw [Nat.mul_comm]; exact (Nat.div_add_mod _ _).symm
theorem ofInt_nat (n : Nat) (h : n < 18446744073709551616) : (BitVec.ofInt 64 (n : Int)).toNat = n := by
  rw [BitVec.ofInt_natCast, BitVec.toNat_ofNat]; exact Nat.mod_eq_of_lt h
theorem bits_abs (n : Nat) (h : n < 9223372036854775808) : IntKind.u64.wrap (BitVec.ofInt IntKind.u64.bits (n : Int) &&& ~~~BitVec.ofInt IntKind.u64.bits 9223372036854775808).toNat = n := by
  have e1 : (BitVec.ofInt 64 (n : Int) &&& ~~~BitVec.ofInt 64 9223372036854775808).toNat = n := by
    rw [BitVec.toNat_and, ofInt_nat n (by omega)]
    have : (~~~BitVec.ofInt 64 9223372036854775808).toNat = 2 ^ 63 - 1 := by rfl
    rw [this, Nat.and_two_pow_sub_one_eq_mod]
    exact Nat.mod_eq_of_lt (by omega)
  show IntKind.u64.wrap ((BitVec.ofInt 64 (n : Int) &&& ~~~BitVec.ofInt 64 9223372036854775808).toNat : Int) = n
  rw [e1, u64w] <;> omega
theorem and_pow_zero {T : Nat} (hT : T < 2048) : T &&& 2 ^ 11 = 0 := by
  apply Nat.eq_of_testBit_eq
  intro i
  rw [Nat.testBit_and, Nat.testBit_two_pow, Nat.zero_testBit]
  by_cases hi : 11 = i
  · subst hi
    rw [Nat.testBit_lt_two_pow (by omega)]; rfl
  · simp [hi]
theorem bits_frac (T F : Nat) (hT : T < 2048) (hF : F < 4503599627370496) : IntKind.u64.wrap (BitVec.ofInt IntKind.u64.bits ((T * 4503599627370496 + F : Nat) : Int) &&& ~~~BitVec.ofInt IntKind.u64.bits 9218868437227405312).toNat = F := by
  have e1 : (BitVec.ofInt 64 ((T * 4503599627370496 + F : Nat) : Int) &&& ~~~BitVec.ofInt 64 9218868437227405312).toNat = F := by
    rw [BitVec.toNat_and, ofInt_nat _ (by omega)]
    have : (~~~BitVec.ofInt 64 9218868437227405312).toNat = 9227875636482146303 := by rfl
    rw [this, nat_split ((T * 4503599627370496 + F) &&& 9227875636482146303), Nat.and_div_two_pow, Nat.and_mod_two_pow]
    have a1 : (T * 4503599627370496 + F) / 2 ^ 52 = T := by omega
    have a2 : (T * 4503599627370496 + F) % 2 ^ 52 = F := by omega
    have a3 : 9227875636482146303 / 2 ^ 52 = 2 ^ 11 := by rfl
    have a4 : 9227875636482146303 % 2 ^ 52 = 2 ^ 52 - 1 := by rfl
    rw [a1, a2, a3, a4, Nat.and_two_pow_sub_one_eq_mod, and_pow_zero hT]
    have := Nat.mod_eq_of_lt (show F < 2 ^ 52 by omega)
    omega
  show IntKind.u64.wrap ((BitVec.ofInt 64 ((T * 4503599627370496 + F : Nat) : Int) &&& ~~~BitVec.ofInt 64 9218868437227405312).toNat : Int) = F
  rw [e1, u64w] <;> omega
theorem bits_or (E F : Nat) (hE : E < 4096) (hF : F < 4503599627370496) : IntKind.u64.wrap (BitVec.ofInt IntKind.u64.bits (F : Int) ||| BitVec.ofInt IntKind.u64.bits ((E : Int) * 4503599627370496)).toNat = (E : Int) * 4503599627370496 + (F : Int) := by
  have ec : (E : Int) * 4503599627370496 = ((E * 4503599627370496 : Nat) : Int) := by omega
  rw [ec]
  generalize hG : E * 4503599627370496 = G
  have e1 : (BitVec.ofInt 64 (F : Int) ||| BitVec.ofInt 64 ((G : Nat) : Int)).toNat = G + F := by
    rw [BitVec.toNat_or, ofInt_nat _ (by omega), ofInt_nat _ (by omega), Nat.or_comm]
    have := Nat.shiftLeft_add_eq_or_of_lt (show F < 2 ^ 52 by omega) E
    rw [Nat.shiftLeft_eq] at this
    rw [← hG]
    exact this.symm
  show IntKind.u64.wrap ((BitVec.ofInt 64 (F : Int) ||| BitVec.ofInt 64 ((G : Nat) : Int)).toNat : Int) = _
  rw [e1]
  exact (u64w (by omega) (by omega)).trans (by omega)
theorem bits_low (T : Nat) (hT : T < 2048) : IntKind.i64.wrap (BitVec.ofInt IntKind.i64.bits (T : Int) &&& BitVec.ofInt IntKind.i64.bits 2047).toNat = T := by
  have e1 : (BitVec.ofInt 64 (T : Int) &&& BitVec.ofInt 64 2047).toNat = T := by
    rw [BitVec.toNat_and, ofInt_nat _ (by omega)]
    have : (BitVec.ofInt 64 2047).toNat = 2 ^ 11 - 1 := by rfl
    rw [this, Nat.and_two_pow_sub_one_eq_mod]
    exact Nat.mod_eq_of_lt (by omega)
  show IntKind.i64.wrap ((BitVec.ofInt 64 (T : Int) &&& BitVec.ofInt 64 2047).toNat : Int) = T
  rw [e1, i64w] <;> omega
end Go.Ev
namespace Go.Proofs.YtlobiioioicmhaaGreatDoor
set_option linter.all false
open Go Go.Ev
set_option maxRecDepth 20000
variable {γ : List (Nat × AV)}
theorem b122 : bodyT Tryz.prog 196 := ⟨_, Tryz.func196, by kernel_rfl, by kernel_rfl⟩
theorem b130 : bodyT Tryz.prog 264 := ⟨_, Tryz.func264, by kernel_rfl, by kernel_rfl⟩
theorem b131 : bodyT Tryz.prog 265 := ⟨_, Tryz.func265, by kernel_rfl, by kernel_rfl⟩
theorem b100 : bodyT Tryz.prog 119 := ⟨_, Tryz.func119, by kernel_rfl, by kernel_rfl⟩
theorem b86 : bodyT Tryz.prog 165 := ⟨_, Tryz.func165, by kernel_rfl, by kernel_rfl⟩
theorem b112 : bodyT Tryz.prog 226 := ⟨_, Tryz.func226, by kernel_rfl, by kernel_rfl⟩
theorem b89 : bodyT Tryz.prog 168 := ⟨_, Tryz.func168, by kernel_rfl, by kernel_rfl⟩
theorem ext33 (b : Nat) : ExtV Tryz.prog 172 [.v (.float .f64 b)] (.v (.int .u64 b)) := ext_float64bits Tryz.func172 (by kernel_rfl) (by kernel_rfl) (by kernel_rfl) (by kernel_rfl) b
theorem ext108 (n : Int) : ExtV Tryz.prog 222 [.v (.int .u64 n)] (.v (.float .f64 n.toNat)) := ext_float64frombits Tryz.func222 (by kernel_rfl) (by kernel_rfl) (by kernel_rfl) (by kernel_rfl) n
theorem fltRes_some (r : Nat) : fltRes (some r) = .v (.float .f64 r) := rfl
theorem dblN_le (m : Nat) (e : Int) : dblN m e ≤ 9218868437227405312 := Nat.min_le_right _ _
theorem abs_ev (V : Nat) (h : V < 9223372036854775808) : Ev Tryz.prog γ 196 [.v (.float .f64 V)] (.v (.float .f64 V)) := by
  refine Ev.of Tryz.func196 rfl ?_
  simp only [Tryz.f196, evS, Nat.reduceAdd, Nat.reduceSub, Nat.reduceLT, Nat.reduceEqDiff, reduceCtorEq]
  refine CallK.ext (ext33 V) ?_
  simp only [bits_abs V h, evS, Nat.reduceLT, Nat.reduceEqDiff, reduceCtorEq]
  refine CallK.ext (ext108 V) ?_
  simp only [evS, Nat.reduceLT, Nat.reduceEqDiff, reduceCtorEq]
theorem isNaN_ev (V : Nat) (h : FloatKind.f64.format.order V V = some .eq) : Ev Tryz.prog γ 264 [.v (.float .f64 V)] (.v (.bool false)) := by
  refine Ev.of Tryz.func264 rfl ?_
  simp only [Tryz.f264, h, evS, Nat.reduceAdd, Nat.reduceSub, Nat.reduceLT, Nat.reduceEqDiff, reduceCtorEq]
  rfl
theorem isInf_ev (V : Nat) (h : V < 9223372036854775808) : Ev Tryz.prog γ 119 [.v (.float .f64 V), .v (.int .i64 0)] (.v (.bool (FloatKind.f64.format.order V 9218868437227405311 == some .gt))) := by
  refine Ev.of Tryz.func119 rfl ?_
  have h00 : ((0 : Int) == 0) = true := by decide
  simp only [Tryz.f119, h00, evS, Nat.reduceAdd, Nat.reduceSub, Nat.reduceLT, Nat.reduceEqDiff, reduceCtorEq]
  refine CallK.intro b122 rfl (abs_ev V h) ?_
  simp only [evS, Nat.reduceLT, Nat.reduceEqDiff, reduceCtorEq]
theorem inf_ev : Ev Tryz.prog γ 165 [.v (.int .i64 1)] (.v (.float .f64 9218868437227405312)) := by
  refine Ev.of Tryz.func165 rfl ?_
  simp only [Tryz.f165, evS, Nat.reduceAdd, Nat.reduceSub, Nat.reduceLT, Nat.reduceEqDiff, reduceCtorEq, Int.reduceLE]
  refine CallK.ext (ext108 9218868437227405312) ?_
  simp only [evS, Nat.reduceLT, Nat.reduceEqDiff, reduceCtorEq, Int.reduceToNat]
theorem normalize_ev {m : Nat} (h0 : 0 < m) (h : m < 9007199254740992) : Ev Tryz.prog γ 265 [.v (.float .f64 (dblN m 0))] (.tup [.v (.float .f64 (dblN m 0)), .v (.int .i64 0)]) := by
  have ho : FloatKind.f64.format.order (dblN m 0) 4503599627370496 = some .gt := ord_min h0 h
  have hl := dblN_le m 0
  have hgl : ((some Ordering.gt : Option Ordering) == some .lt) = false := by decide
  refine Ev.of Tryz.func265 rfl ?_
  simp only [Tryz.f265, evS, Nat.reduceAdd, Nat.reduceSub, Nat.reduceLT, Nat.reduceEqDiff, reduceCtorEq]
  refine CallK.intro b122 rfl (abs_ev (dblN m 0) (by omega)) ?_
  simp only [ho, hgl, evS, Nat.reduceLT, Nat.reduceEqDiff, reduceCtorEq]
set_option maxRecDepth 20000 in
set_option maxRecDepth 20000 in
theorem ldexp_ev (m : Nat) (h0 : 0 < m) (h : m < 9007199254740992) (x : Int) (hx : -1074 ≤ x) (hx2 : x ≤ 1074) : Ev Tryz.prog γ 226 [.v (.float .f64 (dblN m 0)), .v (.int .i64 x)] (.v (.float .f64 (dblN m x))) := by
  have o0 : FloatKind.f64.format.order (dblN m 0) 0 = some .gt := ord_zero h0 h (by omega)
  have os : FloatKind.f64.format.order (dblN m 0) (dblN m 0) = some .eq := ord_self h0 h (by omega)
  have om : (FloatKind.f64.format.order (dblN m 0) 9218868437227405311 == some .gt) = false := by
    have := ord_max h0 h (by omega : (-1074 : Int) ≤ 0)
    have hlg := log2_lt53 h0 h
    rw [show FloatKind.f64.format = Ieee.double from rfl, this]; simp; omega
  have hnorm := normalize_ev (γ := γ) h0 h
  have hinf := dbl_inf (e := x) h0 h hx
  have hm1 : ∀ e : Int, -1074 ≤ e → e + m.log2 ≤ 1023 → FloatKind.f64.format.mul 4607182418800017408 (dblN m e) = some (dblN m e) := fun e g1 g2 => by
    have := mul_pow2 (e := e) h0 h g1 g2 4607182418800017408 0 (by rfl) (by omega)
    rw [Int.add_zero] at this
    exact this
  have hm2 : ∀ e : Int, -1074 ≤ e + 53 → -1074 ≤ e → e + 53 + m.log2 ≤ 1023 → FloatKind.f64.format.mul 4368491638549381120 (dblN m (e + 53)) = some (dblN m e) := fun e g1 g3 g2 => by
    have := mul_pow2 (e := e + 53) h0 h g1 g2 4368491638549381120 (-53) (by rfl) (by omega)
    rw [show e + 53 + -53 = e from by omega] at this
    exact this
  obtain ⟨L, F, hL, hL52, hF, hV, hword⟩ := ldexp_word h0 h
  rw [hL] at hinf hm1 hm2
  have hl := dblN_le m 0
  generalize hD : dblN m = D at *
  clear h0 h hD hL
  have c1 : decide (1023 < x + (L : Int)) = true → 1024 ≤ x + (L : Int) := fun h => by have := of_decide_eq_true h; omega
  have c2 : decide (1023 < x + (L : Int)) = false → x + (L : Int) ≤ 1023 := fun h => by have := of_decide_eq_false h; omega
  have c3 : decide (x + (L : Int) < -1022) = true → ∃ E G : Nat, IntKind.i64.wrap (x + (L : Int) + 53) = x + (L : Int) + 53 ∧ IntKind.i64.wrap (x + (L : Int) + 53 + 1023) = (E : Int) ∧ IntKind.u64.wrap (E : Int) = (E : Int) ∧ IntKind.u64.wrap ((E : Int) * 2 ^ min 52 IntKind.u64.bits) = (G : Int) ∧
      IntKind.u64.wrap (BitVec.ofInt IntKind.u64.bits (F : Int) ||| BitVec.ofInt IntKind.u64.bits (G : Int)).toNat = ((D (x + 53) : Nat) : Int) ∧ FloatKind.f64.format.mul 4368491638549381120 (D (x + 53)) = some (D x) := fun h => by
    have hd' := of_decide_eq_true h
    obtain ⟨E, hE⟩ : ∃ E : Nat, (E : Int) = x + (L : Int) + 53 + 1023 := ⟨(x + (L : Int) + 53 + 1023).toNat, by omega⟩
    have p52' : (2 : Int) ^ min 52 IntKind.u64.bits = 4503599627370496 := by decide
    have w9 := bits_or E F (by omega) hF
    obtain ⟨G, hG⟩ : ∃ G : Nat, (E : Int) * 4503599627370496 = (G : Int) := ⟨E * 4503599627370496, by omega⟩
    have wq := hword (x + 53) E (by omega) (by omega) (by omega)
    rw [wq, hG] at w9
    exact ⟨E, G, i64w (by omega) (by omega), (i64w (by omega) (by omega)).trans hE.symm, u64w (by omega) (by omega), by rw [p52', hG]; exact u64w (by omega) (by omega), w9, hm2 x (by omega) hx (by omega)⟩
  have c4 : decide (1023 < x + (L : Int)) = false → decide (x + (L : Int) < -1022) = false → ∃ E G : Nat, IntKind.i64.wrap (x + (L : Int) + 1023) = (E : Int) ∧ IntKind.u64.wrap (E : Int) = (E : Int) ∧ IntKind.u64.wrap ((E : Int) * 2 ^ min 52 IntKind.u64.bits) = (G : Int) ∧
      IntKind.u64.wrap (BitVec.ofInt IntKind.u64.bits (F : Int) ||| BitVec.ofInt IntKind.u64.bits (G : Int)).toNat = ((D x : Nat) : Int) ∧ FloatKind.f64.format.mul 4607182418800017408 (D x) = some (D x) := fun h1 h => by
    have hd' := of_decide_eq_false h
    have hd2 := of_decide_eq_false h1
    obtain ⟨E, hE⟩ : ∃ E : Nat, (E : Int) = x + (L : Int) + 1023 := ⟨(x + (L : Int) + 1023).toNat, by omega⟩
    have p52' : (2 : Int) ^ min 52 IntKind.u64.bits = 4503599627370496 := by decide
    have w9 := bits_or E F (by omega) hF
    obtain ⟨G, hG⟩ : ∃ G : Nat, (E : Int) * 4503599627370496 = (G : Int) := ⟨E * 4503599627370496, by omega⟩
    have wq := hword x E (by omega) (by omega) (by omega)
    rw [wq, hG] at w9
    exact ⟨E, G, (i64w (by omega) (by omega)).trans hE.symm, u64w (by omega) (by omega), by rw [p52', hG]; exact u64w (by omega) (by omega), w9, hm1 x hx (by omega)⟩
  have w1 : IntKind.i64.wrap ((L + 1023 : Nat) : Int) = ((L + 1023 : Nat) : Int) := i64w (by omega) (by omega)
  have w3 : IntKind.i64.wrap (((L + 1023 : Nat) : Int) - 1023) = (L : Int) := (i64w (by omega) (by omega)).trans (by omega)
  have w4 : IntKind.i64.wrap (x + (L : Int)) = x + (L : Int) := i64w (by omega) (by omega)
  have w0 : IntKind.i64.wrap (x + 0) = x := by rw [Int.add_zero]; exact i64w (by omega) (by omega)
  have l1 : decide (x + (L : Int) < -1075) = false := decide_eq_false (by omega)
  have hD0 : D 0 < 9223372036854775808 := by omega
  have w2 := bits_low (L + 1023) (by omega)
  have hdiv : ((D 0 : Nat) : Int) / 4503599627370496 = ((L + 1023 : Nat) : Int) := by rw [hV]; omega
  have fr : IntKind.u64.wrap (BitVec.ofInt IntKind.u64.bits ((D 0 : Nat) : Int) &&& ~~~BitVec.ofInt IntKind.u64.bits 9218868437227405312).toNat = (F : Int) := by
    have := bits_frac (L + 1023) F (by omega) hF
    rw [hV]; exact this
  have esh : ((D 0 : Nat) : Int).fdiv (2 ^ min (Int.toNat 52) IntKind.u64.bits) = ((L + 1023 : Nat) : Int) := by
    have e1 : (2 : Int) ^ min (Int.toNat 52) IntKind.u64.bits = 4503599627370496 := by decide
    rw [e1, Int.fdiv_eq_ediv_of_nonneg _ (by decide), hdiv]
  have esh' : ((D 0 : Nat) : Int).fdiv (2 ^ min 52 IntKind.u64.bits) = ((L + 1023 : Nat) : Int) := esh
  have ge : ((some Ordering.gt : Option Ordering) == some .eq) = false := by decide
  have gl : ((some Ordering.gt : Option Ordering) == some .lt) = false := by decide
  clear hV hdiv hword hm1 hm2
  refine Ev.of Tryz.func226 rfl ?_
  simp only [Tryz.f226, o0, ge, evS, Nat.reduceAdd, Nat.reduceSub, Nat.reduceLT, Nat.reduceEqDiff, reduceCtorEq]
  refine CallK.intro b100 rfl (isInf_ev (D 0) hD0) ?_
  simp only [om, evS, Nat.reduceLT, Nat.reduceEqDiff, reduceCtorEq]
  refine CallK.intro b130 rfl (isNaN_ev (D 0) os) ?_
  simp only [evS, Nat.reduceLT, Nat.reduceEqDiff, reduceCtorEq]
  refine CallK.intro b131 rfl hnorm ?_
  simp only [evS, Nat.reduceLT, Nat.reduceEqDiff, reduceCtorEq]
  refine CallK.ext (ext33 (D 0)) ?_
  simp only [esh', w0, w1, w2, w3, w4, l1, evS, tyS, Nat.reduceLT, Nat.reduceEqDiff, reduceCtorEq, Int.reduceToNat, Int.reduceLE]
  refine CondK.intro (fun hg => ?_) (fun hg => ?_) <;> simp only [hg, o0, gl, evS, Nat.reduceLT, Nat.reduceEqDiff, reduceCtorEq]
  · refine CallK.intro b86 rfl inf_ev ?_
    rw [hinf (c1 hg)]
    simp only [evS, Nat.reduceLT, Nat.reduceEqDiff, reduceCtorEq]
  · refine CondK.intro (fun hd => ?_) (fun hd => ?_)
    · obtain ⟨E, G, w5, w6, w7, w8, w9, mm⟩ := c3 hd
      simp only [hd, w5, w6, w7, w8, w9, fr, evS, tyS, Nat.reduceLT, Nat.reduceEqDiff, reduceCtorEq, Int.reduceToNat, Int.reduceLE]
      refine CallK.ext (ext108 (D (x + 53))) ?_
      simp only [mm, fltRes_some, evS, Nat.reduceLT, Nat.reduceEqDiff, reduceCtorEq]
    · obtain ⟨E, G, w6, w7, w8, w9, mm⟩ := c4 hg hd
      simp only [hd, w6, w7, w8, w9, fr, evS, tyS, Nat.reduceLT, Nat.reduceEqDiff, reduceCtorEq, Int.reduceToNat, Int.reduceLE]
      refine CallK.ext (ext108 (D x)) ?_
      simp only [mm, fltRes_some, evS, Nat.reduceLT, Nat.reduceEqDiff, reduceCtorEq]
theorem Ldexp_ev (m : Nat) (h0 : 0 < m) (h : m < 9007199254740992) (x : Int) (hx : -1074 ≤ x) (hx2 : x ≤ 1074) : Ev Tryz.prog γ 168 [.v (.float .f64 (dblN m 0)), .v (.int .i64 x)] (.v (.float .f64 (dblN m x))) := by
  refine Ev.of Tryz.func168 rfl ?_
  simp only [Tryz.f168, evS, Nat.reduceAdd, Nat.reduceSub, Nat.reduceLT, Nat.reduceEqDiff, reduceCtorEq]
  refine CallK.intro b112 rfl (ldexp_ev m h0 h x hx hx2) ?_
  simp only [evS, Nat.reduceLT, Nat.reduceEqDiff, reduceCtorEq]
theorem Ldexp0_ev : Ev Tryz.prog γ 168 [.v (.float .f64 0), .v (.int .i64 0)] (.v (.float .f64 0)) := by
  have o0 : (FloatKind.f64.format.order 0 0 == some .eq) = true := by rfl
  have h1 : Ev Tryz.prog γ 226 [.v (.float .f64 0), .v (.int .i64 0)] (.v (.float .f64 0)) := by
    refine Ev.of Tryz.func226 rfl ?_
    simp only [Tryz.f226, o0, evS, Nat.reduceAdd, Nat.reduceSub, Nat.reduceLT, Nat.reduceEqDiff, reduceCtorEq]
  refine Ev.of Tryz.func168 rfl ?_
  simp only [Tryz.f168, evS, Nat.reduceAdd, Nat.reduceSub, Nat.reduceLT, Nat.reduceEqDiff, reduceCtorEq]
  refine CallK.intro b112 rfl h1 ?_
  simp only [evS, Nat.reduceLT, Nat.reduceEqDiff, reduceCtorEq]
end Go.Proofs.YtlobiioioicmhaaGreatDoor
namespace Go.Proofs.YtlobiioioicmhaaGreatDoor
set_option linter.all false
open Go Go.Ev
set_option maxRecDepth 20000
variable {γ : List (Nat × AV)}
theorem digitsEnd_ge (l : List UInt8) (i : Nat) : i ≤ digitsEnd l i := by unfold digitsEnd; omega
theorem digitsEnd_le {l : List UInt8} {i : Nat} (h : i ≤ l.length) : digitsEnd l i ≤ l.length := by
  have := (spanEnd_le (p := digitN) h).2
  rwa [← digitsEnd_span] at this
theorem digitsEnd_all {l : List UInt8} : ∀ (k : Nat) {i j : Nat}, j = i + k → j < digitsEnd l i → digitN (atL l j) = true
  | 0, i, j, e, h => by
    obtain rfl : j = i := by omega
    cases hd : digitN (atL l j) with
    | true => rfl
    | false => rw [digitsEnd_stop hd] at h; omega
  | k + 1, i, j, e, h => by
    cases hd : digitN (atL l i) with
    | true => exact digitsEnd_all k (i := i + 1) (by omega) (by rwa [(digitsEnd_step hd).1] at h)
    | false => rw [digitsEnd_stop hd] at h; omega
theorem digitsEnd_lt {l : List UInt8} {i : Nat} (h : digitN (atL l i) = true) : i < digitsEnd l i := by
  rw [(digitsEnd_step h).1]
  have := digitsEnd_ge l (i + 1)
  omega
theorem atL_take {l : List UInt8} {n j : Nat} (h : j < n) : atL (l.take n) j = atL l j := by
  simp only [atL, List.getD, List.getElem?_take, if_pos h]
theorem atL_dropk (l : List UInt8) (k j : Nat) : atL (l.drop k) j = atL l (k + j) := by
  simp only [atL, List.getD, List.getElem?_drop]
/-- The digits from a place on. -/
def numL (l : List UInt8) (i : Nat) : List UInt8 := (l.drop i).take (digitsEnd l i - i)
theorem numL_len {l : List UInt8} {i : Nat} (h : i ≤ l.length) : (numL l i).length = digitsEnd l i - i := by
  have h1 := digitsEnd_le h
  rw [numL, List.length_take, List.length_drop]; omega
theorem numL_digit {l : List UInt8} {i : Nat} (h : i ≤ l.length) (j : Nat) (hj : j < (numL l i).length) : digitN (atL (numL l i) j) = true := by
  rw [numL_len h] at hj
  rw [numL, atL_take hj, atL_dropk]
  exact digitsEnd_all j rfl (by omega)
/-- What decimal tells: the number, and may it be? -/
def decM (l : List UInt8) : Int := if 1 < l.length ∧ atL l 0 = 48 then 0 else if decV l < 9223372036854775808 then decV l else 9223372036854775807
def decO (l : List UInt8) (most : Int) : Bool := decide (¬ (1 < l.length ∧ atL l 0 = 48) ∧ decV l < 9223372036854775808 ∧ (decV l : Int) ≤ most)
theorem decR_eq (l : List UInt8) (most : Int) : decR l most = .tup [.v (.int .i64 (decM l)), .v (.bool (decO l most))] := by
  unfold decR decM decO
  by_cases h1 : 1 < l.length ∧ atL l 0 = 48
  · simp [h1]
  · by_cases h2 : decV l < 9223372036854775808
    · simp [h1, h2]
    · simp [h1, h2]
theorem decO_iff {l : List UInt8} {most : Int} (h : decO l most = true) : decM l = decV l ∧ (decV l : Int) ≤ most := by
  unfold decO at h
  have h := of_decide_eq_true h
  unfold decM
  rw [if_neg h.1, if_pos h.2.1]
  exact ⟨rfl, h.2.2⟩
theorem decimalAt_ev (hγ : Gl γ) (b : Bool) (l : List UInt8) (i : Nat) (most : Int) (h1 : i < digitsEnd l i) (hi : i ≤ l.length) (hl : l.length ≤ 140737488351232) :
    Ev Tryz.prog γ 279 [.sl b (digitsEnd l i - i) (l.length - i) (List.drop i (l.map byteC)), .v (.int .i64 most)] (.tup [.v (.int .i64 (decM (numL l i))), .v (.bool (decO (numL l i) most))]) := by
  have hle := digitsEnd_le hi
  rw [← List.map_drop]
  refine Ev_cut1 (by omega) (by rw [List.length_drop]; omega) ?_
  have := lexDecimal_ev hγ b (numL l i) most (by rw [numL_len hi]; omega) (by rw [numL_len hi]; omega) (numL_digit hi)
  rwa [decR_eq] at this
/-- m * 2^e as a double. -/
def realB (m : Nat) (e : Int) : Nat := if m = 0 then 0 else dblN m e
def finB (m : Nat) (e : Int) : Bool := decide (m = 0 ∨ e + m.log2 ≤ 1023)
def expOf (sg : Nat) (x : Nat) : Int := if sg = 1 then -(x : Int) else x
/-- May a real be, of these two rows of digits? -/
def realO (sg : Nat) (a b : List UInt8) (follow : Nat) : Bool :=
  decO a 9007199254740991 && decO b (1023 + 51 * sg) && (decide (decV a % 2 = 1) || (decide (decV a = 0) && decide (decV b = 0))) && !(decide (sg = 1) && decide (decV b = 0)) && !nameN follow && finB (decV a) (expOf sg (decV b))
def errTok (k : Int) : AV := .tup [tokA 0 [] 0 f0 0 0, .v (.int .i64 k)]
def okTok (t : AV) : AV := .tup [t, .v (.int .i64 0)]
def realA (l : List UInt8) (p sg : Nat) : AV :=
  if realO sg (numL l 0) (numL l (p + 1 + sg)) (atL l (digitsEnd l (p + 1 + sg))) = true then
    okTok (tokA 3 [] 0 (.v (.float .f64 (realB (decV (numL l 0)) (expOf sg (decV (numL l (p + 1 + sg))))))) 0 (digitsEnd l (p + 1 + sg)))
  else errTok 12
theorem near_eq (m : Nat) (h : m < 9007199254740992) : FloatKind.f64.nearest (m : Int) = realB m 0 := by
  unfold realB
  by_cases h0 : m = 0
  · subst h0; rfl
  · rw [if_neg h0]
    have := nearest_exact m 0 0 (by omega) h (by omega)
    have e1 : (decide ((m : Int) < 0)) = false := decide_eq_false (by omega)
    show Ieee.double.nearest (decide ((m : Int) < 0)) (m : Int).natAbs 0 = _
    rw [e1, Int.natAbs_natCast, ← this]
    rw [Nat.pow_zero, Nat.mul_one]
    rfl
theorem LdexpB_ev (m : Nat) (h : m < 9007199254740992) (x : Int) (hx : -1074 ≤ x) (hx2 : x ≤ 1074) (h0 : m = 0 → x = 0) : Ev Tryz.prog γ 168 [.v (.float .f64 (realB m 0)), .v (.int .i64 x)] (.v (.float .f64 (realB m x))) := by
  unfold realB
  by_cases hm : m = 0
  · rw [if_pos hm, if_pos hm, h0 hm]; exact Ldexp0_ev
  · rw [if_neg hm, if_neg hm]; exact Ldexp_ev m (by omega) h x hx hx2
theorem isInfB_ev (m : Nat) (h : m < 9007199254740992) (x : Int) (hx : -1074 ≤ x) : Ev Tryz.prog γ 119 [.v (.float .f64 (realB m x)), .v (.int .i64 0)] (.v (.bool (!finB m x))) := by
  unfold realB finB
  by_cases hm : m = 0
  · rw [if_pos hm]
    have := isInf_ev (γ := γ) 0 (by omega)
    have e : (FloatKind.f64.format.order 0 9218868437227405311 == some .gt) = !decide (m = 0 ∨ x + m.log2 ≤ 1023) := by
      rw [decide_eq_true (.inl hm)]; rfl
    rwa [e] at this
  · rw [if_neg hm]
    have hl := dblN_le m x
    have := isInf_ev (γ := γ) (dblN m x) (by omega)
    have e : (FloatKind.f64.format.order (dblN m x) 9218868437227405311 == some .gt) = !decide (m = 0 ∨ x + m.log2 ≤ 1023) := by
      have := ord_max (e := x) (by omega) h hx
      rw [show FloatKind.f64.format = Ieee.double from rfl, this, ← decide_not]
      congr 1
      simp only [eq_iff_iff]; omega
    rwa [e] at this
theorem realO_iff {sg : Nat} {a b : List UInt8} {f : Nat} : realO sg a b f = true ↔ decO a 9007199254740991 = true ∧ decO b (1023 + 51 * sg) = true ∧ (decV a % 2 = 1 ∨ decV a = 0 ∧ decV b = 0) ∧ ¬ (sg = 1 ∧ decV b = 0) ∧ nameN f = false ∧ finB (decV a) (expOf sg (decV b)) = true := by
  unfold realO
  simp only [Bool.and_eq_true, Bool.or_eq_true, Bool.not_eq_true', decide_eq_true_eq, Bool.and_eq_false_iff, decide_eq_false_iff_not]
  constructor
  · rintro ⟨⟨⟨⟨⟨a1, a2⟩, a3⟩, a4⟩, a5⟩, a6⟩
    exact ⟨a1, a2, a3, by omega, a5, a6⟩
  · rintro ⟨a1, a2, a3, a4, a5, a6⟩
    exact ⟨⟨⟨⟨⟨a1, a2⟩, a3⟩, by omega⟩, a5⟩, a6⟩
set_option maxHeartbeats 4000000 in
set_option maxRecDepth 20000 in
theorem lexReal_ev (hγ : Gl γ) (b : Bool) (l : List UInt8) (p sg : Nat) (hp : p = digitsEnd l 0) (hp1 : 1 ≤ p) (hsg : sg = 0 ∨ sg = 1) (hd : digitN (atL l (p + 1 + sg)) = true) (hl : l.length ≤ 140737488351232) :
    Ev Tryz.prog γ 278 [.sl b l.length l.length (l.map byteC), .v (.int .i64 p), .v (.int .i64 sg)] (realA l p sg) := by
  refine Ev.of Tryz.func278 rfl ?_
  have hlt := digitsEnd_lt hd
  have hpl := (digitsEnd_step hd).2
  have hle := digitsEnd_le (l := l) (i := p + 1 + sg) (by omega)
  have w1 : IntKind.i64.wrap ((p : Int) + 1) = ((p + 1 : Nat) : Int) := i64w (by omega) (by omega)
  have w2 : IntKind.i64.wrap (((p + 1 : Nat) : Int) + (sg : Int)) = ((p + 1 + sg : Nat) : Int) := i64w (by omega) (by omega)
  have w3 : IntKind.i64.wrap (51 * (sg : Int)) = 51 * (sg : Int) := i64w (by omega) (by omega)
  have w4 : IntKind.i64.wrap (1023 + 51 * (sg : Int)) = 1023 + 51 * (sg : Int) := i64w (by omega) (by omega)
  have ha := decimalAt_ev hγ b l 0 9007199254740991 (by omega) (by omega) hl
  rw [List.drop_zero, Nat.sub_zero, Nat.sub_zero, ← hp] at ha
  have hb := decimalAt_ev hγ b l (p + 1 + sg) (1023 + 51 * sg) hlt (by omega) hl
  have hR : realA l p sg = if realO sg (numL l 0) (numL l (p + 1 + sg)) (atL l (digitsEnd l (p + 1 + sg))) = true then
    okTok (tokA 3 [] 0 (.v (.float .f64 (realB (decV (numL l 0)) (expOf sg (decV (numL l (p + 1 + sg))))))) 0 (digitsEnd l (p + 1 + sg)))
    else errTok 12 := rfl
  generalize realA l p sg = R at hR ⊢
  have hLd := fun (m : Nat) (h : m < 9007199254740992) (x : Int) hx hx2 h0 => LdexpB_ev (γ := γ) m h x hx hx2 h0
  have hat := lexAt_ev (γ := γ) b l (digitsEnd l (p + 1 + sg))
  have hnE : digitsEnd l (p + 1 + sg) ≤ 140737488351232 := by omega
  generalize hA : numL l 0 = a at *
  generalize hB : numL l (p + 1 + sg) = c at *
  generalize atL l (digitsEnd l (p + 1 + sg)) = f at *
  have hdg := lexDigits_ev (γ := γ) b l (p + 1 + sg) (by omega) (by omega)
  have hge := digitsEnd_ge l (p + 1 + sg)
  generalize digitsEnd l (p + 1 + sg) = n at *
  clear hd hA hB
  simp only [Tryz.f278, w1, w2, evS, tyS, Nat.reduceAdd, Nat.reduceSub, Nat.reduceLT, Nat.reduceEqDiff, reduceCtorEq]
  refine CallK.intro b70 (by simp [treeL, treeA]) hdg ?_
  simp only [evS, tyS, Nat.reduceLT, Nat.reduceEqDiff, reduceCtorEq]
  (repeat' (first | (with_reducible refine And.intro ?_ ?_) | ((first | refine GuardK.intro_f (fun h => ?_) (fun h => ?_) | refine GuardK.intro_t (fun h => ?_) (fun h => ?_) | refine CondK.intro (fun h => ?_) (fun h => ?_) | refine PickK.intro (fun h => ?_) (fun h => ?_)) <;> simp only [h, w1, w2, w3, w4, evS, tyS, Bool.not_true, Bool.not_false, Nat.reduceAdd, Nat.reduceSub, Nat.reduceMul, Nat.reduceLT, Nat.reduceLeDiff, Nat.reduceEqDiff, reduceCtorEq, List.reduceReplicate, Int.reduceToNat, Int.reduceLE, Int.reduceLT]) | (refine DrawK.intro (by kernel_rfl) (by kernel_rfl) ?_; simp only [w1, w2, w3, w4, evS, tyS, Bool.not_true, Bool.not_false, Nat.reduceAdd, Nat.reduceSub, Nat.reduceMul, Nat.reduceLT, Nat.reduceLeDiff, Nat.reduceEqDiff, reduceCtorEq, List.reduceReplicate, Int.reduceToNat, Int.reduceLE, Int.reduceLT])))
  all_goals try (((try simp only [decide_eq_true_eq, decide_eq_false_iff_not, beq_iff_eq, bne_iff_ne, ne_eq, beq_eq_false_iff_ne, bne_eq_false_iff_eq] at *) <;> (try omega)); done)
  refine CallK.intro b73 (by simp [treeL, treeA]) ha ?_
  simp only [w1, w2, w3, w4, evS, tyS, Nat.reduceLT, Nat.reduceEqDiff, reduceCtorEq]
  (repeat' (first | (with_reducible refine And.intro ?_ ?_) | ((first | refine GuardK.intro_f (fun h => ?_) (fun h => ?_) | refine GuardK.intro_t (fun h => ?_) (fun h => ?_) | refine CondK.intro (fun h => ?_) (fun h => ?_) | refine PickK.intro (fun h => ?_) (fun h => ?_)) <;> simp only [h, w1, w2, w3, w4, evS, tyS, Bool.not_true, Bool.not_false, Nat.reduceAdd, Nat.reduceSub, Nat.reduceMul, Nat.reduceLT, Nat.reduceLeDiff, Nat.reduceEqDiff, reduceCtorEq, List.reduceReplicate, Int.reduceToNat, Int.reduceLE, Int.reduceLT]) | (refine DrawK.intro (by kernel_rfl) (by kernel_rfl) ?_; simp only [w1, w2, w3, w4, evS, tyS, Bool.not_true, Bool.not_false, Nat.reduceAdd, Nat.reduceSub, Nat.reduceMul, Nat.reduceLT, Nat.reduceLeDiff, Nat.reduceEqDiff, reduceCtorEq, List.reduceReplicate, Int.reduceToNat, Int.reduceLE, Int.reduceLT])))
  all_goals try (((try simp only [decide_eq_true_eq, decide_eq_false_iff_not, beq_iff_eq, bne_iff_ne, ne_eq, beq_eq_false_iff_ne, bne_eq_false_iff_eq] at *) <;> (try omega)); done)
  refine CallK.intro b73 (by simp [treeL, treeA]) hb ?_
  clear ha hb hdg
  by_cases hOa : decO a 9007199254740991 = true
  · by_cases hOb : decO c (1023 + 51 * sg) = true
    · obtain ⟨ea, eb⟩ := decO_iff hOa
      obtain ⟨ec, ed⟩ := decO_iff hOb
      rw [ea, ec, hOa, hOb]
      simp only [realO_iff, hOa, hOb, true_and] at hR
      have etm : ∀ n : Nat, ((n : Int).tmod 2 == 1) = decide (n % 2 = 1) := fun n => by
        rw [Int.tmod_eq_emod_of_nonneg (by omega)]
        by_cases h : n % 2 = 1
        · rw [decide_eq_true h]; simp; omega
        · rw [decide_eq_false h]; simp; omega
      have ez : ∀ n : Nat, ((n : Int) == 0) = decide (n = 0) := fun n => by
        by_cases h : n = 0
        · simp [h]
        · rw [decide_eq_false h]; simp [h]
      have e1 : ∀ n : Nat, ((n : Int) == 1) = decide (n = 1) := fun n => by
        by_cases h : n = 1
        · simp [h]
        · rw [decide_eq_false h]; simp; omega
      generalize decV a = A at *
      generalize decV c = B at *
      have nq : FloatKind.f64.nearest (A : Int) = realB A 0 := near_eq A (by omega)
      have wn : IntKind.i64.wrap (0 - (B : Int)) = -(B : Int) := (i64w (by omega) (by omega)).trans (by omega)
      have x1 : sg = 1 → expOf sg B = -(B : Int) := fun h => by rw [expOf, if_pos h]
      have x0 : sg ≠ 1 → expOf sg B = (B : Int) := fun h => by rw [expOf, if_neg h]
      simp only [etm, evS, Nat.reduceLT, Nat.reduceEqDiff, reduceCtorEq]
      (repeat' (first | (with_reducible refine And.intro ?_ ?_) | ((first | refine GuardK.intro_f (fun h => ?_) (fun h => ?_) | refine GuardK.intro_t (fun h => ?_) (fun h => ?_) | refine CondK.intro (fun h => ?_) (fun h => ?_) | refine PickK.intro (fun h => ?_) (fun h => ?_)) <;> simp only [h, ez, e1, evS, tyS, Bool.not_true, Bool.not_false, Nat.reduceAdd, Nat.reduceLT, Nat.reduceLeDiff, Nat.reduceEqDiff, reduceCtorEq]) | (refine DrawK.intro (by kernel_rfl) (by kernel_rfl) ?_; simp only [etm, ez, e1, evS, tyS, Bool.not_true, Bool.not_false, Nat.reduceAdd, Nat.reduceSub, Nat.reduceMul, Nat.reduceLT, Nat.reduceLeDiff, Nat.reduceEqDiff, reduceCtorEq, List.reduceReplicate, Int.reduceToNat, Int.reduceLE, Int.reduceLT])))
      all_goals try (((try simp only [decide_eq_true_eq, decide_eq_false_iff_not, ne_eq] at *) <;> (try omega)); done)
      all_goals (try simp only [Bool.not_eq_true', Bool.not_eq_false', decide_eq_true_eq, decide_eq_false_iff_not] at *)
      all_goals try (rw [hR, if_neg (by rintro ⟨q1, q2, q3, q4⟩; omega)]; simp only [errTok, tokA, f0, evS]; done)
      all_goals
        (refine CallK.intro b71 (by simp [treeL, treeA]) hat ?_
         simp only [evS, Nat.reduceLT, Nat.reduceEqDiff, reduceCtorEq]
         refine CallK.intro b69 rfl (lexInName_ev f) ?_
         simp only [evS, Nat.reduceLT, Nat.reduceEqDiff, reduceCtorEq]
         refine CondK.intro (fun hn => ?_) (fun hn => ?_) <;> simp only [hn, e1, evS, tyS, Nat.reduceAdd, Nat.reduceLT, Nat.reduceLeDiff, Nat.reduceEqDiff, reduceCtorEq])
      all_goals try (rw [hR, if_neg (by rintro ⟨q1, q2, q3, q4⟩; rw [hn] at q3; cases q3)]; simp only [errTok, tokA, f0, evS]; done)
      all_goals (refine CondK.intro (fun h9 => ?_) (fun h9 => ?_) <;> simp only [h9, wn, nq, evS, tyS, Nat.reduceLT, Nat.reduceEqDiff, reduceCtorEq])
      all_goals (try simp only [decide_eq_true_eq, decide_eq_false_iff_not] at *)
      all_goals try omega
      · refine CallK.intro b89 rfl (hLd A (by omega) (B : Int) (by omega) (by omega) (by omega)) ?_
        simp only [evS, Nat.reduceLT, Nat.reduceEqDiff, reduceCtorEq]
        refine CallK.intro b100 rfl (isInfB_ev A (by omega) _ (by omega)) ?_
        rw [x0 (by omega)] at hR
        simp only [evS, Nat.reduceLT, Nat.reduceEqDiff, reduceCtorEq]
        cases hf : finB A (B : Int) with
        | false => rw [hR, if_neg (by rintro ⟨q1, q2, q3, q4⟩; rw [hf] at q4; cases q4)]; simp only [errTok, tokA, f0, evS, tyS, Bool.not_false, Nat.reduceAdd, Nat.reduceLT, Nat.reduceLeDiff, Nat.reduceEqDiff, reduceCtorEq]
        | true => rw [hR, if_pos ⟨by omega, by omega, hn, hf⟩]; simp only [okTok, tokA, evS, tyS, Bool.not_true, Nat.reduceAdd, Nat.reduceLT, Nat.reduceLeDiff, Nat.reduceEqDiff, reduceCtorEq]
      · refine CallK.intro b89 rfl (hLd A (by omega) (-(B : Int)) (by omega) (by omega) (by omega)) ?_
        simp only [evS, Nat.reduceLT, Nat.reduceEqDiff, reduceCtorEq]
        refine CallK.intro b100 rfl (isInfB_ev A (by omega) _ (by omega)) ?_
        rw [x1 (by omega)] at hR
        simp only [evS, Nat.reduceLT, Nat.reduceEqDiff, reduceCtorEq]
        cases hf : finB A (-(B : Int)) with
        | false => rw [hR, if_neg (by rintro ⟨q1, q2, q3, q4⟩; rw [hf] at q4; cases q4)]; simp only [errTok, tokA, f0, evS, tyS, Bool.not_false, Nat.reduceAdd, Nat.reduceLT, Nat.reduceLeDiff, Nat.reduceEqDiff, reduceCtorEq]
        | true => rw [hR, if_pos ⟨by omega, by omega, hn, hf⟩]; simp only [okTok, tokA, evS, tyS, Bool.not_true, Nat.reduceAdd, Nat.reduceLT, Nat.reduceLeDiff, Nat.reduceEqDiff, reduceCtorEq]
      · refine CallK.intro b89 rfl (hLd A (by omega) (B : Int) (by omega) (by omega) (by omega)) ?_
        simp only [evS, Nat.reduceLT, Nat.reduceEqDiff, reduceCtorEq]
        refine CallK.intro b100 rfl (isInfB_ev A (by omega) _ (by omega)) ?_
        rw [x0 (by omega)] at hR
        simp only [evS, Nat.reduceLT, Nat.reduceEqDiff, reduceCtorEq]
        cases hf : finB A (B : Int) with
        | false => rw [hR, if_neg (by rintro ⟨q1, q2, q3, q4⟩; rw [hf] at q4; cases q4)]; simp only [errTok, tokA, f0, evS, tyS, Bool.not_false, Nat.reduceAdd, Nat.reduceLT, Nat.reduceLeDiff, Nat.reduceEqDiff, reduceCtorEq]
        | true => rw [hR, if_pos ⟨by omega, by omega, hn, hf⟩]; simp only [okTok, tokA, evS, tyS, Bool.not_true, Nat.reduceAdd, Nat.reduceLT, Nat.reduceLeDiff, Nat.reduceEqDiff, reduceCtorEq]
    · have hb' : decO c (1023 + 51 * sg) = false := by simpa using hOb
      rw [hR, if_neg (by rw [realO_iff]; rintro ⟨q1, q2, _⟩; exact hOb q2), hOa, hb']
      simp only [evS, Nat.reduceLT, Nat.reduceEqDiff, reduceCtorEq]
      (repeat' (first | (with_reducible refine And.intro ?_ ?_) | ((first | refine GuardK.intro_f (fun h => ?_) (fun h => ?_) | refine GuardK.intro_t (fun h => ?_) (fun h => ?_) | refine CondK.intro (fun h => ?_) (fun h => ?_) | refine PickK.intro (fun h => ?_) (fun h => ?_)) <;> simp only [h, evS, tyS, Bool.not_true, Bool.not_false, Nat.reduceAdd, Nat.reduceLT, Nat.reduceLeDiff, Nat.reduceEqDiff, reduceCtorEq]) | (refine DrawK.intro (by kernel_rfl) (by kernel_rfl) ?_; simp only [evS, tyS, Bool.not_true, Bool.not_false, Nat.reduceAdd, Nat.reduceSub, Nat.reduceMul, Nat.reduceLT, Nat.reduceLeDiff, Nat.reduceEqDiff, reduceCtorEq, List.reduceReplicate, Int.reduceToNat, Int.reduceLE, Int.reduceLT])))
      all_goals try (((try simp only [beq_iff_eq, ne_eq, beq_eq_false_iff_ne] at *) <;> (try omega)); done)
      all_goals (simp only [errTok, tokA, f0, evS]; done)
  · have ha' : decO a 9007199254740991 = false := by simpa using hOa
    rw [hR, if_neg (by rw [realO_iff]; rintro ⟨q1, _⟩; exact hOa q1), ha']
    simp only [evS, Nat.reduceLT, Nat.reduceEqDiff, reduceCtorEq]
    (repeat' (first | (with_reducible refine And.intro ?_ ?_) | ((first | refine GuardK.intro_f (fun h => ?_) (fun h => ?_) | refine GuardK.intro_t (fun h => ?_) (fun h => ?_) | refine CondK.intro (fun h => ?_) (fun h => ?_) | refine PickK.intro (fun h => ?_) (fun h => ?_)) <;> simp only [h, evS, tyS, Bool.not_false, Nat.reduceAdd, Nat.reduceLT, Nat.reduceLeDiff, Nat.reduceEqDiff, reduceCtorEq]) | (refine DrawK.intro (by kernel_rfl) (by kernel_rfl) ?_; simp only [evS, tyS, Bool.not_true, Bool.not_false, Nat.reduceAdd, Nat.reduceSub, Nat.reduceMul, Nat.reduceLT, Nat.reduceLeDiff, Nat.reduceEqDiff, reduceCtorEq, List.reduceReplicate, Int.reduceToNat, Int.reduceLE, Int.reduceLT])))
    all_goals try (((try simp only [beq_iff_eq, ne_eq, beq_eq_false_iff_ne] at *) <;> (try omega)); done)
    all_goals (simp only [errTok, tokA, f0, evS]; done)
end Go.Proofs.YtlobiioioicmhaaGreatDoor
