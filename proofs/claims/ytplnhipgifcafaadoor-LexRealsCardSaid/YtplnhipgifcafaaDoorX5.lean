/- A part of the proof. -/
import Derived.Test.YtplnhipgifcafaaDoorX4
/- A number's digits. -/
namespace Go.Proofs.YtplnhipgifcafaaDoor
set_option linter.all false
open Go Go.Ev
variable {γ : List (Nat × AV)}
def decB (n : Nat) : List UInt8 := if n < 10 then [UInt8.ofNat (48 + n)] else decB (n / 10) ++ [UInt8.ofNat (48 + n % 10)]
termination_by n
decreasing_by omega
theorem decB_one {n : Nat} (h : n < 10) : decB n = [UInt8.ofNat (48 + n)] := by rw [decB, if_pos h]
theorem decB_more {n : Nat} (h : ¬ n < 10) : decB n = decB (n / 10) ++ [UInt8.ofNat (48 + n % 10)] := by rw [decB, if_neg h]
theorem digit_b (d : Nat) (h : d < 10) : digitN (UInt8.ofNat (48 + d)).toNat = true ∧ (UInt8.ofNat (48 + d)).toNat - 48 = d := by
  have : ∀ d : Fin 10, digitN (UInt8.ofNat (48 + d.val)).toNat = true ∧ (UInt8.ofNat (48 + d.val)).toNat - 48 = d.val := by decide
  exact this ⟨d, h⟩
theorem decB_ind {P : Nat → Prop} (h1 : ∀ n, n < 10 → P n) (h2 : ∀ n, ¬ n < 10 → P (n / 10) → P n) (n : Nat) : P n := by
  induction n using Nat.strongRecOn with
  | _ n ih =>
    by_cases h : n < 10
    · exact h1 n h
    · exact h2 n h (ih (n / 10) (by omega))
theorem decB_pos (n : Nat) : 1 ≤ (decB n).length := by
  by_cases h : n < 10
  · rw [decB_one h]; simp
  · rw [decB_more h]; simp
theorem decB_digits (n : Nat) : ∀ b ∈ decB n, digitN b.toNat = true := by
  refine decB_ind (P := fun n => ∀ b ∈ decB n, digitN b.toNat = true) (fun n h b hb => ?_) (fun n h ih b hb => ?_) n
  · rw [decB_one h] at hb
    rw [List.mem_singleton.1 hb]
    exact (digit_b n h).1
  · rw [decB_more h] at hb
    rcases List.mem_append.1 hb with hb | hb
    · exact ih b hb
    · rw [List.mem_singleton.1 hb]
      exact (digit_b _ (by omega)).1
theorem decB_val (n : Nat) : decV (decB n) = n := by
  refine decB_ind (P := fun n => decV (decB n) = n) (fun n h => ?_) (fun n h ih => ?_) n
  · rw [decB_one h]
    unfold decV decFrom
    simp only [List.foldl_cons, List.foldl_nil]
    rw [(digit_b n h).2]; omega
  · rw [decB_more h]
    unfold decV decFrom at ih ⊢
    rw [List.foldl_append, ih]
    simp only [List.foldl_cons, List.foldl_nil]
    rw [(digit_b (n % 10) (by omega)).2]; omega
theorem decB_first (n : Nat) (h : 0 < n) : atL (decB n) 0 ≠ 48 := by
  revert h
  refine decB_ind (P := fun n => 0 < n → atL (decB n) 0 ≠ 48) (fun n h h0 => ?_) (fun n h ih h0 => ?_) n
  · rw [decB_one h]
    have : ∀ d : Fin 10, 0 < d.val → atL [UInt8.ofNat (48 + d.val)] 0 ≠ 48 := by decide
    exact this ⟨n, h⟩ h0
  · rw [decB_more h]
    have hp := decB_pos (n / 10)
    have : atL (decB (n / 10) ++ [UInt8.ofNat (48 + n % 10)]) 0 = atL (decB (n / 10)) 0 := by
      unfold atL; simp only [List.getD_eq_getElem?_getD]; rw [List.getElem?_append_left (by omega)]
    rw [this]
    exact ih (by omega)
theorem decB_len (n : Nat) (h : n < 18446744073709551616) : (decB n).length ≤ 20 := by
  have key : ∀ (k n : Nat), n < 10 ^ (k + 1) → (decB n).length ≤ k + 1 := by
    intro k
    induction k with
    | zero => intro n h; rw [decB_one (by simpa using h)]; simp
    | succ k ih =>
      intro n h
      by_cases h10 : n < 10
      · rw [decB_one h10]; simp
      · rw [decB_more h10, List.length_append]
        have := ih (n / 10) (by rw [Nat.pow_succ] at h; omega)
        simp only [List.length_cons, List.length_nil]; omega
  exact key 19 n (by omega)
theorem decB_lead (n : Nat) : ¬ (1 < (decB n).length ∧ atL (decB n) 0 = 48) := by
  rintro ⟨h1, h2⟩
  by_cases h : n < 10
  · rw [decB_one h] at h1; simp at h1
  · exact decB_first n (by omega) h2
theorem decO_dec (n : Nat) (most : Int) : decO (decB n) most = decide (n < 9223372036854775808 ∧ (n : Int) ≤ most) := by
  unfold decO
  rw [decB_val]
  exact decide_eq_decide.2 ⟨fun h => ⟨h.2.1, h.2.2⟩, fun h => ⟨decB_lead n, h.1, h.2⟩⟩
theorem utf_digit (d : Nat) (h : d < 10) : Utf8.encode ((48 + d : Nat) : Int) = ⟨#[UInt8.ofNat (48 + d)]⟩ := by
  have : ∀ d : Fin 10, Utf8.encode ((48 + d.val : Nat) : Int) = ⟨#[UInt8.ofNat (48 + d.val)]⟩ := by decide +kernel
  exact this ⟨d, h⟩
theorem b23 : bodyT Tryd.prog 23 := ⟨_, Tryd.func23, by kernel_rfl, by kernel_rfl⟩
set_option maxHeartbeats 2000000 in
set_option maxRecDepth 20000 in
theorem decimal_ev (n : Nat) (hn : n < 18446744073709551616) : Ev Tryd.prog γ 23 [.v (.int .u64 n)] (.v (.string ⟨(decB n).toArray⟩)) := by
  refine Ev.of Tryd.func23 rfl ?_
  have hlen := decB_len n hn
  simp only [Tryd.f23, evS, tyS, Bool.not_true, Bool.not_false, Nat.reduceAdd, Nat.reduceSub, Nat.reduceMul, Nat.reduceLT, Nat.reduceLeDiff, Nat.reduceEqDiff, reduceCtorEq, List.reduceReplicate, Int.reduceToNat, Int.reduceLE, Int.reduceLT]
  refine LoopK.intro (fun x : Nat × List UInt8 => ⟨⟨16, [(0, .v (.int .u64 x.1)), (3, .v (.string ⟨x.2.toArray⟩))], γ⟩, []⟩) (fun x => x.1 ≤ n ∧ decB x.1 ++ x.2 = decB n) (fun x => x.1) (n, []) ?_ ⟨Nat.le_refl _, by simp⟩ ?_
  · simp only [evS, tyS, Bool.not_true, Bool.not_false, Nat.reduceAdd, Nat.reduceSub, Nat.reduceMul, Nat.reduceLT, Nat.reduceLeDiff, Nat.reduceEqDiff, reduceCtorEq, List.reduceReplicate, Int.reduceToNat, Int.reduceLE, Int.reduceLT]
    (repeat' (first | (with_reducible refine And.intro ?_ ?_) | ((first | refine GuardK.intro_f (fun h => ?_) (fun h => ?_) | refine GuardK.intro_t (fun h => ?_) (fun h => ?_) | refine CondK.intro (fun h => ?_) (fun h => ?_) | refine PickK.intro (fun h => ?_) (fun h => ?_)) <;> simp only [h, evS, tyS, Bool.not_true, Bool.not_false, Nat.reduceAdd, Nat.reduceSub, Nat.reduceMul, Nat.reduceLT, Nat.reduceLeDiff, Nat.reduceEqDiff, reduceCtorEq, List.reduceReplicate, Int.reduceToNat, Int.reduceLE, Int.reduceLT]) | (refine DrawK.intro (by kernel_rfl) (by kernel_rfl) ?_; simp only [evS, tyS, Bool.not_true, Bool.not_false, Nat.reduceAdd, Nat.reduceSub, Nat.reduceMul, Nat.reduceLT, Nat.reduceLeDiff, Nat.reduceEqDiff, reduceCtorEq, List.reduceReplicate, Int.reduceToNat, Int.reduceLE, Int.reduceLT])))
    all_goals first | done | rfl | exact .inl rfl | trace_state
  · rintro ⟨m, s⟩ ⟨hm, hs⟩
    simp only at hm hs
    have e1 : (m : Int).tmod 10 = ((m % 10 : Nat) : Int) := by rw [Int.tmod_eq_emod_of_nonneg (by omega)]; omega
    have e2 : IntKind.u64.wrap (48 + (m : Int).tmod 10) = ((48 + m % 10 : Nat) : Int) := by rw [e1, u64w (by omega) (by omega)]; omega
    have e3 : IntKind.u64.wrap ((m : Int).tdiv 10) = ((m / 10 : Nat) : Int) := by rw [Int.tdiv_eq_ediv_of_nonneg (by omega), u64w (by omega) (by omega)]; omega
    have e4 : IntKind.i32.wrap ((48 + m % 10 : Nat) : Int) = ((48 + m % 10 : Nat) : Int) := by
      have : ∀ d : Fin 10, IntKind.i32.wrap ((48 + d.val : Nat) : Int) = ((48 + d.val : Nat) : Int) := by decide
      exact this ⟨m % 10, by omega⟩
    have e5 := utf_digit (m % 10) (by omega)
    have e10 : ((10 : Int) ≠ 0) = True := by simp
    simp only [e2, e3, e4, e5, e10, evS, tyS, Bool.not_true, Bool.not_false, Nat.reduceAdd, Nat.reduceSub, Nat.reduceMul, Nat.reduceLT, Nat.reduceLeDiff, Nat.reduceEqDiff, reduceCtorEq, List.reduceReplicate, Int.reduceToNat, Int.reduceLE, Int.reduceLT]
    (repeat' (first | (with_reducible refine And.intro ?_ ?_) | ((first | refine GuardK.intro_f (fun h => ?_) (fun h => ?_) | refine GuardK.intro_t (fun h => ?_) (fun h => ?_) | refine CondK.intro (fun h => ?_) (fun h => ?_) | refine PickK.intro (fun h => ?_) (fun h => ?_)) <;> simp only [h, e2, e3, e4, e5, e10, evS, tyS, Bool.not_true, Bool.not_false, Nat.reduceAdd, Nat.reduceSub, Nat.reduceMul, Nat.reduceLT, Nat.reduceLeDiff, Nat.reduceEqDiff, reduceCtorEq, List.reduceReplicate, Int.reduceToNat, Int.reduceLE, Int.reduceLT]) | (refine DrawK.intro (by kernel_rfl) (by kernel_rfl) ?_; simp only [e2, e3, e4, e5, e10, evS, tyS, Bool.not_true, Bool.not_false, Nat.reduceAdd, Nat.reduceSub, Nat.reduceMul, Nat.reduceLT, Nat.reduceLeDiff, Nat.reduceEqDiff, reduceCtorEq, List.reduceReplicate, Int.reduceToNat, Int.reduceLE, Int.reduceLT])))
    · have hsl := congrArg List.length hs
      rw [List.length_append] at hsl
      omega
    · have hm10 : m < 10 := by have : ((m / 10 : Nat) : Int) = 0 := by simpa using h
                               omega
      rw [← hs, decB_one hm10, show m % 10 = m by omega]; rfl
    · have hm10 : ¬ m < 10 := by
        intro hc
        rw [show m / 10 = 0 by omega] at h
        revert h; decide
      refine loopC.intro (m / 10, UInt8.ofNat (48 + m % 10) :: s) ⟨by simp only; omega, by simp only; rw [← hs, decB_more hm10, List.append_assoc]; rfl⟩ ?_ (by simp only; omega)
      simp only [evS, tyS, Bool.not_true, Bool.not_false, Nat.reduceAdd, Nat.reduceSub, Nat.reduceMul, Nat.reduceLT, Nat.reduceLeDiff, Nat.reduceEqDiff, reduceCtorEq, List.reduceReplicate, Int.reduceToNat, Int.reduceLE, Int.reduceLT]
end Go.Proofs.YtplnhipgifcafaaDoor
/- A real number's text, and what it is read as. -/
namespace Go.Proofs.YtplnhipgifcafaaDoor
set_option linter.all false
open Go Go.Ev
def tailX (x : Int) : List UInt8 := if x < 0 then 45 :: decB x.natAbs else decB x.natAbs
def realT (m : Nat) (x : Int) : List UInt8 := decB m ++ 112 :: tailX x
def sgX (x : Int) : Nat := if x < 0 then 1 else 0
def mayR (m : Nat) (x : Int) : Prop := m < 9007199254740992 ∧ -1074 ≤ x ∧ x ≤ 1023 ∧ (m % 2 = 1 ∨ m = 0 ∧ x = 0) ∧ (m = 0 ∨ x + m.log2 ≤ 1023)
theorem tailX_drop (x : Int) : (tailX x).drop (sgX x) = decB x.natAbs := by
  unfold tailX sgX; split <;> rfl
theorem tailX_len (x : Int) : (tailX x).length = sgX x + (decB x.natAbs).length := by
  unfold tailX sgX; split <;> simp <;> omega
theorem realT_len (m : Nat) (x : Int) : (realT m x).length = (decB m).length + 1 + sgX x + (decB x.natAbs).length := by
  unfold realT; rw [List.length_append, List.length_cons, tailX_len]; omega
theorem realT_drop (m : Nat) (x : Int) : (realT m x).drop ((decB m).length + 1 + sgX x) = decB x.natAbs := by
  unfold realT
  rw [show (decB m).length + 1 + sgX x = (decB m).length + (1 + sgX x) by omega, ← List.drop_drop, List.drop_left' rfl, ← List.drop_drop]
  show (tailX x).drop (sgX x) = _
  exact tailX_drop x
theorem atL_left {a b : List UInt8} {i : Nat} (h : i < a.length) : atL (a ++ b) i = atL a i := by
  unfold atL; simp only [List.getD_eq_getElem?_getD]; rw [List.getElem?_append_left h]
theorem dec_at {n i : Nat} (h : i < (decB n).length) : digitN (atL (decB n) i) = true := by
  have : atL (decB n) i = ((decB n)[i]'h).toNat := by unfold atL; simp [h]
  rw [this]
  exact decB_digits n _ (List.getElem_mem h)
theorem atL_end (l : List UInt8) : atL l l.length = 0 := by unfold atL; simp
section
variable (m : Nat) (x : Int)
theorem real_at (i : Nat) (h : i < (decB x.natAbs).length) : atL (realT m x) ((decB m).length + 1 + sgX x + i) = atL (decB x.natAbs) i := by
  rw [← realT_drop m x, atL_dropk]
theorem real_D : digitsEnd (realT m x) 0 = (decB m).length := by
  have hl := realT_len m x
  refine spanEnd_uniq (q := digitN) (decB m).length (by omega) (by omega) (fun j h1 h2 => ?_) (fun _ => ?_)
  · unfold realT; rw [atL_left h2]; exact dec_at h2
  · have : atL (realT m x) (decB m).length = 112 := by
      have := atL_app (a := decB m) (b := 112 :: tailX x) 0
      rw [Nat.add_zero] at this
      unfold realT; rw [this]; rfl
    rw [this]; decide
theorem real_p : atL (realT m x) (decB m).length = 112 := by
  have := atL_app (a := decB m) (b := 112 :: tailX x) 0
  rw [Nat.add_zero] at this
  unfold realT; rw [this]; rfl
theorem real_sg : sgOf (realT m x) = sgX x := by
  have h1 : atL (realT m x) ((decB m).length + 1) = atL (tailX x) 0 := by
    have := atL_app (a := decB m) (b := 112 :: tailX x) 1
    unfold realT; rw [this]; rfl
  unfold sgOf sgX
  rw [real_D, real_p, h1]
  unfold tailX
  by_cases hx : x < 0
  · rw [if_pos hx, if_pos ⟨rfl, rfl⟩, if_pos hx]
  · have hd := dec_at (n := x.natAbs) (i := 0) (decB_pos _)
    rw [if_neg hx, if_neg, if_neg hx]
    rintro ⟨_, h⟩
    rw [h] at hd
    revert hd; decide
theorem real_digit : digitN (atL (realT m x) ((decB m).length + 1 + sgX x)) = true := by
  have := real_at m x 0 (decB_pos _)
  rw [Nat.add_zero] at this
  rw [this]; exact dec_at (decB_pos _)
theorem real_E : digitsEnd (realT m x) ((decB m).length + 1 + sgX x) = (realT m x).length := by
  have hl := realT_len m x
  refine spanEnd_uniq (q := digitN) (decB x.natAbs).length (by omega) (Nat.le_refl _) (fun j h1 h2 => ?_) (fun h => by omega)
  have := real_at m x (j - ((decB m).length + 1 + sgX x)) (by omega)
  rw [show (decB m).length + 1 + sgX x + (j - ((decB m).length + 1 + sgX x)) = j by omega] at this
  rw [this]; exact dec_at (by omega)
theorem real_a : numL (realT m x) 0 = decB m := by
  unfold numL
  rw [real_D]
  unfold realT
  rw [List.drop_zero, Nat.sub_zero, List.take_left' rfl]
theorem real_b : numL (realT m x) ((decB m).length + 1 + sgX x) = decB x.natAbs := by
  unfold numL
  rw [real_E, realT_drop, realT_len]
  exact List.take_of_length_le (by omega)
theorem realO_may : realO (sgX x) (decB m) (decB x.natAbs) 0 = true ↔ mayR m x := by
  unfold realO mayR
  rw [decO_dec, decO_dec, decB_val, decB_val]
  have he : expOf (sgX x) x.natAbs = x := by
    unfold expOf sgX
    by_cases hx : x < 0
    · rw [if_pos hx, if_pos rfl]; omega
    · rw [if_neg hx, if_neg (by decide)]; omega
  have hn : nameN 0 = false := by decide
  rw [he, hn]
  unfold finB
  simp only [Bool.and_eq_true, Bool.or_eq_true, decide_eq_true_eq, Bool.not_eq_true', Bool.and_eq_false_iff, decide_eq_false_iff_not, Bool.not_false, and_true]
  unfold sgX
  by_cases hx : x < 0
  · simp only [if_pos hx]
    constructor
    · rintro ⟨⟨⟨⟨h1, h2⟩, h3⟩, h4⟩, h5⟩
      refine ⟨by omega, by omega, by omega, ?_, h5⟩
      rcases h3 with h3 | ⟨h3, h3'⟩
      · exact .inl h3
      · exact .inr ⟨h3, by omega⟩
    · rintro ⟨h1, h2, h3, h4, h5⟩
      refine ⟨⟨⟨⟨⟨by omega, by omega⟩, ⟨by omega, by omega⟩⟩, ?_⟩, ?_⟩, h5⟩
      · rcases h4 with h4 | ⟨h4, h4'⟩
        · exact .inl h4
        · omega
      · right; omega
  · simp only [if_neg hx]
    constructor
    · rintro ⟨⟨⟨⟨h1, h2⟩, h3⟩, h4⟩, h5⟩
      refine ⟨by omega, by omega, by omega, ?_, h5⟩
      rcases h3 with h3 | ⟨h3, h3'⟩
      · exact .inl h3
      · exact .inr ⟨h3, by omega⟩
    · rintro ⟨h1, h2, h3, h4, h5⟩
      refine ⟨⟨⟨⟨⟨by omega, by omega⟩, ⟨by omega, by omega⟩⟩, ?_⟩, ?_⟩, h5⟩
      · rcases h4 with h4 | ⟨h4, h4'⟩
        · exact .inl h4
        · exact .inr ⟨h4, by omega⟩
      · left; decide
def realTok : TokD := ⟨3, [], 0, realB m x, (realT m x).length⟩
theorem headD_real : headD (realT m x) = if realO (sgX x) (decB m) (decB x.natAbs) 0 = true then .ok (realTok m x) else .error 12 := by
  have hd0 : digitN (atL (realT m x) 0) = true := by
    unfold realT; rw [atL_left (decB_pos m)]; exact dec_at (decB_pos m)
  have hl0 : letterN (atL (realT m x) 0) = false := by
    have : ∀ n, digitN n = true → letterN n = false := fun n h => by
      unfold digitN at h; unfold letterN
      have := of_decide_eq_true h
      exact decide_eq_false (by omega)
    exact this _ hd0
  have he : expOf (sgX x) x.natAbs = x := by
    unfold expOf sgX
    by_cases hx : x < 0
    · rw [if_pos hx, if_pos rfl]; omega
    · rw [if_neg hx, if_neg (by decide)]; omega
  unfold headD
  rw [if_neg (by rw [hl0]; decide), if_pos hd0]
  unfold numberD
  rw [real_sg, real_D, if_pos ⟨real_p m x, real_digit m x⟩]
  unfold realD
  rw [real_a, real_b, real_E, atL_end, decB_val, decB_val, he]
  rfl
theorem items_real (hm : m < 18446744073709551616) (hx : x.natAbs < 18446744073709551616) : (mayR m x → eachItems (realT m x) = [((realTok m x, 0), 0)]) ∧ (¬ mayR m x → eachItems (realT m x) = [((zeroT, 0), 12)]) := by
  have hl := realT_len m x
  have h1 := decB_len m hm
  have h2 := decB_len x.natAbs hx
  have h3 := decB_pos m
  have hs : sgX x ≤ 1 := by unfold sgX; split <;> omega
  have hd0 : digitN (atL (realT m x) 0) = true := by
    unfold realT; rw [atL_left (decB_pos m)]; exact dec_at (decB_pos m)
  have hb : blankN (atL (realT m x) 0) = false ∧ atL (realT m x) 0 ≠ 35 := by
    unfold digitN at hd0
    have := of_decide_eq_true hd0
    exact ⟨by unfold blankN; exact decide_eq_false (by omega), by omega⟩
  have hh := headD_real m x
  constructor
  · intro h
    rw [if_pos ((realO_may m x).2 h)] at hh
    have := items_one hh (by show 1 ≤ (realT m x).length; omega) (Nat.le_refl _) (by show (realT m x).length ≤ _; omega) hb.1 hb.2
    rwa [show (realTok m x).size = (realT m x).length from rfl, List.take_length] at this
  · intro h
    rw [if_neg (fun q => h ((realO_may m x).1 q))] at hh
    unfold eachItems
    rw [if_neg (by omega)]
    have hn : nextT (realT m x) 0 = 0 := by
      unfold nextT
      rw [gap_stop (by omega) hb.1 hb.2]
    rw [itemsF, hn, if_neg (by omega), List.drop_zero, hh]
end
end Go.Proofs.YtplnhipgifcafaaDoor
namespace Go.Proofs.YtplnhipgifcafaaDoor
set_option linter.all false
open Go Go.Ev Go.RowKit
variable {γ : List (Nat × AV)}
theorem u64w' {n : Int} : IntKind.u64.wrap n = n % 18446744073709551616 := by
  simp [IntKind.wrap, IntKind.signed, IntKind.bits]
def may1 (m : Nat) (x : Int) : Prop := m < 9007199254740992 ∧ -1074 ≤ x ∧ x ≤ 1023 ∧ (m % 2 = 1 ∨ m = 0 ∧ x = 0)
instance (m : Nat) (x : Int) : Decidable (may1 m x) := by unfold may1; exact inferInstance
instance (m : Nat) (x : Int) : Decidable (mayR m x) := by unfold mayR; exact inferInstance
theorem shr_may {m : Nat} {x : Int} (h : may1 m x) (hx : 970 < x) (s : Nat) (hs : (s : Int) = 1024 - x) : ((m : Int).fdiv (2 ^ min s IntKind.u64.bits) != 0) = decide (¬ mayR m x) := by
  obtain ⟨h1, h2, h3, h4⟩ := h
  have hm0 : m ≠ 0 := by rcases h4 with h | ⟨h, h'⟩ <;> omega
  have e : min s IntKind.u64.bits = s := by show min s 64 = s; omega
  have hp : (0 : Int) < 2 ^ s := by exact_mod_cast Nat.pos_of_ne_zero (by simp)
  rw [e, Int.fdiv_eq_ediv_of_nonneg _ (by omega)]
  have hc : (m : Int) / 2 ^ s = ((m / 2 ^ s : Nat) : Int) := by push_cast; rfl
  rw [hc]
  have key : (m / 2 ^ s ≠ 0) ↔ ¬ mayR m x := by
    have h5 : m / 2 ^ s ≠ 0 ↔ 2 ^ s ≤ m := by
      rw [Ne, Nat.div_eq_zero_iff]
      have : (2 : Nat) ^ s ≠ 0 := by simp
      omega
    rw [h5, ← Nat.le_log2 hm0]
    unfold mayR
    constructor
    · rintro g ⟨_, _, _, _, g5⟩
      rcases g5 with g5 | g5
      · exact hm0 g5
      · omega
    · intro g
      by_cases h6 : s ≤ m.log2
      · exact h6
      · exact absurd ⟨h1, h2, h3, h4, .inr (by omega)⟩ g
  by_cases hk : m / 2 ^ s = 0
  · rw [hk, decide_eq_false (fun q => (key.2 q) hk)]; rfl
  · rw [decide_eq_true (key.1 hk)]; simp; omega
theorem may_low {m : Nat} {x : Int} (hx : ¬ 970 < x) : mayR m x ↔ may1 m x := by
  unfold mayR may1
  constructor
  · rintro ⟨h1, h2, h3, h4, _⟩; exact ⟨h1, h2, h3, h4⟩
  · rintro ⟨h1, h2, h3, h4⟩
    refine ⟨h1, h2, h3, h4, ?_⟩
    by_cases h0 : m = 0
    · exact .inl h0
    · have := log2_lt53 (Nat.pos_of_ne_zero h0) h1
      right; omega
theorem i51 : intT Tryd.prog 51 = some .u64 := by kernel_rfl
def realsS (γ : List (Nat × AV)) (m : Nat) (x : Int) (y : List (Nat × AV)) : Slots := ⟨124, y ++ [(0, .v (.int .u64 m)), (1, .v (.int .i64 x))], γ⟩
theorem tmod2 (m : Nat) : ((m : Int).tmod 2 == 1) = decide (m % 2 = 1) := by
  rw [Int.tmod_eq_emod_of_nonneg (by omega)]
  by_cases h : m % 2 = 1
  · rw [decide_eq_true h]; simp; omega
  · rw [decide_eq_false h]; simp; omega
set_option maxHeartbeats 4000000 in
set_option maxRecDepth 20000 in
theorem lexReals_ev (hγ : Gl γ) (hγ2 : GlW γ) (m : Nat) (x : Int) (hm : m < 18446744073709551616) (hx1 : -9223372036854775808 ≤ x) (hx2 : x < 9223372036854775808) : Ev Tryd.prog γ 8 [.v (.int .u64 m), .v (.int .i64 x)] (.v (.bool true)) := by
  have hb : x.natAbs < 18446744073709551616 := by omega
  obtain ⟨it1, it2⟩ := items_real m x hm hb
  have hlA := decB_len m hm
  have hlB := decB_len x.natAbs hb
  have hLen := realT_len m x
  have hsg : sgX x ≤ 1 := by unfold sgX; split <;> omega
  refine Ev.of_wp Tryd.func8 rfl ?_
  intro X hP h0 a w hs
  have hnt : Tryd.f8.ntmps = 124 := by kernel_rfl
  rw [hnt] at hs
  refine wp_seq (pieceW hP ⟨realsS γ m x [], []⟩ h0 hs ?_ fun φ1 a1 w1 h1 => ?_)
  · simp only [startA, idxL, wkQ_normal, realsS, evS, tyS, Bool.not_true, Bool.not_false, Nat.reduceAdd, Nat.reduceSub, Nat.reduceMul, Nat.reduceLT, Nat.reduceLeDiff, Nat.reduceEqDiff, reduceCtorEq, List.reduceReplicate, Int.reduceToNat, Int.reduceLE, Int.reduceLT]
    (repeat' (first | (with_reducible refine And.intro ?_ ?_) | ((first | refine GuardK.intro_f (fun h => ?_) (fun h => ?_) | refine GuardK.intro_t (fun h => ?_) (fun h => ?_) | refine CondK.intro (fun h => ?_) (fun h => ?_) | refine PickK.intro (fun h => ?_) (fun h => ?_)) <;> simp only [h, evS, tyS, Bool.not_true, Bool.not_false, Nat.reduceAdd, Nat.reduceSub, Nat.reduceMul, Nat.reduceLT, Nat.reduceLeDiff, Nat.reduceEqDiff, reduceCtorEq, List.reduceReplicate, Int.reduceToNat, Int.reduceLE, Int.reduceLT]) | (refine DrawK.intro (by kernel_rfl) (by kernel_rfl) ?_; simp only [evS, tyS, Bool.not_true, Bool.not_false, Nat.reduceAdd, Nat.reduceSub, Nat.reduceMul, Nat.reduceLT, Nat.reduceLeDiff, Nat.reduceEqDiff, reduceCtorEq, List.reduceReplicate, Int.reduceToNat, Int.reduceLE, Int.reduceLT])))
    all_goals first | done | rfl | exact .inl rfl | trace_state
  refine wp_seq (pieceW hP ⟨realsS γ m x [], []⟩ h0 h1 ?_ fun φ2 a2 w2 h2 => ?_)
  · simp only [wkQ_normal, realsS, evS, tyS, Bool.not_true, Bool.not_false, Nat.reduceAdd, Nat.reduceSub, Nat.reduceMul, Nat.reduceLT, Nat.reduceLeDiff, Nat.reduceEqDiff, reduceCtorEq, List.reduceReplicate, Int.reduceToNat, Int.reduceLE, Int.reduceLT]
    refine CallK.intro b19 rfl (awake_ev hγ hγ2) ?_
    simp only [wkQ_normal, evS, tyS, Bool.not_true, Bool.not_false, Nat.reduceAdd, Nat.reduceSub, Nat.reduceMul, Nat.reduceLT, Nat.reduceLeDiff, Nat.reduceEqDiff, reduceCtorEq, List.reduceReplicate, Int.reduceToNat, Int.reduceLE, Int.reduceLT]
    (repeat' (first | (with_reducible refine And.intro ?_ ?_) | ((first | refine GuardK.intro_f (fun h => ?_) (fun h => ?_) | refine GuardK.intro_t (fun h => ?_) (fun h => ?_) | refine CondK.intro (fun h => ?_) (fun h => ?_) | refine PickK.intro (fun h => ?_) (fun h => ?_)) <;> simp only [h, wkQ_normal, evS, tyS, Bool.not_true, Bool.not_false, Nat.reduceAdd, Nat.reduceSub, Nat.reduceMul, Nat.reduceLT, Nat.reduceLeDiff, Nat.reduceEqDiff, reduceCtorEq, List.reduceReplicate, Int.reduceToNat, Int.reduceLE, Int.reduceLT]) | (refine DrawK.intro (by kernel_rfl) (by kernel_rfl) ?_; simp only [wkQ_normal, evS, tyS, Bool.not_true, Bool.not_false, Nat.reduceAdd, Nat.reduceSub, Nat.reduceMul, Nat.reduceLT, Nat.reduceLeDiff, Nat.reduceEqDiff, reduceCtorEq, List.reduceReplicate, Int.reduceToNat, Int.reduceLE, Int.reduceLT])))
    all_goals first | done | rfl | exact .inl rfl | trace_state
  refine wp_seq (pieceW hP ⟨realsS γ m x [(5, .v (.string ⟨(decB m ++ [112]).toArray⟩))], []⟩ h0 h2 ?_ fun φ3 a3 w3 h3 => ?_)
  · simp only [wkQ_normal, realsS, evS, tyS, Bool.not_true, Bool.not_false, Nat.reduceAdd, Nat.reduceSub, Nat.reduceMul, Nat.reduceLT, Nat.reduceLeDiff, Nat.reduceEqDiff, reduceCtorEq, List.reduceReplicate, Int.reduceToNat, Int.reduceLE, Int.reduceLT]
    refine CallK.intro b23 rfl (decimal_ev m hm) ?_
    simp only [wkQ_normal, evS, tyS, Bool.not_true, Bool.not_false, Nat.reduceAdd, Nat.reduceSub, Nat.reduceMul, Nat.reduceLT, Nat.reduceLeDiff, Nat.reduceEqDiff, reduceCtorEq, List.reduceReplicate, Int.reduceToNat, Int.reduceLE, Int.reduceLT]
    (repeat' (first | (with_reducible refine And.intro ?_ ?_) | ((first | refine GuardK.intro_f (fun h => ?_) (fun h => ?_) | refine GuardK.intro_t (fun h => ?_) (fun h => ?_) | refine CondK.intro (fun h => ?_) (fun h => ?_) | refine PickK.intro (fun h => ?_) (fun h => ?_)) <;> simp only [h, wkQ_normal, evS, tyS, Bool.not_true, Bool.not_false, Nat.reduceAdd, Nat.reduceSub, Nat.reduceMul, Nat.reduceLT, Nat.reduceLeDiff, Nat.reduceEqDiff, reduceCtorEq, List.reduceReplicate, Int.reduceToNat, Int.reduceLE, Int.reduceLT]) | (refine DrawK.intro (by kernel_rfl) (by kernel_rfl) ?_; simp only [wkQ_normal, evS, tyS, Bool.not_true, Bool.not_false, Nat.reduceAdd, Nat.reduceSub, Nat.reduceMul, Nat.reduceLT, Nat.reduceLeDiff, Nat.reduceEqDiff, reduceCtorEq, List.reduceReplicate, Int.reduceToNat, Int.reduceLE, Int.reduceLT])))
    all_goals first | done | rfl | exact .inl rfl | omega | trace_state
  refine wp_seq (pieceW hP ⟨realsS γ m x [(5, .v (.string ⟨(realT m x).toArray⟩))], []⟩ h0 h3 ?_ fun φ4 a4 w4 h4 => ?_)
  · by_cases hx : x < 0
    · have d1 : decide (x < 0) = true := decide_eq_true hx
      have e1 : IntKind.u64.wrap (0 - IntKind.u64.wrap x) = ((x.natAbs : Nat) : Int) := by rw [u64w', u64w']; omega
      have eT : realT m x = decB m ++ [112] ++ [45] ++ decB x.natAbs := by unfold realT tailX; rw [if_pos hx]; simp
      rw [eT]
      simp only [wkQ_normal, realsS, d1, e1, evS, tyS, Bool.not_true, Bool.not_false, Nat.reduceAdd, Nat.reduceSub, Nat.reduceMul, Nat.reduceLT, Nat.reduceLeDiff, Nat.reduceEqDiff, reduceCtorEq, List.reduceReplicate, Int.reduceToNat, Int.reduceLE, Int.reduceLT]
      (repeat' (first | (with_reducible refine And.intro ?_ ?_) | ((first | refine GuardK.intro_f (fun h => ?_) (fun h => ?_) | refine GuardK.intro_t (fun h => ?_) (fun h => ?_) | refine CondK.intro (fun h => ?_) (fun h => ?_) | refine PickK.intro (fun h => ?_) (fun h => ?_)) <;> simp only [h, wkQ_normal, d1, e1, evS, tyS, Bool.not_true, Bool.not_false, Nat.reduceAdd, Nat.reduceSub, Nat.reduceMul, Nat.reduceLT, Nat.reduceLeDiff, Nat.reduceEqDiff, reduceCtorEq, List.reduceReplicate, Int.reduceToNat, Int.reduceLE, Int.reduceLT]) | (refine DrawK.intro (by kernel_rfl) (by kernel_rfl) ?_; simp only [wkQ_normal, d1, e1, evS, tyS, Bool.not_true, Bool.not_false, Nat.reduceAdd, Nat.reduceSub, Nat.reduceMul, Nat.reduceLT, Nat.reduceLeDiff, Nat.reduceEqDiff, reduceCtorEq, List.reduceReplicate, Int.reduceToNat, Int.reduceLE, Int.reduceLT])))
      all_goals try omega
      refine CallK.intro b23 rfl (decimal_ev x.natAbs hb) ?_
      simp only [wkQ_normal, evS, tyS, Bool.not_true, Bool.not_false, Nat.reduceAdd, Nat.reduceSub, Nat.reduceMul, Nat.reduceLT, Nat.reduceLeDiff, Nat.reduceEqDiff, reduceCtorEq, List.reduceReplicate, Int.reduceToNat, Int.reduceLE, Int.reduceLT]
      (repeat' (first | (with_reducible refine And.intro ?_ ?_) | ((first | refine GuardK.intro_f (fun h => ?_) (fun h => ?_) | refine GuardK.intro_t (fun h => ?_) (fun h => ?_) | refine CondK.intro (fun h => ?_) (fun h => ?_) | refine PickK.intro (fun h => ?_) (fun h => ?_)) <;> simp only [h, wkQ_normal, evS, tyS, Bool.not_true, Bool.not_false, Nat.reduceAdd, Nat.reduceSub, Nat.reduceMul, Nat.reduceLT, Nat.reduceLeDiff, Nat.reduceEqDiff, reduceCtorEq, List.reduceReplicate, Int.reduceToNat, Int.reduceLE, Int.reduceLT]) | (refine DrawK.intro (by kernel_rfl) (by kernel_rfl) ?_; simp only [wkQ_normal, evS, tyS, Bool.not_true, Bool.not_false, Nat.reduceAdd, Nat.reduceSub, Nat.reduceMul, Nat.reduceLT, Nat.reduceLeDiff, Nat.reduceEqDiff, reduceCtorEq, List.reduceReplicate, Int.reduceToNat, Int.reduceLE, Int.reduceLT])))
      all_goals first | done | rfl | exact .inl rfl | omega | trace_state
    · have d1 : decide (x < 0) = false := decide_eq_false hx
      have e1 : IntKind.u64.wrap x = ((x.natAbs : Nat) : Int) := by rw [u64w']; omega
      have eT : realT m x = decB m ++ [112] ++ decB x.natAbs := by unfold realT tailX; rw [if_neg hx]; simp
      rw [eT]
      simp only [wkQ_normal, realsS, d1, e1, evS, tyS, Bool.not_true, Bool.not_false, Nat.reduceAdd, Nat.reduceSub, Nat.reduceMul, Nat.reduceLT, Nat.reduceLeDiff, Nat.reduceEqDiff, reduceCtorEq, List.reduceReplicate, Int.reduceToNat, Int.reduceLE, Int.reduceLT]
      (repeat' (first | (with_reducible refine And.intro ?_ ?_) | ((first | refine GuardK.intro_f (fun h => ?_) (fun h => ?_) | refine GuardK.intro_t (fun h => ?_) (fun h => ?_) | refine CondK.intro (fun h => ?_) (fun h => ?_) | refine PickK.intro (fun h => ?_) (fun h => ?_)) <;> simp only [h, wkQ_normal, d1, e1, evS, tyS, Bool.not_true, Bool.not_false, Nat.reduceAdd, Nat.reduceSub, Nat.reduceMul, Nat.reduceLT, Nat.reduceLeDiff, Nat.reduceEqDiff, reduceCtorEq, List.reduceReplicate, Int.reduceToNat, Int.reduceLE, Int.reduceLT]) | (refine DrawK.intro (by kernel_rfl) (by kernel_rfl) ?_; simp only [wkQ_normal, d1, e1, evS, tyS, Bool.not_true, Bool.not_false, Nat.reduceAdd, Nat.reduceSub, Nat.reduceMul, Nat.reduceLT, Nat.reduceLeDiff, Nat.reduceEqDiff, reduceCtorEq, List.reduceReplicate, Int.reduceToNat, Int.reduceLE, Int.reduceLT])))
      all_goals try omega
      refine CallK.intro b23 rfl (decimal_ev x.natAbs hb) ?_
      simp only [wkQ_normal, evS, tyS, Bool.not_true, Bool.not_false, Nat.reduceAdd, Nat.reduceSub, Nat.reduceMul, Nat.reduceLT, Nat.reduceLeDiff, Nat.reduceEqDiff, reduceCtorEq, List.reduceReplicate, Int.reduceToNat, Int.reduceLE, Int.reduceLT]
      (repeat' (first | (with_reducible refine And.intro ?_ ?_) | ((first | refine GuardK.intro_f (fun h => ?_) (fun h => ?_) | refine GuardK.intro_t (fun h => ?_) (fun h => ?_) | refine CondK.intro (fun h => ?_) (fun h => ?_) | refine PickK.intro (fun h => ?_) (fun h => ?_)) <;> simp only [h, wkQ_normal, evS, tyS, Bool.not_true, Bool.not_false, Nat.reduceAdd, Nat.reduceSub, Nat.reduceMul, Nat.reduceLT, Nat.reduceLeDiff, Nat.reduceEqDiff, reduceCtorEq, List.reduceReplicate, Int.reduceToNat, Int.reduceLE, Int.reduceLT]) | (refine DrawK.intro (by kernel_rfl) (by kernel_rfl) ?_; simp only [wkQ_normal, evS, tyS, Bool.not_true, Bool.not_false, Nat.reduceAdd, Nat.reduceSub, Nat.reduceMul, Nat.reduceLT, Nat.reduceLeDiff, Nat.reduceEqDiff, reduceCtorEq, List.reduceReplicate, Int.reduceToNat, Int.reduceLE, Int.reduceLT])))
      all_goals first | done | rfl | exact .inl rfl | omega | trace_state
  have k16 := lexScan_ev hγ hγ2 true (realT m x) (by omega)
  obtain ⟨L, e, hL⟩ : ∃ L e, scanA (realT m x) = .tup [listA L, .v (.int .i64 0), .v (.int .i64 e)] ∧ ((mayR m x → L = [(realTok m x, 0)] ∧ e = 0) ∧ (¬ mayR m x → L = [] ∧ e = 12)) := by
    by_cases h : mayR m x
    · exact ⟨[(realTok m x, 0)], 0, scan_ok (T := [(realTok m x, 0)]) (it1 h), fun _ => ⟨rfl, rfl⟩, fun q => absurd h q⟩
    · refine ⟨[], 12, ?_, fun q => absurd q h, fun _ => ⟨rfl, rfl⟩⟩
      exact scan_told (q := ⟨[], 0, 12⟩) (.inr ⟨it2 h, by decide⟩)
  obtain ⟨hsc, hL1, hL2⟩ := hL
  rw [hsc] at k16
  refine wp_seq (pieceW hP ⟨realsS γ m x [(6, listA L), (7, .v (.int .i64 0)), (8, .v (.int .i64 e))], []⟩ h0 h4 ?_ fun φ5 a5 w5 h5 => ?_)
  · have hlt : (realT m x).length < 4611686018427387904 := by omega
    generalize realT m x = Q at *
    simp only [wkQ_normal, realsS, evS, tyS, Bool.not_true, Bool.not_false, Nat.reduceAdd, Nat.reduceSub, Nat.reduceMul, Nat.reduceLT, Nat.reduceLeDiff, Nat.reduceEqDiff, reduceCtorEq, List.reduceReplicate, Int.reduceToNat, Int.reduceLE, Int.reduceLT]
    (repeat' (first | (with_reducible refine And.intro ?_ ?_) | ((first | refine GuardK.intro_f (fun h => ?_) (fun h => ?_) | refine GuardK.intro_t (fun h => ?_) (fun h => ?_) | refine CondK.intro (fun h => ?_) (fun h => ?_) | refine PickK.intro (fun h => ?_) (fun h => ?_)) <;> simp only [h, evS, tyS, Bool.not_true, Bool.not_false, Nat.reduceAdd, Nat.reduceSub, Nat.reduceMul, Nat.reduceLT, Nat.reduceLeDiff, Nat.reduceEqDiff, reduceCtorEq, List.reduceReplicate, Int.reduceToNat, Int.reduceLE, Int.reduceLT]) | (refine DrawK.intro (by kernel_rfl) (by kernel_rfl) ?_; simp only [evS, tyS, Bool.not_true, Bool.not_false, Nat.reduceAdd, Nat.reduceSub, Nat.reduceMul, Nat.reduceLT, Nat.reduceLeDiff, Nat.reduceEqDiff, reduceCtorEq, List.reduceReplicate, Int.reduceToNat, Int.reduceLE, Int.reduceLT])))
    all_goals try omega
    refine CallK.lend b16 [.sl true Q.length Q.length (Q.map byteC)] ?_ k16 (by simp [noBor, noBorL, noBor_list]) ?_
    · simp only [fzL_cons, fzL_nil, and_true]
      exact fz_lend rfl (Nat.le_refl _) c5 (.inl rfl) List.prefix_rfl
    simp only [wkQ_normal, evS, tyS, Bool.not_true, Bool.not_false, Nat.reduceAdd, Nat.reduceSub, Nat.reduceMul, Nat.reduceLT, Nat.reduceLeDiff, Nat.reduceEqDiff, reduceCtorEq, List.reduceReplicate, Int.reduceToNat, Int.reduceLE, Int.reduceLT]
    (repeat' (first | (with_reducible refine And.intro ?_ ?_) | ((first | refine GuardK.intro_f (fun h => ?_) (fun h => ?_) | refine GuardK.intro_t (fun h => ?_) (fun h => ?_) | refine CondK.intro (fun h => ?_) (fun h => ?_) | refine PickK.intro (fun h => ?_) (fun h => ?_)) <;> simp only [h, wkQ_normal, evS, tyS, Bool.not_true, Bool.not_false, Nat.reduceAdd, Nat.reduceSub, Nat.reduceMul, Nat.reduceLT, Nat.reduceLeDiff, Nat.reduceEqDiff, reduceCtorEq, List.reduceReplicate, Int.reduceToNat, Int.reduceLE, Int.reduceLT]) | (refine DrawK.intro (by kernel_rfl) (by kernel_rfl) ?_; simp only [wkQ_normal, evS, tyS, Bool.not_true, Bool.not_false, Nat.reduceAdd, Nat.reduceSub, Nat.reduceMul, Nat.reduceLT, Nat.reduceLeDiff, Nat.reduceEqDiff, reduceCtorEq, List.reduceReplicate, Int.reduceToNat, Int.reduceLE, Int.reduceLT])))
    all_goals first | done | rfl | exact .inl rfl | exact .inr ⟨by simp [okRefL, okRef, okRef_list], rfl⟩ | (simp [okRefL, okRef, okRef_list]; done) | trace_state
  refine wp_seq (pieceW hP ⟨realsS γ m x [(9, .v (.bool (decide (may1 m x)))), (6, listA L), (7, .v (.int .i64 0)), (8, .v (.int .i64 e))], []⟩ h0 h5 ?_ fun φ6 a6 w6 h6 => ?_)
  · simp only [wkQ_normal, realsS, tmod2, evS, tyS, Bool.not_true, Bool.not_false, Nat.reduceAdd, Nat.reduceSub, Nat.reduceMul, Nat.reduceLT, Nat.reduceLeDiff, Nat.reduceEqDiff, reduceCtorEq, List.reduceReplicate, Int.reduceToNat, Int.reduceLE, Int.reduceLT]
    (repeat' (first | (with_reducible refine And.intro ?_ ?_) | ((first | refine GuardK.intro_f (fun h => ?_) (fun h => ?_) | refine GuardK.intro_t (fun h => ?_) (fun h => ?_) | refine CondK.intro (fun h => ?_) (fun h => ?_) | refine PickK.intro (fun h => ?_) (fun h => ?_)) <;> simp only [h, wkQ_normal, tmod2, evS, tyS, Bool.not_true, Bool.not_false, Nat.reduceAdd, Nat.reduceSub, Nat.reduceMul, Nat.reduceLT, Nat.reduceLeDiff, Nat.reduceEqDiff, reduceCtorEq, List.reduceReplicate, Int.reduceToNat, Int.reduceLE, Int.reduceLT]) | (refine DrawK.intro (by kernel_rfl) (by kernel_rfl) ?_; simp only [wkQ_normal, tmod2, evS, tyS, Bool.not_true, Bool.not_false, Nat.reduceAdd, Nat.reduceSub, Nat.reduceMul, Nat.reduceLT, Nat.reduceLeDiff, Nat.reduceEqDiff, reduceCtorEq, List.reduceReplicate, Int.reduceToNat, Int.reduceLE, Int.reduceLT])))
    all_goals try simp only [decide_eq_true_eq, decide_eq_false_iff_not, beq_iff_eq, beq_eq_false_iff_ne, ne_eq] at *
    all_goals first
      | decide
      | (refine congrArg AV.v (congrArg Value.bool ?_); symm; apply decide_eq_true; unfold may1; omega)
      | (refine congrArg AV.v (congrArg Value.bool ?_); symm; apply decide_eq_false; unfold may1; omega)
      | (refine congrArg AV.v (congrArg Value.bool ?_); apply Bool.eq_iff_iff.2; simp only [beq_iff_eq, decide_eq_true_eq]; unfold may1; omega)
      | trace_state
  refine wp_seq (pieceW hP ⟨realsS γ m x [(9, .v (.bool (decide (mayR m x)))), (6, listA L), (7, .v (.int .i64 0)), (8, .v (.int .i64 e))], []⟩ h0 h6 ?_ fun φ7 a7 w7 h7 => ?_)
  · by_cases hm1 : may1 m x
    · have d1 : decide (may1 m x) = true := decide_eq_true hm1
      by_cases h970 : 970 < x
      · have d2 : decide (970 < x) = true := decide_eq_true h970
        obtain ⟨s, hs'⟩ : ∃ s : Nat, (s : Int) = 1024 - x := ⟨(1024 - x).toNat, by have := hm1.2.2.1; omega⟩
        have e1 : IntKind.i64.wrap (1024 - x) = (s : Int) := by rw [i64w (by omega) (by have := hm1.2.2.1; omega), hs']
        have e2 : IntKind.u64.wrap (s : Int) = (s : Int) := u64w (by omega) (by omega)
        have hsh := shr_may hm1 h970 s hs'
        by_cases hR : mayR m x
        · have d3 : decide (mayR m x) = true := decide_eq_true hR
          have d4 : decide (¬ mayR m x) = false := decide_eq_false (fun h => h hR)
          rw [d4] at hsh
          simp only [wkQ_normal, realsS, d1, d2, d3, e1, e2, hsh, i51, evS, tyS, Bool.not_true, Bool.not_false, Nat.reduceAdd, Nat.reduceSub, Nat.reduceMul, Nat.reduceLT, Nat.reduceLeDiff, Nat.reduceEqDiff, reduceCtorEq, List.reduceReplicate, Int.reduceToNat, Int.reduceLE, Int.reduceLT]
          (repeat' (first | (with_reducible refine And.intro ?_ ?_) | ((first | refine GuardK.intro_f (fun h => ?_) (fun h => ?_) | refine GuardK.intro_t (fun h => ?_) (fun h => ?_) | refine CondK.intro (fun h => ?_) (fun h => ?_) | refine PickK.intro (fun h => ?_) (fun h => ?_)) <;> simp only [h, wkQ_normal, d1, d2, d3, e1, e2, hsh, i51, evS, tyS, Bool.not_true, Bool.not_false, Nat.reduceAdd, Nat.reduceSub, Nat.reduceMul, Nat.reduceLT, Nat.reduceLeDiff, Nat.reduceEqDiff, reduceCtorEq, List.reduceReplicate, Int.reduceToNat, Int.reduceLE, Int.reduceLT]) | (refine DrawK.intro (by kernel_rfl) (by kernel_rfl) ?_; simp only [wkQ_normal, d1, d2, d3, e1, e2, hsh, i51, evS, tyS, Bool.not_true, Bool.not_false, Nat.reduceAdd, Nat.reduceSub, Nat.reduceMul, Nat.reduceLT, Nat.reduceLeDiff, Nat.reduceEqDiff, reduceCtorEq, List.reduceReplicate, Int.reduceToNat, Int.reduceLE, Int.reduceLT])))
          all_goals first | done | rfl | exact .inl rfl | omega | trace_state
        · have d3 : decide (mayR m x) = false := decide_eq_false hR
          have d4 : decide (¬ mayR m x) = true := decide_eq_true hR
          rw [d4] at hsh
          simp only [wkQ_normal, realsS, d1, d2, d3, e1, e2, hsh, i51, evS, tyS, Bool.not_true, Bool.not_false, Nat.reduceAdd, Nat.reduceSub, Nat.reduceMul, Nat.reduceLT, Nat.reduceLeDiff, Nat.reduceEqDiff, reduceCtorEq, List.reduceReplicate, Int.reduceToNat, Int.reduceLE, Int.reduceLT]
          (repeat' (first | (with_reducible refine And.intro ?_ ?_) | ((first | refine GuardK.intro_f (fun h => ?_) (fun h => ?_) | refine GuardK.intro_t (fun h => ?_) (fun h => ?_) | refine CondK.intro (fun h => ?_) (fun h => ?_) | refine PickK.intro (fun h => ?_) (fun h => ?_)) <;> simp only [h, wkQ_normal, d1, d2, d3, e1, e2, hsh, i51, evS, tyS, Bool.not_true, Bool.not_false, Nat.reduceAdd, Nat.reduceSub, Nat.reduceMul, Nat.reduceLT, Nat.reduceLeDiff, Nat.reduceEqDiff, reduceCtorEq, List.reduceReplicate, Int.reduceToNat, Int.reduceLE, Int.reduceLT]) | (refine DrawK.intro (by kernel_rfl) (by kernel_rfl) ?_; simp only [wkQ_normal, d1, d2, d3, e1, e2, hsh, i51, evS, tyS, Bool.not_true, Bool.not_false, Nat.reduceAdd, Nat.reduceSub, Nat.reduceMul, Nat.reduceLT, Nat.reduceLeDiff, Nat.reduceEqDiff, reduceCtorEq, List.reduceReplicate, Int.reduceToNat, Int.reduceLE, Int.reduceLT])))
          all_goals first | done | rfl | exact .inl rfl | omega | trace_state
      · have d2 : decide (970 < x) = false := decide_eq_false h970
        have d3 : decide (mayR m x) = true := decide_eq_true ((may_low h970).2 hm1)
        simp only [wkQ_normal, realsS, d1, d2, d3, evS, tyS, Bool.not_true, Bool.not_false, Nat.reduceAdd, Nat.reduceSub, Nat.reduceMul, Nat.reduceLT, Nat.reduceLeDiff, Nat.reduceEqDiff, reduceCtorEq, List.reduceReplicate, Int.reduceToNat, Int.reduceLE, Int.reduceLT]
        (repeat' (first | (with_reducible refine And.intro ?_ ?_) | ((first | refine GuardK.intro_f (fun h => ?_) (fun h => ?_) | refine GuardK.intro_t (fun h => ?_) (fun h => ?_) | refine CondK.intro (fun h => ?_) (fun h => ?_) | refine PickK.intro (fun h => ?_) (fun h => ?_)) <;> simp only [h, wkQ_normal, d1, d2, d3, evS, tyS, Bool.not_true, Bool.not_false, Nat.reduceAdd, Nat.reduceSub, Nat.reduceMul, Nat.reduceLT, Nat.reduceLeDiff, Nat.reduceEqDiff, reduceCtorEq, List.reduceReplicate, Int.reduceToNat, Int.reduceLE, Int.reduceLT]) | (refine DrawK.intro (by kernel_rfl) (by kernel_rfl) ?_; simp only [wkQ_normal, d1, d2, d3, evS, tyS, Bool.not_true, Bool.not_false, Nat.reduceAdd, Nat.reduceSub, Nat.reduceMul, Nat.reduceLT, Nat.reduceLeDiff, Nat.reduceEqDiff, reduceCtorEq, List.reduceReplicate, Int.reduceToNat, Int.reduceLE, Int.reduceLT])))
        all_goals first | done | rfl | exact .inl rfl | omega | trace_state
    · have d1 : decide (may1 m x) = false := decide_eq_false hm1
      have d3 : decide (mayR m x) = false := decide_eq_false (fun h => hm1 ⟨h.1, h.2.1, h.2.2.1, h.2.2.2.1⟩)
      simp only [wkQ_normal, realsS, d1, d3, evS, tyS, Bool.not_true, Bool.not_false, Nat.reduceAdd, Nat.reduceSub, Nat.reduceMul, Nat.reduceLT, Nat.reduceLeDiff, Nat.reduceEqDiff, reduceCtorEq, List.reduceReplicate, Int.reduceToNat, Int.reduceLE, Int.reduceLT]
      (repeat' (first | (with_reducible refine And.intro ?_ ?_) | ((first | refine GuardK.intro_f (fun h => ?_) (fun h => ?_) | refine GuardK.intro_t (fun h => ?_) (fun h => ?_) | refine CondK.intro (fun h => ?_) (fun h => ?_) | refine PickK.intro (fun h => ?_) (fun h => ?_)) <;> simp only [h, wkQ_normal, d1, d3, evS, tyS, Bool.not_true, Bool.not_false, Nat.reduceAdd, Nat.reduceSub, Nat.reduceMul, Nat.reduceLT, Nat.reduceLeDiff, Nat.reduceEqDiff, reduceCtorEq, List.reduceReplicate, Int.reduceToNat, Int.reduceLE, Int.reduceLT]) | (refine DrawK.intro (by kernel_rfl) (by kernel_rfl) ?_; simp only [wkQ_normal, d1, d3, evS, tyS, Bool.not_true, Bool.not_false, Nat.reduceAdd, Nat.reduceSub, Nat.reduceMul, Nat.reduceLT, Nat.reduceLeDiff, Nat.reduceEqDiff, reduceCtorEq, List.reduceReplicate, Int.reduceToNat, Int.reduceLE, Int.reduceLT])))
      all_goals first | done | rfl | exact .inl rfl | omega | trace_state
  refine tailW hP h0 h7 ?_
  rw [show Tryd.f8.results.toList = [.tmp 4] by kernel_rfl]
  by_cases hR : mayR m x
  · have d1 : decide (mayR m x) = true := decide_eq_true hR
    obtain ⟨rfl, rfl⟩ := hL1 hR
    obtain ⟨r1, r2, r3, r4, r5⟩ := hR
    have hdiv : ∀ e : Int, 1 ≤ e → e ≤ x → FloatKind.f64.format.div (realB m e) 4611686018427387904 = some (realB m (e - 1)) := fun e g1 g2 => by
      have hm0 : m ≠ 0 := by rcases r4 with h | ⟨h, h'⟩ <;> omega
      unfold realB
      rw [if_neg hm0, if_neg hm0]
      exact div_two (Nat.pos_of_ne_zero hm0) r1 (by omega) (by rcases r5 with h | h <;> omega)
    have hmul : ∀ e : Int, x ≤ e → e ≤ -1 → FloatKind.f64.format.mul (realB m e) 4611686018427387904 = some (realB m (e + 1)) := fun e g1 g2 => by
      have hm0 : m ≠ 0 := by rcases r4 with h | ⟨h, h'⟩ <;> omega
      unfold realB
      rw [if_neg hm0, if_neg hm0]
      exact mul_two (Nat.pos_of_ne_zero hm0) r1 (by omega)
    have hord : (FloatKind.f64.format.order (realB m 0) (realB m 0) == some .eq) = true := by
      by_cases hm0 : m = 0
      · subst hm0; decide +kernel
      · have := ord_self (e := 0) (Nat.pos_of_ne_zero hm0) r1 (by omega)
        unfold realB
        rw [if_neg hm0]
        show (Ieee.double.order (dblN m 0) (dblN m 0) == some .eq) = true
        rw [this]; rfl
    have hnear := near_eq m r1
    have eL : listA [(realTok m x, 0)] = .sl false 1 1 [.v (.int .i64 3), .v (.string ⟨#[]⟩), .v (.int .i64 0), .v (.float .f64 (realB m x)), .v (.int .i64 0), .v (.int .i64 (realT m x).length)] := rfl
    have z0 : ((0 : Int) != 0) = false := by decide
    have z1 : (((1 : Nat) : Int) != 1) = false := by decide
    have z3 : ((3 : Int) != 3) = false := by decide
    have zl : decide ((0 : Int) < ((1 : Nat) : Int)) = true := by decide
    generalize (realT m x).length = nT at *
    simp only [realsS, d1, eL, z0, z1, z3, evS, tyS, Bool.not_true, Bool.not_false, Nat.reduceAdd, Nat.reduceSub, Nat.reduceMul, Nat.reduceLT, Nat.reduceLeDiff, Nat.reduceEqDiff, reduceCtorEq, List.reduceReplicate, Int.reduceToNat, Int.reduceLE, Int.reduceLT]
    (repeat' (first | (with_reducible refine And.intro ?_ ?_) | ((first | refine GuardK.intro_f (fun h => ?_) (fun h => ?_) | refine GuardK.intro_t (fun h => ?_) (fun h => ?_) | refine CondK.intro (fun h => ?_) (fun h => ?_) | refine PickK.intro (fun h => ?_) (fun h => ?_)) <;> simp only [h, d1, z0, z1, z3, evS, tyS, Bool.not_true, Bool.not_false, Nat.reduceAdd, Nat.reduceSub, Nat.reduceMul, Nat.reduceLT, Nat.reduceLeDiff, Nat.reduceEqDiff, reduceCtorEq, List.reduceReplicate, Int.reduceToNat, Int.reduceLE, Int.reduceLT]) | (refine DrawK.intro (by kernel_rfl) (by kernel_rfl) ?_; simp only [d1, z0, z1, z3, evS, tyS, Bool.not_true, Bool.not_false, Nat.reduceAdd, Nat.reduceSub, Nat.reduceMul, Nat.reduceLT, Nat.reduceLeDiff, Nat.reduceEqDiff, reduceCtorEq, List.reduceReplicate, Int.reduceToNat, Int.reduceLE, Int.reduceLT])))
    all_goals try (first | omega | decide)
    by_cases hx : x < 0
    · have dx : decide (0 < x) = false := decide_eq_false (by omega)
      refine LoopK.intro (fun _ : Unit => ⟨⟨124, [(0, .v (.int .u64 m)), (1, .v (.int .i64 x)), (10, .v (.float .f64 (realB m x))), (11, .v (.int .i64 0))], γ⟩, []⟩) (fun _ => True) (fun _ => 0) () ?_ trivial (fun _ _ => ?_)
      · simp only [evS, tyS, Bool.not_true, Bool.not_false, Nat.reduceAdd, Nat.reduceSub, Nat.reduceMul, Nat.reduceLT, Nat.reduceLeDiff, Nat.reduceEqDiff, reduceCtorEq, List.reduceReplicate, Int.reduceToNat, Int.reduceLE, Int.reduceLT]
        (repeat' (first | (with_reducible refine And.intro ?_ ?_) | ((first | refine GuardK.intro_f (fun h => ?_) (fun h => ?_) | refine GuardK.intro_t (fun h => ?_) (fun h => ?_) | refine CondK.intro (fun h => ?_) (fun h => ?_) | refine PickK.intro (fun h => ?_) (fun h => ?_)) <;> simp only [h, evS, tyS, Bool.not_true, Bool.not_false, Nat.reduceAdd, Nat.reduceSub, Nat.reduceMul, Nat.reduceLT, Nat.reduceLeDiff, Nat.reduceEqDiff, reduceCtorEq, List.reduceReplicate, Int.reduceToNat, Int.reduceLE, Int.reduceLT]) | (refine DrawK.intro (by kernel_rfl) (by kernel_rfl) ?_; simp only [evS, tyS, Bool.not_true, Bool.not_false, Nat.reduceAdd, Nat.reduceSub, Nat.reduceMul, Nat.reduceLT, Nat.reduceLeDiff, Nat.reduceEqDiff, reduceCtorEq, List.reduceReplicate, Int.reduceToNat, Int.reduceLE, Int.reduceLT])))
        all_goals first | done | rfl | exact .inl rfl | trace_state
      · simp only [dx, evS, tyS, Bool.not_true, Bool.not_false, Nat.reduceAdd, Nat.reduceSub, Nat.reduceMul, Nat.reduceLT, Nat.reduceLeDiff, Nat.reduceEqDiff, reduceCtorEq, List.reduceReplicate, Int.reduceToNat, Int.reduceLE, Int.reduceLT]
        refine LoopK.intro (fun j : Nat => ⟨⟨124, [(0, .v (.int .u64 m)), (10, .v (.float .f64 (realB m (x + (j : Nat))))), (12, .v (.int .i64 (x + (j : Nat))))], γ⟩, []⟩) (fun j => x + (j : Nat) ≤ 0) (fun j => (-x).toNat - j) 0 ?_ (by omega) (fun j hj => ?_)
        · simp only [Int.add_zero, Int.natCast_zero, evS, tyS, Bool.not_true, Bool.not_false, Nat.reduceAdd, Nat.reduceSub, Nat.reduceMul, Nat.reduceLT, Nat.reduceLeDiff, Nat.reduceEqDiff, reduceCtorEq, List.reduceReplicate, Int.reduceToNat, Int.reduceLE, Int.reduceLT]
          (repeat' (first | (with_reducible refine And.intro ?_ ?_) | ((first | refine GuardK.intro_f (fun h => ?_) (fun h => ?_) | refine GuardK.intro_t (fun h => ?_) (fun h => ?_) | refine CondK.intro (fun h => ?_) (fun h => ?_) | refine PickK.intro (fun h => ?_) (fun h => ?_)) <;> simp only [h, evS, tyS, Bool.not_true, Bool.not_false, Nat.reduceAdd, Nat.reduceSub, Nat.reduceMul, Nat.reduceLT, Nat.reduceLeDiff, Nat.reduceEqDiff, reduceCtorEq, List.reduceReplicate, Int.reduceToNat, Int.reduceLE, Int.reduceLT]) | (refine DrawK.intro (by kernel_rfl) (by kernel_rfl) ?_; simp only [evS, tyS, Bool.not_true, Bool.not_false, Nat.reduceAdd, Nat.reduceSub, Nat.reduceMul, Nat.reduceLT, Nat.reduceLeDiff, Nat.reduceEqDiff, reduceCtorEq, List.reduceReplicate, Int.reduceToNat, Int.reduceLE, Int.reduceLT])))
          all_goals first | done | rfl | exact .inl rfl | (simp; done) | trace_state
        · by_cases hj0 : x + (j : Nat) < 0
          · have dj : decide (x + (j : Nat) < 0) = true := decide_eq_true hj0
            have ew : IntKind.i64.wrap (x + (j : Nat) + 1) = x + ((j + 1 : Nat) : Int) := by rw [i64w (by omega) (by omega)]; omega
            have hmj := hmul (x + (j : Nat)) (by omega) (by omega)
            rw [show x + (j : Nat) + 1 = x + ((j + 1 : Nat) : Int) by omega] at hmj
            simp only [dj, ew, hmj, fltRes_some, evS, tyS, Bool.not_true, Bool.not_false, Nat.reduceAdd, Nat.reduceSub, Nat.reduceMul, Nat.reduceLT, Nat.reduceLeDiff, Nat.reduceEqDiff, reduceCtorEq, List.reduceReplicate, Int.reduceToNat, Int.reduceLE, Int.reduceLT]
            refine loopC.intro (j + 1) (by omega) ?_ (by omega)
            simp only [evS, tyS, Bool.not_true, Bool.not_false, Nat.reduceAdd, Nat.reduceSub, Nat.reduceMul, Nat.reduceLT, Nat.reduceLeDiff, Nat.reduceEqDiff, reduceCtorEq, List.reduceReplicate, Int.reduceToNat, Int.reduceLE, Int.reduceLT]
          · have dj : decide (x + (j : Nat) < 0) = false := decide_eq_false hj0
            have e0 : x + (j : Nat) = 0 := by omega
            simp only [dj, evS, tyS, Bool.not_true, Bool.not_false, Nat.reduceAdd, Nat.reduceSub, Nat.reduceMul, Nat.reduceLT, Nat.reduceLeDiff, Nat.reduceEqDiff, reduceCtorEq, List.reduceReplicate, Int.reduceToNat, Int.reduceLE, Int.reduceLT]
            rw [e0]
            simp only [hnear, hord, evS, tyS, Bool.not_true, Bool.not_false, Nat.reduceAdd, Nat.reduceSub, Nat.reduceMul, Nat.reduceLT, Nat.reduceLeDiff, Nat.reduceEqDiff, reduceCtorEq, List.reduceReplicate, Int.reduceToNat, Int.reduceLE, Int.reduceLT]
    · refine LoopK.intro (fun j : Nat => ⟨⟨124, [(0, .v (.int .u64 m)), (1, .v (.int .i64 x)), (10, .v (.float .f64 (realB m (x - (j : Nat))))), (11, .v (.int .i64 j))], γ⟩, []⟩) (fun j => (j : Int) ≤ x) (fun j => x.toNat - j) 0 ?_ (by omega) (fun j hj => ?_)
      · simp only [Int.sub_zero, Int.natCast_zero, evS, tyS, Bool.not_true, Bool.not_false, Nat.reduceAdd, Nat.reduceSub, Nat.reduceMul, Nat.reduceLT, Nat.reduceLeDiff, Nat.reduceEqDiff, reduceCtorEq, List.reduceReplicate, Int.reduceToNat, Int.reduceLE, Int.reduceLT]
        (repeat' (first | (with_reducible refine And.intro ?_ ?_) | ((first | refine GuardK.intro_f (fun h => ?_) (fun h => ?_) | refine GuardK.intro_t (fun h => ?_) (fun h => ?_) | refine CondK.intro (fun h => ?_) (fun h => ?_) | refine PickK.intro (fun h => ?_) (fun h => ?_)) <;> simp only [h, evS, tyS, Bool.not_true, Bool.not_false, Nat.reduceAdd, Nat.reduceSub, Nat.reduceMul, Nat.reduceLT, Nat.reduceLeDiff, Nat.reduceEqDiff, reduceCtorEq, List.reduceReplicate, Int.reduceToNat, Int.reduceLE, Int.reduceLT]) | (refine DrawK.intro (by kernel_rfl) (by kernel_rfl) ?_; simp only [evS, tyS, Bool.not_true, Bool.not_false, Nat.reduceAdd, Nat.reduceSub, Nat.reduceMul, Nat.reduceLT, Nat.reduceLeDiff, Nat.reduceEqDiff, reduceCtorEq, List.reduceReplicate, Int.reduceToNat, Int.reduceLE, Int.reduceLT])))
        all_goals first | done | rfl | exact .inl rfl | (simp; done) | trace_state
      · by_cases hj0 : (j : Int) < x
        · have dj : decide ((j : Int) < x) = true := decide_eq_true hj0
          have ew : IntKind.i64.wrap ((j : Int) + 1) = ((j + 1 : Nat) : Int) := by rw [i64w (by omega) (by omega)]; omega
          have hmj := hdiv (x - (j : Nat)) (by omega) (by omega)
          rw [show x - (j : Nat) - 1 = x - ((j + 1 : Nat) : Int) by omega] at hmj
          simp only [dj, ew, hmj, fltRes_some, evS, tyS, Bool.not_true, Bool.not_false, Nat.reduceAdd, Nat.reduceSub, Nat.reduceMul, Nat.reduceLT, Nat.reduceLeDiff, Nat.reduceEqDiff, reduceCtorEq, List.reduceReplicate, Int.reduceToNat, Int.reduceLE, Int.reduceLT]
          refine loopC.intro (j + 1) (by omega) ?_ (by omega)
          simp only [evS, tyS, Bool.not_true, Bool.not_false, Nat.reduceAdd, Nat.reduceSub, Nat.reduceMul, Nat.reduceLT, Nat.reduceLeDiff, Nat.reduceEqDiff, reduceCtorEq, List.reduceReplicate, Int.reduceToNat, Int.reduceLE, Int.reduceLT]
        · have dj : decide ((j : Int) < x) = false := decide_eq_false hj0
          have e0 : x - (j : Nat) = 0 := by omega
          have dx : decide (x < 0) = false := decide_eq_false (by omega)
          simp only [dj, evS, tyS, Bool.not_true, Bool.not_false, Nat.reduceAdd, Nat.reduceSub, Nat.reduceMul, Nat.reduceLT, Nat.reduceLeDiff, Nat.reduceEqDiff, reduceCtorEq, List.reduceReplicate, Int.reduceToNat, Int.reduceLE, Int.reduceLT]
          refine LoopK.intro (fun _ : Unit => ⟨⟨124, [(0, .v (.int .u64 m)), (10, .v (.float .f64 (realB m 0))), (12, .v (.int .i64 x))], γ⟩, []⟩) (fun _ => True) (fun _ => 0) () ?_ trivial (fun _ _ => ?_)
          · rw [e0]
            simp only [evS, tyS, Bool.not_true, Bool.not_false, Nat.reduceAdd, Nat.reduceSub, Nat.reduceMul, Nat.reduceLT, Nat.reduceLeDiff, Nat.reduceEqDiff, reduceCtorEq, List.reduceReplicate, Int.reduceToNat, Int.reduceLE, Int.reduceLT]
            (repeat' (first | (with_reducible refine And.intro ?_ ?_) | ((first | refine GuardK.intro_f (fun h => ?_) (fun h => ?_) | refine GuardK.intro_t (fun h => ?_) (fun h => ?_) | refine CondK.intro (fun h => ?_) (fun h => ?_) | refine PickK.intro (fun h => ?_) (fun h => ?_)) <;> simp only [h, evS, tyS, Bool.not_true, Bool.not_false, Nat.reduceAdd, Nat.reduceSub, Nat.reduceMul, Nat.reduceLT, Nat.reduceLeDiff, Nat.reduceEqDiff, reduceCtorEq, List.reduceReplicate, Int.reduceToNat, Int.reduceLE, Int.reduceLT]) | (refine DrawK.intro (by kernel_rfl) (by kernel_rfl) ?_; simp only [evS, tyS, Bool.not_true, Bool.not_false, Nat.reduceAdd, Nat.reduceSub, Nat.reduceMul, Nat.reduceLT, Nat.reduceLeDiff, Nat.reduceEqDiff, reduceCtorEq, List.reduceReplicate, Int.reduceToNat, Int.reduceLE, Int.reduceLT])))
            all_goals first | done | rfl | exact .inl rfl | trace_state
          · simp only [dx, hnear, hord, evS, tyS, Bool.not_true, Bool.not_false, Nat.reduceAdd, Nat.reduceSub, Nat.reduceMul, Nat.reduceLT, Nat.reduceLeDiff, Nat.reduceEqDiff, reduceCtorEq, List.reduceReplicate, Int.reduceToNat, Int.reduceLE, Int.reduceLT]
  · have d1 : decide (mayR m x) = false := decide_eq_false hR
    obtain ⟨rfl, rfl⟩ := hL2 hR
    have el : listA [] = .v (.slice none 0 0) := rfl
    have z12 : ((12 : Int) == 12) = true := by decide
    have z0 : ((0 : Int) == 0) = true := by decide
    have z00 : (((0 : Nat) : Int) == 0) = true := by decide
    simp only [realsS, d1, el, z12, z0, z00, evS, tyS, Bool.not_true, Bool.not_false, Nat.reduceAdd, Nat.reduceSub, Nat.reduceMul, Nat.reduceLT, Nat.reduceLeDiff, Nat.reduceEqDiff, reduceCtorEq, List.reduceReplicate, Int.reduceToNat, Int.reduceLE, Int.reduceLT]
    (repeat' (first | (with_reducible refine And.intro ?_ ?_) | ((first | refine GuardK.intro_f (fun h => ?_) (fun h => ?_) | refine GuardK.intro_t (fun h => ?_) (fun h => ?_) | refine CondK.intro (fun h => ?_) (fun h => ?_) | refine PickK.intro (fun h => ?_) (fun h => ?_)) <;> simp only [h, d1, z12, z0, z00, evS, tyS, Bool.not_true, Bool.not_false, Nat.reduceAdd, Nat.reduceSub, Nat.reduceMul, Nat.reduceLT, Nat.reduceLeDiff, Nat.reduceEqDiff, reduceCtorEq, List.reduceReplicate, Int.reduceToNat, Int.reduceLE, Int.reduceLT]) | (refine DrawK.intro (by kernel_rfl) (by kernel_rfl) ?_; simp only [d1, z12, z0, z00, evS, tyS, Bool.not_true, Bool.not_false, Nat.reduceAdd, Nat.reduceSub, Nat.reduceMul, Nat.reduceLT, Nat.reduceLeDiff, Nat.reduceEqDiff, reduceCtorEq, List.reduceReplicate, Int.reduceToNat, Int.reduceLE, Int.reduceLT])))
    all_goals first | done | rfl | trace_state
end Go.Proofs.YtplnhipgifcafaaDoor
/- LexReals: for every two numbers the law answers true: her row, and the card over it. -/
namespace Go.Proofs.YtplnhipgifcafaaDoor
set_option linter.all false
open Go Go.Ev Go.Lib
open Go.ChangeShapes Go.WideShapes Go.ChangeAt Go.RowKit
open Go.ChangeMaps (open_string shut_string)
namespace lexReals
set_option maxRecDepth 100000 in
theorem contract (H : Type) (enc : TypeId × Value → H) (W : World) (base : Nat) (args : Array Value) (ds gs : List (DataW H)) (before : List MemPlace)
    (hval : ∀ (j : Nat) t v, Tryd.f8.params[j]? = some t → args[j]? = some v → Value.okWide Tryd.prog W .any base t v)
    (hW : DataW.Whole enc Tryd.prog Tryd.f8.params.toList Rows.lexRealsSpec.vars false W args.toList ds gs before)
    (hsz : (DataW.weightsEach Tryd.prog (Tryd.f8.params.toList ++ Rows.lexRealsSpec.plain.varTypes Tryd.prog) (ds ++ gs)).all (· ≤ reachBytes) = true)
    (hL : laidMet Tryd.prog laidL W) (hS : W.ShapedOpen Tryd.prog) :
    Calls Tryd.prog 8 args W fun e W' => ∃ v, e = .returned v ∧ Rows.lexRealsSpec.post enc Tryd.prog Tryd.f8 false true false false W args v W' := by
  have hW' := hW
  obtain ⟨p, q, hA0, hV, rfl, hfz, hnd⟩ := hW
  have hA : DataW.TrodAll enc Tryd.prog W 0 (fun _ => true) true Tryd.f8.params.toList args.toList ds p := hA0
  rw [Tryd.params8] at hA hval hsz
  obtain ⟨v0, vs0, d0, ds0, p0, q0, hargs, rfl, rfl, h0, r0⟩ := trodAll_cons hA
  obtain ⟨v1, vs1, d1, ds1, p1, q1, rfl, rfl, rfl, h1, r1⟩ := trodAll_cons r0
  obtain ⟨rfl, rfl, rfl⟩ := trodAll_nil r1
  obtain rfl : args = #[v0, v1] := by cases args; simp_all
  obtain ⟨rfl, rfl⟩ := trodVars_none hV
  obtain ⟨a0, rfl, rfl, rfl, w0⟩ := open_int Tryd.underlying49 (hval 0 49 v0 rfl rfl) h0
  obtain ⟨a1, rfl, rfl, rfl, w1⟩ := open_int Tryd.underlying3 (hval 1 3 v1 rfl rfl) h1
  clear hA0 hsz
  obtain ⟨m, hm⟩ := maxLen_cell hS
  obtain ⟨te, pe, hpe⟩ := errRange_cell hL
  have b0 : 0 ≤ a0 ∧ a0 ≤ 18446744073709551615 := by simpa [Lit.wf, IntKind.min, IntKind.max, IntKind.signed, IntKind.bits] using w0
  have b1 : -9223372036854775808 ≤ a1 ∧ a1 ≤ 9223372036854775807 := by simpa [Lit.wf, IntKind.min, IntKind.max, IntKind.signed, IntKind.bits] using w1
  have hcalls : Calls Tryd.prog 8 #[.int .u64 a0, .int .i64 a1] W fun e w' => ∃ u, e = .returned u ∧ rel (.v (.bool true)) (cx0 Tryd.prog (fun _ => False) (fun _ => False) w') u ∧ Below W.heap.size W w' := by
    have e0 : ((a0.toNat : Nat) : Int) = a0 := by omega
    refine calls_of_ev (lexReals_ev (gam_gl m te pe) (gam_glw m te pe) a0.toNat a1 (by omega) (by omega) (by omega)) hm hpe ?_
    simp only [relL, rel]
    exact ⟨_, _, rfl, by rw [e0], _, _, rfl, rfl, rfl⟩
  refine hcalls.mono fun e W' ⟨u, he, hu, bel⟩ => ?_
  simp only [rel] at hu
  subst he
  subst hu
  exact ⟨_, rfl, _, _, _, [], _, [], hW', trodAll_mk1 (shut_bool Tryd.underlying4 _), (trodAll_cons_mk (shut_int Tryd.underlying49 w0) (trodAll_cons_mk (shut_int Tryd.underlying3 w1) trodAll_mk0)), rfl, bel.frame _, fun h => by cases h⟩
theorem witness_row (os : Os) {H : Type} (enc : TypeId × Value → H) : (OpenSpec.ofChange Rows.lexRealsSpec).preRow enc Tryd.prog Tryd.f8 Rows.lexRealsRow.domain false Rows.lexRealsRow.laid ((laidWorld os).forCall (fun _ _ => 0) ⟨#[], #[.int .u64 0, .int .i64 0], []⟩).memory #[.int .u64 0, .int .i64 0] := by
  have hw : ((DataW.whole enc Tryd.prog ((laidWorld os).forCall (fun _ _ => 0) ⟨#[], #[.int .u64 0, .int .i64 0], []⟩).memory Tryd.f8.params.toList Rows.lexRealsSpec.vars false #[Value.int .u64 0, .int .i64 0].toList 8).map (fun x => (x.1, x.2.1))).isSome = true := by kernel_rfl
  obtain ⟨x, hx⟩ := Option.isSome_iff_exists.1 hw
  obtain ⟨⟨x1, x2, x3⟩, hx', hx1⟩ := Option.map_eq_some_iff.1 hx
  exact OpenSpec.preRow_of_cond 8 hx' (by kernel_rfl) (fun k hk => by cases hk) (by kernel_rfl) (laid_met os _)
set_option maxRecDepth 100000 in
theorem lifted (os : Os) (started : os.Started) (H : Type) (enc : TypeId × Value → H) (F : Stop.Interp) :
    ReturnsInHanded {} Tryd.checked os 8 .any ((OpenSpec.ofChange Rows.lexRealsSpec).preRow enc Tryd.prog Tryd.f8 Rows.lexRealsRow.domain false Rows.lexRealsRow.laid) (((OpenSpec.ofChange Rows.lexRealsSpec).at F).post enc Tryd.prog Tryd.f8 false true false false) := by
  refine returnsInHanded_of_row (C := Tryd.checked) (s := OpenSpec.ofChange Rows.lexRealsSpec) own started (by kernel_rfl) Tryd.func8
    (witness_row_atRef (enc := enc) (C := Tryd.checked) false (laidWorld os) #[.int .u64 0, .int .i64 0] rfl (by kernel_rfl) (by kernel_rfl) (by kernel_rfl) (witness_row os enc)) ?_
  intro W base args ds gs before hval hW _ _ hsz hL hS _
  exact contract H enc W base args ds gs before hval hW hsz hL hS
theorem said : Rows.LexRealsSaid :=
  OpenClaim.holds_of_cond 8 Tryd.f8 rfl rfl rfl rfl rfl rfl rfl ⟨rfl, rfl, rfl, rfl, rfl⟩ rfl rfl rfl rfl rfl (by kernel_rfl) Tryd.func8 (by kernel_rfl)
    (of_decide_eq_true (by kernel_rfl)) (by unfold Func.isWrapper; first | (rw [if_pos (by decide +kernel)]; kernel_rfl) | (rw [if_neg (by decide +kernel)]; exact ⟨rfl, rfl⟩))
    (fun os started H enc _ F => by rw [OpenClaim.pre_eq_preRow]; exact lifted os started H enc F)
/-- No parameter wants a stand-in; the program's own looks are off: what the card asks. -/
theorem plain (f : FuncId) (fn : Func) (hf : Tryd.pinned.checked.prog.funcNamed "chordmail/chordmaillaw01.LexReals" = some f) (hfn : Tryd.pinned.checked.prog.funcs[f]? = some fn) :
    true = Tryd.pinned.checked.prog.looks [] ∧ ∀ (j : Nat) t, fn.params[j]? = some t → Tryd.pinned.checked.prog.wantsStandIn t = false := by
  obtain rfl : f = 8 := Option.some.inj ((show Tryd.prog.funcNamed "chordmail/chordmaillaw01.LexReals" = some 8 by kernel_rfl).symm.trans hf) |>.symm
  obtain rfl : fn = Tryd.f8 := (Option.some.inj (Tryd.func8.symm.trans hfn)).symm
  refine ⟨by kernel_rfl, fun j t ht => ?_⟩
  rw [Tryd.params8] at ht
  have hm : t = 49 ∨ t = 3 := by simpa using Array.mem_of_getElem? ht
  rcases hm with rfl | rfl
  · exact (show Tryd.prog.wantsStandIn 49 = false by kernel_rfl)
  · exact (show Tryd.prog.wantsStandIn 3 = false by kernel_rfl)
end lexReals
theorem lexReals_holds : Rows.LexRealsCardSaid :=
  Claim7.holds_tied_plain_at .later [] _ _ _ _ lexReals.said (fun _ h => by cases h) (by kernel_rfl) (fun _ h => by cases h) lexReals_row_tie rfl ⟨rfl, rfl⟩ (by kernel_rfl) rfl lexReals.plain (by kernel_rfl)
#print axioms lexReals_holds
end Go.Proofs.YtplnhipgifcafaaDoor
