/- Contracts of the functions that the law reaches. -/
import Derived.Test.YtlobiioioicmhaaGreatDoorQ4
/- value.unquoted: a text's text, read. -/
namespace Go.Proofs.YtlobiioioicmhaaGreatDoor
set_option linter.all false
open Go Go.Ev
set_option maxRecDepth 20000
variable {γ : List (Nat × AV)}
def hexE (a b : Int) : Int := IntKind.u8.wrap (IntKind.i64.wrap (((BitVec.ofInt IntKind.i64.bits (IntKind.i64.wrap (a * 2 ^ min 4 IntKind.i64.bits)) ||| BitVec.ofInt IntKind.i64.bits b).toNat : Nat) : Int))
theorem u8wrap_range (n : Int) : 0 ≤ IntKind.u8.wrap n ∧ IntKind.u8.wrap n < 256 := by
  show 0 ≤ n % 256 ∧ n % 256 < 256
  omega
def hexV (a b : Int) : UInt8 := UInt8.ofNat (hexE a b).toNat
theorem hexV_eq (a b : Int) : hexE a b = ((hexV a b).toNat : Int) := by
  have h := u8wrap_range (IntKind.i64.wrap (((BitVec.ofInt IntKind.i64.bits (IntKind.i64.wrap (a * 2 ^ min 4 IntKind.i64.bits)) ||| BitVec.ofInt IntKind.i64.bits b).toNat : Nat) : Int))
  have h' : 0 ≤ hexE a b ∧ hexE a b < 256 := h
  unfold hexV
  generalize hexE a b = n at h'
  rw [UInt8.toNat_ofNat_of_lt' (show n.toNat < 256 by omega)]
  omega
/-- The bytes that are meant; none: they cannot be read. -/
def unqN : Nat → List UInt8 → List UInt8 → Option (List UInt8)
  | 0, _, acc => some acc
  | f + 1, r, acc =>
    if r.length = 0 then some acc
    else if atL r 0 ≠ 92 then unqN f (r.drop 1) (acc ++ [r.getD 0 0])
    else if 4 ≤ r.length ∧ atL r 1 = 120 then
      if hexN (atL r 2) < 0 ∨ hexN (atL r 3) < 0 then none else unqN f (r.drop 4) (acc ++ [hexV (hexN (atL r 2)) (hexN (atL r 3))])
    else if 2 ≤ r.length then unqN f (r.drop 2) (acc ++ [r.getD 1 0])
    else none
theorem unqN_succ (f : Nat) (r acc : List UInt8) : unqN (f + 1) r acc =
    if r.length = 0 then some acc
    else if atL r 0 ≠ 92 then unqN f (r.drop 1) (acc ++ [r.getD 0 0])
    else if 4 ≤ r.length ∧ atL r 1 = 120 then
      if hexN (atL r 2) < 0 ∨ hexN (atL r 3) < 0 then none else unqN f (r.drop 4) (acc ++ [hexV (hexN (atL r 2)) (hexN (atL r 3))])
    else if 2 ≤ r.length then unqN f (r.drop 2) (acc ++ [r.getD 1 0])
    else none := rfl
def unqR : Option (List UInt8) → AV
  | none => .tup [.v (.string ⟨#[]⟩), .v (.bool false)]
  | some o => .tup [.v (.string ⟨o.toArray⟩), .v (.bool true)]
def unqS (γ : List (Nat × AV)) : List UInt8 × List UInt8 → St
  | (r, []) => ⟨⟨86, [(0, .v (.string ⟨r.toArray⟩)), (4, .v (.slice none 0 0))], γ⟩, []⟩
  | (r, a :: A) => ⟨⟨86, [(0, .v (.string ⟨r.toArray⟩)), (4, .own 1 A.length (A.length + 1))], γ⟩, [⟨0, 5, [byteC a]⟩, ⟨A.length, 5, (a :: A).map byteC⟩]⟩
theorem unqS_nil (r : List UInt8) : unqS γ (r, []) = ⟨⟨86, [(0, .v (.string ⟨r.toArray⟩)), (4, .v (.slice none 0 0))], γ⟩, []⟩ := rfl
theorem unqS_cons (r : List UInt8) (a : UInt8) (A : List UInt8) : unqS γ (r, a :: A) = ⟨⟨86, [(0, .v (.string ⟨r.toArray⟩)), (4, .own 1 A.length (A.length + 1))], γ⟩, [⟨0, 5, [byteC a]⟩, ⟨A.length, 5, (a :: A).map byteC⟩]⟩ := rfl
theorem unq_weak_nil (r' : List UInt8) (x : UInt8) (l : List (Nat × AV)) (h0 : Go.Ev.look l 0 = .v (.string ⟨r'.toArray⟩)) (h4 : Go.Ev.look l 4 = .own 1 0 1) :
    St.weak ⟨⟨86, l, γ⟩, [⟨0, 5, [.v (.int .u8 (x.toNat : Int))]⟩, ⟨0, 5, [.v (.int .u8 (x.toNat : Int))]⟩]⟩ (unqS γ (r', [] ++ [x])) := ⟨rfl, rfl, ⟨h0, h4, trivial⟩, .inl rfl⟩
theorem unq_weak_cons (r' : List UInt8) (a : UInt8) (A : List UInt8) (x : UInt8) (lit : ABlk) (l : List (Nat × AV)) (h0 : Go.Ev.look l 0 = .v (.string ⟨r'.toArray⟩)) (h4 : Go.Ev.look l 4 = .own 1 (A.length + 1) (A.length + 1 + 1)) :
    St.weak ⟨⟨86, l, γ⟩, [⟨0, 5, [byteC a]⟩, ⟨A.length + 1, 5, byteC a :: (A.map byteC ++ [.v (.int .u8 (x.toNat : Int))])⟩, lit]⟩ (unqS γ (r', a :: A ++ [x])) := by
  have e : a :: A ++ [x] = a :: (A ++ [x]) := rfl
  rw [e, unqS_cons]
  refine ⟨rfl, rfl, ⟨h0, ?_, trivial⟩, .inr ⟨?_, ?_, ?_⟩⟩
  · rw [List.length_append]; exact h4
  · simp [byteC]
  · simp [okRefL, okRef]
  · simp [okRefB, okRefL, okRef, okRefL_append, okRefL_map, byteC]
theorem b55 : bodyT Tryz.prog 96 := ⟨_, Tryz.func96, by kernel_rfl, by kernel_rfl⟩
def inner (l : List UInt8) : List UInt8 := (l.take (l.length - 1)).drop 1
def unqF (l : List UInt8) : Option (List UInt8) := if l.length < 2 ∨ atL l (l.length - 1) ≠ 34 ∨ 1026 < l.length then none else unqN (inner l).length (inner l) []
theorem strOf_own (a : UInt8) (A : List UInt8) : strOf (List.take (A.length + 1) ((a :: A).map byteC)) = some (.v (.string ⟨(a :: A).toArray⟩)) := by
  rw [List.take_of_length_le (by simp), strOf_map]
set_option maxHeartbeats 8000000 in
set_option maxRecDepth 20000 in
theorem unq_loop {c : Code} (hc : Tryz.f96.body.bind (pieceC [1, 1, 1, 1, 0, 2, 3]) = some c) {r0 : List UInt8} (hr : r0.length ≤ 1026) {Q : Post} {s : St}
    (hret : ∀ st, Q .ret st = endS Tryz.prog [.tmp 2, .tmp 3] (unqR (unqN r0.length r0 [])) .ret st)
    (hexit : ∀ acc, acc.length ≤ 1026 → unqN r0.length r0 [] = some acc → Q (.exit 0) ⟨⟨86, (30, .v (.bool false)) :: (29, .v (.int .i64 0)) :: (28, .v (.string ⟨#[]⟩)) :: (unqS γ ([], acc)).s.l, γ⟩, (unqS γ ([], acc)).h⟩)
    (hw : s.weak (unqS γ (r0, []))) : LoopK (kwp Tryz.prog c) Q s := by
  obtain rfl := Option.some.inj (hc.symm.trans rfl)
  clear hc
  refine LoopK.intro (unqS γ) (fun x => x.1.length ≤ 1026 ∧ x.2.length + x.1.length ≤ 1026 ∧ ∃ f, x.1.length ≤ f ∧ unqN f x.1 x.2 = unqN r0.length r0 []) (fun x => x.1.length) (r0, []) hw ⟨hr, by simp; omega, _, Nat.le_refl _, rfl⟩ ?_
  rintro ⟨r, acc⟩ ⟨hl, hl2, f, hf, hs⟩
  simp only at hl hl2 hf hs
  have ea : ∀ j, (r.getD j 0).toNat = atL r j := fun _ => rfl
  have tk : r.take r.length = r := List.take_length
  by_cases h0 : r.length = 0
  · have hs' : unqN r0.length r0 [] = some acc := by
      rw [← hs]
      cases f with
      | zero => rfl
      | succ f => unfold unqN; rw [if_pos h0]
    have hx := hexit acc (by omega) hs'
    have h0' : r = [] := List.length_eq_zero_iff.1 h0
    subst h0'
    have dz : decide ((0 : Int) < ((0 : Nat) : Int)) = false := by decide
    have dz2 : decide ((0 : Int) < 0) = false := by decide
    have dz3 : decide (0 < 0) = false := by decide
    cases acc with
    | nil =>
      unfold unqS at hx ⊢
      simp only [ea, dz, dz2, dz3, evS, tyS, Bool.not_true, Bool.not_false, Nat.reduceAdd, Nat.reduceSub, Nat.reduceMul, Nat.reduceLT, Nat.reduceLeDiff, Nat.reduceEqDiff, reduceCtorEq, List.reduceReplicate, Int.reduceToNat, Int.reduceLE, Int.reduceLT]
      all_goals first | exact hx | trace_state
    | cons a A =>
      unfold unqS at hx ⊢
      simp only [ea, dz, dz2, dz3, evS, tyS, Bool.not_true, Bool.not_false, Nat.reduceAdd, Nat.reduceSub, Nat.reduceMul, Nat.reduceLT, Nat.reduceLeDiff, Nat.reduceEqDiff, reduceCtorEq, List.reduceReplicate, Int.reduceToNat, Int.reduceLE, Int.reduceLT]
      all_goals first | exact hx | trace_state
  · have d1 : decide (0 < r.length) = true := decide_eq_true (by omega)
    have d2 : decide ((0 : Int) < (r.length : Int)) = true := decide_eq_true (by omega)
    obtain ⟨f, rfl⟩ : ∃ f', f = f' + 1 := ⟨f - 1, by omega⟩
    rw [unqN_succ, if_neg h0] at hs
    -- one more byte, k bytes on
    have grown : ∀ (k : Nat) (x : UInt8) (s2 : St), 1 ≤ k → k ≤ r.length → unqN f (r.drop k) (acc ++ [x]) = unqN r0.length r0 [] → s2.weak (unqS γ (r.drop k, acc ++ [x])) →
        loopC (RR (unqS γ) (fun x => x.1.length ≤ 1026 ∧ x.2.length + x.1.length ≤ 1026 ∧ ∃ f, x.1.length ≤ f ∧ unqN f x.1 x.2 = unqN r0.length r0 []) (fun x => x.1.length)) r.length s2 := fun k x s2 h1 h2 h3 h4 =>
      loopC.intro (r.drop k, acc ++ [x]) ⟨by simp; omega, by simp; omega, f, by simp; omega, h3⟩ h4 (by simp; omega)
    by_cases h92 : atL r 0 = 92
    · rw [if_neg (by simpa using h92)] at hs
      have z1 : ((atL r 0 : Int) == 92) = true := by rw [h92]; rfl
      by_cases h4 : 4 ≤ r.length ∧ atL r 1 = 120
      · rw [if_pos h4] at hs
        have d3 : decide (4 ≤ r.length) = true := decide_eq_true h4.1
        have d4 : decide ((4 : Int) ≤ (r.length : Int)) = true := decide_eq_true (by omega)
        have z2 : ((atL r 1 : Int) == 120) = true := by rw [h4.2]; rfl
        have k2 := hexIdx_ev (γ := γ) (r.getD 2 0)
        have k3 := hexIdx_ev (γ := γ) (r.getD 3 0)
        rw [ea] at k2 k3
        have hv := hexV_eq (hexN (atL r 2)) (hexN (atL r 3))
        unfold hexE at hv
        by_cases h5 : hexN (atL r 2) < 0 ∨ hexN (atL r 3) < 0
        · rw [if_pos h5] at hs
          have hs' : unqR (unqN r0.length r0 []) = .tup [.v (.string ⟨#[]⟩), .v (.bool false)] := by rw [← hs]; rfl
          by_cases h6 : hexN (atL r 2) < 0
          · have d5 : decide (hexN (atL r 2) < 0) = true := decide_eq_true h6
            cases acc with
            | nil =>
              simp only [unqS_nil, unqS_cons, ea, tk, d1, d2, hret, hs', z1, z2, d3, d4, d5, evS, tyS, Bool.not_true, Bool.not_false, Nat.reduceAdd, Nat.reduceSub, Nat.reduceMul, Nat.reduceLT, Nat.reduceLeDiff, Nat.reduceEqDiff, reduceCtorEq, List.reduceReplicate, Int.reduceToNat, Int.reduceLE, Int.reduceLT]
              (repeat' (first | (with_reducible refine And.intro ?_ ?_) | ((first | refine GuardK.intro_f (fun h => ?_) (fun h => ?_) | refine GuardK.intro_t (fun h => ?_) (fun h => ?_) | refine CondK.intro (fun h => ?_) (fun h => ?_) | refine PickK.intro (fun h => ?_) (fun h => ?_)) <;> simp only [h, ea, tk, d1, d2, hret, hs', z1, z2, d3, d4, d5, evS, tyS, Bool.not_true, Bool.not_false, Nat.reduceAdd, Nat.reduceSub, Nat.reduceMul, Nat.reduceLT, Nat.reduceLeDiff, Nat.reduceEqDiff, reduceCtorEq, List.reduceReplicate, Int.reduceToNat, Int.reduceLE, Int.reduceLT]) | (refine DrawK.intro (by kernel_rfl) (by kernel_rfl) ?_; simp only [ea, tk, d1, d2, hret, hs', z1, z2, d3, d4, d5, evS, tyS, Bool.not_true, Bool.not_false, Nat.reduceAdd, Nat.reduceSub, Nat.reduceMul, Nat.reduceLT, Nat.reduceLeDiff, Nat.reduceEqDiff, reduceCtorEq, List.reduceReplicate, Int.reduceToNat, Int.reduceLE, Int.reduceLT])))
              all_goals try (((try simp only [decide_eq_true_eq, decide_eq_false_iff_not, beq_iff_eq, bne_iff_ne, ne_eq, beq_eq_false_iff_ne, bne_eq_false_iff_eq] at *) <;> (try omega)); done)
              all_goals (refine CallK.intro b76 rfl k2 ?_; simp only [ea, tk, z1, z2, d3, d4, d5, hret, hs', evS, tyS, Bool.not_true, Bool.not_false, Nat.reduceAdd, Nat.reduceSub, Nat.reduceMul, Nat.reduceLT, Nat.reduceLeDiff, Nat.reduceEqDiff, reduceCtorEq, List.reduceReplicate, Int.reduceToNat, Int.reduceLE, Int.reduceLT]; (repeat' (first | (with_reducible refine And.intro ?_ ?_) | ((first | refine GuardK.intro_f (fun h => ?_) (fun h => ?_) | refine GuardK.intro_t (fun h => ?_) (fun h => ?_) | refine CondK.intro (fun h => ?_) (fun h => ?_) | refine PickK.intro (fun h => ?_) (fun h => ?_)) <;> simp only [h, ea, tk, z1, z2, d3, d4, d5, hret, hs', evS, tyS, Bool.not_true, Bool.not_false, Nat.reduceAdd, Nat.reduceSub, Nat.reduceMul, Nat.reduceLT, Nat.reduceLeDiff, Nat.reduceEqDiff, reduceCtorEq, List.reduceReplicate, Int.reduceToNat, Int.reduceLE, Int.reduceLT]) | (refine DrawK.intro (by kernel_rfl) (by kernel_rfl) ?_; simp only [ea, tk, z1, z2, d3, d4, d5, hret, hs', evS, tyS, Bool.not_true, Bool.not_false, Nat.reduceAdd, Nat.reduceSub, Nat.reduceMul, Nat.reduceLT, Nat.reduceLeDiff, Nat.reduceEqDiff, reduceCtorEq, List.reduceReplicate, Int.reduceToNat, Int.reduceLE, Int.reduceLT]))))
              all_goals try (((try simp only [decide_eq_true_eq, decide_eq_false_iff_not, beq_iff_eq, bne_iff_ne, ne_eq, beq_eq_false_iff_ne, bne_eq_false_iff_eq] at *) <;> (try omega)); done)
              all_goals (refine CallK.intro b76 rfl k3 ?_; simp only [ea, tk, z1, z2, d3, d4, d5, hret, hs', evS, tyS, Bool.not_true, Bool.not_false, Nat.reduceAdd, Nat.reduceSub, Nat.reduceMul, Nat.reduceLT, Nat.reduceLeDiff, Nat.reduceEqDiff, reduceCtorEq, List.reduceReplicate, Int.reduceToNat, Int.reduceLE, Int.reduceLT]; (repeat' (first | (with_reducible refine And.intro ?_ ?_) | ((first | refine GuardK.intro_f (fun h => ?_) (fun h => ?_) | refine GuardK.intro_t (fun h => ?_) (fun h => ?_) | refine CondK.intro (fun h => ?_) (fun h => ?_) | refine PickK.intro (fun h => ?_) (fun h => ?_)) <;> simp only [h, ea, tk, z1, z2, d3, d4, d5, hret, hs', evS, tyS, Bool.not_true, Bool.not_false, Nat.reduceAdd, Nat.reduceSub, Nat.reduceMul, Nat.reduceLT, Nat.reduceLeDiff, Nat.reduceEqDiff, reduceCtorEq, List.reduceReplicate, Int.reduceToNat, Int.reduceLE, Int.reduceLT]) | (refine DrawK.intro (by kernel_rfl) (by kernel_rfl) ?_; simp only [ea, tk, z1, z2, d3, d4, d5, hret, hs', evS, tyS, Bool.not_true, Bool.not_false, Nat.reduceAdd, Nat.reduceSub, Nat.reduceMul, Nat.reduceLT, Nat.reduceLeDiff, Nat.reduceEqDiff, reduceCtorEq, List.reduceReplicate, Int.reduceToNat, Int.reduceLE, Int.reduceLT]))))
              all_goals try (((try simp only [decide_eq_true_eq, decide_eq_false_iff_not, beq_iff_eq, bne_iff_ne, ne_eq, beq_eq_false_iff_ne, bne_eq_false_iff_eq] at *) <;> (try omega)); done)
              all_goals first | done | rfl | trace_state
            | cons a A =>
              simp only [unqS_nil, unqS_cons, ea, tk, d1, d2, hret, hs', z1, z2, d3, d4, d5, evS, tyS, Bool.not_true, Bool.not_false, Nat.reduceAdd, Nat.reduceSub, Nat.reduceMul, Nat.reduceLT, Nat.reduceLeDiff, Nat.reduceEqDiff, reduceCtorEq, List.reduceReplicate, Int.reduceToNat, Int.reduceLE, Int.reduceLT]
              (repeat' (first | (with_reducible refine And.intro ?_ ?_) | ((first | refine GuardK.intro_f (fun h => ?_) (fun h => ?_) | refine GuardK.intro_t (fun h => ?_) (fun h => ?_) | refine CondK.intro (fun h => ?_) (fun h => ?_) | refine PickK.intro (fun h => ?_) (fun h => ?_)) <;> simp only [h, ea, tk, d1, d2, hret, hs', z1, z2, d3, d4, d5, evS, tyS, Bool.not_true, Bool.not_false, Nat.reduceAdd, Nat.reduceSub, Nat.reduceMul, Nat.reduceLT, Nat.reduceLeDiff, Nat.reduceEqDiff, reduceCtorEq, List.reduceReplicate, Int.reduceToNat, Int.reduceLE, Int.reduceLT]) | (refine DrawK.intro (by kernel_rfl) (by kernel_rfl) ?_; simp only [ea, tk, d1, d2, hret, hs', z1, z2, d3, d4, d5, evS, tyS, Bool.not_true, Bool.not_false, Nat.reduceAdd, Nat.reduceSub, Nat.reduceMul, Nat.reduceLT, Nat.reduceLeDiff, Nat.reduceEqDiff, reduceCtorEq, List.reduceReplicate, Int.reduceToNat, Int.reduceLE, Int.reduceLT])))
              all_goals try (((try simp only [decide_eq_true_eq, decide_eq_false_iff_not, beq_iff_eq, bne_iff_ne, ne_eq, beq_eq_false_iff_ne, bne_eq_false_iff_eq] at *) <;> (try omega)); done)
              all_goals (refine CallK.intro b76 rfl k2 ?_; simp only [ea, tk, z1, z2, d3, d4, d5, hret, hs', evS, tyS, Bool.not_true, Bool.not_false, Nat.reduceAdd, Nat.reduceSub, Nat.reduceMul, Nat.reduceLT, Nat.reduceLeDiff, Nat.reduceEqDiff, reduceCtorEq, List.reduceReplicate, Int.reduceToNat, Int.reduceLE, Int.reduceLT]; (repeat' (first | (with_reducible refine And.intro ?_ ?_) | ((first | refine GuardK.intro_f (fun h => ?_) (fun h => ?_) | refine GuardK.intro_t (fun h => ?_) (fun h => ?_) | refine CondK.intro (fun h => ?_) (fun h => ?_) | refine PickK.intro (fun h => ?_) (fun h => ?_)) <;> simp only [h, ea, tk, z1, z2, d3, d4, d5, hret, hs', evS, tyS, Bool.not_true, Bool.not_false, Nat.reduceAdd, Nat.reduceSub, Nat.reduceMul, Nat.reduceLT, Nat.reduceLeDiff, Nat.reduceEqDiff, reduceCtorEq, List.reduceReplicate, Int.reduceToNat, Int.reduceLE, Int.reduceLT]) | (refine DrawK.intro (by kernel_rfl) (by kernel_rfl) ?_; simp only [ea, tk, z1, z2, d3, d4, d5, hret, hs', evS, tyS, Bool.not_true, Bool.not_false, Nat.reduceAdd, Nat.reduceSub, Nat.reduceMul, Nat.reduceLT, Nat.reduceLeDiff, Nat.reduceEqDiff, reduceCtorEq, List.reduceReplicate, Int.reduceToNat, Int.reduceLE, Int.reduceLT]))))
              all_goals try (((try simp only [decide_eq_true_eq, decide_eq_false_iff_not, beq_iff_eq, bne_iff_ne, ne_eq, beq_eq_false_iff_ne, bne_eq_false_iff_eq] at *) <;> (try omega)); done)
              all_goals (refine CallK.intro b76 rfl k3 ?_; simp only [ea, tk, z1, z2, d3, d4, d5, hret, hs', evS, tyS, Bool.not_true, Bool.not_false, Nat.reduceAdd, Nat.reduceSub, Nat.reduceMul, Nat.reduceLT, Nat.reduceLeDiff, Nat.reduceEqDiff, reduceCtorEq, List.reduceReplicate, Int.reduceToNat, Int.reduceLE, Int.reduceLT]; (repeat' (first | (with_reducible refine And.intro ?_ ?_) | ((first | refine GuardK.intro_f (fun h => ?_) (fun h => ?_) | refine GuardK.intro_t (fun h => ?_) (fun h => ?_) | refine CondK.intro (fun h => ?_) (fun h => ?_) | refine PickK.intro (fun h => ?_) (fun h => ?_)) <;> simp only [h, ea, tk, z1, z2, d3, d4, d5, hret, hs', evS, tyS, Bool.not_true, Bool.not_false, Nat.reduceAdd, Nat.reduceSub, Nat.reduceMul, Nat.reduceLT, Nat.reduceLeDiff, Nat.reduceEqDiff, reduceCtorEq, List.reduceReplicate, Int.reduceToNat, Int.reduceLE, Int.reduceLT]) | (refine DrawK.intro (by kernel_rfl) (by kernel_rfl) ?_; simp only [ea, tk, z1, z2, d3, d4, d5, hret, hs', evS, tyS, Bool.not_true, Bool.not_false, Nat.reduceAdd, Nat.reduceSub, Nat.reduceMul, Nat.reduceLT, Nat.reduceLeDiff, Nat.reduceEqDiff, reduceCtorEq, List.reduceReplicate, Int.reduceToNat, Int.reduceLE, Int.reduceLT]))))
              all_goals try (((try simp only [decide_eq_true_eq, decide_eq_false_iff_not, beq_iff_eq, bne_iff_ne, ne_eq, beq_eq_false_iff_ne, bne_eq_false_iff_eq] at *) <;> (try omega)); done)
              all_goals first | done | rfl | trace_state
          · have d5 : decide (hexN (atL r 2) < 0) = false := decide_eq_false h6
            have d6 : decide (hexN (atL r 3) < 0) = true := decide_eq_true (by omega)
            cases acc with
            | nil =>
              simp only [unqS_nil, unqS_cons, ea, tk, d1, d2, hret, hs', z1, z2, d3, d4, d5, d6, evS, tyS, Bool.not_true, Bool.not_false, Nat.reduceAdd, Nat.reduceSub, Nat.reduceMul, Nat.reduceLT, Nat.reduceLeDiff, Nat.reduceEqDiff, reduceCtorEq, List.reduceReplicate, Int.reduceToNat, Int.reduceLE, Int.reduceLT]
              (repeat' (first | (with_reducible refine And.intro ?_ ?_) | ((first | refine GuardK.intro_f (fun h => ?_) (fun h => ?_) | refine GuardK.intro_t (fun h => ?_) (fun h => ?_) | refine CondK.intro (fun h => ?_) (fun h => ?_) | refine PickK.intro (fun h => ?_) (fun h => ?_)) <;> simp only [h, ea, tk, d1, d2, hret, hs', z1, z2, d3, d4, d5, d6, evS, tyS, Bool.not_true, Bool.not_false, Nat.reduceAdd, Nat.reduceSub, Nat.reduceMul, Nat.reduceLT, Nat.reduceLeDiff, Nat.reduceEqDiff, reduceCtorEq, List.reduceReplicate, Int.reduceToNat, Int.reduceLE, Int.reduceLT]) | (refine DrawK.intro (by kernel_rfl) (by kernel_rfl) ?_; simp only [ea, tk, d1, d2, hret, hs', z1, z2, d3, d4, d5, d6, evS, tyS, Bool.not_true, Bool.not_false, Nat.reduceAdd, Nat.reduceSub, Nat.reduceMul, Nat.reduceLT, Nat.reduceLeDiff, Nat.reduceEqDiff, reduceCtorEq, List.reduceReplicate, Int.reduceToNat, Int.reduceLE, Int.reduceLT])))
              all_goals try (((try simp only [decide_eq_true_eq, decide_eq_false_iff_not, beq_iff_eq, bne_iff_ne, ne_eq, beq_eq_false_iff_ne, bne_eq_false_iff_eq] at *) <;> (try omega)); done)
              all_goals (refine CallK.intro b76 rfl k2 ?_; simp only [ea, tk, z1, z2, d3, d4, d5, d6, hret, hs', evS, tyS, Bool.not_true, Bool.not_false, Nat.reduceAdd, Nat.reduceSub, Nat.reduceMul, Nat.reduceLT, Nat.reduceLeDiff, Nat.reduceEqDiff, reduceCtorEq, List.reduceReplicate, Int.reduceToNat, Int.reduceLE, Int.reduceLT]; (repeat' (first | (with_reducible refine And.intro ?_ ?_) | ((first | refine GuardK.intro_f (fun h => ?_) (fun h => ?_) | refine GuardK.intro_t (fun h => ?_) (fun h => ?_) | refine CondK.intro (fun h => ?_) (fun h => ?_) | refine PickK.intro (fun h => ?_) (fun h => ?_)) <;> simp only [h, ea, tk, z1, z2, d3, d4, d5, d6, hret, hs', evS, tyS, Bool.not_true, Bool.not_false, Nat.reduceAdd, Nat.reduceSub, Nat.reduceMul, Nat.reduceLT, Nat.reduceLeDiff, Nat.reduceEqDiff, reduceCtorEq, List.reduceReplicate, Int.reduceToNat, Int.reduceLE, Int.reduceLT]) | (refine DrawK.intro (by kernel_rfl) (by kernel_rfl) ?_; simp only [ea, tk, z1, z2, d3, d4, d5, d6, hret, hs', evS, tyS, Bool.not_true, Bool.not_false, Nat.reduceAdd, Nat.reduceSub, Nat.reduceMul, Nat.reduceLT, Nat.reduceLeDiff, Nat.reduceEqDiff, reduceCtorEq, List.reduceReplicate, Int.reduceToNat, Int.reduceLE, Int.reduceLT]))))
              all_goals try (((try simp only [decide_eq_true_eq, decide_eq_false_iff_not, beq_iff_eq, bne_iff_ne, ne_eq, beq_eq_false_iff_ne, bne_eq_false_iff_eq] at *) <;> (try omega)); done)
              all_goals (refine CallK.intro b76 rfl k3 ?_; simp only [ea, tk, z1, z2, d3, d4, d5, d6, hret, hs', evS, tyS, Bool.not_true, Bool.not_false, Nat.reduceAdd, Nat.reduceSub, Nat.reduceMul, Nat.reduceLT, Nat.reduceLeDiff, Nat.reduceEqDiff, reduceCtorEq, List.reduceReplicate, Int.reduceToNat, Int.reduceLE, Int.reduceLT]; (repeat' (first | (with_reducible refine And.intro ?_ ?_) | ((first | refine GuardK.intro_f (fun h => ?_) (fun h => ?_) | refine GuardK.intro_t (fun h => ?_) (fun h => ?_) | refine CondK.intro (fun h => ?_) (fun h => ?_) | refine PickK.intro (fun h => ?_) (fun h => ?_)) <;> simp only [h, ea, tk, z1, z2, d3, d4, d5, d6, hret, hs', evS, tyS, Bool.not_true, Bool.not_false, Nat.reduceAdd, Nat.reduceSub, Nat.reduceMul, Nat.reduceLT, Nat.reduceLeDiff, Nat.reduceEqDiff, reduceCtorEq, List.reduceReplicate, Int.reduceToNat, Int.reduceLE, Int.reduceLT]) | (refine DrawK.intro (by kernel_rfl) (by kernel_rfl) ?_; simp only [ea, tk, z1, z2, d3, d4, d5, d6, hret, hs', evS, tyS, Bool.not_true, Bool.not_false, Nat.reduceAdd, Nat.reduceSub, Nat.reduceMul, Nat.reduceLT, Nat.reduceLeDiff, Nat.reduceEqDiff, reduceCtorEq, List.reduceReplicate, Int.reduceToNat, Int.reduceLE, Int.reduceLT]))))
              all_goals try (((try simp only [decide_eq_true_eq, decide_eq_false_iff_not, beq_iff_eq, bne_iff_ne, ne_eq, beq_eq_false_iff_ne, bne_eq_false_iff_eq] at *) <;> (try omega)); done)
              all_goals first | done | rfl | trace_state
            | cons a A =>
              simp only [unqS_nil, unqS_cons, ea, tk, d1, d2, hret, hs', z1, z2, d3, d4, d5, d6, evS, tyS, Bool.not_true, Bool.not_false, Nat.reduceAdd, Nat.reduceSub, Nat.reduceMul, Nat.reduceLT, Nat.reduceLeDiff, Nat.reduceEqDiff, reduceCtorEq, List.reduceReplicate, Int.reduceToNat, Int.reduceLE, Int.reduceLT]
              (repeat' (first | (with_reducible refine And.intro ?_ ?_) | ((first | refine GuardK.intro_f (fun h => ?_) (fun h => ?_) | refine GuardK.intro_t (fun h => ?_) (fun h => ?_) | refine CondK.intro (fun h => ?_) (fun h => ?_) | refine PickK.intro (fun h => ?_) (fun h => ?_)) <;> simp only [h, ea, tk, d1, d2, hret, hs', z1, z2, d3, d4, d5, d6, evS, tyS, Bool.not_true, Bool.not_false, Nat.reduceAdd, Nat.reduceSub, Nat.reduceMul, Nat.reduceLT, Nat.reduceLeDiff, Nat.reduceEqDiff, reduceCtorEq, List.reduceReplicate, Int.reduceToNat, Int.reduceLE, Int.reduceLT]) | (refine DrawK.intro (by kernel_rfl) (by kernel_rfl) ?_; simp only [ea, tk, d1, d2, hret, hs', z1, z2, d3, d4, d5, d6, evS, tyS, Bool.not_true, Bool.not_false, Nat.reduceAdd, Nat.reduceSub, Nat.reduceMul, Nat.reduceLT, Nat.reduceLeDiff, Nat.reduceEqDiff, reduceCtorEq, List.reduceReplicate, Int.reduceToNat, Int.reduceLE, Int.reduceLT])))
              all_goals try (((try simp only [decide_eq_true_eq, decide_eq_false_iff_not, beq_iff_eq, bne_iff_ne, ne_eq, beq_eq_false_iff_ne, bne_eq_false_iff_eq] at *) <;> (try omega)); done)
              all_goals (refine CallK.intro b76 rfl k2 ?_; simp only [ea, tk, z1, z2, d3, d4, d5, d6, hret, hs', evS, tyS, Bool.not_true, Bool.not_false, Nat.reduceAdd, Nat.reduceSub, Nat.reduceMul, Nat.reduceLT, Nat.reduceLeDiff, Nat.reduceEqDiff, reduceCtorEq, List.reduceReplicate, Int.reduceToNat, Int.reduceLE, Int.reduceLT]; (repeat' (first | (with_reducible refine And.intro ?_ ?_) | ((first | refine GuardK.intro_f (fun h => ?_) (fun h => ?_) | refine GuardK.intro_t (fun h => ?_) (fun h => ?_) | refine CondK.intro (fun h => ?_) (fun h => ?_) | refine PickK.intro (fun h => ?_) (fun h => ?_)) <;> simp only [h, ea, tk, z1, z2, d3, d4, d5, d6, hret, hs', evS, tyS, Bool.not_true, Bool.not_false, Nat.reduceAdd, Nat.reduceSub, Nat.reduceMul, Nat.reduceLT, Nat.reduceLeDiff, Nat.reduceEqDiff, reduceCtorEq, List.reduceReplicate, Int.reduceToNat, Int.reduceLE, Int.reduceLT]) | (refine DrawK.intro (by kernel_rfl) (by kernel_rfl) ?_; simp only [ea, tk, z1, z2, d3, d4, d5, d6, hret, hs', evS, tyS, Bool.not_true, Bool.not_false, Nat.reduceAdd, Nat.reduceSub, Nat.reduceMul, Nat.reduceLT, Nat.reduceLeDiff, Nat.reduceEqDiff, reduceCtorEq, List.reduceReplicate, Int.reduceToNat, Int.reduceLE, Int.reduceLT]))))
              all_goals try (((try simp only [decide_eq_true_eq, decide_eq_false_iff_not, beq_iff_eq, bne_iff_ne, ne_eq, beq_eq_false_iff_ne, bne_eq_false_iff_eq] at *) <;> (try omega)); done)
              all_goals (refine CallK.intro b76 rfl k3 ?_; simp only [ea, tk, z1, z2, d3, d4, d5, d6, hret, hs', evS, tyS, Bool.not_true, Bool.not_false, Nat.reduceAdd, Nat.reduceSub, Nat.reduceMul, Nat.reduceLT, Nat.reduceLeDiff, Nat.reduceEqDiff, reduceCtorEq, List.reduceReplicate, Int.reduceToNat, Int.reduceLE, Int.reduceLT]; (repeat' (first | (with_reducible refine And.intro ?_ ?_) | ((first | refine GuardK.intro_f (fun h => ?_) (fun h => ?_) | refine GuardK.intro_t (fun h => ?_) (fun h => ?_) | refine CondK.intro (fun h => ?_) (fun h => ?_) | refine PickK.intro (fun h => ?_) (fun h => ?_)) <;> simp only [h, ea, tk, z1, z2, d3, d4, d5, d6, hret, hs', evS, tyS, Bool.not_true, Bool.not_false, Nat.reduceAdd, Nat.reduceSub, Nat.reduceMul, Nat.reduceLT, Nat.reduceLeDiff, Nat.reduceEqDiff, reduceCtorEq, List.reduceReplicate, Int.reduceToNat, Int.reduceLE, Int.reduceLT]) | (refine DrawK.intro (by kernel_rfl) (by kernel_rfl) ?_; simp only [ea, tk, z1, z2, d3, d4, d5, d6, hret, hs', evS, tyS, Bool.not_true, Bool.not_false, Nat.reduceAdd, Nat.reduceSub, Nat.reduceMul, Nat.reduceLT, Nat.reduceLeDiff, Nat.reduceEqDiff, reduceCtorEq, List.reduceReplicate, Int.reduceToNat, Int.reduceLE, Int.reduceLT]))))
              all_goals try (((try simp only [decide_eq_true_eq, decide_eq_false_iff_not, beq_iff_eq, bne_iff_ne, ne_eq, beq_eq_false_iff_ne, bne_eq_false_iff_eq] at *) <;> (try omega)); done)
              all_goals first | done | rfl | trace_state
        · rw [if_neg h5] at hs
          have d5 : decide (hexN (atL r 2) < 0) = false := decide_eq_false (by omega)
          have d6 : decide (hexN (atL r 3) < 0) = false := decide_eq_false (by omega)
          cases acc with
          | nil =>
            simp only [unqS_nil, unqS_cons, ea, tk, d1, d2, z1, z2, d3, d4, d5, d6, hv, evS, tyS, Bool.not_true, Bool.not_false, Nat.reduceAdd, Nat.reduceSub, Nat.reduceMul, Nat.reduceLT, Nat.reduceLeDiff, Nat.reduceEqDiff, reduceCtorEq, List.reduceReplicate, Int.reduceToNat, Int.reduceLE, Int.reduceLT]
            (repeat' (first | (with_reducible refine And.intro ?_ ?_) | ((first | refine GuardK.intro_f (fun h => ?_) (fun h => ?_) | refine GuardK.intro_t (fun h => ?_) (fun h => ?_) | refine CondK.intro (fun h => ?_) (fun h => ?_) | refine PickK.intro (fun h => ?_) (fun h => ?_)) <;> simp only [h, ea, tk, d1, d2, z1, z2, d3, d4, d5, d6, hv, evS, tyS, Bool.not_true, Bool.not_false, Nat.reduceAdd, Nat.reduceSub, Nat.reduceMul, Nat.reduceLT, Nat.reduceLeDiff, Nat.reduceEqDiff, reduceCtorEq, List.reduceReplicate, Int.reduceToNat, Int.reduceLE, Int.reduceLT]) | (refine DrawK.intro (by kernel_rfl) (by kernel_rfl) ?_; simp only [ea, tk, d1, d2, z1, z2, d3, d4, d5, d6, hv, evS, tyS, Bool.not_true, Bool.not_false, Nat.reduceAdd, Nat.reduceSub, Nat.reduceMul, Nat.reduceLT, Nat.reduceLeDiff, Nat.reduceEqDiff, reduceCtorEq, List.reduceReplicate, Int.reduceToNat, Int.reduceLE, Int.reduceLT])))
            all_goals try (((try simp only [decide_eq_true_eq, decide_eq_false_iff_not, beq_iff_eq, bne_iff_ne, ne_eq, beq_eq_false_iff_ne, bne_eq_false_iff_eq] at *) <;> (try omega)); done)
            all_goals try (simp only [List.length_cons] at *; omega)
            all_goals (refine CallK.intro b76 rfl k2 ?_; simp only [ea, tk, z1, z2, d3, d4, d5, d6, hv, evS, tyS, Bool.not_true, Bool.not_false, Nat.reduceAdd, Nat.reduceSub, Nat.reduceMul, Nat.reduceLT, Nat.reduceLeDiff, Nat.reduceEqDiff, reduceCtorEq, List.reduceReplicate, Int.reduceToNat, Int.reduceLE, Int.reduceLT]; (repeat' (first | (with_reducible refine And.intro ?_ ?_) | ((first | refine GuardK.intro_f (fun h => ?_) (fun h => ?_) | refine GuardK.intro_t (fun h => ?_) (fun h => ?_) | refine CondK.intro (fun h => ?_) (fun h => ?_) | refine PickK.intro (fun h => ?_) (fun h => ?_)) <;> simp only [h, ea, tk, z1, z2, d3, d4, d5, d6, hv, evS, tyS, Bool.not_true, Bool.not_false, Nat.reduceAdd, Nat.reduceSub, Nat.reduceMul, Nat.reduceLT, Nat.reduceLeDiff, Nat.reduceEqDiff, reduceCtorEq, List.reduceReplicate, Int.reduceToNat, Int.reduceLE, Int.reduceLT]) | (refine DrawK.intro (by kernel_rfl) (by kernel_rfl) ?_; simp only [ea, tk, z1, z2, d3, d4, d5, d6, hv, evS, tyS, Bool.not_true, Bool.not_false, Nat.reduceAdd, Nat.reduceSub, Nat.reduceMul, Nat.reduceLT, Nat.reduceLeDiff, Nat.reduceEqDiff, reduceCtorEq, List.reduceReplicate, Int.reduceToNat, Int.reduceLE, Int.reduceLT]))))
            all_goals try (((try simp only [decide_eq_true_eq, decide_eq_false_iff_not, beq_iff_eq, bne_iff_ne, ne_eq, beq_eq_false_iff_ne, bne_eq_false_iff_eq] at *) <;> (try omega)); done)
            all_goals (refine CallK.intro b76 rfl k3 ?_; simp only [ea, tk, z1, z2, d3, d4, d5, d6, hv, evS, tyS, Bool.not_true, Bool.not_false, Nat.reduceAdd, Nat.reduceSub, Nat.reduceMul, Nat.reduceLT, Nat.reduceLeDiff, Nat.reduceEqDiff, reduceCtorEq, List.reduceReplicate, Int.reduceToNat, Int.reduceLE, Int.reduceLT]; (repeat' (first | (with_reducible refine And.intro ?_ ?_) | ((first | refine GuardK.intro_f (fun h => ?_) (fun h => ?_) | refine GuardK.intro_t (fun h => ?_) (fun h => ?_) | refine CondK.intro (fun h => ?_) (fun h => ?_) | refine PickK.intro (fun h => ?_) (fun h => ?_)) <;> simp only [h, ea, tk, z1, z2, d3, d4, d5, d6, hv, evS, tyS, Bool.not_true, Bool.not_false, Nat.reduceAdd, Nat.reduceSub, Nat.reduceMul, Nat.reduceLT, Nat.reduceLeDiff, Nat.reduceEqDiff, reduceCtorEq, List.reduceReplicate, Int.reduceToNat, Int.reduceLE, Int.reduceLT]) | (refine DrawK.intro (by kernel_rfl) (by kernel_rfl) ?_; simp only [ea, tk, z1, z2, d3, d4, d5, d6, hv, evS, tyS, Bool.not_true, Bool.not_false, Nat.reduceAdd, Nat.reduceSub, Nat.reduceMul, Nat.reduceLT, Nat.reduceLeDiff, Nat.reduceEqDiff, reduceCtorEq, List.reduceReplicate, Int.reduceToNat, Int.reduceLE, Int.reduceLT]))))
            all_goals try (((try simp only [decide_eq_true_eq, decide_eq_false_iff_not, beq_iff_eq, bne_iff_ne, ne_eq, beq_eq_false_iff_ne, bne_eq_false_iff_eq] at *) <;> (try omega)); done)
            all_goals try (simp only [List.length_cons] at *; omega)
            all_goals exact grown 4 (hexV (hexN (atL r 2)) (hexN (atL r 3))) _ (by omega) (by omega) hs (unq_weak_nil _ _ _ rfl rfl)
          | cons a A =>
            simp only [unqS_nil, unqS_cons, ea, tk, d1, d2, z1, z2, d3, d4, d5, d6, hv, evS, tyS, Bool.not_true, Bool.not_false, Nat.reduceAdd, Nat.reduceSub, Nat.reduceMul, Nat.reduceLT, Nat.reduceLeDiff, Nat.reduceEqDiff, reduceCtorEq, List.reduceReplicate, Int.reduceToNat, Int.reduceLE, Int.reduceLT]
            (repeat' (first | (with_reducible refine And.intro ?_ ?_) | ((first | refine GuardK.intro_f (fun h => ?_) (fun h => ?_) | refine GuardK.intro_t (fun h => ?_) (fun h => ?_) | refine CondK.intro (fun h => ?_) (fun h => ?_) | refine PickK.intro (fun h => ?_) (fun h => ?_)) <;> simp only [h, ea, tk, d1, d2, z1, z2, d3, d4, d5, d6, hv, evS, tyS, Bool.not_true, Bool.not_false, Nat.reduceAdd, Nat.reduceSub, Nat.reduceMul, Nat.reduceLT, Nat.reduceLeDiff, Nat.reduceEqDiff, reduceCtorEq, List.reduceReplicate, Int.reduceToNat, Int.reduceLE, Int.reduceLT]) | (refine DrawK.intro (by kernel_rfl) (by kernel_rfl) ?_; simp only [ea, tk, d1, d2, z1, z2, d3, d4, d5, d6, hv, evS, tyS, Bool.not_true, Bool.not_false, Nat.reduceAdd, Nat.reduceSub, Nat.reduceMul, Nat.reduceLT, Nat.reduceLeDiff, Nat.reduceEqDiff, reduceCtorEq, List.reduceReplicate, Int.reduceToNat, Int.reduceLE, Int.reduceLT])))
            all_goals try (((try simp only [decide_eq_true_eq, decide_eq_false_iff_not, beq_iff_eq, bne_iff_ne, ne_eq, beq_eq_false_iff_ne, bne_eq_false_iff_eq] at *) <;> (try omega)); done)
            all_goals try (simp only [List.length_cons] at *; omega)
            all_goals (refine CallK.intro b76 rfl k2 ?_; simp only [ea, tk, z1, z2, d3, d4, d5, d6, hv, evS, tyS, Bool.not_true, Bool.not_false, Nat.reduceAdd, Nat.reduceSub, Nat.reduceMul, Nat.reduceLT, Nat.reduceLeDiff, Nat.reduceEqDiff, reduceCtorEq, List.reduceReplicate, Int.reduceToNat, Int.reduceLE, Int.reduceLT]; (repeat' (first | (with_reducible refine And.intro ?_ ?_) | ((first | refine GuardK.intro_f (fun h => ?_) (fun h => ?_) | refine GuardK.intro_t (fun h => ?_) (fun h => ?_) | refine CondK.intro (fun h => ?_) (fun h => ?_) | refine PickK.intro (fun h => ?_) (fun h => ?_)) <;> simp only [h, ea, tk, z1, z2, d3, d4, d5, d6, hv, evS, tyS, Bool.not_true, Bool.not_false, Nat.reduceAdd, Nat.reduceSub, Nat.reduceMul, Nat.reduceLT, Nat.reduceLeDiff, Nat.reduceEqDiff, reduceCtorEq, List.reduceReplicate, Int.reduceToNat, Int.reduceLE, Int.reduceLT]) | (refine DrawK.intro (by kernel_rfl) (by kernel_rfl) ?_; simp only [ea, tk, z1, z2, d3, d4, d5, d6, hv, evS, tyS, Bool.not_true, Bool.not_false, Nat.reduceAdd, Nat.reduceSub, Nat.reduceMul, Nat.reduceLT, Nat.reduceLeDiff, Nat.reduceEqDiff, reduceCtorEq, List.reduceReplicate, Int.reduceToNat, Int.reduceLE, Int.reduceLT]))))
            all_goals try (((try simp only [decide_eq_true_eq, decide_eq_false_iff_not, beq_iff_eq, bne_iff_ne, ne_eq, beq_eq_false_iff_ne, bne_eq_false_iff_eq] at *) <;> (try omega)); done)
            all_goals (refine CallK.intro b76 rfl k3 ?_; simp only [ea, tk, z1, z2, d3, d4, d5, d6, hv, evS, tyS, Bool.not_true, Bool.not_false, Nat.reduceAdd, Nat.reduceSub, Nat.reduceMul, Nat.reduceLT, Nat.reduceLeDiff, Nat.reduceEqDiff, reduceCtorEq, List.reduceReplicate, Int.reduceToNat, Int.reduceLE, Int.reduceLT]; (repeat' (first | (with_reducible refine And.intro ?_ ?_) | ((first | refine GuardK.intro_f (fun h => ?_) (fun h => ?_) | refine GuardK.intro_t (fun h => ?_) (fun h => ?_) | refine CondK.intro (fun h => ?_) (fun h => ?_) | refine PickK.intro (fun h => ?_) (fun h => ?_)) <;> simp only [h, ea, tk, z1, z2, d3, d4, d5, d6, hv, evS, tyS, Bool.not_true, Bool.not_false, Nat.reduceAdd, Nat.reduceSub, Nat.reduceMul, Nat.reduceLT, Nat.reduceLeDiff, Nat.reduceEqDiff, reduceCtorEq, List.reduceReplicate, Int.reduceToNat, Int.reduceLE, Int.reduceLT]) | (refine DrawK.intro (by kernel_rfl) (by kernel_rfl) ?_; simp only [ea, tk, z1, z2, d3, d4, d5, d6, hv, evS, tyS, Bool.not_true, Bool.not_false, Nat.reduceAdd, Nat.reduceSub, Nat.reduceMul, Nat.reduceLT, Nat.reduceLeDiff, Nat.reduceEqDiff, reduceCtorEq, List.reduceReplicate, Int.reduceToNat, Int.reduceLE, Int.reduceLT]))))
            all_goals try (((try simp only [decide_eq_true_eq, decide_eq_false_iff_not, beq_iff_eq, bne_iff_ne, ne_eq, beq_eq_false_iff_ne, bne_eq_false_iff_eq] at *) <;> (try omega)); done)
            all_goals try (simp only [List.length_cons] at *; omega)
            all_goals exact grown 4 (hexV (hexN (atL r 2)) (hexN (atL r 3))) _ (by omega) (by omega) hs (unq_weak_cons _ _ _ _ _ _ rfl rfl)
      · rw [if_neg h4] at hs
        have hx4 : decide (4 ≤ r.length) = false ∨ (decide (4 ≤ r.length) = true ∧ ((atL r 1 : Int) == 120) = false) := by
          by_cases h : 4 ≤ r.length
          · refine .inr ⟨decide_eq_true h, ?_⟩
            cases hb : ((atL r 1 : Int) == 120) with
            | false => rfl
            | true => exact absurd ⟨h, by have := eq_of_beq hb; omega⟩ h4
          · exact .inl (decide_eq_false h)
        by_cases h2 : 2 ≤ r.length
        · rw [if_pos h2] at hs
          have e1 : decide (2 ≤ r.length) = true := decide_eq_true h2
          have e2 : decide ((2 : Int) ≤ (r.length : Int)) = true := decide_eq_true (by omega)
          rcases hx4 with d3 | ⟨d3, z2⟩
          · cases acc with
            | nil =>
              simp only [unqS_nil, unqS_cons, ea, tk, d1, d2, z1, d3, e1, e2, evS, tyS, Bool.not_true, Bool.not_false, Nat.reduceAdd, Nat.reduceSub, Nat.reduceMul, Nat.reduceLT, Nat.reduceLeDiff, Nat.reduceEqDiff, reduceCtorEq, List.reduceReplicate, Int.reduceToNat, Int.reduceLE, Int.reduceLT]
              (repeat' (first | (with_reducible refine And.intro ?_ ?_) | ((first | refine GuardK.intro_f (fun h => ?_) (fun h => ?_) | refine GuardK.intro_t (fun h => ?_) (fun h => ?_) | refine CondK.intro (fun h => ?_) (fun h => ?_) | refine PickK.intro (fun h => ?_) (fun h => ?_)) <;> simp only [h, ea, tk, d1, d2, z1, d3, e1, e2, evS, tyS, Bool.not_true, Bool.not_false, Nat.reduceAdd, Nat.reduceSub, Nat.reduceMul, Nat.reduceLT, Nat.reduceLeDiff, Nat.reduceEqDiff, reduceCtorEq, List.reduceReplicate, Int.reduceToNat, Int.reduceLE, Int.reduceLT]) | (refine DrawK.intro (by kernel_rfl) (by kernel_rfl) ?_; simp only [ea, tk, d1, d2, z1, d3, e1, e2, evS, tyS, Bool.not_true, Bool.not_false, Nat.reduceAdd, Nat.reduceSub, Nat.reduceMul, Nat.reduceLT, Nat.reduceLeDiff, Nat.reduceEqDiff, reduceCtorEq, List.reduceReplicate, Int.reduceToNat, Int.reduceLE, Int.reduceLT])))
              all_goals try (((try simp only [decide_eq_true_eq, decide_eq_false_iff_not, beq_iff_eq, bne_iff_ne, ne_eq, beq_eq_false_iff_ne, bne_eq_false_iff_eq] at *) <;> (try omega)); done)
              all_goals try (simp only [List.length_cons] at *; omega)
              all_goals exact grown 2 (r.getD 1 0) _ (by omega) (by omega) hs (unq_weak_nil _ _ _ rfl rfl)
            | cons a A =>
              simp only [unqS_nil, unqS_cons, ea, tk, d1, d2, z1, d3, e1, e2, evS, tyS, Bool.not_true, Bool.not_false, Nat.reduceAdd, Nat.reduceSub, Nat.reduceMul, Nat.reduceLT, Nat.reduceLeDiff, Nat.reduceEqDiff, reduceCtorEq, List.reduceReplicate, Int.reduceToNat, Int.reduceLE, Int.reduceLT]
              (repeat' (first | (with_reducible refine And.intro ?_ ?_) | ((first | refine GuardK.intro_f (fun h => ?_) (fun h => ?_) | refine GuardK.intro_t (fun h => ?_) (fun h => ?_) | refine CondK.intro (fun h => ?_) (fun h => ?_) | refine PickK.intro (fun h => ?_) (fun h => ?_)) <;> simp only [h, ea, tk, d1, d2, z1, d3, e1, e2, evS, tyS, Bool.not_true, Bool.not_false, Nat.reduceAdd, Nat.reduceSub, Nat.reduceMul, Nat.reduceLT, Nat.reduceLeDiff, Nat.reduceEqDiff, reduceCtorEq, List.reduceReplicate, Int.reduceToNat, Int.reduceLE, Int.reduceLT]) | (refine DrawK.intro (by kernel_rfl) (by kernel_rfl) ?_; simp only [ea, tk, d1, d2, z1, d3, e1, e2, evS, tyS, Bool.not_true, Bool.not_false, Nat.reduceAdd, Nat.reduceSub, Nat.reduceMul, Nat.reduceLT, Nat.reduceLeDiff, Nat.reduceEqDiff, reduceCtorEq, List.reduceReplicate, Int.reduceToNat, Int.reduceLE, Int.reduceLT])))
              all_goals try (((try simp only [decide_eq_true_eq, decide_eq_false_iff_not, beq_iff_eq, bne_iff_ne, ne_eq, beq_eq_false_iff_ne, bne_eq_false_iff_eq] at *) <;> (try omega)); done)
              all_goals try (simp only [List.length_cons] at *; omega)
              all_goals exact grown 2 (r.getD 1 0) _ (by omega) (by omega) hs (unq_weak_cons _ _ _ _ _ _ rfl rfl)
          · cases acc with
            | nil =>
              simp only [unqS_nil, unqS_cons, ea, tk, d1, d2, z1, d3, z2, e1, e2, evS, tyS, Bool.not_true, Bool.not_false, Nat.reduceAdd, Nat.reduceSub, Nat.reduceMul, Nat.reduceLT, Nat.reduceLeDiff, Nat.reduceEqDiff, reduceCtorEq, List.reduceReplicate, Int.reduceToNat, Int.reduceLE, Int.reduceLT]
              (repeat' (first | (with_reducible refine And.intro ?_ ?_) | ((first | refine GuardK.intro_f (fun h => ?_) (fun h => ?_) | refine GuardK.intro_t (fun h => ?_) (fun h => ?_) | refine CondK.intro (fun h => ?_) (fun h => ?_) | refine PickK.intro (fun h => ?_) (fun h => ?_)) <;> simp only [h, ea, tk, d1, d2, z1, d3, z2, e1, e2, evS, tyS, Bool.not_true, Bool.not_false, Nat.reduceAdd, Nat.reduceSub, Nat.reduceMul, Nat.reduceLT, Nat.reduceLeDiff, Nat.reduceEqDiff, reduceCtorEq, List.reduceReplicate, Int.reduceToNat, Int.reduceLE, Int.reduceLT]) | (refine DrawK.intro (by kernel_rfl) (by kernel_rfl) ?_; simp only [ea, tk, d1, d2, z1, d3, z2, e1, e2, evS, tyS, Bool.not_true, Bool.not_false, Nat.reduceAdd, Nat.reduceSub, Nat.reduceMul, Nat.reduceLT, Nat.reduceLeDiff, Nat.reduceEqDiff, reduceCtorEq, List.reduceReplicate, Int.reduceToNat, Int.reduceLE, Int.reduceLT])))
              all_goals try (((try simp only [decide_eq_true_eq, decide_eq_false_iff_not, beq_iff_eq, bne_iff_ne, ne_eq, beq_eq_false_iff_ne, bne_eq_false_iff_eq] at *) <;> (try omega)); done)
              all_goals try (simp only [List.length_cons] at *; omega)
              all_goals exact grown 2 (r.getD 1 0) _ (by omega) (by omega) hs (unq_weak_nil _ _ _ rfl rfl)
            | cons a A =>
              simp only [unqS_nil, unqS_cons, ea, tk, d1, d2, z1, d3, z2, e1, e2, evS, tyS, Bool.not_true, Bool.not_false, Nat.reduceAdd, Nat.reduceSub, Nat.reduceMul, Nat.reduceLT, Nat.reduceLeDiff, Nat.reduceEqDiff, reduceCtorEq, List.reduceReplicate, Int.reduceToNat, Int.reduceLE, Int.reduceLT]
              (repeat' (first | (with_reducible refine And.intro ?_ ?_) | ((first | refine GuardK.intro_f (fun h => ?_) (fun h => ?_) | refine GuardK.intro_t (fun h => ?_) (fun h => ?_) | refine CondK.intro (fun h => ?_) (fun h => ?_) | refine PickK.intro (fun h => ?_) (fun h => ?_)) <;> simp only [h, ea, tk, d1, d2, z1, d3, z2, e1, e2, evS, tyS, Bool.not_true, Bool.not_false, Nat.reduceAdd, Nat.reduceSub, Nat.reduceMul, Nat.reduceLT, Nat.reduceLeDiff, Nat.reduceEqDiff, reduceCtorEq, List.reduceReplicate, Int.reduceToNat, Int.reduceLE, Int.reduceLT]) | (refine DrawK.intro (by kernel_rfl) (by kernel_rfl) ?_; simp only [ea, tk, d1, d2, z1, d3, z2, e1, e2, evS, tyS, Bool.not_true, Bool.not_false, Nat.reduceAdd, Nat.reduceSub, Nat.reduceMul, Nat.reduceLT, Nat.reduceLeDiff, Nat.reduceEqDiff, reduceCtorEq, List.reduceReplicate, Int.reduceToNat, Int.reduceLE, Int.reduceLT])))
              all_goals try (((try simp only [decide_eq_true_eq, decide_eq_false_iff_not, beq_iff_eq, bne_iff_ne, ne_eq, beq_eq_false_iff_ne, bne_eq_false_iff_eq] at *) <;> (try omega)); done)
              all_goals try (simp only [List.length_cons] at *; omega)
              all_goals exact grown 2 (r.getD 1 0) _ (by omega) (by omega) hs (unq_weak_cons _ _ _ _ _ _ rfl rfl)
        · rw [if_neg h2] at hs
          have hs' : unqR (unqN r0.length r0 []) = .tup [.v (.string ⟨#[]⟩), .v (.bool false)] := by rw [← hs]; rfl
          have d3 : decide (4 ≤ r.length) = false := decide_eq_false (by omega)
          have e1 : decide (2 ≤ r.length) = false := decide_eq_false h2
          have e2 : decide ((2 : Int) ≤ (r.length : Int)) = false := decide_eq_false (by omega)
          cases acc with
          | nil =>
            simp only [unqS_nil, unqS_cons, ea, tk, d1, d2, hret, hs', z1, d3, e1, e2, evS, tyS, Bool.not_true, Bool.not_false, Nat.reduceAdd, Nat.reduceSub, Nat.reduceMul, Nat.reduceLT, Nat.reduceLeDiff, Nat.reduceEqDiff, reduceCtorEq, List.reduceReplicate, Int.reduceToNat, Int.reduceLE, Int.reduceLT]
            (repeat' (first | (with_reducible refine And.intro ?_ ?_) | ((first | refine GuardK.intro_f (fun h => ?_) (fun h => ?_) | refine GuardK.intro_t (fun h => ?_) (fun h => ?_) | refine CondK.intro (fun h => ?_) (fun h => ?_) | refine PickK.intro (fun h => ?_) (fun h => ?_)) <;> simp only [h, ea, tk, d1, d2, hret, hs', z1, d3, e1, e2, evS, tyS, Bool.not_true, Bool.not_false, Nat.reduceAdd, Nat.reduceSub, Nat.reduceMul, Nat.reduceLT, Nat.reduceLeDiff, Nat.reduceEqDiff, reduceCtorEq, List.reduceReplicate, Int.reduceToNat, Int.reduceLE, Int.reduceLT]) | (refine DrawK.intro (by kernel_rfl) (by kernel_rfl) ?_; simp only [ea, tk, d1, d2, hret, hs', z1, d3, e1, e2, evS, tyS, Bool.not_true, Bool.not_false, Nat.reduceAdd, Nat.reduceSub, Nat.reduceMul, Nat.reduceLT, Nat.reduceLeDiff, Nat.reduceEqDiff, reduceCtorEq, List.reduceReplicate, Int.reduceToNat, Int.reduceLE, Int.reduceLT])))
            all_goals try (((try simp only [decide_eq_true_eq, decide_eq_false_iff_not, beq_iff_eq, bne_iff_ne, ne_eq, beq_eq_false_iff_ne, bne_eq_false_iff_eq] at *) <;> (try omega)); done)
            all_goals first | done | rfl | trace_state
          | cons a A =>
            simp only [unqS_nil, unqS_cons, ea, tk, d1, d2, hret, hs', z1, d3, e1, e2, evS, tyS, Bool.not_true, Bool.not_false, Nat.reduceAdd, Nat.reduceSub, Nat.reduceMul, Nat.reduceLT, Nat.reduceLeDiff, Nat.reduceEqDiff, reduceCtorEq, List.reduceReplicate, Int.reduceToNat, Int.reduceLE, Int.reduceLT]
            (repeat' (first | (with_reducible refine And.intro ?_ ?_) | ((first | refine GuardK.intro_f (fun h => ?_) (fun h => ?_) | refine GuardK.intro_t (fun h => ?_) (fun h => ?_) | refine CondK.intro (fun h => ?_) (fun h => ?_) | refine PickK.intro (fun h => ?_) (fun h => ?_)) <;> simp only [h, ea, tk, d1, d2, hret, hs', z1, d3, e1, e2, evS, tyS, Bool.not_true, Bool.not_false, Nat.reduceAdd, Nat.reduceSub, Nat.reduceMul, Nat.reduceLT, Nat.reduceLeDiff, Nat.reduceEqDiff, reduceCtorEq, List.reduceReplicate, Int.reduceToNat, Int.reduceLE, Int.reduceLT]) | (refine DrawK.intro (by kernel_rfl) (by kernel_rfl) ?_; simp only [ea, tk, d1, d2, hret, hs', z1, d3, e1, e2, evS, tyS, Bool.not_true, Bool.not_false, Nat.reduceAdd, Nat.reduceSub, Nat.reduceMul, Nat.reduceLT, Nat.reduceLeDiff, Nat.reduceEqDiff, reduceCtorEq, List.reduceReplicate, Int.reduceToNat, Int.reduceLE, Int.reduceLT])))
            all_goals try (((try simp only [decide_eq_true_eq, decide_eq_false_iff_not, beq_iff_eq, bne_iff_ne, ne_eq, beq_eq_false_iff_ne, bne_eq_false_iff_eq] at *) <;> (try omega)); done)
            all_goals first | done | rfl | trace_state
    · rw [if_pos h92] at hs
      have z1 : ((atL r 0 : Int) == 92) = false := by
        cases hb : ((atL r 0 : Int) == 92) with
        | false => rfl
        | true => have := eq_of_beq hb; omega
      cases acc with
      | nil =>
        simp only [unqS_nil, unqS_cons, ea, tk, d1, d2, z1, evS, tyS, Bool.not_true, Bool.not_false, Nat.reduceAdd, Nat.reduceSub, Nat.reduceMul, Nat.reduceLT, Nat.reduceLeDiff, Nat.reduceEqDiff, reduceCtorEq, List.reduceReplicate, Int.reduceToNat, Int.reduceLE, Int.reduceLT]
        (repeat' (first | (with_reducible refine And.intro ?_ ?_) | ((first | refine GuardK.intro_f (fun h => ?_) (fun h => ?_) | refine GuardK.intro_t (fun h => ?_) (fun h => ?_) | refine CondK.intro (fun h => ?_) (fun h => ?_) | refine PickK.intro (fun h => ?_) (fun h => ?_)) <;> simp only [h, ea, tk, d1, d2, z1, evS, tyS, Bool.not_true, Bool.not_false, Nat.reduceAdd, Nat.reduceSub, Nat.reduceMul, Nat.reduceLT, Nat.reduceLeDiff, Nat.reduceEqDiff, reduceCtorEq, List.reduceReplicate, Int.reduceToNat, Int.reduceLE, Int.reduceLT]) | (refine DrawK.intro (by kernel_rfl) (by kernel_rfl) ?_; simp only [ea, tk, d1, d2, z1, evS, tyS, Bool.not_true, Bool.not_false, Nat.reduceAdd, Nat.reduceSub, Nat.reduceMul, Nat.reduceLT, Nat.reduceLeDiff, Nat.reduceEqDiff, reduceCtorEq, List.reduceReplicate, Int.reduceToNat, Int.reduceLE, Int.reduceLT])))
        all_goals try (((try simp only [decide_eq_true_eq, decide_eq_false_iff_not, beq_iff_eq, bne_iff_ne, ne_eq, beq_eq_false_iff_ne, bne_eq_false_iff_eq] at *) <;> (try omega)); done)
        all_goals try (simp only [List.length_cons] at *; omega)
        all_goals exact grown 1 (r.getD 0 0) _ (by omega) (by omega) hs (unq_weak_nil _ _ _ rfl rfl)
      | cons a A =>
        simp only [unqS_nil, unqS_cons, ea, tk, d1, d2, z1, evS, tyS, Bool.not_true, Bool.not_false, Nat.reduceAdd, Nat.reduceSub, Nat.reduceMul, Nat.reduceLT, Nat.reduceLeDiff, Nat.reduceEqDiff, reduceCtorEq, List.reduceReplicate, Int.reduceToNat, Int.reduceLE, Int.reduceLT]
        (repeat' (first | (with_reducible refine And.intro ?_ ?_) | ((first | refine GuardK.intro_f (fun h => ?_) (fun h => ?_) | refine GuardK.intro_t (fun h => ?_) (fun h => ?_) | refine CondK.intro (fun h => ?_) (fun h => ?_) | refine PickK.intro (fun h => ?_) (fun h => ?_)) <;> simp only [h, ea, tk, d1, d2, z1, evS, tyS, Bool.not_true, Bool.not_false, Nat.reduceAdd, Nat.reduceSub, Nat.reduceMul, Nat.reduceLT, Nat.reduceLeDiff, Nat.reduceEqDiff, reduceCtorEq, List.reduceReplicate, Int.reduceToNat, Int.reduceLE, Int.reduceLT]) | (refine DrawK.intro (by kernel_rfl) (by kernel_rfl) ?_; simp only [ea, tk, d1, d2, z1, evS, tyS, Bool.not_true, Bool.not_false, Nat.reduceAdd, Nat.reduceSub, Nat.reduceMul, Nat.reduceLT, Nat.reduceLeDiff, Nat.reduceEqDiff, reduceCtorEq, List.reduceReplicate, Int.reduceToNat, Int.reduceLE, Int.reduceLT])))
        all_goals try (((try simp only [decide_eq_true_eq, decide_eq_false_iff_not, beq_iff_eq, bne_iff_ne, ne_eq, beq_eq_false_iff_ne, bne_eq_false_iff_eq] at *) <;> (try omega)); done)
        all_goals try (simp only [List.length_cons] at *; omega)
        all_goals exact grown 1 (r.getD 0 0) _ (by omega) (by omega) hs (unq_weak_cons _ _ _ _ _ _ rfl rfl)
set_option maxHeartbeats 4000000 in
set_option maxRecDepth 20000 in
theorem unquoted_ev (l : List UInt8) (hl : l.length ≤ 140737488351232) : Ev Tryz.prog γ 96 [.v (.string ⟨l.toArray⟩)] (unqR (unqF l)) := by
  refine Ev.of Tryz.func96 rfl ?_
  have ea : ∀ j, (l.getD j 0).toNat = atL l j := fun _ => rfl
  by_cases h1 : l.length < 2
  · have e : unqF l = none := by unfold unqF; rw [if_pos (.inl h1)]
    have e2 : unqR none = .tup [.v (.string ⟨#[]⟩), .v (.bool false)] := rfl
    have d1 : decide (l.length < 2) = true := decide_eq_true h1
    have d2 : decide ((l.length : Int) < 2) = true := decide_eq_true (by omega)
    rw [e, e2]
    simp only [Tryz.f96, d1, d2, evS, tyS, Bool.not_true, Bool.not_false, Nat.reduceAdd, Nat.reduceSub, Nat.reduceMul, Nat.reduceLT, Nat.reduceLeDiff, Nat.reduceEqDiff, reduceCtorEq, List.reduceReplicate, Int.reduceToNat, Int.reduceLE, Int.reduceLT]
    all_goals first | done | rfl | trace_state
  · have d1 : decide (l.length < 2) = false := decide_eq_false h1
    have d2 : decide ((l.length : Int) < 2) = false := decide_eq_false (by omega)
    have w1 : IntKind.i64.wrap ((l.length : Int) - 1) = ((l.length - 1 : Nat) : Int) := by rw [i64w] <;> omega
    by_cases h2 : atL l (l.length - 1) = 34
    · have z2 : ((atL l (l.length - 1) : Int) != 34) = false := by rw [h2]; rfl
      by_cases h3 : 1026 < l.length
      · have e : unqF l = none := by unfold unqF; rw [if_pos (.inr (.inr h3))]
        have e2 : unqR none = .tup [.v (.string ⟨#[]⟩), .v (.bool false)] := rfl
        have d3 : decide (1026 < l.length) = true := decide_eq_true h3
        have d4 : decide ((1026 : Int) < (l.length : Int)) = true := decide_eq_true (by omega)
        rw [e, e2]
        simp only [Tryz.f96, d1, d2, w1, ea, z2, d3, d4, evS, tyS, Bool.not_true, Bool.not_false, Nat.reduceAdd, Nat.reduceSub, Nat.reduceMul, Nat.reduceLT, Nat.reduceLeDiff, Nat.reduceEqDiff, reduceCtorEq, List.reduceReplicate, Int.reduceToNat, Int.reduceLE, Int.reduceLT]
        all_goals try (((try simp only [decide_eq_true_eq, decide_eq_false_iff_not, beq_iff_eq, bne_iff_ne, ne_eq, beq_eq_false_iff_ne, bne_eq_false_iff_eq] at *) <;> (try omega)); done)
        all_goals first | done | rfl | trace_state
      · have e : unqF l = unqN (inner l).length (inner l) [] := by unfold unqF; rw [if_neg (by omega)]
        have d3 : decide (1026 < l.length) = false := decide_eq_false h3
        have d4 : decide ((1026 : Int) < (l.length : Int)) = false := decide_eq_false (by omega)
        have hi : (l.take (l.length - 1)).drop 1 = inner l := rfl
        have hil : (inner l).length ≤ 1026 := by unfold inner; rw [List.length_drop, List.length_take]; omega
        rw [e]
        simp only [Tryz.f96, d1, d2, w1, ea, z2, d3, d4, hi, evS, tyS, Bool.not_true, Bool.not_false, Nat.reduceAdd, Nat.reduceSub, Nat.reduceMul, Nat.reduceLT, Nat.reduceLeDiff, Nat.reduceEqDiff, reduceCtorEq, List.reduceReplicate, Int.reduceToNat, Int.reduceLE, Int.reduceLT]
        (repeat' (first | (with_reducible refine And.intro ?_ ?_) | ((first | refine GuardK.intro_f (fun h => ?_) (fun h => ?_) | refine GuardK.intro_t (fun h => ?_) (fun h => ?_) | refine CondK.intro (fun h => ?_) (fun h => ?_) | refine PickK.intro (fun h => ?_) (fun h => ?_)) <;> simp only [h, d1, d2, w1, ea, z2, d3, d4, hi, evS, tyS, Bool.not_true, Bool.not_false, Nat.reduceAdd, Nat.reduceSub, Nat.reduceMul, Nat.reduceLT, Nat.reduceLeDiff, Nat.reduceEqDiff, reduceCtorEq, List.reduceReplicate, Int.reduceToNat, Int.reduceLE, Int.reduceLT]) | (refine DrawK.intro (by kernel_rfl) (by kernel_rfl) ?_; simp only [d1, d2, w1, ea, z2, d3, d4, hi, evS, tyS, Bool.not_true, Bool.not_false, Nat.reduceAdd, Nat.reduceSub, Nat.reduceMul, Nat.reduceLT, Nat.reduceLeDiff, Nat.reduceEqDiff, reduceCtorEq, List.reduceReplicate, Int.reduceToNat, Int.reduceLE, Int.reduceLT])))
        all_goals try (((try simp only [decide_eq_true_eq, decide_eq_false_iff_not, beq_iff_eq, bne_iff_ne, ne_eq, beq_eq_false_iff_ne, bne_eq_false_iff_eq] at *) <;> (try omega)); done)
        refine unq_loop (γ := γ) (by kernel_rfl) (r0 := inner l) hil (fun _ => rfl) ?_ ?_
        · intro acc hacc hs
          rw [hs]
          cases acc with
          | nil =>
            have e2 : unqR (some []) = .tup [.v (.string ⟨#[]⟩), .v (.bool true)] := rfl
            rw [e2]
            simp only [unqS_nil, evS, tyS, Bool.not_true, Bool.not_false, Nat.reduceAdd, Nat.reduceSub, Nat.reduceMul, Nat.reduceLT, Nat.reduceLeDiff, Nat.reduceEqDiff, reduceCtorEq, List.reduceReplicate, Int.reduceToNat, Int.reduceLE, Int.reduceLT]
            all_goals first | done | rfl | trace_state
          | cons a A =>
            have e2 : unqR (some (a :: A)) = .tup [.v (.string ⟨(a :: A).toArray⟩), .v (.bool true)] := rfl
            have e3 := strOf_own a A
            rw [e2]
            simp only [List.length_cons] at hacc
            have e4 : strOf (byteC a :: List.map byteC A) = some (.v (.string ⟨(a :: A).toArray⟩)) := strOf_map (a :: A)
            simp only [unqS_cons, e4, evS, tyS, Bool.not_true, Bool.not_false, Nat.reduceAdd, Nat.reduceSub, Nat.reduceMul, Nat.reduceLT, Nat.reduceLeDiff, Nat.reduceEqDiff, reduceCtorEq, List.reduceReplicate, Int.reduceToNat, Int.reduceLE, Int.reduceLT]
            all_goals try (((try simp only [decide_eq_true_eq, decide_eq_false_iff_not, beq_iff_eq, bne_iff_ne, ne_eq, beq_eq_false_iff_ne, bne_eq_false_iff_eq] at *) <;> (try omega)); done)
            all_goals first | done | rfl | trace_state
        · simp only [unqS_nil, evS, tyS, Bool.not_true, Bool.not_false, Nat.reduceAdd, Nat.reduceSub, Nat.reduceMul, Nat.reduceLT, Nat.reduceLeDiff, Nat.reduceEqDiff, reduceCtorEq, List.reduceReplicate, Int.reduceToNat, Int.reduceLE, Int.reduceLT]
          all_goals first | done | rfl | exact .inl rfl | trace_state
    · have e : unqF l = none := by unfold unqF; rw [if_pos (.inr (.inl h2))]
      have e2 : unqR none = .tup [.v (.string ⟨#[]⟩), .v (.bool false)] := rfl
      have z2 : ((atL l (l.length - 1) : Int) != 34) = true := by
        cases hb : ((atL l (l.length - 1) : Int) != 34) with
        | true => rfl
        | false => exact absurd (by simpa using hb) (by omega)
      rw [e, e2]
      simp only [Tryz.f96, d1, d2, w1, ea, z2, evS, tyS, Bool.not_true, Bool.not_false, Nat.reduceAdd, Nat.reduceSub, Nat.reduceMul, Nat.reduceLT, Nat.reduceLeDiff, Nat.reduceEqDiff, reduceCtorEq, List.reduceReplicate, Int.reduceToNat, Int.reduceLE, Int.reduceLT]
      all_goals try (((try simp only [decide_eq_true_eq, decide_eq_false_iff_not, beq_iff_eq, bne_iff_ne, ne_eq, beq_eq_false_iff_ne, bne_eq_false_iff_eq] at *) <;> (try omega)); done)
      all_goals first | done | rfl | trace_state
end Go.Proofs.YtlobiioioicmhaaGreatDoor
/- value.May, Print, Compare of ints. -/
namespace Go.Proofs.YtlobiioioicmhaaGreatDoor
set_option linter.all false
open Go Go.Ev
set_option maxRecDepth 20000
variable {γ : List (Nat × AV)}
theorem tyV : aggT Tryz.prog 23 = some false ∧
    aggT Tryz.prog 25 = some true ∧
    fieldT Tryz.prog 25 0 = some (0, 3) ∧
    fieldT Tryz.prog 25 1 = some (1, 2) ∧
    fieldT Tryz.prog 25 2 = some (2, 22) ∧
    fieldT Tryz.prog 25 3 = some (3, 23) ∧
    fieldT Tryz.prog 25 4 = some (4, 9) ∧
    placesT Tryz.prog 25 = some [(0, 1), (1, 1), (2, 1), (3, 1), (4, 1)] ∧
    sizeT Tryz.prog 23 = some 1 ∧
    sizeT Tryz.prog 25 = some 5 ∧
    zcT Tryz.prog 25 = some [.v (.int .i64 0), .v (.int .i64 0), .v (.float .f64 0), .v (.complex .f64 0 0), .v (.string ⟨#[]⟩)] ∧ aggT Tryz.prog 4 = some false :=
  ⟨by kernel_rfl, by kernel_rfl, by kernel_rfl, by kernel_rfl, by kernel_rfl, by kernel_rfl, by kernel_rfl, by kernel_rfl, by kernel_rfl, by kernel_rfl, by kernel_rfl, by kernel_rfl⟩
/-- A value of the program's. -/
structure VD where
  kind : Int
  int : Int
  real : Nat
  re : Nat
  im : Nat
  text : List UInt8
def vC (v : VD) : List AV := [.v (.int .i64 v.kind), .v (.int .i64 v.int), .v (.float .f64 v.real), .v (.complex .f64 v.re v.im), .v (.string ⟨v.text.toArray⟩)]
def vA (v : VD) : AV := .agg (vC v)
def mayF (v : VD) : Bool := if v.kind = 1 ∨ v.kind = 2 ∨ v.kind = 3 then true else if v.kind = 4 then decide (v.text.length ≤ 256) else if v.kind = 5 then (v.int == 0) || (v.int == 1) else false
def printF (v : VD) : List UInt8 :=
  if mayF v = false then [] else if v.kind = 1 then Lib.itoa v.int else if v.kind = 2 then measF v.real
  else if v.kind = 3 then (((40 :: measF v.re) ++ [44]) ++ measF v.im) ++ [41] else if v.kind = 4 then quotF v.text else boolS (v.int == 1)
def okV (v : VD) : Prop := -9223372036854775808 ≤ v.int ∧ v.int ≤ 9223372036854775807 ∧ v.real < 18446744073709551616 ∧ v.re < 18446744073709551616 ∧ v.im < 18446744073709551616
theorem b26 : bodyT Tryz.prog 51 := ⟨_, Tryz.func51, by kernel_rfl, by kernel_rfl⟩
theorem b27 : bodyT Tryz.prog 52 := ⟨_, Tryz.func52, by kernel_rfl, by kernel_rfl⟩
theorem beq_f {a b : Int} (h : a ≠ b) : (a == b) = false := by
  cases hb : (a == b) with
  | false => rfl
  | true => exact absurd (eq_of_beq hb) h
theorem may_ev (v : VD) : Ev Tryz.prog γ 51 [vA v] (.v (.bool (mayF v))) := by
  refine Ev.of Tryz.func51 rfl ?_
  obtain ⟨k, n, x, a, b, t⟩ := v
  have hf : mayF ⟨k, n, x, a, b, t⟩ = if k = 1 ∨ k = 2 ∨ k = 3 then true else if k = 4 then decide (t.length ≤ 256) else if k = 5 then (n == 0) || (n == 1) else false := rfl
  rw [hf]
  simp only [vA, vC]
  by_cases h1 : k = 1
  · subst h1
    rw [if_pos (.inl rfl)]
    have z : ((1 : Int) == 1) = true := rfl
    simp only [Tryz.f51, tyV, z, evS, tyS, Bool.not_true, Bool.not_false, Nat.reduceAdd, Nat.reduceSub, Nat.reduceMul, Nat.reduceLT, Nat.reduceLeDiff, Nat.reduceEqDiff, reduceCtorEq, List.reduceReplicate, Int.reduceToNat, Int.reduceLE, Int.reduceLT]
    all_goals first | done | rfl | trace_state
  · have z1 := beq_f h1
    by_cases h2 : k = 2
    · subst h2
      rw [if_pos (.inr (.inl rfl))]
      have z : ((2 : Int) == 2) = true := rfl
      simp only [Tryz.f51, tyV, z1, z, evS, tyS, Bool.not_true, Bool.not_false, Nat.reduceAdd, Nat.reduceSub, Nat.reduceMul, Nat.reduceLT, Nat.reduceLeDiff, Nat.reduceEqDiff, reduceCtorEq, List.reduceReplicate, Int.reduceToNat, Int.reduceLE, Int.reduceLT]
      all_goals first | done | rfl | trace_state
    · have z2 := beq_f h2
      by_cases h3 : k = 3
      · subst h3
        rw [if_pos (.inr (.inr rfl))]
        have z : ((3 : Int) == 3) = true := rfl
        simp only [Tryz.f51, tyV, z1, z2, z, evS, tyS, Bool.not_true, Bool.not_false, Nat.reduceAdd, Nat.reduceSub, Nat.reduceMul, Nat.reduceLT, Nat.reduceLeDiff, Nat.reduceEqDiff, reduceCtorEq, List.reduceReplicate, Int.reduceToNat, Int.reduceLE, Int.reduceLT]
        all_goals first | done | rfl | trace_state
      · have z3 := beq_f h3
        rw [if_neg (by omega)]
        by_cases h4 : k = 4
        · subst h4
          rw [if_pos rfl]
          have z : ((4 : Int) == 4) = true := rfl
          have e : decide ((t.length : Int) ≤ 256) = decide (t.length ≤ 256) := by
            by_cases h : t.length ≤ 256
            · rw [decide_eq_true h, decide_eq_true (by omega)]
            · rw [decide_eq_false h, decide_eq_false (by omega)]
          simp only [Tryz.f51, tyV, z1, z2, z3, z, e, evS, tyS, Bool.not_true, Bool.not_false, Nat.reduceAdd, Nat.reduceSub, Nat.reduceMul, Nat.reduceLT, Nat.reduceLeDiff, Nat.reduceEqDiff, reduceCtorEq, List.reduceReplicate, Int.reduceToNat, Int.reduceLE, Int.reduceLT]
          all_goals first | done | rfl | trace_state
        · have z4 := beq_f h4
          rw [if_neg h4]
          by_cases h5 : k = 5
          · subst h5
            rw [if_pos rfl]
            have z : ((5 : Int) == 5) = true := rfl
            cases hn : (n == 0) with
            | true =>
              simp only [Tryz.f51, tyV, z1, z2, z3, z4, z, hn, evS, tyS, Bool.not_true, Bool.not_false, Nat.reduceAdd, Nat.reduceSub, Nat.reduceMul, Nat.reduceLT, Nat.reduceLeDiff, Nat.reduceEqDiff, reduceCtorEq, List.reduceReplicate, Int.reduceToNat, Int.reduceLE, Int.reduceLT]
              all_goals first | done | rfl | trace_state
            | false =>
              simp only [Tryz.f51, tyV, z1, z2, z3, z4, z, hn, evS, tyS, Bool.not_true, Bool.not_false, Nat.reduceAdd, Nat.reduceSub, Nat.reduceMul, Nat.reduceLT, Nat.reduceLeDiff, Nat.reduceEqDiff, reduceCtorEq, List.reduceReplicate, Int.reduceToNat, Int.reduceLE, Int.reduceLT]
              all_goals first | done | rfl | trace_state
          · have z5 := beq_f h5
            rw [if_neg h5]
            simp only [Tryz.f51, tyV, z1, z2, z3, z4, z5, evS, tyS, Bool.not_true, Bool.not_false, Nat.reduceAdd, Nat.reduceSub, Nat.reduceMul, Nat.reduceLT, Nat.reduceLeDiff, Nat.reduceEqDiff, reduceCtorEq, List.reduceReplicate, Int.reduceToNat, Int.reduceLE, Int.reduceLT]
            all_goals first | done | rfl | trace_state
set_option maxHeartbeats 4000000 in
set_option maxRecDepth 20000 in
theorem print_ev (hγ : GlN γ) (v : VD) (hv : okV v) : Ev Tryz.prog γ 52 [vA v] (.v (.string ⟨(printF v).toArray⟩)) := by
  refine Ev.of Tryz.func52 rfl ?_
  have km := may_ev (γ := γ) v
  obtain ⟨g1, g2, g3, g4, g5⟩ := hv
  obtain ⟨k, n, x, a, b, t⟩ := v
  simp only at g1 g2 g3 g4 g5
  cases hm : mayF ⟨k, n, x, a, b, t⟩ with
  | false =>
    have e : printF ⟨k, n, x, a, b, t⟩ = [] := by unfold printF; rw [if_pos hm]
    rw [e]
    rw [hm] at km
    simp only [vA, vC] at km ⊢
    simp only [Tryz.f52, tyV, evS, tyS, Bool.not_true, Bool.not_false, Nat.reduceAdd, Nat.reduceSub, Nat.reduceMul, Nat.reduceLT, Nat.reduceLeDiff, Nat.reduceEqDiff, reduceCtorEq, List.reduceReplicate, Int.reduceToNat, Int.reduceLE, Int.reduceLT]
    refine CallK.intro b26 rfl km ?_
    simp only [tyV, evS, tyS, Bool.not_true, Bool.not_false, Nat.reduceAdd, Nat.reduceSub, Nat.reduceMul, Nat.reduceLT, Nat.reduceLeDiff, Nat.reduceEqDiff, reduceCtorEq, List.reduceReplicate, Int.reduceToNat, Int.reduceLE, Int.reduceLT]
    all_goals first | done | rfl | trace_state
  | true =>
    have hp : printF ⟨k, n, x, a, b, t⟩ = if k = 1 then Lib.itoa n else if k = 2 then measF x
      else if k = 3 then (((40 :: measF a) ++ [44]) ++ measF b) ++ [41] else if k = 4 then quotF t else boolS (n == 1) := by unfold printF; rw [if_neg (by rw [hm]; simp)]
    rw [hp]
    rw [hm] at km
    have hmay : (if k = 1 ∨ k = 2 ∨ k = 3 then true else if k = 4 then decide (t.length ≤ 256) else if k = 5 then (n == 0) || (n == 1) else false) = true := hm
    simp only [vA, vC] at km ⊢
    simp only [Tryz.f52, tyV, evS, tyS, Bool.not_true, Bool.not_false, Nat.reduceAdd, Nat.reduceSub, Nat.reduceMul, Nat.reduceLT, Nat.reduceLeDiff, Nat.reduceEqDiff, reduceCtorEq, List.reduceReplicate, Int.reduceToNat, Int.reduceLE, Int.reduceLT]
    refine CallK.intro b26 rfl km ?_
    by_cases h1 : k = 1
    · subst h1
      rw [if_pos rfl]
      have z : ((1 : Int) == 1) = true := rfl
      simp only [tyV, z, evS, tyS, Bool.not_true, Bool.not_false, Nat.reduceAdd, Nat.reduceSub, Nat.reduceMul, Nat.reduceLT, Nat.reduceLeDiff, Nat.reduceEqDiff, reduceCtorEq, List.reduceReplicate, Int.reduceToNat, Int.reduceLE, Int.reduceLT]
      refine CallK.intro b36 rfl (formatInt36_ev hγ n g1 g2) ?_
      simp only [tyV, z, evS, tyS, Bool.not_true, Bool.not_false, Nat.reduceAdd, Nat.reduceSub, Nat.reduceMul, Nat.reduceLT, Nat.reduceLeDiff, Nat.reduceEqDiff, reduceCtorEq, List.reduceReplicate, Int.reduceToNat, Int.reduceLE, Int.reduceLT]
      all_goals first | done | rfl | trace_state
    · have z1 := beq_f h1
      rw [if_neg h1]
      by_cases h2 : k = 2
      · subst h2
        rw [if_pos rfl]
        have z : ((2 : Int) == 2) = true := rfl
        simp only [tyV, z1, z, evS, tyS, Bool.not_true, Bool.not_false, Nat.reduceAdd, Nat.reduceSub, Nat.reduceMul, Nat.reduceLT, Nat.reduceLeDiff, Nat.reduceEqDiff, reduceCtorEq, List.reduceReplicate, Int.reduceToNat, Int.reduceLE, Int.reduceLT]
        refine CallK.intro b37 rfl (measured_ev hγ x g3) ?_
        simp only [tyV, z, evS, tyS, Bool.not_true, Bool.not_false, Nat.reduceAdd, Nat.reduceSub, Nat.reduceMul, Nat.reduceLT, Nat.reduceLeDiff, Nat.reduceEqDiff, reduceCtorEq, List.reduceReplicate, Int.reduceToNat, Int.reduceLE, Int.reduceLT]
        all_goals first | done | rfl | trace_state
      · have z2 := beq_f h2
        rw [if_neg h2]
        by_cases h3 : k = 3
        · subst h3
          rw [if_pos rfl]
          have z : ((3 : Int) == 3) = true := rfl
          have la := measF_le a
          have lb := measF_le b
          simp only [tyV, z1, z2, z, evS, tyS, Bool.not_true, Bool.not_false, Nat.reduceAdd, Nat.reduceSub, Nat.reduceMul, Nat.reduceLT, Nat.reduceLeDiff, Nat.reduceEqDiff, reduceCtorEq, List.reduceReplicate, Int.reduceToNat, Int.reduceLE, Int.reduceLT]
          (repeat' (first | (with_reducible refine And.intro ?_ ?_) | ((first | refine GuardK.intro_f (fun h => ?_) (fun h => ?_) | refine GuardK.intro_t (fun h => ?_) (fun h => ?_) | refine CondK.intro (fun h => ?_) (fun h => ?_) | refine PickK.intro (fun h => ?_) (fun h => ?_)) <;> simp only [h, tyV, z1, z2, z, evS, tyS, Bool.not_true, Bool.not_false, Nat.reduceAdd, Nat.reduceSub, Nat.reduceMul, Nat.reduceLT, Nat.reduceLeDiff, Nat.reduceEqDiff, reduceCtorEq, List.reduceReplicate, Int.reduceToNat, Int.reduceLE, Int.reduceLT]) | (refine DrawK.intro (by kernel_rfl) (by kernel_rfl) ?_; simp only [tyV, z1, z2, z, evS, tyS, Bool.not_true, Bool.not_false, Nat.reduceAdd, Nat.reduceSub, Nat.reduceMul, Nat.reduceLT, Nat.reduceLeDiff, Nat.reduceEqDiff, reduceCtorEq, List.reduceReplicate, Int.reduceToNat, Int.reduceLE, Int.reduceLT])))
          refine CallK.intro b37 rfl (measured_ev hγ a g4) ?_
          simp only [tyV, z, evS, tyS, Bool.not_true, Bool.not_false, Nat.reduceAdd, Nat.reduceSub, Nat.reduceMul, Nat.reduceLT, Nat.reduceLeDiff, Nat.reduceEqDiff, reduceCtorEq, List.reduceReplicate, Int.reduceToNat, Int.reduceLE, Int.reduceLT]
          (repeat' (first | (with_reducible refine And.intro ?_ ?_) | ((first | refine GuardK.intro_f (fun h => ?_) (fun h => ?_) | refine GuardK.intro_t (fun h => ?_) (fun h => ?_) | refine CondK.intro (fun h => ?_) (fun h => ?_) | refine PickK.intro (fun h => ?_) (fun h => ?_)) <;> simp only [h, tyV, z, evS, tyS, Bool.not_true, Bool.not_false, Nat.reduceAdd, Nat.reduceSub, Nat.reduceMul, Nat.reduceLT, Nat.reduceLeDiff, Nat.reduceEqDiff, reduceCtorEq, List.reduceReplicate, Int.reduceToNat, Int.reduceLE, Int.reduceLT]) | (refine DrawK.intro (by kernel_rfl) (by kernel_rfl) ?_; simp only [tyV, z, evS, tyS, Bool.not_true, Bool.not_false, Nat.reduceAdd, Nat.reduceSub, Nat.reduceMul, Nat.reduceLT, Nat.reduceLeDiff, Nat.reduceEqDiff, reduceCtorEq, List.reduceReplicate, Int.reduceToNat, Int.reduceLE, Int.reduceLT])))
          all_goals try (first | (omega; done) | (simp only [List.length_append, List.length_cons, List.length_nil]; omega))
          refine CallK.intro b37 rfl (measured_ev hγ b g5) ?_
          simp only [tyV, z, evS, tyS, Bool.not_true, Bool.not_false, Nat.reduceAdd, Nat.reduceSub, Nat.reduceMul, Nat.reduceLT, Nat.reduceLeDiff, Nat.reduceEqDiff, reduceCtorEq, List.reduceReplicate, Int.reduceToNat, Int.reduceLE, Int.reduceLT]
          (repeat' (first | (with_reducible refine And.intro ?_ ?_) | ((first | refine GuardK.intro_f (fun h => ?_) (fun h => ?_) | refine GuardK.intro_t (fun h => ?_) (fun h => ?_) | refine CondK.intro (fun h => ?_) (fun h => ?_) | refine PickK.intro (fun h => ?_) (fun h => ?_)) <;> simp only [h, tyV, z, evS, tyS, Bool.not_true, Bool.not_false, Nat.reduceAdd, Nat.reduceSub, Nat.reduceMul, Nat.reduceLT, Nat.reduceLeDiff, Nat.reduceEqDiff, reduceCtorEq, List.reduceReplicate, Int.reduceToNat, Int.reduceLE, Int.reduceLT]) | (refine DrawK.intro (by kernel_rfl) (by kernel_rfl) ?_; simp only [tyV, z, evS, tyS, Bool.not_true, Bool.not_false, Nat.reduceAdd, Nat.reduceSub, Nat.reduceMul, Nat.reduceLT, Nat.reduceLeDiff, Nat.reduceEqDiff, reduceCtorEq, List.reduceReplicate, Int.reduceToNat, Int.reduceLE, Int.reduceLT])))
          all_goals try (first | (omega; done) | (simp only [List.length_append, List.length_cons, List.length_nil]; omega))
          all_goals first | done | rfl | (simp [List.append_assoc]; done) | trace_state
        · have z3 := beq_f h3
          rw [if_neg h3]
          rw [if_neg (by omega)] at hmay
          by_cases h4 : k = 4
          · subst h4
            rw [if_pos rfl] at hmay ⊢
            have ht : t.length ≤ 256 := of_decide_eq_true hmay
            have z : ((4 : Int) == 4) = true := rfl
            simp only [tyV, z1, z2, z3, z, evS, tyS, Bool.not_true, Bool.not_false, Nat.reduceAdd, Nat.reduceSub, Nat.reduceMul, Nat.reduceLT, Nat.reduceLeDiff, Nat.reduceEqDiff, reduceCtorEq, List.reduceReplicate, Int.reduceToNat, Int.reduceLE, Int.reduceLT]
            refine CallK.intro b38 rfl (quoted_ev t ht) ?_
            simp only [tyV, z, evS, tyS, Bool.not_true, Bool.not_false, Nat.reduceAdd, Nat.reduceSub, Nat.reduceMul, Nat.reduceLT, Nat.reduceLeDiff, Nat.reduceEqDiff, reduceCtorEq, List.reduceReplicate, Int.reduceToNat, Int.reduceLE, Int.reduceLT]
            all_goals first | done | rfl | trace_state
          · have z4 := beq_f h4
            rw [if_neg h4] at hmay ⊢
            simp only [tyV, z1, z2, z3, z4, evS, tyS, Bool.not_true, Bool.not_false, Nat.reduceAdd, Nat.reduceSub, Nat.reduceMul, Nat.reduceLT, Nat.reduceLeDiff, Nat.reduceEqDiff, reduceCtorEq, List.reduceReplicate, Int.reduceToNat, Int.reduceLE, Int.reduceLT]
            refine CallK.intro b39 rfl (formatBool_ev (n == 1)) ?_
            simp only [tyV, evS, tyS, Bool.not_true, Bool.not_false, Nat.reduceAdd, Nat.reduceSub, Nat.reduceMul, Nat.reduceLT, Nat.reduceLeDiff, Nat.reduceEqDiff, reduceCtorEq, List.reduceReplicate, Int.reduceToNat, Int.reduceLE, Int.reduceLT]
            all_goals first | done | rfl | trace_state
end Go.Proofs.YtlobiioioicmhaaGreatDoor
/- value.read, Parse. -/
namespace Go.Proofs.YtlobiioioicmhaaGreatDoor
set_option linter.all false
open Go Go.Ev
set_option maxRecDepth 20000
variable {γ : List (Nat × AV)}
theorem intOf_range (neg : Bool) (r : Nat × Nat) : -9223372036854775808 ≤ (intOf neg r).2 ∧ (intOf neg r).2 ≤ 9223372036854775807 := by
  unfold intOf
  by_cases h1 : r.1 = 2
  · rw [if_pos h1]; decide
  · rw [if_neg h1]
    by_cases h2 : neg = false ∧ 9223372036854775808 ≤ r.2
    · rw [if_pos h2]; decide
    · rw [if_neg h2]
      by_cases h3 : neg = true ∧ 9223372036854775808 < r.2
      · rw [if_pos h3]; decide
      · rw [if_neg h3]
        cases neg with
        | true =>
          have : r.2 ≤ 9223372036854775808 := by
            rcases Nat.lt_or_ge 9223372036854775808 r.2 with h | h
            · exact absurd ⟨rfl, h⟩ h3
            · exact h
          simp only [if_true]; omega
        | false =>
          have : r.2 < 9223372036854775808 := by
            rcases Nat.lt_or_ge r.2 9223372036854775808 with h | h
            · exact h
            · exact absurd ⟨rfl, h⟩ h2
          simp only [Bool.false_eq_true, if_false]; omega
theorem scanI_range (l : List UInt8) : -9223372036854775808 ≤ (scanI l).2 ∧ (scanI l).2 ≤ 9223372036854775807 := by
  unfold scanI
  split
  · decide
  · exact intOf_range _ _
theorem realB_lt (m : Nat) (e : Int) : realB m e < 9223372036854775808 := by
  unfold realB
  split
  · decide
  · unfold dblN
    exact Nat.lt_of_le_of_lt (Nat.min_le_right _ _) (by decide)
theorem negF_lt {x : Nat} (h : x < 9223372036854775808) : Op.negFloat .f64 x < 18446744073709551616 := by
  have e : Op.negFloat .f64 x = x ^^^ 2 ^ 63 := rfl
  rw [e]
  have : x ^^^ 2 ^ 63 < 2 ^ 64 := Nat.xor_lt_two_pow (Nat.lt_of_lt_of_le h (by decide)) (by decide)
  exact Nat.lt_of_lt_of_le this (by decide)
/-- A real's text, read: its bits; may it be? -/
def wgtX (l : List UInt8) : Nat × Bool :=
  if cutP l 45 = nanT then (9221120237041090561, !preB l 45) else
    match magF (cutP l 45) with
    | none => (0, false)
    | some x => (if preB l 45 = true then Op.negFloat .f64 x else x, true)
theorem wgtA_eq (l : List UInt8) : wgtA l = .tup [.v (.float .f64 (wgtX l).1), .v (.bool (wgtX l).2)] := by
  unfold wgtA wgtX
  split
  · rfl
  · cases magF (cutP l 45) <;> rfl
theorem magF_lt {r : List UInt8} {x : Nat} (h : magF r = some x) : x < 9223372036854775808 := by
  unfold magF at h
  split at h
  · cases h; decide
  · split at h
    · cases h
    · cases h; exact realB_lt _ _
theorem wgtX_lt (l : List UInt8) : (wgtX l).1 < 18446744073709551616 := by
  unfold wgtX
  split
  · show 9221120237041090561 < 18446744073709551616; decide
  · cases h : magF (cutP l 45) with
    | none => show 0 < 18446744073709551616; decide
    | some x =>
      have := magF_lt h
      show (if preB l 45 = true then Op.negFloat .f64 x else x) < _
      split
      · exact negF_lt this
      · omega
def trueT : List UInt8 := [116, 114, 117, 101]
def falseT : List UInt8 := [102, 97, 108, 115, 101]
def unqO (l : List UInt8) : List UInt8 × Bool := match unqF l with | none => ([], false) | some o => (o, true)
theorem unqR_eq (l : List UInt8) : unqR (unqF l) = .tup [.v (.string ⟨(unqO l).1.toArray⟩), .v (.bool (unqO l).2)] := by
  unfold unqO
  cases unqF l <;> rfl
def zeroV : VD := ⟨0, 0, 0, 0, 0, []⟩
def readC (l : List UInt8) : List UInt8 × List UInt8 × Bool := cutB (trimS (l.drop 1) 41) 44
def readF (l : List UInt8) : VD × Bool :=
  if l = [] then (zeroV, false) else if l = trueT then (⟨5, 1, 0, 0, 0, []⟩, true) else if l = falseT then (⟨5, 0, 0, 0, 0, []⟩, true)
  else if atL l 0 = 34 then (⟨4, 0, 0, 0, 0, (unqO l).1⟩, (unqO l).2)
  else if atL l 0 = 40 then (⟨3, 0, 0, (wgtX (readC l).1).1, (wgtX (readC l).2.1).1, []⟩, (wgtX (readC l).1).2 && (wgtX (readC l).2.1).2)
  else if (scanI l).1 = 0 then (⟨1, (scanI l).2, 0, 0, 0, []⟩, true) else (⟨2, 0, (wgtX l).1, 0, 0, []⟩, (wgtX l).2)
theorem readF_ok (l : List UInt8) : okV (readF l).1 := by
  have h1 := scanI_range l
  have h2 := wgtX_lt l
  have h3 := wgtX_lt (readC l).1
  have h4 := wgtX_lt (readC l).2.1
  have z : ∀ k n t, (-9223372036854775808 ≤ n ∧ n ≤ 9223372036854775807) → okV ⟨k, n, 0, 0, 0, t⟩ := fun k n t h => ⟨h.1, h.2, by show 0 < _; decide, by show 0 < _; decide, by show 0 < _; decide⟩
  unfold readF
  split
  · exact z _ _ _ (by decide)
  split
  · exact z _ _ _ (by decide)
  split
  · exact z _ _ _ (by decide)
  split
  · exact z _ _ _ (by decide)
  split
  · exact ⟨by show (-9223372036854775808 : Int) ≤ 0; decide, by show (0 : Int) ≤ _; decide, by show 0 < _; decide, h3, h4⟩
  split
  · exact z _ _ _ h1
  · exact ⟨by show (-9223372036854775808 : Int) ≤ 0; decide, by show (0 : Int) ≤ _; decide, h2, by show 0 < _; decide, by show 0 < _; decide⟩
theorem trimS_len (l : List UInt8) (c : UInt8) : (trimS l c).length ≤ l.length := by
  unfold trimS; split <;> simp
def readR (r : VD × Bool) : AV := .tup [vA r.1, .v (.bool r.2)]
theorem b35 : bodyT Tryz.prog 50 := ⟨_, Tryz.func50, by kernel_rfl, by kernel_rfl⟩
end Go.Proofs.YtlobiioioicmhaaGreatDoor
/- value.read, Parse: walked. -/
namespace Go.Proofs.YtlobiioioicmhaaGreatDoor
set_option linter.all false
open Go Go.Ev
set_option maxRecDepth 20000
variable {γ : List (Nat × AV)}
theorem b25 : bodyT Tryz.prog 12 := ⟨_, Tryz.func12, by kernel_rfl, by kernel_rfl⟩
theorem beq_bytes_f {a b : List UInt8} (h : a ≠ b) : (a == b) = false := by
  cases hb : (a == b) with
  | false => rfl
  | true => exact absurd (eq_of_beq hb) h
set_option maxHeartbeats 8000000 in
set_option maxRecDepth 20000 in
theorem read_ev (hγ : GlN γ) (l : List UInt8) (hl : l.length ≤ 140737488351232) : Ev Tryz.prog γ 50 [.v (.string ⟨l.toArray⟩)] (readR (readF l)) := by
  refine Ev.of Tryz.func50 rfl ?_
  have tk : l.take l.length = l := List.take_length
  have ea : ∀ j, (l.getD j 0).toNat = atL l j := fun _ => rfl
  have hE : (#[] : Array UInt8) = ([] : List UInt8).toArray := rfl
  by_cases h0 : l = []
  · have e : readF l = (zeroV, false) := by unfold readF; rw [if_pos h0]
    rw [e]
    subst h0
    simp only [readR, vA, vC, zeroV]
    simp only [Tryz.f50, tyV, evS, tyS, Bool.not_true, Bool.not_false, Nat.reduceAdd, Nat.reduceSub, Nat.reduceMul, Nat.reduceLT, Nat.reduceLeDiff, Nat.reduceEqDiff, reduceCtorEq, List.reduceReplicate, Int.reduceToNat, Int.reduceLE, Int.reduceLT]
    (repeat' (first | (with_reducible refine And.intro ?_ ?_) | ((first | refine GuardK.intro_f (fun h => ?_) (fun h => ?_) | refine GuardK.intro_t (fun h => ?_) (fun h => ?_) | refine CondK.intro (fun h => ?_) (fun h => ?_) | refine PickK.intro (fun h => ?_) (fun h => ?_)) <;> simp only [h, tyV, evS, tyS, Bool.not_true, Bool.not_false, Nat.reduceAdd, Nat.reduceSub, Nat.reduceMul, Nat.reduceLT, Nat.reduceLeDiff, Nat.reduceEqDiff, reduceCtorEq, List.reduceReplicate, Int.reduceToNat, Int.reduceLE, Int.reduceLT]) | (refine DrawK.intro (by kernel_rfl) (by kernel_rfl) ?_; simp only [tyV, evS, tyS, Bool.not_true, Bool.not_false, Nat.reduceAdd, Nat.reduceSub, Nat.reduceMul, Nat.reduceLT, Nat.reduceLeDiff, Nat.reduceEqDiff, reduceCtorEq, List.reduceReplicate, Int.reduceToNat, Int.reduceLE, Int.reduceLT])))
    all_goals first | done | rfl | trace_state
  · have z0 := beq_bytes_f h0
    by_cases h1 : l = trueT
    · have e : readF l = (⟨5, 1, 0, 0, 0, []⟩, true) := by unfold readF; rw [if_neg h0, if_pos h1]
      rw [e]
      have z1 : (l == [116, 114, 117, 101]) = true := by rw [h1]; rfl
      simp only [readR, vA, vC]
      simp only [Tryz.f50, tyV, z0, z1, evS, tyS, Bool.not_true, Bool.not_false, Nat.reduceAdd, Nat.reduceSub, Nat.reduceMul, Nat.reduceLT, Nat.reduceLeDiff, Nat.reduceEqDiff, reduceCtorEq, List.reduceReplicate, Int.reduceToNat, Int.reduceLE, Int.reduceLT]
      (repeat' (first | (with_reducible refine And.intro ?_ ?_) | ((first | refine GuardK.intro_f (fun h => ?_) (fun h => ?_) | refine GuardK.intro_t (fun h => ?_) (fun h => ?_) | refine CondK.intro (fun h => ?_) (fun h => ?_) | refine PickK.intro (fun h => ?_) (fun h => ?_)) <;> simp only [h, tyV, z0, z1, evS, tyS, Bool.not_true, Bool.not_false, Nat.reduceAdd, Nat.reduceSub, Nat.reduceMul, Nat.reduceLT, Nat.reduceLeDiff, Nat.reduceEqDiff, reduceCtorEq, List.reduceReplicate, Int.reduceToNat, Int.reduceLE, Int.reduceLT]) | (refine DrawK.intro (by kernel_rfl) (by kernel_rfl) ?_; simp only [tyV, z0, z1, evS, tyS, Bool.not_true, Bool.not_false, Nat.reduceAdd, Nat.reduceSub, Nat.reduceMul, Nat.reduceLT, Nat.reduceLeDiff, Nat.reduceEqDiff, reduceCtorEq, List.reduceReplicate, Int.reduceToNat, Int.reduceLE, Int.reduceLT])))
      all_goals first | done | rfl | trace_state
    · have z1 : (l == [116, 114, 117, 101]) = false := beq_bytes_f h1
      by_cases h2 : l = falseT
      · have e : readF l = (⟨5, 0, 0, 0, 0, []⟩, true) := by unfold readF; rw [if_neg h0, if_neg h1, if_pos h2]
        rw [e]
        have z2 : (l == [102, 97, 108, 115, 101]) = true := by rw [h2]; rfl
        simp only [readR, vA, vC]
        simp only [Tryz.f50, tyV, z0, z1, z2, evS, tyS, Bool.not_true, Bool.not_false, Nat.reduceAdd, Nat.reduceSub, Nat.reduceMul, Nat.reduceLT, Nat.reduceLeDiff, Nat.reduceEqDiff, reduceCtorEq, List.reduceReplicate, Int.reduceToNat, Int.reduceLE, Int.reduceLT]
        (repeat' (first | (with_reducible refine And.intro ?_ ?_) | ((first | refine GuardK.intro_f (fun h => ?_) (fun h => ?_) | refine GuardK.intro_t (fun h => ?_) (fun h => ?_) | refine CondK.intro (fun h => ?_) (fun h => ?_) | refine PickK.intro (fun h => ?_) (fun h => ?_)) <;> simp only [h, tyV, z0, z1, z2, evS, tyS, Bool.not_true, Bool.not_false, Nat.reduceAdd, Nat.reduceSub, Nat.reduceMul, Nat.reduceLT, Nat.reduceLeDiff, Nat.reduceEqDiff, reduceCtorEq, List.reduceReplicate, Int.reduceToNat, Int.reduceLE, Int.reduceLT]) | (refine DrawK.intro (by kernel_rfl) (by kernel_rfl) ?_; simp only [tyV, z0, z1, z2, evS, tyS, Bool.not_true, Bool.not_false, Nat.reduceAdd, Nat.reduceSub, Nat.reduceMul, Nat.reduceLT, Nat.reduceLeDiff, Nat.reduceEqDiff, reduceCtorEq, List.reduceReplicate, Int.reduceToNat, Int.reduceLE, Int.reduceLT])))
        all_goals first | done | rfl | trace_state
      · have z2 : (l == [102, 97, 108, 115, 101]) = false := beq_bytes_f h2
        have hlen : 0 < l.length := List.length_pos_iff.2 h0
        by_cases h3 : atL l 0 = 34
        · have e : readF l = (⟨4, 0, 0, 0, 0, (unqO l).1⟩, (unqO l).2) := by unfold readF; rw [if_neg h0, if_neg h1, if_neg h2, if_pos h3]
          rw [e]
          have z3 : ((atL l 0 : Int) == 34) = true := by rw [h3]; rfl
          have k55 := unquoted_ev (γ := γ) l hl
          rw [unqR_eq] at k55
          simp only [readR, vA, vC]
          simp only [Tryz.f50, tyV, z0, z1, z2, ea, z3, evS, tyS, Bool.not_true, Bool.not_false, Nat.reduceAdd, Nat.reduceSub, Nat.reduceMul, Nat.reduceLT, Nat.reduceLeDiff, Nat.reduceEqDiff, reduceCtorEq, List.reduceReplicate, Int.reduceToNat, Int.reduceLE, Int.reduceLT]
          (repeat' (first | (with_reducible refine And.intro ?_ ?_) | ((first | refine GuardK.intro_f (fun h => ?_) (fun h => ?_) | refine GuardK.intro_t (fun h => ?_) (fun h => ?_) | refine CondK.intro (fun h => ?_) (fun h => ?_) | refine PickK.intro (fun h => ?_) (fun h => ?_)) <;> simp only [h, tyV, z0, z1, z2, ea, z3, evS, tyS, Bool.not_true, Bool.not_false, Nat.reduceAdd, Nat.reduceSub, Nat.reduceMul, Nat.reduceLT, Nat.reduceLeDiff, Nat.reduceEqDiff, reduceCtorEq, List.reduceReplicate, Int.reduceToNat, Int.reduceLE, Int.reduceLT]) | (refine DrawK.intro (by kernel_rfl) (by kernel_rfl) ?_; simp only [tyV, z0, z1, z2, ea, z3, evS, tyS, Bool.not_true, Bool.not_false, Nat.reduceAdd, Nat.reduceSub, Nat.reduceMul, Nat.reduceLT, Nat.reduceLeDiff, Nat.reduceEqDiff, reduceCtorEq, List.reduceReplicate, Int.reduceToNat, Int.reduceLE, Int.reduceLT])))
          all_goals try (((try simp only [decide_eq_true_eq, decide_eq_false_iff_not, beq_iff_eq, bne_iff_ne, ne_eq, beq_eq_false_iff_ne, bne_eq_false_iff_eq] at *) <;> (try omega)); done)
          refine CallK.intro b55 rfl k55 ?_
          simp only [tyV, z0, z1, z2, ea, z3, evS, tyS, Bool.not_true, Bool.not_false, Nat.reduceAdd, Nat.reduceSub, Nat.reduceMul, Nat.reduceLT, Nat.reduceLeDiff, Nat.reduceEqDiff, reduceCtorEq, List.reduceReplicate, Int.reduceToNat, Int.reduceLE, Int.reduceLT]
          (repeat' (first | (with_reducible refine And.intro ?_ ?_) | ((first | refine GuardK.intro_f (fun h => ?_) (fun h => ?_) | refine GuardK.intro_t (fun h => ?_) (fun h => ?_) | refine CondK.intro (fun h => ?_) (fun h => ?_) | refine PickK.intro (fun h => ?_) (fun h => ?_)) <;> simp only [h, tyV, z0, z1, z2, ea, z3, evS, tyS, Bool.not_true, Bool.not_false, Nat.reduceAdd, Nat.reduceSub, Nat.reduceMul, Nat.reduceLT, Nat.reduceLeDiff, Nat.reduceEqDiff, reduceCtorEq, List.reduceReplicate, Int.reduceToNat, Int.reduceLE, Int.reduceLT]) | (refine DrawK.intro (by kernel_rfl) (by kernel_rfl) ?_; simp only [tyV, z0, z1, z2, ea, z3, evS, tyS, Bool.not_true, Bool.not_false, Nat.reduceAdd, Nat.reduceSub, Nat.reduceMul, Nat.reduceLT, Nat.reduceLeDiff, Nat.reduceEqDiff, reduceCtorEq, List.reduceReplicate, Int.reduceToNat, Int.reduceLE, Int.reduceLT])))
          all_goals first | done | rfl | trace_state
        · have z3 : ((atL l 0 : Int) == 34) = false := beq_f (by omega)
          by_cases h4 : atL l 0 = 40
          · have e : readF l = (⟨3, 0, 0, (wgtX (readC l).1).1, (wgtX (readC l).2.1).1, []⟩, (wgtX (readC l).1).2 && (wgtX (readC l).2.1).2) := by unfold readF; rw [if_neg h0, if_neg h1, if_neg h2, if_neg h3, if_pos h4]
            rw [e]
            have z4 : ((atL l 0 : Int) == 40) = true := by rw [h4]; rfl
            have hd : (l.drop 1).length ≤ 140737488351232 := by rw [List.length_drop]; omega
            have ht : (trimS (l.drop 1) 41).length ≤ 140737488351232 := Nat.le_trans (trimS_len _ _) hd
            have k57 := trimSuffix_ev (γ := γ) (l.drop 1) hd 41
            have k56 := cut_ev (γ := γ) (trimS (l.drop 1) 41) ht 44
            have hcb := cutB_len (trimS (l.drop 1) 41) 44
            have hC : cutB (trimS (l.drop 1) 41) 44 = readC l := rfl
            rw [hC] at k56 hcb
            simp only [readR, vA, vC]
            simp only [Tryz.f50, tyV, z0, z1, z2, ea, z3, z4, tk, evS, tyS, Bool.not_true, Bool.not_false, Nat.reduceAdd, Nat.reduceSub, Nat.reduceMul, Nat.reduceLT, Nat.reduceLeDiff, Nat.reduceEqDiff, reduceCtorEq, List.reduceReplicate, Int.reduceToNat, Int.reduceLE, Int.reduceLT]
            (repeat' (first | (with_reducible refine And.intro ?_ ?_) | ((first | refine GuardK.intro_f (fun h => ?_) (fun h => ?_) | refine GuardK.intro_t (fun h => ?_) (fun h => ?_) | refine CondK.intro (fun h => ?_) (fun h => ?_) | refine PickK.intro (fun h => ?_) (fun h => ?_)) <;> simp only [h, tyV, z0, z1, z2, ea, z3, z4, tk, evS, tyS, Bool.not_true, Bool.not_false, Nat.reduceAdd, Nat.reduceSub, Nat.reduceMul, Nat.reduceLT, Nat.reduceLeDiff, Nat.reduceEqDiff, reduceCtorEq, List.reduceReplicate, Int.reduceToNat, Int.reduceLE, Int.reduceLT]) | (refine DrawK.intro (by kernel_rfl) (by kernel_rfl) ?_; simp only [tyV, z0, z1, z2, ea, z3, z4, tk, evS, tyS, Bool.not_true, Bool.not_false, Nat.reduceAdd, Nat.reduceSub, Nat.reduceMul, Nat.reduceLT, Nat.reduceLeDiff, Nat.reduceEqDiff, reduceCtorEq, List.reduceReplicate, Int.reduceToNat, Int.reduceLE, Int.reduceLT])))
            all_goals try (((try simp only [decide_eq_true_eq, decide_eq_false_iff_not, beq_iff_eq, bne_iff_ne, ne_eq, beq_eq_false_iff_ne, bne_eq_false_iff_eq] at *) <;> (try omega)); done)
            refine CallK.intro b57 rfl k57 ?_
            simp only [tyV, evS, tyS, Bool.not_true, Bool.not_false, Nat.reduceAdd, Nat.reduceSub, Nat.reduceMul, Nat.reduceLT, Nat.reduceLeDiff, Nat.reduceEqDiff, reduceCtorEq, List.reduceReplicate, Int.reduceToNat, Int.reduceLE, Int.reduceLT]
            (repeat' (first | (with_reducible refine And.intro ?_ ?_) | ((first | refine GuardK.intro_f (fun h => ?_) (fun h => ?_) | refine GuardK.intro_t (fun h => ?_) (fun h => ?_) | refine CondK.intro (fun h => ?_) (fun h => ?_) | refine PickK.intro (fun h => ?_) (fun h => ?_)) <;> simp only [h, tyV, evS, tyS, Bool.not_true, Bool.not_false, Nat.reduceAdd, Nat.reduceSub, Nat.reduceMul, Nat.reduceLT, Nat.reduceLeDiff, Nat.reduceEqDiff, reduceCtorEq, List.reduceReplicate, Int.reduceToNat, Int.reduceLE, Int.reduceLT]) | (refine DrawK.intro (by kernel_rfl) (by kernel_rfl) ?_; simp only [tyV, evS, tyS, Bool.not_true, Bool.not_false, Nat.reduceAdd, Nat.reduceSub, Nat.reduceMul, Nat.reduceLT, Nat.reduceLeDiff, Nat.reduceEqDiff, reduceCtorEq, List.reduceReplicate, Int.reduceToNat, Int.reduceLE, Int.reduceLT])))
            refine CallK.intro b56 rfl k56 ?_
            generalize readC l = cc at hcb ⊢
            obtain ⟨ca, cb, ct⟩ := cc
            simp only at hcb
            have ka := weighed_ev hγ ca (by omega)
            have kb := weighed_ev hγ cb (by omega)
            rw [wgtA_eq] at ka kb
            simp only [cutR]
            simp only [tyV, evS, tyS, Bool.not_true, Bool.not_false, Nat.reduceAdd, Nat.reduceSub, Nat.reduceMul, Nat.reduceLT, Nat.reduceLeDiff, Nat.reduceEqDiff, reduceCtorEq, List.reduceReplicate, Int.reduceToNat, Int.reduceLE, Int.reduceLT]
            (repeat' (first | (with_reducible refine And.intro ?_ ?_) | ((first | refine GuardK.intro_f (fun h => ?_) (fun h => ?_) | refine GuardK.intro_t (fun h => ?_) (fun h => ?_) | refine CondK.intro (fun h => ?_) (fun h => ?_) | refine PickK.intro (fun h => ?_) (fun h => ?_)) <;> simp only [h, tyV, evS, tyS, Bool.not_true, Bool.not_false, Nat.reduceAdd, Nat.reduceSub, Nat.reduceMul, Nat.reduceLT, Nat.reduceLeDiff, Nat.reduceEqDiff, reduceCtorEq, List.reduceReplicate, Int.reduceToNat, Int.reduceLE, Int.reduceLT]) | (refine DrawK.intro (by kernel_rfl) (by kernel_rfl) ?_; simp only [tyV, evS, tyS, Bool.not_true, Bool.not_false, Nat.reduceAdd, Nat.reduceSub, Nat.reduceMul, Nat.reduceLT, Nat.reduceLeDiff, Nat.reduceEqDiff, reduceCtorEq, List.reduceReplicate, Int.reduceToNat, Int.reduceLE, Int.reduceLT])))
            refine CallK.intro b58 rfl ka ?_
            simp only [tyV, evS, tyS, Bool.not_true, Bool.not_false, Nat.reduceAdd, Nat.reduceSub, Nat.reduceMul, Nat.reduceLT, Nat.reduceLeDiff, Nat.reduceEqDiff, reduceCtorEq, List.reduceReplicate, Int.reduceToNat, Int.reduceLE, Int.reduceLT]
            (repeat' (first | (with_reducible refine And.intro ?_ ?_) | ((first | refine GuardK.intro_f (fun h => ?_) (fun h => ?_) | refine GuardK.intro_t (fun h => ?_) (fun h => ?_) | refine CondK.intro (fun h => ?_) (fun h => ?_) | refine PickK.intro (fun h => ?_) (fun h => ?_)) <;> simp only [h, tyV, evS, tyS, Bool.not_true, Bool.not_false, Nat.reduceAdd, Nat.reduceSub, Nat.reduceMul, Nat.reduceLT, Nat.reduceLeDiff, Nat.reduceEqDiff, reduceCtorEq, List.reduceReplicate, Int.reduceToNat, Int.reduceLE, Int.reduceLT]) | (refine DrawK.intro (by kernel_rfl) (by kernel_rfl) ?_; simp only [tyV, evS, tyS, Bool.not_true, Bool.not_false, Nat.reduceAdd, Nat.reduceSub, Nat.reduceMul, Nat.reduceLT, Nat.reduceLeDiff, Nat.reduceEqDiff, reduceCtorEq, List.reduceReplicate, Int.reduceToNat, Int.reduceLE, Int.reduceLT])))
            refine CallK.intro b58 rfl kb ?_
            cases hx : (wgtX ca).2 with
            | true =>
              simp only [tyV, hx, evS, tyS, Bool.not_true, Bool.not_false, Nat.reduceAdd, Nat.reduceSub, Nat.reduceMul, Nat.reduceLT, Nat.reduceLeDiff, Nat.reduceEqDiff, reduceCtorEq, List.reduceReplicate, Int.reduceToNat, Int.reduceLE, Int.reduceLT]
              (repeat' (first | (with_reducible refine And.intro ?_ ?_) | ((first | refine GuardK.intro_f (fun h => ?_) (fun h => ?_) | refine GuardK.intro_t (fun h => ?_) (fun h => ?_) | refine CondK.intro (fun h => ?_) (fun h => ?_) | refine PickK.intro (fun h => ?_) (fun h => ?_)) <;> simp only [h, tyV, hx, evS, tyS, Bool.not_true, Bool.not_false, Nat.reduceAdd, Nat.reduceSub, Nat.reduceMul, Nat.reduceLT, Nat.reduceLeDiff, Nat.reduceEqDiff, reduceCtorEq, List.reduceReplicate, Int.reduceToNat, Int.reduceLE, Int.reduceLT]) | (refine DrawK.intro (by kernel_rfl) (by kernel_rfl) ?_; simp only [tyV, hx, evS, tyS, Bool.not_true, Bool.not_false, Nat.reduceAdd, Nat.reduceSub, Nat.reduceMul, Nat.reduceLT, Nat.reduceLeDiff, Nat.reduceEqDiff, reduceCtorEq, List.reduceReplicate, Int.reduceToNat, Int.reduceLE, Int.reduceLT])))
              all_goals first | done | rfl | trace_state
            | false =>
              simp only [tyV, hx, evS, tyS, Bool.not_true, Bool.not_false, Nat.reduceAdd, Nat.reduceSub, Nat.reduceMul, Nat.reduceLT, Nat.reduceLeDiff, Nat.reduceEqDiff, reduceCtorEq, List.reduceReplicate, Int.reduceToNat, Int.reduceLE, Int.reduceLT]
              (repeat' (first | (with_reducible refine And.intro ?_ ?_) | ((first | refine GuardK.intro_f (fun h => ?_) (fun h => ?_) | refine GuardK.intro_t (fun h => ?_) (fun h => ?_) | refine CondK.intro (fun h => ?_) (fun h => ?_) | refine PickK.intro (fun h => ?_) (fun h => ?_)) <;> simp only [h, tyV, hx, evS, tyS, Bool.not_true, Bool.not_false, Nat.reduceAdd, Nat.reduceSub, Nat.reduceMul, Nat.reduceLT, Nat.reduceLeDiff, Nat.reduceEqDiff, reduceCtorEq, List.reduceReplicate, Int.reduceToNat, Int.reduceLE, Int.reduceLT]) | (refine DrawK.intro (by kernel_rfl) (by kernel_rfl) ?_; simp only [tyV, hx, evS, tyS, Bool.not_true, Bool.not_false, Nat.reduceAdd, Nat.reduceSub, Nat.reduceMul, Nat.reduceLT, Nat.reduceLeDiff, Nat.reduceEqDiff, reduceCtorEq, List.reduceReplicate, Int.reduceToNat, Int.reduceLE, Int.reduceLT])))
              all_goals first | done | rfl | trace_state
          · have z4 : ((atL l 0 : Int) == 40) = false := beq_f (by omega)
            have k59 := parseInt59G_ev hγ l hl
            by_cases h5 : (scanI l).1 = 0
            · have e : readF l = (⟨1, (scanI l).2, 0, 0, 0, []⟩, true) := by unfold readF; rw [if_neg h0, if_neg h1, if_neg h2, if_neg h3, if_neg h4, if_pos h5]
              rw [e]
              rw [h5, eErr_zero] at k59
              simp only [readR, vA, vC]
              simp only [Tryz.f50, tyV, z0, z1, z2, ea, z3, z4, evS, tyS, Bool.not_true, Bool.not_false, Nat.reduceAdd, Nat.reduceSub, Nat.reduceMul, Nat.reduceLT, Nat.reduceLeDiff, Nat.reduceEqDiff, reduceCtorEq, List.reduceReplicate, Int.reduceToNat, Int.reduceLE, Int.reduceLT]
              (repeat' (first | (with_reducible refine And.intro ?_ ?_) | ((first | refine GuardK.intro_f (fun h => ?_) (fun h => ?_) | refine GuardK.intro_t (fun h => ?_) (fun h => ?_) | refine CondK.intro (fun h => ?_) (fun h => ?_) | refine PickK.intro (fun h => ?_) (fun h => ?_)) <;> simp only [h, tyV, z0, z1, z2, ea, z3, z4, evS, tyS, Bool.not_true, Bool.not_false, Nat.reduceAdd, Nat.reduceSub, Nat.reduceMul, Nat.reduceLT, Nat.reduceLeDiff, Nat.reduceEqDiff, reduceCtorEq, List.reduceReplicate, Int.reduceToNat, Int.reduceLE, Int.reduceLT]) | (refine DrawK.intro (by kernel_rfl) (by kernel_rfl) ?_; simp only [tyV, z0, z1, z2, ea, z3, z4, evS, tyS, Bool.not_true, Bool.not_false, Nat.reduceAdd, Nat.reduceSub, Nat.reduceMul, Nat.reduceLT, Nat.reduceLeDiff, Nat.reduceEqDiff, reduceCtorEq, List.reduceReplicate, Int.reduceToNat, Int.reduceLE, Int.reduceLT])))
              all_goals try (((try simp only [decide_eq_true_eq, decide_eq_false_iff_not, beq_iff_eq, bne_iff_ne, ne_eq, beq_eq_false_iff_ne, bne_eq_false_iff_eq] at *) <;> (try omega)); done)
              refine CallK.intro b59 rfl k59 ?_
              simp only [tyV, tyP, tyQ, evS, tyS, Bool.not_true, Bool.not_false, Nat.reduceAdd, Nat.reduceSub, Nat.reduceMul, Nat.reduceLT, Nat.reduceLeDiff, Nat.reduceEqDiff, reduceCtorEq, List.reduceReplicate, Int.reduceToNat, Int.reduceLE, Int.reduceLT]
              (repeat' (first | (with_reducible refine And.intro ?_ ?_) | ((first | refine GuardK.intro_f (fun h => ?_) (fun h => ?_) | refine GuardK.intro_t (fun h => ?_) (fun h => ?_) | refine CondK.intro (fun h => ?_) (fun h => ?_) | refine PickK.intro (fun h => ?_) (fun h => ?_)) <;> simp only [h, tyV, tyP, tyQ, evS, tyS, Bool.not_true, Bool.not_false, Nat.reduceAdd, Nat.reduceSub, Nat.reduceMul, Nat.reduceLT, Nat.reduceLeDiff, Nat.reduceEqDiff, reduceCtorEq, List.reduceReplicate, Int.reduceToNat, Int.reduceLE, Int.reduceLT]) | (refine DrawK.intro (by kernel_rfl) (by kernel_rfl) ?_; simp only [tyV, tyP, tyQ, evS, tyS, Bool.not_true, Bool.not_false, Nat.reduceAdd, Nat.reduceSub, Nat.reduceMul, Nat.reduceLT, Nat.reduceLeDiff, Nat.reduceEqDiff, reduceCtorEq, List.reduceReplicate, Int.reduceToNat, Int.reduceLE, Int.reduceLT])))
              all_goals first | done | rfl | trace_state
            · have e : readF l = (⟨2, 0, (wgtX l).1, 0, 0, []⟩, (wgtX l).2) := by unfold readF; rw [if_neg h0, if_neg h1, if_neg h2, if_neg h3, if_neg h4, if_neg h5]
              rw [e]
              rw [eErr_pos h5] at k59
              have k58 := weighed_ev hγ l hl
              rw [wgtA_eq] at k58
              simp only [readR, vA, vC]
              simp only [Tryz.f50, tyV, z0, z1, z2, ea, z3, z4, evS, tyS, Bool.not_true, Bool.not_false, Nat.reduceAdd, Nat.reduceSub, Nat.reduceMul, Nat.reduceLT, Nat.reduceLeDiff, Nat.reduceEqDiff, reduceCtorEq, List.reduceReplicate, Int.reduceToNat, Int.reduceLE, Int.reduceLT]
              (repeat' (first | (with_reducible refine And.intro ?_ ?_) | ((first | refine GuardK.intro_f (fun h => ?_) (fun h => ?_) | refine GuardK.intro_t (fun h => ?_) (fun h => ?_) | refine CondK.intro (fun h => ?_) (fun h => ?_) | refine PickK.intro (fun h => ?_) (fun h => ?_)) <;> simp only [h, tyV, z0, z1, z2, ea, z3, z4, evS, tyS, Bool.not_true, Bool.not_false, Nat.reduceAdd, Nat.reduceSub, Nat.reduceMul, Nat.reduceLT, Nat.reduceLeDiff, Nat.reduceEqDiff, reduceCtorEq, List.reduceReplicate, Int.reduceToNat, Int.reduceLE, Int.reduceLT]) | (refine DrawK.intro (by kernel_rfl) (by kernel_rfl) ?_; simp only [tyV, z0, z1, z2, ea, z3, z4, evS, tyS, Bool.not_true, Bool.not_false, Nat.reduceAdd, Nat.reduceSub, Nat.reduceMul, Nat.reduceLT, Nat.reduceLeDiff, Nat.reduceEqDiff, reduceCtorEq, List.reduceReplicate, Int.reduceToNat, Int.reduceLE, Int.reduceLT])))
              all_goals try (((try simp only [decide_eq_true_eq, decide_eq_false_iff_not, beq_iff_eq, bne_iff_ne, ne_eq, beq_eq_false_iff_ne, bne_eq_false_iff_eq] at *) <;> (try omega)); done)
              refine CallK.intro b59 rfl k59 ?_
              simp only [tyV, tyP, tyQ, evS, tyS, Bool.not_true, Bool.not_false, Nat.reduceAdd, Nat.reduceSub, Nat.reduceMul, Nat.reduceLT, Nat.reduceLeDiff, Nat.reduceEqDiff, reduceCtorEq, List.reduceReplicate, Int.reduceToNat, Int.reduceLE, Int.reduceLT]
              (repeat' (first | (with_reducible refine And.intro ?_ ?_) | ((first | refine GuardK.intro_f (fun h => ?_) (fun h => ?_) | refine GuardK.intro_t (fun h => ?_) (fun h => ?_) | refine CondK.intro (fun h => ?_) (fun h => ?_) | refine PickK.intro (fun h => ?_) (fun h => ?_)) <;> simp only [h, tyV, tyP, tyQ, evS, tyS, Bool.not_true, Bool.not_false, Nat.reduceAdd, Nat.reduceSub, Nat.reduceMul, Nat.reduceLT, Nat.reduceLeDiff, Nat.reduceEqDiff, reduceCtorEq, List.reduceReplicate, Int.reduceToNat, Int.reduceLE, Int.reduceLT]) | (refine DrawK.intro (by kernel_rfl) (by kernel_rfl) ?_; simp only [tyV, tyP, tyQ, evS, tyS, Bool.not_true, Bool.not_false, Nat.reduceAdd, Nat.reduceSub, Nat.reduceMul, Nat.reduceLT, Nat.reduceLeDiff, Nat.reduceEqDiff, reduceCtorEq, List.reduceReplicate, Int.reduceToNat, Int.reduceLE, Int.reduceLT])))
              refine CallK.intro b58 rfl k58 ?_
              simp only [tyV, tyP, tyQ, evS, tyS, Bool.not_true, Bool.not_false, Nat.reduceAdd, Nat.reduceSub, Nat.reduceMul, Nat.reduceLT, Nat.reduceLeDiff, Nat.reduceEqDiff, reduceCtorEq, List.reduceReplicate, Int.reduceToNat, Int.reduceLE, Int.reduceLT]
              (repeat' (first | (with_reducible refine And.intro ?_ ?_) | ((first | refine GuardK.intro_f (fun h => ?_) (fun h => ?_) | refine GuardK.intro_t (fun h => ?_) (fun h => ?_) | refine CondK.intro (fun h => ?_) (fun h => ?_) | refine PickK.intro (fun h => ?_) (fun h => ?_)) <;> simp only [h, tyV, tyP, tyQ, evS, tyS, Bool.not_true, Bool.not_false, Nat.reduceAdd, Nat.reduceSub, Nat.reduceMul, Nat.reduceLT, Nat.reduceLeDiff, Nat.reduceEqDiff, reduceCtorEq, List.reduceReplicate, Int.reduceToNat, Int.reduceLE, Int.reduceLT]) | (refine DrawK.intro (by kernel_rfl) (by kernel_rfl) ?_; simp only [tyV, tyP, tyQ, evS, tyS, Bool.not_true, Bool.not_false, Nat.reduceAdd, Nat.reduceSub, Nat.reduceMul, Nat.reduceLT, Nat.reduceLeDiff, Nat.reduceEqDiff, reduceCtorEq, List.reduceReplicate, Int.reduceToNat, Int.reduceLE, Int.reduceLT])))
              all_goals first | done | rfl | trace_state
def parseF (l : List UInt8) : VD × Int := if (readF l).2 && mayF (readF l).1 && (printF (readF l).1 == l) then ((readF l).1, 0) else (zeroV, 20)
set_option maxHeartbeats 4000000 in
set_option maxRecDepth 20000 in
theorem parse_ev (hγ : GlN γ) (l : List UInt8) (hl : l.length ≤ 140737488351232) : Ev Tryz.prog γ 12 [.v (.string ⟨l.toArray⟩)] (.tup [vA (parseF l).1, .v (.int .i64 (parseF l).2)]) := by
  refine Ev.of Tryz.func12 rfl ?_
  have k35 := read_ev hγ l hl
  have k26 := may_ev (γ := γ) (readF l).1
  have k27 := print_ev hγ (readF l).1 (readF_ok l)
  unfold parseF
  generalize readF l = r at k35 k26 k27 ⊢
  obtain ⟨v, ok⟩ := r
  simp only [readR, vA, vC] at k35 k26 k27 ⊢
  simp only [Tryz.f12, tyV, evS, tyS, Bool.not_true, Bool.not_false, Nat.reduceAdd, Nat.reduceSub, Nat.reduceMul, Nat.reduceLT, Nat.reduceLeDiff, Nat.reduceEqDiff, reduceCtorEq, List.reduceReplicate, Int.reduceToNat, Int.reduceLE, Int.reduceLT]
  refine CallK.intro b35 rfl k35 ?_
  cases ok with
  | false =>
    simp only [Bool.false_and, Bool.false_eq_true, if_false, zeroV]
    simp only [tyV, evS, tyS, Bool.not_true, Bool.not_false, Nat.reduceAdd, Nat.reduceSub, Nat.reduceMul, Nat.reduceLT, Nat.reduceLeDiff, Nat.reduceEqDiff, reduceCtorEq, List.reduceReplicate, Int.reduceToNat, Int.reduceLE, Int.reduceLT]
    (repeat' (first | (with_reducible refine And.intro ?_ ?_) | ((first | refine GuardK.intro_f (fun h => ?_) (fun h => ?_) | refine GuardK.intro_t (fun h => ?_) (fun h => ?_) | refine CondK.intro (fun h => ?_) (fun h => ?_) | refine PickK.intro (fun h => ?_) (fun h => ?_)) <;> simp only [h, tyV, evS, tyS, Bool.not_true, Bool.not_false, Nat.reduceAdd, Nat.reduceSub, Nat.reduceMul, Nat.reduceLT, Nat.reduceLeDiff, Nat.reduceEqDiff, reduceCtorEq, List.reduceReplicate, Int.reduceToNat, Int.reduceLE, Int.reduceLT]) | (refine DrawK.intro (by kernel_rfl) (by kernel_rfl) ?_; simp only [tyV, evS, tyS, Bool.not_true, Bool.not_false, Nat.reduceAdd, Nat.reduceSub, Nat.reduceMul, Nat.reduceLT, Nat.reduceLeDiff, Nat.reduceEqDiff, reduceCtorEq, List.reduceReplicate, Int.reduceToNat, Int.reduceLE, Int.reduceLT])))
    all_goals first | done | rfl | trace_state
  | true =>
    cases hm : mayF v with
    | false =>
      rw [hm] at k26
      simp only [Bool.true_and, Bool.false_and, Bool.false_eq_true, if_false, zeroV]
      simp only [tyV, evS, tyS, Bool.not_true, Bool.not_false, Nat.reduceAdd, Nat.reduceSub, Nat.reduceMul, Nat.reduceLT, Nat.reduceLeDiff, Nat.reduceEqDiff, reduceCtorEq, List.reduceReplicate, Int.reduceToNat, Int.reduceLE, Int.reduceLT]
      (repeat' (first | (with_reducible refine And.intro ?_ ?_) | ((first | refine GuardK.intro_f (fun h => ?_) (fun h => ?_) | refine GuardK.intro_t (fun h => ?_) (fun h => ?_) | refine CondK.intro (fun h => ?_) (fun h => ?_) | refine PickK.intro (fun h => ?_) (fun h => ?_)) <;> simp only [h, tyV, evS, tyS, Bool.not_true, Bool.not_false, Nat.reduceAdd, Nat.reduceSub, Nat.reduceMul, Nat.reduceLT, Nat.reduceLeDiff, Nat.reduceEqDiff, reduceCtorEq, List.reduceReplicate, Int.reduceToNat, Int.reduceLE, Int.reduceLT]) | (refine DrawK.intro (by kernel_rfl) (by kernel_rfl) ?_; simp only [tyV, evS, tyS, Bool.not_true, Bool.not_false, Nat.reduceAdd, Nat.reduceSub, Nat.reduceMul, Nat.reduceLT, Nat.reduceLeDiff, Nat.reduceEqDiff, reduceCtorEq, List.reduceReplicate, Int.reduceToNat, Int.reduceLE, Int.reduceLT])))
      refine CallK.intro b26 rfl k26 ?_
      simp only [tyV, evS, tyS, Bool.not_true, Bool.not_false, Nat.reduceAdd, Nat.reduceSub, Nat.reduceMul, Nat.reduceLT, Nat.reduceLeDiff, Nat.reduceEqDiff, reduceCtorEq, List.reduceReplicate, Int.reduceToNat, Int.reduceLE, Int.reduceLT]
      (repeat' (first | (with_reducible refine And.intro ?_ ?_) | ((first | refine GuardK.intro_f (fun h => ?_) (fun h => ?_) | refine GuardK.intro_t (fun h => ?_) (fun h => ?_) | refine CondK.intro (fun h => ?_) (fun h => ?_) | refine PickK.intro (fun h => ?_) (fun h => ?_)) <;> simp only [h, tyV, evS, tyS, Bool.not_true, Bool.not_false, Nat.reduceAdd, Nat.reduceSub, Nat.reduceMul, Nat.reduceLT, Nat.reduceLeDiff, Nat.reduceEqDiff, reduceCtorEq, List.reduceReplicate, Int.reduceToNat, Int.reduceLE, Int.reduceLT]) | (refine DrawK.intro (by kernel_rfl) (by kernel_rfl) ?_; simp only [tyV, evS, tyS, Bool.not_true, Bool.not_false, Nat.reduceAdd, Nat.reduceSub, Nat.reduceMul, Nat.reduceLT, Nat.reduceLeDiff, Nat.reduceEqDiff, reduceCtorEq, List.reduceReplicate, Int.reduceToNat, Int.reduceLE, Int.reduceLT])))
      all_goals first | done | rfl | trace_state
    | true =>
      rw [hm] at k26
      cases hp : (printF v == l) with
      | true =>
        simp only [Bool.true_and, Bool.and_self, if_true]
        simp only [tyV, evS, tyS, Bool.not_true, Bool.not_false, Nat.reduceAdd, Nat.reduceSub, Nat.reduceMul, Nat.reduceLT, Nat.reduceLeDiff, Nat.reduceEqDiff, reduceCtorEq, List.reduceReplicate, Int.reduceToNat, Int.reduceLE, Int.reduceLT]
        (repeat' (first | (with_reducible refine And.intro ?_ ?_) | ((first | refine GuardK.intro_f (fun h => ?_) (fun h => ?_) | refine GuardK.intro_t (fun h => ?_) (fun h => ?_) | refine CondK.intro (fun h => ?_) (fun h => ?_) | refine PickK.intro (fun h => ?_) (fun h => ?_)) <;> simp only [h, tyV, evS, tyS, Bool.not_true, Bool.not_false, Nat.reduceAdd, Nat.reduceSub, Nat.reduceMul, Nat.reduceLT, Nat.reduceLeDiff, Nat.reduceEqDiff, reduceCtorEq, List.reduceReplicate, Int.reduceToNat, Int.reduceLE, Int.reduceLT]) | (refine DrawK.intro (by kernel_rfl) (by kernel_rfl) ?_; simp only [tyV, evS, tyS, Bool.not_true, Bool.not_false, Nat.reduceAdd, Nat.reduceSub, Nat.reduceMul, Nat.reduceLT, Nat.reduceLeDiff, Nat.reduceEqDiff, reduceCtorEq, List.reduceReplicate, Int.reduceToNat, Int.reduceLE, Int.reduceLT])))
        refine CallK.intro b26 rfl k26 ?_
        simp only [tyV, evS, tyS, Bool.not_true, Bool.not_false, Nat.reduceAdd, Nat.reduceSub, Nat.reduceMul, Nat.reduceLT, Nat.reduceLeDiff, Nat.reduceEqDiff, reduceCtorEq, List.reduceReplicate, Int.reduceToNat, Int.reduceLE, Int.reduceLT]
        (repeat' (first | (with_reducible refine And.intro ?_ ?_) | ((first | refine GuardK.intro_f (fun h => ?_) (fun h => ?_) | refine GuardK.intro_t (fun h => ?_) (fun h => ?_) | refine CondK.intro (fun h => ?_) (fun h => ?_) | refine PickK.intro (fun h => ?_) (fun h => ?_)) <;> simp only [h, tyV, evS, tyS, Bool.not_true, Bool.not_false, Nat.reduceAdd, Nat.reduceSub, Nat.reduceMul, Nat.reduceLT, Nat.reduceLeDiff, Nat.reduceEqDiff, reduceCtorEq, List.reduceReplicate, Int.reduceToNat, Int.reduceLE, Int.reduceLT]) | (refine DrawK.intro (by kernel_rfl) (by kernel_rfl) ?_; simp only [tyV, evS, tyS, Bool.not_true, Bool.not_false, Nat.reduceAdd, Nat.reduceSub, Nat.reduceMul, Nat.reduceLT, Nat.reduceLeDiff, Nat.reduceEqDiff, reduceCtorEq, List.reduceReplicate, Int.reduceToNat, Int.reduceLE, Int.reduceLT])))
        refine CallK.intro b27 rfl k27 ?_
        simp only [tyV, hp, evS, tyS, Bool.not_true, Bool.not_false, Nat.reduceAdd, Nat.reduceSub, Nat.reduceMul, Nat.reduceLT, Nat.reduceLeDiff, Nat.reduceEqDiff, reduceCtorEq, List.reduceReplicate, Int.reduceToNat, Int.reduceLE, Int.reduceLT]
        (repeat' (first | (with_reducible refine And.intro ?_ ?_) | ((first | refine GuardK.intro_f (fun h => ?_) (fun h => ?_) | refine GuardK.intro_t (fun h => ?_) (fun h => ?_) | refine CondK.intro (fun h => ?_) (fun h => ?_) | refine PickK.intro (fun h => ?_) (fun h => ?_)) <;> simp only [h, tyV, hp, evS, tyS, Bool.not_true, Bool.not_false, Nat.reduceAdd, Nat.reduceSub, Nat.reduceMul, Nat.reduceLT, Nat.reduceLeDiff, Nat.reduceEqDiff, reduceCtorEq, List.reduceReplicate, Int.reduceToNat, Int.reduceLE, Int.reduceLT]) | (refine DrawK.intro (by kernel_rfl) (by kernel_rfl) ?_; simp only [tyV, hp, evS, tyS, Bool.not_true, Bool.not_false, Nat.reduceAdd, Nat.reduceSub, Nat.reduceMul, Nat.reduceLT, Nat.reduceLeDiff, Nat.reduceEqDiff, reduceCtorEq, List.reduceReplicate, Int.reduceToNat, Int.reduceLE, Int.reduceLT])))
        all_goals first | done | rfl | trace_state
      | false =>
        simp only [Bool.true_and, Bool.and_self, Bool.false_eq_true, if_false, zeroV]
        simp only [tyV, evS, tyS, Bool.not_true, Bool.not_false, Nat.reduceAdd, Nat.reduceSub, Nat.reduceMul, Nat.reduceLT, Nat.reduceLeDiff, Nat.reduceEqDiff, reduceCtorEq, List.reduceReplicate, Int.reduceToNat, Int.reduceLE, Int.reduceLT]
        (repeat' (first | (with_reducible refine And.intro ?_ ?_) | ((first | refine GuardK.intro_f (fun h => ?_) (fun h => ?_) | refine GuardK.intro_t (fun h => ?_) (fun h => ?_) | refine CondK.intro (fun h => ?_) (fun h => ?_) | refine PickK.intro (fun h => ?_) (fun h => ?_)) <;> simp only [h, tyV, evS, tyS, Bool.not_true, Bool.not_false, Nat.reduceAdd, Nat.reduceSub, Nat.reduceMul, Nat.reduceLT, Nat.reduceLeDiff, Nat.reduceEqDiff, reduceCtorEq, List.reduceReplicate, Int.reduceToNat, Int.reduceLE, Int.reduceLT]) | (refine DrawK.intro (by kernel_rfl) (by kernel_rfl) ?_; simp only [tyV, evS, tyS, Bool.not_true, Bool.not_false, Nat.reduceAdd, Nat.reduceSub, Nat.reduceMul, Nat.reduceLT, Nat.reduceLeDiff, Nat.reduceEqDiff, reduceCtorEq, List.reduceReplicate, Int.reduceToNat, Int.reduceLE, Int.reduceLT])))
        refine CallK.intro b26 rfl k26 ?_
        simp only [tyV, evS, tyS, Bool.not_true, Bool.not_false, Nat.reduceAdd, Nat.reduceSub, Nat.reduceMul, Nat.reduceLT, Nat.reduceLeDiff, Nat.reduceEqDiff, reduceCtorEq, List.reduceReplicate, Int.reduceToNat, Int.reduceLE, Int.reduceLT]
        (repeat' (first | (with_reducible refine And.intro ?_ ?_) | ((first | refine GuardK.intro_f (fun h => ?_) (fun h => ?_) | refine GuardK.intro_t (fun h => ?_) (fun h => ?_) | refine CondK.intro (fun h => ?_) (fun h => ?_) | refine PickK.intro (fun h => ?_) (fun h => ?_)) <;> simp only [h, tyV, evS, tyS, Bool.not_true, Bool.not_false, Nat.reduceAdd, Nat.reduceSub, Nat.reduceMul, Nat.reduceLT, Nat.reduceLeDiff, Nat.reduceEqDiff, reduceCtorEq, List.reduceReplicate, Int.reduceToNat, Int.reduceLE, Int.reduceLT]) | (refine DrawK.intro (by kernel_rfl) (by kernel_rfl) ?_; simp only [tyV, evS, tyS, Bool.not_true, Bool.not_false, Nat.reduceAdd, Nat.reduceSub, Nat.reduceMul, Nat.reduceLT, Nat.reduceLeDiff, Nat.reduceEqDiff, reduceCtorEq, List.reduceReplicate, Int.reduceToNat, Int.reduceLE, Int.reduceLT])))
        refine CallK.intro b27 rfl k27 ?_
        simp only [tyV, hp, evS, tyS, Bool.not_true, Bool.not_false, Nat.reduceAdd, Nat.reduceSub, Nat.reduceMul, Nat.reduceLT, Nat.reduceLeDiff, Nat.reduceEqDiff, reduceCtorEq, List.reduceReplicate, Int.reduceToNat, Int.reduceLE, Int.reduceLT]
        (repeat' (first | (with_reducible refine And.intro ?_ ?_) | ((first | refine GuardK.intro_f (fun h => ?_) (fun h => ?_) | refine GuardK.intro_t (fun h => ?_) (fun h => ?_) | refine CondK.intro (fun h => ?_) (fun h => ?_) | refine PickK.intro (fun h => ?_) (fun h => ?_)) <;> simp only [h, tyV, hp, evS, tyS, Bool.not_true, Bool.not_false, Nat.reduceAdd, Nat.reduceSub, Nat.reduceMul, Nat.reduceLT, Nat.reduceLeDiff, Nat.reduceEqDiff, reduceCtorEq, List.reduceReplicate, Int.reduceToNat, Int.reduceLE, Int.reduceLT]) | (refine DrawK.intro (by kernel_rfl) (by kernel_rfl) ?_; simp only [tyV, hp, evS, tyS, Bool.not_true, Bool.not_false, Nat.reduceAdd, Nat.reduceSub, Nat.reduceMul, Nat.reduceLT, Nat.reduceLeDiff, Nat.reduceEqDiff, reduceCtorEq, List.reduceReplicate, Int.reduceToNat, Int.reduceLE, Int.reduceLT])))
        all_goals first | done | rfl | trace_state
end Go.Proofs.YtlobiioioicmhaaGreatDoor
