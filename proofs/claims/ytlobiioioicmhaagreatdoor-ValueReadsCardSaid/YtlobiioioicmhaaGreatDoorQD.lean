/- Contracts of the functions that the law reaches. -/
import Derived.Test.YtlobiioioicmhaaGreatDoorQC
import Derived.Test.YtlobiioioicmhaaGreatDoorQ8
/- ValueReads: for every text and every kind the law answers true. -/
namespace Go.Proofs.YtlobiioioicmhaaGreatDoor
set_option linter.all false
open Go Go.Ev
set_option maxRecDepth 20000
variable {γ : List (Nat × AV)}
theorem zeroV_ok : okV zeroV := ⟨by show (_:Int) ≤ 0; omega, by show (0:Int) ≤ _; omega, by show 0 < _; omega, by show 0 < _; omega, by show 0 < _; omega⟩
theorem rparseF_ok (l : List UInt8) : okV (rparseF l).1 := by
  unfold rparseF
  repeat' split
  all_goals first | exact zeroV_ok | exact rreadF_ok l
theorem parseF_ok (l : List UInt8) : okV (parseF l).1 := by
  unfold parseF
  split
  · exact readF_ok l
  · exact zeroV_ok
theorem c17 : bodyT Tryz.prog 17 := ⟨_, Tryz.func17, by kernel_rfl, by kernel_rfl⟩
theorem valueReads_ev (hγ : GlN γ) (l : List UInt8) (hl : l.length ≤ 140737488351232) (k : Int) : Ev Tryz.prog γ 3 [.v (.string ⟨l.toArray⟩), .v (.int .i64 k)] (.v (.bool true)) := by
  have k1 := parse_ev hγ l hl
  have k2 := rparse_ev (γ := γ) l hl
  have k3 := type_ev (γ := γ) l
  have k4 := rtype_ev (γ := γ) l
  have k5 := fields_ev (γ := γ) _ _ (parse_same l).1 (parseF_ok l) (rparseF_ok l)
  have he := (parse_same l).2
  have k6 := num_ev (γ := γ) (parseF l).2
  have k7 := name_ev (γ := γ) k
  have k8 := rname_ev (γ := γ) k
  have k9 := name_ev (γ := γ) (typeF l).1
  have k10 := rname_ev (γ := γ) (typeF l).1
  generalize parseF l = p at *
  generalize rparseF l = q at *
  generalize typeF l = t at *
  generalize nameF t.1 = nt at *
  generalize nameF k = nk at *
  obtain ⟨v, e⟩ := p
  obtain ⟨w, f⟩ := q
  obtain ⟨t1, t2⟩ := t
  simp only at he
  subst he
  have z1 : (e == e) = true := beq_self_eq_true e
  have z2 : (t1 == t1) = true := beq_self_eq_true t1
  have z4 : (nt == nt) = true := beq_self_eq_true nt
  have z5 : (nk == nk) = true := beq_self_eq_true nk
  simp only [vA, vC, typA, strA] at k1 k2 k3 k4 k5 k6 k7 k8 k9 k10
  have b4 : binS.isBoolT Tryz.prog 4 = true := by kernel_rfl
  have z3 : (t2 == t2) = true := beq_self_eq_true t2
  cases t2
  all_goals
    refine Ev.of Tryz.func3 rfl ?_
    simp only [Tryz.f3, tyV, evS, tyS, Bool.not_true, Bool.not_false, Nat.reduceAdd, Nat.reduceSub, Nat.reduceMul, Nat.reduceLT, Nat.reduceLeDiff, Nat.reduceEqDiff, reduceCtorEq, List.reduceReplicate, Int.reduceToNat, Int.reduceLE, Int.reduceLT]
    refine CallK.intro b25 rfl k1 ?_
    simp only [tyV, evS, tyS, Bool.not_true, Bool.not_false, Nat.reduceAdd, Nat.reduceSub, Nat.reduceMul, Nat.reduceLT, Nat.reduceLeDiff, Nat.reduceEqDiff, reduceCtorEq, List.reduceReplicate, Int.reduceToNat, Int.reduceLE, Int.reduceLT]
    refine CallK.intro c13 rfl k2 ?_
    simp only [tyV, evS, tyS, Bool.not_true, Bool.not_false, Nat.reduceAdd, Nat.reduceSub, Nat.reduceMul, Nat.reduceLT, Nat.reduceLeDiff, Nat.reduceEqDiff, reduceCtorEq, List.reduceReplicate, Int.reduceToNat, Int.reduceLE, Int.reduceLT]
    refine CallK.intro c14 rfl k3 ?_
    simp only [tyV, evS, tyS, Bool.not_true, Bool.not_false, Nat.reduceAdd, Nat.reduceSub, Nat.reduceMul, Nat.reduceLT, Nat.reduceLeDiff, Nat.reduceEqDiff, reduceCtorEq, List.reduceReplicate, Int.reduceToNat, Int.reduceLE, Int.reduceLT]
    refine CallK.intro c15 rfl k4 ?_
    simp only [tyV, evS, tyS, Bool.not_true, Bool.not_false, Nat.reduceAdd, Nat.reduceSub, Nat.reduceMul, Nat.reduceLT, Nat.reduceLeDiff, Nat.reduceEqDiff, reduceCtorEq, List.reduceReplicate, Int.reduceToNat, Int.reduceLE, Int.reduceLT]
    refine CallK.intro c16 rfl k6 ?_
    simp only [tyV, z1, evS, tyS, Bool.not_true, Bool.not_false, Nat.reduceAdd, Nat.reduceSub, Nat.reduceMul, Nat.reduceLT, Nat.reduceLeDiff, Nat.reduceEqDiff, reduceCtorEq, List.reduceReplicate, Int.reduceToNat, Int.reduceLE, Int.reduceLT]
    refine CallK.intro c17 rfl k5 ?_
    simp only [tyV, z2, b4, z3, evS, tyS, Bool.not_true, Bool.not_false, Nat.reduceAdd, Nat.reduceSub, Nat.reduceMul, Nat.reduceLT, Nat.reduceLeDiff, Nat.reduceEqDiff, reduceCtorEq, List.reduceReplicate, Int.reduceToNat, Int.reduceLE, Int.reduceLT]
    refine CallK.intro c18 rfl k7 ?_
    simp only [tyV, evS, tyS, Bool.not_true, Bool.not_false, Nat.reduceAdd, Nat.reduceSub, Nat.reduceMul, Nat.reduceLT, Nat.reduceLeDiff, Nat.reduceEqDiff, reduceCtorEq, List.reduceReplicate, Int.reduceToNat, Int.reduceLE, Int.reduceLT]
    refine CallK.intro c19 rfl k8 ?_
    simp only [tyV, z5, evS, tyS, Bool.not_true, Bool.not_false, Nat.reduceAdd, Nat.reduceSub, Nat.reduceMul, Nat.reduceLT, Nat.reduceLeDiff, Nat.reduceEqDiff, reduceCtorEq, List.reduceReplicate, Int.reduceToNat, Int.reduceLE, Int.reduceLT]
    refine CallK.intro c18 rfl k9 ?_
    simp only [tyV, evS, tyS, Bool.not_true, Bool.not_false, Nat.reduceAdd, Nat.reduceSub, Nat.reduceMul, Nat.reduceLT, Nat.reduceLeDiff, Nat.reduceEqDiff, reduceCtorEq, List.reduceReplicate, Int.reduceToNat, Int.reduceLE, Int.reduceLT]
    refine CallK.intro c19 rfl k10 ?_
    simp only [tyV, z4, evS, tyS, Bool.not_true, Bool.not_false, Nat.reduceAdd, Nat.reduceSub, Nat.reduceMul, Nat.reduceLT, Nat.reduceLeDiff, Nat.reduceEqDiff, reduceCtorEq, List.reduceReplicate, Int.reduceToNat, Int.reduceLE, Int.reduceLT]
    all_goals first | done | rfl | trace_state
end Go.Proofs.YtlobiioioicmhaaGreatDoor
