/- Contracts of the functions that the law reaches. -/
import Derived.Test.YtlobiioioicmhaaGreatDoorQ9
/- The document's reader of a real's text, walked. -/
namespace Go.Proofs.YtlobiioioicmhaaGreatDoor
set_option linter.all false
open Go Go.Ev
set_option maxRecDepth 20000
variable {γ : List (Nat × AV)}
theorem preB_at {l : List UInt8} (h : 0 < l.length) (c : UInt8) : preB l c = ((atL l 0 : Int) == (c.toNat : Int)) := by
  cases l with
  | nil => simp at h
  | cons d r =>
    rw [preB_cons]
    have e : atL (d :: r) 0 = d.toNat := rfl
    rw [e]
    by_cases hd : d = c
    · subst hd; simp
    · rw [decide_eq_false hd]
      have : d.toNat ≠ c.toNat := fun hc => hd (UInt8.toNat_inj.1 hc)
      exact (beq_f (by omega)).symm
def rwA (r : Nat × Bool) : AV := .tup [.v (.float .f64 r.1), .v (.bool r.2)]
def sgF (s : Bool) : Nat := if s = true then 13830554455654793216 else 4607182418800017408
/-- Behind its sign: the value of a real's text. -/
def rmag (s : Bool) (r : List UInt8) : Nat × Bool :=
  if r = infT then (if s = true then Op.negFloat .f64 9218868437227405312 else 9218868437227405312, true)
  else if findC 112 r 0 = r.length then (0, false)
  else if (numR (r.take (findC 112 r 0))).2 = false ∨ (numR (cutP (r.drop (findC 112 r 0 + 1)) 45)).2 = false ∨ 9007199254740992 ≤ (numR (r.take (findC 112 r 0))).1 ∨ 1074 < (numR (cutP (r.drop (findC 112 r 0 + 1)) 45)).1 then (0, false)
  else (if s = true then Op.negFloat .f64 (realB (numR (r.take (findC 112 r 0))).1 (if preB (r.drop (findC 112 r 0 + 1)) 45 = true then -((numR (cutP (r.drop (findC 112 r 0 + 1)) 45)).1 : Int) else (numR (cutP (r.drop (findC 112 r 0 + 1)) 45)).1)) else (realB (numR (r.take (findC 112 r 0))).1 (if preB (r.drop (findC 112 r 0 + 1)) 45 = true then -((numR (cutP (r.drop (findC 112 r 0 + 1)) 45)).1 : Int) else (numR (cutP (r.drop (findC 112 r 0 + 1)) 45)).1)), true)
theorem rwgt_mag {l : List UInt8} (h : l ≠ nanT) : rwgt l = rmag (preB l 45) (cutP l 45) := by
  unfold rwgt rmag
  rw [if_neg h]
/-- Twice, or half, as often as it is said. -/
theorem rw_loop2 {c : Code} (hc : Tryz.f106.body.bind (pieceC [1, 1, 1, 1, 1, 1, 1, 1, 1, 1, 1, 1, 1, 1, 1, 0, 1, 2, 3]) = some c) {m : Nat} (hm : m < 9007199254740992) {e : Nat} (he : e ≤ 1074) {dn : Bool} {S : AV} {Q : Post} {s : St}
    (hw : s.weak ⟨⟨104, [(13, .v (.int .u64 0)), (12, flA (realB m 0)), (10, .v (.int .u64 e)), (9, .v (.bool dn)), (4, S)], γ⟩, []⟩)
    (hex : Q (.exit 2) ⟨⟨104, [(93, .v (.bool false)), (92, .v (.int .u64 e)), (91, .v (.int .u64 e)), (13, .v (.int .u64 e)), (12, flA (realB m (if dn = true then -(e : Int) else e))), (10, .v (.int .u64 e)), (9, .v (.bool dn)), (4, S)], γ⟩, []⟩) : LoopK (kwp Tryz.prog c) Q s := by
  obtain rfl := Option.some.inj (hc.symm.trans rfl)
  clear hc
  refine LoopK.intro (fun j : Nat => ⟨⟨104, [(13, .v (.int .u64 j)), (12, flA (realB m (if dn = true then -(j : Int) else j))), (10, .v (.int .u64 e)), (9, .v (.bool dn)), (4, S)], γ⟩, []⟩) (fun j => j ≤ e) (fun j => e - j) 0 ?_ (Nat.zero_le _) ?_
  · cases dn <;> simpa using hw
  · intro j hj
    by_cases hje : j = e
    · subst hje
      have d1 : decide ((j : Int) < (j : Int)) = false := decide_eq_false (by omega)
      have d2 : decide (j < j) = false := decide_eq_false (by omega)
      unfold flA at *
      simp only [d1, d2, evS, tyS, Bool.not_true, Bool.not_false, Nat.reduceAdd, Nat.reduceSub, Nat.reduceMul, Nat.reduceLT, Nat.reduceLeDiff, Nat.reduceEqDiff, reduceCtorEq, List.reduceReplicate, Int.reduceToNat, Int.reduceLE, Int.reduceLT]
      all_goals first | exact hex | trace_state
    · have d1 : decide ((j : Int) < (e : Int)) = true := decide_eq_true (by omega)
      have d2 : decide (j < e) = true := decide_eq_true (by omega)
      have w : IntKind.u64.wrap ((j : Int) + 1) = ((j + 1 : Nat) : Int) := (u64w (by omega) (by omega)).trans (by omega)
      cases dn with
      | true =>
        have k := div_real hm (e := -(j : Int)) (by omega) (by omega)
        rw [show -(j : Int) - 1 = -((j + 1 : Nat) : Int) by omega] at k
        simp only [if_true]
        unfold flA
        simp only [d1, d2, k, w, evS, tyS, Bool.not_true, Bool.not_false, Nat.reduceAdd, Nat.reduceSub, Nat.reduceMul, Nat.reduceLT, Nat.reduceLeDiff, Nat.reduceEqDiff, reduceCtorEq, List.reduceReplicate, Int.reduceToNat, Int.reduceLE, Int.reduceLT]
        refine loopC.intro (j + 1) (by omega) ?_ (by omega)
        try simp only [if_true, reduceIte]
        simp only [evS, tyS, Bool.not_true, Bool.not_false, Nat.reduceAdd, Nat.reduceSub, Nat.reduceMul, Nat.reduceLT, Nat.reduceLeDiff, Nat.reduceEqDiff, reduceCtorEq, List.reduceReplicate, Int.reduceToNat, Int.reduceLE, Int.reduceLT]
        all_goals first | done | rfl | exact .inl rfl | trace_state
      | false =>
        have k := mul_real hm (e := (j : Int)) (by omega)
        rw [show (j : Int) + 1 = ((j + 1 : Nat) : Int) by omega] at k
        simp only [Bool.false_eq_true, if_false]
        unfold flA
        simp only [d1, d2, k, w, evS, tyS, Bool.not_true, Bool.not_false, Nat.reduceAdd, Nat.reduceSub, Nat.reduceMul, Nat.reduceLT, Nat.reduceLeDiff, Nat.reduceEqDiff, reduceCtorEq, List.reduceReplicate, Int.reduceToNat, Int.reduceLE, Int.reduceLT]
        refine loopC.intro (j + 1) (by omega) ?_ (by omega)
        try simp only [Bool.false_eq_true, if_false, reduceIte]
        simp only [evS, tyS, Bool.not_true, Bool.not_false, Nat.reduceAdd, Nat.reduceSub, Nat.reduceMul, Nat.reduceLT, Nat.reduceLeDiff, Nat.reduceEqDiff, reduceCtorEq, List.reduceReplicate, Int.reduceToNat, Int.reduceLE, Int.reduceLT]
        all_goals first | done | rfl | exact .inl rfl | trace_state
set_option maxHeartbeats 8000000 in
theorem rweighed_ev (l : List UInt8) (hl : l.length ≤ 140737488351232) : Ev Tryz.prog γ 106 [.v (.string ⟨l.toArray⟩)] (rwA (rwgt l)) := by
  refine Ev.of Tryz.func106 rfl ?_
  have ea : ∀ (l : List UInt8) j, (l.getD j 0).toNat = atL l j := fun _ _ => rfl
  have tk : ∀ l : List UInt8, l.take l.length = l := fun _ => List.take_length
  by_cases h1 : l = nanT
  · have z1 : (l == [110, 97, 110]) = true := by rw [h1]; rfl
    have e : rwA (rwgt l) = .tup [.v (.float .f64 9221120237041090561), .v (.bool true)] := by rw [h1, rwgt_nan]; rfl
    rw [e]
    simp only [Tryz.f106, z1, evS, tyS, Bool.not_true, Bool.not_false, Nat.reduceAdd, Nat.reduceSub, Nat.reduceMul, Nat.reduceLT, Nat.reduceLeDiff, Nat.reduceEqDiff, reduceCtorEq, List.reduceReplicate, Int.reduceToNat, Int.reduceLE, Int.reduceLT]
    refine CallK.intro b85 rfl nan_ev ?_
    simp only [evS, tyS, Bool.not_true, Bool.not_false, Nat.reduceAdd, Nat.reduceSub, Nat.reduceMul, Nat.reduceLT, Nat.reduceLeDiff, Nat.reduceEqDiff, reduceCtorEq, List.reduceReplicate, Int.reduceToNat, Int.reduceLE, Int.reduceLT]
    all_goals first | done | rfl | trace_state
  · have z1 : (l == [110, 97, 110]) = false := beq_bytes_f h1
    rw [rwgt_mag h1]
    by_cases h0 : l = []
    · subst h0
      have e : rwA (rmag (preB [] 45) (cutP [] 45)) = .tup [.v (.float .f64 0), .v (.bool false)] := rfl
      rw [e]
      have y1 : (([] : List UInt8) == [110, 97, 110]) = false := rfl
      have y2 : (([] : List UInt8) == [105, 110, 102]) = false := rfl
      have dz : decide ((0 : Int) < ((0 : Nat) : Int)) = false := by decide
      have dz2 : decide ((0 : Int) < 0) = false := by decide
      have dz3 : decide (0 < 0) = false := by decide
      have ez : (((0 : Nat) : Int) == ((0 : Nat) : Int)) = true := rfl
      have ez2 : ((0 : Int) == 0) = true := rfl
      simp only [Tryz.f106, y1, y2, dz, dz2, dz3, evS, tyS, Bool.not_true, Bool.not_false, Nat.reduceAdd, Nat.reduceSub, Nat.reduceMul, Nat.reduceLT, Nat.reduceLeDiff, Nat.reduceEqDiff, reduceCtorEq, List.reduceReplicate, Int.reduceToNat, Int.reduceLE, Int.reduceLT]
      refine LoopK.intro (fun j : Nat => ⟨⟨104, [(5, .v (.int .i64 j)), (4, flA 4607182418800017408), (0, .v (.string ⟨#[]⟩))], γ⟩, []⟩) (fun j => j = 0) (fun j => j) 0 ?_ rfl ?_
      · exact ⟨rfl, rfl, ⟨rfl, rfl, rfl, trivial⟩, .inl rfl⟩
      · intro j hj
        subst hj
        unfold flA
        simp only [dz, dz2, dz3, ez, ez2, evS, tyS, Bool.not_true, Bool.not_false, Nat.reduceAdd, Nat.reduceSub, Nat.reduceMul, Nat.reduceLT, Nat.reduceLeDiff, Nat.reduceEqDiff, reduceCtorEq, List.reduceReplicate, Int.reduceToNat, Int.reduceLE, Int.reduceLT]
        all_goals try (((try simp only [decide_eq_true_eq, decide_eq_false_iff_not, beq_iff_eq, bne_iff_ne, ne_eq, beq_eq_false_iff_ne, bne_eq_false_iff_eq] at *) <;> (try omega)); done)
        all_goals first | done | rfl | trace_state
    · have hlen : 0 < l.length := List.length_pos_iff.2 h0
      have d0 : decide (0 < l.length) = true := decide_eq_true hlen
      have d0' : decide ((0 : Int) < (l.length : Int)) = true := decide_eq_true (by omega)
      have zs := preB_at hlen 45
      have hcl := cutP_len l 45
      have hT : preB l 45 = true → l.drop 1 = cutP l 45 := fun hs => by unfold cutP; rw [if_pos hs]
      have hF : preB l 45 = false → l = cutP l 45 := fun hs => by unfold cutP; rw [if_neg (by rw [hs]; simp)]
      have isg := inf_sign (preB l 45)
      have msg := fun {m : Nat} (h : m < 9007199254740992) {e : Int} (he : -1074 ≤ e) => mul_sign (preB l 45) h he
      generalize hr : cutP l 45 = r at hcl hT hF ⊢
      generalize hs : preB l 45 = s at zs hT hF isg msg ⊢
      have zs' : ((atL l 0 : Int) == 45) = s := zs.symm
      have hrl : r.length ≤ 140737488351232 := by omega
      by_cases hi : r = infT
      · have z2 : (r == [105, 110, 102]) = true := by rw [hi]; rfl
        have e : rmag s r = (if s = true then Op.negFloat .f64 9218868437227405312 else 9218868437227405312, true) := by unfold rmag; rw [if_pos hi]
        rw [e]
        cases s with
        | true =>
          have hT' := hT rfl
          simp only [Tryz.f106, z1, d0, d0', ea, zs', tk, hT', z2, evS, tyS, Bool.not_true, Bool.not_false, Nat.reduceAdd, Nat.reduceSub, Nat.reduceMul, Nat.reduceLT, Nat.reduceLeDiff, Nat.reduceEqDiff, reduceCtorEq, List.reduceReplicate, Int.reduceToNat, Int.reduceLE, Int.reduceLT]
          (repeat' (first | (with_reducible refine And.intro ?_ ?_) | ((first | refine GuardK.intro_f (fun h => ?_) (fun h => ?_) | refine GuardK.intro_t (fun h => ?_) (fun h => ?_) | refine CondK.intro (fun h => ?_) (fun h => ?_) | refine PickK.intro (fun h => ?_) (fun h => ?_)) <;> simp only [h, z1, d0, d0', ea, zs', tk, hT', z2, evS, tyS, Bool.not_true, Bool.not_false, Nat.reduceAdd, Nat.reduceSub, Nat.reduceMul, Nat.reduceLT, Nat.reduceLeDiff, Nat.reduceEqDiff, reduceCtorEq, List.reduceReplicate, Int.reduceToNat, Int.reduceLE, Int.reduceLT]) | (refine DrawK.intro (by kernel_rfl) (by kernel_rfl) ?_; simp only [z1, d0, d0', ea, zs', tk, hT', z2, evS, tyS, Bool.not_true, Bool.not_false, Nat.reduceAdd, Nat.reduceSub, Nat.reduceMul, Nat.reduceLT, Nat.reduceLeDiff, Nat.reduceEqDiff, reduceCtorEq, List.reduceReplicate, Int.reduceToNat, Int.reduceLE, Int.reduceLT])))
          all_goals try (((try simp only [decide_eq_true_eq, decide_eq_false_iff_not, beq_iff_eq, bne_iff_ne, ne_eq, beq_eq_false_iff_ne, bne_eq_false_iff_eq] at *) <;> (try omega)); done)
          refine CallK.intro b86 rfl inf_ev ?_
          simp only [if_true] at isg ⊢
          simp only [isg, rwA, evS, tyS, Bool.not_true, Bool.not_false, Nat.reduceAdd, Nat.reduceSub, Nat.reduceMul, Nat.reduceLT, Nat.reduceLeDiff, Nat.reduceEqDiff, reduceCtorEq, List.reduceReplicate, Int.reduceToNat, Int.reduceLE, Int.reduceLT]
          all_goals first | done | rfl | trace_state
        | false =>
          have z2l : (l == [105, 110, 102]) = true := by rw [hF rfl]; exact z2
          simp only [Tryz.f106, z1, d0, d0', ea, zs', z2l, evS, tyS, Bool.not_true, Bool.not_false, Nat.reduceAdd, Nat.reduceSub, Nat.reduceMul, Nat.reduceLT, Nat.reduceLeDiff, Nat.reduceEqDiff, reduceCtorEq, List.reduceReplicate, Int.reduceToNat, Int.reduceLE, Int.reduceLT]
          (repeat' (first | (with_reducible refine And.intro ?_ ?_) | ((first | refine GuardK.intro_f (fun h => ?_) (fun h => ?_) | refine GuardK.intro_t (fun h => ?_) (fun h => ?_) | refine CondK.intro (fun h => ?_) (fun h => ?_) | refine PickK.intro (fun h => ?_) (fun h => ?_)) <;> simp only [h, z1, d0, d0', ea, zs', z2l, evS, tyS, Bool.not_true, Bool.not_false, Nat.reduceAdd, Nat.reduceSub, Nat.reduceMul, Nat.reduceLT, Nat.reduceLeDiff, Nat.reduceEqDiff, reduceCtorEq, List.reduceReplicate, Int.reduceToNat, Int.reduceLE, Int.reduceLT]) | (refine DrawK.intro (by kernel_rfl) (by kernel_rfl) ?_; simp only [z1, d0, d0', ea, zs', z2l, evS, tyS, Bool.not_true, Bool.not_false, Nat.reduceAdd, Nat.reduceSub, Nat.reduceMul, Nat.reduceLT, Nat.reduceLeDiff, Nat.reduceEqDiff, reduceCtorEq, List.reduceReplicate, Int.reduceToNat, Int.reduceLE, Int.reduceLT])))
          all_goals try (((try simp only [decide_eq_true_eq, decide_eq_false_iff_not, beq_iff_eq, bne_iff_ne, ne_eq, beq_eq_false_iff_ne, bne_eq_false_iff_eq] at *) <;> (try omega)); done)
          refine CallK.intro b86 rfl inf_ev ?_
          simp only [Bool.false_eq_true, if_false] at isg ⊢
          simp only [isg, rwA, evS, tyS, Bool.not_true, Bool.not_false, Nat.reduceAdd, Nat.reduceSub, Nat.reduceMul, Nat.reduceLT, Nat.reduceLeDiff, Nat.reduceEqDiff, reduceCtorEq, List.reduceReplicate, Int.reduceToNat, Int.reduceLE, Int.reduceLT]
          all_goals first | done | rfl | trace_state
      · have z2 : (r == [105, 110, 102]) = false := beq_bytes_f hi
        unfold rmag
        rw [if_neg hi]
        cases s with
        | true =>
          have hT' := hT rfl
          simp only [Tryz.f106, z1, d0, d0', ea, zs', tk, hT', z2, evS, tyS, Bool.not_true, Bool.not_false, Nat.reduceAdd, Nat.reduceSub, Nat.reduceMul, Nat.reduceLT, Nat.reduceLeDiff, Nat.reduceEqDiff, reduceCtorEq, List.reduceReplicate, Int.reduceToNat, Int.reduceLE, Int.reduceLT]
          (repeat' (first | (with_reducible refine And.intro ?_ ?_) | ((first | refine GuardK.intro_f (fun h => ?_) (fun h => ?_) | refine GuardK.intro_t (fun h => ?_) (fun h => ?_) | refine CondK.intro (fun h => ?_) (fun h => ?_) | refine PickK.intro (fun h => ?_) (fun h => ?_)) <;> simp only [h, z1, d0, d0', ea, zs', tk, hT', z2, evS, tyS, Bool.not_true, Bool.not_false, Nat.reduceAdd, Nat.reduceSub, Nat.reduceMul, Nat.reduceLT, Nat.reduceLeDiff, Nat.reduceEqDiff, reduceCtorEq, List.reduceReplicate, Int.reduceToNat, Int.reduceLE, Int.reduceLT]) | (refine DrawK.intro (by kernel_rfl) (by kernel_rfl) ?_; simp only [z1, d0, d0', ea, zs', tk, hT', z2, evS, tyS, Bool.not_true, Bool.not_false, Nat.reduceAdd, Nat.reduceSub, Nat.reduceMul, Nat.reduceLT, Nat.reduceLeDiff, Nat.reduceEqDiff, reduceCtorEq, List.reduceReplicate, Int.reduceToNat, Int.reduceLE, Int.reduceLT])))
          all_goals try (((try simp only [decide_eq_true_eq, decide_eq_false_iff_not, beq_iff_eq, bne_iff_ne, ne_eq, beq_eq_false_iff_ne, bne_eq_false_iff_eq] at *) <;> (try omega)); done)
          refine LoopK.intro (fun j : Nat => ⟨⟨104, [(5, .v (.int .i64 j)), (4, flA (sgF true)), (0, .v (.string ⟨r.toArray⟩))], γ⟩, []⟩) (fun j => j ≤ r.length ∧ findC 112 r j = findC 112 r 0) (fun j => r.length - j) 0 ?_ ⟨Nat.zero_le _, rfl⟩ ?_
          · exact ⟨rfl, rfl, ⟨rfl, rfl, rfl, trivial⟩, .inl rfl⟩
          · rintro j ⟨hj, hfc⟩
            unfold flA sgF
            by_cases hjl : j < r.length
            · have d1 : decide (j < r.length) = true := decide_eq_true hjl
              have d1' : decide ((j : Int) < (r.length : Int)) = true := decide_eq_true (by omega)
              by_cases hp : r.getD j 0 = 112
              · have z : ((atL r j : Int) != 112) = false := by unfold atL; rw [hp]; rfl
                have hj0 : findC 112 r 0 = j := by rw [← hfc]; exact findC_stop hjl hp
                have zl : ((j : Int) == (r.length : Int)) = false := beq_f (by omega)
                have w1 : IntKind.i64.wrap ((j : Int) + 1) = ((j + 1 : Nat) : Int) := by rw [i64w] <;> omega
                have td : List.drop 0 (r.take j) = r.take j := rfl
                rw [hj0, if_neg (show ¬ j = r.length by omega)]
                have ka := number_ev (γ := γ) (r.take j) (by rw [List.length_take]; omega)
                have hal := numR_lt (r.take j)
                generalize hA : numR (r.take j) = A at ka hal ⊢
                obtain ⟨am, ab⟩ := A
                generalize ht : r.drop (j + 1) = t
                have htl : t.length ≤ 140737488351232 := by rw [← ht, List.length_drop]; omega
                have hct := cutP_len t 45
                have kb := number_ev (γ := γ) (cutP t 45) (by omega)
                have hbl := numR_lt (cutP t 45)
                generalize hB : numR (cutP t 45) = B at kb hbl ⊢
                obtain ⟨bm, bb⟩ := B
                simp only [numA] at ka kb hal hbl ⊢
                simp only [d1, d1', ea, z, zl, w1, td, tk, ht, evS, tyS, Bool.not_true, Bool.not_false, Nat.reduceAdd, Nat.reduceSub, Nat.reduceMul, Nat.reduceLT, Nat.reduceLeDiff, Nat.reduceEqDiff, reduceCtorEq, List.reduceReplicate, Int.reduceToNat, Int.reduceLE, Int.reduceLT]
                (repeat' (first | (with_reducible refine And.intro ?_ ?_) | ((first | refine GuardK.intro_f (fun h => ?_) (fun h => ?_) | refine GuardK.intro_t (fun h => ?_) (fun h => ?_) | refine CondK.intro (fun h => ?_) (fun h => ?_) | refine PickK.intro (fun h => ?_) (fun h => ?_)) <;> simp only [h, d1, d1', ea, z, zl, w1, td, tk, ht, evS, tyS, Bool.not_true, Bool.not_false, Nat.reduceAdd, Nat.reduceSub, Nat.reduceMul, Nat.reduceLT, Nat.reduceLeDiff, Nat.reduceEqDiff, reduceCtorEq, List.reduceReplicate, Int.reduceToNat, Int.reduceLE, Int.reduceLT]) | (refine DrawK.intro (by kernel_rfl) (by kernel_rfl) ?_; simp only [d1, d1', ea, z, zl, w1, td, tk, ht, evS, tyS, Bool.not_true, Bool.not_false, Nat.reduceAdd, Nat.reduceSub, Nat.reduceMul, Nat.reduceLT, Nat.reduceLeDiff, Nat.reduceEqDiff, reduceCtorEq, List.reduceReplicate, Int.reduceToNat, Int.reduceLE, Int.reduceLT])))
                all_goals try (((try simp only [decide_eq_true_eq, decide_eq_false_iff_not, beq_iff_eq, bne_iff_ne, ne_eq, beq_eq_false_iff_ne, bne_eq_false_iff_eq] at *) <;> (try omega)); done)
                refine CallK.intro c107 rfl ka ?_
                have dn : ∃ dn, preB t 45 = dn ∧ ((t = [] ∧ dn = false) ∨ (0 < t.length ∧ ((atL t 0 : Int) == 45) = dn)) := by
                  refine ⟨_, rfl, ?_⟩
                  by_cases h0 : t = []
                  · exact .inl ⟨h0, by rw [h0]; rfl⟩
                  · have hp := List.length_pos_iff.2 h0
                    exact .inr ⟨hp, (preB_at hp 45).symm⟩
                obtain ⟨dn, hdn, hdc⟩ := dn
                have hcutT : dn = true → t.drop 1 = cutP t 45 := fun h => by unfold cutP; rw [if_pos (hdn.trans h)]
                have hcutF : dn = false → t = cutP t 45 := fun h => by unfold cutP; rw [if_neg (by rw [hdn, h]; simp)]
                rw [hdn]
                rcases hdc with ⟨h0, hd⟩ | ⟨hp0, hz⟩
                · subst hd
                  have ht0 : cutP t 45 = [] := by rw [← hcutF rfl, h0]
                  rw [ht0] at kb
                  subst h0
                  simp only [w1, ht, tk, evS, tyS, Bool.not_true, Bool.not_false, Nat.reduceAdd, Nat.reduceSub, Nat.reduceMul, Nat.reduceLT, Nat.reduceLeDiff, Nat.reduceEqDiff, reduceCtorEq, List.reduceReplicate, Int.reduceToNat, Int.reduceLE, Int.reduceLT]
                  (repeat' (first | (with_reducible refine And.intro ?_ ?_) | ((first | refine GuardK.intro_f (fun h => ?_) (fun h => ?_) | refine GuardK.intro_t (fun h => ?_) (fun h => ?_) | refine CondK.intro (fun h => ?_) (fun h => ?_) | refine PickK.intro (fun h => ?_) (fun h => ?_)) <;> simp only [h, w1, ht, tk, evS, tyS, Bool.not_true, Bool.not_false, Nat.reduceAdd, Nat.reduceSub, Nat.reduceMul, Nat.reduceLT, Nat.reduceLeDiff, Nat.reduceEqDiff, reduceCtorEq, List.reduceReplicate, Int.reduceToNat, Int.reduceLE, Int.reduceLT]) | (refine DrawK.intro (by kernel_rfl) (by kernel_rfl) ?_; simp only [w1, ht, tk, evS, tyS, Bool.not_true, Bool.not_false, Nat.reduceAdd, Nat.reduceSub, Nat.reduceMul, Nat.reduceLT, Nat.reduceLeDiff, Nat.reduceEqDiff, reduceCtorEq, List.reduceReplicate, Int.reduceToNat, Int.reduceLE, Int.reduceLT])))
                  all_goals try (((try simp only [decide_eq_true_eq, decide_eq_false_iff_not, beq_iff_eq, bne_iff_ne, ne_eq, beq_eq_false_iff_ne, bne_eq_false_iff_eq] at *) <;> (try omega)); done)
                  refine CallK.intro c107 rfl kb ?_
                  by_cases hbad : ab = false ∨ bb = false ∨ 9007199254740992 ≤ am ∨ 1074 < bm
                  · rw [if_pos hbad]
                    cases ab with
                    | false => simp only [rwA, evS, tyS, Bool.not_true, Bool.not_false, Nat.reduceAdd, Nat.reduceSub, Nat.reduceMul, Nat.reduceLT, Nat.reduceLeDiff, Nat.reduceEqDiff, reduceCtorEq, List.reduceReplicate, Int.reduceToNat, Int.reduceLE, Int.reduceLT]; (repeat' (first | (with_reducible refine And.intro ?_ ?_) | ((first | refine GuardK.intro_f (fun h => ?_) (fun h => ?_) | refine GuardK.intro_t (fun h => ?_) (fun h => ?_) | refine CondK.intro (fun h => ?_) (fun h => ?_) | refine PickK.intro (fun h => ?_) (fun h => ?_)) <;> simp only [h, rwA, evS, tyS, Bool.not_true, Bool.not_false, Nat.reduceAdd, Nat.reduceSub, Nat.reduceMul, Nat.reduceLT, Nat.reduceLeDiff, Nat.reduceEqDiff, reduceCtorEq, List.reduceReplicate, Int.reduceToNat, Int.reduceLE, Int.reduceLT]) | (refine DrawK.intro (by kernel_rfl) (by kernel_rfl) ?_; simp only [rwA, evS, tyS, Bool.not_true, Bool.not_false, Nat.reduceAdd, Nat.reduceSub, Nat.reduceMul, Nat.reduceLT, Nat.reduceLeDiff, Nat.reduceEqDiff, reduceCtorEq, List.reduceReplicate, Int.reduceToNat, Int.reduceLE, Int.reduceLT]))); all_goals first | done | rfl | trace_state
                    | true =>
                      cases bb with
                      | false => simp only [rwA, evS, tyS, Bool.not_true, Bool.not_false, Nat.reduceAdd, Nat.reduceSub, Nat.reduceMul, Nat.reduceLT, Nat.reduceLeDiff, Nat.reduceEqDiff, reduceCtorEq, List.reduceReplicate, Int.reduceToNat, Int.reduceLE, Int.reduceLT]; (repeat' (first | (with_reducible refine And.intro ?_ ?_) | ((first | refine GuardK.intro_f (fun h => ?_) (fun h => ?_) | refine GuardK.intro_t (fun h => ?_) (fun h => ?_) | refine CondK.intro (fun h => ?_) (fun h => ?_) | refine PickK.intro (fun h => ?_) (fun h => ?_)) <;> simp only [h, rwA, evS, tyS, Bool.not_true, Bool.not_false, Nat.reduceAdd, Nat.reduceSub, Nat.reduceMul, Nat.reduceLT, Nat.reduceLeDiff, Nat.reduceEqDiff, reduceCtorEq, List.reduceReplicate, Int.reduceToNat, Int.reduceLE, Int.reduceLT]) | (refine DrawK.intro (by kernel_rfl) (by kernel_rfl) ?_; simp only [rwA, evS, tyS, Bool.not_true, Bool.not_false, Nat.reduceAdd, Nat.reduceSub, Nat.reduceMul, Nat.reduceLT, Nat.reduceLeDiff, Nat.reduceEqDiff, reduceCtorEq, List.reduceReplicate, Int.reduceToNat, Int.reduceLE, Int.reduceLT]))); all_goals first | done | rfl | trace_state
                      | true =>
                        by_cases h53 : 9007199254740992 ≤ am
                        · have q1 : decide ((9007199254740992 : Int) ≤ (am : Int)) = true := decide_eq_true (by omega)
                          have q1' : decide (9007199254740992 ≤ am) = true := decide_eq_true (by omega)
                          simp only [q1, q1', rwA, evS, tyS, Bool.not_true, Bool.not_false, Nat.reduceAdd, Nat.reduceSub, Nat.reduceMul, Nat.reduceLT, Nat.reduceLeDiff, Nat.reduceEqDiff, reduceCtorEq, List.reduceReplicate, Int.reduceToNat, Int.reduceLE, Int.reduceLT]; (repeat' (first | (with_reducible refine And.intro ?_ ?_) | ((first | refine GuardK.intro_f (fun h => ?_) (fun h => ?_) | refine GuardK.intro_t (fun h => ?_) (fun h => ?_) | refine CondK.intro (fun h => ?_) (fun h => ?_) | refine PickK.intro (fun h => ?_) (fun h => ?_)) <;> simp only [h, q1, q1', rwA, evS, tyS, Bool.not_true, Bool.not_false, Nat.reduceAdd, Nat.reduceSub, Nat.reduceMul, Nat.reduceLT, Nat.reduceLeDiff, Nat.reduceEqDiff, reduceCtorEq, List.reduceReplicate, Int.reduceToNat, Int.reduceLE, Int.reduceLT]) | (refine DrawK.intro (by kernel_rfl) (by kernel_rfl) ?_; simp only [q1, q1', rwA, evS, tyS, Bool.not_true, Bool.not_false, Nat.reduceAdd, Nat.reduceSub, Nat.reduceMul, Nat.reduceLT, Nat.reduceLeDiff, Nat.reduceEqDiff, reduceCtorEq, List.reduceReplicate, Int.reduceToNat, Int.reduceLE, Int.reduceLT]))); all_goals first | done | rfl | trace_state
                        · have q1 : decide ((9007199254740992 : Int) ≤ (am : Int)) = false := decide_eq_false (by omega)
                          have q1' : decide (9007199254740992 ≤ am) = false := decide_eq_false (by omega)
                          have q2 : decide ((1074 : Int) < (bm : Int)) = true := decide_eq_true (by rcases hbad with h | h | h | h; cases h; cases h; omega; omega)
                          have q2' : decide (1074 < bm) = true := decide_eq_true (by rcases hbad with h | h | h | h; cases h; cases h; omega; omega)
                          simp only [q1, q1', q2, q2', rwA, evS, tyS, Bool.not_true, Bool.not_false, Nat.reduceAdd, Nat.reduceSub, Nat.reduceMul, Nat.reduceLT, Nat.reduceLeDiff, Nat.reduceEqDiff, reduceCtorEq, List.reduceReplicate, Int.reduceToNat, Int.reduceLE, Int.reduceLT]; (repeat' (first | (with_reducible refine And.intro ?_ ?_) | ((first | refine GuardK.intro_f (fun h => ?_) (fun h => ?_) | refine GuardK.intro_t (fun h => ?_) (fun h => ?_) | refine CondK.intro (fun h => ?_) (fun h => ?_) | refine PickK.intro (fun h => ?_) (fun h => ?_)) <;> simp only [h, q1, q1', q2, q2', rwA, evS, tyS, Bool.not_true, Bool.not_false, Nat.reduceAdd, Nat.reduceSub, Nat.reduceMul, Nat.reduceLT, Nat.reduceLeDiff, Nat.reduceEqDiff, reduceCtorEq, List.reduceReplicate, Int.reduceToNat, Int.reduceLE, Int.reduceLT]) | (refine DrawK.intro (by kernel_rfl) (by kernel_rfl) ?_; simp only [q1, q1', q2, q2', rwA, evS, tyS, Bool.not_true, Bool.not_false, Nat.reduceAdd, Nat.reduceSub, Nat.reduceMul, Nat.reduceLT, Nat.reduceLeDiff, Nat.reduceEqDiff, reduceCtorEq, List.reduceReplicate, Int.reduceToNat, Int.reduceLE, Int.reduceLT]))); all_goals first | done | rfl | trace_state
                  · rw [if_neg hbad]
                    have hab : ab = true := by cases ab with | true => rfl | false => exact absurd (.inl rfl) hbad
                    have hbb : bb = true := by cases bb with | true => rfl | false => exact absurd (.inr (.inl rfl)) hbad
                    subst hab
                    subst hbb
                    have q1 : decide ((9007199254740992 : Int) ≤ (am : Int)) = false := decide_eq_false (by omega)
                    have q1' : decide (9007199254740992 ≤ am) = false := decide_eq_false (by omega)
                    have q2 : decide ((1074 : Int) < (bm : Int)) = false := decide_eq_false (by omega)
                    have q2' : decide (1074 < bm) = false := decide_eq_false (by omega)
                    have hn := near_eq am (by omega)
                    simp only [q1, q1', q2, q2', hn, evS, tyS, Bool.not_true, Bool.not_false, Nat.reduceAdd, Nat.reduceSub, Nat.reduceMul, Nat.reduceLT, Nat.reduceLeDiff, Nat.reduceEqDiff, reduceCtorEq, List.reduceReplicate, Int.reduceToNat, Int.reduceLE, Int.reduceLT]
                    refine rw_loop2 (γ := γ) (m := am) (e := bm) (dn := false) (S := .v (.float .f64 (sgF true))) (by kernel_rfl) (by omega) (by omega) ?_ ?_
                    · exact ⟨rfl, rfl, ⟨rfl, rfl, rfl, rfl, rfl, trivial⟩, .inl rfl⟩
                    have ms := msg (m := am) (by omega) (e := (if false = true then -(bm : Int) else bm)) (by first | (simp only [if_true]; omega) | (simp only [Bool.false_eq_true, if_false]; omega))
                    simp only [if_true, Bool.false_eq_true, if_false, sgF, flA] at ms ⊢
                    simp only [ms, rwA, evS, tyS, Bool.not_true, Bool.not_false, Nat.reduceAdd, Nat.reduceSub, Nat.reduceMul, Nat.reduceLT, Nat.reduceLeDiff, Nat.reduceEqDiff, reduceCtorEq, List.reduceReplicate, Int.reduceToNat, Int.reduceLE, Int.reduceLT]
                    all_goals first | done | rfl | trace_state
                · have e1 : decide (0 < t.length) = true := decide_eq_true hp0
                  have e1' : decide ((0 : Int) < (t.length : Int)) = true := decide_eq_true (by omega)
                  cases dn with
                  | true =>
                    have hct2 := hcutT rfl
                    simp only [w1, ht, tk, e1, e1', ea, hz, hct2, evS, tyS, Bool.not_true, Bool.not_false, Nat.reduceAdd, Nat.reduceSub, Nat.reduceMul, Nat.reduceLT, Nat.reduceLeDiff, Nat.reduceEqDiff, reduceCtorEq, List.reduceReplicate, Int.reduceToNat, Int.reduceLE, Int.reduceLT]
                    (repeat' (first | (with_reducible refine And.intro ?_ ?_) | ((first | refine GuardK.intro_f (fun h => ?_) (fun h => ?_) | refine GuardK.intro_t (fun h => ?_) (fun h => ?_) | refine CondK.intro (fun h => ?_) (fun h => ?_) | refine PickK.intro (fun h => ?_) (fun h => ?_)) <;> simp only [h, w1, ht, tk, e1, e1', ea, hz, hct2, evS, tyS, Bool.not_true, Bool.not_false, Nat.reduceAdd, Nat.reduceSub, Nat.reduceMul, Nat.reduceLT, Nat.reduceLeDiff, Nat.reduceEqDiff, reduceCtorEq, List.reduceReplicate, Int.reduceToNat, Int.reduceLE, Int.reduceLT]) | (refine DrawK.intro (by kernel_rfl) (by kernel_rfl) ?_; simp only [w1, ht, tk, e1, e1', ea, hz, hct2, evS, tyS, Bool.not_true, Bool.not_false, Nat.reduceAdd, Nat.reduceSub, Nat.reduceMul, Nat.reduceLT, Nat.reduceLeDiff, Nat.reduceEqDiff, reduceCtorEq, List.reduceReplicate, Int.reduceToNat, Int.reduceLE, Int.reduceLT])))
                    all_goals try (((try simp only [decide_eq_true_eq, decide_eq_false_iff_not, beq_iff_eq, bne_iff_ne, ne_eq, beq_eq_false_iff_ne, bne_eq_false_iff_eq] at *) <;> (try omega)); done)
                    refine CallK.intro c107 rfl kb ?_
                    by_cases hbad : ab = false ∨ bb = false ∨ 9007199254740992 ≤ am ∨ 1074 < bm
                    · rw [if_pos hbad]
                      cases ab with
                      | false => simp only [rwA, evS, tyS, Bool.not_true, Bool.not_false, Nat.reduceAdd, Nat.reduceSub, Nat.reduceMul, Nat.reduceLT, Nat.reduceLeDiff, Nat.reduceEqDiff, reduceCtorEq, List.reduceReplicate, Int.reduceToNat, Int.reduceLE, Int.reduceLT]; (repeat' (first | (with_reducible refine And.intro ?_ ?_) | ((first | refine GuardK.intro_f (fun h => ?_) (fun h => ?_) | refine GuardK.intro_t (fun h => ?_) (fun h => ?_) | refine CondK.intro (fun h => ?_) (fun h => ?_) | refine PickK.intro (fun h => ?_) (fun h => ?_)) <;> simp only [h, rwA, evS, tyS, Bool.not_true, Bool.not_false, Nat.reduceAdd, Nat.reduceSub, Nat.reduceMul, Nat.reduceLT, Nat.reduceLeDiff, Nat.reduceEqDiff, reduceCtorEq, List.reduceReplicate, Int.reduceToNat, Int.reduceLE, Int.reduceLT]) | (refine DrawK.intro (by kernel_rfl) (by kernel_rfl) ?_; simp only [rwA, evS, tyS, Bool.not_true, Bool.not_false, Nat.reduceAdd, Nat.reduceSub, Nat.reduceMul, Nat.reduceLT, Nat.reduceLeDiff, Nat.reduceEqDiff, reduceCtorEq, List.reduceReplicate, Int.reduceToNat, Int.reduceLE, Int.reduceLT]))); all_goals first | done | rfl | trace_state
                      | true =>
                        cases bb with
                        | false => simp only [rwA, evS, tyS, Bool.not_true, Bool.not_false, Nat.reduceAdd, Nat.reduceSub, Nat.reduceMul, Nat.reduceLT, Nat.reduceLeDiff, Nat.reduceEqDiff, reduceCtorEq, List.reduceReplicate, Int.reduceToNat, Int.reduceLE, Int.reduceLT]; (repeat' (first | (with_reducible refine And.intro ?_ ?_) | ((first | refine GuardK.intro_f (fun h => ?_) (fun h => ?_) | refine GuardK.intro_t (fun h => ?_) (fun h => ?_) | refine CondK.intro (fun h => ?_) (fun h => ?_) | refine PickK.intro (fun h => ?_) (fun h => ?_)) <;> simp only [h, rwA, evS, tyS, Bool.not_true, Bool.not_false, Nat.reduceAdd, Nat.reduceSub, Nat.reduceMul, Nat.reduceLT, Nat.reduceLeDiff, Nat.reduceEqDiff, reduceCtorEq, List.reduceReplicate, Int.reduceToNat, Int.reduceLE, Int.reduceLT]) | (refine DrawK.intro (by kernel_rfl) (by kernel_rfl) ?_; simp only [rwA, evS, tyS, Bool.not_true, Bool.not_false, Nat.reduceAdd, Nat.reduceSub, Nat.reduceMul, Nat.reduceLT, Nat.reduceLeDiff, Nat.reduceEqDiff, reduceCtorEq, List.reduceReplicate, Int.reduceToNat, Int.reduceLE, Int.reduceLT]))); all_goals first | done | rfl | trace_state
                        | true =>
                          by_cases h53 : 9007199254740992 ≤ am
                          · have q1 : decide ((9007199254740992 : Int) ≤ (am : Int)) = true := decide_eq_true (by omega)
                            have q1' : decide (9007199254740992 ≤ am) = true := decide_eq_true (by omega)
                            simp only [q1, q1', rwA, evS, tyS, Bool.not_true, Bool.not_false, Nat.reduceAdd, Nat.reduceSub, Nat.reduceMul, Nat.reduceLT, Nat.reduceLeDiff, Nat.reduceEqDiff, reduceCtorEq, List.reduceReplicate, Int.reduceToNat, Int.reduceLE, Int.reduceLT]; (repeat' (first | (with_reducible refine And.intro ?_ ?_) | ((first | refine GuardK.intro_f (fun h => ?_) (fun h => ?_) | refine GuardK.intro_t (fun h => ?_) (fun h => ?_) | refine CondK.intro (fun h => ?_) (fun h => ?_) | refine PickK.intro (fun h => ?_) (fun h => ?_)) <;> simp only [h, q1, q1', rwA, evS, tyS, Bool.not_true, Bool.not_false, Nat.reduceAdd, Nat.reduceSub, Nat.reduceMul, Nat.reduceLT, Nat.reduceLeDiff, Nat.reduceEqDiff, reduceCtorEq, List.reduceReplicate, Int.reduceToNat, Int.reduceLE, Int.reduceLT]) | (refine DrawK.intro (by kernel_rfl) (by kernel_rfl) ?_; simp only [q1, q1', rwA, evS, tyS, Bool.not_true, Bool.not_false, Nat.reduceAdd, Nat.reduceSub, Nat.reduceMul, Nat.reduceLT, Nat.reduceLeDiff, Nat.reduceEqDiff, reduceCtorEq, List.reduceReplicate, Int.reduceToNat, Int.reduceLE, Int.reduceLT]))); all_goals first | done | rfl | trace_state
                          · have q1 : decide ((9007199254740992 : Int) ≤ (am : Int)) = false := decide_eq_false (by omega)
                            have q1' : decide (9007199254740992 ≤ am) = false := decide_eq_false (by omega)
                            have q2 : decide ((1074 : Int) < (bm : Int)) = true := decide_eq_true (by rcases hbad with h | h | h | h; cases h; cases h; omega; omega)
                            have q2' : decide (1074 < bm) = true := decide_eq_true (by rcases hbad with h | h | h | h; cases h; cases h; omega; omega)
                            simp only [q1, q1', q2, q2', rwA, evS, tyS, Bool.not_true, Bool.not_false, Nat.reduceAdd, Nat.reduceSub, Nat.reduceMul, Nat.reduceLT, Nat.reduceLeDiff, Nat.reduceEqDiff, reduceCtorEq, List.reduceReplicate, Int.reduceToNat, Int.reduceLE, Int.reduceLT]; (repeat' (first | (with_reducible refine And.intro ?_ ?_) | ((first | refine GuardK.intro_f (fun h => ?_) (fun h => ?_) | refine GuardK.intro_t (fun h => ?_) (fun h => ?_) | refine CondK.intro (fun h => ?_) (fun h => ?_) | refine PickK.intro (fun h => ?_) (fun h => ?_)) <;> simp only [h, q1, q1', q2, q2', rwA, evS, tyS, Bool.not_true, Bool.not_false, Nat.reduceAdd, Nat.reduceSub, Nat.reduceMul, Nat.reduceLT, Nat.reduceLeDiff, Nat.reduceEqDiff, reduceCtorEq, List.reduceReplicate, Int.reduceToNat, Int.reduceLE, Int.reduceLT]) | (refine DrawK.intro (by kernel_rfl) (by kernel_rfl) ?_; simp only [q1, q1', q2, q2', rwA, evS, tyS, Bool.not_true, Bool.not_false, Nat.reduceAdd, Nat.reduceSub, Nat.reduceMul, Nat.reduceLT, Nat.reduceLeDiff, Nat.reduceEqDiff, reduceCtorEq, List.reduceReplicate, Int.reduceToNat, Int.reduceLE, Int.reduceLT]))); all_goals first | done | rfl | trace_state
                    · rw [if_neg hbad]
                      have hab : ab = true := by cases ab with | true => rfl | false => exact absurd (.inl rfl) hbad
                      have hbb : bb = true := by cases bb with | true => rfl | false => exact absurd (.inr (.inl rfl)) hbad
                      subst hab
                      subst hbb
                      have q1 : decide ((9007199254740992 : Int) ≤ (am : Int)) = false := decide_eq_false (by omega)
                      have q1' : decide (9007199254740992 ≤ am) = false := decide_eq_false (by omega)
                      have q2 : decide ((1074 : Int) < (bm : Int)) = false := decide_eq_false (by omega)
                      have q2' : decide (1074 < bm) = false := decide_eq_false (by omega)
                      have hn := near_eq am (by omega)
                      simp only [q1, q1', q2, q2', hn, evS, tyS, Bool.not_true, Bool.not_false, Nat.reduceAdd, Nat.reduceSub, Nat.reduceMul, Nat.reduceLT, Nat.reduceLeDiff, Nat.reduceEqDiff, reduceCtorEq, List.reduceReplicate, Int.reduceToNat, Int.reduceLE, Int.reduceLT]
                      refine rw_loop2 (γ := γ) (m := am) (e := bm) (dn := true) (S := .v (.float .f64 (sgF true))) (by kernel_rfl) (by omega) (by omega) ?_ ?_
                      · exact ⟨rfl, rfl, ⟨rfl, rfl, rfl, rfl, rfl, trivial⟩, .inl rfl⟩
                      have ms := msg (m := am) (by omega) (e := (if true = true then -(bm : Int) else bm)) (by first | (simp only [if_true]; omega) | (simp only [Bool.false_eq_true, if_false]; omega))
                      simp only [if_true, Bool.false_eq_true, if_false, sgF, flA] at ms ⊢
                      simp only [ms, rwA, evS, tyS, Bool.not_true, Bool.not_false, Nat.reduceAdd, Nat.reduceSub, Nat.reduceMul, Nat.reduceLT, Nat.reduceLeDiff, Nat.reduceEqDiff, reduceCtorEq, List.reduceReplicate, Int.reduceToNat, Int.reduceLE, Int.reduceLT]
                      all_goals first | done | rfl | trace_state
                  | false =>
                    have hct2 := hcutF rfl
                    rw [← hct2] at kb
                    simp only [w1, ht, tk, e1, e1', ea, hz, evS, tyS, Bool.not_true, Bool.not_false, Nat.reduceAdd, Nat.reduceSub, Nat.reduceMul, Nat.reduceLT, Nat.reduceLeDiff, Nat.reduceEqDiff, reduceCtorEq, List.reduceReplicate, Int.reduceToNat, Int.reduceLE, Int.reduceLT]
                    (repeat' (first | (with_reducible refine And.intro ?_ ?_) | ((first | refine GuardK.intro_f (fun h => ?_) (fun h => ?_) | refine GuardK.intro_t (fun h => ?_) (fun h => ?_) | refine CondK.intro (fun h => ?_) (fun h => ?_) | refine PickK.intro (fun h => ?_) (fun h => ?_)) <;> simp only [h, w1, ht, tk, e1, e1', ea, hz, evS, tyS, Bool.not_true, Bool.not_false, Nat.reduceAdd, Nat.reduceSub, Nat.reduceMul, Nat.reduceLT, Nat.reduceLeDiff, Nat.reduceEqDiff, reduceCtorEq, List.reduceReplicate, Int.reduceToNat, Int.reduceLE, Int.reduceLT]) | (refine DrawK.intro (by kernel_rfl) (by kernel_rfl) ?_; simp only [w1, ht, tk, e1, e1', ea, hz, evS, tyS, Bool.not_true, Bool.not_false, Nat.reduceAdd, Nat.reduceSub, Nat.reduceMul, Nat.reduceLT, Nat.reduceLeDiff, Nat.reduceEqDiff, reduceCtorEq, List.reduceReplicate, Int.reduceToNat, Int.reduceLE, Int.reduceLT])))
                    all_goals try (((try simp only [decide_eq_true_eq, decide_eq_false_iff_not, beq_iff_eq, bne_iff_ne, ne_eq, beq_eq_false_iff_ne, bne_eq_false_iff_eq] at *) <;> (try omega)); done)
                    refine CallK.intro c107 rfl kb ?_
                    by_cases hbad : ab = false ∨ bb = false ∨ 9007199254740992 ≤ am ∨ 1074 < bm
                    · rw [if_pos hbad]
                      cases ab with
                      | false => simp only [rwA, evS, tyS, Bool.not_true, Bool.not_false, Nat.reduceAdd, Nat.reduceSub, Nat.reduceMul, Nat.reduceLT, Nat.reduceLeDiff, Nat.reduceEqDiff, reduceCtorEq, List.reduceReplicate, Int.reduceToNat, Int.reduceLE, Int.reduceLT]; (repeat' (first | (with_reducible refine And.intro ?_ ?_) | ((first | refine GuardK.intro_f (fun h => ?_) (fun h => ?_) | refine GuardK.intro_t (fun h => ?_) (fun h => ?_) | refine CondK.intro (fun h => ?_) (fun h => ?_) | refine PickK.intro (fun h => ?_) (fun h => ?_)) <;> simp only [h, rwA, evS, tyS, Bool.not_true, Bool.not_false, Nat.reduceAdd, Nat.reduceSub, Nat.reduceMul, Nat.reduceLT, Nat.reduceLeDiff, Nat.reduceEqDiff, reduceCtorEq, List.reduceReplicate, Int.reduceToNat, Int.reduceLE, Int.reduceLT]) | (refine DrawK.intro (by kernel_rfl) (by kernel_rfl) ?_; simp only [rwA, evS, tyS, Bool.not_true, Bool.not_false, Nat.reduceAdd, Nat.reduceSub, Nat.reduceMul, Nat.reduceLT, Nat.reduceLeDiff, Nat.reduceEqDiff, reduceCtorEq, List.reduceReplicate, Int.reduceToNat, Int.reduceLE, Int.reduceLT]))); all_goals first | done | rfl | trace_state
                      | true =>
                        cases bb with
                        | false => simp only [rwA, evS, tyS, Bool.not_true, Bool.not_false, Nat.reduceAdd, Nat.reduceSub, Nat.reduceMul, Nat.reduceLT, Nat.reduceLeDiff, Nat.reduceEqDiff, reduceCtorEq, List.reduceReplicate, Int.reduceToNat, Int.reduceLE, Int.reduceLT]; (repeat' (first | (with_reducible refine And.intro ?_ ?_) | ((first | refine GuardK.intro_f (fun h => ?_) (fun h => ?_) | refine GuardK.intro_t (fun h => ?_) (fun h => ?_) | refine CondK.intro (fun h => ?_) (fun h => ?_) | refine PickK.intro (fun h => ?_) (fun h => ?_)) <;> simp only [h, rwA, evS, tyS, Bool.not_true, Bool.not_false, Nat.reduceAdd, Nat.reduceSub, Nat.reduceMul, Nat.reduceLT, Nat.reduceLeDiff, Nat.reduceEqDiff, reduceCtorEq, List.reduceReplicate, Int.reduceToNat, Int.reduceLE, Int.reduceLT]) | (refine DrawK.intro (by kernel_rfl) (by kernel_rfl) ?_; simp only [rwA, evS, tyS, Bool.not_true, Bool.not_false, Nat.reduceAdd, Nat.reduceSub, Nat.reduceMul, Nat.reduceLT, Nat.reduceLeDiff, Nat.reduceEqDiff, reduceCtorEq, List.reduceReplicate, Int.reduceToNat, Int.reduceLE, Int.reduceLT]))); all_goals first | done | rfl | trace_state
                        | true =>
                          by_cases h53 : 9007199254740992 ≤ am
                          · have q1 : decide ((9007199254740992 : Int) ≤ (am : Int)) = true := decide_eq_true (by omega)
                            have q1' : decide (9007199254740992 ≤ am) = true := decide_eq_true (by omega)
                            simp only [q1, q1', rwA, evS, tyS, Bool.not_true, Bool.not_false, Nat.reduceAdd, Nat.reduceSub, Nat.reduceMul, Nat.reduceLT, Nat.reduceLeDiff, Nat.reduceEqDiff, reduceCtorEq, List.reduceReplicate, Int.reduceToNat, Int.reduceLE, Int.reduceLT]; (repeat' (first | (with_reducible refine And.intro ?_ ?_) | ((first | refine GuardK.intro_f (fun h => ?_) (fun h => ?_) | refine GuardK.intro_t (fun h => ?_) (fun h => ?_) | refine CondK.intro (fun h => ?_) (fun h => ?_) | refine PickK.intro (fun h => ?_) (fun h => ?_)) <;> simp only [h, q1, q1', rwA, evS, tyS, Bool.not_true, Bool.not_false, Nat.reduceAdd, Nat.reduceSub, Nat.reduceMul, Nat.reduceLT, Nat.reduceLeDiff, Nat.reduceEqDiff, reduceCtorEq, List.reduceReplicate, Int.reduceToNat, Int.reduceLE, Int.reduceLT]) | (refine DrawK.intro (by kernel_rfl) (by kernel_rfl) ?_; simp only [q1, q1', rwA, evS, tyS, Bool.not_true, Bool.not_false, Nat.reduceAdd, Nat.reduceSub, Nat.reduceMul, Nat.reduceLT, Nat.reduceLeDiff, Nat.reduceEqDiff, reduceCtorEq, List.reduceReplicate, Int.reduceToNat, Int.reduceLE, Int.reduceLT]))); all_goals first | done | rfl | trace_state
                          · have q1 : decide ((9007199254740992 : Int) ≤ (am : Int)) = false := decide_eq_false (by omega)
                            have q1' : decide (9007199254740992 ≤ am) = false := decide_eq_false (by omega)
                            have q2 : decide ((1074 : Int) < (bm : Int)) = true := decide_eq_true (by rcases hbad with h | h | h | h; cases h; cases h; omega; omega)
                            have q2' : decide (1074 < bm) = true := decide_eq_true (by rcases hbad with h | h | h | h; cases h; cases h; omega; omega)
                            simp only [q1, q1', q2, q2', rwA, evS, tyS, Bool.not_true, Bool.not_false, Nat.reduceAdd, Nat.reduceSub, Nat.reduceMul, Nat.reduceLT, Nat.reduceLeDiff, Nat.reduceEqDiff, reduceCtorEq, List.reduceReplicate, Int.reduceToNat, Int.reduceLE, Int.reduceLT]; (repeat' (first | (with_reducible refine And.intro ?_ ?_) | ((first | refine GuardK.intro_f (fun h => ?_) (fun h => ?_) | refine GuardK.intro_t (fun h => ?_) (fun h => ?_) | refine CondK.intro (fun h => ?_) (fun h => ?_) | refine PickK.intro (fun h => ?_) (fun h => ?_)) <;> simp only [h, q1, q1', q2, q2', rwA, evS, tyS, Bool.not_true, Bool.not_false, Nat.reduceAdd, Nat.reduceSub, Nat.reduceMul, Nat.reduceLT, Nat.reduceLeDiff, Nat.reduceEqDiff, reduceCtorEq, List.reduceReplicate, Int.reduceToNat, Int.reduceLE, Int.reduceLT]) | (refine DrawK.intro (by kernel_rfl) (by kernel_rfl) ?_; simp only [q1, q1', q2, q2', rwA, evS, tyS, Bool.not_true, Bool.not_false, Nat.reduceAdd, Nat.reduceSub, Nat.reduceMul, Nat.reduceLT, Nat.reduceLeDiff, Nat.reduceEqDiff, reduceCtorEq, List.reduceReplicate, Int.reduceToNat, Int.reduceLE, Int.reduceLT]))); all_goals first | done | rfl | trace_state
                    · rw [if_neg hbad]
                      have hab : ab = true := by cases ab with | true => rfl | false => exact absurd (.inl rfl) hbad
                      have hbb : bb = true := by cases bb with | true => rfl | false => exact absurd (.inr (.inl rfl)) hbad
                      subst hab
                      subst hbb
                      have q1 : decide ((9007199254740992 : Int) ≤ (am : Int)) = false := decide_eq_false (by omega)
                      have q1' : decide (9007199254740992 ≤ am) = false := decide_eq_false (by omega)
                      have q2 : decide ((1074 : Int) < (bm : Int)) = false := decide_eq_false (by omega)
                      have q2' : decide (1074 < bm) = false := decide_eq_false (by omega)
                      have hn := near_eq am (by omega)
                      simp only [q1, q1', q2, q2', hn, evS, tyS, Bool.not_true, Bool.not_false, Nat.reduceAdd, Nat.reduceSub, Nat.reduceMul, Nat.reduceLT, Nat.reduceLeDiff, Nat.reduceEqDiff, reduceCtorEq, List.reduceReplicate, Int.reduceToNat, Int.reduceLE, Int.reduceLT]
                      refine rw_loop2 (γ := γ) (m := am) (e := bm) (dn := false) (S := .v (.float .f64 (sgF true))) (by kernel_rfl) (by omega) (by omega) ?_ ?_
                      · exact ⟨rfl, rfl, ⟨rfl, rfl, rfl, rfl, rfl, trivial⟩, .inl rfl⟩
                      have ms := msg (m := am) (by omega) (e := (if false = true then -(bm : Int) else bm)) (by first | (simp only [if_true]; omega) | (simp only [Bool.false_eq_true, if_false]; omega))
                      simp only [if_true, Bool.false_eq_true, if_false, sgF, flA] at ms ⊢
                      simp only [ms, rwA, evS, tyS, Bool.not_true, Bool.not_false, Nat.reduceAdd, Nat.reduceSub, Nat.reduceMul, Nat.reduceLT, Nat.reduceLeDiff, Nat.reduceEqDiff, reduceCtorEq, List.reduceReplicate, Int.reduceToNat, Int.reduceLE, Int.reduceLT]
                      all_goals first | done | rfl | trace_state
              · have z : ((atL r j : Int) != 112) = true := by
                  have : atL r j ≠ 112 := fun hc => hp (UInt8.toNat_inj.1 hc)
                  cases hb : ((atL r j : Int) != 112) with
                  | true => rfl
                  | false => exact absurd (by simpa using hb) (by omega)
                have w1 : IntKind.i64.wrap ((j : Int) + 1) = ((j + 1 : Nat) : Int) := by rw [i64w] <;> omega
                simp only [d1, d1', ea, z, w1, evS, tyS, Bool.not_true, Bool.not_false, Nat.reduceAdd, Nat.reduceSub, Nat.reduceMul, Nat.reduceLT, Nat.reduceLeDiff, Nat.reduceEqDiff, reduceCtorEq, List.reduceReplicate, Int.reduceToNat, Int.reduceLE, Int.reduceLT]
                (repeat' (first | (with_reducible refine And.intro ?_ ?_) | ((first | refine GuardK.intro_f (fun h => ?_) (fun h => ?_) | refine GuardK.intro_t (fun h => ?_) (fun h => ?_) | refine CondK.intro (fun h => ?_) (fun h => ?_) | refine PickK.intro (fun h => ?_) (fun h => ?_)) <;> simp only [h, d1, d1', ea, z, w1, evS, tyS, Bool.not_true, Bool.not_false, Nat.reduceAdd, Nat.reduceSub, Nat.reduceMul, Nat.reduceLT, Nat.reduceLeDiff, Nat.reduceEqDiff, reduceCtorEq, List.reduceReplicate, Int.reduceToNat, Int.reduceLE, Int.reduceLT]) | (refine DrawK.intro (by kernel_rfl) (by kernel_rfl) ?_; simp only [d1, d1', ea, z, w1, evS, tyS, Bool.not_true, Bool.not_false, Nat.reduceAdd, Nat.reduceSub, Nat.reduceMul, Nat.reduceLT, Nat.reduceLeDiff, Nat.reduceEqDiff, reduceCtorEq, List.reduceReplicate, Int.reduceToNat, Int.reduceLE, Int.reduceLT])))
                all_goals try (((try simp only [decide_eq_true_eq, decide_eq_false_iff_not, beq_iff_eq, bne_iff_ne, ne_eq, beq_eq_false_iff_ne, bne_eq_false_iff_eq] at *) <;> (try omega)); done)
                refine loopC.intro (j + 1) ⟨by omega, by rw [← findC_step hjl hp]; exact hfc⟩ ?_ (by omega)
                exact ⟨rfl, rfl, ⟨by simp only [w1, evS, tyS, Bool.not_true, Bool.not_false, Nat.reduceAdd, Nat.reduceSub, Nat.reduceMul, Nat.reduceLT, Nat.reduceLeDiff, Nat.reduceEqDiff, reduceCtorEq, List.reduceReplicate, Int.reduceToNat, Int.reduceLE, Int.reduceLT], rfl, rfl, trivial⟩, .inl rfl⟩
            · have hje : j = r.length := by omega
              have d1 : decide (j < r.length) = false := decide_eq_false hjl
              have d1' : decide ((j : Int) < (r.length : Int)) = false := decide_eq_false (by omega)
              have zl : ((j : Int) == (r.length : Int)) = true := by rw [hje]; simp
              have hj0 : findC 112 r 0 = r.length := by rw [← hfc, ← hje]; exact findC_end (by omega)
              rw [if_pos hj0]
              simp only [d1, d1', zl, rwA, evS, tyS, Bool.not_true, Bool.not_false, Nat.reduceAdd, Nat.reduceSub, Nat.reduceMul, Nat.reduceLT, Nat.reduceLeDiff, Nat.reduceEqDiff, reduceCtorEq, List.reduceReplicate, Int.reduceToNat, Int.reduceLE, Int.reduceLT]
              all_goals try (((try simp only [decide_eq_true_eq, decide_eq_false_iff_not, beq_iff_eq, bne_iff_ne, ne_eq, beq_eq_false_iff_ne, bne_eq_false_iff_eq] at *) <;> (try omega)); done)
              all_goals first | done | rfl | trace_state
        | false =>
          have z2l : (l == [105, 110, 102]) = false := by rw [hF rfl]; exact z2
          simp only [Tryz.f106, z1, d0, d0', ea, zs', z2l, evS, tyS, Bool.not_true, Bool.not_false, Nat.reduceAdd, Nat.reduceSub, Nat.reduceMul, Nat.reduceLT, Nat.reduceLeDiff, Nat.reduceEqDiff, reduceCtorEq, List.reduceReplicate, Int.reduceToNat, Int.reduceLE, Int.reduceLT]
          (repeat' (first | (with_reducible refine And.intro ?_ ?_) | ((first | refine GuardK.intro_f (fun h => ?_) (fun h => ?_) | refine GuardK.intro_t (fun h => ?_) (fun h => ?_) | refine CondK.intro (fun h => ?_) (fun h => ?_) | refine PickK.intro (fun h => ?_) (fun h => ?_)) <;> simp only [h, z1, d0, d0', ea, zs', z2l, evS, tyS, Bool.not_true, Bool.not_false, Nat.reduceAdd, Nat.reduceSub, Nat.reduceMul, Nat.reduceLT, Nat.reduceLeDiff, Nat.reduceEqDiff, reduceCtorEq, List.reduceReplicate, Int.reduceToNat, Int.reduceLE, Int.reduceLT]) | (refine DrawK.intro (by kernel_rfl) (by kernel_rfl) ?_; simp only [z1, d0, d0', ea, zs', z2l, evS, tyS, Bool.not_true, Bool.not_false, Nat.reduceAdd, Nat.reduceSub, Nat.reduceMul, Nat.reduceLT, Nat.reduceLeDiff, Nat.reduceEqDiff, reduceCtorEq, List.reduceReplicate, Int.reduceToNat, Int.reduceLE, Int.reduceLT])))
          all_goals try (((try simp only [decide_eq_true_eq, decide_eq_false_iff_not, beq_iff_eq, bne_iff_ne, ne_eq, beq_eq_false_iff_ne, bne_eq_false_iff_eq] at *) <;> (try omega)); done)
          rw [hF rfl]
          refine LoopK.intro (fun j : Nat => ⟨⟨104, [(5, .v (.int .i64 j)), (4, flA (sgF false)), (0, .v (.string ⟨r.toArray⟩))], γ⟩, []⟩) (fun j => j ≤ r.length ∧ findC 112 r j = findC 112 r 0) (fun j => r.length - j) 0 ?_ ⟨Nat.zero_le _, rfl⟩ ?_
          · exact ⟨rfl, rfl, ⟨rfl, rfl, rfl, trivial⟩, .inl rfl⟩
          · rintro j ⟨hj, hfc⟩
            unfold flA sgF
            by_cases hjl : j < r.length
            · have d1 : decide (j < r.length) = true := decide_eq_true hjl
              have d1' : decide ((j : Int) < (r.length : Int)) = true := decide_eq_true (by omega)
              by_cases hp : r.getD j 0 = 112
              · have z : ((atL r j : Int) != 112) = false := by unfold atL; rw [hp]; rfl
                have hj0 : findC 112 r 0 = j := by rw [← hfc]; exact findC_stop hjl hp
                have zl : ((j : Int) == (r.length : Int)) = false := beq_f (by omega)
                have w1 : IntKind.i64.wrap ((j : Int) + 1) = ((j + 1 : Nat) : Int) := by rw [i64w] <;> omega
                have td : List.drop 0 (r.take j) = r.take j := rfl
                rw [hj0, if_neg (show ¬ j = r.length by omega)]
                have ka := number_ev (γ := γ) (r.take j) (by rw [List.length_take]; omega)
                have hal := numR_lt (r.take j)
                generalize hA : numR (r.take j) = A at ka hal ⊢
                obtain ⟨am, ab⟩ := A
                generalize ht : r.drop (j + 1) = t
                have htl : t.length ≤ 140737488351232 := by rw [← ht, List.length_drop]; omega
                have hct := cutP_len t 45
                have kb := number_ev (γ := γ) (cutP t 45) (by omega)
                have hbl := numR_lt (cutP t 45)
                generalize hB : numR (cutP t 45) = B at kb hbl ⊢
                obtain ⟨bm, bb⟩ := B
                simp only [numA] at ka kb hal hbl ⊢
                simp only [d1, d1', ea, z, zl, w1, td, tk, ht, evS, tyS, Bool.not_true, Bool.not_false, Nat.reduceAdd, Nat.reduceSub, Nat.reduceMul, Nat.reduceLT, Nat.reduceLeDiff, Nat.reduceEqDiff, reduceCtorEq, List.reduceReplicate, Int.reduceToNat, Int.reduceLE, Int.reduceLT]
                (repeat' (first | (with_reducible refine And.intro ?_ ?_) | ((first | refine GuardK.intro_f (fun h => ?_) (fun h => ?_) | refine GuardK.intro_t (fun h => ?_) (fun h => ?_) | refine CondK.intro (fun h => ?_) (fun h => ?_) | refine PickK.intro (fun h => ?_) (fun h => ?_)) <;> simp only [h, d1, d1', ea, z, zl, w1, td, tk, ht, evS, tyS, Bool.not_true, Bool.not_false, Nat.reduceAdd, Nat.reduceSub, Nat.reduceMul, Nat.reduceLT, Nat.reduceLeDiff, Nat.reduceEqDiff, reduceCtorEq, List.reduceReplicate, Int.reduceToNat, Int.reduceLE, Int.reduceLT]) | (refine DrawK.intro (by kernel_rfl) (by kernel_rfl) ?_; simp only [d1, d1', ea, z, zl, w1, td, tk, ht, evS, tyS, Bool.not_true, Bool.not_false, Nat.reduceAdd, Nat.reduceSub, Nat.reduceMul, Nat.reduceLT, Nat.reduceLeDiff, Nat.reduceEqDiff, reduceCtorEq, List.reduceReplicate, Int.reduceToNat, Int.reduceLE, Int.reduceLT])))
                all_goals try (((try simp only [decide_eq_true_eq, decide_eq_false_iff_not, beq_iff_eq, bne_iff_ne, ne_eq, beq_eq_false_iff_ne, bne_eq_false_iff_eq] at *) <;> (try omega)); done)
                refine CallK.intro c107 rfl ka ?_
                have dn : ∃ dn, preB t 45 = dn ∧ ((t = [] ∧ dn = false) ∨ (0 < t.length ∧ ((atL t 0 : Int) == 45) = dn)) := by
                  refine ⟨_, rfl, ?_⟩
                  by_cases h0 : t = []
                  · exact .inl ⟨h0, by rw [h0]; rfl⟩
                  · have hp := List.length_pos_iff.2 h0
                    exact .inr ⟨hp, (preB_at hp 45).symm⟩
                obtain ⟨dn, hdn, hdc⟩ := dn
                have hcutT : dn = true → t.drop 1 = cutP t 45 := fun h => by unfold cutP; rw [if_pos (hdn.trans h)]
                have hcutF : dn = false → t = cutP t 45 := fun h => by unfold cutP; rw [if_neg (by rw [hdn, h]; simp)]
                rw [hdn]
                rcases hdc with ⟨h0, hd⟩ | ⟨hp0, hz⟩
                · subst hd
                  have ht0 : cutP t 45 = [] := by rw [← hcutF rfl, h0]
                  rw [ht0] at kb
                  subst h0
                  simp only [w1, ht, tk, evS, tyS, Bool.not_true, Bool.not_false, Nat.reduceAdd, Nat.reduceSub, Nat.reduceMul, Nat.reduceLT, Nat.reduceLeDiff, Nat.reduceEqDiff, reduceCtorEq, List.reduceReplicate, Int.reduceToNat, Int.reduceLE, Int.reduceLT]
                  (repeat' (first | (with_reducible refine And.intro ?_ ?_) | ((first | refine GuardK.intro_f (fun h => ?_) (fun h => ?_) | refine GuardK.intro_t (fun h => ?_) (fun h => ?_) | refine CondK.intro (fun h => ?_) (fun h => ?_) | refine PickK.intro (fun h => ?_) (fun h => ?_)) <;> simp only [h, w1, ht, tk, evS, tyS, Bool.not_true, Bool.not_false, Nat.reduceAdd, Nat.reduceSub, Nat.reduceMul, Nat.reduceLT, Nat.reduceLeDiff, Nat.reduceEqDiff, reduceCtorEq, List.reduceReplicate, Int.reduceToNat, Int.reduceLE, Int.reduceLT]) | (refine DrawK.intro (by kernel_rfl) (by kernel_rfl) ?_; simp only [w1, ht, tk, evS, tyS, Bool.not_true, Bool.not_false, Nat.reduceAdd, Nat.reduceSub, Nat.reduceMul, Nat.reduceLT, Nat.reduceLeDiff, Nat.reduceEqDiff, reduceCtorEq, List.reduceReplicate, Int.reduceToNat, Int.reduceLE, Int.reduceLT])))
                  all_goals try (((try simp only [decide_eq_true_eq, decide_eq_false_iff_not, beq_iff_eq, bne_iff_ne, ne_eq, beq_eq_false_iff_ne, bne_eq_false_iff_eq] at *) <;> (try omega)); done)
                  refine CallK.intro c107 rfl kb ?_
                  by_cases hbad : ab = false ∨ bb = false ∨ 9007199254740992 ≤ am ∨ 1074 < bm
                  · rw [if_pos hbad]
                    cases ab with
                    | false => simp only [rwA, evS, tyS, Bool.not_true, Bool.not_false, Nat.reduceAdd, Nat.reduceSub, Nat.reduceMul, Nat.reduceLT, Nat.reduceLeDiff, Nat.reduceEqDiff, reduceCtorEq, List.reduceReplicate, Int.reduceToNat, Int.reduceLE, Int.reduceLT]; (repeat' (first | (with_reducible refine And.intro ?_ ?_) | ((first | refine GuardK.intro_f (fun h => ?_) (fun h => ?_) | refine GuardK.intro_t (fun h => ?_) (fun h => ?_) | refine CondK.intro (fun h => ?_) (fun h => ?_) | refine PickK.intro (fun h => ?_) (fun h => ?_)) <;> simp only [h, rwA, evS, tyS, Bool.not_true, Bool.not_false, Nat.reduceAdd, Nat.reduceSub, Nat.reduceMul, Nat.reduceLT, Nat.reduceLeDiff, Nat.reduceEqDiff, reduceCtorEq, List.reduceReplicate, Int.reduceToNat, Int.reduceLE, Int.reduceLT]) | (refine DrawK.intro (by kernel_rfl) (by kernel_rfl) ?_; simp only [rwA, evS, tyS, Bool.not_true, Bool.not_false, Nat.reduceAdd, Nat.reduceSub, Nat.reduceMul, Nat.reduceLT, Nat.reduceLeDiff, Nat.reduceEqDiff, reduceCtorEq, List.reduceReplicate, Int.reduceToNat, Int.reduceLE, Int.reduceLT]))); all_goals first | done | rfl | trace_state
                    | true =>
                      cases bb with
                      | false => simp only [rwA, evS, tyS, Bool.not_true, Bool.not_false, Nat.reduceAdd, Nat.reduceSub, Nat.reduceMul, Nat.reduceLT, Nat.reduceLeDiff, Nat.reduceEqDiff, reduceCtorEq, List.reduceReplicate, Int.reduceToNat, Int.reduceLE, Int.reduceLT]; (repeat' (first | (with_reducible refine And.intro ?_ ?_) | ((first | refine GuardK.intro_f (fun h => ?_) (fun h => ?_) | refine GuardK.intro_t (fun h => ?_) (fun h => ?_) | refine CondK.intro (fun h => ?_) (fun h => ?_) | refine PickK.intro (fun h => ?_) (fun h => ?_)) <;> simp only [h, rwA, evS, tyS, Bool.not_true, Bool.not_false, Nat.reduceAdd, Nat.reduceSub, Nat.reduceMul, Nat.reduceLT, Nat.reduceLeDiff, Nat.reduceEqDiff, reduceCtorEq, List.reduceReplicate, Int.reduceToNat, Int.reduceLE, Int.reduceLT]) | (refine DrawK.intro (by kernel_rfl) (by kernel_rfl) ?_; simp only [rwA, evS, tyS, Bool.not_true, Bool.not_false, Nat.reduceAdd, Nat.reduceSub, Nat.reduceMul, Nat.reduceLT, Nat.reduceLeDiff, Nat.reduceEqDiff, reduceCtorEq, List.reduceReplicate, Int.reduceToNat, Int.reduceLE, Int.reduceLT]))); all_goals first | done | rfl | trace_state
                      | true =>
                        by_cases h53 : 9007199254740992 ≤ am
                        · have q1 : decide ((9007199254740992 : Int) ≤ (am : Int)) = true := decide_eq_true (by omega)
                          have q1' : decide (9007199254740992 ≤ am) = true := decide_eq_true (by omega)
                          simp only [q1, q1', rwA, evS, tyS, Bool.not_true, Bool.not_false, Nat.reduceAdd, Nat.reduceSub, Nat.reduceMul, Nat.reduceLT, Nat.reduceLeDiff, Nat.reduceEqDiff, reduceCtorEq, List.reduceReplicate, Int.reduceToNat, Int.reduceLE, Int.reduceLT]; (repeat' (first | (with_reducible refine And.intro ?_ ?_) | ((first | refine GuardK.intro_f (fun h => ?_) (fun h => ?_) | refine GuardK.intro_t (fun h => ?_) (fun h => ?_) | refine CondK.intro (fun h => ?_) (fun h => ?_) | refine PickK.intro (fun h => ?_) (fun h => ?_)) <;> simp only [h, q1, q1', rwA, evS, tyS, Bool.not_true, Bool.not_false, Nat.reduceAdd, Nat.reduceSub, Nat.reduceMul, Nat.reduceLT, Nat.reduceLeDiff, Nat.reduceEqDiff, reduceCtorEq, List.reduceReplicate, Int.reduceToNat, Int.reduceLE, Int.reduceLT]) | (refine DrawK.intro (by kernel_rfl) (by kernel_rfl) ?_; simp only [q1, q1', rwA, evS, tyS, Bool.not_true, Bool.not_false, Nat.reduceAdd, Nat.reduceSub, Nat.reduceMul, Nat.reduceLT, Nat.reduceLeDiff, Nat.reduceEqDiff, reduceCtorEq, List.reduceReplicate, Int.reduceToNat, Int.reduceLE, Int.reduceLT]))); all_goals first | done | rfl | trace_state
                        · have q1 : decide ((9007199254740992 : Int) ≤ (am : Int)) = false := decide_eq_false (by omega)
                          have q1' : decide (9007199254740992 ≤ am) = false := decide_eq_false (by omega)
                          have q2 : decide ((1074 : Int) < (bm : Int)) = true := decide_eq_true (by rcases hbad with h | h | h | h; cases h; cases h; omega; omega)
                          have q2' : decide (1074 < bm) = true := decide_eq_true (by rcases hbad with h | h | h | h; cases h; cases h; omega; omega)
                          simp only [q1, q1', q2, q2', rwA, evS, tyS, Bool.not_true, Bool.not_false, Nat.reduceAdd, Nat.reduceSub, Nat.reduceMul, Nat.reduceLT, Nat.reduceLeDiff, Nat.reduceEqDiff, reduceCtorEq, List.reduceReplicate, Int.reduceToNat, Int.reduceLE, Int.reduceLT]; (repeat' (first | (with_reducible refine And.intro ?_ ?_) | ((first | refine GuardK.intro_f (fun h => ?_) (fun h => ?_) | refine GuardK.intro_t (fun h => ?_) (fun h => ?_) | refine CondK.intro (fun h => ?_) (fun h => ?_) | refine PickK.intro (fun h => ?_) (fun h => ?_)) <;> simp only [h, q1, q1', q2, q2', rwA, evS, tyS, Bool.not_true, Bool.not_false, Nat.reduceAdd, Nat.reduceSub, Nat.reduceMul, Nat.reduceLT, Nat.reduceLeDiff, Nat.reduceEqDiff, reduceCtorEq, List.reduceReplicate, Int.reduceToNat, Int.reduceLE, Int.reduceLT]) | (refine DrawK.intro (by kernel_rfl) (by kernel_rfl) ?_; simp only [q1, q1', q2, q2', rwA, evS, tyS, Bool.not_true, Bool.not_false, Nat.reduceAdd, Nat.reduceSub, Nat.reduceMul, Nat.reduceLT, Nat.reduceLeDiff, Nat.reduceEqDiff, reduceCtorEq, List.reduceReplicate, Int.reduceToNat, Int.reduceLE, Int.reduceLT]))); all_goals first | done | rfl | trace_state
                  · rw [if_neg hbad]
                    have hab : ab = true := by cases ab with | true => rfl | false => exact absurd (.inl rfl) hbad
                    have hbb : bb = true := by cases bb with | true => rfl | false => exact absurd (.inr (.inl rfl)) hbad
                    subst hab
                    subst hbb
                    have q1 : decide ((9007199254740992 : Int) ≤ (am : Int)) = false := decide_eq_false (by omega)
                    have q1' : decide (9007199254740992 ≤ am) = false := decide_eq_false (by omega)
                    have q2 : decide ((1074 : Int) < (bm : Int)) = false := decide_eq_false (by omega)
                    have q2' : decide (1074 < bm) = false := decide_eq_false (by omega)
                    have hn := near_eq am (by omega)
                    simp only [q1, q1', q2, q2', hn, evS, tyS, Bool.not_true, Bool.not_false, Nat.reduceAdd, Nat.reduceSub, Nat.reduceMul, Nat.reduceLT, Nat.reduceLeDiff, Nat.reduceEqDiff, reduceCtorEq, List.reduceReplicate, Int.reduceToNat, Int.reduceLE, Int.reduceLT]
                    refine rw_loop2 (γ := γ) (m := am) (e := bm) (dn := false) (S := .v (.float .f64 (sgF false))) (by kernel_rfl) (by omega) (by omega) ?_ ?_
                    · exact ⟨rfl, rfl, ⟨rfl, rfl, rfl, rfl, rfl, trivial⟩, .inl rfl⟩
                    have ms := msg (m := am) (by omega) (e := (if false = true then -(bm : Int) else bm)) (by first | (simp only [if_true]; omega) | (simp only [Bool.false_eq_true, if_false]; omega))
                    simp only [if_true, Bool.false_eq_true, if_false, sgF, flA] at ms ⊢
                    simp only [ms, rwA, evS, tyS, Bool.not_true, Bool.not_false, Nat.reduceAdd, Nat.reduceSub, Nat.reduceMul, Nat.reduceLT, Nat.reduceLeDiff, Nat.reduceEqDiff, reduceCtorEq, List.reduceReplicate, Int.reduceToNat, Int.reduceLE, Int.reduceLT]
                    all_goals first | done | rfl | trace_state
                · have e1 : decide (0 < t.length) = true := decide_eq_true hp0
                  have e1' : decide ((0 : Int) < (t.length : Int)) = true := decide_eq_true (by omega)
                  cases dn with
                  | true =>
                    have hct2 := hcutT rfl
                    simp only [w1, ht, tk, e1, e1', ea, hz, hct2, evS, tyS, Bool.not_true, Bool.not_false, Nat.reduceAdd, Nat.reduceSub, Nat.reduceMul, Nat.reduceLT, Nat.reduceLeDiff, Nat.reduceEqDiff, reduceCtorEq, List.reduceReplicate, Int.reduceToNat, Int.reduceLE, Int.reduceLT]
                    (repeat' (first | (with_reducible refine And.intro ?_ ?_) | ((first | refine GuardK.intro_f (fun h => ?_) (fun h => ?_) | refine GuardK.intro_t (fun h => ?_) (fun h => ?_) | refine CondK.intro (fun h => ?_) (fun h => ?_) | refine PickK.intro (fun h => ?_) (fun h => ?_)) <;> simp only [h, w1, ht, tk, e1, e1', ea, hz, hct2, evS, tyS, Bool.not_true, Bool.not_false, Nat.reduceAdd, Nat.reduceSub, Nat.reduceMul, Nat.reduceLT, Nat.reduceLeDiff, Nat.reduceEqDiff, reduceCtorEq, List.reduceReplicate, Int.reduceToNat, Int.reduceLE, Int.reduceLT]) | (refine DrawK.intro (by kernel_rfl) (by kernel_rfl) ?_; simp only [w1, ht, tk, e1, e1', ea, hz, hct2, evS, tyS, Bool.not_true, Bool.not_false, Nat.reduceAdd, Nat.reduceSub, Nat.reduceMul, Nat.reduceLT, Nat.reduceLeDiff, Nat.reduceEqDiff, reduceCtorEq, List.reduceReplicate, Int.reduceToNat, Int.reduceLE, Int.reduceLT])))
                    all_goals try (((try simp only [decide_eq_true_eq, decide_eq_false_iff_not, beq_iff_eq, bne_iff_ne, ne_eq, beq_eq_false_iff_ne, bne_eq_false_iff_eq] at *) <;> (try omega)); done)
                    refine CallK.intro c107 rfl kb ?_
                    by_cases hbad : ab = false ∨ bb = false ∨ 9007199254740992 ≤ am ∨ 1074 < bm
                    · rw [if_pos hbad]
                      cases ab with
                      | false => simp only [rwA, evS, tyS, Bool.not_true, Bool.not_false, Nat.reduceAdd, Nat.reduceSub, Nat.reduceMul, Nat.reduceLT, Nat.reduceLeDiff, Nat.reduceEqDiff, reduceCtorEq, List.reduceReplicate, Int.reduceToNat, Int.reduceLE, Int.reduceLT]; (repeat' (first | (with_reducible refine And.intro ?_ ?_) | ((first | refine GuardK.intro_f (fun h => ?_) (fun h => ?_) | refine GuardK.intro_t (fun h => ?_) (fun h => ?_) | refine CondK.intro (fun h => ?_) (fun h => ?_) | refine PickK.intro (fun h => ?_) (fun h => ?_)) <;> simp only [h, rwA, evS, tyS, Bool.not_true, Bool.not_false, Nat.reduceAdd, Nat.reduceSub, Nat.reduceMul, Nat.reduceLT, Nat.reduceLeDiff, Nat.reduceEqDiff, reduceCtorEq, List.reduceReplicate, Int.reduceToNat, Int.reduceLE, Int.reduceLT]) | (refine DrawK.intro (by kernel_rfl) (by kernel_rfl) ?_; simp only [rwA, evS, tyS, Bool.not_true, Bool.not_false, Nat.reduceAdd, Nat.reduceSub, Nat.reduceMul, Nat.reduceLT, Nat.reduceLeDiff, Nat.reduceEqDiff, reduceCtorEq, List.reduceReplicate, Int.reduceToNat, Int.reduceLE, Int.reduceLT]))); all_goals first | done | rfl | trace_state
                      | true =>
                        cases bb with
                        | false => simp only [rwA, evS, tyS, Bool.not_true, Bool.not_false, Nat.reduceAdd, Nat.reduceSub, Nat.reduceMul, Nat.reduceLT, Nat.reduceLeDiff, Nat.reduceEqDiff, reduceCtorEq, List.reduceReplicate, Int.reduceToNat, Int.reduceLE, Int.reduceLT]; (repeat' (first | (with_reducible refine And.intro ?_ ?_) | ((first | refine GuardK.intro_f (fun h => ?_) (fun h => ?_) | refine GuardK.intro_t (fun h => ?_) (fun h => ?_) | refine CondK.intro (fun h => ?_) (fun h => ?_) | refine PickK.intro (fun h => ?_) (fun h => ?_)) <;> simp only [h, rwA, evS, tyS, Bool.not_true, Bool.not_false, Nat.reduceAdd, Nat.reduceSub, Nat.reduceMul, Nat.reduceLT, Nat.reduceLeDiff, Nat.reduceEqDiff, reduceCtorEq, List.reduceReplicate, Int.reduceToNat, Int.reduceLE, Int.reduceLT]) | (refine DrawK.intro (by kernel_rfl) (by kernel_rfl) ?_; simp only [rwA, evS, tyS, Bool.not_true, Bool.not_false, Nat.reduceAdd, Nat.reduceSub, Nat.reduceMul, Nat.reduceLT, Nat.reduceLeDiff, Nat.reduceEqDiff, reduceCtorEq, List.reduceReplicate, Int.reduceToNat, Int.reduceLE, Int.reduceLT]))); all_goals first | done | rfl | trace_state
                        | true =>
                          by_cases h53 : 9007199254740992 ≤ am
                          · have q1 : decide ((9007199254740992 : Int) ≤ (am : Int)) = true := decide_eq_true (by omega)
                            have q1' : decide (9007199254740992 ≤ am) = true := decide_eq_true (by omega)
                            simp only [q1, q1', rwA, evS, tyS, Bool.not_true, Bool.not_false, Nat.reduceAdd, Nat.reduceSub, Nat.reduceMul, Nat.reduceLT, Nat.reduceLeDiff, Nat.reduceEqDiff, reduceCtorEq, List.reduceReplicate, Int.reduceToNat, Int.reduceLE, Int.reduceLT]; (repeat' (first | (with_reducible refine And.intro ?_ ?_) | ((first | refine GuardK.intro_f (fun h => ?_) (fun h => ?_) | refine GuardK.intro_t (fun h => ?_) (fun h => ?_) | refine CondK.intro (fun h => ?_) (fun h => ?_) | refine PickK.intro (fun h => ?_) (fun h => ?_)) <;> simp only [h, q1, q1', rwA, evS, tyS, Bool.not_true, Bool.not_false, Nat.reduceAdd, Nat.reduceSub, Nat.reduceMul, Nat.reduceLT, Nat.reduceLeDiff, Nat.reduceEqDiff, reduceCtorEq, List.reduceReplicate, Int.reduceToNat, Int.reduceLE, Int.reduceLT]) | (refine DrawK.intro (by kernel_rfl) (by kernel_rfl) ?_; simp only [q1, q1', rwA, evS, tyS, Bool.not_true, Bool.not_false, Nat.reduceAdd, Nat.reduceSub, Nat.reduceMul, Nat.reduceLT, Nat.reduceLeDiff, Nat.reduceEqDiff, reduceCtorEq, List.reduceReplicate, Int.reduceToNat, Int.reduceLE, Int.reduceLT]))); all_goals first | done | rfl | trace_state
                          · have q1 : decide ((9007199254740992 : Int) ≤ (am : Int)) = false := decide_eq_false (by omega)
                            have q1' : decide (9007199254740992 ≤ am) = false := decide_eq_false (by omega)
                            have q2 : decide ((1074 : Int) < (bm : Int)) = true := decide_eq_true (by rcases hbad with h | h | h | h; cases h; cases h; omega; omega)
                            have q2' : decide (1074 < bm) = true := decide_eq_true (by rcases hbad with h | h | h | h; cases h; cases h; omega; omega)
                            simp only [q1, q1', q2, q2', rwA, evS, tyS, Bool.not_true, Bool.not_false, Nat.reduceAdd, Nat.reduceSub, Nat.reduceMul, Nat.reduceLT, Nat.reduceLeDiff, Nat.reduceEqDiff, reduceCtorEq, List.reduceReplicate, Int.reduceToNat, Int.reduceLE, Int.reduceLT]; (repeat' (first | (with_reducible refine And.intro ?_ ?_) | ((first | refine GuardK.intro_f (fun h => ?_) (fun h => ?_) | refine GuardK.intro_t (fun h => ?_) (fun h => ?_) | refine CondK.intro (fun h => ?_) (fun h => ?_) | refine PickK.intro (fun h => ?_) (fun h => ?_)) <;> simp only [h, q1, q1', q2, q2', rwA, evS, tyS, Bool.not_true, Bool.not_false, Nat.reduceAdd, Nat.reduceSub, Nat.reduceMul, Nat.reduceLT, Nat.reduceLeDiff, Nat.reduceEqDiff, reduceCtorEq, List.reduceReplicate, Int.reduceToNat, Int.reduceLE, Int.reduceLT]) | (refine DrawK.intro (by kernel_rfl) (by kernel_rfl) ?_; simp only [q1, q1', q2, q2', rwA, evS, tyS, Bool.not_true, Bool.not_false, Nat.reduceAdd, Nat.reduceSub, Nat.reduceMul, Nat.reduceLT, Nat.reduceLeDiff, Nat.reduceEqDiff, reduceCtorEq, List.reduceReplicate, Int.reduceToNat, Int.reduceLE, Int.reduceLT]))); all_goals first | done | rfl | trace_state
                    · rw [if_neg hbad]
                      have hab : ab = true := by cases ab with | true => rfl | false => exact absurd (.inl rfl) hbad
                      have hbb : bb = true := by cases bb with | true => rfl | false => exact absurd (.inr (.inl rfl)) hbad
                      subst hab
                      subst hbb
                      have q1 : decide ((9007199254740992 : Int) ≤ (am : Int)) = false := decide_eq_false (by omega)
                      have q1' : decide (9007199254740992 ≤ am) = false := decide_eq_false (by omega)
                      have q2 : decide ((1074 : Int) < (bm : Int)) = false := decide_eq_false (by omega)
                      have q2' : decide (1074 < bm) = false := decide_eq_false (by omega)
                      have hn := near_eq am (by omega)
                      simp only [q1, q1', q2, q2', hn, evS, tyS, Bool.not_true, Bool.not_false, Nat.reduceAdd, Nat.reduceSub, Nat.reduceMul, Nat.reduceLT, Nat.reduceLeDiff, Nat.reduceEqDiff, reduceCtorEq, List.reduceReplicate, Int.reduceToNat, Int.reduceLE, Int.reduceLT]
                      refine rw_loop2 (γ := γ) (m := am) (e := bm) (dn := true) (S := .v (.float .f64 (sgF false))) (by kernel_rfl) (by omega) (by omega) ?_ ?_
                      · exact ⟨rfl, rfl, ⟨rfl, rfl, rfl, rfl, rfl, trivial⟩, .inl rfl⟩
                      have ms := msg (m := am) (by omega) (e := (if true = true then -(bm : Int) else bm)) (by first | (simp only [if_true]; omega) | (simp only [Bool.false_eq_true, if_false]; omega))
                      simp only [if_true, Bool.false_eq_true, if_false, sgF, flA] at ms ⊢
                      simp only [ms, rwA, evS, tyS, Bool.not_true, Bool.not_false, Nat.reduceAdd, Nat.reduceSub, Nat.reduceMul, Nat.reduceLT, Nat.reduceLeDiff, Nat.reduceEqDiff, reduceCtorEq, List.reduceReplicate, Int.reduceToNat, Int.reduceLE, Int.reduceLT]
                      all_goals first | done | rfl | trace_state
                  | false =>
                    have hct2 := hcutF rfl
                    rw [← hct2] at kb
                    simp only [w1, ht, tk, e1, e1', ea, hz, evS, tyS, Bool.not_true, Bool.not_false, Nat.reduceAdd, Nat.reduceSub, Nat.reduceMul, Nat.reduceLT, Nat.reduceLeDiff, Nat.reduceEqDiff, reduceCtorEq, List.reduceReplicate, Int.reduceToNat, Int.reduceLE, Int.reduceLT]
                    (repeat' (first | (with_reducible refine And.intro ?_ ?_) | ((first | refine GuardK.intro_f (fun h => ?_) (fun h => ?_) | refine GuardK.intro_t (fun h => ?_) (fun h => ?_) | refine CondK.intro (fun h => ?_) (fun h => ?_) | refine PickK.intro (fun h => ?_) (fun h => ?_)) <;> simp only [h, w1, ht, tk, e1, e1', ea, hz, evS, tyS, Bool.not_true, Bool.not_false, Nat.reduceAdd, Nat.reduceSub, Nat.reduceMul, Nat.reduceLT, Nat.reduceLeDiff, Nat.reduceEqDiff, reduceCtorEq, List.reduceReplicate, Int.reduceToNat, Int.reduceLE, Int.reduceLT]) | (refine DrawK.intro (by kernel_rfl) (by kernel_rfl) ?_; simp only [w1, ht, tk, e1, e1', ea, hz, evS, tyS, Bool.not_true, Bool.not_false, Nat.reduceAdd, Nat.reduceSub, Nat.reduceMul, Nat.reduceLT, Nat.reduceLeDiff, Nat.reduceEqDiff, reduceCtorEq, List.reduceReplicate, Int.reduceToNat, Int.reduceLE, Int.reduceLT])))
                    all_goals try (((try simp only [decide_eq_true_eq, decide_eq_false_iff_not, beq_iff_eq, bne_iff_ne, ne_eq, beq_eq_false_iff_ne, bne_eq_false_iff_eq] at *) <;> (try omega)); done)
                    refine CallK.intro c107 rfl kb ?_
                    by_cases hbad : ab = false ∨ bb = false ∨ 9007199254740992 ≤ am ∨ 1074 < bm
                    · rw [if_pos hbad]
                      cases ab with
                      | false => simp only [rwA, evS, tyS, Bool.not_true, Bool.not_false, Nat.reduceAdd, Nat.reduceSub, Nat.reduceMul, Nat.reduceLT, Nat.reduceLeDiff, Nat.reduceEqDiff, reduceCtorEq, List.reduceReplicate, Int.reduceToNat, Int.reduceLE, Int.reduceLT]; (repeat' (first | (with_reducible refine And.intro ?_ ?_) | ((first | refine GuardK.intro_f (fun h => ?_) (fun h => ?_) | refine GuardK.intro_t (fun h => ?_) (fun h => ?_) | refine CondK.intro (fun h => ?_) (fun h => ?_) | refine PickK.intro (fun h => ?_) (fun h => ?_)) <;> simp only [h, rwA, evS, tyS, Bool.not_true, Bool.not_false, Nat.reduceAdd, Nat.reduceSub, Nat.reduceMul, Nat.reduceLT, Nat.reduceLeDiff, Nat.reduceEqDiff, reduceCtorEq, List.reduceReplicate, Int.reduceToNat, Int.reduceLE, Int.reduceLT]) | (refine DrawK.intro (by kernel_rfl) (by kernel_rfl) ?_; simp only [rwA, evS, tyS, Bool.not_true, Bool.not_false, Nat.reduceAdd, Nat.reduceSub, Nat.reduceMul, Nat.reduceLT, Nat.reduceLeDiff, Nat.reduceEqDiff, reduceCtorEq, List.reduceReplicate, Int.reduceToNat, Int.reduceLE, Int.reduceLT]))); all_goals first | done | rfl | trace_state
                      | true =>
                        cases bb with
                        | false => simp only [rwA, evS, tyS, Bool.not_true, Bool.not_false, Nat.reduceAdd, Nat.reduceSub, Nat.reduceMul, Nat.reduceLT, Nat.reduceLeDiff, Nat.reduceEqDiff, reduceCtorEq, List.reduceReplicate, Int.reduceToNat, Int.reduceLE, Int.reduceLT]; (repeat' (first | (with_reducible refine And.intro ?_ ?_) | ((first | refine GuardK.intro_f (fun h => ?_) (fun h => ?_) | refine GuardK.intro_t (fun h => ?_) (fun h => ?_) | refine CondK.intro (fun h => ?_) (fun h => ?_) | refine PickK.intro (fun h => ?_) (fun h => ?_)) <;> simp only [h, rwA, evS, tyS, Bool.not_true, Bool.not_false, Nat.reduceAdd, Nat.reduceSub, Nat.reduceMul, Nat.reduceLT, Nat.reduceLeDiff, Nat.reduceEqDiff, reduceCtorEq, List.reduceReplicate, Int.reduceToNat, Int.reduceLE, Int.reduceLT]) | (refine DrawK.intro (by kernel_rfl) (by kernel_rfl) ?_; simp only [rwA, evS, tyS, Bool.not_true, Bool.not_false, Nat.reduceAdd, Nat.reduceSub, Nat.reduceMul, Nat.reduceLT, Nat.reduceLeDiff, Nat.reduceEqDiff, reduceCtorEq, List.reduceReplicate, Int.reduceToNat, Int.reduceLE, Int.reduceLT]))); all_goals first | done | rfl | trace_state
                        | true =>
                          by_cases h53 : 9007199254740992 ≤ am
                          · have q1 : decide ((9007199254740992 : Int) ≤ (am : Int)) = true := decide_eq_true (by omega)
                            have q1' : decide (9007199254740992 ≤ am) = true := decide_eq_true (by omega)
                            simp only [q1, q1', rwA, evS, tyS, Bool.not_true, Bool.not_false, Nat.reduceAdd, Nat.reduceSub, Nat.reduceMul, Nat.reduceLT, Nat.reduceLeDiff, Nat.reduceEqDiff, reduceCtorEq, List.reduceReplicate, Int.reduceToNat, Int.reduceLE, Int.reduceLT]; (repeat' (first | (with_reducible refine And.intro ?_ ?_) | ((first | refine GuardK.intro_f (fun h => ?_) (fun h => ?_) | refine GuardK.intro_t (fun h => ?_) (fun h => ?_) | refine CondK.intro (fun h => ?_) (fun h => ?_) | refine PickK.intro (fun h => ?_) (fun h => ?_)) <;> simp only [h, q1, q1', rwA, evS, tyS, Bool.not_true, Bool.not_false, Nat.reduceAdd, Nat.reduceSub, Nat.reduceMul, Nat.reduceLT, Nat.reduceLeDiff, Nat.reduceEqDiff, reduceCtorEq, List.reduceReplicate, Int.reduceToNat, Int.reduceLE, Int.reduceLT]) | (refine DrawK.intro (by kernel_rfl) (by kernel_rfl) ?_; simp only [q1, q1', rwA, evS, tyS, Bool.not_true, Bool.not_false, Nat.reduceAdd, Nat.reduceSub, Nat.reduceMul, Nat.reduceLT, Nat.reduceLeDiff, Nat.reduceEqDiff, reduceCtorEq, List.reduceReplicate, Int.reduceToNat, Int.reduceLE, Int.reduceLT]))); all_goals first | done | rfl | trace_state
                          · have q1 : decide ((9007199254740992 : Int) ≤ (am : Int)) = false := decide_eq_false (by omega)
                            have q1' : decide (9007199254740992 ≤ am) = false := decide_eq_false (by omega)
                            have q2 : decide ((1074 : Int) < (bm : Int)) = true := decide_eq_true (by rcases hbad with h | h | h | h; cases h; cases h; omega; omega)
                            have q2' : decide (1074 < bm) = true := decide_eq_true (by rcases hbad with h | h | h | h; cases h; cases h; omega; omega)
                            simp only [q1, q1', q2, q2', rwA, evS, tyS, Bool.not_true, Bool.not_false, Nat.reduceAdd, Nat.reduceSub, Nat.reduceMul, Nat.reduceLT, Nat.reduceLeDiff, Nat.reduceEqDiff, reduceCtorEq, List.reduceReplicate, Int.reduceToNat, Int.reduceLE, Int.reduceLT]; (repeat' (first | (with_reducible refine And.intro ?_ ?_) | ((first | refine GuardK.intro_f (fun h => ?_) (fun h => ?_) | refine GuardK.intro_t (fun h => ?_) (fun h => ?_) | refine CondK.intro (fun h => ?_) (fun h => ?_) | refine PickK.intro (fun h => ?_) (fun h => ?_)) <;> simp only [h, q1, q1', q2, q2', rwA, evS, tyS, Bool.not_true, Bool.not_false, Nat.reduceAdd, Nat.reduceSub, Nat.reduceMul, Nat.reduceLT, Nat.reduceLeDiff, Nat.reduceEqDiff, reduceCtorEq, List.reduceReplicate, Int.reduceToNat, Int.reduceLE, Int.reduceLT]) | (refine DrawK.intro (by kernel_rfl) (by kernel_rfl) ?_; simp only [q1, q1', q2, q2', rwA, evS, tyS, Bool.not_true, Bool.not_false, Nat.reduceAdd, Nat.reduceSub, Nat.reduceMul, Nat.reduceLT, Nat.reduceLeDiff, Nat.reduceEqDiff, reduceCtorEq, List.reduceReplicate, Int.reduceToNat, Int.reduceLE, Int.reduceLT]))); all_goals first | done | rfl | trace_state
                    · rw [if_neg hbad]
                      have hab : ab = true := by cases ab with | true => rfl | false => exact absurd (.inl rfl) hbad
                      have hbb : bb = true := by cases bb with | true => rfl | false => exact absurd (.inr (.inl rfl)) hbad
                      subst hab
                      subst hbb
                      have q1 : decide ((9007199254740992 : Int) ≤ (am : Int)) = false := decide_eq_false (by omega)
                      have q1' : decide (9007199254740992 ≤ am) = false := decide_eq_false (by omega)
                      have q2 : decide ((1074 : Int) < (bm : Int)) = false := decide_eq_false (by omega)
                      have q2' : decide (1074 < bm) = false := decide_eq_false (by omega)
                      have hn := near_eq am (by omega)
                      simp only [q1, q1', q2, q2', hn, evS, tyS, Bool.not_true, Bool.not_false, Nat.reduceAdd, Nat.reduceSub, Nat.reduceMul, Nat.reduceLT, Nat.reduceLeDiff, Nat.reduceEqDiff, reduceCtorEq, List.reduceReplicate, Int.reduceToNat, Int.reduceLE, Int.reduceLT]
                      refine rw_loop2 (γ := γ) (m := am) (e := bm) (dn := false) (S := .v (.float .f64 (sgF false))) (by kernel_rfl) (by omega) (by omega) ?_ ?_
                      · exact ⟨rfl, rfl, ⟨rfl, rfl, rfl, rfl, rfl, trivial⟩, .inl rfl⟩
                      have ms := msg (m := am) (by omega) (e := (if false = true then -(bm : Int) else bm)) (by first | (simp only [if_true]; omega) | (simp only [Bool.false_eq_true, if_false]; omega))
                      simp only [if_true, Bool.false_eq_true, if_false, sgF, flA] at ms ⊢
                      simp only [ms, rwA, evS, tyS, Bool.not_true, Bool.not_false, Nat.reduceAdd, Nat.reduceSub, Nat.reduceMul, Nat.reduceLT, Nat.reduceLeDiff, Nat.reduceEqDiff, reduceCtorEq, List.reduceReplicate, Int.reduceToNat, Int.reduceLE, Int.reduceLT]
                      all_goals first | done | rfl | trace_state
              · have z : ((atL r j : Int) != 112) = true := by
                  have : atL r j ≠ 112 := fun hc => hp (UInt8.toNat_inj.1 hc)
                  cases hb : ((atL r j : Int) != 112) with
                  | true => rfl
                  | false => exact absurd (by simpa using hb) (by omega)
                have w1 : IntKind.i64.wrap ((j : Int) + 1) = ((j + 1 : Nat) : Int) := by rw [i64w] <;> omega
                simp only [d1, d1', ea, z, w1, evS, tyS, Bool.not_true, Bool.not_false, Nat.reduceAdd, Nat.reduceSub, Nat.reduceMul, Nat.reduceLT, Nat.reduceLeDiff, Nat.reduceEqDiff, reduceCtorEq, List.reduceReplicate, Int.reduceToNat, Int.reduceLE, Int.reduceLT]
                (repeat' (first | (with_reducible refine And.intro ?_ ?_) | ((first | refine GuardK.intro_f (fun h => ?_) (fun h => ?_) | refine GuardK.intro_t (fun h => ?_) (fun h => ?_) | refine CondK.intro (fun h => ?_) (fun h => ?_) | refine PickK.intro (fun h => ?_) (fun h => ?_)) <;> simp only [h, d1, d1', ea, z, w1, evS, tyS, Bool.not_true, Bool.not_false, Nat.reduceAdd, Nat.reduceSub, Nat.reduceMul, Nat.reduceLT, Nat.reduceLeDiff, Nat.reduceEqDiff, reduceCtorEq, List.reduceReplicate, Int.reduceToNat, Int.reduceLE, Int.reduceLT]) | (refine DrawK.intro (by kernel_rfl) (by kernel_rfl) ?_; simp only [d1, d1', ea, z, w1, evS, tyS, Bool.not_true, Bool.not_false, Nat.reduceAdd, Nat.reduceSub, Nat.reduceMul, Nat.reduceLT, Nat.reduceLeDiff, Nat.reduceEqDiff, reduceCtorEq, List.reduceReplicate, Int.reduceToNat, Int.reduceLE, Int.reduceLT])))
                all_goals try (((try simp only [decide_eq_true_eq, decide_eq_false_iff_not, beq_iff_eq, bne_iff_ne, ne_eq, beq_eq_false_iff_ne, bne_eq_false_iff_eq] at *) <;> (try omega)); done)
                refine loopC.intro (j + 1) ⟨by omega, by rw [← findC_step hjl hp]; exact hfc⟩ ?_ (by omega)
                exact ⟨rfl, rfl, ⟨by simp only [w1, evS, tyS, Bool.not_true, Bool.not_false, Nat.reduceAdd, Nat.reduceSub, Nat.reduceMul, Nat.reduceLT, Nat.reduceLeDiff, Nat.reduceEqDiff, reduceCtorEq, List.reduceReplicate, Int.reduceToNat, Int.reduceLE, Int.reduceLT], rfl, rfl, trivial⟩, .inl rfl⟩
            · have hje : j = r.length := by omega
              have d1 : decide (j < r.length) = false := decide_eq_false hjl
              have d1' : decide ((j : Int) < (r.length : Int)) = false := decide_eq_false (by omega)
              have zl : ((j : Int) == (r.length : Int)) = true := by rw [hje]; simp
              have hj0 : findC 112 r 0 = r.length := by rw [← hfc, ← hje]; exact findC_end (by omega)
              rw [if_pos hj0]
              simp only [d1, d1', zl, rwA, evS, tyS, Bool.not_true, Bool.not_false, Nat.reduceAdd, Nat.reduceSub, Nat.reduceMul, Nat.reduceLT, Nat.reduceLeDiff, Nat.reduceEqDiff, reduceCtorEq, List.reduceReplicate, Int.reduceToNat, Int.reduceLE, Int.reduceLT]
              all_goals try (((try simp only [decide_eq_true_eq, decide_eq_false_iff_not, beq_iff_eq, bne_iff_ne, ne_eq, beq_eq_false_iff_ne, bne_eq_false_iff_eq] at *) <;> (try omega)); done)
              all_goals first | done | rfl | trace_state
end Go.Proofs.YtlobiioioicmhaaGreatDoor
