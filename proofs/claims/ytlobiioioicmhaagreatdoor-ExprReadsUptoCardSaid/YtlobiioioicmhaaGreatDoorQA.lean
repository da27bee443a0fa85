/- Contracts of the functions that the law reaches. -/
import Derived.Test.YtlobiioioicmhaaGreatDoorQ8
/- Any double: whether it is one from 0 on, finite and not the zero below; the pure part. -/
namespace Go.Proofs.YtlobiioioicmhaaGreatDoor
set_option linter.all false
open Go Go.Ev
/-- From 0 on, finite, not -0. -/
def finR (r : Nat) : Bool := match Ieee.double.read r with
  | .number false _ _ => true
  | _ => false
theorem read_cases (r : Nat) : (∃ s f, Ieee.double.read r = .nan s f) ∨ (∃ s, Ieee.double.read r = .infinity s) ∨ ∃ s m i, Ieee.double.read r = .number s m i ∧ m < 9007199254740992 ∧ -1074 ≤ i ∧ i ≤ 971 := by
  have e1 : Ieee.double.leastPlace = -1074 := by rfl
  have e2 : Ieee.double.binade = 4503599627370496 := by rfl
  have e3 : Ieee.double.infRung = 9218868437227405312 := by rfl
  have e4 : Ieee.double.signWeight = 9223372036854775808 := by rfl
  unfold Ieee.Format.read
  simp only [e1, e2, e3, e4]
  generalize r % 9223372036854775808 = u
  split
  · exact .inr (.inr ⟨_, _, _, rfl, by omega, by omega, by omega⟩)
  · split
    · refine .inr (.inr ⟨_, _, _, rfl, by omega, by omega, ?_⟩)
      have : u / 4503599627370496 ≤ 2046 := by omega
      omega
    · split
      · exact .inr (.inl ⟨_, rfl⟩)
      · exact .inl ⟨_, _, rfl⟩
theorem read_neg (r : Nat) : (Ieee.double.read r).neg = (r / 9223372036854775808 % 2 == 1) := by
  have e4 : Ieee.double.signWeight = 9223372036854775808 := by rfl
  unfold Ieee.Format.read
  simp only [e4]
  split
  · rfl
  · split
    · rfl
    · split <;> rfl
theorem ord_num {r m : Nat} {s : Bool} {i : Int} (h : Ieee.double.read r = .number s m i) (hi : -1074 ≤ i) : Ieee.double.order r 0 = some (if m = 0 then .eq else if s then .lt else .gt) := by
  unfold Ieee.Format.order
  rw [h, rd0]
  simp only [Ieee.Datum.order, Ieee.signed, Bool.false_eq_true, if_false, Nat.shiftLeft_eq, Nat.zero_mul]
  have hp := one_le_pow (i - min i (-1074)).toNat
  by_cases hm : m = 0
  · subst hm
    rw [if_pos rfl, Nat.zero_mul]
    cases s <;> rfl
  · have hA : 0 < m * 2 ^ (i - min i (-1074)).toNat := Nat.mul_pos (by omega) hp
    generalize m * 2 ^ (i - min i (-1074)).toNat = A at *
    rw [if_neg hm]
    cases s with
    | false =>
      have : compare ((A : Nat) : Int) ((0 : Nat) : Int) = .gt := by rw [Int.compare_eq_gt]; omega
      simp only [Bool.false_eq_true, if_false, this]
    | true =>
      have : compare (-((A : Nat) : Int)) ((0 : Nat) : Int) = .lt := by rw [Int.compare_eq_lt]; omega
      simp only [if_true, this]
theorem ord_max_num {r m : Nat} {s : Bool} {i : Int} (h : Ieee.double.read r = .number s m i) (hm : m < 9007199254740992) (hi : i ≤ 971) : (Ieee.double.order r 9218868437227405311 == some .gt) = false := by
  unfold Ieee.Format.order
  rw [h, rdMax]
  simp only [Ieee.Datum.order, Ieee.signed, Bool.false_eq_true, if_false, Nat.shiftLeft_eq]
  have e1 : (i - min i 971).toNat = 0 := by omega
  rw [e1]
  have hp := one_le_pow (971 - min i 971).toNat
  have : 9007199254740991 ≤ 9007199254740991 * 2 ^ (971 - min i 971).toNat := Nat.le_mul_of_pos_right _ hp
  generalize 9007199254740991 * 2 ^ (971 - min i 971).toNat = A at *
  have key : ∀ x : Int, x ≤ m → (some (compare x ((A : Nat) : Int)) == some Ordering.gt) = false := fun x hx => by
    have : compare x ((A : Nat) : Int) ≠ .gt := by rw [Ne, Int.compare_eq_gt]; omega
    cases hc : compare x ((A : Nat) : Int) with
    | gt => exact absurd hc this
    | lt => rfl
    | eq => rfl
  cases s with
  | false => exact key _ (by simp)
  | true => exact key _ (by simp only [if_true]; omega)
theorem sub_num {r m : Nat} {s : Bool} {i : Int} (h : Ieee.double.read r = .number s m i) : Ieee.double.sub r r = some 0 := by
  unfold Ieee.Format.sub
  rw [h]
  cases s with
  | false =>
    simp only [Ieee.Datum.opposite, Ieee.Datum.sum, Bool.not_false, Ieee.signed, Bool.false_eq_true, if_false, if_true, Option.map_some, Ieee.Format.write]
    generalize (m <<< (i - min i i).toNat : Nat) = A
    have : ((A : Nat) : Int) + -((A : Nat) : Int) = 0 := by omega
    rw [this]
    rfl
  | true =>
    simp only [Ieee.Datum.opposite, Ieee.Datum.sum, Bool.not_true, Ieee.signed, Bool.false_eq_true, if_false, if_true, Option.map_some, Ieee.Format.write]
    generalize (m <<< (i - min i i).toNat : Nat) = A
    have : -((A : Nat) : Int) + ((A : Nat) : Int) = 0 := by omega
    rw [this]
    rfl
theorem div_zero {r : Nat} {s : Bool} {i : Int} (h : Ieee.double.read r = .number s 0 i) : Ieee.double.div 4607182418800017408 r = some (if s then 18442240474082181120 else 9218868437227405312) := by
  have r1 : Ieee.double.read 4607182418800017408 = .number false 4503599627370496 (-52) := by rfl
  unfold Ieee.Format.div
  rw [h, r1]
  simp only [Ieee.Datum.quotient, if_true]
  cases s <;> rfl
theorem ord_nan {r x f : Nat} {s : Bool} (h : Ieee.double.read r = .nan s f) : Ieee.double.order r x = none := by
  unfold Ieee.Format.order
  rw [h]; rfl
theorem ord_inf {r : Nat} {s : Bool} (h : Ieee.double.read r = .infinity s) : Ieee.double.order r 0 = some (if s then .lt else .gt) ∧ Ieee.double.order r 9218868437227405311 = some (if s then .lt else .gt) ∧ Ieee.double.sub r r = none := by
  unfold Ieee.Format.order Ieee.Format.sub
  rw [h, rd0, rdMax]
  cases s <;> exact ⟨rfl, rfl, rfl⟩
/-- A token that can stand. -/
def standB (t : Tk) : Bool := if t.kind = 1 then namedB t.text else if t.kind = 2 then decide (0 ≤ t.int) else if t.kind = 3 then finR t.real else if t.kind = 4 then decide (t.text.length ≤ 256) else t.kind == 5
end Go.Proofs.YtlobiioioicmhaaGreatDoor
/- What tells whether a token can stand: of any token, in the program and in the document; walked. -/
namespace Go.Proofs.YtlobiioioicmhaaGreatDoor
set_option linter.all false
open Go Go.Ev
set_option maxRecDepth 20000
variable {γ : List (Nat × AV)}
theorem o00 : FloatKind.f64.format.order 0 0 = some .eq := by kernel_rfl
theorem oI1 : FloatKind.f64.format.order 9218868437227405312 0 = some .gt := by kernel_rfl
theorem oI2 : FloatKind.f64.format.order 18442240474082181120 0 = some .lt := by kernel_rfl
theorem q1 : (some Ordering.gt == some Ordering.gt) = true := rfl
theorem q2 : (some Ordering.gt == some Ordering.eq) = false := rfl
theorem q3 : (some Ordering.eq == some Ordering.gt) = false := rfl
theorem q4 : (some Ordering.eq == some Ordering.eq) = true := rfl
theorem q5 : (some Ordering.lt == some Ordering.gt) = false := rfl
theorem q6 : (some Ordering.lt == some Ordering.eq) = false := rfl
theorem q7 : ((none : Option Ordering) == some Ordering.gt) = false := rfl
theorem q8 : ((none : Option Ordering) == some Ordering.eq) = false := rfl
theorem fltNone : fltRes none = AV.nan := rfl
set_option maxHeartbeats 1000000 in
theorem finiteR_ev (r : Nat) : Ev Tryz.prog γ 285 [.v (.float .f64 r)] (.v (.bool (finR r))) := by
  refine Ev.of Tryz.func285 rfl ?_
  unfold finR
  rcases read_cases r with ⟨s, f, h⟩ | ⟨s, h⟩ | ⟨s, m, i, h, hm, hi, hj⟩
  · have o1 : FloatKind.f64.format.order r 0 = none := ord_nan h
    rw [h]
    simp only [Tryz.f285, q7, q8, o1, evE, Nat.reduceAdd, Nat.reduceSub, Nat.reduceLT, Nat.reduceEqDiff, reduceCtorEq]
  · have o1 : FloatKind.f64.format.order r 0 = some (if s then .lt else .gt) := (ord_inf h).1
    have o2 : FloatKind.f64.format.sub r r = none := (ord_inf h).2.2
    rw [h]
    cases s with
    | true =>
      simp only [if_true] at o1
      simp only [Tryz.f285, q5, q6, o1, evE, Nat.reduceAdd, Nat.reduceSub, Nat.reduceLT, Nat.reduceEqDiff, reduceCtorEq]
    | false =>
      simp only [Bool.false_eq_true, if_false] at o1
      simp only [Tryz.f285, q1, q2, o1, o2, fltNone, evE, Nat.reduceAdd, Nat.reduceSub, Nat.reduceLT, Nat.reduceEqDiff, reduceCtorEq]
  · have o1 : FloatKind.f64.format.order r 0 = some (if m = 0 then .eq else if s then .lt else .gt) := ord_num h hi
    have o2 : FloatKind.f64.format.sub r r = some 0 := sub_num h
    rw [h]
    by_cases h0 : m = 0
    · subst h0
      have o3 : FloatKind.f64.format.div 4607182418800017408 r = some (if s then 18442240474082181120 else 9218868437227405312) := div_zero h
      simp only [if_true] at o1
      cases s with
      | true =>
        simp only [if_true] at o3
        simp only [Tryz.f285, q3, q4, q5, o1, o2, o3, o00, oI2, fltRes_some, evE, Nat.reduceAdd, Nat.reduceSub, Nat.reduceLT, Nat.reduceEqDiff, reduceCtorEq]
      | false =>
        simp only [Bool.false_eq_true, if_false] at o3
        simp only [Tryz.f285, q1, q3, q4, o1, o2, o3, o00, oI1, fltRes_some, evE, Nat.reduceAdd, Nat.reduceSub, Nat.reduceLT, Nat.reduceEqDiff, reduceCtorEq]
    · simp only [if_neg h0] at o1
      cases s with
      | true =>
        simp only [if_true] at o1
        simp only [Tryz.f285, q5, q6, o1, evE, Nat.reduceAdd, Nat.reduceSub, Nat.reduceLT, Nat.reduceEqDiff, reduceCtorEq]
      | false =>
        simp only [Bool.false_eq_true, if_false] at o1
        simp only [Tryz.f285, q1, q2, q4, o1, o2, o00, fltRes_some, evE, Nat.reduceAdd, Nat.reduceSub, Nat.reduceLT, Nat.reduceEqDiff, reduceCtorEq]
set_option maxHeartbeats 1000000 in
theorem standsB_ev (t : Tk) (hs : t.text.length ≤ 140737488351232) : Ev Tryz.prog γ 246 [.agg t.cells] (.v (.bool (standB t))) := by
  refine Ev.of Tryz.func246 rfl ?_
  obtain ⟨kd, tx, ti, tr, tp, tz⟩ := t
  simp only at hs
  unfold standB
  simp only
  by_cases h1 : kd = 1
  · subst h1
    simp only [Tryz.f246, tyR, Tk.cells, Int.reduceBEq, evE, tyX, Nat.reduceAdd, Nat.reduceSub, Nat.reduceLT, Nat.reduceEqDiff, reduceCtorEq]
    refine CallK.intro c284 rfl (refNamed_ev tx hs) ?_
    simp only [if_true, evE, Nat.reduceLT, Nat.reduceEqDiff, reduceCtorEq]
  · have d1 : (kd == 1) = false := by simpa using h1
    rw [if_neg h1]
    by_cases h2 : kd = 2
    · subst h2
      simp only [Tryz.f246, tyR, Tk.cells, Int.reduceBEq, if_true, evE, tyX, Nat.reduceAdd, Nat.reduceSub, Nat.reduceLT, Nat.reduceEqDiff, reduceCtorEq]
    · have d2 : (kd == 2) = false := by simpa using h2
      rw [if_neg h2]
      by_cases h3 : kd = 3
      · subst h3
        simp only [Tryz.f246, tyR, Tk.cells, Int.reduceBEq, if_true, evE, tyX, Nat.reduceAdd, Nat.reduceSub, Nat.reduceLT, Nat.reduceEqDiff, reduceCtorEq]
        refine CallK.intro c285 rfl (finiteR_ev tr) ?_
        simp only [evE, Nat.reduceLT, Nat.reduceEqDiff, reduceCtorEq]
      · have d3 : (kd == 3) = false := by simpa using h3
        rw [if_neg h3]
        by_cases h4 : kd = 4
        · subst h4
          simp only [Tryz.f246, tyR, Tk.cells, Int.reduceBEq, if_true, evE, tyX, Nat.reduceAdd, Nat.reduceSub, Nat.reduceLT, Nat.reduceEqDiff, reduceCtorEq]
          rw [show (decide ((tx.length : Int) ≤ 256)) = decide (tx.length ≤ 256) by simp only [decide_eq_decide]; omega]
        · have d4 : (kd == 4) = false := by simpa using h4
          rw [if_neg h4]
          simp only [Tryz.f246, tyR, Tk.cells, d1, d2, d3, d4, evE, tyX, Nat.reduceAdd, Nat.reduceSub, Nat.reduceLT, Nat.reduceEqDiff, reduceCtorEq]
theorem c67 : bodyT Tryz.prog 67 := ⟨_, Tryz.func67, by kernel_rfl, by kernel_rfl⟩
theorem c66 : bodyT Tryz.prog 66 := ⟨_, Tryz.func66, by kernel_rfl, by kernel_rfl⟩
theorem c121 : bodyT Tryz.prog 121 := ⟨_, Tryz.func121, by kernel_rfl, by kernel_rfl⟩
theorem c119 : bodyT Tryz.prog 119 := ⟨_, Tryz.func119, by kernel_rfl, by kernel_rfl⟩
theorem c120 : bodyT Tryz.prog 120 := ⟨_, Tryz.func120, by kernel_rfl, by kernel_rfl⟩
theorem noBor_scan (l : List UInt8) : noBor (scanA l) = true := by
  cases e : okToks l with
  | none =>
    obtain ⟨x, _, _, hr⟩ := scan_noToks e
    rw [hr]; rfl
  | some L => rw [scan_okToks e]; simp only [noBor, noBorL, noBor_list, Bool.and_self]
set_option maxHeartbeats 1000000 in
theorem named_ev (hγ : Gl γ) (hγ2 : GlW γ) (s : List UInt8) (hs : s.length ≤ 140737488351232) : Ev Tryz.prog γ 121 [.v (.string ⟨s.toArray⟩)] (.v (.bool (namedB s))) := by
  refine Ev.of Tryz.func121 rfl ?_
  simp only [Tryz.f121, tyZ, evE, Nat.reduceAdd, Nat.reduceSub, Nat.reduceLT, Nat.reduceEqDiff, reduceCtorEq]
  refine ⟨by omega, CallK.lend c58 _ (lend1 (k := ⟨0, 5, s.map byteC⟩) rfl List.prefix_rfl (bytes_v s)) (lexScan_ev hγ hγ2 true s hs) ?_ ?_⟩
  · exact noBor_scan s
  cases e : okToks s with
  | none =>
    obtain ⟨x, _, hk, hr⟩ := scan_noToks e
    have d1 : (x.2 == 0) = false := by simpa using hk
    have en : namedB s = false := by unfold namedB; rw [e]
    rw [hr, en]
    simp only [d1, evE, Nat.reduceLT, Nat.reduceEqDiff, reduceCtorEq]
  | some L =>
    rw [scan_okToks e]
    have ll := lenS48 [⟨0, 5, s.map byteC⟩] L
    have z0 : ((0 : Int) == 0) = true := rfl
    simp only [ll, z0, evE, Nat.reduceLT, Nat.reduceEqDiff, reduceCtorEq]
    match L, e with
    | [], e =>
      have en : namedB s = false := by unfold namedB; rw [e]
      rw [en]
      have n0 : (((0 : Nat) : Int) == 1) = false := rfl
      simp only [n0, evE, Nat.reduceLT, Nat.reduceEqDiff, reduceCtorEq]
    | [x], e =>
      have en : namedB s = (x.1.kind == 1 && ((x.1.size : Int) == (s.length : Int))) := by unfold namedB; rw [e]
      rw [en]
      have n1 : (((1 : Nat) : Int) == 1) = true := rfl
      simp only [n1, listA, listCells, tokCells, tvals, evE, tyX, Nat.reduceAdd, Nat.reduceLT, Nat.reduceLeDiff, Nat.reduceEqDiff, reduceCtorEq, Int.reduceLE]
      by_cases hk : x.1.kind = 1
      · have d1 : (x.1.kind == 1) = true := by simpa using hk
        simp only [tyZ, d1, evE, tyX, Nat.reduceLT, Nat.reduceLeDiff, Nat.reduceEqDiff, reduceCtorEq, Int.reduceLE]
        decide
      · have d1 : (x.1.kind == 1) = false := by simpa using hk
        simp only [d1, evE, Nat.reduceLT, Nat.reduceEqDiff, reduceCtorEq]
        exact ⟨by decide, rfl⟩
    | x :: y :: L, e =>
      have en : namedB s = false := by unfold namedB; rw [e]
      rw [en]
      have n2 : (((L.length + 1 + 1 : Nat) : Int) == 1) = false := by simp only [beq_eq_false_iff_ne, ne_eq]; omega
      simp only [n2, evE, Nat.reduceLT, Nat.reduceEqDiff, reduceCtorEq]
theorem isInf1_ev (r : Nat) : Ev Tryz.prog γ 119 [.v (.float .f64 r), .v (.int .i64 1)] (.v (.bool (FloatKind.f64.format.order r 9218868437227405311 == some .gt))) := by
  refine Ev.of Tryz.func119 rfl ?_
  have h00 : ((1 : Int) == 0) = false := by decide
  have h01 : decide ((1 : Int) < 0) = false := by decide
  simp only [Tryz.f119, h00, evE, Nat.reduceAdd, Nat.reduceSub, Nat.reduceLT, Nat.reduceEqDiff, reduceCtorEq, Int.reduceLT]
theorem sign_bit (r : Nat) (h : r < 18446744073709551616) : decide (IntKind.i64.wrap (r : Int) < 0) = (Ieee.double.read r).neg := by
  rw [read_neg]
  by_cases hr : r < 9223372036854775808
  · have e1 : r / 9223372036854775808 = 0 := Nat.div_eq_of_lt hr
    rw [i64w (by omega) (by omega), e1]
    exact decide_eq_false (by omega)
  · have e1 : r / 9223372036854775808 = 1 := by omega
    have e2 : IntKind.i64.wrap (r : Int) = (r : Int) - 18446744073709551616 := by
      have b1 : IntKind.i64.bits = 64 := rfl
      have b2 : IntKind.i64.signed = true := rfl
      have m1 : (r : Int) % 18446744073709551616 = r := by omega
      unfold IntKind.wrap
      rw [b1, b2]
      show (if (true && decide ((r : Int) % 18446744073709551616 ≥ 9223372036854775808)) = true then (r : Int) % 18446744073709551616 - 18446744073709551616 else (r : Int) % 18446744073709551616) = _
      rw [m1, if_pos (by simp; omega)]
    rw [e1, e2]
    exact decide_eq_true (by omega)
theorem ty2 : intT Tryz.prog 2 = some .i64 ∧ (Tryz.prog.underlying 176).isSome = true := ⟨by kernel_rfl, by kernel_rfl⟩
theorem signbit_ev (r : Nat) (h : r < 18446744073709551616) : Ev Tryz.prog γ 120 [.v (.float .f64 r)] (.v (.bool (Ieee.double.read r).neg)) := by
  have hb := sign_bit r h
  refine Ev.of Tryz.func120 rfl ?_
  simp only [Tryz.f120, evE, Nat.reduceAdd, Nat.reduceSub, Nat.reduceLT, Nat.reduceEqDiff, reduceCtorEq]
  refine CallK.ext (ext33 r) ?_
  simp only [ty2, hb, evE, Nat.reduceLT, Nat.reduceEqDiff, reduceCtorEq]
set_option maxHeartbeats 1000000 in
theorem knownB_ev (hγ : Gl γ) (hγ2 : GlW γ) (t : Tk) (hs : t.text.length ≤ 140737488351232) (hr : t.real < 18446744073709551616) : Ev Tryz.prog γ 67 [.agg t.cells] (.v (.bool (standB t))) := by
  refine Ev.of Tryz.func67 rfl ?_
  obtain ⟨kd, tx, ti, tr, tp, tz⟩ := t
  simp only at hs hr
  unfold standB
  simp only
  by_cases h1 : kd = 1
  · subst h1
    simp only [Tryz.f67, Tk.cells, Int.reduceBEq, evE, tyX, Nat.reduceAdd, Nat.reduceSub, Nat.reduceLT, Nat.reduceEqDiff, reduceCtorEq]
    refine CallK.intro c121 rfl (named_ev hγ hγ2 tx hs) ?_
    simp only [if_true, evE, Nat.reduceLT, Nat.reduceEqDiff, reduceCtorEq]
  · have d1 : (kd == 1) = false := by simpa using h1
    rw [if_neg h1]
    by_cases h2 : kd = 2
    · subst h2
      simp only [Tryz.f67, Tk.cells, Int.reduceBEq, if_true, evE, tyX, Nat.reduceAdd, Nat.reduceSub, Nat.reduceLT, Nat.reduceEqDiff, reduceCtorEq]
    · have d2 : (kd == 2) = false := by simpa using h2
      rw [if_neg h2]
      by_cases h3 : kd = 3
      · subst h3
        rw [if_pos rfl]
        unfold finR
        rcases read_cases tr with ⟨s, f, h⟩ | ⟨s, h⟩ | ⟨s, m, i, h, hm, hi, hj⟩
        · have o1 : FloatKind.f64.format.order tr 0 = none := ord_nan h
          rw [h]
          simp only [Tryz.f67, Tk.cells, Int.reduceBEq, q7, q8, o1, evE, tyX, Nat.reduceAdd, Nat.reduceSub, Nat.reduceLT, Nat.reduceEqDiff, reduceCtorEq]
        · have o1 : FloatKind.f64.format.order tr 0 = some (if s then .lt else .gt) := (ord_inf h).1
          have o2 : FloatKind.f64.format.order tr 9218868437227405311 = some (if s then .lt else .gt) := (ord_inf h).2.1
          rw [h]
          cases s with
          | true =>
            simp only [if_true] at o1
            simp only [Tryz.f67, Tk.cells, Int.reduceBEq, q5, q6, o1, evE, tyX, Nat.reduceAdd, Nat.reduceSub, Nat.reduceLT, Nat.reduceEqDiff, reduceCtorEq]
          | false =>
            simp only [Bool.false_eq_true, if_false] at o1 o2
            simp only [Tryz.f67, Tk.cells, Int.reduceBEq, q1, q2, o1, evE, tyX, Nat.reduceAdd, Nat.reduceSub, Nat.reduceLT, Nat.reduceEqDiff, reduceCtorEq]
            refine CallK.intro c119 rfl (isInf1_ev tr) ?_
            simp only [o2, q1, evE, Bool.not_true, Nat.reduceLT, Nat.reduceEqDiff, reduceCtorEq]
        · have o1 : FloatKind.f64.format.order tr 0 = some (if m = 0 then .eq else if s then .lt else .gt) := ord_num h hi
          have o2 : (FloatKind.f64.format.order tr 9218868437227405311 == some .gt) = false := ord_max_num h hm hj
          have hn := signbit_ev (γ := γ) tr hr
          rw [h] at hn ⊢
          have hn : Ev Tryz.prog γ 120 [.v (.float .f64 tr)] (.v (.bool s)) := hn
          by_cases h0 : m = 0
          · simp only [if_pos h0] at o1
            simp only [Tryz.f67, Tk.cells, Int.reduceBEq, q3, q4, o1, evE, tyX, Nat.reduceAdd, Nat.reduceSub, Nat.reduceLT, Nat.reduceEqDiff, reduceCtorEq]
            refine CallK.intro c119 rfl (isInf1_ev tr) ?_
            simp only [o2, evE, tyX, Bool.not_false, Nat.reduceLT, Nat.reduceEqDiff, reduceCtorEq]
            refine CallK.intro c120 rfl hn ?_
            simp only [evE, Nat.reduceLT, Nat.reduceEqDiff, reduceCtorEq]
            cases s <;> rfl
          · simp only [if_neg h0] at o1
            cases s with
            | true =>
              simp only [if_true] at o1
              simp only [Tryz.f67, Tk.cells, Int.reduceBEq, q5, q6, o1, evE, tyX, Nat.reduceAdd, Nat.reduceSub, Nat.reduceLT, Nat.reduceEqDiff, reduceCtorEq]
            | false =>
              simp only [Bool.false_eq_true, if_false] at o1
              simp only [Tryz.f67, Tk.cells, Int.reduceBEq, q1, q2, o1, evE, tyX, Nat.reduceAdd, Nat.reduceSub, Nat.reduceLT, Nat.reduceEqDiff, reduceCtorEq]
              refine CallK.intro c119 rfl (isInf1_ev tr) ?_
              simp only [o2, evE, tyX, Bool.not_false, Nat.reduceLT, Nat.reduceEqDiff, reduceCtorEq]
              refine CallK.intro c120 rfl hn ?_
              simp only [evE, Bool.not_false, Nat.reduceLT, Nat.reduceEqDiff, reduceCtorEq]
      · have d3 : (kd == 3) = false := by simpa using h3
        rw [if_neg h3]
        by_cases h4 : kd = 4
        · subst h4
          simp only [Tryz.f67, tyZ, Tk.cells, Int.reduceBEq, if_true, evE, tyX, Nat.reduceAdd, Nat.reduceSub, Nat.reduceLT, Nat.reduceEqDiff, reduceCtorEq]
          rw [show (decide ((tx.length : Int) ≤ 256)) = decide (tx.length ≤ 256) by simp only [decide_eq_decide]; omega]
        · have d4 : (kd == 4) = false := by simpa using h4
          rw [if_neg h4]
          simp only [Tryz.f67, Tk.cells, d1, d2, d3, d4, evE, tyX, Nat.reduceAdd, Nat.reduceSub, Nat.reduceLT, Nat.reduceEqDiff, reduceCtorEq]
theorem read1_ev (hγ : Gl γ) (hγ2 : GlW γ) (t : Tk) (hs : t.text.length ≤ 140737488351232) (hr : t.real < 18446744073709551616) : Ev Tryz.prog γ 66 [.agg t.cells] (.v (.bool (!standB t))) := by
  refine Ev.of Tryz.func66 rfl ?_
  simp only [Tryz.f66, Tk.cells, evE, tyX, Nat.reduceAdd, Nat.reduceSub, Nat.reduceLT, Nat.reduceLeDiff, Nat.reduceEqDiff, reduceCtorEq]
  refine CallK.intro c67 rfl (knownB_ev hγ hγ2 t hs hr) ?_
  simp only [evE, Nat.reduceLT, Nat.reduceEqDiff, reduceCtorEq]
end Go.Proofs.YtlobiioioicmhaaGreatDoor
/- The first token that cannot stand: looked for by the library's IndexFunc; walked. -/
namespace Go.Proofs.YtlobiioioicmhaaGreatDoor
set_option linter.all false
open Go Go.Ev
set_option maxRecDepth 20000
variable {γ : List (Nat × AV)}
/-- So many tokens at the beginning can stand. -/
def stN (ts : List Tk) : Nat := (ts.takeWhile standB).length
theorem stN_le (ts : List Tk) : stN ts ≤ ts.length := (List.takeWhile_prefix standB).length_le
theorem stN_yes : ∀ (ts : List Tk) (k : Nat) (t : Tk), k < stN ts → ts[k]? = some t → standB t = true
  | [], k, t, h, ht => by cases ht
  | x :: ts, k, t, h, ht => by
    unfold stN at h
    rw [List.takeWhile_cons] at h
    split at h
    · rename_i hx
      cases k with
      | zero => cases ht; exact hx
      | succ k => exact stN_yes ts k t (by unfold stN; rw [List.length_cons] at h; omega) (by simpa using ht)
    · simp at h
theorem stN_no : ∀ (ts : List Tk) (t : Tk), ts[stN ts]? = some t → standB t = false
  | [], t, ht => by cases ht
  | x :: ts, t, ht => by
    unfold stN at ht
    rw [List.takeWhile_cons] at ht
    split at ht
    · exact stN_no ts t (by unfold stN; simpa using ht)
    · rename_i hx
      cases ht
      simpa using hx
theorem stN_lt {ts : List Tk} {k : Nat} {t : Tk} (hk : k ≤ stN ts) (ht : ts[k]? = some t) (hs : standB t = true) : k + 1 ≤ stN ts := by
  by_cases h : k = stN ts
  · rw [h] at ht; rw [stN_no ts t ht] at hs; cases hs
  · omega
theorem stN_eq {ts : List Tk} {k : Nat} {t : Tk} (hk : k ≤ stN ts) (ht : ts[k]? = some t) (hs : standB t = false) : k = stN ts := by
  by_cases h : k = stN ts
  · exact h
  · rw [stN_yes ts k t (by omega) ht] at hs; cases hs
def idxR (ts : List Tk) : Int := if stN ts < ts.length then (stN ts : Int) else -1
theorem c65 : bodyT Tryz.prog 65 := ⟨_, Tryz.func65, by kernel_rfl, by kernel_rfl⟩
/-- What bounds a token: its text's length, its real's bits. -/
def okTk (t : Tk) : Prop := t.text.length ≤ 140737488351232 ∧ t.real < 18446744073709551616
def ixS (γ : List (Nat × AV)) (L : AV) (n k : Nat) : St := ⟨⟨19, [(0, L), (1, .v (.func (.func 66) #[] #[])), (7, .v (.int .i64 (n : Int))), (8, .v (.int .i64 (k : Int)))], γ⟩, []⟩
set_option maxHeartbeats 1000000 in
theorem index_ev (hγ : Gl γ) (hγ2 : GlW γ) {L : AV} {ts : List Tk} (hL : LAt L ts) (ht : ∀ t ∈ ts, okTk t) (hn : ts.length < 4611686018427387904) : Ev Tryz.prog γ 65 [L, .v (.func (.func 66) #[] #[])] (.v (.int .i64 (idxR ts))) := by
  refine Ev.ofE Tryz.func65 rfl ?_
  rcases hL with ⟨rfl, rfl⟩ | ⟨b, m, cs, rfl, hcs⟩
  · simp only [Tryz.f65, evE, tyX, Nat.reduceAdd, Nat.reduceSub, Nat.reduceLT, Nat.reduceEqDiff, reduceCtorEq]
    refine LoopE.intro (ixS γ (.v (.slice none 0 0)) 0) (fun k => k = 0) (fun k => 0) 0 ⟨rfl, rfl, ⟨rfl, rfl, rfl, rfl, trivial⟩, rfl⟩ rfl (fun k hk => ?_)
    subst hk
    have d0 : decide (((0 : Nat) : Int) < ((0 : Nat) : Int)) = false := by decide
    simp only [ixS, evE, Nat.reduceLT, Nat.reduceEqDiff, reduceCtorEq]
    rfl
  · simp only [Tryz.f65, evE, tyX, Nat.reduceAdd, Nat.reduceSub, Nat.reduceLT, Nat.reduceEqDiff, reduceCtorEq]
    refine LoopE.intro (ixS γ (.sl b ts.length m cs) ts.length) (fun k => k ≤ stN ts) (fun k => ts.length - k) 0 ⟨rfl, rfl, ⟨rfl, rfl, rfl, rfl, trivial⟩, rfl⟩ (Nat.zero_le _) (fun k hk => ?_)
    have hle := stN_le ts
    by_cases hlt : k < ts.length
    · have d2 : decide (k < ts.length) = true := decide_eq_true hlt
      obtain ⟨t, htk⟩ : ∃ t, ts[k]? = some t := ⟨ts[k], by simp [hlt]⟩
      have h6 := LAt.take hcs htk
      have h6l : 6 ≤ (cs.drop (k * 6)).length := by have := LAt.len hcs hlt; rw [List.length_drop]; omega
      have hok := ht t (List.mem_of_getElem? htk)
      have w1 : IntKind.i64.wrap ((k : Int) + 1) = ((k + 1 : Nat) : Int) := (i64w (by omega) (by omega)).trans (by omega)
      simp only [ixS, d2, h6, h6l, evE, tyX, Nat.reduceLT, Nat.reduceEqDiff, reduceCtorEq]
      refine ⟨hlt, CallM.intro c66 _ (EvM.ofEv (.inl ⟨rfl, rfl⟩) (read1_ev hγ hγ2 t hok.1 hok.2)) (fun r h' hh => ?_) (fun v h' hh => by cases hh.1)⟩
      obtain ⟨e, rfl⟩ := hh
      cases e
      cases hs : standB t with
      | true =>
        simp only [w1, evE, Bool.not_true, Nat.reduceLT, Nat.reduceEqDiff, reduceCtorEq]
        exact loopCE.intro (k + 1) (stN_lt hk htk hs) ⟨rfl, rfl, ⟨rfl, rfl, rfl, rfl, trivial⟩, rfl⟩ (by show ts.length - (k + 1) < ts.length - k; clear w1; omega)
      | false =>
        have ek := stN_eq hk htk hs
        have hi : idxR ts = (k : Int) := by unfold idxR; rw [← ek, if_pos hlt]
        rw [hi]
        simp only [evE, Bool.not_false, Nat.reduceLT, Nat.reduceEqDiff, reduceCtorEq]
    · have d2 : decide (k < ts.length) = false := decide_eq_false hlt
      have hi : idxR ts = -1 := by unfold idxR; rw [if_neg (by omega)]
      rw [hi]
      simp only [ixS, d2, evE, Nat.reduceLT, Nat.reduceEqDiff, reduceCtorEq]
end Go.Proofs.YtlobiioioicmhaaGreatDoor
/- The program's Read, walked. -/
namespace Go.Proofs.YtlobiioioicmhaaGreatDoor
set_option linter.all false
open Go Go.Ev
set_option maxRecDepth 20000
variable {γ : List (Nat × AV)}
/-- Where the tokens end that can stand, from a place on. -/
def cutN (ts : List Tk) (p : Nat) : Nat := p + stN (ts.drop p)
/-- What is read out of tokens from a place on: the nodes, the place, the error. -/
def readR (ts : List Tk) (f : Int) : List Nd × Int × Int :=
  if f < 0 ∨ (ts.length : Int) < f then ([], 0, 2) else match readP (ts.take (cutN ts f.toNat)) f.toNat with
    | .bad q => ([], q, 50)
    | .ok t q => if limK t.size t.deep = 0 then (lay t 0, q, 0) else ([], f, limK t.size t.deep)
def readA (ts : List Tk) (f : Int) : AV := .tup [.agg [nodesA (readR ts f).1], .v (.int .i64 (readR ts f).2.1), .v (.int .i64 (readR ts f).2.2)]
theorem cutN_le {ts : List Tk} {p : Nat} (hp : p ≤ ts.length) : cutN ts p ≤ ts.length := by
  have := stN_le (ts.drop p)
  rw [List.length_drop] at this
  unfold cutN; omega
theorem tkCells_append (a b : List Tk) : tkCells (a ++ b) = tkCells a ++ tkCells b := List.flatMap_append
theorem LAt_take {ts : List Tk} {cs : List AV} (h : tkCells ts <+: cs) (k : Nat) : tkCells (ts.take k) <+: cs := by
  refine List.IsPrefix.trans ?_ h
  have : ts = ts.take k ++ ts.drop k := (List.take_append_drop k ts).symm
  conv => rhs; rw [this, tkCells_append]
  exact List.prefix_append _ _
theorem LAt_drop {ts : List Tk} {cs : List AV} (h : tkCells ts <+: cs) {k : Nat} (hk : k ≤ ts.length) : tkCells (ts.drop k) <+: cs.drop (k * 6) := by
  obtain ⟨r, rfl⟩ := h
  have e : ts = ts.take k ++ ts.drop k := (List.take_append_drop k ts).symm
  have hl : (tkCells (ts.take k)).length = k * 6 := by rw [tkCells_length, List.length_take, Nat.min_eq_left hk]
  conv => rhs; rw [e, tkCells_append, List.append_assoc, ← hl, List.drop_left]
  exact List.prefix_append _ _
/-- .. a list that may be cut. -/
def LAs (L : AV) (ts : List Tk) : Prop := (L = .v (.slice none 0 0) ∧ ts = []) ∨ ∃ b m cs, L = .sl b ts.length m cs ∧ tkCells ts <+: cs ∧ cs.length ≤ m * 6 ∧ ts.length ≤ m
theorem c26 : bodyT Tryz.prog 26 := ⟨_, Tryz.func26, by kernel_rfl, by kernel_rfl⟩
set_option maxHeartbeats 2000000 in
theorem read26_ev (hγ : Gl γ) (hγ2 : GlW γ) {L : AV} {ts : List Tk} (hL : LAs L ts) (ht : ∀ t ∈ ts, okTk t) (hn : ts.length ≤ 2000000) (f : Int) : Ev Tryz.prog γ 26 [L, .v (.int .i64 f)] (readA ts f) := by
  refine Ev.ofE Tryz.func26 rfl ?_
  have ll : ∀ s, lenS Tryz.prog 48 s L = some (.v (.int .i64 ts.length)) := fun s => by
    have e24 : elemT Tryz.prog 48 = some 53 := by kernel_rfl
    rcases hL with ⟨rfl, rfl⟩ | ⟨b, m, cs, rfl, _⟩
    · simp only [lenS, e24]; rfl
    · simp only [lenS, e24]; rfl
  have fl : flat L = some [L] := by rcases hL with ⟨rfl, rfl⟩ | ⟨b, m, cs, rfl, _⟩ <;> rfl
  have fo : oneA L = true := by rcases hL with ⟨rfl, rfl⟩ | ⟨b, m, cs, rfl, _⟩ <;> rfl
  unfold readA
  by_cases h1 : f < 0
  · have d1 : decide (f < 0) = true := decide_eq_true h1
    have hR : readR ts f = ([], 0, 2) := by unfold readR; rw [if_pos (.inl h1)]
    rw [hR]
    simp only [Tryz.f26, tyZ, ty41, d1, nodesA, evE, Nat.reduceAdd, Nat.reduceSub, Nat.reduceLT, Nat.reduceLeDiff, Nat.reduceEqDiff, reduceCtorEq]
  · have d1 : decide (f < 0) = false := decide_eq_false h1
    by_cases h2 : (ts.length : Int) < f
    · have d2 : decide ((ts.length : Int) < f) = true := decide_eq_true h2
      have hR : readR ts f = ([], 0, 2) := by unfold readR; rw [if_pos (.inr h2)]
      rw [hR]
      simp only [Tryz.f26, tyZ, ty41, ll, d1, d2, nodesA, evE, Nat.reduceAdd, Nat.reduceSub, Nat.reduceLT, Nat.reduceLeDiff, Nat.reduceEqDiff, reduceCtorEq]
    · have d2 : decide ((ts.length : Int) < f) = false := decide_eq_false h2
      obtain ⟨p, rfl⟩ : ∃ p : Nat, f = p := ⟨f.toNat, by omega⟩
      have hp : p ≤ ts.length := by omega
      have hR : readR ts p = match readP (ts.take (cutN ts p)) p with
          | .bad q => ([], (q : Int), 50)
          | .ok t q => if limK t.size t.deep = 0 then (lay t 0, (q : Int), 0) else ([], (p : Int), limK t.size t.deep) := by
        unfold readR
        rw [if_neg (by omega), Int.toNat_natCast]
      have d2 : decide (ts.length < p) = false := decide_eq_false (by omega)
      clear h1 h2
      rcases hL with ⟨rfl, rfl⟩ | ⟨b, m, cs, rfl, hcs, hc1, hc2⟩
      · have hp0 : p = 0 := Nat.le_zero.1 hp
        subst hp0
        have dm : decide ((0 : Int) ≤ -1) = false := by decide
        simp only [Tryz.f26, tyZ, ll, d1, fl, fo, evE, tyX, Nat.reduceAdd, Nat.reduceSub, Nat.reduceLT, Nat.reduceLeDiff, Nat.reduceEqDiff, reduceCtorEq]
        refine CallE.pure (CallK.intro c65 rfl (index_ev hγ hγ2 (.inl ⟨rfl, rfl⟩) (fun t h => by cases h) (by decide)) ?_)
        have e0 : idxR [] = -1 := rfl
        simp only [e0, evE, Nat.reduceLT, Nat.reduceEqDiff, reduceCtorEq, Int.reduceLE]
        have hcut2 : (([] : List Tk).take (cutN [] 0)).length = 0 := by simp
        refine CallE.intro c60 _ (read_ev (ts := ([] : List Tk).take (cutN [] 0)) (.inl ⟨rfl, List.take_nil⟩) (by rw [hcut2]; decide) (h := [⟨0, 41, [.v (.slice none 0 0)]⟩, ⟨0, 104, [.v (.slice none 0 0), .v (.int .i64 (((0 : Nat)) : Int)), .v (.slice none 0 0)]⟩]) (i := 1) (p := 0) (N := .v (.slice none 0 0)) (ns := []) (Nat.zero_le _) ⟨rfl, .inl ⟨rfl, rfl⟩⟩ (by simp)) (fun r h1 hh => ?_) (fun v h' hh => ?_)
        rotate_left
        · obtain ⟨_, hh⟩ := hh
          cases er : readP (([] : List Tk).take (cutN [] 0)) 0 with
          | bad q => rw [er] at hh; cases hh
          | ok t q => rw [er] at hh; cases hh.1
        obtain ⟨f1, hh⟩ := hh
        have k0 : h1[0]? = some ⟨0, 41, [.v (.slice none 0 0)]⟩ := f1.at rfl fun h => h.elim (fun e => by cases e) fun e => e
        have kz : ∀ b, (h1.set 0 b)[0]? = some b := fun b => List.getElem?_set_self (List.getElem?_eq_some_iff.1 k0).1
        cases er : readP (([] : List Tk).take (cutN [] 0)) 0 with
        | bad q =>
          rw [er] at hh hR
          have hh : Out.ret r = Out.ret (.v (.int .i64 (q : Int))) := hh
          cases hh
          have d4 : decide ((0 : Int) ≤ (q : Int)) = true := decide_eq_true (by omega)
          rw [hR]
          simp only [tyZ, k0, kz, ty41, nodesA, evE, Nat.reduceLT, Nat.reduceLeDiff, Nat.reduceEqDiff, reduceCtorEq]
        | ok t q =>
          rw [er] at hh hR
          obtain ⟨eo, N', r1, n1⟩ := hh
          cases eo
          have hr1 : h1[1]? = _ := r1.1
          have d4 : decide ((0 : Int) ≤ -1) = false := by decide
          have hadv := pr_adv _ _ _ _ _ _ (Nat.zero_le _) er
          obtain ⟨⟨g1, g2⟩, g3⟩ := hadv
          have hwf := pr_wf _ _ _ _ _ _ (fun n a e => by cases e) er
          have hsz : t.size ≤ 2000001 := (by rw [hcut2] at *; omega)
          have hN := r1.2
          rw [List.nil_append, List.length_nil] at hN
          have hlen := lay_length t 0
          have hps := size_pos t
          obtain ⟨j, ver, rfl, hj⟩ := hN.own (by omega)
          simp only [hr1, evE, tyX, Nat.reduceLT, Nat.reduceEqDiff, reduceCtorEq, Int.reduceLE]
          refine CallE.pure (CallK.lend c61 _ (lend1 hj List.prefix_rfl (nds_v _)) (limits_ev t hwf (by omega)) rfl ?_)
          by_cases hk : limK t.size t.deep = 0
          · have d5 : (limK t.size t.deep != 0) = false := by simpa using hk
            have hj0 : j ≠ 0 := fun e => by subst e; rw [k0] at hj; cases hj
            have kx : ∀ b, (h1.set 0 b)[1]? = some _ := fun b => (List.getElem?_set_ne (by decide)).trans hr1
            rw [hR]
            simp only [if_pos hk]
            simp only [d5, evE, Nat.reduceLT, Nat.reduceEqDiff, reduceCtorEq]
            refine DrawK.orders [[0, 1, 2, 3, 4, 5, 6, 7, 8, 9, 10, 11], [0, 1, 2, 3, 4, 9, 5, 6, 7, 8, 10, 11], [0, 1, 2, 3, 4, 5, 9, 6, 7, 8, 10, 11], [0, 1, 2, 3, 4, 5, 6, 9, 7, 8, 10, 11], [0, 1, 2, 3, 4, 5, 6, 7, 9, 8, 10, 11]] (by kernel_rfl) (by kernel_rfl) (by kernel_rfl) (fun p hp => ?_)
            simp only [List.mem_cons, List.not_mem_nil, or_false] at hp
            rcases hp with rfl | rfl | rfl | rfl | rfl
            all_goals simp only [seqT, List.getElem?_toArray, List.getElem?_cons_succ, List.getElem?_cons_zero, tyZ, hr1, kx, k0, kz, ty41, evE, tyX, Nat.reduceLT, Nat.reduceLeDiff, Nat.reduceEqDiff, reduceCtorEq]
            all_goals exact fz_nodes ((List.getElem?_set_ne (Ne.symm hj0)).trans hj) (by omega)
          · have d5 : (limK t.size t.deep != 0) = true := by simpa using hk
            rw [hR]
            simp only [if_neg hk]
            simp only [tyZ, d5, k0, kz, ty41, nodesA, evE, Nat.reduceLT, Nat.reduceLeDiff, Nat.reduceEqDiff, reduceCtorEq]
      · have e1 := List.length_drop (i := p) (l := ts)
        simp only [Tryz.f26, tyZ, ll, d1, d2, fl, fo, evE, tyX, Nat.reduceAdd, Nat.reduceSub, Nat.reduceLT, Nat.reduceLeDiff, Nat.reduceEqDiff, reduceCtorEq]
        refine ⟨⟨hc1, hc2, hp⟩, CallE.pure (CallK.intro c65 rfl (index_ev hγ hγ2 (ts := ts.drop p) (.inr ⟨b, _, _, by rw [e1], LAt_drop hcs hp⟩) (fun t h => ht t (List.mem_of_mem_drop h)) (by omega)) ?_)⟩
        by_cases hb : stN (ts.drop p) < (ts.drop p).length
        · have e0 : idxR (ts.drop p) = (stN (ts.drop p) : Int) := by unfold idxR; rw [if_pos hb]
          have d3 : decide ((0 : Int) ≤ (stN (ts.drop p) : Int)) = true := decide_eq_true (by omega)
          have w1 : IntKind.i64.wrap ((p : Int) + (stN (ts.drop p) : Int)) = ((cutN ts p : Nat) : Int) := (i64w (by omega) (by omega)).trans (by unfold cutN; omega)
          have hcut := cutN_le hp
          have hcut2 : (ts.take (cutN ts p)).length = cutN ts p := by rw [List.length_take]; omega
          simp only [e0, w1, evE, tyX, Nat.reduceAdd, Nat.reduceLT, Nat.reduceLeDiff, Nat.reduceEqDiff, reduceCtorEq]
          refine ⟨⟨hc1, by omega⟩, ?_⟩
          refine CallE.intro c60 _ (read_ev (ts := ts.take (cutN ts p)) (.inr ⟨b, m, cs, by rw [hcut2], LAt_take hcs _⟩) (by omega) (h := [⟨0, 41, [.v (.slice none 0 0)]⟩, ⟨0, 104, [.sl b (cutN ts p) m cs, .v (.int .i64 (p : Int)), .v (.slice none 0 0)]⟩]) (i := 1) (p := p) (N := .v (.slice none 0 0)) (ns := []) (by rw [hcut2]; unfold cutN; omega) ⟨rfl, .inl ⟨rfl, rfl⟩⟩ (by rw [hcut2, List.length_nil]; omega)) (fun r h1 hh => ?_) (fun v h' hh => ?_)
          rotate_left
          · obtain ⟨_, hh⟩ := hh
            cases er : readP (ts.take (cutN ts p)) p with
            | bad q => rw [er] at hh; cases hh
            | ok t q => rw [er] at hh; cases hh.1
          obtain ⟨f1, hh⟩ := hh
          have k0 : h1[0]? = some ⟨0, 41, [.v (.slice none 0 0)]⟩ := f1.at rfl fun h => h.elim (fun e => by cases e) fun e => e
          have kz : ∀ b, (h1.set 0 b)[0]? = some b := fun b => List.getElem?_set_self (List.getElem?_eq_some_iff.1 k0).1
          cases er : readP (ts.take (cutN ts p)) p with
          | bad q =>
            rw [er] at hh hR
            have hh : Out.ret r = Out.ret (.v (.int .i64 (q : Int))) := hh
            cases hh
            have d4 : decide ((0 : Int) ≤ (q : Int)) = true := decide_eq_true (by omega)
            rw [hR]
            simp only [tyZ, k0, kz, ty41, nodesA, evE, Nat.reduceLT, Nat.reduceLeDiff, Nat.reduceEqDiff, reduceCtorEq]
          | ok t q =>
            rw [er] at hh hR
            obtain ⟨eo, N', r1, n1⟩ := hh
            cases eo
            have hr1 : h1[1]? = _ := r1.1
            have d4 : decide ((0 : Int) ≤ -1) = false := by decide
            have hadv := pr_adv _ _ _ _ _ _ (by rw [hcut2]; unfold cutN; omega) er
            obtain ⟨⟨g1, g2⟩, g3⟩ := hadv
            have hwf := pr_wf _ _ _ _ _ _ (fun n a e => by cases e) er
            have hsz : t.size ≤ 2000001 := (by rw [hcut2] at *; omega)
            have hN := r1.2
            rw [List.nil_append, List.length_nil] at hN
            have hlen := lay_length t 0
            have hps := size_pos t
            obtain ⟨j, ver, rfl, hj⟩ := hN.own (by omega)
            simp only [hr1, evE, tyX, Nat.reduceLT, Nat.reduceEqDiff, reduceCtorEq, Int.reduceLE]
            refine CallE.pure (CallK.lend c61 _ (lend1 hj List.prefix_rfl (nds_v _)) (limits_ev t hwf (by omega)) rfl ?_)
            by_cases hk : limK t.size t.deep = 0
            · have d5 : (limK t.size t.deep != 0) = false := by simpa using hk
              have hj0 : j ≠ 0 := fun e => by subst e; rw [k0] at hj; cases hj
              have kx : ∀ b, (h1.set 0 b)[1]? = some _ := fun b => (List.getElem?_set_ne (by decide)).trans hr1
              rw [hR]
              simp only [if_pos hk]
              simp only [d5, evE, Nat.reduceLT, Nat.reduceEqDiff, reduceCtorEq]
              refine DrawK.orders [[0, 1, 2, 3, 4, 5, 6, 7, 8, 9, 10, 11], [0, 1, 2, 3, 4, 9, 5, 6, 7, 8, 10, 11], [0, 1, 2, 3, 4, 5, 9, 6, 7, 8, 10, 11], [0, 1, 2, 3, 4, 5, 6, 9, 7, 8, 10, 11], [0, 1, 2, 3, 4, 5, 6, 7, 9, 8, 10, 11]] (by kernel_rfl) (by kernel_rfl) (by kernel_rfl) (fun p hp => ?_)
              simp only [List.mem_cons, List.not_mem_nil, or_false] at hp
              rcases hp with rfl | rfl | rfl | rfl | rfl
              all_goals simp only [seqT, List.getElem?_toArray, List.getElem?_cons_succ, List.getElem?_cons_zero, tyZ, hr1, kx, k0, kz, ty41, evE, tyX, Nat.reduceLT, Nat.reduceLeDiff, Nat.reduceEqDiff, reduceCtorEq]
              all_goals exact fz_nodes ((List.getElem?_set_ne (Ne.symm hj0)).trans hj) (by omega)
            · have d5 : (limK t.size t.deep != 0) = true := by simpa using hk
              rw [hR]
              simp only [if_neg hk]
              simp only [tyZ, d5, k0, kz, ty41, nodesA, evE, Nat.reduceLT, Nat.reduceLeDiff, Nat.reduceEqDiff, reduceCtorEq]
        · have e0 : idxR (ts.drop p) = -1 := by unfold idxR; rw [if_neg hb]
          have dm : decide ((0 : Int) ≤ -1) = false := by decide
          have hcut : cutN ts p = ts.length := by have := stN_le (ts.drop p); unfold cutN; omega
          simp only [e0, evE, Nat.reduceLT, Nat.reduceEqDiff, reduceCtorEq, Int.reduceLE]
          have hcut2 : (ts.take (cutN ts p)).length = ts.length := by rw [List.length_take]; omega
          refine CallE.intro c60 _ (read_ev (ts := ts.take (cutN ts p)) (.inr ⟨b, m, cs, by rw [hcut2], LAt_take hcs _⟩) (by omega) (h := [⟨0, 41, [.v (.slice none 0 0)]⟩, ⟨0, 104, [.sl b ts.length m cs, .v (.int .i64 (p : Int)), .v (.slice none 0 0)]⟩]) (i := 1) (p := p) (N := .v (.slice none 0 0)) (ns := []) (by rw [hcut2]; omega) ⟨rfl, .inl ⟨rfl, rfl⟩⟩ (by rw [hcut2, List.length_nil]; omega)) (fun r h1 hh => ?_) (fun v h' hh => ?_)
          rotate_left
          · obtain ⟨_, hh⟩ := hh
            cases er : readP (ts.take (cutN ts p)) p with
            | bad q => rw [er] at hh; cases hh
            | ok t q => rw [er] at hh; cases hh.1
          obtain ⟨f1, hh⟩ := hh
          have k0 : h1[0]? = some ⟨0, 41, [.v (.slice none 0 0)]⟩ := f1.at rfl fun h => h.elim (fun e => by cases e) fun e => e
          have kz : ∀ b, (h1.set 0 b)[0]? = some b := fun b => List.getElem?_set_self (List.getElem?_eq_some_iff.1 k0).1
          cases er : readP (ts.take (cutN ts p)) p with
          | bad q =>
            rw [er] at hh hR
            have hh : Out.ret r = Out.ret (.v (.int .i64 (q : Int))) := hh
            cases hh
            have d4 : decide ((0 : Int) ≤ (q : Int)) = true := decide_eq_true (by omega)
            rw [hR]
            simp only [tyZ, k0, kz, ty41, nodesA, evE, Nat.reduceLT, Nat.reduceLeDiff, Nat.reduceEqDiff, reduceCtorEq]
          | ok t q =>
            rw [er] at hh hR
            obtain ⟨eo, N', r1, n1⟩ := hh
            cases eo
            have hr1 : h1[1]? = _ := r1.1
            have d4 : decide ((0 : Int) ≤ -1) = false := by decide
            have hadv := pr_adv _ _ _ _ _ _ (by rw [hcut2]; omega) er
            obtain ⟨⟨g1, g2⟩, g3⟩ := hadv
            have hwf := pr_wf _ _ _ _ _ _ (fun n a e => by cases e) er
            have hsz : t.size ≤ 2000001 := (by rw [hcut2] at *; omega)
            have hN := r1.2
            rw [List.nil_append, List.length_nil] at hN
            have hlen := lay_length t 0
            have hps := size_pos t
            obtain ⟨j, ver, rfl, hj⟩ := hN.own (by omega)
            simp only [hr1, evE, tyX, Nat.reduceLT, Nat.reduceEqDiff, reduceCtorEq, Int.reduceLE]
            refine CallE.pure (CallK.lend c61 _ (lend1 hj List.prefix_rfl (nds_v _)) (limits_ev t hwf (by omega)) rfl ?_)
            by_cases hk : limK t.size t.deep = 0
            · have d5 : (limK t.size t.deep != 0) = false := by simpa using hk
              have hj0 : j ≠ 0 := fun e => by subst e; rw [k0] at hj; cases hj
              have kx : ∀ b, (h1.set 0 b)[1]? = some _ := fun b => (List.getElem?_set_ne (by decide)).trans hr1
              rw [hR]
              simp only [if_pos hk]
              simp only [d5, evE, Nat.reduceLT, Nat.reduceEqDiff, reduceCtorEq]
              refine DrawK.orders [[0, 1, 2, 3, 4, 5, 6, 7, 8, 9, 10, 11], [0, 1, 2, 3, 4, 9, 5, 6, 7, 8, 10, 11], [0, 1, 2, 3, 4, 5, 9, 6, 7, 8, 10, 11], [0, 1, 2, 3, 4, 5, 6, 9, 7, 8, 10, 11], [0, 1, 2, 3, 4, 5, 6, 7, 9, 8, 10, 11]] (by kernel_rfl) (by kernel_rfl) (by kernel_rfl) (fun p hp => ?_)
              simp only [List.mem_cons, List.not_mem_nil, or_false] at hp
              rcases hp with rfl | rfl | rfl | rfl | rfl
              all_goals simp only [seqT, List.getElem?_toArray, List.getElem?_cons_succ, List.getElem?_cons_zero, tyZ, hr1, kx, k0, kz, ty41, evE, tyX, Nat.reduceLT, Nat.reduceLeDiff, Nat.reduceEqDiff, reduceCtorEq]
              all_goals exact fz_nodes ((List.getElem?_set_ne (Ne.symm hj0)).trans hj) (by omega)
            · have d5 : (limK t.size t.deep != 0) = true := by simpa using hk
              rw [hR]
              simp only [if_neg hk]
              simp only [tyZ, d5, k0, kz, ty41, nodesA, evE, Nat.reduceLT, Nat.reduceLeDiff, Nat.reduceEqDiff, reduceCtorEq]
end Go.Proofs.YtlobiioioicmhaaGreatDoor
/- The document's Read, walked. -/
namespace Go.Proofs.YtlobiioioicmhaaGreatDoor
set_option linter.all false
open Go Go.Ev
set_option maxRecDepth 20000
variable {γ : List (Nat × AV)}
theorem stn_cut {ts : List Tk} (ht : ∀ t ∈ ts, okTk t) (hn : ts.length ≤ 2000000) {p : Nat} (hp : p ≤ ts.length) : Stn γ standB ts (ts.take (cutN ts p)) p := by
  have hcut := cutN_le hp
  have hcut2 : (ts.take (cutN ts p)).length = cutN ts p := by rw [List.length_take]; omega
  refine ⟨List.take_prefix _ _, fun k t hk h => ?_, fun t h => ?_, fun t h => standsB_ev t (ht t h).1, by omega⟩
  · have hk2 : k < cutN ts p := by have := (List.getElem?_eq_some_iff.1 h).1; omega
    rw [List.getElem?_take, if_pos hk2] at h
    refine stN_yes (ts.drop p) (k - p) t (by unfold cutN at hk2; omega) ?_
    rw [List.getElem?_drop, show p + (k - p) = k from by omega]
    exact h
  · rw [hcut2] at h
    refine stN_no (ts.drop p) t ?_
    rw [List.getElem?_drop]
    exact h
set_option maxHeartbeats 2000000 in
theorem read27_ev {L : AV} {ts : List Tk} (hL : LAt L ts) (ht : ∀ t ∈ ts, okTk t) (hn : ts.length ≤ 2000000) (f : Int) : Ev Tryz.prog γ 27 [L, .v (.int .i64 f)] (readA ts f) := by
  refine Ev.ofG Tryz.func27 rfl ?_
  have ll : ∀ s, lenS Tryz.prog 47 s L = some (.v (.int .i64 ts.length)) := fun s => by
    have e24 : elemT Tryz.prog 47 = some 54 := by kernel_rfl
    rcases hL with ⟨rfl, rfl⟩ | ⟨b, m, cs, rfl, _⟩
    · simp only [lenS, e24]; rfl
    · simp only [lenS, e24]; rfl
  have fl : flat L = some [L] := by rcases hL with ⟨rfl, rfl⟩ | ⟨b, m, cs, rfl, _⟩ <;> rfl
  have fo : oneA L = true := by rcases hL with ⟨rfl, rfl⟩ | ⟨b, m, cs, rfl, _⟩ <;> rfl
  unfold readA
  by_cases h1 : f < 0
  · have d1 : decide (f < 0) = true := decide_eq_true h1
    have hR : readR ts f = ([], 0, 2) := by unfold readR; rw [if_pos (.inl h1)]
    rw [hR]
    simp only [Tryz.f27, tyR, ty41, d1, nodesA, evG, Nat.reduceAdd, Nat.reduceSub, Nat.reduceLT, Nat.reduceLeDiff, Nat.reduceEqDiff, reduceCtorEq]
  · have d1 : decide (f < 0) = false := decide_eq_false h1
    by_cases h2 : (ts.length : Int) < f
    · have d2 : decide ((ts.length : Int) < f) = true := decide_eq_true h2
      have hR : readR ts f = ([], 0, 2) := by unfold readR; rw [if_pos (.inr h2)]
      rw [hR]
      simp only [Tryz.f27, tyR, ty41, ll, d1, d2, nodesA, evG, Nat.reduceAdd, Nat.reduceSub, Nat.reduceLT, Nat.reduceLeDiff, Nat.reduceEqDiff, reduceCtorEq]
    · obtain ⟨p, rfl⟩ : ∃ p : Nat, f = p := ⟨f.toNat, by omega⟩
      have hp : p ≤ ts.length := by omega
      have hR : readR ts p = match readP (ts.take (cutN ts p)) p with
          | .bad q => ([], (q : Int), 50)
          | .ok t q => if limK t.size t.deep = 0 then (lay t 0, (q : Int), 0) else ([], (p : Int), limK t.size t.deep) := by
        unfold readR
        rw [if_neg (by omega), Int.toNat_natCast]
        all_goals rfl
      have d2 : decide (ts.length < p) = false := decide_eq_false (by omega)
      clear h1 h2
      have hst := stn_cut (γ := γ) ht hn hp
      have hcut := cutN_le hp
      have hcut2 : (ts.take (cutN ts p)).length = cutN ts p := by rw [List.length_take]; omega
      have hpc : p ≤ (ts.take (cutN ts p)).length := by rw [hcut2]; unfold cutN; omega
      simp only [Tryz.f27, tyR, ll, d1, d2, fl, fo, evG, Nat.reduceAdd, Nat.reduceSub, Nat.reduceLT, Nat.reduceLeDiff, Nat.reduceEqDiff, reduceCtorEq]
      refine CallE.intro c62 _ (reflev_ev hL hst (h := [⟨0, 41, [.v (.slice none 0 0)]⟩, ⟨0, 109, [L, .v (.int .i64 (p : Int)), .v (.int .i64 (-1))]⟩]) (i := 1) (p := p) (Nat.le_refl _) hpc rfl) (fun r h1 hh => ?_) (fun v h' hh => hh.pan.elim)
      obtain ⟨f1, hh⟩ := hh
      have k0 : h1[0]? = some ⟨0, 41, [.v (.slice none 0 0)]⟩ := f1.at rfl (by show ¬ (0 : Nat) = 1; decide)
      have kz : ∀ b, (h1.set 0 b)[0]? = some b := fun b => List.getElem?_set_self (List.getElem?_eq_some_iff.1 k0).1
      cases er : readP (ts.take (cutN ts p)) p with
      | bad q =>
        rw [er] at hh hR
        obtain ⟨eo, p', r1⟩ := hh
        cases eo
        have hr1 : h1[1]? = _ := r1
        have kx : ∀ b, (h1.set 0 b)[1]? = some _ := fun b => (List.getElem?_set_ne (by decide)).trans hr1
        rw [hR]
        simp only [tyR, nodesA, evG, Nat.reduceLT, Nat.reduceEqDiff, reduceCtorEq]
        refine DrawE.pure ?_
        refine DrawK.orders [[0, 1, 2, 3, 4, 5, 6, 7], [0, 5, 1, 2, 3, 4, 6, 7], [0, 1, 5, 2, 3, 4, 6, 7], [0, 1, 2, 5, 3, 4, 6, 7], [0, 1, 2, 3, 5, 4, 6, 7]] (by kernel_rfl) (by kernel_rfl) (by kernel_rfl) (fun p hp => ?_)
        simp only [List.mem_cons, List.not_mem_nil, or_false] at hp
        rcases hp with rfl | rfl | rfl | rfl | rfl
        all_goals simp only [seqT, List.getElem?_toArray, List.getElem?_cons_succ, List.getElem?_cons_zero, tyR, hr1, kx, k0, kz, ty41, evG, tyX, Nat.reduceLT, Nat.reduceLeDiff, Nat.reduceEqDiff, reduceCtorEq]
      | ok t q =>
        rw [er] at hh hR
        obtain ⟨x0, eo, hT, r1⟩ := hh
        cases eo
        obtain ⟨qx, rfl⟩ := hT.ptr
        obtain ⟨bx, hbx⟩ := TreeAt.blk hT
        have hr1 : h1[1]? = _ := r1
        have hadv := pr_adv _ _ _ _ _ _ hpc er
        obtain ⟨⟨g1, g2⟩, g3⟩ := hadv
        have hwf := pr_wf _ _ _ _ _ _ (fun n a e => by cases e) er
        have hsz : t.size ≤ 2000001 := by rw [hcut2] at *; omega
        simp only [tyR, hbx, evG, Nat.reduceLT, Nat.reduceEqDiff, reduceCtorEq]
        refine CallE.intro c63 _ (reflimits_ev (by omega) hT) (fun r h2 hh => ?_) (fun v h' hh => by cases hh.1)
        obtain ⟨eo, rfl⟩ := hh
        cases eo
        by_cases hk : limK t.size t.deep = 0
        · have d5 : (limK t.size t.deep != 0) = false := by simpa using hk
          rw [hR]
          simp only [if_pos hk]
          have hlen := lay_length t 0
          have hps := size_pos t
          have hev := laid_ev (γ := γ) t _ _ h2 (.ptr qx 0 0) (.v (.slice none 0 0)) [] hT (.inl ⟨rfl, rfl⟩) (by simp only [List.length_nil]; omega)
          rw [List.nil_append, List.length_nil] at hev
          simp only [d5, evG, Nat.reduceLT, Nat.reduceEqDiff, reduceCtorEq]
          refine DrawE.orders [[0, 1, 2, 7, 3, 4, 5, 6, 8, 9], [0, 1, 2, 3, 7, 4, 5, 6, 8, 9], [0, 1, 2, 3, 4, 7, 5, 6, 8, 9], [0, 1, 2, 3, 4, 5, 7, 6, 8, 9], [0, 1, 2, 3, 4, 5, 6, 7, 8, 9], [0, 3, 1, 2, 7, 4, 5, 6, 8, 9], [0, 3, 1, 2, 4, 7, 5, 6, 8, 9], [0, 3, 1, 2, 4, 5, 7, 6, 8, 9], [0, 3, 1, 2, 4, 5, 6, 7, 8, 9], [0, 3, 4, 1, 2, 7, 5, 6, 8, 9], [0, 3, 4, 1, 2, 5, 7, 6, 8, 9], [0, 3, 4, 1, 2, 5, 6, 7, 8, 9], [0, 3, 4, 5, 1, 2, 7, 6, 8, 9], [0, 3, 4, 5, 1, 2, 6, 7, 8, 9], [0, 3, 4, 5, 6, 1, 2, 7, 8, 9]] (fun _ _ _ h o h' => LayP (.v (.slice none 0 0)) h (lay t 0) o h') noE_ext (by kernel_rfl) (by kernel_rfl) (by kernel_rfl) (fun p hp => ?_)
          simp only [List.mem_cons, List.not_mem_nil, or_false] at hp
          rcases hp with rfl | rfl | rfl | rfl | rfl | rfl | rfl | rfl | rfl | rfl | rfl | rfl | rfl | rfl | rfl
          all_goals simp only [evR, seqT, List.getElem?_toArray, List.getElem?_cons_succ, List.getElem?_cons_zero, tyR, hr1, evG, tyX, Nat.reduceLT, Nat.reduceLeDiff, Nat.reduceEqDiff, reduceCtorEq]
          all_goals refine ⟨c64, hev, fun r h3 hh => ?_, fun v h' hh => by obtain ⟨_, _, e, _⟩ := hh; cases e⟩
          all_goals obtain ⟨f3, N3, eo, hN3, _⟩ := hh
          all_goals cases eo
          all_goals obtain ⟨j, ver, rfl, hj⟩ := hN3.own (by omega)
          all_goals have k3 : h3[0]? = some ⟨0, 41, [.v (.slice none 0 0)]⟩ := f3.at k0 fun h => h
          all_goals have k4 : ∀ b, (h3.set 0 b)[0]? = some b := fun b => List.getElem?_set_self (List.getElem?_eq_some_iff.1 k3).1
          all_goals have hr3 : h3[1]? = _ := f3.at hr1 fun h => h
          all_goals have kx : ∀ b, (h3.set 0 b)[1]? = some _ := fun b => (List.getElem?_set_ne (by decide)).trans hr3
          all_goals have hj0 : j ≠ 0 := fun e => by subst e; rw [k3] at hj; cases hj
          all_goals simp only [List.getElem?_cons_succ, List.getElem?_cons_zero, tyR, k3, k4, hr3, kx, ty41, evG, tyX, Nat.reduceLT, Nat.reduceLeDiff, Nat.reduceEqDiff, reduceCtorEq]
          all_goals exact fz_nodes ((List.getElem?_set_ne (Ne.symm hj0)).trans hj) (by omega)
        · have d5 : (limK t.size t.deep != 0) = true := by simpa using hk
          rw [hR]
          simp only [if_neg hk]
          simp only [tyR, d5, k0, kz, ty41, nodesA, evG, Nat.reduceLT, Nat.reduceLeDiff, Nat.reduceEqDiff, reduceCtorEq]
end Go.Proofs.YtlobiioioicmhaaGreatDoor
/- The law's list of tokens, walked. -/
namespace Go.Proofs.YtlobiioioicmhaaGreatDoor
set_option linter.all false
open Go Go.Ev
set_option maxRecDepth 20000
variable {γ : List (Nat × AV)}
theorem tyT : aggT Tryz.prog 48 = some false ∧
    aggT Tryz.prog 53 = some true ∧
    aggT Tryz.prog 54 = some true ∧
    appT Tryz.prog 48 48 = some (53, 6, 56) ∧
    elemT Tryz.prog 48 = some 53 ∧
    elemT Tryz.prog 47 = some 54 ∧
    mkT Tryz.prog 48 = some (53, 6, [.v (.int .i64 0), .v (.string ⟨#[]⟩), .v (.int .i64 0), .v (.float .f64 0), .v (.int .i64 0), .v (.int .i64 0)]) ∧
    sizeT Tryz.prog 53 = some 6 ∧
    sizeT Tryz.prog 54 = some 6 ∧
    zcT Tryz.prog 53 = some [.v (.int .i64 0), .v (.string ⟨#[]⟩), .v (.int .i64 0), .v (.float .f64 0), .v (.int .i64 0), .v (.int .i64 0)] ∧
    zcT Tryz.prog 54 = some [.v (.int .i64 0), .v (.string ⟨#[]⟩), .v (.int .i64 0), .v (.float .f64 0), .v (.int .i64 0), .v (.int .i64 0)] ∧
    placesT Tryz.prog 53 = some [(0, 1), (1, 1), (2, 1), (3, 1), (4, 1), (5, 1)] ∧
    fieldT Tryz.prog 54 0 = some (0, 3) ∧
    fieldT Tryz.prog 54 1 = some (1, 9) ∧
    fieldT Tryz.prog 54 2 = some (2, 2) ∧
    fieldT Tryz.prog 54 3 = some (3, 22) ∧
    fieldT Tryz.prog 54 4 = some (4, 3) ∧
    fieldT Tryz.prog 54 5 = some (5, 3) ∧
    sizeT Tryz.prog 3 = some 1 ∧
    sizeT Tryz.prog 9 = some 1 ∧
    sizeT Tryz.prog 2 = some 1 ∧
    sizeT Tryz.prog 22 = some 1 ∧
    aggT Tryz.prog 3 = some false ∧
    aggT Tryz.prog 9 = some false ∧
    aggT Tryz.prog 2 = some false ∧
    aggT Tryz.prog 22 = some false ∧
    (Tryz.prog.underlying 48).isSome = true :=
  ⟨by kernel_rfl, by kernel_rfl, by kernel_rfl, by kernel_rfl, by kernel_rfl, by kernel_rfl, by kernel_rfl, by kernel_rfl, by kernel_rfl, by kernel_rfl, by kernel_rfl, by kernel_rfl, by kernel_rfl, by kernel_rfl, by kernel_rfl, by kernel_rfl, by kernel_rfl, by kernel_rfl, by kernel_rfl, by kernel_rfl, by kernel_rfl, by kernel_rfl, by kernel_rfl, by kernel_rfl, by kernel_rfl, by kernel_rfl, by kernel_rfl⟩
def tok7 : Tk := ⟨-7, [], 0, 0, 0, 0⟩
/-- So many tokens, as a list of the caller's own. -/
def TsAt (h : List ABlk) (A : AV) (ts : List Tk) : Prop := (A = .v (.slice none 0 0) ∧ ts = []) ∨ ∃ j ver, A = .own j ver ts.length ∧ h[j]? = some ⟨ver, 53, tkCells ts⟩
theorem y53 : Tryz.prog.cellsOf 53 = 6 := by kernel_rfl
theorem fz_toks {H : List ABlk} {j ver n : Nat} {ys cs : List AV} (hj : H[j]? = some ⟨ver, 53, cs⟩) (hl : (n + 1) * 6 ≤ cs.length) (hp : ys <+: cs) (hv : ∀ y ∈ ys, ∃ v, y = AV.v v) : fz Tryz.prog H false (.sl false n (n + 1) ys) (.own j ver n) := by
  simp only [fz]
  exact .inr ⟨trivial, j, _, _, rfl, hj, by omega, .inr ⟨by show 0 < Tryz.prog.cellsOf 53; rw [y53]; decide, by show (n + 1) * Tryz.prog.cellsOf 53 ≤ _; rw [y53]; exact hl⟩, hp, fzL_all _ H false ys hv⟩
theorem tk_v (t : Tk) : ∀ y ∈ t.cells, ∃ v, y = AV.v v := fun y hy => by
  simp only [Tk.cells, List.mem_cons, List.not_mem_nil, or_false] at hy
  rcases hy with rfl | rfl | rfl | rfl | rfl | rfl <;> exact ⟨_, rfl⟩
theorem toks_v (ts : List Tk) : ∀ y ∈ tkCells ts, ∃ v, y = AV.v v := fun y hy => by
  obtain ⟨t, _, h⟩ := List.mem_flatMap.1 hy
  exact tk_v t y h
theorem toks7_v (ts : List Tk) : ∀ y ∈ tkCells ts ++ tok7.cells, ∃ v, y = AV.v v := fun y hy => (List.mem_append.1 hy).elim (toks_v ts y) (tk_v tok7 y)
def tkS (γ : List (Nat × AV)) (L : AV) (a : Nat × AV × List ABlk) : St := ⟨⟨40, [(0, L), (3, a.2.1), (4, .v (.int .i64 (a.1 : Int)))], γ⟩, a.2.2⟩
set_option maxHeartbeats 2000000 in
theorem tokens_ev {L : AV} {ts : List Tk} (hL : LAt L ts) (hn : ts.length ≤ 2000000) : Ev Tryz.prog γ 25 [L] (.sl false ts.length (ts.length + 1) (tkCells ts ++ tok7.cells)) := by
  have ll : ∀ s, lenS Tryz.prog 47 s L = some (.v (.int .i64 ts.length)) := fun s => by
    have e24 : elemT Tryz.prog 47 = some 54 := by kernel_rfl
    rcases hL with ⟨rfl, rfl⟩ | ⟨b, m, cs, rfl, _⟩
    · simp only [lenS, e24]; rfl
    · simp only [lenS, e24]; rfl
  refine Ev.ofE Tryz.func25 rfl ?_
  simp only [Tryz.f25, evE, Nat.reduceAdd, Nat.reduceSub, Nat.reduceLT]
  refine LoopE.intro (tkS γ L) (fun a => a.1 ≤ ts.length ∧ TsAt a.2.2 a.2.1 (ts.take a.1)) (fun a => ts.length - a.1) (0, .v (.slice none 0 0), []) ⟨rfl, rfl, ⟨rfl, rfl, rfl, trivial⟩, rfl⟩ ⟨Nat.zero_le _, .inl ⟨rfl, rfl⟩⟩ (fun a ha => ?_)
  obtain ⟨k, A, h⟩ := a
  obtain ⟨hk, hA⟩ := ha
  simp only at hk hA
  by_cases hlt : k < ts.length
  · have d2 : decide (k < ts.length) = true := decide_eq_true hlt
    obtain ⟨t, htk⟩ : ∃ t, ts[k]? = some t := ⟨ts[k], by simp [hlt]⟩
    obtain ⟨b, m, cs, rfl, hcs⟩ : ∃ b m cs, L = .sl b ts.length m cs ∧ tkCells ts <+: cs := hL.elim (fun h => by rw [h.2] at hlt; exact absurd hlt (by simp)) id
    have h6 := LAt.take hcs htk
    have h6l : 6 ≤ (cs.drop (k * 6)).length := by have := LAt.len hcs hlt; rw [List.length_drop]; omega
    have w1 : IntKind.i64.wrap ((k : Int) + 1) = ((k + 1 : Nat) : Int) := (i64w (by omega) (by omega)).trans (by omega)
    have htake : ts.take (k + 1) = ts.take k ++ [t] := by rw [List.take_succ, htk]; rfl
    have hlk : (ts.take k).length = k := by rw [List.length_take]; omega
    have g2 : ∀ (x : ABlk) l, (h ++ x :: l)[h.length]? = some x := fun x l => by simp
    have g3 : ∀ (x y : ABlk) l, (h ++ x :: y :: l)[h.length + 1]? = some y := fun x y l => by simp
    have g4 : ∀ (x y : ABlk), (h ++ [x]).set h.length y = h ++ [y] := fun x y => by simp
    rcases hA with ⟨rfl, he⟩ | ⟨j, ver, rfl, hj⟩
    · have hk0 : k = 0 := by rw [he] at hlk; exact hlk.symm
      simp only [tkS, tyT, ll, d2, h6, h6l, g2, g3, g4, Tk.cells, List.append_assoc, List.cons_append, List.nil_append, evE, tyX, Nat.reduceAdd, Nat.reduceLT, Nat.reduceLeDiff, Nat.reduceEqDiff, reduceCtorEq, List.reduceReplicate]
      refine ⟨hlt, ?_⟩
      simp only [w1]
      subst hk0
      have ht1 : ts.take (0 + 1) = [t] := by rw [htake]; rfl
      refine loopCE.intro (0 + 1, _, _) ⟨hlt, .inr ⟨h.length + 2, 0, ?_, ?_⟩⟩ ⟨rfl, rfl, ⟨rfl, rfl, rfl, trivial⟩, rfl⟩ (by show ts.length - (0 + 1) < ts.length - 0; clear w1; omega)
      · rw [ht1]; rfl
      · rw [ht1]
        show (h ++ _ :: _ :: [_])[h.length + 2]? = _
        simp [tkCells, Tk.cells]
    · rw [hlk]
      have hjl : j < h.length := (List.getElem?_eq_some_iff.1 hj).1
      have g1 : ∀ l, (h ++ l)[j]? = _ := fun l => (List.getElem?_append_left hjl).trans hj
      have q4 : (tkCells (ts.take k)).take (k * 6) = tkCells (ts.take k) := List.take_of_length_le (by rw [tkCells_length, hlk]; exact Nat.le_refl _)
      have q6 : k * 6 ≤ (tkCells (ts.take k)).length := by rw [tkCells_length, hlk]; exact Nat.le_refl _
      simp only [tkS, tyT, ll, d2, h6, h6l, g1, g2, g3, g4, q4, q6, Tk.cells, List.append_assoc, List.cons_append, List.nil_append, evE, tyX, Nat.reduceAdd, Nat.reduceLT, Nat.reduceLeDiff, Nat.reduceEqDiff, reduceCtorEq, List.reduceReplicate]
      refine ⟨hlt, ?_⟩
      simp only [w1]
      refine ⟨by clear w1; omega, loopCE.intro (k + 1, _, _) ⟨hlt, .inr ⟨j, ver + 1, ?_, ?_⟩⟩ ⟨rfl, rfl, ⟨rfl, rfl, rfl, trivial⟩, rfl⟩ (by show ts.length - (k + 1) < ts.length - k; clear w1; omega)⟩
      · rw [List.length_take, Nat.min_eq_left hlt]
      · rw [htake, tkCells_append]
        refine (List.getElem?_set_self (by simp; clear w1; omega)).trans ?_
        rfl
  · have d2 : decide (k < ts.length) = false := decide_eq_false hlt
    have ek : k = ts.length := by omega
    have hlk : ts.take k = ts := by rw [ek]; exact List.take_length
    rw [hlk] at hA
    have g2 : ∀ (x : ABlk) l, (h ++ x :: l)[h.length]? = some x := fun x l => by simp
    have g3 : ∀ (x y : ABlk) l, (h ++ x :: y :: l)[h.length + 1]? = some y := fun x y l => by simp
    rcases hA with ⟨rfl, rfl⟩ | ⟨j, ver, rfl, hj⟩
    · have hk0 : k = 0 := by simpa using ek
      subst hk0
      have d2 : decide (0 < 0) = false := by decide
      simp only [tkS, tyT, ll, g2, g3, List.append_assoc, List.cons_append, List.nil_append, evE, tyX, Nat.reduceAdd, Nat.reduceLT, Nat.reduceLeDiff, Nat.reduceEqDiff, reduceCtorEq, List.reduceReplicate]
      exact fz_toks (cs := tok7.cells) (by simp [tok7, Tk.cells]) (by simp [tok7, Tk.cells]) List.prefix_rfl (toks7_v [])
    · have hjl : j < h.length := (List.getElem?_eq_some_iff.1 hj).1
      have g1 : ∀ l, (h ++ l)[j]? = _ := fun l => (List.getElem?_append_left hjl).trans hj
      have q4 : (tkCells ts).take (ts.length * 6) = tkCells ts := List.take_of_length_le (by rw [tkCells_length]; exact Nat.le_refl _)
      have q6 : ts.length * 6 ≤ (tkCells ts).length := by rw [tkCells_length]; exact Nat.le_refl _
      have g5 : ∀ l x, ((h ++ l).set j x)[j]? = some x := fun l x => List.getElem?_set_self (by simp; omega)
      simp only [tkS, tyT, ll, d2, g1, g2, g5, q4, q6, evE, tyX, Nat.reduceAdd, Nat.reduceLT, Nat.reduceLeDiff, Nat.reduceEqDiff, reduceCtorEq, List.reduceReplicate]
      refine ⟨by omega, by omega, ?_⟩
      exact fz_toks (g5 _ _) (by simp [tkCells_length]; omega) List.prefix_rfl (toks7_v ts)
end Go.Proofs.YtlobiioioicmhaaGreatDoor
