/- Contracts of the functions that the law reaches. -/
import Derived.Test.YtplnhipgifcafaaDoorW2
/- Comparisons of such doubles; the bits of a word. -/
namespace Go.Ev
set_option linter.all false
open Go
theorem rd0 : Ieee.double.read 0 = .number false 0 (-1074) := by rfl
theorem rdMin : Ieee.double.read 4503599627370496 = .number false 4503599627370496 (-1074) := by rfl
theorem rdMax : Ieee.double.read 9218868437227405311 = .number false 9007199254740991 971 := by rfl
theorem rdInf : Ieee.double.read 9218868437227405312 = .infinity false := by rfl
theorem one_le_pow (k : Nat) : 1 ≤ 2 ^ k := Nat.pos_of_ne_zero (by simp)
section
variable {m : Nat} {e : Int}
theorem rd_inf (h0 : 0 < m) (h : m < 9007199254740992) (he : -1074 ≤ e) (hf : 1024 ≤ e + m.log2) : Ieee.double.read (dblN m e) = .infinity false := by
  rw [dbl_inf h0 h he hf, rdInf]
theorem ord_zero (h0 : 0 < m) (h : m < 9007199254740992) (he : -1074 ≤ e) : Ieee.double.order (dblN m e) 0 = some .gt := by
  unfold Ieee.Format.order
  by_cases hf : e + m.log2 ≤ 1023
  · rw [read_dbl h0 h he hf, rd0]
    have hM : 0 < m * 2 ^ (e - lastP m e).toNat := Nat.mul_pos h0 (Nat.pos_of_ne_zero (by simp))
    have hl : -1074 ≤ lastP m e := by unfold lastP; omega
    simp only [Ieee.Datum.order, Ieee.signed, Bool.false_eq_true, if_false, Nat.shiftLeft_eq, Nat.zero_mul]
    generalize m * 2 ^ (e - lastP m e).toNat = M at *
    have hp := one_le_pow (lastP m e - min (lastP m e) (-1074)).toNat
    have : 0 < M * 2 ^ (lastP m e - min (lastP m e) (-1074)).toNat := Nat.mul_pos hM hp
    generalize M * 2 ^ (lastP m e - min (lastP m e) (-1074)).toNat = A at *
    have : compare ((A : Nat) : Int) ((0 : Nat) : Int) = .gt := by
      rw [Int.compare_eq_gt]; omega
    rw [this]
  · rw [rd_inf h0 h he (by omega), rd0]; rfl
theorem ord_min (h0 : 0 < m) (h : m < 9007199254740992) : Ieee.double.order (dblN m 0) 4503599627370496 = some .gt := by
  have hlg := log2_lt53 h0 h
  have hf : (0 : Int) + m.log2 ≤ 1023 := by omega
  unfold Ieee.Format.order
  rw [read_dbl h0 h (by omega) hf, rdMin]
  have hl : lastP m 0 = (m.log2 : Int) - 52 := by unfold lastP; omega
  have hM := (pow_le52 h0 h (by omega : (-1074 : Int) ≤ 0)).2 (by omega)
  simp only [Ieee.Datum.order, Ieee.signed, Bool.false_eq_true, if_false, Nat.shiftLeft_eq]
  generalize m * 2 ^ ((0 : Int) - lastP m 0).toNat = M at *
  have e1 : ((-1074 : Int) - min (lastP m 0) (-1074)).toNat = 0 := by omega
  obtain ⟨k, hk⟩ : ∃ k, (lastP m 0 - min (lastP m 0) (-1074)).toNat = k + 1 := ⟨(lastP m 0 - min (lastP m 0) (-1074)).toNat - 1, by omega⟩
  rw [e1, hk]
  have hp := one_le_pow k
  have : 9007199254740992 ≤ M * 2 ^ (k + 1) := by
    rw [Nat.pow_succ]
    calc 9007199254740992 = 4503599627370496 * (1 * 2) := by omega
      _ ≤ M * (2 ^ k * 2) := Nat.mul_le_mul hM (Nat.mul_le_mul_right _ hp)
  generalize M * 2 ^ (k + 1) = A at *
  have : compare ((A : Nat) : Int) ((4503599627370496 * 2 ^ 0 : Nat) : Int) = .gt := by
    rw [Int.compare_eq_gt]; omega
  rw [this]
theorem ord_max (h0 : 0 < m) (h : m < 9007199254740992) (he : -1074 ≤ e) : (Ieee.double.order (dblN m e) 9218868437227405311 == some .gt) = decide (1024 ≤ e + m.log2) := by
  unfold Ieee.Format.order
  by_cases hf : e + m.log2 ≤ 1023
  · rw [read_dbl h0 h he hf, rdMax]
    have hlg := log2_lt53 h0 h
    have hM := (pow_le52 h0 h he).1
    have hl : lastP m e ≤ 971 := by unfold lastP; omega
    simp only [Ieee.Datum.order, Ieee.signed, Bool.false_eq_true, if_false, Nat.shiftLeft_eq]
    generalize m * 2 ^ (e - lastP m e).toNat = M at *
    have e1 : (lastP m e - min (lastP m e) 971).toNat = 0 := by omega
    rw [e1]
    have hp := one_le_pow (971 - min (lastP m e) 971).toNat
    have : 9007199254740991 ≤ 9007199254740991 * 2 ^ (971 - min (lastP m e) 971).toNat := Nat.le_mul_of_pos_right _ hp
    generalize 9007199254740991 * 2 ^ (971 - min (lastP m e) 971).toNat = A at *
    have : compare ((M * 2 ^ 0 : Nat) : Int) ((A : Nat) : Int) ≠ .gt := by
      rw [Ne, Int.compare_eq_gt]; omega
    cases hc : compare ((M * 2 ^ 0 : Nat) : Int) ((A : Nat) : Int) with
    | gt => exact absurd hc this
    | lt => simp; omega
    | eq => simp; omega
  · rw [rd_inf h0 h he (by omega), rdMax]
    have : 1024 ≤ e + (m.log2 : Int) := by omega
    simp only [this, decide_true]; rfl
theorem ord_self (h0 : 0 < m) (h : m < 9007199254740992) (he : -1074 ≤ e) : Ieee.double.order (dblN m e) (dblN m e) = some .eq := by
  unfold Ieee.Format.order
  by_cases hf : e + m.log2 ≤ 1023
  · rw [read_dbl h0 h he hf]
    simp only [Ieee.Datum.order]
    congr 1
    rw [Int.compare_eq_eq]
  · rw [rd_inf h0 h he (by omega)]; rfl
theorem sub_self_fin (h0 : 0 < m) (h : m < 9007199254740992) (he : -1074 ≤ e) (hf : e + m.log2 ≤ 1023) : Ieee.double.sub (dblN m e) (dblN m e) = some 0 := by
  unfold Ieee.Format.sub
  rw [read_dbl h0 h he hf]
  simp only [Ieee.Datum.opposite, Ieee.Datum.sum, Bool.not_false, Ieee.signed, Bool.false_eq_true, if_false, if_true, Option.map_some, Ieee.Format.write]
  generalize ((m * 2 ^ (e - lastP m e).toNat) <<< (lastP m e - min (lastP m e) (lastP m e)).toNat : Nat) = A
  have : ((A : Nat) : Int) + -((A : Nat) : Int) = 0 := by omega
  rw [this]
  rfl
theorem sub_self_inf (h0 : 0 < m) (h : m < 9007199254740992) (he : -1074 ≤ e) (hf : 1024 ≤ e + m.log2) : Ieee.double.sub (dblN m e) (dblN m e) = none := by
  rw [dbl_inf h0 h he hf]; rfl
end
theorem mul_pow2 {m : Nat} {e : Int} (h0 : 0 < m) (h : m < 9007199254740992) (he : -1074 ≤ e) (hf : e + m.log2 ≤ 1023) (C : Nat) (p : Int) (hC : Ieee.double.read C = .number false 4503599627370496 (p - 52)) (hp : -1074 ≤ e + p) :
    Ieee.double.mul C (dblN m e) = some (dblN m (e + p)) := by
  unfold Ieee.Format.mul
  rw [hC, read_dbl h0 h he hf]
  have hle := lastP_le h0 h he
  simp only [Ieee.Datum.product, Option.map_some, Ieee.Format.write]
  have a1 : 4503599627370496 * (m * 2 ^ (e - lastP m e).toNat) = m * 2 ^ ((e - lastP m e).toNat + 52) := by
    rw [Nat.pow_add, Nat.mul_comm, Nat.mul_assoc]
  have a2 : p - 52 + lastP m e = (e + p) - (((e - lastP m e).toNat + 52 : Nat) : Int) := by omega
  rw [a1, a2, show (false ^^ false) = false from rfl, nearest_exact m (e + p) _ h0 h (by omega)]
theorem word_eq {m : Nat} {e : Int} (h0 : 0 < m) (h : m < 9007199254740992) (h1 : -1022 ≤ e + m.log2) (h2 : e + m.log2 ≤ 1023) :
    dblN m e = (e + m.log2 + 1023).toNat * 4503599627370496 + (m * 2 ^ (52 - m.log2) - 4503599627370496) ∧ 4503599627370496 ≤ m * 2 ^ (52 - m.log2) ∧ m * 2 ^ (52 - m.log2) < 9007199254740992 := by
  have hlg := log2_lt53 h0 h
  have he : -1074 ≤ e := by omega
  have hl : lastP m e = e + m.log2 - 52 := by unfold lastP; omega
  have hk : (e - lastP m e).toNat = 52 - m.log2 := by omega
  have hM := pow_le52 h0 h he
  have hq := (fin_iff h0 h he).1 h2
  rw [hk] at hM hq
  have hl0 : lastP m 0 = (m.log2 : Int) - 52 := by unfold lastP; omega
  have hk0 : ((0 : Int) - lastP m 0).toNat = 52 - m.log2 := by omega
  have hM0 := (pow_le52 h0 h (by omega : (-1074 : Int) ≤ 0)).2 (by omega)
  rw [hk0] at hM0
  refine ⟨?_, hM0, hM.1⟩
  unfold dblN
  rw [hk, hl]
  rw [hl] at hq
  generalize m * 2 ^ (52 - m.log2) = K at *
  generalize (m.log2 : Int) = L at *
  have ht : (e + L + 1023).toNat = (e + L - 52 + 1074).toNat + 1 := by omega
  rw [ht, Nat.add_mul, Nat.one_mul, Nat.min_eq_left (Nat.le_of_lt hq), Nat.add_assoc, Nat.add_sub_cancel' hM0]
theorem ldexp_word {m : Nat} (h0 : 0 < m) (h : m < 9007199254740992) : ∃ L F : Nat, m.log2 = L ∧ L ≤ 52 ∧ F < 4503599627370496 ∧ dblN m 0 = (L + 1023) * 4503599627370496 + F ∧
    ∀ (e : Int) (E : Nat), -1022 ≤ e + L → e + L ≤ 1023 → (E : Int) = e + L + 1023 → (E : Int) * 4503599627370496 + (F : Int) = ((dblN m e : Nat) : Int) := by
  have hlg := log2_lt53 h0 h
  obtain ⟨a1, a2, a3⟩ := word_eq (e := 0) h0 h (by omega) (by omega)
  refine ⟨m.log2, m * 2 ^ (52 - m.log2) - 4503599627370496, rfl, hlg, ?_, ?_, fun e E g1 g2 g3 => ?_⟩
  · generalize m * 2 ^ (52 - m.log2) = K at *
    omega
  · rw [a1]
    congr 2
    omega
  · obtain ⟨b1, _, _⟩ := word_eq (e := e) h0 h g1 g2
    rw [b1, ← g3]
    generalize m * 2 ^ (52 - m.log2) - 4503599627370496 = F
    rw [Int.natCast_add, Int.natCast_mul]
    rfl
/-! ### Bits -/
theorem nat_split (X : Nat) : X = X / 2 ^ 52 * 2 ^ 52 + X % 2 ^ 52 := by rw [Nat.mul_comm]; exact (Nat.div_add_mod _ _).symm
theorem ofInt_nat (n : Nat) (h : n < 18446744073709551616) : (BitVec.ofInt 64 (n : Int)).toNat = n := by
  rw [BitVec.ofInt_natCast, BitVec.toNat_ofNat]; exact Nat.mod_eq_of_lt h
theorem bits_abs (n : Nat) (h : n < 9223372036854775808) : IntKind.u64.wrap (BitVec.ofInt IntKind.u64.bits (n : Int) &&& ~~~BitVec.ofInt IntKind.u64.bits 9223372036854775808).toNat = n := by
  have e1 : (BitVec.ofInt 64 (n : Int) &&& ~~~BitVec.ofInt 64 9223372036854775808).toNat = n := by
    rw [BitVec.toNat_and, ofInt_nat n (by omega)]
    have : (~~~BitVec.ofInt 64 9223372036854775808).toNat = 2 ^ 63 - 1 := by rfl
    rw [this, Nat.and_two_pow_sub_one_eq_mod]
    exact Nat.mod_eq_of_lt (by omega)
  show IntKind.u64.wrap ((BitVec.ofInt 64 (n : Int) &&& ~~~BitVec.ofInt 64 9223372036854775808).toNat : Int) = n
  rw [e1, u64w] <;> omega
theorem and_pow_zero {T : Nat} (hT : T < 2048) : T &&& 2 ^ 11 = 0 := by
  apply Nat.eq_of_testBit_eq
  intro i
  rw [Nat.testBit_and, Nat.testBit_two_pow, Nat.zero_testBit]
  by_cases hi : 11 = i
  · subst hi
    rw [Nat.testBit_lt_two_pow (by omega)]; rfl
  · simp [hi]
theorem bits_frac (T F : Nat) (hT : T < 2048) (hF : F < 4503599627370496) : IntKind.u64.wrap (BitVec.ofInt IntKind.u64.bits ((T * 4503599627370496 + F : Nat) : Int) &&& ~~~BitVec.ofInt IntKind.u64.bits 9218868437227405312).toNat = F := by
  have e1 : (BitVec.ofInt 64 ((T * 4503599627370496 + F : Nat) : Int) &&& ~~~BitVec.ofInt 64 9218868437227405312).toNat = F := by
    rw [BitVec.toNat_and, ofInt_nat _ (by omega)]
    have : (~~~BitVec.ofInt 64 9218868437227405312).toNat = 9227875636482146303 := by rfl
    rw [this, nat_split ((T * 4503599627370496 + F) &&& 9227875636482146303), Nat.and_div_two_pow, Nat.and_mod_two_pow]
    have a1 : (T * 4503599627370496 + F) / 2 ^ 52 = T := by omega
    have a2 : (T * 4503599627370496 + F) % 2 ^ 52 = F := by omega
    have a3 : 9227875636482146303 / 2 ^ 52 = 2 ^ 11 := by rfl
    have a4 : 9227875636482146303 % 2 ^ 52 = 2 ^ 52 - 1 := by rfl
    rw [a1, a2, a3, a4, Nat.and_two_pow_sub_one_eq_mod, and_pow_zero hT]
    have := Nat.mod_eq_of_lt (show F < 2 ^ 52 by omega)
    omega
  show IntKind.u64.wrap ((BitVec.ofInt 64 ((T * 4503599627370496 + F : Nat) : Int) &&& ~~~BitVec.ofInt 64 9218868437227405312).toNat : Int) = F
  rw [e1, u64w] <;> omega
theorem bits_or (E F : Nat) (hE : E < 4096) (hF : F < 4503599627370496) : IntKind.u64.wrap (BitVec.ofInt IntKind.u64.bits (F : Int) ||| BitVec.ofInt IntKind.u64.bits ((E : Int) * 4503599627370496)).toNat = (E : Int) * 4503599627370496 + (F : Int) := by
  have ec : (E : Int) * 4503599627370496 = ((E * 4503599627370496 : Nat) : Int) := by omega
  rw [ec]
  generalize hG : E * 4503599627370496 = G
  have e1 : (BitVec.ofInt 64 (F : Int) ||| BitVec.ofInt 64 ((G : Nat) : Int)).toNat = G + F := by
    rw [BitVec.toNat_or, ofInt_nat _ (by omega), ofInt_nat _ (by omega), Nat.or_comm]
    have := Nat.shiftLeft_add_eq_or_of_lt (show F < 2 ^ 52 by omega) E
    rw [Nat.shiftLeft_eq] at this
    rw [← hG]
    exact this.symm
  show IntKind.u64.wrap ((BitVec.ofInt 64 (F : Int) ||| BitVec.ofInt 64 ((G : Nat) : Int)).toNat : Int) = _
  rw [e1]
  exact (u64w (by omega) (by omega)).trans (by omega)
theorem bits_low (T : Nat) (hT : T < 2048) : IntKind.i64.wrap (BitVec.ofInt IntKind.i64.bits (T : Int) &&& BitVec.ofInt IntKind.i64.bits 2047).toNat = T := by
  have e1 : (BitVec.ofInt 64 (T : Int) &&& BitVec.ofInt 64 2047).toNat = T := by
    rw [BitVec.toNat_and, ofInt_nat _ (by omega)]
    have : (BitVec.ofInt 64 2047).toNat = 2 ^ 11 - 1 := by rfl
    rw [this, Nat.and_two_pow_sub_one_eq_mod]
    exact Nat.mod_eq_of_lt (by omega)
  show IntKind.i64.wrap ((BitVec.ofInt 64 (T : Int) &&& BitVec.ofInt 64 2047).toNat : Int) = T
  rw [e1, i64w] <;> omega
end Go.Ev
namespace Go.Proofs.YtplnhipgifcafaaDoor
set_option linter.all false
open Go Go.Ev
variable {γ : List (Nat × AV)}
theorem b122 : bodyT Tryd.prog 122 := ⟨_, Tryd.func122, by kernel_rfl, by kernel_rfl⟩
theorem b130 : bodyT Tryd.prog 130 := ⟨_, Tryd.func130, by kernel_rfl, by kernel_rfl⟩
theorem b131 : bodyT Tryd.prog 131 := ⟨_, Tryd.func131, by kernel_rfl, by kernel_rfl⟩
theorem b100 : bodyT Tryd.prog 100 := ⟨_, Tryd.func100, by kernel_rfl, by kernel_rfl⟩
theorem b86 : bodyT Tryd.prog 86 := ⟨_, Tryd.func86, by kernel_rfl, by kernel_rfl⟩
theorem b112 : bodyT Tryd.prog 112 := ⟨_, Tryd.func112, by kernel_rfl, by kernel_rfl⟩
theorem b89 : bodyT Tryd.prog 89 := ⟨_, Tryd.func89, by kernel_rfl, by kernel_rfl⟩
theorem ext33 (b : Nat) : ExtV Tryd.prog 33 [.v (.float .f64 b)] (.v (.int .u64 b)) := ext_float64bits Tryd.func33 (by kernel_rfl) (by kernel_rfl) (by kernel_rfl) (by kernel_rfl) b
theorem ext108 (n : Int) : ExtV Tryd.prog 108 [.v (.int .u64 n)] (.v (.float .f64 n.toNat)) := ext_float64frombits Tryd.func108 (by kernel_rfl) (by kernel_rfl) (by kernel_rfl) (by kernel_rfl) n
theorem fltRes_some (r : Nat) : fltRes (some r) = .v (.float .f64 r) := rfl
theorem dblN_le (m : Nat) (e : Int) : dblN m e ≤ 9218868437227405312 := Nat.min_le_right _ _
theorem abs_ev (V : Nat) (h : V < 9223372036854775808) : Ev Tryd.prog γ 122 [.v (.float .f64 V)] (.v (.float .f64 V)) := by
  refine Ev.of Tryd.func122 rfl ?_
  simp only [Tryd.f122, evS, tyS, Bool.not_true, Bool.not_false, Nat.reduceAdd, Nat.reduceSub, Nat.reduceMul, Nat.reduceLT, Nat.reduceLeDiff, Nat.reduceEqDiff, reduceCtorEq, List.reduceReplicate, Int.reduceToNat, Int.reduceLE, Int.reduceLT]
  refine CallK.ext (ext33 V) ?_
  simp only [bits_abs V h, evS, tyS, Bool.not_true, Bool.not_false, Nat.reduceAdd, Nat.reduceSub, Nat.reduceMul, Nat.reduceLT, Nat.reduceLeDiff, Nat.reduceEqDiff, reduceCtorEq, List.reduceReplicate, Int.reduceToNat, Int.reduceLE, Int.reduceLT]
  refine CallK.ext (ext108 V) ?_
  simp only [evS, tyS, Bool.not_true, Bool.not_false, Nat.reduceAdd, Nat.reduceSub, Nat.reduceMul, Nat.reduceLT, Nat.reduceLeDiff, Nat.reduceEqDiff, reduceCtorEq, List.reduceReplicate, Int.reduceToNat, Int.reduceLE, Int.reduceLT]
theorem isNaN_ev (V : Nat) (h : FloatKind.f64.format.order V V = some .eq) : Ev Tryd.prog γ 130 [.v (.float .f64 V)] (.v (.bool false)) := by
  refine Ev.of Tryd.func130 rfl ?_
  simp only [Tryd.f130, h, evS, tyS, Bool.not_true, Bool.not_false, Nat.reduceAdd, Nat.reduceSub, Nat.reduceMul, Nat.reduceLT, Nat.reduceLeDiff, Nat.reduceEqDiff, reduceCtorEq, List.reduceReplicate, Int.reduceToNat, Int.reduceLE, Int.reduceLT]
  rfl
theorem isInf_ev (V : Nat) (h : V < 9223372036854775808) : Ev Tryd.prog γ 100 [.v (.float .f64 V), .v (.int .i64 0)] (.v (.bool (FloatKind.f64.format.order V 9218868437227405311 == some .gt))) := by
  refine Ev.of Tryd.func100 rfl ?_
  have h00 : ((0 : Int) == 0) = true := by decide
  simp only [Tryd.f100, h00, evS, tyS, Bool.not_true, Bool.not_false, Nat.reduceAdd, Nat.reduceSub, Nat.reduceMul, Nat.reduceLT, Nat.reduceLeDiff, Nat.reduceEqDiff, reduceCtorEq, List.reduceReplicate, Int.reduceToNat, Int.reduceLE, Int.reduceLT]
  refine CallK.intro b122 rfl (abs_ev V h) ?_
  simp only [evS, tyS, Bool.not_true, Bool.not_false, Nat.reduceAdd, Nat.reduceSub, Nat.reduceMul, Nat.reduceLT, Nat.reduceLeDiff, Nat.reduceEqDiff, reduceCtorEq, List.reduceReplicate, Int.reduceToNat, Int.reduceLE, Int.reduceLT]
theorem inf_ev : Ev Tryd.prog γ 86 [.v (.int .i64 1)] (.v (.float .f64 9218868437227405312)) := by
  refine Ev.of Tryd.func86 rfl ?_
  simp only [Tryd.f86, evS, tyS, Bool.not_true, Bool.not_false, Nat.reduceAdd, Nat.reduceSub, Nat.reduceMul, Nat.reduceLT, Nat.reduceLeDiff, Nat.reduceEqDiff, reduceCtorEq, List.reduceReplicate, Int.reduceToNat, Int.reduceLE, Int.reduceLT]
  refine CallK.ext (ext108 9218868437227405312) ?_
  simp only [evS, tyS, Bool.not_true, Bool.not_false, Nat.reduceAdd, Nat.reduceSub, Nat.reduceMul, Nat.reduceLT, Nat.reduceLeDiff, Nat.reduceEqDiff, reduceCtorEq, List.reduceReplicate, Int.reduceToNat, Int.reduceLE, Int.reduceLT]
theorem normalize_ev {m : Nat} (h0 : 0 < m) (h : m < 9007199254740992) : Ev Tryd.prog γ 131 [.v (.float .f64 (dblN m 0))] (.tup [.v (.float .f64 (dblN m 0)), .v (.int .i64 0)]) := by
  have ho : FloatKind.f64.format.order (dblN m 0) 4503599627370496 = some .gt := ord_min h0 h
  have hl := dblN_le m 0
  have hgl : ((some Ordering.gt : Option Ordering) == some .lt) = false := by decide
  refine Ev.of Tryd.func131 rfl ?_
  simp only [Tryd.f131, evS, tyS, Bool.not_true, Bool.not_false, Nat.reduceAdd, Nat.reduceSub, Nat.reduceMul, Nat.reduceLT, Nat.reduceLeDiff, Nat.reduceEqDiff, reduceCtorEq, List.reduceReplicate, Int.reduceToNat, Int.reduceLE, Int.reduceLT]
  refine CallK.intro b122 rfl (abs_ev (dblN m 0) (by omega)) ?_
  simp only [ho, hgl, evS, tyS, Bool.not_true, Bool.not_false, Nat.reduceAdd, Nat.reduceSub, Nat.reduceMul, Nat.reduceLT, Nat.reduceLeDiff, Nat.reduceEqDiff, reduceCtorEq, List.reduceReplicate, Int.reduceToNat, Int.reduceLE, Int.reduceLT]
set_option maxRecDepth 20000 in
set_option maxRecDepth 20000 in
theorem ldexp_ev (m : Nat) (h0 : 0 < m) (h : m < 9007199254740992) (x : Int) (hx : -1074 ≤ x) (hx2 : x ≤ 1074) : Ev Tryd.prog γ 112 [.v (.float .f64 (dblN m 0)), .v (.int .i64 x)] (.v (.float .f64 (dblN m x))) := by
  have o0 : FloatKind.f64.format.order (dblN m 0) 0 = some .gt := ord_zero h0 h (by omega)
  have os : FloatKind.f64.format.order (dblN m 0) (dblN m 0) = some .eq := ord_self h0 h (by omega)
  have om : (FloatKind.f64.format.order (dblN m 0) 9218868437227405311 == some .gt) = false := by
    have := ord_max h0 h (by omega : (-1074 : Int) ≤ 0)
    have hlg := log2_lt53 h0 h
    rw [show FloatKind.f64.format = Ieee.double from rfl, this]; simp; omega
  have hnorm := normalize_ev (γ := γ) h0 h
  have hinf := dbl_inf (e := x) h0 h hx
  have hm1 : ∀ e : Int, -1074 ≤ e → e + m.log2 ≤ 1023 → FloatKind.f64.format.mul 4607182418800017408 (dblN m e) = some (dblN m e) := fun e g1 g2 => by
    have := mul_pow2 (e := e) h0 h g1 g2 4607182418800017408 0 (by rfl) (by omega)
    rw [Int.add_zero] at this
    exact this
  have hm2 : ∀ e : Int, -1074 ≤ e + 53 → -1074 ≤ e → e + 53 + m.log2 ≤ 1023 → FloatKind.f64.format.mul 4368491638549381120 (dblN m (e + 53)) = some (dblN m e) := fun e g1 g3 g2 => by
    have := mul_pow2 (e := e + 53) h0 h g1 g2 4368491638549381120 (-53) (by rfl) (by omega)
    rw [show e + 53 + -53 = e from by omega] at this
    exact this
  obtain ⟨L, F, hL, hL52, hF, hV, hword⟩ := ldexp_word h0 h
  rw [hL] at hinf hm1 hm2
  have hl := dblN_le m 0
  generalize hD : dblN m = D at *
  clear h0 h hD hL
  have c1 : decide (1023 < x + (L : Int)) = true → 1024 ≤ x + (L : Int) := fun h => by have := of_decide_eq_true h; omega
  have c2 : decide (1023 < x + (L : Int)) = false → x + (L : Int) ≤ 1023 := fun h => by have := of_decide_eq_false h; omega
  have c3 : decide (x + (L : Int) < -1022) = true → ∃ E G : Nat, IntKind.i64.wrap (x + (L : Int) + 53) = x + (L : Int) + 53 ∧ IntKind.i64.wrap (x + (L : Int) + 53 + 1023) = (E : Int) ∧ IntKind.u64.wrap (E : Int) = (E : Int) ∧ IntKind.u64.wrap ((E : Int) * 2 ^ min 52 IntKind.u64.bits) = (G : Int) ∧
      IntKind.u64.wrap (BitVec.ofInt IntKind.u64.bits (F : Int) ||| BitVec.ofInt IntKind.u64.bits (G : Int)).toNat = ((D (x + 53) : Nat) : Int) ∧ FloatKind.f64.format.mul 4368491638549381120 (D (x + 53)) = some (D x) := fun h => by
    have hd' := of_decide_eq_true h
    obtain ⟨E, hE⟩ : ∃ E : Nat, (E : Int) = x + (L : Int) + 53 + 1023 := ⟨(x + (L : Int) + 53 + 1023).toNat, by omega⟩
    have p52' : (2 : Int) ^ min 52 IntKind.u64.bits = 4503599627370496 := by decide
    have w9 := bits_or E F (by omega) hF
    obtain ⟨G, hG⟩ : ∃ G : Nat, (E : Int) * 4503599627370496 = (G : Int) := ⟨E * 4503599627370496, by omega⟩
    have wq := hword (x + 53) E (by omega) (by omega) (by omega)
    rw [wq, hG] at w9
    exact ⟨E, G, i64w (by omega) (by omega), (i64w (by omega) (by omega)).trans hE.symm, u64w (by omega) (by omega), by rw [p52', hG]; exact u64w (by omega) (by omega), w9, hm2 x (by omega) hx (by omega)⟩
  have c4 : decide (1023 < x + (L : Int)) = false → decide (x + (L : Int) < -1022) = false → ∃ E G : Nat, IntKind.i64.wrap (x + (L : Int) + 1023) = (E : Int) ∧ IntKind.u64.wrap (E : Int) = (E : Int) ∧ IntKind.u64.wrap ((E : Int) * 2 ^ min 52 IntKind.u64.bits) = (G : Int) ∧
      IntKind.u64.wrap (BitVec.ofInt IntKind.u64.bits (F : Int) ||| BitVec.ofInt IntKind.u64.bits (G : Int)).toNat = ((D x : Nat) : Int) ∧ FloatKind.f64.format.mul 4607182418800017408 (D x) = some (D x) := fun h1 h => by
    have hd' := of_decide_eq_false h
    have hd2 := of_decide_eq_false h1
    obtain ⟨E, hE⟩ : ∃ E : Nat, (E : Int) = x + (L : Int) + 1023 := ⟨(x + (L : Int) + 1023).toNat, by omega⟩
    have p52' : (2 : Int) ^ min 52 IntKind.u64.bits = 4503599627370496 := by decide
    have w9 := bits_or E F (by omega) hF
    obtain ⟨G, hG⟩ : ∃ G : Nat, (E : Int) * 4503599627370496 = (G : Int) := ⟨E * 4503599627370496, by omega⟩
    have wq := hword x E (by omega) (by omega) (by omega)
    rw [wq, hG] at w9
    exact ⟨E, G, (i64w (by omega) (by omega)).trans hE.symm, u64w (by omega) (by omega), by rw [p52', hG]; exact u64w (by omega) (by omega), w9, hm1 x hx (by omega)⟩
  have w1 : IntKind.i64.wrap ((L + 1023 : Nat) : Int) = ((L + 1023 : Nat) : Int) := i64w (by omega) (by omega)
  have w3 : IntKind.i64.wrap (((L + 1023 : Nat) : Int) - 1023) = (L : Int) := (i64w (by omega) (by omega)).trans (by omega)
  have w4 : IntKind.i64.wrap (x + (L : Int)) = x + (L : Int) := i64w (by omega) (by omega)
  have w0 : IntKind.i64.wrap (x + 0) = x := by rw [Int.add_zero]; exact i64w (by omega) (by omega)
  have l1 : decide (x + (L : Int) < -1075) = false := decide_eq_false (by omega)
  have hD0 : D 0 < 9223372036854775808 := by omega
  have w2 := bits_low (L + 1023) (by omega)
  have hdiv : ((D 0 : Nat) : Int) / 4503599627370496 = ((L + 1023 : Nat) : Int) := by rw [hV]; omega
  have fr : IntKind.u64.wrap (BitVec.ofInt IntKind.u64.bits ((D 0 : Nat) : Int) &&& ~~~BitVec.ofInt IntKind.u64.bits 9218868437227405312).toNat = (F : Int) := by
    have := bits_frac (L + 1023) F (by omega) hF
    rw [hV]; exact this
  have esh : ((D 0 : Nat) : Int).fdiv (2 ^ min (Int.toNat 52) IntKind.u64.bits) = ((L + 1023 : Nat) : Int) := by
    have e1 : (2 : Int) ^ min (Int.toNat 52) IntKind.u64.bits = 4503599627370496 := by decide
    rw [e1, Int.fdiv_eq_ediv_of_nonneg _ (by decide), hdiv]
  have esh' : ((D 0 : Nat) : Int).fdiv (2 ^ min 52 IntKind.u64.bits) = ((L + 1023 : Nat) : Int) := esh
  have ge : ((some Ordering.gt : Option Ordering) == some .eq) = false := by decide
  have gl : ((some Ordering.gt : Option Ordering) == some .lt) = false := by decide
  clear hV hdiv hword hm1 hm2
  refine Ev.of Tryd.func112 rfl ?_
  simp only [Tryd.f112, o0, ge, evS, tyS, Bool.not_true, Bool.not_false, Nat.reduceAdd, Nat.reduceSub, Nat.reduceMul, Nat.reduceLT, Nat.reduceLeDiff, Nat.reduceEqDiff, reduceCtorEq, List.reduceReplicate, Int.reduceToNat, Int.reduceLE, Int.reduceLT]
  refine CallK.intro b100 rfl (isInf_ev (D 0) hD0) ?_
  simp only [om, evS, tyS, Bool.not_true, Bool.not_false, Nat.reduceAdd, Nat.reduceSub, Nat.reduceMul, Nat.reduceLT, Nat.reduceLeDiff, Nat.reduceEqDiff, reduceCtorEq, List.reduceReplicate, Int.reduceToNat, Int.reduceLE, Int.reduceLT]
  refine CallK.intro b130 rfl (isNaN_ev (D 0) os) ?_
  simp only [evS, tyS, Bool.not_true, Bool.not_false, Nat.reduceAdd, Nat.reduceSub, Nat.reduceMul, Nat.reduceLT, Nat.reduceLeDiff, Nat.reduceEqDiff, reduceCtorEq, List.reduceReplicate, Int.reduceToNat, Int.reduceLE, Int.reduceLT]
  refine CallK.intro b131 rfl hnorm ?_
  simp only [evS, tyS, Bool.not_true, Bool.not_false, Nat.reduceAdd, Nat.reduceSub, Nat.reduceMul, Nat.reduceLT, Nat.reduceLeDiff, Nat.reduceEqDiff, reduceCtorEq, List.reduceReplicate, Int.reduceToNat, Int.reduceLE, Int.reduceLT]
  refine CallK.ext (ext33 (D 0)) ?_
  simp only [esh, esh', w0, w1, w2, w3, w4, l1, evS, tyS, Bool.not_true, Bool.not_false, Nat.reduceAdd, Nat.reduceSub, Nat.reduceMul, Nat.reduceLT, Nat.reduceLeDiff, Nat.reduceEqDiff, reduceCtorEq, List.reduceReplicate, Int.reduceToNat, Int.reduceLE, Int.reduceLT]
  refine CondK.intro (fun hg => ?_) (fun hg => ?_) <;> simp only [hg, o0, gl, fr, evS, tyS, Bool.not_true, Bool.not_false, Nat.reduceAdd, Nat.reduceSub, Nat.reduceMul, Nat.reduceLT, Nat.reduceLeDiff, Nat.reduceEqDiff, reduceCtorEq, List.reduceReplicate, Int.reduceToNat, Int.reduceLE, Int.reduceLT]
  · refine CallK.intro b86 rfl inf_ev ?_
    rw [hinf (c1 hg)]
    simp only [evS, tyS, Bool.not_true, Bool.not_false, Nat.reduceAdd, Nat.reduceSub, Nat.reduceMul, Nat.reduceLT, Nat.reduceLeDiff, Nat.reduceEqDiff, reduceCtorEq, List.reduceReplicate, Int.reduceToNat, Int.reduceLE, Int.reduceLT]
  · refine CondK.intro (fun hd => ?_) (fun hd => ?_)
    · obtain ⟨E, G, w5, w6, w7, w8, w9, mm⟩ := c3 hd
      simp only [hd, w5, w6, w7, w8, w9, fr, evS, tyS, Bool.not_true, Bool.not_false, Nat.reduceAdd, Nat.reduceSub, Nat.reduceMul, Nat.reduceLT, Nat.reduceLeDiff, Nat.reduceEqDiff, reduceCtorEq, List.reduceReplicate, Int.reduceToNat, Int.reduceLE, Int.reduceLT]
      refine CallK.ext (ext108 (D (x + 53))) ?_
      simp only [mm, fltRes_some, evS, tyS, Bool.not_true, Bool.not_false, Nat.reduceAdd, Nat.reduceSub, Nat.reduceMul, Nat.reduceLT, Nat.reduceLeDiff, Nat.reduceEqDiff, reduceCtorEq, List.reduceReplicate, Int.reduceToNat, Int.reduceLE, Int.reduceLT]
    · obtain ⟨E, G, w6, w7, w8, w9, mm⟩ := c4 hg hd
      simp only [hd, w6, w7, w8, w9, fr, evS, tyS, Bool.not_true, Bool.not_false, Nat.reduceAdd, Nat.reduceSub, Nat.reduceMul, Nat.reduceLT, Nat.reduceLeDiff, Nat.reduceEqDiff, reduceCtorEq, List.reduceReplicate, Int.reduceToNat, Int.reduceLE, Int.reduceLT]
      refine CallK.ext (ext108 (D x)) ?_
      simp only [mm, fltRes_some, evS, tyS, Bool.not_true, Bool.not_false, Nat.reduceAdd, Nat.reduceSub, Nat.reduceMul, Nat.reduceLT, Nat.reduceLeDiff, Nat.reduceEqDiff, reduceCtorEq, List.reduceReplicate, Int.reduceToNat, Int.reduceLE, Int.reduceLT]
theorem Ldexp_ev (m : Nat) (h0 : 0 < m) (h : m < 9007199254740992) (x : Int) (hx : -1074 ≤ x) (hx2 : x ≤ 1074) : Ev Tryd.prog γ 89 [.v (.float .f64 (dblN m 0)), .v (.int .i64 x)] (.v (.float .f64 (dblN m x))) := by
  refine Ev.of Tryd.func89 rfl ?_
  simp only [Tryd.f89, evS, tyS, Bool.not_true, Bool.not_false, Nat.reduceAdd, Nat.reduceSub, Nat.reduceMul, Nat.reduceLT, Nat.reduceLeDiff, Nat.reduceEqDiff, reduceCtorEq, List.reduceReplicate, Int.reduceToNat, Int.reduceLE, Int.reduceLT]
  refine CallK.intro b112 rfl (ldexp_ev m h0 h x hx hx2) ?_
  simp only [evS, tyS, Bool.not_true, Bool.not_false, Nat.reduceAdd, Nat.reduceSub, Nat.reduceMul, Nat.reduceLT, Nat.reduceLeDiff, Nat.reduceEqDiff, reduceCtorEq, List.reduceReplicate, Int.reduceToNat, Int.reduceLE, Int.reduceLT]
theorem Ldexp0_ev : Ev Tryd.prog γ 89 [.v (.float .f64 0), .v (.int .i64 0)] (.v (.float .f64 0)) := by
  have o0 : (FloatKind.f64.format.order 0 0 == some .eq) = true := by rfl
  have h1 : Ev Tryd.prog γ 112 [.v (.float .f64 0), .v (.int .i64 0)] (.v (.float .f64 0)) := by
    refine Ev.of Tryd.func112 rfl ?_
    simp only [Tryd.f112, o0, evS, tyS, Bool.not_true, Bool.not_false, Nat.reduceAdd, Nat.reduceSub, Nat.reduceMul, Nat.reduceLT, Nat.reduceLeDiff, Nat.reduceEqDiff, reduceCtorEq, List.reduceReplicate, Int.reduceToNat, Int.reduceLE, Int.reduceLT]
  refine Ev.of Tryd.func89 rfl ?_
  simp only [Tryd.f89, evS, tyS, Bool.not_true, Bool.not_false, Nat.reduceAdd, Nat.reduceSub, Nat.reduceMul, Nat.reduceLT, Nat.reduceLeDiff, Nat.reduceEqDiff, reduceCtorEq, List.reduceReplicate, Int.reduceToNat, Int.reduceLE, Int.reduceLT]
  refine CallK.intro b112 rfl h1 ?_
  simp only [evS, tyS, Bool.not_true, Bool.not_false, Nat.reduceAdd, Nat.reduceSub, Nat.reduceMul, Nat.reduceLT, Nat.reduceLeDiff, Nat.reduceEqDiff, reduceCtorEq, List.reduceReplicate, Int.reduceToNat, Int.reduceLE, Int.reduceLT]
end Go.Proofs.YtplnhipgifcafaaDoor
namespace Go.Proofs.YtplnhipgifcafaaDoor
set_option linter.all false
open Go Go.Ev
variable {γ : List (Nat × AV)}
theorem digitsEnd_ge (l : List UInt8) (i : Nat) : i ≤ digitsEnd l i := by unfold digitsEnd; omega
theorem digitsEnd_le {l : List UInt8} {i : Nat} (h : i ≤ l.length) : digitsEnd l i ≤ l.length := by
  have := (spanEnd_le (p := digitN) h).2
  rwa [← digitsEnd_span] at this
theorem digitsEnd_all {l : List UInt8} : ∀ (k : Nat) {i j : Nat}, j = i + k → j < digitsEnd l i → digitN (atL l j) = true
  | 0, i, j, e, h => by
    obtain rfl : j = i := by omega
    cases hd : digitN (atL l j) with
    | true => rfl
    | false => rw [digitsEnd_stop hd] at h; omega
  | k + 1, i, j, e, h => by
    cases hd : digitN (atL l i) with
    | true => exact digitsEnd_all k (i := i + 1) (by omega) (by rwa [(digitsEnd_step hd).1] at h)
    | false => rw [digitsEnd_stop hd] at h; omega
theorem digitsEnd_lt {l : List UInt8} {i : Nat} (h : digitN (atL l i) = true) : i < digitsEnd l i := by
  rw [(digitsEnd_step h).1]
  have := digitsEnd_ge l (i + 1)
  omega
theorem atL_take {l : List UInt8} {n j : Nat} (h : j < n) : atL (l.take n) j = atL l j := by
  simp only [atL, List.getD, List.getElem?_take, if_pos h]
theorem atL_dropk (l : List UInt8) (k j : Nat) : atL (l.drop k) j = atL l (k + j) := by
  simp only [atL, List.getD, List.getElem?_drop]
/-- The digits from a place on. -/
def numL (l : List UInt8) (i : Nat) : List UInt8 := (l.drop i).take (digitsEnd l i - i)
theorem numL_len {l : List UInt8} {i : Nat} (h : i ≤ l.length) : (numL l i).length = digitsEnd l i - i := by
  have h1 := digitsEnd_le h
  rw [numL, List.length_take, List.length_drop]; omega
theorem numL_digit {l : List UInt8} {i : Nat} (h : i ≤ l.length) (j : Nat) (hj : j < (numL l i).length) : digitN (atL (numL l i) j) = true := by
  rw [numL_len h] at hj
  rw [numL, atL_take hj, atL_dropk]
  exact digitsEnd_all j rfl (by omega)
/-- What decimal tells: the number, and may it be? -/
def decM (l : List UInt8) : Int := if 1 < l.length ∧ atL l 0 = 48 then 0 else if decV l < 9223372036854775808 then decV l else 9223372036854775807
def decO (l : List UInt8) (most : Int) : Bool := decide (¬ (1 < l.length ∧ atL l 0 = 48) ∧ decV l < 9223372036854775808 ∧ (decV l : Int) ≤ most)
theorem decR_eq (l : List UInt8) (most : Int) : decR l most = .tup [.v (.int .i64 (decM l)), .v (.bool (decO l most))] := by
  unfold decR decM decO
  by_cases h1 : 1 < l.length ∧ atL l 0 = 48
  · simp [h1]
  · by_cases h2 : decV l < 9223372036854775808
    · simp [h1, h2]
    · simp [h1, h2]
theorem decM_pos (l : List UInt8) : 0 ≤ decM l ∧ decM l ≤ 9223372036854775807 := by
  unfold decM; split
  · omega
  · split <;> omega
theorem decO_iff {l : List UInt8} {most : Int} (h : decO l most = true) : decM l = decV l ∧ (decV l : Int) ≤ most := by
  unfold decO at h
  have h := of_decide_eq_true h
  unfold decM
  rw [if_neg h.1, if_pos h.2.1]
  exact ⟨rfl, h.2.2⟩
theorem decimalAt_ev (hγ : Gl γ) (b : Bool) (l : List UInt8) (i : Nat) (most : Int) (h1 : i < digitsEnd l i) (hi : i ≤ l.length) (hl : l.length ≤ 140737488351232) :
    Ev Tryd.prog γ 73 [.sl b (digitsEnd l i - i) (l.length - i) (List.drop i (l.map byteC)), .v (.int .i64 most)] (.tup [.v (.int .i64 (decM (numL l i))), .v (.bool (decO (numL l i) most))]) := by
  have hle := digitsEnd_le hi
  rw [← List.map_drop]
  refine Ev_cut1 (by omega) (by rw [List.length_drop]; omega) ?_
  have := lexDecimal_ev hγ b (numL l i) most (by rw [numL_len hi]; omega) (by rw [numL_len hi]; omega) (numL_digit hi)
  rwa [decR_eq] at this
/-- m * 2^e as a double. -/
def realB (m : Nat) (e : Int) : Nat := if m = 0 then 0 else dblN m e
def finB (m : Nat) (e : Int) : Bool := decide (m = 0 ∨ e + m.log2 ≤ 1023)
def expOf (sg : Nat) (x : Nat) : Int := if sg = 1 then -(x : Int) else x
/-- May a real be, of these two rows of digits? -/
def realO (sg : Nat) (a b : List UInt8) (follow : Nat) : Bool :=
  decO a 9007199254740991 && decO b (1023 + 51 * sg) && (decide (decV a % 2 = 1) || (decide (decV a = 0) && decide (decV b = 0))) && !(decide (sg = 1) && decide (decV b = 0)) && !nameN follow && finB (decV a) (expOf sg (decV b))
def errTok (k : Int) : AV := .tup [tokA 0 [] 0 f0 0 0, .v (.int .i64 k)]
def okTok (t : AV) : AV := .tup [t, .v (.int .i64 0)]
def realA (l : List UInt8) (p sg : Nat) : AV :=
  if realO sg (numL l 0) (numL l (p + 1 + sg)) (atL l (digitsEnd l (p + 1 + sg))) = true then
    okTok (tokA 3 [] 0 (.v (.float .f64 (realB (decV (numL l 0)) (expOf sg (decV (numL l (p + 1 + sg))))))) 0 (digitsEnd l (p + 1 + sg)))
  else errTok 12
theorem near_eq (m : Nat) (h : m < 9007199254740992) : FloatKind.f64.nearest (m : Int) = realB m 0 := by
  unfold realB
  by_cases h0 : m = 0
  · subst h0; rfl
  · rw [if_neg h0]
    have := nearest_exact m 0 0 (by omega) h (by omega)
    have e1 : (decide ((m : Int) < 0)) = false := decide_eq_false (by omega)
    show Ieee.double.nearest (decide ((m : Int) < 0)) (m : Int).natAbs 0 = _
    rw [e1, Int.natAbs_natCast, ← this]
    rw [Nat.pow_zero, Nat.mul_one]
    rfl
theorem LdexpB_ev (m : Nat) (h : m < 9007199254740992) (x : Int) (hx : -1074 ≤ x) (hx2 : x ≤ 1074) (h0 : m = 0 → x = 0) : Ev Tryd.prog γ 89 [.v (.float .f64 (realB m 0)), .v (.int .i64 x)] (.v (.float .f64 (realB m x))) := by
  unfold realB
  by_cases hm : m = 0
  · rw [if_pos hm, if_pos hm, h0 hm]; exact Ldexp0_ev
  · rw [if_neg hm, if_neg hm]; exact Ldexp_ev m (by omega) h x hx hx2
theorem isInfB_ev (m : Nat) (h : m < 9007199254740992) (x : Int) (hx : -1074 ≤ x) : Ev Tryd.prog γ 100 [.v (.float .f64 (realB m x)), .v (.int .i64 0)] (.v (.bool (!finB m x))) := by
  unfold realB finB
  by_cases hm : m = 0
  · rw [if_pos hm]
    have := isInf_ev (γ := γ) 0 (by omega)
    have e : (FloatKind.f64.format.order 0 9218868437227405311 == some .gt) = !decide (m = 0 ∨ x + m.log2 ≤ 1023) := by
      rw [decide_eq_true (.inl hm)]; rfl
    rwa [e] at this
  · rw [if_neg hm]
    have hl := dblN_le m x
    have := isInf_ev (γ := γ) (dblN m x) (by omega)
    have e : (FloatKind.f64.format.order (dblN m x) 9218868437227405311 == some .gt) = !decide (m = 0 ∨ x + m.log2 ≤ 1023) := by
      have := ord_max (e := x) (by omega) h hx
      rw [show FloatKind.f64.format = Ieee.double from rfl, this, ← decide_not]
      congr 1
      simp only [eq_iff_iff]; omega
    rwa [e] at this
theorem realO_iff {sg : Nat} {a b : List UInt8} {f : Nat} : realO sg a b f = true ↔ decO a 9007199254740991 = true ∧ decO b (1023 + 51 * sg) = true ∧ (decV a % 2 = 1 ∨ decV a = 0 ∧ decV b = 0) ∧ ¬ (sg = 1 ∧ decV b = 0) ∧ nameN f = false ∧ finB (decV a) (expOf sg (decV b)) = true := by
  unfold realO
  simp only [Bool.and_eq_true, Bool.or_eq_true, Bool.not_eq_true', decide_eq_true_eq, Bool.and_eq_false_iff, decide_eq_false_iff_not]
  constructor
  · rintro ⟨⟨⟨⟨⟨a1, a2⟩, a3⟩, a4⟩, a5⟩, a6⟩
    exact ⟨a1, a2, a3, by omega, a5, a6⟩
  · rintro ⟨a1, a2, a3, a4, a5, a6⟩
    exact ⟨⟨⟨⟨⟨a1, a2⟩, a3⟩, by omega⟩, a5⟩, a6⟩
set_option maxHeartbeats 4000000 in
set_option maxRecDepth 20000 in
theorem lexReal_ev (hγ : Gl γ) (b : Bool) (l : List UInt8) (p sg : Nat) (hp : p = digitsEnd l 0) (hp1 : 1 ≤ p) (hsg : sg = 0 ∨ sg = 1) (hd : digitN (atL l (p + 1 + sg)) = true) (hl : l.length ≤ 140737488351232) :
    Ev Tryd.prog γ 72 [.sl b l.length l.length (l.map byteC), .v (.int .i64 p), .v (.int .i64 sg)] (realA l p sg) := by
  refine Ev.of Tryd.func72 rfl ?_
  have hlt := digitsEnd_lt hd
  have hpl := (digitsEnd_step hd).2
  have hle := digitsEnd_le (l := l) (i := p + 1 + sg) (by omega)
  have w1 : IntKind.i64.wrap ((p : Int) + 1) = ((p + 1 : Nat) : Int) := i64w (by omega) (by omega)
  have w2 : IntKind.i64.wrap (((p + 1 : Nat) : Int) + (sg : Int)) = ((p + 1 + sg : Nat) : Int) := i64w (by omega) (by omega)
  have w3 : IntKind.i64.wrap (51 * (sg : Int)) = 51 * (sg : Int) := i64w (by omega) (by omega)
  have w4 : IntKind.i64.wrap (1023 + 51 * (sg : Int)) = 1023 + 51 * (sg : Int) := i64w (by omega) (by omega)
  have ha := decimalAt_ev hγ b l 0 9007199254740991 (by omega) (by omega) hl
  rw [List.drop_zero, Nat.sub_zero, Nat.sub_zero, ← hp] at ha
  have hb := decimalAt_ev hγ b l (p + 1 + sg) (1023 + 51 * sg) hlt (by omega) hl
  have hR : realA l p sg = if realO sg (numL l 0) (numL l (p + 1 + sg)) (atL l (digitsEnd l (p + 1 + sg))) = true then
    okTok (tokA 3 [] 0 (.v (.float .f64 (realB (decV (numL l 0)) (expOf sg (decV (numL l (p + 1 + sg))))))) 0 (digitsEnd l (p + 1 + sg)))
    else errTok 12 := rfl
  generalize realA l p sg = R at hR ⊢
  have hLd := fun (m : Nat) (h : m < 9007199254740992) (x : Int) hx hx2 h0 => LdexpB_ev (γ := γ) m h x hx hx2 h0
  have hat := lexAt_ev (γ := γ) b l (digitsEnd l (p + 1 + sg))
  have hnE : digitsEnd l (p + 1 + sg) ≤ 140737488351232 := by omega
  generalize hA : numL l 0 = a at *
  generalize hB : numL l (p + 1 + sg) = c at *
  generalize atL l (digitsEnd l (p + 1 + sg)) = f at *
  have hdg := lexDigits_ev (γ := γ) b l (p + 1 + sg) (by omega) (by omega)
  have hge := digitsEnd_ge l (p + 1 + sg)
  generalize digitsEnd l (p + 1 + sg) = n at *
  clear hd hA hB
  simp only [Tryd.f72, w1, w2, w3, w4, evS, tyS, Bool.not_true, Bool.not_false, Nat.reduceAdd, Nat.reduceSub, Nat.reduceMul, Nat.reduceLT, Nat.reduceLeDiff, Nat.reduceEqDiff, reduceCtorEq, List.reduceReplicate, Int.reduceToNat, Int.reduceLE, Int.reduceLT]
  refine CallK.intro b70 (by simp [treeL, treeA]) hdg ?_
  simp only [w1, w2, w3, w4, evS, tyS, Bool.not_true, Bool.not_false, Nat.reduceAdd, Nat.reduceSub, Nat.reduceMul, Nat.reduceLT, Nat.reduceLeDiff, Nat.reduceEqDiff, reduceCtorEq, List.reduceReplicate, Int.reduceToNat, Int.reduceLE, Int.reduceLT]
  (repeat' (first | (with_reducible refine And.intro ?_ ?_) | ((first | refine GuardK.intro_f (fun h => ?_) (fun h => ?_) | refine GuardK.intro_t (fun h => ?_) (fun h => ?_) | refine CondK.intro (fun h => ?_) (fun h => ?_) | refine PickK.intro (fun h => ?_) (fun h => ?_)) <;> simp only [h, w1, w2, w3, w4, evS, tyS, Bool.not_true, Bool.not_false, Nat.reduceAdd, Nat.reduceSub, Nat.reduceMul, Nat.reduceLT, Nat.reduceLeDiff, Nat.reduceEqDiff, reduceCtorEq, List.reduceReplicate, Int.reduceToNat, Int.reduceLE, Int.reduceLT]) | (refine DrawK.intro (by kernel_rfl) (by kernel_rfl) ?_; simp only [w1, w2, w3, w4, evS, tyS, Bool.not_true, Bool.not_false, Nat.reduceAdd, Nat.reduceSub, Nat.reduceMul, Nat.reduceLT, Nat.reduceLeDiff, Nat.reduceEqDiff, reduceCtorEq, List.reduceReplicate, Int.reduceToNat, Int.reduceLE, Int.reduceLT])))
  all_goals try (((try simp only [decide_eq_true_eq, decide_eq_false_iff_not, beq_iff_eq, bne_iff_ne, ne_eq, beq_eq_false_iff_ne, bne_eq_false_iff_eq] at *) <;> (try omega)); done)
  refine CallK.intro b73 (by simp [treeL, treeA]) ha ?_
  simp only [w1, w2, w3, w4, evS, tyS, Bool.not_true, Bool.not_false, Nat.reduceAdd, Nat.reduceSub, Nat.reduceMul, Nat.reduceLT, Nat.reduceLeDiff, Nat.reduceEqDiff, reduceCtorEq, List.reduceReplicate, Int.reduceToNat, Int.reduceLE, Int.reduceLT]
  (repeat' (first | (with_reducible refine And.intro ?_ ?_) | ((first | refine GuardK.intro_f (fun h => ?_) (fun h => ?_) | refine GuardK.intro_t (fun h => ?_) (fun h => ?_) | refine CondK.intro (fun h => ?_) (fun h => ?_) | refine PickK.intro (fun h => ?_) (fun h => ?_)) <;> simp only [h, w1, w2, w3, w4, evS, tyS, Bool.not_true, Bool.not_false, Nat.reduceAdd, Nat.reduceSub, Nat.reduceMul, Nat.reduceLT, Nat.reduceLeDiff, Nat.reduceEqDiff, reduceCtorEq, List.reduceReplicate, Int.reduceToNat, Int.reduceLE, Int.reduceLT]) | (refine DrawK.intro (by kernel_rfl) (by kernel_rfl) ?_; simp only [w1, w2, w3, w4, evS, tyS, Bool.not_true, Bool.not_false, Nat.reduceAdd, Nat.reduceSub, Nat.reduceMul, Nat.reduceLT, Nat.reduceLeDiff, Nat.reduceEqDiff, reduceCtorEq, List.reduceReplicate, Int.reduceToNat, Int.reduceLE, Int.reduceLT])))
  all_goals try (((try simp only [decide_eq_true_eq, decide_eq_false_iff_not, beq_iff_eq, bne_iff_ne, ne_eq, beq_eq_false_iff_ne, bne_eq_false_iff_eq] at *) <;> (try omega)); done)
  refine CallK.intro b73 (by simp [treeL, treeA]) hb ?_
  clear ha hb hdg
  by_cases hOa : decO a 9007199254740991 = true
  · by_cases hOb : decO c (1023 + 51 * sg) = true
    · obtain ⟨ea, eb⟩ := decO_iff hOa
      obtain ⟨ec, ed⟩ := decO_iff hOb
      rw [ea, ec, hOa, hOb]
      simp only [realO_iff, hOa, hOb, true_and] at hR
      have etm : ∀ n : Nat, ((n : Int).tmod 2 == 1) = decide (n % 2 = 1) := fun n => by
        rw [Int.tmod_eq_emod_of_nonneg (by omega)]
        by_cases h : n % 2 = 1
        · rw [decide_eq_true h]; simp; omega
        · rw [decide_eq_false h]; simp; omega
      have ez : ∀ n : Nat, ((n : Int) == 0) = decide (n = 0) := fun n => by
        by_cases h : n = 0
        · simp [h]
        · rw [decide_eq_false h]; simp [h]
      have e1 : ∀ n : Nat, ((n : Int) == 1) = decide (n = 1) := fun n => by
        by_cases h : n = 1
        · simp [h]
        · rw [decide_eq_false h]; simp; omega
      generalize decV a = A at *
      generalize decV c = B at *
      have nq : FloatKind.f64.nearest (A : Int) = realB A 0 := near_eq A (by omega)
      have wn : IntKind.i64.wrap (0 - (B : Int)) = -(B : Int) := (i64w (by omega) (by omega)).trans (by omega)
      have x1 : sg = 1 → expOf sg B = -(B : Int) := fun h => by rw [expOf, if_pos h]
      have x0 : sg ≠ 1 → expOf sg B = (B : Int) := fun h => by rw [expOf, if_neg h]
      simp only [etm, ez, e1, evS, tyS, Bool.not_true, Bool.not_false, Nat.reduceAdd, Nat.reduceSub, Nat.reduceMul, Nat.reduceLT, Nat.reduceLeDiff, Nat.reduceEqDiff, reduceCtorEq, List.reduceReplicate, Int.reduceToNat, Int.reduceLE, Int.reduceLT]
      (repeat' (first | (with_reducible refine And.intro ?_ ?_) | ((first | refine GuardK.intro_f (fun h => ?_) (fun h => ?_) | refine GuardK.intro_t (fun h => ?_) (fun h => ?_) | refine CondK.intro (fun h => ?_) (fun h => ?_) | refine PickK.intro (fun h => ?_) (fun h => ?_)) <;> simp only [h, etm, ez, e1, evS, tyS, Bool.not_true, Bool.not_false, Nat.reduceAdd, Nat.reduceSub, Nat.reduceMul, Nat.reduceLT, Nat.reduceLeDiff, Nat.reduceEqDiff, reduceCtorEq, List.reduceReplicate, Int.reduceToNat, Int.reduceLE, Int.reduceLT]) | (refine DrawK.intro (by kernel_rfl) (by kernel_rfl) ?_; simp only [etm, ez, e1, evS, tyS, Bool.not_true, Bool.not_false, Nat.reduceAdd, Nat.reduceSub, Nat.reduceMul, Nat.reduceLT, Nat.reduceLeDiff, Nat.reduceEqDiff, reduceCtorEq, List.reduceReplicate, Int.reduceToNat, Int.reduceLE, Int.reduceLT])))
      all_goals try (((try simp only [decide_eq_true_eq, decide_eq_false_iff_not, beq_iff_eq, bne_iff_ne, ne_eq, beq_eq_false_iff_ne, bne_eq_false_iff_eq] at *) <;> (try omega)); done)
      all_goals (try simp only [Bool.not_eq_true', Bool.not_eq_false', Bool.not_true, Bool.not_false, decide_eq_true_eq, decide_eq_false_iff_not] at *)
      all_goals try (rw [hR, if_neg (by rintro ⟨q1, q2, q3, q4⟩; omega)]; simp only [errTok, tokA, f0, evS, tyS, Bool.not_true, Bool.not_false, Nat.reduceAdd, Nat.reduceSub, Nat.reduceMul, Nat.reduceLT, Nat.reduceLeDiff, Nat.reduceEqDiff, reduceCtorEq, List.reduceReplicate, Int.reduceToNat, Int.reduceLE, Int.reduceLT]; done)
      all_goals
        (refine CallK.intro b71 (by simp [treeL, treeA]) hat ?_
         simp only [etm, ez, e1, evS, tyS, Bool.not_true, Bool.not_false, Nat.reduceAdd, Nat.reduceSub, Nat.reduceMul, Nat.reduceLT, Nat.reduceLeDiff, Nat.reduceEqDiff, reduceCtorEq, List.reduceReplicate, Int.reduceToNat, Int.reduceLE, Int.reduceLT]
         refine CallK.intro b69 rfl (lexInName_ev f) ?_
         simp only [etm, ez, e1, evS, tyS, Bool.not_true, Bool.not_false, Nat.reduceAdd, Nat.reduceSub, Nat.reduceMul, Nat.reduceLT, Nat.reduceLeDiff, Nat.reduceEqDiff, reduceCtorEq, List.reduceReplicate, Int.reduceToNat, Int.reduceLE, Int.reduceLT]
         refine CondK.intro (fun hn => ?_) (fun hn => ?_) <;> simp only [hn, etm, ez, e1, wn, nq, evS, tyS, Bool.not_true, Bool.not_false, Nat.reduceAdd, Nat.reduceSub, Nat.reduceMul, Nat.reduceLT, Nat.reduceLeDiff, Nat.reduceEqDiff, reduceCtorEq, List.reduceReplicate, Int.reduceToNat, Int.reduceLE, Int.reduceLT])
      all_goals try (rw [hR, if_neg (by rintro ⟨q1, q2, q3, q4⟩; rw [hn] at q3; cases q3)]; simp only [errTok, tokA, f0, evS, tyS, Bool.not_true, Bool.not_false, Nat.reduceAdd, Nat.reduceSub, Nat.reduceMul, Nat.reduceLT, Nat.reduceLeDiff, Nat.reduceEqDiff, reduceCtorEq, List.reduceReplicate, Int.reduceToNat, Int.reduceLE, Int.reduceLT]; done)
      all_goals (refine CondK.intro (fun h9 => ?_) (fun h9 => ?_) <;> simp only [h9, etm, ez, e1, wn, nq, evS, tyS, Bool.not_true, Bool.not_false, Nat.reduceAdd, Nat.reduceSub, Nat.reduceMul, Nat.reduceLT, Nat.reduceLeDiff, Nat.reduceEqDiff, reduceCtorEq, List.reduceReplicate, Int.reduceToNat, Int.reduceLE, Int.reduceLT])
      all_goals (try simp only [Bool.not_eq_true', Bool.not_eq_false', Bool.not_true, Bool.not_false, decide_eq_true_eq, decide_eq_false_iff_not] at *)
      all_goals try omega
      · refine CallK.intro b89 rfl (hLd A (by omega) (B : Int) (by omega) (by omega) (by omega)) ?_
        simp only [evS, tyS, Bool.not_true, Bool.not_false, Nat.reduceAdd, Nat.reduceSub, Nat.reduceMul, Nat.reduceLT, Nat.reduceLeDiff, Nat.reduceEqDiff, reduceCtorEq, List.reduceReplicate, Int.reduceToNat, Int.reduceLE, Int.reduceLT]
        refine CallK.intro b100 rfl (isInfB_ev A (by omega) _ (by omega)) ?_
        rw [x0 (by omega)] at hR
        simp only [evS, tyS, Bool.not_true, Bool.not_false, Nat.reduceAdd, Nat.reduceSub, Nat.reduceMul, Nat.reduceLT, Nat.reduceLeDiff, Nat.reduceEqDiff, reduceCtorEq, List.reduceReplicate, Int.reduceToNat, Int.reduceLE, Int.reduceLT]
        cases hf : finB A (B : Int) with
        | false => rw [hR, if_neg (by rintro ⟨q1, q2, q3, q4⟩; rw [hf] at q4; cases q4)]; simp only [errTok, tokA, f0, hf, evS, tyS, Bool.not_true, Bool.not_false, Nat.reduceAdd, Nat.reduceSub, Nat.reduceMul, Nat.reduceLT, Nat.reduceLeDiff, Nat.reduceEqDiff, reduceCtorEq, List.reduceReplicate, Int.reduceToNat, Int.reduceLE, Int.reduceLT]
        | true => rw [hR, if_pos ⟨by omega, by omega, hn, hf⟩]; simp only [okTok, tokA, f0, hf, evS, tyS, Bool.not_true, Bool.not_false, Nat.reduceAdd, Nat.reduceSub, Nat.reduceMul, Nat.reduceLT, Nat.reduceLeDiff, Nat.reduceEqDiff, reduceCtorEq, List.reduceReplicate, Int.reduceToNat, Int.reduceLE, Int.reduceLT]
      · refine CallK.intro b89 rfl (hLd A (by omega) (-(B : Int)) (by omega) (by omega) (by omega)) ?_
        simp only [evS, tyS, Bool.not_true, Bool.not_false, Nat.reduceAdd, Nat.reduceSub, Nat.reduceMul, Nat.reduceLT, Nat.reduceLeDiff, Nat.reduceEqDiff, reduceCtorEq, List.reduceReplicate, Int.reduceToNat, Int.reduceLE, Int.reduceLT]
        refine CallK.intro b100 rfl (isInfB_ev A (by omega) _ (by omega)) ?_
        rw [x1 (by omega)] at hR
        simp only [evS, tyS, Bool.not_true, Bool.not_false, Nat.reduceAdd, Nat.reduceSub, Nat.reduceMul, Nat.reduceLT, Nat.reduceLeDiff, Nat.reduceEqDiff, reduceCtorEq, List.reduceReplicate, Int.reduceToNat, Int.reduceLE, Int.reduceLT]
        cases hf : finB A (-(B : Int)) with
        | false => rw [hR, if_neg (by rintro ⟨q1, q2, q3, q4⟩; rw [hf] at q4; cases q4)]; simp only [errTok, tokA, f0, hf, evS, tyS, Bool.not_true, Bool.not_false, Nat.reduceAdd, Nat.reduceSub, Nat.reduceMul, Nat.reduceLT, Nat.reduceLeDiff, Nat.reduceEqDiff, reduceCtorEq, List.reduceReplicate, Int.reduceToNat, Int.reduceLE, Int.reduceLT]
        | true => rw [hR, if_pos ⟨by omega, by omega, hn, hf⟩]; simp only [okTok, tokA, f0, hf, evS, tyS, Bool.not_true, Bool.not_false, Nat.reduceAdd, Nat.reduceSub, Nat.reduceMul, Nat.reduceLT, Nat.reduceLeDiff, Nat.reduceEqDiff, reduceCtorEq, List.reduceReplicate, Int.reduceToNat, Int.reduceLE, Int.reduceLT]
      · refine CallK.intro b89 rfl (hLd A (by omega) (B : Int) (by omega) (by omega) (by omega)) ?_
        simp only [evS, tyS, Bool.not_true, Bool.not_false, Nat.reduceAdd, Nat.reduceSub, Nat.reduceMul, Nat.reduceLT, Nat.reduceLeDiff, Nat.reduceEqDiff, reduceCtorEq, List.reduceReplicate, Int.reduceToNat, Int.reduceLE, Int.reduceLT]
        refine CallK.intro b100 rfl (isInfB_ev A (by omega) _ (by omega)) ?_
        rw [x0 (by omega)] at hR
        simp only [evS, tyS, Bool.not_true, Bool.not_false, Nat.reduceAdd, Nat.reduceSub, Nat.reduceMul, Nat.reduceLT, Nat.reduceLeDiff, Nat.reduceEqDiff, reduceCtorEq, List.reduceReplicate, Int.reduceToNat, Int.reduceLE, Int.reduceLT]
        cases hf : finB A (B : Int) with
        | false => rw [hR, if_neg (by rintro ⟨q1, q2, q3, q4⟩; rw [hf] at q4; cases q4)]; simp only [errTok, tokA, f0, hf, evS, tyS, Bool.not_true, Bool.not_false, Nat.reduceAdd, Nat.reduceSub, Nat.reduceMul, Nat.reduceLT, Nat.reduceLeDiff, Nat.reduceEqDiff, reduceCtorEq, List.reduceReplicate, Int.reduceToNat, Int.reduceLE, Int.reduceLT]
        | true => rw [hR, if_pos ⟨by omega, by omega, hn, hf⟩]; simp only [okTok, tokA, f0, hf, evS, tyS, Bool.not_true, Bool.not_false, Nat.reduceAdd, Nat.reduceSub, Nat.reduceMul, Nat.reduceLT, Nat.reduceLeDiff, Nat.reduceEqDiff, reduceCtorEq, List.reduceReplicate, Int.reduceToNat, Int.reduceLE, Int.reduceLT]
    · have hb' : decO c (1023 + 51 * sg) = false := by simpa using hOb
      rw [hR, if_neg (by rw [realO_iff]; rintro ⟨q1, q2, _⟩; exact hOb q2), hOa, hb']
      simp only [evS, tyS, Bool.not_true, Bool.not_false, Nat.reduceAdd, Nat.reduceSub, Nat.reduceMul, Nat.reduceLT, Nat.reduceLeDiff, Nat.reduceEqDiff, reduceCtorEq, List.reduceReplicate, Int.reduceToNat, Int.reduceLE, Int.reduceLT]
      (repeat' (first | (with_reducible refine And.intro ?_ ?_) | ((first | refine GuardK.intro_f (fun h => ?_) (fun h => ?_) | refine GuardK.intro_t (fun h => ?_) (fun h => ?_) | refine CondK.intro (fun h => ?_) (fun h => ?_) | refine PickK.intro (fun h => ?_) (fun h => ?_)) <;> simp only [h, evS, tyS, Bool.not_true, Bool.not_false, Nat.reduceAdd, Nat.reduceSub, Nat.reduceMul, Nat.reduceLT, Nat.reduceLeDiff, Nat.reduceEqDiff, reduceCtorEq, List.reduceReplicate, Int.reduceToNat, Int.reduceLE, Int.reduceLT]) | (refine DrawK.intro (by kernel_rfl) (by kernel_rfl) ?_; simp only [evS, tyS, Bool.not_true, Bool.not_false, Nat.reduceAdd, Nat.reduceSub, Nat.reduceMul, Nat.reduceLT, Nat.reduceLeDiff, Nat.reduceEqDiff, reduceCtorEq, List.reduceReplicate, Int.reduceToNat, Int.reduceLE, Int.reduceLT])))
      all_goals try (((try simp only [decide_eq_true_eq, decide_eq_false_iff_not, beq_iff_eq, bne_iff_ne, ne_eq, beq_eq_false_iff_ne, bne_eq_false_iff_eq] at *) <;> (try omega)); done)
      all_goals (simp only [errTok, tokA, f0, evS, tyS, Bool.not_true, Bool.not_false, Nat.reduceAdd, Nat.reduceSub, Nat.reduceMul, Nat.reduceLT, Nat.reduceLeDiff, Nat.reduceEqDiff, reduceCtorEq, List.reduceReplicate, Int.reduceToNat, Int.reduceLE, Int.reduceLT]; done)
  · have ha' : decO a 9007199254740991 = false := by simpa using hOa
    rw [hR, if_neg (by rw [realO_iff]; rintro ⟨q1, _⟩; exact hOa q1), ha']
    simp only [evS, tyS, Bool.not_true, Bool.not_false, Nat.reduceAdd, Nat.reduceSub, Nat.reduceMul, Nat.reduceLT, Nat.reduceLeDiff, Nat.reduceEqDiff, reduceCtorEq, List.reduceReplicate, Int.reduceToNat, Int.reduceLE, Int.reduceLT]
    (repeat' (first | (with_reducible refine And.intro ?_ ?_) | ((first | refine GuardK.intro_f (fun h => ?_) (fun h => ?_) | refine GuardK.intro_t (fun h => ?_) (fun h => ?_) | refine CondK.intro (fun h => ?_) (fun h => ?_) | refine PickK.intro (fun h => ?_) (fun h => ?_)) <;> simp only [h, evS, tyS, Bool.not_true, Bool.not_false, Nat.reduceAdd, Nat.reduceSub, Nat.reduceMul, Nat.reduceLT, Nat.reduceLeDiff, Nat.reduceEqDiff, reduceCtorEq, List.reduceReplicate, Int.reduceToNat, Int.reduceLE, Int.reduceLT]) | (refine DrawK.intro (by kernel_rfl) (by kernel_rfl) ?_; simp only [evS, tyS, Bool.not_true, Bool.not_false, Nat.reduceAdd, Nat.reduceSub, Nat.reduceMul, Nat.reduceLT, Nat.reduceLeDiff, Nat.reduceEqDiff, reduceCtorEq, List.reduceReplicate, Int.reduceToNat, Int.reduceLE, Int.reduceLT])))
    all_goals try (((try simp only [decide_eq_true_eq, decide_eq_false_iff_not, beq_iff_eq, bne_iff_ne, ne_eq, beq_eq_false_iff_ne, bne_eq_false_iff_eq] at *) <;> (try omega)); done)
    all_goals (simp only [errTok, tokA, f0, evS, tyS, Bool.not_true, Bool.not_false, Nat.reduceAdd, Nat.reduceSub, Nat.reduceMul, Nat.reduceLT, Nat.reduceLeDiff, Nat.reduceEqDiff, reduceCtorEq, List.reduceReplicate, Int.reduceToNat, Int.reduceLE, Int.reduceLT]; done)
end Go.Proofs.YtplnhipgifcafaaDoor
namespace Go.Proofs.YtplnhipgifcafaaDoor
set_option linter.all false
open Go Go.Ev
variable {γ : List (Nat × AV)}
theorem b48' : bodyT Tryd.prog 48 := ⟨_, Tryd.func48, by kernel_rfl, by kernel_rfl⟩
def sgOf (l : List UInt8) : Nat := if atL l (digitsEnd l 0) = 112 ∧ atL l (digitsEnd l 0 + 1) = 45 then 1 else 0
def numberA (l : List UInt8) : AV :=
  if atL l (digitsEnd l 0) = 112 ∧ digitN (atL l (digitsEnd l 0 + 1 + sgOf l)) = true then realA l (digitsEnd l 0) (sgOf l)
  else if decO (numL l 0) 9223372036854775807 = true ∧ nameN (atL l (digitsEnd l 0)) = false then okTok (tokA 2 [] (decV (numL l 0)) f0 0 (digitsEnd l 0)) else errTok 12
theorem realA_shape (l : List UInt8) (p sg : Nat) : ∃ k t i r z e, realA l p sg = .tup [.agg [.v (.int .i64 k), .v (.string t), .v (.int .i64 i), .v (.float .f64 r), .v (.int .i64 0), .v (.int .i64 z)], .v (.int .i64 e)] := by
  unfold realA
  split
  · exact ⟨_, _, _, _, _, _, rfl⟩
  · exact ⟨_, _, _, _, _, _, rfl⟩
set_option maxHeartbeats 2000000 in
set_option maxRecDepth 20000 in
theorem lexNumber_ev (hγ : Gl γ) (b : Bool) (l : List UInt8) (hd : digitN (atL l 0) = true) (hl : l.length ≤ 140737488351232) :
    Ev Tryd.prog γ 48 [.sl b l.length l.length (l.map byteC)] (numberA l) := by
  refine Ev.of Tryd.func48 rfl ?_
  have hlt := digitsEnd_lt hd
  have hle := digitsEnd_le (l := l) (i := 0) (by omega)
  have hdg := lexDigits_ev (γ := γ) b l 0 (by omega) (by omega)
  have ha := decimalAt_ev hγ b l 0 9223372036854775807 (by omega) (by omega) (by omega)
  rw [List.drop_zero, Nat.sub_zero, Nat.sub_zero] at ha
  have hreal := fun sg hsg hd' => lexReal_ev hγ b l (digitsEnd l 0) sg rfl (by omega) hsg hd' (by omega)
  have hN : numberA l = if atL l (digitsEnd l 0) = 112 ∧ digitN (atL l (digitsEnd l 0 + 1 + sgOf l)) = true then realA l (digitsEnd l 0) (sgOf l)
    else if decO (numL l 0) 9223372036854775807 = true ∧ nameN (atL l (digitsEnd l 0)) = false then okTok (tokA 2 [] (decV (numL l 0)) f0 0 (digitsEnd l 0)) else errTok 12 := rfl
  have hS : sgOf l = if atL l (digitsEnd l 0) = 112 ∧ atL l (digitsEnd l 0 + 1) = 45 then 1 else 0 := rfl
  generalize numberA l = R at hN ⊢
  generalize sgOf l = sg at *
  have hdm := fun h => (decO_iff (l := numL l 0) (most := 9223372036854775807) h).1
  generalize numL l 0 = a at *
  generalize digitsEnd l 0 = n at *
  have w1 : IntKind.i64.wrap ((n : Int) + 1) = ((n + 1 : Nat) : Int) := i64w (by omega) (by omega)
  have w2 : IntKind.i64.wrap (((n + 1 : Nat) : Int) + 1) = ((n + 1 + 1 : Nat) : Int) := i64w (by omega) (by omega)
  have w3 : IntKind.i64.wrap (((n + 1 : Nat) : Int) + 0) = ((n + 1 + 0 : Nat) : Int) := i64w (by omega) (by omega)
  have e112 : ∀ k : Nat, ((k : Int) == 112) = decide (k = 112) := fun k => by
    by_cases h : k = 112
    · simp [h]
    · rw [decide_eq_false h]; simp; omega
  have e45 : ∀ k : Nat, ((k : Int) == 45) = decide (k = 45) := fun k => by
    by_cases h : k = 45
    · simp [h]
    · rw [decide_eq_false h]; simp; omega
  simp only [Tryd.f48, evS, tyS, Bool.not_true, Bool.not_false, Nat.reduceAdd, Nat.reduceSub, Nat.reduceMul, Nat.reduceLT, Nat.reduceLeDiff, Nat.reduceEqDiff, reduceCtorEq, List.reduceReplicate, Int.reduceToNat, Int.reduceLE, Int.reduceLT]
  refine CallK.intro b70 (by simp [treeL, treeA]) hdg ?_
  simp only [evS, tyS, Bool.not_true, Bool.not_false, Nat.reduceAdd, Nat.reduceSub, Nat.reduceMul, Nat.reduceLT, Nat.reduceLeDiff, Nat.reduceEqDiff, reduceCtorEq, List.reduceReplicate, Int.reduceToNat, Int.reduceLE, Int.reduceLT]
  refine CallK.intro b71 (by simp [treeL, treeA]) (lexAt_ev b l n) ?_
  by_cases hp : atL l n = 112
  · have dp : decide (atL l n = 112) = true := decide_eq_true hp
    simp only [e112, e45, w1, w2, w3, dp, evS, tyS, Bool.not_true, Bool.not_false, Nat.reduceAdd, Nat.reduceSub, Nat.reduceMul, Nat.reduceLT, Nat.reduceLeDiff, Nat.reduceEqDiff, reduceCtorEq, List.reduceReplicate, Int.reduceToNat, Int.reduceLE, Int.reduceLT]
    refine CallK.intro b71 (by simp [treeL, treeA]) (lexAt_ev b l (n + 1)) ?_
    by_cases hm : atL l (n + 1) = 45
    · have dm : decide (atL l (n + 1) = 45) = true := decide_eq_true hm
      rw [if_pos ⟨hp, hm⟩] at hS
      subst hS
      simp only [e112, e45, w1, w2, w3, dp, dm, evS, tyS, Bool.not_true, Bool.not_false, Nat.reduceAdd, Nat.reduceSub, Nat.reduceMul, Nat.reduceLT, Nat.reduceLeDiff, Nat.reduceEqDiff, reduceCtorEq, List.reduceReplicate, Int.reduceToNat, Int.reduceLE, Int.reduceLT]
      refine CallK.intro b71 (by simp [treeL, treeA]) (lexAt_ev b l n) ?_
      simp only [e112, e45, w1, w2, w3, dp, evS, tyS, Bool.not_true, Bool.not_false, Nat.reduceAdd, Nat.reduceSub, Nat.reduceMul, Nat.reduceLT, Nat.reduceLeDiff, Nat.reduceEqDiff, reduceCtorEq, List.reduceReplicate, Int.reduceToNat, Int.reduceLE, Int.reduceLT]
      refine CallK.intro b71 (by simp [treeL, treeA]) (lexAt_ev b l (n + 1 + 1)) ?_
      simp only [evS, tyS, Bool.not_true, Bool.not_false, Nat.reduceAdd, Nat.reduceSub, Nat.reduceMul, Nat.reduceLT, Nat.reduceLeDiff, Nat.reduceEqDiff, reduceCtorEq, List.reduceReplicate, Int.reduceToNat, Int.reduceLE, Int.reduceLT]
      refine CallK.intro b47 rfl (lexDigit_ev _) ?_
      simp only [evS, tyS, Bool.not_true, Bool.not_false, Nat.reduceAdd, Nat.reduceSub, Nat.reduceMul, Nat.reduceLT, Nat.reduceLeDiff, Nat.reduceEqDiff, reduceCtorEq, List.reduceReplicate, Int.reduceToNat, Int.reduceLE, Int.reduceLT]
      refine CondK.intro (fun hdg2 => ?_) (fun hdg2 => ?_) <;> simp only [hdg2, evS, tyS, Bool.not_true, Bool.not_false, Nat.reduceAdd, Nat.reduceSub, Nat.reduceMul, Nat.reduceLT, Nat.reduceLeDiff, Nat.reduceEqDiff, reduceCtorEq, List.reduceReplicate, Int.reduceToNat, Int.reduceLE, Int.reduceLT]
      · rw [if_pos ⟨hp, hdg2⟩] at hN
        obtain ⟨k1, k2, k3, k4, k5, k6, hsh⟩ := realA_shape l n 1
        have hr := hreal 1 (by omega) hdg2
        rw [hsh] at hr hN
        refine CallK.intro b72 (by simp [treeL, treeA]) hr ?_
        rw [hN]
        simp only [evS, tyS, Bool.not_true, Bool.not_false, Nat.reduceAdd, Nat.reduceSub, Nat.reduceMul, Nat.reduceLT, Nat.reduceLeDiff, Nat.reduceEqDiff, reduceCtorEq, List.reduceReplicate, Int.reduceToNat, Int.reduceLE, Int.reduceLT]
      · rw [if_neg (by rintro ⟨_, q1⟩; rw [hdg2] at q1; cases q1)] at hN
        (repeat' (first | (with_reducible refine And.intro ?_ ?_) | ((first | refine GuardK.intro_f (fun h => ?_) (fun h => ?_) | refine GuardK.intro_t (fun h => ?_) (fun h => ?_) | refine CondK.intro (fun h => ?_) (fun h => ?_) | refine PickK.intro (fun h => ?_) (fun h => ?_)) <;> simp only [h, evS, tyS, Bool.not_true, Bool.not_false, Nat.reduceAdd, Nat.reduceSub, Nat.reduceMul, Nat.reduceLT, Nat.reduceLeDiff, Nat.reduceEqDiff, reduceCtorEq, List.reduceReplicate, Int.reduceToNat, Int.reduceLE, Int.reduceLT]) | (refine DrawK.intro (by kernel_rfl) (by kernel_rfl) ?_; simp only [evS, tyS, Bool.not_true, Bool.not_false, Nat.reduceAdd, Nat.reduceSub, Nat.reduceMul, Nat.reduceLT, Nat.reduceLeDiff, Nat.reduceEqDiff, reduceCtorEq, List.reduceReplicate, Int.reduceToNat, Int.reduceLE, Int.reduceLT])))
        all_goals try (((try simp only [decide_eq_true_eq, decide_eq_false_iff_not, beq_iff_eq, bne_iff_ne, ne_eq, beq_eq_false_iff_ne, bne_eq_false_iff_eq] at *) <;> (try omega)); done)
        refine CallK.intro b73 (by simp [treeL, treeA]) ha ?_
        cases hO : decO a 9223372036854775807 with
        | false =>
          rw [if_neg (by rintro ⟨q1, _⟩; rw [hO] at q1; cases q1)] at hN
          rw [hN]
          simp only [errTok, tokA, f0, evS, tyS, Bool.not_true, Bool.not_false, Nat.reduceAdd, Nat.reduceSub, Nat.reduceMul, Nat.reduceLT, Nat.reduceLeDiff, Nat.reduceEqDiff, reduceCtorEq, List.reduceReplicate, Int.reduceToNat, Int.reduceLE, Int.reduceLT]
        | true =>
          simp only [evS, tyS, Bool.not_true, Bool.not_false, Nat.reduceAdd, Nat.reduceSub, Nat.reduceMul, Nat.reduceLT, Nat.reduceLeDiff, Nat.reduceEqDiff, reduceCtorEq, List.reduceReplicate, Int.reduceToNat, Int.reduceLE, Int.reduceLT]
          refine CallK.intro b71 (by simp [treeL, treeA]) (lexAt_ev b l n) ?_
          simp only [evS, tyS, Bool.not_true, Bool.not_false, Nat.reduceAdd, Nat.reduceSub, Nat.reduceMul, Nat.reduceLT, Nat.reduceLeDiff, Nat.reduceEqDiff, reduceCtorEq, List.reduceReplicate, Int.reduceToNat, Int.reduceLE, Int.reduceLT]
          refine CallK.intro b69 rfl (lexInName_ev _) ?_
          simp only [evS, tyS, Bool.not_true, Bool.not_false, Nat.reduceAdd, Nat.reduceSub, Nat.reduceMul, Nat.reduceLT, Nat.reduceLeDiff, Nat.reduceEqDiff, reduceCtorEq, List.reduceReplicate, Int.reduceToNat, Int.reduceLE, Int.reduceLT]
          cases hn : nameN (atL l n) with
          | true =>
            rw [if_neg (by rintro ⟨_, q1⟩; rw [hn] at q1; cases q1)] at hN
            rw [hN]
            simp only [errTok, tokA, f0, evS, tyS, Bool.not_true, Bool.not_false, Nat.reduceAdd, Nat.reduceSub, Nat.reduceMul, Nat.reduceLT, Nat.reduceLeDiff, Nat.reduceEqDiff, reduceCtorEq, List.reduceReplicate, Int.reduceToNat, Int.reduceLE, Int.reduceLT]
          | false =>
            rw [if_pos ⟨hO, hn⟩] at hN
            rw [hN]
            simp only [okTok, tokA, f0, hdm hO, evS, tyS, Bool.not_true, Bool.not_false, Nat.reduceAdd, Nat.reduceSub, Nat.reduceMul, Nat.reduceLT, Nat.reduceLeDiff, Nat.reduceEqDiff, reduceCtorEq, List.reduceReplicate, Int.reduceToNat, Int.reduceLE, Int.reduceLT]
    · have dm : decide (atL l (n + 1) = 45) = false := decide_eq_false hm
      rw [if_neg (fun q => hm q.2)] at hS
      subst hS
      simp only [e112, e45, w1, w2, w3, dp, dm, evS, tyS, Bool.not_true, Bool.not_false, Nat.reduceAdd, Nat.reduceSub, Nat.reduceMul, Nat.reduceLT, Nat.reduceLeDiff, Nat.reduceEqDiff, reduceCtorEq, List.reduceReplicate, Int.reduceToNat, Int.reduceLE, Int.reduceLT]
      refine CallK.intro b71 (by simp [treeL, treeA]) (lexAt_ev b l n) ?_
      simp only [e112, e45, w1, w2, w3, dp, evS, tyS, Bool.not_true, Bool.not_false, Nat.reduceAdd, Nat.reduceSub, Nat.reduceMul, Nat.reduceLT, Nat.reduceLeDiff, Nat.reduceEqDiff, reduceCtorEq, List.reduceReplicate, Int.reduceToNat, Int.reduceLE, Int.reduceLT]
      refine CallK.intro b71 (by simp [treeL, treeA]) (lexAt_ev b l (n + 1 + 0)) ?_
      simp only [evS, tyS, Bool.not_true, Bool.not_false, Nat.reduceAdd, Nat.reduceSub, Nat.reduceMul, Nat.reduceLT, Nat.reduceLeDiff, Nat.reduceEqDiff, reduceCtorEq, List.reduceReplicate, Int.reduceToNat, Int.reduceLE, Int.reduceLT]
      refine CallK.intro b47 rfl (lexDigit_ev _) ?_
      simp only [evS, tyS, Bool.not_true, Bool.not_false, Nat.reduceAdd, Nat.reduceSub, Nat.reduceMul, Nat.reduceLT, Nat.reduceLeDiff, Nat.reduceEqDiff, reduceCtorEq, List.reduceReplicate, Int.reduceToNat, Int.reduceLE, Int.reduceLT]
      refine CondK.intro (fun hdg2 => ?_) (fun hdg2 => ?_) <;> simp only [hdg2, evS, tyS, Bool.not_true, Bool.not_false, Nat.reduceAdd, Nat.reduceSub, Nat.reduceMul, Nat.reduceLT, Nat.reduceLeDiff, Nat.reduceEqDiff, reduceCtorEq, List.reduceReplicate, Int.reduceToNat, Int.reduceLE, Int.reduceLT]
      · rw [if_pos ⟨hp, hdg2⟩] at hN
        obtain ⟨k1, k2, k3, k4, k5, k6, hsh⟩ := realA_shape l n 0
        have hr := hreal 0 (by omega) hdg2
        rw [hsh] at hr hN
        refine CallK.intro b72 (by simp [treeL, treeA]) hr ?_
        rw [hN]
        simp only [evS, tyS, Bool.not_true, Bool.not_false, Nat.reduceAdd, Nat.reduceSub, Nat.reduceMul, Nat.reduceLT, Nat.reduceLeDiff, Nat.reduceEqDiff, reduceCtorEq, List.reduceReplicate, Int.reduceToNat, Int.reduceLE, Int.reduceLT]
      · rw [if_neg (by rintro ⟨_, q1⟩; rw [hdg2] at q1; cases q1)] at hN
        (repeat' (first | (with_reducible refine And.intro ?_ ?_) | ((first | refine GuardK.intro_f (fun h => ?_) (fun h => ?_) | refine GuardK.intro_t (fun h => ?_) (fun h => ?_) | refine CondK.intro (fun h => ?_) (fun h => ?_) | refine PickK.intro (fun h => ?_) (fun h => ?_)) <;> simp only [h, evS, tyS, Bool.not_true, Bool.not_false, Nat.reduceAdd, Nat.reduceSub, Nat.reduceMul, Nat.reduceLT, Nat.reduceLeDiff, Nat.reduceEqDiff, reduceCtorEq, List.reduceReplicate, Int.reduceToNat, Int.reduceLE, Int.reduceLT]) | (refine DrawK.intro (by kernel_rfl) (by kernel_rfl) ?_; simp only [evS, tyS, Bool.not_true, Bool.not_false, Nat.reduceAdd, Nat.reduceSub, Nat.reduceMul, Nat.reduceLT, Nat.reduceLeDiff, Nat.reduceEqDiff, reduceCtorEq, List.reduceReplicate, Int.reduceToNat, Int.reduceLE, Int.reduceLT])))
        all_goals try (((try simp only [decide_eq_true_eq, decide_eq_false_iff_not, beq_iff_eq, bne_iff_ne, ne_eq, beq_eq_false_iff_ne, bne_eq_false_iff_eq] at *) <;> (try omega)); done)
        refine CallK.intro b73 (by simp [treeL, treeA]) ha ?_
        cases hO : decO a 9223372036854775807 with
        | false =>
          rw [if_neg (by rintro ⟨q1, _⟩; rw [hO] at q1; cases q1)] at hN
          rw [hN]
          simp only [errTok, tokA, f0, evS, tyS, Bool.not_true, Bool.not_false, Nat.reduceAdd, Nat.reduceSub, Nat.reduceMul, Nat.reduceLT, Nat.reduceLeDiff, Nat.reduceEqDiff, reduceCtorEq, List.reduceReplicate, Int.reduceToNat, Int.reduceLE, Int.reduceLT]
        | true =>
          simp only [evS, tyS, Bool.not_true, Bool.not_false, Nat.reduceAdd, Nat.reduceSub, Nat.reduceMul, Nat.reduceLT, Nat.reduceLeDiff, Nat.reduceEqDiff, reduceCtorEq, List.reduceReplicate, Int.reduceToNat, Int.reduceLE, Int.reduceLT]
          refine CallK.intro b71 (by simp [treeL, treeA]) (lexAt_ev b l n) ?_
          simp only [evS, tyS, Bool.not_true, Bool.not_false, Nat.reduceAdd, Nat.reduceSub, Nat.reduceMul, Nat.reduceLT, Nat.reduceLeDiff, Nat.reduceEqDiff, reduceCtorEq, List.reduceReplicate, Int.reduceToNat, Int.reduceLE, Int.reduceLT]
          refine CallK.intro b69 rfl (lexInName_ev _) ?_
          simp only [evS, tyS, Bool.not_true, Bool.not_false, Nat.reduceAdd, Nat.reduceSub, Nat.reduceMul, Nat.reduceLT, Nat.reduceLeDiff, Nat.reduceEqDiff, reduceCtorEq, List.reduceReplicate, Int.reduceToNat, Int.reduceLE, Int.reduceLT]
          cases hn : nameN (atL l n) with
          | true =>
            rw [if_neg (by rintro ⟨_, q1⟩; rw [hn] at q1; cases q1)] at hN
            rw [hN]
            simp only [errTok, tokA, f0, evS, tyS, Bool.not_true, Bool.not_false, Nat.reduceAdd, Nat.reduceSub, Nat.reduceMul, Nat.reduceLT, Nat.reduceLeDiff, Nat.reduceEqDiff, reduceCtorEq, List.reduceReplicate, Int.reduceToNat, Int.reduceLE, Int.reduceLT]
          | false =>
            rw [if_pos ⟨hO, hn⟩] at hN
            rw [hN]
            simp only [okTok, tokA, f0, hdm hO, evS, tyS, Bool.not_true, Bool.not_false, Nat.reduceAdd, Nat.reduceSub, Nat.reduceMul, Nat.reduceLT, Nat.reduceLeDiff, Nat.reduceEqDiff, reduceCtorEq, List.reduceReplicate, Int.reduceToNat, Int.reduceLE, Int.reduceLT]
  · have dp : decide (atL l n = 112) = false := decide_eq_false hp
    rw [if_neg (fun q => hp q.1)] at hN
    simp only [e112, e45, w1, w2, w3, dp, evS, tyS, Bool.not_true, Bool.not_false, Nat.reduceAdd, Nat.reduceSub, Nat.reduceMul, Nat.reduceLT, Nat.reduceLeDiff, Nat.reduceEqDiff, reduceCtorEq, List.reduceReplicate, Int.reduceToNat, Int.reduceLE, Int.reduceLT]
    refine CallK.intro b71 (by simp [treeL, treeA]) (lexAt_ev b l n) ?_
    simp only [e112, e45, w1, w2, w3, dp, evS, tyS, Bool.not_true, Bool.not_false, Nat.reduceAdd, Nat.reduceSub, Nat.reduceMul, Nat.reduceLT, Nat.reduceLeDiff, Nat.reduceEqDiff, reduceCtorEq, List.reduceReplicate, Int.reduceToNat, Int.reduceLE, Int.reduceLT]
    (repeat' (first | (with_reducible refine And.intro ?_ ?_) | ((first | refine GuardK.intro_f (fun h => ?_) (fun h => ?_) | refine GuardK.intro_t (fun h => ?_) (fun h => ?_) | refine CondK.intro (fun h => ?_) (fun h => ?_) | refine PickK.intro (fun h => ?_) (fun h => ?_)) <;> simp only [h, evS, tyS, Bool.not_true, Bool.not_false, Nat.reduceAdd, Nat.reduceSub, Nat.reduceMul, Nat.reduceLT, Nat.reduceLeDiff, Nat.reduceEqDiff, reduceCtorEq, List.reduceReplicate, Int.reduceToNat, Int.reduceLE, Int.reduceLT]) | (refine DrawK.intro (by kernel_rfl) (by kernel_rfl) ?_; simp only [evS, tyS, Bool.not_true, Bool.not_false, Nat.reduceAdd, Nat.reduceSub, Nat.reduceMul, Nat.reduceLT, Nat.reduceLeDiff, Nat.reduceEqDiff, reduceCtorEq, List.reduceReplicate, Int.reduceToNat, Int.reduceLE, Int.reduceLT])))
    all_goals try (((try simp only [decide_eq_true_eq, decide_eq_false_iff_not, beq_iff_eq, bne_iff_ne, ne_eq, beq_eq_false_iff_ne, bne_eq_false_iff_eq] at *) <;> (try omega)); done)
    refine CallK.intro b73 (by simp [treeL, treeA]) ha ?_
    cases hO : decO a 9223372036854775807 with
    | false =>
      rw [if_neg (by rintro ⟨q1, _⟩; rw [hO] at q1; cases q1)] at hN
      rw [hN]
      simp only [errTok, tokA, f0, evS, tyS, Bool.not_true, Bool.not_false, Nat.reduceAdd, Nat.reduceSub, Nat.reduceMul, Nat.reduceLT, Nat.reduceLeDiff, Nat.reduceEqDiff, reduceCtorEq, List.reduceReplicate, Int.reduceToNat, Int.reduceLE, Int.reduceLT]
    | true =>
      simp only [evS, tyS, Bool.not_true, Bool.not_false, Nat.reduceAdd, Nat.reduceSub, Nat.reduceMul, Nat.reduceLT, Nat.reduceLeDiff, Nat.reduceEqDiff, reduceCtorEq, List.reduceReplicate, Int.reduceToNat, Int.reduceLE, Int.reduceLT]
      refine CallK.intro b71 (by simp [treeL, treeA]) (lexAt_ev b l n) ?_
      simp only [evS, tyS, Bool.not_true, Bool.not_false, Nat.reduceAdd, Nat.reduceSub, Nat.reduceMul, Nat.reduceLT, Nat.reduceLeDiff, Nat.reduceEqDiff, reduceCtorEq, List.reduceReplicate, Int.reduceToNat, Int.reduceLE, Int.reduceLT]
      refine CallK.intro b69 rfl (lexInName_ev _) ?_
      simp only [evS, tyS, Bool.not_true, Bool.not_false, Nat.reduceAdd, Nat.reduceSub, Nat.reduceMul, Nat.reduceLT, Nat.reduceLeDiff, Nat.reduceEqDiff, reduceCtorEq, List.reduceReplicate, Int.reduceToNat, Int.reduceLE, Int.reduceLT]
      cases hn : nameN (atL l n) with
      | true =>
        rw [if_neg (by rintro ⟨_, q1⟩; rw [hn] at q1; cases q1)] at hN
        rw [hN]
        simp only [errTok, tokA, f0, evS, tyS, Bool.not_true, Bool.not_false, Nat.reduceAdd, Nat.reduceSub, Nat.reduceMul, Nat.reduceLT, Nat.reduceLeDiff, Nat.reduceEqDiff, reduceCtorEq, List.reduceReplicate, Int.reduceToNat, Int.reduceLE, Int.reduceLT]
      | false =>
        rw [if_pos ⟨hO, hn⟩] at hN
        rw [hN]
        simp only [okTok, tokA, f0, hdm hO, evS, tyS, Bool.not_true, Bool.not_false, Nat.reduceAdd, Nat.reduceSub, Nat.reduceMul, Nat.reduceLT, Nat.reduceLeDiff, Nat.reduceEqDiff, reduceCtorEq, List.reduceReplicate, Int.reduceToNat, Int.reduceLE, Int.reduceLT]
end Go.Proofs.YtplnhipgifcafaaDoor
namespace Go.Proofs.YtplnhipgifcafaaDoor
set_option linter.all false
open Go Go.Ev
variable {γ : List (Nat × AV)}
/-- A token without its place. -/
structure TokD where
  kind : Int
  text : List UInt8
  int : Int
  real : Nat
  size : Nat
def TokD.av (t : TokD) (pos : Int) : AV := tokA t.kind t.text t.int (.v (.float .f64 t.real)) pos t.size
def zeroT : TokD := ⟨0, [], 0, 0, 0⟩
def resTA : Except Int TokD → AV
  | .ok t => okTok (t.av 0)
  | .error e => errTok e
def realD (l : List UInt8) (p sg : Nat) : Except Int TokD :=
  if realO sg (numL l 0) (numL l (p + 1 + sg)) (atL l (digitsEnd l (p + 1 + sg))) = true then
    .ok ⟨3, [], 0, realB (decV (numL l 0)) (expOf sg (decV (numL l (p + 1 + sg)))), digitsEnd l (p + 1 + sg)⟩
  else .error 12
theorem realD_av (l : List UInt8) (p sg : Nat) : realA l p sg = resTA (realD l p sg) := by
  unfold realA realD; split <;> rfl
def numberD (l : List UInt8) : Except Int TokD :=
  if atL l (digitsEnd l 0) = 112 ∧ digitN (atL l (digitsEnd l 0 + 1 + sgOf l)) = true then realD l (digitsEnd l 0) (sgOf l)
  else if decO (numL l 0) 9223372036854775807 = true ∧ nameN (atL l (digitsEnd l 0)) = false then .ok ⟨2, [], decV (numL l 0), 0, digitsEnd l 0⟩ else .error 12
theorem numberD_av (l : List UInt8) : numberA l = resTA (numberD l) := by
  unfold numberA numberD
  split
  · exact realD_av _ _ _
  · split <;> rfl
def textD (l : List UInt8) : Except Int TokD :=
  match textF l.length l 1 [] with
  | none => .error 11
  | some (d, n) => .ok ⟨4, d, 0, 0, n⟩
theorem textD_av (l : List UInt8) : textR (textF l.length l 1 []) = resTA (textD l) := by
  unfold textD
  cases textF l.length l 1 [] with
  | none => rfl
  | some q => rfl
/-- The token at the head of a text. -/
def headD (s : List UInt8) : Except Int TokD :=
  if letterN (atL s 0) = true then (if 32 < spanEnd nameN s 1 then .error 13 else .ok ⟨1, s.take (spanEnd nameN s 1), 0, 0, spanEnd nameN s 1⟩)
  else if digitN (atL s 0) = true then numberD s
  else if atL s 0 = 34 then textD s
  else if markN s = 0 then .error 10 else .ok ⟨5, s.take (markN s), 0, 0, markN s⟩
/-- How many bytes of blanks and comments stand at the head (com: within a comment). -/
def gapL : Bool → List UInt8 → Nat
  | _, [] => 0
  | true, c :: r => if c.toNat = 10 then 1 + gapL false r else 1 + gapL true r
  | false, c :: r => if blankN c.toNat = true then 1 + gapL false r else if c.toNat = 35 then 1 + gapL true r else 0
theorem drop_at {l : List UInt8} {i : Nat} (h : i < l.length) : ∃ c, l.drop i = c :: l.drop (i + 1) ∧ c.toNat = atL l i := by
  refine ⟨l[i], List.drop_eq_getElem_cons h, ?_⟩
  simp [atL, List.getD, h]
theorem gap_blank {l : List UInt8} {i : Nat} (h : i < l.length) (hb : blankN (atL l i) = true) : gapL false (l.drop i) = 1 + gapL false (l.drop (i + 1)) := by
  obtain ⟨c, e, hc⟩ := drop_at h
  rw [e, gapL, hc, if_pos hb]
theorem gap_com {l : List UInt8} {i : Nat} (h : i < l.length) (hb : blankN (atL l i) = false) (h2 : atL l i = 35) : gapL false (l.drop i) = 1 + gapL true (l.drop (i + 1)) := by
  obtain ⟨c, e, hc⟩ := drop_at h
  rw [e, gapL, hc, if_neg (by rw [hb]; decide), if_pos h2]
theorem gap_stop {l : List UInt8} {i : Nat} (h : i < l.length) (hb : blankN (atL l i) = false) (h2 : atL l i ≠ 35) : gapL false (l.drop i) = 0 := by
  obtain ⟨c, e, hc⟩ := drop_at h
  rw [e, gapL, hc, if_neg (by rw [hb]; decide), if_neg h2]
theorem gap_end {l : List UInt8} {i : Nat} {b : Bool} (h : l.length ≤ i) : gapL b (l.drop i) = 0 := by
  rw [List.drop_eq_nil_of_le h]; cases b <;> rfl
theorem gap_nl {l : List UInt8} {i : Nat} (h : i < l.length) (h2 : atL l i = 10) : gapL true (l.drop i) = gapL false (l.drop i) := by
  obtain ⟨c, e, hc⟩ := drop_at h
  rw [e, gapL, gapL, hc, if_pos h2, if_pos (by rw [h2]; decide)]
theorem gap_in {l : List UInt8} {i : Nat} (h : i < l.length) (h2 : atL l i ≠ 10) : gapL true (l.drop i) = 1 + gapL true (l.drop (i + 1)) := by
  obtain ⟨c, e, hc⟩ := drop_at h
  rw [e, gapL, hc, if_neg h2]
theorem gapL_le : ∀ (s : List UInt8) (b : Bool), gapL b s ≤ s.length
  | [], b => by cases b <;> exact Nat.le_refl _
  | c :: r, true => by
    have h1 := gapL_le r true; have h2 := gapL_le r false
    rw [gapL, List.length_cons]; split <;> omega
  | c :: r, false => by
    have h1 := gapL_le r true; have h2 := gapL_le r false
    rw [gapL, List.length_cons]
    split
    · omega
    · split <;> omega
/-- Where the next token begins. -/
def nextT (l : List UInt8) (i : Nat) : Nat := i + gapL false (l.drop i)
def nextA (l : List UInt8) (i : Nat) : AV :=
  if l.length ≤ nextT l i then .tup [tokA 0 [] 0 f0 0 0, .v (.bool false), .v (.int .i64 0)]
  else match headD (l.drop (nextT l i)) with
    | .error e => .tup [tokA 0 [] 0 f0 (nextT l i) 0, .v (.bool true), .v (.int .i64 e)]
    | .ok t => .tup [t.av (nextT l i), .v (.bool true), .v (.int .i64 0)]
end Go.Proofs.YtplnhipgifcafaaDoor
namespace Go.Proofs.YtplnhipgifcafaaDoor
set_option linter.all false
open Go Go.Ev
variable {γ : List (Nat × AV)}
def tcells (t : TokD) : List AV := [.v (.int .i64 t.kind), .v (.string ⟨t.text.toArray⟩), .v (.int .i64 t.int), .v (.float .f64 t.real), .v (.int .i64 0), .v (.int .i64 t.size)]
def nextS (γ : List (Nat × AV)) (b : Bool) (l : List UInt8) : Nat × Nat × TokD × Int → St
  | (_, i, t, e) => ⟨⟨98, [(0, .sl b l.length l.length (l.map byteC)), (1, .v (.int .i64 i)), (4, .ptr 0 0 0), (7, .ptr 1 0 0), (8, .v (.int .i64 e))], γ⟩, [⟨0, 33, zero6⟩, ⟨0, 33, tcells t⟩]⟩
def nextI (l : List UInt8) (T : Nat) : Nat × Nat × TokD × Int → Prop
  | (0, i, t, e) => i ≤ l.length ∧ T = nextT l i ∧ t = zeroT ∧ e = 0
  | (1, i, t, e) => i < l.length ∧ T = i + 1 + gapL true (l.drop (i + 1)) ∧ t = zeroT ∧ e = 0
  | (2, i, t, e) => i < l.length ∧ T = i ∧ ((e = 0 ∧ headD (l.drop i) = .ok t) ∨ (e ≠ 0 ∧ headD (l.drop i) = .error e))
  | _ => False
def nextM (l : List UInt8) : Nat × Nat × TokD × Int → Nat
  | (0, i, _, _) => 3 * (l.length - i) + 2
  | (1, i, _, _) => 3 * (l.length - i) + 1
  | (_, i, _, _) => 0
theorem nextI0 {l : List UInt8} {T i : Nat} (h1 : i ≤ l.length) (h2 : T = nextT l i) : nextI l T (0, i, zeroT, 0) := ⟨h1, h2, rfl, rfl⟩
theorem nextI1 {l : List UInt8} {T i : Nat} (h1 : i < l.length) (h2 : T = i + 1 + gapL true (l.drop (i + 1))) : nextI l T (1, i, zeroT, 0) := ⟨h1, h2, rfl, rfl⟩
theorem nextI2 {l : List UInt8} {T i : Nat} {t : TokD} {e : Int} (h1 : i < l.length) (h2 : T = i) (h3 : (e = 0 ∧ headD (l.drop i) = .ok t) ∨ (e ≠ 0 ∧ headD (l.drop i) = .error e)) : nextI l T (2, i, t, e) := ⟨h1, h2, h3⟩
theorem zero6_t : zero6 = tcells zeroT := rfl
theorem numberD_err {s : List UInt8} {e : Int} (h : numberD s = .error e) : e ≠ 0 := by
  unfold numberD realD at h
  split at h
  · split at h
    · cases h
    · cases h; decide
  · split at h
    · cases h
    · cases h; decide
theorem textD_err {s : List UInt8} {e : Int} (h : textD s = .error e) : e ≠ 0 := by
  unfold textD at h
  split at h
  · cases h; decide
  · cases h
theorem markN_cases (s : List UInt8) : markN s = 0 ∨ markN s = 1 ∨ markN s = 2 := by
  unfold markN; split
  · exact .inr (.inr rfl)
  · split
    · exact .inr (.inl rfl)
    · exact .inl rfl
set_option maxHeartbeats 4000000 in
set_option maxRecDepth 20000 in
theorem lexNext_ev (hγ : Gl γ) (b : Bool) (l : List UInt8) (i : Nat) (hi : i ≤ l.length) (hl : l.length ≤ 140737488351232) :
    Ev Tryd.prog γ 31 [.sl b l.length l.length (l.map byteC), .v (.int .i64 i)] (nextA l i) := by
  refine Ev.of Tryd.func31 rfl ?_
  generalize hR : nextA l i = R
  have hEnd : l.length ≤ nextT l i → R = .tup [tokA 0 [] 0 f0 0 0, .v (.bool false), .v (.int .i64 0)] := fun h => by rw [← hR, nextA, if_pos h]
  have hErr : ∀ e, nextT l i < l.length → headD (l.drop (nextT l i)) = .error e → R = .tup [tokA 0 [] 0 f0 (nextT l i) 0, .v (.bool true), .v (.int .i64 e)] := fun e h1 h2 => by rw [← hR, nextA, if_neg (by omega), h2]
  have hOk : ∀ t, nextT l i < l.length → headD (l.drop (nextT l i)) = .ok t → R = .tup [t.av (nextT l i), .v (.bool true), .v (.int .i64 0)] := fun t h1 h2 => by rw [← hR, nextA, if_neg (by omega), h2]
  have hT0 : nextT l i = nextT l i := rfl
  generalize hTT : nextT l i = T at hEnd hErr hOk hT0 ⊢
  clear hR
  have ha0 : ∀ j, atL (l.drop j) 0 = atL l j := fun j => by rw [atL_dropk]; rfl
  have ek : ∀ (k n : Nat), ((n : Int) == (k : Int)) = decide (n = k) := fun k n => by
    by_cases h : n = k
    · simp [h]
    · rw [decide_eq_false h]; simp; omega
  have nm := fun (j : Nat) (h : j < l.length) => lexName_ev (γ := γ) b (l.drop j) (by rw [List.length_drop]; omega) (by rw [List.length_drop]; omega)
  have nu := fun (j : Nat) (h : digitN (atL l j) = true) => lexNumber_ev (γ := γ) hγ b (l.drop j) (by rw [ha0]; exact h) (by rw [List.length_drop]; omega)
  have tx := fun (j : Nat) => lexText_ev (γ := γ) b (l.drop j) (by rw [List.length_drop]; omega)
  have mk := fun (m : Int) hm (j : Nat) (h : j < l.length) => lexMark_ev (γ := γ) m hm b (l.drop j) (by rw [List.length_drop]; omega) (by rw [List.length_drop]; omega)
  simp only [List.length_drop, List.map_drop] at nm nu tx mk
  obtain ⟨mx, hmx⟩ := hγ.1
  simp only [Tryd.f31, evS, tyS, Bool.not_true, Bool.not_false, Nat.reduceAdd, Nat.reduceSub, Nat.reduceMul, Nat.reduceLT, Nat.reduceLeDiff, Nat.reduceEqDiff, reduceCtorEq, List.reduceReplicate, Int.reduceToNat, Int.reduceLE, Int.reduceLT]
  refine SemK.scope (nextS γ b l) (nextI l T) (fun a => a.1) (nextM l) ?_ ?_
  · have hjT : T = nextT l i := hTT.symm
    simp only [lS, evS, tyS, Bool.not_true, Bool.not_false, Nat.reduceAdd, Nat.reduceSub, Nat.reduceMul, Nat.reduceLT, Nat.reduceLeDiff, Nat.reduceEqDiff, reduceCtorEq, List.reduceReplicate, Int.reduceToNat, Int.reduceLE, Int.reduceLT]
    refine CondK.intro (fun h => ?_) (fun h => ?_) <;> simp only [h, lS, evS, tyS, Bool.not_true, Bool.not_false, Nat.reduceAdd, Nat.reduceSub, Nat.reduceMul, Nat.reduceLT, Nat.reduceLeDiff, Nat.reduceEqDiff, reduceCtorEq, List.reduceReplicate, Int.reduceToNat, Int.reduceLE, Int.reduceLT]
    · have hge : l.length ≤ i := by ((try simp only [decide_eq_true_eq, decide_eq_false_iff_not, beq_iff_eq, bne_iff_ne, ne_eq, beq_eq_false_iff_ne, bne_eq_false_iff_eq] at *) <;> (try omega))
      rw [hEnd (by rw [hjT, nextT]; omega)]
      simp only [tokA, f0, lS, evS, tyS, Bool.not_true, Bool.not_false, Nat.reduceAdd, Nat.reduceSub, Nat.reduceMul, Nat.reduceLT, Nat.reduceLeDiff, Nat.reduceEqDiff, reduceCtorEq, List.reduceReplicate, Int.reduceToNat, Int.reduceLE, Int.reduceLT]
    · have hlt : i < l.length := by ((try simp only [decide_eq_true_eq, decide_eq_false_iff_not, beq_iff_eq, bne_iff_ne, ne_eq, beq_eq_false_iff_ne, bne_eq_false_iff_eq] at *) <;> (try omega))
      have ew : IntKind.i64.wrap ((i : Int) + 1) = ((i + 1 : Nat) : Int) := i64w (by omega) (by omega)
      have ea : ∀ j, (l.getD j 0).toNat = atL l j := fun _ => rfl
      (repeat' (with_reducible refine And.intro ?_ ?_))
      all_goals try (((try simp only [decide_eq_true_eq, decide_eq_false_iff_not, beq_iff_eq, bne_iff_ne, ne_eq, beq_eq_false_iff_ne, bne_eq_false_iff_eq] at *) <;> (try omega)); done)
      have c32 : ((atL l i : Int) == 32) = decide (atL l i = 32) := ek 32 _
      have c9 : ((atL l i : Int) == 9) = decide (atL l i = 9) := ek 9 _
      have c10 : ((atL l i : Int) == 10) = decide (atL l i = 10) := ek 10 _
      have c13 : ((atL l i : Int) == 13) = decide (atL l i = 13) := ek 13 _
      have c35 : ((atL l i : Int) == 35) = decide (atL l i = 35) := ek 35 _
      have c34 : ((atL l i : Int) == 34) = decide (atL l i = 34) := ek 34 _
      by_cases hb : blankN (atL l i) = true
      · have hb' := of_decide_eq_true hb
        have hgb := gap_blank hlt hb
        simp only [ea, ew, lS, c32, c9, c10, c13, evS, tyS, Bool.not_true, Bool.not_false, Nat.reduceAdd, Nat.reduceSub, Nat.reduceMul, Nat.reduceLT, Nat.reduceLeDiff, Nat.reduceEqDiff, reduceCtorEq, List.reduceReplicate, Int.reduceToNat, Int.reduceLE, Int.reduceLT]
        (repeat' (first | (with_reducible refine And.intro ?_ ?_) | ((first | refine GuardK.intro_f (fun h => ?_) (fun h => ?_) | refine GuardK.intro_t (fun h => ?_) (fun h => ?_) | refine CondK.intro (fun h => ?_) (fun h => ?_) | refine PickK.intro (fun h => ?_) (fun h => ?_)) <;> simp only [h, ea, ew, lS, c32, c9, c10, c13, evS, tyS, Bool.not_true, Bool.not_false, Nat.reduceAdd, Nat.reduceSub, Nat.reduceMul, Nat.reduceLT, Nat.reduceLeDiff, Nat.reduceEqDiff, reduceCtorEq, List.reduceReplicate, Int.reduceToNat, Int.reduceLE, Int.reduceLT]) | (refine DrawK.intro (by kernel_rfl) (by kernel_rfl) ?_; simp only [ea, ew, lS, c32, c9, c10, c13, evS, tyS, Bool.not_true, Bool.not_false, Nat.reduceAdd, Nat.reduceSub, Nat.reduceMul, Nat.reduceLT, Nat.reduceLeDiff, Nat.reduceEqDiff, reduceCtorEq, List.reduceReplicate, Int.reduceToNat, Int.reduceLE, Int.reduceLT])))
        all_goals first
          | (refine labelC.intro (0, i + 1, zeroT, 0) (nextI0 (by omega) (by rw [hjT, nextT, hgb, nextT]; omega)) rfl ?_ (by intro k hk; cases hk)
             simp only [nextS, ew, tcells, zeroT, evS, tyS, Bool.not_true, Bool.not_false, Nat.reduceAdd, Nat.reduceSub, Nat.reduceMul, Nat.reduceLT, Nat.reduceLeDiff, Nat.reduceEqDiff, reduceCtorEq, List.reduceReplicate, Int.reduceToNat, Int.reduceLE, Int.reduceLT]
             (repeat' (first | (with_reducible refine And.intro ?_ ?_) | ((first | refine GuardK.intro_f (fun h => ?_) (fun h => ?_) | refine GuardK.intro_t (fun h => ?_) (fun h => ?_) | refine CondK.intro (fun h => ?_) (fun h => ?_) | refine PickK.intro (fun h => ?_) (fun h => ?_)) <;> simp only [h, evS, tyS, Bool.not_true, Bool.not_false, Nat.reduceAdd, Nat.reduceSub, Nat.reduceMul, Nat.reduceLT, Nat.reduceLeDiff, Nat.reduceEqDiff, reduceCtorEq, List.reduceReplicate, Int.reduceToNat, Int.reduceLE, Int.reduceLT]) | (refine DrawK.intro (by kernel_rfl) (by kernel_rfl) ?_; simp only [evS, tyS, Bool.not_true, Bool.not_false, Nat.reduceAdd, Nat.reduceSub, Nat.reduceMul, Nat.reduceLT, Nat.reduceLeDiff, Nat.reduceEqDiff, reduceCtorEq, List.reduceReplicate, Int.reduceToNat, Int.reduceLE, Int.reduceLT])))
             all_goals first | rfl | trivial | exact .inl rfl)
          | (exfalso; ((try simp only [decide_eq_true_eq, decide_eq_false_iff_not, beq_iff_eq, bne_iff_ne, ne_eq, beq_eq_false_iff_ne, bne_eq_false_iff_eq] at *) <;> (try omega)))
      · have hb1 : blankN (atL l i) = false := by simpa using hb
        have hb' := of_decide_eq_false hb1
        have d32 : decide (atL l i = 32) = false := decide_eq_false (by omega)
        have d9 : decide (atL l i = 9) = false := decide_eq_false (by omega)
        have d10 : decide (atL l i = 10) = false := decide_eq_false (by omega)
        have d13 : decide (atL l i = 13) = false := decide_eq_false (by omega)
        simp only [ea, ew, lS, c32, c9, c10, c13, d32, d9, d10, d13, c35, evS, tyS, Bool.not_true, Bool.not_false, Nat.reduceAdd, Nat.reduceSub, Nat.reduceMul, Nat.reduceLT, Nat.reduceLeDiff, Nat.reduceEqDiff, reduceCtorEq, List.reduceReplicate, Int.reduceToNat, Int.reduceLE, Int.reduceLT]
        refine CondK.intro (fun h35 => ?_) (fun h35 => ?_) <;> simp only [h35, lS, ea, evS, tyS, Bool.not_true, Bool.not_false, Nat.reduceAdd, Nat.reduceSub, Nat.reduceMul, Nat.reduceLT, Nat.reduceLeDiff, Nat.reduceEqDiff, reduceCtorEq, List.reduceReplicate, Int.reduceToNat, Int.reduceLE, Int.reduceLT]
        · refine labelC.intro (1, i, zeroT, 0) (nextI1 hlt (by rw [hjT, nextT, gap_com hlt hb1 (of_decide_eq_true h35)]; omega)) rfl ?_ (by intro k hk; cases hk)
          simp only [nextS, ew, tcells, zeroT, evS, tyS, Bool.not_true, Bool.not_false, Nat.reduceAdd, Nat.reduceSub, Nat.reduceMul, Nat.reduceLT, Nat.reduceLeDiff, Nat.reduceEqDiff, reduceCtorEq, List.reduceReplicate, Int.reduceToNat, Int.reduceLE, Int.reduceLT]
          (repeat' (first | (with_reducible refine And.intro ?_ ?_) | ((first | refine GuardK.intro_f (fun h => ?_) (fun h => ?_) | refine GuardK.intro_t (fun h => ?_) (fun h => ?_) | refine CondK.intro (fun h => ?_) (fun h => ?_) | refine PickK.intro (fun h => ?_) (fun h => ?_)) <;> simp only [h, evS, tyS, Bool.not_true, Bool.not_false, Nat.reduceAdd, Nat.reduceSub, Nat.reduceMul, Nat.reduceLT, Nat.reduceLeDiff, Nat.reduceEqDiff, reduceCtorEq, List.reduceReplicate, Int.reduceToNat, Int.reduceLE, Int.reduceLT]) | (refine DrawK.intro (by kernel_rfl) (by kernel_rfl) ?_; simp only [evS, tyS, Bool.not_true, Bool.not_false, Nat.reduceAdd, Nat.reduceSub, Nat.reduceMul, Nat.reduceLT, Nat.reduceLeDiff, Nat.reduceEqDiff, reduceCtorEq, List.reduceReplicate, Int.reduceToNat, Int.reduceLE, Int.reduceLT])))
          all_goals first | rfl | trivial | exact .inl rfl
        · have hTj : T = i := by rw [hjT, nextT, gap_stop hlt hb1 (of_decide_eq_false h35)]; omega
          have hh : headD (l.drop i) = if letterN (atL l i) = true then (if 32 < spanEnd nameN (l.drop i) 1 then .error 13 else .ok ⟨1, (l.drop i).take (spanEnd nameN (l.drop i) 1), 0, 0, spanEnd nameN (l.drop i) 1⟩)
              else if digitN (atL l i) = true then numberD (l.drop i)
              else if atL l i = 34 then textD (l.drop i)
              else if markN (l.drop i) = 0 then .error 10 else .ok ⟨5, (l.drop i).take (markN (l.drop i)), 0, 0, markN (l.drop i)⟩ := by rw [headD, ha0]
          refine CallK.intro b45 rfl (lexLetter_ev _) ?_
          cases hlet : letterN (atL l i) with
          | true =>
            rw [if_pos hlet] at hh
            simp only [lS, ea, evS, tyS, Bool.not_true, Bool.not_false, Nat.reduceAdd, Nat.reduceSub, Nat.reduceMul, Nat.reduceLT, Nat.reduceLeDiff, Nat.reduceEqDiff, reduceCtorEq, List.reduceReplicate, Int.reduceToNat, Int.reduceLE, Int.reduceLT]
            (repeat' (first | (with_reducible refine And.intro ?_ ?_) | ((first | refine GuardK.intro_f (fun h => ?_) (fun h => ?_) | refine GuardK.intro_t (fun h => ?_) (fun h => ?_) | refine CondK.intro (fun h => ?_) (fun h => ?_) | refine PickK.intro (fun h => ?_) (fun h => ?_)) <;> simp only [h, lS, ea, evS, tyS, Bool.not_true, Bool.not_false, Nat.reduceAdd, Nat.reduceSub, Nat.reduceMul, Nat.reduceLT, Nat.reduceLeDiff, Nat.reduceEqDiff, reduceCtorEq, List.reduceReplicate, Int.reduceToNat, Int.reduceLE, Int.reduceLT]) | (refine DrawK.intro (by kernel_rfl) (by kernel_rfl) ?_; simp only [lS, ea, evS, tyS, Bool.not_true, Bool.not_false, Nat.reduceAdd, Nat.reduceSub, Nat.reduceMul, Nat.reduceLT, Nat.reduceLeDiff, Nat.reduceEqDiff, reduceCtorEq, List.reduceReplicate, Int.reduceToNat, Int.reduceLE, Int.reduceLT])))
            all_goals try (((try simp only [decide_eq_true_eq, decide_eq_false_iff_not, beq_iff_eq, bne_iff_ne, ne_eq, beq_eq_false_iff_ne, bne_eq_false_iff_eq] at *) <;> (try omega)); done)
            refine CallK.intro b46 (by simp [treeL, treeA]) (nm i hlt) ?_
            generalize spanEnd nameN (l.drop i) 1 = n at hh ⊢
            simp only [lS, ea, tokA, f0, evS, tyS, Bool.not_true, Bool.not_false, Nat.reduceAdd, Nat.reduceSub, Nat.reduceMul, Nat.reduceLT, Nat.reduceLeDiff, Nat.reduceEqDiff, reduceCtorEq, List.reduceReplicate, Int.reduceToNat, Int.reduceLE, Int.reduceLT]
            refine CondK.intro (fun h32 => ?_) (fun h32 => ?_) <;> simp only [h32, lS, ea, evS, tyS, Bool.not_true, Bool.not_false, Nat.reduceAdd, Nat.reduceSub, Nat.reduceMul, Nat.reduceLT, Nat.reduceLeDiff, Nat.reduceEqDiff, reduceCtorEq, List.reduceReplicate, Int.reduceToNat, Int.reduceLE, Int.reduceLT]
            · rw [if_pos (by have := of_decide_eq_true h32; omega)] at hh
              refine labelC.intro (2, i, ⟨1, (l.drop i).take n, 0, 0, n⟩, 13) (nextI2 hlt hTj (.inr ⟨by decide, hh⟩)) rfl ?_ (by intro k hk; cases hk)
              simp only [nextS, tcells, evS, tyS, Bool.not_true, Bool.not_false, Nat.reduceAdd, Nat.reduceSub, Nat.reduceMul, Nat.reduceLT, Nat.reduceLeDiff, Nat.reduceEqDiff, reduceCtorEq, List.reduceReplicate, Int.reduceToNat, Int.reduceLE, Int.reduceLT]
              (repeat' (first | (with_reducible refine And.intro ?_ ?_) | ((first | refine GuardK.intro_f (fun h => ?_) (fun h => ?_) | refine GuardK.intro_t (fun h => ?_) (fun h => ?_) | refine CondK.intro (fun h => ?_) (fun h => ?_) | refine PickK.intro (fun h => ?_) (fun h => ?_)) <;> simp only [h, evS, tyS, Bool.not_true, Bool.not_false, Nat.reduceAdd, Nat.reduceSub, Nat.reduceMul, Nat.reduceLT, Nat.reduceLeDiff, Nat.reduceEqDiff, reduceCtorEq, List.reduceReplicate, Int.reduceToNat, Int.reduceLE, Int.reduceLT]) | (refine DrawK.intro (by kernel_rfl) (by kernel_rfl) ?_; simp only [evS, tyS, Bool.not_true, Bool.not_false, Nat.reduceAdd, Nat.reduceSub, Nat.reduceMul, Nat.reduceLT, Nat.reduceLeDiff, Nat.reduceEqDiff, reduceCtorEq, List.reduceReplicate, Int.reduceToNat, Int.reduceLE, Int.reduceLT])))
              all_goals first | rfl | trivial | exact .inl rfl
            · rw [if_neg (by have := of_decide_eq_false h32; omega)] at hh
              refine labelC.intro (2, i, ⟨1, (l.drop i).take n, 0, 0, n⟩, 0) (nextI2 hlt hTj (.inl ⟨rfl, hh⟩)) rfl ?_ (by intro k hk; cases hk)
              simp only [nextS, tcells, evS, tyS, Bool.not_true, Bool.not_false, Nat.reduceAdd, Nat.reduceSub, Nat.reduceMul, Nat.reduceLT, Nat.reduceLeDiff, Nat.reduceEqDiff, reduceCtorEq, List.reduceReplicate, Int.reduceToNat, Int.reduceLE, Int.reduceLT]
              (repeat' (first | (with_reducible refine And.intro ?_ ?_) | ((first | refine GuardK.intro_f (fun h => ?_) (fun h => ?_) | refine GuardK.intro_t (fun h => ?_) (fun h => ?_) | refine CondK.intro (fun h => ?_) (fun h => ?_) | refine PickK.intro (fun h => ?_) (fun h => ?_)) <;> simp only [h, evS, tyS, Bool.not_true, Bool.not_false, Nat.reduceAdd, Nat.reduceSub, Nat.reduceMul, Nat.reduceLT, Nat.reduceLeDiff, Nat.reduceEqDiff, reduceCtorEq, List.reduceReplicate, Int.reduceToNat, Int.reduceLE, Int.reduceLT]) | (refine DrawK.intro (by kernel_rfl) (by kernel_rfl) ?_; simp only [evS, tyS, Bool.not_true, Bool.not_false, Nat.reduceAdd, Nat.reduceSub, Nat.reduceMul, Nat.reduceLT, Nat.reduceLeDiff, Nat.reduceEqDiff, reduceCtorEq, List.reduceReplicate, Int.reduceToNat, Int.reduceLE, Int.reduceLT])))
              all_goals first | rfl | trivial | exact .inl rfl
          | false =>
            rw [if_neg (by rw [hlet]; decide)] at hh
            simp only [lS, ea, evS, tyS, Bool.not_true, Bool.not_false, Nat.reduceAdd, Nat.reduceSub, Nat.reduceMul, Nat.reduceLT, Nat.reduceLeDiff, Nat.reduceEqDiff, reduceCtorEq, List.reduceReplicate, Int.reduceToNat, Int.reduceLE, Int.reduceLT]
            refine CallK.intro b47 rfl (lexDigit_ev _) ?_
            cases hdig : digitN (atL l i) with
            | true =>
              rw [if_pos hdig] at hh
              simp only [lS, ea, evS, tyS, Bool.not_true, Bool.not_false, Nat.reduceAdd, Nat.reduceSub, Nat.reduceMul, Nat.reduceLT, Nat.reduceLeDiff, Nat.reduceEqDiff, reduceCtorEq, List.reduceReplicate, Int.reduceToNat, Int.reduceLE, Int.reduceLT]
              (repeat' (first | (with_reducible refine And.intro ?_ ?_) | ((first | refine GuardK.intro_f (fun h => ?_) (fun h => ?_) | refine GuardK.intro_t (fun h => ?_) (fun h => ?_) | refine CondK.intro (fun h => ?_) (fun h => ?_) | refine PickK.intro (fun h => ?_) (fun h => ?_)) <;> simp only [h, lS, ea, evS, tyS, Bool.not_true, Bool.not_false, Nat.reduceAdd, Nat.reduceSub, Nat.reduceMul, Nat.reduceLT, Nat.reduceLeDiff, Nat.reduceEqDiff, reduceCtorEq, List.reduceReplicate, Int.reduceToNat, Int.reduceLE, Int.reduceLT]) | (refine DrawK.intro (by kernel_rfl) (by kernel_rfl) ?_; simp only [lS, ea, evS, tyS, Bool.not_true, Bool.not_false, Nat.reduceAdd, Nat.reduceSub, Nat.reduceMul, Nat.reduceLT, Nat.reduceLeDiff, Nat.reduceEqDiff, reduceCtorEq, List.reduceReplicate, Int.reduceToNat, Int.reduceLE, Int.reduceLT])))
              all_goals try (((try simp only [decide_eq_true_eq, decide_eq_false_iff_not, beq_iff_eq, bne_iff_ne, ne_eq, beq_eq_false_iff_ne, bne_eq_false_iff_eq] at *) <;> (try omega)); done)
              have hn := nu i hdig
              rw [numberD_av] at hn
              cases hN : numberD (l.drop i) with
              | ok t =>
                rw [hN] at hn hh
                refine CallK.intro b48 (by simp [treeL, treeA]) hn ?_
                simp only [lS, ea, resTA, okTok, TokD.av, tokA, evS, tyS, Bool.not_true, Bool.not_false, Nat.reduceAdd, Nat.reduceSub, Nat.reduceMul, Nat.reduceLT, Nat.reduceLeDiff, Nat.reduceEqDiff, reduceCtorEq, List.reduceReplicate, Int.reduceToNat, Int.reduceLE, Int.reduceLT]
                refine labelC.intro (2, i, t, 0) (nextI2 hlt hTj (.inl ⟨rfl, hh⟩)) rfl ?_ (by intro k hk; cases hk)
                simp only [nextS, tcells, evS, tyS, Bool.not_true, Bool.not_false, Nat.reduceAdd, Nat.reduceSub, Nat.reduceMul, Nat.reduceLT, Nat.reduceLeDiff, Nat.reduceEqDiff, reduceCtorEq, List.reduceReplicate, Int.reduceToNat, Int.reduceLE, Int.reduceLT]
                (repeat' (first | (with_reducible refine And.intro ?_ ?_) | ((first | refine GuardK.intro_f (fun h => ?_) (fun h => ?_) | refine GuardK.intro_t (fun h => ?_) (fun h => ?_) | refine CondK.intro (fun h => ?_) (fun h => ?_) | refine PickK.intro (fun h => ?_) (fun h => ?_)) <;> simp only [h, evS, tyS, Bool.not_true, Bool.not_false, Nat.reduceAdd, Nat.reduceSub, Nat.reduceMul, Nat.reduceLT, Nat.reduceLeDiff, Nat.reduceEqDiff, reduceCtorEq, List.reduceReplicate, Int.reduceToNat, Int.reduceLE, Int.reduceLT]) | (refine DrawK.intro (by kernel_rfl) (by kernel_rfl) ?_; simp only [evS, tyS, Bool.not_true, Bool.not_false, Nat.reduceAdd, Nat.reduceSub, Nat.reduceMul, Nat.reduceLT, Nat.reduceLeDiff, Nat.reduceEqDiff, reduceCtorEq, List.reduceReplicate, Int.reduceToNat, Int.reduceLE, Int.reduceLT])))
                all_goals first | rfl | trivial | exact .inl rfl
              | error e =>
                rw [hN] at hn hh
                refine CallK.intro b48 (by simp [treeL, treeA]) hn ?_
                simp only [lS, ea, resTA, errTok, tokA, f0, evS, tyS, Bool.not_true, Bool.not_false, Nat.reduceAdd, Nat.reduceSub, Nat.reduceMul, Nat.reduceLT, Nat.reduceLeDiff, Nat.reduceEqDiff, reduceCtorEq, List.reduceReplicate, Int.reduceToNat, Int.reduceLE, Int.reduceLT]
                refine labelC.intro (2, i, zeroT, e) (nextI2 hlt hTj (.inr ⟨numberD_err hN, hh⟩)) rfl ?_ (by intro k hk; cases hk)
                simp only [nextS, tcells, zeroT, evS, tyS, Bool.not_true, Bool.not_false, Nat.reduceAdd, Nat.reduceSub, Nat.reduceMul, Nat.reduceLT, Nat.reduceLeDiff, Nat.reduceEqDiff, reduceCtorEq, List.reduceReplicate, Int.reduceToNat, Int.reduceLE, Int.reduceLT]
                (repeat' (first | (with_reducible refine And.intro ?_ ?_) | ((first | refine GuardK.intro_f (fun h => ?_) (fun h => ?_) | refine GuardK.intro_t (fun h => ?_) (fun h => ?_) | refine CondK.intro (fun h => ?_) (fun h => ?_) | refine PickK.intro (fun h => ?_) (fun h => ?_)) <;> simp only [h, evS, tyS, Bool.not_true, Bool.not_false, Nat.reduceAdd, Nat.reduceSub, Nat.reduceMul, Nat.reduceLT, Nat.reduceLeDiff, Nat.reduceEqDiff, reduceCtorEq, List.reduceReplicate, Int.reduceToNat, Int.reduceLE, Int.reduceLT]) | (refine DrawK.intro (by kernel_rfl) (by kernel_rfl) ?_; simp only [evS, tyS, Bool.not_true, Bool.not_false, Nat.reduceAdd, Nat.reduceSub, Nat.reduceMul, Nat.reduceLT, Nat.reduceLeDiff, Nat.reduceEqDiff, reduceCtorEq, List.reduceReplicate, Int.reduceToNat, Int.reduceLE, Int.reduceLT])))
                all_goals first | rfl | trivial | exact .inl rfl
            | false =>
              rw [if_neg (by rw [hdig]; decide)] at hh
              simp only [lS, ea, c34, evS, tyS, Bool.not_true, Bool.not_false, Nat.reduceAdd, Nat.reduceSub, Nat.reduceMul, Nat.reduceLT, Nat.reduceLeDiff, Nat.reduceEqDiff, reduceCtorEq, List.reduceReplicate, Int.reduceToNat, Int.reduceLE, Int.reduceLT]
              refine CondK.intro (fun h34 => ?_) (fun h34 => ?_) <;> simp only [h34, lS, ea, evS, tyS, Bool.not_true, Bool.not_false, Nat.reduceAdd, Nat.reduceSub, Nat.reduceMul, Nat.reduceLT, Nat.reduceLeDiff, Nat.reduceEqDiff, reduceCtorEq, List.reduceReplicate, Int.reduceToNat, Int.reduceLE, Int.reduceLT]
              · rw [if_pos (of_decide_eq_true h34)] at hh
                (repeat' (first | (with_reducible refine And.intro ?_ ?_) | ((first | refine GuardK.intro_f (fun h => ?_) (fun h => ?_) | refine GuardK.intro_t (fun h => ?_) (fun h => ?_) | refine CondK.intro (fun h => ?_) (fun h => ?_) | refine PickK.intro (fun h => ?_) (fun h => ?_)) <;> simp only [h, lS, ea, evS, tyS, Bool.not_true, Bool.not_false, Nat.reduceAdd, Nat.reduceSub, Nat.reduceMul, Nat.reduceLT, Nat.reduceLeDiff, Nat.reduceEqDiff, reduceCtorEq, List.reduceReplicate, Int.reduceToNat, Int.reduceLE, Int.reduceLT]) | (refine DrawK.intro (by kernel_rfl) (by kernel_rfl) ?_; simp only [lS, ea, evS, tyS, Bool.not_true, Bool.not_false, Nat.reduceAdd, Nat.reduceSub, Nat.reduceMul, Nat.reduceLT, Nat.reduceLeDiff, Nat.reduceEqDiff, reduceCtorEq, List.reduceReplicate, Int.reduceToNat, Int.reduceLE, Int.reduceLT])))
                all_goals try (((try simp only [decide_eq_true_eq, decide_eq_false_iff_not, beq_iff_eq, bne_iff_ne, ne_eq, beq_eq_false_iff_ne, bne_eq_false_iff_eq] at *) <;> (try omega)); done)
                have hn := tx i
                have hte := textD_av (l.drop i)
                rw [List.length_drop] at hte
                rw [hte] at hn
                cases hN : textD (l.drop i) with
                | ok t =>
                  rw [hN] at hn hh
                  refine CallK.intro b49 (by simp [treeL, treeA]) hn ?_
                  simp only [lS, ea, resTA, okTok, TokD.av, tokA, evS, tyS, Bool.not_true, Bool.not_false, Nat.reduceAdd, Nat.reduceSub, Nat.reduceMul, Nat.reduceLT, Nat.reduceLeDiff, Nat.reduceEqDiff, reduceCtorEq, List.reduceReplicate, Int.reduceToNat, Int.reduceLE, Int.reduceLT]
                  refine labelC.intro (2, i, t, 0) (nextI2 hlt hTj (.inl ⟨rfl, hh⟩)) rfl ?_ (by intro k hk; cases hk)
                  simp only [nextS, tcells, evS, tyS, Bool.not_true, Bool.not_false, Nat.reduceAdd, Nat.reduceSub, Nat.reduceMul, Nat.reduceLT, Nat.reduceLeDiff, Nat.reduceEqDiff, reduceCtorEq, List.reduceReplicate, Int.reduceToNat, Int.reduceLE, Int.reduceLT]
                  (repeat' (first | (with_reducible refine And.intro ?_ ?_) | ((first | refine GuardK.intro_f (fun h => ?_) (fun h => ?_) | refine GuardK.intro_t (fun h => ?_) (fun h => ?_) | refine CondK.intro (fun h => ?_) (fun h => ?_) | refine PickK.intro (fun h => ?_) (fun h => ?_)) <;> simp only [h, evS, tyS, Bool.not_true, Bool.not_false, Nat.reduceAdd, Nat.reduceSub, Nat.reduceMul, Nat.reduceLT, Nat.reduceLeDiff, Nat.reduceEqDiff, reduceCtorEq, List.reduceReplicate, Int.reduceToNat, Int.reduceLE, Int.reduceLT]) | (refine DrawK.intro (by kernel_rfl) (by kernel_rfl) ?_; simp only [evS, tyS, Bool.not_true, Bool.not_false, Nat.reduceAdd, Nat.reduceSub, Nat.reduceMul, Nat.reduceLT, Nat.reduceLeDiff, Nat.reduceEqDiff, reduceCtorEq, List.reduceReplicate, Int.reduceToNat, Int.reduceLE, Int.reduceLT])))
                  all_goals first | rfl | trivial | exact .inl rfl
                | error e =>
                  rw [hN] at hn hh
                  refine CallK.intro b49 (by simp [treeL, treeA]) hn ?_
                  simp only [lS, ea, resTA, errTok, tokA, f0, evS, tyS, Bool.not_true, Bool.not_false, Nat.reduceAdd, Nat.reduceSub, Nat.reduceMul, Nat.reduceLT, Nat.reduceLeDiff, Nat.reduceEqDiff, reduceCtorEq, List.reduceReplicate, Int.reduceToNat, Int.reduceLE, Int.reduceLT]
                  refine labelC.intro (2, i, zeroT, e) (nextI2 hlt hTj (.inr ⟨textD_err hN, hh⟩)) rfl ?_ (by intro k hk; cases hk)
                  simp only [nextS, tcells, zeroT, evS, tyS, Bool.not_true, Bool.not_false, Nat.reduceAdd, Nat.reduceSub, Nat.reduceMul, Nat.reduceLT, Nat.reduceLeDiff, Nat.reduceEqDiff, reduceCtorEq, List.reduceReplicate, Int.reduceToNat, Int.reduceLE, Int.reduceLT]
                  (repeat' (first | (with_reducible refine And.intro ?_ ?_) | ((first | refine GuardK.intro_f (fun h => ?_) (fun h => ?_) | refine GuardK.intro_t (fun h => ?_) (fun h => ?_) | refine CondK.intro (fun h => ?_) (fun h => ?_) | refine PickK.intro (fun h => ?_) (fun h => ?_)) <;> simp only [h, evS, tyS, Bool.not_true, Bool.not_false, Nat.reduceAdd, Nat.reduceSub, Nat.reduceMul, Nat.reduceLT, Nat.reduceLeDiff, Nat.reduceEqDiff, reduceCtorEq, List.reduceReplicate, Int.reduceToNat, Int.reduceLE, Int.reduceLT]) | (refine DrawK.intro (by kernel_rfl) (by kernel_rfl) ?_; simp only [evS, tyS, Bool.not_true, Bool.not_false, Nat.reduceAdd, Nat.reduceSub, Nat.reduceMul, Nat.reduceLT, Nat.reduceLeDiff, Nat.reduceEqDiff, reduceCtorEq, List.reduceReplicate, Int.reduceToNat, Int.reduceLE, Int.reduceLT])))
                  all_goals first | rfl | trivial | exact .inl rfl
              · rw [if_neg (of_decide_eq_false h34)] at hh
                (repeat' (first | (with_reducible refine And.intro ?_ ?_) | ((first | refine GuardK.intro_f (fun h => ?_) (fun h => ?_) | refine GuardK.intro_t (fun h => ?_) (fun h => ?_) | refine CondK.intro (fun h => ?_) (fun h => ?_) | refine PickK.intro (fun h => ?_) (fun h => ?_)) <;> simp only [h, lS, ea, evS, tyS, Bool.not_true, Bool.not_false, Nat.reduceAdd, Nat.reduceSub, Nat.reduceMul, Nat.reduceLT, Nat.reduceLeDiff, Nat.reduceEqDiff, reduceCtorEq, List.reduceReplicate, Int.reduceToNat, Int.reduceLE, Int.reduceLT]) | (refine DrawK.intro (by kernel_rfl) (by kernel_rfl) ?_; simp only [lS, ea, evS, tyS, Bool.not_true, Bool.not_false, Nat.reduceAdd, Nat.reduceSub, Nat.reduceMul, Nat.reduceLT, Nat.reduceLeDiff, Nat.reduceEqDiff, reduceCtorEq, List.reduceReplicate, Int.reduceToNat, Int.reduceLE, Int.reduceLT])))
                all_goals try (((try simp only [decide_eq_true_eq, decide_eq_false_iff_not, beq_iff_eq, bne_iff_ne, ne_eq, beq_eq_false_iff_ne, bne_eq_false_iff_eq] at *) <;> (try omega)); done)
                have hn := mk mx hmx i hlt
                refine CallK.intro b50 (by simp [treeL, treeA]) hn ?_
                by_cases hm0 : markN (l.drop i) = 0
                · rw [if_pos hm0] at hh
                  rw [markA, if_pos hm0]
                  have z00 : ((0 : Int) == 0) = true := by decide
                  simp only [lS, ea, tokA, f0, z00, evS, tyS, Bool.not_true, Bool.not_false, Nat.reduceAdd, Nat.reduceSub, Nat.reduceMul, Nat.reduceLT, Nat.reduceLeDiff, Nat.reduceEqDiff, reduceCtorEq, List.reduceReplicate, Int.reduceToNat, Int.reduceLE, Int.reduceLT]
                  refine labelC.intro (2, i, zeroT, 10) (nextI2 hlt hTj (.inr ⟨by decide, hh⟩)) rfl ?_ (by intro k hk; cases hk)
                  simp only [nextS, tcells, zeroT, evS, tyS, Bool.not_true, Bool.not_false, Nat.reduceAdd, Nat.reduceSub, Nat.reduceMul, Nat.reduceLT, Nat.reduceLeDiff, Nat.reduceEqDiff, reduceCtorEq, List.reduceReplicate, Int.reduceToNat, Int.reduceLE, Int.reduceLT]
                  (repeat' (first | (with_reducible refine And.intro ?_ ?_) | ((first | refine GuardK.intro_f (fun h => ?_) (fun h => ?_) | refine GuardK.intro_t (fun h => ?_) (fun h => ?_) | refine CondK.intro (fun h => ?_) (fun h => ?_) | refine PickK.intro (fun h => ?_) (fun h => ?_)) <;> simp only [h, evS, tyS, Bool.not_true, Bool.not_false, Nat.reduceAdd, Nat.reduceSub, Nat.reduceMul, Nat.reduceLT, Nat.reduceLeDiff, Nat.reduceEqDiff, reduceCtorEq, List.reduceReplicate, Int.reduceToNat, Int.reduceLE, Int.reduceLT]) | (refine DrawK.intro (by kernel_rfl) (by kernel_rfl) ?_; simp only [evS, tyS, Bool.not_true, Bool.not_false, Nat.reduceAdd, Nat.reduceSub, Nat.reduceMul, Nat.reduceLT, Nat.reduceLeDiff, Nat.reduceEqDiff, reduceCtorEq, List.reduceReplicate, Int.reduceToNat, Int.reduceLE, Int.reduceLT])))
                  all_goals first | rfl | trivial | exact .inl rfl
                · rw [if_neg hm0] at hh
                  rw [markA, if_neg hm0]
                  generalize markN (l.drop i) = n at hh ⊢
                  have z50 : ((5 : Int) == 0) = false := by decide
                  simp only [lS, ea, tokA, f0, z50, evS, tyS, Bool.not_true, Bool.not_false, Nat.reduceAdd, Nat.reduceSub, Nat.reduceMul, Nat.reduceLT, Nat.reduceLeDiff, Nat.reduceEqDiff, reduceCtorEq, List.reduceReplicate, Int.reduceToNat, Int.reduceLE, Int.reduceLT]
                  refine labelC.intro (2, i, ⟨5, (l.drop i).take n, 0, 0, n⟩, 0) (nextI2 hlt hTj (.inl ⟨rfl, hh⟩)) rfl ?_ (by intro k hk; cases hk)
                  simp only [nextS, tcells, evS, tyS, Bool.not_true, Bool.not_false, Nat.reduceAdd, Nat.reduceSub, Nat.reduceMul, Nat.reduceLT, Nat.reduceLeDiff, Nat.reduceEqDiff, reduceCtorEq, List.reduceReplicate, Int.reduceToNat, Int.reduceLE, Int.reduceLT]
                  (repeat' (first | (with_reducible refine And.intro ?_ ?_) | ((first | refine GuardK.intro_f (fun h => ?_) (fun h => ?_) | refine GuardK.intro_t (fun h => ?_) (fun h => ?_) | refine CondK.intro (fun h => ?_) (fun h => ?_) | refine PickK.intro (fun h => ?_) (fun h => ?_)) <;> simp only [h, evS, tyS, Bool.not_true, Bool.not_false, Nat.reduceAdd, Nat.reduceSub, Nat.reduceMul, Nat.reduceLT, Nat.reduceLeDiff, Nat.reduceEqDiff, reduceCtorEq, List.reduceReplicate, Int.reduceToNat, Int.reduceLE, Int.reduceLT]) | (refine DrawK.intro (by kernel_rfl) (by kernel_rfl) ?_; simp only [evS, tyS, Bool.not_true, Bool.not_false, Nat.reduceAdd, Nat.reduceSub, Nat.reduceMul, Nat.reduceLT, Nat.reduceLeDiff, Nat.reduceEqDiff, reduceCtorEq, List.reduceReplicate, Int.reduceToNat, Int.reduceLE, Int.reduceLT])))
                  all_goals first | rfl | trivial | exact .inl rfl
  · rintro ⟨lb, j, t, e⟩ hj
    match lb, hj with
    | 0, hj =>
      obtain ⟨hj1, hjT, rfl, rfl⟩ := hj
      refine ⟨_, rfl, ?_⟩
      simp only [nextS, lS, tcells, zeroT, zero6, evS, tyS, Bool.not_true, Bool.not_false, Nat.reduceAdd, Nat.reduceSub, Nat.reduceMul, Nat.reduceLT, Nat.reduceLeDiff, Nat.reduceEqDiff, reduceCtorEq, List.reduceReplicate, Int.reduceToNat, Int.reduceLE, Int.reduceLT]
      refine CondK.intro (fun h => ?_) (fun h => ?_) <;> simp only [h, lS, evS, tyS, Bool.not_true, Bool.not_false, Nat.reduceAdd, Nat.reduceSub, Nat.reduceMul, Nat.reduceLT, Nat.reduceLeDiff, Nat.reduceEqDiff, reduceCtorEq, List.reduceReplicate, Int.reduceToNat, Int.reduceLE, Int.reduceLT]
      · have hge : l.length ≤ j := by ((try simp only [decide_eq_true_eq, decide_eq_false_iff_not, beq_iff_eq, bne_iff_ne, ne_eq, beq_eq_false_iff_ne, bne_eq_false_iff_eq] at *) <;> (try omega))
        rw [hEnd (by rw [hjT, nextT]; omega)]
        simp only [tokA, f0, lS, evS, tyS, Bool.not_true, Bool.not_false, Nat.reduceAdd, Nat.reduceSub, Nat.reduceMul, Nat.reduceLT, Nat.reduceLeDiff, Nat.reduceEqDiff, reduceCtorEq, List.reduceReplicate, Int.reduceToNat, Int.reduceLE, Int.reduceLT]
      · have hlt : j < l.length := by ((try simp only [decide_eq_true_eq, decide_eq_false_iff_not, beq_iff_eq, bne_iff_ne, ne_eq, beq_eq_false_iff_ne, bne_eq_false_iff_eq] at *) <;> (try omega))
        have ew : IntKind.i64.wrap ((j : Int) + 1) = ((j + 1 : Nat) : Int) := i64w (by omega) (by omega)
        have ea : ∀ j, (l.getD j 0).toNat = atL l j := fun _ => rfl
        (repeat' (with_reducible refine And.intro ?_ ?_))
        all_goals try (((try simp only [decide_eq_true_eq, decide_eq_false_iff_not, beq_iff_eq, bne_iff_ne, ne_eq, beq_eq_false_iff_ne, bne_eq_false_iff_eq] at *) <;> (try omega)); done)
        have c32 : ((atL l j : Int) == 32) = decide (atL l j = 32) := ek 32 _
        have c9 : ((atL l j : Int) == 9) = decide (atL l j = 9) := ek 9 _
        have c10 : ((atL l j : Int) == 10) = decide (atL l j = 10) := ek 10 _
        have c13 : ((atL l j : Int) == 13) = decide (atL l j = 13) := ek 13 _
        have c35 : ((atL l j : Int) == 35) = decide (atL l j = 35) := ek 35 _
        have c34 : ((atL l j : Int) == 34) = decide (atL l j = 34) := ek 34 _
        by_cases hb : blankN (atL l j) = true
        · have hb' := of_decide_eq_true hb
          have hgb := gap_blank hlt hb
          simp only [ea, ew, lS, c32, c9, c10, c13, evS, tyS, Bool.not_true, Bool.not_false, Nat.reduceAdd, Nat.reduceSub, Nat.reduceMul, Nat.reduceLT, Nat.reduceLeDiff, Nat.reduceEqDiff, reduceCtorEq, List.reduceReplicate, Int.reduceToNat, Int.reduceLE, Int.reduceLT]
          (repeat' (first | (with_reducible refine And.intro ?_ ?_) | ((first | refine GuardK.intro_f (fun h => ?_) (fun h => ?_) | refine GuardK.intro_t (fun h => ?_) (fun h => ?_) | refine CondK.intro (fun h => ?_) (fun h => ?_) | refine PickK.intro (fun h => ?_) (fun h => ?_)) <;> simp only [h, ea, ew, lS, c32, c9, c10, c13, evS, tyS, Bool.not_true, Bool.not_false, Nat.reduceAdd, Nat.reduceSub, Nat.reduceMul, Nat.reduceLT, Nat.reduceLeDiff, Nat.reduceEqDiff, reduceCtorEq, List.reduceReplicate, Int.reduceToNat, Int.reduceLE, Int.reduceLT]) | (refine DrawK.intro (by kernel_rfl) (by kernel_rfl) ?_; simp only [ea, ew, lS, c32, c9, c10, c13, evS, tyS, Bool.not_true, Bool.not_false, Nat.reduceAdd, Nat.reduceSub, Nat.reduceMul, Nat.reduceLT, Nat.reduceLeDiff, Nat.reduceEqDiff, reduceCtorEq, List.reduceReplicate, Int.reduceToNat, Int.reduceLE, Int.reduceLT])))
          all_goals first
            | (refine labelC.intro (0, j + 1, zeroT, 0) (nextI0 (by omega) (by rw [hjT, nextT, hgb, nextT]; omega)) rfl ?_ (by intro k hk; cases hk; simp only [nextM]; omega)
               simp only [nextS, ew, tcells, zeroT, evS, tyS, Bool.not_true, Bool.not_false, Nat.reduceAdd, Nat.reduceSub, Nat.reduceMul, Nat.reduceLT, Nat.reduceLeDiff, Nat.reduceEqDiff, reduceCtorEq, List.reduceReplicate, Int.reduceToNat, Int.reduceLE, Int.reduceLT]
               (repeat' (first | (with_reducible refine And.intro ?_ ?_) | ((first | refine GuardK.intro_f (fun h => ?_) (fun h => ?_) | refine GuardK.intro_t (fun h => ?_) (fun h => ?_) | refine CondK.intro (fun h => ?_) (fun h => ?_) | refine PickK.intro (fun h => ?_) (fun h => ?_)) <;> simp only [h, evS, tyS, Bool.not_true, Bool.not_false, Nat.reduceAdd, Nat.reduceSub, Nat.reduceMul, Nat.reduceLT, Nat.reduceLeDiff, Nat.reduceEqDiff, reduceCtorEq, List.reduceReplicate, Int.reduceToNat, Int.reduceLE, Int.reduceLT]) | (refine DrawK.intro (by kernel_rfl) (by kernel_rfl) ?_; simp only [evS, tyS, Bool.not_true, Bool.not_false, Nat.reduceAdd, Nat.reduceSub, Nat.reduceMul, Nat.reduceLT, Nat.reduceLeDiff, Nat.reduceEqDiff, reduceCtorEq, List.reduceReplicate, Int.reduceToNat, Int.reduceLE, Int.reduceLT])))
               all_goals first | rfl | trivial | exact .inl rfl)
            | (exfalso; ((try simp only [decide_eq_true_eq, decide_eq_false_iff_not, beq_iff_eq, bne_iff_ne, ne_eq, beq_eq_false_iff_ne, bne_eq_false_iff_eq] at *) <;> (try omega)))
        · have hb1 : blankN (atL l j) = false := by simpa using hb
          have hb' := of_decide_eq_false hb1
          have d32 : decide (atL l j = 32) = false := decide_eq_false (by omega)
          have d9 : decide (atL l j = 9) = false := decide_eq_false (by omega)
          have d10 : decide (atL l j = 10) = false := decide_eq_false (by omega)
          have d13 : decide (atL l j = 13) = false := decide_eq_false (by omega)
          simp only [ea, ew, lS, c32, c9, c10, c13, d32, d9, d10, d13, c35, evS, tyS, Bool.not_true, Bool.not_false, Nat.reduceAdd, Nat.reduceSub, Nat.reduceMul, Nat.reduceLT, Nat.reduceLeDiff, Nat.reduceEqDiff, reduceCtorEq, List.reduceReplicate, Int.reduceToNat, Int.reduceLE, Int.reduceLT]
          refine CondK.intro (fun h35 => ?_) (fun h35 => ?_) <;> simp only [h35, lS, ea, evS, tyS, Bool.not_true, Bool.not_false, Nat.reduceAdd, Nat.reduceSub, Nat.reduceMul, Nat.reduceLT, Nat.reduceLeDiff, Nat.reduceEqDiff, reduceCtorEq, List.reduceReplicate, Int.reduceToNat, Int.reduceLE, Int.reduceLT]
          · refine labelC.intro (1, j, zeroT, 0) (nextI1 hlt (by rw [hjT, nextT, gap_com hlt hb1 (of_decide_eq_true h35)]; omega)) rfl ?_ (by intro k hk; cases hk; simp only [nextM]; omega)
            simp only [nextS, ew, tcells, zeroT, evS, tyS, Bool.not_true, Bool.not_false, Nat.reduceAdd, Nat.reduceSub, Nat.reduceMul, Nat.reduceLT, Nat.reduceLeDiff, Nat.reduceEqDiff, reduceCtorEq, List.reduceReplicate, Int.reduceToNat, Int.reduceLE, Int.reduceLT]
            (repeat' (first | (with_reducible refine And.intro ?_ ?_) | ((first | refine GuardK.intro_f (fun h => ?_) (fun h => ?_) | refine GuardK.intro_t (fun h => ?_) (fun h => ?_) | refine CondK.intro (fun h => ?_) (fun h => ?_) | refine PickK.intro (fun h => ?_) (fun h => ?_)) <;> simp only [h, evS, tyS, Bool.not_true, Bool.not_false, Nat.reduceAdd, Nat.reduceSub, Nat.reduceMul, Nat.reduceLT, Nat.reduceLeDiff, Nat.reduceEqDiff, reduceCtorEq, List.reduceReplicate, Int.reduceToNat, Int.reduceLE, Int.reduceLT]) | (refine DrawK.intro (by kernel_rfl) (by kernel_rfl) ?_; simp only [evS, tyS, Bool.not_true, Bool.not_false, Nat.reduceAdd, Nat.reduceSub, Nat.reduceMul, Nat.reduceLT, Nat.reduceLeDiff, Nat.reduceEqDiff, reduceCtorEq, List.reduceReplicate, Int.reduceToNat, Int.reduceLE, Int.reduceLT])))
            all_goals first | rfl | trivial | exact .inl rfl
          · have hTj : T = j := by rw [hjT, nextT, gap_stop hlt hb1 (of_decide_eq_false h35)]; omega
            have hh : headD (l.drop j) = if letterN (atL l j) = true then (if 32 < spanEnd nameN (l.drop j) 1 then .error 13 else .ok ⟨1, (l.drop j).take (spanEnd nameN (l.drop j) 1), 0, 0, spanEnd nameN (l.drop j) 1⟩)
                else if digitN (atL l j) = true then numberD (l.drop j)
                else if atL l j = 34 then textD (l.drop j)
                else if markN (l.drop j) = 0 then .error 10 else .ok ⟨5, (l.drop j).take (markN (l.drop j)), 0, 0, markN (l.drop j)⟩ := by rw [headD, ha0]
            refine CallK.intro b45 rfl (lexLetter_ev _) ?_
            cases hlet : letterN (atL l j) with
            | true =>
              rw [if_pos hlet] at hh
              simp only [lS, ea, evS, tyS, Bool.not_true, Bool.not_false, Nat.reduceAdd, Nat.reduceSub, Nat.reduceMul, Nat.reduceLT, Nat.reduceLeDiff, Nat.reduceEqDiff, reduceCtorEq, List.reduceReplicate, Int.reduceToNat, Int.reduceLE, Int.reduceLT]
              (repeat' (first | (with_reducible refine And.intro ?_ ?_) | ((first | refine GuardK.intro_f (fun h => ?_) (fun h => ?_) | refine GuardK.intro_t (fun h => ?_) (fun h => ?_) | refine CondK.intro (fun h => ?_) (fun h => ?_) | refine PickK.intro (fun h => ?_) (fun h => ?_)) <;> simp only [h, lS, ea, evS, tyS, Bool.not_true, Bool.not_false, Nat.reduceAdd, Nat.reduceSub, Nat.reduceMul, Nat.reduceLT, Nat.reduceLeDiff, Nat.reduceEqDiff, reduceCtorEq, List.reduceReplicate, Int.reduceToNat, Int.reduceLE, Int.reduceLT]) | (refine DrawK.intro (by kernel_rfl) (by kernel_rfl) ?_; simp only [lS, ea, evS, tyS, Bool.not_true, Bool.not_false, Nat.reduceAdd, Nat.reduceSub, Nat.reduceMul, Nat.reduceLT, Nat.reduceLeDiff, Nat.reduceEqDiff, reduceCtorEq, List.reduceReplicate, Int.reduceToNat, Int.reduceLE, Int.reduceLT])))
              all_goals try (((try simp only [decide_eq_true_eq, decide_eq_false_iff_not, beq_iff_eq, bne_iff_ne, ne_eq, beq_eq_false_iff_ne, bne_eq_false_iff_eq] at *) <;> (try omega)); done)
              refine CallK.intro b46 (by simp [treeL, treeA]) (nm j hlt) ?_
              generalize spanEnd nameN (l.drop j) 1 = n at hh ⊢
              simp only [lS, ea, tokA, f0, evS, tyS, Bool.not_true, Bool.not_false, Nat.reduceAdd, Nat.reduceSub, Nat.reduceMul, Nat.reduceLT, Nat.reduceLeDiff, Nat.reduceEqDiff, reduceCtorEq, List.reduceReplicate, Int.reduceToNat, Int.reduceLE, Int.reduceLT]
              refine CondK.intro (fun h32 => ?_) (fun h32 => ?_) <;> simp only [h32, lS, ea, evS, tyS, Bool.not_true, Bool.not_false, Nat.reduceAdd, Nat.reduceSub, Nat.reduceMul, Nat.reduceLT, Nat.reduceLeDiff, Nat.reduceEqDiff, reduceCtorEq, List.reduceReplicate, Int.reduceToNat, Int.reduceLE, Int.reduceLT]
              · rw [if_pos (by have := of_decide_eq_true h32; omega)] at hh
                refine labelC.intro (2, j, ⟨1, (l.drop j).take n, 0, 0, n⟩, 13) (nextI2 hlt hTj (.inr ⟨by decide, hh⟩)) rfl ?_ (by intro k hk; cases hk; simp only [nextM]; omega)
                simp only [nextS, tcells, evS, tyS, Bool.not_true, Bool.not_false, Nat.reduceAdd, Nat.reduceSub, Nat.reduceMul, Nat.reduceLT, Nat.reduceLeDiff, Nat.reduceEqDiff, reduceCtorEq, List.reduceReplicate, Int.reduceToNat, Int.reduceLE, Int.reduceLT]
                (repeat' (first | (with_reducible refine And.intro ?_ ?_) | ((first | refine GuardK.intro_f (fun h => ?_) (fun h => ?_) | refine GuardK.intro_t (fun h => ?_) (fun h => ?_) | refine CondK.intro (fun h => ?_) (fun h => ?_) | refine PickK.intro (fun h => ?_) (fun h => ?_)) <;> simp only [h, evS, tyS, Bool.not_true, Bool.not_false, Nat.reduceAdd, Nat.reduceSub, Nat.reduceMul, Nat.reduceLT, Nat.reduceLeDiff, Nat.reduceEqDiff, reduceCtorEq, List.reduceReplicate, Int.reduceToNat, Int.reduceLE, Int.reduceLT]) | (refine DrawK.intro (by kernel_rfl) (by kernel_rfl) ?_; simp only [evS, tyS, Bool.not_true, Bool.not_false, Nat.reduceAdd, Nat.reduceSub, Nat.reduceMul, Nat.reduceLT, Nat.reduceLeDiff, Nat.reduceEqDiff, reduceCtorEq, List.reduceReplicate, Int.reduceToNat, Int.reduceLE, Int.reduceLT])))
                all_goals first | rfl | trivial | exact .inl rfl
              · rw [if_neg (by have := of_decide_eq_false h32; omega)] at hh
                refine labelC.intro (2, j, ⟨1, (l.drop j).take n, 0, 0, n⟩, 0) (nextI2 hlt hTj (.inl ⟨rfl, hh⟩)) rfl ?_ (by intro k hk; cases hk; simp only [nextM]; omega)
                simp only [nextS, tcells, evS, tyS, Bool.not_true, Bool.not_false, Nat.reduceAdd, Nat.reduceSub, Nat.reduceMul, Nat.reduceLT, Nat.reduceLeDiff, Nat.reduceEqDiff, reduceCtorEq, List.reduceReplicate, Int.reduceToNat, Int.reduceLE, Int.reduceLT]
                (repeat' (first | (with_reducible refine And.intro ?_ ?_) | ((first | refine GuardK.intro_f (fun h => ?_) (fun h => ?_) | refine GuardK.intro_t (fun h => ?_) (fun h => ?_) | refine CondK.intro (fun h => ?_) (fun h => ?_) | refine PickK.intro (fun h => ?_) (fun h => ?_)) <;> simp only [h, evS, tyS, Bool.not_true, Bool.not_false, Nat.reduceAdd, Nat.reduceSub, Nat.reduceMul, Nat.reduceLT, Nat.reduceLeDiff, Nat.reduceEqDiff, reduceCtorEq, List.reduceReplicate, Int.reduceToNat, Int.reduceLE, Int.reduceLT]) | (refine DrawK.intro (by kernel_rfl) (by kernel_rfl) ?_; simp only [evS, tyS, Bool.not_true, Bool.not_false, Nat.reduceAdd, Nat.reduceSub, Nat.reduceMul, Nat.reduceLT, Nat.reduceLeDiff, Nat.reduceEqDiff, reduceCtorEq, List.reduceReplicate, Int.reduceToNat, Int.reduceLE, Int.reduceLT])))
                all_goals first | rfl | trivial | exact .inl rfl
            | false =>
              rw [if_neg (by rw [hlet]; decide)] at hh
              simp only [lS, ea, evS, tyS, Bool.not_true, Bool.not_false, Nat.reduceAdd, Nat.reduceSub, Nat.reduceMul, Nat.reduceLT, Nat.reduceLeDiff, Nat.reduceEqDiff, reduceCtorEq, List.reduceReplicate, Int.reduceToNat, Int.reduceLE, Int.reduceLT]
              refine CallK.intro b47 rfl (lexDigit_ev _) ?_
              cases hdig : digitN (atL l j) with
              | true =>
                rw [if_pos hdig] at hh
                simp only [lS, ea, evS, tyS, Bool.not_true, Bool.not_false, Nat.reduceAdd, Nat.reduceSub, Nat.reduceMul, Nat.reduceLT, Nat.reduceLeDiff, Nat.reduceEqDiff, reduceCtorEq, List.reduceReplicate, Int.reduceToNat, Int.reduceLE, Int.reduceLT]
                (repeat' (first | (with_reducible refine And.intro ?_ ?_) | ((first | refine GuardK.intro_f (fun h => ?_) (fun h => ?_) | refine GuardK.intro_t (fun h => ?_) (fun h => ?_) | refine CondK.intro (fun h => ?_) (fun h => ?_) | refine PickK.intro (fun h => ?_) (fun h => ?_)) <;> simp only [h, lS, ea, evS, tyS, Bool.not_true, Bool.not_false, Nat.reduceAdd, Nat.reduceSub, Nat.reduceMul, Nat.reduceLT, Nat.reduceLeDiff, Nat.reduceEqDiff, reduceCtorEq, List.reduceReplicate, Int.reduceToNat, Int.reduceLE, Int.reduceLT]) | (refine DrawK.intro (by kernel_rfl) (by kernel_rfl) ?_; simp only [lS, ea, evS, tyS, Bool.not_true, Bool.not_false, Nat.reduceAdd, Nat.reduceSub, Nat.reduceMul, Nat.reduceLT, Nat.reduceLeDiff, Nat.reduceEqDiff, reduceCtorEq, List.reduceReplicate, Int.reduceToNat, Int.reduceLE, Int.reduceLT])))
                all_goals try (((try simp only [decide_eq_true_eq, decide_eq_false_iff_not, beq_iff_eq, bne_iff_ne, ne_eq, beq_eq_false_iff_ne, bne_eq_false_iff_eq] at *) <;> (try omega)); done)
                have hn := nu j hdig
                rw [numberD_av] at hn
                cases hN : numberD (l.drop j) with
                | ok t =>
                  rw [hN] at hn hh
                  refine CallK.intro b48 (by simp [treeL, treeA]) hn ?_
                  simp only [lS, ea, resTA, okTok, TokD.av, tokA, evS, tyS, Bool.not_true, Bool.not_false, Nat.reduceAdd, Nat.reduceSub, Nat.reduceMul, Nat.reduceLT, Nat.reduceLeDiff, Nat.reduceEqDiff, reduceCtorEq, List.reduceReplicate, Int.reduceToNat, Int.reduceLE, Int.reduceLT]
                  refine labelC.intro (2, j, t, 0) (nextI2 hlt hTj (.inl ⟨rfl, hh⟩)) rfl ?_ (by intro k hk; cases hk; simp only [nextM]; omega)
                  simp only [nextS, tcells, evS, tyS, Bool.not_true, Bool.not_false, Nat.reduceAdd, Nat.reduceSub, Nat.reduceMul, Nat.reduceLT, Nat.reduceLeDiff, Nat.reduceEqDiff, reduceCtorEq, List.reduceReplicate, Int.reduceToNat, Int.reduceLE, Int.reduceLT]
                  (repeat' (first | (with_reducible refine And.intro ?_ ?_) | ((first | refine GuardK.intro_f (fun h => ?_) (fun h => ?_) | refine GuardK.intro_t (fun h => ?_) (fun h => ?_) | refine CondK.intro (fun h => ?_) (fun h => ?_) | refine PickK.intro (fun h => ?_) (fun h => ?_)) <;> simp only [h, evS, tyS, Bool.not_true, Bool.not_false, Nat.reduceAdd, Nat.reduceSub, Nat.reduceMul, Nat.reduceLT, Nat.reduceLeDiff, Nat.reduceEqDiff, reduceCtorEq, List.reduceReplicate, Int.reduceToNat, Int.reduceLE, Int.reduceLT]) | (refine DrawK.intro (by kernel_rfl) (by kernel_rfl) ?_; simp only [evS, tyS, Bool.not_true, Bool.not_false, Nat.reduceAdd, Nat.reduceSub, Nat.reduceMul, Nat.reduceLT, Nat.reduceLeDiff, Nat.reduceEqDiff, reduceCtorEq, List.reduceReplicate, Int.reduceToNat, Int.reduceLE, Int.reduceLT])))
                  all_goals first | rfl | trivial | exact .inl rfl
                | error e =>
                  rw [hN] at hn hh
                  refine CallK.intro b48 (by simp [treeL, treeA]) hn ?_
                  simp only [lS, ea, resTA, errTok, tokA, f0, evS, tyS, Bool.not_true, Bool.not_false, Nat.reduceAdd, Nat.reduceSub, Nat.reduceMul, Nat.reduceLT, Nat.reduceLeDiff, Nat.reduceEqDiff, reduceCtorEq, List.reduceReplicate, Int.reduceToNat, Int.reduceLE, Int.reduceLT]
                  refine labelC.intro (2, j, zeroT, e) (nextI2 hlt hTj (.inr ⟨numberD_err hN, hh⟩)) rfl ?_ (by intro k hk; cases hk; simp only [nextM]; omega)
                  simp only [nextS, tcells, zeroT, evS, tyS, Bool.not_true, Bool.not_false, Nat.reduceAdd, Nat.reduceSub, Nat.reduceMul, Nat.reduceLT, Nat.reduceLeDiff, Nat.reduceEqDiff, reduceCtorEq, List.reduceReplicate, Int.reduceToNat, Int.reduceLE, Int.reduceLT]
                  (repeat' (first | (with_reducible refine And.intro ?_ ?_) | ((first | refine GuardK.intro_f (fun h => ?_) (fun h => ?_) | refine GuardK.intro_t (fun h => ?_) (fun h => ?_) | refine CondK.intro (fun h => ?_) (fun h => ?_) | refine PickK.intro (fun h => ?_) (fun h => ?_)) <;> simp only [h, evS, tyS, Bool.not_true, Bool.not_false, Nat.reduceAdd, Nat.reduceSub, Nat.reduceMul, Nat.reduceLT, Nat.reduceLeDiff, Nat.reduceEqDiff, reduceCtorEq, List.reduceReplicate, Int.reduceToNat, Int.reduceLE, Int.reduceLT]) | (refine DrawK.intro (by kernel_rfl) (by kernel_rfl) ?_; simp only [evS, tyS, Bool.not_true, Bool.not_false, Nat.reduceAdd, Nat.reduceSub, Nat.reduceMul, Nat.reduceLT, Nat.reduceLeDiff, Nat.reduceEqDiff, reduceCtorEq, List.reduceReplicate, Int.reduceToNat, Int.reduceLE, Int.reduceLT])))
                  all_goals first | rfl | trivial | exact .inl rfl
              | false =>
                rw [if_neg (by rw [hdig]; decide)] at hh
                simp only [lS, ea, c34, evS, tyS, Bool.not_true, Bool.not_false, Nat.reduceAdd, Nat.reduceSub, Nat.reduceMul, Nat.reduceLT, Nat.reduceLeDiff, Nat.reduceEqDiff, reduceCtorEq, List.reduceReplicate, Int.reduceToNat, Int.reduceLE, Int.reduceLT]
                refine CondK.intro (fun h34 => ?_) (fun h34 => ?_) <;> simp only [h34, lS, ea, evS, tyS, Bool.not_true, Bool.not_false, Nat.reduceAdd, Nat.reduceSub, Nat.reduceMul, Nat.reduceLT, Nat.reduceLeDiff, Nat.reduceEqDiff, reduceCtorEq, List.reduceReplicate, Int.reduceToNat, Int.reduceLE, Int.reduceLT]
                · rw [if_pos (of_decide_eq_true h34)] at hh
                  (repeat' (first | (with_reducible refine And.intro ?_ ?_) | ((first | refine GuardK.intro_f (fun h => ?_) (fun h => ?_) | refine GuardK.intro_t (fun h => ?_) (fun h => ?_) | refine CondK.intro (fun h => ?_) (fun h => ?_) | refine PickK.intro (fun h => ?_) (fun h => ?_)) <;> simp only [h, lS, ea, evS, tyS, Bool.not_true, Bool.not_false, Nat.reduceAdd, Nat.reduceSub, Nat.reduceMul, Nat.reduceLT, Nat.reduceLeDiff, Nat.reduceEqDiff, reduceCtorEq, List.reduceReplicate, Int.reduceToNat, Int.reduceLE, Int.reduceLT]) | (refine DrawK.intro (by kernel_rfl) (by kernel_rfl) ?_; simp only [lS, ea, evS, tyS, Bool.not_true, Bool.not_false, Nat.reduceAdd, Nat.reduceSub, Nat.reduceMul, Nat.reduceLT, Nat.reduceLeDiff, Nat.reduceEqDiff, reduceCtorEq, List.reduceReplicate, Int.reduceToNat, Int.reduceLE, Int.reduceLT])))
                  all_goals try (((try simp only [decide_eq_true_eq, decide_eq_false_iff_not, beq_iff_eq, bne_iff_ne, ne_eq, beq_eq_false_iff_ne, bne_eq_false_iff_eq] at *) <;> (try omega)); done)
                  have hn := tx j
                  have hte := textD_av (l.drop j)
                  rw [List.length_drop] at hte
                  rw [hte] at hn
                  cases hN : textD (l.drop j) with
                  | ok t =>
                    rw [hN] at hn hh
                    refine CallK.intro b49 (by simp [treeL, treeA]) hn ?_
                    simp only [lS, ea, resTA, okTok, TokD.av, tokA, evS, tyS, Bool.not_true, Bool.not_false, Nat.reduceAdd, Nat.reduceSub, Nat.reduceMul, Nat.reduceLT, Nat.reduceLeDiff, Nat.reduceEqDiff, reduceCtorEq, List.reduceReplicate, Int.reduceToNat, Int.reduceLE, Int.reduceLT]
                    refine labelC.intro (2, j, t, 0) (nextI2 hlt hTj (.inl ⟨rfl, hh⟩)) rfl ?_ (by intro k hk; cases hk; simp only [nextM]; omega)
                    simp only [nextS, tcells, evS, tyS, Bool.not_true, Bool.not_false, Nat.reduceAdd, Nat.reduceSub, Nat.reduceMul, Nat.reduceLT, Nat.reduceLeDiff, Nat.reduceEqDiff, reduceCtorEq, List.reduceReplicate, Int.reduceToNat, Int.reduceLE, Int.reduceLT]
                    (repeat' (first | (with_reducible refine And.intro ?_ ?_) | ((first | refine GuardK.intro_f (fun h => ?_) (fun h => ?_) | refine GuardK.intro_t (fun h => ?_) (fun h => ?_) | refine CondK.intro (fun h => ?_) (fun h => ?_) | refine PickK.intro (fun h => ?_) (fun h => ?_)) <;> simp only [h, evS, tyS, Bool.not_true, Bool.not_false, Nat.reduceAdd, Nat.reduceSub, Nat.reduceMul, Nat.reduceLT, Nat.reduceLeDiff, Nat.reduceEqDiff, reduceCtorEq, List.reduceReplicate, Int.reduceToNat, Int.reduceLE, Int.reduceLT]) | (refine DrawK.intro (by kernel_rfl) (by kernel_rfl) ?_; simp only [evS, tyS, Bool.not_true, Bool.not_false, Nat.reduceAdd, Nat.reduceSub, Nat.reduceMul, Nat.reduceLT, Nat.reduceLeDiff, Nat.reduceEqDiff, reduceCtorEq, List.reduceReplicate, Int.reduceToNat, Int.reduceLE, Int.reduceLT])))
                    all_goals first | rfl | trivial | exact .inl rfl
                  | error e =>
                    rw [hN] at hn hh
                    refine CallK.intro b49 (by simp [treeL, treeA]) hn ?_
                    simp only [lS, ea, resTA, errTok, tokA, f0, evS, tyS, Bool.not_true, Bool.not_false, Nat.reduceAdd, Nat.reduceSub, Nat.reduceMul, Nat.reduceLT, Nat.reduceLeDiff, Nat.reduceEqDiff, reduceCtorEq, List.reduceReplicate, Int.reduceToNat, Int.reduceLE, Int.reduceLT]
                    refine labelC.intro (2, j, zeroT, e) (nextI2 hlt hTj (.inr ⟨textD_err hN, hh⟩)) rfl ?_ (by intro k hk; cases hk; simp only [nextM]; omega)
                    simp only [nextS, tcells, zeroT, evS, tyS, Bool.not_true, Bool.not_false, Nat.reduceAdd, Nat.reduceSub, Nat.reduceMul, Nat.reduceLT, Nat.reduceLeDiff, Nat.reduceEqDiff, reduceCtorEq, List.reduceReplicate, Int.reduceToNat, Int.reduceLE, Int.reduceLT]
                    (repeat' (first | (with_reducible refine And.intro ?_ ?_) | ((first | refine GuardK.intro_f (fun h => ?_) (fun h => ?_) | refine GuardK.intro_t (fun h => ?_) (fun h => ?_) | refine CondK.intro (fun h => ?_) (fun h => ?_) | refine PickK.intro (fun h => ?_) (fun h => ?_)) <;> simp only [h, evS, tyS, Bool.not_true, Bool.not_false, Nat.reduceAdd, Nat.reduceSub, Nat.reduceMul, Nat.reduceLT, Nat.reduceLeDiff, Nat.reduceEqDiff, reduceCtorEq, List.reduceReplicate, Int.reduceToNat, Int.reduceLE, Int.reduceLT]) | (refine DrawK.intro (by kernel_rfl) (by kernel_rfl) ?_; simp only [evS, tyS, Bool.not_true, Bool.not_false, Nat.reduceAdd, Nat.reduceSub, Nat.reduceMul, Nat.reduceLT, Nat.reduceLeDiff, Nat.reduceEqDiff, reduceCtorEq, List.reduceReplicate, Int.reduceToNat, Int.reduceLE, Int.reduceLT])))
                    all_goals first | rfl | trivial | exact .inl rfl
                · rw [if_neg (of_decide_eq_false h34)] at hh
                  (repeat' (first | (with_reducible refine And.intro ?_ ?_) | ((first | refine GuardK.intro_f (fun h => ?_) (fun h => ?_) | refine GuardK.intro_t (fun h => ?_) (fun h => ?_) | refine CondK.intro (fun h => ?_) (fun h => ?_) | refine PickK.intro (fun h => ?_) (fun h => ?_)) <;> simp only [h, lS, ea, evS, tyS, Bool.not_true, Bool.not_false, Nat.reduceAdd, Nat.reduceSub, Nat.reduceMul, Nat.reduceLT, Nat.reduceLeDiff, Nat.reduceEqDiff, reduceCtorEq, List.reduceReplicate, Int.reduceToNat, Int.reduceLE, Int.reduceLT]) | (refine DrawK.intro (by kernel_rfl) (by kernel_rfl) ?_; simp only [lS, ea, evS, tyS, Bool.not_true, Bool.not_false, Nat.reduceAdd, Nat.reduceSub, Nat.reduceMul, Nat.reduceLT, Nat.reduceLeDiff, Nat.reduceEqDiff, reduceCtorEq, List.reduceReplicate, Int.reduceToNat, Int.reduceLE, Int.reduceLT])))
                  all_goals try (((try simp only [decide_eq_true_eq, decide_eq_false_iff_not, beq_iff_eq, bne_iff_ne, ne_eq, beq_eq_false_iff_ne, bne_eq_false_iff_eq] at *) <;> (try omega)); done)
                  have hn := mk mx hmx j hlt
                  refine CallK.intro b50 (by simp [treeL, treeA]) hn ?_
                  by_cases hm0 : markN (l.drop j) = 0
                  · rw [if_pos hm0] at hh
                    rw [markA, if_pos hm0]
                    have z00 : ((0 : Int) == 0) = true := by decide
                    simp only [lS, ea, tokA, f0, z00, evS, tyS, Bool.not_true, Bool.not_false, Nat.reduceAdd, Nat.reduceSub, Nat.reduceMul, Nat.reduceLT, Nat.reduceLeDiff, Nat.reduceEqDiff, reduceCtorEq, List.reduceReplicate, Int.reduceToNat, Int.reduceLE, Int.reduceLT]
                    refine labelC.intro (2, j, zeroT, 10) (nextI2 hlt hTj (.inr ⟨by decide, hh⟩)) rfl ?_ (by intro k hk; cases hk; simp only [nextM]; omega)
                    simp only [nextS, tcells, zeroT, evS, tyS, Bool.not_true, Bool.not_false, Nat.reduceAdd, Nat.reduceSub, Nat.reduceMul, Nat.reduceLT, Nat.reduceLeDiff, Nat.reduceEqDiff, reduceCtorEq, List.reduceReplicate, Int.reduceToNat, Int.reduceLE, Int.reduceLT]
                    (repeat' (first | (with_reducible refine And.intro ?_ ?_) | ((first | refine GuardK.intro_f (fun h => ?_) (fun h => ?_) | refine GuardK.intro_t (fun h => ?_) (fun h => ?_) | refine CondK.intro (fun h => ?_) (fun h => ?_) | refine PickK.intro (fun h => ?_) (fun h => ?_)) <;> simp only [h, evS, tyS, Bool.not_true, Bool.not_false, Nat.reduceAdd, Nat.reduceSub, Nat.reduceMul, Nat.reduceLT, Nat.reduceLeDiff, Nat.reduceEqDiff, reduceCtorEq, List.reduceReplicate, Int.reduceToNat, Int.reduceLE, Int.reduceLT]) | (refine DrawK.intro (by kernel_rfl) (by kernel_rfl) ?_; simp only [evS, tyS, Bool.not_true, Bool.not_false, Nat.reduceAdd, Nat.reduceSub, Nat.reduceMul, Nat.reduceLT, Nat.reduceLeDiff, Nat.reduceEqDiff, reduceCtorEq, List.reduceReplicate, Int.reduceToNat, Int.reduceLE, Int.reduceLT])))
                    all_goals first | rfl | trivial | exact .inl rfl
                  · rw [if_neg hm0] at hh
                    rw [markA, if_neg hm0]
                    generalize markN (l.drop j) = n at hh ⊢
                    have z50 : ((5 : Int) == 0) = false := by decide
                    simp only [lS, ea, tokA, f0, z50, evS, tyS, Bool.not_true, Bool.not_false, Nat.reduceAdd, Nat.reduceSub, Nat.reduceMul, Nat.reduceLT, Nat.reduceLeDiff, Nat.reduceEqDiff, reduceCtorEq, List.reduceReplicate, Int.reduceToNat, Int.reduceLE, Int.reduceLT]
                    refine labelC.intro (2, j, ⟨5, (l.drop j).take n, 0, 0, n⟩, 0) (nextI2 hlt hTj (.inl ⟨rfl, hh⟩)) rfl ?_ (by intro k hk; cases hk; simp only [nextM]; omega)
                    simp only [nextS, tcells, evS, tyS, Bool.not_true, Bool.not_false, Nat.reduceAdd, Nat.reduceSub, Nat.reduceMul, Nat.reduceLT, Nat.reduceLeDiff, Nat.reduceEqDiff, reduceCtorEq, List.reduceReplicate, Int.reduceToNat, Int.reduceLE, Int.reduceLT]
                    (repeat' (first | (with_reducible refine And.intro ?_ ?_) | ((first | refine GuardK.intro_f (fun h => ?_) (fun h => ?_) | refine GuardK.intro_t (fun h => ?_) (fun h => ?_) | refine CondK.intro (fun h => ?_) (fun h => ?_) | refine PickK.intro (fun h => ?_) (fun h => ?_)) <;> simp only [h, evS, tyS, Bool.not_true, Bool.not_false, Nat.reduceAdd, Nat.reduceSub, Nat.reduceMul, Nat.reduceLT, Nat.reduceLeDiff, Nat.reduceEqDiff, reduceCtorEq, List.reduceReplicate, Int.reduceToNat, Int.reduceLE, Int.reduceLT]) | (refine DrawK.intro (by kernel_rfl) (by kernel_rfl) ?_; simp only [evS, tyS, Bool.not_true, Bool.not_false, Nat.reduceAdd, Nat.reduceSub, Nat.reduceMul, Nat.reduceLT, Nat.reduceLeDiff, Nat.reduceEqDiff, reduceCtorEq, List.reduceReplicate, Int.reduceToNat, Int.reduceLE, Int.reduceLT])))
                    all_goals first | rfl | trivial | exact .inl rfl
    | 1, hj =>
      obtain ⟨hj1, hjT, rfl, rfl⟩ := hj
      refine ⟨_, rfl, ?_⟩
      have ew : IntKind.i64.wrap ((j : Int) + 1) = ((j + 1 : Nat) : Int) := i64w (by omega) (by omega)
      have ea : ∀ j, (l.getD j 0).toNat = atL l j := fun _ => rfl
      simp only [nextS, lS, tcells, zeroT, ew, ea, zero6, evS, tyS, Bool.not_true, Bool.not_false, Nat.reduceAdd, Nat.reduceSub, Nat.reduceMul, Nat.reduceLT, Nat.reduceLeDiff, Nat.reduceEqDiff, reduceCtorEq, List.reduceReplicate, Int.reduceToNat, Int.reduceLE, Int.reduceLT]
      (repeat' (first | (with_reducible refine And.intro ?_ ?_) | ((first | refine GuardK.intro_f (fun h => ?_) (fun h => ?_) | refine GuardK.intro_t (fun h => ?_) (fun h => ?_) | refine CondK.intro (fun h => ?_) (fun h => ?_) | refine PickK.intro (fun h => ?_) (fun h => ?_)) <;> simp only [h, lS, ea, ew, evS, tyS, Bool.not_true, Bool.not_false, Nat.reduceAdd, Nat.reduceSub, Nat.reduceMul, Nat.reduceLT, Nat.reduceLeDiff, Nat.reduceEqDiff, reduceCtorEq, List.reduceReplicate, Int.reduceToNat, Int.reduceLE, Int.reduceLT]) | (refine DrawK.intro (by kernel_rfl) (by kernel_rfl) ?_; simp only [lS, ea, ew, evS, tyS, Bool.not_true, Bool.not_false, Nat.reduceAdd, Nat.reduceSub, Nat.reduceMul, Nat.reduceLT, Nat.reduceLeDiff, Nat.reduceEqDiff, reduceCtorEq, List.reduceReplicate, Int.reduceToNat, Int.reduceLE, Int.reduceLT])))
      all_goals try (((try simp only [decide_eq_true_eq, decide_eq_false_iff_not, beq_iff_eq, bne_iff_ne, ne_eq, beq_eq_false_iff_ne, bne_eq_false_iff_eq] at *) <;> (try omega)); done)
      all_goals ((try simp only [decide_eq_true_eq, decide_eq_false_iff_not, beq_iff_eq, bne_iff_ne, ne_eq, beq_eq_false_iff_ne, bne_eq_false_iff_eq] at *) <;> (try omega))
      all_goals first
        | (refine labelC.intro (1, j + 1, zeroT, 0) (nextI1 (by omega) (by rw [hjT, gap_in (by omega) (by omega)]; omega)) rfl ?_ (by intro k hk; cases hk; simp only [nextM]; omega)
           simp only [nextS, tcells, zeroT, evS, tyS, Bool.not_true, Bool.not_false, Nat.reduceAdd, Nat.reduceSub, Nat.reduceMul, Nat.reduceLT, Nat.reduceLeDiff, Nat.reduceEqDiff, reduceCtorEq, List.reduceReplicate, Int.reduceToNat, Int.reduceLE, Int.reduceLT]
           (repeat' (first | (with_reducible refine And.intro ?_ ?_) | ((first | refine GuardK.intro_f (fun h => ?_) (fun h => ?_) | refine GuardK.intro_t (fun h => ?_) (fun h => ?_) | refine CondK.intro (fun h => ?_) (fun h => ?_) | refine PickK.intro (fun h => ?_) (fun h => ?_)) <;> simp only [h, evS, tyS, Bool.not_true, Bool.not_false, Nat.reduceAdd, Nat.reduceSub, Nat.reduceMul, Nat.reduceLT, Nat.reduceLeDiff, Nat.reduceEqDiff, reduceCtorEq, List.reduceReplicate, Int.reduceToNat, Int.reduceLE, Int.reduceLT]) | (refine DrawK.intro (by kernel_rfl) (by kernel_rfl) ?_; simp only [evS, tyS, Bool.not_true, Bool.not_false, Nat.reduceAdd, Nat.reduceSub, Nat.reduceMul, Nat.reduceLT, Nat.reduceLeDiff, Nat.reduceEqDiff, reduceCtorEq, List.reduceReplicate, Int.reduceToNat, Int.reduceLE, Int.reduceLT])))
           all_goals first | rfl | trivial | exact .inl rfl)
        | (refine labelC.intro (0, j + 1, zeroT, 0) (nextI0 (by omega) (by first | (rw [hjT, nextT, gap_nl (by omega) (by omega)]; done) | (rw [hjT, nextT, gap_end (by omega), gap_end (by omega)]; done))) rfl ?_ (by intro k hk; cases hk; simp only [nextM]; omega)
           simp only [nextS, tcells, zeroT, evS, tyS, Bool.not_true, Bool.not_false, Nat.reduceAdd, Nat.reduceSub, Nat.reduceMul, Nat.reduceLT, Nat.reduceLeDiff, Nat.reduceEqDiff, reduceCtorEq, List.reduceReplicate, Int.reduceToNat, Int.reduceLE, Int.reduceLT]
           (repeat' (first | (with_reducible refine And.intro ?_ ?_) | ((first | refine GuardK.intro_f (fun h => ?_) (fun h => ?_) | refine GuardK.intro_t (fun h => ?_) (fun h => ?_) | refine CondK.intro (fun h => ?_) (fun h => ?_) | refine PickK.intro (fun h => ?_) (fun h => ?_)) <;> simp only [h, evS, tyS, Bool.not_true, Bool.not_false, Nat.reduceAdd, Nat.reduceSub, Nat.reduceMul, Nat.reduceLT, Nat.reduceLeDiff, Nat.reduceEqDiff, reduceCtorEq, List.reduceReplicate, Int.reduceToNat, Int.reduceLE, Int.reduceLT]) | (refine DrawK.intro (by kernel_rfl) (by kernel_rfl) ?_; simp only [evS, tyS, Bool.not_true, Bool.not_false, Nat.reduceAdd, Nat.reduceSub, Nat.reduceMul, Nat.reduceLT, Nat.reduceLeDiff, Nat.reduceEqDiff, reduceCtorEq, List.reduceReplicate, Int.reduceToNat, Int.reduceLE, Int.reduceLT])))
           all_goals first | rfl | trivial | exact .inl rfl)
    | 2, hj =>
      obtain ⟨hj1, hjT, hj3⟩ := hj
      refine ⟨_, rfl, ?_⟩
      subst hjT
      rcases hj3 with ⟨rfl, hk⟩ | ⟨he, hk⟩
      · have z00 : ((0 : Int) != 0) = false := by decide
        rw [hOk t hj1 hk]
        simp only [nextS, lS, tcells, z00, TokD.av, tokA, zero6, evS, tyS, Bool.not_true, Bool.not_false, Nat.reduceAdd, Nat.reduceSub, Nat.reduceMul, Nat.reduceLT, Nat.reduceLeDiff, Nat.reduceEqDiff, reduceCtorEq, List.reduceReplicate, Int.reduceToNat, Int.reduceLE, Int.reduceLT]
      · have z00 : ((e : Int) != 0) = true := by simpa using he
        rw [hErr e hj1 hk]
        simp only [nextS, lS, tcells, z00, tokA, f0, zero6, evS, tyS, Bool.not_true, Bool.not_false, Nat.reduceAdd, Nat.reduceSub, Nat.reduceMul, Nat.reduceLT, Nat.reduceLeDiff, Nat.reduceEqDiff, reduceCtorEq, List.reduceReplicate, Int.reduceToNat, Int.reduceLE, Int.reduceLT]
    | k + 3, hj => exact hj.elim
end Go.Proofs.YtplnhipgifcafaaDoor
namespace Go.Proofs.YtplnhipgifcafaaDoor
set_option linter.all false
open Go Go.Ev
theorem realD_size {l : List UInt8} {p sg : Nat} {t : TokD} (hp : p + 1 + sg ≤ l.length) (h : realD l p sg = .ok t) : 1 ≤ t.size ∧ t.size ≤ l.length := by
  unfold realD at h
  split at h
  · cases h
    have h1 := digitsEnd_ge l (p + 1 + sg)
    have h2 := digitsEnd_le (l := l) (i := p + 1 + sg) hp
    exact ⟨by show 1 ≤ digitsEnd l (p + 1 + sg); omega, h2⟩
  · cases h
theorem numberD_size {l : List UInt8} {t : TokD} (hd : digitN (atL l 0) = true) (h : numberD l = .ok t) : 1 ≤ t.size ∧ t.size ≤ l.length := by
  have hlt := digitsEnd_lt hd
  have hle := digitsEnd_le (l := l) (i := 0) (by omega)
  unfold numberD at h
  split at h
  · rename_i hc
    exact realD_size (by have := (digitsEnd_step hc.2).2; omega) h
  · split at h
    · cases h; exact ⟨by show 1 ≤ digitsEnd l 0; omega, hle⟩
    · cases h
theorem textF_size (l : List UInt8) : ∀ (k i : Nat) (d q : List UInt8) (n : Nat), textF k l i d = some (q, n) → i + 1 ≤ n ∧ n ≤ l.length
  | 0, i, d, q, n, h => by cases h
  | k + 1, i, d, q, n, h => by
    rw [textF] at h
    split at h
    · cases h
    · rename_i hi
      split at h
      · cases h; omega
      · split at h
        · split at h
          · cases h
          · have := textF_size l k _ _ q n h; omega
        · split at h
          · cases h
          · have := textF_size l k _ _ q n h; omega
theorem textD_size {l : List UInt8} {t : TokD} (h : textD l = .ok t) : 1 ≤ t.size ∧ t.size ≤ l.length := by
  unfold textD at h
  split at h
  · cases h
  · rename_i d n hq
    cases h
    have := textF_size l _ _ _ _ _ hq
    exact ⟨by show 1 ≤ n; omega, this.2⟩
theorem headD_size {l : List UInt8} {t : TokD} (hl : 1 ≤ l.length) (h : headD l = .ok t) : 1 ≤ t.size ∧ t.size ≤ l.length := by
  unfold headD at h
  split at h
  · have := spanEnd_le (p := nameN) (l := l) (i := 1) hl
    split at h
    · cases h
    · cases h; exact this
  · split at h
    · rename_i hd; exact numberD_size hd h
    · split at h
      · exact textD_size h
      · split at h
        · cases h
        · cases h
          rename_i hm
          refine ⟨by show 1 ≤ markN l; omega, ?_⟩
          show markN l ≤ l.length
          unfold markN at *
          split
          · rename_i h1; omega
          · split <;> omega
/-- The tokens from a place on, and what is wrong behind them, and where. -/
def scanF : Nat → List UInt8 → Nat → List (TokD × Nat) × Option (Int × Nat)
  | 0, _, _ => ([], none)
  | k + 1, l, i =>
    if l.length ≤ nextT l i then ([], none)
    else match headD (l.drop (nextT l i)) with
      | .error e => ([], some (e, nextT l i))
      | .ok t => ((t, nextT l i) :: (scanF k l (nextT l i + t.size)).1, (scanF k l (nextT l i + t.size)).2)
theorem nextT_ge (l : List UInt8) (i : Nat) : i ≤ nextT l i := by unfold nextT; omega
/-- What the sequence tells: tokens with their places, each with its error. -/
def itemsF : Nat → List UInt8 → Nat → List ((TokD × Nat) × Int)
  | 0, _, _ => []
  | k + 1, l, i =>
    if l.length ≤ nextT l i then []
    else match headD (l.drop (nextT l i)) with
      | .error e => [((zeroT, nextT l i), e)]
      | .ok t => ((t, nextT l i), 0) :: itemsF k l (nextT l i + t.size)
def tokV (t : TokD) (pos : Nat) : Value := .agg #[.int .i64 t.kind, .string ⟨t.text.toArray⟩, .int .i64 t.int, .float .f64 t.real, .int .i64 pos, .int .i64 t.size]
theorem rel_tokV (t : TokD) (pos : Nat) (c : Cx) : rel (t.av pos) c (tokV t pos) := by
  simp only [TokD.av, tokA, tokV, rel, relL]
  refine ⟨_, rfl, ?_⟩
  exact ⟨_, _, rfl, rfl, _, _, rfl, rfl, _, _, rfl, rfl, _, _, rfl, rfl, _, _, rfl, rfl, _, _, rfl, rfl, rfl⟩
end Go.Proofs.YtplnhipgifcafaaDoor
