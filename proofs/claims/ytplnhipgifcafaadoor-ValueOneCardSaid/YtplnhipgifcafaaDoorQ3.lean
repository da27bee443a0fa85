/- A part of the proof. -/
import Derived.Test.YtplnhipgifcafaaDoorQ2
import Derived.Shelf.Strconv.Itoa0
import Derived.Shelf.Strconv.Itoa1
import Derived.Shelf.LaysM
import Derived.Shelf.Strconv.Itoa2
import Derived.Shelf.Strconv.Itoa3
import Derived.Test.YtplnhipgifcafaaDoorProg
/- Comparisons of such doubles; the bits of a word. -/
namespace Go.Ev
set_option linter.all false
open Go
theorem rd0 : Ieee.double.read 0 = .number false 0 (-1074) := by rfl
theorem rdMin : Ieee.double.read 4503599627370496 = .number false 4503599627370496 (-1074) := by rfl
theorem rdMax : Ieee.double.read 9218868437227405311 = .number false 9007199254740991 971 := by rfl
theorem rdInf : Ieee.double.read 9218868437227405312 = .infinity false := by rfl
theorem one_le_pow (k : Nat) : 1 ≤ 2 ^ k := Nat.pos_of_ne_zero (by simp)
section
variable {m : Nat} {e : Int}
theorem rd_inf (h0 : 0 < m) (h : m < 9007199254740992) (he : -1074 ≤ e) (hf : 1024 ≤ e + m.log2) : Ieee.double.read (dblN m e) = .infinity false := by
  rw [dbl_inf h0 h he hf, rdInf]
theorem ord_zero (h0 : 0 < m) (h : m < 9007199254740992) (he : -1074 ≤ e) : Ieee.double.order (dblN m e) 0 = some .gt := by
  unfold Ieee.Format.order
  by_cases hf : e + m.log2 ≤ 1023
  · rw [read_dbl h0 h he hf, rd0]
    have hM : 0 < m * 2 ^ (e - lastP m e).toNat := Nat.mul_pos h0 (Nat.pos_of_ne_zero (by simp))
    have hl : -1074 ≤ lastP m e := by unfold lastP; omega
    simp only [Ieee.Datum.order, Ieee.signed, Bool.false_eq_true, if_false, Nat.shiftLeft_eq, Nat.zero_mul]
    generalize m * 2 ^ (e - lastP m e).toNat = M at *
    have hp := one_le_pow (lastP m e - min (lastP m e) (-1074)).toNat
    have : 0 < M * 2 ^ (lastP m e - min (lastP m e) (-1074)).toNat := Nat.mul_pos hM hp
    generalize M * 2 ^ (lastP m e - min (lastP m e) (-1074)).toNat = A at *
    have : compare ((A : Nat) : Int) ((0 : Nat) : Int) = .gt := by
      rw [Int.compare_eq_gt]; omega
    rw [this]
  · rw [rd_inf h0 h he (by omega), rd0]; rfl
theorem ord_min (h0 : 0 < m) (h : m < 9007199254740992) : Ieee.double.order (dblN m 0) 4503599627370496 = some .gt := by
  have hlg := log2_lt53 h0 h
  have hf : (0 : Int) + m.log2 ≤ 1023 := by omega
  unfold Ieee.Format.order
  rw [read_dbl h0 h (by omega) hf, rdMin]
  have hl : lastP m 0 = (m.log2 : Int) - 52 := by unfold lastP; omega
  have hM := (pow_le52 h0 h (by omega : (-1074 : Int) ≤ 0)).2 (by omega)
  simp only [Ieee.Datum.order, Ieee.signed, Bool.false_eq_true, if_false, Nat.shiftLeft_eq]
  generalize m * 2 ^ ((0 : Int) - lastP m 0).toNat = M at *
  have e1 : ((-1074 : Int) - min (lastP m 0) (-1074)).toNat = 0 := by omega
  obtain ⟨k, hk⟩ : ∃ k, (lastP m 0 - min (lastP m 0) (-1074)).toNat = k + 1 := ⟨(lastP m 0 - min (lastP m 0) (-1074)).toNat - 1, by omega⟩
  rw [e1, hk]
  have hp := one_le_pow k
  have : 9007199254740992 ≤ M * 2 ^ (k + 1) := by
    rw [Nat.pow_succ]
    calc 9007199254740992 = 4503599627370496 * (1 * 2) := by omega
      _ ≤ M * (2 ^ k * 2) := Nat.mul_le_mul hM (Nat.mul_le_mul_right _ hp)
  generalize M * 2 ^ (k + 1) = A at *
  have : compare ((A : Nat) : Int) ((4503599627370496 * 2 ^ 0 : Nat) : Int) = .gt := by
    rw [Int.compare_eq_gt]; omega
  rw [this]
theorem ord_max (h0 : 0 < m) (h : m < 9007199254740992) (he : -1074 ≤ e) : (Ieee.double.order (dblN m e) 9218868437227405311 == some .gt) = decide (1024 ≤ e + m.log2) := by
  unfold Ieee.Format.order
  by_cases hf : e + m.log2 ≤ 1023
  · rw [read_dbl h0 h he hf, rdMax]
    have hlg := log2_lt53 h0 h
    have hM := (pow_le52 h0 h he).1
    have hl : lastP m e ≤ 971 := by unfold lastP; omega
    simp only [Ieee.Datum.order, Ieee.signed, Bool.false_eq_true, if_false, Nat.shiftLeft_eq]
    generalize m * 2 ^ (e - lastP m e).toNat = M at *
    have e1 : (lastP m e - min (lastP m e) 971).toNat = 0 := by omega
    rw [e1]
    have hp := one_le_pow (971 - min (lastP m e) 971).toNat
    have : 9007199254740991 ≤ 9007199254740991 * 2 ^ (971 - min (lastP m e) 971).toNat := Nat.le_mul_of_pos_right _ hp
    generalize 9007199254740991 * 2 ^ (971 - min (lastP m e) 971).toNat = A at *
    have : compare ((M * 2 ^ 0 : Nat) : Int) ((A : Nat) : Int) ≠ .gt := by
      rw [Ne, Int.compare_eq_gt]; omega
    cases hc : compare ((M * 2 ^ 0 : Nat) : Int) ((A : Nat) : Int) with
    | gt => exact absurd hc this
    | lt => simp; omega
    | eq => simp; omega
  · rw [rd_inf h0 h he (by omega), rdMax]
    have : 1024 ≤ e + (m.log2 : Int) := by omega
    simp only [this, decide_true]; rfl
theorem ord_self (h0 : 0 < m) (h : m < 9007199254740992) (he : -1074 ≤ e) : Ieee.double.order (dblN m e) (dblN m e) = some .eq := by
  unfold Ieee.Format.order
  by_cases hf : e + m.log2 ≤ 1023
  · rw [read_dbl h0 h he hf]
    simp only [Ieee.Datum.order]
    congr 1
    rw [Int.compare_eq_eq]
  · rw [rd_inf h0 h he (by omega)]; rfl
theorem sub_self_fin (h0 : 0 < m) (h : m < 9007199254740992) (he : -1074 ≤ e) (hf : e + m.log2 ≤ 1023) : Ieee.double.sub (dblN m e) (dblN m e) = some 0 := by
  unfold Ieee.Format.sub
  rw [read_dbl h0 h he hf]
  simp only [Ieee.Datum.opposite, Ieee.Datum.sum, Bool.not_false, Ieee.signed, Bool.false_eq_true, if_false, if_true, Option.map_some, Ieee.Format.write]
  generalize ((m * 2 ^ (e - lastP m e).toNat) <<< (lastP m e - min (lastP m e) (lastP m e)).toNat : Nat) = A
  have : ((A : Nat) : Int) + -((A : Nat) : Int) = 0 := by omega
  rw [this]
  rfl
theorem sub_self_inf (h0 : 0 < m) (h : m < 9007199254740992) (he : -1074 ≤ e) (hf : 1024 ≤ e + m.log2) : Ieee.double.sub (dblN m e) (dblN m e) = none := by
  rw [dbl_inf h0 h he hf]; rfl
end
theorem mul_pow2 {m : Nat} {e : Int} (h0 : 0 < m) (h : m < 9007199254740992) (he : -1074 ≤ e) (hf : e + m.log2 ≤ 1023) (C : Nat) (p : Int) (hC : Ieee.double.read C = .number false 4503599627370496 (p - 52)) (hp : -1074 ≤ e + p) :
    Ieee.double.mul C (dblN m e) = some (dblN m (e + p)) := by
  unfold Ieee.Format.mul
  rw [hC, read_dbl h0 h he hf]
  have hle := lastP_le h0 h he
  simp only [Ieee.Datum.product, Option.map_some, Ieee.Format.write]
  have a1 : 4503599627370496 * (m * 2 ^ (e - lastP m e).toNat) = m * 2 ^ ((e - lastP m e).toNat + 52) := by
    rw [Nat.pow_add, Nat.mul_comm, Nat.mul_assoc]
  have a2 : p - 52 + lastP m e = (e + p) - (((e - lastP m e).toNat + 52 : Nat) : Int) := by omega
  rw [a1, a2, show (false ^^ false) = false from rfl, nearest_exact m (e + p) _ h0 h (by omega)]
theorem word_eq {m : Nat} {e : Int} (h0 : 0 < m) (h : m < 9007199254740992) (h1 : -1022 ≤ e + m.log2) (h2 : e + m.log2 ≤ 1023) :
    dblN m e = (e + m.log2 + 1023).toNat * 4503599627370496 + (m * 2 ^ (52 - m.log2) - 4503599627370496) ∧ 4503599627370496 ≤ m * 2 ^ (52 - m.log2) ∧ m * 2 ^ (52 - m.log2) < 9007199254740992 := by
  have hlg := log2_lt53 h0 h
  have he : -1074 ≤ e := by omega
  have hl : lastP m e = e + m.log2 - 52 := by unfold lastP; omega
  have hk : (e - lastP m e).toNat = 52 - m.log2 := by omega
  have hM := pow_le52 h0 h he
  have hq := (fin_iff h0 h he).1 h2
  rw [hk] at hM hq
  have hl0 : lastP m 0 = (m.log2 : Int) - 52 := by unfold lastP; omega
  have hk0 : ((0 : Int) - lastP m 0).toNat = 52 - m.log2 := by omega
  have hM0 := (pow_le52 h0 h (by omega : (-1074 : Int) ≤ 0)).2 (by omega)
  rw [hk0] at hM0
  refine ⟨?_, hM0, hM.1⟩
  unfold dblN
  rw [hk, hl]
  rw [hl] at hq
  generalize m * 2 ^ (52 - m.log2) = K at *
  generalize (m.log2 : Int) = L at *
  have ht : (e + L + 1023).toNat = (e + L - 52 + 1074).toNat + 1 := by omega
  rw [ht, Nat.add_mul, Nat.one_mul, Nat.min_eq_left (Nat.le_of_lt hq), Nat.add_assoc, Nat.add_sub_cancel' hM0]
theorem ldexp_word {m : Nat} (h0 : 0 < m) (h : m < 9007199254740992) : ∃ L F : Nat, m.log2 = L ∧ L ≤ 52 ∧ F < 4503599627370496 ∧ dblN m 0 = (L + 1023) * 4503599627370496 + F ∧
    ∀ (e : Int) (E : Nat), -1022 ≤ e + L → e + L ≤ 1023 → (E : Int) = e + L + 1023 → (E : Int) * 4503599627370496 + (F : Int) = ((dblN m e : Nat) : Int) := by
  have hlg := log2_lt53 h0 h
  obtain ⟨a1, a2, a3⟩ := word_eq (e := 0) h0 h (by omega) (by omega)
  refine ⟨m.log2, m * 2 ^ (52 - m.log2) - 4503599627370496, rfl, hlg, ?_, ?_, fun e E g1 g2 g3 => ?_⟩
  · generalize m * 2 ^ (52 - m.log2) = K at *
    omega
  · rw [a1]
    congr 2
    omega
  · obtain ⟨b1, _, _⟩ := word_eq (e := e) h0 h g1 g2
    rw [b1, ← g3]
    generalize m * 2 ^ (52 - m.log2) - 4503599627370496 = F
    rw [Int.natCast_add, Int.natCast_mul]
    rfl
/-! ### Bits -/
theorem nat_split (X : Nat) : X = X / 2 ^ 52 * 2 ^ 52 + X % 2 ^ 52 := by rw [Nat.mul_comm]; exact (Nat.div_add_mod _ _).symm
theorem ofInt_nat (n : Nat) (h : n < 18446744073709551616) : (BitVec.ofInt 64 (n : Int)).toNat = n := by
  rw [BitVec.ofInt_natCast, BitVec.toNat_ofNat]; exact Nat.mod_eq_of_lt h
theorem bits_abs (n : Nat) (h : n < 9223372036854775808) : IntKind.u64.wrap (BitVec.ofInt IntKind.u64.bits (n : Int) &&& ~~~BitVec.ofInt IntKind.u64.bits 9223372036854775808).toNat = n := by
  have e1 : (BitVec.ofInt 64 (n : Int) &&& ~~~BitVec.ofInt 64 9223372036854775808).toNat = n := by
    rw [BitVec.toNat_and, ofInt_nat n (by omega)]
    have : (~~~BitVec.ofInt 64 9223372036854775808).toNat = 2 ^ 63 - 1 := by rfl
    rw [this, Nat.and_two_pow_sub_one_eq_mod]
    exact Nat.mod_eq_of_lt (by omega)
  show IntKind.u64.wrap ((BitVec.ofInt 64 (n : Int) &&& ~~~BitVec.ofInt 64 9223372036854775808).toNat : Int) = n
  rw [e1, u64w] <;> omega
theorem and_pow_zero {T : Nat} (hT : T < 2048) : T &&& 2 ^ 11 = 0 := by
  apply Nat.eq_of_testBit_eq
  intro i
  rw [Nat.testBit_and, Nat.testBit_two_pow, Nat.zero_testBit]
  by_cases hi : 11 = i
  · subst hi
    rw [Nat.testBit_lt_two_pow (by omega)]; rfl
  · simp [hi]
theorem bits_frac (T F : Nat) (hT : T < 2048) (hF : F < 4503599627370496) : IntKind.u64.wrap (BitVec.ofInt IntKind.u64.bits ((T * 4503599627370496 + F : Nat) : Int) &&& ~~~BitVec.ofInt IntKind.u64.bits 9218868437227405312).toNat = F := by
  have e1 : (BitVec.ofInt 64 ((T * 4503599627370496 + F : Nat) : Int) &&& ~~~BitVec.ofInt 64 9218868437227405312).toNat = F := by
    rw [BitVec.toNat_and, ofInt_nat _ (by omega)]
    have : (~~~BitVec.ofInt 64 9218868437227405312).toNat = 9227875636482146303 := by rfl
    rw [this, nat_split ((T * 4503599627370496 + F) &&& 9227875636482146303), Nat.and_div_two_pow, Nat.and_mod_two_pow]
    have a1 : (T * 4503599627370496 + F) / 2 ^ 52 = T := by omega
    have a2 : (T * 4503599627370496 + F) % 2 ^ 52 = F := by omega
    have a3 : 9227875636482146303 / 2 ^ 52 = 2 ^ 11 := by rfl
    have a4 : 9227875636482146303 % 2 ^ 52 = 2 ^ 52 - 1 := by rfl
    rw [a1, a2, a3, a4, Nat.and_two_pow_sub_one_eq_mod, and_pow_zero hT]
    have := Nat.mod_eq_of_lt (show F < 2 ^ 52 by omega)
    omega
  show IntKind.u64.wrap ((BitVec.ofInt 64 ((T * 4503599627370496 + F : Nat) : Int) &&& ~~~BitVec.ofInt 64 9218868437227405312).toNat : Int) = F
  rw [e1, u64w] <;> omega
theorem bits_or (E F : Nat) (hE : E < 4096) (hF : F < 4503599627370496) : IntKind.u64.wrap (BitVec.ofInt IntKind.u64.bits (F : Int) ||| BitVec.ofInt IntKind.u64.bits ((E : Int) * 4503599627370496)).toNat = (E : Int) * 4503599627370496 + (F : Int) := by
  have ec : (E : Int) * 4503599627370496 = ((E * 4503599627370496 : Nat) : Int) := by omega
  rw [ec]
  generalize hG : E * 4503599627370496 = G
  have e1 : (BitVec.ofInt 64 (F : Int) ||| BitVec.ofInt 64 ((G : Nat) : Int)).toNat = G + F := by
    rw [BitVec.toNat_or, ofInt_nat _ (by omega), ofInt_nat _ (by omega), Nat.or_comm]
    have := Nat.shiftLeft_add_eq_or_of_lt (show F < 2 ^ 52 by omega) E
    rw [Nat.shiftLeft_eq] at this
    rw [← hG]
    exact this.symm
  show IntKind.u64.wrap ((BitVec.ofInt 64 (F : Int) ||| BitVec.ofInt 64 ((G : Nat) : Int)).toNat : Int) = _
  rw [e1]
  exact (u64w (by omega) (by omega)).trans (by omega)
theorem bits_low (T : Nat) (hT : T < 2048) : IntKind.i64.wrap (BitVec.ofInt IntKind.i64.bits (T : Int) &&& BitVec.ofInt IntKind.i64.bits 2047).toNat = T := by
  have e1 : (BitVec.ofInt 64 (T : Int) &&& BitVec.ofInt 64 2047).toNat = T := by
    rw [BitVec.toNat_and, ofInt_nat _ (by omega)]
    have : (BitVec.ofInt 64 2047).toNat = 2 ^ 11 - 1 := by rfl
    rw [this, Nat.and_two_pow_sub_one_eq_mod]
    exact Nat.mod_eq_of_lt (by omega)
  show IntKind.i64.wrap ((BitVec.ofInt 64 (T : Int) &&& BitVec.ofInt 64 2047).toNat : Int) = T
  rw [e1, i64w] <;> omega
end Go.Ev
namespace Go.Proofs.YtplnhipgifcafaaDoor
set_option linter.all false
open Go Go.Ev
variable {γ : List (Nat × AV)}
theorem b122 : bodyT Tryd.prog 122 := ⟨_, Tryd.func122, by kernel_rfl, by kernel_rfl⟩
theorem b130 : bodyT Tryd.prog 130 := ⟨_, Tryd.func130, by kernel_rfl, by kernel_rfl⟩
theorem b131 : bodyT Tryd.prog 131 := ⟨_, Tryd.func131, by kernel_rfl, by kernel_rfl⟩
theorem b100 : bodyT Tryd.prog 100 := ⟨_, Tryd.func100, by kernel_rfl, by kernel_rfl⟩
theorem b86 : bodyT Tryd.prog 86 := ⟨_, Tryd.func86, by kernel_rfl, by kernel_rfl⟩
theorem b112 : bodyT Tryd.prog 112 := ⟨_, Tryd.func112, by kernel_rfl, by kernel_rfl⟩
theorem b89 : bodyT Tryd.prog 89 := ⟨_, Tryd.func89, by kernel_rfl, by kernel_rfl⟩
theorem ext33 (b : Nat) : ExtV Tryd.prog 33 [.v (.float .f64 b)] (.v (.int .u64 b)) := ext_float64bits Tryd.func33 (by kernel_rfl) (by kernel_rfl) (by kernel_rfl) (by kernel_rfl) b
theorem ext108 (n : Int) : ExtV Tryd.prog 108 [.v (.int .u64 n)] (.v (.float .f64 n.toNat)) := ext_float64frombits Tryd.func108 (by kernel_rfl) (by kernel_rfl) (by kernel_rfl) (by kernel_rfl) n
theorem fltRes_some (r : Nat) : fltRes (some r) = .v (.float .f64 r) := rfl
theorem dblN_le (m : Nat) (e : Int) : dblN m e ≤ 9218868437227405312 := Nat.min_le_right _ _
theorem abs_ev (V : Nat) (h : V < 9223372036854775808) : Ev Tryd.prog γ 122 [.v (.float .f64 V)] (.v (.float .f64 V)) := by
  refine Ev.of Tryd.func122 rfl ?_
  simp only [Tryd.f122, evS, tyS, Bool.not_true, Bool.not_false, Nat.reduceAdd, Nat.reduceSub, Nat.reduceMul, Nat.reduceLT, Nat.reduceLeDiff, Nat.reduceEqDiff, reduceCtorEq, List.reduceReplicate, Int.reduceToNat, Int.reduceLE, Int.reduceLT]
  refine CallK.ext (ext33 V) ?_
  simp only [bits_abs V h, evS, tyS, Bool.not_true, Bool.not_false, Nat.reduceAdd, Nat.reduceSub, Nat.reduceMul, Nat.reduceLT, Nat.reduceLeDiff, Nat.reduceEqDiff, reduceCtorEq, List.reduceReplicate, Int.reduceToNat, Int.reduceLE, Int.reduceLT]
  refine CallK.ext (ext108 V) ?_
  simp only [evS, tyS, Bool.not_true, Bool.not_false, Nat.reduceAdd, Nat.reduceSub, Nat.reduceMul, Nat.reduceLT, Nat.reduceLeDiff, Nat.reduceEqDiff, reduceCtorEq, List.reduceReplicate, Int.reduceToNat, Int.reduceLE, Int.reduceLT]
theorem isNaN_ev (V : Nat) (h : FloatKind.f64.format.order V V = some .eq) : Ev Tryd.prog γ 130 [.v (.float .f64 V)] (.v (.bool false)) := by
  refine Ev.of Tryd.func130 rfl ?_
  simp only [Tryd.f130, h, evS, tyS, Bool.not_true, Bool.not_false, Nat.reduceAdd, Nat.reduceSub, Nat.reduceMul, Nat.reduceLT, Nat.reduceLeDiff, Nat.reduceEqDiff, reduceCtorEq, List.reduceReplicate, Int.reduceToNat, Int.reduceLE, Int.reduceLT]
  rfl
theorem isInf_ev (V : Nat) (h : V < 9223372036854775808) : Ev Tryd.prog γ 100 [.v (.float .f64 V), .v (.int .i64 0)] (.v (.bool (FloatKind.f64.format.order V 9218868437227405311 == some .gt))) := by
  refine Ev.of Tryd.func100 rfl ?_
  have h00 : ((0 : Int) == 0) = true := by decide
  simp only [Tryd.f100, h00, evS, tyS, Bool.not_true, Bool.not_false, Nat.reduceAdd, Nat.reduceSub, Nat.reduceMul, Nat.reduceLT, Nat.reduceLeDiff, Nat.reduceEqDiff, reduceCtorEq, List.reduceReplicate, Int.reduceToNat, Int.reduceLE, Int.reduceLT]
  refine CallK.intro b122 rfl (abs_ev V h) ?_
  simp only [evS, tyS, Bool.not_true, Bool.not_false, Nat.reduceAdd, Nat.reduceSub, Nat.reduceMul, Nat.reduceLT, Nat.reduceLeDiff, Nat.reduceEqDiff, reduceCtorEq, List.reduceReplicate, Int.reduceToNat, Int.reduceLE, Int.reduceLT]
theorem inf_ev : Ev Tryd.prog γ 86 [.v (.int .i64 1)] (.v (.float .f64 9218868437227405312)) := by
  refine Ev.of Tryd.func86 rfl ?_
  simp only [Tryd.f86, evS, tyS, Bool.not_true, Bool.not_false, Nat.reduceAdd, Nat.reduceSub, Nat.reduceMul, Nat.reduceLT, Nat.reduceLeDiff, Nat.reduceEqDiff, reduceCtorEq, List.reduceReplicate, Int.reduceToNat, Int.reduceLE, Int.reduceLT]
  refine CallK.ext (ext108 9218868437227405312) ?_
  simp only [evS, tyS, Bool.not_true, Bool.not_false, Nat.reduceAdd, Nat.reduceSub, Nat.reduceMul, Nat.reduceLT, Nat.reduceLeDiff, Nat.reduceEqDiff, reduceCtorEq, List.reduceReplicate, Int.reduceToNat, Int.reduceLE, Int.reduceLT]
theorem normalize_ev {m : Nat} (h0 : 0 < m) (h : m < 9007199254740992) : Ev Tryd.prog γ 131 [.v (.float .f64 (dblN m 0))] (.tup [.v (.float .f64 (dblN m 0)), .v (.int .i64 0)]) := by
  have ho : FloatKind.f64.format.order (dblN m 0) 4503599627370496 = some .gt := ord_min h0 h
  have hl := dblN_le m 0
  have hgl : ((some Ordering.gt : Option Ordering) == some .lt) = false := by decide
  refine Ev.of Tryd.func131 rfl ?_
  simp only [Tryd.f131, evS, tyS, Bool.not_true, Bool.not_false, Nat.reduceAdd, Nat.reduceSub, Nat.reduceMul, Nat.reduceLT, Nat.reduceLeDiff, Nat.reduceEqDiff, reduceCtorEq, List.reduceReplicate, Int.reduceToNat, Int.reduceLE, Int.reduceLT]
  refine CallK.intro b122 rfl (abs_ev (dblN m 0) (by omega)) ?_
  simp only [ho, hgl, evS, tyS, Bool.not_true, Bool.not_false, Nat.reduceAdd, Nat.reduceSub, Nat.reduceMul, Nat.reduceLT, Nat.reduceLeDiff, Nat.reduceEqDiff, reduceCtorEq, List.reduceReplicate, Int.reduceToNat, Int.reduceLE, Int.reduceLT]
set_option maxRecDepth 20000 in
set_option maxRecDepth 20000 in
theorem ldexp_ev (m : Nat) (h0 : 0 < m) (h : m < 9007199254740992) (x : Int) (hx : -1074 ≤ x) (hx2 : x ≤ 1074) : Ev Tryd.prog γ 112 [.v (.float .f64 (dblN m 0)), .v (.int .i64 x)] (.v (.float .f64 (dblN m x))) := by
  have o0 : FloatKind.f64.format.order (dblN m 0) 0 = some .gt := ord_zero h0 h (by omega)
  have os : FloatKind.f64.format.order (dblN m 0) (dblN m 0) = some .eq := ord_self h0 h (by omega)
  have om : (FloatKind.f64.format.order (dblN m 0) 9218868437227405311 == some .gt) = false := by
    have := ord_max h0 h (by omega : (-1074 : Int) ≤ 0)
    have hlg := log2_lt53 h0 h
    rw [show FloatKind.f64.format = Ieee.double from rfl, this]; simp; omega
  have hnorm := normalize_ev (γ := γ) h0 h
  have hinf := dbl_inf (e := x) h0 h hx
  have hm1 : ∀ e : Int, -1074 ≤ e → e + m.log2 ≤ 1023 → FloatKind.f64.format.mul 4607182418800017408 (dblN m e) = some (dblN m e) := fun e g1 g2 => by
    have := mul_pow2 (e := e) h0 h g1 g2 4607182418800017408 0 (by rfl) (by omega)
    rw [Int.add_zero] at this
    exact this
  have hm2 : ∀ e : Int, -1074 ≤ e + 53 → -1074 ≤ e → e + 53 + m.log2 ≤ 1023 → FloatKind.f64.format.mul 4368491638549381120 (dblN m (e + 53)) = some (dblN m e) := fun e g1 g3 g2 => by
    have := mul_pow2 (e := e + 53) h0 h g1 g2 4368491638549381120 (-53) (by rfl) (by omega)
    rw [show e + 53 + -53 = e from by omega] at this
    exact this
  obtain ⟨L, F, hL, hL52, hF, hV, hword⟩ := ldexp_word h0 h
  rw [hL] at hinf hm1 hm2
  have hl := dblN_le m 0
  generalize hD : dblN m = D at *
  clear h0 h hD hL
  have c1 : decide (1023 < x + (L : Int)) = true → 1024 ≤ x + (L : Int) := fun h => by have := of_decide_eq_true h; omega
  have c2 : decide (1023 < x + (L : Int)) = false → x + (L : Int) ≤ 1023 := fun h => by have := of_decide_eq_false h; omega
  have c3 : decide (x + (L : Int) < -1022) = true → ∃ E G : Nat, IntKind.i64.wrap (x + (L : Int) + 53) = x + (L : Int) + 53 ∧ IntKind.i64.wrap (x + (L : Int) + 53 + 1023) = (E : Int) ∧ IntKind.u64.wrap (E : Int) = (E : Int) ∧ IntKind.u64.wrap ((E : Int) * 2 ^ min 52 IntKind.u64.bits) = (G : Int) ∧
      IntKind.u64.wrap (BitVec.ofInt IntKind.u64.bits (F : Int) ||| BitVec.ofInt IntKind.u64.bits (G : Int)).toNat = ((D (x + 53) : Nat) : Int) ∧ FloatKind.f64.format.mul 4368491638549381120 (D (x + 53)) = some (D x) := fun h => by
    have hd' := of_decide_eq_true h
    obtain ⟨E, hE⟩ : ∃ E : Nat, (E : Int) = x + (L : Int) + 53 + 1023 := ⟨(x + (L : Int) + 53 + 1023).toNat, by omega⟩
    have p52' : (2 : Int) ^ min 52 IntKind.u64.bits = 4503599627370496 := by decide
    have w9 := bits_or E F (by omega) hF
    obtain ⟨G, hG⟩ : ∃ G : Nat, (E : Int) * 4503599627370496 = (G : Int) := ⟨E * 4503599627370496, by omega⟩
    have wq := hword (x + 53) E (by omega) (by omega) (by omega)
    rw [wq, hG] at w9
    exact ⟨E, G, i64w (by omega) (by omega), (i64w (by omega) (by omega)).trans hE.symm, u64w (by omega) (by omega), by rw [p52', hG]; exact u64w (by omega) (by omega), w9, hm2 x (by omega) hx (by omega)⟩
  have c4 : decide (1023 < x + (L : Int)) = false → decide (x + (L : Int) < -1022) = false → ∃ E G : Nat, IntKind.i64.wrap (x + (L : Int) + 1023) = (E : Int) ∧ IntKind.u64.wrap (E : Int) = (E : Int) ∧ IntKind.u64.wrap ((E : Int) * 2 ^ min 52 IntKind.u64.bits) = (G : Int) ∧
      IntKind.u64.wrap (BitVec.ofInt IntKind.u64.bits (F : Int) ||| BitVec.ofInt IntKind.u64.bits (G : Int)).toNat = ((D x : Nat) : Int) ∧ FloatKind.f64.format.mul 4607182418800017408 (D x) = some (D x) := fun h1 h => by
    have hd' := of_decide_eq_false h
    have hd2 := of_decide_eq_false h1
    obtain ⟨E, hE⟩ : ∃ E : Nat, (E : Int) = x + (L : Int) + 1023 := ⟨(x + (L : Int) + 1023).toNat, by omega⟩
    have p52' : (2 : Int) ^ min 52 IntKind.u64.bits = 4503599627370496 := by decide
    have w9 := bits_or E F (by omega) hF
    obtain ⟨G, hG⟩ : ∃ G : Nat, (E : Int) * 4503599627370496 = (G : Int) := ⟨E * 4503599627370496, by omega⟩
    have wq := hword x E (by omega) (by omega) (by omega)
    rw [wq, hG] at w9
    exact ⟨E, G, (i64w (by omega) (by omega)).trans hE.symm, u64w (by omega) (by omega), by rw [p52', hG]; exact u64w (by omega) (by omega), w9, hm1 x hx (by omega)⟩
  have w1 : IntKind.i64.wrap ((L + 1023 : Nat) : Int) = ((L + 1023 : Nat) : Int) := i64w (by omega) (by omega)
  have w3 : IntKind.i64.wrap (((L + 1023 : Nat) : Int) - 1023) = (L : Int) := (i64w (by omega) (by omega)).trans (by omega)
  have w4 : IntKind.i64.wrap (x + (L : Int)) = x + (L : Int) := i64w (by omega) (by omega)
  have w0 : IntKind.i64.wrap (x + 0) = x := by rw [Int.add_zero]; exact i64w (by omega) (by omega)
  have l1 : decide (x + (L : Int) < -1075) = false := decide_eq_false (by omega)
  have hD0 : D 0 < 9223372036854775808 := by omega
  have w2 := bits_low (L + 1023) (by omega)
  have hdiv : ((D 0 : Nat) : Int) / 4503599627370496 = ((L + 1023 : Nat) : Int) := by rw [hV]; omega
  have fr : IntKind.u64.wrap (BitVec.ofInt IntKind.u64.bits ((D 0 : Nat) : Int) &&& ~~~BitVec.ofInt IntKind.u64.bits 9218868437227405312).toNat = (F : Int) := by
    have := bits_frac (L + 1023) F (by omega) hF
    rw [hV]; exact this
  have esh : ((D 0 : Nat) : Int).fdiv (2 ^ min (Int.toNat 52) IntKind.u64.bits) = ((L + 1023 : Nat) : Int) := by
    have e1 : (2 : Int) ^ min (Int.toNat 52) IntKind.u64.bits = 4503599627370496 := by decide
    rw [e1, Int.fdiv_eq_ediv_of_nonneg _ (by decide), hdiv]
  have esh' : ((D 0 : Nat) : Int).fdiv (2 ^ min 52 IntKind.u64.bits) = ((L + 1023 : Nat) : Int) := esh
  have ge : ((some Ordering.gt : Option Ordering) == some .eq) = false := by decide
  have gl : ((some Ordering.gt : Option Ordering) == some .lt) = false := by decide
  clear hV hdiv hword hm1 hm2
  refine Ev.of Tryd.func112 rfl ?_
  simp only [Tryd.f112, o0, ge, evS, tyS, Bool.not_true, Bool.not_false, Nat.reduceAdd, Nat.reduceSub, Nat.reduceMul, Nat.reduceLT, Nat.reduceLeDiff, Nat.reduceEqDiff, reduceCtorEq, List.reduceReplicate, Int.reduceToNat, Int.reduceLE, Int.reduceLT]
  refine CallK.intro b100 rfl (isInf_ev (D 0) hD0) ?_
  simp only [om, evS, tyS, Bool.not_true, Bool.not_false, Nat.reduceAdd, Nat.reduceSub, Nat.reduceMul, Nat.reduceLT, Nat.reduceLeDiff, Nat.reduceEqDiff, reduceCtorEq, List.reduceReplicate, Int.reduceToNat, Int.reduceLE, Int.reduceLT]
  refine CallK.intro b130 rfl (isNaN_ev (D 0) os) ?_
  simp only [evS, tyS, Bool.not_true, Bool.not_false, Nat.reduceAdd, Nat.reduceSub, Nat.reduceMul, Nat.reduceLT, Nat.reduceLeDiff, Nat.reduceEqDiff, reduceCtorEq, List.reduceReplicate, Int.reduceToNat, Int.reduceLE, Int.reduceLT]
  refine CallK.intro b131 rfl hnorm ?_
  simp only [evS, tyS, Bool.not_true, Bool.not_false, Nat.reduceAdd, Nat.reduceSub, Nat.reduceMul, Nat.reduceLT, Nat.reduceLeDiff, Nat.reduceEqDiff, reduceCtorEq, List.reduceReplicate, Int.reduceToNat, Int.reduceLE, Int.reduceLT]
  refine CallK.ext (ext33 (D 0)) ?_
  simp only [esh, esh', w0, w1, w2, w3, w4, l1, evS, tyS, Bool.not_true, Bool.not_false, Nat.reduceAdd, Nat.reduceSub, Nat.reduceMul, Nat.reduceLT, Nat.reduceLeDiff, Nat.reduceEqDiff, reduceCtorEq, List.reduceReplicate, Int.reduceToNat, Int.reduceLE, Int.reduceLT]
  refine CondK.intro (fun hg => ?_) (fun hg => ?_) <;> simp only [hg, o0, gl, fr, evS, tyS, Bool.not_true, Bool.not_false, Nat.reduceAdd, Nat.reduceSub, Nat.reduceMul, Nat.reduceLT, Nat.reduceLeDiff, Nat.reduceEqDiff, reduceCtorEq, List.reduceReplicate, Int.reduceToNat, Int.reduceLE, Int.reduceLT]
  · refine CallK.intro b86 rfl inf_ev ?_
    rw [hinf (c1 hg)]
    simp only [evS, tyS, Bool.not_true, Bool.not_false, Nat.reduceAdd, Nat.reduceSub, Nat.reduceMul, Nat.reduceLT, Nat.reduceLeDiff, Nat.reduceEqDiff, reduceCtorEq, List.reduceReplicate, Int.reduceToNat, Int.reduceLE, Int.reduceLT]
  · refine CondK.intro (fun hd => ?_) (fun hd => ?_)
    · obtain ⟨E, G, w5, w6, w7, w8, w9, mm⟩ := c3 hd
      simp only [hd, w5, w6, w7, w8, w9, fr, evS, tyS, Bool.not_true, Bool.not_false, Nat.reduceAdd, Nat.reduceSub, Nat.reduceMul, Nat.reduceLT, Nat.reduceLeDiff, Nat.reduceEqDiff, reduceCtorEq, List.reduceReplicate, Int.reduceToNat, Int.reduceLE, Int.reduceLT]
      refine CallK.ext (ext108 (D (x + 53))) ?_
      simp only [mm, fltRes_some, evS, tyS, Bool.not_true, Bool.not_false, Nat.reduceAdd, Nat.reduceSub, Nat.reduceMul, Nat.reduceLT, Nat.reduceLeDiff, Nat.reduceEqDiff, reduceCtorEq, List.reduceReplicate, Int.reduceToNat, Int.reduceLE, Int.reduceLT]
    · obtain ⟨E, G, w6, w7, w8, w9, mm⟩ := c4 hg hd
      simp only [hd, w6, w7, w8, w9, fr, evS, tyS, Bool.not_true, Bool.not_false, Nat.reduceAdd, Nat.reduceSub, Nat.reduceMul, Nat.reduceLT, Nat.reduceLeDiff, Nat.reduceEqDiff, reduceCtorEq, List.reduceReplicate, Int.reduceToNat, Int.reduceLE, Int.reduceLT]
      refine CallK.ext (ext108 (D x)) ?_
      simp only [mm, fltRes_some, evS, tyS, Bool.not_true, Bool.not_false, Nat.reduceAdd, Nat.reduceSub, Nat.reduceMul, Nat.reduceLT, Nat.reduceLeDiff, Nat.reduceEqDiff, reduceCtorEq, List.reduceReplicate, Int.reduceToNat, Int.reduceLE, Int.reduceLT]
theorem Ldexp_ev (m : Nat) (h0 : 0 < m) (h : m < 9007199254740992) (x : Int) (hx : -1074 ≤ x) (hx2 : x ≤ 1074) : Ev Tryd.prog γ 89 [.v (.float .f64 (dblN m 0)), .v (.int .i64 x)] (.v (.float .f64 (dblN m x))) := by
  refine Ev.of Tryd.func89 rfl ?_
  simp only [Tryd.f89, evS, tyS, Bool.not_true, Bool.not_false, Nat.reduceAdd, Nat.reduceSub, Nat.reduceMul, Nat.reduceLT, Nat.reduceLeDiff, Nat.reduceEqDiff, reduceCtorEq, List.reduceReplicate, Int.reduceToNat, Int.reduceLE, Int.reduceLT]
  refine CallK.intro b112 rfl (ldexp_ev m h0 h x hx hx2) ?_
  simp only [evS, tyS, Bool.not_true, Bool.not_false, Nat.reduceAdd, Nat.reduceSub, Nat.reduceMul, Nat.reduceLT, Nat.reduceLeDiff, Nat.reduceEqDiff, reduceCtorEq, List.reduceReplicate, Int.reduceToNat, Int.reduceLE, Int.reduceLT]
theorem Ldexp0_ev : Ev Tryd.prog γ 89 [.v (.float .f64 0), .v (.int .i64 0)] (.v (.float .f64 0)) := by
  have o0 : (FloatKind.f64.format.order 0 0 == some .eq) = true := by rfl
  have h1 : Ev Tryd.prog γ 112 [.v (.float .f64 0), .v (.int .i64 0)] (.v (.float .f64 0)) := by
    refine Ev.of Tryd.func112 rfl ?_
    simp only [Tryd.f112, o0, evS, tyS, Bool.not_true, Bool.not_false, Nat.reduceAdd, Nat.reduceSub, Nat.reduceMul, Nat.reduceLT, Nat.reduceLeDiff, Nat.reduceEqDiff, reduceCtorEq, List.reduceReplicate, Int.reduceToNat, Int.reduceLE, Int.reduceLT]
  refine Ev.of Tryd.func89 rfl ?_
  simp only [Tryd.f89, evS, tyS, Bool.not_true, Bool.not_false, Nat.reduceAdd, Nat.reduceSub, Nat.reduceMul, Nat.reduceLT, Nat.reduceLeDiff, Nat.reduceEqDiff, reduceCtorEq, List.reduceReplicate, Int.reduceToNat, Int.reduceLE, Int.reduceLT]
  refine CallK.intro b112 rfl h1 ?_
  simp only [evS, tyS, Bool.not_true, Bool.not_false, Nat.reduceAdd, Nat.reduceSub, Nat.reduceMul, Nat.reduceLT, Nat.reduceLeDiff, Nat.reduceEqDiff, reduceCtorEq, List.reduceReplicate, Int.reduceToNat, Int.reduceLE, Int.reduceLT]
end Go.Proofs.YtplnhipgifcafaaDoor
namespace Go.Proofs.YtplnhipgifcafaaDoor
set_option linter.all false
open Go Go.Ev
variable {γ : List (Nat × AV)}
theorem digitsEnd_ge (l : List UInt8) (i : Nat) : i ≤ digitsEnd l i := by unfold digitsEnd; omega
theorem digitsEnd_le {l : List UInt8} {i : Nat} (h : i ≤ l.length) : digitsEnd l i ≤ l.length := by
  have := (spanEnd_le (p := digitN) h).2
  rwa [← digitsEnd_span] at this
theorem digitsEnd_all {l : List UInt8} : ∀ (k : Nat) {i j : Nat}, j = i + k → j < digitsEnd l i → digitN (atL l j) = true
  | 0, i, j, e, h => by
    obtain rfl : j = i := by omega
    cases hd : digitN (atL l j) with
    | true => rfl
    | false => rw [digitsEnd_stop hd] at h; omega
  | k + 1, i, j, e, h => by
    cases hd : digitN (atL l i) with
    | true => exact digitsEnd_all k (i := i + 1) (by omega) (by rwa [(digitsEnd_step hd).1] at h)
    | false => rw [digitsEnd_stop hd] at h; omega
theorem digitsEnd_lt {l : List UInt8} {i : Nat} (h : digitN (atL l i) = true) : i < digitsEnd l i := by
  rw [(digitsEnd_step h).1]
  have := digitsEnd_ge l (i + 1)
  omega
theorem atL_take {l : List UInt8} {n j : Nat} (h : j < n) : atL (l.take n) j = atL l j := by
  simp only [atL, List.getD, List.getElem?_take, if_pos h]
theorem atL_dropk (l : List UInt8) (k j : Nat) : atL (l.drop k) j = atL l (k + j) := by
  simp only [atL, List.getD, List.getElem?_drop]
/-- The digits from a place on. -/
def numL (l : List UInt8) (i : Nat) : List UInt8 := (l.drop i).take (digitsEnd l i - i)
theorem numL_len {l : List UInt8} {i : Nat} (h : i ≤ l.length) : (numL l i).length = digitsEnd l i - i := by
  have h1 := digitsEnd_le h
  rw [numL, List.length_take, List.length_drop]; omega
theorem numL_digit {l : List UInt8} {i : Nat} (h : i ≤ l.length) (j : Nat) (hj : j < (numL l i).length) : digitN (atL (numL l i) j) = true := by
  rw [numL_len h] at hj
  rw [numL, atL_take hj, atL_dropk]
  exact digitsEnd_all j rfl (by omega)
/-- What decimal tells: the number, and may it be? -/
def decM (l : List UInt8) : Int := if 1 < l.length ∧ atL l 0 = 48 then 0 else if decV l < 9223372036854775808 then decV l else 9223372036854775807
def decO (l : List UInt8) (most : Int) : Bool := decide (¬ (1 < l.length ∧ atL l 0 = 48) ∧ decV l < 9223372036854775808 ∧ (decV l : Int) ≤ most)
theorem decR_eq (l : List UInt8) (most : Int) : decR l most = .tup [.v (.int .i64 (decM l)), .v (.bool (decO l most))] := by
  unfold decR decM decO
  by_cases h1 : 1 < l.length ∧ atL l 0 = 48
  · simp [h1]
  · by_cases h2 : decV l < 9223372036854775808
    · simp [h1, h2]
    · simp [h1, h2]
theorem decM_pos (l : List UInt8) : 0 ≤ decM l ∧ decM l ≤ 9223372036854775807 := by
  unfold decM; split
  · omega
  · split <;> omega
theorem decO_iff {l : List UInt8} {most : Int} (h : decO l most = true) : decM l = decV l ∧ (decV l : Int) ≤ most := by
  unfold decO at h
  have h := of_decide_eq_true h
  unfold decM
  rw [if_neg h.1, if_pos h.2.1]
  exact ⟨rfl, h.2.2⟩
theorem decimalAt_ev (hγ : Gl γ) (b : Bool) (l : List UInt8) (i : Nat) (most : Int) (h1 : i < digitsEnd l i) (hi : i ≤ l.length) (hl : l.length ≤ 140737488351232) :
    Ev Tryd.prog γ 73 [.sl b (digitsEnd l i - i) (l.length - i) (List.drop i (l.map byteC)), .v (.int .i64 most)] (.tup [.v (.int .i64 (decM (numL l i))), .v (.bool (decO (numL l i) most))]) := by
  have hle := digitsEnd_le hi
  rw [← List.map_drop]
  refine Ev_cut1 (by omega) (by rw [List.length_drop]; omega) ?_
  have := lexDecimal_ev hγ b (numL l i) most (by rw [numL_len hi]; omega) (by rw [numL_len hi]; omega) (numL_digit hi)
  rwa [decR_eq] at this
/-- m * 2^e as a double. -/
def realB (m : Nat) (e : Int) : Nat := if m = 0 then 0 else dblN m e
def finB (m : Nat) (e : Int) : Bool := decide (m = 0 ∨ e + m.log2 ≤ 1023)
def expOf (sg : Nat) (x : Nat) : Int := if sg = 1 then -(x : Int) else x
/-- May a real be, of these two rows of digits? -/
def realO (sg : Nat) (a b : List UInt8) (follow : Nat) : Bool :=
  decO a 9007199254740991 && decO b (1023 + 51 * sg) && (decide (decV a % 2 = 1) || (decide (decV a = 0) && decide (decV b = 0))) && !(decide (sg = 1) && decide (decV b = 0)) && !nameN follow && finB (decV a) (expOf sg (decV b))
def errTok (k : Int) : AV := .tup [tokA 0 [] 0 f0 0 0, .v (.int .i64 k)]
def okTok (t : AV) : AV := .tup [t, .v (.int .i64 0)]
def realA (l : List UInt8) (p sg : Nat) : AV :=
  if realO sg (numL l 0) (numL l (p + 1 + sg)) (atL l (digitsEnd l (p + 1 + sg))) = true then
    okTok (tokA 3 [] 0 (.v (.float .f64 (realB (decV (numL l 0)) (expOf sg (decV (numL l (p + 1 + sg))))))) 0 (digitsEnd l (p + 1 + sg)))
  else errTok 12
theorem near_eq (m : Nat) (h : m < 9007199254740992) : FloatKind.f64.nearest (m : Int) = realB m 0 := by
  unfold realB
  by_cases h0 : m = 0
  · subst h0; rfl
  · rw [if_neg h0]
    have := nearest_exact m 0 0 (by omega) h (by omega)
    have e1 : (decide ((m : Int) < 0)) = false := decide_eq_false (by omega)
    show Ieee.double.nearest (decide ((m : Int) < 0)) (m : Int).natAbs 0 = _
    rw [e1, Int.natAbs_natCast, ← this]
    rw [Nat.pow_zero, Nat.mul_one]
    rfl
theorem LdexpB_ev (m : Nat) (h : m < 9007199254740992) (x : Int) (hx : -1074 ≤ x) (hx2 : x ≤ 1074) (h0 : m = 0 → x = 0) : Ev Tryd.prog γ 89 [.v (.float .f64 (realB m 0)), .v (.int .i64 x)] (.v (.float .f64 (realB m x))) := by
  unfold realB
  by_cases hm : m = 0
  · rw [if_pos hm, if_pos hm, h0 hm]; exact Ldexp0_ev
  · rw [if_neg hm, if_neg hm]; exact Ldexp_ev m (by omega) h x hx hx2
theorem isInfB_ev (m : Nat) (h : m < 9007199254740992) (x : Int) (hx : -1074 ≤ x) : Ev Tryd.prog γ 100 [.v (.float .f64 (realB m x)), .v (.int .i64 0)] (.v (.bool (!finB m x))) := by
  unfold realB finB
  by_cases hm : m = 0
  · rw [if_pos hm]
    have := isInf_ev (γ := γ) 0 (by omega)
    have e : (FloatKind.f64.format.order 0 9218868437227405311 == some .gt) = !decide (m = 0 ∨ x + m.log2 ≤ 1023) := by
      rw [decide_eq_true (.inl hm)]; rfl
    rwa [e] at this
  · rw [if_neg hm]
    have hl := dblN_le m x
    have := isInf_ev (γ := γ) (dblN m x) (by omega)
    have e : (FloatKind.f64.format.order (dblN m x) 9218868437227405311 == some .gt) = !decide (m = 0 ∨ x + m.log2 ≤ 1023) := by
      have := ord_max (e := x) (by omega) h hx
      rw [show FloatKind.f64.format = Ieee.double from rfl, this, ← decide_not]
      congr 1
      simp only [eq_iff_iff]; omega
    rwa [e] at this
theorem realO_iff {sg : Nat} {a b : List UInt8} {f : Nat} : realO sg a b f = true ↔ decO a 9007199254740991 = true ∧ decO b (1023 + 51 * sg) = true ∧ (decV a % 2 = 1 ∨ decV a = 0 ∧ decV b = 0) ∧ ¬ (sg = 1 ∧ decV b = 0) ∧ nameN f = false ∧ finB (decV a) (expOf sg (decV b)) = true := by
  unfold realO
  simp only [Bool.and_eq_true, Bool.or_eq_true, Bool.not_eq_true', decide_eq_true_eq, Bool.and_eq_false_iff, decide_eq_false_iff_not]
  constructor
  · rintro ⟨⟨⟨⟨⟨a1, a2⟩, a3⟩, a4⟩, a5⟩, a6⟩
    exact ⟨a1, a2, a3, by omega, a5, a6⟩
  · rintro ⟨a1, a2, a3, a4, a5, a6⟩
    exact ⟨⟨⟨⟨⟨a1, a2⟩, a3⟩, by omega⟩, a5⟩, a6⟩
set_option maxHeartbeats 4000000 in
set_option maxRecDepth 20000 in
theorem lexReal_ev (hγ : Gl γ) (b : Bool) (l : List UInt8) (p sg : Nat) (hp : p = digitsEnd l 0) (hp1 : 1 ≤ p) (hsg : sg = 0 ∨ sg = 1) (hd : digitN (atL l (p + 1 + sg)) = true) (hl : l.length ≤ 140737488351232) :
    Ev Tryd.prog γ 72 [.sl b l.length l.length (l.map byteC), .v (.int .i64 p), .v (.int .i64 sg)] (realA l p sg) := by
  refine Ev.of Tryd.func72 rfl ?_
  have hlt := digitsEnd_lt hd
  have hpl := (digitsEnd_step hd).2
  have hle := digitsEnd_le (l := l) (i := p + 1 + sg) (by omega)
  have w1 : IntKind.i64.wrap ((p : Int) + 1) = ((p + 1 : Nat) : Int) := i64w (by omega) (by omega)
  have w2 : IntKind.i64.wrap (((p + 1 : Nat) : Int) + (sg : Int)) = ((p + 1 + sg : Nat) : Int) := i64w (by omega) (by omega)
  have w3 : IntKind.i64.wrap (51 * (sg : Int)) = 51 * (sg : Int) := i64w (by omega) (by omega)
  have w4 : IntKind.i64.wrap (1023 + 51 * (sg : Int)) = 1023 + 51 * (sg : Int) := i64w (by omega) (by omega)
  have ha := decimalAt_ev hγ b l 0 9007199254740991 (by omega) (by omega) hl
  rw [List.drop_zero, Nat.sub_zero, Nat.sub_zero, ← hp] at ha
  have hb := decimalAt_ev hγ b l (p + 1 + sg) (1023 + 51 * sg) hlt (by omega) hl
  have hR : realA l p sg = if realO sg (numL l 0) (numL l (p + 1 + sg)) (atL l (digitsEnd l (p + 1 + sg))) = true then
    okTok (tokA 3 [] 0 (.v (.float .f64 (realB (decV (numL l 0)) (expOf sg (decV (numL l (p + 1 + sg))))))) 0 (digitsEnd l (p + 1 + sg)))
    else errTok 12 := rfl
  generalize realA l p sg = R at hR ⊢
  have hLd := fun (m : Nat) (h : m < 9007199254740992) (x : Int) hx hx2 h0 => LdexpB_ev (γ := γ) m h x hx hx2 h0
  have hat := lexAt_ev (γ := γ) b l (digitsEnd l (p + 1 + sg))
  have hnE : digitsEnd l (p + 1 + sg) ≤ 140737488351232 := by omega
  generalize hA : numL l 0 = a at *
  generalize hB : numL l (p + 1 + sg) = c at *
  generalize atL l (digitsEnd l (p + 1 + sg)) = f at *
  have hdg := lexDigits_ev (γ := γ) b l (p + 1 + sg) (by omega) (by omega)
  have hge := digitsEnd_ge l (p + 1 + sg)
  generalize digitsEnd l (p + 1 + sg) = n at *
  clear hd hA hB
  simp only [Tryd.f72, w1, w2, w3, w4, evS, tyS, Bool.not_true, Bool.not_false, Nat.reduceAdd, Nat.reduceSub, Nat.reduceMul, Nat.reduceLT, Nat.reduceLeDiff, Nat.reduceEqDiff, reduceCtorEq, List.reduceReplicate, Int.reduceToNat, Int.reduceLE, Int.reduceLT]
  refine CallK.intro b70 (by simp [treeL, treeA]) hdg ?_
  simp only [w1, w2, w3, w4, evS, tyS, Bool.not_true, Bool.not_false, Nat.reduceAdd, Nat.reduceSub, Nat.reduceMul, Nat.reduceLT, Nat.reduceLeDiff, Nat.reduceEqDiff, reduceCtorEq, List.reduceReplicate, Int.reduceToNat, Int.reduceLE, Int.reduceLT]
  (repeat' (first | (with_reducible refine And.intro ?_ ?_) | ((first | refine GuardK.intro_f (fun h => ?_) (fun h => ?_) | refine GuardK.intro_t (fun h => ?_) (fun h => ?_) | refine CondK.intro (fun h => ?_) (fun h => ?_) | refine PickK.intro (fun h => ?_) (fun h => ?_)) <;> simp only [h, w1, w2, w3, w4, evS, tyS, Bool.not_true, Bool.not_false, Nat.reduceAdd, Nat.reduceSub, Nat.reduceMul, Nat.reduceLT, Nat.reduceLeDiff, Nat.reduceEqDiff, reduceCtorEq, List.reduceReplicate, Int.reduceToNat, Int.reduceLE, Int.reduceLT]) | (refine DrawK.intro (by kernel_rfl) (by kernel_rfl) ?_; simp only [w1, w2, w3, w4, evS, tyS, Bool.not_true, Bool.not_false, Nat.reduceAdd, Nat.reduceSub, Nat.reduceMul, Nat.reduceLT, Nat.reduceLeDiff, Nat.reduceEqDiff, reduceCtorEq, List.reduceReplicate, Int.reduceToNat, Int.reduceLE, Int.reduceLT])))
  all_goals try (((try simp only [decide_eq_true_eq, decide_eq_false_iff_not, beq_iff_eq, bne_iff_ne, ne_eq, beq_eq_false_iff_ne, bne_eq_false_iff_eq] at *) <;> (try omega)); done)
  refine CallK.intro b73 (by simp [treeL, treeA]) ha ?_
  simp only [w1, w2, w3, w4, evS, tyS, Bool.not_true, Bool.not_false, Nat.reduceAdd, Nat.reduceSub, Nat.reduceMul, Nat.reduceLT, Nat.reduceLeDiff, Nat.reduceEqDiff, reduceCtorEq, List.reduceReplicate, Int.reduceToNat, Int.reduceLE, Int.reduceLT]
  (repeat' (first | (with_reducible refine And.intro ?_ ?_) | ((first | refine GuardK.intro_f (fun h => ?_) (fun h => ?_) | refine GuardK.intro_t (fun h => ?_) (fun h => ?_) | refine CondK.intro (fun h => ?_) (fun h => ?_) | refine PickK.intro (fun h => ?_) (fun h => ?_)) <;> simp only [h, w1, w2, w3, w4, evS, tyS, Bool.not_true, Bool.not_false, Nat.reduceAdd, Nat.reduceSub, Nat.reduceMul, Nat.reduceLT, Nat.reduceLeDiff, Nat.reduceEqDiff, reduceCtorEq, List.reduceReplicate, Int.reduceToNat, Int.reduceLE, Int.reduceLT]) | (refine DrawK.intro (by kernel_rfl) (by kernel_rfl) ?_; simp only [w1, w2, w3, w4, evS, tyS, Bool.not_true, Bool.not_false, Nat.reduceAdd, Nat.reduceSub, Nat.reduceMul, Nat.reduceLT, Nat.reduceLeDiff, Nat.reduceEqDiff, reduceCtorEq, List.reduceReplicate, Int.reduceToNat, Int.reduceLE, Int.reduceLT])))
  all_goals try (((try simp only [decide_eq_true_eq, decide_eq_false_iff_not, beq_iff_eq, bne_iff_ne, ne_eq, beq_eq_false_iff_ne, bne_eq_false_iff_eq] at *) <;> (try omega)); done)
  refine CallK.intro b73 (by simp [treeL, treeA]) hb ?_
  clear ha hb hdg
  by_cases hOa : decO a 9007199254740991 = true
  · by_cases hOb : decO c (1023 + 51 * sg) = true
    · obtain ⟨ea, eb⟩ := decO_iff hOa
      obtain ⟨ec, ed⟩ := decO_iff hOb
      rw [ea, ec, hOa, hOb]
      simp only [realO_iff, hOa, hOb, true_and] at hR
      have etm : ∀ n : Nat, ((n : Int).tmod 2 == 1) = decide (n % 2 = 1) := fun n => by
        rw [Int.tmod_eq_emod_of_nonneg (by omega)]
        by_cases h : n % 2 = 1
        · rw [decide_eq_true h]; simp; omega
        · rw [decide_eq_false h]; simp; omega
      have ez : ∀ n : Nat, ((n : Int) == 0) = decide (n = 0) := fun n => by
        by_cases h : n = 0
        · simp [h]
        · rw [decide_eq_false h]; simp [h]
      have e1 : ∀ n : Nat, ((n : Int) == 1) = decide (n = 1) := fun n => by
        by_cases h : n = 1
        · simp [h]
        · rw [decide_eq_false h]; simp; omega
      generalize decV a = A at *
      generalize decV c = B at *
      have nq : FloatKind.f64.nearest (A : Int) = realB A 0 := near_eq A (by omega)
      have wn : IntKind.i64.wrap (0 - (B : Int)) = -(B : Int) := (i64w (by omega) (by omega)).trans (by omega)
      have x1 : sg = 1 → expOf sg B = -(B : Int) := fun h => by rw [expOf, if_pos h]
      have x0 : sg ≠ 1 → expOf sg B = (B : Int) := fun h => by rw [expOf, if_neg h]
      simp only [etm, ez, e1, evS, tyS, Bool.not_true, Bool.not_false, Nat.reduceAdd, Nat.reduceSub, Nat.reduceMul, Nat.reduceLT, Nat.reduceLeDiff, Nat.reduceEqDiff, reduceCtorEq, List.reduceReplicate, Int.reduceToNat, Int.reduceLE, Int.reduceLT]
      (repeat' (first | (with_reducible refine And.intro ?_ ?_) | ((first | refine GuardK.intro_f (fun h => ?_) (fun h => ?_) | refine GuardK.intro_t (fun h => ?_) (fun h => ?_) | refine CondK.intro (fun h => ?_) (fun h => ?_) | refine PickK.intro (fun h => ?_) (fun h => ?_)) <;> simp only [h, etm, ez, e1, evS, tyS, Bool.not_true, Bool.not_false, Nat.reduceAdd, Nat.reduceSub, Nat.reduceMul, Nat.reduceLT, Nat.reduceLeDiff, Nat.reduceEqDiff, reduceCtorEq, List.reduceReplicate, Int.reduceToNat, Int.reduceLE, Int.reduceLT]) | (refine DrawK.intro (by kernel_rfl) (by kernel_rfl) ?_; simp only [etm, ez, e1, evS, tyS, Bool.not_true, Bool.not_false, Nat.reduceAdd, Nat.reduceSub, Nat.reduceMul, Nat.reduceLT, Nat.reduceLeDiff, Nat.reduceEqDiff, reduceCtorEq, List.reduceReplicate, Int.reduceToNat, Int.reduceLE, Int.reduceLT])))
      all_goals try (((try simp only [decide_eq_true_eq, decide_eq_false_iff_not, beq_iff_eq, bne_iff_ne, ne_eq, beq_eq_false_iff_ne, bne_eq_false_iff_eq] at *) <;> (try omega)); done)
      all_goals (try simp only [Bool.not_eq_true', Bool.not_eq_false', Bool.not_true, Bool.not_false, decide_eq_true_eq, decide_eq_false_iff_not] at *)
      all_goals try (rw [hR, if_neg (by rintro ⟨q1, q2, q3, q4⟩; omega)]; simp only [errTok, tokA, f0, evS, tyS, Bool.not_true, Bool.not_false, Nat.reduceAdd, Nat.reduceSub, Nat.reduceMul, Nat.reduceLT, Nat.reduceLeDiff, Nat.reduceEqDiff, reduceCtorEq, List.reduceReplicate, Int.reduceToNat, Int.reduceLE, Int.reduceLT]; done)
      all_goals
        (refine CallK.intro b71 (by simp [treeL, treeA]) hat ?_
         simp only [etm, ez, e1, evS, tyS, Bool.not_true, Bool.not_false, Nat.reduceAdd, Nat.reduceSub, Nat.reduceMul, Nat.reduceLT, Nat.reduceLeDiff, Nat.reduceEqDiff, reduceCtorEq, List.reduceReplicate, Int.reduceToNat, Int.reduceLE, Int.reduceLT]
         refine CallK.intro b69 rfl (lexInName_ev f) ?_
         simp only [etm, ez, e1, evS, tyS, Bool.not_true, Bool.not_false, Nat.reduceAdd, Nat.reduceSub, Nat.reduceMul, Nat.reduceLT, Nat.reduceLeDiff, Nat.reduceEqDiff, reduceCtorEq, List.reduceReplicate, Int.reduceToNat, Int.reduceLE, Int.reduceLT]
         refine CondK.intro (fun hn => ?_) (fun hn => ?_) <;> simp only [hn, etm, ez, e1, wn, nq, evS, tyS, Bool.not_true, Bool.not_false, Nat.reduceAdd, Nat.reduceSub, Nat.reduceMul, Nat.reduceLT, Nat.reduceLeDiff, Nat.reduceEqDiff, reduceCtorEq, List.reduceReplicate, Int.reduceToNat, Int.reduceLE, Int.reduceLT])
      all_goals try (rw [hR, if_neg (by rintro ⟨q1, q2, q3, q4⟩; rw [hn] at q3; cases q3)]; simp only [errTok, tokA, f0, evS, tyS, Bool.not_true, Bool.not_false, Nat.reduceAdd, Nat.reduceSub, Nat.reduceMul, Nat.reduceLT, Nat.reduceLeDiff, Nat.reduceEqDiff, reduceCtorEq, List.reduceReplicate, Int.reduceToNat, Int.reduceLE, Int.reduceLT]; done)
      all_goals (refine CondK.intro (fun h9 => ?_) (fun h9 => ?_) <;> simp only [h9, etm, ez, e1, wn, nq, evS, tyS, Bool.not_true, Bool.not_false, Nat.reduceAdd, Nat.reduceSub, Nat.reduceMul, Nat.reduceLT, Nat.reduceLeDiff, Nat.reduceEqDiff, reduceCtorEq, List.reduceReplicate, Int.reduceToNat, Int.reduceLE, Int.reduceLT])
      all_goals (try simp only [Bool.not_eq_true', Bool.not_eq_false', Bool.not_true, Bool.not_false, decide_eq_true_eq, decide_eq_false_iff_not] at *)
      all_goals try omega
      · refine CallK.intro b89 rfl (hLd A (by omega) (B : Int) (by omega) (by omega) (by omega)) ?_
        simp only [evS, tyS, Bool.not_true, Bool.not_false, Nat.reduceAdd, Nat.reduceSub, Nat.reduceMul, Nat.reduceLT, Nat.reduceLeDiff, Nat.reduceEqDiff, reduceCtorEq, List.reduceReplicate, Int.reduceToNat, Int.reduceLE, Int.reduceLT]
        refine CallK.intro b100 rfl (isInfB_ev A (by omega) _ (by omega)) ?_
        rw [x0 (by omega)] at hR
        simp only [evS, tyS, Bool.not_true, Bool.not_false, Nat.reduceAdd, Nat.reduceSub, Nat.reduceMul, Nat.reduceLT, Nat.reduceLeDiff, Nat.reduceEqDiff, reduceCtorEq, List.reduceReplicate, Int.reduceToNat, Int.reduceLE, Int.reduceLT]
        cases hf : finB A (B : Int) with
        | false => rw [hR, if_neg (by rintro ⟨q1, q2, q3, q4⟩; rw [hf] at q4; cases q4)]; simp only [errTok, tokA, f0, hf, evS, tyS, Bool.not_true, Bool.not_false, Nat.reduceAdd, Nat.reduceSub, Nat.reduceMul, Nat.reduceLT, Nat.reduceLeDiff, Nat.reduceEqDiff, reduceCtorEq, List.reduceReplicate, Int.reduceToNat, Int.reduceLE, Int.reduceLT]
        | true => rw [hR, if_pos ⟨by omega, by omega, hn, hf⟩]; simp only [okTok, tokA, f0, hf, evS, tyS, Bool.not_true, Bool.not_false, Nat.reduceAdd, Nat.reduceSub, Nat.reduceMul, Nat.reduceLT, Nat.reduceLeDiff, Nat.reduceEqDiff, reduceCtorEq, List.reduceReplicate, Int.reduceToNat, Int.reduceLE, Int.reduceLT]
      · refine CallK.intro b89 rfl (hLd A (by omega) (-(B : Int)) (by omega) (by omega) (by omega)) ?_
        simp only [evS, tyS, Bool.not_true, Bool.not_false, Nat.reduceAdd, Nat.reduceSub, Nat.reduceMul, Nat.reduceLT, Nat.reduceLeDiff, Nat.reduceEqDiff, reduceCtorEq, List.reduceReplicate, Int.reduceToNat, Int.reduceLE, Int.reduceLT]
        refine CallK.intro b100 rfl (isInfB_ev A (by omega) _ (by omega)) ?_
        rw [x1 (by omega)] at hR
        simp only [evS, tyS, Bool.not_true, Bool.not_false, Nat.reduceAdd, Nat.reduceSub, Nat.reduceMul, Nat.reduceLT, Nat.reduceLeDiff, Nat.reduceEqDiff, reduceCtorEq, List.reduceReplicate, Int.reduceToNat, Int.reduceLE, Int.reduceLT]
        cases hf : finB A (-(B : Int)) with
        | false => rw [hR, if_neg (by rintro ⟨q1, q2, q3, q4⟩; rw [hf] at q4; cases q4)]; simp only [errTok, tokA, f0, hf, evS, tyS, Bool.not_true, Bool.not_false, Nat.reduceAdd, Nat.reduceSub, Nat.reduceMul, Nat.reduceLT, Nat.reduceLeDiff, Nat.reduceEqDiff, reduceCtorEq, List.reduceReplicate, Int.reduceToNat, Int.reduceLE, Int.reduceLT]
        | true => rw [hR, if_pos ⟨by omega, by omega, hn, hf⟩]; simp only [okTok, tokA, f0, hf, evS, tyS, Bool.not_true, Bool.not_false, Nat.reduceAdd, Nat.reduceSub, Nat.reduceMul, Nat.reduceLT, Nat.reduceLeDiff, Nat.reduceEqDiff, reduceCtorEq, List.reduceReplicate, Int.reduceToNat, Int.reduceLE, Int.reduceLT]
      · refine CallK.intro b89 rfl (hLd A (by omega) (B : Int) (by omega) (by omega) (by omega)) ?_
        simp only [evS, tyS, Bool.not_true, Bool.not_false, Nat.reduceAdd, Nat.reduceSub, Nat.reduceMul, Nat.reduceLT, Nat.reduceLeDiff, Nat.reduceEqDiff, reduceCtorEq, List.reduceReplicate, Int.reduceToNat, Int.reduceLE, Int.reduceLT]
        refine CallK.intro b100 rfl (isInfB_ev A (by omega) _ (by omega)) ?_
        rw [x0 (by omega)] at hR
        simp only [evS, tyS, Bool.not_true, Bool.not_false, Nat.reduceAdd, Nat.reduceSub, Nat.reduceMul, Nat.reduceLT, Nat.reduceLeDiff, Nat.reduceEqDiff, reduceCtorEq, List.reduceReplicate, Int.reduceToNat, Int.reduceLE, Int.reduceLT]
        cases hf : finB A (B : Int) with
        | false => rw [hR, if_neg (by rintro ⟨q1, q2, q3, q4⟩; rw [hf] at q4; cases q4)]; simp only [errTok, tokA, f0, hf, evS, tyS, Bool.not_true, Bool.not_false, Nat.reduceAdd, Nat.reduceSub, Nat.reduceMul, Nat.reduceLT, Nat.reduceLeDiff, Nat.reduceEqDiff, reduceCtorEq, List.reduceReplicate, Int.reduceToNat, Int.reduceLE, Int.reduceLT]
        | true => rw [hR, if_pos ⟨by omega, by omega, hn, hf⟩]; simp only [okTok, tokA, f0, hf, evS, tyS, Bool.not_true, Bool.not_false, Nat.reduceAdd, Nat.reduceSub, Nat.reduceMul, Nat.reduceLT, Nat.reduceLeDiff, Nat.reduceEqDiff, reduceCtorEq, List.reduceReplicate, Int.reduceToNat, Int.reduceLE, Int.reduceLT]
    · have hb' : decO c (1023 + 51 * sg) = false := by simpa using hOb
      rw [hR, if_neg (by rw [realO_iff]; rintro ⟨q1, q2, _⟩; exact hOb q2), hOa, hb']
      simp only [evS, tyS, Bool.not_true, Bool.not_false, Nat.reduceAdd, Nat.reduceSub, Nat.reduceMul, Nat.reduceLT, Nat.reduceLeDiff, Nat.reduceEqDiff, reduceCtorEq, List.reduceReplicate, Int.reduceToNat, Int.reduceLE, Int.reduceLT]
      (repeat' (first | (with_reducible refine And.intro ?_ ?_) | ((first | refine GuardK.intro_f (fun h => ?_) (fun h => ?_) | refine GuardK.intro_t (fun h => ?_) (fun h => ?_) | refine CondK.intro (fun h => ?_) (fun h => ?_) | refine PickK.intro (fun h => ?_) (fun h => ?_)) <;> simp only [h, evS, tyS, Bool.not_true, Bool.not_false, Nat.reduceAdd, Nat.reduceSub, Nat.reduceMul, Nat.reduceLT, Nat.reduceLeDiff, Nat.reduceEqDiff, reduceCtorEq, List.reduceReplicate, Int.reduceToNat, Int.reduceLE, Int.reduceLT]) | (refine DrawK.intro (by kernel_rfl) (by kernel_rfl) ?_; simp only [evS, tyS, Bool.not_true, Bool.not_false, Nat.reduceAdd, Nat.reduceSub, Nat.reduceMul, Nat.reduceLT, Nat.reduceLeDiff, Nat.reduceEqDiff, reduceCtorEq, List.reduceReplicate, Int.reduceToNat, Int.reduceLE, Int.reduceLT])))
      all_goals try (((try simp only [decide_eq_true_eq, decide_eq_false_iff_not, beq_iff_eq, bne_iff_ne, ne_eq, beq_eq_false_iff_ne, bne_eq_false_iff_eq] at *) <;> (try omega)); done)
      all_goals (simp only [errTok, tokA, f0, evS, tyS, Bool.not_true, Bool.not_false, Nat.reduceAdd, Nat.reduceSub, Nat.reduceMul, Nat.reduceLT, Nat.reduceLeDiff, Nat.reduceEqDiff, reduceCtorEq, List.reduceReplicate, Int.reduceToNat, Int.reduceLE, Int.reduceLT]; done)
  · have ha' : decO a 9007199254740991 = false := by simpa using hOa
    rw [hR, if_neg (by rw [realO_iff]; rintro ⟨q1, _⟩; exact hOa q1), ha']
    simp only [evS, tyS, Bool.not_true, Bool.not_false, Nat.reduceAdd, Nat.reduceSub, Nat.reduceMul, Nat.reduceLT, Nat.reduceLeDiff, Nat.reduceEqDiff, reduceCtorEq, List.reduceReplicate, Int.reduceToNat, Int.reduceLE, Int.reduceLT]
    (repeat' (first | (with_reducible refine And.intro ?_ ?_) | ((first | refine GuardK.intro_f (fun h => ?_) (fun h => ?_) | refine GuardK.intro_t (fun h => ?_) (fun h => ?_) | refine CondK.intro (fun h => ?_) (fun h => ?_) | refine PickK.intro (fun h => ?_) (fun h => ?_)) <;> simp only [h, evS, tyS, Bool.not_true, Bool.not_false, Nat.reduceAdd, Nat.reduceSub, Nat.reduceMul, Nat.reduceLT, Nat.reduceLeDiff, Nat.reduceEqDiff, reduceCtorEq, List.reduceReplicate, Int.reduceToNat, Int.reduceLE, Int.reduceLT]) | (refine DrawK.intro (by kernel_rfl) (by kernel_rfl) ?_; simp only [evS, tyS, Bool.not_true, Bool.not_false, Nat.reduceAdd, Nat.reduceSub, Nat.reduceMul, Nat.reduceLT, Nat.reduceLeDiff, Nat.reduceEqDiff, reduceCtorEq, List.reduceReplicate, Int.reduceToNat, Int.reduceLE, Int.reduceLT])))
    all_goals try (((try simp only [decide_eq_true_eq, decide_eq_false_iff_not, beq_iff_eq, bne_iff_ne, ne_eq, beq_eq_false_iff_ne, bne_eq_false_iff_eq] at *) <;> (try omega)); done)
    all_goals (simp only [errTok, tokA, f0, evS, tyS, Bool.not_true, Bool.not_false, Nat.reduceAdd, Nat.reduceSub, Nat.reduceMul, Nat.reduceLT, Nat.reduceLeDiff, Nat.reduceEqDiff, reduceCtorEq, List.reduceReplicate, Int.reduceToNat, Int.reduceLE, Int.reduceLT]; done)
end Go.Proofs.YtplnhipgifcafaaDoor
/-
  DERIVED: THE SHELF's CONTRACTS AT THIS DUMP, IN PLAIN WORDS (tools/lay-plain.mjs out of 'TrydShelf.lean', which tools/lay-shelf.mjs wrote): THE SAME DECLARATIONS UNDER THE SAME NAMES: 'import', 'namespace', 'open', 'def', 'theorem' AND NOTHING ELSE: no command of the shelf's: FOR A HAND-IN. Each laying: the table of numbers ('.._ren') and one theorem, a field a fact of the dump's own or the kernel's comparison; each contract: ONE APPLICATION.
-/
namespace Go.Proofs
open Go.Shelf
def Tryd.lays283_ren : Go.Shelf.Ren := ⟨fun | 283 => 92 | n => n, fun | 3 => 3 | 9 => 9 | 4 => 4 | n => n, fun | n => n⟩
theorem Tryd.lays283 : Go.Proofs.Lays.n283 Tryd.prog Tryd.lays283_ren := {
  mixed := by kernel_rfl
  f283 := Tryd.func92.trans (congrArg some (by kernel_rfl))
  t3 := Tryd.underlying3
  a3 := Tryd.isAgg3
  z3 := Tryd.sizeOf3
  v3 := Tryd.zeroValue3
  t4 := Tryd.underlying4
  a4 := Tryd.isAgg4
  z4 := Tryd.sizeOf4
  v4 := Tryd.zeroValue4
  t9 := Tryd.underlying9
  a9 := Tryd.isAgg9
  z9 := Tryd.sizeOf9
  v9 := Tryd.zeroValue9 }
open Go.Lib in
/-- internal/strconv.small: "small returns the string for an i with 0 <= i < nSmalls.": i's decimal numeral. The world is as it was. (LAID: no walk: one application.) -/
theorem Tryd.internal_strconv_small (i : Nat) (h : i < 100) (w : World) :
    Calls Tryd.prog 92 #[.int .i64 i] w fun e w' => e = .returned (.string ⟨(Lib.decDigits i).toArray⟩) ∧ w' = w := Any.internal_strconv_small Tryd.lays283 i h w
def Tryd.laysM284_ren : Go.Shelf.Ren := ⟨fun | 284 => 93 | 129 => 118 | 317 => 117 | 318 => 119 | n => n, fun | 53 => 49 | 3 => 3 | 212 => 139 | 0 => 0 | 4 => 4 | 46 => 51 | 5 => 5 | 9 => 9 | n => n, fun | 17 => 2 | n => n⟩
theorem Tryd.laysM284 : Go.Proofs.LaysM.n284 Tryd.prog Tryd.laysM284_ren := {
  mixed := by kernel_rfl
  f129 := Tryd.func118.trans (congrArg some (by kernel_rfl))
  f284 := Tryd.func93.trans (congrArg some (by kernel_rfl))
  f317 := Tryd.func117.trans (congrArg some (by kernel_rfl))
  f318 := Tryd.func119.trans (congrArg some (by kernel_rfl))
  t0 := Tryd.underlying0
  a0 := Tryd.isAgg0
  z0 := Tryd.sizeOf0
  v0 := Tryd.zeroValue0
  t3 := Tryd.underlying3
  a3 := Tryd.isAgg3
  z3 := Tryd.sizeOf3
  v3 := Tryd.zeroValue3
  t4 := Tryd.underlying4
  a4 := Tryd.isAgg4
  z4 := Tryd.sizeOf4
  v4 := Tryd.zeroValue4
  t5 := Tryd.underlying5
  a5 := Tryd.isAgg5
  z5 := Tryd.sizeOf5
  v5 := Tryd.zeroValue5
  t9 := Tryd.underlying9
  a9 := Tryd.isAgg9
  z9 := Tryd.sizeOf9
  v9 := Tryd.zeroValue9
  t46 := Tryd.underlying51
  a46 := Tryd.isAgg51
  z46 := Tryd.sizeOf51
  v46 := Tryd.zeroValue51
  t53 := Tryd.underlying49
  a53 := Tryd.isAgg49
  z53 := Tryd.sizeOf49
  v53 := Tryd.zeroValue49
  t212 := Tryd.underlying139
  a212 := Tryd.isAgg139
  z212 := Tryd.sizeOf139
  v212 := Tryd.zeroValue139
  g17 := by kernel_rfl
  i0 := by kernel_rfl
  i3 := by kernel_rfl
  i4 := by kernel_rfl
  i5 := by kernel_rfl
  i9 := by kernel_rfl
  i46 := by kernel_rfl
  i53 := by kernel_rfl
  i212 := by kernel_rfl
  m17 := by kernel_rfl }
open Go.Lib in
/-- internal/strconv.numDigits, at a d that is not 0: THE NUMBER OF d's DECIMAL DIGITS. The world is as it was. (LAID: no walk: one application.) -/
theorem Tryd.internal_strconv_numDigits (u : Nat) (h1 : 1 ≤ u) (h2 : u < 18446744073709551616) (w : World) (htab : Lib.TabIs Tryd.prog w "internal/strconv.uint64pow10" .u64 Lib.pow10Tab) :
    Calls Tryd.prog 93 #[.int .u64 u] w fun e w' => e = .returned (.int .i64 (Lib.nDigits u)) ∧ w' = w := Any.internal_strconv_numDigits Tryd.laysM284 u h1 h2 w htab
def Tryd.lays285_ren : Go.Shelf.Ren := ⟨fun | 285 => 94 | n => n, fun | 37 => 22 | 53 => 49 | 3 => 3 | 4 => 4 | 51 => 140 | 9 => 9 | 5 => 5 | 0 => 0 | n => n, fun | n => n⟩
theorem Tryd.lays285 : Go.Proofs.Lays.n285 Tryd.prog Tryd.lays285_ren := {
  mixed := by kernel_rfl
  f285 := Tryd.func94.trans (congrArg some (by kernel_rfl))
  t0 := Tryd.underlying0
  a0 := Tryd.isAgg0
  z0 := Tryd.sizeOf0
  v0 := Tryd.zeroValue0
  t3 := Tryd.underlying3
  a3 := Tryd.isAgg3
  z3 := Tryd.sizeOf3
  v3 := Tryd.zeroValue3
  t4 := Tryd.underlying4
  a4 := Tryd.isAgg4
  z4 := Tryd.sizeOf4
  v4 := Tryd.zeroValue4
  t5 := Tryd.underlying5
  a5 := Tryd.isAgg5
  z5 := Tryd.sizeOf5
  v5 := Tryd.zeroValue5
  t9 := Tryd.underlying9
  a9 := Tryd.isAgg9
  z9 := Tryd.sizeOf9
  v9 := Tryd.zeroValue9
  t37 := Tryd.underlying22
  a37 := Tryd.isAgg22
  z37 := Tryd.sizeOf22
  v37 := Tryd.zeroValue22
  t51 := Tryd.underlying140
  a51 := Tryd.isAgg140
  z51 := Tryd.sizeOf140
  v51 := Tryd.zeroValue140
  t53 := Tryd.underlying49
  a53 := Tryd.isAgg49
  z53 := Tryd.sizeOf49
  v53 := Tryd.zeroValue49 }
open Go.RowKit Go.Sort Go.Lib in
/-- internal/strconv.formatBase10: "formatBase10 formats the decimal representation of u into a. The caller is responsible for ensuring that a is big enough to hold u. If a is too big, leading zeros will be filled in as needed.": THE ROW HOLDS u's DIGITS ('FmtInv .. 0 ..': every place t holds 'dg u (len - 1 - t)'); all else is as it was but for the count of draws. (LAID: no walk: one application.) -/
theorem Tryd.internal_strconv_formatBase10 (blk off cap : Nat) (u : Nat) (d : Array UInt8) (w : World) (hH : Holds (fun (b : UInt8) => Value.int .u8 (b.toNat : Int)) w blk off d) (hu : u < 10 ^ d.size) (hu64 : u < 18446744073709551616) (hsz : d.size < 4611686018427387904) :
    Calls Tryd.prog 94 #[.slice (some ⟨blk, off, none⟩) d.size cap, .int .u64 u] w fun e w' =>
      e = .returned (.tuple #[]) ∧ ∃ (n v' : Nat) (dk : Array UInt8), w' = (putRow (fun (b : UInt8) => Value.int .u8 (b.toNat : Int)) w blk off dk).drewN n ∧ FmtInv d.size u 0 v' dk := Any.internal_strconv_formatBase10 Tryd.lays285 blk off cap u d w hH hu hu64 hsz
def Tryd.laysM246_ren : Go.Shelf.Ren := ⟨fun | 246 => 60 | 283 => 92 | 284 => 93 | 285 => 94 | 286 => 95 | 129 => 118 | 317 => 117 | 318 => 119 | 319 => 120 | 320 => 121 | 337 => 135 | 338 => 136 | n => n, fun | 2 => 2 | 3 => 3 | 9 => 9 | 4 => 4 | 171 => 124 | 0 => 0 | 53 => 49 | 37 => 22 | 5 => 5 | 173 => 127 | 212 => 139 | 51 => 140 | 20 => 20 | 213 => 141 | 46 => 51 | 232 => 158 | 233 => 159 | n => n, fun | 17 => 2 | 18 => 5 | 19 => 6 | n => n⟩
theorem Tryd.laysM246 : Go.Proofs.LaysM.n246 Tryd.prog Tryd.laysM246_ren := {
  mixed := by kernel_rfl
  f129 := Tryd.func118.trans (congrArg some (by kernel_rfl))
  f246 := Tryd.func60.trans (congrArg some (by kernel_rfl))
  f283 := Tryd.func92.trans (congrArg some (by kernel_rfl))
  f284 := Tryd.func93.trans (congrArg some (by kernel_rfl))
  f285 := Tryd.func94.trans (congrArg some (by kernel_rfl))
  f286 := Tryd.func95.trans (congrArg some (by kernel_rfl))
  f317 := Tryd.func117.trans (congrArg some (by kernel_rfl))
  f318 := Tryd.func119.trans (congrArg some (by kernel_rfl))
  f319 := Tryd.func120.trans (congrArg some (by kernel_rfl))
  f320 := Tryd.func121.trans (congrArg some (by kernel_rfl))
  f337 := Tryd.func135.trans (congrArg some (by kernel_rfl))
  f338 := Tryd.func136.trans (congrArg some (by kernel_rfl))
  t0 := Tryd.underlying0
  a0 := Tryd.isAgg0
  z0 := Tryd.sizeOf0
  v0 := Tryd.zeroValue0
  t2 := Tryd.underlying2
  a2 := Tryd.isAgg2
  z2 := Tryd.sizeOf2
  v2 := Tryd.zeroValue2
  t3 := Tryd.underlying3
  a3 := Tryd.isAgg3
  z3 := Tryd.sizeOf3
  v3 := Tryd.zeroValue3
  t4 := Tryd.underlying4
  a4 := Tryd.isAgg4
  z4 := Tryd.sizeOf4
  v4 := Tryd.zeroValue4
  t5 := Tryd.underlying5
  a5 := Tryd.isAgg5
  z5 := Tryd.sizeOf5
  v5 := Tryd.zeroValue5
  t9 := Tryd.underlying9
  a9 := Tryd.isAgg9
  z9 := Tryd.sizeOf9
  v9 := Tryd.zeroValue9
  t20 := Tryd.underlying20
  a20 := Tryd.isAgg20
  z20 := Tryd.sizeOf20
  v20 := Tryd.zeroValue20
  t37 := Tryd.underlying22
  a37 := Tryd.isAgg22
  z37 := Tryd.sizeOf22
  v37 := Tryd.zeroValue22
  t46 := Tryd.underlying51
  a46 := Tryd.isAgg51
  z46 := Tryd.sizeOf51
  v46 := Tryd.zeroValue51
  t51 := Tryd.underlying140
  a51 := Tryd.isAgg140
  z51 := Tryd.sizeOf140
  v51 := Tryd.zeroValue140
  t53 := Tryd.underlying49
  a53 := Tryd.isAgg49
  z53 := Tryd.sizeOf49
  v53 := Tryd.zeroValue49
  t171 := Tryd.underlying124
  a171 := Tryd.isAgg124
  z171 := Tryd.sizeOf124
  v171 := Tryd.zeroValue124
  t173 := Tryd.underlying127
  a173 := Tryd.isAgg127
  z173 := Tryd.sizeOf127
  v173 := Tryd.zeroValue127
  t212 := Tryd.underlying139
  a212 := Tryd.isAgg139
  z212 := Tryd.sizeOf139
  v212 := Tryd.zeroValue139
  t213 := Tryd.underlying141
  a213 := Tryd.isAgg141
  z213 := Tryd.sizeOf141
  t232 := Tryd.underlying158
  a232 := Tryd.isAgg158
  z232 := Tryd.sizeOf158
  v232 := Tryd.zeroValue158
  t233 := Tryd.underlying159
  a233 := Tryd.isAgg159
  z233 := Tryd.sizeOf159
  v233 := Tryd.zeroValue159
  g17 := by kernel_rfl
  g18 := by kernel_rfl
  g19 := by kernel_rfl
  i0 := by kernel_rfl
  i2 := by kernel_rfl
  i3 := by kernel_rfl
  i4 := by kernel_rfl
  i5 := by kernel_rfl
  i9 := by kernel_rfl
  i20 := by kernel_rfl
  i37 := by kernel_rfl
  i46 := by kernel_rfl
  i51 := by kernel_rfl
  i53 := by kernel_rfl
  i171 := by kernel_rfl
  i173 := by kernel_rfl
  i212 := by kernel_rfl
  i232 := by kernel_rfl
  i233 := by kernel_rfl
  m17 := by kernel_rfl
  m18 := by kernel_rfl
  m19 := by kernel_rfl }
open Go.RowKit Go.Sort Go.Lib in
/-- internal/strconv.FormatInt: "FormatInt returns the string representation of i in the given base": AT BASE 10: i's decimal numeral, for every int64. The world behind the call: the world before it, new blocks behind the heap, draws. (LAID: no walk: one application.) -/
theorem Tryd.internal_strconv_FormatInt_10 (n : Int) (h0 : -9223372036854775808 ≤ n) (h1 : n ≤ 9223372036854775807) (w : World) (htab : Lib.TabIs Tryd.prog w "internal/strconv.uint64pow10" .u64 Lib.pow10Tab) :
    Calls Tryd.prog 60 #[.int .i64 n, .int .i64 10] w fun e w' => e = .returned (.string ⟨(Lib.itoa n).toArray⟩) ∧ ∃ k os, w' = grow (w.drewN k) os := Any.internal_strconv_FormatInt_10 Tryd.laysM246 n h0 h1 w htab
def Tryd.laysM171_ren : Go.Shelf.Ren := ⟨fun | 171 => 62 | 243 => 97 | 246 => 60 | 283 => 92 | 284 => 93 | 285 => 94 | 286 => 95 | 129 => 118 | 317 => 117 | 318 => 119 | 319 => 120 | 320 => 121 | 337 => 135 | 338 => 136 | n => n, fun | 3 => 3 | 9 => 9 | 2 => 2 | 4 => 4 | 171 => 124 | 0 => 0 | 53 => 49 | 37 => 22 | 5 => 5 | 173 => 127 | 212 => 139 | 51 => 140 | 20 => 20 | 213 => 141 | 46 => 51 | 232 => 158 | 233 => 159 | n => n, fun | 17 => 2 | 18 => 5 | 19 => 6 | n => n⟩
theorem Tryd.laysM171 : Go.Proofs.LaysM.n171 Tryd.prog Tryd.laysM171_ren := {
  mixed := by kernel_rfl
  f129 := Tryd.func118.trans (congrArg some (by kernel_rfl))
  f171 := Tryd.func62.trans (congrArg some (by kernel_rfl))
  f243 := Tryd.func97.trans (congrArg some (by kernel_rfl))
  f246 := Tryd.func60.trans (congrArg some (by kernel_rfl))
  f283 := Tryd.func92.trans (congrArg some (by kernel_rfl))
  f284 := Tryd.func93.trans (congrArg some (by kernel_rfl))
  f285 := Tryd.func94.trans (congrArg some (by kernel_rfl))
  f286 := Tryd.func95.trans (congrArg some (by kernel_rfl))
  f317 := Tryd.func117.trans (congrArg some (by kernel_rfl))
  f318 := Tryd.func119.trans (congrArg some (by kernel_rfl))
  f319 := Tryd.func120.trans (congrArg some (by kernel_rfl))
  f320 := Tryd.func121.trans (congrArg some (by kernel_rfl))
  f337 := Tryd.func135.trans (congrArg some (by kernel_rfl))
  f338 := Tryd.func136.trans (congrArg some (by kernel_rfl))
  t0 := Tryd.underlying0
  a0 := Tryd.isAgg0
  z0 := Tryd.sizeOf0
  v0 := Tryd.zeroValue0
  t2 := Tryd.underlying2
  a2 := Tryd.isAgg2
  z2 := Tryd.sizeOf2
  v2 := Tryd.zeroValue2
  t3 := Tryd.underlying3
  a3 := Tryd.isAgg3
  z3 := Tryd.sizeOf3
  v3 := Tryd.zeroValue3
  t4 := Tryd.underlying4
  a4 := Tryd.isAgg4
  z4 := Tryd.sizeOf4
  v4 := Tryd.zeroValue4
  t5 := Tryd.underlying5
  a5 := Tryd.isAgg5
  z5 := Tryd.sizeOf5
  v5 := Tryd.zeroValue5
  t9 := Tryd.underlying9
  a9 := Tryd.isAgg9
  z9 := Tryd.sizeOf9
  v9 := Tryd.zeroValue9
  t20 := Tryd.underlying20
  a20 := Tryd.isAgg20
  z20 := Tryd.sizeOf20
  v20 := Tryd.zeroValue20
  t37 := Tryd.underlying22
  a37 := Tryd.isAgg22
  z37 := Tryd.sizeOf22
  v37 := Tryd.zeroValue22
  t46 := Tryd.underlying51
  a46 := Tryd.isAgg51
  z46 := Tryd.sizeOf51
  v46 := Tryd.zeroValue51
  t51 := Tryd.underlying140
  a51 := Tryd.isAgg140
  z51 := Tryd.sizeOf140
  v51 := Tryd.zeroValue140
  t53 := Tryd.underlying49
  a53 := Tryd.isAgg49
  z53 := Tryd.sizeOf49
  v53 := Tryd.zeroValue49
  t171 := Tryd.underlying124
  a171 := Tryd.isAgg124
  z171 := Tryd.sizeOf124
  v171 := Tryd.zeroValue124
  t173 := Tryd.underlying127
  a173 := Tryd.isAgg127
  z173 := Tryd.sizeOf127
  v173 := Tryd.zeroValue127
  t212 := Tryd.underlying139
  a212 := Tryd.isAgg139
  z212 := Tryd.sizeOf139
  v212 := Tryd.zeroValue139
  t213 := Tryd.underlying141
  a213 := Tryd.isAgg141
  z213 := Tryd.sizeOf141
  t232 := Tryd.underlying158
  a232 := Tryd.isAgg158
  z232 := Tryd.sizeOf158
  v232 := Tryd.zeroValue158
  t233 := Tryd.underlying159
  a233 := Tryd.isAgg159
  z233 := Tryd.sizeOf159
  v233 := Tryd.zeroValue159
  g17 := by kernel_rfl
  g18 := by kernel_rfl
  g19 := by kernel_rfl
  i0 := by kernel_rfl
  i2 := by kernel_rfl
  i3 := by kernel_rfl
  i4 := by kernel_rfl
  i5 := by kernel_rfl
  i9 := by kernel_rfl
  i20 := by kernel_rfl
  i37 := by kernel_rfl
  i46 := by kernel_rfl
  i51 := by kernel_rfl
  i53 := by kernel_rfl
  i171 := by kernel_rfl
  i173 := by kernel_rfl
  i212 := by kernel_rfl
  i232 := by kernel_rfl
  i233 := by kernel_rfl
  m17 := by kernel_rfl
  m18 := by kernel_rfl
  m19 := by kernel_rfl }
open Go.RowKit Go.Sort Go.Lib in
/-- strconv.Itoa: "Itoa is equivalent to FormatInt(int64(i), 10).": i's DECIMAL NUMERAL ('Lib.itoa': a '-' where i is negative, then the digits), FOR EVERY int. The world behind the call: the world before it, new blocks behind the heap (the library's 'var a [24]byte'), draws. (LAID: no walk: one application.) -/
theorem Tryd.strconv_Itoa (n : Int) (h0 : -9223372036854775808 ≤ n) (h1 : n ≤ 9223372036854775807) (w : World) (htab : Lib.TabIs Tryd.prog w "internal/strconv.uint64pow10" .u64 Lib.pow10Tab) :
    Calls Tryd.prog 62 #[.int .i64 n] w fun e w' => e = .returned (.string ⟨(Lib.itoa n).toArray⟩) ∧ ∃ k os, w' = grow (w.drewN k) os := Any.strconv_Itoa Tryd.laysM171 n h0 h1 w htab
end Go.Proofs
