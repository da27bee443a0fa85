/- Contracts of the functions that the law reaches. -/
import Derived.Test.YtlobiioioicmhaaGreatDoorQ5
/- Numbers in decimal: what is written is read back. -/
namespace Go.Proofs.YtlobiioioicmhaaGreatDoor
set_option linter.all false
open Go Go.Ev
/-- Digits and nothing else. -/
def allD (l : List UInt8) : Prop := ∀ c ∈ l, 48 ≤ c.toNat ∧ c.toNat ≤ 57
def valD : List UInt8 → Nat → Nat
  | [], n => n
  | c :: l, n => valD l (n * 10 + (c.toNat - 48))
theorem valD_ge : ∀ (l : List UInt8) (n : Nat), n ≤ valD l n
  | [], n => Nat.le_refl _
  | c :: l, n => Nat.le_trans (by omega) (valD_ge l _)
theorem valD_snoc : ∀ (l : List UInt8) (c : UInt8) (n : Nat), valD (l ++ [c]) n = valD l n * 10 + (c.toNat - 48)
  | [], c, n => rfl
  | d :: l, c, n => valD_snoc l c _
theorem allD_cons {c : UInt8} {l : List UInt8} (h : allD (c :: l)) : (48 ≤ c.toNat ∧ c.toNat ≤ 57) ∧ allD l := ⟨h c (by simp), fun d hd => h d (by simp [hd])⟩
theorem scanU_val {M : Nat} (hM : M ≤ 18446744073709551615) : ∀ (l : List UInt8) (n : Nat), allD l → valD l n ≤ M → scanU M l n = (0, valD l n)
  | [], n, _, _ => rfl
  | c :: l, n, h, hv => by
    obtain ⟨h1, h2⟩ := allD_cons h
    have hg := valD_ge l (n * 10 + (c.toNat - 48))
    simp only [valD] at hv ⊢
    rw [scanU_cons, if_neg (by omega), if_neg (by omega)]
    exact scanU_val hM l _ h2 hv
theorem scanU_all {M : Nat} : ∀ (l : List UInt8) (n : Nat), (scanU M l n).1 = 0 → allD l
  | [], n, _ => fun c h => by simp at h
  | c :: l, n, h => by
    rw [scanU_cons] at h
    split at h
    · simp at h
    · rename_i h1
      split at h
      · simp at h
      · have := scanU_all l _ h
        intro d hd
        rcases List.mem_cons.1 hd with rfl | hd
        · omega
        · exact this d hd
theorem scanD_val : ∀ (l : List UInt8) (n : Nat), allD l → scanD l n = (0, (valD l n : Int))
  | [], n, _ => rfl
  | c :: l, n, h => by
    obtain ⟨h1, h2⟩ := allD_cons h
    rw [scanD_cons, if_neg (by omega)]
    exact scanD_val l _ h2
theorem ofNat_dig {n : Nat} (h : n < 10) : (UInt8.ofNat (48 + n)).toNat = 48 + n := by
  rw [UInt8.toNat_ofNat_of_lt' (show 48 + n < 256 by omega)]
theorem dec_spec : ∀ (n : Nat), allD (Lib.decDigits n) ∧ valD (Lib.decDigits n) 0 = n ∧ Lib.decDigits n ≠ [] := by
  intro n
  induction n using Nat.strongRecOn with
  | ind n ih =>
    rw [Lib.decDigits]
    split
    · rename_i h
      have e := ofNat_dig (n := n) h
      refine ⟨fun c hc => ?_, ?_, by simp⟩
      · rw [List.mem_singleton.1 hc, e]; omega
      · simp only [valD, e]; omega
    · rename_i h
      obtain ⟨h1, h2, h3⟩ := ih (n / 10) (by omega)
      have e := ofNat_dig (n := n % 10) (by omega)
      refine ⟨fun c hc => ?_, ?_, by simp⟩
      · rcases List.mem_append.1 hc with hc | hc
        · exact h1 c hc
        · rw [List.mem_singleton.1 hc, e]; omega
      · rw [valD_snoc, h2, e]; omega
theorem dec_all (n : Nat) : allD (Lib.decDigits n) := (dec_spec n).1
theorem dec_val (n : Nat) : valD (Lib.decDigits n) 0 = n := (dec_spec n).2.1
theorem dec_ne (n : Nat) : Lib.decDigits n ≠ [] := (dec_spec n).2.2
theorem scanW_dec {M n : Nat} (hM : M ≤ 18446744073709551615) (h : n ≤ M) : scanW M (Lib.decDigits n) = (0, n) := by
  unfold scanW
  rw [if_neg (dec_ne n), scanU_val hM _ _ (dec_all n) (by rw [dec_val]; exact h), dec_val]
/-- The first byte of a number's digits. -/
theorem dec_first (n : Nat) : 48 ≤ atL (Lib.decDigits n) 0 ∧ atL (Lib.decDigits n) 0 ≤ 57 := by
  have h := dec_all n
  cases hd : Lib.decDigits n with
  | nil => exact absurd hd (dec_ne n)
  | cons c l =>
    rw [hd] at h
    exact h c (by simp)
theorem scanI_itoa (n : Int) (h0 : -9223372036854775808 ≤ n) (h1 : n ≤ 9223372036854775807) : scanI (Lib.itoa n) = (0, n) := by
  unfold Lib.itoa
  split
  · rename_i h
    have e : signed (45 :: Lib.decDigits n.natAbs) = (true, Lib.decDigits n.natAbs) := rfl
    unfold scanI
    rw [if_neg (by simp), e, scanW_dec (by omega) (by omega)]
    simp only [intOf]
    rw [if_neg (by simp), if_neg (by simp), if_neg (by omega)]
    simp only [if_true]
    congr 1
    omega
  · rename_i h
    have hf := dec_first n.toNat
    have e : signed (Lib.decDigits n.toNat) = (false, Lib.decDigits n.toNat) := by unfold signed; rw [if_neg (by omega), if_neg (by omega)]
    unfold scanI
    rw [if_neg (dec_ne _), e, scanW_dec (by omega) (by omega)]
    simp only [intOf]
    rw [if_neg (by simp), if_neg (by omega), if_neg (by simp)]
    simp only [Bool.false_eq_true, if_false]
    congr 1
    omega
theorem scanA_itoa (n : Int) (h0 : -1100 ≤ n) (h1 : n ≤ 1100) : scanA (Lib.itoa n) = (0, n) := by
  unfold scanA
  split
  · unfold Lib.itoa
    split
    · rename_i h
      have e : signedA (45 :: Lib.decDigits n.natAbs) = (true, Lib.decDigits n.natAbs) := rfl
      unfold fastA
      rw [e]
      simp only
      rw [if_neg (dec_ne _), scanD_val _ _ (dec_all _), dec_val]
      simp only [negR, and_self, if_true]
      congr 1
      omega
    · rename_i h
      have hf := dec_first n.toNat
      have e : signedA (Lib.decDigits n.toNat) = (false, Lib.decDigits n.toNat) := by unfold signedA; rw [if_neg (by omega), if_neg (by omega)]
      unfold fastA
      rw [e]
      simp only
      rw [if_neg (dec_ne _), scanD_val _ _ (dec_all _), dec_val]
      simp only [negR, Bool.false_eq_true, false_and, if_false]
      congr 1
      omega
  · exact scanI_itoa n (by omega) (by omega)
/-- What has a byte that is no digit, past its sign, is no number. -/
theorem scanI_not {l : List UInt8} (h : ∃ c ∈ (signed l).2, ¬ (48 ≤ c.toNat ∧ c.toNat ≤ 57)) : (scanI l).1 ≠ 0 := by
  obtain ⟨c, hc, hn⟩ := h
  unfold scanI
  split
  · simp
  · intro he
    unfold intOf at he
    split at he
    · simp at he
    · rename_i h2
      split at he
      · simp at he
      · split at he
        · simp at he
        · rename_i h3 h4
          have h5 : (scanW 18446744073709551615 (signed l).2).1 ≠ 0 := by
            unfold scanW
            split
            · simp
            · intro h6; exact hn (scanU_all _ _ h6 c hc)
          have hle := (scanW_le 18446744073709551615 (signed l).2).2
          have h1 : (scanW 18446744073709551615 (signed l).2).1 = 1 := by omega
          have h7 : ∀ (M : Nat) (l : List UInt8) (n : Nat), (scanU M l n).1 = 1 → (scanU M l n).2 = M := by
            intro M l
            induction l with
            | nil => intro n h; simp [scanU] at h
            | cons c l ih =>
              intro n h
              rw [scanU_cons] at h ⊢
              split at h
              · simp at h
              · rename_i g1
                rw [if_neg g1]
                split at h
                · rename_i g2; rw [if_pos g2]
                · rename_i g2; rw [if_neg g2]; exact ih _ h
          have h8 : (scanW 18446744073709551615 (signed l).2).2 = 18446744073709551615 := by
            unfold scanW at h1 ⊢
            split
            · rename_i g; rw [if_pos g] at h1; simp at h1
            · rename_i g; rw [if_neg g] at h1; exact h7 _ _ _ h1
          rw [h8] at h3 h4
          cases hsg : (signed l).1 with
          | true => exact h4 ⟨hsg, by omega⟩
          | false => exact h3 ⟨hsg, by omega⟩
end Go.Proofs.YtlobiioioicmhaaGreatDoor
/- Doubles: their fields; those that are whole; made whole. -/
namespace Go.Proofs.YtlobiioioicmhaaGreatDoor
set_option linter.all false
open Go Go.Ev
def sgB (x : Nat) : Bool := decide (x / 9223372036854775808 = 1)
theorem rd_bits (x : Nat) (hx : x < 18446744073709551616) : Ieee.double.read x = if eB x = 2047 then (if mB x = 0 then .infinity (sgB x) else .nan (sgB x) (mB x)) else .number (sgB x) (mM x) (mE x) := by
  have e1 : Ieee.double.signWeight = 9223372036854775808 := by rfl
  have e2 : Ieee.double.binade = 4503599627370496 := by rfl
  have e3 : Ieee.double.infRung = 9218868437227405312 := by rfl
  have e4 : Ieee.double.leastPlace = -1074 := by rfl
  have hs : (x / 9223372036854775808 % 2 == 1) = sgB x := by
    unfold sgB
    rw [Nat.mod_eq_of_lt (by omega)]
    cases h : decide (x / 9223372036854775808 = 1) with
    | true => simpa using h
    | false => simpa using h
  unfold Ieee.Format.read
  simp only [e1, e2, e3, e4, hs]
  have hB : eB x = x % 9223372036854775808 / 4503599627370496 := by unfold eB; omega
  have hM : mB x = x % 9223372036854775808 % 4503599627370496 := by unfold mB; omega
  have hr : x % 9223372036854775808 < 9223372036854775808 := Nat.mod_lt _ (by decide)
  generalize x % 9223372036854775808 = r at *
  by_cases h1 : r < 4503599627370496
  · rw [if_pos h1, if_neg (by omega)]
    unfold mM mE
    rw [if_neg (by omega), if_neg (by omega)]
    congr 1
    omega
  · rw [if_neg h1]
    by_cases h2 : r < 9218868437227405312
    · rw [if_pos h2, if_neg (by omega)]
      unfold mM mE
      rw [if_pos (by omega), if_pos (by omega)]
      congr 1 <;> omega
    · have hE : eB x = 2047 := by omega
      by_cases h3 : r = 9218868437227405312
      · rw [if_neg h2, if_pos h3, if_pos hE, if_pos (by omega)]
      · rw [if_neg h2, if_neg h3, if_pos hE, if_neg (by omega)]
        exact congrArg (Ieee.Datum.nan (sgB x)) (by omega)
theorem nanB_eq (x : Nat) (hx : x < 18446744073709551616) : nanB x = decide (eB x = 2047 ∧ mB x ≠ 0) := by
  unfold nanB
  show (Ieee.double.order x x != some .eq) = _
  unfold Ieee.Format.order
  rw [rd_bits x hx]
  by_cases h1 : eB x = 2047
  · rw [if_pos h1]
    by_cases h2 : mB x = 0
    · rw [if_pos h2, decide_eq_false (by omega)]
      simp only [Ieee.Datum.order]
      cases sgB x <;> rfl
    · rw [if_neg h2, decide_eq_true ⟨h1, h2⟩]
      rfl
  · rw [if_neg h1, decide_eq_false (by omega)]
    simp only [Ieee.Datum.order]
    simp
theorem dblN_shift {m k : Nat} {e : Int} (h0 : 0 < m) (h : m * 2 ^ k < 9007199254740992) (he : -1074 ≤ e) : dblN (m * 2 ^ k) e = dblN m (e + k) := by
  have hp : 0 < m * 2 ^ k := Nat.mul_pos h0 (Nat.pos_of_ne_zero (by simp))
  have hl := lastP_le hp h he
  have e1 : lastP (m * 2 ^ k) e = lastP m (e + k) := by unfold lastP; rw [log2_mul_pow h0]; omega
  have e2 : (e + k - lastP m (e + k)).toNat = k + (e - lastP m (e + k)).toNat := by rw [e1] at hl; omega
  unfold dblN
  rw [e1, e2, Nat.pow_add, Nat.mul_assoc]
theorem p52 : (2 : Nat) ^ 52 = 4503599627370496 := by decide
theorem p53 : (2 : Nat) ^ 53 = 9007199254740992 := by decide
theorem p64 : (2 : Nat) ^ 64 = 18446744073709551616 := by decide
theorem log52 {M : Nat} (h0 : 4503599627370496 ≤ M) (h : M < 9007199254740992) : M.log2 = 52 := by
  have a : M.log2 < 53 := (Nat.log2_lt (by omega)).2 (by rw [p53]; exact h)
  have b : ¬ M.log2 < 52 := fun hc => by
    have := (Nat.log2_lt (by omega)).1 hc
    rw [p52] at this
    omega
  omega
/-- A double is its own number. -/
theorem norm_eq (E b x : Nat) (h : 0 < E) (hx : x = E * 4503599627370496 + b) : (E - 1) * 4503599627370496 + (b + 4503599627370496) = x := by
  obtain ⟨k, rfl⟩ : ∃ k, E = k + 1 := ⟨E - 1, by omega⟩
  rw [hx, Nat.add_sub_cancel, Nat.succ_mul]
  generalize k * 4503599627370496 = z
  omega
theorem bits_dbl1 {x : Nat} (hx : x < 9223372036854775808) (h0 : x ≠ 0) (hf : eB x ≠ 2047) (h1 : 0 < eB x) : dblN (mM x) (mE x) = x ∧ 0 < mM x ∧ mM x < 9007199254740992 ∧ -1074 ≤ mE x ∧ mE x + (mM x).log2 ≤ 1023 := by
  have hB : eB x = x / 4503599627370496 := by unfold eB; omega
  have hb : eB x < 2048 := Nat.mod_lt _ (by decide)
  have hm : mB x < 4503599627370496 := Nat.mod_lt _ (by decide)
  have hx2 : x = eB x * 4503599627370496 + mB x := by rw [hB]; unfold mB; omega
  have hi : x < 9218868437227405312 := by omega
  have e1 : mM x = mB x + 4503599627370496 := by unfold mM; rw [if_pos h1]
  have e2 : mE x = (eB x : Int) - 1075 := by unfold mE; rw [if_pos h1]
  have hl : (mM x).log2 = 52 := log52 (by omega) (by omega)
  have hlast : lastP (mM x) (mE x) = mE x := by unfold lastP; rw [hl]; omega
  refine ⟨?_, by omega, by omega, by omega, by rw [hl]; omega⟩
  unfold dblN
  rw [hlast]
  have e3 : (mE x - mE x).toNat = 0 := by omega
  have e4 : (mE x + 1074).toNat = eB x - 1 := by omega
  rw [e3, e4, Nat.pow_zero, Nat.mul_one, e1]
  have e5 := norm_eq (eB x) (mB x) x h1 hx2
  rw [e5]
  exact Nat.min_eq_left (Nat.le_of_lt hi)
theorem bits_dbl0 {x : Nat} (hx : x < 9223372036854775808) (h0 : x ≠ 0) (hf : eB x ≠ 2047) (h1 : ¬ 0 < eB x) : dblN (mM x) (mE x) = x ∧ 0 < mM x ∧ mM x < 9007199254740992 ∧ -1074 ≤ mE x ∧ mE x + (mM x).log2 ≤ 1023 := by
  have hB : eB x = x / 4503599627370496 := by unfold eB; omega
  have hb : eB x < 2048 := Nat.mod_lt _ (by decide)
  have hm : mB x < 4503599627370496 := Nat.mod_lt _ (by decide)
  have hx2 : x = eB x * 4503599627370496 + mB x := by rw [hB]; unfold mB; omega
  have hi : x < 9218868437227405312 := by omega
  have e1 : mM x = mB x := by unfold mM; rw [if_neg h1]
  have e2 : mE x = -1074 := by unfold mE; rw [if_neg h1]
  have hp : 0 < mM x := by omega
  have hl := log2_lt53 hp (by omega)
  have hlast : lastP (mM x) (mE x) = -1074 := by unfold lastP; omega
  refine ⟨?_, hp, by omega, by omega, by omega⟩
  unfold dblN
  rw [hlast, e2]
  have e3 : ((-1074 : Int) - -1074).toNat = 0 := by decide
  have e4 : ((-1074 : Int) + 1074).toNat = 0 := by decide
  rw [e3, e4, Nat.pow_zero, Nat.mul_one]
  omega
theorem bits_dbl {x : Nat} (hx : x < 9223372036854775808) (h0 : x ≠ 0) (hf : eB x ≠ 2047) : dblN (mM x) (mE x) = x ∧ 0 < mM x ∧ mM x < 9007199254740992 ∧ -1074 ≤ mE x ∧ mE x + (mM x).log2 ≤ 1023 := by
  by_cases h1 : 0 < eB x
  · exact bits_dbl1 hx h0 hf h1
  · exact bits_dbl0 hx h0 hf h1
theorem odd_split : ∀ (T M : Nat), (∀ t, t < T → (M / 2 ^ t) % 2 = 0) → M / 2 ^ T * 2 ^ T = M
  | 0, M, _ => by simp
  | T + 1, M, h => by
    have ih := odd_split T M fun t ht => h t (by omega)
    have h1 := h T (by omega)
    have e : M / 2 ^ (T + 1) = M / 2 ^ T / 2 := by rw [Nat.pow_succ, Nat.div_div_eq_div_mul]
    rw [e, Nat.pow_succ, Nat.mul_comm (2 ^ T) 2, ← Nat.mul_assoc]
    have : M / 2 ^ T / 2 * 2 = M / 2 ^ T := by omega
    rw [this]
    exact ih
/-- .. with an odd one. -/
theorem bits_odd {x : Nat} (hx : x < 9223372036854775808) (h0 : x ≠ 0) (hf : eB x ≠ 2047) :
    ∃ m : Nat, m = mM x / 2 ^ mT x ∧ 0 < m ∧ m < 9007199254740992 ∧ m % 2 = 1 ∧ -1074 ≤ mE x + mT x ∧ mE x + mT x + m.log2 ≤ 1023 ∧ dblN m (mE x + mT x) = x := by
  obtain ⟨h1, h2, h3, h4, h5⟩ := bits_dbl hx h0 hf
  obtain ⟨t1, t2, t3⟩ := oddT_spec 64 (mM x) h2 (by rw [p64]; omega)
  have hT : oddT 64 (mM x) = mT x := rfl
  rw [hT] at t1 t2 t3
  have hs := odd_split (mT x) (mM x) t2
  have hp : 0 < mM x / 2 ^ mT x := by
    rcases Nat.eq_zero_or_pos (mM x / 2 ^ mT x) with h | h
    · rw [h] at t1; simp at t1
    · exact h
  have hlog := log2_mul_pow hp (mT x)
  rw [hs] at hlog
  refine ⟨_, rfl, hp, Nat.lt_of_le_of_lt (Nat.div_le_self _ _) h3, t1, by omega, by omega, ?_⟩
  rw [← dblN_shift hp (by rw [hs]; exact h3) h4, hs]
  exact h1
theorem cut_down (n d : Nat) : Ieee.Toward.down.cut false n d = n / 2 ^ d := by
  unfold Ieee.Toward.cut
  simp only [Bool.false_and, Bool.toNat_false, Nat.add_zero, Nat.one_shiftLeft]
  by_cases h : d ≤ n.log2 + 2
  · rw [Nat.min_eq_left h]
  · rw [Nat.min_eq_right (by omega)]
    have h1 : n < 2 ^ (n.log2 + 2) := Nat.lt_of_lt_of_le (Nat.lt_log2_self) (Nat.pow_le_pow_right (by omega) (by omega))
    have h2 : n < 2 ^ d := Nat.lt_of_lt_of_le h1 (Nat.pow_le_pow_right (by omega) (by omega))
    rw [Nat.div_eq_of_lt h1, Nat.div_eq_of_lt h2]
theorem cut_zeroW (s : Bool) (n d : Nat) : Ieee.Toward.zero.cut s n d = n / 2 ^ d := by
  unfold Ieee.Toward.cut
  simp only [Bool.false_and, Bool.toNat_false, Nat.add_zero, Nat.one_shiftLeft]
  by_cases h : d ≤ n.log2 + 2
  · rw [Nat.min_eq_left h]
  · rw [Nat.min_eq_right (by omega)]
    have h1 : n < 2 ^ (n.log2 + 2) := Nat.lt_of_lt_of_le (Nat.lt_log2_self) (Nat.pow_le_pow_right (by omega) (by omega))
    have h2 : n < 2 ^ d := Nat.lt_of_lt_of_le h1 (Nat.pow_le_pow_right (by omega) (by omega))
    rw [Nat.div_eq_of_lt h1, Nat.div_eq_of_lt h2]
/-- A double made whole, downwards. -/
def floorB (x : Nat) : Nat := FloatKind.f64.encode ((FloatKind.f64.decode x).integral .down)
section
variable {m : Nat} {e : Int}
/-- A whole number's double is whole. -/
theorem floor_whole (h0 : 0 < m) (h : m < 9007199254740992) (he : 0 ≤ e) (hf : e + m.log2 ≤ 1023) : floorB (dblN m e) = dblN m e := by
  have hle := lastP_le h0 h (e := e) (by omega)
  have hge : -1074 ≤ lastP m e := by unfold lastP; omega
  show Ieee.double.write ((Ieee.double.read (dblN m e)).integral .down) = _
  rw [read_dbl h0 h (by omega) hf]
  simp only [Ieee.Datum.integral, Ieee.Format.write, cut_down, Nat.shiftLeft_eq]
  have key : m * 2 ^ (e - lastP m e).toNat * 2 ^ (lastP m e).toNat / 2 ^ (-lastP m e).toNat = m * 2 ^ e.toNat := by
    rw [Nat.mul_assoc, ← Nat.pow_add]
    have : (e - lastP m e).toNat + (lastP m e).toNat = e.toNat + (-lastP m e).toNat := by omega
    rw [this, Nat.pow_add, ← Nat.mul_assoc, Nat.mul_div_left _ (Nat.pos_of_ne_zero (by simp))]
  rw [key]
  have := nearest_exact m e e.toNat h0 h (by omega)
  rw [show e - (e.toNat : Int) = 0 by omega] at this
  exact this
theorem signed_f (n k : Nat) : Ieee.signed false n k = ((n * 2 ^ k : Nat) : Int) := by
  unfold Ieee.signed; rw [if_neg (by simp), Nat.shiftLeft_eq]
/-- An odd number below 1 in the place is not whole. -/
theorem floor_odd (h0 : 0 < m) (h : m < 9007199254740992) (ho : m % 2 = 1) (he : -1074 ≤ e) (he2 : e < 0) : FloatKind.f64.format.order (dblN m e) (floorB (dblN m e)) ≠ some .eq := by
  have hlog := log2_lt53 h0 h
  have hf : e + m.log2 ≤ 1023 := by omega
  have hle := lastP_le h0 h he
  have hge : -1074 ≤ lastP m e := by unfold lastP; omega
  have hfl : ∃ q, floorB (dblN m e) = realB q 0 ∧ q < 9007199254740992 := by
    refine ⟨m * 2 ^ (e - lastP m e).toNat / 2 ^ (-lastP m e).toNat, ?_, ?_⟩
    · show Ieee.double.write ((Ieee.double.read (dblN m e)).integral .down) = _
      rw [read_dbl h0 h he hf]
      simp only [Ieee.Datum.integral, Ieee.Format.write, cut_down, Nat.shiftLeft_eq]
      have e0 : (lastP m e).toNat = 0 := by omega
      rw [e0, Nat.pow_zero, Nat.mul_one]
      have hq : m * 2 ^ (e - lastP m e).toNat / 2 ^ (-lastP m e).toNat < 9007199254740992 := Nat.lt_of_le_of_lt (Nat.div_le_self _ _) (pow_le52 h0 h he).1
      generalize m * 2 ^ (e - lastP m e).toNat / 2 ^ (-lastP m e).toNat = q at hq ⊢
      unfold realB
      by_cases hz : q = 0
      · rw [if_pos hz, hz]; rfl
      · rw [if_neg hz]
        have := nearest_exact q 0 0 (by omega) hq (by omega)
        simpa using this
    · exact Nat.lt_of_le_of_lt (Nat.div_le_self _ _) (pow_le52 h0 h he).1
  obtain ⟨q, hq, hq2⟩ := hfl
  rw [hq]
  show Ieee.double.order _ _ ≠ _
  unfold Ieee.Format.order
  rw [read_dbl h0 h he hf]
  by_cases hz : q = 0
  · subst hz
    have : Ieee.double.read (realB 0 0) = .number false 0 (-1074) := by rfl
    rw [this]
    simp only [Ieee.Datum.order, signed_f]
    intro hc
    have h3 := Option.some.inj hc
    rw [Int.compare_eq_eq] at h3
    have hpos : 0 < m * 2 ^ (e - lastP m e).toNat * 2 ^ (lastP m e - min (lastP m e) (-1074)).toNat := Nat.mul_pos (Nat.mul_pos h0 (Nat.pos_of_ne_zero (by simp))) (Nat.pos_of_ne_zero (by simp))
    rw [Nat.zero_mul] at h3
    omega
  · have hq0 : 0 < q := by omega
    have hql := log2_lt53 hq0 hq2
    have hle2 := lastP_le hq0 hq2 (e := 0) (by omega)
    have hge2 : -1074 ≤ lastP q 0 := by unfold lastP; omega
    unfold realB
    rw [if_neg hz, read_dbl hq0 hq2 (by omega) (by omega)]
    simp only [Ieee.Datum.order, signed_f]
    intro hc
    have h3 := Option.some.inj hc
    rw [Int.compare_eq_eq] at h3
    generalize hb : min (lastP m e) (lastP q 0) = b at h3
    have h4 : m * 2 ^ ((e - lastP m e).toNat + (lastP m e - b).toNat) = q * 2 ^ ((0 - lastP q 0).toNat + (lastP q 0 - b).toNat) := by
      rw [Nat.pow_add, Nat.pow_add, ← Nat.mul_assoc, ← Nat.mul_assoc]
      exact Int.ofNat.inj h3
    have a1 : (0 - lastP q 0).toNat + (lastP q 0 - b).toNat = (-e).toNat + ((e - lastP m e).toNat + (lastP m e - b).toNat) := by omega
    generalize (e - lastP m e).toNat + (lastP m e - b).toNat = X at h4 a1
    rw [a1, Nat.pow_add, ← Nat.mul_assoc] at h4
    have h5 := Nat.eq_of_mul_eq_mul_right (Nat.two_pow_pos _) h4
    have h6 : (-e).toNat = ((-e).toNat - 1) + 1 := by omega
    rw [h6, Nat.pow_succ, ← Nat.mul_assoc] at h5
    omega
theorem f2i_of {b : Nat} {k : IntKind} {n : Int} (h : (FloatKind.f64.decode b).toInt .zero = some n) (h1 : k.min ≤ n) (h2 : n ≤ k.max) : f2i b k = some n := by
  unfold f2i
  split
  · rename_i n' hn
    rw [h] at hn
    cases hn
    exact if_pos ⟨h1, h2⟩
  · rename_i hn
    rw [h] at hn
    cases hn
theorem u64min : IntKind.u64.min = 0 := by decide
theorem u64max : IntKind.u64.max = 18446744073709551615 := by decide
/-- A whole number, out of its double. -/
theorem f2i_dbl (h0 : 0 < m) (h : m < 9007199254740992) : f2i (dblN m 0) .u64 = some (m : Int) := by
  have hlog := log2_lt53 h0 h
  have hle := lastP_le h0 h (e := 0) (by omega)
  have hge : -1074 ≤ lastP m 0 := by unfold lastP; omega
  have key : (FloatKind.f64.decode (dblN m 0)).toInt .zero = some (m : Int) := by
    show (Ieee.double.read (dblN m 0)).toInt .zero = _
    rw [read_dbl h0 h (by omega) (by omega)]
    simp only [Ieee.Datum.toInt, Ieee.Datum.integral, cut_zeroW, Nat.shiftLeft_eq]
    have e0 : (lastP m 0).toNat = 0 := by omega
    have e1 : (0 - lastP m 0).toNat = (-lastP m 0).toNat := by omega
    rw [e0, Nat.pow_zero, Nat.mul_one, e1, Nat.mul_div_left _ (Nat.pos_of_ne_zero (by simp)), signed_f, Nat.pow_zero, Nat.mul_one]
  exact f2i_of key (by rw [u64min]; omega) (by rw [u64max]; omega)
end
end Go.Proofs.YtlobiioioicmhaaGreatDoor
/- The document's reading, as pure functions; what is written is read back, by both. -/
namespace Go.Proofs.YtlobiioioicmhaaGreatDoor
set_option linter.all false
open Go Go.Ev
/-- Where a byte stands first, from a place on; the length: nowhere. -/
def findC (c : UInt8) (l : List UInt8) (i : Nat) : Nat := i + ((l.drop i).takeWhile fun x => decide (x ≠ c)).length
theorem findC_step {c : UInt8} {l : List UInt8} {i : Nat} (hi : i < l.length) (h : l.getD i 0 ≠ c) : findC c l i = findC c l (i + 1) := by
  have e : l.drop i = l[i] :: l.drop (i + 1) := List.drop_eq_getElem_cons hi
  have e2 : l.getD i 0 = l[i] := by simp [List.getD, hi]
  rw [e2] at h
  unfold findC
  rw [e, List.takeWhile_cons, if_pos (by simpa using h)]
  simp only [List.length_cons]; omega
theorem findC_stop {c : UInt8} {l : List UInt8} {i : Nat} (hi : i < l.length) (h : l.getD i 0 = c) : findC c l i = i := by
  have e : l.drop i = l[i] :: l.drop (i + 1) := List.drop_eq_getElem_cons hi
  have e2 : l.getD i 0 = l[i] := by simp [List.getD, hi]
  rw [e2] at h
  unfold findC
  rw [e, List.takeWhile_cons, if_neg (by simpa using h)]; rfl
theorem findC_end {c : UInt8} {l : List UInt8} {i : Nat} (hi : l.length ≤ i) : findC c l i = i := by
  unfold findC
  rw [List.drop_eq_nil_of_le hi]; rfl
theorem takeWhile_at {c : UInt8} : ∀ (a b : List UInt8), (∀ x ∈ a, x ≠ c) → (a ++ c :: b).takeWhile (fun x => decide (x ≠ c)) = a
  | [], b, _ => by rw [List.nil_append, List.takeWhile_cons, if_neg (by simp)]
  | x :: a, b, h => by
    rw [List.cons_append, List.takeWhile_cons, if_pos (by simpa using h x (by simp)), takeWhile_at a b fun y hy => h y (by simp [hy])]
theorem findC_at {c : UInt8} (p a b : List UInt8) (h : ∀ x ∈ a, x ≠ c) : findC c (p ++ (a ++ c :: b)) p.length = p.length + a.length := by
  unfold findC
  rw [List.drop_left, takeWhile_at a b h]
/-- A number from 0 on, below 2^64; 0: none. -/
def numG : List UInt8 → Nat → Nat × Bool
  | [], n => (n, true)
  | c :: l, n => if c.toNat < 48 ∨ 57 < c.toNat ∨ 1844674407370955161 < n ∨ n = 1844674407370955161 ∧ 53 < c.toNat then (0, false) else numG l (n * 10 + (c.toNat - 48))
theorem numG_cons (c : UInt8) (l : List UInt8) (n : Nat) : numG (c :: l) n = if c.toNat < 48 ∨ 57 < c.toNat ∨ 1844674407370955161 < n ∨ n = 1844674407370955161 ∧ 53 < c.toNat then (0, false) else numG l (n * 10 + (c.toNat - 48)) := rfl
theorem numG_nil (n : Nat) : numG [] n = (n, true) := rfl
def numR (l : List UInt8) : Nat × Bool := if l = [] then (0, false) else numG l 0
theorem numG_lt : ∀ (l : List UInt8) (n : Nat), n < 18446744073709551616 → (numG l n).1 < 18446744073709551616
  | [], n, h => h
  | c :: l, n, h => by
    rw [numG_cons]
    split
    · show 0 < _; omega
    · exact numG_lt l _ (by omega)
theorem numR_lt (l : List UInt8) : (numR l).1 < 18446744073709551616 := by
  unfold numR
  split
  · show 0 < _; omega
  · exact numG_lt l 0 (by omega)
theorem numG_val : ∀ (l : List UInt8) (n : Nat), allD l → valD l n < 18446744073709551616 → numG l n = (valD l n, true)
  | [], n, _, _ => rfl
  | c :: l, n, h, hv => by
    obtain ⟨h1, h2⟩ := allD_cons h
    have hg := valD_ge l (n * 10 + (c.toNat - 48))
    simp only [valD] at hv ⊢
    rw [numG_cons, if_neg (by omega)]
    exact numG_val l _ h2 hv
theorem numG_all : ∀ (l : List UInt8) (n : Nat), (numG l n).2 = true → allD l
  | [], n, _ => fun c h => by simp at h
  | c :: l, n, h => by
    rw [numG_cons] at h
    split at h
    · cases h
    · rename_i h1
      have := numG_all l _ h
      intro d hd
      rcases List.mem_cons.1 hd with rfl | hd
      · omega
      · exact this d hd
theorem numR_dec {n : Nat} (h : n < 18446744073709551616) : numR (Lib.decDigits n) = (n, true) := by
  unfold numR
  rw [if_neg (dec_ne n), numG_val _ _ (dec_all n) (by rw [dec_val]; exact h), dec_val]
/-- A real's text, read. -/
def rwgt (l : List UInt8) : Nat × Bool :=
  if l = nanT then (9221120237041090561, true)
  else if cutP l 45 = infT then (if preB l 45 = true then Op.negFloat .f64 9218868437227405312 else 9218868437227405312, true)
  else if findC 112 (cutP l 45) 0 = (cutP l 45).length then (0, false)
  else if (numR ((cutP l 45).take (findC 112 (cutP l 45) 0))).2 = false ∨ (numR (cutP ((cutP l 45).drop (findC 112 (cutP l 45) 0 + 1)) 45)).2 = false ∨ 9007199254740992 ≤ (numR ((cutP l 45).take (findC 112 (cutP l 45) 0))).1 ∨ 1074 < (numR (cutP ((cutP l 45).drop (findC 112 (cutP l 45) 0 + 1)) 45)).1 then (0, false)
  else ((fun x => if preB l 45 = true then Op.negFloat .f64 x else x) (realB (numR ((cutP l 45).take (findC 112 (cutP l 45) 0))).1 (if preB ((cutP l 45).drop (findC 112 (cutP l 45) 0 + 1)) 45 = true then -((numR (cutP ((cutP l 45).drop (findC 112 (cutP l 45) 0 + 1)) 45)).1 : Int) else (numR (cutP ((cutP l 45).drop (findC 112 (cutP l 45) 0 + 1)) 45)).1)), true)
/-- The bytes that are meant (at most one too many); none: they cannot be read. -/
def runN : Nat → List UInt8 → List UInt8 → Option (List UInt8)
  | 0, _, acc => some acc
  | f + 1, r, acc =>
    if r.length = 0 ∨ 256 < acc.length then some acc
    else if atL r 0 = 92 ∧ 2 ≤ r.length ∧ atL r 1 = 120 then
      if r.length < 4 ∨ hexN (atL r 2) < 0 ∨ hexN (atL r 3) < 0 then none else runN f (r.drop 4) (acc ++ [UInt8.ofNat (hexN (atL r 2) * 16 + hexN (atL r 3)).toNat])
    else if atL r 0 = 92 then if r.length < 2 then none else runN f (r.drop 2) (acc ++ [r.getD 1 0])
    else runN f (r.drop 1) (acc ++ [r.getD 0 0])
theorem runN_succ (f : Nat) (r acc : List UInt8) : runN (f + 1) r acc =
    if r.length = 0 ∨ 256 < acc.length then some acc
    else if atL r 0 = 92 ∧ 2 ≤ r.length ∧ atL r 1 = 120 then
      if r.length < 4 ∨ hexN (atL r 2) < 0 ∨ hexN (atL r 3) < 0 then none else runN f (r.drop 4) (acc ++ [UInt8.ofNat (hexN (atL r 2) * 16 + hexN (atL r 3)).toNat])
    else if atL r 0 = 92 then if r.length < 2 then none else runN f (r.drop 2) (acc ++ [r.getD 1 0])
    else runN f (r.drop 1) (acc ++ [r.getD 0 0]) := rfl
def runO (l : List UInt8) : List UInt8 × Bool := match runN (inner l).length (inner l) [] with | none => ([], false) | some o => (o, decide (o.length ≤ 256))
/-- A value's text, read. -/
def rreadF (l : List UInt8) : VD × Bool :=
  if l = trueT then (⟨5, 1, 0, 0, 0, []⟩, true) else if l = falseT then (⟨5, 0, 0, 0, 0, []⟩, true)
  else if 2 ≤ l.length ∧ atL l 0 = 34 ∧ atL l (l.length - 1) = 34 then (⟨4, 0, 0, 0, 0, (runO l).1⟩, (runO l).2)
  else if 2 ≤ l.length ∧ atL l 0 = 40 ∧ atL l (l.length - 1) = 41 then
    if findC 44 l 1 = l.length then (zeroV, false)
    else (⟨3, 0, 0, (rwgt ((l.take (findC 44 l 1)).drop 1)).1, (rwgt ((l.take (l.length - 1)).drop (findC 44 l 1 + 1))).1, []⟩, (rwgt ((l.take (findC 44 l 1)).drop 1)).2 && (rwgt ((l.take (l.length - 1)).drop (findC 44 l 1 + 1))).2)
  else if (numR (cutP l 45)).2 = true ∧ ((numR (cutP l 45)).1 < 9223372036854775808 ∨ preB l 45 = true ∧ (numR (cutP l 45)).1 = 9223372036854775808) then
    if preB l 45 = true then (⟨1, -((numR (cutP l 45)).1 : Int), 0, 0, 0, []⟩, decide (0 < (numR (cutP l 45)).1)) else (⟨1, (numR (cutP l 45)).1, 0, 0, 0, []⟩, true)
  else (⟨2, 0, (rwgt l).1, 0, 0, []⟩, (rwgt l).2)
def rparseF (l : List UInt8) : VD × Int :=
  if 1026 < l.length then (zeroV, 20) else if (rreadF l).2 && mayF (rreadF l).1 && (printF (rreadF l).1 == l) then ((rreadF l).1, 0) else (zeroV, 20)
end Go.Proofs.YtlobiioioicmhaaGreatDoor
/- A real's text is read back, by both. -/
namespace Go.Proofs.YtlobiioioicmhaaGreatDoor
set_option linter.all false
open Go Go.Ev
def rsame (x y : Nat) : Prop := x = y ∨ nanB x = true ∧ nanB y = true
theorem neg_pos {y : Nat} (h : y < 9223372036854775808) : Op.negFloat .f64 y = y + 9223372036854775808 := by
  have e : Op.negFloat .f64 y = y ^^^ 2 ^ 63 := rfl
  have p63 : (2 : Nat) ^ 63 = 9223372036854775808 := by decide
  rw [e, ← p63]
  rw [← p63] at h
  apply Nat.eq_of_testBit_eq
  intro i
  rw [Nat.testBit_xor, Nat.testBit_two_pow, Nat.add_comm]
  rcases Nat.lt_trichotomy i 63 with hi | hi | hi
  · rw [Nat.testBit_two_pow_add_gt hi, decide_eq_false (by omega), Bool.xor_false]
  · subst hi
    rw [Nat.testBit_two_pow_add_eq]; simp
  · have h1 : y.testBit i = false := Nat.testBit_lt_two_pow (Nat.lt_of_lt_of_le h (Nat.pow_le_pow_right (by omega) (by omega)))
    have h2 : (2 ^ 63 + y).testBit i = false := Nat.testBit_lt_two_pow (Nat.lt_of_lt_of_le (show 2 ^ 63 + y < 2 ^ 64 by rw [Nat.pow_succ]; omega) (Nat.pow_le_pow_right (by omega) (by omega)))
    rw [h1, h2, decide_eq_false (by omega)]; rfl
/-- The text of a sign, a whole number and a power. -/
def finT (s : Bool) (m : Nat) (e : Int) : List UInt8 := (if s then [45] else []) ++ (Lib.decDigits m ++ 112 :: Lib.itoa e)
theorem finT_zero (s : Bool) : (if s = true then [45] else []) ++ [48, 112, 48] = finT s 0 0 := by
  have h0 : Lib.decDigits 0 = [48] := (Lib.decDigits_one (by omega)).trans rfl
  have h1 : Lib.itoa 0 = [48] := by unfold Lib.itoa; rw [if_neg (by omega)]; exact h0
  unfold finT
  rw [h0, h1]
  rfl
theorem dec_cons (n : Nat) : ∃ c l, Lib.decDigits n = c :: l ∧ 48 ≤ c.toNat ∧ c.toNat ≤ 57 := by
  have h := dec_all n
  cases hd : Lib.decDigits n with
  | nil => exact absurd hd (dec_ne n)
  | cons c l => rw [hd] at h; exact ⟨c, l, rfl, h c (by simp)⟩
theorem preB_cons (d : UInt8) (l : List UInt8) (c : UInt8) : preB (d :: l) c = decide (d = c) := by
  unfold preB
  rw [decide_eq_true (by simp)]
  simp only [List.take_succ_cons, List.take_zero, Bool.true_and]
  by_cases h : d = c
  · subst h; simp
  · simp [h]
theorem u8ne {c : UInt8} {n : Nat} (h : c.toNat ≠ n) (hn : n < 256) : c ≠ UInt8.ofNat n := fun e => h (by rw [e, UInt8.toNat_ofNat_of_lt' hn])
theorem fin_pre (s : Bool) (m : Nat) (e : Int) : preB (finT s m e) 45 = s ∧ cutP (finT s m e) 45 = Lib.decDigits m ++ 112 :: Lib.itoa e := by
  have key : preB (finT s m e) 45 = s := by
    unfold finT
    cases s with
    | true => exact (preB_cons _ _ _).trans (by decide)
    | false =>
      obtain ⟨c, l, h1, h2, h3⟩ := dec_cons m
      simp only [Bool.false_eq_true, if_false, List.nil_append, h1, List.cons_append]
      rw [preB_cons]
      exact decide_eq_false (u8ne (n := 45) (by omega) (by omega))
  refine ⟨key, ?_⟩
  unfold cutP
  rw [key]
  unfold finT
  cases s <;> simp
theorem dec_p {m : Nat} : ∀ x ∈ Lib.decDigits m, x ≠ 112 := fun x hx => by
  have := dec_all m x hx
  exact u8ne (n := 112) (by omega) (by omega)
theorem fin_find (m : Nat) (e : Int) : findC 112 (Lib.decDigits m ++ 112 :: Lib.itoa e) 0 = (Lib.decDigits m).length := by
  have := findC_at (c := 112) [] (Lib.decDigits m) (Lib.itoa e) dec_p
  simpa using this
theorem indexByte_at {c : UInt8} (a b : List UInt8) (h : ∀ x ∈ a, x ≠ c) : Lib.indexByte (a ++ c :: b) c = a.length := by
  have hg := Lib.indexByte_ge (a ++ c :: b) c
  have hn : Lib.indexByte (a ++ c :: b) c ≠ -1 := fun e => Lib.indexByte_none e a.length (by simp)
  obtain ⟨o, ho⟩ : ∃ o : Nat, Lib.indexByte (a ++ c :: b) c = o := ⟨(Lib.indexByte (a ++ c :: b) c).toNat, by omega⟩
  obtain ⟨h1, h2⟩ := Lib.indexByte_some ho
  rw [ho]
  congr 1
  rcases Nat.lt_trichotomy o a.length with hlt | heq | hgt
  · rw [List.getElem?_append_left hlt] at h1
    exact absurd rfl (h c (List.mem_of_getElem? h1))
  · exact heq
  · exact absurd (by simp) (h2 a.length hgt)
theorem cutB_at {c : UInt8} (a b : List UInt8) (h : ∀ x ∈ a, x ≠ c) (hne : a ++ c :: b ≠ [c]) : cutB (a ++ c :: b) c = (a, b, true) := by
  have e : idxB (a ++ c :: b) c = a.length := by unfold idxB; rw [if_neg hne, indexByte_at a b h]
  unfold cutB
  rw [e, if_pos (by omega)]
  simp only [Int.toNat_natCast]
  rw [List.take_left' rfl, ← List.drop_drop, List.drop_left]
  rfl
theorem first_ne {l t : List UInt8} (m : Nat) (l' : List UInt8) (h : ∀ c, t.head? = some c → ¬ (48 ≤ c.toNat ∧ c.toNat ≤ 57)) (ht : t ≠ []) : Lib.decDigits m ++ l' ≠ t := fun e => by
  obtain ⟨c, l, h1, h2, h3⟩ := dec_cons m
  rw [h1] at e
  exact h c (by rw [← e]; rfl) ⟨h2, h3⟩
theorem fin_ne (m : Nat) (e : Int) : Lib.decDigits m ++ 112 :: Lib.itoa e ≠ nanT ∧ Lib.decDigits m ++ 112 :: Lib.itoa e ≠ infT :=
  ⟨first_ne (l := []) m _ (fun c hc => by cases hc; decide) (by decide), first_ne (l := []) m _ (fun c hc => by cases hc; decide) (by decide)⟩
theorem mag_fin {m : Nat} (hm : m < 9007199254740992) {e : Int} (h0 : -1074 ≤ e) (h1 : e ≤ 1023) : magF (Lib.decDigits m ++ 112 :: Lib.itoa e) = some (realB m e) := by
  have hne : Lib.decDigits m ++ 112 :: Lib.itoa e ≠ [112] := first_ne (l := []) m _ (fun c hc => by cases hc; decide) (by decide)
  unfold magF
  rw [if_neg (fin_ne m e).2, cutB_at _ _ dec_p hne]
  simp only
  rw [scanW_dec (by omega) (by omega), scanA_itoa e (by omega) (by omega)]
  simp only
  rw [if_neg (by omega)]
theorem wgt_fin (s : Bool) {m : Nat} (hm : m < 9007199254740992) {e : Int} (h0 : -1074 ≤ e) (h1 : e ≤ 1023) : wgtX (finT s m e) = (if s = true then Op.negFloat .f64 (realB m e) else realB m e, true) := by
  obtain ⟨h2, h3⟩ := fin_pre s m e
  unfold wgtX
  rw [h2, h3, if_neg (fin_ne m e).1, mag_fin hm h0 h1]
theorem itoa_pre (e : Int) : preB (Lib.itoa e) 45 = decide (e < 0) ∧ cutP (Lib.itoa e) 45 = Lib.decDigits e.natAbs := by
  unfold Lib.itoa
  by_cases h : e < 0
  · rw [if_pos h, decide_eq_true h]
    have e1 : preB (45 :: Lib.decDigits e.natAbs) 45 = true := (preB_cons _ _ _).trans (by decide)
    refine ⟨e1, ?_⟩
    unfold cutP
    rw [if_pos e1]; rfl
  · rw [if_neg h, decide_eq_false h]
    obtain ⟨c, l, h1, h2, h3⟩ := dec_cons e.toNat
    have e1 : preB (Lib.decDigits e.toNat) 45 = false := by
      rw [h1, preB_cons]
      exact decide_eq_false (u8ne (n := 45) (by omega) (by omega))
    refine ⟨e1, ?_⟩
    unfold cutP
    rw [if_neg (by rw [e1]; simp)]
    congr 1
    omega
theorem rwgt_fin (s : Bool) {m : Nat} (hm : m < 9007199254740992) {e : Int} (h0 : -1074 ≤ e) (h1 : e ≤ 1074) : rwgt (finT s m e) = (if s = true then Op.negFloat .f64 (realB m e) else realB m e, true) := by
  obtain ⟨h2, h3⟩ := fin_pre s m e
  obtain ⟨h4, h5⟩ := itoa_pre e
  have hf := fin_find m e
  have hnan : finT s m e ≠ nanT := fun hc => by
    rw [hc] at h2 h3
    have e1 : preB nanT 45 = false := by decide
    have e2 : cutP nanT 45 = nanT := by decide
    rw [e2] at h3
    exact (fin_ne m e).1 h3.symm
  have t1 : (Lib.decDigits m ++ 112 :: Lib.itoa e).take (Lib.decDigits m).length = Lib.decDigits m := List.take_left' rfl
  have t2 : (Lib.decDigits m ++ 112 :: Lib.itoa e).drop ((Lib.decDigits m).length + 1) = Lib.itoa e := by rw [← List.drop_drop, List.drop_left]; rfl
  unfold rwgt
  rw [if_neg hnan, h2, h3, if_neg (fin_ne m e).2, hf, t1, t2, h4, h5, numR_dec (by omega), numR_dec (by omega)]
  rw [if_neg (by simp), if_neg (by simp; omega)]
  simp only
  by_cases h : e < 0
  · simp only [decide_eq_true h, if_true]
    have : -((e.natAbs : Nat) : Int) = e := by omega
    rw [this]
  · simp only [decide_eq_false h, Bool.false_eq_true, if_false]
    have : ((e.natAbs : Nat) : Int) = e := by omega
    rw [this]
theorem wgt_inf (s : Bool) : wgtX ((if s then [45] else []) ++ infT) = (if s = true then Op.negFloat .f64 9218868437227405312 else 9218868437227405312, true) := by cases s <;> rfl
theorem rwgt_inf (s : Bool) : rwgt ((if s then [45] else []) ++ infT) = (if s = true then Op.negFloat .f64 9218868437227405312 else 9218868437227405312, true) := by cases s <;> rfl
theorem wgt_nan : wgtX nanT = (9221120237041090561, true) := rfl
theorem rwgt_nan : rwgt nanT = (9221120237041090561, true) := rfl
theorem nan_q : nanB 9221120237041090561 = true := by rw [nanB_eq _ (by omega)]; decide
/-- What a real's text is. -/
theorem meas_cases (x : Nat) (hx : x < 18446744073709551616) :
    (nanB x = true ∧ measF x = nanT) ∨ (measF x = (if sgB x then [45] else []) ++ infT ∧ x = if sgB x = true then Op.negFloat .f64 9218868437227405312 else 9218868437227405312) ∨
    ∃ m e, m < 9007199254740992 ∧ -1074 ≤ e ∧ e ≤ 1023 ∧ measF x = finT (sgB x) m e ∧ (x = if sgB x = true then Op.negFloat .f64 (realB m e) else realB m e) ∧ (m % 2 = 1 ∧ e + m.log2 ≤ 1023 ∨ m = 0 ∧ e = 0) := by
  have hsg : sgnS x = if sgB x then [45] else [] := by
    unfold sgnS sgB
    by_cases h : x / 9223372036854775808 = 1
    · rw [if_pos h, decide_eq_true h]; rfl
    · rw [if_neg h, decide_eq_false h]; rfl
  have hn := nanB_eq x hx
  obtain ⟨y, hy⟩ : ∃ y, y = x % 9223372036854775808 := ⟨_, rfl⟩
  have hyl : y < 9223372036854775808 := by rw [hy]; exact Nat.mod_lt _ (by decide)
  have hxy : ∀ z, z = y → x = if sgB x = true then Op.negFloat .f64 z else z := fun z hz => by
    subst hz
    unfold sgB
    by_cases h : x / 9223372036854775808 = 1
    · rw [if_pos (decide_eq_true h), neg_pos hyl]; omega
    · rw [if_neg (by simpa using h)]; omega
  have hE : eB y = eB x := by unfold eB; omega
  have hM : mB y = mB x := by unfold mB; omega
  have hmm : mM y = mM x := by unfold mM; rw [hE, hM]
  have hme : mE y = mE x := by unfold mE; rw [hE]
  have hmt : mT y = mT x := by unfold mT; rw [hmm]
  unfold measF
  rw [hsg]
  by_cases h1 : nanB x = true
  · exact .inl ⟨h1, by rw [if_pos h1]⟩
  · have h1' : ¬ (eB x = 2047 ∧ mB x ≠ 0) := fun h => h1 (by rw [hn]; exact decide_eq_true h)
    rw [if_neg h1]
    by_cases h2 : eB x = 2047
    · refine .inr (.inl ⟨by rw [if_pos h2], hxy _ ?_⟩)
      have : eB y = y / 4503599627370496 := by unfold eB; omega
      have : mB y = y % 4503599627370496 := rfl
      omega
    · rw [if_neg h2]
      refine .inr (.inr ?_)
      by_cases h3 : mB x = 0 ∧ eB x = 0
      · rw [if_pos h3]
        refine ⟨0, 0, by omega, by omega, by omega, finT_zero _, hxy _ ?_, .inr ⟨rfl, rfl⟩⟩
        have e1 : eB y = y / 4503599627370496 := by unfold eB; omega
        have e2 : mB y = y % 4503599627370496 := rfl
        have : realB 0 0 = 0 := rfl
        omega
      · rw [if_neg h3]
        have hy0 : y ≠ 0 := fun h => h3 (by
          have e1 : eB y = y / 4503599627370496 := by unfold eB; omega
          have e2 : mB y = y % 4503599627370496 := rfl
          omega)
        obtain ⟨m, hm, k1, k2, k3, k4, k5, k6⟩ := bits_odd hyl hy0 (by rw [hE]; exact h2)
        rw [hmm, hmt] at hm
        rw [hme, hmt] at k4 k5 k6
        refine ⟨m, mE x + mT x, k2, k4, by omega, ?_, hxy _ ?_, .inl ⟨k3, k5⟩⟩
        · rw [← hm]
          unfold finT
          simp only [List.append_assoc, List.cons_append, List.nil_append]
        · unfold realB
          rw [if_neg (by omega)]
          exact k6
theorem wgt_meas (x : Nat) (hx : x < 18446744073709551616) : ∃ y, wgtX (measF x) = (y, true) ∧ rsame x y := by
  rcases meas_cases x hx with ⟨h1, h2⟩ | ⟨h1, h2⟩ | ⟨m, e, h1, h2, h3, h4, h5, _⟩
  · exact ⟨_, by rw [h2]; exact wgt_nan, .inr ⟨h1, nan_q⟩⟩
  · exact ⟨x, by rw [h1, wgt_inf, ← h2], .inl rfl⟩
  · exact ⟨x, by rw [h4, wgt_fin _ h1 h2 h3, ← h5], .inl rfl⟩
theorem rwgt_meas (x : Nat) (hx : x < 18446744073709551616) : ∃ y, rwgt (measF x) = (y, true) ∧ rsame x y := by
  rcases meas_cases x hx with ⟨h1, h2⟩ | ⟨h1, h2⟩ | ⟨m, e, h1, h2, h3, h4, h5, _⟩
  · exact ⟨_, by rw [h2]; exact rwgt_nan, .inr ⟨h1, nan_q⟩⟩
  · exact ⟨x, by rw [h1, rwgt_inf, ← h2], .inl rfl⟩
  · exact ⟨x, by rw [h4, rwgt_fin _ h1 h2 (by omega), ← h5], .inl rfl⟩
end Go.Proofs.YtlobiioioicmhaaGreatDoor
/- Each value's text is read back, by both; so both read the same. -/
namespace Go.Proofs.YtlobiioioicmhaaGreatDoor
set_option linter.all false
open Go Go.Ev
theorem hexN_hexL (n : Nat) (h : n < 16) : hexN (hexL.getD n 0).toNat = n := by
  have : ∀ k : Fin 16, hexN (hexL.getD k.val 0).toNat = (k.val : Int) := by decide +kernel
  exact this ⟨n, h⟩
theorem hexV_back (c : UInt8) : hexV ((c.toNat / 16 : Nat) : Int) ((c.toNat % 16 : Nat) : Int) = c := by
  have := b256 (p := fun n => hexV ((n / 16 : Nat) : Int) ((n % 16 : Nat) : Int) = UInt8.ofNat n) (by decide +kernel) c
  simpa using this
theorem hexW_back (c : UInt8) : UInt8.ofNat ((((c.toNat / 16 : Nat) : Int)) * 16 + ((c.toNat % 16 : Nat) : Int)).toNat = c := by
  have e : ((((c.toNat / 16 : Nat) : Int)) * 16 + ((c.toNat % 16 : Nat) : Int)).toNat = c.toNat := by omega
  rw [e]; simp
theorem esc_cases (c : UInt8) : (esc c = [92, c] ∧ (c.toNat = 34 ∨ c.toNat = 92)) ∨ (∃ a b, esc c = [92, 120, a, b] ∧ hexN a.toNat = ((c.toNat / 16 : Nat) : Int) ∧ hexN b.toNat = ((c.toNat % 16 : Nat) : Int)) ∨ (esc c = [c] ∧ c.toNat ≠ 34 ∧ c.toNat ≠ 92) := by
  have hc := c.toNat_lt
  by_cases h1 : c.toNat = 34 ∨ c.toNat = 92
  · exact .inl ⟨esc1 h1, h1⟩
  · by_cases h2 : c.toNat < 32 ∨ 126 < c.toNat
    · exact .inr (.inl ⟨_, _, esc2 h1 h2, hexN_hexL _ (by omega), hexN_hexL _ (by omega)⟩)
    · exact .inr (.inr ⟨esc3 h1 h2, by omega, by omega⟩)
theorem unqN_esc : ∀ (t : List UInt8) (f : Nat) (acc : List UInt8), (t.flatMap esc).length ≤ f → unqN f (t.flatMap esc) acc = some (acc ++ t)
  | [], f, acc, _ => by cases f <;> simp [unqN]
  | c :: t, f, acc, hf => by
    rw [List.flatMap_cons] at hf ⊢
    rcases esc_cases c with ⟨h1, h2⟩ | ⟨a, b, h1, h2, h3⟩ | ⟨h1, h2, h3⟩
    · rw [h1] at hf ⊢
      simp only [List.length_append, List.length_cons, List.length_nil] at hf
      obtain ⟨g, rfl⟩ : ∃ g, f = g + 1 := ⟨f - 1, by omega⟩
      have e1 : atL ([92, c] ++ t.flatMap esc) 0 = 92 := rfl
      have e2 : atL ([92, c] ++ t.flatMap esc) 1 = c.toNat := rfl
      have e3 : ([92, c] ++ t.flatMap esc).getD 1 0 = c := rfl
      have e4 : ([92, c] ++ t.flatMap esc).drop 2 = t.flatMap esc := rfl
      rw [unqN_succ, if_neg (by simp), if_neg (by rw [e1]; simp), if_neg (by rw [e2]; omega), if_pos (by simp), e3, e4, unqN_esc t g _ (by omega)]
      simp
    · rw [h1] at hf ⊢
      simp only [List.length_append, List.length_cons, List.length_nil] at hf
      obtain ⟨g, rfl⟩ : ∃ g, f = g + 1 := ⟨f - 1, by omega⟩
      have e1 : atL ([92, 120, a, b] ++ t.flatMap esc) 0 = 92 := rfl
      have e2 : atL ([92, 120, a, b] ++ t.flatMap esc) 1 = 120 := rfl
      have e3 : atL ([92, 120, a, b] ++ t.flatMap esc) 2 = a.toNat := rfl
      have e5 : atL ([92, 120, a, b] ++ t.flatMap esc) 3 = b.toNat := rfl
      have e4 : ([92, 120, a, b] ++ t.flatMap esc).drop 4 = t.flatMap esc := rfl
      rw [unqN_succ, if_neg (by simp), if_neg (by rw [e1]; simp), if_pos ⟨by simp, e2⟩, e3, e5, h2, h3, if_neg (by omega), e4, hexV_back, unqN_esc t g _ (by omega)]
      simp
    · rw [h1] at hf ⊢
      simp only [List.length_append, List.length_cons, List.length_nil] at hf
      obtain ⟨g, rfl⟩ : ∃ g, f = g + 1 := ⟨f - 1, by omega⟩
      have e1 : atL ([c] ++ t.flatMap esc) 0 = c.toNat := rfl
      have e3 : ([c] ++ t.flatMap esc).getD 0 0 = c := rfl
      have e4 : ([c] ++ t.flatMap esc).drop 1 = t.flatMap esc := rfl
      rw [unqN_succ, if_neg (by simp), if_pos (by rw [e1]; exact h3), e3, e4, unqN_esc t g _ (by omega)]
      simp
theorem runN_esc : ∀ (t : List UInt8) (f : Nat) (acc : List UInt8), (t.flatMap esc).length ≤ f → acc.length + t.length ≤ 256 → runN f (t.flatMap esc) acc = some (acc ++ t)
  | [], f, acc, _, _ => by cases f <;> simp [runN]
  | c :: t, f, acc, hf, hl => by
    rw [List.flatMap_cons] at hf ⊢
    simp only [List.length_cons] at hl
    rcases esc_cases c with ⟨h1, h2⟩ | ⟨a, b, h1, h2, h3⟩ | ⟨h1, h2, h3⟩
    · rw [h1] at hf ⊢
      simp only [List.length_append, List.length_cons, List.length_nil] at hf
      obtain ⟨g, rfl⟩ : ∃ g, f = g + 1 := ⟨f - 1, by omega⟩
      have e1 : atL ([92, c] ++ t.flatMap esc) 0 = 92 := rfl
      have e2 : atL ([92, c] ++ t.flatMap esc) 1 = c.toNat := rfl
      have e3 : ([92, c] ++ t.flatMap esc).getD 1 0 = c := rfl
      have e4 : ([92, c] ++ t.flatMap esc).drop 2 = t.flatMap esc := rfl
      rw [runN_succ, if_neg (by simp; omega), if_neg (by rw [e2]; omega), if_pos e1, if_neg (by simp), e3, e4, runN_esc t g _ (by omega) (by simp; omega)]
      simp
    · rw [h1] at hf ⊢
      simp only [List.length_append, List.length_cons, List.length_nil] at hf
      obtain ⟨g, rfl⟩ : ∃ g, f = g + 1 := ⟨f - 1, by omega⟩
      have e1 : atL ([92, 120, a, b] ++ t.flatMap esc) 0 = 92 := rfl
      have e2 : atL ([92, 120, a, b] ++ t.flatMap esc) 1 = 120 := rfl
      have e3 : atL ([92, 120, a, b] ++ t.flatMap esc) 2 = a.toNat := rfl
      have e5 : atL ([92, 120, a, b] ++ t.flatMap esc) 3 = b.toNat := rfl
      have e4 : ([92, 120, a, b] ++ t.flatMap esc).drop 4 = t.flatMap esc := rfl
      rw [runN_succ, if_neg (by simp; omega), if_pos ⟨e1, by simp, e2⟩, e3, e5, h2, h3, if_neg (by simp; omega), e4, hexW_back, runN_esc t g _ (by omega) (by simp; omega)]
      simp
    · rw [h1] at hf ⊢
      simp only [List.length_append, List.length_cons, List.length_nil] at hf
      obtain ⟨g, rfl⟩ : ∃ g, f = g + 1 := ⟨f - 1, by omega⟩
      have e1 : atL ([c] ++ t.flatMap esc) 0 = c.toNat := rfl
      have e3 : ([c] ++ t.flatMap esc).getD 0 0 = c := rfl
      have e4 : ([c] ++ t.flatMap esc).drop 1 = t.flatMap esc := rfl
      rw [runN_succ, if_neg (by simp; omega), if_neg (by rw [e1]; omega), if_neg (by rw [e1]; exact h3), e3, e4, runN_esc t g _ (by omega) (by simp; omega)]
      simp
theorem quot_facts (t : List UInt8) : 2 ≤ (quotF t).length ∧ atL (quotF t) 0 = 34 ∧ atL (quotF t) ((quotF t).length - 1) = 34 ∧ inner (quotF t) = t.flatMap esc := by
  have e : quotF t = (34 :: t.flatMap esc) ++ [34] := rfl
  refine ⟨by rw [e]; simp, rfl, ?_, ?_⟩
  · rw [e]
    unfold atL
    rw [List.getD_eq_getElem?_getD, List.getElem?_append_right (by simp)]
    simp
  · unfold inner
    rw [e]
    simp
theorem quot_len {t : List UInt8} (ht : t.length ≤ 256) : (quotF t).length ≤ 1026 := by
  have h := quoteB_len t
  unfold quotF
  simp only [List.length_append, List.length_cons, List.length_nil]
  omega
/-- Two values that are the same but for what is no number. -/
def veq (v w : VD) : Prop := v.kind = w.kind ∧ v.int = w.int ∧ v.text = w.text ∧ rsame v.real w.real ∧ rsame v.re w.re ∧ rsame v.im w.im
theorem meas_same {x y : Nat} (h : rsame x y) : measF x = measF y := by
  rcases h with rfl | ⟨h1, h2⟩
  · rfl
  · unfold measF; rw [if_pos h1, if_pos h2]
theorem may_same {v w : VD} (h : veq v w) : mayF v = mayF w := by
  obtain ⟨h1, h2, h3, _⟩ := h
  unfold mayF; rw [h1, h2, h3]
theorem print_same {v w : VD} (h : veq v w) : printF v = printF w := by
  have hm := may_same h
  obtain ⟨h1, h2, h3, h4, h5, h6⟩ := h
  unfold printF
  rw [hm, h1, h2, h3, meas_same h4, meas_same h5, meas_same h6]
/-- What is read holds only what its kind names. -/
def plainV (v : VD) : Prop := (v.kind = 1 ∧ v.real = 0 ∧ v.re = 0 ∧ v.im = 0 ∧ v.text = []) ∨ (v.kind = 2 ∧ v.int = 0 ∧ v.re = 0 ∧ v.im = 0 ∧ v.text = []) ∨ (v.kind = 3 ∧ v.int = 0 ∧ v.real = 0 ∧ v.text = []) ∨
  (v.kind = 4 ∧ v.int = 0 ∧ v.real = 0 ∧ v.re = 0 ∧ v.im = 0) ∨ (v.kind = 5 ∧ v.real = 0 ∧ v.re = 0 ∧ v.im = 0 ∧ v.text = [])
theorem readF_plain (l : List UInt8) (h : (readF l).2 = true) : plainV (readF l).1 := by
  unfold readF at h ⊢
  split at h
  · cases h
  · rename_i h0
    rw [if_neg h0]
    split
    · exact .inr (.inr (.inr (.inr ⟨rfl, rfl, rfl, rfl, rfl⟩)))
    split
    · exact .inr (.inr (.inr (.inr ⟨rfl, rfl, rfl, rfl, rfl⟩)))
    split
    · exact .inr (.inr (.inr (.inl ⟨rfl, rfl, rfl, rfl, rfl⟩)))
    split
    · exact .inr (.inr (.inl ⟨rfl, rfl, rfl, rfl⟩))
    split
    · exact .inl ⟨rfl, rfl, rfl, rfl, rfl⟩
    · exact .inr (.inl ⟨rfl, rfl, rfl, rfl, rfl⟩)
theorem rreadF_plain (l : List UInt8) (h : (rreadF l).2 = true) : plainV (rreadF l).1 := by
  unfold rreadF at h ⊢
  split
  · exact .inr (.inr (.inr (.inr ⟨rfl, rfl, rfl, rfl, rfl⟩)))
  rename_i h1
  rw [if_neg h1] at h
  split
  · exact .inr (.inr (.inr (.inr ⟨rfl, rfl, rfl, rfl, rfl⟩)))
  rename_i h1
  rw [if_neg h1] at h
  split
  · exact .inr (.inr (.inr (.inl ⟨rfl, rfl, rfl, rfl, rfl⟩)))
  rename_i h1
  rw [if_neg h1] at h
  split
  · rename_i h2
    rw [if_pos h2] at h
    split
    · rename_i h3; rw [if_pos h3] at h; cases h
    · exact .inr (.inr (.inl ⟨rfl, rfl, rfl, rfl⟩))
  split
  · split
    · exact .inl ⟨rfl, rfl, rfl, rfl, rfl⟩
    · exact .inl ⟨rfl, rfl, rfl, rfl, rfl⟩
  · exact .inr (.inl ⟨rfl, rfl, rfl, rfl, rfl⟩)
end Go.Proofs.YtlobiioioicmhaaGreatDoor
/- Both read the same of any text. -/
namespace Go.Proofs.YtlobiioioicmhaaGreatDoor
set_option linter.all false
open Go Go.Ev
/-- How a number's text begins, and what is in it. -/
def numT (l : List UInt8) : Prop := ∃ c r, l = c :: r ∧ (c = 45 ∨ c = 110 ∨ c = 105 ∨ (48 ≤ c.toNat ∧ c.toNat ≤ 57))
theorem numT_ne {l : List UInt8} (h : numT l) : l ≠ [] ∧ l ≠ trueT ∧ l ≠ falseT ∧ atL l 0 ≠ 34 ∧ atL l 0 ≠ 40 := by
  obtain ⟨c, r, rfl, h⟩ := h
  have e : atL (c :: r) 0 = c.toNat := rfl
  rw [e]
  refine ⟨by simp, fun hc => ?_, fun hc => ?_, ?_, ?_⟩
  · have hc := (List.cons.inj hc).1
    subst hc
    revert h; decide
  · have hc := (List.cons.inj hc).1
    subst hc
    revert h; decide
  · intro hc
    rcases h with rfl | rfl | rfl | h
    · revert hc; decide
    · revert hc; decide
    · revert hc; decide
    · omega
  · intro hc
    rcases h with rfl | rfl | rfl | h
    · revert hc; decide
    · revert hc; decide
    · revert hc; decide
    · omega
theorem numT_itoa (n : Int) : numT (Lib.itoa n) := by
  unfold Lib.itoa
  split
  · exact ⟨45, _, rfl, .inl rfl⟩
  · obtain ⟨c, l, h1, h2⟩ := dec_cons n.toNat
    exact ⟨c, l, h1, .inr (.inr (.inr h2))⟩
/-- A text that is no whole number: past its sign a byte is no digit. -/
def oddC (l : List UInt8) : Prop := ∃ c ∈ cutP l 45, ¬ (48 ≤ c.toNat ∧ c.toNat ≤ 57)
theorem meas_numT (x : Nat) (hx : x < 18446744073709551616) : numT (measF x) ∧ oddC (measF x) ∧ ∀ c ∈ measF x, c ≠ 44 := by
  rcases meas_cases x hx with ⟨_, h⟩ | ⟨h, _⟩ | ⟨m, e, _, _, _, h, _⟩
  · rw [h]; exact ⟨⟨110, _, rfl, .inr (.inl rfl)⟩, ⟨110, by decide, by decide⟩, by decide⟩
  · rw [h]
    cases sgB x with
    | true => exact ⟨⟨45, _, rfl, .inl rfl⟩, ⟨110, by decide, by decide⟩, by decide⟩
    | false => exact ⟨⟨105, _, rfl, .inr (.inr (.inl rfl))⟩, ⟨110, by decide, by decide⟩, by decide⟩
  · rw [h]
    refine ⟨?_, ⟨112, by rw [(fin_pre _ m e).2]; simp, by decide⟩, fun c hc => ?_⟩
    · unfold finT
      cases sgB x with
      | true => exact ⟨45, _, rfl, .inl rfl⟩
      | false =>
        obtain ⟨c, l, h1, h2⟩ := dec_cons m
        exact ⟨c, l ++ 112 :: Lib.itoa e, by rw [h1]; rfl, .inr (.inr (.inr h2))⟩
    · have hd : ∀ (n : Nat), ∀ c ∈ Lib.decDigits n, c ≠ 44 := fun n c hc => by
        have := dec_all n c hc
        exact u8ne (n := 44) (by omega) (by omega)
      unfold finT at hc
      rcases List.mem_append.1 hc with hc | hc
      · split at hc
        · rw [List.mem_singleton.1 hc]; decide
        · cases hc
      · rcases List.mem_append.1 hc with hc | hc
        · exact hd _ _ hc
        · rcases List.mem_cons.1 hc with rfl | hc
          · decide
          · unfold Lib.itoa at hc
            split at hc
            · rcases List.mem_cons.1 hc with rfl | hc
              · decide
              · exact hd _ _ hc
            · exact hd _ _ hc
theorem signed_cut {l : List UInt8} (h : numT l) : (signed l).2 = cutP l 45 := by
  obtain ⟨c, r, rfl, h⟩ := h
  have e : atL (c :: r) 0 = c.toNat := rfl
  unfold signed cutP
  rw [preB_cons, e]
  by_cases h45 : c = 45
  · subst h45; rfl
  · have h1 : c.toNat ≠ 45 := fun hc => h45 (by rw [← UInt8.toNat_inj, hc]; rfl)
    have h2 : c.toNat ≠ 43 := by
      rcases h with rfl | rfl | rfl | h
      · decide
      · decide
      · decide
      · omega
    rw [if_neg h2, if_neg h1, decide_eq_false h45]
    rfl
theorem scanI_odd {l : List UInt8} (h : numT l) (ho : oddC l) : (scanI l).1 ≠ 0 := scanI_not (by rw [signed_cut h]; exact ho)
theorem numR_odd {l : List UInt8} (ho : oddC l) : (numR (cutP l 45)).2 = false := by
  obtain ⟨c, hc, hn⟩ := ho
  cases h : (numR (cutP l 45)).2 with
  | false => rfl
  | true =>
    unfold numR at h
    split at h
    · cases h
    · exact absurd (numG_all _ _ h c hc) hn
/-- A complex number's text. -/
def compT (a b : List UInt8) : List UInt8 := (((40 :: a) ++ [44]) ++ b) ++ [41]
theorem comp_parts {a b : List UInt8} (ha : ∀ c ∈ a, c ≠ 44) :
    readC (compT a b) = (a, b, true) ∧ findC 44 (compT a b) 1 = 1 + a.length ∧ (compT a b).length = a.length + b.length + 3 ∧ ((compT a b).take (1 + a.length)).drop 1 = a ∧
    ((compT a b).take ((compT a b).length - 1)).drop (1 + a.length + 1) = b ∧ atL (compT a b) 0 = 40 ∧ atL (compT a b) ((compT a b).length - 1) = 41 := by
  have e1 : compT a b = [40] ++ (a ++ 44 :: (b ++ [41])) := by unfold compT; simp
  have e2 : (compT a b).drop 1 = (a ++ 44 :: b) ++ [41] := by rw [e1]; simp
  have e3 : compT a b = (40 :: (a ++ 44 :: b)) ++ [41] := by unfold compT; simp
  have hl : (compT a b).length = a.length + b.length + 3 := by rw [e3]; simp; omega
  refine ⟨?_, ?_, hl, ?_, ?_, rfl, ?_⟩
  · unfold readC
    rw [e2]
    have hs : sufB ((a ++ 44 :: b) ++ [41]) 41 = true := by
      unfold sufB
      rw [decide_eq_true (by simp; omega)]
      simp
    unfold trimS
    rw [if_pos hs]
    have : ((a ++ 44 :: b) ++ [41]).take (((a ++ 44 :: b) ++ [41]).length - 1) = a ++ 44 :: b := by
      rw [List.length_append]
      exact List.take_left' (by simp)
    rw [this]
    by_cases hne : a ++ 44 :: b = [44]
    · rw [hne]
      have hb : a = [] ∧ b = [] := by
        cases a with
        | nil => simpa using hne
        | cons x a => simp at hne
      rw [hb.1, hb.2]
      rfl
    · exact cutB_at a b ha hne
  · rw [e1]
    have := findC_at (c := 44) [40] a (b ++ [41]) ha
    simpa using this
  · rw [e1]
    have : ([40] ++ (a ++ 44 :: (b ++ [41]))).take (1 + a.length) = [40] ++ a := by
      rw [← List.append_assoc]
      exact List.take_left' (by simp; omega)
    rw [this]; rfl
  · rw [hl, e3]
    have : ((40 :: (a ++ 44 :: b)) ++ [41]).take (a.length + b.length + 3 - 1) = 40 :: (a ++ 44 :: b) := List.take_left' (by simp; omega)
    rw [this]
    have e4 : (40 :: (a ++ 44 :: b)) = (40 :: (a ++ [44])) ++ b := by simp
    rw [e4]
    exact List.drop_left' (by simp; omega)
  · rw [hl, e3]
    unfold atL
    rw [List.getD_eq_getElem?_getD, List.getElem?_append_right (by simp; omega)]
    have : a.length + b.length + 3 - 1 - (40 :: (a ++ 44 :: b)).length = 0 := by simp; omega
    rw [this]; rfl
theorem back (v : VD) (hp : plainV v) (ho : okV v) (hm : mayF v = true) : ∃ w, readF (printF v) = (w, true) ∧ veq v w := by
  obtain ⟨k, n, x, a, b, t⟩ := v
  obtain ⟨g1, g2, g3, g4, g5⟩ := ho
  simp only at g1 g2 g3 g4 g5
  unfold printF
  rw [if_neg (by rw [hm]; simp)]
  rcases hp with ⟨rfl, rfl, rfl, rfl, rfl⟩ | ⟨rfl, rfl, rfl, rfl, rfl⟩ | ⟨rfl, rfl, rfl, rfl⟩ | ⟨rfl, rfl, rfl, rfl, rfl⟩ | ⟨rfl, rfl, rfl, rfl, rfl⟩
  · rw [if_pos rfl]
    obtain ⟨h1, h2, h3, h4, h5⟩ := numT_ne (numT_itoa n)
    refine ⟨⟨1, n, 0, 0, 0, []⟩, ?_, rfl, rfl, rfl, .inl rfl, .inl rfl, .inl rfl⟩
    unfold readF
    simp only
    rw [if_neg h1, if_neg h2, if_neg h3, if_neg h4, if_neg h5, scanI_itoa n g1 g2, if_pos rfl]
  · rw [if_neg (by show ¬ ((2 : Int) = 1); decide), if_pos rfl]
    simp only
    obtain ⟨q1, q2, q3⟩ := meas_numT x g3
    obtain ⟨h1, h2, h3, h4, h5⟩ := numT_ne q1
    obtain ⟨y, hy, hs⟩ := wgt_meas x g3
    refine ⟨⟨2, 0, y, 0, 0, []⟩, ?_, rfl, rfl, rfl, hs, .inl rfl, .inl rfl⟩
    unfold readF
    rw [if_neg h1, if_neg h2, if_neg h3, if_neg h4, if_neg h5, if_neg (scanI_odd q1 q2), hy]
  · rw [if_neg (by show ¬ ((3 : Int) = 1); decide), if_neg (by show ¬ ((3 : Int) = 2); decide), if_pos rfl]
    simp only
    obtain ⟨p1, p2, p3⟩ := meas_numT a g4
    obtain ⟨y, hy, hs⟩ := wgt_meas a g4
    obtain ⟨z, hz, hs2⟩ := wgt_meas b g5
    obtain ⟨c1, c2, c3, c4, c5, c6, c7⟩ := comp_parts (b := measF b) p3
    show ∃ w, readF (compT (measF a) (measF b)) = (w, true) ∧ _
    refine ⟨⟨3, 0, 0, y, z, []⟩, ?_, rfl, rfl, rfl, .inl rfl, hs, hs2⟩
    have hne : ∀ t : List UInt8, t.head? ≠ some 40 → compT (measF a) (measF b) ≠ t := fun t ht hc => ht (by rw [← hc]; rfl)
    unfold readF
    rw [if_neg (hne _ (by decide)), if_neg (hne _ (by decide)), if_neg (hne _ (by decide)), if_neg (by rw [c6]; decide), if_pos c6, c1]
    simp only [hy, hz, Bool.and_self]
  · rw [if_neg (by show ¬ ((4 : Int) = 1); decide), if_neg (by show ¬ ((4 : Int) = 2); decide), if_neg (by show ¬ ((4 : Int) = 3); decide), if_pos rfl]
    simp only
    have ht : t.length ≤ 256 := by
      unfold mayF at hm
      rw [if_neg (by show ¬ ((4 : Int) = 1 ∨ (4 : Int) = 2 ∨ (4 : Int) = 3); decide), if_pos rfl] at hm
      exact of_decide_eq_true hm
    obtain ⟨q1, q2, q3, q4⟩ := quot_facts t
    have hu : unqF (quotF t) = some t := by
      unfold unqF
      rw [if_neg (by have := quot_len ht; omega), q4, unqN_esc t _ [] (Nat.le_refl _), List.nil_append]
    refine ⟨⟨4, 0, 0, 0, 0, t⟩, ?_, rfl, rfl, rfl, .inl rfl, .inl rfl, .inl rfl⟩
    have hne : ∀ t' : List UInt8, t'.head? ≠ some 34 → quotF t ≠ t' := fun t' ht hc => ht (by rw [← hc]; rfl)
    unfold readF
    rw [if_neg (hne _ (by decide)), if_neg (hne _ (by decide)), if_neg (hne _ (by decide)), if_pos q2]
    unfold unqO
    rw [hu]
  · rw [if_neg (by show ¬ ((5 : Int) = 1); decide), if_neg (by show ¬ ((5 : Int) = 2); decide), if_neg (by show ¬ ((5 : Int) = 3); decide), if_neg (by show ¬ ((5 : Int) = 4); decide)]
    have hn : n = 0 ∨ n = 1 := by
      unfold mayF at hm
      rw [if_neg (by show ¬ ((5 : Int) = 1 ∨ (5 : Int) = 2 ∨ (5 : Int) = 3); decide), if_neg (by show ¬ ((5 : Int) = 4); decide), if_pos rfl] at hm
      simpa using hm
    rcases hn with rfl | rfl
    · exact ⟨⟨5, 0, 0, 0, 0, []⟩, by rfl, rfl, rfl, rfl, .inl rfl, .inl rfl, .inl rfl⟩
    · exact ⟨⟨5, 1, 0, 0, 0, []⟩, by rfl, rfl, rfl, rfl, .inl rfl, .inl rfl, .inl rfl⟩
theorem rback (v : VD) (hp : plainV v) (ho : okV v) (hm : mayF v = true) : ∃ w, rreadF (printF v) = (w, true) ∧ veq v w ∧ (printF v).length ≤ 1026 := by
  obtain ⟨k, n, x, a, b, t⟩ := v
  obtain ⟨g1, g2, g3, g4, g5⟩ := ho
  simp only at g1 g2 g3 g4 g5
  unfold printF
  rw [if_neg (by rw [hm]; simp)]
  rcases hp with ⟨rfl, rfl, rfl, rfl, rfl⟩ | ⟨rfl, rfl, rfl, rfl, rfl⟩ | ⟨rfl, rfl, rfl, rfl⟩ | ⟨rfl, rfl, rfl, rfl, rfl⟩ | ⟨rfl, rfl, rfl, rfl, rfl⟩
  · rw [if_pos rfl]
    obtain ⟨h1, h2, h3, h4, h5⟩ := numT_ne (numT_itoa n)
    obtain ⟨i1, i2⟩ := itoa_pre n
    refine ⟨⟨1, n, 0, 0, 0, []⟩, ?_, ⟨rfl, rfl, rfl, .inl rfl, .inl rfl, .inl rfl⟩, Nat.le_trans (Lib.itoa_length_le n g1 g2) (by omega)⟩
    unfold rreadF
    simp only
    rw [if_neg h2, if_neg h3, if_neg (fun h => h4 h.2.1), if_neg (fun h => h5 h.2.1), i1, i2, numR_dec (by omega)]
    simp only
    rw [if_pos ⟨trivial, by
      by_cases h : n < 0
      · rw [decide_eq_true h]
        by_cases h' : n.natAbs < 9223372036854775808
        · exact .inl h'
        · exact .inr ⟨rfl, by omega⟩
      · exact .inl (by omega)⟩]
    by_cases h : n < 0
    · rw [if_pos (decide_eq_true h), decide_eq_true (show 0 < n.natAbs by omega)]
      have : -((n.natAbs : Nat) : Int) = n := by omega
      rw [this]
    · rw [if_neg (by simpa using h)]
      have : ((n.natAbs : Nat) : Int) = n := by omega
      rw [this]
  · rw [if_neg (by show ¬ ((2 : Int) = 1); decide), if_pos rfl]
    simp only
    obtain ⟨q1, q2, q3⟩ := meas_numT x g3
    obtain ⟨h1, h2, h3, h4, h5⟩ := numT_ne q1
    obtain ⟨y, hy, hs⟩ := rwgt_meas x g3
    refine ⟨⟨2, 0, y, 0, 0, []⟩, ?_, ⟨rfl, rfl, rfl, hs, .inl rfl, .inl rfl⟩, Nat.le_trans (measF_le x) (by omega)⟩
    unfold rreadF
    rw [if_neg h2, if_neg h3, if_neg (fun h => h4 h.2.1), if_neg (fun h => h5 h.2.1), numR_odd q2, if_neg (fun h => by cases h.1), hy]
  · rw [if_neg (by show ¬ ((3 : Int) = 1); decide), if_neg (by show ¬ ((3 : Int) = 2); decide), if_pos rfl]
    simp only
    obtain ⟨p1, p2, p3⟩ := meas_numT a g4
    obtain ⟨y, hy, hs⟩ := rwgt_meas a g4
    obtain ⟨z, hz, hs2⟩ := rwgt_meas b g5
    obtain ⟨c1, c2, c3, c4, c5, c6, c7⟩ := comp_parts (b := measF b) p3
    have la := measF_le a
    have lb := measF_le b
    show ∃ w, rreadF (compT (measF a) (measF b)) = (w, true) ∧ _ ∧ (compT (measF a) (measF b)).length ≤ 1026
    refine ⟨⟨3, 0, 0, y, z, []⟩, ?_, ⟨rfl, rfl, rfl, .inl rfl, hs, hs2⟩, by omega⟩
    have hne : ∀ t : List UInt8, t.head? ≠ some 40 → compT (measF a) (measF b) ≠ t := fun t ht hc => ht (by rw [← hc]; rfl)
    unfold rreadF
    rw [if_neg (hne _ (by decide)), if_neg (hne _ (by decide)), if_neg (fun h => by rw [c6] at h; exact absurd h.2.1 (by decide)), if_pos ⟨by omega, c6, c7⟩, c2, if_neg (by omega), c4, c5]
    simp only [hy, hz, Bool.and_self]
  · rw [if_neg (by show ¬ ((4 : Int) = 1); decide), if_neg (by show ¬ ((4 : Int) = 2); decide), if_neg (by show ¬ ((4 : Int) = 3); decide), if_pos rfl]
    simp only
    have ht : t.length ≤ 256 := by
      unfold mayF at hm
      rw [if_neg (by show ¬ ((4 : Int) = 1 ∨ (4 : Int) = 2 ∨ (4 : Int) = 3); decide), if_pos rfl] at hm
      exact of_decide_eq_true hm
    obtain ⟨q1, q2, q3, q4⟩ := quot_facts t
    have hu : runO (quotF t) = (t, true) := by
      unfold runO
      rw [q4, runN_esc t _ [] (Nat.le_refl _) (by simpa using ht), List.nil_append]
      simp only [decide_eq_true ht]
    refine ⟨⟨4, 0, 0, 0, 0, t⟩, ?_, ⟨rfl, rfl, rfl, .inl rfl, .inl rfl, .inl rfl⟩, quot_len ht⟩
    have hne : ∀ t' : List UInt8, t'.head? ≠ some 34 → quotF t ≠ t' := fun t' ht hc => ht (by rw [← hc]; rfl)
    unfold rreadF
    rw [if_neg (hne _ (by decide)), if_neg (hne _ (by decide)), if_pos ⟨q1, q2, q3⟩, hu]
  · rw [if_neg (by show ¬ ((5 : Int) = 1); decide), if_neg (by show ¬ ((5 : Int) = 2); decide), if_neg (by show ¬ ((5 : Int) = 3); decide), if_neg (by show ¬ ((5 : Int) = 4); decide)]
    have hn : n = 0 ∨ n = 1 := by
      unfold mayF at hm
      rw [if_neg (by show ¬ ((5 : Int) = 1 ∨ (5 : Int) = 2 ∨ (5 : Int) = 3); decide), if_neg (by show ¬ ((5 : Int) = 4); decide), if_pos rfl] at hm
      simpa using hm
    rcases hn with rfl | rfl
    · exact ⟨⟨5, 0, 0, 0, 0, []⟩, by rfl, ⟨rfl, rfl, rfl, .inl rfl, .inl rfl, .inl rfl⟩, by decide⟩
    · exact ⟨⟨5, 1, 0, 0, 0, []⟩, by rfl, ⟨rfl, rfl, rfl, .inl rfl, .inl rfl, .inl rfl⟩, by decide⟩
theorem rwgt_lt (l : List UInt8) : (rwgt l).1 < 18446744073709551616 := by
  unfold rwgt
  split
  · show 9221120237041090561 < 18446744073709551616; omega
  split
  · show (if preB l 45 = true then Op.negFloat .f64 9218868437227405312 else 9218868437227405312) < _
    split
    · exact negF_lt (by omega)
    · omega
  split
  · show 0 < _; omega
  split
  · show 0 < _; omega
  · have hb := fun m e => realB_lt m e
    simp only
    split
    · exact negF_lt (hb _ _)
    · exact Nat.lt_trans (hb _ _) (by omega)
theorem rreadF_ok (l : List UInt8) : okV (rreadF l).1 := by
  have h0 := numR_lt (cutP l 45)
  have h2 := rwgt_lt l
  have h3 := rwgt_lt ((l.take (findC 44 l 1)).drop 1)
  have h4 := rwgt_lt ((l.take (l.length - 1)).drop (findC 44 l 1 + 1))
  have z : ∀ k n t, (-9223372036854775808 ≤ n ∧ n ≤ 9223372036854775807) → okV ⟨k, n, 0, 0, 0, t⟩ := fun k n t h => ⟨h.1, h.2, by show 0 < _; omega, by show 0 < _; omega, by show 0 < _; omega⟩
  unfold rreadF
  split
  · exact z _ _ _ (by omega)
  split
  · exact z _ _ _ (by omega)
  split
  · exact z _ _ _ (by omega)
  split
  · split
    · exact z _ _ _ (by omega)
    · exact ⟨by show (-9223372036854775808 : Int) ≤ 0; omega, by show (0 : Int) ≤ _; omega, by show 0 < _; omega, h3, h4⟩
  split
  · rename_i h
    split
    · exact z _ _ _ (by omega)
    · rename_i h5
      refine z _ _ _ ?_
      have : (numR (cutP l 45)).1 < 9223372036854775808 := by
        rcases h.2 with h | h
        · exact h
        · exact absurd h.1 h5
      omega
  · exact ⟨by show (-9223372036854775808 : Int) ≤ 0; omega, by show (0 : Int) ≤ _; omega, h2, by show 0 < _; omega, by show 0 < _; omega⟩
theorem veq_refl (v : VD) : veq v v := ⟨rfl, rfl, rfl, .inl rfl, .inl rfl, .inl rfl⟩
/-- The program and the document read the same. -/
theorem parse_same (l : List UInt8) : veq (parseF l).1 (rparseF l).1 ∧ (parseF l).2 = (rparseF l).2 := by
  by_cases hp : ((readF l).2 && mayF (readF l).1 && (printF (readF l).1 == l)) = true
  · have e : parseF l = ((readF l).1, 0) := by unfold parseF; rw [if_pos hp]
    simp only [Bool.and_eq_true] at hp
    obtain ⟨⟨h1, h2⟩, h3⟩ := hp
    have h3 := eq_of_beq h3
    obtain ⟨w, hw, hv, hl⟩ := rback (readF l).1 (readF_plain l h1) (readF_ok l) h2
    rw [h3] at hw hl
    have hw2 : printF w = l := by rw [← print_same hv, h3]
    have e2 : rparseF l = (w, 0) := by
      unfold rparseF
      rw [if_neg (by omega), hw]
      simp only
      rw [if_pos (by rw [← may_same hv, h2, hw2]; simp)]
    rw [e, e2]
    exact ⟨hv, rfl⟩
  · have e : parseF l = (zeroV, 20) := by unfold parseF; rw [if_neg hp]
    have e2 : rparseF l = (zeroV, 20) := by
      unfold rparseF
      split
      · rfl
      · rw [if_neg]
        intro hc
        simp only [Bool.and_eq_true] at hc
        obtain ⟨⟨h1, h2⟩, h3⟩ := hc
        have h3 := eq_of_beq h3
        obtain ⟨w, hw, hv⟩ := back (rreadF l).1 (rreadF_plain l h1) (rreadF_ok l) h2
        rw [h3] at hw
        have hw2 : printF w = l := by rw [← print_same hv, h3]
        refine hp ?_
        rw [hw]
        simp only [Bool.true_and, Bool.and_eq_true]
        exact ⟨by rw [← may_same hv]; exact h2, by rw [hw2]; exact beq_self_eq_true l⟩
    rw [e, e2]
    exact ⟨veq_refl _, rfl⟩
end Go.Proofs.YtlobiioioicmhaaGreatDoor
