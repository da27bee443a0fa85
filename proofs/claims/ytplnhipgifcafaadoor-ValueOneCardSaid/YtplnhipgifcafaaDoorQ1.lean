/- A part of the proof. -/
import Derived.Test.YtplnhipgifcafaaDoorU2
import Derived.Shelf.Strings.Search3
import Derived.Test.YtplnhipgifcafaaDoorProg
import Derived.Shelf.Strconv.ToErrorRange
import GoSem.Core.Float
import Derived.KernelRfl
/-
  DERIVED: THE SHELF's CONTRACTS AT THIS DUMP, IN PLAIN WORDS (tools/lay-plain.mjs out of 'TrydShelf.lean', which tools/lay-shelf.mjs wrote): THE SAME DECLARATIONS UNDER THE SAME NAMES: 'import', 'namespace', 'open', 'def', 'theorem' AND NOTHING ELSE: no command of the shelf's: FOR A HAND-IN. Each laying: the table of numbers ('.._ren') and one theorem, a field a fact of the dump's own or the kernel's comparison; each contract: ONE APPLICATION.
-/
namespace Go.Proofs
open Go.Shelf
def Tryd.lays144_ren : Go.Shelf.Ren := ⟨fun | 144 => 75 | 143 => 101 | 219 => 105 | 217 => 102 | 225 => 124 | 224 => 125 | 267 => 126 | 266 => 123 | 314 => 137 | n => n, fun | 9 => 9 | 4 => 4 | 3 => 3 | 5 => 5 | 46 => 51 | 146 => 152 | 51 => 140 | n => n, fun | 1 => 1 | n => n⟩
theorem Tryd.lays144 : Go.Proofs.Lays.n144 Tryd.prog Tryd.lays144_ren := {
  mixed := by kernel_rfl
  f143 := Tryd.func101.trans (congrArg some (by kernel_rfl))
  f144 := Tryd.func75.trans (congrArg some (by kernel_rfl))
  f217 := Tryd.func102.trans (congrArg some (by kernel_rfl))
  f219 := Tryd.func105.trans (congrArg some (by kernel_rfl))
  f224 := Tryd.func125.trans (congrArg some (by kernel_rfl))
  f225 := Tryd.func124.trans (congrArg some (by kernel_rfl))
  f266 := Tryd.func123.trans (congrArg some (by kernel_rfl))
  f267 := Tryd.func126.trans (congrArg some (by kernel_rfl))
  f314 := Tryd.func137.trans (congrArg some (by kernel_rfl))
  t3 := Tryd.underlying3
  a3 := Tryd.isAgg3
  z3 := Tryd.sizeOf3
  v3 := Tryd.zeroValue3
  t4 := Tryd.underlying4
  a4 := Tryd.isAgg4
  z4 := Tryd.sizeOf4
  v4 := Tryd.zeroValue4
  t5 := Tryd.underlying5
  a5 := Tryd.isAgg5
  z5 := Tryd.sizeOf5
  v5 := Tryd.zeroValue5
  t9 := Tryd.underlying9
  a9 := Tryd.isAgg9
  z9 := Tryd.sizeOf9
  v9 := Tryd.zeroValue9
  t46 := Tryd.underlying51
  a46 := Tryd.isAgg51
  z46 := Tryd.sizeOf51
  v46 := Tryd.zeroValue51
  t51 := Tryd.underlying140
  a51 := Tryd.isAgg140
  z51 := Tryd.sizeOf140
  v51 := Tryd.zeroValue140
  t146 := Tryd.underlying152
  a146 := Tryd.isAgg152
  z146 := Tryd.sizeOf152
  v146 := Tryd.zeroValue152
  g1 := by kernel_rfl }
open Go.RowKit Go.Lib in
/-- strings.Contains. -/
theorem Tryd.strings_Contains (s sub : ByteArray) (m : Int) (w : World) (hs : s.size < 4294967281) (hm : w.cell? ⟨1, 0, none⟩ = some (.int .i64 m)) :
    Calls Tryd.prog 75 #[.string s, .string sub] w fun e w' => e = .returned (.bool (Lib.contains s.data.toList sub.data.toList)) ∧ w' = w := Any.strings_Contains Tryd.lays144 s sub m w hs hm
end Go.Proofs
/-
  DERIVED: THE SHELF's CONTRACTS AT THIS DUMP, IN PLAIN WORDS (tools/lay-plain.mjs out of 'TrydShelf.lean', which tools/lay-shelf.mjs wrote): THE SAME DECLARATIONS UNDER THE SAME NAMES: 'import', 'namespace', 'open', 'def', 'theorem' AND NOTHING ELSE: no command of the shelf's: FOR A HAND-IN. Each laying: the table of numbers ('.._ren') and one theorem, a field a fact of the dump's own or the kernel's comparison; each contract: ONE APPLICATION.
-/
namespace Go.Proofs
open Go.Shelf
def Tryd.laysC245_ren : Go.Shelf.Ren := ⟨fun | 245 => 91 | 279 => 113 | 280 => 114 | 281 => 115 | 282 => 116 | 316 => 133 | 171 => 62 | 205 => 134 | 243 => 97 | 246 => 60 | 283 => 92 | 284 => 93 | 285 => 94 | 286 => 95 | 129 => 118 | 317 => 117 | 318 => 119 | 319 => 120 | 320 => 121 | 337 => 135 | 338 => 136 | n => n, fun | 9 => 9 | 3 => 3 | 75 => 93 | 167 => 133 | 4 => 4 | 168 => 134 | 210 => 149 | 37 => 22 | 0 => 0 | 127 => 154 | 145 => 157 | 143 => 155 | 2 => 2 | 171 => 124 | 53 => 49 | 5 => 5 | 173 => 127 | 212 => 139 | 51 => 140 | 20 => 20 | 213 => 141 | 46 => 51 | 232 => 158 | 233 => 159 | 80 => 160 | n => n, fun | 15 => 3 | 16 => 4 | 17 => 2 | 18 => 5 | 19 => 6 | n => n⟩
theorem Tryd.laysC245 : Go.Proofs.LaysC.n245 Tryd.prog Tryd.laysC245_ren := {
  mixed := by kernel_rfl
  f129 := Tryd.func118.trans (congrArg some (by kernel_rfl))
  f171 := Tryd.func62.trans (congrArg some (by kernel_rfl))
  f205 := Tryd.func134.trans (congrArg some (by kernel_rfl))
  f243 := Tryd.func97.trans (congrArg some (by kernel_rfl))
  f245 := Tryd.func91.trans (congrArg some (by kernel_rfl))
  f246 := Tryd.func60.trans (congrArg some (by kernel_rfl))
  f279 := Tryd.func113.trans (congrArg some (by kernel_rfl))
  f280 := Tryd.func114.trans (congrArg some (by kernel_rfl))
  f281 := Tryd.func115.trans (congrArg some (by kernel_rfl))
  f282 := Tryd.func116.trans (congrArg some (by kernel_rfl))
  f283 := Tryd.func92.trans (congrArg some (by kernel_rfl))
  f284 := Tryd.func93.trans (congrArg some (by kernel_rfl))
  f285 := Tryd.func94.trans (congrArg some (by kernel_rfl))
  f286 := Tryd.func95.trans (congrArg some (by kernel_rfl))
  f316 := Tryd.func133.trans (congrArg some (by kernel_rfl))
  f317 := Tryd.func117.trans (congrArg some (by kernel_rfl))
  f318 := Tryd.func119.trans (congrArg some (by kernel_rfl))
  f319 := Tryd.func120.trans (congrArg some (by kernel_rfl))
  f320 := Tryd.func121.trans (congrArg some (by kernel_rfl))
  f337 := Tryd.func135.trans (congrArg some (by kernel_rfl))
  f338 := Tryd.func136.trans (congrArg some (by kernel_rfl))
  t0 := Tryd.underlying0
  a0 := Tryd.isAgg0
  z0 := Tryd.sizeOf0
  v0 := Tryd.zeroValue0
  t2 := Tryd.underlying2
  a2 := Tryd.isAgg2
  z2 := Tryd.sizeOf2
  v2 := Tryd.zeroValue2
  t3 := Tryd.underlying3
  a3 := Tryd.isAgg3
  z3 := Tryd.sizeOf3
  v3 := Tryd.zeroValue3
  t4 := Tryd.underlying4
  a4 := Tryd.isAgg4
  z4 := Tryd.sizeOf4
  v4 := Tryd.zeroValue4
  t5 := Tryd.underlying5
  a5 := Tryd.isAgg5
  z5 := Tryd.sizeOf5
  v5 := Tryd.zeroValue5
  t9 := Tryd.underlying9
  a9 := Tryd.isAgg9
  z9 := Tryd.sizeOf9
  v9 := Tryd.zeroValue9
  t20 := Tryd.underlying20
  a20 := Tryd.isAgg20
  z20 := Tryd.sizeOf20
  v20 := Tryd.zeroValue20
  t37 := Tryd.underlying22
  a37 := Tryd.isAgg22
  z37 := Tryd.sizeOf22
  v37 := Tryd.zeroValue22
  t46 := Tryd.underlying51
  a46 := Tryd.isAgg51
  z46 := Tryd.sizeOf51
  v46 := Tryd.zeroValue51
  t51 := Tryd.underlying140
  a51 := Tryd.isAgg140
  z51 := Tryd.sizeOf140
  v51 := Tryd.zeroValue140
  t53 := Tryd.underlying49
  a53 := Tryd.isAgg49
  z53 := Tryd.sizeOf49
  v53 := Tryd.zeroValue49
  t75 := Tryd.underlying93
  a75 := Tryd.isAgg93
  z75 := Tryd.sizeOf93
  v75 := Tryd.zeroValue93
  t127 := Tryd.underlying154
  a127 := Tryd.isAgg154
  z127 := Tryd.sizeOf154
  v127 := Tryd.zeroValue154
  t143 := Tryd.underlying155
  a143 := Tryd.isAgg155
  z143 := Tryd.sizeOf155
  v143 := Tryd.zeroValue155
  t145 := Tryd.underlying157
  a145 := Tryd.isAgg157
  z145 := Tryd.sizeOf157
  v145 := Tryd.zeroValue157
  t167 := Tryd.underlying133
  a167 := Tryd.isAgg133
  z167 := Tryd.sizeOf133
  v167 := Tryd.zeroValue133
  t168 := Tryd.underlying134
  a168 := Tryd.isAgg134
  z168 := Tryd.sizeOf134
  v168 := Tryd.zeroValue134
  t171 := Tryd.underlying124
  a171 := Tryd.isAgg124
  z171 := Tryd.sizeOf124
  v171 := Tryd.zeroValue124
  t173 := Tryd.underlying127
  a173 := Tryd.isAgg127
  z173 := Tryd.sizeOf127
  v173 := Tryd.zeroValue127
  t210 := Tryd.underlying149
  a210 := Tryd.isAgg149
  z210 := Tryd.sizeOf149
  v210 := Tryd.zeroValue149
  t212 := Tryd.underlying139
  a212 := Tryd.isAgg139
  z212 := Tryd.sizeOf139
  v212 := Tryd.zeroValue139
  t213 := Tryd.underlying141
  a213 := Tryd.isAgg141
  z213 := Tryd.sizeOf141
  t232 := Tryd.underlying158
  a232 := Tryd.isAgg158
  z232 := Tryd.sizeOf158
  v232 := Tryd.zeroValue158
  t233 := Tryd.underlying159
  a233 := Tryd.isAgg159
  z233 := Tryd.sizeOf159
  v233 := Tryd.zeroValue159
  g15 := by kernel_rfl
  g16 := by kernel_rfl
  g17 := by kernel_rfl
  g18 := by kernel_rfl
  g19 := by kernel_rfl
  t80 := Tryd.underlying160
  a80 := Tryd.isAgg160
  z80 := Tryd.sizeOf160
  v80 := Tryd.zeroValue160
  i0 := by kernel_rfl
  i2 := by kernel_rfl
  i3 := by kernel_rfl
  i4 := by kernel_rfl
  i5 := by kernel_rfl
  i9 := by kernel_rfl
  i20 := by kernel_rfl
  i37 := by kernel_rfl
  i46 := by kernel_rfl
  i51 := by kernel_rfl
  i53 := by kernel_rfl
  i75 := by kernel_rfl
  i80 := by kernel_rfl
  i127 := by kernel_rfl
  i143 := by kernel_rfl
  i145 := by kernel_rfl
  i167 := by kernel_rfl
  i168 := by kernel_rfl
  i171 := by kernel_rfl
  i173 := by kernel_rfl
  i210 := by kernel_rfl
  i212 := by kernel_rfl
  i232 := by kernel_rfl
  i233 := by kernel_rfl
  m15 := by kernel_rfl
  m16 := by kernel_rfl
  m17 := by kernel_rfl
  m18 := by kernel_rfl
  m19 := by kernel_rfl
  c0 := by kernel_rfl
  c2 := by kernel_rfl
  c3 := by kernel_rfl
  c4 := by kernel_rfl
  c5 := by kernel_rfl
  c9 := by kernel_rfl
  c20 := by kernel_rfl
  c37 := by kernel_rfl
  c46 := by kernel_rfl
  c51 := by kernel_rfl
  c53 := by kernel_rfl
  c75 := by kernel_rfl
  c80 := by kernel_rfl
  c127 := by kernel_rfl
  c143 := by kernel_rfl
  c145 := by kernel_rfl
  c167 := by kernel_rfl
  c168 := by kernel_rfl
  c171 := by kernel_rfl
  c173 := by kernel_rfl
  c210 := by kernel_rfl
  c212 := by kernel_rfl
  c213 := by kernel_rfl
  c232 := by kernel_rfl
  c233 := by kernel_rfl }
end Go.Proofs
/- Doubles that hold a whole number times a power of two exactly. -/
namespace Go.Ev
set_option linter.all false
open Go
/-- The place of the last digit that is kept of m * 2^e. -/
def lastP (m : Nat) (e : Int) : Int := max (e + m.log2 - 52) (-1074)
/-- The word of m * 2^e (0 < m < 2^53, e at least -1074). -/
def dblN (m : Nat) (e : Int) : Nat := min ((lastP m e + 1074).toNat * 4503599627370496 + m * 2 ^ (e - lastP m e).toNat) 9218868437227405312
theorem log2_lt53 {m : Nat} (h0 : 0 < m) (h : m < 9007199254740992) : m.log2 ≤ 52 := by
  have : m.log2 < 53 := (Nat.log2_lt (by omega)).2 (by simpa using h)
  omega
theorem lastP_le {m : Nat} {e : Int} (h0 : 0 < m) (h : m < 9007199254740992) (he : -1074 ≤ e) : lastP m e ≤ e := by
  have := log2_lt53 h0 h
  unfold lastP; omega
theorem log2_mul_pow {m : Nat} (h0 : 0 < m) (k : Nat) : (m * 2 ^ k).log2 = m.log2 + k := by
  have hp : 0 < 2 ^ k := Nat.pos_of_ne_zero (by simp)
  have hm : 0 < m * 2 ^ k := Nat.mul_pos h0 hp
  have hlt : m < 2 ^ (m.log2 + 1) := Nat.lt_log2_self
  have hge : 2 ^ m.log2 ≤ m := Nat.log2_self_le (by omega)
  have a : (m * 2 ^ k).log2 < m.log2 + k + 1 := (Nat.log2_lt (by omega)).2 (by
    rw [show m.log2 + k + 1 = (m.log2 + 1) + k from by omega, Nat.pow_add]; exact Nat.mul_lt_mul_of_pos_right hlt hp)
  have b : ¬ (m * 2 ^ k).log2 < m.log2 + k := fun hc => by
    have := (Nat.log2_lt (by omega)).1 hc
    rw [Nat.pow_add] at this
    exact absurd (Nat.mul_le_mul_right (2 ^ k) hge) (by omega)
  omega
theorem cut_exact (n d : Nat) (h0 : 0 < n) : Ieee.Toward.even.cut false (n * 2 ^ d) d = n := by
  have h2 : 0 < 2 ^ d := Nat.pos_of_ne_zero (by simp)
  have hm : min d ((n * 2 ^ d).log2 + 2) = d := by rw [log2_mul_pow h0]; omega
  unfold Ieee.Toward.cut
  simp only [hm, Nat.one_shiftLeft, Nat.mul_mod_left, Nat.mul_div_left _ h2]
  have : ¬ (2 ^ d < 2 * 0) := by omega
  have h3 : (2 ^ d == 2 * 0) = false := by simp
  simp [this, h3]
theorem cut_zero (n : Nat) : Ieee.Toward.even.cut false n 0 = n := by
  unfold Ieee.Toward.cut
  have : (min 0 (n.log2 + 2)) = 0 := by omega
  simp [this, Nat.mod_one]
theorem nearest_exact (m : Nat) (e : Int) (k : Nat) (h0 : 0 < m) (h : m < 9007199254740992) (he : -1074 ≤ e) : Ieee.double.nearest false (m * 2 ^ k) (e - k) = dblN m e := by
  have hl := log2_lt53 h0 h
  have hle := lastP_le h0 h he
  have hp : m * 2 ^ k ≠ 0 := by have : 0 < 2 ^ k := Nat.pos_of_ne_zero (by simp)
                                exact Nat.ne_of_gt (Nat.mul_pos h0 this)
  have e1 : Ieee.double.leastPlace = -1074 := by rfl
  have e2 : Ieee.double.binade = 4503599627370496 := by rfl
  have e3 : Ieee.double.infRung = 9218868437227405312 := by rfl
  have e4 : Ieee.double.fractionBits = 52 := rfl
  have e5 : max (e - k + ((m * 2 ^ k).log2 : Nat) - (52 : Nat)) (-1074) = lastP m e := by rw [log2_mul_pow h0]; unfold lastP; omega
  unfold Ieee.Format.nearest
  rw [if_neg hp]
  simp only [e1, e2, e3, e4, e5]
  unfold Ieee.Format.word dblN
  simp only [Bool.false_eq_true, if_false]
  have e6 : (lastP m e - -1074).toNat = (lastP m e + 1074).toNat := by congr 1
  rw [e6]
  have key : Ieee.Toward.even.cut false ((m * 2 ^ k) <<< (e - k - lastP m e).toNat) (lastP m e - (e - k)).toNat = m * 2 ^ (e - lastP m e).toNat := by
    by_cases hk : (k : Int) ≤ e - lastP m e
    · have a1 : (lastP m e - (e - k)).toNat = 0 := by omega
      have a2 : k + (e - k - lastP m e).toNat = (e - lastP m e).toNat := by omega
      rw [a1, cut_zero, Nat.shiftLeft_eq, Nat.mul_assoc, ← Nat.pow_add, a2]
    · have a1 : (e - k - lastP m e).toNat = 0 := by omega
      have a2 : k = (e - lastP m e).toNat + (lastP m e - (e - k)).toNat := by omega
      rw [a1]
      have : (m * 2 ^ k) <<< 0 = (m * 2 ^ (e - lastP m e).toNat) * 2 ^ (lastP m e - (e - k)).toNat := by
        rw [Nat.shiftLeft_eq, Nat.pow_zero, Nat.mul_one, Nat.mul_assoc, ← Nat.pow_add, ← a2]
      rw [this, cut_exact]
      exact Nat.mul_pos h0 (Nat.pos_of_ne_zero (by simp))
  rw [key]
theorem pow_le52 {m : Nat} {e : Int} (h0 : 0 < m) (h : m < 9007199254740992) (he : -1074 ≤ e) : m * 2 ^ (e - lastP m e).toNat < 9007199254740992 ∧ (-1074 < lastP m e → 4503599627370496 ≤ m * 2 ^ (e - lastP m e).toNat) := by
  have hl := log2_lt53 h0 h
  have hle := lastP_le h0 h he
  have hlt : m < 2 ^ (m.log2 + 1) := Nat.lt_log2_self
  have hge : 2 ^ m.log2 ≤ m := Nat.log2_self_le (by omega)
  constructor
  · have : (e - lastP m e).toNat ≤ 52 - m.log2 := by unfold lastP; omega
    calc m * 2 ^ (e - lastP m e).toNat < 2 ^ (m.log2 + 1) * 2 ^ (e - lastP m e).toNat := Nat.mul_lt_mul_of_pos_right hlt (Nat.pos_of_ne_zero (by simp))
      _ = 2 ^ (m.log2 + 1 + (e - lastP m e).toNat) := (Nat.pow_add _ _ _).symm
      _ ≤ 2 ^ 53 := Nat.pow_le_pow_right (by omega) (by omega)
      _ = 9007199254740992 := by rfl
  · intro hg
    have : (e - lastP m e).toNat = 52 - m.log2 := by unfold lastP at *; omega
    rw [this]
    calc 4503599627370496 = 2 ^ (m.log2 + (52 - m.log2)) := by rw [show m.log2 + (52 - m.log2) = 52 from by omega]
      _ = 2 ^ m.log2 * 2 ^ (52 - m.log2) := by rw [Nat.pow_add]
      _ ≤ m * 2 ^ (52 - m.log2) := Nat.mul_le_mul_right _ hge
theorem fin_iff {m : Nat} {e : Int} (h0 : 0 < m) (h : m < 9007199254740992) (he : -1074 ≤ e) : (e + m.log2 ≤ 1023 → (lastP m e + 1074).toNat * 4503599627370496 + m * 2 ^ (e - lastP m e).toNat < 9218868437227405312) ∧ (1024 ≤ e + m.log2 → 9218868437227405312 ≤ (lastP m e + 1074).toNat * 4503599627370496 + m * 2 ^ (e - lastP m e).toNat) := by
  have hl := log2_lt53 h0 h
  have hle := lastP_le h0 h he
  have hp := pow_le52 h0 h he
  generalize m * 2 ^ (e - lastP m e).toNat = K at *
  constructor
  · intro hf
    have : lastP m e ≤ 971 := by unfold lastP; omega
    omega
  · intro hf
    have h2 : 972 ≤ lastP m e := by unfold lastP; omega
    have := hp.2 (by omega)
    omega
theorem read_dbl {m : Nat} {e : Int} (h0 : 0 < m) (h : m < 9007199254740992) (he : -1074 ≤ e) (hf : e + m.log2 ≤ 1023) : Ieee.double.read (dblN m e) = .number false (m * 2 ^ (e - lastP m e).toNat) (lastP m e) := by
  have hlt := (fin_iff h0 h he).1 hf
  have hp := pow_le52 h0 h he
  have hge : -1074 ≤ lastP m e := by unfold lastP; omega
  have hd : dblN m e = (lastP m e + 1074).toNat * 4503599627370496 + m * 2 ^ (e - lastP m e).toNat := by unfold dblN; omega
  have e1 : Ieee.double.leastPlace = -1074 := by rfl
  have e2 : Ieee.double.binade = 4503599627370496 := by rfl
  have e3 : Ieee.double.infRung = 9218868437227405312 := by rfl
  have e4 : Ieee.double.signWeight = 9223372036854775808 := by rfl
  rw [hd]
  unfold Ieee.Format.read
  simp only [e1, e2, e3, e4]
  generalize m * 2 ^ (e - lastP m e).toNat = K at *
  generalize lastP m e = L at *
  have b1 : ((L + 1074).toNat * 4503599627370496 + K) / 9223372036854775808 = 0 := Nat.div_eq_of_lt (by omega)
  have b2 : ((L + 1074).toNat * 4503599627370496 + K) % 9223372036854775808 = (L + 1074).toNat * 4503599627370496 + K := Nat.mod_eq_of_lt (by omega)
  rw [b1, b2]
  have b3 : ((0 % 2 : Nat) == 1) = false := by rfl
  rw [b3]
  by_cases hs : (L + 1074).toNat * 4503599627370496 + K < 4503599627370496
  · rw [if_pos hs]
    have : L = -1074 := by omega
    subst this
    simp
  · rw [if_neg hs, if_pos hlt]
    by_cases hK : 4503599627370496 ≤ K
    · have c1 : 4503599627370496 + ((L + 1074).toNat * 4503599627370496 + K) % 4503599627370496 = K := by omega
      have c2 : (-1074 : Int) + ((((L + 1074).toNat * 4503599627370496 + K) / 4503599627370496 - 1 : Nat) : Int) = L := by omega
      rw [c1, c2]
    · have : L = -1074 := by
        rcases Int.lt_or_le (-1074) L with hne | hne
        · exact absurd (hp.2 hne) hK
        · omega
      omega
theorem dbl_inf {m : Nat} {e : Int} (h0 : 0 < m) (h : m < 9007199254740992) (he : -1074 ≤ e) (hf : 1024 ≤ e + m.log2) : dblN m e = 9218868437227405312 := by
  have := (fin_iff h0 h he).2 hf
  unfold dblN; omega
theorem mul_two {m : Nat} {e : Int} (h0 : 0 < m) (h : m < 9007199254740992) (he : -1074 ≤ e) : Ieee.double.mul (dblN m e) 4611686018427387904 = some (dblN m (e + 1)) := by
  have r2 : Ieee.double.read 4611686018427387904 = .number false 4503599627370496 (-51) := by rfl
  unfold Ieee.Format.mul
  rw [r2]
  by_cases hf : e + m.log2 ≤ 1023
  · rw [read_dbl h0 h he hf]
    have hle := lastP_le h0 h he
    simp only [Ieee.Datum.product, Option.map_some, Ieee.Format.write]
    have a1 : m * 2 ^ (e - lastP m e).toNat * 4503599627370496 = m * 2 ^ ((e - lastP m e).toNat + 52) := by
      rw [Nat.pow_add, Nat.mul_assoc]
    have a2 : lastP m e + -51 = (e + 1) - (((e - lastP m e).toNat + 52 : Nat) : Int) := by omega
    rw [a1, a2, show (false ^^ false) = false from rfl, nearest_exact m (e + 1) _ h0 h (by omega)]
  · rw [dbl_inf h0 h he (by omega), dbl_inf h0 h (by omega) (by omega)]
    rfl
theorem div_two {m : Nat} {e : Int} (h0 : 0 < m) (h : m < 9007199254740992) (he : -1073 ≤ e) (hf : e + m.log2 ≤ 1023) : Ieee.double.div (dblN m e) 4611686018427387904 = some (dblN m (e - 1)) := by
  have r2 : Ieee.double.read 4611686018427387904 = .number false 4503599627370496 (-51) := by rfl
  have hle := lastP_le h0 h (by omega : -1074 ≤ e)
  have hK := (pow_le52 h0 h (by omega : -1074 ≤ e)).1
  have hK0 : 0 < m * 2 ^ (e - lastP m e).toNat := Nat.mul_pos h0 (Nat.pos_of_ne_zero (by simp))
  unfold Ieee.Format.div
  rw [r2, read_dbl h0 h (by omega) hf]
  have hlg := log2_lt53 hK0 hK
  have l2 : (4503599627370496 : Nat).log2 = 52 := by rfl
  have f52 : Ieee.double.fractionBits = 52 := rfl
  simp only [Ieee.Datum.quotient, l2, f52, Option.map_some, Ieee.Format.write]
  rw [if_neg (by omega)]
  generalize hM : m * 2 ^ (e - lastP m e).toNat = M at *
  have hmore : 54 ≤ 52 + 2 + 52 - M.log2 := by omega
  generalize 52 + 2 + 52 - M.log2 = more at *
  have d1 : M <<< more = (M * 2 ^ (more - 52)) * 4503599627370496 := by
    rw [Nat.shiftLeft_eq, Nat.mul_assoc, show (4503599627370496 : Nat) = 2 ^ 52 from rfl, ← Nat.pow_add, show more - 52 + 52 = more from by omega]
  rw [d1, Nat.mul_div_cancel _ (by omega), Nat.mul_mod_left]
  have d2 : 2 * (M * 2 ^ (more - 52)) + ((0 : Nat) != 0).toNat = m * 2 ^ ((e - lastP m e).toNat + (more - 51)) := by
    rw [← hM, Nat.pow_add, ← Nat.mul_assoc, show more - 51 = (more - 52) + 1 from by omega, Nat.pow_succ]
    have : ((0 : Nat) != 0).toNat = 0 := rfl
    rw [this]
    rw [Nat.add_zero]; ac_rfl
  have d3 : lastP m e - -51 - (more : Int) - 1 = (e - 1) - (((e - lastP m e).toNat + (more - 51) : Nat) : Int) := by omega
  have d4 : (Ieee.double.nearest false (m * 2 ^ ((e - lastP m e).toNat + (more - 51))) ((e - 1) - (((e - lastP m e).toNat + (more - 51) : Nat) : Int))) = dblN m (e - 1) := nearest_exact m (e - 1) _ h0 h (by omega)
  simp only [Option.map_some, Ieee.Format.write, show (false ^^ false) = false from rfl]
  rw [d2, d3, d4]
end Go.Ev
namespace Go.Proofs.YtplnhipgifcafaaDoor
set_option linter.all false
open Go Go.Ev
theorem tyS : aggT Tryd.prog 2 = some false ∧
    aggT Tryd.prog 22 = some false ∧
    aggT Tryd.prog 3 = some false ∧
    aggT Tryd.prog 31 = some false ∧
    aggT Tryd.prog 33 = some true ∧
    aggT Tryd.prog 37 = some false ∧
    aggT Tryd.prog 5 = some false ∧
    aggT Tryd.prog 63 = some true ∧
    aggT Tryd.prog 9 = some false ∧
    appT Tryd.prog 22 22 = some (5, 1, 1) ∧
    appT Tryd.prog 24 24 = some (63, 6, 56) ∧
    appT Tryd.prog 37 37 = some (33, 6, 56) ∧
    elemT Tryd.prog 22 = some 5 ∧
    elemT Tryd.prog 24 = some 63 ∧
    elemT Tryd.prog 37 = some 33 ∧
    fieldT Tryd.prog 33 0 = some (0, 3) ∧
    fieldT Tryd.prog 33 1 = some (1, 9) ∧
    fieldT Tryd.prog 33 2 = some (2, 2) ∧
    fieldT Tryd.prog 33 3 = some (3, 31) ∧
    fieldT Tryd.prog 33 4 = some (4, 3) ∧
    fieldT Tryd.prog 33 5 = some (5, 3) ∧
    fieldT Tryd.prog 63 0 = some (0, 3) ∧
    fieldT Tryd.prog 63 1 = some (1, 9) ∧
    fieldT Tryd.prog 63 2 = some (2, 2) ∧
    fieldT Tryd.prog 63 3 = some (3, 31) ∧
    fieldT Tryd.prog 63 4 = some (4, 3) ∧
    fieldT Tryd.prog 63 5 = some (5, 3) ∧
    fltT Tryd.prog 2 = none ∧
    fltT Tryd.prog 21 = none ∧
    fltT Tryd.prog 22 = none ∧
    fltT Tryd.prog 3 = none ∧
    fltT Tryd.prog 31 = some .f64 ∧
    fltT Tryd.prog 49 = none ∧
    fltT Tryd.prog 5 = none ∧
    fltT Tryd.prog 9 = none ∧
    intT Tryd.prog 2 = some .i64 ∧
    intT Tryd.prog 21 = some .i32 ∧
    intT Tryd.prog 22 = none ∧
    intT Tryd.prog 3 = some .i64 ∧
    intT Tryd.prog 31 = none ∧
    intT Tryd.prog 49 = some .u64 ∧
    intT Tryd.prog 5 = some .u8 ∧
    intT Tryd.prog 9 = none ∧
    mkT Tryd.prog 22 = some (5, 1, [.v (.int .u8 0)]) ∧
    mkT Tryd.prog 24 = some (63, 6, [.v (.int .i64 0), .v (.string ⟨#[]⟩), .v (.int .i64 0), .v (.float .f64 0), .v (.int .i64 0), .v (.int .i64 0)]) ∧
    mkT Tryd.prog 37 = some (33, 6, [.v (.int .i64 0), .v (.string ⟨#[]⟩), .v (.int .i64 0), .v (.float .f64 0), .v (.int .i64 0), .v (.int .i64 0)]) ∧
    placesT Tryd.prog 33 = some [(0, 1), (1, 1), (2, 1), (3, 1), (4, 1), (5, 1)] ∧
    placesT Tryd.prog 63 = some [(0, 1), (1, 1), (2, 1), (3, 1), (4, 1), (5, 1)] ∧
    sizeT Tryd.prog 2 = some 1 ∧
    sizeT Tryd.prog 25 = some 1 ∧
    sizeT Tryd.prog 3 = some 1 ∧
    sizeT Tryd.prog 31 = some 1 ∧
    sizeT Tryd.prog 33 = some 6 ∧
    sizeT Tryd.prog 37 = some 1 ∧
    sizeT Tryd.prog 5 = some 1 ∧
    sizeT Tryd.prog 63 = some 6 ∧
    sizeT Tryd.prog 9 = some 1 ∧
    strT Tryd.prog 2 = false ∧
    strT Tryd.prog 21 = false ∧
    strT Tryd.prog 22 = false ∧
    strT Tryd.prog 3 = false ∧
    strT Tryd.prog 31 = false ∧
    strT Tryd.prog 49 = false ∧
    strT Tryd.prog 5 = false ∧
    strT Tryd.prog 9 = true ∧
    (Tryd.prog.underlying 2).isSome = true ∧
    (Tryd.prog.underlying 21).isSome = true ∧
    (Tryd.prog.underlying 22).isSome = true ∧
    (Tryd.prog.underlying 3).isSome = true ∧
    (Tryd.prog.underlying 49).isSome = true ∧
    (Tryd.prog.underlying 5).isSome = true ∧
    zcT Tryd.prog 25 = some [.v (.int .i64 0)] ∧
    zcT Tryd.prog 3 = some [.v (.int .i64 0)] ∧
    zcT Tryd.prog 33 = some [.v (.int .i64 0), .v (.string ⟨#[]⟩), .v (.int .i64 0), .v (.float .f64 0), .v (.int .i64 0), .v (.int .i64 0)] ∧
    zcT Tryd.prog 37 = some [.v (.slice none 0 0)] ∧
    zcT Tryd.prog 63 = some [.v (.int .i64 0), .v (.string ⟨#[]⟩), .v (.int .i64 0), .v (.float .f64 0), .v (.int .i64 0), .v (.int .i64 0)] :=
  ⟨by kernel_rfl, by kernel_rfl, by kernel_rfl, by kernel_rfl, by kernel_rfl, by kernel_rfl, by kernel_rfl, by kernel_rfl, by kernel_rfl, by kernel_rfl, by kernel_rfl, by kernel_rfl, by kernel_rfl, by kernel_rfl, by kernel_rfl, by kernel_rfl, by kernel_rfl, by kernel_rfl, by kernel_rfl, by kernel_rfl, by kernel_rfl, by kernel_rfl, by kernel_rfl, by kernel_rfl, by kernel_rfl, by kernel_rfl, by kernel_rfl, by kernel_rfl, by kernel_rfl, by kernel_rfl, by kernel_rfl, by kernel_rfl, by kernel_rfl, by kernel_rfl, by kernel_rfl, by kernel_rfl, by kernel_rfl, by kernel_rfl, by kernel_rfl, by kernel_rfl, by kernel_rfl, by kernel_rfl, by kernel_rfl, by kernel_rfl, by kernel_rfl, by kernel_rfl, by kernel_rfl, by kernel_rfl, by kernel_rfl, by kernel_rfl, by kernel_rfl, by kernel_rfl, by kernel_rfl, by kernel_rfl, by kernel_rfl, by kernel_rfl, by kernel_rfl, by kernel_rfl, by kernel_rfl, by kernel_rfl, by kernel_rfl, by kernel_rfl, by kernel_rfl, by kernel_rfl, by kernel_rfl, by kernel_rfl, by kernel_rfl, by kernel_rfl, by kernel_rfl, by kernel_rfl, by kernel_rfl, by kernel_rfl, by kernel_rfl, by kernel_rfl, by kernel_rfl, by kernel_rfl⟩
end Go.Proofs.YtplnhipgifcafaaDoor
namespace Go.Proofs.YtplnhipgifcafaaDoor
set_option linter.all false
open Go Go.Ev
variable {γ : List (Nat × AV)}
def letterN (n : Nat) : Bool := decide (97 ≤ n ∧ n ≤ 122 ∨ 65 ≤ n ∧ n ≤ 90)
def digitN (n : Nat) : Bool := decide (48 ≤ n ∧ n ≤ 57)
def nameN (n : Nat) : Bool := letterN n || digitN n || decide (n = 95)
theorem b45 : bodyT Tryd.prog 45 := ⟨_, Tryd.func45, by kernel_rfl, by kernel_rfl⟩
theorem b47 : bodyT Tryd.prog 47 := ⟨_, Tryd.func47, by kernel_rfl, by kernel_rfl⟩
theorem b69 : bodyT Tryd.prog 69 := ⟨_, Tryd.func69, by kernel_rfl, by kernel_rfl⟩
theorem b71 : bodyT Tryd.prog 71 := ⟨_, Tryd.func71, by kernel_rfl, by kernel_rfl⟩
theorem b70 : bodyT Tryd.prog 70 := ⟨_, Tryd.func70, by kernel_rfl, by kernel_rfl⟩
theorem b40 : bodyT Tryd.prog 40 := ⟨_, Tryd.func40, by kernel_rfl, by kernel_rfl⟩
theorem b41 : bodyT Tryd.prog 41 := ⟨_, Tryd.func41, by kernel_rfl, by kernel_rfl⟩
theorem b28 : bodyT Tryd.prog 28 := ⟨_, Tryd.func28, by kernel_rfl, by kernel_rfl⟩
theorem b64 : bodyT Tryd.prog 64 := ⟨_, Tryd.func64, by kernel_rfl, by kernel_rfl⟩
theorem b99 : bodyT Tryd.prog 99 := ⟨_, Tryd.func99, by kernel_rfl, by kernel_rfl⟩
theorem lexLetter_ev (n : Nat) : Ev Tryd.prog γ 45 [.v (.int .u8 n)] (.v (.bool (letterN n))) := by
  refine Ev.of Tryd.func45 rfl ?_
  simp only [Tryd.f45, evS, tyS, Bool.not_true, Bool.not_false, Nat.reduceAdd, Nat.reduceSub, Nat.reduceMul, Nat.reduceLT, Nat.reduceLeDiff, Nat.reduceEqDiff, reduceCtorEq, List.reduceReplicate, Int.reduceToNat, Int.reduceLE, Int.reduceLT]
  (repeat' (first | (with_reducible refine And.intro ?_ ?_) | ((first | refine GuardK.intro_f (fun h => ?_) (fun h => ?_) | refine GuardK.intro_t (fun h => ?_) (fun h => ?_) | refine CondK.intro (fun h => ?_) (fun h => ?_) | refine PickK.intro (fun h => ?_) (fun h => ?_)) <;> simp only [h, evS, tyS, Bool.not_true, Bool.not_false, Nat.reduceAdd, Nat.reduceSub, Nat.reduceMul, Nat.reduceLT, Nat.reduceLeDiff, Nat.reduceEqDiff, reduceCtorEq, List.reduceReplicate, Int.reduceToNat, Int.reduceLE, Int.reduceLT]) | (refine DrawK.intro (by kernel_rfl) (by kernel_rfl) ?_; simp only [evS, tyS, Bool.not_true, Bool.not_false, Nat.reduceAdd, Nat.reduceSub, Nat.reduceMul, Nat.reduceLT, Nat.reduceLeDiff, Nat.reduceEqDiff, reduceCtorEq, List.reduceReplicate, Int.reduceToNat, Int.reduceLE, Int.reduceLT])))
  all_goals (((try simp only [decide_eq_true_eq, decide_eq_false_iff_not, beq_iff_eq, bne_iff_ne, ne_eq, beq_eq_false_iff_ne, bne_eq_false_iff_eq] at *) <;> (try omega)) <;> simp only [letterN, AV.v.injEq, Value.bool.injEq] <;> first | exact (decide_eq_true (by omega)).symm | exact (decide_eq_false (by omega)).symm | exact decide_eq_decide.2 (by omega))
theorem lexDigit_ev (n : Nat) : Ev Tryd.prog γ 47 [.v (.int .u8 n)] (.v (.bool (digitN n))) := by
  refine Ev.of Tryd.func47 rfl ?_
  simp only [Tryd.f47, evS, tyS, Bool.not_true, Bool.not_false, Nat.reduceAdd, Nat.reduceSub, Nat.reduceMul, Nat.reduceLT, Nat.reduceLeDiff, Nat.reduceEqDiff, reduceCtorEq, List.reduceReplicate, Int.reduceToNat, Int.reduceLE, Int.reduceLT]
  (repeat' (first | (with_reducible refine And.intro ?_ ?_) | ((first | refine GuardK.intro_f (fun h => ?_) (fun h => ?_) | refine GuardK.intro_t (fun h => ?_) (fun h => ?_) | refine CondK.intro (fun h => ?_) (fun h => ?_) | refine PickK.intro (fun h => ?_) (fun h => ?_)) <;> simp only [h, evS, tyS, Bool.not_true, Bool.not_false, Nat.reduceAdd, Nat.reduceSub, Nat.reduceMul, Nat.reduceLT, Nat.reduceLeDiff, Nat.reduceEqDiff, reduceCtorEq, List.reduceReplicate, Int.reduceToNat, Int.reduceLE, Int.reduceLT]) | (refine DrawK.intro (by kernel_rfl) (by kernel_rfl) ?_; simp only [evS, tyS, Bool.not_true, Bool.not_false, Nat.reduceAdd, Nat.reduceSub, Nat.reduceMul, Nat.reduceLT, Nat.reduceLeDiff, Nat.reduceEqDiff, reduceCtorEq, List.reduceReplicate, Int.reduceToNat, Int.reduceLE, Int.reduceLT])))
  all_goals (((try simp only [decide_eq_true_eq, decide_eq_false_iff_not, beq_iff_eq, bne_iff_ne, ne_eq, beq_eq_false_iff_ne, bne_eq_false_iff_eq] at *) <;> (try omega)) <;> simp only [digitN, AV.v.injEq, Value.bool.injEq] <;> first | exact (decide_eq_true (by omega)).symm | exact (decide_eq_false (by omega)).symm | exact decide_eq_decide.2 (by omega))
theorem refLetter_ev (n : Nat) : Ev Tryd.prog γ 40 [.v (.int .u8 n)] (.v (.bool (letterN n))) := by
  refine Ev.of Tryd.func40 rfl ?_
  simp only [Tryd.f40, evS, tyS, Bool.not_true, Bool.not_false, Nat.reduceAdd, Nat.reduceSub, Nat.reduceMul, Nat.reduceLT, Nat.reduceLeDiff, Nat.reduceEqDiff, reduceCtorEq, List.reduceReplicate, Int.reduceToNat, Int.reduceLE, Int.reduceLT]
  (repeat' (first | (with_reducible refine And.intro ?_ ?_) | ((first | refine GuardK.intro_f (fun h => ?_) (fun h => ?_) | refine GuardK.intro_t (fun h => ?_) (fun h => ?_) | refine CondK.intro (fun h => ?_) (fun h => ?_) | refine PickK.intro (fun h => ?_) (fun h => ?_)) <;> simp only [h, evS, tyS, Bool.not_true, Bool.not_false, Nat.reduceAdd, Nat.reduceSub, Nat.reduceMul, Nat.reduceLT, Nat.reduceLeDiff, Nat.reduceEqDiff, reduceCtorEq, List.reduceReplicate, Int.reduceToNat, Int.reduceLE, Int.reduceLT]) | (refine DrawK.intro (by kernel_rfl) (by kernel_rfl) ?_; simp only [evS, tyS, Bool.not_true, Bool.not_false, Nat.reduceAdd, Nat.reduceSub, Nat.reduceMul, Nat.reduceLT, Nat.reduceLeDiff, Nat.reduceEqDiff, reduceCtorEq, List.reduceReplicate, Int.reduceToNat, Int.reduceLE, Int.reduceLT])))
  all_goals (((try simp only [decide_eq_true_eq, decide_eq_false_iff_not, beq_iff_eq, bne_iff_ne, ne_eq, beq_eq_false_iff_ne, bne_eq_false_iff_eq] at *) <;> (try omega)) <;> simp only [letterN, AV.v.injEq, Value.bool.injEq] <;> first | exact (decide_eq_true (by omega)).symm | exact (decide_eq_false (by omega)).symm | exact decide_eq_decide.2 (by omega))
theorem refDigit_ev (n : Nat) : Ev Tryd.prog γ 41 [.v (.int .u8 n)] (.v (.bool (digitN n))) := by
  refine Ev.of Tryd.func41 rfl ?_
  simp only [Tryd.f41, evS, tyS, Bool.not_true, Bool.not_false, Nat.reduceAdd, Nat.reduceSub, Nat.reduceMul, Nat.reduceLT, Nat.reduceLeDiff, Nat.reduceEqDiff, reduceCtorEq, List.reduceReplicate, Int.reduceToNat, Int.reduceLE, Int.reduceLT]
  (repeat' (first | (with_reducible refine And.intro ?_ ?_) | ((first | refine GuardK.intro_f (fun h => ?_) (fun h => ?_) | refine GuardK.intro_t (fun h => ?_) (fun h => ?_) | refine CondK.intro (fun h => ?_) (fun h => ?_) | refine PickK.intro (fun h => ?_) (fun h => ?_)) <;> simp only [h, evS, tyS, Bool.not_true, Bool.not_false, Nat.reduceAdd, Nat.reduceSub, Nat.reduceMul, Nat.reduceLT, Nat.reduceLeDiff, Nat.reduceEqDiff, reduceCtorEq, List.reduceReplicate, Int.reduceToNat, Int.reduceLE, Int.reduceLT]) | (refine DrawK.intro (by kernel_rfl) (by kernel_rfl) ?_; simp only [evS, tyS, Bool.not_true, Bool.not_false, Nat.reduceAdd, Nat.reduceSub, Nat.reduceMul, Nat.reduceLT, Nat.reduceLeDiff, Nat.reduceEqDiff, reduceCtorEq, List.reduceReplicate, Int.reduceToNat, Int.reduceLE, Int.reduceLT])))
  all_goals (((try simp only [decide_eq_true_eq, decide_eq_false_iff_not, beq_iff_eq, bne_iff_ne, ne_eq, beq_eq_false_iff_ne, bne_eq_false_iff_eq] at *) <;> (try omega)) <;> simp only [digitN, AV.v.injEq, Value.bool.injEq] <;> first | exact (decide_eq_true (by omega)).symm | exact (decide_eq_false (by omega)).symm | exact decide_eq_decide.2 (by omega))
theorem lexInName_ev (n : Nat) : Ev Tryd.prog γ 69 [.v (.int .u8 n)] (.v (.bool (nameN n))) := by
  refine Ev.of Tryd.func69 rfl ?_
  simp only [Tryd.f69, evS, tyS, Bool.not_true, Bool.not_false, Nat.reduceAdd, Nat.reduceSub, Nat.reduceMul, Nat.reduceLT, Nat.reduceLeDiff, Nat.reduceEqDiff, reduceCtorEq, List.reduceReplicate, Int.reduceToNat, Int.reduceLE, Int.reduceLT]
  refine CallK.intro b45 rfl (lexLetter_ev n) ?_
  simp only [evS, tyS, Bool.not_true, Bool.not_false, Nat.reduceAdd, Nat.reduceSub, Nat.reduceMul, Nat.reduceLT, Nat.reduceLeDiff, Nat.reduceEqDiff, reduceCtorEq, List.reduceReplicate, Int.reduceToNat, Int.reduceLE, Int.reduceLT]
  refine GuardK.intro_f (fun h => ?_) (fun h => ?_) <;> simp only [h, evS, tyS, Bool.not_true, Bool.not_false, Nat.reduceAdd, Nat.reduceSub, Nat.reduceMul, Nat.reduceLT, Nat.reduceLeDiff, Nat.reduceEqDiff, reduceCtorEq, List.reduceReplicate, Int.reduceToNat, Int.reduceLE, Int.reduceLT]
  · refine CallK.intro b47 rfl (lexDigit_ev n) ?_
    simp only [evS, tyS, Bool.not_true, Bool.not_false, Nat.reduceAdd, Nat.reduceSub, Nat.reduceMul, Nat.reduceLT, Nat.reduceLeDiff, Nat.reduceEqDiff, reduceCtorEq, List.reduceReplicate, Int.reduceToNat, Int.reduceLE, Int.reduceLT]
    (repeat' (first | (with_reducible refine And.intro ?_ ?_) | ((first | refine GuardK.intro_f (fun h => ?_) (fun h => ?_) | refine GuardK.intro_t (fun h => ?_) (fun h => ?_) | refine CondK.intro (fun h => ?_) (fun h => ?_) | refine PickK.intro (fun h => ?_) (fun h => ?_)) <;> simp only [h, evS, tyS, Bool.not_true, Bool.not_false, Nat.reduceAdd, Nat.reduceSub, Nat.reduceMul, Nat.reduceLT, Nat.reduceLeDiff, Nat.reduceEqDiff, reduceCtorEq, List.reduceReplicate, Int.reduceToNat, Int.reduceLE, Int.reduceLT]) | (refine DrawK.intro (by kernel_rfl) (by kernel_rfl) ?_; simp only [evS, tyS, Bool.not_true, Bool.not_false, Nat.reduceAdd, Nat.reduceSub, Nat.reduceMul, Nat.reduceLT, Nat.reduceLeDiff, Nat.reduceEqDiff, reduceCtorEq, List.reduceReplicate, Int.reduceToNat, Int.reduceLE, Int.reduceLT])))
    all_goals (((try simp only [decide_eq_true_eq, decide_eq_false_iff_not, beq_iff_eq, bne_iff_ne, ne_eq, beq_eq_false_iff_ne, bne_eq_false_iff_eq] at *) <;> (try omega)) <;> simp only [nameN]; simp [*] <;> first | (rw [Bool.eq_iff_iff]; simp; omega) | omega)
  · (repeat' (first | (with_reducible refine And.intro ?_ ?_) | ((first | refine GuardK.intro_f (fun h => ?_) (fun h => ?_) | refine GuardK.intro_t (fun h => ?_) (fun h => ?_) | refine CondK.intro (fun h => ?_) (fun h => ?_) | refine PickK.intro (fun h => ?_) (fun h => ?_)) <;> simp only [h, evS, tyS, Bool.not_true, Bool.not_false, Nat.reduceAdd, Nat.reduceSub, Nat.reduceMul, Nat.reduceLT, Nat.reduceLeDiff, Nat.reduceEqDiff, reduceCtorEq, List.reduceReplicate, Int.reduceToNat, Int.reduceLE, Int.reduceLT]) | (refine DrawK.intro (by kernel_rfl) (by kernel_rfl) ?_; simp only [evS, tyS, Bool.not_true, Bool.not_false, Nat.reduceAdd, Nat.reduceSub, Nat.reduceMul, Nat.reduceLT, Nat.reduceLeDiff, Nat.reduceEqDiff, reduceCtorEq, List.reduceReplicate, Int.reduceToNat, Int.reduceLE, Int.reduceLT])))
    all_goals (((try simp only [decide_eq_true_eq, decide_eq_false_iff_not, beq_iff_eq, bne_iff_ne, ne_eq, beq_eq_false_iff_ne, bne_eq_false_iff_eq] at *) <;> (try omega)) <;> simp only [nameN]; simp [*] <;> first | (rw [Bool.eq_iff_iff]; simp; omega) | omega)
/-- The byte at a place; 0 behind the end. -/
def atL (l : List UInt8) (i : Nat) : Nat := (l.getD i 0).toNat
theorem lexAt_ev (b : Bool) (l : List UInt8) (i : Nat) : Ev Tryd.prog γ 71 [.sl b l.length l.length (l.map byteC), .v (.int .i64 i)] (.v (.int .u8 (atL l i))) := by
  refine Ev.of Tryd.func71 rfl ?_
  simp only [Tryd.f71, evS, tyS, Bool.not_true, Bool.not_false, Nat.reduceAdd, Nat.reduceSub, Nat.reduceMul, Nat.reduceLT, Nat.reduceLeDiff, Nat.reduceEqDiff, reduceCtorEq, List.reduceReplicate, Int.reduceToNat, Int.reduceLE, Int.reduceLT]
  (repeat' (first | (with_reducible refine And.intro ?_ ?_) | ((first | refine GuardK.intro_f (fun h => ?_) (fun h => ?_) | refine GuardK.intro_t (fun h => ?_) (fun h => ?_) | refine CondK.intro (fun h => ?_) (fun h => ?_) | refine PickK.intro (fun h => ?_) (fun h => ?_)) <;> simp only [h, evS, tyS, Bool.not_true, Bool.not_false, Nat.reduceAdd, Nat.reduceSub, Nat.reduceMul, Nat.reduceLT, Nat.reduceLeDiff, Nat.reduceEqDiff, reduceCtorEq, List.reduceReplicate, Int.reduceToNat, Int.reduceLE, Int.reduceLT]) | (refine DrawK.intro (by kernel_rfl) (by kernel_rfl) ?_; simp only [evS, tyS, Bool.not_true, Bool.not_false, Nat.reduceAdd, Nat.reduceSub, Nat.reduceMul, Nat.reduceLT, Nat.reduceLeDiff, Nat.reduceEqDiff, reduceCtorEq, List.reduceReplicate, Int.reduceToNat, Int.reduceLE, Int.reduceLT])))
  all_goals (((try simp only [decide_eq_true_eq, decide_eq_false_iff_not, beq_iff_eq, bne_iff_ne, ne_eq, beq_eq_false_iff_ne, bne_eq_false_iff_eq] at *) <;> (try omega)); try rfl)
  simp only [atL, List.getD]
  rw [List.getElem?_eq_none (by omega)]
  rfl
/-- Behind how many digits from a place on it goes on. -/
def digitsEnd (l : List UInt8) (i : Nat) : Nat := i + ((l.drop i).takeWhile fun c => digitN c.toNat).length
theorem digitsEnd_step {l : List UInt8} {i : Nat} (h : digitN (atL l i) = true) : digitsEnd l i = digitsEnd l (i + 1) ∧ i < l.length := by
  have hi : i < l.length := by
    by_cases hi : i < l.length
    · exact hi
    · have e : atL l i = 0 := by simp only [atL, List.getD]; rw [List.getElem?_eq_none (by omega)]; rfl
      rw [e] at h; exact absurd h (by decide)
  refine ⟨?_, hi⟩
  have e : l.drop i = l[i] :: l.drop (i + 1) := List.drop_eq_getElem_cons hi
  have e2 : atL l i = l[i].toNat := by simp [atL, List.getD, hi]
  rw [e2] at h
  unfold digitsEnd
  rw [e, List.takeWhile_cons, if_pos h]
  simp only [List.length_cons]; omega
theorem digitsEnd_stop {l : List UInt8} {i : Nat} (h : digitN (atL l i) = false) : digitsEnd l i = i := by
  unfold digitsEnd
  by_cases hi : i < l.length
  · have e : l.drop i = l[i] :: l.drop (i + 1) := List.drop_eq_getElem_cons hi
    have e2 : atL l i = l[i].toNat := by simp [atL, List.getD, hi]
    rw [e2] at h
    rw [e, List.takeWhile_cons, if_neg (by simp [h])]; rfl
  · rw [List.drop_eq_nil_of_le (by omega)]; rfl
theorem lexDigits_ev (b : Bool) (l : List UInt8) (i : Nat) (hl : l.length ≤ 140737488355328) (hi : i ≤ 140737488355330) : Ev Tryd.prog γ 70 [.sl b l.length l.length (l.map byteC), .v (.int .i64 i)] (.v (.int .i64 (digitsEnd l i))) := by
  refine Ev.of Tryd.func70 rfl ?_
  simp only [Tryd.f70, evS, tyS, Bool.not_true, Bool.not_false, Nat.reduceAdd, Nat.reduceSub, Nat.reduceMul, Nat.reduceLT, Nat.reduceLeDiff, Nat.reduceEqDiff, reduceCtorEq, List.reduceReplicate, Int.reduceToNat, Int.reduceLE, Int.reduceLT]
  refine LoopK.intro (fun j : Nat => ⟨⟨12, [(0, .sl b l.length l.length (l.map byteC)), (1, .v (.int .i64 j))], γ⟩, []⟩) (fun j => j ≤ 140737488355330 ∧ digitsEnd l j = digitsEnd l i) (fun j => l.length - j) i ?_ ⟨hi, rfl⟩ (fun j hj => ?_)
  · simp only [evS, tyS, Bool.not_true, Bool.not_false, Nat.reduceAdd, Nat.reduceSub, Nat.reduceMul, Nat.reduceLT, Nat.reduceLeDiff, Nat.reduceEqDiff, reduceCtorEq, List.reduceReplicate, Int.reduceToNat, Int.reduceLE, Int.reduceLT]
  · simp only [evS, tyS, Bool.not_true, Bool.not_false, Nat.reduceAdd, Nat.reduceSub, Nat.reduceMul, Nat.reduceLT, Nat.reduceLeDiff, Nat.reduceEqDiff, reduceCtorEq, List.reduceReplicate, Int.reduceToNat, Int.reduceLE, Int.reduceLT]
    refine CallK.intro b71 (by simp [treeL, treeA]) (lexAt_ev b l j) ?_
    simp only [evS, tyS, Bool.not_true, Bool.not_false, Nat.reduceAdd, Nat.reduceSub, Nat.reduceMul, Nat.reduceLT, Nat.reduceLeDiff, Nat.reduceEqDiff, reduceCtorEq, List.reduceReplicate, Int.reduceToNat, Int.reduceLE, Int.reduceLT]
    refine CallK.intro b47 rfl (lexDigit_ev _) ?_
    simp only [evS, tyS, Bool.not_true, Bool.not_false, Nat.reduceAdd, Nat.reduceSub, Nat.reduceMul, Nat.reduceLT, Nat.reduceLeDiff, Nat.reduceEqDiff, reduceCtorEq, List.reduceReplicate, Int.reduceToNat, Int.reduceLE, Int.reduceLT]
    refine CondK.intro (fun h => ?_) (fun h => ?_) <;> simp only [h, evS, tyS, Bool.not_true, Bool.not_false, Nat.reduceAdd, Nat.reduceSub, Nat.reduceMul, Nat.reduceLT, Nat.reduceLeDiff, Nat.reduceEqDiff, reduceCtorEq, List.reduceReplicate, Int.reduceToNat, Int.reduceLE, Int.reduceLT]
    · have hs := digitsEnd_step h
      have ew : IntKind.i64.wrap ((j : Int) + 1) = ((j + 1 : Nat) : Int) := by rw [i64w] <;> omega
      refine loopC.intro (j + 1) ⟨by omega, by rw [← hs.1]; exact hj.2⟩ ?_ (by omega)
      simp only [ew, evS, tyS, Bool.not_true, Bool.not_false, Nat.reduceAdd, Nat.reduceSub, Nat.reduceMul, Nat.reduceLT, Nat.reduceLeDiff, Nat.reduceEqDiff, reduceCtorEq, List.reduceReplicate, Int.reduceToNat, Int.reduceLE, Int.reduceLT]
    · have hs := digitsEnd_stop h
      rw [hs] at hj
      rw [← hj.2]
end Go.Proofs.YtplnhipgifcafaaDoor
namespace Go.Proofs.YtplnhipgifcafaaDoor
set_option linter.all false
open Go Go.Ev
variable {γ : List (Nat × AV)}
/-- Where the bytes with p end, from a place on. -/
def spanEnd (p : Nat → Bool) (l : List UInt8) (i : Nat) : Nat := i + ((l.drop i).takeWhile fun c => p c.toNat).length
theorem spanEnd_step {p : Nat → Bool} {l : List UInt8} {i : Nat} (hi : i < l.length) (h : p (l.getD i 0).toNat = true) : spanEnd p l i = spanEnd p l (i + 1) := by
  have e : l.drop i = l[i] :: l.drop (i + 1) := List.drop_eq_getElem_cons hi
  have e2 : l.getD i 0 = l[i] := by simp [List.getD, hi]
  rw [e2] at h
  unfold spanEnd
  rw [e, List.takeWhile_cons, if_pos h]
  simp only [List.length_cons]; omega
theorem spanEnd_stop {p : Nat → Bool} {l : List UInt8} {i : Nat} (h : i < l.length → p (l.getD i 0).toNat = false) : spanEnd p l i = i := by
  unfold spanEnd
  by_cases hi : i < l.length
  · have e : l.drop i = l[i] :: l.drop (i + 1) := List.drop_eq_getElem_cons hi
    have e2 : l.getD i 0 = l[i] := by simp [List.getD, hi]
    have h := h hi
    rw [e2] at h
    rw [e, List.takeWhile_cons, if_neg (by simp [h])]; rfl
  · rw [List.drop_eq_nil_of_le (by omega)]; rfl
theorem spanEnd_le {p : Nat → Bool} {l : List UInt8} {i : Nat} (h : i ≤ l.length) : i ≤ spanEnd p l i ∧ spanEnd p l i ≤ l.length := by
  unfold spanEnd
  have := (List.takeWhile_sublist (l := l.drop i) (fun c => p c.toNat)).length_le
  rw [List.length_drop] at this
  omega
theorem digitsEnd_span (l : List UInt8) (i : Nat) : digitsEnd l i = spanEnd digitN l i := rfl
def tokA (kind : Int) (text : List UInt8) (int : Int) (real : AV) (pos size : Int) : AV :=
  .agg [.v (.int .i64 kind), .v (.string ⟨text.toArray⟩), .v (.int .i64 int), real, .v (.int .i64 pos), .v (.int .i64 size)]
def f0 : AV := .v (.float .f64 0)
set_option maxRecDepth 20000 in
theorem lexName_ev (b : Bool) (l : List UInt8) (hl : l.length ≤ 140737488355328) (h1 : 1 ≤ l.length) : Ev Tryd.prog γ 46 [.sl b l.length l.length (l.map byteC)] (tokA 1 (l.take (spanEnd nameN l 1)) 0 f0 0 (spanEnd nameN l 1 : Nat)) := by
  refine Ev.of Tryd.func46 rfl ?_
  simp only [Tryd.f46, evS, tyS, Bool.not_true, Bool.not_false, Nat.reduceAdd, Nat.reduceSub, Nat.reduceMul, Nat.reduceLT, Nat.reduceLeDiff, Nat.reduceEqDiff, reduceCtorEq, List.reduceReplicate, Int.reduceToNat, Int.reduceLE, Int.reduceLT]
  refine LoopK.intro (fun j : Nat => ⟨⟨23, [(0, .sl b l.length l.length (l.map byteC)), (2, .ptr 0 0 0), (3, .v (.int .i64 j))], γ⟩, [⟨0, 33, [.v (.int .i64 0), .v (.string ⟨#[]⟩), .v (.int .i64 0), .v (.float .f64 0), .v (.int .i64 0), .v (.int .i64 0)]⟩]⟩) (fun j => j ≤ l.length ∧ spanEnd nameN l j = spanEnd nameN l 1) (fun j => l.length - j) 1 ?_ ⟨h1, rfl⟩ (fun j hj => ?_)
  · simp only [evS, tyS, Bool.not_true, Bool.not_false, Nat.reduceAdd, Nat.reduceSub, Nat.reduceMul, Nat.reduceLT, Nat.reduceLeDiff, Nat.reduceEqDiff, reduceCtorEq, List.reduceReplicate, Int.reduceToNat, Int.reduceLE, Int.reduceLT]
    rfl
  · have hstop : ∀ (hs : j < l.length → nameN (l.getD j 0).toNat = false), spanEnd nameN l 1 = j := fun hs => hj.2.symm.trans (spanEnd_stop hs)
    simp only [evS, tyS, Bool.not_true, Bool.not_false, Nat.reduceAdd, Nat.reduceSub, Nat.reduceMul, Nat.reduceLT, Nat.reduceLeDiff, Nat.reduceEqDiff, reduceCtorEq, List.reduceReplicate, Int.reduceToNat, Int.reduceLE, Int.reduceLT]
    (repeat' (first | (with_reducible refine And.intro ?_ ?_) | ((first | refine GuardK.intro_f (fun h => ?_) (fun h => ?_) | refine GuardK.intro_t (fun h => ?_) (fun h => ?_) | refine CondK.intro (fun h => ?_) (fun h => ?_) | refine PickK.intro (fun h => ?_) (fun h => ?_)) <;> simp only [h, evS, tyS, Bool.not_true, Bool.not_false, Nat.reduceAdd, Nat.reduceSub, Nat.reduceMul, Nat.reduceLT, Nat.reduceLeDiff, Nat.reduceEqDiff, reduceCtorEq, List.reduceReplicate, Int.reduceToNat, Int.reduceLE, Int.reduceLT]) | (refine DrawK.intro (by kernel_rfl) (by kernel_rfl) ?_; simp only [evS, tyS, Bool.not_true, Bool.not_false, Nat.reduceAdd, Nat.reduceSub, Nat.reduceMul, Nat.reduceLT, Nat.reduceLeDiff, Nat.reduceEqDiff, reduceCtorEq, List.reduceReplicate, Int.reduceToNat, Int.reduceLE, Int.reduceLT])))
    all_goals try (((try simp only [decide_eq_true_eq, decide_eq_false_iff_not, beq_iff_eq, bne_iff_ne, ne_eq, beq_eq_false_iff_ne, bne_eq_false_iff_eq] at *) <;> (try omega)); done)
    · ((try simp only [decide_eq_true_eq, decide_eq_false_iff_not, beq_iff_eq, bne_iff_ne, ne_eq, beq_eq_false_iff_ne, bne_eq_false_iff_eq] at *) <;> (try omega))
      refine CallK.intro b69 rfl (lexInName_ev _) ?_
      simp only [evS, tyS, Bool.not_true, Bool.not_false, Nat.reduceAdd, Nat.reduceSub, Nat.reduceMul, Nat.reduceLT, Nat.reduceLeDiff, Nat.reduceEqDiff, reduceCtorEq, List.reduceReplicate, Int.reduceToNat, Int.reduceLE, Int.reduceLT]
      refine CondK.intro (fun h => ?_) (fun h => ?_) <;> simp only [h, evS, tyS, Bool.not_true, Bool.not_false, Nat.reduceAdd, Nat.reduceSub, Nat.reduceMul, Nat.reduceLT, Nat.reduceLeDiff, Nat.reduceEqDiff, reduceCtorEq, List.reduceReplicate, Int.reduceToNat, Int.reduceLE, Int.reduceLT]
      · have ew : IntKind.i64.wrap ((j : Int) + 1) = ((j + 1 : Nat) : Int) := by rw [i64w] <;> omega
        refine loopC.intro (j + 1) ⟨by omega, by rw [← spanEnd_step (by omega) h]; exact hj.2⟩ ?_ (by omega)
        simp only [ew, evS, tyS, Bool.not_true, Bool.not_false, Nat.reduceAdd, Nat.reduceSub, Nat.reduceMul, Nat.reduceLT, Nat.reduceLeDiff, Nat.reduceEqDiff, reduceCtorEq, List.reduceReplicate, Int.reduceToNat, Int.reduceLE, Int.reduceLT]
      · rw [hstop fun _ => h]
        simp only [tokA, f0, evS, tyS, Bool.not_true, Bool.not_false, Nat.reduceAdd, Nat.reduceSub, Nat.reduceMul, Nat.reduceLT, Nat.reduceLeDiff, Nat.reduceEqDiff, reduceCtorEq, List.reduceReplicate, Int.reduceToNat, Int.reduceLE, Int.reduceLT]
        (repeat' (first | (with_reducible refine And.intro ?_ ?_) | ((first | refine GuardK.intro_f (fun h => ?_) (fun h => ?_) | refine GuardK.intro_t (fun h => ?_) (fun h => ?_) | refine CondK.intro (fun h => ?_) (fun h => ?_) | refine PickK.intro (fun h => ?_) (fun h => ?_)) <;> simp only [h, evS, tyS, Bool.not_true, Bool.not_false, Nat.reduceAdd, Nat.reduceSub, Nat.reduceMul, Nat.reduceLT, Nat.reduceLeDiff, Nat.reduceEqDiff, reduceCtorEq, List.reduceReplicate, Int.reduceToNat, Int.reduceLE, Int.reduceLT]) | (refine DrawK.intro (by kernel_rfl) (by kernel_rfl) ?_; simp only [evS, tyS, Bool.not_true, Bool.not_false, Nat.reduceAdd, Nat.reduceSub, Nat.reduceMul, Nat.reduceLT, Nat.reduceLeDiff, Nat.reduceEqDiff, reduceCtorEq, List.reduceReplicate, Int.reduceToNat, Int.reduceLE, Int.reduceLT])))
        all_goals first | (((try simp only [decide_eq_true_eq, decide_eq_false_iff_not, beq_iff_eq, bne_iff_ne, ne_eq, beq_eq_false_iff_ne, bne_eq_false_iff_eq] at *) <;> (try omega)); done) | trivial
    · ((try simp only [decide_eq_true_eq, decide_eq_false_iff_not, beq_iff_eq, bne_iff_ne, ne_eq, beq_eq_false_iff_ne, bne_eq_false_iff_eq] at *) <;> (try omega))
      rw [hstop fun h' => by omega]
      simp only [tokA, f0, evS, tyS, Bool.not_true, Bool.not_false, Nat.reduceAdd, Nat.reduceSub, Nat.reduceMul, Nat.reduceLT, Nat.reduceLeDiff, Nat.reduceEqDiff, reduceCtorEq, List.reduceReplicate, Int.reduceToNat, Int.reduceLE, Int.reduceLT]
end Go.Proofs.YtplnhipgifcafaaDoor
namespace Go.Proofs.YtplnhipgifcafaaDoor
set_option linter.all false
open Go Go.Ev
variable {γ : List (Nat × AV)}
theorem b76 : bodyT Tryd.prog 76 := ⟨_, Tryd.func76, by kernel_rfl, by kernel_rfl⟩
theorem b102 : bodyT Tryd.prog 102 := ⟨_, Tryd.func102, by kernel_rfl, by kernel_rfl⟩
theorem sl_IndexByte_ev (s : ByteArray) (c : Int) : Ev Tryd.prog γ 102 [.v (.string s), .v (.int .u8 c)] (.v (.int .i64 (Lib.indexByte s.data.toList c.toNat.toUInt8))) := by
  refine Ev.of Tryd.func102 rfl ?_
  simp only [Tryd.f102, evS, tyS, Bool.not_true, Bool.not_false, Nat.reduceAdd, Nat.reduceSub, Nat.reduceMul, Nat.reduceLT, Nat.reduceLeDiff, Nat.reduceEqDiff, reduceCtorEq, List.reduceReplicate, Int.reduceToNat, Int.reduceLE, Int.reduceLT]
  refine CallK.ext (ext_indexByteString Tryd.func123 (by kernel_rfl) (by kernel_rfl) (by kernel_rfl) (by kernel_rfl) s c) ?_
  simp only [evS, tyS, Bool.not_true, Bool.not_false, Nat.reduceAdd, Nat.reduceSub, Nat.reduceMul, Nat.reduceLT, Nat.reduceLeDiff, Nat.reduceEqDiff, reduceCtorEq, List.reduceReplicate, Int.reduceToNat, Int.reduceLE, Int.reduceLT]
theorem strings_IndexByte_ev (s : ByteArray) (c : Int) : Ev Tryd.prog γ 76 [.v (.string s), .v (.int .u8 c)] (.v (.int .i64 (Lib.indexByte s.data.toList c.toNat.toUInt8))) := by
  refine Ev.of Tryd.func76 rfl ?_
  simp only [Tryd.f76, evS, tyS, Bool.not_true, Bool.not_false, Nat.reduceAdd, Nat.reduceSub, Nat.reduceMul, Nat.reduceLT, Nat.reduceLeDiff, Nat.reduceEqDiff, reduceCtorEq, List.reduceReplicate, Int.reduceToNat, Int.reduceLE, Int.reduceLT]
  refine CallK.intro b102 rfl (sl_IndexByte_ev s c) ?_
  simp only [evS, tyS, Bool.not_true, Bool.not_false, Nat.reduceAdd, Nat.reduceSub, Nat.reduceMul, Nat.reduceLT, Nat.reduceLeDiff, Nat.reduceEqDiff, reduceCtorEq, List.reduceReplicate, Int.reduceToNat, Int.reduceLE, Int.reduceLT]
/-- What a digit of sixteen says; -1: it is none. -/
def hexN (n : Nat) : Int := if 48 ≤ n ∧ n ≤ 57 then n - 48 else if 97 ≤ n ∧ n ≤ 102 then n - 87 else -1
theorem refHex_ev (n : Nat) (hn : n < 256) : Ev Tryd.prog γ 99 [.v (.int .u8 n)] (.v (.int .i64 (hexN n))) := by
  refine Ev.of Tryd.func99 rfl ?_
  simp only [Tryd.f99, evS, tyS, Bool.not_true, Bool.not_false, Nat.reduceAdd, Nat.reduceSub, Nat.reduceMul, Nat.reduceLT, Nat.reduceLeDiff, Nat.reduceEqDiff, reduceCtorEq, List.reduceReplicate, Int.reduceToNat, Int.reduceLE, Int.reduceLT]
  refine CallK.intro b41 rfl (refDigit_ev n) ?_
  simp only [evS, tyS, Bool.not_true, Bool.not_false, Nat.reduceAdd, Nat.reduceSub, Nat.reduceMul, Nat.reduceLT, Nat.reduceLeDiff, Nat.reduceEqDiff, reduceCtorEq, List.reduceReplicate, Int.reduceToNat, Int.reduceLE, Int.reduceLT]
  refine CondK.intro (fun h => ?_) (fun h => ?_) <;> simp only [h, evS, tyS, Bool.not_true, Bool.not_false, Nat.reduceAdd, Nat.reduceSub, Nat.reduceMul, Nat.reduceLT, Nat.reduceLeDiff, Nat.reduceEqDiff, reduceCtorEq, List.reduceReplicate, Int.reduceToNat, Int.reduceLE, Int.reduceLT]
  · have h' : 48 ≤ n ∧ n ≤ 57 := by simpa [digitN] using h
    have e1 : IntKind.u8.wrap ((n : Int) - 48) = (n : Int) - 48 := by rw [u8w] <;> omega
    simp only [e1, evS, tyS, Bool.not_true, Bool.not_false, Nat.reduceAdd, Nat.reduceSub, Nat.reduceMul, Nat.reduceLT, Nat.reduceLeDiff, Nat.reduceEqDiff, reduceCtorEq, List.reduceReplicate, Int.reduceToNat, Int.reduceLE, Int.reduceLT]
    rw [hexN, if_pos h', i64w (by omega) (by omega)]
  · have h' : ¬ (48 ≤ n ∧ n ≤ 57) := by simpa [digitN] using h
    (repeat' (first | (with_reducible refine And.intro ?_ ?_) | ((first | refine GuardK.intro_f (fun h => ?_) (fun h => ?_) | refine GuardK.intro_t (fun h => ?_) (fun h => ?_) | refine CondK.intro (fun h => ?_) (fun h => ?_) | refine PickK.intro (fun h => ?_) (fun h => ?_)) <;> simp only [h, evS, tyS, Bool.not_true, Bool.not_false, Nat.reduceAdd, Nat.reduceSub, Nat.reduceMul, Nat.reduceLT, Nat.reduceLeDiff, Nat.reduceEqDiff, reduceCtorEq, List.reduceReplicate, Int.reduceToNat, Int.reduceLE, Int.reduceLT]) | (refine DrawK.intro (by kernel_rfl) (by kernel_rfl) ?_; simp only [evS, tyS, Bool.not_true, Bool.not_false, Nat.reduceAdd, Nat.reduceSub, Nat.reduceMul, Nat.reduceLT, Nat.reduceLeDiff, Nat.reduceEqDiff, reduceCtorEq, List.reduceReplicate, Int.reduceToNat, Int.reduceLE, Int.reduceLT])))
    · ((try simp only [decide_eq_true_eq, decide_eq_false_iff_not, beq_iff_eq, bne_iff_ne, ne_eq, beq_eq_false_iff_ne, bne_eq_false_iff_eq] at *) <;> (try omega))
      have e2 : IntKind.i64.wrap ((n : Int) - 97) = (n : Int) - 97 := by rw [i64w] <;> omega
      rw [hexN, if_neg h', if_pos (by omega), u8w (by omega) (by omega), e2, i64w (by omega) (by omega)]
      congr 2
      omega
    · ((try simp only [decide_eq_true_eq, decide_eq_false_iff_not, beq_iff_eq, bne_iff_ne, ne_eq, beq_eq_false_iff_ne, bne_eq_false_iff_eq] at *) <;> (try omega))
      rw [hexN, if_neg h', if_neg (by omega)]
    · ((try simp only [decide_eq_true_eq, decide_eq_false_iff_not, beq_iff_eq, bne_iff_ne, ne_eq, beq_eq_false_iff_ne, bne_eq_false_iff_eq] at *) <;> (try omega))
      rw [hexN, if_neg h', if_neg (by omega)]
theorem hexN_index (c : UInt8) : Lib.indexByte [48, 49, 50, 51, 52, 53, 54, 55, 56, 57, 97, 98, 99, 100, 101, 102] c = hexN c.toNat := by
  have := b256 (p := fun n => Lib.indexByte [48, 49, 50, 51, 52, 53, 54, 55, 56, 57, 97, 98, 99, 100, 101, 102] (UInt8.ofNat n) = hexN n) (by decide +kernel) c
  simpa using this
theorem hexIdx_ev (c : UInt8) : Ev Tryd.prog γ 76 [.v (.string ⟨#[48, 49, 50, 51, 52, 53, 54, 55, 56, 57, 97, 98, 99, 100, 101, 102]⟩), .v (.int .u8 (c.toNat : Nat))] (.v (.int .i64 (hexN c.toNat))) := by
  have := strings_IndexByte_ev (γ := γ) ⟨#[48, 49, 50, 51, 52, 53, 54, 55, 56, 57, 97, 98, 99, 100, 101, 102]⟩ (c.toNat : Nat)
  rw [← hexN_index]
  simpa using this
theorem hexN_le (n : Nat) : -1 ≤ hexN n ∧ hexN n ≤ 15 := by
  unfold hexN
  split
  · omega
  · split <;> omega
/-- What an escape stands for, and how many bytes it has; 0: there is none. -/
def escV (a b : Nat) : Nat := (16 * hexN a + hexN b).toNat
def escF (l : List UInt8) : Nat × Nat :=
  if atL l 1 = 34 ∨ atL l 1 = 92 then (atL l 1, 2)
  else if atL l 1 = 120 ∧ 4 ≤ l.length ∧ 0 ≤ hexN (atL l 2) ∧ 0 ≤ hexN (atL l 3) ∧ (escV (atL l 2) (atL l 3) < 32 ∨ 126 < escV (atL l 2) (atL l 3)) then (escV (atL l 2) (atL l 3), 4)
  else (0, 0)
set_option maxRecDepth 20000 in
theorem lexEscaped_ev (b : Bool) (l : List UInt8) (hl : l.length ≤ 140737488355328) : Ev Tryd.prog γ 74 [.sl b l.length l.length (l.map byteC)] (.tup [.v (.int .u8 (escF l).1), .v (.int .i64 (escF l).2)]) := by
  refine Ev.of Tryd.func74 rfl ?_
  have hlen : ∀ i, atL l i ≠ 0 → i < l.length := fun i h => by
    by_cases hi : i < l.length
    · exact hi
    · exact absurd (by simp only [atL, List.getD]; rw [List.getElem?_eq_none (by omega)]; rfl) h
  simp only [Tryd.f74, evS, tyS, Bool.not_true, Bool.not_false, Nat.reduceAdd, Nat.reduceSub, Nat.reduceMul, Nat.reduceLT, Nat.reduceLeDiff, Nat.reduceEqDiff, reduceCtorEq, List.reduceReplicate, Int.reduceToNat, Int.reduceLE, Int.reduceLT]
  refine CallK.intro b71 (by simp [treeL, treeA]) (lexAt_ev b l 1) ?_
  simp only [evS, tyS, Bool.not_true, Bool.not_false, Nat.reduceAdd, Nat.reduceSub, Nat.reduceMul, Nat.reduceLT, Nat.reduceLeDiff, Nat.reduceEqDiff, reduceCtorEq, List.reduceReplicate, Int.reduceToNat, Int.reduceLE, Int.reduceLT]
  have hlen' : atL l 1 ≠ 0 → 1 < l.length := hlen 1
  (repeat' (first | (with_reducible refine And.intro ?_ ?_) | ((first | refine GuardK.intro_f (fun h => ?_) (fun h => ?_) | refine GuardK.intro_t (fun h => ?_) (fun h => ?_) | refine CondK.intro (fun h => ?_) (fun h => ?_) | refine PickK.intro (fun h => ?_) (fun h => ?_)) <;> simp only [h, evS, tyS, Bool.not_true, Bool.not_false, Nat.reduceAdd, Nat.reduceSub, Nat.reduceMul, Nat.reduceLT, Nat.reduceLeDiff, Nat.reduceEqDiff, reduceCtorEq, List.reduceReplicate, Int.reduceToNat, Int.reduceLE, Int.reduceLT]) | (refine DrawK.intro (by kernel_rfl) (by kernel_rfl) ?_; simp only [evS, tyS, Bool.not_true, Bool.not_false, Nat.reduceAdd, Nat.reduceSub, Nat.reduceMul, Nat.reduceLT, Nat.reduceLeDiff, Nat.reduceEqDiff, reduceCtorEq, List.reduceReplicate, Int.reduceToNat, Int.reduceLE, Int.reduceLT])))
  all_goals try (((try simp only [decide_eq_true_eq, decide_eq_false_iff_not, beq_iff_eq, bne_iff_ne, ne_eq, beq_eq_false_iff_ne, bne_eq_false_iff_eq] at *) <;> (try omega)); done)
  · ((try simp only [decide_eq_true_eq, decide_eq_false_iff_not, beq_iff_eq, bne_iff_ne, ne_eq, beq_eq_false_iff_ne, bne_eq_false_iff_eq] at *) <;> (try omega)); rw [escF, if_pos (by omega)]; rfl
  · ((try simp only [decide_eq_true_eq, decide_eq_false_iff_not, beq_iff_eq, bne_iff_ne, ne_eq, beq_eq_false_iff_ne, bne_eq_false_iff_eq] at *) <;> (try omega)); rw [escF, if_pos (by omega)]; rfl
  · ((try simp only [decide_eq_true_eq, decide_eq_false_iff_not, beq_iff_eq, bne_iff_ne, ne_eq, beq_eq_false_iff_ne, bne_eq_false_iff_eq] at *) <;> (try omega)); rw [escF, if_pos (by omega)]; rfl
  · ((try simp only [decide_eq_true_eq, decide_eq_false_iff_not, beq_iff_eq, bne_iff_ne, ne_eq, beq_eq_false_iff_ne, bne_eq_false_iff_eq] at *) <;> (try omega)); rw [escF, if_pos (by omega)]; rfl
  · ((try simp only [decide_eq_true_eq, decide_eq_false_iff_not, beq_iff_eq, bne_iff_ne, ne_eq, beq_eq_false_iff_ne, bne_eq_false_iff_eq] at *) <;> (try omega)); rw [escF, if_neg (by omega), if_neg (by omega)]; rfl
  · ((try simp only [decide_eq_true_eq, decide_eq_false_iff_not, beq_iff_eq, bne_iff_ne, ne_eq, beq_eq_false_iff_ne, bne_eq_false_iff_eq] at *) <;> (try omega)); rw [escF, if_neg (by omega), if_neg (by omega)]; rfl
  · ((try simp only [decide_eq_true_eq, decide_eq_false_iff_not, beq_iff_eq, bne_iff_ne, ne_eq, beq_eq_false_iff_ne, bne_eq_false_iff_eq] at *) <;> (try omega))
    refine CallK.intro b76 rfl (hexIdx_ev (l.getD 2 0)) ?_
    simp only [evS, tyS, Bool.not_true, Bool.not_false, Nat.reduceAdd, Nat.reduceSub, Nat.reduceMul, Nat.reduceLT, Nat.reduceLeDiff, Nat.reduceEqDiff, reduceCtorEq, List.reduceReplicate, Int.reduceToNat, Int.reduceLE, Int.reduceLT]
    (repeat' (first | (with_reducible refine And.intro ?_ ?_) | ((first | refine GuardK.intro_f (fun h => ?_) (fun h => ?_) | refine GuardK.intro_t (fun h => ?_) (fun h => ?_) | refine CondK.intro (fun h => ?_) (fun h => ?_) | refine PickK.intro (fun h => ?_) (fun h => ?_)) <;> simp only [h, evS, tyS, Bool.not_true, Bool.not_false, Nat.reduceAdd, Nat.reduceSub, Nat.reduceMul, Nat.reduceLT, Nat.reduceLeDiff, Nat.reduceEqDiff, reduceCtorEq, List.reduceReplicate, Int.reduceToNat, Int.reduceLE, Int.reduceLT]) | (refine DrawK.intro (by kernel_rfl) (by kernel_rfl) ?_; simp only [evS, tyS, Bool.not_true, Bool.not_false, Nat.reduceAdd, Nat.reduceSub, Nat.reduceMul, Nat.reduceLT, Nat.reduceLeDiff, Nat.reduceEqDiff, reduceCtorEq, List.reduceReplicate, Int.reduceToNat, Int.reduceLE, Int.reduceLT])))
    all_goals try (((try simp only [decide_eq_true_eq, decide_eq_false_iff_not, beq_iff_eq, bne_iff_ne, ne_eq, beq_eq_false_iff_ne, bne_eq_false_iff_eq] at *) <;> (try omega)); done)
    refine CallK.intro b76 rfl (hexIdx_ev (l.getD 3 0)) ?_
    have x2 := hexN_le (atL l 2)
    have x3 := hexN_le (atL l 3)
    rw [show (l.getD 2 0).toNat = atL l 2 from rfl, show (l.getD 3 0).toNat = atL l 3 from rfl]
    have e1 : IntKind.i64.wrap (16 * hexN (atL l 2)) = 16 * hexN (atL l 2) := by rw [i64w] <;> omega
    have e2 : IntKind.i64.wrap (16 * hexN (atL l 2) + hexN (atL l 3)) = 16 * hexN (atL l 2) + hexN (atL l 3) := by rw [i64w] <;> omega
    simp only [e1, e2, evS, tyS, Bool.not_true, Bool.not_false, Nat.reduceAdd, Nat.reduceSub, Nat.reduceMul, Nat.reduceLT, Nat.reduceLeDiff, Nat.reduceEqDiff, reduceCtorEq, List.reduceReplicate, Int.reduceToNat, Int.reduceLE, Int.reduceLT]
    (repeat' (first | (with_reducible refine And.intro ?_ ?_) | ((first | refine GuardK.intro_f (fun h => ?_) (fun h => ?_) | refine GuardK.intro_t (fun h => ?_) (fun h => ?_) | refine CondK.intro (fun h => ?_) (fun h => ?_) | refine PickK.intro (fun h => ?_) (fun h => ?_)) <;> simp only [h, evS, tyS, Bool.not_true, Bool.not_false, Nat.reduceAdd, Nat.reduceSub, Nat.reduceMul, Nat.reduceLT, Nat.reduceLeDiff, Nat.reduceEqDiff, reduceCtorEq, List.reduceReplicate, Int.reduceToNat, Int.reduceLE, Int.reduceLT]) | (refine DrawK.intro (by kernel_rfl) (by kernel_rfl) ?_; simp only [evS, tyS, Bool.not_true, Bool.not_false, Nat.reduceAdd, Nat.reduceSub, Nat.reduceMul, Nat.reduceLT, Nat.reduceLeDiff, Nat.reduceEqDiff, reduceCtorEq, List.reduceReplicate, Int.reduceToNat, Int.reduceLE, Int.reduceLT])))
    all_goals
      by_cases hh : 0 ≤ hexN (atL l 2) ∧ 0 ≤ hexN (atL l 3)
      · have e3 : IntKind.u8.wrap (16 * hexN (atL l 2) + hexN (atL l 3)) = (escV (atL l 2) (atL l 3) : Int) := by
          rw [u8w (by omega) (by omega)]; unfold escV; omega
        simp only [e3] at *
        ((try simp only [decide_eq_true_eq, decide_eq_false_iff_not, beq_iff_eq, bne_iff_ne, ne_eq, beq_eq_false_iff_ne, bne_eq_false_iff_eq] at *) <;> (try omega)) <;> first
          | (rw [escF, if_neg (by omega), if_pos (by omega)]; done)
          | (rw [escF, if_neg (by omega), if_neg (by omega)]; rfl)
          | (rw [escF, if_neg (by omega), if_pos (by omega)]; rfl)
          | omega
      · ((try simp only [decide_eq_true_eq, decide_eq_false_iff_not, beq_iff_eq, bne_iff_ne, ne_eq, beq_eq_false_iff_ne, bne_eq_false_iff_eq] at *) <;> (try omega)) <;> first
          | (rw [escF, if_neg (by omega), if_neg (by omega)]; rfl)
          | omega
  all_goals (((try simp only [decide_eq_true_eq, decide_eq_false_iff_not, beq_iff_eq, bne_iff_ne, ne_eq, beq_eq_false_iff_ne, bne_eq_false_iff_eq] at *) <;> (try omega)); rw [escF, if_neg (by omega), if_neg (by omega)]; rfl)
end Go.Proofs.YtplnhipgifcafaaDoor
namespace Go.Proofs.YtplnhipgifcafaaDoor
set_option linter.all false
open Go Go.Ev
variable {γ : List (Nat × AV)}
theorem b74 : bodyT Tryd.prog 74 := ⟨_, Tryd.func74, by kernel_rfl, by kernel_rfl⟩
/-- lex.text: what the text stands for, and where it ends; none: it is wrong. -/
def textF : Nat → List UInt8 → Nat → List UInt8 → Option (List UInt8 × Nat)
  | 0, _, _, _ => none
  | k + 1, l, i, d =>
    if l.length ≤ i then none
    else if atL l i = 34 ∧ d.length ≤ 256 then some (d, i + 1)
    else if atL l i = 92 then (if (escF (l.drop i)).2 = 0 then none else textF k l (i + (escF (l.drop i)).2) (d ++ [UInt8.ofNat (escF (l.drop i)).1]))
    else if atL l i = 34 ∨ atL l i < 32 ∨ 126 < atL l i then none
    else textF k l (i + 1) (d ++ [UInt8.ofNat (atL l i)])
def zero6 : List AV := [.v (.int .i64 0), .v (.string ⟨#[]⟩), .v (.int .i64 0), .v (.float .f64 0), .v (.int .i64 0), .v (.int .i64 0)]
def textR : Option (List UInt8 × Nat) → AV
  | none => .tup [.agg zero6, .v (.int .i64 11)]
  | some (d, n) => .tup [tokA 4 d 0 f0 0 n, .v (.int .i64 0)]
def textS (γ : List (Nat × AV)) (l : List UInt8) (b : Bool) : Nat × List UInt8 → St
  | (i, []) => ⟨⟨69, [(0, .sl b l.length l.length (l.map byteC)), (2, .ptr 0 0 0), (5, .v (.int .i64 i)), (4, .v (.slice none 0 0))], γ⟩, [⟨0, 33, zero6⟩]⟩
  | (i, x :: d) => ⟨⟨69, [(0, .sl b l.length l.length (l.map byteC)), (2, .ptr 0 0 0), (5, .v (.int .i64 i)), (4, .own 2 d.length (x :: d).length)], γ⟩, [⟨0, 33, zero6⟩, ⟨0, 5, [byteC x]⟩, ⟨d.length, 5, (x :: d).map byteC⟩]⟩
theorem textS_nil (γ : List (Nat × AV)) (l : List UInt8) (b : Bool) (i : Nat) : textS γ l b (i, []) = ⟨⟨69, [(0, .sl b l.length l.length (l.map byteC)), (2, .ptr 0 0 0), (5, .v (.int .i64 i)), (4, .v (.slice none 0 0))], γ⟩, [⟨0, 33, zero6⟩]⟩ := rfl
theorem textS_cons (γ : List (Nat × AV)) (l : List UInt8) (b : Bool) (i : Nat) (x : UInt8) (d : List UInt8) : textS γ l b (i, x :: d) = ⟨⟨69, [(0, .sl b l.length l.length (l.map byteC)), (2, .ptr 0 0 0), (5, .v (.int .i64 i)), (4, .own 2 d.length (x :: d).length)], γ⟩, [⟨0, 33, zero6⟩, ⟨0, 5, [byteC x]⟩, ⟨d.length, 5, (x :: d).map byteC⟩]⟩ := rfl
theorem textS_ne (γ : List (Nat × AV)) (l : List UInt8) (b : Bool) (i : Nat) {D : List UInt8} (h : D ≠ []) : textS γ l b (i, D) = ⟨⟨69, [(0, .sl b l.length l.length (l.map byteC)), (2, .ptr 0 0 0), (5, .v (.int .i64 i)), (4, .own 2 (D.length - 1) D.length)], γ⟩, [⟨0, 33, zero6⟩, ⟨0, 5, [byteC (D.getD 0 0)]⟩, ⟨D.length - 1, 5, D.map byteC⟩]⟩ := by
  cases D with
  | nil => exact absurd rfl h
  | cons x d => rfl
theorem textS_app (γ : List (Nat × AV)) (l : List UInt8) (b : Bool) (i : Nat) {d : List UInt8} (y : UInt8) (h : d ≠ []) : textS γ l b (i, d ++ [y]) = ⟨⟨69, [(0, .sl b l.length l.length (l.map byteC)), (2, .ptr 0 0 0), (5, .v (.int .i64 i)), (4, .own 2 d.length (d.length + 1))], γ⟩, [⟨0, 33, zero6⟩, ⟨0, 5, [byteC (d.getD 0 0)]⟩, ⟨d.length, 5, d.map byteC ++ [byteC y]⟩]⟩ := by
  cases d with
  | nil => exact absurd rfl h
  | cons x d => simp [textS]
theorem escF_2 (l : List UInt8) : (escF l).2 = 0 ∨ (escF l).2 = 2 ∨ (escF l).2 = 4 := by
  unfold escF; split
  · exact .inr (.inl rfl)
  · split
    · exact .inr (.inr rfl)
    · exact .inl rfl
theorem escF_1 (l : List UInt8) : (escF l).1 < 256 := by
  unfold escF; split
  · exact (l.getD 1 0).toNat_lt
  · split
    · show escV _ _ < 256
      unfold escV
      have := hexN_le (atL l 2); have := hexN_le (atL l 3); omega
    · show 0 < 256; omega
theorem atL_lt (l : List UInt8) (i : Nat) : atL l i < 256 := (l.getD i 0).toNat_lt
set_option maxRecDepth 20000 in
theorem lexText_ev (b : Bool) (l : List UInt8) (hl : l.length ≤ 140737488351232) : Ev Tryd.prog γ 49 [.sl b l.length l.length (l.map byteC)] (textR (textF l.length l 1 [])) := by
  refine Ev.of Tryd.func49 rfl ?_
  generalize hR : textR (textF l.length l 1 []) = R
  simp only [Tryd.f49, evS, tyS, Bool.not_true, Bool.not_false, Nat.reduceAdd, Nat.reduceSub, Nat.reduceMul, Nat.reduceLT, Nat.reduceLeDiff, Nat.reduceEqDiff, reduceCtorEq, List.reduceReplicate, Int.reduceToNat, Int.reduceLE, Int.reduceLT]
  refine LoopK.intro (textS γ l b) (fun a => a.2.length ≤ a.1 ∧ 1 ≤ a.1 ∧ a.1 ≤ l.length + 4 ∧ ∃ k, l.length ≤ k + a.1 ∧ textR (textF k l a.1 a.2) = R) (fun a => l.length + 4 - a.1) (1, []) ?_ ⟨by simp, by simp, by simp, l.length, by simp, hR⟩ ?_
  · simp only [textS_nil, zero6, evS, tyS, Bool.not_true, Bool.not_false, Nat.reduceAdd, Nat.reduceSub, Nat.reduceMul, Nat.reduceLT, Nat.reduceLeDiff, Nat.reduceEqDiff, reduceCtorEq, List.reduceReplicate, Int.reduceToNat, Int.reduceLE, Int.reduceLT]
    (repeat' (first | (with_reducible refine And.intro ?_ ?_) | ((first | refine GuardK.intro_f (fun h => ?_) (fun h => ?_) | refine GuardK.intro_t (fun h => ?_) (fun h => ?_) | refine CondK.intro (fun h => ?_) (fun h => ?_) | refine PickK.intro (fun h => ?_) (fun h => ?_)) <;> simp only [h, evS, tyS, Bool.not_true, Bool.not_false, Nat.reduceAdd, Nat.reduceSub, Nat.reduceMul, Nat.reduceLT, Nat.reduceLeDiff, Nat.reduceEqDiff, reduceCtorEq, List.reduceReplicate, Int.reduceToNat, Int.reduceLE, Int.reduceLT]) | (refine DrawK.intro (by kernel_rfl) (by kernel_rfl) ?_; simp only [evS, tyS, Bool.not_true, Bool.not_false, Nat.reduceAdd, Nat.reduceSub, Nat.reduceMul, Nat.reduceLT, Nat.reduceLeDiff, Nat.reduceEqDiff, reduceCtorEq, List.reduceReplicate, Int.reduceToNat, Int.reduceLE, Int.reduceLT])))
    all_goals rfl
  · rintro ⟨i, d⟩ ⟨hd, hi1, hi4, k, hk, hR⟩
    have hend : l.length ≤ i → R = .tup [.agg zero6, .v (.int .i64 11)] := fun h => by
      rw [← hR]
      cases k with
      | zero => rfl
      | succ k => simp only [textF, if_pos h, textR]
    have hs : i < l.length → ∃ k', l.length ≤ k' + i + 1 ∧ R = textR (if atL l i = 34 ∧ d.length ≤ 256 then some (d, i + 1)
        else if atL l i = 92 then (if (escF (l.drop i)).2 = 0 then none else textF k' l (i + (escF (l.drop i)).2) (d ++ [UInt8.ofNat (escF (l.drop i)).1]))
        else if atL l i = 34 ∨ atL l i < 32 ∨ 126 < atL l i then none
        else textF k' l (i + 1) (d ++ [UInt8.ofNat (atL l i)])) := fun h => by
      cases k with
      | zero => simp only at hk; omega
      | succ k =>
        refine ⟨k, by simp only at hk; omega, ?_⟩
        rw [← hR]
        simp only [textF, if_neg (show ¬ l.length ≤ i by omega)]
    have ea : (l.getD i 0).toNat = atL l i := rfl
    have hb256 := atL_lt l i
    have hub : ((UInt8.ofNat (atL l i)).toNat : Int) = atL l i := by rw [UInt8.toNat_ofNat_of_lt' hb256]
    have hx1 := escF_1 (l.drop i)
    have hx2 := escF_2 (l.drop i)
    have hue : ((UInt8.ofNat (escF (l.drop i)).1).toNat : Int) = (escF (l.drop i)).1 := by rw [UInt8.toNat_ofNat_of_lt' hx1]
    have ew1 : IntKind.i64.wrap ((i : Int) + 1) = ((i + 1 : Nat) : Int) := by simp only at hi4; rw [i64w] <;> omega
    have ewn : IntKind.i64.wrap ((i : Int) + ((escF (l.drop i)).2 : Nat)) = ((i + (escF (l.drop i)).2 : Nat) : Int) := by simp only at hi4; rw [i64w] <;> omega
    clear hR
    simp only at hd hi1 hi4 hk
    have hesc : Ev Tryd.prog γ 74 [.sl b (l.length - i) (l.length - i) (List.drop i (l.map byteC))] (.tup [.v (.int .u8 (escF (l.drop i)).1), .v (.int .i64 (escF (l.drop i)).2)]) := by
      have := lexEscaped_ev (γ := γ) b (l.drop i) (by rw [List.length_drop]; omega)
      rwa [List.length_drop, List.map_drop] at this
    by_cases hne : d = []
    · subst hne
      simp only [textS_nil, zero6, ea, evS, tyS, Bool.not_true, Bool.not_false, Nat.reduceAdd, Nat.reduceSub, Nat.reduceMul, Nat.reduceLT, Nat.reduceLeDiff, Nat.reduceEqDiff, reduceCtorEq, List.reduceReplicate, Int.reduceToNat, Int.reduceLE, Int.reduceLT]
      (repeat' (first | (with_reducible refine And.intro ?_ ?_) | ((first | refine GuardK.intro_f (fun h => ?_) (fun h => ?_) | refine GuardK.intro_t (fun h => ?_) (fun h => ?_) | refine CondK.intro (fun h => ?_) (fun h => ?_) | refine PickK.intro (fun h => ?_) (fun h => ?_)) <;> simp only [h, zero6, ea, evS, tyS, Bool.not_true, Bool.not_false, Nat.reduceAdd, Nat.reduceSub, Nat.reduceMul, Nat.reduceLT, Nat.reduceLeDiff, Nat.reduceEqDiff, reduceCtorEq, List.reduceReplicate, Int.reduceToNat, Int.reduceLE, Int.reduceLT]) | (refine DrawK.intro (by kernel_rfl) (by kernel_rfl) ?_; simp only [zero6, ea, evS, tyS, Bool.not_true, Bool.not_false, Nat.reduceAdd, Nat.reduceSub, Nat.reduceMul, Nat.reduceLT, Nat.reduceLeDiff, Nat.reduceEqDiff, reduceCtorEq, List.reduceReplicate, Int.reduceToNat, Int.reduceLE, Int.reduceLT])))
      all_goals try (((try simp only [decide_eq_true_eq, decide_eq_false_iff_not, beq_iff_eq, bne_iff_ne, ne_eq, beq_eq_false_iff_ne, bne_eq_false_iff_eq] at *) <;> (try omega)); done)
      · ((try simp only [decide_eq_true_eq, decide_eq_false_iff_not, beq_iff_eq, bne_iff_ne, ne_eq, beq_eq_false_iff_ne, bne_eq_false_iff_eq] at *) <;> (try omega))
        obtain ⟨k', hk', hR'⟩ := hs (by omega)
        rw [if_pos ⟨by omega, by simp⟩] at hR'
        rw [hR', ew1]
        simp only [textR, tokA, f0, evS, tyS, Bool.not_true, Bool.not_false, Nat.reduceAdd, Nat.reduceSub, Nat.reduceMul, Nat.reduceLT, Nat.reduceLeDiff, Nat.reduceEqDiff, reduceCtorEq, List.reduceReplicate, Int.reduceToNat, Int.reduceLE, Int.reduceLT]
      · ((try simp only [decide_eq_true_eq, decide_eq_false_iff_not, beq_iff_eq, bne_iff_ne, ne_eq, beq_eq_false_iff_ne, bne_eq_false_iff_eq] at *) <;> (try omega))
        obtain ⟨k', hk', hR'⟩ := hs (by omega)
        rw [if_neg (by omega), if_pos (by omega)] at hR'
        refine CallK.intro b74 (by simp only [treeL, treeA, Bool.and_self]) hesc ?_
        simp only [evS, tyS, Bool.not_true, Bool.not_false, Nat.reduceAdd, Nat.reduceSub, Nat.reduceMul, Nat.reduceLT, Nat.reduceLeDiff, Nat.reduceEqDiff, reduceCtorEq, List.reduceReplicate, Int.reduceToNat, Int.reduceLE, Int.reduceLT]
        refine CondK.intro (fun h => ?_) (fun h => ?_)
        · ((try simp only [decide_eq_true_eq, decide_eq_false_iff_not, beq_iff_eq, bne_iff_ne, ne_eq, beq_eq_false_iff_ne, bne_eq_false_iff_eq] at *) <;> (try omega))
          rw [if_pos (by omega)] at hR'
          simp only [zero6, evS, tyS, Bool.not_true, Bool.not_false, Nat.reduceAdd, Nat.reduceSub, Nat.reduceMul, Nat.reduceLT, Nat.reduceLeDiff, Nat.reduceEqDiff, reduceCtorEq, List.reduceReplicate, Int.reduceToNat, Int.reduceLE, Int.reduceLT]
          rw [hR']
          simp only [textR, zero6, evS, tyS, Bool.not_true, Bool.not_false, Nat.reduceAdd, Nat.reduceSub, Nat.reduceMul, Nat.reduceLT, Nat.reduceLeDiff, Nat.reduceEqDiff, reduceCtorEq, List.reduceReplicate, Int.reduceToNat, Int.reduceLE, Int.reduceLT]
        · ((try simp only [decide_eq_true_eq, decide_eq_false_iff_not, beq_iff_eq, bne_iff_ne, ne_eq, beq_eq_false_iff_ne, bne_eq_false_iff_eq] at *) <;> (try omega))
          rw [if_neg (by omega)] at hR'
          simp only [ewn, evS, tyS, Bool.not_true, Bool.not_false, Nat.reduceAdd, Nat.reduceSub, Nat.reduceMul, Nat.reduceLT, Nat.reduceLeDiff, Nat.reduceEqDiff, reduceCtorEq, List.reduceReplicate, Int.reduceToNat, Int.reduceLE, Int.reduceLT]
          (repeat' (first | (with_reducible refine And.intro ?_ ?_) | ((first | refine GuardK.intro_f (fun h => ?_) (fun h => ?_) | refine GuardK.intro_t (fun h => ?_) (fun h => ?_) | refine CondK.intro (fun h => ?_) (fun h => ?_) | refine PickK.intro (fun h => ?_) (fun h => ?_)) <;> simp only [h, evS, tyS, Bool.not_true, Bool.not_false, Nat.reduceAdd, Nat.reduceSub, Nat.reduceMul, Nat.reduceLT, Nat.reduceLeDiff, Nat.reduceEqDiff, reduceCtorEq, List.reduceReplicate, Int.reduceToNat, Int.reduceLE, Int.reduceLT]) | (refine DrawK.intro (by kernel_rfl) (by kernel_rfl) ?_; simp only [evS, tyS, Bool.not_true, Bool.not_false, Nat.reduceAdd, Nat.reduceSub, Nat.reduceMul, Nat.reduceLT, Nat.reduceLeDiff, Nat.reduceEqDiff, reduceCtorEq, List.reduceReplicate, Int.reduceToNat, Int.reduceLE, Int.reduceLT])))
          all_goals try (((try simp only [decide_eq_true_eq, decide_eq_false_iff_not, beq_iff_eq, bne_iff_ne, ne_eq, beq_eq_false_iff_ne, bne_eq_false_iff_eq] at *) <;> (try omega)); done)
          all_goals try exact all_one_map _
          refine loopC.intro (i + (escF (l.drop i)).2, [UInt8.ofNat (escF (l.drop i)).1]) ⟨by simp only [List.length_append, List.length_cons, List.length_nil] at *; omega, by simp only; omega, by simp only; omega, k', by simp only; omega, hR'.symm⟩ ?_ (by simp only; omega)
          refine ⟨rfl, rfl, ?_, .inl ?_⟩ <;> simp only [textS_cons, zero6, byteC, hue, hub, List.map_append, okRefL, okRef, okRefB, okRefL_map, okRefL_append, Bool.and_self, decide_true, evS, tyS, Bool.not_true, Bool.not_false, Nat.reduceAdd, Nat.reduceSub, Nat.reduceMul, Nat.reduceLT, Nat.reduceLeDiff, Nat.reduceEqDiff, reduceCtorEq, List.reduceReplicate, Int.reduceToNat, Int.reduceLE, Int.reduceLT] <;> try (first | rfl | trivial | (simp [byteC, hue, hub, okRef]; done))
      · ((try simp only [decide_eq_true_eq, decide_eq_false_iff_not, beq_iff_eq, bne_iff_ne, ne_eq, beq_eq_false_iff_ne, bne_eq_false_iff_eq] at *) <;> (try omega))
        obtain ⟨k', hk', hR'⟩ := hs (by omega)
        rw [if_neg (by omega), if_neg (by omega), if_pos (by omega)] at hR'
        rw [hR']
        simp only [textR, zero6, evS, tyS, Bool.not_true, Bool.not_false, Nat.reduceAdd, Nat.reduceSub, Nat.reduceMul, Nat.reduceLT, Nat.reduceLeDiff, Nat.reduceEqDiff, reduceCtorEq, List.reduceReplicate, Int.reduceToNat, Int.reduceLE, Int.reduceLT]
      · ((try simp only [decide_eq_true_eq, decide_eq_false_iff_not, beq_iff_eq, bne_iff_ne, ne_eq, beq_eq_false_iff_ne, bne_eq_false_iff_eq] at *) <;> (try omega))
        obtain ⟨k', hk', hR'⟩ := hs (by omega)
        rw [if_neg (by omega), if_neg (by omega), if_neg (by omega)] at hR'
        rw [ew1]
        refine loopC.intro (i + 1, [UInt8.ofNat (atL l i)]) ⟨by simp only [List.length_append, List.length_cons, List.length_nil] at *; omega, by simp only; omega, by simp only; omega, k', by simp only; omega, hR'.symm⟩ ?_ (by simp only; omega)
        refine ⟨rfl, rfl, ?_, .inl ?_⟩ <;> simp only [textS_cons, zero6, byteC, hue, hub, List.map_append, okRefL, okRef, okRefB, okRefL_map, okRefL_append, Bool.and_self, decide_true, evS, tyS, Bool.not_true, Bool.not_false, Nat.reduceAdd, Nat.reduceSub, Nat.reduceMul, Nat.reduceLT, Nat.reduceLeDiff, Nat.reduceEqDiff, reduceCtorEq, List.reduceReplicate, Int.reduceToNat, Int.reduceLE, Int.reduceLT] <;> try (first | rfl | trivial | (simp [byteC, hue, hub, okRef]; done))
      · ((try simp only [decide_eq_true_eq, decide_eq_false_iff_not, beq_iff_eq, bne_iff_ne, ne_eq, beq_eq_false_iff_ne, bne_eq_false_iff_eq] at *) <;> (try omega))
        obtain ⟨k', hk', hR'⟩ := hs (by omega)
        rw [if_neg (by omega), if_neg (by omega), if_pos (by omega)] at hR'
        rw [hR']
        simp only [textR, zero6, evS, tyS, Bool.not_true, Bool.not_false, Nat.reduceAdd, Nat.reduceSub, Nat.reduceMul, Nat.reduceLT, Nat.reduceLeDiff, Nat.reduceEqDiff, reduceCtorEq, List.reduceReplicate, Int.reduceToNat, Int.reduceLE, Int.reduceLT]
      · ((try simp only [decide_eq_true_eq, decide_eq_false_iff_not, beq_iff_eq, bne_iff_ne, ne_eq, beq_eq_false_iff_ne, bne_eq_false_iff_eq] at *) <;> (try omega))
        rw [hend (by omega)]
        simp only [zero6, evS, tyS, Bool.not_true, Bool.not_false, Nat.reduceAdd, Nat.reduceSub, Nat.reduceMul, Nat.reduceLT, Nat.reduceLeDiff, Nat.reduceEqDiff, reduceCtorEq, List.reduceReplicate, Int.reduceToNat, Int.reduceLE, Int.reduceLT]
    · have hp : 0 < d.length := List.length_pos_iff.2 hne
      have ev1 : d.length - 1 + 1 = d.length := by omega
      have ev2 : d.length + 1 - 1 = d.length := by omega
      simp only [textS_ne γ l b i hne, zero6, ea, evS, tyS, Bool.not_true, Bool.not_false, Nat.reduceAdd, Nat.reduceSub, Nat.reduceMul, Nat.reduceLT, Nat.reduceLeDiff, Nat.reduceEqDiff, reduceCtorEq, List.reduceReplicate, Int.reduceToNat, Int.reduceLE, Int.reduceLT]
      (repeat' (first | (with_reducible refine And.intro ?_ ?_) | ((first | refine GuardK.intro_f (fun h => ?_) (fun h => ?_) | refine GuardK.intro_t (fun h => ?_) (fun h => ?_) | refine CondK.intro (fun h => ?_) (fun h => ?_) | refine PickK.intro (fun h => ?_) (fun h => ?_)) <;> simp only [h, zero6, ea, evS, tyS, Bool.not_true, Bool.not_false, Nat.reduceAdd, Nat.reduceSub, Nat.reduceMul, Nat.reduceLT, Nat.reduceLeDiff, Nat.reduceEqDiff, reduceCtorEq, List.reduceReplicate, Int.reduceToNat, Int.reduceLE, Int.reduceLT]) | (refine DrawK.intro (by kernel_rfl) (by kernel_rfl) ?_; simp only [zero6, ea, evS, tyS, Bool.not_true, Bool.not_false, Nat.reduceAdd, Nat.reduceSub, Nat.reduceMul, Nat.reduceLT, Nat.reduceLeDiff, Nat.reduceEqDiff, reduceCtorEq, List.reduceReplicate, Int.reduceToNat, Int.reduceLE, Int.reduceLT])))
      all_goals try (((try simp only [decide_eq_true_eq, decide_eq_false_iff_not, beq_iff_eq, bne_iff_ne, ne_eq, beq_eq_false_iff_ne, bne_eq_false_iff_eq] at *) <;> (try omega)); done)
      · ((try simp only [decide_eq_true_eq, decide_eq_false_iff_not, beq_iff_eq, bne_iff_ne, ne_eq, beq_eq_false_iff_ne, bne_eq_false_iff_eq] at *) <;> (try omega))
        obtain ⟨k', hk', hR'⟩ := hs (by omega)
        rw [if_pos ⟨by omega, by omega⟩] at hR'
        rw [hR', ew1]
        simp only [textR, tokA, f0, evS, tyS, Bool.not_true, Bool.not_false, Nat.reduceAdd, Nat.reduceSub, Nat.reduceMul, Nat.reduceLT, Nat.reduceLeDiff, Nat.reduceEqDiff, reduceCtorEq, List.reduceReplicate, Int.reduceToNat, Int.reduceLE, Int.reduceLT]
      · ((try simp only [decide_eq_true_eq, decide_eq_false_iff_not, beq_iff_eq, bne_iff_ne, ne_eq, beq_eq_false_iff_ne, bne_eq_false_iff_eq] at *) <;> (try omega))
        obtain ⟨k', hk', hR'⟩ := hs (by omega)
        rw [if_neg (by omega), if_neg (by omega), if_pos (by omega)] at hR'
        rw [hR']
        simp only [textR, zero6, evS, tyS, Bool.not_true, Bool.not_false, Nat.reduceAdd, Nat.reduceSub, Nat.reduceMul, Nat.reduceLT, Nat.reduceLeDiff, Nat.reduceEqDiff, reduceCtorEq, List.reduceReplicate, Int.reduceToNat, Int.reduceLE, Int.reduceLT]
      · ((try simp only [decide_eq_true_eq, decide_eq_false_iff_not, beq_iff_eq, bne_iff_ne, ne_eq, beq_eq_false_iff_ne, bne_eq_false_iff_eq] at *) <;> (try omega))
        obtain ⟨k', hk', hR'⟩ := hs (by omega)
        rw [if_neg (by omega), if_pos (by omega)] at hR'
        refine CallK.intro b74 (by simp only [treeL, treeA, Bool.and_self]) hesc ?_
        simp only [evS, tyS, Bool.not_true, Bool.not_false, Nat.reduceAdd, Nat.reduceSub, Nat.reduceMul, Nat.reduceLT, Nat.reduceLeDiff, Nat.reduceEqDiff, reduceCtorEq, List.reduceReplicate, Int.reduceToNat, Int.reduceLE, Int.reduceLT]
        refine CondK.intro (fun h => ?_) (fun h => ?_)
        · ((try simp only [decide_eq_true_eq, decide_eq_false_iff_not, beq_iff_eq, bne_iff_ne, ne_eq, beq_eq_false_iff_ne, bne_eq_false_iff_eq] at *) <;> (try omega))
          rw [if_pos (by omega)] at hR'
          simp only [zero6, evS, tyS, Bool.not_true, Bool.not_false, Nat.reduceAdd, Nat.reduceSub, Nat.reduceMul, Nat.reduceLT, Nat.reduceLeDiff, Nat.reduceEqDiff, reduceCtorEq, List.reduceReplicate, Int.reduceToNat, Int.reduceLE, Int.reduceLT]
          rw [hR']
          simp only [textR, zero6, evS, tyS, Bool.not_true, Bool.not_false, Nat.reduceAdd, Nat.reduceSub, Nat.reduceMul, Nat.reduceLT, Nat.reduceLeDiff, Nat.reduceEqDiff, reduceCtorEq, List.reduceReplicate, Int.reduceToNat, Int.reduceLE, Int.reduceLT]
        · ((try simp only [decide_eq_true_eq, decide_eq_false_iff_not, beq_iff_eq, bne_iff_ne, ne_eq, beq_eq_false_iff_ne, bne_eq_false_iff_eq] at *) <;> (try omega))
          rw [if_neg (by omega)] at hR'
          simp only [ewn, evS, tyS, Bool.not_true, Bool.not_false, Nat.reduceAdd, Nat.reduceSub, Nat.reduceMul, Nat.reduceLT, Nat.reduceLeDiff, Nat.reduceEqDiff, reduceCtorEq, List.reduceReplicate, Int.reduceToNat, Int.reduceLE, Int.reduceLT]
          (repeat' (first | (with_reducible refine And.intro ?_ ?_) | ((first | refine GuardK.intro_f (fun h => ?_) (fun h => ?_) | refine GuardK.intro_t (fun h => ?_) (fun h => ?_) | refine CondK.intro (fun h => ?_) (fun h => ?_) | refine PickK.intro (fun h => ?_) (fun h => ?_)) <;> simp only [h, evS, tyS, Bool.not_true, Bool.not_false, Nat.reduceAdd, Nat.reduceSub, Nat.reduceMul, Nat.reduceLT, Nat.reduceLeDiff, Nat.reduceEqDiff, reduceCtorEq, List.reduceReplicate, Int.reduceToNat, Int.reduceLE, Int.reduceLT]) | (refine DrawK.intro (by kernel_rfl) (by kernel_rfl) ?_; simp only [evS, tyS, Bool.not_true, Bool.not_false, Nat.reduceAdd, Nat.reduceSub, Nat.reduceMul, Nat.reduceLT, Nat.reduceLeDiff, Nat.reduceEqDiff, reduceCtorEq, List.reduceReplicate, Int.reduceToNat, Int.reduceLE, Int.reduceLT])))
          all_goals try (((try simp only [decide_eq_true_eq, decide_eq_false_iff_not, beq_iff_eq, bne_iff_ne, ne_eq, beq_eq_false_iff_ne, bne_eq_false_iff_eq] at *) <;> (try omega)); done)
          all_goals try exact all_one_map _
          refine loopC.intro (i + (escF (l.drop i)).2, d ++ [UInt8.ofNat (escF (l.drop i)).1]) ⟨by simp only [List.length_append, List.length_cons, List.length_nil] at *; omega, by simp only; omega, by simp only; omega, k', by simp only; omega, hR'.symm⟩ ?_ (by simp only; omega)
          have hT := textS_app γ l b (i + (escF (l.drop i)).2) (UInt8.ofNat (escF (l.drop i)).1) hne
          refine ⟨by rw [hT], by rw [hT], ?_, .inr ?_⟩ <;> rw [hT]
          · simp only [hT, zero6, byteC, hue, hub, List.map_append, okRefL, okRef, okRefB, okRefL_map, okRefL_append, Bool.and_self, decide_true, ev1, ev2, evS, tyS, Bool.not_true, Bool.not_false, Nat.reduceAdd, Nat.reduceSub, Nat.reduceMul, Nat.reduceLT, Nat.reduceLeDiff, Nat.reduceEqDiff, reduceCtorEq, List.reduceReplicate, Int.reduceToNat, Int.reduceLE, Int.reduceLT] <;> try (first | rfl | trivial | (simp [byteC, hue, hub, okRef]; done))
          · refine ⟨?_, ?_, ?_⟩ <;> simp only [hT, zero6, byteC, hue, hub, List.map_append, okRefL, okRef, okRefB, okRefL_map, okRefL_append, Bool.and_self, decide_true, ev1, ev2, evS, tyS, Bool.not_true, Bool.not_false, Nat.reduceAdd, Nat.reduceSub, Nat.reduceMul, Nat.reduceLT, Nat.reduceLeDiff, Nat.reduceEqDiff, reduceCtorEq, List.reduceReplicate, Int.reduceToNat, Int.reduceLE, Int.reduceLT] <;> try (first | rfl | trivial | (simp [byteC, hue, hub, okRef]; done))
      · ((try simp only [decide_eq_true_eq, decide_eq_false_iff_not, beq_iff_eq, bne_iff_ne, ne_eq, beq_eq_false_iff_ne, bne_eq_false_iff_eq] at *) <;> (try omega))
        obtain ⟨k', hk', hR'⟩ := hs (by omega)
        rw [if_neg (by omega), if_neg (by omega), if_pos (by omega)] at hR'
        rw [hR']
        simp only [textR, zero6, evS, tyS, Bool.not_true, Bool.not_false, Nat.reduceAdd, Nat.reduceSub, Nat.reduceMul, Nat.reduceLT, Nat.reduceLeDiff, Nat.reduceEqDiff, reduceCtorEq, List.reduceReplicate, Int.reduceToNat, Int.reduceLE, Int.reduceLT]
      · ((try simp only [decide_eq_true_eq, decide_eq_false_iff_not, beq_iff_eq, bne_iff_ne, ne_eq, beq_eq_false_iff_ne, bne_eq_false_iff_eq] at *) <;> (try omega))
        obtain ⟨k', hk', hR'⟩ := hs (by omega)
        rw [if_neg (by omega), if_neg (by omega), if_neg (by omega)] at hR'
        rw [ew1]
        refine loopC.intro (i + 1, d ++ [UInt8.ofNat (atL l i)]) ⟨by simp only [List.length_append, List.length_cons, List.length_nil] at *; omega, by simp only; omega, by simp only; omega, k', by simp only; omega, hR'.symm⟩ ?_ (by simp only; omega)
        have hT := textS_app γ l b (i + 1) (UInt8.ofNat (atL l i)) hne
        refine ⟨by rw [hT], by rw [hT], ?_, .inr ?_⟩ <;> rw [hT]
        · simp only [hT, zero6, byteC, hue, hub, List.map_append, okRefL, okRef, okRefB, okRefL_map, okRefL_append, Bool.and_self, decide_true, ev1, ev2, evS, tyS, Bool.not_true, Bool.not_false, Nat.reduceAdd, Nat.reduceSub, Nat.reduceMul, Nat.reduceLT, Nat.reduceLeDiff, Nat.reduceEqDiff, reduceCtorEq, List.reduceReplicate, Int.reduceToNat, Int.reduceLE, Int.reduceLT] <;> try (first | rfl | trivial | (simp [byteC, hue, hub, okRef]; done))
        · refine ⟨?_, ?_, ?_⟩ <;> simp only [hT, zero6, byteC, hue, hub, List.map_append, okRefL, okRef, okRefB, okRefL_map, okRefL_append, Bool.and_self, decide_true, ev1, ev2, evS, tyS, Bool.not_true, Bool.not_false, Nat.reduceAdd, Nat.reduceSub, Nat.reduceMul, Nat.reduceLT, Nat.reduceLeDiff, Nat.reduceEqDiff, reduceCtorEq, List.reduceReplicate, Int.reduceToNat, Int.reduceLE, Int.reduceLT] <;> try (first | rfl | trivial | (simp [byteC, hue, hub, okRef]; done))
      · ((try simp only [decide_eq_true_eq, decide_eq_false_iff_not, beq_iff_eq, bne_iff_ne, ne_eq, beq_eq_false_iff_ne, bne_eq_false_iff_eq] at *) <;> (try omega))
        obtain ⟨k', hk', hR'⟩ := hs (by omega)
        rw [if_neg (by omega), if_neg (by omega), if_pos (by omega)] at hR'
        rw [hR']
        simp only [textR, zero6, evS, tyS, Bool.not_true, Bool.not_false, Nat.reduceAdd, Nat.reduceSub, Nat.reduceMul, Nat.reduceLT, Nat.reduceLeDiff, Nat.reduceEqDiff, reduceCtorEq, List.reduceReplicate, Int.reduceToNat, Int.reduceLE, Int.reduceLT]
      · ((try simp only [decide_eq_true_eq, decide_eq_false_iff_not, beq_iff_eq, bne_iff_ne, ne_eq, beq_eq_false_iff_ne, bne_eq_false_iff_eq] at *) <;> (try omega))
        rw [hend (by omega)]
        simp only [zero6, evS, tyS, Bool.not_true, Bool.not_false, Nat.reduceAdd, Nat.reduceSub, Nat.reduceMul, Nat.reduceLT, Nat.reduceLeDiff, Nat.reduceEqDiff, reduceCtorEq, List.reduceReplicate, Int.reduceToNat, Int.reduceLE, Int.reduceLT]
end Go.Proofs.YtplnhipgifcafaaDoor
namespace Go.Proofs.YtplnhipgifcafaaDoor
set_option linter.all false
open Go Go.Ev
variable {γ : List (Nat × AV)}
theorem atL_drop (l : List UInt8) (i k : Nat) : atL (l.drop i) k = atL l (i + k) := by simp [atL, List.getD]
/-- ref.part: what a text's part at a place stands for, and how many bytes it has; 0: there is none. -/
def partF (l : List UInt8) (i : Nat) : Nat × Nat :=
  if l.length ≤ i ∨ atL l i < 32 ∨ 126 < atL l i ∨ atL l i = 34 then (0, 0)
  else if atL l i ≠ 92 then (atL l i, 1)
  else if l.length < i + 2 then (0, 0)
  else if atL l (i + 1) = 34 then (34, 2)
  else if atL l (i + 1) = 92 then (92, 2)
  else if atL l (i + 1) = 120 ∧ i + 4 ≤ l.length ∧ 0 ≤ hexN (atL l (i + 2)) ∧ 0 ≤ hexN (atL l (i + 3)) ∧ (escV (atL l (i + 2)) (atL l (i + 3)) < 32 ∨ 126 < escV (atL l (i + 2)) (atL l (i + 3))) then (escV (atL l (i + 2)) (atL l (i + 3)), 4)
  else (0, 0)
set_option maxRecDepth 20000 in
set_option maxHeartbeats 2000000 in
theorem refPart_ev (b : Bool) (l : List UInt8) (i : Nat) (hl : l.length ≤ 140737488351232) (hi : i ≤ l.length) : Ev Tryd.prog γ 68 [.sl b l.length l.length (l.map byteC), .v (.int .i64 i)] (.tup [.v (.int .u8 (partF l i).1), .v (.int .i64 (partF l i).2)]) := by
  refine Ev.of Tryd.func68 rfl ?_
  have ew : IntKind.i64.wrap ((l.length : Int) - i) = ((l.length - i : Nat) : Int) := by rw [i64w] <;> omega
  have e1 : IntKind.i64.wrap ((i : Int) + 1) = ((i + 1 : Nat) : Int) := by rw [i64w] <;> omega
  have e2 : IntKind.i64.wrap ((i : Int) + 2) = ((i + 2 : Nat) : Int) := by rw [i64w] <;> omega
  have e3 : IntKind.i64.wrap ((i : Int) + 3) = ((i + 3 : Nat) : Int) := by rw [i64w] <;> omega
  have ea : ∀ j, (l.getD j 0).toNat = atL l j := fun _ => rfl
  have x2 := hexN_le (atL l (i + 2))
  have x3 := hexN_le (atL l (i + 3))
  have w1 : IntKind.i64.wrap (16 * hexN (atL l (i + 2))) = 16 * hexN (atL l (i + 2)) := by rw [i64w] <;> omega
  have w2 : IntKind.i64.wrap (16 * hexN (atL l (i + 2)) + hexN (atL l (i + 3))) = 16 * hexN (atL l (i + 2)) + hexN (atL l (i + 3)) := by rw [i64w] <;> omega
  have h2 := refHex_ev (γ := γ) (atL l (i + 2)) (atL_lt l _)
  have h3 := refHex_ev (γ := γ) (atL l (i + 3)) (atL_lt l _)
  simp only [Tryd.f68, ew, evS, tyS, Bool.not_true, Bool.not_false, Nat.reduceAdd, Nat.reduceSub, Nat.reduceMul, Nat.reduceLT, Nat.reduceLeDiff, Nat.reduceEqDiff, reduceCtorEq, List.reduceReplicate, Int.reduceToNat, Int.reduceLE, Int.reduceLT]
  (repeat' (first | (with_reducible refine And.intro ?_ ?_) | ((first | refine GuardK.intro_f (fun h => ?_) (fun h => ?_) | refine GuardK.intro_t (fun h => ?_) (fun h => ?_) | refine CondK.intro (fun h => ?_) (fun h => ?_) | refine PickK.intro (fun h => ?_) (fun h => ?_)) <;> simp only [h, ew, e1, e2, e3, ea, w1, w2, evS, tyS, Bool.not_true, Bool.not_false, Nat.reduceAdd, Nat.reduceSub, Nat.reduceMul, Nat.reduceLT, Nat.reduceLeDiff, Nat.reduceEqDiff, reduceCtorEq, List.reduceReplicate, Int.reduceToNat, Int.reduceLE, Int.reduceLT]) | (refine DrawK.intro (by kernel_rfl) (by kernel_rfl) ?_; simp only [ew, e1, e2, e3, ea, w1, w2, evS, tyS, Bool.not_true, Bool.not_false, Nat.reduceAdd, Nat.reduceSub, Nat.reduceMul, Nat.reduceLT, Nat.reduceLeDiff, Nat.reduceEqDiff, reduceCtorEq, List.reduceReplicate, Int.reduceToNat, Int.reduceLE, Int.reduceLT])))
  all_goals try (((try simp only [decide_eq_true_eq, decide_eq_false_iff_not, beq_iff_eq, bne_iff_ne, ne_eq, beq_eq_false_iff_ne, bne_eq_false_iff_eq] at *) <;> (try omega)); done)
  all_goals try (((try simp only [decide_eq_true_eq, decide_eq_false_iff_not, beq_iff_eq, bne_iff_ne, ne_eq, beq_eq_false_iff_ne, bne_eq_false_iff_eq] at *) <;> (try omega)) <;> first | (rw [partF, if_pos (by omega)] <;> rfl) | (rw [partF, if_neg (by omega), if_pos (by omega)] <;> rfl) | (rw [partF, if_neg (by omega), if_neg (by omega), if_pos (by omega)] <;> rfl) | (rw [partF, if_neg (by omega), if_neg (by omega), if_neg (by omega), if_pos (by omega)] <;> rfl) | (rw [partF, if_neg (by omega), if_neg (by omega), if_neg (by omega), if_neg (by omega), if_pos (by omega)] <;> rfl) | (rw [partF, if_neg (by omega), if_neg (by omega), if_neg (by omega), if_neg (by omega), if_neg (by omega), if_pos (by omega)] <;> rfl) | (rw [partF, if_neg (by omega), if_neg (by omega), if_neg (by omega), if_neg (by omega), if_neg (by omega), if_neg (by omega)] <;> rfl))
  · refine CallK.intro b99 rfl h2 ?_
    simp only [evS, tyS, Bool.not_true, Bool.not_false, Nat.reduceAdd, Nat.reduceSub, Nat.reduceMul, Nat.reduceLT, Nat.reduceLeDiff, Nat.reduceEqDiff, reduceCtorEq, List.reduceReplicate, Int.reduceToNat, Int.reduceLE, Int.reduceLT]
    (repeat' (first | (with_reducible refine And.intro ?_ ?_) | ((first | refine GuardK.intro_f (fun h => ?_) (fun h => ?_) | refine GuardK.intro_t (fun h => ?_) (fun h => ?_) | refine CondK.intro (fun h => ?_) (fun h => ?_) | refine PickK.intro (fun h => ?_) (fun h => ?_)) <;> simp only [h, e2, e3, ea, w1, w2, evS, tyS, Bool.not_true, Bool.not_false, Nat.reduceAdd, Nat.reduceSub, Nat.reduceMul, Nat.reduceLT, Nat.reduceLeDiff, Nat.reduceEqDiff, reduceCtorEq, List.reduceReplicate, Int.reduceToNat, Int.reduceLE, Int.reduceLT]) | (refine DrawK.intro (by kernel_rfl) (by kernel_rfl) ?_; simp only [e2, e3, ea, w1, w2, evS, tyS, Bool.not_true, Bool.not_false, Nat.reduceAdd, Nat.reduceSub, Nat.reduceMul, Nat.reduceLT, Nat.reduceLeDiff, Nat.reduceEqDiff, reduceCtorEq, List.reduceReplicate, Int.reduceToNat, Int.reduceLE, Int.reduceLT])))
    all_goals try (((try simp only [decide_eq_true_eq, decide_eq_false_iff_not, beq_iff_eq, bne_iff_ne, ne_eq, beq_eq_false_iff_ne, bne_eq_false_iff_eq] at *) <;> (try omega)); done)
    all_goals try (((try simp only [decide_eq_true_eq, decide_eq_false_iff_not, beq_iff_eq, bne_iff_ne, ne_eq, beq_eq_false_iff_ne, bne_eq_false_iff_eq] at *) <;> (try omega)) <;> first | (rw [partF, if_pos (by omega)] <;> rfl) | (rw [partF, if_neg (by omega), if_pos (by omega)] <;> rfl) | (rw [partF, if_neg (by omega), if_neg (by omega), if_pos (by omega)] <;> rfl) | (rw [partF, if_neg (by omega), if_neg (by omega), if_neg (by omega), if_pos (by omega)] <;> rfl) | (rw [partF, if_neg (by omega), if_neg (by omega), if_neg (by omega), if_neg (by omega), if_pos (by omega)] <;> rfl) | (rw [partF, if_neg (by omega), if_neg (by omega), if_neg (by omega), if_neg (by omega), if_neg (by omega), if_pos (by omega)] <;> rfl) | (rw [partF, if_neg (by omega), if_neg (by omega), if_neg (by omega), if_neg (by omega), if_neg (by omega), if_neg (by omega)] <;> rfl))
    refine CallK.intro b99 rfl h3 ?_
    simp only [evS, tyS, Bool.not_true, Bool.not_false, Nat.reduceAdd, Nat.reduceSub, Nat.reduceMul, Nat.reduceLT, Nat.reduceLeDiff, Nat.reduceEqDiff, reduceCtorEq, List.reduceReplicate, Int.reduceToNat, Int.reduceLE, Int.reduceLT]
    (repeat' (first | (with_reducible refine And.intro ?_ ?_) | ((first | refine GuardK.intro_f (fun h => ?_) (fun h => ?_) | refine GuardK.intro_t (fun h => ?_) (fun h => ?_) | refine CondK.intro (fun h => ?_) (fun h => ?_) | refine PickK.intro (fun h => ?_) (fun h => ?_)) <;> simp only [h, e2, e3, ea, w1, w2, evS, tyS, Bool.not_true, Bool.not_false, Nat.reduceAdd, Nat.reduceSub, Nat.reduceMul, Nat.reduceLT, Nat.reduceLeDiff, Nat.reduceEqDiff, reduceCtorEq, List.reduceReplicate, Int.reduceToNat, Int.reduceLE, Int.reduceLT]) | (refine DrawK.intro (by kernel_rfl) (by kernel_rfl) ?_; simp only [e2, e3, ea, w1, w2, evS, tyS, Bool.not_true, Bool.not_false, Nat.reduceAdd, Nat.reduceSub, Nat.reduceMul, Nat.reduceLT, Nat.reduceLeDiff, Nat.reduceEqDiff, reduceCtorEq, List.reduceReplicate, Int.reduceToNat, Int.reduceLE, Int.reduceLT])))
    all_goals try (((try simp only [decide_eq_true_eq, decide_eq_false_iff_not, beq_iff_eq, bne_iff_ne, ne_eq, beq_eq_false_iff_ne, bne_eq_false_iff_eq] at *) <;> (try omega)); done)
    all_goals try (((try simp only [decide_eq_true_eq, decide_eq_false_iff_not, beq_iff_eq, bne_iff_ne, ne_eq, beq_eq_false_iff_ne, bne_eq_false_iff_eq] at *) <;> (try omega)) <;> first | (rw [partF, if_pos (by omega)] <;> rfl) | (rw [partF, if_neg (by omega), if_pos (by omega)] <;> rfl) | (rw [partF, if_neg (by omega), if_neg (by omega), if_pos (by omega)] <;> rfl) | (rw [partF, if_neg (by omega), if_neg (by omega), if_neg (by omega), if_pos (by omega)] <;> rfl) | (rw [partF, if_neg (by omega), if_neg (by omega), if_neg (by omega), if_neg (by omega), if_pos (by omega)] <;> rfl) | (rw [partF, if_neg (by omega), if_neg (by omega), if_neg (by omega), if_neg (by omega), if_neg (by omega), if_pos (by omega)] <;> rfl) | (rw [partF, if_neg (by omega), if_neg (by omega), if_neg (by omega), if_neg (by omega), if_neg (by omega), if_neg (by omega)] <;> rfl))
    refine CallK.intro b99 rfl h2 ?_
    simp only [w1, e2, e3, ea, evS, tyS, Bool.not_true, Bool.not_false, Nat.reduceAdd, Nat.reduceSub, Nat.reduceMul, Nat.reduceLT, Nat.reduceLeDiff, Nat.reduceEqDiff, reduceCtorEq, List.reduceReplicate, Int.reduceToNat, Int.reduceLE, Int.reduceLT]
    (repeat' (first | (with_reducible refine And.intro ?_ ?_) | ((first | refine GuardK.intro_f (fun h => ?_) (fun h => ?_) | refine GuardK.intro_t (fun h => ?_) (fun h => ?_) | refine CondK.intro (fun h => ?_) (fun h => ?_) | refine PickK.intro (fun h => ?_) (fun h => ?_)) <;> simp only [h, e2, e3, ea, w1, w2, evS, tyS, Bool.not_true, Bool.not_false, Nat.reduceAdd, Nat.reduceSub, Nat.reduceMul, Nat.reduceLT, Nat.reduceLeDiff, Nat.reduceEqDiff, reduceCtorEq, List.reduceReplicate, Int.reduceToNat, Int.reduceLE, Int.reduceLT]) | (refine DrawK.intro (by kernel_rfl) (by kernel_rfl) ?_; simp only [e2, e3, ea, w1, w2, evS, tyS, Bool.not_true, Bool.not_false, Nat.reduceAdd, Nat.reduceSub, Nat.reduceMul, Nat.reduceLT, Nat.reduceLeDiff, Nat.reduceEqDiff, reduceCtorEq, List.reduceReplicate, Int.reduceToNat, Int.reduceLE, Int.reduceLT])))
    all_goals try (((try simp only [decide_eq_true_eq, decide_eq_false_iff_not, beq_iff_eq, bne_iff_ne, ne_eq, beq_eq_false_iff_ne, bne_eq_false_iff_eq] at *) <;> (try omega)); done)
    refine CallK.intro b99 rfl h3 ?_
    by_cases hh : 0 ≤ hexN (atL l (i + 2)) ∧ 0 ≤ hexN (atL l (i + 3))
    · have u1 : IntKind.u8.wrap (16 * hexN (atL l (i + 2)) + hexN (atL l (i + 3))) = (escV (atL l (i + 2)) (atL l (i + 3)) : Int) := by
        rw [u8w (by omega) (by omega)]; unfold escV; omega
      simp only [w1, w2, u1, evS, tyS, Bool.not_true, Bool.not_false, Nat.reduceAdd, Nat.reduceSub, Nat.reduceMul, Nat.reduceLT, Nat.reduceLeDiff, Nat.reduceEqDiff, reduceCtorEq, List.reduceReplicate, Int.reduceToNat, Int.reduceLE, Int.reduceLT]
      (repeat' (first | (with_reducible refine And.intro ?_ ?_) | ((first | refine GuardK.intro_f (fun h => ?_) (fun h => ?_) | refine GuardK.intro_t (fun h => ?_) (fun h => ?_) | refine CondK.intro (fun h => ?_) (fun h => ?_) | refine PickK.intro (fun h => ?_) (fun h => ?_)) <;> simp only [h, evS, tyS, Bool.not_true, Bool.not_false, Nat.reduceAdd, Nat.reduceSub, Nat.reduceMul, Nat.reduceLT, Nat.reduceLeDiff, Nat.reduceEqDiff, reduceCtorEq, List.reduceReplicate, Int.reduceToNat, Int.reduceLE, Int.reduceLT]) | (refine DrawK.intro (by kernel_rfl) (by kernel_rfl) ?_; simp only [evS, tyS, Bool.not_true, Bool.not_false, Nat.reduceAdd, Nat.reduceSub, Nat.reduceMul, Nat.reduceLT, Nat.reduceLeDiff, Nat.reduceEqDiff, reduceCtorEq, List.reduceReplicate, Int.reduceToNat, Int.reduceLE, Int.reduceLT])))
      all_goals try (((try simp only [decide_eq_true_eq, decide_eq_false_iff_not, beq_iff_eq, bne_iff_ne, ne_eq, beq_eq_false_iff_ne, bne_eq_false_iff_eq] at *) <;> (try omega)) <;> first | (rw [partF, if_pos (by omega)] <;> rfl) | (rw [partF, if_neg (by omega), if_pos (by omega)] <;> rfl) | (rw [partF, if_neg (by omega), if_neg (by omega), if_pos (by omega)] <;> rfl) | (rw [partF, if_neg (by omega), if_neg (by omega), if_neg (by omega), if_pos (by omega)] <;> rfl) | (rw [partF, if_neg (by omega), if_neg (by omega), if_neg (by omega), if_neg (by omega), if_pos (by omega)] <;> rfl) | (rw [partF, if_neg (by omega), if_neg (by omega), if_neg (by omega), if_neg (by omega), if_neg (by omega), if_pos (by omega)] <;> rfl) | (rw [partF, if_neg (by omega), if_neg (by omega), if_neg (by omega), if_neg (by omega), if_neg (by omega), if_neg (by omega)] <;> rfl))
    · ((try simp only [decide_eq_true_eq, decide_eq_false_iff_not, beq_iff_eq, bne_iff_ne, ne_eq, beq_eq_false_iff_ne, bne_eq_false_iff_eq] at *) <;> (try omega))
end Go.Proofs.YtplnhipgifcafaaDoor
namespace Go.Proofs.YtplnhipgifcafaaDoor
set_option linter.all false
open Go Go.Ev
variable {γ : List (Nat × AV)}
theorem b68 : bodyT Tryd.prog 68 := ⟨_, Tryd.func68, by kernel_rfl, by kernel_rfl⟩
/-- ref.text's loop: the parts one by one. -/
def partsF : Nat → List UInt8 → Nat → List UInt8 → List UInt8 × Nat
  | 0, _, i, d => (d, i)
  | k + 1, l, i, d => if (partF l i).2 = 0 then (d, i) else partsF k l (i + (partF l i).2) (d ++ [UInt8.ofNat (partF l i).1])
theorem partF_2 (l : List UInt8) (i : Nat) : (partF l i).2 = 0 ∨ (i + (partF l i).2 ≤ l.length ∧ (partF l i).2 ≤ 4) := by
  unfold partF
  split
  · exact .inl rfl
  · split
    · right; constructor
      · show i + 1 ≤ _; omega
      · show 1 ≤ 4; omega
    · split
      · exact .inl rfl
      · split
        · right; constructor
          · show i + 2 ≤ _; omega
          · show 2 ≤ 4; omega
        · split
          · right; constructor
            · show i + 2 ≤ _; omega
            · show 2 ≤ 4; omega
          · split
            · right; constructor
              · show i + 4 ≤ _; omega
              · show 4 ≤ 4; omega
            · exact .inl rfl
theorem partF_1 (l : List UInt8) (i : Nat) : (partF l i).1 < 256 := by
  unfold partF
  have := hexN_le (atL l (i + 2)); have := hexN_le (atL l (i + 3))
  split
  · show 0 < 256; omega
  · split
    · exact atL_lt l i
    · split
      · show 0 < 256; omega
      · split
        · show 34 < 256; omega
        · split
          · show 92 < 256; omega
          · split
            · show escV _ _ < 256
              unfold escV; omega
            · show 0 < 256; omega
def refTextR (l : List UInt8) (at' : Nat) (q : List UInt8 × Nat) : AV :=
  if l.length ≤ q.2 ∨ atL l q.2 ≠ 34 ∨ 256 < q.1.length then .tup [.agg zero6, .v (.int .i64 11)]
  else .tup [tokA 4 q.1 0 f0 at' ((q.2 + 1 - at' : Nat) : Int), .v (.int .i64 0)]
def rtextS (γ : List (Nat × AV)) (l : List UInt8) (b : Bool) (p : Nat) : Nat × List UInt8 → St
  | (i, []) => ⟨⟨52, [(0, .sl b l.length l.length (l.map byteC)), (1, .v (.int .i64 p)), (4, .ptr 0 0 0), (6, .v (.int .i64 i)), (7, .v (.slice none 0 0))], γ⟩, [⟨0, 63, zero6⟩]⟩
  | (i, x :: d) => ⟨⟨52, [(0, .sl b l.length l.length (l.map byteC)), (1, .v (.int .i64 p)), (4, .ptr 0 0 0), (6, .v (.int .i64 i)), (7, .own 2 d.length (x :: d).length)], γ⟩, [⟨0, 63, zero6⟩, ⟨0, 5, [byteC x]⟩, ⟨d.length, 5, (x :: d).map byteC⟩]⟩
theorem rtextS_nil (γ : List (Nat × AV)) (l : List UInt8) (b : Bool) (p i : Nat) : rtextS γ l b p (i, []) = ⟨⟨52, [(0, .sl b l.length l.length (l.map byteC)), (1, .v (.int .i64 p)), (4, .ptr 0 0 0), (6, .v (.int .i64 i)), (7, .v (.slice none 0 0))], γ⟩, [⟨0, 63, zero6⟩]⟩ := rfl
theorem rtextS_one (γ : List (Nat × AV)) (l : List UInt8) (b : Bool) (p i : Nat) (x : UInt8) : rtextS γ l b p (i, [x]) = ⟨⟨52, [(0, .sl b l.length l.length (l.map byteC)), (1, .v (.int .i64 p)), (4, .ptr 0 0 0), (6, .v (.int .i64 i)), (7, .own 2 0 1)], γ⟩, [⟨0, 63, zero6⟩, ⟨0, 5, [byteC x]⟩, ⟨0, 5, [byteC x]⟩]⟩ := rfl
theorem rtextS_ne (γ : List (Nat × AV)) (l : List UInt8) (b : Bool) (p i : Nat) {D : List UInt8} (h : D ≠ []) : rtextS γ l b p (i, D) = ⟨⟨52, [(0, .sl b l.length l.length (l.map byteC)), (1, .v (.int .i64 p)), (4, .ptr 0 0 0), (6, .v (.int .i64 i)), (7, .own 2 (D.length - 1) D.length)], γ⟩, [⟨0, 63, zero6⟩, ⟨0, 5, [byteC (D.getD 0 0)]⟩, ⟨D.length - 1, 5, D.map byteC⟩]⟩ := by
  cases D with
  | nil => exact absurd rfl h
  | cons x d => rfl
theorem rtextS_app (γ : List (Nat × AV)) (l : List UInt8) (b : Bool) (p i : Nat) {d : List UInt8} (y : UInt8) (h : d ≠ []) : rtextS γ l b p (i, d ++ [y]) = ⟨⟨52, [(0, .sl b l.length l.length (l.map byteC)), (1, .v (.int .i64 p)), (4, .ptr 0 0 0), (6, .v (.int .i64 i)), (7, .own 2 d.length (d.length + 1))], γ⟩, [⟨0, 63, zero6⟩, ⟨0, 5, [byteC (d.getD 0 0)]⟩, ⟨d.length, 5, d.map byteC ++ [byteC y]⟩]⟩ := by
  cases d with
  | nil => exact absurd rfl h
  | cons x d => simp [rtextS]
set_option maxHeartbeats 2000000 in
set_option maxRecDepth 20000 in
theorem refText_ev (b : Bool) (l : List UInt8) (p : Nat) (hl : l.length ≤ 140737488351232) (hp : p < l.length) : Ev Tryd.prog γ 43 [.sl b l.length l.length (l.map byteC), .v (.int .i64 p)] (refTextR l p (partsF l.length l (p + 1) [])) := by
  refine Ev.of Tryd.func43 rfl ?_
  generalize hR : refTextR l p (partsF l.length l (p + 1) []) = R
  have ep : IntKind.i64.wrap ((p : Int) + 1) = ((p + 1 : Nat) : Int) := by rw [i64w] <;> omega
  simp only [Tryd.f43, ep, evS, tyS, Bool.not_true, Bool.not_false, Nat.reduceAdd, Nat.reduceSub, Nat.reduceMul, Nat.reduceLT, Nat.reduceLeDiff, Nat.reduceEqDiff, reduceCtorEq, List.reduceReplicate, Int.reduceToNat, Int.reduceLE, Int.reduceLT]
  refine LoopK.intro (rtextS γ l b p) (fun a => a.2.length ≤ a.1 ∧ p + 1 ≤ a.1 ∧ a.1 ≤ l.length ∧ ∃ k, l.length ≤ k + a.1 ∧ refTextR l p (partsF k l a.1 a.2) = R) (fun a => l.length - a.1) (p + 1, []) ?_ ⟨by simp, by simp, by simp; omega, l.length, by simp, hR⟩ ?_
  · simp only [rtextS_nil, zero6, evS, tyS, Bool.not_true, Bool.not_false, Nat.reduceAdd, Nat.reduceSub, Nat.reduceMul, Nat.reduceLT, Nat.reduceLeDiff, Nat.reduceEqDiff, reduceCtorEq, List.reduceReplicate, Int.reduceToNat, Int.reduceLE, Int.reduceLT]
    (repeat' (first | (with_reducible refine And.intro ?_ ?_) | ((first | refine GuardK.intro_f (fun h => ?_) (fun h => ?_) | refine GuardK.intro_t (fun h => ?_) (fun h => ?_) | refine CondK.intro (fun h => ?_) (fun h => ?_) | refine PickK.intro (fun h => ?_) (fun h => ?_)) <;> simp only [h, evS, tyS, Bool.not_true, Bool.not_false, Nat.reduceAdd, Nat.reduceSub, Nat.reduceMul, Nat.reduceLT, Nat.reduceLeDiff, Nat.reduceEqDiff, reduceCtorEq, List.reduceReplicate, Int.reduceToNat, Int.reduceLE, Int.reduceLT]) | (refine DrawK.intro (by kernel_rfl) (by kernel_rfl) ?_; simp only [evS, tyS, Bool.not_true, Bool.not_false, Nat.reduceAdd, Nat.reduceSub, Nat.reduceMul, Nat.reduceLT, Nat.reduceLeDiff, Nat.reduceEqDiff, reduceCtorEq, List.reduceReplicate, Int.reduceToNat, Int.reduceLE, Int.reduceLT])))
    all_goals rfl
  · rintro ⟨i, d⟩ ⟨hd, hi1, hi4, k, hk, hR⟩
    simp only at hd hi1 hi4 hk hR
    have ea : ∀ j, (l.getD j 0).toNat = atL l j := fun _ => rfl
    have hx1 := partF_1 l i
    have hx2 := partF_2 l i
    have hue : ((UInt8.ofNat (partF l i).1).toNat : Int) = (partF l i).1 := by rw [UInt8.toNat_ofNat_of_lt' hx1]
    have ei : IntKind.i64.wrap ((i : Int) + 1) = ((i + 1 : Nat) : Int) := by rw [i64w] <;> omega
    have ei2 : IntKind.i64.wrap (((i + 1 : Nat) : Int) - p) = ((i + 1 - p : Nat) : Int) := by rw [i64w] <;> omega
    have ewn : IntKind.i64.wrap ((i : Int) + ((partF l i).2 : Nat)) = ((i + (partF l i).2 : Nat) : Int) := by rw [i64w] <;> omega
    have hstop : (partF l i).2 = 0 → R = refTextR l p (d, i) := fun h => by
      rw [← hR]
      cases k with
      | zero => rfl
      | succ k => simp only [partsF, if_pos h]
    have hgo : (partF l i).2 ≠ 0 → ∃ k', l.length ≤ k' + (i + (partF l i).2) ∧ refTextR l p (partsF k' l (i + (partF l i).2) (d ++ [UInt8.ofNat (partF l i).1])) = R := fun h => by
      cases k with
      | zero => omega
      | succ k => exact ⟨k, by omega, by rw [← hR]; simp only [partsF, if_neg h]⟩
    have hpart := refPart_ev (γ := γ) b l i hl hi4
    clear hR
    by_cases hne : d = []
    · subst hne
      simp only [rtextS_nil, zero6, evS, tyS, Bool.not_true, Bool.not_false, Nat.reduceAdd, Nat.reduceSub, Nat.reduceMul, Nat.reduceLT, Nat.reduceLeDiff, Nat.reduceEqDiff, reduceCtorEq, List.reduceReplicate, Int.reduceToNat, Int.reduceLE, Int.reduceLT]
      refine CallK.intro b68 (by simp only [treeL, treeA, Bool.and_self]) hpart ?_
      simp only [evS, tyS, Bool.not_true, Bool.not_false, Nat.reduceAdd, Nat.reduceSub, Nat.reduceMul, Nat.reduceLT, Nat.reduceLeDiff, Nat.reduceEqDiff, reduceCtorEq, List.reduceReplicate, Int.reduceToNat, Int.reduceLE, Int.reduceLT]
      refine CondK.intro (fun h => ?_) (fun h => ?_)
      · simp only [h, zero6, ea, evS, tyS, Bool.not_true, Bool.not_false, Nat.reduceAdd, Nat.reduceSub, Nat.reduceMul, Nat.reduceLT, Nat.reduceLeDiff, Nat.reduceEqDiff, reduceCtorEq, List.reduceReplicate, Int.reduceToNat, Int.reduceLE, Int.reduceLT]
        (repeat' (first | (with_reducible refine And.intro ?_ ?_) | ((first | refine GuardK.intro_f (fun h => ?_) (fun h => ?_) | refine GuardK.intro_t (fun h => ?_) (fun h => ?_) | refine CondK.intro (fun h => ?_) (fun h => ?_) | refine PickK.intro (fun h => ?_) (fun h => ?_)) <;> simp only [h, ea, ei, ei2, zero6, evS, tyS, Bool.not_true, Bool.not_false, Nat.reduceAdd, Nat.reduceSub, Nat.reduceMul, Nat.reduceLT, Nat.reduceLeDiff, Nat.reduceEqDiff, reduceCtorEq, List.reduceReplicate, Int.reduceToNat, Int.reduceLE, Int.reduceLT]) | (refine DrawK.intro (by kernel_rfl) (by kernel_rfl) ?_; simp only [ea, ei, ei2, zero6, evS, tyS, Bool.not_true, Bool.not_false, Nat.reduceAdd, Nat.reduceSub, Nat.reduceMul, Nat.reduceLT, Nat.reduceLeDiff, Nat.reduceEqDiff, reduceCtorEq, List.reduceReplicate, Int.reduceToNat, Int.reduceLE, Int.reduceLT])))
        all_goals try (((try simp only [decide_eq_true_eq, decide_eq_false_iff_not, beq_iff_eq, bne_iff_ne, ne_eq, beq_eq_false_iff_ne, bne_eq_false_iff_eq] at *) <;> (try omega)); done)
        · ((try simp only [decide_eq_true_eq, decide_eq_false_iff_not, beq_iff_eq, bne_iff_ne, ne_eq, beq_eq_false_iff_ne, bne_eq_false_iff_eq] at *) <;> (try omega))
          rw [hstop (by omega), refTextR, if_neg (by simp only [List.length_nil]; omega)]
          simp only [tokA, f0, evS, tyS, Bool.not_true, Bool.not_false, Nat.reduceAdd, Nat.reduceSub, Nat.reduceMul, Nat.reduceLT, Nat.reduceLeDiff, Nat.reduceEqDiff, reduceCtorEq, List.reduceReplicate, Int.reduceToNat, Int.reduceLE, Int.reduceLT]
        · ((try simp only [decide_eq_true_eq, decide_eq_false_iff_not, beq_iff_eq, bne_iff_ne, ne_eq, beq_eq_false_iff_ne, bne_eq_false_iff_eq] at *) <;> (try omega))
          rw [hstop (by omega), refTextR, if_pos (by simp only; omega)]
          simp only [zero6, evS, tyS, Bool.not_true, Bool.not_false, Nat.reduceAdd, Nat.reduceSub, Nat.reduceMul, Nat.reduceLT, Nat.reduceLeDiff, Nat.reduceEqDiff, reduceCtorEq, List.reduceReplicate, Int.reduceToNat, Int.reduceLE, Int.reduceLT]
        · ((try simp only [decide_eq_true_eq, decide_eq_false_iff_not, beq_iff_eq, bne_iff_ne, ne_eq, beq_eq_false_iff_ne, bne_eq_false_iff_eq] at *) <;> (try omega))
          rw [hstop (by omega), refTextR, if_pos (by simp only; omega)]
          simp only [zero6, evS, tyS, Bool.not_true, Bool.not_false, Nat.reduceAdd, Nat.reduceSub, Nat.reduceMul, Nat.reduceLT, Nat.reduceLeDiff, Nat.reduceEqDiff, reduceCtorEq, List.reduceReplicate, Int.reduceToNat, Int.reduceLE, Int.reduceLT]
      · simp only [h, ewn, evS, tyS, Bool.not_true, Bool.not_false, Nat.reduceAdd, Nat.reduceSub, Nat.reduceMul, Nat.reduceLT, Nat.reduceLeDiff, Nat.reduceEqDiff, reduceCtorEq, List.reduceReplicate, Int.reduceToNat, Int.reduceLE, Int.reduceLT]
        (repeat' (first | (with_reducible refine And.intro ?_ ?_) | ((first | refine GuardK.intro_f (fun h => ?_) (fun h => ?_) | refine GuardK.intro_t (fun h => ?_) (fun h => ?_) | refine CondK.intro (fun h => ?_) (fun h => ?_) | refine PickK.intro (fun h => ?_) (fun h => ?_)) <;> simp only [h, evS, tyS, Bool.not_true, Bool.not_false, Nat.reduceAdd, Nat.reduceSub, Nat.reduceMul, Nat.reduceLT, Nat.reduceLeDiff, Nat.reduceEqDiff, reduceCtorEq, List.reduceReplicate, Int.reduceToNat, Int.reduceLE, Int.reduceLT]) | (refine DrawK.intro (by kernel_rfl) (by kernel_rfl) ?_; simp only [evS, tyS, Bool.not_true, Bool.not_false, Nat.reduceAdd, Nat.reduceSub, Nat.reduceMul, Nat.reduceLT, Nat.reduceLeDiff, Nat.reduceEqDiff, reduceCtorEq, List.reduceReplicate, Int.reduceToNat, Int.reduceLE, Int.reduceLT])))
        all_goals try (((try simp only [decide_eq_true_eq, decide_eq_false_iff_not, beq_iff_eq, bne_iff_ne, ne_eq, beq_eq_false_iff_ne, bne_eq_false_iff_eq] at *) <;> (try omega)); done)
        ((try simp only [decide_eq_true_eq, decide_eq_false_iff_not, beq_iff_eq, bne_iff_ne, ne_eq, beq_eq_false_iff_ne, bne_eq_false_iff_eq] at *) <;> (try omega))
        obtain ⟨k', hk', hR'⟩ := hgo (by omega)
        refine loopC.intro (i + (partF l i).2, [UInt8.ofNat (partF l i).1]) ⟨by simp only [List.length_cons, List.length_nil]; omega, by simp only; omega, by simp only; omega, k', by simp only; omega, hR'⟩ ?_ (by simp only; omega)
        refine ⟨rfl, rfl, ?_, .inl ?_⟩ <;> simp only [rtextS_one, zero6, byteC, hue, evS, tyS, Bool.not_true, Bool.not_false, Nat.reduceAdd, Nat.reduceSub, Nat.reduceMul, Nat.reduceLT, Nat.reduceLeDiff, Nat.reduceEqDiff, reduceCtorEq, List.reduceReplicate, Int.reduceToNat, Int.reduceLE, Int.reduceLT] <;> try (first | rfl | trivial | (simp [byteC, hue]; done))
    · have hpos : 0 < d.length := List.length_pos_iff.2 hne
      have ev1 : d.length - 1 + 1 = d.length := by omega
      have ev2 : d.length + 1 - 1 = d.length := by omega
      simp only [rtextS_ne γ l b p i hne, zero6, evS, tyS, Bool.not_true, Bool.not_false, Nat.reduceAdd, Nat.reduceSub, Nat.reduceMul, Nat.reduceLT, Nat.reduceLeDiff, Nat.reduceEqDiff, reduceCtorEq, List.reduceReplicate, Int.reduceToNat, Int.reduceLE, Int.reduceLT]
      refine CallK.intro b68 (by simp only [treeL, treeA, Bool.and_self]) hpart ?_
      simp only [evS, tyS, Bool.not_true, Bool.not_false, Nat.reduceAdd, Nat.reduceSub, Nat.reduceMul, Nat.reduceLT, Nat.reduceLeDiff, Nat.reduceEqDiff, reduceCtorEq, List.reduceReplicate, Int.reduceToNat, Int.reduceLE, Int.reduceLT]
      refine CondK.intro (fun h => ?_) (fun h => ?_)
      · simp only [h, zero6, ea, evS, tyS, Bool.not_true, Bool.not_false, Nat.reduceAdd, Nat.reduceSub, Nat.reduceMul, Nat.reduceLT, Nat.reduceLeDiff, Nat.reduceEqDiff, reduceCtorEq, List.reduceReplicate, Int.reduceToNat, Int.reduceLE, Int.reduceLT]
        (repeat' (first | (with_reducible refine And.intro ?_ ?_) | ((first | refine GuardK.intro_f (fun h => ?_) (fun h => ?_) | refine GuardK.intro_t (fun h => ?_) (fun h => ?_) | refine CondK.intro (fun h => ?_) (fun h => ?_) | refine PickK.intro (fun h => ?_) (fun h => ?_)) <;> simp only [h, ea, ei, ei2, zero6, evS, tyS, Bool.not_true, Bool.not_false, Nat.reduceAdd, Nat.reduceSub, Nat.reduceMul, Nat.reduceLT, Nat.reduceLeDiff, Nat.reduceEqDiff, reduceCtorEq, List.reduceReplicate, Int.reduceToNat, Int.reduceLE, Int.reduceLT]) | (refine DrawK.intro (by kernel_rfl) (by kernel_rfl) ?_; simp only [ea, ei, ei2, zero6, evS, tyS, Bool.not_true, Bool.not_false, Nat.reduceAdd, Nat.reduceSub, Nat.reduceMul, Nat.reduceLT, Nat.reduceLeDiff, Nat.reduceEqDiff, reduceCtorEq, List.reduceReplicate, Int.reduceToNat, Int.reduceLE, Int.reduceLT])))
        all_goals try (((try simp only [decide_eq_true_eq, decide_eq_false_iff_not, beq_iff_eq, bne_iff_ne, ne_eq, beq_eq_false_iff_ne, bne_eq_false_iff_eq] at *) <;> (try omega)); done)
        · ((try simp only [decide_eq_true_eq, decide_eq_false_iff_not, beq_iff_eq, bne_iff_ne, ne_eq, beq_eq_false_iff_ne, bne_eq_false_iff_eq] at *) <;> (try omega))
          rw [hstop (by omega), refTextR, if_pos (by simp only; omega)]
          simp only [zero6, evS, tyS, Bool.not_true, Bool.not_false, Nat.reduceAdd, Nat.reduceSub, Nat.reduceMul, Nat.reduceLT, Nat.reduceLeDiff, Nat.reduceEqDiff, reduceCtorEq, List.reduceReplicate, Int.reduceToNat, Int.reduceLE, Int.reduceLT]
        · ((try simp only [decide_eq_true_eq, decide_eq_false_iff_not, beq_iff_eq, bne_iff_ne, ne_eq, beq_eq_false_iff_ne, bne_eq_false_iff_eq] at *) <;> (try omega))
          rw [hstop (by omega), refTextR, if_neg (by simp only; omega)]
          simp only [tokA, f0, evS, tyS, Bool.not_true, Bool.not_false, Nat.reduceAdd, Nat.reduceSub, Nat.reduceMul, Nat.reduceLT, Nat.reduceLeDiff, Nat.reduceEqDiff, reduceCtorEq, List.reduceReplicate, Int.reduceToNat, Int.reduceLE, Int.reduceLT]
        · ((try simp only [decide_eq_true_eq, decide_eq_false_iff_not, beq_iff_eq, bne_iff_ne, ne_eq, beq_eq_false_iff_ne, bne_eq_false_iff_eq] at *) <;> (try omega))
          rw [hstop (by omega), refTextR, if_pos (by simp only; omega)]
          simp only [zero6, evS, tyS, Bool.not_true, Bool.not_false, Nat.reduceAdd, Nat.reduceSub, Nat.reduceMul, Nat.reduceLT, Nat.reduceLeDiff, Nat.reduceEqDiff, reduceCtorEq, List.reduceReplicate, Int.reduceToNat, Int.reduceLE, Int.reduceLT]
        · ((try simp only [decide_eq_true_eq, decide_eq_false_iff_not, beq_iff_eq, bne_iff_ne, ne_eq, beq_eq_false_iff_ne, bne_eq_false_iff_eq] at *) <;> (try omega))
          rw [hstop (by omega), refTextR, if_pos (by simp only; omega)]
          simp only [zero6, evS, tyS, Bool.not_true, Bool.not_false, Nat.reduceAdd, Nat.reduceSub, Nat.reduceMul, Nat.reduceLT, Nat.reduceLeDiff, Nat.reduceEqDiff, reduceCtorEq, List.reduceReplicate, Int.reduceToNat, Int.reduceLE, Int.reduceLT]
      · simp only [h, ewn, evS, tyS, Bool.not_true, Bool.not_false, Nat.reduceAdd, Nat.reduceSub, Nat.reduceMul, Nat.reduceLT, Nat.reduceLeDiff, Nat.reduceEqDiff, reduceCtorEq, List.reduceReplicate, Int.reduceToNat, Int.reduceLE, Int.reduceLT]
        (repeat' (first | (with_reducible refine And.intro ?_ ?_) | ((first | refine GuardK.intro_f (fun h => ?_) (fun h => ?_) | refine GuardK.intro_t (fun h => ?_) (fun h => ?_) | refine CondK.intro (fun h => ?_) (fun h => ?_) | refine PickK.intro (fun h => ?_) (fun h => ?_)) <;> simp only [h, evS, tyS, Bool.not_true, Bool.not_false, Nat.reduceAdd, Nat.reduceSub, Nat.reduceMul, Nat.reduceLT, Nat.reduceLeDiff, Nat.reduceEqDiff, reduceCtorEq, List.reduceReplicate, Int.reduceToNat, Int.reduceLE, Int.reduceLT]) | (refine DrawK.intro (by kernel_rfl) (by kernel_rfl) ?_; simp only [evS, tyS, Bool.not_true, Bool.not_false, Nat.reduceAdd, Nat.reduceSub, Nat.reduceMul, Nat.reduceLT, Nat.reduceLeDiff, Nat.reduceEqDiff, reduceCtorEq, List.reduceReplicate, Int.reduceToNat, Int.reduceLE, Int.reduceLT])))
        all_goals try (((try simp only [decide_eq_true_eq, decide_eq_false_iff_not, beq_iff_eq, bne_iff_ne, ne_eq, beq_eq_false_iff_ne, bne_eq_false_iff_eq] at *) <;> (try omega)); done)
        all_goals try exact all_one_map _
        ((try simp only [decide_eq_true_eq, decide_eq_false_iff_not, beq_iff_eq, bne_iff_ne, ne_eq, beq_eq_false_iff_ne, bne_eq_false_iff_eq] at *) <;> (try omega))
        obtain ⟨k', hk', hR'⟩ := hgo (by omega)
        refine loopC.intro (i + (partF l i).2, d ++ [UInt8.ofNat (partF l i).1]) ⟨by simp only [List.length_append, List.length_cons, List.length_nil]; omega, by simp only; omega, by simp only; omega, k', by simp only; omega, hR'⟩ ?_ (by simp only; omega)
        have hT := rtextS_app γ l b p (i + (partF l i).2) (UInt8.ofNat (partF l i).1) hne
        refine ⟨by rw [hT], by rw [hT], ?_, .inr ?_⟩ <;> rw [hT]
        · simp only [hT, rtextS_one, zero6, byteC, hue, List.map_append, okRefL, okRef, okRefB, okRefL_map, okRefL_append, Bool.and_self, decide_true, ev1, ev2, evS, tyS, Bool.not_true, Bool.not_false, Nat.reduceAdd, Nat.reduceSub, Nat.reduceMul, Nat.reduceLT, Nat.reduceLeDiff, Nat.reduceEqDiff, reduceCtorEq, List.reduceReplicate, Int.reduceToNat, Int.reduceLE, Int.reduceLT] <;> try (first | rfl | trivial | (simp [byteC, hue, okRef]; done))
        · refine ⟨?_, ?_, ?_⟩ <;> simp only [hT, rtextS_one, zero6, byteC, hue, List.map_append, okRefL, okRef, okRefB, okRefL_map, okRefL_append, Bool.and_self, decide_true, ev1, ev2, evS, tyS, Bool.not_true, Bool.not_false, Nat.reduceAdd, Nat.reduceSub, Nat.reduceMul, Nat.reduceLT, Nat.reduceLeDiff, Nat.reduceEqDiff, reduceCtorEq, List.reduceReplicate, Int.reduceToNat, Int.reduceLE, Int.reduceLT] <;> try (first | rfl | trivial | (simp [byteC, hue, okRef]; done))
end Go.Proofs.YtplnhipgifcafaaDoor
namespace Go.Proofs.YtplnhipgifcafaaDoor
set_option linter.all false
open Go Go.Ev
variable {γ : List (Nat × AV)}
theorem spanEnd_ge (p : Nat → Bool) (l : List UInt8) (i : Nat) : i ≤ spanEnd p l i := by unfold spanEnd; omega
set_option maxRecDepth 20000 in
theorem refDigits_ev (b : Bool) (l : List UInt8) (i : Nat) (hl : l.length ≤ 140737488351232) (hi : i ≤ l.length + 8) : Ev Tryd.prog γ 64 [.sl b l.length l.length (l.map byteC), .v (.int .i64 i)] (.v (.int .i64 (spanEnd digitN l i - i : Nat))) := by
  refine Ev.of Tryd.func64 rfl ?_
  have ea : ∀ j, (l.getD j 0).toNat = atL l j := fun _ => rfl
  simp only [Tryd.f64, evS, tyS, Bool.not_true, Bool.not_false, Nat.reduceAdd, Nat.reduceSub, Nat.reduceMul, Nat.reduceLT, Nat.reduceLeDiff, Nat.reduceEqDiff, reduceCtorEq, List.reduceReplicate, Int.reduceToNat, Int.reduceLE, Int.reduceLT]
  refine LoopK.intro (fun j : Nat => ⟨⟨24, [(0, .sl b l.length l.length (l.map byteC)), (1, .v (.int .i64 i)), (5, .v (.int .i64 j))], γ⟩, []⟩) (fun j => i + j ≤ l.length + 8 ∧ spanEnd digitN l (i + j) = spanEnd digitN l i) (fun j => l.length - (i + j)) 0 ?_ ⟨by omega, rfl⟩ (fun j hj => ?_)
  · simp only [evS, tyS, Bool.not_true, Bool.not_false, Nat.reduceAdd, Nat.reduceSub, Nat.reduceMul, Nat.reduceLT, Nat.reduceLeDiff, Nat.reduceEqDiff, reduceCtorEq, List.reduceReplicate, Int.reduceToNat, Int.reduceLE, Int.reduceLT]
    rfl
  · have ew : IntKind.i64.wrap ((i : Int) + j) = ((i + j : Nat) : Int) := by rw [i64w] <;> omega
    have ej : IntKind.i64.wrap ((j : Int) + 1) = ((j + 1 : Nat) : Int) := by rw [i64w] <;> omega
    have hstop : (i + j < l.length → digitN (atL l (i + j)) = false) → spanEnd digitN l i - i = j := fun h => by
      rw [← hj.2, spanEnd_stop h]; omega
    simp only [ew, evS, tyS, Bool.not_true, Bool.not_false, Nat.reduceAdd, Nat.reduceSub, Nat.reduceMul, Nat.reduceLT, Nat.reduceLeDiff, Nat.reduceEqDiff, reduceCtorEq, List.reduceReplicate, Int.reduceToNat, Int.reduceLE, Int.reduceLT]
    (repeat' (first | (with_reducible refine And.intro ?_ ?_) | ((first | refine GuardK.intro_f (fun h => ?_) (fun h => ?_) | refine GuardK.intro_t (fun h => ?_) (fun h => ?_) | refine CondK.intro (fun h => ?_) (fun h => ?_) | refine PickK.intro (fun h => ?_) (fun h => ?_)) <;> simp only [h, ew, ea, evS, tyS, Bool.not_true, Bool.not_false, Nat.reduceAdd, Nat.reduceSub, Nat.reduceMul, Nat.reduceLT, Nat.reduceLeDiff, Nat.reduceEqDiff, reduceCtorEq, List.reduceReplicate, Int.reduceToNat, Int.reduceLE, Int.reduceLT]) | (refine DrawK.intro (by kernel_rfl) (by kernel_rfl) ?_; simp only [ew, ea, evS, tyS, Bool.not_true, Bool.not_false, Nat.reduceAdd, Nat.reduceSub, Nat.reduceMul, Nat.reduceLT, Nat.reduceLeDiff, Nat.reduceEqDiff, reduceCtorEq, List.reduceReplicate, Int.reduceToNat, Int.reduceLE, Int.reduceLT])))
    all_goals try (((try simp only [decide_eq_true_eq, decide_eq_false_iff_not, beq_iff_eq, bne_iff_ne, ne_eq, beq_eq_false_iff_ne, bne_eq_false_iff_eq] at *) <;> (try omega)); done)
    · ((try simp only [decide_eq_true_eq, decide_eq_false_iff_not, beq_iff_eq, bne_iff_ne, ne_eq, beq_eq_false_iff_ne, bne_eq_false_iff_eq] at *) <;> (try omega))
      refine CallK.intro b41 rfl (refDigit_ev _) ?_
      simp only [evS, tyS, Bool.not_true, Bool.not_false, Nat.reduceAdd, Nat.reduceSub, Nat.reduceMul, Nat.reduceLT, Nat.reduceLeDiff, Nat.reduceEqDiff, reduceCtorEq, List.reduceReplicate, Int.reduceToNat, Int.reduceLE, Int.reduceLT]
      refine CondK.intro (fun h => ?_) (fun h => ?_) <;> simp only [h, ej, evS, tyS, Bool.not_true, Bool.not_false, Nat.reduceAdd, Nat.reduceSub, Nat.reduceMul, Nat.reduceLT, Nat.reduceLeDiff, Nat.reduceEqDiff, reduceCtorEq, List.reduceReplicate, Int.reduceToNat, Int.reduceLE, Int.reduceLT]
      · refine loopC.intro (j + 1) ⟨by omega, by rw [← hj.2, spanEnd_step (by omega) h]; congr 1⟩ ?_ (by omega)
        simp only [ej, evS, tyS, Bool.not_true, Bool.not_false, Nat.reduceAdd, Nat.reduceSub, Nat.reduceMul, Nat.reduceLT, Nat.reduceLeDiff, Nat.reduceEqDiff, reduceCtorEq, List.reduceReplicate, Int.reduceToNat, Int.reduceLE, Int.reduceLT]
      · rw [hstop fun _ => h]
    · ((try simp only [decide_eq_true_eq, decide_eq_false_iff_not, beq_iff_eq, bne_iff_ne, ne_eq, beq_eq_false_iff_ne, bne_eq_false_iff_eq] at *) <;> (try omega))
      rw [hstop fun h' => by omega]
end Go.Proofs.YtplnhipgifcafaaDoor
namespace Go.Proofs.YtplnhipgifcafaaDoor
set_option linter.all false
open Go Go.Ev
variable {γ : List (Nat × AV)}
def marksL : List (List UInt8) := [[40], [41], [123], [125], [44], [59], [58], [46], [38], [43], [45], [42], [47], [37], [60], [62], [33], [61], [95], [61, 61], [33, 61], [60, 61], [62, 61], [38, 38], [124, 124], [45, 62]]
set_option maxHeartbeats 4000000 in
set_option maxRecDepth 40000 in
theorem refIsMark_ev (l : List UInt8) : Ev Tryd.prog γ 44 [.v (.string ⟨l.toArray⟩)] (.v (.bool (marksL.contains l))) := by
  refine Ev.of Tryd.func44 rfl ?_
  simp only [Tryd.f44, evS, tyS, Bool.not_true, Bool.not_false, Nat.reduceAdd, Nat.reduceSub, Nat.reduceMul, Nat.reduceLT, Nat.reduceLeDiff, Nat.reduceEqDiff, reduceCtorEq, List.reduceReplicate, Int.reduceToNat, Int.reduceLE, Int.reduceLT]
  (repeat' (first | (with_reducible refine And.intro ?_ ?_) | ((first | refine GuardK.intro_f (fun h => ?_) (fun h => ?_) | refine GuardK.intro_t (fun h => ?_) (fun h => ?_) | refine CondK.intro (fun h => ?_) (fun h => ?_) | refine PickK.intro (fun h => ?_) (fun h => ?_)) <;> simp only [h, evS, tyS, Bool.not_true, Bool.not_false, Nat.reduceAdd, Nat.reduceSub, Nat.reduceMul, Nat.reduceLT, Nat.reduceLeDiff, Nat.reduceEqDiff, reduceCtorEq, List.reduceReplicate, Int.reduceToNat, Int.reduceLE, Int.reduceLT]) | (refine DrawK.intro (by kernel_rfl) (by kernel_rfl) ?_; simp only [evS, tyS, Bool.not_true, Bool.not_false, Nat.reduceAdd, Nat.reduceSub, Nat.reduceMul, Nat.reduceLT, Nat.reduceLeDiff, Nat.reduceEqDiff, reduceCtorEq, List.reduceReplicate, Int.reduceToNat, Int.reduceLE, Int.reduceLT])))
  all_goals try (have e := eq_of_beq h; subst e; rfl)
  all_goals simp only [AV.v.injEq, Value.bool.injEq]
  all_goals (simp only [marksL, List.contains, List.elem, *])
end Go.Proofs.YtplnhipgifcafaaDoor
