/- Rows of bytes, known by their list. -/
import Derived.Test.YtpabcaldbphjmaaEvO
namespace Go.Ev
set_option linter.all false
open Go Go.RowKit
set_option linter.unusedVariables false
theorem take1_drop (l : List AV) (n : Nat) : take1 (l.drop n) = l[n]? := by simp [take1]
theorem take1_cons (x : AV) (l : List AV) : take1 (x :: l) = some x := rfl
theorem byteMap_at {l : List UInt8} {n : Nat} (h : n < l.length) : (l.map byteC)[n]? = some (.v (.int .u8 (l[n]'h).toNat)) := by
  simp [h, byteC]
theorem take1_byte {l : List UInt8} {n : Nat} (h : n < l.length) : take1 ((l.map byteC).drop n) = some (.v (.int .u8 (l[n]'h).toNat)) := by
  rw [take1_drop, byteMap_at h]
theorem bytesOfA_map (l : List UInt8) : bytesOfA (l.map byteC) = some l := by
  induction l with
  | nil => rfl
  | cons b l ih => simp [bytesOfA, byteC, ih]
theorem strOf_map (l : List UInt8) : strOf (l.map byteC) = some (.v (.string ⟨l.toArray⟩)) := by simp [strOf, bytesOfA_map]
theorem all_one_map (l : List UInt8) : (l.map byteC).all oneA = true := by
  induction l with
  | nil => rfl
  | cons b l ih => simp only [List.map_cons, List.all_cons, ih, Bool.and_true]; rfl
theorem noBorL_map (l : List UInt8) : noBorL (l.map byteC) = true := by
  induction l with
  | nil => rfl
  | cons b l ih => simp only [List.map_cons, noBorL, ih, Bool.and_true]; rfl
theorem treeL_map (l : List UInt8) : treeL (l.map byteC) = true := by
  induction l with
  | nil => rfl
  | cons b l ih => simp only [List.map_cons, treeL, ih, Bool.and_true]; rfl
theorem fzL_map (P : Program) (H : List ABlk) (b : Bool) (l : List UInt8) : fzL P H b (l.map byteC) (l.map byteC) := by
  induction l with
  | nil => simp [fzL]
  | cons x l ih => simp only [List.map_cons, fzL]; exact ⟨_, _, rfl, by simp [fz, byteC], ih⟩

theorem take_len_map {α β : Type} (f : α → β) (l : List α) : List.take l.length (l.map f) = l.map f := by
  rw [← List.map_take, List.take_length]
theorem i64w {n : Int} (h1 : -9223372036854775808 ≤ n) (h2 : n < 9223372036854775808) : IntKind.i64.wrap n = n := by
  simp only [IntKind.wrap, IntKind.bits, IntKind.signed]
  simp
  split <;> omega
theorem u64w {n : Int} (h1 : 0 ≤ n) (h2 : n < 18446744073709551616) : IntKind.u64.wrap n = n := by
  simp [IntKind.wrap, IntKind.bits, IntKind.signed]; omega
theorem u8w {n : Int} (h1 : 0 ≤ n) (h2 : n < 256) : IntKind.u8.wrap n = n := by
  simp [IntKind.wrap, IntKind.bits, IntKind.signed]; omega
theorem u8w' {n : Int} : IntKind.u8.wrap n = n % 256 := by
  simp [IntKind.wrap, IntKind.bits, IntKind.signed]
theorem endA_ret (P : Program) (rs : List ResultVar) (res : AV) (s : St) : endA P rs res .ret s = resA P rs s fun xs => fz P s.h false res (oneOrTup xs) := rfl
theorem endA_normal (P : Program) (rs : List ResultVar) (res : AV) (s : St) : endA P rs res .normal s = resA P rs s fun xs => fz P s.h false res (oneOrTup xs) := rfl
theorem resA_nil (P : Program) (s : St) (K : List AV → Prop) : resA P [] s K = K [] := rfl
theorem resA_tmp (P : Program) (t : Nat) (rs : List ResultVar) (s : St) (K : List AV → Prop) : resA P (.tmp t :: rs) s K = resA P rs s fun xs => K (look s.s.l t :: xs) := rfl
theorem one_1 (x : AV) : oneOrTup [x] = x := rfl
theorem one_2 (x y : AV) (l : List AV) : oneOrTup (x :: y :: l) = .tup (x :: y :: l) := rfl
theorem one_0 : oneOrTup [] = .tup [] := rfl
theorem fz_v (P : Program) (H : List ABlk) (b : Bool) (a : Value) (x : AV) : fz P H b (.v a) x = (x = .v a) := by simp only [fz]
theorem fz_nan (P : Program) (H : List ABlk) (b : Bool) (x : AV) : fz P H b .nan x = (x = .nan) := by simp only [fz]
theorem fz_bad (P : Program) (H : List ABlk) (b : Bool) (x : AV) : fz P H b .bad x = True := by simp only [fz]
theorem fz_tup (P : Program) (H : List ABlk) (b : Bool) (ys xs : List AV) : fz P H b (.tup ys) (.tup xs) = fzL P H b ys xs := by simp only [fz, AV.tup.injEq, exists_eq_left']
theorem fz_agg (P : Program) (H : List ABlk) (b : Bool) (ys xs : List AV) : fz P H b (.agg ys) (.agg xs) = fzL P H b ys xs := by simp only [fz, AV.agg.injEq, exists_eq_left']
theorem fz_ifc (P : Program) (H : List ABlk) (b : Bool) (t : TypeId) (y x : AV) : fz P H b (.ifc t y) (.ifc t x) = fz P H b y x := by simp only [fz, AV.ifc.injEq, true_and, exists_eq_left']
theorem fzL_nil (P : Program) (H : List ABlk) (b : Bool) : fzL P H b [] [] = True := by simp only [fzL]
theorem fzL_cons (P : Program) (H : List ABlk) (b : Bool) (y x : AV) (ys xs : List AV) : fzL P H b (y :: ys) (x :: xs) = (fz P H b y x ∧ fzL P H b ys xs) := by
  simp only [fzL, List.cons.injEq]
  exact propext ⟨fun ⟨_, _, ⟨h1, h2⟩, h⟩ => by subst h1; subst h2; exact h, fun h => ⟨x, xs, ⟨rfl, rfl⟩, h⟩⟩
/-- A row of the call's own, handed back: what is told of it behind its end needs cells of one. -/
theorem fz_own {P : Program} {H : List ABlk} {i ver e n m : Nat} {ys xs cells : List AV} (h : H[i]? = some ⟨ver, e, cells⟩) (hn : n ≤ m) (hc : P.cellsOf e = 1) (hm : m = n ∨ m ≤ cells.length) (hx : xs <+: cells) (hy : fzL P H false ys xs) : fz P H false (.sl false n m ys) (.own i ver n) := by
  simp only [fz]
  exact .inr ⟨trivial, i, _, xs, rfl, h, hn, by simpa [hc] using hm, hx, hy⟩
theorem fz_bytes {P : Program} {H : List ABlk} {i ver e n m : Nat} {l : List UInt8} {cells : List AV} (h : H[i]? = some ⟨ver, e, cells⟩) (hn : n ≤ m) (hc : P.cellsOf e = 1) (hm : m = n ∨ m ≤ cells.length) (hx : l.map byteC <+: cells) : fz P H false (.sl false n m (l.map byteC)) (.own i ver n) :=
  fz_own h hn hc hm hx (fzL_map P H false l)
theorem StepK_byte (s : St) (d : Option Tmp) (K : St → Prop) (l : List UInt8) (j : Nat) : StepK (retV s d (l.map byteC)[j]?) K = (j < l.length ∧ K (pt s d (.v (.int .u8 ((l.getD j 0).toNat : Nat))))) := by
  by_cases h : j < l.length
  · rw [byteMap_at h]; simp [StepK, retV, h]
  · have : (l.map byteC)[j]? = none := by simpa using h
    rw [this]; simp [StepK, retV, h]
theorem sAt_list (l : List UInt8) (j : Nat) : sAt ⟨l.toArray⟩ j = ((l.getD j 0).toNat : Nat) := by simp [sAt]
theorem list_back (l : List UInt8) : (⟨l.toArray⟩ : ByteArray).data.toList = l := by simp
theorem okRefL_map (n : Nat) (l : List UInt8) : okRefL n (l.map byteC) = true := by
  induction l with
  | nil => rfl
  | cons b l ih => simp only [List.map_cons, okRefL, ih, Bool.and_true]; rfl
theorem okRefL_append (n : Nat) (a b : List AV) : okRefL n (a ++ b) = (okRefL n a && okRefL n b) := by
  induction a with
  | nil => simp [okRefL]
  | cons x a ih => simp only [List.cons_append, okRefL, ih, Bool.and_assoc]
theorem b256 {p : Nat → Prop} [DecidablePred p] (h : ∀ n : Fin 256, p n.val) (c : UInt8) : p c.toNat := h ⟨c.toNat, c.toNat_lt⟩
theorem ub_shr4 (c : UInt8) : ((c.toNat : Int)).fdiv (2 ^ min (Int.toNat 4) IntKind.u8.bits) = ((c.toNat / 16 : Nat) : Int) :=
  b256 (p := fun n => ((n : Int)).fdiv (2 ^ min (Int.toNat 4) IntKind.u8.bits) = ((n / 16 : Nat) : Int)) (by decide +kernel) c
theorem ub_and15 (c : UInt8) : IntKind.u8.wrap ((BitVec.ofInt IntKind.u8.bits (c.toNat : Int) &&& BitVec.ofInt IntKind.u8.bits 15).toNat : Nat) = ((c.toNat % 16 : Nat) : Int) :=
  b256 (p := fun n => IntKind.u8.wrap ((BitVec.ofInt IntKind.u8.bits (n : Int) &&& BitVec.ofInt IntKind.u8.bits 15).toNat : Nat) = ((n % 16 : Nat) : Int)) (by decide +kernel) c
theorem ub_div16 (c : UInt8) : IntKind.u8.wrap (((c.toNat : Int)).tdiv 16) = ((c.toNat / 16 : Nat) : Int) :=
  b256 (p := fun n => IntKind.u8.wrap (((n : Int)).tdiv 16) = ((n / 16 : Nat) : Int)) (by decide +kernel) c
theorem ub_mod16 (c : UInt8) : ((c.toNat : Int)).tmod 16 = ((c.toNat % 16 : Nat) : Int) :=
  b256 (p := fun n => ((n : Int)).tmod 16 = ((n % 16 : Nat) : Int)) (by decide +kernel) c
set_option linter.defProp false in
def eS := And.intro @sAt_list (And.intro @list_back (And.intro @StepK_byte (And.intro @endA_ret (And.intro @endA_normal (And.intro @resA_nil (And.intro @resA_tmp (And.intro @one_0 (And.intro @one_1 (And.intro @one_2 (And.intro @fz_v (And.intro @fz_nan (And.intro @fz_bad (And.intro @fz_tup (And.intro @fz_agg (And.intro @fz_ifc (And.intro @fzL_nil @fzL_cons))))))))))))))))
end Go.Ev
