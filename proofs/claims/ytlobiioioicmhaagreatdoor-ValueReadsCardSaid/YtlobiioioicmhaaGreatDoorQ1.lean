/- Contracts of the functions that the law reaches. -/
import Derived.Test.YtlobiioioicmhaaGreatDoorU2
import Derived.Test.YtlobiioioicmhaaGreatDoorProg
import Derived.KernelRfl
import Derived.Shelf.Strings.Search3
import Derived.Shelf.Strconv.ToErrorRange
import Derived.Shelf.Strconv.Itoa0
import Derived.Shelf.Strconv.Itoa1
import Derived.Shelf.LaysM
import Derived.Shelf.Strconv.Itoa2
import Derived.Shelf.Strconv.Itoa3
import GoSem.Core.Float
namespace Go.Proofs.YtlobiioioicmhaaGreatDoor
set_option linter.all false
open Go Go.Ev
set_option maxRecDepth 20000
theorem tyS : aggT Tryz.prog 2 = some false ∧
    aggT Tryz.prog 37 = some false ∧
    aggT Tryz.prog 3 = some false ∧
    aggT Tryz.prog 22 = some false ∧
    aggT Tryz.prog 53 = some true ∧
    aggT Tryz.prog 48 = some false ∧
    aggT Tryz.prog 5 = some false ∧
    aggT Tryz.prog 54 = some true ∧
    aggT Tryz.prog 9 = some false ∧
    appT Tryz.prog 37 37 = some (5, 1, 1) ∧
    appT Tryz.prog 47 47 = some (54, 6, 56) ∧
    appT Tryz.prog 48 48 = some (53, 6, 56) ∧
    elemT Tryz.prog 37 = some 5 ∧
    elemT Tryz.prog 47 = some 54 ∧
    elemT Tryz.prog 48 = some 53 ∧
    fieldT Tryz.prog 53 0 = some (0, 3) ∧
    fieldT Tryz.prog 53 1 = some (1, 9) ∧
    fieldT Tryz.prog 53 2 = some (2, 2) ∧
    fieldT Tryz.prog 53 3 = some (3, 22) ∧
    fieldT Tryz.prog 53 4 = some (4, 3) ∧
    fieldT Tryz.prog 53 5 = some (5, 3) ∧
    fieldT Tryz.prog 54 0 = some (0, 3) ∧
    fieldT Tryz.prog 54 1 = some (1, 9) ∧
    fieldT Tryz.prog 54 2 = some (2, 2) ∧
    fieldT Tryz.prog 54 3 = some (3, 22) ∧
    fieldT Tryz.prog 54 4 = some (4, 3) ∧
    fieldT Tryz.prog 54 5 = some (5, 3) ∧
    fltT Tryz.prog 2 = none ∧
    fltT Tryz.prog 21 = none ∧
    fltT Tryz.prog 37 = none ∧
    fltT Tryz.prog 3 = none ∧
    fltT Tryz.prog 22 = some .f64 ∧
    fltT Tryz.prog 176 = none ∧
    fltT Tryz.prog 5 = none ∧
    fltT Tryz.prog 9 = none ∧
    intT Tryz.prog 2 = some .i64 ∧
    intT Tryz.prog 21 = some .i32 ∧
    intT Tryz.prog 37 = none ∧
    intT Tryz.prog 3 = some .i64 ∧
    intT Tryz.prog 22 = none ∧
    intT Tryz.prog 176 = some .u64 ∧
    intT Tryz.prog 5 = some .u8 ∧
    intT Tryz.prog 9 = none ∧
    mkT Tryz.prog 37 = some (5, 1, [.v (.int .u8 0)]) ∧
    mkT Tryz.prog 47 = some (54, 6, [.v (.int .i64 0), .v (.string ⟨#[]⟩), .v (.int .i64 0), .v (.float .f64 0), .v (.int .i64 0), .v (.int .i64 0)]) ∧
    mkT Tryz.prog 48 = some (53, 6, [.v (.int .i64 0), .v (.string ⟨#[]⟩), .v (.int .i64 0), .v (.float .f64 0), .v (.int .i64 0), .v (.int .i64 0)]) ∧
    placesT Tryz.prog 53 = some [(0, 1), (1, 1), (2, 1), (3, 1), (4, 1), (5, 1)] ∧
    placesT Tryz.prog 54 = some [(0, 1), (1, 1), (2, 1), (3, 1), (4, 1), (5, 1)] ∧
    sizeT Tryz.prog 2 = some 1 ∧
    sizeT Tryz.prog 26 = some 1 ∧
    sizeT Tryz.prog 3 = some 1 ∧
    sizeT Tryz.prog 22 = some 1 ∧
    sizeT Tryz.prog 53 = some 6 ∧
    sizeT Tryz.prog 48 = some 1 ∧
    sizeT Tryz.prog 5 = some 1 ∧
    sizeT Tryz.prog 54 = some 6 ∧
    sizeT Tryz.prog 9 = some 1 ∧
    strT Tryz.prog 2 = false ∧
    strT Tryz.prog 21 = false ∧
    strT Tryz.prog 37 = false ∧
    strT Tryz.prog 3 = false ∧
    strT Tryz.prog 22 = false ∧
    strT Tryz.prog 176 = false ∧
    strT Tryz.prog 5 = false ∧
    strT Tryz.prog 9 = true ∧
    (Tryz.prog.underlying 2).isSome = true ∧
    (Tryz.prog.underlying 21).isSome = true ∧
    (Tryz.prog.underlying 37).isSome = true ∧
    (Tryz.prog.underlying 3).isSome = true ∧
    (Tryz.prog.underlying 176).isSome = true ∧
    (Tryz.prog.underlying 5).isSome = true ∧
    zcT Tryz.prog 26 = some [.v (.int .i64 0)] ∧
    zcT Tryz.prog 3 = some [.v (.int .i64 0)] ∧
    zcT Tryz.prog 53 = some [.v (.int .i64 0), .v (.string ⟨#[]⟩), .v (.int .i64 0), .v (.float .f64 0), .v (.int .i64 0), .v (.int .i64 0)] ∧
    zcT Tryz.prog 48 = some [.v (.slice none 0 0)] ∧
    zcT Tryz.prog 54 = some [.v (.int .i64 0), .v (.string ⟨#[]⟩), .v (.int .i64 0), .v (.float .f64 0), .v (.int .i64 0), .v (.int .i64 0)] :=
  ⟨by kernel_rfl, by kernel_rfl, by kernel_rfl, by kernel_rfl, by kernel_rfl, by kernel_rfl, by kernel_rfl, by kernel_rfl, by kernel_rfl, by kernel_rfl, by kernel_rfl, by kernel_rfl, by kernel_rfl, by kernel_rfl, by kernel_rfl, by kernel_rfl, by kernel_rfl, by kernel_rfl, by kernel_rfl, by kernel_rfl, by kernel_rfl, by kernel_rfl, by kernel_rfl, by kernel_rfl, by kernel_rfl, by kernel_rfl, by kernel_rfl, by kernel_rfl, by kernel_rfl, by kernel_rfl, by kernel_rfl, by kernel_rfl, by kernel_rfl, by kernel_rfl, by kernel_rfl, by kernel_rfl, by kernel_rfl, by kernel_rfl, by kernel_rfl, by kernel_rfl, by kernel_rfl, by kernel_rfl, by kernel_rfl, by kernel_rfl, by kernel_rfl, by kernel_rfl, by kernel_rfl, by kernel_rfl, by kernel_rfl, by kernel_rfl, by kernel_rfl, by kernel_rfl, by kernel_rfl, by kernel_rfl, by kernel_rfl, by kernel_rfl, by kernel_rfl, by kernel_rfl, by kernel_rfl, by kernel_rfl, by kernel_rfl, by kernel_rfl, by kernel_rfl, by kernel_rfl, by kernel_rfl, by kernel_rfl, by kernel_rfl, by kernel_rfl, by kernel_rfl, by kernel_rfl, by kernel_rfl, by kernel_rfl, by kernel_rfl, by kernel_rfl, by kernel_rfl, by kernel_rfl⟩
end Go.Proofs.YtlobiioioicmhaaGreatDoor
namespace Go.Proofs.YtlobiioioicmhaaGreatDoor
set_option linter.all false
open Go Go.Ev
set_option maxRecDepth 20000
variable {γ : List (Nat × AV)}
/-- The byte at a place; 0 behind the end. -/
def atL (l : List UInt8) (i : Nat) : Nat := (l.getD i 0).toNat
end Go.Proofs.YtlobiioioicmhaaGreatDoor
namespace Go.Proofs.YtlobiioioicmhaaGreatDoor
set_option linter.all false
open Go Go.Ev
set_option maxRecDepth 20000
variable {γ : List (Nat × AV)}
theorem b76 : bodyT Tryz.prog 160 := ⟨_, Tryz.func160, by kernel_rfl, by kernel_rfl⟩
theorem b102 : bodyT Tryz.prog 218 := ⟨_, Tryz.func218, by kernel_rfl, by kernel_rfl⟩
theorem sl_IndexByte_ev (s : ByteArray) (c : Int) : Ev Tryz.prog γ 218 [.v (.string s), .v (.int .u8 c)] (.v (.int .i64 (Lib.indexByte s.data.toList c.toNat.toUInt8))) := by
  refine Ev.of Tryz.func218 rfl ?_
  simp only [Tryz.f218, evS, tyS, Bool.not_true, Bool.not_false, Nat.reduceAdd, Nat.reduceSub, Nat.reduceMul, Nat.reduceLT, Nat.reduceLeDiff, Nat.reduceEqDiff, reduceCtorEq, List.reduceReplicate, Int.reduceToNat, Int.reduceLE, Int.reduceLT]
  refine CallK.ext (ext_indexByteString Tryz.func257 (by kernel_rfl) (by kernel_rfl) (by kernel_rfl) (by kernel_rfl) s c) ?_
  simp only [evS, tyS, Bool.not_true, Bool.not_false, Nat.reduceAdd, Nat.reduceSub, Nat.reduceMul, Nat.reduceLT, Nat.reduceLeDiff, Nat.reduceEqDiff, reduceCtorEq, List.reduceReplicate, Int.reduceToNat, Int.reduceLE, Int.reduceLT]
theorem strings_IndexByte_ev (s : ByteArray) (c : Int) : Ev Tryz.prog γ 160 [.v (.string s), .v (.int .u8 c)] (.v (.int .i64 (Lib.indexByte s.data.toList c.toNat.toUInt8))) := by
  refine Ev.of Tryz.func160 rfl ?_
  simp only [Tryz.f160, evS, tyS, Bool.not_true, Bool.not_false, Nat.reduceAdd, Nat.reduceSub, Nat.reduceMul, Nat.reduceLT, Nat.reduceLeDiff, Nat.reduceEqDiff, reduceCtorEq, List.reduceReplicate, Int.reduceToNat, Int.reduceLE, Int.reduceLT]
  refine CallK.intro b102 rfl (sl_IndexByte_ev s c) ?_
  simp only [evS, tyS, Bool.not_true, Bool.not_false, Nat.reduceAdd, Nat.reduceSub, Nat.reduceMul, Nat.reduceLT, Nat.reduceLeDiff, Nat.reduceEqDiff, reduceCtorEq, List.reduceReplicate, Int.reduceToNat, Int.reduceLE, Int.reduceLT]
/-- What a digit of sixteen says; -1: it is none. -/
def hexN (n : Nat) : Int := if 48 ≤ n ∧ n ≤ 57 then n - 48 else if 97 ≤ n ∧ n ≤ 102 then n - 87 else -1
theorem hexN_index (c : UInt8) : Lib.indexByte [48, 49, 50, 51, 52, 53, 54, 55, 56, 57, 97, 98, 99, 100, 101, 102] c = hexN c.toNat := by
  have := b256 (p := fun n => Lib.indexByte [48, 49, 50, 51, 52, 53, 54, 55, 56, 57, 97, 98, 99, 100, 101, 102] (UInt8.ofNat n) = hexN n) (by decide +kernel) c
  simpa using this
theorem hexIdx_ev (c : UInt8) : Ev Tryz.prog γ 160 [.v (.string ⟨#[48, 49, 50, 51, 52, 53, 54, 55, 56, 57, 97, 98, 99, 100, 101, 102]⟩), .v (.int .u8 (c.toNat : Nat))] (.v (.int .i64 (hexN c.toNat))) := by
  have := strings_IndexByte_ev (γ := γ) ⟨#[48, 49, 50, 51, 52, 53, 54, 55, 56, 57, 97, 98, 99, 100, 101, 102]⟩ (c.toNat : Nat)
  rw [← hexN_index]
  simpa using this
theorem hexN_le (n : Nat) : -1 ≤ hexN n ∧ hexN n ≤ 15 := by
  unfold hexN
  split
  · omega
  · split <;> omega
end Go.Proofs.YtlobiioioicmhaaGreatDoor
namespace Go.Proofs.YtlobiioioicmhaaGreatDoor
set_option linter.all false
open Go Go.Ev
set_option maxRecDepth 20000
variable {γ : List (Nat × AV)}
theorem take_snoc {l : List UInt8} {j : Nat} (h : j < l.length) : l.take (j + 1) = l.take j ++ [l.getD j 0] := by
  rw [List.take_add_one]; simp [h]
end Go.Proofs.YtlobiioioicmhaaGreatDoor
namespace Go.Proofs.YtlobiioioicmhaaGreatDoor
set_option linter.all false
open Go Go.Ev
set_option maxRecDepth 20000
variable {γ : List (Nat × AV)}
theorem tyP : fltT Tryz.prog 219 = none ∧
    ifcT Tryz.prog 260 = some false ∧
    ifcT Tryz.prog 261 = some false ∧
    ifcT Tryz.prog 169 = some true ∧
    intT Tryz.prog 219 = some .u64 ∧
    strT Tryz.prog 219 = false ∧
    (Tryz.prog.underlying 9).isSome = true :=
  ⟨by kernel_rfl, by kernel_rfl, by kernel_rfl, by kernel_rfl, by kernel_rfl, by kernel_rfl, by kernel_rfl⟩
theorem tyQ : intT Tryz.prog 260 = some .i64 ∧ cmpT Tryz.prog 260 = some true := by
  refine ⟨?_, ?_⟩ <;> kernel_rfl
end Go.Proofs.YtlobiioioicmhaaGreatDoor
/-
  DERIVED: THE SHELF's CONTRACTS AT THIS DUMP, IN PLAIN WORDS (tools/lay-plain.mjs out of 'TryzShelf.lean', which tools/lay-shelf.mjs wrote): THE SAME DECLARATIONS UNDER THE SAME NAMES: 'import', 'namespace', 'open', 'def', 'theorem' AND NOTHING ELSE: no command of the shelf's: FOR A HAND-IN. Each laying: the table of numbers ('.._ren') and one theorem, a field a fact of the dump's own or the kernel's comparison; each contract: ONE APPLICATION.
-/
namespace Go.Proofs
open Go.Shelf
def Tryz.laysC245_ren : Go.Shelf.Ren := ⟨fun | 245 => 170 | 279 => 227 | 280 => 228 | 281 => 229 | 282 => 230 | 316 => 267 | 171 => 174 | 205 => 268 | 243 => 236 | 246 => 171 | 283 => 231 | 284 => 232 | 285 => 233 | 286 => 234 | 129 => 270 | 317 => 269 | 318 => 271 | 319 => 272 | 320 => 273 | 337 => 295 | 338 => 296 | n => n, fun | 9 => 9 | 3 => 3 | 75 => 169 | 167 => 260 | 4 => 4 | 168 => 261 | 210 => 285 | 37 => 37 | 0 => 0 | 127 => 252 | 145 => 308 | 143 => 306 | 2 => 2 | 171 => 264 | 53 => 176 | 5 => 5 | 173 => 267 | 212 => 288 | 51 => 289 | 20 => 20 | 213 => 290 | 46 => 219 | 232 => 312 | 233 => 313 | 80 => 140 | n => n, fun | 15 => 2 | 16 => 3 | 17 => 4 | 18 => 5 | 19 => 6 | n => n⟩
theorem Tryz.laysC245 : Go.Proofs.LaysC.n245 Tryz.prog Tryz.laysC245_ren := {
  mixed := by kernel_rfl
  f129 := Tryz.func270.trans (congrArg some (by kernel_rfl))
  f171 := Tryz.func174.trans (congrArg some (by kernel_rfl))
  f205 := Tryz.func268.trans (congrArg some (by kernel_rfl))
  f243 := Tryz.func236.trans (congrArg some (by kernel_rfl))
  f245 := Tryz.func170.trans (congrArg some (by kernel_rfl))
  f246 := Tryz.func171.trans (congrArg some (by kernel_rfl))
  f279 := Tryz.func227.trans (congrArg some (by kernel_rfl))
  f280 := Tryz.func228.trans (congrArg some (by kernel_rfl))
  f281 := Tryz.func229.trans (congrArg some (by kernel_rfl))
  f282 := Tryz.func230.trans (congrArg some (by kernel_rfl))
  f283 := Tryz.func231.trans (congrArg some (by kernel_rfl))
  f284 := Tryz.func232.trans (congrArg some (by kernel_rfl))
  f285 := Tryz.func233.trans (congrArg some (by kernel_rfl))
  f286 := Tryz.func234.trans (congrArg some (by kernel_rfl))
  f316 := Tryz.func267.trans (congrArg some (by kernel_rfl))
  f317 := Tryz.func269.trans (congrArg some (by kernel_rfl))
  f318 := Tryz.func271.trans (congrArg some (by kernel_rfl))
  f319 := Tryz.func272.trans (congrArg some (by kernel_rfl))
  f320 := Tryz.func273.trans (congrArg some (by kernel_rfl))
  f337 := Tryz.func295.trans (congrArg some (by kernel_rfl))
  f338 := Tryz.func296.trans (congrArg some (by kernel_rfl))
  t0 := Tryz.underlying0
  a0 := Tryz.isAgg0
  z0 := Tryz.sizeOf0
  v0 := Tryz.zeroValue0
  t2 := Tryz.underlying2
  a2 := Tryz.isAgg2
  z2 := Tryz.sizeOf2
  v2 := Tryz.zeroValue2
  t3 := Tryz.underlying3
  a3 := Tryz.isAgg3
  z3 := Tryz.sizeOf3
  v3 := Tryz.zeroValue3
  t4 := Tryz.underlying4
  a4 := Tryz.isAgg4
  z4 := Tryz.sizeOf4
  v4 := Tryz.zeroValue4
  t5 := Tryz.underlying5
  a5 := Tryz.isAgg5
  z5 := Tryz.sizeOf5
  v5 := Tryz.zeroValue5
  t9 := Tryz.underlying9
  a9 := Tryz.isAgg9
  z9 := Tryz.sizeOf9
  v9 := Tryz.zeroValue9
  t20 := Tryz.underlying20
  a20 := Tryz.isAgg20
  z20 := Tryz.sizeOf20
  v20 := Tryz.zeroValue20
  t37 := Tryz.underlying37
  a37 := Tryz.isAgg37
  z37 := Tryz.sizeOf37
  v37 := Tryz.zeroValue37
  t46 := Tryz.underlying219
  a46 := Tryz.isAgg219
  z46 := Tryz.sizeOf219
  v46 := Tryz.zeroValue219
  t51 := Tryz.underlying289
  a51 := Tryz.isAgg289
  z51 := Tryz.sizeOf289
  v51 := Tryz.zeroValue289
  t53 := Tryz.underlying176
  a53 := Tryz.isAgg176
  z53 := Tryz.sizeOf176
  v53 := Tryz.zeroValue176
  t75 := Tryz.underlying169
  a75 := Tryz.isAgg169
  z75 := Tryz.sizeOf169
  v75 := Tryz.zeroValue169
  t127 := Tryz.underlying252
  a127 := Tryz.isAgg252
  z127 := Tryz.sizeOf252
  v127 := Tryz.zeroValue252
  t143 := Tryz.underlying306
  a143 := Tryz.isAgg306
  z143 := Tryz.sizeOf306
  v143 := Tryz.zeroValue306
  t145 := Tryz.underlying308
  a145 := Tryz.isAgg308
  z145 := Tryz.sizeOf308
  v145 := Tryz.zeroValue308
  t167 := Tryz.underlying260
  a167 := Tryz.isAgg260
  z167 := Tryz.sizeOf260
  v167 := Tryz.zeroValue260
  t168 := Tryz.underlying261
  a168 := Tryz.isAgg261
  z168 := Tryz.sizeOf261
  v168 := Tryz.zeroValue261
  t171 := Tryz.underlying264
  a171 := Tryz.isAgg264
  z171 := Tryz.sizeOf264
  v171 := Tryz.zeroValue264
  t173 := Tryz.underlying267
  a173 := Tryz.isAgg267
  z173 := Tryz.sizeOf267
  v173 := Tryz.zeroValue267
  t210 := Tryz.underlying285
  a210 := Tryz.isAgg285
  z210 := Tryz.sizeOf285
  v210 := Tryz.zeroValue285
  t212 := Tryz.underlying288
  a212 := Tryz.isAgg288
  z212 := Tryz.sizeOf288
  v212 := Tryz.zeroValue288
  t213 := Tryz.underlying290
  a213 := Tryz.isAgg290
  z213 := Tryz.sizeOf290
  t232 := Tryz.underlying312
  a232 := Tryz.isAgg312
  z232 := Tryz.sizeOf312
  v232 := Tryz.zeroValue312
  t233 := Tryz.underlying313
  a233 := Tryz.isAgg313
  z233 := Tryz.sizeOf313
  v233 := Tryz.zeroValue313
  g15 := by kernel_rfl
  g16 := by kernel_rfl
  g17 := by kernel_rfl
  g18 := by kernel_rfl
  g19 := by kernel_rfl
  t80 := Tryz.underlying140
  a80 := Tryz.isAgg140
  z80 := Tryz.sizeOf140
  v80 := Tryz.zeroValue140
  i0 := by kernel_rfl
  i2 := by kernel_rfl
  i3 := by kernel_rfl
  i4 := by kernel_rfl
  i5 := by kernel_rfl
  i9 := by kernel_rfl
  i20 := by kernel_rfl
  i37 := by kernel_rfl
  i46 := by kernel_rfl
  i51 := by kernel_rfl
  i53 := by kernel_rfl
  i75 := by kernel_rfl
  i80 := by kernel_rfl
  i127 := by kernel_rfl
  i143 := by kernel_rfl
  i145 := by kernel_rfl
  i167 := by kernel_rfl
  i168 := by kernel_rfl
  i171 := by kernel_rfl
  i173 := by kernel_rfl
  i210 := by kernel_rfl
  i212 := by kernel_rfl
  i232 := by kernel_rfl
  i233 := by kernel_rfl
  m15 := by kernel_rfl
  m16 := by kernel_rfl
  m17 := by kernel_rfl
  m18 := by kernel_rfl
  m19 := by kernel_rfl
  c0 := by kernel_rfl
  c2 := by kernel_rfl
  c3 := by kernel_rfl
  c4 := by kernel_rfl
  c5 := by kernel_rfl
  c9 := by kernel_rfl
  c20 := by kernel_rfl
  c37 := by kernel_rfl
  c46 := by kernel_rfl
  c51 := by kernel_rfl
  c53 := by kernel_rfl
  c75 := by kernel_rfl
  c80 := by kernel_rfl
  c127 := by kernel_rfl
  c143 := by kernel_rfl
  c145 := by kernel_rfl
  c167 := by kernel_rfl
  c168 := by kernel_rfl
  c171 := by kernel_rfl
  c173 := by kernel_rfl
  c210 := by kernel_rfl
  c212 := by kernel_rfl
  c213 := by kernel_rfl
  c232 := by kernel_rfl
  c233 := by kernel_rfl }
end Go.Proofs
namespace Go.Proofs.YtlobiioioicmhaaGreatDoor
set_option linter.all false
open Go Go.Ev
set_option maxRecDepth 20000
variable {γ : List (Nat × AV)}
theorem b109 : bodyT Tryz.prog 223 := ⟨_, Tryz.func223, by kernel_rfl, by kernel_rfl⟩
theorem b90 : bodyT Tryz.prog 169 := ⟨_, Tryz.func169, by kernel_rfl, by kernel_rfl⟩
theorem b91 : bodyT Tryz.prog 170 := ⟨_, Tryz.func170, by kernel_rfl, by kernel_rfl⟩
theorem b59 : bodyT Tryz.prog 100 := ⟨_, Tryz.func100, by kernel_rfl, by kernel_rfl⟩
end Go.Proofs.YtlobiioioicmhaaGreatDoor
/-
  DERIVED: THE SHELF's CONTRACTS AT THIS DUMP, IN PLAIN WORDS (tools/lay-plain.mjs out of 'TryzShelf.lean', which tools/lay-shelf.mjs wrote): THE SAME DECLARATIONS UNDER THE SAME NAMES: 'import', 'namespace', 'open', 'def', 'theorem' AND NOTHING ELSE: no command of the shelf's: FOR A HAND-IN. Each laying: the table of numbers ('.._ren') and one theorem, a field a fact of the dump's own or the kernel's comparison; each contract: ONE APPLICATION.
-/
namespace Go.Proofs
open Go.Shelf
def Tryz.lays283_ren : Go.Shelf.Ren := ⟨fun | 283 => 231 | n => n, fun | 3 => 3 | 9 => 9 | 4 => 4 | n => n, fun | n => n⟩
theorem Tryz.lays283 : Go.Proofs.Lays.n283 Tryz.prog Tryz.lays283_ren := {
  mixed := by kernel_rfl
  f283 := Tryz.func231.trans (congrArg some (by kernel_rfl))
  t3 := Tryz.underlying3
  a3 := Tryz.isAgg3
  z3 := Tryz.sizeOf3
  v3 := Tryz.zeroValue3
  t4 := Tryz.underlying4
  a4 := Tryz.isAgg4
  z4 := Tryz.sizeOf4
  v4 := Tryz.zeroValue4
  t9 := Tryz.underlying9
  a9 := Tryz.isAgg9
  z9 := Tryz.sizeOf9
  v9 := Tryz.zeroValue9 }
open Go.Lib in
/-- internal/strconv.small: "small returns the string for an i with 0 <= i < nSmalls.": i's decimal numeral. The world is as it was. (LAID: no walk: one application.) -/
theorem Tryz.internal_strconv_small (i : Nat) (h : i < 100) (w : World) :
    Calls Tryz.prog 231 #[.int .i64 i] w fun e w' => e = .returned (.string ⟨(Lib.decDigits i).toArray⟩) ∧ w' = w := Any.internal_strconv_small Tryz.lays283 i h w
def Tryz.laysM284_ren : Go.Shelf.Ren := ⟨fun | 284 => 232 | 129 => 270 | 317 => 269 | 318 => 271 | n => n, fun | 53 => 176 | 3 => 3 | 212 => 288 | 0 => 0 | 4 => 4 | 46 => 219 | 5 => 5 | 9 => 9 | n => n, fun | 17 => 4 | n => n⟩
theorem Tryz.laysM284 : Go.Proofs.LaysM.n284 Tryz.prog Tryz.laysM284_ren := {
  mixed := by kernel_rfl
  f129 := Tryz.func270.trans (congrArg some (by kernel_rfl))
  f284 := Tryz.func232.trans (congrArg some (by kernel_rfl))
  f317 := Tryz.func269.trans (congrArg some (by kernel_rfl))
  f318 := Tryz.func271.trans (congrArg some (by kernel_rfl))
  t0 := Tryz.underlying0
  a0 := Tryz.isAgg0
  z0 := Tryz.sizeOf0
  v0 := Tryz.zeroValue0
  t3 := Tryz.underlying3
  a3 := Tryz.isAgg3
  z3 := Tryz.sizeOf3
  v3 := Tryz.zeroValue3
  t4 := Tryz.underlying4
  a4 := Tryz.isAgg4
  z4 := Tryz.sizeOf4
  v4 := Tryz.zeroValue4
  t5 := Tryz.underlying5
  a5 := Tryz.isAgg5
  z5 := Tryz.sizeOf5
  v5 := Tryz.zeroValue5
  t9 := Tryz.underlying9
  a9 := Tryz.isAgg9
  z9 := Tryz.sizeOf9
  v9 := Tryz.zeroValue9
  t46 := Tryz.underlying219
  a46 := Tryz.isAgg219
  z46 := Tryz.sizeOf219
  v46 := Tryz.zeroValue219
  t53 := Tryz.underlying176
  a53 := Tryz.isAgg176
  z53 := Tryz.sizeOf176
  v53 := Tryz.zeroValue176
  t212 := Tryz.underlying288
  a212 := Tryz.isAgg288
  z212 := Tryz.sizeOf288
  v212 := Tryz.zeroValue288
  g17 := by kernel_rfl
  i0 := by kernel_rfl
  i3 := by kernel_rfl
  i4 := by kernel_rfl
  i5 := by kernel_rfl
  i9 := by kernel_rfl
  i46 := by kernel_rfl
  i53 := by kernel_rfl
  i212 := by kernel_rfl
  m17 := by kernel_rfl }
def Tryz.lays285_ren : Go.Shelf.Ren := ⟨fun | 285 => 233 | n => n, fun | 37 => 37 | 53 => 176 | 3 => 3 | 4 => 4 | 51 => 289 | 9 => 9 | 5 => 5 | 0 => 0 | n => n, fun | n => n⟩
theorem Tryz.lays285 : Go.Proofs.Lays.n285 Tryz.prog Tryz.lays285_ren := {
  mixed := by kernel_rfl
  f285 := Tryz.func233.trans (congrArg some (by kernel_rfl))
  t0 := Tryz.underlying0
  a0 := Tryz.isAgg0
  z0 := Tryz.sizeOf0
  v0 := Tryz.zeroValue0
  t3 := Tryz.underlying3
  a3 := Tryz.isAgg3
  z3 := Tryz.sizeOf3
  v3 := Tryz.zeroValue3
  t4 := Tryz.underlying4
  a4 := Tryz.isAgg4
  z4 := Tryz.sizeOf4
  v4 := Tryz.zeroValue4
  t5 := Tryz.underlying5
  a5 := Tryz.isAgg5
  z5 := Tryz.sizeOf5
  v5 := Tryz.zeroValue5
  t9 := Tryz.underlying9
  a9 := Tryz.isAgg9
  z9 := Tryz.sizeOf9
  v9 := Tryz.zeroValue9
  t37 := Tryz.underlying37
  a37 := Tryz.isAgg37
  z37 := Tryz.sizeOf37
  v37 := Tryz.zeroValue37
  t51 := Tryz.underlying289
  a51 := Tryz.isAgg289
  z51 := Tryz.sizeOf289
  v51 := Tryz.zeroValue289
  t53 := Tryz.underlying176
  a53 := Tryz.isAgg176
  z53 := Tryz.sizeOf176
  v53 := Tryz.zeroValue176 }
open Go.RowKit Go.Sort Go.Lib in
/-- internal/strconv.formatBase10: "formatBase10 formats the decimal representation of u into a. The caller is responsible for ensuring that a is big enough to hold u. If a is too big, leading zeros will be filled in as needed.": THE ROW HOLDS u's DIGITS ('FmtInv .. 0 ..': every place t holds 'dg u (len - 1 - t)'); all else is as it was but for the count of draws. (LAID: no walk: one application.) -/
theorem Tryz.internal_strconv_formatBase10 (blk off cap : Nat) (u : Nat) (d : Array UInt8) (w : World) (hH : Holds (fun (b : UInt8) => Value.int .u8 (b.toNat : Int)) w blk off d) (hu : u < 10 ^ d.size) (hu64 : u < 18446744073709551616) (hsz : d.size < 4611686018427387904) :
    Calls Tryz.prog 233 #[.slice (some ⟨blk, off, none⟩) d.size cap, .int .u64 u] w fun e w' =>
      e = .returned (.tuple #[]) ∧ ∃ (n v' : Nat) (dk : Array UInt8), w' = (putRow (fun (b : UInt8) => Value.int .u8 (b.toNat : Int)) w blk off dk).drewN n ∧ FmtInv d.size u 0 v' dk := Any.internal_strconv_formatBase10 Tryz.lays285 blk off cap u d w hH hu hu64 hsz
def Tryz.laysM246_ren : Go.Shelf.Ren := ⟨fun | 246 => 171 | 283 => 231 | 284 => 232 | 285 => 233 | 286 => 234 | 129 => 270 | 317 => 269 | 318 => 271 | 319 => 272 | 320 => 273 | 337 => 295 | 338 => 296 | n => n, fun | 2 => 2 | 3 => 3 | 9 => 9 | 4 => 4 | 171 => 264 | 0 => 0 | 53 => 176 | 37 => 37 | 5 => 5 | 173 => 267 | 212 => 288 | 51 => 289 | 20 => 20 | 213 => 290 | 46 => 219 | 232 => 312 | 233 => 313 | n => n, fun | 17 => 4 | 18 => 5 | 19 => 6 | n => n⟩
theorem Tryz.laysM246 : Go.Proofs.LaysM.n246 Tryz.prog Tryz.laysM246_ren := {
  mixed := by kernel_rfl
  f129 := Tryz.func270.trans (congrArg some (by kernel_rfl))
  f246 := Tryz.func171.trans (congrArg some (by kernel_rfl))
  f283 := Tryz.func231.trans (congrArg some (by kernel_rfl))
  f284 := Tryz.func232.trans (congrArg some (by kernel_rfl))
  f285 := Tryz.func233.trans (congrArg some (by kernel_rfl))
  f286 := Tryz.func234.trans (congrArg some (by kernel_rfl))
  f317 := Tryz.func269.trans (congrArg some (by kernel_rfl))
  f318 := Tryz.func271.trans (congrArg some (by kernel_rfl))
  f319 := Tryz.func272.trans (congrArg some (by kernel_rfl))
  f320 := Tryz.func273.trans (congrArg some (by kernel_rfl))
  f337 := Tryz.func295.trans (congrArg some (by kernel_rfl))
  f338 := Tryz.func296.trans (congrArg some (by kernel_rfl))
  t0 := Tryz.underlying0
  a0 := Tryz.isAgg0
  z0 := Tryz.sizeOf0
  v0 := Tryz.zeroValue0
  t2 := Tryz.underlying2
  a2 := Tryz.isAgg2
  z2 := Tryz.sizeOf2
  v2 := Tryz.zeroValue2
  t3 := Tryz.underlying3
  a3 := Tryz.isAgg3
  z3 := Tryz.sizeOf3
  v3 := Tryz.zeroValue3
  t4 := Tryz.underlying4
  a4 := Tryz.isAgg4
  z4 := Tryz.sizeOf4
  v4 := Tryz.zeroValue4
  t5 := Tryz.underlying5
  a5 := Tryz.isAgg5
  z5 := Tryz.sizeOf5
  v5 := Tryz.zeroValue5
  t9 := Tryz.underlying9
  a9 := Tryz.isAgg9
  z9 := Tryz.sizeOf9
  v9 := Tryz.zeroValue9
  t20 := Tryz.underlying20
  a20 := Tryz.isAgg20
  z20 := Tryz.sizeOf20
  v20 := Tryz.zeroValue20
  t37 := Tryz.underlying37
  a37 := Tryz.isAgg37
  z37 := Tryz.sizeOf37
  v37 := Tryz.zeroValue37
  t46 := Tryz.underlying219
  a46 := Tryz.isAgg219
  z46 := Tryz.sizeOf219
  v46 := Tryz.zeroValue219
  t51 := Tryz.underlying289
  a51 := Tryz.isAgg289
  z51 := Tryz.sizeOf289
  v51 := Tryz.zeroValue289
  t53 := Tryz.underlying176
  a53 := Tryz.isAgg176
  z53 := Tryz.sizeOf176
  v53 := Tryz.zeroValue176
  t171 := Tryz.underlying264
  a171 := Tryz.isAgg264
  z171 := Tryz.sizeOf264
  v171 := Tryz.zeroValue264
  t173 := Tryz.underlying267
  a173 := Tryz.isAgg267
  z173 := Tryz.sizeOf267
  v173 := Tryz.zeroValue267
  t212 := Tryz.underlying288
  a212 := Tryz.isAgg288
  z212 := Tryz.sizeOf288
  v212 := Tryz.zeroValue288
  t213 := Tryz.underlying290
  a213 := Tryz.isAgg290
  z213 := Tryz.sizeOf290
  t232 := Tryz.underlying312
  a232 := Tryz.isAgg312
  z232 := Tryz.sizeOf312
  v232 := Tryz.zeroValue312
  t233 := Tryz.underlying313
  a233 := Tryz.isAgg313
  z233 := Tryz.sizeOf313
  v233 := Tryz.zeroValue313
  g17 := by kernel_rfl
  g18 := by kernel_rfl
  g19 := by kernel_rfl
  i0 := by kernel_rfl
  i2 := by kernel_rfl
  i3 := by kernel_rfl
  i4 := by kernel_rfl
  i5 := by kernel_rfl
  i9 := by kernel_rfl
  i20 := by kernel_rfl
  i37 := by kernel_rfl
  i46 := by kernel_rfl
  i51 := by kernel_rfl
  i53 := by kernel_rfl
  i171 := by kernel_rfl
  i173 := by kernel_rfl
  i212 := by kernel_rfl
  i232 := by kernel_rfl
  i233 := by kernel_rfl
  m17 := by kernel_rfl
  m18 := by kernel_rfl
  m19 := by kernel_rfl }
end Go.Proofs
/- Doubles that hold a whole number times a power of two exactly. -/
namespace Go.Ev
set_option linter.all false
open Go
/-- The place of the last digit that is kept of m * 2^e. -/
def lastP (m : Nat) (e : Int) : Int := max (e + m.log2 - 52) (-1074)
/-- The word of m * 2^e (0 < m < 2^53, e at least -1074). -/
def dblN (m : Nat) (e : Int) : Nat := min ((lastP m e + 1074).toNat * 4503599627370496 + m * 2 ^ (e - lastP m e).toNat) 9218868437227405312
theorem log2_lt53 {m : Nat} (h0 : 0 < m) (h : m < 9007199254740992) : m.log2 ≤ 52 := by
  have : m.log2 < 53 := (Nat.log2_lt (by omega)).2 (by simpa using h)
  omega
theorem lastP_le {m : Nat} {e : Int} (h0 : 0 < m) (h : m < 9007199254740992) (he : -1074 ≤ e) : lastP m e ≤ e := by
  have := log2_lt53 h0 h
  unfold lastP; omega
theorem log2_mul_pow {m : Nat} (h0 : 0 < m) (k : Nat) : (m * 2 ^ k).log2 = m.log2 + k := by
  have hp : 0 < 2 ^ k := Nat.pos_of_ne_zero (by simp)
  have hm : 0 < m * 2 ^ k := Nat.mul_pos h0 hp
  have hlt : m < 2 ^ (m.log2 + 1) := Nat.lt_log2_self
  have hge : 2 ^ m.log2 ≤ m := Nat.log2_self_le (by omega)
  have a : (m * 2 ^ k).log2 < m.log2 + k + 1 := (Nat.log2_lt (by omega)).2 (by
    rw [show m.log2 + k + 1 = (m.log2 + 1) + k from by omega, Nat.pow_add]; exact Nat.mul_lt_mul_of_pos_right hlt hp)
  have b : ¬ (m * 2 ^ k).log2 < m.log2 + k := fun hc => by
    have := (Nat.log2_lt (by omega)).1 hc
    rw [Nat.pow_add] at this
    exact absurd (Nat.mul_le_mul_right (2 ^ k) hge) (by omega)
  omega
theorem cut_exact (n d : Nat) (h0 : 0 < n) : Ieee.Toward.even.cut false (n * 2 ^ d) d = n := by
  have h2 : 0 < 2 ^ d := Nat.pos_of_ne_zero (by simp)
  have hm : min d ((n * 2 ^ d).log2 + 2) = d := by rw [log2_mul_pow h0]; omega
  unfold Ieee.Toward.cut
  simp only [hm, Nat.one_shiftLeft, Nat.mul_mod_left, Nat.mul_div_left _ h2]
  have : ¬ (2 ^ d < 2 * 0) := by omega
  have h3 : (2 ^ d == 2 * 0) = false := by simp
  simp [this, h3]
theorem cut_zero (n : Nat) : Ieee.Toward.even.cut false n 0 = n := by
  unfold Ieee.Toward.cut
  have : (min 0 (n.log2 + 2)) = 0 := by omega
  simp [this, Nat.mod_one]
theorem nearest_exact (m : Nat) (e : Int) (k : Nat) (h0 : 0 < m) (h : m < 9007199254740992) (he : -1074 ≤ e) : Ieee.double.nearest false (m * 2 ^ k) (e - k) = dblN m e := by
  have hl := log2_lt53 h0 h
  have hle := lastP_le h0 h he
  have hp : m * 2 ^ k ≠ 0 := by have : 0 < 2 ^ k := Nat.pos_of_ne_zero (by simp)
                                exact Nat.ne_of_gt (Nat.mul_pos h0 this)
  have e1 : Ieee.double.leastPlace = -1074 := by rfl
  have e2 : Ieee.double.binade = 4503599627370496 := by rfl
  have e3 : Ieee.double.infRung = 9218868437227405312 := by rfl
  have e4 : Ieee.double.fractionBits = 52 := rfl
  have e5 : max (e - k + ((m * 2 ^ k).log2 : Nat) - (52 : Nat)) (-1074) = lastP m e := by rw [log2_mul_pow h0]; unfold lastP; omega
  unfold Ieee.Format.nearest
  rw [if_neg hp]
  simp only [e1, e2, e3, e4, e5]
  unfold Ieee.Format.word dblN
  simp only [Bool.false_eq_true, if_false]
  have e6 : (lastP m e - -1074).toNat = (lastP m e + 1074).toNat := by congr 1
  rw [e6]
  have key : Ieee.Toward.even.cut false ((m * 2 ^ k) <<< (e - k - lastP m e).toNat) (lastP m e - (e - k)).toNat = m * 2 ^ (e - lastP m e).toNat := by
    by_cases hk : (k : Int) ≤ e - lastP m e
    · have a1 : (lastP m e - (e - k)).toNat = 0 := by omega
      have a2 : k + (e - k - lastP m e).toNat = (e - lastP m e).toNat := by omega
      rw [a1, cut_zero, Nat.shiftLeft_eq, Nat.mul_assoc, ← Nat.pow_add, a2]
    · have a1 : (e - k - lastP m e).toNat = 0 := by omega
      have a2 : k = (e - lastP m e).toNat + (lastP m e - (e - k)).toNat := by omega
      rw [a1]
      have : (m * 2 ^ k) <<< 0 = (m * 2 ^ (e - lastP m e).toNat) * 2 ^ (lastP m e - (e - k)).toNat := by
        rw [Nat.shiftLeft_eq, Nat.pow_zero, Nat.mul_one, Nat.mul_assoc, ← Nat.pow_add, ← a2]
      rw [this, cut_exact]
      exact Nat.mul_pos h0 (Nat.pos_of_ne_zero (by simp))
  rw [key]
theorem pow_le52 {m : Nat} {e : Int} (h0 : 0 < m) (h : m < 9007199254740992) (he : -1074 ≤ e) : m * 2 ^ (e - lastP m e).toNat < 9007199254740992 ∧ (-1074 < lastP m e → 4503599627370496 ≤ m * 2 ^ (e - lastP m e).toNat) := by
  have hl := log2_lt53 h0 h
  have hle := lastP_le h0 h he
  have hlt : m < 2 ^ (m.log2 + 1) := Nat.lt_log2_self
  have hge : 2 ^ m.log2 ≤ m := Nat.log2_self_le (by omega)
  constructor
  · have : (e - lastP m e).toNat ≤ 52 - m.log2 := by unfold lastP; omega
    calc m * 2 ^ (e - lastP m e).toNat < 2 ^ (m.log2 + 1) * 2 ^ (e - lastP m e).toNat := Nat.mul_lt_mul_of_pos_right hlt (Nat.pos_of_ne_zero (by simp))
      _ = 2 ^ (m.log2 + 1 + (e - lastP m e).toNat) := (Nat.pow_add _ _ _).symm
      _ ≤ 2 ^ 53 := Nat.pow_le_pow_right (by omega) (by omega)
      _ = 9007199254740992 := by rfl
  · intro hg
    have : (e - lastP m e).toNat = 52 - m.log2 := by unfold lastP at *; omega
    rw [this]
    calc 4503599627370496 = 2 ^ (m.log2 + (52 - m.log2)) := by rw [show m.log2 + (52 - m.log2) = 52 from by omega]
      _ = 2 ^ m.log2 * 2 ^ (52 - m.log2) := by rw [Nat.pow_add]
      _ ≤ m * 2 ^ (52 - m.log2) := Nat.mul_le_mul_right _ hge
theorem fin_iff {m : Nat} {e : Int} (h0 : 0 < m) (h : m < 9007199254740992) (he : -1074 ≤ e) : (e + m.log2 ≤ 1023 → (lastP m e + 1074).toNat * 4503599627370496 + m * 2 ^ (e - lastP m e).toNat < 9218868437227405312) ∧ (1024 ≤ e + m.log2 → 9218868437227405312 ≤ (lastP m e + 1074).toNat * 4503599627370496 + m * 2 ^ (e - lastP m e).toNat) := by
  have hl := log2_lt53 h0 h
  have hle := lastP_le h0 h he
  have hp := pow_le52 h0 h he
  generalize m * 2 ^ (e - lastP m e).toNat = K at *
  constructor
  · intro hf
    have : lastP m e ≤ 971 := by unfold lastP; omega
    omega
  · intro hf
    have h2 : 972 ≤ lastP m e := by unfold lastP; omega
    have := hp.2 (by omega)
    omega
theorem read_dbl {m : Nat} {e : Int} (h0 : 0 < m) (h : m < 9007199254740992) (he : -1074 ≤ e) (hf : e + m.log2 ≤ 1023) : Ieee.double.read (dblN m e) = .number false (m * 2 ^ (e - lastP m e).toNat) (lastP m e) := by
  have hlt := (fin_iff h0 h he).1 hf
  have hp := pow_le52 h0 h he
  have hge : -1074 ≤ lastP m e := by unfold lastP; omega
  have hd : dblN m e = (lastP m e + 1074).toNat * 4503599627370496 + m * 2 ^ (e - lastP m e).toNat := by unfold dblN; omega
  have e1 : Ieee.double.leastPlace = -1074 := by rfl
  have e2 : Ieee.double.binade = 4503599627370496 := by rfl
  have e3 : Ieee.double.infRung = 9218868437227405312 := by rfl
  have e4 : Ieee.double.signWeight = 9223372036854775808 := by rfl
  rw [hd]
  unfold Ieee.Format.read
  simp only [e1, e2, e3, e4]
  generalize m * 2 ^ (e - lastP m e).toNat = K at *
  generalize lastP m e = L at *
  have b1 : ((L + 1074).toNat * 4503599627370496 + K) / 9223372036854775808 = 0 := Nat.div_eq_of_lt (by omega)
  have b2 : ((L + 1074).toNat * 4503599627370496 + K) % 9223372036854775808 = (L + 1074).toNat * 4503599627370496 + K := Nat.mod_eq_of_lt (by omega)
  rw [b1, b2]
  have b3 : ((0 % 2 : Nat) == 1) = false := by rfl
  rw [b3]
  by_cases hs : (L + 1074).toNat * 4503599627370496 + K < 4503599627370496
  · rw [if_pos hs]
    have : L = -1074 := by omega
    subst this
    simp
  · rw [if_neg hs, if_pos hlt]
    by_cases hK : 4503599627370496 ≤ K
    · have c1 : 4503599627370496 + ((L + 1074).toNat * 4503599627370496 + K) % 4503599627370496 = K := by omega
      have c2 : (-1074 : Int) + ((((L + 1074).toNat * 4503599627370496 + K) / 4503599627370496 - 1 : Nat) : Int) = L := by omega
      rw [c1, c2]
    · have : L = -1074 := by
        rcases Int.lt_or_le (-1074) L with hne | hne
        · exact absurd (hp.2 hne) hK
        · omega
      omega
theorem dbl_inf {m : Nat} {e : Int} (h0 : 0 < m) (h : m < 9007199254740992) (he : -1074 ≤ e) (hf : 1024 ≤ e + m.log2) : dblN m e = 9218868437227405312 := by
  have := (fin_iff h0 h he).2 hf
  unfold dblN; omega
theorem mul_two {m : Nat} {e : Int} (h0 : 0 < m) (h : m < 9007199254740992) (he : -1074 ≤ e) : Ieee.double.mul (dblN m e) 4611686018427387904 = some (dblN m (e + 1)) := by
  have r2 : Ieee.double.read 4611686018427387904 = .number false 4503599627370496 (-51) := by rfl
  unfold Ieee.Format.mul
  rw [r2]
  by_cases hf : e + m.log2 ≤ 1023
  · rw [read_dbl h0 h he hf]
    have hle := lastP_le h0 h he
    simp only [Ieee.Datum.product, Option.map_some, Ieee.Format.write]
    have a1 : m * 2 ^ (e - lastP m e).toNat * 4503599627370496 = m * 2 ^ ((e - lastP m e).toNat + 52) := by
      rw [Nat.pow_add, Nat.mul_assoc]
    have a2 : lastP m e + -51 = (e + 1) - (((e - lastP m e).toNat + 52 : Nat) : Int) := by omega
    rw [a1, a2, show (false ^^ false) = false from rfl, nearest_exact m (e + 1) _ h0 h (by omega)]
  · rw [dbl_inf h0 h he (by omega), dbl_inf h0 h (by omega) (by omega)]
    rfl
theorem div_two {m : Nat} {e : Int} (h0 : 0 < m) (h : m < 9007199254740992) (he : -1073 ≤ e) (hf : e + m.log2 ≤ 1023) : Ieee.double.div (dblN m e) 4611686018427387904 = some (dblN m (e - 1)) := by
  have r2 : Ieee.double.read 4611686018427387904 = .number false 4503599627370496 (-51) := by rfl
  have hle := lastP_le h0 h (by omega : -1074 ≤ e)
  have hK := (pow_le52 h0 h (by omega : -1074 ≤ e)).1
  have hK0 : 0 < m * 2 ^ (e - lastP m e).toNat := Nat.mul_pos h0 (Nat.pos_of_ne_zero (by simp))
  unfold Ieee.Format.div
  rw [r2, read_dbl h0 h (by omega) hf]
  have hlg := log2_lt53 hK0 hK
  have l2 : (4503599627370496 : Nat).log2 = 52 := by rfl
  have f52 : Ieee.double.fractionBits = 52 := rfl
  simp only [Ieee.Datum.quotient, l2, f52, Option.map_some, Ieee.Format.write]
  rw [if_neg (by omega)]
  generalize hM : m * 2 ^ (e - lastP m e).toNat = M at *
  have hmore : 54 ≤ 52 + 2 + 52 - M.log2 := by omega
  generalize 52 + 2 + 52 - M.log2 = more at *
  have d1 : M <<< more = (M * 2 ^ (more - 52)) * 4503599627370496 := by
    rw [Nat.shiftLeft_eq, Nat.mul_assoc, show (4503599627370496 : Nat) = 2 ^ 52 from rfl, ← Nat.pow_add, show more - 52 + 52 = more from by omega]
  rw [d1, Nat.mul_div_cancel _ (by omega), Nat.mul_mod_left]
  have d2 : 2 * (M * 2 ^ (more - 52)) + ((0 : Nat) != 0).toNat = m * 2 ^ ((e - lastP m e).toNat + (more - 51)) := by
    rw [← hM, Nat.pow_add, ← Nat.mul_assoc, show more - 51 = (more - 52) + 1 from by omega, Nat.pow_succ]
    have : ((0 : Nat) != 0).toNat = 0 := rfl
    rw [this]
    rw [Nat.add_zero]; ac_rfl
  have d3 : lastP m e - -51 - (more : Int) - 1 = (e - 1) - (((e - lastP m e).toNat + (more - 51) : Nat) : Int) := by omega
  have d4 : (Ieee.double.nearest false (m * 2 ^ ((e - lastP m e).toNat + (more - 51))) ((e - 1) - (((e - lastP m e).toNat + (more - 51) : Nat) : Int))) = dblN m (e - 1) := nearest_exact m (e - 1) _ h0 h (by omega)
  simp only [Option.map_some, Ieee.Format.write, show (false ^^ false) = false from rfl]
  rw [d2, d3, d4]
end Go.Ev
/- Comparisons of such doubles; the bits of a word. -/
namespace Go.Ev
set_option linter.all false
open Go
theorem rd0 : Ieee.double.read 0 = .number false 0 (-1074) := by rfl
theorem rdMin : Ieee.double.read 4503599627370496 = .number false 4503599627370496 (-1074) := by rfl
theorem rdMax : Ieee.double.read 9218868437227405311 = .number false 9007199254740991 971 := by rfl
theorem rdInf : Ieee.double.read 9218868437227405312 = .infinity false := by rfl
theorem one_le_pow (k : Nat) : 1 ≤ 2 ^ k := Nat.pos_of_ne_zero (by simp)
section
variable {m : Nat} {e : Int}
theorem rd_inf (h0 : 0 < m) (h : m < 9007199254740992) (he : -1074 ≤ e) (hf : 1024 ≤ e + m.log2) : Ieee.double.read (dblN m e) = .infinity false := by
  rw [dbl_inf h0 h he hf, rdInf]
theorem ord_zero (h0 : 0 < m) (h : m < 9007199254740992) (he : -1074 ≤ e) : Ieee.double.order (dblN m e) 0 = some .gt := by
  unfold Ieee.Format.order
  by_cases hf : e + m.log2 ≤ 1023
  · rw [read_dbl h0 h he hf, rd0]
    have hM : 0 < m * 2 ^ (e - lastP m e).toNat := Nat.mul_pos h0 (Nat.pos_of_ne_zero (by simp))
    have hl : -1074 ≤ lastP m e := by unfold lastP; omega
    simp only [Ieee.Datum.order, Ieee.signed, Bool.false_eq_true, if_false, Nat.shiftLeft_eq, Nat.zero_mul]
    generalize m * 2 ^ (e - lastP m e).toNat = M at *
    have hp := one_le_pow (lastP m e - min (lastP m e) (-1074)).toNat
    have : 0 < M * 2 ^ (lastP m e - min (lastP m e) (-1074)).toNat := Nat.mul_pos hM hp
    generalize M * 2 ^ (lastP m e - min (lastP m e) (-1074)).toNat = A at *
    have : compare ((A : Nat) : Int) ((0 : Nat) : Int) = .gt := by
      rw [Int.compare_eq_gt]; omega
    rw [this]
  · rw [rd_inf h0 h he (by omega), rd0]; rfl
theorem ord_min (h0 : 0 < m) (h : m < 9007199254740992) : Ieee.double.order (dblN m 0) 4503599627370496 = some .gt := by
  have hlg := log2_lt53 h0 h
  have hf : (0 : Int) + m.log2 ≤ 1023 := by omega
  unfold Ieee.Format.order
  rw [read_dbl h0 h (by omega) hf, rdMin]
  have hl : lastP m 0 = (m.log2 : Int) - 52 := by unfold lastP; omega
  have hM := (pow_le52 h0 h (by omega : (-1074 : Int) ≤ 0)).2 (by omega)
  simp only [Ieee.Datum.order, Ieee.signed, Bool.false_eq_true, if_false, Nat.shiftLeft_eq]
  generalize m * 2 ^ ((0 : Int) - lastP m 0).toNat = M at *
  have e1 : ((-1074 : Int) - min (lastP m 0) (-1074)).toNat = 0 := by omega
  obtain ⟨k, hk⟩ : ∃ k, (lastP m 0 - min (lastP m 0) (-1074)).toNat = k + 1 := ⟨(lastP m 0 - min (lastP m 0) (-1074)).toNat - 1, by omega⟩
  rw [e1, hk]
  have hp := one_le_pow k
  have : 9007199254740992 ≤ M * 2 ^ (k + 1) := by
    rw [Nat.pow_succ]
    calc 9007199254740992 = 4503599627370496 * (1 * 2) := by omega
      _ ≤ M * (2 ^ k * 2) := Nat.mul_le_mul hM (Nat.mul_le_mul_right _ hp)
  generalize M * 2 ^ (k + 1) = A at *
  have : compare ((A : Nat) : Int) ((4503599627370496 * 2 ^ 0 : Nat) : Int) = .gt := by
    rw [Int.compare_eq_gt]; omega
  rw [this]
theorem ord_max (h0 : 0 < m) (h : m < 9007199254740992) (he : -1074 ≤ e) : (Ieee.double.order (dblN m e) 9218868437227405311 == some .gt) = decide (1024 ≤ e + m.log2) := by
  unfold Ieee.Format.order
  by_cases hf : e + m.log2 ≤ 1023
  · rw [read_dbl h0 h he hf, rdMax]
    have hlg := log2_lt53 h0 h
    have hM := (pow_le52 h0 h he).1
    have hl : lastP m e ≤ 971 := by unfold lastP; omega
    simp only [Ieee.Datum.order, Ieee.signed, Bool.false_eq_true, if_false, Nat.shiftLeft_eq]
    generalize m * 2 ^ (e - lastP m e).toNat = M at *
    have e1 : (lastP m e - min (lastP m e) 971).toNat = 0 := by omega
    rw [e1]
    have hp := one_le_pow (971 - min (lastP m e) 971).toNat
    have : 9007199254740991 ≤ 9007199254740991 * 2 ^ (971 - min (lastP m e) 971).toNat := Nat.le_mul_of_pos_right _ hp
    generalize 9007199254740991 * 2 ^ (971 - min (lastP m e) 971).toNat = A at *
    have : compare ((M * 2 ^ 0 : Nat) : Int) ((A : Nat) : Int) ≠ .gt := by
      rw [Ne, Int.compare_eq_gt]; omega
    cases hc : compare ((M * 2 ^ 0 : Nat) : Int) ((A : Nat) : Int) with
    | gt => exact absurd hc this
    | lt => simp; omega
    | eq => simp; omega
  · rw [rd_inf h0 h he (by omega), rdMax]
    have : 1024 ≤ e + (m.log2 : Int) := by omega
    simp only [this, decide_true]; rfl
theorem ord_self (h0 : 0 < m) (h : m < 9007199254740992) (he : -1074 ≤ e) : Ieee.double.order (dblN m e) (dblN m e) = some .eq := by
  unfold Ieee.Format.order
  by_cases hf : e + m.log2 ≤ 1023
  · rw [read_dbl h0 h he hf]
    simp only [Ieee.Datum.order]
    congr 1
    rw [Int.compare_eq_eq]
  · rw [rd_inf h0 h he (by omega)]; rfl
end
theorem mul_pow2 {m : Nat} {e : Int} (h0 : 0 < m) (h : m < 9007199254740992) (he : -1074 ≤ e) (hf : e + m.log2 ≤ 1023) (C : Nat) (p : Int) (hC : Ieee.double.read C = .number false 4503599627370496 (p - 52)) (hp : -1074 ≤ e + p) :
    Ieee.double.mul C (dblN m e) = some (dblN m (e + p)) := by
  unfold Ieee.Format.mul
  rw [hC, read_dbl h0 h he hf]
  have hle := lastP_le h0 h he
  simp only [Ieee.Datum.product, Option.map_some, Ieee.Format.write]
  have a1 : 4503599627370496 * (m * 2 ^ (e - lastP m e).toNat) = m * 2 ^ ((e - lastP m e).toNat + 52) := by
    rw [Nat.pow_add, Nat.mul_comm, Nat.mul_assoc]
  have a2 : p - 52 + lastP m e = (e + p) - (((e - lastP m e).toNat + 52 : Nat) : Int) := by omega
  rw [a1, a2, show (false ^^ false) = false from rfl, nearest_exact m (e + p) _ h0 h (by omega)]
theorem word_eq {m : Nat} {e : Int} (h0 : 0 < m) (h : m < 9007199254740992) (h1 : -1022 ≤ e + m.log2) (h2 : e + m.log2 ≤ 1023) :
    dblN m e = (e + m.log2 + 1023).toNat * 4503599627370496 + (m * 2 ^ (52 - m.log2) - 4503599627370496) ∧ 4503599627370496 ≤ m * 2 ^ (52 - m.log2) ∧ m * 2 ^ (52 - m.log2) < 9007199254740992 := by
  have hlg := log2_lt53 h0 h
  have he : -1074 ≤ e := by omega
  have hl : lastP m e = e + m.log2 - 52 := by unfold lastP; omega
  have hk : (e - lastP m e).toNat = 52 - m.log2 := by omega
  have hM := pow_le52 h0 h he
  have hq := (fin_iff h0 h he).1 h2
  rw [hk] at hM hq
  have hl0 : lastP m 0 = (m.log2 : Int) - 52 := by unfold lastP; omega
  have hk0 : ((0 : Int) - lastP m 0).toNat = 52 - m.log2 := by omega
  have hM0 := (pow_le52 h0 h (by omega : (-1074 : Int) ≤ 0)).2 (by omega)
  rw [hk0] at hM0
  refine ⟨?_, hM0, hM.1⟩
  unfold dblN
  rw [hk, hl]
  rw [hl] at hq
  generalize m * 2 ^ (52 - m.log2) = K at *
  generalize (m.log2 : Int) = L at *
  have ht : (e + L + 1023).toNat = (e + L - 52 + 1074).toNat + 1 := by omega
  rw [ht, Nat.add_mul, Nat.one_mul, Nat.min_eq_left (Nat.le_of_lt hq), Nat.add_assoc, Nat.add_sub_cancel' hM0]
theorem ldexp_word {m : Nat} (h0 : 0 < m) (h : m < 9007199254740992) : ∃ L F : Nat, m.log2 = L ∧ L ≤ 52 ∧ F < 4503599627370496 ∧ dblN m 0 = (L + 1023) * 4503599627370496 + F ∧
    ∀ (e : Int) (E : Nat), -1022 ≤ e + L → e + L ≤ 1023 → (E : Int) = e + L + 1023 → (E : Int) * 4503599627370496 + (F : Int) = ((dblN m e : Nat) : Int) := by
  have hlg := log2_lt53 h0 h
  obtain ⟨a1, a2, a3⟩ := word_eq (e := 0) h0 h (by omega) (by omega)
  refine ⟨m.log2, m * 2 ^ (52 - m.log2) - 4503599627370496, rfl, hlg, ?_, ?_, fun e E g1 g2 g3 => ?_⟩
  · generalize m * 2 ^ (52 - m.log2) = K at *
    omega
  · rw [a1]
    congr 2
    omega
  · obtain ⟨b1, _, _⟩ := word_eq (e := e) h0 h g1 g2
    rw [b1, ← g3]
    generalize m * 2 ^ (52 - m.log2) - 4503599627370496 = F
    rw [Int.natCast_add, Int.natCast_mul]
    rfl
/-! ### Bits -/
theorem nat_split (X : Nat) : X = X / 2 ^ 52 * 2 ^ 52 + X % 2 ^ 52 := by rw [Nat.mul_comm]; exact (Nat.div_add_mod _ _).symm
theorem ofInt_nat (n : Nat) (h : n < 18446744073709551616) : (BitVec.ofInt 64 (n : Int)).toNat = n := by
  rw [BitVec.ofInt_natCast, BitVec.toNat_ofNat]; exact Nat.mod_eq_of_lt h
theorem bits_abs (n : Nat) (h : n < 9223372036854775808) : IntKind.u64.wrap (BitVec.ofInt IntKind.u64.bits (n : Int) &&& ~~~BitVec.ofInt IntKind.u64.bits 9223372036854775808).toNat = n := by
  have e1 : (BitVec.ofInt 64 (n : Int) &&& ~~~BitVec.ofInt 64 9223372036854775808).toNat = n := by
    rw [BitVec.toNat_and, ofInt_nat n (by omega)]
    have : (~~~BitVec.ofInt 64 9223372036854775808).toNat = 2 ^ 63 - 1 := by rfl
    rw [this, Nat.and_two_pow_sub_one_eq_mod]
    exact Nat.mod_eq_of_lt (by omega)
  show IntKind.u64.wrap ((BitVec.ofInt 64 (n : Int) &&& ~~~BitVec.ofInt 64 9223372036854775808).toNat : Int) = n
  rw [e1, u64w] <;> omega
theorem and_pow_zero {T : Nat} (hT : T < 2048) : T &&& 2 ^ 11 = 0 := by
  apply Nat.eq_of_testBit_eq
  intro i
  rw [Nat.testBit_and, Nat.testBit_two_pow, Nat.zero_testBit]
  by_cases hi : 11 = i
  · subst hi
    rw [Nat.testBit_lt_two_pow (by omega)]; rfl
  · simp [hi]
theorem bits_frac (T F : Nat) (hT : T < 2048) (hF : F < 4503599627370496) : IntKind.u64.wrap (BitVec.ofInt IntKind.u64.bits ((T * 4503599627370496 + F : Nat) : Int) &&& ~~~BitVec.ofInt IntKind.u64.bits 9218868437227405312).toNat = F := by
  have e1 : (BitVec.ofInt 64 ((T * 4503599627370496 + F : Nat) : Int) &&& ~~~BitVec.ofInt 64 9218868437227405312).toNat = F := by
    rw [BitVec.toNat_and, ofInt_nat _ (by omega)]
    have : (~~~BitVec.ofInt 64 9218868437227405312).toNat = 9227875636482146303 := by rfl
    rw [this, nat_split ((T * 4503599627370496 + F) &&& 9227875636482146303), Nat.and_div_two_pow, Nat.and_mod_two_pow]
    have a1 : (T * 4503599627370496 + F) / 2 ^ 52 = T := by omega
    have a2 : (T * 4503599627370496 + F) % 2 ^ 52 = F := by omega
    have a3 : 9227875636482146303 / 2 ^ 52 = 2 ^ 11 := by rfl
    have a4 : 9227875636482146303 % 2 ^ 52 = 2 ^ 52 - 1 := by rfl
    rw [a1, a2, a3, a4, Nat.and_two_pow_sub_one_eq_mod, and_pow_zero hT]
    have := Nat.mod_eq_of_lt (show F < 2 ^ 52 by omega)
    omega
  show IntKind.u64.wrap ((BitVec.ofInt 64 ((T * 4503599627370496 + F : Nat) : Int) &&& ~~~BitVec.ofInt 64 9218868437227405312).toNat : Int) = F
  rw [e1, u64w] <;> omega
theorem bits_or (E F : Nat) (hE : E < 4096) (hF : F < 4503599627370496) : IntKind.u64.wrap (BitVec.ofInt IntKind.u64.bits (F : Int) ||| BitVec.ofInt IntKind.u64.bits ((E : Int) * 4503599627370496)).toNat = (E : Int) * 4503599627370496 + (F : Int) := by
  have ec : (E : Int) * 4503599627370496 = ((E * 4503599627370496 : Nat) : Int) := by omega
  rw [ec]
  generalize hG : E * 4503599627370496 = G
  have e1 : (BitVec.ofInt 64 (F : Int) ||| BitVec.ofInt 64 ((G : Nat) : Int)).toNat = G + F := by
    rw [BitVec.toNat_or, ofInt_nat _ (by omega), ofInt_nat _ (by omega), Nat.or_comm]
    have := Nat.shiftLeft_add_eq_or_of_lt (show F < 2 ^ 52 by omega) E
    rw [Nat.shiftLeft_eq] at this
    rw [← hG]
    exact this.symm
  show IntKind.u64.wrap ((BitVec.ofInt 64 (F : Int) ||| BitVec.ofInt 64 ((G : Nat) : Int)).toNat : Int) = _
  rw [e1]
  exact (u64w (by omega) (by omega)).trans (by omega)
theorem bits_low (T : Nat) (hT : T < 2048) : IntKind.i64.wrap (BitVec.ofInt IntKind.i64.bits (T : Int) &&& BitVec.ofInt IntKind.i64.bits 2047).toNat = T := by
  have e1 : (BitVec.ofInt 64 (T : Int) &&& BitVec.ofInt 64 2047).toNat = T := by
    rw [BitVec.toNat_and, ofInt_nat _ (by omega)]
    have : (BitVec.ofInt 64 2047).toNat = 2 ^ 11 - 1 := by rfl
    rw [this, Nat.and_two_pow_sub_one_eq_mod]
    exact Nat.mod_eq_of_lt (by omega)
  show IntKind.i64.wrap ((BitVec.ofInt 64 (T : Int) &&& BitVec.ofInt 64 2047).toNat : Int) = T
  rw [e1, i64w] <;> omega
end Go.Ev
namespace Go.Proofs.YtlobiioioicmhaaGreatDoor
set_option linter.all false
open Go Go.Ev
set_option maxRecDepth 20000
variable {γ : List (Nat × AV)}
theorem b122 : bodyT Tryz.prog 196 := ⟨_, Tryz.func196, by kernel_rfl, by kernel_rfl⟩
theorem b130 : bodyT Tryz.prog 264 := ⟨_, Tryz.func264, by kernel_rfl, by kernel_rfl⟩
theorem b131 : bodyT Tryz.prog 265 := ⟨_, Tryz.func265, by kernel_rfl, by kernel_rfl⟩
theorem b100 : bodyT Tryz.prog 119 := ⟨_, Tryz.func119, by kernel_rfl, by kernel_rfl⟩
theorem b86 : bodyT Tryz.prog 165 := ⟨_, Tryz.func165, by kernel_rfl, by kernel_rfl⟩
theorem b112 : bodyT Tryz.prog 226 := ⟨_, Tryz.func226, by kernel_rfl, by kernel_rfl⟩
theorem b89 : bodyT Tryz.prog 168 := ⟨_, Tryz.func168, by kernel_rfl, by kernel_rfl⟩
theorem ext33 (b : Nat) : ExtV Tryz.prog 172 [.v (.float .f64 b)] (.v (.int .u64 b)) := ext_float64bits Tryz.func172 (by kernel_rfl) (by kernel_rfl) (by kernel_rfl) (by kernel_rfl) b
theorem ext108 (n : Int) : ExtV Tryz.prog 222 [.v (.int .u64 n)] (.v (.float .f64 n.toNat)) := ext_float64frombits Tryz.func222 (by kernel_rfl) (by kernel_rfl) (by kernel_rfl) (by kernel_rfl) n
theorem fltRes_some (r : Nat) : fltRes (some r) = .v (.float .f64 r) := rfl
theorem dblN_le (m : Nat) (e : Int) : dblN m e ≤ 9218868437227405312 := Nat.min_le_right _ _
theorem abs_ev (V : Nat) (h : V < 9223372036854775808) : Ev Tryz.prog γ 196 [.v (.float .f64 V)] (.v (.float .f64 V)) := by
  refine Ev.of Tryz.func196 rfl ?_
  simp only [Tryz.f196, evS, tyS, Bool.not_true, Bool.not_false, Nat.reduceAdd, Nat.reduceSub, Nat.reduceMul, Nat.reduceLT, Nat.reduceLeDiff, Nat.reduceEqDiff, reduceCtorEq, List.reduceReplicate, Int.reduceToNat, Int.reduceLE, Int.reduceLT]
  refine CallK.ext (ext33 V) ?_
  simp only [bits_abs V h, evS, tyS, Bool.not_true, Bool.not_false, Nat.reduceAdd, Nat.reduceSub, Nat.reduceMul, Nat.reduceLT, Nat.reduceLeDiff, Nat.reduceEqDiff, reduceCtorEq, List.reduceReplicate, Int.reduceToNat, Int.reduceLE, Int.reduceLT]
  refine CallK.ext (ext108 V) ?_
  simp only [evS, tyS, Bool.not_true, Bool.not_false, Nat.reduceAdd, Nat.reduceSub, Nat.reduceMul, Nat.reduceLT, Nat.reduceLeDiff, Nat.reduceEqDiff, reduceCtorEq, List.reduceReplicate, Int.reduceToNat, Int.reduceLE, Int.reduceLT]
theorem isNaN_ev (V : Nat) (h : FloatKind.f64.format.order V V = some .eq) : Ev Tryz.prog γ 264 [.v (.float .f64 V)] (.v (.bool false)) := by
  refine Ev.of Tryz.func264 rfl ?_
  simp only [Tryz.f264, h, evS, tyS, Bool.not_true, Bool.not_false, Nat.reduceAdd, Nat.reduceSub, Nat.reduceMul, Nat.reduceLT, Nat.reduceLeDiff, Nat.reduceEqDiff, reduceCtorEq, List.reduceReplicate, Int.reduceToNat, Int.reduceLE, Int.reduceLT]
  rfl
theorem isInf_ev (V : Nat) (h : V < 9223372036854775808) : Ev Tryz.prog γ 119 [.v (.float .f64 V), .v (.int .i64 0)] (.v (.bool (FloatKind.f64.format.order V 9218868437227405311 == some .gt))) := by
  refine Ev.of Tryz.func119 rfl ?_
  have h00 : ((0 : Int) == 0) = true := by decide
  simp only [Tryz.f119, h00, evS, tyS, Bool.not_true, Bool.not_false, Nat.reduceAdd, Nat.reduceSub, Nat.reduceMul, Nat.reduceLT, Nat.reduceLeDiff, Nat.reduceEqDiff, reduceCtorEq, List.reduceReplicate, Int.reduceToNat, Int.reduceLE, Int.reduceLT]
  refine CallK.intro b122 rfl (abs_ev V h) ?_
  simp only [evS, tyS, Bool.not_true, Bool.not_false, Nat.reduceAdd, Nat.reduceSub, Nat.reduceMul, Nat.reduceLT, Nat.reduceLeDiff, Nat.reduceEqDiff, reduceCtorEq, List.reduceReplicate, Int.reduceToNat, Int.reduceLE, Int.reduceLT]
theorem inf_ev : Ev Tryz.prog γ 165 [.v (.int .i64 1)] (.v (.float .f64 9218868437227405312)) := by
  refine Ev.of Tryz.func165 rfl ?_
  simp only [Tryz.f165, evS, tyS, Bool.not_true, Bool.not_false, Nat.reduceAdd, Nat.reduceSub, Nat.reduceMul, Nat.reduceLT, Nat.reduceLeDiff, Nat.reduceEqDiff, reduceCtorEq, List.reduceReplicate, Int.reduceToNat, Int.reduceLE, Int.reduceLT]
  refine CallK.ext (ext108 9218868437227405312) ?_
  simp only [evS, tyS, Bool.not_true, Bool.not_false, Nat.reduceAdd, Nat.reduceSub, Nat.reduceMul, Nat.reduceLT, Nat.reduceLeDiff, Nat.reduceEqDiff, reduceCtorEq, List.reduceReplicate, Int.reduceToNat, Int.reduceLE, Int.reduceLT]
theorem normalize_ev {m : Nat} (h0 : 0 < m) (h : m < 9007199254740992) : Ev Tryz.prog γ 265 [.v (.float .f64 (dblN m 0))] (.tup [.v (.float .f64 (dblN m 0)), .v (.int .i64 0)]) := by
  have ho : FloatKind.f64.format.order (dblN m 0) 4503599627370496 = some .gt := ord_min h0 h
  have hl := dblN_le m 0
  have hgl : ((some Ordering.gt : Option Ordering) == some .lt) = false := by decide
  refine Ev.of Tryz.func265 rfl ?_
  simp only [Tryz.f265, evS, tyS, Bool.not_true, Bool.not_false, Nat.reduceAdd, Nat.reduceSub, Nat.reduceMul, Nat.reduceLT, Nat.reduceLeDiff, Nat.reduceEqDiff, reduceCtorEq, List.reduceReplicate, Int.reduceToNat, Int.reduceLE, Int.reduceLT]
  refine CallK.intro b122 rfl (abs_ev (dblN m 0) (by omega)) ?_
  simp only [ho, hgl, evS, tyS, Bool.not_true, Bool.not_false, Nat.reduceAdd, Nat.reduceSub, Nat.reduceMul, Nat.reduceLT, Nat.reduceLeDiff, Nat.reduceEqDiff, reduceCtorEq, List.reduceReplicate, Int.reduceToNat, Int.reduceLE, Int.reduceLT]
set_option maxRecDepth 20000 in
set_option maxRecDepth 20000 in
theorem ldexp_ev (m : Nat) (h0 : 0 < m) (h : m < 9007199254740992) (x : Int) (hx : -1074 ≤ x) (hx2 : x ≤ 1074) : Ev Tryz.prog γ 226 [.v (.float .f64 (dblN m 0)), .v (.int .i64 x)] (.v (.float .f64 (dblN m x))) := by
  have o0 : FloatKind.f64.format.order (dblN m 0) 0 = some .gt := ord_zero h0 h (by omega)
  have os : FloatKind.f64.format.order (dblN m 0) (dblN m 0) = some .eq := ord_self h0 h (by omega)
  have om : (FloatKind.f64.format.order (dblN m 0) 9218868437227405311 == some .gt) = false := by
    have := ord_max h0 h (by omega : (-1074 : Int) ≤ 0)
    have hlg := log2_lt53 h0 h
    rw [show FloatKind.f64.format = Ieee.double from rfl, this]; simp; omega
  have hnorm := normalize_ev (γ := γ) h0 h
  have hinf := dbl_inf (e := x) h0 h hx
  have hm1 : ∀ e : Int, -1074 ≤ e → e + m.log2 ≤ 1023 → FloatKind.f64.format.mul 4607182418800017408 (dblN m e) = some (dblN m e) := fun e g1 g2 => by
    have := mul_pow2 (e := e) h0 h g1 g2 4607182418800017408 0 (by rfl) (by omega)
    rw [Int.add_zero] at this
    exact this
  have hm2 : ∀ e : Int, -1074 ≤ e + 53 → -1074 ≤ e → e + 53 + m.log2 ≤ 1023 → FloatKind.f64.format.mul 4368491638549381120 (dblN m (e + 53)) = some (dblN m e) := fun e g1 g3 g2 => by
    have := mul_pow2 (e := e + 53) h0 h g1 g2 4368491638549381120 (-53) (by rfl) (by omega)
    rw [show e + 53 + -53 = e from by omega] at this
    exact this
  obtain ⟨L, F, hL, hL52, hF, hV, hword⟩ := ldexp_word h0 h
  rw [hL] at hinf hm1 hm2
  have hl := dblN_le m 0
  generalize hD : dblN m = D at *
  clear h0 h hD hL
  have c1 : decide (1023 < x + (L : Int)) = true → 1024 ≤ x + (L : Int) := fun h => by have := of_decide_eq_true h; omega
  have c2 : decide (1023 < x + (L : Int)) = false → x + (L : Int) ≤ 1023 := fun h => by have := of_decide_eq_false h; omega
  have c3 : decide (x + (L : Int) < -1022) = true → ∃ E G : Nat, IntKind.i64.wrap (x + (L : Int) + 53) = x + (L : Int) + 53 ∧ IntKind.i64.wrap (x + (L : Int) + 53 + 1023) = (E : Int) ∧ IntKind.u64.wrap (E : Int) = (E : Int) ∧ IntKind.u64.wrap ((E : Int) * 2 ^ min 52 IntKind.u64.bits) = (G : Int) ∧
      IntKind.u64.wrap (BitVec.ofInt IntKind.u64.bits (F : Int) ||| BitVec.ofInt IntKind.u64.bits (G : Int)).toNat = ((D (x + 53) : Nat) : Int) ∧ FloatKind.f64.format.mul 4368491638549381120 (D (x + 53)) = some (D x) := fun h => by
    have hd' := of_decide_eq_true h
    obtain ⟨E, hE⟩ : ∃ E : Nat, (E : Int) = x + (L : Int) + 53 + 1023 := ⟨(x + (L : Int) + 53 + 1023).toNat, by omega⟩
    have p52' : (2 : Int) ^ min 52 IntKind.u64.bits = 4503599627370496 := by decide
    have w9 := bits_or E F (by omega) hF
    obtain ⟨G, hG⟩ : ∃ G : Nat, (E : Int) * 4503599627370496 = (G : Int) := ⟨E * 4503599627370496, by omega⟩
    have wq := hword (x + 53) E (by omega) (by omega) (by omega)
    rw [wq, hG] at w9
    exact ⟨E, G, i64w (by omega) (by omega), (i64w (by omega) (by omega)).trans hE.symm, u64w (by omega) (by omega), by rw [p52', hG]; exact u64w (by omega) (by omega), w9, hm2 x (by omega) hx (by omega)⟩
  have c4 : decide (1023 < x + (L : Int)) = false → decide (x + (L : Int) < -1022) = false → ∃ E G : Nat, IntKind.i64.wrap (x + (L : Int) + 1023) = (E : Int) ∧ IntKind.u64.wrap (E : Int) = (E : Int) ∧ IntKind.u64.wrap ((E : Int) * 2 ^ min 52 IntKind.u64.bits) = (G : Int) ∧
      IntKind.u64.wrap (BitVec.ofInt IntKind.u64.bits (F : Int) ||| BitVec.ofInt IntKind.u64.bits (G : Int)).toNat = ((D x : Nat) : Int) ∧ FloatKind.f64.format.mul 4607182418800017408 (D x) = some (D x) := fun h1 h => by
    have hd' := of_decide_eq_false h
    have hd2 := of_decide_eq_false h1
    obtain ⟨E, hE⟩ : ∃ E : Nat, (E : Int) = x + (L : Int) + 1023 := ⟨(x + (L : Int) + 1023).toNat, by omega⟩
    have p52' : (2 : Int) ^ min 52 IntKind.u64.bits = 4503599627370496 := by decide
    have w9 := bits_or E F (by omega) hF
    obtain ⟨G, hG⟩ : ∃ G : Nat, (E : Int) * 4503599627370496 = (G : Int) := ⟨E * 4503599627370496, by omega⟩
    have wq := hword x E (by omega) (by omega) (by omega)
    rw [wq, hG] at w9
    exact ⟨E, G, (i64w (by omega) (by omega)).trans hE.symm, u64w (by omega) (by omega), by rw [p52', hG]; exact u64w (by omega) (by omega), w9, hm1 x hx (by omega)⟩
  have w1 : IntKind.i64.wrap ((L + 1023 : Nat) : Int) = ((L + 1023 : Nat) : Int) := i64w (by omega) (by omega)
  have w3 : IntKind.i64.wrap (((L + 1023 : Nat) : Int) - 1023) = (L : Int) := (i64w (by omega) (by omega)).trans (by omega)
  have w4 : IntKind.i64.wrap (x + (L : Int)) = x + (L : Int) := i64w (by omega) (by omega)
  have w0 : IntKind.i64.wrap (x + 0) = x := by rw [Int.add_zero]; exact i64w (by omega) (by omega)
  have l1 : decide (x + (L : Int) < -1075) = false := decide_eq_false (by omega)
  have hD0 : D 0 < 9223372036854775808 := by omega
  have w2 := bits_low (L + 1023) (by omega)
  have hdiv : ((D 0 : Nat) : Int) / 4503599627370496 = ((L + 1023 : Nat) : Int) := by rw [hV]; omega
  have fr : IntKind.u64.wrap (BitVec.ofInt IntKind.u64.bits ((D 0 : Nat) : Int) &&& ~~~BitVec.ofInt IntKind.u64.bits 9218868437227405312).toNat = (F : Int) := by
    have := bits_frac (L + 1023) F (by omega) hF
    rw [hV]; exact this
  have esh : ((D 0 : Nat) : Int).fdiv (2 ^ min (Int.toNat 52) IntKind.u64.bits) = ((L + 1023 : Nat) : Int) := by
    have e1 : (2 : Int) ^ min (Int.toNat 52) IntKind.u64.bits = 4503599627370496 := by decide
    rw [e1, Int.fdiv_eq_ediv_of_nonneg _ (by decide), hdiv]
  have esh' : ((D 0 : Nat) : Int).fdiv (2 ^ min 52 IntKind.u64.bits) = ((L + 1023 : Nat) : Int) := esh
  have ge : ((some Ordering.gt : Option Ordering) == some .eq) = false := by decide
  have gl : ((some Ordering.gt : Option Ordering) == some .lt) = false := by decide
  clear hV hdiv hword hm1 hm2
  refine Ev.of Tryz.func226 rfl ?_
  simp only [Tryz.f226, o0, ge, evS, tyS, Bool.not_true, Bool.not_false, Nat.reduceAdd, Nat.reduceSub, Nat.reduceMul, Nat.reduceLT, Nat.reduceLeDiff, Nat.reduceEqDiff, reduceCtorEq, List.reduceReplicate, Int.reduceToNat, Int.reduceLE, Int.reduceLT]
  refine CallK.intro b100 rfl (isInf_ev (D 0) hD0) ?_
  simp only [om, evS, tyS, Bool.not_true, Bool.not_false, Nat.reduceAdd, Nat.reduceSub, Nat.reduceMul, Nat.reduceLT, Nat.reduceLeDiff, Nat.reduceEqDiff, reduceCtorEq, List.reduceReplicate, Int.reduceToNat, Int.reduceLE, Int.reduceLT]
  refine CallK.intro b130 rfl (isNaN_ev (D 0) os) ?_
  simp only [evS, tyS, Bool.not_true, Bool.not_false, Nat.reduceAdd, Nat.reduceSub, Nat.reduceMul, Nat.reduceLT, Nat.reduceLeDiff, Nat.reduceEqDiff, reduceCtorEq, List.reduceReplicate, Int.reduceToNat, Int.reduceLE, Int.reduceLT]
  refine CallK.intro b131 rfl hnorm ?_
  simp only [evS, tyS, Bool.not_true, Bool.not_false, Nat.reduceAdd, Nat.reduceSub, Nat.reduceMul, Nat.reduceLT, Nat.reduceLeDiff, Nat.reduceEqDiff, reduceCtorEq, List.reduceReplicate, Int.reduceToNat, Int.reduceLE, Int.reduceLT]
  refine CallK.ext (ext33 (D 0)) ?_
  simp only [esh, esh', w0, w1, w2, w3, w4, l1, evS, tyS, Bool.not_true, Bool.not_false, Nat.reduceAdd, Nat.reduceSub, Nat.reduceMul, Nat.reduceLT, Nat.reduceLeDiff, Nat.reduceEqDiff, reduceCtorEq, List.reduceReplicate, Int.reduceToNat, Int.reduceLE, Int.reduceLT]
  refine CondK.intro (fun hg => ?_) (fun hg => ?_) <;> simp only [hg, o0, gl, fr, evS, tyS, Bool.not_true, Bool.not_false, Nat.reduceAdd, Nat.reduceSub, Nat.reduceMul, Nat.reduceLT, Nat.reduceLeDiff, Nat.reduceEqDiff, reduceCtorEq, List.reduceReplicate, Int.reduceToNat, Int.reduceLE, Int.reduceLT]
  · refine CallK.intro b86 rfl inf_ev ?_
    rw [hinf (c1 hg)]
    simp only [evS, tyS, Bool.not_true, Bool.not_false, Nat.reduceAdd, Nat.reduceSub, Nat.reduceMul, Nat.reduceLT, Nat.reduceLeDiff, Nat.reduceEqDiff, reduceCtorEq, List.reduceReplicate, Int.reduceToNat, Int.reduceLE, Int.reduceLT]
  · refine CondK.intro (fun hd => ?_) (fun hd => ?_)
    · obtain ⟨E, G, w5, w6, w7, w8, w9, mm⟩ := c3 hd
      simp only [hd, w5, w6, w7, w8, w9, fr, evS, tyS, Bool.not_true, Bool.not_false, Nat.reduceAdd, Nat.reduceSub, Nat.reduceMul, Nat.reduceLT, Nat.reduceLeDiff, Nat.reduceEqDiff, reduceCtorEq, List.reduceReplicate, Int.reduceToNat, Int.reduceLE, Int.reduceLT]
      refine CallK.ext (ext108 (D (x + 53))) ?_
      simp only [mm, fltRes_some, evS, tyS, Bool.not_true, Bool.not_false, Nat.reduceAdd, Nat.reduceSub, Nat.reduceMul, Nat.reduceLT, Nat.reduceLeDiff, Nat.reduceEqDiff, reduceCtorEq, List.reduceReplicate, Int.reduceToNat, Int.reduceLE, Int.reduceLT]
    · obtain ⟨E, G, w6, w7, w8, w9, mm⟩ := c4 hg hd
      simp only [hd, w6, w7, w8, w9, fr, evS, tyS, Bool.not_true, Bool.not_false, Nat.reduceAdd, Nat.reduceSub, Nat.reduceMul, Nat.reduceLT, Nat.reduceLeDiff, Nat.reduceEqDiff, reduceCtorEq, List.reduceReplicate, Int.reduceToNat, Int.reduceLE, Int.reduceLT]
      refine CallK.ext (ext108 (D x)) ?_
      simp only [mm, fltRes_some, evS, tyS, Bool.not_true, Bool.not_false, Nat.reduceAdd, Nat.reduceSub, Nat.reduceMul, Nat.reduceLT, Nat.reduceLeDiff, Nat.reduceEqDiff, reduceCtorEq, List.reduceReplicate, Int.reduceToNat, Int.reduceLE, Int.reduceLT]
theorem Ldexp_ev (m : Nat) (h0 : 0 < m) (h : m < 9007199254740992) (x : Int) (hx : -1074 ≤ x) (hx2 : x ≤ 1074) : Ev Tryz.prog γ 168 [.v (.float .f64 (dblN m 0)), .v (.int .i64 x)] (.v (.float .f64 (dblN m x))) := by
  refine Ev.of Tryz.func168 rfl ?_
  simp only [Tryz.f168, evS, tyS, Bool.not_true, Bool.not_false, Nat.reduceAdd, Nat.reduceSub, Nat.reduceMul, Nat.reduceLT, Nat.reduceLeDiff, Nat.reduceEqDiff, reduceCtorEq, List.reduceReplicate, Int.reduceToNat, Int.reduceLE, Int.reduceLT]
  refine CallK.intro b112 rfl (ldexp_ev m h0 h x hx hx2) ?_
  simp only [evS, tyS, Bool.not_true, Bool.not_false, Nat.reduceAdd, Nat.reduceSub, Nat.reduceMul, Nat.reduceLT, Nat.reduceLeDiff, Nat.reduceEqDiff, reduceCtorEq, List.reduceReplicate, Int.reduceToNat, Int.reduceLE, Int.reduceLT]
end Go.Proofs.YtlobiioioicmhaaGreatDoor
namespace Go.Proofs.YtlobiioioicmhaaGreatDoor
set_option linter.all false
open Go Go.Ev
set_option maxRecDepth 20000
variable {γ : List (Nat × AV)}
/-- m * 2^e as a double. -/
def realB (m : Nat) (e : Int) : Nat := if m = 0 then 0 else dblN m e
theorem near_eq (m : Nat) (h : m < 9007199254740992) : FloatKind.f64.nearest (m : Int) = realB m 0 := by
  unfold realB
  by_cases h0 : m = 0
  · subst h0; rfl
  · rw [if_neg h0]
    have := nearest_exact m 0 0 (by omega) h (by omega)
    have e1 : (decide ((m : Int) < 0)) = false := decide_eq_false (by omega)
    show Ieee.double.nearest (decide ((m : Int) < 0)) (m : Int).natAbs 0 = _
    rw [e1, Int.natAbs_natCast, ← this]
    rw [Nat.pow_zero, Nat.mul_one]
    rfl
end Go.Proofs.YtlobiioioicmhaaGreatDoor
