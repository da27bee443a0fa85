/- Contracts of the functions that the law reaches. -/
import Derived.Test.YtlobiioioicmhaaGreatDoorQ6
/- The document's reader of expressions, walked: its tables. -/
namespace Go.Proofs.YtlobiioioicmhaaGreatDoor
set_option linter.all false
open Go Go.Ev
set_option maxRecDepth 20000
variable {γ : List (Nat × AV)}
theorem tyR : ptrT Tryz.prog 110 = true ∧ aggT Tryz.prog 110 = some false ∧
    aggT Tryz.prog 115 = some true ∧
    aggT Tryz.prog 188 = some false ∧
    aggT Tryz.prog 2 = some false ∧
    aggT Tryz.prog 22 = some false ∧
    aggT Tryz.prog 25 = some true ∧
    aggT Tryz.prog 3 = some false ∧
    aggT Tryz.prog 47 = some false ∧
    aggT Tryz.prog 54 = some true ∧
    aggT Tryz.prog 9 = some false ∧
    appT Tryz.prog 188 188 = some (110, 1, 8) ∧
    appT Tryz.prog 39 39 = some (115, 9, 96) ∧
    elemT Tryz.prog 128 = some 9 ∧
    elemT Tryz.prog 188 = some 110 ∧
    elemT Tryz.prog 37 = some 5 ∧
    elemT Tryz.prog 39 = some 115 ∧
    elemT Tryz.prog 47 = some 54 ∧
    elemT Tryz.prog 78 = some 3 ∧
    fieldT Tryz.prog 109 0 = some (0, 47) ∧
    fieldT Tryz.prog 109 1 = some (1, 3) ∧
    fieldT Tryz.prog 109 2 = some (2, 3) ∧
    fieldT Tryz.prog 115 1 = some (1, 3) ∧
    fieldT Tryz.prog 115 2 = some (2, 3) ∧
    fieldT Tryz.prog 190 0 = some (0, 3) ∧
    fieldT Tryz.prog 190 1 = some (1, 9) ∧
    fieldT Tryz.prog 190 2 = some (2, 25) ∧
    fieldT Tryz.prog 190 3 = some (7, 188) ∧
    fieldT Tryz.prog 54 0 = some (0, 3) ∧
    fieldT Tryz.prog 54 1 = some (1, 9) ∧
    fieldT Tryz.prog 54 2 = some (2, 2) ∧
    fieldT Tryz.prog 54 3 = some (3, 22) ∧
    fieldT Tryz.prog 54 4 = some (4, 3) ∧
    fieldT Tryz.prog 54 5 = some (5, 3) ∧
    fltT Tryz.prog 37 = none ∧
    intT Tryz.prog 37 = none ∧
    intT Tryz.prog 5 = some .u8 ∧
    mkT Tryz.prog 128 = some (9, 1, [.v (.string ⟨#[]⟩)]) ∧
    mkT Tryz.prog 188 = some (110, 1, [.v (.pointer none)]) ∧
    mkT Tryz.prog 39 = some (115, 9, [.v (.int .i64 0), .v (.int .i64 0), .v (.int .i64 0), .v (.string ⟨#[]⟩), .v (.int .i64 0), .v (.int .i64 0), .v (.float .f64 0), .v (.complex .f64 0 0), .v (.string ⟨#[]⟩)]) ∧
    mkT Tryz.prog 78 = some (3, 1, [.v (.int .i64 0)]) ∧
    placesT Tryz.prog 109 = some [(0, 1), (1, 1), (2, 1)] ∧
    placesT Tryz.prog 115 = some [(0, 1), (1, 1), (2, 1), (3, 1), (4, 5)] ∧
    placesT Tryz.prog 190 = some [(0, 1), (1, 1), (2, 5), (7, 1)] ∧
    placesT Tryz.prog 25 = some [(0, 1), (1, 1), (2, 1), (3, 1), (4, 1)] ∧
    placesT Tryz.prog 41 = some [(0, 1)] ∧
    placesT Tryz.prog 54 = some [(0, 1), (1, 1), (2, 1), (3, 1), (4, 1), (5, 1)] ∧
    sizeT Tryz.prog 109 = some 3 ∧
    sizeT Tryz.prog 110 = some 1 ∧
    sizeT Tryz.prog 115 = some 9 ∧
    sizeT Tryz.prog 188 = some 1 ∧
    sizeT Tryz.prog 190 = some 8 ∧
    sizeT Tryz.prog 2 = some 1 ∧
    sizeT Tryz.prog 22 = some 1 ∧
    sizeT Tryz.prog 25 = some 5 ∧
    sizeT Tryz.prog 3 = some 1 ∧
    sizeT Tryz.prog 41 = some 1 ∧
    sizeT Tryz.prog 47 = some 1 ∧
    sizeT Tryz.prog 5 = some 1 ∧
    sizeT Tryz.prog 54 = some 6 ∧
    sizeT Tryz.prog 9 = some 1 ∧
    strT Tryz.prog 37 = false ∧
    strT Tryz.prog 9 = true ∧
    (Tryz.prog.underlying 9).isSome = true ∧
    zcT Tryz.prog 109 = some [.v (.slice none 0 0), .v (.int .i64 0), .v (.int .i64 0)] ∧
    zcT Tryz.prog 115 = some [.v (.int .i64 0), .v (.int .i64 0), .v (.int .i64 0), .v (.string ⟨#[]⟩), .v (.int .i64 0), .v (.int .i64 0), .v (.float .f64 0), .v (.complex .f64 0 0), .v (.string ⟨#[]⟩)] ∧
    zcT Tryz.prog 190 = some [.v (.int .i64 0), .v (.string ⟨#[]⟩), .v (.int .i64 0), .v (.int .i64 0), .v (.float .f64 0), .v (.complex .f64 0 0), .v (.string ⟨#[]⟩), .v (.slice none 0 0)] ∧
    zcT Tryz.prog 25 = some [.v (.int .i64 0), .v (.int .i64 0), .v (.float .f64 0), .v (.complex .f64 0 0), .v (.string ⟨#[]⟩)] ∧
    zcT Tryz.prog 41 = some [.v (.slice none 0 0)] ∧
    zcT Tryz.prog 54 = some [.v (.int .i64 0), .v (.string ⟨#[]⟩), .v (.int .i64 0), .v (.float .f64 0), .v (.int .i64 0), .v (.int .i64 0)] :=
  ⟨by kernel_rfl, by kernel_rfl, by kernel_rfl, by kernel_rfl, by kernel_rfl, by kernel_rfl, by kernel_rfl, by kernel_rfl, by kernel_rfl, by kernel_rfl, by kernel_rfl, by kernel_rfl, by kernel_rfl, by kernel_rfl, by kernel_rfl, by kernel_rfl, by kernel_rfl, by kernel_rfl, by kernel_rfl, by kernel_rfl, by kernel_rfl, by kernel_rfl, by kernel_rfl, by kernel_rfl, by kernel_rfl, by kernel_rfl, by kernel_rfl, by kernel_rfl, by kernel_rfl, by kernel_rfl, by kernel_rfl, by kernel_rfl, by kernel_rfl, by kernel_rfl, by kernel_rfl, by kernel_rfl, by kernel_rfl, by kernel_rfl, by kernel_rfl, by kernel_rfl, by kernel_rfl, by kernel_rfl, by kernel_rfl, by kernel_rfl, by kernel_rfl, by kernel_rfl, by kernel_rfl, by kernel_rfl, by kernel_rfl, by kernel_rfl, by kernel_rfl, by kernel_rfl, by kernel_rfl, by kernel_rfl, by kernel_rfl, by kernel_rfl, by kernel_rfl, by kernel_rfl, by kernel_rfl, by kernel_rfl, by kernel_rfl, by kernel_rfl, by kernel_rfl, by kernel_rfl, by kernel_rfl, by kernel_rfl, by kernel_rfl, by kernel_rfl, by kernel_rfl, by kernel_rfl⟩
/-- A level's operators: their texts, their kinds. -/
def opsL : Nat → List (List UInt8 × Int)
  | 1 => [([124, 124], 17)]
  | 2 => [([38, 38], 16)]
  | 3 => [([61, 61], 10), ([33, 61], 11), ([60], 12), ([60, 61], 13), ([62], 14), ([62, 61], 15)]
  | 4 => [([43], 5), ([45], 6)]
  | 5 => [([42], 7), ([47], 8), ([37], 9)]
  | 6 => [([45], 3), ([33], 4)]
  | _ => []
def wdsL : List (List UInt8 × Int) := [([114, 101], 18), ([105, 109], 19), ([115, 105, 122, 101, 50], 20), ([99, 111, 109, 112], 21), ([114, 101, 97, 108], 22), ([108, 101, 110], 23), ([97, 116], 24), ([99, 97, 116], 25), ([115, 116, 114], 26)]
def txC (l : List (List UInt8 × Int)) : List AV := l.map fun x => .v (.string ⟨x.1.toArray⟩)
def kdC (l : List (List UInt8 × Int)) : List AV := l.map fun x => .v (.int .i64 x.2)
def txA (l : List (List UInt8 × Int)) : AV := .sl false l.length l.length (txC l)
def kdA (l : List (List UInt8 × Int)) : AV := .sl false l.length l.length (kdC l)
theorem operators_ev (n : Nat) (h1 : 1 ≤ n) (h6 : n ≤ 6) : Ev Tryz.prog γ 194 [.v (.int .i64 (n : Int))] (.tup [txA (opsL n), kdA (opsL n)]) := by
  refine Ev.of Tryz.func194 rfl ?_
  have : n = 1 ∨ n = 2 ∨ n = 3 ∨ n = 4 ∨ n = 5 ∨ n = 6 := by omega
  rcases this with rfl | rfl | rfl | rfl | rfl | rfl
  all_goals (
    simp only [Tryz.f194, tyR, Int.reduceBEq, Int.cast_ofNat_Int, opsL, txA, kdA, txC, kdC, evE, Nat.reduceAdd, Nat.reduceSub, Nat.reduceLT, Nat.reduceLeDiff, Nat.reduceEqDiff, reduceCtorEq, List.reduceReplicate]
    (repeat' (first | (with_reducible refine And.intro ?_ ?_) | ((first | refine GuardK.intro_f (fun h => ?_) (fun h => ?_) | refine GuardK.intro_t (fun h => ?_) (fun h => ?_) | refine CondK.intro (fun h => ?_) (fun h => ?_) | refine PickK.intro (fun h => ?_) (fun h => ?_)) <;> simp only [h, tyR, evE, tyX, Bool.not_true, Bool.not_false, Nat.reduceAdd, Nat.reduceSub, Nat.reduceMul, Nat.reduceLT, Nat.reduceLeDiff, Nat.reduceEqDiff, reduceCtorEq, List.reduceReplicate, Int.reduceToNat, Int.reduceLE, Int.reduceLT]) | (refine DrawK.intro (by kernel_rfl) (by kernel_rfl) ?_; simp only [tyR, evE, tyX, Bool.not_true, Bool.not_false, Nat.reduceAdd, Nat.reduceSub, Nat.reduceMul, Nat.reduceLT, Nat.reduceLeDiff, Nat.reduceEqDiff, reduceCtorEq, List.reduceReplicate, Int.reduceToNat, Int.reduceLE, Int.reduceLT])))
    all_goals exact fz_own rfl (Nat.le_refl _) (by kernel_rfl) (.inl rfl) List.prefix_rfl (by simp only [fzL_cons, fz_v, fzL_nil, and_self]))
theorem words_ev : Ev Tryz.prog γ 247 [] (txA wdsL) := by
  refine Ev.of Tryz.func247 rfl ?_
  simp only [Tryz.f247, tyR, wdsL, txA, txC, evE, Nat.reduceAdd, Nat.reduceLT, Nat.reduceLeDiff, reduceCtorEq, List.reduceReplicate]
  exact fz_own rfl (Nat.le_refl _) (by kernel_rfl) (.inl rfl) List.prefix_rfl (by simp only [fzL_cons, fz_v, fzL_nil, and_self])
end Go.Proofs.YtlobiioioicmhaaGreatDoor
/- The document's reader of expressions, walked: words, levels, kinds. -/
namespace Go.Proofs.YtlobiioioicmhaaGreatDoor
set_option linter.all false
open Go Go.Ev
set_option maxRecDepth 20000
variable {γ : List (Nat × AV)}
/-- The first of a table. -/
def fnd : List (List UInt8 × Int) → List UInt8 → Int
  | [], _ => 0
  | x :: l, s => if x.1 = s then x.2 else fnd l s
theorem fnd_drop {l : List (List UInt8 × Int)} {i : Nat} {x : List UInt8 × Int} (h : l[i]? = some x) (s : List UInt8) : fnd (l.drop i) s = if x.1 = s then x.2 else fnd (l.drop (i + 1)) s := by
  have hi := (List.getElem?_eq_some_iff.1 h).1
  rw [List.drop_eq_getElem_cons hi, fnd]
  have : l[i] = x := (List.getElem?_eq_some_iff.1 h).2
  rw [this]
theorem fnd_words (s : List UInt8) : fnd wdsL s = wordK s := by
  by_cases h0 : s = [114, 101]
  · subst h0; rfl
  by_cases h1 : s = [105, 109]
  · subst h1; rfl
  by_cases h2 : s = [115, 105, 122, 101, 50]
  · subst h2; rfl
  by_cases h3 : s = [99, 111, 109, 112]
  · subst h3; rfl
  by_cases h4 : s = [114, 101, 97, 108]
  · subst h4; rfl
  by_cases h5 : s = [108, 101, 110]
  · subst h5; rfl
  by_cases h6 : s = [97, 116]
  · subst h6; rfl
  by_cases h7 : s = [99, 97, 116]
  · subst h7; rfl
  by_cases h8 : s = [115, 116, 114]
  · subst h8; rfl
  simp only [fnd, wdsL, wordK, if_neg h0, if_neg (Ne.symm h0), if_neg h1, if_neg (Ne.symm h1), if_neg h2, if_neg (Ne.symm h2), if_neg h3, if_neg (Ne.symm h3), if_neg h4, if_neg (Ne.symm h4), if_neg h5, if_neg (Ne.symm h5), if_neg h6, if_neg (Ne.symm h6), if_neg h7, if_neg (Ne.symm h7), if_neg h8, if_neg (Ne.symm h8)]
theorem fnd_ops (s : List UInt8) (n : Nat) (g1 : 1 ≤ n) (g5 : n ≤ 5) : fnd (opsL n) s = if levK (opK s) = n then opK s else 0 := by
  have hn : n = 1 ∨ n = 2 ∨ n = 3 ∨ n = 4 ∨ n = 5 := by omega
  by_cases h0 : s = [124, 124]
  · subst h0; rcases hn with rfl | rfl | rfl | rfl | rfl <;> rfl
  by_cases h1 : s = [38, 38]
  · subst h1; rcases hn with rfl | rfl | rfl | rfl | rfl <;> rfl
  by_cases h2 : s = [61, 61]
  · subst h2; rcases hn with rfl | rfl | rfl | rfl | rfl <;> rfl
  by_cases h3 : s = [33, 61]
  · subst h3; rcases hn with rfl | rfl | rfl | rfl | rfl <;> rfl
  by_cases h4 : s = [60]
  · subst h4; rcases hn with rfl | rfl | rfl | rfl | rfl <;> rfl
  by_cases h5 : s = [60, 61]
  · subst h5; rcases hn with rfl | rfl | rfl | rfl | rfl <;> rfl
  by_cases h6 : s = [62]
  · subst h6; rcases hn with rfl | rfl | rfl | rfl | rfl <;> rfl
  by_cases h7 : s = [62, 61]
  · subst h7; rcases hn with rfl | rfl | rfl | rfl | rfl <;> rfl
  by_cases h8 : s = [43]
  · subst h8; rcases hn with rfl | rfl | rfl | rfl | rfl <;> rfl
  by_cases h9 : s = [45]
  · subst h9; rcases hn with rfl | rfl | rfl | rfl | rfl <;> rfl
  by_cases h10 : s = [42]
  · subst h10; rcases hn with rfl | rfl | rfl | rfl | rfl <;> rfl
  by_cases h11 : s = [47]
  · subst h11; rcases hn with rfl | rfl | rfl | rfl | rfl <;> rfl
  by_cases h12 : s = [37]
  · subst h12; rcases hn with rfl | rfl | rfl | rfl | rfl <;> rfl
  have e : opK s = 0 := by simp only [opK, if_neg h0, if_neg h1, if_neg h2, if_neg h3, if_neg h4, if_neg h5, if_neg h6, if_neg h7, if_neg h8, if_neg h9, if_neg h10, if_neg h11, if_neg h12]
  have z : levK 0 = 7 := rfl
  rw [e, z, if_neg (by omega)]
  rcases hn with rfl | rfl | rfl | rfl | rfl <;> simp only [fnd, opsL, if_neg (Ne.symm h0), if_neg (Ne.symm h1), if_neg (Ne.symm h2), if_neg (Ne.symm h3), if_neg (Ne.symm h4), if_neg (Ne.symm h5), if_neg (Ne.symm h6), if_neg (Ne.symm h7), if_neg (Ne.symm h8), if_neg (Ne.symm h9), if_neg (Ne.symm h10), if_neg (Ne.symm h11), if_neg (Ne.symm h12)]
theorem fnd_six (s : List UInt8) : fnd (opsL 6) s = if s = [45] then 3 else if s = [33] then 4 else 0 := by
  by_cases h0 : s = [45]
  · subst h0; rfl
  by_cases h1 : s = [33]
  · subst h1; rfl
  simp only [fnd, opsL, if_neg h0, if_neg h1, if_neg (Ne.symm h0), if_neg (Ne.symm h1)]
theorem txC_at {l : List (List UInt8 × Int)} {i : Nat} {x : List UInt8 × Int} (h : l[i]? = some x) : (txC l)[i]? = some (.v (.string ⟨x.1.toArray⟩)) := by rw [txC, List.getElem?_map, h]; rfl
theorem kdC_at {l : List (List UInt8 × Int)} {i : Nat} {x : List UInt8 × Int} (h : l[i]? = some x) : (kdC l)[i]? = some (.v (.int .i64 x.2)) := by rw [kdC, List.getElem?_map, h]; rfl
theorem c247 : bodyT Tryz.prog 247 := ⟨_, Tryz.func247, by kernel_rfl, by kernel_rfl⟩
theorem c194 : bodyT Tryz.prog 194 := ⟨_, Tryz.func194, by kernel_rfl, by kernel_rfl⟩
theorem c192 : bodyT Tryz.prog 192 := ⟨_, Tryz.func192, by kernel_rfl, by kernel_rfl⟩
theorem c248 : bodyT Tryz.prog 248 := ⟨_, Tryz.func248, by kernel_rfl, by kernel_rfl⟩
theorem c193 : bodyT Tryz.prog 193 := ⟨_, Tryz.func193, by kernel_rfl, by kernel_rfl⟩
def wkS (γ : List (Nat × AV)) (s : List UInt8) (i : Nat) : St := ⟨⟨24, [(0, .v (.string ⟨s.toArray⟩)), (3, txA wdsL), (4, .own 0 0 9), (5, .v (.int .i64 (i : Int)))], γ⟩, [⟨0, 3, kdC wdsL⟩]⟩
def wkI (s : List UInt8) (i : Nat) : Prop := i ≤ 9 ∧ wordK s = fnd (wdsL.drop i) s
set_option maxHeartbeats 1000000 in
theorem wordKind_ev (s : List UInt8) : Ev Tryz.prog γ 192 [.v (.string ⟨s.toArray⟩)] (.v (.int .i64 (wordK s))) := by
  refine Ev.of Tryz.func192 rfl ?_
  simp only [Tryz.f192, evE, Nat.reduceAdd, Nat.reduceSub, Nat.reduceLT]
  refine CallK.intro c247 rfl words_ev ?_
  simp only [tyR, evE, Nat.reduceAdd, Nat.reduceLT, Nat.reduceLeDiff, Nat.reduceEqDiff, reduceCtorEq, List.reduceReplicate]
  refine LoopK.intro (wkS γ s) (wkI s) (fun i => 9 - i) 0 ?_ ⟨by decide, (fnd_words s).symm⟩ (fun i hi => ?_)
  · exact ⟨rfl, rfl, ⟨rfl, rfl, rfl, rfl, trivial⟩, .inl rfl⟩
  · obtain ⟨hi1, hi2⟩ := hi
    have hl : wdsL.length = 9 := rfl
    have hlk : (kdC wdsL).length = 9 := rfl
    by_cases h9 : i < 9
    · have d1 : decide (i < 9) = true := decide_eq_true h9
      have d1' : decide ((i : Int) < 9) = true := decide_eq_true (by omega)
      obtain ⟨x, hx⟩ : ∃ x, wdsL[i]? = some x := ⟨wdsL[i]'(by omega), by simp [hl, h9]⟩
      have t1 := txC_at hx
      have t2 := kdC_at hx
      have w1 : IntKind.i64.wrap ((i : Int) + 1) = ((i + 1 : Nat) : Int) := (i64w (by omega) (by omega)).trans (by omega)
      rw [fnd_drop hx] at hi2
      by_cases hs : x.1 = s
      · have d2 : (x.1 == s) = true := by simpa using hs
        rw [if_pos hs] at hi2
        rw [hi2]
        simp only [wkS, txA, hl, tyR, d1, t1, t2, d2, evE, tyX, Nat.reduceLT, Nat.reduceEqDiff, reduceCtorEq]
        (repeat' (first | (with_reducible refine And.intro ?_ ?_) | ((first | refine GuardK.intro_f (fun h => ?_) (fun h => ?_) | refine GuardK.intro_t (fun h => ?_) (fun h => ?_) | refine CondK.intro (fun h => ?_) (fun h => ?_) | refine PickK.intro (fun h => ?_) (fun h => ?_)) <;> simp only [h, tyR, t1, t2, d2, evE, tyX, Bool.not_true, Bool.not_false, Nat.reduceAdd, Nat.reduceSub, Nat.reduceMul, Nat.reduceLT, Nat.reduceLeDiff, Nat.reduceEqDiff, reduceCtorEq, List.reduceReplicate, Int.reduceToNat, Int.reduceLE, Int.reduceLT]) | (refine DrawK.intro (by kernel_rfl) (by kernel_rfl) ?_; simp only [tyR, t1, t2, d2, evE, tyX, Bool.not_true, Bool.not_false, Nat.reduceAdd, Nat.reduceSub, Nat.reduceMul, Nat.reduceLT, Nat.reduceLeDiff, Nat.reduceEqDiff, reduceCtorEq, List.reduceReplicate, Int.reduceToNat, Int.reduceLE, Int.reduceLT])))
        all_goals exact h9
      · have d2 : (x.1 == s) = false := by simpa using hs
        rw [if_neg hs] at hi2
        simp only [wkS, txA, hl, tyR, d1, t1, d2, w1, evE, tyX, Nat.reduceLT, Nat.reduceEqDiff, reduceCtorEq]
        refine ⟨by omega, ?_⟩
        refine loopC.intro (i + 1) ⟨by omega, hi2⟩ ?_ (by omega)
        exact ⟨rfl, rfl, ⟨rfl, rfl, rfl, rfl, trivial⟩, .inl rfl⟩
    · have d1' : decide (i < 9) = false := decide_eq_false (by omega)
      have e : wordK s = 0 := by rw [hi2, List.drop_eq_nil_of_le (by omega)]; rfl
      rw [e]
      simp only [wkS, txA, hl, tyR, d1', evE, Nat.reduceLT, Nat.reduceEqDiff, reduceCtorEq]
theorem lev_of {n j : Nat} {x : List UInt8 × Int} (h1 : 1 ≤ n) (h6 : n ≤ 6) (h : (opsL n)[j]? = some x) : levK x.2 = n := by
  have hm := List.mem_of_getElem? h
  have hn : n = 1 ∨ n = 2 ∨ n = 3 ∨ n = 4 ∨ n = 5 ∨ n = 6 := by omega
  rcases hn with rfl | rfl | rfl | rfl | rfl | rfl <;> simp only [opsL, List.mem_cons, List.not_mem_nil, or_false] at hm
  · subst hm; rfl
  · subst hm; rfl
  · rcases hm with rfl | rfl | rfl | rfl | rfl | rfl <;> rfl
  · rcases hm with rfl | rfl <;> rfl
  · rcases hm with rfl | rfl | rfl <;> rfl
  · rcases hm with rfl | rfl <;> rfl
theorem lev_has {n : Nat} {k : Int} (h1 : 1 ≤ n) (h6 : n ≤ 6) (h : levK k = n) : ∃ (j : Nat) (x : List UInt8 × Int), (opsL n)[j]? = some x ∧ x.2 = k := by
  unfold levK at h
  split at h
  · rename_i e; have : n = 1 := by omega
    subst this; exact ⟨0, _, rfl, e.symm⟩
  split at h
  · rename_i e; have : n = 2 := by omega
    subst this; exact ⟨0, _, rfl, e.symm⟩
  split at h
  · rename_i e; have : n = 3 := by omega
    subst this
    rcases e with e | e | e | e | e | e
    · exact ⟨0, _, rfl, e.symm⟩
    · exact ⟨1, _, rfl, e.symm⟩
    · exact ⟨2, _, rfl, e.symm⟩
    · exact ⟨3, _, rfl, e.symm⟩
    · exact ⟨4, _, rfl, e.symm⟩
    · exact ⟨5, _, rfl, e.symm⟩
  split at h
  · rename_i e; have : n = 4 := by omega
    subst this
    rcases e with e | e
    · exact ⟨0, _, rfl, e.symm⟩
    · exact ⟨1, _, rfl, e.symm⟩
  split at h
  · rename_i e; have : n = 5 := by omega
    subst this
    rcases e with e | e | e
    · exact ⟨0, _, rfl, e.symm⟩
    · exact ⟨1, _, rfl, e.symm⟩
    · exact ⟨2, _, rfl, e.symm⟩
  split at h
  · rename_i e; have : n = 6 := by omega
    subst this
    rcases e with e | e
    · exact ⟨0, _, rfl, e.symm⟩
    · exact ⟨1, _, rfl, e.symm⟩
  · omega
theorem lev_rng (k : Int) : 1 ≤ levK k ∧ levK k ≤ 7 := by
  unfold levK; (repeat' split) <;> omega
def lvS (γ : List (Nat × AV)) (k : Int) (n : Nat) : St := ⟨⟨29, [(0, .v (.int .i64 k)), (3, .v (.int .i64 (n : Int)))], γ⟩, []⟩
def lvI (k : Int) (n : Nat) : Prop := 1 ≤ n ∧ n ≤ 7 ∧ ∀ m : Nat, 1 ≤ m → m < n → levK k ≠ m
def lwS (γ : List (Nat × AV)) (k : Int) (n j : Nat) : St := ⟨⟨29, [(0, .v (.int .i64 k)), (3, .v (.int .i64 (n : Int))), (5, kdA (opsL n)), (6, .v (.int .i64 (j : Int)))], γ⟩, []⟩
def lwI (k : Int) (n j : Nat) : Prop := j ≤ (opsL n).length ∧ ∀ i x, i < j → (opsL n)[i]? = some x → x.2 ≠ k
set_option maxHeartbeats 1000000 in
theorem reflevel_ev (k : Int) : Ev Tryz.prog γ 248 [.v (.int .i64 k)] (.v (.int .i64 (levK k))) := by
  refine Ev.of Tryz.func248 rfl ?_
  simp only [Tryz.f248, evE, Nat.reduceAdd, Nat.reduceSub, Nat.reduceLT]
  refine LoopK.intro (lvS γ k) (lvI k) (fun n => 7 - n) 1 ⟨rfl, rfl, ⟨rfl, rfl, trivial⟩, .inl rfl⟩ ⟨Nat.le_refl _, by decide, fun m h1 h2 => by omega⟩ (fun n hn => ?_)
  obtain ⟨h1, h7, hno⟩ := hn
  by_cases h6 : n ≤ 6
  · have d1 : decide ((n : Int) ≤ 6) = true := decide_eq_true (by omega)
    have w1 : IntKind.i64.wrap ((n : Int) + 1) = ((n + 1 : Nat) : Int) := (i64w (by omega) (by omega)).trans (by omega)
    simp only [lvS, d1, evE, Nat.reduceLT, Nat.reduceEqDiff, reduceCtorEq]
    refine CallK.intro c194 rfl (operators_ev n h1 h6) ?_
    simp only [evE, Nat.reduceLT, Nat.reduceEqDiff, reduceCtorEq]
    refine LoopK.intro (lwS γ k n) (lwI k n) (fun j => (opsL n).length - j) 0 ⟨rfl, rfl, ⟨rfl, rfl, rfl, rfl, trivial⟩, .inl rfl⟩ ⟨Nat.zero_le _, fun i x h => by omega⟩ (fun j hj => ?_)
    obtain ⟨hj1, hj2⟩ := hj
    by_cases hlt : j < (opsL n).length
    · have d2 : decide (j < (opsL n).length) = true := decide_eq_true hlt
      obtain ⟨x, hx⟩ : ∃ x, (opsL n)[j]? = some x := ⟨(opsL n)[j], by simp [hlt]⟩
      have t2 := kdC_at hx
      have w2 : IntKind.i64.wrap ((j : Int) + 1) = ((j + 1 : Nat) : Int) := by
        have : (opsL n).length ≤ 6 := by
          have hn : n = 1 ∨ n = 2 ∨ n = 3 ∨ n = 4 ∨ n = 5 ∨ n = 6 := by clear w1; omega
          rcases hn with rfl | rfl | rfl | rfl | rfl | rfl <;> decide
        clear w1
        exact (i64w (by omega) (by omega)).trans (by omega)
      by_cases he : x.2 = k
      · have d3 : (x.2 == k) = true := by simpa using he
        have e : levK k = n := by rw [← he]; exact lev_of h1 h6 hx
        rw [e]
        simp only [lwS, kdA, tyR, d2, t2, d3, evE, tyX, Nat.reduceLT, Nat.reduceEqDiff, reduceCtorEq]
        exact hlt
      · have d3 : (x.2 == k) = false := by simpa using he
        simp only [lwS, kdA, tyR, d2, t2, d3, w2, evE, tyX, Nat.reduceLT, Nat.reduceEqDiff, reduceCtorEq]
        refine ⟨hlt, ?_⟩
        refine loopC.intro (j + 1) ⟨hlt, fun i y hi hy => ?_⟩ ⟨rfl, rfl, ⟨rfl, rfl, rfl, rfl, trivial⟩, .inl rfl⟩ (by clear w1 w2; omega)
        by_cases hij : i = j
        · subst hij; rw [hx] at hy; cases hy; exact he
        · exact hj2 i y (by clear w1 w2; omega) hy
    · have d2 : decide (j < (opsL n).length) = false := decide_eq_false hlt
      simp only [lwS, kdA, tyR, d2, w1, evE, Nat.reduceLT, Nat.reduceEqDiff, reduceCtorEq]
      refine loopC.intro (n + 1) ⟨by clear w1; omega, by clear w1; omega, fun m g1 g2 => ?_⟩ ⟨rfl, rfl, ⟨rfl, rfl, trivial⟩, .inl rfl⟩ (by clear w1; omega)
      by_cases hmn : m = n
      · subst hmn
        intro e
        obtain ⟨i, x, hx, hxk⟩ := lev_has h1 h6 e
        exact hj2 i x (by have := (List.getElem?_eq_some_iff.1 hx).1; clear w1; omega) hx hxk
      · exact hno m g1 (by clear w1; omega)
  · have d1 : decide ((n : Int) ≤ 6) = false := decide_eq_false (by omega)
    have e : levK k = 7 := by
      have := lev_rng k
      by_cases h : levK k = 7
      · exact h
      · exact absurd (show levK k = ((levK k).toNat : Int) by omega) (hno (levK k).toNat (by omega) (by omega))
    rw [e]
    simp only [lvS, d1, evE, Nat.reduceLT, Nat.reduceEqDiff, reduceCtorEq]
set_option maxHeartbeats 1000000 in
theorem kids_ev (k : Int) (h : 18 ≤ k ∧ k ≤ 26) : Ev Tryz.prog γ 193 [.v (.int .i64 k)] (.v (.int .i64 (kidsK k))) := by
  refine Ev.of Tryz.func193 rfl ?_
  simp only [Tryz.f193, evE, Nat.reduceAdd, Nat.reduceSub, Nat.reduceLT, Nat.reduceEqDiff, reduceCtorEq]
  refine CallK.intro c248 rfl (reflevel_ev k) ?_
  have e : levK k = 7 := by unfold levK; (repeat' split) <;> omega
  have hk : k = 18 ∨ k = 19 ∨ k = 20 ∨ k = 21 ∨ k = 22 ∨ k = 23 ∨ k = 24 ∨ k = 25 ∨ k = 26 := by omega
  rw [e]
  rcases hk with rfl | rfl | rfl | rfl | rfl | rfl | rfl | rfl | rfl <;> simp only [Int.reduceBEq, evE, Nat.reduceLT, Nat.reduceEqDiff, reduceCtorEq, Int.reduceLT] <;> rfl
end Go.Proofs.YtlobiioioicmhaaGreatDoor
/- The document's reader of expressions, walked: the next token. -/
namespace Go.Proofs.YtlobiioioicmhaaGreatDoor
set_option linter.all false
open Go Go.Ev
set_option maxRecDepth 20000
variable {γ : List (Nat × AV)}
theorem c189 : bodyT Tryz.prog 189 := ⟨_, Tryz.func189, by kernel_rfl, by kernel_rfl⟩
theorem c190 : bodyT Tryz.prog 190 := ⟨_, Tryz.func190, by kernel_rfl, by kernel_rfl⟩
theorem c191 : bodyT Tryz.prog 191 := ⟨_, Tryz.func191, by kernel_rfl, by kernel_rfl⟩
theorem c195 : bodyT Tryz.prog 195 := ⟨_, Tryz.func195, by kernel_rfl, by kernel_rfl⟩
theorem c246 : bodyT Tryz.prog 246 := ⟨_, Tryz.func246, by kernel_rfl, by kernel_rfl⟩
theorem c117 : bodyT Tryz.prog 117 := ⟨_, Tryz.func117, by kernel_rfl, by kernel_rfl⟩
/-- Of all tokens, from a place on, just the first can stand; what tells whether one can: sB. -/
structure Stn (γ : List (Nat × AV)) (sB : Tk → Bool) (all ts : List Tk) (from_ : Nat) : Prop where
  pre : ts <+: all
  yes : ∀ (p : Nat) (t : Tk), from_ ≤ p → ts[p]? = some t → sB t = true
  no : ∀ t, all[ts.length]? = some t → sB t = false
  ev : ∀ t ∈ all, Ev Tryz.prog γ 246 [.agg t.cells] (.v (.bool (sB t)))
  small : all.length < 4611686018427387904
/-- The reading. -/
def RT (h : List ABlk) (i : Nat) (L : AV) (p : Nat) (bd : Int) : Prop := h[i]? = some ⟨0, 109, [L, .v (.int .i64 p), .v (.int .i64 bd)]⟩
theorem RT.lt {h : List ABlk} {i : Nat} {L : AV} {p : Nat} {bd : Int} (a : RT h i L p bd) : i < h.length := (List.getElem?_eq_some_iff.1 a).1
def zeroK : Tk := ⟨0, [], 0, 0, 0, 0⟩
def nextT' (ts : List Tk) (p : Nat) : Tk := (ts[p]?).getD zeroK
abbrev NoB : Nat → Prop := fun _ => False
theorem RT.fr {h h1 : List ABlk} {i : Nat} {L : AV} {p : Nat} {bd : Int} (a : RT h i L p bd) (f : Fr NoB h h1) : RT h1 i L p bd := f.at a fun h => h
variable {sB : Tk → Bool} {all ts : List Tk} {from_ : Nat} {L : AV}
set_option maxHeartbeats 1000000 in
theorem next_ev (hL : LAt L all) (hS : Stn γ sB all ts from_) {h : List ABlk} {i p : Nat} {bd : Int} (hf : from_ ≤ p) (hp : p ≤ ts.length) (hr : RT h i L p bd) :
    EvM Tryz.prog γ 189 [.ptr i 0 0] h fun o h' => o = .ret (.tup [.agg (nextT' ts p).cells, .v (.bool (decide (p < ts.length)))]) ∧ Fr NoB h h' := by
  have hi : h[i]? = _ := hr
  have g1 : ∀ l, (h ++ l)[i]? = some ⟨0, 109, [L, .v (.int .i64 p), .v (.int .i64 bd)]⟩ := fun l => (List.getElem?_append_left hr.lt).trans hi
  have s1 : ∀ x, (h ++ [x])[h.length]? = some x := fun x => by simp
  have s2 : ∀ x y, (h ++ [x]).set h.length y = h ++ [y] := fun x y => by simp
  have hpre := hS.pre.length_le
  refine EvM.of Tryz.func189 rfl ?_
  rcases hL with ⟨rfl, rfl⟩ | ⟨b, m, cs, rfl, hcs⟩
  · have e0 : ts = [] := List.prefix_nil.1 hS.pre
    subst e0
    have hp0 : p = 0 := Nat.le_zero.1 hp
    subst hp0
    have d0 : decide ((0 : Int) ≤ ((0 : Nat) : Int)) = true := by decide
    simp only [Tryz.f189, tyR, evE, Nat.reduceAdd, Nat.reduceSub, Nat.reduceLT]
    refine DrawK.intro (by kernel_rfl) (by kernel_rfl) ?_
    simp only [tyR, g1, s1, s2, evE, tyX, Nat.reduceAdd, Nat.reduceLT, Nat.reduceLeDiff, Nat.reduceEqDiff, reduceCtorEq]
    exact ⟨rfl, Fr.app _ _⟩
  · by_cases hlt : p < all.length
    · have d1 : decide ((all.length : Int) ≤ (p : Int)) = false := decide_eq_false (by omega)
      obtain ⟨t, ht⟩ : ∃ t, all[p]? = some t := ⟨all[p], by simp [hlt]⟩
      have h6 := LAt.take hcs ht
      have h6l : 6 ≤ (cs.drop (p * 6)).length := by have := LAt.len hcs hlt; rw [List.length_drop]; omega
      have hev := hS.ev t (List.mem_of_getElem? ht)
      have htree : treeL [AV.agg t.cells] = true := rfl
      by_cases hlt2 : p < ts.length
      · have e2 : ts[p]? = some t := by
          obtain ⟨r, hr2⟩ := hS.pre
          rw [← ht, ← hr2, List.getElem?_append_left hlt2]
        have e3 : nextT' ts p = t := by unfold nextT'; rw [e2]; rfl
        have e4 : decide (p < ts.length) = true := decide_eq_true hlt2
        have e5 := hS.yes p t hf e2
        rw [e3, e4]
        simp only [Tryz.f189, tyR, evE, Nat.reduceAdd, Nat.reduceSub, Nat.reduceLT]
        refine DrawK.intro (by kernel_rfl) (by kernel_rfl) ?_
        simp only [tyR, g1, d1, h6, h6l, evE, tyX, Nat.reduceLT, Nat.reduceEqDiff, reduceCtorEq]
        refine ⟨hlt, CallK.intro c246 htree hev ?_⟩
        simp only [e5, evE, Bool.not_true, Nat.reduceLT, Nat.reduceEqDiff, reduceCtorEq]
        refine DrawK.intro (by kernel_rfl) (by kernel_rfl) ?_
        simp only [tyR, g1, h6, h6l, s1, s2, Tk.cells, evE, tyX, Nat.reduceAdd, Nat.reduceLT, Nat.reduceLeDiff, Nat.reduceEqDiff, reduceCtorEq]
        exact ⟨hlt, Fr.app _ _⟩
      · have e1 : p = ts.length := by omega
        have e2 : ts[p]? = none := List.getElem?_eq_none (by omega)
        have e3 : nextT' ts p = zeroK := by unfold nextT'; rw [e2]; rfl
        have e4 : decide (p < ts.length) = false := decide_eq_false hlt2
        have e5 := hS.no t (by rw [← e1]; exact ht)
        rw [e3, e4]
        simp only [Tryz.f189, tyR, evE, Nat.reduceAdd, Nat.reduceSub, Nat.reduceLT]
        refine DrawK.intro (by kernel_rfl) (by kernel_rfl) ?_
        simp only [tyR, g1, d1, h6, h6l, evE, tyX, Nat.reduceLT, Nat.reduceEqDiff, reduceCtorEq]
        refine ⟨hlt, CallK.intro c246 htree hev ?_⟩
        simp only [tyR, e5, s1, s2, evE, Bool.not_false, Nat.reduceAdd, Nat.reduceLT, Nat.reduceLeDiff, Nat.reduceEqDiff, reduceCtorEq]
        exact ⟨rfl, Fr.app _ _⟩
    · have d1 : decide ((all.length : Int) ≤ (p : Int)) = true := decide_eq_true (by omega)
      have e2 : ts[p]? = none := List.getElem?_eq_none (by omega)
      have e3 : nextT' ts p = zeroK := by unfold nextT'; rw [e2]; rfl
      have e4 : decide (p < ts.length) = false := decide_eq_false (by omega)
      rw [e3, e4]
      simp only [Tryz.f189, tyR, evE, Nat.reduceAdd, Nat.reduceSub, Nat.reduceLT]
      refine DrawK.intro (by kernel_rfl) (by kernel_rfl) ?_
      simp only [tyR, g1, d1, s1, s2, evE, tyX, Nat.reduceAdd, Nat.reduceLT, Nat.reduceLeDiff, Nat.reduceEqDiff, reduceCtorEq]
      exact ⟨rfl, Fr.app _ _⟩
theorem mkA_next {ts : List Tk} {p : Nat} {c : UInt8} {s : List UInt8} : (decide (p < ts.length) && ((nextT' ts p).kind == 5 && ((nextT' ts p).text == c :: s))) = (mkA ts p == c :: s) := by
  unfold mkA nextT'
  by_cases hlt : p < ts.length
  · have ht : ts[p]? = some ts[p] := by simp [hlt]
    rw [ht]
    simp only [hlt, decide_true, Bool.true_and, Option.getD_some]
    by_cases hk : ts[p].kind = 5
    · simp [hk]
    · simp [hk]
  · rw [List.getElem?_eq_none (by omega)]
    simp [hlt]
set_option maxHeartbeats 1000000 in
theorem is_ev (hL : LAt L all) (hS : Stn γ sB all ts from_) {h : List ABlk} {i p : Nat} {bd : Int} (hf : from_ ≤ p) (hp : p ≤ ts.length) (hr : RT h i L p bd) (c : UInt8) (s : List UInt8) :
    EvM Tryz.prog γ 195 [.ptr i 0 0, .v (.string ⟨(c :: s).toArray⟩)] h fun o h' => o = .ret (.v (.bool (mkA ts p == c :: s))) ∧ Fr NoB h h' := by
  rw [← mkA_next]
  refine EvM.of Tryz.func195 rfl ?_
  simp only [Tryz.f195, evE, Nat.reduceAdd, Nat.reduceSub, Nat.reduceLT, Nat.reduceEqDiff, reduceCtorEq]
  refine CallE.intro c189 _ (next_ev hL hS hf hp hr) (fun r h1 hh => ?_) (fun v h' hh => by cases hh.1)
  obtain ⟨e, f1⟩ := hh
  cases e
  have s1 : ∀ x, (h1 ++ [x])[h1.length]? = some x := fun x => by simp
  have s2 : ∀ x y, (h1 ++ [x]).set h1.length y = h1 ++ [y] := fun x y => by simp
  have ff : ∀ l, Fr NoB h (h1 ++ l) := fun l => f1.trans (S1 := NoB) (Fr.app h1 l) fun k hk => False.elim hk
  generalize nextT' ts p = t
  generalize decide (p < ts.length) = z
  simp only [tyR, s1, s2, Tk.cells, evE, Nat.reduceAdd, Nat.reduceLT, Nat.reduceLeDiff, Nat.reduceEqDiff, reduceCtorEq]
  cases z with
  | false =>
    simp only [evE, Nat.reduceLT, Nat.reduceEqDiff, reduceCtorEq]
    exact ⟨rfl, ff _⟩
  | true =>
    simp only [tyR, s1, evE, tyX, Nat.reduceLT, Nat.reduceEqDiff, reduceCtorEq]
    by_cases hk : t.kind = 5
    · have d2 : (t.kind == 5) = true := by simpa using hk
      simp only [tyR, s1, d2, evE, tyX, Nat.reduceLT, Nat.reduceEqDiff, reduceCtorEq]
      exact ff _
    · have d2 : (t.kind == 5) = false := by simpa using hk
      simp only [d2, evE, Nat.reduceLT, Nat.reduceEqDiff, reduceCtorEq]
      exact ⟨rfl, ff _⟩
theorem bad_ev {h : List ABlk} {i p : Nat} (hr : RT h i L p (-1)) : EvM Tryz.prog γ 190 [.ptr i 0 0] h fun o h' => o = .ret (.v (.pointer none)) ∧ h' = h.set i ⟨0, 109, [L, .v (.int .i64 p), .v (.int .i64 p)]⟩ := by
  have hi : h[i]? = _ := hr
  have d0 : decide ((-1 : Int) < 0) = true := rfl
  refine EvM.of Tryz.func190 rfl ?_
  simp only [Tryz.f190, tyR, hi, evE, tyX, Nat.reduceAdd, Nat.reduceSub, Nat.reduceLT, Nat.reduceLeDiff, Nat.reduceEqDiff, reduceCtorEq, Int.reduceLT]
def MustP (ts : List Tk) (L : AV) (i p : Nat) (s : List UInt8) (h : List ABlk) (o : Out) (h' : List ABlk) : Prop :=
  Fr (fun k => k = i) h h' ∧ if mkA ts p = s then o = .ret (.v (.bool true)) ∧ RT h' i L (p + 1) (-1) else o = .ret (.v (.bool false)) ∧ RT h' i L p p
theorem must_ev (hL : LAt L all) (hS : Stn γ sB all ts from_) {h : List ABlk} {i p : Nat} (hf : from_ ≤ p) (hp : p ≤ ts.length) (hr : RT h i L p (-1)) (c : UInt8) (s : List UInt8) :
    EvM Tryz.prog γ 191 [.ptr i 0 0, .v (.string ⟨(c :: s).toArray⟩)] h (MustP ts L i p (c :: s) h) := by
  have hpre := hS.pre.length_le
  have w1 : IntKind.i64.wrap ((p : Int) + 1) = ((p + 1 : Nat) : Int) := w64 (Nat.le_trans hp hpre) hS.small
  refine EvM.of Tryz.func191 rfl ?_
  simp only [Tryz.f191, evE, Nat.reduceAdd, Nat.reduceSub, Nat.reduceLT, Nat.reduceEqDiff, reduceCtorEq]
  refine CallE.intro c195 _ (is_ev hL hS hf hp hr c s) (fun r h1 hh => ?_) (fun v h' hh => by cases hh.1)
  obtain ⟨e, f1⟩ := hh
  cases e
  have hr1 : h1[i]? = _ := hr.fr f1
  have hlt : i < h1.length := (List.getElem?_eq_some_iff.1 hr1).1
  have fs : ∀ b, Fr (fun k => k = i) h (h1.set i b) := fun b => (f1.mono (fun k hk => False.elim hk)).trans (Fr.set (S := fun k => k = i) b rfl) fun k hk => .inl hk
  by_cases hm : mkA ts p = c :: s
  · have d1 : (mkA ts p == c :: s) = true := by simpa using hm
    simp only [tyR, d1, hr1, w1, evE, tyX, Bool.not_true, Nat.reduceAdd, Nat.reduceLT, Nat.reduceLeDiff, Nat.reduceEqDiff, reduceCtorEq]
    refine ⟨fs _, ?_⟩
    rw [if_pos hm]
    exact ⟨rfl, List.getElem?_set_self hlt⟩
  · have d1 : (mkA ts p == c :: s) = false := by simpa using hm
    simp only [d1, evE, Bool.not_false, Nat.reduceLT, Nat.reduceEqDiff, reduceCtorEq]
    refine CallE.intro c190 _ (bad_ev (hr.fr f1)) (fun r h2 hh => ?_) (fun v h' hh => by cases hh.1)
    obtain ⟨e, rfl⟩ := hh
    cases e
    simp only [evE, Nat.reduceLT, Nat.reduceEqDiff, reduceCtorEq]
    refine ⟨fs _, ?_⟩
    rw [if_neg hm]
    exact ⟨rfl, List.getElem?_set_self hlt⟩
end Go.Proofs.YtlobiioioicmhaaGreatDoor
/- The document's reader of expressions, walked: an operator of a level; trees in memory. -/
namespace Go.Proofs.YtlobiioioicmhaaGreatDoor
set_option linter.all false
open Go Go.Ev
set_option maxRecDepth 20000
variable {γ : List (Nat × AV)}
variable {sB : Tk → Bool} {all ts : List Tk} {from_ : Nat} {L : AV}
theorem opsL_text {n j : Nat} {x : List UInt8 × Int} (h : (opsL n)[j]? = some x) : ∃ c s, x.1 = c :: s := by
  have hm := List.mem_of_getElem? h
  have hn : n = 1 ∨ n = 2 ∨ n = 3 ∨ n = 4 ∨ n = 5 ∨ n = 6 ∨ opsL n = [] := by
    match n with
    | 0 => exact .inr (.inr (.inr (.inr (.inr (.inr rfl)))))
    | 1 | 2 | 3 | 4 | 5 | 6 => simp
    | n + 7 => exact .inr (.inr (.inr (.inr (.inr (.inr rfl)))))
  rcases hn with rfl | rfl | rfl | rfl | rfl | rfl | e
  · simp only [opsL, List.mem_cons, List.not_mem_nil, or_false] at hm; subst hm; exact ⟨_, _, rfl⟩
  · simp only [opsL, List.mem_cons, List.not_mem_nil, or_false] at hm; subst hm; exact ⟨_, _, rfl⟩
  · simp only [opsL, List.mem_cons, List.not_mem_nil, or_false] at hm; rcases hm with rfl | rfl | rfl | rfl | rfl | rfl <;> exact ⟨_, _, rfl⟩
  · simp only [opsL, List.mem_cons, List.not_mem_nil, or_false] at hm; rcases hm with rfl | rfl <;> exact ⟨_, _, rfl⟩
  · simp only [opsL, List.mem_cons, List.not_mem_nil, or_false] at hm; rcases hm with rfl | rfl | rfl <;> exact ⟨_, _, rfl⟩
  · simp only [opsL, List.mem_cons, List.not_mem_nil, or_false] at hm; rcases hm with rfl | rfl <;> exact ⟨_, _, rfl⟩
  · rw [e] at hm; cases hm
theorem opsL_small (n : Nat) : (opsL n).length ≤ 6 := by
  match n with
  | 0 => decide
  | 1 | 2 | 3 | 4 | 5 | 6 => decide
  | n + 7 => exact Nat.zero_le _
def oneS (γ : List (Nat × AV)) (i n : Nat) (x : Nat × List ABlk) : St := ⟨⟨31, [(0, .ptr i 0 0), (5, txA (opsL n)), (6, kdA (opsL n)), (7, .v (.int .i64 (x.1 : Int)))], γ⟩, x.2⟩
def oneI (h : List ABlk) (s : List UInt8) (n : Nat) (x : Nat × List ABlk) : Prop := x.1 ≤ (opsL n).length ∧ fnd (opsL n) s = fnd ((opsL n).drop x.1) s ∧ Fr NoB h x.2
set_option maxHeartbeats 1000000 in
theorem one_ev (hL : LAt L all) (hS : Stn γ sB all ts from_) {h : List ABlk} {i p : Nat} {bd : Int} (hf : from_ ≤ p) (hp : p ≤ ts.length) (hr : RT h i L p bd) {n : Nat} (h1 : 1 ≤ n) (h6 : n ≤ 6) :
    EvM Tryz.prog γ 117 [.ptr i 0 0, .v (.int .i64 (n : Int))] h fun o h' => o = .ret (.v (.int .i64 (fnd (opsL n) (mkA ts p)))) ∧ Fr NoB h h' := by
  refine EvM.of Tryz.func117 rfl ?_
  simp only [Tryz.f117, evE, Nat.reduceAdd, Nat.reduceSub, Nat.reduceLT, Nat.reduceEqDiff, reduceCtorEq]
  refine CallE.pure (CallK.intro c194 rfl (operators_ev n h1 h6) ?_)
  simp only [evE, Nat.reduceLT, Nat.reduceEqDiff, reduceCtorEq]
  refine LoopE.intro (oneS γ i n) (oneI h (mkA ts p) n) (fun x => (opsL n).length - x.1) (0, h) ?_ ⟨Nat.zero_le _, rfl, Fr.refl _ _⟩ (fun x hx => ?_)
  · exact ⟨rfl, rfl, ⟨rfl, rfl, rfl, rfl, trivial⟩, rfl⟩
  · obtain ⟨j, h2⟩ := x
    obtain ⟨hj1, hj2, f2⟩ := hx
    simp only at hj1 hj2 f2
    have hsm := opsL_small n
    by_cases hlt : j < (opsL n).length
    · have d1 : decide (j < (opsL n).length) = true := decide_eq_true hlt
      obtain ⟨x, hx⟩ : ∃ x, (opsL n)[j]? = some x := ⟨(opsL n)[j], by simp [hlt]⟩
      have t1 := txC_at hx
      have t2 := kdC_at hx
      obtain ⟨c, s, hcs⟩ := opsL_text hx
      rw [hcs] at t1
      have w1 : IntKind.i64.wrap ((j : Int) + 1) = ((j + 1 : Nat) : Int) := (i64w (by omega) (by omega)).trans (by omega)
      rw [fnd_drop hx, hcs] at hj2
      simp only [oneS, txA, kdA, tyR, d1, t1, evE, tyX, Nat.reduceLT, Nat.reduceEqDiff, reduceCtorEq]
      refine ⟨hlt, CallE.intro c195 _ (is_ev hL hS hf hp (hr.fr f2) c s) (fun r h3 hh => ?_) (fun v h' hh => by cases hh.1)⟩
      obtain ⟨e, f3⟩ := hh
      cases e
      have f13 : Fr NoB h h3 := f2.trans f3 fun k hk => False.elim hk
      by_cases hm : mkA ts p = c :: s
      · have d2 : (mkA ts p == c :: s) = true := by simpa using hm
        rw [if_pos hm.symm] at hj2
        rw [hj2]
        simp only [tyR, d2, t2, evE, tyX, Nat.reduceLT, Nat.reduceEqDiff, reduceCtorEq]
        exact ⟨hlt, f13⟩
      · have d2 : (mkA ts p == c :: s) = false := by simpa using hm
        rw [if_neg (Ne.symm hm)] at hj2
        simp only [d2, w1, evE, Nat.reduceLT, Nat.reduceEqDiff, reduceCtorEq]
        exact loopCE.intro (j + 1, h3) ⟨hlt, hj2, f13⟩ ⟨rfl, rfl, ⟨rfl, rfl, rfl, rfl, trivial⟩, rfl⟩ (by show (opsL n).length - (j + 1) < (opsL n).length - j; clear w1; omega)
    · have d1 : decide (j < (opsL n).length) = false := decide_eq_false hlt
      have e : fnd (opsL n) (mkA ts p) = 0 := by rw [hj2, List.drop_eq_nil_of_le (by omega)]; rfl
      rw [e]
      simp only [oneS, txA, kdA, tyR, d1, evE, Nat.reduceLT, Nat.reduceEqDiff, reduceCtorEq]
      exact f2
/-- A tree in memory, by its address, in blocks from lo on and below hi. -/
def TreeAt (lo hi : Nat) (h : List ABlk) : AV → Tr → Prop
  | .ptr q 0 0, .lf k nm vk vi vr vt => lo ≤ q ∧ q < hi ∧ h[q]? = some ⟨0, 190, [.v (.int .i64 k), .v (.string ⟨nm.toArray⟩), .v (.int .i64 vk), .v (.int .i64 vi), .v (.float .f64 vr), .v (.complex .f64 0 0), .v (.string ⟨vt.toArray⟩), .v (.slice none 0 0)]⟩
  | .ptr q 0 0, .un k a => lo ≤ q ∧ q < hi ∧ ∃ j ver x, lo ≤ j ∧ j < hi ∧ h[q]? = some ⟨0, 190, [.v (.int .i64 k), .v (.string ⟨#[]⟩), .v (.int .i64 0), .v (.int .i64 0), .v (.float .f64 0), .v (.complex .f64 0 0), .v (.string ⟨#[]⟩), .own j ver 1]⟩ ∧ h[j]? = some ⟨ver, 110, [x]⟩ ∧ TreeAt lo hi h x a
  | .ptr q 0 0, .bi k a b => lo ≤ q ∧ q < hi ∧ ∃ j ver x y, lo ≤ j ∧ j < hi ∧ h[q]? = some ⟨0, 190, [.v (.int .i64 k), .v (.string ⟨#[]⟩), .v (.int .i64 0), .v (.int .i64 0), .v (.float .f64 0), .v (.complex .f64 0 0), .v (.string ⟨#[]⟩), .own j ver 2]⟩ ∧ h[j]? = some ⟨ver, 110, [x, y]⟩ ∧ TreeAt lo hi h x a ∧ TreeAt lo hi h y b
  | _, _ => False
end Go.Proofs.YtlobiioioicmhaaGreatDoor
/- The document's reader of expressions, walked: levels. -/
namespace Go.Proofs.YtlobiioioicmhaaGreatDoor
set_option linter.all false
open Go Go.Ev
set_option maxRecDepth 20000
variable {γ : List (Nat × AV)}
variable {sB : Tk → Bool} {all ts : List Tk} {from_ : Nat} {L : AV}
theorem TreeAt.ptr {lo hi : Nat} {h : List ABlk} {x : AV} {t : Tr} (a : TreeAt lo hi h x t) : ∃ q, x = .ptr q 0 0 := by
  cases t <;> unfold TreeAt at a <;> split at a <;> first | exact ⟨_, rfl⟩ | exact a.elim | (rename_i e; cases e; done) | skip
  all_goals first | exact ⟨_, rfl⟩ | trace_state
theorem TreeAt.blk {lo hi : Nat} {h : List ABlk} {q : Nat} {t : Tr} (a : TreeAt lo hi h (.ptr q 0 0) t) : ∃ b : List AV, h[q]? = some ⟨0, 190, b⟩ := by
  cases t with
  | lf k nm vk vi vr vt => exact ⟨_, a.2.2⟩
  | un k a' => obtain ⟨_, _, j, ver, y, _, _, h1, _⟩ := a; exact ⟨_, h1⟩
  | bi k a' b' => obtain ⟨_, _, j, ver, y, z, _, _, h1, _⟩ := a; exact ⟨_, h1⟩
theorem TreeAt.fr {S : Nat → Prop} {lo hi lo' hi' : Nat} {h h' : List ABlk} (f : Fr S h h') (hl : lo' ≤ lo) (hh : hi ≤ hi') (hS : ∀ (k : Nat) (b : ABlk), S k → h[k]? = some b → (b.e ≠ 190 ∧ b.e ≠ 110) ∨ k < lo ∨ hi ≤ k) : ∀ (t : Tr) (x : AV), TreeAt lo hi h x t → TreeAt lo' hi' h' x t := by
  have keep : ∀ (k : Nat) (b : ABlk), h[k]? = some b → (b.e = 190 ∨ b.e = 110) → lo ≤ k → k < hi → h'[k]? = some b := fun k b hk hb h1 h2 => f.at hk fun hs => (hS k b hs hk).elim (fun hn => hb.elim hn.1 hn.2) fun e => by omega
  intro t
  induction t with
  | lf k nm vk vi vr vt =>
    intro x a
    obtain ⟨q, rfl⟩ := a.ptr
    obtain ⟨h1, h2, h3⟩ := a
    exact ⟨by omega, by omega, keep q _ h3 (.inl rfl) h1 h2⟩
  | un k a ih =>
    intro x hx
    obtain ⟨q, rfl⟩ := hx.ptr
    obtain ⟨l1, l2, j, ver, y, l3, l4, h1, h2, h3⟩ := hx
    exact ⟨by omega, by omega, j, ver, y, by omega, by omega, keep q _ h1 (.inl rfl) l1 l2, keep j _ h2 (.inr rfl) l3 l4, ih y h3⟩
  | bi k a b iha ihb =>
    intro x hx
    obtain ⟨q, rfl⟩ := hx.ptr
    obtain ⟨l1, l2, j, ver, y, z, l3, l4, h1, h2, h3, h4⟩ := hx
    exact ⟨by omega, by omega, j, ver, y, z, by omega, by omega, keep q _ h1 (.inl rfl) l1 l2, keep j _ h2 (.inr rfl) l3 l4, iha y h3, ihb z h4⟩
theorem at_len (h : List ABlk) (x : ABlk) (l : List ABlk) : (h ++ x :: l)[h.length]? = some x := by simp
theorem at_len1 (h : List ABlk) (x y : ABlk) (l : List ABlk) : (h ++ x :: y :: l)[h.length + 1]? = some y := by simp
theorem RT.app {h : List ABlk} {i : Nat} {L : AV} {p : Nat} {bd : Int} (a : RT h i L p bd) (l : List ABlk) : RT (h ++ l) i L p bd := (List.getElem?_append_left a.lt).trans a
abbrev IsI (i : Nat) : Nat → Prop := fun k => k = i
theorem TreeAt.fr1 {lo hi lo' hi' : Nat} {h h' : List ABlk} {i : Nat} {L : AV} {p : Nat} {bd : Int} (hr : RT h i L p bd) (f : Fr (IsI i) h h') (hl : lo' ≤ lo) (hh : hi ≤ hi') {t : Tr} {x : AV} (a : TreeAt lo hi h x t) : TreeAt lo' hi' h' x t :=
  TreeAt.fr f hl hh (fun k b hk hb => by have hk : k = i := hk; subst hk; have hr : h[k]? = _ := hr; rw [hr] at hb; cases hb; exact .inl ⟨by show (109 : Nat) ≠ 190; decide, by show (109 : Nat) ≠ 110; decide⟩) t x a
theorem TreeAt.app {lo hi lo' hi' : Nat} {h : List ABlk} {t : Tr} {x : AV} (a : TreeAt lo hi h x t) (l : List ABlk) (hl : lo' ≤ lo) (hh : hi ≤ hi') : TreeAt lo' hi' (h ++ l) x t := TreeAt.fr (Fr.app (S := NoB) h l) hl hh (fun k b hk => False.elim hk) t x a
def ResR (L : AV) (i : Nat) (h : List ABlk) (r : Res) (o : Out) (h' : List ABlk) : Prop :=
  Fr (IsI i) h h' ∧ match r with
  | .ok t q => ∃ x, o = .ret x ∧ TreeAt h.length h'.length h' x t ∧ RT h' i L q (-1)
  | .bad q => o = .ret (.v (.pointer none)) ∧ ∃ p', RT h' i L p' q
theorem ResR.pan {L : AV} {i : Nat} {h h' : List ABlk} {r : Res} {v : AV} (a : ResR L i h r (.pan v) h') : False := by
  obtain ⟨_, a⟩ := a
  cases r with
  | ok t q => obtain ⟨x, e, _⟩ := a; cases e
  | bad q => cases a.1
def RefCall (γ : List (Nat × AV)) (ts : List Tk) (from_ : Nat) (L : AV) (f : Nat) (g : FuncId) (xs : List AV) (m : Md) : Prop :=
  ∀ (h : List ABlk) (i p : Nat), from_ ≤ p → p ≤ ts.length → m.need ts p ≤ f → RT h i L p (-1) → EvM Tryz.prog γ g (.ptr i 0 0 :: xs) h (ResR L i h (pr ts f m p))
structure RefOk (γ : List (Nat × AV)) (ts : List Tk) (from_ : Nat) (L : AV) (f : Nat) : Prop where
  bin : ∀ n : Nat, 1 ≤ n → n ≤ 6 → RefCall γ ts from_ L f 62 [.v (.int .i64 (n : Int))] (.bin n)
  un : RefCall γ ts from_ L f 62 [.v (.int .i64 6)] .un
  fs : RefCall γ ts from_ L f 62 [.v (.int .i64 7)] .fs
theorem c62 : bodyT Tryz.prog 62 := ⟨_, Tryz.func62, by kernel_rfl, by kernel_rfl⟩
theorem c116 : bodyT Tryz.prog 116 := ⟨_, Tryz.func116, by kernel_rfl, by kernel_rfl⟩
theorem ref_fs {f : Nat} (H : RefCall γ ts from_ L f 116 [] .fs) : RefCall γ ts from_ L f 62 [.v (.int .i64 7)] .fs := by
  intro h i p hf hp hn hr
  refine EvM.of Tryz.func62 rfl ?_
  simp only [Tryz.f62, evE, Nat.reduceAdd, Nat.reduceSub, Nat.reduceLT, Nat.reduceEqDiff, reduceCtorEq]
  refine CallE.intro c116 _ (H h i p hf hp hn hr) (fun r h1 hh => ?_) (fun v h' hh => hh.pan.elim)
  simp only [evE, Nat.reduceLT, Nat.reduceEqDiff, reduceCtorEq]
  exact hh
set_option maxHeartbeats 1000000 in
theorem ref_un (hL : LAt L all) (hS : Stn γ sB all ts from_) {f : Nat} (H : RefOk γ ts from_ L f) : RefCall γ ts from_ L (f + 1) 62 [.v (.int .i64 6)] .un := by
  intro h i p hf hp hn hr
  have hpre := hS.pre.length_le
  refine EvM.of Tryz.func62 rfl ?_
  simp only [Tryz.f62, Int.reduceBEq, evE, Nat.reduceAdd, Nat.reduceSub, Nat.reduceLT, Nat.reduceEqDiff, reduceCtorEq]
  refine CallE.intro c117 _ (one_ev hL hS hf hp hr (n := 6) (by decide) (by decide)) (fun r h1 hh => ?_) (fun v h' hh => by cases hh.1)
  obtain ⟨e, f1⟩ := hh
  cases e
  have r1 := hr.fr f1
  have hr1 : h1[i]? = _ := r1
  have F1 : Fr (IsI i) h h1 := f1.mono fun k hk => False.elim hk
  rw [fnd_six]
  by_cases hm : mkA ts p = [45] ∨ mkA ts p = [33]
  · have hlt : p < ts.length := hm.elim mkA_eq mkA_eq
    have w1 : IntKind.i64.wrap ((p : Int) + 1) = ((p + 1 : Nat) : Int) := w64 (Nat.le_trans hp hpre) hS.small
    obtain ⟨k, hk, hk0⟩ : ∃ k : Int, (if mkA ts p = [45] then (3 : Int) else if mkA ts p = [33] then 4 else 0) = k ∧ k = (if mkA ts p = [45] then 3 else 4) ∧ k ≠ 0 := by
      by_cases h45 : mkA ts p = [45]
      · exact ⟨3, by rw [if_pos h45], by rw [if_pos h45], by decide⟩
      · exact ⟨4, by rw [if_neg h45, if_pos (hm.resolve_left h45)], by rw [if_neg h45], by decide⟩
    obtain ⟨hk1, hk0⟩ := hk0
    rw [hk]
    have d1 : (k == 0) = false := by simpa using hk0
    have hn2 : Md.need ts (p + 1) .un ≤ f := by clear w1; simp only [Md.need] at hn ⊢; omega
    have r2 : RT (h1.set i ⟨0, 109, [L, .v (.int .i64 ((p + 1 : Nat) : Int)), .v (.int .i64 (-1))]⟩) i L (p + 1) (-1) := List.getElem?_set_self r1.lt
    simp only [tyR, d1, hr1, w1, evE, tyX, Nat.reduceAdd, Nat.reduceLT, Nat.reduceLeDiff, Nat.reduceEqDiff, reduceCtorEq]
    refine CallE.intro c62 _ (H.un _ i (p + 1) (by clear w1; omega) hlt hn2 r2) (fun r h3 hh => ?_) (fun v h' hh => hh.pan.elim)
    obtain ⟨f3, hh⟩ := hh
    have F3 : Fr (IsI i) h h3 := (F1.trans (Fr.set (S := IsI i) _ rfl) fun k hk => .inl hk).trans f3 fun k hk => .inl hk
    cases e : pr ts f .un (p + 1) with
    | bad q =>
      rw [e] at hh
      obtain ⟨er, p', r3⟩ := hh
      cases er
      have epr : pr ts (f + 1) .un p = .bad q := by rw [pr, if_pos hm, e]
      rw [epr]
      simp only [tyR, evE, Nat.reduceLT, Nat.reduceEqDiff, reduceCtorEq]
      exact ⟨F3, rfl, p', r3⟩
    | ok a q =>
      rw [e] at hh
      obtain ⟨x, er, hT, r3⟩ := hh
      cases er
      obtain ⟨qx, rfl⟩ := hT.ptr
      have epr : pr ts (f + 1) .un p = .ok (.un k a) q := by rw [pr, if_pos hm, e, hk1]
      rw [epr]
      obtain ⟨bx, hbx⟩ := TreeAt.blk hT
      simp only [tyR, hbx, List.append_assoc, evE, Nat.reduceAdd, Nat.reduceLT, Nat.reduceLeDiff, Nat.reduceEqDiff, reduceCtorEq, List.reduceReplicate]
      exact ⟨F3.trans (Fr.app (S := NoB) h3 _) (fun k hk => False.elim hk), _, rfl, ⟨by have := F3.1; omega, by simp, h3.length, 0, .ptr qx 0 0, F3.1, by simp, at_len1 .., at_len .., hT.app _ (by have := F1.1; simp; omega) (by simp)⟩, r3.app _⟩
  · have epr : pr ts (f + 1) .un p = pr ts f .fs p := by rw [pr, if_neg hm]
    have e0 : (if mkA ts p = [45] then (3 : Int) else if mkA ts p = [33] then 4 else 0) = 0 := by rw [if_neg (fun e => hm (.inl e)), if_neg (fun e => hm (.inr e))]
    have hn2 : Md.need ts p .fs ≤ f := by simp only [Md.need] at hn ⊢; omega
    rw [e0, epr]
    simp only [evE, Nat.reduceLT, Nat.reduceEqDiff, reduceCtorEq]
    refine CallE.intro c62 _ (H.fs _ i p hf hp hn2 r1) (fun r h3 hh => ?_) (fun v h' hh => hh.pan.elim)
    simp only [evE, Nat.reduceLT, Nat.reduceEqDiff, reduceCtorEq]
    refine ⟨F1.trans hh.1 fun k hk => .inl hk, ?_⟩
    have hh2 := hh.2
    cases e : pr ts f .fs p with
    | bad q => rw [e] at hh2; exact hh2
    | ok a q =>
      rw [e] at hh2
      obtain ⟨x, er, hT, r3⟩ := hh2
      exact ⟨x, er, TreeAt.fr (Fr.refl NoB _) F1.1 (Nat.le_refl _) (fun k b hk => False.elim hk) _ _ hT, r3⟩
end Go.Proofs.YtlobiioioicmhaaGreatDoor
/- The document's reader of expressions, walked: levels 1 to 5. -/
namespace Go.Proofs.YtlobiioioicmhaaGreatDoor
set_option linter.all false
open Go Go.Ev
set_option maxRecDepth 20000
variable {γ : List (Nat × AV)}
variable {sB : Tk → Bool} {all ts : List Tk} {from_ : Nat} {L : AV}
/-- What the loop's head knows: the tree so far (or none), the place, the blocks, the fuel. -/
structure LrI where
  x : AV
  o : Option Tr
  q : Nat
  h : List ABlk
  g : Nat
def lrS (γ : List (Nat × AV)) (i n : Nat) (y : LrI) : St := ⟨⟨72, [(0, .ptr i 0 0), (1, .v (.int .i64 (n : Int))), (7, y.x)], γ⟩, y.h⟩
def lrI (ts : List Tk) (L : AV) (h : List ABlk) (i n p : Nat) (f : Nat) (y : LrI) : Prop :=
  Fr (IsI i) h y.h ∧ match y.o with
  | some a => p < y.q ∧ y.q ≤ ts.length ∧ TreeAt h.length y.h.length y.h y.x a ∧ RT y.h i L y.q (-1) ∧ pr ts f (.bin n) p = pr ts y.g (.lp n a) y.q ∧ (Md.lp n a).need ts y.q ≤ y.g ∧ y.g + 1 ≤ f
  | none => y.x = .v (.pointer none) ∧ pr ts f (.bin n) p = .bad y.q ∧ ∃ p', RT y.h i L p' y.q
set_option maxHeartbeats 1000000 in
theorem ref_bin (hL : LAt L all) (hS : Stn γ sB all ts from_) {f : Nat} (H : ∀ g ≤ f, RefOk γ ts from_ L g) {n : Nat} (hn1 : 1 ≤ n) (hn6 : n ≤ 6) : RefCall γ ts from_ L (f + 1) 62 [.v (.int .i64 (n : Int))] (.bin n) := by
  intro h i p hf hp hn hr
  have hpre := hS.pre.length_le
  by_cases h6 : n = 6
  · subst h6
    have epr : pr ts (f + 1) (.bin 6) p = pr ts f .un p := by rw [pr, if_pos (by decide)]
    have hn2 : Md.need ts p .un ≤ f := by simp only [Md.need] at hn ⊢; omega
    rw [epr]
    exact (H f (Nat.le_refl _)).un h i p hf hp hn2 hr
  · have d7 : ((n : Int) == 7) = false := by simp only [beq_eq_false_iff_ne, ne_eq]; omega
    have d6 : ((n : Int) == 6) = false := by simp only [beq_eq_false_iff_ne, ne_eq]; omega
    have w1 : IntKind.i64.wrap ((n : Int) + 1) = ((n + 1 : Nat) : Int) := (i64w (by omega) (by omega)).trans (by omega)
    have hn2 : Md.need ts p (.bin (n + 1)) ≤ f := by clear w1; simp only [Md.need] at hn ⊢; omega
    have hc := (H f (Nat.le_refl _)).bin (n + 1) (by clear w1; omega) (by clear w1; omega) h i p hf hp hn2 hr
    have epr : pr ts (f + 1) (.bin n) p = match pr ts f (.bin (n + 1)) p with
      | .bad q => .bad q
      | .ok a q => pr ts f (.lp n a) q := by rw [pr, if_neg (by clear w1; omega)] <;> cases pr ts f (.bin (n + 1)) p <;> rfl
    refine EvM.of Tryz.func62 rfl ?_
    simp only [Tryz.f62, d7, d6, w1, evE, Nat.reduceAdd, Nat.reduceSub, Nat.reduceLT, Nat.reduceEqDiff, reduceCtorEq]
    refine CallE.intro c62 _ hc (fun r h1 hh => ?_) (fun v h2 hh => hh.pan.elim)
    simp only [evE, Nat.reduceLT, Nat.reduceEqDiff, reduceCtorEq]
    obtain ⟨y0, hy0, hx0⟩ : ∃ y : LrI, lrI ts L h i n p (f + 1) y ∧ r = y.x ∧ h1 = y.h := by
      obtain ⟨f1, hh⟩ := hh
      cases e : pr ts f (.bin (n + 1)) p with
      | bad q =>
        rw [e] at hh epr
        obtain ⟨er, p', r1⟩ := hh
        cases er
        exact ⟨⟨_, none, q, h1, f⟩, ⟨f1, rfl, epr, p', r1⟩, rfl, rfl⟩
      | ok a q =>
        rw [e] at hh epr
        obtain ⟨x, er, hT, r1⟩ := hh
        cases er
        obtain ⟨⟨g1, g2⟩, g3⟩ := pr_adv ts f (.bin (n + 1)) p a q hp e
        exact ⟨⟨_, some a, q, h1, f⟩, ⟨f1, g1, g3, hT, r1, epr, by clear w1; simp only [Md.need] at hn ⊢; omega, Nat.le_refl _⟩, rfl, rfl⟩
    obtain ⟨er, eh⟩ := hx0
    subst er
    subst eh
    refine LoopE.intro (lrS γ i n) (lrI ts L h i n p (f + 1)) (fun y => match y.o with | some _ => ts.length + 1 - y.q | none => 0) y0 ?_ hy0 (fun y hy => ?_)
    · exact ⟨rfl, rfl, ⟨rfl, rfl, rfl, trivial⟩, rfl⟩
    clear hy0 hh epr hc hn2
    obtain ⟨x, o, q, h1, g⟩ := y
    obtain ⟨f1, hy⟩ := hy
    cases o with
    | none =>
      obtain ⟨ex, epr, p', r1⟩ := hy
      simp only at ex epr r1 f1
      subst ex
      rw [epr]
      simp only [lrS, tyR, evE, Nat.reduceLT, Nat.reduceEqDiff, reduceCtorEq]
      exact ⟨f1, rfl, p', r1⟩
    | some a =>
      obtain ⟨x1, x2, hT, r1, epr, hneed, hg⟩ := hy
      simp only at x1 x2 hT r1 epr hneed hg f1
      obtain ⟨qx, rfl⟩ := hT.ptr
      obtain ⟨bx, hbx⟩ := TreeAt.blk hT
      obtain ⟨g, rfl⟩ : ∃ g', g = g' + 1 := ⟨g - 1, by clear w1; simp only [Md.need] at hneed; omega⟩
      simp only [lrS, tyR, hbx, evE, Nat.reduceLT, Nat.reduceEqDiff, reduceCtorEq]
      refine CallE.intro c117 _ (one_ev hL hS (by clear w1; omega) x2 r1 hn1 hn6) (fun r h2 hh => ?_) (fun v h' hh => by cases hh.1)
      obtain ⟨e, f2⟩ := hh
      cases e
      rw [fnd_ops _ n hn1 (by clear w1; omega)]
      have r2 := r1.fr f2
      have hr2 : h2[i]? = _ := r2
      have F2 : Fr (IsI i) h h2 := f1.trans (f2.mono (S1 := IsI i) fun k hk => False.elim hk) fun k hk => .inl hk
      have hT2 : TreeAt h.length h2.length h2 (.ptr qx 0 0) a := TreeAt.fr f2 (Nat.le_refl _) f2.1 (fun k b hk => False.elim hk) _ _ hT
      by_cases hl : levK (opK (mkA ts q)) = n
      · have hk0 : opK (mkA ts q) ≠ 0 := fun e => by rw [e] at hl; have : levK 0 = 7 := rfl; clear w1; omega
        have d2 : (opK (mkA ts q) == 0) = false := by simpa using hk0
        have hlt : q < ts.length := opK_lt hk0
        have w2 : IntKind.i64.wrap ((q : Int) + 1) = ((q + 1 : Nat) : Int) := w64 (Nat.le_trans x2 hpre) hS.small
        have hstop : ¬ (opK (mkA ts q) = 0 ∨ levK (opK (mkA ts q)) ≠ n) := fun h => h.elim hk0 fun h => h hl
        have epr2 : pr ts (g + 1) (.lp n a) q = match pr ts g (.bin (n + 1)) (q + 1) with
          | .bad q => .bad q
          | .ok b q' => if n = 3 then .ok (.bi (opK (mkA ts q)) a b) q' else pr ts g (.lp n (.bi (opK (mkA ts q)) a b)) q' := by rw [pr, if_neg hstop] <;> cases pr ts g (.bin (n + 1)) (q + 1) <;> rfl
        have hn3 : Md.need ts (q + 1) (.bin (n + 1)) ≤ g := by clear w1 w2; simp only [Md.need] at hneed ⊢; omega
        have r3 : RT (h2.set i ⟨0, 109, [L, .v (.int .i64 ((q + 1 : Nat) : Int)), .v (.int .i64 (-1))]⟩) i L (q + 1) (-1) := List.getElem?_set_self r2.lt
        have hT3 := TreeAt.fr1 r2 (Fr.set (S := IsI i) (⟨0, 109, [L, .v (.int .i64 ((q + 1 : Nat) : Int)), .v (.int .i64 (-1))]⟩ : ABlk) rfl) (Nat.le_refl _) (Nat.le_refl _) hT2
        rw [if_pos hl]
        simp only [tyR, d2, hr2, w1, w2, evE, tyX, Nat.reduceAdd, Nat.reduceLT, Nat.reduceLeDiff, Nat.reduceEqDiff, reduceCtorEq]
        refine CallE.intro c62 _ ((H g (by clear w1 w2; omega)).bin (n + 1) (by clear w1 w2; omega) (by clear w1 w2; omega) _ i (q + 1) (by clear w1 w2; omega) hlt hn3 r3) (fun r h4 hh => ?_) (fun v h' hh => hh.pan.elim)
        obtain ⟨f4, hh⟩ := hh
        have F4 : Fr (IsI i) h h4 := (F2.trans (Fr.set (S := IsI i) _ rfl) fun k hk => .inl hk).trans f4 fun k hk => .inl hk
        cases e : pr ts g (.bin (n + 1)) (q + 1) with
        | bad q' =>
          rw [e] at hh epr2
          obtain ⟨er, p', r4⟩ := hh
          cases er
          rw [epr, epr2]
          simp only [tyR, evE, Nat.reduceLT, Nat.reduceEqDiff, reduceCtorEq]
          exact ⟨F4, rfl, p', r4⟩
        | ok b q' =>
          rw [e] at hh epr2
          obtain ⟨x', er, hTb, r4⟩ := hh
          cases er
          obtain ⟨qy, rfl⟩ := hTb.ptr
          obtain ⟨by', hby⟩ := TreeAt.blk hTb
          have hTa : TreeAt h.length h4.length h4 _ a := TreeAt.fr1 r3 f4 (Nat.le_refl _) (by have := f4.1; simpa using this) hT3
          have hl4 : h.length ≤ h4.length := F4.1
          have hl2 : h.length ≤ (h2.set i ⟨0, 109, [L, .v (.int .i64 ((q + 1 : Nat) : Int)), .v (.int .i64 (-1))]⟩).length := by have := F2.1; simpa using this
          obtain ⟨⟨g1, g2⟩, g3⟩ := pr_adv ts g (.bin (n + 1)) (q + 1) b q' hlt e
          have F5 : ∀ l, Fr (IsI i) h (h4 ++ l) := fun l => F4.trans (Fr.app (S := NoB) h4 l) fun k hk => False.elim hk
          simp only [tyR, hby, List.append_assoc, evE, Nat.reduceAdd, Nat.reduceLT, Nat.reduceLeDiff, Nat.reduceEqDiff, reduceCtorEq, List.reduceReplicate]
          by_cases h3n : n = 3
          · have d4 : ((n : Int) == 3) = true := by subst h3n; rfl
            have epr3 : pr ts (f + 1) (.bin n) p = .ok (.bi (opK (mkA ts q)) a b) q' := by rw [epr, epr2]; exact if_pos h3n
            rw [epr3]
            simp only [d4, evE, Nat.reduceLT, Nat.reduceEqDiff, reduceCtorEq]
            exact ⟨F5 _, _, rfl, ⟨by omega, by simp, h4.length, 0, .ptr qx 0 0, .ptr qy 0 0, hl4, by simp, at_len1 .., at_len .., hTa.app _ (Nat.le_refl _) (by simp), hTb.app _ hl2 (by simp)⟩, r4.app _⟩
          · have d4 : ((n : Int) == 3) = false := by simp only [beq_eq_false_iff_ne, ne_eq]; clear w1 w2; omega
            simp only [d4, evE]
            refine loopCE.intro ⟨.ptr (h4.length + 1) 0 0, some (.bi (opK (mkA ts q)) a b), q', _, g⟩ ⟨F5 _, ?_, g3, ⟨by omega, by simp, h4.length, 0, .ptr qx 0 0, .ptr qy 0 0, hl4, by simp, at_len1 .., at_len .., hTa.app _ (Nat.le_refl _) (by simp), hTb.app _ hl2 (by simp)⟩, r4.app _, ?_, ?_, ?_⟩ ⟨rfl, rfl, ⟨rfl, rfl, rfl, trivial⟩, rfl⟩ ?_
            · show p < q'; clear w1 w2; omega
            · rw [epr, epr2]; exact if_neg h3n
            · clear w1 w2; simp only [Md.need] at hneed ⊢; omega
            · show g + 1 ≤ f + 1; clear w1 w2; omega
            · show ts.length + 1 - q' < ts.length + 1 - q; clear w1 w2; omega
      · have epr2 : pr ts (g + 1) (.lp n a) q = .ok a q := by rw [pr, if_pos (.inr hl)]
        rw [if_neg hl, epr, epr2]
        simp only [evE, Nat.reduceLT, Nat.reduceEqDiff, reduceCtorEq]
        exact ⟨F2, _, rfl, hT2, r2⟩
end Go.Proofs.YtlobiioioicmhaaGreatDoor
/- The document's reader of expressions, walked: level 7. -/
namespace Go.Proofs.YtlobiioioicmhaaGreatDoor
set_option linter.all false
open Go Go.Ev
set_option maxRecDepth 20000
variable {γ : List (Nat × AV)}
variable {sB : Tk → Bool} {all ts : List Tk} {from_ : Nat} {L : AV}
def nm2 (ts : List Tk) (w : Int) (a b : Tr) (r : Nat) : Res := if mkA ts r = [41] then .ok (.bi w a b) (r + 1) else .bad r
def nm1 (ts : List Tk) (f : Nat) (w : Int) (a : Tr) (q : Nat) : Res :=
  if kidsK w = 2 then (if mkA ts q ≠ [44] then .bad q else match pr ts f (.bin 1) (q + 1) with
    | .bad r => .bad r
    | .ok b r => nm2 ts w a b r)
  else if mkA ts q = [41] then .ok (.un w a) (q + 1) else .bad q
def nmR (ts : List Tk) (f : Nat) (w : Int) (p : Nat) : Res :=
  if mkA ts p ≠ [40] then .bad p else match pr ts f (.bin 1) (p + 1) with
    | .bad q => .bad q
    | .ok a q => nm1 ts f w a q
theorem pr_nm {f : Nat} {s : List UInt8} {p : Nat} (h1 : s ≠ trueB) (h2 : s ≠ falseB) (h3 : wordK s ≠ 0) : pr ts (f + 1) (.nm s) p = nmR ts f (wordK s) p := by
  rw [pr, if_neg h1, if_neg h2, if_neg h3]
  unfold nmR
  split
  · rfl
  · cases pr ts f (.bin 1) (p + 1) with
    | bad q => rfl
    | ok a q =>
      show (if _ then (if _ then _ else _) else _) = nm1 ts f _ a q
      unfold nm1
      split
      · split
        · rfl
        · cases pr ts f (.bin 1) (q + 1) <;> rfl
      · rfl
def tcs (k : Int) (nm : List UInt8) (vk vi : Int) (vr : Nat) (vt : List UInt8) (N : AV) : List AV := [.v (.int .i64 k), .v (.string ⟨nm.toArray⟩), .v (.int .i64 vk), .v (.int .i64 vi), .v (.float .f64 vr), .v (.complex .f64 0 0), .v (.string ⟨vt.toArray⟩), N]
/-- What the loop over a word's children knows. -/
structure SvY where
  k : Nat
  q : Nat
  h : List ABlk
def svS (γ : List (Nat × AV)) (i X : Nat) (w : Int) (y : SvY) : St := ⟨⟨126, [(0, .ptr i 0 0), (6, .v (.int .i64 w)), (7, .ptr X 0 0), (8, .v (.int .i64 (y.k : Int)))], γ⟩, y.h⟩
def svI (ts : List Tk) (L : AV) (h0 : List ABlk) (i X p : Nat) (w : Int) (f : Nat) (R : Res) (y : SvY) : Prop :=
  Fr (IsI i) h0 y.h ∧ h0.length ≤ X ∧ X ≠ i ∧ X < y.h.length ∧ RT y.h i L y.q (-1) ∧ p < y.q ∧ y.q ≤ ts.length ∧
  ((y.k = 0 ∧ y.h[X]? = some ⟨0, 190, tcs w [] 0 0 0 [] (.v (.slice none 0 0))⟩ ∧ R = nmR ts f w y.q)
  ∨ (y.k = 1 ∧ ∃ (a : Tr) (j : Nat) (xa : AV) (la ha : Nat), y.h[X]? = some ⟨0, 190, tcs w [] 0 0 0 [] (.own j 0 1)⟩ ∧ y.h[j]? = some ⟨0, 110, [xa]⟩ ∧ X < la ∧ ha ≤ j ∧ h0.length ≤ j ∧ j < y.h.length ∧ TreeAt la ha y.h xa a ∧ R = nm1 ts f w a y.q)
  ∨ (y.k = 2 ∧ kidsK w = 2 ∧ ∃ (a b : Tr) (j : Nat) (xa xb : AV), y.h[X]? = some ⟨0, 190, tcs w [] 0 0 0 [] (.own j 1 2)⟩ ∧ y.h[j]? = some ⟨1, 110, [xa, xb]⟩ ∧ j < y.h.length ∧ h0.length ≤ j ∧ TreeAt (X + 1) y.h.length y.h xa a ∧ TreeAt (X + 1) y.h.length y.h xb b ∧ R = nm2 ts w a b y.q))
set_option maxHeartbeats 2000000 in
theorem ref_sev (hL : LAt L all) (hS : Stn γ sB all ts from_) {f : Nat} (H : ∀ g ≤ f, RefOk γ ts from_ L g) : RefCall γ ts from_ L (f + 1) 116 [] .fs := by
  intro h i p hf hp hn hr
  have hpre := hS.pre.length_le
  have w1 : IntKind.i64.wrap ((p : Int) + 1) = ((p + 1 : Nat) : Int) := w64 (Nat.le_trans hp hpre) hS.small
  refine EvM.of Tryz.func116 rfl ?_
  simp only [Tryz.f116, evE, Nat.reduceAdd, Nat.reduceSub, Nat.reduceLT, Nat.reduceEqDiff, reduceCtorEq]
  refine CallE.intro c189 _ (next_ev hL hS hf hp hr) (fun r h1 hh => ?_) (fun v h' hh => by cases hh.1)
  obtain ⟨e, f1⟩ := hh
  cases e
  have r1 := hr.fr f1
  have s1 : ∀ x, (h1 ++ [x])[h1.length]? = some x := fun x => by simp
  have s2 : ∀ x y, (h1 ++ [x]).set h1.length y = h1 ++ [y] := fun x y => by simp
  have F1 : ∀ l, Fr (IsI i) h (h1 ++ l) := fun l => (f1.trans (S1 := NoB) (Fr.app h1 l) fun k hk => False.elim hk).mono fun k hk => False.elim hk
  have stop : ∀ l, pr ts (f + 1) .fs p = .bad p → ∀ h2, h2 = (h1 ++ l).set i ⟨0, 109, [L, .v (.int .i64 p), .v (.int .i64 p)]⟩ → ResR L i h (pr ts (f + 1) .fs p) (.ret (.v (.pointer none))) h2 := by
    intro l e h2 eh
    subst eh
    rw [e]
    exact ⟨(F1 l).trans (Fr.set (S := IsI i) _ rfl) fun k hk => .inl hk, rfl, p, List.getElem?_set_self (r1.app l).lt⟩
  by_cases hlt : p < ts.length
  rotate_left
  · have e4 : decide (p < ts.length) = false := decide_eq_false hlt
    have e2 : ts[p]? = none := List.getElem?_eq_none (by omega)
    have em : mkA ts p = [] := by unfold mkA; rw [e2]
    simp only [tyR, e4, s1, s2, Tk.cells, evE, Bool.not_false, Nat.reduceAdd, Nat.reduceLT, Nat.reduceLeDiff, Nat.reduceEqDiff, reduceCtorEq]
    refine CallE.intro c190 _ (bad_ev (r1.app _)) (fun r h2 hh => ?_) (fun v h' hh => by cases hh.1)
    obtain ⟨e, eh⟩ := hh
    cases e
    simp only [evE, Nat.reduceLT, Nat.reduceEqDiff, reduceCtorEq]
    exact stop _ (by rw [pr, if_neg (by rw [em]; decide), e2]) h2 eh
  have e4 : decide (p < ts.length) = true := decide_eq_true hlt
  obtain ⟨t, ht⟩ : ∃ t, ts[p]? = some t := ⟨ts[p], by simp [hlt]⟩
  have e3 : nextT' ts p = t := by unfold nextT'; rw [ht]; rfl
  rw [e3]
  have sI : ∀ x b, ((h1 ++ [x]).set i b)[h1.length]? = some x := fun x b => (List.getElem?_set_ne (by have := r1.lt; omega)).trans (s1 x)
  have gI : ∀ l, (h1 ++ l)[i]? = some ⟨0, 109, [L, .v (.int .i64 p), .v (.int .i64 (-1))]⟩ := fun l => r1.app l
  have e5 : ∀ h' o r, ResR L i h r o h' → r = pr ts (f + 1) .fs p → ResR L i h (pr ts (f + 1) .fs p) o h' := fun h' o r a e => e ▸ a
  obtain ⟨H2, hH2⟩ : ∃ H2, H2 = (h1 ++ [(⟨0, 54, t.cells⟩ : ABlk)]).set i ⟨0, 109, [L, .v (.int .i64 ((p + 1 : Nat) : Int)), .v (.int .i64 (-1))]⟩ := ⟨_, rfl⟩
  have F2 : Fr (IsI i) h H2 := by rw [hH2]; exact (F1 _).trans (Fr.set (S := IsI i) _ rfl) fun k hk => .inl hk
  have r2 : RT H2 i L (p + 1) (-1) := by rw [hH2]; exact List.getElem?_set_self (r1.app _).lt
  have t2 : H2[h1.length]? = some ⟨0, 54, t.cells⟩ := by rw [hH2]; exact sI _ _
  have leaf : ∀ (k : Int) (nm : List UInt8) (vk vi : Int) (vr : Nat) (vt : List UInt8), pr ts (f + 1) .fs p = .ok (.lf k nm vk vi vr vt) (p + 1) →
      ResR L i h (pr ts (f + 1) .fs p) (.ret (.ptr H2.length 0 0)) (H2 ++ [⟨0, 190, tcs k nm vk vi vr vt (.v (.slice none 0 0))⟩]) := by
    intro k nm vk vi vr vt e
    rw [e]
    exact ⟨F2.trans (Fr.app (S := NoB) H2 _) fun k hk => False.elim hk, _, rfl, ⟨F2.1, by simp, at_len ..⟩, r2.app _⟩
  obtain ⟨kd, tx, ti, tr, tp, tz⟩ := t
  simp only [Tk.cells] at hH2 t2
  by_cases hk5 : kd = 5
  · subst hk5
    have em : mkA ts p = tx := by unfold mkA; rw [ht]; rfl
    by_cases hm : tx = [40]
    · have d6 : (tx == [40]) = true := by simpa using hm
      have hm' : mkA ts p = [40] := em.trans hm
      have epr : pr ts (f + 1) .fs p = match pr ts f (.bin 1) (p + 1) with
        | .bad q => .bad q
        | .ok a q => if mkA ts q = [41] then .ok a (q + 1) else .bad q := by
        rw [pr, if_pos hm'] <;> cases pr ts f (.bin 1) (p + 1) <;> rfl
      simp only [tyR, e4, s1, s2, Tk.cells, d6, gI, w1, evE, tyX, Bool.not_true, Nat.reduceAdd, Nat.reduceLT, Nat.reduceLeDiff, Nat.reduceEqDiff, reduceCtorEq]
      rw [← hH2]
      simp only [t2, Int.reduceBEq, evE, tyX, Nat.reduceLT, Nat.reduceEqDiff, reduceCtorEq]
      have hn2 : Md.need ts (p + 1) (.bin 1) ≤ f := by clear w1; simp only [Md.need] at hn ⊢; omega
      refine CallE.intro c62 _ ((H f (Nat.le_refl _)).bin 1 (by decide) (by decide) H2 i (p + 1) (by clear w1; omega) hlt hn2 r2) (fun r h3 hh => ?_) (fun v h' hh => hh.pan.elim)
      obtain ⟨f3, hh⟩ := hh
      have F3 : Fr (IsI i) h h3 := F2.trans f3 fun k hk => .inl hk
      cases e : pr ts f (.bin 1) (p + 1) with
      | bad q =>
        rw [e] at hh epr
        obtain ⟨er, p', r3⟩ := hh
        cases er
        rw [epr]
        simp only [tyR, evE, Nat.reduceLT, Nat.reduceEqDiff, reduceCtorEq]
        exact ⟨F3, rfl, p', r3⟩
      | ok a q =>
        rw [e] at hh epr
        obtain ⟨x, er, hT, r3⟩ := hh
        cases er
        obtain ⟨qx, rfl⟩ := hT.ptr
        obtain ⟨bx, hbx⟩ := TreeAt.blk hT
        obtain ⟨⟨g1, g2⟩, g3⟩ := pr_adv ts f (.bin 1) (p + 1) a q hlt e
        have epr2 : pr ts (f + 1) .fs p = if mkA ts q = [41] then .ok a (q + 1) else .bad q := epr
        simp only [tyR, hbx, evE, Nat.reduceLT, Nat.reduceEqDiff, reduceCtorEq]
        refine CallE.intro c191 _ (must_ev hL hS (by clear w1; omega) g3 r3 41 []) (fun r h4 hh => ?_) (fun v h' hh => ?_)
        rotate_left
        · obtain ⟨_, hh⟩ := hh; split at hh <;> cases hh.1
        obtain ⟨f4, hh⟩ := hh
        have F4 : Fr (IsI i) h h4 := F3.trans f4 fun k hk => .inl hk
        by_cases hm41 : mkA ts q = [41]
        · rw [if_pos hm41] at hh epr2
          obtain ⟨er, r4⟩ := hh
          cases er
          rw [epr2]
          simp only [evE, Bool.not_true, Nat.reduceLT, Nat.reduceEqDiff, reduceCtorEq]
          exact ⟨F4, _, rfl, TreeAt.fr1 r3 f4 F2.1 f4.1 hT, r4⟩
        · rw [if_neg hm41] at hh epr2
          obtain ⟨er, r4⟩ := hh
          cases er
          rw [epr2]
          simp only [evE, Bool.not_false, Nat.reduceLT, Nat.reduceEqDiff, reduceCtorEq]
          exact ⟨F4, rfl, q, r4⟩
    · have d6 : (tx == [40]) = false := by simpa using hm
      simp only [tyR, e4, s1, s2, Tk.cells, d6, evE, tyX, Bool.not_true, Bool.not_false, Nat.reduceAdd, Nat.reduceLT, Nat.reduceLeDiff, Nat.reduceEqDiff, reduceCtorEq]
      refine CallE.intro c190 _ (bad_ev (r1.app _)) (fun r h2 hh => ?_) (fun v h' hh => by cases hh.1)
      obtain ⟨e, eh⟩ := hh
      cases e
      simp only [evE, Nat.reduceLT, Nat.reduceEqDiff, reduceCtorEq]
      exact stop _ (by rw [pr, if_neg (by rw [em]; exact hm), ht]; rfl) h2 eh
  · have d5 : (kd == 5) = false := by simpa using hk5
    have em : mkA ts p ≠ [40] := by unfold mkA; rw [ht]; simp [hk5]
    have epr : pr ts (f + 1) .fs p = if kd = 2 then .ok (.lf 1 [] 1 ti 0 []) (p + 1) else if kd = 3 then .ok (.lf 1 [] 2 0 tr []) (p + 1) else if kd = 4 then .ok (.lf 1 [] 4 0 0 tx) (p + 1) else pr ts f (.nm tx) (p + 1) := by
      rw [pr, if_neg em, ht]; exact if_neg hk5
    simp only [tyR, e4, s1, s2, Tk.cells, d5, gI, w1, evE, tyX, Bool.not_true, Nat.reduceAdd, Nat.reduceLT, Nat.reduceLeDiff, Nat.reduceEqDiff, reduceCtorEq]
    rw [← hH2]
    by_cases hk2 : kd = 2
    · subst hk2
      simp only [tyR, t2, evE, tyX, Nat.reduceAdd, Nat.reduceLT, Nat.reduceLeDiff, Nat.reduceEqDiff, reduceCtorEq]
      exact leaf 1 [] 1 ti 0 [] (by rw [epr]; rfl)
    have d2 : (kd == 2) = false := by simpa using hk2
    by_cases hk3 : kd = 3
    · subst hk3
      simp only [tyR, t2, Int.reduceBEq, evE, tyX, Nat.reduceAdd, Nat.reduceLT, Nat.reduceLeDiff, Nat.reduceEqDiff, reduceCtorEq]
      exact leaf 1 [] 2 0 tr [] (by rw [epr]; rfl)
    have d3 : (kd == 3) = false := by simpa using hk3
    by_cases hk4 : kd = 4
    · subst hk4
      simp only [tyR, t2, Int.reduceBEq, evE, tyX, Nat.reduceAdd, Nat.reduceLT, Nat.reduceLeDiff, Nat.reduceEqDiff, reduceCtorEq]
      exact leaf 1 [] 4 0 0 tx (by rw [epr]; rfl)
    have d4 : (kd == 4) = false := by simpa using hk4
    rw [if_neg hk2, if_neg hk3, if_neg hk4] at epr
    obtain ⟨f, rfl⟩ : ∃ f', f = f' + 1 := ⟨f - 1, by clear w1; simp only [Md.need] at hn; omega⟩
    by_cases htr : tx = trueB
    · have y1 : (tx == [116, 114, 117, 101]) = true := by rw [htr]; rfl
      simp only [tyR, t2, d2, d3, d4, d5, y1, evE, tyX, Nat.reduceAdd, Nat.reduceLT, Nat.reduceLeDiff, Nat.reduceEqDiff, reduceCtorEq]
      exact leaf 1 [] 5 1 0 [] (by rw [epr, pr, if_pos htr])
    have y1 : (tx == [116, 114, 117, 101]) = false := by simpa [trueB] using htr
    by_cases hfa : tx = falseB
    · have y2 : (tx == [102, 97, 108, 115, 101]) = true := by rw [hfa]; rfl
      simp only [tyR, t2, d2, d3, d4, d5, y1, y2, evE, tyX, Nat.reduceAdd, Nat.reduceLT, Nat.reduceLeDiff, Nat.reduceEqDiff, reduceCtorEq]
      exact leaf 1 [] 5 0 0 [] (by rw [epr, pr, if_neg htr, if_pos hfa])
    have y2 : (tx == [102, 97, 108, 115, 101]) = false := by simpa [falseB] using hfa
    simp only [tyR, t2, d2, d3, d4, d5, y1, y2, evE, tyX, Nat.reduceLT, Nat.reduceEqDiff, reduceCtorEq]
    refine CallE.pure (CallK.intro c192 rfl (wordKind_ev tx) ?_)
    by_cases hw : wordK tx = 0
    · have y3 : (wordK tx == 0) = true := by simpa using hw
      simp only [tyR, t2, y3, evE, tyX, Nat.reduceAdd, Nat.reduceLT, Nat.reduceLeDiff, Nat.reduceEqDiff, reduceCtorEq]
      exact leaf 2 tx 0 0 0 [] (by rw [epr, pr, if_neg htr, if_neg hfa, if_pos hw])
    have y3 : (wordK tx == 0) = false := by simpa using hw
    rw [pr_nm htr hfa hw] at epr
    simp only [tyR, y3, evE, Nat.reduceAdd, Nat.reduceLT, Nat.reduceLeDiff, Nat.reduceEqDiff, reduceCtorEq]
    have hwr : 18 ≤ wordK tx ∧ wordK tx ≤ 26 := by
      rcases wordK_vals tx with e | e | e | e | e | e | e | e | e | e <;> first | exact absurd e hw | (rw [e]; decide)
    have hwk := wordK_kids hw
    generalize wordK tx = w at *
    obtain ⟨X, hX⟩ : ∃ X, X = H2.length := ⟨_, rfl⟩
    rw [← hX]
    refine LoopE.intro (svS γ i X w) (svI ts L h i X p w f (pr ts (f + 1 + 1) .fs p)) (fun y => 3 - y.k) ⟨0, p + 1, _⟩ ⟨rfl, rfl, ⟨rfl, rfl, rfl, rfl, trivial⟩, rfl⟩ ?_ (fun y hy => ?_)
    · refine ⟨F2.trans (Fr.app (S := NoB) H2 _) fun k hk => False.elim hk, by rw [hX]; exact F2.1, by have := r2.lt; omega, by rw [hX]; simp, r2.app _, Nat.lt_succ_self p, hlt, .inl ⟨rfl, ?_, epr⟩⟩
      rw [hX]; exact at_len ..
    obtain ⟨k, q, hy'⟩ := y
    obtain ⟨x1, x2, x3, x4, x5, x6, x7, hc⟩ := hy
    simp only at x1 x2 x3 x4 x5 x6 x7 hc
    simp only [svS, evE, Nat.reduceLT, Nat.reduceEqDiff, reduceCtorEq]
    refine CallE.pure (CallK.intro c193 rfl (kids_ev w hwr) ?_)
    rcases hc with ⟨rfl, k1, hR⟩ | ⟨rfl, a, j, xa, la, ha, k1, k2, k3, k4, k5, k6, k7, hR⟩ | ⟨rfl, hk2, a, b, j, xa, xb, k1, k2, k3, k4, k5, k6, hR⟩
    · have d0 : decide (((0 : Nat) : Int) < kidsK w) = true := by rcases hwk with e | e <;> rw [e] <;> decide
      have d1 : decide ((0 : Int) < ((0 : Nat) : Int)) = false := by decide
      unfold nmR at hR
      simp only [d0, d1, evE, Nat.reduceLT, Nat.reduceEqDiff, reduceCtorEq]
      refine CallE.intro c191 _ (must_ev hL hS (by clear w1; omega) x7 x5 40 []) (fun r h4 hh => ?_) (fun v h' hh => ?_)
      rotate_left
      · obtain ⟨_, hh⟩ := hh; split at hh <;> cases hh.1
      obtain ⟨f4, hh⟩ := hh
      have F4 : Fr (IsI i) h h4 := x1.trans f4 fun k hk => .inl hk
      have l4 := f4.1
      by_cases hmk : mkA ts q = [40]
      rotate_left
      · rw [if_neg hmk] at hh
        obtain ⟨er, r4⟩ := hh
        cases er
        have er2 : pr ts (f + 1 + 1) .fs p = .bad q := by rw [hR]; exact if_pos hmk
        rw [er2]
        simp only [evE, Bool.not_false, Nat.reduceLT, Nat.reduceEqDiff, reduceCtorEq]
        exact ⟨F4, rfl, q, r4⟩
      rw [if_pos hmk] at hh
      obtain ⟨er, r4⟩ := hh
      cases er
      have hltq : q < ts.length := mkA_eq hmk
      have hn4 : Md.need ts (q + 1) (.bin 1) ≤ f := by clear w1; simp only [Md.need] at hn ⊢; omega
      simp only [evE, Bool.not_true, Nat.reduceLT, Nat.reduceEqDiff, reduceCtorEq]
      refine CallE.intro c62 _ ((H f (Nat.le_succ _)).bin 1 (by decide) (by decide) h4 i (q + 1) (by clear w1; omega) hltq hn4 r4) (fun r h5 hh => ?_) (fun v h' hh => hh.pan.elim)
      obtain ⟨f5, hh⟩ := hh
      have F5 : Fr (IsI i) h h5 := F4.trans f5 fun k hk => .inl hk
      have l5 := f5.1
      cases e : pr ts f (.bin 1) (q + 1) with
      | bad q' =>
        rw [e] at hh
        obtain ⟨er, p', r5⟩ := hh
        cases er
        have er2 : pr ts (f + 1 + 1) .fs p = .bad q' := by rw [hR]; rw [if_neg (fun h => h hmk), e]
        rw [er2]
        simp only [tyR, evE, Nat.reduceLT, Nat.reduceEqDiff, reduceCtorEq]
        exact ⟨F5, rfl, p', r5⟩
      | ok b q' =>
        rw [e] at hh
        obtain ⟨x, er, hT, r5⟩ := hh
        cases er
        obtain ⟨qx, rfl⟩ := hT.ptr
        obtain ⟨bx, hbx⟩ := TreeAt.blk hT
        obtain ⟨⟨g1, g2⟩, g3⟩ := pr_adv ts f (.bin 1) (q + 1) b q' hltq e
        have hXi : ¬ IsI i X := x3
        have er2 : pr ts (f + 1 + 1) .fs p = nm1 ts f w b q' := by rw [hR, if_neg (fun h => h hmk), e]
        have k1b : h5[X]? = some ⟨0, 190, tcs w [] 0 0 0 [] (.v (.slice none 0 0))⟩ := f5.at (f4.at k1 hXi) hXi
        simp only [tcs] at k1b
        have gX : ∀ l, (h5 ++ l)[X]? = some ⟨0, 190, [.v (.int .i64 w), .v (.string ⟨#[]⟩), .v (.int .i64 0), .v (.int .i64 0), .v (.float .f64 0), .v (.complex .f64 0 0), .v (.string ⟨#[]⟩), .v (.slice none 0 0)]⟩ := fun l => (List.getElem?_append_left (by clear w1; omega)).trans k1b
        have w2 : IntKind.i64.wrap (((0 : Nat) : Int) + 1) = ((1 : Nat) : Int) := (i64w (by decide) (by decide)).trans rfl
        have g2' : ∀ (x : ABlk) l, (h5 ++ x :: l)[h5.length]? = some x := fun x l => by simp
        simp only [tyR, hbx, k1b, gX, g2', w2, List.append_assoc, evE, Nat.reduceAdd, Nat.reduceLT, Nat.reduceLeDiff, Nat.reduceEqDiff, reduceCtorEq, List.reduceReplicate]
        have FX : ∀ l b, Fr (IsI i) h ((h5 ++ l).set X b) := fun l b => (F5.trans (Fr.app (S := NoB) h5 l) fun k hk => False.elim hk).trans (Fr.set (S := fun k => k = X) b rfl) fun k hk => .inr (by have hk : k = X := hk; clear w1 w2; omega)
        have tX : ∀ l b, TreeAt h4.length h5.length ((h5 ++ l).set X b) (.ptr qx 0 0) _ := fun l b => TreeAt.fr (Fr.set (S := fun k => k = X) b rfl) (Nat.le_refl _) (Nat.le_refl _) (fun k b hk _ => .inr (.inl (by have hk : k = X := hk; clear w1 w2; omega))) _ _ (hT.app l (Nat.le_refl _) (Nat.le_refl _))
        refine loopCE.intro ⟨1, q', _⟩ ⟨FX _ _, x2, x3, ?_, (List.getElem?_set_ne x3).trans (r5.app _), by show p < q'; clear w1 w2; omega, g3, .inr (.inl ⟨rfl, _, h5.length + 1, .ptr qx 0 0, h4.length, h5.length, List.getElem?_set_self ?_, (List.getElem?_set_ne ?_).trans (at_len1 ..), ?_, Nat.le_succ _, ?_, ?_, tX _ _, er2⟩)⟩ ⟨rfl, rfl, ⟨rfl, rfl, rfl, rfl, trivial⟩, rfl⟩ (by show 2 < 3; decide)
        · simp only [List.length_set, List.length_append, List.length_cons, List.length_nil]; clear w1 w2; omega
        · simp only [List.length_append, List.length_cons, List.length_nil]; clear w1 w2; omega
        · clear w1 w2; omega
        · clear w1 w2; omega
        · clear w1 w2; omega
        · simp only [List.length_set, List.length_append, List.length_cons, List.length_nil]; clear w1 w2; omega
    · have hR' := hR
      by_cases hk2 : kidsK w = 2
      · have d0 : decide (((1 : Nat) : Int) < kidsK w) = true := by rw [hk2]; decide
        have d1 : decide ((0 : Int) < ((1 : Nat) : Int)) = true := by decide
        unfold nm1 at hR
        rw [if_pos hk2] at hR
        simp only [d0, d1, evE, Nat.reduceSub, Nat.reduceLT, Nat.reduceEqDiff, reduceCtorEq]
        refine CallE.intro c191 _ (must_ev hL hS (by clear w1; omega) x7 x5 44 []) (fun r h4 hh => ?_) (fun v h' hh => ?_)
        rotate_left
        · obtain ⟨_, hh⟩ := hh; split at hh <;> cases hh.1
        obtain ⟨f4, hh⟩ := hh
        have F4 : Fr (IsI i) h h4 := x1.trans f4 fun k hk => .inl hk
        have l4 := f4.1
        by_cases hmk : mkA ts q = [44]
        rotate_left
        · rw [if_neg hmk] at hh
          obtain ⟨er, r4⟩ := hh
          cases er
          have er2 : pr ts (f + 1 + 1) .fs p = .bad q := by rw [hR]; exact if_pos hmk
          rw [er2]
          simp only [evE, Bool.not_false, Nat.reduceLT, Nat.reduceEqDiff, reduceCtorEq]
          exact ⟨F4, rfl, q, r4⟩
        rw [if_pos hmk] at hh
        obtain ⟨er, r4⟩ := hh
        cases er
        have hltq : q < ts.length := mkA_eq hmk
        have hn4 : Md.need ts (q + 1) (.bin 1) ≤ f := by clear w1; simp only [Md.need] at hn ⊢; omega
        simp only [evE, Bool.not_true, Nat.reduceLT, Nat.reduceEqDiff, reduceCtorEq]
        refine CallE.intro c62 _ ((H f (Nat.le_succ _)).bin 1 (by decide) (by decide) h4 i (q + 1) (by clear w1; omega) hltq hn4 r4) (fun r h5 hh => ?_) (fun v h' hh => hh.pan.elim)
        obtain ⟨f5, hh⟩ := hh
        have F5 : Fr (IsI i) h h5 := F4.trans f5 fun k hk => .inl hk
        have l5 := f5.1
        cases e : pr ts f (.bin 1) (q + 1) with
        | bad q' =>
          rw [e] at hh
          obtain ⟨er, p', r5⟩ := hh
          cases er
          have er2 : pr ts (f + 1 + 1) .fs p = .bad q' := by rw [hR]; rw [if_neg (fun h => h hmk), e]
          rw [er2]
          simp only [tyR, evE, Nat.reduceLT, Nat.reduceEqDiff, reduceCtorEq]
          exact ⟨F5, rfl, p', r5⟩
        | ok b q' =>
          rw [e] at hh
          obtain ⟨x, er, hT, r5⟩ := hh
          cases er
          obtain ⟨qx, rfl⟩ := hT.ptr
          obtain ⟨bx, hbx⟩ := TreeAt.blk hT
          obtain ⟨⟨g1, g2⟩, g3⟩ := pr_adv ts f (.bin 1) (q + 1) b q' hltq e
          have hXi : ¬ IsI i X := x3
          have er2 : pr ts (f + 1 + 1) .fs p = nm2 ts w a b q' := by rw [hR, if_neg (fun h => h hmk), e]
          have hji : j ≠ i := fun hj => by subst hj; rw [show hy'[j]? = _ from x5] at k2; cases k2
          have hjX : j ≠ X := fun hj => by subst hj; rw [k2] at k1; cases k1
          have k1b : h5[X]? = some ⟨0, 190, tcs w [] 0 0 0 [] (.own j 0 1)⟩ := f5.at (f4.at k1 hXi) hXi
          have k2b : h5[j]? = some ⟨0, 110, [xa]⟩ := f5.at (f4.at k2 hji) hji
          simp only [tcs] at k1b
          have gX : ∀ l, (h5 ++ l)[X]? = some ⟨0, 190, [.v (.int .i64 w), .v (.string ⟨#[]⟩), .v (.int .i64 0), .v (.int .i64 0), .v (.float .f64 0), .v (.complex .f64 0 0), .v (.string ⟨#[]⟩), .own j 0 1]⟩ := fun l => (List.getElem?_append_left (by clear w1; omega)).trans k1b
          have gj : ∀ l, (h5 ++ l)[j]? = some ⟨0, 110, [xa]⟩ := fun l => (List.getElem?_append_left (by clear w1; omega)).trans k2b
          have gjX : ∀ l b, ((h5 ++ l).set j b)[X]? = some ⟨0, 190, [.v (.int .i64 w), .v (.string ⟨#[]⟩), .v (.int .i64 0), .v (.int .i64 0), .v (.float .f64 0), .v (.complex .f64 0 0), .v (.string ⟨#[]⟩), .own j 0 1]⟩ := fun l b => (List.getElem?_set_ne hjX).trans (gX l)
          have g2' : ∀ (x : ABlk) l, (h5 ++ x :: l)[h5.length]? = some x := fun x l => by simp
          have w2 : IntKind.i64.wrap (((1 : Nat) : Int) + 1) = ((2 : Nat) : Int) := (i64w (by decide) (by decide)).trans rfl
          simp only [tyR, hbx, k1b, gj, gjX, g2', w2, evE, Nat.reduceAdd, Nat.reduceMul, Nat.reduceLT, Nat.reduceLeDiff, Nat.reduceEqDiff, reduceCtorEq, List.reduceReplicate]
          have hlA : ∀ l : List ABlk, h5.length ≤ (h5 ++ l).length := fun l => by simp
          have FX : ∀ l b c, Fr (IsI i) h (((h5 ++ l).set j b).set X c) := fun l b c => ((F5.trans (Fr.app (S := NoB) h5 l) fun k hk => False.elim hk).trans (Fr.set (S := fun k => k = j) b rfl) fun k hk => .inr (by have hk : k = j := hk; clear w1 w2; omega)).trans (Fr.set (S := fun k => k = X) c rfl) fun k hk => .inr (by have hk : k = X := hk; clear w1 w2; omega)
          have tX : ∀ (lo hi : Nat) (x : AV) (t : Tr) (l : List ABlk) (b c : ABlk), TreeAt lo hi h5 x t → X < lo → (hi ≤ j ∨ j < lo) → hi ≤ h5.length → TreeAt (X + 1) (((h5 ++ l).set j b).set X c).length (((h5 ++ l).set j b).set X c) x t := fun lo hi x t l b c hT g1 g2 g3 =>
            TreeAt.fr (Fr.set (S := fun k => k = X) c rfl) g1 (by rw [List.length_set, List.length_set]; exact Nat.le_trans g3 (hlA l)) (fun k b hk _ => .inr (.inl (by have hk : k = X := hk; clear w1 w2; omega))) _ _
              (TreeAt.fr (Fr.set (S := fun k => k = j) b rfl) (Nat.le_refl _) (Nat.le_refl _) (fun k b hk _ => .inr (by have hk : k = j := hk; clear w1 w2; omega)) _ _ (hT.app l (Nat.le_refl _) (Nat.le_refl _)))
          have hTa : TreeAt la ha h5 xa a := TreeAt.fr1 r4 f5 (Nat.le_refl _) (Nat.le_refl _) (TreeAt.fr1 x5 f4 (Nat.le_refl _) (Nat.le_refl _) k7)
          refine loopCE.intro ⟨2, q', _⟩ ⟨FX _ _ _, x2, x3, ?_, (List.getElem?_set_ne x3).trans ((List.getElem?_set_ne hji).trans (r5.app _)), by show p < q'; clear w1 w2; omega, g3, .inr (.inr ⟨rfl, hk2, a, _, j, xa, .ptr qx 0 0, List.getElem?_set_self ?_, (List.getElem?_set_ne (Ne.symm hjX)).trans (List.getElem?_set_self ?_), ?_, k5, tX _ _ _ _ _ _ _ hTa k3 (.inl k4) (by clear w1 w2; omega), tX _ _ _ _ _ _ _ hT (by clear w1 w2; omega) (.inr (by clear w1 w2; omega)) (Nat.le_refl _), er2⟩)⟩ ⟨rfl, rfl, ⟨rfl, rfl, rfl, rfl, trivial⟩, rfl⟩ (by show 1 < 2; decide)
          · simp only [List.length_set, List.length_append, List.length_cons, List.length_nil]; clear w1 w2; omega
          · simp only [List.length_set, List.length_append, List.length_cons, List.length_nil]; clear w1 w2; omega
          · simp only [List.length_append, List.length_cons, List.length_nil]; clear w1 w2; omega
          · simp only [List.length_set, List.length_append, List.length_cons, List.length_nil]; clear w1 w2; omega
      · have d0 : decide (((1 : Nat) : Int) < kidsK w) = false := by rw [hwk.resolve_right hk2]; decide
        unfold nm1 at hR
        rw [if_neg hk2] at hR
        simp only [d0, evE, Nat.reduceSub, Nat.reduceLT, Nat.reduceEqDiff, reduceCtorEq]
        refine CallE.intro c191 _ (must_ev hL hS (by clear w1; omega) x7 x5 41 []) (fun r h4 hh => ?_) (fun v h' hh => ?_)
        rotate_left
        · obtain ⟨_, hh⟩ := hh; split at hh <;> cases hh.1
        obtain ⟨f4, hh⟩ := hh
        have F4 : Fr (IsI i) h h4 := x1.trans f4 fun k hk => .inl hk
        have l4 := f4.1
        by_cases hm41 : mkA ts q = [41]
        · rw [if_pos hm41] at hh
          obtain ⟨er, r4⟩ := hh
          cases er
          rw [hR, if_pos hm41]
          simp only [evE, Bool.not_true, Nat.reduceLT, Nat.reduceEqDiff, reduceCtorEq]
          exact ⟨F4, _, rfl, ⟨by clear w1; omega, by clear w1; omega, j, 0, xa, k5, by clear w1; omega, f4.at k1 x3, f4.at k2 (fun hj => by have hj : j = i := hj; subst hj; rw [show hy'[j]? = _ from x5] at k2; cases k2), TreeAt.fr1 x5 f4 (by clear w1; omega) (by clear w1; omega) k7⟩, r4⟩
        · rw [if_neg hm41] at hh
          obtain ⟨er, r4⟩ := hh
          cases er
          rw [hR, if_neg hm41]
          simp only [evE, Bool.not_false, Nat.reduceLT, Nat.reduceEqDiff, reduceCtorEq]
          exact ⟨F4, rfl, q, r4⟩
    · have d0 : decide (((2 : Nat) : Int) < kidsK w) = false := by rw [hk2]; decide
      unfold nm2 at hR
      simp only [d0, evE, Nat.reduceSub, Nat.reduceLT, Nat.reduceEqDiff, reduceCtorEq]
      refine CallE.intro c191 _ (must_ev hL hS (by clear w1; omega) x7 x5 41 []) (fun r h4 hh => ?_) (fun v h' hh => ?_)
      rotate_left
      · obtain ⟨_, hh⟩ := hh; split at hh <;> cases hh.1
      obtain ⟨f4, hh⟩ := hh
      have F4 : Fr (IsI i) h h4 := x1.trans f4 fun k hk => .inl hk
      have l4 := f4.1
      by_cases hm41 : mkA ts q = [41]
      · rw [if_pos hm41] at hh
        obtain ⟨er, r4⟩ := hh
        cases er
        rw [hR, if_pos hm41]
        simp only [evE, Bool.not_true, Nat.reduceLT, Nat.reduceEqDiff, reduceCtorEq]
        exact ⟨F4, _, rfl, ⟨by clear w1; omega, by clear w1; omega, j, 1, xa, xb, k4, by clear w1; omega, f4.at k1 x3, f4.at k2 (fun hj => by have hj : j = i := hj; subst hj; rw [show hy'[j]? = _ from x5] at k2; cases k2), TreeAt.fr1 x5 f4 (by clear w1; omega) (by clear w1; omega) k5, TreeAt.fr1 x5 f4 (by clear w1; omega) (by clear w1; omega) k6⟩, r4⟩
      · rw [if_neg hm41] at hh
        obtain ⟨er, r4⟩ := hh
        cases er
        rw [hR, if_neg hm41]
        simp only [evE, Bool.not_false, Nat.reduceLT, Nat.reduceEqDiff, reduceCtorEq]
        exact ⟨F4, rfl, q, r4⟩
end Go.Proofs.YtlobiioioicmhaaGreatDoor
/- The document's reader of expressions: all, by fuel. -/
namespace Go.Proofs.YtlobiioioicmhaaGreatDoor
set_option linter.all false
open Go Go.Ev
set_option maxRecDepth 20000
variable {γ : List (Nat × AV)}
variable {sB : Tk → Bool} {all ts : List Tk} {from_ : Nat} {L : AV}
theorem ref_ok (hL : LAt L all) (hS : Stn γ sB all ts from_) : ∀ f, RefOk γ ts from_ L f := by
  intro f
  induction f using Nat.strongRecOn with
  | ind f ih =>
    cases f with
    | zero =>
      refine ⟨fun n h1 h6 h i p _ hp hf => ?_, fun h i p _ hp hf => ?_, fun h i p _ hp hf => ?_⟩ <;> simp only [Md.need] at hf <;> omega
    | succ f =>
      have H : ∀ g ≤ f, RefOk γ ts from_ L g := fun g hg => ih g (Nat.lt_succ_of_le hg)
      exact ⟨fun n h1 h6 => ref_bin hL hS H h1 h6, ref_un hL hS (H f (Nat.le_refl _)), ref_fs (ref_sev hL hS H)⟩
/-- Reading of level 1. -/
theorem reflev_ev (hL : LAt L all) (hS : Stn γ sB all ts from_) {h : List ABlk} {i p : Nat} (hf : from_ ≤ p) (hp : p ≤ ts.length) (hr : RT h i L p (-1)) :
    EvM Tryz.prog γ 62 [.ptr i 0 0, .v (.int .i64 1)] h (ResR L i h (readP ts p)) :=
  (ref_ok hL hS (16 * ts.length + 16)).bin 1 (by decide) (by decide) h i p hf hp (by simp only [Md.need]; omega) hr
end Go.Proofs.YtlobiioioicmhaaGreatDoor
/- The document's reader of expressions, walked: how large a tree is. -/
namespace Go.Proofs.YtlobiioioicmhaaGreatDoor
set_option linter.all false
open Go Go.Ev
set_option maxRecDepth 20000
variable {γ : List (Nat × AV)}
/-- Nodes and depth, as they are counted: counting stops above so many. -/
def szB (most : Nat) : Tr → Nat × Nat
  | .lf .. => (1, 1)
  | .un _ a => (1 + (szB most a).1, (szB most a).2 + 1)
  | .bi _ a b => if most < 1 + (szB most a).1 then (1 + (szB most a).1, (szB most a).2 + 1) else (1 + (szB most a).1 + (szB most b).1, max (szB most a).2 (szB most b).2 + 1)
theorem szB_le (most : Nat) (t : Tr) : (szB most t).1 ≤ t.size ∧ (szB most t).2 ≤ t.deep ∧ 1 ≤ (szB most t).2 := by
  induction t with
  | lf => exact ⟨Nat.le_refl _, Nat.le_refl _, Nat.le_refl _⟩
  | un k a ih => simp only [szB, Tr.size, Tr.deep]; omega
  | bi k a b iha ihb => simp only [szB, Tr.size, Tr.deep]; split <;> simp only <;> omega
theorem deep_le (t : Tr) : t.deep ≤ t.size := by
  induction t with
  | lf => exact Nat.le_refl _
  | un k a ih => simp only [Tr.size, Tr.deep]; omega
  | bi k a b iha ihb => simp only [Tr.size, Tr.deep]; omega
theorem szB_eq (most : Nat) (t : Tr) : ((szB most t).1 ≤ most → szB most t = (t.size, t.deep)) ∧ (most < (szB most t).1 → most < t.size) := by
  refine ⟨?_, fun h => by have := (szB_le most t).1; omega⟩
  induction t with
  | lf => intro _; rfl
  | un k a ih =>
    intro h
    simp only [szB] at h ⊢
    have := ih (by omega)
    rw [this]
    show ((1 + a.size, a.deep + 1) : Nat × Nat) = (a.size + 1, a.deep + 1)
    rw [Nat.add_comm]
  | bi k a b iha ihb =>
    intro h
    simp only [szB] at h ⊢
    split at h
    · rename_i h1; simp only at h; omega
    · rename_i h1
      rw [if_neg h1]
      simp only at h
      have ea := iha (by omega)
      have eb := ihb (by omega)
      rw [ea, eb]
      show ((1 + a.size + b.size, max a.deep b.deep + 1) : Nat × Nat) = (a.size + b.size + 1, max a.deep b.deep + 1)
      rw [show 1 + a.size + b.size = a.size + b.size + 1 by omega]
theorem c118 : bodyT Tryz.prog 118 := ⟨_, Tryz.func118, by kernel_rfl, by kernel_rfl⟩
theorem c63 : bodyT Tryz.prog 63 := ⟨_, Tryz.func63, by kernel_rfl, by kernel_rfl⟩
theorem c64 : bodyT Tryz.prog 64 := ⟨_, Tryz.func64, by kernel_rfl, by kernel_rfl⟩
def szS (γ : List (Nat × AV)) (x : AV) (most : Nat) (h : List ABlk) (y : Nat × Nat × Nat) : St := ⟨⟨47, [(0, x), (1, .v (.int .i64 (most : Int))), (6, .v (.int .i64 (y.2.1 : Int))), (7, .v (.int .i64 (y.2.2 : Int))), (8, .v (.int .i64 (y.1 : Int)))], γ⟩, h⟩
set_option maxHeartbeats 1000000 in
theorem size_ev (most : Nat) (hm : most < 4611686018427387904) : ∀ (t : Tr) (lo hi : Nat) (h : List ABlk) (x : AV), t.size < 4611686018427387904 → TreeAt lo hi h x t →
    EvM Tryz.prog γ 118 [x, .v (.int .i64 (most : Int))] h fun o h' => o = .ret (.tup [.v (.int .i64 ((szB most t).1 : Int)), .v (.int .i64 ((szB most t).2 : Int))]) ∧ h' = h := by
  intro t
  induction t with
  | lf k nm vk vi vr vt =>
    intro lo hi h x hsz hT
    obtain ⟨q, rfl⟩ := hT.ptr
    have hq := hT.2.2
    refine EvM.of Tryz.func118 rfl ?_
    simp only [Tryz.f118, evE, Nat.reduceAdd, Nat.reduceSub, Nat.reduceLT]
    refine LoopE.intro (szS γ (.ptr q 0 0) most h) (fun y => y = (0, 1, 0)) (fun y => 0) (0, 1, 0) ⟨rfl, rfl, ⟨rfl, rfl, rfl, rfl, rfl, trivial⟩, rfl⟩ rfl (fun y hy => ?_)
    subst hy
    have d0 : decide (((0 : Nat) : Int) < 0) = false := by decide
    have w1 : IntKind.i64.wrap (((0 : Nat) : Int) + 1) = ((1 : Nat) : Int) := (i64w (by decide) (by decide)).trans rfl
    simp only [szS, tyR, hq, d0, w1, szB, evE, Nat.reduceLT, Nat.reduceEqDiff, reduceCtorEq]
  | un k a ih =>
    intro lo hi h x hsz hT
    obtain ⟨q, rfl⟩ := hT.ptr
    obtain ⟨_, _, j, ver, xa, _, _, hq, hj, hTa⟩ := hT
    have hl := szB_le most a
    have hd := deep_le a
    simp only [Tr.size] at hsz
    have hc := ih lo hi h xa (by omega) hTa
    refine EvM.of Tryz.func118 rfl ?_
    simp only [Tryz.f118, evE, Nat.reduceAdd, Nat.reduceSub, Nat.reduceLT]
    refine LoopE.intro (szS γ (.ptr q 0 0) most h) (fun y => y = (0, 1, 0) ∨ (y = (1, 1 + (szB most a).1, (szB most a).2) ∧ 1 + (szB most a).1 ≤ most)) (fun y => 1 - y.1) (0, 1, 0) ⟨rfl, rfl, ⟨rfl, rfl, rfl, rfl, rfl, trivial⟩, rfl⟩ (.inl rfl) (fun y hy => ?_)
    have w9 : IntKind.i64.wrap (((szB most a).2 : Int) + 1) = (((szB most a).2 + 1 : Nat) : Int) := (i64w (by omega) (by omega)).trans (by omega)
    rcases hy with rfl | ⟨rfl, hle⟩
    · have d0 : decide (((0 : Nat) : Int) < 1) = true := by decide
      have d0' : decide (((0 : Nat) : Int) < ((1 : Nat) : Int)) = true := by decide
      have w0 : IntKind.i64.wrap (((0 : Nat) : Int) + 1) = ((1 : Nat) : Int) := (i64w (by decide) (by decide)).trans rfl
      have w1 : IntKind.i64.wrap (((1 : Nat) : Int) + ((szB most a).1 : Int)) = ((1 + (szB most a).1 : Nat) : Int) := (i64w (by omega) (by omega)).trans (by omega)
      have m1 : (if ((szB most a).2 : Int) > ((0 : Nat) : Int) then ((szB most a).2 : Int) else ((0 : Nat) : Int)) = ((szB most a).2 : Int) := if_pos (by clear w0 w1 w9; omega)
      have m2 : (if 0 < (szB most a).2 then ((szB most a).2 : Int) else ((0 : Nat) : Int)) = ((szB most a).2 : Int) := if_pos (by clear w0 w1 w9; omega)
      simp only [szS, tyR, hq, hj, evE, Nat.reduceLT, Nat.reduceEqDiff, reduceCtorEq]
      refine CallE.intro c118 _ hc (fun r h2 hh => ?_) (fun v h' hh => by cases hh.1)
      obtain ⟨e, rfl⟩ := hh
      cases e
      by_cases hb : most < 1 + (szB most a).1
      · have d1 : decide (most < 1 + (szB most a).1) = true := decide_eq_true hb
        simp only [szB, w1, m2, d1, w9, evE, Nat.reduceLT, Nat.reduceEqDiff, reduceCtorEq]
      · have d1 : decide (most < 1 + (szB most a).1) = false := decide_eq_false hb
        simp only [szB, w1, m2, d1, w0, evE, Nat.reduceLT, Nat.reduceEqDiff, reduceCtorEq]
        exact loopCE.intro (1, 1 + (szB most a).1, (szB most a).2) (.inr ⟨rfl, by clear w0 w1 w9; omega⟩) ⟨rfl, rfl, ⟨rfl, rfl, rfl, rfl, rfl, trivial⟩, rfl⟩ (by show 0 < 1; decide)
    · have d0 : decide (((1 : Nat) : Int) < 1) = false := by decide
      have d0' : decide (((1 : Nat) : Int) < ((1 : Nat) : Int)) = false := by decide
      simp only [szS, szB, tyR, hq, hj, w9, evE, Nat.reduceSub, Nat.reduceLT, Nat.reduceEqDiff, reduceCtorEq]
  | bi k a b iha ihb =>
    intro lo hi h x hsz hT
    obtain ⟨q, rfl⟩ := hT.ptr
    obtain ⟨_, _, j, ver, xa, xb, _, _, hq, hj, hTa, hTb⟩ := hT
    have hl := szB_le most a
    have hd := deep_le a
    have hl2 := szB_le most b
    have hd2 := deep_le b
    simp only [Tr.size] at hsz
    have hc := iha lo hi h xa (by omega) hTa
    have hc2 := ihb lo hi h xb (by omega) hTb
    refine EvM.of Tryz.func118 rfl ?_
    simp only [Tryz.f118, evE, Nat.reduceAdd, Nat.reduceSub, Nat.reduceLT]
    refine LoopE.intro (szS γ (.ptr q 0 0) most h) (fun y => y = (0, 1, 0) ∨ (y = (1, 1 + (szB most a).1, (szB most a).2) ∧ 1 + (szB most a).1 ≤ most) ∨ (y = (2, 1 + (szB most a).1 + (szB most b).1, max (szB most a).2 (szB most b).2) ∧ 1 + (szB most a).1 ≤ most)) (fun y => 2 - y.1) (0, 1, 0) ⟨rfl, rfl, ⟨rfl, rfl, rfl, rfl, rfl, trivial⟩, rfl⟩ (.inl rfl) (fun y hy => ?_)
    have w9 : IntKind.i64.wrap (((szB most a).2 : Int) + 1) = (((szB most a).2 + 1 : Nat) : Int) := (i64w (by omega) (by omega)).trans (by omega)
    have w8 : IntKind.i64.wrap (((max (szB most a).2 (szB most b).2 : Nat) : Int) + 1) = ((max (szB most a).2 (szB most b).2 + 1 : Nat) : Int) := (i64w (by clear w9; omega) (by clear w9; omega)).trans (by clear w9; omega)
    have z2 : ((2 : Nat) : Int) = 2 := rfl
    rcases hy with rfl | ⟨rfl, hle⟩ | ⟨rfl, hle⟩
    · have d0 : decide (((0 : Nat) : Int) < 2) = true := by decide
      have d0' : decide (((0 : Nat) : Int) < ((2 : Nat) : Int)) = true := by decide
      have w0 : IntKind.i64.wrap (((0 : Nat) : Int) + 1) = ((1 : Nat) : Int) := (i64w (by decide) (by decide)).trans rfl
      have w1 : IntKind.i64.wrap (((1 : Nat) : Int) + ((szB most a).1 : Int)) = ((1 + (szB most a).1 : Nat) : Int) := (i64w (by clear w9 w8 w0; omega) (by clear w9 w8 w0; omega)).trans (by clear w9 w8 w0; omega)
      have m1 : (if ((szB most a).2 : Int) > ((0 : Nat) : Int) then ((szB most a).2 : Int) else ((0 : Nat) : Int)) = ((szB most a).2 : Int) := if_pos (by clear w0 w1 w9 w8; omega)
      have m2 : (if 0 < (szB most a).2 then ((szB most a).2 : Int) else ((0 : Nat) : Int)) = ((szB most a).2 : Int) := if_pos (by clear w0 w1 w9 w8; omega)
      simp only [szS, tyR, hq, hj, evE, Nat.reduceLT, Nat.reduceEqDiff, reduceCtorEq]
      refine CallE.intro c118 _ hc (fun r h2 hh => ?_) (fun v h' hh => by cases hh.1)
      obtain ⟨e, rfl⟩ := hh
      cases e
      by_cases hb : most < 1 + (szB most a).1
      · have d1 : decide (most < 1 + (szB most a).1) = true := decide_eq_true hb
        simp only [szB, if_pos hb, w1, m2, d1, w9, evE, Nat.reduceLT, Nat.reduceEqDiff, reduceCtorEq]
      · have d1 : decide (most < 1 + (szB most a).1) = false := decide_eq_false hb
        simp only [w1, m2, d1, w0, evE, Nat.reduceLT, Nat.reduceEqDiff, reduceCtorEq]
        exact loopCE.intro (1, 1 + (szB most a).1, (szB most a).2) (.inr (.inl ⟨rfl, by clear w0 w1 w9 w8; omega⟩)) ⟨rfl, rfl, ⟨rfl, rfl, rfl, rfl, rfl, trivial⟩, rfl⟩ (by show 1 < 2; decide)
    · have d0 : decide (((1 : Nat) : Int) < 2) = true := by decide
      have d0' : decide (((1 : Nat) : Int) < ((2 : Nat) : Int)) = true := by decide
      have w0 : IntKind.i64.wrap (((1 : Nat) : Int) + 1) = ((2 : Nat) : Int) := (i64w (by decide) (by decide)).trans rfl
      have w1 : IntKind.i64.wrap (((1 + (szB most a).1 : Nat) : Int) + ((szB most b).1 : Int)) = ((1 + (szB most a).1 + (szB most b).1 : Nat) : Int) := (i64w (by clear w9 w8 w0; omega) (by clear w9 w8 w0; omega)).trans (by clear w9 w8 w0; omega)
      have m2 : (if (szB most a).2 < (szB most b).2 then ((szB most b).2 : Int) else ((szB most a).2 : Int)) = ((max (szB most a).2 (szB most b).2 : Nat) : Int) := by clear w0 w1 w9 w8; split <;> omega
      have hnb : ¬ most < 1 + (szB most a).1 := by clear w0 w1 w9 w8; omega
      simp only [szS, tyR, hq, hj, evE, Nat.reduceSub, Nat.reduceLT, Nat.reduceEqDiff, reduceCtorEq]
      refine CallE.intro c118 _ hc2 (fun r h2 hh => ?_) (fun v h' hh => by cases hh.1)
      obtain ⟨e, rfl⟩ := hh
      cases e
      by_cases hb : most < 1 + (szB most a).1 + (szB most b).1
      · have d1 : decide (most < 1 + (szB most a).1 + (szB most b).1) = true := decide_eq_true hb
        simp only [szB, if_neg hnb, w1, m2, d1, w8, evE, Nat.reduceLT, Nat.reduceEqDiff, reduceCtorEq]
      · have d1 : decide (most < 1 + (szB most a).1 + (szB most b).1) = false := decide_eq_false hb
        simp only [w1, m2, d1, w0, evE, Nat.reduceLT, Nat.reduceEqDiff, reduceCtorEq]
        exact loopCE.intro (2, 1 + (szB most a).1 + (szB most b).1, max (szB most a).2 (szB most b).2) (.inr (.inr ⟨rfl, hle⟩)) ⟨rfl, rfl, ⟨rfl, rfl, rfl, rfl, rfl, trivial⟩, rfl⟩ (by show 0 < 1; decide)
    · have d0 : decide (((2 : Nat) : Int) < 2) = false := by decide
      have d0' : decide (((2 : Nat) : Int) < ((2 : Nat) : Int)) = false := by decide
      have hnb : ¬ most < 1 + (szB most a).1 := by clear w9 w8; omega
      simp only [szS, szB, if_neg hnb, tyR, hq, hj, w8, evE, Nat.reduceSub, Nat.reduceLT, Nat.reduceEqDiff, reduceCtorEq]
theorem reflimits_ev {t : Tr} {lo hi : Nat} {h : List ABlk} {x : AV} (hsz : t.size < 4611686018427387904) (hT : TreeAt lo hi h x t) :
    EvM Tryz.prog γ 63 [x] h fun o h' => o = .ret (.v (.int .i64 (limK t.size t.deep))) ∧ h' = h := by
  have hc := size_ev (γ := γ) 1048576 (by decide) t lo hi h x hsz hT
  have hq := szB_eq 1048576 t
  have hle := szB_le 1048576 t
  have c0 : ((1048576 : Nat) : Int) = 1048576 := rfl
  rw [c0] at hc
  refine EvM.of Tryz.func63 rfl ?_
  simp only [Tryz.f63, evE, Nat.reduceAdd, Nat.reduceSub, Nat.reduceLT, Nat.reduceEqDiff, reduceCtorEq]
  refine CallE.intro c118 _ hc (fun r h2 hh => ?_) (fun v h' hh => by cases hh.1)
  obtain ⟨e, rfl⟩ := hh
  cases e
  unfold limK
  by_cases h64 : 64 < t.size
  · have d1 : decide ((64 : Int) < (((szB 1048576 t).1 : Nat) : Int)) = true := decide_eq_true (by
      by_cases hb : (szB 1048576 t).1 ≤ 1048576
      · rw [hq.1 hb]; omega
      · omega)
    rw [if_pos h64]
    simp only [d1, evE, Nat.reduceLT, Nat.reduceEqDiff, reduceCtorEq]
  · have hb : szB 1048576 t = (t.size, t.deep) := hq.1 (by omega)
    rw [hb, if_neg h64]
    have d1 : decide ((64 : Int) < ((t.size : Nat) : Int)) = false := decide_eq_false (by omega)
    by_cases h12 : 12 < t.deep
    · have d2 : decide ((12 : Int) < ((t.deep : Nat) : Int)) = true := decide_eq_true (by omega)
      rw [if_pos h12]
      simp only [d1, d2, evE, Nat.reduceLT, Nat.reduceEqDiff, reduceCtorEq]
    · have d2 : decide ((12 : Int) < ((t.deep : Nat) : Int)) = false := decide_eq_false (by omega)
      rw [if_neg h12]
      simp only [d1, d2, evE, Nat.reduceLT, Nat.reduceEqDiff, reduceCtorEq]
end Go.Proofs.YtlobiioioicmhaaGreatDoor
/- The document's reader of expressions, walked: a tree laid out. -/
namespace Go.Proofs.YtlobiioioicmhaaGreatDoor
set_option linter.all false
open Go Go.Ev
set_option maxRecDepth 20000
variable {γ : List (Nat × AV)}
/-- How laying out ends. -/
def LayP (N : AV) (h : List ABlk) (ms : List Nd) (o : Out) (h' : List ABlk) : Prop :=
  Fr (nbk N) h h' ∧ ∃ N', o = .ret N' ∧ NsAt h' N' ms ∧ ∀ k, nbk N' k → nbk N k ∨ h.length ≤ k
theorem NsAt.lt {h : List ABlk} {N : AV} {ns : List Nd} (a : NsAt h N ns) {k : Nat} (hk : nbk N k) : k < h.length := by
  rcases a with ⟨rfl, _⟩ | ⟨j, ver, rfl, hj⟩
  · exact hk.elim
  · have hk' : k = j := hk
    subst hk'
    exact (List.getElem?_eq_some_iff.1 hj).1
theorem NsAt.blk {h : List ABlk} {N : AV} {ns : List Nd} (a : NsAt h N ns) {k : Nat} (hk : nbk N k) {b : ABlk} (hb : h[k]? = some b) : b.e = 115 := by
  rcases a with ⟨rfl, _⟩ | ⟨j, ver, rfl, hj⟩
  · exact hk.elim
  · have hk' : k = j := hk
    subst hk'
    rw [hj] at hb; cases hb; rfl
theorem NsAt.own {h : List ABlk} {N : AV} {ns : List Nd} (a : NsAt h N ns) (hn : 0 < ns.length) : ∃ j ver, N = .own j ver ns.length ∧ h[j]? = some ⟨ver, 115, ndCells ns⟩ := by
  rcases a with ⟨_, rfl⟩ | a
  · exact absurd hn (by decide)
  · exact a
theorem NsAt.setO {h : List ABlk} {N : AV} {ns : List Nd} (a : NsAt h N ns) {X : Nat} {b : ABlk} (hX : ¬ nbk N X) : NsAt (h.set X b) N ns := a.fr (S := IsI X) (Fr.set b rfl) fun k hk e => hX (by have e : k = X := e; exact e ▸ hk)
structure LdY where
  k : Nat
  N : AV
  h : List ABlk
def ldS (γ : List (Nat × AV)) (x N : AV) (X k : Nat) (h : List ABlk) : St := ⟨⟨52, [(0, x), (1, N), (5, .ptr X 0 0), (6, .v (.int .i64 (k : Int)))], γ⟩, h⟩
set_option maxHeartbeats 1000000 in
theorem laid_ev : ∀ (t : Tr) (lo hi : Nat) (h : List ABlk) (x N : AV) (ns : List Nd), TreeAt lo hi h x t → NsAt h N ns → (ns.length + t.size) * 96 ≤ 140737488355328 →
    EvM Tryz.prog γ 64 [x, N] h (LayP N h (ns ++ lay t ns.length)) := by
  intro t
  induction t with
  | lf k nm vk vi vr vt =>
    intro lo hi h x N ns hT hN hB
    obtain ⟨q, rfl⟩ := hT.ptr
    have hq := hT.2.2
    have hqN : ¬ nbk N q := fun hk => by have := hN.blk hk hq; cases this
    have g1 : ∀ l, (h ++ l)[q]? = _ := fun l => (List.getElem?_append_left (List.getElem?_eq_some_iff.1 hq).1).trans hq
    have s1 : ∀ x, (h ++ [x])[h.length]? = some x := fun x => by simp
    have s2 : ∀ x y, (h ++ [x]).set h.length y = h ++ [y] := fun x y => by simp
    refine EvM.of Tryz.func64 rfl ?_
    simp only [Tryz.f64, evE, Nat.reduceAdd, Nat.reduceSub, Nat.reduceLT]
    refine DrawK.text (by kernel_rfl) (by kernel_rfl) ?_
    obtain ⟨X, hX⟩ : ∃ X, X = h.length := ⟨_, rfl⟩
    have qX : (h ++ [(⟨0, 115, Nd.cells ⟨k, 0, 0, nm, vk, vi, vr, vt⟩⟩ : ABlk)])[X]? = some ⟨0, 115, Nd.cells ⟨k, 0, 0, nm, vk, vi, vr, vt⟩⟩ := by rw [hX]; exact s1 _
    simp only [tyR, hq, s1, s2, evE, tyX, Nat.reduceAdd, Nat.reduceLT, Nat.reduceLeDiff, Nat.reduceEqDiff, reduceCtorEq]
    refine LoopE.intro (fun y => ldS γ (.ptr q 0 0) N X 0 (h ++ [⟨0, 115, Nd.cells ⟨k, 0, 0, nm, vk, vi, vr, vt⟩⟩])) (fun y : Unit => True) (fun y => 0) () ⟨rfl, rfl, ⟨rfl, rfl, by rw [hX]; rfl, rfl, trivial⟩, rfl⟩ trivial (fun y hy => ?_)
    have d0 : decide (((0 : Nat) : Int) < 0) = false := by decide
    have q1 := g1 [⟨0, 115, Nd.cells ⟨k, 0, 0, nm, vk, vi, vr, vt⟩⟩]
    obtain ⟨H1, hH1⟩ : ∃ H1, H1 = h ++ [(⟨0, 115, Nd.cells ⟨k, 0, 0, nm, vk, vi, vr, vt⟩⟩ : ABlk)] := ⟨_, rfl⟩
    rw [← hH1] at q1 qX ⊢
    have hN1 : NsAt H1 N ns := by rw [hH1]; exact hN.fr (S := NoB) (Fr.app h _) fun _ _ h => h
    have FF : Fr (nbk N) h H1 := by rw [hH1]; exact Fr.app h _
    simp only [ldS, tyR, q1, d0, evE, tyX, Nat.reduceLT, Nat.reduceEqDiff, reduceCtorEq]
    have hXN : ¬ nbk N X := fun hk => by have := hN.lt hk; omega
    rcases hN1 with ⟨rfl, en⟩ | ⟨j, ver, rfl, hj⟩
    · have hk1 : H1[X]? = _ := qX
      simp only [Nd.cells] at hk1
      have g1 : ∀ l, (H1 ++ l)[X]? = _ := fun l => (List.getElem?_append_left (List.getElem?_eq_some_iff.1 hk1).1).trans hk1
      have g2 : ∀ x l, (H1 ++ x :: l)[H1.length]? = some x := fun x l => by simp
      simp only [hk1, g2, List.append_assoc, evE, tyX, Nat.reduceAdd, Nat.reduceLT, Nat.reduceLeDiff, Nat.reduceEqDiff, reduceCtorEq, List.reduceReplicate]
      rw [(show lay (.lf k nm vk vi vr vt) ns.length = [⟨k, 0, 0, nm, vk, vi, vr, vt⟩] from rfl), en]
      refine ⟨FF.trans (S1 := NoB) (Fr.app H1 _) fun k hk => False.elim hk, _, rfl, .inr ⟨H1.length + 1, 0, rfl, by simp [ndCells, Nd.cells]⟩, fun k hk => .inr (by have hk : k = H1.length + 1 := hk; have := FF.1; omega)⟩
    · have hk1 : H1[X]? = _ := qX
      simp only [Nd.cells] at hk1
      have hjl := (List.getElem?_eq_some_iff.1 hj).1
      have g1 : ∀ l, (H1 ++ l)[X]? = _ := fun l => (List.getElem?_append_left (List.getElem?_eq_some_iff.1 hk1).1).trans hk1
      have g2 : ∀ x l, (H1 ++ x :: l)[H1.length]? = some x := fun x l => by simp
      have g3 : ∀ l, (H1 ++ l)[j]? = _ := fun l => (List.getElem?_append_left hjl).trans hj
      have q4 := ndCells_take ns
      have q5 := ndCells_length ns
      have q6 : ns.length * 9 ≤ (ndCells ns).length := by omega
      simp only [hk1, g2, g3, q4, q5, evE, tyX, Nat.reduceAdd, Nat.reduceLT, Nat.reduceLeDiff, Nat.reduceEqDiff, reduceCtorEq, List.reduceReplicate]
      refine ⟨⟨Nat.le_refl _, hB⟩, ?_⟩
      rw [(show lay (.lf k nm vk vi vr vt) ns.length = [⟨k, 0, 0, nm, vk, vi, vr, vt⟩] from rfl)]
      refine ⟨(FF.trans (S1 := NoB) (Fr.app H1 _) fun k hk => False.elim hk).trans (Fr.set (S := nbk (.own j ver ns.length)) _ rfl) fun k hk => .inl hk, _, rfl, .inr ⟨j, ver + 1, by rw [List.length_append]; rfl, ?_⟩, fun k hk => .inl hk⟩
      rw [List.getElem?_set_self (by rw [List.length_append]; omega), ndCells_app]; rfl
  | un k a ih =>
    intro lo hi h x N ns hT hN hB
    obtain ⟨q, rfl⟩ := hT.ptr
    obtain ⟨_, _, jk, vk, xa, _, _, hq, hjk, hTa⟩ := hT
    have hqN : ¬ nbk N q := fun hk => by have := hN.blk hk hq; cases this
    have hjkN : ¬ nbk N jk := fun hk => by have := hN.blk hk hjk; cases this
    have g1 : ∀ l, (h ++ l)[q]? = _ := fun l => (List.getElem?_append_left (List.getElem?_eq_some_iff.1 hq).1).trans hq
    have s1 : ∀ x, (h ++ [x])[h.length]? = some x := fun x => by simp
    have s2 : ∀ x y, (h ++ [x]).set h.length y = h ++ [y] := fun x y => by simp
    have hql := (List.getElem?_eq_some_iff.1 hq).1
    have hjkl := (List.getElem?_eq_some_iff.1 hjk).1
    refine EvM.of Tryz.func64 rfl ?_
    simp only [Tryz.f64, evE, Nat.reduceAdd, Nat.reduceSub, Nat.reduceLT]
    refine DrawK.text (by kernel_rfl) (by kernel_rfl) ?_
    obtain ⟨X, hX⟩ : ∃ X, X = h.length := ⟨_, rfl⟩
    simp only [tyR, hq, s1, s2, evE, tyX, Nat.reduceAdd, Nat.reduceLT, Nat.reduceLeDiff, Nat.reduceEqDiff, reduceCtorEq]
    have hsa := lay_length a ns.length
    have hpa := size_pos a
    simp only [Tr.size] at hB
    refine LoopE.intro (fun y => ldS γ (.ptr q 0 0) y.N X y.k y.h)
      (fun y : LdY => (y.k = 0 ∧ y.N = N ∧ y.h = h ++ [⟨0, 115, Nd.cells ⟨k, 0, 0, [], 0, 0, 0, []⟩⟩]) ∨
        (y.k = 1 ∧ Fr (nbk N) h y.h ∧ NsAt y.h y.N (ns ++ lay a ns.length) ∧ (∀ k, nbk y.N k → nbk N k ∨ h.length ≤ k) ∧ ¬ nbk y.N X ∧ y.h[X]? = some ⟨0, 115, Nd.cells ⟨k, ((ns.length + a.size - 1 : Nat) : Int), 0, [], 0, 0, 0, []⟩⟩))
      (fun y => 1 - y.k) ⟨0, N, _⟩ ⟨rfl, rfl, ⟨rfl, rfl, by rw [hX]; rfl, rfl, trivial⟩, rfl⟩ (.inl ⟨rfl, rfl, rfl⟩) (fun y hy => ?_)
    obtain ⟨yk, yN, yh⟩ := y
    rcases hy with ⟨e1, e2, e3⟩ | ⟨e1, FF, hN1, hnk, hXN1, hX1⟩
    · simp only at e1 e2 e3
      subst e1; subst e2
      have d0 : decide (((0 : Nat) : Int) < 1) = true := by decide
      have d0' : decide (((0 : Nat) : Int) < ((1 : Nat) : Int)) = true := by decide
      have z0 : (((0 : Nat) : Int) == 0) = true := rfl
      have w0 : IntKind.i64.wrap (((0 : Nat) : Int) + 1) = ((1 : Nat) : Int) := (i64w (by decide) (by decide)).trans rfl
      have q1 := g1 [⟨0, 115, Nd.cells ⟨k, 0, 0, [], 0, 0, 0, []⟩⟩]
      have qj : yh[jk]? = some ⟨vk, 110, [xa]⟩ := by rw [e3]; exact (List.getElem?_append_left hjkl).trans hjk
      have qX : yh[X]? = some ⟨0, 115, Nd.cells ⟨k, 0, 0, [], 0, 0, 0, []⟩⟩ := by rw [e3, hX]; exact s1 _
      have hXN : ¬ nbk yN X := fun hk => by have := hN.lt hk; omega
      have hNy : NsAt yh yN ns := by rw [e3]; exact hN.fr (S := NoB) (Fr.app h _) fun _ _ h => h
      have Fy : Fr (nbk yN) h yh := by rw [e3]; exact Fr.app h _
      have hyl : yh.length = h.length + 1 := by rw [e3]; simp
      have hTy : TreeAt lo hi yh xa a := by rw [e3]; exact hTa.app _ (Nat.le_refl _) (Nat.le_refl _)
      rw [← e3] at q1
      simp only [ldS, tyR, q1, qj, evE, Nat.reduceLT, Nat.reduceEqDiff, reduceCtorEq]
      refine CallE.intro c64 _ (ih lo hi yh xa yN ns hTy hNy (by omega)) (fun r h2 hh => ?_) (fun v h' hh => by obtain ⟨_, _, e, _⟩ := hh; cases e)
      obtain ⟨f2, N1, er, hN1, n1⟩ := hh
      cases er
      have hlen : (ns ++ lay a ns.length).length = ns.length + a.size := by rw [List.length_append, hsa]
      obtain ⟨j, ver, rfl, hj⟩ := hN1.own (by omega)
      have q2 : h2[X]? = some ⟨0, 115, Nd.cells ⟨k, 0, 0, [], 0, 0, 0, []⟩⟩ := f2.at qX hXN
      have hXj : ¬ nbk (.own j ver (ns ++ lay a ns.length).length) X := fun hk => (n1 X hk).elim hXN fun e => by omega
      have w1 : IntKind.i64.wrap (((ns.length + a.size : Nat) : Int) - 1) = ((ns.length + a.size - 1 : Nat) : Int) := (i64w (by omega) (by omega)).trans (by omega)
      simp only [Nd.cells] at q2
      rw [hlen] at *
      simp only [tyR, z0, hj, q2, w1, w0, evE, tyX, Nat.reduceAdd, Nat.reduceLT, Nat.reduceLeDiff, Nat.reduceEqDiff, reduceCtorEq]
      refine loopCE.intro ⟨1, .own j ver (ns.length + a.size), _⟩ (.inr ⟨rfl, ((Fy.trans f2 fun k hk => .inl hk).trans (Fr.set (S := IsI X) _ rfl) fun k hk => .inr (by have hk : k = X := hk; omega)), hN1.setO hXj, fun k hk => (n1 k hk).imp id fun e => by omega, hXj, List.getElem?_set_self (List.getElem?_eq_some_iff.1 q2).1⟩) ⟨rfl, rfl, ⟨rfl, rfl, rfl, rfl, trivial⟩, rfl⟩ (by show 0 < 1; decide)
    · simp only at e1 FF hN1 hnk hXN1 hX1
      subst e1
      have d0 : decide (((1 : Nat) : Int) < 1) = false := by decide
      have hqy : yh[q]? = _ := FF.at hq hqN
      have qjy : yh[jk]? = some ⟨vk, 110, [xa]⟩ := FF.at hjk hjkN
      have hlen : (ns ++ lay a ns.length).length = ns.length + a.size := by rw [List.length_append, hsa]
      have hXN : ¬ nbk yN X := hXN1
      obtain ⟨j, ver, eN, hj⟩ := hN1.own (by omega)
      subst eN
      have hk1 : yh[X]? = _ := hX1
      simp only [Nd.cells] at hk1
      have hjl := (List.getElem?_eq_some_iff.1 hj).1
      have g1 : ∀ l, (yh ++ l)[X]? = _ := fun l => (List.getElem?_append_left (List.getElem?_eq_some_iff.1 hk1).1).trans hk1
      have g2 : ∀ x l, (yh ++ x :: l)[yh.length]? = some x := fun x l => by simp
      have g3 : ∀ l, (yh ++ l)[j]? = _ := fun l => (List.getElem?_append_left hjl).trans hj
      have q4 := ndCells_take (ns ++ lay a ns.length)
      have q5 := ndCells_length (ns ++ lay a ns.length)
      have q6 : (ns ++ lay a ns.length).length * 9 ≤ (ndCells (ns ++ lay a ns.length)).length := by omega
      rw [hlen] at *
      simp only [ldS, tyR, hqy, qjy, hk1, g2, g3, q4, q5, evE, tyX, Nat.reduceAdd, Nat.reduceSub, Nat.reduceLT, Nat.reduceLeDiff, Nat.reduceEqDiff, reduceCtorEq, List.reduceReplicate]
      refine ⟨⟨Nat.le_refl _, (by omega)⟩, ?_⟩
      rw [show lay (.un k a) ns.length = lay a ns.length ++ [⟨k, ((ns.length + a.size - 1 : Nat) : Int), 0, [], 0, 0, 0, []⟩] from rfl]
      refine ⟨(FF.trans (S1 := NoB) (Fr.app yh _) fun k hk => False.elim hk).trans (Fr.set (S := IsI j) _ rfl) (fun k hk => hnk k hk), _, rfl, .inr ⟨j, ver + 1, by rw [show (ns ++ (lay a ns.length ++ [(⟨k, ((ns.length + a.size - 1 : Nat) : Int), 0, [], 0, 0, 0, []⟩ : Nd)])).length = ns.length + a.size + 1 by simp only [List.length_append, hsa, List.length_cons, List.length_nil]; omega], ?_⟩, (fun k hk => hnk k hk)⟩
      rw [List.getElem?_set_self (by rw [List.length_append]; omega)]
      simp only [ndCells_app, List.append_assoc]; rfl
  | bi k a b iha ihb =>
    intro lo hi h x N ns hT hN hB
    obtain ⟨q, rfl⟩ := hT.ptr
    obtain ⟨_, _, jk, vk, xa, xb, _, _, hq, hjk, hTa, hTb⟩ := hT
    have hqN : ¬ nbk N q := fun hk => by have := hN.blk hk hq; cases this
    have hjkN : ¬ nbk N jk := fun hk => by have := hN.blk hk hjk; cases this
    have g1 : ∀ l, (h ++ l)[q]? = _ := fun l => (List.getElem?_append_left (List.getElem?_eq_some_iff.1 hq).1).trans hq
    have s1 : ∀ x, (h ++ [x])[h.length]? = some x := fun x => by simp
    have s2 : ∀ x y, (h ++ [x]).set h.length y = h ++ [y] := fun x y => by simp
    have hql := (List.getElem?_eq_some_iff.1 hq).1
    have hjkl := (List.getElem?_eq_some_iff.1 hjk).1
    refine EvM.of Tryz.func64 rfl ?_
    simp only [Tryz.f64, evE, Nat.reduceAdd, Nat.reduceSub, Nat.reduceLT]
    refine DrawK.text (by kernel_rfl) (by kernel_rfl) ?_
    obtain ⟨X, hX⟩ : ∃ X, X = h.length := ⟨_, rfl⟩
    simp only [tyR, hq, s1, s2, evE, tyX, Nat.reduceAdd, Nat.reduceLT, Nat.reduceLeDiff, Nat.reduceEqDiff, reduceCtorEq]
    have hsa := lay_length a ns.length
    have hsb := lay_length b (ns.length + a.size)
    have hpa := size_pos a
    have hpb := size_pos b
    simp only [Tr.size] at hB
    have hbnd : (ns.length + a.size + b.size + 1) * 96 ≤ 140737488355328 := by rw [show ns.length + a.size + b.size + 1 = ns.length + (a.size + b.size + 1) by omega]; exact hB
    have hjlen : ∀ (l : List ABlk) (x : ABlk) (j : Nat), j < l.length → j < (l ++ [x]).length := fun l x j h => by rw [List.length_append]; exact Nat.lt_of_lt_of_le h (Nat.le_add_right _ _)
    refine LoopE.intro (fun y => ldS γ (.ptr q 0 0) y.N X y.k y.h)
      (fun y : LdY => (y.k = 0 ∧ y.N = N ∧ y.h = h ++ [⟨0, 115, Nd.cells ⟨k, 0, 0, [], 0, 0, 0, []⟩⟩]) ∨
        (y.k = 1 ∧ Fr (nbk N) h y.h ∧ NsAt y.h y.N (ns ++ lay a ns.length) ∧ (∀ k, nbk y.N k → nbk N k ∨ h.length ≤ k) ∧ ¬ nbk y.N X ∧ y.h[X]? = some ⟨0, 115, Nd.cells ⟨k, ((ns.length + a.size - 1 : Nat) : Int), 0, [], 0, 0, 0, []⟩⟩) ∨
        (y.k = 2 ∧ Fr (nbk N) h y.h ∧ NsAt y.h y.N (ns ++ (lay a ns.length ++ lay b (ns.length + a.size))) ∧ (∀ k, nbk y.N k → nbk N k ∨ h.length ≤ k) ∧ ¬ nbk y.N X ∧ y.h[X]? = some ⟨0, 115, Nd.cells ⟨k, ((ns.length + a.size - 1 : Nat) : Int), ((ns.length + a.size + b.size - 1 : Nat) : Int), [], 0, 0, 0, []⟩⟩))
      (fun y => 2 - y.k) ⟨0, N, _⟩ ⟨rfl, rfl, ⟨rfl, rfl, by rw [hX]; rfl, rfl, trivial⟩, rfl⟩ (.inl ⟨rfl, rfl, rfl⟩) (fun y hy => ?_)
    obtain ⟨yk, yN, yh⟩ := y
    have hlen : (ns ++ lay a ns.length).length = ns.length + a.size := by rw [List.length_append, hsa]
    have hlen2 : (ns ++ (lay a ns.length ++ lay b (ns.length + a.size))).length = ns.length + a.size + b.size := by simp only [List.length_append, hsa, hsb]; omega
    rcases hy with ⟨e1, e2, e3⟩ | ⟨e1, FF, hN1, hnk, hXN1, hX1⟩ | ⟨e1, FF, hN1, hnk, hXN1, hX1⟩
    · simp only at e1 e2 e3
      subst e1; subst e2
      have d0 : decide (((0 : Nat) : Int) < 2) = true := by decide
      have d0' : decide (((0 : Nat) : Int) < ((2 : Nat) : Int)) = true := by decide
      have z0 : (((0 : Nat) : Int) == 0) = true := rfl
      have w0 : IntKind.i64.wrap (((0 : Nat) : Int) + 1) = ((1 : Nat) : Int) := (i64w (by decide) (by decide)).trans rfl
      have q1 := g1 [⟨0, 115, Nd.cells ⟨k, 0, 0, [], 0, 0, 0, []⟩⟩]
      have qj : yh[jk]? = some ⟨vk, 110, [xa, xb]⟩ := by rw [e3]; exact (List.getElem?_append_left hjkl).trans hjk
      have qX : yh[X]? = some ⟨0, 115, Nd.cells ⟨k, 0, 0, [], 0, 0, 0, []⟩⟩ := by rw [e3, hX]; exact s1 _
      have hXN : ¬ nbk yN X := fun hk => by have := hN.lt hk; omega
      have hNy : NsAt yh yN ns := by rw [e3]; exact hN.fr (S := NoB) (Fr.app h _) fun _ _ h => h
      have Fy : Fr (nbk yN) h yh := by rw [e3]; exact Fr.app h _
      have hyl : yh.length = h.length + 1 := by rw [e3]; simp
      have hTy : TreeAt lo hi yh xa a := by rw [e3]; exact hTa.app _ (Nat.le_refl _) (Nat.le_refl _)
      rw [← e3] at q1
      simp only [ldS, tyR, q1, qj, evE, Nat.reduceLT, Nat.reduceEqDiff, reduceCtorEq]
      refine CallE.intro c64 _ (iha lo hi yh xa yN ns hTy hNy (by omega)) (fun r h2 hh => ?_) (fun v h' hh => by obtain ⟨_, _, e, _⟩ := hh; cases e)
      obtain ⟨f2, N1, er, hN1, n1⟩ := hh
      cases er
      obtain ⟨j, ver, rfl, hj⟩ := hN1.own (by omega)
      have q2 : h2[X]? = some ⟨0, 115, Nd.cells ⟨k, 0, 0, [], 0, 0, 0, []⟩⟩ := f2.at qX hXN
      have hXj : ¬ nbk (.own j ver (ns ++ lay a ns.length).length) X := fun hk => (n1 X hk).elim hXN fun e => by omega
      have w1 : IntKind.i64.wrap (((ns.length + a.size : Nat) : Int) - 1) = ((ns.length + a.size - 1 : Nat) : Int) := (i64w (by omega) (by omega)).trans (by omega)
      simp only [Nd.cells] at q2
      rw [hlen] at *
      simp only [tyR, z0, hj, q2, w1, w0, evE, tyX, Nat.reduceAdd, Nat.reduceLT, Nat.reduceLeDiff, Nat.reduceEqDiff, reduceCtorEq]
      refine loopCE.intro ⟨1, .own j ver (ns.length + a.size), _⟩ (.inr (.inl ⟨rfl, ((Fy.trans f2 fun k hk => .inl hk).trans (Fr.set (S := IsI X) _ rfl) fun k hk => .inr (by have hk : k = X := hk; omega)), hN1.setO hXj, fun k hk => (n1 k hk).imp id fun e => by omega, hXj, List.getElem?_set_self (List.getElem?_eq_some_iff.1 q2).1⟩)) ⟨rfl, rfl, ⟨rfl, rfl, rfl, rfl, trivial⟩, rfl⟩ (by show 1 < 2; decide)
    · simp only at e1 FF hN1 hnk hXN1 hX1
      subst e1
      have d0 : decide (((1 : Nat) : Int) < 2) = true := by decide
      have d0' : decide (((1 : Nat) : Int) < ((2 : Nat) : Int)) = true := by decide
      have z0 : (((1 : Nat) : Int) == 0) = false := rfl
      have w0 : IntKind.i64.wrap (((1 : Nat) : Int) + 1) = ((2 : Nat) : Int) := (i64w (by decide) (by decide)).trans rfl
      have hqy : yh[q]? = _ := FF.at hq hqN
      have hqj : yh[jk]? = some ⟨vk, 110, [xa, xb]⟩ := FF.at hjk hjkN
      have hTy : TreeAt lo hi yh xb b := TreeAt.fr FF (Nat.le_refl _) (Nat.le_refl _) (fun k bb hk hb => by have e := hN.blk hk hb; rw [e]; exact .inl ⟨by decide, by decide⟩) _ _ hTb
      simp only [ldS, tyR, hqy, hqj, evE, Nat.reduceSub, Nat.reduceLT, Nat.reduceEqDiff, reduceCtorEq]
      refine CallE.intro c64 _ (ihb lo hi yh xb yN (ns ++ lay a ns.length) hTy hN1 (by rw [hlen]; omega)) (fun r h2 hh => ?_) (fun v h' hh => by obtain ⟨_, _, e, _⟩ := hh; cases e)
      rw [hlen] at hh
      obtain ⟨f2, N1, er, hN2, n1⟩ := hh
      cases er
      rw [List.append_assoc] at hN2
      obtain ⟨j, ver, rfl, hj⟩ := hN2.own (by omega)
      have q2 : h2[X]? = some ⟨0, 115, Nd.cells ⟨k, ((ns.length + a.size - 1 : Nat) : Int), 0, [], 0, 0, 0, []⟩⟩ := f2.at hX1 hXN1
      have hXl := (List.getElem?_eq_some_iff.1 hX1).1
      have hXj : ¬ nbk (.own j ver (ns ++ (lay a ns.length ++ lay b (ns.length + a.size))).length) X := fun hk => (n1 X hk).elim hXN1 fun e => by omega
      have w1 : IntKind.i64.wrap (((ns.length + a.size + b.size : Nat) : Int) - 1) = ((ns.length + a.size + b.size - 1 : Nat) : Int) := (i64w (by omega) (by omega)).trans (by omega)
      simp only [Nd.cells] at q2
      rw [hlen2] at *
      simp only [z0, hj, q2, w1, w0, evE, tyX, Nat.reduceAdd, Nat.reduceLT, Nat.reduceLeDiff, Nat.reduceEqDiff, reduceCtorEq]
      refine loopCE.intro ⟨2, .own j ver (ns.length + a.size + b.size), _⟩ (.inr (.inr ⟨rfl, ((FF.trans f2 hnk).trans (Fr.set (S := IsI X) _ rfl) fun k hk => .inr (by have hk : k = X := hk; omega)), hN2.setO hXj, fun k hk => (n1 k hk).elim (hnk k) fun e => .inr (by have := FF.1; omega), hXj, List.getElem?_set_self (List.getElem?_eq_some_iff.1 q2).1⟩)) ⟨rfl, rfl, ⟨rfl, rfl, rfl, rfl, trivial⟩, rfl⟩ (by show 0 < 1; decide)
    · simp only at e1 FF hN1 hnk hXN1 hX1
      subst e1
      have d0 : decide (((2 : Nat) : Int) < 2) = false := by decide
      have hqy : yh[q]? = _ := FF.at hq hqN
      have hqj : yh[jk]? = some ⟨vk, 110, [xa, xb]⟩ := FF.at hjk hjkN
      have hXN : ¬ nbk yN X := hXN1
      obtain ⟨j, ver, eN, hj⟩ := hN1.own (by omega)
      subst eN
      have hk1 : yh[X]? = _ := hX1
      simp only [Nd.cells] at hk1
      have hjl := (List.getElem?_eq_some_iff.1 hj).1
      have g1 : ∀ l, (yh ++ l)[X]? = _ := fun l => (List.getElem?_append_left (List.getElem?_eq_some_iff.1 hk1).1).trans hk1
      have g2 : ∀ x l, (yh ++ x :: l)[yh.length]? = some x := fun x l => by simp
      have g3 : ∀ l, (yh ++ l)[j]? = _ := fun l => (List.getElem?_append_left hjl).trans hj
      have q4 := ndCells_take (ns ++ (lay a ns.length ++ lay b (ns.length + a.size)))
      have q5 := ndCells_length (ns ++ (lay a ns.length ++ lay b (ns.length + a.size)))
      have q6 : (ns ++ (lay a ns.length ++ lay b (ns.length + a.size))).length * 9 ≤ (ndCells (ns ++ (lay a ns.length ++ lay b (ns.length + a.size)))).length := by omega
      rw [hlen2] at *
      simp only [ldS, tyR, hqy, hqj, hk1, g2, g3, q4, q5, evE, tyX, Nat.reduceAdd, Nat.reduceSub, Nat.reduceLT, Nat.reduceLeDiff, Nat.reduceEqDiff, reduceCtorEq, List.reduceReplicate]
      refine ⟨⟨Nat.le_refl _, hbnd⟩, ?_⟩
      rw [show lay (.bi k a b) ns.length = lay a ns.length ++ lay b (ns.length + a.size) ++ [⟨k, ((ns.length + a.size - 1 : Nat) : Int), ((ns.length + a.size + b.size - 1 : Nat) : Int), [], 0, 0, 0, []⟩] from rfl]
      refine ⟨(FF.trans (S1 := NoB) (Fr.app yh _) fun k hk => False.elim hk).trans (Fr.set (S := IsI j) _ rfl) (fun k hk => hnk k hk), _, rfl, .inr ⟨j, ver + 1, by rw [show (ns ++ (lay a ns.length ++ lay b (ns.length + a.size) ++ [(⟨k, ((ns.length + a.size - 1 : Nat) : Int), ((ns.length + a.size + b.size - 1 : Nat) : Int), [], 0, 0, 0, []⟩ : Nd)])).length = ns.length + a.size + b.size + 1 by simp only [List.length_append, hsa, hsb, List.length_cons, List.length_nil]; omega], ?_⟩, (fun k hk => hnk k hk)⟩
      rw [List.getElem?_set_self (hjlen _ _ _ hjl)]
      simp only [ndCells_app, List.append_assoc]; rfl
end Go.Proofs.YtlobiioioicmhaaGreatDoor
