/- Contracts of the functions that the law reaches. -/
import Derived.Test.YtlobiioioicmhaaGreatDoorQ5
import Derived.Test.YtlobiioioicmhaaGreatDoorQ7
/- What the lexer tells can stand in an expression: the pure part. -/
namespace Go.Proofs.YtlobiioioicmhaaGreatDoor
set_option linter.all false
open Go Go.Ev
/-- The tokens of a text, if nothing is wrong. -/
def okToks (l : List UInt8) : Option (List (TokD × Nat)) := match (eachItems l).find? badI with
  | none => some ((eachItems l).map fun x => x.1)
  | some _ => none
/-- May it be a name? -/
def namedB (s : List UInt8) : Bool := match okToks s with
  | some [x] => x.1.kind == 1 && ((x.1.size : Int) == (s.length : Int))
  | _ => false
end Go.Proofs.YtlobiioioicmhaaGreatDoor
/- The document's small functions that tell whether a token can stand, walked. -/
namespace Go.Proofs.YtlobiioioicmhaaGreatDoor
set_option linter.all false
open Go Go.Ev
set_option maxRecDepth 20000
variable {γ : List (Nat × AV)}
theorem c284 : bodyT Tryz.prog 284 := ⟨_, Tryz.func284, by kernel_rfl, by kernel_rfl⟩
theorem c285 : bodyT Tryz.prog 285 := ⟨_, Tryz.func285, by kernel_rfl, by kernel_rfl⟩
theorem c41 : bodyT Tryz.prog 41 := ⟨_, Tryz.func41, by kernel_rfl, by kernel_rfl⟩
theorem lenS47 (s : List ABlk) (L : List (TokD × Nat)) : lenS Tryz.prog 47 s (listA L) = some (.v (.int .i64 L.length)) := by
  have e24 : elemT Tryz.prog 47 = some 54 := by kernel_rfl
  cases L with
  | nil => simp only [listA, lenS, e24]; rfl
  | cons y T => simp only [listA, lenS, e24]; rfl
theorem fzL_all (P : Program) (H : List ABlk) (b : Bool) : ∀ ys : List AV, (∀ y ∈ ys, ∃ v, y = AV.v v) → fzL P H b ys ys
  | [], _ => by simp only [fzL]
  | y :: ys, h => by
    obtain ⟨v, rfl⟩ := h y (List.mem_cons_self ..)
    simp only [fzL]
    exact ⟨_, _, rfl, by simp only [fz], fzL_all P H b ys fun z hz => h z (List.mem_cons_of_mem _ hz)⟩
theorem lend1 {P : Program} {H : List ABlk} {i n : Nat} {k : ABlk} {ys : List AV} (h : H[i]? = some k) (hp : ys <+: k.cells) (hv : ∀ y ∈ ys, ∃ v, y = AV.v v) : fzL P H true [.sl true n n ys] [.own i k.ver n] := by
  simp only [fzL, fz]
  exact ⟨_, _, rfl, .inr ⟨trivial, i, k, ys, rfl, h, Nat.le_refl _, .inl trivial, hp, fzL_all P H true ys hv⟩, rfl⟩
theorem bytes_v (l : List UInt8) : ∀ y ∈ l.map byteC, ∃ v, y = AV.v v := fun y hy => by obtain ⟨c, _, rfl⟩ := List.mem_map.1 hy; exact ⟨_, rfl⟩
theorem nds_v (l : List Nd) : ∀ y ∈ ndCells l, ∃ v, y = AV.v v := fun y hy => by
  obtain ⟨n, _, hn⟩ := List.mem_flatMap.1 hy
  simp only [Nd.cells, List.mem_cons, List.not_mem_nil, or_false] at hn
  rcases hn with rfl | rfl | rfl | rfl | rfl | rfl | rfl | rfl | rfl <;> exact ⟨_, rfl⟩
theorem noBor_list (L : List (TokD × Nat)) : noBor (listA L) = true := by
  cases L with
  | nil => rfl
  | cons x L =>
    show (!false && noBorL (listCells (x :: L))) = true
    generalize x :: L = L
    unfold listCells
    induction L with
    | nil => rfl
    | cons y L ih =>
      rw [List.map_cons, List.flatten_cons]
      show noBorL (tokCells y ++ _) = true
      simp only [tokCells, tvals, List.map_cons, List.map_nil, List.cons_append, List.nil_append, noBorL, noBor, Bool.true_and]
      simpa using ih
theorem rscan_okToks {l : List UInt8} {L : List (TokD × Nat)} (h : okToks l = some L) : rscanA l = .tup [listA L, .v (.int .i64 0), .v (.int .i64 0)] := by
  unfold okToks at h
  unfold rscanA
  cases e : (eachItems l).find? badI with
  | none => rw [e] at h; cases h; rfl
  | some x => rw [e] at h; cases h
theorem rscan_noToks {l : List UInt8} (h : okToks l = none) : ∃ (L : List (TokD × Nat)) (x : (TokD × Nat) × Int), (eachItems l).find? badI = some x ∧ x.2 ≠ 0 ∧ rscanA l = .tup [listA L, .v (.int .i64 x.1.2), .v (.int .i64 x.2)] := by
  unfold okToks at h
  unfold rscanA
  cases e : (eachItems l).find? badI with
  | none => rw [e] at h; cases h
  | some x => exact ⟨_, x, rfl, by simpa [badI] using List.find?_some e, rfl⟩
theorem noBor_rscan (l : List UInt8) : noBor (rscanA l) = true := by
  unfold rscanA
  split <;> simp only [noBor, noBorL, noBor_list, Bool.and_self]
set_option maxHeartbeats 1000000 in
theorem refNamed_ev (s : List UInt8) (hs : s.length ≤ 140737488351232) : Ev Tryz.prog γ 284 [.v (.string ⟨s.toArray⟩)] (.v (.bool (namedB s))) := by
  refine Ev.of Tryz.func284 rfl ?_
  simp only [Tryz.f284, tyR, evE, Nat.reduceAdd, Nat.reduceSub, Nat.reduceLT, Nat.reduceEqDiff, reduceCtorEq]
  refine ⟨by omega, CallK.lend c41 _ (lend1 (k := ⟨0, 5, s.map byteC⟩) rfl List.prefix_rfl (bytes_v s)) (refScan_ev true s hs) ?_ ?_⟩
  · exact noBor_rscan s
  cases e : okToks s with
  | none =>
    obtain ⟨L, x, _, hk, hr⟩ := rscan_noToks e
    have d1 : (x.2 == 0) = false := by simpa using hk
    have en : namedB s = false := by unfold namedB; rw [e]
    rw [hr, en]
    simp only [d1, evE, Nat.reduceLT, Nat.reduceEqDiff, reduceCtorEq]
  | some L =>
    rw [rscan_okToks e]
    have ll := lenS47 [⟨0, 5, s.map byteC⟩] L
    have z0 : ((0 : Int) == 0) = true := rfl
    simp only [ll, z0, evE, Nat.reduceLT, Nat.reduceEqDiff, reduceCtorEq]
    match L, e with
    | [], e =>
      have en : namedB s = false := by unfold namedB; rw [e]
      rw [en]
      have n0 : (((0 : Nat) : Int) == 1) = false := rfl
      simp only [n0, evE, Nat.reduceLT, Nat.reduceEqDiff, reduceCtorEq]
    | [x], e =>
      have en : namedB s = (x.1.kind == 1 && ((x.1.size : Int) == (s.length : Int))) := by unfold namedB; rw [e]
      rw [en]
      have n1 : (((1 : Nat) : Int) == 1) = true := rfl
      simp only [tyR, n1, listA, listCells, tokCells, tvals, evE, tyX, Nat.reduceAdd, Nat.reduceLT, Nat.reduceLeDiff, Nat.reduceEqDiff, reduceCtorEq, Int.reduceLE]
      by_cases hk : x.1.kind = 1
      · have d1 : (x.1.kind == 1) = true := by simpa using hk
        simp only [tyR, d1, evE, tyX, Nat.reduceLT, Nat.reduceLeDiff, Nat.reduceEqDiff, reduceCtorEq, Int.reduceLE]
        decide
      · have d1 : (x.1.kind == 1) = false := by simpa using hk
        simp only [d1, evE, Nat.reduceLT, Nat.reduceEqDiff, reduceCtorEq]
        exact ⟨by decide, rfl⟩
    | x :: y :: L, e =>
      have en : namedB s = false := by unfold namedB; rw [e]
      rw [en]
      have n2 : (((L.length + 1 + 1 : Nat) : Int) == 1) = false := by simp only [beq_eq_false_iff_ne, ne_eq]; omega
      simp only [n2, evE, Nat.reduceLT, Nat.reduceEqDiff, reduceCtorEq]
end Go.Proofs.YtlobiioioicmhaaGreatDoor
/- The document's Parse, walked. -/
namespace Go.Proofs.YtlobiioioicmhaaGreatDoor
set_option linter.all false
open Go Go.Ev
set_option maxRecDepth 20000
variable {γ : List (Nat × AV)}
def nodesA : List Nd → AV
  | [] => .v (.slice none 0 0)
  | ns => .sl false ns.length ns.length (ndCells ns)
theorem fz_nodes {P : Program} {H : List ABlk} {j ver : Nat} {ns : List Nd} (hj : H[j]? = some ⟨ver, 115, ndCells ns⟩) (hn : 0 < ns.length) : fz P H false (nodesA ns) (.own j ver ns.length) := by
  cases ns with
  | nil => exact absurd hn (by decide)
  | cons x r =>
    simp only [nodesA, fz]
    exact .inr ⟨trivial, j, _, _, rfl, hj, Nat.le_refl _, .inl trivial, List.prefix_rfl, fzL_all P H false _ (nds_v _)⟩
theorem ty41 : aggT Tryz.prog 41 = some true ∧ sizeT Tryz.prog 41 = some 1 := ⟨by kernel_rfl, by kernel_rfl⟩
end Go.Proofs.YtlobiioioicmhaaGreatDoor
/- The program's Parse, walked. -/
namespace Go.Proofs.YtlobiioioicmhaaGreatDoor
set_option linter.all false
open Go Go.Ev
set_option maxRecDepth 20000
variable {γ : List (Nat × AV)}
theorem c58 : bodyT Tryz.prog 58 := ⟨_, Tryz.func58, by kernel_rfl, by kernel_rfl⟩
theorem c61 : bodyT Tryz.prog 61 := ⟨_, Tryz.func61, by kernel_rfl, by kernel_rfl⟩
theorem lenS48 (s : List ABlk) (L : List (TokD × Nat)) : lenS Tryz.prog 48 s (listA L) = some (.v (.int .i64 L.length)) := by
  have e24 : elemT Tryz.prog 48 = some 53 := by kernel_rfl
  cases L with
  | nil => simp only [listA, lenS, e24]; rfl
  | cons y T => simp only [listA, lenS, e24]; rfl
theorem scan_okToks {l : List UInt8} {L : List (TokD × Nat)} (h : okToks l = some L) : scanA l = .tup [listA L, .v (.int .i64 0), .v (.int .i64 0)] := by
  unfold okToks at h
  unfold scanA scanAL
  cases e : (eachItems l).find? badI with
  | none => rw [e] at h; cases h; rfl
  | some x => rw [e] at h; cases h
theorem scan_noToks {l : List UInt8} (h : okToks l = none) : ∃ x, (eachItems l).find? badI = some x ∧ x.2 ≠ 0 ∧ scanA l = .tup [.v (.slice none 0 0), .v (.int .i64 x.1.2), .v (.int .i64 x.2)] := by
  unfold okToks at h
  unfold scanA scanAL
  cases e : (eachItems l).find? badI with
  | none => rw [e] at h; cases h
  | some x => exact ⟨x, rfl, by simpa [badI] using List.find?_some e, rfl⟩
end Go.Proofs.YtlobiioioicmhaaGreatDoor
