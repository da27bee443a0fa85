/- Contracts of the functions that the law reaches. -/
import Derived.Test.YtlobiioioicmhaaGreatDoorQ8
/- The law's look whether two expressions are the same, walked, of two that are. -/
namespace Go.Proofs.YtlobiioioicmhaaGreatDoor
set_option linter.all false
open Go Go.Ev
set_option maxRecDepth 20000
variable {γ : List (Nat × AV)}
theorem tyL : aggT Tryz.prog 115 = some true ∧
    aggT Tryz.prog 2 = some false ∧
    aggT Tryz.prog 22 = some false ∧
    aggT Tryz.prog 23 = some false ∧
    aggT Tryz.prog 25 = some true ∧
    aggT Tryz.prog 3 = some false ∧
    aggT Tryz.prog 39 = some false ∧
    aggT Tryz.prog 41 = some true ∧
    aggT Tryz.prog 5 = some false ∧
    aggT Tryz.prog 9 = some false ∧
    appT Tryz.prog 37 37 = some (5, 1, 1) ∧
    elemT Tryz.prog 37 = some 5 ∧
    elemT Tryz.prog 39 = some 115 ∧
    fieldT Tryz.prog 115 0 = some (0, 3) ∧
    fieldT Tryz.prog 115 1 = some (1, 3) ∧
    fieldT Tryz.prog 115 2 = some (2, 3) ∧
    fieldT Tryz.prog 115 3 = some (3, 9) ∧
    fieldT Tryz.prog 115 4 = some (4, 25) ∧
    fieldT Tryz.prog 25 0 = some (0, 3) ∧
    fieldT Tryz.prog 25 1 = some (1, 2) ∧
    fieldT Tryz.prog 25 2 = some (2, 22) ∧
    fieldT Tryz.prog 25 3 = some (3, 23) ∧
    fieldT Tryz.prog 25 4 = some (4, 9) ∧
    fieldT Tryz.prog 41 0 = some (0, 39) ∧
    fltT Tryz.prog 9 = none ∧
    intT Tryz.prog 5 = some .u8 ∧
    intT Tryz.prog 9 = none ∧
    mkT Tryz.prog 37 = some (5, 1, [.v (.int .u8 0)]) ∧
    sizeT Tryz.prog 115 = some 9 ∧
    sizeT Tryz.prog 2 = some 1 ∧
    sizeT Tryz.prog 22 = some 1 ∧
    sizeT Tryz.prog 23 = some 1 ∧
    sizeT Tryz.prog 25 = some 5 ∧
    sizeT Tryz.prog 3 = some 1 ∧
    sizeT Tryz.prog 39 = some 1 ∧
    sizeT Tryz.prog 41 = some 1 ∧
    sizeT Tryz.prog 5 = some 1 ∧
    sizeT Tryz.prog 9 = some 1 ∧
    strT Tryz.prog 37 = false ∧
    strT Tryz.prog 9 = true ∧
    (Tryz.prog.underlying 37).isSome = true ∧
    zcT Tryz.prog 115 = some [.v (.int .i64 0), .v (.int .i64 0), .v (.int .i64 0), .v (.string ⟨#[]⟩), .v (.int .i64 0), .v (.int .i64 0), .v (.float .f64 0), .v (.complex .f64 0 0), .v (.string ⟨#[]⟩)] ∧
    zcT Tryz.prog 25 = some [.v (.int .i64 0), .v (.int .i64 0), .v (.float .f64 0), .v (.complex .f64 0 0), .v (.string ⟨#[]⟩)] ∧
    zcT Tryz.prog 41 = some [.v (.slice none 0 0)] :=
  ⟨by kernel_rfl, by kernel_rfl, by kernel_rfl, by kernel_rfl, by kernel_rfl, by kernel_rfl, by kernel_rfl, by kernel_rfl, by kernel_rfl, by kernel_rfl, by kernel_rfl, by kernel_rfl, by kernel_rfl, by kernel_rfl, by kernel_rfl, by kernel_rfl, by kernel_rfl, by kernel_rfl, by kernel_rfl, by kernel_rfl, by kernel_rfl, by kernel_rfl, by kernel_rfl, by kernel_rfl, by kernel_rfl, by kernel_rfl, by kernel_rfl, by kernel_rfl, by kernel_rfl, by kernel_rfl, by kernel_rfl, by kernel_rfl, by kernel_rfl, by kernel_rfl, by kernel_rfl, by kernel_rfl, by kernel_rfl, by kernel_rfl, by kernel_rfl, by kernel_rfl, by kernel_rfl, by kernel_rfl, by kernel_rfl, by kernel_rfl⟩
theorem DrawK.via {P : Program} {ops : Array Oper} {Q : Post} {s : St} (F : St → Prop) (h : ∀ K : Post, (∀ s', F s' → K .normal s') → DrawK P ops K s) (h2 : ∀ s', F s' → Q .normal s') : DrawK P ops Q s := h Q h2
def Nd.valC (n : Nd) : List AV := [.v (.int .i64 n.vk), .v (.int .i64 n.vi), .v (.float .f64 n.vr), .v (.complex .f64 0 0), .v (.string ⟨n.vt.toArray⟩)]
def smS (γ : List (Nat × AV)) (ns : List Nd) (i : Nat) : St := ⟨⟨127, [(2, .ptr 0 0 0), (3, .ptr 1 0 0), (5, .v (.int .i64 (i : Int)))], γ⟩, [⟨0, 41, [nodesA ns]⟩, ⟨0, 41, [nodesA ns]⟩]⟩
theorem lenS39 (s : List ABlk) (ns : List Nd) : lenS Tryz.prog 39 s (nodesA ns) = some (.v (.int .i64 ns.length)) := by
  have e24 : elemT Tryz.prog 39 = some 115 := by kernel_rfl
  cases ns with
  | nil => simp only [nodesA, lenS, e24]; rfl
  | cons y T => simp only [nodesA, lenS, e24]; rfl
theorem one_nodes (ns : List Nd) : oneA (nodesA ns) = true := by cases ns <;> rfl
theorem nodesA_sl {ns : List Nd} {i : Nat} {nd : Nd} (h : ns[i]? = some nd) : nodesA ns = .sl false ns.length ns.length (ndCells ns) := by
  cases ns with
  | nil => cases h
  | cons x r => rfl
set_option maxHeartbeats 4000000 in
theorem lawSame_ev (ns : List Nd) (hb : ns.length < 4611686018427387904) : Ev Tryz.prog γ 23 [.agg [nodesA ns], .agg [nodesA ns]] (.v (.bool true)) := by
  have ll := fun s => lenS39 s ns
  have fo := one_nodes ns
  refine Ev.of Tryz.func23 rfl ?_
  have d1 : (((ns.length : Nat) : Int) != ((ns.length : Nat) : Int)) = false := by simp
  simp only [Tryz.f23, tyL, fo, ll, d1, evE, tyX, Nat.reduceAdd, Nat.reduceSub, Nat.reduceLT, Nat.reduceEqDiff, reduceCtorEq]
  refine LoopK.intro (smS γ ns) (fun i => i ≤ ns.length) (fun i => ns.length - i) 0 ⟨rfl, rfl, ⟨rfl, rfl, rfl, trivial⟩, .inl rfl⟩ (Nat.zero_le _) (fun i hi => ?_)
  by_cases hlt : i < ns.length
  · have d2 : decide (i < ns.length) = true := decide_eq_true hlt
    obtain ⟨nd, hnd⟩ : ∃ nd, ns[i]? = some nd := ⟨ns[i], by simp [hlt]⟩
    have eN := nodesA_sl hnd
    have h9 := ndCells_take9 hnd
    have h9l : 9 ≤ ((ndCells ns).drop (i * 9)).length := by rw [List.length_drop, ndCells_length]; omega
    have w1 : IntKind.i64.wrap ((i : Int) + 1) = ((i + 1 : Nat) : Int) := (i64w (by omega) (by omega)).trans (by omega)
    simp only [smS, tyL, ll, d2, evE, tyX, Nat.reduceLT, Nat.reduceEqDiff, reduceCtorEq]
    refine DrawK.via (fun s' => ∃ l0, s' = ⟨⟨127, l0, γ⟩, [⟨0, 41, [nodesA ns]⟩, ⟨0, 41, [nodesA ns]⟩, ⟨0, 115, nd.cells⟩, ⟨0, 115, nd.cells⟩]⟩ ∧ Go.Ev.look l0 2 = .ptr 0 0 0 ∧ Go.Ev.look l0 3 = .ptr 1 0 0 ∧ Go.Ev.look l0 5 = .v (.int .i64 (i : Int)) ∧ ((Go.Ev.look l0 6 = .ptr 2 0 0 ∧ Go.Ev.look l0 7 = .ptr 3 0 0) ∨ (Go.Ev.look l0 6 = .ptr 3 0 0 ∧ Go.Ev.look l0 7 = .ptr 2 0 0))) (fun K hK => ?_) (fun s' hs' => ?_)
    · refine DrawK.orders2 [[0, 1, 2, 3, 4, 5, 6, 7, 8, 9, 10, 11, 12, 13], [0, 1, 2, 3, 4, 5, 6, 7, 8, 9, 11, 10, 12, 13], [0, 1, 2, 3, 4, 10, 11, 12, 5, 6, 7, 8, 9, 13], [0, 1, 2, 3, 4, 5, 10, 11, 12, 6, 7, 8, 9, 13], [0, 1, 2, 3, 4, 5, 6, 10, 11, 12, 7, 8, 9, 13], [0, 1, 2, 3, 4, 5, 6, 7, 10, 11, 12, 8, 9, 13], [0, 1, 2, 3, 4, 5, 6, 7, 8, 10, 11, 12, 9, 13], [0, 1, 2, 3, 4, 11, 10, 12, 5, 6, 7, 8, 9, 13], [0, 1, 2, 3, 4, 5, 11, 10, 12, 6, 7, 8, 9, 13], [0, 1, 2, 3, 4, 5, 6, 11, 10, 12, 7, 8, 9, 13], [0, 1, 2, 3, 4, 5, 6, 7, 11, 10, 12, 8, 9, 13], [0, 1, 2, 3, 4, 5, 6, 7, 8, 11, 10, 12, 9, 13]] (by kernel_rfl) (by kernel_rfl) (by kernel_rfl) (fun p hp => ?_)
      simp only [List.mem_cons, List.not_mem_nil, or_false] at hp
      rcases hp with rfl | rfl | rfl | rfl | rfl | rfl | rfl | rfl | rfl | rfl | rfl | rfl
      all_goals simp only [seqT, List.getElem?_toArray, List.getElem?_cons_succ, List.getElem?_cons_zero, tyL, eN, h9, h9l, Nd.cells, evE, tyX, Nat.reduceAdd, Nat.reduceLT, Nat.reduceLeDiff, Nat.reduceEqDiff, reduceCtorEq]
      all_goals simp only [eN] at hK
      all_goals refine ⟨hlt, hlt, hK _ ⟨_, rfl, ?_⟩⟩
      all_goals simp only [evE, Nat.reduceEqDiff]
      all_goals trace_state
    · obtain ⟨l0, rfl, a2, a3, a5, hii⟩ := hs'
      refine DrawK.via (fun s' => ∃ l1 : List (Nat × AV), s' = ⟨⟨127, l1, γ⟩, [⟨0, 41, [nodesA ns]⟩, ⟨0, 41, [nodesA ns]⟩, ⟨0, 115, nd.cells⟩, ⟨0, 115, nd.cells⟩, ⟨0, 25, nd.valC⟩, ⟨0, 25, nd.valC⟩]⟩ ∧ Go.Ev.look l1 2 = .ptr 0 0 0 ∧ Go.Ev.look l1 3 = .ptr 1 0 0 ∧ Go.Ev.look l1 5 = .v (.int .i64 (i : Int)) ∧ ((Go.Ev.look l1 6 = .ptr 2 0 0 ∧ Go.Ev.look l1 7 = .ptr 3 0 0) ∨ (Go.Ev.look l1 6 = .ptr 3 0 0 ∧ Go.Ev.look l1 7 = .ptr 2 0 0)) ∧ ((Go.Ev.look l1 8 = .ptr 4 0 0 ∧ Go.Ev.look l1 9 = .ptr 5 0 0) ∨ (Go.Ev.look l1 8 = .ptr 5 0 0 ∧ Go.Ev.look l1 9 = .ptr 4 0 0))) (fun K hK => ?_) (fun s' hs' => ?_)
      · refine DrawK.orders2 [[0, 1, 2, 3, 4, 5, 6, 7], [0, 1, 2, 3, 5, 4, 6, 7], [0, 1, 4, 5, 6, 2, 3, 7], [0, 1, 2, 4, 5, 6, 3, 7], [0, 1, 5, 4, 6, 2, 3, 7], [0, 1, 2, 5, 4, 6, 3, 7]] (by kernel_rfl) (by kernel_rfl) (by kernel_rfl) (fun p hp => ?_)
        simp only [List.mem_cons, List.not_mem_nil, or_false] at hp
        rcases hp with rfl | rfl | rfl | rfl | rfl | rfl
        all_goals rcases hii with ⟨a6, a7⟩ | ⟨a6, a7⟩
        all_goals simp only [seqT, List.getElem?_toArray, List.getElem?_cons_succ, List.getElem?_cons_zero, tyL, a6, a7, Nd.cells, evE, tyX, Nat.reduceAdd, Nat.reduceLT, Nat.reduceLeDiff, Nat.reduceEqDiff, reduceCtorEq]
        all_goals refine hK _ ⟨_, rfl, ?_⟩
        all_goals simp only [a2, a3, a5, a6, a7, evE, Nat.reduceEqDiff]
        all_goals simp
      · obtain ⟨l1, rfl, c2, c3, c5, hii, hjj⟩ := hs'
        obtain ⟨i6, i7, a6, a7, hi6, hi7⟩ : ∃ i6 i7, Go.Ev.look l1 6 = .ptr i6 0 0 ∧ Go.Ev.look l1 7 = .ptr i7 0 0 ∧ (i6 = 2 ∨ i6 = 3) ∧ (i7 = 2 ∨ i7 = 3) := by
          rcases hii with h | h
          · exact ⟨2, 3, h.1, h.2, .inl rfl, .inr rfl⟩
          · exact ⟨3, 2, h.1, h.2, .inr rfl, .inl rfl⟩
        obtain ⟨i8, i9, a8, a9, hi8, hi9⟩ : ∃ i8 i9, Go.Ev.look l1 8 = .ptr i8 0 0 ∧ Go.Ev.look l1 9 = .ptr i9 0 0 ∧ (i8 = 4 ∨ i8 = 5) ∧ (i9 = 4 ∨ i9 = 5) := by
          rcases hjj with h | h
          · exact ⟨4, 5, h.1, h.2, .inl rfl, .inr rfl⟩
          · exact ⟨5, 4, h.1, h.2, .inr rfl, .inl rfl⟩
        clear hii hjj a2 a3 a5
        generalize eB : ([⟨0, 41, [nodesA ns]⟩, ⟨0, 41, [nodesA ns]⟩, ⟨0, 115, nd.cells⟩, ⟨0, 115, nd.cells⟩, ⟨0, 25, nd.valC⟩, ⟨0, 25, nd.valC⟩] : List ABlk) = B
        have b6 : B[i6]? = some ⟨0, 115, nd.cells⟩ := by rcases hi6 with rfl | rfl <;> (subst eB; rfl)
        have b7 : B[i7]? = some ⟨0, 115, nd.cells⟩ := by rcases hi7 with rfl | rfl <;> (subst eB; rfl)
        have b8 : B[i8]? = some ⟨0, 25, nd.valC⟩ := by rcases hi8 with rfl | rfl <;> (subst eB; rfl)
        have b9 : B[i9]? = some ⟨0, 25, nd.valC⟩ := by rcases hi9 with rfl | rfl <;> (subst eB; rfl)
        have b2 : B.take 2 = [⟨0, 41, [nodesA ns]⟩, ⟨0, 41, [nodesA ns]⟩] := by subst eB; rfl
        have hi' : i + 1 ≤ ns.length := hlt
        have hm' : ns.length - (i + 1) < ns.length - i := by omega
        clear hi6 hi7 hi8 hi9 hb ll fo d1 hi hlt d2 hnd eN h9 h9l
        have n1 : (nd.k != nd.k) = false := by simp
        have n2 : (nd.a != nd.a) = false := by simp
        have n3 : (nd.b != nd.b) = false := by simp
        have n4 : (nd.vk != nd.vk) = false := by simp
        have n5 : (nd.vi != nd.vi) = false := by simp
        have cz : cplEq 0 0 0 0 = true := by kernel_rfl
        cases hf : (FloatKind.f64.format.order nd.vr nd.vr == some Ordering.eq) with
        | true =>
          have n6 : (FloatKind.f64.format.order nd.vr nd.vr != some Ordering.eq) = false := by rw [bne, hf]; rfl
          simp only [List.append_eq, List.cons_append, List.nil_append, tyL, a6, a7, a8, a9, b6, b7, b8, b9, Nd.cells, Nd.valC, n1, n2, n3, n4, n5, n6, cz, c5, w1, evE, tyX, Bool.not_true, Nat.reduceLT, Nat.reduceEqDiff, reduceCtorEq]
          exact loopC.intro (i + 1) hi' ⟨rfl, rfl, ⟨by simp only [c2, evE, Nat.reduceEqDiff], by simp only [c3, evE, Nat.reduceEqDiff], rfl, trivial⟩, .inr ⟨b2.symm, rfl, by cases ns <;> rfl⟩⟩ hm'
        | false =>
          have n6 : (FloatKind.f64.format.order nd.vr nd.vr != some Ordering.eq) = true := by rw [bne, hf]; rfl
          simp only [List.append_eq, List.cons_append, List.nil_append, tyL, a6, a7, a8, a9, b6, b7, b8, b9, Nd.cells, Nd.valC, n1, n2, n3, n4, n5, n6, hf, cz, c5, w1, evE, tyX, Bool.not_true, Nat.reduceLT, Nat.reduceEqDiff, reduceCtorEq]
          exact loopC.intro (i + 1) hi' ⟨rfl, rfl, ⟨by simp only [c2, evE, Nat.reduceEqDiff], by simp only [c3, evE, Nat.reduceEqDiff], rfl, trivial⟩, .inr ⟨b2.symm, rfl, by cases ns <;> rfl⟩⟩ hm'
  · have d2 : decide (i < ns.length) = false := decide_eq_false hlt
    simp only [smS, tyL, ll, d2, evE, tyX, Nat.reduceLT, Nat.reduceEqDiff, reduceCtorEq]
end Go.Proofs.YtlobiioioicmhaaGreatDoor
/- The law's small functions: what is lent, and whether it was kept; walked. -/
namespace Go.Proofs.YtlobiioioicmhaaGreatDoor
set_option linter.all false
open Go Go.Ev
set_option maxRecDepth 20000
variable {γ : List (Nat × AV)}
theorem y5 : Tryz.prog.cellsOf 5 = 1 := by kernel_rfl
theorem y23 : bodyT Tryz.prog 23 := ⟨_, Tryz.func23, by kernel_rfl, by kernel_rfl⟩
theorem treeL_nodes (ns : List Nd) : treeL [.agg [nodesA ns], .agg [nodesA ns]] = true := by cases ns <;> rfl
end Go.Proofs.YtlobiioioicmhaaGreatDoor
