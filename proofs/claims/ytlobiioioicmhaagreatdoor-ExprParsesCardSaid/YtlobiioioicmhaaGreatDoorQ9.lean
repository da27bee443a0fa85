/- Contracts of the functions that the law reaches. -/
import Derived.Test.YtlobiioioicmhaaGreatDoorQ8
/- The law's look whether two expressions are the same, walked, of two that are. -/
namespace Go.Proofs.YtlobiioioicmhaaGreatDoor
set_option linter.all false
open Go Go.Ev
set_option maxRecDepth 20000
variable {γ : List (Nat × AV)}
theorem tyL : aggT Tryz.prog 115 = some true ∧
    aggT Tryz.prog 2 = some false ∧
    aggT Tryz.prog 22 = some false ∧
    aggT Tryz.prog 23 = some false ∧
    aggT Tryz.prog 25 = some true ∧
    aggT Tryz.prog 3 = some false ∧
    aggT Tryz.prog 39 = some false ∧
    aggT Tryz.prog 41 = some true ∧
    aggT Tryz.prog 5 = some false ∧
    aggT Tryz.prog 9 = some false ∧
    appT Tryz.prog 37 37 = some (5, 1, 1) ∧
    elemT Tryz.prog 37 = some 5 ∧
    elemT Tryz.prog 39 = some 115 ∧
    fieldT Tryz.prog 115 0 = some (0, 3) ∧
    fieldT Tryz.prog 115 1 = some (1, 3) ∧
    fieldT Tryz.prog 115 2 = some (2, 3) ∧
    fieldT Tryz.prog 115 3 = some (3, 9) ∧
    fieldT Tryz.prog 115 4 = some (4, 25) ∧
    fieldT Tryz.prog 25 0 = some (0, 3) ∧
    fieldT Tryz.prog 25 1 = some (1, 2) ∧
    fieldT Tryz.prog 25 2 = some (2, 22) ∧
    fieldT Tryz.prog 25 3 = some (3, 23) ∧
    fieldT Tryz.prog 25 4 = some (4, 9) ∧
    fieldT Tryz.prog 41 0 = some (0, 39) ∧
    fltT Tryz.prog 9 = none ∧
    intT Tryz.prog 5 = some .u8 ∧
    intT Tryz.prog 9 = none ∧
    mkT Tryz.prog 37 = some (5, 1, [.v (.int .u8 0)]) ∧
    sizeT Tryz.prog 115 = some 9 ∧
    sizeT Tryz.prog 2 = some 1 ∧
    sizeT Tryz.prog 22 = some 1 ∧
    sizeT Tryz.prog 23 = some 1 ∧
    sizeT Tryz.prog 25 = some 5 ∧
    sizeT Tryz.prog 3 = some 1 ∧
    sizeT Tryz.prog 39 = some 1 ∧
    sizeT Tryz.prog 41 = some 1 ∧
    sizeT Tryz.prog 5 = some 1 ∧
    sizeT Tryz.prog 9 = some 1 ∧
    strT Tryz.prog 37 = false ∧
    strT Tryz.prog 9 = true ∧
    (Tryz.prog.underlying 37).isSome = true ∧
    zcT Tryz.prog 115 = some [.v (.int .i64 0), .v (.int .i64 0), .v (.int .i64 0), .v (.string ⟨#[]⟩), .v (.int .i64 0), .v (.int .i64 0), .v (.float .f64 0), .v (.complex .f64 0 0), .v (.string ⟨#[]⟩)] ∧
    zcT Tryz.prog 25 = some [.v (.int .i64 0), .v (.int .i64 0), .v (.float .f64 0), .v (.complex .f64 0 0), .v (.string ⟨#[]⟩)] ∧
    zcT Tryz.prog 41 = some [.v (.slice none 0 0)] :=
  ⟨by kernel_rfl, by kernel_rfl, by kernel_rfl, by kernel_rfl, by kernel_rfl, by kernel_rfl, by kernel_rfl, by kernel_rfl, by kernel_rfl, by kernel_rfl, by kernel_rfl, by kernel_rfl, by kernel_rfl, by kernel_rfl, by kernel_rfl, by kernel_rfl, by kernel_rfl, by kernel_rfl, by kernel_rfl, by kernel_rfl, by kernel_rfl, by kernel_rfl, by kernel_rfl, by kernel_rfl, by kernel_rfl, by kernel_rfl, by kernel_rfl, by kernel_rfl, by kernel_rfl, by kernel_rfl, by kernel_rfl, by kernel_rfl, by kernel_rfl, by kernel_rfl, by kernel_rfl, by kernel_rfl, by kernel_rfl, by kernel_rfl, by kernel_rfl, by kernel_rfl, by kernel_rfl, by kernel_rfl, by kernel_rfl, by kernel_rfl⟩
theorem DrawK.via {P : Program} {ops : Array Oper} {Q : Post} {s : St} (F : St → Prop) (h : ∀ K : Post, (∀ s', F s' → K .normal s') → DrawK P ops K s) (h2 : ∀ s', F s' → Q .normal s') : DrawK P ops Q s := h Q h2
def Nd.valC (n : Nd) : List AV := [.v (.int .i64 n.vk), .v (.int .i64 n.vi), .v (.float .f64 n.vr), .v (.complex .f64 0 0), .v (.string ⟨n.vt.toArray⟩)]
def smS (γ : List (Nat × AV)) (ns : List Nd) (i : Nat) : St := ⟨⟨127, [(2, .ptr 0 0 0), (3, .ptr 1 0 0), (5, .v (.int .i64 (i : Int)))], γ⟩, [⟨0, 41, [nodesA ns]⟩, ⟨0, 41, [nodesA ns]⟩]⟩
theorem lenS39 (s : List ABlk) (ns : List Nd) : lenS Tryz.prog 39 s (nodesA ns) = some (.v (.int .i64 ns.length)) := by
  have e24 : elemT Tryz.prog 39 = some 115 := by kernel_rfl
  cases ns with
  | nil => simp only [nodesA, lenS, e24]; rfl
  | cons y T => simp only [nodesA, lenS, e24]; rfl
theorem one_nodes (ns : List Nd) : oneA (nodesA ns) = true := by cases ns <;> rfl
theorem nodesA_sl {ns : List Nd} {i : Nat} {nd : Nd} (h : ns[i]? = some nd) : nodesA ns = .sl false ns.length ns.length (ndCells ns) := by
  cases ns with
  | nil => cases h
  | cons x r => rfl
set_option maxHeartbeats 4000000 in
theorem lawSame_ev (ns : List Nd) (hb : ns.length < 4611686018427387904) : Ev Tryz.prog γ 23 [.agg [nodesA ns], .agg [nodesA ns]] (.v (.bool true)) := by
  have ll := fun s => lenS39 s ns
  have fo := one_nodes ns
  refine Ev.of Tryz.func23 rfl ?_
  have d1 : (((ns.length : Nat) : Int) != ((ns.length : Nat) : Int)) = false := by simp
  simp only [Tryz.f23, tyL, fo, ll, d1, evE, tyX, Nat.reduceAdd, Nat.reduceSub, Nat.reduceLT, Nat.reduceEqDiff, reduceCtorEq]
  refine LoopK.intro (smS γ ns) (fun i => i ≤ ns.length) (fun i => ns.length - i) 0 ⟨rfl, rfl, ⟨rfl, rfl, rfl, trivial⟩, .inl rfl⟩ (Nat.zero_le _) (fun i hi => ?_)
  by_cases hlt : i < ns.length
  · have d2 : decide (i < ns.length) = true := decide_eq_true hlt
    obtain ⟨nd, hnd⟩ : ∃ nd, ns[i]? = some nd := ⟨ns[i], by simp [hlt]⟩
    have eN := nodesA_sl hnd
    have h9 := ndCells_take9 hnd
    have h9l : 9 ≤ ((ndCells ns).drop (i * 9)).length := by rw [List.length_drop, ndCells_length]; omega
    have w1 : IntKind.i64.wrap ((i : Int) + 1) = ((i + 1 : Nat) : Int) := (i64w (by omega) (by omega)).trans (by omega)
    simp only [smS, tyL, ll, d2, evE, tyX, Nat.reduceLT, Nat.reduceEqDiff, reduceCtorEq]
    refine DrawK.via (fun s' => ∃ l0, s' = ⟨⟨127, l0, γ⟩, [⟨0, 41, [nodesA ns]⟩, ⟨0, 41, [nodesA ns]⟩, ⟨0, 115, nd.cells⟩, ⟨0, 115, nd.cells⟩]⟩ ∧ Go.Ev.look l0 2 = .ptr 0 0 0 ∧ Go.Ev.look l0 3 = .ptr 1 0 0 ∧ Go.Ev.look l0 5 = .v (.int .i64 (i : Int)) ∧ ((Go.Ev.look l0 6 = .ptr 2 0 0 ∧ Go.Ev.look l0 7 = .ptr 3 0 0) ∨ (Go.Ev.look l0 6 = .ptr 3 0 0 ∧ Go.Ev.look l0 7 = .ptr 2 0 0))) (fun K hK => ?_) (fun s' hs' => ?_)
    · refine DrawK.orders2 [[0, 1, 2, 3, 4, 5, 6, 7, 8, 9, 10, 11, 12, 13], [0, 1, 2, 3, 4, 5, 6, 7, 8, 9, 11, 10, 12, 13], [0, 1, 2, 3, 4, 10, 11, 12, 5, 6, 7, 8, 9, 13], [0, 1, 2, 3, 4, 5, 10, 11, 12, 6, 7, 8, 9, 13], [0, 1, 2, 3, 4, 5, 6, 10, 11, 12, 7, 8, 9, 13], [0, 1, 2, 3, 4, 5, 6, 7, 10, 11, 12, 8, 9, 13], [0, 1, 2, 3, 4, 5, 6, 7, 8, 10, 11, 12, 9, 13], [0, 1, 2, 3, 4, 11, 10, 12, 5, 6, 7, 8, 9, 13], [0, 1, 2, 3, 4, 5, 11, 10, 12, 6, 7, 8, 9, 13], [0, 1, 2, 3, 4, 5, 6, 11, 10, 12, 7, 8, 9, 13], [0, 1, 2, 3, 4, 5, 6, 7, 11, 10, 12, 8, 9, 13], [0, 1, 2, 3, 4, 5, 6, 7, 8, 11, 10, 12, 9, 13]] (by kernel_rfl) (by kernel_rfl) (by kernel_rfl) (fun p hp => ?_)
      simp only [List.mem_cons, List.not_mem_nil, or_false] at hp
      rcases hp with rfl | rfl | rfl | rfl | rfl | rfl | rfl | rfl | rfl | rfl | rfl | rfl
      all_goals simp only [seqT, List.getElem?_toArray, List.getElem?_cons_succ, List.getElem?_cons_zero, tyL, eN, h9, h9l, Nd.cells, evE, tyX, Nat.reduceAdd, Nat.reduceLT, Nat.reduceLeDiff, Nat.reduceEqDiff, reduceCtorEq]
      all_goals simp only [eN] at hK
      all_goals refine ⟨hlt, hlt, hK _ ⟨_, rfl, ?_⟩⟩
      all_goals simp only [evE, Nat.reduceEqDiff]
      all_goals trace_state
    · obtain ⟨l0, rfl, a2, a3, a5, hii⟩ := hs'
      refine DrawK.via (fun s' => ∃ l1 : List (Nat × AV), s' = ⟨⟨127, l1, γ⟩, [⟨0, 41, [nodesA ns]⟩, ⟨0, 41, [nodesA ns]⟩, ⟨0, 115, nd.cells⟩, ⟨0, 115, nd.cells⟩, ⟨0, 25, nd.valC⟩, ⟨0, 25, nd.valC⟩]⟩ ∧ Go.Ev.look l1 2 = .ptr 0 0 0 ∧ Go.Ev.look l1 3 = .ptr 1 0 0 ∧ Go.Ev.look l1 5 = .v (.int .i64 (i : Int)) ∧ ((Go.Ev.look l1 6 = .ptr 2 0 0 ∧ Go.Ev.look l1 7 = .ptr 3 0 0) ∨ (Go.Ev.look l1 6 = .ptr 3 0 0 ∧ Go.Ev.look l1 7 = .ptr 2 0 0)) ∧ ((Go.Ev.look l1 8 = .ptr 4 0 0 ∧ Go.Ev.look l1 9 = .ptr 5 0 0) ∨ (Go.Ev.look l1 8 = .ptr 5 0 0 ∧ Go.Ev.look l1 9 = .ptr 4 0 0))) (fun K hK => ?_) (fun s' hs' => ?_)
      · refine DrawK.orders2 [[0, 1, 2, 3, 4, 5, 6, 7], [0, 1, 2, 3, 5, 4, 6, 7], [0, 1, 4, 5, 6, 2, 3, 7], [0, 1, 2, 4, 5, 6, 3, 7], [0, 1, 5, 4, 6, 2, 3, 7], [0, 1, 2, 5, 4, 6, 3, 7]] (by kernel_rfl) (by kernel_rfl) (by kernel_rfl) (fun p hp => ?_)
        simp only [List.mem_cons, List.not_mem_nil, or_false] at hp
        rcases hp with rfl | rfl | rfl | rfl | rfl | rfl
        all_goals rcases hii with ⟨a6, a7⟩ | ⟨a6, a7⟩
        all_goals simp only [seqT, List.getElem?_toArray, List.getElem?_cons_succ, List.getElem?_cons_zero, tyL, a6, a7, Nd.cells, evE, tyX, Nat.reduceAdd, Nat.reduceLT, Nat.reduceLeDiff, Nat.reduceEqDiff, reduceCtorEq]
        all_goals refine hK _ ⟨_, rfl, ?_⟩
        all_goals simp only [a2, a3, a5, a6, a7, evE, Nat.reduceEqDiff]
        all_goals simp
      · obtain ⟨l1, rfl, c2, c3, c5, hii, hjj⟩ := hs'
        obtain ⟨i6, i7, a6, a7, hi6, hi7⟩ : ∃ i6 i7, Go.Ev.look l1 6 = .ptr i6 0 0 ∧ Go.Ev.look l1 7 = .ptr i7 0 0 ∧ (i6 = 2 ∨ i6 = 3) ∧ (i7 = 2 ∨ i7 = 3) := by
          rcases hii with h | h
          · exact ⟨2, 3, h.1, h.2, .inl rfl, .inr rfl⟩
          · exact ⟨3, 2, h.1, h.2, .inr rfl, .inl rfl⟩
        obtain ⟨i8, i9, a8, a9, hi8, hi9⟩ : ∃ i8 i9, Go.Ev.look l1 8 = .ptr i8 0 0 ∧ Go.Ev.look l1 9 = .ptr i9 0 0 ∧ (i8 = 4 ∨ i8 = 5) ∧ (i9 = 4 ∨ i9 = 5) := by
          rcases hjj with h | h
          · exact ⟨4, 5, h.1, h.2, .inl rfl, .inr rfl⟩
          · exact ⟨5, 4, h.1, h.2, .inr rfl, .inl rfl⟩
        clear hii hjj a2 a3 a5
        generalize eB : ([⟨0, 41, [nodesA ns]⟩, ⟨0, 41, [nodesA ns]⟩, ⟨0, 115, nd.cells⟩, ⟨0, 115, nd.cells⟩, ⟨0, 25, nd.valC⟩, ⟨0, 25, nd.valC⟩] : List ABlk) = B
        have b6 : B[i6]? = some ⟨0, 115, nd.cells⟩ := by rcases hi6 with rfl | rfl <;> (subst eB; rfl)
        have b7 : B[i7]? = some ⟨0, 115, nd.cells⟩ := by rcases hi7 with rfl | rfl <;> (subst eB; rfl)
        have b8 : B[i8]? = some ⟨0, 25, nd.valC⟩ := by rcases hi8 with rfl | rfl <;> (subst eB; rfl)
        have b9 : B[i9]? = some ⟨0, 25, nd.valC⟩ := by rcases hi9 with rfl | rfl <;> (subst eB; rfl)
        have b2 : B.take 2 = [⟨0, 41, [nodesA ns]⟩, ⟨0, 41, [nodesA ns]⟩] := by subst eB; rfl
        have hi' : i + 1 ≤ ns.length := hlt
        have hm' : ns.length - (i + 1) < ns.length - i := by omega
        clear hi6 hi7 hi8 hi9 hb ll fo d1 hi hlt d2 hnd eN h9 h9l
        have n1 : (nd.k != nd.k) = false := by simp
        have n2 : (nd.a != nd.a) = false := by simp
        have n3 : (nd.b != nd.b) = false := by simp
        have n4 : (nd.vk != nd.vk) = false := by simp
        have n5 : (nd.vi != nd.vi) = false := by simp
        have cz : cplEq 0 0 0 0 = true := by kernel_rfl
        cases hf : (FloatKind.f64.format.order nd.vr nd.vr == some Ordering.eq) with
        | true =>
          have n6 : (FloatKind.f64.format.order nd.vr nd.vr != some Ordering.eq) = false := by rw [bne, hf]; rfl
          simp only [List.append_eq, List.cons_append, List.nil_append, tyL, a6, a7, a8, a9, b6, b7, b8, b9, Nd.cells, Nd.valC, n1, n2, n3, n4, n5, n6, cz, c5, w1, evE, tyX, Bool.not_true, Nat.reduceLT, Nat.reduceEqDiff, reduceCtorEq]
          exact loopC.intro (i + 1) hi' ⟨rfl, rfl, ⟨by simp only [c2, evE, Nat.reduceEqDiff], by simp only [c3, evE, Nat.reduceEqDiff], rfl, trivial⟩, .inr ⟨b2.symm, rfl, by cases ns <;> rfl⟩⟩ hm'
        | false =>
          have n6 : (FloatKind.f64.format.order nd.vr nd.vr != some Ordering.eq) = true := by rw [bne, hf]; rfl
          simp only [List.append_eq, List.cons_append, List.nil_append, tyL, a6, a7, a8, a9, b6, b7, b8, b9, Nd.cells, Nd.valC, n1, n2, n3, n4, n5, n6, hf, cz, c5, w1, evE, tyX, Bool.not_true, Nat.reduceLT, Nat.reduceEqDiff, reduceCtorEq]
          exact loopC.intro (i + 1) hi' ⟨rfl, rfl, ⟨by simp only [c2, evE, Nat.reduceEqDiff], by simp only [c3, evE, Nat.reduceEqDiff], rfl, trivial⟩, .inr ⟨b2.symm, rfl, by cases ns <;> rfl⟩⟩ hm'
  · have d2 : decide (i < ns.length) = false := decide_eq_false hlt
    simp only [smS, tyL, ll, d2, evE, tyX, Nat.reduceLT, Nat.reduceEqDiff, reduceCtorEq]
end Go.Proofs.YtlobiioioicmhaaGreatDoor
/- The law's small functions: what is lent, and whether it was kept; walked. -/
namespace Go.Proofs.YtlobiioioicmhaaGreatDoor
set_option linter.all false
open Go Go.Ev
set_option maxRecDepth 20000
variable {γ : List (Nat × AV)}
theorem y5 : Tryz.prog.cellsOf 5 = 1 := by kernel_rfl
theorem y20 : bodyT Tryz.prog 20 := ⟨_, Tryz.func20, by kernel_rfl, by kernel_rfl⟩
theorem y21 : bodyT Tryz.prog 21 := ⟨_, Tryz.func21, by kernel_rfl, by kernel_rfl⟩
theorem y22 : bodyT Tryz.prog 22 := ⟨_, Tryz.func22, by kernel_rfl, by kernel_rfl⟩
theorem y23 : bodyT Tryz.prog 23 := ⟨_, Tryz.func23, by kernel_rfl, by kernel_rfl⟩
theorem y24 : bodyT Tryz.prog 24 := ⟨_, Tryz.func24, by kernel_rfl, by kernel_rfl⟩
theorem lent_ev (b : Bool) (l : List UInt8) (hl : l.length ≤ 140737488351232) :
    Ev Tryz.prog γ 20 [.sl b l.length l.length (l.map byteC)] (.sl false l.length (l.length + 2) ((l ++ [201, 202]).map byteC)) := by
  refine Ev.of Tryz.func20 rfl ?_
  by_cases h0 : l = []
  · subst h0
    simp only [Tryz.f20, evS, tyS, Nat.reduceAdd, Nat.reduceSub, Nat.reduceLT, Nat.reduceLeDiff, Nat.reduceEqDiff, reduceCtorEq, List.reduceReplicate]
    (repeat' (first | (with_reducible refine And.intro ?_ ?_) | ((first | refine GuardK.intro_f (fun h => ?_) (fun h => ?_) | refine GuardK.intro_t (fun h => ?_) (fun h => ?_) | refine CondK.intro (fun h => ?_) (fun h => ?_) | refine PickK.intro (fun h => ?_) (fun h => ?_)) <;> simp only [h, evS, tyS, Bool.not_true, Bool.not_false, Nat.reduceAdd, Nat.reduceSub, Nat.reduceMul, Nat.reduceLT, Nat.reduceLeDiff, Nat.reduceEqDiff, reduceCtorEq, List.reduceReplicate, Int.reduceToNat, Int.reduceLE, Int.reduceLT]) | (refine DrawK.intro (by kernel_rfl) (by kernel_rfl) ?_; simp only [evS, tyS, Bool.not_true, Bool.not_false, Nat.reduceAdd, Nat.reduceSub, Nat.reduceMul, Nat.reduceLT, Nat.reduceLeDiff, Nat.reduceEqDiff, reduceCtorEq, List.reduceReplicate, Int.reduceToNat, Int.reduceLE, Int.reduceLT])))
    all_goals first | (((try simp only [decide_eq_true_eq, decide_eq_false_iff_not, beq_iff_eq, bne_iff_ne, ne_eq, beq_eq_false_iff_ne, bne_eq_false_iff_eq] at *) <;> (try omega)); done) | rfl | skip
    exact fz_bytes (cells := [byteC 201, byteC 202]) (l := [201, 202]) rfl (by decide) y5 (by simp) (by simp)
  · have h1 : l.length ≠ 0 := by simpa using h0
    simp only [Tryz.f20, h1, evS, tyS, Nat.reduceAdd, Nat.reduceSub, Nat.reduceLT, Nat.reduceLeDiff, Nat.reduceEqDiff, reduceCtorEq, List.reduceReplicate]
    (repeat' (first | (with_reducible refine And.intro ?_ ?_) | ((first | refine GuardK.intro_f (fun h => ?_) (fun h => ?_) | refine GuardK.intro_t (fun h => ?_) (fun h => ?_) | refine CondK.intro (fun h => ?_) (fun h => ?_) | refine PickK.intro (fun h => ?_) (fun h => ?_)) <;> simp only [h, evS, tyS, Bool.not_true, Bool.not_false, Nat.reduceAdd, Nat.reduceSub, Nat.reduceMul, Nat.reduceLT, Nat.reduceLeDiff, Nat.reduceEqDiff, reduceCtorEq, List.reduceReplicate, Int.reduceToNat, Int.reduceLE, Int.reduceLT]) | (refine DrawK.intro (by kernel_rfl) (by kernel_rfl) ?_; simp only [evS, tyS, Bool.not_true, Bool.not_false, Nat.reduceAdd, Nat.reduceSub, Nat.reduceMul, Nat.reduceLT, Nat.reduceLeDiff, Nat.reduceEqDiff, reduceCtorEq, List.reduceReplicate, Int.reduceToNat, Int.reduceLE, Int.reduceLT])))
    all_goals first | (((try simp only [ne_eq] at *) <;> (try omega)); done) | rfl | exact all_one_map _ | skip
    refine fz_bytes rfl (by omega) y5 (by simp) (by simp [byteC])
theorem kept_ev (b c : Bool) (l : List UInt8) (hl : l.length ≤ 140737488351232) :
    Ev Tryz.prog γ 24 [.sl b l.length (l.length + 2) ((l ++ [201, 202]).map byteC), .sl c l.length l.length (l.map byteC)] (.v (.bool true)) := by
  refine Ev.of Tryz.func24 rfl ?_
  have e1 : IntKind.i64.wrap ((l.length : Int) + 2) = ((l.length + 2 : Nat) : Int) := by rw [i64w] <;> omega
  have e2 : IntKind.i64.wrap ((l.length : Int) + 1) = ((l.length + 1 : Nat) : Int) := by rw [i64w] <;> omega
  have e3 : List.take l.length ((l ++ [201, 202]).map byteC) = l.map byteC := by rw [← List.map_take, List.take_left']; rfl
  have e4 : (l ++ [201, 202]).getD l.length 0 = 201 := by simp [List.getD]
  have e5 : (l ++ [201, 202]).getD (l.length + 1) 0 = 202 := by simp [List.getD]
  simp only [Tryz.f24, e1, e3, e4, strOf_map, evS, tyS, Nat.reduceAdd, Nat.reduceSub, Nat.reduceLT, Nat.reduceLeDiff, Nat.reduceEqDiff, reduceCtorEq]
  (repeat' (first | (with_reducible refine And.intro ?_ ?_) | ((first | refine GuardK.intro_f (fun h => ?_) (fun h => ?_) | refine GuardK.intro_t (fun h => ?_) (fun h => ?_) | refine CondK.intro (fun h => ?_) (fun h => ?_) | refine PickK.intro (fun h => ?_) (fun h => ?_)) <;> simp only [h, evS, tyS, Nat.reduceAdd, Nat.reduceLT, Nat.reduceEqDiff, reduceCtorEq]) | (refine DrawK.intro (by kernel_rfl) (by kernel_rfl) ?_; simp only [evS, tyS, Bool.not_true, Bool.not_false, Nat.reduceAdd, Nat.reduceSub, Nat.reduceMul, Nat.reduceLT, Nat.reduceLeDiff, Nat.reduceEqDiff, reduceCtorEq, List.reduceReplicate, Int.reduceToNat, Int.reduceLE, Int.reduceLT])))
  all_goals first
    | omega
    | trivial
    | (simp only [e2, Int.toNat_natCast, e5]; first | rfl | omega)
    | (simp only [e2]; omega)
    | (exfalso; revert h; simp [e4]; done)
    | (exfalso; revert h; simp; done)
    | trace_state
def LentP (l : List UInt8) (o : Out) (h' : List ABlk) : Prop := ∃ j ver, o = .ret (.own j ver l.length) ∧ h'[j]? = some ⟨ver, 5, (l ++ [201, 202]).map byteC⟩
theorem lentM_ev (b : Bool) (l : List UInt8) (hl : l.length ≤ 140737488351232) :
    EvM Tryz.prog γ 20 [.sl b l.length l.length (l.map byteC)] [] (LentP l) := by
  refine EvM.of Tryz.func20 rfl ?_
  by_cases h0 : l = []
  · subst h0
    simp only [Tryz.f20, tyL, evE, Nat.reduceAdd, Nat.reduceSub, Nat.reduceLT, Nat.reduceLeDiff, Nat.reduceEqDiff, reduceCtorEq, List.reduceReplicate]
    (repeat' (first | (with_reducible refine And.intro ?_ ?_) | ((first | refine GuardK.intro_f (fun h => ?_) (fun h => ?_) | refine GuardK.intro_t (fun h => ?_) (fun h => ?_) | refine CondK.intro (fun h => ?_) (fun h => ?_) | refine PickK.intro (fun h => ?_) (fun h => ?_)) <;> simp only [h, tyL, evE, tyX, Bool.not_true, Bool.not_false, Nat.reduceAdd, Nat.reduceSub, Nat.reduceMul, Nat.reduceLT, Nat.reduceLeDiff, Nat.reduceEqDiff, reduceCtorEq, List.reduceReplicate, Int.reduceToNat, Int.reduceLE, Int.reduceLT]) | (refine DrawK.intro (by kernel_rfl) (by kernel_rfl) ?_; simp only [tyL, evE, tyX, Bool.not_true, Bool.not_false, Nat.reduceAdd, Nat.reduceSub, Nat.reduceMul, Nat.reduceLT, Nat.reduceLeDiff, Nat.reduceEqDiff, reduceCtorEq, List.reduceReplicate, Int.reduceToNat, Int.reduceLE, Int.reduceLT])))
    exact ⟨1, 0, rfl, rfl⟩
  · have h1 : l.length ≠ 0 := by simpa using h0
    simp only [Tryz.f20, tyL, h1, evE, Nat.reduceAdd, Nat.reduceSub, Nat.reduceLT, Nat.reduceLeDiff, Nat.reduceEqDiff, reduceCtorEq, List.reduceReplicate]
    (repeat' (first | (with_reducible refine And.intro ?_ ?_) | ((first | refine GuardK.intro_f (fun h => ?_) (fun h => ?_) | refine GuardK.intro_t (fun h => ?_) (fun h => ?_) | refine CondK.intro (fun h => ?_) (fun h => ?_) | refine PickK.intro (fun h => ?_) (fun h => ?_)) <;> simp only [h, tyL, evE, tyX, Bool.not_true, Bool.not_false, Nat.reduceAdd, Nat.reduceSub, Nat.reduceMul, Nat.reduceLT, Nat.reduceLeDiff, Nat.reduceEqDiff, reduceCtorEq, List.reduceReplicate, Int.reduceToNat, Int.reduceLE, Int.reduceLT]) | (refine DrawK.intro (by kernel_rfl) (by kernel_rfl) ?_; simp only [tyL, evE, tyX, Bool.not_true, Bool.not_false, Nat.reduceAdd, Nat.reduceSub, Nat.reduceMul, Nat.reduceLT, Nat.reduceLeDiff, Nat.reduceEqDiff, reduceCtorEq, List.reduceReplicate, Int.reduceToNat, Int.reduceLE, Int.reduceLT])))
    all_goals first | omega | exact all_one_map _ | exact ⟨0, 1, rfl, by rw [List.map_append]; rfl⟩
theorem lentM_nil : EvM Tryz.prog γ 20 [.v (.slice none 0 0)] [] (LentP []) := by
  refine EvM.of Tryz.func20 rfl ?_
  simp only [Tryz.f20, tyL, evE, Nat.reduceAdd, Nat.reduceSub, Nat.reduceLT, Nat.reduceLeDiff, Nat.reduceEqDiff, reduceCtorEq, List.reduceReplicate, Int.reduceLE]
  (repeat' (first | (with_reducible refine And.intro ?_ ?_) | ((first | refine GuardK.intro_f (fun h => ?_) (fun h => ?_) | refine GuardK.intro_t (fun h => ?_) (fun h => ?_) | refine CondK.intro (fun h => ?_) (fun h => ?_) | refine PickK.intro (fun h => ?_) (fun h => ?_)) <;> simp only [h, tyL, evE, tyX, Bool.not_true, Bool.not_false, Nat.reduceAdd, Nat.reduceSub, Nat.reduceMul, Nat.reduceLT, Nat.reduceLeDiff, Nat.reduceEqDiff, reduceCtorEq, List.reduceReplicate, Int.reduceToNat, Int.reduceLE, Int.reduceLT]) | (refine DrawK.intro (by kernel_rfl) (by kernel_rfl) ?_; simp only [tyL, evE, tyX, Bool.not_true, Bool.not_false, Nat.reduceAdd, Nat.reduceSub, Nat.reduceMul, Nat.reduceLT, Nat.reduceLeDiff, Nat.reduceEqDiff, reduceCtorEq, List.reduceReplicate, Int.reduceToNat, Int.reduceLE, Int.reduceLT])))
  exact ⟨1, 0, rfl, rfl⟩
theorem noBorL_v : ∀ ys : List AV, (∀ y ∈ ys, ∃ v, y = AV.v v) → noBorL ys = true
  | [], _ => by simp only [noBorL]
  | y :: ys, h => by
    obtain ⟨v, rfl⟩ := h y (List.mem_cons_self ..)
    simp only [noBorL, noBor, Bool.true_and]
    exact noBorL_v ys fun z hz => h z (List.mem_cons_of_mem _ hz)
theorem noBor_nodes (ns : List Nd) : noBor (nodesA ns) = true := by
  cases ns with
  | nil => rfl
  | cons x r => simp only [nodesA, noBor, Bool.not_false, Bool.true_and]; exact noBorL_v _ (nds_v _)
theorem noBor_parse (l : List UInt8) : noBor (parseA l) = true := by
  unfold parseA
  simp only [noBor, noBorL, noBor_nodes, Bool.and_true]
theorem treeL_nodes (ns : List Nd) : treeL [.agg [nodesA ns], .agg [nodesA ns]] = true := by cases ns <;> rfl
theorem parse_len (l : List UInt8) : (parseO l).1.length ≤ 32769 := by
  unfold parseO
  cases e : okToks l with
  | none =>
    show (match (eachItems l).find? badI with
      | some x => (([], x.1.2, x.2) : List Nd × Int × Int)
      | none => ([], 0, 0)).1.length ≤ 32769
    split <;> simp
  | some L =>
    have hts := small_toks e
    have hml : (L.map tkOf).length = L.length := List.length_map ..
    show (match readP (L.map tkOf) 0 with
      | .bad q => (([], placeO L l.length q, 50) : List Nd × Int × Int)
      | .ok t q => if q < L.length then ([], placeO L l.length q, 50) else if limK t.size t.deep = 0 then (lay t 0, 0, 0) else ([], placeO L l.length 0, limK t.size t.deep)).1.length ≤ 32769
    cases er : readP (L.map tkOf) 0 with
    | bad q => simp
    | ok t q =>
      have hadv := pr_adv _ _ _ _ _ _ (Nat.zero_le _) er
      obtain ⟨⟨g1, g2⟩, g3⟩ := hadv
      rw [hml] at g3
      show (if q < L.length then (([], placeO L l.length q, 50) : List Nd × Int × Int) else if limK t.size t.deep = 0 then (lay t 0, 0, 0) else ([], placeO L l.length 0, limK t.size t.deep)).1.length ≤ 32769
      split
      · simp
      · split
        · show (lay t 0).length ≤ _
          rw [lay_length]; omega
        · simp
end Go.Proofs.YtlobiioioicmhaaGreatDoor
/- The law ExprParses, walked. -/
namespace Go.Proofs.YtlobiioioicmhaaGreatDoor
set_option linter.all false
open Go Go.Ev
set_option maxRecDepth 20000
variable {γ : List (Nat × AV)}
theorem lend2 {P : Program} {H : List ABlk} {i n m : Nat} {k : ABlk} {ys zs zs' : List AV} (h : H[i]? = some k) (hp : ys <+: k.cells) (hm : n ≤ m) (hc : m = n ∨ (0 < P.cellsOf k.e ∧ m * P.cellsOf k.e ≤ k.cells.length)) (hv : ∀ y ∈ ys, ∃ v, y = AV.v v) (hz : fzL P H true zs zs') : fzL P H true (.sl true n m ys :: zs) (.own i k.ver n :: zs') := by
  simp only [fzL]
  refine ⟨_, _, rfl, ?_, hz⟩
  simp only [fz]
  exact .inr ⟨trivial, i, k, ys, rfl, h, hm, hc, hp, fzL_all P H true ys hv⟩
theorem fz_sl {P : Program} {H : List ABlk} {b : Bool} {n m : Nat} {ys : List AV} : fzL P H true [.sl b n m ys] [.sl b n m ys] := by
  simp only [fzL]
  exact ⟨_, _, rfl, by simp only [fz]; exact .inl trivial, rfl⟩
theorem Ev_weaken {P : Program} {γ : List (Nat × AV)} {f : FuncId} {xs ys : List AV} {r : AV} (h : ∀ (c : Cx) (us : List Value), relL xs c us → relL ys c us) (hev : Ev P γ f ys r) : Ev P γ f xs r :=
  fun G B w vs hG hγ hr => hev G B w vs hG hγ (h _ _ hr)
theorem rel_cutSl {b : Bool} {n m m' k : Nat} {cs : List AV} {c : Cx} {u : Value} (h1 : n ≤ m') (h2 : m' ≤ m) (h : rel (.sl b n m cs) c u) : rel (.sl b n m' (cs.take k)) c u := by
  simp only [rel] at h ⊢
  obtain ⟨r, off, cap, e, g1, g2, g3, g4⟩ := h
  exact ⟨r, off, cap, e, h1, by omega, g3, relAt_take g4 k⟩
theorem Ev_cut2 {P : Program} {γ : List (Nat × AV)} {f : FuncId} {x : AV} {b : Bool} {L M : List UInt8} {m : Nat} {r : AV} (hm : L.length ≤ m) (h : Ev P γ f [x, .sl b L.length L.length (L.map byteC)] r) : Ev P γ f [x, .sl b L.length m ((L ++ M).map byteC)] r := by
  refine Ev_weaken (fun c us hr => ?_) h
  have e : L.map byteC = ((L ++ M).map byteC).take L.length := by rw [← List.map_take, List.take_left' rfl]
  simp only [relL] at hr ⊢
  obtain ⟨u, us', e1, h1, v, us2, e2, h2, e3⟩ := hr
  exact ⟨u, us', e1, h1, v, us2, e2, by rw [e]; exact rel_cutSl (Nat.le_refl _) hm h2, e3⟩
theorem noBor_bytes (n m : Nat) (l : List UInt8) : noBor (.sl false n m (l.map byteC)) = true := by
  simp only [noBor, Bool.not_false, Bool.true_and]; exact noBorL_v _ (bytes_v _)
def exS (γ : List (Nat × AV)) (j ver n : Nat) (a : Nat × List UInt8 × List ABlk) : St := ⟨⟨90, [(3, .own j ver n), (4, .v (.int .i64 (a.1 : Int)))], γ⟩, a.2.2⟩
def exI (γ : List (Nat × AV)) (j ver n i p : Nat) (a : Nat × List UInt8 × List ABlk) : St := ⟨⟨90, [(3, .own j ver n), (4, .v (.int .i64 (i : Int))), (6, .ptr p 0 0), (9, .ptr (p + 1) 0 0), (12, .v (.int .i64 (a.1 : Int)))], γ⟩, a.2.2⟩
set_option maxHeartbeats 4000000 in
theorem exprParses_ev (hγ : Gl γ) (hγ2 : GlW γ) (x : AV) (l : List UInt8) (hl : l.length ≤ 140737488351232) (hx : EvM Tryz.prog γ 20 [x] [] (LentP l)) : Ev Tryz.prog γ 4 [x] (.v (.bool true)) := by
  refine Ev.ofE Tryz.func4 rfl ?_
  simp only [Tryz.f4, evE, Nat.reduceAdd, Nat.reduceSub, Nat.reduceLT, Nat.reduceEqDiff, reduceCtorEq]
  refine CallE.intro y20 _ hx (fun r h1 hh => ?_) (fun v h' hh => ?_)
  rotate_left
  · obtain ⟨_, _, hh, _⟩ := hh; cases hh
  obtain ⟨j, ver, e, hj⟩ := hh
  cases e
  simp only [evE, Nat.reduceLT, Nat.reduceEqDiff, reduceCtorEq]
  generalize hln : l.length = n at hl
  refine LoopE.intro (exS γ j ver n) (fun a => a.1 ≤ 2 ∧ a.2.1.length = n ∧ a.2.2[j]? = some ⟨ver, 5, (a.2.1 ++ [201, 202]).map byteC⟩) (fun a => 2 - a.1) (0, l, h1) ⟨rfl, rfl, ⟨rfl, rfl, trivial⟩, rfl⟩ ⟨Nat.zero_le _, hln, hj⟩ (fun a ha => ?_)
  clear hj hx hln
  obtain ⟨i, l1, h⟩ := a
  obtain ⟨hi, hn, hj⟩ := ha
  simp only at hi hn hj
  subst hn
  by_cases hlt : i < 2
  · have d2 : decide ((i : Int) < 2) = true := decide_eq_true (by omega)
    have hpre : l1.map byteC <+: (l1 ++ [201, 202]).map byteC := by rw [List.map_append]; exact List.prefix_append _ _
    have hjl : j < h.length := (List.getElem?_eq_some_iff.1 hj).1
    have d3 : ∀ z : Int, (z != z) = false := fun z => by simp
    have g1 : ∀ l, (h ++ l)[j]? = some ⟨ver, 5, (l1 ++ [201, 202]).map byteC⟩ := fun l => (List.getElem?_append_left hjl).trans hj
    have g2 : ∀ (x : ABlk) l, (h ++ x :: l)[h.length]? = some x := fun x l => by simp
    have g3 : ∀ (x y : ABlk) l, (h ++ x :: y :: l)[h.length + 1]? = some y := fun x y l => by simp
    have g4 : ∀ (x y : ABlk), (h ++ [x]).set h.length y = h ++ [y] := fun x y => by simp
    have g5 : ∀ (a x y : ABlk), (h ++ [a, x]).set (h.length + 1) y = h ++ [a, y] := fun a x y => by simp
    simp only [exS, d2, evE, Nat.reduceLT, Nat.reduceEqDiff, reduceCtorEq]
    refine CallE.pure (CallK.lend y20 _ (lend1 hj hpre (bytes_v l1)) (lent_ev true l1 hl) (noBor_bytes _ _ _) ?_)
    simp only [evE, Nat.reduceLT, Nat.reduceEqDiff]
    refine CallE.pure (CallK.lend y21 _ (lend1 hj hpre (bytes_v l1)) (parse_ev hγ hγ2 true l1 hl) (noBor_parse l1) ?_)
    have fo := one_nodes (parseO l1).1
    have hlen := parse_len l1
    unfold parseA
    generalize eP : parseO l1 = R at fo hlen ⊢
    obtain ⟨ns, pl, er⟩ := R
    simp only at fo hlen
    simp only [tyL, fo, g2, g4, evE, Nat.reduceLT, Nat.reduceLeDiff, Nat.reduceEqDiff]
    refine CallE.pure (CallK.intro y22 rfl (Ev_cut1 (L := l1 ++ [201, 202]) (b := false) (n := l1.length) (m := l1.length + 2) (by omega) (by rw [List.length_append]; omega) (by rw [List.take_left' rfl]; exact refParse_ev false l1 hl)) ?_)
    unfold parseA
    rw [eP]
    simp only [tyL, fo, g2, g3, g5, List.append_assoc, List.cons_append, List.nil_append, evE, Nat.reduceLT, Nat.reduceLeDiff, Nat.reduceEqDiff]
    refine CallE.pure (CallK.intro y23 (treeL_nodes ns) (lawSame_ev ns (by omega)) ?_)
    simp only [d3, evE, Bool.not_true, Nat.reduceLT, Nat.reduceEqDiff, reduceCtorEq]
    refine CallE.pure (CallK.lend y24 _ (lend2 (m := l1.length + 2) (g1 _) List.prefix_rfl (by omega) (.inr ⟨by rw [y5]; decide, by rw [y5]; simp⟩) (bytes_v _) fz_sl) (Ev_cut2 (by omega) (kept_ev true false l1 hl)) rfl ?_)
    simp only [evE, Bool.not_true, Nat.reduceLT, Nat.reduceEqDiff]
    refine LoopE.intro (exI γ j ver l1.length i h.length) (fun a => a.1 ≤ l1.length ∧ a.2.1.length = l1.length ∧ a.2.2[j]? = some ⟨ver, 5, (a.2.1 ++ [201, 202]).map byteC⟩ ∧ a.2.2[h.length]? = some ⟨0, 41, [nodesA ns]⟩ ∧ a.2.2[h.length + 1]? = some ⟨0, 41, [nodesA ns]⟩) (fun a => l1.length - a.1) (0, l1, _) ⟨rfl, rfl, ⟨rfl, rfl, rfl, rfl, rfl, trivial⟩, rfl⟩ ⟨Nat.zero_le _, rfl, g1 _, g2 _ _, g3 _ _ _⟩ (fun a ha => ?_)
    clear g1 g2 g3 g4 g5 hj hpre d2
    obtain ⟨k, l2, H⟩ := a
    obtain ⟨hk, hn, hj, hp, hp1⟩ := ha
    simp only at hk hn hj hp hp1
    generalize h.length = p at hjl hp hp1 ⊢
    generalize l1.length = n at hl hk hn ⊢
    subst hn
    by_cases hkl : k < l2.length
    · have d2 : decide (k < l2.length) = true := decide_eq_true hkl
      have w1 : IntKind.i64.wrap ((k : Int) + 1) = ((k + 1 : Nat) : Int) := (i64w (by omega) (by omega)).trans (by omega)
      have hk2 : k < l2.length + 2 := by omega
      generalize hcd : (l2 ++ [201, 202]).getD k 0 = c
      simp only [exI, tyL, d2, hj, hcd, evE, Nat.reduceAdd, Nat.reduceLT, Nat.reduceEqDiff, reduceCtorEq]
      refine ⟨hkl, hk2, ?_⟩
      have hjH : j < H.length := (List.getElem?_eq_some_iff.1 hj).1
      have hjp : j ≠ p := by omega
      have hjp1 : j ≠ p + 1 := by omega
      have hk3 : k ≤ l2.length + 1 := by omega
      by_cases hc : (((c.toNat : Int) == 49) || ((c.toNat : Int) == 97) || ((c.toNat : Int) == 43)) = true
      · have nc : c.toNat ≤ 97 := by
          simp only [Bool.or_eq_true, beq_iff_eq] at hc
          clear w1 d3
          omega
        have w8 : IntKind.u8.wrap ((c.toNat : Int) + 2) = (((c + 2 : UInt8)).toNat : Int) := by
          rw [u8w (by omega) (by omega), UInt8.toNat_add]
          have : (2 : UInt8).toNat = 2 := rfl
          rw [this]
          clear w1 d3
          omega
        have hset : ((l2 ++ [201, 202]).map byteC).set k (.v (.int .u8 (IntKind.u8.wrap ((c.toNat : Int) + 2)))) = (l2.set k (c + 2) ++ [201, 202]).map byteC := by
          rw [w8]
          show ((l2 ++ [201, 202]).map byteC).set k (byteC (c + 2)) = _
          rw [← List.map_set, List.set_append_left _ _ hkl]
        cases e1 : ((c.toNat : Int) == 49) <;> cases e2 : ((c.toNat : Int) == 97) <;> cases e3 : ((c.toNat : Int) == 43)
        · rw [e1, e2, e3] at hc; cases hc
        all_goals simp only [tyL, hj, e2, e3, w1, hkl, hk2, hcd, true_and, hk3, hset, evE, Nat.reduceAdd, Nat.reduceLT, Nat.reduceLeDiff, Nat.reduceEqDiff, reduceCtorEq]
        all_goals exact loopCE.intro (k + 1, l2.set k (c + 2), H.set j ⟨ver, 5, (l2.set k (c + 2) ++ [201, 202]).map byteC⟩) ⟨hkl, List.length_set .., List.getElem?_set_self hjH, (List.getElem?_set_ne hjp).trans hp, (List.getElem?_set_ne hjp1).trans hp1⟩ ⟨rfl, rfl, ⟨rfl, rfl, rfl, rfl, rfl, trivial⟩, rfl⟩ (by show l2.length - (k + 1) < l2.length - k; omega)
      · have e1 : ((c.toNat : Int) == 49) = false := by
          cases e1 : ((c.toNat : Int) == 49) with
          | false => rfl
          | true => rw [e1] at hc; exact absurd rfl hc
        have e2 : ((c.toNat : Int) == 97) = false := by
          cases e2 : ((c.toNat : Int) == 97) with
          | false => rfl
          | true => rw [e1, e2] at hc; exact absurd rfl hc
        have e3 : ((c.toNat : Int) == 43) = false := by
          cases e3 : ((c.toNat : Int) == 43) with
          | false => rfl
          | true => rw [e1, e2, e3] at hc; exact absurd rfl hc
        simp only [tyL, hj, e1, e2, e3, w1, hkl, hk2, hcd, true_and, evE, Nat.reduceAdd, Nat.reduceLT, Nat.reduceEqDiff, reduceCtorEq]
        exact loopCE.intro (k + 1, l2, H) ⟨hkl, rfl, hj, hp, hp1⟩ ⟨rfl, rfl, ⟨rfl, rfl, rfl, rfl, rfl, trivial⟩, rfl⟩ (by show l2.length - (k + 1) < l2.length - k; omega)
    · have d2 : decide (k < l2.length) = false := decide_eq_false hkl
      simp only [exI, tyL, d2, hj, hp, hp1, evE, Nat.reduceLT, Nat.reduceLeDiff, Nat.reduceEqDiff, reduceCtorEq]
      refine CallE.pure (CallK.intro y23 (treeL_nodes ns) (lawSame_ev ns (by omega)) ?_)
      have w1 : IntKind.i64.wrap ((i : Int) + 1) = ((i + 1 : Nat) : Int) := (i64w (by omega) (by omega)).trans (by omega)
      simp only [w1, evE, Bool.not_true, Nat.reduceLT, Nat.reduceEqDiff, reduceCtorEq]
      exact loopCE.intro (i + 1, l2, H) ⟨hlt, rfl, hj⟩ ⟨rfl, rfl, ⟨rfl, rfl, trivial⟩, rfl⟩ (by show 2 - (i + 1) < 2 - i; omega)
  · have d2 : decide ((i : Int) < 2) = false := decide_eq_false (by omega)
    simp only [exS, d2, evE, Nat.reduceLT, Nat.reduceEqDiff, reduceCtorEq]
end Go.Proofs.YtlobiioioicmhaaGreatDoor
