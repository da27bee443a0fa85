/- A part of the proof. -/
import Derived.Test.YtplnhipgifcafaaDoorX3
/- lex.Scan of a nil slice. -/
namespace Go.Proofs.YtplnhipgifcafaaDoor
set_option linter.all false
open Go Go.Ev Go.RowKit
variable {γ : List (Nat × AV)}
set_option maxHeartbeats 2000000 in
set_option maxRecDepth 20000 in
theorem next_nil : Ev Tryd.prog γ 31 [.v (.slice none 0 0), .v (.int .i64 0)] (.tup [zeroT.av 0, .v (.bool false), .v (.int .i64 0)]) := by
  refine Ev.of Tryd.func31 rfl ?_
  simp only [Tryd.f31, TokD.av, tokA, zeroT, evS, tyS, Bool.not_true, Bool.not_false, Nat.reduceAdd, Nat.reduceSub, Nat.reduceMul, Nat.reduceLT, Nat.reduceLeDiff, Nat.reduceEqDiff, reduceCtorEq, List.reduceReplicate, Int.reduceToNat, Int.reduceLE, Int.reduceLT]
  refine SemK.scope (α := Empty) (fun a => a.elim) (fun _ => False) (fun _ => 0) (fun _ => 0) ?_ (fun a => a.elim)
  have zz : decide ((0 : Int) ≤ 0) = true := by decide
  simp only [lS, zz, evS, tyS, Bool.not_true, Bool.not_false, Nat.reduceAdd, Nat.reduceSub, Nat.reduceMul, Nat.reduceLT, Nat.reduceLeDiff, Nat.reduceEqDiff, reduceCtorEq, List.reduceReplicate, Int.reduceToNat, Int.reduceLE, Int.reduceLT]
  (repeat' (first | (with_reducible refine And.intro ?_ ?_) | ((first | refine GuardK.intro_f (fun h => ?_) (fun h => ?_) | refine GuardK.intro_t (fun h => ?_) (fun h => ?_) | refine CondK.intro (fun h => ?_) (fun h => ?_) | refine PickK.intro (fun h => ?_) (fun h => ?_)) <;> simp only [h, lS, zz, evS, tyS, Bool.not_true, Bool.not_false, Nat.reduceAdd, Nat.reduceSub, Nat.reduceMul, Nat.reduceLT, Nat.reduceLeDiff, Nat.reduceEqDiff, reduceCtorEq, List.reduceReplicate, Int.reduceToNat, Int.reduceLE, Int.reduceLT]) | (refine DrawK.intro (by kernel_rfl) (by kernel_rfl) ?_; simp only [lS, zz, evS, tyS, Bool.not_true, Bool.not_false, Nat.reduceAdd, Nat.reduceSub, Nat.reduceMul, Nat.reduceLT, Nat.reduceLeDiff, Nat.reduceEqDiff, reduceCtorEq, List.reduceReplicate, Int.reduceToNat, Int.reduceLE, Int.reduceLT])))
  all_goals rfl
theorem each13_nil (w : World) : Calls Tryd.prog 13 #[.slice none 0 0] w fun e w' => ∃ N, e = .returned (.func (.func 30) #[] #[.pointer (some ⟨N, 0, none⟩)]) ∧ w'.heap[N]? = some (.cells #[.slice none 0 0] 22 (0, 0)) ∧ w.heap.size ≤ N ∧ Below w.heap.size w w' := by
  go_enter Tryd.func13, Tryd.ntmps13
  go_wp2
  go_ret
  exact ⟨_, rfl, Go.Ev.heap_alloc_new w _, Nat.le_refl _, (Below.refl _ w).alloc (Nat.le_refl _) _⟩
/-- What the closure finds: nil, in its box. -/
def eachBase0 (γ : List (Nat × AV)) (Nb : Nat) (W : World) : Prop := (∃ fr, W.heap[Nb]? = some (.cells #[.slice none 0 0] 22 fr)) ∧ glOK γ W
def box0 : AV := .ela true [.v (.slice none 0 0)]
theorem box0_lt {Nb : Nat} {W : World} (h : eachBase0 γ Nb W) : Nb < W.heap.size := by
  obtain ⟨⟨fr, h1⟩, _⟩ := h
  exact (Array.getElem?_eq_some_iff.1 h1).1
theorem box0_rel {Nb : Nat} {W : World} (h : eachBase0 γ Nb W) : rel box0 (cx (eachX Tryd.prog W Nb (box0_lt h)) [] [] W) (.pointer (some ⟨Nb, 0, none⟩)) := by
  have hlt := box0_lt h
  obtain ⟨⟨fr, h1⟩, _⟩ := h
  unfold box0
  rw [rel]
  refine ⟨Nb, 0, rfl, ⟨hlt, by simp, by show Nb = Nb; rfl⟩, ?_⟩
  simp only [relAt, rel]
  refine ⟨⟨_, ?_, rfl⟩, trivial⟩
  show W.cell? _ = _
  unfold World.cell?
  simp only [h1]; rfl
set_option maxHeartbeats 1000000 in
set_option maxRecDepth 20000 in
theorem each_seq0 (hγ2 : GlW γ) (Nb : Nat) (item : Nat → Array Value) : SeqC Tryd.prog 30 #[.pointer (some ⟨Nb, 0, none⟩)] 0 item (eachBase0 γ Nb) := by
  intro ly J Jx W hJb hJw hJxw hY hJ0
  refine callsIn_wide.1 (callsIn_of_wp (F := Fence.wide) (n := 0) Tryd.func30 rfl trivial ?_)
  generalize hPE : bodyPost Tryd.prog Tryd.f30 _ = PE
  have hret : ∀ (a : Act) (w : World), a.defers = [] → (J 0 w ∨ Jx w) → PE .ret a w := fun a w h1 h2 => by
    rw [← hPE]
    refine ⟨h1, .tuple #[], ?_, ⟨_, rfl⟩, h2⟩
    unfold results
    rw [show Tryd.f30.results = #[] from rfl, Sem.run_bind, Array.mapM_eq_mapM_toList, Sem.run_map]
    rfl
  have hb0 := hJb 0 W hJ0
  have hnt : Tryd.f30.ntmps = 38 := by kernel_rfl
  rw [hnt]
  obtain ⟨A, hA, hAd, hAn, hA0, hA1⟩ := frame2 38 (.func (.yield ly) #[] #[]) (.pointer (some ⟨Nb, 0, none⟩)) (by decide)
  rw [← hA]
  have hsr : SR (eachX Tryd.prog W Nb (box0_lt hb0)) [] ⟨⟨38, [(0, yv ly), (1, box0)], γ⟩, []⟩ A W := by
    refine SR.fresh hAd hAn (fun t => ?_) (fun k => gl_rel hγ2 hb0.2 (c := cx (eachX Tryd.prog W Nb (box0_lt hb0)) [] [] W) rfl (fun r hr => ⟨hr, by simp, by show ¬ False; exact fun h => h⟩) k)
    by_cases e0 : t = 0
    · subst e0; rw [hA0]; show rel (yv ly) _ _; simp only [yv, rel]
    · by_cases e1 : t = 1
      · subst e1; rw [hA1]; exact box0_rel hb0
      · have : Go.Ev.look [(0, yv ly), (1, box0)] t = .bad := by
          simp only [Go.Ev.look]
          rw [if_neg (fun e => e0 e.symm), if_neg (fun e => e1 e.symm)]
        rw [this]; simp only [rel]
  refine wpIn_seq (wpIn_seq (pieceIn (X := eachX Tryd.prog W Nb (box0_lt hb0)) (r := none) ⟨⟨38, [(0, yv ly), (1, box0), (9, .v (.bool false))], γ⟩, []⟩ (by kernel_rfl) rfl hsr ?_ ?_))
  · show kwp Tryd.prog _ _ _
    have hd : decide ((32768 : Int) < 0) = false := by decide
    simp only [box0, yv, hd, wkQ_normal, evS, tyS, Bool.not_true, Bool.not_false, Nat.reduceAdd, Nat.reduceSub, Nat.reduceMul, Nat.reduceLT, Nat.reduceLeDiff, Nat.reduceEqDiff, reduceCtorEq, List.reduceReplicate, Int.reduceToNat, Int.reduceLE, Int.reduceLT]
    (repeat' (first | (with_reducible refine And.intro ?_ ?_) | ((first | refine GuardK.intro_f (fun h => ?_) (fun h => ?_) | refine GuardK.intro_t (fun h => ?_) (fun h => ?_) | refine CondK.intro (fun h => ?_) (fun h => ?_) | refine PickK.intro (fun h => ?_) (fun h => ?_)) <;> simp only [h, evS, tyS, Bool.not_true, Bool.not_false, Nat.reduceAdd, Nat.reduceSub, Nat.reduceMul, Nat.reduceLT, Nat.reduceLeDiff, Nat.reduceEqDiff, reduceCtorEq, List.reduceReplicate, Int.reduceToNat, Int.reduceLE, Int.reduceLT]) | (refine DrawK.intro (by kernel_rfl) (by kernel_rfl) ?_; simp only [evS, tyS, Bool.not_true, Bool.not_false, Nat.reduceAdd, Nat.reduceSub, Nat.reduceMul, Nat.reduceLT, Nat.reduceLeDiff, Nat.reduceEqDiff, reduceCtorEq, List.reduceReplicate, Int.reduceToNat, Int.reduceLE, Int.reduceLT])))
    all_goals first | done | rfl | exact .inl rfl | trace_state
  intro φ1 a1 W1 h1
  refine wpIn_cond_false (h1.getv rfl) (wpIn_skip ?_)
  refine wpIn_seq (pieceIn (X := eachX Tryd.prog W Nb (box0_lt hb0)) (r := none) ⟨⟨38, [(0, yv ly), (1, box0), (3, .v (.int .i64 0))], γ⟩, []⟩ (by kernel_rfl) rfl h1 ?_ ?_)
  · show kwp Tryd.prog _ _ _
    simp only [box0, yv, wkQ_normal, evS, tyS, Bool.not_true, Bool.not_false, Nat.reduceAdd, Nat.reduceSub, Nat.reduceMul, Nat.reduceLT, Nat.reduceLeDiff, Nat.reduceEqDiff, reduceCtorEq, List.reduceReplicate, Int.reduceToNat, Int.reduceLE, Int.reduceLT]
    (repeat' (first | (with_reducible refine And.intro ?_ ?_) | ((first | refine GuardK.intro_f (fun h => ?_) (fun h => ?_) | refine GuardK.intro_t (fun h => ?_) (fun h => ?_) | refine CondK.intro (fun h => ?_) (fun h => ?_) | refine PickK.intro (fun h => ?_) (fun h => ?_)) <;> simp only [h, evS, tyS, Bool.not_true, Bool.not_false, Nat.reduceAdd, Nat.reduceSub, Nat.reduceMul, Nat.reduceLT, Nat.reduceLeDiff, Nat.reduceEqDiff, reduceCtorEq, List.reduceReplicate, Int.reduceToNat, Int.reduceLE, Int.reduceLT]) | (refine DrawK.intro (by kernel_rfl) (by kernel_rfl) ?_; simp only [evS, tyS, Bool.not_true, Bool.not_false, Nat.reduceAdd, Nat.reduceSub, Nat.reduceMul, Nat.reduceLT, Nat.reduceLeDiff, Nat.reduceEqDiff, reduceCtorEq, List.reduceReplicate, Int.reduceToNat, Int.reduceLE, Int.reduceLT])))
    all_goals first | done | rfl | exact .inl rfl | trace_state
  intro φ2 a2 W2 h2
  refine wpIn_block (wpIn_loop_rounds 1 ?_)
  rw [roundsIn_succ]
  refine wpIn_block (wpIn_seq (pieceIn (X := eachX Tryd.prog W Nb (box0_lt hb0)) (r := none) ⟨⟨38, [(0, yv ly), (1, box0), (5, .v (.bool false))], γ⟩, []⟩ (by kernel_rfl) rfl h2 ?_ ?_))
  · show kwp Tryd.prog _ _ _
    simp only [box0, yv, wkQ_normal, evS, tyS, Bool.not_true, Bool.not_false, Nat.reduceAdd, Nat.reduceSub, Nat.reduceMul, Nat.reduceLT, Nat.reduceLeDiff, Nat.reduceEqDiff, reduceCtorEq, List.reduceReplicate, Int.reduceToNat, Int.reduceLE, Int.reduceLT]
    refine CallK.intro b31 rfl next_nil ?_
    simp only [TokD.av, tokA, wkQ_normal, zeroT, evS, tyS, Bool.not_true, Bool.not_false, Nat.reduceAdd, Nat.reduceSub, Nat.reduceMul, Nat.reduceLT, Nat.reduceLeDiff, Nat.reduceEqDiff, reduceCtorEq, List.reduceReplicate, Int.reduceToNat, Int.reduceLE, Int.reduceLT]
    (repeat' (first | (with_reducible refine And.intro ?_ ?_) | ((first | refine GuardK.intro_f (fun h => ?_) (fun h => ?_) | refine GuardK.intro_t (fun h => ?_) (fun h => ?_) | refine CondK.intro (fun h => ?_) (fun h => ?_) | refine PickK.intro (fun h => ?_) (fun h => ?_)) <;> simp only [h, evS, tyS, Bool.not_true, Bool.not_false, Nat.reduceAdd, Nat.reduceSub, Nat.reduceMul, Nat.reduceLT, Nat.reduceLeDiff, Nat.reduceEqDiff, reduceCtorEq, List.reduceReplicate, Int.reduceToNat, Int.reduceLE, Int.reduceLT]) | (refine DrawK.intro (by kernel_rfl) (by kernel_rfl) ?_; simp only [evS, tyS, Bool.not_true, Bool.not_false, Nat.reduceAdd, Nat.reduceSub, Nat.reduceMul, Nat.reduceLT, Nat.reduceLeDiff, Nat.reduceEqDiff, reduceCtorEq, List.reduceReplicate, Int.reduceToNat, Int.reduceLE, Int.reduceLT])))
    all_goals first | done | rfl | exact .inl rfl | exact .inr ⟨by simp [okRefL, okRef, yv, box0], rfl⟩ | trace_state
  intro φ3 a3 W3 h3
  refine wpIn_seq (wpIn_seq (pieceIn (X := eachX Tryd.prog W Nb (box0_lt hb0)) (r := none) ⟨⟨38, [(32, .v (.bool true))], γ⟩, []⟩ (by kernel_rfl) rfl h3 ?_ ?_))
  · show kwp Tryd.prog _ _ _
    simp only [yv, box0, wkQ_normal, evS, tyS, Bool.not_true, Bool.not_false, Nat.reduceAdd, Nat.reduceSub, Nat.reduceMul, Nat.reduceLT, Nat.reduceLeDiff, Nat.reduceEqDiff, reduceCtorEq, List.reduceReplicate, Int.reduceToNat, Int.reduceLE, Int.reduceLT]
    (repeat' (first | (with_reducible refine And.intro ?_ ?_) | ((first | refine GuardK.intro_f (fun h => ?_) (fun h => ?_) | refine GuardK.intro_t (fun h => ?_) (fun h => ?_) | refine CondK.intro (fun h => ?_) (fun h => ?_) | refine PickK.intro (fun h => ?_) (fun h => ?_)) <;> simp only [h, evS, tyS, Bool.not_true, Bool.not_false, Nat.reduceAdd, Nat.reduceSub, Nat.reduceMul, Nat.reduceLT, Nat.reduceLeDiff, Nat.reduceEqDiff, reduceCtorEq, List.reduceReplicate, Int.reduceToNat, Int.reduceLE, Int.reduceLT]) | (refine DrawK.intro (by kernel_rfl) (by kernel_rfl) ?_; simp only [evS, tyS, Bool.not_true, Bool.not_false, Nat.reduceAdd, Nat.reduceSub, Nat.reduceMul, Nat.reduceLT, Nat.reduceLeDiff, Nat.reduceEqDiff, reduceCtorEq, List.reduceReplicate, Int.reduceToNat, Int.reduceLE, Int.reduceLT])))
    all_goals first | rfl | exact .inl rfl | trace_state
  · intro φ4 a4 W4 h4
    refine wpIn_cond_true (h4.getv rfl) (wpIn_ret ?_)
    exact hret a4 W4 h4.defers (.inl (hJw 0 W W4 hJ0 h4.below))
def nilV : AV := .v (.slice none 0 0)
def scan0L : List (Nat × AV) := [(0, nilV), (2, .ptr 0 0 0), (3, .ptr 1 0 0), (4, .ptr 2 0 0), (5, .ptr 3 0 0)]
def scan0S (γ : List (Nat × AV)) : Slots := ⟨22, (8, nilV) :: scan0L, γ⟩
def onlyQ (S : St) : Post
  | .normal, s => s = S
  | _, _ => False
set_option maxHeartbeats 1000000 in
set_option maxRecDepth 20000 in
theorem lexScan_nil (hγ2 : GlW γ) : Ev Tryd.prog γ 16 [.v (.slice none 0 0)] (.tup [.v (.slice none 0 0), .v (.int .i64 0), .v (.int .i64 0)]) := by
  refine Ev.of_wpM Tryd.func16 rfl ?_
  intro X hP hc0 hXK hXdf a w hs
  have hnt : Tryd.f16.ntmps = 22 := by kernel_rfl
  rw [hnt] at hs
  refine wpIn_seq (pieceP hP (r := none) ⟨⟨22, [(0, nilV), (2, .ptr 0 0 0), (3, .ptr 1 0 0), (4, .ptr 2 0 0)], γ⟩, [⟨0, 37, [.v (.slice none 0 0)]⟩, ⟨0, 3, [.v (.int .i64 0)]⟩, ⟨0, 25, [.v (.int .i64 0)]⟩]⟩ (by kernel_rfl) hc0 hs ?_ fun φ1 a1 w1 h1 => ?_)
  · simp only [startA, idxL, wkQ_normal, nilV, evS, tyS, Bool.not_true, Bool.not_false, Nat.reduceAdd, Nat.reduceSub, Nat.reduceMul, Nat.reduceLT, Nat.reduceLeDiff, Nat.reduceEqDiff, reduceCtorEq, List.reduceReplicate, Int.reduceToNat, Int.reduceLE, Int.reduceLT]
    (repeat' (first | (with_reducible refine And.intro ?_ ?_) | ((first | refine GuardK.intro_f (fun h => ?_) (fun h => ?_) | refine GuardK.intro_t (fun h => ?_) (fun h => ?_) | refine CondK.intro (fun h => ?_) (fun h => ?_) | refine PickK.intro (fun h => ?_) (fun h => ?_)) <;> simp only [h, evS, tyS, Bool.not_true, Bool.not_false, Nat.reduceAdd, Nat.reduceSub, Nat.reduceMul, Nat.reduceLT, Nat.reduceLeDiff, Nat.reduceEqDiff, reduceCtorEq, List.reduceReplicate, Int.reduceToNat, Int.reduceLE, Int.reduceLT]) | (refine DrawK.intro (by kernel_rfl) (by kernel_rfl) ?_; simp only [evS, tyS, Bool.not_true, Bool.not_false, Nat.reduceAdd, Nat.reduceSub, Nat.reduceMul, Nat.reduceLT, Nat.reduceLeDiff, Nat.reduceEqDiff, reduceCtorEq, List.reduceReplicate, Int.reduceToNat, Int.reduceLE, Int.reduceLT])))
    all_goals first | done | rfl | exact .inl rfl | trace_state
  refine wpIn_seq (pieceP hP (r := none) ⟨⟨22, scan0L, γ⟩, base4 nilV⟩ (by kernel_rfl) hc0 h1 ?_ fun φ2 a2 w2 h2 => ?_)
  · simp only [scan0L, base4, wkQ_normal, nilV, evS, tyS, Bool.not_true, Bool.not_false, Nat.reduceAdd, Nat.reduceSub, Nat.reduceMul, Nat.reduceLT, Nat.reduceLeDiff, Nat.reduceEqDiff, reduceCtorEq, List.reduceReplicate, Int.reduceToNat, Int.reduceLE, Int.reduceLT]
    (repeat' (first | (with_reducible refine And.intro ?_ ?_) | ((first | refine GuardK.intro_f (fun h => ?_) (fun h => ?_) | refine GuardK.intro_t (fun h => ?_) (fun h => ?_) | refine CondK.intro (fun h => ?_) (fun h => ?_) | refine PickK.intro (fun h => ?_) (fun h => ?_)) <;> simp only [h, evS, tyS, Bool.not_true, Bool.not_false, Nat.reduceAdd, Nat.reduceSub, Nat.reduceMul, Nat.reduceLT, Nat.reduceLeDiff, Nat.reduceEqDiff, reduceCtorEq, List.reduceReplicate, Int.reduceToNat, Int.reduceLE, Int.reduceLT]) | (refine DrawK.intro (by kernel_rfl) (by kernel_rfl) ?_; simp only [evS, tyS, Bool.not_true, Bool.not_false, Nat.reduceAdd, Nat.reduceSub, Nat.reduceMul, Nat.reduceLT, Nat.reduceLeDiff, Nat.reduceEqDiff, reduceCtorEq, List.reduceReplicate, Int.reduceToNat, Int.reduceLE, Int.reduceLT])))
    all_goals first | done | rfl | exact .inl rfl | trace_state
  refine wpIn_seq (wpIn_seq (wpIn_region ?_))
  show wpOpsIn (Fr none) 0 Tryd.prog _ _ ([0] ++ (1 :: [])) a2 w2
  refine wpOpsIn_split _ _ _ _ (opsP hP ⟨scan0S γ, base4 nilV⟩ (by kernel_rfl) hc0 [_] [0] rfl h2 ?_ fun φ3 a3 w3 h3 => ?_)
  · simp only [scan0S, scan0L, base4, nilV, List.getElem_toArray, List.getElem_cons_zero, List.getElem_cons_succ, evS, tyS, Bool.not_true, Bool.not_false, Nat.reduceAdd, Nat.reduceSub, Nat.reduceMul, Nat.reduceLT, Nat.reduceLeDiff, Nat.reduceEqDiff, reduceCtorEq, List.reduceReplicate, Int.reduceToNat, Int.reduceLE, Int.reduceLT]
    (repeat' (first | (with_reducible refine And.intro ?_ ?_) | ((first | refine GuardK.intro_f (fun h => ?_) (fun h => ?_) | refine GuardK.intro_t (fun h => ?_) (fun h => ?_) | refine CondK.intro (fun h => ?_) (fun h => ?_) | refine PickK.intro (fun h => ?_) (fun h => ?_)) <;> simp only [h, evS, tyS, Bool.not_true, Bool.not_false, Nat.reduceAdd, Nat.reduceSub, Nat.reduceMul, Nat.reduceLT, Nat.reduceLeDiff, Nat.reduceEqDiff, reduceCtorEq, List.reduceReplicate, Int.reduceToNat, Int.reduceLE, Int.reduceLT]) | (refine DrawK.intro (by kernel_rfl) (by kernel_rfl) ?_; simp only [evS, tyS, Bool.not_true, Bool.not_false, Nat.reduceAdd, Nat.reduceSub, Nat.reduceMul, Nat.reduceLT, Nat.reduceLeDiff, Nat.reduceEqDiff, reduceCtorEq, List.reduceReplicate, Int.reduceToNat, Int.reduceLE, Int.reduceLT])))
    all_goals first | done | rfl | exact .inl rfl | trace_state
  rw [wpOpsIn_cons]
  have e8 : a3.tmps.getD 8 undef = .slice none 0 0 := h3.getv rfl
  refine wpOpIn_some rfl rfl (call_wpIn (vs := #[.slice none 0 0]) rfl ?_ (enters_of Tryd.func13 (by kernel_rfl) rfl) (each13_nil w3) ?_)
  · rw [List.map_toArray, List.map_cons, List.map_nil]
    show #[a3.tmps.getD 8 undef] = _
    rw [e8]
  rintro e' w4 ⟨Nb, rfl, hbox, hNb, hbel⟩
  refine ⟨_, rfl, ?_⟩
  have hput := (h3.world hbel).put (some 9) (r := cloA Nb) (u := .func (.func 30) #[] #[.pointer (some ⟨Nb, 0, none⟩)]) (by simp only [cloA, rel])
  obtain ⟨X1, hX1⟩ : ∃ X1, X1 = X.with [(Nb, .cells #[.slice none 0 0] 22 (0, 0))] [] none := ⟨_, rfl⟩
  have hP1 : X1.P = Tryd.prog := by rw [hX1]; exact hP
  have hc1 : X1.c0 = none := by rw [hX1]; rfl
  have h5 : SR X1 φ3 ⟨⟨22, (9, cloA Nb) :: (scan0S γ).l, γ⟩, base4 nilV⟩ (a3.put (some 9) (.func (.func 30) #[] #[.pointer (some ⟨Nb, 0, none⟩)])) w4 := by
    rw [hX1]
    refine hput.move (Below.refl _ _) (fun r _ => .inl rfl) (by rw [hput.defers, hXdf]) hput.len hput.gl_le (fun c' hc t => hput.slots_le c' hc t) ?_ ?_ (fun c c' h => by cases h)
    · intro p hp
      simp only [List.mem_singleton] at hp
      subst hp
      exact hbox
    · intro p hp hm
      simp only [List.mem_singleton] at hp
      subst hp
      have := (h3.rng _ hm).2
      omega
  show Code.wpIn (Fr none) 0 Tryd.prog _ _ (a3.put (some 9) (.func (.func 30) #[] #[.pointer (some ⟨Nb, 0, none⟩)])) w4
  generalize (a3.put (some 9) (.func (.func 30) #[] #[.pointer (some ⟨Nb, 0, none⟩)])) = a4 at h5 ⊢
  have hg : a4.eval (.tmp 9) = .func (.func 30) #[] #[.pointer (some ⟨Nb, 0, none⟩)] := h5.getv rfl
  refine wpIn_block (wpIn_mono (range_ruleP (X := X1) (Q := onlyQ ⟨scan0S γ, base4 nilV⟩) hP1 h5 hc1 (by kernel_rfl) (by kernel_rfl) hg (enters_of Tryd.func30 (by kernel_rfl) rfl) 0 (fun _ => (.nilFunc, .nilFunc)) (each_seq0 hγ2 Nb _)
    (scan0S γ) (fun _ => base4 nilV) (fun _ => True) trivial ?_ ?_ (fun _ => .bad) (fun _ => .bad) (fun k hk => by omega) (fun k hk => by omega) (fun _ => rfl)) ?_)
  · simp only [scan0S, scan0L, base4, nilV, evS, tyS, Bool.not_true, Bool.not_false, Nat.reduceAdd, Nat.reduceSub, Nat.reduceMul, Nat.reduceLT, Nat.reduceLeDiff, Nat.reduceEqDiff, reduceCtorEq, List.reduceReplicate, Int.reduceToNat, Int.reduceLE, Int.reduceLT]
    (repeat' (first | (with_reducible refine And.intro ?_ ?_) | ((first | refine GuardK.intro_f (fun h => ?_) (fun h => ?_) | refine GuardK.intro_t (fun h => ?_) (fun h => ?_) | refine CondK.intro (fun h => ?_) (fun h => ?_) | refine PickK.intro (fun h => ?_) (fun h => ?_)) <;> simp only [h, evS, tyS, Bool.not_true, Bool.not_false, Nat.reduceAdd, Nat.reduceSub, Nat.reduceMul, Nat.reduceLT, Nat.reduceLeDiff, Nat.reduceEqDiff, reduceCtorEq, List.reduceReplicate, Int.reduceToNat, Int.reduceLE, Int.reduceLT]) | (refine DrawK.intro (by kernel_rfl) (by kernel_rfl) ?_; simp only [evS, tyS, Bool.not_true, Bool.not_false, Nat.reduceAdd, Nat.reduceSub, Nat.reduceMul, Nat.reduceLT, Nat.reduceLeDiff, Nat.reduceEqDiff, reduceCtorEq, List.reduceReplicate, Int.reduceToNat, Int.reduceLE, Int.reduceLT])))
    all_goals first | done | rfl | exact .inl rfl | trace_state
  · intro X' φ' k a' W hP' hG hB hK ht hsr
    exact ⟨⟨_, hK (Nb, _) (by rw [hX1]; exact List.mem_cons_self)⟩, gl_of_rel (c := cx X' φ' (base4 nilV) W) rfl (fun r hr => hr.1) (fun k => (hsr.gl k).2)⟩
  · rintro e a5 w5 ⟨D, φ5, st5, ⟨hD, hDK⟩, h6, hq⟩
    cases e with
    | normal =>
      obtain rfl : st5 = ⟨scan0S γ, base4 nilV⟩ := hq
      have t25 : aggT Tryd.prog 25 = some false := by kernel_rfl
      refine wpIn_mono (kwp_soundP (X := X1.marked D) (r := none) hP1 _ (retQ (.tup [.v (.slice none 0 0), .v (.int .i64 0), .v (.int .i64 0)])) (by kernel_rfl) h6 ?_) ?_
      · simp only [scan0S, scan0L, base4, nilV, retQ_ret, t25, evS, tyS, Bool.not_true, Bool.not_false, Nat.reduceAdd, Nat.reduceSub, Nat.reduceMul, Nat.reduceLT, Nat.reduceLeDiff, Nat.reduceEqDiff, reduceCtorEq, List.reduceReplicate, Int.reduceToNat, Int.reduceLE, Int.reduceLT]
        (repeat' (first | (with_reducible refine And.intro ?_ ?_) | ((first | refine GuardK.intro_f (fun h => ?_) (fun h => ?_) | refine GuardK.intro_t (fun h => ?_) (fun h => ?_) | refine CondK.intro (fun h => ?_) (fun h => ?_) | refine PickK.intro (fun h => ?_) (fun h => ?_)) <;> simp only [h, retQ_ret, t25, evS, tyS, Bool.not_true, Bool.not_false, Nat.reduceAdd, Nat.reduceSub, Nat.reduceMul, Nat.reduceLT, Nat.reduceLeDiff, Nat.reduceEqDiff, reduceCtorEq, List.reduceReplicate, Int.reduceToNat, Int.reduceLE, Int.reduceLT]) | (refine DrawK.intro (by kernel_rfl) (by kernel_rfl) ?_; simp only [retQ_ret, t25, evS, tyS, Bool.not_true, Bool.not_false, Nat.reduceAdd, Nat.reduceSub, Nat.reduceMul, Nat.reduceLT, Nat.reduceLeDiff, Nat.reduceEqDiff, reduceCtorEq, List.reduceReplicate, Int.reduceToNat, Int.reduceLE, Int.reduceLT])))
        all_goals first | done | rfl | trace_state
      · rintro e a6 w6 ⟨φ6, st6, h7, hq6⟩
        cases e with
        | ret =>
          refine ⟨[D], φ6, st6, by simp, fun D' h => by rw [List.mem_singleton.1 h]; rw [hX1] at hD; exact hD, ?_, endS_endA hq6⟩
          rw [hX1] at h7
          have : X.marks [D] = X.with [(D, Obj.deferred (some []))] [markD D] none := by simp [Fix.marks, hXK, hXdf]
          rw [this]
          exact SR.fewer (X := X) (K := (D, Obj.deferred (some [])) :: [(Nb, .cells #[.slice none 0 0] 22 (0, 0))]) h7 (fun p hp => by rw [List.mem_singleton.1 hp]; simp)
        | _ => exact hq6.elim
    | _ => exact hq.elim
end Go.Proofs.YtplnhipgifcafaaDoor
/- Tokens joined with blanks are the same tokens. -/
namespace Go.Proofs.YtplnhipgifcafaaDoor
set_option linter.all false
open Go Go.Ev
def tailB : List (List UInt8 × TokD) → List UInt8
  | [] => []
  | p :: r => 32 :: (p.1 ++ tailB r)
def wholeB : List (List UInt8 × TokD) → List UInt8
  | [] => []
  | p :: r => p.1 ++ tailB r
/-- Bytes that are just that token. -/
structure GoodP (p : List UInt8 × TokD) : Prop where
  head : headD p.1 = .ok p.2
  pos : 1 ≤ p.2.size
  len : p.1.length = p.2.size
  blank : blankN (atL p.1 0) = false
  com : atL p.1 0 ≠ 35
theorem tail_head (r : List (List UInt8 × TokD)) : tailB r = [] ∨ ∃ s, tailB r = 32 :: s := by
  cases r with
  | nil => exact .inl rfl
  | cons p r => exact .inr ⟨_, rfl⟩
theorem atL_app2 {a b : List UInt8} (i : Nat) : atL (a ++ b) (a.length + i) = atL b i := by
  unfold atL; simp only [List.getD_eq_getElem?_getD]
  rw [List.getElem?_append_right (by omega)]
  simp
theorem atL_app0 {a b : List UInt8} (h : 1 ≤ a.length) : atL (a ++ b) 0 = atL a 0 := by
  unfold atL; simp only [List.getD_eq_getElem?_getD]; rw [List.getElem?_append_left (by omega)]
theorem good_app {p : List UInt8 × TokD} (hp : GoodP p) (r : List (List UInt8 × TokD)) : headD (p.1 ++ tailB r) = .ok p.2 ∧ gapL false (p.1 ++ tailB r) = 0 := by
  have hl := hp.len
  have h1 := hp.pos
  constructor
  · refine headD_loc hp.head h1 ⟨by omega, by rw [List.length_append]; omega, by rw [← hl, List.take_left' rfl, List.take_length], ?_⟩
    rcases tail_head r with h | ⟨s, h⟩
    · rw [h, List.append_nil]; exact .inr (.inl hl)
    · rw [h]
      have := atL_app2 (a := p.1) (b := 32 :: s) 0
      rw [Nat.add_zero, hl] at this
      exact .inr (.inr this)
  · have h0 : atL (p.1 ++ tailB r) 0 = atL p.1 0 := atL_app0 (by omega)
    have := gap_stop (l := p.1 ++ tailB r) (i := 0) (by rw [List.length_append]; omega) (by rw [h0]; exact hp.blank) (by rw [h0]; exact hp.com)
    rwa [List.drop_zero] at this
theorem items_tail : ∀ (r : List (List UInt8 × TokD)) (f : Nat) (L : List UInt8) (i : Nat), (∀ p ∈ r, GoodP p) → L.drop i = tailB r → i ≤ L.length → L.length + 1 ≤ f + i → ∃ T' : List (TokD × Nat), itemsF f L i = T'.map okI ∧ T'.map (fun x => x.1) = r.map (fun x => x.2)
  | r, 0, L, i, hg, hd, hi, hf => by omega
  | [], f + 1, L, i, hg, hd, hi, hf => by
    refine ⟨[], ?_, rfl⟩
    rw [itemsF, if_pos]
    · rfl
    · have : (L.drop i).length = 0 := by rw [hd]; rfl
      rw [List.length_drop] at this
      have := nextT_ge L i
      omega
  | p :: r, f + 1, L, i, hg, hd, hi, hf => by
    have hp := hg p List.mem_cons_self
    obtain ⟨h1, h2⟩ := good_app hp r
    have hl := hp.len
    have hs := hp.pos
    have hd1 : L.drop (i + 1) = p.1 ++ tailB r := by rw [← List.drop_drop, hd]; rfl
    have hlen : L.length = i + 1 + (p.1.length + (tailB r).length) := by
      have := congrArg List.length hd
      simp only [tailB, List.length_drop, List.length_cons, List.length_append] at this; omega
    have hn : nextT L i = i + 1 := by
      unfold nextT
      rw [hd]
      show i + gapL false (32 :: (p.1 ++ tailB r)) = _
      rw [gapL, if_pos (by decide), h2]
    have hd2 : L.drop (i + 1 + p.2.size) = tailB r := by rw [← List.drop_drop, hd1, ← hl, List.drop_left' rfl]
    obtain ⟨T', e1, e2⟩ := items_tail r f L (i + 1 + p.2.size) (fun q hq => hg q (List.mem_cons_of_mem _ hq)) hd2 (by omega) (by omega)
    refine ⟨(p.2, i + 1) :: T', ?_, by rw [List.map_cons, List.map_cons, e2]⟩
    rw [itemsF, hn, if_neg (by omega), hd1, h1]
    show ((p.2, i + 1), (0 : Int)) :: itemsF f L (i + 1 + p.2.size) = _
    rw [e1]; rfl
theorem items_whole (r : List (List UInt8 × TokD)) (hg : ∀ p ∈ r, GoodP p) (hl : (wholeB r).length ≤ 32768) : ∃ T' : List (TokD × Nat), eachItems (wholeB r) = T'.map okI ∧ T'.map (fun x => x.1) = r.map (fun x => x.2) := by
  unfold eachItems
  rw [if_neg (by omega)]
  cases r with
  | nil => exact ⟨[], rfl, rfl⟩
  | cons p r =>
    have hp := hg p List.mem_cons_self
    obtain ⟨h1, h2⟩ := good_app hp r
    have hlp := hp.len
    have hs := hp.pos
    have hn : nextT (p.1 ++ tailB r) 0 = 0 := by unfold nextT; rw [List.drop_zero, h2]
    have hd2 : (p.1 ++ tailB r).drop p.2.size = tailB r := by rw [← hlp, List.drop_left' rfl]
    obtain ⟨T', e1, e2⟩ := items_tail r (p.1 ++ tailB r).length (p.1 ++ tailB r) p.2.size (fun q hq => hg q (List.mem_cons_of_mem _ hq)) hd2 (by rw [List.length_append]; omega) (by omega)
    refine ⟨(p.2, 0) :: T', ?_, by rw [List.map_cons, List.map_cons, e2]⟩
    show itemsF ((p.1 ++ tailB r).length + 1) (p.1 ++ tailB r) 0 = _
    rw [itemsF, hn, if_neg (by rw [List.length_append]; omega), List.drop_zero, h1]
    show ((p.2, 0), (0 : Int)) :: itemsF (p.1 ++ tailB r).length (p.1 ++ tailB r) (0 + p.2.size) = _
    rw [Nat.zero_add, e1]; rfl
theorem tailB_snoc (p : List UInt8 × TokD) : ∀ r, tailB (r ++ [p]) = tailB r ++ 32 :: p.1
  | [] => by simp [tailB]
  | q :: r => by simp [tailB, tailB_snoc p r]
theorem wholeB_snoc (p : List UInt8 × TokD) (r : List (List UInt8 × TokD)) : wholeB (r ++ [p]) = wholeB r ++ (if r = [] then [] else [32]) ++ p.1 := by
  cases r with
  | nil => simp [wholeB, tailB]
  | cons q r => simp [wholeB, tailB_snoc]
def pairsOf (l : List UInt8) (T : List (TokD × Nat)) : List (List UInt8 × TokD) := T.map fun x => ((l.drop x.2).take x.1.size, x.1)
theorem pairs_len (l : List UInt8) (T : List (TokD × Nat)) : (pairsOf l T).length = T.length := by simp [pairsOf]
theorem chain_good {l : List UInt8} : ∀ (T : List (TokD × Nat)) (i e : Nat), Chain l i T e → ∀ p ∈ pairsOf l T, GoodP p
  | [], i, e, h, p, hp => by simp [pairsOf] at hp
  | x :: T, i, e, h, p, hp => by
    obtain ⟨h1, h2, h3, h4, h5⟩ := h
    simp only [pairsOf, List.map_cons, List.mem_cons] at hp
    rcases hp with rfl | hp
    · obtain ⟨s1, s2⟩ := head_size h3 h4
      have tf := token_first (l := l) (i := i) (by omega)
      rw [← h2] at tf
      have hlen : ((l.drop x.2).take x.1.size).length = x.1.size := by rw [List.length_take, List.length_drop]; omega
      have ha : atL ((l.drop x.2).take x.1.size) 0 = atL (l.drop x.2) 0 := atL_tk (by rw [List.take_take, Nat.min_self]) (show 0 < x.1.size by omega)
      exact ⟨headD_loc h4 s1 (loc_take (Nat.le_refl _) (by rw [List.length_drop]; omega)), s1, hlen, by show blankN (atL ((l.drop x.2).take x.1.size) 0) = false; rw [ha]; exact tf.1, by show atL ((l.drop x.2).take x.1.size) 0 ≠ 35; rw [ha]; exact tf.2⟩
    · exact chain_good T _ e h5 p hp
theorem chain_sum {l : List UInt8} : ∀ (T : List (TokD × Nat)) (i e : Nat), Chain l i T e → (tailB (pairsOf l T)).length + 2 * i ≤ 2 * e
  | [], i, e, h => by have := (Chain.le h).1; simp [pairsOf, tailB]; omega
  | x :: T, i, e, h => by
    obtain ⟨h1, h2, h3, h4, h5⟩ := h
    have ih := chain_sum T _ e h5
    obtain ⟨s1, s2⟩ := head_size h3 h4
    have hge := nextT_ge l i
    have hlen : ((l.drop x.2).take x.1.size).length = x.1.size := by rw [List.length_take, List.length_drop]; omega
    show (32 :: ((l.drop x.2).take x.1.size ++ tailB (pairsOf l T))).length + 2 * i ≤ 2 * e
    rw [List.length_cons, List.length_append, hlen]
    omega
theorem whole_le (r : List (List UInt8 × TokD)) : (wholeB r).length ≤ (tailB r).length := by
  cases r with
  | nil => exact Nat.le_refl _
  | cons p r => simp [wholeB, tailB]
/-- What was joined so far. -/
def joinK (l : List UInt8) (T : List (TokD × Nat)) (k : Nat) : List UInt8 := wholeB ((pairsOf l T).take k)
theorem joinK_succ {l : List UInt8} {T : List (TokD × Nat)} {k : Nat} (h : k < T.length) : joinK l T (k + 1) = joinK l T k ++ (if k = 0 then [] else [32]) ++ (l.drop (T[k]'h).2).take (T[k]'h).1.size := by
  unfold joinK
  have hlt : k < (pairsOf l T).length := by rw [pairs_len]; exact h
  have e : (pairsOf l T)[k] = ((l.drop (T[k]'h).2).take (T[k]'h).1.size, (T[k]'h).1) := by simp [pairsOf]
  rw [List.take_add_one, List.getElem?_eq_getElem hlt, e]
  show wholeB ((pairsOf l T).take k ++ [_]) = _
  rw [wholeB_snoc]
  congr 2
  by_cases hk : k = 0
  · subst hk; rfl
  · rw [if_neg hk, if_neg]
    intro hn
    have := congrArg List.length hn
    rw [List.length_take, List.length_nil] at this
    omega
theorem joinK_zero (l : List UInt8) (T : List (TokD × Nat)) : joinK l T 0 = [] := rfl
theorem joinK_all (l : List UInt8) (T : List (TokD × Nat)) : joinK l T T.length = wholeB (pairsOf l T) := by
  unfold joinK; rw [← pairs_len l T, List.take_length]
theorem tail_take_le (r : List (List UInt8 × TokD)) (k : Nat) : (tailB (r.take k)).length ≤ (tailB r).length := by
  induction r generalizing k with
  | nil => simp
  | cons p r ih =>
    cases k with
    | zero => simp [tailB]
    | succ k =>
      have := ih k
      simp only [List.take_succ_cons, tailB, List.length_cons, List.length_append]; omega
theorem joinK_le {l : List UInt8} {T : List (TokD × Nat)} {e : Nat} (h : Chain l 0 T e) (k : Nat) : (joinK l T k).length ≤ 2 * l.length := by
  have h1 := whole_le ((pairsOf l T).take k)
  have h2 := tail_take_le (pairsOf l T) k
  have h3 := chain_sum T 0 e h
  have h4 := (Chain.le h).2
  unfold joinK; omega
end Go.Proofs.YtplnhipgifcafaaDoor
namespace Go.Proofs.YtplnhipgifcafaaDoor
set_option linter.all false
open Go Go.Ev Go.RowKit
variable {γ : List (Nat × AV)}
theorem got_get2 {l : List UInt8} {q : Told} (hq : Told2 l q) (he : q.err = 0) : l.length ≤ 32768 ∧ q.got = q.toks ∧ Chain l 0 q.got l.length := by
  have eg : q.got = q.toks := by unfold Told.got; rw [if_pos he]
  have hl : l.length ≤ 32768 := by
    by_cases hb : 32768 < l.length
    · have := (hq.big hb).1; rw [he] at this; cases this
    · omega
  exact ⟨hl, eg, by rw [eg]; exact (hq.ok hl he).2⟩
/-- What is held of the joined bytes. -/
def joinA (l : List UInt8) (T : List (TokD × Nat)) : Nat → AV
  | 0 => .v (.slice none 0 0)
  | k + 1 => .own 0 (2 * k) (joinK l T (k + 1)).length
def joinH (l : List UInt8) (T : List (TokD × Nat)) : Nat → List ABlk
  | 0 => []
  | k + 1 => [⟨2 * k, 5, (joinK l T (k + 1)).map byteC⟩]
def joinM (γ : List (Nat × AV)) (A : AV) (l : List UInt8) (T : List (TokD × Nat)) (k : Nat) : St := ⟨⟨96, [(0, A), (3, listA T), (6, joinA l T k), (7, .v (.int .i64 k))], γ⟩, joinH l T k⟩
set_option maxHeartbeats 4000000 in
set_option maxRecDepth 20000 in
theorem lexJoined_ev (hγ : Gl γ) (hγ2 : GlW γ) (A : AV) (hA : treeA A = true) (b : Bool) (l : List UInt8) (hl : l.length ≤ 140737488351232) (hAl : A = .sl b l.length l.length (l.map byteC) ∨ A = .v (.slice none 0 0) ∧ l = [])
    (h11 : Ev Tryd.prog γ 11 [A] (.sl false l.length (l.length + 2) ((l ++ [201, 202]).map byteC))) : Ev Tryd.prog γ 6 [A] (.v (.bool true)) := by
  obtain ⟨q, hq⟩ := told2_ex l
  have hsc := scan_told hq.told
  have hgle := got_le hq.told
  have k16 := scan_lent (b := false) hγ hγ2 hl hsc
  refine Ev.of_wp Tryd.func6 rfl ?_
  intro X hP h0 a w hs
  have hnt : Tryd.f6.ntmps = 96 := by kernel_rfl
  rw [hnt] at hs
  refine wp_seq (pieceW hP ⟨⟨96, [(0, A)], γ⟩, []⟩ h0 hs ?_ fun φ1 a1 w1 h1 => ?_)
  · simp only [startA, idxL, wkQ_normal, evS, tyS, Bool.not_true, Bool.not_false, Nat.reduceAdd, Nat.reduceSub, Nat.reduceMul, Nat.reduceLT, Nat.reduceLeDiff, Nat.reduceEqDiff, reduceCtorEq, List.reduceReplicate, Int.reduceToNat, Int.reduceLE, Int.reduceLT]
    (repeat' (first | (with_reducible refine And.intro ?_ ?_) | ((first | refine GuardK.intro_f (fun h => ?_) (fun h => ?_) | refine GuardK.intro_t (fun h => ?_) (fun h => ?_) | refine CondK.intro (fun h => ?_) (fun h => ?_) | refine PickK.intro (fun h => ?_) (fun h => ?_)) <;> simp only [h, evS, tyS, Bool.not_true, Bool.not_false, Nat.reduceAdd, Nat.reduceSub, Nat.reduceMul, Nat.reduceLT, Nat.reduceLeDiff, Nat.reduceEqDiff, reduceCtorEq, List.reduceReplicate, Int.reduceToNat, Int.reduceLE, Int.reduceLT]) | (refine DrawK.intro (by kernel_rfl) (by kernel_rfl) ?_; simp only [evS, tyS, Bool.not_true, Bool.not_false, Nat.reduceAdd, Nat.reduceSub, Nat.reduceMul, Nat.reduceLT, Nat.reduceLeDiff, Nat.reduceEqDiff, reduceCtorEq, List.reduceReplicate, Int.reduceToNat, Int.reduceLE, Int.reduceLT])))
    all_goals first | done | rfl | exact .inl rfl | trace_state
  refine wp_seq (pieceW hP ⟨⟨96, [(0, A)], γ⟩, []⟩ h0 h1 ?_ fun φ2 a2 w2 h2 => ?_)
  · simp only [wkQ_normal, evS, tyS, Bool.not_true, Bool.not_false, Nat.reduceAdd, Nat.reduceSub, Nat.reduceMul, Nat.reduceLT, Nat.reduceLeDiff, Nat.reduceEqDiff, reduceCtorEq, List.reduceReplicate, Int.reduceToNat, Int.reduceLE, Int.reduceLT]
    refine CallK.intro b19 rfl (awake_ev hγ hγ2) ?_
    simp only [wkQ_normal, evS, tyS, Bool.not_true, Bool.not_false, Nat.reduceAdd, Nat.reduceSub, Nat.reduceMul, Nat.reduceLT, Nat.reduceLeDiff, Nat.reduceEqDiff, reduceCtorEq, List.reduceReplicate, Int.reduceToNat, Int.reduceLE, Int.reduceLT]
    (repeat' (first | (with_reducible refine And.intro ?_ ?_) | ((first | refine GuardK.intro_f (fun h => ?_) (fun h => ?_) | refine GuardK.intro_t (fun h => ?_) (fun h => ?_) | refine CondK.intro (fun h => ?_) (fun h => ?_) | refine PickK.intro (fun h => ?_) (fun h => ?_)) <;> simp only [h, wkQ_normal, evS, tyS, Bool.not_true, Bool.not_false, Nat.reduceAdd, Nat.reduceSub, Nat.reduceMul, Nat.reduceLT, Nat.reduceLeDiff, Nat.reduceEqDiff, reduceCtorEq, List.reduceReplicate, Int.reduceToNat, Int.reduceLE, Int.reduceLT]) | (refine DrawK.intro (by kernel_rfl) (by kernel_rfl) ?_; simp only [wkQ_normal, evS, tyS, Bool.not_true, Bool.not_false, Nat.reduceAdd, Nat.reduceSub, Nat.reduceMul, Nat.reduceLT, Nat.reduceLeDiff, Nat.reduceEqDiff, reduceCtorEq, List.reduceReplicate, Int.reduceToNat, Int.reduceLE, Int.reduceLT])))
    all_goals first | done | rfl | exact .inl rfl | trace_state
  refine wp_seq (pieceW hP ⟨⟨96, [(0, A), (3, listA q.got), (5, .v (.int .i64 q.err))], γ⟩, []⟩ h0 h2 ?_ fun φ3 a3 w3 h3 => ?_)
  · simp only [wkQ_normal, evS, tyS, Bool.not_true, Bool.not_false, Nat.reduceAdd, Nat.reduceSub, Nat.reduceMul, Nat.reduceLT, Nat.reduceLeDiff, Nat.reduceEqDiff, reduceCtorEq, List.reduceReplicate, Int.reduceToNat, Int.reduceLE, Int.reduceLT]
    refine CallK.intro b11 (by simp [treeL, hA]) h11 ?_
    simp only [evS, tyS, Bool.not_true, Bool.not_false, Nat.reduceAdd, Nat.reduceSub, Nat.reduceMul, Nat.reduceLT, Nat.reduceLeDiff, Nat.reduceEqDiff, reduceCtorEq, List.reduceReplicate, Int.reduceToNat, Int.reduceLE, Int.reduceLT]
    refine CallK.intro b16 (by simp [treeL, treeA]) k16 ?_
    simp only [wkQ_normal, evS, tyS, Bool.not_true, Bool.not_false, Nat.reduceAdd, Nat.reduceSub, Nat.reduceMul, Nat.reduceLT, Nat.reduceLeDiff, Nat.reduceEqDiff, reduceCtorEq, List.reduceReplicate, Int.reduceToNat, Int.reduceLE, Int.reduceLT]
    (repeat' (first | (with_reducible refine And.intro ?_ ?_) | ((first | refine GuardK.intro_f (fun h => ?_) (fun h => ?_) | refine GuardK.intro_t (fun h => ?_) (fun h => ?_) | refine CondK.intro (fun h => ?_) (fun h => ?_) | refine PickK.intro (fun h => ?_) (fun h => ?_)) <;> simp only [h, wkQ_normal, evS, tyS, Bool.not_true, Bool.not_false, Nat.reduceAdd, Nat.reduceSub, Nat.reduceMul, Nat.reduceLT, Nat.reduceLeDiff, Nat.reduceEqDiff, reduceCtorEq, List.reduceReplicate, Int.reduceToNat, Int.reduceLE, Int.reduceLT]) | (refine DrawK.intro (by kernel_rfl) (by kernel_rfl) ?_; simp only [wkQ_normal, evS, tyS, Bool.not_true, Bool.not_false, Nat.reduceAdd, Nat.reduceSub, Nat.reduceMul, Nat.reduceLT, Nat.reduceLeDiff, Nat.reduceEqDiff, reduceCtorEq, List.reduceReplicate, Int.reduceToNat, Int.reduceLE, Int.reduceLT])))
    all_goals first | done | rfl | exact .inl rfl | trace_state
  refine tailW hP h0 h3 ?_
  rw [show Tryd.f6.results.toList = [.tmp 2] by kernel_rfl]
  by_cases he : q.err = 0
  · have e0 : (q.err != 0) = false := by rw [he]; rfl
    obtain ⟨hl3, _, hT⟩ := got_get2 hq he
    generalize q.got = T at *
    generalize q.err = err at *
    clear h1 h2 h3 hs hsc k16
    simp only [e0, evS, tyS, Bool.not_true, Bool.not_false, Nat.reduceAdd, Nat.reduceSub, Nat.reduceMul, Nat.reduceLT, Nat.reduceLeDiff, Nat.reduceEqDiff, reduceCtorEq, List.reduceReplicate, Int.reduceToNat, Int.reduceLE, Int.reduceLT]
    (repeat' (first | (with_reducible refine And.intro ?_ ?_) | ((first | refine GuardK.intro_f (fun h => ?_) (fun h => ?_) | refine GuardK.intro_t (fun h => ?_) (fun h => ?_) | refine CondK.intro (fun h => ?_) (fun h => ?_) | refine PickK.intro (fun h => ?_) (fun h => ?_)) <;> simp only [h, e0, evS, tyS, Bool.not_true, Bool.not_false, Nat.reduceAdd, Nat.reduceSub, Nat.reduceMul, Nat.reduceLT, Nat.reduceLeDiff, Nat.reduceEqDiff, reduceCtorEq, List.reduceReplicate, Int.reduceToNat, Int.reduceLE, Int.reduceLT]) | (refine DrawK.intro (by kernel_rfl) (by kernel_rfl) ?_; simp only [e0, evS, tyS, Bool.not_true, Bool.not_false, Nat.reduceAdd, Nat.reduceSub, Nat.reduceMul, Nat.reduceLT, Nat.reduceLeDiff, Nat.reduceEqDiff, reduceCtorEq, List.reduceReplicate, Int.reduceToNat, Int.reduceLE, Int.reduceLT])))
    refine LoopK.intro (joinM γ A l T) (fun k => k ≤ T.length) (fun k => T.length - k) 0 ?_ (Nat.zero_le _) (fun k hk => ?_)
    · simp only [joinM, joinA, joinH, evS, tyS, Bool.not_true, Bool.not_false, Nat.reduceAdd, Nat.reduceSub, Nat.reduceMul, Nat.reduceLT, Nat.reduceLeDiff, Nat.reduceEqDiff, reduceCtorEq, List.reduceReplicate, Int.reduceToNat, Int.reduceLE, Int.reduceLT]
      (repeat' (first | (with_reducible refine And.intro ?_ ?_) | ((first | refine GuardK.intro_f (fun h => ?_) (fun h => ?_) | refine GuardK.intro_t (fun h => ?_) (fun h => ?_) | refine CondK.intro (fun h => ?_) (fun h => ?_) | refine PickK.intro (fun h => ?_) (fun h => ?_)) <;> simp only [h, evS, tyS, Bool.not_true, Bool.not_false, Nat.reduceAdd, Nat.reduceSub, Nat.reduceMul, Nat.reduceLT, Nat.reduceLeDiff, Nat.reduceEqDiff, reduceCtorEq, List.reduceReplicate, Int.reduceToNat, Int.reduceLE, Int.reduceLT]) | (refine DrawK.intro (by kernel_rfl) (by kernel_rfl) ?_; simp only [evS, tyS, Bool.not_true, Bool.not_false, Nat.reduceAdd, Nat.reduceSub, Nat.reduceMul, Nat.reduceLT, Nat.reduceLeDiff, Nat.reduceEqDiff, reduceCtorEq, List.reduceReplicate, Int.reduceToNat, Int.reduceLE, Int.reduceLT])))
      all_goals first | done | rfl | exact .inl rfl | trace_state
    · have ew : IntKind.i64.wrap ((k : Int) + 1) = ((k + 1 : Nat) : Int) := i64w (by omega) (by omega)
      by_cases hkl : k < T.length
      · have dk : decide (k < T.length) = true := decide_eq_true hkl
        obtain ⟨f1, f2, f3, f4, f5⟩ := chain_get T 0 l.length k hkl hT
        have hat := listCells_at T k hkl
        have hlen := listCells_len T
        have eL : listA T = .sl false T.length T.length (listCells T) := by
          cases T with
          | nil => cases hkl
          | cons y T => rfl
        obtain ⟨s1, s2⟩ := head_size f3 f4
        have hA2 : A = .sl b l.length l.length (l.map byteC) := by
          rcases hAl with h | ⟨_, h⟩
          · exact h
          · rw [h] at f3; simp at f3
        have hjs := joinK_succ (l := l) hkl
        have hjl := joinK_le hT (k + 1)
        have hjl0 := joinK_le hT k
        generalize T[k]'hkl = x at *
        obtain ⟨t, p⟩ := x
        simp only at f3 f4 f5 s1 s2 hjs
        have hx6 : tokCells (t, p) = (tvals t p).map AV.v := rfl
        have hdl : 6 ≤ (List.drop (k * 6) (listCells T)).length := by rw [List.length_drop, hlen]; omega
        have ep : IntKind.i64.wrap ((p : Int) + (t.size : Int)) = ((p + t.size : Nat) : Int) := i64w (by omega) (by omega)
        have epp : p + t.size - p = t.size := by omega
        have hseg : List.take t.size (List.drop p (l.map byteC)) = ((l.drop p).take t.size).map byteC := map_cut _ _ _
        have hsl : ((l.drop p).take t.size).length = t.size := by rw [List.length_take, List.length_drop]; omega
        have hone := all_one_map ((l.drop p).take t.size)
        generalize (l.drop p).take t.size = seg at *
        have hat4 : (listCells T)[k * 6 + 4]? = some (.v (.int .i64 p)) := by
          have := congrArg (fun z : List AV => z[4]?) hat
          simp only [List.getElem?_take, List.getElem?_drop] at this
          rw [if_pos (by omega)] at this
          rw [this]; rfl
        have hat5 : (listCells T)[k * 6 + 5]? = some (.v (.int .i64 t.size)) := by
          have := congrArg (fun z : List AV => z[5]?) hat
          simp only [List.getElem?_take, List.getElem?_drop] at this
          rw [if_pos (by omega)] at this
          rw [this]; rfl
        have hs0 : t.size ≠ 0 := by omega
        cases k with
        | zero =>
          simp only [Nat.zero_mul, Nat.zero_add] at hat4 hat5
          have zk : decide ((0 : Int) < ((0 : Nat) : Int)) = false := by decide
          have hj1 : joinK l T 1 = seg := by rw [hjs, joinK_zero]; simp
          simp only [joinM, joinA, joinH, eL, hA2, dk, zk, hat4, hat5, ep, epp, hseg, hsl, hone, hs0, evS, tyS, Bool.not_true, Bool.not_false, Nat.reduceAdd, Nat.reduceSub, Nat.reduceMul, Nat.reduceLT, Nat.reduceLeDiff, Nat.reduceEqDiff, reduceCtorEq, List.reduceReplicate, Int.reduceToNat, Int.reduceLE, Int.reduceLT]
          (repeat' (first | (with_reducible refine And.intro ?_ ?_) | ((first | refine GuardK.intro_f (fun h => ?_) (fun h => ?_) | refine GuardK.intro_t (fun h => ?_) (fun h => ?_) | refine CondK.intro (fun h => ?_) (fun h => ?_) | refine PickK.intro (fun h => ?_) (fun h => ?_)) <;> simp only [h, dk, zk, hat4, hat5, ep, epp, hseg, hsl, hone, hs0, evS, tyS, Bool.not_true, Bool.not_false, Nat.reduceAdd, Nat.reduceSub, Nat.reduceMul, Nat.reduceLT, Nat.reduceLeDiff, Nat.reduceEqDiff, reduceCtorEq, List.reduceReplicate, Int.reduceToNat, Int.reduceLE, Int.reduceLT]) | (refine DrawK.intro (by kernel_rfl) (by kernel_rfl) ?_; simp only [dk, zk, hat4, hat5, ep, epp, hseg, hsl, hone, hs0, evS, tyS, Bool.not_true, Bool.not_false, Nat.reduceAdd, Nat.reduceSub, Nat.reduceMul, Nat.reduceLT, Nat.reduceLeDiff, Nat.reduceEqDiff, reduceCtorEq, List.reduceReplicate, Int.reduceToNat, Int.reduceLE, Int.reduceLT])))
          all_goals try omega
          · rw [List.length_drop, List.length_map]; omega
          rw [ew]
          refine loopC.intro 1 (by omega) ?_ (by omega)
          simp only [joinM, joinA, joinH, hj1, hsl, evS, tyS, Bool.not_true, Bool.not_false, Nat.reduceAdd, Nat.reduceSub, Nat.reduceMul, Nat.reduceLT, Nat.reduceLeDiff, Nat.reduceEqDiff, reduceCtorEq, List.reduceReplicate, Int.reduceToNat, Int.reduceLE, Int.reduceLT]
          (repeat' (first | (with_reducible refine And.intro ?_ ?_) | ((first | refine GuardK.intro_f (fun h => ?_) (fun h => ?_) | refine GuardK.intro_t (fun h => ?_) (fun h => ?_) | refine CondK.intro (fun h => ?_) (fun h => ?_) | refine PickK.intro (fun h => ?_) (fun h => ?_)) <;> simp only [h, hsl, evS, tyS, Bool.not_true, Bool.not_false, Nat.reduceAdd, Nat.reduceSub, Nat.reduceMul, Nat.reduceLT, Nat.reduceLeDiff, Nat.reduceEqDiff, reduceCtorEq, List.reduceReplicate, Int.reduceToNat, Int.reduceLE, Int.reduceLT]) | (refine DrawK.intro (by kernel_rfl) (by kernel_rfl) ?_; simp only [hsl, evS, tyS, Bool.not_true, Bool.not_false, Nat.reduceAdd, Nat.reduceSub, Nat.reduceMul, Nat.reduceLT, Nat.reduceLeDiff, Nat.reduceEqDiff, reduceCtorEq, List.reduceReplicate, Int.reduceToNat, Int.reduceLE, Int.reduceLT])))
          exact eL.symm
        | succ k =>
          have zk : decide ((0 : Int) < ((k + 1 : Nat) : Int)) = true := decide_eq_true (by omega)
          have hj2 : joinK l T (k + 1 + 1) = joinK l T (k + 1) ++ [32] ++ seg := by rw [hjs, if_neg (by omega)]
          have hJn : (joinK l T (k + 1)).length ≤ 65536 := by omega
          have hone2 := all_one_map (joinK l T (k + 1))
          generalize hJ : joinK l T (k + 1) = J at *
          simp only [joinM, joinA, joinH, eL, hA2, dk, zk, hat4, hat5, ep, epp, hseg, hsl, hone, hs0, hJ, evS, tyS, Bool.not_true, Bool.not_false, Nat.reduceAdd, Nat.reduceSub, Nat.reduceMul, Nat.reduceLT, Nat.reduceLeDiff, Nat.reduceEqDiff, reduceCtorEq, List.reduceReplicate, Int.reduceToNat, Int.reduceLE, Int.reduceLT]
          (repeat' (first | (with_reducible refine And.intro ?_ ?_) | ((first | refine GuardK.intro_f (fun h => ?_) (fun h => ?_) | refine GuardK.intro_t (fun h => ?_) (fun h => ?_) | refine CondK.intro (fun h => ?_) (fun h => ?_) | refine PickK.intro (fun h => ?_) (fun h => ?_)) <;> simp only [h, dk, zk, hat4, hat5, ep, epp, hseg, hsl, hone, hs0, evS, tyS, Bool.not_true, Bool.not_false, Nat.reduceAdd, Nat.reduceSub, Nat.reduceMul, Nat.reduceLT, Nat.reduceLeDiff, Nat.reduceEqDiff, reduceCtorEq, List.reduceReplicate, Int.reduceToNat, Int.reduceLE, Int.reduceLT]) | (refine DrawK.intro (by kernel_rfl) (by kernel_rfl) ?_; simp only [dk, zk, hat4, hat5, ep, epp, hseg, hsl, hone, hs0, evS, tyS, Bool.not_true, Bool.not_false, Nat.reduceAdd, Nat.reduceSub, Nat.reduceMul, Nat.reduceLT, Nat.reduceLeDiff, Nat.reduceEqDiff, reduceCtorEq, List.reduceReplicate, Int.reduceToNat, Int.reduceLE, Int.reduceLT])))
          all_goals try omega
          · rw [List.length_drop, List.length_map]; omega
          have hcells : List.take (J.length + 1) (List.map byteC J ++ [.v (.int .u8 32)]) ++ List.map byteC seg = (J ++ [32] ++ seg).map byteC := by
            rw [List.take_of_length_le (by simp), List.map_append, List.map_append]; rfl
          have hnl : J.length + 1 + t.size = (J ++ [32] ++ seg).length := by simp [hsl]; omega
          rw [hcells, ew, show 2 * k + 1 + 1 = 2 * (k + 1) by omega, hnl, ← hj2]
          refine loopC.intro (k + 1 + 1) (by omega) ?_ (by omega)
          refine ⟨rfl, rfl, ?_, .inr ⟨rfl, ?_, ?_⟩⟩
          · simp only [joinM, joinA, evS, tyS, Bool.not_true, Bool.not_false, Nat.reduceAdd, Nat.reduceSub, Nat.reduceMul, Nat.reduceLT, Nat.reduceLeDiff, Nat.reduceEqDiff, reduceCtorEq, List.reduceReplicate, Int.reduceToNat, Int.reduceLE, Int.reduceLT]
            (repeat' (first | (with_reducible refine And.intro ?_ ?_) | ((first | refine GuardK.intro_f (fun h => ?_) (fun h => ?_) | refine GuardK.intro_t (fun h => ?_) (fun h => ?_) | refine CondK.intro (fun h => ?_) (fun h => ?_) | refine PickK.intro (fun h => ?_) (fun h => ?_)) <;> simp only [h, evS, tyS, Bool.not_true, Bool.not_false, Nat.reduceAdd, Nat.reduceSub, Nat.reduceMul, Nat.reduceLT, Nat.reduceLeDiff, Nat.reduceEqDiff, reduceCtorEq, List.reduceReplicate, Int.reduceToNat, Int.reduceLE, Int.reduceLT]) | (refine DrawK.intro (by kernel_rfl) (by kernel_rfl) ?_; simp only [evS, tyS, Bool.not_true, Bool.not_false, Nat.reduceAdd, Nat.reduceSub, Nat.reduceMul, Nat.reduceLT, Nat.reduceLeDiff, Nat.reduceEqDiff, reduceCtorEq, List.reduceReplicate, Int.reduceToNat, Int.reduceLE, Int.reduceLT])))
            exact eL.symm
          · simp [okRefL, okRef, joinM, joinA, joinH, okRef_list]
          · exact okB1 _ _ _ _
      · have hk2 : k = T.length := by omega
        subst hk2
        have dk : decide (T.length < T.length) = false := decide_eq_false (by omega)
        have hall := joinK_all l T
        have hjl := joinK_le hT T.length
        by_cases hT0 : T = []
        · subst hT0
          have k16n := lexScan_nil (γ := γ) hγ2
          have el : listA [] = .v (.slice none 0 0) := rfl
          have zb : decide ((32768 : Int) < 0) = false := by decide
          have z0 : ((0 : Int) != 0) = false := by decide
          have zl : decide ((0 : Int) < 0) = false := by decide
          show kwp Tryd.prog _ _ ⟨⟨96, [(0, A), (3, .v (.slice none 0 0)), (6, .v (.slice none 0 0)), (7, .v (.int .i64 ((0 : Nat) : Int)))], γ⟩, []⟩
          have zn : decide (((0 : Nat) : Int) < 0) = false := by decide
          simp only [zb, zn, evS, tyS, Bool.not_true, Bool.not_false, Nat.reduceAdd, Nat.reduceSub, Nat.reduceMul, Nat.reduceLT, Nat.reduceLeDiff, Nat.reduceEqDiff, reduceCtorEq, List.reduceReplicate, Int.reduceToNat, Int.reduceLE, Int.reduceLT]
          (repeat' (first | (with_reducible refine And.intro ?_ ?_) | ((first | refine GuardK.intro_f (fun h => ?_) (fun h => ?_) | refine GuardK.intro_t (fun h => ?_) (fun h => ?_) | refine CondK.intro (fun h => ?_) (fun h => ?_) | refine PickK.intro (fun h => ?_) (fun h => ?_)) <;> simp only [h, zb, zn, evS, tyS, Bool.not_true, Bool.not_false, Nat.reduceAdd, Nat.reduceSub, Nat.reduceMul, Nat.reduceLT, Nat.reduceLeDiff, Nat.reduceEqDiff, reduceCtorEq, List.reduceReplicate, Int.reduceToNat, Int.reduceLE, Int.reduceLT]) | (refine DrawK.intro (by kernel_rfl) (by kernel_rfl) ?_; simp only [zb, zn, evS, tyS, Bool.not_true, Bool.not_false, Nat.reduceAdd, Nat.reduceSub, Nat.reduceMul, Nat.reduceLT, Nat.reduceLeDiff, Nat.reduceEqDiff, reduceCtorEq, List.reduceReplicate, Int.reduceToNat, Int.reduceLE, Int.reduceLT])))
          all_goals try (((try simp only [decide_eq_true_eq, decide_eq_false_iff_not, beq_iff_eq, bne_iff_ne, ne_eq, beq_eq_false_iff_ne, bne_eq_false_iff_eq] at *) <;> (try omega)); done)
          refine CallK.intro b16 rfl k16n ?_
          simp only [z0, evS, tyS, Bool.not_true, Bool.not_false, Nat.reduceAdd, Nat.reduceSub, Nat.reduceMul, Nat.reduceLT, Nat.reduceLeDiff, Nat.reduceEqDiff, reduceCtorEq, List.reduceReplicate, Int.reduceToNat, Int.reduceLE, Int.reduceLT]
          (repeat' (first | (with_reducible refine And.intro ?_ ?_) | ((first | refine GuardK.intro_f (fun h => ?_) (fun h => ?_) | refine GuardK.intro_t (fun h => ?_) (fun h => ?_) | refine CondK.intro (fun h => ?_) (fun h => ?_) | refine PickK.intro (fun h => ?_) (fun h => ?_)) <;> simp only [h, z0, evS, tyS, Bool.not_true, Bool.not_false, Nat.reduceAdd, Nat.reduceSub, Nat.reduceMul, Nat.reduceLT, Nat.reduceLeDiff, Nat.reduceEqDiff, reduceCtorEq, List.reduceReplicate, Int.reduceToNat, Int.reduceLE, Int.reduceLT]) | (refine DrawK.intro (by kernel_rfl) (by kernel_rfl) ?_; simp only [z0, evS, tyS, Bool.not_true, Bool.not_false, Nat.reduceAdd, Nat.reduceSub, Nat.reduceMul, Nat.reduceLT, Nat.reduceLeDiff, Nat.reduceEqDiff, reduceCtorEq, List.reduceReplicate, Int.reduceToNat, Int.reduceLE, Int.reduceLT])))
          refine LoopK.intro (fun _ : Unit => ⟨⟨96, [(3, .v (.slice none 0 0)), (8, .v (.slice none 0 0)), (11, .v (.int .i64 0))], γ⟩, []⟩) (fun _ => True) (fun _ => 0) () ?_ trivial (fun _ _ => ?_)
          · simp only [evS, tyS, Bool.not_true, Bool.not_false, Nat.reduceAdd, Nat.reduceSub, Nat.reduceMul, Nat.reduceLT, Nat.reduceLeDiff, Nat.reduceEqDiff, reduceCtorEq, List.reduceReplicate, Int.reduceToNat, Int.reduceLE, Int.reduceLT]
            (repeat' (first | (with_reducible refine And.intro ?_ ?_) | ((first | refine GuardK.intro_f (fun h => ?_) (fun h => ?_) | refine GuardK.intro_t (fun h => ?_) (fun h => ?_) | refine CondK.intro (fun h => ?_) (fun h => ?_) | refine PickK.intro (fun h => ?_) (fun h => ?_)) <;> simp only [h, evS, tyS, Bool.not_true, Bool.not_false, Nat.reduceAdd, Nat.reduceSub, Nat.reduceMul, Nat.reduceLT, Nat.reduceLeDiff, Nat.reduceEqDiff, reduceCtorEq, List.reduceReplicate, Int.reduceToNat, Int.reduceLE, Int.reduceLT]) | (refine DrawK.intro (by kernel_rfl) (by kernel_rfl) ?_; simp only [evS, tyS, Bool.not_true, Bool.not_false, Nat.reduceAdd, Nat.reduceSub, Nat.reduceMul, Nat.reduceLT, Nat.reduceLeDiff, Nat.reduceEqDiff, reduceCtorEq, List.reduceReplicate, Int.reduceToNat, Int.reduceLE, Int.reduceLT])))
            all_goals first | done | rfl | exact .inl rfl | trace_state
          · simp only [zl, evS, tyS, Bool.not_true, Bool.not_false, Nat.reduceAdd, Nat.reduceSub, Nat.reduceMul, Nat.reduceLT, Nat.reduceLeDiff, Nat.reduceEqDiff, reduceCtorEq, List.reduceReplicate, Int.reduceToNat, Int.reduceLE, Int.reduceLT]
            (repeat' (first | (with_reducible refine And.intro ?_ ?_) | ((first | refine GuardK.intro_f (fun h => ?_) (fun h => ?_) | refine GuardK.intro_t (fun h => ?_) (fun h => ?_) | refine CondK.intro (fun h => ?_) (fun h => ?_) | refine PickK.intro (fun h => ?_) (fun h => ?_)) <;> simp only [h, zl, evS, tyS, Bool.not_true, Bool.not_false, Nat.reduceAdd, Nat.reduceSub, Nat.reduceMul, Nat.reduceLT, Nat.reduceLeDiff, Nat.reduceEqDiff, reduceCtorEq, List.reduceReplicate, Int.reduceToNat, Int.reduceLE, Int.reduceLT]) | (refine DrawK.intro (by kernel_rfl) (by kernel_rfl) ?_; simp only [zl, evS, tyS, Bool.not_true, Bool.not_false, Nat.reduceAdd, Nat.reduceSub, Nat.reduceMul, Nat.reduceLT, Nat.reduceLeDiff, Nat.reduceEqDiff, reduceCtorEq, List.reduceReplicate, Int.reduceToNat, Int.reduceLE, Int.reduceLT])))
            all_goals first | done | rfl | trace_state
        · have eL : listA T = .sl false T.length T.length (listCells T) := by
            cases T with
            | nil => exact absurd rfl hT0
            | cons y T => rfl
          obtain ⟨n, hn⟩ : ∃ n, T.length = n + 1 := ⟨T.length - 1, by have := List.length_pos_iff.2 hT0; omega⟩
          have hl0 : l ≠ [] := by
            obtain ⟨_, _, g3, _⟩ := chain_get T 0 l.length 0 (by omega) hT
            intro h; rw [h] at g3; simp at g3
          have hA2 : A = .sl b l.length l.length (l.map byteC) := by
            rcases hAl with h | ⟨_, h⟩
            · exact h
            · exact absurd h hl0
          obtain ⟨J, hJ⟩ : ∃ J, J = joinK l T T.length := ⟨_, rfl⟩
          have hst : joinM γ A l T T.length = ⟨⟨96, [(0, A), (3, listA T), (6, .own 0 (2 * n) J.length), (7, .v (.int .i64 T.length))], γ⟩, [⟨2 * n, 5, J.map byteC⟩]⟩ := by
            unfold joinM
            rw [hJ, hn]; rfl
          rw [← hJ] at hall hjl
          rw [hst]
          by_cases hbig : 32768 < J.length
          · have d1 : decide ((32768 : Int) < (J.length : Int)) = true := decide_eq_true (by omega)
            have d2 : decide ((16384 : Int) < (l.length : Int)) = true := decide_eq_true (by omega)
            simp only [eL, hA2, dk, d1, d2, evS, tyS, Bool.not_true, Bool.not_false, Nat.reduceAdd, Nat.reduceSub, Nat.reduceMul, Nat.reduceLT, Nat.reduceLeDiff, Nat.reduceEqDiff, reduceCtorEq, List.reduceReplicate, Int.reduceToNat, Int.reduceLE, Int.reduceLT]
            (repeat' (first | (with_reducible refine And.intro ?_ ?_) | ((first | refine GuardK.intro_f (fun h => ?_) (fun h => ?_) | refine GuardK.intro_t (fun h => ?_) (fun h => ?_) | refine CondK.intro (fun h => ?_) (fun h => ?_) | refine PickK.intro (fun h => ?_) (fun h => ?_)) <;> simp only [h, dk, d1, d2, evS, tyS, Bool.not_true, Bool.not_false, Nat.reduceAdd, Nat.reduceSub, Nat.reduceMul, Nat.reduceLT, Nat.reduceLeDiff, Nat.reduceEqDiff, reduceCtorEq, List.reduceReplicate, Int.reduceToNat, Int.reduceLE, Int.reduceLT]) | (refine DrawK.intro (by kernel_rfl) (by kernel_rfl) ?_; simp only [dk, d1, d2, evS, tyS, Bool.not_true, Bool.not_false, Nat.reduceAdd, Nat.reduceSub, Nat.reduceMul, Nat.reduceLT, Nat.reduceLeDiff, Nat.reduceEqDiff, reduceCtorEq, List.reduceReplicate, Int.reduceToNat, Int.reduceLE, Int.reduceLT])))
            all_goals first | done | rfl | trace_state
          · have d1 : decide ((32768 : Int) < (J.length : Int)) = false := decide_eq_false (by omega)
            have k16J := lexScan_ev hγ hγ2 true J (by omega)
            obtain ⟨T', h1, h2⟩ := items_whole (pairsOf l T) (chain_good T 0 _ hT) (by rw [← hall]; omega)
            rw [← hall] at h1
            rw [scan_ok h1] at k16J
            have h3 : T'.map (fun x => x.1) = T.map (fun x => x.1) := by rw [h2]; unfold pairsOf; rw [List.map_map]; rfl
            have hlT : T'.length = T.length := by have := congrArg List.length h3; simpa using this
            have eL' : listA T' = .sl false T.length T.length (listCells T') := by
              rw [← hlT]
              cases T' with
              | nil => rw [hn] at hlT; cases hlT
              | cons y T' => rfl
            have hlen := listCells_len T
            have hlen' := listCells_len T'
            have z0 : ((0 : Int) != 0) = false := by decide
            rw [eL'] at k16J
            simp only [eL, hA2, dk, d1, evS, tyS, Bool.not_true, Bool.not_false, Nat.reduceAdd, Nat.reduceSub, Nat.reduceMul, Nat.reduceLT, Nat.reduceLeDiff, Nat.reduceEqDiff, reduceCtorEq, List.reduceReplicate, Int.reduceToNat, Int.reduceLE, Int.reduceLT]
            (repeat' (first | (with_reducible refine And.intro ?_ ?_) | ((first | refine GuardK.intro_f (fun h => ?_) (fun h => ?_) | refine GuardK.intro_t (fun h => ?_) (fun h => ?_) | refine CondK.intro (fun h => ?_) (fun h => ?_) | refine PickK.intro (fun h => ?_) (fun h => ?_)) <;> simp only [h, dk, d1, evS, tyS, Bool.not_true, Bool.not_false, Nat.reduceAdd, Nat.reduceSub, Nat.reduceMul, Nat.reduceLT, Nat.reduceLeDiff, Nat.reduceEqDiff, reduceCtorEq, List.reduceReplicate, Int.reduceToNat, Int.reduceLE, Int.reduceLT]) | (refine DrawK.intro (by kernel_rfl) (by kernel_rfl) ?_; simp only [dk, d1, evS, tyS, Bool.not_true, Bool.not_false, Nat.reduceAdd, Nat.reduceSub, Nat.reduceMul, Nat.reduceLT, Nat.reduceLeDiff, Nat.reduceEqDiff, reduceCtorEq, List.reduceReplicate, Int.reduceToNat, Int.reduceLE, Int.reduceLT])))
            refine CallK.lend b16 [.sl true J.length J.length (J.map byteC)] ?_ k16J (by simp only [noBor, listCells_vs, noBorL_vs, noBorL]; rfl) ?_
            · simp only [fzL_cons, fzL_nil, and_true]
              exact fz_lend rfl (Nat.le_refl _) c5 (.inl rfl) List.prefix_rfl
            simp only [z0, bne_self, evS, tyS, Bool.not_true, Bool.not_false, Nat.reduceAdd, Nat.reduceSub, Nat.reduceMul, Nat.reduceLT, Nat.reduceLeDiff, Nat.reduceEqDiff, reduceCtorEq, List.reduceReplicate, Int.reduceToNat, Int.reduceLE, Int.reduceLT]
            (repeat' (first | (with_reducible refine And.intro ?_ ?_) | ((first | refine GuardK.intro_f (fun h => ?_) (fun h => ?_) | refine GuardK.intro_t (fun h => ?_) (fun h => ?_) | refine CondK.intro (fun h => ?_) (fun h => ?_) | refine PickK.intro (fun h => ?_) (fun h => ?_)) <;> simp only [h, z0, bne_self, evS, tyS, Bool.not_true, Bool.not_false, Nat.reduceAdd, Nat.reduceSub, Nat.reduceMul, Nat.reduceLT, Nat.reduceLeDiff, Nat.reduceEqDiff, reduceCtorEq, List.reduceReplicate, Int.reduceToNat, Int.reduceLE, Int.reduceLT]) | (refine DrawK.intro (by kernel_rfl) (by kernel_rfl) ?_; simp only [z0, bne_self, evS, tyS, Bool.not_true, Bool.not_false, Nat.reduceAdd, Nat.reduceSub, Nat.reduceMul, Nat.reduceLT, Nat.reduceLeDiff, Nat.reduceEqDiff, reduceCtorEq, List.reduceReplicate, Int.reduceToNat, Int.reduceLE, Int.reduceLT])))
            refine LoopK.intro (fun j : Nat => ⟨⟨96, [(3, .sl false T.length T.length (listCells T)), (8, .sl false T.length T.length (listCells T')), (11, .v (.int .i64 j))], γ⟩, []⟩) (fun j => j ≤ T.length) (fun j => T.length - j) 0 ?_ (Nat.zero_le _) (fun j hj => ?_)
            · simp only [evS, tyS, Bool.not_true, Bool.not_false, Nat.reduceAdd, Nat.reduceSub, Nat.reduceMul, Nat.reduceLT, Nat.reduceLeDiff, Nat.reduceEqDiff, reduceCtorEq, List.reduceReplicate, Int.reduceToNat, Int.reduceLE, Int.reduceLT]
              (repeat' (first | (with_reducible refine And.intro ?_ ?_) | ((first | refine GuardK.intro_f (fun h => ?_) (fun h => ?_) | refine GuardK.intro_t (fun h => ?_) (fun h => ?_) | refine CondK.intro (fun h => ?_) (fun h => ?_) | refine PickK.intro (fun h => ?_) (fun h => ?_)) <;> simp only [h, evS, tyS, Bool.not_true, Bool.not_false, Nat.reduceAdd, Nat.reduceSub, Nat.reduceMul, Nat.reduceLT, Nat.reduceLeDiff, Nat.reduceEqDiff, reduceCtorEq, List.reduceReplicate, Int.reduceToNat, Int.reduceLE, Int.reduceLT]) | (refine DrawK.intro (by kernel_rfl) (by kernel_rfl) ?_; simp only [evS, tyS, Bool.not_true, Bool.not_false, Nat.reduceAdd, Nat.reduceSub, Nat.reduceMul, Nat.reduceLT, Nat.reduceLeDiff, Nat.reduceEqDiff, reduceCtorEq, List.reduceReplicate, Int.reduceToNat, Int.reduceLE, Int.reduceLT])))
              all_goals first | done | rfl | exact .inl rfl | trace_state
            · have ew : IntKind.i64.wrap ((j : Int) + 1) = ((j + 1 : Nat) : Int) := i64w (by omega) (by omega)
              by_cases hjl : j < T.length
              · have dj : decide (j < T.length) = true := decide_eq_true hjl
                have hat := listCells_at T j hjl
                have hat' := listCells_at T' j (by omega)
                have hsame : (T'[j]'(by omega)).1 = (T[j]'hjl).1 := by
                  have := congrArg (fun z : List TokD => z[j]?) h3
                  simpa [hjl, hlT] using this
                generalize T[j]'hjl = x at *
                generalize T'[j]'(by omega) = y at *
                obtain ⟨t, p⟩ := x
                obtain ⟨t', p'⟩ := y
                simp only at hsame
                subst hsame
                have hx6 : tokCells (t', p) = (tvals t' p).map AV.v := rfl
                have hy6 : tokCells (t', p') = (tvals t' p').map AV.v := rfl
                have hdl : 6 ≤ (List.drop (j * 6) (listCells T)).length := by rw [List.length_drop, hlen]; omega
                have hdl' : 6 ≤ (List.drop (j * 6) (listCells T')).length := by rw [List.length_drop, hlen']; omega
                simp only [dj, hlen, hlen', hat, hat', hx6, hy6, tvals, hdl, hdl', evS, tyS, Bool.not_true, Bool.not_false, Nat.reduceAdd, Nat.reduceSub, Nat.reduceMul, Nat.reduceLT, Nat.reduceLeDiff, Nat.reduceEqDiff, reduceCtorEq, List.reduceReplicate, Int.reduceToNat, Int.reduceLE, Int.reduceLT]
                (repeat' (first | (with_reducible refine And.intro ?_ ?_) | ((first | refine GuardK.intro_f (fun h => ?_) (fun h => ?_) | refine GuardK.intro_t (fun h => ?_) (fun h => ?_) | refine CondK.intro (fun h => ?_) (fun h => ?_) | refine PickK.intro (fun h => ?_) (fun h => ?_)) <;> simp only [h, dj, hlen, hlen', hat, hat', hx6, hy6, tvals, hdl, hdl', evS, tyS, Bool.not_true, Bool.not_false, Nat.reduceAdd, Nat.reduceSub, Nat.reduceMul, Nat.reduceLT, Nat.reduceLeDiff, Nat.reduceEqDiff, reduceCtorEq, List.reduceReplicate, Int.reduceToNat, Int.reduceLE, Int.reduceLT]) | (refine DrawK.intro (by kernel_rfl) (by kernel_rfl) ?_; simp only [dj, hlen, hlen', hat, hat', hx6, hy6, tvals, hdl, hdl', evS, tyS, Bool.not_true, Bool.not_false, Nat.reduceAdd, Nat.reduceSub, Nat.reduceMul, Nat.reduceLT, Nat.reduceLeDiff, Nat.reduceEqDiff, reduceCtorEq, List.reduceReplicate, Int.reduceToNat, Int.reduceLE, Int.reduceLT])))
                all_goals try omega
                refine CallK.intro b21 (by simp [treeL, treeA]) (same_ev (γ := γ) t' (p : Int) (p' : Int)) ?_
                simp only [ew, evS, tyS, Bool.not_true, Bool.not_false, Nat.reduceAdd, Nat.reduceSub, Nat.reduceMul, Nat.reduceLT, Nat.reduceLeDiff, Nat.reduceEqDiff, reduceCtorEq, List.reduceReplicate, Int.reduceToNat, Int.reduceLE, Int.reduceLT]
                refine loopC.intro (j + 1) (by omega) ?_ (by omega)
                simp only [evS, tyS, Bool.not_true, Bool.not_false, Nat.reduceAdd, Nat.reduceSub, Nat.reduceMul, Nat.reduceLT, Nat.reduceLeDiff, Nat.reduceEqDiff, reduceCtorEq, List.reduceReplicate, Int.reduceToNat, Int.reduceLE, Int.reduceLT]
                (repeat' (first | (with_reducible refine And.intro ?_ ?_) | ((first | refine GuardK.intro_f (fun h => ?_) (fun h => ?_) | refine GuardK.intro_t (fun h => ?_) (fun h => ?_) | refine CondK.intro (fun h => ?_) (fun h => ?_) | refine PickK.intro (fun h => ?_) (fun h => ?_)) <;> simp only [h, evS, tyS, Bool.not_true, Bool.not_false, Nat.reduceAdd, Nat.reduceSub, Nat.reduceMul, Nat.reduceLT, Nat.reduceLeDiff, Nat.reduceEqDiff, reduceCtorEq, List.reduceReplicate, Int.reduceToNat, Int.reduceLE, Int.reduceLT]) | (refine DrawK.intro (by kernel_rfl) (by kernel_rfl) ?_; simp only [evS, tyS, Bool.not_true, Bool.not_false, Nat.reduceAdd, Nat.reduceSub, Nat.reduceMul, Nat.reduceLT, Nat.reduceLeDiff, Nat.reduceEqDiff, reduceCtorEq, List.reduceReplicate, Int.reduceToNat, Int.reduceLE, Int.reduceLT])))
                all_goals first | done | rfl | exact .inl rfl | trace_state
              · have dj : decide (j < T.length) = false := decide_eq_false hjl
                simp only [dj, evS, tyS, Bool.not_true, Bool.not_false, Nat.reduceAdd, Nat.reduceSub, Nat.reduceMul, Nat.reduceLT, Nat.reduceLeDiff, Nat.reduceEqDiff, reduceCtorEq, List.reduceReplicate, Int.reduceToNat, Int.reduceLE, Int.reduceLT]
                (repeat' (first | (with_reducible refine And.intro ?_ ?_) | ((first | refine GuardK.intro_f (fun h => ?_) (fun h => ?_) | refine GuardK.intro_t (fun h => ?_) (fun h => ?_) | refine CondK.intro (fun h => ?_) (fun h => ?_) | refine PickK.intro (fun h => ?_) (fun h => ?_)) <;> simp only [h, dj, evS, tyS, Bool.not_true, Bool.not_false, Nat.reduceAdd, Nat.reduceSub, Nat.reduceMul, Nat.reduceLT, Nat.reduceLeDiff, Nat.reduceEqDiff, reduceCtorEq, List.reduceReplicate, Int.reduceToNat, Int.reduceLE, Int.reduceLT]) | (refine DrawK.intro (by kernel_rfl) (by kernel_rfl) ?_; simp only [dj, evS, tyS, Bool.not_true, Bool.not_false, Nat.reduceAdd, Nat.reduceSub, Nat.reduceMul, Nat.reduceLT, Nat.reduceLeDiff, Nat.reduceEqDiff, reduceCtorEq, List.reduceReplicate, Int.reduceToNat, Int.reduceLE, Int.reduceLT])))
                all_goals first | done | rfl | trace_state
  · have e0 : (q.err != 0) = true := by simpa using he
    have eg : q.got = [] := by unfold Told.got; rw [if_neg he]
    have el : listA [] = .v (.slice none 0 0) := rfl
    have z0 : (((0 : Nat) : Int) == 0) = true := by decide
    rw [eg, el]
    simp only [e0, z0, evS, tyS, Bool.not_true, Bool.not_false, Nat.reduceAdd, Nat.reduceSub, Nat.reduceMul, Nat.reduceLT, Nat.reduceLeDiff, Nat.reduceEqDiff, reduceCtorEq, List.reduceReplicate, Int.reduceToNat, Int.reduceLE, Int.reduceLT]
    (repeat' (first | (with_reducible refine And.intro ?_ ?_) | ((first | refine GuardK.intro_f (fun h => ?_) (fun h => ?_) | refine GuardK.intro_t (fun h => ?_) (fun h => ?_) | refine CondK.intro (fun h => ?_) (fun h => ?_) | refine PickK.intro (fun h => ?_) (fun h => ?_)) <;> simp only [h, e0, z0, evS, tyS, Bool.not_true, Bool.not_false, Nat.reduceAdd, Nat.reduceSub, Nat.reduceMul, Nat.reduceLT, Nat.reduceLeDiff, Nat.reduceEqDiff, reduceCtorEq, List.reduceReplicate, Int.reduceToNat, Int.reduceLE, Int.reduceLT]) | (refine DrawK.intro (by kernel_rfl) (by kernel_rfl) ?_; simp only [e0, z0, evS, tyS, Bool.not_true, Bool.not_false, Nat.reduceAdd, Nat.reduceSub, Nat.reduceMul, Nat.reduceLT, Nat.reduceLeDiff, Nat.reduceEqDiff, reduceCtorEq, List.reduceReplicate, Int.reduceToNat, Int.reduceLE, Int.reduceLT])))
    all_goals first | done | rfl | trace_state
end Go.Proofs.YtplnhipgifcafaaDoor
/- LexJoined: for every text the law answers true, and the text reads afterwards as it did: her row, and the card over it. -/
namespace Go.Proofs.YtplnhipgifcafaaDoor
set_option linter.all false
open Go Go.Ev Go.Lib
open Go.ChangeShapes Go.WideShapes Go.ChangeAt Go.RowKit
open Go.ChangeMaps (open_string shut_string)
namespace lexJoined
set_option maxRecDepth 100000 in
theorem contract (H : Type) (enc : TypeId × Value → H) (W : World) (base : Nat) (args : Array Value) (ds gs : List (DataW H)) (before : List MemPlace)
    (hval : ∀ (j : Nat) t v, Tryd.f6.params[j]? = some t → args[j]? = some v → Value.okWide Tryd.prog W .any base t v)
    (hW : DataW.Whole enc Tryd.prog Tryd.f6.params.toList Rows.lexJoinedSpec.vars false W args.toList ds gs before)
    (hsz : (DataW.weightsEach Tryd.prog (Tryd.f6.params.toList ++ Rows.lexJoinedSpec.plain.varTypes Tryd.prog) (ds ++ gs)).all (· ≤ reachBytes) = true)
    (hL : laidMet Tryd.prog laidL W) (hS : W.ShapedOpen Tryd.prog) :
    Calls Tryd.prog 6 args W fun e W' => ∃ v, e = .returned v ∧ Rows.lexJoinedSpec.post enc Tryd.prog Tryd.f6 false true false false W args v W' := by
  have hW' := hW
  obtain ⟨p, q, hA0, hV, rfl, hfz, hnd⟩ := hW
  have hA : DataW.TrodAll enc Tryd.prog W 0 (fun _ => true) true Tryd.f6.params.toList args.toList ds p := hA0
  rw [Tryd.params6] at hA hval hsz
  obtain ⟨v0, vs0, d0, ds0, p0, q0, hargs, rfl, rfl, h0, r0⟩ := trodAll_cons hA
  obtain ⟨rfl, rfl, rfl⟩ := trodAll_nil r0
  obtain rfl : args = #[v0] := by cases args; simp_all
  obtain ⟨rfl, rfl⟩ := trodVars_none hV
  have hs0 := okWide_sl Tryd.underlying22 (hval 0 22 v0 rfl rfl)
  obtain ⟨a0, len0, cap0, hv0⟩ := okWide_slice Tryd.underlying22 (hval 0 22 v0 rfl rfl)
  have k0 := h0
  have lt0 : ∀ x ∈ p0, x.block < W.heap.size := by obtain ⟨m, hm⟩ := k0; exact DataW.trod_lt m _ _ _ hm
  have y0 : len0 * 1 ≤ 140737488351232 := by
    rw [hv0] at h0
    exact size_ints hsz (j := 0) (t := 22) rfl rfl Tryd.underlying22 Tryd.underlying5 (by kernel_rfl) (by kernel_rfl) h0
  let c : Cx := cx0 Tryd.prog (fun _ => False) (fun _ => False) W
  have hrow : ∃ l : List UInt8, l.length = len0 ∧ ((v0 = .slice none 0 0 ∧ l = [] ∧ rel (.v (.slice none 0 0)) c v0) ∨ rel (.sl false l.length l.length (l.map byteC)) c v0) := by
    have h0' := h0
    rw [hv0] at h0'
    obtain ⟨fuel, hf⟩ := h0'
    rcases open_ints Tryd.underlying22 Tryd.underlying5 (by kernel_rfl) hf with ⟨hcs, _⟩ | ⟨x, l, cp, zs, hcs, _, hl, hm, hz, _, hcell, hwz⟩
    · simp [Value.cells] at hcs
      obtain ⟨rfl, rfl, rfl⟩ := hcs
      exact ⟨[], rfl, .inl ⟨hv0, rfl, by simp only [rel]; exact hv0⟩⟩
    · simp [Value.cells] at hcs
      obtain ⟨rfl, rfl, rfl⟩ := hcs
      exact rowAV (c := c) rfl (fun r hr => ⟨hr, by simp⟩) hv0 hs0 (by simpa using hz) (fun y hy => by cases hy; exact hcell) hwz
  clear hA0 hsz
  obtain ⟨l, hl, hrow⟩ := hrow
  have hl' : l.length ≤ 140737488351232 := by omega
  obtain ⟨m, hm⟩ := maxLen_cell hS
  obtain ⟨te, pe, hpe⟩ := errRange_cell hL
  have hcalls : Calls Tryd.prog 6 #[v0] W fun e w' => ∃ u, e = .returned u ∧ rel (.v (.bool true)) (cx0 Tryd.prog (fun _ => False) (fun _ => False) w') u ∧ Below W.heap.size W w' := by
    rcases hrow with ⟨rfl, rfl, hr⟩ | hr
    · refine calls_of_ev (lexJoined_ev (gam_gl m te pe) (gam_glw m te pe) (.v (.slice none 0 0)) rfl false [] (by simp) (.inr ⟨rfl, rfl⟩) lent_nil) hm hpe ?_
      simp only [relL, rel]
      exact ⟨_, _, rfl, rfl, rfl⟩
    · refine calls_of_ev (lexJoined_ev (gam_gl m te pe) (gam_glw m te pe) (.sl false l.length l.length (l.map byteC)) rfl false l hl' (.inl rfl) (lent_ev false l hl')) hm hpe ?_
      simp only [relL]
      exact ⟨_, _, rfl, hr, rfl⟩
  refine hcalls.mono fun e W' ⟨u, he, hu, bel⟩ => ?_
  simp only [rel] at hu
  subst he
  subst hu
  exact ⟨_, rfl, _, _, _, [], _, [], hW', trodAll_mk1 (shut_bool Tryd.underlying4 _), (trodAll_cons_mk (Below.trod laidOut (by kernel_rfl) (of_decide_eq_true (by kernel_rfl)) k0 bel lt0) trodAll_mk0), rfl, bel.frame _, fun h => by cases h⟩
theorem witness_row (os : Os) {H : Type} (enc : TypeId × Value → H) : (OpenSpec.ofChange Rows.lexJoinedSpec).preRow enc Tryd.prog Tryd.f6 Rows.lexJoinedRow.domain false Rows.lexJoinedRow.laid ((laidWorld os).forCall (fun _ _ => 0) ⟨#[], #[.slice none 0 0], []⟩).memory #[.slice none 0 0] := by
  have hw : ((DataW.whole enc Tryd.prog ((laidWorld os).forCall (fun _ _ => 0) ⟨#[], #[.slice none 0 0], []⟩).memory Tryd.f6.params.toList Rows.lexJoinedSpec.vars false #[Value.slice none 0 0].toList 8).map (fun x => (x.1, x.2.1))).isSome = true := by kernel_rfl
  obtain ⟨x, hx⟩ := Option.isSome_iff_exists.1 hw
  obtain ⟨⟨x1, x2, x3⟩, hx', hx1⟩ := Option.map_eq_some_iff.1 hx
  exact OpenSpec.preRow_of_cond 8 hx' (by kernel_rfl) (fun k hk => by cases hk) (by kernel_rfl) (laid_met os _)
set_option maxRecDepth 100000 in
theorem lifted (os : Os) (started : os.Started) (H : Type) (enc : TypeId × Value → H) (F : Stop.Interp) :
    ReturnsInHanded {} Tryd.checked os 6 .any ((OpenSpec.ofChange Rows.lexJoinedSpec).preRow enc Tryd.prog Tryd.f6 Rows.lexJoinedRow.domain false Rows.lexJoinedRow.laid) (((OpenSpec.ofChange Rows.lexJoinedSpec).at F).post enc Tryd.prog Tryd.f6 false true false false) := by
  refine returnsInHanded_of_row (C := Tryd.checked) (s := OpenSpec.ofChange Rows.lexJoinedSpec) own started (by kernel_rfl) Tryd.func6
    (witness_row_atRef (enc := enc) (C := Tryd.checked) false (laidWorld os) #[.slice none 0 0] rfl (by kernel_rfl) (by kernel_rfl) (by kernel_rfl) (witness_row os enc)) ?_
  intro W base args ds gs before hval hW _ _ hsz hL hS _
  exact contract H enc W base args ds gs before hval hW hsz hL hS
theorem said : Rows.LexJoinedSaid :=
  OpenClaim.holds_of_cond 6 Tryd.f6 rfl rfl rfl rfl rfl rfl rfl ⟨rfl, rfl, rfl, rfl, rfl⟩ rfl rfl rfl rfl rfl (by kernel_rfl) Tryd.func6 (by kernel_rfl)
    (of_decide_eq_true (by kernel_rfl)) (by unfold Func.isWrapper; first | (rw [if_pos (by decide +kernel)]; kernel_rfl) | (rw [if_neg (by decide +kernel)]; exact ⟨rfl, rfl⟩))
    (fun os started H enc _ F => by rw [OpenClaim.pre_eq_preRow]; exact lifted os started H enc F)
/-- No parameter wants a stand-in; the program's own looks are off: what the card asks. -/
theorem plain (f : FuncId) (fn : Func) (hf : Tryd.pinned.checked.prog.funcNamed "chordmail/chordmaillaw01.LexJoined" = some f) (hfn : Tryd.pinned.checked.prog.funcs[f]? = some fn) :
    true = Tryd.pinned.checked.prog.looks [] ∧ ∀ (j : Nat) t, fn.params[j]? = some t → Tryd.pinned.checked.prog.wantsStandIn t = false := by
  obtain rfl : f = 6 := Option.some.inj ((show Tryd.prog.funcNamed "chordmail/chordmaillaw01.LexJoined" = some 6 by kernel_rfl).symm.trans hf) |>.symm
  obtain rfl : fn = Tryd.f6 := (Option.some.inj (Tryd.func6.symm.trans hfn)).symm
  refine ⟨by kernel_rfl, fun j t ht => ?_⟩
  rw [Tryd.params6] at ht
  obtain rfl : t = 22 := by simpa using Array.mem_of_getElem? ht
  exact (show Tryd.prog.wantsStandIn 22 = false by kernel_rfl)
end lexJoined
theorem lexJoined_holds : Rows.LexJoinedCardSaid :=
  Claim7.holds_tied_plain_at .later [] _ _ _ _ lexJoined.said (fun _ h => by cases h) (by kernel_rfl) (fun _ h => by cases h) lexJoined_row_tie rfl ⟨rfl, rfl⟩ (by kernel_rfl) rfl lexJoined.plain (by kernel_rfl)
#print axioms lexJoined_holds
end Go.Proofs.YtplnhipgifcafaaDoor
