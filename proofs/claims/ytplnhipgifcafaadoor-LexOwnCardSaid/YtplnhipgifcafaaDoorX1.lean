/- A part of the proof. -/
import Derived.Test.YtplnhipgifcafaaDoorW8
namespace Go.Proofs.YtplnhipgifcafaaDoor
set_option linter.all false
open Go Go.Ev Go.RowKit
variable {γ : List (Nat × AV)}
theorem tyE : aggT Tryd.prog 24 = some false ∧
    aggT Tryd.prog 25 = some false ∧
    sizeT Tryd.prog 24 = some 1 ∧
    sizeT Tryd.prog 4 = some 1 ∧
    zcT Tryd.prog 24 = some [.v (.slice none 0 0)] ∧
    aggT Tryd.prog 4 = some false ∧
    zcT Tryd.prog 4 = some [.v (.bool false)] :=
  ⟨by kernel_rfl, by kernel_rfl, by kernel_rfl, by kernel_rfl, by kernel_rfl, by kernel_rfl, by kernel_rfl⟩
/-- The blocks of LexEach: most, the answer, the reference's list, place and error, the count. -/
def eachB5 (most : Int) (q : Told) : List ABlk := [⟨0, 3, [.v (.int .i64 most)]⟩, ⟨0, 4, [.v (.bool false)]⟩, ⟨0, 24, [listA q.toks]⟩, ⟨0, 3, [.v (.int .i64 q.place)]⟩, ⟨0, 25, [.v (.int .i64 q.err)]⟩]
def eachH (most : Int) (q : Told) (n : Int) : List ABlk := [⟨0, 3, [.v (.int .i64 most)]⟩, ⟨0, 4, [.v (.bool false)]⟩, ⟨0, 24, [listA q.toks]⟩, ⟨0, 3, [.v (.int .i64 q.place)]⟩, ⟨0, 25, [.v (.int .i64 q.err)]⟩, ⟨0, 3, [.v (.int .i64 n)]⟩]
def eachL (A : AV) (l : List UInt8) : List (Nat × AV) := [(0, A), (3, .ptr 0 0 0), (4, .ptr 1 0 0), (5, .sl false l.length (l.length + 2) ((l ++ [201, 202]).map byteC)), (6, .ptr 2 0 0), (7, .ptr 3 0 0), (8, .ptr 4 0 0)]
def eachS5 (γ : List (Nat × AV)) (A : AV) (l : List UInt8) (x : List (Nat × AV)) : Slots := ⟨84, x ++ eachL A l, γ⟩
def cloA (Nb : Nat) : AV := .v (.func (.func 30) #[] #[.pointer (some ⟨Nb, 0, none⟩)])
def eachS (γ : List (Nat × AV)) (A : AV) (l : List UInt8) (Nb : Nat) : Slots := ⟨84, (9, cloA Nb) :: (10, .ptr 5 0 0) :: eachL A l, γ⟩
def eachSw (γ : List (Nat × AV)) (A : AV) (l : List UInt8) (Nb : Nat) (whole : Int) : Slots := ⟨84, (13, .v (.int .i64 whole)) :: (9, cloA Nb) :: (10, .ptr 5 0 0) :: eachL A l, γ⟩
/-- Where the first range ends: at its end, or left at most. -/
def eachM (most : Int) (N m : Nat) : Prop := ((0 < most ∧ most ≤ N) → (m : Int) = most) ∧ (¬ (0 < most ∧ most ≤ N) → m = N)
def each1Q (γ : List (Nat × AV)) (A : AV) (l : List UInt8) (most : Int) (q : Told) (Nb N : Nat) : Post
  | .normal, s => ∃ m : Nat, eachM most N m ∧ s = ⟨eachS γ A l Nb, eachH most q m⟩
  | .exit 0, s => ∃ m : Nat, eachM most N m ∧ s.weak ⟨eachS γ A l Nb, eachH most q m⟩
  | _, _ => False
theorem each1Q_exit (γ : List (Nat × AV)) (A : AV) (l : List UInt8) (most : Int) (q : Told) (Nb N : Nat) (s : St) : each1Q γ A l most q Nb N (.exit 0) s = ∃ m : Nat, eachM most N m ∧ s.weak ⟨eachS γ A l Nb, eachH most q m⟩ := rfl
def each2Q (γ : List (Nat × AV)) (A : AV) (l : List UInt8) (most : Int) (q : Told) (Nb N : Nat) : Post
  | .normal, s => s = ⟨eachSw γ A l Nb N, eachH most q N⟩
  | _, _ => False
def eachEndQ : Post
  | .ret, s => endS Tryd.prog [.cell 4 4] (.v (.bool true)) .ret s
  | _, _ => False
theorem eachEndQ_ret (s : St) : eachEndQ .ret s = endS Tryd.prog [.cell 4 4] (.v (.bool true)) .ret s := rfl
theorem val_wpIn {r : Option Nat} {n : Nat} {P : Program} {o : Oper} {a : Act} {w : World} {v : Value} {N : Act → World → Prop} {Q : Exit → Act → World → Prop} (hnd : nd o = true)
    (hrun : (execOp a.eval o).run P w = .ok (.value v) w) (h : N (a.put o.dst v) w) : o.wpIn (Fr r) n P a w N Q := by
  refine operIn (N := N) hnd (fun _ _ h => h) ?_
  unfold Oper.wp
  rw [hrun]
  exact h
theorem inBlock_ne {id : Nat} {Q : Exit → Act → World → Prop} {e : Exit} {a : Act} {w : World} (h : e = .normal ∨ e = .exit id) (hq : Q .normal a w) : Exit.inBlock id Q e a w := by
  rcases h with rfl | rfl
  · exact hq
  · simp only [Exit.inBlock, if_true]; exact hq
theorem nilEq_run {a : Act} {w : World} {t : Nat} {d : Option Tmp} {ty : TypeId} {pos : String} {af : Array Edge} {g : Option (Nat × Bool)} {f : FuncId} {xs : Array Value} (h : a.tmps.getD t undef = .func (.func f) #[] xs) :
    (execOp a.eval ⟨d, .binOp .eql 29 (.tmp t) (.const .nilFunc) 29, ty, pos, af, g⟩).run Tryd.prog w = .ok (.value (.bool false)) w := by
  have e : a.eval (.tmp t) = .func (.func f) #[] xs := h
  have e2 : a.eval (.const .nilFunc) = .nilFunc := rfl
  obtain ⟨x, y, z, hu⟩ : ∃ x y z, Tryd.prog.underlying 29 = some (.func x y z) := ⟨_, _, _, Tryd.underlying29⟩
  have he : (Op.equal 29 (.func (.func f) #[] xs) .nilFunc).run Tryd.prog w = .ok false w := by
    show (Op.equalIn (9999 + 1) 29 _ _).run _ _ = _
    rw [Op.equalIn]
    simp [go_sem, hu]
  unfold execOp
  simp only [e, e2]
  simp [go_sem, eqGuard, binOp, he]
theorem flat_list (L : List (TokD × Nat)) : flat (listA L) = some [listA L] := by unfold listA; split <;> rfl
theorem okRef_list (n : Nat) (L : List (TokD × Nat)) : okRef n (listA L) = true := by unfold listA; split <;> rfl
theorem treeA_list (L : List (TokD × Nat)) : treeA (listA L) = true := by unfold listA; split <;> rfl
/-- The closure's box holds the text, whatever marks stand behind it. -/
theorem each_base {c4 : Cx} {o : Obj} {W : World} {l : List UInt8} {Nb r off cap : Nat} (ho : c4.w.heap[r]? = some o) (ho' : W.heap[r]? = some o) (hbox : W.heap[Nb]? = some (.cells #[.slice (some ⟨r, off, none⟩) l.length cap] 22 (0, 0)))
    (hcap : l.length ≤ cap) (h4 : relAt ((l ++ [201, 202]).map byteC) c4 r off) (hg : glOK γ W) : eachBase γ l Nb W := by
  refine ⟨⟨_, _, hbox, ?_⟩, hg⟩
  simp only [rel]
  have hlt : r < W.heap.size := (Array.getElem?_eq_some_iff.1 ho').1
  refine ⟨r, off, cap, rfl, Nat.le_refl _, hcap, ⟨hlt, by show ¬ False; exact fun h => h⟩, ?_⟩
  have h5 := relAt_take h4 l.length
  rw [← List.map_take, List.take_left' rfl] at h5
  refine relAt_of_get fun j x hj => ?_
  obtain ⟨u, h1, h2⟩ := relAt_get h5 j x hj
  refine ⟨u, ?_, ?_⟩
  · show W.cell? _ = _
    rw [← h1]
    unfold World.cell?
    simp only [ho, ho']
  · rw [List.getElem?_map] at hj
    obtain ⟨b, hb, rfl⟩ := Option.map_eq_some_iff.1 hj
    simpa [byteC, rel] using h2
set_option maxHeartbeats 4000000 in
set_option maxRecDepth 20000 in
theorem lexEach_ev (hγ : Gl γ) (hγ2 : GlW γ) (A : AV) (hA : treeA A = true) (hAr : ∀ n, okRef n A = true) (l : List UInt8) (hl : l.length ≤ 140737488351232) (most : Int)
    (h11 : Ev Tryd.prog γ 11 [A] (.sl false l.length (l.length + 2) ((l ++ [201, 202]).map byteC)))
    (h12 : Ev Tryd.prog γ 12 [A] (rscanA l))
    (h15 : Ev Tryd.prog γ 15 [.sl false l.length (l.length + 2) ((l ++ [201, 202]).map byteC), A] (.v (.bool true))) :
    Ev Tryd.prog γ 3 [A, .v (.int .i64 most)] (.v (.bool true)) := by
  obtain ⟨q, hq, hres⟩ := told_ex l
  rw [hres] at h12
  have hlen := told_len hq
  have hle := items_len l
  obtain ⟨N, hN⟩ : ∃ N, N = (eachItems l).length := ⟨_, rfl⟩
  have tL : treeL ((l ++ [201, 202]).map byteC) = true := treeL_map _
  refine Ev.of_wpM Tryd.func3 rfl ?_
  intro X hP hc0 hXK hXdf a w hs
  have hnt : Tryd.f3.ntmps = 84 := by kernel_rfl
  rw [hnt] at hs
  refine wpIn_seq (pieceP hP (r := none) ⟨⟨84, [(0, A), (3, .ptr 0 0 0), (4, .ptr 1 0 0)], γ⟩, [⟨0, 3, [.v (.int .i64 most)]⟩, ⟨0, 4, [.v (.bool false)]⟩]⟩ (by kernel_rfl) hc0 hs ?_ ?_)
  · simp only [tyE, startA, idxL, wkQ_normal, evS, tyS, Bool.not_true, Bool.not_false, Nat.reduceAdd, Nat.reduceSub, Nat.reduceMul, Nat.reduceLT, Nat.reduceLeDiff, Nat.reduceEqDiff, reduceCtorEq, List.reduceReplicate, Int.reduceToNat, Int.reduceLE, Int.reduceLT]
    (repeat' (first | (with_reducible refine And.intro ?_ ?_) | ((first | refine GuardK.intro_f (fun h => ?_) (fun h => ?_) | refine GuardK.intro_t (fun h => ?_) (fun h => ?_) | refine CondK.intro (fun h => ?_) (fun h => ?_) | refine PickK.intro (fun h => ?_) (fun h => ?_)) <;> simp only [h, tyE, evS, tyS, Bool.not_true, Bool.not_false, Nat.reduceAdd, Nat.reduceSub, Nat.reduceMul, Nat.reduceLT, Nat.reduceLeDiff, Nat.reduceEqDiff, reduceCtorEq, List.reduceReplicate, Int.reduceToNat, Int.reduceLE, Int.reduceLT]) | (refine DrawK.intro (by kernel_rfl) (by kernel_rfl) ?_; simp only [tyE, evS, tyS, Bool.not_true, Bool.not_false, Nat.reduceAdd, Nat.reduceSub, Nat.reduceMul, Nat.reduceLT, Nat.reduceLeDiff, Nat.reduceEqDiff, reduceCtorEq, List.reduceReplicate, Int.reduceToNat, Int.reduceLE, Int.reduceLT])))
    all_goals first | rfl | exact .inl rfl | trace_state
  · intro φ1 a1 w1 h1
    refine wpIn_seq (pieceP hP (r := none) ⟨⟨84, [(0, A), (3, .ptr 0 0 0), (4, .ptr 1 0 0), (5, .sl false l.length (l.length + 2) ((l ++ [201, 202]).map byteC))], γ⟩, [⟨0, 3, [.v (.int .i64 most)]⟩, ⟨0, 4, [.v (.bool false)]⟩]⟩ (by kernel_rfl) hc0 h1 ?_ ?_)
    · simp only [tyE, wkQ_normal, evS, tyS, Bool.not_true, Bool.not_false, Nat.reduceAdd, Nat.reduceSub, Nat.reduceMul, Nat.reduceLT, Nat.reduceLeDiff, Nat.reduceEqDiff, reduceCtorEq, List.reduceReplicate, Int.reduceToNat, Int.reduceLE, Int.reduceLT]
      refine CallK.intro b11 (by simp [treeL, hA]) h11 ?_
      simp only [tyE, wkQ_normal, evS, tyS, Bool.not_true, Bool.not_false, Nat.reduceAdd, Nat.reduceSub, Nat.reduceMul, Nat.reduceLT, Nat.reduceLeDiff, Nat.reduceEqDiff, reduceCtorEq, List.reduceReplicate, Int.reduceToNat, Int.reduceLE, Int.reduceLT]
      (repeat' (first | (with_reducible refine And.intro ?_ ?_) | ((first | refine GuardK.intro_f (fun h => ?_) (fun h => ?_) | refine GuardK.intro_t (fun h => ?_) (fun h => ?_) | refine CondK.intro (fun h => ?_) (fun h => ?_) | refine PickK.intro (fun h => ?_) (fun h => ?_)) <;> simp only [h, tyE, evS, tyS, Bool.not_true, Bool.not_false, Nat.reduceAdd, Nat.reduceSub, Nat.reduceMul, Nat.reduceLT, Nat.reduceLeDiff, Nat.reduceEqDiff, reduceCtorEq, List.reduceReplicate, Int.reduceToNat, Int.reduceLE, Int.reduceLT]) | (refine DrawK.intro (by kernel_rfl) (by kernel_rfl) ?_; simp only [tyE, evS, tyS, Bool.not_true, Bool.not_false, Nat.reduceAdd, Nat.reduceSub, Nat.reduceMul, Nat.reduceLT, Nat.reduceLeDiff, Nat.reduceEqDiff, reduceCtorEq, List.reduceReplicate, Int.reduceToNat, Int.reduceLE, Int.reduceLT])))
      all_goals first | rfl | exact .inl rfl | trace_state
    · intro φ2 a2 w2 h2
      refine wpIn_seq (pieceP hP (r := none) ⟨eachS5 γ A l [], eachB5 most q⟩ (by kernel_rfl) hc0 h2 ?_ ?_)
      · simp only [tyE, wkQ_normal, evS, tyS, Bool.not_true, Bool.not_false, Nat.reduceAdd, Nat.reduceSub, Nat.reduceMul, Nat.reduceLT, Nat.reduceLeDiff, Nat.reduceEqDiff, reduceCtorEq, List.reduceReplicate, Int.reduceToNat, Int.reduceLE, Int.reduceLT]
        refine CallK.intro b12 (by simp [treeL, hA]) h12 ?_
        simp only [tyE, wkQ_normal, eachS5, eachB5, eachL, flat_list, evS, tyS, Bool.not_true, Bool.not_false, Nat.reduceAdd, Nat.reduceSub, Nat.reduceMul, Nat.reduceLT, Nat.reduceLeDiff, Nat.reduceEqDiff, reduceCtorEq, List.reduceReplicate, Int.reduceToNat, Int.reduceLE, Int.reduceLT]
        (repeat' (first | (with_reducible refine And.intro ?_ ?_) | ((first | refine GuardK.intro_f (fun h => ?_) (fun h => ?_) | refine GuardK.intro_t (fun h => ?_) (fun h => ?_) | refine CondK.intro (fun h => ?_) (fun h => ?_) | refine PickK.intro (fun h => ?_) (fun h => ?_)) <;> simp only [h, tyE, flat_list, evS, tyS, Bool.not_true, Bool.not_false, Nat.reduceAdd, Nat.reduceSub, Nat.reduceMul, Nat.reduceLT, Nat.reduceLeDiff, Nat.reduceEqDiff, reduceCtorEq, List.reduceReplicate, Int.reduceToNat, Int.reduceLE, Int.reduceLT]) | (refine DrawK.intro (by kernel_rfl) (by kernel_rfl) ?_; simp only [tyE, flat_list, evS, tyS, Bool.not_true, Bool.not_false, Nat.reduceAdd, Nat.reduceSub, Nat.reduceMul, Nat.reduceLT, Nat.reduceLeDiff, Nat.reduceEqDiff, reduceCtorEq, List.reduceReplicate, Int.reduceToNat, Int.reduceLE, Int.reduceLT])))
        all_goals first | rfl | exact .inl rfl | trace_state
      · intro φ3 a3 w3 h3
        have hb3 := h3.below
        refine wpIn_seq (wpIn_region ?_)
        show wpOpsIn (Fr none) 0 Tryd.prog _ _ ([0] ++ (1 :: (2 :: []))) a3 w3
        refine wpOpsIn_split _ _ _ _ (opsP hP ⟨⟨84, (24, .sl false l.length (l.length + 2) ((l ++ [201, 202]).map byteC)) :: eachL A l, γ⟩, eachB5 most q⟩ (by kernel_rfl) hc0 [_] [0] rfl h3 ?_ ?_)
        · simp only [tyE, eachS5, eachL, List.getElem_toArray, List.getElem_cons_zero, List.getElem_cons_succ, evS, tyS, Bool.not_true, Bool.not_false, Nat.reduceAdd, Nat.reduceSub, Nat.reduceMul, Nat.reduceLT, Nat.reduceLeDiff, Nat.reduceEqDiff, reduceCtorEq, List.reduceReplicate, Int.reduceToNat, Int.reduceLE, Int.reduceLT]
          (repeat' (first | (with_reducible refine And.intro ?_ ?_) | ((first | refine GuardK.intro_f (fun h => ?_) (fun h => ?_) | refine GuardK.intro_t (fun h => ?_) (fun h => ?_) | refine CondK.intro (fun h => ?_) (fun h => ?_) | refine PickK.intro (fun h => ?_) (fun h => ?_)) <;> simp only [h, evS, tyS, Bool.not_true, Bool.not_false, Nat.reduceAdd, Nat.reduceSub, Nat.reduceMul, Nat.reduceLT, Nat.reduceLeDiff, Nat.reduceEqDiff, reduceCtorEq, List.reduceReplicate, Int.reduceToNat, Int.reduceLE, Int.reduceLT]) | (refine DrawK.intro (by kernel_rfl) (by kernel_rfl) ?_; simp only [evS, tyS, Bool.not_true, Bool.not_false, Nat.reduceAdd, Nat.reduceSub, Nat.reduceMul, Nat.reduceLT, Nat.reduceLeDiff, Nat.reduceEqDiff, reduceCtorEq, List.reduceReplicate, Int.reduceToNat, Int.reduceLE, Int.reduceLT])))
          all_goals first | rfl | exact .inl rfl | trace_state
        · intro φ4 a4 w4 h4
          rw [wpOpsIn_cons]
          have h24 : rel (.sl false l.length (l.length + 2) ((l ++ [201, 202]).map byteC)) (cx X φ4 (eachB5 most q) w4) (a4.tmps.getD 24 undef) := h4.slots 24
          simp only [rel] at h24
          obtain ⟨r, off, cap, e24, n1, n2, n3, n4⟩ := h24
          obtain ⟨o, ho⟩ : ∃ o, w4.heap[r]? = some o := ⟨_, Array.getElem?_eq_getElem n3.1⟩
          refine wpOpIn_some rfl rfl (call_wpIn (vs := #[.slice (some ⟨r, off, none⟩) l.length cap]) rfl ?_ (enters_of Tryd.func13 (by kernel_rfl) rfl) (each13 r off l.length cap w4) ?_)
          · rw [List.map_toArray, List.map_cons, List.map_nil]
            show #[a4.tmps.getD 24 undef] = _
            rw [e24]
          · rintro e' w5 ⟨Nb, rfl, hbox, hNb, hbel⟩
            refine ⟨_, rfl, ?_⟩
            have hput := (h4.world hbel).put (some 25) (r := cloA Nb) (u := .func (.func 30) #[] #[.pointer (some ⟨Nb, 0, none⟩)]) (by simp only [cloA, rel])
            obtain ⟨X1, hX1⟩ : ∃ X1, X1 = X.with [(Nb, .cells #[.slice (some ⟨r, off, none⟩) l.length cap] 22 (0, 0)), (r, o)] [] none := ⟨_, rfl⟩
            have hP1 : X1.P = Tryd.prog := by rw [hX1]; exact hP
            have hc1 : X1.c0 = none := by rw [hX1]; rfl
            have h5 : SR X1 φ4 ⟨⟨84, (25, cloA Nb) :: (24, .sl false l.length (l.length + 2) ((l ++ [201, 202]).map byteC)) :: eachL A l, γ⟩, eachB5 most q⟩ (a4.put (some 25) (.func (.func 30) #[] #[.pointer (some ⟨Nb, 0, none⟩)])) w5 := by
              rw [hX1]
              refine hput.move (Below.refl _ _) (fun r _ => .inl rfl) (by rw [hput.defers, hXdf]) hput.len hput.gl_le (fun c' hc t => hput.slots_le c' hc t) ?_ ?_ (fun c c' h => by cases h)
              · intro p hp
                simp only [List.mem_cons, List.not_mem_nil, or_false] at hp
                rcases hp with rfl | rfl
                · exact hbox
                · exact (hbel.block _ n3.1).trans ho
              · intro p hp hm
                simp only [List.mem_cons, List.not_mem_nil, or_false] at hp
                rcases hp with rfl | rfl
                · have := (h4.rng _ hm).2
                  omega
                · exact n3.2.1 hm
            show wpOpsIn (Fr none) 0 Tryd.prog _ _ [2] (a4.put (some 25) (.func (.func 30) #[] #[.pointer (some ⟨Nb, 0, none⟩)])) w5
            generalize (a4.put (some 25) (.func (.func 30) #[] #[.pointer (some ⟨Nb, 0, none⟩)])) = a5 at h5 ⊢
            have h25 : a5.tmps.getD 25 undef = .func (.func 30) #[] #[.pointer (some ⟨Nb, 0, none⟩)] := h5.getv rfl
            rw [wpOpsIn_cons]
            refine wpOpIn_some rfl rfl (val_wpIn (v := .func (.func 30) #[] #[.pointer (some ⟨Nb, 0, none⟩)]) rfl ?_ ?_)
            · rw [← h25]; rfl
            have h6 := h5.put (some 9) (r := cloA Nb) (u := .func (.func 30) #[] #[.pointer (some ⟨Nb, 0, none⟩)]) (by simp only [cloA, rel])
            show Code.wpIn (Fr none) 0 Tryd.prog _ _ (a5.put (some 9) (.func (.func 30) #[] #[.pointer (some ⟨Nb, 0, none⟩)])) w5
            generalize (a5.put (some 9) (.func (.func 30) #[] #[.pointer (some ⟨Nb, 0, none⟩)])) = a6 at h6 ⊢
            refine wpIn_seq (wpIn_seq (wpIn_region ?_))
            show wpOpsIn (Fr none) 0 Tryd.prog _ _ ([0] ++ ([1] : List Nat)) a6 w5
            refine wpOpsIn_split _ _ _ _ (opsP hP1 ⟨⟨84, (26, cloA Nb) :: (9, cloA Nb) :: eachL A l, γ⟩, eachB5 most q⟩ (by kernel_rfl) hc1 [_] [0] rfl h6 ?_ ?_)
            · simp only [tyE, eachL, List.getElem_toArray, List.getElem_cons_zero, List.getElem_cons_succ, evS, tyS, Bool.not_true, Bool.not_false, Nat.reduceAdd, Nat.reduceSub, Nat.reduceMul, Nat.reduceLT, Nat.reduceLeDiff, Nat.reduceEqDiff, reduceCtorEq, List.reduceReplicate, Int.reduceToNat, Int.reduceLE, Int.reduceLT]
              (repeat' (first | (with_reducible refine And.intro ?_ ?_) | ((first | refine GuardK.intro_f (fun h => ?_) (fun h => ?_) | refine GuardK.intro_t (fun h => ?_) (fun h => ?_) | refine CondK.intro (fun h => ?_) (fun h => ?_) | refine PickK.intro (fun h => ?_) (fun h => ?_)) <;> simp only [h, evS, tyS, Bool.not_true, Bool.not_false, Nat.reduceAdd, Nat.reduceSub, Nat.reduceMul, Nat.reduceLT, Nat.reduceLeDiff, Nat.reduceEqDiff, reduceCtorEq, List.reduceReplicate, Int.reduceToNat, Int.reduceLE, Int.reduceLT]) | (refine DrawK.intro (by kernel_rfl) (by kernel_rfl) ?_; simp only [evS, tyS, Bool.not_true, Bool.not_false, Nat.reduceAdd, Nat.reduceSub, Nat.reduceMul, Nat.reduceLT, Nat.reduceLeDiff, Nat.reduceEqDiff, reduceCtorEq, List.reduceReplicate, Int.reduceToNat, Int.reduceLE, Int.reduceLT])))
              all_goals first | rfl | exact .inl rfl | trace_state
            · intro φ7 a7 w7 h7
              have h26 : a7.tmps.getD 26 undef = .func (.func 30) #[] #[.pointer (some ⟨Nb, 0, none⟩)] := h7.getv rfl
              rw [wpOpsIn_cons]
              refine wpOpIn_some rfl rfl (val_wpIn (v := .bool false) rfl ?_ ?_)
              · exact nilEq_run h26
              have h8 := h7.put (some 27) (r := .v (.bool false)) (u := .bool false) (by simp only [rel])
              show Code.wpIn (Fr none) 0 Tryd.prog _ _ (a7.put (some 27) (.bool false)) w7
              generalize (a7.put (some 27) (.bool false)) = a8 at h8 ⊢
              refine pieceP hP1 (r := none) ⟨⟨84, (9, cloA Nb) :: eachL A l, γ⟩, eachB5 most q⟩ (by kernel_rfl) hc1 h8 ?_ ?_
              · simp only [tyE, wkQ_normal, eachL, evS, tyS, Bool.not_true, Bool.not_false, Nat.reduceAdd, Nat.reduceSub, Nat.reduceMul, Nat.reduceLT, Nat.reduceLeDiff, Nat.reduceEqDiff, reduceCtorEq, List.reduceReplicate, Int.reduceToNat, Int.reduceLE, Int.reduceLT]
                (repeat' (first | (with_reducible refine And.intro ?_ ?_) | ((first | refine GuardK.intro_f (fun h => ?_) (fun h => ?_) | refine GuardK.intro_t (fun h => ?_) (fun h => ?_) | refine CondK.intro (fun h => ?_) (fun h => ?_) | refine PickK.intro (fun h => ?_) (fun h => ?_)) <;> simp only [h, tyE, wkQ_normal, evS, tyS, Bool.not_true, Bool.not_false, Nat.reduceAdd, Nat.reduceSub, Nat.reduceMul, Nat.reduceLT, Nat.reduceLeDiff, Nat.reduceEqDiff, reduceCtorEq, List.reduceReplicate, Int.reduceToNat, Int.reduceLE, Int.reduceLT]) | (refine DrawK.intro (by kernel_rfl) (by kernel_rfl) ?_; simp only [tyE, wkQ_normal, evS, tyS, Bool.not_true, Bool.not_false, Nat.reduceAdd, Nat.reduceSub, Nat.reduceMul, Nat.reduceLT, Nat.reduceLeDiff, Nat.reduceEqDiff, reduceCtorEq, List.reduceReplicate, Int.reduceToNat, Int.reduceLE, Int.reduceLT])))
                all_goals first | rfl | exact .inl rfl | (exfalso; simp at h; done) | trace_state
              intro φ9 a9 w9 h9
              refine wpIn_seq (pieceP hP1 (r := none) ⟨eachS γ A l Nb, eachH most q ((0 : Nat) : Int)⟩ (by kernel_rfl) hc1 h9 ?_ ?_)
              · simp only [tyE, wkQ_normal, eachL, eachS, eachB5, eachH, evS, tyS, Bool.not_true, Bool.not_false, Nat.reduceAdd, Nat.reduceSub, Nat.reduceMul, Nat.reduceLT, Nat.reduceLeDiff, Nat.reduceEqDiff, reduceCtorEq, List.reduceReplicate, Int.reduceToNat, Int.reduceLE, Int.reduceLT]
                (repeat' (first | (with_reducible refine And.intro ?_ ?_) | ((first | refine GuardK.intro_f (fun h => ?_) (fun h => ?_) | refine GuardK.intro_t (fun h => ?_) (fun h => ?_) | refine CondK.intro (fun h => ?_) (fun h => ?_) | refine PickK.intro (fun h => ?_) (fun h => ?_)) <;> simp only [h, tyE, evS, tyS, Bool.not_true, Bool.not_false, Nat.reduceAdd, Nat.reduceSub, Nat.reduceMul, Nat.reduceLT, Nat.reduceLeDiff, Nat.reduceEqDiff, reduceCtorEq, List.reduceReplicate, Int.reduceToNat, Int.reduceLE, Int.reduceLT]) | (refine DrawK.intro (by kernel_rfl) (by kernel_rfl) ?_; simp only [tyE, evS, tyS, Bool.not_true, Bool.not_false, Nat.reduceAdd, Nat.reduceSub, Nat.reduceMul, Nat.reduceLT, Nat.reduceLeDiff, Nat.reduceEqDiff, reduceCtorEq, List.reduceReplicate, Int.reduceToNat, Int.reduceLE, Int.reduceLT])))
                all_goals first | rfl | exact .inl rfl | trace_state
              intro φ10 a10 w10 h10
              refine wpIn_seq (wpIn_seq (pieceP hP1 (r := none) ⟨⟨84, (28, cloA Nb) :: (eachS γ A l Nb).l, γ⟩, eachH most q ((0 : Nat) : Int)⟩ (by kernel_rfl) hc1 h10 ?_ ?_))
              · simp only [tyE, wkQ_normal, eachL, eachS, eachB5, eachH, evS, tyS, Bool.not_true, Bool.not_false, Nat.reduceAdd, Nat.reduceSub, Nat.reduceMul, Nat.reduceLT, Nat.reduceLeDiff, Nat.reduceEqDiff, reduceCtorEq, List.reduceReplicate, Int.reduceToNat, Int.reduceLE, Int.reduceLT]
                (repeat' (first | (with_reducible refine And.intro ?_ ?_) | ((first | refine GuardK.intro_f (fun h => ?_) (fun h => ?_) | refine GuardK.intro_t (fun h => ?_) (fun h => ?_) | refine CondK.intro (fun h => ?_) (fun h => ?_) | refine PickK.intro (fun h => ?_) (fun h => ?_)) <;> simp only [h, tyE, evS, tyS, Bool.not_true, Bool.not_false, Nat.reduceAdd, Nat.reduceSub, Nat.reduceMul, Nat.reduceLT, Nat.reduceLeDiff, Nat.reduceEqDiff, reduceCtorEq, List.reduceReplicate, Int.reduceToNat, Int.reduceLE, Int.reduceLT]) | (refine DrawK.intro (by kernel_rfl) (by kernel_rfl) ?_; simp only [tyE, evS, tyS, Bool.not_true, Bool.not_false, Nat.reduceAdd, Nat.reduceSub, Nat.reduceMul, Nat.reduceLT, Nat.reduceLeDiff, Nat.reduceEqDiff, reduceCtorEq, List.reduceReplicate, Int.reduceToNat, Int.reduceLE, Int.reduceLT])))
                all_goals first | rfl | exact .inl rfl | trace_state
              intro φ11 a11 w11 h11
              have hg : a11.eval (.tmp 28) = .func (.func 30) #[] #[.pointer (some ⟨Nb, 0, none⟩)] := h11.getv rfl
              refine wpIn_block (wpIn_mono (range_ruleP (X := X1) (Q := each1Q γ A l most q Nb N) hP1 h11 hc1 (by kernel_rfl) (by kernel_rfl) hg (enters_of Tryd.func30 (by kernel_rfl) rfl) N (fun k => itemV (itemAt (eachItems l) k)) (by rw [hN]; exact each_seq hγ hγ2 l hl Nb)
                (eachS γ A l Nb) (fun k => eachH most q ((k : Nat) : Int)) (fun k => ¬ (0 < most ∧ most ≤ ((k : Nat) : Int))) (by omega) ?_ ?_ (fun k => (itemAt (eachItems l) k).1.1.av (itemAt (eachItems l) k).1.2) (fun k => .v (.int .i64 (itemAt (eachItems l) k).2)) (fun k _ c => ⟨rel_tokV _ _ c, by simp only [rel, itemV]⟩) ?_ (fun hi => ⟨N, ⟨fun h => absurd h hi, fun _ => rfl⟩, rfl⟩)) ?_)
              · simp only [eachS, eachL, eachH, evS, tyS, Bool.not_true, Bool.not_false, Nat.reduceAdd, Nat.reduceSub, Nat.reduceMul, Nat.reduceLT, Nat.reduceLeDiff, Nat.reduceEqDiff, reduceCtorEq, List.reduceReplicate, Int.reduceToNat, Int.reduceLE, Int.reduceLT]
                (repeat' (first | (with_reducible refine And.intro ?_ ?_) | ((first | refine GuardK.intro_f (fun h => ?_) (fun h => ?_) | refine GuardK.intro_t (fun h => ?_) (fun h => ?_) | refine CondK.intro (fun h => ?_) (fun h => ?_) | refine PickK.intro (fun h => ?_) (fun h => ?_)) <;> simp only [h, evS, tyS, Bool.not_true, Bool.not_false, Nat.reduceAdd, Nat.reduceSub, Nat.reduceMul, Nat.reduceLT, Nat.reduceLeDiff, Nat.reduceEqDiff, reduceCtorEq, List.reduceReplicate, Int.reduceToNat, Int.reduceLE, Int.reduceLT]) | (refine DrawK.intro (by kernel_rfl) (by kernel_rfl) ?_; simp only [evS, tyS, Bool.not_true, Bool.not_false, Nat.reduceAdd, Nat.reduceSub, Nat.reduceMul, Nat.reduceLT, Nat.reduceLeDiff, Nat.reduceEqDiff, reduceCtorEq, List.reduceReplicate, Int.reduceToNat, Int.reduceLE, Int.reduceLT])))
                all_goals first | rfl | exact .inl rfl | trace_state
              · intro X' φ' k a' W hP' hG hB hK ht hsr
                exact each_base (c4 := (cx X φ4 (eachB5 most q) w4).shut) ho (hK (r, o) (by rw [hX1]; exact List.mem_cons_of_mem _ (List.mem_singleton.2 rfl))) (hK (Nb, _) (by rw [hX1]; exact List.mem_cons_self)) (by omega) n4 (gl_of_rel (c := cx X' φ' (eachH most q k) W) rfl (fun r hr => hr.1) (fun k => (hsr.gl k).2))
              · intro k hk hik
                show kwp Tryd.prog _ _ ⟨⟨84, (30, _) :: (29, _) :: (eachS γ A l Nb).l, γ⟩, _⟩
                have ew : IntKind.i64.wrap ((k : Int) + 1) = ((k + 1 : Nat) : Int) := i64w (by omega) (by omega)
                have htd := told_ev (γ := γ) hq (k := k) (by omega)
                generalize itemAt (eachItems l) k = it at htd ⊢
                obtain ⟨⟨t, pos⟩, e⟩ := it
                simp only [eachS, eachL, eachH, TokD.av, tokA, assignQ_normal, tyE, evS, tyS, Bool.not_true, Bool.not_false, Nat.reduceAdd, Nat.reduceSub, Nat.reduceMul, Nat.reduceLT, Nat.reduceLeDiff, Nat.reduceEqDiff, reduceCtorEq, List.reduceReplicate, Int.reduceToNat, Int.reduceLE, Int.reduceLT]
                refine CallK.intro b14 (by simp [treeL, treeA, treeA_list]) htd ?_
                simp only [tyE, roundQ_exit, roundQ_normal, each1Q_exit, ew, evS, tyS, Bool.not_true, Bool.not_false, Nat.reduceAdd, Nat.reduceSub, Nat.reduceMul, Nat.reduceLT, Nat.reduceLeDiff, Nat.reduceEqDiff, reduceCtorEq, List.reduceReplicate, Int.reduceToNat, Int.reduceLE, Int.reduceLT]
                (repeat' (first | (with_reducible refine And.intro ?_ ?_) | ((first | refine GuardK.intro_f (fun h => ?_) (fun h => ?_) | refine GuardK.intro_t (fun h => ?_) (fun h => ?_) | refine CondK.intro (fun h => ?_) (fun h => ?_) | refine PickK.intro (fun h => ?_) (fun h => ?_)) <;> simp only [h, tyE, roundQ_exit, roundQ_normal, each1Q_exit, ew, evS, tyS, Bool.not_true, Bool.not_false, Nat.reduceAdd, Nat.reduceSub, Nat.reduceMul, Nat.reduceLT, Nat.reduceLeDiff, Nat.reduceEqDiff, reduceCtorEq, List.reduceReplicate, Int.reduceToNat, Int.reduceLE, Int.reduceLT]) | (refine DrawK.intro (by kernel_rfl) (by kernel_rfl) ?_; simp only [tyE, roundQ_exit, roundQ_normal, each1Q_exit, ew, evS, tyS, Bool.not_true, Bool.not_false, Nat.reduceAdd, Nat.reduceSub, Nat.reduceMul, Nat.reduceLT, Nat.reduceLeDiff, Nat.reduceEqDiff, reduceCtorEq, List.reduceReplicate, Int.reduceToNat, Int.reduceLE, Int.reduceLT])))
                · have hk1 : ((k + 1 : Nat) : Int) = most := by simpa using h
                  refine ⟨k + 1, ⟨fun _ => hk1, fun hn => absurd ⟨by omega, by omega⟩ hn⟩, rfl, rfl, ?_, .inr ⟨rfl, ?_, ?_⟩⟩
                  · simp only [eachS, eachL, evS, tyS, Bool.not_true, Bool.not_false, Nat.reduceAdd, Nat.reduceSub, Nat.reduceMul, Nat.reduceLT, Nat.reduceLeDiff, Nat.reduceEqDiff, reduceCtorEq, List.reduceReplicate, Int.reduceToNat, Int.reduceLE, Int.reduceLT]
                  · simp [eachS, eachL, eachH, okRefL, okRef, cloA, hAr]
                  · simp [eachH, okRefL, okRef, okRefB, okRef_list]
                · have hk1 : ¬ ((k + 1 : Nat) : Int) = most := by simpa using h
                  omega
                · exact .inr ⟨by simp [okRefL, okRef, cloA, hAr], by simp [okRefL, okRef, okRefB, okRef_list]⟩
              · rintro e a12 w12 ⟨D, φ12, st12, ⟨hD, hDK⟩, h12, hq12⟩
                have key : (e = .normal ∨ e = .exit 0) ∧ ∃ (m : Nat) (φ13 : List Nat), eachM most N m ∧ SR (X1.marked D) φ13 ⟨eachS γ A l Nb, eachH most q m⟩ a12 w12 := by
                  cases e with
                  | normal => obtain ⟨m, hm, rfl⟩ := hq12; exact ⟨.inl rfl, m, φ12, hm, h12⟩
                  | exit j =>
                    match j, hq12 with
                    | 0, hq12 =>
                      obtain ⟨m, hm, hw⟩ := hq12
                      obtain ⟨φ13, h13⟩ := h12.weak rfl hw
                      exact ⟨.inr rfl, m, φ13, hm, h13⟩
                    | j + 1, hq12 => exact hq12.elim
                  | _ => exact hq12.elim
                obtain ⟨he, m, φ13, hm, h13⟩ := key
                have hDK' : Nb < D := hDK (Nb, _) (by rw [hX1]; exact List.mem_cons_self)
                obtain ⟨X2, hX2⟩ : ∃ X2, X2 = X1.marked D := ⟨_, rfl⟩
                rw [← hX2] at h13
                have hP2 : X2.P = Tryd.prog := by rw [hX2]; exact hP1
                have hc2 : X2.c0 = none := by rw [hX2]; rfl
                refine inBlock_ne he ?_
                have hmN := hm
                unfold eachM at hmN
                have hlw := lenS_list
                refine wpIn_seq (pieceP hP2 (r := none) ⟨eachSw γ A l Nb q.toks.length, eachH most q m⟩ (by kernel_rfl) hc2 h13 ?_ ?_)
                · simp only [tyE, wkQ_normal, eachL, eachS, eachSw, eachH, lenS_list, evS, tyS, Bool.not_true, Bool.not_false, Nat.reduceAdd, Nat.reduceSub, Nat.reduceMul, Nat.reduceLT, Nat.reduceLeDiff, Nat.reduceEqDiff, reduceCtorEq, List.reduceReplicate, Int.reduceToNat, Int.reduceLE, Int.reduceLT]
                  (repeat' (first | (with_reducible refine And.intro ?_ ?_) | ((first | refine GuardK.intro_f (fun h => ?_) (fun h => ?_) | refine GuardK.intro_t (fun h => ?_) (fun h => ?_) | refine CondK.intro (fun h => ?_) (fun h => ?_) | refine PickK.intro (fun h => ?_) (fun h => ?_)) <;> simp only [h, tyE, wkQ_normal, lenS_list, evS, tyS, Bool.not_true, Bool.not_false, Nat.reduceAdd, Nat.reduceSub, Nat.reduceMul, Nat.reduceLT, Nat.reduceLeDiff, Nat.reduceEqDiff, reduceCtorEq, List.reduceReplicate, Int.reduceToNat, Int.reduceLE, Int.reduceLT]) | (refine DrawK.intro (by kernel_rfl) (by kernel_rfl) ?_; simp only [tyE, wkQ_normal, lenS_list, evS, tyS, Bool.not_true, Bool.not_false, Nat.reduceAdd, Nat.reduceSub, Nat.reduceMul, Nat.reduceLT, Nat.reduceLeDiff, Nat.reduceEqDiff, reduceCtorEq, List.reduceReplicate, Int.reduceToNat, Int.reduceLE, Int.reduceLT])))
                  all_goals first | rfl | exact .inl rfl | trace_state
                intro φ14 a14 w14 h14
                refine wpIn_seq (pieceP hP2 (r := none) ⟨eachSw γ A l Nb N, eachH most q m⟩ (by kernel_rfl) hc2 h14 ?_ ?_)
                · by_cases herr : q.err = 0
                  · have h0 : (q.err != 0) = false := by rw [herr]; rfl
                    rw [if_pos herr, Nat.add_zero, ← hN] at hlen
                    simp only [tyE, wkQ_normal, eachL, eachS, eachSw, eachH, h0, hlen, evS, tyS, Bool.not_true, Bool.not_false, Nat.reduceAdd, Nat.reduceSub, Nat.reduceMul, Nat.reduceLT, Nat.reduceLeDiff, Nat.reduceEqDiff, reduceCtorEq, List.reduceReplicate, Int.reduceToNat, Int.reduceLE, Int.reduceLT]
                    (repeat' (first | (with_reducible refine And.intro ?_ ?_) | ((first | refine GuardK.intro_f (fun h => ?_) (fun h => ?_) | refine GuardK.intro_t (fun h => ?_) (fun h => ?_) | refine CondK.intro (fun h => ?_) (fun h => ?_) | refine PickK.intro (fun h => ?_) (fun h => ?_)) <;> simp only [h, tyE, wkQ_normal, h0, evS, tyS, Bool.not_true, Bool.not_false, Nat.reduceAdd, Nat.reduceSub, Nat.reduceMul, Nat.reduceLT, Nat.reduceLeDiff, Nat.reduceEqDiff, reduceCtorEq, List.reduceReplicate, Int.reduceToNat, Int.reduceLE, Int.reduceLT]) | (refine DrawK.intro (by kernel_rfl) (by kernel_rfl) ?_; simp only [tyE, wkQ_normal, h0, evS, tyS, Bool.not_true, Bool.not_false, Nat.reduceAdd, Nat.reduceSub, Nat.reduceMul, Nat.reduceLT, Nat.reduceLeDiff, Nat.reduceEqDiff, reduceCtorEq, List.reduceReplicate, Int.reduceToNat, Int.reduceLE, Int.reduceLT])))
                    all_goals first | rfl | exact .inl rfl | trace_state
                  · have h0 : (q.err != 0) = true := by simpa using herr
                    rw [if_neg herr, ← hN] at hlen
                    have ew : IntKind.i64.wrap ((q.toks.length : Int) + 1) = (N : Int) := by rw [i64w] <;> omega
                    simp only [tyE, wkQ_normal, eachL, eachS, eachSw, eachH, h0, ew, evS, tyS, Bool.not_true, Bool.not_false, Nat.reduceAdd, Nat.reduceSub, Nat.reduceMul, Nat.reduceLT, Nat.reduceLeDiff, Nat.reduceEqDiff, reduceCtorEq, List.reduceReplicate, Int.reduceToNat, Int.reduceLE, Int.reduceLT]
                    (repeat' (first | (with_reducible refine And.intro ?_ ?_) | ((first | refine GuardK.intro_f (fun h => ?_) (fun h => ?_) | refine GuardK.intro_t (fun h => ?_) (fun h => ?_) | refine CondK.intro (fun h => ?_) (fun h => ?_) | refine PickK.intro (fun h => ?_) (fun h => ?_)) <;> simp only [h, tyE, wkQ_normal, h0, ew, evS, tyS, Bool.not_true, Bool.not_false, Nat.reduceAdd, Nat.reduceSub, Nat.reduceMul, Nat.reduceLT, Nat.reduceLeDiff, Nat.reduceEqDiff, reduceCtorEq, List.reduceReplicate, Int.reduceToNat, Int.reduceLE, Int.reduceLT]) | (refine DrawK.intro (by kernel_rfl) (by kernel_rfl) ?_; simp only [tyE, wkQ_normal, h0, ew, evS, tyS, Bool.not_true, Bool.not_false, Nat.reduceAdd, Nat.reduceSub, Nat.reduceMul, Nat.reduceLT, Nat.reduceLeDiff, Nat.reduceEqDiff, reduceCtorEq, List.reduceReplicate, Int.reduceToNat, Int.reduceLE, Int.reduceLT])))
                    all_goals first | rfl | exact .inl rfl | trace_state
                intro φ15 a15 w15 h15'
                refine wpIn_seq (pieceP hP2 (r := none) ⟨eachSw γ A l Nb N, eachH most q m⟩ (by kernel_rfl) hc2 h15' ?_ ?_)
                · clear hs h1 h2 h3 h4 h5 h6 h7 h8 h9 h10 h11 h12 h13 h14 h15' hres hlen
                  simp only [tyE, wkQ_normal, eachL, eachS, eachSw, eachH, evS, tyS, Bool.not_true, Bool.not_false, Nat.reduceAdd, Nat.reduceSub, Nat.reduceMul, Nat.reduceLT, Nat.reduceLeDiff, Nat.reduceEqDiff, reduceCtorEq, List.reduceReplicate, Int.reduceToNat, Int.reduceLE, Int.reduceLT]
                  (repeat' (first | (with_reducible refine And.intro ?_ ?_) | ((first | refine GuardK.intro_f (fun h => ?_) (fun h => ?_) | refine GuardK.intro_t (fun h => ?_) (fun h => ?_) | refine CondK.intro (fun h => ?_) (fun h => ?_) | refine PickK.intro (fun h => ?_) (fun h => ?_)) <;> simp only [h, tyE, wkQ_normal, evS, tyS, Bool.not_true, Bool.not_false, Nat.reduceAdd, Nat.reduceSub, Nat.reduceMul, Nat.reduceLT, Nat.reduceLeDiff, Nat.reduceEqDiff, reduceCtorEq, List.reduceReplicate, Int.reduceToNat, Int.reduceLE, Int.reduceLT]) | (refine DrawK.intro (by kernel_rfl) (by kernel_rfl) ?_; simp only [tyE, wkQ_normal, evS, tyS, Bool.not_true, Bool.not_false, Nat.reduceAdd, Nat.reduceSub, Nat.reduceMul, Nat.reduceLT, Nat.reduceLeDiff, Nat.reduceEqDiff, reduceCtorEq, List.reduceReplicate, Int.reduceToNat, Int.reduceLE, Int.reduceLT])))
                  all_goals first | rfl | exact .inl rfl | (exfalso; simp only [decide_eq_true_eq, decide_eq_false_iff_not, bne_iff_ne, ne_eq, bne_eq_false_iff_eq] at *; omega) | trace_state
                intro φ16 a16 w16 h16
                refine wpIn_seq (pieceP hP2 (r := none) ⟨eachSw γ A l Nb N, eachH most q ((0 : Nat) : Int)⟩ (by kernel_rfl) hc2 h16 ?_ ?_)
                · simp only [tyE, wkQ_normal, eachL, eachS, eachSw, eachH, evS, tyS, Bool.not_true, Bool.not_false, Nat.reduceAdd, Nat.reduceSub, Nat.reduceMul, Nat.reduceLT, Nat.reduceLeDiff, Nat.reduceEqDiff, reduceCtorEq, List.reduceReplicate, Int.reduceToNat, Int.reduceLE, Int.reduceLT]
                  (repeat' (first | (with_reducible refine And.intro ?_ ?_) | ((first | refine GuardK.intro_f (fun h => ?_) (fun h => ?_) | refine GuardK.intro_t (fun h => ?_) (fun h => ?_) | refine CondK.intro (fun h => ?_) (fun h => ?_) | refine PickK.intro (fun h => ?_) (fun h => ?_)) <;> simp only [h, tyE, wkQ_normal, evS, tyS, Bool.not_true, Bool.not_false, Nat.reduceAdd, Nat.reduceSub, Nat.reduceMul, Nat.reduceLT, Nat.reduceLeDiff, Nat.reduceEqDiff, reduceCtorEq, List.reduceReplicate, Int.reduceToNat, Int.reduceLE, Int.reduceLT]) | (refine DrawK.intro (by kernel_rfl) (by kernel_rfl) ?_; simp only [tyE, wkQ_normal, evS, tyS, Bool.not_true, Bool.not_false, Nat.reduceAdd, Nat.reduceSub, Nat.reduceMul, Nat.reduceLT, Nat.reduceLeDiff, Nat.reduceEqDiff, reduceCtorEq, List.reduceReplicate, Int.reduceToNat, Int.reduceLE, Int.reduceLT])))
                  all_goals first | rfl | exact .inl rfl | trace_state
                intro φ17 a17 w17 h17
                refine wpIn_seq (wpIn_seq (pieceP hP2 (r := none) ⟨⟨84, (63, cloA Nb) :: (eachSw γ A l Nb N).l, γ⟩, eachH most q ((0 : Nat) : Int)⟩ (by kernel_rfl) hc2 h17 ?_ ?_))
                · simp only [tyE, wkQ_normal, eachL, eachSw, eachH, evS, tyS, Bool.not_true, Bool.not_false, Nat.reduceAdd, Nat.reduceSub, Nat.reduceMul, Nat.reduceLT, Nat.reduceLeDiff, Nat.reduceEqDiff, reduceCtorEq, List.reduceReplicate, Int.reduceToNat, Int.reduceLE, Int.reduceLT]
                  (repeat' (first | (with_reducible refine And.intro ?_ ?_) | ((first | refine GuardK.intro_f (fun h => ?_) (fun h => ?_) | refine GuardK.intro_t (fun h => ?_) (fun h => ?_) | refine CondK.intro (fun h => ?_) (fun h => ?_) | refine PickK.intro (fun h => ?_) (fun h => ?_)) <;> simp only [h, tyE, evS, tyS, Bool.not_true, Bool.not_false, Nat.reduceAdd, Nat.reduceSub, Nat.reduceMul, Nat.reduceLT, Nat.reduceLeDiff, Nat.reduceEqDiff, reduceCtorEq, List.reduceReplicate, Int.reduceToNat, Int.reduceLE, Int.reduceLT]) | (refine DrawK.intro (by kernel_rfl) (by kernel_rfl) ?_; simp only [tyE, evS, tyS, Bool.not_true, Bool.not_false, Nat.reduceAdd, Nat.reduceSub, Nat.reduceMul, Nat.reduceLT, Nat.reduceLeDiff, Nat.reduceEqDiff, reduceCtorEq, List.reduceReplicate, Int.reduceToNat, Int.reduceLE, Int.reduceLT])))
                  all_goals first | rfl | exact .inl rfl | trace_state
                intro φ18 a18 w18 h18
                have hg2 : a18.eval (.tmp 63) = .func (.func 30) #[] #[.pointer (some ⟨Nb, 0, none⟩)] := h18.getv rfl
                refine wpIn_block (wpIn_mono (range_ruleP (X := X2) (Q := each2Q γ A l most q Nb N) hP2 h18 hc2 (by kernel_rfl) (by kernel_rfl) hg2 (enters_of Tryd.func30 (by kernel_rfl) rfl) N (fun k => itemV (itemAt (eachItems l) k)) (by rw [hN]; exact each_seq hγ hγ2 l hl Nb)
                  (eachSw γ A l Nb N) (fun k => eachH most q ((k : Nat) : Int)) (fun _ => True) trivial ?_ ?_ (fun k => (itemAt (eachItems l) k).1.1.av (itemAt (eachItems l) k).1.2) (fun k => .v (.int .i64 (itemAt (eachItems l) k).2)) (fun k _ c => ⟨rel_tokV _ _ c, by simp only [rel, itemV]⟩) ?_ (fun _ => rfl)) ?_)
                · simp only [eachSw, eachL, eachH, evS, tyS, Bool.not_true, Bool.not_false, Nat.reduceAdd, Nat.reduceSub, Nat.reduceMul, Nat.reduceLT, Nat.reduceLeDiff, Nat.reduceEqDiff, reduceCtorEq, List.reduceReplicate, Int.reduceToNat, Int.reduceLE, Int.reduceLT]
                  (repeat' (first | (with_reducible refine And.intro ?_ ?_) | ((first | refine GuardK.intro_f (fun h => ?_) (fun h => ?_) | refine GuardK.intro_t (fun h => ?_) (fun h => ?_) | refine CondK.intro (fun h => ?_) (fun h => ?_) | refine PickK.intro (fun h => ?_) (fun h => ?_)) <;> simp only [h, evS, tyS, Bool.not_true, Bool.not_false, Nat.reduceAdd, Nat.reduceSub, Nat.reduceMul, Nat.reduceLT, Nat.reduceLeDiff, Nat.reduceEqDiff, reduceCtorEq, List.reduceReplicate, Int.reduceToNat, Int.reduceLE, Int.reduceLT]) | (refine DrawK.intro (by kernel_rfl) (by kernel_rfl) ?_; simp only [evS, tyS, Bool.not_true, Bool.not_false, Nat.reduceAdd, Nat.reduceSub, Nat.reduceMul, Nat.reduceLT, Nat.reduceLeDiff, Nat.reduceEqDiff, reduceCtorEq, List.reduceReplicate, Int.reduceToNat, Int.reduceLE, Int.reduceLT])))
                  all_goals first | rfl | exact .inl rfl | trace_state
                · intro X' φ' k a' W hP' hG hB hK ht hsr
                  exact each_base (c4 := (cx X φ4 (eachB5 most q) w4).shut) ho (hK (r, o) (by rw [hX2, hX1]; exact List.mem_cons_of_mem _ (List.mem_cons_of_mem _ (List.mem_singleton.2 rfl)))) (hK (Nb, _) (by rw [hX2, hX1]; exact List.mem_cons_of_mem _ List.mem_cons_self)) (by omega) n4 (gl_of_rel (c := cx X' φ' (eachH most q k) W) rfl (fun r hr => hr.1) (fun k => (hsr.gl k).2))
                · intro k hk _
                  show kwp Tryd.prog _ _ ⟨⟨84, (65, _) :: (64, _) :: (eachSw γ A l Nb N).l, γ⟩, _⟩
                  have ew : IntKind.i64.wrap ((k : Int) + 1) = ((k + 1 : Nat) : Int) := i64w (by omega) (by omega)
                  have htd := told_ev (γ := γ) hq (k := k) (by omega)
                  generalize itemAt (eachItems l) k = it at htd ⊢
                  obtain ⟨⟨t, pos⟩, e⟩ := it
                  simp only [eachSw, eachL, eachH, TokD.av, tokA, assignQ_normal, tyE, evS, tyS, Bool.not_true, Bool.not_false, Nat.reduceAdd, Nat.reduceSub, Nat.reduceMul, Nat.reduceLT, Nat.reduceLeDiff, Nat.reduceEqDiff, reduceCtorEq, List.reduceReplicate, Int.reduceToNat, Int.reduceLE, Int.reduceLT]
                  refine CallK.intro b14 (by simp [treeL, treeA, treeA_list]) htd ?_
                  simp only [tyE, roundQ_normal, ew, evS, tyS, Bool.not_true, Bool.not_false, Nat.reduceAdd, Nat.reduceSub, Nat.reduceMul, Nat.reduceLT, Nat.reduceLeDiff, Nat.reduceEqDiff, reduceCtorEq, List.reduceReplicate, Int.reduceToNat, Int.reduceLE, Int.reduceLT]
                  (repeat' (first | (with_reducible refine And.intro ?_ ?_) | ((first | refine GuardK.intro_f (fun h => ?_) (fun h => ?_) | refine GuardK.intro_t (fun h => ?_) (fun h => ?_) | refine CondK.intro (fun h => ?_) (fun h => ?_) | refine PickK.intro (fun h => ?_) (fun h => ?_)) <;> simp only [h, tyE, roundQ_normal, ew, evS, tyS, Bool.not_true, Bool.not_false, Nat.reduceAdd, Nat.reduceSub, Nat.reduceMul, Nat.reduceLT, Nat.reduceLeDiff, Nat.reduceEqDiff, reduceCtorEq, List.reduceReplicate, Int.reduceToNat, Int.reduceLE, Int.reduceLT]) | (refine DrawK.intro (by kernel_rfl) (by kernel_rfl) ?_; simp only [tyE, roundQ_normal, ew, evS, tyS, Bool.not_true, Bool.not_false, Nat.reduceAdd, Nat.reduceSub, Nat.reduceMul, Nat.reduceLT, Nat.reduceLeDiff, Nat.reduceEqDiff, reduceCtorEq, List.reduceReplicate, Int.reduceToNat, Int.reduceLE, Int.reduceLT])))
                  · exact .inr ⟨by simp [okRefL, okRef, cloA, hAr], by simp [okRefL, okRef, okRefB, okRef_list]⟩
                · rintro e a19 w19 ⟨D2, φ19, st19, ⟨hD2, hDK2⟩, h19, hq19⟩
                  cases e with
                  | normal =>
                    obtain rfl : st19 = ⟨eachSw γ A l Nb N, eachH most q N⟩ := hq19
                    have hne : D2 ≠ D := by
                      have := hDK2 (D, _) (by rw [hX2]; exact List.mem_cons_self)
                      omega
                    refine wpIn_mono (kwp_soundP (X := X2.marked D2) (r := none) hP2 _ eachEndQ (by kernel_rfl) h19 ?_) ?_
                    · simp only [tyE, eachL, eachSw, eachH, eachEndQ_ret, evS, tyS, Bool.not_true, Bool.not_false, Nat.reduceAdd, Nat.reduceSub, Nat.reduceMul, Nat.reduceLT, Nat.reduceLeDiff, Nat.reduceEqDiff, reduceCtorEq, List.reduceReplicate, Int.reduceToNat, Int.reduceLE, Int.reduceLT]
                      (repeat' (first | (with_reducible refine And.intro ?_ ?_) | ((first | refine GuardK.intro_f (fun h => ?_) (fun h => ?_) | refine GuardK.intro_t (fun h => ?_) (fun h => ?_) | refine CondK.intro (fun h => ?_) (fun h => ?_) | refine PickK.intro (fun h => ?_) (fun h => ?_)) <;> simp only [h, tyE, eachEndQ_ret, evS, tyS, Bool.not_true, Bool.not_false, Nat.reduceAdd, Nat.reduceSub, Nat.reduceMul, Nat.reduceLT, Nat.reduceLeDiff, Nat.reduceEqDiff, reduceCtorEq, List.reduceReplicate, Int.reduceToNat, Int.reduceLE, Int.reduceLT]) | (refine DrawK.intro (by kernel_rfl) (by kernel_rfl) ?_; simp only [tyE, eachEndQ_ret, evS, tyS, Bool.not_true, Bool.not_false, Nat.reduceAdd, Nat.reduceSub, Nat.reduceMul, Nat.reduceLT, Nat.reduceLeDiff, Nat.reduceEqDiff, reduceCtorEq, List.reduceReplicate, Int.reduceToNat, Int.reduceLE, Int.reduceLT])))
                      all_goals (refine CallK.intro b15 (by simp [treeL, treeA, hA]) h15 ?_; simp only [tyE, eachEndQ_ret, evS, tyS, Bool.not_true, Bool.not_false, Nat.reduceAdd, Nat.reduceSub, Nat.reduceMul, Nat.reduceLT, Nat.reduceLeDiff, Nat.reduceEqDiff, reduceCtorEq, List.reduceReplicate, Int.reduceToNat, Int.reduceLE, Int.reduceLT])
                    · rintro e a20 w20 ⟨φ20, st20, h20, hq20⟩
                      cases e with
                      | ret =>
                        refine ⟨[D2, D], φ20, st20, by simp [hne], ?_, ?_, endS_endA hq20⟩
                        · intro D' hD'
                          simp only [List.mem_cons, List.not_mem_nil, or_false] at hD'
                          rcases hD' with rfl | rfl
                          · rw [hX2, hX1] at hD2; exact hD2
                          · rw [hX1] at hD; exact hD
                        · rw [hX2, hX1] at h20
                          have : X.marks [D2, D] = X.with [(D2, .deferred (some [])), (D, .deferred (some []))] [markD D2, markD D] none := by simp [Fix.marks, hXK, hXdf]
                          rw [this]
                          exact SR.fewer (X := X) (K := (D2, .deferred (some [])) :: (D, .deferred (some [])) :: [(Nb, .cells #[.slice (some ⟨r, off, none⟩) l.length cap] 22 (0, 0)), (r, o)]) h20 (fun p hp => by simp only [List.mem_cons, List.not_mem_nil, or_false] at hp; rcases hp with rfl | rfl <;> simp)
                      | _ => exact hq20.elim
                  | _ => exact hq19.elim
end Go.Proofs.YtplnhipgifcafaaDoor
/- LexEach: for every text and every number the law answers true, and its arguments read afterwards as they did: her row, and the card over it. -/
namespace Go.Proofs.YtplnhipgifcafaaDoor
set_option linter.all false
open Go Go.Ev Go.Lib
open Go.ChangeShapes Go.WideShapes Go.ChangeAt Go.RowKit
open Go.ChangeMaps (open_string shut_string)
/-- What is known of the package-level variables at the call. -/
def gam (m : Int) (te : TypeId) (pe : Value) : List (Nat × AV) := [(1, .ela false [.v (.int .i64 m)]), (4, .ela false [.v (.iface te pe)])]
theorem gam_gl (m : Int) (te : TypeId) (pe : Value) : Gl (gam m te pe) := ⟨⟨m, rfl⟩, te, pe, rfl⟩
theorem gam_glw (m : Int) (te : TypeId) (pe : Value) : GlW (gam m te pe) := by
  intro k
  unfold gam
  simp only [Go.Ev.look]
  split
  · exact .inr ⟨_, rfl⟩
  · split
    · exact .inr ⟨_, rfl⟩
    · exact .inl rfl
theorem gam_ok {m : Int} {te : TypeId} {pe : Value} {W : World} (h1 : W.cell? ⟨1, 0, none⟩ = some (.int .i64 m)) (h4 : W.cell? ⟨4, 0, none⟩ = some (.iface te pe)) : glOK (gam m te pe) W := by
  have lt : ∀ g u, W.cell? ⟨g, 0, none⟩ = some u → g < W.heap.size := fun g u h => by
    by_cases hg : g < W.heap.size
    · exact hg
    · unfold World.cell? at h
      simp only [Array.getElem?_eq_none (Nat.le_of_not_lt hg)] at h
      cases h
  intro k x e
  unfold gam at e
  simp only [Go.Ev.look] at e
  split at e
  · rename_i hk; subst hk
    simp only [AV.ela.injEq, List.cons.injEq, AV.v.injEq, and_true, true_and] at e
    subst e
    exact ⟨lt _ _ h1, h1⟩
  · split at e
    · rename_i hk; subst hk
      simp only [AV.ela.injEq, List.cons.injEq, AV.v.injEq, and_true, true_and] at e
      subst e
      exact ⟨lt _ _ h4, h4⟩
    · cases e
/-- A contract of the evaluator, at a world that holds what the rows list. -/
theorem calls_of_ev {f : FuncId} {args : List AV} {res : AV} {m : Int} {te : TypeId} {pe : Value} {W : World} {vs : Array Value} (h : Ev Tryd.prog (gam m te pe) f args res)
    (h1 : W.cell? ⟨1, 0, none⟩ = some (.int .i64 m)) (h4 : W.cell? ⟨4, 0, none⟩ = some (.iface te pe)) (hr : relL args (cx0 Tryd.prog (fun _ => False) (fun _ => False) W) vs.toList) :
    Calls Tryd.prog f vs W fun e w' => ∃ u, e = .returned u ∧ rel res (cx0 Tryd.prog (fun _ => False) (fun _ => False) w') u ∧ Below W.heap.size W w' :=
  h _ _ W vs (fun _ h => h.elim) (fun k => gl_rel (c := cx0 Tryd.prog (fun _ => False) (fun _ => False) W) (gam_glw m te pe) (gam_ok h1 h4) rfl (fun r hr => ⟨hr, fun h => h⟩) k) hr
namespace lexEach
set_option maxRecDepth 100000 in
theorem contract (H : Type) (enc : TypeId × Value → H) (W : World) (base : Nat) (args : Array Value) (ds gs : List (DataW H)) (before : List MemPlace)
    (hval : ∀ (j : Nat) t v, Tryd.f3.params[j]? = some t → args[j]? = some v → Value.okWide Tryd.prog W .any base t v)
    (hW : DataW.Whole enc Tryd.prog Tryd.f3.params.toList Rows.lexEachSpec.vars false W args.toList ds gs before)
    (hsz : (DataW.weightsEach Tryd.prog (Tryd.f3.params.toList ++ Rows.lexEachSpec.plain.varTypes Tryd.prog) (ds ++ gs)).all (· ≤ reachBytes) = true)
    (hL : laidMet Tryd.prog laidL W) (hS : W.ShapedOpen Tryd.prog) :
    Calls Tryd.prog 3 args W fun e W' => ∃ v, e = .returned v ∧ Rows.lexEachSpec.post enc Tryd.prog Tryd.f3 false true false false W args v W' := by
  have hW' := hW
  obtain ⟨p, q, hA0, hV, rfl, hfz, hnd⟩ := hW
  have hA : DataW.TrodAll enc Tryd.prog W 0 (fun _ => true) true Tryd.f3.params.toList args.toList ds p := hA0
  rw [Tryd.params3] at hA hval hsz
  obtain ⟨v0, vs0, d0, ds0, p0, q0, hargs, rfl, rfl, h0, r0⟩ := trodAll_cons hA
  obtain ⟨v1, vs1, d1, ds1, p1, q1, rfl, rfl, rfl, h1, r1⟩ := trodAll_cons r0
  obtain ⟨rfl, rfl, rfl⟩ := trodAll_nil r1
  obtain rfl : args = #[v0, v1] := by cases args; simp_all
  obtain ⟨rfl, rfl⟩ := trodVars_none hV
  have hs0 := okWide_sl Tryd.underlying22 (hval 0 22 v0 rfl rfl)
  obtain ⟨a0, len0, cap0, hv0⟩ := okWide_slice Tryd.underlying22 (hval 0 22 v0 rfl rfl)
  have k0 := h0
  have lt0 : ∀ x ∈ p0, x.block < W.heap.size := by obtain ⟨m, hm⟩ := k0; exact DataW.trod_lt m _ _ _ hm
  have y0 : len0 * 1 ≤ 140737488351232 := by
    rw [hv0] at h0
    exact size_ints hsz (j := 0) (t := 22) rfl rfl Tryd.underlying22 Tryd.underlying5 (by kernel_rfl) (by kernel_rfl) h0
  let c : Cx := cx0 Tryd.prog (fun _ => False) (fun _ => False) W
  have hrow : ∃ l : List UInt8, l.length = len0 ∧ ((v0 = .slice none 0 0 ∧ l = [] ∧ rel (.v (.slice none 0 0)) c v0) ∨ rel (.sl false l.length l.length (l.map byteC)) c v0) := by
    have h0' := h0
    rw [hv0] at h0'
    obtain ⟨fuel, hf⟩ := h0'
    rcases open_ints Tryd.underlying22 Tryd.underlying5 (by kernel_rfl) hf with ⟨hcs, _⟩ | ⟨x, l, cp, zs, hcs, _, hl, hm, hz, _, hcell, hwz⟩
    · simp [Value.cells] at hcs
      obtain ⟨rfl, rfl, rfl⟩ := hcs
      exact ⟨[], rfl, .inl ⟨hv0, rfl, by simp only [rel]; exact hv0⟩⟩
    · simp [Value.cells] at hcs
      obtain ⟨rfl, rfl, rfl⟩ := hcs
      exact rowAV (c := c) rfl (fun r hr => ⟨hr, by simp⟩) hv0 hs0 (by simpa using hz) (fun y hy => by cases hy; exact hcell) hwz
  obtain ⟨a1, rfl, rfl, rfl, w1⟩ := open_int Tryd.underlying3 (hval 1 3 v1 rfl rfl) h1
  clear hA0 hsz
  obtain ⟨l, hl, hrow⟩ := hrow
  have hl' : l.length ≤ 140737488351232 := by omega
  obtain ⟨m, hm⟩ := maxLen_cell hS
  obtain ⟨te, pe, hpe⟩ := errRange_cell hL
  have hcalls : Calls Tryd.prog 3 #[v0, .int .i64 a1] W fun e w' => ∃ u, e = .returned u ∧ rel (.v (.bool true)) (cx0 Tryd.prog (fun _ => False) (fun _ => False) w') u ∧ Below W.heap.size W w' := by
    rcases hrow with ⟨rfl, rfl, hr⟩ | hr
    · refine calls_of_ev (lexEach_ev (gam_gl m te pe) (gam_glw m te pe) (.v (.slice none 0 0)) rfl (fun _ => rfl) [] (by simp) a1 lent_nil refScan_nil (kept_nil false)) hm hpe ?_
      simp only [relL, rel]
      exact ⟨_, _, rfl, rfl, _, _, rfl, rfl, rfl⟩
    · refine calls_of_ev (lexEach_ev (gam_gl m te pe) (gam_glw m te pe) (.sl false l.length l.length (l.map byteC)) (by simp [treeA]) (fun _ => rfl) l hl' a1 (lent_ev false l hl') (refScan_ev false l hl') (kept_ev false false l hl')) hm hpe ?_
      simp only [relL]
      exact ⟨_, _, rfl, hr, _, _, rfl, by simp only [rel], rfl⟩
  refine hcalls.mono fun e W' ⟨u, he, hu, bel⟩ => ?_
  simp only [rel] at hu
  subst he
  subst hu
  exact ⟨_, rfl, _, _, _, [], _, [], hW', trodAll_mk1 (shut_bool Tryd.underlying4 _), (trodAll_cons_mk (Below.trod laidOut (by kernel_rfl) (of_decide_eq_true (by kernel_rfl)) k0 bel lt0) (trodAll_cons_mk (shut_int Tryd.underlying3 w1) trodAll_mk0)), rfl, bel.frame _, fun h => by cases h⟩
theorem witness_row (os : Os) {H : Type} (enc : TypeId × Value → H) : (OpenSpec.ofChange Rows.lexEachSpec).preRow enc Tryd.prog Tryd.f3 Rows.lexEachRow.domain false Rows.lexEachRow.laid ((laidWorld os).forCall (fun _ _ => 0) ⟨#[], #[.slice none 0 0, .int .i64 0], []⟩).memory #[.slice none 0 0, .int .i64 0] := by
  have hw : ((DataW.whole enc Tryd.prog ((laidWorld os).forCall (fun _ _ => 0) ⟨#[], #[.slice none 0 0, .int .i64 0], []⟩).memory Tryd.f3.params.toList Rows.lexEachSpec.vars false #[Value.slice none 0 0, .int .i64 0].toList 8).map (fun x => (x.1, x.2.1))).isSome = true := by kernel_rfl
  obtain ⟨x, hx⟩ := Option.isSome_iff_exists.1 hw
  obtain ⟨⟨x1, x2, x3⟩, hx', hx1⟩ := Option.map_eq_some_iff.1 hx
  exact OpenSpec.preRow_of_cond 8 hx' (by kernel_rfl) (fun k hk => by cases hk) (by kernel_rfl) (laid_met os _)
set_option maxRecDepth 100000 in
theorem lifted (os : Os) (started : os.Started) (H : Type) (enc : TypeId × Value → H) (F : Stop.Interp) :
    ReturnsInHanded {} Tryd.checked os 3 .any ((OpenSpec.ofChange Rows.lexEachSpec).preRow enc Tryd.prog Tryd.f3 Rows.lexEachRow.domain false Rows.lexEachRow.laid) (((OpenSpec.ofChange Rows.lexEachSpec).at F).post enc Tryd.prog Tryd.f3 false true false false) := by
  refine returnsInHanded_of_row (C := Tryd.checked) (s := OpenSpec.ofChange Rows.lexEachSpec) own started (by kernel_rfl) Tryd.func3
    (witness_row_atRef (enc := enc) (C := Tryd.checked) false (laidWorld os) #[.slice none 0 0, .int .i64 0] rfl (by kernel_rfl) (by kernel_rfl) (by kernel_rfl) (witness_row os enc)) ?_
  intro W base args ds gs before hval hW _ _ hsz hL hS _
  exact contract H enc W base args ds gs before hval hW hsz hL hS
theorem said : Rows.LexEachSaid :=
  OpenClaim.holds_of_cond 3 Tryd.f3 rfl rfl rfl rfl rfl rfl rfl ⟨rfl, rfl, rfl, rfl, rfl⟩ rfl rfl rfl rfl rfl (by kernel_rfl) Tryd.func3 (by kernel_rfl)
    (of_decide_eq_true (by kernel_rfl)) (by unfold Func.isWrapper; first | (rw [if_pos (by decide +kernel)]; kernel_rfl) | (rw [if_neg (by decide +kernel)]; exact ⟨rfl, rfl⟩))
    (fun os started H enc _ F => by rw [OpenClaim.pre_eq_preRow]; exact lifted os started H enc F)
/-- No parameter wants a stand-in; the program's own looks are off: what the card asks. -/
theorem plain (f : FuncId) (fn : Func) (hf : Tryd.pinned.checked.prog.funcNamed "chordmail/chordmaillaw01.LexEach" = some f) (hfn : Tryd.pinned.checked.prog.funcs[f]? = some fn) :
    true = Tryd.pinned.checked.prog.looks [] ∧ ∀ (j : Nat) t, fn.params[j]? = some t → Tryd.pinned.checked.prog.wantsStandIn t = false := by
  obtain rfl : f = 3 := Option.some.inj ((show Tryd.prog.funcNamed "chordmail/chordmaillaw01.LexEach" = some 3 by kernel_rfl).symm.trans hf) |>.symm
  obtain rfl : fn = Tryd.f3 := (Option.some.inj (Tryd.func3.symm.trans hfn)).symm
  refine ⟨by kernel_rfl, fun j t ht => ?_⟩
  rw [Tryd.params3] at ht
  have hm : t = 22 ∨ t = 3 := by simpa using Array.mem_of_getElem? ht
  rcases hm with rfl | rfl
  · exact (show Tryd.prog.wantsStandIn 22 = false by kernel_rfl)
  · exact (show Tryd.prog.wantsStandIn 3 = false by kernel_rfl)
end lexEach
theorem lexEach_holds : Rows.LexEachCardSaid :=
  Claim7.holds_tied_plain_at .later [] _ _ _ _ lexEach.said (fun _ h => by cases h) (by kernel_rfl) (fun _ h => by cases h) lexEach_row_tie rfl ⟨rfl, rfl⟩ (by kernel_rfl) rfl lexEach.plain (by kernel_rfl)
#print axioms lexEach_holds
end Go.Proofs.YtplnhipgifcafaaDoor
