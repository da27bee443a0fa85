/- Contracts of the functions that the law reaches. -/
import Derived.Test.YtlobiioioicmhaaGreatDoorQ5
import Derived.Test.YtlobiioioicmhaaGreatDoorQ7
/- What the lexer tells can stand in an expression: the pure part. -/
namespace Go.Proofs.YtlobiioioicmhaaGreatDoor
set_option linter.all false
open Go Go.Ev
def tkOf (x : TokD × Nat) : Tk := ⟨x.1.kind, x.1.text, x.1.int, x.1.real, x.2, x.1.size⟩
theorem tkOf_cells (x : TokD × Nat) : (tkOf x).cells = tokCells x := rfl
theorem tks_cells (L : List (TokD × Nat)) : tkCells (L.map tkOf) = listCells L := by
  induction L with
  | nil => rfl
  | cons x L ih =>
    unfold tkCells listCells at *
    rw [List.map_cons, List.flatMap_cons, ih, List.map_cons, List.flatten_cons, tkOf_cells]
theorem LAt_list (L : List (TokD × Nat)) : LAt (listA L) (L.map tkOf) := by
  cases L with
  | nil => exact .inl ⟨rfl, rfl⟩
  | cons x L => exact .inr ⟨false, (x :: L).length, listCells (x :: L), by rw [List.length_map]; rfl, by rw [tks_cells]; exact List.prefix_rfl⟩
/-- The tokens of a text, if nothing is wrong. -/
def okToks (l : List UInt8) : Option (List (TokD × Nat)) := match (eachItems l).find? badI with
  | none => some ((eachItems l).map fun x => x.1)
  | some _ => none
/-- May it be a name? -/
def namedB (s : List UInt8) : Bool := match okToks s with
  | some [x] => x.1.kind == 1 && ((x.1.size : Int) == (s.length : Int))
  | _ => false
theorem itemsF_head : ∀ (f : Nat) (l : List UInt8) (i : Nat) (x : (TokD × Nat) × Int), x ∈ itemsF f l i → x.2 = 0 → ∃ s, headD s = .ok x.1.1 ∧ 1 ≤ s.length
  | 0, l, i, x, h, _ => by cases h
  | f + 1, l, i, x, h, h0 => by
    rw [itemsF] at h
    split at h
    · cases h
    · rename_i hT
      split at h
      · rename_i e he
        rw [List.mem_singleton] at h
        subst h
        exact absurd h0 (headD_err he)
      · rename_i t ht
        rcases List.mem_cons.1 h with rfl | h
        · exact ⟨_, ht, by rw [List.length_drop]; omega⟩
        · exact itemsF_head f l _ x h h0
theorem okToks_head {l : List UInt8} {L : List (TokD × Nat)} (h : okToks l = some L) {x : TokD × Nat} (hx : x ∈ L) : ∃ s, headD s = .ok x.1 ∧ 1 ≤ s.length := by
  unfold okToks at h
  split at h
  · rename_i hn
    cases h
    obtain ⟨y, hy, rfl⟩ := List.mem_map.1 hx
    have h0 : y.2 = 0 := by
      have := (List.find?_eq_none.1 hn) y hy
      simpa [badI] using this
    unfold eachItems at hy
    split at hy
    · rw [List.mem_singleton] at hy
      subst hy
      cases h0
    · exact itemsF_head _ _ _ y hy h0
  · cases h
theorem take_takeWhile {α : Type} (p : α → Bool) : ∀ l : List α, l.take (l.takeWhile p).length = l.takeWhile p
  | [] => rfl
  | x :: l => by
    rw [List.takeWhile_cons]
    split
    · rw [List.length_cons, List.take_succ_cons, take_takeWhile p l]
    · rfl
theorem takeWhile_idem {α : Type} (p : α → Bool) : ∀ l : List α, (l.takeWhile p).takeWhile p = l.takeWhile p
  | [] => rfl
  | x :: l => by
    rw [List.takeWhile_cons]
    split
    · rename_i h; rw [List.takeWhile_cons, if_pos h, takeWhile_idem p l]
    · rfl
theorem letter_not {n : Nat} (h : letterN n = true) : blankN n = false ∧ n ≠ 35 := by
  unfold letterN at h
  have h := of_decide_eq_true h
  refine ⟨?_, by omega⟩
  unfold blankN
  simp only [decide_eq_false_iff_not]
  omega
/-- A name, scanned alone. -/
theorem named_head {s : List UInt8} {t : TokD} (h : headD s = .ok t) (hl : 1 ≤ s.length) (hk : t.kind = 1) : namedB t.text = true := by
  unfold headD at h
  split at h
  rotate_left
  · split at h
    · unfold numberD realD at h
      split at h
      · split at h
        · cases h; cases hk
        · cases h
      · split at h
        · cases h; cases hk
        · cases h
    · split at h
      · unfold textD at h
        split at h
        · cases h
        · cases h; cases hk
      · split at h
        · cases h
        · cases h; cases hk
  rename_i hlet
  split at h
  · cases h
  rename_i h32
  cases h
  show namedB (s.take (spanEnd nameN s 1)) = true
  have hle := spanEnd_le (p := nameN) (l := s) (i := 1) hl
  have hn : spanEnd nameN s 1 = 1 + ((s.drop 1).takeWhile fun c => nameN c.toNat).length := rfl
  generalize hm : spanEnd nameN s 1 = n at *
  have hlen : (s.take n).length = n := by rw [List.length_take]; omega
  have ha : atL (s.take n) 0 = atL s 0 := by
    cases s with
    | nil => simp at hl
    | cons c r => cases n with
      | zero => omega
      | succ n => rfl
  have hd1 : (s.take n).drop 1 = (s.drop 1).takeWhile fun c => nameN c.toNat := by
    rw [List.drop_take, show n - 1 = ((s.drop 1).takeWhile fun c => nameN c.toNat).length by omega, take_takeWhile]
  have hsp : spanEnd nameN (s.take n) 1 = n := by
    unfold spanEnd
    rw [hd1, takeWhile_idem]
    exact hn.symm
  have hnx : nextT (s.take n) 0 = 0 := by
    unfold nextT
    have := letter_not hlet
    rw [gap_stop (by omega) (by rw [ha]; exact this.1) (by rw [ha]; exact this.2)]
  have hhd : headD ((s.take n).drop 0) = .ok ⟨1, s.take n, 0, 0, n⟩ := by
    rw [List.drop_zero]
    unfold headD
    rw [ha, if_pos hlet, hsp, if_neg h32, List.take_take, Nat.min_self]
  have hit : eachItems (s.take n) = [((⟨1, s.take n, 0, 0, n⟩, 0), 0)] := by
    unfold eachItems
    rw [if_neg (by omega), hlen, itemsF, hnx, if_neg (by omega), hhd]
    show ((⟨1, s.take n, 0, 0, n⟩, 0), (0 : Int)) :: itemsF n (s.take n) (0 + n) = _
    have : itemsF n (s.take n) (0 + n) = [] := by
      cases hs : n with
      | zero => omega
      | succ k =>
        rw [itemsF, if_pos]
        have := nextT_ge (s.take (k + 1)) (0 + (k + 1))
        rw [← hs] at this ⊢
        rw [hlen]; omega
    rw [this]
  unfold namedB okToks
  rw [hit]
  simp [badI, hlen]
theorem textF_256 (l : List UInt8) : ∀ (k i : Nat) (d q : List UInt8) (n : Nat), textF k l i d = some (q, n) → q.length ≤ 256
  | 0, i, d, q, n, h => by cases h
  | k + 1, i, d, q, n, h => by
    rw [textF] at h
    split at h
    · cases h
    · split at h
      · rename_i hc; cases h; exact hc.2
      · split at h
        · split at h
          · cases h
          · exact textF_256 l k _ _ q n h
        · split at h
          · cases h
          · exact textF_256 l k _ _ q n h
/-- What is known of a real token's value. -/
def goodR (r : Nat) : Prop := ∃ m e, r = realB m e ∧ m < 9007199254740992 ∧ (m = 0 ∨ (-1074 ≤ e ∧ e + m.log2 ≤ 1023))
/-- What a token is like. -/
def goodT (t : TokD) : Prop := (t.kind = 1 ∧ namedB t.text = true ∧ t.text.length ≤ 32) ∨ (t.kind = 2 ∧ 0 ≤ t.int ∧ t.int < 9223372036854775808) ∨ (t.kind = 3 ∧ goodR t.real) ∨ (t.kind = 4 ∧ t.text.length ≤ 256) ∨ t.kind = 5
theorem headD_good {s : List UInt8} {t : TokD} (h : headD s = .ok t) (hl : 1 ≤ s.length) : goodT t := by
  by_cases hk : t.kind = 1
  · refine .inl ⟨hk, named_head h hl hk, ?_⟩
    unfold headD at h
    split at h
    · split at h
      · cases h
      · rename_i h32; cases h; show (s.take _).length ≤ 32; rw [List.length_take]; omega
    · split at h
      · unfold numberD realD at h
        split at h
        · split at h
          · cases h; cases hk
          · cases h
        · split at h
          · cases h; cases hk
          · cases h
      · split at h
        · unfold textD at h
          split at h
          · cases h
          · cases h; cases hk
        · split at h
          · cases h
          · cases h; cases hk
  · unfold headD at h
    split at h
    · split at h
      · cases h
      · cases h; exact absurd rfl hk
    · split at h
      · unfold numberD realD at h
        split at h
        · split at h
          · rename_i hc
            cases h
            refine .inr (.inr (.inl ⟨rfl, _, _, rfl, ?_⟩))
            unfold realO at hc
            simp only [Bool.and_eq_true] at hc
            obtain ⟨⟨⟨⟨⟨h1, h2⟩, _⟩, _⟩, _⟩, h6⟩ := hc
            have a1 := (decO_iff h1).2
            have a2 := (decO_iff h2).2
            unfold finB at h6
            have h6 := of_decide_eq_true h6
            refine ⟨by omega, h6.imp id fun h => ⟨?_, h⟩⟩
            unfold expOf
            split
            · rename_i e
              generalize decV (numL s (digitsEnd s 0 + 1 + sgOf s)) = x at *
              omega
            · omega
          · cases h
        · split at h
          · rename_i hc
            cases h
            refine .inr (.inl ⟨rfl, ?_, ?_⟩)
            · show (0 : Int) ≤ _; exact Int.natCast_nonneg _
            · have := (decO_iff hc.1).2
              show ((decV (numL s 0) : Nat) : Int) < _
              omega
          · cases h
      · split at h
        · unfold textD at h
          split at h
          · cases h
          · rename_i d n hq
            cases h
            exact .inr (.inr (.inr (.inl ⟨rfl, textF_256 _ _ _ _ _ _ hq⟩)))
        · split at h
          · cases h
          · cases h; exact .inr (.inr (.inr (.inr rfl)))
end Go.Proofs.YtlobiioioicmhaaGreatDoor
/- The document's small functions that tell whether a token can stand, walked. -/
namespace Go.Proofs.YtlobiioioicmhaaGreatDoor
set_option linter.all false
open Go Go.Ev
set_option maxRecDepth 20000
variable {γ : List (Nat × AV)}
theorem c284 : bodyT Tryz.prog 284 := ⟨_, Tryz.func284, by kernel_rfl, by kernel_rfl⟩
theorem c285 : bodyT Tryz.prog 285 := ⟨_, Tryz.func285, by kernel_rfl, by kernel_rfl⟩
theorem c41 : bodyT Tryz.prog 41 := ⟨_, Tryz.func41, by kernel_rfl, by kernel_rfl⟩
theorem lenS47 (s : List ABlk) (L : List (TokD × Nat)) : lenS Tryz.prog 47 s (listA L) = some (.v (.int .i64 L.length)) := by
  have e24 : elemT Tryz.prog 47 = some 54 := by kernel_rfl
  cases L with
  | nil => simp only [listA, lenS, e24]; rfl
  | cons y T => simp only [listA, lenS, e24]; rfl
theorem fzL_all (P : Program) (H : List ABlk) (b : Bool) : ∀ ys : List AV, (∀ y ∈ ys, ∃ v, y = AV.v v) → fzL P H b ys ys
  | [], _ => by simp only [fzL]
  | y :: ys, h => by
    obtain ⟨v, rfl⟩ := h y (List.mem_cons_self ..)
    simp only [fzL]
    exact ⟨_, _, rfl, by simp only [fz], fzL_all P H b ys fun z hz => h z (List.mem_cons_of_mem _ hz)⟩
theorem lend1 {P : Program} {H : List ABlk} {i n : Nat} {k : ABlk} {ys : List AV} (h : H[i]? = some k) (hp : ys <+: k.cells) (hv : ∀ y ∈ ys, ∃ v, y = AV.v v) : fzL P H true [.sl true n n ys] [.own i k.ver n] := by
  simp only [fzL, fz]
  exact ⟨_, _, rfl, .inr ⟨trivial, i, k, ys, rfl, h, Nat.le_refl _, .inl trivial, hp, fzL_all P H true ys hv⟩, rfl⟩
theorem bytes_v (l : List UInt8) : ∀ y ∈ l.map byteC, ∃ v, y = AV.v v := fun y hy => by obtain ⟨c, _, rfl⟩ := List.mem_map.1 hy; exact ⟨_, rfl⟩
theorem nds_v (l : List Nd) : ∀ y ∈ ndCells l, ∃ v, y = AV.v v := fun y hy => by
  obtain ⟨n, _, hn⟩ := List.mem_flatMap.1 hy
  simp only [Nd.cells, List.mem_cons, List.not_mem_nil, or_false] at hn
  rcases hn with rfl | rfl | rfl | rfl | rfl | rfl | rfl | rfl | rfl <;> exact ⟨_, rfl⟩
theorem noBor_list (L : List (TokD × Nat)) : noBor (listA L) = true := by
  cases L with
  | nil => rfl
  | cons x L =>
    show (!false && noBorL (listCells (x :: L))) = true
    generalize x :: L = L
    unfold listCells
    induction L with
    | nil => rfl
    | cons y L ih =>
      rw [List.map_cons, List.flatten_cons]
      show noBorL (tokCells y ++ _) = true
      simp only [tokCells, tvals, List.map_cons, List.map_nil, List.cons_append, List.nil_append, noBorL, noBor, Bool.true_and]
      simpa using ih
theorem rscan_okToks {l : List UInt8} {L : List (TokD × Nat)} (h : okToks l = some L) : rscanA l = .tup [listA L, .v (.int .i64 0), .v (.int .i64 0)] := by
  unfold okToks at h
  unfold rscanA
  cases e : (eachItems l).find? badI with
  | none => rw [e] at h; cases h; rfl
  | some x => rw [e] at h; cases h
theorem rscan_noToks {l : List UInt8} (h : okToks l = none) : ∃ (L : List (TokD × Nat)) (x : (TokD × Nat) × Int), (eachItems l).find? badI = some x ∧ x.2 ≠ 0 ∧ rscanA l = .tup [listA L, .v (.int .i64 x.1.2), .v (.int .i64 x.2)] := by
  unfold okToks at h
  unfold rscanA
  cases e : (eachItems l).find? badI with
  | none => rw [e] at h; cases h
  | some x => exact ⟨_, x, rfl, by simpa [badI] using List.find?_some e, rfl⟩
theorem noBor_rscan (l : List UInt8) : noBor (rscanA l) = true := by
  unfold rscanA
  split <;> simp only [noBor, noBorL, noBor_list, Bool.and_self]
set_option maxHeartbeats 1000000 in
theorem refNamed_ev (s : List UInt8) (hs : s.length ≤ 140737488351232) : Ev Tryz.prog γ 284 [.v (.string ⟨s.toArray⟩)] (.v (.bool (namedB s))) := by
  refine Ev.of Tryz.func284 rfl ?_
  simp only [Tryz.f284, tyR, evE, Nat.reduceAdd, Nat.reduceSub, Nat.reduceLT, Nat.reduceEqDiff, reduceCtorEq]
  refine ⟨by omega, CallK.lend c41 _ (lend1 (k := ⟨0, 5, s.map byteC⟩) rfl List.prefix_rfl (bytes_v s)) (refScan_ev true s hs) ?_ ?_⟩
  · exact noBor_rscan s
  cases e : okToks s with
  | none =>
    obtain ⟨L, x, _, hk, hr⟩ := rscan_noToks e
    have d1 : (x.2 == 0) = false := by simpa using hk
    have en : namedB s = false := by unfold namedB; rw [e]
    rw [hr, en]
    simp only [d1, evE, Nat.reduceLT, Nat.reduceEqDiff, reduceCtorEq]
  | some L =>
    rw [rscan_okToks e]
    have ll := lenS47 [⟨0, 5, s.map byteC⟩] L
    have z0 : ((0 : Int) == 0) = true := rfl
    simp only [ll, z0, evE, Nat.reduceLT, Nat.reduceEqDiff, reduceCtorEq]
    match L, e with
    | [], e =>
      have en : namedB s = false := by unfold namedB; rw [e]
      rw [en]
      have n0 : (((0 : Nat) : Int) == 1) = false := rfl
      simp only [n0, evE, Nat.reduceLT, Nat.reduceEqDiff, reduceCtorEq]
    | [x], e =>
      have en : namedB s = (x.1.kind == 1 && ((x.1.size : Int) == (s.length : Int))) := by unfold namedB; rw [e]
      rw [en]
      have n1 : (((1 : Nat) : Int) == 1) = true := rfl
      simp only [tyR, n1, listA, listCells, tokCells, tvals, evE, tyX, Nat.reduceAdd, Nat.reduceLT, Nat.reduceLeDiff, Nat.reduceEqDiff, reduceCtorEq, Int.reduceLE]
      by_cases hk : x.1.kind = 1
      · have d1 : (x.1.kind == 1) = true := by simpa using hk
        simp only [tyR, d1, evE, tyX, Nat.reduceLT, Nat.reduceLeDiff, Nat.reduceEqDiff, reduceCtorEq, Int.reduceLE]
        decide
      · have d1 : (x.1.kind == 1) = false := by simpa using hk
        simp only [d1, evE, Nat.reduceLT, Nat.reduceEqDiff, reduceCtorEq]
        exact ⟨by decide, rfl⟩
    | x :: y :: L, e =>
      have en : namedB s = false := by unfold namedB; rw [e]
      rw [en]
      have n2 : (((L.length + 1 + 1 : Nat) : Int) == 1) = false := by simp only [beq_eq_false_iff_ne, ne_eq]; omega
      simp only [n2, evE, Nat.reduceLT, Nat.reduceEqDiff, reduceCtorEq]
theorem finite_ev {r : Nat} (h : goodR r) : Ev Tryz.prog γ 285 [.v (.float .f64 r)] (.v (.bool true)) := by
  obtain ⟨m, e, rfl, hm, he⟩ := h
  have g1 : (some Ordering.gt == some Ordering.gt) = true := rfl
  have g2 : (some Ordering.gt == some Ordering.eq) = false := rfl
  have g3 : (some Ordering.eq == some Ordering.gt) = false := rfl
  have g4 : (some Ordering.eq == some Ordering.eq) = true := rfl
  have o00 : FloatKind.f64.format.order 0 0 = some .eq := by kernel_rfl
  have s00 : FloatKind.f64.format.sub 0 0 = some 0 := by kernel_rfl
  have d10 : FloatKind.f64.format.div 4607182418800017408 0 = some 9218868437227405312 := by kernel_rfl
  have oi0 : FloatKind.f64.format.order 9218868437227405312 0 = some .gt := by kernel_rfl
  refine Ev.of Tryz.func285 rfl ?_
  by_cases h0 : m = 0
  · have er : realB m e = 0 := if_pos h0
    rw [er]
    simp only [Tryz.f285, g1, g3, g4, o00, s00, d10, oi0, fltRes_some, evE, Nat.reduceAdd, Nat.reduceSub, Nat.reduceLT, Nat.reduceEqDiff, reduceCtorEq]
  · have er : realB m e = dblN m e := if_neg h0
    have he := he.resolve_left h0
    have o1 : FloatKind.f64.format.order (dblN m e) 0 = some .gt := ord_zero (by omega) hm he.1
    have o2 : FloatKind.f64.format.sub (dblN m e) (dblN m e) = some 0 := sub_self_fin (by omega) hm he.1 he.2
    rw [er]
    simp only [Tryz.f285, g1, g2, g4, o1, o2, o00, fltRes_some, evE, Nat.reduceAdd, Nat.reduceSub, Nat.reduceLT, Nat.reduceEqDiff, reduceCtorEq]
set_option maxHeartbeats 1000000 in
theorem stands_ev (x : TokD × Nat) (h : goodT x.1) : Ev Tryz.prog γ 246 [.agg (tkOf x).cells] (.v (.bool true)) := by
  refine Ev.of Tryz.func246 rfl ?_
  obtain ⟨⟨kd, tx, ti, tr, tz⟩, tp⟩ := x
  rcases h with ⟨hk, hn, h32⟩ | ⟨hk, h0, _⟩ | ⟨hk, hr⟩ | ⟨hk, hl⟩ | hk
  · simp only at hk hn h32
    subst hk
    simp only [Tryz.f246, tyR, tkOf, Tk.cells, evE, tyX, Nat.reduceAdd, Nat.reduceSub, Nat.reduceLT, Nat.reduceEqDiff, reduceCtorEq]
    refine CallK.intro c284 rfl (refNamed_ev tx (by omega)) ?_
    rw [hn]
    simp only [evE, Nat.reduceLT, Nat.reduceEqDiff, reduceCtorEq]
  · simp only at hk h0
    subst hk
    have d1 : decide (0 ≤ ti) = true := decide_eq_true h0
    simp only [Tryz.f246, tyR, tkOf, Tk.cells, Int.reduceBEq, d1, evE, tyX, Nat.reduceAdd, Nat.reduceSub, Nat.reduceLT, Nat.reduceEqDiff, reduceCtorEq]
  · simp only at hk hr
    subst hk
    simp only [Tryz.f246, tyR, tkOf, Tk.cells, Int.reduceBEq, evE, tyX, Nat.reduceAdd, Nat.reduceSub, Nat.reduceLT, Nat.reduceEqDiff, reduceCtorEq]
    refine CallK.intro c285 rfl (finite_ev hr) ?_
    simp only [evE, Nat.reduceLT, Nat.reduceEqDiff, reduceCtorEq]
  · simp only at hk hl
    subst hk
    have d1 : decide ((tx.length : Int) ≤ 256) = true := decide_eq_true (by omega)
    simp only [Tryz.f246, tyR, tkOf, Tk.cells, Int.reduceBEq, d1, evE, tyX, Nat.reduceAdd, Nat.reduceSub, Nat.reduceLT, Nat.reduceEqDiff, reduceCtorEq]
  · simp only at hk
    subst hk
    simp only [Tryz.f246, tyR, tkOf, Tk.cells, Int.reduceBEq, evE, tyX, Nat.reduceAdd, Nat.reduceSub, Nat.reduceLT, Nat.reduceEqDiff, reduceCtorEq]
/-- The tokens of a text: they can all stand. -/
theorem stn_of {l : List UInt8} {L : List (TokD × Nat)} (h : okToks l = some L) : Stn γ (fun _ => true) (L.map tkOf) (L.map tkOf) 0 := by
  refine ⟨List.prefix_rfl, fun _ _ _ _ => rfl, fun t ht => ?_, fun t ht => ?_, ?_⟩
  · rw [List.getElem?_eq_none (Nat.le_refl _)] at ht; cases ht
  · obtain ⟨x, hx, rfl⟩ := List.mem_map.1 ht
    obtain ⟨s, hs, hs1⟩ := okToks_head h hx
    exact stands_ev x (headD_good hs hs1)
  · rw [List.length_map]
    unfold okToks at h
    split at h
    · cases h
      rw [List.length_map]
      have := items_len l
      omega
    · cases h
end Go.Proofs.YtlobiioioicmhaaGreatDoor
/- The document's Parse, walked. -/
namespace Go.Proofs.YtlobiioioicmhaaGreatDoor
set_option linter.all false
open Go Go.Ev
set_option maxRecDepth 20000
variable {γ : List (Nat × AV)}
/-- The place of the q-th token, or the end. -/
def placeO (L : List (TokD × Nat)) (n q : Nat) : Int := match L[q]? with
  | some x => (x.2 : Int)
  | none => n
/-- What a text is parsed to: the nodes, the place, the error. -/
def parseO (l : List UInt8) : List Nd × Int × Int := match okToks l with
  | none => match (eachItems l).find? badI with
    | some x => ([], x.1.2, x.2)
    | none => ([], 0, 0)
  | some L => match readP (L.map tkOf) 0 with
    | .bad q => ([], placeO L l.length q, 50)
    | .ok t q => if q < L.length then ([], placeO L l.length q, 50) else if limK t.size t.deep = 0 then (lay t 0, 0, 0) else ([], placeO L l.length 0, limK t.size t.deep)
def nodesA : List Nd → AV
  | [] => .v (.slice none 0 0)
  | ns => .sl false ns.length ns.length (ndCells ns)
def parseA (l : List UInt8) : AV := .tup [.agg [nodesA (parseO l).1], .v (.int .i64 (parseO l).2.1), .v (.int .i64 (parseO l).2.2)]
theorem listA_len {L : List (TokD × Nat)} {q : Nat} {x : TokD × Nat} (h : L[q]? = some x) : ∃ y T, L = y :: T := by
  cases L with
  | nil => cases h
  | cons y T => exact ⟨y, T, rfl⟩
theorem listA_sl {L : List (TokD × Nat)} {q : Nat} {x : TokD × Nat} (h : L[q]? = some x) : listA L = .sl false L.length L.length (listCells L) := by obtain ⟨y, T, rfl⟩ := listA_len h; rfl
/-- Out of a list of tokens: the q-th one's place. -/
theorem listC_at {L : List (TokD × Nat)} {q : Nat} {x : TokD × Nat} (h : L[q]? = some x) : (listCells L)[q * 6 + 4]? = some (.v (.int .i64 (x.2 : Int))) := by
  have h2 : (L.map tkOf)[q]? = some (tkOf x) := by rw [List.getElem?_map, h]; rfl
  have := (LAt.at (cs := listCells L) (by rw [tks_cells]; exact List.prefix_rfl) h2).2.2.2.2.1
  exact this
theorem fz_nodes {P : Program} {H : List ABlk} {j ver : Nat} {ns : List Nd} (hj : H[j]? = some ⟨ver, 115, ndCells ns⟩) (hn : 0 < ns.length) : fz P H false (nodesA ns) (.own j ver ns.length) := by
  cases ns with
  | nil => exact absurd hn (by decide)
  | cons x r =>
    simp only [nodesA, fz]
    exact .inr ⟨trivial, j, _, _, rfl, hj, Nat.le_refl _, .inl trivial, List.prefix_rfl, fzL_all P H false _ (nds_v _)⟩
theorem ty47 : elemT Tryz.prog 47 = some 54 ∧ sizeT Tryz.prog 54 = some 6 ∧ fieldT Tryz.prog 54 4 = some (4, 3) := ⟨by kernel_rfl, by kernel_rfl, by kernel_rfl⟩
theorem ty41 : aggT Tryz.prog 41 = some true ∧ sizeT Tryz.prog 41 = some 1 := ⟨by kernel_rfl, by kernel_rfl⟩
theorem flat_list (L : List (TokD × Nat)) : flat (listA L) = some [listA L] := by cases L <;> rfl
theorem one_list (L : List (TokD × Nat)) : oneA (listA L) = true := by cases L <;> rfl
theorem small_toks {l : List UInt8} {L : List (TokD × Nat)} (h : okToks l = some L) : L.length ≤ 32769 := by
  unfold okToks at h
  split at h
  · cases h
    rw [List.length_map]
    exact items_len l
  · cases h
set_option maxHeartbeats 2000000 in
theorem refParse_ev (b : Bool) (l : List UInt8) (hl : l.length ≤ 140737488351232) : Ev Tryz.prog γ 22 [.sl b l.length l.length (l.map byteC)] (parseA l) := by
  refine Ev.ofE Tryz.func22 rfl ?_
  simp only [Tryz.f22, tyR, evE, Nat.reduceAdd, Nat.reduceSub, Nat.reduceLT, Nat.reduceEqDiff, reduceCtorEq]
  refine CallE.pure (CallK.intro c41 rfl (refScan_ev b l hl) ?_)
  unfold parseA
  cases e : okToks l with
  | none =>
    obtain ⟨L, x, hx, hk, hr⟩ := rscan_noToks e
    have d1 : (x.2 != 0) = true := by simpa using hk
    have hP : parseO l = ([], ((x.1.2 : Nat) : Int), x.2) := by unfold parseO; rw [e]; simp only [hx]
    rw [hr, hP]
    simp only [tyR, ty41, d1, nodesA, evE, Nat.reduceLT, Nat.reduceLeDiff, Nat.reduceEqDiff, reduceCtorEq]
  | some L =>
    have hts := small_toks e
    have hst := stn_of (γ := γ) e
    have hLA := LAt_list L
    rw [rscan_okToks e]
    have z0 : ((0 : Int) != 0) = false := rfl
    have fl := flat_list L
    have fo := one_list L
    have hml : (L.map tkOf).length = L.length := List.length_map ..
    simp only [tyR, z0, fl, fo, evE, Nat.reduceAdd, Nat.reduceLT, Nat.reduceLeDiff, Nat.reduceEqDiff, reduceCtorEq]
    refine CallE.intro c62 _ (reflev_ev hLA hst (h := [⟨0, 41, [.v (.slice none 0 0)]⟩, ⟨0, 109, [listA L, .v (.int .i64 0), .v (.int .i64 (-1))]⟩]) (i := 1) (p := 0) (Nat.le_refl _) (Nat.zero_le _) rfl) (fun r h1 hh => ?_) (fun v h' hh => hh.pan.elim)
    obtain ⟨f1, hh⟩ := hh
    have k0 : h1[0]? = some ⟨0, 41, [.v (.slice none 0 0)]⟩ := f1.at rfl (by show ¬ (0 : Nat) = 1; decide)
    have kz : ∀ b, (h1.set 0 b)[0]? = some b := fun b => List.getElem?_set_self (List.getElem?_eq_some_iff.1 k0).1
    cases er : readP (L.map tkOf) 0 with
    | bad q =>
      rw [er] at hh
      obtain ⟨eo, p', r1⟩ := hh
      cases eo
      have hr1 : h1[1]? = _ := r1
      have d1 : decide ((0 : Int) ≤ (q : Int)) = true := decide_eq_true (by omega)
      have ll := lenS47 h1 L
      by_cases hq : q < L.length
      · have d2 : decide (q < L.length) = true := decide_eq_true hq
        obtain ⟨x, hx⟩ : ∃ x, L[q]? = some x := ⟨L[q], by simp [hq]⟩
        have hpl : placeO L l.length q = x.2 := by unfold placeO; rw [hx]
        have hca := listC_at hx
        have eL := listA_sl hx
        have hP : parseO l = ([], placeO L l.length q, 50) := by unfold parseO; rw [e]; simp only [er]
        have kx : ∀ b, (h1.set 0 b)[1]? = some _ := fun b => (List.getElem?_set_ne (by decide)).trans hr1
        simp only [tyR, hr1, ll, d2, hP, evE, tyX, Nat.reduceLT, Nat.reduceEqDiff, reduceCtorEq]
        refine DrawK.orders [[0, 1, 2, 3, 4, 5, 6, 7, 8, 9, 10, 11], [0, 1, 2, 9, 3, 4, 5, 6, 7, 8, 10, 11], [0, 1, 2, 3, 9, 4, 5, 6, 7, 8, 10, 11], [0, 1, 2, 3, 4, 9, 5, 6, 7, 8, 10, 11], [0, 1, 2, 3, 4, 5, 9, 6, 7, 8, 10, 11], [0, 1, 2, 3, 4, 5, 6, 9, 7, 8, 10, 11], [0, 1, 2, 3, 4, 5, 6, 7, 9, 8, 10, 11]] (by kernel_rfl) (by kernel_rfl) (by kernel_rfl) (fun p hp => ?_)
        simp only [List.mem_cons, List.not_mem_nil, or_false] at hp
        rcases hp with rfl | rfl | rfl | rfl | rfl | rfl | rfl
        all_goals simp only [seqT, List.getElem?_toArray, List.getElem?_cons_succ, List.getElem?_cons_zero, tyR, hr1, kx, eL, ty47, hca, hpl, k0, kz, ty41, nodesA, evE, tyX, Nat.reduceLT, Nat.reduceLeDiff, Nat.reduceEqDiff, reduceCtorEq]
        all_goals exact hq
      · have d2 : decide (q < L.length) = false := decide_eq_false hq
        have hpl : placeO L l.length q = l.length := by unfold placeO; rw [List.getElem?_eq_none (by omega)]
        have hP : parseO l = ([], placeO L l.length q, 50) := by unfold parseO; rw [e]; simp only [er]
        simp only [tyR, hP, hr1, ll, d2, k0, kz, ty41, hpl, nodesA, evE, tyX, Nat.reduceLT, Nat.reduceLeDiff, Nat.reduceEqDiff, reduceCtorEq]
    | ok t q =>
      rw [er] at hh
      obtain ⟨x0, eo, hT, r1⟩ := hh
      cases eo
      obtain ⟨qx, rfl⟩ := hT.ptr
      obtain ⟨bx, hbx⟩ := TreeAt.blk hT
      have hr1 : h1[1]? = _ := r1
      have ll := lenS47 h1 L
      have hadv := pr_adv _ _ _ _ _ _ (Nat.zero_le _) er
      obtain ⟨⟨g1, g2⟩, g3⟩ := hadv
      rw [hml] at g3
      have hwf := pr_wf _ _ _ _ _ _ (fun n a e => by cases e) er
      have hsz : t.size ≤ 32769 := by omega
      by_cases hq : q < L.length
      · have d2 : decide (q < L.length) = true := decide_eq_true hq
        obtain ⟨x, hx⟩ : ∃ x, L[q]? = some x := ⟨L[q], by simp [hq]⟩
        have hpl : placeO L l.length q = x.2 := by unfold placeO; rw [hx]
        have hca := listC_at hx
        have eL := listA_sl hx
        have d1 : decide ((0 : Int) ≤ (q : Int)) = true := decide_eq_true (by omega)
        have s1 : ∀ b, (h1.set 1 b)[1]? = some b := fun b => List.getElem?_set_self (List.getElem?_eq_some_iff.1 hr1).1
        have k1 : ∀ b, (h1.set 1 b)[0]? = some ⟨0, 41, [.v (.slice none 0 0)]⟩ := fun b => (List.getElem?_set_ne (by decide)).trans k0
        have k2 : ∀ b c, ((h1.set 1 b).set 0 c)[0]? = some c := fun b c => List.getElem?_set_self (by rw [List.length_set]; exact (List.getElem?_eq_some_iff.1 k0).1)
        have ll1 : ∀ b, lenS Tryz.prog 47 (h1.set 1 b) (listA L) = some (.v (.int .i64 L.length)) := fun b => lenS47 _ L
        have hP : parseO l = ([], placeO L l.length q, 50) := by unfold parseO; rw [e]; simp only [er, if_pos hq]
        have kx : ∀ b c, ((h1.set 1 b).set 0 c)[1]? = some b := fun b c => (List.getElem?_set_ne (by decide)).trans (s1 b)
        simp only [tyR, hbx, hr1, ll, d2, s1, ll1, hP, evE, tyX, Nat.reduceAdd, Nat.reduceLT, Nat.reduceLeDiff, Nat.reduceEqDiff, reduceCtorEq]
        refine DrawK.orders [[0, 1, 2, 3, 4, 5, 6, 7, 8, 9, 10, 11], [0, 1, 2, 9, 3, 4, 5, 6, 7, 8, 10, 11], [0, 1, 2, 3, 9, 4, 5, 6, 7, 8, 10, 11], [0, 1, 2, 3, 4, 9, 5, 6, 7, 8, 10, 11], [0, 1, 2, 3, 4, 5, 9, 6, 7, 8, 10, 11], [0, 1, 2, 3, 4, 5, 6, 9, 7, 8, 10, 11], [0, 1, 2, 3, 4, 5, 6, 7, 9, 8, 10, 11]] (by kernel_rfl) (by kernel_rfl) (by kernel_rfl) (fun p hp => ?_)
        simp only [List.mem_cons, List.not_mem_nil, or_false] at hp
        rcases hp with rfl | rfl | rfl | rfl | rfl | rfl | rfl
        all_goals simp only [seqT, List.getElem?_toArray, List.getElem?_cons_succ, List.getElem?_cons_zero, tyR, s1, kx, eL, ty47, hca, hpl, k1, k2, ty41, nodesA, evE, tyX, Nat.reduceLT, Nat.reduceLeDiff, Nat.reduceEqDiff, reduceCtorEq]
        all_goals exact hq
      · have d2 : decide (q < L.length) = false := decide_eq_false hq
        have dm : decide ((0 : Int) ≤ -1) = false := by decide
        simp only [tyR, hbx, hr1, ll, d2, evE, tyX, Nat.reduceLT, Nat.reduceEqDiff, reduceCtorEq, Int.reduceLE]
        refine CallE.intro c63 _ (reflimits_ev (by omega) hT) (fun r h2 hh => ?_) (fun v h' hh => by cases hh.1)
        obtain ⟨eo, rfl⟩ := hh
        cases eo
        by_cases hk : limK t.size t.deep = 0
        · have d3 : (limK t.size t.deep != 0) = false := by simpa using hk
          have hP : parseO l = (lay t 0, 0, 0) := by unfold parseO; rw [e]; simp only [er, if_neg hq, if_pos hk]
          simp only [d3, evE, Nat.reduceLT, Nat.reduceEqDiff, reduceCtorEq]
          refine CallE.intro c64 _ (laid_ev t _ _ h2 _ (.v (.slice none 0 0)) [] hT (.inl ⟨rfl, rfl⟩) (by simp only [List.length_nil]; omega)) (fun r h3 hh => ?_) (fun v h' hh => by obtain ⟨_, _, e, _⟩ := hh; cases e)
          obtain ⟨f3, N3, eo, hN3, _⟩ := hh
          cases eo
          rw [List.nil_append, List.length_nil] at hN3
          have hlen := lay_length t 0
          have hps := size_pos t
          obtain ⟨j, ver, rfl, hj⟩ := hN3.own (by omega)
          have k3 : h3[0]? = some ⟨0, 41, [.v (.slice none 0 0)]⟩ := f3.at k0 fun h => h
          have k4 : ∀ b, (h3.set 0 b)[0]? = some b := fun b => List.getElem?_set_self (List.getElem?_eq_some_iff.1 k3).1
          have hj0 : j ≠ 0 := fun e => by subst e; rw [k3] at hj; cases hj
          simp only [tyR, hP, k3, k4, ty41, evE, Nat.reduceLT, Nat.reduceLeDiff, Nat.reduceEqDiff, reduceCtorEq]
          exact fz_nodes ((List.getElem?_set_ne (Ne.symm hj0)).trans hj) (by omega)
        · have d3 : (limK t.size t.deep != 0) = true := by simpa using hk
          have hP : parseO l = ([], placeO L l.length 0, limK t.size t.deep) := by unfold parseO; rw [e]; simp only [er, if_neg hq, if_neg hk]
          obtain ⟨x, hx⟩ : ∃ x, L[0]? = some x := ⟨L[0]'(by omega), by simp⟩
          have hpl : placeO L l.length 0 = x.2 := by unfold placeO; rw [hx]
          have hca := listC_at hx
          have eL := listA_sl hx
          simp only [d3, hP, evE, Nat.reduceLT, Nat.reduceEqDiff, reduceCtorEq]
          refine DrawK.orders [[0, 1, 2, 3, 4, 5, 6, 7, 8], [0, 1, 6, 2, 3, 4, 5, 7, 8], [0, 1, 2, 6, 3, 4, 5, 7, 8], [0, 1, 2, 3, 6, 4, 5, 7, 8]] (by kernel_rfl) (by kernel_rfl) (by kernel_rfl) (fun p hp => ?_)
          simp only [List.mem_cons, List.not_mem_nil, or_false] at hp
          rcases hp with rfl | rfl | rfl | rfl
          all_goals simp only [seqT, List.getElem?_toArray, List.getElem?_cons_succ, List.getElem?_cons_zero, tyR, eL, ty47, hca, hpl, k0, kz, ty41, nodesA, evE, tyX, Nat.reduceLT, Nat.reduceLeDiff, Nat.reduceEqDiff, reduceCtorEq, Int.reduceLE]
          all_goals (clear er hst; omega)
end Go.Proofs.YtlobiioioicmhaaGreatDoor
/- The program's Parse, walked. -/
namespace Go.Proofs.YtlobiioioicmhaaGreatDoor
set_option linter.all false
open Go Go.Ev
set_option maxRecDepth 20000
variable {γ : List (Nat × AV)}
theorem c58 : bodyT Tryz.prog 58 := ⟨_, Tryz.func58, by kernel_rfl, by kernel_rfl⟩
theorem c59 : bodyT Tryz.prog 59 := ⟨_, Tryz.func59, by kernel_rfl, by kernel_rfl⟩
theorem c61 : bodyT Tryz.prog 61 := ⟨_, Tryz.func61, by kernel_rfl, by kernel_rfl⟩
theorem ty48 : elemT Tryz.prog 48 = some 53 ∧ sizeT Tryz.prog 53 = some 6 ∧ fieldT Tryz.prog 53 4 = some (4, 3) ∧ aggT Tryz.prog 48 = some false ∧ aggT Tryz.prog 37 = some false := ⟨by kernel_rfl, by kernel_rfl, by kernel_rfl, by kernel_rfl, by kernel_rfl⟩
theorem lenS48 (s : List ABlk) (L : List (TokD × Nat)) : lenS Tryz.prog 48 s (listA L) = some (.v (.int .i64 L.length)) := by
  have e24 : elemT Tryz.prog 48 = some 53 := by kernel_rfl
  cases L with
  | nil => simp only [listA, lenS, e24]; rfl
  | cons y T => simp only [listA, lenS, e24]; rfl
theorem scan_okToks {l : List UInt8} {L : List (TokD × Nat)} (h : okToks l = some L) : scanA l = .tup [listA L, .v (.int .i64 0), .v (.int .i64 0)] := by
  unfold okToks at h
  unfold scanA scanAL
  cases e : (eachItems l).find? badI with
  | none => rw [e] at h; cases h; rfl
  | some x => rw [e] at h; cases h
theorem scan_noToks {l : List UInt8} (h : okToks l = none) : ∃ x, (eachItems l).find? badI = some x ∧ x.2 ≠ 0 ∧ scanA l = .tup [.v (.slice none 0 0), .v (.int .i64 x.1.2), .v (.int .i64 x.2)] := by
  unfold okToks at h
  unfold scanA scanAL
  cases e : (eachItems l).find? badI with
  | none => rw [e] at h; cases h
  | some x => exact ⟨x, rfl, by simpa [badI] using List.find?_some e, rfl⟩
theorem place_ev {b : Bool} {l : List UInt8} {L : List (TokD × Nat)} {h : List ABlk} {i j : Nat} (hi : h[i]? = some ⟨0, 48, [listA L]⟩) (hj : h[j]? = some ⟨0, 37, [.sl b l.length l.length (l.map byteC)]⟩) (q : Nat) :
    EvM Tryz.prog γ 59 [.v (.int .i64 (q : Int)), .ptr i 0 0, .ptr j 0 0] h fun o h' => o = .ret (.v (.int .i64 (placeO L l.length q))) ∧ h' = h := by
  have ll := lenS48 h L
  refine EvM.of Tryz.func59 rfl ?_
  by_cases hq : q < L.length
  · have d2 : decide (q < L.length) = true := decide_eq_true hq
    obtain ⟨x, hx⟩ : ∃ x, L[q]? = some x := ⟨L[q], by simp [hq]⟩
    have hpl : placeO L l.length q = x.2 := by unfold placeO; rw [hx]
    have hca := listC_at hx
    have eL := listA_sl hx
    rw [hpl]
    simp only [Tryz.f59, hi, ll, d2, evE, tyX, Nat.reduceAdd, Nat.reduceSub, Nat.reduceLT, Nat.reduceEqDiff, reduceCtorEq]
    simp only [ty48, eL, hca, evE, tyX, Nat.reduceLT, Nat.reduceEqDiff, reduceCtorEq]
    exact hq
  · have d2 : decide (q < L.length) = false := decide_eq_false hq
    have hpl : placeO L l.length q = l.length := by unfold placeO; rw [List.getElem?_eq_none (by omega)]
    rw [hpl]
    simp only [Tryz.f59, tyZ, ty48, hi, ll, d2, hj, evE, tyX, Nat.reduceAdd, Nat.reduceSub, Nat.reduceLT, Nat.reduceEqDiff, reduceCtorEq]
set_option maxHeartbeats 2000000 in
theorem parse_ev (hγ : Gl γ) (hγ2 : GlW γ) (b : Bool) (l : List UInt8) (hl : l.length ≤ 140737488351232) : Ev Tryz.prog γ 21 [.sl b l.length l.length (l.map byteC)] (parseA l) := by
  refine Ev.ofE Tryz.func21 rfl ?_
  simp only [Tryz.f21, tyZ, ty48, evE, Nat.reduceAdd, Nat.reduceSub, Nat.reduceLT, Nat.reduceEqDiff, reduceCtorEq]
  refine CallE.pure (CallK.intro c58 rfl (lexScan_ev hγ hγ2 b l hl) ?_)
  unfold parseA
  cases e : okToks l with
  | none =>
    obtain ⟨x, hx, hk, hr⟩ := scan_noToks e
    have d1 : (x.2 != 0) = true := by simpa using hk
    have hP : parseO l = ([], ((x.1.2 : Nat) : Int), x.2) := by unfold parseO; rw [e]; simp only [hx]
    rw [hr, hP]
    simp only [tyZ, ty41, d1, nodesA, evE, tyX, Nat.reduceAdd, Nat.reduceLT, Nat.reduceLeDiff, Nat.reduceEqDiff, reduceCtorEq]
  | some L =>
    have hts := small_toks e
    have hLA := LAt_list L
    rw [scan_okToks e]
    have z0 : ((0 : Int) != 0) = false := rfl
    have fl := flat_list L
    have fo := one_list L
    have hml : (L.map tkOf).length = L.length := List.length_map ..
    simp only [tyZ, z0, fl, fo, evE, tyX, Nat.reduceAdd, Nat.reduceLT, Nat.reduceLeDiff, Nat.reduceEqDiff, reduceCtorEq]
    refine CallE.intro c60 _ (read_ev hLA (by rw [hml]; omega) (h := [⟨0, 37, [.sl b l.length l.length (l.map byteC)]⟩, ⟨0, 41, [.v (.slice none 0 0)]⟩, ⟨0, 48, [listA L]⟩, ⟨0, 104, [listA L, .v (.int .i64 0), .v (.slice none 0 0)]⟩]) (i := 3) (p := 0) (N := .v (.slice none 0 0)) (ns := []) (Nat.zero_le _) ⟨rfl, .inl ⟨rfl, rfl⟩⟩ (by rw [hml, List.length_nil]; omega)) (fun r h1 hh => ?_) (fun v h' hh => ?_)
    rotate_left
    · obtain ⟨_, hh⟩ := hh
      cases er : readP (L.map tkOf) 0 with
      | bad q => rw [er] at hh; cases hh
      | ok t q => rw [er] at hh; cases hh.1
    obtain ⟨f1, hh⟩ := hh
    have fk : ∀ (k : Nat) (x : ABlk), k < 3 → ([⟨0, 37, [.sl b l.length l.length (l.map byteC)]⟩, ⟨0, 41, [.v (.slice none 0 0)]⟩, ⟨0, 48, [listA L]⟩, ⟨0, 104, [listA L, .v (.int .i64 0), .v (.slice none 0 0)]⟩] : List ABlk)[k]? = some x → h1[k]? = some x := fun k x hk hx => f1.at hx fun h => h.elim (fun e => by omega) fun e => e
    have k0 : h1[0]? = some ⟨0, 37, [.sl b l.length l.length (l.map byteC)]⟩ := fk 0 _ (by decide) rfl
    have k1 : h1[1]? = some ⟨0, 41, [.v (.slice none 0 0)]⟩ := fk 1 _ (by decide) rfl
    have k2 : h1[2]? = some ⟨0, 48, [listA L]⟩ := fk 2 _ (by decide) rfl
    have kz : ∀ b, (h1.set 1 b)[1]? = some b := fun b => List.getElem?_set_self (List.getElem?_eq_some_iff.1 k1).1
    have hpl : ∀ q : Nat, EvM Tryz.prog γ 59 [.v (.int .i64 (q : Int)), .ptr 2 0 0, .ptr 0 0 0] h1 fun o h' => o = .ret (.v (.int .i64 (placeO L l.length q))) ∧ h' = h1 := fun q => place_ev k2 k0 q
    cases er : readP (L.map tkOf) 0 with
    | bad q =>
      rw [er] at hh
      have hh : Out.ret r = Out.ret (.v (.int .i64 (q : Int))) := hh
      cases hh
      have d1 : decide ((0 : Int) ≤ (q : Int)) = true := decide_eq_true (by omega)
      have hP : parseO l = ([], placeO L l.length q, 50) := by unfold parseO; rw [e]; simp only [er]
      rw [hP]
      simp only [tyZ, evE, Nat.reduceLT, Nat.reduceEqDiff, reduceCtorEq]
      refine CallM.intro c59 _ (hpl q) (fun r h2 hh => ?_) (fun v h' hh => by cases hh.1)
      obtain ⟨eo, rfl⟩ := hh
      cases eo
      simp only [k1, kz, ty41, nodesA, evE, Nat.reduceLT, Nat.reduceLeDiff, Nat.reduceEqDiff, reduceCtorEq]
    | ok t q =>
      rw [er] at hh
      obtain ⟨eo, N', r1, n1⟩ := hh
      cases eo
      have hr1 : h1[3]? = _ := r1.1
      have dm : decide ((0 : Int) ≤ -1) = false := by decide
      have ll := lenS48 h1 L
      have hadv := pr_adv _ _ _ _ _ _ (Nat.zero_le _) er
      obtain ⟨⟨g1, g2⟩, g3⟩ := hadv
      rw [hml] at g3
      have hwf := pr_wf _ _ _ _ _ _ (fun n a e => by cases e) er
      have hsz : t.size ≤ 32769 := by omega
      simp only [evE, Nat.reduceLT, Nat.reduceEqDiff, reduceCtorEq, Int.reduceLE]
      refine DrawK.intro (by kernel_rfl) (by kernel_rfl) ?_
      by_cases hq : q < L.length
      · have d2 : decide (q < L.length) = true := decide_eq_true hq
        have hP : parseO l = ([], placeO L l.length q, 50) := by unfold parseO; rw [e]; simp only [er, if_pos hq]
        rw [hP]
        simp only [tyZ, hr1, k2, ll, d2, evE, tyX, Nat.reduceLT, Nat.reduceEqDiff, reduceCtorEq]
        refine CallM.intro c59 _ (hpl q) (fun r h2 hh => ?_) (fun v h' hh => by cases hh.1)
        obtain ⟨eo, rfl⟩ := hh
        cases eo
        simp only [k1, kz, ty41, nodesA, evE, Nat.reduceLT, Nat.reduceLeDiff, Nat.reduceEqDiff, reduceCtorEq]
      · have d2 : decide (q < L.length) = false := decide_eq_false hq
        have hN := r1.2
        rw [List.nil_append, List.length_nil] at hN
        have hlen := lay_length t 0
        have hps := size_pos t
        obtain ⟨j, ver, rfl, hj⟩ := hN.own (by omega)
        simp only [hr1, k2, ll, d2, evE, tyX, Nat.reduceLT, Nat.reduceEqDiff, reduceCtorEq]
        refine CallE.pure (CallK.lend c61 _ (lend1 hj List.prefix_rfl (nds_v _)) (limits_ev t hwf (by omega)) rfl ?_)
        by_cases hk : limK t.size t.deep = 0
        · have d3 : (limK t.size t.deep != 0) = false := by simpa using hk
          have hP : parseO l = (lay t 0, 0, 0) := by unfold parseO; rw [e]; simp only [er, if_neg hq, if_pos hk]
          have hj1 : j ≠ 1 := fun e => by subst e; rw [k1] at hj; cases hj
          rw [hP]
          simp only [tyZ, d3, hr1, k1, kz, ty41, evE, tyX, Nat.reduceLT, Nat.reduceLeDiff, Nat.reduceEqDiff, reduceCtorEq]
          exact fz_nodes ((List.getElem?_set_ne (Ne.symm hj1)).trans hj) (by omega)
        · have d3 : (limK t.size t.deep != 0) = true := by simpa using hk
          have hP : parseO l = ([], placeO L l.length 0, limK t.size t.deep) := by unfold parseO; rw [e]; simp only [er, if_neg hq, if_neg hk]
          rw [hP]
          simp only [tyZ, d3, evE, Nat.reduceLT, Nat.reduceEqDiff, reduceCtorEq]
          refine CallM.intro c59 _ (hpl 0) (fun r h2 hh => ?_) (fun v h' hh => by cases hh.1)
          obtain ⟨eo, rfl⟩ := hh
          cases eo
          simp only [k1, kz, ty41, nodesA, evE, Nat.reduceLT, Nat.reduceLeDiff, Nat.reduceEqDiff, reduceCtorEq]
end Go.Proofs.YtlobiioioicmhaaGreatDoor
