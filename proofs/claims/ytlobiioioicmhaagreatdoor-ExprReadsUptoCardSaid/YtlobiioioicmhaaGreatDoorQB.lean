/- Contracts of the functions that the law reaches. -/
import Derived.Test.YtlobiioioicmhaaGreatDoorQ9
import Derived.Test.YtlobiioioicmhaaGreatDoorQA
/- The law ExprReads, walked. -/
namespace Go.Proofs.YtlobiioioicmhaaGreatDoor
set_option linter.all false
open Go Go.Ev
set_option maxRecDepth 20000
variable {γ : List (Nat × AV)}
theorem y25 : bodyT Tryz.prog 25 := ⟨_, Tryz.func25, by kernel_rfl, by kernel_rfl⟩
theorem y27 : bodyT Tryz.prog 27 := ⟨_, Tryz.func27, by kernel_rfl, by kernel_rfl⟩
theorem ty53 : (∀ i, i < 6 → True) ∧ fieldT Tryz.prog 53 0 = some (0, 3) ∧ fieldT Tryz.prog 53 1 = some (1, 9) ∧ fieldT Tryz.prog 53 2 = some (2, 2) ∧ fieldT Tryz.prog 53 3 = some (3, 22) ∧ fieldT Tryz.prog 53 4 = some (4, 3) ∧ fieldT Tryz.prog 53 5 = some (5, 3) :=
  ⟨fun _ _ => trivial, by kernel_rfl, by kernel_rfl, by kernel_rfl, by kernel_rfl, by kernel_rfl, by kernel_rfl⟩
theorem readR_len (ts : List Tk) (hn : ts.length ≤ 2000000) (f : Int) : (readR ts f).1.length ≤ 2000001 := by
  unfold readR
  split
  · simp
  · rename_i hf
    obtain ⟨p, rfl⟩ : ∃ p : Nat, f = p := ⟨f.toNat, by omega⟩
    rw [Int.toNat_natCast]
    have hp : p ≤ ts.length := by omega
    have hcut := cutN_le hp
    have hcut2 : (ts.take (cutN ts p)).length = cutN ts p := by rw [List.length_take]; omega
    have hpc : p ≤ (ts.take (cutN ts p)).length := by rw [hcut2]; unfold cutN; omega
    cases er : readP (ts.take (cutN ts p)) p with
    | bad q => simp
    | ok t q =>
      have hadv := pr_adv _ _ _ _ _ _ hpc er
      obtain ⟨⟨g1, g2⟩, g3⟩ := hadv
      show (if limK t.size t.deep = 0 then ((lay t 0, (q : Int), 0) : List Nd × Int × Int) else ([], (p : Int), limK t.size t.deep)).1.length ≤ 2000001
      split
      · show (lay t 0).length ≤ _
        rw [lay_length]; rw [hcut2] at *; omega
      · simp
theorem treeL_LI {L : AV} {ts : List Tk} (h : LAt L ts) (f : Int) : treeL [L, .v (.int .i64 f)] = true := by rcases h with ⟨rfl, rfl⟩ | ⟨b, m, cs, rfl, _⟩ <;> rfl
theorem treeL_L1 {L : AV} {ts : List Tk} (h : LAt L ts) : treeL [L] = true := by rcases h with ⟨rfl, rfl⟩ | ⟨b, m, cs, rfl, _⟩ <;> rfl
def rdS (γ : List (Nat × AV)) (L : AV) (ts : List Tk) (ds : List AV) (a : Nat × List ABlk) : St := ⟨⟨126, [(0, L), (5, .sl false ts.length (ts.length + 1) ds), (12, .v (.int .i64 (a.1 : Int)))], γ⟩, a.2⟩
set_option maxHeartbeats 4000000 in
theorem exprReads_ev (hγ : Gl γ) (hγ2 : GlW γ) {L : AV} {ts : List Tk} (hL : LAt L ts) (ht : ∀ t ∈ ts, okTk t) (hn : ts.length ≤ 2000000) (f : Int) : Ev Tryz.prog γ 5 [L, .v (.int .i64 f)] (.v (.bool true)) := by
  refine Ev.ofE Tryz.func5 rfl ?_
  have ll : ∀ s, lenS Tryz.prog 47 s L = some (.v (.int .i64 ts.length)) := fun s => by
    have e24 : elemT Tryz.prog 47 = some 54 := by kernel_rfl
    rcases hL with ⟨rfl, rfl⟩ | ⟨b, m, cs, rfl, _⟩
    · simp only [lenS, e24]; rfl
    · simp only [lenS, e24]; rfl
  have d3 : ∀ z : Int, (z != z) = false := fun z => by simp
  have hLs : LAs (.sl false ts.length (ts.length + 1) (tkCells ts ++ tok7.cells)) ts := .inr ⟨false, _, _, rfl, List.prefix_append _ _, by rw [List.length_append, tkCells_length]; simp only [tok7, Tk.cells, List.length_cons, List.length_nil]; omega, by omega⟩
  have hlen := readR_len ts hn f
  have fo := one_nodes (readR ts f).1
  have w1 : IntKind.i64.wrap ((ts.length : Int) + 1) = ((ts.length + 1 : Nat) : Int) := (i64w (by omega) (by omega)).trans (by omega)
  simp only [Tryz.f5, evE, Nat.reduceAdd, Nat.reduceSub, Nat.reduceLT, Nat.reduceEqDiff, reduceCtorEq]
  refine CallE.pure (CallK.intro y25 (treeL_L1 hL) (tokens_ev hL hn) ?_)
  simp only [evE, Nat.reduceLT, Nat.reduceEqDiff, reduceCtorEq]
  refine CallE.pure (CallK.intro c26 rfl (read26_ev hγ hγ2 hLs ht hn f) ?_)
  unfold readA
  simp only [tyL, fo, evE, Nat.reduceLT, Nat.reduceLeDiff, Nat.reduceEqDiff, reduceCtorEq]
  refine CallE.pure (CallK.intro y27 (treeL_LI hL f) (read27_ev hL ht hn f) ?_)
  unfold readA
  simp only [tyL, fo, evE, Nat.reduceLT, Nat.reduceLeDiff, Nat.reduceEqDiff, reduceCtorEq]
  refine CallE.pure (CallK.intro y23 (treeL_nodes _) (lawSame_ev _ (by omega)) ?_)
  have h7 : (tkCells ts ++ tok7.cells).drop (ts.length * 6) = [.v (.int .i64 (-7)), .v (.string ⟨#[]⟩), .v (.int .i64 0), .v (.float .f64 0), .v (.int .i64 0), .v (.int .i64 0)] := by
    rw [← tkCells_length ts, List.drop_left]; rfl
  simp only [d3, ll, w1, h7, evE, tyX, Bool.not_true, Nat.reduceAdd, Nat.reduceLT, Nat.reduceLeDiff, Nat.reduceEqDiff, reduceCtorEq]
  refine ⟨⟨by rw [tkCells_length]; simp only [tok7, Tk.cells, List.length_cons, List.length_nil]; omega, Nat.le_refl _⟩, by omega, ?_⟩
  clear h7 fo hlen w1 hLs
  have hcp : tkCells ts <+: tkCells ts ++ tok7.cells := List.prefix_append _ _
  generalize tkCells ts ++ tok7.cells = ds at *
  refine LoopE.intro (rdS γ L ts ds) (fun a => a.1 ≤ ts.length) (fun a => ts.length - a.1) (0, _) ⟨rfl, rfl, ⟨rfl, rfl, rfl, trivial⟩, rfl⟩ (Nat.zero_le _) (fun a ha => ?_)
  obtain ⟨k, h⟩ := a
  have hk : k ≤ ts.length := ha
  by_cases hlt : k < ts.length
  · have d2 : decide (k < ts.length) = true := decide_eq_true hlt
    obtain ⟨t, htk⟩ : ∃ t, ts[k]? = some t := ⟨ts[k], by simp [hlt]⟩
    obtain ⟨b, m, cs, rfl, hcs⟩ : ∃ b m cs, L = .sl b ts.length m cs ∧ tkCells ts <+: cs := hL.elim (fun h => by rw [h.2] at hlt; exact absurd hlt (by simp)) id
    have h6 := LAt.take hcs htk
    have h6l : 6 ≤ (cs.drop (k * 6)).length := by have := LAt.len hcs hlt; rw [List.length_drop]; omega
    have j6 := LAt.take hcp htk
    have j6l : 6 ≤ (ds.drop (k * 6)).length := by have := LAt.len hcp hlt; rw [List.length_drop]; omega
    have w1 : IntKind.i64.wrap ((k : Int) + 1) = ((k + 1 : Nat) : Int) := (i64w (by omega) (by omega)).trans (by omega)
    have g2 : ∀ (x : ABlk) l, (h ++ x :: l)[h.length]? = some x := fun x l => by simp
    have g3 : ∀ (x y : ABlk) l, (h ++ x :: y :: l)[h.length + 1]? = some y := fun x y l => by simp
    have g4 : ∀ (x y : ABlk), (h ++ [x]).set h.length y = h ++ [y] := fun x y => by simp
    have g5 : ∀ (a x y : ABlk), (h ++ [a, x]).set (h.length + 1) y = h ++ [a, y] := fun a x y => by simp
    cases hf : (FloatKind.f64.format.order t.real t.real == some Ordering.eq) with
    | true =>
      have n6 : (FloatKind.f64.format.order t.real t.real != some Ordering.eq) = false := by rw [bne, hf]; rfl
      simp only [rdS, tyT, ty53, d3, ll, d2, h6, h6l, j6, j6l, g2, g3, g4, g5, List.append_assoc, List.cons_append, List.nil_append, Tk.cells, n6, w1, evE, tyX, Bool.not_true, Nat.reduceAdd, Nat.reduceLT, Nat.reduceLeDiff, Nat.reduceEqDiff, reduceCtorEq]
      exact ⟨hlt, hlt, loopCE.intro (k + 1, _) hlt ⟨rfl, rfl, ⟨rfl, rfl, rfl, trivial⟩, rfl⟩ (by show ts.length - (k + 1) < ts.length - k; clear w1; omega)⟩
    | false =>
      have n6 : (FloatKind.f64.format.order t.real t.real != some Ordering.eq) = true := by rw [bne, hf]; rfl
      simp only [rdS, tyT, ty53, d3, ll, d2, h6, h6l, j6, j6l, g2, g3, g4, g5, List.append_assoc, List.cons_append, List.nil_append, Tk.cells, n6, hf, w1, evE, tyX, Bool.not_true, Nat.reduceAdd, Nat.reduceLT, Nat.reduceLeDiff, Nat.reduceEqDiff, reduceCtorEq]
      exact ⟨hlt, hlt, loopCE.intro (k + 1, _) hlt ⟨rfl, rfl, ⟨rfl, rfl, rfl, trivial⟩, rfl⟩ (by show ts.length - (k + 1) < ts.length - k; clear w1; omega)⟩
  · have d2 : decide (k < ts.length) = false := decide_eq_false hlt
    simp only [rdS, ll, d2, evE, Nat.reduceLT, Nat.reduceEqDiff, reduceCtorEq]
end Go.Proofs.YtlobiioioicmhaaGreatDoor
