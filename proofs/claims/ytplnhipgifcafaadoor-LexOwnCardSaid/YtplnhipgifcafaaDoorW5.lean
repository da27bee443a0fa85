/- Contracts of the functions that the law reaches. -/
import Derived.Test.YtplnhipgifcafaaDoorW3
namespace Go.Proofs.YtplnhipgifcafaaDoor
set_option linter.all false
open Go Go.Ev
theorem mark1' : ∀ n, n < 256 → marksL.contains [n.toUInt8] = decide (0 ≤ Lib.indexByte sglL n.toUInt8) := by decide +kernel
theorem mark1 (a : UInt8) : marksL.contains [a] = decide (0 ≤ Lib.indexByte sglL a) := by
  have := mark1' a.toNat a.toNat_lt
  simpa using this
theorem mark2 (a b : UInt8) (ha : a ≠ 32) (hb : b ≠ 32) : marksL.contains [a, b] = hasSub dblL [a, b] := by
  rw [Bool.eq_iff_iff]
  rw [List.contains_iff_mem]
  simp only [marksL, dblL, hasSub, List.isPrefixOf, List.mem_cons, List.cons.injEq, Bool.or_eq_true, Bool.and_eq_true, beq_iff_eq, List.isEmpty, Bool.and_true, Bool.or_false, List.not_mem_nil, reduceCtorEq, and_false, and_true, or_false, false_or]
  grind
theorem mark2s (a b : UInt8) (h : a = 32 ∨ b = 32) : marksL.contains [a, b] = false := by
  rw [← Bool.not_eq_true, List.contains_iff_mem]
  simp only [marksL, List.mem_cons, List.cons.injEq, List.not_mem_nil, reduceCtorEq, and_false, and_true, or_false, false_or]
  grind
end Go.Proofs.YtplnhipgifcafaaDoor
namespace Go.Proofs.YtplnhipgifcafaaDoor
set_option linter.all false
open Go Go.Ev
theorem partF_esc (l : List UInt8) (p i : Nat) (hi : p + i < l.length) (h : atL l (p + i) = 92) : partF l (p + i) = escF ((l.drop p).drop i) := by
  have e : ∀ j, atL ((l.drop p).drop i) j = atL l (p + i + j) := fun j => by rw [atL_dropk, atL_dropk]; congr 1; omega
  have hlen : ((l.drop p).drop i).length = l.length - p - i := by rw [List.length_drop, List.length_drop]
  have h2 := fun j => atL_out (l := l) (i := j)
  unfold partF escF
  rw [e, e, e, hlen, if_neg (by omega), if_neg (by omega)]
  by_cases h1 : l.length < p + i + 2
  · rw [if_pos h1]
    have := h2 (p + i + 1) (by omega)
    rw [this, if_neg (by omega), if_neg (by omega)]
  · rw [if_neg h1]
    by_cases h34 : atL l (p + i + 1) = 34
    · rw [if_pos h34, if_pos (.inl h34), h34]
    · rw [if_neg h34]
      by_cases h92 : atL l (p + i + 1) = 92
      · rw [if_pos h92, if_pos (.inr h92), h92]
      · rw [if_neg h92, if_neg (show ¬ (atL l (p + i + 1) = 34 ∨ atL l (p + i + 1) = 92) by omega)]
        by_cases hx : atL l (p + i + 1) = 120 ∧ p + i + 4 ≤ l.length ∧ 0 ≤ hexN (atL l (p + i + 2)) ∧ 0 ≤ hexN (atL l (p + i + 3)) ∧ (escV (atL l (p + i + 2)) (atL l (p + i + 3)) < 32 ∨ 126 < escV (atL l (p + i + 2)) (atL l (p + i + 3)))
        · rw [if_pos hx, if_pos ⟨hx.1, by omega, hx.2.2⟩]
        · rw [if_neg hx, if_neg (fun q => hx ⟨q.1, by omega, q.2.2⟩)]
def textOut (l : List UInt8) (p : Nat) (q : List UInt8 × Nat) : Option (List UInt8 × Nat) :=
  if l.length ≤ q.2 ∨ atL l q.2 ≠ 34 ∨ 256 < q.1.length then none else some (q.1, q.2 + 1 - p)
theorem text_same (l : List UInt8) (p : Nat) : ∀ (k k' i : Nat) (d : List UInt8), l.length ≤ k + (p + i) → l.length ≤ k' + (p + i) → textF k' (l.drop p) i d = textOut l p (partsF k l (p + i) d)
  | 0, k', i, d, h1, h2 => by
    have e : textF k' (l.drop p) i d = none := by
      cases k' with
      | zero => rfl
      | succ k' => rw [textF, if_pos (by rw [List.length_drop]; omega)]
    rw [e, partsF, textOut, if_pos (.inl (by show l.length ≤ p + i; omega))]
  | k + 1, k', i, d, h1, h2 => by
    by_cases hi : l.length ≤ p + i
    · have e : textF k' (l.drop p) i d = none := by
        cases k' with
        | zero => rfl
        | succ k' => rw [textF, if_pos (by rw [List.length_drop]; omega)]
      have hp : partF l (p + i) = (0, 0) := by unfold partF; rw [if_pos (.inl hi)]
      rw [e, partsF, hp, if_pos rfl, textOut, if_pos (.inl hi)]
    · cases k' with
      | zero => omega
      | succ k' =>
        have ea : atL (l.drop p) i = atL l (p + i) := atL_dropk l p i
        rw [textF, ea, if_neg (by rw [List.length_drop]; omega)]
        by_cases h34 : atL l (p + i) = 34
        · have hp : partF l (p + i) = (0, 0) := by unfold partF; rw [if_pos (by omega)]
          rw [partsF, hp, if_pos rfl, textOut]
          by_cases hd : d.length ≤ 256
          · rw [if_pos ⟨h34, hd⟩, if_neg (by show ¬ (l.length ≤ p + i ∨ atL l (p + i) ≠ 34 ∨ 256 < d.length); omega)]
            show some (d, i + 1) = some (d, p + i + 1 - p)
            congr 2; omega
          · rw [if_neg (by omega), if_neg (by omega), if_pos (.inl h34), if_pos (by show l.length ≤ p + i ∨ atL l (p + i) ≠ 34 ∨ 256 < d.length; omega)]
        · rw [if_neg (by omega)]
          by_cases h92 : atL l (p + i) = 92
          · rw [if_pos h92, partsF, partF_esc l p i (by omega) h92]
            by_cases h0 : (escF ((l.drop p).drop i)).2 = 0
            · rw [if_pos h0, if_pos h0, textOut, if_pos (.inr (.inl h34))]
            · rw [if_neg h0, if_neg h0]
              have := text_same l p k k' (i + (escF ((l.drop p).drop i)).2) (d ++ [UInt8.ofNat (escF ((l.drop p).drop i)).1]) (by omega) (by omega)
              rw [this, Nat.add_assoc]
          · rw [if_neg h92]
            by_cases hc : atL l (p + i) < 32 ∨ 126 < atL l (p + i)
            · have hp : partF l (p + i) = (0, 0) := by unfold partF; rw [if_pos (by omega)]
              rw [if_pos (by omega), partsF, hp, if_pos rfl, textOut, if_pos (.inr (.inl h34))]
            · have hp : partF l (p + i) = (atL l (p + i), 1) := by unfold partF; rw [if_neg (by omega), if_pos h92]
              rw [if_neg (by omega), partsF, hp, if_neg (by show ¬ (1 = 0); omega)]
              have := text_same l p k k' (i + 1) (d ++ [UInt8.ofNat (atL l (p + i))]) (by omega) (by omega)
              rw [this, Nat.add_assoc]
def resTP (p : Nat) : Except Int TokD → AV
  | .ok t => okTok (t.av p)
  | .error e => errTok e
theorem refText_av (l : List UInt8) (p : Nat) (hp : p < l.length) : refTextR l p (partsF l.length l (p + 1) []) = resTP p (textD (l.drop p)) := by
  have h := text_same l p l.length (l.drop p).length 1 [] (by omega) (by rw [List.length_drop]; omega)
  unfold textD
  rw [h]
  unfold refTextR textOut
  by_cases hc : l.length ≤ (partsF l.length l (p + 1) []).2 ∨ atL l (partsF l.length l (p + 1) []).2 ≠ 34 ∨ 256 < (partsF l.length l (p + 1) []).1.length
  · rw [if_pos hc, if_pos hc]; rfl
  · rw [if_neg hc, if_neg hc]; rfl
end Go.Proofs.YtplnhipgifcafaaDoor
namespace Go.Proofs.YtplnhipgifcafaaDoor
set_option linter.all false
open Go Go.Ev
variable {γ : List (Nat × AV)}
theorem b66' : bodyT Tryd.prog 66 := ⟨_, Tryd.func66, by kernel_rfl, by kernel_rfl⟩
/-- What ref.real asks of the two rows of digits. -/
def rrealO (sg : Nat) (a b : List UInt8) : Bool :=
  decide (decV a < 9007199254740992) && decide (decV b ≤ 1023 + 51 * sg) && (decide (decV a % 2 = 1) || (decide (decV a = 0) && decide (decV b = 0))) && !(decide (sg = 1) && decide (decV b = 0)) && finB (decV a) (expOf sg (decV b))
theorem rrealO_iff {sg : Nat} {a b : List UInt8} : rrealO sg a b = true ↔ decV a < 9007199254740992 ∧ decV b ≤ 1023 + 51 * sg ∧ (decV a % 2 = 1 ∨ decV a = 0 ∧ decV b = 0) ∧ ¬ (sg = 1 ∧ decV b = 0) ∧ finB (decV a) (expOf sg (decV b)) = true := by
  unfold rrealO
  simp only [Bool.and_eq_true, Bool.or_eq_true, Bool.not_eq_true', decide_eq_true_eq, Bool.and_eq_false_iff, decide_eq_false_iff_not]
  constructor
  · rintro ⟨⟨⟨⟨a1, a2⟩, a3⟩, a4⟩, a5⟩
    exact ⟨a1, a2, a3, by omega, a5⟩
  · rintro ⟨a1, a2, a3, a4, a5⟩
    exact ⟨⟨⟨⟨a1, a2⟩, a3⟩, by omega⟩, a5⟩
theorem powerB_ev (m x sg : Nat) (h : m < 9007199254740992) (hx : x ≤ 1023 + 51 * sg) (hsg : sg = 0 ∨ sg = 1) (h0 : m = 0 → x = 0) : Ev Tryd.prog γ 98 [.v (.int .i64 m), .v (.int .i64 x), .v (.bool (decide (sg = 1)))] (.v (.float .f64 (realB m (expOf sg x)))) := by
  by_cases hm : m = 0
  · subst hm
    have hx0 := h0 rfl
    subst hx0
    have := refPower_ev (γ := γ) ((0 : Nat) : Int) 0 (decide (sg = 1)) (fun _ => 0) (by omega) (by rfl) (fun j hj => by omega)
    have e : realB 0 (expOf sg 0) = 0 := by unfold realB; rw [if_pos rfl]
    rw [e]; exact this
  · have hlg := log2_lt53 (by omega : 0 < m) h
    have := refPower_ev (γ := γ) (m : Int) x (decide (sg = 1)) (fun j => dblN m (expOf sg j)) (by omega) (by
        rw [near_eq m h]; unfold realB; rw [if_neg hm]
        have : expOf sg 0 = 0 := by unfold expOf; split <;> rfl
        simp only [this]) (fun j hj => by
        by_cases hs1 : sg = 1
        · rw [if_pos (by rw [hs1]; rfl)]
          have e1 : expOf sg j = -(j : Int) := by unfold expOf; rw [if_pos hs1]
          have e2 : expOf sg (j + 1) = -(j : Int) - 1 := by unfold expOf; rw [if_pos hs1]; omega
          simp only [e1, e2]
          exact div_two (by omega) h (by omega) (by omega)
        · rw [if_neg (by rw [decide_eq_true_eq]; exact hs1)]
          have e1 : expOf sg j = (j : Int) := by unfold expOf; rw [if_neg hs1]
          have e2 : expOf sg (j + 1) = (j : Int) + 1 := by unfold expOf; rw [if_neg hs1]; omega
          simp only [e1, e2]
          exact mul_two (by omega) h (by omega))
    have e : realB m (expOf sg x) = dblN m (expOf sg x) := by unfold realB; rw [if_neg hm]
    rw [e]; exact this
theorem sub_fin {m : Nat} {e : Int} (h : m < 9007199254740992) (he : -1074 ≤ e) (hf : finB m e = true) : FloatKind.f64.format.sub (realB m e) (realB m e) = some 0 := by
  unfold realB
  have hf := of_decide_eq_true hf
  by_cases hm : m = 0
  · rw [if_pos hm]; rfl
  · rw [if_neg hm]; exact sub_self_fin (by omega) h he (hf.resolve_left hm)
theorem sub_inf {m : Nat} {e : Int} (h : m < 9007199254740992) (he : -1074 ≤ e) (hf : finB m e = false) : FloatKind.f64.format.sub (realB m e) (realB m e) = none := by
  unfold realB
  have hf := of_decide_eq_false hf
  have hm : ¬ m = 0 := fun h => hf (.inl h)
  rw [if_neg hm]; exact sub_self_inf (by omega) h he (by omega)
theorem wholeR_eq (l : List UInt8) : wholeR l = .tup [.v (.int .i64 (if decV l ≤ 9223372036854775807 then (decV l : Int) else 0)), .v (.bool (decide (decV l ≤ 9223372036854775807)))] := by
  unfold wholeR
  by_cases h : decV l ≤ 9223372036854775807
  · rw [if_pos h, if_pos h, decide_eq_true h]
  · rw [if_neg h, if_neg h, decide_eq_false h]
end Go.Proofs.YtplnhipgifcafaaDoor
namespace Go.Proofs.YtplnhipgifcafaaDoor
set_option linter.all false
open Go Go.Ev
variable {γ : List (Nat × AV)}
theorem wholeAt_ev (b : Bool) (l : List UInt8) (i j : Nat) (hij : i ≤ j) (hj : j ≤ l.length) (hl : l.length ≤ 140737488351232) (hd : ∀ k, k < (j - i) → digitN (atL ((l.drop i).take (j - i)) k) = true) :
    Ev Tryd.prog γ 67 [.sl b (j - i) (l.length - i) (List.drop i (l.map byteC))] (wholeR ((l.drop i).take (j - i))) := by
  rw [← List.map_drop]
  refine Ev_cut1 (by omega) (by rw [List.length_drop]; omega) ?_
  have hlen : ((l.drop i).take (j - i)).length = j - i := by rw [List.length_take, List.length_drop]; omega
  exact refWhole_ev b _ (by rw [hlen]; omega) (fun k hk => hd k (by rw [hlen] at hk; exact hk))
theorem fltRes_none : fltRes none = AV.nan := rfl
set_option maxHeartbeats 4000000 in
set_option maxRecDepth 20000 in
theorem refReal_ev (b : Bool) (l : List UInt8) (p n more sg : Nat) (a c : List UInt8) (ha : a = (l.drop p).take (p + n - p)) (hc : c = (l.drop (p + n + (sg + 1))).take (p + n + more - (p + n + (sg + 1)))) (hpn : p + n + more ≤ l.length) (hsg : sg = 0 ∨ sg = 1) (hm : sg + 1 ≤ more) (hl : l.length ≤ 140737488351232)
    (hda : ∀ k, k < p + n - p → digitN (atL a k) = true) (hdc : ∀ k, k < p + n + more - (p + n + (sg + 1)) → digitN (atL c k) = true) :
    Ev Tryd.prog γ 66 [.sl b l.length l.length (l.map byteC), .v (.int .i64 p), .v (.int .i64 n), .v (.int .i64 more), .v (.int .i64 ((sg + 1 : Nat) : Int))]
      (if rrealO sg a c = true then okTok (tokA 3 [] 0 (.v (.float .f64 (realB (decV a) (expOf sg (decV c))))) p (n + more : Nat)) else errTok 12) := by
  refine Ev.of Tryd.func66 rfl ?_
  generalize hR : (if rrealO sg a c = true then okTok (tokA 3 [] 0 (.v (.float .f64 (realB (decV a) (expOf sg (decV c))))) p (n + more : Nat)) else errTok 12) = R
  have hwa := wholeAt_ev (γ := γ) b l p (p + n) (by omega) (by omega) hl (by rw [← ha]; exact hda)
  have hwc := wholeAt_ev (γ := γ) b l (p + n + (sg + 1)) (p + n + more) (by omega) hpn hl (by rw [← hc]; exact hdc)
  rw [← ha, wholeR_eq] at hwa
  rw [← hc, wholeR_eq] at hwc
  clear ha hc hda hdc
  have w1 : IntKind.i64.wrap ((p : Int) + (n : Int)) = ((p + n : Nat) : Int) := (i64w (by omega) (by omega)).trans (by omega)
  have w2 : IntKind.i64.wrap (((p + n : Nat) : Int) + ((sg + 1 : Nat) : Int)) = ((p + n + (sg + 1) : Nat) : Int) := (i64w (by omega) (by omega)).trans (by omega)
  have w3 : IntKind.i64.wrap (((p + n : Nat) : Int) + (more : Int)) = ((p + n + more : Nat) : Int) := (i64w (by omega) (by omega)).trans (by omega)
  have w4 : IntKind.i64.wrap ((n : Int) + (more : Int)) = ((n + more : Nat) : Int) := (i64w (by omega) (by omega)).trans (by omega)
  have e2 : (((sg + 1 : Nat) : Int) == 2) = decide (sg = 1) := by
    by_cases h : sg = 1
    · subst h; rfl
    · rw [decide_eq_false h]; simp; omega
  simp only [Tryd.f66, w1, w2, w3, w4, e2, evS, tyS, Bool.not_true, Bool.not_false, Nat.reduceAdd, Nat.reduceSub, Nat.reduceMul, Nat.reduceLT, Nat.reduceLeDiff, Nat.reduceEqDiff, reduceCtorEq, List.reduceReplicate, Int.reduceToNat, Int.reduceLE, Int.reduceLT]
  (repeat' (first | (with_reducible refine And.intro ?_ ?_) | ((first | refine GuardK.intro_f (fun h => ?_) (fun h => ?_) | refine GuardK.intro_t (fun h => ?_) (fun h => ?_) | refine CondK.intro (fun h => ?_) (fun h => ?_) | refine PickK.intro (fun h => ?_) (fun h => ?_)) <;> simp only [h, w1, w2, w3, w4, e2, evS, tyS, Bool.not_true, Bool.not_false, Nat.reduceAdd, Nat.reduceSub, Nat.reduceMul, Nat.reduceLT, Nat.reduceLeDiff, Nat.reduceEqDiff, reduceCtorEq, List.reduceReplicate, Int.reduceToNat, Int.reduceLE, Int.reduceLT]) | (refine DrawK.intro (by kernel_rfl) (by kernel_rfl) ?_; simp only [w1, w2, w3, w4, e2, evS, tyS, Bool.not_true, Bool.not_false, Nat.reduceAdd, Nat.reduceSub, Nat.reduceMul, Nat.reduceLT, Nat.reduceLeDiff, Nat.reduceEqDiff, reduceCtorEq, List.reduceReplicate, Int.reduceToNat, Int.reduceLE, Int.reduceLT])))
  all_goals try (((try simp only [decide_eq_true_eq, decide_eq_false_iff_not, beq_iff_eq, bne_iff_ne, ne_eq, beq_eq_false_iff_ne, bne_eq_false_iff_eq] at *) <;> (try omega)); done)
  refine CallK.intro b67 (by simp [treeL, treeA]) hwa ?_
  simp only [w1, w2, w3, w4, e2, evS, tyS, Bool.not_true, Bool.not_false, Nat.reduceAdd, Nat.reduceSub, Nat.reduceMul, Nat.reduceLT, Nat.reduceLeDiff, Nat.reduceEqDiff, reduceCtorEq, List.reduceReplicate, Int.reduceToNat, Int.reduceLE, Int.reduceLT]
  (repeat' (first | (with_reducible refine And.intro ?_ ?_) | ((first | refine GuardK.intro_f (fun h => ?_) (fun h => ?_) | refine GuardK.intro_t (fun h => ?_) (fun h => ?_) | refine CondK.intro (fun h => ?_) (fun h => ?_) | refine PickK.intro (fun h => ?_) (fun h => ?_)) <;> simp only [h, w1, w2, w3, w4, e2, evS, tyS, Bool.not_true, Bool.not_false, Nat.reduceAdd, Nat.reduceSub, Nat.reduceMul, Nat.reduceLT, Nat.reduceLeDiff, Nat.reduceEqDiff, reduceCtorEq, List.reduceReplicate, Int.reduceToNat, Int.reduceLE, Int.reduceLT]) | (refine DrawK.intro (by kernel_rfl) (by kernel_rfl) ?_; simp only [w1, w2, w3, w4, e2, evS, tyS, Bool.not_true, Bool.not_false, Nat.reduceAdd, Nat.reduceSub, Nat.reduceMul, Nat.reduceLT, Nat.reduceLeDiff, Nat.reduceEqDiff, reduceCtorEq, List.reduceReplicate, Int.reduceToNat, Int.reduceLE, Int.reduceLT])))
  all_goals try (((try simp only [decide_eq_true_eq, decide_eq_false_iff_not, beq_iff_eq, bne_iff_ne, ne_eq, beq_eq_false_iff_ne, bne_eq_false_iff_eq] at *) <;> (try omega)); done)
  refine CallK.intro b67 (by simp [treeL, treeA]) hwc ?_
  clear hwa hwc
  by_cases hOa : decV a ≤ 9223372036854775807
  · by_cases hOc : decV c ≤ 9223372036854775807
    · have hPw : ∀ bb : Bool, bb = decide (sg = 1) → decV a < 9007199254740992 → decV c ≤ 1023 + 51 * sg → (decV a = 0 → decV c = 0) → Ev Tryd.prog γ 98 [.v (.int .i64 (decV a)), .v (.int .i64 (decV c)), .v (.bool bb)] (.v (.float .f64 (realB (decV a) (expOf sg (decV c))))) := fun bb hbb h1 h2 h3 => by rw [hbb]; exact powerB_ev (γ := γ) (decV a) (decV c) sg h1 h2 hsg h3
      have hfi := fun h1 h2 => sub_fin (m := decV a) (e := expOf sg (decV c)) h1 h2
      have hin := fun h1 h2 => sub_inf (m := decV a) (e := expOf sg (decV c)) h1 h2
      simp only [rrealO_iff] at hR
      rw [if_pos hOa, if_pos hOc, decide_eq_true hOa, decide_eq_true hOc]
      have hex : decV c ≤ 1023 + 51 * sg → -1074 ≤ expOf sg (decV c) := fun h => by unfold expOf; split <;> omega
      generalize expOf sg (decV c) = ex at *
      generalize decV a = A at *
      generalize decV c = C at *
      have etm : ∀ n : Nat, ((n : Int).tmod 2 == 0) = decide (n % 2 = 0) := fun n => by
        rw [Int.tmod_eq_emod_of_nonneg (by omega)]
        by_cases h : n % 2 = 0
        · rw [decide_eq_true h]; simp; omega
        · rw [decide_eq_false h]; simp; omega
      have ez : ∀ n : Nat, ((n : Int) == 0) = decide (n = 0) := fun n => by
        by_cases h : n = 0
        · simp [h]
        · rw [decide_eq_false h]; simp [h]
      have en : ∀ n : Nat, ((n : Int) != 0) = decide (n ≠ 0) := fun n => by
        by_cases h : n = 0
        · simp [h]
        · rw [decide_eq_true h]; simp [h]
      have eg : ∀ (n : Nat), decide ((9007199254740992 : Int) ≤ (n : Int)) = decide (9007199254740992 ≤ n) := fun n => by
        by_cases h : 9007199254740992 ≤ n
        · rw [decide_eq_true h, decide_eq_true]; omega
        · rw [decide_eq_false h, decide_eq_false]; omega
      have o00 : (FloatKind.f64.format.order 0 0 != some .eq) = false := by rfl
      rcases hsg with rfl | rfl
      · have hPb := hPw false (by decide)
        clear hPw
        have e22 : (((1 : Nat) : Int) == 2) = false := by decide
        have d01 : decide ((0 : Nat) = 1) = false := by decide
        have el : decide ((1023 : Int) < (C : Int)) = decide (1023 < C) := by
          by_cases h : 1023 < C
          · rw [decide_eq_true h, decide_eq_true]; omega
          · rw [decide_eq_false h, decide_eq_false]; omega
        simp only [etm, ez, en, eg, el, d01, e22, evS, tyS, Bool.not_true, Bool.not_false, Nat.reduceAdd, Nat.reduceSub, Nat.reduceMul, Nat.reduceLT, Nat.reduceLeDiff, Nat.reduceEqDiff, reduceCtorEq, List.reduceReplicate, Int.reduceToNat, Int.reduceLE, Int.reduceLT]
        (repeat' (first | (with_reducible refine And.intro ?_ ?_) | ((first | refine GuardK.intro_f (fun h => ?_) (fun h => ?_) | refine GuardK.intro_t (fun h => ?_) (fun h => ?_) | refine CondK.intro (fun h => ?_) (fun h => ?_) | refine PickK.intro (fun h => ?_) (fun h => ?_)) <;> simp only [h, etm, ez, en, eg, el, d01, e22, evS, tyS, Bool.not_true, Bool.not_false, Nat.reduceAdd, Nat.reduceSub, Nat.reduceMul, Nat.reduceLT, Nat.reduceLeDiff, Nat.reduceEqDiff, reduceCtorEq, List.reduceReplicate, Int.reduceToNat, Int.reduceLE, Int.reduceLT]) | (refine DrawK.intro (by kernel_rfl) (by kernel_rfl) ?_; simp only [etm, ez, en, eg, el, d01, e22, evS, tyS, Bool.not_true, Bool.not_false, Nat.reduceAdd, Nat.reduceSub, Nat.reduceMul, Nat.reduceLT, Nat.reduceLeDiff, Nat.reduceEqDiff, reduceCtorEq, List.reduceReplicate, Int.reduceToNat, Int.reduceLE, Int.reduceLT])))
        all_goals try (((try simp only [decide_eq_true_eq, decide_eq_false_iff_not, beq_iff_eq, bne_iff_ne, ne_eq, beq_eq_false_iff_ne, bne_eq_false_iff_eq] at *) <;> (try omega)); done)
        all_goals (try simp only [Bool.not_eq_true', Bool.not_eq_false', Bool.not_true, Bool.not_false, decide_eq_true_eq, decide_eq_false_iff_not, ne_eq, not_true_eq_false, not_false_eq_true, Classical.not_not] at *)
        all_goals try (rw [← hR, if_neg (by rintro ⟨q1, q2, q3, q4, q5⟩; first | omega | exact q4 ⟨trivial, by omega⟩)]; simp only [errTok, tokA, f0, evS, tyS, Bool.not_true, Bool.not_false, Nat.reduceAdd, Nat.reduceSub, Nat.reduceMul, Nat.reduceLT, Nat.reduceLeDiff, Nat.reduceEqDiff, reduceCtorEq, List.reduceReplicate, Int.reduceToNat, Int.reduceLE, Int.reduceLT]; done)
        all_goals
          (have hexx := hex (by omega)
           refine CallK.intro b98 rfl (hPb (by omega) (by omega) (by omega)) ?_
           cases hf : finB A ex with
           | true =>
             have s1 := hfi (by omega) hexx hf
             rw [← hR, if_pos ⟨by omega, by omega, by omega, by omega, hf⟩]
             simp only [s1, fltRes_some, o00, okTok, tokA, w4, evS, tyS, Bool.not_true, Bool.not_false, Nat.reduceAdd, Nat.reduceSub, Nat.reduceMul, Nat.reduceLT, Nat.reduceLeDiff, Nat.reduceEqDiff, reduceCtorEq, List.reduceReplicate, Int.reduceToNat, Int.reduceLE, Int.reduceLT]
           | false =>
             have s1 := hin (by omega) hexx hf
             rw [← hR, if_neg (by rintro ⟨q1, q2, q3, q4, q5⟩; rw [hf] at q5; cases q5)]
             simp only [s1, fltRes_none, errTok, tokA, f0, w4, evS, tyS, Bool.not_true, Bool.not_false, Nat.reduceAdd, Nat.reduceSub, Nat.reduceMul, Nat.reduceLT, Nat.reduceLeDiff, Nat.reduceEqDiff, reduceCtorEq, List.reduceReplicate, Int.reduceToNat, Int.reduceLE, Int.reduceLT])
      · have hPb := hPw true (by decide)
        clear hPw
        have e22 : (((2 : Nat) : Int) == 2) = true := by decide
        have d01 : decide ((1 : Nat) = 1) = true := by decide
        have el : decide ((1074 : Int) < (C : Int)) = decide (1074 < C) := by
          by_cases h : 1074 < C
          · rw [decide_eq_true h, decide_eq_true]; omega
          · rw [decide_eq_false h, decide_eq_false]; omega
        simp only [etm, ez, en, eg, el, d01, e22, evS, tyS, Bool.not_true, Bool.not_false, Nat.reduceAdd, Nat.reduceSub, Nat.reduceMul, Nat.reduceLT, Nat.reduceLeDiff, Nat.reduceEqDiff, reduceCtorEq, List.reduceReplicate, Int.reduceToNat, Int.reduceLE, Int.reduceLT]
        (repeat' (first | (with_reducible refine And.intro ?_ ?_) | ((first | refine GuardK.intro_f (fun h => ?_) (fun h => ?_) | refine GuardK.intro_t (fun h => ?_) (fun h => ?_) | refine CondK.intro (fun h => ?_) (fun h => ?_) | refine PickK.intro (fun h => ?_) (fun h => ?_)) <;> simp only [h, etm, ez, en, eg, el, d01, e22, evS, tyS, Bool.not_true, Bool.not_false, Nat.reduceAdd, Nat.reduceSub, Nat.reduceMul, Nat.reduceLT, Nat.reduceLeDiff, Nat.reduceEqDiff, reduceCtorEq, List.reduceReplicate, Int.reduceToNat, Int.reduceLE, Int.reduceLT]) | (refine DrawK.intro (by kernel_rfl) (by kernel_rfl) ?_; simp only [etm, ez, en, eg, el, d01, e22, evS, tyS, Bool.not_true, Bool.not_false, Nat.reduceAdd, Nat.reduceSub, Nat.reduceMul, Nat.reduceLT, Nat.reduceLeDiff, Nat.reduceEqDiff, reduceCtorEq, List.reduceReplicate, Int.reduceToNat, Int.reduceLE, Int.reduceLT])))
        all_goals try (((try simp only [decide_eq_true_eq, decide_eq_false_iff_not, beq_iff_eq, bne_iff_ne, ne_eq, beq_eq_false_iff_ne, bne_eq_false_iff_eq] at *) <;> (try omega)); done)
        all_goals (try simp only [Bool.not_eq_true', Bool.not_eq_false', Bool.not_true, Bool.not_false, decide_eq_true_eq, decide_eq_false_iff_not, ne_eq, not_true_eq_false, not_false_eq_true, Classical.not_not] at *)
        all_goals try (rw [← hR, if_neg (by rintro ⟨q1, q2, q3, q4, q5⟩; first | omega | exact q4 ⟨trivial, by omega⟩)]; simp only [errTok, tokA, f0, evS, tyS, Bool.not_true, Bool.not_false, Nat.reduceAdd, Nat.reduceSub, Nat.reduceMul, Nat.reduceLT, Nat.reduceLeDiff, Nat.reduceEqDiff, reduceCtorEq, List.reduceReplicate, Int.reduceToNat, Int.reduceLE, Int.reduceLT]; done)
        all_goals
          (have hexx := hex (by omega)
           refine CallK.intro b98 rfl (hPb (by omega) (by omega) (by omega)) ?_
           cases hf : finB A ex with
           | true =>
             have s1 := hfi (by omega) hexx hf
             rw [← hR, if_pos ⟨by omega, by omega, by omega, by omega, hf⟩]
             simp only [s1, fltRes_some, o00, okTok, tokA, w4, evS, tyS, Bool.not_true, Bool.not_false, Nat.reduceAdd, Nat.reduceSub, Nat.reduceMul, Nat.reduceLT, Nat.reduceLeDiff, Nat.reduceEqDiff, reduceCtorEq, List.reduceReplicate, Int.reduceToNat, Int.reduceLE, Int.reduceLT]
           | false =>
             have s1 := hin (by omega) hexx hf
             rw [← hR, if_neg (by rintro ⟨q1, q2, q3, q4, q5⟩; rw [hf] at q5; cases q5)]
             simp only [s1, fltRes_none, errTok, tokA, f0, w4, evS, tyS, Bool.not_true, Bool.not_false, Nat.reduceAdd, Nat.reduceSub, Nat.reduceMul, Nat.reduceLT, Nat.reduceLeDiff, Nat.reduceEqDiff, reduceCtorEq, List.reduceReplicate, Int.reduceToNat, Int.reduceLE, Int.reduceLT])
    · have hz : ¬ (rrealO sg a c = true) := fun q => by have := (rrealO_iff.1 q).2.1; omega
      rw [if_neg hz] at hR
      rw [← hR, decide_eq_false hOc, decide_eq_true hOa]
      simp only [evS, tyS, Bool.not_true, Bool.not_false, Nat.reduceAdd, Nat.reduceSub, Nat.reduceMul, Nat.reduceLT, Nat.reduceLeDiff, Nat.reduceEqDiff, reduceCtorEq, List.reduceReplicate, Int.reduceToNat, Int.reduceLE, Int.reduceLT]
      (repeat' (first | (with_reducible refine And.intro ?_ ?_) | ((first | refine GuardK.intro_f (fun h => ?_) (fun h => ?_) | refine GuardK.intro_t (fun h => ?_) (fun h => ?_) | refine CondK.intro (fun h => ?_) (fun h => ?_) | refine PickK.intro (fun h => ?_) (fun h => ?_)) <;> simp only [h, evS, tyS, Bool.not_true, Bool.not_false, Nat.reduceAdd, Nat.reduceSub, Nat.reduceMul, Nat.reduceLT, Nat.reduceLeDiff, Nat.reduceEqDiff, reduceCtorEq, List.reduceReplicate, Int.reduceToNat, Int.reduceLE, Int.reduceLT]) | (refine DrawK.intro (by kernel_rfl) (by kernel_rfl) ?_; simp only [evS, tyS, Bool.not_true, Bool.not_false, Nat.reduceAdd, Nat.reduceSub, Nat.reduceMul, Nat.reduceLT, Nat.reduceLeDiff, Nat.reduceEqDiff, reduceCtorEq, List.reduceReplicate, Int.reduceToNat, Int.reduceLE, Int.reduceLT])))
      all_goals try (((try simp only [decide_eq_true_eq, decide_eq_false_iff_not, beq_iff_eq, bne_iff_ne, ne_eq, beq_eq_false_iff_ne, bne_eq_false_iff_eq] at *) <;> (try omega)); done)
      all_goals (simp only [errTok, tokA, f0, evS, tyS, Bool.not_true, Bool.not_false, Nat.reduceAdd, Nat.reduceSub, Nat.reduceMul, Nat.reduceLT, Nat.reduceLeDiff, Nat.reduceEqDiff, reduceCtorEq, List.reduceReplicate, Int.reduceToNat, Int.reduceLE, Int.reduceLT]; done)
  · have hz : ¬ (rrealO sg a c = true) := fun q => by have := (rrealO_iff.1 q).1; omega
    rw [if_neg hz] at hR
    rw [← hR, decide_eq_false hOa]
    simp only [evS, tyS, Bool.not_true, Bool.not_false, Nat.reduceAdd, Nat.reduceSub, Nat.reduceMul, Nat.reduceLT, Nat.reduceLeDiff, Nat.reduceEqDiff, reduceCtorEq, List.reduceReplicate, Int.reduceToNat, Int.reduceLE, Int.reduceLT]
    (repeat' (first | (with_reducible refine And.intro ?_ ?_) | ((first | refine GuardK.intro_f (fun h => ?_) (fun h => ?_) | refine GuardK.intro_t (fun h => ?_) (fun h => ?_) | refine CondK.intro (fun h => ?_) (fun h => ?_) | refine PickK.intro (fun h => ?_) (fun h => ?_)) <;> simp only [h, evS, tyS, Bool.not_true, Bool.not_false, Nat.reduceAdd, Nat.reduceSub, Nat.reduceMul, Nat.reduceLT, Nat.reduceLeDiff, Nat.reduceEqDiff, reduceCtorEq, List.reduceReplicate, Int.reduceToNat, Int.reduceLE, Int.reduceLT]) | (refine DrawK.intro (by kernel_rfl) (by kernel_rfl) ?_; simp only [evS, tyS, Bool.not_true, Bool.not_false, Nat.reduceAdd, Nat.reduceSub, Nat.reduceMul, Nat.reduceLT, Nat.reduceLeDiff, Nat.reduceEqDiff, reduceCtorEq, List.reduceReplicate, Int.reduceToNat, Int.reduceLE, Int.reduceLT])))
    all_goals try (((try simp only [decide_eq_true_eq, decide_eq_false_iff_not, beq_iff_eq, bne_iff_ne, ne_eq, beq_eq_false_iff_ne, bne_eq_false_iff_eq] at *) <;> (try omega)); done)
    all_goals (simp only [errTok, tokA, f0, evS, tyS, Bool.not_true, Bool.not_false, Nat.reduceAdd, Nat.reduceSub, Nat.reduceMul, Nat.reduceLT, Nat.reduceLeDiff, Nat.reduceEqDiff, reduceCtorEq, List.reduceReplicate, Int.reduceToNat, Int.reduceLE, Int.reduceLT]; done)
end Go.Proofs.YtplnhipgifcafaaDoor
