/- A part of the proof. -/
import Derived.Test.YtplnhipgifcafaaDoorX3
/- Quoted texts: what is quoted is read back, and there is one way to quote. -/
namespace Go.Proofs.YtplnhipgifcafaaDoor
set_option linter.all false
open Go Go.Ev
theorem atL_app {a b : List UInt8} (i : Nat) : atL (a ++ b) (a.length + i) = atL b i := by
  unfold atL; simp only [List.getD_eq_getElem?_getD]
  rw [List.getElem?_append_right (by omega)]
  simp
theorem hex_of (n : Nat) (h : n < 16) : hexN ((hexL.getD n 0).toNat) = n := by
  have : ∀ n : Fin 16, hexN ((hexL.getD n.val 0).toNat) = n.val := by decide
  exact this ⟨n, h⟩
theorem hex_inv (b : UInt8) (h : 0 ≤ hexN b.toNat) : hexN b.toNat < 16 ∧ hexL.getD (hexN b.toNat).toNat 0 = b := by
  have : ∀ b : Fin 256, 0 ≤ hexN b.val → hexN b.val < 16 ∧ hexL.getD (hexN b.val).toNat 0 = UInt8.ofNat b.val := by decide +kernel
  have h2 := this ⟨b.toNat, b.toNat_lt⟩ h
  simpa using h2
/-- What a byte's escape is read as. -/
theorem esc_read (c : UInt8) (r : List UInt8) :
    (esc c = [c] ∧ c.toNat ≠ 34 ∧ c.toNat ≠ 92 ∧ 32 ≤ c.toNat ∧ c.toNat ≤ 126) ∨
    (2 ≤ (esc c).length ∧ atL (esc c ++ r) 0 = 92 ∧ escF (esc c ++ r) = (c.toNat, (esc c).length)) := by
  by_cases h1 : c.toNat = 34 ∨ c.toNat = 92
  · have e := esc1 h1
    rw [e]
    refine .inr ⟨by simp, rfl, ?_⟩
    have a1 : atL ([92, c] ++ r) 1 = c.toNat := rfl
    unfold escF
    rw [a1, if_pos h1]; rfl
  · by_cases h2 : c.toNat < 32 ∨ 126 < c.toNat
    · have e := esc2 h1 h2
      have hc := c.toNat_lt
      have g1 := hex_of (c.toNat / 16) (by omega)
      have g2 := hex_of (c.toNat % 16) (by omega)
      rw [e]
      refine .inr ⟨by simp, rfl, ?_⟩
      have a1 : atL ([92, 120, hexL.getD (c.toNat / 16) 0, hexL.getD (c.toNat % 16) 0] ++ r) 1 = 120 := rfl
      have a2 : atL ([92, 120, hexL.getD (c.toNat / 16) 0, hexL.getD (c.toNat % 16) 0] ++ r) 2 = (hexL.getD (c.toNat / 16) 0).toNat := rfl
      have a3 : atL ([92, 120, hexL.getD (c.toNat / 16) 0, hexL.getD (c.toNat % 16) 0] ++ r) 3 = (hexL.getD (c.toNat % 16) 0).toNat := rfl
      have hv : escV (hexL.getD (c.toNat / 16) 0).toNat (hexL.getD (c.toNat % 16) 0).toNat = c.toNat := by
        unfold escV; rw [g1, g2]; omega
      unfold escF
      rw [a1, a2, a3, if_neg (by decide), hv, g1, g2, if_pos ⟨rfl, by simp, by omega, by omega, h2⟩]
      rfl
    · exact .inl ⟨esc3 h1 h2, fun h => h1 (.inl h), fun h => h1 (.inr h), by omega, by omega⟩
/-- A quoted text is read back as it was. -/
theorem textF_quote (L : List UInt8) : ∀ (s : List UInt8) (k i : Nat) (d : List UInt8), L.drop i = s.flatMap esc ++ [34] → d.length + s.length ≤ 256 → L.length + 1 ≤ k + i → i ≤ L.length → textF k L i d = some (d ++ s, L.length)
  | [], k, i, d, h, hd, hk, hi => by
    have hlen : L.length = i + 1 := by
      have := congrArg List.length h; simp at this; omega
    have a0 : atL L i = 34 := by
      have : atL (L.drop i) 0 = 34 := by rw [h]; rfl
      rwa [atL_drop] at this
    cases k with
    | zero => omega
    | succ k =>
      rw [textF, if_neg (by omega), if_pos ⟨a0, by simpa using hd⟩, List.append_nil, hlen]
  | c :: s, k, i, d, h, hd, hk, hi => by
    have hlen : L.length = i + ((esc c).length + (s.flatMap esc ++ [34]).length) := by
      have := congrArg List.length h
      simp only [List.flatMap_cons, List.length_append, List.length_drop] at this ⊢; omega
    have h' : L.drop i = esc c ++ (s.flatMap esc ++ [34]) := by rw [h, List.flatMap_cons, List.append_assoc]
    have hrest : L.drop (i + (esc c).length) = s.flatMap esc ++ [34] := by
      rw [← List.drop_drop, h', List.drop_left' rfl]
    have hl34 : 1 ≤ (s.flatMap esc ++ [34]).length := by simp
    have hd2 : (d ++ [c]).length + s.length ≤ 256 := by simp only [List.length_append, List.length_cons, List.length_nil] at hd ⊢; omega
    have hfin : d ++ [c] ++ s = d ++ c :: s := by simp
    cases k with
    | zero => omega
    | succ k =>
      rw [textF, if_neg (by omega)]
      rcases esc_read c (s.flatMap esc ++ [34]) with ⟨e, g1, g2, g3, g4⟩ | ⟨g0, g1, g2⟩
      · have a0 : atL L i = c.toNat := by
          have : atL (L.drop i) 0 = c.toNat := by rw [h', e]; rfl
          rwa [atL_drop] at this
        rw [a0, if_neg (by rintro ⟨q, _⟩; exact g1 q), if_neg g2, if_neg (by omega)]
        rw [e] at hrest hlen
        simp only [List.length_cons, List.length_nil] at hrest hlen
        rw [show UInt8.ofNat c.toNat = c by simp, textF_quote L s k (i + 1) (d ++ [c]) hrest hd2 (by omega) (by omega), hfin]
      · have a0 : atL L i = 92 := by
          have : atL (L.drop i) 0 = 92 := by rw [h']; exact g1
          rwa [atL_drop] at this
        rw [a0, if_neg (by rintro ⟨q, _⟩; exact absurd q (by decide)), if_pos rfl, h', g2]
        simp only
        rw [if_neg (by omega), show UInt8.ofNat c.toNat = c by simp, textF_quote L s k (i + (esc c).length) (d ++ [c]) hrest hd2 (by omega) (by omega), hfin]
def quoteT (s : List UInt8) : TokD := ⟨4, s, 0, 0, (quoteB s ++ [34]).length⟩
theorem headD_quote (s : List UInt8) (h : s.length ≤ 256) : headD (quoteB s ++ [34]) = .ok (quoteT s) := by
  have e : quoteB s ++ [34] = 34 :: (s.flatMap esc ++ [34]) := rfl
  have h1 : textF (quoteB s ++ [34]).length (quoteB s ++ [34]) 1 [] = some ([] ++ s, (quoteB s ++ [34]).length) :=
    textF_quote (quoteB s ++ [34]) s _ 1 [] (by rw [e]; rfl) (by simpa using h) (Nat.le_refl _) (by rw [e]; simp)
  have a0 : atL (quoteB s ++ [34]) 0 = 34 := rfl
  unfold headD
  rw [a0, if_neg (by decide), if_neg (by decide), if_pos rfl]
  unfold textD
  rw [h1]; rfl
theorem items_quote (s : List UInt8) (h : s.length ≤ 256) : eachItems (quoteB s ++ [34]) = [((quoteT s, 0), 0)] := by
  have hl := quoteB_len s
  have := items_one (s := quoteB s ++ [34]) (t := quoteT s) (headD_quote s h) (by simp [quoteT]) (Nat.le_refl _) (by simp only [quoteT, List.length_append, List.length_cons, List.length_nil]; omega) (by show blankN 34 = false; decide) (by show 34 ≠ 35; decide)
  rwa [show (quoteT s).size = (quoteB s ++ [34]).length from rfl, List.take_length] at this
/-- A text token's bytes are what Quote answers. -/
theorem textF_inv (L : List UInt8) : ∀ (k i : Nat) (d q : List UInt8) (n : Nat), textF k L i d = some (q, n) → q.length ≤ 256 ∧ ∃ r, q = d ++ r ∧ (L.drop i).take (n - i) = r.flatMap esc ++ [34]
  | 0, _, _, _, _, h => by cases h
  | k + 1, i, d, q, n, h => by
    obtain ⟨z1, z2⟩ := textF_size L (k + 1) i d q n h
    rw [textF, if_neg (by omega)] at h
    have hd : L.drop i = L.getD i 0 :: L.drop (i + 1) := by rw [List.drop_eq_getElem_cons (by omega)]; simp [show i < L.length by omega]
    split at h
    · rename_i h1
      cases h
      refine ⟨h1.2, [], by simp, ?_⟩
      have hb : L.getD i 0 = 34 := by rw [← UInt8.toNat_inj]; exact h1.1
      rw [hd, hb, show i + 1 - i = 1 by omega]; rfl
    · rename_i h1
      split at h
      · rename_i h2
        split at h
        · cases h
        · rename_i h3
          obtain ⟨y1, y2⟩ := textF_size L k _ _ q n h
          obtain ⟨g1, r, g2, g3⟩ := textF_inv L k _ _ q n h
          have hb : L.getD i 0 = 92 := by rw [← UInt8.toNat_inj]; exact h2
          refine ⟨g1, UInt8.ofNat (escF (L.drop i)).1 :: r, by rw [g2]; simp, ?_⟩
          have hsplit : (L.drop i).take (n - i) = (L.drop i).take (escF (L.drop i)).2 ++ (L.drop (i + (escF (L.drop i)).2)).take (n - (i + (escF (L.drop i)).2)) := by
            rw [← List.drop_drop, show n - i = (escF (L.drop i)).2 + (n - (i + (escF (L.drop i)).2)) by omega, List.take_add]
          rw [hsplit, g3, List.flatMap_cons, List.append_assoc]
          congr 1
          -- the escape's own bytes
          have hx : ∀ j, j + i < L.length → L.drop (i + j) = L.getD (i + j) 0 :: L.drop (i + (j + 1)) := fun j hj => by
            rw [List.drop_eq_getElem_cons (show i + j < L.length by omega)]; simp [show i + j < L.length by omega, Nat.add_assoc]
          unfold escF at h3 y1 ⊢
          simp only [atL_drop] at h3 y1 ⊢
          split at h3
          · rename_i h4
            rw [if_pos h4] at y1 ⊢
            simp only at y1 ⊢
            rw [hd, hx 1 (by omega), hb]
            have hc : (UInt8.ofNat (atL L (i + 1))) = L.getD (i + 1) 0 := by unfold atL; simp
            rw [hc, esc1 h4]; rfl
          · rename_i h4
            split at h3
            · rename_i h5
              rw [if_neg h4, if_pos h5] at y1 ⊢
              simp only at y1 ⊢
              obtain ⟨b1, b2, b3, b4, b5⟩ := h5
              obtain ⟨u1, u2⟩ := hex_inv (L.getD (i + 2) 0) b3
              obtain ⟨v1, v2⟩ := hex_inv (L.getD (i + 3) 0) b4
              have u1' : hexN (atL L (i + 2)) < 16 := u1
              have v1' : hexN (atL L (i + 3)) < 16 := v1
              have hV : escV (atL L (i + 2)) (atL L (i + 3)) = 16 * (hexN (atL L (i + 2))).toNat + (hexN (atL L (i + 3))).toNat := by unfold escV; omega
              have hlt : escV (atL L (i + 2)) (atL L (i + 3)) < 256 := by rw [hV]; omega
              have hto : (UInt8.ofNat (escV (atL L (i + 2)) (atL L (i + 3)))).toNat = escV (atL L (i + 2)) (atL L (i + 3)) := UInt8.toNat_ofNat_of_lt' hlt
              rw [esc2 (by rw [hto]; omega) (by rw [hto]; exact b5), hto, hV,
                show (16 * (hexN (atL L (i + 2))).toNat + (hexN (atL L (i + 3))).toNat) / 16 = (hexN (atL L (i + 2))).toNat by omega,
                show (16 * (hexN (atL L (i + 2))).toNat + (hexN (atL L (i + 3))).toNat) % 16 = (hexN (atL L (i + 3))).toNat by omega]
              rw [hd, hx 1 (by omega), hx 2 (by omega), hx 3 (by omega), hb]
              have hb1 : L.getD (i + 1) 0 = 120 := by rw [← UInt8.toNat_inj]; exact b1
              have e2 : hexL.getD (hexN (atL L (i + 2))).toNat 0 = L.getD (i + 2) 0 := u2
              have e3 : hexL.getD (hexN (atL L (i + 3))).toNat 0 = L.getD (i + 3) 0 := v2
              rw [e2, e3, hb1]; rfl
            · exact absurd rfl h3
      · rename_i h2
        split at h
        · cases h
        · rename_i h3
          obtain ⟨y1, y2⟩ := textF_size L k _ _ q n h
          obtain ⟨g1, r, g2, g3⟩ := textF_inv L k _ _ q n h
          have hc : UInt8.ofNat (atL L i) = L.getD i 0 := by unfold atL; simp
          refine ⟨g1, L.getD i 0 :: r, by rw [g2, hc]; simp, ?_⟩
          have hee : esc (L.getD i 0) = [L.getD i 0] := esc3 (by have e : (L.getD i 0).toNat = atL L i := rfl; rw [e]; omega) (by have e : (L.getD i 0).toNat = atL L i := rfl; rw [e]; omega)
          rw [hd, show n - i = (n - (i + 1)) + 1 by omega, List.take_succ_cons, g3, List.flatMap_cons, hee]; rfl
theorem headD_text {s : List UInt8} {t : TokD} (h : headD s = .ok t) (hk : t.kind = 4) : t.text.length ≤ 256 ∧ s.take t.size = quoteB t.text ++ [34] := by
  unfold headD at h
  split at h
  · split at h <;> cases h
    cases hk
  · split at h
    · unfold numberD at h
      split at h
      · unfold realD at h
        split at h <;> cases h
        cases hk
      · split at h <;> cases h
        cases hk
    · split at h
      · rename_i h34
        unfold textD at h
        split at h
        · cases h
        · rename_i d n hq
          cases h
          obtain ⟨g1, r, g2, g3⟩ := textF_inv s _ _ _ _ _ hq
          obtain ⟨z1, z2⟩ := textF_size s _ _ _ _ _ hq
          rw [List.nil_append] at g2
          subst g2
          refine ⟨g1, ?_⟩
          show s.take n = quoteB d ++ [34]
          have hd : s = s.getD 0 0 :: s.drop 1 := by
            have := List.drop_eq_getElem_cons (l := s) (i := 0) (by omega)
            rw [List.drop_zero] at this
            rw [this]; simp
          have hb : s.getD 0 0 = 34 := by rw [← UInt8.toNat_inj]; exact h34
          rw [hb] at hd
          have he : s.take n = 34 :: (s.drop 1).take (n - 1) := by
            conv => lhs; rw [hd, show n = (n - 1) + 1 by omega, List.take_succ_cons]
          rw [he, g3]; rfl
      · split at h <;> cases h
        cases hk
end Go.Proofs.YtplnhipgifcafaaDoor
namespace Go.Proofs.YtplnhipgifcafaaDoor
set_option linter.all false
open Go Go.Ev Go.RowKit
variable {γ : List (Nat × AV)}
/-- Tokens that were handed back. -/
theorem got_get {l : List UInt8} {q : Told} (hq : Told2 l q) {k : Nat} (h : k < q.got.length) : l.length ≤ 32768 ∧ q.err = 0 ∧ q.got = q.toks ∧ Chain l 0 q.got l.length := by
  by_cases he : q.err = 0
  · have eg : q.got = q.toks := by unfold Told.got; rw [if_pos he]
    have hl : l.length ≤ 32768 := by
      by_cases hb : 32768 < l.length
      · have := (hq.big hb).1; rw [he] at this; cases this
      · omega
    exact ⟨hl, he, eg, by rw [eg]; exact (hq.ok hl he).2⟩
  · have eg : q.got = [] := by unfold Told.got; rw [if_neg he]
    rw [eg] at h; cases h
set_option maxHeartbeats 4000000 in
set_option maxRecDepth 20000 in
theorem lexQuotes_ev (hγ : Gl γ) (hγ2 : GlW γ) (s : List UInt8) (A : AV) (hA : treeA A = true) (b : Bool) (l : List UInt8) (hl : l.length ≤ 140737488351232) (hAl : A = .sl b l.length l.length (l.map byteC) ∨ l = [])
    (h11 : Ev Tryd.prog γ 11 [A] (.sl false l.length (l.length + 2) ((l ++ [201, 202]).map byteC))) : Ev Tryd.prog γ 7 [.v (.string ⟨s.toArray⟩), A] (.v (.bool true)) := by
  have k22 := quote_ev (γ := γ) s
  refine Ev.of Tryd.func7 rfl ?_
  by_cases hbig : 256 < s.length
  · have d1 : decide ((256 : Int) < (s.length : Int)) = true := decide_eq_true (by omega)
    have e3 : ((3 : Int) == 3) = true := by decide
    have es : quoteR s = .tup [.v (.string ⟨#[]⟩), .v (.int .i64 3)] := by unfold quoteR; rw [if_pos hbig]
    rw [es] at k22
    simp only [Tryd.f7, evS, tyS, Bool.not_true, Bool.not_false, Nat.reduceAdd, Nat.reduceSub, Nat.reduceMul, Nat.reduceLT, Nat.reduceLeDiff, Nat.reduceEqDiff, reduceCtorEq, List.reduceReplicate, Int.reduceToNat, Int.reduceLE, Int.reduceLT]
    refine CallK.intro b19 rfl (awake_ev hγ hγ2) ?_
    simp only [evS, tyS, Bool.not_true, Bool.not_false, Nat.reduceAdd, Nat.reduceSub, Nat.reduceMul, Nat.reduceLT, Nat.reduceLeDiff, Nat.reduceEqDiff, reduceCtorEq, List.reduceReplicate, Int.reduceToNat, Int.reduceLE, Int.reduceLT]
    refine CallK.intro b22 rfl k22 ?_
    simp only [d1, e3, evS, tyS, Bool.not_true, Bool.not_false, Nat.reduceAdd, Nat.reduceSub, Nat.reduceMul, Nat.reduceLT, Nat.reduceLeDiff, Nat.reduceEqDiff, reduceCtorEq, List.reduceReplicate, Int.reduceToNat, Int.reduceLE, Int.reduceLT]
    (repeat' (first | (with_reducible refine And.intro ?_ ?_) | ((first | refine GuardK.intro_f (fun h => ?_) (fun h => ?_) | refine GuardK.intro_t (fun h => ?_) (fun h => ?_) | refine CondK.intro (fun h => ?_) (fun h => ?_) | refine PickK.intro (fun h => ?_) (fun h => ?_)) <;> simp only [h, d1, e3, evS, tyS, Bool.not_true, Bool.not_false, Nat.reduceAdd, Nat.reduceSub, Nat.reduceMul, Nat.reduceLT, Nat.reduceLeDiff, Nat.reduceEqDiff, reduceCtorEq, List.reduceReplicate, Int.reduceToNat, Int.reduceLE, Int.reduceLT]) | (refine DrawK.intro (by kernel_rfl) (by kernel_rfl) ?_; simp only [d1, e3, evS, tyS, Bool.not_true, Bool.not_false, Nat.reduceAdd, Nat.reduceSub, Nat.reduceMul, Nat.reduceLT, Nat.reduceLeDiff, Nat.reduceEqDiff, reduceCtorEq, List.reduceReplicate, Int.reduceToNat, Int.reduceLE, Int.reduceLT])))
    all_goals first | done | rfl | trace_state
  · have d1 : decide ((256 : Int) < (s.length : Int)) = false := decide_eq_false (by omega)
    have z0 : ((0 : Int) != 0) = false := by decide
    have es : quoteR s = .tup [.v (.string ⟨(quoteB s ++ [34]).toArray⟩), .v (.int .i64 0)] := by unfold quoteR; rw [if_neg hbig]
    rw [es] at k22
    have hql := quoteB_len s
    have hqlen : (quoteB s ++ [34]).length ≤ 1026 := by simp only [List.length_append, List.length_cons, List.length_nil]; omega
    have k16q := lexScan_ev hγ hγ2 true (quoteB s ++ [34]) (by omega)
    rw [scan_ok (T := [(quoteT s, 0)]) (items_quote s (by omega))] at k16q
    have e1 : listA [(quoteT s, 0)] = .sl false 1 1 [.v (.int .i64 4), .v (.string ⟨s.toArray⟩), .v (.int .i64 0), .v (.float .f64 0), .v (.int .i64 0), .v (.int .i64 (quoteB s ++ [34]).length)] := rfl
    rw [e1] at k16q
    obtain ⟨q, hq⟩ := told2_ex l
    have hsc := scan_told hq.told
    have hgle := got_le hq.told
    have k16 := scan_lent (b := false) hγ hγ2 hl hsc
    have hgg := fun k (h : k < q.got.length) => got_get hq h
    generalize hQ : quoteB s ++ [34] = Q at *
    simp only [Tryd.f7, evS, tyS, Bool.not_true, Bool.not_false, Nat.reduceAdd, Nat.reduceSub, Nat.reduceMul, Nat.reduceLT, Nat.reduceLeDiff, Nat.reduceEqDiff, reduceCtorEq, List.reduceReplicate, Int.reduceToNat, Int.reduceLE, Int.reduceLT]
    refine CallK.intro b19 rfl (awake_ev hγ hγ2) ?_
    simp only [evS, tyS, Bool.not_true, Bool.not_false, Nat.reduceAdd, Nat.reduceSub, Nat.reduceMul, Nat.reduceLT, Nat.reduceLeDiff, Nat.reduceEqDiff, reduceCtorEq, List.reduceReplicate, Int.reduceToNat, Int.reduceLE, Int.reduceLT]
    refine CallK.intro b22 rfl k22 ?_
    simp only [d1, evS, tyS, Bool.not_true, Bool.not_false, Nat.reduceAdd, Nat.reduceSub, Nat.reduceMul, Nat.reduceLT, Nat.reduceLeDiff, Nat.reduceEqDiff, reduceCtorEq, List.reduceReplicate, Int.reduceToNat, Int.reduceLE, Int.reduceLT]
    (repeat' (first | (with_reducible refine And.intro ?_ ?_) | ((first | refine GuardK.intro_f (fun h => ?_) (fun h => ?_) | refine GuardK.intro_t (fun h => ?_) (fun h => ?_) | refine CondK.intro (fun h => ?_) (fun h => ?_) | refine PickK.intro (fun h => ?_) (fun h => ?_)) <;> simp only [h, d1, evS, tyS, Bool.not_true, Bool.not_false, Nat.reduceAdd, Nat.reduceSub, Nat.reduceMul, Nat.reduceLT, Nat.reduceLeDiff, Nat.reduceEqDiff, reduceCtorEq, List.reduceReplicate, Int.reduceToNat, Int.reduceLE, Int.reduceLT]) | (refine DrawK.intro (by kernel_rfl) (by kernel_rfl) ?_; simp only [d1, evS, tyS, Bool.not_true, Bool.not_false, Nat.reduceAdd, Nat.reduceSub, Nat.reduceMul, Nat.reduceLT, Nat.reduceLeDiff, Nat.reduceEqDiff, reduceCtorEq, List.reduceReplicate, Int.reduceToNat, Int.reduceLE, Int.reduceLT])))
    all_goals try (((try simp only [decide_eq_true_eq, decide_eq_false_iff_not, beq_iff_eq, bne_iff_ne, ne_eq, beq_eq_false_iff_ne, bne_eq_false_iff_eq] at *) <;> (try omega)); done)
    refine CallK.lend b16 [.sl true Q.length Q.length (Q.map byteC)] ?_ k16q rfl ?_
    · simp only [fzL_cons, fzL_nil, and_true]
      exact fz_lend rfl (Nat.le_refl _) c5 (.inl rfl) List.prefix_rfl
    have z1 : (((1 : Nat) : Int) != 1) = false := by decide
    have z4 : ((4 : Int) != 4) = false := by decide
    have zl : decide ((0 : Int) < ((1 : Nat) : Int)) = true := by decide
    simp only [z0, z1, z4, zl, bne_self, evS, tyS, Bool.not_true, Bool.not_false, Nat.reduceAdd, Nat.reduceSub, Nat.reduceMul, Nat.reduceLT, Nat.reduceLeDiff, Nat.reduceEqDiff, reduceCtorEq, List.reduceReplicate, Int.reduceToNat, Int.reduceLE, Int.reduceLT]
    (repeat' (first | (with_reducible refine And.intro ?_ ?_) | ((first | refine GuardK.intro_f (fun h => ?_) (fun h => ?_) | refine GuardK.intro_t (fun h => ?_) (fun h => ?_) | refine CondK.intro (fun h => ?_) (fun h => ?_) | refine PickK.intro (fun h => ?_) (fun h => ?_)) <;> simp only [h, z0, z1, z4, zl, bne_self, evS, tyS, Bool.not_true, Bool.not_false, Nat.reduceAdd, Nat.reduceSub, Nat.reduceMul, Nat.reduceLT, Nat.reduceLeDiff, Nat.reduceEqDiff, reduceCtorEq, List.reduceReplicate, Int.reduceToNat, Int.reduceLE, Int.reduceLT]) | (refine DrawK.intro (by kernel_rfl) (by kernel_rfl) ?_; simp only [z0, z1, z4, zl, bne_self, evS, tyS, Bool.not_true, Bool.not_false, Nat.reduceAdd, Nat.reduceSub, Nat.reduceMul, Nat.reduceLT, Nat.reduceLeDiff, Nat.reduceEqDiff, reduceCtorEq, List.reduceReplicate, Int.reduceToNat, Int.reduceLE, Int.reduceLT])))
    all_goals try (first | omega | decide)
    refine CallK.intro b11 (by simp [treeL, hA]) h11 ?_
    simp only [evS, tyS, Bool.not_true, Bool.not_false, Nat.reduceAdd, Nat.reduceSub, Nat.reduceMul, Nat.reduceLT, Nat.reduceLeDiff, Nat.reduceEqDiff, reduceCtorEq, List.reduceReplicate, Int.reduceToNat, Int.reduceLE, Int.reduceLT]
    refine CallK.intro b16 (by simp [treeL, treeA]) k16 ?_
    generalize hTg : q.got = T at *
    generalize hE : q.err = err at *
    clear k16 k16q hsc
    simp only [evS, tyS, Bool.not_true, Bool.not_false, Nat.reduceAdd, Nat.reduceSub, Nat.reduceMul, Nat.reduceLT, Nat.reduceLeDiff, Nat.reduceEqDiff, reduceCtorEq, List.reduceReplicate, Int.reduceToNat, Int.reduceLE, Int.reduceLT]
    refine LoopK.intro (fun k : Nat => ⟨⟨121, [(13, .v (.int .i64 k)), (1, A), (10, listA T), (12, .v (.int .i64 err))], γ⟩, []⟩) (fun k => k ≤ T.length) (fun k => T.length - k) 0 ?_ (Nat.zero_le _) (fun k hk => ?_)
    · have hAr : okRef 0 A = true := okRef_tree A hA
      refine ⟨rfl, rfl, ?_, .inr ⟨rfl, ?_, ?_⟩⟩
      · simp only [evS, tyS, Bool.not_true, Bool.not_false, Nat.reduceAdd, Nat.reduceSub, Nat.reduceMul, Nat.reduceLT, Nat.reduceLeDiff, Nat.reduceEqDiff, reduceCtorEq, List.reduceReplicate, Int.reduceToNat, Int.reduceLE, Int.reduceLT]
        (repeat' (first | (with_reducible refine And.intro ?_ ?_) | ((first | refine GuardK.intro_f (fun h => ?_) (fun h => ?_) | refine GuardK.intro_t (fun h => ?_) (fun h => ?_) | refine CondK.intro (fun h => ?_) (fun h => ?_) | refine PickK.intro (fun h => ?_) (fun h => ?_)) <;> simp only [h, evS, tyS, Bool.not_true, Bool.not_false, Nat.reduceAdd, Nat.reduceSub, Nat.reduceMul, Nat.reduceLT, Nat.reduceLeDiff, Nat.reduceEqDiff, reduceCtorEq, List.reduceReplicate, Int.reduceToNat, Int.reduceLE, Int.reduceLT]) | (refine DrawK.intro (by kernel_rfl) (by kernel_rfl) ?_; simp only [evS, tyS, Bool.not_true, Bool.not_false, Nat.reduceAdd, Nat.reduceSub, Nat.reduceMul, Nat.reduceLT, Nat.reduceLeDiff, Nat.reduceEqDiff, reduceCtorEq, List.reduceReplicate, Int.reduceToNat, Int.reduceLE, Int.reduceLT])))
        all_goals first | done | rfl
      · simp [okRefL, okRef, hAr, okRef_list]
      · rfl
    · have ew : IntKind.i64.wrap ((k : Int) + 1) = ((k + 1 : Nat) : Int) := i64w (by omega) (by omega)
      by_cases hkl : k < T.length
      · have dk : decide (k < T.length) = true := decide_eq_true hkl
        obtain ⟨hl3, he0, _, hT⟩ := hgg k hkl
        obtain ⟨f1, f2, f3, f4, f5⟩ := chain_get T 0 l.length k hkl hT
        have hat := listCells_at T k hkl
        have hlen := listCells_len T
        have eL : listA T = .sl false T.length T.length (listCells T) := by
          cases T with
          | nil => cases hkl
          | cons y T => rfl
        obtain ⟨s1, s2⟩ := head_size f3 f4
        have hA2 : A = .sl b l.length l.length (l.map byteC) := by
          rcases hAl with h | h
          · exact h
          · rw [h] at f3; simp at f3
        have ez : (err == 0) = true := by rw [he0]; rfl
        rw [eL, hA2]
        generalize T[k]'hkl = x at *
        obtain ⟨t, p⟩ := x
        simp only at f3 f4 f5 s1 s2
        have hx6 : tokCells (t, p) = (tvals t p).map AV.v := rfl
        have hdl : 6 ≤ (List.drop (k * 6) (listCells T)).length := by rw [List.length_drop, hlen]; omega
        have ep : IntKind.i64.wrap ((p : Int) + (t.size : Int)) = ((p + t.size : Nat) : Int) := i64w (by omega) (by omega)
        by_cases hk4 : t.kind = 4
        · have z44 : (t.kind != 4) = false := by rw [hk4]; rfl
          obtain ⟨x1, x2⟩ := headD_text f4 hk4
          have k22t := quote_ev (γ := γ) t.text
          have est : quoteR t.text = .tup [.v (.string ⟨(quoteB t.text ++ [34]).toArray⟩), .v (.int .i64 0)] := by unfold quoteR; rw [if_neg (by omega)]
          rw [est] at k22t
          have hstr : strOf (List.take (p + t.size - p) (List.drop p (l.map byteC))) = some (.v (.string ⟨(quoteB t.text ++ [34]).toArray⟩)) := by
            rw [show p + t.size - p = t.size by omega, map_cut, x2, strOf_map]
          generalize quoteB t.text ++ [34] = Qt at k22t hstr
          simp only [dk, ez, hlen, hat, hx6, tvals, hdl, z44, evS, tyS, Bool.not_true, Bool.not_false, Nat.reduceAdd, Nat.reduceSub, Nat.reduceMul, Nat.reduceLT, Nat.reduceLeDiff, Nat.reduceEqDiff, reduceCtorEq, List.reduceReplicate, Int.reduceToNat, Int.reduceLE, Int.reduceLT]
          (repeat' (first | (with_reducible refine And.intro ?_ ?_) | ((first | refine GuardK.intro_f (fun h => ?_) (fun h => ?_) | refine GuardK.intro_t (fun h => ?_) (fun h => ?_) | refine CondK.intro (fun h => ?_) (fun h => ?_) | refine PickK.intro (fun h => ?_) (fun h => ?_)) <;> simp only [h, dk, ez, hlen, hat, hx6, tvals, hdl, z44, evS, tyS, Bool.not_true, Bool.not_false, Nat.reduceAdd, Nat.reduceSub, Nat.reduceMul, Nat.reduceLT, Nat.reduceLeDiff, Nat.reduceEqDiff, reduceCtorEq, List.reduceReplicate, Int.reduceToNat, Int.reduceLE, Int.reduceLT]) | (refine DrawK.intro (by kernel_rfl) (by kernel_rfl) ?_; simp only [dk, ez, hlen, hat, hx6, tvals, hdl, z44, evS, tyS, Bool.not_true, Bool.not_false, Nat.reduceAdd, Nat.reduceSub, Nat.reduceMul, Nat.reduceLT, Nat.reduceLeDiff, Nat.reduceEqDiff, reduceCtorEq, List.reduceReplicate, Int.reduceToNat, Int.reduceLE, Int.reduceLT])))
          all_goals try omega
          refine CallK.intro b22 rfl k22t ?_
          simp only [ep, z0, hstr, evS, tyS, Bool.not_true, Bool.not_false, Nat.reduceAdd, Nat.reduceSub, Nat.reduceMul, Nat.reduceLT, Nat.reduceLeDiff, Nat.reduceEqDiff, reduceCtorEq, List.reduceReplicate, Int.reduceToNat, Int.reduceLE, Int.reduceLT]
          (repeat' (first | (with_reducible refine And.intro ?_ ?_) | ((first | refine GuardK.intro_f (fun h => ?_) (fun h => ?_) | refine GuardK.intro_t (fun h => ?_) (fun h => ?_) | refine CondK.intro (fun h => ?_) (fun h => ?_) | refine PickK.intro (fun h => ?_) (fun h => ?_)) <;> simp only [h, ep, z0, hstr, evS, tyS, Bool.not_true, Bool.not_false, Nat.reduceAdd, Nat.reduceSub, Nat.reduceMul, Nat.reduceLT, Nat.reduceLeDiff, Nat.reduceEqDiff, reduceCtorEq, List.reduceReplicate, Int.reduceToNat, Int.reduceLE, Int.reduceLT]) | (refine DrawK.intro (by kernel_rfl) (by kernel_rfl) ?_; simp only [ep, z0, hstr, evS, tyS, Bool.not_true, Bool.not_false, Nat.reduceAdd, Nat.reduceSub, Nat.reduceMul, Nat.reduceLT, Nat.reduceLeDiff, Nat.reduceEqDiff, reduceCtorEq, List.reduceReplicate, Int.reduceToNat, Int.reduceLE, Int.reduceLT])))
          all_goals try omega
          · rw [List.length_drop, List.length_map]; omega
          rw [ew]
          refine loopC.intro (k + 1) (by omega) ?_ (by omega)
          refine ⟨rfl, rfl, ?_, .inr ⟨rfl, ?_, ?_⟩⟩
          · simp only [evS, tyS, Bool.not_true, Bool.not_false, Nat.reduceAdd, Nat.reduceSub, Nat.reduceMul, Nat.reduceLT, Nat.reduceLeDiff, Nat.reduceEqDiff, reduceCtorEq, List.reduceReplicate, Int.reduceToNat, Int.reduceLE, Int.reduceLT]
          · simp [okRefL, okRef]
          · rfl
        · have z44 : (t.kind != 4) = true := by simpa using hk4
          simp only [dk, ez, hlen, hat, hx6, tvals, hdl, z44, ew, evS, tyS, Bool.not_true, Bool.not_false, Nat.reduceAdd, Nat.reduceSub, Nat.reduceMul, Nat.reduceLT, Nat.reduceLeDiff, Nat.reduceEqDiff, reduceCtorEq, List.reduceReplicate, Int.reduceToNat, Int.reduceLE, Int.reduceLT]
          (repeat' (first | (with_reducible refine And.intro ?_ ?_) | ((first | refine GuardK.intro_f (fun h => ?_) (fun h => ?_) | refine GuardK.intro_t (fun h => ?_) (fun h => ?_) | refine CondK.intro (fun h => ?_) (fun h => ?_) | refine PickK.intro (fun h => ?_) (fun h => ?_)) <;> simp only [h, dk, ez, hlen, hat, hx6, tvals, hdl, z44, ew, evS, tyS, Bool.not_true, Bool.not_false, Nat.reduceAdd, Nat.reduceSub, Nat.reduceMul, Nat.reduceLT, Nat.reduceLeDiff, Nat.reduceEqDiff, reduceCtorEq, List.reduceReplicate, Int.reduceToNat, Int.reduceLE, Int.reduceLT]) | (refine DrawK.intro (by kernel_rfl) (by kernel_rfl) ?_; simp only [dk, ez, hlen, hat, hx6, tvals, hdl, z44, ew, evS, tyS, Bool.not_true, Bool.not_false, Nat.reduceAdd, Nat.reduceSub, Nat.reduceMul, Nat.reduceLT, Nat.reduceLeDiff, Nat.reduceEqDiff, reduceCtorEq, List.reduceReplicate, Int.reduceToNat, Int.reduceLE, Int.reduceLT])))
          all_goals try omega
          refine loopC.intro (k + 1) (by omega) ?_ (by omega)
          refine ⟨rfl, rfl, ?_, .inr ⟨rfl, ?_, ?_⟩⟩
          · simp only [evS, tyS, Bool.not_true, Bool.not_false, Nat.reduceAdd, Nat.reduceSub, Nat.reduceMul, Nat.reduceLT, Nat.reduceLeDiff, Nat.reduceEqDiff, reduceCtorEq, List.reduceReplicate, Int.reduceToNat, Int.reduceLE, Int.reduceLT]
          · simp [okRefL, okRef]
          · rfl
      · have hk2 : k = T.length := by omega
        subst hk2
        have dk : decide (T.length < T.length) = false := decide_eq_false (by omega)
        simp only [lenS_list37, dk, evS, tyS, Bool.not_true, Bool.not_false, Nat.reduceAdd, Nat.reduceSub, Nat.reduceMul, Nat.reduceLT, Nat.reduceLeDiff, Nat.reduceEqDiff, reduceCtorEq, List.reduceReplicate, Int.reduceToNat, Int.reduceLE, Int.reduceLT]
        (repeat' (first | (with_reducible refine And.intro ?_ ?_) | ((first | refine GuardK.intro_f (fun h => ?_) (fun h => ?_) | refine GuardK.intro_t (fun h => ?_) (fun h => ?_) | refine CondK.intro (fun h => ?_) (fun h => ?_) | refine PickK.intro (fun h => ?_) (fun h => ?_)) <;> simp only [h, lenS_list37, dk, evS, tyS, Bool.not_true, Bool.not_false, Nat.reduceAdd, Nat.reduceSub, Nat.reduceMul, Nat.reduceLT, Nat.reduceLeDiff, Nat.reduceEqDiff, reduceCtorEq, List.reduceReplicate, Int.reduceToNat, Int.reduceLE, Int.reduceLT]) | (refine DrawK.intro (by kernel_rfl) (by kernel_rfl) ?_; simp only [lenS_list37, dk, evS, tyS, Bool.not_true, Bool.not_false, Nat.reduceAdd, Nat.reduceSub, Nat.reduceMul, Nat.reduceLT, Nat.reduceLeDiff, Nat.reduceEqDiff, reduceCtorEq, List.reduceReplicate, Int.reduceToNat, Int.reduceLE, Int.reduceLT])))
        all_goals first | done | rfl | trace_state
end Go.Proofs.YtplnhipgifcafaaDoor
/- LexQuotes: for every string and every text the law answers true, and the text reads afterwards as it did: her row, and the card over it. -/
namespace Go.Proofs.YtplnhipgifcafaaDoor
set_option linter.all false
open Go Go.Ev Go.Lib
open Go.ChangeShapes Go.WideShapes Go.ChangeAt Go.RowKit
open Go.ChangeMaps (open_string shut_string)
namespace lexQuotes
set_option maxRecDepth 100000 in
theorem contract (H : Type) (enc : TypeId × Value → H) (W : World) (base : Nat) (args : Array Value) (ds gs : List (DataW H)) (before : List MemPlace)
    (hval : ∀ (j : Nat) t v, Tryd.f7.params[j]? = some t → args[j]? = some v → Value.okWide Tryd.prog W .any base t v)
    (hW : DataW.Whole enc Tryd.prog Tryd.f7.params.toList Rows.lexQuotesSpec.vars false W args.toList ds gs before)
    (hsz : (DataW.weightsEach Tryd.prog (Tryd.f7.params.toList ++ Rows.lexQuotesSpec.plain.varTypes Tryd.prog) (ds ++ gs)).all (· ≤ reachBytes) = true)
    (hL : laidMet Tryd.prog laidL W) (hS : W.ShapedOpen Tryd.prog) :
    Calls Tryd.prog 7 args W fun e W' => ∃ v, e = .returned v ∧ Rows.lexQuotesSpec.post enc Tryd.prog Tryd.f7 false true false false W args v W' := by
  have hW' := hW
  obtain ⟨p, q, hA0, hV, rfl, hfz, hnd⟩ := hW
  have hA : DataW.TrodAll enc Tryd.prog W 0 (fun _ => true) true Tryd.f7.params.toList args.toList ds p := hA0
  rw [Tryd.params7] at hA hval hsz
  obtain ⟨v0, vs0, d0, ds0, p0, q0, hargs, rfl, rfl, h0, r0⟩ := trodAll_cons hA
  obtain ⟨v1, vs1, d1, ds1, p1, q1, rfl, rfl, rfl, h1, r1⟩ := trodAll_cons r0
  obtain ⟨rfl, rfl, rfl⟩ := trodAll_nil r1
  obtain rfl : args = #[v0, v1] := by cases args; simp_all
  obtain ⟨rfl, rfl⟩ := trodVars_none hV
  have hs0 := okWide_sl Tryd.underlying22 (hval 1 22 v1 rfl rfl)
  obtain ⟨a0, len0, cap0, hv0⟩ := okWide_slice Tryd.underlying22 (hval 1 22 v1 rfl rfl)
  have k0 := h1
  have lt0 : ∀ x ∈ p1, x.block < W.heap.size := by obtain ⟨m, hm⟩ := k0; exact DataW.trod_lt m _ _ _ hm
  have y0 : len0 * 1 ≤ 140737488351232 := by
    rw [hv0] at h1
    exact size_ints hsz (j := 1) (t := 22) rfl rfl Tryd.underlying22 Tryd.underlying5 (by kernel_rfl) (by kernel_rfl) h1
  let c : Cx := cx0 Tryd.prog (fun _ => False) (fun _ => False) W
  have hrow : ∃ l : List UInt8, l.length = len0 ∧ ((v1 = .slice none 0 0 ∧ l = [] ∧ rel (.v (.slice none 0 0)) c v1) ∨ rel (.sl false l.length l.length (l.map byteC)) c v1) := by
    have h0' := h1
    rw [hv0] at h0'
    obtain ⟨fuel, hf⟩ := h0'
    rcases open_ints Tryd.underlying22 Tryd.underlying5 (by kernel_rfl) hf with ⟨hcs, _⟩ | ⟨x, l, cp, zs, hcs, _, hl, hm, hz, _, hcell, hwz⟩
    · simp [Value.cells] at hcs
      obtain ⟨rfl, rfl, rfl⟩ := hcs
      exact ⟨[], rfl, .inl ⟨hv0, rfl, by simp only [rel]; exact hv0⟩⟩
    · simp [Value.cells] at hcs
      obtain ⟨rfl, rfl, rfl⟩ := hcs
      exact rowAV (c := c) rfl (fun r hr => ⟨hr, by simp⟩) hv0 hs0 (by simpa using hz) (fun y hy => by cases hy; exact hcell) hwz
  obtain ⟨a2, rfl, rfl, rfl, y2⟩ := open_string Tryd.underlying9 (hval 0 9 v0 rfl rfl) h0
  clear hA0 hsz
  obtain ⟨l, hl, hrow⟩ := hrow
  have hl' : l.length ≤ 140737488351232 := by omega
  obtain ⟨m, hm⟩ := maxLen_cell hS
  obtain ⟨te, pe, hpe⟩ := errRange_cell hL
  have e2 : (⟨a2.data.toList.toArray⟩ : ByteArray) = a2 := by simp
  have hcalls : Calls Tryd.prog 7 #[.string a2, v1] W fun e w' => ∃ u, e = .returned u ∧ rel (.v (.bool true)) (cx0 Tryd.prog (fun _ => False) (fun _ => False) w') u ∧ Below W.heap.size W w' := by
    rcases hrow with ⟨rfl, rfl, hr⟩ | hr
    · refine calls_of_ev (lexQuotes_ev (gam_gl m te pe) (gam_glw m te pe) a2.data.toList (.v (.slice none 0 0)) rfl false [] (by simp) (.inr rfl) lent_nil) hm hpe ?_
      simp only [relL, rel]
      exact ⟨_, _, rfl, by rw [e2], _, _, rfl, rfl, rfl⟩
    · refine calls_of_ev (lexQuotes_ev (gam_gl m te pe) (gam_glw m te pe) a2.data.toList (.sl false l.length l.length (l.map byteC)) rfl false l hl' (.inl rfl) (lent_ev false l hl')) hm hpe ?_
      simp only [relL]
      exact ⟨_, _, rfl, by simp only [rel, e2], _, _, rfl, hr, rfl⟩
  refine hcalls.mono fun e W' ⟨u, he, hu, bel⟩ => ?_
  simp only [rel] at hu
  subst he
  subst hu
  exact ⟨_, rfl, _, _, _, [], _, [], hW', trodAll_mk1 (shut_bool Tryd.underlying4 _), (trodAll_cons_mk (shut_string Tryd.underlying9 y2) (trodAll_cons_mk (Below.trod laidOut (by kernel_rfl) (of_decide_eq_true (by kernel_rfl)) k0 bel lt0) trodAll_mk0)), rfl, bel.frame _, fun h => by cases h⟩
theorem witness_row (os : Os) {H : Type} (enc : TypeId × Value → H) : (OpenSpec.ofChange Rows.lexQuotesSpec).preRow enc Tryd.prog Tryd.f7 Rows.lexQuotesRow.domain false Rows.lexQuotesRow.laid ((laidWorld os).forCall (fun _ _ => 0) ⟨#[], #[.string ByteArray.empty, .slice none 0 0], []⟩).memory #[.string ByteArray.empty, .slice none 0 0] := by
  have hw : ((DataW.whole enc Tryd.prog ((laidWorld os).forCall (fun _ _ => 0) ⟨#[], #[.string ByteArray.empty, .slice none 0 0], []⟩).memory Tryd.f7.params.toList Rows.lexQuotesSpec.vars false #[Value.string ByteArray.empty, .slice none 0 0].toList 8).map (fun x => (x.1, x.2.1))).isSome = true := by kernel_rfl
  obtain ⟨x, hx⟩ := Option.isSome_iff_exists.1 hw
  obtain ⟨⟨x1, x2, x3⟩, hx', hx1⟩ := Option.map_eq_some_iff.1 hx
  exact OpenSpec.preRow_of_cond 8 hx' (by kernel_rfl) (fun k hk => by cases hk) (by kernel_rfl) (laid_met os _)
set_option maxRecDepth 100000 in
theorem lifted (os : Os) (started : os.Started) (H : Type) (enc : TypeId × Value → H) (F : Stop.Interp) :
    ReturnsInHanded {} Tryd.checked os 7 .any ((OpenSpec.ofChange Rows.lexQuotesSpec).preRow enc Tryd.prog Tryd.f7 Rows.lexQuotesRow.domain false Rows.lexQuotesRow.laid) (((OpenSpec.ofChange Rows.lexQuotesSpec).at F).post enc Tryd.prog Tryd.f7 false true false false) := by
  refine returnsInHanded_of_row (C := Tryd.checked) (s := OpenSpec.ofChange Rows.lexQuotesSpec) own started (by kernel_rfl) Tryd.func7
    (witness_row_atRef (enc := enc) (C := Tryd.checked) false (laidWorld os) #[.string ByteArray.empty, .slice none 0 0] rfl (by kernel_rfl) (by kernel_rfl) (by kernel_rfl) (witness_row os enc)) ?_
  intro W base args ds gs before hval hW _ _ hsz hL hS _
  exact contract H enc W base args ds gs before hval hW hsz hL hS
theorem said : Rows.LexQuotesSaid :=
  OpenClaim.holds_of_cond 7 Tryd.f7 rfl rfl rfl rfl rfl rfl rfl ⟨rfl, rfl, rfl, rfl, rfl⟩ rfl rfl rfl rfl rfl (by kernel_rfl) Tryd.func7 (by kernel_rfl)
    (of_decide_eq_true (by kernel_rfl)) (by unfold Func.isWrapper; first | (rw [if_pos (by decide +kernel)]; kernel_rfl) | (rw [if_neg (by decide +kernel)]; exact ⟨rfl, rfl⟩))
    (fun os started H enc _ F => by rw [OpenClaim.pre_eq_preRow]; exact lifted os started H enc F)
/-- No parameter wants a stand-in; the program's own looks are off: what the card asks. -/
theorem plain (f : FuncId) (fn : Func) (hf : Tryd.pinned.checked.prog.funcNamed "chordmail/chordmaillaw01.LexQuotes" = some f) (hfn : Tryd.pinned.checked.prog.funcs[f]? = some fn) :
    true = Tryd.pinned.checked.prog.looks [] ∧ ∀ (j : Nat) t, fn.params[j]? = some t → Tryd.pinned.checked.prog.wantsStandIn t = false := by
  obtain rfl : f = 7 := Option.some.inj ((show Tryd.prog.funcNamed "chordmail/chordmaillaw01.LexQuotes" = some 7 by kernel_rfl).symm.trans hf) |>.symm
  obtain rfl : fn = Tryd.f7 := (Option.some.inj (Tryd.func7.symm.trans hfn)).symm
  refine ⟨by kernel_rfl, fun j t ht => ?_⟩
  rw [Tryd.params7] at ht
  have hm : t = 9 ∨ t = 22 := by simpa using Array.mem_of_getElem? ht
  rcases hm with rfl | rfl
  · exact (show Tryd.prog.wantsStandIn 9 = false by kernel_rfl)
  · exact (show Tryd.prog.wantsStandIn 22 = false by kernel_rfl)
end lexQuotes
theorem lexQuotes_holds : Rows.LexQuotesCardSaid :=
  Claim7.holds_tied_plain_at .later [] _ _ _ _ lexQuotes.said (fun _ h => by cases h) (by kernel_rfl) (fun _ h => by cases h) lexQuotes_row_tie rfl ⟨rfl, rfl⟩ (by kernel_rfl) rfl lexQuotes.plain (by kernel_rfl)
#print axioms lexQuotes_holds
end Go.Proofs.YtplnhipgifcafaaDoor
