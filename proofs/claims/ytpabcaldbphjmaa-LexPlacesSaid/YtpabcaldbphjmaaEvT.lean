/- Drawn regions, the end; and the code layer as a whole. -/
import Derived.Test.YtpabcaldbphjmaaEvS
namespace Go.Ev
set_option linter.all false
open Go Go.RowKit
set_option linter.unusedVariables false
set_option linter.unusedSimpArgs false

theorem putS_n (s : Slots) (d : Option Tmp) (x : AV) : (putS s d x).n = s.n := by
  unfold putS
  split <;> try rfl
  split <;> rfl
def closedL (ops : Array Oper) (L : Nat → Bool) : Prop := ∀ (i : Nat) (o : Oper), ops[i]? = some o → L i = true → ∀ e ∈ o.after.toList, bindsE e = true → L e.on = true
theorem ancOk_at {ops : Array Oper} {tbl : List (List Nat)} (h : ancOk ops tbl = true) {i : Nat} {o : Oper} (ho : ops[i]? = some o) :
    (∀ e ∈ o.after.toList, bindsE e = true → e.on < i) ∧ ∀ j ∈ tbl.getD i [], ∃ e ∈ o.after.toList, bindsE e = true ∧ (e.on = j ∨ j ∈ tbl.getD e.on []) := by
  have hi : i < ops.size := (Array.getElem?_eq_some_iff.1 ho).1
  simp only [ancOk, List.all_eq_true] at h
  have := h i (List.mem_range.2 hi)
  rw [ho] at this
  simp only [Bool.and_eq_true, List.all_eq_true, List.any_eq_true, Bool.or_eq_true, Bool.not_eq_true', decide_eq_true_eq, beq_iff_eq, List.contains_iff_mem] at this
  refine ⟨fun e he hb => ?_, this.2⟩
  rcases this.1 e he with h | h
  · rw [hb] at h; cases h
  · exact h
theorem anc_done {ops : Array Oper} {tbl : List (List Nat)} (h : ancOk ops tbl = true) {L : Nat → Bool} (hc : closedL ops L) : ∀ (n i : Nat) (o : Oper), i < n → ops[i]? = some o →
    (∀ e ∈ o.after.toList, bindsE e = true → L e.on = true) → ∀ j ∈ tbl.getD i [], L j = true
  | 0, i, o, hi, _, _, _, _ => by omega
  | n + 1, i, o, hi, ho, he, j, hj => by
    obtain ⟨h1, h2⟩ := ancOk_at h ho
    obtain ⟨e, hm, hb, hd⟩ := h2 j hj
    rcases hd with rfl | hd
    · exact he e hm hb
    · have hlt := h1 e hm hb
      have hi' : i < ops.size := (Array.getElem?_eq_some_iff.1 ho).1
      have ho' : ops[e.on]? = some (ops[e.on]'(by omega)) := by simp [show e.on < ops.size by omega]
      exact anc_done h hc n e.on _ (by omega) ho' (hc _ _ ho' (he e hm hb)) j hd
theorem drawOk_at {P : Program} {ops : Array Oper} {tbl : List (List Nat)} (h : drawOkT P ops tbl = true) {i j : Nat} {x y : Oper} (hij : i < j) (hx : ops[i]? = some x) (hy : ops[j]? = some y) (hc : clashO P ops x y = true) : i ∈ tbl.getD j [] := by
  have hj : j < ops.size := (Array.getElem?_eq_some_iff.1 hy).1
  simp only [drawOkT, Bool.and_eq_true, List.all_eq_true] at h
  have := h.2 j (List.mem_range.2 hj) i (List.mem_range.2 hij)
  rw [hx, hy] at this
  simp only [Bool.or_eq_true, Bool.not_eq_true', List.contains_iff_mem] at this
  rcases this with h | h
  · rw [hc] at h; cases h
  · exact h
theorem SR.same {X : Fix} {φ : List Nat} {s s' : St} {a : Act} {w : World} (hs : SR X φ s a w) (hn : s.s.n = s'.s.n) (hl : ∀ t, look s.s.l t = look s'.s.l t) (hh : s.h = s'.h) : SR X φ s' a w := by
  obtain ⟨⟨n, l⟩, h⟩ := s
  obtain ⟨⟨n', l'⟩, h'⟩ := s'
  simp only at hn hl hh
  subst hn; subst hh
  exact { hs with slots := fun t => by have := hs.slots t; simp only at this ⊢; rw [← hl t]; exact this }
theorem clash_w {P : Program} {ops : Array Oper} {x y : Oper} {t : Tmp} (h1 : x.dst = some t) (h2 : t ∈ y.looksAt ops ∨ y.dst = some t) : clashO P ops x y = true := by
  simp only [clashO, h1, Bool.or_eq_true, List.contains_iff_mem, beq_iff_eq]
  exact .inl (.inl (.inl h2))
theorem clash_r {P : Program} {ops : Array Oper} {x y : Oper} {t : Tmp} (h1 : y.dst = some t) (h2 : t ∈ x.looksAt ops) : clashO P ops x y = true := by
  simp only [clashO, h1, Bool.or_eq_true, List.contains_iff_mem]
  exact .inl (.inl (.inr h2))
theorem clash_hw {P : Program} {ops : Array Oper} {x y : Oper} (h1 : wrO P x.op = true) (h2 : rwO P y.op = true) : clashO P ops x y = true := by
  simp only [clashO, h1, h2, Bool.or_eq_true, Bool.and_self]
  exact .inl (.inr trivial)
theorem clash_hr {P : Program} {ops : Array Oper} {x y : Oper} (h1 : rwO P x.op = true) (h2 : wrO P y.op = true) : clashO P ops x y = true := by
  simp only [clashO, h1, h2, Bool.or_eq_true, Bool.and_self]
  exact .inr trivial
def todo (n : Nat) (L : Nat → Bool) : Nat := ((List.range n).filter fun i => !L i).length
theorem draw_any {X : Fix} {P : Program} (hP : X.P = P) {ops : Array Oper} {st : St} {S : Nat → St} {r : Nat → AV} (R : Run P ops st S r) {tbl : List (List Nat)} (hok : drawOkT P ops tbl = true) {Q : Exit → Act → World → Prop} {K : St → Prop}
    (hQ : ∀ a w, Nx X K a w → Q .normal a w) (hK : K (S ops.size)) : ∀ (fuel : Nat) (listed : Array Bool) (a : Act) (w : World) (φ : List Nat), listed.size = ops.size → closedL ops (fun i => listed.getD i false) → todo ops.size (fun i => listed.getD i false) ≤ fuel →
    SR X φ ⟨⟨st.s.n, lU ops st r (fun i => listed.getD i false) ops.size⟩, hU P ops st S (fun i => listed.getD i false) ops.size⟩ a w → wpAny P .any ops Q fuel listed a w := by
  have hanc : ancOk ops tbl = true := by simp only [drawOkT, Bool.and_eq_true] at hok; exact hok.1
  have hready : ∀ (listed : Array Bool), listed.size = ops.size → ∀ i, i ∈ Region.ready .any ops listed ↔ ∃ o, ops[i]? = some o ∧ listed.getD i false = false ∧ ∀ e ∈ o.after.toList, bindsE e = true → listed.getD e.on false = true := by
    intro listed hsz i
    simp only [Region.ready, List.mem_filter, List.mem_range, Bool.and_eq_true, Bool.not_eq_true']
    constructor
    · rintro ⟨h1, h2, h3⟩
      have ho : ops[i]? = some ops[i] := by simp [h1]
      rw [ho] at h3
      simp only [Option.map_some, Option.getD_some, Array.all_eq_true_iff_forall_mem, Bool.or_eq_true, Bool.not_eq_true'] at h3
      refine ⟨_, ho, ?_, fun e he hb => ?_⟩
      · simpa [Array.getD, hsz, h1] using h2
      · rcases h3 e (by simpa using he) with h | h
        · unfold bindsE at hb; rw [hb] at h; cases h
        · exact h
    · rintro ⟨o, ho, h2, h3⟩
      have h1 : i < ops.size := (Array.getElem?_eq_some_iff.1 ho).1
      refine ⟨h1, ?_, ?_⟩
      · simpa [Array.getD, hsz, h1] using h2
      · rw [ho]
        simp only [Option.map_some, Option.getD_some, Array.all_eq_true_iff_forall_mem, Bool.or_eq_true, Bool.not_eq_true']
        intro e he
        cases hb : bindsE e with
        | true => exact .inr (h3 e (by simpa using he) hb)
        | false => exact .inl hb
  have hall : ∀ (listed : Array Bool), listed.size = ops.size → Region.ready .any ops listed = [] → ∀ n i, i < n → i < ops.size → listed.getD i false = true := by
    intro listed hsz hr n
    induction n with
    | zero => intro i hi; omega
    | succ n ih =>
      intro i hi hi'
      cases hl : listed.getD i false with
      | true => rfl
      | false =>
        exfalso
        have ho : ops[i]? = some ops[i] := by simp [hi']
        have : i ∈ Region.ready .any ops listed := (hready listed hsz i).2 ⟨_, ho, hl, fun e he hb => by
          have := (ancOk_at hanc ho).1 e he hb
          exact ih e.on (by omega) (by omega)⟩
        rw [hr] at this
        cases this
  have hend : ∀ (listed : Array Bool) (a : Act) (w : World) (φ : List Nat), listed.size = ops.size → SR X φ ⟨⟨st.s.n, lU ops st r (fun i => listed.getD i false) ops.size⟩, hU P ops st S (fun i => listed.getD i false) ops.size⟩ a w → Region.ready .any ops listed = [] → Q .normal a w := by
    intro listed a w φ hsz hs hr
    have hL := fun i hi => hall listed hsz hr ops.size i hi hi
    refine hQ a w ⟨φ, S ops.size, hs.same (R.n _ (Nat.le_refl _)).symm (fun t => ?_) ?_, hK⟩
    · exact R.lU_text ops.size (Nat.le_refl _) fun j o hj _ _ => hL j hj
    · exact R.hU_text ops.size (Nat.le_refl _) fun j o hj _ _ => hL j hj
  intro fuel
  induction fuel with
  | zero =>
    intro listed a w φ hsz hc ht hs
    have hr : Region.ready .any ops listed = [] := by
      apply List.eq_nil_iff_forall_not_mem.2
      intro i hi
      obtain ⟨o, ho, hl, _⟩ := (hready listed hsz i).1 hi
      have h1 : i < ops.size := (Array.getElem?_eq_some_iff.1 ho).1
      have : i ∈ (List.range ops.size).filter fun i => !listed.getD i false := List.mem_filter.2 ⟨List.mem_range.2 h1, by simp [hl]⟩
      simp only [todo, Nat.le_zero, List.length_eq_zero_iff] at ht
      rw [ht] at this
      cases this
    exact ⟨hr, hend listed a w φ hsz hs hr⟩
  | succ fuel ih =>
    intro listed a w φ hsz hc ht hs
    refine ⟨hend listed a w φ hsz hs, fun i hi => ?_⟩
    obtain ⟨o, ho, hl, he⟩ := (hready listed hsz i).1 hi
    have h1 : i < ops.size := (Array.getElem?_eq_some_iff.1 ho).1
    obtain ⟨e1, hf1, hf2⟩ := R.step i o ho
    have hL' : ∀ j, (listed.setIfInBounds i true).getD j false = if j = i then true else listed.getD j false := by
      intro j
      simp only [Array.getD_eq_getD_getElem?, Array.getElem?_setIfInBounds]
      by_cases hj : i = j
      · subst hj; simp [hsz, h1]
      · have : ¬ j = i := fun h => hj h.symm
        simp [hj, this]
    -- what stands ahead of i is done, and what stands behind it is not
    have hbefore : ∀ j x, j < i → ops[j]? = some x → clashO P ops x o = true → listed.getD j false = true := fun j x hj hx hcl =>
      anc_done hanc hc (i + 1) i o (by omega) ho he j (drawOk_at hok hj hx ho hcl)
    have hafter : ∀ j y, i < j → ops[j]? = some y → clashO P ops o y = true → listed.getD j false = false := fun j y hj hy hcl => by
      cases hlj : listed.getD j false with
      | false => rfl
      | true =>
        have := anc_done hanc hc (j + 1) j y (by omega) hy (hc j y hy hlj) i (drawOk_at hok hj ho hy hcl)
        rw [hl] at this; cases this
    have hlook : ∀ t ∈ o.looksAt ops, look (lU ops st r (fun i => listed.getD i false) ops.size) t = look (S i).s.l t := fun t htm => by
      rw [lU_stay (i := i) ops.size (by omega) fun j x h2 h3 hx hlj hd => ?_]
      · exact R.lU_text i (by omega) fun j x hj hx hd => hbefore j x hj hx (clash_w hd (.inl htm))
      · by_cases hji : j = i
        · subst hji; rw [hl] at hlj; cases hlj
        · have := hafter j x (by omega) hx (clash_r hd htm)
          rw [this] at hlj; cases hlj
    have hheap : rwO P o.op = true → hU P ops st S (fun i => listed.getD i false) ops.size = (S i).h := fun hrw => by
      rw [hU_stay (i := i) ops.size (by omega) fun j x h2 h3 hx hlj => ?_]
      · exact R.hU_text i (by omega) fun j x hj hx hw => hbefore j x hj hx (clash_hw hw hrw)
      · cases hw : wrO P x.op with
        | false => rfl
        | true =>
          by_cases hji : j = i
          · subst hji; rw [hl] at hlj; cases hlj
          · have := hafter j x (by omega) hx (clash_hr hrw hw)
            rw [this] at hlj; cases hlj
    have key := hf2 ⟨⟨st.s.n, lU ops st r (fun i => listed.getD i false) ops.size⟩, hU P ops st S (fun i => listed.getD i false) ops.size⟩ hlook hheap X φ a w Q i
      (fun s => s.s.n = st.s.n ∧ (∀ t, look s.s.l t = look (lU ops st r (fun j => (listed.setIfInBounds i true).getD j false) ops.size) t) ∧ s.h = hU P ops st S (fun j => (listed.setIfInBounds i true).getD j false) ops.size) hP hs ho ⟨?_, fun t => ?_, ?_⟩
    · refine wpOp_mono (fun a w hn => ?_) key
      obtain ⟨φ', s', hs', g1, g2, g3⟩ := hn
      refine ih _ a w φ' (by simpa using hsz) (fun j x hx hlj e hm hb => ?_) ?_ (hs'.same g1 g2 g3)
      · simp only [hL'] at hlj ⊢
        split
        · rfl
        · by_cases hji : j = i
          · subst hji; rw [ho] at hx; cases hx; exact he e hm hb
          · rw [if_neg hji] at hlj; exact hc j x hx hlj e hm hb
      · have : todo ops.size (fun j => (listed.setIfInBounds i true).getD j false) < todo ops.size (fun j => listed.getD j false) := by
          simp only [todo]
          have e2 : ((List.range ops.size).filter fun j => !(listed.setIfInBounds i true).getD j false) = ((List.range ops.size).filter fun j => !listed.getD j false).filter fun j => j != i := by
            rw [List.filter_filter]
            apply List.filter_congr
            intro j _
            rw [hL']
            by_cases hji : j = i
            · simp [hji]
            · simp [hji]
          rw [e2]
          apply List.length_filter_lt_length_iff_exists.2
          exact ⟨i, List.mem_filter.2 ⟨List.mem_range.2 h1, by simp [hl]⟩, by simp⟩
        omega
    · exact putS_n _ _ _
    · have e3 : look (pt (⟨⟨st.s.n, lU ops st r (fun i => listed.getD i false) ops.size⟩, if wrO P o.op = true then (S (i + 1)).h else hU P ops st S (fun i => listed.getD i false) ops.size⟩ : St) o.dst (r i)).s.l t =
          if o.dst = some t ∧ t < st.s.n then r i else look (lU ops st r (fun i => listed.getD i false) ops.size) t := look_putL st.s.n o.dst (r i) _ t
      refine e3.trans ?_
      by_cases hd : o.dst = some t
      · have e4 : look (lU ops st r (fun j => (listed.setIfInBounds i true).getD j false) ops.size) t = look (lU ops st r (fun j => (listed.setIfInBounds i true).getD j false) (i + 1)) t := by
          refine lU_stay (i := i + 1) ops.size (by omega) fun j x h2 h3 hx hlj hdx => ?_
          have := hafter j x (by omega) hx (clash_w hd (.inr hdx))
          simp only [hL', if_neg (show ¬ j = i by omega)] at hlj
          rw [this] at hlj; cases hlj
        have e5 : ∀ m, m ≤ i → look (lU ops st r (fun j => (listed.setIfInBounds i true).getD j false) m) t = look (lU ops st r (fun i => listed.getD i false) m) t := fun m hm =>
          lU_same m fun j hj => .inl (by simp only [hL', if_neg (show ¬ j = i by omega)])
        have e6 : look (lU ops st r (fun i => listed.getD i false) ops.size) t = look (lU ops st r (fun i => listed.getD i false) i) t := by
          refine lU_stay (i := i) ops.size (by omega) fun j x h2 h3 hx hlj hdx => ?_
          by_cases hji : j = i
          · subst hji; rw [hl] at hlj; cases hlj
          · have := hafter j x (by omega) hx (clash_w hd (.inr hdx))
            rw [this] at hlj; cases hlj
        rw [e4]
        simp only [lU, hL', if_true, ho, Option.bind_some]
        rw [look_putL, e6]
        have := e5 i (Nat.le_refl _)
        simp only [hL'] at this
        rw [this]
      · rw [if_neg fun h => hd h.1]
        symm
        refine lU_same ops.size fun j hj => ?_
        by_cases hji : j = i
        · subst hji
          exact .inr fun x hx => by rw [ho] at hx; cases hx; exact hd
        · exact .inl (by simp only [hL', if_neg hji])
    · show (if wrO P o.op = true then (S (i + 1)).h else hU P ops st S (fun i => listed.getD i false) ops.size) = _
      cases hw : wrO P o.op with
      | true =>
        have hrw : rwO P o.op = true := by simp [rwO, hw]
        have e4 : hU P ops st S (fun j => (listed.setIfInBounds i true).getD j false) ops.size = hU P ops st S (fun j => (listed.setIfInBounds i true).getD j false) (i + 1) := by
          refine hU_stay (i := i + 1) ops.size (by omega) fun j x h2 h3 hx hlj => ?_
          cases hwx : wrO P x.op with
          | false => rfl
          | true =>
            have := hafter j x (by omega) hx (clash_hr hrw hwx)
            simp only [hL', if_neg (show ¬ j = i by omega)] at hlj
            rw [this] at hlj; cases hlj
        rw [e4]
        simp only [hU, hL', if_true, ho, Option.map_some, hw, and_self]
      | false =>
        simp only [Bool.false_eq_true, if_false]
        symm
        refine hU_same ops.size fun j hj => ?_
        by_cases hji : j = i
        · subst hji
          exact .inr fun x hx => by rw [ho] at hx; cases hx; exact hw
        · exact .inl (by simp only [hL', if_neg hji])
theorem draw_sound {X : Fix} {φ : List Nat} {st : St} {a : Act} {w : World} {ops : Array Oper} {Q : Post} {id : Nat} (hs : SR X φ st a w) (h : DrawK X.P ops Q st) : (Code.region id ops true).wp X.P (Qx X Q) a w := by
  obtain ⟨h1, h2, h3⟩ := h
  obtain ⟨S, r, e0, e1, e2⟩ := runs ops.toList h3
  have R : Run X.P ops st S r := ⟨e0, fun i o ho => e2 i o (by simpa using ho)⟩
  have hf : ∀ i, (Array.replicate ops.size false).getD i false = false := fun i => by
    simp only [Array.getD_eq_getD_getElem?, Array.getElem?_replicate]
    split <;> rfl
  refine wp_region_any h1 (draw_any rfl R (tbl := ancT ops) h2 (K := normK Q) (fun a w ⟨φ', s', hs', h'⟩ => ⟨φ', s', hs', h'⟩) (by simpa using e1) ops.size (Array.replicate ops.size false) a { w with drawn := w.drawn + 1 } φ (by simp) (fun i o _ hl => by simp only [hf] at hl; cases hl) ?_ ?_)
  · exact Nat.le_trans (List.length_filter_le _ _) (by simp)
  · have hs2 : SR X φ st a { w with drawn := w.drawn + 1 } := hs.world ⟨rfl, rfl, rfl, Nat.le_refl _, fun _ _ => rfl⟩
    refine hs2.same rfl (fun t => ?_) ?_
    · have : look (lU ops st r (fun i => (Array.replicate ops.size false).getD i false) ops.size) t = look st.s.l t := lU_stay (i := 0) ops.size (Nat.zero_le _) fun j o _ _ _ hl => by simp only [hf] at hl; cases hl
      exact this.symm
    · have : hU X.P ops st S (fun i => (Array.replicate ops.size false).getD i false) ops.size = st.h := hU_stay (i := 0) ops.size (Nat.zero_le _) fun j o _ _ _ hl => by simp only [hf] at hl; cases hl
      exact this.symm
section
variable {X : Fix} {φ : List Nat} {st : St} {a : Act} {w : World}
theorem kwp_sound : ∀ (c : Code) (Q : Post) {φ : List Nat} {st : St} {a : Act} {w : World}, SR X φ st a w → kwp X.P c Q st → c.wp X.P (Qx X Q) a w
  | .skip, Q, φ, st, a, w, hs, h => wp_skip ⟨φ, st, hs, h⟩
  | .region id ops draw, Q, φ, st, a, w, hs, h => by
    simp only [kwp] at h
    split at h
    · rename_i hd
      subst hd
      exact draw_sound hs h
    · rename_i hd
      have hd' : draw = false := by simpa using hd
      subst hd'
      refine wp_region (kops_sound ops _ ops.toList _ ?_ hs h (fun a w ⟨φ', st', hs', h'⟩ => ⟨φ', st', hs', h'⟩))
      apply List.ext_getElem?
      intro i
      simp only [List.getElem?_map]
      by_cases hi : i < ops.size
      · simp [hi]
      · rw [List.getElem?_eq_none (by simpa using hi), List.getElem?_eq_none (by simpa using hi)]; rfl
  | .seq x y, Q, φ, st, a, w, hs, h => by
    simp only [kwp] at h
    refine wp_seq (wp_mono (kwp_sound x _ hs h) fun e a w hq => Qx_then (fun a w ⟨φ', st', hs', h'⟩ => kwp_sound y Q hs' h') e a w hq)
  | .cond c x y, Q, φ, st, a, w, hs, h => by
    simp only [kwp] at h
    unfold CondK at h
    split at h
    · rename_i z hg
      have hc := hs.get c
      rw [hg] at hc
      simp only [rel] at hc
      exact wp_cond_split hc (fun e => kwp_sound x Q hs (h.1 e)) (fun e => kwp_sound y Q hs (h.2 e))
    · exact h.elim
  | .block id c, Q, φ, st, a, w, hs, h => by
    simp only [kwp] at h
    refine wp_block (wp_mono (kwp_sound c _ hs h) fun e a w hq => ?_)
    obtain ⟨φ', st', hs', hq⟩ := hq
    cases e with
    | exit j =>
      simp only [inBlockA] at hq
      simp only [Exit.inBlock]
      split <;> rename_i hj
      · rw [if_pos hj] at hq; exact ⟨φ', st', hs', hq⟩
      · rw [if_neg hj] at hq; exact ⟨φ', st', hs', hq⟩
    | _ => exact ⟨φ', st', hs', hq⟩
  | .loop c, Q, φ, st, a, w, hs, h => by
    simp only [kwp] at h
    obtain ⟨R, n, s0, hw, hI, hr⟩ := h
    obtain ⟨φ0, hs0⟩ := hs.weak hw
    refine wp_loopR (fun m a w => ∃ φ' st', SR X φ' st' a w ∧ R m st') (n := n) ⟨φ0, s0, hs0, hI⟩ fun m a w ⟨φ1, s1, hs1, hI1⟩ => ?_
    refine wp_mono (kwp_sound c _ hs1 (hr m s1 hI1)) fun e a w hq => Qx_then (fun a w ⟨φ2, s2, hs2, m', s3, hw3, hlt, hI3⟩ => ?_) e a w hq
    obtain ⟨φ3, hs3⟩ := hs2.weak hw3
    exact ⟨m', hlt, φ3, s3, hs3, hI3⟩
  | .exit id, Q, φ, st, a, w, hs, h => wp_exit ⟨φ, st, hs, h⟩
  | .ret, Q, φ, st, a, w, hs, h => wp_ret ⟨φ, st, hs, h⟩
  | .label l, Q, φ, st, a, w, hs, h => wp_label ⟨φ, st, hs, h⟩
  | .goto l, Q, φ, st, a, w, hs, h => wp_goto ⟨φ, st, hs, h⟩
  | .rangeFunc .., Q, φ, st, a, w, hs, h => by simp only [kwp] at h
  | .scope .., Q, φ, st, a, w, hs, h => by simp only [kwp] at h
  | .refuse .., Q, φ, st, a, w, hs, h => by simp only [kwp] at h
end
/-- A function's contract out of what its code does to the abstract state. -/
theorem Ev.of {P : Program} {f : FuncId} {fn : Func} {c : Code} {args : List AV} {res : AV} (hf : P.funcs[f]? = some fn) (hb : fn.body = some c)
    (h : kwp P c (endA P fn.results.toList res) (startA args fn.ntmps)) : Ev P f args res :=
  Ev.of_wp hf hb fun X hP _ _ hs => by subst hP; exact kwp_sound c _ hs h
end Go.Ev

