/- Drawn regions: the text's order serves for every order that the edges leave. And the whole: what the code layer says is sound. -/
import Derived.Test.YtpabcaldbphjmaaEvR
namespace Go.Ev
set_option linter.all false
open Go Go.RowKit
set_option linter.unusedVariables false
set_option linter.unusedSimpArgs false

theorem wr_rw {P : Program} {o : Op} (h : rwO P o = false) : wrO P o = false ∧ rdO P o = false := by
  simp only [rwO, Bool.or_eq_false_iff] at h; exact ⟨h.2, h.1⟩
/-- What an operation did in the text's order, it does wherever what it looks at is the same. -/
def StepF (P : Program) (ops : Array Oper) (o : Oper) (s : St) (r : AV) (h' : List ABlk) : Prop :=
  (wrO P o.op = false → h' = s.h) ∧ ∀ s2 : St, (∀ t ∈ o.looksAt ops, look s2.s.l t = look s.s.l t) → (rwO P o.op = true → s2.h = s.h) →
    ∀ (X : Fix) (φ : List Nat) (a : Act) (w : World) (Q : Exit → Act → World → Prop) (i : Nat) (K2 : St → Prop), X.P = P → SR X φ s2 a w → ops[i]? = some o →
      K2 (pt ⟨s2.s, if wrO P o.op = true then h' else s2.h⟩ o.dst r) → wpOp P ops Q i (Nx X K2) a w
theorem looks_get {ops : Array Oper} {o : Oper} {s s2 : St} (h : ∀ t ∈ o.looksAt ops, look s2.s.l t = look s.s.l t) : ∀ x ∈ o.op.operands.toList, get s2.s x = get s.s x := by
  intro x hx
  cases x with
  | tmp t => exact h t (by simp only [Oper.looksAt]; exact List.mem_append_left _ (List.mem_filterMap.2 ⟨.tmp t, hx, rfl⟩))
  | _ => rfl
theorem frame_step {P : Program} {ops : Array Oper} {o : Oper} {s : St} {K : St → Prop} (hg : o.guard = none) (h : kop P o K s) : ∃ r h', K (pt ⟨s.s, h'⟩ o.dst r) ∧ StepF P ops o s r h' := by
  obtain ⟨r, h', hk, hw, hf⟩ := kop_frame h
  refine ⟨r, h', hk, hw, fun s2 h1 h2 X φ a w Q i K2 hP hs hi hk2 => ?_⟩
  subst hP
  have hk3 := hf s2 (looks_get h1) (fun e => h2 (by simp [rwO, e])) K2 hk2
  unfold wpOp
  rw [hi]
  have hw' : Region.wanted o (yielded ops a.tmps) = true := by simp [Region.wanted, hg]
  simp only [hw', if_true]
  exact .inl (kop_sound hs hk3)
theorem guard_yield {X : Fix} {φ : List Nat} {s2 : St} {a : Act} {w : World} {ops : Array Oper} {j : Nat} {z : Bool} (hs : SR X φ s2 a w) (hz : guardA ops s2 j = .v (.bool z)) : yielded ops a.tmps j = some z := by
  unfold guardA at hz
  split at hz
  · rename_i t ht
    unfold yielded
    rw [ht]
    have hr := hs.slots t
    rw [hz] at hr
    simp only [rel] at hr
    cases htm : a.tmps[t]? with
    | none => simp [htm, undef] at hr
    | some u =>
      simp [htm] at hr
      subst hr
      simp [htm]
  · cases hz
theorem guard_step {P : Program} {ops : Array Oper} {o : Oper} {s : St} {K : St → Prop} {j : Nat} {b : Bool} (hg : o.guard = some (j, b)) (h : GuardK (guardA ops s j) b (kop P o K) (skipK o.dst K) s) :
    ∃ r h', K (pt ⟨s.s, h'⟩ o.dst r) ∧ StepF P ops o s r h' := by
  unfold GuardK at h
  split at h
  · rename_i z hz
    have hz2 : ∀ s2 : St, (∀ t ∈ o.looksAt ops, look s2.s.l t = look s.s.l t) → guardA ops s2 j = .v (.bool z) := fun s2 h1 => by
      rw [← hz]
      unfold guardA
      cases hd : (ops[j]?).bind (·.dst) with
      | none => rfl
      | some t =>
        simp only
        exact h1 t (by simp only [Oper.looksAt, hg, hd]; simp)
    by_cases hb : z = b
    · obtain ⟨r, h', hk, hw, hf⟩ := kop_frame (h.1 hb)
      refine ⟨r, h', hk, hw, fun s2 h1 h2 X φ a w Q i K2 hP hs hi hk2 => ?_⟩
      subst hP
      have hk3 := hf s2 (looks_get h1) (fun e => h2 (by simp [rwO, e])) K2 hk2
      unfold wpOp
      rw [hi]
      have hw' : Region.wanted o (yielded ops a.tmps) = true := by simp [Region.wanted, hg, guard_yield hs (hz2 s2 h1), hb]
      simp only [hw', if_true]
      exact .inl (kop_sound hs hk3)
    · refine ⟨.bad, s.h, h.2 hb, fun _ => rfl, fun s2 h1 h2 X φ a w Q i K2 hP hs hi hk2 => ?_⟩
      subst hP
      unfold wpOp
      rw [hi]
      have hw' : Region.wanted o (yielded ops a.tmps) = false := by simp [Region.wanted, hg, guard_yield hs (hz2 s2 h1), hb]
      simp only [hw']
      have hh : (if wrO X.P o.op = true then s.h else s2.h) = s2.h := by
        split
        · rename_i e; exact (h2 (by simp [rwO, e])).symm
        · rfl
      rw [hh] at hk2
      exact ⟨φ, _, hs.put o.dst (r := .bad) (u := undef) (by simp only [rel]), hk2⟩
  · exact h.elim
theorem runs {P : Program} {ops : Array Oper} : ∀ (os : List Oper) {K : St → Prop} {s : St}, kops P ops os K s →
    ∃ (S : Nat → St) (r : Nat → AV), S 0 = s ∧ K (S os.length) ∧ ∀ (i : Nat) (o : Oper), os[i]? = some o → S (i + 1) = pt ⟨(S i).s, (S (i + 1)).h⟩ o.dst (r i) ∧ StepF P ops o (S i) (r i) (S (i + 1)).h
  | [], K, s, h => ⟨fun _ => s, fun _ => .bad, rfl, h, fun i o ho => by simp at ho⟩
  | o :: os, K, s, h => by
    have h' : ∃ r h', kops P ops os K (pt ⟨s.s, h'⟩ o.dst r) ∧ StepF P ops o s r h' := by
      simp only [kops] at h
      split at h
      · rename_i hg; exact frame_step hg h
      · rename_i j b hg; exact guard_step hg h
    obtain ⟨r, h', hk, hf⟩ := h'
    obtain ⟨S, rs, h0, h1, h2⟩ := runs os hk
    refine ⟨fun | 0 => s | i + 1 => S i, fun | 0 => r | i + 1 => rs i, rfl, h1, fun i p hp => ?_⟩
    cases i with
    | zero =>
      simp only [List.getElem?_cons_zero, Option.some.injEq] at hp
      subst hp
      have : (S 0).h = h' := by rw [h0]; rfl
      simp only [this]
      exact ⟨h0, hf⟩
    | succ i => exact h2 i p (by simpa using hp)

section
variable {P : Program} {ops : Array Oper} {S : Nat → St} {r : Nat → AV}
def putL (n : Nat) (d : Option Tmp) (x : AV) (l : List (Nat × AV)) : List (Nat × AV) := (putS ⟨n, l⟩ d x).l
theorem look_putL (n : Nat) (d : Option Tmp) (x : AV) (l : List (Nat × AV)) (t : Nat) : look (putL n d x l) t = if d = some t ∧ t < n then x else look l t := by
  unfold putL putS
  cases d with
  | none => simp
  | some d =>
    simp only [Option.some.injEq]
    by_cases hd : d < n
    · simp only [hd, if_true, look]
      by_cases e : d = t
      · subst e; simp [hd]
      · simp [e]
    · simp only [hd, if_false]
      by_cases e : d = t
      · subst e; simp [hd]
      · simp [e]
/-- The slots when those of L are done. -/
def lU (ops : Array Oper) (st : St) (r : Nat → AV) (L : Nat → Bool) : Nat → List (Nat × AV)
  | 0 => st.s.l
  | i + 1 => if L i = true then putL st.s.n ((ops[i]?).bind (·.dst)) (r i) (lU ops st r L i) else lU ops st r L i
def hU (P : Program) (ops : Array Oper) (st : St) (S : Nat → St) (L : Nat → Bool) : Nat → List ABlk
  | 0 => st.h
  | i + 1 => if L i = true ∧ ((ops[i]?).map fun o => wrO P o.op) = some true then (S (i + 1)).h else hU P ops st S L i
structure Run (P : Program) (ops : Array Oper) (st : St) (S : Nat → St) (r : Nat → AV) : Prop where
  zero : S 0 = st
  step : ∀ (i : Nat) (o : Oper), ops[i]? = some o → S (i + 1) = pt ⟨(S i).s, (S (i + 1)).h⟩ o.dst (r i) ∧ StepF P ops o (S i) (r i) (S (i + 1)).h
variable {st : St} (R : Run P ops st S r)
include R
theorem Run.n : ∀ i, i ≤ ops.size → (S i).s.n = st.s.n := by
  intro i
  induction i with
  | zero => intro _; rw [R.zero]
  | succ i ih =>
    intro hi
    obtain ⟨e, _⟩ := R.step i ops[i] (by simp)
    rw [e]
    show (putS (S i).s _ _).n = _
    rw [← ih (by omega)]
    unfold putS
    split <;> try rfl
    split <;> rfl
theorem Run.look {i : Nat} {o : Oper} (ho : ops[i]? = some o) (t : Nat) : look (S (i + 1)).s.l t = if o.dst = some t ∧ t < st.s.n then r i else look (S i).s.l t := by
  obtain ⟨e, _⟩ := R.step i o ho
  have hi : i < ops.size := (Array.getElem?_eq_some_iff.1 ho).1
  have hn := R.n i (by omega)
  rw [e]
  show Ev.look (putS (S i).s o.dst (r i)).l t = _
  have := look_putL (S i).s.n o.dst (r i) (S i).s.l t
  rw [hn] at this
  rw [← this]
  unfold putL
  rw [← hn]
theorem Run.lU_text {L : Nat → Bool} {t : Nat} : ∀ i, i ≤ ops.size → (∀ j o, j < i → ops[j]? = some o → o.dst = some t → L j = true) → Ev.look (lU ops st r L i) t = Ev.look (S i).s.l t := by
  intro i
  induction i with
  | zero => intro _ _; rw [R.zero]; rfl
  | succ i ih =>
    intro hi h
    have ho : ops[i]? = some ops[i] := by simp
    have ih := ih (by omega) fun j o hj => h j o (by omega)
    rw [R.look ho]
    simp only [lU]
    split
    · rw [look_putL, ho, Option.bind_some, ih]
    · rename_i hL
      rw [ih, if_neg fun hd => hL (h i _ (by omega) ho hd.1)]
omit R in
theorem lU_stay {L : Nat → Bool} {t : Nat} {i : Nat} : ∀ m, i ≤ m → (∀ j o, i ≤ j → j < m → ops[j]? = some o → L j = true → o.dst ≠ some t) → Ev.look (lU ops st r L m) t = Ev.look (lU ops st r L i) t := by
  intro m
  induction m with
  | zero => intro h _; rw [show i = 0 by omega]
  | succ m ih =>
    intro hm h
    by_cases e : i = m + 1
    · rw [e]
    · rw [← ih (by omega) fun j o h1 h2 => h j o h1 (by omega)]
      simp only [lU]
      split
      · rename_i hL
        rw [look_putL, if_neg]
        rintro ⟨hd, _⟩
        cases ho : ops[m]? with
        | none => rw [ho] at hd; cases hd
        | some o => rw [ho] at hd; exact h m o (by omega) (by omega) ho hL hd
      · rfl
omit R in
theorem lU_same {L L' : Nat → Bool} {t : Nat} : ∀ m, (∀ j, j < m → L' j = L j ∨ (∀ o, ops[j]? = some o → o.dst ≠ some t)) → Ev.look (lU ops st r L' m) t = Ev.look (lU ops st r L m) t := by
  intro m
  induction m with
  | zero => intro _; rfl
  | succ m ih =>
    intro h
    have ih := ih fun j hj => h j (by omega)
    have hno : (∀ o, ops[m]? = some o → o.dst ≠ some t) → ∀ (l : List (Nat × AV)), Ev.look (putL st.s.n ((ops[m]?).bind (·.dst)) (r m) l) t = Ev.look l t := fun hd l => by
      rw [look_putL, if_neg]
      rintro ⟨e, _⟩
      cases ho : ops[m]? with
      | none => rw [ho] at e; cases e
      | some o => rw [ho] at e; exact hd o ho e
    simp only [lU]
    rcases h m (by omega) with e | hd
    · rw [e]
      split
      · rw [look_putL, look_putL, ih]
      · exact ih
    · split <;> split <;> simp only [hno hd, ih]
theorem Run.hU_text {L : Nat → Bool} : ∀ i, i ≤ ops.size → (∀ j o, j < i → ops[j]? = some o → wrO P o.op = true → L j = true) → hU P ops st S L i = (S i).h := by
  intro i
  induction i with
  | zero => intro _ _; rw [R.zero]; rfl
  | succ i ih =>
    intro hi h
    have ho : ops[i]? = some ops[i] := by simp
    have ih := ih (by omega) fun j o hj => h j o (by omega)
    obtain ⟨_, hf, _⟩ := R.step i _ ho
    simp only [hU, ho, Option.map_some, Option.some.injEq]
    split
    · rfl
    · rename_i hc
      cases hw : wrO P ops[i].op with
      | true => exact absurd ⟨h i _ (by omega) ho hw, hw⟩ hc
      | false => rw [ih, hf hw]
omit R in
theorem hU_stay {L : Nat → Bool} {i : Nat} : ∀ m, i ≤ m → (∀ j o, i ≤ j → j < m → ops[j]? = some o → L j = true → wrO P o.op = false) → hU P ops st S L m = hU P ops st S L i := by
  intro m
  induction m with
  | zero => intro h _; rw [show i = 0 by omega]
  | succ m ih =>
    intro hm h
    by_cases e : i = m + 1
    · rw [e]
    · rw [← ih (by omega) fun j o h1 h2 => h j o h1 (by omega)]
      simp only [hU]
      rw [if_neg]
      rintro ⟨hL, hw⟩
      cases ho : ops[m]? with
      | none => rw [ho] at hw; cases hw
      | some o => rw [ho] at hw; have := h m o (by omega) (by omega) ho hL; simp only [Option.map_some, Option.some.injEq] at hw; rw [this] at hw; cases hw
omit R in
theorem hU_same {L L' : Nat → Bool} : ∀ m, (∀ j, j < m → L' j = L j ∨ (∀ o, ops[j]? = some o → wrO P o.op = false)) → hU P ops st S L' m = hU P ops st S L m := by
  intro m
  induction m with
  | zero => intro _; rfl
  | succ m ih =>
    intro h
    have ih := ih fun j hj => h j (by omega)
    simp only [hU, ih]
    rcases h m (by omega) with e | hd
    · rw [e]
    · have : ¬ ((ops[m]?).map fun o => wrO P o.op) = some true := by
        cases ho : ops[m]? with
        | none => simp
        | some o => simp [hd o ho]
      rw [if_neg fun h => this h.2, if_neg fun h => this h.2]
end
end Go.Ev
