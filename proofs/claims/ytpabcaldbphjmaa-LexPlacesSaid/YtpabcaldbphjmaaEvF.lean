import Derived.Test.YtpabcaldbphjmaaEvE
import Derived.Laws.Strings
import Derived.Laws.BytesString
namespace Go.Ev
set_option linter.all false
open Go Go.RowKit
set_option linter.unusedVariables false
set_option linter.unusedSimpArgs false

/-! ### Numbers that are none -/
theorem read_nan {b : Nat} (h : IsNaN b) : ∃ s t, FloatKind.f64.format.read b = .nan s t := by
  unfold IsNaN FloatKind.decode at h
  cases hd : FloatKind.f64.format.read b <;> simp [hd, Ieee.Datum.isNaN] at h
  exact ⟨_, _, rfl⟩
theorem isNaN_cut (x y t : Nat) : IsNaN ((Question.nanBits .f64 x y).cut t) := by
  unfold IsNaN FloatKind.decode
  have hr : (t / 2) % (2 ^ 52 - 1) < 2 ^ 52 - 1 := Nat.mod_lt _ (by decide)
  have hs : t % 2 = 0 ∨ t % 2 = 1 := by omega
  have hc : (Question.nanBits .f64 x y).cut t = (t % 2) * 2 ^ 63 + 0x7ff0000000000000 + 1 + (t / 2) % (2 ^ 52 - 1) := rfl
  rw [hc]
  obtain ⟨q, hq⟩ : ∃ q, q = (t / 2) % (2 ^ 52 - 1) := ⟨_, rfl⟩
  rw [← hq] at hr ⊢
  have s1 : FloatKind.f64.format.signWeight = 2 ^ 63 := rfl
  have s2 : FloatKind.f64.format.binade = 2 ^ 52 := rfl
  have s3 : FloatKind.f64.format.infRung = 0x7ff0000000000000 := rfl
  have e : ((t % 2) * 2 ^ 63 + 0x7ff0000000000000 + 1 + q) % FloatKind.f64.format.signWeight = 0x7ff0000000000000 + 1 + q := by
    rw [s1]; rcases hs with h | h <;> rw [h] <;> omega
  unfold Ieee.Format.read
  dsimp only
  rw [if_neg (by rw [e, s2]; omega), if_neg (by rw [e, s3]; omega), if_neg (by rw [e, s3]; omega)]
  rfl
theorem nan_add {b x : Nat} (h : IsNaN b) : FloatKind.f64.format.add b x = none ∧ FloatKind.f64.format.add x b = none := by
  obtain ⟨s, t, e⟩ := read_nan h
  unfold Ieee.Format.add
  rw [e]
  exact ⟨rfl, by cases FloatKind.f64.format.read x <;> rfl⟩
theorem nan_sub {b x : Nat} (h : IsNaN b) : FloatKind.f64.format.sub b x = none ∧ FloatKind.f64.format.sub x b = none := by
  obtain ⟨s, t, e⟩ := read_nan h
  unfold Ieee.Format.sub
  rw [e]
  exact ⟨rfl, by cases FloatKind.f64.format.read x <;> rfl⟩
theorem nan_mul {b x : Nat} (h : IsNaN b) : FloatKind.f64.format.mul b x = none ∧ FloatKind.f64.format.mul x b = none := by
  obtain ⟨s, t, e⟩ := read_nan h
  unfold Ieee.Format.mul
  rw [e]
  exact ⟨rfl, by cases FloatKind.f64.format.read x <;> rfl⟩
theorem nan_div {b x : Nat} (h : IsNaN b) : FloatKind.f64.format.div b x = none ∧ FloatKind.f64.format.div x b = none := by
  obtain ⟨s, t, e⟩ := read_nan h
  unfold Ieee.Format.div
  rw [e]
  exact ⟨rfl, by cases FloatKind.f64.format.read x <;> rfl⟩
theorem nan_order {b x : Nat} (h : IsNaN b) : FloatKind.f64.format.order b x = none ∧ FloatKind.f64.format.order x b = none := by
  obtain ⟨s, t, e⟩ := read_nan h
  unfold Ieee.Format.order
  rw [e]
  exact ⟨rfl, by cases FloatKind.f64.format.read x <;> rfl⟩

section
variable {X : Fix} {φ : List Nat} {st : St} {a : Act} {w : World} {o : Oper} {Q : Exit → Act → World → Prop} {K : St → Prop}

theorem rel_v (c : Cx) (x : Value) : rel (.v x) c x := by simp only [rel]
theorem run_eqGuard_of {P : Program} (op : BinOp) (t : TypeId) (x y : Operand) (u v : Value) (w : World) (h : (∀ us, u ≠ .agg us)) (h2 : u = .nilIface → v = .nilIface → (Ev.isConst x || Ev.isConst y) = true) : (eqGuard op t x y u v).run P w = .ok () w := by
  cases op <;> first | rfl | (cases u <;> first
      | rfl
      | exact absurd rfl (h _)
      | (cases v <;> first
          | rfl
          | (have := h2 rfl rfl
             cases x <;> cases y <;> simp [Ev.isConst] at this <;> rfl)))
/-- What a float operation comes to. -/
theorem run_fltA {P : Program} {c : Cx} {op : BinOp} {p q : Nat} {KA : AV → Prop} (t : TypeId) (h : fltA op p q KA) (w : World) :
    ∃ r u w', (binOp op t (.float .f64 p) (.float .f64 q)).run P w = .ok u w' ∧ (w' = w ∨ w' = w.drew) ∧ rel r c u ∧ KA r := by
  have key : ∀ (res : Option Nat), KA (fltRes res) → ∃ r u w', ((match res with | some r => pure (.float .f64 r) | none => do pure (.float .f64 (← choose (.nanBits .f64 p q))) : Sem Value)).run P w = .ok u w' ∧ (w' = w ∨ w' = w.drew) ∧ rel r c u ∧ KA r := by
    intro res hk
    cases res with
    | some r => exact ⟨_, _, w, rfl, .inl rfl, rel_v _ _, hk⟩
    | none =>
      refine ⟨.nan, .float .f64 ((Question.nanBits .f64 p q).cut (w.tape w.drawn (.nanBits .f64 p q))), w.drew, ?_, .inr rfl, ?_, hk⟩
      · simp only [Sem.run_bind, run_choose]; rfl
      · simp only [rel]; exact ⟨_, rfl, isNaN_cut p q _⟩
  cases op with
  | add => exact key _ h
  | sub => exact key _ h
  | mul => exact key _ h
  | quo => exact key _ h
  | eql => exact ⟨_, _, w, rfl, .inl rfl, rel_v _ _, h⟩
  | neq => exact ⟨_, _, w, rfl, .inl rfl, rel_v _ _, h⟩
  | lss => exact ⟨_, _, w, rfl, .inl rfl, rel_v _ _, h⟩
  | leq => exact ⟨_, _, w, rfl, .inl rfl, rel_v _ _, h⟩
  | gtr => exact ⟨_, _, w, rfl, .inl rfl, rel_v _ _, h⟩
  | geq => exact ⟨_, _, w, rfl, .inl rfl, rel_v _ _, h⟩
  | _ => exact h.elim
theorem run_intA {P : Program} {op : BinOp} {k : IntKind} {p q : Int} {KA : AV → Prop} (t : TypeId) (h : intA op k p q KA) (w : World) :
    ∃ u, (binOp op t (.int k p) (.int k q)).run P w = .ok u w ∧ KA (.v u) := by
  have hk : ∀ (s1 s2 : Sem Value), (if k ≠ k then s1 else s2) = s2 := fun _ _ => if_neg (fun h => h rfl)
  cases op with
  | quo => exact ⟨_, by simp only [binOp, hk, Op.intDiv, if_neg h.1]; rfl, h.2⟩
  | rem => exact ⟨_, by simp only [binOp, hk, Op.intDiv, if_neg h.1]; rfl, h.2⟩
  | shl => exact h.elim
  | shr => exact h.elim
  | _ => exact ⟨_, by simp only [binOp, hk, Op.intArith, Op.intBits, Op.intCmp]; rfl, h⟩
theorem run_shiftA {P : Program} {op : BinOp} {k k' : IntKind} {p q : Int} {KA : AV → Prop} (t : TypeId) (h : shiftA op k p q KA) (w : World) :
    ∃ u, (binOp op t (.int k p) (.int k' q)).run P w = .ok u w ∧ KA (.v u) := by
  cases op with
  | shl => exact ⟨_, by simp only [binOp, Op.shift, if_neg (show ¬ q < 0 from Int.not_lt.2 h.1)]; rfl, h.2⟩
  | shr => exact ⟨_, by simp only [binOp, Op.shift, if_neg (show ¬ q < 0 from Int.not_lt.2 h.1)]; rfl, h.2⟩
  | _ => exact h.elim
theorem str_append (x y : ByteArray) : x ++ y = ⟨(x.data.toList ++ y.data.toList).toArray⟩ := by
  apply ByteArray.ext
  simp
theorem run_strA {P : Program} {op : BinOp} {p q : ByteArray} {KA : AV → Prop} (t : TypeId) (h : strA op p q KA) (w : World) :
    ∃ u, (binOp op t (.string p) (.string q)).run P w = .ok u w ∧ KA (.v u) := by
  have e : ∀ op, binOp op t (.string p) (.string q) = Op.stringOp op p q := fun op => by cases op <;> rfl
  rw [e]
  unfold Op.stringOp
  rw [ByteArray.toList_eq, ByteArray.toList_eq]
  cases op with
  | add =>
    have h1 := h.1
    refine ⟨.string (p ++ q), ?_, by rw [str_append]; exact h.2⟩
    have : ¬ ((p.size + q.size : Nat) : Int) > IntKind.i64.max := by
      simp at h1
      have : IntKind.i64.max = 9223372036854775807 := rfl
      omega
    simp only [if_neg this]
    rfl
  | eql => exact ⟨_, rfl, h⟩
  | neq => exact ⟨_, rfl, h⟩
  | lss => exact ⟨_, rfl, h⟩
  | leq => exact ⟨_, rfl, h⟩
  | gtr => exact ⟨_, rfl, h⟩
  | geq => exact ⟨_, rfl, h⟩
  | _ => exact h.elim
theorem run_equal {P : Program} {t : TypeId} {d : TypeDesc} (hd : P.underlying t = some d) (u v : Value) (b : Bool) (w : World)
    (h : match d, u, v with
      | .bool, .bool x, .bool y => b = (x == y)
      | .interface _, .nilIface, .nilIface => b = true
      | .interface _, .nilIface, .iface _ _ | .interface _, .iface _ _, .nilIface => b = false
      | _, _, _ => False) : (Op.equal t u v).run P w = .ok b w := by
  unfold Op.equal Op.maxDepth
  rw [Op.equalIn, Sem.run_bind, run_underlying hd]
  simp only [Result.andThen_ok]
  cases d <;> cases u <;> cases v <;> first | exact h.elim | (simp only at h; subst h; rfl)
theorem run_nanA {P : Program} {c : Cx} {op : BinOp} {p q : Nat} {KA : AV → Prop} (t : TypeId) (h : nanA op KA) (hn : IsNaN p ∨ IsNaN q) (w : World) :
    ∃ r u w', (binOp op t (.float .f64 p) (.float .f64 q)).run P w = .ok u w' ∧ (w' = w ∨ w' = w.drew) ∧ rel r c u ∧ KA r := by
  refine run_fltA t ?_ w
  have e1 : FloatKind.f64.format.add p q = none := by rcases hn with h | h; exact (nan_add h).1; exact (nan_add h).2
  have e2 : FloatKind.f64.format.sub p q = none := by rcases hn with h | h; exact (nan_sub h).1; exact (nan_sub h).2
  have e3 : FloatKind.f64.format.mul p q = none := by rcases hn with h | h; exact (nan_mul h).1; exact (nan_mul h).2
  have e4 : FloatKind.f64.format.div p q = none := by rcases hn with h | h; exact (nan_div h).1; exact (nan_div h).2
  have e5 : FloatKind.f64.format.order p q = none := by rcases hn with h | h; exact (nan_order h).1; exact (nan_order h).2
  cases op <;> simp only [fltA, e1, e2, e3, e4, e5, fltRes] <;> simp only [nanA] at h <;> exact h
theorem op_binOp (hs : SR X φ st a w) {op : BinOp} {t t2 : TypeId} {x y : Operand} (ho : o.op = .binOp op t x y t2)
    (h : binA X.P op t x y (get st.s x) (get st.s y) fun r => K { st with s := putS st.s o.dst r }) : o.wp X.P a w (Nx X K) Q := by
  have hx := hs.get x
  have hy := hs.get y
  have he : execOp a.eval o = (do pure (.value (← (do eqGuard op t x y (a.eval x) (a.eval y); binOp op t (a.eval x) (a.eval y) : Sem Value))) : Sem Next) := by simp only [execOp, ho]
  have fin : ∀ {u : Value} {w' : World} {r : AV}, (∀ us, a.eval x ≠ .agg us) → (a.eval x = .nilIface → a.eval y = .nilIface → (Ev.isConst x || Ev.isConst y) = true) → (binOp op t (a.eval x) (a.eval y)).run X.P w = .ok u w' → (w' = w ∨ w' = w.drew) → rel r (cx X φ st.h w) u → K { st with s := putS st.s o.dst r } → o.wp X.P a w (Nx X K) Q := by
    intro u w' r h1 h1' h2 h3 h4 h5
    refine wp_yield hs he (u := u) (w' := w') ?_ h3 h4 h5
    rw [Sem.run_bind, run_eqGuard_of op t x y _ _ w h1 h1']
    exact h2
  have eql : ∀ {d : TypeDesc} {b : Bool}, X.P.underlying t = some d → (∀ us, a.eval x ≠ .agg us) → (a.eval x = .nilIface → a.eval y = .nilIface → (Ev.isConst x || Ev.isConst y) = true) →
      (binOp .eql t (a.eval x) (a.eval y) = (do pure (.bool (← Op.equal t (a.eval x) (a.eval y))))) → (binOp .neq t (a.eval x) (a.eval y) = (do pure (.bool (!(← Op.equal t (a.eval x) (a.eval y)))))) →
      (Op.equal t (a.eval x) (a.eval y)).run X.P w = .ok b w → nilA op b (fun r => K { st with s := putS st.s o.dst r }) → o.wp X.P a w (Nx X K) Q := by
    intro d b _ h1 h1' e1 e2 hr hk
    cases op with
    | eql => exact fin h1 h1' (u := .bool b) (w' := w) (by rw [e1, Sem.run_bind, hr]; rfl) (.inl rfl) (rel_v _ _) hk
    | neq => exact fin h1 h1' (u := .bool (!b)) (w' := w) (by rw [e2, Sem.run_bind, hr]; rfl) (.inl rfl) (rel_v _ _) hk
    | _ => exact hk.elim
  unfold binA at h
  split at h
  · -- ints
    rename_i k p k' q hg1 hg2
    rw [hg1] at hx; rw [hg2] at hy
    simp only [rel] at hx hy
    rw [hx, hy] at fin
    have hsh : shiftA op k p q (fun r => K { st with s := putS st.s o.dst r }) → o.wp X.P a w (Nx X K) Q := fun h' => by
      obtain ⟨u, h1, h2⟩ := run_shiftA (P := X.P) (k' := k') t h' w
      exact fin (fun _ => by simp) (fun h => by simp at h) h1 (.inl rfl) (rel_v _ _) h2
    have hin : k = k' ∧ intA op k p q (fun r => K { st with s := putS st.s o.dst r }) → o.wp X.P a w (Nx X K) Q := fun ⟨e, h'⟩ => by
      subst e
      obtain ⟨u, h1, h2⟩ := run_intA (P := X.P) t h' w
      exact fin (fun _ => by simp) (fun h => by simp at h) h1 (.inl rfl) (rel_v _ _) h2
    cases op <;> first | exact hin h | exact hsh h
  · -- floats
    rename_i p q hg1 hg2
    rw [hg1] at hx; rw [hg2] at hy
    simp only [rel] at hx hy
    rw [hx, hy] at fin
    obtain ⟨r, u, w', h1, h2, h3, h4⟩ := run_fltA (P := X.P) (c := cx X φ st.h w) t h w
    exact fin (fun _ => by simp) (fun h => by simp at h) h1 h2 h3 h4
  · rename_i q hg1 hg2
    rw [hg1] at hx; rw [hg2] at hy
    simp only [rel] at hx hy
    obtain ⟨p, hx, hn⟩ := hx
    rw [hx, hy] at fin
    obtain ⟨r, u, w', h1, h2, h3, h4⟩ := run_nanA (P := X.P) (c := cx X φ st.h w) (p := p) (q := q) t h (.inl hn) w
    exact fin (fun _ => by simp) (fun h => by simp at h) h1 h2 h3 h4
  · rename_i p hg1 hg2
    rw [hg1] at hx; rw [hg2] at hy
    simp only [rel] at hx hy
    obtain ⟨q, hy, hn⟩ := hy
    rw [hx, hy] at fin
    obtain ⟨r, u, w', h1, h2, h3, h4⟩ := run_nanA (P := X.P) (c := cx X φ st.h w) (p := p) (q := q) t h (.inr hn) w
    exact fin (fun _ => by simp) (fun h => by simp at h) h1 h2 h3 h4
  · rename_i hg1 hg2
    rw [hg1] at hx; rw [hg2] at hy
    simp only [rel] at hx hy
    obtain ⟨p, hx, hn⟩ := hx
    obtain ⟨q, hy, hn'⟩ := hy
    rw [hx, hy] at fin
    obtain ⟨r, u, w', h1, h2, h3, h4⟩ := run_nanA (P := X.P) (c := cx X φ st.h w) (p := p) (q := q) t h (.inl hn) w
    exact fin (fun _ => by simp) (fun h => by simp at h) h1 h2 h3 h4
  · -- strings
    rename_i p q hg1 hg2
    rw [hg1] at hx; rw [hg2] at hy
    simp only [rel] at hx hy
    rw [hx, hy] at fin
    obtain ⟨u, h1, h2⟩ := run_strA (P := X.P) t h w
    exact fin (fun _ => by simp) (fun h => by simp at h) h1 (.inl rfl) (rel_v _ _) h2
  · -- bools
    rename_i p q hg1 hg2
    rw [hg1] at hx; rw [hg2] at hy
    simp only [rel] at hx hy
    obtain ⟨ht, h⟩ := h
    rw [hx, hy] at eql
    refine eql (b := p == q) ht (fun _ => by simp) (fun h => by simp at h) rfl rfl (run_equal ht _ _ _ _ rfl) ?_
    cases op <;> first | exact h | exact h.elim
  · rename_i hg1 hg2
    rw [hg1] at hx; rw [hg2] at hy
    simp only [rel] at hx hy
    obtain ⟨hc, ht, h⟩ := h
    obtain ⟨ms, ht⟩ := ifcT_eq ht
    rw [hx, hy] at eql
    refine eql (b := true) ht (fun _ => by simp) (fun _ _ => hc) rfl rfl (run_equal ht _ _ _ _ rfl) ?_
    cases op <;> first | exact h | exact h.elim
  · rename_i tt z hg1 hg2
    rw [hg1] at hx; rw [hg2] at hy
    simp only [rel] at hx hy
    obtain ⟨zz, hx, _⟩ := hx
    obtain ⟨ht, h⟩ := h
    obtain ⟨ms, ht⟩ := ifcT_eq ht
    rw [hx, hy] at eql
    refine eql (b := false) ht (fun _ => by simp) (fun h => by simp at h) rfl rfl (run_equal ht _ _ _ _ rfl) ?_
    cases op <;> first | exact h | exact h.elim
  · rename_i tt z hg1 hg2
    rw [hg1] at hx; rw [hg2] at hy
    simp only [rel] at hx hy
    obtain ⟨zz, hy, _⟩ := hy
    obtain ⟨ht, h⟩ := h
    obtain ⟨ms, ht⟩ := ifcT_eq ht
    rw [hx, hy] at eql
    refine eql (b := false) ht (fun _ => by simp) (fun _ h => by simp at h) rfl rfl (run_equal ht _ _ _ _ rfl) ?_
    cases op <;> first | exact h | exact h.elim
  · exact h.elim
theorem op_unOp (hs : SR X φ st a w) {op : UnOp} {t : TypeId} {x : Operand} (ho : o.op = .unOp op t x)
    (h : unA op (get st.s x) fun r => K { st with s := putS st.s o.dst r }) : o.wp X.P a w (Nx X K) Q := by
  have hx := hs.get x
  have he : execOp a.eval o = (do pure (.value (← Op.unary op (a.eval x))) : Sem Next) := by simp only [execOp, ho]
  unfold unA at h
  split at h
  · rename_i b hg
    rw [hg] at hx
    simp only [rel] at hx
    exact wp_yield hs he (u := .bool (!b)) (w' := w) (by rw [hx]; rfl) (.inl rfl) (rel_v _ _) h
  · rename_i k n hg
    rw [hg] at hx
    simp only [rel] at hx
    exact wp_yield hs he (u := .int k (k.wrap (0 - n))) (w' := w) (by rw [hx]; rfl) (.inl rfl) (rel_v _ _) h
  · rename_i b hg
    rw [hg] at hx
    simp only [rel] at hx
    exact wp_yield hs he (u := .float .f64 (Op.negFloat .f64 b)) (w' := w) (by rw [hx]; rfl) (.inl rfl) (rel_v _ _) h
  · exact h.elim
end
end Go.Ev
