import Derived.Test.YtpabcaldbphjmaaEvD
namespace Go.Ev
set_option linter.all false
open Go Go.RowKit
set_option linter.unusedVariables false
set_option linter.unusedSimpArgs false
section
variable {X : Fix} {φ : List Nat} {st : St} {a : Act} {w : World} {o : Oper} {Q : Exit → Act → World → Prop} {K : St → Prop}

theorem op_move (hs : SR X φ st a w) {x : Operand} (ho : o.op = .move x ∨ o.op = .assign x) (h : K { st with s := putS st.s o.dst (get st.s x) }) : o.wp X.P a w (Nx X K) Q := by
  have he : execOp a.eval o = pure (.value (a.eval x)) := by rcases ho with ho | ho <;> simp only [execOp, ho]
  unfold Oper.wp
  rw [he]
  exact ⟨φ, _, hs.put _ (hs.get x), h⟩
theorem op_alloc (hs : SR X φ st a w) {t : TypeId} (ho : o.op = .alloc t) {z : Value} (hz : zeroT X.P t = some z)
    (h : K { s := putS st.s o.dst (.ptr st.h.length 0 0), h := st.h ++ [⟨0, t, zeroCells z⟩] }) : o.wp X.P a w (Nx X K) Q := by
  have he : execOp a.eval o = (do pure (.value (← Instr.alloc t true (.tuple #[]))) : Sem Next) := by simp only [execOp, ho]
  have hrun : (Instr.alloc t true (.tuple #[])).run X.P w = .ok (.pointer (some ⟨w.heap.size, 0, none⟩)) (w.alloc (.cells z.cells t)) := by
    simp [Instr.alloc, run_zero hz, newVar, newRow]
  have hl : z.cells.toList.take (zeroCells z).length = z.cells.toList := List.take_of_length_le (by rw [relL_length (rel_zeroCells (cx X φ st.h w) z)]; exact Nat.le_refl _)
  obtain ⟨hp, _⟩ := hs.push (vs := z.cells) (e := t) (fr := (0, 0)) (cells := zeroCells z) (ver := 0) (by rw [hl]; exact rel_zeroCells _ z) (fun off _ => by omega)
  refine wp_val he hrun ⟨_, _, hp.put o.dst (r := .ptr st.h.length 0 0) (u := .pointer (some ⟨w.heap.size, 0, none⟩)) ?_, h⟩
  simp only [rel]
  exact ⟨⟨0, t, zeroCells z⟩, w.heap.size, curOf_eq.2 ⟨by simp, by rw [← hs.φlen]; simp⟩, Nat.le_refl _, ⟨_, rfl⟩, fun _ => rfl⟩
theorem op_box (hs : SR X φ st a w) {t : TypeId} {x : Operand} (ho : o.op = .box t x) {cs : List AV} (hf : flat (get st.s x) = some cs)
    (h : K { s := putS st.s o.dst (.ptr st.h.length 0 0), h := st.h ++ [⟨0, t, cs⟩] }) : o.wp X.P a w (Nx X K) Q := by
  have he : execOp a.eval o = (do pure (.value (← Instr.box t (a.eval x))) : Sem Next) := by simp only [execOp, ho]
  have hrun : (Instr.box t (a.eval x)).run X.P w = .ok (.pointer (some ⟨w.heap.size, 0, none⟩)) (w.alloc (.cells (a.eval x).cells t)) := by
    simp [Instr.box, newVar, newRow]
  obtain ⟨hc, _⟩ := rel_flat (hs.get x) hf
  have hl : (a.eval x).cells.toList.take cs.length = (a.eval x).cells.toList := List.take_of_length_le (by rw [relL_length hc]; exact Nat.le_refl _)
  obtain ⟨hp, _⟩ := hs.push (vs := (a.eval x).cells) (e := t) (fr := (0, 0)) (cells := cs) (ver := 0) (by rw [hl]; exact hc) (fun off _ => by omega)
  refine wp_val he hrun ⟨_, _, hp.put o.dst (r := .ptr st.h.length 0 0) (u := .pointer (some ⟨w.heap.size, 0, none⟩)) ?_, h⟩
  simp only [rel]
  exact ⟨⟨0, t, cs⟩, w.heap.size, curOf_eq.2 ⟨by simp, by rw [← hs.φlen]; simp⟩, Nat.le_refl _, ⟨_, rfl⟩, fun _ => rfl⟩
theorem SR.ptr (hs : SR X φ st a w) {x : Operand} {i ver off : Nat} (hg : Ev.get st.s x = .ptr i ver off) (hl : liveA st i ver) : ∃ k β, a.eval x = .pointer (some ⟨β, off, none⟩) ∧ curOf φ st.h i = some (k, β) ∧ ver = k.ver := by
  obtain ⟨k, hk, hv⟩ := hl
  obtain ⟨β, vs, fr, h1, h2, h3, h4, h5, h6⟩ := hs.at hk
  have hx := hs.get x
  rw [hg] at hx
  simp only [rel] at hx
  obtain ⟨k', β', g1, g2, g3, g4⟩ := hx
  have : curOf φ st.h i = some (k', β') := g1
  rw [h2] at this; cases this
  exact ⟨k, β, g4 hv, h2, hv⟩
theorem SR.own (hs : SR X φ st a w) {x : Operand} {i ver n : Nat} (hg : Ev.get st.s x = .own i ver n) {k : ABlk} (hk : st.h[i]? = some k) (hv : ver = k.ver) :
    ∃ β cap vs fr, a.eval x = .slice (some ⟨β, 0, none⟩) n cap ∧ n ≤ cap ∧ vs.size = cap * X.P.cellsOf k.e ∧ φ[i]? = some β ∧ curOf φ st.h i = some (k, β) ∧ w.heap[β]? = some (.cells vs k.e fr) ∧ k.cells.length ≤ vs.size ∧
    (∀ off, off < vs.size → ¬ (fr.1 ≤ off ∧ off < fr.2)) ∧ relAt k.cells (cx X φ st.h w) β 0 := by
  obtain ⟨β, vs, fr, h1, h2, h3, h4, h5, h6⟩ := hs.at hk
  have hx := hs.get x
  rw [hg] at hx
  simp only [rel] at hx
  obtain ⟨k', β', g1, g2, g3, g4⟩ := hx
  have : curOf φ st.h i = some (k', β') := g1
  rw [h2] at this; cases this
  obtain ⟨cap, q1, q2, q3⟩ := g4 hv
  have q4 : w.shape? β = some (k.e, cap * X.P.cellsOf k.e) := q3
  simp only [World.shape?, h3] at q4
  exact ⟨β, cap, vs, fr, q1, q2, by simpa using q4, h1, h2, h3, h4, h5, h6⟩
theorem rel_ptr {k : ABlk} {β i ver off : Nat} (hc : curOf φ st.h i = some (k, β)) (hv : ver = k.ver) : rel (.ptr i ver off) (cx X φ st.h w) (.pointer (some ⟨β, off, none⟩)) := by
  simp only [rel]
  exact ⟨k, β, hc, by omega, ⟨_, rfl⟩, fun _ => rfl⟩
theorem rel_own {k : ABlk} {β i ver n cap : Nat} (hc : curOf φ st.h i = some (k, β)) (hv : ver = k.ver) (hn : n ≤ cap) (hs : w.shape? β = some (k.e, cap * X.P.cellsOf k.e)) : rel (.own i ver n) (cx X φ st.h w) (.slice (some ⟨β, 0, none⟩) n cap) := by
  simp only [rel]
  exact ⟨k, β, hc, by omega, ⟨_, _, _, rfl⟩, fun _ => ⟨cap, rfl, hn, hs⟩⟩
theorem op_nilCheck (hs : SR X φ st a w) {x : Operand} (ho : o.op = .nilCheck x) (hx : (∃ i ver off, get st.s x = .ptr i ver off ∧ liveA st i ver) ∨ ∃ b cs, get st.s x = .ela b cs)
    (h : K { st with s := putS st.s o.dst (get st.s x) }) : o.wp X.P a w (Nx X K) Q := by
  have : ∃ ad, a.eval x = .pointer (some ad) := by
    rcases hx with ⟨i, ver, off, hg, hl⟩ | ⟨b, cs, hg⟩
    · obtain ⟨k, β, h1, _⟩ := hs.ptr hg hl
      exact ⟨_, h1⟩
    · have := hs.get x
      rw [hg] at this
      simp only [rel] at this
      obtain ⟨r, off, h1, _⟩ := this
      exact ⟨_, h1⟩
  obtain ⟨ad, hu⟩ := this
  have he : execOp a.eval o = pure (.value (a.eval x)) := by simp only [execOp, ho, hu]
  unfold Oper.wp
  rw [he]
  exact ⟨φ, _, hs.put _ (hs.get x), h⟩
theorem op_fieldAddr (hs : SR X φ st a w) {t f : Nat} {x : Operand} (ho : o.op = .fieldAddr t x f) (h : fieldAddrA X.P t st (get st.s x) f fun r => K { st with s := putS st.s o.dst r }) : o.wp X.P a w (Nx X K) Q := by
  have hx := hs.get x
  have he : execOp a.eval o = (do pure (.value (← Instr.fieldAt t (a.eval x) f)) : Sem Next) := by simp only [execOp, ho]
  obtain ⟨off, ft, n, hf, hsz, hn, hm⟩ := h
  obtain ⟨fs, fd, hu, hfs, rfl, rfl⟩ := fieldT_eq hf
  have hrun : ∀ r p, a.eval x = .pointer (some ⟨r, p, none⟩) → (Instr.fieldAt t (a.eval x) f).run X.P w = .ok (.pointer (some ⟨r, p + fd.offset, none⟩)) w := by
    intro r p e
    simp [Instr.fieldAt, run_underlying hu, hfs, e, Instr.sureAddr, fieldPlace, run_size hsz, hn, Addr.add_lit]
  split at hm
  · rename_i i ver p hg
    obtain ⟨k, β, h1, h2, h3⟩ := hs.ptr hg hm.1
    exact wp_yield hs he (hrun _ _ h1) (.inl rfl) (rel_ptr h2 h3) hm.2
  · rename_i b cs hg
    rw [hg] at hx
    simp only [rel] at hx
    obtain ⟨r, p, g1, g2, g3⟩ := hx
    refine wp_yield hs he (hrun _ _ g1) (.inl rfl) (r := .ela b (cs.drop fd.offset)) ?_ hm
    simp only [rel]
    exact ⟨r, _, rfl, g2, relAt_drop g3 _⟩
  · exact hm.elim
theorem op_indexAddr (hs : SR X φ st a w) {t : Nat} {x y : Operand} (ho : o.op = .indexAddr t x y) (h : indexAddrA X.P t st (get st.s x) (get st.s y) fun r => K { st with s := putS st.s o.dst r }) : o.wp X.P a w (Nx X K) Q := by
  have hx := hs.get x
  have hy := hs.get y
  have he : execOp a.eval o = (do pure (.value (← Instr.indexAt t (a.eval x) (a.eval y))) : Sem Next) := by simp only [execOp, ho]
  unfold indexAddrA at h
  split at h
  · rename_i kk i hgy
    rw [hgy] at hy
    simp only [rel] at hy
    split at h
    · rename_i b n m cs hg
      obtain ⟨e, sz, h1, h2, h3, h4, hk⟩ := h
      rw [hg] at hx
      simp only [rel] at hx
      obtain ⟨r, off, cap, g1, g2, g3, g4, g5⟩ := hx
      refine wp_yield hs he (u := .pointer (some ⟨r, off + i.toNat * sz, none⟩)) (w' := w) ?_ (.inl rfl) (r := .ela b (cs.drop (i.toNat * sz))) ?_ hk
      · simp [Instr.indexAt, hy, g1, asIntOf, run_underlying (elemT_eq h1), h3, h4, run_size h2, Addr.add_lit]
      · simp only [rel]
        exact ⟨r, _, rfl, g4, relAt_drop g5 _⟩
    · rename_i j ver n hg
      obtain ⟨k, e, sz, hk, hv, h1, h2, h3, h4, hK⟩ := h
      obtain ⟨β, cap, vs, fr, g1, g2, g3, g4, g5, _⟩ := hs.own hg hk hv
      refine wp_yield hs he (u := .pointer (some ⟨β, i.toNat * sz, none⟩)) (w' := w) ?_ (.inl rfl) (rel_ptr g5 hv) hK
      simp [Instr.indexAt, hy, g1, asIntOf, run_underlying (elemT_eq h1), h3, h4, run_size h2, Addr.add_lit]
    · rename_i j ver off hg
      obtain ⟨hl, n, e, sz, h1, h2, h3, h4, hK⟩ := h
      obtain ⟨k, β, g1, g2, g3⟩ := hs.ptr hg hl
      refine wp_yield hs he (u := .pointer (some ⟨β, off + i.toNat * sz, none⟩)) (w' := w) ?_ (.inl rfl) (rel_ptr g2 g3) hK
      simp [Instr.indexAt, Instr.sureAddr, hy, g1, asIntOf, run_underlying (arrT_eq h1), h3, h4, run_size h2, Addr.add_lit]
    · exact h.elim
  · exact h.elim
/-- A part of a struct or an array. -/
theorem run_part {c : Cx} {t : TypeId} {cs : List AV} {KA : AV → Prop} {off : Nat} (h : takeA c.P t (cs.drop off) KA) {us : Array Value} (hc : relL cs c us.toList) (w : World) :
    ∃ x u, (part t us off).run c.P w = .ok u w ∧ rel x c u ∧ KA x := by
  have hd := relL_drop hc off
  unfold takeA at h
  split at h
  · rename_i hb
    obtain ⟨n, hn, hle, hk⟩ := h
    refine ⟨_, .agg (us.extract off (off + n)), ?_, ?_, hk⟩
    · simp [part, run_isAgg hb, run_size hn]
    · simp only [rel]
      refine ⟨_, rfl, ?_⟩
      have : (us.extract off (off + n)).toList = (us.toList.drop off).take n := by simp [List.extract_eq_take_drop]
      rw [this]
      exact relL_take hd n
  · rename_i hb
    obtain ⟨x, hx, hk⟩ := h
    obtain ⟨u, hu, hr⟩ := relL_get hd 0 x hx
    refine ⟨x, u, ?_, hr, hk⟩
    have : us[off]? = some u := by simpa using hu
    simp [part, run_isAgg hb, this]
  · exact h.elim
theorem op_field (hs : SR X φ st a w) {t f : Nat} {x : Operand} (ho : o.op = .field t x f) {cs : List AV} (hg : get st.s x = .agg cs) {off ft : Nat} (hf : fieldT X.P t f = some (off, ft))
    (h : takeA X.P ft (cs.drop off) fun r => K { st with s := putS st.s o.dst r }) : o.wp X.P a w (Nx X K) Q := by
  have hx := hs.get x
  rw [hg] at hx
  simp only [rel] at hx
  obtain ⟨us, hu, hc⟩ := hx
  have he : execOp a.eval o = (do pure (.value (← Instr.field t (a.eval x) f)) : Sem Next) := by simp only [execOp, ho]
  obtain ⟨fs, fd, hund, hfs, rfl, rfl⟩ := fieldT_eq hf
  obtain ⟨y, u, h1, h2, h3⟩ := run_part (c := cx X φ st.h w) h hc w
  have h1' : (part fd.type us fd.offset).run X.P w = .ok u w := h1
  refine wp_yield hs he (u := u) (w' := w) ?_ (.inl rfl) h2 h3
  simp [Instr.field, run_underlying hund, hfs, hu, asAgg, h1']
theorem str_get (s : ByteArray) (i : Nat) (h : i < s.data.toList.length) : ∃ b, s[i]? = some b ∧ s.data.toList[i]? = some b := by
  have h' : i < s.size := by simpa using h
  refine ⟨s[i], by simp [h'], ?_⟩
  rw [List.getElem?_eq_getElem h]
  rfl
theorem op_index (hs : SR X φ st a w) {t : Nat} {x y : Operand} (ho : o.op = .index t x y) (h : indexA X.P t (get st.s x) (get st.s y) fun r => K { st with s := putS st.s o.dst r }) : o.wp X.P a w (Nx X K) Q := by
  have hx := hs.get x
  have hy := hs.get y
  have he : execOp a.eval o = (do pure (.value (← Instr.index t (a.eval x) (a.eval y))) : Sem Next) := by simp only [execOp, ho]
  unfold indexA at h
  split at h
  · rename_i kk i hgy
    rw [hgy] at hy
    simp only [rel] at hy
    split at h
    · rename_i s hg
      rw [hg] at hx
      simp only [rel] at hx
      obtain ⟨h1, h2, h3, hk⟩ := h
      obtain ⟨b, g1, g2⟩ := str_get s i.toNat (by omega)
      refine wp_yield hs he (u := .int .u8 b.toNat) (w' := w) ?_ (.inl rfl) ?_ hk
      · simp [Instr.index, hy, hx, asIntOf, run_underlying (strT_eq h1), h2, g1]
      · simp [rel, sAt, g2]
    · rename_i cs hg
      obtain ⟨n, e, sz, h1, h2, h3, h4, hk⟩ := h
      rw [hg] at hx
      simp only [rel] at hx
      obtain ⟨us, hu, hc⟩ := hx
      obtain ⟨z, u, g1, g2, g3⟩ := run_part (c := cx X φ st.h w) hk hc w
      have g1' : (part e us (i.toNat * sz)).run X.P w = .ok u w := g1
      refine wp_yield hs he (u := u) (w' := w) ?_ (.inl rfl) g2 g3
      simp [Instr.index, hy, hu, asIntOf, run_underlying (arrT_eq h1), h3, h4, run_size h2, g1']
    · exact h.elim
  · exact h.elim
theorem op_extract (hs : SR X φ st a w) {i : Nat} {x : Operand} (ho : o.op = .extract x i) {cs : List AV} (hg : get st.s x = .tup cs) {y : AV} (hy : cs[i]? = some y)
    (h : K { st with s := putS st.s o.dst y }) : o.wp X.P a w (Nx X K) Q := by
  have hx := hs.get x
  rw [hg] at hx
  simp only [rel] at hx
  obtain ⟨us, hu, hc⟩ := hx
  obtain ⟨u, h1, h2⟩ := relL_get hc i y hy
  have he : execOp a.eval o = (do pure (.value (← Instr.extract (a.eval x) i)) : Sem Next) := by simp only [execOp, ho]
  refine wp_yield hs he (u := u) (w' := w) ?_ (.inl rfl) h2 h
  have : us[i]? = some u := by simpa using h1
  simp [Instr.extract, hu, this]
theorem op_makeInterface (hs : SR X φ st a w) {t : TypeId} {x : Operand} (ho : o.op = .makeInterface t x) (ht : ifcT X.P t = some false) (h : K { st with s := putS st.s o.dst (.ifc t (get st.s x)) }) : o.wp X.P a w (Nx X K) Q := by
  have he : execOp a.eval o = (do pure (.value (← Instr.makeInterface t (a.eval x))) : Sem Next) := by simp only [execOp, ho]
  unfold ifcT at ht
  cases hd : X.P.underlying t with
  | none => simp [hd] at ht
  | some d =>
    rw [hd] at ht
    refine wp_yield hs he (u := .iface t (a.eval x)) (w' := w) ?_ (.inl rfl) (r := .ifc t (get st.s x)) (by simp only [rel]; exact ⟨_, rfl, hs.get x⟩) h
    cases d <;> simp at ht <;> simp [Instr.makeInterface, run_underlying hd]
theorem op_pick (hs : SR X φ st a w) {c x y : Operand} (ho : o.op = .pick c x y) {z : Bool} (hg : get st.s c = .v (.bool z))
    (h1 : z = true → K { st with s := putS st.s o.dst (get st.s x) }) (h2 : z = false → K { st with s := putS st.s o.dst (get st.s y) }) : o.wp X.P a w (Nx X K) Q := by
  have hc := hs.get c
  rw [hg] at hc
  simp only [rel] at hc
  unfold Oper.wp
  cases z with
  | true =>
    have he : (execOp a.eval o).run X.P w = .ok (.value (a.eval x)) w := by simp [execOp, ho, hc, asBool]
    rw [he]
    exact ⟨φ, _, hs.put _ (hs.get x), h1 rfl⟩
  | false =>
    have he : (execOp a.eval o).run X.P w = .ok (.value (a.eval y)) w := by simp [execOp, ho, hc, asBool]
    rw [he]
    exact ⟨φ, _, hs.put _ (hs.get y), h2 rfl⟩
theorem op_len (hs : SR X φ st a w) {c : Call} (ho : o.op = .call c) (hc : c.callee = .builtin .len) {x : Operand} (hx : c.args[0]? = some x)
    (h : lenA X.P c.argTypes st (get st.s x) fun r => K { st with s := putS st.s o.dst r }) : o.wp X.P a w (Nx X K) Q := by
  have hr := hs.get x
  obtain ⟨t, ht, h⟩ := h
  have he : execOp a.eval o = (do pure (.value (← Builtin.len_ c.argTypes o.type (c.args.map a.eval))) : Sem Next) := by
    simp only [execOp, ho, resolve, hc]; rfl
  have hargs : (c.args.map a.eval)[0]? = some (a.eval x) := by simp [hx]
  split at h
  · rename_i b hg
    rw [hg] at hr
    simp only [rel] at hr
    refine wp_yield hs he (u := .int .i64 b.size) (w' := w) ?_ (.inl rfl) ?_ h.2
    · simp [Builtin.len_, ht, hargs, hr, run_underlying (strT_eq h.1), goInt]
    · simp [rel]
  · rename_i hg
    rw [hg] at hr
    simp only [rel] at hr
    obtain ⟨e, he'⟩ := Option.isSome_iff_exists.1 h.1
    refine wp_yield hs he (u := .int .i64 0) (w' := w) ?_ (.inl rfl) (by simp [rel]) h.2
    simp [Builtin.len_, ht, hargs, hr, run_underlying (elemT_eq he'), goInt]
  · rename_i b n m cs hg
    rw [hg] at hr
    simp only [rel] at hr
    obtain ⟨r, off, cap, g1, _⟩ := hr
    obtain ⟨e, he'⟩ := Option.isSome_iff_exists.1 h.1
    refine wp_yield hs he (u := .int .i64 n) (w' := w) ?_ (.inl rfl) (by simp [rel]) h.2
    simp [Builtin.len_, ht, hargs, g1, run_underlying (elemT_eq he'), goInt]
  · rename_i i ver n hg
    obtain ⟨h1, ⟨k, hk, hv⟩, h3⟩ := h
    obtain ⟨β, cap, vs, fr, g1, _⟩ := hs.own hg hk hv
    obtain ⟨e, he'⟩ := Option.isSome_iff_exists.1 h1
    refine wp_yield hs he (u := .int .i64 n) (w' := w) ?_ (.inl rfl) (by simp [rel]) h3
    simp [Builtin.len_, ht, hargs, g1, run_underlying (elemT_eq he'), goInt]
  · exact h.elim
end
end Go.Ev
