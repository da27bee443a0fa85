/- Each operation does to the machine what it does to the abstract state. -/
import Derived.Test.YtpabcaldbphjmaaEvC
import Derived.Laws.Tables
import Derived.Laws.Cells
import Derived.Laws.Entries
import Derived.Laws.CopyRow
import Derived.Laws.MakeOwn
import Derived.Laws.AppendOwn
import Derived.ArgAppend
namespace Go.Ev
set_option linter.all false
open Go Go.RowKit
set_option linter.unusedVariables false
set_option linter.unusedSimpArgs false

def Nx (X : Fix) (K : St → Prop) (a : Act) (w : World) : Prop := ∃ φ st, SR X φ st a w ∧ K st

section
variable {X : Fix} {φ : List Nat} {st : St} {a : Act} {w : World} {o : Oper} {Q : Exit → Act → World → Prop} {K : St → Prop}

theorem wp_val {s : Sem Value} (he : execOp a.eval o = (do pure (.value (← s)) : Sem Next)) {u : Value} {w' : World} (hr : s.run X.P w = .ok u w')
    {N : Act → World → Prop} (hn : N (a.put o.dst u) w') : o.wp X.P a w N Q := by
  unfold Oper.wp
  rw [he, Sem.run_bind, hr]
  exact hn
/-- The operation yields a value, the world stays (but for draws). -/
theorem wp_yield (hs : SR X φ st a w) {s : Sem Value} (he : execOp a.eval o = (do pure (.value (← s)) : Sem Next)) {u : Value} {w' : World} (hr : s.run X.P w = .ok u w') (hw : w' = w ∨ w' = w.drew)
    {r : AV} (hrel : rel r (cx X φ st.h w) u) (hk : K { st with s := putS st.s o.dst r }) : o.wp X.P a w (Nx X K) Q := by
  refine wp_val he hr ⟨φ, _, ?_, hk⟩
  rcases hw with rfl | rfl
  · exact hs.put _ hrel
  · have hs' := hs.world (below_drew w)
    refine hs'.put _ (rel_mono (cx_le_same (w := w) (w' := w.drew) (fun _ _ => rfl) (fun _ _ => rfl) (Nat.le_refl _) (fun β hβ => (hs.rng β hβ).2) _) _ _ hrel)

/-! ### Types -/
theorem run_info {t : TypeId} {i : TypeInfo} (h : X.P.info? t = some i) (w : World) : (typeInfo t).run X.P w = .ok i w := by
  simp [typeInfo, h]
theorem run_und {t : TypeId} {d : TypeDesc} (h : X.P.underlying t = some d) (w : World) : (underlying t).run X.P w = .ok d w := run_underlying h w
theorem run_size {P : Program} {t n : Nat} (h : sizeT P t = some n) (w : World) : (sizeOf t).run P w = .ok n w := by
  unfold sizeT at h
  cases hi : P.info? t with
  | none => simp [hi] at h
  | some i => simp [hi] at h; simp [sizeOf, typeInfo, hi, h]
theorem run_zero {P : Program} {t : TypeId} {z : Value} (h : zeroT P t = some z) (w : World) : (zeroValue t).run P w = .ok z w := by
  unfold zeroT at h
  cases hi : P.info? t with
  | none => simp [hi] at h
  | some i => simp [hi] at h; simp [zeroValue, typeInfo, hi, h]
theorem run_isAgg {P : Program} {t : TypeId} {b : Bool} (h : aggT P t = some b) (w : World) : (isAgg t).run P w = .ok b w := by
  unfold aggT at h
  cases hd : P.underlying t with
  | none => simp [hd] at h
  | some d =>
    rw [hd] at h
    unfold isAgg
    rw [Sem.run_bind, run_underlying hd w]
    cases d <;> simp_all
theorem elemT_eq {P : Program} {t e : TypeId} (h : elemT P t = some e) : P.underlying t = some (.slice e) := by
  unfold elemT at h
  split at h
  · cases h; assumption
  · cases h
theorem arrT_eq {P : Program} {t n e : Nat} (h : arrT P t = some (n, e)) : P.underlying t = some (.array n e) := by
  unfold arrT at h
  split at h
  · cases h; assumption
  · cases h
theorem intT_eq {P : Program} {t : Nat} {k : IntKind} (h : intT P t = some k) : P.underlying t = some (.int k) := by
  unfold intT at h
  split at h
  · cases h; assumption
  · cases h
theorem strT_eq {P : Program} {t : Nat} (h : strT P t = true) : P.underlying t = some .string := by
  unfold strT at h
  split at h
  · assumption
  · cases h
theorem ifcT_eq {P : Program} {t : Nat} (h : ifcT P t = some true) : ∃ ms, P.underlying t = some (.interface ms) := by
  unfold ifcT at h
  cases hd : P.underlying t with
  | none => simp [hd] at h
  | some d => rw [hd] at h; cases d <;> simp at h; exact ⟨_, rfl⟩
theorem fieldT_eq {P : Program} {t f off ft : Nat} (h : fieldT P t f = some (off, ft)) : ∃ fs fd, P.underlying t = some (.struct fs) ∧ fs[f]? = some fd ∧ fd.offset = off ∧ fd.type = ft := by
  unfold fieldT at h
  split at h
  · rename_i fs hu
    cases hf : fs[f]? with
    | none => simp [hf] at h
    | some fd => simp [hf] at h; exact ⟨fs, fd, hu, hf, h.1, h.2⟩
  · cases h
theorem sizeT_cells {P : Program} {t n : Nat} (h : sizeT P t = some n) : P.cellsOf t = n := by
  unfold sizeT at h; simp [Program.cellsOf, h]

/-! ### Values -/
theorem rel_one {c : Cx} {x : AV} {u : Value} (h : rel x c u) (ho : oneA x = true) : u.oneCell' = true ∧ u.cells = #[u] := by
  cases x with
  | v y => simp only [rel] at h; subst h; refine ⟨ho, ?_⟩; cases u <;> simp [oneA, Value.oneCell'] at ho <;> rfl
  | nan => simp only [rel] at h; obtain ⟨b, rfl, _⟩ := h; exact ⟨rfl, rfl⟩
  | sl b n m cs => simp only [rel] at h; obtain ⟨r, off, cap, rfl, _⟩ := h; exact ⟨rfl, rfl⟩
  | ela b cs => simp only [rel] at h; obtain ⟨r, off, rfl, _⟩ := h; exact ⟨rfl, rfl⟩
  | agg cs => simp [oneA] at ho
  | tup cs => simp [oneA] at ho
  | ifc t x => simp only [rel] at h; obtain ⟨y, rfl, _⟩ := h; exact ⟨rfl, rfl⟩
  | own i ver n => simp only [rel] at h; obtain ⟨_, _, _, _, ⟨_, _, _, rfl⟩, _⟩ := h; exact ⟨rfl, rfl⟩
  | ptr i ver off => simp only [rel] at h; obtain ⟨_, _, _, _, ⟨_, rfl⟩, _⟩ := h; exact ⟨rfl, rfl⟩
  | bad => simp [oneA] at ho
theorem relL_one {c : Cx} : ∀ {xs : List AV} {us : List Value}, relL xs c us → xs.all oneA = true → ∀ u ∈ us, u.oneCell' = true
  | [], us, h, _, u, hu => by simp only [relL] at h; subst h; simp at hu
  | x :: xs, us, h, ho, u, hu => by
    simp only [relL] at h
    obtain ⟨v, us', rfl, h2, h3⟩ := h
    simp only [List.all_cons, Bool.and_eq_true] at ho
    rcases List.mem_cons.1 hu with rfl | hm
    · exact (rel_one h2 ho.1).1
    · exact relL_one h3 ho.2 u hm
theorem rel_flat {c : Cx} {x : AV} {u : Value} {cs : List AV} (h : rel x c u) (hf : flat x = some cs) : relL cs c u.cells.toList ∧ ∀ v ∈ u.cells.toList, v.oneCell' = true := by
  have key : ∀ y : AV, rel y c u → oneA y = true → relL [y] c u.cells.toList ∧ ∀ v ∈ u.cells.toList, v.oneCell' = true := by
    intro y hy ho
    obtain ⟨h1, h2⟩ := rel_one hy ho
    rw [h2]
    refine ⟨by simp only [relL]; exact ⟨u, [], rfl, hy, rfl⟩, fun v hv => ?_⟩
    simp at hv; subst hv; exact h1
  cases x with
  | agg cs' =>
    simp only [flat] at hf
    split at hf
    · rename_i ho
      cases hf
      simp only [rel] at h
      obtain ⟨us, rfl, h2⟩ := h
      exact ⟨h2, relL_one h2 ho⟩
    · cases hf
  | _ =>
    simp only [flat] at hf
    split at hf
    · rename_i ho
      cases hf
      exact key _ h ho
    · cases hf
theorem rel_zeroCells (c : Cx) (z : Value) : relL (zeroCells z) c z.cells.toList := by
  cases z with
  | agg cs =>
    simp only [zeroCells, Value.cells]
    generalize cs.toList = l
    induction l with
    | nil => simp [relL]
    | cons y l ih => simp only [List.map_cons, relL, rel]; exact ⟨y, l, rfl, rfl, ih⟩
  | _ => simp only [zeroCells, Value.cells, relL, rel]; exact ⟨_, _, rfl, rfl, rfl⟩

/-! ### Loads -/
theorem run_loadCells_at {P : Program} (r off : Nat) (us : List Value) (h : ∀ (j : Nat) u, us[j]? = some u → w.cell? ⟨r, off + j, none⟩ = some u) :
    (loadCells ⟨r, off, none⟩ us.length).run P w = .ok us.toArray w :=
  run_loadCells_list w _ us (fun j v hv => by rw [Addr.add_lit]; exact h j v hv)
theorem relAt_list {c : Cx} {cs : List AV} {r off : Nat} (h : relAt cs c r off) : ∃ us, relL cs c us ∧ ∀ (j : Nat) u, us[j]? = some u → c.w.cell? ⟨r, off + j, none⟩ = some u := by
  induction cs generalizing off with
  | nil => exact ⟨[], by simp [relL], fun j u h => by simp at h⟩
  | cons x cs ih =>
    simp only [relAt] at h
    obtain ⟨⟨u, h1, h2⟩, h3⟩ := h
    obtain ⟨us, g1, g2⟩ := ih h3
    refine ⟨u :: us, by simp only [relL]; exact ⟨u, us, rfl, h2, g1⟩, fun j v hv => ?_⟩
    cases j with
    | zero => simp at hv; subst hv; exact h1
    | succ j => rw [show off + (j + 1) = off + 1 + j by omega]; exact g2 j v (by simpa using hv)
/-- A load out of cells that are known. -/
theorem run_takeA {c : Cx} {t : TypeId} {cs : List AV} {KA : AV → Prop} (h : takeA c.P t cs KA) {r off : Nat} (hc : relAt cs c r off) :
    ∃ x u, (loadVar t ⟨r, off, none⟩).run c.P c.w = .ok u c.w ∧ rel x c u ∧ KA x := by
  unfold takeA at h
  split at h
  · rename_i hb
    obtain ⟨n, hn, hle, hk⟩ := h
    obtain ⟨us, h1, h2⟩ := relAt_list (relAt_take hc n)
    have hl : us.length = n := by have := relL_length h1; simp at this; omega
    have hrun := run_loadCells_at (P := c.P) r off us h2
    rw [hl] at hrun
    refine ⟨.agg (cs.take n), .agg us.toArray, ?_, by simp only [rel]; exact ⟨_, rfl, by simpa using h1⟩, hk⟩
    simp only [loadVar, Sem.run_bind, run_isAgg hb, Result.andThen_ok, if_true, run_size hn, hrun]
    rfl
  · rename_i hb
    obtain ⟨x, hx, hk⟩ := h
    obtain ⟨u, hu, hr⟩ := relAt_get hc 0 x hx
    refine ⟨x, u, ?_, hr, hk⟩
    have hu' : c.w.cell? ⟨r, off, none⟩ = some u := hu
    simp [loadVar, Sem.run_bind, run_isAgg hb, run_load, hu']
  · exact h.elim

theorem SR.at (hs : SR X φ st a w) {i : Nat} {k : ABlk} (hk : st.h[i]? = some k) : ∃ β vs fr, φ[i]? = some β ∧ curOf φ st.h i = some (k, β) ∧ w.heap[β]? = some (.cells vs k.e fr) ∧ k.cells.length ≤ vs.size ∧
    (∀ off, off < vs.size → ¬ (fr.1 ≤ off ∧ off < fr.2)) ∧ relAt k.cells (cx X φ st.h w) β 0 := by
  have hl : i < φ.length := by rw [hs.φlen]; exact (List.getElem?_eq_some_iff.1 hk).1
  have hβ : φ[i]? = some φ[i] := List.getElem?_eq_getElem hl
  obtain ⟨⟨vs, fr, h1, h2, h3⟩, h4⟩ := hs.blk i k _ hk hβ
  exact ⟨_, vs, fr, hβ, curOf_eq.2 ⟨hk, hβ⟩, h1, h2, h3, h4⟩
/-- A context under which frozen data still reads: the same but for the call's own blocks. -/
theorem relAt_shut {c : Cx} {cs : List AV} {r off : Nat} (h : relAt cs c.shut r off) (hr : ∃ b, c.ok b r) : relAt cs c r off :=
  relAt_mono (c := c.shut) (c' := c) ⟨rfl, fun _ _ h => h, fun _ _ _ _ _ h => h, fun _ _ _ h => by cases h⟩ cs r off hr h

theorem op_load (hs : SR X φ st a w) {t : TypeId} {x : Operand} (ho : o.op = .load t x)
    (h : loadA X.P t st (get st.s x) fun r => K { st with s := putS st.s o.dst r }) : o.wp X.P a w (Nx X K) Q := by
  have hx := hs.get x
  have he : execOp a.eval o = (do pure (.value (← Instr.loadAt t (a.eval x))) : Sem Next) := by simp only [execOp, ho]
  have key : ∀ (r off : Nat) (cs : List AV), a.eval x = .pointer (some ⟨r, off, none⟩) → relAt cs (cx X φ st.h w) r off → takeA X.P t cs (fun r => K { st with s := putS st.s o.dst r }) → o.wp X.P a w (Nx X K) Q := by
    intro r off cs hu hc ht
    obtain ⟨y, u, hr, hrel, hk⟩ := run_takeA (c := cx X φ st.h w) ht hc
    refine wp_yield hs he (u := u) (w' := w) ?_ (.inl rfl) hrel hk
    rw [hu]
    exact hr
  unfold loadA at h
  split at h
  · rename_i i ver off hg
    obtain ⟨k, hk, hv, ht⟩ := h
    obtain ⟨β, vs, fr, h1, h2, h3, h4, h5, h6⟩ := hs.at hk
    rw [hg] at hx
    simp only [rel] at hx
    obtain ⟨k', β', g1, g2, g3, g4⟩ := hx
    have : curOf φ st.h i = some (k', β') := g1
    rw [h2] at this; cases this
    refine key β off _ (g4 hv) ?_ ht
    simpa using relAt_drop h6 off
  · rename_i b cs hg
    rw [hg] at hx
    simp only [rel] at hx
    obtain ⟨r, off, g1, g2, g3⟩ := hx
    exact key r off cs g1 (relAt_shut g3 ⟨_, g2⟩) h
  · exact h.elim

/-! ### Stores -/
theorem relL_setMany {c : Cx} : ∀ (xs : List AV) (us : List Value) (l : List AV) (vs : List Value) (i : Nat), relL xs c us → relL l c (vs.take l.length) → i + xs.length ≤ l.length → l.length ≤ vs.length →
    relL (setMany l i xs) c ((vs.take i ++ us ++ vs.drop (i + us.length)).take l.length)
  | [], us, l, vs, i, hx, hl, _, _ => by
    simp only [relL] at hx; subst hx
    simpa [setMany] using hl
  | x :: xs, us, l, vs, i, hx, hl, hle, hlv => by
    simp only [relL] at hx
    obtain ⟨u, us', rfl, h2, h3⟩ := hx
    simp only [List.length_cons] at hle
    have hset : relL (l.set i x) c ((vs.set i u).take (l.set i x).length) := by
      have := relL_set hl i h2
      rw [List.length_set, List.take_set]
      exact this
    have := relL_setMany xs us' (l.set i x) (vs.set i u) (i + 1) h3 hset (by simp; omega) (by simp; omega)
    simp only [setMany]
    rw [List.length_set] at this
    have e : (vs.set i u).take (i + 1) ++ us' ++ (vs.set i u).drop (i + 1 + us'.length) = vs.take i ++ (u :: us') ++ vs.drop (i + (u :: us').length) := by
      have hi : i < vs.length := by omega
      rw [List.drop_set_of_lt (by omega)]
      have : (vs.set i u).take (i + 1) = vs.take i ++ [u] := by
        rw [List.take_succ_eq_append_getElem (by simpa using hi)]
        simp [List.take_set_of_le]
      rw [this]
      simp [Nat.add_assoc, Nat.add_comm, Nat.add_left_comm]
    rw [e] at this
    exact this
theorem run_storeCells_blk {P : Program} (g : Nat) (t : TypeId) (fr : Nat × Nat) : ∀ (vs : List Value) (i off : Nat) (cur : Array Value) (w : World), w.heap[g]? = some (.cells cur t fr) → off + i + vs.length ≤ cur.size →
    (∀ q, q < cur.size → ¬ (fr.1 ≤ q ∧ q < fr.2)) → (∀ v ∈ vs, v.oneCell' = true) →
    ∃ w', (storeCells ⟨g, off, none⟩ vs i).run P w = .ok () w' ∧ w'.heap[g]? = some (.cells (cur.toList.take (off + i) ++ vs ++ cur.toList.drop (off + i + vs.length)).toArray t fr) ∧
      (∀ r, r ≠ g → w'.heap[r]? = w.heap[r]?) ∧ w'.heap.size = w.heap.size ∧ w'.os = w.os ∧ w'.tape = w.tape ∧ w'.output = w.output
  | [], i, off, cur, w, hg, hl, hf, _ => ⟨w, rfl, by simpa using hg, fun _ _ => rfl, rfl, rfl, rfl, rfl⟩
  | v :: rest, i, off, cur, w, hg, hl, hf, h1 => by
    simp only [List.length_cons] at hl
    have hi : off + i < cur.size := by omega
    have hcell : w.cell? ⟨g, off + i, none⟩ = some cur[off + i] := by simp [World.cell?, hg, hi]
    have hfro : w.frozen? ⟨g, off + i, none⟩ = false := by
      have := hf (off + i) hi
      simp only [World.frozen?, hg]
      simp only [Bool.and_eq_false_iff, decide_eq_false_iff_not]
      omega
    have hset : (w.setCell ⟨g, off + i, none⟩ v).heap[g]? = some (.cells (cur.setIfInBounds (off + i) v) t fr) := by
      simp [World.setCell, Array.getElem?_modify, hg]
    have hst : (store ((⟨g, off, none⟩ : Addr).add i) v).run P w = .ok () (w.setCell ⟨g, off + i, none⟩ v) := by
      rw [Addr.add_lit, run_store P w _ v _ (h1 v (by simp)), hcell]
      simp [hfro]
    obtain ⟨w', g1, g2, g3, g4, g5, g6, g7⟩ := run_storeCells_blk g t fr rest (i + 1) off (cur.setIfInBounds (off + i) v) (w.setCell ⟨g, off + i, none⟩ v) hset (by simp; omega) (by simpa using hf) (fun x hx => h1 x (by simp [hx]))
    refine ⟨w', by simp only [storeCells, Sem.run_bind, hst, Result.andThen_ok]; exact g1, ?_, fun r hr => by rw [g3 r hr, Below.heap_setCell _ _ _ _ hr], by rw [g4]; simp, g5, g6, g7⟩
    rw [g2]
    congr 2
    apply congrArg
    have hi' : off + i < cur.toList.length := by simpa using hi
    simp only [Array.toList_setIfInBounds]
    rw [List.drop_set_of_lt (by omega)]
    have : (cur.toList.set (off + i) v).take (off + (i + 1)) = cur.toList.take (off + i) ++ [v] := by
      rw [show off + (i + 1) = off + i + 1 by omega, List.take_succ_eq_append_getElem (by simpa using hi')]
      simp [List.take_set_of_le]
    rw [this]
    simp [Nat.add_assoc, Nat.add_comm, Nat.add_left_comm]
theorem op_store (hs : SR X φ st a w) {t : TypeId} {x y : Operand} (ho : o.op = .store t x y)
    (h : storeA X.P t st (get st.s x) (get st.s y) fun s' => K { s' with s := putS s'.s o.dst .bad }) : o.wp X.P a w (Nx X K) Q := by
  have hx := hs.get x
  have hy := hs.get y
  unfold storeA at h
  split at h
  · rename_i i ver off hg
    obtain ⟨k, cs, hk, hv, hf, hsz, hle, hK⟩ := h
    obtain ⟨β, vs, fr, h1, h2, h3, h4, h5, h6⟩ := hs.at hk
    rw [hg] at hx
    simp only [rel] at hx
    obtain ⟨k', β', g1, g2, g3, g4⟩ := hx
    have : curOf φ st.h i = some (k', β') := g1
    rw [h2] at this; cases this
    have hu := g4 hv
    obtain ⟨hc, hone⟩ := rel_flat hy hf
    have hlen : (a.eval y).cells.toList.length = cs.length := relL_length hc
    obtain ⟨w', r1, r2, r3, r4, r5, r6, r7⟩ := run_storeCells_blk (P := X.P) β k.e fr (a.eval y).cells.toList 0 off vs w h3 (by omega) h5 hone
    have hst : (storeVar t ⟨β, off, none⟩ (a.eval y)).run X.P w = .ok () w' := by
      have e : (a.eval y).cells.size = cs.length := by simpa using hlen
      simp only [storeVar, Sem.run_bind, run_size hsz, Result.andThen_ok, e, ne_eq, not_true_eq_false, if_false]
      exact r1
    have hrun : (execOp a.eval o).run X.P w = .ok .skip w' := by
      simp [execOp, ho, hu, Instr.storeAt, Instr.sureAddr, hst]
    unfold Oper.wp
    rw [hrun]
    obtain ⟨us0, q1, q2⟩ := relAt_list h6
    have hvs : relL k.cells (cx X φ st.h w) (vs.toList.take k.cells.length) := by
      refine relL_of_get (by simp; omega) fun j z hz => ?_
      obtain ⟨u, hu', hr⟩ := relAt_get h6 j z hz
      refine ⟨u, ?_, hr⟩
      have hj := (List.getElem?_eq_some_iff.1 hz).1
      rw [List.getElem?_take, if_pos hj]
      simp only [cx, World.cell?, Nat.zero_add, h3] at hu'
      simpa using hu'
    have hnew := relL_setMany cs (a.eval y).cells.toList k.cells vs.toList off hc hvs hle (by simpa using h4)
    have hlens : (setMany k.cells off cs).length = k.cells.length := by
      have : ∀ (xs l : List AV) (i : Nat), (setMany l i xs).length = l.length := by
        intro xs
        induction xs with
        | nil => intro l i; rfl
        | cons x xs ih => intro l i; simp [setMany, ih]
      exact this _ _ _
    have hsr := hs.upd (w' := w') hk h1 (vs := vs) (vs' := (vs.toList.take (off + 0) ++ (a.eval y).cells.toList ++ vs.toList.drop (off + 0 + (a.eval y).cells.toList.length)).toArray) (fr := fr) (cells := setMany k.cells off cs) (ver := k.ver) (Nat.le_refl _) h3 r2
      (by simp; simp at hlen; omega) r3 r4 r5 r6 r7 (by simpa [hlens] using hnew)
    exact ⟨φ, _, hsr.put o.dst (r := .bad) (u := undef) (by simp only [rel]), hK⟩
  · exact h.elim
end
end Go.Ev
