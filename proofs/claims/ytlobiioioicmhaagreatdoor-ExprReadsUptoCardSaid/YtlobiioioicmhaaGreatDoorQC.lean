/- Contracts of the functions that the law reaches. -/
import Derived.Test.YtlobiioioicmhaaGreatDoorQB
import Derived.Test.YtlobiioioicmhaaGreatDoorQE
import Derived.Test.YtlobiioioicmhaaGreatDoorCards
import Derived.Deep.Slices
import Derived.ChangeSame
/- A list of tokens that is handed in, as the evaluator tells it. -/
namespace Go.Proofs.YtlobiioioicmhaaGreatDoor
set_option linter.all false
open Go Go.Ev
open Go.ChangeShapes Go.WideShapes
set_option maxRecDepth 20000
theorem bulk_one {H : Type} (d : DataW H) : 1 ≤ Rows.uptoBulk d := by
  unfold Rows.uptoBulk
  split <;> omega
theorem bulk_len {H : Type} : ∀ (l : List (DataW H)), l.length ≤ Rows.uptoBulkAll l
  | [] => by simp
  | d :: l => by
    have h1 := bulk_one d
    have h2 := bulk_len l
    rw [Rows.uptoBulkAll, List.length_cons]
    omega
theorem bulk_mem {H : Type} : ∀ {l : List (DataW H)} {d : DataW H}, d ∈ l → Rows.uptoBulk d ≤ Rows.uptoBulkAll l
  | [], d, h => by cases h
  | x :: l, d, h => by
    rw [Rows.uptoBulkAll]
    rcases List.mem_cons.1 h with rfl | h
    · omega
    · have := bulk_mem h; omega
/-- The cells of a token, as values. -/
def Tk.vals (t : Tk) : List Value := [.int .i64 t.kind, .string ⟨t.text.toArray⟩, .int .i64 t.int, .float .f64 t.real, .int .i64 t.pos, .int .i64 t.size]
theorem Tk.cells_vals (t : Tk) : t.cells = t.vals.map AV.v := rfl
instance : Inhabited Tk := ⟨tok7⟩
/-- What bounds a token that is handed in. -/
def okTkB (t : Tk) (n : Nat) : Prop := t.text.length + 1 ≤ n ∧ t.real < 18446744073709551616
section
variable {H : Type} {enc : TypeId × Value → H} {W : World} {base : Nat} {spare : Nat → Bool} {held : Bool}
theorem trod_flt {P : Program} {t : TypeId} {fuel : Nat} {cs : List Value} {x : DataW H × List MemPlace} (ht : P.underlying t = some (.float .f64)) (h : DataW.trod enc P W base spare held fuel t cs = some x) :
    ∃ b, cs = [.float .f64 b] ∧ (Lit.float .f64 b).wf = true := by
  cases fuel with
  | zero => simp [DataW.trod] at h
  | succ n =>
    unfold DataW.trod at h
    rw [ht] at h
    split at h <;> simp_all
theorem tok_of {fuel : Nat} {cs : List Value} {x : DataW H × List MemPlace} (h : DataW.trod enc Tryz.prog W base spare held fuel 54 cs = some x) :
    ∃ t : Tk, cs = t.vals ∧ okTkB t (Rows.uptoBulk x.1) := by
  obtain ⟨xs, n, _, rfl, hcl, hlen, hf⟩ := DataW.trod_struct Tryz.underlying54 h
  have hc6 : cs.length = 6 := hcl.trans (by kernel_rfl)
  match cs, hc6 with
  | [c0, c1, c2, c3, c4, c5], _ =>
    match xs, hlen with
    | [y0, y1, y2, y3, y4, y5], _ =>
      have f0 := hf 0 _ rfl
      have f1 := hf 1 _ rfl
      have f2 := hf 2 _ rfl
      have f3 := hf 3 _ rfl
      have f4 := hf 4 _ rfl
      have f5 := hf 5 _ rfl
      have k3 : Tryz.prog.cellsOf 3 = 1 := by kernel_rfl
      have k9 : Tryz.prog.cellsOf 9 = 1 := by kernel_rfl
      have k2 : Tryz.prog.cellsOf 2 = 1 := by kernel_rfl
      have k22 : Tryz.prog.cellsOf 22 = 1 := by kernel_rfl
      simp only [k3, k9, k2, k22, List.drop_succ_cons, List.drop_zero, List.take_succ_cons, List.take_zero, List.getElem?_cons_zero, List.getElem?_cons_succ] at f0 f1 f2 f3 f4 f5
      obtain ⟨n0, e0, _, _⟩ := DataW.trod_int (k := .i64) (by kernel_rfl) f0
      obtain ⟨s, e1, g1, h1⟩ := DataW.trod_string (by kernel_rfl) f1
      obtain ⟨n2, e2, _, _⟩ := DataW.trod_int (k := .i64) (by kernel_rfl) f2
      obtain ⟨b, e3, h3⟩ := trod_flt (by kernel_rfl) f3
      obtain ⟨n4, e4, _, _⟩ := DataW.trod_int (k := .i64) (by kernel_rfl) f4
      obtain ⟨n5, e5, _, _⟩ := DataW.trod_int (k := .i64) (by kernel_rfl) f5
      cases e0; cases e1; cases e2; cases e3; cases e4; cases e5
      refine ⟨⟨n0, s.data.toList, n2, b, n4, n5⟩, by simp [Tk.vals], ?_, ?_⟩
      · subst g1
        simp only [List.map_cons, List.map_nil, Rows.uptoBulk, Rows.uptoBulkAll]
        omega
      · simpa [Lit.wf] using h3
theorem toks_open {c : Cx} (hcw : c.w = W) (hok : ∀ r, r < W.heap.size → c.ok false r) {v : Value} (hs : v = .slice none 0 0 ∨ ∃ b off len cap, v = .slice (some ⟨b, off, none⟩) len cap ∧ len ≤ cap ∧ b < W.heap.size)
    {d : DataW H} {p : List MemPlace} (h : DataW.Trod enc Tryz.prog W base spare held 47 v d p) (hb : Rows.uptoBulk d ≤ 1048576) :
    ∃ (L : AV) (ts : List Tk), LAt L ts ∧ rel L c v ∧ (∀ t ∈ ts, okTk t) ∧ ts.length ≤ 2000000 := by
  obtain ⟨fuel, hf⟩ := h
  rcases hs with rfl | ⟨b, off, len, cap, rfl, hl, hbl⟩
  · exact ⟨.v (.slice none 0 0), [], .inl ⟨rfl, rfl⟩, by simp only [rel], by simp, by simp⟩
  · rcases Go.Deep.open_slice Tryz.underlying47 hf with ⟨hcs, _⟩ | ⟨a, len', cap', m, n, D, Pl, hcs, _, hl', _, hm, hx, hi⟩
    · simp [Value.cells] at hcs
    · simp [Value.cells] at hcs
      obtain ⟨rfl, rfl, rfl⟩ := hcs
      have c6 : Tryz.prog.cellsOf 54 = 6 := by kernel_rfl
      rw [c6] at hi
      have hlm : len ≤ m := by rw [hm]; split <;> omega
      have hd : d = .slice ((List.range len).map D) ((List.range (m - len)).map fun j => D (len + j)) := congrArg Prod.fst hx
      rw [hd, Rows.uptoBulk] at hb
      have hn := bulk_len ((List.range len).map D)
      rw [List.length_map, List.length_range] at hn
      obtain ⟨T, hT⟩ := Go.Deep.choose_lt (α := Tk) (n := len) (p := fun i t => W.cells? base ((⟨b, off, none⟩ : Addr).add (i * 6)) 6 = some t.vals ∧ okTkB t (Rows.uptoBulk (D i))) (fun i hil => by
        obtain ⟨cs', h1, h2⟩ := hi i (by omega)
        obtain ⟨t, rfl, ht⟩ := tok_of h2
        exact ⟨t, h1, ht⟩)
      have hlen : ((List.range len).map T).length = len := by rw [List.length_map, List.length_range]
      refine ⟨.sl false ((List.range len).map T).length ((List.range len).map T).length (tkCells ((List.range len).map T)), (List.range len).map T, .inr ⟨false, _, _, rfl, List.prefix_rfl⟩, ?_, ?_, by omega⟩
      · rw [hlen]
        simp only [rel]
        refine ⟨b, off, cap, rfl, Nat.le_refl _, hl, hok b hbl, relAt_of_get fun j x hj => ?_⟩
        have hj6 : j < len * 6 := by
          have := (List.getElem?_eq_some_iff.1 hj).1
          rw [tkCells_length, hlen] at this
          exact this
        have hil : j / 6 < len := by omega
        have hk : j % 6 < 6 := Nat.mod_lt _ (by decide)
        have hti : ((List.range len).map T)[j / 6]? = some (T (j / 6)) := by simp [hil]
        have hat := tkCells_at hti hk
        rw [show j / 6 * 6 + j % 6 = j by omega, hj, Tk.cells_vals, List.getElem?_map] at hat
        obtain ⟨h1, _⟩ := hT _ hil
        obtain ⟨_, _, hc⟩ := World.cells?_some h1
        have hcell := hc _ hk
        rw [Go.Deep.add_add, show j / 6 * 6 + j % 6 = j by omega] at hcell
        obtain ⟨u, hu, hxu⟩ := Option.map_eq_some_iff.1 hat.symm
        refine ⟨u, ?_, ?_⟩
        · rw [← hu, ← hcell]
          have ea : (⟨b, off, none⟩ : Addr).add j = ⟨b, off + j, none⟩ := by
            simp only [Addr.add]
            by_cases h0 : j = 0
            · subst h0; rfl
            · rw [if_neg h0]
          rw [ea]
          show c.w.cell? _ = _
          rw [hcw]
        · rw [← hxu]
          simp only [rel]
      · intro t ht
        obtain ⟨i, hi', rfl⟩ := List.mem_map.1 ht
        have hil : i < len := List.mem_range.1 hi'
        obtain ⟨_, h2, h3⟩ := hT i hil
        have := bulk_mem (l := (List.range len).map D) (List.mem_map.2 ⟨i, List.mem_range.2 hil, rfl⟩)
        exact ⟨by omega, h3⟩
end
end Go.Proofs.YtlobiioioicmhaaGreatDoor
