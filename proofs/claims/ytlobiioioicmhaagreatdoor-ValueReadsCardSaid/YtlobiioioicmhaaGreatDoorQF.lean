/- Contracts of the functions that the law reaches. -/
import Derived.Test.YtlobiioioicmhaaGreatDoorQD
import Derived.Test.YtlobiioioicmhaaGreatDoorQE
import Derived.Lib.LaidTab
/- ValueReads: for every text the law answers true: her row, and the card over it. -/
namespace Go.Proofs.YtlobiioioicmhaaGreatDoor
set_option linter.all false
open Go Go.Ev Go.Lib
open Go.ChangeShapes Go.WideShapes Go.ChangeAt Go.RowKit
open Go.ChangeMaps (open_string shut_string)
/-- What is known of the package-level variables at the call. -/
def gamN (t3 : TypeId) (p3 : Value) (t4 : TypeId) (p4 : Value) : List (Nat × AV) := [(4, .ela false pow10A), (2, .ela false [.v (.iface t3 p3)]), (3, .ela false [.v (.iface t4 p4)])]
theorem gamN_gl (t3 : TypeId) (p3 : Value) (t4 : TypeId) (p4 : Value) : GlN (gamN t3 p3 t4 p4) := ⟨rfl, ⟨t3, p3, rfl⟩, t4, p4, rfl⟩
theorem cell_lt {W : World} {g i : Nat} {u : Value} (h : W.cell? ⟨g, i, none⟩ = some u) : g < W.heap.size := by
  by_cases hg : g < W.heap.size
  · exact hg
  · unfold World.cell? at h
    simp only [Array.getElem?_eq_none (Nat.le_of_not_lt hg)] at h
    cases h
theorem calls_ofN {f : FuncId} {args : List AV} {res : AV} {t3 : TypeId} {p3 : Value} {t4 : TypeId} {p4 : Value} {W : World} {vs : Array Value} (h : Ev Tryz.prog (gamN t3 p3 t4 p4) f args res)
    (h2 : tabC 4 W) (h3 : W.cell? ⟨2, 0, none⟩ = some (.iface t3 p3)) (h4 : W.cell? ⟨3, 0, none⟩ = some (.iface t4 p4)) (hr : relL args (cx0 Tryz.prog (fun _ => False) (fun _ => False) W) vs.toList) :
    Calls Tryz.prog f vs W fun e w' => ∃ u, e = .returned u ∧ rel res (cx0 Tryz.prog (fun _ => False) (fun _ => False) w') u ∧ Below W.heap.size W w' := by
  refine h _ _ W vs (fun _ h => h.elim) (fun k => ?_) hr
  have one : ∀ g (x : Value), W.cell? ⟨g, 0, none⟩ = some x → rel (.ela false [.v x]) (cx0 Tryz.prog (fun _ => False) (fun _ => False) W) (.pointer (some ⟨g, 0, none⟩)) := fun g x hx => by
    simp only [rel, relAt]
    exact ⟨g, 0, rfl, ⟨cell_lt hx, fun h => h⟩, ⟨x, hx, rfl⟩, trivial⟩
  unfold gamN
  simp only [Go.Ev.look]
  split
  · rename_i hk
    subst hk
    refine ⟨by decide, ?_⟩
    rw [rel]
    refine ⟨4, 0, rfl, ⟨cell_lt (h2 0 (by decide)), fun h => h⟩, relAt_of_get fun j x hj => ?_⟩
    unfold pow10A at hj
    simp only [List.getElem?_map] at hj
    by_cases h20 : j < 20
    · simp only [List.getElem?_range h20, Option.map_some, Option.some.injEq] at hj
      subst hj
      refine ⟨_, ?_, rel_v _ _⟩
      have := h2 j h20
      simpa [Cx.shut, cx0] using this
    · rw [List.getElem?_eq_none (by simpa using h20)] at hj
      cases hj
  · split
    · rename_i hk
      subst hk
      exact ⟨rfl, one _ _ h3⟩
    · split
      · rename_i hk
        subst hk
        exact ⟨rfl, one _ _ h4⟩
      · exact ⟨rfl, by simp only [rel]⟩
theorem errSyntax_cell {W : World} (h : laidMet Tryz.prog laidL W) : ∃ te pe, W.cell? ⟨2, 0, none⟩ = some (.iface te pe) := by
  have gR : Tryz.prog.globalNamed "strconv.ErrSyntax" = some 2 := by kernel_rfl
  obtain ⟨a, s, hv, _⟩ := laid_sentinel (n := "strconv.ErrSyntax") (nm := "*errors.errorString") (ti := 169) (tp := 306) (te := 308) (ts := 9) h.tail.tail.tail.tail gR (by kernel_rfl) Tryz.underlying169
    (fun u hu => typeName_ptr_named (nm := "errors.errorString") (by kernel_rfl) (by kernel_rfl) (by decide) u hu) Tryz.underlying306 Tryz.underlying308 rfl rfl Tryz.underlying9 (by kernel_rfl) (by kernel_rfl)
  exact ⟨306, .pointer (some a), by simpa using World.var?_cell gR hv 0⟩
theorem pow10_cells {W : World} (h : laidMet Tryz.prog laidL W) : tabC 4 W := by
  have g2 : Tryz.prog.globalNamed "internal/strconv.uint64pow10" = some 4 := by kernel_rfl
  have ht := tabIs_of_head (zs := Lib.pow10Tab) (k := .u64) (n := 20) (t := 288) (e := 176) g2 (by kernel_rfl) Tryz.underlying288 Tryz.underlying176 (by kernel_rfl) (by kernel_rfl) (show laidMet Tryz.prog (("internal/strconv.uint64pow10", tabData .u64 Lib.pow10Tab) :: _) W from h.tail.tail)
  intro i hi
  rw [ht.cell g2 i (by rw [Lib.pow10Tab_length]; exact hi), Lib.pow10Tab_at i hi]
namespace valueReads
set_option maxRecDepth 100000 in
theorem contract (H : Type) (enc : TypeId × Value → H) (W : World) (base : Nat) (args : Array Value) (ds gs : List (DataW H)) (before : List MemPlace)
    (hval : ∀ (j : Nat) t v, Tryz.f3.params[j]? = some t → args[j]? = some v → Value.okWide Tryz.prog W .any base t v)
    (hW : DataW.Whole enc Tryz.prog Tryz.f3.params.toList Rows.valueReadsSpec.vars false W args.toList ds gs before)
    (hsz : (DataW.weightsEach Tryz.prog (Tryz.f3.params.toList ++ Rows.valueReadsSpec.plain.varTypes Tryz.prog) (ds ++ gs)).all (· ≤ reachBytes) = true)
    (hL : laidMet Tryz.prog laidL W) (hS : W.ShapedOpen Tryz.prog) :
    Calls Tryz.prog 3 args W fun e W' => ∃ v, e = .returned v ∧ Rows.valueReadsSpec.post enc Tryz.prog Tryz.f3 false true false false W args v W' := by
  have hW' := hW
  obtain ⟨p, q, hA0, hV, rfl, hfz, hnd⟩ := hW
  have hA : DataW.TrodAll enc Tryz.prog W 0 (fun _ => true) true Tryz.f3.params.toList args.toList ds p := hA0
  rw [Tryz.params3] at hA hval hsz
  obtain ⟨v0, vs0, d0, ds0, p0, q0, hargs, rfl, rfl, h0, r0⟩ := trodAll_cons hA
  obtain ⟨v1, vs1, d1, ds1, p1, q1, hargs1, rfl, rfl, h1, r1⟩ := trodAll_cons r0
  obtain ⟨rfl, rfl, rfl⟩ := trodAll_nil r1
  obtain rfl : args = #[v0, v1] := by cases args; simp_all
  obtain ⟨rfl, rfl⟩ := trodVars_none hV
  obtain ⟨a2, rfl, rfl, rfl, y2⟩ := open_string Tryz.underlying9 (hval 0 9 v0 rfl rfl) h0
  obtain ⟨n1, rfl, rfl, rfl, y3⟩ := open_int Tryz.underlying3 (hval 1 3 v1 rfl rfl) h1
  have hl : a2.data.toList.length ≤ 140737488351232 := sized_string hsz (j := 0) (t := 9) rfl rfl
  clear hA0 hsz
  obtain ⟨t3, p3, hp3⟩ := errSyntax_cell hL
  obtain ⟨t4, p4, hp4⟩ := errRange_cell hL
  have e2 : (⟨a2.data.toList.toArray⟩ : ByteArray) = a2 := by simp
  have hcalls : Calls Tryz.prog 3 #[.string a2, .int .i64 n1] W fun e w' => ∃ u, e = .returned u ∧ rel (.v (.bool true)) (cx0 Tryz.prog (fun _ => False) (fun _ => False) w') u ∧ Below W.heap.size W w' := by
    refine calls_ofN (valueReads_ev (gamN_gl t3 p3 t4 p4) a2.data.toList hl n1) (pow10_cells hL) hp3 hp4 ?_
    simp only [relL, rel]
    exact ⟨_, _, rfl, by rw [e2], _, _, rfl, rfl, rfl⟩
  refine hcalls.mono fun e W' ⟨u, he, hu, bel⟩ => ?_
  simp only [rel] at hu
  subst he
  subst hu
  exact ⟨_, rfl, _, _, _, [], _, [], hW', trodAll_mk1 (shut_bool Tryz.underlying4 _), (trodAll_cons_mk (shut_string Tryz.underlying9 y2) (trodAll_cons_mk (shut_int Tryz.underlying3 y3) trodAll_mk0)), rfl, bel.frame _, fun h => by cases h⟩
theorem witness_row (os : Os) {H : Type} (enc : TypeId × Value → H) : (OpenSpec.ofChange Rows.valueReadsSpec).preRow enc Tryz.prog Tryz.f3 Rows.valueReadsRow.domain false Rows.valueReadsRow.laid ((laidWorld os).forCall (fun _ _ => 0) ⟨#[], #[.string ByteArray.empty, .int .i64 0], []⟩).memory #[.string ByteArray.empty, .int .i64 0] := by
  have hw : ((DataW.whole enc Tryz.prog ((laidWorld os).forCall (fun _ _ => 0) ⟨#[], #[.string ByteArray.empty, .int .i64 0], []⟩).memory Tryz.f3.params.toList Rows.valueReadsSpec.vars false #[Value.string ByteArray.empty, .int .i64 0].toList 8).map (fun x => (x.1, x.2.1))).isSome = true := by kernel_rfl
  obtain ⟨x, hx⟩ := Option.isSome_iff_exists.1 hw
  obtain ⟨⟨x1, x2, x3⟩, hx', hx1⟩ := Option.map_eq_some_iff.1 hx
  exact OpenSpec.preRow_of_cond 8 hx' (by kernel_rfl) (fun k hk => by cases hk) (by kernel_rfl) (laid_met os _)
set_option maxRecDepth 100000 in
theorem lifted (os : Os) (started : os.Started) (H : Type) (enc : TypeId × Value → H) (F : Stop.Interp) :
    ReturnsInHanded {} Tryz.checked os 3 .any ((OpenSpec.ofChange Rows.valueReadsSpec).preRow enc Tryz.prog Tryz.f3 Rows.valueReadsRow.domain false Rows.valueReadsRow.laid) (((OpenSpec.ofChange Rows.valueReadsSpec).at F).post enc Tryz.prog Tryz.f3 false true false false) := by
  refine returnsInHanded_of_row (C := Tryz.checked) (s := OpenSpec.ofChange Rows.valueReadsSpec) own started (by kernel_rfl) Tryz.func3
    (witness_row_atRef (enc := enc) (C := Tryz.checked) false (laidWorld os) #[.string ByteArray.empty, .int .i64 0] rfl (by kernel_rfl) (by kernel_rfl) (by kernel_rfl) (witness_row os enc)) ?_
  intro W base args ds gs before hval hW _ _ hsz hL hS _
  exact contract H enc W base args ds gs before hval hW hsz hL hS
theorem facts1 : (Rows.valueReadsRow.inPlace == Tryz.prog.inPlace 3) = true := by kernel_rfl
theorem facts2 : (Rows.valueReadsRow.unfollowed == Tryz.prog.unfollowed 3) = true := by kernel_rfl
theorem facts3 : (Rows.valueReadsRow.recurses == Tryz.prog.recurses 3) = true := by kernel_rfl
theorem facts4 : (Rows.valueReadsRow.named == Tryz.prog.varsNamed 3) = true := by kernel_rfl
theorem facts : joinedFacts Tryz.prog 3 Tryz.f3 (OpenSpec.ofChange Rows.valueReadsSpec).bare Rows.valueReadsRow = true := by
  unfold joinedFacts
  rw [facts1, facts2, facts3, facts4]
  kernel_rfl
theorem said : Rows.ValueReadsSaid :=
  OpenClaim.holds_of_cond 3 Tryz.f3 rfl rfl rfl rfl rfl rfl rfl ⟨rfl, rfl, rfl, rfl, rfl⟩ rfl rfl rfl rfl rfl (by kernel_rfl) Tryz.func3 facts
    (of_decide_eq_true (by kernel_rfl)) (by unfold Func.isWrapper; first | (rw [if_pos (by decide +kernel)]; kernel_rfl) | (rw [if_neg (by decide +kernel)]; exact ⟨rfl, rfl⟩))
    (fun os started H enc _ F => by rw [OpenClaim.pre_eq_preRow]; exact lifted os started H enc F)
/-- No parameter wants a stand-in; the program's own looks are off: what the card asks. -/
theorem plain (f : FuncId) (fn : Func) (hf : Tryz.pinned.checked.prog.funcNamed "chordmail/chordmaillaw02.ValueReads" = some f) (hfn : Tryz.pinned.checked.prog.funcs[f]? = some fn) :
    true = Tryz.pinned.checked.prog.looks [] ∧ ∀ (j : Nat) t, fn.params[j]? = some t → Tryz.pinned.checked.prog.wantsStandIn t = false := by
  obtain rfl : f = 3 := Option.some.inj ((show Tryz.prog.funcNamed "chordmail/chordmaillaw02.ValueReads" = some 3 by kernel_rfl).symm.trans hf) |>.symm
  obtain rfl : fn = Tryz.f3 := (Option.some.inj (Tryz.func3.symm.trans hfn)).symm
  refine ⟨by kernel_rfl, fun j t ht => ?_⟩
  rw [Tryz.params3] at ht
  have hm : t = 9 ∨ t = 3 := by simpa using Array.mem_of_getElem? ht
  rcases hm with rfl | rfl
  · exact (show Tryz.prog.wantsStandIn 9 = false by kernel_rfl)
  · exact (show Tryz.prog.wantsStandIn 3 = false by kernel_rfl)
end valueReads
theorem valueReads_holds : Rows.ValueReadsCardSaid :=
  Claim7.holds_tied_plain_at .later [] _ _ _ _ valueReads.said (fun _ h => by cases h) (by kernel_rfl) (fun _ h => by cases h) valueReads_row_tie rfl ⟨rfl, rfl⟩ (by kernel_rfl) rfl valueReads.plain (by kernel_rfl)
#print axioms valueReads_holds
end Go.Proofs.YtlobiioioicmhaaGreatDoor
