/- A part of the proof. -/
import Derived.Test.YtplnhipgifcafaaDoorQ7
import Derived.Test.YtplnhipgifcafaaDoorQ8
import Derived.Lib.LaidTab
/- ValueOne: for every text the law answers true: her row, and the card over it. -/
namespace Go.Proofs.YtplnhipgifcafaaDoor
set_option linter.all false
open Go Go.Ev Go.Lib
open Go.ChangeShapes Go.WideShapes Go.ChangeAt Go.RowKit
open Go.ChangeMaps (open_string shut_string)
/-- What is known of the package-level variables at the call. -/
def gamN (t3 : TypeId) (p3 : Value) (t4 : TypeId) (p4 : Value) : List (Nat × AV) := [(2, .ela false pow10A), (3, .ela false [.v (.iface t3 p3)]), (4, .ela false [.v (.iface t4 p4)])]
theorem gamN_gl (t3 : TypeId) (p3 : Value) (t4 : TypeId) (p4 : Value) : GlN (gamN t3 p3 t4 p4) := ⟨rfl, ⟨t3, p3, rfl⟩, t4, p4, rfl⟩
theorem cell_lt {W : World} {g i : Nat} {u : Value} (h : W.cell? ⟨g, i, none⟩ = some u) : g < W.heap.size := by
  by_cases hg : g < W.heap.size
  · exact hg
  · unfold World.cell? at h
    simp only [Array.getElem?_eq_none (Nat.le_of_not_lt hg)] at h
    cases h
theorem calls_ofN {f : FuncId} {args : List AV} {res : AV} {t3 : TypeId} {p3 : Value} {t4 : TypeId} {p4 : Value} {W : World} {vs : Array Value} (h : Ev Tryd.prog (gamN t3 p3 t4 p4) f args res)
    (h2 : tabC 2 W) (h3 : W.cell? ⟨3, 0, none⟩ = some (.iface t3 p3)) (h4 : W.cell? ⟨4, 0, none⟩ = some (.iface t4 p4)) (hr : relL args (cx0 Tryd.prog (fun _ => False) (fun _ => False) W) vs.toList) :
    Calls Tryd.prog f vs W fun e w' => ∃ u, e = .returned u ∧ rel res (cx0 Tryd.prog (fun _ => False) (fun _ => False) w') u ∧ Below W.heap.size W w' := by
  refine h _ _ W vs (fun _ h => h.elim) (fun k => ?_) hr
  have one : ∀ g (x : Value), W.cell? ⟨g, 0, none⟩ = some x → rel (.ela false [.v x]) (cx0 Tryd.prog (fun _ => False) (fun _ => False) W) (.pointer (some ⟨g, 0, none⟩)) := fun g x hx => by
    simp only [rel, relAt]
    exact ⟨g, 0, rfl, ⟨cell_lt hx, fun h => h⟩, ⟨x, hx, rfl⟩, trivial⟩
  unfold gamN
  simp only [Go.Ev.look]
  split
  · rename_i hk
    subst hk
    refine ⟨by decide, ?_⟩
    rw [rel]
    refine ⟨2, 0, rfl, ⟨cell_lt (h2 0 (by decide)), fun h => h⟩, relAt_of_get fun j x hj => ?_⟩
    unfold pow10A at hj
    simp only [List.getElem?_map] at hj
    by_cases h20 : j < 20
    · simp only [List.getElem?_range h20, Option.map_some, Option.some.injEq] at hj
      subst hj
      refine ⟨_, ?_, rel_v _ _⟩
      have := h2 j h20
      simpa [Cx.shut, cx0] using this
    · rw [List.getElem?_eq_none (by simpa using h20)] at hj
      cases hj
  · split
    · rename_i hk
      subst hk
      exact ⟨rfl, one _ _ h3⟩
    · split
      · rename_i hk
        subst hk
        exact ⟨rfl, one _ _ h4⟩
      · exact ⟨rfl, by simp only [rel]⟩
theorem errSyntax_cell {W : World} (h : laidMet Tryd.prog laidL W) : ∃ te pe, W.cell? ⟨3, 0, none⟩ = some (.iface te pe) := by
  have gR : Tryd.prog.globalNamed "strconv.ErrSyntax" = some 3 := by kernel_rfl
  obtain ⟨a, s, hv, _⟩ := laid_sentinel (n := "strconv.ErrSyntax") (nm := "*errors.errorString") (ti := 93) (tp := 155) (te := 157) (ts := 9) h.tail.tail.tail.tail gR (by kernel_rfl) Tryd.underlying93
    (fun u hu => typeName_ptr_named (nm := "errors.errorString") (by kernel_rfl) (by kernel_rfl) (by decide) u hu) Tryd.underlying155 Tryd.underlying157 rfl rfl Tryd.underlying9 (by kernel_rfl) (by kernel_rfl)
  exact ⟨155, .pointer (some a), by simpa using World.var?_cell gR hv 0⟩
theorem pow10_cells {W : World} (h : laidMet Tryd.prog laidL W) : tabC 2 W := by
  have g2 : Tryd.prog.globalNamed "internal/strconv.uint64pow10" = some 2 := by kernel_rfl
  have ht := tabIs_of_head (zs := Lib.pow10Tab) (k := .u64) (n := 20) (t := 139) (e := 49) g2 (by kernel_rfl) Tryd.underlying139 Tryd.underlying49 (by kernel_rfl) (by kernel_rfl) (show laidMet Tryd.prog (("internal/strconv.uint64pow10", tabData .u64 Lib.pow10Tab) :: _) W from h.tail.tail)
  intro i hi
  rw [ht.cell g2 i (by rw [Lib.pow10Tab_length]; exact hi), Lib.pow10Tab_at i hi]
namespace valueOne
set_option maxRecDepth 100000 in
theorem contract (H : Type) (enc : TypeId × Value → H) (W : World) (base : Nat) (args : Array Value) (ds gs : List (DataW H)) (before : List MemPlace)
    (hval : ∀ (j : Nat) t v, Tryd.f10.params[j]? = some t → args[j]? = some v → Value.okWide Tryd.prog W .any base t v)
    (hW : DataW.Whole enc Tryd.prog Tryd.f10.params.toList Rows.valueOneSpec.vars false W args.toList ds gs before)
    (hsz : (DataW.weightsEach Tryd.prog (Tryd.f10.params.toList ++ Rows.valueOneSpec.plain.varTypes Tryd.prog) (ds ++ gs)).all (· ≤ reachBytes) = true)
    (hL : laidMet Tryd.prog laidL W) (hS : W.ShapedOpen Tryd.prog) :
    Calls Tryd.prog 10 args W fun e W' => ∃ v, e = .returned v ∧ Rows.valueOneSpec.post enc Tryd.prog Tryd.f10 false true false false W args v W' := by
  have hW' := hW
  obtain ⟨p, q, hA0, hV, rfl, hfz, hnd⟩ := hW
  have hA : DataW.TrodAll enc Tryd.prog W 0 (fun _ => true) true Tryd.f10.params.toList args.toList ds p := hA0
  rw [Tryd.params10] at hA hval hsz
  obtain ⟨v0, vs0, d0, ds0, p0, q0, hargs, rfl, rfl, h0, r0⟩ := trodAll_cons hA
  obtain ⟨rfl, rfl, rfl⟩ := trodAll_nil r0
  obtain rfl : args = #[v0] := by cases args; simp_all
  obtain ⟨rfl, rfl⟩ := trodVars_none hV
  obtain ⟨a2, rfl, rfl, rfl, y2⟩ := open_string Tryd.underlying9 (hval 0 9 v0 rfl rfl) h0
  have hl : a2.data.toList.length ≤ 140737488351232 := sized_string hsz (j := 0) (t := 9) rfl rfl
  clear hA0 hsz
  obtain ⟨t3, p3, hp3⟩ := errSyntax_cell hL
  obtain ⟨t4, p4, hp4⟩ := errRange_cell hL
  have e2 : (⟨a2.data.toList.toArray⟩ : ByteArray) = a2 := by simp
  have hcalls : Calls Tryd.prog 10 #[.string a2] W fun e w' => ∃ u, e = .returned u ∧ rel (.v (.bool true)) (cx0 Tryd.prog (fun _ => False) (fun _ => False) w') u ∧ Below W.heap.size W w' := by
    refine calls_ofN (valueOne_ev (gamN_gl t3 p3 t4 p4) a2.data.toList hl) (pow10_cells hL) hp3 hp4 ?_
    simp only [relL, rel]
    exact ⟨_, _, rfl, by rw [e2], rfl⟩
  refine hcalls.mono fun e W' ⟨u, he, hu, bel⟩ => ?_
  simp only [rel] at hu
  subst he
  subst hu
  exact ⟨_, rfl, _, _, _, [], _, [], hW', trodAll_mk1 (shut_bool Tryd.underlying4 _), (trodAll_cons_mk (shut_string Tryd.underlying9 y2) trodAll_mk0), rfl, bel.frame _, fun h => by cases h⟩
theorem witness_row (os : Os) {H : Type} (enc : TypeId × Value → H) : (OpenSpec.ofChange Rows.valueOneSpec).preRow enc Tryd.prog Tryd.f10 Rows.valueOneRow.domain false Rows.valueOneRow.laid ((laidWorld os).forCall (fun _ _ => 0) ⟨#[], #[.string ByteArray.empty], []⟩).memory #[.string ByteArray.empty] := by
  have hw : ((DataW.whole enc Tryd.prog ((laidWorld os).forCall (fun _ _ => 0) ⟨#[], #[.string ByteArray.empty], []⟩).memory Tryd.f10.params.toList Rows.valueOneSpec.vars false #[Value.string ByteArray.empty].toList 8).map (fun x => (x.1, x.2.1))).isSome = true := by kernel_rfl
  obtain ⟨x, hx⟩ := Option.isSome_iff_exists.1 hw
  obtain ⟨⟨x1, x2, x3⟩, hx', hx1⟩ := Option.map_eq_some_iff.1 hx
  exact OpenSpec.preRow_of_cond 8 hx' (by kernel_rfl) (fun k hk => by cases hk) (by kernel_rfl) (laid_met os _)
set_option maxRecDepth 100000 in
theorem lifted (os : Os) (started : os.Started) (H : Type) (enc : TypeId × Value → H) (F : Stop.Interp) :
    ReturnsInHanded {} Tryd.checked os 10 .any ((OpenSpec.ofChange Rows.valueOneSpec).preRow enc Tryd.prog Tryd.f10 Rows.valueOneRow.domain false Rows.valueOneRow.laid) (((OpenSpec.ofChange Rows.valueOneSpec).at F).post enc Tryd.prog Tryd.f10 false true false false) := by
  refine returnsInHanded_of_row (C := Tryd.checked) (s := OpenSpec.ofChange Rows.valueOneSpec) own started (by kernel_rfl) Tryd.func10
    (witness_row_atRef (enc := enc) (C := Tryd.checked) false (laidWorld os) #[.string ByteArray.empty] rfl (by kernel_rfl) (by kernel_rfl) (by kernel_rfl) (witness_row os enc)) ?_
  intro W base args ds gs before hval hW _ _ hsz hL hS _
  exact contract H enc W base args ds gs before hval hW hsz hL hS
theorem said : Rows.ValueOneSaid :=
  OpenClaim.holds_of_cond 10 Tryd.f10 rfl rfl rfl rfl rfl rfl rfl ⟨rfl, rfl, rfl, rfl, rfl⟩ rfl rfl rfl rfl rfl (by kernel_rfl) Tryd.func10 (by kernel_rfl)
    (of_decide_eq_true (by kernel_rfl)) (by unfold Func.isWrapper; first | (rw [if_pos (by decide +kernel)]; kernel_rfl) | (rw [if_neg (by decide +kernel)]; exact ⟨rfl, rfl⟩))
    (fun os started H enc _ F => by rw [OpenClaim.pre_eq_preRow]; exact lifted os started H enc F)
/-- No parameter wants a stand-in; the program's own looks are off: what the card asks. -/
theorem plain (f : FuncId) (fn : Func) (hf : Tryd.pinned.checked.prog.funcNamed "chordmail/chordmaillaw02.ValueOne" = some f) (hfn : Tryd.pinned.checked.prog.funcs[f]? = some fn) :
    true = Tryd.pinned.checked.prog.looks [] ∧ ∀ (j : Nat) t, fn.params[j]? = some t → Tryd.pinned.checked.prog.wantsStandIn t = false := by
  obtain rfl : f = 10 := Option.some.inj ((show Tryd.prog.funcNamed "chordmail/chordmaillaw02.ValueOne" = some 10 by kernel_rfl).symm.trans hf) |>.symm
  obtain rfl : fn = Tryd.f10 := (Option.some.inj (Tryd.func10.symm.trans hfn)).symm
  refine ⟨by kernel_rfl, fun j t ht => ?_⟩
  rw [Tryd.params10] at ht
  have hm : t = 9 := by simpa using Array.mem_of_getElem? ht
  subst hm
  exact (show Tryd.prog.wantsStandIn 9 = false by kernel_rfl)
end valueOne
theorem valueOne_holds : Rows.ValueOneCardSaid :=
  Claim7.holds_tied_plain_at .later [] _ _ _ _ valueOne.said (fun _ h => by cases h) (by kernel_rfl) (fun _ h => by cases h) valueOne_row_tie rfl ⟨rfl, rfl⟩ (by kernel_rfl) rfl valueOne.plain (by kernel_rfl)
#print axioms valueOne_holds
end Go.Proofs.YtplnhipgifcafaaDoor
