/- Contracts of the functions that the law reaches. -/
import Derived.Test.YtlobiioioicmhaaGreatDoorQ9
import Derived.Test.YtlobiioioicmhaaGreatDoorQE
import Derived.Lib.LaidTab
/- ExprParses: for every text the law answers true, and the text reads afterwards as it did: her row, and the card over it. -/
namespace Go.Proofs.YtlobiioioicmhaaGreatDoor
set_option linter.all false
open Go Go.Ev Go.Lib
open Go.ChangeShapes Go.WideShapes Go.ChangeAt Go.RowKit
open Go.ChangeMaps (open_string shut_string)
/-- What is known of the package-level variables at the call. -/
def gam (m : Int) (te : TypeId) (pe : Value) : List (Nat × AV) := [(1, .ela false [.v (.int .i64 m)]), (3, .ela false [.v (.iface te pe)])]
theorem gam_gl (m : Int) (te : TypeId) (pe : Value) : Gl (gam m te pe) := ⟨⟨m, rfl⟩, te, pe, rfl⟩
theorem gam_glw (m : Int) (te : TypeId) (pe : Value) : GlW (gam m te pe) := by
  intro k
  unfold gam
  simp only [Go.Ev.look]
  split
  · exact .inr ⟨_, rfl⟩
  · split
    · exact .inr ⟨_, rfl⟩
    · exact .inl rfl
theorem gam_ok {m : Int} {te : TypeId} {pe : Value} {W : World} (h1 : W.cell? ⟨1, 0, none⟩ = some (.int .i64 m)) (h4 : W.cell? ⟨3, 0, none⟩ = some (.iface te pe)) : glOK (gam m te pe) W := by
  have lt : ∀ g u, W.cell? ⟨g, 0, none⟩ = some u → g < W.heap.size := fun g u h => by
    by_cases hg : g < W.heap.size
    · exact hg
    · unfold World.cell? at h
      simp only [Array.getElem?_eq_none (Nat.le_of_not_lt hg)] at h
      cases h
  intro k x e
  unfold gam at e
  simp only [Go.Ev.look] at e
  split at e
  · rename_i hk; subst hk
    simp only [AV.ela.injEq, List.cons.injEq, AV.v.injEq, and_true, true_and] at e
    subst e
    exact ⟨lt _ _ h1, h1⟩
  · split at e
    · rename_i hk; subst hk
      simp only [AV.ela.injEq, List.cons.injEq, AV.v.injEq, and_true, true_and] at e
      subst e
      exact ⟨lt _ _ h4, h4⟩
    · cases e
/-- A contract of the evaluator, at a world that holds what the rows list. -/
theorem calls_of_ev {f : FuncId} {args : List AV} {res : AV} {m : Int} {te : TypeId} {pe : Value} {W : World} {vs : Array Value} (h : Ev Tryz.prog (gam m te pe) f args res)
    (h1 : W.cell? ⟨1, 0, none⟩ = some (.int .i64 m)) (h4 : W.cell? ⟨3, 0, none⟩ = some (.iface te pe)) (hr : relL args (cx0 Tryz.prog (fun _ => False) (fun _ => False) W) vs.toList) :
    Calls Tryz.prog f vs W fun e w' => ∃ u, e = .returned u ∧ rel res (cx0 Tryz.prog (fun _ => False) (fun _ => False) w') u ∧ Below W.heap.size W w' :=
  h _ _ W vs (fun _ h => h.elim) (fun k => gl_rel (c := cx0 Tryz.prog (fun _ => False) (fun _ => False) W) (gam_glw m te pe) (gam_ok h1 h4) rfl (fun r hr => ⟨hr, fun h => h⟩) k) hr
namespace exprParses
set_option maxRecDepth 100000 in
theorem contract (H : Type) (enc : TypeId × Value → H) (W : World) (base : Nat) (args : Array Value) (ds gs : List (DataW H)) (before : List MemPlace)
    (hval : ∀ (j : Nat) t v, Tryz.f4.params[j]? = some t → args[j]? = some v → Value.okWide Tryz.prog W .any base t v)
    (hW : DataW.Whole enc Tryz.prog Tryz.f4.params.toList Rows.exprParsesSpec.vars false W args.toList ds gs before)
    (hsz : (DataW.weightsEach Tryz.prog (Tryz.f4.params.toList ++ Rows.exprParsesSpec.plain.varTypes Tryz.prog) (ds ++ gs)).all (· ≤ reachBytes) = true)
    (hL : laidMet Tryz.prog laidL W) (hS : W.ShapedOpen Tryz.prog) :
    Calls Tryz.prog 4 args W fun e W' => ∃ v, e = .returned v ∧ Rows.exprParsesSpec.post enc Tryz.prog Tryz.f4 false true false false W args v W' := by
  have hW' := hW
  obtain ⟨p, q, hA0, hV, rfl, hfz, hnd⟩ := hW
  have hA : DataW.TrodAll enc Tryz.prog W 0 (fun _ => true) true Tryz.f4.params.toList args.toList ds p := hA0
  rw [Tryz.params4] at hA hval hsz
  obtain ⟨v0, vs0, d0, ds0, p0, q0, hargs, rfl, rfl, h0, r0⟩ := trodAll_cons hA
  obtain ⟨rfl, rfl, rfl⟩ := trodAll_nil r0
  obtain rfl : args = #[v0] := by cases args; simp_all
  obtain ⟨rfl, rfl⟩ := trodVars_none hV
  have hs0 := okWide_sl Tryz.underlying37 (hval 0 37 v0 rfl rfl)
  obtain ⟨a0, len0, cap0, hv0⟩ := okWide_slice Tryz.underlying37 (hval 0 37 v0 rfl rfl)
  have k0 := h0
  have lt0 : ∀ x ∈ p0, x.block < W.heap.size := by obtain ⟨m, hm⟩ := k0; exact DataW.trod_lt m _ _ _ hm
  have y0 : len0 * 1 ≤ 140737488351232 := by
    rw [hv0] at h0
    exact size_ints hsz (j := 0) (t := 37) rfl rfl Tryz.underlying37 Tryz.underlying5 (by kernel_rfl) (by kernel_rfl) h0
  let c : Cx := cx0 Tryz.prog (fun _ => False) (fun _ => False) W
  have hrow : ∃ l : List UInt8, l.length = len0 ∧ ((v0 = .slice none 0 0 ∧ l = [] ∧ rel (.v (.slice none 0 0)) c v0) ∨ rel (.sl false l.length l.length (l.map byteC)) c v0) := by
    have h0' := h0
    rw [hv0] at h0'
    obtain ⟨fuel, hf⟩ := h0'
    rcases open_ints Tryz.underlying37 Tryz.underlying5 (by kernel_rfl) hf with ⟨hcs, _⟩ | ⟨x, l, cp, zs, hcs, _, hl, hm, hz, _, hcell, hwz⟩
    · simp [Value.cells] at hcs
      obtain ⟨rfl, rfl, rfl⟩ := hcs
      exact ⟨[], rfl, .inl ⟨hv0, rfl, by simp only [rel]; exact hv0⟩⟩
    · simp [Value.cells] at hcs
      obtain ⟨rfl, rfl, rfl⟩ := hcs
      exact rowAV (c := c) rfl (fun r hr => ⟨hr, by simp⟩) hv0 hs0 (by simpa using hz) (fun y hy => by cases hy; exact hcell) hwz
  clear hA0 hsz
  obtain ⟨l, hl, hrow⟩ := hrow
  have hl' : l.length ≤ 140737488351232 := by omega
  obtain ⟨m, hm⟩ := maxLen_cell hS
  obtain ⟨te, pe, hpe⟩ := errRange_cell hL
  have hcalls : Calls Tryz.prog 4 #[v0] W fun e w' => ∃ u, e = .returned u ∧ rel (.v (.bool true)) (cx0 Tryz.prog (fun _ => False) (fun _ => False) w') u ∧ Below W.heap.size W w' := by
    rcases hrow with ⟨rfl, rfl, hr⟩ | hr
    · refine calls_of_ev (exprParses_ev (gam_gl m te pe) (gam_glw m te pe) (.v (.slice none 0 0)) [] (by simp) lentM_nil) hm hpe ?_
      simp only [relL, rel]
      exact ⟨_, _, rfl, rfl, rfl⟩
    · refine calls_of_ev (exprParses_ev (gam_gl m te pe) (gam_glw m te pe) (.sl false l.length l.length (l.map byteC)) l hl' (lentM_ev false l hl')) hm hpe ?_
      simp only [relL]
      exact ⟨_, _, rfl, hr, rfl⟩
  refine hcalls.mono fun e W' ⟨u, he, hu, bel⟩ => ?_
  simp only [rel] at hu
  subst he
  subst hu
  exact ⟨_, rfl, _, _, _, [], _, [], hW', trodAll_mk1 (shut_bool Tryz.underlying4 _), (trodAll_cons_mk (Below.trod laidOut (by kernel_rfl) (of_decide_eq_true (by kernel_rfl)) k0 bel lt0) trodAll_mk0), rfl, bel.frame _, fun h => by cases h⟩
theorem witness_row (os : Os) {H : Type} (enc : TypeId × Value → H) : (OpenSpec.ofChange Rows.exprParsesSpec).preRow enc Tryz.prog Tryz.f4 Rows.exprParsesRow.domain false Rows.exprParsesRow.laid ((laidWorld os).forCall (fun _ _ => 0) ⟨#[], #[.slice none 0 0], []⟩).memory #[.slice none 0 0] := by
  have hw : ((DataW.whole enc Tryz.prog ((laidWorld os).forCall (fun _ _ => 0) ⟨#[], #[.slice none 0 0], []⟩).memory Tryz.f4.params.toList Rows.exprParsesSpec.vars false #[Value.slice none 0 0].toList 8).map (fun x => (x.1, x.2.1))).isSome = true := by kernel_rfl
  obtain ⟨x, hx⟩ := Option.isSome_iff_exists.1 hw
  obtain ⟨⟨x1, x2, x3⟩, hx', hx1⟩ := Option.map_eq_some_iff.1 hx
  exact OpenSpec.preRow_of_cond 8 hx' (by kernel_rfl) (fun k hk => by cases hk) (by kernel_rfl) (laid_met os _)
set_option maxRecDepth 100000 in
theorem lifted (os : Os) (started : os.Started) (H : Type) (enc : TypeId × Value → H) (F : Stop.Interp) :
    ReturnsInHanded {} Tryz.checked os 4 .any ((OpenSpec.ofChange Rows.exprParsesSpec).preRow enc Tryz.prog Tryz.f4 Rows.exprParsesRow.domain false Rows.exprParsesRow.laid) (((OpenSpec.ofChange Rows.exprParsesSpec).at F).post enc Tryz.prog Tryz.f4 false true false false) := by
  refine returnsInHanded_of_row (C := Tryz.checked) (s := OpenSpec.ofChange Rows.exprParsesSpec) own started (by kernel_rfl) Tryz.func4
    (witness_row_atRef (enc := enc) (C := Tryz.checked) false (laidWorld os) #[.slice none 0 0] rfl (by kernel_rfl) (by kernel_rfl) (by kernel_rfl) (witness_row os enc)) ?_
  intro W base args ds gs before hval hW _ _ hsz hL hS _
  exact contract H enc W base args ds gs before hval hW hsz hL hS
theorem facts1 : (Rows.exprParsesRow.inPlace == Tryz.prog.inPlace 4) = true := by kernel_rfl
theorem facts2 : (Rows.exprParsesRow.unfollowed == Tryz.prog.unfollowed 4) = true := by kernel_rfl
theorem facts3 : (Rows.exprParsesRow.recurses == Tryz.prog.recurses 4) = true := by kernel_rfl
theorem facts4 : (Rows.exprParsesRow.named == Tryz.prog.varsNamed 4) = true := by kernel_rfl
theorem facts : joinedFacts Tryz.prog 4 Tryz.f4 (OpenSpec.ofChange Rows.exprParsesSpec).bare Rows.exprParsesRow = true := by
  unfold joinedFacts
  rw [facts1, facts2, facts3, facts4]
  kernel_rfl
theorem said : Rows.ExprParsesSaid :=
  OpenClaim.holds_of_cond 4 Tryz.f4 rfl rfl rfl rfl rfl rfl rfl ⟨rfl, rfl, rfl, rfl, rfl⟩ rfl rfl rfl rfl rfl (by kernel_rfl) Tryz.func4 facts
    (of_decide_eq_true (by kernel_rfl)) (by unfold Func.isWrapper; first | (rw [if_pos (by decide +kernel)]; kernel_rfl) | (rw [if_neg (by decide +kernel)]; exact ⟨rfl, rfl⟩))
    (fun os started H enc _ F => by rw [OpenClaim.pre_eq_preRow]; exact lifted os started H enc F)
/-- No parameter wants a stand-in; the program's own looks are off: what the card asks. -/
theorem plain (f : FuncId) (fn : Func) (hf : Tryz.pinned.checked.prog.funcNamed "chordmail/chordmaillaw05.ExprParses" = some f) (hfn : Tryz.pinned.checked.prog.funcs[f]? = some fn) :
    true = Tryz.pinned.checked.prog.looks [] ∧ ∀ (j : Nat) t, fn.params[j]? = some t → Tryz.pinned.checked.prog.wantsStandIn t = false := by
  obtain rfl : f = 4 := Option.some.inj ((show Tryz.prog.funcNamed "chordmail/chordmaillaw05.ExprParses" = some 4 by kernel_rfl).symm.trans hf) |>.symm
  obtain rfl : fn = Tryz.f4 := (Option.some.inj (Tryz.func4.symm.trans hfn)).symm
  refine ⟨by kernel_rfl, fun j t ht => ?_⟩
  rw [Tryz.params4] at ht
  obtain rfl : t = 37 := by simpa using Array.mem_of_getElem? ht
  exact (show Tryz.prog.wantsStandIn 37 = false by kernel_rfl)
end exprParses
theorem exprParses_holds : Rows.ExprParsesCardSaid :=
  Claim7.holds_tied_plain_at .later [] _ _ _ _ exprParses.said (fun _ h => by cases h) (by kernel_rfl) (fun _ h => by cases h) exprParses_row_tie rfl ⟨rfl, rfl⟩ (by kernel_rfl) rfl exprParses.plain (by kernel_rfl)
#print axioms exprParses_holds
end Go.Proofs.YtlobiioioicmhaaGreatDoor
