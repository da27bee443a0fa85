/- Contracts of the functions that the law reaches. -/
import Derived.Test.YtlobiioioicmhaaGreatDoorQC
import Derived.Lib.LaidTab
/- ExprReads, where what it reads is of bulk at most 1048576: for every list of tokens and every number the law answers true, and its arguments read afterwards as they did: her row, and the card over it. -/
namespace Go.Proofs.YtlobiioioicmhaaGreatDoor
set_option linter.all false
open Go Go.Ev Go.Lib
open Go.ChangeShapes Go.WideShapes Go.ChangeAt Go.RowKit
open Go.ChangeMaps (open_string shut_string)
/-- What is known of the package-level variables at the call. -/
def gam (m : Int) (te : TypeId) (pe : Value) : List (Nat × AV) := [(1, .ela false [.v (.int .i64 m)]), (3, .ela false [.v (.iface te pe)])]
theorem gam_gl (m : Int) (te : TypeId) (pe : Value) : Gl (gam m te pe) := ⟨⟨m, rfl⟩, te, pe, rfl⟩
theorem gam_glw (m : Int) (te : TypeId) (pe : Value) : GlW (gam m te pe) := by
  intro k
  unfold gam
  simp only [Go.Ev.look]
  split
  · exact .inr ⟨_, rfl⟩
  · split
    · exact .inr ⟨_, rfl⟩
    · exact .inl rfl
theorem gam_ok {m : Int} {te : TypeId} {pe : Value} {W : World} (h1 : W.cell? ⟨1, 0, none⟩ = some (.int .i64 m)) (h4 : W.cell? ⟨3, 0, none⟩ = some (.iface te pe)) : glOK (gam m te pe) W := by
  have lt : ∀ g u, W.cell? ⟨g, 0, none⟩ = some u → g < W.heap.size := fun g u h => by
    by_cases hg : g < W.heap.size
    · exact hg
    · unfold World.cell? at h
      simp only [Array.getElem?_eq_none (Nat.le_of_not_lt hg)] at h
      cases h
  intro k x e
  unfold gam at e
  simp only [Go.Ev.look] at e
  split at e
  · rename_i hk; subst hk
    simp only [AV.ela.injEq, List.cons.injEq, AV.v.injEq, and_true, true_and] at e
    subst e
    exact ⟨lt _ _ h1, h1⟩
  · split at e
    · rename_i hk; subst hk
      simp only [AV.ela.injEq, List.cons.injEq, AV.v.injEq, and_true, true_and] at e
      subst e
      exact ⟨lt _ _ h4, h4⟩
    · cases e
/-- A contract of the evaluator, at a world that holds what the rows list. -/
theorem calls_of_ev {f : FuncId} {args : List AV} {res : AV} {m : Int} {te : TypeId} {pe : Value} {W : World} {vs : Array Value} (h : Ev Tryz.prog (gam m te pe) f args res)
    (h1 : W.cell? ⟨1, 0, none⟩ = some (.int .i64 m)) (h4 : W.cell? ⟨3, 0, none⟩ = some (.iface te pe)) (hr : relL args (cx0 Tryz.prog (fun _ => False) (fun _ => False) W) vs.toList) :
    Calls Tryz.prog f vs W fun e w' => ∃ u, e = .returned u ∧ rel res (cx0 Tryz.prog (fun _ => False) (fun _ => False) w') u ∧ Below W.heap.size W w' :=
  h _ _ W vs (fun _ h => h.elim) (fun k => gl_rel (c := cx0 Tryz.prog (fun _ => False) (fun _ => False) W) (gam_glw m te pe) (gam_ok h1 h4) rfl (fun r hr => ⟨hr, fun h => h⟩) k) hr
namespace exprReads
set_option maxRecDepth 100000 in
theorem contract (H : Type) (enc : TypeId × Value → H) (W : World) (base : Nat) (args : Array Value) (ds gs : List (DataW H)) (before : List MemPlace)
    (hval : ∀ (j : Nat) t v, Tryz.f5.params[j]? = some t → args[j]? = some v → Value.okWide Tryz.prog W .any base t v)
    (hW : DataW.Whole enc Tryz.prog Tryz.f5.params.toList Rows.exprReadsSpec.vars false W args.toList ds gs before)
    (hb : Rows.uptoBulkAll (ds ++ gs) ≤ 1048576)
    (hL : laidMet Tryz.prog laidL W) (hS : W.ShapedOpen Tryz.prog) :
    Calls Tryz.prog 5 args W fun e W' => ∃ v, e = .returned v ∧ Rows.exprReadsSpec.post enc Tryz.prog Tryz.f5 false true false false W args v W' := by
  have hW' := hW
  obtain ⟨p, q, hA0, hV, rfl, hfz, hnd⟩ := hW
  have hA : DataW.TrodAll enc Tryz.prog W 0 (fun _ => true) true Tryz.f5.params.toList args.toList ds p := hA0
  rw [Tryz.params5] at hA hval
  obtain ⟨v0, vs0, d0, ds0, p0, q0, hargs, rfl, rfl, h0, r0⟩ := trodAll_cons hA
  obtain ⟨v1, vs1, d1, ds1, p1, q1, rfl, rfl, rfl, h1, r1⟩ := trodAll_cons r0
  obtain ⟨rfl, rfl, rfl⟩ := trodAll_nil r1
  obtain rfl : args = #[v0, v1] := by cases args; simp_all
  obtain ⟨rfl, rfl⟩ := trodVars_none hV
  have hs0 := okWide_sl Tryz.underlying47 (hval 0 47 v0 rfl rfl)
  have k0 := h0
  have lt0 : ∀ x ∈ p0, x.block < W.heap.size := by obtain ⟨m, hm⟩ := k0; exact DataW.trod_lt m _ _ _ hm
  let c : Cx := cx0 Tryz.prog (fun _ => False) (fun _ => False) W
  have hb0 : Rows.uptoBulk d0 ≤ 1048576 := by
    have e : Rows.uptoBulkAll ([d0, d1] ++ ([] : List (DataW H))) = Rows.uptoBulk d0 + (Rows.uptoBulk d1 + 0) := by simp only [List.cons_append, List.nil_append, Rows.uptoBulkAll]
    rw [e] at hb
    omega
  obtain ⟨L, ts, hLA, hr, hok, hn⟩ := toks_open (c := c) rfl (fun r hr => ⟨hr, by simp⟩) hs0 h0 hb0
  obtain ⟨a1, rfl, rfl, rfl, w1⟩ := open_int Tryz.underlying3 (hval 1 3 v1 rfl rfl) h1
  clear hA0 hb
  obtain ⟨m, hm⟩ := maxLen_cell hS
  obtain ⟨te, pe, hpe⟩ := errRange_cell hL
  have hcalls : Calls Tryz.prog 5 #[v0, .int .i64 a1] W fun e w' => ∃ u, e = .returned u ∧ rel (.v (.bool true)) (cx0 Tryz.prog (fun _ => False) (fun _ => False) w') u ∧ Below W.heap.size W w' := by
    refine calls_of_ev (exprReads_ev (gam_gl m te pe) (gam_glw m te pe) hLA hok hn a1) hm hpe ?_
    simp only [relL]
    exact ⟨_, _, rfl, hr, _, _, rfl, by simp only [rel], rfl⟩
  refine hcalls.mono fun e W' ⟨u, he, hu, bel⟩ => ?_
  simp only [rel] at hu
  subst he
  subst hu
  exact ⟨_, rfl, _, _, _, [], _, [], hW', trodAll_mk1 (shut_bool Tryz.underlying4 _), (trodAll_cons_mk (Below.trod laidOut (by kernel_rfl) (of_decide_eq_true (by kernel_rfl)) k0 bel lt0) (trodAll_cons_mk (shut_int Tryz.underlying3 w1) trodAll_mk0)), rfl, bel.frame _, fun h => by cases h⟩
theorem witness_row (os : Os) {H : Type} (enc : TypeId × Value → H) : (Rows.OpenSpec.upto Rows.exprReadsSpec).preRow enc Tryz.prog Tryz.f5 Rows.exprReadsUptoRow.domain false Rows.exprReadsUptoRow.laid ((laidWorld os).forCall (fun _ _ => 0) ⟨#[], #[.slice none 0 0, .int .i64 0], []⟩).memory #[.slice none 0 0, .int .i64 0] := by
  have hw : ((DataW.whole enc Tryz.prog ((laidWorld os).forCall (fun _ _ => 0) ⟨#[], #[.slice none 0 0, .int .i64 0], []⟩).memory Tryz.f5.params.toList Rows.exprReadsSpec.vars false #[Value.slice none 0 0, .int .i64 0].toList 8).map (fun x => (x.1, x.2.1))) = some ([.nil, .lit (.int .i64 0)], []) := by kernel_rfl
  obtain ⟨⟨x1, x2, x3⟩, hx', hx1⟩ := Option.map_eq_some_iff.1 hw
  obtain ⟨rfl, rfl⟩ : x1 = [.nil, .lit (.int .i64 0)] ∧ x2 = [] := by simpa using hx1
  exact OpenSpec.preRow_of_cond 8 hx' (by kernel_rfl) (fun k hk => by cases hk; kernel_rfl) (by kernel_rfl) (laid_met os _)
set_option maxRecDepth 100000 in
theorem lifted (os : Os) (started : os.Started) (H : Type) (enc : TypeId × Value → H) (F : Stop.Interp) :
    ReturnsInHanded {} Tryz.checked os 5 .any ((Rows.OpenSpec.upto Rows.exprReadsSpec).preRow enc Tryz.prog Tryz.f5 Rows.exprReadsUptoRow.domain false Rows.exprReadsUptoRow.laid) (((Rows.OpenSpec.upto Rows.exprReadsSpec).at F).post enc Tryz.prog Tryz.f5 false true false false) := by
  refine returnsInHanded_of_row (C := Tryz.checked) (s := Rows.OpenSpec.upto Rows.exprReadsSpec) own started (by kernel_rfl) Tryz.func5
    (witness_row_atRef (enc := enc) (C := Tryz.checked) false (laidWorld os) #[.slice none 0 0, .int .i64 0] rfl (by kernel_rfl) (by kernel_rfl) (by kernel_rfl) (witness_row os enc)) ?_
  intro W base args ds gs before hval hW _ hcond hsz hL hS _
  exact contract H enc W base args ds gs before hval hW (of_decide_eq_true (hcond _ rfl)) hL hS
theorem facts1 : (Rows.exprReadsUptoRow.inPlace == Tryz.prog.inPlace 5) = true := by kernel_rfl
theorem facts2 : (Rows.exprReadsUptoRow.unfollowed == Tryz.prog.unfollowed 5) = true := by kernel_rfl
theorem facts3 : (Rows.exprReadsUptoRow.recurses == Tryz.prog.recurses 5) = true := by kernel_rfl
theorem facts4 : (Rows.exprReadsUptoRow.named == Tryz.prog.varsNamed 5) = true := by kernel_rfl
theorem facts : joinedFacts Tryz.prog 5 Tryz.f5 (Rows.OpenSpec.upto Rows.exprReadsSpec).bare Rows.exprReadsUptoRow = true := by
  unfold joinedFacts
  rw [facts1, facts2, facts3, facts4]
  kernel_rfl
theorem said : Rows.ExprReadsUptoSaid :=
  OpenClaim.holds_of_cond 5 Tryz.f5 rfl rfl rfl rfl rfl rfl rfl ⟨rfl, rfl, rfl, rfl, rfl⟩ rfl rfl rfl rfl rfl (by kernel_rfl) Tryz.func5 facts
    (of_decide_eq_true (by kernel_rfl)) (by unfold Func.isWrapper; first | (rw [if_pos (by decide +kernel)]; kernel_rfl) | (rw [if_neg (by decide +kernel)]; exact ⟨rfl, rfl⟩))
    (fun os started H enc _ F => by rw [OpenClaim.pre_eq_preRow]; exact lifted os started H enc F)
/-- No parameter wants a stand-in; the program's own looks are off: what the card asks. -/
theorem plain (f : FuncId) (fn : Func) (hf : Tryz.pinned.checked.prog.funcNamed "chordmail/chordmaillaw05.ExprReads" = some f) (hfn : Tryz.pinned.checked.prog.funcs[f]? = some fn) :
    true = Tryz.pinned.checked.prog.looks [] ∧ ∀ (j : Nat) t, fn.params[j]? = some t → Tryz.pinned.checked.prog.wantsStandIn t = false := by
  obtain rfl : f = 5 := Option.some.inj ((show Tryz.prog.funcNamed "chordmail/chordmaillaw05.ExprReads" = some 5 by kernel_rfl).symm.trans hf) |>.symm
  obtain rfl : fn = Tryz.f5 := (Option.some.inj (Tryz.func5.symm.trans hfn)).symm
  refine ⟨by kernel_rfl, fun j t ht => ?_⟩
  rw [Tryz.params5] at ht
  have hm : t = 47 ∨ t = 3 := by simpa using Array.mem_of_getElem? ht
  rcases hm with rfl | rfl
  · exact (show Tryz.prog.wantsStandIn 47 = false by kernel_rfl)
  · exact (show Tryz.prog.wantsStandIn 3 = false by kernel_rfl)
end exprReads
theorem exprReads_holds : Rows.ExprReadsUptoCardSaid :=
  Claim7.holds_tied_plain_at .later [] _ _ _ _ exprReads.said (fun _ h => by cases h) (by kernel_rfl) (fun _ h => by cases h) exprReadsUpto_row_tie rfl ⟨rfl, rfl⟩ (by kernel_rfl) rfl exprReads.plain (by kernel_rfl)
#print axioms exprReads_holds
end Go.Proofs.YtlobiioioicmhaaGreatDoor
