import Derived.Test.YtpabcaldbphjmaaL3
import Derived.Test.YtpabcaldbphjmaaRows
import Derived.WalkKit
import Derived.ProofKit
import Derived.OpenShut
import Derived.ShutString
import Derived.ChangeOld
import Derived.SizedLaws
/- LexPlaces: for every text, every place and every string the law answers true, and its arguments read afterwards as they did. -/
namespace Go.Proofs.Ytpabcaldbphjmaa.lexPlaces
set_option linter.all false
open Go Go.Ev
open Go.ChangeShapes Go.WideShapes Go.ChangeAt Go.RowKit
open Go.ChangeMaps (open_string shut_string)
set_option linter.unusedVariables false
theorem own : ownKnob Try.prog.godebug = none := by kernel_rfl
theorem laidOut : laidOutB Try.prog = true := by kernel_rfl
/-- A slice that is handed in: nil, or of a block that is there. -/
theorem okWide_sl {P : Program} {w : World} {r : Reach} {base : Nat} {t e : TypeId} {v : Value} (ht : P.underlying t = some (.slice e)) (h : Value.okWide P w r base t v) :
    v = .slice none 0 0 ∨ ∃ b off len cap, v = .slice (some ⟨b, off, none⟩) len cap ∧ len ≤ cap ∧ b < w.heap.size := by
  simp only [Value.okWide, ht, Cell.okWide] at h
  cases v <;> simp_all [Cell.ok]
  rename_i a len cap
  cases a with
  | none => left; cases len <;> cases cap <;> simp_all
  | some a =>
    right
    have h' : len ≤ cap ∧ (cap : Int) ≤ 9223372036854775807 ∧ World.has P w r base a e cap := h
    obtain ⟨h1, _, _, hs, row, cells, hsh, _⟩ := h'
    obtain ⟨b, off, spot⟩ := a
    simp only at hs hsh
    subst hs
    refine ⟨b, off, len, cap, ⟨rfl, rfl, rfl⟩, h1, ?_⟩
    unfold World.shape? at hsh
    by_cases hb : b < w.heap.size
    · exact hb
    · rw [Array.getElem?_eq_none (by omega)] at hsh; cases hsh
theorem size_ints {H : Type} {enc : TypeId × Value → H} {P : Program} {W : World} {base : Nat} {spare : Nat → Bool} {held : Bool} {t e : TypeId} {k : IntKind} {a : Option Addr} {len cap : Nat} {d : DataW H} {ps : List MemPlace} {ts : List TypeId} {ds : List (DataW H)} {j : Nat}
    (hsz : (DataW.weightsEach P ts ds).all (· ≤ reachBytes) = true) (ht : ts[j]? = some t) (hd : ds[j]? = some d) (hu : P.underlying t = some (.slice e)) (he : P.underlying e = some (.int k)) (hc : P.cellsOf e = 1) {B : Nat} (hB : P.bytesOf e = B)
    (h : DataW.Trod enc P W base spare held t (.slice a len cap) d ps) : len * B ≤ 140737488351232 := by
  obtain ⟨fuel, hf⟩ := h
  rcases open_ints hu he hc hf with ⟨hcs, _⟩ | ⟨x, l, c, zs, hcs, _, hl, _, hz, hx, _, _⟩
  · simp [Value.cells] at hcs
    obtain ⟨rfl, rfl, rfl⟩ := hcs
    simp
  · simp [Value.cells] at hcs
    obtain ⟨rfl, rfl, rfl⟩ := hcs
    obtain ⟨hx, _⟩ := Prod.mk.inj hx
    subst hx
    have z := sized_slice hsz ht hd hu
    rw [hB] at z
    have hl2 : len ≤ zs.length := by
      rw [hz]
      split
      · exact hl
      · exact Nat.le_refl _
    have h1 : (lits (H := H) k (zs.take len)).length + (lits (H := H) k (zs.drop len)).length = zs.length := by
      simp [lits]
      omega
    rw [h1] at z
    exact Nat.le_trans (Nat.mul_le_mul_right _ hl2) z
/-- A row of bytes that is handed in, as the evaluator tells it. -/
theorem rowAV {W : World} {c : Cx} (hcw : c.w = W) (hok : ∀ r, r < W.heap.size → c.ok false r) {v : Value} {a : Option Addr} {len cap : Nat} {zs : List Int} (hv : v = .slice a len cap)
    (hs : v = .slice none 0 0 ∨ ∃ b off len cap, v = .slice (some ⟨b, off, none⟩) len cap ∧ len ≤ cap ∧ b < W.heap.size)
    (hz : zs.length = cap) (hcell : ∀ x, a = some x → ∀ i, i < zs.length → W.cell? (x.add i) = some (.int .u8 (zs.getD i 0))) (hw : ∀ n ∈ zs, (Lit.int .u8 n).wf = true) :
    ∃ l : List UInt8, l.length = len ∧ ((v = .slice none 0 0 ∧ l = [] ∧ rel (.v (.slice none 0 0)) c v) ∨ rel (.sl false l.length l.length (l.map byteC)) c v) := by
  rcases hs with rfl | ⟨b, off, len', cap', rfl, h1, h2⟩
  · cases hv
    exact ⟨[], rfl, .inl ⟨rfl, rfl, by simp only [rel]⟩⟩
  · cases hv
    have hl : ((zs.take len).map fun n => UInt8.ofNat n.toNat).length = len := by rw [List.length_map, List.length_take]; omega
    refine ⟨(zs.take len).map fun n => UInt8.ofNat n.toNat, hl, .inr ?_⟩
    rw [hl]
    simp only [rel]
    refine ⟨b, off, cap, rfl, Nat.le_refl _, h1, hok b h2, relAt_of_get fun j x hj => ?_⟩
    simp only [List.map_map, List.getElem?_map, List.getElem?_take] at hj
    split at hj
    · rename_i hjl
      have hjz : j < zs.length := by omega
      have hg : zs[j]? = some zs[j] := by simp [hjz]
      rw [hg] at hj
      simp only [Option.map_some, Option.some.injEq, Function.comp] at hj
      subst hj
      refine ⟨.int .u8 (UInt8.ofNat zs[j].toNat).toNat, ?_, by simp only [byteC, rel]⟩
      have := hcell _ rfl j hjz
      have ea : (⟨b, off, none⟩ : Addr).add j = ⟨b, off + j, none⟩ := by
        simp only [Addr.add]
        by_cases h0 : j = 0
        · subst h0; simp
        · simp [h0]
      rw [ea] at this
      rw [show c.shut.w = W from hcw, this]
      have hw' := hw zs[j] (List.getElem_mem hjz)
      have hzd : zs.getD j 0 = zs[j] := by simp [List.getD, hg]
      rw [hzd]
      have hb : 0 ≤ zs[j] ∧ zs[j] ≤ 255 := by simpa [Lit.wf, IntKind.min, IntKind.max, IntKind.signed, IntKind.bits] using hw'
      have : ((UInt8.ofNat zs[j].toNat).toNat : Int) = zs[j] := by
        rw [UInt8.toNat_ofNat_of_lt' (by show _ < 256; omega)]
        omega
      rw [this]
    · simp at hj
set_option maxRecDepth 100000 in
theorem lifted (os : Os) (started : os.Started) (H : Type) (enc : TypeId × Value → H) :
    ReturnsInHanded {} Try.checked os 3 .any (Rows.lexPlacesSpec.pre6 enc Try.prog Try.f3 Rows.lexPlacesRow.domain false) (Rows.lexPlacesSpec.post enc Try.prog Try.f3 false true false false) := by
  refine returnsInHanded_of_change_sized (C := Try.checked) own started (by kernel_rfl) Try.func3
    (ChangeSpec.witness6 (enc := enc) (C := Try.checked) false ⟨#[], #[.slice none 0 0, .int .i64 0, .string ByteArray.empty], []⟩ 8 (by kernel_rfl) (by kernel_rfl) (by kernel_rfl) (by kernel_rfl)) ?_
  intro W base args ds gs before hval0 hW hcnd hsz0 _
  have hsz : (DataW.weightsEach Try.prog (Try.f3.params.toList ++ Rows.lexPlacesSpec.plain.varTypes Try.prog) (ds ++ gs)).all (· ≤ reachBytes) = true := hsz0
  have hval : ∀ (j : Nat) t v, Try.f3.params[j]? = some t → args[j]? = some v → Value.okWide Try.prog W .any base t v := hval0
  have hW' := hW
  obtain ⟨p, q, hA0, hV, rfl, hfz, hnd⟩ := hW
  have hA : DataW.TrodAll enc Try.prog W 0 (fun _ => true) true Try.f3.params.toList args.toList ds p := hA0
  rw [Try.params3] at hA hval hsz
  obtain ⟨v0, vs0, d0, ds0, p0, q0, hargs, rfl, rfl, h0, r0⟩ := trodAll_cons hA
  obtain ⟨v1, vs1, d1, ds1, p1, q1, rfl, rfl, rfl, h1, r1⟩ := trodAll_cons r0
  obtain ⟨v2, vs2, d2, ds2, p2, q2, rfl, rfl, rfl, h2, r2⟩ := trodAll_cons r1
  obtain ⟨rfl, rfl, rfl⟩ := trodAll_nil r2
  obtain rfl : args = #[v0, v1, v2] := by cases args; simp_all
  obtain ⟨rfl, rfl⟩ := trodVars_none hV
  have hs0 := okWide_sl Try.underlying22 (hval 0 22 v0 rfl rfl)
  obtain ⟨a0, len0, cap0, hv0⟩ := okWide_slice Try.underlying22 (hval 0 22 v0 rfl rfl)
  have k0 := h0
  have lt0 : ∀ x ∈ p0, x.block < W.heap.size := by obtain ⟨m, hm⟩ := k0; exact DataW.trod_lt m _ _ _ hm
  have y0 : len0 * 1 ≤ 140737488351232 := by
    rw [hv0] at h0
    exact size_ints hsz (j := 0) (t := 22) rfl rfl Try.underlying22 Try.underlying5 (by kernel_rfl) (by kernel_rfl) h0
  let c : Cx := cx0 Try.prog (fun _ => False) (fun _ => False) W
  have hrow : ∃ l : List UInt8, l.length = len0 ∧ ((v0 = .slice none 0 0 ∧ l = [] ∧ rel (.v (.slice none 0 0)) c v0) ∨ rel (.sl false l.length l.length (l.map byteC)) c v0) := by
    have h0' := h0
    rw [hv0] at h0'
    obtain ⟨fuel, hf⟩ := h0'
    rcases open_ints Try.underlying22 Try.underlying5 (by kernel_rfl) hf with ⟨hcs, _⟩ | ⟨x, l, cp, zs, hcs, _, hl, hm, hz, _, hcell, hwz⟩
    · simp [Value.cells] at hcs
      obtain ⟨rfl, rfl, rfl⟩ := hcs
      exact ⟨[], rfl, .inl ⟨hv0, rfl, by simp only [rel]; exact hv0⟩⟩
    · simp [Value.cells] at hcs
      obtain ⟨rfl, rfl, rfl⟩ := hcs
      exact rowAV (c := c) rfl (fun r hr => ⟨hr, by simp⟩) hv0 hs0 (by simpa using hz) (fun y hy => by cases hy; exact hcell) hwz
  obtain ⟨a1, rfl, rfl, rfl, w1⟩ := open_int Try.underlying3 (hval 1 3 v1 rfl rfl) h1
  obtain ⟨a2, rfl, rfl, rfl, y2⟩ := open_string Try.underlying9 (hval 2 9 v2 rfl rfl) h2
  clear hA0 hval0 hsz0 hsz
  obtain ⟨l, hl, hrow⟩ := hrow
  have hl' : l.length ≤ 140737488351232 := by omega
  have e2 : (⟨a2.data.toList.toArray⟩ : ByteArray) = a2 := by simp
  have hcalls : Calls Try.prog 3 #[v0, .int .i64 a1, .string a2] W fun e w' => ∃ u, e = .returned u ∧ rel (.v (.bool true)) (cx0 Try.prog (fun _ => False) (fun _ => False) w') u ∧ Below W.heap.size W w' := by
    rcases hrow with ⟨rfl, rfl, hr⟩ | hr
    · refine law_ev (.v (.slice none 0 0)) rfl [] a2.data.toList a1 (by simp) lent_nil (refLine_nil a1) (kept_nil false) _ _ W _ (fun _ h => h.elim) ?_
      simp only [relL, rel]
      exact ⟨_, _, rfl, rfl, _, _, rfl, rfl, _, _, rfl, by rw [e2], rfl⟩
    · refine law_ev (.sl false l.length l.length (l.map byteC)) (by simp [treeA]) l a2.data.toList a1 hl' (lent_ev false l hl') (refLine_ev false l a1 hl') (kept_ev false false l hl') _ _ W _ (fun _ h => h.elim) ?_
      simp only [relL]
      exact ⟨_, _, rfl, hr, _, _, rfl, by simp only [rel], _, _, rfl, by simp only [rel, e2], rfl⟩
  refine hcalls.mono fun e W' ⟨u, he, hu, bel⟩ => ?_
  simp only [rel] at hu
  subst he
  subst hu
  exact ⟨_, rfl, _, _, _, [], _, [], hW', trodAll_mk1 (shut_bool Try.underlying4 _), (trodAll_cons_mk (Below.trod laidOut (by kernel_rfl) (of_decide_eq_true (by kernel_rfl)) k0 bel lt0) (trodAll_cons_mk (shut_int Try.underlying3 w1) (trodAll_cons_mk (shut_string Try.underlying9 y2) trodAll_mk0))), rfl, bel.frame _, fun h => by cases h⟩
theorem over : Rows.lexPlacesRow.holds Try.pinned (OpenSpec.ofChange Rows.lexPlacesSpec) :=
  OpenClaim.holds_of_wide 3 Try.f3 rfl rfl rfl rfl rfl rfl rfl ⟨rfl, rfl, rfl, rfl, rfl⟩ rfl rfl rfl rfl rfl (by kernel_rfl) Try.func3 (by kernel_rfl)
    (of_decide_eq_true (by kernel_rfl)) (by unfold Func.isWrapper; first | (rw [if_pos (by decide +kernel)]; kernel_rfl) | (rw [if_neg (by decide +kernel)]; exact ⟨rfl, rfl⟩))
    (fun os started H enc _ => lifted os started H enc)
end Go.Proofs.Ytpabcaldbphjmaa.lexPlaces
namespace Go.Proofs.Ytpabcaldbphjmaa
theorem lexPlaces_holds : Rows.LexPlacesSaid := lexPlaces.over
#print axioms lexPlaces_holds
end Go.Proofs.Ytpabcaldbphjmaa
