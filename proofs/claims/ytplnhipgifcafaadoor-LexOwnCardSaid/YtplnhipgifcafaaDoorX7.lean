/- A part of the proof. -/
import Derived.Test.YtplnhipgifcafaaDoorX3
/- Blocks that a callee hands over; an append that keeps the elder slice. -/
namespace Go.Ev
set_option linter.all false
open Go Go.RowKit
theorem relAt_vs (xs : List Value) {c c' : Cx} (hw : c'.w = c.w) : ∀ {r off : Nat}, relAt (xs.map .v) c r off → relAt (xs.map .v) c' r off := by
  induction xs with
  | nil => intro _ _ _; simp only [List.map_nil, relAt]
  | cons x xs ih =>
    intro r off h
    simp only [List.map_cons, relAt, rel] at h ⊢
    obtain ⟨⟨u, h1, h2⟩, h3⟩ := h
    exact ⟨⟨u, by rw [hw]; exact h1, h2⟩, ih h3⟩
section
variable {X : Fix} {φ : List Nat} {st : St} {a : Act} {w : World} {o : Oper} {Q : Exit → Act → World → Prop} {K : St → Prop}
/-- A block that was made by a callee becomes the caller's. -/
theorem SR.adopt (hs : SR X φ st a w) {w' : World} (hb : Below w.heap.size w w') {β : Nat} (hβ1 : w.heap.size ≤ β) {vs : Array Value} {e : TypeId} {fr : Nat × Nat} (hh : w'.heap[β]? = some (.cells vs e fr)) {cells : List AV} {ver : Nat}
    (hlen : cells.length ≤ vs.size) (hc : ∀ c : Cx, c.w = w' → relAt cells c β 0) (hfr : ∀ off, off < vs.size → ¬ (fr.1 ≤ off ∧ off < fr.2)) :
    SR X (φ ++ [β]) { st with h := st.h ++ [⟨ver, e, cells⟩] } a w' := by
  have hs' := hs.world hb
  have hβ2 : β < w'.heap.size := (Array.getElem?_eq_some_iff.1 hh).1
  have hnot : β ∉ φ := fun hm => by have := (hs.rng _ hm).2; omega
  have hsz := hb.size
  have hle : (cx X φ st.h w).le (cx X (φ ++ [β]) (st.h ++ [⟨ver, e, cells⟩]) w') := by
    refine ⟨rfl, fun b r ⟨h1, h2, h3⟩ => ⟨Nat.lt_of_lt_of_le h1 hsz, ?_, h3⟩, fun b r off u ⟨h1, _⟩ hc => ?_, fun i k β' hk => ⟨k, β', ?_, Nat.le_refl _, fun _ => ⟨rfl, rfl, ?_⟩⟩⟩
    · intro hm
      rcases List.mem_append.1 hm with h | h
      · exact h2 h
      · rw [List.mem_singleton.1 h] at h1
        exact absurd h1 (by omega)
    · exact (hb.cell (p := ⟨r, off, none⟩) h1).trans hc
    · obtain ⟨h1, h2⟩ := curOf_eq.1 hk
      exact curOf_eq.2 ⟨by rw [List.getElem?_append_left (List.getElem?_eq_some_iff.1 h1).1]; exact h1, by rw [List.getElem?_append_left (List.getElem?_eq_some_iff.1 h2).1]; exact h2⟩
    · have hl := (hs.rng β' (List.mem_of_getElem? (curOf_eq.1 hk).2)).2
      simp only [cx, World.shape?]
      rw [hb.block _ hl]
  refine { below := hs'.below, defers := hs'.defers, kp := hs'.kp, kd := (fun p hp hm => by have h1 := hs.kp_lt hp; rcases List.mem_append.1 hm with h | h; exact hs.kd p hp h; simp at h; omega), le0 := fun c hc => Cx.le_trans (hs.le0 c hc) hle, slots := fun t => rel_mono hle _ _ (hs.slots t), len := hs'.len, gl := fun k => ⟨(hs.gl k).1, rel_mono hle _ _ (hs.gl k).2⟩, φlen := by simp [hs.φlen], nodup := ?_, rng := ?_, blk := ?_ }
  · rw [List.nodup_append]
    exact ⟨hs.nodup, by simp, fun x hx y hy => by simp at hy; subst hy; exact fun e => hnot (e ▸ hx)⟩
  · intro β' h'
    rcases List.mem_append.1 h' with h | h
    · exact hs'.rng β' h
    · simp at h; subst h; exact ⟨by have := hs.below.size; omega, hβ2⟩
  · intro i k β' hk hβ
    by_cases hi : i < st.h.length
    · rw [List.getElem?_append_left hi] at hk
      rw [List.getElem?_append_left (by rw [hs.φlen]; exact hi)] at hβ
      obtain ⟨⟨vs', fr', h1, h1', h2⟩, h3⟩ := hs.blk i k β' hk hβ
      have hl := (hs.rng β' (List.mem_of_getElem? hβ)).2
      exact ⟨⟨vs', fr', by rw [hb.block _ hl]; exact h1, h1', h2⟩, relAt_le hle (fun off u hc => (hb.cell (p := ⟨β', off, none⟩) hl).trans hc) h3⟩
    · rw [List.getElem?_append_right (by omega)] at hk
      rw [List.getElem?_append_right (by rw [hs.φlen]; omega)] at hβ
      have hi' : i - st.h.length = 0 := by
        have := (List.getElem?_eq_some_iff.1 hk).1
        simp at this; omega
      rw [hi'] at hk; rw [hs.φlen, hi'] at hβ
      simp at hk hβ
      subst hk; subst hβ
      exact ⟨⟨vs, fr, hh, hlen, hfr⟩, hc _ rfl⟩
/-- An append to a slice of the call's own whose elder keeps what it shows: in place, or in a new block. -/
theorem op_append_keep (hs : SR X φ st a w) {c : Call} (ho : o.op = .call c) (hc : c.callee = .builtin .append) {x y : Operand} (hxy : c.args = #[x, y])
    {t t2 e sz by' : Nat} {z : Value} (hz : zeroT X.P e = some z) (hzl : (zeroCells z).length = sz) (h0 : c.argTypes[0]? = some t) (h1 : c.argTypes[1]? = some t2) (h2 : intT X.P t2 = none) (h3 : (X.P.underlying t2).isSome = true) (h4 : elemT X.P t = some e) (h5 : sizeT X.P e = some sz) (h6 : bytesT X.P e = some by') (h8 : 0 < by')
    {i ver m n : Nat} {cells new : List AV} (hgx : Ev.get st.s x = .own i ver m) (hk : st.h[i]? = some ⟨ver, e, cells⟩) (hml : m * sz ≤ cells.length) (hb : (m + n) * by' ≤ 140737488355328)
    (hsrc : srcA st sz (Ev.get st.s y) fun n' new' => n' = n ∧ new' = new) (hone : new.all oneA = true)
    (hk1 : K ⟨putS st.s o.dst (.own i ver (m + n)), st.h.set i ⟨ver, e, cells.take (m * sz) ++ new⟩⟩)
    (hk2 : K ⟨putS st.s o.dst (.own st.h.length 0 (m + n)), st.h ++ [⟨0, e, cells.take (m * sz) ++ new⟩]⟩) : o.wp X.P a w (Nx X K) Q := by
  have he : execOp a.eval o = (do pure (.value (← Builtin.append_ c.argTypes o.type #[a.eval x, a.eval y])) : Sem Next) := by
    simp only [execOp, ho, resolve, hc, hxy, List.map_toArray, List.map_cons, List.map_nil]; rfl
  rw [zeroCells_len] at hzl
  obtain ⟨n', new', us, ⟨e1, e2⟩, hrel, hul, hlen, hfc⟩ := hs.src hsrc
  subst e1; subst e2
  have hnl : new'.length = n' * sz := by rw [← hul, relL_length hrel]
  obtain ⟨β, cap, vs, fr, g1, g2, g3, g4, g5, g6, g7, g8, g9⟩ := hs.own hgx hk rfl
  simp only at g3 g6 g7 g9
  rw [sizeT_cells h5] at g3
  obtain ⟨oldA, q1, q2⟩ := relAt_list (relAt_take g9 (m * sz))
  have hol : oldA.length = m * sz := by have := relL_length q1; simp at this; omega
  have hold : ∀ w' : World, (∀ p, w'.cell? p = w.cell? p) → (Builtin.firstCells sz m (.slice (some ⟨β, 0, none⟩) m cap)).run X.P w' = .ok oldA.toArray w' := fun w' hw' =>
    run_firstCells_some w' sz m _ m cap oldA hol fun j v hj => by rw [hw', Addr.add_lit]; exact q2 j v hj
  obtain ⟨r1, r2⟩ := run_append (w := w) (ty := o.type) hz h0 h1 h2 h3 h4 h5 h6 h8 (base := some ⟨β, 0, none⟩) (m := m) (cap := cap) (old := oldA) hlen hfc
  by_cases hroom : m + n' ≤ cap
  · have hsz2 : (m + n') * sz ≤ vs.size := by rw [g3]; exact Nat.mul_le_mul_right _ hroom
    rw [Nat.add_mul] at hsz2
    have hone' := relL_one hrel hone
    obtain ⟨w', s1, s2, s3, s4, s5, s6, s7⟩ := run_storeCells_blk (P := X.P) β e fr us 0 (m * sz) vs w g6 (by omega) g8 hone'
    have hrun := r1 hroom
    simp only [Addr.add_lit, Nat.zero_add, s1, Result.andThen_ok] at hrun
    have hvs : (vs.toList.take (m * sz)) = oldA := by
      apply List.ext_getElem?
      intro j
      by_cases hj : j < m * sz
      · have hj' : j < oldA.length := by omega
        have := q2 j _ (List.getElem?_eq_getElem hj')
        simp only [cx, World.cell?, Nat.zero_add, g6] at this
        rw [List.getElem?_take, if_pos hj, List.getElem?_eq_getElem hj']
        simpa using this
      · rw [List.getElem?_eq_none (by simp; omega), List.getElem?_eq_none (by omega)]
    have hnew : relL (cells.take (m * sz) ++ new') (cx X φ st.h w) (oldA ++ us) := relL_append q1 hrel
    have hsr := hs.upd (w' := w') hk g4 (vs := vs) (vs' := (vs.toList.take (m * sz + 0) ++ us ++ vs.toList.drop (m * sz + 0 + us.length)).toArray) (fr := fr) (cells := cells.take (m * sz) ++ new') (ver := ver) (Nat.le_refl _) g6 s2
      (by simp; omega) s3 s4 s5 s6 s7 (by
        have hl2 : (cells.take (m * sz) ++ new').length = (oldA ++ us).length := (relL_length hnew).symm
        simp only [Nat.add_zero, hvs]
        rw [hl2, List.take_left' rfl]
        exact hnew)
    refine wp_val he (u := .slice (some ⟨β, 0, none⟩) (m + n') cap) (w' := w') (by rw [g1]; exact hrun) ⟨φ, _, hsr.put o.dst (r := .own i ver (m + n')) ?_, hk1⟩
    refine rel_own (k := ⟨ver, e, cells.take (m * sz) ++ new'⟩) (β := β) (curOf_eq.2 ⟨by simp [(List.getElem?_eq_some_iff.1 hk).1], g4⟩) rfl hroom ?_
    simp only [World.shape?, s2]
    simp only [List.size_toArray, List.length_append, List.length_take, List.length_drop, Array.length_toList, sizeT_cells h5, g3, Option.some.injEq, Prod.mk.injEq, true_and]
    rw [g3] at hsz2
    omega
  · have hrun := r2 (by omega) hb hold
    have hge := grownCap_ge w (m + n') cap e
    refine wp_row hs he (w1 := w.drew) (.inr rfl) (n := m + n') (cap := grownCap w (m + n') cap e) (fr := (0, 0)) (e := e) (cells := cells.take (m * sz) ++ new') (by rw [g1]; exact hrun) ?_ (fun off _ => by simp only; omega) hge ?_ hk2
    · have hnew : relL (cells.take (m * sz) ++ new') (cx X φ st.h w) (oldA ++ us) := relL_append q1 hrel
      have hl2 : (cells.take (m * sz) ++ new').length = (oldA ++ us).length := (relL_length hnew).symm
      simp only [Array.toList_append]
      rw [hl2, List.take_left' rfl]
      exact hnew
    · simp only [Array.size_append, List.size_toArray, zeroCells_size, hzl, hul, hol, sizeT_cells h5, ← Nat.add_mul]
      congr 1; omega
end
/-- A function's results, its blocks still its own. -/
theorem own_of_wpM {P : Program} {γ : List (Nat × AV)} {f : FuncId} {fn : Func} {c : Code} {args : List AV} (hf : P.funcs[f]? = some fn) (hb : fn.body = some c) {w : World} {vs : Array Value} (R : List ABlk → List AV → Prop)
    {B : Nat → Prop} {hB : ∀ r, B r → r < w.heap.size} (hargs : relL args (cx (freshX P w B hB) [] [] w) vs.toList) (hg : ∀ k, treeA (look γ k) = true ∧ rel (look γ k) (cx (freshX P w B hB) [] [] w) (.pointer (some ⟨k, 0, none⟩)))
    (h : ∀ {a : Act}, SR (freshX P w B hB) [] (startA γ args fn.ntmps) a w → c.wpIn (Fr none) 0 P (QMs (freshX P w B hB) (fun e s => e = .ret ∧ resS P fn.results.toList s fun xs => R s.h xs)) a w) :
    Calls P f vs w fun e w' => ∃ φ st a us xs, e = .returned (if h : us.toArray.size = 1 then us.toArray[0] else .tuple us.toArray) ∧ SR ((freshX P w B hB).marks []) φ st a w' ∧ relL xs (cx ((freshX P w B hB).marks []) φ st.h w') us ∧ R st.h xs := by
  have hl : vs.size = args.length := by have := relL_length hargs; simpa using this
  have hs : SR (freshX P w B hB) [] (startA γ args fn.ntmps) { tmps := vs ++ Array.replicate (fn.ntmps - vs.size) undef, defers := [] } w := by
    refine SR.fresh rfl (by simp [startA, hl]) (fun t => ?_) hg
    have := look_args t args vs.toList 0 hargs
    simp only [Nat.zero_add] at this
    simp only [startA]
    rcases this with h | ⟨u, hu, h⟩
    · rw [h]; simp only [rel]
    · have hu' : vs[t]? = some u := by simpa using hu
      have hlt := (Array.getElem?_eq_some_iff.1 hu').1
      simpa [Array.getElem?_append_left hlt, hu'] using h
  refine callsIn_wide.1 (callsIn_of_wp_marks (F := Fence.wide) (n := 0) hf hb trivial (wpIn_mono (h hs) fun e a w' hq => ?_))
  obtain ⟨Ds, φ, st, hn, hw0, hs', rfl, hq⟩ := hq
  refine leave_marks (X := freshX P w B hB) rfl rfl (fun a0 w2 hta hs2 => ?_) Ds a w' hn hw0 rfl hs'
  rw [← hta]
  obtain ⟨xs, us, h1, h2, h3⟩ := resA_run (X := (freshX P w B hB).marks []) hs2 fn.results.toList (resS_resA _ hq)
  have h1 := (show (fn.results.toList.mapM fun | .tmp t => pure (a0.tmps.getD t undef) | .cell p t => do loadVar t (← asAddr (a0.tmps.getD p undef)) : Sem (List Value)).run P w2 = .ok us w2 from h1)
  refine ⟨if h : us.toArray.size = 1 then us.toArray[0] else .tuple us.toArray, ?_, φ, st, a0, us, xs, rfl, hs2, h2, h3⟩
  unfold results
  rw [Sem.run_bind]
  have e : (fn.results.mapM fun | .tmp t => pure (a0.tmps.getD t undef) | .cell p t => do loadVar t (← asAddr (a0.tmps.getD p undef)) : Sem (Array Value)).run P w2 = .ok us.toArray w2 := by
    rw [Array.mapM_eq_mapM_toList, Sem.run_map, h1]
    rfl
  exact (congrArg (fun r => Result.andThen r _) e).trans rfl
end Go.Ev
namespace Go.Proofs.YtplnhipgifcafaaDoor
set_option linter.all false
open Go Go.Ev Go.RowKit
variable {γ : List (Nat × AV)}
/-- What lex.Scan hands back, with the blocks that it holds. -/
def ownT (T : List (TokD × Nat)) (h : List ABlk) (xs : List AV) : Prop :=
  match T with
  | [] => xs = [.v (.slice none 0 0), .v (.int .i64 0), .v (.int .i64 0)] ∧ ∃ k, h[0]? = some k
  | y :: T => xs = [.own 6 T.length (T.length + 1), .v (.int .i64 0), .v (.int .i64 0)] ∧ h[6]? = some ⟨T.length, 33, listCells (y :: T)⟩
def ownR (l : List UInt8) (h : List ABlk) (xs : List AV) : Prop :=
  match (eachItems l).find? badI with
  | some x => xs = [.v (.slice none 0 0), .v (.int .i64 x.1.2), .v (.int .i64 x.2)] ∧ ∃ k, h[0]? = some k
  | none => ownT ((eachItems l).map fun x => x.1) h xs
def scanQo (S : Slots) (h : List ABlk) (l : List UInt8) : Post
  | .normal, s => s = ⟨S, h⟩
  | .ret, s => resS Tryd.prog [.cell 2 37, .cell 3 3, .cell 4 25] s fun xs => ownR l s.h xs
  | _, _ => False
def retQo (l : List UInt8) : Post
  | .ret, s => resS Tryd.prog [.cell 2 37, .cell 3 3, .cell 4 25] s fun xs => ownR l s.h xs
  | _, _ => False
def ownE (l : List UInt8) (e : Exit) (s : St) : Prop := e = .ret ∧ resS Tryd.prog [.cell 2 37, .cell 3 3, .cell 4 25] s fun xs => ownR l s.h xs
theorem scanQo_ret (S : Slots) (h : List ABlk) (l : List UInt8) (s : St) : scanQo S h l .ret s = resS Tryd.prog [.cell 2 37, .cell 3 3, .cell 4 25] s fun xs => ownR l s.h xs := rfl
theorem retQo_ret (l : List UInt8) (s : St) : retQo l .ret s = resS Tryd.prog [.cell 2 37, .cell 3 3, .cell 4 25] s fun xs => ownR l s.h xs := rfl
set_option maxHeartbeats 1000000 in
set_option maxRecDepth 20000 in
theorem lexScan_core (hγ : Gl γ) (hγ2 : GlW γ) (b : Bool) (l : List UInt8) (hl : l.length ≤ 140737488351232) {c : Code} (hcb : Tryd.f16.body = some c) (X : Fix) (hP : X.P = Tryd.prog) (hc0 : X.c0 = none) (hXK : X.K = []) (hXdf : X.df = []) {a : Act} {w : World}
    (hs : SR X [] (startA γ [.sl b l.length l.length (l.map byteC)] 22) a w) : c.wpIn (Fr none) 0 Tryd.prog (QMs X (ownE l)) a w := by
  obtain rfl := Option.some.inj (hcb.symm.trans rfl)
  refine wpIn_seq (pieceP hP (r := none) ⟨⟨22, [(0, .sl b l.length l.length (l.map byteC)), (2, .ptr 0 0 0), (3, .ptr 1 0 0), (4, .ptr 2 0 0)], γ⟩, [⟨0, 37, [.v (.slice none 0 0)]⟩, ⟨0, 3, [.v (.int .i64 0)]⟩, ⟨0, 25, [.v (.int .i64 0)]⟩]⟩ (by kernel_rfl) hc0 hs ?_ ?_)
  · simp only [startA, idxL, wkQ_normal, evS, tyS, Bool.not_true, Bool.not_false, Nat.reduceAdd, Nat.reduceSub, Nat.reduceMul, Nat.reduceLT, Nat.reduceLeDiff, Nat.reduceEqDiff, reduceCtorEq, List.reduceReplicate, Int.reduceToNat, Int.reduceLE, Int.reduceLT]
    (repeat' (first | (with_reducible refine And.intro ?_ ?_) | ((first | refine GuardK.intro_f (fun h => ?_) (fun h => ?_) | refine GuardK.intro_t (fun h => ?_) (fun h => ?_) | refine CondK.intro (fun h => ?_) (fun h => ?_) | refine PickK.intro (fun h => ?_) (fun h => ?_)) <;> simp only [h, evS, tyS, Bool.not_true, Bool.not_false, Nat.reduceAdd, Nat.reduceSub, Nat.reduceMul, Nat.reduceLT, Nat.reduceLeDiff, Nat.reduceEqDiff, reduceCtorEq, List.reduceReplicate, Int.reduceToNat, Int.reduceLE, Int.reduceLT]) | (refine DrawK.intro (by kernel_rfl) (by kernel_rfl) ?_; simp only [evS, tyS, Bool.not_true, Bool.not_false, Nat.reduceAdd, Nat.reduceSub, Nat.reduceMul, Nat.reduceLT, Nat.reduceLeDiff, Nat.reduceEqDiff, reduceCtorEq, List.reduceReplicate, Int.reduceToNat, Int.reduceLE, Int.reduceLT])))
    all_goals first | rfl | exact .inl rfl | trace_state
  · intro φ1 a1 w1 h1
    refine wpIn_seq (pieceP hP (r := none) ⟨scanS γ l b, base4 (.v (.slice none 0 0))⟩ (by kernel_rfl) hc0 h1 ?_ ?_)
    · simp only [scanS, base4, wkQ_normal, evS, tyS, Bool.not_true, Bool.not_false, Nat.reduceAdd, Nat.reduceSub, Nat.reduceMul, Nat.reduceLT, Nat.reduceLeDiff, Nat.reduceEqDiff, reduceCtorEq, List.reduceReplicate, Int.reduceToNat, Int.reduceLE, Int.reduceLT]
      (repeat' (first | (with_reducible refine And.intro ?_ ?_) | ((first | refine GuardK.intro_f (fun h => ?_) (fun h => ?_) | refine GuardK.intro_t (fun h => ?_) (fun h => ?_) | refine CondK.intro (fun h => ?_) (fun h => ?_) | refine PickK.intro (fun h => ?_) (fun h => ?_)) <;> simp only [h, evS, tyS, Bool.not_true, Bool.not_false, Nat.reduceAdd, Nat.reduceSub, Nat.reduceMul, Nat.reduceLT, Nat.reduceLeDiff, Nat.reduceEqDiff, reduceCtorEq, List.reduceReplicate, Int.reduceToNat, Int.reduceLE, Int.reduceLT]) | (refine DrawK.intro (by kernel_rfl) (by kernel_rfl) ?_; simp only [evS, tyS, Bool.not_true, Bool.not_false, Nat.reduceAdd, Nat.reduceSub, Nat.reduceMul, Nat.reduceLT, Nat.reduceLeDiff, Nat.reduceEqDiff, reduceCtorEq, List.reduceReplicate, Int.reduceToNat, Int.reduceLE, Int.reduceLT])))
      all_goals first | rfl | exact .inl rfl | trace_state
    · intro φ2 a2 w2 h2
      have hb2 := h2.below
      refine wpIn_seq (wpIn_seq (wpIn_region ?_))
      show wpOpsIn (Fr none) 0 Tryd.prog _ _ ([0] ++ (1 :: [])) a2 w2
      refine wpOpsIn_split _ _ _ _ (opsP hP ⟨scanS8 γ l b, base4 (.v (.slice none 0 0))⟩ (by kernel_rfl) hc0 [_] [0] rfl h2 ?_ ?_)
      · simp only [scanS8, scanS, base4, List.getElem_toArray, List.getElem_cons_zero, List.getElem_cons_succ, evS, tyS, Bool.not_true, Bool.not_false, Nat.reduceAdd, Nat.reduceSub, Nat.reduceMul, Nat.reduceLT, Nat.reduceLeDiff, Nat.reduceEqDiff, reduceCtorEq, List.reduceReplicate, Int.reduceToNat, Int.reduceLE, Int.reduceLT]
        (repeat' (first | (with_reducible refine And.intro ?_ ?_) | ((first | refine GuardK.intro_f (fun h => ?_) (fun h => ?_) | refine GuardK.intro_t (fun h => ?_) (fun h => ?_) | refine CondK.intro (fun h => ?_) (fun h => ?_) | refine PickK.intro (fun h => ?_) (fun h => ?_)) <;> simp only [h, evS, tyS, Bool.not_true, Bool.not_false, Nat.reduceAdd, Nat.reduceSub, Nat.reduceMul, Nat.reduceLT, Nat.reduceLeDiff, Nat.reduceEqDiff, reduceCtorEq, List.reduceReplicate, Int.reduceToNat, Int.reduceLE, Int.reduceLT]) | (refine DrawK.intro (by kernel_rfl) (by kernel_rfl) ?_; simp only [evS, tyS, Bool.not_true, Bool.not_false, Nat.reduceAdd, Nat.reduceSub, Nat.reduceMul, Nat.reduceLT, Nat.reduceLeDiff, Nat.reduceEqDiff, reduceCtorEq, List.reduceReplicate, Int.reduceToNat, Int.reduceLE, Int.reduceLT])))
        all_goals first | rfl | exact .inl rfl | trace_state
      · intro φ3 a3 w3 h3
        rw [wpOpsIn_cons]
        have h8 := h3.slots 8
        have h8' : rel (.sl b l.length l.length (l.map byteC)) (cx X φ3 (base4 (.v (.slice none 0 0))) w3) (a3.tmps.getD 8 undef) := h8
        simp only [rel] at h8'
        obtain ⟨r, off, cap, e8, n1, n2, n3, n4⟩ := h8'
        refine wpOpIn_some rfl rfl (call_wpIn (vs := #[.slice (some ⟨r, off, none⟩) l.length cap]) rfl ?_ (enters_of Tryd.func13 (by kernel_rfl) rfl) (each13 r off l.length cap w3) ?_)
        · rw [List.map_toArray, List.map_cons, List.map_nil]
          show #[a3.tmps.getD 8 undef] = _
          rw [e8]
        · rintro e' w4 ⟨Nb, rfl, hbox, hNb, hbel⟩
          refine ⟨_, rfl, ?_⟩
          have hput := (h3.world hbel).put (some 9) (r := .bad) (u := .func (.func 30) #[] #[.pointer (some ⟨Nb, 0, none⟩)]) (by simp only [rel])
          have hlen4 : 9 < a3.tmps.size := by have := h3.len; rw [this]; show 9 < 22; decide
          obtain ⟨a4, ha4⟩ : ∃ a4, a4 = a3.put (some 9) (.func (.func 30) #[] #[.pointer (some ⟨Nb, 0, none⟩)]) := ⟨_, rfl⟩
          have h49 : a4.eval (.tmp 9) = .func (.func 30) #[] #[.pointer (some ⟨Nb, 0, none⟩)] := by rw [ha4]; show (a3.put _ _).tmps.getD 9 undef = _; simp [Act.put, hlen4]
          have h48 : a4.tmps.getD 8 undef = .slice (some ⟨r, off, none⟩) l.length cap := by rw [ha4, ← e8]; simp [Act.put, Array.getElem?_setIfInBounds]
          rw [← ha4] at hput
          have h5 : SR (X.with [(Nb, .cells #[.slice (some ⟨r, off, none⟩) l.length cap] 22 (0, 0))] [] none) φ3 ⟨scanS8 γ l b, base4 (.v (.slice none 0 0))⟩ a4 w4 := by
            refine hput.move (Below.refl _ _) (fun r _ => .inl rfl) (by rw [hput.defers, hXdf]) hput.len hput.gl_le (fun c' hc t => ?_) ?_ ?_ (fun c c' h => by cases h)
            · by_cases e9 : t = 9
              · subst e9
                show rel .bad _ _
                simp only [rel]
              · have := hput.slots_le c' hc t
                have hl : Go.Ev.look (putS (scanS8 γ l b) (some 9) .bad).l t = Go.Ev.look (scanS8 γ l b).l t := by
                  have e10 : putS (scanS8 γ l b) (some 9) .bad = ⟨22, (9, .bad) :: (scanS8 γ l b).l, γ⟩ := rfl
                  rw [e10]
                  simp only [Go.Ev.look]
                  rw [if_neg (fun e => e9 e.symm)]
                rw [← hl]; exact this
            · intro p hp
              simp only [List.mem_singleton] at hp
              subst hp
              exact hbox
            · intro p hp hm
              simp only [List.mem_singleton] at hp
              subst hp
              have := (h3.rng _ hm).2
              omega
          show Code.wpIn (Fr none) 0 Tryd.prog _ _ (a3.put (some 9) (.func (.func 30) #[] #[.pointer (some ⟨Nb, 0, none⟩)])) w4
          rw [← ha4]
          refine wpIn_block (wpIn_mono (range_ruleP (X := X.with [(Nb, .cells #[.slice (some ⟨r, off, none⟩) l.length cap] 22 (0, 0))] [] none) (Q := scanQo (scanS8 γ l b) (scanHf (eachItems l) (eachItems l).length) l) hP h5 rfl (by kernel_rfl) (by kernel_rfl) h49 (enters_of Tryd.func30 (by kernel_rfl) rfl) (eachItems l).length (fun k => itemV (itemAt (eachItems l) k)) (each_seq hγ hγ2 l hl Nb)
            (scanS8 γ l b) (scanHf (eachItems l)) (fun _ => True) trivial ?_ ?_ (fun k => (itemAt (eachItems l) k).1.1.av (itemAt (eachItems l) k).1.2) (fun k => .v (.int .i64 (itemAt (eachItems l) k).2)) (fun k _ c => ⟨rel_tokV _ _ c, by simp only [rel, itemV]⟩) ?_ (fun _ => rfl)) ?_)
          · have e0 : scanHf (eachItems l) 0 = base4 (.v (.slice none 0 0)) := by
              unfold scanHf
              rw [if_neg]
              · rfl
              · rintro ⟨h1, h2⟩
                rw [List.length_eq_zero_iff.1 h2.symm] at h1
                simp at h1
            rw [e0]
            simp only [scanS8, scanS, base4, evS, tyS, Bool.not_true, Bool.not_false, Nat.reduceAdd, Nat.reduceSub, Nat.reduceMul, Nat.reduceLT, Nat.reduceLeDiff, Nat.reduceEqDiff, reduceCtorEq, List.reduceReplicate, Int.reduceToNat, Int.reduceLE, Int.reduceLT]
            (repeat' (first | (with_reducible refine And.intro ?_ ?_) | ((first | refine GuardK.intro_f (fun h => ?_) (fun h => ?_) | refine GuardK.intro_t (fun h => ?_) (fun h => ?_) | refine CondK.intro (fun h => ?_) (fun h => ?_) | refine PickK.intro (fun h => ?_) (fun h => ?_)) <;> simp only [h, evS, tyS, Bool.not_true, Bool.not_false, Nat.reduceAdd, Nat.reduceSub, Nat.reduceMul, Nat.reduceLT, Nat.reduceLeDiff, Nat.reduceEqDiff, reduceCtorEq, List.reduceReplicate, Int.reduceToNat, Int.reduceLE, Int.reduceLT]) | (refine DrawK.intro (by kernel_rfl) (by kernel_rfl) ?_; simp only [evS, tyS, Bool.not_true, Bool.not_false, Nat.reduceAdd, Nat.reduceSub, Nat.reduceMul, Nat.reduceLT, Nat.reduceLeDiff, Nat.reduceEqDiff, reduceCtorEq, List.reduceReplicate, Int.reduceToNat, Int.reduceLE, Int.reduceLT])))
            all_goals first | rfl | exact .inl rfl
          · intro X' φ' k a' W hP' hG hB hK ht hsr
            refine ⟨⟨_, _, hK _ (List.mem_singleton.2 rfl), ?_⟩, gl_of_rel (c := cx X' φ' (scanHf (eachItems l) k) W) rfl (fun r hr => hr.1) (fun k => (hsr.gl k).2)⟩
            have := hsr.slots 8
            rw [ht, h48] at this
            exact rel_bytes (c := cx X' φ' (scanHf (eachItems l) k) W) (c' := allX Tryd.prog W) (b := b) (b' := false) rfl (fun r hr => ⟨hr.1, by show ¬ False; exact fun h => h⟩) this
          · intro k hk _
            show kwp Tryd.prog _ _ ⟨⟨22, (11, _) :: (10, _) :: (scanS8 γ l b).l, γ⟩, _⟩
            obtain ⟨hf1, hf2⟩ := find_first hk (fun j hj => items_ok l j hj)
            have hHk : scanHf (eachItems l) k = scanH (((eachItems l).take k).map fun x => x.1) := by unfold scanHf; rw [if_neg (by omega)]
            rw [hHk]
            have hti := take_item hk
            have hcount : (((eachItems l).take k).map (fun x => x.1)).length ≤ 32769 := by
              rw [List.length_map, List.length_take]; have := items_len l; omega
            generalize ((eachItems l).take k).map (fun x => x.1) = toks at hti hcount ⊢
            obtain ⟨⟨⟨t, pos⟩, e⟩, hx⟩ : ∃ x, x = itemAt (eachItems l) k := ⟨_, rfl⟩
            rw [← hx] at hf1 hf2 hti ⊢
            have t25 : aggT Tryd.prog 25 = some false := by kernel_rfl
            cases hbad : badI ((t, pos), e) with
            | true =>
              have hown : ∀ (k0 : ABlk) (H : List ABlk), ownR l (k0 :: H) [.v (.slice none 0 0), .v (.int .i64 pos), .v (.int .i64 e)] = True := fun k0 H => by
                unfold ownR; rw [hf1 hbad]; exact eq_true ⟨rfl, k0, rfl⟩
              have hne : (e != 0) = true := by have := of_decide_eq_true hbad; simpa using this
              cases toks with
              | nil =>
                simp only [scanH, base4, scanS8, scanS, TokD.av, tokA, roundQ_ret, roundQ_normal, assignQ_normal, scanQo_ret, hown, hne, evS, tyS, Bool.not_true, Bool.not_false, Nat.reduceAdd, Nat.reduceSub, Nat.reduceMul, Nat.reduceLT, Nat.reduceLeDiff, Nat.reduceEqDiff, reduceCtorEq, List.reduceReplicate, Int.reduceToNat, Int.reduceLE, Int.reduceLT]
                refine DrawK.any (by kernel_rfl) ?_
                show anyK _ _ _ 6 _ _
                all_goals (refine anyK_succ (by decide +kernel) (all6 ?_ ?_ ?_ ?_ ?_ ?_) <;> first | exact notReady (by decide +kernel) | (intro _; refine ⟨_, rfl, rfl, ?_⟩; simp only [List.getElem_toArray, List.getElem_cons_zero, List.getElem_cons_succ, evS, tyS, Bool.not_true, Bool.not_false, Nat.reduceAdd, Nat.reduceSub, Nat.reduceMul, Nat.reduceLT, Nat.reduceLeDiff, Nat.reduceEqDiff, reduceCtorEq, List.reduceReplicate, Int.reduceToNat, Int.reduceLE, Int.reduceLT]))
                all_goals (refine anyK_succ (by decide +kernel) (all6 ?_ ?_ ?_ ?_ ?_ ?_) <;> first | exact notReady (by decide +kernel) | (intro _; refine ⟨_, rfl, rfl, ?_⟩; simp only [List.getElem_toArray, List.getElem_cons_zero, List.getElem_cons_succ, evS, tyS, Bool.not_true, Bool.not_false, Nat.reduceAdd, Nat.reduceSub, Nat.reduceMul, Nat.reduceLT, Nat.reduceLeDiff, Nat.reduceEqDiff, reduceCtorEq, List.reduceReplicate, Int.reduceToNat, Int.reduceLE, Int.reduceLT]))
                all_goals (refine anyK_succ (by decide +kernel) (all6 ?_ ?_ ?_ ?_ ?_ ?_) <;> first | exact notReady (by decide +kernel) | (intro _; refine ⟨_, rfl, rfl, ?_⟩; simp only [List.getElem_toArray, List.getElem_cons_zero, List.getElem_cons_succ, evS, tyS, Bool.not_true, Bool.not_false, Nat.reduceAdd, Nat.reduceSub, Nat.reduceMul, Nat.reduceLT, Nat.reduceLeDiff, Nat.reduceEqDiff, reduceCtorEq, List.reduceReplicate, Int.reduceToNat, Int.reduceLE, Int.reduceLT]))
                all_goals (refine anyK_succ (by decide +kernel) (all6 ?_ ?_ ?_ ?_ ?_ ?_) <;> first | exact notReady (by decide +kernel) | (intro _; refine ⟨_, rfl, rfl, ?_⟩; simp only [List.getElem_toArray, List.getElem_cons_zero, List.getElem_cons_succ, evS, tyS, Bool.not_true, Bool.not_false, Nat.reduceAdd, Nat.reduceSub, Nat.reduceMul, Nat.reduceLT, Nat.reduceLeDiff, Nat.reduceEqDiff, reduceCtorEq, List.reduceReplicate, Int.reduceToNat, Int.reduceLE, Int.reduceLT]))
                all_goals (refine anyK_succ (by decide +kernel) (all6 ?_ ?_ ?_ ?_ ?_ ?_) <;> first | exact notReady (by decide +kernel) | (intro _; refine ⟨_, rfl, rfl, ?_⟩; simp only [List.getElem_toArray, List.getElem_cons_zero, List.getElem_cons_succ, evS, tyS, Bool.not_true, Bool.not_false, Nat.reduceAdd, Nat.reduceSub, Nat.reduceMul, Nat.reduceLT, Nat.reduceLeDiff, Nat.reduceEqDiff, reduceCtorEq, List.reduceReplicate, Int.reduceToNat, Int.reduceLE, Int.reduceLT]))
                all_goals (refine anyK_succ (by decide +kernel) (all6 ?_ ?_ ?_ ?_ ?_ ?_) <;> first | exact notReady (by decide +kernel) | (intro _; refine ⟨_, rfl, rfl, ?_⟩; simp only [List.getElem_toArray, List.getElem_cons_zero, List.getElem_cons_succ, evS, tyS, Bool.not_true, Bool.not_false, Nat.reduceAdd, Nat.reduceSub, Nat.reduceMul, Nat.reduceLT, Nat.reduceLeDiff, Nat.reduceEqDiff, reduceCtorEq, List.reduceReplicate, Int.reduceToNat, Int.reduceLE, Int.reduceLT]))
                all_goals refine ⟨by decide +kernel, ?_⟩
                all_goals simp only [roundQ_ret, scanQo_ret, hown, t25, evS, tyS, Bool.not_true, Bool.not_false, Nat.reduceAdd, Nat.reduceSub, Nat.reduceMul, Nat.reduceLT, Nat.reduceLeDiff, Nat.reduceEqDiff, reduceCtorEq, List.reduceReplicate, Int.reduceToNat, Int.reduceLE, Int.reduceLT]
              | cons y T =>
                simp only [scanH, base4, scanS8, scanS, TokD.av, tokA, roundQ_ret, roundQ_normal, assignQ_normal, scanQo_ret, hown, hne, evS, tyS, Bool.not_true, Bool.not_false, Nat.reduceAdd, Nat.reduceSub, Nat.reduceMul, Nat.reduceLT, Nat.reduceLeDiff, Nat.reduceEqDiff, reduceCtorEq, List.reduceReplicate, Int.reduceToNat, Int.reduceLE, Int.reduceLT]
                refine DrawK.any (by kernel_rfl) ?_
                show anyK _ _ _ 6 _ _
                all_goals (refine anyK_succ (by decide +kernel) (all6 ?_ ?_ ?_ ?_ ?_ ?_) <;> first | exact notReady (by decide +kernel) | (intro _; refine ⟨_, rfl, rfl, ?_⟩; simp only [List.getElem_toArray, List.getElem_cons_zero, List.getElem_cons_succ, evS, tyS, Bool.not_true, Bool.not_false, Nat.reduceAdd, Nat.reduceSub, Nat.reduceMul, Nat.reduceLT, Nat.reduceLeDiff, Nat.reduceEqDiff, reduceCtorEq, List.reduceReplicate, Int.reduceToNat, Int.reduceLE, Int.reduceLT]))
                all_goals (refine anyK_succ (by decide +kernel) (all6 ?_ ?_ ?_ ?_ ?_ ?_) <;> first | exact notReady (by decide +kernel) | (intro _; refine ⟨_, rfl, rfl, ?_⟩; simp only [List.getElem_toArray, List.getElem_cons_zero, List.getElem_cons_succ, evS, tyS, Bool.not_true, Bool.not_false, Nat.reduceAdd, Nat.reduceSub, Nat.reduceMul, Nat.reduceLT, Nat.reduceLeDiff, Nat.reduceEqDiff, reduceCtorEq, List.reduceReplicate, Int.reduceToNat, Int.reduceLE, Int.reduceLT]))
                all_goals (refine anyK_succ (by decide +kernel) (all6 ?_ ?_ ?_ ?_ ?_ ?_) <;> first | exact notReady (by decide +kernel) | (intro _; refine ⟨_, rfl, rfl, ?_⟩; simp only [List.getElem_toArray, List.getElem_cons_zero, List.getElem_cons_succ, evS, tyS, Bool.not_true, Bool.not_false, Nat.reduceAdd, Nat.reduceSub, Nat.reduceMul, Nat.reduceLT, Nat.reduceLeDiff, Nat.reduceEqDiff, reduceCtorEq, List.reduceReplicate, Int.reduceToNat, Int.reduceLE, Int.reduceLT]))
                all_goals (refine anyK_succ (by decide +kernel) (all6 ?_ ?_ ?_ ?_ ?_ ?_) <;> first | exact notReady (by decide +kernel) | (intro _; refine ⟨_, rfl, rfl, ?_⟩; simp only [List.getElem_toArray, List.getElem_cons_zero, List.getElem_cons_succ, evS, tyS, Bool.not_true, Bool.not_false, Nat.reduceAdd, Nat.reduceSub, Nat.reduceMul, Nat.reduceLT, Nat.reduceLeDiff, Nat.reduceEqDiff, reduceCtorEq, List.reduceReplicate, Int.reduceToNat, Int.reduceLE, Int.reduceLT]))
                all_goals (refine anyK_succ (by decide +kernel) (all6 ?_ ?_ ?_ ?_ ?_ ?_) <;> first | exact notReady (by decide +kernel) | (intro _; refine ⟨_, rfl, rfl, ?_⟩; simp only [List.getElem_toArray, List.getElem_cons_zero, List.getElem_cons_succ, evS, tyS, Bool.not_true, Bool.not_false, Nat.reduceAdd, Nat.reduceSub, Nat.reduceMul, Nat.reduceLT, Nat.reduceLeDiff, Nat.reduceEqDiff, reduceCtorEq, List.reduceReplicate, Int.reduceToNat, Int.reduceLE, Int.reduceLT]))
                all_goals (refine anyK_succ (by decide +kernel) (all6 ?_ ?_ ?_ ?_ ?_ ?_) <;> first | exact notReady (by decide +kernel) | (intro _; refine ⟨_, rfl, rfl, ?_⟩; simp only [List.getElem_toArray, List.getElem_cons_zero, List.getElem_cons_succ, evS, tyS, Bool.not_true, Bool.not_false, Nat.reduceAdd, Nat.reduceSub, Nat.reduceMul, Nat.reduceLT, Nat.reduceLeDiff, Nat.reduceEqDiff, reduceCtorEq, List.reduceReplicate, Int.reduceToNat, Int.reduceLE, Int.reduceLT]))
                all_goals refine ⟨by decide +kernel, ?_⟩
                all_goals simp only [roundQ_ret, scanQo_ret, hown, t25, evS, tyS, Bool.not_true, Bool.not_false, Nat.reduceAdd, Nat.reduceSub, Nat.reduceMul, Nat.reduceLT, Nat.reduceLeDiff, Nat.reduceEqDiff, reduceCtorEq, List.reduceReplicate, Int.reduceToNat, Int.reduceLE, Int.reduceLT]
            | false =>
              have hee : e = 0 := by
                have := of_decide_eq_false hbad
                simpa using this
              subst hee
              have hz : ((0 : Int) != 0) = false := by decide
              have hHk1 : scanHf (eachItems l) (k + 1) = scanH (toks ++ [(t, pos)]) := by
                unfold scanHf
                by_cases hk1 : k + 1 = (eachItems l).length
                · rw [if_neg (by rw [hf2 hbad hk1]; rintro ⟨q, _⟩; cases q), hti]
                · rw [if_neg (by omega), hti]
              rw [hHk1]
              cases toks with
              | nil =>
                simp only [scanH, base4, scanS8, scanS, TokD.av, tokA, roundQ_ret, roundQ_normal, assignQ_normal, hz, List.nil_append, tokCells, tvals, listCells, evS, tyS, Bool.not_true, Bool.not_false, Nat.reduceAdd, Nat.reduceSub, Nat.reduceMul, Nat.reduceLT, Nat.reduceLeDiff, Nat.reduceEqDiff, reduceCtorEq, List.reduceReplicate, Int.reduceToNat, Int.reduceLE, Int.reduceLT]
                (repeat' (first | (with_reducible refine And.intro ?_ ?_) | ((first | refine GuardK.intro_f (fun h => ?_) (fun h => ?_) | refine GuardK.intro_t (fun h => ?_) (fun h => ?_) | refine CondK.intro (fun h => ?_) (fun h => ?_) | refine PickK.intro (fun h => ?_) (fun h => ?_)) <;> simp only [h, roundQ_normal, hz, evS, tyS, Bool.not_true, Bool.not_false, Nat.reduceAdd, Nat.reduceSub, Nat.reduceMul, Nat.reduceLT, Nat.reduceLeDiff, Nat.reduceEqDiff, reduceCtorEq, List.reduceReplicate, Int.reduceToNat, Int.reduceLE, Int.reduceLT]) | (refine DrawK.intro (by kernel_rfl) (by kernel_rfl) ?_; simp only [roundQ_normal, hz, evS, tyS, Bool.not_true, Bool.not_false, Nat.reduceAdd, Nat.reduceSub, Nat.reduceMul, Nat.reduceLT, Nat.reduceLeDiff, Nat.reduceEqDiff, reduceCtorEq, List.reduceReplicate, Int.reduceToNat, Int.reduceLE, Int.reduceLT])))
              | cons y T =>
                have e1 : scanH ((y :: T) ++ [(t, pos)]) = base4 (.own 6 (T.length + 1) (T.length + 1 + 1)) ++ [⟨0, 33, tokCells y⟩, ⟨0, 33, tokCells y⟩, ⟨T.length + 1, 33, listCells (y :: T) ++ tokCells (t, pos)⟩] := by
                  rw [← listCells_app]
                  simp only [List.cons_append, scanH, List.length_append, List.length_cons, List.length_nil]
                have hlc := listCells_len (y :: T)
                have htk : (listCells (y :: T)).take ((T.length + 1) * 6) = listCells (y :: T) := List.take_of_length_le (by rw [hlc]; exact Nat.le_refl _)
                rw [List.length_cons] at hlc hcount
                rw [e1]
                have eh : scanH (y :: T) = base4 (.own 6 T.length (T.length + 1)) ++ [⟨0, 33, tokCells y⟩, ⟨0, 33, tokCells y⟩, ⟨T.length, 33, listCells (y :: T)⟩] := rfl
                rw [eh]
                have hy6 : tokCells y = (tvals y.1 y.2).map AV.v := rfl
                have hx6 : tokCells (t, pos) = (tvals t pos).map AV.v := rfl
                have hLC7 := okRefL_list 7 (y :: T)
                have hY7 : okRefL 7 (tokCells y) = true := okRefL_vs 7 _
                have hb7 := okRefL_bytes 7 l
                generalize listCells (y :: T) = LC at hlc htk hLC7 ⊢
                generalize tokCells y = Y at *
                generalize T.length = m at *
                simp only [base4, scanS8, scanS, TokD.av, tokA, roundQ_ret, roundQ_normal, assignQ_normal, hz, List.cons_append, List.nil_append, hx6, tvals, hlc, htk, evS, tyS, Bool.not_true, Bool.not_false, Nat.reduceAdd, Nat.reduceSub, Nat.reduceMul, Nat.reduceLT, Nat.reduceLeDiff, Nat.reduceEqDiff, reduceCtorEq, List.reduceReplicate, Int.reduceToNat, Int.reduceLE, Int.reduceLT]
                (repeat' (first | (with_reducible refine And.intro ?_ ?_) | ((first | refine GuardK.intro_f (fun h => ?_) (fun h => ?_) | refine GuardK.intro_t (fun h => ?_) (fun h => ?_) | refine CondK.intro (fun h => ?_) (fun h => ?_) | refine PickK.intro (fun h => ?_) (fun h => ?_)) <;> simp only [h, roundQ_normal, hz, hlc, htk, evS, tyS, Bool.not_true, Bool.not_false, Nat.reduceAdd, Nat.reduceSub, Nat.reduceMul, Nat.reduceLT, Nat.reduceLeDiff, Nat.reduceEqDiff, reduceCtorEq, List.reduceReplicate, Int.reduceToNat, Int.reduceLE, Int.reduceLT]) | (refine DrawK.intro (by kernel_rfl) (by kernel_rfl) ?_; simp only [roundQ_normal, hz, hlc, htk, evS, tyS, Bool.not_true, Bool.not_false, Nat.reduceAdd, Nat.reduceSub, Nat.reduceMul, Nat.reduceLT, Nat.reduceLeDiff, Nat.reduceEqDiff, reduceCtorEq, List.reduceReplicate, Int.reduceToNat, Int.reduceLE, Int.reduceLT])))
                all_goals try omega
                all_goals (refine .inr ⟨?_, ?_⟩ <;> simp [okRefL, okRefB, okRef, okRefL_app, hLC7, hY7, hb7])
          · have hmk : ∀ D, X.marks [D] = X.with [(D, Obj.deferred (some []))] [markD D] none := fun D => by simp [Fix.marks, hXK, hXdf]
            have fin : ∀ (D : Nat) (φ5 : List Nat) (st5 : St) (a5 : Act) (w5 : World), X.w0.heap.size ≤ D → SR ((X.with [(Nb, .cells #[.slice (some ⟨r, off, none⟩) l.length cap] 22 (0, 0))] [] none).marked D) φ5 st5 a5 w5 → resS Tryd.prog [.cell 2 37, .cell 3 3, .cell 4 25] st5 (fun xs => ownR l st5.h xs) → QMs X (ownE l) .ret a5 w5 := fun D φ5 st5 a5 w5 hD h6 hq => by
              refine ⟨[D], φ5, st5, by simp, fun D' h => by rw [List.mem_singleton.1 h]; exact hD, ?_, rfl, hq⟩
              rw [hmk]
              exact SR.fewer (X := X) (K := (D, Obj.deferred (some [])) :: [(Nb, .cells #[.slice (some ⟨r, off, none⟩) l.length cap] 22 (0, 0))]) h6 (fun p hp => by rw [List.mem_singleton.1 hp]; simp)
            rintro e a5 w5 ⟨D, φ5, st5, ⟨hD, _⟩, h6, hq⟩
            cases e with
            | normal =>
              obtain rfl : st5 = ⟨scanS8 γ l b, scanHf (eachItems l) (eachItems l).length⟩ := hq
              cases herr : (eachItems l).find? badI with
              | some x =>
                exfalso
                have hH : scanHf (eachItems l) (eachItems l).length = [] := by unfold scanHf; rw [if_pos ⟨by rw [herr]; rfl, rfl⟩]
                rw [hH] at h6
                have := h6.slots 5
                have h5' : rel (.ptr 3 0 0) (cx ((X.with [(Nb, .cells #[.slice (some ⟨r, off, none⟩) l.length cap] 22 (0, 0))] [] none).marked D) φ5 [] w5) (a5.tmps.getD 5 undef) := this
                simp only [rel] at h5'
                obtain ⟨k, β, hc, _⟩ := h5'
                have := (curOf_eq.1 (show curOf φ5 [] 3 = some (k, β) from hc)).1
                simp at this
              | none =>
                have hH : scanHf (eachItems l) (eachItems l).length = scanH ((eachItems l).map fun x => x.1) := by
                  unfold scanHf
                  rw [if_neg (by rw [herr]; rintro ⟨q, _⟩; cases q), List.take_length]
                rw [hH] at h6
                refine wpIn_mono (kwp_soundP (X := (X.with [(Nb, .cells #[.slice (some ⟨r, off, none⟩) l.length cap] 22 (0, 0))] [] none).marked D) (r := none) hP _ (retQo l) (by kernel_rfl) h6 ?_) ?_
                · have t25 : aggT Tryd.prog 25 = some false := by kernel_rfl
                  have hown : ∀ (H : List ABlk) (xs : List AV), ownR l H xs = ownT ((eachItems l).map fun x => x.1) H xs := fun H xs => by unfold ownR; rw [herr]
                  generalize (eachItems l).map (fun x => x.1) = toks at hown ⊢
                  cases toks with
                  | nil =>
                    simp only [scanH, base4, scanS8, scanS, retQo_ret, t25, hown, ownT, evS, tyS, Bool.not_true, Bool.not_false, Nat.reduceAdd, Nat.reduceSub, Nat.reduceMul, Nat.reduceLT, Nat.reduceLeDiff, Nat.reduceEqDiff, reduceCtorEq, List.reduceReplicate, Int.reduceToNat, Int.reduceLE, Int.reduceLT]
                    (repeat' (first | (with_reducible refine And.intro ?_ ?_) | ((first | refine GuardK.intro_f (fun h => ?_) (fun h => ?_) | refine GuardK.intro_t (fun h => ?_) (fun h => ?_) | refine CondK.intro (fun h => ?_) (fun h => ?_) | refine PickK.intro (fun h => ?_) (fun h => ?_)) <;> simp only [h, t25, hown, ownT, evS, tyS, Bool.not_true, Bool.not_false, Nat.reduceAdd, Nat.reduceSub, Nat.reduceMul, Nat.reduceLT, Nat.reduceLeDiff, Nat.reduceEqDiff, reduceCtorEq, List.reduceReplicate, Int.reduceToNat, Int.reduceLE, Int.reduceLT]) | (refine DrawK.intro (by kernel_rfl) (by kernel_rfl) ?_; simp only [t25, hown, ownT, evS, tyS, Bool.not_true, Bool.not_false, Nat.reduceAdd, Nat.reduceSub, Nat.reduceMul, Nat.reduceLT, Nat.reduceLeDiff, Nat.reduceEqDiff, reduceCtorEq, List.reduceReplicate, Int.reduceToNat, Int.reduceLE, Int.reduceLT])))
                    all_goals first | done | exact ⟨_, rfl⟩ | exact ⟨rfl, _, rfl⟩ | trace_state
                  | cons y T =>
                    simp only [scanH, base4, scanS8, scanS, retQo_ret, t25, hown, ownT, evS, tyS, Bool.not_true, Bool.not_false, Nat.reduceAdd, Nat.reduceSub, Nat.reduceMul, Nat.reduceLT, Nat.reduceLeDiff, Nat.reduceEqDiff, reduceCtorEq, List.reduceReplicate, Int.reduceToNat, Int.reduceLE, Int.reduceLT]
                    (repeat' (first | (with_reducible refine And.intro ?_ ?_) | ((first | refine GuardK.intro_f (fun h => ?_) (fun h => ?_) | refine GuardK.intro_t (fun h => ?_) (fun h => ?_) | refine CondK.intro (fun h => ?_) (fun h => ?_) | refine PickK.intro (fun h => ?_) (fun h => ?_)) <;> simp only [h, t25, hown, ownT, evS, tyS, Bool.not_true, Bool.not_false, Nat.reduceAdd, Nat.reduceSub, Nat.reduceMul, Nat.reduceLT, Nat.reduceLeDiff, Nat.reduceEqDiff, reduceCtorEq, List.reduceReplicate, Int.reduceToNat, Int.reduceLE, Int.reduceLT]) | (refine DrawK.intro (by kernel_rfl) (by kernel_rfl) ?_; simp only [t25, hown, ownT, evS, tyS, Bool.not_true, Bool.not_false, Nat.reduceAdd, Nat.reduceSub, Nat.reduceMul, Nat.reduceLT, Nat.reduceLeDiff, Nat.reduceEqDiff, reduceCtorEq, List.reduceReplicate, Int.reduceToNat, Int.reduceLE, Int.reduceLT])))
                    all_goals first | done | rfl | trace_state
                · rintro e a6 w6 ⟨φ6, st6, h7, hq6⟩
                  cases e with
                  | ret => exact fin D φ6 st6 a6 w6 hD h7 hq6
                  | _ => exact hq6.elim
            | ret => exact fin D φ5 st5 a5 w5 hD h6 hq
            | _ => exact hq.elim
end Go.Proofs.YtplnhipgifcafaaDoor
/- lex.Scan, its list the caller's own. -/
namespace Go.Proofs.YtplnhipgifcafaaDoor
set_option linter.all false
open Go Go.Ev Go.RowKit
variable {γ : List (Nat × AV)}
/-- A list of tokens that is new: nil, or a block of its own. -/
def gotL (i : Nat) (x : AV) (K : ABlk) : Prop := x = .v (.slice none 0 0) ∨ ∃ ver n cells, n ≤ 32769 ∧ x = .own i ver n ∧ K = ⟨ver, 33, cells⟩ ∧ cells.length = n * 6
theorem scan_own (hγ : Gl γ) (hγ2 : GlW γ) {l : List UInt8} (hl : l.length ≤ 140737488351232) {X : Fix} {φ : List Nat} {st : St} {a : Act} {w : World} (hP : X.P = Tryd.prog) (hs : SR X φ st a w) (hg : st.s.g = γ) {m : Nat} {u : Value}
    (hu : rel (.sl false l.length m (l.map byteC)) (cx X φ st.h w) u) :
    Calls Tryd.prog 16 #[u] w fun e w' => ∃ v φ' x K pl er, e = .returned v ∧ SR X φ' ⟨st.s, st.h ++ [K]⟩ a w' ∧ rel (.tup [x, .v (.int .i64 pl), .v (.int .i64 er)]) (cx X φ' (st.h ++ [K]) w') v ∧ gotL st.h.length x K := by
  have hB : ∀ r, (fun r => r < w.heap.size) r → r < w.heap.size := fun _ h => h
  have hbytes : rel (.sl false l.length m (l.map byteC)) (cx (freshX Tryd.prog w (fun r => r < w.heap.size) hB) [] [] w) u :=
    rel_bytes (c := cx X φ st.h w) (c' := cx (freshX Tryd.prog w (fun r => r < w.heap.size) hB) [] [] w) rfl (fun r hr => ⟨hr.1, by simp, fun h => h⟩) hu
  have hbytes' : rel (.sl false l.length l.length (l.map byteC)) (cx (freshX Tryd.prog w (fun r => r < w.heap.size) hB) [] [] w) u := by
    simp only [rel] at hbytes ⊢
    obtain ⟨r, off, cap, e, h1, h2, h3, h4⟩ := hbytes
    exact ⟨r, off, cap, e, Nat.le_refl _, by omega, h3, h4⟩
  have hnt : Tryd.f16.ntmps = 22 := by kernel_rfl
  have hrs : Tryd.f16.results.toList = [.cell 2 37, .cell 3 3, .cell 4 25] := by kernel_rfl
  obtain ⟨c, hcb⟩ : ∃ c, Tryd.f16.body = some c := ⟨_, rfl⟩
  refine Calls.mono (own_of_wpM (γ := γ) (args := [.sl false l.length l.length (l.map byteC)]) Tryd.func16 hcb (fun h xs => ownR l h xs) (B := fun r => r < w.heap.size) (hB := hB) ?_ ?_ ?_) ?_
  · simp only [relL]
    exact ⟨_, _, rfl, hbytes', rfl⟩
  · intro k
    refine gl_rel (c := cx (freshX Tryd.prog w (fun r => r < w.heap.size) hB) [] [] w) hγ2 (gl_of_rel (c := cx X φ st.h w) rfl (fun r hr => hr.1) fun k => by rw [← hg]; exact (hs.gl k).2) rfl (fun r hr => ⟨hr, by simp, fun h => h⟩) k
  · intro a0 h0
    rw [hrs]
    have := lexScan_core hγ hγ2 false l hl hcb (freshX Tryd.prog w (fun r => r < w.heap.size) hB) rfl rfl rfl rfl (a := a0) (w := w) (by rw [← hnt]; exact h0)
    exact this
  · rintro e w' ⟨φc, sc, ac, us, xs, rfl, hsc, hus, hr⟩
    have hbel : Below w.heap.size w w' := hsc.below
    have key : ∀ (i : Nat) (k : ABlk), sc.h[i]? = some k → ∃ β vs fr, φc[i]? = some β ∧ w.heap.size ≤ β ∧ w'.heap[β]? = some (.cells vs k.e fr) ∧ k.cells.length ≤ vs.size ∧ (∀ off, off < vs.size → ¬ (fr.1 ≤ off ∧ off < fr.2)) ∧ relAt k.cells (cx ((freshX Tryd.prog w (fun r => r < w.heap.size) hB).marks []) φc sc.h w') β 0 := fun i k hk => by
      obtain ⟨β, vs, fr, h1, h2, h3, h4, h5, h6⟩ := hsc.at hk
      exact ⟨β, vs, fr, h1, (hsc.rng β (List.mem_of_getElem? h1)).1, h3, h4, h5, h6⟩
    have fin : ∀ (x : AV) (pl er : Int), xs = [x, .v (.int .i64 pl), .v (.int .i64 er)] → ∃ u0 u1 u2, us = [u0, u1, u2] ∧ rel x (cx ((freshX Tryd.prog w (fun r => r < w.heap.size) hB).marks []) φc sc.h w') u0 ∧ u1 = .int .i64 pl ∧ u2 = .int .i64 er := fun x pl er e => by
      subst e
      simp only [relL, rel] at hus
      obtain ⟨u0, _, rfl, h0, u1, _, rfl, h1, u2, _, rfl, h2, rfl⟩ := hus
      exact ⟨u0, u1, u2, rfl, h0, h1, h2⟩
    have nilC : ∀ (pl er : Int), xs = [.v (.slice none 0 0), .v (.int .i64 pl), .v (.int .i64 er)] → (∃ k, sc.h[0]? = some k) → ∃ v φ' x K pl er, (Ending.returned (if h : us.toArray.size = 1 then us.toArray[0] else .tuple us.toArray)) = .returned v ∧ SR X φ' ⟨st.s, st.h ++ [K]⟩ a w' ∧ rel (.tup [x, .v (.int .i64 pl), .v (.int .i64 er)]) (cx X φ' (st.h ++ [K]) w') v ∧ gotL st.h.length x K := fun pl er e ⟨k, hk⟩ => by
      obtain ⟨u0, u1, u2, rfl, h0, rfl, rfl⟩ := fin _ _ _ e
      obtain ⟨β, vs, fr, g1, g2, g3, g4, g5, g6⟩ := key 0 k hk
      have := hs.adopt hbel g2 g3 (cells := []) (ver := 0) (Nat.zero_le _) (fun c _ => by simp only [relAt]) g5
      refine ⟨_, _, .v (.slice none 0 0), _, pl, er, rfl, this, ?_, .inl rfl⟩
      rw [dif_neg (by simp)]
      simp only [rel] at h0 ⊢
      refine ⟨_, rfl, ?_⟩
      subst h0
      simp only [relL, rel]
      exact ⟨_, _, rfl, rfl, _, _, rfl, rfl, _, _, rfl, rfl, rfl⟩
    unfold ownR at hr
    split at hr
    · exact nilC _ _ hr.1 hr.2
    · have hn : ((eachItems l).map fun x => x.1).length ≤ 32769 := by rw [List.length_map]; exact items_len l
      generalize (eachItems l).map (fun x => x.1) = T at hr hn
      unfold ownT at hr
      split at hr
      · exact nilC _ _ hr.1 hr.2
      · rename_i T y T'
        obtain ⟨e, hk⟩ := hr
        obtain ⟨u0, u1, u2, rfl, h0, rfl, rfl⟩ := fin _ _ _ e
        obtain ⟨β, vs, fr, g1, g2, g3, g4, g5, g6⟩ := key 6 _ hk
        have hcv := listCells_vs (y :: T')
        generalize ((y :: T').map fun x => tvals x.1 x.2).flatten = cv at hcv
        have hlc := listCells_len (y :: T')
        have := hs.adopt hbel g2 g3 (cells := listCells (y :: T')) (ver := T'.length) g4 (fun c hc => by
          simp only at g6
          rw [hcv] at g6 ⊢
          exact relAt_vs cv (by rw [hc]; rfl) g6) g5
        refine ⟨_, _, .own st.h.length T'.length (T'.length + 1), _, 0, 0, rfl, this, ?_, .inr ⟨T'.length, T'.length + 1, listCells (y :: T'), by simpa using hn, rfl, rfl, by rw [hlc, List.length_cons]⟩⟩
        rw [dif_neg (by simp)]
        simp only [rel] at h0
        obtain ⟨k, β', q1, q2, q3, q4⟩ := h0
        obtain ⟨q5, q6⟩ := curOf_eq.1 (show curOf φc sc.h 6 = some (k, β') from q1)
        obtain rfl := Option.some.inj (hk.symm.trans q5)
        obtain rfl := Option.some.inj (g1.symm.trans q6)
        obtain ⟨cap, rfl, q7, q8⟩ := q4 rfl
        simp only [rel]
        refine ⟨_, rfl, ?_⟩
        simp only [relL]
        refine ⟨_, _, rfl, ?_, _, _, rfl, rel_v _ _, _, _, rfl, rel_v _ _, rfl⟩
        refine rel_own (i := st.h.length) (st := ⟨st.s, st.h ++ [⟨T'.length, 33, listCells (y :: T')⟩]⟩) (φ := φ ++ [β]) (k := ⟨T'.length, 33, listCells (y :: T')⟩) (β := β) (curOf_eq.2 ⟨by simp, by simp [hs.φlen]⟩) rfl q7 ?_
        rw [hP]
        exact q8
end Go.Proofs.YtplnhipgifcafaaDoor
/- LexOwn: what the loops know of the lists. -/
namespace Go.Proofs.YtplnhipgifcafaaDoor
set_option linter.all false
open Go Go.Ev Go.RowKit
variable {γ : List (Nat × AV)}
theorem tyO : appT Tryd.prog 53 53 = some (37, 1, 24) ∧
    elemT Tryd.prog 53 = some 37 ∧
    mkT Tryd.prog 53 = some (37, 1, [.v (.slice none 0 0)]) :=
  ⟨by kernel_rfl, by kernel_rfl, by kernel_rfl⟩
def eAt (k : Nat) : Nat := if k = 0 then 0 else 2 * k + 1
/-- A list of tokens: n tokens, in the block e; the first j have the kinds f. -/
def isL (H : List ABlk) (e : Nat) (x : AV) (n j : Nat) (f : Nat → Int) : Prop :=
  (x = .v (.slice none 0 0) ∧ n = 0) ∨ ∃ ver cells, x = .own e ver n ∧ H[e]? = some ⟨ver, 33, cells⟩ ∧ n * 6 ≤ cells.length ∧ ∀ m, m < j → cells[m * 6]? = some (.v (.int .i64 (f m)))
def allL (Lx : List AV) (nn kn : Nat → Nat) (H : List ABlk) : Prop :=
  H[2]? = some ⟨3, 37, Lx⟩ ∧ ∀ k, k < 4 → ∃ x, Lx[k]? = some x ∧ nn k ≤ 32769 ∧ isL H (eAt k) x (nn k) (kn k) (fun _ => -(k : Int) - 1)
def knA (nn : Nat → Nat) (i j k : Nat) : Nat := if k < i then nn k else if k = i then j else 0
theorem knA_next (nn : Nat → Nat) (i : Nat) : knA nn i (nn i) = knA nn (i + 1) 0 := by
  funext k
  unfold knA
  by_cases h1 : k < i
  · rw [if_pos h1, if_pos (by omega)]
  · by_cases h2 : k = i
    · subst h2; rw [if_neg h1, if_pos rfl, if_pos (by omega)]
    · rw [if_neg h1, if_neg h2, if_neg (by omega)]; split <;> rfl
theorem eAt_inj {k i : Nat} (h : eAt k = eAt i) : k = i := by
  unfold eAt at h
  split at h <;> split at h <;> omega
theorem eAt_ne2 (k : Nat) : eAt k ≠ 2 := by unfold eAt; split <;> omega
theorem isL_set {H : List ABlk} {e : Nat} {x : AV} {n j : Nat} {f : Nat → Int} {e' : Nat} {b : ABlk} (h : isL H e x n j f) (hne : e ≠ e') : isL (H.set e' b) e x n j f := by
  rcases h with h | ⟨ver, cells, h1, h2, h3, h4⟩
  · exact .inl h
  · exact .inr ⟨ver, cells, h1, by rw [List.getElem?_set_ne (by omega)]; exact h2, h3, h4⟩
theorem isL_push {H : List ABlk} {e : Nat} {x : AV} {n j : Nat} {f : Nat → Int} (h : isL H e x n j f) (H' : List ABlk) : isL (H ++ H') e x n j f := by
  rcases h with h | ⟨ver, cells, h1, h2, h3, h4⟩
  · exact .inl h
  · exact .inr ⟨ver, cells, h1, by rw [List.getElem?_append_left (List.getElem?_eq_some_iff.1 h2).1]; exact h2, h3, h4⟩
theorem setMany_get : ∀ (cs l : List AV) (i m : Nat), i + cs.length ≤ l.length → (setMany l i cs)[m]? = if i ≤ m ∧ m < i + cs.length then cs[m - i]? else l[m]?
  | [], l, i, m, _ => by
    rw [if_neg (by simp only [List.length_nil]; omega)]; rfl
  | c :: cs, l, i, m, h => by
    simp only [List.length_cons] at h ⊢
    unfold setMany
    rw [setMany_get cs _ _ _ (by rw [List.length_set]; omega)]
    by_cases h1 : i + 1 ≤ m ∧ m < i + 1 + cs.length
    · rw [if_pos h1, if_pos (by omega), show m - i = (m - (i + 1)) + 1 by omega, List.getElem?_cons_succ]
    · rw [if_neg h1]
      by_cases h2 : m = i
      · subst h2
        rw [if_pos (by omega), Nat.sub_self, List.getElem?_cons_zero, List.getElem?_set_self (by omega)]
      · rw [if_neg (by omega), List.getElem?_set_ne (by omega)]
theorem setMany_len : ∀ (cs l : List AV) (i : Nat), (setMany l i cs).length = l.length
  | [], _, _ => rfl
  | c :: cs, l, i => by unfold setMany; rw [setMany_len cs, List.length_set]
/-- One more token of the list i is written. -/
theorem allL_write {Lx : List AV} {nn : Nat → Nat} {H : List ABlk} {i j : Nat} (h : allL Lx nn (knA nn i j) H) {ver : Nat} {cells : List AV} {n : Nat} (hx : Lx[i]? = some (.own (eAt i) ver (nn i))) (hk : H[eAt i]? = some ⟨ver, 33, cells⟩) (hlen : nn i * 6 ≤ cells.length) (hj : j < nn i)
    {cs : List AV} (hcs : cs.length = 6) (hc0 : cs[0]? = some (.v (.int .i64 (-(i : Int) - 1)))) (hm : ∀ m, m < j → cells[m * 6]? = some (.v (.int .i64 (-(i : Int) - 1)))) :
    allL Lx nn (knA nn i (j + 1)) (H.set (eAt i) ⟨ver, 33, setMany cells (j * 6) cs⟩) := by
  refine ⟨by rw [List.getElem?_set_ne (eAt_ne2 i)]; exact h.1, fun k hk4 => ?_⟩
  obtain ⟨x, h1, hn, h2⟩ := h.2 k hk4
  refine ⟨x, h1, hn, ?_⟩
  by_cases hki : k = i
  · subst hki
    have e1 : knA nn k (j + 1) k = j + 1 := by unfold knA; rw [if_neg (by omega), if_pos rfl]
    rw [e1]
    obtain rfl := Option.some.inj (hx.symm.trans h1)
    refine .inr ⟨ver, _, rfl, List.getElem?_set_self (List.getElem?_eq_some_iff.1 hk).1, by rw [setMany_len]; exact hlen, fun m hmj => ?_⟩
    rw [setMany_get _ _ _ _ (by omega), hcs]
    by_cases hmj' : m = j
    · subst hmj'
      rw [if_pos (by omega), Nat.sub_self]; exact hc0
    · rw [if_neg (by omega)]; exact hm m (by omega)
  · have e1 : knA nn i (j + 1) k = knA nn i j k := by unfold knA; simp only [if_neg hki]
    rw [e1]
    exact isL_set h2 (fun e => hki (eAt_inj e))
end Go.Proofs.YtplnhipgifcafaaDoor
/- LexOwn: each list is written through. -/
namespace Go.Proofs.YtplnhipgifcafaaDoor
set_option linter.all false
open Go Go.Ev Go.RowKit
variable {γ : List (Nat × AV)}
def codeAt : List Bool → Code → Option Code
  | [], c => some c
  | false :: p, .seq a _ => codeAt p a
  | true :: p, .seq _ b => codeAt p b
  | _, _ => none
def p2Q (γ : List (Nat × AV)) (Lx : List AV) (nn : Nat → Nat) : Post
  | .normal, s => ∃ H', slotW s ⟨⟨161, [(5, .own 2 3 4)], γ⟩, H'⟩ ∧ allL Lx nn (knA nn 4 0) H' ∧ 9 ≤ H'.length
  | _, _ => False
theorem p2Q_normal (γ : List (Nat × AV)) (Lx : List AV) (nn : Nat → Nat) (s : St) : p2Q γ Lx nn .normal s = ∃ H', slotW s ⟨⟨161, [(5, .own 2 3 4)], γ⟩, H'⟩ ∧ allL Lx nn (knA nn 4 0) H' ∧ 9 ≤ H'.length := rfl
set_option maxHeartbeats 2000000 in
set_option maxRecDepth 20000 in
theorem p2_kwp {c : Code} (hc : Tryd.f9.body.bind (codeAt [true, true, true, true, false]) = some c) {Lx : List AV} {nn : Nat → Nat} {H : List ABlk} (hG : allL Lx nn (knA nn 0 0) H) (h9 : 9 ≤ H.length) :
    kwp Tryd.prog c (p2Q γ Lx nn) ⟨⟨161, [(5, .own 2 3 4)], γ⟩, H⟩ := by
  obtain rfl := Option.some.inj (hc.symm.trans rfl)
  simp only [p2Q_normal, evS, tyS, Bool.not_true, Bool.not_false, Nat.reduceAdd, Nat.reduceSub, Nat.reduceMul, Nat.reduceLT, Nat.reduceLeDiff, Nat.reduceEqDiff, reduceCtorEq, List.reduceReplicate, Int.reduceToNat, Int.reduceLE, Int.reduceLT]
  refine LoopK.intro (fun x : Nat × List ABlk => ⟨⟨161, [(11, .v (.int .i64 x.1)), (5, .own 2 3 4)], γ⟩, x.2⟩) (fun x => x.1 ≤ 4 ∧ allL Lx nn (knA nn x.1 0) x.2 ∧ 9 ≤ x.2.length) (fun x => 4 - x.1) (0, H) ?_ ⟨Nat.zero_le _, hG, h9⟩ ?_
  · exact ⟨rfl, rfl, ⟨rfl, rfl, trivial⟩, .inl rfl⟩
  · rintro ⟨i, H1⟩ ⟨hi, h1, n1⟩
    simp only at hi h1 n1
    have hA := h1.1
    by_cases hi4 : i = 4
    · have d1 : decide (i < 4) = false := decide_eq_false (by omega)
      have d2 : decide ((i : Int) < 4) = false := decide_eq_false (by omega)
      simp only [p2Q_normal, d1, d2, hA, tyO, evS, tyS, Bool.not_true, Bool.not_false, Nat.reduceAdd, Nat.reduceSub, Nat.reduceMul, Nat.reduceLT, Nat.reduceLeDiff, Nat.reduceEqDiff, reduceCtorEq, List.reduceReplicate, Int.reduceToNat, Int.reduceLE, Int.reduceLT]
      (repeat' (first | (with_reducible refine And.intro ?_ ?_) | ((first | refine GuardK.intro_f (fun h => ?_) (fun h => ?_) | refine GuardK.intro_t (fun h => ?_) (fun h => ?_) | refine CondK.intro (fun h => ?_) (fun h => ?_) | refine PickK.intro (fun h => ?_) (fun h => ?_)) <;> simp only [h, p2Q_normal, d1, d2, hA, tyO, evS, tyS, Bool.not_true, Bool.not_false, Nat.reduceAdd, Nat.reduceSub, Nat.reduceMul, Nat.reduceLT, Nat.reduceLeDiff, Nat.reduceEqDiff, reduceCtorEq, List.reduceReplicate, Int.reduceToNat, Int.reduceLE, Int.reduceLT]) | (refine DrawK.intro (by kernel_rfl) (by kernel_rfl) ?_; simp only [p2Q_normal, d1, d2, hA, tyO, evS, tyS, Bool.not_true, Bool.not_false, Nat.reduceAdd, Nat.reduceSub, Nat.reduceMul, Nat.reduceLT, Nat.reduceLeDiff, Nat.reduceEqDiff, reduceCtorEq, List.reduceReplicate, Int.reduceToNat, Int.reduceLE, Int.reduceLT])))
      subst hi4
      exact ⟨H1, ⟨rfl, rfl, ⟨rfl, trivial⟩, rfl⟩, h1, n1⟩
    · have hlt : i < 4 := by omega
      have d1 : decide (i < 4) = true := decide_eq_true (by omega)
      have ei : IntKind.i64.wrap ((i : Int) + 1) = ((i + 1 : Nat) : Int) := i64w (by omega) (by omega)
      have e0 : IntKind.i64.wrap (0 - (i : Int)) = -(i : Int) := (i64w (by omega) (by omega)).trans (by omega)
      have e1 : IntKind.i64.wrap (-(i : Int) - 1) = -(i : Int) - 1 := i64w (by omega) (by omega)
      have d2 : decide ((i : Int) < 4) = true := decide_eq_true (by omega)
      simp only [p2Q_normal, d1, d2, hA, tyO, evS, tyS, Bool.not_true, Bool.not_false, Nat.reduceAdd, Nat.reduceSub, Nat.reduceMul, Nat.reduceLT, Nat.reduceLeDiff, Nat.reduceEqDiff, reduceCtorEq, List.reduceReplicate, Int.reduceToNat, Int.reduceLE, Int.reduceLT]
      refine LoopK.intro (fun x : Nat × List ABlk => ⟨⟨161, [(12, .v (.int .i64 x.1)), (11, .v (.int .i64 i)), (5, .own 2 3 4)], γ⟩, x.2⟩) (fun x => x.1 ≤ nn i ∧ allL Lx nn (knA nn i x.1) x.2 ∧ 9 ≤ x.2.length) (fun x => nn i - x.1) (0, H1) ?_ ⟨Nat.zero_le _, h1, n1⟩ ?_
      · exact ⟨rfl, rfl, ⟨rfl, rfl, rfl, trivial⟩, .inl rfl⟩
      · rintro ⟨j, H2⟩ ⟨hj, h2, n2⟩
        simp only at hj h2 n2
        have hA2 := h2.1
        obtain ⟨x, hx, hn, hl⟩ := h2.2 i (by omega)
        rcases hl with ⟨rfl, hn0⟩ | ⟨ver, cells, rfl, hk, hlen, hm⟩
        · have d3 : decide (j < 0) = false := decide_eq_false (by omega)
          have d4 : decide ((j : Int) < 0) = false := decide_eq_false (by omega)
          simp only [p2Q_normal, d1, d2, d3, d4, hA2, hx, tyO, evS, tyS, Bool.not_true, Bool.not_false, Nat.reduceAdd, Nat.reduceSub, Nat.reduceMul, Nat.reduceLT, Nat.reduceLeDiff, Nat.reduceEqDiff, reduceCtorEq, List.reduceReplicate, Int.reduceToNat, Int.reduceLE, Int.reduceLT]
          (repeat' (first | (with_reducible refine And.intro ?_ ?_) | ((first | refine GuardK.intro_f (fun h => ?_) (fun h => ?_) | refine GuardK.intro_t (fun h => ?_) (fun h => ?_) | refine CondK.intro (fun h => ?_) (fun h => ?_) | refine PickK.intro (fun h => ?_) (fun h => ?_)) <;> simp only [h, p2Q_normal, d1, d2, d3, d4, hA2, hx, tyO, evS, tyS, Bool.not_true, Bool.not_false, Nat.reduceAdd, Nat.reduceSub, Nat.reduceMul, Nat.reduceLT, Nat.reduceLeDiff, Nat.reduceEqDiff, reduceCtorEq, List.reduceReplicate, Int.reduceToNat, Int.reduceLE, Int.reduceLT]) | (refine DrawK.intro (by kernel_rfl) (by kernel_rfl) ?_; simp only [p2Q_normal, d1, d2, d3, d4, hA2, hx, tyO, evS, tyS, Bool.not_true, Bool.not_false, Nat.reduceAdd, Nat.reduceSub, Nat.reduceMul, Nat.reduceLT, Nat.reduceLeDiff, Nat.reduceEqDiff, reduceCtorEq, List.reduceReplicate, Int.reduceToNat, Int.reduceLE, Int.reduceLT])))
          · exact hlt
          · exact loopC.intro (i + 1, H2) ⟨by omega, by rw [← knA_next, hn0]; rw [hn0] at hj; obtain rfl : j = 0 := by omega
                                                        exact h2, n2⟩ ⟨rfl, rfl, ⟨by rw [← ei]; rfl, rfl, trivial⟩, .inl rfl⟩ (by simp only; omega)
        · by_cases hjn : j = nn i
          · have d3 : decide (j < nn i) = false := decide_eq_false (by omega)
            have d4 : decide ((j : Int) < (nn i : Int)) = false := decide_eq_false (by omega)
            simp only [p2Q_normal, d1, d2, d3, d4, hA2, hx, hk, tyO, evS, tyS, Bool.not_true, Bool.not_false, Nat.reduceAdd, Nat.reduceSub, Nat.reduceMul, Nat.reduceLT, Nat.reduceLeDiff, Nat.reduceEqDiff, reduceCtorEq, List.reduceReplicate, Int.reduceToNat, Int.reduceLE, Int.reduceLT]
            (repeat' (first | (with_reducible refine And.intro ?_ ?_) | ((first | refine GuardK.intro_f (fun h => ?_) (fun h => ?_) | refine GuardK.intro_t (fun h => ?_) (fun h => ?_) | refine CondK.intro (fun h => ?_) (fun h => ?_) | refine PickK.intro (fun h => ?_) (fun h => ?_)) <;> simp only [h, p2Q_normal, d1, d2, d3, d4, hA2, hx, hk, tyO, evS, tyS, Bool.not_true, Bool.not_false, Nat.reduceAdd, Nat.reduceSub, Nat.reduceMul, Nat.reduceLT, Nat.reduceLeDiff, Nat.reduceEqDiff, reduceCtorEq, List.reduceReplicate, Int.reduceToNat, Int.reduceLE, Int.reduceLT]) | (refine DrawK.intro (by kernel_rfl) (by kernel_rfl) ?_; simp only [p2Q_normal, d1, d2, d3, d4, hA2, hx, hk, tyO, evS, tyS, Bool.not_true, Bool.not_false, Nat.reduceAdd, Nat.reduceSub, Nat.reduceMul, Nat.reduceLT, Nat.reduceLeDiff, Nat.reduceEqDiff, reduceCtorEq, List.reduceReplicate, Int.reduceToNat, Int.reduceLE, Int.reduceLT])))
            · exact hlt
            · exact loopC.intro (i + 1, H2) ⟨by omega, by rw [← knA_next, ← hjn]; exact h2, n2⟩ ⟨rfl, rfl, ⟨by rw [← ei]; rfl, rfl, trivial⟩, .inl rfl⟩ (by simp only; omega)
          · have hjlt : j < nn i := by omega
            have ej : IntKind.i64.wrap ((j : Int) + 1) = ((j + 1 : Nat) : Int) := i64w (by omega) (by omega)
            have d3 : decide (j < nn i) = true := decide_eq_true (by omega)
            have d4 : decide ((j : Int) < (nn i : Int)) = true := decide_eq_true (by omega)
            have hfit : (j * 6 + 6 ≤ cells.length) = True := eq_true (by omega)
            simp only [p2Q_normal, d1, d2, d3, d4, hA2, hx, hk, tyO, hfit, e0, e1, evS, tyS, Bool.not_true, Bool.not_false, Nat.reduceAdd, Nat.reduceSub, Nat.reduceMul, Nat.reduceLT, Nat.reduceLeDiff, Nat.reduceEqDiff, reduceCtorEq, List.reduceReplicate, Int.reduceToNat, Int.reduceLE, Int.reduceLT]
            (repeat' (first | (with_reducible refine And.intro ?_ ?_) | ((first | refine GuardK.intro_f (fun h => ?_) (fun h => ?_) | refine GuardK.intro_t (fun h => ?_) (fun h => ?_) | refine CondK.intro (fun h => ?_) (fun h => ?_) | refine PickK.intro (fun h => ?_) (fun h => ?_)) <;> simp only [h, p2Q_normal, d1, d2, d3, d4, hA2, hx, hk, tyO, hfit, e0, e1, evS, tyS, Bool.not_true, Bool.not_false, Nat.reduceAdd, Nat.reduceSub, Nat.reduceMul, Nat.reduceLT, Nat.reduceLeDiff, Nat.reduceEqDiff, reduceCtorEq, List.reduceReplicate, Int.reduceToNat, Int.reduceLE, Int.reduceLT]) | (refine DrawK.intro (by kernel_rfl) (by kernel_rfl) ?_; simp only [p2Q_normal, d1, d2, d3, d4, hA2, hx, hk, tyO, hfit, e0, e1, evS, tyS, Bool.not_true, Bool.not_false, Nat.reduceAdd, Nat.reduceSub, Nat.reduceMul, Nat.reduceLT, Nat.reduceLeDiff, Nat.reduceEqDiff, reduceCtorEq, List.reduceReplicate, Int.reduceToNat, Int.reduceLE, Int.reduceLT])))
            · exact hlt
            · exact hlt
            · exact hjlt
            · exact loopC.intro (j + 1, H2.set (eAt i) ⟨ver, 33, setMany cells (j * 6) [.v (.int .i64 (-(i : Int) - 1)), .v (.string ⟨#[]⟩), .v (.int .i64 0), .v (.float .f64 0), .v (.int .i64 0), .v (.int .i64 0)]⟩)
                ⟨hjlt, allL_write h2 (n := nn i) hx hk hlen hjlt rfl rfl (fun m hmj => hm m (by unfold knA; rw [if_neg (by omega), if_pos rfl]; exact hmj)), by simp only [List.length_set]; exact n2⟩ ⟨rfl, rfl, ⟨by rw [← ej]; rfl, rfl, rfl, trivial⟩, .inl rfl⟩ (by simp only; omega)
end Go.Proofs.YtplnhipgifcafaaDoor
/- LexOwn: each list reads as it should. -/
namespace Go.Proofs.YtplnhipgifcafaaDoor
set_option linter.all false
open Go Go.Ev Go.RowKit
variable {γ : List (Nat × AV)}
def gk (nn : Nat → Nat) (k m : Nat) : Int := if m < nn k then -(k : Int) - 1 else 100 + (k : Int)
def p4Q (γ : List (Nat × AV)) (H : List ABlk) : Post
  | .normal, s => slotW s ⟨⟨161, [], γ⟩, H⟩
  | _, _ => False
theorem p4Q_normal (γ : List (Nat × AV)) (H : List ABlk) (s : St) : p4Q γ H .normal s = slotW s ⟨⟨161, [], γ⟩, H⟩ := rfl
set_option maxHeartbeats 4000000 in
set_option maxRecDepth 20000 in
theorem p4_kwp {c : Code} (hc : Tryd.f9.body.bind (codeAt [true, true, true, true, true, true, true, false]) = some c) {Lx Ly : List AV} {nn : Nat → Nat} {H : List ABlk} {Gb : Nat} (hG : allL Lx nn nn H)
    (hB : H[Gb]? = some ⟨3, 37, Ly⟩) (hy : ∀ k, k < 4 → ∃ y e, Ly[k]? = some y ∧ isL H e y (nn k + 40) (nn k + 40) (gk nn k)) :
    kwp Tryd.prog c (p4Q γ H) ⟨⟨161, [(13, .own Gb 3 4), (5, .own 2 3 4)], γ⟩, H⟩ := by
  obtain rfl := Option.some.inj (hc.symm.trans rfl)
  have hA := hG.1
  simp only [p4Q_normal, evS, tyS, Bool.not_true, Bool.not_false, Nat.reduceAdd, Nat.reduceSub, Nat.reduceMul, Nat.reduceLT, Nat.reduceLeDiff, Nat.reduceEqDiff, reduceCtorEq, List.reduceReplicate, Int.reduceToNat, Int.reduceLE, Int.reduceLT]
  refine LoopK.intro (fun x : Nat => ⟨⟨161, [(17, .v (.int .i64 x)), (13, .own Gb 3 4), (5, .own 2 3 4)], γ⟩, H⟩) (fun x => x ≤ 4) (fun x => 4 - x) 0 ?_ (Nat.zero_le _) ?_
  · exact ⟨rfl, rfl, ⟨rfl, rfl, rfl, trivial⟩, .inl rfl⟩
  · rintro i hi
    by_cases hi4 : i = 4
    · have d1 : decide (i < 4) = false := decide_eq_false (by omega)
      have d2 : decide ((i : Int) < 4) = false := decide_eq_false (by omega)
      simp only [p4Q_normal, d1, d2, hA, tyO, evS, tyS, Bool.not_true, Bool.not_false, Nat.reduceAdd, Nat.reduceSub, Nat.reduceMul, Nat.reduceLT, Nat.reduceLeDiff, Nat.reduceEqDiff, reduceCtorEq, List.reduceReplicate, Int.reduceToNat, Int.reduceLE, Int.reduceLT]
      (repeat' (first | (with_reducible refine And.intro ?_ ?_) | ((first | refine GuardK.intro_f (fun h => ?_) (fun h => ?_) | refine GuardK.intro_t (fun h => ?_) (fun h => ?_) | refine CondK.intro (fun h => ?_) (fun h => ?_) | refine PickK.intro (fun h => ?_) (fun h => ?_)) <;> simp only [h, p4Q_normal, d1, d2, hA, tyO, evS, tyS, Bool.not_true, Bool.not_false, Nat.reduceAdd, Nat.reduceSub, Nat.reduceMul, Nat.reduceLT, Nat.reduceLeDiff, Nat.reduceEqDiff, reduceCtorEq, List.reduceReplicate, Int.reduceToNat, Int.reduceLE, Int.reduceLT]) | (refine DrawK.intro (by kernel_rfl) (by kernel_rfl) ?_; simp only [p4Q_normal, d1, d2, hA, tyO, evS, tyS, Bool.not_true, Bool.not_false, Nat.reduceAdd, Nat.reduceSub, Nat.reduceMul, Nat.reduceLT, Nat.reduceLeDiff, Nat.reduceEqDiff, reduceCtorEq, List.reduceReplicate, Int.reduceToNat, Int.reduceLE, Int.reduceLT])))
      subst hi4
      exact ⟨rfl, rfl, trivial, rfl⟩
    · have hlt : i < 4 := by omega
      have d1 : decide (i < 4) = true := decide_eq_true (by omega)
      have ei : IntKind.i64.wrap ((i : Int) + 1) = ((i + 1 : Nat) : Int) := i64w (by omega) (by omega)
      have e0 : IntKind.i64.wrap (0 - (i : Int)) = -(i : Int) := (i64w (by omega) (by omega)).trans (by omega)
      have e1 : IntKind.i64.wrap (-(i : Int) - 1) = -(i : Int) - 1 := i64w (by omega) (by omega)
      have e2 : IntKind.i64.wrap (100 + (i : Int)) = 100 + (i : Int) := i64w (by omega) (by omega)
      have d2 : decide ((i : Int) < 4) = true := decide_eq_true (by omega)
      obtain ⟨x, hx, hn, hl⟩ := hG.2 i hlt
      obtain ⟨y, e, hyi, hyl⟩ := hy i hlt
      rcases hyl with ⟨_, h0⟩ | ⟨ver', cells', rfl, hk', hlen', hm'⟩
      · omega
      simp only [p4Q_normal, d1, d2, hA, tyO, evS, tyS, Bool.not_true, Bool.not_false, Nat.reduceAdd, Nat.reduceSub, Nat.reduceMul, Nat.reduceLT, Nat.reduceLeDiff, Nat.reduceEqDiff, reduceCtorEq, List.reduceReplicate, Int.reduceToNat, Int.reduceLE, Int.reduceLT]
      refine LoopK.intro (fun x : Nat => ⟨⟨161, [(18, .v (.int .i64 x)), (17, .v (.int .i64 i)), (13, .own Gb 3 4), (5, .own 2 3 4)], γ⟩, H⟩) (fun x => x ≤ nn i + 40) (fun x => nn i + 40 - x) 0 ?_ (Nat.zero_le _) ?_
      · exact ⟨rfl, rfl, ⟨rfl, rfl, rfl, rfl, trivial⟩, .inl rfl⟩
      · rintro j hj
        by_cases hjn : j = nn i + 40
        · have d3 : decide (j < nn i + 40) = false := decide_eq_false (by omega)
          have d4 : decide ((j : Int) < ((nn i + 40 : Nat) : Int)) = false := decide_eq_false (by omega)
          simp only [p4Q_normal, d1, d2, d3, d4, hA, hB, hyi, hk', tyO, evS, tyS, Bool.not_true, Bool.not_false, Nat.reduceAdd, Nat.reduceSub, Nat.reduceMul, Nat.reduceLT, Nat.reduceLeDiff, Nat.reduceEqDiff, reduceCtorEq, List.reduceReplicate, Int.reduceToNat, Int.reduceLE, Int.reduceLT]
          (repeat' (first | (with_reducible refine And.intro ?_ ?_) | ((first | refine GuardK.intro_f (fun h => ?_) (fun h => ?_) | refine GuardK.intro_t (fun h => ?_) (fun h => ?_) | refine CondK.intro (fun h => ?_) (fun h => ?_) | refine PickK.intro (fun h => ?_) (fun h => ?_)) <;> simp only [h, p4Q_normal, d1, d2, d3, d4, hA, hB, hyi, hk', tyO, evS, tyS, Bool.not_true, Bool.not_false, Nat.reduceAdd, Nat.reduceSub, Nat.reduceMul, Nat.reduceLT, Nat.reduceLeDiff, Nat.reduceEqDiff, reduceCtorEq, List.reduceReplicate, Int.reduceToNat, Int.reduceLE, Int.reduceLT]) | (refine DrawK.intro (by kernel_rfl) (by kernel_rfl) ?_; simp only [p4Q_normal, d1, d2, d3, d4, hA, hB, hyi, hk', tyO, evS, tyS, Bool.not_true, Bool.not_false, Nat.reduceAdd, Nat.reduceSub, Nat.reduceMul, Nat.reduceLT, Nat.reduceLeDiff, Nat.reduceEqDiff, reduceCtorEq, List.reduceReplicate, Int.reduceToNat, Int.reduceLE, Int.reduceLT])))
          · exact hlt
          · exact loopC.intro (i + 1) (by omega) ⟨rfl, rfl, ⟨by rw [← ei]; rfl, rfl, rfl, trivial⟩, .inl rfl⟩ (by omega)
        · have hjlt : j < nn i + 40 := by omega
          have ej : IntKind.i64.wrap ((j : Int) + 1) = ((j + 1 : Nat) : Int) := i64w (by omega) (by omega)
          have d3 : decide (j < nn i + 40) = true := decide_eq_true (by omega)
          have d4 : decide ((j : Int) < ((nn i + 40 : Nat) : Int)) = true := decide_eq_true (by omega)
          have hmj := hm' j hjlt
          rcases hl with ⟨rfl, hn0⟩ | ⟨ver, cells, rfl, hk, hlen, hm⟩
          · have d5 : decide (j < 0) = false := decide_eq_false (by omega)
            have d6 : decide ((j : Int) < 0) = false := decide_eq_false (by omega)
            have d7 : decide (0 ≤ j) = true := decide_eq_true (by omega)
            have d8 : decide ((0 : Int) ≤ (j : Int)) = true := decide_eq_true (by omega)
            rw [show gk nn i j = 100 + (i : Int) by unfold gk; rw [if_neg (by omega)]] at hmj
            simp only [p4Q_normal, d1, d2, d3, d4, d5, d6, d7, d8, hA, hB, hyi, hk', hx, hmj, e0, e1, e2, bne_self, tyO, evS, tyS, Bool.not_true, Bool.not_false, Nat.reduceAdd, Nat.reduceSub, Nat.reduceMul, Nat.reduceLT, Nat.reduceLeDiff, Nat.reduceEqDiff, reduceCtorEq, List.reduceReplicate, Int.reduceToNat, Int.reduceLE, Int.reduceLT]
            (repeat' (first | (with_reducible refine And.intro ?_ ?_) | ((first | refine GuardK.intro_f (fun h => ?_) (fun h => ?_) | refine GuardK.intro_t (fun h => ?_) (fun h => ?_) | refine CondK.intro (fun h => ?_) (fun h => ?_) | refine PickK.intro (fun h => ?_) (fun h => ?_)) <;> simp only [h, p4Q_normal, d1, d2, d3, d4, d5, d6, d7, d8, hA, hB, hyi, hk', hx, hmj, e0, e1, e2, bne_self, tyO, evS, tyS, Bool.not_true, Bool.not_false, Nat.reduceAdd, Nat.reduceSub, Nat.reduceMul, Nat.reduceLT, Nat.reduceLeDiff, Nat.reduceEqDiff, reduceCtorEq, List.reduceReplicate, Int.reduceToNat, Int.reduceLE, Int.reduceLT]) | (refine DrawK.intro (by kernel_rfl) (by kernel_rfl) ?_; simp only [p4Q_normal, d1, d2, d3, d4, d5, d6, d7, d8, hA, hB, hyi, hk', hx, hmj, e0, e1, e2, bne_self, tyO, evS, tyS, Bool.not_true, Bool.not_false, Nat.reduceAdd, Nat.reduceSub, Nat.reduceMul, Nat.reduceLT, Nat.reduceLeDiff, Nat.reduceEqDiff, reduceCtorEq, List.reduceReplicate, Int.reduceToNat, Int.reduceLE, Int.reduceLT])))
            all_goals first | exact hlt | exact hjlt | exact loopC.intro (j + 1) hjlt ⟨rfl, rfl, ⟨by rw [← ej]; rfl, rfl, rfl, rfl, trivial⟩, .inl rfl⟩ (by omega)
          · by_cases hjx : j < nn i
            · have d5 : decide (j < nn i) = true := decide_eq_true (by omega)
              have d6 : decide ((j : Int) < (nn i : Int)) = true := decide_eq_true (by omega)
              have d7 : decide (nn i ≤ j) = false := decide_eq_false (by omega)
              have d8 : decide ((nn i : Int) ≤ (j : Int)) = false := decide_eq_false (by omega)
              have hmx := hm j hjx
              rw [show gk nn i j = -(i : Int) - 1 by unfold gk; rw [if_pos hjx]] at hmj
              simp only [p4Q_normal, d1, d2, d3, d4, d5, d6, d7, d8, hA, hB, hyi, hk', hx, hk, hmx, hmj, e0, e1, e2, bne_self, tyO, evS, tyS, Bool.not_true, Bool.not_false, Nat.reduceAdd, Nat.reduceSub, Nat.reduceMul, Nat.reduceLT, Nat.reduceLeDiff, Nat.reduceEqDiff, reduceCtorEq, List.reduceReplicate, Int.reduceToNat, Int.reduceLE, Int.reduceLT]
              (repeat' (first | (with_reducible refine And.intro ?_ ?_) | ((first | refine GuardK.intro_f (fun h => ?_) (fun h => ?_) | refine GuardK.intro_t (fun h => ?_) (fun h => ?_) | refine CondK.intro (fun h => ?_) (fun h => ?_) | refine PickK.intro (fun h => ?_) (fun h => ?_)) <;> simp only [h, p4Q_normal, d1, d2, d3, d4, d5, d6, d7, d8, hA, hB, hyi, hk', hx, hk, hmx, hmj, e0, e1, e2, bne_self, tyO, evS, tyS, Bool.not_true, Bool.not_false, Nat.reduceAdd, Nat.reduceSub, Nat.reduceMul, Nat.reduceLT, Nat.reduceLeDiff, Nat.reduceEqDiff, reduceCtorEq, List.reduceReplicate, Int.reduceToNat, Int.reduceLE, Int.reduceLT]) | (refine DrawK.intro (by kernel_rfl) (by kernel_rfl) ?_; simp only [p4Q_normal, d1, d2, d3, d4, d5, d6, d7, d8, hA, hB, hyi, hk', hx, hk, hmx, hmj, e0, e1, e2, bne_self, tyO, evS, tyS, Bool.not_true, Bool.not_false, Nat.reduceAdd, Nat.reduceSub, Nat.reduceMul, Nat.reduceLT, Nat.reduceLeDiff, Nat.reduceEqDiff, reduceCtorEq, List.reduceReplicate, Int.reduceToNat, Int.reduceLE, Int.reduceLT])))
              all_goals first | exact hlt | exact hjlt | exact hjx | exact loopC.intro (j + 1) hjlt ⟨rfl, rfl, ⟨by rw [← ej]; rfl, rfl, rfl, rfl, trivial⟩, .inl rfl⟩ (by omega)
            · have d5 : decide (j < nn i) = false := decide_eq_false (by omega)
              have d6 : decide ((j : Int) < (nn i : Int)) = false := decide_eq_false (by omega)
              have d7 : decide (nn i ≤ j) = true := decide_eq_true (by omega)
              have d8 : decide ((nn i : Int) ≤ (j : Int)) = true := decide_eq_true (by omega)
              rw [show gk nn i j = 100 + (i : Int) by unfold gk; rw [if_neg hjx]] at hmj
              simp only [p4Q_normal, d1, d2, d3, d4, d5, d6, d7, d8, hA, hB, hyi, hk', hx, hk, hmj, e0, e1, e2, bne_self, tyO, evS, tyS, Bool.not_true, Bool.not_false, Nat.reduceAdd, Nat.reduceSub, Nat.reduceMul, Nat.reduceLT, Nat.reduceLeDiff, Nat.reduceEqDiff, reduceCtorEq, List.reduceReplicate, Int.reduceToNat, Int.reduceLE, Int.reduceLT]
              (repeat' (first | (with_reducible refine And.intro ?_ ?_) | ((first | refine GuardK.intro_f (fun h => ?_) (fun h => ?_) | refine GuardK.intro_t (fun h => ?_) (fun h => ?_) | refine CondK.intro (fun h => ?_) (fun h => ?_) | refine PickK.intro (fun h => ?_) (fun h => ?_)) <;> simp only [h, p4Q_normal, d1, d2, d3, d4, d5, d6, d7, d8, hA, hB, hyi, hk', hx, hk, hmj, e0, e1, e2, bne_self, tyO, evS, tyS, Bool.not_true, Bool.not_false, Nat.reduceAdd, Nat.reduceSub, Nat.reduceMul, Nat.reduceLT, Nat.reduceLeDiff, Nat.reduceEqDiff, reduceCtorEq, List.reduceReplicate, Int.reduceToNat, Int.reduceLE, Int.reduceLT]) | (refine DrawK.intro (by kernel_rfl) (by kernel_rfl) ?_; simp only [p4Q_normal, d1, d2, d3, d4, d5, d6, d7, d8, hA, hB, hyi, hk', hx, hk, hmj, e0, e1, e2, bne_self, tyO, evS, tyS, Bool.not_true, Bool.not_false, Nat.reduceAdd, Nat.reduceSub, Nat.reduceMul, Nat.reduceLT, Nat.reduceLeDiff, Nat.reduceEqDiff, reduceCtorEq, List.reduceReplicate, Int.reduceToNat, Int.reduceLE, Int.reduceLT])))
              all_goals first | exact hlt | exact hjlt | exact hjx | exact loopC.intro (j + 1) hjlt ⟨rfl, rfl, ⟨by rw [← ej]; rfl, rfl, rfl, rfl, trivial⟩, .inl rfl⟩ (by omega)
end Go.Proofs.YtplnhipgifcafaaDoor
/- LexOwn: each list grows by forty, in place or anew. -/
namespace Go.Proofs.YtplnhipgifcafaaDoor
set_option linter.all false
open Go Go.Ev Go.RowKit
variable {γ : List (Nat × AV)}
theorem eAt_lt {k : Nat} (h : k < 4) : eAt k < 9 := by unfold eAt; split <;> omega
/-- The lists that have grown: their list g, their blocks F. -/
def growL (Lx : List AV) (nn : Nat → Nat) (i Gb : Nat) (F : Nat → Nat) (Ly : List AV) (H : List ABlk) (g : AV) : Prop :=
  9 ≤ H.length ∧ allL Lx nn nn H ∧ Ly.length = i ∧ ((i = 0 ∧ g = .v (.slice none 0 0)) ∨ (0 < i ∧ g = .own Gb (i - 1) i ∧ 9 ≤ Gb ∧ H[Gb]? = some ⟨i - 1, 37, Ly⟩)) ∧
    ∀ k, k < i → ∃ y, Ly[k]? = some y ∧ isL H (F k) y (nn k + 40) (nn k + 40) (gk nn k) ∧ (F k = eAt k ∨ (9 ≤ F k ∧ F k ≠ Gb ∧ ∀ k', k' < k → F k' ≠ F k))
/-- The list that grows: c more. -/
def extL (nn : Nat → Nat) (i Gb : Nat) (F : Nat → Nat) (H : List ABlk) (e c : Nat) (x : AV) : Prop :=
  isL H e x (nn i + c) (nn i + c) (gk nn i) ∧ (e = eAt i ∨ (9 ≤ e ∧ (0 < i → e ≠ Gb) ∧ ∀ k', k' < i → F k' ≠ e))
theorem get_push {H : List ABlk} {i : Nat} {b : ABlk} (h : H[i]? = some b) (l : List ABlk) : (H ++ l)[i]? = some b := by
  rw [List.getElem?_append_left (List.getElem?_eq_some_iff.1 h).1]; exact h
theorem get_lt {H : List ABlk} {i : Nat} {b : ABlk} (h : H[i]? = some b) : i < H.length := (List.getElem?_eq_some_iff.1 h).1
theorem allL_push {Lx : List AV} {nn kn : Nat → Nat} {H : List ABlk} (h : allL Lx nn kn H) (l : List ABlk) : allL Lx nn kn (H ++ l) :=
  ⟨get_push h.1 l, fun k hk => by obtain ⟨x, h1, h2, h3⟩ := h.2 k hk; exact ⟨x, h1, h2, isL_push h3 l⟩⟩
theorem growL_push {Lx : List AV} {nn : Nat → Nat} {i Gb : Nat} {F : Nat → Nat} {Ly : List AV} {H : List ABlk} {g : AV} (h : growL Lx nn i Gb F Ly H g) (l : List ABlk) : growL Lx nn i Gb F Ly (H ++ l) g := by
  obtain ⟨h1, h2, h3, h4, h5⟩ := h
  refine ⟨by rw [List.length_append]; omega, allL_push h2 l, h3, ?_, fun k hk => ?_⟩
  · rcases h4 with h4 | ⟨a1, a2, a3, a4⟩
    · exact .inl h4
    · exact .inr ⟨a1, a2, a3, get_push a4 l⟩
  · obtain ⟨y, b1, b2, b3⟩ := h5 k hk
    exact ⟨y, b1, isL_push b2 l, b3⟩
theorem extL_push {nn : Nat → Nat} {i Gb : Nat} {F : Nat → Nat} {H : List ABlk} {e c : Nat} {x : AV} (h : extL nn i Gb F H e c x) (l : List ABlk) : extL nn i Gb F (H ++ l) e c x := ⟨isL_push h.1 l, h.2⟩
/-- Written in place behind the list's end: the others stay. -/
theorem growL_set {Lx : List AV} {nn : Nat → Nat} {i Gb : Nat} {F : Nat → Nat} {Ly : List AV} {H : List ABlk} {g : AV} (hi : i < 4) (h : growL Lx nn i Gb F Ly H g) {e ver : Nat} {cells new : List AV}
    (he : e = eAt i ∨ (9 ≤ e ∧ (0 < i → e ≠ Gb) ∧ ∀ k', k' < i → F k' ≠ e)) (hk : H[e]? = some ⟨ver, 33, cells⟩) (hn : ∀ m, m < nn i → new[m * 6]? = cells[m * 6]?) (hlen : nn i * 6 ≤ cells.length → nn i * 6 ≤ new.length) : growL Lx nn i Gb F Ly (H.set e ⟨ver, 33, new⟩) g := by
  obtain ⟨h1, h2, h3, h4, h5⟩ := h
  have l9 := eAt_lt hi
  refine ⟨by rw [List.length_set]; exact h1, ⟨?_, fun k hk4 => ?_⟩, h3, ?_, fun k hki => ?_⟩
  · rw [List.getElem?_set_ne (by rcases he with rfl | he; exact eAt_ne2 i; omega)]; exact h2.1
  · obtain ⟨x, b1, b2, b3⟩ := h2.2 k hk4
    refine ⟨x, b1, b2, ?_⟩
    by_cases hek : eAt k = e
    · have hki : k = i := by
        rcases he with rfl | he
        · exact eAt_inj hek
        · have := eAt_lt hk4; omega
      subst hki
      rcases b3 with b3 | ⟨ver', cells', c1, c2, c3, c4⟩
      · exact .inl b3
      · rw [hek] at c2
        obtain ⟨rfl, rfl⟩ : ver = ver' ∧ cells = cells' := by have := hk.symm.trans c2; simp at this; exact this
        refine .inr ⟨ver, new, c1, by rw [hek]; exact List.getElem?_set_self (get_lt hk), hlen c3, fun m hm => ?_⟩
        rw [hn m hm]; exact c4 m hm
    · exact isL_set b3 hek
  · rcases h4 with h4 | ⟨a1, a2, a3, a4⟩
    · exact .inl h4
    · refine .inr ⟨a1, a2, a3, ?_⟩
      rw [List.getElem?_set_ne (by rcases he with rfl | he; omega; exact he.2.1 a1)]; exact a4
  · obtain ⟨y, b1, b2, b3⟩ := h5 k hki
    refine ⟨y, b1, isL_set b2 ?_, b3⟩
    rcases he with rfl | he
    · rcases b3 with b3 | b3
      · rw [b3]; exact fun e => by have := eAt_inj e; omega
      · omega
    · exact he.2.2 k hki
theorem cells_app {cells new : List AV} {n c : Nat} (hl : (n + c) * 6 ≤ cells.length) (f : Nat → Int) (h : ∀ m, m < n + c → cells[m * 6]? = some (.v (.int .i64 (f m)))) (h6 : new.length = 6) (h0 : new[0]? = some (.v (.int .i64 (f (n + c))))) :
    (n + (c + 1)) * 6 ≤ (cells.take ((n + c) * 6) ++ new).length ∧ (∀ m, m < n + (c + 1) → (cells.take ((n + c) * 6) ++ new)[m * 6]? = some (.v (.int .i64 (f m)))) ∧ ∀ m, m < n → (cells.take ((n + c) * 6) ++ new)[m * 6]? = cells[m * 6]? := by
  have htl : (cells.take ((n + c) * 6)).length = (n + c) * 6 := by rw [List.length_take]; omega
  have hin : ∀ m, m < n + c → (cells.take ((n + c) * 6) ++ new)[m * 6]? = cells[m * 6]? := fun m hm => by
    rw [List.getElem?_append_left (by rw [htl]; omega), List.getElem?_take, if_pos (by omega)]
  refine ⟨by rw [List.length_append, htl, h6]; omega, fun m hm => ?_, fun m hm => hin m (by omega)⟩
  by_cases hmn : m < n + c
  · rw [hin m hmn]; exact h m hmn
  · obtain rfl : m = n + c := by omega
    rw [List.getElem?_append_right (by rw [htl]; omega), htl, Nat.sub_self]; exact h0
def litC (i : Nat) : List AV := [.v (.int .i64 (100 + (i : Int))), .v (.string ⟨#[]⟩), .v (.int .i64 0), .v (.float .f64 0), .v (.int .i64 0), .v (.int .i64 0)]
theorem gk_at (nn : Nat → Nat) (i c : Nat) : gk nn i (nn i + c) = 100 + (i : Int) := by unfold gk; rw [if_neg (by omega)]
/-- In place. -/
theorem ext_in {Lx : List AV} {nn : Nat → Nat} {i Gb : Nat} {F : Nat → Nat} {Ly : List AV} {H : List ABlk} {g : AV} (hi : i < 4) (h : growL Lx nn i Gb F Ly H g) {e ver c : Nat} {cells : List AV}
    (he : e = eAt i ∨ (9 ≤ e ∧ (0 < i → e ≠ Gb) ∧ ∀ k', k' < i → F k' ≠ e)) (hk : H[e]? = some ⟨ver, 33, cells⟩) (hlen : (nn i + c) * 6 ≤ cells.length) (hm : ∀ m, m < nn i + c → cells[m * 6]? = some (.v (.int .i64 (gk nn i m)))) :
    growL Lx nn i Gb F Ly (H.set e ⟨ver, 33, cells.take ((nn i + c) * 6) ++ litC i⟩) g ∧ extL nn i Gb F (H.set e ⟨ver, 33, cells.take ((nn i + c) * 6) ++ litC i⟩) e (c + 1) (.own e ver (nn i + (c + 1))) := by
  obtain ⟨a1, a2, a3⟩ := cells_app hlen _ hm (new := litC i) rfl (by rw [gk_at]; rfl)
  exact ⟨growL_set hi h he hk a3 (fun _ => by omega), .inr ⟨ver, _, rfl, List.getElem?_set_self (get_lt hk), a1, a2⟩, he⟩
/-- Anew. -/
theorem ext_new {Lx : List AV} {nn : Nat → Nat} {i Gb : Nat} {F : Nat → Nat} {Ly : List AV} {H : List ABlk} {g : AV} (h : growL Lx nn i Gb F Ly H g) {c : Nat} {cells : List AV}
    (hlen : (nn i + c) * 6 ≤ cells.length) (hm : ∀ m, m < nn i + c → cells[m * 6]? = some (.v (.int .i64 (gk nn i m)))) :
    growL Lx nn i Gb F Ly (H ++ [⟨0, 33, cells.take ((nn i + c) * 6) ++ litC i⟩]) g ∧ extL nn i Gb F (H ++ [⟨0, 33, cells.take ((nn i + c) * 6) ++ litC i⟩]) H.length (c + 1) (.own H.length 0 (nn i + (c + 1))) := by
  obtain ⟨a1, a2, a3⟩ := cells_app hlen _ hm (new := litC i) rfl (by rw [gk_at]; rfl)
  refine ⟨growL_push h _, .inr ⟨0, _, rfl, by simp, a1, a2⟩, .inr ⟨h.1, fun h0 => ?_, fun k hk => ?_⟩⟩
  · rcases h.2.2.2.1 with ⟨h4, _⟩ | ⟨_, _, _, h4⟩
    · omega
    · have := get_lt h4; omega
  · obtain ⟨y, b1, b2, b3⟩ := h.2.2.2.2 k hk
    rcases b2 with ⟨_, b2⟩ | ⟨_, _, _, b2, _⟩
    · omega
    · have := get_lt b2; omega
theorem isL_same {H : List ABlk} {e : Nat} {x : AV} {n j : Nat} {f g : Nat → Int} (h : isL H e x n j f) (hf : ∀ m, m < j → f m = g m) : isL H e x n j g := by
  rcases h with h | ⟨ver, cells, h1, h2, h3, h4⟩
  · exact .inl h
  · exact .inr ⟨ver, cells, h1, h2, h3, fun m hm => by rw [h4 m hm, hf m hm]⟩
theorem ext_start {Lx : List AV} {nn : Nat → Nat} {i Gb : Nat} {F : Nat → Nat} {Ly : List AV} {H : List ABlk} {g : AV} (hi : i < 4) (h : growL Lx nn i Gb F Ly H g) : ∃ x, Lx[i]? = some x ∧ nn i ≤ 32769 ∧ extL nn i Gb F H (eAt i) 0 x := by
  obtain ⟨x, h1, h2, h3⟩ := h.2.1.2 i hi
  exact ⟨x, h1, h2, isL_same h3 (fun m hm => by unfold gk; rw [if_pos (by omega)]), .inl rfl⟩
/-- The grown list joins the others: the first. -/
theorem grow_first {Lx : List AV} {nn : Nat → Nat} {Gb : Nat} {F : Nat → Nat} {Ly : List AV} {H : List ABlk} {g x : AV} {e : Nat} (h : growL Lx nn 0 Gb F Ly H g) (hx : extL nn 0 Gb F H e 40 x) {l : List ABlk} :
    growL Lx nn 1 (H ++ l).length (fun _ => e) [x] ((H ++ l) ++ [⟨0, 37, [x]⟩]) (.own (H ++ l).length 0 1) := by
  have h' := growL_push (growL_push h l) [⟨0, 37, [x]⟩]
  refine ⟨h'.1, h'.2.1, rfl, .inr ⟨by omega, rfl, (growL_push h l).1, by simp⟩, fun k hk => ?_⟩
  obtain rfl : k = 0 := by omega
  refine ⟨x, rfl, isL_push (isL_push hx.1 l) _, ?_⟩
  rcases hx.2 with h | ⟨h1, h2, h3⟩
  · exact .inl h
  · refine .inr ⟨h1, ?_, fun k' hk' => by omega⟩
    rcases hx.1 with ⟨_, b⟩ | ⟨_, _, _, b, _⟩
    · omega
    · have := get_lt b; show e ≠ _; rw [List.length_append]; omega
theorem grow_next {Lx : List AV} {nn : Nat → Nat} {i Gb : Nat} {F : Nat → Nat} {Ly : List AV} {H : List ABlk} {g x : AV} {e : Nat} (hi : 0 < i) (hi4 : i < 4) (h : growL Lx nn i Gb F Ly H g) (hx : extL nn i Gb F H e 40 x) {l : List ABlk} :
    growL Lx nn (i + 1) Gb (fun k => if k = i then e else F k) (Ly.take (i * 1) ++ [x]) ((H ++ l).set Gb ⟨i - 1 + 1, 37, Ly.take (i * 1) ++ [x]⟩) (.own Gb (i - 1 + 1) (i + 1)) := by
  obtain ⟨h1, h2, h3, h4, h5⟩ := growL_push h l
  have hx' := extL_push hx l
  rcases h4 with ⟨h4, _⟩ | ⟨a1, a2, a3, a4⟩
  · omega
  have hall : allL Lx nn nn ((H ++ l).set Gb ⟨i - 1 + 1, 37, Ly.take (i * 1) ++ [x]⟩) := by
    refine ⟨by rw [List.getElem?_set_ne (by omega)]; exact h2.1, fun k hk => ?_⟩
    obtain ⟨z, c1, c2, c3⟩ := h2.2 k hk
    exact ⟨z, c1, c2, isL_set c3 (by have := eAt_lt hk; omega)⟩
  have ht : Ly.take (i * 1) = Ly := List.take_of_length_le (by omega)
  refine ⟨by rw [List.length_set]; exact h1, hall, by rw [ht, List.length_append, h3]; rfl, .inr ⟨by omega, by rw [show i + 1 - 1 = i - 1 + 1 by omega], a3, by rw [List.getElem?_set_self (get_lt a4), show i + 1 - 1 = i - 1 + 1 by omega]⟩, fun k hk => ?_⟩
  by_cases hki : k = i
  · subst hki
    refine ⟨x, by rw [ht, List.getElem?_append_right (by omega), h3, Nat.sub_self]; rfl, ?_, ?_⟩
    · simp only [if_true]
      refine isL_set hx'.1 ?_
      rcases hx.2 with h | h
      · have := eAt_lt hi4; omega
      · exact h.2.1 hi
    · simp only [if_true]
      rcases hx.2 with h | ⟨g1, g2, g3⟩
      · exact .inl h
      · exact .inr ⟨g1, g2 hi, fun k' hk' => by rw [if_neg (by omega)]; exact g3 k' hk'⟩
  · obtain ⟨y, b1, b2, b3⟩ := h5 k (by omega)
    refine ⟨y, by rw [ht, List.getElem?_append_left (by omega)]; exact b1, ?_, ?_⟩
    · simp only [if_neg hki]
      refine isL_set b2 ?_
      rcases b3 with b3 | b3
      · have := eAt_lt (k := k) (by omega); omega
      · exact b3.2.1
    · simp only [if_neg hki]
      rcases b3 with b3 | ⟨g1, g2, g3⟩
      · exact .inl b3
      · exact .inr ⟨g1, g2, fun k' hk' => by rw [if_neg (by omega)]; exact g3 k' hk'⟩
end Go.Proofs.YtplnhipgifcafaaDoor
/- LexOwn: the third loop, walked. -/
namespace Go.Proofs.YtplnhipgifcafaaDoor
set_option linter.all false
open Go Go.Ev Go.RowKit
variable {γ : List (Nat × AV)}
def pathC : List Nat → Code → Option Code
  | [], c => some c
  | 0 :: p, .seq a _ => pathC p a
  | 1 :: p, .seq _ b => pathC p b
  | 2 :: p, .block _ c => pathC p c
  | 3 :: p, .loop c => pathC p c
  | _, _ => none
theorem inBlock_other {id i : Nat} {Q : Exit → Act → World → Prop} {a : Act} {w : World} (h : i ≠ id) (hq : Q (.exit i) a w) : Exit.inBlock id Q (.exit i) a w := by
  simp only [Exit.inBlock, if_neg h]; exact hq
def growS (γ : List (Nat × AV)) (i : Nat) (g : AV) : Slots := ⟨161, [(14, .v (.int .i64 i)), (13, g), (5, .own 2 3 4)], γ⟩
def extS (γ : List (Nat × AV)) (i : Nat) (g : AV) (c : Nat) (x : AV) : Slots := ⟨161, [(16, .v (.int .i64 c)), (15, x), (14, .v (.int .i64 i)), (13, g), (5, .own 2 3 4)], γ⟩
theorem ext_nil {Lx : List AV} {nn : Nat → Nat} {i Gb : Nat} {F : Nat → Nat} {Ly : List AV} {H : List ABlk} {g : AV} (h : growL Lx nn i Gb F Ly H g) {c : Nat} (h0 : nn i + c = 0) :
    growL Lx nn i Gb F Ly (H ++ [⟨0, 33, litC i⟩]) g ∧ extL nn i Gb F (H ++ [⟨0, 33, litC i⟩]) H.length (c + 1) (.own H.length 0 1) := by
  have := ext_new h (c := c) (cells := []) (by simp; omega) (fun m hm => by omega)
  rw [show nn i + (c + 1) = 1 by omega, List.take_nil, List.nil_append] at this
  exact this
set_option maxHeartbeats 4000000 in
set_option maxRecDepth 20000 in
theorem ext_round {c : Code} (hc : Tryd.f9.body.bind (pathC [1, 1, 1, 1, 1, 1, 0, 1, 2, 3, 1, 0, 2, 1, 0, 1, 2, 3]) = some c)
    {X : Fix} (hP : X.P = Tryd.prog) (hc0 : X.c0 = none) {Lx : List AV} {nn : Nat → Nat} {i : Nat} (hi : i < 4) {Gb : Nat} {F : Nat → Nat} {Ly : List AV} {g : AV} {j : Nat} (hj : j ≤ 40) (hn : nn i ≤ 32769) {Q : Exit → Act → World → Prop}
    {φ : List Nat} {H : List ABlk} {e : Nat} {x : AV} {a : Act} {w : World} (hs : SR X φ ⟨extS γ i g j x, H⟩ a w) (h1 : growL Lx nn i Gb F Ly H g) (h2 : extL nn i Gb F H e j x)
    (hexit : j = 40 → ∀ φ a w, SR X φ ⟨extS γ i g j x, H⟩ a w → Q (.exit 8) a w) :
    c.wpIn (Fr none) 0 Tryd.prog (Exit.then (fun a w => j < 40 ∧ ∃ φ H e x, SR X φ ⟨extS γ i g (j + 1) x, H⟩ a w ∧ growL Lx nn i Gb F Ly H g ∧ extL nn i Gb F H e (j + 1) x) Q) a w := by
  obtain rfl := Option.some.inj (hc.symm.trans rfl)
  clear hc
  by_cases hj4 : j = 40
  · have d1 : decide (j < 40) = false := decide_eq_false (by omega)
    have d2 : decide ((j : Int) < 40) = false := decide_eq_false (by omega)
    refine wpIn_seq (wpIn_mono (kwp_soundP hP (r := none) _ (exitQ 8 ⟨extS γ i g j x, H⟩) (by kernel_rfl) hs ?_) ?_)
    · simp only [extS, exitQ_exit, d1, d2, evS, tyS, Bool.not_true, Bool.not_false, Nat.reduceAdd, Nat.reduceSub, Nat.reduceMul, Nat.reduceLT, Nat.reduceLeDiff, Nat.reduceEqDiff, reduceCtorEq, List.reduceReplicate, Int.reduceToNat, Int.reduceLE, Int.reduceLT]
      (repeat' (first | (with_reducible refine And.intro ?_ ?_) | ((first | refine GuardK.intro_f (fun h => ?_) (fun h => ?_) | refine GuardK.intro_t (fun h => ?_) (fun h => ?_) | refine CondK.intro (fun h => ?_) (fun h => ?_) | refine PickK.intro (fun h => ?_) (fun h => ?_)) <;> simp only [h, exitQ_exit, d1, d2, evS, tyS, Bool.not_true, Bool.not_false, Nat.reduceAdd, Nat.reduceSub, Nat.reduceMul, Nat.reduceLT, Nat.reduceLeDiff, Nat.reduceEqDiff, reduceCtorEq, List.reduceReplicate, Int.reduceToNat, Int.reduceLE, Int.reduceLT]) | (refine DrawK.intro (by kernel_rfl) (by kernel_rfl) ?_; simp only [exitQ_exit, d1, d2, evS, tyS, Bool.not_true, Bool.not_false, Nat.reduceAdd, Nat.reduceSub, Nat.reduceMul, Nat.reduceLT, Nat.reduceLeDiff, Nat.reduceEqDiff, reduceCtorEq, List.reduceReplicate, Int.reduceToNat, Int.reduceLE, Int.reduceLT])))
    · rintro e' a7 w7 ⟨φ7, s7, h7, hq⟩
      cases e' with
      | exit k =>
        obtain ⟨rfl, hw⟩ := hq
        obtain ⟨φ8, h8⟩ := h7.weak hc0 hw
        exact then_exit (then_exit (hexit hj4 _ _ _ h8))
      | _ => exact hq.elim
  · have hlt : j < 40 := by omega
    have d1 : decide (j < 40) = true := decide_eq_true hlt
    have d2 : decide ((j : Int) < 40) = true := decide_eq_true (by omega)
    have ei : IntKind.i64.wrap ((j : Int) + 1) = ((j + 1 : Nat) : Int) := i64w (by omega) (by omega)
    have e2 : IntKind.i64.wrap (100 + (i : Int)) = 100 + (i : Int) := i64w (by omega) (by omega)
    refine wpIn_seq (pieceP hP (r := none) ⟨extS γ i g j x, H⟩ (by kernel_rfl) hc0 hs ?_ fun φ1 a1 w1 hs1 => ?_)
    · simp only [extS, wkQ_normal, d1, d2, evS, tyS, Bool.not_true, Bool.not_false, Nat.reduceAdd, Nat.reduceSub, Nat.reduceMul, Nat.reduceLT, Nat.reduceLeDiff, Nat.reduceEqDiff, reduceCtorEq, List.reduceReplicate, Int.reduceToNat, Int.reduceLE, Int.reduceLT]
      (repeat' (first | (with_reducible refine And.intro ?_ ?_) | ((first | refine GuardK.intro_f (fun h => ?_) (fun h => ?_) | refine GuardK.intro_t (fun h => ?_) (fun h => ?_) | refine CondK.intro (fun h => ?_) (fun h => ?_) | refine PickK.intro (fun h => ?_) (fun h => ?_)) <;> simp only [h, wkQ_normal, d1, d2, evS, tyS, Bool.not_true, Bool.not_false, Nat.reduceAdd, Nat.reduceSub, Nat.reduceMul, Nat.reduceLT, Nat.reduceLeDiff, Nat.reduceEqDiff, reduceCtorEq, List.reduceReplicate, Int.reduceToNat, Int.reduceLE, Int.reduceLT]) | (refine DrawK.intro (by kernel_rfl) (by kernel_rfl) ?_; simp only [wkQ_normal, d1, d2, evS, tyS, Bool.not_true, Bool.not_false, Nat.reduceAdd, Nat.reduceSub, Nat.reduceMul, Nat.reduceLT, Nat.reduceLeDiff, Nat.reduceEqDiff, reduceCtorEq, List.reduceReplicate, Int.reduceToNat, Int.reduceLE, Int.reduceLT])))
    obtain ⟨M, hM⟩ : ∃ M : Act → World → Prop, M = fun a w => ∃ φ H e x, SR X φ ⟨extS γ i g j x, H⟩ a w ∧ growL Lx nn i Gb F Ly H g ∧ extL nn i Gb F H e (j + 1) x := ⟨_, rfl⟩
    refine wpIn_seq (wpIn_mono (Q := onlyN M) (wpIn_block ?_) ?_)
    rotate_left
    · rintro e' a2 w2 hq
      cases e' with
      | normal =>
        subst hM
        obtain ⟨φ2, H2, e2', x2, hs2, g1, g2⟩ := hq
        refine pieceP hP (r := none) ⟨extS γ i g (j + 1) x2, H2⟩ (by kernel_rfl) hc0 hs2 ?_ fun φ1 a1 w1 hs1 => ⟨hlt, φ1, H2, e2', x2, hs1, g1, g2⟩
        simp only [extS, wkQ_normal, ei, evS, tyS, Bool.not_true, Bool.not_false, Nat.reduceAdd, Nat.reduceSub, Nat.reduceMul, Nat.reduceLT, Nat.reduceLeDiff, Nat.reduceEqDiff, reduceCtorEq, List.reduceReplicate, Int.reduceToNat, Int.reduceLE, Int.reduceLT]
        (repeat' (first | (with_reducible refine And.intro ?_ ?_) | ((first | refine GuardK.intro_f (fun h => ?_) (fun h => ?_) | refine GuardK.intro_t (fun h => ?_) (fun h => ?_) | refine CondK.intro (fun h => ?_) (fun h => ?_) | refine PickK.intro (fun h => ?_) (fun h => ?_)) <;> simp only [h, wkQ_normal, ei, evS, tyS, Bool.not_true, Bool.not_false, Nat.reduceAdd, Nat.reduceSub, Nat.reduceMul, Nat.reduceLT, Nat.reduceLeDiff, Nat.reduceEqDiff, reduceCtorEq, List.reduceReplicate, Int.reduceToNat, Int.reduceLE, Int.reduceLT]) | (refine DrawK.intro (by kernel_rfl) (by kernel_rfl) ?_; simp only [wkQ_normal, ei, evS, tyS, Bool.not_true, Bool.not_false, Nat.reduceAdd, Nat.reduceSub, Nat.reduceMul, Nat.reduceLT, Nat.reduceLeDiff, Nat.reduceEqDiff, reduceCtorEq, List.reduceReplicate, Int.reduceToNat, Int.reduceLE, Int.reduceLT])))
        all_goals first | done | rfl | exact .inl rfl
      | _ => exact hq.elim
    rcases h2.1 with ⟨rfl, h0⟩ | ⟨ver, cells, rfl, hk, hlen, hm⟩
    · obtain ⟨g1, g2⟩ := ext_nil (growL_push h1 [⟨0, 33, litC i⟩]) h0
      refine wpIn_mono (kwp_soundP hP (r := none) _ (wkQ ⟨extS γ i g j (.own (H ++ [(⟨0, 33, litC i⟩ : ABlk)]).length 0 1), H ++ [(⟨0, 33, litC i⟩ : ABlk)] ++ [(⟨0, 33, litC i⟩ : ABlk)]⟩) (by kernel_rfl) hs1 ?_) ?_
      · simp only [extS, wkQ_normal, ei, e2, List.getElem?_concat_length, evS, tyS, Bool.not_true, Bool.not_false, Nat.reduceAdd, Nat.reduceSub, Nat.reduceMul, Nat.reduceLT, Nat.reduceLeDiff, Nat.reduceEqDiff, reduceCtorEq, List.reduceReplicate, Int.reduceToNat, Int.reduceLE, Int.reduceLT]
        (repeat' (first | (with_reducible refine And.intro ?_ ?_) | ((first | refine GuardK.intro_f (fun h => ?_) (fun h => ?_) | refine GuardK.intro_t (fun h => ?_) (fun h => ?_) | refine CondK.intro (fun h => ?_) (fun h => ?_) | refine PickK.intro (fun h => ?_) (fun h => ?_)) <;> simp only [h, wkQ_normal, ei, e2, List.getElem?_concat_length, evS, tyS, Bool.not_true, Bool.not_false, Nat.reduceAdd, Nat.reduceSub, Nat.reduceMul, Nat.reduceLT, Nat.reduceLeDiff, Nat.reduceEqDiff, reduceCtorEq, List.reduceReplicate, Int.reduceToNat, Int.reduceLE, Int.reduceLT]) | (refine DrawK.intro (by kernel_rfl) (by kernel_rfl) ?_; simp only [wkQ_normal, ei, e2, List.getElem?_concat_length, evS, tyS, Bool.not_true, Bool.not_false, Nat.reduceAdd, Nat.reduceSub, Nat.reduceMul, Nat.reduceLT, Nat.reduceLeDiff, Nat.reduceEqDiff, reduceCtorEq, List.reduceReplicate, Int.reduceToNat, Int.reduceLE, Int.reduceLT])))
        exact .inl rfl
      · rintro e' a2 w2 ⟨φ7, s7, h7, hq⟩
        cases e' with
        | normal =>
          obtain ⟨φ8, h8⟩ := h7.weak hc0 hq
          exact inBlock_ne (.inl rfl) (hM.symm ▸ (⟨_, _, _, _, h8, g1, g2⟩ : ∃ φ H e x, SR X φ ⟨extS γ i g j x, H⟩ a2 w2 ∧ growL Lx nn i Gb F Ly H g ∧ extL nn i Gb F H e (j + 1) x))
        | _ => exact hq.elim
    · refine wpIn_region ?_
      show wpOpsIn (Fr none) 0 Tryd.prog _ _ ([0, 1, 2, 3, 4] ++ ([5] ++ ([6] ++ []))) a1 w1
      refine wpOpsIn_split _ _ _ _ (opsP hP ⟨⟨161, (83, .own H.length 0 1) :: (79, .own e ver (nn i + j)) :: (extS γ i g j (.own e ver (nn i + j))).l, γ⟩, H ++ [⟨0, 33, litC i⟩]⟩ (by kernel_rfl) hc0 [_, _, _, _, _] [0, 1, 2, 3, 4] rfl hs1 ?_ fun φ2 a2 w2 hs2 => ?_)
      · simp only [List.getElem_toArray, List.getElem_cons_zero, List.getElem_cons_succ, extS, e2, evS, tyS, Bool.not_true, Bool.not_false, Nat.reduceAdd, Nat.reduceSub, Nat.reduceMul, Nat.reduceLT, Nat.reduceLeDiff, Nat.reduceEqDiff, reduceCtorEq, List.reduceReplicate, Int.reduceToNat, Int.reduceLE, Int.reduceLT]
        (repeat' (first | (with_reducible refine And.intro ?_ ?_) | ((first | refine GuardK.intro_f (fun h => ?_) (fun h => ?_) | refine GuardK.intro_t (fun h => ?_) (fun h => ?_) | refine CondK.intro (fun h => ?_) (fun h => ?_) | refine PickK.intro (fun h => ?_) (fun h => ?_)) <;> simp only [h, e2, evS, tyS, Bool.not_true, Bool.not_false, Nat.reduceAdd, Nat.reduceSub, Nat.reduceMul, Nat.reduceLT, Nat.reduceLeDiff, Nat.reduceEqDiff, reduceCtorEq, List.reduceReplicate, Int.reduceToNat, Int.reduceLE, Int.reduceLT]) | (refine DrawK.intro (by kernel_rfl) (by kernel_rfl) ?_; simp only [e2, evS, tyS, Bool.not_true, Bool.not_false, Nat.reduceAdd, Nat.reduceSub, Nat.reduceMul, Nat.reduceLT, Nat.reduceLeDiff, Nat.reduceEqDiff, reduceCtorEq, List.reduceReplicate, Int.reduceToNat, Int.reduceLE, Int.reduceLT])))
        exact .inl rfl
      · refine wpOpsIn_split _ _ _ _ ?_
        rw [wpOpsIn_cons]
        have hk' := get_push hk [⟨0, 33, litC i⟩]
        have h1' := growL_push h1 [⟨0, 33, litC i⟩]
        obtain ⟨b1, b2⟩ := ext_in hi h1' h2.2 hk' hlen hm
        obtain ⟨c1, c2⟩ := ext_new h1' hlen hm
        have key : ∀ (o : Oper) (Q : Exit → Act → World → Prop), o.op = .call { callee := .builtin .append, args := #[.tmp 79, .tmp 83], argTypes := #[37, 37] } → o.dst = some 84 →
            Oper.wp X.P o a2 w2 (Nx X fun st => ∃ H' e' x, st = ⟨⟨161, (84, x) :: (83, .own H.length 0 1) :: (79, .own e ver (nn i + j)) :: (extS γ i g j (.own e ver (nn i + j))).l, γ⟩, H'⟩ ∧ growL Lx nn i Gb F Ly H' g ∧ extL nn i Gb F H' e' (j + 1) x) Q := fun o Q ho hd => by
          refine op_append_keep hs2 (o := o) ho rfl rfl (t := 37) (t2 := 37) (e := 33) (sz := 6) (by' := 56)
            (z := .agg #[.int .i64 0, .string ⟨#[]⟩, .int .i64 0, .float .f64 0, .int .i64 0, .int .i64 0]) (by rw [hP]; kernel_rfl) rfl rfl rfl (by rw [hP]; kernel_rfl) (by rw [hP]; kernel_rfl) (by rw [hP]; kernel_rfl) (by rw [hP]; kernel_rfl) (by rw [hP]; kernel_rfl) (by decide)
            (i := e) (ver := ver) (m := nn i + j) (n := 1) (cells := cells) (new := litC i) rfl hk' hlen (by omega) ?_ rfl ?_ ?_
          · show srcA _ 6 (.own H.length 0 1) _
            exact ⟨⟨0, 33, litC i⟩, by simp, rfl, Nat.le_refl 6, rfl, rfl⟩
          · rw [hd]; exact ⟨_, _, _, rfl, b1, b2⟩
          · rw [hd]; exact ⟨_, _, _, rfl, c1, c2⟩
        refine wpOpIn_some rfl rfl (operIn rfl ?_ (hP ▸ key _ _ rfl rfl))
        rintro a3 w3 ⟨φ3, st3, hs3, H3, e3, x3, rfl, p1, p2⟩
        show wpOpsIn (Fr none) 0 Tryd.prog _ _ ([6] ++ []) a3 w3
        refine wpOpsIn_split _ _ _ _ (opsP hP ⟨extS γ i g j x3, H3⟩ (by kernel_rfl) hc0 [_] [6] rfl hs3 ?_ fun φ4 a4 w4 hs4 => ?_)
        · simp only [List.getElem_toArray, List.getElem_cons_zero, List.getElem_cons_succ, extS, evS, tyS, Bool.not_true, Bool.not_false, Nat.reduceAdd, Nat.reduceSub, Nat.reduceMul, Nat.reduceLT, Nat.reduceLeDiff, Nat.reduceEqDiff, reduceCtorEq, List.reduceReplicate, Int.reduceToNat, Int.reduceLE, Int.reduceLT]
          (repeat' (first | (with_reducible refine And.intro ?_ ?_) | ((first | refine GuardK.intro_f (fun h => ?_) (fun h => ?_) | refine GuardK.intro_t (fun h => ?_) (fun h => ?_) | refine CondK.intro (fun h => ?_) (fun h => ?_) | refine PickK.intro (fun h => ?_) (fun h => ?_)) <;> simp only [h, evS, tyS, Bool.not_true, Bool.not_false, Nat.reduceAdd, Nat.reduceSub, Nat.reduceMul, Nat.reduceLT, Nat.reduceLeDiff, Nat.reduceEqDiff, reduceCtorEq, List.reduceReplicate, Int.reduceToNat, Int.reduceLE, Int.reduceLT]) | (refine DrawK.intro (by kernel_rfl) (by kernel_rfl) ?_; simp only [evS, tyS, Bool.not_true, Bool.not_false, Nat.reduceAdd, Nat.reduceSub, Nat.reduceMul, Nat.reduceLT, Nat.reduceLeDiff, Nat.reduceEqDiff, reduceCtorEq, List.reduceReplicate, Int.reduceToNat, Int.reduceLE, Int.reduceLT])))
          all_goals first | done | rfl | exact .inl rfl
        · refine inBlock_ne (.inl rfl) ?_
          show M a4 w4
          rw [hM]
          exact ⟨φ4, H3, e3, x3, hs4, p1, p2⟩
def p3Q (X : Fix) (γ : List (Nat × AV)) (Lx : List AV) (nn : Nat → Nat) (e : Exit) (a : Act) (w : World) : Prop :=
  e = .normal ∧ ∃ φ H Gb F Ly, SR X φ ⟨⟨161, [(13, .own Gb 3 4), (5, .own 2 3 4)], γ⟩, H⟩ a w ∧ growL Lx nn 4 Gb F Ly H (.own Gb 3 4)
set_option maxHeartbeats 4000000 in
set_option maxRecDepth 20000 in
theorem p3_walk {c : Code} (hc : Tryd.f9.body.bind (pathC [1, 1, 1, 1, 1, 1, 0]) = some c)
    {X : Fix} (hP : X.P = Tryd.prog) (hc0 : X.c0 = none) {Lx : List AV} {nn : Nat → Nat} {φ : List Nat} {H : List ABlk} {a : Act} {w : World}
    (hs : SR X φ ⟨⟨161, [(13, .v (.slice none 0 0)), (5, .own 2 3 4)], γ⟩, H⟩ a w) (h9 : 9 ≤ H.length) (hG : allL Lx nn nn H) : c.wpIn (Fr none) 0 Tryd.prog (p3Q X γ Lx nn) a w := by
  obtain rfl := Option.some.inj (hc.symm.trans rfl)
  clear hc
  refine wpIn_seq (pieceP hP (r := none) ⟨growS γ 0 (.v (.slice none 0 0)), H⟩ (by kernel_rfl) hc0 hs ?_ fun φ1 a1 w1 hs1 => ?_)
  · simp only [growS, wkQ_normal, evS, tyS, Bool.not_true, Bool.not_false, Nat.reduceAdd, Nat.reduceSub, Nat.reduceMul, Nat.reduceLT, Nat.reduceLeDiff, Nat.reduceEqDiff, reduceCtorEq, List.reduceReplicate, Int.reduceToNat, Int.reduceLE, Int.reduceLT]
    (repeat' (first | (with_reducible refine And.intro ?_ ?_) | ((first | refine GuardK.intro_f (fun h => ?_) (fun h => ?_) | refine GuardK.intro_t (fun h => ?_) (fun h => ?_) | refine CondK.intro (fun h => ?_) (fun h => ?_) | refine PickK.intro (fun h => ?_) (fun h => ?_)) <;> simp only [h, wkQ_normal, evS, tyS, Bool.not_true, Bool.not_false, Nat.reduceAdd, Nat.reduceSub, Nat.reduceMul, Nat.reduceLT, Nat.reduceLeDiff, Nat.reduceEqDiff, reduceCtorEq, List.reduceReplicate, Int.reduceToNat, Int.reduceLE, Int.reduceLT]) | (refine DrawK.intro (by kernel_rfl) (by kernel_rfl) ?_; simp only [wkQ_normal, evS, tyS, Bool.not_true, Bool.not_false, Nat.reduceAdd, Nat.reduceSub, Nat.reduceMul, Nat.reduceLT, Nat.reduceLeDiff, Nat.reduceEqDiff, reduceCtorEq, List.reduceReplicate, Int.reduceToNat, Int.reduceLE, Int.reduceLT])))
    all_goals first | done | rfl | exact .inl rfl
  refine wpIn_block (rounds_ind 4 (fun i a w => ∃ φ H g Gb F Ly, SR X φ ⟨growS γ i g, H⟩ a w ∧ growL Lx nn i Gb F Ly H g) ?_ ⟨φ1, H, _, 0, fun _ => 0, [], hs1, h9, hG, rfl, .inl ⟨rfl, rfl⟩, fun k hk => by omega⟩)
  rintro i hi a w ⟨φ, H, g, Gb, F, Ly, hs, h1⟩
  have hA := h1.2.1.1
  by_cases hi4 : i = 4
  · have d1 : decide (i < 4) = false := decide_eq_false (by omega)
    have d2 : decide ((i : Int) < 4) = false := decide_eq_false (by omega)
    refine wpIn_seq (wpIn_mono (kwp_soundP hP (r := none) _ (exitQ 6 ⟨growS γ i g, H⟩) (by kernel_rfl) hs ?_) ?_)
    · simp only [growS, exitQ_exit, d1, d2, hA, tyO, evS, tyS, Bool.not_true, Bool.not_false, Nat.reduceAdd, Nat.reduceSub, Nat.reduceMul, Nat.reduceLT, Nat.reduceLeDiff, Nat.reduceEqDiff, reduceCtorEq, List.reduceReplicate, Int.reduceToNat, Int.reduceLE, Int.reduceLT]
      (repeat' (first | (with_reducible refine And.intro ?_ ?_) | ((first | refine GuardK.intro_f (fun h => ?_) (fun h => ?_) | refine GuardK.intro_t (fun h => ?_) (fun h => ?_) | refine CondK.intro (fun h => ?_) (fun h => ?_) | refine PickK.intro (fun h => ?_) (fun h => ?_)) <;> simp only [h, exitQ_exit, d1, d2, hA, tyO, evS, tyS, Bool.not_true, Bool.not_false, Nat.reduceAdd, Nat.reduceSub, Nat.reduceMul, Nat.reduceLT, Nat.reduceLeDiff, Nat.reduceEqDiff, reduceCtorEq, List.reduceReplicate, Int.reduceToNat, Int.reduceLE, Int.reduceLT]) | (refine DrawK.intro (by kernel_rfl) (by kernel_rfl) ?_; simp only [exitQ_exit, d1, d2, hA, tyO, evS, tyS, Bool.not_true, Bool.not_false, Nat.reduceAdd, Nat.reduceSub, Nat.reduceMul, Nat.reduceLT, Nat.reduceLeDiff, Nat.reduceEqDiff, reduceCtorEq, List.reduceReplicate, Int.reduceToNat, Int.reduceLE, Int.reduceLT])))
      all_goals first | done | rfl | exact .inl rfl
    · rintro e' a7 w7 ⟨φ7, s7, h7, hq⟩
      cases e' with
      | exit k =>
        obtain ⟨rfl, hw⟩ := hq
        obtain ⟨φ8, h8⟩ := h7.weak hc0 hw
        refine then_exit (then_exit (inBlock_ne (.inr rfl) ?_))
        subst hi4
        rcases h1.2.2.2.1 with ⟨h0, _⟩ | ⟨_, hg, _⟩
        · omega
        · subst hg
          have h9' : SR X φ8 ⟨⟨161, [(13, .own Gb 3 4), (5, .own 2 3 4)], γ⟩, H⟩ a7 w7 := h8.slotW ⟨rfl, rfl, ⟨rfl, rfl, trivial⟩, rfl⟩
          exact ⟨rfl, φ8, H, Gb, F, Ly, h9', h1⟩
      | _ => exact hq.elim
  · have hlt : i < 4 := by omega
    have d1 : decide (i < 4) = true := decide_eq_true hlt
    have d2 : decide ((i : Int) < 4) = true := decide_eq_true (by omega)
    have ei : IntKind.i64.wrap ((i : Int) + 1) = ((i + 1 : Nat) : Int) := i64w (by omega) (by omega)
    obtain ⟨x, hx, hn, he⟩ := ext_start hlt h1
    refine wpIn_seq (pieceP hP (r := none) ⟨growS γ i g, H⟩ (by kernel_rfl) hc0 hs ?_ fun φ1 a1 w1 hs1 => ?_)
    · simp only [growS, wkQ_normal, d1, d2, hA, tyO, evS, tyS, Bool.not_true, Bool.not_false, Nat.reduceAdd, Nat.reduceSub, Nat.reduceMul, Nat.reduceLT, Nat.reduceLeDiff, Nat.reduceEqDiff, reduceCtorEq, List.reduceReplicate, Int.reduceToNat, Int.reduceLE, Int.reduceLT]
      (repeat' (first | (with_reducible refine And.intro ?_ ?_) | ((first | refine GuardK.intro_f (fun h => ?_) (fun h => ?_) | refine GuardK.intro_t (fun h => ?_) (fun h => ?_) | refine CondK.intro (fun h => ?_) (fun h => ?_) | refine PickK.intro (fun h => ?_) (fun h => ?_)) <;> simp only [h, wkQ_normal, d1, d2, hA, tyO, evS, tyS, Bool.not_true, Bool.not_false, Nat.reduceAdd, Nat.reduceSub, Nat.reduceMul, Nat.reduceLT, Nat.reduceLeDiff, Nat.reduceEqDiff, reduceCtorEq, List.reduceReplicate, Int.reduceToNat, Int.reduceLE, Int.reduceLT]) | (refine DrawK.intro (by kernel_rfl) (by kernel_rfl) ?_; simp only [wkQ_normal, d1, d2, hA, tyO, evS, tyS, Bool.not_true, Bool.not_false, Nat.reduceAdd, Nat.reduceSub, Nat.reduceMul, Nat.reduceLT, Nat.reduceLeDiff, Nat.reduceEqDiff, reduceCtorEq, List.reduceReplicate, Int.reduceToNat, Int.reduceLE, Int.reduceLT])))
      all_goals first | done | rfl | exact .inl rfl
    obtain ⟨M, hM⟩ : ∃ M : Act → World → Prop, M = fun a w => ∃ φ H g Gb F Ly, SR X φ ⟨growS γ i g, H⟩ a w ∧ growL Lx nn (i + 1) Gb F Ly H g := ⟨_, rfl⟩
    refine wpIn_seq (wpIn_mono (Q := onlyN M) (wpIn_block ?_) ?_)
    rotate_left
    · rintro e' a2 w2 hq
      cases e' with
      | normal =>
        subst hM
        obtain ⟨φ2, H2, g2, Gb2, F2, Ly2, hs2, q2⟩ := hq
        refine pieceP hP (r := none) ⟨growS γ (i + 1) g2, H2⟩ (by kernel_rfl) hc0 hs2 ?_ fun φ1 a1 w1 hs1 => ⟨hlt, φ1, H2, g2, Gb2, F2, Ly2, hs1, q2⟩
        simp only [growS, wkQ_normal, ei, evS, tyS, Bool.not_true, Bool.not_false, Nat.reduceAdd, Nat.reduceSub, Nat.reduceMul, Nat.reduceLT, Nat.reduceLeDiff, Nat.reduceEqDiff, reduceCtorEq, List.reduceReplicate, Int.reduceToNat, Int.reduceLE, Int.reduceLT]
        (repeat' (first | (with_reducible refine And.intro ?_ ?_) | ((first | refine GuardK.intro_f (fun h => ?_) (fun h => ?_) | refine GuardK.intro_t (fun h => ?_) (fun h => ?_) | refine CondK.intro (fun h => ?_) (fun h => ?_) | refine PickK.intro (fun h => ?_) (fun h => ?_)) <;> simp only [h, wkQ_normal, ei, evS, tyS, Bool.not_true, Bool.not_false, Nat.reduceAdd, Nat.reduceSub, Nat.reduceMul, Nat.reduceLT, Nat.reduceLeDiff, Nat.reduceEqDiff, reduceCtorEq, List.reduceReplicate, Int.reduceToNat, Int.reduceLE, Int.reduceLT]) | (refine DrawK.intro (by kernel_rfl) (by kernel_rfl) ?_; simp only [wkQ_normal, ei, evS, tyS, Bool.not_true, Bool.not_false, Nat.reduceAdd, Nat.reduceSub, Nat.reduceMul, Nat.reduceLT, Nat.reduceLeDiff, Nat.reduceEqDiff, reduceCtorEq, List.reduceReplicate, Int.reduceToNat, Int.reduceLE, Int.reduceLT])))
        all_goals first | done | rfl | exact .inl rfl
      | _ => exact hq.elim
    refine wpIn_seq (pieceP hP (r := none) ⟨⟨161, (15, x) :: (growS γ i g).l, γ⟩, H⟩ (by kernel_rfl) hc0 hs1 ?_ fun φ2 a2 w2 hs2 => ?_)
    · simp only [growS, wkQ_normal, hA, hx, tyO, evS, tyS, Bool.not_true, Bool.not_false, Nat.reduceAdd, Nat.reduceSub, Nat.reduceMul, Nat.reduceLT, Nat.reduceLeDiff, Nat.reduceEqDiff, reduceCtorEq, List.reduceReplicate, Int.reduceToNat, Int.reduceLE, Int.reduceLT]
      (repeat' (first | (with_reducible refine And.intro ?_ ?_) | ((first | refine GuardK.intro_f (fun h => ?_) (fun h => ?_) | refine GuardK.intro_t (fun h => ?_) (fun h => ?_) | refine CondK.intro (fun h => ?_) (fun h => ?_) | refine PickK.intro (fun h => ?_) (fun h => ?_)) <;> simp only [h, wkQ_normal, hA, hx, tyO, evS, tyS, Bool.not_true, Bool.not_false, Nat.reduceAdd, Nat.reduceSub, Nat.reduceMul, Nat.reduceLT, Nat.reduceLeDiff, Nat.reduceEqDiff, reduceCtorEq, List.reduceReplicate, Int.reduceToNat, Int.reduceLE, Int.reduceLT]) | (refine DrawK.intro (by kernel_rfl) (by kernel_rfl) ?_; simp only [wkQ_normal, hA, hx, tyO, evS, tyS, Bool.not_true, Bool.not_false, Nat.reduceAdd, Nat.reduceSub, Nat.reduceMul, Nat.reduceLT, Nat.reduceLeDiff, Nat.reduceEqDiff, reduceCtorEq, List.reduceReplicate, Int.reduceToNat, Int.reduceLE, Int.reduceLT])))
      all_goals first | done | exact hlt | rfl | exact .inl rfl
    refine wpIn_seq (wpIn_seq (pieceP hP (r := none) ⟨extS γ i g 0 x, H⟩ (by kernel_rfl) hc0 hs2 ?_ fun φ3 a3 w3 hs3 => ?_))
    · simp only [growS, extS, wkQ_normal, evS, tyS, Bool.not_true, Bool.not_false, Nat.reduceAdd, Nat.reduceSub, Nat.reduceMul, Nat.reduceLT, Nat.reduceLeDiff, Nat.reduceEqDiff, reduceCtorEq, List.reduceReplicate, Int.reduceToNat, Int.reduceLE, Int.reduceLT]
      (repeat' (first | (with_reducible refine And.intro ?_ ?_) | ((first | refine GuardK.intro_f (fun h => ?_) (fun h => ?_) | refine GuardK.intro_t (fun h => ?_) (fun h => ?_) | refine CondK.intro (fun h => ?_) (fun h => ?_) | refine PickK.intro (fun h => ?_) (fun h => ?_)) <;> simp only [h, wkQ_normal, evS, tyS, Bool.not_true, Bool.not_false, Nat.reduceAdd, Nat.reduceSub, Nat.reduceMul, Nat.reduceLT, Nat.reduceLeDiff, Nat.reduceEqDiff, reduceCtorEq, List.reduceReplicate, Int.reduceToNat, Int.reduceLE, Int.reduceLT]) | (refine DrawK.intro (by kernel_rfl) (by kernel_rfl) ?_; simp only [wkQ_normal, evS, tyS, Bool.not_true, Bool.not_false, Nat.reduceAdd, Nat.reduceSub, Nat.reduceMul, Nat.reduceLT, Nat.reduceLeDiff, Nat.reduceEqDiff, reduceCtorEq, List.reduceReplicate, Int.reduceToNat, Int.reduceLE, Int.reduceLT])))
      all_goals first | done | rfl | exact .inl rfl
    refine wpIn_block (rounds_ind 40 (fun j a w => ∃ φ H e x, SR X φ ⟨extS γ i g j x, H⟩ a w ∧ growL Lx nn i Gb F Ly H g ∧ extL nn i Gb F H e j x) ?_ ⟨φ3, H, _, x, hs3, h1, he⟩)
    rintro j hj a4 w4 ⟨φ4, H4, e4, x4, hs4, p1, p2⟩
    refine ext_round (by kernel_rfl) hP hc0 hlt hj hn hs4 p1 p2 ?_
    rintro rfl φ5 a5 w5 hs5
    refine inBlock_ne (.inr rfl) ?_
    show Code.wpIn (Fr none) 0 Tryd.prog _ _ a5 w5
    obtain ⟨ver4, n4, rfl⟩ : ∃ ver n, x4 = .own e4 ver n := by
      rcases p2.1 with ⟨_, h⟩ | ⟨ver, cells, h, _⟩
      · omega
      · exact ⟨_, _, h⟩
    by_cases hi0 : i = 0
    · subst hi0
      have fin := grow_first p1 p2 (l := [⟨0, 37, [.own e4 ver4 n4]⟩])
      have hg0 : g = .v (.slice none 0 0) := by
        rcases p1.2.2.2.1 with ⟨_, h⟩ | ⟨h, _⟩
        · exact h
        · omega
      refine wpIn_mono (kwp_soundP hP (r := none) _ (wkQ ⟨growS γ 0 (.own (H4 ++ [(⟨0, 37, [.own e4 ver4 n4]⟩ : ABlk)]).length 0 1), H4 ++ [(⟨0, 37, [.own e4 ver4 n4]⟩ : ABlk)] ++ [(⟨0, 37, [.own e4 ver4 n4]⟩ : ABlk)]⟩) (by kernel_rfl) hs5 ?_) ?_
      · simp only [extS, growS, wkQ_normal, List.getElem?_concat_length, tyO, hg0, evS, tyS, Bool.not_true, Bool.not_false, Nat.reduceAdd, Nat.reduceSub, Nat.reduceMul, Nat.reduceLT, Nat.reduceLeDiff, Nat.reduceEqDiff, reduceCtorEq, List.reduceReplicate, Int.reduceToNat, Int.reduceLE, Int.reduceLT]
        (repeat' (first | (with_reducible refine And.intro ?_ ?_) | ((first | refine GuardK.intro_f (fun h => ?_) (fun h => ?_) | refine GuardK.intro_t (fun h => ?_) (fun h => ?_) | refine CondK.intro (fun h => ?_) (fun h => ?_) | refine PickK.intro (fun h => ?_) (fun h => ?_)) <;> simp only [h, wkQ_normal, List.getElem?_concat_length, tyO, hg0, evS, tyS, Bool.not_true, Bool.not_false, Nat.reduceAdd, Nat.reduceSub, Nat.reduceMul, Nat.reduceLT, Nat.reduceLeDiff, Nat.reduceEqDiff, reduceCtorEq, List.reduceReplicate, Int.reduceToNat, Int.reduceLE, Int.reduceLT]) | (refine DrawK.intro (by kernel_rfl) (by kernel_rfl) ?_; simp only [wkQ_normal, List.getElem?_concat_length, tyO, hg0, evS, tyS, Bool.not_true, Bool.not_false, Nat.reduceAdd, Nat.reduceSub, Nat.reduceMul, Nat.reduceLT, Nat.reduceLeDiff, Nat.reduceEqDiff, reduceCtorEq, List.reduceReplicate, Int.reduceToNat, Int.reduceLE, Int.reduceLT])))
        all_goals first | done | omega | rfl | exact .inl rfl
      · rintro e' a2 w2 ⟨φ7, s7, h7, hq⟩
        cases e' with
        | normal =>
          obtain ⟨φ8, h8⟩ := h7.weak hc0 hq
          refine inBlock_ne (.inl rfl) ?_
          show M a2 w2
          rw [hM]
          exact ⟨_, _, _, _, _, _, h8, fin⟩
        | _ => exact hq.elim
    · have fin := grow_next (by omega) hlt p1 p2 (l := [⟨0, 37, [.own e4 ver4 n4]⟩])
      obtain ⟨_, hg0, hGb, hk0⟩ : 0 < i ∧ g = .own Gb (i - 1) i ∧ 9 ≤ Gb ∧ H4[Gb]? = some ⟨i - 1, 37, Ly⟩ := by
        rcases p1.2.2.2.1 with ⟨h, _⟩ | h
        · omega
        · exact h
      have hk1 := get_push hk0 [⟨0, 37, [.own e4 ver4 n4]⟩]
      have hLy := p1.2.2.1
      refine wpIn_mono (kwp_soundP hP (r := none) _ (wkQ ⟨growS γ i (.own Gb (i - 1 + 1) (i + 1)), (H4 ++ [(⟨0, 37, [.own e4 ver4 n4]⟩ : ABlk)]).set Gb ⟨i - 1 + 1, 37, Ly.take (i * 1) ++ [.own e4 ver4 n4]⟩⟩) (by kernel_rfl) hs5 ?_) ?_
      · simp only [extS, growS, wkQ_normal, List.getElem?_concat_length, tyO, hg0, hk1, evS, tyS, Bool.not_true, Bool.not_false, Nat.reduceAdd, Nat.reduceSub, Nat.reduceMul, Nat.reduceLT, Nat.reduceLeDiff, Nat.reduceEqDiff, reduceCtorEq, List.reduceReplicate, Int.reduceToNat, Int.reduceLE, Int.reduceLT]
        (repeat' (first | (with_reducible refine And.intro ?_ ?_) | ((first | refine GuardK.intro_f (fun h => ?_) (fun h => ?_) | refine GuardK.intro_t (fun h => ?_) (fun h => ?_) | refine CondK.intro (fun h => ?_) (fun h => ?_) | refine PickK.intro (fun h => ?_) (fun h => ?_)) <;> simp only [h, wkQ_normal, List.getElem?_concat_length, tyO, hg0, hk1, evS, tyS, Bool.not_true, Bool.not_false, Nat.reduceAdd, Nat.reduceSub, Nat.reduceMul, Nat.reduceLT, Nat.reduceLeDiff, Nat.reduceEqDiff, reduceCtorEq, List.reduceReplicate, Int.reduceToNat, Int.reduceLE, Int.reduceLT]) | (refine DrawK.intro (by kernel_rfl) (by kernel_rfl) ?_; simp only [wkQ_normal, List.getElem?_concat_length, tyO, hg0, hk1, evS, tyS, Bool.not_true, Bool.not_false, Nat.reduceAdd, Nat.reduceSub, Nat.reduceMul, Nat.reduceLT, Nat.reduceLeDiff, Nat.reduceEqDiff, reduceCtorEq, List.reduceReplicate, Int.reduceToNat, Int.reduceLE, Int.reduceLT])))
        all_goals first | done | omega | rfl | exact .inl rfl
      · rintro e' a2 w2 ⟨φ7, s7, h7, hq⟩
        cases e' with
        | normal =>
          obtain ⟨φ8, h8⟩ := h7.weak hc0 hq
          refine inBlock_ne (.inl rfl) ?_
          show M a2 w2
          rw [hM]
          exact ⟨_, _, _, _, _, _, h8, fin⟩
        | _ => exact hq.elim
end Go.Proofs.YtplnhipgifcafaaDoor
/- LexOwn: the first loop, and the whole. -/
namespace Go.Proofs.YtplnhipgifcafaaDoor
set_option linter.all false
open Go Go.Ev Go.RowKit
variable {γ : List (Nat × AV)}
def firstL (Lx : List AV) (nn : Nat → Nat) (k : Nat) (H : List ABlk) (g : AV) : Prop :=
  Lx.length = k ∧ H.length = eAt k ∧ ((k = 0 ∧ g = .v (.slice none 0 0)) ∨ (0 < k ∧ g = .own 2 (k - 1) k ∧ H[2]? = some ⟨k - 1, 37, Lx⟩)) ∧
    ∀ j, j < k → ∃ x, Lx[j]? = some x ∧ nn j ≤ 32769 ∧ isL H (eAt j) x (nn j) 0 (fun _ => -(j : Int) - 1)
theorem first_new {nn : Nat → Nat} {k : Nat} {H : List ABlk} {x : AV} {K : ABlk} (hH : H.length = eAt k) (hx : gotL H.length x K) (l : List ABlk) : ∃ n, n ≤ 32769 ∧ isL (H ++ [K] ++ l) (eAt k) x n 0 (fun _ => -(k : Int) - 1) := by
  rcases hx with rfl | ⟨ver, n, cells, hn, rfl, rfl, hc⟩
  · exact ⟨0, by omega, .inl ⟨rfl, rfl⟩⟩
  · exact ⟨n, hn, isL_push (.inr ⟨ver, cells, by rw [hH], by rw [← hH]; simp, by omega, fun m hm => by omega⟩) l⟩
theorem first_next {Lx : List AV} {nn : Nat → Nat} {k : Nat} {H : List ABlk} {g x : AV} {K D : ABlk} (h : firstL Lx nn k H g) (hx : gotL H.length x K) (h0 : 0 < k) :
    ∃ nn', firstL (Lx.take (k * 1) ++ [x]) nn' (k + 1) ((H ++ [K] ++ [D]).set 2 ⟨k - 1 + 1, 37, Lx.take (k * 1) ++ [x]⟩) (.own 2 (k - 1 + 1) (k + 1)) := by
  obtain ⟨h1, h2, h3, h4⟩ := h
  obtain ⟨n, hn, hl⟩ := first_new (nn := nn) h2 hx [D]
  have ht : Lx.take (k * 1) = Lx := List.take_of_length_le (by omega)
  have ek : eAt k = 2 * k + 1 := by unfold eAt; rw [if_neg (by omega)]
  refine ⟨fun j => if j = k then n else nn j, by rw [ht, List.length_append, h1]; rfl, ?_, .inr ⟨by omega, by rw [show k + 1 - 1 = k - 1 + 1 by omega], ?_⟩, fun j hj => ?_⟩
  · rw [List.length_set, List.length_append, List.length_append, h2, ek]; unfold eAt; rw [if_neg (by omega)]; simp only [List.length_cons, List.length_nil]; omega
  · rw [List.getElem?_set_self (by rw [List.length_append, List.length_append, h2, ek]; omega), show k + 1 - 1 = k - 1 + 1 by omega]
  · by_cases hjk : j = k
    · subst hjk
      refine ⟨x, by rw [ht, List.getElem?_append_right (by omega), h1, Nat.sub_self]; rfl, ?_, ?_⟩
      · simp only [if_true]; exact hn
      · simp only [if_true]; exact isL_set hl (eAt_ne2 j)
    · obtain ⟨y, b1, b2, b3⟩ := h4 j (by omega)
      refine ⟨y, by rw [ht, List.getElem?_append_left (by omega)]; exact b1, ?_, ?_⟩
      · simp only [if_neg hjk]; exact b2
      · simp only [if_neg hjk]; exact isL_set (isL_push (isL_push b3 _) _) (eAt_ne2 j)
theorem first_one {Lx : List AV} {nn : Nat → Nat} {H : List ABlk} {g x : AV} {K D : ABlk} (h : firstL Lx nn 0 H g) (hx : gotL H.length x K) :
    ∃ nn', firstL [x] nn' 1 (H ++ [K] ++ [D] ++ [⟨0, 37, [x]⟩]) (.own (H ++ [K] ++ [D]).length 0 1) := by
  obtain ⟨h1, h2, h3, h4⟩ := h
  obtain ⟨n, hn, hl⟩ := first_new (nn := nn) h2 hx [D]
  have hH0 : H.length = 0 := h2
  refine ⟨fun _ => n, rfl, by simp [hH0]; rfl, .inr ⟨by omega, by simp [hH0], ?_⟩, fun j hj => ?_⟩
  · rw [List.getElem?_append_right (by simp [hH0])]; simp [hH0]
  · obtain rfl : j = 0 := by omega
    exact ⟨x, rfl, hn, isL_push hl _⟩
def scanS9 (γ : List (Nat × AV)) (A B : AV) (k : Nat) (g : AV) : Slots := ⟨161, [(6, .v (.int .i64 k)), (5, g), (1, B), (0, A)], γ⟩
/-- A text that is handed over. -/
def textA (γ : List (Nat × AV)) (A : AV) : Prop := treeA A = true ∧ ∃ l : List UInt8, l.length ≤ 140737488351232 ∧ Ev Tryd.prog γ 11 [A] (.sl false l.length (l.length + 2) ((l ++ [201, 202]).map byteC))
set_option maxHeartbeats 4000000 in
set_option maxRecDepth 20000 in
theorem p1_walk (hγ : Gl γ) (hγ2 : GlW γ) {A B : AV} (hAt : textA γ A) (hBt : textA γ B) {c : Code} (hc : Tryd.f9.body.bind (pathC [1, 1, 1, 0]) = some c)
    {X : Fix} (hP : X.P = Tryd.prog) (hc0 : X.c0 = none) {φ : List Nat} {a : Act} {w : World}
    (hs : SR X φ ⟨⟨161, [(5, .v (.slice none 0 0)), (1, B), (0, A)], γ⟩, []⟩ a w) :
    c.wpIn (Fr none) 0 Tryd.prog (fun e a w => e = .normal ∧ ∃ φ H Lx nn, SR X φ ⟨⟨161, [(5, .own 2 3 4)], γ⟩, H⟩ a w ∧ 9 ≤ H.length ∧ allL Lx nn (knA nn 0 0) H) a w := by
  obtain rfl := Option.some.inj (hc.symm.trans rfl)
  clear hc
  refine wpIn_seq (pieceP hP (r := none) ⟨scanS9 γ A B 0 (.v (.slice none 0 0)), []⟩ (by kernel_rfl) hc0 hs ?_ fun φ1 a1 w1 hs1 => ?_)
  · simp only [scanS9, wkQ_normal, evS, tyS, Bool.not_true, Bool.not_false, Nat.reduceAdd, Nat.reduceSub, Nat.reduceMul, Nat.reduceLT, Nat.reduceLeDiff, Nat.reduceEqDiff, reduceCtorEq, List.reduceReplicate, Int.reduceToNat, Int.reduceLE, Int.reduceLT]
    (repeat' (first | (with_reducible refine And.intro ?_ ?_) | ((first | refine GuardK.intro_f (fun h => ?_) (fun h => ?_) | refine GuardK.intro_t (fun h => ?_) (fun h => ?_) | refine CondK.intro (fun h => ?_) (fun h => ?_) | refine PickK.intro (fun h => ?_) (fun h => ?_)) <;> simp only [h, wkQ_normal, evS, tyS, Bool.not_true, Bool.not_false, Nat.reduceAdd, Nat.reduceSub, Nat.reduceMul, Nat.reduceLT, Nat.reduceLeDiff, Nat.reduceEqDiff, reduceCtorEq, List.reduceReplicate, Int.reduceToNat, Int.reduceLE, Int.reduceLT]) | (refine DrawK.intro (by kernel_rfl) (by kernel_rfl) ?_; simp only [wkQ_normal, evS, tyS, Bool.not_true, Bool.not_false, Nat.reduceAdd, Nat.reduceSub, Nat.reduceMul, Nat.reduceLT, Nat.reduceLeDiff, Nat.reduceEqDiff, reduceCtorEq, List.reduceReplicate, Int.reduceToNat, Int.reduceLE, Int.reduceLT])))
    all_goals first | done | rfl | exact .inl rfl
  refine wpIn_block (rounds_ind 4 (fun i a w => ∃ φ H g Lx nn, SR X φ ⟨scanS9 γ A B i g, H⟩ a w ∧ firstL Lx nn i H g) ?_ ⟨φ1, [], _, [], fun _ => 0, hs1, rfl, rfl, .inl ⟨rfl, rfl⟩, fun k hk => by omega⟩)
  rintro i hi a w ⟨φ, H, g, Lx, nn, hs, h1⟩
  by_cases hi4 : i = 4
  · have d1 : decide (i < 4) = false := decide_eq_false (by omega)
    have d2 : decide ((i : Int) < 4) = false := decide_eq_false (by omega)
    refine wpIn_seq (wpIn_mono (kwp_soundP hP (r := none) _ (exitQ 0 ⟨scanS9 γ A B i g, H⟩) (by kernel_rfl) hs ?_) ?_)
    · simp only [scanS9, exitQ_exit, d1, d2, evS, tyS, Bool.not_true, Bool.not_false, Nat.reduceAdd, Nat.reduceSub, Nat.reduceMul, Nat.reduceLT, Nat.reduceLeDiff, Nat.reduceEqDiff, reduceCtorEq, List.reduceReplicate, Int.reduceToNat, Int.reduceLE, Int.reduceLT]
      (repeat' (first | (with_reducible refine And.intro ?_ ?_) | ((first | refine GuardK.intro_f (fun h => ?_) (fun h => ?_) | refine GuardK.intro_t (fun h => ?_) (fun h => ?_) | refine CondK.intro (fun h => ?_) (fun h => ?_) | refine PickK.intro (fun h => ?_) (fun h => ?_)) <;> simp only [h, exitQ_exit, d1, d2, evS, tyS, Bool.not_true, Bool.not_false, Nat.reduceAdd, Nat.reduceSub, Nat.reduceMul, Nat.reduceLT, Nat.reduceLeDiff, Nat.reduceEqDiff, reduceCtorEq, List.reduceReplicate, Int.reduceToNat, Int.reduceLE, Int.reduceLT]) | (refine DrawK.intro (by kernel_rfl) (by kernel_rfl) ?_; simp only [exitQ_exit, d1, d2, evS, tyS, Bool.not_true, Bool.not_false, Nat.reduceAdd, Nat.reduceSub, Nat.reduceMul, Nat.reduceLT, Nat.reduceLeDiff, Nat.reduceEqDiff, reduceCtorEq, List.reduceReplicate, Int.reduceToNat, Int.reduceLE, Int.reduceLT])))
      all_goals first | done | rfl | exact .inl rfl
    · rintro e' a7 w7 ⟨φ7, s7, h7, hq⟩
      cases e' with
      | exit k =>
        obtain ⟨rfl, hw⟩ := hq
        obtain ⟨φ8, h8⟩ := h7.weak hc0 hw
        refine then_exit (then_exit (inBlock_ne (.inr rfl) ?_))
        subst hi4
        obtain ⟨b1, b2, b3, b4⟩ := h1
        rcases b3 with ⟨h0, _⟩ | ⟨_, hg, hA2⟩
        · omega
        · subst hg
          have h9' : SR X φ8 ⟨⟨161, [(5, .own 2 3 4)], γ⟩, H⟩ a7 w7 := h8.slotW ⟨rfl, rfl, ⟨rfl, trivial⟩, rfl⟩
          refine ⟨rfl, φ8, H, Lx, nn, h9', by rw [b2]; decide, hA2, fun k hk => ?_⟩
          have : knA nn 0 0 k = 0 := by unfold knA; rw [if_neg (by omega)]; split <;> rfl
          rw [this]
          exact b4 k hk
      | _ => exact hq.elim
  · have hlt : i < 4 := by omega
    have d1 : decide (i < 4) = true := decide_eq_true hlt
    have d2 : decide ((i : Int) < 4) = true := decide_eq_true (by omega)
    have ei : IntKind.i64.wrap ((i : Int) + 1) = ((i + 1 : Nat) : Int) := i64w (by omega) (by omega)
    refine wpIn_seq (pieceP hP (r := none) ⟨scanS9 γ A B i g, H⟩ (by kernel_rfl) hc0 hs ?_ fun φ1 a1 w1 hs1 => ?_)
    · simp only [scanS9, wkQ_normal, d1, d2, evS, tyS, Bool.not_true, Bool.not_false, Nat.reduceAdd, Nat.reduceSub, Nat.reduceMul, Nat.reduceLT, Nat.reduceLeDiff, Nat.reduceEqDiff, reduceCtorEq, List.reduceReplicate, Int.reduceToNat, Int.reduceLE, Int.reduceLT]
      (repeat' (first | (with_reducible refine And.intro ?_ ?_) | ((first | refine GuardK.intro_f (fun h => ?_) (fun h => ?_) | refine GuardK.intro_t (fun h => ?_) (fun h => ?_) | refine CondK.intro (fun h => ?_) (fun h => ?_) | refine PickK.intro (fun h => ?_) (fun h => ?_)) <;> simp only [h, wkQ_normal, d1, d2, evS, tyS, Bool.not_true, Bool.not_false, Nat.reduceAdd, Nat.reduceSub, Nat.reduceMul, Nat.reduceLT, Nat.reduceLeDiff, Nat.reduceEqDiff, reduceCtorEq, List.reduceReplicate, Int.reduceToNat, Int.reduceLE, Int.reduceLT]) | (refine DrawK.intro (by kernel_rfl) (by kernel_rfl) ?_; simp only [wkQ_normal, d1, d2, evS, tyS, Bool.not_true, Bool.not_false, Nat.reduceAdd, Nat.reduceSub, Nat.reduceMul, Nat.reduceLT, Nat.reduceLeDiff, Nat.reduceEqDiff, reduceCtorEq, List.reduceReplicate, Int.reduceToNat, Int.reduceLE, Int.reduceLT])))
      all_goals first | done | rfl | exact .inl rfl
    obtain ⟨M, hM⟩ : ∃ M : Act → World → Prop, M = fun a w => ∃ φ H g Lx nn, SR X φ ⟨scanS9 γ A B i g, H⟩ a w ∧ firstL Lx nn (i + 1) H g := ⟨_, rfl⟩
    refine wpIn_seq (wpIn_mono (Q := onlyN M) (wpIn_block ?_) ?_)
    rotate_left
    · rintro e' a2 w2 hq
      cases e' with
      | normal =>
        subst hM
        obtain ⟨φ2, H2, g2, Ly2, F2, hs2, q2⟩ := hq
        refine pieceP hP (r := none) ⟨scanS9 γ A B (i + 1) g2, H2⟩ (by kernel_rfl) hc0 hs2 ?_ fun φ1 a1 w1 hs1 => ⟨hlt, φ1, H2, g2, Ly2, F2, hs1, q2⟩
        simp only [scanS9, wkQ_normal, ei, evS, tyS, Bool.not_true, Bool.not_false, Nat.reduceAdd, Nat.reduceSub, Nat.reduceMul, Nat.reduceLT, Nat.reduceLeDiff, Nat.reduceEqDiff, reduceCtorEq, List.reduceReplicate, Int.reduceToNat, Int.reduceLE, Int.reduceLT]
        (repeat' (first | (with_reducible refine And.intro ?_ ?_) | ((first | refine GuardK.intro_f (fun h => ?_) (fun h => ?_) | refine GuardK.intro_t (fun h => ?_) (fun h => ?_) | refine CondK.intro (fun h => ?_) (fun h => ?_) | refine PickK.intro (fun h => ?_) (fun h => ?_)) <;> simp only [h, wkQ_normal, ei, evS, tyS, Bool.not_true, Bool.not_false, Nat.reduceAdd, Nat.reduceSub, Nat.reduceMul, Nat.reduceLT, Nat.reduceLeDiff, Nat.reduceEqDiff, reduceCtorEq, List.reduceReplicate, Int.reduceToNat, Int.reduceLE, Int.reduceLT]) | (refine DrawK.intro (by kernel_rfl) (by kernel_rfl) ?_; simp only [wkQ_normal, ei, evS, tyS, Bool.not_true, Bool.not_false, Nat.reduceAdd, Nat.reduceSub, Nat.reduceMul, Nat.reduceLT, Nat.reduceLeDiff, Nat.reduceEqDiff, reduceCtorEq, List.reduceReplicate, Int.reduceToNat, Int.reduceLE, Int.reduceLT])))
        all_goals first | done | rfl | exact .inl rfl
      | _ => exact hq.elim
    obtain ⟨T, hT, hTt⟩ : ∃ T, T = (if i = 1 then B else A) ∧ textA γ T := ⟨_, rfl, by split <;> assumption⟩
    refine wpIn_seq (pieceP hP (r := none) ⟨⟨161, (7, A) :: (scanS9 γ A B i g).l, γ⟩, H⟩ (by kernel_rfl) hc0 hs1 ?_ fun φ2 a2 w2 hs2 => ?_)
    · simp only [scanS9, wkQ_normal, evS, tyS, Bool.not_true, Bool.not_false, Nat.reduceAdd, Nat.reduceSub, Nat.reduceMul, Nat.reduceLT, Nat.reduceLeDiff, Nat.reduceEqDiff, reduceCtorEq, List.reduceReplicate, Int.reduceToNat, Int.reduceLE, Int.reduceLT]
      (repeat' (first | (with_reducible refine And.intro ?_ ?_) | ((first | refine GuardK.intro_f (fun h => ?_) (fun h => ?_) | refine GuardK.intro_t (fun h => ?_) (fun h => ?_) | refine CondK.intro (fun h => ?_) (fun h => ?_) | refine PickK.intro (fun h => ?_) (fun h => ?_)) <;> simp only [h, wkQ_normal, evS, tyS, Bool.not_true, Bool.not_false, Nat.reduceAdd, Nat.reduceSub, Nat.reduceMul, Nat.reduceLT, Nat.reduceLeDiff, Nat.reduceEqDiff, reduceCtorEq, List.reduceReplicate, Int.reduceToNat, Int.reduceLE, Int.reduceLT]) | (refine DrawK.intro (by kernel_rfl) (by kernel_rfl) ?_; simp only [wkQ_normal, evS, tyS, Bool.not_true, Bool.not_false, Nat.reduceAdd, Nat.reduceSub, Nat.reduceMul, Nat.reduceLT, Nat.reduceLeDiff, Nat.reduceEqDiff, reduceCtorEq, List.reduceReplicate, Int.reduceToNat, Int.reduceLE, Int.reduceLT])))
      all_goals first | done | rfl | exact .inl rfl
    refine wpIn_seq (pieceP hP (r := none) ⟨⟨161, (7, T) :: (scanS9 γ A B i g).l, γ⟩, H⟩ (by kernel_rfl) hc0 hs2 ?_ fun φ3 a3 w3 hs3 => ?_)
    · by_cases h1 : i = 1
      · have z1 : ((i : Int) == 1) = true := by subst h1; rfl
        rw [if_pos h1] at hT
        subst hT
        simp only [scanS9, wkQ_normal, z1, evS, tyS, Bool.not_true, Bool.not_false, Nat.reduceAdd, Nat.reduceSub, Nat.reduceMul, Nat.reduceLT, Nat.reduceLeDiff, Nat.reduceEqDiff, reduceCtorEq, List.reduceReplicate, Int.reduceToNat, Int.reduceLE, Int.reduceLT]
        (repeat' (first | (with_reducible refine And.intro ?_ ?_) | ((first | refine GuardK.intro_f (fun h => ?_) (fun h => ?_) | refine GuardK.intro_t (fun h => ?_) (fun h => ?_) | refine CondK.intro (fun h => ?_) (fun h => ?_) | refine PickK.intro (fun h => ?_) (fun h => ?_)) <;> simp only [h, wkQ_normal, z1, evS, tyS, Bool.not_true, Bool.not_false, Nat.reduceAdd, Nat.reduceSub, Nat.reduceMul, Nat.reduceLT, Nat.reduceLeDiff, Nat.reduceEqDiff, reduceCtorEq, List.reduceReplicate, Int.reduceToNat, Int.reduceLE, Int.reduceLT]) | (refine DrawK.intro (by kernel_rfl) (by kernel_rfl) ?_; simp only [wkQ_normal, z1, evS, tyS, Bool.not_true, Bool.not_false, Nat.reduceAdd, Nat.reduceSub, Nat.reduceMul, Nat.reduceLT, Nat.reduceLeDiff, Nat.reduceEqDiff, reduceCtorEq, List.reduceReplicate, Int.reduceToNat, Int.reduceLE, Int.reduceLT])))
        all_goals first | done | rfl | exact .inl rfl | trace_state
      · have z1 : ((i : Int) == 1) = false := by simp; omega
        rw [if_neg h1] at hT
        subst hT
        simp only [scanS9, wkQ_normal, z1, evS, tyS, Bool.not_true, Bool.not_false, Nat.reduceAdd, Nat.reduceSub, Nat.reduceMul, Nat.reduceLT, Nat.reduceLeDiff, Nat.reduceEqDiff, reduceCtorEq, List.reduceReplicate, Int.reduceToNat, Int.reduceLE, Int.reduceLT]
        (repeat' (first | (with_reducible refine And.intro ?_ ?_) | ((first | refine GuardK.intro_f (fun h => ?_) (fun h => ?_) | refine GuardK.intro_t (fun h => ?_) (fun h => ?_) | refine CondK.intro (fun h => ?_) (fun h => ?_) | refine PickK.intro (fun h => ?_) (fun h => ?_)) <;> simp only [h, wkQ_normal, z1, evS, tyS, Bool.not_true, Bool.not_false, Nat.reduceAdd, Nat.reduceSub, Nat.reduceMul, Nat.reduceLT, Nat.reduceLeDiff, Nat.reduceEqDiff, reduceCtorEq, List.reduceReplicate, Int.reduceToNat, Int.reduceLE, Int.reduceLT]) | (refine DrawK.intro (by kernel_rfl) (by kernel_rfl) ?_; simp only [wkQ_normal, z1, evS, tyS, Bool.not_true, Bool.not_false, Nat.reduceAdd, Nat.reduceSub, Nat.reduceMul, Nat.reduceLT, Nat.reduceLeDiff, Nat.reduceEqDiff, reduceCtorEq, List.reduceReplicate, Int.reduceToNat, Int.reduceLE, Int.reduceLT])))
        all_goals first | done | rfl | exact .inl rfl | trace_state
    obtain ⟨htree, l, hl, k11⟩ := hTt
    refine wpIn_seq (wpIn_region ?_)
    show wpOpsIn (Fr none) 0 Tryd.prog _ _ ([0, 1] ++ ([2] ++ ([3, 4, 5, 6, 7, 8, 9] ++ []))) a3 w3
    refine wpOpsIn_split _ _ _ _ (opsP hP ⟨⟨161, (31, .sl false l.length (l.length + 2) ((l ++ [201, 202]).map byteC)) :: (scanS9 γ A B i g).l, γ⟩, H⟩ (by kernel_rfl) hc0 [_, _] [0, 1] rfl hs3 ?_ fun φ4 a4 w4 hs4 => ?_)
    · simp only [List.getElem_toArray, List.getElem_cons_zero, List.getElem_cons_succ, scanS9, evS, tyS, Bool.not_true, Bool.not_false, Nat.reduceAdd, Nat.reduceSub, Nat.reduceMul, Nat.reduceLT, Nat.reduceLeDiff, Nat.reduceEqDiff, reduceCtorEq, List.reduceReplicate, Int.reduceToNat, Int.reduceLE, Int.reduceLT]
      refine CallK.intro b11 (by simp [treeL, htree]) k11 ?_
      simp only [evS, tyS, Bool.not_true, Bool.not_false, Nat.reduceAdd, Nat.reduceSub, Nat.reduceMul, Nat.reduceLT, Nat.reduceLeDiff, Nat.reduceEqDiff, reduceCtorEq, List.reduceReplicate, Int.reduceToNat, Int.reduceLE, Int.reduceLT]
      (repeat' (first | (with_reducible refine And.intro ?_ ?_) | ((first | refine GuardK.intro_f (fun h => ?_) (fun h => ?_) | refine GuardK.intro_t (fun h => ?_) (fun h => ?_) | refine CondK.intro (fun h => ?_) (fun h => ?_) | refine PickK.intro (fun h => ?_) (fun h => ?_)) <;> simp only [h, evS, tyS, Bool.not_true, Bool.not_false, Nat.reduceAdd, Nat.reduceSub, Nat.reduceMul, Nat.reduceLT, Nat.reduceLeDiff, Nat.reduceEqDiff, reduceCtorEq, List.reduceReplicate, Int.reduceToNat, Int.reduceLE, Int.reduceLT]) | (refine DrawK.intro (by kernel_rfl) (by kernel_rfl) ?_; simp only [evS, tyS, Bool.not_true, Bool.not_false, Nat.reduceAdd, Nat.reduceSub, Nat.reduceMul, Nat.reduceLT, Nat.reduceLeDiff, Nat.reduceEqDiff, reduceCtorEq, List.reduceReplicate, Int.reduceToNat, Int.reduceLE, Int.reduceLT])))
      all_goals first | done | rfl | exact .inl rfl | trace_state
    refine wpOpsIn_split _ _ _ _ ?_
    rw [wpOpsIn_cons]
    have hrow : rel (.sl false l.length l.length (l.map byteC)) (cx X φ4 H w4) (a4.tmps.getD 31 undef) := by
      have := rel_cutSl (m' := l.length) (k := l.length) (Nat.le_refl _) (by omega) (hs4.slots 31)
      rwa [← List.map_take, List.take_left' rfl] at this
    refine wpOpIn_some rfl rfl (call_wpIn (vs := #[a4.tmps.getD 31 undef]) rfl (by rw [List.map_toArray, List.map_cons, List.map_nil]; rfl) (enters_of Tryd.func16 (by kernel_rfl) rfl) (scan_own hγ hγ2 hl hP hs4 rfl hrow) ?_)
    rintro e' w5 ⟨v, φ5, x, K, pl, er, rfl, hs5, hv, hgot⟩
    refine ⟨_, rfl, ?_⟩
    show wpOpsIn (Fr none) 0 Tryd.prog _ _ ([3, 4, 5, 6, 7, 8, 9] ++ []) (a4.put (some 32) v) w5
    have hs6 : SR X φ5 ⟨⟨161, (32, .tup [x, .v (.int .i64 pl), .v (.int .i64 er)]) :: (31, .sl false l.length (l.length + 2) ((l ++ [201, 202]).map byteC)) :: (scanS9 γ A B i g).l, γ⟩, H ++ [K]⟩ (a4.put (some 32) v) w5 := hs5.put (some 32) hv
    generalize (a4.put (some 32) v) = a6 at hs6 ⊢
    refine wpOpsIn_split _ _ _ _ (opsP hP ⟨⟨161, (8, x) :: (scanS9 γ A B i g).l, γ⟩, H ++ [K]⟩ (by kernel_rfl) hc0 [_, _, _, _, _, _, _] [3, 4, 5, 6, 7, 8, 9] rfl hs6 ?_ fun φ7 a7 w7 hs7 => ?_)
    · simp only [List.getElem_toArray, List.getElem_cons_zero, List.getElem_cons_succ, scanS9, evS, tyS, Bool.not_true, Bool.not_false, Nat.reduceAdd, Nat.reduceSub, Nat.reduceMul, Nat.reduceLT, Nat.reduceLeDiff, Nat.reduceEqDiff, reduceCtorEq, List.reduceReplicate, Int.reduceToNat, Int.reduceLE, Int.reduceLT]
      (repeat' (first | (with_reducible refine And.intro ?_ ?_) | ((first | refine GuardK.intro_f (fun h => ?_) (fun h => ?_) | refine GuardK.intro_t (fun h => ?_) (fun h => ?_) | refine CondK.intro (fun h => ?_) (fun h => ?_) | refine PickK.intro (fun h => ?_) (fun h => ?_)) <;> simp only [h, evS, tyS, Bool.not_true, Bool.not_false, Nat.reduceAdd, Nat.reduceSub, Nat.reduceMul, Nat.reduceLT, Nat.reduceLeDiff, Nat.reduceEqDiff, reduceCtorEq, List.reduceReplicate, Int.reduceToNat, Int.reduceLE, Int.reduceLT]) | (refine DrawK.intro (by kernel_rfl) (by kernel_rfl) ?_; simp only [evS, tyS, Bool.not_true, Bool.not_false, Nat.reduceAdd, Nat.reduceSub, Nat.reduceMul, Nat.reduceLT, Nat.reduceLeDiff, Nat.reduceEqDiff, reduceCtorEq, List.reduceReplicate, Int.reduceToNat, Int.reduceLE, Int.reduceLT])))
      all_goals first | done | rfl | exact .inl rfl | trace_state
    show Code.wpIn (Fr none) 0 Tryd.prog _ _ a7 w7
    have hflat : flat x = some [x] := by rcases hgot with rfl | ⟨_, _, _, _, rfl, _⟩ <;> rfl
    have hone : oneA x = true := by rcases hgot with rfl | ⟨_, _, _, _, rfl, _⟩ <;> rfl
    have sofort : ∀ (S : List ABlk) (g' : AV), (∃ nn' Lx', firstL Lx' nn' (i + 1) S g') → ∀ φ8 a8 w8, SR X φ8 ⟨scanS9 γ A B i g', S⟩ a8 w8 → M a8 w8 := fun S g' ⟨nn', Lx', hf⟩ φ8 a8 w8 h8 => by
      rw [hM]; exact ⟨φ8, S, g', Lx', nn', h8, hf⟩
    by_cases hi0 : i = 0
    · subst hi0
      obtain ⟨nn', fin⟩ := first_one (D := ⟨0, 37, [x]⟩) h1 hgot
      have hg0 : g = .v (.slice none 0 0) := by
        rcases h1.2.2.1 with ⟨_, h⟩ | ⟨h, _⟩
        · exact h
        · omega
      refine wpIn_mono (kwp_soundP hP (r := none) _ (wkQ ⟨scanS9 γ A B 0 (.own (H ++ [K] ++ [(⟨0, 37, [x]⟩ : ABlk)]).length 0 1), H ++ [K] ++ [(⟨0, 37, [x]⟩ : ABlk)] ++ [(⟨0, 37, [x]⟩ : ABlk)]⟩) (by kernel_rfl) hs7 ?_) ?_
      · generalize H ++ [K] = H1
        simp only [scanS9, wkQ_normal, List.getElem?_concat_length, tyO, hg0, hflat, hone, evS, tyS, Bool.not_true, Bool.not_false, Nat.reduceAdd, Nat.reduceSub, Nat.reduceMul, Nat.reduceLT, Nat.reduceLeDiff, Nat.reduceEqDiff, reduceCtorEq, List.reduceReplicate, Int.reduceToNat, Int.reduceLE, Int.reduceLT]
        (repeat' (first | (with_reducible refine And.intro ?_ ?_) | ((first | refine GuardK.intro_f (fun h => ?_) (fun h => ?_) | refine GuardK.intro_t (fun h => ?_) (fun h => ?_) | refine CondK.intro (fun h => ?_) (fun h => ?_) | refine PickK.intro (fun h => ?_) (fun h => ?_)) <;> simp only [h, wkQ_normal, List.getElem?_concat_length, tyO, hg0, hflat, hone, evS, tyS, Bool.not_true, Bool.not_false, Nat.reduceAdd, Nat.reduceSub, Nat.reduceMul, Nat.reduceLT, Nat.reduceLeDiff, Nat.reduceEqDiff, reduceCtorEq, List.reduceReplicate, Int.reduceToNat, Int.reduceLE, Int.reduceLT]) | (refine DrawK.intro (by kernel_rfl) (by kernel_rfl) ?_; simp only [wkQ_normal, List.getElem?_concat_length, tyO, hg0, hflat, hone, evS, tyS, Bool.not_true, Bool.not_false, Nat.reduceAdd, Nat.reduceSub, Nat.reduceMul, Nat.reduceLT, Nat.reduceLeDiff, Nat.reduceEqDiff, reduceCtorEq, List.reduceReplicate, Int.reduceToNat, Int.reduceLE, Int.reduceLT])))
        all_goals first | done | omega | rfl | exact .inl rfl | trace_state
      · rintro e' a2 w2 ⟨φ7, s7, h7, hq⟩
        cases e' with
        | normal =>
          obtain ⟨φ8, h8⟩ := h7.weak hc0 hq
          refine inBlock_ne (.inl rfl) ?_
          exact sofort _ _ ⟨nn', _, fin⟩ _ _ _ h8
        | _ => exact hq.elim
    · obtain ⟨nn', fin⟩ := first_next (D := ⟨0, 37, [x]⟩) h1 hgot (by omega)
      obtain ⟨_, hg0, hk0⟩ : 0 < i ∧ g = .own 2 (i - 1) i ∧ H[2]? = some ⟨i - 1, 37, Lx⟩ := by
        rcases h1.2.2.1 with ⟨h, _⟩ | h
        · omega
        · exact h
      have hk1 := get_push (get_push hk0 [K]) [⟨0, 37, [x]⟩]
      have hLx := h1.1
      refine wpIn_mono (kwp_soundP hP (r := none) _ (wkQ ⟨scanS9 γ A B i (.own 2 (i - 1 + 1) (i + 1)), (H ++ [K] ++ [(⟨0, 37, [x]⟩ : ABlk)]).set 2 ⟨i - 1 + 1, 37, Lx.take (i * 1) ++ [x]⟩⟩) (by kernel_rfl) hs7 ?_) ?_
      · generalize H ++ [K] = H1 at hk1 ⊢
        simp only [scanS9, wkQ_normal, List.getElem?_concat_length, tyO, hg0, hk1, hflat, hone, evS, tyS, Bool.not_true, Bool.not_false, Nat.reduceAdd, Nat.reduceSub, Nat.reduceMul, Nat.reduceLT, Nat.reduceLeDiff, Nat.reduceEqDiff, reduceCtorEq, List.reduceReplicate, Int.reduceToNat, Int.reduceLE, Int.reduceLT]
        (repeat' (first | (with_reducible refine And.intro ?_ ?_) | ((first | refine GuardK.intro_f (fun h => ?_) (fun h => ?_) | refine GuardK.intro_t (fun h => ?_) (fun h => ?_) | refine CondK.intro (fun h => ?_) (fun h => ?_) | refine PickK.intro (fun h => ?_) (fun h => ?_)) <;> simp only [h, wkQ_normal, List.getElem?_concat_length, tyO, hg0, hk1, hflat, hone, evS, tyS, Bool.not_true, Bool.not_false, Nat.reduceAdd, Nat.reduceSub, Nat.reduceMul, Nat.reduceLT, Nat.reduceLeDiff, Nat.reduceEqDiff, reduceCtorEq, List.reduceReplicate, Int.reduceToNat, Int.reduceLE, Int.reduceLT]) | (refine DrawK.intro (by kernel_rfl) (by kernel_rfl) ?_; simp only [wkQ_normal, List.getElem?_concat_length, tyO, hg0, hk1, hflat, hone, evS, tyS, Bool.not_true, Bool.not_false, Nat.reduceAdd, Nat.reduceSub, Nat.reduceMul, Nat.reduceLT, Nat.reduceLeDiff, Nat.reduceEqDiff, reduceCtorEq, List.reduceReplicate, Int.reduceToNat, Int.reduceLE, Int.reduceLT])))
        all_goals first | done | omega | rfl | exact .inl rfl | trace_state
      · rintro e' a2 w2 ⟨φ7, s7, h7, hq⟩
        cases e' with
        | normal =>
          obtain ⟨φ8, h8⟩ := h7.weak hc0 hq
          refine inBlock_ne (.inl rfl) ?_
          exact sofort _ _ ⟨nn', _, fin⟩ _ _ _ h8
        | _ => exact hq.elim
end Go.Proofs.YtplnhipgifcafaaDoor
/- LexOwn: the whole. -/
namespace Go.Proofs.YtplnhipgifcafaaDoor
set_option linter.all false
open Go Go.Ev Go.RowKit
variable {γ : List (Nat × AV)}
theorem loopsP {P : Program} {X : Fix} (hP : X.P = P) (hc0 : X.c0 = none) (c : Code) (Q : Post) {φ : List Nat} {st : St} {a : Act} {w : World} (hs : SR X φ st a w) (h : kwp P c Q st) : c.wpIn (Fr none) 0 P (Qx X Q) a w := by
  subst hP
  exact wpIn_wide.2 (kwp_sound hc0 c Q hs h)
def ownEndQ : Post
  | .ret, s => endS Tryd.prog [.tmp 4] (.v (.bool true)) .ret s
  | _, _ => False
theorem ownEndQ_ret (s : St) : ownEndQ .ret s = endS Tryd.prog [.tmp 4] (.v (.bool true)) .ret s := rfl
set_option maxHeartbeats 4000000 in
set_option maxRecDepth 20000 in
theorem lexOwn_ev (hγ : Gl γ) (hγ2 : GlW γ) {A B : AV} (hAt : textA γ A) (hBt : textA γ B) : Ev Tryd.prog γ 9 [A, B] (.v (.bool true)) := by
  refine Ev.of_wpM Tryd.func9 rfl ?_
  intro X hP hc0 hXK hXdf a w hs
  have hnt : Tryd.f9.ntmps = 161 := by kernel_rfl
  rw [hnt] at hs
  refine wpIn_seq (pieceP hP (r := none) ⟨⟨161, [(1, B), (0, A)], γ⟩, []⟩ (by kernel_rfl) hc0 hs ?_ fun φ1 a1 w1 hs1 => ?_)
  · simp only [startA, idxL, wkQ_normal, evS, tyS, Bool.not_true, Bool.not_false, Nat.reduceAdd, Nat.reduceSub, Nat.reduceMul, Nat.reduceLT, Nat.reduceLeDiff, Nat.reduceEqDiff, reduceCtorEq, List.reduceReplicate, Int.reduceToNat, Int.reduceLE, Int.reduceLT]
    (repeat' (first | (with_reducible refine And.intro ?_ ?_) | ((first | refine GuardK.intro_f (fun h => ?_) (fun h => ?_) | refine GuardK.intro_t (fun h => ?_) (fun h => ?_) | refine CondK.intro (fun h => ?_) (fun h => ?_) | refine PickK.intro (fun h => ?_) (fun h => ?_)) <;> simp only [h, evS, tyS, Bool.not_true, Bool.not_false, Nat.reduceAdd, Nat.reduceSub, Nat.reduceMul, Nat.reduceLT, Nat.reduceLeDiff, Nat.reduceEqDiff, reduceCtorEq, List.reduceReplicate, Int.reduceToNat, Int.reduceLE, Int.reduceLT]) | (refine DrawK.intro (by kernel_rfl) (by kernel_rfl) ?_; simp only [evS, tyS, Bool.not_true, Bool.not_false, Nat.reduceAdd, Nat.reduceSub, Nat.reduceMul, Nat.reduceLT, Nat.reduceLeDiff, Nat.reduceEqDiff, reduceCtorEq, List.reduceReplicate, Int.reduceToNat, Int.reduceLE, Int.reduceLT])))
    all_goals first | done | rfl | exact .inl rfl | trace_state
  refine wpIn_seq (pieceP hP (r := none) ⟨⟨161, [(1, B), (0, A)], γ⟩, []⟩ (by kernel_rfl) hc0 hs1 ?_ fun φ2 a2 w2 hs2 => ?_)
  · simp only [wkQ_normal, evS, tyS, Bool.not_true, Bool.not_false, Nat.reduceAdd, Nat.reduceSub, Nat.reduceMul, Nat.reduceLT, Nat.reduceLeDiff, Nat.reduceEqDiff, reduceCtorEq, List.reduceReplicate, Int.reduceToNat, Int.reduceLE, Int.reduceLT]
    refine CallK.intro b19 rfl (awake_ev hγ hγ2) ?_
    simp only [wkQ_normal, evS, tyS, Bool.not_true, Bool.not_false, Nat.reduceAdd, Nat.reduceSub, Nat.reduceMul, Nat.reduceLT, Nat.reduceLeDiff, Nat.reduceEqDiff, reduceCtorEq, List.reduceReplicate, Int.reduceToNat, Int.reduceLE, Int.reduceLT]
    (repeat' (first | (with_reducible refine And.intro ?_ ?_) | ((first | refine GuardK.intro_f (fun h => ?_) (fun h => ?_) | refine GuardK.intro_t (fun h => ?_) (fun h => ?_) | refine CondK.intro (fun h => ?_) (fun h => ?_) | refine PickK.intro (fun h => ?_) (fun h => ?_)) <;> simp only [h, wkQ_normal, evS, tyS, Bool.not_true, Bool.not_false, Nat.reduceAdd, Nat.reduceSub, Nat.reduceMul, Nat.reduceLT, Nat.reduceLeDiff, Nat.reduceEqDiff, reduceCtorEq, List.reduceReplicate, Int.reduceToNat, Int.reduceLE, Int.reduceLT]) | (refine DrawK.intro (by kernel_rfl) (by kernel_rfl) ?_; simp only [wkQ_normal, evS, tyS, Bool.not_true, Bool.not_false, Nat.reduceAdd, Nat.reduceSub, Nat.reduceMul, Nat.reduceLT, Nat.reduceLeDiff, Nat.reduceEqDiff, reduceCtorEq, List.reduceReplicate, Int.reduceToNat, Int.reduceLE, Int.reduceLT])))
    all_goals first | done | rfl | exact .inl rfl | trace_state
  refine wpIn_seq (pieceP hP (r := none) ⟨⟨161, [(5, .v (.slice none 0 0)), (1, B), (0, A)], γ⟩, []⟩ (by kernel_rfl) hc0 hs2 ?_ fun φ3 a3 w3 hs3 => ?_)
  · simp only [wkQ_normal, evS, tyS, Bool.not_true, Bool.not_false, Nat.reduceAdd, Nat.reduceSub, Nat.reduceMul, Nat.reduceLT, Nat.reduceLeDiff, Nat.reduceEqDiff, reduceCtorEq, List.reduceReplicate, Int.reduceToNat, Int.reduceLE, Int.reduceLT]
    (repeat' (first | (with_reducible refine And.intro ?_ ?_) | ((first | refine GuardK.intro_f (fun h => ?_) (fun h => ?_) | refine GuardK.intro_t (fun h => ?_) (fun h => ?_) | refine CondK.intro (fun h => ?_) (fun h => ?_) | refine PickK.intro (fun h => ?_) (fun h => ?_)) <;> simp only [h, wkQ_normal, evS, tyS, Bool.not_true, Bool.not_false, Nat.reduceAdd, Nat.reduceSub, Nat.reduceMul, Nat.reduceLT, Nat.reduceLeDiff, Nat.reduceEqDiff, reduceCtorEq, List.reduceReplicate, Int.reduceToNat, Int.reduceLE, Int.reduceLT]) | (refine DrawK.intro (by kernel_rfl) (by kernel_rfl) ?_; simp only [wkQ_normal, evS, tyS, Bool.not_true, Bool.not_false, Nat.reduceAdd, Nat.reduceSub, Nat.reduceMul, Nat.reduceLT, Nat.reduceLeDiff, Nat.reduceEqDiff, reduceCtorEq, List.reduceReplicate, Int.reduceToNat, Int.reduceLE, Int.reduceLT])))
    all_goals first | done | rfl | exact .inl rfl | trace_state
  refine wpIn_seq (wpIn_mono (p1_walk hγ hγ2 hAt hBt (by kernel_rfl) hP hc0 hs3) ?_)
  rintro e4 a4 w4 ⟨rfl, φ4, H4, Lx, nn, hs4, h9, hG4⟩
  show Code.wpIn (Fr none) 0 Tryd.prog _ _ a4 w4
  refine wpIn_seq (wpIn_mono (loopsP hP hc0 _ (p2Q γ Lx nn) hs4 (p2_kwp (by kernel_rfl) hG4 h9)) ?_)
  rintro e5 a5 w5 ⟨φ5, s5, hs5, hq5⟩
  cases e5 with
  | normal =>
    obtain ⟨H5, hw5, hG5, h95⟩ := hq5
    have hs5' := hs5.slotW hw5
    show Code.wpIn (Fr none) 0 Tryd.prog _ _ a5 w5
    refine wpIn_seq (pieceP hP (r := none) ⟨⟨161, [(13, .v (.slice none 0 0)), (5, .own 2 3 4)], γ⟩, H5⟩ (by kernel_rfl) hc0 hs5' ?_ fun φ6 a6 w6 hs6 => ?_)
    · simp only [wkQ_normal, evS, tyS, Bool.not_true, Bool.not_false, Nat.reduceAdd, Nat.reduceSub, Nat.reduceMul, Nat.reduceLT, Nat.reduceLeDiff, Nat.reduceEqDiff, reduceCtorEq, List.reduceReplicate, Int.reduceToNat, Int.reduceLE, Int.reduceLT]
      (repeat' (first | (with_reducible refine And.intro ?_ ?_) | ((first | refine GuardK.intro_f (fun h => ?_) (fun h => ?_) | refine GuardK.intro_t (fun h => ?_) (fun h => ?_) | refine CondK.intro (fun h => ?_) (fun h => ?_) | refine PickK.intro (fun h => ?_) (fun h => ?_)) <;> simp only [h, wkQ_normal, evS, tyS, Bool.not_true, Bool.not_false, Nat.reduceAdd, Nat.reduceSub, Nat.reduceMul, Nat.reduceLT, Nat.reduceLeDiff, Nat.reduceEqDiff, reduceCtorEq, List.reduceReplicate, Int.reduceToNat, Int.reduceLE, Int.reduceLT]) | (refine DrawK.intro (by kernel_rfl) (by kernel_rfl) ?_; simp only [wkQ_normal, evS, tyS, Bool.not_true, Bool.not_false, Nat.reduceAdd, Nat.reduceSub, Nat.reduceMul, Nat.reduceLT, Nat.reduceLeDiff, Nat.reduceEqDiff, reduceCtorEq, List.reduceReplicate, Int.reduceToNat, Int.reduceLE, Int.reduceLT])))
      all_goals first | done | rfl | exact .inl rfl | trace_state
    refine wpIn_seq (wpIn_mono (p3_walk (Lx := Lx) (nn := nn) (by kernel_rfl) hP hc0 hs6 ?_ ?_) ?_)
    · exact h95
    · refine ⟨hG5.1, fun k hk => ?_⟩
      have := hG5.2 k hk
      rw [show knA nn 4 0 k = nn k by unfold knA; rw [if_pos hk]] at this
      exact this
    · rintro e7 a7 w7 ⟨rfl, φ7, H7, Gb, F, Ly, hs7, hG7⟩
      show Code.wpIn (Fr none) 0 Tryd.prog _ _ a7 w7
      have hy : ∀ k, k < 4 → ∃ y e, Ly[k]? = some y ∧ isL H7 e y (nn k + 40) (nn k + 40) (gk nn k) := fun k hk => by
        obtain ⟨y, b1, b2, _⟩ := hG7.2.2.2.2 k hk
        exact ⟨y, _, b1, b2⟩
      have hB : H7[Gb]? = some ⟨3, 37, Ly⟩ := by
        rcases hG7.2.2.2.1 with ⟨h, _⟩ | ⟨_, _, _, h⟩
        · omega
        · exact h
      refine wpIn_seq (wpIn_mono (loopsP hP hc0 _ (p4Q γ H7) hs7 (p4_kwp (by kernel_rfl) hG7.2.1 hB hy)) ?_)
      rintro e8 a8 w8 ⟨φ8, s8, hs8, hq8⟩
      cases e8 with
      | normal =>
        have hs8' := hs8.slotW hq8
        show Code.wpIn (Fr none) 0 Tryd.prog _ _ a8 w8
        refine wpIn_mono (kwp_soundP hP (r := none) _ ownEndQ (by kernel_rfl) hs8' ?_) ?_
        · simp only [ownEndQ_ret, evS, tyS, Bool.not_true, Bool.not_false, Nat.reduceAdd, Nat.reduceSub, Nat.reduceMul, Nat.reduceLT, Nat.reduceLeDiff, Nat.reduceEqDiff, reduceCtorEq, List.reduceReplicate, Int.reduceToNat, Int.reduceLE, Int.reduceLT]
          (repeat' (first | (with_reducible refine And.intro ?_ ?_) | ((first | refine GuardK.intro_f (fun h => ?_) (fun h => ?_) | refine GuardK.intro_t (fun h => ?_) (fun h => ?_) | refine CondK.intro (fun h => ?_) (fun h => ?_) | refine PickK.intro (fun h => ?_) (fun h => ?_)) <;> simp only [h, ownEndQ_ret, evS, tyS, Bool.not_true, Bool.not_false, Nat.reduceAdd, Nat.reduceSub, Nat.reduceMul, Nat.reduceLT, Nat.reduceLeDiff, Nat.reduceEqDiff, reduceCtorEq, List.reduceReplicate, Int.reduceToNat, Int.reduceLE, Int.reduceLT]) | (refine DrawK.intro (by kernel_rfl) (by kernel_rfl) ?_; simp only [ownEndQ_ret, evS, tyS, Bool.not_true, Bool.not_false, Nat.reduceAdd, Nat.reduceSub, Nat.reduceMul, Nat.reduceLT, Nat.reduceLeDiff, Nat.reduceEqDiff, reduceCtorEq, List.reduceReplicate, Int.reduceToNat, Int.reduceLE, Int.reduceLT])))
          all_goals first | done | rfl | trace_state
        · rintro e a9 w9 ⟨φ9, s9, h9, hq⟩
          cases e with
          | ret => exact ⟨[], φ9, s9, List.nodup_nil, (fun D h => by cases h), by rw [marks_nil hc0]; exact h9, endS_endA hq⟩
          | _ => exact hq.elim
      | _ => exact hq8.elim
  | _ => exact hq5.elim
end Go.Proofs.YtplnhipgifcafaaDoor
/- LexOwn: for every two texts the law answers true, and the text reads afterwards as it did: her row, and the card over it. -/
namespace Go.Proofs.YtplnhipgifcafaaDoor
set_option linter.all false
open Go Go.Ev Go.Lib
open Go.ChangeShapes Go.WideShapes Go.ChangeAt Go.RowKit
open Go.ChangeMaps (open_string shut_string)
namespace lexOwn
set_option maxRecDepth 100000 in
theorem contract (H : Type) (enc : TypeId × Value → H) (W : World) (base : Nat) (args : Array Value) (ds gs : List (DataW H)) (before : List MemPlace)
    (hval : ∀ (j : Nat) t v, Tryd.f9.params[j]? = some t → args[j]? = some v → Value.okWide Tryd.prog W .any base t v)
    (hW : DataW.Whole enc Tryd.prog Tryd.f9.params.toList Rows.lexOwnSpec.vars false W args.toList ds gs before)
    (hsz : (DataW.weightsEach Tryd.prog (Tryd.f9.params.toList ++ Rows.lexOwnSpec.plain.varTypes Tryd.prog) (ds ++ gs)).all (· ≤ reachBytes) = true)
    (hL : laidMet Tryd.prog laidL W) (hS : W.ShapedOpen Tryd.prog) :
    Calls Tryd.prog 9 args W fun e W' => ∃ v, e = .returned v ∧ Rows.lexOwnSpec.post enc Tryd.prog Tryd.f9 false true false false W args v W' := by
  have hW' := hW
  obtain ⟨p, q, hA0, hV, rfl, hfz, hnd⟩ := hW
  have hA : DataW.TrodAll enc Tryd.prog W 0 (fun _ => true) true Tryd.f9.params.toList args.toList ds p := hA0
  rw [Tryd.params9] at hA hval hsz
  obtain ⟨v0, vs0, d0, ds0, p0, q0, hargs, rfl, rfl, h0, r0⟩ := trodAll_cons hA
  obtain ⟨v1, vs1, d1, ds1, p1, q1, rfl, rfl, rfl, h1, r1⟩ := trodAll_cons r0
  obtain ⟨rfl, rfl, rfl⟩ := trodAll_nil r1
  obtain rfl : args = #[v0, v1] := by cases args; simp_all
  obtain ⟨rfl, rfl⟩ := trodVars_none hV
  let c : Cx := cx0 Tryd.prog (fun _ => False) (fun _ => False) W
  obtain ⟨m, hm⟩ := maxLen_cell hS
  obtain ⟨te, pe, hpe⟩ := errRange_cell hL
  have row : ∀ (v : Value) (d : DataW H) (p : List MemPlace), Value.okWide Tryd.prog W .any base 22 v → DataW.Trod enc Tryd.prog W 0 (fun _ => true) true 22 v d p →
      (∀ (a : Option Addr) (len cap : Nat), DataW.Trod enc Tryd.prog W 0 (fun _ => true) true 22 (.slice a len cap) d p → len * 1 ≤ 140737488351232) → ∃ A, textA (gam m te pe) A ∧ rel A c v := by
    intro v d p hv ht hz0
    have hs0 := okWide_sl Tryd.underlying22 hv
    obtain ⟨a0, len0, cap0, hv0⟩ := okWide_slice Tryd.underlying22 hv
    have y0 : len0 * 1 ≤ 140737488351232 := by rw [hv0] at ht; exact hz0 _ _ _ ht
    have h0' := ht
    rw [hv0] at h0'
    obtain ⟨fuel, hf⟩ := h0'
    rcases open_ints Tryd.underlying22 Tryd.underlying5 (by kernel_rfl) hf with ⟨hcs, _⟩ | ⟨x, l, cp, zs, hcs, _, hl, hm, hz, _, hcell, hwz⟩
    · simp [Value.cells] at hcs
      obtain ⟨rfl, rfl, rfl⟩ := hcs
      exact ⟨.v (.slice none 0 0), ⟨rfl, [], by simp, lent_nil⟩, by simp only [rel]; exact hv0⟩
    · simp [Value.cells] at hcs
      obtain ⟨rfl, rfl, rfl⟩ := hcs
      obtain ⟨l, hl2, h | h⟩ := rowAV (c := c) rfl (fun r hr => ⟨hr, by simp⟩) hv0 hs0 (by simpa using hz) (fun y hy => by cases hy; exact hcell) hwz
      · exact ⟨.v (.slice none 0 0), ⟨rfl, [], by simp, lent_nil⟩, h.2.2⟩
      · have hl' : l.length ≤ 140737488351232 := by omega
        exact ⟨_, ⟨by simp [treeA], l, hl', lent_ev false l hl'⟩, h⟩
  obtain ⟨A, hAt, hAr⟩ := row v0 d0 p0 (hval 0 22 v0 rfl rfl) h0 fun a len cap h => size_ints hsz (j := 0) (t := 22) rfl rfl Tryd.underlying22 Tryd.underlying5 (by kernel_rfl) (by kernel_rfl) h
  obtain ⟨B, hBt, hBr⟩ := row v1 d1 p1 (hval 1 22 v1 rfl rfl) h1 fun a len cap h => size_ints hsz (j := 1) (t := 22) rfl rfl Tryd.underlying22 Tryd.underlying5 (by kernel_rfl) (by kernel_rfl) h
  have lt0 : ∀ x ∈ p0, x.block < W.heap.size := by obtain ⟨m, hm⟩ := h0; exact DataW.trod_lt m _ _ _ hm
  have lt1 : ∀ x ∈ p1, x.block < W.heap.size := by obtain ⟨m, hm⟩ := h1; exact DataW.trod_lt m _ _ _ hm
  clear hA0 hsz
  have hcalls : Calls Tryd.prog 9 #[v0, v1] W fun e w' => ∃ u, e = .returned u ∧ rel (.v (.bool true)) (cx0 Tryd.prog (fun _ => False) (fun _ => False) w') u ∧ Below W.heap.size W w' := by
    refine calls_of_ev (lexOwn_ev (gam_gl m te pe) (gam_glw m te pe) hAt hBt) hm hpe ?_
    simp only [relL]
    exact ⟨_, _, rfl, hAr, _, _, rfl, hBr, rfl⟩
  refine hcalls.mono fun e W' ⟨u, he, hu, bel⟩ => ?_
  simp only [rel] at hu
  subst he
  subst hu
  exact ⟨_, rfl, _, _, _, [], _, [], hW', trodAll_mk1 (shut_bool Tryd.underlying4 _), (trodAll_cons_mk (Below.trod laidOut (by kernel_rfl) (of_decide_eq_true (by kernel_rfl)) h0 bel lt0) (trodAll_cons_mk (Below.trod laidOut (by kernel_rfl) (of_decide_eq_true (by kernel_rfl)) h1 bel lt1) trodAll_mk0)), rfl, bel.frame _, fun h => by cases h⟩
theorem witness_row (os : Os) {H : Type} (enc : TypeId × Value → H) : (OpenSpec.ofChange Rows.lexOwnSpec).preRow enc Tryd.prog Tryd.f9 Rows.lexOwnRow.domain false Rows.lexOwnRow.laid ((laidWorld os).forCall (fun _ _ => 0) ⟨#[], #[.slice none 0 0, .slice none 0 0], []⟩).memory #[.slice none 0 0, .slice none 0 0] := by
  have hw : ((DataW.whole enc Tryd.prog ((laidWorld os).forCall (fun _ _ => 0) ⟨#[], #[.slice none 0 0, .slice none 0 0], []⟩).memory Tryd.f9.params.toList Rows.lexOwnSpec.vars false #[Value.slice none 0 0, .slice none 0 0].toList 8).map (fun x => (x.1, x.2.1))).isSome = true := by kernel_rfl
  obtain ⟨x, hx⟩ := Option.isSome_iff_exists.1 hw
  obtain ⟨⟨x1, x2, x3⟩, hx', hx1⟩ := Option.map_eq_some_iff.1 hx
  exact OpenSpec.preRow_of_cond 8 hx' (by kernel_rfl) (fun k hk => by cases hk) (by kernel_rfl) (laid_met os _)
set_option maxRecDepth 100000 in
theorem lifted (os : Os) (started : os.Started) (H : Type) (enc : TypeId × Value → H) (F : Stop.Interp) :
    ReturnsInHanded {} Tryd.checked os 9 .any ((OpenSpec.ofChange Rows.lexOwnSpec).preRow enc Tryd.prog Tryd.f9 Rows.lexOwnRow.domain false Rows.lexOwnRow.laid) (((OpenSpec.ofChange Rows.lexOwnSpec).at F).post enc Tryd.prog Tryd.f9 false true false false) := by
  refine returnsInHanded_of_row (C := Tryd.checked) (s := OpenSpec.ofChange Rows.lexOwnSpec) own started (by kernel_rfl) Tryd.func9
    (witness_row_atRef (enc := enc) (C := Tryd.checked) false (laidWorld os) #[.slice none 0 0, .slice none 0 0] rfl (by kernel_rfl) (by kernel_rfl) (by kernel_rfl) (witness_row os enc)) ?_
  intro W base args ds gs before hval hW _ _ hsz hL hS _
  exact contract H enc W base args ds gs before hval hW hsz hL hS
theorem said : Rows.LexOwnSaid :=
  OpenClaim.holds_of_cond 9 Tryd.f9 rfl rfl rfl rfl rfl rfl rfl ⟨rfl, rfl, rfl, rfl, rfl⟩ rfl rfl rfl rfl rfl (by kernel_rfl) Tryd.func9 (by kernel_rfl)
    (of_decide_eq_true (by kernel_rfl)) (by unfold Func.isWrapper; first | (rw [if_pos (by decide +kernel)]; kernel_rfl) | (rw [if_neg (by decide +kernel)]; exact ⟨rfl, rfl⟩))
    (fun os started H enc _ F => by rw [OpenClaim.pre_eq_preRow]; exact lifted os started H enc F)
/-- No parameter wants a stand-in; the program's own looks are off: what the card asks. -/
theorem plain (f : FuncId) (fn : Func) (hf : Tryd.pinned.checked.prog.funcNamed "chordmail/chordmaillaw01.LexOwn" = some f) (hfn : Tryd.pinned.checked.prog.funcs[f]? = some fn) :
    true = Tryd.pinned.checked.prog.looks [] ∧ ∀ (j : Nat) t, fn.params[j]? = some t → Tryd.pinned.checked.prog.wantsStandIn t = false := by
  obtain rfl : f = 9 := Option.some.inj ((show Tryd.prog.funcNamed "chordmail/chordmaillaw01.LexOwn" = some 9 by kernel_rfl).symm.trans hf) |>.symm
  obtain rfl : fn = Tryd.f9 := (Option.some.inj (Tryd.func9.symm.trans hfn)).symm
  refine ⟨by kernel_rfl, fun j t ht => ?_⟩
  rw [Tryd.params9] at ht
  have hm : t = 22 := by simpa using Array.mem_of_getElem? ht
  subst hm
  exact (show Tryd.prog.wantsStandIn 22 = false by kernel_rfl)
end lexOwn
theorem lexOwn_holds : Rows.LexOwnCardSaid :=
  Claim7.holds_tied_plain_at .later [] _ _ _ _ lexOwn.said (fun _ h => by cases h) (by kernel_rfl) (fun _ h => by cases h) lexOwn_row_tie rfl ⟨rfl, rfl⟩ (by kernel_rfl) rfl lexOwn.plain (by kernel_rfl)
#print axioms lexOwn_holds
end Go.Proofs.YtplnhipgifcafaaDoor
