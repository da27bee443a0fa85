/- Regions that draw their order: what is told in the text's order holds in every order that the edges leave. -/
import Derived.Test.YtpabcaldbphjmaaEvO
namespace Go.Ev
set_option linter.all false
open Go Go.RowKit
set_option linter.unusedVariables false
set_option linter.unusedSimpArgs false

/-- What an operation does hangs on its operands, and on the own blocks if it reads them. -/
def Frame (P : Program) (o : Oper) (K : St → Prop) (st : St) : Prop :=
  ∃ r h', K (pt ⟨st.s, h'⟩ o.dst r) ∧ (wrO P o.op = false → h' = st.h) ∧ ∀ st2 : St, (∀ x ∈ o.op.operands.toList, get st2.s x = get st.s x) → (rdO P o.op = true → st2.h = st.h) →
    ∀ K2 : St → Prop, K2 (pt ⟨st2.s, if wrO P o.op = true then h' else st2.h⟩ o.dst r) → kop P o K2 st2

section
variable {P : Program} {o : Oper} {K : St → Prop} {st : St}
theorem frV (F : (Operand → AV) → List ABlk → Option AV) (he : ∀ s K, kop P o K s = StepK (retV s o.dst (F (get s.s) s.h)) K)
    (hc : ∀ g g' h, (∀ x ∈ o.op.operands.toList, g' x = g x) → F g' h = F g h) (hf : rdO P o.op = false → ∀ g h h', F g h = F g h') (hw : wrO P o.op = false) (h : kop P o K st) : Frame P o K st := by
  rw [he] at h
  cases e : F (get st.s) st.h with
  | none => rw [e] at h; exact h.elim
  | some r =>
    rw [e, StepK_retV] at h
    refine ⟨r, st.h, h, fun _ => rfl, fun st2 h1 h2 K2 hk => ?_⟩
    have e2 : F (get st2.s) st2.h = some r := by
      rw [hc (get st.s) (get st2.s) st2.h h1]
      cases hr : rdO P o.op with
      | true => rw [h2 hr]; exact e
      | false => rw [hf hr _ _ st.h]; exact e
    rw [he, e2, StepK_retV]
    simpa [hw] using hk
theorem frP (F : (Operand → AV) → List ABlk → SV) (he : ∀ s K, kop P o K s = StepK (retP s o.dst (F (get s.s) s.h)) K)
    (hc : ∀ g g' h, (∀ x ∈ o.op.operands.toList, g' x = g x) → F g' h = F g h) (hf : rdO P o.op = false → ∀ g h h', F g h = F g h') (hw : wrO P o.op = false) (h : kop P o K st) : Frame P o K st := by
  rw [he] at h
  cases e : F (get st.s) st.h with
  | none => rw [e] at h; exact h.elim
  | some q =>
    obtain ⟨p, r⟩ := q
    rw [e, StepK_retP] at h
    refine ⟨r, st.h, h.2, fun _ => rfl, fun st2 h1 h2 K2 hk => ?_⟩
    have e2 : F (get st2.s) st2.h = some (p, r) := by
      rw [hc (get st.s) (get st2.s) st2.h h1]
      cases hr : rdO P o.op with
      | true => rw [h2 hr]; exact e
      | false => rw [hf hr _ _ st.h]; exact e
    rw [he, e2, StepK_retP]
    exact ⟨h.1, by simpa [hw] using hk⟩
theorem frH (F : (Operand → AV) → List ABlk → Option (Prop × AV × List ABlk)) (he : ∀ s K, kop P o K s = StepK (retH s o.dst (F (get s.s) s.h)) K)
    (hc : ∀ g g' h, (∀ x ∈ o.op.operands.toList, g' x = g x) → F g' h = F g h) (hr : rdO P o.op = true) (hw : wrO P o.op = true) (h : kop P o K st) : Frame P o K st := by
  rw [he] at h
  cases e : F (get st.s) st.h with
  | none => rw [e] at h; exact h.elim
  | some q =>
    obtain ⟨p, r, h'⟩ := q
    rw [e, StepK_retH] at h
    refine ⟨r, h', h.2, fun hw' => (by rw [hw] at hw'; cases hw'), fun st2 h1 h2 K2 hk => ?_⟩
    have e2 : F (get st2.s) st2.h = some (p, r, h') := by rw [hc (get st.s) (get st2.s) st2.h h1, h2 hr]; exact e
    rw [he, e2, StepK_retH]
    exact ⟨h.1, by simpa [hw] using hk⟩
end
theorem kop_frame {P : Program} {o : Oper} {K : St → Prop} {st : St} (h : kop P o K st) : Frame P o K st := by
  obtain ⟨d, op, t, pos, af, g⟩ := o
  cases op with
  | move x => exact frV (fun g _ => some (g x)) (fun s K => by rw [s_move, StepK_retV]) (fun g g' h e => by rw [e x (by simp [Op.operands])]) (fun _ _ _ _ => rfl) rfl h
  | assign x => exact frV (fun g _ => some (g x)) (fun s K => by rw [s_assign, StepK_retV]) (fun g g' h e => by rw [e x (by simp [Op.operands])]) (fun _ _ _ _ => rfl) rfl h
  | load u x => exact frV (fun g h => loadS P u h (g x)) (fun s K => rfl) (fun g g' h e => by rw [e x (by simp [Op.operands])]) (fun e => by simp [rdO] at e) rfl h
  | fieldAddr u x f => exact frV (fun g h => fieldAddrS P u f h (g x)) (fun s K => rfl) (fun g g' h e => by rw [e x (by simp [Op.operands])]) (fun e => by simp [rdO] at e) rfl h
  | field u x f => exact frV (fun g h => fieldS P u f (g x)) (fun s K => rfl) (fun g g' h e => by rw [e x (by simp [Op.operands])]) (fun _ _ _ _ => rfl) rfl h
  | extract x i => exact frV (fun g h => extractS i (g x)) (fun s K => rfl) (fun g g' h e => by rw [e x (by simp [Op.operands])]) (fun _ _ _ _ => rfl) rfl h
  | build u ps => exact frV (fun g h => buildS P u (ps.toList.map fun (i, x) => (i, g x))) (fun s K => rfl) (fun g g' h e => by
      congr 1
      apply List.map_congr_left
      intro q hq
      show ((q.1, g' q.2) : Nat × AV) = (q.1, g q.2)
      rw [e q.2 (by simp [Op.operands]; exact ⟨q.1, by simpa using hq⟩)]) (fun _ _ _ _ => rfl) rfl h
  | binOp op u x y v => exact frP (fun g h => binS P op u (isConst x || isConst y) (g x) (g y)) (fun s K => rfl) (fun g g' h e => by rw [e x (by simp [Op.operands]), e y (by simp [Op.operands])]) (fun _ _ _ _ => rfl) rfl h
  | unOp op u x => exact frP (fun g h => unS op (g x)) (fun s K => rfl) (fun g g' h e => by rw [e x (by simp [Op.operands])]) (fun _ _ _ _ => rfl) rfl h
  | index u x y => exact frP (fun g h => indexS P u (g x) (g y)) (fun s K => rfl) (fun g g' h e => by rw [e x (by simp [Op.operands]), e y (by simp [Op.operands])]) (fun _ _ _ _ => rfl) rfl h
  | indexAddr u x y => exact frP (fun g h => indexAddrS P u h (g x) (g y)) (fun s K => rfl) (fun g g' h e => by rw [e x (by simp [Op.operands]), e y (by simp [Op.operands])]) (fun e => by simp [rdO] at e) rfl h
  | slice u x lo hi mx =>
    cases mx with
    | some m => simp only [kop, stepS, StepK] at h
    | none => exact frP (fun g h => sliceS P u h (lo.map g) (hi.map g) (g x)) (fun s K => rfl) (fun g g' h e => by
        have e1 : lo.map g' = lo.map g := by
          cases lo with
          | none => rfl
          | some y => simp only [Option.map_some]; rw [e y (by simp [Op.operands])]
        have e2 : hi.map g' = hi.map g := by
          cases hi with
          | none => rfl
          | some y => simp only [Option.map_some]; rw [e y (by simp [Op.operands])]
        rw [e1, e2, e x (by simp [Op.operands])]) (fun e => by simp [rdO] at e) rfl h
  | makeInterface u x => exact frV (fun g h => if ifcT P u = some false then some (.ifc u (g x)) else none) (fun s K => by
      rw [s_makeIf]; split <;> rfl) (fun g g' h e => by rw [e x (by simp [Op.operands])]) (fun _ _ _ _ => rfl) rfl h
  | alloc u => exact frH (fun g h => (zeroT P u).bind fun z => some (True, .ptr h.length 0 0, h ++ [⟨0, u, zeroCells z⟩])) (fun s K => by
      rw [s_alloc]; cases zeroT P u <;> rfl) (fun _ _ _ _ => rfl) rfl rfl h
  | box u x => exact frH (fun g h => (flat (g x)).bind fun cs => some (True, .ptr h.length 0 0, h ++ [⟨0, u, cs⟩])) (fun s K => by
      rw [s_box]; cases flat (get s.s x) <;> rfl) (fun g g' h e => by rw [e x (by simp [Op.operands])]) rfl rfl h
  | buildSlice u n ps => exact frH (fun g h => (buildSliceS P u n (ps.toList.map fun (i, x) => (i, g x)) h).map fun (r, h) => (True, r, h)) (fun s K => rfl) (fun g g' h e => by
      congr 2
      apply List.map_congr_left
      intro q hq
      show ((q.1, g' q.2) : Nat × AV) = (q.1, g q.2)
      rw [e q.2 (by simp [Op.operands]; exact ⟨q.1, by simpa using hq⟩)]) rfl rfl h
  | makeSlice u x y => exact frH (fun g h => makeSliceS P u h (g x) (g y)) (fun s K => rfl) (fun g g' h e => by rw [e x (by simp [Op.operands]), e y (by simp [Op.operands])]) rfl rfl h
  | store u x y => exact frH (fun g h => (storeS P u h (g x) (g y)).map fun h => (True, .bad, h)) (fun s K => by
      rw [s_store]; cases storeS P u s.h (get s.s x) (get s.s y) <;> rfl) (fun g g' h e => by rw [e x (by simp [Op.operands]), e y (by simp [Op.operands])]) rfl rfl h
  | nilCheck x =>
    refine frV (fun g h => match g x with
      | .ptr i ver off => (blkS h i ver).map fun _ => .ptr i ver off
      | .ela b cs => some (.ela b cs)
      | _ => none) (fun s K => ?_) (fun g g' h e => ?_) (fun e => ?_) rfl h
    · rw [s_nilCheck]
      cases hq : get s.s x <;> simp only [nilChk, hq] <;> try rfl
      cases blkS s.h _ _ <;> rfl
    · simp only [e x (by simp [Op.operands])]
    · simp [rdO] at e
  | pick c x y =>
    rw [s_pick] at h
    unfold PickK at h
    split at h
    · rename_i z hz
      refine ⟨if z = true then get st.s x else get st.s y, st.h, ?_, fun _ => rfl, fun st2 h1 h2 K2 hk => ?_⟩
      · cases z
        · exact h.2 rfl
        · exact h.1 rfl
      · rw [s_pick, h1 c (by simp [Op.operands]), h1 x (by simp [Op.operands]), h1 y (by simp [Op.operands]), hz]
        refine PickK.intro (fun e => ?_) (fun e => ?_) <;> subst e <;> exact hk
    · exact h.elim
  | convert a b x =>
    cases hb : (intT P b).isSome with
    | false => exact frH (fun g h => convertS P a b h (g x)) (fun s K => rfl) (fun g g' h e => by rw [e x (by simp [Op.operands])]) (by simp [rdO, hb]) (by simp [wrO, hb]) h
    | true =>
      obtain ⟨k, hk⟩ := Option.isSome_iff_exists.1 hb
      have hs : strT P b = false := by
        unfold intT at hk; unfold strT
        cases hu : P.underlying b with
        | none => rfl
        | some u => rw [hu] at hk; cases u <;> simp at hk ⊢
      have he : elemT P b = none := by
        unfold intT at hk; unfold elemT
        cases hu : P.underlying b with
        | none => rfl
        | some u => rw [hu] at hk; cases u <;> simp at hk ⊢
      refine frP (fun g _ => match g x with
        | .v (.int _ n) => if (P.underlying a).isSome = true then some (True, .v (.int k (k.wrap n))) else none
        | _ => none) (fun s K => ?_) (fun g g' h e => by simp only [e x (by simp [Op.operands])]) (fun _ _ _ _ => rfl) (by simp [wrO, hb]) h
      rw [s_convert]
      unfold convertS
      split <;> rename_i e <;> simp [e, hk, hs, he]
      · split <;> rfl
      all_goals rfl
  | call c =>
    obtain ⟨callee, xs, ts⟩ := c
    cases callee with
    | builtin b =>
      cases b with
      | len =>
        obtain ⟨l⟩ := xs
        cases l with
        | nil => simp only [kop, stepS, builtinS, StepK] at h
        | cons x l =>
          exact frV (fun g h => (ts[0]?).bind fun t => lenS P t h (g x)) (fun s K => by
            simp only [kop, stepS, builtinS]; cases ts[0]? <;> rfl) (fun g g' h e => by rw [e x (by simp [Op.operands, Call.operands])]) (fun e => by simp [rdO] at e) rfl h
      | append =>
        obtain ⟨l⟩ := xs
        match l with
        | [] | [_] | _ :: _ :: _ :: _ => simp only [kop, stepS, builtinS, StepK] at h
        | [x, y] => exact frH (fun g h => appendS P ts h (g x) (g y)) (fun s K => rfl) (fun g g' h e => by rw [e x (by simp [Op.operands, Call.operands]), e y (by simp [Op.operands, Call.operands])]) rfl rfl h
      | _ => simp only [kop, stepS, builtinS, StepK] at h
    | invoke r m => simp only [kop, stepS, builtinS, StepK] at h
    | value f =>
      cases f with
      | func f =>
        rw [s_callF] at h
        obtain ⟨h1, ys, r, h2, h3, h4⟩ := h
        refine ⟨r, st.h, h4, fun _ => rfl, fun st2 g1 g2 K2 hk => ?_⟩
        have e : xs.toList.map (get st2.s) = xs.toList.map (get st.s) := List.map_congr_left fun x hx => g1 x (by simp [Op.operands, Call.operands]; exact .inr (by simpa using hx))
        have e2 := g2 rfl
        rw [s_callF, e]
        refine ⟨h1, ys, r, ?_, h3, hk⟩
        rw [e2]; exact h2
      | _ => simp only [kop, stepS, builtinS, StepK] at h
  | _ => simp only [kop, stepS, StepK] at h
end Go.Ev
