/- A part of the proof. -/
import Derived.Test.YtplnhipgifcafaaDoorX1
import Derived.LoopNIn
/- A call carried out on the caller's own blocks: what it makes stays the caller's, and it may write what it was lent. -/
namespace Go.Ev
set_option linter.all false
open Go Go.RowKit
def inlQ (P : Program) (rs : List ResultVar) (r : AV) (h' : List ABlk) : Post
  | .normal, s => resS P rs s fun xs => s.h = h' ∧ oneOrTup xs = r
  | .ret, s => resS P rs s fun xs => s.h = h' ∧ oneOrTup xs = r
  | _, _ => False
theorem inlQ_normal (P : Program) (rs : List ResultVar) (r : AV) (h' : List ABlk) (s : St) : inlQ P rs r h' .normal s = resS P rs s fun xs => s.h = h' ∧ oneOrTup xs = r := rfl
theorem inlQ_ret (P : Program) (rs : List ResultVar) (r : AV) (h' : List ABlk) (s : St) : inlQ P rs r h' .ret s = resS P rs s fun xs => s.h = h' ∧ oneOrTup xs = r := rfl
theorem look_args {c : Cx} : ∀ (t : Nat) (xs : List AV) (us : List Value) (i : Nat), relL xs c us → look (idxL i xs) (i + t) = .bad ∨ ∃ u, us[t]? = some u ∧ rel (look (idxL i xs) (i + t)) c u
  | 0, xs, us, i, h => by
    cases xs with
    | nil => exact .inl rfl
    | cons x xs =>
      simp only [relL] at h
      obtain ⟨u, us', rfl, h2, _⟩ := h
      exact .inr ⟨u, rfl, by simpa [idxL, look] using h2⟩
  | t + 1, xs, us, i, h => by
    cases xs with
    | nil => exact .inl rfl
    | cons x xs =>
      simp only [relL] at h
      obtain ⟨u, us', rfl, _, h3⟩ := h
      have := look_args t xs us' (i + 1) h3
      rw [show i + (t + 1) = i + 1 + t by omega]
      simp only [idxL, look]
      rw [if_neg (by omega)]
      simpa using this
theorem rel_oneOrTup {c : Cx} {xs : List AV} {us : List Value} (h2 : relL xs c us) : rel (oneOrTup xs) c (if h : us.toArray.size = 1 then us.toArray[0] else .tuple us.toArray) := by
  have hlen := relL_length h2
  match xs, us, h2, hlen with
  | [x], [u], h2, _ =>
    simp only [relL] at h2
    obtain ⟨u', us', e, hr, _⟩ := h2
    cases e
    exact hr
  | [], [], h2, _ =>
    simp only [oneOrTup, rel]
    exact ⟨#[], rfl, h2⟩
  | x :: y :: xs, u :: v :: us, h2, _ =>
    simp only [oneOrTup, rel]
    refine ⟨(u :: v :: us).toArray, ?_, h2⟩
    rw [dif_neg (by simp)]
  | [], _ :: _, _, hl => simp at hl
  | _ :: _, [], _, hl => simp at hl
  | [_], _ :: _ :: _, _, hl => simp at hl
  | _ :: _ :: _, [_], _, hl => simp at hl
/-- The frame of a call on the caller's blocks. -/
def Fix.inl (X : Fix) (φ : List Nat) (h : List ABlk) (w : World) : Fix := X.with X.K [] (some (cx X φ h w))
theorem inline_calls {X : Fix} {φ : List Nat} {st : St} {a : Act} {w : World} (hs : SR X φ st a w) {f : FuncId} {fn : Func} {c : Code} (hf : X.P.funcs[f]? = some fn) (hb : fn.body = some c)
    {args : List AV} {vs : Array Value} (hargs : relL args (cx X φ st.h w) vs.toList) {r : AV} {h' : List ABlk}
    (hc : ∀ a0 : Act, SR (X.inl φ st.h w) φ ⟨⟨args.length + (fn.ntmps - args.length), idxL 0 args, st.s.g⟩, st.h⟩ a0 w → c.wpIn (Fr none) 0 X.P (Qx (X.inl φ st.h w) (inlQ X.P fn.results.toList r h')) a0 w) :
    Calls X.P f vs w fun e w' => ∃ u φ', e = .returned u ∧ rel r (cx X φ' h' w') u ∧ SR X φ' ⟨st.s, h'⟩ a w' := by
  have hl : vs.size = args.length := by have := relL_length hargs; simpa using this
  have h0 : SR (X.inl φ st.h w) φ ⟨⟨args.length + (fn.ntmps - args.length), idxL 0 args, st.s.g⟩, st.h⟩ { tmps := vs ++ Array.replicate (fn.ntmps - vs.size) undef, defers := [] } w := by
    refine hs.move (Below.refl _ _) (fun r _ => .inl rfl) rfl (by simp [hl]) hs.gl_le (fun c' hle t => ?_) hs.kp hs.kd (fun c c' h h3 => by cases h; exact h3)
    have := look_args t args vs.toList 0 (relL_mono hle _ _ hargs)
    simp only [Nat.zero_add] at this
    rcases this with h | ⟨u, hu, h⟩
    · rw [h]; simp only [rel]
    · have hu' : vs[t]? = some u := by simpa using hu
      have hlt := (Array.getElem?_eq_some_iff.1 hu').1
      simpa [Array.getElem?_append_left hlt, hu'] using h
  refine callsIn_wide.1 (callsIn_of_wp (F := Fence.wide) (n := 0) hf hb trivial (wpIn_mono (hc _ h0) fun e a' w' hq => ?_))
  obtain ⟨φ', st', hs', hq⟩ := hq
  have fin : (resS X.P fn.results.toList st' fun xs => st'.h = h' ∧ oneOrTup xs = r) → a'.defers = [] ∧ ∃ v, (results fn a'.tmps).run X.P w' = .ok v w' ∧ ∃ u φ', Ending.returned v = .returned u ∧ rel r (cx X φ' h' w') u ∧ SR X φ' ⟨st.s, h'⟩ a w' := by
    intro hr
    obtain ⟨xs, us, h1, h2, h3, h4⟩ := resA_run (X := X.inl φ st.h w) hs' fn.results.toList (resS_resA _ hr)
    subst h3
    refine ⟨hs'.defers, if h : us.toArray.size = 1 then us.toArray[0] else .tuple us.toArray, ?_, _, φ', rfl, ?_, ?_⟩
    · unfold results
      rw [Sem.run_bind]
      have e : (fn.results.mapM fun | .tmp t => pure (a'.tmps.getD t undef) | .cell p t => do loadVar t (← asAddr (a'.tmps.getD p undef)) : Sem (Array Value)).run X.P w' = .ok us.toArray w' := by
        have h1 := (show (fn.results.toList.mapM fun | .tmp t => pure (a'.tmps.getD t undef) | .cell p t => do loadVar t (← asAddr (a'.tmps.getD p undef)) : Sem (List Value)).run X.P w' = .ok us w' from h1)
        rw [Array.mapM_eq_mapM_toList, Sem.run_map, h1]
        rfl
      exact (congrArg (fun r => Result.andThen r _) e).trans rfl
    · rw [← h4]; exact rel_oneOrTup h2
    · have hle := hs'.le0 (cx X φ st.h w) rfl
      exact hs'.move (K := X.K) (df := X.df) (c0 := X.c0) (Below.refl _ _) (fun r _ => .inl rfl) hs.defers hs.len (fun c' h k => hs.gl_le c' (hle.trans_le h) k) (fun c' h t => hs.slots_le c' (hle.trans_le h) t) hs'.kp hs'.kd
        (fun c c' h h3 => (hs.le0 c h).trans_le (hle.trans_le h3))
  cases e with
  | normal => exact fin hq
  | ret => exact fin hq
  | _ => exact hq.elim
/-- .. of plain code. -/
theorem inline_plain {X : Fix} {φ : List Nat} {st : St} {a : Act} {w : World} (hs : SR X φ st a w) {f : FuncId} {fn : Func} {c : Code} (hf : X.P.funcs[f]? = some fn) (hb : fn.body = some c) (hp : plainC c = true)
    {args : List AV} {vs : Array Value} (hargs : relL args (cx X φ st.h w) vs.toList) {r : AV} {h' : List ABlk}
    (hk : kwp X.P c (inlQ X.P fn.results.toList r h') ⟨⟨args.length + (fn.ntmps - args.length), idxL 0 args, st.s.g⟩, st.h⟩) :
    Calls X.P f vs w fun e w' => ∃ u φ', e = .returned u ∧ rel r (cx X φ' h' w') u ∧ SR X φ' ⟨st.s, h'⟩ a w' :=
  inline_calls hs hf hb hargs fun a0 h0 => kwp_soundIn (X := X.inl φ st.h w) c _ hp h0 hk
/-- Less is known of the slots; the blocks are the same. -/
def slotW (s S : St) : Prop := S.s.n = s.s.n ∧ S.s.g = s.s.g ∧ allIn s.s.l S.s.l ∧ S.h = s.h
theorem SR.slotW {X : Fix} {φ : List Nat} {st S : St} {a : Act} {w : World} (hs : SR X φ st a w) (h : slotW st S) : SR X φ S a w := by
  obtain ⟨hn, hg, hl, hh⟩ := h
  obtain ⟨⟨n2, l2, g2⟩, sh⟩ := S
  simp only at hn hg hl hh
  subst hn
  subst hg
  subst hh
  refine { hs with slots := fun t => ?_ }
  rcases look_mem (l := l2) (t := t) with h | h
  · simp only [h, rel]
  · have := (allIn_mem hl _ _ h).symm
    simp only [this]; exact hs.slots t
def slotQ (S : St) : Post
  | .normal, s => Go.Ev.slotW s S
  | _, _ => False
theorem slotQ_normal (S s : St) : slotQ S .normal s = Go.Ev.slotW s S := rfl
/-- How a round of a loop ends: at a later state, or out of it. -/
def stepQ (mk : Nat → St) (N j : Nat) (Q : Post) : Post
  | .normal, s => ∃ j', j < j' ∧ j' ≤ N ∧ Go.Ev.slotW s (mk j')
  | e, s => Q e s
theorem stepQ_normal (mk : Nat → St) (N j : Nat) (Q : Post) (s : St) : stepQ mk N j Q .normal s = ∃ j', j < j' ∧ j' ≤ N ∧ Go.Ev.slotW s (mk j') := rfl
theorem stepQ_exit (mk : Nat → St) (N j : Nat) (Q : Post) (i : Nat) (s : St) : stepQ mk N j Q (.exit i) s = Q (.exit i) s := rfl
theorem stepQ_ret (mk : Nat → St) (N j : Nat) (Q : Post) (s : St) : stepQ mk N j Q .ret s = Q .ret s := rfl
/-- A loop of plain code, its blocks kept: in a frame of a call on the caller's blocks. -/
theorem loop_kept {X : Fix} {n : Nat} {c : Code} (hp : plainC c = true) (mk : Nat → St) (N : Nat) (Q : Post) (hround : ∀ j, j ≤ N → kwp X.P c (stepQ mk N j Q) (mk j)) {j : Nat} (hj : j ≤ N) {φ : List Nat} {a : Act} {w : World} (hs : SR X φ (mk j) a w) :
    (Code.loop c).wpIn (Fr none) n X.P (Qx X Q) a w := by
  refine wpIn_loop_rounds (N + 1) ?_
  have key : ∀ (m j : Nat) (φ : List Nat) (a : Act) (w : World), j ≤ N → N < m + j → SR X φ (mk j) a w → Code.roundsIn (Fr none) n X.P c (Qx X Q) m a w := by
    intro m
    induction m with
    | zero => intro j φ a w h1 h2 _; omega
    | succ m ih =>
      intro j φ a w h1 h2 hs
      rw [roundsIn_succ]
      refine wpIn_mono (kwp_soundIn c _ hp hs (hround j h1)) ?_
      rintro e a' w' ⟨φ', s', hs', hq⟩
      cases e with
      | normal =>
        obtain ⟨j', g1, g2, g3⟩ := hq
        exact ih j' φ' a' w' g2 (by omega) (hs'.slotW g3)
      | exit i => exact ⟨φ', s', hs', hq⟩
      | goto l => exact ⟨φ', s', hs', hq⟩
      | ret => exact ⟨φ', s', hs', hq⟩
      | panic ch => exact ⟨φ', s', hs', hq⟩
      | outgrown => exact ⟨φ', s', hs', hq⟩
  exact key (N + 1) j φ a w hj (by omega) hs
/-- A piece of plain code, its blocks kept. -/
theorem pieceKept {X : Fix} {φ : List Nat} {st : St} {a : Act} {w : World} {r : Option Nat} {n : Nat} {c : Code} (S : St) {N : Act → World → Prop} {Q : Exit → Act → World → Prop} (hp : plainC c = true) (hs : SR X φ st a w) (hk : kwp X.P c (slotQ S) st)
    (hnext : ∀ φ' a' w', SR X φ' S a' w' → N a' w') : c.wpIn (Fr r) n X.P (Exit.then N Q) a w := by
  refine wpIn_mono (kwp_soundIn (r := r) c _ hp hs hk) ?_
  rintro e a' w' ⟨φ', s', hs', hq⟩
  cases e with
  | normal => exact hnext _ _ _ (hs'.slotW hq)
  | _ => exact hq.elim
theorem inline_callsP {P : Program} {X : Fix} (hP : X.P = P) {φ : List Nat} {st : St} {a : Act} {w : World} (hs : SR X φ st a w) {f : FuncId} {fn : Func} {c : Code} (hf : P.funcs[f]? = some fn) (hb : fn.body = some c)
    {args : List AV} {vs : Array Value} (hargs : relL args (cx X φ st.h w) vs.toList) {r : AV} {h' : List ABlk}
    (hc : ∀ (Y : Fix) (a0 : Act), Y.P = P → SR Y φ ⟨⟨args.length + (fn.ntmps - args.length), idxL 0 args, st.s.g⟩, st.h⟩ a0 w → c.wpIn (Fr none) 0 P (Qx Y (inlQ P fn.results.toList r h')) a0 w) :
    Calls P f vs w fun e w' => ∃ u φ', e = .returned u ∧ rel r (cx X φ' h' w') u ∧ SR X φ' ⟨st.s, h'⟩ a w' := by
  subst hP
  exact inline_calls hs hf hb hargs fun a0 h0 => hc _ a0 rfl h0
theorem inline_plainP {P : Program} {X : Fix} (hP : X.P = P) {φ : List Nat} {st : St} {a : Act} {w : World} (hs : SR X φ st a w) {f : FuncId} {fn : Func} {c : Code} (hf : P.funcs[f]? = some fn) (hb : fn.body = some c) (hp : plainC c = true)
    {args : List AV} {vs : Array Value} (hargs : relL args (cx X φ st.h w) vs.toList) {r : AV} {h' : List ABlk}
    (hk : kwp P c (inlQ P fn.results.toList r h') ⟨⟨args.length + (fn.ntmps - args.length), idxL 0 args, st.s.g⟩, st.h⟩) :
    Calls P f vs w fun e w' => ∃ u φ', e = .returned u ∧ rel r (cx X φ' h' w') u ∧ SR X φ' ⟨st.s, h'⟩ a w' := by
  subst hP
  exact inline_plain hs hf hb hp hargs hk
theorem loop_keptP {P : Program} {X : Fix} (hP : X.P = P) {n : Nat} {c : Code} (hp : plainC c = true) (mk : Nat → St) (N : Nat) (Q : Post) (hround : ∀ j, j ≤ N → kwp P c (stepQ mk N j Q) (mk j)) {j : Nat} (hj : j ≤ N) {φ : List Nat} {a : Act} {w : World} (hs : SR X φ (mk j) a w) :
    (Code.loop c).wpIn (Fr none) n P (Qx X Q) a w := by
  subst hP
  exact loop_kept hp mk N Q hround hj hs
theorem pieceKeptP {P : Program} {X : Fix} (hP : X.P = P) {φ : List Nat} {st : St} {a : Act} {w : World} {r : Option Nat} {n : Nat} {c : Code} (S : St) {N : Act → World → Prop} {Q : Exit → Act → World → Prop} (hp : plainC c = true) (hs : SR X φ st a w) (hk : kwp P c (slotQ S) st)
    (hnext : ∀ φ' a' w', SR X φ' S a' w' → N a' w') : c.wpIn (Fr r) n P (Exit.then N Q) a w := by
  subst hP
  exact pieceKept S hp hs hk hnext
end Go.Ev
namespace Go.Proofs.YtplnhipgifcafaaDoor
set_option linter.all false
open Go Go.Ev Go.RowKit
variable {γ : List (Nat × AV)}
theorem bne_self (a : Int) : (a != a) = false := by simp
theorem b17 : bodyT Tryd.prog 17 := ⟨_, Tryd.func17, by kernel_rfl, by kernel_rfl⟩
theorem tokens_nil : Ev Tryd.prog γ 17 [.v (.slice none 0 0), .v (.slice none 0 0)] (.v (.bool true)) := by
  refine Ev.of Tryd.func17 rfl ?_
  simp only [Tryd.f17, bne_self, evS, tyS, Bool.not_true, Bool.not_false, Nat.reduceAdd, Nat.reduceSub, Nat.reduceMul, Nat.reduceLT, Nat.reduceLeDiff, Nat.reduceEqDiff, reduceCtorEq, List.reduceReplicate, Int.reduceToNat, Int.reduceLE, Int.reduceLT]
  (repeat' (first | (with_reducible refine And.intro ?_ ?_) | ((first | refine GuardK.intro_f (fun h => ?_) (fun h => ?_) | refine GuardK.intro_t (fun h => ?_) (fun h => ?_) | refine CondK.intro (fun h => ?_) (fun h => ?_) | refine PickK.intro (fun h => ?_) (fun h => ?_)) <;> simp only [h, bne_self, evS, tyS, Bool.not_true, Bool.not_false, Nat.reduceAdd, Nat.reduceSub, Nat.reduceMul, Nat.reduceLT, Nat.reduceLeDiff, Nat.reduceEqDiff, reduceCtorEq, List.reduceReplicate, Int.reduceToNat, Int.reduceLE, Int.reduceLT]) | (refine DrawK.intro (by kernel_rfl) (by kernel_rfl) ?_; simp only [bne_self, evS, tyS, Bool.not_true, Bool.not_false, Nat.reduceAdd, Nat.reduceSub, Nat.reduceMul, Nat.reduceLT, Nat.reduceLeDiff, Nat.reduceEqDiff, reduceCtorEq, List.reduceReplicate, Int.reduceToNat, Int.reduceLE, Int.reduceLT])))
  all_goals try (((try simp only [decide_eq_true_eq, decide_eq_false_iff_not, beq_iff_eq, bne_iff_ne, ne_eq, beq_eq_false_iff_ne, bne_eq_false_iff_eq] at *) <;> (try omega)); done)
  refine LoopK.intro (fun _ : Unit => ⟨⟨29, [(0, .v (.slice none 0 0)), (1, .v (.slice none 0 0)), (5, .v (.int .i64 0))], γ⟩, []⟩) (fun _ => True) (fun _ => 0) () ?_ trivial (fun _ _ => ?_)
  · simp only [evS, tyS, Bool.not_true, Bool.not_false, Nat.reduceAdd, Nat.reduceSub, Nat.reduceMul, Nat.reduceLT, Nat.reduceLeDiff, Nat.reduceEqDiff, reduceCtorEq, List.reduceReplicate, Int.reduceToNat, Int.reduceLE, Int.reduceLT]
    (repeat' (first | (with_reducible refine And.intro ?_ ?_) | ((first | refine GuardK.intro_f (fun h => ?_) (fun h => ?_) | refine GuardK.intro_t (fun h => ?_) (fun h => ?_) | refine CondK.intro (fun h => ?_) (fun h => ?_) | refine PickK.intro (fun h => ?_) (fun h => ?_)) <;> simp only [h, evS, tyS, Bool.not_true, Bool.not_false, Nat.reduceAdd, Nat.reduceSub, Nat.reduceMul, Nat.reduceLT, Nat.reduceLeDiff, Nat.reduceEqDiff, reduceCtorEq, List.reduceReplicate, Int.reduceToNat, Int.reduceLE, Int.reduceLT]) | (refine DrawK.intro (by kernel_rfl) (by kernel_rfl) ?_; simp only [evS, tyS, Bool.not_true, Bool.not_false, Nat.reduceAdd, Nat.reduceSub, Nat.reduceMul, Nat.reduceLT, Nat.reduceLeDiff, Nat.reduceEqDiff, reduceCtorEq, List.reduceReplicate, Int.reduceToNat, Int.reduceLE, Int.reduceLT])))
    all_goals first | rfl | exact .inl rfl | trace_state
  · simp only [Int.lt_irrefl, decide_false, evS, tyS, Bool.not_true, Bool.not_false, Nat.reduceAdd, Nat.reduceSub, Nat.reduceMul, Nat.reduceLT, Nat.reduceLeDiff, Nat.reduceEqDiff, reduceCtorEq, List.reduceReplicate, Int.reduceToNat, Int.reduceLE, Int.reduceLT]
    (repeat' (first | (with_reducible refine And.intro ?_ ?_) | ((first | refine GuardK.intro_f (fun h => ?_) (fun h => ?_) | refine GuardK.intro_t (fun h => ?_) (fun h => ?_) | refine CondK.intro (fun h => ?_) (fun h => ?_) | refine PickK.intro (fun h => ?_) (fun h => ?_)) <;> simp only [h, bne_self, evS, tyS, Bool.not_true, Bool.not_false, Nat.reduceAdd, Nat.reduceSub, Nat.reduceMul, Nat.reduceLT, Nat.reduceLeDiff, Nat.reduceEqDiff, reduceCtorEq, List.reduceReplicate, Int.reduceToNat, Int.reduceLE, Int.reduceLT]) | (refine DrawK.intro (by kernel_rfl) (by kernel_rfl) ?_; simp only [bne_self, evS, tyS, Bool.not_true, Bool.not_false, Nat.reduceAdd, Nat.reduceSub, Nat.reduceMul, Nat.reduceLT, Nat.reduceLeDiff, Nat.reduceEqDiff, reduceCtorEq, List.reduceReplicate, Int.reduceToNat, Int.reduceLE, Int.reduceLT])))
    all_goals first | done | rfl | exact .inl rfl | trace_state
set_option maxHeartbeats 2000000 in
set_option maxRecDepth 20000 in
theorem tokens_cons (L : List (TokD × Nat)) (hL : L.length ≤ 32769) : Ev Tryd.prog γ 17 [.sl false L.length L.length (listCells L), .sl false L.length L.length (listCells L)] (.v (.bool true)) := by
  refine Ev.of Tryd.func17 rfl ?_
  have hlen := listCells_len L
  simp only [Tryd.f17, bne_self, evS, tyS, Bool.not_true, Bool.not_false, Nat.reduceAdd, Nat.reduceSub, Nat.reduceMul, Nat.reduceLT, Nat.reduceLeDiff, Nat.reduceEqDiff, reduceCtorEq, List.reduceReplicate, Int.reduceToNat, Int.reduceLE, Int.reduceLT]
  (repeat' (first | (with_reducible refine And.intro ?_ ?_) | ((first | refine GuardK.intro_f (fun h => ?_) (fun h => ?_) | refine GuardK.intro_t (fun h => ?_) (fun h => ?_) | refine CondK.intro (fun h => ?_) (fun h => ?_) | refine PickK.intro (fun h => ?_) (fun h => ?_)) <;> simp only [h, bne_self, evS, tyS, Bool.not_true, Bool.not_false, Nat.reduceAdd, Nat.reduceSub, Nat.reduceMul, Nat.reduceLT, Nat.reduceLeDiff, Nat.reduceEqDiff, reduceCtorEq, List.reduceReplicate, Int.reduceToNat, Int.reduceLE, Int.reduceLT]) | (refine DrawK.intro (by kernel_rfl) (by kernel_rfl) ?_; simp only [bne_self, evS, tyS, Bool.not_true, Bool.not_false, Nat.reduceAdd, Nat.reduceSub, Nat.reduceMul, Nat.reduceLT, Nat.reduceLeDiff, Nat.reduceEqDiff, reduceCtorEq, List.reduceReplicate, Int.reduceToNat, Int.reduceLE, Int.reduceLT])))
  all_goals try (((try simp only [decide_eq_true_eq, decide_eq_false_iff_not, beq_iff_eq, bne_iff_ne, ne_eq, beq_eq_false_iff_ne, bne_eq_false_iff_eq] at *) <;> (try omega)); done)
  refine LoopK.intro (fun j : Nat => ⟨⟨29, [(0, .sl false L.length L.length (listCells L)), (1, .sl false L.length L.length (listCells L)), (5, .v (.int .i64 j))], γ⟩, []⟩) (fun j => j ≤ L.length) (fun j => L.length - j) 0 ?_ (Nat.zero_le _) (fun j hj => ?_)
  · simp only [evS, tyS, Bool.not_true, Bool.not_false, Nat.reduceAdd, Nat.reduceSub, Nat.reduceMul, Nat.reduceLT, Nat.reduceLeDiff, Nat.reduceEqDiff, reduceCtorEq, List.reduceReplicate, Int.reduceToNat, Int.reduceLE, Int.reduceLT]
    (repeat' (first | (with_reducible refine And.intro ?_ ?_) | ((first | refine GuardK.intro_f (fun h => ?_) (fun h => ?_) | refine GuardK.intro_t (fun h => ?_) (fun h => ?_) | refine CondK.intro (fun h => ?_) (fun h => ?_) | refine PickK.intro (fun h => ?_) (fun h => ?_)) <;> simp only [h, evS, tyS, Bool.not_true, Bool.not_false, Nat.reduceAdd, Nat.reduceSub, Nat.reduceMul, Nat.reduceLT, Nat.reduceLeDiff, Nat.reduceEqDiff, reduceCtorEq, List.reduceReplicate, Int.reduceToNat, Int.reduceLE, Int.reduceLT]) | (refine DrawK.intro (by kernel_rfl) (by kernel_rfl) ?_; simp only [evS, tyS, Bool.not_true, Bool.not_false, Nat.reduceAdd, Nat.reduceSub, Nat.reduceMul, Nat.reduceLT, Nat.reduceLeDiff, Nat.reduceEqDiff, reduceCtorEq, List.reduceReplicate, Int.reduceToNat, Int.reduceLE, Int.reduceLT])))
    all_goals first | rfl | exact .inl rfl | trace_state
  · have ew : IntKind.i64.wrap ((j : Int) + 1) = ((j + 1 : Nat) : Int) := i64w (by omega) (by omega)
    by_cases hjl : j < L.length
    · have d1 : decide (j < L.length) = true := decide_eq_true hjl
      have hat := listCells_at L j hjl
      have hal := alike_ev (γ := γ) (L[j]'hjl).1 (L[j]'hjl).2
      generalize L[j]'hjl = x at *
      obtain ⟨t, p⟩ := x
      have hx6 : tokCells (t, p) = (tvals t p).map AV.v := rfl
      have hdl : 6 ≤ (List.drop (j * 6) (listCells L)).length := by rw [List.length_drop, hlen]; omega
      simp only [d1, hlen, hat, hx6, tvals, hdl, evS, tyS, Bool.not_true, Bool.not_false, Nat.reduceAdd, Nat.reduceSub, Nat.reduceMul, Nat.reduceLT, Nat.reduceLeDiff, Nat.reduceEqDiff, reduceCtorEq, List.reduceReplicate, Int.reduceToNat, Int.reduceLE, Int.reduceLT]
      (repeat' (first | (with_reducible refine And.intro ?_ ?_) | ((first | refine GuardK.intro_f (fun h => ?_) (fun h => ?_) | refine GuardK.intro_t (fun h => ?_) (fun h => ?_) | refine CondK.intro (fun h => ?_) (fun h => ?_) | refine PickK.intro (fun h => ?_) (fun h => ?_)) <;> simp only [h, d1, hlen, hat, hx6, tvals, hdl, evS, tyS, Bool.not_true, Bool.not_false, Nat.reduceAdd, Nat.reduceSub, Nat.reduceMul, Nat.reduceLT, Nat.reduceLeDiff, Nat.reduceEqDiff, reduceCtorEq, List.reduceReplicate, Int.reduceToNat, Int.reduceLE, Int.reduceLT]) | (refine DrawK.intro (by kernel_rfl) (by kernel_rfl) ?_; simp only [d1, hlen, hat, hx6, tvals, hdl, evS, tyS, Bool.not_true, Bool.not_false, Nat.reduceAdd, Nat.reduceSub, Nat.reduceMul, Nat.reduceLT, Nat.reduceLeDiff, Nat.reduceEqDiff, reduceCtorEq, List.reduceReplicate, Int.reduceToNat, Int.reduceLE, Int.reduceLT])))
      all_goals try (((try simp only [decide_eq_true_eq, decide_eq_false_iff_not, beq_iff_eq, bne_iff_ne, ne_eq, beq_eq_false_iff_ne, bne_eq_false_iff_eq] at *) <;> (try omega)); done)
      refine CallK.intro b32 (by simp [treeL, treeA]) hal ?_
      simp only [ew, evS, tyS, Bool.not_true, Bool.not_false, Nat.reduceAdd, Nat.reduceSub, Nat.reduceMul, Nat.reduceLT, Nat.reduceLeDiff, Nat.reduceEqDiff, reduceCtorEq, List.reduceReplicate, Int.reduceToNat, Int.reduceLE, Int.reduceLT]
      refine loopC.intro (j + 1) (by omega) ?_ (by omega)
      simp only [evS, tyS, Bool.not_true, Bool.not_false, Nat.reduceAdd, Nat.reduceSub, Nat.reduceMul, Nat.reduceLT, Nat.reduceLeDiff, Nat.reduceEqDiff, reduceCtorEq, List.reduceReplicate, Int.reduceToNat, Int.reduceLE, Int.reduceLT]
      (repeat' (first | (with_reducible refine And.intro ?_ ?_) | ((first | refine GuardK.intro_f (fun h => ?_) (fun h => ?_) | refine GuardK.intro_t (fun h => ?_) (fun h => ?_) | refine CondK.intro (fun h => ?_) (fun h => ?_) | refine PickK.intro (fun h => ?_) (fun h => ?_)) <;> simp only [h, evS, tyS, Bool.not_true, Bool.not_false, Nat.reduceAdd, Nat.reduceSub, Nat.reduceMul, Nat.reduceLT, Nat.reduceLeDiff, Nat.reduceEqDiff, reduceCtorEq, List.reduceReplicate, Int.reduceToNat, Int.reduceLE, Int.reduceLT]) | (refine DrawK.intro (by kernel_rfl) (by kernel_rfl) ?_; simp only [evS, tyS, Bool.not_true, Bool.not_false, Nat.reduceAdd, Nat.reduceSub, Nat.reduceMul, Nat.reduceLT, Nat.reduceLeDiff, Nat.reduceEqDiff, reduceCtorEq, List.reduceReplicate, Int.reduceToNat, Int.reduceLE, Int.reduceLT])))
      all_goals first | done | rfl | exact .inl rfl | trace_state
    · have d1 : decide (j < L.length) = false := decide_eq_false hjl
      simp only [d1, evS, tyS, Bool.not_true, Bool.not_false, Nat.reduceAdd, Nat.reduceSub, Nat.reduceMul, Nat.reduceLT, Nat.reduceLeDiff, Nat.reduceEqDiff, reduceCtorEq, List.reduceReplicate, Int.reduceToNat, Int.reduceLE, Int.reduceLT]
      (repeat' (first | (with_reducible refine And.intro ?_ ?_) | ((first | refine GuardK.intro_f (fun h => ?_) (fun h => ?_) | refine GuardK.intro_t (fun h => ?_) (fun h => ?_) | refine CondK.intro (fun h => ?_) (fun h => ?_) | refine PickK.intro (fun h => ?_) (fun h => ?_)) <;> simp only [h, bne_self, evS, tyS, Bool.not_true, Bool.not_false, Nat.reduceAdd, Nat.reduceSub, Nat.reduceMul, Nat.reduceLT, Nat.reduceLeDiff, Nat.reduceEqDiff, reduceCtorEq, List.reduceReplicate, Int.reduceToNat, Int.reduceLE, Int.reduceLT]) | (refine DrawK.intro (by kernel_rfl) (by kernel_rfl) ?_; simp only [bne_self, evS, tyS, Bool.not_true, Bool.not_false, Nat.reduceAdd, Nat.reduceSub, Nat.reduceMul, Nat.reduceLT, Nat.reduceLeDiff, Nat.reduceEqDiff, reduceCtorEq, List.reduceReplicate, Int.reduceToNat, Int.reduceLE, Int.reduceLT])))
      all_goals first | done | rfl | exact .inl rfl | trace_state
theorem tokens_ev (L : List (TokD × Nat)) (hL : L.length ≤ 32769) : Ev Tryd.prog γ 17 [listA L, listA L] (.v (.bool true)) := by
  cases L with
  | nil => exact tokens_nil
  | cons x T => exact tokens_cons (x :: T) hL
end Go.Proofs.YtplnhipgifcafaaDoor
namespace Go.Proofs.YtplnhipgifcafaaDoor
set_option linter.all false
open Go Go.Ev Go.RowKit
variable {γ : List (Nat × AV)}
/-- What other makes of a byte at a place. -/
def otherB (j : Nat) (b : UInt8) : UInt8 := if 32 < b.toNat ∧ b.toNat < 125 then UInt8.ofNat (b.toNat + 1 + j % 2) else b
def otherF (l : List UInt8) : List UInt8 := l.mapIdx otherB
theorem otherF_len (l : List UInt8) : (otherF l).length = l.length := by simp [otherF]
def otherC (l s : List UInt8) (j : Nat) : List UInt8 := (otherF l).take j ++ l.drop j ++ s
theorem otherC_at {l s : List UInt8} {j : Nat} (h : j < l.length) : (otherC l s j).getD j 0 = l.getD j 0 := by
  unfold otherC
  have h1 : ((otherF l).take j).length = j := by rw [List.length_take, otherF_len]; omega
  simp only [List.getD_eq_getElem?_getD, List.append_assoc]
  rw [List.getElem?_append_right (by omega), h1, Nat.sub_self, List.getElem?_append_left (by rw [List.length_drop]; omega), List.getElem?_drop, Nat.add_zero]
theorem otherC_set {l s : List UInt8} {j : Nat} (h : j < l.length) : (otherC l s j).set j (otherB j (l.getD j 0)) = otherC l s (j + 1) := by
  unfold otherC
  have h1 : ((otherF l).take j).length = j := by rw [List.length_take, otherF_len]; omega
  have h2 : l.drop j = l.getD j 0 :: l.drop (j + 1) := by
    rw [List.drop_eq_getElem_cons h]; simp [h]
  have h3 : (otherF l).take (j + 1) = (otherF l).take j ++ [otherB j (l.getD j 0)] := by
    rw [List.take_add_one]
    congr 1
    simp [otherF, h]
  rw [h3, List.append_assoc, List.append_assoc, List.set_append_right _ _ (by omega), h1, Nat.sub_self, h2]
  simp
theorem otherC_keep {l s : List UInt8} {j : Nat} (h : j < l.length) (hb : otherB j (l.getD j 0) = l.getD j 0) : otherC l s (j + 1) = otherC l s j := by
  rw [← otherC_set h, hb]
  have : (otherC l s j)[j]? = some (l.getD j 0) := by
    have := otherC_at (s := s) h
    have hlt : j < (otherC l s j).length := by
      unfold otherC; simp only [List.length_append, List.length_take, otherF_len, List.length_drop]; omega
    rw [List.getD_eq_getElem?_getD, List.getElem?_eq_getElem hlt] at this
    rw [List.getElem?_eq_getElem hlt]
    simpa using this
  apply List.ext_getElem?
  intro i
  rw [List.getElem?_set]
  split
  · rename_i hi; subst hi
    rw [this]
    split
    · rfl
    · rename_i hn
      rw [List.getElem?_eq_none (by omega)] at this; cases this
  · rfl
theorem otherC_len {l s : List UInt8} {j : Nat} (h : j ≤ l.length) : (otherC l s j).length = l.length + s.length := by
  unfold otherC; simp only [List.length_append, List.length_take, otherF_len, List.length_drop]; omega
theorem setMany_byte (l : List UInt8) (j : Nat) (x : UInt8) (n : Int) (h : n = x.toNat) : setMany (l.map byteC) j [.v (.int .u8 n)] = (l.set j x).map byteC := by
  simp only [setMany]
  rw [List.map_set]; subst h; rfl
def otherH (v : Nat) (l s : List UInt8) (H : List ABlk) (j : Nat) : List ABlk := ⟨v, 5, (otherC l s j).map byteC⟩ :: H
def otherM (γ : List (Nat × AV)) (v : Nat) (l s : List UInt8) (H : List ABlk) (j : Nat) : St := ⟨⟨33, [(0, .own 0 v l.length), (2, .v (.int .i64 j))], γ⟩, otherH v l s H j⟩
set_option maxHeartbeats 2000000 in
set_option maxRecDepth 20000 in
theorem other_inl {X : Fix} {φ : List Nat} {S : Slots} {H : List ABlk} {a : Act} {w : World} {l s : List UInt8} {v : Nat} {vs : Array Value} (hP : X.P = Tryd.prog) (hl : l.length ≤ 140737488351232) (hs : SR X φ ⟨S, ⟨v, 5, (l ++ s).map byteC⟩ :: H⟩ a w)
    (hargs : relL [.own 0 v l.length] (cx X φ (⟨v, 5, (l ++ s).map byteC⟩ :: H) w) vs.toList) :
    Calls Tryd.prog 18 vs w fun e w' => ∃ u φ', e = .returned u ∧ rel (.tup []) (cx X φ' (⟨v, 5, (otherF l ++ s).map byteC⟩ :: H) w') u ∧ SR X φ' ⟨S, ⟨v, 5, (otherF l ++ s).map byteC⟩ :: H⟩ a w' := by
  have hfull : otherC l s l.length = otherF l ++ s := by
    unfold otherC; rw [List.take_of_length_le (by rw [otherF_len]; exact Nat.le_refl _), List.drop_of_length_le (Nat.le_refl _), List.append_nil]
  have hnone : otherC l s 0 = l ++ s := by unfold otherC; simp
  have hnt : Tryd.f18.ntmps = 33 := by kernel_rfl
  refine inline_callsP hP hs Tryd.func18 rfl hargs fun Y a0 hPY h0 => ?_
  rw [hnt] at h0
  refine wpIn_seq (pieceKeptP hPY (otherM S.g v l s H 0) (by kernel_rfl) h0 ?_ fun φ1 a1 w1 h1 => ?_)
  · simp only [idxL, slotQ_normal, otherM, otherH, hnone, slotW, evS, tyS, Bool.not_true, Bool.not_false, Nat.reduceAdd, Nat.reduceSub, Nat.reduceMul, Nat.reduceLT, Nat.reduceLeDiff, Nat.reduceEqDiff, reduceCtorEq, List.reduceReplicate, Int.reduceToNat, Int.reduceLE, Int.reduceLT]
    (repeat' (first | (with_reducible refine And.intro ?_ ?_) | ((first | refine GuardK.intro_f (fun h => ?_) (fun h => ?_) | refine GuardK.intro_t (fun h => ?_) (fun h => ?_) | refine CondK.intro (fun h => ?_) (fun h => ?_) | refine PickK.intro (fun h => ?_) (fun h => ?_)) <;> simp only [h, evS, tyS, Bool.not_true, Bool.not_false, Nat.reduceAdd, Nat.reduceSub, Nat.reduceMul, Nat.reduceLT, Nat.reduceLeDiff, Nat.reduceEqDiff, reduceCtorEq, List.reduceReplicate, Int.reduceToNat, Int.reduceLE, Int.reduceLT]) | (refine DrawK.intro (by kernel_rfl) (by kernel_rfl) ?_; simp only [evS, tyS, Bool.not_true, Bool.not_false, Nat.reduceAdd, Nat.reduceSub, Nat.reduceMul, Nat.reduceLT, Nat.reduceLeDiff, Nat.reduceEqDiff, reduceCtorEq, List.reduceReplicate, Int.reduceToNat, Int.reduceLE, Int.reduceLT])))
    all_goals first | done | rfl | trace_state
  · refine wpIn_block (wpIn_mono (loop_keptP hPY (by kernel_rfl) (otherM S.g v l s H) l.length (fun e s' => e = .exit 0 ∧ s'.h = otherH v l s H l.length) (fun j hj => ?_) (Nat.zero_le _) h1) ?_)
    · by_cases hjl : j < l.length
      · have d1 : decide (j < l.length) = true := decide_eq_true hjl
        have ew : IntKind.i64.wrap ((j : Int) + 1) = ((j + 1 : Nat) : Int) := i64w (by omega) (by omega)
        have hat := otherC_at (s := s) hjl
        have hset := otherC_set (s := s) hjl
        have hkeep := otherC_keep (s := s) hjl
        have hcl := otherC_len (s := s) hj
        rw [← hat] at hset hkeep
        have hi : j + 1 ≤ (otherC l s j).length := by omega
        have hnew : ¬ (32 < ((otherC l s j).getD j 0).toNat ∧ ((otherC l s j).getD j 0).toNat < 125) → otherC l s (j + 1) = otherC l s j := fun hn => hkeep (by unfold otherB; rw [if_neg hn])
        have hst : 32 < ((otherC l s j).getD j 0).toNat → ((otherC l s j).getD j 0).toNat < 125 → (List.map byteC (otherC l s j)).set j (.v (.int .u8 (IntKind.u8.wrap (IntKind.u8.wrap ((((otherC l s j).getD j 0).toNat : Int) + 1) + IntKind.u8.wrap ((j : Int).tmod 2))))) = List.map byteC (otherC l s (j + 1)) := fun g1 g2 => by
          rw [← hset, List.map_set]
          congr 1
          have e1 : (j : Int).tmod 2 = ((j % 2 : Nat) : Int) := by rw [Int.tmod_eq_emod_of_nonneg (by omega)]; omega
          have e2 : j % 2 < 2 := Nat.mod_lt _ (by omega)
          unfold otherB byteC
          rw [if_pos ⟨g1, g2⟩, e1, u8w (n := (((otherC l s j).getD j 0).toNat : Int) + 1) (by omega) (by omega), u8w (n := ((j % 2 : Nat) : Int)) (by omega) (by omega), u8w (by omega) (by omega), UInt8.toNat_ofNat_of_lt' (by show _ < 256; omega)]
          rfl
        generalize hb : (otherC l s j).getD j 0 = b at *
        simp only [otherM, otherH, d1, ew, stepQ_normal, stepQ_exit, hb, evS, tyS, Bool.not_true, Bool.not_false, Nat.reduceAdd, Nat.reduceSub, Nat.reduceMul, Nat.reduceLT, Nat.reduceLeDiff, Nat.reduceEqDiff, reduceCtorEq, List.reduceReplicate, Int.reduceToNat, Int.reduceLE, Int.reduceLT]
        (repeat' (first | (with_reducible refine And.intro ?_ ?_) | ((first | refine GuardK.intro_f (fun h => ?_) (fun h => ?_) | refine GuardK.intro_t (fun h => ?_) (fun h => ?_) | refine CondK.intro (fun h => ?_) (fun h => ?_) | refine PickK.intro (fun h => ?_) (fun h => ?_)) <;> simp only [h, d1, ew, stepQ_normal, stepQ_exit, hb, evS, tyS, Bool.not_true, Bool.not_false, Nat.reduceAdd, Nat.reduceSub, Nat.reduceMul, Nat.reduceLT, Nat.reduceLeDiff, Nat.reduceEqDiff, reduceCtorEq, List.reduceReplicate, Int.reduceToNat, Int.reduceLE, Int.reduceLT]) | (refine DrawK.intro (by kernel_rfl) (by kernel_rfl) ?_; simp only [d1, ew, stepQ_normal, stepQ_exit, hb, evS, tyS, Bool.not_true, Bool.not_false, Nat.reduceAdd, Nat.reduceSub, Nat.reduceMul, Nat.reduceLT, Nat.reduceLeDiff, Nat.reduceEqDiff, reduceCtorEq, List.reduceReplicate, Int.reduceToNat, Int.reduceLE, Int.reduceLT])))
        all_goals try omega
        · rename_i g1
          rw [if_pos hi, hst (by simp at g1; omega) (by simp at h; omega)]
          simp only [otherM, otherH, d1, ew, stepQ_normal, stepQ_exit, evS, tyS, Bool.not_true, Bool.not_false, Nat.reduceAdd, Nat.reduceSub, Nat.reduceMul, Nat.reduceLT, Nat.reduceLeDiff, Nat.reduceEqDiff, reduceCtorEq, List.reduceReplicate, Int.reduceToNat, Int.reduceLE, Int.reduceLT]
          refine ⟨j + 1, by omega, by omega, ?_⟩
          simp only [slotW, evS, tyS, Bool.not_true, Bool.not_false, Nat.reduceAdd, Nat.reduceSub, Nat.reduceMul, Nat.reduceLT, Nat.reduceLeDiff, Nat.reduceEqDiff, reduceCtorEq, List.reduceReplicate, Int.reduceToNat, Int.reduceLE, Int.reduceLT]
        · refine ⟨j + 1, by omega, by omega, ?_⟩
          rw [← hnew (fun hc => by simp at h; omega)]
          simp only [slotW, otherM, otherH, evS, tyS, Bool.not_true, Bool.not_false, Nat.reduceAdd, Nat.reduceSub, Nat.reduceMul, Nat.reduceLT, Nat.reduceLeDiff, Nat.reduceEqDiff, reduceCtorEq, List.reduceReplicate, Int.reduceToNat, Int.reduceLE, Int.reduceLT]
        · refine ⟨j + 1, by omega, by omega, ?_⟩
          rw [← hnew (fun hc => by simp at h; omega)]
          simp only [slotW, otherM, otherH, evS, tyS, Bool.not_true, Bool.not_false, Nat.reduceAdd, Nat.reduceSub, Nat.reduceMul, Nat.reduceLT, Nat.reduceLeDiff, Nat.reduceEqDiff, reduceCtorEq, List.reduceReplicate, Int.reduceToNat, Int.reduceLE, Int.reduceLT]
      · have d1 : decide (j < l.length) = false := decide_eq_false hjl
        simp only [otherM, otherH, d1, stepQ_normal, stepQ_exit, evS, tyS, Bool.not_true, Bool.not_false, Nat.reduceAdd, Nat.reduceSub, Nat.reduceMul, Nat.reduceLT, Nat.reduceLeDiff, Nat.reduceEqDiff, reduceCtorEq, List.reduceReplicate, Int.reduceToNat, Int.reduceLE, Int.reduceLT]
        (repeat' (first | (with_reducible refine And.intro ?_ ?_) | ((first | refine GuardK.intro_f (fun h => ?_) (fun h => ?_) | refine GuardK.intro_t (fun h => ?_) (fun h => ?_) | refine CondK.intro (fun h => ?_) (fun h => ?_) | refine PickK.intro (fun h => ?_) (fun h => ?_)) <;> simp only [h, d1, stepQ_normal, stepQ_exit, evS, tyS, Bool.not_true, Bool.not_false, Nat.reduceAdd, Nat.reduceSub, Nat.reduceMul, Nat.reduceLT, Nat.reduceLeDiff, Nat.reduceEqDiff, reduceCtorEq, List.reduceReplicate, Int.reduceToNat, Int.reduceLE, Int.reduceLT]) | (refine DrawK.intro (by kernel_rfl) (by kernel_rfl) ?_; simp only [d1, stepQ_normal, stepQ_exit, evS, tyS, Bool.not_true, Bool.not_false, Nat.reduceAdd, Nat.reduceSub, Nat.reduceMul, Nat.reduceLT, Nat.reduceLeDiff, Nat.reduceEqDiff, reduceCtorEq, List.reduceReplicate, Int.reduceToNat, Int.reduceLE, Int.reduceLT])))
        have : j = l.length := by omega
        subst this
        rfl
    · rintro e a2 w2 ⟨φ2, s2, h2, rfl, hh⟩
      refine ⟨φ2, s2, h2, ?_⟩
      show resS _ _ _ _
      rw [show Tryd.f18.results.toList = [] from rfl]
      simp only [resS]
      refine ⟨?_, rfl⟩
      rw [hh]; unfold otherH; rw [hfull]
end Go.Proofs.YtplnhipgifcafaaDoor
namespace Go.Proofs.YtplnhipgifcafaaDoor
set_option linter.all false
open Go Go.Ev Go.RowKit
variable {γ : List (Nat × AV)}
set_option maxHeartbeats 2000000 in
theorem lent_inl {X : Fix} {φ : List Nat} {S : Slots} {a : Act} {w : World} {b : Bool} {l : List UInt8} {vs : Array Value} (hP : X.P = Tryd.prog) (hl : l.length ≤ 140737488351232) (h0 : l ≠ []) (hs : SR X φ ⟨S, []⟩ a w)
    (hargs : relL [.sl b l.length l.length (l.map byteC)] (cx X φ [] w) vs.toList) :
    Calls Tryd.prog 11 vs w fun e w' => ∃ u φ', e = .returned u ∧ rel (.own 0 1 l.length) (cx X φ' [⟨1, 5, (l ++ [201, 202]).map byteC⟩, ⟨0, 5, [201, 202].map byteC⟩] w') u ∧ SR X φ' ⟨S, [⟨1, 5, (l ++ [201, 202]).map byteC⟩, ⟨0, 5, [201, 202].map byteC⟩]⟩ a w' := by
  have h1 : l.length ≠ 0 := by simpa using h0
  have hnt : Tryd.f11.ntmps = 13 := by kernel_rfl
  refine inline_plainP hP hs Tryd.func11 rfl (by kernel_rfl) hargs ?_
  rw [hnt]
  simp only [idxL, h1, inlQ_ret, inlQ_normal, evS, tyS, Bool.not_true, Bool.not_false, Nat.reduceAdd, Nat.reduceSub, Nat.reduceMul, Nat.reduceLT, Nat.reduceLeDiff, Nat.reduceEqDiff, reduceCtorEq, List.reduceReplicate, Int.reduceToNat, Int.reduceLE, Int.reduceLT]
  (repeat' (first | (with_reducible refine And.intro ?_ ?_) | ((first | refine GuardK.intro_f (fun h => ?_) (fun h => ?_) | refine GuardK.intro_t (fun h => ?_) (fun h => ?_) | refine CondK.intro (fun h => ?_) (fun h => ?_) | refine PickK.intro (fun h => ?_) (fun h => ?_)) <;> simp only [h, inlQ_ret, inlQ_normal, evS, tyS, Bool.not_true, Bool.not_false, Nat.reduceAdd, Nat.reduceSub, Nat.reduceMul, Nat.reduceLT, Nat.reduceLeDiff, Nat.reduceEqDiff, reduceCtorEq, List.reduceReplicate, Int.reduceToNat, Int.reduceLE, Int.reduceLT]) | (refine DrawK.intro (by kernel_rfl) (by kernel_rfl) ?_; simp only [inlQ_ret, inlQ_normal, evS, tyS, Bool.not_true, Bool.not_false, Nat.reduceAdd, Nat.reduceSub, Nat.reduceMul, Nat.reduceLT, Nat.reduceLeDiff, Nat.reduceEqDiff, reduceCtorEq, List.reduceReplicate, Int.reduceToNat, Int.reduceLE, Int.reduceLT])))
  all_goals first | (((try simp only [decide_eq_true_eq, decide_eq_false_iff_not, beq_iff_eq, bne_iff_ne, ne_eq, beq_eq_false_iff_ne, bne_eq_false_iff_eq] at *) <;> (try omega)); done) | rfl | exact all_one_map _ | skip
  rw [show Tryd.f11.results.toList = [.tmp 2] by kernel_rfl]
  simp only [evS, tyS, Bool.not_true, Bool.not_false, Nat.reduceAdd, Nat.reduceSub, Nat.reduceMul, Nat.reduceLT, Nat.reduceLeDiff, Nat.reduceEqDiff, reduceCtorEq, List.reduceReplicate, Int.reduceToNat, Int.reduceLE, Int.reduceLT]
  rw [List.map_append]; rfl
end Go.Proofs.YtplnhipgifcafaaDoor
namespace Go.Proofs.YtplnhipgifcafaaDoor
set_option linter.all false
open Go Go.Ev Go.RowKit
variable {γ : List (Nat × AV)}
theorem b16 : bodyT Tryd.prog 16 := ⟨_, Tryd.func16, by kernel_rfl, by kernel_rfl⟩
theorem marks_nil {X : Fix} (h : X.c0 = none) : X.marks [] = X := by
  cases X; simp only at h; subst h; rfl
theorem noBorL_vs : ∀ vs : List Value, noBorL (vs.map AV.v) = true
  | [] => rfl
  | x :: vs => by simp [noBorL, noBor, noBorL_vs vs]
theorem noBor_list (L : List (TokD × Nat)) : noBor (listA L) = true := by
  cases L with
  | nil => rfl
  | cons x T => simp only [listA, noBor, listCells_vs, noBorL_vs]; rfl
/-- The tokens that lex.Scan hands back: none, where something is wrong. -/
def Told.got (q : Told) : List (TokD × Nat) := if q.err = 0 then q.toks else []
theorem find_okI (L : List (TokD × Nat)) (R : List ((TokD × Nat) × Int)) : (L.map okI ++ R).find? badI = R.find? badI := by
  induction L with
  | nil => rfl
  | cons x T ih => simp [okI_not, ih]
theorem scan_told {l : List UInt8} {q : Told} (hq : toldOf l q) : scanA l = .tup [listA q.got, .v (.int .i64 q.place), .v (.int .i64 q.err)] := by
  unfold scanA scanAL
  rcases hq with ⟨h1, h2, h3⟩ | ⟨h1, h2⟩
  · have hf : (q.toks.map okI).find? badI = none := by have := find_okI q.toks []; rw [List.append_nil] at this; rw [this]; rfl
    rw [h1, hf, h2, h3]
    simp only [Told.got, if_pos h3]
    rw [List.map_map, show ((fun x : (TokD × Nat) × Int => x.1) ∘ okI) = id from rfl, List.map_id]
    rfl
  · have hb : badI ((zeroT, q.place), q.err) = true := decide_eq_true h2
    rw [h1, find_okI]
    simp only [List.find?, hb, Told.got, if_neg h2]
    rfl
theorem got_le {l : List UInt8} {q : Told} (hq : toldOf l q) : q.got.length ≤ 32769 := by
  have h1 := told_len hq
  have h2 := items_len l
  unfold Told.got
  split
  · omega
  · exact Nat.zero_le _
def itO : Nat → List UInt8 → List UInt8
  | 0, l => l
  | j + 1, l => otherF (itO j l)
theorem itO_len : ∀ (j : Nat) (l : List UInt8), (itO j l).length = l.length
  | 0, _ => rfl
  | j + 1, l => by rw [itO, otherF_len, itO_len j l]
def scansM (γ : List (Nat × AV)) (l : List UInt8) (j : Nat) : St := ⟨⟨60, [(3, .own 0 1 l.length), (4, .v (.int .i64 j))], γ⟩, [⟨1, 5, (itO j l ++ [201, 202]).map byteC⟩]⟩
/-- The slots of a round: the copy, what both answer. -/
def scansL (l : List UInt8) (j : Nat) (q : Told) : List (Nat × AV) := [(6, listA q.got), (7, .v (.int .i64 q.place)), (8, .v (.int .i64 q.err)), (5, .sl false l.length (l.length + 2) ((itO j l ++ [201, 202]).map byteC)), (3, .own 0 1 l.length), (4, .v (.int .i64 j))]
def scansH (l : List UInt8) (j : Nat) : List ABlk := [⟨1, 5, (itO j l ++ [201, 202]).map byteC⟩]
theorem okB1 (n v e : Nat) (l : List UInt8) : okRefB n [⟨v, e, l.map byteC⟩] = true := by simp only [okRefB, okRefL_map]; rfl
def scansEndQ : Post
  | .ret, s => endS Tryd.prog [.tmp 2] (.v (.bool true)) .ret s
  | _, _ => False
theorem scansEndQ_ret (s : St) : scansEndQ .ret s = endS Tryd.prog [.tmp 2] (.v (.bool true)) .ret s := rfl
theorem fz_lend {P : Program} {H : List ABlk} {i ver e n m : Nat} {l : List UInt8} {cells : List AV} (h : H[i]? = some ⟨ver, e, cells⟩) (hn : n ≤ m) (hc : P.cellsOf e = 1) (hm : m = n ∨ m ≤ cells.length) (hx : l.map byteC <+: cells) : fz P H true (.sl true n m (l.map byteC)) (.own i ver n) := by
  simp only [fz]
  exact .inr ⟨trivial, i, _, l.map byteC, rfl, h, hn, by simpa [hc] using hm, hx, fzL_map P H true l⟩
theorem fz_same {P : Program} {H : List ABlk} {n m : Nat} {b : Bool} {cs : List AV} : fz P H true (.sl b n m cs) (.sl b n m cs) := by simp only [fz, true_or]
theorem then_exit {N : Act → World → Prop} {Q : Exit → Act → World → Prop} {i : Nat} {a : Act} {w : World} (h : Q (.exit i) a w) : Exit.then N Q (.exit i) a w := h
/-- A loop of at most N + 1 rounds. -/
theorem rounds_ind {F : Fence} {n : Nat} {P : Program} {c : Code} {Q : Exit → Act → World → Prop} (N : Nat) (I : Nat → Act → World → Prop)
    (h : ∀ j, j ≤ N → ∀ a w, I j a w → c.wpIn F n P (Exit.then (fun a w => j < N ∧ I (j + 1) a w) Q) a w) {a : Act} {w : World} (h0 : I 0 a w) : (Code.loop c).wpIn F n P Q a w := by
  refine wpIn_loop_rounds (N + 1) ?_
  have key : ∀ (m j : Nat) (a : Act) (w : World), j + m = N + 1 → 1 ≤ m → I j a w → Code.roundsIn F n P c Q m a w := by
    intro m
    induction m with
    | zero => intro j a w _ h; omega
    | succ m ih =>
      intro j a w hj _ hs
      rw [roundsIn_succ]
      refine wpIn_mono (h j (by omega) a w hs) ?_
      intro e a' w' hq
      cases e with
      | normal => exact ih (j + 1) a' w' (by omega) (by have := hq.1; omega) hq.2
      | _ => exact hq
  exact key (N + 1) 0 a w (by omega) (by omega) h0
def exitQ (i : Nat) (S : St) : Post
  | .exit j, s => i = j ∧ s.weak S
  | _, _ => False
theorem exitQ_exit (i j : Nat) (S s : St) : exitQ i S (.exit j) s = (i = j ∧ s.weak S) := rfl
set_option maxHeartbeats 4000000 in
set_option maxRecDepth 20000 in
theorem lexScans_ev (hγ : Gl γ) (hγ2 : GlW γ) (b : Bool) (l : List UInt8) (h0 : l ≠ []) (hl : l.length ≤ 140737488351232) : Ev Tryd.prog γ 4 [.sl b l.length l.length (l.map byteC)] (.v (.bool true)) := by
  refine Ev.of_wpM Tryd.func4 rfl ?_
  intro X hP hc0 hXK hXdf a w hs
  have hnt : Tryd.f4.ntmps = 60 := by kernel_rfl
  rw [hnt] at hs
  refine wpIn_seq (pieceP hP (r := none) ⟨⟨60, [(0, .sl b l.length l.length (l.map byteC))], γ⟩, []⟩ (by kernel_rfl) hc0 hs ?_ fun φ1 a1 w1 h1 => ?_)
  · simp only [startA, idxL, wkQ_normal, evS, tyS, Bool.not_true, Bool.not_false, Nat.reduceAdd, Nat.reduceSub, Nat.reduceMul, Nat.reduceLT, Nat.reduceLeDiff, Nat.reduceEqDiff, reduceCtorEq, List.reduceReplicate, Int.reduceToNat, Int.reduceLE, Int.reduceLT]
    (repeat' (first | (with_reducible refine And.intro ?_ ?_) | ((first | refine GuardK.intro_f (fun h => ?_) (fun h => ?_) | refine GuardK.intro_t (fun h => ?_) (fun h => ?_) | refine CondK.intro (fun h => ?_) (fun h => ?_) | refine PickK.intro (fun h => ?_) (fun h => ?_)) <;> simp only [h, evS, tyS, Bool.not_true, Bool.not_false, Nat.reduceAdd, Nat.reduceSub, Nat.reduceMul, Nat.reduceLT, Nat.reduceLeDiff, Nat.reduceEqDiff, reduceCtorEq, List.reduceReplicate, Int.reduceToNat, Int.reduceLE, Int.reduceLT]) | (refine DrawK.intro (by kernel_rfl) (by kernel_rfl) ?_; simp only [evS, tyS, Bool.not_true, Bool.not_false, Nat.reduceAdd, Nat.reduceSub, Nat.reduceMul, Nat.reduceLT, Nat.reduceLeDiff, Nat.reduceEqDiff, reduceCtorEq, List.reduceReplicate, Int.reduceToNat, Int.reduceLE, Int.reduceLT])))
    all_goals first | done | rfl | exact .inl rfl | trace_state
  refine wpIn_seq (wpIn_region ?_)
  show wpOpsIn (Fr none) 0 Tryd.prog _ _ ([0] ++ ([1] ++ ([2] ++ []))) a1 w1
  refine wpOpsIn_split _ _ _ _ (opsP hP ⟨⟨60, [(12, .sl b l.length l.length (l.map byteC))], γ⟩, []⟩ (by kernel_rfl) hc0 [_] [0] rfl h1 ?_ fun φ2 a2 w2 h2 => ?_)
  · simp only [List.getElem_toArray, List.getElem_cons_zero, List.getElem_cons_succ, evS, tyS, Bool.not_true, Bool.not_false, Nat.reduceAdd, Nat.reduceSub, Nat.reduceMul, Nat.reduceLT, Nat.reduceLeDiff, Nat.reduceEqDiff, reduceCtorEq, List.reduceReplicate, Int.reduceToNat, Int.reduceLE, Int.reduceLT]
    (repeat' (first | (with_reducible refine And.intro ?_ ?_) | ((first | refine GuardK.intro_f (fun h => ?_) (fun h => ?_) | refine GuardK.intro_t (fun h => ?_) (fun h => ?_) | refine CondK.intro (fun h => ?_) (fun h => ?_) | refine PickK.intro (fun h => ?_) (fun h => ?_)) <;> simp only [h, evS, tyS, Bool.not_true, Bool.not_false, Nat.reduceAdd, Nat.reduceSub, Nat.reduceMul, Nat.reduceLT, Nat.reduceLeDiff, Nat.reduceEqDiff, reduceCtorEq, List.reduceReplicate, Int.reduceToNat, Int.reduceLE, Int.reduceLT]) | (refine DrawK.intro (by kernel_rfl) (by kernel_rfl) ?_; simp only [evS, tyS, Bool.not_true, Bool.not_false, Nat.reduceAdd, Nat.reduceSub, Nat.reduceMul, Nat.reduceLT, Nat.reduceLeDiff, Nat.reduceEqDiff, reduceCtorEq, List.reduceReplicate, Int.reduceToNat, Int.reduceLE, Int.reduceLT])))
    all_goals first | done | rfl | exact .inl rfl | trace_state
  refine wpOpsIn_split _ _ _ _ ?_
  rw [wpOpsIn_cons]
  refine wpOpIn_some rfl rfl (call_wpIn (vs := #[a2.tmps.getD 12 undef]) rfl (by rw [List.map_toArray, List.map_cons, List.map_nil]; rfl) (enters_of Tryd.func11 (by kernel_rfl) rfl) (lent_inl (b := b) (l := l) hP hl h0 h2 ?_) ?_)
  · simp only [relL]
    exact ⟨_, _, rfl, h2.slots 12, rfl⟩
  rintro e' w3 ⟨u, φ3, rfl, hu, h3⟩
  refine ⟨_, rfl, ?_⟩
  show wpOpsIn (Fr none) 0 Tryd.prog _ _ ([2] ++ []) (a2.put (some 13) u) w3
  have h4 : SR X φ3 ⟨⟨60, [(13, .own 0 1 l.length), (12, .sl b l.length l.length (l.map byteC))], γ⟩, [⟨1, 5, (l ++ [201, 202]).map byteC⟩, ⟨0, 5, [201, 202].map byteC⟩]⟩ (a2.put (some 13) u) w3 := h3.put (some 13) hu
  generalize (a2.put (some 13) u) = a4 at h4 ⊢
  refine wpOpsIn_split _ _ _ _ (opsP hP ⟨⟨60, [(3, .own 0 1 l.length)], γ⟩, scansH l 0⟩ (by kernel_rfl) hc0 [_] [2] rfl h4 ?_ fun φ5 a5 w5 h5 => ?_)
  · simp only [List.getElem_toArray, List.getElem_cons_zero, List.getElem_cons_succ, scansH, itO, evS, tyS, Bool.not_true, Bool.not_false, Nat.reduceAdd, Nat.reduceSub, Nat.reduceMul, Nat.reduceLT, Nat.reduceLeDiff, Nat.reduceEqDiff, reduceCtorEq, List.reduceReplicate, Int.reduceToNat, Int.reduceLE, Int.reduceLT]
    (repeat' (first | (with_reducible refine And.intro ?_ ?_) | ((first | refine GuardK.intro_f (fun h => ?_) (fun h => ?_) | refine GuardK.intro_t (fun h => ?_) (fun h => ?_) | refine CondK.intro (fun h => ?_) (fun h => ?_) | refine PickK.intro (fun h => ?_) (fun h => ?_)) <;> simp only [h, evS, tyS, Bool.not_true, Bool.not_false, Nat.reduceAdd, Nat.reduceSub, Nat.reduceMul, Nat.reduceLT, Nat.reduceLeDiff, Nat.reduceEqDiff, reduceCtorEq, List.reduceReplicate, Int.reduceToNat, Int.reduceLE, Int.reduceLT]) | (refine DrawK.intro (by kernel_rfl) (by kernel_rfl) ?_; simp only [evS, tyS, Bool.not_true, Bool.not_false, Nat.reduceAdd, Nat.reduceSub, Nat.reduceMul, Nat.reduceLT, Nat.reduceLeDiff, Nat.reduceEqDiff, reduceCtorEq, List.reduceReplicate, Int.reduceToNat, Int.reduceLE, Int.reduceLT])))
    all_goals first | done | rfl | exact .inl rfl | exact .inr ⟨by simp [okRefL, okRef], okB1 _ _ _ _⟩ | trace_state
  show Code.wpIn (Fr none) 0 Tryd.prog _ _ a5 w5
  refine wpIn_seq (wpIn_seq (pieceP hP (r := none) (scansM γ l 0) (by kernel_rfl) hc0 h5 ?_ fun φ6 a6 w6 h6 => ?_))
  · simp only [wkQ_normal, scansM, scansH, evS, tyS, Bool.not_true, Bool.not_false, Nat.reduceAdd, Nat.reduceSub, Nat.reduceMul, Nat.reduceLT, Nat.reduceLeDiff, Nat.reduceEqDiff, reduceCtorEq, List.reduceReplicate, Int.reduceToNat, Int.reduceLE, Int.reduceLT]
    (repeat' (first | (with_reducible refine And.intro ?_ ?_) | ((first | refine GuardK.intro_f (fun h => ?_) (fun h => ?_) | refine GuardK.intro_t (fun h => ?_) (fun h => ?_) | refine CondK.intro (fun h => ?_) (fun h => ?_) | refine PickK.intro (fun h => ?_) (fun h => ?_)) <;> simp only [h, evS, tyS, Bool.not_true, Bool.not_false, Nat.reduceAdd, Nat.reduceSub, Nat.reduceMul, Nat.reduceLT, Nat.reduceLeDiff, Nat.reduceEqDiff, reduceCtorEq, List.reduceReplicate, Int.reduceToNat, Int.reduceLE, Int.reduceLT]) | (refine DrawK.intro (by kernel_rfl) (by kernel_rfl) ?_; simp only [evS, tyS, Bool.not_true, Bool.not_false, Nat.reduceAdd, Nat.reduceSub, Nat.reduceMul, Nat.reduceLT, Nat.reduceLeDiff, Nat.reduceEqDiff, reduceCtorEq, List.reduceReplicate, Int.reduceToNat, Int.reduceLE, Int.reduceLT])))
    all_goals first | done | rfl | exact .inl rfl | trace_state
  refine wpIn_block (rounds_ind 3 (fun j a w => ∃ φ, SR X φ (scansM γ l j) a w) ?_ ⟨_, h6⟩)
  rintro j hj a w ⟨φ, hs⟩
  by_cases hj3 : j = 3
  · have d1 : decide (j < 3) = false := decide_eq_false (by omega)
    have d2 : decide ((j : Int) < 3) = false := decide_eq_false (by omega)
    refine wpIn_seq (wpIn_mono (kwp_soundP hP (r := none) _ (exitQ 0 ⟨⟨60, [], γ⟩, []⟩) (by kernel_rfl) hs ?_) ?_)
    · simp only [scansM, exitQ_exit, d1, d2, evS, tyS, Bool.not_true, Bool.not_false, Nat.reduceAdd, Nat.reduceSub, Nat.reduceMul, Nat.reduceLT, Nat.reduceLeDiff, Nat.reduceEqDiff, reduceCtorEq, List.reduceReplicate, Int.reduceToNat, Int.reduceLE, Int.reduceLT]
      (repeat' (first | (with_reducible refine And.intro ?_ ?_) | ((first | refine GuardK.intro_f (fun h => ?_) (fun h => ?_) | refine GuardK.intro_t (fun h => ?_) (fun h => ?_) | refine CondK.intro (fun h => ?_) (fun h => ?_) | refine PickK.intro (fun h => ?_) (fun h => ?_)) <;> simp only [h, exitQ_exit, d1, d2, evS, tyS, Bool.not_true, Bool.not_false, Nat.reduceAdd, Nat.reduceSub, Nat.reduceMul, Nat.reduceLT, Nat.reduceLeDiff, Nat.reduceEqDiff, reduceCtorEq, List.reduceReplicate, Int.reduceToNat, Int.reduceLE, Int.reduceLT]) | (refine DrawK.intro (by kernel_rfl) (by kernel_rfl) ?_; simp only [exitQ_exit, d1, d2, evS, tyS, Bool.not_true, Bool.not_false, Nat.reduceAdd, Nat.reduceSub, Nat.reduceMul, Nat.reduceLT, Nat.reduceLeDiff, Nat.reduceEqDiff, reduceCtorEq, List.reduceReplicate, Int.reduceToNat, Int.reduceLE, Int.reduceLT])))
      all_goals rfl
    · rintro e a7 w7 ⟨φ7, s7, h7, hq⟩
      cases e with
      | exit i =>
        obtain ⟨rfl, hw⟩ := hq
        obtain ⟨φ8, h8⟩ := h7.weak hc0 hw
        refine then_exit (then_exit (inBlock_ne (.inr rfl) ?_))
        show Code.wpIn (Fr none) 0 Tryd.prog _ _ a7 w7
        refine wpIn_mono (kwp_soundP hP (r := none) _ scansEndQ (by kernel_rfl) h8 ?_) ?_
        · simp only [scansEndQ_ret, evS, tyS, Bool.not_true, Bool.not_false, Nat.reduceAdd, Nat.reduceSub, Nat.reduceMul, Nat.reduceLT, Nat.reduceLeDiff, Nat.reduceEqDiff, reduceCtorEq, List.reduceReplicate, Int.reduceToNat, Int.reduceLE, Int.reduceLT]
          (repeat' (first | (with_reducible refine And.intro ?_ ?_) | ((first | refine GuardK.intro_f (fun h => ?_) (fun h => ?_) | refine GuardK.intro_t (fun h => ?_) (fun h => ?_) | refine CondK.intro (fun h => ?_) (fun h => ?_) | refine PickK.intro (fun h => ?_) (fun h => ?_)) <;> simp only [h, scansEndQ_ret, evS, tyS, Bool.not_true, Bool.not_false, Nat.reduceAdd, Nat.reduceSub, Nat.reduceMul, Nat.reduceLT, Nat.reduceLeDiff, Nat.reduceEqDiff, reduceCtorEq, List.reduceReplicate, Int.reduceToNat, Int.reduceLE, Int.reduceLT]) | (refine DrawK.intro (by kernel_rfl) (by kernel_rfl) ?_; simp only [scansEndQ_ret, evS, tyS, Bool.not_true, Bool.not_false, Nat.reduceAdd, Nat.reduceSub, Nat.reduceMul, Nat.reduceLT, Nat.reduceLeDiff, Nat.reduceEqDiff, reduceCtorEq, List.reduceReplicate, Int.reduceToNat, Int.reduceLE, Int.reduceLT])))
        · rintro e a9 w9 ⟨φ9, s9, h9, hq⟩
          cases e with
          | ret => exact ⟨[], φ9, s9, List.nodup_nil, (fun D h => by cases h), by rw [marks_nil hc0]; exact h9, endS_endA hq⟩
          | _ => exact hq.elim
      | _ => exact hq.elim
  · have d1 : decide (j < 3) = true := decide_eq_true (by omega)
    have d2 : decide ((j : Int) < 3) = true := decide_eq_true (by omega)
    have ew : IntKind.i64.wrap ((j : Int) + 1) = ((j + 1 : Nat) : Int) := i64w (by omega) (by omega)
    obtain ⟨q, hq, hres⟩ := told_ex (itO j l)
    have hsc := scan_told hq
    have hgot := got_le hq
    have hlj : (itO j l).length = l.length := itO_len j l
    have hlj' : (itO j l).length ≤ 140737488351232 := by omega
    have hlc : ((itO j l ++ [201, 202]).map byteC).length = l.length + 2 := by simp [hlj]
    have pre : (itO j l).map byteC <+: (itO j l ++ [201, 202]).map byteC := ⟨[201, 202].map byteC, by rw [← List.map_append]⟩
    have k11 := lent_ev (γ := γ) true (itO j l) hlj'
    have k16 := lexScan_ev hγ hγ2 true (itO j l) hlj'
    have k12 : Ev Tryd.prog γ 12 [.sl false l.length (l.length + 2) ((itO j l ++ [201, 202]).map byteC)] (rscanA (itO j l)) := by
      refine Ev_weaken (fun c us h => ?_) (refScan_ev false (itO j l) hlj')
      simp only [relL] at h ⊢
      obtain ⟨u, us', e, h1, h2⟩ := h
      refine ⟨u, us', e, ?_, h2⟩
      have := rel_cutSl (m' := l.length) (k := (itO j l).length) (Nat.le_refl _) (by omega) h1
      rwa [← List.map_take, List.take_left' rfl, ← hlj] at this
    have k15 : Ev Tryd.prog γ 15 [.sl true l.length (l.length + 2) ((itO j l ++ [201, 202]).map byteC), .sl false l.length (l.length + 2) ((itO j l ++ [201, 202]).map byteC)] (.v (.bool true)) := by
      refine Ev_weaken (fun c us h => ?_) (kept_ev true false (itO j l) hlj')
      simp only [relL] at h ⊢
      obtain ⟨u, us', e, h1, v, vs', e2, h2, h3⟩ := h
      rw [hlj]
      refine ⟨u, us', e, h1, v, vs', e2, ?_, h3⟩
      have := rel_cutSl (m' := l.length) (k := (itO j l).length) (Nat.le_refl _) (by omega) h2
      rwa [← List.map_take, List.take_left' rfl] at this
    rw [hlj] at k11 k16
    rw [hsc] at k16
    rw [hres] at k12
    generalize hC : itO j l = C at *
    refine wpIn_seq (pieceP hP (r := none) (scansM γ l j) (by kernel_rfl) hc0 hs ?_ fun φ7 a7 w7 h7 => ?_)
    · simp only [scansM, wkQ_normal, d1, d2, evS, tyS, Bool.not_true, Bool.not_false, Nat.reduceAdd, Nat.reduceSub, Nat.reduceMul, Nat.reduceLT, Nat.reduceLeDiff, Nat.reduceEqDiff, reduceCtorEq, List.reduceReplicate, Int.reduceToNat, Int.reduceLE, Int.reduceLT]
      (repeat' (first | (with_reducible refine And.intro ?_ ?_) | ((first | refine GuardK.intro_f (fun h => ?_) (fun h => ?_) | refine GuardK.intro_t (fun h => ?_) (fun h => ?_) | refine CondK.intro (fun h => ?_) (fun h => ?_) | refine PickK.intro (fun h => ?_) (fun h => ?_)) <;> simp only [h, wkQ_normal, d1, d2, evS, tyS, Bool.not_true, Bool.not_false, Nat.reduceAdd, Nat.reduceSub, Nat.reduceMul, Nat.reduceLT, Nat.reduceLeDiff, Nat.reduceEqDiff, reduceCtorEq, List.reduceReplicate, Int.reduceToNat, Int.reduceLE, Int.reduceLT]) | (refine DrawK.intro (by kernel_rfl) (by kernel_rfl) ?_; simp only [wkQ_normal, d1, d2, evS, tyS, Bool.not_true, Bool.not_false, Nat.reduceAdd, Nat.reduceSub, Nat.reduceMul, Nat.reduceLT, Nat.reduceLeDiff, Nat.reduceEqDiff, reduceCtorEq, List.reduceReplicate, Int.reduceToNat, Int.reduceLE, Int.reduceLT])))
      all_goals first | done | rfl | exact .inl rfl | trace_state
    refine wpIn_seq (wpIn_block ?_)
    refine wpIn_seq (pieceP hP (r := none) ⟨⟨60, [(5, .sl false l.length (l.length + 2) ((C ++ [201, 202]).map byteC)), (3, .own 0 1 l.length), (4, .v (.int .i64 j))], γ⟩, scansH l j⟩ (by kernel_rfl) hc0 h7 ?_ fun φ8 a8 w8 h8 => ?_)
    · simp only [scansM, scansH, wkQ_normal, hC, evS, tyS, Bool.not_true, Bool.not_false, Nat.reduceAdd, Nat.reduceSub, Nat.reduceMul, Nat.reduceLT, Nat.reduceLeDiff, Nat.reduceEqDiff, reduceCtorEq, List.reduceReplicate, Int.reduceToNat, Int.reduceLE, Int.reduceLT]
      refine CallK.lend b11 [.sl true l.length l.length (C.map byteC)] ?_ k11 (by simp only [noBor, noBorL_map]; rfl) ?_
      · simp only [fzL_cons, fzL_nil, and_true]
        exact fz_lend rfl (Nat.le_refl _) c5 (.inl rfl) pre
      simp only [wkQ_normal, evS, tyS, Bool.not_true, Bool.not_false, Nat.reduceAdd, Nat.reduceSub, Nat.reduceMul, Nat.reduceLT, Nat.reduceLeDiff, Nat.reduceEqDiff, reduceCtorEq, List.reduceReplicate, Int.reduceToNat, Int.reduceLE, Int.reduceLT]
      (repeat' (first | (with_reducible refine And.intro ?_ ?_) | ((first | refine GuardK.intro_f (fun h => ?_) (fun h => ?_) | refine GuardK.intro_t (fun h => ?_) (fun h => ?_) | refine CondK.intro (fun h => ?_) (fun h => ?_) | refine PickK.intro (fun h => ?_) (fun h => ?_)) <;> simp only [h, wkQ_normal, evS, tyS, Bool.not_true, Bool.not_false, Nat.reduceAdd, Nat.reduceSub, Nat.reduceMul, Nat.reduceLT, Nat.reduceLeDiff, Nat.reduceEqDiff, reduceCtorEq, List.reduceReplicate, Int.reduceToNat, Int.reduceLE, Int.reduceLT]) | (refine DrawK.intro (by kernel_rfl) (by kernel_rfl) ?_; simp only [wkQ_normal, evS, tyS, Bool.not_true, Bool.not_false, Nat.reduceAdd, Nat.reduceSub, Nat.reduceMul, Nat.reduceLT, Nat.reduceLeDiff, Nat.reduceEqDiff, reduceCtorEq, List.reduceReplicate, Int.reduceToNat, Int.reduceLE, Int.reduceLT])))
      all_goals first | done | rfl | exact .inl rfl | trace_state
    refine wpIn_seq (pieceP hP (r := none) ⟨⟨60, scansL l j q, γ⟩, scansH l j⟩ (by kernel_rfl) hc0 h8 ?_ fun φ9 a9 w9 h9 => ?_)
    · simp only [scansM, scansH, scansL, wkQ_normal, hC, evS, tyS, Bool.not_true, Bool.not_false, Nat.reduceAdd, Nat.reduceSub, Nat.reduceMul, Nat.reduceLT, Nat.reduceLeDiff, Nat.reduceEqDiff, reduceCtorEq, List.reduceReplicate, Int.reduceToNat, Int.reduceLE, Int.reduceLT]
      refine CallK.lend b16 [.sl true l.length l.length (C.map byteC)] ?_ k16 (by simp [noBor, noBorL, noBor_list]) ?_
      · simp only [fzL_cons, fzL_nil, and_true]
        exact fz_lend rfl (Nat.le_refl _) c5 (.inl rfl) pre
      simp only [wkQ_normal, evS, tyS, Bool.not_true, Bool.not_false, Nat.reduceAdd, Nat.reduceSub, Nat.reduceMul, Nat.reduceLT, Nat.reduceLeDiff, Nat.reduceEqDiff, reduceCtorEq, List.reduceReplicate, Int.reduceToNat, Int.reduceLE, Int.reduceLT]
      (repeat' (first | (with_reducible refine And.intro ?_ ?_) | ((first | refine GuardK.intro_f (fun h => ?_) (fun h => ?_) | refine GuardK.intro_t (fun h => ?_) (fun h => ?_) | refine CondK.intro (fun h => ?_) (fun h => ?_) | refine PickK.intro (fun h => ?_) (fun h => ?_)) <;> simp only [h, wkQ_normal, evS, tyS, Bool.not_true, Bool.not_false, Nat.reduceAdd, Nat.reduceSub, Nat.reduceMul, Nat.reduceLT, Nat.reduceLeDiff, Nat.reduceEqDiff, reduceCtorEq, List.reduceReplicate, Int.reduceToNat, Int.reduceLE, Int.reduceLT]) | (refine DrawK.intro (by kernel_rfl) (by kernel_rfl) ?_; simp only [wkQ_normal, evS, tyS, Bool.not_true, Bool.not_false, Nat.reduceAdd, Nat.reduceSub, Nat.reduceMul, Nat.reduceLT, Nat.reduceLeDiff, Nat.reduceEqDiff, reduceCtorEq, List.reduceReplicate, Int.reduceToNat, Int.reduceLE, Int.reduceLT])))
      all_goals first | done | rfl | exact .inl rfl | trace_state
    refine wpIn_seq (pieceP hP (r := none) ⟨⟨60, (9, listA q.toks) :: (10, .v (.int .i64 q.place)) :: (11, .v (.int .i64 q.err)) :: scansL l j q, γ⟩, scansH l j⟩ (by kernel_rfl) hc0 h9 ?_ fun φ10 a10 w10 h10 => ?_)
    · simp only [scansM, scansH, scansL, wkQ_normal, hC, evS, tyS, Bool.not_true, Bool.not_false, Nat.reduceAdd, Nat.reduceSub, Nat.reduceMul, Nat.reduceLT, Nat.reduceLeDiff, Nat.reduceEqDiff, reduceCtorEq, List.reduceReplicate, Int.reduceToNat, Int.reduceLE, Int.reduceLT]
      refine CallK.intro b12 (by simp [treeL, treeA]) k12 ?_
      simp only [wkQ_normal, evS, tyS, Bool.not_true, Bool.not_false, Nat.reduceAdd, Nat.reduceSub, Nat.reduceMul, Nat.reduceLT, Nat.reduceLeDiff, Nat.reduceEqDiff, reduceCtorEq, List.reduceReplicate, Int.reduceToNat, Int.reduceLE, Int.reduceLT]
      (repeat' (first | (with_reducible refine And.intro ?_ ?_) | ((first | refine GuardK.intro_f (fun h => ?_) (fun h => ?_) | refine GuardK.intro_t (fun h => ?_) (fun h => ?_) | refine CondK.intro (fun h => ?_) (fun h => ?_) | refine PickK.intro (fun h => ?_) (fun h => ?_)) <;> simp only [h, wkQ_normal, evS, tyS, Bool.not_true, Bool.not_false, Nat.reduceAdd, Nat.reduceSub, Nat.reduceMul, Nat.reduceLT, Nat.reduceLeDiff, Nat.reduceEqDiff, reduceCtorEq, List.reduceReplicate, Int.reduceToNat, Int.reduceLE, Int.reduceLT]) | (refine DrawK.intro (by kernel_rfl) (by kernel_rfl) ?_; simp only [wkQ_normal, evS, tyS, Bool.not_true, Bool.not_false, Nat.reduceAdd, Nat.reduceSub, Nat.reduceMul, Nat.reduceLT, Nat.reduceLeDiff, Nat.reduceEqDiff, reduceCtorEq, List.reduceReplicate, Int.reduceToNat, Int.reduceLE, Int.reduceLT])))
      all_goals first | done | rfl | exact .inl rfl | trace_state
    refine wpIn_seq (pieceP hP (r := none) ⟨⟨60, (9, listA q.got) :: (10, .v (.int .i64 q.place)) :: (11, .v (.int .i64 q.err)) :: scansL l j q, γ⟩, scansH l j⟩ (by kernel_rfl) hc0 h10 ?_ fun φ11 a11 w11 h11 => ?_)
    · by_cases he : q.err = 0
      · have e0 : (q.err != 0) = false := by rw [he]; rfl
        have eg : q.got = q.toks := by unfold Told.got; rw [if_pos he]
        simp only [scansM, scansH, scansL, wkQ_normal, hC, e0, eg, evS, tyS, Bool.not_true, Bool.not_false, Nat.reduceAdd, Nat.reduceSub, Nat.reduceMul, Nat.reduceLT, Nat.reduceLeDiff, Nat.reduceEqDiff, reduceCtorEq, List.reduceReplicate, Int.reduceToNat, Int.reduceLE, Int.reduceLT]
        (repeat' (first | (with_reducible refine And.intro ?_ ?_) | ((first | refine GuardK.intro_f (fun h => ?_) (fun h => ?_) | refine GuardK.intro_t (fun h => ?_) (fun h => ?_) | refine CondK.intro (fun h => ?_) (fun h => ?_) | refine PickK.intro (fun h => ?_) (fun h => ?_)) <;> simp only [h, wkQ_normal, e0, eg, evS, tyS, Bool.not_true, Bool.not_false, Nat.reduceAdd, Nat.reduceSub, Nat.reduceMul, Nat.reduceLT, Nat.reduceLeDiff, Nat.reduceEqDiff, reduceCtorEq, List.reduceReplicate, Int.reduceToNat, Int.reduceLE, Int.reduceLT]) | (refine DrawK.intro (by kernel_rfl) (by kernel_rfl) ?_; simp only [wkQ_normal, e0, eg, evS, tyS, Bool.not_true, Bool.not_false, Nat.reduceAdd, Nat.reduceSub, Nat.reduceMul, Nat.reduceLT, Nat.reduceLeDiff, Nat.reduceEqDiff, reduceCtorEq, List.reduceReplicate, Int.reduceToNat, Int.reduceLE, Int.reduceLT])))
        all_goals first | done | rfl | exact .inl rfl | trace_state
      · have e0 : (q.err != 0) = true := by simpa using he
        have eg : q.got = [] := by unfold Told.got; rw [if_neg he]
        simp only [scansM, scansH, scansL, wkQ_normal, hC, e0, eg, evS, tyS, Bool.not_true, Bool.not_false, Nat.reduceAdd, Nat.reduceSub, Nat.reduceMul, Nat.reduceLT, Nat.reduceLeDiff, Nat.reduceEqDiff, reduceCtorEq, List.reduceReplicate, Int.reduceToNat, Int.reduceLE, Int.reduceLT]
        (repeat' (first | (with_reducible refine And.intro ?_ ?_) | ((first | refine GuardK.intro_f (fun h => ?_) (fun h => ?_) | refine GuardK.intro_t (fun h => ?_) (fun h => ?_) | refine CondK.intro (fun h => ?_) (fun h => ?_) | refine PickK.intro (fun h => ?_) (fun h => ?_)) <;> simp only [h, wkQ_normal, e0, eg, evS, tyS, Bool.not_true, Bool.not_false, Nat.reduceAdd, Nat.reduceSub, Nat.reduceMul, Nat.reduceLT, Nat.reduceLeDiff, Nat.reduceEqDiff, reduceCtorEq, List.reduceReplicate, Int.reduceToNat, Int.reduceLE, Int.reduceLT]) | (refine DrawK.intro (by kernel_rfl) (by kernel_rfl) ?_; simp only [wkQ_normal, e0, eg, evS, tyS, Bool.not_true, Bool.not_false, Nat.reduceAdd, Nat.reduceSub, Nat.reduceMul, Nat.reduceLT, Nat.reduceLeDiff, Nat.reduceEqDiff, reduceCtorEq, List.reduceReplicate, Int.reduceToNat, Int.reduceLE, Int.reduceLT])))
        all_goals first | done | rfl | exact .inl rfl | trace_state
    refine wpIn_seq (pieceP hP (r := none) ⟨⟨60, (9, listA q.got) :: scansL l j q, γ⟩, scansH l j⟩ (by kernel_rfl) hc0 h11 ?_ fun φ12 a12 w12 h12 => ?_)
    · simp only [scansM, scansH, scansL, wkQ_normal, hC, evS, tyS, Bool.not_true, Bool.not_false, Nat.reduceAdd, Nat.reduceSub, Nat.reduceMul, Nat.reduceLT, Nat.reduceLeDiff, Nat.reduceEqDiff, reduceCtorEq, List.reduceReplicate, Int.reduceToNat, Int.reduceLE, Int.reduceLT]
      refine CallK.intro b17 (by simp [treeL, treeA, treeA_list]) (tokens_ev _ hgot) ?_
      simp only [wkQ_normal, bne_self, evS, tyS, Bool.not_true, Bool.not_false, Nat.reduceAdd, Nat.reduceSub, Nat.reduceMul, Nat.reduceLT, Nat.reduceLeDiff, Nat.reduceEqDiff, reduceCtorEq, List.reduceReplicate, Int.reduceToNat, Int.reduceLE, Int.reduceLT]
      (repeat' (first | (with_reducible refine And.intro ?_ ?_) | ((first | refine GuardK.intro_f (fun h => ?_) (fun h => ?_) | refine GuardK.intro_t (fun h => ?_) (fun h => ?_) | refine CondK.intro (fun h => ?_) (fun h => ?_) | refine PickK.intro (fun h => ?_) (fun h => ?_)) <;> simp only [h, wkQ_normal, bne_self, evS, tyS, Bool.not_true, Bool.not_false, Nat.reduceAdd, Nat.reduceSub, Nat.reduceMul, Nat.reduceLT, Nat.reduceLeDiff, Nat.reduceEqDiff, reduceCtorEq, List.reduceReplicate, Int.reduceToNat, Int.reduceLE, Int.reduceLT]) | (refine DrawK.intro (by kernel_rfl) (by kernel_rfl) ?_; simp only [wkQ_normal, bne_self, evS, tyS, Bool.not_true, Bool.not_false, Nat.reduceAdd, Nat.reduceSub, Nat.reduceMul, Nat.reduceLT, Nat.reduceLeDiff, Nat.reduceEqDiff, reduceCtorEq, List.reduceReplicate, Int.reduceToNat, Int.reduceLE, Int.reduceLT])))
      refine CallK.lend b15 [.sl true l.length (l.length + 2) ((C ++ [201, 202]).map byteC), .sl false l.length (l.length + 2) ((C ++ [201, 202]).map byteC)] ?_ k15 rfl ?_
      · simp only [fzL_cons, fzL_nil, and_true]
        exact ⟨fz_lend rfl (by omega) c5 (.inr (by rw [hlc]; exact Nat.le_refl _)) List.prefix_rfl, fz_same⟩
      simp only [wkQ_normal, evS, tyS, Bool.not_true, Bool.not_false, Nat.reduceAdd, Nat.reduceSub, Nat.reduceMul, Nat.reduceLT, Nat.reduceLeDiff, Nat.reduceEqDiff, reduceCtorEq, List.reduceReplicate, Int.reduceToNat, Int.reduceLE, Int.reduceLT]
      (repeat' (first | (with_reducible refine And.intro ?_ ?_) | ((first | refine GuardK.intro_f (fun h => ?_) (fun h => ?_) | refine GuardK.intro_t (fun h => ?_) (fun h => ?_) | refine CondK.intro (fun h => ?_) (fun h => ?_) | refine PickK.intro (fun h => ?_) (fun h => ?_)) <;> simp only [h, wkQ_normal, evS, tyS, Bool.not_true, Bool.not_false, Nat.reduceAdd, Nat.reduceSub, Nat.reduceMul, Nat.reduceLT, Nat.reduceLeDiff, Nat.reduceEqDiff, reduceCtorEq, List.reduceReplicate, Int.reduceToNat, Int.reduceLE, Int.reduceLT]) | (refine DrawK.intro (by kernel_rfl) (by kernel_rfl) ?_; simp only [wkQ_normal, evS, tyS, Bool.not_true, Bool.not_false, Nat.reduceAdd, Nat.reduceSub, Nat.reduceMul, Nat.reduceLT, Nat.reduceLeDiff, Nat.reduceEqDiff, reduceCtorEq, List.reduceReplicate, Int.reduceToNat, Int.reduceLE, Int.reduceLT])))
      all_goals first | done | rfl | exact .inl rfl | trace_state
    refine wpIn_seq (wpIn_region ?_)
    show wpOpsIn (Fr none) 0 Tryd.prog _ _ ([0] ++ [1]) a12 w12
    refine wpOpsIn_split _ _ _ _ (opsP hP ⟨⟨60, [(54, .own 0 1 l.length), (9, listA q.got), (6, listA q.got), (3, .own 0 1 l.length), (4, .v (.int .i64 j))], γ⟩, scansH l j⟩ (by kernel_rfl) hc0 [_] [0] rfl h12 ?_ fun φ13 a13 w13 h13 => ?_)
    · simp only [List.getElem_toArray, List.getElem_cons_zero, List.getElem_cons_succ, scansH, scansL, hC, evS, tyS, Bool.not_true, Bool.not_false, Nat.reduceAdd, Nat.reduceSub, Nat.reduceMul, Nat.reduceLT, Nat.reduceLeDiff, Nat.reduceEqDiff, reduceCtorEq, List.reduceReplicate, Int.reduceToNat, Int.reduceLE, Int.reduceLT]
      (repeat' (first | (with_reducible refine And.intro ?_ ?_) | ((first | refine GuardK.intro_f (fun h => ?_) (fun h => ?_) | refine GuardK.intro_t (fun h => ?_) (fun h => ?_) | refine CondK.intro (fun h => ?_) (fun h => ?_) | refine PickK.intro (fun h => ?_) (fun h => ?_)) <;> simp only [h, evS, tyS, Bool.not_true, Bool.not_false, Nat.reduceAdd, Nat.reduceSub, Nat.reduceMul, Nat.reduceLT, Nat.reduceLeDiff, Nat.reduceEqDiff, reduceCtorEq, List.reduceReplicate, Int.reduceToNat, Int.reduceLE, Int.reduceLT]) | (refine DrawK.intro (by kernel_rfl) (by kernel_rfl) ?_; simp only [evS, tyS, Bool.not_true, Bool.not_false, Nat.reduceAdd, Nat.reduceSub, Nat.reduceMul, Nat.reduceLT, Nat.reduceLeDiff, Nat.reduceEqDiff, reduceCtorEq, List.reduceReplicate, Int.reduceToNat, Int.reduceLE, Int.reduceLT])))
      all_goals first | done | rfl | exact .inl rfl | trace_state
    rw [wpOpsIn_cons]
    have h13' : SR X φ13 ⟨⟨60, [(54, .own 0 1 l.length), (9, listA q.got), (6, listA q.got), (3, .own 0 1 l.length), (4, .v (.int .i64 j))], γ⟩, ⟨1, 5, (C ++ [201, 202]).map byteC⟩ :: []⟩ a13 w13 := by
      have := h13; unfold scansH at this; rw [hC] at this; exact this
    refine wpOpIn_some rfl rfl (call_wpIn (vs := #[a13.tmps.getD 54 undef]) rfl (by rw [List.map_toArray, List.map_cons, List.map_nil]; rfl) (enters_of Tryd.func18 (by kernel_rfl) rfl) (other_inl hP hlj' h13' ?_) ?_)
    · simp only [relL]
      rw [hlj]
      exact ⟨_, _, rfl, h13'.slots 54, rfl⟩
    rintro e' w14 ⟨u, φ14, rfl, hu, h14⟩
    refine ⟨_, rfl, ?_⟩
    have h15 := h14.put (some 55) hu
    show Code.wpIn (Fr none) 0 Tryd.prog _ _ (a13.put (some 55) u) w14
    have h16 : SR X φ14 ⟨⟨60, [(55, .tup []), (54, .own 0 1 l.length), (9, listA q.got), (6, listA q.got), (3, .own 0 1 l.length), (4, .v (.int .i64 j))], γ⟩, scansH l (j + 1)⟩ (a13.put (some 55) u) w14 := by
      unfold scansH; rw [itO, hC]; exact h15
    generalize (a13.put (some 55) u) = a15 at h16 ⊢
    refine wpIn_mono (kwp_soundP hP (r := none) _ (wkQ ⟨⟨60, [(3, .own 0 1 l.length), (4, .v (.int .i64 j))], γ⟩, scansH l (j + 1)⟩) (by kernel_rfl) h16 ?_) ?_
    · simp only [wkQ_normal, evS, tyS, Bool.not_true, Bool.not_false, Nat.reduceAdd, Nat.reduceSub, Nat.reduceMul, Nat.reduceLT, Nat.reduceLeDiff, Nat.reduceEqDiff, reduceCtorEq, List.reduceReplicate, Int.reduceToNat, Int.reduceLE, Int.reduceLT]
      refine CallK.intro b17 (by simp [treeL, treeA, treeA_list]) (tokens_ev _ hgot) ?_
      simp only [wkQ_normal, evS, tyS, Bool.not_true, Bool.not_false, Nat.reduceAdd, Nat.reduceSub, Nat.reduceMul, Nat.reduceLT, Nat.reduceLeDiff, Nat.reduceEqDiff, reduceCtorEq, List.reduceReplicate, Int.reduceToNat, Int.reduceLE, Int.reduceLT]
      (repeat' (first | (with_reducible refine And.intro ?_ ?_) | ((first | refine GuardK.intro_f (fun h => ?_) (fun h => ?_) | refine GuardK.intro_t (fun h => ?_) (fun h => ?_) | refine CondK.intro (fun h => ?_) (fun h => ?_) | refine PickK.intro (fun h => ?_) (fun h => ?_)) <;> simp only [h, wkQ_normal, evS, tyS, Bool.not_true, Bool.not_false, Nat.reduceAdd, Nat.reduceSub, Nat.reduceMul, Nat.reduceLT, Nat.reduceLeDiff, Nat.reduceEqDiff, reduceCtorEq, List.reduceReplicate, Int.reduceToNat, Int.reduceLE, Int.reduceLT]) | (refine DrawK.intro (by kernel_rfl) (by kernel_rfl) ?_; simp only [wkQ_normal, evS, tyS, Bool.not_true, Bool.not_false, Nat.reduceAdd, Nat.reduceSub, Nat.reduceMul, Nat.reduceLT, Nat.reduceLeDiff, Nat.reduceEqDiff, reduceCtorEq, List.reduceReplicate, Int.reduceToNat, Int.reduceLE, Int.reduceLT])))
      all_goals first | done | rfl | exact .inl rfl | trace_state
    · rintro e a16 w16 ⟨φ16, s16, h17, hq⟩
      cases e with
      | normal =>
        obtain ⟨φ17, h18⟩ := h17.weak hc0 hq
        refine pieceP hP (r := none) (scansM γ l (j + 1)) (by kernel_rfl) hc0 h18 ?_ fun φ19 a19 w19 h19 => ⟨by omega, _, h19⟩
        simp only [wkQ_normal, scansM, scansH, ew, evS, tyS, Bool.not_true, Bool.not_false, Nat.reduceAdd, Nat.reduceSub, Nat.reduceMul, Nat.reduceLT, Nat.reduceLeDiff, Nat.reduceEqDiff, reduceCtorEq, List.reduceReplicate, Int.reduceToNat, Int.reduceLE, Int.reduceLT]
        (repeat' (first | (with_reducible refine And.intro ?_ ?_) | ((first | refine GuardK.intro_f (fun h => ?_) (fun h => ?_) | refine GuardK.intro_t (fun h => ?_) (fun h => ?_) | refine CondK.intro (fun h => ?_) (fun h => ?_) | refine PickK.intro (fun h => ?_) (fun h => ?_)) <;> simp only [h, wkQ_normal, evS, tyS, Bool.not_true, Bool.not_false, Nat.reduceAdd, Nat.reduceSub, Nat.reduceMul, Nat.reduceLT, Nat.reduceLeDiff, Nat.reduceEqDiff, reduceCtorEq, List.reduceReplicate, Int.reduceToNat, Int.reduceLE, Int.reduceLT]) | (refine DrawK.intro (by kernel_rfl) (by kernel_rfl) ?_; simp only [wkQ_normal, evS, tyS, Bool.not_true, Bool.not_false, Nat.reduceAdd, Nat.reduceSub, Nat.reduceMul, Nat.reduceLT, Nat.reduceLeDiff, Nat.reduceEqDiff, reduceCtorEq, List.reduceReplicate, Int.reduceToNat, Int.reduceLE, Int.reduceLT])))
        all_goals first | done | rfl | exact .inl rfl | trace_state
      | _ => exact hq.elim
end Go.Proofs.YtplnhipgifcafaaDoor
namespace Go.Proofs.YtplnhipgifcafaaDoor
set_option linter.all false
open Go Go.Ev Go.RowKit
variable {γ : List (Nat × AV)}
theorem b18 : bodyT Tryd.prog 18 := ⟨_, Tryd.func18, by kernel_rfl, by kernel_rfl⟩
def marks2 : AV := .sl false 0 2 (([201, 202] : List UInt8).map byteC)
theorem other_none : Ev Tryd.prog γ 18 [marks2] (.tup []) := by
  refine Ev.of Tryd.func18 rfl ?_
  simp only [Tryd.f18, marks2, evS, tyS, Bool.not_true, Bool.not_false, Nat.reduceAdd, Nat.reduceSub, Nat.reduceMul, Nat.reduceLT, Nat.reduceLeDiff, Nat.reduceEqDiff, reduceCtorEq, List.reduceReplicate, Int.reduceToNat, Int.reduceLE, Int.reduceLT]
  refine LoopK.intro (fun _ : Unit => ⟨⟨33, [(0, marks2), (2, .v (.int .i64 0))], γ⟩, []⟩) (fun _ => True) (fun _ => 0) () ?_ trivial (fun _ _ => ?_)
  · simp only [marks2, evS, tyS, Bool.not_true, Bool.not_false, Nat.reduceAdd, Nat.reduceSub, Nat.reduceMul, Nat.reduceLT, Nat.reduceLeDiff, Nat.reduceEqDiff, reduceCtorEq, List.reduceReplicate, Int.reduceToNat, Int.reduceLE, Int.reduceLT]
    (repeat' (first | (with_reducible refine And.intro ?_ ?_) | ((first | refine GuardK.intro_f (fun h => ?_) (fun h => ?_) | refine GuardK.intro_t (fun h => ?_) (fun h => ?_) | refine CondK.intro (fun h => ?_) (fun h => ?_) | refine PickK.intro (fun h => ?_) (fun h => ?_)) <;> simp only [h, evS, tyS, Bool.not_true, Bool.not_false, Nat.reduceAdd, Nat.reduceSub, Nat.reduceMul, Nat.reduceLT, Nat.reduceLeDiff, Nat.reduceEqDiff, reduceCtorEq, List.reduceReplicate, Int.reduceToNat, Int.reduceLE, Int.reduceLT]) | (refine DrawK.intro (by kernel_rfl) (by kernel_rfl) ?_; simp only [evS, tyS, Bool.not_true, Bool.not_false, Nat.reduceAdd, Nat.reduceSub, Nat.reduceMul, Nat.reduceLT, Nat.reduceLeDiff, Nat.reduceEqDiff, reduceCtorEq, List.reduceReplicate, Int.reduceToNat, Int.reduceLE, Int.reduceLT])))
    all_goals first | done | rfl | exact .inl rfl | trace_state
  · have d0 : decide ((0 : Int) < ((0 : Nat) : Int)) = false := by decide
    simp only [marks2, d0, evS, tyS, Bool.not_true, Bool.not_false, Nat.reduceAdd, Nat.reduceSub, Nat.reduceMul, Nat.reduceLT, Nat.reduceLeDiff, Nat.reduceEqDiff, reduceCtorEq, List.reduceReplicate, Int.reduceToNat, Int.reduceLE, Int.reduceLT]
    (repeat' (first | (with_reducible refine And.intro ?_ ?_) | ((first | refine GuardK.intro_f (fun h => ?_) (fun h => ?_) | refine GuardK.intro_t (fun h => ?_) (fun h => ?_) | refine CondK.intro (fun h => ?_) (fun h => ?_) | refine PickK.intro (fun h => ?_) (fun h => ?_)) <;> simp only [h, d0, evS, tyS, Bool.not_true, Bool.not_false, Nat.reduceAdd, Nat.reduceSub, Nat.reduceMul, Nat.reduceLT, Nat.reduceLeDiff, Nat.reduceEqDiff, reduceCtorEq, List.reduceReplicate, Int.reduceToNat, Int.reduceLE, Int.reduceLT]) | (refine DrawK.intro (by kernel_rfl) (by kernel_rfl) ?_; simp only [d0, evS, tyS, Bool.not_true, Bool.not_false, Nat.reduceAdd, Nat.reduceSub, Nat.reduceMul, Nat.reduceLT, Nat.reduceLeDiff, Nat.reduceEqDiff, reduceCtorEq, List.reduceReplicate, Int.reduceToNat, Int.reduceLE, Int.reduceLT])))
    all_goals first | done | rfl | exact .inl rfl | trace_state
theorem weak2 {f : FuncId} {xs : List AV} {r : AV} (h : Ev Tryd.prog γ f (.sl false ([] : List UInt8).length ([] : List UInt8).length (([] : List UInt8).map byteC) :: xs) r) : Ev Tryd.prog γ f (marks2 :: xs) r := by
  refine Ev_weaken (fun c us h => ?_) h
  simp only [relL] at h ⊢
  obtain ⟨u, us', e, h1, h2⟩ := h
  exact ⟨u, us', e, rel_cutSl (m' := 0) (k := 0) (Nat.le_refl _) (by omega) h1, h2⟩
set_option maxHeartbeats 4000000 in
set_option maxRecDepth 20000 in
theorem lexScans_none (hγ : Gl γ) (hγ2 : GlW γ) (A : AV) (hA : treeA A = true) (h11 : Ev Tryd.prog γ 11 [A] marks2) : Ev Tryd.prog γ 4 [A] (.v (.bool true)) := by
  obtain ⟨q, hq, hres⟩ := told_ex []
  have hsc := scan_told hq
  have hgot := got_le hq
  have k11 : Ev Tryd.prog γ 11 [marks2] marks2 := weak2 (lent_ev false [] (by simp))
  have k16 : Ev Tryd.prog γ 16 [marks2] (scanA []) := weak2 (lexScan_ev hγ hγ2 false [] (by simp))
  have k12 : Ev Tryd.prog γ 12 [marks2] (rscanA []) := weak2 (refScan_ev false [] (by simp))
  have k15 : Ev Tryd.prog γ 15 [marks2, marks2] (.v (.bool true)) := by
    refine Ev_weaken (fun c us h => ?_) (kept_ev false false [] (by simp))
    simp only [relL] at h ⊢
    obtain ⟨u, us', e, h1, v, vs', e2, h2, h3⟩ := h
    exact ⟨u, us', e, h1, v, vs', e2, rel_cutSl (m' := 0) (k := 0) (Nat.le_refl _) (by omega) h2, h3⟩
  have k18 : Ev Tryd.prog γ 18 [marks2] (.tup []) := other_none
  have kt : treeA marks2 = true := rfl
  rw [hsc] at k16
  rw [hres] at k12
  generalize marks2 = M at *
  refine Ev.of Tryd.func4 rfl ?_
  simp only [Tryd.f4, evS, tyS, Bool.not_true, Bool.not_false, Nat.reduceAdd, Nat.reduceSub, Nat.reduceMul, Nat.reduceLT, Nat.reduceLeDiff, Nat.reduceEqDiff, reduceCtorEq, List.reduceReplicate, Int.reduceToNat, Int.reduceLE, Int.reduceLT]
  refine CallK.intro b11 (by simp [treeL, hA]) h11 ?_
  simp only [evS, tyS, Bool.not_true, Bool.not_false, Nat.reduceAdd, Nat.reduceSub, Nat.reduceMul, Nat.reduceLT, Nat.reduceLeDiff, Nat.reduceEqDiff, reduceCtorEq, List.reduceReplicate, Int.reduceToNat, Int.reduceLE, Int.reduceLT]
  refine LoopK.intro (fun j : Nat => ⟨⟨60, [(3, M), (4, .v (.int .i64 j))], γ⟩, []⟩) (fun j => j ≤ 3) (fun j => 3 - j) 0 ?_ (by omega) (fun j hj => ?_)
  · simp only [evS, tyS, Bool.not_true, Bool.not_false, Nat.reduceAdd, Nat.reduceSub, Nat.reduceMul, Nat.reduceLT, Nat.reduceLeDiff, Nat.reduceEqDiff, reduceCtorEq, List.reduceReplicate, Int.reduceToNat, Int.reduceLE, Int.reduceLT]
    (repeat' (first | (with_reducible refine And.intro ?_ ?_) | ((first | refine GuardK.intro_f (fun h => ?_) (fun h => ?_) | refine GuardK.intro_t (fun h => ?_) (fun h => ?_) | refine CondK.intro (fun h => ?_) (fun h => ?_) | refine PickK.intro (fun h => ?_) (fun h => ?_)) <;> simp only [h, evS, tyS, Bool.not_true, Bool.not_false, Nat.reduceAdd, Nat.reduceSub, Nat.reduceMul, Nat.reduceLT, Nat.reduceLeDiff, Nat.reduceEqDiff, reduceCtorEq, List.reduceReplicate, Int.reduceToNat, Int.reduceLE, Int.reduceLT]) | (refine DrawK.intro (by kernel_rfl) (by kernel_rfl) ?_; simp only [evS, tyS, Bool.not_true, Bool.not_false, Nat.reduceAdd, Nat.reduceSub, Nat.reduceMul, Nat.reduceLT, Nat.reduceLeDiff, Nat.reduceEqDiff, reduceCtorEq, List.reduceReplicate, Int.reduceToNat, Int.reduceLE, Int.reduceLT])))
    all_goals first | done | rfl | exact .inl rfl | trace_state
  · by_cases hj3 : j = 3
    · have d2 : decide ((j : Int) < 3) = false := decide_eq_false (by omega)
      simp only [d2, evS, tyS, Bool.not_true, Bool.not_false, Nat.reduceAdd, Nat.reduceSub, Nat.reduceMul, Nat.reduceLT, Nat.reduceLeDiff, Nat.reduceEqDiff, reduceCtorEq, List.reduceReplicate, Int.reduceToNat, Int.reduceLE, Int.reduceLT]
      (repeat' (first | (with_reducible refine And.intro ?_ ?_) | ((first | refine GuardK.intro_f (fun h => ?_) (fun h => ?_) | refine GuardK.intro_t (fun h => ?_) (fun h => ?_) | refine CondK.intro (fun h => ?_) (fun h => ?_) | refine PickK.intro (fun h => ?_) (fun h => ?_)) <;> simp only [h, d2, evS, tyS, Bool.not_true, Bool.not_false, Nat.reduceAdd, Nat.reduceSub, Nat.reduceMul, Nat.reduceLT, Nat.reduceLeDiff, Nat.reduceEqDiff, reduceCtorEq, List.reduceReplicate, Int.reduceToNat, Int.reduceLE, Int.reduceLT]) | (refine DrawK.intro (by kernel_rfl) (by kernel_rfl) ?_; simp only [d2, evS, tyS, Bool.not_true, Bool.not_false, Nat.reduceAdd, Nat.reduceSub, Nat.reduceMul, Nat.reduceLT, Nat.reduceLeDiff, Nat.reduceEqDiff, reduceCtorEq, List.reduceReplicate, Int.reduceToNat, Int.reduceLE, Int.reduceLT])))
      all_goals first | done | rfl | exact .inl rfl | trace_state
    · have d2 : decide ((j : Int) < 3) = true := decide_eq_true (by omega)
      have ew : IntKind.i64.wrap ((j : Int) + 1) = ((j + 1 : Nat) : Int) := i64w (by omega) (by omega)
      simp only [d2, evS, tyS, Bool.not_true, Bool.not_false, Nat.reduceAdd, Nat.reduceSub, Nat.reduceMul, Nat.reduceLT, Nat.reduceLeDiff, Nat.reduceEqDiff, reduceCtorEq, List.reduceReplicate, Int.reduceToNat, Int.reduceLE, Int.reduceLT]
      refine CallK.intro b11 (by simp [treeL, kt]) k11 ?_
      simp only [evS, tyS, Bool.not_true, Bool.not_false, Nat.reduceAdd, Nat.reduceSub, Nat.reduceMul, Nat.reduceLT, Nat.reduceLeDiff, Nat.reduceEqDiff, reduceCtorEq, List.reduceReplicate, Int.reduceToNat, Int.reduceLE, Int.reduceLT]
      refine CallK.intro b16 (by simp [treeL, kt]) k16 ?_
      simp only [evS, tyS, Bool.not_true, Bool.not_false, Nat.reduceAdd, Nat.reduceSub, Nat.reduceMul, Nat.reduceLT, Nat.reduceLeDiff, Nat.reduceEqDiff, reduceCtorEq, List.reduceReplicate, Int.reduceToNat, Int.reduceLE, Int.reduceLT]
      refine CallK.intro b12 (by simp [treeL, kt]) k12 ?_
      by_cases he : q.err = 0
      · have e0 : (q.err != 0) = false := by rw [he]; rfl
        have eg : q.got = q.toks := by unfold Told.got; rw [if_pos he]
        rw [eg] at hgot
        simp only [e0, eg, evS, tyS, Bool.not_true, Bool.not_false, Nat.reduceAdd, Nat.reduceSub, Nat.reduceMul, Nat.reduceLT, Nat.reduceLeDiff, Nat.reduceEqDiff, reduceCtorEq, List.reduceReplicate, Int.reduceToNat, Int.reduceLE, Int.reduceLT]
        refine CallK.intro b17 (by simp [treeL, treeA_list]) (tokens_ev _ hgot) ?_
        simp only [bne_self, evS, tyS, Bool.not_true, Bool.not_false, Nat.reduceAdd, Nat.reduceSub, Nat.reduceMul, Nat.reduceLT, Nat.reduceLeDiff, Nat.reduceEqDiff, reduceCtorEq, List.reduceReplicate, Int.reduceToNat, Int.reduceLE, Int.reduceLT]
        refine CallK.intro b15 (by simp [treeL, kt]) k15 ?_
        simp only [evS, tyS, Bool.not_true, Bool.not_false, Nat.reduceAdd, Nat.reduceSub, Nat.reduceMul, Nat.reduceLT, Nat.reduceLeDiff, Nat.reduceEqDiff, reduceCtorEq, List.reduceReplicate, Int.reduceToNat, Int.reduceLE, Int.reduceLT]
        refine CallK.intro b18 (by simp [treeL, kt]) k18 ?_
        simp only [evS, tyS, Bool.not_true, Bool.not_false, Nat.reduceAdd, Nat.reduceSub, Nat.reduceMul, Nat.reduceLT, Nat.reduceLeDiff, Nat.reduceEqDiff, reduceCtorEq, List.reduceReplicate, Int.reduceToNat, Int.reduceLE, Int.reduceLT]
        refine CallK.intro b17 (by simp [treeL, treeA_list]) (tokens_ev _ hgot) ?_
        simp only [ew, evS, tyS, Bool.not_true, Bool.not_false, Nat.reduceAdd, Nat.reduceSub, Nat.reduceMul, Nat.reduceLT, Nat.reduceLeDiff, Nat.reduceEqDiff, reduceCtorEq, List.reduceReplicate, Int.reduceToNat, Int.reduceLE, Int.reduceLT]
        refine loopC.intro (j + 1) (by omega) ?_ (by omega)
        simp only [evS, tyS, Bool.not_true, Bool.not_false, Nat.reduceAdd, Nat.reduceSub, Nat.reduceMul, Nat.reduceLT, Nat.reduceLeDiff, Nat.reduceEqDiff, reduceCtorEq, List.reduceReplicate, Int.reduceToNat, Int.reduceLE, Int.reduceLT]
      · have e0 : (q.err != 0) = true := by simpa using he
        have eg : q.got = [] := by unfold Told.got; rw [if_neg he]
        have el : listA [] = .v (.slice none 0 0) := rfl
        have kk := tokens_nil (γ := γ)
        simp only [e0, eg, el, evS, tyS, Bool.not_true, Bool.not_false, Nat.reduceAdd, Nat.reduceSub, Nat.reduceMul, Nat.reduceLT, Nat.reduceLeDiff, Nat.reduceEqDiff, reduceCtorEq, List.reduceReplicate, Int.reduceToNat, Int.reduceLE, Int.reduceLT]
        refine CallK.intro b17 rfl kk ?_
        simp only [bne_self, evS, tyS, Bool.not_true, Bool.not_false, Nat.reduceAdd, Nat.reduceSub, Nat.reduceMul, Nat.reduceLT, Nat.reduceLeDiff, Nat.reduceEqDiff, reduceCtorEq, List.reduceReplicate, Int.reduceToNat, Int.reduceLE, Int.reduceLT]
        refine CallK.intro b15 (by simp [treeL, kt]) k15 ?_
        simp only [evS, tyS, Bool.not_true, Bool.not_false, Nat.reduceAdd, Nat.reduceSub, Nat.reduceMul, Nat.reduceLT, Nat.reduceLeDiff, Nat.reduceEqDiff, reduceCtorEq, List.reduceReplicate, Int.reduceToNat, Int.reduceLE, Int.reduceLT]
        refine CallK.intro b18 (by simp [treeL, kt]) k18 ?_
        simp only [evS, tyS, Bool.not_true, Bool.not_false, Nat.reduceAdd, Nat.reduceSub, Nat.reduceMul, Nat.reduceLT, Nat.reduceLeDiff, Nat.reduceEqDiff, reduceCtorEq, List.reduceReplicate, Int.reduceToNat, Int.reduceLE, Int.reduceLT]
        refine CallK.intro b17 rfl kk ?_
        simp only [ew, evS, tyS, Bool.not_true, Bool.not_false, Nat.reduceAdd, Nat.reduceSub, Nat.reduceMul, Nat.reduceLT, Nat.reduceLeDiff, Nat.reduceEqDiff, reduceCtorEq, List.reduceReplicate, Int.reduceToNat, Int.reduceLE, Int.reduceLT]
        refine loopC.intro (j + 1) (by omega) ?_ (by omega)
        simp only [evS, tyS, Bool.not_true, Bool.not_false, Nat.reduceAdd, Nat.reduceSub, Nat.reduceMul, Nat.reduceLT, Nat.reduceLeDiff, Nat.reduceEqDiff, reduceCtorEq, List.reduceReplicate, Int.reduceToNat, Int.reduceLE, Int.reduceLT]
end Go.Proofs.YtplnhipgifcafaaDoor
/- LexScans: for every text the law answers true, and the text reads afterwards as it did: her row, and the card over it. -/
namespace Go.Proofs.YtplnhipgifcafaaDoor
set_option linter.all false
open Go Go.Ev Go.Lib
open Go.ChangeShapes Go.WideShapes Go.ChangeAt Go.RowKit
open Go.ChangeMaps (open_string shut_string)
namespace lexScans
set_option maxRecDepth 100000 in
theorem contract (H : Type) (enc : TypeId × Value → H) (W : World) (base : Nat) (args : Array Value) (ds gs : List (DataW H)) (before : List MemPlace)
    (hval : ∀ (j : Nat) t v, Tryd.f4.params[j]? = some t → args[j]? = some v → Value.okWide Tryd.prog W .any base t v)
    (hW : DataW.Whole enc Tryd.prog Tryd.f4.params.toList Rows.lexScansSpec.vars false W args.toList ds gs before)
    (hsz : (DataW.weightsEach Tryd.prog (Tryd.f4.params.toList ++ Rows.lexScansSpec.plain.varTypes Tryd.prog) (ds ++ gs)).all (· ≤ reachBytes) = true)
    (hL : laidMet Tryd.prog laidL W) (hS : W.ShapedOpen Tryd.prog) :
    Calls Tryd.prog 4 args W fun e W' => ∃ v, e = .returned v ∧ Rows.lexScansSpec.post enc Tryd.prog Tryd.f4 false true false false W args v W' := by
  have hW' := hW
  obtain ⟨p, q, hA0, hV, rfl, hfz, hnd⟩ := hW
  have hA : DataW.TrodAll enc Tryd.prog W 0 (fun _ => true) true Tryd.f4.params.toList args.toList ds p := hA0
  rw [Tryd.params4] at hA hval hsz
  obtain ⟨v0, vs0, d0, ds0, p0, q0, hargs, rfl, rfl, h0, r0⟩ := trodAll_cons hA
  obtain ⟨rfl, rfl, rfl⟩ := trodAll_nil r0
  obtain rfl : args = #[v0] := by cases args; simp_all
  obtain ⟨rfl, rfl⟩ := trodVars_none hV
  have hs0 := okWide_sl Tryd.underlying22 (hval 0 22 v0 rfl rfl)
  obtain ⟨a0, len0, cap0, hv0⟩ := okWide_slice Tryd.underlying22 (hval 0 22 v0 rfl rfl)
  have k0 := h0
  have lt0 : ∀ x ∈ p0, x.block < W.heap.size := by obtain ⟨m, hm⟩ := k0; exact DataW.trod_lt m _ _ _ hm
  have y0 : len0 * 1 ≤ 140737488351232 := by
    rw [hv0] at h0
    exact size_ints hsz (j := 0) (t := 22) rfl rfl Tryd.underlying22 Tryd.underlying5 (by kernel_rfl) (by kernel_rfl) h0
  let c : Cx := cx0 Tryd.prog (fun _ => False) (fun _ => False) W
  have hrow : ∃ l : List UInt8, l.length = len0 ∧ ((v0 = .slice none 0 0 ∧ l = [] ∧ rel (.v (.slice none 0 0)) c v0) ∨ rel (.sl false l.length l.length (l.map byteC)) c v0) := by
    have h0' := h0
    rw [hv0] at h0'
    obtain ⟨fuel, hf⟩ := h0'
    rcases open_ints Tryd.underlying22 Tryd.underlying5 (by kernel_rfl) hf with ⟨hcs, _⟩ | ⟨x, l, cp, zs, hcs, _, hl, hm, hz, _, hcell, hwz⟩
    · simp [Value.cells] at hcs
      obtain ⟨rfl, rfl, rfl⟩ := hcs
      exact ⟨[], rfl, .inl ⟨hv0, rfl, by simp only [rel]; exact hv0⟩⟩
    · simp [Value.cells] at hcs
      obtain ⟨rfl, rfl, rfl⟩ := hcs
      exact rowAV (c := c) rfl (fun r hr => ⟨hr, by simp⟩) hv0 hs0 (by simpa using hz) (fun y hy => by cases hy; exact hcell) hwz
  clear hA0 hsz
  obtain ⟨l, hl, hrow⟩ := hrow
  have hl' : l.length ≤ 140737488351232 := by omega
  obtain ⟨m, hm⟩ := maxLen_cell hS
  obtain ⟨te, pe, hpe⟩ := errRange_cell hL
  have hcalls : Calls Tryd.prog 4 #[v0] W fun e w' => ∃ u, e = .returned u ∧ rel (.v (.bool true)) (cx0 Tryd.prog (fun _ => False) (fun _ => False) w') u ∧ Below W.heap.size W w' := by
    rcases hrow with ⟨rfl, rfl, hr⟩ | hr
    · refine calls_of_ev (lexScans_none (gam_gl m te pe) (gam_glw m te pe) (.v (.slice none 0 0)) rfl lent_nil) hm hpe ?_
      simp only [relL, rel]
      exact ⟨_, _, rfl, rfl, rfl⟩
    · by_cases h0 : l = []
      · subst h0
        refine calls_of_ev (lexScans_none (gam_gl m te pe) (gam_glw m te pe) (.sl false ([] : List UInt8).length ([] : List UInt8).length (([] : List UInt8).map byteC)) rfl (lent_ev false [] (by simp))) hm hpe ?_
        simp only [relL]
        exact ⟨_, _, rfl, hr, rfl⟩
      · refine calls_of_ev (lexScans_ev (gam_gl m te pe) (gam_glw m te pe) false l h0 hl') hm hpe ?_
        simp only [relL]
        exact ⟨_, _, rfl, hr, rfl⟩
  refine hcalls.mono fun e W' ⟨u, he, hu, bel⟩ => ?_
  simp only [rel] at hu
  subst he
  subst hu
  exact ⟨_, rfl, _, _, _, [], _, [], hW', trodAll_mk1 (shut_bool Tryd.underlying4 _), (trodAll_cons_mk (Below.trod laidOut (by kernel_rfl) (of_decide_eq_true (by kernel_rfl)) k0 bel lt0) trodAll_mk0), rfl, bel.frame _, fun h => by cases h⟩
theorem witness_row (os : Os) {H : Type} (enc : TypeId × Value → H) : (OpenSpec.ofChange Rows.lexScansSpec).preRow enc Tryd.prog Tryd.f4 Rows.lexScansRow.domain false Rows.lexScansRow.laid ((laidWorld os).forCall (fun _ _ => 0) ⟨#[], #[.slice none 0 0], []⟩).memory #[.slice none 0 0] := by
  have hw : ((DataW.whole enc Tryd.prog ((laidWorld os).forCall (fun _ _ => 0) ⟨#[], #[.slice none 0 0], []⟩).memory Tryd.f4.params.toList Rows.lexScansSpec.vars false #[Value.slice none 0 0].toList 8).map (fun x => (x.1, x.2.1))).isSome = true := by kernel_rfl
  obtain ⟨x, hx⟩ := Option.isSome_iff_exists.1 hw
  obtain ⟨⟨x1, x2, x3⟩, hx', hx1⟩ := Option.map_eq_some_iff.1 hx
  exact OpenSpec.preRow_of_cond 8 hx' (by kernel_rfl) (fun k hk => by cases hk) (by kernel_rfl) (laid_met os _)
set_option maxRecDepth 100000 in
theorem lifted (os : Os) (started : os.Started) (H : Type) (enc : TypeId × Value → H) (F : Stop.Interp) :
    ReturnsInHanded {} Tryd.checked os 4 .any ((OpenSpec.ofChange Rows.lexScansSpec).preRow enc Tryd.prog Tryd.f4 Rows.lexScansRow.domain false Rows.lexScansRow.laid) (((OpenSpec.ofChange Rows.lexScansSpec).at F).post enc Tryd.prog Tryd.f4 false true false false) := by
  refine returnsInHanded_of_row (C := Tryd.checked) (s := OpenSpec.ofChange Rows.lexScansSpec) own started (by kernel_rfl) Tryd.func4
    (witness_row_atRef (enc := enc) (C := Tryd.checked) false (laidWorld os) #[.slice none 0 0] rfl (by kernel_rfl) (by kernel_rfl) (by kernel_rfl) (witness_row os enc)) ?_
  intro W base args ds gs before hval hW _ _ hsz hL hS _
  exact contract H enc W base args ds gs before hval hW hsz hL hS
theorem said : Rows.LexScansSaid :=
  OpenClaim.holds_of_cond 4 Tryd.f4 rfl rfl rfl rfl rfl rfl rfl ⟨rfl, rfl, rfl, rfl, rfl⟩ rfl rfl rfl rfl rfl (by kernel_rfl) Tryd.func4 (by kernel_rfl)
    (of_decide_eq_true (by kernel_rfl)) (by unfold Func.isWrapper; first | (rw [if_pos (by decide +kernel)]; kernel_rfl) | (rw [if_neg (by decide +kernel)]; exact ⟨rfl, rfl⟩))
    (fun os started H enc _ F => by rw [OpenClaim.pre_eq_preRow]; exact lifted os started H enc F)
/-- No parameter wants a stand-in; the program's own looks are off: what the card asks. -/
theorem plain (f : FuncId) (fn : Func) (hf : Tryd.pinned.checked.prog.funcNamed "chordmail/chordmaillaw01.LexScans" = some f) (hfn : Tryd.pinned.checked.prog.funcs[f]? = some fn) :
    true = Tryd.pinned.checked.prog.looks [] ∧ ∀ (j : Nat) t, fn.params[j]? = some t → Tryd.pinned.checked.prog.wantsStandIn t = false := by
  obtain rfl : f = 4 := Option.some.inj ((show Tryd.prog.funcNamed "chordmail/chordmaillaw01.LexScans" = some 4 by kernel_rfl).symm.trans hf) |>.symm
  obtain rfl : fn = Tryd.f4 := (Option.some.inj (Tryd.func4.symm.trans hfn)).symm
  refine ⟨by kernel_rfl, fun j t ht => ?_⟩
  rw [Tryd.params4] at ht
  obtain rfl : t = 22 := by simpa using Array.mem_of_getElem? ht
  exact (show Tryd.prog.wantsStandIn 22 = false by kernel_rfl)
end lexScans
theorem lexScans_holds : Rows.LexScansCardSaid :=
  Claim7.holds_tied_plain_at .later [] _ _ _ _ lexScans.said (fun _ h => by cases h) (by kernel_rfl) (fun _ h => by cases h) lexScans_row_tie rfl ⟨rfl, rfl⟩ (by kernel_rfl) rfl lexScans.plain (by kernel_rfl)
#print axioms lexScans_holds
end Go.Proofs.YtplnhipgifcafaaDoor
