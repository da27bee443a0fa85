/- Contracts of the functions that the law reaches. -/
import Derived.Test.YtlobiioioicmhaaGreatDoorQ0
import Derived.KernelRfl
import Derived.Test.YtlobiioioicmhaaGreatDoorProg
/- The reader's blocks. -/
namespace Go.Proofs.YtlobiioioicmhaaGreatDoor
set_option linter.all false
open Go Go.Ev
/-- All but the blocks of S stay. -/
def Fr (S : Nat → Prop) (h h' : List ABlk) : Prop := h.length ≤ h'.length ∧ ∀ k, k < h.length → ¬ S k → h'[k]? = h[k]?
theorem Fr.refl (S : Nat → Prop) (h : List ABlk) : Fr S h h := ⟨Nat.le_refl _, fun _ _ _ => rfl⟩
theorem Fr.trans {S S1 : Nat → Prop} {h h1 h2 : List ABlk} (a : Fr S h h1) (b : Fr S1 h1 h2) (hs : ∀ k, S1 k → S k ∨ h.length ≤ k) : Fr S h h2 :=
  ⟨Nat.le_trans a.1 b.1, fun k hk hn => (b.2 k (Nat.lt_of_lt_of_le hk a.1) fun hk1 => (hs k hk1).elim hn fun hle => by omega).trans (a.2 k hk hn)⟩
theorem Fr.set {S : Nat → Prop} {h : List ABlk} {i : Nat} (b : ABlk) (hi : S i) : Fr S h (h.set i b) :=
  ⟨by simp, fun k hk hn => List.getElem?_set_ne fun e => by subst e; exact hn hi⟩
theorem Fr.app {S : Nat → Prop} (h l : List ABlk) : Fr S h (h ++ l) :=
  ⟨by simp, fun k hk _ => List.getElem?_append_left hk⟩
theorem Fr.mono {S S1 : Nat → Prop} {h h1 : List ABlk} (a : Fr S h h1) (hs : ∀ k, S k → S1 k) : Fr S1 h h1 := ⟨a.1, fun k hk hn => a.2 k hk fun e => hn (hs k e)⟩
theorem Fr.at {S : Nat → Prop} {h h1 : List ABlk} (a : Fr S h h1) {k : Nat} {b : ABlk} (hk : h[k]? = some b) (hn : ¬ S k) : h1[k]? = some b :=
  (a.2 k (List.getElem?_eq_some_iff.1 hk).1 hn).trans hk
/-- The block of a list. -/
def nbk (N : AV) (k : Nat) : Prop := match N with
  | .own j _ _ => k = j
  | _ => False
/-- The list of nodes. -/
def NsAt (h : List ABlk) (N : AV) (ns : List Nd) : Prop := (N = .v (.slice none 0 0) ∧ ns = []) ∨ ∃ j ver, N = .own j ver ns.length ∧ h[j]? = some ⟨ver, 115, ndCells ns⟩
theorem NsAt.fr {S : Nat → Prop} {h h1 : List ABlk} {N : AV} {ns : List Nd} (a : NsAt h N ns) (f : Fr S h h1) (hn : ∀ k, nbk N k → ¬ S k) : NsAt h1 N ns := by
  rcases a with a | ⟨j, ver, rfl, hj⟩
  · exact .inl a
  · exact .inr ⟨j, ver, rfl, f.at hj (hn j rfl)⟩
/-- The reader. -/
def RS (h : List ABlk) (i : Nat) (L : AV) (p : Nat) (N : AV) (ns : List Nd) : Prop := h[i]? = some ⟨0, 104, [L, .v (.int .i64 p), N]⟩ ∧ NsAt h N ns
theorem RS.lt {h : List ABlk} {i : Nat} {L : AV} {p : Nat} {N : AV} {ns : List Nd} (a : RS h i L p N ns) : i < h.length := (List.getElem?_eq_some_iff.1 a.1).1
theorem RS.ne {h : List ABlk} {i : Nat} {L : AV} {p : Nat} {N : AV} {ns : List Nd} (a : RS h i L p N ns) {k : Nat} (hk : nbk N k) : k ≠ i := by
  intro e
  subst e
  rcases a.2 with ⟨rfl, _⟩ | ⟨j, ver, rfl, hj⟩
  · exact hk
  · have hk' : k = j := hk
    subst hk'
    rw [a.1] at hj
    cases hj
/-- The reader moves on. -/
theorem RS.move {h : List ABlk} {i : Nat} {L : AV} {p : Nat} {N : AV} {ns : List Nd} (a : RS h i L p N ns) (q : Nat) : RS (h.set i ⟨0, 104, [L, .v (.int .i64 q), N]⟩) i L q N ns :=
  ⟨List.getElem?_set_self a.lt, a.2.fr (S := fun k => k = i) (Fr.set _ rfl) fun k hk => a.ne hk⟩
def RP (i : Nat) (N : AV) (k : Nat) : Prop := k = i ∨ nbk N k
def faultA (q : Nat) : AV := .ifc 185 (.agg [.v (.int .i64 q)])
/-- How a reading call ends: with a tree, laid out behind the nodes, or by a panic. -/
def ResP (L : AV) (i : Nat) (N : AV) (h : List ABlk) (ns : List Nd) (r : Res) (o : Out) (h' : List ABlk) : Prop :=
  Fr (RP i N) h h' ∧ match r with
  | .ok t q => o = .ret (.v (.int .i64 ((ns.length + t.size - 1 : Nat) : Int))) ∧ ∃ N', RS h' i L q N' (ns ++ lay t ns.length) ∧ ∀ k, nbk N' k → nbk N k ∨ h.length ≤ k
  | .bad q => o = .pan (faultA q)
end Go.Proofs.YtlobiioioicmhaaGreatDoor
/- The program's reader of expressions, walked: its small functions. -/
namespace Go.Proofs.YtlobiioioicmhaaGreatDoor
set_option linter.all false
open Go Go.Ev
set_option maxRecDepth 20000
variable {γ : List (Nat × AV)}
theorem tyX : aggT Tryz.prog 115 = some true ∧
    aggT Tryz.prog 2 = some false ∧
    aggT Tryz.prog 22 = some false ∧
    aggT Tryz.prog 3 = some false ∧
    aggT Tryz.prog 39 = some false ∧
    aggT Tryz.prog 48 = some false ∧
    aggT Tryz.prog 53 = some true ∧
    aggT Tryz.prog 9 = some false ∧
    appT Tryz.prog 39 39 = some (115, 9, 96) ∧
    elemT Tryz.prog 39 = some 115 ∧
    elemT Tryz.prog 48 = some 53 ∧
    fieldT Tryz.prog 104 0 = some (0, 48) ∧
    fieldT Tryz.prog 104 1 = some (1, 3) ∧
    fieldT Tryz.prog 104 2 = some (2, 39) ∧
    fieldT Tryz.prog 115 2 = some (2, 3) ∧
    fieldT Tryz.prog 185 0 = some (0, 3) ∧
    fieldT Tryz.prog 53 0 = some (0, 3) ∧
    fieldT Tryz.prog 53 1 = some (1, 9) ∧
    fieldT Tryz.prog 53 2 = some (2, 2) ∧
    fieldT Tryz.prog 53 3 = some (3, 22) ∧
    ifcT Tryz.prog 185 = some false ∧
    ifcT Tryz.prog 20 = some true ∧
    mkT Tryz.prog 39 = some (115, 9, [.v (.int .i64 0), .v (.int .i64 0), .v (.int .i64 0), .v (.string ⟨#[]⟩), .v (.int .i64 0), .v (.int .i64 0), .v (.float .f64 0), .v (.complex .f64 0 0), .v (.string ⟨#[]⟩)]) ∧
    placesT Tryz.prog 115 = some [(0, 1), (1, 1), (2, 1), (3, 1), (4, 5)] ∧
    placesT Tryz.prog 185 = some [(0, 1)] ∧
    placesT Tryz.prog 25 = some [(0, 1), (1, 1), (2, 1), (3, 1), (4, 1)] ∧
    sizeT Tryz.prog 115 = some 9 ∧
    sizeT Tryz.prog 185 = some 1 ∧
    sizeT Tryz.prog 2 = some 1 ∧
    sizeT Tryz.prog 22 = some 1 ∧
    sizeT Tryz.prog 3 = some 1 ∧
    sizeT Tryz.prog 39 = some 1 ∧
    sizeT Tryz.prog 48 = some 1 ∧
    sizeT Tryz.prog 53 = some 6 ∧
    sizeT Tryz.prog 9 = some 1 ∧
    zcT Tryz.prog 115 = some [.v (.int .i64 0), .v (.int .i64 0), .v (.int .i64 0), .v (.string ⟨#[]⟩), .v (.int .i64 0), .v (.int .i64 0), .v (.float .f64 0), .v (.complex .f64 0 0), .v (.string ⟨#[]⟩)] ∧
    zcT Tryz.prog 185 = some [.v (.int .i64 0)] ∧
    zcT Tryz.prog 25 = some [.v (.int .i64 0), .v (.int .i64 0), .v (.float .f64 0), .v (.complex .f64 0 0), .v (.string ⟨#[]⟩)] ∧
    zcT Tryz.prog 3 = some [.v (.int .i64 0)] ∧
    zcT Tryz.prog 53 = some [.v (.int .i64 0), .v (.string ⟨#[]⟩), .v (.int .i64 0), .v (.float .f64 0), .v (.int .i64 0), .v (.int .i64 0)] :=
  ⟨by kernel_rfl, by kernel_rfl, by kernel_rfl, by kernel_rfl, by kernel_rfl, by kernel_rfl, by kernel_rfl, by kernel_rfl, by kernel_rfl, by kernel_rfl, by kernel_rfl, by kernel_rfl, by kernel_rfl, by kernel_rfl, by kernel_rfl, by kernel_rfl, by kernel_rfl, by kernel_rfl, by kernel_rfl, by kernel_rfl, by kernel_rfl, by kernel_rfl, by kernel_rfl, by kernel_rfl, by kernel_rfl, by kernel_rfl, by kernel_rfl, by kernel_rfl, by kernel_rfl, by kernel_rfl, by kernel_rfl, by kernel_rfl, by kernel_rfl, by kernel_rfl, by kernel_rfl, by kernel_rfl, by kernel_rfl, by kernel_rfl, by kernel_rfl, by kernel_rfl⟩
theorem c186 : bodyT Tryz.prog 186 := ⟨_, Tryz.func186, by kernel_rfl, by kernel_rfl⟩
theorem c188 : bodyT Tryz.prog 188 := ⟨_, Tryz.func188, by kernel_rfl, by kernel_rfl⟩
theorem c282 : bodyT Tryz.prog 282 := ⟨_, Tryz.func282, by kernel_rfl, by kernel_rfl⟩
theorem c185 : bodyT Tryz.prog 185 := ⟨_, Tryz.func185, by kernel_rfl, by kernel_rfl⟩
theorem c187 : bodyT Tryz.prog 187 := ⟨_, Tryz.func187, by kernel_rfl, by kernel_rfl⟩
theorem c299 : bodyT Tryz.prog 299 := ⟨_, Tryz.func299, by kernel_rfl, by kernel_rfl⟩
theorem c115 : bodyT Tryz.prog 115 := ⟨_, Tryz.func115, by kernel_rfl, by kernel_rfl⟩
theorem mkA_ge {ts : List Tk} {p : Nat} (h : ts.length ≤ p) : mkA ts p = [] := by
  unfold mkA; rw [List.getElem?_eq_none h]
theorem LAt.at {ts : List Tk} {cs : List AV} (h : tkCells ts <+: cs) {p : Nat} {t : Tk} (hp : ts[p]? = some t) :
    cs[p * 6]? = some (.v (.int .i64 t.kind)) ∧ cs[p * 6 + 1]? = some (.v (.string ⟨t.text.toArray⟩)) ∧ cs[p * 6 + 2]? = some (.v (.int .i64 t.int)) ∧ cs[p * 6 + 3]? = some (.v (.float .f64 t.real)) ∧
      cs[p * 6 + 4]? = some (.v (.int .i64 t.pos)) ∧ cs[p * 6 + 5]? = some (.v (.int .i64 t.size)) :=
  ⟨LAt.cell (b := false) h hp (k := 0) (by decide), LAt.cell (b := false) h hp (k := 1) (by decide), LAt.cell (b := false) h hp (k := 2) (by decide), LAt.cell (b := false) h hp (k := 3) (by decide), LAt.cell (b := false) h hp (k := 4) (by decide), LAt.cell (b := false) h hp (k := 5) (by decide)⟩
theorem mark_ev {ts : List Tk} {h : List ABlk} {i p : Nat} {L N : AV} {ns : List Nd} (hL : LAt L ts) (hr : RS h i L p N ns) :
    EvM Tryz.prog γ 186 [.ptr i 0 0] h fun o h' => o = .ret (.v (.string ⟨(mkA ts p).toArray⟩)) ∧ h' = h := by
  have hi := hr.1
  refine EvM.of Tryz.func186 rfl ?_
  rcases hL with ⟨rfl, rfl⟩ | ⟨b, m, cs, rfl, hcs⟩
  · have e0 : mkA [] p = [] := rfl
    have d1 : decide ((p : Int) < 0) = false := decide_eq_false (by omega)
    rw [e0]
    simp only [Tryz.f186, evE, Nat.reduceAdd, Nat.reduceSub, Nat.reduceLT]
    (repeat' (first | (with_reducible refine And.intro ?_ ?_) | ((first | refine GuardK.intro_f (fun h => ?_) (fun h => ?_) | refine GuardK.intro_t (fun h => ?_) (fun h => ?_) | refine CondK.intro (fun h => ?_) (fun h => ?_) | refine PickK.intro (fun h => ?_) (fun h => ?_)) <;> simp only [h, hi, d1, evE, tyX, Bool.not_true, Bool.not_false, Nat.reduceAdd, Nat.reduceSub, Nat.reduceMul, Nat.reduceLT, Nat.reduceLeDiff, Nat.reduceEqDiff, reduceCtorEq, List.reduceReplicate, Int.reduceToNat, Int.reduceLE, Int.reduceLT]) | (refine DrawK.intro (by kernel_rfl) (by kernel_rfl) ?_; simp only [hi, d1, evE, tyX, Nat.reduceLT, Nat.reduceEqDiff, reduceCtorEq])))
  · by_cases hlt : p < ts.length
    · have d1 : decide (p < ts.length) = true := decide_eq_true (by omega)
      have ht : ts[p]? = some ts[p] := by simp [hlt]
      generalize ts[p] = t at ht
      obtain ⟨k0, k1, _⟩ := LAt.at hcs ht
      by_cases hk : t.kind = 5
      · have e0 : mkA ts p = t.text := by unfold mkA; rw [ht]; simp [hk]
        have d2 : (t.kind == 5) = true := by simpa using hk
        rw [e0]
        simp only [Tryz.f186, evE, Nat.reduceAdd, Nat.reduceSub, Nat.reduceLT]
        (repeat' (first | (with_reducible refine And.intro ?_ ?_) | ((first | refine GuardK.intro_f (fun h => ?_) (fun h => ?_) | refine GuardK.intro_t (fun h => ?_) (fun h => ?_) | refine CondK.intro (fun h => ?_) (fun h => ?_) | refine PickK.intro (fun h => ?_) (fun h => ?_)) <;> simp only [h, hi, d1, d2, k0, k1, evE, tyX, Bool.not_true, Bool.not_false, Nat.reduceAdd, Nat.reduceSub, Nat.reduceMul, Nat.reduceLT, Nat.reduceLeDiff, Nat.reduceEqDiff, reduceCtorEq, List.reduceReplicate, Int.reduceToNat, Int.reduceLE, Int.reduceLT]) | (refine DrawK.intro (by kernel_rfl) (by kernel_rfl) ?_; simp only [hi, d1, d2, k0, k1, evE, tyX, Nat.reduceLT, Nat.reduceEqDiff, reduceCtorEq])))
        all_goals exact hlt
      · have e0 : mkA ts p = [] := by unfold mkA; rw [ht]; simp [hk]
        have d2 : (t.kind == 5) = false := by simpa using hk
        rw [e0]
        simp only [Tryz.f186, evE, Nat.reduceAdd, Nat.reduceSub, Nat.reduceLT]
        (repeat' (first | (with_reducible refine And.intro ?_ ?_) | ((first | refine GuardK.intro_f (fun h => ?_) (fun h => ?_) | refine GuardK.intro_t (fun h => ?_) (fun h => ?_) | refine CondK.intro (fun h => ?_) (fun h => ?_) | refine PickK.intro (fun h => ?_) (fun h => ?_)) <;> simp only [h, hi, d1, d2, k0, k1, evE, tyX, Bool.not_true, Bool.not_false, Nat.reduceAdd, Nat.reduceSub, Nat.reduceMul, Nat.reduceLT, Nat.reduceLeDiff, Nat.reduceEqDiff, reduceCtorEq, List.reduceReplicate, Int.reduceToNat, Int.reduceLE, Int.reduceLT]) | (refine DrawK.intro (by kernel_rfl) (by kernel_rfl) ?_; simp only [hi, d1, d2, k0, evE, tyX, Nat.reduceLT, Nat.reduceEqDiff, reduceCtorEq])))
        all_goals exact hlt
    · have d1 : decide (p < ts.length) = false := decide_eq_false (by omega)
      rw [mkA_ge (by omega)]
      simp only [Tryz.f186, evE, Nat.reduceAdd, Nat.reduceSub, Nat.reduceLT]
      (repeat' (first | (with_reducible refine And.intro ?_ ?_) | ((first | refine GuardK.intro_f (fun h => ?_) (fun h => ?_) | refine GuardK.intro_t (fun h => ?_) (fun h => ?_) | refine CondK.intro (fun h => ?_) (fun h => ?_) | refine PickK.intro (fun h => ?_) (fun h => ?_)) <;> simp only [h, hi, d1, evE, tyX, Bool.not_true, Bool.not_false, Nat.reduceAdd, Nat.reduceSub, Nat.reduceMul, Nat.reduceLT, Nat.reduceLeDiff, Nat.reduceEqDiff, reduceCtorEq, List.reduceReplicate, Int.reduceToNat, Int.reduceLE, Int.reduceLT]) | (refine DrawK.intro (by kernel_rfl) (by kernel_rfl) ?_; simp only [hi, d1, evE, tyX, Nat.reduceLT, Nat.reduceEqDiff, reduceCtorEq])))
end Go.Proofs.YtlobiioioicmhaaGreatDoor
/- The program's reader of expressions, walked: a mark taken, a node put. -/
namespace Go.Proofs.YtlobiioioicmhaaGreatDoor
set_option linter.all false
open Go Go.Ev
set_option maxRecDepth 20000
variable {γ : List (Nat × AV)}
def TakeP (ts : List Tk) (L : AV) (i p : Nat) (N : AV) (s : List UInt8) (h : List ABlk) (o : Out) (h' : List ABlk) : Prop :=
  if mkA ts p = s then o = .ret (.tup []) ∧ h' = h.set i ⟨0, 104, [L, .v (.int .i64 ((p + 1 : Nat) : Int)), N]⟩ else o = .pan (faultA p) ∧ h' = h
theorem take_ev {ts : List Tk} {h : List ABlk} {i p : Nat} {L N : AV} {ns : List Nd} (hL : LAt L ts) (hr : RS h i L p N ns) (hb : p < 4611686018427387904) (s : List UInt8) :
    EvM Tryz.prog γ 282 [.ptr i 0 0, .v (.string ⟨s.toArray⟩)] h (TakeP ts L i p N s h) := by
  have hi := hr.1
  have w1 : IntKind.i64.wrap ((p : Int) + 1) = ((p + 1 : Nat) : Int) := (i64w (by omega) (by omega)).trans (by omega)
  refine EvM.of Tryz.func282 rfl ?_
  simp only [Tryz.f282, evE, Nat.reduceAdd, Nat.reduceSub, Nat.reduceLT, Nat.reduceEqDiff, reduceCtorEq]
  refine CallE.intro c186 _ (mark_ev hL hr) (fun r h' hh => ?_) (fun v h' hh => by cases hh.1)
  obtain ⟨e, rfl⟩ := hh
  cases e
  by_cases hm : mkA ts p = s
  · have d1 : (mkA ts p == s) = true := by simpa using hm
    simp only [hi, d1, w1, evE, tyX, Bool.not_true, Nat.reduceAdd, Nat.reduceLT, Nat.reduceLeDiff, Nat.reduceEqDiff, reduceCtorEq]
    (repeat' (first | (with_reducible refine And.intro ?_ ?_) | ((first | refine GuardK.intro_f (fun h => ?_) (fun h => ?_) | refine GuardK.intro_t (fun h => ?_) (fun h => ?_) | refine CondK.intro (fun h => ?_) (fun h => ?_) | refine PickK.intro (fun h => ?_) (fun h => ?_)) <;> simp only [h, hi, d1, w1, evE, tyX, Bool.not_true, Bool.not_false, Nat.reduceAdd, Nat.reduceSub, Nat.reduceMul, Nat.reduceLT, Nat.reduceLeDiff, Nat.reduceEqDiff, reduceCtorEq, List.reduceReplicate, Int.reduceToNat, Int.reduceLE, Int.reduceLT]) | (refine DrawK.intro (by kernel_rfl) (by kernel_rfl) ?_; simp only [hi, d1, w1, evE, tyX, Bool.not_true, Bool.not_false, Nat.reduceAdd, Nat.reduceSub, Nat.reduceMul, Nat.reduceLT, Nat.reduceLeDiff, Nat.reduceEqDiff, reduceCtorEq, List.reduceReplicate, Int.reduceToNat, Int.reduceLE, Int.reduceLT])))
    unfold TakeP; rw [if_pos hm]; exact ⟨rfl, rfl⟩
  · have d1 : (mkA ts p == s) = false := by simpa using hm
    simp only [hi, d1, evE, tyX, Bool.not_false, Nat.reduceLT, Nat.reduceLeDiff, Nat.reduceEqDiff, reduceCtorEq]
    (repeat' (first | (with_reducible refine And.intro ?_ ?_) | ((first | refine GuardK.intro_f (fun h => ?_) (fun h => ?_) | refine GuardK.intro_t (fun h => ?_) (fun h => ?_) | refine CondK.intro (fun h => ?_) (fun h => ?_) | refine PickK.intro (fun h => ?_) (fun h => ?_)) <;> simp only [h, hi, d1, w1, evE, tyX, Bool.not_true, Bool.not_false, Nat.reduceAdd, Nat.reduceSub, Nat.reduceMul, Nat.reduceLT, Nat.reduceLeDiff, Nat.reduceEqDiff, reduceCtorEq, List.reduceReplicate, Int.reduceToNat, Int.reduceLE, Int.reduceLT]) | (refine DrawK.intro (by kernel_rfl) (by kernel_rfl) ?_; simp only [hi, d1, w1, evE, tyX, Bool.not_true, Bool.not_false, Nat.reduceAdd, Nat.reduceSub, Nat.reduceMul, Nat.reduceLT, Nat.reduceLeDiff, Nat.reduceEqDiff, reduceCtorEq, List.reduceReplicate, Int.reduceToNat, Int.reduceLE, Int.reduceLT])))
    unfold TakeP; rw [if_neg hm]; exact ⟨rfl, rfl⟩
def PutP (L : AV) (i p : Nat) (N : AV) (ns : List Nd) (nd : Nd) (h : List ABlk) (o : Out) (h' : List ABlk) : Prop :=
  o = .ret (.v (.int .i64 (ns.length : Int))) ∧ Fr (RP i N) h h' ∧ ∃ N', RS h' i L p N' (ns ++ [nd]) ∧ ∀ k, nbk N' k → nbk N k ∨ h.length ≤ k
theorem put_ev {h : List ABlk} {i p : Nat} {L N : AV} {ns : List Nd} (hr : RS h i L p N ns) (nd : Nd) (hb : (ns.length + 1) * 96 ≤ 140737488355328) :
    EvM Tryz.prog γ 188 [.ptr i 0 0, .agg nd.cells] h (PutP L i p N ns nd h) := by
  obtain ⟨hi, hn⟩ := hr
  have hlt : i < h.length := (List.getElem?_eq_some_iff.1 hi).1
  have g1 : ∀ l, (h ++ l)[i]? = some ⟨0, 104, [L, .v (.int .i64 p), N]⟩ := fun l => (List.getElem?_append_left hlt).trans hi
  have g2 : ∀ (x : ABlk) l, (h ++ x :: l)[h.length]? = some x := fun x l => by simp
  have g3 : ∀ (x y : ABlk) l, (h ++ x :: y :: l)[h.length + 1]? = some y := fun x y l => by simp
  have g4 : ∀ l b, ((h ++ l).set i b)[i]? = some b := fun l b => List.getElem?_set_self (by simp; omega)
  have g6 : ∀ x y z l b, ((h ++ x :: y :: z :: l).set i b)[h.length + 2]? = some z := fun x y z l b => by rw [List.getElem?_set_ne (by omega)]; simp
  have g5 : ∀ l j x b, (((h ++ l).set j x).set i b)[i]? = some b := fun l j x b => List.getElem?_set_self (by simp; omega)
  obtain ⟨k, a, b, nm, vk, vi, vr, vt⟩ := nd
  refine EvM.of Tryz.func188 rfl ?_
  rcases hn with ⟨rfl, rfl⟩ | ⟨j, ver, rfl, hj⟩
  · simp only [Tryz.f188, Nd.cells, evE, Nat.reduceAdd, Nat.reduceSub, Nat.reduceLT, reduceCtorEq]
    (repeat' (first | (with_reducible refine And.intro ?_ ?_) | ((first | refine GuardK.intro_f (fun h => ?_) (fun h => ?_) | refine GuardK.intro_t (fun h => ?_) (fun h => ?_) | refine CondK.intro (fun h => ?_) (fun h => ?_) | refine PickK.intro (fun h => ?_) (fun h => ?_)) <;> simp only [h, hi, g1, g2, g3, g4, g6, List.append_assoc, evE, tyX, Bool.not_true, Bool.not_false, Nat.reduceAdd, Nat.reduceSub, Nat.reduceMul, Nat.reduceLT, Nat.reduceLeDiff, Nat.reduceEqDiff, reduceCtorEq, List.reduceReplicate, Int.reduceToNat, Int.reduceLE, Int.reduceLT]) | (refine DrawK.text (by kernel_rfl) (by kernel_rfl) ?_; simp only [g1, g2, g3, g4, g6, List.append_assoc, evE, tyX, Nat.reduceAdd, Nat.reduceLT, Nat.reduceLeDiff, Nat.reduceEqDiff, reduceCtorEq, List.reduceReplicate])))
    refine ⟨by rw [i64w (by decide) (by decide)]; rfl, Fr.trans (Fr.app h _) (Fr.set (S := RP i (.v (.slice none 0 0))) _ (.inl rfl)) (fun k hk => .inl hk), _, ⟨g4 _ _, .inr ⟨_, _, rfl, g6 _ _ _ _ _⟩⟩, fun k hk => .inr (by have : k = h.length + 2 := hk; omega)⟩
  · have hjl : j < h.length := (List.getElem?_eq_some_iff.1 hj).1
    have hji : j ≠ i := fun e => by subst e; rw [hi] at hj; cases hj
    have q1 : ∀ l, (h ++ l)[j]? = some ⟨ver, 115, ndCells ns⟩ := fun l => (List.getElem?_append_left hjl).trans hj
    have q2 : ∀ l x, ((h ++ l).set j x)[i]? = some ⟨0, 104, [L, .v (.int .i64 p), .own j ver ns.length]⟩ := fun l x => (List.getElem?_set_ne hji).trans (g1 l)
    have q3 : ∀ l x b, (((h ++ l).set j x).set i b)[j]? = some x := fun l x b => (List.getElem?_set_ne hji.symm).trans (List.getElem?_set_self (by simp; omega))
    have q4 := ndCells_take ns
    have q5 := ndCells_length ns
    have q6 : ns.length * 9 ≤ (ndCells ns).length := by omega
    simp only [Tryz.f188, Nd.cells, evE, Nat.reduceAdd, Nat.reduceSub, Nat.reduceLT, reduceCtorEq]
    (repeat' (first | (with_reducible refine And.intro ?_ ?_) | ((first | refine GuardK.intro_f (fun h => ?_) (fun h => ?_) | refine GuardK.intro_t (fun h => ?_) (fun h => ?_) | refine CondK.intro (fun h => ?_) (fun h => ?_) | refine PickK.intro (fun h => ?_) (fun h => ?_)) <;> simp only [h, hi, g1, g2, g3, g4, g5, q1, q2, q3, q4, q5, q6, List.append_assoc, evE, tyX, Bool.not_true, Bool.not_false, Nat.reduceAdd, Nat.reduceSub, Nat.reduceMul, Nat.reduceLT, Nat.reduceLeDiff, Nat.reduceEqDiff, reduceCtorEq, List.reduceReplicate, Int.reduceToNat, Int.reduceLE, Int.reduceLT]) | (refine DrawK.text (by kernel_rfl) (by kernel_rfl) ?_; simp only [g1, g2, g3, g5, q1, q2, q3, q4, q5, List.append_assoc, evE, tyX, Nat.reduceAdd, Nat.reduceLT, Nat.reduceLeDiff, Nat.reduceEqDiff, reduceCtorEq, List.reduceReplicate])))
    · omega
    · exact hb
    · have e : IntKind.i64.wrap (((ns.length + 1 : Nat) : Int) - 1) = (ns.length : Int) := (i64w (by omega) (by omega)).trans (by omega)
      refine ⟨by rw [e], Fr.trans (Fr.trans (Fr.app h _) (Fr.set (S := RP i (.own j ver ns.length)) _ (.inr rfl)) (fun k hk => .inl hk)) (Fr.set (S := RP i (.own j ver ns.length)) _ (.inl rfl)) (fun k hk => .inl hk), .own j (ver + 1) (ns.length + 1), ⟨g5 _ _ _ _, .inr ⟨j, ver + 1, by rw [List.length_append]; rfl, ?_⟩⟩, fun k hk => .inl hk⟩
      rw [q3, ndCells_app]; rfl
end Go.Proofs.YtlobiioioicmhaaGreatDoor
/- The program's reader of expressions, walked: the tables. -/
namespace Go.Proofs.YtlobiioioicmhaaGreatDoor
set_option linter.all false
open Go Go.Ev
set_option maxRecDepth 20000
variable {γ : List (Nat × AV)}
set_option maxHeartbeats 2000000 in
theorem operator_ev (s : List UInt8) : Ev Tryz.prog γ 185 [.v (.string ⟨s.toArray⟩)] (.v (.int .i64 (opK s))) := by
  refine Ev.of Tryz.func185 rfl ?_
  unfold opK
  simp only [← beq_iff_eq (α := List UInt8)]
  simp only [Tryz.f185, evE, Nat.reduceAdd, Nat.reduceSub, Nat.reduceLT, Nat.reduceEqDiff, reduceCtorEq]
  (repeat' (first | (with_reducible refine And.intro ?_ ?_) | ((first | refine GuardK.intro_f (fun h => ?_) (fun h => ?_) | refine GuardK.intro_t (fun h => ?_) (fun h => ?_) | refine CondK.intro (fun h => ?_) (fun h => ?_) | refine PickK.intro (fun h => ?_) (fun h => ?_)) <;> simp only [h, evE, Nat.reduceLT, Nat.reduceEqDiff, reduceCtorEq]) | (refine DrawK.intro (by kernel_rfl) (by kernel_rfl) ?_; simp only [evE, tyX, Bool.not_true, Bool.not_false, Nat.reduceAdd, Nat.reduceSub, Nat.reduceMul, Nat.reduceLT, Nat.reduceLeDiff, Nat.reduceEqDiff, reduceCtorEq, List.reduceReplicate, Int.reduceToNat, Int.reduceLE, Int.reduceLT])))
  all_goals (try (simp only [*, if_true, if_false, Bool.false_eq_true]; done))
  all_goals trace_state
set_option maxHeartbeats 2000000 in
theorem word_ev (s : List UInt8) : Ev Tryz.prog γ 299 [.v (.string ⟨s.toArray⟩)] (.v (.int .i64 (wordK s))) := by
  refine Ev.of Tryz.func299 rfl ?_
  unfold wordK
  simp only [← beq_iff_eq (α := List UInt8)]
  simp only [Tryz.f299, evE, Nat.reduceAdd, Nat.reduceSub, Nat.reduceLT, Nat.reduceEqDiff, reduceCtorEq]
  (repeat' (first | (with_reducible refine And.intro ?_ ?_) | ((first | refine GuardK.intro_f (fun h => ?_) (fun h => ?_) | refine GuardK.intro_t (fun h => ?_) (fun h => ?_) | refine CondK.intro (fun h => ?_) (fun h => ?_) | refine PickK.intro (fun h => ?_) (fun h => ?_)) <;> simp only [h, evE, Nat.reduceLT, Nat.reduceEqDiff, reduceCtorEq]) | (refine DrawK.intro (by kernel_rfl) (by kernel_rfl) ?_; simp only [evE, tyX, Bool.not_true, Bool.not_false, Nat.reduceAdd, Nat.reduceSub, Nat.reduceMul, Nat.reduceLT, Nat.reduceLeDiff, Nat.reduceEqDiff, reduceCtorEq, List.reduceReplicate, Int.reduceToNat, Int.reduceLE, Int.reduceLT])))
  all_goals (try (simp only [*, if_true, if_false, Bool.false_eq_true]; done))
  all_goals trace_state
end Go.Proofs.YtlobiioioicmhaaGreatDoor
/- The program's reader of expressions, walked: the tables. -/
namespace Go.Proofs.YtlobiioioicmhaaGreatDoor
set_option linter.all false
open Go Go.Ev
set_option maxRecDepth 20000
variable {γ : List (Nat × AV)}
set_option maxHeartbeats 2000000 in
theorem level_ev (s : Int) : Ev Tryz.prog γ 187 [.v (.int .i64 s)] (.v (.int .i64 (levK s))) := by
  refine Ev.of Tryz.func187 rfl ?_
  unfold levK
  simp only [← beq_iff_eq (α := Int), ← Bool.or_eq_true]
  simp only [Tryz.f187, evE, Nat.reduceAdd, Nat.reduceSub, Nat.reduceLT, Nat.reduceEqDiff, reduceCtorEq]
  (repeat' (first | (with_reducible refine And.intro ?_ ?_) | ((first | refine GuardK.intro_f (fun h => ?_) (fun h => ?_) | refine GuardK.intro_t (fun h => ?_) (fun h => ?_) | refine CondK.intro (fun h => ?_) (fun h => ?_) | refine PickK.intro (fun h => ?_) (fun h => ?_)) <;> simp only [h, evE, Nat.reduceLT, Nat.reduceEqDiff, reduceCtorEq]) | (refine DrawK.intro (by kernel_rfl) (by kernel_rfl) ?_; simp only [evE, tyX, Bool.not_true, Bool.not_false, Nat.reduceAdd, Nat.reduceSub, Nat.reduceMul, Nat.reduceLT, Nat.reduceLeDiff, Nat.reduceEqDiff, reduceCtorEq, List.reduceReplicate, Int.reduceToNat, Int.reduceLE, Int.reduceLT])))
  all_goals (try (simp only [*, if_true, if_false, Bool.false_eq_true, Bool.or_false, Bool.or_true, Bool.or_self]; done))
  all_goals trace_state
set_option maxHeartbeats 2000000 in
theorem children_ev (s : Int) : Ev Tryz.prog γ 115 [.v (.int .i64 s)] (.v (.int .i64 (kidsK s))) := by
  refine Ev.of Tryz.func115 rfl ?_
  generalize hk : kidsK s = r
  simp only [Tryz.f115, evE, Nat.reduceAdd, Nat.reduceSub, Nat.reduceLT, Nat.reduceEqDiff, reduceCtorEq]
  (repeat' (first | (with_reducible refine And.intro ?_ ?_) | ((first | refine GuardK.intro_f (fun h => ?_) (fun h => ?_) | refine GuardK.intro_t (fun h => ?_) (fun h => ?_) | refine CondK.intro (fun h => ?_) (fun h => ?_) | refine PickK.intro (fun h => ?_) (fun h => ?_)) <;> simp only [h, evE, Nat.reduceLT, Nat.reduceEqDiff, reduceCtorEq]) | (refine DrawK.intro (by kernel_rfl) (by kernel_rfl) ?_; simp only [evE, tyX, Bool.not_true, Bool.not_false, Nat.reduceAdd, Nat.reduceSub, Nat.reduceMul, Nat.reduceLT, Nat.reduceLeDiff, Nat.reduceEqDiff, reduceCtorEq, List.reduceReplicate, Int.reduceToNat, Int.reduceLE, Int.reduceLT])))
  all_goals (simp only [beq_iff_eq, beq_eq_false_iff_ne, ne_eq, decide_eq_true_eq, decide_eq_false_iff_not] at *)
  all_goals (unfold kidsK at hk; subst hk)
  all_goals (first | (rw [if_pos (by omega)]) | (rw [if_neg (by omega), if_pos (by omega)]) | (rw [if_neg (by omega), if_neg (by omega), if_pos (by omega)]) | (rw [if_neg (by omega), if_neg (by omega), if_neg (by omega)]))
end Go.Proofs.YtlobiioioicmhaaGreatDoor
/- Expressions: what is read is well formed; the depths of its nodes. -/
namespace Go.Proofs.YtlobiioioicmhaaGreatDoor
set_option linter.all false
open Go Go.Ev
def Tr.wf : Tr → Prop
  | .lf k .. => kidsK k = 0
  | .un k a => kidsK k = 1 ∧ a.wf
  | .bi k a b => kidsK k = 2 ∧ a.wf ∧ b.wf
theorem opK_vals (s : List UInt8) : opK s = 17 ∨ opK s = 16 ∨ opK s = 10 ∨ opK s = 11 ∨ opK s = 12 ∨ opK s = 13 ∨ opK s = 14 ∨ opK s = 15 ∨ opK s = 5 ∨ opK s = 6 ∨ opK s = 7 ∨ opK s = 8 ∨ opK s = 9 ∨ opK s = 0 := by
  unfold opK
  by_cases h0 : s = [124, 124]
  · exact .inl (by rw [if_pos h0])
  by_cases h1 : s = [38, 38]
  · exact .inr (.inl (by rw [if_neg h0, if_pos h1]))
  by_cases h2 : s = [61, 61]
  · exact .inr (.inr (.inl (by rw [if_neg h0, if_neg h1, if_pos h2])))
  by_cases h3 : s = [33, 61]
  · exact .inr (.inr (.inr (.inl (by rw [if_neg h0, if_neg h1, if_neg h2, if_pos h3]))))
  by_cases h4 : s = [60]
  · exact .inr (.inr (.inr (.inr (.inl (by rw [if_neg h0, if_neg h1, if_neg h2, if_neg h3, if_pos h4])))))
  by_cases h5 : s = [60, 61]
  · exact .inr (.inr (.inr (.inr (.inr (.inl (by rw [if_neg h0, if_neg h1, if_neg h2, if_neg h3, if_neg h4, if_pos h5]))))))
  by_cases h6 : s = [62]
  · exact .inr (.inr (.inr (.inr (.inr (.inr (.inl (by rw [if_neg h0, if_neg h1, if_neg h2, if_neg h3, if_neg h4, if_neg h5, if_pos h6])))))))
  by_cases h7 : s = [62, 61]
  · exact .inr (.inr (.inr (.inr (.inr (.inr (.inr (.inl (by rw [if_neg h0, if_neg h1, if_neg h2, if_neg h3, if_neg h4, if_neg h5, if_neg h6, if_pos h7]))))))))
  by_cases h8 : s = [43]
  · exact .inr (.inr (.inr (.inr (.inr (.inr (.inr (.inr (.inl (by rw [if_neg h0, if_neg h1, if_neg h2, if_neg h3, if_neg h4, if_neg h5, if_neg h6, if_neg h7, if_pos h8])))))))))
  by_cases h9 : s = [45]
  · exact .inr (.inr (.inr (.inr (.inr (.inr (.inr (.inr (.inr (.inl (by rw [if_neg h0, if_neg h1, if_neg h2, if_neg h3, if_neg h4, if_neg h5, if_neg h6, if_neg h7, if_neg h8, if_pos h9]))))))))))
  by_cases h10 : s = [42]
  · exact .inr (.inr (.inr (.inr (.inr (.inr (.inr (.inr (.inr (.inr (.inl (by rw [if_neg h0, if_neg h1, if_neg h2, if_neg h3, if_neg h4, if_neg h5, if_neg h6, if_neg h7, if_neg h8, if_neg h9, if_pos h10])))))))))))
  by_cases h11 : s = [47]
  · exact .inr (.inr (.inr (.inr (.inr (.inr (.inr (.inr (.inr (.inr (.inr (.inl (by rw [if_neg h0, if_neg h1, if_neg h2, if_neg h3, if_neg h4, if_neg h5, if_neg h6, if_neg h7, if_neg h8, if_neg h9, if_neg h10, if_pos h11]))))))))))))
  by_cases h12 : s = [37]
  · exact .inr (.inr (.inr (.inr (.inr (.inr (.inr (.inr (.inr (.inr (.inr (.inr (.inl (by rw [if_neg h0, if_neg h1, if_neg h2, if_neg h3, if_neg h4, if_neg h5, if_neg h6, if_neg h7, if_neg h8, if_neg h9, if_neg h10, if_neg h11, if_pos h12])))))))))))))
  exact .inr (.inr (.inr (.inr (.inr (.inr (.inr (.inr (.inr (.inr (.inr (.inr (.inr (by rw [if_neg h0, if_neg h1, if_neg h2, if_neg h3, if_neg h4, if_neg h5, if_neg h6, if_neg h7, if_neg h8, if_neg h9, if_neg h10, if_neg h11, if_neg h12])))))))))))))
theorem wordK_vals (s : List UInt8) : wordK s = 18 ∨ wordK s = 19 ∨ wordK s = 20 ∨ wordK s = 21 ∨ wordK s = 22 ∨ wordK s = 23 ∨ wordK s = 24 ∨ wordK s = 25 ∨ wordK s = 26 ∨ wordK s = 0 := by
  unfold wordK
  by_cases h0 : s = [114, 101]
  · exact .inl (by rw [if_pos h0])
  by_cases h1 : s = [105, 109]
  · exact .inr (.inl (by rw [if_neg h0, if_pos h1]))
  by_cases h2 : s = [115, 105, 122, 101, 50]
  · exact .inr (.inr (.inl (by rw [if_neg h0, if_neg h1, if_pos h2])))
  by_cases h3 : s = [99, 111, 109, 112]
  · exact .inr (.inr (.inr (.inl (by rw [if_neg h0, if_neg h1, if_neg h2, if_pos h3]))))
  by_cases h4 : s = [114, 101, 97, 108]
  · exact .inr (.inr (.inr (.inr (.inl (by rw [if_neg h0, if_neg h1, if_neg h2, if_neg h3, if_pos h4])))))
  by_cases h5 : s = [108, 101, 110]
  · exact .inr (.inr (.inr (.inr (.inr (.inl (by rw [if_neg h0, if_neg h1, if_neg h2, if_neg h3, if_neg h4, if_pos h5]))))))
  by_cases h6 : s = [97, 116]
  · exact .inr (.inr (.inr (.inr (.inr (.inr (.inl (by rw [if_neg h0, if_neg h1, if_neg h2, if_neg h3, if_neg h4, if_neg h5, if_pos h6])))))))
  by_cases h7 : s = [99, 97, 116]
  · exact .inr (.inr (.inr (.inr (.inr (.inr (.inr (.inl (by rw [if_neg h0, if_neg h1, if_neg h2, if_neg h3, if_neg h4, if_neg h5, if_neg h6, if_pos h7]))))))))
  by_cases h8 : s = [115, 116, 114]
  · exact .inr (.inr (.inr (.inr (.inr (.inr (.inr (.inr (.inl (by rw [if_neg h0, if_neg h1, if_neg h2, if_neg h3, if_neg h4, if_neg h5, if_neg h6, if_neg h7, if_pos h8])))))))))
  exact .inr (.inr (.inr (.inr (.inr (.inr (.inr (.inr (.inr (by rw [if_neg h0, if_neg h1, if_neg h2, if_neg h3, if_neg h4, if_neg h5, if_neg h6, if_neg h7, if_neg h8])))))))))
theorem opK_kids {s : List UInt8} (h : opK s ≠ 0) : kidsK (opK s) = 2 := by
  rcases opK_vals s with e | e | e | e | e | e | e | e | e | e | e | e | e | e <;> first | exact absurd e h | (rw [e]; decide)
theorem wordK_kids {s : List UInt8} (h : wordK s ≠ 0) : kidsK (wordK s) = 1 ∨ kidsK (wordK s) = 2 := by
  rcases wordK_vals s with e | e | e | e | e | e | e | e | e | e <;> first | exact absurd e h | (rw [e]; decide)
theorem pr_wf (ts : List Tk) : ∀ (f : Nat) (m : Md) (p : Nat) (t : Tr) (q : Nat), (∀ n a, m = .lp n a → a.wf) → pr ts f m p = .ok t q → t.wf := by
  intro f
  induction f with
  | zero => intro m p t q _ h; cases m <;> cases h
  | succ f ih =>
    intro m p t q hm h
    cases m with
    | bin n =>
      rw [pr] at h
      split at h
      · exact ih .un _ _ _ (fun _ _ e => by cases e) h
      · split at h
        · cases h
        · rename_i a q' e
          have ha := ih (.bin (n + 1)) _ _ _ (fun _ _ e => by cases e) e
          exact ih (.lp n a) _ _ _ (fun _ _ e => by cases e; exact ha) h
    | lp n a =>
      have ha := hm n a rfl
      rw [pr] at h
      split at h
      · cases h; exact ha
      · rename_i hk
        have hk0 : opK (mkA ts p) ≠ 0 := fun e => hk (.inl e)
        split at h
        · cases h
        · rename_i b q' e
          have hb := ih (.bin (n + 1)) _ _ _ (fun _ _ e => by cases e) e
          split at h
          · cases h; exact ⟨opK_kids hk0, ha, hb⟩
          · exact ih _ _ _ _ (fun _ _ e => by cases e; exact ⟨opK_kids hk0, ha, hb⟩) h
    | un =>
      rw [pr] at h
      split at h
      · split at h
        · cases h
        · rename_i a q' e
          have ha := ih .un _ _ _ (fun _ _ e => by cases e) e
          cases h
          refine ⟨?_, ha⟩
          split <;> decide
      · exact ih .fs _ _ _ (fun _ _ e => by cases e) h
    | fs =>
      rw [pr] at h
      split at h
      · split at h
        · cases h
        · rename_i a q' e
          have ha := ih (.bin 1) _ _ _ (fun _ _ e => by cases e) e
          split at h
          · cases h; exact ha
          · cases h
      · split at h
        · cases h
        · split at h
          · cases h
          · split at h
            · cases h; show kidsK 1 = 0; decide
            · split at h
              · cases h; show kidsK 1 = 0; decide
              · split at h
                · cases h; show kidsK 1 = 0; decide
                · exact ih (.nm _) _ _ _ (fun _ _ e => by cases e) h
    | nm s =>
      rw [pr] at h
      split at h
      · cases h; show kidsK 1 = 0; decide
      split at h
      · cases h; show kidsK 1 = 0; decide
      split at h
      · cases h; show kidsK 2 = 0; decide
      rename_i hw
      split at h
      · cases h
      split at h
      · cases h
      rename_i a q' e
      have ha := ih (.bin 1) _ _ _ (fun _ _ e => by cases e) e
      split at h
      · rename_i hk2
        split at h
        · cases h
        split at h
        · cases h
        rename_i b r e2
        have hb := ih (.bin 1) _ _ _ (fun _ _ e => by cases e) e2
        split at h
        · cases h; exact ⟨hk2, ha, hb⟩
        · cases h
      · rename_i hk2
        split at h
        · cases h; exact ⟨(wordK_kids hw).resolve_right hk2, ha⟩
        · cases h
/-- The depths of a tree's nodes, as they are laid out. -/
def dps : Tr → List Nat
  | .lf .. => [1]
  | .un k a => dps a ++ [a.deep + 1]
  | .bi k a b => dps a ++ dps b ++ [max a.deep b.deep + 1]
theorem dps_length (t : Tr) : (dps t).length = t.size := by
  induction t with
  | lf => rfl
  | un k a ih => simp [dps, Tr.size, ih]
  | bi k a b iha ihb => simp [dps, Tr.size, iha, ihb]; omega
theorem dps_last (t : Tr) : (dps t)[t.size - 1]? = some t.deep := by
  cases t with
  | lf => rfl
  | un k a => simp [dps, Tr.size, Tr.deep, dps_length]
  | bi k a b => simp [dps, Tr.size, Tr.deep, dps_length]
theorem dps_le (t : Tr) : ∀ d ∈ dps t, d ≤ t.deep := by
  induction t with
  | lf => intro d h; simp only [dps, List.mem_singleton] at h; subst h; exact Nat.le_refl _
  | un k a ih =>
    intro d h
    simp only [dps, List.mem_append, List.mem_singleton] at h
    rcases h with h | rfl
    · exact Nat.le_trans (ih d h) (Nat.le_succ _)
    · exact Nat.le_refl _
  | bi k a b iha ihb =>
    intro d h
    simp only [dps, List.mem_append, List.mem_singleton] at h
    simp only [Tr.deep]
    rcases h with (h | h) | rfl
    · have := iha d h; omega
    · have := ihb d h; omega
    · exact Nat.le_refl _
theorem deep_pos (t : Tr) : 1 ≤ t.deep := by cases t <;> simp only [Tr.deep] <;> omega
/-- What stands at a node, and how deep it is. -/
def NodeAt (n : Nat) (ds : List Nat) (nd : Nd) (i : Nat) (d : Nat) : Prop :=
  (kidsK nd.k = 0 ∧ d = 1) ∨ (kidsK nd.k = 1 ∧ ∃ a x : Nat, nd.a = ((n + a : Nat) : Int) ∧ a < i ∧ ds[a]? = some x ∧ 1 ≤ x ∧ d = x + 1) ∨
    (kidsK nd.k = 2 ∧ ∃ a x b y : Nat, nd.a = ((n + a : Nat) : Int) ∧ nd.b = ((n + b : Nat) : Int) ∧ a < i ∧ b < i ∧ ds[a]? = some x ∧ ds[b]? = some y ∧ d = max x y + 1)
theorem NodeAt.more {n : Nat} {ds : List Nat} {nd : Nd} {i d : Nat} (h : NodeAt n ds nd i d) (l : List Nat) : NodeAt n (ds ++ l) nd i d := by
  have app : ∀ {a x : Nat}, ds[a]? = some x → (ds ++ l)[a]? = some x := fun {a x} e => (List.getElem?_append_left (List.getElem?_eq_some_iff.1 e).1).trans e
  rcases h with h | ⟨h, a, x, h1, h2, h3, h4⟩ | ⟨h, a, x, b, y, h1, h2, h3, h4, h5, h6, h7⟩
  · exact .inl h
  · exact .inr (.inl ⟨h, a, x, h1, h2, app h3, h4⟩)
  · exact .inr (.inr ⟨h, a, x, b, y, h1, h2, h3, h4, app h5, app h6, h7⟩)
theorem NodeAt.shift {n m : Nat} {ds pre : List Nat} {nd : Nd} {i d : Nat} (h : NodeAt (n + m) ds nd i d) (hm : pre.length = m) : NodeAt n (pre ++ ds) nd (m + i) d := by
  have app : ∀ {a x : Nat}, ds[a]? = some x → (pre ++ ds)[m + a]? = some x := fun {a x} e => by rw [List.getElem?_append_right (by omega)]; rw [show m + a - pre.length = a by omega]; exact e
  rcases h with h | ⟨h, a, x, h1, h2, h3, h4⟩ | ⟨h, a, x, b, y, h1, h2, h3, h4, h5, h6, h7⟩
  · exact .inl h
  · exact .inr (.inl ⟨h, m + a, x, by rw [h1, Nat.add_assoc], by omega, app h3, h4⟩)
  · exact .inr (.inr ⟨h, m + a, x, m + b, y, by rw [h1, Nat.add_assoc], by rw [h2, Nat.add_assoc], by omega, by omega, app h5, app h6, h7⟩)
theorem nodes_at (t : Tr) (hw : t.wf) : ∀ (n i : Nat) (nd : Nd), (lay t n)[i]? = some nd → ∃ d, (dps t)[i]? = some d ∧ NodeAt n (dps t) nd i d := by
  induction t with
  | lf k nm vk vi vr vt =>
    intro n i nd h
    cases i with
    | succ i => cases h
    | zero => cases h; exact ⟨1, rfl, .inl ⟨hw, rfl⟩⟩
  | un k a ih =>
    intro n i nd h
    have hl := lay_length a n
    have hd := dps_length a
    have hp := size_pos a
    by_cases hi : i < a.size
    · rw [lay, List.getElem?_append_left (by omega)] at h
      obtain ⟨d, h1, h2⟩ := ih hw.2 n i nd h
      exact ⟨d, by rw [dps, List.getElem?_append_left (by omega)]; exact h1, h2.more _⟩
    · rw [lay, List.getElem?_append_right (by omega), hl] at h
      have hi2 : i = a.size := by
        cases e : i - a.size with
        | zero => omega
        | succ j => rw [e] at h; cases h
      subst hi2
      rw [Nat.sub_self] at h
      cases h
      have hlast := dps_last a
      refine ⟨a.deep + 1, by rw [dps, List.getElem?_append_right (by omega), hd, Nat.sub_self]; rfl, .inr (.inl ⟨hw.1, a.size - 1, a.deep, by rw [Nat.add_sub_assoc hp], by omega, ?_, deep_pos a, rfl⟩)⟩
      rw [dps, List.getElem?_append_left (by omega)]; exact hlast
  | bi k a b iha ihb =>
    intro n i nd h
    have hla := lay_length a n
    have hda := dps_length a
    have hpa := size_pos a
    have hlb := lay_length b (n + a.size)
    have hdb := dps_length b
    have hpb := size_pos b
    rw [lay] at h
    by_cases hi : i < a.size
    · rw [List.append_assoc, List.getElem?_append_left (by omega)] at h
      obtain ⟨d, h1, h2⟩ := iha hw.2.1 n i nd h
      exact ⟨d, by rw [dps, List.append_assoc, List.getElem?_append_left (by omega)]; exact h1, by rw [dps, List.append_assoc]; exact h2.more _⟩
    · by_cases hj : i < a.size + b.size
      · rw [List.append_assoc, List.getElem?_append_right (by omega), List.getElem?_append_left (by omega), hla] at h
        obtain ⟨d, h1, h2⟩ := ihb hw.2.2 (n + a.size) (i - a.size) nd h
        refine ⟨d, by rw [dps, List.append_assoc, List.getElem?_append_right (by omega), List.getElem?_append_left (by omega), hda]; exact h1, ?_⟩
        rw [dps]
        have := (h2.shift hda).more [max a.deep b.deep + 1]
        rwa [show a.size + (i - a.size) = i by omega] at this
      · rw [List.getElem?_append_right (by rw [List.length_append]; omega), List.length_append, hla, hlb] at h
        have hi2 : i = a.size + b.size := by
          cases e : i - (a.size + b.size) with
          | zero => omega
          | succ j => rw [e] at h; cases h
        subst hi2
        rw [Nat.sub_self] at h
        cases h
        refine ⟨max a.deep b.deep + 1, by rw [dps, List.getElem?_append_right (by rw [List.length_append]; omega), List.length_append, hda, hdb, Nat.sub_self]; rfl, .inr (.inr ⟨hw.1, a.size - 1, a.deep, a.size + b.size - 1, b.deep, by rw [Nat.add_sub_assoc hpa], ?_, by omega, by omega, ?_, ?_, rfl⟩)⟩
        · show ((n + a.size + b.size - 1 : Nat) : Int) = _; rw [show n + a.size + b.size - 1 = n + (a.size + b.size - 1) by omega]
        · rw [dps, List.append_assoc, List.getElem?_append_left (by omega)]; exact dps_last a
        · rw [dps, List.getElem?_append_left (by rw [List.length_append]; omega), List.getElem?_append_right (by omega), hda, show a.size + b.size - 1 - a.size = b.size - 1 by omega]; exact dps_last b
/-- Too many nodes, or too deep? -/
def limK (n d : Nat) : Int := if 64 < n then 52 else if 12 < d then 51 else 0
end Go.Proofs.YtlobiioioicmhaaGreatDoor
/- The program's reader of expressions, walked: level 6. -/
namespace Go.Proofs.YtlobiioioicmhaaGreatDoor
set_option linter.all false
open Go Go.Ev
set_option maxRecDepth 20000
theorem c184 : bodyT Tryz.prog 184 := ⟨_, Tryz.func184, by kernel_rfl, by kernel_rfl⟩
theorem c114 : bodyT Tryz.prog 114 := ⟨_, Tryz.func114, by kernel_rfl, by kernel_rfl⟩
theorem c245 : bodyT Tryz.prog 245 := ⟨_, Tryz.func245, by kernel_rfl, by kernel_rfl⟩
theorem c283 : bodyT Tryz.prog 283 := ⟨_, Tryz.func283, by kernel_rfl, by kernel_rfl⟩
/-- What holds of the reading functions with so much fuel. -/
def CallOk (γ : List (Nat × AV)) (ts : List Tk) (L : AV) (f : Nat) (g : FuncId) (xs : List AV) (m : Md) : Prop :=
  ∀ (h : List ABlk) (i p : Nat) (N : AV) (ns : List Nd), p ≤ ts.length → m.need ts p ≤ f → RS h i L p N ns → (ns.length + (ts.length - p) + 1) * 96 ≤ 140737488355328 →
    EvM Tryz.prog γ g (.ptr i 0 0 :: xs) h (ResP L i N h ns (pr ts f m p))
structure PrOk (γ : List (Nat × AV)) (ts : List Tk) (L : AV) (f : Nat) : Prop where
  bin : ∀ n : Nat, 1 ≤ n → n ≤ 6 → CallOk γ ts L f 114 [.v (.int .i64 (n : Int))] (.bin n)
  un : CallOk γ ts L f 184 [] .un
  fs : CallOk γ ts L f 245 [] .fs
  nm : ∀ s, CallOk γ ts L f 283 [.v (.string ⟨s.toArray⟩)] (.nm s)
theorem ResP.bad_of {L : AV} {i : Nat} {N N' : AV} {h h1 h' : List ABlk} {ns ns' : List Nd} {q : Nat} {v : AV} (r : ResP L i N' h1 ns' (.bad q) (.pan v) h') (f : Fr (RP i N) h h1) (hn : ∀ k, nbk N' k → nbk N k ∨ h.length ≤ k) :
    ResP L i N h ns (.bad q) (.pan v) h' :=
  ⟨f.trans r.1 fun k hk => hk.elim (fun e => .inl (.inl e)) fun e => (hn k e).elim (fun e => .inl (.inr e)) .inr, r.2⟩
theorem ResP.ok_ret {L : AV} {i : Nat} {N : AV} {h h' : List ABlk} {ns : List Nd} {t : Tr} {q : Nat} {r : AV} (hh : ResP L i N h ns (.ok t q) (.ret r) h') :
    r = .v (.int .i64 ((ns.length + t.size - 1 : Nat) : Int)) ∧ Fr (RP i N) h h' ∧ ∃ N', RS h' i L q N' (ns ++ lay t ns.length) ∧ ∀ k, nbk N' k → nbk N k ∨ h.length ≤ k :=
  ⟨by have := hh.2.1; cases this; rfl, hh.1, hh.2.2⟩
theorem ResP.ok_pan {L : AV} {i : Nat} {N : AV} {h h' : List ABlk} {ns : List Nd} {t : Tr} {q : Nat} {r : AV} (hh : ResP L i N h ns (.ok t q) (.pan r) h') : False := by
  have := hh.2.1; cases this
theorem ResP.bad_ret {L : AV} {i : Nat} {N : AV} {h h' : List ABlk} {ns : List Nd} {q : Nat} {r : AV} (hh : ResP L i N h ns (.bad q) (.ret r) h') : False := by
  have := hh.2; cases this
theorem Fr.more {i : Nat} {N N' : AV} {h h1 h2 : List ABlk} (a : Fr (RP i N) h h1) (b : Fr (RP i N') h1 h2) (hn : ∀ k, nbk N' k → nbk N k ∨ h.length ≤ k) : Fr (RP i N) h h2 :=
  a.trans b fun k hk => hk.elim (fun e => .inl (.inl e)) fun e => (hn k e).elim (fun e => .inl (.inr e)) .inr
theorem more_nbk {N N1 N2 : AV} {h h1 : List ABlk} (hl : h.length ≤ h1.length) (a : ∀ k, nbk N1 k → nbk N k ∨ h.length ≤ k) (b : ∀ k, nbk N2 k → nbk N1 k ∨ h1.length ≤ k) : ∀ k, nbk N2 k → nbk N k ∨ h.length ≤ k :=
  fun k hk => (b k hk).elim (a k) fun e => .inr (Nat.le_trans hl e)
theorem bnd1 {n n2 l p p2 : Nat} (h : (n + (l - p) + 1) * 96 ≤ 140737488355328) (hk : n2 + (l - p2) ≤ n + (l - p)) : (n2 + (l - p2) + 1) * 96 ≤ 140737488355328 := Nat.le_trans (Nat.mul_le_mul_right 96 (by omega)) h
theorem w64 {p l : Nat} (hp : p ≤ l) (hb : l < 4611686018427387904) : IntKind.i64.wrap ((p : Int) + 1) = ((p + 1 : Nat) : Int) := (i64w (by omega) (by omega)).trans (by omega)
theorem fr_move {h : List ABlk} {i : Nat} {N : AV} (b : ABlk) : Fr (RP i N) h (h.set i b) := Fr.set _ (.inl rfl)
theorem ResP.ok_mk {L : AV} {i : Nat} {N N' : AV} {h h' : List ABlk} {ns ns' : List Nd} {t : Tr} {q : Nat} {v : Int} {res : Res} (hp : res = .ok t q) (hv : v = ((ns.length + t.size - 1 : Nat) : Int)) (f : Fr (RP i N) h h') (hr : RS h' i L q N' ns') (hn : ns' = ns ++ lay t ns.length)
    (hk : ∀ k, nbk N' k → nbk N k ∨ h.length ≤ k) : ResP L i N h ns res (.ret (.v (.int .i64 v))) h' := by
  subst hp; subst hv; subst hn; exact ⟨f, rfl, N', hr, hk⟩
variable {γ : List (Nat × AV)} {ts : List Tk} {L : AV}
set_option maxHeartbeats 1000000 in
theorem un_step (hL : LAt L ts) (hb : ts.length < 4611686018427387904) {f : Nat} (H : PrOk γ ts L f) : CallOk γ ts L (f + 1) 184 [] .un := by
  intro h i p N ns hp hf hr hB
  have hi := hr.1
  have w1 : IntKind.i64.wrap ((p : Int) + 1) = ((p + 1 : Nat) : Int) := w64 hp hb
  refine EvM.of Tryz.func184 rfl ?_
  simp only [Tryz.f184, evE, Nat.reduceAdd, Nat.reduceSub, Nat.reduceLT, Nat.reduceEqDiff, reduceCtorEq]
  refine CallE.intro c186 _ (mark_ev hL hr) (fun r h' hh => ?_) (fun v h' hh => by cases hh.1)
  obtain ⟨e, rfl⟩ := hh
  cases e
  have main : ∀ k : Int, (if mkA ts p = [45] then (3 : Int) else 4) = k → (mkA ts p = [45] ∨ mkA ts p = [33]) → ∀ (K : St → Prop) (s : Slots), s.g = γ →
      (∀ (a : Tr) (q : Nat) (h1 : List ABlk) (r : AV) (N' : AV), pr ts f .un (p + 1) = .ok a q → r = .v (.int .i64 ((ns.length + a.size - 1 : Nat) : Int)) → Fr (RP i N) h' h1 → RS h1 i L q N' (ns ++ lay a ns.length) → (∀ k, nbk N' k → nbk N k ∨ h'.length ≤ k) → K (pt ⟨s, h1⟩ (some 22) r)) →
      CallE Tryz.prog (panE (ResP L i N h' ns (pr ts (f + 1) .un p))) 184 [.ptr i 0 0] (some 22) K ⟨s, h'.set i ⟨0, 104, [L, .v (.int .i64 ((p + 1 : Nat) : Int)), N]⟩⟩ := by
    intro k hk hm K s hs hK
    have hlt : p < ts.length := hm.elim mkA_eq mkA_eq
    subst hs
    have hn : Md.need ts (p + 1) .un ≤ f := by clear w1; simp only [Md.need] at hf ⊢; omega
    have hB' : (ns.length + (ts.length - (p + 1)) + 1) * 96 ≤ 140737488355328 := bnd1 hB (by clear w1; omega)
    have hp' : p + 1 ≤ ts.length := hlt
    have hc := H.un (h'.set i ⟨0, 104, [L, .v (.int .i64 ((p + 1 : Nat) : Int)), N]⟩) i (p + 1) N ns hp' hn (hr.move (p + 1)) hB'
    refine CallE.intro c184 _ hc (fun r h1 hh => ?_) (fun v h1 hh => ?_)
    · cases e : pr ts f .un (p + 1) with
      | bad q => rw [e] at hh; exact hh.bad_ret.elim
      | ok a q =>
        rw [e] at hh
        obtain ⟨e1, f1, N', r1, n1⟩ := hh.ok_ret
        exact hK a q h1 r N' e e1 (Fr.more (fr_move _) f1 fun k hk => .inl hk) r1 fun k hk => (n1 k hk).imp id fun e => by simpa using e
    · cases e : pr ts f .un (p + 1) with
      | bad q =>
        rw [e] at hh
        show ResP L i N h' ns (pr ts (f + 1) .un p) (.pan v) h1
        rw [pr, if_pos hm, e]
        exact hh.bad_of (fr_move _) fun k hk => .inl hk
      | ok a q => rw [e] at hh; exact hh.ok_pan.elim
  have fin : ∀ k : Int, (if mkA ts p = [45] then (3 : Int) else 4) = k → (mkA ts p = [45] ∨ mkA ts p = [33]) → ∀ (a : Tr) (q : Nat) (h1 h2 : List ABlk) (N' : AV), pr ts f .un (p + 1) = .ok a q → Fr (RP i N) h' h1 → (∀ k, nbk N' k → nbk N k ∨ h'.length ≤ k) → ∀ r,
      PutP L i q N' (ns ++ lay a ns.length) ⟨k, ((ns.length + a.size - 1 : Nat) : Int), 0, [], 0, 0, 0, []⟩ h1 (.ret r) h2 → ResP L i N h' ns (pr ts (f + 1) .un p) (.ret r) h2 := by
    intro k hk hm a q h1 h2 N' e f1 n1 r hh
    obtain ⟨e2, f2, N2, r2, n2⟩ := hh
    cases e2
    refine ResP.ok_mk (t := .un k a) (by rw [pr, if_pos hm, e, hk]) (by rw [List.length_append, lay_length]; rfl) (Fr.more f1 f2 n1) r2 ?_ (more_nbk f1.1 n1 n2)
    rw [List.append_assoc]; rfl
  have bnd : ∀ (a : Tr) (q : Nat), p < ts.length → pr ts f .un (p + 1) = .ok a q → ((ns ++ lay a ns.length).length + 1) * 96 ≤ 140737488355328 := by
    intro a q hlt e
    clear w1
    obtain ⟨⟨g1, g2⟩, g3⟩ := pr_adv ts f .un (p + 1) a q hlt e
    rw [List.length_append, lay_length]
    exact Nat.le_trans (Nat.mul_le_mul_right 96 (by omega)) hB
  by_cases h1 : mkA ts p = [45]
  · have d1 : (mkA ts p == [45]) = true := by simpa using h1
    simp only [hi, d1, w1, evE, tyX, Nat.reduceAdd, Nat.reduceLT, Nat.reduceLeDiff, Nat.reduceEqDiff, reduceCtorEq]
    refine main 3 (by rw [if_pos h1]) (.inl h1) _ _ rfl ?_
    intro a q h1' r N' e er f1 r1 n1
    subst er
    simp only [evE, tyX, Nat.reduceAdd, Nat.reduceLT, Nat.reduceLeDiff, Nat.reduceEqDiff, reduceCtorEq]
    refine CallE.intro c188 _ (put_ev r1 ⟨3, ((ns.length + a.size - 1 : Nat) : Int), 0, [], 0, 0, 0, []⟩ (bnd a q (mkA_eq h1) e)) (fun r h2 hh => ?_) (fun v h2 hh => by cases hh.1)
    simp only [evE, Nat.reduceLT, Nat.reduceEqDiff, reduceCtorEq]
    exact fin 3 (by rw [if_pos h1]) (.inl h1) a q h1' h2 N' e f1 n1 r hh
  · have d1 : (mkA ts p == [45]) = false := by simpa using h1
    by_cases h2 : mkA ts p = [33]
    · have d2 : (mkA ts p == [33]) = true := by simpa using h2
      simp only [hi, d1, d2, w1, evE, tyX, Nat.reduceAdd, Nat.reduceLT, Nat.reduceLeDiff, Nat.reduceEqDiff, reduceCtorEq]
      refine main 4 (by rw [if_neg h1]) (.inr h2) _ _ rfl ?_
      intro a q h1' r N' e er f1 r1 n1
      subst er
      simp only [evE, tyX, Nat.reduceAdd, Nat.reduceLT, Nat.reduceLeDiff, Nat.reduceEqDiff, reduceCtorEq]
      refine CallE.intro c188 _ (put_ev r1 ⟨4, ((ns.length + a.size - 1 : Nat) : Int), 0, [], 0, 0, 0, []⟩ (bnd a q (mkA_eq h2) e)) (fun r h3 hh => ?_) (fun v h2 hh => by cases hh.1)
      simp only [evE, Nat.reduceLT, Nat.reduceEqDiff, reduceCtorEq]
      exact fin 4 (by rw [if_neg h1]) (.inr h2) a q h1' _ N' e f1 n1 r hh
    · have d2 : (mkA ts p == [33]) = false := by simpa using h2
      have epr : pr ts (f + 1) .un p = pr ts f .fs p := by rw [pr, if_neg (fun e => e.elim h1 h2)]
      simp only [d1, d2, evE, Nat.reduceLT, Nat.reduceEqDiff, reduceCtorEq]
      have hn : Md.need ts p .fs ≤ f := by clear w1; simp only [Md.need] at hf ⊢; omega
      refine CallE.intro c245 _ (H.fs h' i p N ns hp hn hr hB) (fun r h2 hh => ?_) (fun v h2 hh => ?_)
      · simp only [evE, Nat.reduceLT, Nat.reduceEqDiff, reduceCtorEq]
        rw [epr]; exact hh
      · show ResP L i N h' ns (pr ts (f + 1) .un p) (.pan v) h2
        rw [epr]; exact hh
end Go.Proofs.YtlobiioioicmhaaGreatDoor
/- The program's reader of expressions, walked: levels 1 to 5. -/
namespace Go.Proofs.YtlobiioioicmhaaGreatDoor
set_option linter.all false
open Go Go.Ev
set_option maxRecDepth 20000
variable {γ : List (Nat × AV)} {ts : List Tk} {L : AV}
/-- What the loop's head knows: the tree so far, the place, the blocks, the fuel. -/
structure LpI where
  a : Tr
  q : Nat
  h : List ABlk
  N : AV
  g : Nat
def lpS (γ : List (Nat × AV)) (i n : Nat) (ns : List Nd) (x : LpI) : St := ⟨⟨46, [(0, .ptr i 0 0), (1, .v (.int .i64 (n : Int))), (5, .v (.int .i64 ((ns.length + x.a.size - 1 : Nat) : Int)))], γ⟩, x.h⟩
def lpI (ts : List Tk) (L : AV) (h : List ABlk) (i n p : Nat) (N : AV) (ns : List Nd) (f : Nat) (x : LpI) : Prop :=
  p < x.q ∧ x.q ≤ ts.length ∧ x.a.size + p ≤ x.q ∧ Fr (RP i N) h x.h ∧ RS x.h i L x.q x.N (ns ++ lay x.a ns.length) ∧ (∀ k, nbk x.N k → nbk N k ∨ h.length ≤ k) ∧ pr ts f (.bin n) p = pr ts x.g (.lp n x.a) x.q ∧ (Md.lp n x.a).need ts x.q ≤ x.g ∧ x.g + 1 ≤ f
set_option maxHeartbeats 1000000 in
theorem bin_step (hL : LAt L ts) (hb : ts.length < 4611686018427387904) {f : Nat} (H : ∀ g ≤ f, PrOk γ ts L g) {n : Nat} (hn1 : 1 ≤ n) (hn6 : n ≤ 6) : CallOk γ ts L (f + 1) 114 [.v (.int .i64 (n : Int))] (.bin n) := by
  intro h i p N ns hp hf hr hB
  have hi := hr.1
  refine EvM.of Tryz.func114 rfl ?_
  by_cases h6 : n = 6
  · subst h6
    have epr : pr ts (f + 1) (.bin 6) p = pr ts f .un p := by rw [pr, if_pos (by decide)]
    have hn : Md.need ts p .un ≤ f := by simp only [Md.need] at hf ⊢; omega
    have d0 : decide ((5 : Int) < ((6 : Nat) : Int)) = true := by decide
    simp only [Tryz.f114, d0, evE, Nat.reduceAdd, Nat.reduceSub, Nat.reduceLT, Nat.reduceEqDiff, reduceCtorEq]
    refine CallE.intro c184 _ ((H f (Nat.le_refl _)).un h i p N ns hp hn hr hB) (fun r h2 hh => ?_) (fun v h2 hh => ?_)
    · simp only [evE, Nat.reduceLT, Nat.reduceEqDiff, reduceCtorEq]
      rw [epr]; exact hh
    · show ResP L i N h ns (pr ts (f + 1) (.bin 6) p) (.pan v) h2
      rw [epr]; exact hh
  · have d1 : decide (5 < (n : Int)) = false := decide_eq_false (by omega)
    have w1 : IntKind.i64.wrap ((n : Int) + 1) = ((n + 1 : Nat) : Int) := (i64w (by omega) (by omega)).trans (by omega)
    have hn : Md.need ts p (.bin (n + 1)) ≤ f := by clear w1; simp only [Md.need] at hf ⊢; omega
    have hc := (H f (Nat.le_refl _)).bin (n + 1) (by clear w1; omega) (by clear w1; omega) h i p N ns hp hn hr hB
    have epr : pr ts (f + 1) (.bin n) p = match pr ts f (.bin (n + 1)) p with
      | .bad q => .bad q
      | .ok a q => pr ts f (.lp n a) q := by rw [pr, if_neg (by clear w1; omega)] <;> cases pr ts f (.bin (n + 1)) p <;> rfl
    simp only [Tryz.f114, d1, w1, evE, Nat.reduceAdd, Nat.reduceSub, Nat.reduceLT, Nat.reduceEqDiff, reduceCtorEq]
    refine CallE.intro c114 _ hc (fun r h1 hh => ?_) (fun v h2 hh => ?_)
    rotate_left
    · cases e : pr ts f (.bin (n + 1)) p with
      | ok a q => rw [e] at hh; exact hh.ok_pan.elim
      | bad q =>
        rw [e] at hh epr
        show ResP L i N h ns (pr ts (f + 1) (.bin n) p) (.pan v) h2
        rw [epr]; exact hh
    cases e : pr ts f (.bin (n + 1)) p with
    | bad q => rw [e] at hh; exact hh.bad_ret.elim
    | ok a q =>
      rw [e] at hh epr
      obtain ⟨er, f1, N', r1, n1⟩ := hh.ok_ret
      subst er
      have hadv := pr_adv ts f (.bin (n + 1)) p a q hp e
      simp only [evE, Nat.reduceLT, Nat.reduceEqDiff, reduceCtorEq]
      refine LoopE.intro (lpS γ i n ns) (lpI ts L h i n p N ns (f + 1)) (fun x => ts.length - x.q) ⟨a, q, h1, N', f⟩ ?_ ?_ (fun x hx => ?_)
      · exact ⟨rfl, rfl, ⟨rfl, rfl, rfl, trivial⟩, rfl⟩
      · obtain ⟨⟨g1, g2⟩, g3⟩ := hadv
        refine ⟨g1, g3, g2, f1, r1, n1, epr, ?_, Nat.le_refl _⟩
        clear w1
        simp only [Md.need] at hf ⊢; omega
      · clear e epr hadv hh r1 n1 f1 hc hn
        obtain ⟨a, q, h1, N1, g⟩ := x
        obtain ⟨x1, x2, x3, f1, r1, n1, epr, hneed, hg⟩ := hx
        simp only at x1 x2 x3 f1 r1 n1 epr hneed hg
        obtain ⟨g, rfl⟩ : ∃ g', g = g' + 1 := ⟨g - 1, by clear w1; simp only [Md.need] at hneed; omega⟩
        have w2 : IntKind.i64.wrap ((q : Int) + 1) = ((q + 1 : Nat) : Int) := w64 x2 hb
        have hi1 := r1.1
        simp only [lpS, evE, Nat.reduceLT, Nat.reduceEqDiff, reduceCtorEq]
        refine CallE.intro c186 _ (mark_ev hL r1) (fun r h2 hh => ?_) (fun v h' hh => by cases hh.1)
        obtain ⟨e, rfl⟩ := hh
        cases e
        simp only [evE, Nat.reduceLT, Nat.reduceEqDiff, reduceCtorEq]
        refine CallE.pure (CallK.intro c185 rfl (operator_ev _) ?_)
        have stop : (opK (mkA ts q) = 0 ∨ levK (opK (mkA ts q)) ≠ n) → ResP L i N h ns (pr ts (f + 1) (.bin n) p) (.ret (.v (.int .i64 ((ns.length + a.size - 1 : Nat) : Int)))) h2 := by
          intro hs
          refine ResP.ok_mk (t := a) (q := q) ?_ rfl f1 r1 rfl n1
          rw [epr, pr, if_pos hs]
        by_cases hk0 : opK (mkA ts q) = 0
        · have d2 : (opK (mkA ts q) == 0) = true := by simpa using hk0
          simp only [d2, evE, Nat.reduceLT, Nat.reduceEqDiff, reduceCtorEq]
          exact stop (.inl hk0)
        · have d2 : (opK (mkA ts q) == 0) = false := by simpa using hk0
          simp only [d2, evE, Nat.reduceLT, Nat.reduceEqDiff, reduceCtorEq]
          refine CallE.pure (CallK.intro c187 rfl (level_ev _) ?_)
          by_cases hl : levK (opK (mkA ts q)) = n
          · have d3 : (levK (opK (mkA ts q)) != (n : Int)) = false := by simpa using hl
            simp only [d3, hi1, w1, w2, evE, tyX, Nat.reduceAdd, Nat.reduceLT, Nat.reduceLeDiff, Nat.reduceEqDiff, reduceCtorEq]
            have hlt : q < ts.length := opK_lt hk0
            have hstop : ¬ (opK (mkA ts q) = 0 ∨ levK (opK (mkA ts q)) ≠ n) := fun h => h.elim hk0 fun h => h hl
            have hgf : g ≤ f := by clear w1 w2; omega
            have hn2 : Md.need ts (q + 1) (.bin (n + 1)) ≤ g := by clear w1 w2; simp only [Md.need] at hneed ⊢; omega
            have hlen : (ns ++ lay a ns.length).length = ns.length + a.size := by rw [List.length_append, lay_length]
            have hB2 : ((ns ++ lay a ns.length).length + (ts.length - (q + 1)) + 1) * 96 ≤ 140737488355328 := by rw [hlen]; exact bnd1 hB (by clear w1 w2; omega)
            have hc := (H g hgf).bin (n + 1) (by clear w1 w2; omega) (by clear w1 w2; omega) (h2.set i ⟨0, 104, [L, .v (.int .i64 ((q + 1 : Nat) : Int)), N1]⟩) i (q + 1) N1 (ns ++ lay a ns.length) hlt hn2 (r1.move (q + 1)) hB2
            have epr2 : pr ts (g + 1) (.lp n a) q = match pr ts g (.bin (n + 1)) (q + 1) with
              | .bad q => .bad q
              | .ok b q' => if n = 3 then .ok (.bi (opK (mkA ts q)) a b) q' else pr ts g (.lp n (.bi (opK (mkA ts q)) a b)) q' := by rw [pr, if_neg hstop] <;> cases pr ts g (.bin (n + 1)) (q + 1) <;> rfl
            refine CallE.intro c114 _ hc (fun r h3 hh => ?_) (fun v h3 hh => ?_)
            rotate_left
            · cases e : pr ts g (.bin (n + 1)) (q + 1) with
              | ok b q' => rw [e] at hh; exact hh.ok_pan.elim
              | bad q' =>
                rw [e] at hh epr2
                show ResP L i N h ns (pr ts (f + 1) (.bin n) p) (.pan v) h3
                rw [epr, epr2]
                exact hh.bad_of (Fr.more f1 (fr_move _) n1) n1
            cases e : pr ts g (.bin (n + 1)) (q + 1) with
            | bad q' => rw [e] at hh; exact hh.bad_ret.elim
            | ok b q' =>
              rw [e] at hh epr2
              obtain ⟨er, f3, N3, r3, n3⟩ := hh.ok_ret
              subst er
              have n3' : ∀ k, nbk N3 k → nbk N1 k ∨ h2.length ≤ k := fun k hk => (n3 k hk).imp id fun e => by simpa using e
              have f13 : Fr (RP i N) h h3 := Fr.more f1 (Fr.more (fr_move _) f3 fun k hk => .inl hk) n1
              have n13 := more_nbk f1.1 n1 n3'
              obtain ⟨⟨g1, g2⟩, g3⟩ := pr_adv ts g (.bin (n + 1)) (q + 1) b q' hlt e
              have hlen3 : (ns ++ lay a ns.length ++ lay b (ns ++ lay a ns.length).length).length = ns.length + a.size + b.size := by rw [List.length_append, lay_length, hlen]
              have hlay : lay (.bi (opK (mkA ts q)) a b) ns.length = lay a ns.length ++ lay b (ns.length + a.size) ++ [⟨opK (mkA ts q), ((ns.length + a.size - 1 : Nat) : Int), ((ns.length + a.size + b.size - 1 : Nat) : Int), [], 0, 0, 0, []⟩] := rfl
              rw [hlen] at *
              simp only [evE, tyX, Nat.reduceAdd, Nat.reduceLT, Nat.reduceLeDiff, Nat.reduceEqDiff, reduceCtorEq]
              refine CallE.intro c188 _ (put_ev r3 ⟨opK (mkA ts q), ((ns.length + a.size - 1 : Nat) : Int), ((ns.length + a.size + b.size - 1 : Nat) : Int), [], 0, 0, 0, []⟩ (by rw [hlen3]; exact Nat.le_trans (Nat.mul_le_mul_right 96 (by clear w1 w2; omega)) hB)) (fun r h4 hh => ?_) (fun v h2 hh => by cases hh.1)
              obtain ⟨e4, f4, N4, r4, n4⟩ := hh
              cases e4
              rw [hlen3]
              have f14 : Fr (RP i N) h h4 := Fr.more f13 f4 n13
              have n14 := more_nbk f13.1 n13 n4
              have r4' : RS h4 i L q' N4 (ns ++ lay (.bi (opK (mkA ts q)) a b) ns.length) := by rw [hlay]; simpa [List.append_assoc] using r4
              by_cases h3n : n = 3
              · have d4 : ((n : Int) == 3) = true := by subst h3n; rfl
                simp only [d4, evE, Nat.reduceLT, Nat.reduceEqDiff, reduceCtorEq]
                exact ResP.ok_mk (t := .bi (opK (mkA ts q)) a b) (q := q') (by rw [epr, epr2, h3n]; rfl) (by simp only [Tr.size]; clear w1 w2; omega) f14 r4' rfl n14
              · have d4 : ((n : Int) == 3) = false := by simp only [beq_eq_false_iff_ne, ne_eq]; clear w1 w2; omega
                simp only [d4, evE, Nat.reduceLT, Nat.reduceEqDiff, reduceCtorEq]
                refine loopCE.intro ⟨.bi (opK (mkA ts q)) a b, q', h4, N4, g⟩ ⟨?_, g3, ?_, f14, r4', n14, ?_, ?_, ?_⟩ ⟨rfl, rfl, ?_, rfl⟩ ?_
                · show p < q'; clear w1 w2; omega
                · simp only [Tr.size]; clear w1 w2; omega
                · rw [epr, epr2]; exact if_neg h3n
                · clear w1 w2; simp only [Md.need] at hneed ⊢; omega
                · show g + 1 ≤ f + 1; clear w1 w2; omega
                · refine ⟨rfl, rfl, ?_, trivial⟩
                  show AV.v (.int .i64 ((ns.length + a.size + b.size : Nat) : Int)) = AV.v (.int .i64 ((ns.length + (a.size + b.size + 1) - 1 : Nat) : Int))
                  rw [show ns.length + (a.size + b.size + 1) - 1 = ns.length + a.size + b.size by clear w1 w2; omega]
                · show ts.length - q' < ts.length - q; clear w1 w2; omega
          · have d3 : (levK (opK (mkA ts q)) != (n : Int)) = true := by simpa using hl
            simp only [d3, evE, Nat.reduceLT, Nat.reduceEqDiff, reduceCtorEq]
            exact stop (.inr hl)
end Go.Proofs.YtlobiioioicmhaaGreatDoor
/- The program's reader of expressions, walked: level 7. -/
namespace Go.Proofs.YtlobiioioicmhaaGreatDoor
set_option linter.all false
open Go Go.Ev
set_option maxRecDepth 20000
variable {γ : List (Nat × AV)} {ts : List Tk} {L : AV}
theorem RS.app {h : List ABlk} {i p : Nat} {L N : AV} {ns : List Nd} (a : RS h i L p N ns) (l : List ABlk) : RS (h ++ l) i L p N ns :=
  ⟨(List.getElem?_append_left a.lt).trans a.1, a.2.fr (S := fun _ => False) (Fr.app h l) fun _ _ h => h⟩
theorem RS.nlt {h : List ABlk} {i p : Nat} {L N : AV} {ns : List Nd} (a : RS h i L p N ns) {k : Nat} (hk : nbk N k) : k < h.length := by
  rcases a.2 with ⟨rfl, _⟩ | ⟨j, ver, rfl, hj⟩
  · exact hk.elim
  · have hk' : k = j := hk
    subst hk'
    exact (List.getElem?_eq_some_iff.1 hj).1
theorem RS.setO {h : List ABlk} {i p : Nat} {L N : AV} {ns : List Nd} (a : RS h i L p N ns) {j : Nat} {b : ABlk} (hj : j ≠ i) (hn : ¬ nbk N j) : RS (h.set j b) i L p N ns :=
  ⟨(List.getElem?_set_ne hj).trans a.1, a.2.fr (S := fun k => k = j) (Fr.set _ rfl) fun k hk e => hn (e ▸ hk)⟩
set_option maxHeartbeats 1000000 in
theorem nm_step (hL : LAt L ts) (hb : ts.length < 4611686018427387904) {f : Nat} (H : ∀ g ≤ f, PrOk γ ts L g) (s : List UInt8) : CallOk γ ts L (f + 1) 283 [.v (.string ⟨s.toArray⟩)] (.nm s) := by
  intro h i p N ns hp hf hr hB
  have hi := hr.1
  have leaf : ∀ (k : Int) (nm : List UInt8) (vk vi : Int) (vr : Nat) (vt : List UInt8) (r : AV) (h2 : List ABlk), pr ts (f + 1) (.nm s) p = .ok (.lf k nm vk vi vr vt) p → PutP L i p N ns ⟨k, 0, 0, nm, vk, vi, vr, vt⟩ h (.ret r) h2 →
      ResP L i N h ns (pr ts (f + 1) (.nm s) p) (.ret r) h2 := by
    intro k nm vk vi vr vt r h2 e ⟨e2, f2, N2, r2, n2⟩
    cases e2
    exact ResP.ok_mk (t := .lf k nm vk vi vr vt) e (by show (ns.length : Int) = ((ns.length + 1 - 1 : Nat) : Int); rw [Nat.add_sub_cancel]) f2 r2 rfl n2
  have hB1 : (ns.length + 1) * 96 ≤ 140737488355328 := Nat.le_trans (Nat.mul_le_mul_right 96 (by omega)) hB
  refine EvM.of Tryz.func283 rfl ?_
  simp only [Tryz.f283, evE, Nat.reduceAdd, Nat.reduceSub, Nat.reduceLT, Nat.reduceEqDiff, reduceCtorEq]
  refine CallE.pure (CallK.intro c299 rfl (word_ev _) ?_)
  by_cases ht : s = trueB
  · have d1 : (s == [116, 114, 117, 101]) = true := by rw [ht]; rfl
    simp only [d1, evE, tyX, Nat.reduceAdd, Nat.reduceLT, Nat.reduceLeDiff, Nat.reduceEqDiff, reduceCtorEq]
    refine CallE.intro c188 _ (put_ev hr ⟨1, 0, 0, [], 5, 1, 0, []⟩ hB1) (fun r h2 hh => ?_) (fun v h2 hh => by cases hh.1)
    simp only [evE, Nat.reduceLT, Nat.reduceEqDiff, reduceCtorEq]
    exact leaf _ _ _ _ _ _ _ _ (by rw [pr, if_pos ht]) hh
  have d1 : (s == [116, 114, 117, 101]) = false := by simpa [trueB] using ht
  by_cases hfa : s = falseB
  · have d2 : (s == [102, 97, 108, 115, 101]) = true := by rw [hfa]; rfl
    simp only [d1, d2, evE, tyX, Nat.reduceAdd, Nat.reduceLT, Nat.reduceLeDiff, Nat.reduceEqDiff, reduceCtorEq]
    refine CallE.intro c188 _ (put_ev hr ⟨1, 0, 0, [], 5, 0, 0, []⟩ hB1) (fun r h2 hh => ?_) (fun v h2 hh => by cases hh.1)
    simp only [evE, Nat.reduceLT, Nat.reduceEqDiff, reduceCtorEq]
    exact leaf _ _ _ _ _ _ _ _ (by rw [pr, if_neg ht, if_pos hfa]) hh
  have d2 : (s == [102, 97, 108, 115, 101]) = false := by simpa [falseB] using hfa
  by_cases hw : wordK s = 0
  · have d3 : (wordK s == 0) = true := by simpa using hw
    simp only [d1, d2, d3, evE, tyX, Nat.reduceAdd, Nat.reduceLT, Nat.reduceLeDiff, Nat.reduceEqDiff, reduceCtorEq]
    refine CallE.intro c188 _ (put_ev hr ⟨2, 0, 0, s, 0, 0, 0, []⟩ hB1) (fun r h2 hh => ?_) (fun v h2 hh => by cases hh.1)
    simp only [evE, Nat.reduceLT, Nat.reduceEqDiff, reduceCtorEq]
    exact leaf _ _ _ _ _ _ _ _ (by rw [pr, if_neg ht, if_neg hfa, if_pos hw]) hh
  have d3 : (wordK s == 0) = false := by simpa using hw
  simp only [d1, d2, d3, evE, Nat.reduceLT, Nat.reduceEqDiff, reduceCtorEq]
  refine CallE.intro c282 _ (take_ev hL hr (by omega) [40]) (fun r h2 hh => ?_) (fun v h2 hh => ?_)
  rotate_left
  · unfold TakeP at hh
    split at hh
    · cases hh.1
    · rename_i hm
      obtain ⟨e, rfl⟩ := hh
      cases e
      show ResP L i N h2 ns (pr ts (f + 1) (.nm s) p) (.pan (faultA p)) h2
      rw [pr, if_neg ht, if_neg hfa, if_neg hw, if_pos hm]
      exact ⟨Fr.refl _ _, rfl⟩
  unfold TakeP at hh
  split at hh
  rotate_left
  · cases hh.1
  rename_i hm
  obtain ⟨e, rfl⟩ := hh
  cases e
  have hlt : p < ts.length := mkA_eq hm
  have hn2 : Md.need ts (p + 1) (.bin 1) ≤ f := by simp only [Md.need] at hf ⊢; omega
  have epr : pr ts (f + 1) (.nm s) p = match pr ts f (.bin 1) (p + 1) with
      | .bad q => .bad q
      | .ok a q => if kidsK (wordK s) = 2 then (if mkA ts q ≠ [44] then .bad q else match pr ts f (.bin 1) (q + 1) with
          | .bad r => .bad r
          | .ok b r => if mkA ts r = [41] then .ok (.bi (wordK s) a b) (r + 1) else .bad r)
        else if mkA ts q = [41] then .ok (.un (wordK s) a) (q + 1) else .bad q := by
    rw [pr, if_neg ht, if_neg hfa, if_neg hw, if_neg (fun h => h hm)]
    cases pr ts f (.bin 1) (p + 1) with
    | bad q => rfl
    | ok a q =>
      show (if _ then (if _ then _ else _) else _) = (if _ then (if _ then _ else _) else _)
      cases pr ts f (.bin 1) (q + 1) <;> rfl
  simp only [evE, Nat.reduceLT, Nat.reduceEqDiff, reduceCtorEq]
  refine CallE.intro c114 _ ((H f (Nat.le_refl _)).bin 1 (by decide) (by decide) _ i (p + 1) N ns hlt hn2 (hr.move (p + 1)) (bnd1 hB (by omega))) (fun r h3 hh => ?_) (fun v h3 hh => ?_)
  rotate_left
  · cases e : pr ts f (.bin 1) (p + 1) with
    | ok b q' => rw [e] at hh; exact hh.ok_pan.elim
    | bad q' =>
      rw [e] at hh epr
      show ResP L i N h ns (pr ts (f + 1) (.nm s) p) (.pan v) h3
      rw [epr]
      exact hh.bad_of (fr_move _) fun k hk => .inl hk
  cases e : pr ts f (.bin 1) (p + 1) with
  | bad q' => rw [e] at hh; exact hh.bad_ret.elim
  | ok a q =>
    rw [e] at hh epr
    obtain ⟨er, f3, N3, r3, n3⟩ := hh.ok_ret
    subst er
    have n3' : ∀ k, nbk N3 k → nbk N k ∨ h.length ≤ k := fun k hk => (n3 k hk).imp id fun e => by simpa using e
    have f03 : Fr (RP i N) h h3 := Fr.more (fr_move _) f3 fun k hk => .inl hk
    obtain ⟨⟨g1, g2⟩, g3⟩ := pr_adv ts f (.bin 1) (p + 1) a q hlt e
    have s1 : ∀ x, (h3 ++ [x])[h3.length]? = some x := fun x => by simp
    have s2 : ∀ x y, (h3 ++ [x]).set h3.length y = h3 ++ [y] := fun x y => by simp
    simp only [s1, s2, evE, tyX, Nat.reduceAdd, Nat.reduceLT, Nat.reduceLeDiff, Nat.reduceEqDiff, reduceCtorEq]
    refine CallE.pure (CallK.intro c115 rfl (children_ev _) ?_)
    simp only [evE, Nat.reduceLT, Nat.reduceEqDiff, reduceCtorEq]
    have hlen : (ns ++ lay a ns.length).length = ns.length + a.size := by rw [List.length_append, lay_length]
    have ra : RS (h3 ++ [⟨0, 115, Nd.cells ⟨wordK s, ((ns.length + a.size - 1 : Nat) : Int), 0, [], 0, 0, 0, []⟩⟩]) i L q N3 (ns ++ lay a ns.length) := r3.app _
    have fa : Fr (RP i N) h (h3 ++ [⟨0, 115, Nd.cells ⟨wordK s, ((ns.length + a.size - 1 : Nat) : Int), 0, [], 0, 0, 0, []⟩⟩]) := Fr.more (N' := N3) f03 (Fr.app _ _) n3'
    by_cases hk : kidsK (wordK s) = 2
    · have d4 : (kidsK (wordK s) == 2) = true := by simpa using hk
      simp only [d4, evE, Nat.reduceLT, Nat.reduceEqDiff, reduceCtorEq]
      have epr2 : pr ts (f + 1) (.nm s) p = if mkA ts q ≠ [44] then .bad q else match pr ts f (.bin 1) (q + 1) with
          | .bad r => .bad r
          | .ok b r => if mkA ts r = [41] then .ok (.bi (wordK s) a b) (r + 1) else .bad r := by rw [epr]; exact if_pos hk
      refine CallE.intro c282 _ (take_ev hL ra (by omega) [44]) (fun r h6 hh => ?_) (fun v h6 hh => ?_)
      rotate_left
      · unfold TakeP at hh
        split at hh
        · cases hh.1
        · rename_i hm
          obtain ⟨e, rfl⟩ := hh
          cases e
          show ResP L i N h ns (pr ts (f + 1) (.nm s) p) (.pan (faultA q)) _
          rw [epr2, if_pos hm]
          exact ⟨fa, rfl⟩
      unfold TakeP at hh
      split at hh
      rotate_left
      · cases hh.1
      rename_i hm6
      obtain ⟨e, rfl⟩ := hh
      cases e
      have hltq : q < ts.length := mkA_eq hm6
      rw [if_neg (fun h => h hm6)] at epr2
      have hn4 : Md.need ts (q + 1) (.bin 1) ≤ f := by simp only [Md.need] at hf ⊢; omega
      simp only [evE, Nat.reduceLT, Nat.reduceEqDiff, reduceCtorEq]
      refine CallE.intro c114 _ ((H f (Nat.le_refl _)).bin 1 (by decide) (by decide) _ i (q + 1) N3 (ns ++ lay a ns.length) hltq hn4 (ra.move (q + 1)) (by rw [hlen]; exact bnd1 hB (by omega))) (fun r h4 hh => ?_) (fun v h4 hh => ?_)
      rotate_left
      · cases e : pr ts f (.bin 1) (q + 1) with
        | ok b q' => rw [e] at hh; exact hh.ok_pan.elim
        | bad q' =>
          rw [e] at hh epr2
          show ResP L i N h ns (pr ts (f + 1) (.nm s) p) (.pan v) h4
          rw [epr2]
          exact hh.bad_of (Fr.more fa (fr_move _) n3') n3'
      cases e : pr ts f (.bin 1) (q + 1) with
      | bad q' => rw [e] at hh; exact hh.bad_ret.elim
      | ok b q5 =>
        rw [e] at hh epr2
        have epr3 : pr ts (f + 1) (.nm s) p = if mkA ts q5 = [41] then .ok (.bi (wordK s) a b) (q5 + 1) else .bad q5 := epr2
        obtain ⟨er, f4, N4, r4, n4⟩ := hh.ok_ret
        subst er
        rw [hlen] at r4
        obtain ⟨⟨j1, j2⟩, j3⟩ := pr_adv ts f (.bin 1) (q + 1) b q5 hltq e
        have hil : i < h3.length := r3.lt
        have nlt : ∀ k, nbk N3 k → k < h3.length := fun k hk => r3.nlt hk
        have k4 : h4[h3.length]? = some ⟨0, 115, Nd.cells ⟨wordK s, ((ns.length + a.size - 1 : Nat) : Int), 0, [], 0, 0, 0, []⟩⟩ := by
          refine f4.at ?_ (fun hk => hk.elim (fun e => by omega) fun e => Nat.lt_irrefl _ (nlt _ e))
          rw [List.getElem?_set_ne (by omega)]; exact s1 _
        have n4a : ∀ k, nbk N4 k → nbk N3 k ∨ h3.length + 1 ≤ k := fun k hk => (n4 k hk).imp id fun e => by simpa using e
        have n4' : ∀ k, nbk N4 k → nbk N k ∨ h.length ≤ k := fun k hk => (n4a k hk).elim (n3' k) fun e => .inr (by have := f03.1; omega)
        have hlen4 : (ns ++ lay a ns.length ++ lay b (ns.length + a.size)).length = ns.length + a.size + b.size := by rw [List.length_append, lay_length, hlen]
        have k4' := k4
        simp only [Nd.cells] at k4'
        simp only [k4', hlen, evE, tyX, Nat.reduceAdd, Nat.reduceLT, Nat.reduceLeDiff, Nat.reduceEqDiff, reduceCtorEq]
        obtain ⟨h5, hh5⟩ : ∃ h5, h5 = h4.set h3.length ⟨0, 115, Nd.cells ⟨wordK s, ((ns.length + a.size - 1 : Nat) : Int), ((ns.length + a.size + b.size - 1 : Nat) : Int), [], 0, 0, 0, []⟩⟩ := ⟨_, rfl⟩
        have hS : ∀ k, k = h3.length → k ≠ i ∧ ¬ nbk N4 k := fun k e => ⟨by omega, fun hk => (n4a k hk).elim (fun hk => by have := nlt k hk; omega) fun hk => by omega⟩
        have r5 : RS h5 i L q5 N4 (ns ++ lay a ns.length ++ lay b (ns.length + a.size)) := by rw [hh5]; exact r4.setO (hS _ rfl).1 (hS _ rfl).2
        have k5 : h5[h3.length]? = some ⟨0, 115, Nd.cells ⟨wordK s, ((ns.length + a.size - 1 : Nat) : Int), ((ns.length + a.size + b.size - 1 : Nat) : Int), [], 0, 0, 0, []⟩⟩ := by rw [hh5]; exact List.getElem?_set_self ((List.getElem?_eq_some_iff.1 k4).1)
        have f04 : Fr (RP i N) h h4 := Fr.more (Fr.more fa (fr_move _) n3') f4 n3'
        have f5 : Fr (RP i N) h h5 := by rw [hh5]; exact f04.trans (S1 := fun k => k = h3.length) (Fr.set _ rfl) fun k e => .inr (by have := f03.1; omega)
        have hh5' := hh5
        simp only [Nd.cells] at hh5'
        rw [← hh5']
        refine CallE.intro c282 _ (take_ev hL r5 (by omega) [41]) (fun r h6 hh => ?_) (fun v h6 hh => ?_)
        rotate_left
        · unfold TakeP at hh
          split at hh
          · cases hh.1
          · rename_i hm
            obtain ⟨e, rfl⟩ := hh
            cases e
            show ResP L i N h ns (pr ts (f + 1) (.nm s) p) (.pan (faultA q5)) _
            rw [epr3, if_neg hm]
            exact ⟨f5, rfl⟩
        unfold TakeP at hh
        split at hh
        rotate_left
        · cases hh.1
        rename_i hm6
        obtain ⟨e, rfl⟩ := hh
        cases e
        have l6 := List.getElem?_set_ne (l := h5) (a := (⟨0, 104, [L, .v (.int .i64 ((q5 + 1 : Nat) : Int)), N4]⟩ : ABlk)) (i := i) (j := h3.length) (by have := r3.lt; omega)
        rw [k5] at l6
        simp only [Nd.cells] at l6
        simp only [l6, evE, tyX, Nat.reduceAdd, Nat.reduceLT, Nat.reduceLeDiff, Nat.reduceEqDiff, reduceCtorEq]
        refine CallE.intro c188 _ (put_ev (RS.move r5 (q5 + 1)) ⟨wordK s, ((ns.length + a.size - 1 : Nat) : Int), ((ns.length + a.size + b.size - 1 : Nat) : Int), [], 0, 0, 0, []⟩ (by rw [hlen4]; exact Nat.le_trans (Nat.mul_le_mul_right 96 (by omega)) hB)) (fun r h7 hh => ?_) (fun v h2 hh => by cases hh.1)
        obtain ⟨e7, f7, N7, r7, n7⟩ := hh
        cases e7
        simp only [evE, Nat.reduceLT, Nat.reduceEqDiff, reduceCtorEq]
        have FR7 := Fr.more f5 (fr_move (N := N4) ⟨0, 104, [L, .v (.int .i64 ((q5 + 1 : Nat) : Int)), N4]⟩) n4'
        have n7' : ∀ k, nbk N7 k → nbk N4 k ∨ h5.length ≤ k := fun k hk => (n7 k hk).imp id fun e => by simpa using e
        exact ResP.ok_mk (t := .bi (wordK s) a b) (q := q5 + 1) (by rw [epr3, if_pos hm6]) (by simp only [lay_length, Tr.size]; omega) (Fr.more FR7 f7 n4') r7 (by simp only [lay, List.append_assoc]) (more_nbk f5.1 n4' n7')
    · have d4 : (kidsK (wordK s) == 2) = false := by simpa using hk
      have epr2 : pr ts (f + 1) (.nm s) p = if mkA ts q = [41] then .ok (.un (wordK s) a) (q + 1) else .bad q := by rw [epr]; exact if_neg hk
      simp only [d4, evE, Nat.reduceLT, Nat.reduceEqDiff, reduceCtorEq]
      refine CallE.intro c282 _ (take_ev hL ra (by omega) [41]) (fun r h6 hh => ?_) (fun v h6 hh => ?_)
      rotate_left
      · unfold TakeP at hh
        split at hh
        · cases hh.1
        · rename_i hm
          obtain ⟨e, rfl⟩ := hh
          cases e
          show ResP L i N h ns (pr ts (f + 1) (.nm s) p) (.pan (faultA q)) _
          rw [epr2, if_neg hm]
          exact ⟨fa, rfl⟩
      unfold TakeP at hh
      split at hh
      rotate_left
      · cases hh.1
      rename_i hm6
      obtain ⟨e, rfl⟩ := hh
      cases e
      have l6 := List.getElem?_set_ne (l := (h3 ++ [⟨0, 115, Nd.cells ⟨wordK s, ((ns.length + a.size - 1 : Nat) : Int), 0, [], 0, 0, 0, []⟩⟩])) (a := (⟨0, 104, [L, .v (.int .i64 ((q + 1 : Nat) : Int)), N3]⟩ : ABlk)) (i := i) (j := h3.length) (by have := r3.lt; omega)
      rw [s1] at l6
      simp only [Nd.cells] at l6
      simp only [l6, Nd.cells, evE, tyX, Nat.reduceAdd, Nat.reduceLT, Nat.reduceLeDiff, Nat.reduceEqDiff, reduceCtorEq]
      refine CallE.intro c188 _ (put_ev (RS.move ra (q + 1)) ⟨wordK s, ((ns.length + a.size - 1 : Nat) : Int), 0, [], 0, 0, 0, []⟩ (by rw [hlen]; exact Nat.le_trans (Nat.mul_le_mul_right 96 (by omega)) hB)) (fun r h7 hh => ?_) (fun v h2 hh => by cases hh.1)
      obtain ⟨e7, f7, N7, r7, n7⟩ := hh
      cases e7
      simp only [evE, Nat.reduceLT, Nat.reduceEqDiff, reduceCtorEq]
      have FR7 := Fr.more fa (fr_move (N := N3) ⟨0, 104, [L, .v (.int .i64 ((q + 1 : Nat) : Int)), N3]⟩) n3'
      have n7' : ∀ k, nbk N7 k → nbk N3 k ∨ (h3 ++ [(⟨0, 115, Nd.cells ⟨wordK s, ((ns.length + a.size - 1 : Nat) : Int), 0, [], 0, 0, 0, []⟩⟩ : ABlk)]).length ≤ k := fun k hk => (n7 k hk).imp id fun e => by simpa using e
      exact ResP.ok_mk (t := .un (wordK s) a) (q := q + 1) (by rw [epr2, if_pos hm6]) (by simp only [lay_length, Tr.size]; omega) (Fr.more FR7 f7 n3') r7 (by rw [List.append_assoc]; rfl) (more_nbk fa.1 n3' n7')
end Go.Proofs.YtlobiioioicmhaaGreatDoor
/- The program's reader of expressions, walked: level 7. -/
namespace Go.Proofs.YtlobiioioicmhaaGreatDoor
set_option linter.all false
open Go Go.Ev
set_option maxRecDepth 20000
theorem LAt.take {ts : List Tk} {cs : List AV} (h : tkCells ts <+: cs) {p : Nat} {t : Tk} (hp : ts[p]? = some t) : (cs.drop (p * 6)).take 6 = t.cells := by
  obtain ⟨h0, h1, h2, h3, h4, h5⟩ := LAt.at h hp
  apply List.ext_getElem?
  intro j
  rw [List.getElem?_take]
  split
  · rename_i hj
    rw [List.getElem?_drop]
    have : j = 0 ∨ j = 1 ∨ j = 2 ∨ j = 3 ∨ j = 4 ∨ j = 5 := by omega
    rcases this with rfl | rfl | rfl | rfl | rfl | rfl
    · exact h0
    · exact h1
    · exact h2
    · exact h3
    · exact h4
    · exact h5
  · rename_i hj
    rw [List.getElem?_eq_none]
    simp only [Tk.cells, List.length_cons, List.length_nil]; omega
theorem LAt.len {ts : List Tk} {cs : List AV} (h : tkCells ts <+: cs) {p : Nat} (hp : p < ts.length) : p * 6 + 6 ≤ cs.length := by
  have := h.length_le
  rw [tkCells_length] at this
  omega
variable {γ : List (Nat × AV)} {ts : List Tk} {L : AV}
set_option maxHeartbeats 1000000 in
theorem fs_step (hL : LAt L ts) (hb : ts.length < 4611686018427387904) {f : Nat} (H : ∀ g ≤ f, PrOk γ ts L g) : CallOk γ ts L (f + 1) 245 [] .fs := by
  intro h i p N ns hp hf hr hB
  have hi := hr.1
  have w1 : IntKind.i64.wrap ((p : Int) + 1) = ((p + 1 : Nat) : Int) := w64 hp hb
  refine EvM.of Tryz.func245 rfl ?_
  simp only [Tryz.f245, evE, Nat.reduceAdd, Nat.reduceSub, Nat.reduceLT, Nat.reduceEqDiff, reduceCtorEq]
  refine CallE.intro c186 _ (mark_ev hL hr) (fun r h2 hh => ?_) (fun v h' hh => by cases hh.1)
  obtain ⟨e, rfl⟩ := hh
  cases e
  by_cases hm : mkA ts p = [40]
  · have d1 : (mkA ts p == [40]) = true := by simpa using hm
    have hlt : p < ts.length := mkA_eq hm
    have hn2 : Md.need ts (p + 1) (.bin 1) ≤ f := by clear w1; simp only [Md.need] at hf ⊢; omega
    have epr : pr ts (f + 1) .fs p = match pr ts f (.bin 1) (p + 1) with
      | .bad q => .bad q
      | .ok a q => if mkA ts q = [41] then .ok a (q + 1) else .bad q := by
      rw [pr, if_pos hm] <;> cases pr ts f (.bin 1) (p + 1) <;> rfl
    simp only [d1, hi, w1, evE, tyX, Nat.reduceAdd, Nat.reduceLT, Nat.reduceLeDiff, Nat.reduceEqDiff, reduceCtorEq]
    refine CallE.intro c114 _ ((H f (Nat.le_refl _)).bin 1 (by decide) (by decide) _ i (p + 1) N ns hlt hn2 (hr.move (p + 1)) (bnd1 hB (by clear w1; omega))) (fun r h3 hh => ?_) (fun v h3 hh => ?_)
    rotate_left
    · cases e : pr ts f (.bin 1) (p + 1) with
      | ok b q' => rw [e] at hh; exact hh.ok_pan.elim
      | bad q' =>
        rw [e] at hh epr
        show ResP L i N h2 ns (pr ts (f + 1) .fs p) (.pan v) h3
        rw [epr]
        exact hh.bad_of (fr_move _) fun k hk => .inl hk
    cases e : pr ts f (.bin 1) (p + 1) with
    | bad q' => rw [e] at hh; exact hh.bad_ret.elim
    | ok a q =>
      rw [e] at hh epr
      obtain ⟨er, f3, N3, r3, n3⟩ := hh.ok_ret
      subst er
      have n3' : ∀ k, nbk N3 k → nbk N k ∨ h2.length ≤ k := fun k hk => (n3 k hk).imp id fun e => by simpa using e
      have f03 : Fr (RP i N) h2 h3 := Fr.more (fr_move _) f3 fun k hk => .inl hk
      obtain ⟨⟨g1, g2⟩, g3⟩ := pr_adv ts f (.bin 1) (p + 1) a q hlt e
      have epr2 : pr ts (f + 1) .fs p = if mkA ts q = [41] then .ok a (q + 1) else .bad q := epr
      simp only [evE, Nat.reduceLT, Nat.reduceEqDiff, reduceCtorEq]
      refine CallE.intro c282 _ (take_ev hL r3 (by clear w1; omega) [41]) (fun r h6 hh => ?_) (fun v h6 hh => ?_)
      rotate_left
      · unfold TakeP at hh
        split at hh
        · cases hh.1
        · rename_i hm
          obtain ⟨e, rfl⟩ := hh
          cases e
          show ResP L i N h2 ns (pr ts (f + 1) .fs p) (.pan (faultA q)) _
          rw [epr2, if_neg hm]
          exact ⟨f03, rfl⟩
      unfold TakeP at hh
      split at hh
      rotate_left
      · cases hh.1
      rename_i hm6
      obtain ⟨e, rfl⟩ := hh
      cases e
      simp only [evE, Nat.reduceLT, Nat.reduceEqDiff, reduceCtorEq]
      exact ResP.ok_mk (t := a) (q := q + 1) (by rw [epr2, if_pos hm6]) rfl (Fr.more f03 (fr_move _) n3') (r3.move (q + 1)) rfl n3'
  · have d1 : (mkA ts p == [40]) = false := by simpa using hm
    have stop : pr ts (f + 1) .fs p = .bad p → ResP L i N h2 ns (pr ts (f + 1) .fs p) (.pan (faultA p)) h2 := fun e => by rw [e]; exact ⟨Fr.refl _ _, rfl⟩
    have leaf : ∀ (nd : Nd) (t : Tr) (h3 h4 : List ABlk) (r : AV), pr ts (f + 1) .fs p = .ok t (p + 1) → lay t ns.length = [nd] → t.size = 1 → Fr (RP i N) h2 h3 → PutP L i (p + 1) N ns nd h3 (.ret r) h4 → ResP L i N h2 ns (pr ts (f + 1) .fs p) (.ret r) h4 := by
      intro nd t h3 h4 r e hl ht f3 ⟨e2, f4, N4, r4, n4⟩
      cases e2
      refine ResP.ok_mk (t := t) (q := p + 1) e ?_ (Fr.more f3 f4 fun k hk => .inl hk) r4 (by rw [hl]) (more_nbk f3.1 (fun k hk => .inl hk) n4)
      rw [ht, Nat.add_sub_cancel]
    rcases hL with ⟨rfl, rfl⟩ | ⟨b, m, cs, rfl, hcs⟩
    · have hp0 : p = 0 := Nat.le_zero.1 hp
      subst hp0
      have d0 : (((0 : Nat) : Int) == 0) = true := rfl
      simp only [d1, evE, Nat.reduceLT, Nat.reduceEqDiff, reduceCtorEq]
      (repeat' (first | (with_reducible refine And.intro ?_ ?_) | ((first | refine GuardK.intro_f (fun h => ?_) (fun h => ?_) | refine GuardK.intro_t (fun h => ?_) (fun h => ?_) | refine CondK.intro (fun h => ?_) (fun h => ?_) | refine PickK.intro (fun h => ?_) (fun h => ?_)) <;> simp only [h, d1, hi, d0, evE, tyX, Bool.not_true, Bool.not_false, Nat.reduceAdd, Nat.reduceSub, Nat.reduceMul, Nat.reduceLT, Nat.reduceLeDiff, Nat.reduceEqDiff, reduceCtorEq, List.reduceReplicate, Int.reduceToNat, Int.reduceLE, Int.reduceLT]) | (refine DrawK.intro (by kernel_rfl) (by kernel_rfl) ?_; simp only [hi, d0, evE, tyX, Nat.reduceLT, Nat.reduceLeDiff, Nat.reduceEqDiff, reduceCtorEq])))
      exact stop (by rw [pr, if_neg hm]; rfl)
    · by_cases hlt : p < ts.length
      · have d2 : ((p : Int) == (ts.length : Int)) = false := by simp only [beq_eq_false_iff_ne, ne_eq]; clear w1; omega
        have ht : ts[p]? = some ts[p] := by simp [hlt]
        generalize ts[p] = t at ht
        have htk := LAt.take hcs ht
        have htl := LAt.len hcs hlt
        obtain ⟨k0, k1, k2, k3, k4, k5⟩ := LAt.at hcs ht
        have g1 : ∀ l, (h2 ++ l)[i]? = some ⟨0, 104, [.sl b ts.length m cs, .v (.int .i64 p), N]⟩ := fun l => (List.getElem?_append_left hr.lt).trans hi
        have s1 : ∀ x, (h2 ++ [x])[h2.length]? = some x := fun x => by simp
        have s2 : ∀ x y, (h2 ++ [x]).set h2.length y = h2 ++ [y] := fun x y => by simp
        by_cases hk5 : t.kind = 5
        · have d3 : (t.kind == 5) = true := by simpa using hk5
          simp only [d1, evE, Nat.reduceLT, Nat.reduceEqDiff, reduceCtorEq]
          (repeat' (first | (with_reducible refine And.intro ?_ ?_) | ((first | refine GuardK.intro_f (fun h => ?_) (fun h => ?_) | refine GuardK.intro_t (fun h => ?_) (fun h => ?_) | refine CondK.intro (fun h => ?_) (fun h => ?_) | refine PickK.intro (fun h => ?_) (fun h => ?_)) <;> simp only [h, d1, hi, d2, d3, k0, evE, tyX, Bool.not_true, Bool.not_false, Nat.reduceAdd, Nat.reduceSub, Nat.reduceMul, Nat.reduceLT, Nat.reduceLeDiff, Nat.reduceEqDiff, reduceCtorEq, List.reduceReplicate, Int.reduceToNat, Int.reduceLE, Int.reduceLT]) | (refine DrawK.intro (by kernel_rfl) (by kernel_rfl) ?_; simp only [hi, d2, d3, k0, evE, tyX, Nat.reduceLT, Nat.reduceLeDiff, Nat.reduceEqDiff, reduceCtorEq])))
          · exact hlt
          · exact stop (by rw [pr, if_neg hm, ht]; exact if_pos hk5)
        · have d3 : (t.kind == 5) = false := by simpa using hk5
          simp only [d1, evE, Nat.reduceLT, Nat.reduceEqDiff, reduceCtorEq]
          refine DrawK.intro (by kernel_rfl) (by kernel_rfl) ?_
          simp only [hi, d2, d3, k0, evE, tyX, Nat.reduceLT, Nat.reduceEqDiff, reduceCtorEq]
          refine ⟨hlt, ?_⟩
          refine DrawK.text (by kernel_rfl) (by kernel_rfl) ?_
          have htl2 : 6 ≤ (cs.drop (p * 6)).length := by rw [List.length_drop]; clear w1; omega
          have s3 : ∀ x y, ((h2 ++ [x]).set i y)[h2.length]? = some x := fun x y => (List.getElem?_set_ne (by have := hr.lt; omega)).trans (s1 x)
          have rm := (hr.app [⟨0, 53, t.cells⟩]).move (p + 1)
          have fm : Fr (RP i N) h2 ((h2 ++ [(⟨0, 53, t.cells⟩ : ABlk)]).set i ⟨0, 104, [.sl b ts.length m cs, .v (.int .i64 ((p + 1 : Nat) : Int)), N]⟩) := Fr.more (N' := N) (Fr.app _ _) (fr_move _) fun k hk => .inl hk
          have hB1 : (ns.length + 1) * 96 ≤ 140737488355328 := Nat.le_trans (Nat.mul_le_mul_right 96 (by clear w1; omega)) hB
          by_cases h2' : t.kind = 2
          · have e2 : (t.kind == 2) = true := by simpa using h2'
            simp only [hi, htk, htl2, Tk.cells, g1, s1, s2, s3, w1, e2, evE, tyX, Nat.reduceAdd, Nat.reduceLT, Nat.reduceLeDiff, Nat.reduceEqDiff, reduceCtorEq]
            refine ⟨hlt, ?_⟩
            refine CallE.intro c188 _ (put_ev rm ⟨1, 0, 0, [], 1, t.int, 0, []⟩ hB1) (fun r h4 hh => ?_) (fun v h2 hh => by cases hh.1)
            simp only [evE, Nat.reduceLT, Nat.reduceEqDiff, reduceCtorEq]
            exact leaf _ (.lf 1 [] 1 t.int 0 []) _ _ _ (by rw [pr, if_neg hm, ht]; simp only [if_neg hk5, if_pos h2']) rfl rfl fm hh
          have e2 : (t.kind == 2) = false := by simpa using h2'
          by_cases h3' : t.kind = 3
          · have e3 : (t.kind == 3) = true := by simpa using h3'
            simp only [hi, htk, htl2, Tk.cells, g1, s1, s2, s3, w1, e2, e3, evE, tyX, Nat.reduceAdd, Nat.reduceLT, Nat.reduceLeDiff, Nat.reduceEqDiff, reduceCtorEq]
            refine ⟨hlt, ?_⟩
            refine CallE.intro c188 _ (put_ev rm ⟨1, 0, 0, [], 2, 0, t.real, []⟩ hB1) (fun r h4 hh => ?_) (fun v h2 hh => by cases hh.1)
            simp only [evE, Nat.reduceLT, Nat.reduceEqDiff, reduceCtorEq]
            exact leaf _ (.lf 1 [] 2 0 t.real []) _ _ _ (by rw [pr, if_neg hm, ht]; simp only [if_neg hk5, if_neg h2', if_pos h3']) rfl rfl fm hh
          have e3 : (t.kind == 3) = false := by simpa using h3'
          by_cases h4' : t.kind = 4
          · have e4 : (t.kind == 4) = true := by simpa using h4'
            simp only [hi, htk, htl2, Tk.cells, g1, s1, s2, s3, w1, e2, e3, e4, evE, tyX, Nat.reduceAdd, Nat.reduceLT, Nat.reduceLeDiff, Nat.reduceEqDiff, reduceCtorEq]
            refine ⟨hlt, ?_⟩
            refine CallE.intro c188 _ (put_ev rm ⟨1, 0, 0, [], 4, 0, 0, t.text⟩ hB1) (fun r h4 hh => ?_) (fun v h2 hh => by cases hh.1)
            simp only [evE, Nat.reduceLT, Nat.reduceEqDiff, reduceCtorEq]
            exact leaf _ (.lf 1 [] 4 0 0 t.text) _ _ _ (by rw [pr, if_neg hm, ht]; simp only [if_neg hk5, if_neg h2', if_neg h3', if_pos h4']) rfl rfl fm hh
          have e4 : (t.kind == 4) = false := by simpa using h4'
          simp only [hi, htk, htl2, Tk.cells, g1, s1, s2, s3, w1, e2, e3, e4, evE, tyX, Nat.reduceAdd, Nat.reduceLT, Nat.reduceLeDiff, Nat.reduceEqDiff, reduceCtorEq]
          refine ⟨hlt, ?_⟩
          have epr : pr ts (f + 1) .fs p = pr ts f (.nm t.text) (p + 1) := by rw [pr, if_neg hm, ht]; simp only [if_neg hk5, if_neg h2', if_neg h3', if_neg h4']
          have hn2 : Md.need ts (p + 1) (.nm t.text) ≤ f := by clear w1; simp only [Md.need] at hf ⊢; omega
          refine CallE.intro c283 _ ((H f (Nat.le_refl _)).nm t.text _ i (p + 1) N ns hlt hn2 rm (bnd1 hB (by clear w1; omega))) (fun r h4 hh => ?_) (fun v h4 hh => ?_)
          · simp only [evE, Nat.reduceLT, Nat.reduceEqDiff, reduceCtorEq]
            rw [epr]
            cases e : pr ts f (.nm t.text) (p + 1) with
            | bad q => rw [e] at hh; exact hh.bad_ret.elim
            | ok a q =>
              rw [e] at hh
              obtain ⟨er, f4, N4, r4, n4⟩ := hh.ok_ret
              subst er
              exact ResP.ok_mk (t := a) (q := q) rfl rfl (Fr.more fm f4 fun k hk => .inl hk) r4 rfl (more_nbk fm.1 (fun k hk => .inl hk) n4)
          · show ResP (.sl b ts.length m cs) i N h2 ns (pr ts (f + 1) .fs p) (.pan v) h4
            rw [epr]
            cases e : pr ts f (.nm t.text) (p + 1) with
            | bad q => rw [e] at hh; exact hh.bad_of fm fun k hk => .inl hk
            | ok a q => rw [e] at hh; exact hh.ok_pan.elim
      · have d2 : ((p : Int) == (ts.length : Int)) = true := by simp only [beq_iff_eq]; clear w1; omega
        simp only [d1, evE, Nat.reduceLT, Nat.reduceEqDiff, reduceCtorEq]
        (repeat' (first | (with_reducible refine And.intro ?_ ?_) | ((first | refine GuardK.intro_f (fun h => ?_) (fun h => ?_) | refine GuardK.intro_t (fun h => ?_) (fun h => ?_) | refine CondK.intro (fun h => ?_) (fun h => ?_) | refine PickK.intro (fun h => ?_) (fun h => ?_)) <;> simp only [h, d1, hi, d2, evE, tyX, Bool.not_true, Bool.not_false, Nat.reduceAdd, Nat.reduceSub, Nat.reduceMul, Nat.reduceLT, Nat.reduceLeDiff, Nat.reduceEqDiff, reduceCtorEq, List.reduceReplicate, Int.reduceToNat, Int.reduceLE, Int.reduceLT]) | (refine DrawK.intro (by kernel_rfl) (by kernel_rfl) ?_; simp only [hi, d2, evE, tyX, Nat.reduceLT, Nat.reduceLeDiff, Nat.reduceEqDiff, reduceCtorEq])))
        exact stop (by rw [pr, if_neg hm, List.getElem?_eq_none (by clear w1; omega)])
end Go.Proofs.YtlobiioioicmhaaGreatDoor
/- The program's reader of expressions, walked: reading, with its way out by a panic. -/
namespace Go.Proofs.YtlobiioioicmhaaGreatDoor
set_option linter.all false
open Go Go.Ev
set_option maxRecDepth 20000
variable {γ : List (Nat × AV)} {ts : List Tk} {L : AV}
theorem pr_ok (hL : LAt L ts) (hb : ts.length < 4611686018427387904) : ∀ f, PrOk γ ts L f := by
  intro f
  induction f using Nat.strongRecOn with
  | ind f ih =>
    cases f with
    | zero =>
      refine ⟨fun n h1 h6 h i p N ns hp hf => ?_, fun h i p N ns hp hf => ?_, fun h i p N ns hp hf => ?_, fun s h i p N ns hp hf => ?_⟩ <;> simp only [Md.need] at hf <;> omega
    | succ f =>
      have H : ∀ g ≤ f, PrOk γ ts L g := fun g hg => ih g (Nat.lt_succ_of_le hg)
      exact ⟨fun n h1 h6 => bin_step hL hb H h1 h6, un_step hL hb (H f (Nat.le_refl _)), fs_step hL hb H, fun s => nm_step hL hb H s⟩
/-- What is read of level 1 from a place on. -/
def readP (ts : List Tk) (p : Nat) : Res := pr ts (16 * ts.length + 16) (.bin 1) p
theorem c60 : bodyT Tryz.prog 60 := ⟨_, Tryz.func60, by kernel_rfl, by kernel_rfl⟩
theorem c113 : bodyT Tryz.prog 113 := ⟨_, Tryz.func113, by kernel_rfl, by kernel_rfl⟩
theorem read1_none {h : List ABlk} {j : Nat} : EvD Tryz.prog γ 113 [.ptr j 0 0] h none fun h' => h' = h := by
  refine EvD.of Tryz.func113 rfl rfl ?_
  simp only [recV, Tryz.f113, endR_ret, evE, tyX, Nat.reduceAdd, Nat.reduceSub, Nat.reduceLT, Nat.reduceEqDiff, reduceCtorEq]
  (repeat' (first | (with_reducible refine And.intro ?_ ?_) | ((first | refine GuardK.intro_f (fun h => ?_) (fun h => ?_) | refine GuardK.intro_t (fun h => ?_) (fun h => ?_) | refine CondK.intro (fun h => ?_) (fun h => ?_) | refine PickK.intro (fun h => ?_) (fun h => ?_)) <;> simp only [h, evE, tyX, Bool.not_true, Bool.not_false, Nat.reduceAdd, Nat.reduceSub, Nat.reduceMul, Nat.reduceLT, Nat.reduceLeDiff, Nat.reduceEqDiff, reduceCtorEq, List.reduceReplicate, Int.reduceToNat, Int.reduceLE, Int.reduceLT]) | (refine DrawK.intro (by kernel_rfl) (by kernel_rfl) ?_; simp only [evE, tyX, Bool.not_true, Bool.not_false, Nat.reduceAdd, Nat.reduceSub, Nat.reduceMul, Nat.reduceLT, Nat.reduceLeDiff, Nat.reduceEqDiff, reduceCtorEq, List.reduceReplicate, Int.reduceToNat, Int.reduceLE, Int.reduceLT])))
  all_goals trace_state
theorem read1_some {h : List ABlk} {j q : Nat} {x : AV} (hj : h[j]? = some ⟨0, 3, [x]⟩) : EvD Tryz.prog γ 113 [.ptr j 0 0] h (some (faultA q)) fun h' => h' = (h ++ [(⟨0, 185, [.v (.int .i64 q)]⟩ : ABlk)]).set j ⟨0, 3, [.v (.int .i64 q)]⟩ := by
  have hl : j < h.length := (List.getElem?_eq_some_iff.1 hj).1
  have s1 : ∀ x, (h ++ [x])[h.length]? = some x := fun x => by simp
  have s2 : ∀ x y, (h ++ [x]).set h.length y = h ++ [y] := fun x y => by simp
  have s3 : ∀ l, (h ++ l)[j]? = some ⟨0, 3, [x]⟩ := fun l => (List.getElem?_append_left hl).trans hj
  refine EvD.of Tryz.func113 rfl rfl ?_
  simp only [recV, faultA, Tryz.f113, endR_normal, s1, s2, s3, evE, tyX, Bool.not_true, Nat.reduceAdd, Nat.reduceSub, Nat.reduceLT, Nat.reduceLeDiff, Nat.reduceEqDiff, reduceCtorEq]
/-- How reading ends: -1, or the place of a fault. -/
def ReadP (L : AV) (i : Nat) (N : AV) (h : List ABlk) (ns : List Nd) (r : Res) (o : Out) (h' : List ABlk) : Prop :=
  Fr (RP i N) h h' ∧ match r with
  | .ok t q => o = .ret (.v (.int .i64 (-1))) ∧ ∃ N', RS h' i L q N' (ns ++ lay t ns.length) ∧ ∀ k, nbk N' k → nbk N k ∨ h.length ≤ k
  | .bad q => o = .ret (.v (.int .i64 (q : Int)))
set_option maxHeartbeats 1000000 in
theorem read_ev (hL : LAt L ts) (hb : ts.length < 4611686018427387904) {h : List ABlk} {i p : Nat} {N : AV} {ns : List Nd} (hp : p ≤ ts.length) (hr : RS h i L p N ns) (hB : (ns.length + (ts.length - p) + 1) * 96 ≤ 140737488355328) :
    EvM Tryz.prog γ 60 [.ptr i 0 0] h (ReadP L i N h ns (readP ts p)) := by
  have s1 : ∀ x, (h ++ [x])[h.length]? = some x := fun x => by simp
  have hc := (pr_ok (γ := γ) hL hb (16 * ts.length + 16)).bin 1 (by decide) (by decide) (h ++ [⟨0, 3, [.v (.int .i64 0)]⟩]) i p N ns hp (by simp only [Md.need]; omega) (hr.app _) hB
  have hfr : Fr (RP i N) h (h ++ [⟨0, 3, [.v (.int .i64 0)]⟩]) := Fr.app _ _
  have hkeep : ∀ h1, Fr (RP i N) (h ++ [⟨0, 3, [.v (.int .i64 0)]⟩]) h1 → h1[h.length]? = some ⟨0, 3, [.v (.int .i64 0)]⟩ := fun h1 f => f.at (s1 _) fun hk => hk.elim (fun e => by have := hr.lt; omega) fun e => by have := hr.nlt e; omega
  refine EvM.ofD2 Tryz.func60 rfl ?_
  have e0 : (#[] : Array Operand).isEmpty = true := rfl
  simp only [kopsD, deferT, e0, Tryz.f60, evE, tyX, Nat.reduceAdd, Nat.reduceSub, Nat.reduceLT, Nat.reduceEqDiff, reduceCtorEq]
  refine CallE.intro c114 _ hc (fun r h1 hh => ?_) (fun v h1 hh => ?_)
  · have hk := hkeep h1 hh.1
    simp only [hk, endDP_ret, endD, evE, tyX, Nat.reduceLT, Nat.reduceLeDiff, Nat.reduceEqDiff, reduceCtorEq]
    refine ⟨c113, _, read1_none, fun h' e => ?_⟩
    subst e
    have hlt : h.length < h1.length := (List.getElem?_eq_some_iff.1 hk).1
    have s2 : ∀ b, (h1.set h.length b)[h.length]? = some b := fun b => List.getElem?_set_self hlt
    simp only [s2, evE]
    show ReadP L i N h ns (pr ts (16 * ts.length + 16) (.bin 1) p) _ _
    cases e : pr ts (16 * ts.length + 16) (.bin 1) p with
    | bad q => rw [e] at hh; exact hh.bad_ret.elim
    | ok t q =>
      rw [e] at hh
      obtain ⟨_, f1, N1, r1, n1⟩ := hh.ok_ret
      have n1' : ∀ k, nbk N1 k → nbk N k ∨ h.length + 1 ≤ k := fun k hk => (n1 k hk).imp id fun e => by simpa using e
      have hj : h.length ≠ i := by have := hr.lt; omega
      have hnj : ¬ nbk N1 h.length := fun hk => (n1' _ hk).elim (fun e => by have := hr.nlt e; omega) fun e => by omega
      exact ⟨(Fr.more hfr f1 fun k hk => .inl hk).trans (S1 := fun k => k = h.length) (Fr.set _ rfl) fun k e => .inr (by omega), rfl, N1, r1.setO hj hnj, fun k hk => (n1' k hk).imp id fun e => by omega⟩
  · have hk := hkeep h1 hh.1
    have hlt : h.length < h1.length := (List.getElem?_eq_some_iff.1 hk).1
    cases e : pr ts (16 * ts.length + 16) (.bin 1) p with
    | ok t q => rw [e] at hh; exact hh.ok_pan.elim
    | bad q =>
      rw [e] at hh
      have ev : v = faultA q := by have := hh.2; cases this; rfl
      subst ev
      simp only [endD, evE, tyX, Nat.reduceEqDiff, reduceCtorEq]
      refine ⟨c113, _, read1_some hk, fun h' e' => ?_⟩
      subst e'
      have s2 : ∀ l b, ((h1 ++ l).set h.length b)[h.length]? = some b := fun l b => List.getElem?_set_self (by rw [List.length_append]; omega)
      simp only [s2, evE]
      show ReadP L i N h ns (pr ts (16 * ts.length + 16) (.bin 1) p) _ _
      rw [e]
      exact ⟨((Fr.more hfr hh.1 fun k hk => .inl hk).trans (S1 := fun _ => False) (Fr.app _ _) fun k e => e.elim).trans (S1 := fun k => k = h.length) (Fr.set _ rfl) fun k e => .inr (by omega), rfl⟩
end Go.Proofs.YtlobiioioicmhaaGreatDoor
/- Too many nodes, or too deep? The program's answer. -/
namespace Go.Proofs.YtlobiioioicmhaaGreatDoor
set_option linter.all false
open Go Go.Ev
set_option maxRecDepth 20000
variable {γ : List (Nat × AV)}
def iv (d : Nat) : AV := .v (.int .i64 (d : Int))
def dcs (ds : List Nat) (i : Nat) : List AV := (ds.take i).map iv ++ List.replicate (ds.length - i) (iv 0)
theorem dcs_length (ds : List Nat) {i : Nat} (h : i ≤ ds.length) : (dcs ds i).length = ds.length := by
  simp only [dcs, List.length_append, List.length_map, List.length_take, List.length_replicate]; omega
theorem dcs_at {ds : List Nat} {i j d : Nat} (hi : i ≤ ds.length) (hj : j < i) (hd : ds[j]? = some d) : (dcs ds i)[j]? = some (iv d) := by
  unfold dcs
  rw [List.getElem?_append_left (by simp only [List.length_map, List.length_take]; omega), List.getElem?_map, List.getElem?_take, if_pos hj, hd]; rfl
theorem dcs_set {ds : List Nat} {i d : Nat} (hd : ds[i]? = some d) : (dcs ds i).set i (iv d) = dcs ds (i + 1) := by
  have hi : i < ds.length := (List.getElem?_eq_some_iff.1 hd).1
  apply List.ext_getElem?
  intro j
  rw [List.getElem?_set]
  by_cases hj : i = j
  · subst hj
    rw [if_pos rfl, dcs_length ds (by omega), if_pos hi, dcs_at (by omega) (by omega) hd]
  · rw [if_neg hj]
    unfold dcs
    by_cases hj2 : j < i
    · rw [List.getElem?_append_left (by simp only [List.length_map, List.length_take]; omega), List.getElem?_append_left (by simp only [List.length_map, List.length_take]; omega), List.getElem?_map, List.getElem?_map, List.getElem?_take, List.getElem?_take, if_pos hj2, if_pos (by omega)]
    · rw [List.getElem?_append_right (by simp only [List.length_map, List.length_take]; omega), List.getElem?_append_right (by simp only [List.length_map, List.length_take]; omega)]
      simp only [List.length_map, List.length_take, List.getElem?_replicate]
      by_cases hj3 : j < ds.length
      · rw [if_pos (by omega), if_pos (by omega)]
      · rw [if_neg (by omega), if_neg (by omega)]
theorem dcs_zero (ds : List Nat) : List.replicate ds.length (iv 0) = dcs ds 0 := by simp [dcs]
theorem tyZ : aggT Tryz.prog 115 = some true ∧
    aggT Tryz.prog 2 = some false ∧
    aggT Tryz.prog 22 = some false ∧
    aggT Tryz.prog 3 = some false ∧
    aggT Tryz.prog 37 = some false ∧
    aggT Tryz.prog 39 = some false ∧
    aggT Tryz.prog 48 = some false ∧
    aggT Tryz.prog 53 = some true ∧
    aggT Tryz.prog 9 = some false ∧
    elemT Tryz.prog 37 = some 5 ∧
    elemT Tryz.prog 39 = some 115 ∧
    elemT Tryz.prog 48 = some 53 ∧
    elemT Tryz.prog 78 = some 3 ∧
    fieldT Tryz.prog 104 0 = some (0, 48) ∧
    fieldT Tryz.prog 104 1 = some (1, 3) ∧
    fieldT Tryz.prog 104 2 = some (2, 39) ∧
    fieldT Tryz.prog 115 0 = some (0, 3) ∧
    fieldT Tryz.prog 115 1 = some (1, 3) ∧
    fieldT Tryz.prog 115 2 = some (2, 3) ∧
    fieldT Tryz.prog 53 0 = some (0, 3) ∧
    fieldT Tryz.prog 53 1 = some (1, 9) ∧
    fieldT Tryz.prog 53 2 = some (2, 2) ∧
    fieldT Tryz.prog 53 3 = some (3, 22) ∧
    fieldT Tryz.prog 53 4 = some (4, 3) ∧
    fieldT Tryz.prog 53 5 = some (5, 3) ∧
    fltT Tryz.prog 37 = none ∧
    intT Tryz.prog 37 = none ∧
    intT Tryz.prog 5 = some .u8 ∧
    mkT Tryz.prog 78 = some (3, 1, [.v (.int .i64 0)]) ∧
    placesT Tryz.prog 104 = some [(0, 1), (1, 1), (2, 1)] ∧
    placesT Tryz.prog 41 = some [(0, 1)] ∧
    sizeT Tryz.prog 104 = some 3 ∧
    sizeT Tryz.prog 115 = some 9 ∧
    sizeT Tryz.prog 2 = some 1 ∧
    sizeT Tryz.prog 22 = some 1 ∧
    sizeT Tryz.prog 3 = some 1 ∧
    sizeT Tryz.prog 37 = some 1 ∧
    sizeT Tryz.prog 39 = some 1 ∧
    sizeT Tryz.prog 41 = some 1 ∧
    sizeT Tryz.prog 48 = some 1 ∧
    sizeT Tryz.prog 5 = some 1 ∧
    sizeT Tryz.prog 53 = some 6 ∧
    sizeT Tryz.prog 9 = some 1 ∧
    strT Tryz.prog 37 = false ∧
    strT Tryz.prog 9 = true ∧
    (Tryz.prog.underlying 9).isSome = true ∧
    zcT Tryz.prog 104 = some [.v (.slice none 0 0), .v (.int .i64 0), .v (.slice none 0 0)] ∧
    zcT Tryz.prog 115 = some [.v (.int .i64 0), .v (.int .i64 0), .v (.int .i64 0), .v (.string ⟨#[]⟩), .v (.int .i64 0), .v (.int .i64 0), .v (.float .f64 0), .v (.complex .f64 0 0), .v (.string ⟨#[]⟩)] ∧
    zcT Tryz.prog 41 = some [.v (.slice none 0 0)] ∧
    zcT Tryz.prog 48 = some [.v (.slice none 0 0)] :=
  ⟨by kernel_rfl, by kernel_rfl, by kernel_rfl, by kernel_rfl, by kernel_rfl, by kernel_rfl, by kernel_rfl, by kernel_rfl, by kernel_rfl, by kernel_rfl, by kernel_rfl, by kernel_rfl, by kernel_rfl, by kernel_rfl, by kernel_rfl, by kernel_rfl, by kernel_rfl, by kernel_rfl, by kernel_rfl, by kernel_rfl, by kernel_rfl, by kernel_rfl, by kernel_rfl, by kernel_rfl, by kernel_rfl, by kernel_rfl, by kernel_rfl, by kernel_rfl, by kernel_rfl, by kernel_rfl, by kernel_rfl, by kernel_rfl, by kernel_rfl, by kernel_rfl, by kernel_rfl, by kernel_rfl, by kernel_rfl, by kernel_rfl, by kernel_rfl, by kernel_rfl, by kernel_rfl, by kernel_rfl, by kernel_rfl, by kernel_rfl, by kernel_rfl, by kernel_rfl, by kernel_rfl, by kernel_rfl, by kernel_rfl, by kernel_rfl⟩

def limS (γ : List (Nat × AV)) (t : Tr) (i : Nat) : St :=
  ⟨⟨58, [(0, .sl true (lay t 0).length (lay t 0).length (ndCells (lay t 0))), (3, .own 0 0 (lay t 0).length), (12, .sl true (lay t 0).length (lay t 0).length (ndCells (lay t 0))), (13, .v (.int .i64 ((lay t 0).length : Int))), (14, .v (.int .i64 (i : Int)))], γ⟩, [⟨0, 3, dcs (dps t) i⟩]⟩
def limI (t : Tr) (i : Nat) : Prop := i ≤ t.size ∧ ∀ j, j < i → ∀ d, (dps t)[j]? = some d → d ≤ 12
theorem ndCells_take9 {l : List Nd} {i : Nat} {nd : Nd} (h : l[i]? = some nd) : ((ndCells l).drop (i * 9)).take 9 = nd.cells := by
  induction l generalizing i with
  | nil => cases h
  | cons x l ih =>
    unfold ndCells at ih ⊢
    rw [List.flatMap_cons]
    cases i with
    | zero =>
      simp only [List.getElem?_cons_zero, Option.some.injEq] at h
      subst h
      rfl
    | succ i =>
      have e : (i + 1) * 9 = (Nd.cells x).length + i * 9 := by simp only [Nd.cells, List.length_cons, List.length_nil]; omega
      rw [e, ← List.drop_drop, List.drop_left]
      exact ih (by simpa using h)
theorem okRefL_dcs (n : Nat) (ds : List Nat) (i : Nat) : okRefL n (dcs ds i) = true := by
  unfold dcs
  rw [okRefL_append, Bool.and_eq_true]
  constructor
  · generalize ds.take i = l
    induction l with
    | nil => rfl
    | cons x l ih => rw [List.map_cons, okRefL, ih]; rfl
  · generalize ds.length - i = k
    induction k with
    | zero => rfl
    | succ k ih => rw [List.replicate_succ, okRefL, ih]; rfl
set_option maxHeartbeats 2000000 in
theorem limits_ev (t : Tr) (hw : t.wf) (hb : t.size < 4611686018427387904) : Ev Tryz.prog γ 61 [.sl true (lay t 0).length (lay t 0).length (ndCells (lay t 0))] (.v (.int .i64 (limK t.size t.deep))) := by
  have hlen := lay_length t 0
  have hdl := dps_length t
  refine Ev.of Tryz.func61 rfl ?_
  by_cases h64 : 64 < t.size
  · have d1 : decide ((64 : Int) < (((lay t 0).length : Nat) : Int)) = true := decide_eq_true (by omega)
    have e1 : limK t.size t.deep = 52 := if_pos h64
    rw [e1]
    simp only [Tryz.f61, d1, evE, tyX, Nat.reduceAdd, Nat.reduceSub, Nat.reduceLT, Nat.reduceEqDiff, reduceCtorEq]
  · have d1 : decide ((64 : Int) < (((lay t 0).length : Nat) : Int)) = false := decide_eq_false (by omega)
    have hrep : rowsA (.int .i64 0) (lay t 0).length = dcs (dps t) 0 := by
      rw [hlen, ← hdl, ← dcs_zero]
      unfold rowsA
      generalize (dps t).length = k
      induction k with
      | zero => rfl
      | succ k ih => rw [List.replicate_succ, List.flatten_cons, ih]; rfl
    have b3 : bytesT Tryz.prog 3 = some 8 := by kernel_rfl
    have z3 : zeroT Tryz.prog 3 = some (.int .i64 0) := by kernel_rfl
    have l3 : (zeroCells (.int .i64 0)).length = 1 := rfl
    simp only [Tryz.f61, tyZ, d1, b3, z3, l3, hrep, evE, tyX, Nat.reduceAdd, Nat.reduceSub, Nat.reduceLT, Nat.reduceEqDiff, reduceCtorEq]
    refine ⟨⟨Int.le_refl _, by omega, by omega⟩, ?_⟩
    refine LoopK.intro (limS γ t) (limI t) (fun i => t.size - i) 0 ?_ ⟨Nat.zero_le _, fun j hj => by omega⟩ (fun i hi => ?_)
    · refine ⟨rfl, rfl, ⟨rfl, rfl, rfl, rfl, rfl, trivial⟩, .inl rfl⟩
    · obtain ⟨hi1, hi2⟩ := hi
      have hcl := dcs_length (dps t) (i := i) (by omega)
      by_cases hlt : i < t.size
      · have d2 : decide (i < (lay t 0).length) = true := decide_eq_true (by omega)
        obtain ⟨nd, hnd⟩ : ∃ nd, (lay t 0)[i]? = some nd := ⟨(lay t 0)[i]'(by omega), by simp [hlen, hlt]⟩
        obtain ⟨d, hd, hN⟩ := nodes_at t hw 0 i nd hnd
        have h9 := ndCells_take9 hnd
        have h9l : 9 ≤ ((ndCells (lay t 0)).drop (i * 9)).length := by rw [List.length_drop, ndCells_length]; omega
        have w1 : IntKind.i64.wrap ((i : Int) + 1) = ((i + 1 : Nat) : Int) := (i64w (by omega) (by omega)).trans (by omega)
        have hset := dcs_set hd
        have hil : i + 1 ≤ (dps t).length := by omega
        have hin : i < (lay t 0).length := by omega
        have q1 : ∀ x, ((dcs (dps t) i).set i x)[i]? = some x := fun x => List.getElem?_set_self (by omega)
        have q2 : ∀ a x y, a < i → (dps t)[a]? = some y → ((dcs (dps t) i).set i x)[a]? = some (.v (.int .i64 (y : Int))) := fun a x y ha hy => (List.getElem?_set_ne (by omega)).trans (dcs_at (by omega) ha hy)
        simp only [limS, tyZ, d2, h9, h9l, hcl, hil, Nd.cells, evE, tyX, Nat.reduceAdd, Nat.reduceLT, Nat.reduceLeDiff, Nat.reduceEqDiff, reduceCtorEq]
        refine ⟨hin, hin, CallK.intro c115 rfl (children_ev _) ?_⟩
        have trm : ∀ a x, (dps t)[a]? = some x → a < i → x ≤ 12 := fun a x h ha => hi2 a ha x h
        have z2 : ((0 : Int) == 2) = false := rfl
        have z1 : ((0 : Int) == 1) = false := rfl
        have y2 : ((1 : Int) == 2) = false := rfl
        have y1 : ((1 : Int) == 1) = true := rfl
        have x2 : ((2 : Int) == 2) = true := rfl
        rcases hN with ⟨hk, hd1⟩ | ⟨hk, a, x, hA, ha, hx, hx1, hdx⟩ | ⟨hk, a, x, b, y, hA, hB, ha, hbb, hx, hy, hdx⟩
        · subst hd1
          have hset : (dcs (dps t) i).set i (.v (.int .i64 1)) = dcs (dps t) (i + 1) := dcs_set hd
          have q9 : (dcs (dps t) (i + 1))[i]? = some (.v (.int .i64 1)) := dcs_at (by omega) (by omega) hd
          have hcl2 := dcs_length (dps t) (i := i + 1) (by omega)
          have h12 : ¬ 12 < 1 := by decide
          simp only [tyZ, hk, z2, z1, hset, q9, w1, evE, tyX, Nat.reduceLT, Nat.reduceEqDiff, reduceCtorEq, Int.reduceLT]
          refine ⟨hin, ?_⟩
          refine loopC.intro (i + 1) ⟨hlt, fun j hj d' hd' => ?_⟩ ?_ (by omega)
          · by_cases e : j = i
            · subst e; rw [hd] at hd'; cases hd'; omega
            · exact hi2 j (by omega) d' hd'
          · exact ⟨rfl, rfl, ⟨rfl, rfl, rfl, rfl, rfl, trivial⟩, .inr ⟨rfl, rfl, by show okRefB 1 [⟨0, 3, dcs (dps t) (i + 1)⟩] = true; simp only [okRefB, okRefL_dcs, Bool.and_self]⟩⟩
        · subst hdx
          have hx12 := trm a x hx ha
          have hA' : nd.a = (a : Int) := by rw [hA, Nat.zero_add]
          have han : a < (lay t 0).length := by omega
          have q3 := q2 a (.v (.int .i64 1)) x ha hx
          have w3 : IntKind.i64.wrap (1 + (x : Int)) = ((x + 1 : Nat) : Int) := (i64w (by omega) (by omega)).trans (by omega)
          have m1 : (if ((x + 1 : Nat) : Int) > 1 then ((x + 1 : Nat) : Int) else 1) = ((x + 1 : Nat) : Int) := if_pos (by clear w3; omega)
          have qa := q1 (.v (.int .i64 1))
          have hcs : ((dcs (dps t) i).set i (.v (.int .i64 1))).length = (dps t).length := by rw [List.length_set]; exact hcl
          have hal : a + 1 ≤ (dps t).length := by clear w3; omega
          have hset : (dcs (dps t) i).set i (.v (.int .i64 (x + 1 : Nat))) = dcs (dps t) (i + 1) := dcs_set hd
          have q9 : (dcs (dps t) (i + 1))[i]? = some (.v (.int .i64 (x + 1 : Nat))) := dcs_at (by omega) (by omega) hd
          have hcl2 := dcs_length (dps t) (i := i + 1) (by omega)
          by_cases h12 : 12 < x + 1
          · have d3 : decide ((12 : Int) < ((x + 1 : Nat) : Int)) = true := decide_eq_true (by omega)
            have e51 : limK t.size t.deep = 51 := by
              have := dps_le t _ (List.mem_of_getElem? hd)
              unfold limK
              rw [if_neg h64, if_pos (by omega)]
            rw [e51]
            simp only [tyZ, hk, y2, y1, hA', qa, evE, tyX, Nat.reduceLT, Nat.reduceEqDiff, reduceCtorEq, Int.reduceLT]
            refine DrawK.intro (by kernel_rfl) (by kernel_rfl) ?_
            simp only [tyZ, hcl, hil, qa, q3, w3, m1, List.set_set, hset, q9, d3, evE, tyX, Nat.reduceLT, Nat.reduceEqDiff, reduceCtorEq]
            exact ⟨hin, han, hin⟩
          · have d3 : decide ((12 : Int) < ((x + 1 : Nat) : Int)) = false := decide_eq_false (by omega)
            simp only [tyZ, hk, y2, y1, hA', qa, w1, evE, tyX, Nat.reduceLT, Nat.reduceEqDiff, reduceCtorEq, Int.reduceLT]
            refine DrawK.intro (by kernel_rfl) (by kernel_rfl) ?_
            simp only [tyZ, hcl, hil, qa, q3, w3, m1, List.set_set, hset, q9, d3, w1, evE, tyX, Nat.reduceLT, Nat.reduceEqDiff, reduceCtorEq]
            refine ⟨hin, han, hin, hin, ?_⟩
            refine loopC.intro (i + 1) ⟨hlt, fun j hj d' hd' => ?_⟩ ?_ (by omega)
            · by_cases e : j = i
              · subst e; rw [hd] at hd'; cases hd'; omega
              · exact hi2 j (by omega) d' hd'
            · exact ⟨rfl, rfl, ⟨rfl, rfl, rfl, rfl, rfl, trivial⟩, .inr ⟨rfl, rfl, by show okRefB 1 [⟨0, 3, dcs (dps t) (i + 1)⟩] = true; simp only [okRefB, okRefL_dcs, Bool.and_self]⟩⟩
        · subst hdx
          have hx12 := trm a x hx ha
          have hy12 := trm b y hy hbb
          have hA' : nd.a = (a : Int) := by rw [hA, Nat.zero_add]
          have hB' : nd.b = (b : Int) := by rw [hB, Nat.zero_add]
          have hbn : b < (lay t 0).length := by omega
          have q4 := q2 b (.v (.int .i64 1)) y hbb hy
          have han : a < (lay t 0).length := by omega
          have q3 := q2 a (.v (.int .i64 ((y + 1 : Nat) : Int))) x ha hx
          have w3 : IntKind.i64.wrap (1 + (x : Int)) = ((x + 1 : Nat) : Int) := (i64w (by omega) (by omega)).trans (by omega)
          have w4 : IntKind.i64.wrap (1 + (y : Int)) = ((y + 1 : Nat) : Int) := (i64w (by clear w3; omega) (by clear w3; omega)).trans (by clear w3; omega)
          have m1 : (if y + 1 < x + 1 then ((x + 1 : Nat) : Int) else ((y + 1 : Nat) : Int)) = ((max x y + 1 : Nat) : Int) := by clear w3 w4; split <;> omega
          have qa := q1 (.v (.int .i64 ((y + 1 : Nat) : Int)))
          have hcs : ((dcs (dps t) i).set i (.v (.int .i64 1))).length = (dps t).length := by rw [List.length_set]; exact hcl
          have hal : a + 1 ≤ (dps t).length := by clear w3 w4; omega
          have hbl : b + 1 ≤ (dps t).length := by clear w3 w4; omega
          have hset : (dcs (dps t) i).set i (.v (.int .i64 (max x y + 1 : Nat))) = dcs (dps t) (i + 1) := dcs_set hd
          have q9 : (dcs (dps t) (i + 1))[i]? = some (.v (.int .i64 (max x y + 1 : Nat))) := dcs_at (by omega) (by omega) hd
          have hcl2 := dcs_length (dps t) (i := i + 1) (by omega)
          by_cases h12 : 12 < max x y + 1
          · have d3 : decide ((12 : Int) < ((max x y + 1 : Nat) : Int)) = true := decide_eq_true (by omega)
            have e51 : limK t.size t.deep = 51 := by
              have := dps_le t _ (List.mem_of_getElem? hd)
              unfold limK
              rw [if_neg h64, if_pos (by omega)]
            rw [e51]
            simp only [tyZ, hk, x2, hA', hB', q4, w4, hcl, hil, List.set_set, evE, tyX, Nat.reduceLT, Nat.reduceEqDiff, reduceCtorEq]
            refine ⟨hbn, hin, ?_⟩
            refine DrawK.intro (by kernel_rfl) (by kernel_rfl) ?_
            simp only [tyZ, hcl, hil, qa, q3, w3, m1, List.set_set, hset, q9, d3, evE, tyX, Nat.reduceLT, Nat.reduceEqDiff, reduceCtorEq]
            exact ⟨hin, han, hin⟩
          · have d3 : decide ((12 : Int) < ((max x y + 1 : Nat) : Int)) = false := decide_eq_false (by omega)
            simp only [tyZ, hk, x2, hA', hB', q4, w4, hcl, hil, List.set_set, w1, evE, tyX, Nat.reduceLT, Nat.reduceEqDiff, reduceCtorEq]
            refine ⟨hbn, hin, ?_⟩
            refine DrawK.intro (by kernel_rfl) (by kernel_rfl) ?_
            simp only [tyZ, hcl, hil, qa, q3, w3, m1, List.set_set, hset, q9, d3, w1, evE, tyX, Nat.reduceLT, Nat.reduceEqDiff, reduceCtorEq]
            refine ⟨hin, han, hin, hin, ?_⟩
            refine loopC.intro (i + 1) ⟨hlt, fun j hj d' hd' => ?_⟩ ?_ (by omega)
            · by_cases e : j = i
              · subst e; rw [hd] at hd'; cases hd'; omega
              · exact hi2 j (by omega) d' hd'
            · exact ⟨rfl, rfl, ⟨rfl, rfl, rfl, rfl, rfl, trivial⟩, .inr ⟨rfl, rfl, by show okRefB 1 [⟨0, 3, dcs (dps t) (i + 1)⟩] = true; simp only [okRefB, okRefL_dcs, Bool.and_self]⟩⟩
      · have d2 : decide (i < (lay t 0).length) = false := decide_eq_false (by omega)
        have e0 : limK t.size t.deep = 0 := by
          unfold limK
          have := hi2 (t.size - 1) (by have := size_pos t; omega) _ (dps_last t)
          rw [if_neg h64, if_neg (by omega)]
        rw [e0]
        simp only [limS, d2, evE, Nat.reduceLT, Nat.reduceEqDiff, reduceCtorEq]
end Go.Proofs.YtlobiioioicmhaaGreatDoor
