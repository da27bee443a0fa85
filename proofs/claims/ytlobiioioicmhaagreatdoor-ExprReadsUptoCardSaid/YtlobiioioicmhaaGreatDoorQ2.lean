/- Contracts of the functions that the law reaches. -/
import Derived.Test.YtlobiioioicmhaaGreatDoorQ1
namespace Go.Proofs.YtlobiioioicmhaaGreatDoor
set_option linter.all false
open Go Go.Ev
set_option maxRecDepth 20000
variable {γ : List (Nat × AV)}
def sgOf (l : List UInt8) : Nat := if atL l (digitsEnd l 0) = 112 ∧ atL l (digitsEnd l 0 + 1) = 45 then 1 else 0
def numberA (l : List UInt8) : AV :=
  if atL l (digitsEnd l 0) = 112 ∧ digitN (atL l (digitsEnd l 0 + 1 + sgOf l)) = true then realA l (digitsEnd l 0) (sgOf l)
  else if decO (numL l 0) 9223372036854775807 = true ∧ nameN (atL l (digitsEnd l 0)) = false then okTok (tokA 2 [] (decV (numL l 0)) f0 0 (digitsEnd l 0)) else errTok 12
theorem realA_shape (l : List UInt8) (p sg : Nat) : ∃ k t i r z e, realA l p sg = .tup [.agg [.v (.int .i64 k), .v (.string t), .v (.int .i64 i), .v (.float .f64 r), .v (.int .i64 0), .v (.int .i64 z)], .v (.int .i64 e)] := by
  unfold realA
  split
  · exact ⟨_, _, _, _, _, _, rfl⟩
  · exact ⟨_, _, _, _, _, _, rfl⟩
set_option maxHeartbeats 2000000 in
set_option maxRecDepth 20000 in
theorem lexNumber_ev (hγ : Gl γ) (b : Bool) (l : List UInt8) (hd : digitN (atL l 0) = true) (hl : l.length ≤ 140737488351232) :
    Ev Tryz.prog γ 242 [.sl b l.length l.length (l.map byteC)] (numberA l) := by
  refine Ev.of Tryz.func242 rfl ?_
  have hlt := digitsEnd_lt hd
  have hle := digitsEnd_le (l := l) (i := 0) (by omega)
  have hdg := lexDigits_ev (γ := γ) b l 0 (by omega) (by omega)
  have ha := decimalAt_ev hγ b l 0 9223372036854775807 (by omega) (by omega) (by omega)
  rw [List.drop_zero, Nat.sub_zero, Nat.sub_zero] at ha
  have hreal := fun sg hsg hd' => lexReal_ev hγ b l (digitsEnd l 0) sg rfl (by omega) hsg hd' (by omega)
  have hN : numberA l = if atL l (digitsEnd l 0) = 112 ∧ digitN (atL l (digitsEnd l 0 + 1 + sgOf l)) = true then realA l (digitsEnd l 0) (sgOf l)
    else if decO (numL l 0) 9223372036854775807 = true ∧ nameN (atL l (digitsEnd l 0)) = false then okTok (tokA 2 [] (decV (numL l 0)) f0 0 (digitsEnd l 0)) else errTok 12 := rfl
  have hS : sgOf l = if atL l (digitsEnd l 0) = 112 ∧ atL l (digitsEnd l 0 + 1) = 45 then 1 else 0 := rfl
  generalize numberA l = R at hN ⊢
  generalize sgOf l = sg at *
  have hdm := fun h => (decO_iff (l := numL l 0) (most := 9223372036854775807) h).1
  generalize numL l 0 = a at *
  generalize digitsEnd l 0 = n at *
  have w1 : IntKind.i64.wrap ((n : Int) + 1) = ((n + 1 : Nat) : Int) := i64w (by omega) (by omega)
  have w2 : IntKind.i64.wrap (((n + 1 : Nat) : Int) + 1) = ((n + 1 + 1 : Nat) : Int) := i64w (by omega) (by omega)
  have w3 : IntKind.i64.wrap (((n + 1 : Nat) : Int) + 0) = ((n + 1 + 0 : Nat) : Int) := i64w (by omega) (by omega)
  have e112 : ∀ k : Nat, ((k : Int) == 112) = decide (k = 112) := fun k => by
    by_cases h : k = 112
    · simp [h]
    · rw [decide_eq_false h]; simp; omega
  have e45 : ∀ k : Nat, ((k : Int) == 45) = decide (k = 45) := fun k => by
    by_cases h : k = 45
    · simp [h]
    · rw [decide_eq_false h]; simp; omega
  simp only [Tryz.f242, evS, tyS, Nat.reduceAdd, Nat.reduceSub, Nat.reduceLT, Nat.reduceEqDiff, reduceCtorEq]
  refine CallK.intro b70 (by simp [treeL, treeA]) hdg ?_
  simp only [evS, Nat.reduceLT, Nat.reduceEqDiff, reduceCtorEq]
  refine CallK.intro b71 (by simp [treeL, treeA]) (lexAt_ev b l n) ?_
  by_cases hp : atL l n = 112
  · have dp : decide (atL l n = 112) = true := decide_eq_true hp
    simp only [e112, w1, dp, evS, Nat.reduceLT, Nat.reduceEqDiff, reduceCtorEq]
    refine CallK.intro b71 (by simp [treeL, treeA]) (lexAt_ev b l (n + 1)) ?_
    by_cases hm : atL l (n + 1) = 45
    · have dm : decide (atL l (n + 1) = 45) = true := decide_eq_true hm
      rw [if_pos ⟨hp, hm⟩] at hS
      subst hS
      simp only [e45, dm, evS, Nat.reduceLT, Nat.reduceEqDiff, reduceCtorEq]
      refine CallK.intro b71 (by simp [treeL, treeA]) (lexAt_ev b l n) ?_
      simp only [e112, w1, w2, dp, evS, Nat.reduceLT, Nat.reduceEqDiff, reduceCtorEq]
      refine CallK.intro b71 (by simp [treeL, treeA]) (lexAt_ev b l (n + 1 + 1)) ?_
      simp only [evS, Nat.reduceLT, Nat.reduceEqDiff, reduceCtorEq]
      refine CallK.intro b47 rfl (lexDigit_ev _) ?_
      simp only [evS, Nat.reduceLT, Nat.reduceEqDiff, reduceCtorEq]
      refine CondK.intro (fun hdg2 => ?_) (fun hdg2 => ?_) <;> simp only [hdg2, evS, tyS, Nat.reduceLT, Nat.reduceEqDiff, reduceCtorEq]
      · rw [if_pos ⟨hp, hdg2⟩] at hN
        obtain ⟨k1, k2, k3, k4, k5, k6, hsh⟩ := realA_shape l n 1
        have hr := hreal 1 (by omega) hdg2
        rw [hsh] at hr hN
        refine CallK.intro b72 (by simp [treeL, treeA]) hr ?_
        rw [hN]
        simp only [evS, tyS, Nat.reduceAdd, Nat.reduceLT, Nat.reduceLeDiff, Nat.reduceEqDiff, reduceCtorEq]
      · rw [if_neg (by rintro ⟨_, q1⟩; rw [hdg2] at q1; cases q1)] at hN
        (repeat' (first | (with_reducible refine And.intro ?_ ?_) | ((first | refine GuardK.intro_f (fun h => ?_) (fun h => ?_) | refine GuardK.intro_t (fun h => ?_) (fun h => ?_) | refine CondK.intro (fun h => ?_) (fun h => ?_) | refine PickK.intro (fun h => ?_) (fun h => ?_)) <;> simp only [h, evS, tyS, Bool.not_true, Bool.not_false, Nat.reduceAdd, Nat.reduceSub, Nat.reduceMul, Nat.reduceLT, Nat.reduceLeDiff, Nat.reduceEqDiff, reduceCtorEq, List.reduceReplicate, Int.reduceToNat, Int.reduceLE, Int.reduceLT]) | (refine DrawK.intro (by kernel_rfl) (by kernel_rfl) ?_; simp only [evS, tyS, Bool.not_true, Bool.not_false, Nat.reduceAdd, Nat.reduceSub, Nat.reduceMul, Nat.reduceLT, Nat.reduceLeDiff, Nat.reduceEqDiff, reduceCtorEq, List.reduceReplicate, Int.reduceToNat, Int.reduceLE, Int.reduceLT])))
        all_goals try (((try simp only [decide_eq_true_eq] at *) <;> (try omega)); done)
        refine CallK.intro b73 (by simp [treeL, treeA]) ha ?_
        cases hO : decO a 9223372036854775807 with
        | false =>
          rw [if_neg (by rintro ⟨q1, _⟩; rw [hO] at q1; cases q1)] at hN
          rw [hN]
          simp only [errTok, tokA, f0, evS, tyS, Bool.not_false, Nat.reduceAdd, Nat.reduceLT, Nat.reduceLeDiff, Nat.reduceEqDiff, reduceCtorEq]
        | true =>
          simp only [evS, Bool.not_true, Nat.reduceLT, Nat.reduceEqDiff, reduceCtorEq]
          refine CallK.intro b71 (by simp [treeL, treeA]) (lexAt_ev b l n) ?_
          simp only [evS, Nat.reduceLT, Nat.reduceEqDiff, reduceCtorEq]
          refine CallK.intro b69 rfl (lexInName_ev _) ?_
          simp only [evS, Nat.reduceLT, Nat.reduceEqDiff, reduceCtorEq]
          cases hn : nameN (atL l n) with
          | true =>
            rw [if_neg (by rintro ⟨_, q1⟩; rw [hn] at q1; cases q1)] at hN
            rw [hN]
            simp only [errTok, tokA, f0, evS, tyS, Nat.reduceAdd, Nat.reduceLT, Nat.reduceLeDiff, Nat.reduceEqDiff, reduceCtorEq]
          | false =>
            rw [if_pos ⟨hO, hn⟩] at hN
            rw [hN]
            simp only [okTok, tokA, f0, hdm hO, evS, tyS, Nat.reduceAdd, Nat.reduceLT, Nat.reduceLeDiff, Nat.reduceEqDiff, reduceCtorEq]
    · have dm : decide (atL l (n + 1) = 45) = false := decide_eq_false hm
      rw [if_neg (fun q => hm q.2)] at hS
      subst hS
      simp only [e45, dm, evS, Nat.reduceLT, Nat.reduceEqDiff, reduceCtorEq]
      refine CallK.intro b71 (by simp [treeL, treeA]) (lexAt_ev b l n) ?_
      simp only [e112, w1, w3, dp, evS, Nat.reduceLT, Nat.reduceEqDiff, reduceCtorEq]
      refine CallK.intro b71 (by simp [treeL, treeA]) (lexAt_ev b l (n + 1 + 0)) ?_
      simp only [evS, Nat.reduceLT, Nat.reduceEqDiff, reduceCtorEq]
      refine CallK.intro b47 rfl (lexDigit_ev _) ?_
      simp only [evS, Nat.reduceLT, Nat.reduceEqDiff, reduceCtorEq]
      refine CondK.intro (fun hdg2 => ?_) (fun hdg2 => ?_) <;> simp only [hdg2, evS, tyS, Nat.reduceLT, Nat.reduceEqDiff, reduceCtorEq]
      · rw [if_pos ⟨hp, hdg2⟩] at hN
        obtain ⟨k1, k2, k3, k4, k5, k6, hsh⟩ := realA_shape l n 0
        have hr := hreal 0 (by omega) hdg2
        rw [hsh] at hr hN
        refine CallK.intro b72 (by simp [treeL, treeA]) hr ?_
        rw [hN]
        simp only [evS, tyS, Nat.reduceAdd, Nat.reduceLT, Nat.reduceLeDiff, Nat.reduceEqDiff, reduceCtorEq]
      · rw [if_neg (by rintro ⟨_, q1⟩; rw [hdg2] at q1; cases q1)] at hN
        (repeat' (first | (with_reducible refine And.intro ?_ ?_) | ((first | refine GuardK.intro_f (fun h => ?_) (fun h => ?_) | refine GuardK.intro_t (fun h => ?_) (fun h => ?_) | refine CondK.intro (fun h => ?_) (fun h => ?_) | refine PickK.intro (fun h => ?_) (fun h => ?_)) <;> simp only [h, evS, tyS, Bool.not_true, Bool.not_false, Nat.reduceAdd, Nat.reduceSub, Nat.reduceMul, Nat.reduceLT, Nat.reduceLeDiff, Nat.reduceEqDiff, reduceCtorEq, List.reduceReplicate, Int.reduceToNat, Int.reduceLE, Int.reduceLT]) | (refine DrawK.intro (by kernel_rfl) (by kernel_rfl) ?_; simp only [evS, tyS, Bool.not_true, Bool.not_false, Nat.reduceAdd, Nat.reduceSub, Nat.reduceMul, Nat.reduceLT, Nat.reduceLeDiff, Nat.reduceEqDiff, reduceCtorEq, List.reduceReplicate, Int.reduceToNat, Int.reduceLE, Int.reduceLT])))
        all_goals try (((try simp only [decide_eq_true_eq, decide_eq_false_iff_not] at *) <;> (try omega)); done)
        refine CallK.intro b73 (by simp [treeL, treeA]) ha ?_
        cases hO : decO a 9223372036854775807 with
        | false =>
          rw [if_neg (by rintro ⟨q1, _⟩; rw [hO] at q1; cases q1)] at hN
          rw [hN]
          simp only [errTok, tokA, f0, evS, tyS, Bool.not_false, Nat.reduceAdd, Nat.reduceLT, Nat.reduceLeDiff, Nat.reduceEqDiff, reduceCtorEq]
        | true =>
          simp only [evS, Bool.not_true, Nat.reduceLT, Nat.reduceEqDiff, reduceCtorEq]
          refine CallK.intro b71 (by simp [treeL, treeA]) (lexAt_ev b l n) ?_
          simp only [evS, Nat.reduceLT, Nat.reduceEqDiff, reduceCtorEq]
          refine CallK.intro b69 rfl (lexInName_ev _) ?_
          simp only [evS, Nat.reduceLT, Nat.reduceEqDiff, reduceCtorEq]
          cases hn : nameN (atL l n) with
          | true =>
            rw [if_neg (by rintro ⟨_, q1⟩; rw [hn] at q1; cases q1)] at hN
            rw [hN]
            simp only [errTok, tokA, f0, evS, tyS, Nat.reduceAdd, Nat.reduceLT, Nat.reduceLeDiff, Nat.reduceEqDiff, reduceCtorEq]
          | false =>
            rw [if_pos ⟨hO, hn⟩] at hN
            rw [hN]
            simp only [okTok, tokA, f0, hdm hO, evS, tyS, Nat.reduceAdd, Nat.reduceLT, Nat.reduceLeDiff, Nat.reduceEqDiff, reduceCtorEq]
  · have dp : decide (atL l n = 112) = false := decide_eq_false hp
    rw [if_neg (fun q => hp q.1)] at hN
    simp only [e112, dp, evS, Nat.reduceLT, Nat.reduceEqDiff, reduceCtorEq]
    refine CallK.intro b71 (by simp [treeL, treeA]) (lexAt_ev b l n) ?_
    simp only [e112, dp, evS, tyS, Nat.reduceLT, Nat.reduceEqDiff, reduceCtorEq]
    (repeat' (first | (with_reducible refine And.intro ?_ ?_) | ((first | refine GuardK.intro_f (fun h => ?_) (fun h => ?_) | refine GuardK.intro_t (fun h => ?_) (fun h => ?_) | refine CondK.intro (fun h => ?_) (fun h => ?_) | refine PickK.intro (fun h => ?_) (fun h => ?_)) <;> simp only [h, evS, tyS, Bool.not_true, Bool.not_false, Nat.reduceAdd, Nat.reduceSub, Nat.reduceMul, Nat.reduceLT, Nat.reduceLeDiff, Nat.reduceEqDiff, reduceCtorEq, List.reduceReplicate, Int.reduceToNat, Int.reduceLE, Int.reduceLT]) | (refine DrawK.intro (by kernel_rfl) (by kernel_rfl) ?_; simp only [evS, tyS, Bool.not_true, Bool.not_false, Nat.reduceAdd, Nat.reduceSub, Nat.reduceMul, Nat.reduceLT, Nat.reduceLeDiff, Nat.reduceEqDiff, reduceCtorEq, List.reduceReplicate, Int.reduceToNat, Int.reduceLE, Int.reduceLT])))
    all_goals try (((try simp only [decide_eq_false_iff_not] at *) <;> (try omega)); done)
    refine CallK.intro b73 (by simp [treeL, treeA]) ha ?_
    cases hO : decO a 9223372036854775807 with
    | false =>
      rw [if_neg (by rintro ⟨q1, _⟩; rw [hO] at q1; cases q1)] at hN
      rw [hN]
      simp only [errTok, tokA, f0, evS, tyS, Bool.not_false, Nat.reduceAdd, Nat.reduceLT, Nat.reduceLeDiff, Nat.reduceEqDiff, reduceCtorEq]
    | true =>
      simp only [evS, Bool.not_true, Nat.reduceLT, Nat.reduceEqDiff, reduceCtorEq]
      refine CallK.intro b71 (by simp [treeL, treeA]) (lexAt_ev b l n) ?_
      simp only [evS, Nat.reduceLT, Nat.reduceEqDiff, reduceCtorEq]
      refine CallK.intro b69 rfl (lexInName_ev _) ?_
      simp only [evS, Nat.reduceLT, Nat.reduceEqDiff, reduceCtorEq]
      cases hn : nameN (atL l n) with
      | true =>
        rw [if_neg (by rintro ⟨_, q1⟩; rw [hn] at q1; cases q1)] at hN
        rw [hN]
        simp only [errTok, tokA, f0, evS, tyS, Nat.reduceAdd, Nat.reduceLT, Nat.reduceLeDiff, Nat.reduceEqDiff, reduceCtorEq]
      | false =>
        rw [if_pos ⟨hO, hn⟩] at hN
        rw [hN]
        simp only [okTok, tokA, f0, hdm hO, evS, tyS, Nat.reduceAdd, Nat.reduceLT, Nat.reduceLeDiff, Nat.reduceEqDiff, reduceCtorEq]
end Go.Proofs.YtlobiioioicmhaaGreatDoor
namespace Go.Proofs.YtlobiioioicmhaaGreatDoor
set_option linter.all false
open Go Go.Ev
set_option maxRecDepth 20000
variable {γ : List (Nat × AV)}
/-- A token without its place. -/
structure TokD where
  kind : Int
  text : List UInt8
  int : Int
  real : Nat
  size : Nat
def TokD.av (t : TokD) (pos : Int) : AV := tokA t.kind t.text t.int (.v (.float .f64 t.real)) pos t.size
def zeroT : TokD := ⟨0, [], 0, 0, 0⟩
def resTA : Except Int TokD → AV
  | .ok t => okTok (t.av 0)
  | .error e => errTok e
def realD (l : List UInt8) (p sg : Nat) : Except Int TokD :=
  if realO sg (numL l 0) (numL l (p + 1 + sg)) (atL l (digitsEnd l (p + 1 + sg))) = true then
    .ok ⟨3, [], 0, realB (decV (numL l 0)) (expOf sg (decV (numL l (p + 1 + sg)))), digitsEnd l (p + 1 + sg)⟩
  else .error 12
theorem realD_av (l : List UInt8) (p sg : Nat) : realA l p sg = resTA (realD l p sg) := by
  unfold realA realD; split <;> rfl
def numberD (l : List UInt8) : Except Int TokD :=
  if atL l (digitsEnd l 0) = 112 ∧ digitN (atL l (digitsEnd l 0 + 1 + sgOf l)) = true then realD l (digitsEnd l 0) (sgOf l)
  else if decO (numL l 0) 9223372036854775807 = true ∧ nameN (atL l (digitsEnd l 0)) = false then .ok ⟨2, [], decV (numL l 0), 0, digitsEnd l 0⟩ else .error 12
theorem numberD_av (l : List UInt8) : numberA l = resTA (numberD l) := by
  unfold numberA numberD
  split
  · exact realD_av _ _ _
  · split <;> rfl
def textD (l : List UInt8) : Except Int TokD :=
  match textF l.length l 1 [] with
  | none => .error 11
  | some (d, n) => .ok ⟨4, d, 0, 0, n⟩
theorem textD_av (l : List UInt8) : textR (textF l.length l 1 []) = resTA (textD l) := by
  unfold textD
  cases textF l.length l 1 [] with
  | none => rfl
  | some q => rfl
/-- The token at the head of a text. -/
def headD (s : List UInt8) : Except Int TokD :=
  if letterN (atL s 0) = true then (if 32 < spanEnd nameN s 1 then .error 13 else .ok ⟨1, s.take (spanEnd nameN s 1), 0, 0, spanEnd nameN s 1⟩)
  else if digitN (atL s 0) = true then numberD s
  else if atL s 0 = 34 then textD s
  else if markN s = 0 then .error 10 else .ok ⟨5, s.take (markN s), 0, 0, markN s⟩
/-- How many bytes of blanks and comments stand at the head (com: within a comment). -/
def gapL : Bool → List UInt8 → Nat
  | _, [] => 0
  | true, c :: r => if c.toNat = 10 then 1 + gapL false r else 1 + gapL true r
  | false, c :: r => if blankN c.toNat = true then 1 + gapL false r else if c.toNat = 35 then 1 + gapL true r else 0
theorem drop_at {l : List UInt8} {i : Nat} (h : i < l.length) : ∃ c, l.drop i = c :: l.drop (i + 1) ∧ c.toNat = atL l i := by
  refine ⟨l[i], List.drop_eq_getElem_cons h, ?_⟩
  simp [atL, List.getD, h]
theorem gap_blank {l : List UInt8} {i : Nat} (h : i < l.length) (hb : blankN (atL l i) = true) : gapL false (l.drop i) = 1 + gapL false (l.drop (i + 1)) := by
  obtain ⟨c, e, hc⟩ := drop_at h
  rw [e, gapL, hc, if_pos hb]
theorem gap_com {l : List UInt8} {i : Nat} (h : i < l.length) (hb : blankN (atL l i) = false) (h2 : atL l i = 35) : gapL false (l.drop i) = 1 + gapL true (l.drop (i + 1)) := by
  obtain ⟨c, e, hc⟩ := drop_at h
  rw [e, gapL, hc, if_neg (by rw [hb]; decide), if_pos h2]
theorem gap_stop {l : List UInt8} {i : Nat} (h : i < l.length) (hb : blankN (atL l i) = false) (h2 : atL l i ≠ 35) : gapL false (l.drop i) = 0 := by
  obtain ⟨c, e, hc⟩ := drop_at h
  rw [e, gapL, hc, if_neg (by rw [hb]; decide), if_neg h2]
theorem gap_end {l : List UInt8} {i : Nat} {b : Bool} (h : l.length ≤ i) : gapL b (l.drop i) = 0 := by
  rw [List.drop_eq_nil_of_le h]; cases b <;> rfl
theorem gap_nl {l : List UInt8} {i : Nat} (h : i < l.length) (h2 : atL l i = 10) : gapL true (l.drop i) = gapL false (l.drop i) := by
  obtain ⟨c, e, hc⟩ := drop_at h
  rw [e, gapL, gapL, hc, if_pos h2, if_pos (by rw [h2]; decide)]
theorem gap_in {l : List UInt8} {i : Nat} (h : i < l.length) (h2 : atL l i ≠ 10) : gapL true (l.drop i) = 1 + gapL true (l.drop (i + 1)) := by
  obtain ⟨c, e, hc⟩ := drop_at h
  rw [e, gapL, hc, if_neg h2]
/-- Where the next token begins. -/
def nextT (l : List UInt8) (i : Nat) : Nat := i + gapL false (l.drop i)
def nextA (l : List UInt8) (i : Nat) : AV :=
  if l.length ≤ nextT l i then .tup [tokA 0 [] 0 f0 0 0, .v (.bool false), .v (.int .i64 0)]
  else match headD (l.drop (nextT l i)) with
    | .error e => .tup [tokA 0 [] 0 f0 (nextT l i) 0, .v (.bool true), .v (.int .i64 e)]
    | .ok t => .tup [t.av (nextT l i), .v (.bool true), .v (.int .i64 0)]
end Go.Proofs.YtlobiioioicmhaaGreatDoor
namespace Go.Proofs.YtlobiioioicmhaaGreatDoor
set_option linter.all false
open Go Go.Ev
set_option maxRecDepth 20000
variable {γ : List (Nat × AV)}
def tcells (t : TokD) : List AV := [.v (.int .i64 t.kind), .v (.string ⟨t.text.toArray⟩), .v (.int .i64 t.int), .v (.float .f64 t.real), .v (.int .i64 0), .v (.int .i64 t.size)]
def nextS (γ : List (Nat × AV)) (b : Bool) (l : List UInt8) : Nat × Nat × TokD × Int → St
  | (_, i, t, e) => ⟨⟨98, [(0, .sl b l.length l.length (l.map byteC)), (1, .v (.int .i64 i)), (4, .ptr 0 0 0), (7, .ptr 1 0 0), (8, .v (.int .i64 e))], γ⟩, [⟨0, 53, zero6⟩, ⟨0, 53, tcells t⟩]⟩
def nextI (l : List UInt8) (T : Nat) : Nat × Nat × TokD × Int → Prop
  | (0, i, t, e) => i ≤ l.length ∧ T = nextT l i ∧ t = zeroT ∧ e = 0
  | (1, i, t, e) => i < l.length ∧ T = i + 1 + gapL true (l.drop (i + 1)) ∧ t = zeroT ∧ e = 0
  | (2, i, t, e) => i < l.length ∧ T = i ∧ ((e = 0 ∧ headD (l.drop i) = .ok t) ∨ (e ≠ 0 ∧ headD (l.drop i) = .error e))
  | _ => False
def nextM (l : List UInt8) : Nat × Nat × TokD × Int → Nat
  | (0, i, _, _) => 3 * (l.length - i) + 2
  | (1, i, _, _) => 3 * (l.length - i) + 1
  | (_, i, _, _) => 0
theorem nextI0 {l : List UInt8} {T i : Nat} (h1 : i ≤ l.length) (h2 : T = nextT l i) : nextI l T (0, i, zeroT, 0) := ⟨h1, h2, rfl, rfl⟩
theorem nextI1 {l : List UInt8} {T i : Nat} (h1 : i < l.length) (h2 : T = i + 1 + gapL true (l.drop (i + 1))) : nextI l T (1, i, zeroT, 0) := ⟨h1, h2, rfl, rfl⟩
theorem nextI2 {l : List UInt8} {T i : Nat} {t : TokD} {e : Int} (h1 : i < l.length) (h2 : T = i) (h3 : (e = 0 ∧ headD (l.drop i) = .ok t) ∨ (e ≠ 0 ∧ headD (l.drop i) = .error e)) : nextI l T (2, i, t, e) := ⟨h1, h2, h3⟩
theorem numberD_err {s : List UInt8} {e : Int} (h : numberD s = .error e) : e ≠ 0 := by
  unfold numberD realD at h
  split at h
  · split at h
    · cases h
    · cases h; decide
  · split at h
    · cases h
    · cases h; decide
theorem textD_err {s : List UInt8} {e : Int} (h : textD s = .error e) : e ≠ 0 := by
  unfold textD at h
  split at h
  · cases h; decide
  · cases h
set_option maxHeartbeats 4000000 in
set_option maxRecDepth 20000 in
theorem lexNext_ev (hγ : Gl γ) (b : Bool) (l : List UInt8) (i : Nat) (hi : i ≤ l.length) (hl : l.length ≤ 140737488351232) :
    Ev Tryz.prog γ 183 [.sl b l.length l.length (l.map byteC), .v (.int .i64 i)] (nextA l i) := by
  refine Ev.of Tryz.func183 rfl ?_
  generalize hR : nextA l i = R
  have hEnd : l.length ≤ nextT l i → R = .tup [tokA 0 [] 0 f0 0 0, .v (.bool false), .v (.int .i64 0)] := fun h => by rw [← hR, nextA, if_pos h]
  have hErr : ∀ e, nextT l i < l.length → headD (l.drop (nextT l i)) = .error e → R = .tup [tokA 0 [] 0 f0 (nextT l i) 0, .v (.bool true), .v (.int .i64 e)] := fun e h1 h2 => by rw [← hR, nextA, if_neg (by omega), h2]
  have hOk : ∀ t, nextT l i < l.length → headD (l.drop (nextT l i)) = .ok t → R = .tup [t.av (nextT l i), .v (.bool true), .v (.int .i64 0)] := fun t h1 h2 => by rw [← hR, nextA, if_neg (by omega), h2]
  have hT0 : nextT l i = nextT l i := rfl
  generalize hTT : nextT l i = T at hEnd hErr hOk hT0 ⊢
  clear hR
  have ha0 : ∀ j, atL (l.drop j) 0 = atL l j := fun j => by rw [atL_dropk]; rfl
  have ek : ∀ (k n : Nat), ((n : Int) == (k : Int)) = decide (n = k) := fun k n => by
    by_cases h : n = k
    · simp [h]
    · rw [decide_eq_false h]; simp; omega
  have nm := fun (j : Nat) (h : j < l.length) => lexName_ev (γ := γ) b (l.drop j) (by rw [List.length_drop]; omega) (by rw [List.length_drop]; omega)
  have nu := fun (j : Nat) (h : digitN (atL l j) = true) => lexNumber_ev (γ := γ) hγ b (l.drop j) (by rw [ha0]; exact h) (by rw [List.length_drop]; omega)
  have tx := fun (j : Nat) => lexText_ev (γ := γ) b (l.drop j) (by rw [List.length_drop]; omega)
  have mk := fun (m : Int) hm (j : Nat) (h : j < l.length) => lexMark_ev (γ := γ) m hm b (l.drop j) (by rw [List.length_drop]; omega) (by rw [List.length_drop]; omega)
  simp only [List.length_drop, List.map_drop] at nm nu tx mk
  obtain ⟨mx, hmx⟩ := hγ.1
  simp only [Tryz.f183, evS, tyS, Nat.reduceAdd, Nat.reduceSub, Nat.reduceLT]
  refine SemK.scope (nextS γ b l) (nextI l T) (fun a => a.1) (nextM l) ?_ ?_
  · have hjT : T = nextT l i := hTT.symm
    simp only [evS, tyS, Nat.reduceAdd, Nat.reduceLT, Nat.reduceLeDiff, Nat.reduceEqDiff, reduceCtorEq]
    refine CondK.intro (fun h => ?_) (fun h => ?_) <;> simp only [h, lS, evS, tyS, Nat.reduceAdd, Nat.reduceLT, Nat.reduceLeDiff, Nat.reduceEqDiff, reduceCtorEq]
    · have hge : l.length ≤ i := by ((try simp only [decide_eq_true_eq] at *) <;> (try omega))
      rw [hEnd (by rw [hjT, nextT]; omega)]
      simp only [tokA, f0, evS]
    · have hlt : i < l.length := by ((try simp only [decide_eq_false_iff_not] at *) <;> (try omega))
      have ew : IntKind.i64.wrap ((i : Int) + 1) = ((i + 1 : Nat) : Int) := i64w (by omega) (by omega)
      have ea : ∀ j, (l.getD j 0).toNat = atL l j := fun _ => rfl
      (repeat' (with_reducible refine And.intro ?_ ?_))
      all_goals try (((try simp only [decide_eq_false_iff_not] at *) <;> (try omega)); done)
      have c32 : ((atL l i : Int) == 32) = decide (atL l i = 32) := ek 32 _
      have c9 : ((atL l i : Int) == 9) = decide (atL l i = 9) := ek 9 _
      have c10 : ((atL l i : Int) == 10) = decide (atL l i = 10) := ek 10 _
      have c13 : ((atL l i : Int) == 13) = decide (atL l i = 13) := ek 13 _
      have c35 : ((atL l i : Int) == 35) = decide (atL l i = 35) := ek 35 _
      have c34 : ((atL l i : Int) == 34) = decide (atL l i = 34) := ek 34 _
      by_cases hb : blankN (atL l i) = true
      · have hb' := of_decide_eq_true hb
        have hgb := gap_blank hlt hb
        simp only [ea, c32]
        (repeat' (first | (with_reducible refine And.intro ?_ ?_) | ((first | refine GuardK.intro_f (fun h => ?_) (fun h => ?_) | refine GuardK.intro_t (fun h => ?_) (fun h => ?_) | refine CondK.intro (fun h => ?_) (fun h => ?_) | refine PickK.intro (fun h => ?_) (fun h => ?_)) <;> simp only [h, ew, lS, c9, c10, c13, evS, Nat.reduceLT, Nat.reduceEqDiff, reduceCtorEq]) | (refine DrawK.intro (by kernel_rfl) (by kernel_rfl) ?_; simp only [ea, ew, lS, c32, c9, c10, c13, evS, tyS, Bool.not_true, Bool.not_false, Nat.reduceAdd, Nat.reduceSub, Nat.reduceMul, Nat.reduceLT, Nat.reduceLeDiff, Nat.reduceEqDiff, reduceCtorEq, List.reduceReplicate, Int.reduceToNat, Int.reduceLE, Int.reduceLT])))
        all_goals first
          | (refine labelC.intro (0, i + 1, zeroT, 0) (nextI0 (by omega) (by rw [hjT, nextT, hgb, nextT]; omega)) rfl ?_ (by intro k hk; cases hk)
             simp only [nextS, tcells, zeroT, evS, Nat.reduceAdd, Nat.reduceEqDiff, reduceCtorEq]
             (repeat' (first | (with_reducible refine And.intro ?_ ?_) | ((first | refine GuardK.intro_f (fun h => ?_) (fun h => ?_) | refine GuardK.intro_t (fun h => ?_) (fun h => ?_) | refine CondK.intro (fun h => ?_) (fun h => ?_) | refine PickK.intro (fun h => ?_) (fun h => ?_)) <;> simp only [h, evS, tyS, Bool.not_true, Bool.not_false, Nat.reduceAdd, Nat.reduceSub, Nat.reduceMul, Nat.reduceLT, Nat.reduceLeDiff, Nat.reduceEqDiff, reduceCtorEq, List.reduceReplicate, Int.reduceToNat, Int.reduceLE, Int.reduceLT]) | (refine DrawK.intro (by kernel_rfl) (by kernel_rfl) ?_; simp only [evS, tyS, Bool.not_true, Bool.not_false, Nat.reduceAdd, Nat.reduceSub, Nat.reduceMul, Nat.reduceLT, Nat.reduceLeDiff, Nat.reduceEqDiff, reduceCtorEq, List.reduceReplicate, Int.reduceToNat, Int.reduceLE, Int.reduceLT])))
             all_goals first | rfl | trivial | exact .inl rfl)
          | (exfalso; ((try simp only [decide_eq_false_iff_not, beq_iff_eq, ne_eq, beq_eq_false_iff_ne] at *) <;> (try omega)))
      · have hb1 : blankN (atL l i) = false := by simpa using hb
        have hb' := of_decide_eq_false hb1
        have d32 : decide (atL l i = 32) = false := decide_eq_false (by omega)
        have d9 : decide (atL l i = 9) = false := decide_eq_false (by omega)
        have d10 : decide (atL l i = 10) = false := decide_eq_false (by omega)
        have d13 : decide (atL l i = 13) = false := decide_eq_false (by omega)
        simp only [ea, c32, c9, c10, c13, d32, d9, d10, d13, c35, evS, Nat.reduceLT, Nat.reduceEqDiff, reduceCtorEq]
        refine CondK.intro (fun h35 => ?_) (fun h35 => ?_) <;> simp only [h35, lS, evS, Nat.reduceLT, Nat.reduceEqDiff, reduceCtorEq]
        · refine labelC.intro (1, i, zeroT, 0) (nextI1 hlt (by rw [hjT, nextT, gap_com hlt hb1 (of_decide_eq_true h35)]; omega)) rfl ?_ (by intro k hk; cases hk)
          simp only [nextS, tcells, zeroT, evS, Nat.reduceAdd, Nat.reduceEqDiff, reduceCtorEq]
          (repeat' (first | (with_reducible refine And.intro ?_ ?_) | ((first | refine GuardK.intro_f (fun h => ?_) (fun h => ?_) | refine GuardK.intro_t (fun h => ?_) (fun h => ?_) | refine CondK.intro (fun h => ?_) (fun h => ?_) | refine PickK.intro (fun h => ?_) (fun h => ?_)) <;> simp only [h, evS, tyS, Bool.not_true, Bool.not_false, Nat.reduceAdd, Nat.reduceSub, Nat.reduceMul, Nat.reduceLT, Nat.reduceLeDiff, Nat.reduceEqDiff, reduceCtorEq, List.reduceReplicate, Int.reduceToNat, Int.reduceLE, Int.reduceLT]) | (refine DrawK.intro (by kernel_rfl) (by kernel_rfl) ?_; simp only [evS, tyS, Bool.not_true, Bool.not_false, Nat.reduceAdd, Nat.reduceSub, Nat.reduceMul, Nat.reduceLT, Nat.reduceLeDiff, Nat.reduceEqDiff, reduceCtorEq, List.reduceReplicate, Int.reduceToNat, Int.reduceLE, Int.reduceLT])))
          all_goals first | rfl | trivial | exact .inl rfl
        · have hTj : T = i := by rw [hjT, nextT, gap_stop hlt hb1 (of_decide_eq_false h35)]; omega
          have hh : headD (l.drop i) = if letterN (atL l i) = true then (if 32 < spanEnd nameN (l.drop i) 1 then .error 13 else .ok ⟨1, (l.drop i).take (spanEnd nameN (l.drop i) 1), 0, 0, spanEnd nameN (l.drop i) 1⟩)
              else if digitN (atL l i) = true then numberD (l.drop i)
              else if atL l i = 34 then textD (l.drop i)
              else if markN (l.drop i) = 0 then .error 10 else .ok ⟨5, (l.drop i).take (markN (l.drop i)), 0, 0, markN (l.drop i)⟩ := by rw [headD, ha0]
          refine CallK.intro b45 rfl (lexLetter_ev _) ?_
          cases hlet : letterN (atL l i) with
          | true =>
            rw [if_pos hlet] at hh
            simp only [evS, tyS, Nat.reduceLT, Nat.reduceEqDiff, reduceCtorEq]
            (repeat' (first | (with_reducible refine And.intro ?_ ?_) | ((first | refine GuardK.intro_f (fun h => ?_) (fun h => ?_) | refine GuardK.intro_t (fun h => ?_) (fun h => ?_) | refine CondK.intro (fun h => ?_) (fun h => ?_) | refine PickK.intro (fun h => ?_) (fun h => ?_)) <;> simp only [h, lS, ea, evS, tyS, Bool.not_true, Bool.not_false, Nat.reduceAdd, Nat.reduceSub, Nat.reduceMul, Nat.reduceLT, Nat.reduceLeDiff, Nat.reduceEqDiff, reduceCtorEq, List.reduceReplicate, Int.reduceToNat, Int.reduceLE, Int.reduceLT]) | (refine DrawK.intro (by kernel_rfl) (by kernel_rfl) ?_; simp only [lS, ea, evS, tyS, Bool.not_true, Bool.not_false, Nat.reduceAdd, Nat.reduceSub, Nat.reduceMul, Nat.reduceLT, Nat.reduceLeDiff, Nat.reduceEqDiff, reduceCtorEq, List.reduceReplicate, Int.reduceToNat, Int.reduceLE, Int.reduceLT])))
            all_goals try (((try simp only [decide_eq_false_iff_not] at *) <;> (try omega)); done)
            refine CallK.intro b46 (by simp [treeL, treeA]) (nm i hlt) ?_
            generalize spanEnd nameN (l.drop i) 1 = n at hh ⊢
            simp only [tokA, f0, evS, tyS, Nat.reduceAdd, Nat.reduceLT, Nat.reduceLeDiff, Nat.reduceEqDiff, reduceCtorEq]
            refine CondK.intro (fun h32 => ?_) (fun h32 => ?_) <;> simp only [h32, lS, evS, Nat.reduceLT]
            · rw [if_pos (by have := of_decide_eq_true h32; omega)] at hh
              refine labelC.intro (2, i, ⟨1, (l.drop i).take n, 0, 0, n⟩, 13) (nextI2 hlt hTj (.inr ⟨by decide, hh⟩)) rfl ?_ (by intro k hk; cases hk)
              simp only [nextS, tcells, evS, Nat.reduceAdd, Nat.reduceEqDiff, reduceCtorEq]
              (repeat' (first | (with_reducible refine And.intro ?_ ?_) | ((first | refine GuardK.intro_f (fun h => ?_) (fun h => ?_) | refine GuardK.intro_t (fun h => ?_) (fun h => ?_) | refine CondK.intro (fun h => ?_) (fun h => ?_) | refine PickK.intro (fun h => ?_) (fun h => ?_)) <;> simp only [h, evS, tyS, Bool.not_true, Bool.not_false, Nat.reduceAdd, Nat.reduceSub, Nat.reduceMul, Nat.reduceLT, Nat.reduceLeDiff, Nat.reduceEqDiff, reduceCtorEq, List.reduceReplicate, Int.reduceToNat, Int.reduceLE, Int.reduceLT]) | (refine DrawK.intro (by kernel_rfl) (by kernel_rfl) ?_; simp only [evS, tyS, Bool.not_true, Bool.not_false, Nat.reduceAdd, Nat.reduceSub, Nat.reduceMul, Nat.reduceLT, Nat.reduceLeDiff, Nat.reduceEqDiff, reduceCtorEq, List.reduceReplicate, Int.reduceToNat, Int.reduceLE, Int.reduceLT])))
              all_goals first | rfl | trivial | exact .inl rfl
            · rw [if_neg (by have := of_decide_eq_false h32; omega)] at hh
              refine labelC.intro (2, i, ⟨1, (l.drop i).take n, 0, 0, n⟩, 0) (nextI2 hlt hTj (.inl ⟨rfl, hh⟩)) rfl ?_ (by intro k hk; cases hk)
              simp only [nextS, tcells, evS, Nat.reduceAdd, Nat.reduceEqDiff, reduceCtorEq]
              (repeat' (first | (with_reducible refine And.intro ?_ ?_) | ((first | refine GuardK.intro_f (fun h => ?_) (fun h => ?_) | refine GuardK.intro_t (fun h => ?_) (fun h => ?_) | refine CondK.intro (fun h => ?_) (fun h => ?_) | refine PickK.intro (fun h => ?_) (fun h => ?_)) <;> simp only [h, evS, tyS, Bool.not_true, Bool.not_false, Nat.reduceAdd, Nat.reduceSub, Nat.reduceMul, Nat.reduceLT, Nat.reduceLeDiff, Nat.reduceEqDiff, reduceCtorEq, List.reduceReplicate, Int.reduceToNat, Int.reduceLE, Int.reduceLT]) | (refine DrawK.intro (by kernel_rfl) (by kernel_rfl) ?_; simp only [evS, tyS, Bool.not_true, Bool.not_false, Nat.reduceAdd, Nat.reduceSub, Nat.reduceMul, Nat.reduceLT, Nat.reduceLeDiff, Nat.reduceEqDiff, reduceCtorEq, List.reduceReplicate, Int.reduceToNat, Int.reduceLE, Int.reduceLT])))
              all_goals first | rfl | trivial | exact .inl rfl
          | false =>
            rw [if_neg (by rw [hlet]; decide)] at hh
            simp only [evS, Nat.reduceLT, Nat.reduceEqDiff, reduceCtorEq]
            refine CallK.intro b47 rfl (lexDigit_ev _) ?_
            cases hdig : digitN (atL l i) with
            | true =>
              rw [if_pos hdig] at hh
              simp only [evS, tyS, Nat.reduceLT, Nat.reduceEqDiff, reduceCtorEq]
              (repeat' (first | (with_reducible refine And.intro ?_ ?_) | ((first | refine GuardK.intro_f (fun h => ?_) (fun h => ?_) | refine GuardK.intro_t (fun h => ?_) (fun h => ?_) | refine CondK.intro (fun h => ?_) (fun h => ?_) | refine PickK.intro (fun h => ?_) (fun h => ?_)) <;> simp only [h, lS, ea, evS, tyS, Bool.not_true, Bool.not_false, Nat.reduceAdd, Nat.reduceSub, Nat.reduceMul, Nat.reduceLT, Nat.reduceLeDiff, Nat.reduceEqDiff, reduceCtorEq, List.reduceReplicate, Int.reduceToNat, Int.reduceLE, Int.reduceLT]) | (refine DrawK.intro (by kernel_rfl) (by kernel_rfl) ?_; simp only [lS, ea, evS, tyS, Bool.not_true, Bool.not_false, Nat.reduceAdd, Nat.reduceSub, Nat.reduceMul, Nat.reduceLT, Nat.reduceLeDiff, Nat.reduceEqDiff, reduceCtorEq, List.reduceReplicate, Int.reduceToNat, Int.reduceLE, Int.reduceLT])))
              all_goals try (((try simp only [decide_eq_false_iff_not] at *) <;> (try omega)); done)
              have hn := nu i hdig
              rw [numberD_av] at hn
              cases hN : numberD (l.drop i) with
              | ok t =>
                rw [hN] at hn hh
                refine CallK.intro b48 (by simp [treeL, treeA]) hn ?_
                simp only [lS, resTA, okTok, TokD.av, tokA, evS, tyS, Nat.reduceAdd, Nat.reduceLT, Nat.reduceLeDiff, Nat.reduceEqDiff, reduceCtorEq]
                refine labelC.intro (2, i, t, 0) (nextI2 hlt hTj (.inl ⟨rfl, hh⟩)) rfl ?_ (by intro k hk; cases hk)
                simp only [nextS, tcells, evS, Nat.reduceAdd, Nat.reduceEqDiff, reduceCtorEq]
                (repeat' (first | (with_reducible refine And.intro ?_ ?_) | ((first | refine GuardK.intro_f (fun h => ?_) (fun h => ?_) | refine GuardK.intro_t (fun h => ?_) (fun h => ?_) | refine CondK.intro (fun h => ?_) (fun h => ?_) | refine PickK.intro (fun h => ?_) (fun h => ?_)) <;> simp only [h, evS, tyS, Bool.not_true, Bool.not_false, Nat.reduceAdd, Nat.reduceSub, Nat.reduceMul, Nat.reduceLT, Nat.reduceLeDiff, Nat.reduceEqDiff, reduceCtorEq, List.reduceReplicate, Int.reduceToNat, Int.reduceLE, Int.reduceLT]) | (refine DrawK.intro (by kernel_rfl) (by kernel_rfl) ?_; simp only [evS, tyS, Bool.not_true, Bool.not_false, Nat.reduceAdd, Nat.reduceSub, Nat.reduceMul, Nat.reduceLT, Nat.reduceLeDiff, Nat.reduceEqDiff, reduceCtorEq, List.reduceReplicate, Int.reduceToNat, Int.reduceLE, Int.reduceLT])))
                all_goals first | rfl | trivial | exact .inl rfl
              | error e =>
                rw [hN] at hn hh
                refine CallK.intro b48 (by simp [treeL, treeA]) hn ?_
                simp only [lS, resTA, errTok, tokA, f0, evS, tyS, Nat.reduceAdd, Nat.reduceLT, Nat.reduceLeDiff, Nat.reduceEqDiff, reduceCtorEq]
                refine labelC.intro (2, i, zeroT, e) (nextI2 hlt hTj (.inr ⟨numberD_err hN, hh⟩)) rfl ?_ (by intro k hk; cases hk)
                simp only [nextS, tcells, zeroT, evS, Nat.reduceAdd, Nat.reduceEqDiff, reduceCtorEq]
                (repeat' (first | (with_reducible refine And.intro ?_ ?_) | ((first | refine GuardK.intro_f (fun h => ?_) (fun h => ?_) | refine GuardK.intro_t (fun h => ?_) (fun h => ?_) | refine CondK.intro (fun h => ?_) (fun h => ?_) | refine PickK.intro (fun h => ?_) (fun h => ?_)) <;> simp only [h, evS, tyS, Bool.not_true, Bool.not_false, Nat.reduceAdd, Nat.reduceSub, Nat.reduceMul, Nat.reduceLT, Nat.reduceLeDiff, Nat.reduceEqDiff, reduceCtorEq, List.reduceReplicate, Int.reduceToNat, Int.reduceLE, Int.reduceLT]) | (refine DrawK.intro (by kernel_rfl) (by kernel_rfl) ?_; simp only [evS, tyS, Bool.not_true, Bool.not_false, Nat.reduceAdd, Nat.reduceSub, Nat.reduceMul, Nat.reduceLT, Nat.reduceLeDiff, Nat.reduceEqDiff, reduceCtorEq, List.reduceReplicate, Int.reduceToNat, Int.reduceLE, Int.reduceLT])))
                all_goals first | rfl | trivial | exact .inl rfl
            | false =>
              rw [if_neg (by rw [hdig]; decide)] at hh
              simp only [c34, evS, Nat.reduceLT, Nat.reduceEqDiff, reduceCtorEq]
              refine CondK.intro (fun h34 => ?_) (fun h34 => ?_) <;> simp only [h34, evS, tyS, Nat.reduceLT, Nat.reduceEqDiff, reduceCtorEq]
              · rw [if_pos (of_decide_eq_true h34)] at hh
                (repeat' (first | (with_reducible refine And.intro ?_ ?_) | ((first | refine GuardK.intro_f (fun h => ?_) (fun h => ?_) | refine GuardK.intro_t (fun h => ?_) (fun h => ?_) | refine CondK.intro (fun h => ?_) (fun h => ?_) | refine PickK.intro (fun h => ?_) (fun h => ?_)) <;> simp only [h, lS, ea, evS, tyS, Bool.not_true, Bool.not_false, Nat.reduceAdd, Nat.reduceSub, Nat.reduceMul, Nat.reduceLT, Nat.reduceLeDiff, Nat.reduceEqDiff, reduceCtorEq, List.reduceReplicate, Int.reduceToNat, Int.reduceLE, Int.reduceLT]) | (refine DrawK.intro (by kernel_rfl) (by kernel_rfl) ?_; simp only [lS, ea, evS, tyS, Bool.not_true, Bool.not_false, Nat.reduceAdd, Nat.reduceSub, Nat.reduceMul, Nat.reduceLT, Nat.reduceLeDiff, Nat.reduceEqDiff, reduceCtorEq, List.reduceReplicate, Int.reduceToNat, Int.reduceLE, Int.reduceLT])))
                all_goals try (((try simp only [decide_eq_true_eq, decide_eq_false_iff_not] at *) <;> (try omega)); done)
                have hn := tx i
                have hte := textD_av (l.drop i)
                rw [List.length_drop] at hte
                rw [hte] at hn
                cases hN : textD (l.drop i) with
                | ok t =>
                  rw [hN] at hn hh
                  refine CallK.intro b49 (by simp [treeL, treeA]) hn ?_
                  simp only [lS, resTA, okTok, TokD.av, tokA, evS, tyS, Nat.reduceAdd, Nat.reduceLT, Nat.reduceLeDiff, Nat.reduceEqDiff, reduceCtorEq]
                  refine labelC.intro (2, i, t, 0) (nextI2 hlt hTj (.inl ⟨rfl, hh⟩)) rfl ?_ (by intro k hk; cases hk)
                  simp only [nextS, tcells, evS, Nat.reduceAdd, Nat.reduceEqDiff, reduceCtorEq]
                  (repeat' (first | (with_reducible refine And.intro ?_ ?_) | ((first | refine GuardK.intro_f (fun h => ?_) (fun h => ?_) | refine GuardK.intro_t (fun h => ?_) (fun h => ?_) | refine CondK.intro (fun h => ?_) (fun h => ?_) | refine PickK.intro (fun h => ?_) (fun h => ?_)) <;> simp only [h, evS, tyS, Bool.not_true, Bool.not_false, Nat.reduceAdd, Nat.reduceSub, Nat.reduceMul, Nat.reduceLT, Nat.reduceLeDiff, Nat.reduceEqDiff, reduceCtorEq, List.reduceReplicate, Int.reduceToNat, Int.reduceLE, Int.reduceLT]) | (refine DrawK.intro (by kernel_rfl) (by kernel_rfl) ?_; simp only [evS, tyS, Bool.not_true, Bool.not_false, Nat.reduceAdd, Nat.reduceSub, Nat.reduceMul, Nat.reduceLT, Nat.reduceLeDiff, Nat.reduceEqDiff, reduceCtorEq, List.reduceReplicate, Int.reduceToNat, Int.reduceLE, Int.reduceLT])))
                  all_goals first | rfl | trivial | exact .inl rfl
                | error e =>
                  rw [hN] at hn hh
                  refine CallK.intro b49 (by simp [treeL, treeA]) hn ?_
                  simp only [lS, resTA, errTok, tokA, f0, evS, tyS, Nat.reduceAdd, Nat.reduceLT, Nat.reduceLeDiff, Nat.reduceEqDiff, reduceCtorEq]
                  refine labelC.intro (2, i, zeroT, e) (nextI2 hlt hTj (.inr ⟨textD_err hN, hh⟩)) rfl ?_ (by intro k hk; cases hk)
                  simp only [nextS, tcells, zeroT, evS, Nat.reduceAdd, Nat.reduceEqDiff, reduceCtorEq]
                  (repeat' (first | (with_reducible refine And.intro ?_ ?_) | ((first | refine GuardK.intro_f (fun h => ?_) (fun h => ?_) | refine GuardK.intro_t (fun h => ?_) (fun h => ?_) | refine CondK.intro (fun h => ?_) (fun h => ?_) | refine PickK.intro (fun h => ?_) (fun h => ?_)) <;> simp only [h, evS, tyS, Bool.not_true, Bool.not_false, Nat.reduceAdd, Nat.reduceSub, Nat.reduceMul, Nat.reduceLT, Nat.reduceLeDiff, Nat.reduceEqDiff, reduceCtorEq, List.reduceReplicate, Int.reduceToNat, Int.reduceLE, Int.reduceLT]) | (refine DrawK.intro (by kernel_rfl) (by kernel_rfl) ?_; simp only [evS, tyS, Bool.not_true, Bool.not_false, Nat.reduceAdd, Nat.reduceSub, Nat.reduceMul, Nat.reduceLT, Nat.reduceLeDiff, Nat.reduceEqDiff, reduceCtorEq, List.reduceReplicate, Int.reduceToNat, Int.reduceLE, Int.reduceLT])))
                  all_goals first | rfl | trivial | exact .inl rfl
              · rw [if_neg (of_decide_eq_false h34)] at hh
                (repeat' (first | (with_reducible refine And.intro ?_ ?_) | ((first | refine GuardK.intro_f (fun h => ?_) (fun h => ?_) | refine GuardK.intro_t (fun h => ?_) (fun h => ?_) | refine CondK.intro (fun h => ?_) (fun h => ?_) | refine PickK.intro (fun h => ?_) (fun h => ?_)) <;> simp only [h, lS, ea, evS, tyS, Bool.not_true, Bool.not_false, Nat.reduceAdd, Nat.reduceSub, Nat.reduceMul, Nat.reduceLT, Nat.reduceLeDiff, Nat.reduceEqDiff, reduceCtorEq, List.reduceReplicate, Int.reduceToNat, Int.reduceLE, Int.reduceLT]) | (refine DrawK.intro (by kernel_rfl) (by kernel_rfl) ?_; simp only [lS, ea, evS, tyS, Bool.not_true, Bool.not_false, Nat.reduceAdd, Nat.reduceSub, Nat.reduceMul, Nat.reduceLT, Nat.reduceLeDiff, Nat.reduceEqDiff, reduceCtorEq, List.reduceReplicate, Int.reduceToNat, Int.reduceLE, Int.reduceLT])))
                all_goals try (((try simp only [decide_eq_false_iff_not] at *) <;> (try omega)); done)
                have hn := mk mx hmx i hlt
                refine CallK.intro b50 (by simp [treeL, treeA]) hn ?_
                by_cases hm0 : markN (l.drop i) = 0
                · rw [if_pos hm0] at hh
                  rw [markA, if_pos hm0]
                  have z00 : ((0 : Int) == 0) = true := by decide
                  simp only [lS, tokA, f0, z00, evS, tyS, Nat.reduceAdd, Nat.reduceLT, Nat.reduceLeDiff, Nat.reduceEqDiff, reduceCtorEq]
                  refine labelC.intro (2, i, zeroT, 10) (nextI2 hlt hTj (.inr ⟨by decide, hh⟩)) rfl ?_ (by intro k hk; cases hk)
                  simp only [nextS, tcells, zeroT, evS, Nat.reduceAdd, Nat.reduceEqDiff, reduceCtorEq]
                  (repeat' (first | (with_reducible refine And.intro ?_ ?_) | ((first | refine GuardK.intro_f (fun h => ?_) (fun h => ?_) | refine GuardK.intro_t (fun h => ?_) (fun h => ?_) | refine CondK.intro (fun h => ?_) (fun h => ?_) | refine PickK.intro (fun h => ?_) (fun h => ?_)) <;> simp only [h, evS, tyS, Bool.not_true, Bool.not_false, Nat.reduceAdd, Nat.reduceSub, Nat.reduceMul, Nat.reduceLT, Nat.reduceLeDiff, Nat.reduceEqDiff, reduceCtorEq, List.reduceReplicate, Int.reduceToNat, Int.reduceLE, Int.reduceLT]) | (refine DrawK.intro (by kernel_rfl) (by kernel_rfl) ?_; simp only [evS, tyS, Bool.not_true, Bool.not_false, Nat.reduceAdd, Nat.reduceSub, Nat.reduceMul, Nat.reduceLT, Nat.reduceLeDiff, Nat.reduceEqDiff, reduceCtorEq, List.reduceReplicate, Int.reduceToNat, Int.reduceLE, Int.reduceLT])))
                  all_goals first | rfl | trivial | exact .inl rfl
                · rw [if_neg hm0] at hh
                  rw [markA, if_neg hm0]
                  generalize markN (l.drop i) = n at hh ⊢
                  have z50 : ((5 : Int) == 0) = false := by decide
                  simp only [lS, tokA, f0, z50, evS, tyS, Nat.reduceAdd, Nat.reduceLT, Nat.reduceLeDiff, Nat.reduceEqDiff, reduceCtorEq]
                  refine labelC.intro (2, i, ⟨5, (l.drop i).take n, 0, 0, n⟩, 0) (nextI2 hlt hTj (.inl ⟨rfl, hh⟩)) rfl ?_ (by intro k hk; cases hk)
                  simp only [nextS, tcells, evS, Nat.reduceAdd, Nat.reduceEqDiff, reduceCtorEq]
                  (repeat' (first | (with_reducible refine And.intro ?_ ?_) | ((first | refine GuardK.intro_f (fun h => ?_) (fun h => ?_) | refine GuardK.intro_t (fun h => ?_) (fun h => ?_) | refine CondK.intro (fun h => ?_) (fun h => ?_) | refine PickK.intro (fun h => ?_) (fun h => ?_)) <;> simp only [h, evS, tyS, Bool.not_true, Bool.not_false, Nat.reduceAdd, Nat.reduceSub, Nat.reduceMul, Nat.reduceLT, Nat.reduceLeDiff, Nat.reduceEqDiff, reduceCtorEq, List.reduceReplicate, Int.reduceToNat, Int.reduceLE, Int.reduceLT]) | (refine DrawK.intro (by kernel_rfl) (by kernel_rfl) ?_; simp only [evS, tyS, Bool.not_true, Bool.not_false, Nat.reduceAdd, Nat.reduceSub, Nat.reduceMul, Nat.reduceLT, Nat.reduceLeDiff, Nat.reduceEqDiff, reduceCtorEq, List.reduceReplicate, Int.reduceToNat, Int.reduceLE, Int.reduceLT])))
                  all_goals first | rfl | trivial | exact .inl rfl
  · rintro ⟨lb, j, t, e⟩ hj
    match lb, hj with
    | 0, hj =>
      obtain ⟨hj1, hjT, rfl, rfl⟩ := hj
      refine ⟨_, rfl, ?_⟩
      simp only [nextS, tcells, zeroT, zero6, evS, tyS, Nat.reduceLT, Nat.reduceEqDiff, reduceCtorEq]
      refine CondK.intro (fun h => ?_) (fun h => ?_) <;> simp only [h, lS, evS, tyS, Nat.reduceAdd, Nat.reduceLT, Nat.reduceLeDiff, Nat.reduceEqDiff, reduceCtorEq]
      · have hge : l.length ≤ j := by ((try simp only [decide_eq_true_eq] at *) <;> (try omega))
        rw [hEnd (by rw [hjT, nextT]; omega)]
        simp only [tokA, f0, evS]
      · have hlt : j < l.length := by ((try simp only [decide_eq_false_iff_not] at *) <;> (try omega))
        have ew : IntKind.i64.wrap ((j : Int) + 1) = ((j + 1 : Nat) : Int) := i64w (by omega) (by omega)
        have ea : ∀ j, (l.getD j 0).toNat = atL l j := fun _ => rfl
        (repeat' (with_reducible refine And.intro ?_ ?_))
        all_goals try (((try simp only [decide_eq_false_iff_not] at *) <;> (try omega)); done)
        have c32 : ((atL l j : Int) == 32) = decide (atL l j = 32) := ek 32 _
        have c9 : ((atL l j : Int) == 9) = decide (atL l j = 9) := ek 9 _
        have c10 : ((atL l j : Int) == 10) = decide (atL l j = 10) := ek 10 _
        have c13 : ((atL l j : Int) == 13) = decide (atL l j = 13) := ek 13 _
        have c35 : ((atL l j : Int) == 35) = decide (atL l j = 35) := ek 35 _
        have c34 : ((atL l j : Int) == 34) = decide (atL l j = 34) := ek 34 _
        by_cases hb : blankN (atL l j) = true
        · have hb' := of_decide_eq_true hb
          have hgb := gap_blank hlt hb
          simp only [ea, c32]
          (repeat' (first | (with_reducible refine And.intro ?_ ?_) | ((first | refine GuardK.intro_f (fun h => ?_) (fun h => ?_) | refine GuardK.intro_t (fun h => ?_) (fun h => ?_) | refine CondK.intro (fun h => ?_) (fun h => ?_) | refine PickK.intro (fun h => ?_) (fun h => ?_)) <;> simp only [h, ew, lS, c9, c10, c13, evS, Nat.reduceLT, Nat.reduceEqDiff, reduceCtorEq]) | (refine DrawK.intro (by kernel_rfl) (by kernel_rfl) ?_; simp only [ea, ew, lS, c32, c9, c10, c13, evS, tyS, Bool.not_true, Bool.not_false, Nat.reduceAdd, Nat.reduceSub, Nat.reduceMul, Nat.reduceLT, Nat.reduceLeDiff, Nat.reduceEqDiff, reduceCtorEq, List.reduceReplicate, Int.reduceToNat, Int.reduceLE, Int.reduceLT])))
          all_goals first
            | (refine labelC.intro (0, j + 1, zeroT, 0) (nextI0 (by omega) (by rw [hjT, nextT, hgb, nextT]; omega)) rfl ?_ (by intro k hk; cases hk; simp only [nextM]; omega)
               simp only [nextS, tcells, zeroT, evS, Nat.reduceAdd, Nat.reduceEqDiff, reduceCtorEq]
               (repeat' (first | (with_reducible refine And.intro ?_ ?_) | ((first | refine GuardK.intro_f (fun h => ?_) (fun h => ?_) | refine GuardK.intro_t (fun h => ?_) (fun h => ?_) | refine CondK.intro (fun h => ?_) (fun h => ?_) | refine PickK.intro (fun h => ?_) (fun h => ?_)) <;> simp only [h, evS, tyS, Bool.not_true, Bool.not_false, Nat.reduceAdd, Nat.reduceSub, Nat.reduceMul, Nat.reduceLT, Nat.reduceLeDiff, Nat.reduceEqDiff, reduceCtorEq, List.reduceReplicate, Int.reduceToNat, Int.reduceLE, Int.reduceLT]) | (refine DrawK.intro (by kernel_rfl) (by kernel_rfl) ?_; simp only [evS, tyS, Bool.not_true, Bool.not_false, Nat.reduceAdd, Nat.reduceSub, Nat.reduceMul, Nat.reduceLT, Nat.reduceLeDiff, Nat.reduceEqDiff, reduceCtorEq, List.reduceReplicate, Int.reduceToNat, Int.reduceLE, Int.reduceLT])))
               all_goals first | rfl | trivial | exact .inl rfl)
            | (exfalso; ((try simp only [decide_eq_false_iff_not, beq_iff_eq, ne_eq, beq_eq_false_iff_ne] at *) <;> (try omega)))
        · have hb1 : blankN (atL l j) = false := by simpa using hb
          have hb' := of_decide_eq_false hb1
          have d32 : decide (atL l j = 32) = false := decide_eq_false (by omega)
          have d9 : decide (atL l j = 9) = false := decide_eq_false (by omega)
          have d10 : decide (atL l j = 10) = false := decide_eq_false (by omega)
          have d13 : decide (atL l j = 13) = false := decide_eq_false (by omega)
          simp only [ea, c32, c9, c10, c13, d32, d9, d10, d13, c35, evS, Nat.reduceLT, Nat.reduceEqDiff, reduceCtorEq]
          refine CondK.intro (fun h35 => ?_) (fun h35 => ?_) <;> simp only [h35, lS, evS, Nat.reduceLT, Nat.reduceEqDiff, reduceCtorEq]
          · refine labelC.intro (1, j, zeroT, 0) (nextI1 hlt (by rw [hjT, nextT, gap_com hlt hb1 (of_decide_eq_true h35)]; omega)) rfl ?_ (by intro k hk; cases hk; simp only [nextM]; omega)
            simp only [nextS, tcells, zeroT, evS, Nat.reduceAdd, Nat.reduceEqDiff, reduceCtorEq]
            (repeat' (first | (with_reducible refine And.intro ?_ ?_) | ((first | refine GuardK.intro_f (fun h => ?_) (fun h => ?_) | refine GuardK.intro_t (fun h => ?_) (fun h => ?_) | refine CondK.intro (fun h => ?_) (fun h => ?_) | refine PickK.intro (fun h => ?_) (fun h => ?_)) <;> simp only [h, evS, tyS, Bool.not_true, Bool.not_false, Nat.reduceAdd, Nat.reduceSub, Nat.reduceMul, Nat.reduceLT, Nat.reduceLeDiff, Nat.reduceEqDiff, reduceCtorEq, List.reduceReplicate, Int.reduceToNat, Int.reduceLE, Int.reduceLT]) | (refine DrawK.intro (by kernel_rfl) (by kernel_rfl) ?_; simp only [evS, tyS, Bool.not_true, Bool.not_false, Nat.reduceAdd, Nat.reduceSub, Nat.reduceMul, Nat.reduceLT, Nat.reduceLeDiff, Nat.reduceEqDiff, reduceCtorEq, List.reduceReplicate, Int.reduceToNat, Int.reduceLE, Int.reduceLT])))
            all_goals first | rfl | trivial | exact .inl rfl
          · have hTj : T = j := by rw [hjT, nextT, gap_stop hlt hb1 (of_decide_eq_false h35)]; omega
            have hh : headD (l.drop j) = if letterN (atL l j) = true then (if 32 < spanEnd nameN (l.drop j) 1 then .error 13 else .ok ⟨1, (l.drop j).take (spanEnd nameN (l.drop j) 1), 0, 0, spanEnd nameN (l.drop j) 1⟩)
                else if digitN (atL l j) = true then numberD (l.drop j)
                else if atL l j = 34 then textD (l.drop j)
                else if markN (l.drop j) = 0 then .error 10 else .ok ⟨5, (l.drop j).take (markN (l.drop j)), 0, 0, markN (l.drop j)⟩ := by rw [headD, ha0]
            refine CallK.intro b45 rfl (lexLetter_ev _) ?_
            cases hlet : letterN (atL l j) with
            | true =>
              rw [if_pos hlet] at hh
              simp only [evS, tyS, Nat.reduceLT, Nat.reduceEqDiff, reduceCtorEq]
              (repeat' (first | (with_reducible refine And.intro ?_ ?_) | ((first | refine GuardK.intro_f (fun h => ?_) (fun h => ?_) | refine GuardK.intro_t (fun h => ?_) (fun h => ?_) | refine CondK.intro (fun h => ?_) (fun h => ?_) | refine PickK.intro (fun h => ?_) (fun h => ?_)) <;> simp only [h, lS, ea, evS, tyS, Bool.not_true, Bool.not_false, Nat.reduceAdd, Nat.reduceSub, Nat.reduceMul, Nat.reduceLT, Nat.reduceLeDiff, Nat.reduceEqDiff, reduceCtorEq, List.reduceReplicate, Int.reduceToNat, Int.reduceLE, Int.reduceLT]) | (refine DrawK.intro (by kernel_rfl) (by kernel_rfl) ?_; simp only [lS, ea, evS, tyS, Bool.not_true, Bool.not_false, Nat.reduceAdd, Nat.reduceSub, Nat.reduceMul, Nat.reduceLT, Nat.reduceLeDiff, Nat.reduceEqDiff, reduceCtorEq, List.reduceReplicate, Int.reduceToNat, Int.reduceLE, Int.reduceLT])))
              all_goals try (((try simp only [decide_eq_false_iff_not] at *) <;> (try omega)); done)
              refine CallK.intro b46 (by simp [treeL, treeA]) (nm j hlt) ?_
              generalize spanEnd nameN (l.drop j) 1 = n at hh ⊢
              simp only [tokA, f0, evS, tyS, Nat.reduceAdd, Nat.reduceLT, Nat.reduceLeDiff, Nat.reduceEqDiff, reduceCtorEq]
              refine CondK.intro (fun h32 => ?_) (fun h32 => ?_) <;> simp only [h32, lS, evS, Nat.reduceLT]
              · rw [if_pos (by have := of_decide_eq_true h32; omega)] at hh
                refine labelC.intro (2, j, ⟨1, (l.drop j).take n, 0, 0, n⟩, 13) (nextI2 hlt hTj (.inr ⟨by decide, hh⟩)) rfl ?_ (by intro k hk; cases hk; simp only [nextM]; omega)
                simp only [nextS, tcells, evS, Nat.reduceAdd, Nat.reduceEqDiff, reduceCtorEq]
                (repeat' (first | (with_reducible refine And.intro ?_ ?_) | ((first | refine GuardK.intro_f (fun h => ?_) (fun h => ?_) | refine GuardK.intro_t (fun h => ?_) (fun h => ?_) | refine CondK.intro (fun h => ?_) (fun h => ?_) | refine PickK.intro (fun h => ?_) (fun h => ?_)) <;> simp only [h, evS, tyS, Bool.not_true, Bool.not_false, Nat.reduceAdd, Nat.reduceSub, Nat.reduceMul, Nat.reduceLT, Nat.reduceLeDiff, Nat.reduceEqDiff, reduceCtorEq, List.reduceReplicate, Int.reduceToNat, Int.reduceLE, Int.reduceLT]) | (refine DrawK.intro (by kernel_rfl) (by kernel_rfl) ?_; simp only [evS, tyS, Bool.not_true, Bool.not_false, Nat.reduceAdd, Nat.reduceSub, Nat.reduceMul, Nat.reduceLT, Nat.reduceLeDiff, Nat.reduceEqDiff, reduceCtorEq, List.reduceReplicate, Int.reduceToNat, Int.reduceLE, Int.reduceLT])))
                all_goals first | rfl | trivial | exact .inl rfl
              · rw [if_neg (by have := of_decide_eq_false h32; omega)] at hh
                refine labelC.intro (2, j, ⟨1, (l.drop j).take n, 0, 0, n⟩, 0) (nextI2 hlt hTj (.inl ⟨rfl, hh⟩)) rfl ?_ (by intro k hk; cases hk; simp only [nextM]; omega)
                simp only [nextS, tcells, evS, Nat.reduceAdd, Nat.reduceEqDiff, reduceCtorEq]
                (repeat' (first | (with_reducible refine And.intro ?_ ?_) | ((first | refine GuardK.intro_f (fun h => ?_) (fun h => ?_) | refine GuardK.intro_t (fun h => ?_) (fun h => ?_) | refine CondK.intro (fun h => ?_) (fun h => ?_) | refine PickK.intro (fun h => ?_) (fun h => ?_)) <;> simp only [h, evS, tyS, Bool.not_true, Bool.not_false, Nat.reduceAdd, Nat.reduceSub, Nat.reduceMul, Nat.reduceLT, Nat.reduceLeDiff, Nat.reduceEqDiff, reduceCtorEq, List.reduceReplicate, Int.reduceToNat, Int.reduceLE, Int.reduceLT]) | (refine DrawK.intro (by kernel_rfl) (by kernel_rfl) ?_; simp only [evS, tyS, Bool.not_true, Bool.not_false, Nat.reduceAdd, Nat.reduceSub, Nat.reduceMul, Nat.reduceLT, Nat.reduceLeDiff, Nat.reduceEqDiff, reduceCtorEq, List.reduceReplicate, Int.reduceToNat, Int.reduceLE, Int.reduceLT])))
                all_goals first | rfl | trivial | exact .inl rfl
            | false =>
              rw [if_neg (by rw [hlet]; decide)] at hh
              simp only [evS, Nat.reduceLT, Nat.reduceEqDiff, reduceCtorEq]
              refine CallK.intro b47 rfl (lexDigit_ev _) ?_
              cases hdig : digitN (atL l j) with
              | true =>
                rw [if_pos hdig] at hh
                simp only [evS, tyS, Nat.reduceLT, Nat.reduceEqDiff, reduceCtorEq]
                (repeat' (first | (with_reducible refine And.intro ?_ ?_) | ((first | refine GuardK.intro_f (fun h => ?_) (fun h => ?_) | refine GuardK.intro_t (fun h => ?_) (fun h => ?_) | refine CondK.intro (fun h => ?_) (fun h => ?_) | refine PickK.intro (fun h => ?_) (fun h => ?_)) <;> simp only [h, lS, ea, evS, tyS, Bool.not_true, Bool.not_false, Nat.reduceAdd, Nat.reduceSub, Nat.reduceMul, Nat.reduceLT, Nat.reduceLeDiff, Nat.reduceEqDiff, reduceCtorEq, List.reduceReplicate, Int.reduceToNat, Int.reduceLE, Int.reduceLT]) | (refine DrawK.intro (by kernel_rfl) (by kernel_rfl) ?_; simp only [lS, ea, evS, tyS, Bool.not_true, Bool.not_false, Nat.reduceAdd, Nat.reduceSub, Nat.reduceMul, Nat.reduceLT, Nat.reduceLeDiff, Nat.reduceEqDiff, reduceCtorEq, List.reduceReplicate, Int.reduceToNat, Int.reduceLE, Int.reduceLT])))
                all_goals try (((try simp only [decide_eq_false_iff_not] at *) <;> (try omega)); done)
                have hn := nu j hdig
                rw [numberD_av] at hn
                cases hN : numberD (l.drop j) with
                | ok t =>
                  rw [hN] at hn hh
                  refine CallK.intro b48 (by simp [treeL, treeA]) hn ?_
                  simp only [lS, resTA, okTok, TokD.av, tokA, evS, tyS, Nat.reduceAdd, Nat.reduceLT, Nat.reduceLeDiff, Nat.reduceEqDiff, reduceCtorEq]
                  refine labelC.intro (2, j, t, 0) (nextI2 hlt hTj (.inl ⟨rfl, hh⟩)) rfl ?_ (by intro k hk; cases hk; simp only [nextM]; omega)
                  simp only [nextS, tcells, evS, Nat.reduceAdd, Nat.reduceEqDiff, reduceCtorEq]
                  (repeat' (first | (with_reducible refine And.intro ?_ ?_) | ((first | refine GuardK.intro_f (fun h => ?_) (fun h => ?_) | refine GuardK.intro_t (fun h => ?_) (fun h => ?_) | refine CondK.intro (fun h => ?_) (fun h => ?_) | refine PickK.intro (fun h => ?_) (fun h => ?_)) <;> simp only [h, evS, tyS, Bool.not_true, Bool.not_false, Nat.reduceAdd, Nat.reduceSub, Nat.reduceMul, Nat.reduceLT, Nat.reduceLeDiff, Nat.reduceEqDiff, reduceCtorEq, List.reduceReplicate, Int.reduceToNat, Int.reduceLE, Int.reduceLT]) | (refine DrawK.intro (by kernel_rfl) (by kernel_rfl) ?_; simp only [evS, tyS, Bool.not_true, Bool.not_false, Nat.reduceAdd, Nat.reduceSub, Nat.reduceMul, Nat.reduceLT, Nat.reduceLeDiff, Nat.reduceEqDiff, reduceCtorEq, List.reduceReplicate, Int.reduceToNat, Int.reduceLE, Int.reduceLT])))
                  all_goals first | rfl | trivial | exact .inl rfl
                | error e =>
                  rw [hN] at hn hh
                  refine CallK.intro b48 (by simp [treeL, treeA]) hn ?_
                  simp only [lS, resTA, errTok, tokA, f0, evS, tyS, Nat.reduceAdd, Nat.reduceLT, Nat.reduceLeDiff, Nat.reduceEqDiff, reduceCtorEq]
                  refine labelC.intro (2, j, zeroT, e) (nextI2 hlt hTj (.inr ⟨numberD_err hN, hh⟩)) rfl ?_ (by intro k hk; cases hk; simp only [nextM]; omega)
                  simp only [nextS, tcells, zeroT, evS, Nat.reduceAdd, Nat.reduceEqDiff, reduceCtorEq]
                  (repeat' (first | (with_reducible refine And.intro ?_ ?_) | ((first | refine GuardK.intro_f (fun h => ?_) (fun h => ?_) | refine GuardK.intro_t (fun h => ?_) (fun h => ?_) | refine CondK.intro (fun h => ?_) (fun h => ?_) | refine PickK.intro (fun h => ?_) (fun h => ?_)) <;> simp only [h, evS, tyS, Bool.not_true, Bool.not_false, Nat.reduceAdd, Nat.reduceSub, Nat.reduceMul, Nat.reduceLT, Nat.reduceLeDiff, Nat.reduceEqDiff, reduceCtorEq, List.reduceReplicate, Int.reduceToNat, Int.reduceLE, Int.reduceLT]) | (refine DrawK.intro (by kernel_rfl) (by kernel_rfl) ?_; simp only [evS, tyS, Bool.not_true, Bool.not_false, Nat.reduceAdd, Nat.reduceSub, Nat.reduceMul, Nat.reduceLT, Nat.reduceLeDiff, Nat.reduceEqDiff, reduceCtorEq, List.reduceReplicate, Int.reduceToNat, Int.reduceLE, Int.reduceLT])))
                  all_goals first | rfl | trivial | exact .inl rfl
              | false =>
                rw [if_neg (by rw [hdig]; decide)] at hh
                simp only [c34, evS, Nat.reduceLT, Nat.reduceEqDiff, reduceCtorEq]
                refine CondK.intro (fun h34 => ?_) (fun h34 => ?_) <;> simp only [h34, evS, tyS, Nat.reduceLT, Nat.reduceEqDiff, reduceCtorEq]
                · rw [if_pos (of_decide_eq_true h34)] at hh
                  (repeat' (first | (with_reducible refine And.intro ?_ ?_) | ((first | refine GuardK.intro_f (fun h => ?_) (fun h => ?_) | refine GuardK.intro_t (fun h => ?_) (fun h => ?_) | refine CondK.intro (fun h => ?_) (fun h => ?_) | refine PickK.intro (fun h => ?_) (fun h => ?_)) <;> simp only [h, lS, ea, evS, tyS, Bool.not_true, Bool.not_false, Nat.reduceAdd, Nat.reduceSub, Nat.reduceMul, Nat.reduceLT, Nat.reduceLeDiff, Nat.reduceEqDiff, reduceCtorEq, List.reduceReplicate, Int.reduceToNat, Int.reduceLE, Int.reduceLT]) | (refine DrawK.intro (by kernel_rfl) (by kernel_rfl) ?_; simp only [lS, ea, evS, tyS, Bool.not_true, Bool.not_false, Nat.reduceAdd, Nat.reduceSub, Nat.reduceMul, Nat.reduceLT, Nat.reduceLeDiff, Nat.reduceEqDiff, reduceCtorEq, List.reduceReplicate, Int.reduceToNat, Int.reduceLE, Int.reduceLT])))
                  all_goals try (((try simp only [decide_eq_true_eq, decide_eq_false_iff_not] at *) <;> (try omega)); done)
                  have hn := tx j
                  have hte := textD_av (l.drop j)
                  rw [List.length_drop] at hte
                  rw [hte] at hn
                  cases hN : textD (l.drop j) with
                  | ok t =>
                    rw [hN] at hn hh
                    refine CallK.intro b49 (by simp [treeL, treeA]) hn ?_
                    simp only [lS, resTA, okTok, TokD.av, tokA, evS, tyS, Nat.reduceAdd, Nat.reduceLT, Nat.reduceLeDiff, Nat.reduceEqDiff, reduceCtorEq]
                    refine labelC.intro (2, j, t, 0) (nextI2 hlt hTj (.inl ⟨rfl, hh⟩)) rfl ?_ (by intro k hk; cases hk; simp only [nextM]; omega)
                    simp only [nextS, tcells, evS, Nat.reduceAdd, Nat.reduceEqDiff, reduceCtorEq]
                    (repeat' (first | (with_reducible refine And.intro ?_ ?_) | ((first | refine GuardK.intro_f (fun h => ?_) (fun h => ?_) | refine GuardK.intro_t (fun h => ?_) (fun h => ?_) | refine CondK.intro (fun h => ?_) (fun h => ?_) | refine PickK.intro (fun h => ?_) (fun h => ?_)) <;> simp only [h, evS, tyS, Bool.not_true, Bool.not_false, Nat.reduceAdd, Nat.reduceSub, Nat.reduceMul, Nat.reduceLT, Nat.reduceLeDiff, Nat.reduceEqDiff, reduceCtorEq, List.reduceReplicate, Int.reduceToNat, Int.reduceLE, Int.reduceLT]) | (refine DrawK.intro (by kernel_rfl) (by kernel_rfl) ?_; simp only [evS, tyS, Bool.not_true, Bool.not_false, Nat.reduceAdd, Nat.reduceSub, Nat.reduceMul, Nat.reduceLT, Nat.reduceLeDiff, Nat.reduceEqDiff, reduceCtorEq, List.reduceReplicate, Int.reduceToNat, Int.reduceLE, Int.reduceLT])))
                    all_goals first | rfl | trivial | exact .inl rfl
                  | error e =>
                    rw [hN] at hn hh
                    refine CallK.intro b49 (by simp [treeL, treeA]) hn ?_
                    simp only [lS, resTA, errTok, tokA, f0, evS, tyS, Nat.reduceAdd, Nat.reduceLT, Nat.reduceLeDiff, Nat.reduceEqDiff, reduceCtorEq]
                    refine labelC.intro (2, j, zeroT, e) (nextI2 hlt hTj (.inr ⟨textD_err hN, hh⟩)) rfl ?_ (by intro k hk; cases hk; simp only [nextM]; omega)
                    simp only [nextS, tcells, zeroT, evS, Nat.reduceAdd, Nat.reduceEqDiff, reduceCtorEq]
                    (repeat' (first | (with_reducible refine And.intro ?_ ?_) | ((first | refine GuardK.intro_f (fun h => ?_) (fun h => ?_) | refine GuardK.intro_t (fun h => ?_) (fun h => ?_) | refine CondK.intro (fun h => ?_) (fun h => ?_) | refine PickK.intro (fun h => ?_) (fun h => ?_)) <;> simp only [h, evS, tyS, Bool.not_true, Bool.not_false, Nat.reduceAdd, Nat.reduceSub, Nat.reduceMul, Nat.reduceLT, Nat.reduceLeDiff, Nat.reduceEqDiff, reduceCtorEq, List.reduceReplicate, Int.reduceToNat, Int.reduceLE, Int.reduceLT]) | (refine DrawK.intro (by kernel_rfl) (by kernel_rfl) ?_; simp only [evS, tyS, Bool.not_true, Bool.not_false, Nat.reduceAdd, Nat.reduceSub, Nat.reduceMul, Nat.reduceLT, Nat.reduceLeDiff, Nat.reduceEqDiff, reduceCtorEq, List.reduceReplicate, Int.reduceToNat, Int.reduceLE, Int.reduceLT])))
                    all_goals first | rfl | trivial | exact .inl rfl
                · rw [if_neg (of_decide_eq_false h34)] at hh
                  (repeat' (first | (with_reducible refine And.intro ?_ ?_) | ((first | refine GuardK.intro_f (fun h => ?_) (fun h => ?_) | refine GuardK.intro_t (fun h => ?_) (fun h => ?_) | refine CondK.intro (fun h => ?_) (fun h => ?_) | refine PickK.intro (fun h => ?_) (fun h => ?_)) <;> simp only [h, lS, ea, evS, tyS, Bool.not_true, Bool.not_false, Nat.reduceAdd, Nat.reduceSub, Nat.reduceMul, Nat.reduceLT, Nat.reduceLeDiff, Nat.reduceEqDiff, reduceCtorEq, List.reduceReplicate, Int.reduceToNat, Int.reduceLE, Int.reduceLT]) | (refine DrawK.intro (by kernel_rfl) (by kernel_rfl) ?_; simp only [lS, ea, evS, tyS, Bool.not_true, Bool.not_false, Nat.reduceAdd, Nat.reduceSub, Nat.reduceMul, Nat.reduceLT, Nat.reduceLeDiff, Nat.reduceEqDiff, reduceCtorEq, List.reduceReplicate, Int.reduceToNat, Int.reduceLE, Int.reduceLT])))
                  all_goals try (((try simp only [decide_eq_false_iff_not] at *) <;> (try omega)); done)
                  have hn := mk mx hmx j hlt
                  refine CallK.intro b50 (by simp [treeL, treeA]) hn ?_
                  by_cases hm0 : markN (l.drop j) = 0
                  · rw [if_pos hm0] at hh
                    rw [markA, if_pos hm0]
                    have z00 : ((0 : Int) == 0) = true := by decide
                    simp only [lS, tokA, f0, z00, evS, tyS, Nat.reduceAdd, Nat.reduceLT, Nat.reduceLeDiff, Nat.reduceEqDiff, reduceCtorEq]
                    refine labelC.intro (2, j, zeroT, 10) (nextI2 hlt hTj (.inr ⟨by decide, hh⟩)) rfl ?_ (by intro k hk; cases hk; simp only [nextM]; omega)
                    simp only [nextS, tcells, zeroT, evS, Nat.reduceAdd, Nat.reduceEqDiff, reduceCtorEq]
                    (repeat' (first | (with_reducible refine And.intro ?_ ?_) | ((first | refine GuardK.intro_f (fun h => ?_) (fun h => ?_) | refine GuardK.intro_t (fun h => ?_) (fun h => ?_) | refine CondK.intro (fun h => ?_) (fun h => ?_) | refine PickK.intro (fun h => ?_) (fun h => ?_)) <;> simp only [h, evS, tyS, Bool.not_true, Bool.not_false, Nat.reduceAdd, Nat.reduceSub, Nat.reduceMul, Nat.reduceLT, Nat.reduceLeDiff, Nat.reduceEqDiff, reduceCtorEq, List.reduceReplicate, Int.reduceToNat, Int.reduceLE, Int.reduceLT]) | (refine DrawK.intro (by kernel_rfl) (by kernel_rfl) ?_; simp only [evS, tyS, Bool.not_true, Bool.not_false, Nat.reduceAdd, Nat.reduceSub, Nat.reduceMul, Nat.reduceLT, Nat.reduceLeDiff, Nat.reduceEqDiff, reduceCtorEq, List.reduceReplicate, Int.reduceToNat, Int.reduceLE, Int.reduceLT])))
                    all_goals first | rfl | trivial | exact .inl rfl
                  · rw [if_neg hm0] at hh
                    rw [markA, if_neg hm0]
                    generalize markN (l.drop j) = n at hh ⊢
                    have z50 : ((5 : Int) == 0) = false := by decide
                    simp only [lS, tokA, f0, z50, evS, tyS, Nat.reduceAdd, Nat.reduceLT, Nat.reduceLeDiff, Nat.reduceEqDiff, reduceCtorEq]
                    refine labelC.intro (2, j, ⟨5, (l.drop j).take n, 0, 0, n⟩, 0) (nextI2 hlt hTj (.inl ⟨rfl, hh⟩)) rfl ?_ (by intro k hk; cases hk; simp only [nextM]; omega)
                    simp only [nextS, tcells, evS, Nat.reduceAdd, Nat.reduceEqDiff, reduceCtorEq]
                    (repeat' (first | (with_reducible refine And.intro ?_ ?_) | ((first | refine GuardK.intro_f (fun h => ?_) (fun h => ?_) | refine GuardK.intro_t (fun h => ?_) (fun h => ?_) | refine CondK.intro (fun h => ?_) (fun h => ?_) | refine PickK.intro (fun h => ?_) (fun h => ?_)) <;> simp only [h, evS, tyS, Bool.not_true, Bool.not_false, Nat.reduceAdd, Nat.reduceSub, Nat.reduceMul, Nat.reduceLT, Nat.reduceLeDiff, Nat.reduceEqDiff, reduceCtorEq, List.reduceReplicate, Int.reduceToNat, Int.reduceLE, Int.reduceLT]) | (refine DrawK.intro (by kernel_rfl) (by kernel_rfl) ?_; simp only [evS, tyS, Bool.not_true, Bool.not_false, Nat.reduceAdd, Nat.reduceSub, Nat.reduceMul, Nat.reduceLT, Nat.reduceLeDiff, Nat.reduceEqDiff, reduceCtorEq, List.reduceReplicate, Int.reduceToNat, Int.reduceLE, Int.reduceLT])))
                    all_goals first | rfl | trivial | exact .inl rfl
    | 1, hj =>
      obtain ⟨hj1, hjT, rfl, rfl⟩ := hj
      refine ⟨_, rfl, ?_⟩
      have ew : IntKind.i64.wrap ((j : Int) + 1) = ((j + 1 : Nat) : Int) := i64w (by omega) (by omega)
      have ea : ∀ j, (l.getD j 0).toNat = atL l j := fun _ => rfl
      simp only [nextS, tcells, zeroT, ew, zero6, evS, tyS, Nat.reduceLT, Nat.reduceEqDiff, reduceCtorEq]
      (repeat' (first | (with_reducible refine And.intro ?_ ?_) | ((first | refine GuardK.intro_f (fun h => ?_) (fun h => ?_) | refine GuardK.intro_t (fun h => ?_) (fun h => ?_) | refine CondK.intro (fun h => ?_) (fun h => ?_) | refine PickK.intro (fun h => ?_) (fun h => ?_)) <;> simp only [h, lS, ea, evS, tyS, Nat.reduceLT, Nat.reduceEqDiff, reduceCtorEq]) | (refine DrawK.intro (by kernel_rfl) (by kernel_rfl) ?_; simp only [lS, ea, ew, evS, tyS, Bool.not_true, Bool.not_false, Nat.reduceAdd, Nat.reduceSub, Nat.reduceMul, Nat.reduceLT, Nat.reduceLeDiff, Nat.reduceEqDiff, reduceCtorEq, List.reduceReplicate, Int.reduceToNat, Int.reduceLE, Int.reduceLT])))
      all_goals try (((try simp only [decide_eq_true_eq, decide_eq_false_iff_not, bne_iff_ne, ne_eq, bne_eq_false_iff_eq] at *) <;> (try omega)); done)
      all_goals ((try simp only [decide_eq_true_eq, decide_eq_false_iff_not, bne_iff_ne, ne_eq, bne_eq_false_iff_eq] at *) <;> (try omega))
      all_goals first
        | (refine labelC.intro (1, j + 1, zeroT, 0) (nextI1 (by omega) (by rw [hjT, gap_in (by omega) (by omega)]; omega)) rfl ?_ (by intro k hk; cases hk; simp only [nextM]; omega)
           simp only [nextS, tcells, zeroT, evS, Nat.reduceAdd, Nat.reduceEqDiff, reduceCtorEq]
           (repeat' (first | (with_reducible refine And.intro ?_ ?_) | ((first | refine GuardK.intro_f (fun h => ?_) (fun h => ?_) | refine GuardK.intro_t (fun h => ?_) (fun h => ?_) | refine CondK.intro (fun h => ?_) (fun h => ?_) | refine PickK.intro (fun h => ?_) (fun h => ?_)) <;> simp only [h, evS, tyS, Bool.not_true, Bool.not_false, Nat.reduceAdd, Nat.reduceSub, Nat.reduceMul, Nat.reduceLT, Nat.reduceLeDiff, Nat.reduceEqDiff, reduceCtorEq, List.reduceReplicate, Int.reduceToNat, Int.reduceLE, Int.reduceLT]) | (refine DrawK.intro (by kernel_rfl) (by kernel_rfl) ?_; simp only [evS, tyS, Bool.not_true, Bool.not_false, Nat.reduceAdd, Nat.reduceSub, Nat.reduceMul, Nat.reduceLT, Nat.reduceLeDiff, Nat.reduceEqDiff, reduceCtorEq, List.reduceReplicate, Int.reduceToNat, Int.reduceLE, Int.reduceLT])))
           all_goals first | rfl | trivial | exact .inl rfl)
        | (refine labelC.intro (0, j + 1, zeroT, 0) (nextI0 (by omega) (by first | (rw [hjT, nextT, gap_nl (by omega) (by omega)]; done) | (rw [hjT, nextT, gap_end (by omega), gap_end (by omega)]; done))) rfl ?_ (by intro k hk; cases hk; simp only [nextM]; omega)
           simp only [nextS, tcells, zeroT, evS, Nat.reduceAdd, Nat.reduceEqDiff, reduceCtorEq]
           (repeat' (first | (with_reducible refine And.intro ?_ ?_) | ((first | refine GuardK.intro_f (fun h => ?_) (fun h => ?_) | refine GuardK.intro_t (fun h => ?_) (fun h => ?_) | refine CondK.intro (fun h => ?_) (fun h => ?_) | refine PickK.intro (fun h => ?_) (fun h => ?_)) <;> simp only [h, evS, tyS, Bool.not_true, Bool.not_false, Nat.reduceAdd, Nat.reduceSub, Nat.reduceMul, Nat.reduceLT, Nat.reduceLeDiff, Nat.reduceEqDiff, reduceCtorEq, List.reduceReplicate, Int.reduceToNat, Int.reduceLE, Int.reduceLT]) | (refine DrawK.intro (by kernel_rfl) (by kernel_rfl) ?_; simp only [evS, tyS, Bool.not_true, Bool.not_false, Nat.reduceAdd, Nat.reduceSub, Nat.reduceMul, Nat.reduceLT, Nat.reduceLeDiff, Nat.reduceEqDiff, reduceCtorEq, List.reduceReplicate, Int.reduceToNat, Int.reduceLE, Int.reduceLT])))
           all_goals first | rfl | trivial | exact .inl rfl)
    | 2, hj =>
      obtain ⟨hj1, hjT, hj3⟩ := hj
      refine ⟨_, rfl, ?_⟩
      subst hjT
      rcases hj3 with ⟨rfl, hk⟩ | ⟨he, hk⟩
      · have z00 : ((0 : Int) != 0) = false := by decide
        rw [hOk t hj1 hk]
        simp only [nextS, lS, tcells, z00, TokD.av, tokA, zero6, evS, tyS, Nat.reduceAdd, Nat.reduceLT, Nat.reduceLeDiff, Nat.reduceEqDiff, reduceCtorEq]
      · have z00 : ((e : Int) != 0) = true := by simpa using he
        rw [hErr e hj1 hk]
        simp only [nextS, lS, tcells, z00, tokA, f0, zero6, evS, tyS, Nat.reduceAdd, Nat.reduceLT, Nat.reduceLeDiff, Nat.reduceEqDiff, reduceCtorEq]
    | k + 3, hj => exact hj.elim
end Go.Proofs.YtlobiioioicmhaaGreatDoor
namespace Go.Proofs.YtlobiioioicmhaaGreatDoor
set_option linter.all false
open Go Go.Ev
set_option maxRecDepth 20000
theorem realD_size {l : List UInt8} {p sg : Nat} {t : TokD} (hp : p + 1 + sg ≤ l.length) (h : realD l p sg = .ok t) : 1 ≤ t.size ∧ t.size ≤ l.length := by
  unfold realD at h
  split at h
  · cases h
    have h1 := digitsEnd_ge l (p + 1 + sg)
    have h2 := digitsEnd_le (l := l) (i := p + 1 + sg) hp
    exact ⟨by show 1 ≤ digitsEnd l (p + 1 + sg); omega, h2⟩
  · cases h
theorem numberD_size {l : List UInt8} {t : TokD} (hd : digitN (atL l 0) = true) (h : numberD l = .ok t) : 1 ≤ t.size ∧ t.size ≤ l.length := by
  have hlt := digitsEnd_lt hd
  have hle := digitsEnd_le (l := l) (i := 0) (by omega)
  unfold numberD at h
  split at h
  · rename_i hc
    exact realD_size (by have := (digitsEnd_step hc.2).2; omega) h
  · split at h
    · cases h; exact ⟨by show 1 ≤ digitsEnd l 0; omega, hle⟩
    · cases h
theorem textF_size (l : List UInt8) : ∀ (k i : Nat) (d q : List UInt8) (n : Nat), textF k l i d = some (q, n) → i + 1 ≤ n ∧ n ≤ l.length
  | 0, i, d, q, n, h => by cases h
  | k + 1, i, d, q, n, h => by
    rw [textF] at h
    split at h
    · cases h
    · rename_i hi
      split at h
      · cases h; omega
      · split at h
        · split at h
          · cases h
          · have := textF_size l k _ _ q n h; omega
        · split at h
          · cases h
          · have := textF_size l k _ _ q n h; omega
theorem textD_size {l : List UInt8} {t : TokD} (h : textD l = .ok t) : 1 ≤ t.size ∧ t.size ≤ l.length := by
  unfold textD at h
  split at h
  · cases h
  · rename_i d n hq
    cases h
    have := textF_size l _ _ _ _ _ hq
    exact ⟨by show 1 ≤ n; omega, this.2⟩
theorem headD_size {l : List UInt8} {t : TokD} (hl : 1 ≤ l.length) (h : headD l = .ok t) : 1 ≤ t.size ∧ t.size ≤ l.length := by
  unfold headD at h
  split at h
  · have := spanEnd_le (p := nameN) (l := l) (i := 1) hl
    split at h
    · cases h
    · cases h; exact this
  · split at h
    · rename_i hd; exact numberD_size hd h
    · split at h
      · exact textD_size h
      · split at h
        · cases h
        · cases h
          rename_i hm
          refine ⟨by show 1 ≤ markN l; omega, ?_⟩
          show markN l ≤ l.length
          unfold markN at *
          split
          · rename_i h1; omega
          · split <;> omega
theorem nextT_ge (l : List UInt8) (i : Nat) : i ≤ nextT l i := by unfold nextT; omega
/-- What the sequence tells: tokens with their places, each with its error. -/
def itemsF : Nat → List UInt8 → Nat → List ((TokD × Nat) × Int)
  | 0, _, _ => []
  | k + 1, l, i =>
    if l.length ≤ nextT l i then []
    else match headD (l.drop (nextT l i)) with
      | .error e => [((zeroT, nextT l i), e)]
      | .ok t => ((t, nextT l i), 0) :: itemsF k l (nextT l i + t.size)
def tokV (t : TokD) (pos : Nat) : Value := .agg #[.int .i64 t.kind, .string ⟨t.text.toArray⟩, .int .i64 t.int, .float .f64 t.real, .int .i64 pos, .int .i64 t.size]
theorem rel_tokV (t : TokD) (pos : Nat) (c : Cx) : rel (t.av pos) c (tokV t pos) := by
  simp only [TokD.av, tokA, tokV, rel, relL]
  refine ⟨_, rfl, ?_⟩
  exact ⟨_, _, rfl, rfl, _, _, rfl, rfl, _, _, rfl, rfl, _, _, rfl, rfl, _, _, rfl, rfl, _, _, rfl, rfl, rfl⟩
end Go.Proofs.YtlobiioioicmhaaGreatDoor
namespace Go.Proofs.YtlobiioioicmhaaGreatDoor
set_option linter.all false
open Go Go.Ev
theorem partF_esc (l : List UInt8) (p i : Nat) (hi : p + i < l.length) (h : atL l (p + i) = 92) : partF l (p + i) = escF ((l.drop p).drop i) := by
  have e : ∀ j, atL ((l.drop p).drop i) j = atL l (p + i + j) := fun j => by rw [atL_dropk, atL_dropk]; congr 1; omega
  have hlen : ((l.drop p).drop i).length = l.length - p - i := by rw [List.length_drop, List.length_drop]
  have h2 := fun j => atL_out (l := l) (i := j)
  unfold partF escF
  rw [e, e, e, hlen, if_neg (by omega), if_neg (by omega)]
  by_cases h1 : l.length < p + i + 2
  · rw [if_pos h1]
    have := h2 (p + i + 1) (by omega)
    rw [this, if_neg (by omega), if_neg (by omega)]
  · rw [if_neg h1]
    by_cases h34 : atL l (p + i + 1) = 34
    · rw [if_pos h34, if_pos (.inl h34), h34]
    · rw [if_neg h34]
      by_cases h92 : atL l (p + i + 1) = 92
      · rw [if_pos h92, if_pos (.inr h92), h92]
      · rw [if_neg h92, if_neg (show ¬ (atL l (p + i + 1) = 34 ∨ atL l (p + i + 1) = 92) by omega)]
        by_cases hx : atL l (p + i + 1) = 120 ∧ p + i + 4 ≤ l.length ∧ 0 ≤ hexN (atL l (p + i + 2)) ∧ 0 ≤ hexN (atL l (p + i + 3)) ∧ (escV (atL l (p + i + 2)) (atL l (p + i + 3)) < 32 ∨ 126 < escV (atL l (p + i + 2)) (atL l (p + i + 3)))
        · rw [if_pos hx, if_pos ⟨hx.1, by omega, hx.2.2⟩]
        · rw [if_neg hx, if_neg (fun q => hx ⟨q.1, by omega, q.2.2⟩)]
def textOut (l : List UInt8) (p : Nat) (q : List UInt8 × Nat) : Option (List UInt8 × Nat) :=
  if l.length ≤ q.2 ∨ atL l q.2 ≠ 34 ∨ 256 < q.1.length then none else some (q.1, q.2 + 1 - p)
theorem text_same (l : List UInt8) (p : Nat) : ∀ (k k' i : Nat) (d : List UInt8), l.length ≤ k + (p + i) → l.length ≤ k' + (p + i) → textF k' (l.drop p) i d = textOut l p (partsF k l (p + i) d)
  | 0, k', i, d, h1, h2 => by
    have e : textF k' (l.drop p) i d = none := by
      cases k' with
      | zero => rfl
      | succ k' => rw [textF, if_pos (by rw [List.length_drop]; omega)]
    rw [e, partsF, textOut, if_pos (.inl (by show l.length ≤ p + i; omega))]
  | k + 1, k', i, d, h1, h2 => by
    by_cases hi : l.length ≤ p + i
    · have e : textF k' (l.drop p) i d = none := by
        cases k' with
        | zero => rfl
        | succ k' => rw [textF, if_pos (by rw [List.length_drop]; omega)]
      have hp : partF l (p + i) = (0, 0) := by unfold partF; rw [if_pos (.inl hi)]
      rw [e, partsF, hp, if_pos rfl, textOut, if_pos (.inl hi)]
    · cases k' with
      | zero => omega
      | succ k' =>
        have ea : atL (l.drop p) i = atL l (p + i) := atL_dropk l p i
        rw [textF, ea, if_neg (by rw [List.length_drop]; omega)]
        by_cases h34 : atL l (p + i) = 34
        · have hp : partF l (p + i) = (0, 0) := by unfold partF; rw [if_pos (by omega)]
          rw [partsF, hp, if_pos rfl, textOut]
          by_cases hd : d.length ≤ 256
          · rw [if_pos ⟨h34, hd⟩, if_neg (by show ¬ (l.length ≤ p + i ∨ atL l (p + i) ≠ 34 ∨ 256 < d.length); omega)]
            show some (d, i + 1) = some (d, p + i + 1 - p)
            congr 2; omega
          · rw [if_neg (by omega), if_neg (by omega), if_pos (.inl h34), if_pos (by show l.length ≤ p + i ∨ atL l (p + i) ≠ 34 ∨ 256 < d.length; omega)]
        · rw [if_neg (by omega)]
          by_cases h92 : atL l (p + i) = 92
          · rw [if_pos h92, partsF, partF_esc l p i (by omega) h92]
            by_cases h0 : (escF ((l.drop p).drop i)).2 = 0
            · rw [if_pos h0, if_pos h0, textOut, if_pos (.inr (.inl h34))]
            · rw [if_neg h0, if_neg h0]
              have := text_same l p k k' (i + (escF ((l.drop p).drop i)).2) (d ++ [UInt8.ofNat (escF ((l.drop p).drop i)).1]) (by omega) (by omega)
              rw [this, Nat.add_assoc]
          · rw [if_neg h92]
            by_cases hc : atL l (p + i) < 32 ∨ 126 < atL l (p + i)
            · have hp : partF l (p + i) = (0, 0) := by unfold partF; rw [if_pos (by omega)]
              rw [if_pos (by omega), partsF, hp, if_pos rfl, textOut, if_pos (.inr (.inl h34))]
            · have hp : partF l (p + i) = (atL l (p + i), 1) := by unfold partF; rw [if_neg (by omega), if_pos h92]
              rw [if_neg (by omega), partsF, hp, if_neg (by show ¬ (1 = 0); omega)]
              have := text_same l p k k' (i + 1) (d ++ [UInt8.ofNat (atL l (p + i))]) (by omega) (by omega)
              rw [this, Nat.add_assoc]
def resTP (p : Nat) : Except Int TokD → AV
  | .ok t => okTok (t.av p)
  | .error e => errTok e
theorem refText_av (l : List UInt8) (p : Nat) (hp : p < l.length) : refTextR l p (partsF l.length l (p + 1) []) = resTP p (textD (l.drop p)) := by
  have h := text_same l p l.length (l.drop p).length 1 [] (by omega) (by rw [List.length_drop]; omega)
  unfold textD
  rw [h]
  unfold refTextR textOut
  by_cases hc : l.length ≤ (partsF l.length l (p + 1) []).2 ∨ atL l (partsF l.length l (p + 1) []).2 ≠ 34 ∨ 256 < (partsF l.length l (p + 1) []).1.length
  · rw [if_pos hc, if_pos hc]; rfl
  · rw [if_neg hc, if_neg hc]; rfl
end Go.Proofs.YtlobiioioicmhaaGreatDoor
namespace Go.Proofs.YtlobiioioicmhaaGreatDoor
set_option linter.all false
open Go Go.Ev
theorem mark1' : ∀ n, n < 256 → marksL.contains [n.toUInt8] = decide (0 ≤ Lib.indexByte sglL n.toUInt8) := by decide +kernel
theorem mark1 (a : UInt8) : marksL.contains [a] = decide (0 ≤ Lib.indexByte sglL a) := by
  have := mark1' a.toNat a.toNat_lt
  simpa using this
theorem mark2 (a b : UInt8) (ha : a ≠ 32) (hb : b ≠ 32) : marksL.contains [a, b] = hasSub dblL [a, b] := by
  rw [Bool.eq_iff_iff]
  rw [List.contains_iff_mem]
  simp only [marksL, dblL, hasSub, List.isPrefixOf, List.mem_cons, List.cons.injEq, Bool.or_eq_true, Bool.and_eq_true, beq_iff_eq, List.isEmpty, Bool.and_true, Bool.or_false, List.not_mem_nil, reduceCtorEq, and_false, and_true, or_false, false_or]
  grind
theorem mark2s (a b : UInt8) (h : a = 32 ∨ b = 32) : marksL.contains [a, b] = false := by
  rw [← Bool.not_eq_true, List.contains_iff_mem]
  simp only [marksL, List.mem_cons, List.cons.injEq, List.not_mem_nil, reduceCtorEq, and_false, and_true, or_false, false_or]
  grind
end Go.Proofs.YtlobiioioicmhaaGreatDoor
