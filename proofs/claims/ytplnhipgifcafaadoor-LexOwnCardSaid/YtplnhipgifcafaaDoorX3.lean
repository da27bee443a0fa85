/- A part of the proof. -/
import Derived.Test.YtplnhipgifcafaaDoorX2
import Derived.Great.BuildSlice
import Derived.Lib.SlBytesConst
namespace Go.Proofs.YtplnhipgifcafaaDoor
set_option linter.all false
open Go Go.Ev
variable {γ : List (Nat × AV)}
theorem ub_shr4b (c : UInt8) : ((c.toNat : Int)).fdiv (2 ^ min 4 IntKind.u8.bits) = ((c.toNat / 16 : Nat) : Int) := ub_shr4 c
def hexL : List UInt8 := [48, 49, 50, 51, 52, 53, 54, 55, 56, 57, 97, 98, 99, 100, 101, 102]
def esc (c : UInt8) : List UInt8 := if c = 34 ∨ c = 92 then [92, c] else if c < 32 ∨ 126 < c then [92, 120, hexL.getD (c.toNat / 16) 0, hexL.getD (c.toNat % 16) 0] else [c]
def quoteB (l : List UInt8) : List UInt8 := 34 :: l.flatMap esc
theorem quoteB_snoc (l : List UInt8) (x : UInt8) : quoteB (l ++ [x]) = quoteB l ++ esc x := by simp [quoteB]
theorem esc_len (x : UInt8) : (esc x).length ≤ 4 := by
  unfold esc
  split
  · simp
  · split <;> simp
theorem quoteB_len (l : List UInt8) : (quoteB l).length ≤ 1 + 4 * l.length := by
  induction l with
  | nil => simp [quoteB]
  | cons x l ih => simp only [quoteB, List.flatMap_cons, List.length_cons, List.length_append] at *; have := esc_len x; omega
theorem esc1 {c : UInt8} (h : c.toNat = 34 ∨ c.toNat = 92) : esc c = [92, c] := by
  unfold esc; rw [if_pos]
  rcases h with h | h
  · exact .inl (by rw [← UInt8.toNat_inj, h]; rfl)
  · exact .inr (by rw [← UInt8.toNat_inj, h]; rfl)
theorem esc_n {c : UInt8} (h : ¬ (c.toNat = 34 ∨ c.toNat = 92)) : ¬ (c = 34 ∨ c = 92) := fun e => h (by rcases e with rfl | rfl; exact .inl rfl; exact .inr rfl)
theorem esc2 {c : UInt8} (h : ¬ (c.toNat = 34 ∨ c.toNat = 92)) (h2 : c.toNat < 32 ∨ 126 < c.toNat) : esc c = [92, 120, hexL.getD (c.toNat / 16) 0, hexL.getD (c.toNat % 16) 0] := by
  unfold esc; rw [if_neg (esc_n h), if_pos]
  simpa [UInt8.lt_iff_toNat_lt] using h2
theorem esc3 {c : UInt8} (h : ¬ (c.toNat = 34 ∨ c.toNat = 92)) (h2 : ¬ (c.toNat < 32 ∨ 126 < c.toNat)) : esc c = [c] := by
  unfold esc; rw [if_neg (esc_n h), if_neg]
  simpa [UInt8.lt_iff_toNat_lt] using h2
theorem strOf_34 (q : List UInt8) : strOf (List.take (q.length + 1) (q.map byteC ++ [.v (.int .u8 34)])) = some (.v (.string ⟨(q ++ [34]).toArray⟩)) := by
  have : q.map byteC ++ [.v (.int .u8 34)] = (q ++ [34]).map byteC := by simp [byteC]
  rw [this, List.take_of_length_le (by simp), strOf_map]
def quoteR (l : List UInt8) : AV := if 256 < l.length then .tup [.v (.string ⟨#[]⟩), .v (.int .i64 3)] else .tup [.v (.string ⟨(quoteB l ++ [34]).toArray⟩), .v (.int .i64 0)]
theorem quote_ev (l : List UInt8) : Ev Tryd.prog γ 22 [.v (.string ⟨l.toArray⟩)] (quoteR l) := by
  refine Ev.of Tryd.func22 rfl ?_
  by_cases hl : 256 < l.length
  · have e : quoteR l = .tup [.v (.string ⟨#[]⟩), .v (.int .i64 3)] := by simp only [quoteR, if_pos hl]
    rw [e]
    simp only [Tryd.f22, evS, tyS, Bool.not_true, Bool.not_false, Nat.reduceAdd, Nat.reduceSub, Nat.reduceMul, Nat.reduceLT, Nat.reduceLeDiff, Nat.reduceEqDiff, reduceCtorEq, List.reduceReplicate, Int.reduceToNat, Int.reduceLE, Int.reduceLT]
    (repeat' (first | (with_reducible refine And.intro ?_ ?_) | ((first | refine GuardK.intro_f (fun h => ?_) (fun h => ?_) | refine GuardK.intro_t (fun h => ?_) (fun h => ?_) | refine CondK.intro (fun h => ?_) (fun h => ?_) | refine PickK.intro (fun h => ?_) (fun h => ?_)) <;> simp only [h, evS, tyS, Bool.not_true, Bool.not_false, Nat.reduceAdd, Nat.reduceSub, Nat.reduceMul, Nat.reduceLT, Nat.reduceLeDiff, Nat.reduceEqDiff, reduceCtorEq, List.reduceReplicate, Int.reduceToNat, Int.reduceLE, Int.reduceLT]) | (refine DrawK.intro (by kernel_rfl) (by kernel_rfl) ?_; simp only [evS, tyS, Bool.not_true, Bool.not_false, Nat.reduceAdd, Nat.reduceSub, Nat.reduceMul, Nat.reduceLT, Nat.reduceLeDiff, Nat.reduceEqDiff, reduceCtorEq, List.reduceReplicate, Int.reduceToNat, Int.reduceLE, Int.reduceLT])))
    all_goals first | rfl | skip
    ((try simp only [decide_eq_true_eq, decide_eq_false_iff_not, beq_iff_eq, bne_iff_ne, ne_eq, beq_eq_false_iff_ne, bne_eq_false_iff_eq] at *) <;> (try omega))
  · have e : quoteR l = .tup [.v (.string ⟨(quoteB l ++ [34]).toArray⟩), .v (.int .i64 0)] := by simp only [quoteR, if_neg hl]
    rw [e]
    simp only [Tryd.f22, evS, tyS, Bool.not_true, Bool.not_false, Nat.reduceAdd, Nat.reduceSub, Nat.reduceMul, Nat.reduceLT, Nat.reduceLeDiff, Nat.reduceEqDiff, reduceCtorEq, List.reduceReplicate, Int.reduceToNat, Int.reduceLE, Int.reduceLT]
    (repeat' (first | (with_reducible refine And.intro ?_ ?_) | ((first | refine GuardK.intro_f (fun h => ?_) (fun h => ?_) | refine GuardK.intro_t (fun h => ?_) (fun h => ?_) | refine CondK.intro (fun h => ?_) (fun h => ?_) | refine PickK.intro (fun h => ?_) (fun h => ?_)) <;> simp only [h, evS, tyS, Bool.not_true, Bool.not_false, Nat.reduceAdd, Nat.reduceSub, Nat.reduceMul, Nat.reduceLT, Nat.reduceLeDiff, Nat.reduceEqDiff, reduceCtorEq, List.reduceReplicate, Int.reduceToNat, Int.reduceLE, Int.reduceLT]) | (refine DrawK.intro (by kernel_rfl) (by kernel_rfl) ?_; simp only [evS, tyS, Bool.not_true, Bool.not_false, Nat.reduceAdd, Nat.reduceSub, Nat.reduceMul, Nat.reduceLT, Nat.reduceLeDiff, Nat.reduceEqDiff, reduceCtorEq, List.reduceReplicate, Int.reduceToNat, Int.reduceLE, Int.reduceLT])))
    · ((try simp only [decide_eq_true_eq, decide_eq_false_iff_not, beq_iff_eq, bne_iff_ne, ne_eq, beq_eq_false_iff_ne, bne_eq_false_iff_eq] at *) <;> (try omega))
    · ((try simp only [decide_eq_true_eq, decide_eq_false_iff_not, beq_iff_eq, bne_iff_ne, ne_eq, beq_eq_false_iff_ne, bne_eq_false_iff_eq] at *) <;> (try omega))
    · refine LoopK.intro (fun j : Nat => ⟨⟨55, [(0, .v (.string ⟨l.toArray⟩)), (13, .v (.int .i64 j)), (12, .v (.int .i64 l.length)), (4, .own 0 j (quoteB (l.take j)).length), (3, .v (.int .i64 0))], γ⟩, [⟨j, 5, (quoteB (l.take j)).map byteC⟩]⟩) (fun j => j ≤ l.length) (fun j => l.length - j) 0 ?_ (Nat.zero_le _) (fun j hj => ?_)
      · simp only [evS, tyS, Bool.not_true, Bool.not_false, Nat.reduceAdd, Nat.reduceSub, Nat.reduceMul, Nat.reduceLT, Nat.reduceLeDiff, Nat.reduceEqDiff, reduceCtorEq, List.reduceReplicate, Int.reduceToNat, Int.reduceLE, Int.reduceLT]
        (repeat' (first | (with_reducible refine And.intro ?_ ?_) | ((first | refine GuardK.intro_f (fun h => ?_) (fun h => ?_) | refine GuardK.intro_t (fun h => ?_) (fun h => ?_) | refine CondK.intro (fun h => ?_) (fun h => ?_) | refine PickK.intro (fun h => ?_) (fun h => ?_)) <;> simp only [h, evS, tyS, Bool.not_true, Bool.not_false, Nat.reduceAdd, Nat.reduceSub, Nat.reduceMul, Nat.reduceLT, Nat.reduceLeDiff, Nat.reduceEqDiff, reduceCtorEq, List.reduceReplicate, Int.reduceToNat, Int.reduceLE, Int.reduceLT]) | (refine DrawK.intro (by kernel_rfl) (by kernel_rfl) ?_; simp only [evS, tyS, Bool.not_true, Bool.not_false, Nat.reduceAdd, Nat.reduceSub, Nat.reduceMul, Nat.reduceLT, Nat.reduceLeDiff, Nat.reduceEqDiff, reduceCtorEq, List.reduceReplicate, Int.reduceToNat, Int.reduceLE, Int.reduceLT])))
        all_goals first | rfl | exact .inl rfl
      · have hq := quoteB_len (l.take j)
        have hl2 : (l.take j).length = j := by rw [List.length_take]; omega
        have hc256 := (l.getD j 0).toNat_lt
        simp only [evS, tyS, Bool.not_true, Bool.not_false, Nat.reduceAdd, Nat.reduceSub, Nat.reduceMul, Nat.reduceLT, Nat.reduceLeDiff, Nat.reduceEqDiff, reduceCtorEq, List.reduceReplicate, Int.reduceToNat, Int.reduceLE, Int.reduceLT]
        (repeat' (first | (with_reducible refine And.intro ?_ ?_) | ((first | refine GuardK.intro_f (fun h => ?_) (fun h => ?_) | refine GuardK.intro_t (fun h => ?_) (fun h => ?_) | refine CondK.intro (fun h => ?_) (fun h => ?_) | refine PickK.intro (fun h => ?_) (fun h => ?_)) <;> simp only [h, ub_shr4, ub_shr4b, ub_and15, ub_div16, ub_mod16, evS, tyS, Bool.not_true, Bool.not_false, Nat.reduceAdd, Nat.reduceSub, Nat.reduceMul, Nat.reduceLT, Nat.reduceLeDiff, Nat.reduceEqDiff, reduceCtorEq, List.reduceReplicate, Int.reduceToNat, Int.reduceLE, Int.reduceLT]) | (refine DrawK.intro (by kernel_rfl) (by kernel_rfl) ?_; simp only [ub_shr4, ub_shr4b, ub_and15, ub_div16, ub_mod16, evS, tyS, Bool.not_true, Bool.not_false, Nat.reduceAdd, Nat.reduceSub, Nat.reduceMul, Nat.reduceLT, Nat.reduceLeDiff, Nat.reduceEqDiff, reduceCtorEq, List.reduceReplicate, Int.reduceToNat, Int.reduceLE, Int.reduceLT])))
        all_goals try (first | (((try simp only [decide_eq_true_eq, decide_eq_false_iff_not, beq_iff_eq, bne_iff_ne, ne_eq, beq_eq_false_iff_ne, bne_eq_false_iff_eq] at *) <;> (try omega)); done) | rfl)
        · ((try simp only [decide_eq_true_eq, decide_eq_false_iff_not, beq_iff_eq, bne_iff_ne, ne_eq, beq_eq_false_iff_ne, bne_eq_false_iff_eq] at *) <;> (try omega))
          have hE := esc1 (c := l.getD j 0) (by omega)
          have hj' : j < l.length := by omega
          have ew : IntKind.i64.wrap ((j : Int) + 1) = ((j + 1 : Nat) : Int) := by rw [i64w] <;> omega
          refine loopC.intro (j + 1) hj' ?_ (by omega)
          refine ⟨rfl, rfl, ?_, .inr ⟨?_, ?_, ?_⟩⟩ <;> simp only [ew, take_snoc hj', quoteB_snoc, hE, List.map_append, okRefL, okRef, okRefB, okRefL_map, okRefL_append, Bool.and_self, decide_true, List.take_succ_cons, byteC, ub_shr4, ub_and15, ub_div16, ub_mod16, evS, tyS, Bool.not_true, Bool.not_false, Nat.reduceAdd, Nat.reduceSub, Nat.reduceMul, Nat.reduceLT, Nat.reduceLeDiff, Nat.reduceEqDiff, reduceCtorEq, List.reduceReplicate, Int.reduceToNat, Int.reduceLE, Int.reduceLT] <;> try (first | rfl | trivial | (simp [byteC, hexL]; done))
        · ((try simp only [decide_eq_true_eq, decide_eq_false_iff_not, beq_iff_eq, bne_iff_ne, ne_eq, beq_eq_false_iff_ne, bne_eq_false_iff_eq] at *) <;> (try omega))
          have hE := esc2 (c := l.getD j 0) (by omega) (by omega)
          have hj' : j < l.length := by omega
          have ew : IntKind.i64.wrap ((j : Int) + 1) = ((j + 1 : Nat) : Int) := by rw [i64w] <;> omega
          refine loopC.intro (j + 1) hj' ?_ (by omega)
          refine ⟨rfl, rfl, ?_, .inr ⟨?_, ?_, ?_⟩⟩ <;> simp only [ew, take_snoc hj', quoteB_snoc, hE, List.map_append, okRefL, okRef, okRefB, okRefL_map, okRefL_append, Bool.and_self, decide_true, List.take_succ_cons, byteC, ub_shr4, ub_and15, ub_div16, ub_mod16, evS, tyS, Bool.not_true, Bool.not_false, Nat.reduceAdd, Nat.reduceSub, Nat.reduceMul, Nat.reduceLT, Nat.reduceLeDiff, Nat.reduceEqDiff, reduceCtorEq, List.reduceReplicate, Int.reduceToNat, Int.reduceLE, Int.reduceLT] <;> try (first | rfl | trivial | (simp [byteC, hexL]; done))
        · ((try simp only [decide_eq_true_eq, decide_eq_false_iff_not, beq_iff_eq, bne_iff_ne, ne_eq, beq_eq_false_iff_ne, bne_eq_false_iff_eq] at *) <;> (try omega))
          have hE := esc3 (c := l.getD j 0) (by omega) (by omega)
          have hj' : j < l.length := by omega
          have ew : IntKind.i64.wrap ((j : Int) + 1) = ((j + 1 : Nat) : Int) := by rw [i64w] <;> omega
          refine loopC.intro (j + 1) hj' ?_ (by omega)
          refine ⟨rfl, rfl, ?_, .inr ⟨?_, ?_, ?_⟩⟩ <;> simp only [ew, take_snoc hj', quoteB_snoc, hE, List.map_append, okRefL, okRef, okRefB, okRefL_map, okRefL_append, Bool.and_self, decide_true, List.take_succ_cons, byteC, ub_shr4, ub_and15, ub_div16, ub_mod16, evS, tyS, Bool.not_true, Bool.not_false, Nat.reduceAdd, Nat.reduceSub, Nat.reduceMul, Nat.reduceLT, Nat.reduceLeDiff, Nat.reduceEqDiff, reduceCtorEq, List.reduceReplicate, Int.reduceToNat, Int.reduceLE, Int.reduceLT] <;> try (first | rfl | trivial | (simp [byteC, hexL]; done))
        · ((try simp only [decide_eq_true_eq, decide_eq_false_iff_not, beq_iff_eq, bne_iff_ne, ne_eq, beq_eq_false_iff_ne, bne_eq_false_iff_eq] at *) <;> (try omega))
          have hE := esc2 (c := l.getD j 0) (by omega) (by omega)
          have hj' : j < l.length := by omega
          have ew : IntKind.i64.wrap ((j : Int) + 1) = ((j + 1 : Nat) : Int) := by rw [i64w] <;> omega
          refine loopC.intro (j + 1) hj' ?_ (by omega)
          refine ⟨rfl, rfl, ?_, .inr ⟨?_, ?_, ?_⟩⟩ <;> simp only [ew, take_snoc hj', quoteB_snoc, hE, List.map_append, okRefL, okRef, okRefB, okRefL_map, okRefL_append, Bool.and_self, decide_true, List.take_succ_cons, byteC, ub_shr4, ub_and15, ub_div16, ub_mod16, evS, tyS, Bool.not_true, Bool.not_false, Nat.reduceAdd, Nat.reduceSub, Nat.reduceMul, Nat.reduceLT, Nat.reduceLeDiff, Nat.reduceEqDiff, reduceCtorEq, List.reduceReplicate, Int.reduceToNat, Int.reduceLE, Int.reduceLT] <;> try (first | rfl | trivial | (simp [byteC, hexL]; done))
        · ((try simp only [decide_eq_true_eq, decide_eq_false_iff_not, beq_iff_eq, bne_iff_ne, ne_eq, beq_eq_false_iff_ne, bne_eq_false_iff_eq] at *) <;> (try omega))
          have hE := esc1 (c := l.getD j 0) (by omega)
          have hj' : j < l.length := by omega
          have ew : IntKind.i64.wrap ((j : Int) + 1) = ((j + 1 : Nat) : Int) := by rw [i64w] <;> omega
          refine loopC.intro (j + 1) hj' ?_ (by omega)
          refine ⟨rfl, rfl, ?_, .inr ⟨?_, ?_, ?_⟩⟩ <;> simp only [ew, take_snoc hj', quoteB_snoc, hE, List.map_append, okRefL, okRef, okRefB, okRefL_map, okRefL_append, Bool.and_self, decide_true, List.take_succ_cons, byteC, ub_shr4, ub_and15, ub_div16, ub_mod16, evS, tyS, Bool.not_true, Bool.not_false, Nat.reduceAdd, Nat.reduceSub, Nat.reduceMul, Nat.reduceLT, Nat.reduceLeDiff, Nat.reduceEqDiff, reduceCtorEq, List.reduceReplicate, Int.reduceToNat, Int.reduceLE, Int.reduceLT] <;> try (first | rfl | trivial | (simp [byteC, hexL]; done))
        · have ej : l.take j = l := by rw [List.take_of_length_le]; ((try simp only [decide_eq_true_eq, decide_eq_false_iff_not, beq_iff_eq, bne_iff_ne, ne_eq, beq_eq_false_iff_ne, bne_eq_false_iff_eq] at *) <;> (try omega))
          rw [ej]
          simp only [strOf_34, evS, tyS, Bool.not_true, Bool.not_false, Nat.reduceAdd, Nat.reduceSub, Nat.reduceMul, Nat.reduceLT, Nat.reduceLeDiff, Nat.reduceEqDiff, reduceCtorEq, List.reduceReplicate, Int.reduceToNat, Int.reduceLE, Int.reduceLT]
          (repeat' (first | (with_reducible refine And.intro ?_ ?_) | ((first | refine GuardK.intro_f (fun h => ?_) (fun h => ?_) | refine GuardK.intro_t (fun h => ?_) (fun h => ?_) | refine CondK.intro (fun h => ?_) (fun h => ?_) | refine PickK.intro (fun h => ?_) (fun h => ?_)) <;> simp only [h, evS, tyS, Bool.not_true, Bool.not_false, Nat.reduceAdd, Nat.reduceSub, Nat.reduceMul, Nat.reduceLT, Nat.reduceLeDiff, Nat.reduceEqDiff, reduceCtorEq, List.reduceReplicate, Int.reduceToNat, Int.reduceLE, Int.reduceLT]) | (refine DrawK.intro (by kernel_rfl) (by kernel_rfl) ?_; simp only [evS, tyS, Bool.not_true, Bool.not_false, Nat.reduceAdd, Nat.reduceSub, Nat.reduceMul, Nat.reduceLT, Nat.reduceLeDiff, Nat.reduceEqDiff, reduceCtorEq, List.reduceReplicate, Int.reduceToNat, Int.reduceLE, Int.reduceLT])))
          all_goals first | (((try simp only [decide_eq_true_eq, decide_eq_false_iff_not, beq_iff_eq, bne_iff_ne, ne_eq, beq_eq_false_iff_ne, bne_eq_false_iff_eq] at *) <;> (try omega)); done) | rfl
end Go.Proofs.YtplnhipgifcafaaDoor
namespace Go.Proofs.YtplnhipgifcafaaDoor
set_option linter.all false
open Go Go.Ev Go.RowKit
variable {γ : List (Nat × AV)}
def awk1 : List UInt8 := [97, 49, 32, 53, 112, 45, 49, 45, 62]
def awk2 : List UInt8 := [97, 32, 48, 55]
def awkL : List (TokD × Nat) := [(⟨1, [97, 49], 0, 0, 2⟩, 0), (⟨3, [], 0, 4612811918334230528, 4⟩, 3), (⟨5, [45, 62], 0, 0, 2⟩, 7)]
theorem awk1_scan : scanA awk1 = .tup [listA awkL, .v (.int .i64 0), .v (.int .i64 0)] := by kernel_rfl
theorem awk2_scan : scanA awk2 = .tup [.v (.slice none 0 0), .v (.int .i64 2), .v (.int .i64 12)] := by kernel_rfl
theorem awkQ : quoteR [97, 10] = .tup [.v (.string ⟨#[34, 97, 92, 120, 48, 97, 34]⟩), .v (.int .i64 0)] := by kernel_rfl
theorem val_wpIn2 {r : Option Nat} {n : Nat} {P : Program} {o : Oper} {a : Act} {w w' : World} {v : Value} {N : Act → World → Prop} {Q : Exit → Act → World → Prop} (hnd : nd o = true)
    (hrun : (execOp a.eval o).run P w = .ok (.value v) w') (h : N (a.put o.dst v) w') : o.wpIn (Fr r) n P a w N Q := by
  refine operIn (N := N) hnd (fun _ _ h => h) ?_
  unfold Oper.wp
  rw [hrun]
  exact h
def byV (b : UInt8) : Value := .int .u8 b.toNat
theorem relL_byV (c : Cx) : ∀ l : List UInt8, relL (l.map byteC) c (l.map byV)
  | [] => by simp only [List.map_nil, relL]
  | b :: l => by
    simp only [List.map_cons, relL, byteC, rel]
    exact ⟨_, _, rfl, rfl, relL_byV c l⟩
theorem conv_run {a : Act} {w : World} {t n : Nat} {C : Array Value} {d : Option Tmp} {ty : TypeId} {pos : String} {af : Array Edge} {g : Option (Nat × Bool)} (h : a.tmps.getD t undef = .slice (some ⟨w.heap.size, 0, none⟩) n n) :
    (execOp a.eval ⟨d, .convert 22 22 (.tmp t), ty, pos, af, g⟩).run Tryd.prog (w.alloc (.cells C 5)) = .ok (.value (.slice (some ⟨w.heap.size, 0, none⟩) n n)) (w.alloc (.cells C 5 (C.size, C.size + 1))) := by
  have e : a.eval (.tmp t) = .slice (some ⟨w.heap.size, 0, none⟩) n n := h
  have hr := Lib.run_convert_bytes_const (P := Tryd.prog) w 22 5 C n n Tryd.underlying22 Tryd.underlying5
  unfold execOp
  simp only [e, Sem.run_bind, hr]
  rfl
/-- The blocks behind a constant's row of bytes. -/
theorem lit_sr {X : Fix} {φ : List Nat} {S : Slots} {H : List ABlk} {a : Act} {w : World} (hP : X.P = Tryd.prog) (hs : SR X φ ⟨S, H⟩ a w) (l : List UInt8) (d0 d1 : Nat) :
    SR X (φ ++ [w.heap.size]) ⟨putS (putS S (some d0) (.own H.length 0 l.length)) (some d1) (.own H.length 0 l.length), H ++ [⟨0, 5, l.map byteC⟩]⟩
      ((a.put (some d0) (.slice (some ⟨w.heap.size, 0, none⟩) l.length l.length)).put (some d1) (.slice (some ⟨w.heap.size, 0, none⟩) l.length l.length)) (w.alloc (.cells (l.map byV).toArray 5 ((l.map byV).toArray.size, (l.map byV).toArray.size + 1))) := by
  obtain ⟨hp, _⟩ := hs.push (vs := (l.map byV).toArray) (e := 5) (fr := ((l.map byV).toArray.size, (l.map byV).toArray.size + 1)) (cells := l.map byteC) (ver := 0)
    (by rw [List.take_of_length_le (by simp)]; exact relL_byV _ l) (fun off ho => by simp only; omega)
  have hr : rel (.own H.length 0 l.length) (cx X (φ ++ [w.heap.size]) (H ++ [⟨0, 5, l.map byteC⟩]) (w.alloc (.cells (l.map byV).toArray 5 ((l.map byV).toArray.size, (l.map byV).toArray.size + 1)))) (.slice (some ⟨w.heap.size, 0, none⟩) l.length l.length) := by
    simp only [rel]
    refine ⟨⟨0, 5, l.map byteC⟩, w.heap.size, curOf_eq.2 ⟨by simp, by rw [← show φ.length = H.length from hs.φlen]; simp⟩, Nat.le_refl _, ⟨_, _, _, rfl⟩, fun _ => ⟨l.length, rfl, Nat.le_refl _, ?_⟩⟩
    have hc5 : (cx X (φ ++ [w.heap.size]) (H ++ [⟨0, 5, l.map byteC⟩]) (w.alloc (.cells (l.map byV).toArray 5 ((l.map byV).toArray.size, (l.map byV).toArray.size + 1)))).P.cellsOf 5 = 1 := by show X.P.cellsOf 5 = 1; rw [hP]; exact c5
    rw [hc5, Nat.mul_one]
    show World.shape? (w.alloc (.cells (l.map byV).toArray 5 ((l.map byV).toArray.size, (l.map byV).toArray.size + 1))) w.heap.size = some (5, l.length)
    unfold World.shape?
    rw [Go.Ev.heap_alloc_new]
    simp
  exact (hp.put (some d0) hr).put (some d1) hr
def awkEndQ : Post
  | .ret, s => endS Tryd.prog [.tmp 0] (.v (.bool true)) .ret s
  | _, _ => False
theorem awkEndQ_ret (s : St) : awkEndQ .ret s = endS Tryd.prog [.tmp 0] (.v (.bool true)) .ret s := rfl
theorem put_get {a : Act} {d : Nat} {v : Value} (h : d < a.tmps.size) : (a.put (some d) v).tmps.getD d undef = v := by simp [Act.put, h]
theorem b19 : bodyT Tryd.prog 19 := ⟨_, Tryd.func19, by kernel_rfl, by kernel_rfl⟩
theorem b22 : bodyT Tryd.prog 22 := ⟨_, Tryd.func22, by kernel_rfl, by kernel_rfl⟩
set_option maxHeartbeats 4000000 in
set_option maxRecDepth 20000 in
theorem awake_ev (hγ : Gl γ) (hγ2 : GlW γ) : Ev Tryd.prog γ 19 [] (.v (.bool true)) := by
  refine Ev.of_wpM Tryd.func19 rfl ?_
  intro X hP hc0 hXK hXdf a w hs
  have hnt : Tryd.f19.ntmps = 94 := by kernel_rfl
  rw [hnt] at hs
  refine wpIn_seq (pieceP hP (r := none) ⟨⟨94, [], γ⟩, []⟩ (by kernel_rfl) hc0 hs ?_ fun φ1 a1 w1 h1 => ?_)
  · simp only [startA, idxL, wkQ_normal, evS, tyS, Bool.not_true, Bool.not_false, Nat.reduceAdd, Nat.reduceSub, Nat.reduceMul, Nat.reduceLT, Nat.reduceLeDiff, Nat.reduceEqDiff, reduceCtorEq, List.reduceReplicate, Int.reduceToNat, Int.reduceLE, Int.reduceLT]
    (repeat' (first | (with_reducible refine And.intro ?_ ?_) | ((first | refine GuardK.intro_f (fun h => ?_) (fun h => ?_) | refine GuardK.intro_t (fun h => ?_) (fun h => ?_) | refine CondK.intro (fun h => ?_) (fun h => ?_) | refine PickK.intro (fun h => ?_) (fun h => ?_)) <;> simp only [h, evS, tyS, Bool.not_true, Bool.not_false, Nat.reduceAdd, Nat.reduceSub, Nat.reduceMul, Nat.reduceLT, Nat.reduceLeDiff, Nat.reduceEqDiff, reduceCtorEq, List.reduceReplicate, Int.reduceToNat, Int.reduceLE, Int.reduceLT]) | (refine DrawK.intro (by kernel_rfl) (by kernel_rfl) ?_; simp only [evS, tyS, Bool.not_true, Bool.not_false, Nat.reduceAdd, Nat.reduceSub, Nat.reduceMul, Nat.reduceLT, Nat.reduceLeDiff, Nat.reduceEqDiff, reduceCtorEq, List.reduceReplicate, Int.reduceToNat, Int.reduceLE, Int.reduceLT])))
    all_goals first | done | rfl | exact .inl rfl | trace_state
  refine wpIn_seq (wpIn_region ?_)
  show wpOpsIn (Fr none) 0 Tryd.prog _ _ (0 :: 1 :: ([2, 3, 4, 5, 6, 7, 8, 9] ++ [])) a1 w1
  rw [wpOpsIn_cons]
  refine wpOpIn_some rfl rfl (val_wpIn2 (v := .slice (some ⟨w1.heap.size, 0, none⟩) 9 9) (w' := w1.alloc (.cells (awk1.map byV).toArray 5)) rfl ?_ ?_)
  · kernel_rfl
  rw [wpOpsIn_cons]
  refine wpOpIn_some rfl rfl (val_wpIn2 (v := .slice (some ⟨w1.heap.size, 0, none⟩) 9 9) (w' := w1.alloc (.cells (awk1.map byV).toArray 5 ((awk1.map byV).toArray.size, (awk1.map byV).toArray.size + 1))) rfl (conv_run ?_) ?_)
  · have hz : a1.tmps.size = 94 := h1.len
    exact put_get (by rw [hz]; decide)
  have k16 := lexScan_ev hγ hγ2 true awk1 (by decide)
  rw [awk1_scan] at k16
  have k16b := lexScan_ev hγ hγ2 true awk2 (by decide)
  rw [awk2_scan] at k16b
  have k22 := quote_ev (γ := γ) [97, 10]
  rw [awkQ] at k22
  have h2 : SR X (φ1 ++ [w1.heap.size]) ⟨⟨94, [(11, .own 0 0 9), (10, .own 0 0 9)], γ⟩, [⟨0, 5, awk1.map byteC⟩]⟩ ((a1.put (some 10) (.slice (some ⟨w1.heap.size, 0, none⟩) 9 9)).put (some 11) (.slice (some ⟨w1.heap.size, 0, none⟩) 9 9)) _ := lit_sr hP h1 awk1 10 11
  show wpOpsIn (Fr none) 0 Tryd.prog _ _ ([2, 3, 4, 5, 6, 7, 8, 9] ++ []) ((a1.put (some 10) (.slice (some ⟨w1.heap.size, 0, none⟩) 9 9)).put (some 11) (.slice (some ⟨w1.heap.size, 0, none⟩) 9 9)) _
  generalize ((a1.put (some 10) (.slice (some ⟨w1.heap.size, 0, none⟩) 9 9)).put (some 11) (.slice (some ⟨w1.heap.size, 0, none⟩) 9 9)) = a2 at h2 ⊢
  generalize (w1.alloc (.cells (awk1.map byV).toArray 5 ((awk1.map byV).toArray.size, (awk1.map byV).toArray.size + 1))) = w2 at h2 ⊢
  refine wpOpsIn_split _ _ _ _ (opsP hP ⟨⟨94, [(1, listA awkL), (2, .v (.int .i64 0)), (3, .v (.int .i64 0))], γ⟩, []⟩ (by kernel_rfl) hc0 [_, _, _, _, _, _, _, _] [2, 3, 4, 5, 6, 7, 8, 9] rfl h2 ?_ fun φ3 a3 w3 h3 => ?_)
  · simp only [List.getElem_toArray, List.getElem_cons_zero, List.getElem_cons_succ, evS, tyS, Bool.not_true, Bool.not_false, Nat.reduceAdd, Nat.reduceSub, Nat.reduceMul, Nat.reduceLT, Nat.reduceLeDiff, Nat.reduceEqDiff, reduceCtorEq, List.reduceReplicate, Int.reduceToNat, Int.reduceLE, Int.reduceLT]
    refine CallK.lend b16 [.sl true 9 9 (awk1.map byteC)] ?_ k16 (by simp [noBor, noBorL, noBor_list]) ?_
    · simp only [fzL_cons, fzL_nil, and_true]
      exact fz_lend rfl (Nat.le_refl _) c5 (.inl rfl) List.prefix_rfl
    simp only [evS, tyS, Bool.not_true, Bool.not_false, Nat.reduceAdd, Nat.reduceSub, Nat.reduceMul, Nat.reduceLT, Nat.reduceLeDiff, Nat.reduceEqDiff, reduceCtorEq, List.reduceReplicate, Int.reduceToNat, Int.reduceLE, Int.reduceLT]
    (repeat' (first | (with_reducible refine And.intro ?_ ?_) | ((first | refine GuardK.intro_f (fun h => ?_) (fun h => ?_) | refine GuardK.intro_t (fun h => ?_) (fun h => ?_) | refine CondK.intro (fun h => ?_) (fun h => ?_) | refine PickK.intro (fun h => ?_) (fun h => ?_)) <;> simp only [h, evS, tyS, Bool.not_true, Bool.not_false, Nat.reduceAdd, Nat.reduceSub, Nat.reduceMul, Nat.reduceLT, Nat.reduceLeDiff, Nat.reduceEqDiff, reduceCtorEq, List.reduceReplicate, Int.reduceToNat, Int.reduceLE, Int.reduceLT]) | (refine DrawK.intro (by kernel_rfl) (by kernel_rfl) ?_; simp only [evS, tyS, Bool.not_true, Bool.not_false, Nat.reduceAdd, Nat.reduceSub, Nat.reduceMul, Nat.reduceLT, Nat.reduceLeDiff, Nat.reduceEqDiff, reduceCtorEq, List.reduceReplicate, Int.reduceToNat, Int.reduceLE, Int.reduceLT])))
    all_goals first | done | rfl | exact .inl rfl | exact .inr ⟨by simp [okRefL, okRef, okRef_list], rfl⟩ | trace_state
  show Code.wpIn (Fr none) 0 Tryd.prog _ _ a3 w3
  refine wpIn_seq (wpIn_region ?_)
  show wpOpsIn (Fr none) 0 Tryd.prog _ _ (0 :: 1 :: ([2, 3, 4, 5, 6, 7, 8, 9] ++ [])) a3 w3
  rw [wpOpsIn_cons]
  refine wpOpIn_some rfl rfl (val_wpIn2 (v := .slice (some ⟨w3.heap.size, 0, none⟩) 4 4) (w' := w3.alloc (.cells (awk2.map byV).toArray 5)) rfl ?_ ?_)
  · kernel_rfl
  rw [wpOpsIn_cons]
  refine wpOpIn_some rfl rfl (val_wpIn2 (v := .slice (some ⟨w3.heap.size, 0, none⟩) 4 4) (w' := w3.alloc (.cells (awk2.map byV).toArray 5 ((awk2.map byV).toArray.size, (awk2.map byV).toArray.size + 1))) rfl (conv_run ?_) ?_)
  · have hz : a3.tmps.size = 94 := h3.len
    exact put_get (by rw [hz]; decide)
  have h4 : SR X (φ3 ++ [w3.heap.size]) ⟨⟨94, [(18, .own 0 0 4), (17, .own 0 0 4), (1, listA awkL), (2, .v (.int .i64 0)), (3, .v (.int .i64 0))], γ⟩, [⟨0, 5, awk2.map byteC⟩]⟩ ((a3.put (some 17) (.slice (some ⟨w3.heap.size, 0, none⟩) 4 4)).put (some 18) (.slice (some ⟨w3.heap.size, 0, none⟩) 4 4)) _ := lit_sr hP h3 awk2 17 18
  show wpOpsIn (Fr none) 0 Tryd.prog _ _ ([2, 3, 4, 5, 6, 7, 8, 9] ++ []) ((a3.put (some 17) (.slice (some ⟨w3.heap.size, 0, none⟩) 4 4)).put (some 18) (.slice (some ⟨w3.heap.size, 0, none⟩) 4 4)) _
  generalize ((a3.put (some 17) (.slice (some ⟨w3.heap.size, 0, none⟩) 4 4)).put (some 18) (.slice (some ⟨w3.heap.size, 0, none⟩) 4 4)) = a4 at h4 ⊢
  generalize (w3.alloc (.cells (awk2.map byV).toArray 5 ((awk2.map byV).toArray.size, (awk2.map byV).toArray.size + 1))) = w4 at h4 ⊢
  refine wpOpsIn_split _ _ _ _ (opsP hP ⟨⟨94, [(5, .v (.int .i64 2)), (6, .v (.int .i64 12)), (1, listA awkL), (2, .v (.int .i64 0)), (3, .v (.int .i64 0))], γ⟩, []⟩ (by kernel_rfl) hc0 [_, _, _, _, _, _, _, _] [2, 3, 4, 5, 6, 7, 8, 9] rfl h4 ?_ fun φ5 a5 w5 h5 => ?_)
  · simp only [List.getElem_toArray, List.getElem_cons_zero, List.getElem_cons_succ, evS, tyS, Bool.not_true, Bool.not_false, Nat.reduceAdd, Nat.reduceSub, Nat.reduceMul, Nat.reduceLT, Nat.reduceLeDiff, Nat.reduceEqDiff, reduceCtorEq, List.reduceReplicate, Int.reduceToNat, Int.reduceLE, Int.reduceLT]
    refine CallK.lend b16 [.sl true 4 4 (awk2.map byteC)] ?_ k16b rfl ?_
    · simp only [fzL_cons, fzL_nil, and_true]
      exact fz_lend rfl (Nat.le_refl _) c5 (.inl rfl) List.prefix_rfl
    simp only [evS, tyS, Bool.not_true, Bool.not_false, Nat.reduceAdd, Nat.reduceSub, Nat.reduceMul, Nat.reduceLT, Nat.reduceLeDiff, Nat.reduceEqDiff, reduceCtorEq, List.reduceReplicate, Int.reduceToNat, Int.reduceLE, Int.reduceLT]
    (repeat' (first | (with_reducible refine And.intro ?_ ?_) | ((first | refine GuardK.intro_f (fun h => ?_) (fun h => ?_) | refine GuardK.intro_t (fun h => ?_) (fun h => ?_) | refine CondK.intro (fun h => ?_) (fun h => ?_) | refine PickK.intro (fun h => ?_) (fun h => ?_)) <;> simp only [h, evS, tyS, Bool.not_true, Bool.not_false, Nat.reduceAdd, Nat.reduceSub, Nat.reduceMul, Nat.reduceLT, Nat.reduceLeDiff, Nat.reduceEqDiff, reduceCtorEq, List.reduceReplicate, Int.reduceToNat, Int.reduceLE, Int.reduceLT]) | (refine DrawK.intro (by kernel_rfl) (by kernel_rfl) ?_; simp only [evS, tyS, Bool.not_true, Bool.not_false, Nat.reduceAdd, Nat.reduceSub, Nat.reduceMul, Nat.reduceLT, Nat.reduceLeDiff, Nat.reduceEqDiff, reduceCtorEq, List.reduceReplicate, Int.reduceToNat, Int.reduceLE, Int.reduceLT])))
    all_goals first | done | rfl | exact .inl rfl | exact .inr ⟨by simp [okRefL, okRef, okRef_list], rfl⟩ | trace_state
  show Code.wpIn (Fr none) 0 Tryd.prog _ _ a5 w5
  refine wpIn_mono (kwp_soundP hP (r := none) _ awkEndQ (by kernel_rfl) h5 ?_) ?_
  · simp only [evS, tyS, Bool.not_true, Bool.not_false, Nat.reduceAdd, Nat.reduceSub, Nat.reduceMul, Nat.reduceLT, Nat.reduceLeDiff, Nat.reduceEqDiff, reduceCtorEq, List.reduceReplicate, Int.reduceToNat, Int.reduceLE, Int.reduceLT]
    refine CallK.intro b22 rfl k22 ?_
    have hL : listA awkL = .sl false 3 3 (listCells awkL) := rfl
    have hC : listCells awkL = [.v (.int .i64 1), .v (.string ⟨#[97, 49]⟩), .v (.int .i64 0), .v (.float .f64 0), .v (.int .i64 0), .v (.int .i64 2), .v (.int .i64 3), .v (.string ⟨#[]⟩), .v (.int .i64 0), .v (.float .f64 4612811918334230528), .v (.int .i64 3), .v (.int .i64 4), .v (.int .i64 5), .v (.string ⟨#[45, 62]⟩), .v (.int .i64 0), .v (.float .f64 0), .v (.int .i64 7), .v (.int .i64 2)] := rfl
    rw [hL, hC]
    have f1 : (((3 : Nat) : Int) != 3) = false := by decide
    have f2 : (FloatKind.f64.format.order 4612811918334230528 4612811918334230528 == some Ordering.eq) = true := by kernel_rfl
    simp only [awkEndQ_ret, bne_self, f1, f2, evS, tyS, Bool.not_true, Bool.not_false, Nat.reduceAdd, Nat.reduceSub, Nat.reduceMul, Nat.reduceLT, Nat.reduceLeDiff, Nat.reduceEqDiff, reduceCtorEq, List.reduceReplicate, Int.reduceToNat, Int.reduceLE, Int.reduceLT]
    (repeat' (first | (with_reducible refine And.intro ?_ ?_) | ((first | refine GuardK.intro_f (fun h => ?_) (fun h => ?_) | refine GuardK.intro_t (fun h => ?_) (fun h => ?_) | refine CondK.intro (fun h => ?_) (fun h => ?_) | refine PickK.intro (fun h => ?_) (fun h => ?_)) <;> simp only [h, awkEndQ_ret, bne_self, f1, f2, evS, tyS, Bool.not_true, Bool.not_false, Nat.reduceAdd, Nat.reduceSub, Nat.reduceMul, Nat.reduceLT, Nat.reduceLeDiff, Nat.reduceEqDiff, reduceCtorEq, List.reduceReplicate, Int.reduceToNat, Int.reduceLE, Int.reduceLT]) | (refine DrawK.intro (by kernel_rfl) (by kernel_rfl) ?_; simp only [awkEndQ_ret, bne_self, f1, f2, evS, tyS, Bool.not_true, Bool.not_false, Nat.reduceAdd, Nat.reduceSub, Nat.reduceMul, Nat.reduceLT, Nat.reduceLeDiff, Nat.reduceEqDiff, reduceCtorEq, List.reduceReplicate, Int.reduceToNat, Int.reduceLE, Int.reduceLT])))
    all_goals decide
  · rintro e a9 w9 ⟨φ9, s9, h9, hq⟩
    cases e with
    | ret => exact ⟨[], φ9, s9, List.nodup_nil, (fun D h => by cases h), by rw [marks_nil hc0]; exact h9, endS_endA hq⟩
    | _ => exact hq.elim
end Go.Proofs.YtplnhipgifcafaaDoor
namespace Go.Proofs.YtplnhipgifcafaaDoor
set_option linter.all false
open Go Go.Ev Go.RowKit
variable {γ : List (Nat × AV)}
theorem b20 : bodyT Tryd.prog 20 := ⟨_, Tryd.func20, by kernel_rfl, by kernel_rfl⟩
theorem b21 : bodyT Tryd.prog 21 := ⟨_, Tryd.func21, by kernel_rfl, by kernel_rfl⟩
/-- Blanks and comments alone: is a comment open at their end? (none: something else stands there.) -/
def gapG : Bool → List UInt8 → Option Bool
  | c, [] => some c
  | true, x :: r => gapG (decide (x.toNat ≠ 10)) r
  | false, x :: r => if x.toNat = 35 then gapG true r else if blankN x.toNat = true then gapG false r else none
def gapR (l : List UInt8) (last : Bool) : Bool := match gapG false l with
  | none => false
  | some c => last || !c
set_option maxHeartbeats 2000000 in
set_option maxRecDepth 20000 in
theorem gap_ev (b : Bool) (l : List UInt8) (last : Bool) (hl : l.length ≤ 140737488351232) (h : gapR l last = true) : Ev Tryd.prog γ 20 [.sl b l.length l.length (l.map byteC), .v (.bool last)] (.v (.bool true)) := by
  refine Ev.of Tryd.func20 rfl ?_
  simp only [Tryd.f20, evS, tyS, Bool.not_true, Bool.not_false, Nat.reduceAdd, Nat.reduceSub, Nat.reduceMul, Nat.reduceLT, Nat.reduceLeDiff, Nat.reduceEqDiff, reduceCtorEq, List.reduceReplicate, Int.reduceToNat, Int.reduceLE, Int.reduceLT]
  refine LoopK.intro (fun x : Nat × Bool => ⟨⟨42, [(0, .sl b l.length l.length (l.map byteC)), (1, .v (.bool last)), (5, .v (.bool x.2)), (6, .v (.int .i64 x.1))], γ⟩, []⟩) (fun x => x.1 ≤ l.length ∧ gapG false l = gapG x.2 (l.drop x.1)) (fun x => l.length - x.1) (0, false) ?_ ⟨Nat.zero_le _, by simp⟩ ?_
  · simp only [evS, tyS, Bool.not_true, Bool.not_false, Nat.reduceAdd, Nat.reduceSub, Nat.reduceMul, Nat.reduceLT, Nat.reduceLeDiff, Nat.reduceEqDiff, reduceCtorEq, List.reduceReplicate, Int.reduceToNat, Int.reduceLE, Int.reduceLT]
    (repeat' (first | (with_reducible refine And.intro ?_ ?_) | ((first | refine GuardK.intro_f (fun h => ?_) (fun h => ?_) | refine GuardK.intro_t (fun h => ?_) (fun h => ?_) | refine CondK.intro (fun h => ?_) (fun h => ?_) | refine PickK.intro (fun h => ?_) (fun h => ?_)) <;> simp only [h, evS, tyS, Bool.not_true, Bool.not_false, Nat.reduceAdd, Nat.reduceSub, Nat.reduceMul, Nat.reduceLT, Nat.reduceLeDiff, Nat.reduceEqDiff, reduceCtorEq, List.reduceReplicate, Int.reduceToNat, Int.reduceLE, Int.reduceLT]) | (refine DrawK.intro (by kernel_rfl) (by kernel_rfl) ?_; simp only [evS, tyS, Bool.not_true, Bool.not_false, Nat.reduceAdd, Nat.reduceSub, Nat.reduceMul, Nat.reduceLT, Nat.reduceLeDiff, Nat.reduceEqDiff, reduceCtorEq, List.reduceReplicate, Int.reduceToNat, Int.reduceLE, Int.reduceLT])))
    all_goals first | done | rfl | exact .inl rfl | trace_state
  · rintro ⟨j, c⟩ ⟨hj, hg⟩
    simp only at hj hg
    have ew : IntKind.i64.wrap ((j : Int) + 1) = ((j + 1 : Nat) : Int) := i64w (by omega) (by omega)
    by_cases hjl : j < l.length
    · have d1 : decide (j < l.length) = true := decide_eq_true hjl
      have hd : l.drop j = l.getD j 0 :: l.drop (j + 1) := by rw [List.drop_eq_getElem_cons hjl]; simp [hjl]
      rw [hd] at hg
      generalize hx : l.getD j 0 = x at *
      cases c with
      | true =>
        simp only [d1, hx, evS, tyS, Bool.not_true, Bool.not_false, Nat.reduceAdd, Nat.reduceSub, Nat.reduceMul, Nat.reduceLT, Nat.reduceLeDiff, Nat.reduceEqDiff, reduceCtorEq, List.reduceReplicate, Int.reduceToNat, Int.reduceLE, Int.reduceLT]
        (repeat' (first | (with_reducible refine And.intro ?_ ?_) | ((first | refine GuardK.intro_f (fun h => ?_) (fun h => ?_) | refine GuardK.intro_t (fun h => ?_) (fun h => ?_) | refine CondK.intro (fun h => ?_) (fun h => ?_) | refine PickK.intro (fun h => ?_) (fun h => ?_)) <;> simp only [h, d1, hx, evS, tyS, Bool.not_true, Bool.not_false, Nat.reduceAdd, Nat.reduceSub, Nat.reduceMul, Nat.reduceLT, Nat.reduceLeDiff, Nat.reduceEqDiff, reduceCtorEq, List.reduceReplicate, Int.reduceToNat, Int.reduceLE, Int.reduceLT]) | (refine DrawK.intro (by kernel_rfl) (by kernel_rfl) ?_; simp only [d1, hx, evS, tyS, Bool.not_true, Bool.not_false, Nat.reduceAdd, Nat.reduceSub, Nat.reduceMul, Nat.reduceLT, Nat.reduceLeDiff, Nat.reduceEqDiff, reduceCtorEq, List.reduceReplicate, Int.reduceToNat, Int.reduceLE, Int.reduceLT])))
        all_goals try (((try simp only [decide_eq_true_eq, decide_eq_false_iff_not, beq_iff_eq, bne_iff_ne, ne_eq, beq_eq_false_iff_ne, bne_eq_false_iff_eq] at *) <;> (try omega)); done)
        rw [gapG] at hg
        have e10 : ((x.toNat : Int) != 10) = decide (x.toNat ≠ 10) := by
          by_cases h : x.toNat = 10
          · rw [h]; rfl
          · rw [decide_eq_true h]; simp; omega
        simp only [ew, e10, evS, tyS, Bool.not_true, Bool.not_false, Nat.reduceAdd, Nat.reduceSub, Nat.reduceMul, Nat.reduceLT, Nat.reduceLeDiff, Nat.reduceEqDiff, reduceCtorEq, List.reduceReplicate, Int.reduceToNat, Int.reduceLE, Int.reduceLT]
        refine loopC.intro (j + 1, decide (x.toNat ≠ 10)) ⟨by simp only; omega, hg⟩ ?_ (by simp only; omega)
        simp only [evS, tyS, Bool.not_true, Bool.not_false, Nat.reduceAdd, Nat.reduceSub, Nat.reduceMul, Nat.reduceLT, Nat.reduceLeDiff, Nat.reduceEqDiff, reduceCtorEq, List.reduceReplicate, Int.reduceToNat, Int.reduceLE, Int.reduceLT]
      | false =>
        rw [gapG] at hg
        by_cases h35 : x.toNat = 35
        · have k35 : ((x.toNat : Int) == 35) = true := by rw [h35]; rfl
          rw [if_pos h35] at hg
          simp only [d1, hx, k35, evS, tyS, Bool.not_true, Bool.not_false, Nat.reduceAdd, Nat.reduceSub, Nat.reduceMul, Nat.reduceLT, Nat.reduceLeDiff, Nat.reduceEqDiff, reduceCtorEq, List.reduceReplicate, Int.reduceToNat, Int.reduceLE, Int.reduceLT]
          (repeat' (first | (with_reducible refine And.intro ?_ ?_) | ((first | refine GuardK.intro_f (fun h => ?_) (fun h => ?_) | refine GuardK.intro_t (fun h => ?_) (fun h => ?_) | refine CondK.intro (fun h => ?_) (fun h => ?_) | refine PickK.intro (fun h => ?_) (fun h => ?_)) <;> simp only [h, d1, hx, k35, evS, tyS, Bool.not_true, Bool.not_false, Nat.reduceAdd, Nat.reduceSub, Nat.reduceMul, Nat.reduceLT, Nat.reduceLeDiff, Nat.reduceEqDiff, reduceCtorEq, List.reduceReplicate, Int.reduceToNat, Int.reduceLE, Int.reduceLT]) | (refine DrawK.intro (by kernel_rfl) (by kernel_rfl) ?_; simp only [d1, hx, k35, evS, tyS, Bool.not_true, Bool.not_false, Nat.reduceAdd, Nat.reduceSub, Nat.reduceMul, Nat.reduceLT, Nat.reduceLeDiff, Nat.reduceEqDiff, reduceCtorEq, List.reduceReplicate, Int.reduceToNat, Int.reduceLE, Int.reduceLT])))
          all_goals try (((try simp only [decide_eq_true_eq, decide_eq_false_iff_not, beq_iff_eq, bne_iff_ne, ne_eq, beq_eq_false_iff_ne, bne_eq_false_iff_eq] at *) <;> (try omega)); done)
          simp only [ew, evS, tyS, Bool.not_true, Bool.not_false, Nat.reduceAdd, Nat.reduceSub, Nat.reduceMul, Nat.reduceLT, Nat.reduceLeDiff, Nat.reduceEqDiff, reduceCtorEq, List.reduceReplicate, Int.reduceToNat, Int.reduceLE, Int.reduceLT]
          refine loopC.intro (j + 1, true) ⟨by simp only; omega, hg⟩ ?_ (by simp only; omega)
          simp only [evS, tyS, Bool.not_true, Bool.not_false, Nat.reduceAdd, Nat.reduceSub, Nat.reduceMul, Nat.reduceLT, Nat.reduceLeDiff, Nat.reduceEqDiff, reduceCtorEq, List.reduceReplicate, Int.reduceToNat, Int.reduceLE, Int.reduceLT]
        · have k35 : ((x.toNat : Int) == 35) = false := by simp; omega
          rw [if_neg h35] at hg
          have hbl : blankN x.toNat = true := by
            by_cases hb : blankN x.toNat = true
            · exact hb
            · rw [if_neg hb] at hg
              unfold gapR at h; rw [hg] at h; cases h
          rw [if_pos hbl] at hg
          simp only [d1, hx, k35, evS, tyS, Bool.not_true, Bool.not_false, Nat.reduceAdd, Nat.reduceSub, Nat.reduceMul, Nat.reduceLT, Nat.reduceLeDiff, Nat.reduceEqDiff, reduceCtorEq, List.reduceReplicate, Int.reduceToNat, Int.reduceLE, Int.reduceLT]
          (repeat' (first | (with_reducible refine And.intro ?_ ?_) | ((first | refine GuardK.intro_f (fun h => ?_) (fun h => ?_) | refine GuardK.intro_t (fun h => ?_) (fun h => ?_) | refine CondK.intro (fun h => ?_) (fun h => ?_) | refine PickK.intro (fun h => ?_) (fun h => ?_)) <;> simp only [h, d1, hx, k35, evS, tyS, Bool.not_true, Bool.not_false, Nat.reduceAdd, Nat.reduceSub, Nat.reduceMul, Nat.reduceLT, Nat.reduceLeDiff, Nat.reduceEqDiff, reduceCtorEq, List.reduceReplicate, Int.reduceToNat, Int.reduceLE, Int.reduceLT]) | (refine DrawK.intro (by kernel_rfl) (by kernel_rfl) ?_; simp only [d1, hx, k35, evS, tyS, Bool.not_true, Bool.not_false, Nat.reduceAdd, Nat.reduceSub, Nat.reduceMul, Nat.reduceLT, Nat.reduceLeDiff, Nat.reduceEqDiff, reduceCtorEq, List.reduceReplicate, Int.reduceToNat, Int.reduceLE, Int.reduceLT])))
          all_goals try (((try simp only [decide_eq_true_eq, decide_eq_false_iff_not, beq_iff_eq, bne_iff_ne, ne_eq, beq_eq_false_iff_ne, bne_eq_false_iff_eq] at *) <;> (try omega)); done)
          · exfalso
            have hb2 := of_decide_eq_true hbl
            ((try simp only [decide_eq_true_eq, decide_eq_false_iff_not, beq_iff_eq, bne_iff_ne, ne_eq, beq_eq_false_iff_ne, bne_eq_false_iff_eq] at *) <;> (try omega))
          all_goals (rw [ew]; refine loopC.intro (j + 1, false) ⟨by simp only; omega, hg⟩ ?_ (by simp only; omega); simp only [evS, tyS, Bool.not_true, Bool.not_false, Nat.reduceAdd, Nat.reduceSub, Nat.reduceMul, Nat.reduceLT, Nat.reduceLeDiff, Nat.reduceEqDiff, reduceCtorEq, List.reduceReplicate, Int.reduceToNat, Int.reduceLE, Int.reduceLT])
    · have d1 : decide (j < l.length) = false := decide_eq_false hjl
      rw [List.drop_of_length_le (by omega)] at hg
      unfold gapR at h
      rw [hg, gapG] at h
      simp only [d1, evS, tyS, Bool.not_true, Bool.not_false, Nat.reduceAdd, Nat.reduceSub, Nat.reduceMul, Nat.reduceLT, Nat.reduceLeDiff, Nat.reduceEqDiff, reduceCtorEq, List.reduceReplicate, Int.reduceToNat, Int.reduceLE, Int.reduceLT]
      (repeat' (first | (with_reducible refine And.intro ?_ ?_) | ((first | refine GuardK.intro_f (fun h => ?_) (fun h => ?_) | refine GuardK.intro_t (fun h => ?_) (fun h => ?_) | refine CondK.intro (fun h => ?_) (fun h => ?_) | refine PickK.intro (fun h => ?_) (fun h => ?_)) <;> simp only [h, d1, evS, tyS, Bool.not_true, Bool.not_false, Nat.reduceAdd, Nat.reduceSub, Nat.reduceMul, Nat.reduceLT, Nat.reduceLeDiff, Nat.reduceEqDiff, reduceCtorEq, List.reduceReplicate, Int.reduceToNat, Int.reduceLE, Int.reduceLT]) | (refine DrawK.intro (by kernel_rfl) (by kernel_rfl) ?_; simp only [d1, evS, tyS, Bool.not_true, Bool.not_false, Nat.reduceAdd, Nat.reduceSub, Nat.reduceMul, Nat.reduceLT, Nat.reduceLeDiff, Nat.reduceEqDiff, reduceCtorEq, List.reduceReplicate, Int.reduceToNat, Int.reduceLE, Int.reduceLT])))
      all_goals first | done | rfl | (simp_all; done) | trace_state
theorem gap_nil (last : Bool) : Ev Tryd.prog γ 20 [.v (.slice none 0 0), .v (.bool last)] (.v (.bool true)) := by
  refine Ev.of Tryd.func20 rfl ?_
  simp only [Tryd.f20, evS, tyS, Bool.not_true, Bool.not_false, Nat.reduceAdd, Nat.reduceSub, Nat.reduceMul, Nat.reduceLT, Nat.reduceLeDiff, Nat.reduceEqDiff, reduceCtorEq, List.reduceReplicate, Int.reduceToNat, Int.reduceLE, Int.reduceLT]
  refine LoopK.intro (fun _ : Unit => ⟨⟨42, [(0, .v (.slice none 0 0)), (1, .v (.bool last)), (5, .v (.bool false)), (6, .v (.int .i64 0))], γ⟩, []⟩) (fun _ => True) (fun _ => 0) () ?_ trivial (fun _ _ => ?_)
  · simp only [evS, tyS, Bool.not_true, Bool.not_false, Nat.reduceAdd, Nat.reduceSub, Nat.reduceMul, Nat.reduceLT, Nat.reduceLeDiff, Nat.reduceEqDiff, reduceCtorEq, List.reduceReplicate, Int.reduceToNat, Int.reduceLE, Int.reduceLT]
    (repeat' (first | (with_reducible refine And.intro ?_ ?_) | ((first | refine GuardK.intro_f (fun h => ?_) (fun h => ?_) | refine GuardK.intro_t (fun h => ?_) (fun h => ?_) | refine CondK.intro (fun h => ?_) (fun h => ?_) | refine PickK.intro (fun h => ?_) (fun h => ?_)) <;> simp only [h, evS, tyS, Bool.not_true, Bool.not_false, Nat.reduceAdd, Nat.reduceSub, Nat.reduceMul, Nat.reduceLT, Nat.reduceLeDiff, Nat.reduceEqDiff, reduceCtorEq, List.reduceReplicate, Int.reduceToNat, Int.reduceLE, Int.reduceLT]) | (refine DrawK.intro (by kernel_rfl) (by kernel_rfl) ?_; simp only [evS, tyS, Bool.not_true, Bool.not_false, Nat.reduceAdd, Nat.reduceSub, Nat.reduceMul, Nat.reduceLT, Nat.reduceLeDiff, Nat.reduceEqDiff, reduceCtorEq, List.reduceReplicate, Int.reduceToNat, Int.reduceLE, Int.reduceLT])))
    all_goals first | done | rfl | exact .inl rfl | trace_state
  · simp only [Int.lt_irrefl, decide_false, evS, tyS, Bool.not_true, Bool.not_false, Nat.reduceAdd, Nat.reduceSub, Nat.reduceMul, Nat.reduceLT, Nat.reduceLeDiff, Nat.reduceEqDiff, reduceCtorEq, List.reduceReplicate, Int.reduceToNat, Int.reduceLE, Int.reduceLT]
    (repeat' (first | (with_reducible refine And.intro ?_ ?_) | ((first | refine GuardK.intro_f (fun h => ?_) (fun h => ?_) | refine GuardK.intro_t (fun h => ?_) (fun h => ?_) | refine CondK.intro (fun h => ?_) (fun h => ?_) | refine PickK.intro (fun h => ?_) (fun h => ?_)) <;> simp only [h, evS, tyS, Bool.not_true, Bool.not_false, Nat.reduceAdd, Nat.reduceSub, Nat.reduceMul, Nat.reduceLT, Nat.reduceLeDiff, Nat.reduceEqDiff, reduceCtorEq, List.reduceReplicate, Int.reduceToNat, Int.reduceLE, Int.reduceLT]) | (refine DrawK.intro (by kernel_rfl) (by kernel_rfl) ?_; simp only [evS, tyS, Bool.not_true, Bool.not_false, Nat.reduceAdd, Nat.reduceSub, Nat.reduceMul, Nat.reduceLT, Nat.reduceLeDiff, Nat.reduceEqDiff, reduceCtorEq, List.reduceReplicate, Int.reduceToNat, Int.reduceLE, Int.reduceLT])))
    all_goals first | done | rfl | exact .inl rfl | trace_state
set_option maxHeartbeats 2000000 in
set_option maxRecDepth 20000 in
theorem same_ev (t : TokD) (p p' : Int) : Ev Tryd.prog γ 21 [t.av p, t.av p'] (.v (.bool true)) := by
  refine Ev.of Tryd.func21 rfl ?_
  simp only [Tryd.f21, TokD.av, tokA, evS, tyS, Bool.not_true, Bool.not_false, Nat.reduceAdd, Nat.reduceSub, Nat.reduceMul, Nat.reduceLT, Nat.reduceLeDiff, Nat.reduceEqDiff, reduceCtorEq, List.reduceReplicate, Int.reduceToNat, Int.reduceLE, Int.reduceLT]
  (repeat' (first | (with_reducible refine And.intro ?_ ?_) | ((first | refine GuardK.intro_f (fun h => ?_) (fun h => ?_) | refine GuardK.intro_t (fun h => ?_) (fun h => ?_) | refine CondK.intro (fun h => ?_) (fun h => ?_) | refine PickK.intro (fun h => ?_) (fun h => ?_)) <;> simp only [h, evS, tyS, Bool.not_true, Bool.not_false, Nat.reduceAdd, Nat.reduceSub, Nat.reduceMul, Nat.reduceLT, Nat.reduceLeDiff, Nat.reduceEqDiff, reduceCtorEq, List.reduceReplicate, Int.reduceToNat, Int.reduceLE, Int.reduceLT]) | (refine DrawK.intro (by kernel_rfl) (by kernel_rfl) ?_; simp only [evS, tyS, Bool.not_true, Bool.not_false, Nat.reduceAdd, Nat.reduceSub, Nat.reduceMul, Nat.reduceLT, Nat.reduceLeDiff, Nat.reduceEqDiff, reduceCtorEq, List.reduceReplicate, Int.reduceToNat, Int.reduceLE, Int.reduceLT])))
  refine CallK.ext (ext33 t.real) ?_
  simp only [evS, tyS, Bool.not_true, Bool.not_false, Nat.reduceAdd, Nat.reduceSub, Nat.reduceMul, Nat.reduceLT, Nat.reduceLeDiff, Nat.reduceEqDiff, reduceCtorEq, List.reduceReplicate, Int.reduceToNat, Int.reduceLE, Int.reduceLT]
  (repeat' (first | (with_reducible refine And.intro ?_ ?_) | ((first | refine GuardK.intro_f (fun h => ?_) (fun h => ?_) | refine GuardK.intro_t (fun h => ?_) (fun h => ?_) | refine CondK.intro (fun h => ?_) (fun h => ?_) | refine PickK.intro (fun h => ?_) (fun h => ?_)) <;> simp only [h, evS, tyS, Bool.not_true, Bool.not_false, Nat.reduceAdd, Nat.reduceSub, Nat.reduceMul, Nat.reduceLT, Nat.reduceLeDiff, Nat.reduceEqDiff, reduceCtorEq, List.reduceReplicate, Int.reduceToNat, Int.reduceLE, Int.reduceLT]) | (refine DrawK.intro (by kernel_rfl) (by kernel_rfl) ?_; simp only [evS, tyS, Bool.not_true, Bool.not_false, Nat.reduceAdd, Nat.reduceSub, Nat.reduceMul, Nat.reduceLT, Nat.reduceLeDiff, Nat.reduceEqDiff, reduceCtorEq, List.reduceReplicate, Int.reduceToNat, Int.reduceLE, Int.reduceLT])))
  refine CallK.ext (ext33 t.real) ?_
  simp only [evS, tyS, Bool.not_true, Bool.not_false, Nat.reduceAdd, Nat.reduceSub, Nat.reduceMul, Nat.reduceLT, Nat.reduceLeDiff, Nat.reduceEqDiff, reduceCtorEq, List.reduceReplicate, Int.reduceToNat, Int.reduceLE, Int.reduceLT]
  (repeat' (first | (with_reducible refine And.intro ?_ ?_) | ((first | refine GuardK.intro_f (fun h => ?_) (fun h => ?_) | refine GuardK.intro_t (fun h => ?_) (fun h => ?_) | refine CondK.intro (fun h => ?_) (fun h => ?_) | refine PickK.intro (fun h => ?_) (fun h => ?_)) <;> simp only [h, evS, tyS, Bool.not_true, Bool.not_false, Nat.reduceAdd, Nat.reduceSub, Nat.reduceMul, Nat.reduceLT, Nat.reduceLeDiff, Nat.reduceEqDiff, reduceCtorEq, List.reduceReplicate, Int.reduceToNat, Int.reduceLE, Int.reduceLT]) | (refine DrawK.intro (by kernel_rfl) (by kernel_rfl) ?_; simp only [evS, tyS, Bool.not_true, Bool.not_false, Nat.reduceAdd, Nat.reduceSub, Nat.reduceMul, Nat.reduceLT, Nat.reduceLeDiff, Nat.reduceEqDiff, reduceCtorEq, List.reduceReplicate, Int.reduceToNat, Int.reduceLE, Int.reduceLT])))
end Go.Proofs.YtplnhipgifcafaaDoor
/- What a text's tokens hang on: their own bytes, and what stands behind them. -/
namespace Go.Proofs.YtplnhipgifcafaaDoor
set_option linter.all false
open Go Go.Ev
theorem spanEnd_uniq {q : Nat → Bool} {l : List UInt8} : ∀ (k : Nat) {i m : Nat}, m = i + k → m ≤ l.length → (∀ j, i ≤ j → j < m → q (atL l j) = true) → (m < l.length → q (atL l m) = false) → spanEnd q l i = m
  | 0, i, m, e, _, _, hs => by
    subst e
    exact spanEnd_stop fun h => hs h
  | k + 1, i, m, e, hm, ha, hs => by
    have hi : i < l.length := by omega
    rw [spanEnd_step hi (ha i (Nat.le_refl _) (by omega))]
    exact spanEnd_uniq k (by omega) hm (fun j h1 h2 => ha j (by omega) h2) hs
theorem spanEnd_facts {q : Nat → Bool} {l : List UInt8} : ∀ (k : Nat) {i : Nat}, l.length - i = k → i ≤ l.length → (∀ j, i ≤ j → j < spanEnd q l i → q (atL l j) = true) ∧ (spanEnd q l i < l.length → q (atL l (spanEnd q l i)) = false)
  | 0, i, hk, hi => by
    have e : spanEnd q l i = i := spanEnd_stop fun h => by omega
    rw [e]
    exact ⟨fun j h1 h2 => by omega, fun h => by omega⟩
  | k + 1, i, hk, hi => by
    by_cases hq : q (atL l i) = true
    · have e : spanEnd q l i = spanEnd q l (i + 1) := spanEnd_step (by omega) hq
      obtain ⟨h1, h2⟩ := spanEnd_facts (q := q) (l := l) k (i := i + 1) (by omega) (by omega)
      rw [e]
      refine ⟨fun j g1 g2 => ?_, h2⟩
      by_cases hj : j = i
      · subst hj; exact hq
      · exact h1 j (by omega) g2
    · have hq' : q (atL l i) = false := by simpa using hq
      have e : spanEnd q l i = i := spanEnd_stop fun h => hq'
      rw [e]
      exact ⟨fun j h1 h2 => by omega, fun _ => hq'⟩
/-- s' begins with the first n bytes of s, and what stands behind them is the same, or a blank, or nothing. -/
structure Loc (s s' : List UInt8) (n : Nat) : Prop where
  le : n ≤ s.length
  le' : n ≤ s'.length
  tk : s'.take n = s.take n
  nx : (n < s.length ∧ n < s'.length ∧ s'.take (n + 1) = s.take (n + 1)) ∨ s'.length = n ∨ atL s' n = 32
theorem atL_tk {s s' : List UInt8} {n i : Nat} (h : s'.take n = s.take n) (hi : i < n) : atL s' i = atL s i := by
  have e : (s'.take n)[i]? = (s.take n)[i]? := by rw [h]
  rw [List.getElem?_take, List.getElem?_take, if_pos hi, if_pos hi] at e
  unfold atL
  rw [List.getD_eq_getElem?_getD, List.getD_eq_getElem?_getD, e]
theorem take_le {s s' : List UInt8} {n m : Nat} (h : s'.take n = s.take n) (hm : m ≤ n) : s'.take m = s.take m := by
  have := congrArg (List.take m) h
  rwa [List.take_take, List.take_take, Nat.min_eq_left hm] at this
theorem Loc.at {s s' : List UInt8} {n i : Nat} (h : Loc s s' n) (hi : i < n) : atL s' i = atL s i := atL_tk h.tk hi
theorem Loc.stop {s s' : List UInt8} {n : Nat} (h : Loc s s' n) {q : Nat → Bool} (hq : q 32 = false) (hs : n < s.length → q (atL s n) = false) : n < s'.length → q (atL s' n) = false := by
  intro hn
  rcases h.nx with ⟨h1, h2, h3⟩ | h1 | h1
  · rw [atL_tk h3 (by omega)]; exact hs h1
  · omega
  · rw [h1]; exact hq
theorem Loc.span {s s' : List UInt8} {n i : Nat} (h : Loc s s' n) {q : Nat → Bool} (hq : q 32 = false) (hi : i ≤ n) (hm : spanEnd q s i ≤ n) : spanEnd q s' i = spanEnd q s i := by
  have hle := h.le
  have hle' := h.le'
  obtain ⟨h1, h2⟩ := spanEnd_facts (q := q) (l := s) _ (i := i) rfl (by omega)
  have h3 := spanEnd_ge q s i
  refine spanEnd_uniq (spanEnd q s i - i) (by omega) (by omega) (fun j g1 g2 => ?_) ?_
  · rw [h.at (by omega)]; exact h1 j g1 g2
  · by_cases he : spanEnd q s i = n
    · rw [he]; rw [he] at h2; exact h.stop hq h2
    · intro _
      rw [h.at (by omega)]
      exact h2 (by omega)
theorem Loc.num {s s' : List UInt8} {n i : Nat} (h : Loc s s' n) (hi : i ≤ n) (hm : digitsEnd s i ≤ n) : digitsEnd s' i = digitsEnd s i ∧ numL s' i = numL s i := by
  have e : digitsEnd s' i = digitsEnd s i := h.span (q := digitN) (by decide) hi hm
  refine ⟨e, ?_⟩
  have hge := digitsEnd_ge s i
  unfold numL
  rw [e, ← List.drop_take, ← List.drop_take, take_le h.tk (by omega)]
theorem Loc.name {s s' : List UInt8} {n : Nat} (h : Loc s s' n) (hn : nameN (atL s n) = false) : nameN (atL s' n) = false := by
  by_cases hl : n < s'.length
  · exact h.stop (q := nameN) (by decide) (fun _ => hn) hl
  · have : atL s' n = 0 := by unfold atL; rw [List.getD_eq_getElem?_getD, List.getElem?_eq_none (by omega)]; rfl
    rw [this]; decide
theorem realO_follow {sg : Nat} {a b : List UInt8} {f g : Nat} (h : realO sg a b f = true) (hg : nameN g = false) : realO sg a b g = true ∧ nameN f = false := by
  unfold realO at h ⊢
  simp only [Bool.and_eq_true, Bool.not_eq_true'] at h ⊢
  obtain ⟨⟨⟨⟨⟨h1, h2⟩, h3⟩, h4⟩, h5⟩, h6⟩ := h
  exact ⟨⟨⟨⟨⟨⟨h1, h2⟩, h3⟩, h4⟩, hg⟩, h6⟩, h5⟩
theorem realO_name {sg : Nat} {a b : List UInt8} {f : Nat} (h : realO sg a b f = true) : nameN f = false := by
  unfold realO at h
  simp only [Bool.and_eq_true, Bool.not_eq_true'] at h
  exact h.1.2
theorem numberD_loc {s s' : List UInt8} {t : TokD} (hd : digitN (atL s 0) = true) (h : numberD s = .ok t) (hL : Loc s s' t.size) : numberD s' = .ok t := by
  have hlt := digitsEnd_lt hd
  unfold numberD at h
  split at h
  · rename_i hc
    unfold realD at h
    split at h
    · rename_i hr
      cases h
      have hlt2 : digitsEnd s 0 + 1 + sgOf s < digitsEnd s (digitsEnd s 0 + 1 + sgOf s) := digitsEnd_lt hc.2
      have hL' : Loc s s' (digitsEnd s (digitsEnd s 0 + 1 + sgOf s)) := hL
      obtain ⟨e1, e2⟩ := hL'.num (i := 0) (by omega) (by omega)
      have hsg : sgOf s' = sgOf s := by
        unfold sgOf
        rw [e1, hL'.at (i := digitsEnd s 0) (by omega), hL'.at (i := digitsEnd s 0 + 1) (by omega)]
      obtain ⟨e3, e4⟩ := hL'.num (i := digitsEnd s 0 + 1 + sgOf s) (by omega) (Nat.le_refl _)
      unfold numberD
      rw [hsg, e1, hL'.at (i := digitsEnd s 0) (by omega), hL'.at (i := digitsEnd s 0 + 1 + sgOf s) (by omega), if_pos hc]
      unfold realD
      rw [e2, e3, e4, if_pos (realO_follow hr (hL'.name (realO_name hr))).1]
    · cases h
  · rename_i hc
    split at h
    · rename_i hr
      cases h
      have hL' : Loc s s' (digitsEnd s 0) := hL
      obtain ⟨e1, e2⟩ := hL'.num (i := 0) (by omega) (Nat.le_refl _)
      have hnm := hL'.name hr.2
      unfold numberD
      rw [e1, e2, if_neg, if_pos ⟨hr.1, hnm⟩]
      rintro ⟨g1, _⟩
      rw [g1] at hnm
      revert hnm; decide
    · cases h
theorem escF_loc {s s' : List UInt8} {n i : Nat} (hL : Loc s s' n) (h0 : (escF (s.drop i)).2 ≠ 0) (hn : i + (escF (s.drop i)).2 ≤ n) : escF (s'.drop i) = escF (s.drop i) := by
  have ea : ∀ (l : List UInt8) j, atL (l.drop i) j = atL l (i + j) := fun l j => by
    unfold atL; simp only [List.getD_eq_getElem?_getD, List.getElem?_drop]
  unfold escF at h0 hn ⊢
  simp only [ea, List.length_drop] at h0 hn ⊢
  have hle := hL.le
  have hle' := hL.le'
  split at h0
  · rename_i h1
    rw [if_pos h1] at hn
    simp only at hn
    rw [hL.at (i := i + 1) (by omega), if_pos h1, if_pos h1]
  · rename_i h1
    split at h0
    · rename_i h2
      rw [if_neg h1, if_pos h2] at hn
      simp only at hn
      rw [hL.at (i := i + 1) (by omega), hL.at (i := i + 2) (by omega), hL.at (i := i + 3) (by omega), if_neg h1, if_pos h2, if_neg h1, if_pos ⟨h2.1, by omega, h2.2.2⟩]
    · exact absurd rfl h0
theorem textF_loc {s s' : List UInt8} {n : Nat} (hL : Loc s s' n) : ∀ (k k' i : Nat) (d q : List UInt8), textF k s i d = some (q, n) → n ≤ k' + i → textF k' s' i d = some (q, n)
  | 0, _, _, _, _, h, _ => by cases h
  | k + 1, k', i, d, q, h, hk => by
    obtain ⟨hs1, hs2⟩ := textF_size s (k + 1) i d q n h
    have hle' := hL.le'
    cases k' with
    | zero => omega
    | succ k' =>
      rw [textF] at h ⊢
      rw [if_neg (by omega)] at h ⊢
      rw [hL.at (i := i) (by omega)]
      split at h
      · rename_i h1; rw [if_pos h1]; exact h
      · rename_i h1
        rw [if_neg h1]
        split at h
        · rename_i h2
          rw [if_pos h2]
          split at h
          · cases h
          · rename_i h3
            have hz := textF_size s k _ _ q n h
            have ee := escF_loc hL (i := i) h3 (by omega)
            rw [ee, if_neg h3]
            exact textF_loc hL k k' _ _ q h (by omega)
        · rename_i h2
          rw [if_neg h2]
          split at h
          · cases h
          · rename_i h3
            rw [if_neg h3]
            exact textF_loc hL k k' _ _ q h (by omega)
theorem textD_loc {s s' : List UInt8} {t : TokD} (h : textD s = .ok t) (hL : Loc s s' t.size) : textD s' = .ok t := by
  unfold textD at h
  split at h
  · cases h
  · rename_i d n hq
    cases h
    have hL' : Loc s s' n := hL
    have := textF_loc hL' _ s'.length 1 [] d hq (by have := hL'.le'; omega)
    unfold textD
    rw [this]
theorem take2_eq {s s' : List UInt8} (h : s'.take 2 = s.take 2) (h1 : 2 ≤ s.length) (h2 : 2 ≤ s'.length) : markN s' = markN s := by
  unfold markN
  have e0 : atL s' 0 = atL s 0 := atL_tk h (by omega)
  have e1 : atL s' 1 = atL s 1 := atL_tk h (by omega)
  have l1 : 1 < s.length := by omega
  have l2 : 1 < s'.length := by omega
  rw [h, e0, e1]
  simp only [l1, l2, true_and]
theorem markN_loc {s s' : List UInt8} (h0 : markN s ≠ 0) (hL : Loc s s' (markN s)) : markN s' = markN s := by
  have hle := hL.le
  have hle' := hL.le'
  by_cases h2 : markN s = 2
  · rw [h2] at hL hle hle'
    exact take2_eq hL.tk hle hle'
  · have h1 : markN s = 1 := by
      unfold markN at h0 h2 ⊢
      split
      · rename_i h; rw [if_pos h] at h2; exact absurd rfl h2
      · rename_i h; rw [if_neg h] at h0; split
        · rfl
        · rename_i h'; rw [if_neg h'] at h0; exact absurd rfl h0
    rw [h1] at hL hle hle'
    rcases hL.nx with ⟨g1, g2, g3⟩ | g1 | g1
    · exact take2_eq g3 (by omega) (by omega)
    · have hs : 0 ≤ Lib.indexByte sglL (atL s 0).toUInt8 := by
        unfold markN at h1
        split at h1
        · cases h1
        · split at h1
          · rename_i h; exact h
          · cases h1
      rw [h1]
      unfold markN
      rw [if_neg (by rintro ⟨q, _⟩; omega), hL.at (i := 0) (by omega), if_pos hs]
    · have hs : 0 ≤ Lib.indexByte sglL (atL s 0).toUInt8 := by
        unfold markN at h1
        split at h1
        · cases h1
        · split at h1
          · rename_i h; exact h
          · cases h1
      rw [h1]
      unfold markN
      rw [if_neg (by rintro ⟨_, _, q, _⟩; exact q g1), hL.at (i := 0) (by omega), if_pos hs]
/-- A token is just its own bytes. -/
theorem headD_loc {s s' : List UInt8} {t : TokD} (h : headD s = .ok t) (h1 : 1 ≤ t.size) (hL : Loc s s' t.size) : headD s' = .ok t := by
  have e0 : atL s' 0 = atL s 0 := hL.at (by omega)
  unfold headD at h ⊢
  rw [e0]
  split at h
  · rename_i hl
    rw [if_pos hl]
    split at h
    · cases h
    · rename_i h32
      cases h
      have hL' : Loc s s' (spanEnd nameN s 1) := hL
      have hge := spanEnd_ge nameN s 1
      have e := hL'.span (q := nameN) (by decide) hge (Nat.le_refl _)
      rw [e, if_neg h32, hL'.tk]
  · rename_i hl
    rw [if_neg hl]
    split at h
    · rename_i hd; rw [if_pos hd]; exact numberD_loc hd h hL
    · rename_i hd
      rw [if_neg hd]
      split at h
      · rename_i ht; rw [if_pos ht]; exact textD_loc h hL
      · rename_i ht
        rw [if_neg ht]
        split at h
        · cases h
        · rename_i hm
          cases h
          have hL' : Loc s s' (markN s) := hL
          have e := markN_loc hm hL'
          rw [e, if_neg hm, hL'.tk]
end Go.Proofs.YtplnhipgifcafaaDoor
/- A text's tokens, one behind the other, with gaps. -/
namespace Go.Proofs.YtplnhipgifcafaaDoor
set_option linter.all false
open Go Go.Ev
theorem atL_cons (c : UInt8) (r : List UInt8) (i : Nat) : atL (c :: r) (i + 1) = atL r i := by unfold atL; simp
theorem gapL_stop : ∀ (s : List UInt8) (c : Bool), gapL c s < s.length → blankN (atL s (gapL c s)) = false ∧ atL s (gapL c s) ≠ 35
  | [], c, h => by cases c <;> simp [gapL] at h
  | x :: r, true, h => by
    rw [gapL] at h ⊢
    split at h
    · rename_i hx
      rw [if_pos hx, Nat.add_comm 1, atL_cons]
      exact gapL_stop r false (by simp only [List.length_cons] at h; omega)
    · rename_i hx
      rw [if_neg hx, Nat.add_comm 1, atL_cons]
      exact gapL_stop r true (by simp only [List.length_cons] at h; omega)
  | x :: r, false, h => by
    rw [gapL] at h ⊢
    split at h
    · rename_i hx
      rw [if_pos hx, Nat.add_comm 1, atL_cons]
      exact gapL_stop r false (by simp only [List.length_cons] at h; omega)
    · rename_i hx
      rw [if_neg hx]
      split at h
      · rename_i hy
        rw [if_pos hy, Nat.add_comm 1, atL_cons]
        exact gapL_stop r true (by simp only [List.length_cons] at h; omega)
      · rename_i hy
        rw [if_neg hy]
        exact ⟨by simpa [atL] using hx, by simpa [atL] using hy⟩
theorem gapL_take : ∀ (s : List UInt8) (c : Bool) (k : Nat), gapL c (s.take k) = min k (gapL c s)
  | [], c, k => by cases c <;> simp [gapL]
  | x :: r, c, 0 => by cases c <;> simp [gapL]
  | x :: r, true, k + 1 => by
    rw [List.take_succ_cons, gapL, gapL, gapL_take r true k, gapL_take r false k]
    split <;> omega
  | x :: r, false, k + 1 => by
    rw [List.take_succ_cons, gapL, gapL, gapL_take r true k, gapL_take r false k]
    split
    · omega
    · split <;> omega
theorem gapG_take : ∀ (s : List UInt8) (c : Bool), gapL c s < s.length → gapG c (s.take (gapL c s)) = some false
  | [], c, h => by cases c <;> simp [gapL] at h
  | x :: r, true, h => by
    rw [gapL] at h ⊢
    split at h
    · rename_i hx
      rw [if_pos hx, Nat.add_comm 1, List.take_succ_cons, gapG, show decide (x.toNat ≠ 10) = false from decide_eq_false (fun h => h hx)]
      exact gapG_take r false (by simp only [List.length_cons] at h; omega)
    · rename_i hx
      rw [if_neg hx, Nat.add_comm 1, List.take_succ_cons, gapG, show decide (x.toNat ≠ 10) = true from decide_eq_true hx]
      exact gapG_take r true (by simp only [List.length_cons] at h; omega)
  | x :: r, false, h => by
    rw [gapL] at h ⊢
    split at h
    · rename_i hx
      have h35 : ¬ x.toNat = 35 := fun e => by rw [e] at hx; exact absurd hx (by decide)
      rw [if_pos hx, Nat.add_comm 1, List.take_succ_cons, gapG, if_neg h35, if_pos hx]
      exact gapG_take r false (by simp only [List.length_cons] at h; omega)
    · rename_i hx
      rw [if_neg hx]
      split at h
      · rename_i hy
        rw [if_pos hy, Nat.add_comm 1, List.take_succ_cons, gapG, if_pos hy]
        exact gapG_take r true (by simp only [List.length_cons] at h; omega)
      · rename_i hy
        rw [if_neg hy]; rfl
theorem gapG_all : ∀ (s : List UInt8) (c : Bool), gapL c s = s.length → ∃ c', gapG c s = some c'
  | [], c, _ => ⟨c, by cases c <;> rfl⟩
  | x :: r, true, h => by
    rw [gapL] at h
    rw [gapG]
    split at h
    · rename_i hx
      rw [show decide (x.toNat ≠ 10) = false from decide_eq_false (fun h => h hx)]
      exact gapG_all r false (by simp only [List.length_cons] at h; omega)
    · rename_i hx
      rw [show decide (x.toNat ≠ 10) = true from decide_eq_true hx]
      exact gapG_all r true (by simp only [List.length_cons] at h; omega)
  | x :: r, false, h => by
    rw [gapL] at h
    rw [gapG]
    split at h
    · rename_i hx
      have h35 : ¬ x.toNat = 35 := fun e => by rw [e] at hx; exact absurd hx (by decide)
      rw [if_neg h35, if_pos hx]
      exact gapG_all r false (by simp only [List.length_cons] at h; omega)
    · rename_i hx
      split at h
      · rename_i hy
        rw [if_pos hy]
        exact gapG_all r true (by simp only [List.length_cons] at h; omega)
      · simp at h
theorem nextT_le {l : List UInt8} {i : Nat} (h : i ≤ l.length) : nextT l i ≤ l.length := by
  have := gapL_le (l.drop i) false
  rw [List.length_drop] at this
  unfold nextT; omega
/-- Tokens from a place on; behind them the gap up to e. -/
def Chain (l : List UInt8) : Nat → List (TokD × Nat) → Nat → Prop
  | i, [], e => i ≤ l.length ∧ e = nextT l i
  | i, x :: T, e => i ≤ l.length ∧ x.2 = nextT l i ∧ x.2 < l.length ∧ headD (l.drop x.2) = .ok x.1 ∧ Chain l (x.2 + x.1.size) T e
theorem Chain.le {l : List UInt8} : ∀ {T : List (TokD × Nat)} {i e : Nat}, Chain l i T e → i ≤ e ∧ e ≤ l.length
  | [], i, e, h => by obtain ⟨h1, rfl⟩ := h; exact ⟨nextT_ge l i, nextT_le h1⟩
  | x :: T, i, e, h => by
    obtain ⟨h1, h2, h3, h4, h5⟩ := h
    have := Chain.le h5
    have := nextT_ge l i
    omega
theorem head_size {l : List UInt8} {p : Nat} {t : TokD} (hp : p < l.length) (h : headD (l.drop p) = .ok t) : 1 ≤ t.size ∧ p + t.size ≤ l.length := by
  have := headD_size (l := l.drop p) (by rw [List.length_drop]; omega) h
  rw [List.length_drop] at this
  omega
theorem headD_not3 {s : List UInt8} {e : Int} (h : headD s = .error e) : e ≠ 3 := by
  unfold headD at h
  split at h
  · split at h <;> cases h; decide
  · split at h
    · unfold numberD at h
      split at h
      · unfold realD at h
        split at h <;> cases h; decide
      · split at h <;> cases h; decide
    · split at h
      · unfold textD at h
        split at h <;> cases h; decide
      · split at h <;> cases h; decide
theorem itemsF_chain : ∀ (f : Nat) (l : List UInt8) (i : Nat), i ≤ l.length → l.length + 1 ≤ f + i →
    (∃ toks : List (TokD × Nat), itemsF f l i = toks.map okI ∧ Chain l i toks l.length) ∨ ∃ (toks : List (TokD × Nat)) (p : Nat) (e : Int), e ≠ 0 ∧ e ≠ 3 ∧ itemsF f l i = toks.map okI ++ [((zeroT, p), e)] ∧ p < l.length ∧ Chain l i toks p
  | 0, l, i, h1, h2 => by omega
  | f + 1, l, i, h1, h2 => by
    have hge := nextT_ge l i
    have hle := nextT_le h1
    rw [itemsF]
    split
    · exact .inl ⟨[], rfl, h1, by omega⟩
    · rename_i hT
      split
      · rename_i e he
        exact .inr ⟨[], _, e, headD_err he, headD_not3 he, rfl, by omega, h1, rfl⟩
      · rename_i t ht
        obtain ⟨s1, s2⟩ := head_size (by omega) ht
        rcases itemsF_chain f l (nextT l i + t.size) s2 (by omega) with ⟨toks, h, hc⟩ | ⟨toks, p, e, g1, g2, h, g3, hc⟩
        · exact .inl ⟨(t, nextT l i) :: toks, by rw [h]; rfl, h1, rfl, by simp only; omega, ht, hc⟩
        · exact .inr ⟨(t, nextT l i) :: toks, p, e, g1, g2, by rw [h]; rfl, g3, h1, rfl, by simp only; omega, ht, hc⟩
/-- A text's tokens, and what is wrong. -/
structure Told2 (l : List UInt8) (q : Told) : Prop where
  told : toldOf l q
  ref : rscanA l = .tup [listA q.toks, .v (.int .i64 q.place), .v (.int .i64 q.err)]
  big : 32768 < l.length → q.err = 3 ∧ q.place = 0 ∧ q.toks = []
  ok : l.length ≤ 32768 → q.err = 0 → q.place = 0 ∧ Chain l 0 q.toks l.length
  bad : l.length ≤ 32768 → q.err ≠ 0 → q.err ≠ 3 ∧ q.place < l.length ∧ Chain l 0 q.toks q.place
theorem told2_ex (l : List UInt8) : ∃ q, Told2 l q := by
  by_cases hb : 32768 < l.length
  · have h : eachItems l = ([] : List (TokD × Nat)).map okI ++ [((zeroT, 0), 3)] := by unfold eachItems; rw [if_pos hb]; rfl
    exact ⟨⟨[], 0, 3⟩, .inr ⟨h, by decide⟩, rscan_err (by decide) h, fun _ => ⟨rfl, rfl, rfl⟩, fun h => by omega, fun h => by omega⟩
  · have hi : eachItems l = itemsF (l.length + 1) l 0 := by unfold eachItems; rw [if_neg hb]
    rcases itemsF_chain (l.length + 1) l 0 (Nat.zero_le _) (by omega) with ⟨toks, h, hc⟩ | ⟨toks, p, e, g1, g2, h, g3, hc⟩
    · rw [← hi] at h
      exact ⟨⟨toks, 0, 0⟩, .inl ⟨h, rfl, rfl⟩, rscan_end h, fun h => absurd h hb, fun _ _ => ⟨rfl, hc⟩, fun _ h => absurd rfl h⟩
    · rw [← hi] at h
      exact ⟨⟨toks, p, e⟩, .inr ⟨h, g1⟩, rscan_err g1 h, fun h => absurd h hb, fun _ h => absurd h g1, fun _ _ => ⟨g2, g3, hc⟩⟩
theorem take_drop_len {l : List UInt8} {i k : Nat} : (l.take k).drop i = (l.drop i).take (k - i) := List.drop_take ..
theorem loc_take {s : List UInt8} {n k : Nat} (h1 : n ≤ k) (h2 : k ≤ s.length) : Loc s (s.take k) n := by
  refine ⟨by omega, by rw [List.length_take]; omega, by rw [List.take_take, Nat.min_eq_left h1], ?_⟩
  by_cases h : n = k
  · exact .inr (.inl (by rw [List.length_take]; omega))
  · exact .inl ⟨by omega, by rw [List.length_take]; omega, by rw [List.take_take, Nat.min_eq_left (by omega)]⟩
/-- What stands ahead of a place behind a gap is scanned alone as it was. -/
theorem chain_take {l : List UInt8} : ∀ (T : List (TokD × Nat)) (f i p : Nat), Chain l i T p → p + 1 ≤ f + i → itemsF f (l.take p) i = T.map okI
  | [], 0, i, p, h, hf => rfl
  | [], f + 1, i, p, h, hf => by
    obtain ⟨h1, rfl⟩ := h
    have hge := nextT_ge l i
    have hle := nextT_le h1
    rw [itemsF, if_pos]
    · rfl
    · rw [List.length_take, Nat.min_eq_left hle]
      unfold nextT
      rw [take_drop_len, gapL_take]
      have : i + gapL false (l.drop i) - i = gapL false (l.drop i) := by omega
      rw [this, Nat.min_self]; exact Nat.le_refl _
  | x :: T, 0, i, p, h, hf => by have := (Chain.le h).1; omega
  | x :: T, f + 1, i, p, h, hf => by
    obtain ⟨h1, h2, h3, h4, h5⟩ := h
    have hc := Chain.le h5
    obtain ⟨s1, s2⟩ := head_size h3 h4
    have hge := nextT_ge l i
    have e : nextT (l.take p) i = x.2 := by
      rw [h2]
      unfold nextT
      rw [take_drop_len, gapL_take, Nat.min_eq_right]
      unfold nextT at h2 hge; omega
    have hd : headD ((l.take p).drop x.2) = .ok x.1 := by
      rw [take_drop_len]
      exact headD_loc h4 s1 (loc_take (by omega) (by rw [List.length_drop]; omega))
    rw [itemsF, e, if_neg (by rw [List.length_take]; omega), hd]
    show ((x.1, x.2), (0 : Int)) :: itemsF f (l.take p) (x.2 + x.1.size) = _
    rw [chain_take T f _ p h5 (by omega)]
    rfl
theorem items_ahead {l : List UInt8} {T : List (TokD × Nat)} {p : Nat} (h : Chain l 0 T p) (hl : l.length ≤ 32768) : eachItems (l.take p) = T.map okI := by
  have hle := (Chain.le h).2
  unfold eachItems
  rw [if_neg (by rw [List.length_take]; omega)]
  exact chain_take T _ 0 p h (by rw [List.length_take]; omega)
/-- A token's bytes, scanned alone. -/
theorem items_one {s : List UInt8} {t : TokD} (h : headD s = .ok t) (h1 : 1 ≤ t.size) (h2 : t.size ≤ s.length) (hl : t.size ≤ 32768) (hb : blankN (atL s 0) = false) (hc : atL s 0 ≠ 35) : eachItems (s.take t.size) = [((t, 0), 0)] := by
  have hlen : (s.take t.size).length = t.size := by rw [List.length_take]; omega
  have ha : atL (s.take t.size) 0 = atL s 0 := atL_tk (by rw [List.take_take, Nat.min_self]) (show 0 < t.size by omega)
  have hn : nextT (s.take t.size) 0 = 0 := by
    unfold nextT
    rw [gap_stop (by omega) (by rw [ha]; exact hb) (by rw [ha]; exact hc)]
  have hd : headD ((s.take t.size).drop 0) = .ok t := headD_loc h h1 (loc_take (Nat.le_refl _) h2)
  unfold eachItems
  rw [if_neg (by omega), hlen]
  rw [itemsF, hn, if_neg (by omega), hd]
  show ((t, 0), (0 : Int)) :: itemsF t.size (s.take t.size) (0 + t.size) = _
  have : itemsF t.size (s.take t.size) (0 + t.size) = [] := by
    cases hs : t.size with
    | zero => omega
    | succ n =>
      rw [itemsF, if_pos]
      rw [← hs, hlen]
      have := nextT_ge (s.take t.size) (0 + t.size)
      omega
  rw [this]
/-- Where the k-th token's gap begins. -/
def frO (i : Nat) (T : List (TokD × Nat)) : Nat → Nat
  | 0 => i
  | k + 1 => (T.getD k (zeroT, 0)).2 + (T.getD k (zeroT, 0)).1.size
theorem frO_succ (i : Nat) (x : TokD × Nat) (T : List (TokD × Nat)) (k : Nat) : frO i (x :: T) (k + 1) = frO (x.2 + x.1.size) T k := by
  cases k with
  | zero => rfl
  | succ k => simp [frO]
theorem chain_get {l : List UInt8} : ∀ (T : List (TokD × Nat)) (i e k : Nat) (h : k < T.length), Chain l i T e → frO i T k ≤ l.length ∧ (T[k]'h).2 = nextT l (frO i T k) ∧ (T[k]'h).2 < l.length ∧ headD (l.drop (T[k]'h).2) = .ok (T[k]'h).1 ∧ (T[k]'h).2 + (T[k]'h).1.size ≤ e
  | [], i, e, k, h, hc => by cases h
  | x :: T, i, e, 0, h, hc => by
    obtain ⟨h1, h2, h3, h4, h5⟩ := hc
    exact ⟨h1, h2, h3, h4, (Chain.le h5).1⟩
  | x :: T, i, e, k + 1, h, hc => by
    obtain ⟨h1, h2, h3, h4, h5⟩ := hc
    rw [frO_succ]
    exact chain_get T _ e k (by simpa using h) h5
theorem chain_end {l : List UInt8} : ∀ (T : List (TokD × Nat)) (i e : Nat), Chain l i T e → frO i T T.length ≤ l.length ∧ e = nextT l (frO i T T.length)
  | [], i, e, h => h
  | x :: T, i, e, h => by
    obtain ⟨h1, h2, h3, h4, h5⟩ := h
    rw [List.length_cons, frO_succ]
    exact chain_end T _ e h5
/-- The gap ahead of something that stands there. -/
theorem gap_ahead {l : List UInt8} {i : Nat} (h : nextT l i < l.length) (b : Bool) : gapR ((l.drop i).take (nextT l i - i)) b = true := by
  have hge := nextT_ge l i
  have e : nextT l i - i = gapL false (l.drop i) := by unfold nextT; omega
  have hlt : gapL false (l.drop i) < (l.drop i).length := by rw [List.length_drop]; unfold nextT at h; omega
  unfold gapR
  rw [e, gapG_take _ _ hlt]
  simp
/-- The gap at the end. -/
theorem gap_last {l : List UInt8} {i : Nat} (hi : i ≤ l.length) (h : l.length = nextT l i) : gapR (l.drop i) true = true := by
  have e : gapL false (l.drop i) = (l.drop i).length := by rw [List.length_drop]; unfold nextT at h; omega
  obtain ⟨c, hc⟩ := gapG_all _ _ e
  unfold gapR
  rw [hc]; rfl
theorem token_first {l : List UInt8} {i : Nat} (h : nextT l i < l.length) : blankN (atL (l.drop (nextT l i)) 0) = false ∧ atL (l.drop (nextT l i)) 0 ≠ 35 := by
  have hlt : gapL false (l.drop i) < (l.drop i).length := by rw [List.length_drop]; unfold nextT at h; omega
  have := gapL_stop _ _ hlt
  have e : atL (l.drop (nextT l i)) 0 = atL (l.drop i) (gapL false (l.drop i)) := by
    unfold atL nextT; simp [List.getElem?_drop]
  rw [e]; exact this
end Go.Proofs.YtplnhipgifcafaaDoor
namespace Go.Proofs.YtplnhipgifcafaaDoor
set_option linter.all false
open Go Go.Ev Go.RowKit
variable {γ : List (Nat × AV)}
theorem pieceW {P : Program} {X : Fix} {φ : List Nat} {st : St} {a : Act} {w : World} {c : Code} (hP : X.P = P) (S : St) {N : Act → World → Prop} {Q : Exit → Act → World → Prop} (h0 : X.c0 = none) (hs : SR X φ st a w) (hk : kwp P c (wkQ S) st)
    (hnext : ∀ φ' a' w', SR X φ' S a' w' → N a' w') : c.wp P (Exit.then N Q) a w := by
  subst hP
  refine wp_mono (kwp_sound h0 c _ hs hk) ?_
  rintro e a' w' ⟨φ', s', hs', hq⟩
  cases e with
  | normal =>
    obtain ⟨φ2, h2⟩ := hs'.weak h0 hq
    exact hnext _ _ _ h2
  | _ => exact hq.elim
theorem tailW {P : Program} {X : Fix} {φ : List Nat} {st : St} {a : Act} {w : World} {c : Code} {rs : List ResultVar} {res : AV} (hP : X.P = P) (h0 : X.c0 = none) (hs : SR X φ st a w) (hk : kwp P c (endS P rs res) st) : c.wp P (Qx X (endA P rs res)) a w := by
  subst hP
  exact wp_mono (kwp_sound h0 c _ hs hk) fun e a w ⟨φ, s, hs, hq⟩ => ⟨φ, s, hs, endS_endA hq⟩
theorem lenS_list37 (s : List ABlk) (L : List (TokD × Nat)) : lenS Tryd.prog 37 s (listA L) = some (.v (.int .i64 L.length)) := by
  have e37 : elemT Tryd.prog 37 = some 33 := by kernel_rfl
  cases L with
  | nil => simp only [listA, lenS, e37]; rfl
  | cons y T => simp only [listA, lenS, e37]; rfl
/-- A row of bytes, of which less is looked at. -/
theorem cut_bytes {f : FuncId} {xs : List AV} {r : AV} {b : Bool} {n m : Nat} {cs : List AV} {l : List UInt8} (hn : n = l.length) (hm : n ≤ m) (hc : cs.take n = l.map byteC) (h : Ev Tryd.prog γ f (.sl b l.length l.length (l.map byteC) :: xs) r) : Ev Tryd.prog γ f (.sl b n m cs :: xs) r := by
  refine Ev_weaken (fun c us h => ?_) h
  simp only [relL] at h ⊢
  obtain ⟨u, us', e, h1, h2⟩ := h
  refine ⟨u, us', e, ?_, h2⟩
  have := rel_cutSl (m' := n) (k := n) (Nat.le_refl _) hm h1
  rw [hc] at this
  rw [← hn]; exact this
theorem map_cut (l : List UInt8) (i n : Nat) : ((l.map byteC).drop i).take n = ((l.drop i).take n).map byteC := by rw [List.map_take, List.map_drop]
theorem lent_cut {b : Bool} {n m : Nat} {cs : List AV} {l : List UInt8} (hl : l.length ≤ 140737488351232) (hn : n = l.length) (hm : n ≤ m) (hc : cs.take n = l.map byteC) : Ev Tryd.prog γ 11 [.sl b n m cs] (.sl false l.length (l.length + 2) ((l ++ [201, 202]).map byteC)) := cut_bytes hn hm hc (lent_ev b l hl)
theorem scan_lent (hγ : Gl γ) (hγ2 : GlW γ) {b : Bool} {l : List UInt8} (hl : l.length ≤ 140737488351232) {r : AV} (hr : scanA l = r) : Ev Tryd.prog γ 16 [.sl b l.length (l.length + 2) ((l ++ [201, 202]).map byteC)] r := by
  subst hr
  exact cut_bytes rfl (by omega) (by rw [← List.map_take, List.take_left' rfl]) (lexScan_ev hγ hγ2 b l hl)
theorem scan_ok {l : List UInt8} {T : List (TokD × Nat)} (h : eachItems l = T.map okI) : scanA l = .tup [listA T, .v (.int .i64 0), .v (.int .i64 0)] := scan_told (q := ⟨T, 0, 0⟩) (.inl ⟨h, rfl, rfl⟩)
set_option maxHeartbeats 2000000 in
set_option maxRecDepth 20000 in
theorem lexParts_big (hγ : Gl γ) (hγ2 : GlW γ) (b : Bool) (l : List UInt8) (hl : l.length ≤ 140737488351232) (hbig : 32768 < l.length) : Ev Tryd.prog γ 5 [.sl b l.length l.length (l.map byteC)] (.v (.bool true)) := by
  obtain ⟨q, hq⟩ := told2_ex l
  obtain ⟨e1, e2, e3⟩ := hq.big hbig
  have hsc := scan_told hq.told
  have eg : q.got = [] := by
    unfold Told.got
    split
    · exact e3
    · rfl
  rw [e1, e2, eg] at hsc
  have el : listA [] = .v (.slice none 0 0) := rfl
  rw [el] at hsc
  have d1 : decide ((32768 : Int) < (l.length : Int)) = true := decide_eq_true (by omega)
  refine Ev.of Tryd.func5 rfl ?_
  simp only [Tryd.f5, evS, tyS, Bool.not_true, Bool.not_false, Nat.reduceAdd, Nat.reduceSub, Nat.reduceMul, Nat.reduceLT, Nat.reduceLeDiff, Nat.reduceEqDiff, reduceCtorEq, List.reduceReplicate, Int.reduceToNat, Int.reduceLE, Int.reduceLT]
  refine CallK.intro b19 rfl (awake_ev hγ hγ2) ?_
  simp only [evS, tyS, Bool.not_true, Bool.not_false, Nat.reduceAdd, Nat.reduceSub, Nat.reduceMul, Nat.reduceLT, Nat.reduceLeDiff, Nat.reduceEqDiff, reduceCtorEq, List.reduceReplicate, Int.reduceToNat, Int.reduceLE, Int.reduceLT]
  refine CallK.intro b11 (by simp [treeL, treeA]) (lent_ev b l hl) ?_
  simp only [evS, tyS, Bool.not_true, Bool.not_false, Nat.reduceAdd, Nat.reduceSub, Nat.reduceMul, Nat.reduceLT, Nat.reduceLeDiff, Nat.reduceEqDiff, reduceCtorEq, List.reduceReplicate, Int.reduceToNat, Int.reduceLE, Int.reduceLT]
  refine CallK.intro b16 (by simp [treeL, treeA]) (scan_lent hγ hγ2 hl hsc) ?_
  have z0 : (((0 : Nat) : Int) == 0) = true := by decide
  simp only [d1, z0, evS, tyS, Bool.not_true, Bool.not_false, Nat.reduceAdd, Nat.reduceSub, Nat.reduceMul, Nat.reduceLT, Nat.reduceLeDiff, Nat.reduceEqDiff, reduceCtorEq, List.reduceReplicate, Int.reduceToNat, Int.reduceLE, Int.reduceLT]
  (repeat' (first | (with_reducible refine And.intro ?_ ?_) | ((first | refine GuardK.intro_f (fun h => ?_) (fun h => ?_) | refine GuardK.intro_t (fun h => ?_) (fun h => ?_) | refine CondK.intro (fun h => ?_) (fun h => ?_) | refine PickK.intro (fun h => ?_) (fun h => ?_)) <;> simp only [h, d1, z0, evS, tyS, Bool.not_true, Bool.not_false, Nat.reduceAdd, Nat.reduceSub, Nat.reduceMul, Nat.reduceLT, Nat.reduceLeDiff, Nat.reduceEqDiff, reduceCtorEq, List.reduceReplicate, Int.reduceToNat, Int.reduceLE, Int.reduceLT]) | (refine DrawK.intro (by kernel_rfl) (by kernel_rfl) ?_; simp only [d1, z0, evS, tyS, Bool.not_true, Bool.not_false, Nat.reduceAdd, Nat.reduceSub, Nat.reduceMul, Nat.reduceLT, Nat.reduceLeDiff, Nat.reduceEqDiff, reduceCtorEq, List.reduceReplicate, Int.reduceToNat, Int.reduceLE, Int.reduceLT])))
  all_goals first | done | rfl | trace_state
def partsS (γ : List (Nat × AV)) (b : Bool) (l : List UInt8) (T : List (TokD × Nat)) (err : Int) (stop : Nat) : Slots := ⟨159, [(0, .sl b l.length l.length (l.map byteC)), (3, listA T), (5, .v (.int .i64 err)), (6, .v (.int .i64 stop))], γ⟩
set_option maxHeartbeats 4000000 in
set_option maxRecDepth 20000 in
theorem lexParts_small (hγ : Gl γ) (hγ2 : GlW γ) (b : Bool) (l : List UInt8) (hl : l.length ≤ 32768) : Ev Tryd.prog γ 5 [.sl b l.length l.length (l.map byteC)] (.v (.bool true)) := by
  obtain ⟨q, hq⟩ := told2_ex l
  have hsc := scan_told hq.told
  have hT : ∃ stop, Chain l 0 q.toks stop ∧ ((q.err = 0 ∧ stop = l.length ∧ q.place = 0) ∨ (q.err ≠ 0 ∧ stop < l.length ∧ q.place = stop)) ∧ q.err ≠ 3 := by
    by_cases he : q.err = 0
    · obtain ⟨g1, g2⟩ := hq.ok hl he
      exact ⟨_, g2, .inl ⟨he, rfl, g1⟩, by rw [he]; decide⟩
    · obtain ⟨g1, g2, g3⟩ := hq.bad hl he
      exact ⟨_, g3, .inr ⟨he, g2, rfl⟩, g1⟩
  obtain ⟨stop, hT, hend, hne3⟩ := hT
  have hcl := Chain.le hT
  refine Ev.of_wp Tryd.func5 rfl ?_
  intro X hP h0 a w hs
  have hnt : Tryd.f5.ntmps = 159 := by kernel_rfl
  rw [hnt] at hs
  refine wp_seq (pieceW hP ⟨⟨159, [(0, .sl b l.length l.length (l.map byteC))], γ⟩, []⟩ h0 hs ?_ fun φ1 a1 w1 h1 => ?_)
  · simp only [startA, idxL, wkQ_normal, evS, tyS, Bool.not_true, Bool.not_false, Nat.reduceAdd, Nat.reduceSub, Nat.reduceMul, Nat.reduceLT, Nat.reduceLeDiff, Nat.reduceEqDiff, reduceCtorEq, List.reduceReplicate, Int.reduceToNat, Int.reduceLE, Int.reduceLT]
    (repeat' (first | (with_reducible refine And.intro ?_ ?_) | ((first | refine GuardK.intro_f (fun h => ?_) (fun h => ?_) | refine GuardK.intro_t (fun h => ?_) (fun h => ?_) | refine CondK.intro (fun h => ?_) (fun h => ?_) | refine PickK.intro (fun h => ?_) (fun h => ?_)) <;> simp only [h, evS, tyS, Bool.not_true, Bool.not_false, Nat.reduceAdd, Nat.reduceSub, Nat.reduceMul, Nat.reduceLT, Nat.reduceLeDiff, Nat.reduceEqDiff, reduceCtorEq, List.reduceReplicate, Int.reduceToNat, Int.reduceLE, Int.reduceLT]) | (refine DrawK.intro (by kernel_rfl) (by kernel_rfl) ?_; simp only [evS, tyS, Bool.not_true, Bool.not_false, Nat.reduceAdd, Nat.reduceSub, Nat.reduceMul, Nat.reduceLT, Nat.reduceLeDiff, Nat.reduceEqDiff, reduceCtorEq, List.reduceReplicate, Int.reduceToNat, Int.reduceLE, Int.reduceLT])))
    all_goals first | done | rfl | exact .inl rfl | trace_state
  refine wp_seq (pieceW hP ⟨⟨159, [(0, .sl b l.length l.length (l.map byteC))], γ⟩, []⟩ h0 h1 ?_ fun φ2 a2 w2 h2 => ?_)
  · simp only [wkQ_normal, evS, tyS, Bool.not_true, Bool.not_false, Nat.reduceAdd, Nat.reduceSub, Nat.reduceMul, Nat.reduceLT, Nat.reduceLeDiff, Nat.reduceEqDiff, reduceCtorEq, List.reduceReplicate, Int.reduceToNat, Int.reduceLE, Int.reduceLT]
    refine CallK.intro b19 rfl (awake_ev hγ hγ2) ?_
    simp only [wkQ_normal, evS, tyS, Bool.not_true, Bool.not_false, Nat.reduceAdd, Nat.reduceSub, Nat.reduceMul, Nat.reduceLT, Nat.reduceLeDiff, Nat.reduceEqDiff, reduceCtorEq, List.reduceReplicate, Int.reduceToNat, Int.reduceLE, Int.reduceLT]
    (repeat' (first | (with_reducible refine And.intro ?_ ?_) | ((first | refine GuardK.intro_f (fun h => ?_) (fun h => ?_) | refine GuardK.intro_t (fun h => ?_) (fun h => ?_) | refine CondK.intro (fun h => ?_) (fun h => ?_) | refine PickK.intro (fun h => ?_) (fun h => ?_)) <;> simp only [h, wkQ_normal, evS, tyS, Bool.not_true, Bool.not_false, Nat.reduceAdd, Nat.reduceSub, Nat.reduceMul, Nat.reduceLT, Nat.reduceLeDiff, Nat.reduceEqDiff, reduceCtorEq, List.reduceReplicate, Int.reduceToNat, Int.reduceLE, Int.reduceLT]) | (refine DrawK.intro (by kernel_rfl) (by kernel_rfl) ?_; simp only [wkQ_normal, evS, tyS, Bool.not_true, Bool.not_false, Nat.reduceAdd, Nat.reduceSub, Nat.reduceMul, Nat.reduceLT, Nat.reduceLeDiff, Nat.reduceEqDiff, reduceCtorEq, List.reduceReplicate, Int.reduceToNat, Int.reduceLE, Int.reduceLT])))
    all_goals first | done | rfl | exact .inl rfl | trace_state
  refine wp_seq (pieceW hP ⟨⟨159, [(0, .sl b l.length l.length (l.map byteC)), (3, listA q.got), (4, .v (.int .i64 q.place)), (5, .v (.int .i64 q.err))], γ⟩, []⟩ h0 h2 ?_ fun φ3 a3 w3 h3 => ?_)
  · simp only [wkQ_normal, evS, tyS, Bool.not_true, Bool.not_false, Nat.reduceAdd, Nat.reduceSub, Nat.reduceMul, Nat.reduceLT, Nat.reduceLeDiff, Nat.reduceEqDiff, reduceCtorEq, List.reduceReplicate, Int.reduceToNat, Int.reduceLE, Int.reduceLT]
    refine CallK.intro b11 (by simp [treeL, treeA]) (lent_ev b l (by omega)) ?_
    simp only [evS, tyS, Bool.not_true, Bool.not_false, Nat.reduceAdd, Nat.reduceSub, Nat.reduceMul, Nat.reduceLT, Nat.reduceLeDiff, Nat.reduceEqDiff, reduceCtorEq, List.reduceReplicate, Int.reduceToNat, Int.reduceLE, Int.reduceLT]
    refine CallK.intro b16 (by simp [treeL, treeA]) (scan_lent hγ hγ2 (by omega) hsc) ?_
    simp only [wkQ_normal, evS, tyS, Bool.not_true, Bool.not_false, Nat.reduceAdd, Nat.reduceSub, Nat.reduceMul, Nat.reduceLT, Nat.reduceLeDiff, Nat.reduceEqDiff, reduceCtorEq, List.reduceReplicate, Int.reduceToNat, Int.reduceLE, Int.reduceLT]
    (repeat' (first | (with_reducible refine And.intro ?_ ?_) | ((first | refine GuardK.intro_f (fun h => ?_) (fun h => ?_) | refine GuardK.intro_t (fun h => ?_) (fun h => ?_) | refine CondK.intro (fun h => ?_) (fun h => ?_) | refine PickK.intro (fun h => ?_) (fun h => ?_)) <;> simp only [h, wkQ_normal, evS, tyS, Bool.not_true, Bool.not_false, Nat.reduceAdd, Nat.reduceSub, Nat.reduceMul, Nat.reduceLT, Nat.reduceLeDiff, Nat.reduceEqDiff, reduceCtorEq, List.reduceReplicate, Int.reduceToNat, Int.reduceLE, Int.reduceLT]) | (refine DrawK.intro (by kernel_rfl) (by kernel_rfl) ?_; simp only [wkQ_normal, evS, tyS, Bool.not_true, Bool.not_false, Nat.reduceAdd, Nat.reduceSub, Nat.reduceMul, Nat.reduceLT, Nat.reduceLeDiff, Nat.reduceEqDiff, reduceCtorEq, List.reduceReplicate, Int.reduceToNat, Int.reduceLE, Int.reduceLT])))
    all_goals first | done | rfl | exact .inl rfl | trace_state
  have k3 : (q.err == 3) = false := by simpa using hne3
  refine wp_seq (pieceW hP ⟨⟨159, [(0, .sl b l.length l.length (l.map byteC)), (3, listA q.got), (4, .v (.int .i64 q.place)), (5, .v (.int .i64 q.err))], γ⟩, []⟩ h0 h3 ?_ fun φ4 a4 w4 h4 => ?_)
  · simp only [wkQ_normal, k3, evS, tyS, Bool.not_true, Bool.not_false, Nat.reduceAdd, Nat.reduceSub, Nat.reduceMul, Nat.reduceLT, Nat.reduceLeDiff, Nat.reduceEqDiff, reduceCtorEq, List.reduceReplicate, Int.reduceToNat, Int.reduceLE, Int.reduceLT]
    (repeat' (first | (with_reducible refine And.intro ?_ ?_) | ((first | refine GuardK.intro_f (fun h => ?_) (fun h => ?_) | refine GuardK.intro_t (fun h => ?_) (fun h => ?_) | refine CondK.intro (fun h => ?_) (fun h => ?_) | refine PickK.intro (fun h => ?_) (fun h => ?_)) <;> simp only [h, wkQ_normal, k3, evS, tyS, Bool.not_true, Bool.not_false, Nat.reduceAdd, Nat.reduceSub, Nat.reduceMul, Nat.reduceLT, Nat.reduceLeDiff, Nat.reduceEqDiff, reduceCtorEq, List.reduceReplicate, Int.reduceToNat, Int.reduceLE, Int.reduceLT]) | (refine DrawK.intro (by kernel_rfl) (by kernel_rfl) ?_; simp only [wkQ_normal, k3, evS, tyS, Bool.not_true, Bool.not_false, Nat.reduceAdd, Nat.reduceSub, Nat.reduceMul, Nat.reduceLT, Nat.reduceLeDiff, Nat.reduceEqDiff, reduceCtorEq, List.reduceReplicate, Int.reduceToNat, Int.reduceLE, Int.reduceLT])))
    all_goals first | done | rfl | exact .inl rfl | trace_state
  refine wp_seq (pieceW hP ⟨⟨159, [(6, .v (.int .i64 l.length)), (0, .sl b l.length l.length (l.map byteC)), (3, listA q.got), (4, .v (.int .i64 q.place)), (5, .v (.int .i64 q.err))], γ⟩, []⟩ h0 h4 ?_ fun φ5 a5 w5 h5 => ?_)
  · simp only [wkQ_normal, evS, tyS, Bool.not_true, Bool.not_false, Nat.reduceAdd, Nat.reduceSub, Nat.reduceMul, Nat.reduceLT, Nat.reduceLeDiff, Nat.reduceEqDiff, reduceCtorEq, List.reduceReplicate, Int.reduceToNat, Int.reduceLE, Int.reduceLT]
    (repeat' (first | (with_reducible refine And.intro ?_ ?_) | ((first | refine GuardK.intro_f (fun h => ?_) (fun h => ?_) | refine GuardK.intro_t (fun h => ?_) (fun h => ?_) | refine CondK.intro (fun h => ?_) (fun h => ?_) | refine PickK.intro (fun h => ?_) (fun h => ?_)) <;> simp only [h, wkQ_normal, evS, tyS, Bool.not_true, Bool.not_false, Nat.reduceAdd, Nat.reduceSub, Nat.reduceMul, Nat.reduceLT, Nat.reduceLeDiff, Nat.reduceEqDiff, reduceCtorEq, List.reduceReplicate, Int.reduceToNat, Int.reduceLE, Int.reduceLT]) | (refine DrawK.intro (by kernel_rfl) (by kernel_rfl) ?_; simp only [wkQ_normal, evS, tyS, Bool.not_true, Bool.not_false, Nat.reduceAdd, Nat.reduceSub, Nat.reduceMul, Nat.reduceLT, Nat.reduceLeDiff, Nat.reduceEqDiff, reduceCtorEq, List.reduceReplicate, Int.reduceToNat, Int.reduceLE, Int.reduceLT])))
    all_goals first | done | rfl | exact .inl rfl | trace_state
  refine wp_seq (pieceW hP ⟨partsS γ b l q.toks q.err stop, []⟩ h0 h5 ?_ fun φ6 a6 w6 h6 => ?_)
  · rcases hend with ⟨he, hst, hpl⟩ | ⟨he, hst, hpl⟩
    · have e0 : (q.err != 0) = false := by rw [he]; rfl
      have eg : q.got = q.toks := by unfold Told.got; rw [if_pos he]
      simp only [wkQ_normal, e0, partsS, eg, hst, evS, tyS, Bool.not_true, Bool.not_false, Nat.reduceAdd, Nat.reduceSub, Nat.reduceMul, Nat.reduceLT, Nat.reduceLeDiff, Nat.reduceEqDiff, reduceCtorEq, List.reduceReplicate, Int.reduceToNat, Int.reduceLE, Int.reduceLT]
      (repeat' (first | (with_reducible refine And.intro ?_ ?_) | ((first | refine GuardK.intro_f (fun h => ?_) (fun h => ?_) | refine GuardK.intro_t (fun h => ?_) (fun h => ?_) | refine CondK.intro (fun h => ?_) (fun h => ?_) | refine PickK.intro (fun h => ?_) (fun h => ?_)) <;> simp only [h, wkQ_normal, e0, evS, tyS, Bool.not_true, Bool.not_false, Nat.reduceAdd, Nat.reduceSub, Nat.reduceMul, Nat.reduceLT, Nat.reduceLeDiff, Nat.reduceEqDiff, reduceCtorEq, List.reduceReplicate, Int.reduceToNat, Int.reduceLE, Int.reduceLT]) | (refine DrawK.intro (by kernel_rfl) (by kernel_rfl) ?_; simp only [wkQ_normal, e0, evS, tyS, Bool.not_true, Bool.not_false, Nat.reduceAdd, Nat.reduceSub, Nat.reduceMul, Nat.reduceLT, Nat.reduceLeDiff, Nat.reduceEqDiff, reduceCtorEq, List.reduceReplicate, Int.reduceToNat, Int.reduceLE, Int.reduceLT])))
      all_goals first | done | rfl | exact .inl rfl | trace_state
    · have e0 : (q.err != 0) = true := by simpa using he
      have eg : q.got = [] := by unfold Told.got; rw [if_neg he]
      have el : listA [] = .v (.slice none 0 0) := rfl
      have hlt : (l.take stop).length = stop := by rw [List.length_take]; omega
      have k11 : Ev Tryd.prog γ 11 [.sl b stop l.length (l.map byteC)] (.sl false (l.take stop).length ((l.take stop).length + 2) ((l.take stop ++ [201, 202]).map byteC)) :=
        lent_cut (l := l.take stop) (by omega) hlt.symm (by omega) (by rw [List.map_take])
      have k16 := scan_lent (b := false) hγ hγ2 (l := l.take stop) (by omega) (scan_ok (items_ahead hT hl))
      have d1 : decide ((stop : Int) < 0) = false := decide_eq_false (by omega)
      have d2 : decide ((l.length : Int) ≤ (stop : Int)) = false := decide_eq_false (by omega)
      have d3 : decide (l.length ≤ stop) = false := decide_eq_false (by omega)
      rw [hpl]
      simp only [wkQ_normal, e0, partsS, eg, el, d1, d2, d3, bne_self, evS, tyS, Bool.not_true, Bool.not_false, Nat.reduceAdd, Nat.reduceSub, Nat.reduceMul, Nat.reduceLT, Nat.reduceLeDiff, Nat.reduceEqDiff, reduceCtorEq, List.reduceReplicate, Int.reduceToNat, Int.reduceLE, Int.reduceLT]
      (repeat' (first | (with_reducible refine And.intro ?_ ?_) | ((first | refine GuardK.intro_f (fun h => ?_) (fun h => ?_) | refine GuardK.intro_t (fun h => ?_) (fun h => ?_) | refine CondK.intro (fun h => ?_) (fun h => ?_) | refine PickK.intro (fun h => ?_) (fun h => ?_)) <;> simp only [h, wkQ_normal, e0, d1, d2, d3, bne_self, evS, tyS, Bool.not_true, Bool.not_false, Nat.reduceAdd, Nat.reduceSub, Nat.reduceMul, Nat.reduceLT, Nat.reduceLeDiff, Nat.reduceEqDiff, reduceCtorEq, List.reduceReplicate, Int.reduceToNat, Int.reduceLE, Int.reduceLT]) | (refine DrawK.intro (by kernel_rfl) (by kernel_rfl) ?_; simp only [wkQ_normal, e0, d1, d2, d3, bne_self, evS, tyS, Bool.not_true, Bool.not_false, Nat.reduceAdd, Nat.reduceSub, Nat.reduceMul, Nat.reduceLT, Nat.reduceLeDiff, Nat.reduceEqDiff, reduceCtorEq, List.reduceReplicate, Int.reduceToNat, Int.reduceLE, Int.reduceLT])))
      all_goals try omega
      refine CallK.intro b11 (by simp [treeL, treeA]) k11 ?_
      simp only [evS, tyS, Bool.not_true, Bool.not_false, Nat.reduceAdd, Nat.reduceSub, Nat.reduceMul, Nat.reduceLT, Nat.reduceLeDiff, Nat.reduceEqDiff, reduceCtorEq, List.reduceReplicate, Int.reduceToNat, Int.reduceLE, Int.reduceLT]
      refine CallK.intro b16 (by simp [treeL, treeA]) k16 ?_
      simp only [wkQ_normal, bne_self, evS, tyS, Bool.not_true, Bool.not_false, Nat.reduceAdd, Nat.reduceSub, Nat.reduceMul, Nat.reduceLT, Nat.reduceLeDiff, Nat.reduceEqDiff, reduceCtorEq, List.reduceReplicate, Int.reduceToNat, Int.reduceLE, Int.reduceLT]
      (repeat' (first | (with_reducible refine And.intro ?_ ?_) | ((first | refine GuardK.intro_f (fun h => ?_) (fun h => ?_) | refine GuardK.intro_t (fun h => ?_) (fun h => ?_) | refine CondK.intro (fun h => ?_) (fun h => ?_) | refine PickK.intro (fun h => ?_) (fun h => ?_)) <;> simp only [h, wkQ_normal, bne_self, evS, tyS, Bool.not_true, Bool.not_false, Nat.reduceAdd, Nat.reduceSub, Nat.reduceMul, Nat.reduceLT, Nat.reduceLeDiff, Nat.reduceEqDiff, reduceCtorEq, List.reduceReplicate, Int.reduceToNat, Int.reduceLE, Int.reduceLT]) | (refine DrawK.intro (by kernel_rfl) (by kernel_rfl) ?_; simp only [wkQ_normal, bne_self, evS, tyS, Bool.not_true, Bool.not_false, Nat.reduceAdd, Nat.reduceSub, Nat.reduceMul, Nat.reduceLT, Nat.reduceLeDiff, Nat.reduceEqDiff, reduceCtorEq, List.reduceReplicate, Int.reduceToNat, Int.reduceLE, Int.reduceLT])))
      all_goals first | done | rfl | exact .inl rfl | trace_state
  refine tailW hP h0 h6 ?_
  have htk : q.toks.length ≤ 32769 := by have := got_le hq.told; have := told_len hq.told; have := items_len l; omega
  generalize q.toks = T at hT htk ⊢
  have hend' : (q.err = 0 ∧ stop = l.length) ∨ (q.err ≠ 0 ∧ stop < l.length) := by
    rcases hend with ⟨g1, g2, _⟩ | ⟨g1, g2, _⟩
    · exact .inl ⟨g1, g2⟩
    · exact .inr ⟨g1, g2⟩
  generalize q.err = err at hend' ⊢
  clear hq hsc hend hne3 h1 h2 h3 h4 h5 h6 k3 hs
  simp only [partsS, evS, tyS, Bool.not_true, Bool.not_false, Nat.reduceAdd, Nat.reduceSub, Nat.reduceMul, Nat.reduceLT, Nat.reduceLeDiff, Nat.reduceEqDiff, reduceCtorEq, List.reduceReplicate, Int.reduceToNat, Int.reduceLE, Int.reduceLT]
  refine LoopK.intro (fun k : Nat => ⟨⟨159, [(11, .v (.int .i64 k)), (10, .v (.int .i64 (frO 0 T k : Nat))), (0, .sl b l.length l.length (l.map byteC)), (3, listA T), (5, .v (.int .i64 err)), (6, .v (.int .i64 stop))], γ⟩, []⟩) (fun k => k ≤ T.length) (fun k => T.length - k) 0 ?_ (Nat.zero_le _) (fun k hk => ?_)
  · simp only [frO, evS, tyS, Bool.not_true, Bool.not_false, Nat.reduceAdd, Nat.reduceSub, Nat.reduceMul, Nat.reduceLT, Nat.reduceLeDiff, Nat.reduceEqDiff, reduceCtorEq, List.reduceReplicate, Int.reduceToNat, Int.reduceLE, Int.reduceLT]
    (repeat' (first | (with_reducible refine And.intro ?_ ?_) | ((first | refine GuardK.intro_f (fun h => ?_) (fun h => ?_) | refine GuardK.intro_t (fun h => ?_) (fun h => ?_) | refine CondK.intro (fun h => ?_) (fun h => ?_) | refine PickK.intro (fun h => ?_) (fun h => ?_)) <;> simp only [h, evS, tyS, Bool.not_true, Bool.not_false, Nat.reduceAdd, Nat.reduceSub, Nat.reduceMul, Nat.reduceLT, Nat.reduceLeDiff, Nat.reduceEqDiff, reduceCtorEq, List.reduceReplicate, Int.reduceToNat, Int.reduceLE, Int.reduceLT]) | (refine DrawK.intro (by kernel_rfl) (by kernel_rfl) ?_; simp only [evS, tyS, Bool.not_true, Bool.not_false, Nat.reduceAdd, Nat.reduceSub, Nat.reduceMul, Nat.reduceLT, Nat.reduceLeDiff, Nat.reduceEqDiff, reduceCtorEq, List.reduceReplicate, Int.reduceToNat, Int.reduceLE, Int.reduceLT])))
    all_goals first | done | rfl | exact .inl rfl | trace_state
  · have ew : IntKind.i64.wrap ((k : Int) + 1) = ((k + 1 : Nat) : Int) := i64w (by omega) (by omega)
    by_cases hkl : k < T.length
    · have d1 : decide (k < T.length) = true := decide_eq_true hkl
      obtain ⟨f1, f2, f3, f4, f5⟩ := chain_get T 0 stop k hkl hT
      have hfr : frO 0 T (k + 1) = (T[k]'hkl).2 + (T[k]'hkl).1.size := by simp [frO, hkl]
      have hat := listCells_at T k hkl
      have hlen := listCells_len T
      have eL : listA T = .sl false T.length T.length (listCells T) := by
        cases T with
        | nil => cases hkl
        | cons y T => rfl
      obtain ⟨s1, s2⟩ := head_size f3 f4
      have hge := nextT_ge l (frO 0 T k)
      have gapc := gap_ahead (l := l) (i := frO 0 T k) (by omega) false
      have tfst := token_first (l := l) (i := frO 0 T k) (by omega)
      rw [← f2] at hge gapc tfst
      have one := items_one f4 s1 (by rw [List.length_drop]; omega) (by omega) tfst.1 tfst.2
      rw [eL]
      generalize T[k]'hkl = x at *
      obtain ⟨t, p⟩ := x
      simp only at f3 f4 f5 s1 s2 hge gapc one
      generalize frO 0 T k = fr at *
      have hx6 : tokCells (t, p) = (tvals t p).map AV.v := rfl
      have hdl : 6 ≤ (List.drop (k * 6) (listCells T)).length := by rw [List.length_drop, hlen]; omega
      have q1 : decide ((t.size : Int) < 1) = false := decide_eq_false (by omega)
      have q2 : decide (p < fr) = false := decide_eq_false (by omega)
      have q2' : decide ((p : Int) < (fr : Int)) = false := decide_eq_false (by omega)
      have ep : IntKind.i64.wrap ((p : Int) + (t.size : Int)) = ((p + t.size : Nat) : Int) := i64w (by omega) (by omega)
      have q3' : decide (stop < p + t.size) = false := decide_eq_false (by omega)
      have q3 : decide ((stop : Int) < ((p + t.size : Nat) : Int)) = false := decide_eq_false (by omega)
      have k20 : Ev Tryd.prog γ 20 [.sl b (p - fr) (l.length - fr) ((l.map byteC).drop fr), .v (.bool false)] (.v (.bool true)) :=
        cut_bytes (l := (l.drop fr).take (p - fr)) (by rw [List.length_take, List.length_drop]; omega) (by omega) (map_cut _ _ _) (gap_ev b _ false (by rw [List.length_take]; omega) gapc)
      have k11 : Ev Tryd.prog γ 11 [.sl b (p + t.size - p) (l.length - p) ((l.map byteC).drop p)] (.sl false ((l.drop p).take t.size).length (((l.drop p).take t.size).length + 2) (((l.drop p).take t.size ++ [201, 202]).map byteC)) :=
        lent_cut (l := (l.drop p).take t.size) (by rw [List.length_take]; omega) (by rw [List.length_take, List.length_drop]; omega) (by omega) (by rw [show p + t.size - p = t.size by omega]; exact map_cut _ _ _)
      have k16 := scan_lent (b := false) hγ hγ2 (l := (l.drop p).take t.size) (by rw [List.length_take]; omega) (scan_ok (T := [(t, 0)]) one)
      have k21 := same_ev (γ := γ) t 0 p
      have e1 : listA [(t, 0)] = .sl false 1 1 (tokCells (t, 0)) := by unfold listA listCells; simp
      have h6 : tokCells (t, 0) = (tvals t 0).map AV.v := rfl
      rw [e1, h6] at k16
      generalize (l.drop p).take t.size = seg at k11 k16
      simp only [d1, lenS_list37, hlen, hat, hx6, tvals, hdl, q1, q2, q2', ep, q3, q3', evS, tyS, Bool.not_true, Bool.not_false, Nat.reduceAdd, Nat.reduceSub, Nat.reduceMul, Nat.reduceLT, Nat.reduceLeDiff, Nat.reduceEqDiff, reduceCtorEq, List.reduceReplicate, Int.reduceToNat, Int.reduceLE, Int.reduceLT]
      (repeat' (first | (with_reducible refine And.intro ?_ ?_) | ((first | refine GuardK.intro_f (fun h => ?_) (fun h => ?_) | refine GuardK.intro_t (fun h => ?_) (fun h => ?_) | refine CondK.intro (fun h => ?_) (fun h => ?_) | refine PickK.intro (fun h => ?_) (fun h => ?_)) <;> simp only [h, d1, hlen, hat, hx6, tvals, hdl, q1, q2, q2', ep, q3, q3', evS, tyS, Bool.not_true, Bool.not_false, Nat.reduceAdd, Nat.reduceSub, Nat.reduceMul, Nat.reduceLT, Nat.reduceLeDiff, Nat.reduceEqDiff, reduceCtorEq, List.reduceReplicate, Int.reduceToNat, Int.reduceLE, Int.reduceLT]) | (refine DrawK.intro (by kernel_rfl) (by kernel_rfl) ?_; simp only [d1, hlen, hat, hx6, tvals, hdl, q1, q2, q2', ep, q3, q3', evS, tyS, Bool.not_true, Bool.not_false, Nat.reduceAdd, Nat.reduceSub, Nat.reduceMul, Nat.reduceLT, Nat.reduceLeDiff, Nat.reduceEqDiff, reduceCtorEq, List.reduceReplicate, Int.reduceToNat, Int.reduceLE, Int.reduceLT])))
      all_goals try omega
      refine CallK.intro b20 (by simp [treeL, treeA]) k20 ?_
      simp only [ep, evS, tyS, Bool.not_true, Bool.not_false, Nat.reduceAdd, Nat.reduceSub, Nat.reduceMul, Nat.reduceLT, Nat.reduceLeDiff, Nat.reduceEqDiff, reduceCtorEq, List.reduceReplicate, Int.reduceToNat, Int.reduceLE, Int.reduceLT]
      (repeat' (first | (with_reducible refine And.intro ?_ ?_) | ((first | refine GuardK.intro_f (fun h => ?_) (fun h => ?_) | refine GuardK.intro_t (fun h => ?_) (fun h => ?_) | refine CondK.intro (fun h => ?_) (fun h => ?_) | refine PickK.intro (fun h => ?_) (fun h => ?_)) <;> simp only [h, ep, evS, tyS, Bool.not_true, Bool.not_false, Nat.reduceAdd, Nat.reduceSub, Nat.reduceMul, Nat.reduceLT, Nat.reduceLeDiff, Nat.reduceEqDiff, reduceCtorEq, List.reduceReplicate, Int.reduceToNat, Int.reduceLE, Int.reduceLT]) | (refine DrawK.intro (by kernel_rfl) (by kernel_rfl) ?_; simp only [ep, evS, tyS, Bool.not_true, Bool.not_false, Nat.reduceAdd, Nat.reduceSub, Nat.reduceMul, Nat.reduceLT, Nat.reduceLeDiff, Nat.reduceEqDiff, reduceCtorEq, List.reduceReplicate, Int.reduceToNat, Int.reduceLE, Int.reduceLT])))
      all_goals try omega
      refine CallK.intro b11 (by simp [treeL, treeA]) k11 ?_
      simp only [evS, tyS, Bool.not_true, Bool.not_false, Nat.reduceAdd, Nat.reduceSub, Nat.reduceMul, Nat.reduceLT, Nat.reduceLeDiff, Nat.reduceEqDiff, reduceCtorEq, List.reduceReplicate, Int.reduceToNat, Int.reduceLE, Int.reduceLT]
      refine CallK.intro b16 (by simp [treeL, treeA]) k16 ?_
      have z1 : (((1 : Nat) : Int) != 1) = false := by decide
      have z0 : (((0 : Nat) : Int) != 0) = false := by decide
      have zl : decide ((0 : Int) < ((1 : Nat) : Int)) = true := by decide
      have zz : ((0 : Int) != 0) = false := by decide
      simp only [tvals, z1, z0, zl, zz, evS, tyS, Bool.not_true, Bool.not_false, Nat.reduceAdd, Nat.reduceSub, Nat.reduceMul, Nat.reduceLT, Nat.reduceLeDiff, Nat.reduceEqDiff, reduceCtorEq, List.reduceReplicate, Int.reduceToNat, Int.reduceLE, Int.reduceLT]
      (repeat' (first | (with_reducible refine And.intro ?_ ?_) | ((first | refine GuardK.intro_f (fun h => ?_) (fun h => ?_) | refine GuardK.intro_t (fun h => ?_) (fun h => ?_) | refine CondK.intro (fun h => ?_) (fun h => ?_) | refine PickK.intro (fun h => ?_) (fun h => ?_)) <;> simp only [h, tvals, z1, z0, zl, zz, evS, tyS, Bool.not_true, Bool.not_false, Nat.reduceAdd, Nat.reduceSub, Nat.reduceMul, Nat.reduceLT, Nat.reduceLeDiff, Nat.reduceEqDiff, reduceCtorEq, List.reduceReplicate, Int.reduceToNat, Int.reduceLE, Int.reduceLT]) | (refine DrawK.intro (by kernel_rfl) (by kernel_rfl) ?_; simp only [tvals, z1, z0, zl, zz, evS, tyS, Bool.not_true, Bool.not_false, Nat.reduceAdd, Nat.reduceSub, Nat.reduceMul, Nat.reduceLT, Nat.reduceLeDiff, Nat.reduceEqDiff, reduceCtorEq, List.reduceReplicate, Int.reduceToNat, Int.reduceLE, Int.reduceLT])))
      all_goals try (first | omega | decide)
      refine CallK.intro b21 (by simp [treeL, treeA]) (same_ev (γ := γ) t ((0 : Nat) : Int) p) ?_
      simp only [ep, ew, evS, tyS, Bool.not_true, Bool.not_false, Nat.reduceAdd, Nat.reduceSub, Nat.reduceMul, Nat.reduceLT, Nat.reduceLeDiff, Nat.reduceEqDiff, reduceCtorEq, List.reduceReplicate, Int.reduceToNat, Int.reduceLE, Int.reduceLT]
      (repeat' (first | (with_reducible refine And.intro ?_ ?_) | ((first | refine GuardK.intro_f (fun h => ?_) (fun h => ?_) | refine GuardK.intro_t (fun h => ?_) (fun h => ?_) | refine CondK.intro (fun h => ?_) (fun h => ?_) | refine PickK.intro (fun h => ?_) (fun h => ?_)) <;> simp only [h, ep, ew, evS, tyS, Bool.not_true, Bool.not_false, Nat.reduceAdd, Nat.reduceSub, Nat.reduceMul, Nat.reduceLT, Nat.reduceLeDiff, Nat.reduceEqDiff, reduceCtorEq, List.reduceReplicate, Int.reduceToNat, Int.reduceLE, Int.reduceLT]) | (refine DrawK.intro (by kernel_rfl) (by kernel_rfl) ?_; simp only [ep, ew, evS, tyS, Bool.not_true, Bool.not_false, Nat.reduceAdd, Nat.reduceSub, Nat.reduceMul, Nat.reduceLT, Nat.reduceLeDiff, Nat.reduceEqDiff, reduceCtorEq, List.reduceReplicate, Int.reduceToNat, Int.reduceLE, Int.reduceLT])))
      refine loopC.intro (k + 1) (by omega) ?_ (by omega)
      refine ⟨rfl, rfl, ?_, .inr ⟨rfl, ?_, ?_⟩⟩
      · simp only [hfr, evS, tyS, Bool.not_true, Bool.not_false, Nat.reduceAdd, Nat.reduceSub, Nat.reduceMul, Nat.reduceLT, Nat.reduceLeDiff, Nat.reduceEqDiff, reduceCtorEq, List.reduceReplicate, Int.reduceToNat, Int.reduceLE, Int.reduceLT]
      · simp [okRefL, okRef]
      · rfl
    · have hk2 : k = T.length := by omega
      subst hk2
      have d1 : decide (T.length < T.length) = false := decide_eq_false (by omega)
      obtain ⟨g1, g2⟩ := chain_end T 0 stop hT
      have hge := nextT_ge l (frO 0 T T.length)
      have k20 : Ev Tryd.prog γ 20 [.sl b (stop - frO 0 T T.length) (l.length - frO 0 T T.length) ((l.map byteC).drop (frO 0 T T.length)), .v (.bool (err == 0))] (.v (.bool true)) := by
        refine cut_bytes (l := (l.drop (frO 0 T T.length)).take (stop - frO 0 T T.length)) (by rw [List.length_take, List.length_drop]; omega) (by omega) (map_cut _ _ _) (gap_ev b _ _ (by rw [List.length_take]; omega) ?_)
        rcases hend' with ⟨he, hst⟩ | ⟨he, hst⟩
        · have e0 : (err == 0) = true := by rw [he]; rfl
          rw [e0, List.take_of_length_le (by rw [List.length_drop]; omega)]
          exact gap_last g1 (by omega)
        · have e0 : (err == 0) = false := by simpa using he
          rw [e0, g2]
          exact gap_ahead (by omega) false
      generalize frO 0 T T.length = fr at *
      simp only [lenS_list37, d1, evS, tyS, Bool.not_true, Bool.not_false, Nat.reduceAdd, Nat.reduceSub, Nat.reduceMul, Nat.reduceLT, Nat.reduceLeDiff, Nat.reduceEqDiff, reduceCtorEq, List.reduceReplicate, Int.reduceToNat, Int.reduceLE, Int.reduceLT]
      (repeat' (first | (with_reducible refine And.intro ?_ ?_) | ((first | refine GuardK.intro_f (fun h => ?_) (fun h => ?_) | refine GuardK.intro_t (fun h => ?_) (fun h => ?_) | refine CondK.intro (fun h => ?_) (fun h => ?_) | refine PickK.intro (fun h => ?_) (fun h => ?_)) <;> simp only [h, lenS_list37, d1, evS, tyS, Bool.not_true, Bool.not_false, Nat.reduceAdd, Nat.reduceSub, Nat.reduceMul, Nat.reduceLT, Nat.reduceLeDiff, Nat.reduceEqDiff, reduceCtorEq, List.reduceReplicate, Int.reduceToNat, Int.reduceLE, Int.reduceLT]) | (refine DrawK.intro (by kernel_rfl) (by kernel_rfl) ?_; simp only [lenS_list37, d1, evS, tyS, Bool.not_true, Bool.not_false, Nat.reduceAdd, Nat.reduceSub, Nat.reduceMul, Nat.reduceLT, Nat.reduceLeDiff, Nat.reduceEqDiff, reduceCtorEq, List.reduceReplicate, Int.reduceToNat, Int.reduceLE, Int.reduceLT])))
      all_goals try omega
      refine CallK.intro b20 (by simp [treeL, treeA]) k20 ?_
      rw [show Tryd.f5.results.toList = [.tmp 2] by kernel_rfl]
      simp only [evS, tyS, Bool.not_true, Bool.not_false, Nat.reduceAdd, Nat.reduceSub, Nat.reduceMul, Nat.reduceLT, Nat.reduceLeDiff, Nat.reduceEqDiff, reduceCtorEq, List.reduceReplicate, Int.reduceToNat, Int.reduceLE, Int.reduceLT]
end Go.Proofs.YtplnhipgifcafaaDoor
namespace Go.Proofs.YtplnhipgifcafaaDoor
set_option linter.all false
open Go Go.Ev Go.RowKit
variable {γ : List (Nat × AV)}
theorem scan_none : scanA [] = .tup [.v (.slice none 0 0), .v (.int .i64 0), .v (.int .i64 0)] := by kernel_rfl
set_option maxHeartbeats 2000000 in
set_option maxRecDepth 20000 in
theorem lexParts_nil (hγ : Gl γ) (hγ2 : GlW γ) : Ev Tryd.prog γ 5 [.v (.slice none 0 0)] (.v (.bool true)) := by
  have k16 : Ev Tryd.prog γ 16 [.sl false 0 2 (([201, 202] : List UInt8).map byteC)] (.tup [.v (.slice none 0 0), .v (.int .i64 0), .v (.int .i64 0)]) := scan_lent hγ hγ2 (l := []) (by simp) scan_none
  have kk := gap_nil (γ := γ) true
  have z3 : ((0 : Int) == 3) = false := by decide
  have z0 : ((0 : Int) != 0) = false := by decide
  have ze : ((0 : Int) == 0) = true := by decide
  refine Ev.of Tryd.func5 rfl ?_
  simp only [Tryd.f5, evS, tyS, Bool.not_true, Bool.not_false, Nat.reduceAdd, Nat.reduceSub, Nat.reduceMul, Nat.reduceLT, Nat.reduceLeDiff, Nat.reduceEqDiff, reduceCtorEq, List.reduceReplicate, Int.reduceToNat, Int.reduceLE, Int.reduceLT]
  refine CallK.intro b19 rfl (awake_ev hγ hγ2) ?_
  simp only [evS, tyS, Bool.not_true, Bool.not_false, Nat.reduceAdd, Nat.reduceSub, Nat.reduceMul, Nat.reduceLT, Nat.reduceLeDiff, Nat.reduceEqDiff, reduceCtorEq, List.reduceReplicate, Int.reduceToNat, Int.reduceLE, Int.reduceLT]
  refine CallK.intro b11 rfl lent_nil ?_
  simp only [evS, tyS, Bool.not_true, Bool.not_false, Nat.reduceAdd, Nat.reduceSub, Nat.reduceMul, Nat.reduceLT, Nat.reduceLeDiff, Nat.reduceEqDiff, reduceCtorEq, List.reduceReplicate, Int.reduceToNat, Int.reduceLE, Int.reduceLT]
  refine CallK.intro b16 (by simp [treeL, treeA]) k16 ?_
  simp only [z3, z0, evS, tyS, Bool.not_true, Bool.not_false, Nat.reduceAdd, Nat.reduceSub, Nat.reduceMul, Nat.reduceLT, Nat.reduceLeDiff, Nat.reduceEqDiff, reduceCtorEq, List.reduceReplicate, Int.reduceToNat, Int.reduceLE, Int.reduceLT]
  (repeat' (first | (with_reducible refine And.intro ?_ ?_) | ((first | refine GuardK.intro_f (fun h => ?_) (fun h => ?_) | refine GuardK.intro_t (fun h => ?_) (fun h => ?_) | refine CondK.intro (fun h => ?_) (fun h => ?_) | refine PickK.intro (fun h => ?_) (fun h => ?_)) <;> simp only [h, z3, z0, evS, tyS, Bool.not_true, Bool.not_false, Nat.reduceAdd, Nat.reduceSub, Nat.reduceMul, Nat.reduceLT, Nat.reduceLeDiff, Nat.reduceEqDiff, reduceCtorEq, List.reduceReplicate, Int.reduceToNat, Int.reduceLE, Int.reduceLT]) | (refine DrawK.intro (by kernel_rfl) (by kernel_rfl) ?_; simp only [z3, z0, evS, tyS, Bool.not_true, Bool.not_false, Nat.reduceAdd, Nat.reduceSub, Nat.reduceMul, Nat.reduceLT, Nat.reduceLeDiff, Nat.reduceEqDiff, reduceCtorEq, List.reduceReplicate, Int.reduceToNat, Int.reduceLE, Int.reduceLT])))
  all_goals try (((try simp only [decide_eq_true_eq, decide_eq_false_iff_not, beq_iff_eq, bne_iff_ne, ne_eq, beq_eq_false_iff_ne, bne_eq_false_iff_eq] at *) <;> (try omega)); done)
  refine LoopK.intro (fun _ : Unit => ⟨⟨159, [(0, .v (.slice none 0 0)), (3, .v (.slice none 0 0)), (5, .v (.int .i64 0)), (6, .v (.int .i64 0)), (10, .v (.int .i64 0)), (11, .v (.int .i64 0))], γ⟩, []⟩) (fun _ => True) (fun _ => 0) () ?_ trivial (fun _ _ => ?_)
  · simp only [evS, tyS, Bool.not_true, Bool.not_false, Nat.reduceAdd, Nat.reduceSub, Nat.reduceMul, Nat.reduceLT, Nat.reduceLeDiff, Nat.reduceEqDiff, reduceCtorEq, List.reduceReplicate, Int.reduceToNat, Int.reduceLE, Int.reduceLT]
    (repeat' (first | (with_reducible refine And.intro ?_ ?_) | ((first | refine GuardK.intro_f (fun h => ?_) (fun h => ?_) | refine GuardK.intro_t (fun h => ?_) (fun h => ?_) | refine CondK.intro (fun h => ?_) (fun h => ?_) | refine PickK.intro (fun h => ?_) (fun h => ?_)) <;> simp only [h, evS, tyS, Bool.not_true, Bool.not_false, Nat.reduceAdd, Nat.reduceSub, Nat.reduceMul, Nat.reduceLT, Nat.reduceLeDiff, Nat.reduceEqDiff, reduceCtorEq, List.reduceReplicate, Int.reduceToNat, Int.reduceLE, Int.reduceLT]) | (refine DrawK.intro (by kernel_rfl) (by kernel_rfl) ?_; simp only [evS, tyS, Bool.not_true, Bool.not_false, Nat.reduceAdd, Nat.reduceSub, Nat.reduceMul, Nat.reduceLT, Nat.reduceLeDiff, Nat.reduceEqDiff, reduceCtorEq, List.reduceReplicate, Int.reduceToNat, Int.reduceLE, Int.reduceLT])))
    all_goals first | done | rfl | exact .inl rfl | trace_state
  · simp only [Int.lt_irrefl, decide_false, ze, evS, tyS, Bool.not_true, Bool.not_false, Nat.reduceAdd, Nat.reduceSub, Nat.reduceMul, Nat.reduceLT, Nat.reduceLeDiff, Nat.reduceEqDiff, reduceCtorEq, List.reduceReplicate, Int.reduceToNat, Int.reduceLE, Int.reduceLT]
    (repeat' (first | (with_reducible refine And.intro ?_ ?_) | ((first | refine GuardK.intro_f (fun h => ?_) (fun h => ?_) | refine GuardK.intro_t (fun h => ?_) (fun h => ?_) | refine CondK.intro (fun h => ?_) (fun h => ?_) | refine PickK.intro (fun h => ?_) (fun h => ?_)) <;> simp only [h, ze, evS, tyS, Bool.not_true, Bool.not_false, Nat.reduceAdd, Nat.reduceSub, Nat.reduceMul, Nat.reduceLT, Nat.reduceLeDiff, Nat.reduceEqDiff, reduceCtorEq, List.reduceReplicate, Int.reduceToNat, Int.reduceLE, Int.reduceLT]) | (refine DrawK.intro (by kernel_rfl) (by kernel_rfl) ?_; simp only [ze, evS, tyS, Bool.not_true, Bool.not_false, Nat.reduceAdd, Nat.reduceSub, Nat.reduceMul, Nat.reduceLT, Nat.reduceLeDiff, Nat.reduceEqDiff, reduceCtorEq, List.reduceReplicate, Int.reduceToNat, Int.reduceLE, Int.reduceLT])))
    all_goals try (((try simp only [decide_eq_true_eq, decide_eq_false_iff_not, beq_iff_eq, bne_iff_ne, ne_eq, beq_eq_false_iff_ne, bne_eq_false_iff_eq] at *) <;> (try omega)); done)
    all_goals (refine CallK.intro b20 rfl kk ?_; simp only [evS, tyS, Bool.not_true, Bool.not_false, Nat.reduceAdd, Nat.reduceSub, Nat.reduceMul, Nat.reduceLT, Nat.reduceLeDiff, Nat.reduceEqDiff, reduceCtorEq, List.reduceReplicate, Int.reduceToNat, Int.reduceLE, Int.reduceLT])
theorem lexParts_ev (hγ : Gl γ) (hγ2 : GlW γ) (b : Bool) (l : List UInt8) (hl : l.length ≤ 140737488351232) : Ev Tryd.prog γ 5 [.sl b l.length l.length (l.map byteC)] (.v (.bool true)) := by
  by_cases h : 32768 < l.length
  · exact lexParts_big hγ hγ2 b l hl h
  · exact lexParts_small hγ hγ2 b l (by omega)
end Go.Proofs.YtplnhipgifcafaaDoor
/- LexParts: for every text the law answers true, and the text reads afterwards as it did: her row, and the card over it. -/
namespace Go.Proofs.YtplnhipgifcafaaDoor
set_option linter.all false
open Go Go.Ev Go.Lib
open Go.ChangeShapes Go.WideShapes Go.ChangeAt Go.RowKit
open Go.ChangeMaps (open_string shut_string)
namespace lexParts
set_option maxRecDepth 100000 in
theorem contract (H : Type) (enc : TypeId × Value → H) (W : World) (base : Nat) (args : Array Value) (ds gs : List (DataW H)) (before : List MemPlace)
    (hval : ∀ (j : Nat) t v, Tryd.f5.params[j]? = some t → args[j]? = some v → Value.okWide Tryd.prog W .any base t v)
    (hW : DataW.Whole enc Tryd.prog Tryd.f5.params.toList Rows.lexPartsSpec.vars false W args.toList ds gs before)
    (hsz : (DataW.weightsEach Tryd.prog (Tryd.f5.params.toList ++ Rows.lexPartsSpec.plain.varTypes Tryd.prog) (ds ++ gs)).all (· ≤ reachBytes) = true)
    (hL : laidMet Tryd.prog laidL W) (hS : W.ShapedOpen Tryd.prog) :
    Calls Tryd.prog 5 args W fun e W' => ∃ v, e = .returned v ∧ Rows.lexPartsSpec.post enc Tryd.prog Tryd.f5 false true false false W args v W' := by
  have hW' := hW
  obtain ⟨p, q, hA0, hV, rfl, hfz, hnd⟩ := hW
  have hA : DataW.TrodAll enc Tryd.prog W 0 (fun _ => true) true Tryd.f5.params.toList args.toList ds p := hA0
  rw [Tryd.params5] at hA hval hsz
  obtain ⟨v0, vs0, d0, ds0, p0, q0, hargs, rfl, rfl, h0, r0⟩ := trodAll_cons hA
  obtain ⟨rfl, rfl, rfl⟩ := trodAll_nil r0
  obtain rfl : args = #[v0] := by cases args; simp_all
  obtain ⟨rfl, rfl⟩ := trodVars_none hV
  have hs0 := okWide_sl Tryd.underlying22 (hval 0 22 v0 rfl rfl)
  obtain ⟨a0, len0, cap0, hv0⟩ := okWide_slice Tryd.underlying22 (hval 0 22 v0 rfl rfl)
  have k0 := h0
  have lt0 : ∀ x ∈ p0, x.block < W.heap.size := by obtain ⟨m, hm⟩ := k0; exact DataW.trod_lt m _ _ _ hm
  have y0 : len0 * 1 ≤ 140737488351232 := by
    rw [hv0] at h0
    exact size_ints hsz (j := 0) (t := 22) rfl rfl Tryd.underlying22 Tryd.underlying5 (by kernel_rfl) (by kernel_rfl) h0
  let c : Cx := cx0 Tryd.prog (fun _ => False) (fun _ => False) W
  have hrow : ∃ l : List UInt8, l.length = len0 ∧ ((v0 = .slice none 0 0 ∧ l = [] ∧ rel (.v (.slice none 0 0)) c v0) ∨ rel (.sl false l.length l.length (l.map byteC)) c v0) := by
    have h0' := h0
    rw [hv0] at h0'
    obtain ⟨fuel, hf⟩ := h0'
    rcases open_ints Tryd.underlying22 Tryd.underlying5 (by kernel_rfl) hf with ⟨hcs, _⟩ | ⟨x, l, cp, zs, hcs, _, hl, hm, hz, _, hcell, hwz⟩
    · simp [Value.cells] at hcs
      obtain ⟨rfl, rfl, rfl⟩ := hcs
      exact ⟨[], rfl, .inl ⟨hv0, rfl, by simp only [rel]; exact hv0⟩⟩
    · simp [Value.cells] at hcs
      obtain ⟨rfl, rfl, rfl⟩ := hcs
      exact rowAV (c := c) rfl (fun r hr => ⟨hr, by simp⟩) hv0 hs0 (by simpa using hz) (fun y hy => by cases hy; exact hcell) hwz
  clear hA0 hsz
  obtain ⟨l, hl, hrow⟩ := hrow
  have hl' : l.length ≤ 140737488351232 := by omega
  obtain ⟨m, hm⟩ := maxLen_cell hS
  obtain ⟨te, pe, hpe⟩ := errRange_cell hL
  have hcalls : Calls Tryd.prog 5 #[v0] W fun e w' => ∃ u, e = .returned u ∧ rel (.v (.bool true)) (cx0 Tryd.prog (fun _ => False) (fun _ => False) w') u ∧ Below W.heap.size W w' := by
    rcases hrow with ⟨rfl, rfl, hr⟩ | hr
    · refine calls_of_ev (lexParts_nil (gam_gl m te pe) (gam_glw m te pe)) hm hpe ?_
      simp only [relL, rel]
      exact ⟨_, _, rfl, rfl, rfl⟩
    · refine calls_of_ev (lexParts_ev (gam_gl m te pe) (gam_glw m te pe) false l hl') hm hpe ?_
      simp only [relL]
      exact ⟨_, _, rfl, hr, rfl⟩
  refine hcalls.mono fun e W' ⟨u, he, hu, bel⟩ => ?_
  simp only [rel] at hu
  subst he
  subst hu
  exact ⟨_, rfl, _, _, _, [], _, [], hW', trodAll_mk1 (shut_bool Tryd.underlying4 _), (trodAll_cons_mk (Below.trod laidOut (by kernel_rfl) (of_decide_eq_true (by kernel_rfl)) k0 bel lt0) trodAll_mk0), rfl, bel.frame _, fun h => by cases h⟩
theorem witness_row (os : Os) {H : Type} (enc : TypeId × Value → H) : (OpenSpec.ofChange Rows.lexPartsSpec).preRow enc Tryd.prog Tryd.f5 Rows.lexPartsRow.domain false Rows.lexPartsRow.laid ((laidWorld os).forCall (fun _ _ => 0) ⟨#[], #[.slice none 0 0], []⟩).memory #[.slice none 0 0] := by
  have hw : ((DataW.whole enc Tryd.prog ((laidWorld os).forCall (fun _ _ => 0) ⟨#[], #[.slice none 0 0], []⟩).memory Tryd.f5.params.toList Rows.lexPartsSpec.vars false #[Value.slice none 0 0].toList 8).map (fun x => (x.1, x.2.1))).isSome = true := by kernel_rfl
  obtain ⟨x, hx⟩ := Option.isSome_iff_exists.1 hw
  obtain ⟨⟨x1, x2, x3⟩, hx', hx1⟩ := Option.map_eq_some_iff.1 hx
  exact OpenSpec.preRow_of_cond 8 hx' (by kernel_rfl) (fun k hk => by cases hk) (by kernel_rfl) (laid_met os _)
set_option maxRecDepth 100000 in
theorem lifted (os : Os) (started : os.Started) (H : Type) (enc : TypeId × Value → H) (F : Stop.Interp) :
    ReturnsInHanded {} Tryd.checked os 5 .any ((OpenSpec.ofChange Rows.lexPartsSpec).preRow enc Tryd.prog Tryd.f5 Rows.lexPartsRow.domain false Rows.lexPartsRow.laid) (((OpenSpec.ofChange Rows.lexPartsSpec).at F).post enc Tryd.prog Tryd.f5 false true false false) := by
  refine returnsInHanded_of_row (C := Tryd.checked) (s := OpenSpec.ofChange Rows.lexPartsSpec) own started (by kernel_rfl) Tryd.func5
    (witness_row_atRef (enc := enc) (C := Tryd.checked) false (laidWorld os) #[.slice none 0 0] rfl (by kernel_rfl) (by kernel_rfl) (by kernel_rfl) (witness_row os enc)) ?_
  intro W base args ds gs before hval hW _ _ hsz hL hS _
  exact contract H enc W base args ds gs before hval hW hsz hL hS
theorem said : Rows.LexPartsSaid :=
  OpenClaim.holds_of_cond 5 Tryd.f5 rfl rfl rfl rfl rfl rfl rfl ⟨rfl, rfl, rfl, rfl, rfl⟩ rfl rfl rfl rfl rfl (by kernel_rfl) Tryd.func5 (by kernel_rfl)
    (of_decide_eq_true (by kernel_rfl)) (by unfold Func.isWrapper; first | (rw [if_pos (by decide +kernel)]; kernel_rfl) | (rw [if_neg (by decide +kernel)]; exact ⟨rfl, rfl⟩))
    (fun os started H enc _ F => by rw [OpenClaim.pre_eq_preRow]; exact lifted os started H enc F)
/-- No parameter wants a stand-in; the program's own looks are off: what the card asks. -/
theorem plain (f : FuncId) (fn : Func) (hf : Tryd.pinned.checked.prog.funcNamed "chordmail/chordmaillaw01.LexParts" = some f) (hfn : Tryd.pinned.checked.prog.funcs[f]? = some fn) :
    true = Tryd.pinned.checked.prog.looks [] ∧ ∀ (j : Nat) t, fn.params[j]? = some t → Tryd.pinned.checked.prog.wantsStandIn t = false := by
  obtain rfl : f = 5 := Option.some.inj ((show Tryd.prog.funcNamed "chordmail/chordmaillaw01.LexParts" = some 5 by kernel_rfl).symm.trans hf) |>.symm
  obtain rfl : fn = Tryd.f5 := (Option.some.inj (Tryd.func5.symm.trans hfn)).symm
  refine ⟨by kernel_rfl, fun j t ht => ?_⟩
  rw [Tryd.params5] at ht
  obtain rfl : t = 22 := by simpa using Array.mem_of_getElem? ht
  exact (show Tryd.prog.wantsStandIn 22 = false by kernel_rfl)
end lexParts
theorem lexParts_holds : Rows.LexPartsCardSaid :=
  Claim7.holds_tied_plain_at .later [] _ _ _ _ lexParts.said (fun _ h => by cases h) (by kernel_rfl) (fun _ h => by cases h) lexParts_row_tie rfl ⟨rfl, rfl⟩ (by kernel_rfl) rfl lexParts.plain (by kernel_rfl)
#print axioms lexParts_holds
end Go.Proofs.YtplnhipgifcafaaDoor
