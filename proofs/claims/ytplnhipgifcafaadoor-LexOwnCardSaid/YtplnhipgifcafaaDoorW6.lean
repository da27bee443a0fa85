/- Contracts of the functions that the law reaches. -/
import Derived.Test.YtplnhipgifcafaaDoorW5
namespace Go.Proofs.YtplnhipgifcafaaDoor
set_option linter.all false
open Go Go.Ev
variable {γ : List (Nat × AV)}
theorem dE_drop (l : List UInt8) (p i : Nat) : digitsEnd (l.drop p) i + p = digitsEnd l (p + i) := by
  unfold digitsEnd
  rw [List.drop_drop]
  omega
theorem lz_out {l : List UInt8} {most : Int} (h : 1 < l.length ∧ atL l 0 = 48) : decO l most = false := by
  unfold decO; exact decide_eq_false (fun q => q.1 h)
theorem realO_rreal {sg : Nat} (hsg : sg = 0 ∨ sg = 1) {a c : List UInt8} {f : Nat} (ha : ¬ (1 < a.length ∧ atL a 0 = 48)) (hc : ¬ (1 < c.length ∧ atL c 0 = 48)) (hf : nameN f = false) : realO sg a c f = rrealO sg a c := by
  rw [Bool.eq_iff_iff, realO_iff, rrealO_iff]
  have h1 : decO a 9007199254740991 = true ↔ decV a < 9007199254740992 := by
    unfold decO
    rw [decide_eq_true_eq]
    constructor
    · rintro ⟨_, _, h⟩; omega
    · intro h; exact ⟨ha, by omega, by omega⟩
  have h2 : decO c (1023 + 51 * sg) = true ↔ decV c ≤ 1023 + 51 * sg := by
    unfold decO
    rw [decide_eq_true_eq]
    constructor
    · rintro ⟨_, _, h⟩; omega
    · intro h; exact ⟨hc, by omega, by omega⟩
  rw [h1, h2]
  constructor
  · rintro ⟨a1, a2, a3, a4, _, a6⟩; exact ⟨a1, a2, a3, a4, a6⟩
  · rintro ⟨a1, a2, a3, a4, a6⟩; exact ⟨a1, a2, a3, a4, hf, a6⟩
/-- What ref.number sees, in the words of the text from its place on. -/
theorem refNum_real (l : List UInt8) (p n sg : Nat) (hp : p + n ≤ l.length) (hn : n = digitsEnd l p - p) (hge : p ≤ digitsEnd l p) (hs : sg = sgOf (l.drop p)) (h112 : atL l (p + n) = 112) (hd : digitN (atL l (p + n + 1 + sg)) = true) :
    endF l (p + n) = (digitsEnd l (p + n + 1 + sg) - (p + n), sg + 1) ∧ numberD (l.drop p) = realD (l.drop p) n sg ∧ (sg = 0 ∨ sg = 1) ∧ p + n + 1 + sg < digitsEnd l (p + n + 1 + sg) ∧ digitsEnd l (p + n + 1 + sg) ≤ l.length := by
  have hlt := digitsEnd_lt hd
  have hl2 := (digitsEnd_step hd).2
  have hle := digitsEnd_le (l := l) (i := p + n + 1 + sg) (by omega)
  have hdn : digitsEnd (l.drop p) 0 = n := by have := dE_drop l p 0; rw [Nat.add_zero] at this; omega
  have hsg : sg = if atL l (p + n + 1) = 45 then 1 else 0 := by
    rw [hs]; unfold sgOf
    rw [hdn, atL_dropk, atL_dropk, ← Nat.add_assoc]
    by_cases h : atL l (p + n + 1) = 45
    · rw [if_pos ⟨h112, h⟩, if_pos h]
    · rw [if_neg (fun q => h q.2), if_neg h]
  have hhead : headF l (p + n) = sg + 1 := by
    unfold headF; rw [hsg]; split <;> rfl
  have hspan : spanN l (p + n + headF l (p + n)) = digitsEnd l (p + n + 1 + sg) - (p + n + 1 + sg) := by
    unfold spanN
    rw [hhead, ← digitsEnd_span, show p + n + (sg + 1) = p + n + 1 + sg from by omega]
  refine ⟨?_, ?_, ?_, hlt, hle⟩
  · unfold endF
    rw [if_neg (by omega), if_neg (by rw [hspan]; omega), hspan, hhead]
    congr 1; omega
  · unfold numberD
    rw [hdn, ← hs, if_pos ⟨by rw [atL_dropk]; exact h112, by rw [atL_dropk, ← Nat.add_assoc, ← Nat.add_assoc]; exact hd⟩]
  · rw [hsg]; split
    · exact .inr rfl
    · exact .inl rfl
theorem refNum_int (l : List UInt8) (p n sg : Nat) (hp : p + n ≤ l.length) (hn : n = digitsEnd l p - p) (hge : p ≤ digitsEnd l p) (hs : sg = sgOf (l.drop p)) (h : ¬ (atL l (p + n) = 112 ∧ digitN (atL l (p + n + 1 + sg)) = true)) :
    endF l (p + n) = (0, 0) ∧ numberD (l.drop p) = if decO (numL (l.drop p) 0) 9223372036854775807 = true ∧ nameN (atL l (p + n)) = false then .ok ⟨2, [], decV (numL (l.drop p) 0), 0, n⟩ else .error 12 := by
  have hdn : digitsEnd (l.drop p) 0 = n := by have := dE_drop l p 0; rw [Nat.add_zero] at this; omega
  constructor
  · unfold endF
    by_cases h112 : atL l (p + n) = 112
    · rw [if_neg (by omega)]
      have hsg : sg = if atL l (p + n + 1) = 45 then 1 else 0 := by
        rw [hs]; unfold sgOf
        rw [hdn, atL_dropk, atL_dropk, ← Nat.add_assoc]
        by_cases h : atL l (p + n + 1) = 45
        · rw [if_pos ⟨h112, h⟩, if_pos h]
        · rw [if_neg (fun q => h q.2), if_neg h]
      have hhead : headF l (p + n) = sg + 1 := by
        unfold headF; rw [hsg]; split <;> rfl
      have hnd : digitN (atL l (p + n + 1 + sg)) = false := by
        cases hc : digitN (atL l (p + n + 1 + sg)) with
        | true => exact absurd ⟨h112, hc⟩ h
        | false => rfl
      have hst := digitsEnd_stop hnd
      rw [if_pos]
      unfold spanN
      rw [hhead, ← digitsEnd_span, show p + n + (sg + 1) = p + n + 1 + sg from by omega, hst]
      omega
    · rw [if_pos h112]
  · unfold numberD
    rw [hdn, ← hs, if_neg (by rw [atL_dropk, atL_dropk, ← Nat.add_assoc, ← Nat.add_assoc]; exact h), atL_dropk]
theorem b42' : bodyT Tryd.prog 42 := ⟨_, Tryd.func42, by kernel_rfl, by kernel_rfl⟩
/-- Does a name's byte stand there? As the reference asks it. -/
theorem nameN_or (x : Nat) : nameN x = (letterN x || digitN x || decide (x = 95)) := rfl
set_option maxHeartbeats 4000000 in
set_option maxRecDepth 20000 in
theorem refNumberR_ev (b : Bool) (l : List UInt8) (p : Nat) (hd : digitN (atL l p) = true) (hl : l.length ≤ 140737488351232)
    (hreal : atL l (p + (digitsEnd l p - p)) = 112 ∧ digitN (atL l (p + (digitsEnd l p - p) + 1 + sgOf (l.drop p))) = true) :
    Ev Tryd.prog γ 42 [.sl b l.length l.length (l.map byteC), .v (.int .i64 p)] (resTP p (numberD (l.drop p))) := by
  refine Ev.of Tryd.func42 rfl ?_
  have hlt := digitsEnd_lt hd
  have hpl := (digitsEnd_step hd).2
  have hle := digitsEnd_le (l := l) (i := p) (by omega)
  obtain ⟨n, hn⟩ : ∃ n, n = digitsEnd l p - p := ⟨_, rfl⟩
  obtain ⟨sg, hsg⟩ : ∃ sg, sg = sgOf (l.drop p) := ⟨_, rfl⟩
  rw [← hn, ← hsg] at hreal
  have hdg := refDigits_ev (γ := γ) b l p (by omega) (by omega)
  rw [← digitsEnd_span, ← hn] at hdg
  have hen := refEnd_ev (γ := γ) b l (p + n) (by omega) (by omega)
  have w1 : IntKind.i64.wrap ((p : Int) + (n : Int)) = ((p + n : Nat) : Int) := (i64w (by omega) (by omega)).trans (by omega)
  have ea : ∀ j, (l.getD j 0).toNat = atL l j := fun _ => rfl
  simp only [Tryd.f42, evS, tyS, Bool.not_true, Bool.not_false, Nat.reduceAdd, Nat.reduceSub, Nat.reduceMul, Nat.reduceLT, Nat.reduceLeDiff, Nat.reduceEqDiff, reduceCtorEq, List.reduceReplicate, Int.reduceToNat, Int.reduceLE, Int.reduceLT]
  refine CallK.intro b64 (by simp [treeL, treeA]) hdg ?_
  simp only [w1, evS, tyS, Bool.not_true, Bool.not_false, Nat.reduceAdd, Nat.reduceSub, Nat.reduceMul, Nat.reduceLT, Nat.reduceLeDiff, Nat.reduceEqDiff, reduceCtorEq, List.reduceReplicate, Int.reduceToNat, Int.reduceLE, Int.reduceLT]
  obtain ⟨hE, hND, hs01, hlt2, hle2⟩ := refNum_real l p n sg (by omega) hn (by omega) hsg hreal.1 hreal.2
  rw [hE] at hen
  refine CallK.intro b65 (by simp [treeL, treeA]) hen ?_
  obtain ⟨E, hE'⟩ : ∃ E, E = digitsEnd l (p + n + 1 + sg) := ⟨_, rfl⟩
  have hEb : p + n + 1 + sg < E ∧ E ≤ l.length := by rw [hE']; exact ⟨hlt2, hle2⟩
  clear hlt2 hle2
  obtain ⟨A, hA⟩ : ∃ A, A = numL (l.drop p) 0 := ⟨_, rfl⟩
  obtain ⟨C, hC⟩ : ∃ C, C = numL (l.drop p) (n + 1 + sg) := ⟨_, rfl⟩
  have hdn : digitsEnd (l.drop p) 0 = n := by have := dE_drop l p 0; rw [Nat.add_zero] at this; omega
  have hdE : digitsEnd (l.drop p) (n + 1 + sg) = E - p := by have := dE_drop l p (n + 1 + sg); rw [← Nat.add_assoc, ← Nat.add_assoc, ← hE'] at this; omega
  have hA' : A = (l.drop p).take (p + n - p) := by rw [hA, numL, hdn, List.drop_zero]; congr 1; omega
  have hC' : C = (l.drop (p + n + (sg + 1))).take (p + n + (E - (p + n)) - (p + n + (sg + 1))) := by
    rw [hC, numL, hdE, List.drop_drop, show p + (n + 1 + sg) = p + n + (sg + 1) from by omega]; congr 1; omega
  have hAl : A.length = n := by rw [hA', List.length_take, List.length_drop]; omega
  have hCl : C.length = E - (p + n + (sg + 1)) := by rw [hC', List.length_take, List.length_drop]; omega
  have hA0 : atL A 0 = atL l p := by rw [hA', atL_take (by omega), atL_dropk]; rfl
  have hC0 : atL C 0 = atL l (p + n + (sg + 1)) := by rw [hC', atL_take (by omega), atL_dropk]; rfl
  have hres : resTP p (numberD (l.drop p)) = if realO sg A C (atL l E) = true then okTok (tokA 3 [] 0 (.v (.float .f64 (realB (decV A) (expOf sg (decV C))))) p (n + (E - (p + n)) : Nat)) else errTok 12 := by
    rw [hND, realD, ← hA, ← hC, hdE, atL_dropk, show p + (E - p) = E from by omega]
    split
    · show okTok (tokA 3 [] 0 _ _ ((E - p : Nat) : Int)) = _
      rw [show n + (E - (p + n)) = E - p from by omega]
    · rfl
  have hreal66 := refReal_ev (γ := γ) b l p n (E - (p + n)) sg A C hA' hC' (by omega) hs01 (by omega) (by omega)
    (fun k hk => by rw [hA', atL_take hk, atL_dropk]; exact digitsEnd_all k rfl (by omega))
    (fun k hk => by rw [hC', atL_take hk, atL_dropk]; exact digitsEnd_all (i := p + n + 1 + sg) k (by omega) (by rw [← hE']; omega))
  have hrr := fun h1 h2 h3 => realO_rreal (a := A) (c := C) (f := atL l E) hs01 h1 h2 h3
  have hlzA := fun (h : 1 < A.length ∧ atL A 0 = 48) => lz_out (most := 9007199254740991) h
  have hlzC := fun (h : 1 < C.length ∧ atL C 0 = 48) => lz_out (most := 1023 + 51 * sg) h
  rw [hAl, hA0] at hlzA
  rw [hCl, hC0] at hlzC
  rw [hAl, hA0, hCl, hC0] at hrr
  have hro : realO sg A C (atL l E) = true → decO A 9007199254740991 = true ∧ decO C (1023 + 51 * sg) = true ∧ nameN (atL l E) = false := fun h => by
    have := realO_iff.1 h; exact ⟨this.1, this.2.1, this.2.2.2.2.1⟩
  rw [hres]
  generalize realO sg A C (atL l E) = ro at *
  rw [← hE']
  have w5 : IntKind.i64.wrap (((p + n : Nat) : Int) + ((E - (p + n) : Nat) : Int)) = (E : Int) := (i64w (by omega) (by omega)).trans (by omega)
  have w6 : IntKind.i64.wrap (((sg + 1 : Nat) : Int) + 1) = ((sg + 1 + 1 : Nat) : Int) := (i64w (by omega) (by omega)).trans (by omega)
  have w7 : IntKind.i64.wrap (((p + n : Nat) : Int) + ((sg + 1 : Nat) : Int)) = ((p + n + (sg + 1) : Nat) : Int) := (i64w (by omega) (by omega)).trans (by omega)
  have dEl : decide ((E : Int) < (l.length : Int)) = decide (E < l.length) := by
    by_cases h : E < l.length
    · rw [decide_eq_true h, decide_eq_true]; omega
    · rw [decide_eq_false h, decide_eq_false]; omega
  have dpos : decide ((0 : Int) < ((E - (p + n) : Nat) : Int)) = true := decide_eq_true (by omega)
  have kp48 : ((atL l p : Int) == 48) = decide (atL l p = 48) := by
    by_cases h : atL l p = 48
    · simp [h]
    · rw [decide_eq_false h]; simp; omega
  have k48 : ((atL l (p + n + (sg + 1)) : Int) == 48) = decide (atL l (p + n + (sg + 1)) = 48) := by
    by_cases h : atL l (p + n + (sg + 1)) = 48
    · simp [h]
    · rw [decide_eq_false h]; simp; omega
  have dn1 : decide ((1 : Int) < (n : Int)) = decide (1 < n) := by
    by_cases h : 1 < n
    · rw [decide_eq_true h, decide_eq_true]; omega
    · rw [decide_eq_false h, decide_eq_false]; omega
  have dsg : decide (((sg + 1 + 1 : Nat) : Int) < ((E - (p + n) : Nat) : Int)) = decide (sg + 1 + 1 < E - (p + n)) := by
    by_cases h : sg + 1 + 1 < E - (p + n)
    · rw [decide_eq_true h, decide_eq_true]; omega
    · rw [decide_eq_false h, decide_eq_false]; omega
  have kE95 : ((atL l E : Int) == 95) = decide (atL l E = 95) := by
    by_cases h : atL l E = 95
    · simp [h]
    · rw [decide_eq_false h]; simp; omega
  clear hres hND hen hdg hA' hC' hA hC hdE hdn hE' hE
  simp only [w1, w5, w6, w7, ea, dEl, dpos, kp48, k48, dn1, dsg, kE95, evS, tyS, Bool.not_true, Bool.not_false, Nat.reduceAdd, Nat.reduceSub, Nat.reduceMul, Nat.reduceLT, Nat.reduceLeDiff, Nat.reduceEqDiff, reduceCtorEq, List.reduceReplicate, Int.reduceToNat, Int.reduceLE, Int.reduceLT]
  (repeat' (first | (with_reducible refine And.intro ?_ ?_) | ((first | refine GuardK.intro_f (fun h => ?_) (fun h => ?_) | refine GuardK.intro_t (fun h => ?_) (fun h => ?_) | refine CondK.intro (fun h => ?_) (fun h => ?_) | refine PickK.intro (fun h => ?_) (fun h => ?_)) <;> simp only [h, w1, w5, w6, w7, ea, dEl, dpos, kp48, k48, dn1, dsg, kE95, evS, tyS, Bool.not_true, Bool.not_false, Nat.reduceAdd, Nat.reduceSub, Nat.reduceMul, Nat.reduceLT, Nat.reduceLeDiff, Nat.reduceEqDiff, reduceCtorEq, List.reduceReplicate, Int.reduceToNat, Int.reduceLE, Int.reduceLT]) | (refine DrawK.intro (by kernel_rfl) (by kernel_rfl) ?_; simp only [w1, w5, w6, w7, ea, dEl, dpos, kp48, k48, dn1, dsg, kE95, evS, tyS, Bool.not_true, Bool.not_false, Nat.reduceAdd, Nat.reduceSub, Nat.reduceMul, Nat.reduceLT, Nat.reduceLeDiff, Nat.reduceEqDiff, reduceCtorEq, List.reduceReplicate, Int.reduceToNat, Int.reduceLE, Int.reduceLT])))
  all_goals try (((try simp only [decide_eq_true_eq, decide_eq_false_iff_not, beq_iff_eq, bne_iff_ne, ne_eq, beq_eq_false_iff_ne, bne_eq_false_iff_eq] at *) <;> (try omega)); done)
  all_goals try (refine CallK.intro b40 rfl (refLetter_ev _) ?_; simp only [w1, w5, w6, w7, ea, dEl, dpos, kp48, k48, dn1, dsg, kE95, evS, tyS, Bool.not_true, Bool.not_false, Nat.reduceAdd, Nat.reduceSub, Nat.reduceMul, Nat.reduceLT, Nat.reduceLeDiff, Nat.reduceEqDiff, reduceCtorEq, List.reduceReplicate, Int.reduceToNat, Int.reduceLE, Int.reduceLT]; (repeat' (first | (with_reducible refine And.intro ?_ ?_) | ((first | refine GuardK.intro_f (fun h => ?_) (fun h => ?_) | refine GuardK.intro_t (fun h => ?_) (fun h => ?_) | refine CondK.intro (fun h => ?_) (fun h => ?_) | refine PickK.intro (fun h => ?_) (fun h => ?_)) <;> simp only [h, w1, w5, w6, w7, ea, dEl, dpos, kp48, k48, dn1, dsg, kE95, evS, tyS, Bool.not_true, Bool.not_false, Nat.reduceAdd, Nat.reduceSub, Nat.reduceMul, Nat.reduceLT, Nat.reduceLeDiff, Nat.reduceEqDiff, reduceCtorEq, List.reduceReplicate, Int.reduceToNat, Int.reduceLE, Int.reduceLT]) | (refine DrawK.intro (by kernel_rfl) (by kernel_rfl) ?_; simp only [w1, w5, w6, w7, ea, dEl, dpos, kp48, k48, dn1, dsg, kE95, evS, tyS, Bool.not_true, Bool.not_false, Nat.reduceAdd, Nat.reduceSub, Nat.reduceMul, Nat.reduceLT, Nat.reduceLeDiff, Nat.reduceEqDiff, reduceCtorEq, List.reduceReplicate, Int.reduceToNat, Int.reduceLE, Int.reduceLT]))))
  all_goals try (((try simp only [decide_eq_true_eq, decide_eq_false_iff_not, beq_iff_eq, bne_iff_ne, ne_eq, beq_eq_false_iff_ne, bne_eq_false_iff_eq] at *) <;> (try omega)); done)
  all_goals try (refine CallK.intro b41 rfl (refDigit_ev _) ?_; simp only [w1, w5, w6, w7, ea, dEl, dpos, kp48, k48, dn1, dsg, kE95, evS, tyS, Bool.not_true, Bool.not_false, Nat.reduceAdd, Nat.reduceSub, Nat.reduceMul, Nat.reduceLT, Nat.reduceLeDiff, Nat.reduceEqDiff, reduceCtorEq, List.reduceReplicate, Int.reduceToNat, Int.reduceLE, Int.reduceLT]; (repeat' (first | (with_reducible refine And.intro ?_ ?_) | ((first | refine GuardK.intro_f (fun h => ?_) (fun h => ?_) | refine GuardK.intro_t (fun h => ?_) (fun h => ?_) | refine CondK.intro (fun h => ?_) (fun h => ?_) | refine PickK.intro (fun h => ?_) (fun h => ?_)) <;> simp only [h, w1, w5, w6, w7, ea, dEl, dpos, kp48, k48, dn1, dsg, kE95, evS, tyS, Bool.not_true, Bool.not_false, Nat.reduceAdd, Nat.reduceSub, Nat.reduceMul, Nat.reduceLT, Nat.reduceLeDiff, Nat.reduceEqDiff, reduceCtorEq, List.reduceReplicate, Int.reduceToNat, Int.reduceLE, Int.reduceLT]) | (refine DrawK.intro (by kernel_rfl) (by kernel_rfl) ?_; simp only [w1, w5, w6, w7, ea, dEl, dpos, kp48, k48, dn1, dsg, kE95, evS, tyS, Bool.not_true, Bool.not_false, Nat.reduceAdd, Nat.reduceSub, Nat.reduceMul, Nat.reduceLT, Nat.reduceLeDiff, Nat.reduceEqDiff, reduceCtorEq, List.reduceReplicate, Int.reduceToNat, Int.reduceLE, Int.reduceLT]))))
  all_goals try (((try simp only [decide_eq_true_eq, decide_eq_false_iff_not, beq_iff_eq, bne_iff_ne, ne_eq, beq_eq_false_iff_ne, bne_eq_false_iff_eq] at *) <;> (try omega)); done)
  all_goals (try simp only [decide_eq_true_eq, decide_eq_false_iff_not] at *)
  all_goals first
    | (have hr : ro = false := (by
        cases hr : ro with
        | false => rfl
        | true =>
          exfalso
          obtain ⟨q1, q2, q3⟩ := hro hr
          first
            | (rw [hlzA ⟨by omega, by omega⟩] at q1; cases q1)
            | (rw [hlzC ⟨by omega, by omega⟩] at q2; cases q2)
            | (simp_all [nameN_or]; done))
       rw [hr, if_neg (by decide)]
       simp only [errTok, tokA, f0, evS, tyS, Bool.not_true, Bool.not_false, Nat.reduceAdd, Nat.reduceSub, Nat.reduceMul, Nat.reduceLT, Nat.reduceLeDiff, Nat.reduceEqDiff, reduceCtorEq, List.reduceReplicate, Int.reduceToNat, Int.reduceLE, Int.reduceLT]
       first | done | rfl)
    | (have hnm : nameN (atL l E) = false := (by
        first
          | (rw [atL_out (by omega)]; decide)
          | (rw [nameN_or]; simp_all; done))
       have hrr' := hrr (by omega) (by omega) hnm
       have h66 := hreal66
       rw [← hrr'] at h66
       cases hr : ro with
       | true =>
         rw [hr, if_pos rfl] at h66
         refine CallK.intro b66 (by simp [treeL, treeA]) h66 ?_
         rw [if_pos rfl]
         simp only [okTok, tokA, evS, tyS, Bool.not_true, Bool.not_false, Nat.reduceAdd, Nat.reduceSub, Nat.reduceMul, Nat.reduceLT, Nat.reduceLeDiff, Nat.reduceEqDiff, reduceCtorEq, List.reduceReplicate, Int.reduceToNat, Int.reduceLE, Int.reduceLT]
         first | done | rfl
       | false =>
         rw [hr, if_neg (by decide)] at h66
         refine CallK.intro b66 (by simp [treeL, treeA]) h66 ?_
         rw [if_neg (by decide)]
         simp only [errTok, tokA, f0, evS, tyS, Bool.not_true, Bool.not_false, Nat.reduceAdd, Nat.reduceSub, Nat.reduceMul, Nat.reduceLT, Nat.reduceLeDiff, Nat.reduceEqDiff, reduceCtorEq, List.reduceReplicate, Int.reduceToNat, Int.reduceLE, Int.reduceLT]
         first | done | rfl)
    | trace_state
end Go.Proofs.YtplnhipgifcafaaDoor
