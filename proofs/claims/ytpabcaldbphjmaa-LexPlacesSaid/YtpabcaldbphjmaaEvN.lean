/- The code, by what computes; and what a prover meets on the way. -/
import Derived.Test.YtpabcaldbphjmaaEvM
namespace Go.Ev
set_option linter.all false
open Go Go.RowKit
set_option linter.unusedVariables false
set_option linter.unusedSimpArgs false

def StepK (r : SS) (K : St → Prop) : Prop := match r with
  | some (p, s) => p ∧ K s
  | none => False
theorem StepK_some (p : Prop) (s : St) (K : St → Prop) : StepK (some (p, s)) K = (p ∧ K s) := rfl
theorem retV_some (s : St) (d : Option Tmp) (r : AV) : retV s d (some r) = some (True, pt s d r) := rfl
theorem retP_some (s : St) (d : Option Tmp) (p : Prop) (r : AV) : retP s d (some (p, r)) = some (p, pt s d r) := rfl
theorem retH_some (s : St) (d : Option Tmp) (p : Prop) (r : AV) (h : List ABlk) : retH s d (some (p, r, h)) = some (p, pt { s with h } d r) := rfl
def PickK (b x y : AV) (d : Option Tmp) (K : St → Prop) (s : St) : Prop := match b with
  | .v (.bool z) => (z = true → K (pt s d x)) ∧ (z = false → K (pt s d y))
  | _ => False
theorem PickK_true (x y : AV) (d : Option Tmp) (K : St → Prop) (s : St) : PickK (.v (.bool true)) x y d K s = K (pt s d x) := by simp [PickK]
theorem PickK_false (x y : AV) (d : Option Tmp) (K : St → Prop) (s : St) : PickK (.v (.bool false)) x y d K s = K (pt s d y) := by simp [PickK]
def CondK (b : AV) (A B : St → Prop) (s : St) : Prop := match b with
  | .v (.bool z) => (z = true → A s) ∧ (z = false → B s)
  | _ => False
theorem CondK_true (A B : St → Prop) (s : St) : CondK (.v (.bool true)) A B s = A s := by simp [CondK]
theorem CondK_false (A B : St → Prop) (s : St) : CondK (.v (.bool false)) A B s = B s := by simp [CondK]
theorem CondK.intro {z : Bool} {A B : St → Prop} {s : St} (h1 : z = true → A s) (h2 : z = false → B s) : CondK (.v (.bool z)) A B s := ⟨h1, h2⟩
theorem PickK.intro {z : Bool} {x y : AV} {d : Option Tmp} {K : St → Prop} {s : St} (h1 : z = true → K (pt s d x)) (h2 : z = false → K (pt s d y)) : PickK (.v (.bool z)) x y d K s := ⟨h1, h2⟩
def GuardK (b : AV) (want : Bool) (A B : St → Prop) (s : St) : Prop := match b with
  | .v (.bool z) => (z = want → A s) ∧ (z ≠ want → B s)
  | _ => False
theorem GuardK_tt (A B : St → Prop) (s : St) : GuardK (.v (.bool true)) true A B s = A s := by simp [GuardK]
theorem GuardK_ff (A B : St → Prop) (s : St) : GuardK (.v (.bool false)) false A B s = A s := by simp [GuardK]
theorem GuardK_tf (A B : St → Prop) (s : St) : GuardK (.v (.bool true)) false A B s = B s := by simp [GuardK]
theorem GuardK_ft (A B : St → Prop) (s : St) : GuardK (.v (.bool false)) true A B s = B s := by simp [GuardK]
theorem GuardK.intro_t {z : Bool} {A B : St → Prop} {s : St} (h1 : z = true → A s) (h2 : z = false → B s) : GuardK (.v (.bool z)) true A B s := ⟨h1, fun h => h2 (by cases z <;> simp_all)⟩
theorem GuardK.intro_f {z : Bool} {A B : St → Prop} {s : St} (h1 : z = false → A s) (h2 : z = true → B s) : GuardK (.v (.bool z)) false A B s := ⟨h1, fun h => h2 (by cases z <;> simp_all)⟩
def skipK (d : Option Tmp) (K : St → Prop) (s : St) : Prop := K (pt s d .bad)
theorem skipK_eq (d : Option Tmp) (K : St → Prop) (s : St) : skipK d K s = K (pt s d .bad) := rfl
def CallK (P : Program) (g : FuncId) (xs : List AV) (d : Option Tmp) (K : St → Prop) (s : St) : Prop :=
  (∃ fn, P.funcs[g]? = some fn ∧ fn.body.isSome = true ∧ (fn.name == "runtime.NumGoroutine") = false) ∧ callA P s g xs fun r => K (pt s d r)
/-- Is this a function with a body? -/
def bodyT (P : Program) (g : FuncId) : Prop := ∃ fn, P.funcs[g]? = some fn ∧ fn.body.isSome = true ∧ (fn.name == "runtime.NumGoroutine") = false
theorem CallK.intro {P : Program} {g : FuncId} {xs : List AV} {d : Option Tmp} {K : St → Prop} {s : St} (hb : bodyT P g) (ht : treeL xs = true) {r : AV} (hev : Ev P g xs r) (hk : K (pt s d r)) : CallK P g xs d K s :=
  ⟨hb, xs, r, .inl ⟨rfl, ht⟩, hev, hk⟩
/-- A call that is lent rows of the call's own. -/
theorem CallK.lend {P : Program} {g : FuncId} {xs : List AV} {d : Option Tmp} {K : St → Prop} {s : St} (hb : bodyT P g) (ys : List AV) (hz : fzL P s.h true ys xs) {r : AV} (hev : Ev P g ys r) (hn : noBor r = true) (hk : K (pt s d r)) : CallK P g xs d K s :=
  ⟨hb, ys, r, .inr ⟨hz, hn⟩, hev, hk⟩
def kop (P : Program) (o : Oper) (K : St → Prop) (s : St) : Prop :=
  match o.op with
  | .pick c a b => PickK (get s.s c) (get s.s a) (get s.s b) o.dst K s
  | .call ⟨.value (.func g), xs, _⟩ => CallK P g (xs.toList.map (get s.s)) o.dst K s
  | _ => StepK (stepS P o s) K
def kops (P : Program) (ops : Array Oper) : List Oper → (St → Prop) → St → Prop
  | [], K, s => K s
  | o :: os, K, s => match o.guard with
    | none => kop P o (kops P ops os K) s
    | some (j, want) => GuardK (guardA ops s j) want (kop P o (kops P ops os K)) (skipK o.dst (kops P ops os K)) s
def normK (Q : Post) (s : St) : Prop := Q .normal s
theorem normK_eq (Q : Post) (s : St) : normK Q s = Q .normal s := rfl
theorem thenA_normal (K : St → Prop) (Q : Post) (s : St) : thenA K Q .normal s = K s := rfl
theorem thenA_ret (K : St → Prop) (Q : Post) (s : St) : thenA K Q .ret s = Q .ret s := rfl
theorem thenA_exit (K : St → Prop) (Q : Post) (i : Nat) (s : St) : thenA K Q (.exit i) s = Q (.exit i) s := rfl
theorem thenA_goto (K : St → Prop) (Q : Post) (i : Nat) (s : St) : thenA K Q (.goto i) s = Q (.goto i) s := rfl
theorem inBlockA_normal (id : Nat) (Q : Post) (s : St) : inBlockA id Q .normal s = Q .normal s := rfl
theorem inBlockA_ret (id : Nat) (Q : Post) (s : St) : inBlockA id Q .ret s = Q .ret s := rfl
theorem inBlockA_goto (id i : Nat) (Q : Post) (s : St) : inBlockA id Q (.goto i) s = Q (.goto i) s := rfl
theorem inBlockA_exit (id i : Nat) (Q : Post) (s : St) : inBlockA id Q (.exit i) s = if i = id then Q .normal s else Q (.exit i) s := rfl
def loopC (R : Nat → St → Prop) (m : Nat) (s2 : St) : Prop := ∃ m' s3, s2.weak s3 ∧ m' < m ∧ R m' s3
def LoopK (F : Post → St → Prop) (Q : Post) (s : St) : Prop :=
  ∃ (R : Nat → St → Prop) (n : Nat) (s0 : St), s.weak s0 ∧ R n s0 ∧ ∀ m s1, R m s1 → F (thenA (loopC R m) Q) s1
def RR {α : Type} (mk : α → St) (inv : α → Prop) (μ : α → Nat) (n : Nat) (s : St) : Prop := ∃ a, inv a ∧ s = mk a ∧ μ a = n
/-- A loop: what its head knows (mk a, for an a of which inv holds), and what goes down. -/
theorem LoopK.intro {F : Post → St → Prop} {Q : Post} {s : St} {α : Type} (mk : α → St) (inv : α → Prop) (μ : α → Nat) (a0 : α) (hw : s.weak (mk a0)) (h0 : inv a0)
    (round : ∀ a, inv a → F (thenA (loopC (RR mk inv μ) (μ a)) Q) (mk a)) : LoopK F Q s :=
  ⟨RR mk inv μ, μ a0, mk a0, hw, ⟨a0, h0, rfl, rfl⟩, fun m s1 ⟨a, h1, h2, h3⟩ => by subst h2; subst h3; exact round a h1⟩
theorem loopC.intro {α : Type} {mk : α → St} {inv : α → Prop} {μ : α → Nat} {n : Nat} {s2 : St} (a : α) (h : inv a) (hw : s2.weak (mk a)) (hm : μ a < n) : loopC (RR mk inv μ) n s2 :=
  ⟨μ a, mk a, hw, hm, a, h, rfl, rfl⟩
/-- Does it write the call's own blocks, or make one? -/
def wrO (P : Program) : Op → Bool
  | .move _ | .assign _ | .pick .. | .binOp .. | .unOp .. | .makeInterface .. | .field .. | .index .. | .extract .. | .load .. | .nilCheck .. | .slice .. | .fieldAddr .. | .indexAddr .. | .build .. => false
  | .call c => match c.callee with
    | .builtin .len => false
    | .value (.func _) => false
    | _ => true
  | .convert _ b _ => !(intT P b).isSome
  | _ => true
/-- Does what it answers hang on the call's own blocks? -/
def rdO (P : Program) : Op → Bool
  | .move _ | .assign _ | .pick .. | .binOp .. | .unOp .. | .makeInterface .. | .field .. | .index .. | .extract .. | .build .. => false
  | .convert _ b _ => !(intT P b).isSome
  | _ => true
def rwO (P : Program) (o : Op) : Bool := rdO P o || wrO P o
def bindsE (e : Edge) : Bool := Region.binds .any e
/-- What an operation comes after, step by step. -/
def ancT (ops : Array Oper) : List (List Nat) :=
  ops.toList.foldl (fun tbl o => tbl ++ [((o.after.toList.filter bindsE).flatMap fun e => e.on :: tbl.getD e.on []).eraseDups]) []
def ancOk (ops : Array Oper) (tbl : List (List Nat)) : Bool :=
  (List.range ops.size).all fun i => match ops[i]? with
    | some o => o.after.toList.all (fun e => !bindsE e || decide (e.on < i)) && (tbl.getD i []).all fun j => o.after.toList.any fun e => bindsE e && (e.on == j || (tbl.getD e.on []).contains j)
    | none => true
/-- May x, the earlier one in the text, not change places with y? -/
def clashO (P : Program) (ops : Array Oper) (x y : Oper) : Bool :=
  (match x.dst with | some d => (y.looksAt ops).contains d || y.dst == some d | none => false) || (match y.dst with | some d => (x.looksAt ops).contains d | none => false) ||
    (wrO P x.op && rwO P y.op) || (rwO P x.op && wrO P y.op)
def drawOkT (P : Program) (ops : Array Oper) (tbl : List (List Nat)) : Bool :=
  ancOk ops tbl && (List.range ops.size).all fun j => (List.range j).all fun i => match ops[i]?, ops[j]? with
    | some x, some y => !clashO P ops x y || (tbl.getD j []).contains i
    | _, _ => true
def drawOk (P : Program) (ops : Array Oper) : Bool := drawOkT P ops (ancT ops)
/-- A region that draws its order: its clashes are ordered, so the text's order serves. -/
def DrawK (P : Program) (ops : Array Oper) (Q : Post) (s : St) : Prop := P.follows .mixedOrders = true ∧ drawOk P ops = true ∧ kops P ops ops.toList (normK Q) s
theorem DrawK.intro {P : Program} {ops : Array Oper} {Q : Post} {s : St} (h1 : P.follows .mixedOrders = true) (h2 : drawOk P ops = true) (h3 : kops P ops ops.toList (normK Q) s) : DrawK P ops Q s := ⟨h1, h2, h3⟩
def kwp (P : Program) : Code → Post → St → Prop
  | .skip, Q, s => Q .normal s
  | .region _ ops draw, Q, s => if draw = true then DrawK P ops Q s else kops P ops ops.toList (normK Q) s
  | .seq a b, Q, s => kwp P a (thenA (kwp P b Q) Q) s
  | .cond c x y, Q, s => CondK (get s.s c) (kwp P x Q) (kwp P y Q) s
  | .block id c, Q, s => kwp P c (inBlockA id Q) s
  | .loop c, Q, s => LoopK (fun Q s => kwp P c Q s) Q s
  | .exit id, Q, s => Q (.exit id) s
  | .ret, Q, s => Q .ret s
  | .label _, Q, s => Q .normal s
  | .goto l, Q, s => Q (.goto l) s
  | .rangeFunc .., _, _ => False
  | .scope .., _, _ => False
  | .refuse .., _, _ => False

section
variable {X : Fix} {φ : List Nat} {st : St} {a : Act} {w : World} {o : Oper} {Q : Exit → Act → World → Prop} {K : St → Prop}
theorem StepK_aop {P : Program} (h : StepK (stepS P o st) K) : aop P o st K := by
  unfold StepK at h
  split at h
  · rename_i p s e; exact stepS_eq e h.1 h.2
  · exact h.elim
theorem kop_sound (hs : SR X φ st a w) (h : kop X.P o K st) : o.wp X.P a w (Nx X K) Q := by
  unfold kop at h
  split at h
  · rename_i c x y ho
    unfold PickK at h
    split at h
    · rename_i z hg; exact op_pick hs ho hg h.1 h.2
    · exact h.elim
  · rename_i g xs ts ho; exact op_callF hs ho rfl h.1 h.2
  · exact aop_sound hs (StepK_aop h)
theorem kops_sound (ops : Array Oper) (Qn : Exit → Act → World → Prop) : ∀ (os : List Oper) (is : List Nat) {K : St → Prop} {φ : List Nat} {st : St} {a : Act} {w : World}, is.map (ops[·]?) = os.map some → SR X φ st a w → kops X.P ops os K st →
    (∀ a w, Nx X K a w → Qn .normal a w) → wpOps X.P ops Qn is a w
  | [], [], K, φ, st, a, w, _, hs, h, hq => hq _ _ ⟨φ, st, hs, h⟩
  | [], i :: is, _, _, _, _, _, he, _, _, _ => by simp at he
  | o :: os, [], _, _, _, _, _, he, _, _, _ => by simp at he
  | o :: os, i :: is, K, φ, st, a, w, he, hs, h, hq => by
    simp only [List.map_cons, List.cons.injEq] at he
    obtain ⟨hi, he⟩ := he
    have hrest : ∀ a' w', Nx X (kops X.P ops os K) a' w' → wpOps X.P ops Qn is a' w' := fun a' w' ⟨φ', st', hs', h'⟩ => kops_sound ops Qn os is he hs' h' hq
    simp only [wpOps, hi]
    simp only [kops] at h
    split at h
    · rename_i hg
      have hw : Region.wanted o (yielded ops a.tmps) = true := by simp [Region.wanted, hg]
      rw [if_pos hw]
      exact .inl (Oper.wp_mono hrest (kop_sound hs h))
    · rename_i j want hg
      unfold GuardK at h
      split at h
      · rename_i z hz
        obtain ⟨h1, h2⟩ := h
        have hy : yielded ops a.tmps j = some z := by
          unfold guardA at hz
          split at hz
          · rename_i t ht
            unfold yielded
            rw [ht]
            have hr := hs.slots t
            rw [hz] at hr
            simp only [rel] at hr
            cases htm : a.tmps[t]? with
            | none => simp [htm, undef] at hr
            | some u =>
              simp [htm] at hr
              subst hr
              simp [htm]
          · cases hz
        by_cases hzw : z = want
        · have hw : Region.wanted o (yielded ops a.tmps) = true := by simp [Region.wanted, hg, hy, hzw]
          rw [if_pos hw]
          exact .inl (Oper.wp_mono hrest (kop_sound hs (h1 hzw)))
        · have hw : Region.wanted o (yielded ops a.tmps) = false := by simp [Region.wanted, hg, hy, hzw]
          rw [hw]
          exact hrest _ _ ⟨φ, _, hs.put o.dst (r := .bad) (u := undef) (by simp only [rel]), h2 hzw⟩
      · exact h.elim
end
end Go.Ev
