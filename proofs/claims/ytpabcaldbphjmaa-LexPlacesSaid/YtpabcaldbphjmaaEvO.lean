/- Code and operations opened from the head alone: what simp runs. -/
import Derived.Test.YtpabcaldbphjmaaEvN
namespace Go.Ev
set_option linter.all false
open Go Go.RowKit
set_option linter.unusedVariables false
set_option linter.unusedSimpArgs false
section
variable {P : Program} {Q : Post} {s : St} {K : St → Prop}
theorem k_seq (a b : Code) : kwp P (.seq a b) Q s = kwp P a (thenA (kwp P b Q) Q) s := rfl
theorem k_region (i : Nat) (ops : Array Oper) : kwp P (.region i ops false) Q s = kops P ops ops.toList (normK Q) s := by simp [kwp]
theorem k_draw (i : Nat) (ops : Array Oper) : kwp P (.region i ops true) Q s = DrawK P ops Q s := by simp [kwp]
theorem k_skip : kwp P .skip Q s = Q .normal s := rfl
theorem k_cond (c : Operand) (x y : Code) : kwp P (.cond c x y) Q s = CondK (get s.s c) (kwp P x Q) (kwp P y Q) s := rfl
theorem k_block (i : Nat) (c : Code) : kwp P (.block i c) Q s = kwp P c (inBlockA i Q) s := rfl
theorem k_loop (c : Code) : kwp P (.loop c) Q s = LoopK (kwp P c) Q s := rfl
theorem k_exit (i : Nat) : kwp P (.exit i) Q s = Q (.exit i) s := rfl
theorem k_ret : kwp P .ret Q s = Q .ret s := rfl
theorem k_label (i : Nat) : kwp P (.label i) Q s = Q .normal s := rfl
theorem k_goto (i : Nat) : kwp P (.goto i) Q s = Q (.goto i) s := rfl
section
variable {ops : Array Oper} {os : List Oper} {d : Option Tmp} {t : TypeId} {pos : String} {af : Array Edge} {g : Option (Nat × Bool)}
theorem o_nil : kops P ops [] K s = K s := rfl
theorem o_none (op : Op) : kops P ops (⟨d, op, t, pos, af, none⟩ :: os) K s = kop P ⟨d, op, t, pos, af, none⟩ (kops P ops os K) s := rfl
theorem o_some (op : Op) (j : Nat) (b : Bool) : kops P ops (⟨d, op, t, pos, af, some (j, b)⟩ :: os) K s =
    GuardK (guardA ops s j) b (kop P ⟨d, op, t, pos, af, some (j, b)⟩ (kops P ops os K)) (skipK d (kops P ops os K)) s := rfl
theorem s_move (x : Operand) : kop P ⟨d, .move x, t, pos, af, g⟩ K s = K (pt s d (get s.s x)) := by simp [kop, stepS, StepK, retV]
theorem s_assign (x : Operand) : kop P ⟨d, .assign x, t, pos, af, g⟩ K s = K (pt s d (get s.s x)) := by simp [kop, stepS, StepK, retV]
theorem s_pick (c a b : Operand) : kop P ⟨d, .pick c a b, t, pos, af, g⟩ K s = PickK (get s.s c) (get s.s a) (get s.s b) d K s := rfl
theorem s_callF (f : FuncId) (xs : Array Operand) (ts : Array TypeId) : kop P ⟨d, .call ⟨.value (.func f), xs, ts⟩, t, pos, af, g⟩ K s = CallK P f (xs.toList.map (get s.s)) d K s := rfl
theorem s_len (x : Operand) (u : TypeId) : kop P ⟨d, .call ⟨.builtin .len, #[x], #[u]⟩, t, pos, af, g⟩ K s = StepK (retV s d (lenS P u s.h (get s.s x))) K := rfl
theorem s_append (x y : Operand) (ts : Array TypeId) : kop P ⟨d, .call ⟨.builtin .append, #[x, y], ts⟩, t, pos, af, g⟩ K s = StepK (retH s d (appendS P ts s.h (get s.s x) (get s.s y))) K := rfl
theorem s_alloc (u : TypeId) : kop P ⟨d, .alloc u, t, pos, af, g⟩ K s = StepK ((zeroT P u).bind fun z => retH s d (some (True, .ptr s.h.length 0 0, s.h ++ [⟨0, u, zeroCells z⟩]))) K := rfl
theorem s_box (u : TypeId) (x : Operand) : kop P ⟨d, .box u x, t, pos, af, g⟩ K s = StepK ((flat (get s.s x)).bind fun cs => retH s d (some (True, .ptr s.h.length 0 0, s.h ++ [⟨0, u, cs⟩]))) K := rfl
theorem s_build (u : TypeId) (ps : Array (Nat × Operand)) : kop P ⟨d, .build u ps, t, pos, af, g⟩ K s = StepK (retV s d (buildS P u (ps.toList.map fun (i, x) => (i, get s.s x)))) K := rfl
theorem s_buildSlice (u n : Nat) (ps : Array (Nat × Operand)) : kop P ⟨d, .buildSlice u n ps, t, pos, af, g⟩ K s = StepK (retH s d ((buildSliceS P u n (ps.toList.map fun (i, x) => (i, get s.s x)) s.h).map fun (r, h) => (True, r, h))) K := rfl
theorem s_load (u : TypeId) (a : Operand) : kop P ⟨d, .load u a, t, pos, af, g⟩ K s = StepK (retV s d (loadS P u s.h (get s.s a))) K := rfl
theorem s_store (u : TypeId) (a x : Operand) : kop P ⟨d, .store u a x, t, pos, af, g⟩ K s = StepK ((storeS P u s.h (get s.s a) (get s.s x)).map fun h => (True, pt { s with h } d .bad)) K := rfl
def nilChk (s : St) (d : Option Tmp) : AV → SS
  | .ptr i ver off => (blkS s.h i ver).bind fun _ => retV s d (some (.ptr i ver off))
  | .ela b cs => retV s d (some (.ela b cs))
  | _ => none
theorem s_nilCheck (x : Operand) : kop P ⟨d, .nilCheck x, t, pos, af, g⟩ K s = StepK (nilChk s d (get s.s x)) K := by
  simp only [kop, stepS]; cases get s.s x <;> rfl
theorem s_binOp (op : BinOp) (u v : TypeId) (x y : Operand) : kop P ⟨d, .binOp op u x y v, t, pos, af, g⟩ K s = StepK (retP s d (binS P op u (isConst x || isConst y) (get s.s x) (get s.s y))) K := rfl
theorem s_unOp (op : UnOp) (u : TypeId) (x : Operand) : kop P ⟨d, .unOp op u x, t, pos, af, g⟩ K s = StepK (retP s d (unS op (get s.s x))) K := rfl
theorem s_convert (a b : TypeId) (x : Operand) : kop P ⟨d, .convert a b x, t, pos, af, g⟩ K s = StepK (retH s d (convertS P a b s.h (get s.s x))) K := rfl
theorem s_makeIf (u : TypeId) (x : Operand) : kop P ⟨d, .makeInterface u x, t, pos, af, g⟩ K s = StepK (if ifcT P u = some false then retV s d (some (.ifc u (get s.s x))) else none) K := rfl
theorem s_makeSlice (u : TypeId) (l c : Operand) : kop P ⟨d, .makeSlice u l c, t, pos, af, g⟩ K s = StepK (retH s d (makeSliceS P u s.h (get s.s l) (get s.s c))) K := rfl
theorem s_slice (u : TypeId) (x : Operand) (lo hi : Option Operand) : kop P ⟨d, .slice u x lo hi none, t, pos, af, g⟩ K s = StepK (retP s d (sliceS P u s.h (lo.map (get s.s)) (hi.map (get s.s)) (get s.s x))) K := rfl
theorem s_fieldAddr (u : TypeId) (x : Operand) (f : Nat) : kop P ⟨d, .fieldAddr u x f, t, pos, af, g⟩ K s = StepK (retV s d (fieldAddrS P u f s.h (get s.s x))) K := rfl
theorem s_field (u : TypeId) (x : Operand) (f : Nat) : kop P ⟨d, .field u x f, t, pos, af, g⟩ K s = StepK (retV s d (fieldS P u f (get s.s x))) K := rfl
theorem s_indexAddr (u : TypeId) (x i : Operand) : kop P ⟨d, .indexAddr u x i, t, pos, af, g⟩ K s = StepK (retP s d (indexAddrS P u s.h (get s.s x) (get s.s i))) K := rfl
theorem s_index (u : TypeId) (x i : Operand) : kop P ⟨d, .index u x i, t, pos, af, g⟩ K s = StepK (retP s d (indexS P u (get s.s x) (get s.s i))) K := rfl
theorem s_extract (x : Operand) (i : Nat) : kop P ⟨d, .extract x i, t, pos, af, g⟩ K s = StepK (retV s d (extractS i (get s.s x))) K := rfl
end
theorem StepK_retV (d : Option Tmp) (r : AV) : StepK (retV s d (some r)) K = K (pt s d r) := by simp [StepK, retV]
theorem StepK_retP (d : Option Tmp) (p : Prop) (r : AV) : StepK (retP s d (some (p, r))) K = (p ∧ K (pt s d r)) := rfl
theorem StepK_retPT (d : Option Tmp) (r : AV) : StepK (retP s d (some (True, r))) K = K (pt s d r) := by simp [StepK, retP]
theorem StepK_okS (d : Option Tmp) (r : AV) : StepK (retP s d (okS r)) K = K (pt s d r) := by simp [StepK, retP, okS]
theorem StepK_retH (d : Option Tmp) (p : Prop) (r : AV) (h : List ABlk) : StepK (retH s d (some (p, r, h))) K = (p ∧ K (pt { s with h } d r)) := rfl
theorem StepK_retHT (d : Option Tmp) (r : AV) (h : List ABlk) : StepK (retH s d (some (True, r, h))) K = K (pt { s with h } d r) := by simp [StepK, retH]
theorem StepK_someT (s' : St) : StepK (some (True, s')) K = K s' := by simp [StepK]
end

/-- What an append asks of its types: the element's type, its cells, its bytes. -/
def appT (P : Program) (t t2 : TypeId) : Option (Nat × Nat × Nat) :=
  if intT P t2 = none ∧ (P.underlying t2).isSome = true then
    (elemT P t).bind fun e => (sizeT P e).bind fun sz => (bytesT P e).bind fun by' => (zeroT P e).bind fun z =>
      if (zeroCells z).length = sz ∧ 0 < sz ∧ 0 < by' then some (e, sz, by') else none
  else none
theorem appendS_appT {P : Program} {t t2 : TypeId} {h : List ABlk} {x y : AV} : appendS P #[t, t2] h x y =
    (appT P t t2).bind fun q => (srcS h q.2.1 y).bind fun r => ontoS h q.1 q.2.1 q.2.2 r.1 r.2.1 r.2.2 x := by
  simp only [appendS, appT]
  simp
  split
  · cases elemT P t <;> simp
    cases sizeT P _ <;> simp
    cases bytesT P _ <;> simp
    cases zeroT P _ <;> simp
    split <;> simp
  · simp
section
variable {P : Program} {s : St} {K : St → Prop} {t : TypeId} {d : Option Tmp} {pos : String} {af : Array Edge} {g : Option (Nat × Bool)}
theorem s_append2 (x y : Operand) (u v : TypeId) : kop P ⟨d, .call ⟨.builtin .append, #[x, y], #[u, v]⟩, t, pos, af, g⟩ K s =
    StepK (retH s d ((appT P u v).bind fun q => (srcS s.h q.2.1 (get s.s y)).bind fun r => ontoS s.h q.1 q.2.1 q.2.2 r.1 r.2.1 r.2.2 (get s.s x))) K := by
  rw [← appendS_appT]; rfl
end
/-- What a row's literal, or make, asks of its types: the element's type, its cells, its zero. -/
def mkT (P : Program) (t : TypeId) : Option (Nat × Nat × List AV) :=
  (elemT P t).bind fun e => (sizeT P e).bind fun sz => (zeroT P e).bind fun z => if (zeroCells z).length = sz ∧ 0 < sz then some (e, sz, zeroCells z) else none
theorem buildSliceS_mkT {P : Program} {t : TypeId} {len : Nat} {ps : List (Nat × AV)} {h : List ABlk} : buildSliceS P t len ps h =
    (mkT P t).bind fun q => if len * q.2.1 ≤ 16777216 then (fillS (fun i => some (i * q.2.1, q.2.1)) ps (List.replicate len q.2.2).flatten).map fun l => (.own h.length 0 len, h ++ [⟨0, q.1, l⟩]) else none := by
  simp only [buildSliceS, mkT]
  cases elemT P t <;> simp
  cases sizeT P _ <;> simp
  cases zeroT P _ <;> simp
  rename_i e sz z
  by_cases h1 : (zeroCells z).length = sz <;> by_cases h2 : 0 < sz <;> by_cases h3 : len * sz ≤ 16777216 <;> simp [h1, h2, h3, rowsA]
section
variable {P : Program} {s : St} {K : St → Prop} {t : TypeId} {d : Option Tmp} {pos : String} {af : Array Edge} {g : Option (Nat × Bool)}
theorem s_buildSlice2 (u n : Nat) (ps : Array (Nat × Operand)) : kop P ⟨d, .buildSlice u n ps, t, pos, af, g⟩ K s = StepK (retH s d ((mkT P u).bind fun q => if n * q.2.1 ≤ 16777216 then (fillS (fun i => some (i * q.2.1, q.2.1)) (ps.toList.map fun x => (x.1, get s.s x.2)) (List.replicate n q.2.2).flatten).map fun l => (True, .own s.h.length 0 n, s.h ++ [⟨0, q.1, l⟩]) else none)) K := by
  rw [s_buildSlice, buildSliceS_mkT]
  congr 2
  cases mkT P u <;> simp
  split <;> simp <;> rfl
end
set_option linter.defProp false in
def kS := And.intro @k_seq (And.intro @k_region (And.intro @k_draw (And.intro @k_skip (And.intro @k_cond (And.intro @k_block (And.intro @k_loop (And.intro @k_exit (And.intro @k_ret (And.intro @k_label (And.intro @k_goto (And.intro @o_nil (And.intro @o_none (And.intro @o_some (And.intro @s_move (And.intro @s_assign (And.intro @s_pick (And.intro @s_callF (And.intro @s_len (And.intro @s_alloc (And.intro @s_box (And.intro @s_build (And.intro @s_load (And.intro @s_store (And.intro @s_nilCheck (And.intro @s_binOp (And.intro @s_unOp (And.intro @s_convert (And.intro @s_makeIf (And.intro @s_makeSlice (And.intro @s_slice (And.intro @s_fieldAddr (And.intro @s_field (And.intro @s_indexAddr (And.intro @s_index (And.intro @s_extract (And.intro @StepK_retV (And.intro @StepK_retPT (And.intro @StepK_okS (And.intro @StepK_retHT (And.intro @StepK_someT (And.intro @StepK_retP (And.intro @StepK_retH (And.intro @StepK_some (And.intro @pt_some (And.intro @pt_none (And.intro @get_tmp (And.intro @get_const (And.intro @get_func (And.intro @look_cons (And.intro @look_nil (And.intro @normK_eq (And.intro @thenA_normal (And.intro @thenA_ret (And.intro @thenA_exit (And.intro @thenA_goto (And.intro @inBlockA_normal (And.intro @inBlockA_ret (And.intro @inBlockA_goto (And.intro @inBlockA_exit (And.intro @CondK_true (And.intro @CondK_false (And.intro @PickK_true (And.intro @PickK_false (And.intro @GuardK_tt (And.intro @GuardK_ff (And.intro @GuardK_tf (And.intro @GuardK_ft (And.intro @skipK_eq (And.intro @s_append2 (@s_buildSlice2))))))))))))))))))))))))))))))))))))))))))))))))))))))))))))))))))))))
end Go.Ev
