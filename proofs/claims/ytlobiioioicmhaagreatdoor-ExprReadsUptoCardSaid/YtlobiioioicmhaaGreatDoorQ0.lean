/- Contracts of the functions that the law reaches. -/
import Derived.Test.YtlobiioioicmhaaGreatDoorU4
/- Expressions: the trees, how they are laid out, and the pure parser. -/
namespace Go.Proofs.YtlobiioioicmhaaGreatDoor
set_option linter.all false
open Go Go.Ev
/-- A token. -/
structure Tk where
  kind : Int
  text : List UInt8
  int : Int
  real : Nat
  pos : Int
  size : Int
def Tk.cells (t : Tk) : List AV := [.v (.int .i64 t.kind), .v (.string ⟨t.text.toArray⟩), .v (.int .i64 t.int), .v (.float .f64 t.real), .v (.int .i64 t.pos), .v (.int .i64 t.size)]
def tkCells (l : List Tk) : List AV := l.flatMap Tk.cells
theorem tkCells_length (l : List Tk) : (tkCells l).length = l.length * 6 := by
  induction l with
  | nil => rfl
  | cons t l ih => unfold tkCells at ih ⊢; rw [List.flatMap_cons, List.length_append, ih, List.length_cons]; simp only [Tk.cells, List.length_cons, List.length_nil]; omega
theorem tkCells_at {l : List Tk} {i k : Nat} {t : Tk} (h : l[i]? = some t) (hk : k < 6) : (tkCells l)[i * 6 + k]? = (Tk.cells t)[k]? := by
  induction l generalizing i with
  | nil => cases h
  | cons x l ih =>
    unfold tkCells at ih ⊢
    rw [List.flatMap_cons]
    cases i with
    | zero =>
      simp only [List.getElem?_cons_zero, Option.some.injEq] at h
      subst h
      rw [List.getElem?_append_left (by simp only [Tk.cells, List.length_cons, List.length_nil]; omega), Nat.zero_mul, Nat.zero_add]
    | succ i =>
      rw [List.getElem?_append_right (by simp only [Tk.cells, List.length_cons, List.length_nil]; omega)]
      rw [← ih (by simpa using h)]
      congr 1
      simp only [Tk.cells, List.length_cons, List.length_nil]; omega
/-- A slice that holds these tokens. -/
def LAt (L : AV) (ts : List Tk) : Prop := (L = .v (.slice none 0 0) ∧ ts = []) ∨ ∃ b m cs, L = .sl b ts.length m cs ∧ tkCells ts <+: cs
theorem LAt.cell {b : Bool} {ts : List Tk} {cs : List AV} (h : tkCells ts <+: cs) {i k : Nat} {t : Tk} (hi : ts[i]? = some t) (hk : k < 6) : cs[i * 6 + k]? = (Tk.cells t)[k]? := by
  obtain ⟨r, rfl⟩ := h
  have hl : i < ts.length := (List.getElem?_eq_some_iff.1 hi).1
  rw [List.getElem?_append_left (by rw [tkCells_length]; omega)]
  exact tkCells_at hi hk
/-- A node. -/
structure Nd where
  k : Int
  a : Int
  b : Int
  nm : List UInt8
  vk : Int
  vi : Int
  vr : Nat
  vt : List UInt8
def Nd.cells (n : Nd) : List AV := [.v (.int .i64 n.k), .v (.int .i64 n.a), .v (.int .i64 n.b), .v (.string ⟨n.nm.toArray⟩), .v (.int .i64 n.vk), .v (.int .i64 n.vi), .v (.float .f64 n.vr), .v (.complex .f64 0 0), .v (.string ⟨n.vt.toArray⟩)]
def ndCells (l : List Nd) : List AV := l.flatMap Nd.cells
theorem ndCells_length (l : List Nd) : (ndCells l).length = l.length * 9 := by
  induction l with
  | nil => rfl
  | cons t l ih => unfold ndCells at ih ⊢; rw [List.flatMap_cons, List.length_append, ih, List.length_cons]; simp only [Nd.cells, List.length_cons, List.length_nil]; omega
theorem ndCells_app (l m : List Nd) : ndCells (l ++ m) = ndCells l ++ ndCells m := List.flatMap_append
theorem ndCells_take (l : List Nd) : (ndCells l).take (l.length * 9) = ndCells l := by rw [← ndCells_length, List.take_length]
/-- A tree. -/
inductive Tr where
  | lf (k : Int) (nm : List UInt8) (vk vi : Int) (vr : Nat) (vt : List UInt8)
  | un (k : Int) (a : Tr)
  | bi (k : Int) (a b : Tr)
def Tr.size : Tr → Nat
  | .lf .. => 1
  | .un _ a => a.size + 1
  | .bi _ a b => a.size + b.size + 1
def Tr.deep : Tr → Nat
  | .lf .. => 1
  | .un _ a => a.deep + 1
  | .bi _ a b => max a.deep b.deep + 1
/-- The nodes of a tree behind n others. -/
def lay : Tr → Nat → List Nd
  | .lf k nm vk vi vr vt, _ => [⟨k, 0, 0, nm, vk, vi, vr, vt⟩]
  | .un k a, n => lay a n ++ [⟨k, ((n + a.size - 1 : Nat) : Int), 0, [], 0, 0, 0, []⟩]
  | .bi k a b, n => lay a n ++ lay b (n + a.size) ++ [⟨k, ((n + a.size - 1 : Nat) : Int), ((n + a.size + b.size - 1 : Nat) : Int), [], 0, 0, 0, []⟩]
theorem size_pos (t : Tr) : 1 ≤ t.size := by cases t <;> simp only [Tr.size] <;> omega
theorem lay_length (t : Tr) : ∀ n, (lay t n).length = t.size := by
  induction t with
  | lf => intro n; rfl
  | un k a ih => intro n; simp [lay, Tr.size, ih]
  | bi k a b iha ihb => intro n; simp [lay, Tr.size, iha, ihb]; omega
/-- The mark that stands at a place. -/
def mkA (ts : List Tk) (i : Nat) : List UInt8 := match ts[i]? with
  | some t => if t.kind = 5 then t.text else []
  | none => []
/-- The kind of an operator between two. -/
def opK (s : List UInt8) : Int :=
  if s = [124, 124] then 17 else if s = [38, 38] then 16 else if s = [61, 61] then 10 else if s = [33, 61] then 11
  else if s = [60] then 12 else if s = [60, 61] then 13 else if s = [62] then 14 else if s = [62, 61] then 15
  else if s = [43] then 5 else if s = [45] then 6 else if s = [42] then 7 else if s = [47] then 8 else if s = [37] then 9 else 0
def levK (k : Int) : Int :=
  if k = 17 then 1 else if k = 16 then 2 else if k = 10 ∨ k = 11 ∨ k = 12 ∨ k = 13 ∨ k = 14 ∨ k = 15 then 3 else if k = 5 ∨ k = 6 then 4 else if k = 7 ∨ k = 8 ∨ k = 9 then 5 else if k = 3 ∨ k = 4 then 6 else 7
/-- The kind of a reserved word's node. -/
def wordK (s : List UInt8) : Int :=
  if s = [114, 101] then 18 else if s = [105, 109] then 19 else if s = [115, 105, 122, 101, 50] then 20 else if s = [99, 111, 109, 112] then 21
  else if s = [114, 101, 97, 108] then 22 else if s = [108, 101, 110] then 23 else if s = [97, 116] then 24 else if s = [99, 97, 116] then 25 else if s = [115, 116, 114] then 26 else 0
def kidsK (k : Int) : Int :=
  if k = 1 ∨ k = 2 then 0 else if k = 3 ∨ k = 4 ∨ k = 18 ∨ k = 19 ∨ k = 20 ∨ k = 22 ∨ k = 23 ∨ k = 26 then 1 else if k < 5 ∨ 26 < k then -1 else 2
/-- How reading ends: with a tree, or at a token that cannot stand. -/
inductive Res where
  | ok (t : Tr) (p : Nat)
  | bad (p : Nat)
inductive Md where
  | bin (n : Nat)
  | lp (n : Nat) (a : Tr)
  | un
  | fs
  | nm (s : List UInt8)
def trueB : List UInt8 := [116, 114, 117, 101]
def falseB : List UInt8 := [102, 97, 108, 115, 101]
/-- The parser: from a place on, what is read. -/
def pr (ts : List Tk) : Nat → Md → Nat → Res
  | 0, _, p => .bad p
  | f + 1, .bin n, p => if 5 < n then pr ts f .un p else match pr ts f (.bin (n + 1)) p with
    | .bad q => .bad q
    | .ok a q => pr ts f (.lp n a) q
  | f + 1, .lp n a, p => if opK (mkA ts p) = 0 ∨ levK (opK (mkA ts p)) ≠ n then .ok a p else match pr ts f (.bin (n + 1)) (p + 1) with
    | .bad q => .bad q
    | .ok b q => if n = 3 then .ok (.bi (opK (mkA ts p)) a b) q else pr ts f (.lp n (.bi (opK (mkA ts p)) a b)) q
  | f + 1, .un, p => if mkA ts p = [45] ∨ mkA ts p = [33] then match pr ts f .un (p + 1) with
      | .bad q => .bad q
      | .ok a q => .ok (.un (if mkA ts p = [45] then 3 else 4) a) q
    else pr ts f .fs p
  | f + 1, .fs, p => if mkA ts p = [40] then match pr ts f (.bin 1) (p + 1) with
      | .bad q => .bad q
      | .ok a q => if mkA ts q = [41] then .ok a (q + 1) else .bad q
    else match ts[p]? with
    | none => .bad p
    | some t => if t.kind = 5 then .bad p else if t.kind = 2 then .ok (.lf 1 [] 1 t.int 0 []) (p + 1) else if t.kind = 3 then .ok (.lf 1 [] 2 0 t.real []) (p + 1)
      else if t.kind = 4 then .ok (.lf 1 [] 4 0 0 t.text) (p + 1) else pr ts f (.nm t.text) (p + 1)
  | f + 1, .nm s, p => if s = trueB then .ok (.lf 1 [] 5 1 0 []) p else if s = falseB then .ok (.lf 1 [] 5 0 0 []) p else if wordK s = 0 then .ok (.lf 2 s 0 0 0 []) p
    else if mkA ts p ≠ [40] then .bad p else match pr ts f (.bin 1) (p + 1) with
      | .bad q => .bad q
      | .ok a q => if kidsK (wordK s) = 2 then (if mkA ts q ≠ [44] then .bad q else match pr ts f (.bin 1) (q + 1) with
          | .bad r => .bad r
          | .ok b r => if mkA ts r = [41] then .ok (.bi (wordK s) a b) (r + 1) else .bad r)
        else if mkA ts q = [41] then .ok (.un (wordK s) a) (q + 1) else .bad q
def Md.need (ts : List Tk) (p : Nat) : Md → Nat
  | .bin n => 16 * (ts.length - p) + (12 - n)
  | .lp _ _ => 16 * (ts.length - p) + 2
  | .un => 16 * (ts.length - p) + 4
  | .fs => 16 * (ts.length - p) + 3
  | .nm _ => 16 * (ts.length - p) + 2
/-- What is read moves on, and makes no more nodes than tokens. -/
def Md.adv (p : Nat) : Md → Tr → Nat → Prop
  | .lp _ a, t, q => p ≤ q ∧ t.size + p ≤ q + a.size
  | .nm _, t, q => p ≤ q ∧ t.size + p ≤ q + 1
  | _, t, q => p < q ∧ t.size + p ≤ q
theorem mkA_lt {ts : List Tk} {p : Nat} (h : mkA ts p ≠ []) : p < ts.length := by
  unfold mkA at h
  cases e : ts[p]? with
  | none => rw [e] at h; exact absurd rfl h
  | some t => exact (List.getElem?_eq_some_iff.1 e).1
theorem mkA_eq {ts : List Tk} {p : Nat} {c : UInt8} {s : List UInt8} (h : mkA ts p = c :: s) : p < ts.length := mkA_lt (by rw [h]; exact List.cons_ne_nil _ _)
theorem opK_lt {ts : List Tk} {p : Nat} (h : opK (mkA ts p) ≠ 0) : p < ts.length := mkA_lt fun e => h (by rw [e]; rfl)
theorem pr_adv (ts : List Tk) : ∀ (f : Nat) (m : Md) (p : Nat) (t : Tr) (q : Nat), p ≤ ts.length → pr ts f m p = .ok t q → m.adv p t q ∧ q ≤ ts.length := by
  intro f
  induction f with
  | zero => intro m p t q _ h; cases m <;> cases h
  | succ f ih =>
    intro m p t q hp h
    cases m with
    | bin n =>
      rw [pr] at h
      split at h
      · have k := ih .un _ _ _ hp h; exact k
      · split at h
        · cases h
        · rename_i a q' e
          obtain ⟨⟨h1, h2⟩, h3⟩ := ih _ _ _ _ hp e
          obtain ⟨⟨g1, g2⟩, g3⟩ := ih _ _ _ _ h3 h
          exact ⟨⟨by omega, by omega⟩, g3⟩
    | lp n a =>
      rw [pr] at h
      split at h
      · cases h; exact ⟨⟨Nat.le_refl _, by omega⟩, hp⟩
      · rename_i hk
        have hlt := opK_lt (fun e => hk (.inl e))
        split at h
        · cases h
        · rename_i b q' e
          obtain ⟨⟨h1, h2⟩, h3⟩ := ih _ _ _ _ (by omega) e
          split at h
          · cases h; refine ⟨⟨by omega, ?_⟩, h3⟩; simp only [Tr.size]; omega
          · obtain ⟨⟨g1, g2⟩, g3⟩ := ih _ _ _ _ h3 h
            simp only [Tr.size] at g2
            exact ⟨⟨by omega, by omega⟩, g3⟩
    | un =>
      rw [pr] at h
      split at h
      · rename_i hm
        have hlt : p < ts.length := hm.elim mkA_eq mkA_eq
        split at h
        · cases h
        · rename_i a q' e
          obtain ⟨⟨h1, h2⟩, h3⟩ := ih _ _ _ _ (by omega) e
          cases h
          refine ⟨⟨by omega, ?_⟩, h3⟩; simp only [Tr.size]; omega
      · have k := ih .fs _ _ _ hp h; exact k
    | fs =>
      rw [pr] at h
      split at h
      · rename_i hm
        have hlt : p < ts.length := mkA_eq hm
        split at h
        · cases h
        · rename_i a q' e
          obtain ⟨⟨h1, h2⟩, h3⟩ := ih _ _ _ _ (by omega) e
          split at h
          · rename_i hm2
            have hlt2 : q' < ts.length := mkA_eq hm2
            cases h
            exact ⟨⟨by omega, by omega⟩, by omega⟩
          · cases h
      · split at h
        · cases h
        · rename_i t' e
          have hlt : p < ts.length := (List.getElem?_eq_some_iff.1 e).1
          split at h
          · cases h
          · split at h
            · cases h; refine ⟨⟨by omega, ?_⟩, by omega⟩; simp only [Tr.size]; omega
            · split at h
              · cases h; refine ⟨⟨by omega, ?_⟩, by omega⟩; simp only [Tr.size]; omega
              · split at h
                · cases h; refine ⟨⟨by omega, ?_⟩, by omega⟩; simp only [Tr.size]; omega
                · obtain ⟨⟨g1, g2⟩, g3⟩ := ih _ _ _ _ (by omega) h
                  exact ⟨⟨by omega, by omega⟩, g3⟩
    | nm s =>
      rw [pr] at h
      split at h
      · cases h; refine ⟨⟨by omega, ?_⟩, hp⟩; simp only [Tr.size]; omega
      split at h
      · cases h; refine ⟨⟨by omega, ?_⟩, hp⟩; simp only [Tr.size]; omega
      split at h
      · cases h; refine ⟨⟨by omega, ?_⟩, hp⟩; simp only [Tr.size]; omega
      split at h
      · cases h
      rename_i hm
      have hlt : p < ts.length := mkA_eq (Decidable.not_not.1 hm)
      split at h
      · cases h
      rename_i a q' e
      obtain ⟨⟨h1, h2⟩, h3⟩ := ih _ _ _ _ (by omega) e
      split at h
      · split at h
        · cases h
        rename_i hm2
        have hlt2 : q' < ts.length := mkA_eq (Decidable.not_not.1 hm2)
        split at h
        · cases h
        rename_i b r e2
        obtain ⟨⟨g1, g2⟩, g3⟩ := ih _ _ _ _ (by omega) e2
        split at h
        · rename_i hm3
          have hlt3 : r < ts.length := mkA_eq hm3
          cases h
          refine ⟨⟨by omega, ?_⟩, by omega⟩; simp only [Tr.size]; omega
        · cases h
      · split at h
        · rename_i hm3
          have hlt3 : q' < ts.length := mkA_eq hm3
          cases h
          refine ⟨⟨by omega, ?_⟩, by omega⟩; simp only [Tr.size]; omega
        · cases h
end Go.Proofs.YtlobiioioicmhaaGreatDoor
