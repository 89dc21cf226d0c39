/- Where a number stands in a list, as package slices says it, and as the plain model does. No condition, no program in sight. -/
import Derived.Test.YtkpecagkpjabdabPlainTables
import Derived.Lib.Slices
namespace Go.Proofs.Ytkpecagkpjabdab.M
open Go.RowKit
set_option linter.unusedVariables false
set_option linter.unusedSimpArgs false
set_option maxRecDepth 100000

theorem idxFrom_eq (x : Int) (zs : List Int) (i : Nat) : Lib.idxFrom zs x i = if x ∈ zs then ((i + zs.idxOf x : Nat) : Int) else -1 := by
  induction zs generalizing i with
  | nil => simp [Lib.idxFrom]
  | cons z zs ih =>
    unfold Lib.idxFrom
    by_cases h : z = x
    · subst h; simp
    · rw [if_neg h, ih]
      have h' : x ≠ z := fun e => h e.symm
      by_cases hm : x ∈ zs
      · have hb : (z == x) = false := by simpa using h
        rw [if_pos hm, if_pos (List.mem_cons_of_mem _ hm), List.idxOf_cons, hb]
        simp only [cond_false]
        congr 1; omega
      · rw [if_neg hm, if_neg (by simp [h', hm])]
theorem idxOf_eq (x : Int) (zs : List Int) : Lib.idxOf zs x = if x ∈ zs then ((zs.idxOf x : Nat) : Int) else -1 := by
  unfold Lib.idxOf
  rw [idxFrom_eq]
  simp
/-- what find hands back: table, place, and whether there is such a thing -/
def found (s : Store) (id : Int) : Int × Int × Bool :=
  match find s id with
  | none => (0, 0, false)
  | some (i, k) => ((i : Int), (k : Int), true)
/-- the first tables do not have it -/
theorem find_skip {s : Store} {id : Int} {n : Nat} (h : ∀ j t, j < n → s.tables[j]? = some t → id ∉ t.ids) {t : Table} (ht : s.tables[n]? = some t) (hm : id ∈ t.ids) :
    find s id = some (n, t.ids.idxOf id) := by
  obtain ⟨l, nx⟩ := s
  unfold find
  simp only at *
  induction l generalizing n with
  | nil => simp at ht
  | cons a l ih =>
    match n with
    | 0 =>
      simp only [List.getElem?_cons_zero, Option.some.injEq] at ht
      subst ht
      unfold findT
      rw [if_pos hm]
    | n + 1 =>
      have ha : id ∉ a.ids := h 0 a (by omega) (by simp)
      unfold findT
      rw [if_neg ha, ih (n := n) (fun j t hj ht => h (j + 1) t (by omega) (by simpa using ht)) (by simpa using ht)]
      rfl
theorem find_miss {s : Store} {id : Int} (h : ∀ j t, j < s.tables.length → s.tables[j]? = some t → id ∉ t.ids) : find s id = none := by
  unfold find
  rw [findT_none]
  intro hm
  unfold idsT at hm
  obtain ⟨t, ht, hm⟩ := List.mem_flatMap.1 hm
  obtain ⟨j, hj, rfl⟩ := List.getElem_of_mem ht
  exact h j _ hj (List.getElem?_eq_getElem hj) hm
/-- how many things there are, as the program counts them -/
def sizeW (l : List Table) : Int := l.foldl (fun n t => wrap64 (n + (t.ids.length : Int))) 0
theorem sizeW_step {l : List Table} {n : Nat} {t : Table} (h : l[n]? = some t) : sizeW (l.take (n + 1)) = wrap64 (sizeW (l.take n) + (t.ids.length : Int)) := by
  unfold sizeW
  rw [List.take_add_one, h]
  simp
theorem sizeW_eq (l : List Table) (h : (idsT l).length ≤ 4611686018427387904) : sizeW l = ((idsT l).length : Int) := by
  have key : ∀ (l : List Table) (n : Nat), n + (idsT l).length ≤ 4611686018427387904 → l.foldl (fun n t => wrap64 (n + (t.ids.length : Int))) (n : Int) = ((n + (idsT l).length : Nat) : Int) := by
    intro l
    induction l with
    | nil => intro n _; simp [idsT]
    | cons t l ih =>
      intro n hn
      have e : (idsT (t :: l)).length = t.ids.length + (idsT l).length := by simp [idsT]
      rw [e] at hn ⊢
      rw [List.foldl_cons, IntWalk.wrap64_in _ (by omega)]
      have := ih (n + t.ids.length) (by omega)
      rw [show ((n : Int) + (t.ids.length : Int)) = ((n + t.ids.length : Nat) : Int) by omega, this]
      congr 1
      omega
  have := key l 0 (by omega)
  unfold sizeW
  simpa using this
end Go.Proofs.Ytkpecagkpjabdab.M
