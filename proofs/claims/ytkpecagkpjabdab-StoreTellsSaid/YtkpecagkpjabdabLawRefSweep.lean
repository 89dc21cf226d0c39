/- Plain laws of the document's sweep: putting a pair or a number into its place; all with all. No condition, no program in sight. -/
import Derived.Test.YtkpecagkpjabdabBagP
namespace Go.Proofs.Ytkpecagkpjabdab.M
open Go.RowKit
set_option linter.unusedVariables false
set_option linter.unusedSimpArgs false
set_option maxRecDepth 100000
section
variable {α : Type}
/-- what stands while the place is looked for: a hole at k -/
def Hole (l : List α) (k : Nat) (out : List α) : Prop := ∃ x, out = l.take k ++ x :: l.drop k
theorem hole_start (l : List α) (p : α) : Hole l l.length (l ++ [p]) := ⟨p, by simp⟩
theorem hole_len {l out : List α} {k : Nat} (h : Hole l k out) (hk : k ≤ l.length) : out.length = l.length + 1 := by
  obtain ⟨x, rfl⟩ := h
  simp only [List.length_append, List.length_take, List.length_cons, List.length_drop]
  omega
theorem hole_at {l out : List α} {k j : Nat} (h : Hole l k out) (hk : k ≤ l.length) (hj : j < k) : out[j]? = l[j]? := by
  obtain ⟨x, rfl⟩ := h
  rw [List.getElem?_append_left (by rw [List.length_take]; omega), List.getElem?_take, if_pos hj]
theorem hole_set {l out : List α} {k : Nat} (h : Hole l k out) (hk : k ≤ l.length) (p : α) : out.set k p = l.take k ++ p :: l.drop k := by
  obtain ⟨x, rfl⟩ := h
  have e : (l.take k).length = k := by rw [List.length_take]; omega
  rw [List.set_append_right _ _ (by omega), e, Nat.sub_self, List.set_cons_zero]
theorem hole_go {l out : List α} {k : Nat} {y : α} (h : Hole l (k + 1) out) (hk : k + 1 ≤ l.length) (hy : l[k]? = some y) : Hole l k (out.set (k + 1) y) := by
  refine ⟨y, ?_⟩
  rw [hole_set h hk]
  have hlt : k < l.length := by omega
  rw [List.take_add_one, hy, List.append_assoc]
  rw [show l.drop k = y :: l.drop (k + 1) from by
    rw [List.drop_eq_getElem_cons hlt]
    congr 1
    have := List.getElem?_eq_getElem hlt
    rw [this] at hy
    simpa using hy]
  rfl
theorem ins_ok (le : α → α → Bool) (tr : ∀ a b c, le a b = true → le b c = true → le a c = true) (tot : ∀ a b, (le a b || le b a) = true) {l : List α} (s : l.Pairwise (fun a b => le a b = true)) {p : α} {k : Nat} (hk : k ≤ l.length)
    (h1 : ∀ q ∈ l.drop k, le q p = false) (h2 : ∀ j q, j + 1 = k → l[j]? = some q → le q p = true) :
    (l.take k ++ p :: l.drop k).Pairwise (fun a b => le a b = true) ∧ (l.take k ++ p :: l.drop k).Perm (l ++ [p]) := by
  constructor
  · have s' : (l.take k ++ l.drop k).Pairwise (fun a b => le a b = true) := by rw [List.take_append_drop]; exact s
    rw [List.pairwise_append] at s' ⊢
    obtain ⟨s1, s2, s3⟩ := s'
    have up : ∀ q ∈ l.drop k, le p q = true := fun q hq => by
      have := tot p q
      rw [h1 q hq] at this
      simpa using this
    have lo : ∀ q ∈ l.take k, le q p = true := by
      intro q hq
      cases k with
      | zero => simp at hq
      | succ j =>
        have hlt : j < l.length := by omega
        have hj := h2 j l[j] rfl (List.getElem?_eq_getElem hlt)
        rw [List.take_add_one, List.getElem?_eq_getElem hlt] at hq
        simp only [Option.toList_some, List.mem_append, List.mem_singleton] at hq
        rcases hq with hq | rfl
        · rw [List.take_add_one, List.getElem?_eq_getElem hlt] at s1
          simp only [Option.toList_some, List.pairwise_append, List.mem_singleton] at s1
          exact tr _ _ _ (s1.2.2 q hq _ rfl) hj
        · exact hj
    refine ⟨s1, List.pairwise_cons.2 ⟨fun q hq => up q hq, s2⟩, fun a ha b hb => ?_⟩
    rcases List.mem_cons.1 hb with rfl | hb
    · exact lo a ha
    · exact s3 a ha b hb
  · refine List.perm_middle.trans ?_
    rw [List.take_append_drop]
    exact (List.perm_append_singleton p l).symm
end
/-- the pairs of box i with those before it, of the first j -/
theorem meets1_snoc (seen : List Box) (a b : Box) : meets1 (seen ++ [a]) b = meets1 seen b ++ (if meetB a b = true then [pairOf a.id b.id] else []) := by
  unfold meets1
  rw [List.filter_append, List.map_append]
  simp only [List.filter_cons, List.filter_nil]
  split <;> rfl
/-- who is asked for all pairs tells them in their order -/
theorem pairs_of_sorted {l : List Box} (g : goodB l = true) {out : List Pr} (hp : out.Perm (allP l)) (s : out.Pairwise (fun a b => leP a b = true)) : out = pairs l := by
  unfold pairs
  rw [if_pos g]
  exact sortP_of hp s
theorem look_of_sorted {l : List Box} (g : goodB l = true) {b : Box} {out : List Int} (hp : out.Perm ((l.filter fun a => meetB a b).map (·.id))) (s : out.Pairwise (fun a b => decide (a ≤ b) = true)) : out = lookB l b := by
  unfold lookB
  rw [if_pos g]
  refine List.Perm.eq_of_pairwise (le := fun a b : Int => a ≤ b) (fun a b _ _ h1 h2 => by omega) (s.imp (by simp)) ?_ (hp.trans (List.mergeSort_perm _ _).symm)
  exact (List.pairwise_mergeSort (le := fun a b : Int => decide (a ≤ b)) (by intro a b c; simp; omega) (by intro a b; simp; omega) _).imp (by simp)
end Go.Proofs.Ytkpecagkpjabdab.M
