/- The plain model of package sweep: boxes, which overlap, all pairs by number; and its plain laws. No condition, no program in sight. -/
import Derived.WalkKit
namespace Go.Proofs.Ytkpecagkpjabdab.M
open Go.RowKit
set_option linter.unusedVariables false
set_option linter.unusedSimpArgs false
set_option maxRecDepth 100000

structure Box where
  id : Int
  x1 : Int
  y1 : Int
  x2 : Int
  y2 : Int
deriving DecidableEq

def meetB (a b : Box) : Bool := decide (a.x1 < b.x2) && (decide (b.x1 < a.x2) && (decide (a.y1 < b.y2) && decide (b.y1 < a.y2)))
theorem meetB_comm (a b : Box) : meetB a b = meetB b a := by
  unfold meetB
  rw [Bool.eq_iff_iff]
  simp only [Bool.and_eq_true, decide_eq_true_eq]
  omega
def GoodB (l : List Box) : Prop := (∀ b ∈ l, b.x1 < b.x2 ∧ b.y1 < b.y2) ∧ (l.map (·.id)).Nodup
instance (l : List Box) : Decidable (GoodB l) := by unfold GoodB; exact inferInstance
def goodB (l : List Box) : Bool := decide (GoodB l)

abbrev Pr := Int × Int
def pairOf (a b : Int) : Pr := (min a b, max a b)
theorem pairOf_comm (a b : Int) : pairOf a b = pairOf b a := by unfold pairOf; rw [Int.min_comm, Int.max_comm]

/-- one box more: its pairs with those ahead of it -/
def meets1 (seen : List Box) (b : Box) : List Pr := (seen.filter fun a => meetB a b).map fun a => pairOf a.id b.id
def stepP (s : List Box × List Pr) (b : Box) : List Box × List Pr := (s.1 ++ [b], s.2 ++ meets1 s.1 b)
/-- all pairs that overlap, each with those ahead of it -/
def allP (l : List Box) : List Pr := (l.foldl stepP ([], [])).2
theorem fold_seen (l : List Box) (s : List Box × List Pr) : (l.foldl stepP s).1 = s.1 ++ l := by
  induction l generalizing s with
  | nil => simp
  | cons a l ih => rw [List.foldl_cons, ih]; simp [stepP]
theorem allP_snoc (l : List Box) (b : Box) : allP (l ++ [b]) = allP l ++ meets1 l b := by
  unfold allP
  rw [List.foldl_append, List.foldl_cons, List.foldl_nil]
  show (l.foldl stepP ([], [])).2 ++ meets1 (l.foldl stepP ([], [])).1 b = _
  rw [fold_seen]; rfl
theorem snocInd {α : Type} {motive : List α → Prop} (l : List α) (nil : motive []) (snoc : ∀ l a, motive l → motive (l ++ [a])) : motive l := by
  have h : ∀ l : List α, motive l.reverse := by
    intro l
    induction l with
    | nil => exact nil
    | cons a l ih => rw [List.reverse_cons]; exact snoc _ _ ih
  rw [← List.reverse_reverse l]; exact h _
theorem allP_nil : allP [] = [] := rfl
theorem allP_cons (a : Box) (l : List Box) : (allP (a :: l)).Perm (((l.filter fun b => meetB a b).map fun b => pairOf a.id b.id) ++ allP l) := by
  induction l using snocInd with
  | nil => exact List.Perm.refl _
  | snoc l b ih =>
    rw [← List.cons_append, allP_snoc, allP_snoc, List.filter_append, List.map_append]
    have h1 : meets1 (a :: l) b = ((if meetB a b then [pairOf a.id b.id] else []) ++ meets1 l b) := by
      unfold meets1
      rw [List.filter_cons]
      split <;> rfl
    have h2 : (([b].filter fun b => meetB a b).map fun b => pairOf a.id b.id) = (if meetB a b then [pairOf a.id b.id] else []) := by
      rw [List.filter_cons]
      split <;> rfl
    rw [h1, h2]
    generalize (if meetB a b then [pairOf a.id b.id] else []) = z
    refine (ih.append_right _).trans ?_
    rw [List.append_assoc, List.append_assoc]
    refine List.Perm.append_left _ ?_
    rw [← List.append_assoc, ← List.append_assoc]
    exact List.Perm.append_right _ List.perm_append_comm
theorem allP_perm {l l' : List Box} (h : l.Perm l') : (allP l).Perm (allP l') := by
  induction h with
  | nil => exact List.Perm.refl _
  | cons a h ih => exact (allP_cons a _).trans ((((h.filter _).map _).append ih).trans (allP_cons a _).symm)
  | swap a b l =>
    have e : ∀ a b : Box, (allP (a :: b :: l)).Perm ((if meetB a b then [pairOf a.id b.id] else []) ++ (((l.filter fun c => meetB a c).map fun c => pairOf a.id c.id) ++ (((l.filter fun c => meetB b c).map fun c => pairOf b.id c.id) ++ allP l))) := by
      intro a b
      refine (allP_cons a _).trans ?_
      rw [List.filter_cons]
      split
      · rw [List.map_cons, List.singleton_append, List.cons_append]
        exact List.Perm.cons _ (List.Perm.append_left _ (allP_cons b l))
      · rw [List.nil_append]
        exact List.Perm.append_left _ (allP_cons b l)
    refine (e b a).trans (List.Perm.trans ?_ (e a b).symm)
    rw [meetB_comm b a, pairOf_comm b.id a.id]
    refine List.Perm.append_left _ ?_
    rw [← List.append_assoc, ← List.append_assoc]
    exact List.Perm.append_right _ List.perm_append_comm
  | trans _ _ h1 h2 => exact h1.trans h2

/-! by number -/
def leP (p q : Pr) : Bool := decide (p.1 < q.1) || (decide (p.1 = q.1) && decide (p.2 ≤ q.2))
theorem leP_iff {p q : Pr} : leP p q = true ↔ p.1 < q.1 ∨ (p.1 = q.1 ∧ p.2 ≤ q.2) := by simp [leP]
theorem leP_trans (a b c : Pr) : leP a b = true → leP b c = true → leP a c = true := by
  simp only [leP_iff]; omega
theorem leP_total (a b : Pr) : (leP a b || leP b a) = true := by
  simp only [Bool.or_eq_true, leP_iff]; omega
theorem leP_anti {a b : Pr} (h1 : leP a b = true) (h2 : leP b a = true) : a = b := by
  rw [leP_iff] at h1 h2
  exact Prod.ext (by omega) (by omega)
def sortP (l : List Pr) : List Pr := l.mergeSort leP
theorem sorted_eq {l l' : List Pr} (h : l.Perm l') (s : l.Pairwise (fun a b => leP a b = true)) (s' : l'.Pairwise (fun a b => leP a b = true)) : l = l' :=
  List.Perm.eq_of_pairwise (le := fun a b => leP a b = true) (fun a b _ _ => leP_anti) s s' h
theorem sortP_perm {l l' : List Pr} (h : l.Perm l') : sortP l = sortP l' :=
  sorted_eq (((List.mergeSort_perm _ _).trans h).trans (List.mergeSort_perm _ _).symm) (List.pairwise_mergeSort leP_trans leP_total _) (List.pairwise_mergeSort leP_trans leP_total _)
/-- whatever is a permutation and ascends is the sorted list -/
theorem sortP_of {l l' : List Pr} (h : l'.Perm l) (s : l'.Pairwise (fun a b => leP a b = true)) : l' = sortP l :=
  sorted_eq (h.trans (List.mergeSort_perm _ _).symm) s (List.pairwise_mergeSort leP_trans leP_total _)

/-- package sweep's Pairs -/
def pairs (l : List Box) : List Pr := if goodB l then sortP (allP l) else []
/-- package sweep's Look -/
def lookB (l : List Box) (b : Box) : List Int := if goodB l then ((l.filter fun a => meetB a b).map (·.id)).mergeSort (fun a b => decide (a ≤ b)) else []

/-! the sweep: those alone that may still be met -/
theorem meets1_open {seen op : List Box} {b : Box} (h : op.filter (fun a => meetB a b) = seen.filter (fun a => meetB a b)) : meets1 op b = meets1 seen b := by
  unfold meets1; rw [h]
/-- who ends ahead of b is not met by b -/
theorem open_step (seen : List Box) (e : Int) (b : Box) (h : e ≤ b.x1) :
    ((seen.filter fun a => decide (e < a.x2)).filter fun a => !decide (a.x2 ≤ b.x1)) = seen.filter fun a => decide (b.x1 < a.x2) := by
  rw [List.filter_filter]
  apply List.filter_congr
  intro a _
  rw [Bool.eq_iff_iff]
  simp only [Bool.and_eq_true, Bool.not_eq_true', decide_eq_false_iff_not, decide_eq_true_eq]
  omega
theorem open_meets (seen : List Box) (b : Box) : (seen.filter fun a => decide (b.x1 < a.x2)).filter (fun a => meetB a b) = seen.filter fun a => meetB a b := by
  rw [List.filter_filter]
  apply List.filter_congr
  intro a _
  unfold meetB
  rw [Bool.eq_iff_iff]
  simp only [Bool.and_eq_true, decide_eq_true_eq]
  omega
theorem goodB_perm {l l' : List Box} (h : l.Perm l') : goodB l = goodB l' := by
  unfold goodB
  rw [decide_eq_decide]
  unfold GoodB
  exact and_congr ⟨fun g b hb => g b (h.mem_iff.2 hb), fun g b hb => g b (h.mem_iff.1 hb)⟩ (h.map _).nodup_iff
/-- SweepOrder: it does not matter in which order boxes are told -/
theorem pairs_perm {l l' : List Box} (h : l.Perm l') : pairs l = pairs l' := by
  unfold pairs
  rw [goodB_perm h, sortP_perm (allP_perm h)]

/-! which pairs there are -/
theorem mem_allP {l : List Box} {p : Pr} : p ∈ allP l ↔ ∃ i j : Nat, j < i ∧ ∃ a b, l[j]? = some a ∧ l[i]? = some b ∧ meetB a b = true ∧ p = pairOf a.id b.id := by
  induction l using snocInd with
  | nil => simp [allP_nil]
  | snoc l c ih =>
    rw [allP_snoc, List.mem_append, ih]
    constructor
    · rintro (⟨i, j, hji, a, b, ha, hb, hm, hp⟩ | h)
      · refine ⟨i, j, hji, a, b, ?_, ?_, hm, hp⟩
        · rw [List.getElem?_append_left (List.getElem?_eq_some_iff.1 ha).1]; exact ha
        · rw [List.getElem?_append_left (List.getElem?_eq_some_iff.1 hb).1]; exact hb
      · unfold meets1 at h
        obtain ⟨a, ha, rfl⟩ := List.mem_map.1 h
        obtain ⟨h1, h2⟩ := List.mem_filter.1 ha
        obtain ⟨j, hj, rfl⟩ := List.getElem_of_mem h1
        refine ⟨l.length, j, hj, l[j], c, ?_, by simp, h2, rfl⟩
        rw [List.getElem?_append_left hj, List.getElem?_eq_getElem hj]
    · rintro ⟨i, j, hji, a, b, ha, hb, hm, hp⟩
      have hi := (List.getElem?_eq_some_iff.1 hb).1
      simp at hi
      have hj : j < l.length := by omega
      rw [List.getElem?_append_left hj] at ha
      by_cases hil : i < l.length
      · rw [List.getElem?_append_left hil] at hb
        exact .inl ⟨i, j, hji, a, b, ha, hb, hm, hp⟩
      · have e : i = l.length := by omega
        subst e
        rw [List.getElem?_append_right (Nat.le_refl _)] at hb
        simp at hb
        subst hb
        refine .inr ?_
        unfold meets1
        exact List.mem_map.2 ⟨a, List.mem_filter.2 ⟨List.mem_of_getElem? ha, hm⟩, hp.symm⟩
theorem pairOf_inj {a b c d : Int} (h : pairOf a b = pairOf c d) : (a = c ∧ b = d) ∨ (a = d ∧ b = c) := by
  unfold pairOf at h
  simp only [Prod.mk.injEq] at h
  omega
theorem allP_nodup {l : List Box} (h : (l.map (·.id)).Nodup) : (allP l).Nodup := by
  induction l using snocInd with
  | nil => simp [allP_nil]
  | snoc l c ih =>
    rw [List.map_append, List.nodup_append] at h
    obtain ⟨h1, _, h2⟩ := h
    rw [allP_snoc, List.nodup_append]
    refine ⟨ih h1, ?_, ?_⟩
    · unfold meets1
      rw [List.nodup_iff_pairwise_ne, List.pairwise_map]
      rw [List.nodup_iff_pairwise_ne, List.pairwise_map] at h1
      have h3 := h1.sublist (List.filter_sublist (p := fun a => meetB a c))
      refine List.Pairwise.imp_of_mem ?_ h3
      intro a b ha hb hne e
      rcases pairOf_inj e with ⟨e1, _⟩ | ⟨e1, e2⟩
      · exact hne e1
      · exact h2 _ (List.mem_map.2 ⟨a, (List.mem_filter.1 ha).1, rfl⟩) _ (by simp) e1
    · intro p hp q hq e
      subst e
      obtain ⟨i, j, hji, a, b, ha, hb, hm, hp⟩ := mem_allP.1 hp
      unfold meets1 at hq
      obtain ⟨x, hx, hq⟩ := List.mem_map.1 hq
      rw [hp] at hq
      have n1 : ∀ y ∈ l, y.id ≠ c.id := fun y hy => h2 _ (List.mem_map.2 ⟨y, hy, rfl⟩) _ (by simp)
      rcases pairOf_inj hq with ⟨e1, e2⟩ | ⟨e1, e2⟩
      · exact n1 _ (List.mem_of_getElem? hb) e2.symm
      · exact n1 _ (List.mem_of_getElem? ha) e2.symm
end Go.Proofs.Ytkpecagkpjabdab.M
