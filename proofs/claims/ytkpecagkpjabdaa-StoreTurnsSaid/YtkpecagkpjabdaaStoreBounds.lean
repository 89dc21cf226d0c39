/- What a good store allows: few tables, short ones, masks from 1 to 31, numbers of 64 bits. No condition. -/
import Derived.Test.YtkpecagkpjabdaaStoreCut
import Derived.Test.YtkpecagkpjabdaaStorePut
import Derived.Test.YtkpecagkpjabdaaOpenStore
import Derived.Test.YtkpecagkpjabdaaBagP
namespace Go.Proofs.Ytkpecagkpjabdaa
open Go.RowKit
set_option linter.unusedVariables false
set_option linter.unusedSimpArgs false
set_option maxRecDepth 100000

theorem ids_le (l : List M.Table) {t : M.Table} (h : t ∈ l) : t.ids.length ≤ (M.idsT l).length := by
  induction l with
  | nil => simp at h
  | cons a l ih =>
    unfold M.idsT at ih ⊢
    rw [List.flatMap_cons, List.length_append]
    rcases List.mem_cons.1 h with rfl | h
    · omega
    · have := ih h; omega
theorem tables_le (l : List M.Table) (h : ∀ t ∈ l, t.ids ≠ []) : l.length ≤ (M.idsT l).length := by
  induction l with
  | nil => simp
  | cons a l ih =>
    have h1 := ih (fun t ht => h t (List.mem_cons_of_mem _ ht))
    have h2 : a.ids.length ≠ 0 := fun e => h a (by simp) (List.length_eq_zero_iff.1 e)
    unfold M.idsT at h1 ⊢
    rw [List.flatMap_cons, List.length_append, List.length_cons]
    omega
structure Bounds (s : M.Store) : Prop where
  few : s.tables.length ≤ 10
  each : ∀ t ∈ s.tables, t.ids.length ≤ 10 ∧ t.rows.length = t.ids.length ∧ t.ids ≠ [] ∧ t.rows ≠ [] ∧ (1 ≤ t.mask ∧ t.mask ≤ 31)
  asc : s.tables.Pairwise (fun a b => a.mask < b.mask)
  lo : 0 ≤ s.next
  hi : s.next ≤ 1048576
theorem good_bounds {s : M.Store} (h : M.GoodS s) : Bounds s := by
  obtain ⟨h1, h2, h3, h4, h5, h6⟩ := h
  refine ⟨Nat.le_trans (tables_le _ fun t ht => (h1 t ht).1) h4, fun t ht => ?_, h2, h5, h6⟩
  obtain ⟨k1, k2, k3, k4⟩ := h1 t ht
  have hr : t.rows ≠ [] := fun e => k1 (List.length_eq_zero_iff.1 (by rw [k2, e]; rfl))
  refine ⟨Nat.le_trans (ids_le _ ht) h4, k2.symm, k1, hr, ?_⟩
  obtain ⟨r, hr⟩ := List.exists_mem_of_ne_nil _ hr
  have := M.goodRow_fits.1 (k4 r hr)
  exact ⟨this.lo, this.hi⟩
theorem Bounds.short {s : M.Store} (h : Bounds s) : Short s := by
  refine ⟨by have := h.few; omega, fun t ht => ?_⟩
  obtain ⟨k1, k2, k3, k4, k5⟩ := h.each t ht
  exact ⟨⟨k3, k4⟩, by omega, by omega⟩
/-- few tables, short ones -/
def FewT (ts : List M.Table) : Prop := ts.length ≤ 1000 ∧ ∀ t ∈ ts, t.ids.length ≤ 1000 ∧ t.rows.length ≤ 1000
theorem Bounds.isFew {s : M.Store} (h : Bounds s) : FewT s.tables := by
  refine ⟨by have := h.few; omega, fun t ht => ?_⟩
  obtain ⟨k1, k2, k3, k4, k5⟩ := h.each t ht
  exact ⟨by omega, by omega⟩
theorem Bounds.masks {s : M.Store} (h : Bounds s) : Masks s.tables := by
  refine ⟨h.asc, fun t ht => ?_⟩
  obtain ⟨k1, k2, k3, k4, k5⟩ := h.each t ht
  omega
/-- a good store's numbers are of 64 bits -/
theorem good_in {s : M.Store} (h : M.GoodS s) : StoreIn s := by
  have hb := good_bounds h
  obtain ⟨h1, h2, h3, h4, h5, h6⟩ := h
  refine ⟨⟨by omega, by omega⟩, fun t ht => ?_⟩
  obtain ⟨k1, k2, k3, k4⟩ := h1 t ht
  have km := (hb.each t ht).2.2.2.2
  refine ⟨⟨by omega, by omega⟩, fun z hz => ?_, fun r hr => ?_⟩
  · have := k3 z hz; exact ⟨by omega, by omega⟩
  · have := (M.goodRow_fits.1 (k4 r hr)).rowIn
    unfold M.RowIn M.Ok64 at this
    unfold RowOk I64
    omega
theorem without_length {α : Type} (l : List α) (k : Nat) : (M.without l k).length = l.length - 1 := by
  unfold M.without
  cases h : l.getLast? with
  | none => rw [List.getLast?_eq_none_iff.1 h]; rfl
  | some x => simp
/-- behind a cut too -/
theorem cut_few {ts : List M.Table} (h : FewT ts) (i k : Nat) : FewT (M.cutT ts i k) := by
  unfold M.cutT
  cases e : ts[i]? with
  | none => exact h
  | some t =>
    simp only
    have ht := h.2 t (List.mem_of_getElem? e)
    split
    · refine ⟨?_, fun u hu => h.2 u (List.mem_of_mem_eraseIdx hu)⟩
      have := h.1
      rw [List.length_eraseIdx]; split <;> omega
    · refine ⟨by rw [List.length_set]; exact h.1, fun u hu => ?_⟩
      rcases List.mem_or_eq_of_mem_set hu with hu | rfl
      · exact h.2 u hu
      · simp only [without_length]; omega
theorem cut_masks {ts : List M.Table} (h : Masks ts) (i k : Nat) : Masks (M.cutT ts i k) := by
  unfold M.cutT
  cases e : ts[i]? with
  | none => exact h
  | some t =>
    simp only
    have ht := h.2 t (List.mem_of_getElem? e)
    split
    · exact ⟨h.1.sublist (List.eraseIdx_sublist _ _), fun u hu => h.2 u (List.mem_of_mem_eraseIdx hu)⟩
    · have hlt := (List.getElem?_eq_some_iff.1 e).1
      have hti := (List.getElem?_eq_some_iff.1 e).2
      refine ⟨?_, fun u hu => ?_⟩
      · rw [List.pairwise_iff_getElem] at *
        have hp := List.pairwise_iff_getElem.1 h.1
        intro a b ha hb hab
        simp only [List.length_set] at ha hb
        have k := hp a b ha hb hab
        rw [List.getElem_set, List.getElem_set]
        split <;> split
        · omega
        · rename_i q1 q2; subst q1; rw [hti] at k; exact k
        · rename_i q1 q2; subst q2; rw [hti] at k; exact k
        · exact k
      · rcases List.mem_or_eq_of_mem_set hu with hu | rfl
        · exact h.2 u hu
        · exact ht
end Go.Proofs.Ytkpecagkpjabdaa
