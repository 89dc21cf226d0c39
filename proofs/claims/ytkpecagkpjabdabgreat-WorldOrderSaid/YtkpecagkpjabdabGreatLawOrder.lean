/- Plain: a store whose tables are told in another order holds the same. Condition: it is a good one. No program in sight. -/
import Derived.Test.YtkpecagkpjabdabGreatBagP
namespace Go.Proofs.YtkpecagkpjabdabGreat.M
open Go.RowKit
set_option linter.unusedVariables false
set_option linter.unusedSimpArgs false
set_option maxRecDepth 100000
/-- two places changed for each other: the first one and place n -/
def swapI {α : Type} (n : Nat) (l : List α) (d : α) : List α := (l.set 0 (l.getD n d)).set n (l.getD 0 d)
def swapN (n i : Nat) : Nat := if i = n then 0 else if i = 0 then n else i
theorem swapI_len {α : Type} (n : Nat) (l : List α) (d : α) : (swapI n l d).length = l.length := by simp [swapI]
theorem swapI_at {α : Type} {n : Nat} {l : List α} (d : α) (hn : n < l.length) (i : Nat) : (swapI n l d)[i]? = l[swapN n i]? := by
  unfold swapI swapN
  have h0 : 0 < l.length := by omega
  by_cases hi : i = n
  · subst hi
    rw [if_pos rfl, List.getElem?_set_self (by simp; omega), List.getD_eq_getElem?_getD, List.getElem?_eq_getElem h0]
    rfl
  · rw [if_neg hi, List.getElem?_set_ne (fun e => hi e.symm)]
    by_cases hz : i = 0
    · subst hz
      rw [if_pos rfl, List.getElem?_set_self h0, List.getD_eq_getElem?_getD, List.getElem?_eq_getElem hn]
      rfl
    · rw [if_neg hz, List.getElem?_set_ne (fun e => hz e.symm)]
theorem perm_of_index {α : Type} {l l' : List α} (hlen : l'.length = l.length) (σ : Nat → Nat) (h1 : ∀ i, i < l.length → σ i < l.length) (h2 : ∀ i, i < l.length → σ (σ i) = i) (h : ∀ i, i < l.length → l'[i]? = l[σ i]?) : l'.Perm l := by
  cases hl : l with
  | nil =>
    have : l' = [] := List.length_eq_zero_iff.1 (by rw [hlen, hl]; rfl)
    rw [this]
  | cons d tl =>
    rw [← hl]
    have e1 : ∀ m : List α, m = (List.range m.length).map (fun i => m.getD i d) := by
      intro m
      apply List.ext_getElem?
      intro i
      by_cases hi : i < m.length
      · simp [hi]
      · simp [hi, List.getElem?_eq_none (Nat.le_of_not_lt hi)]
    have e2 : l' = ((List.range l.length).map σ).map (fun i => l.getD i d) := by
      rw [e1 l', hlen, List.map_map]
      refine List.map_congr_left (fun i hi => ?_)
      have hi' := List.mem_range.1 hi
      simp only [Function.comp, List.getD_eq_getElem?_getD]
      rw [h i hi']
    rw [e2]
    have e3 : ((List.range l.length).map σ).Perm (List.range l.length) := by
      refine (List.perm_ext_iff_of_nodup ?_ List.nodup_range).2 (fun x => ?_)
      · unfold List.Nodup
        rw [List.pairwise_map]
        refine (show (List.range l.length).Pairwise (· ≠ ·) from List.nodup_range).imp_of_mem ?_
        intro a b ha hb hne e
        apply hne
        rw [← h2 a (List.mem_range.1 ha), ← h2 b (List.mem_range.1 hb), e]
      · rw [List.mem_map, List.mem_range]
        constructor
        · rintro ⟨i, hi, rfl⟩
          exact h1 i (List.mem_range.1 hi)
        · intro hx
          exact ⟨σ x, List.mem_range.2 (h1 x hx), h2 x hx⟩
    have e4 := e3.map (fun i => l.getD i d)
    rw [← e1 l] at e4
    exact e4
def swapT (n : Nat) (t : Table) : Table := { mask := t.mask, ids := swapI n t.ids 0, rows := swapI n t.rows row0 }
theorem entries_get (t : Table) (i : Nat) : t.entries[i]? = (t.ids[i]?).bind fun a => (t.rows[i]?).map fun b => (a, t.mask, b) := by
  unfold Table.entries
  rw [List.getElem?_map]
  cases h1 : t.ids[i]? with
  | none =>
    rw [List.getElem?_eq_none (l := t.ids.zip t.rows) (by have := List.getElem?_eq_none_iff.1 h1; rw [List.length_zip]; omega)]
    rfl
  | some a =>
    cases h2 : t.rows[i]? with
    | none =>
      rw [List.getElem?_eq_none (l := t.ids.zip t.rows) (by have := List.getElem?_eq_none_iff.1 h2; rw [List.length_zip]; omega)]
      rfl
    | some b =>
      have : (t.ids.zip t.rows)[i]? = some (a, b) := List.getElem?_zip_eq_some.2 ⟨h1, h2⟩
      rw [this]
      rfl
theorem swapT_perm {t : Table} (hl : t.ids.length = t.rows.length) {n : Nat} (hn : n < t.ids.length) : (swapT n t).entries.Perm t.entries := by
  have l1 := entries_len t hl
  have l2 : (swapT n t).entries.length = t.ids.length := by
    rw [entries_len _ (by simp [swapT, swapI_len, hl])]
    simp [swapT, swapI_len]
  refine perm_of_index (by rw [l2, l1]) (swapN n) (fun i hi => ?_) (fun i hi => ?_) (fun i hi => ?_)
  · rw [l1] at hi ⊢; unfold swapN; split
    · omega
    · split <;> omega
  · unfold swapN
    by_cases h1 : i = n
    · subst h1
      rw [if_pos rfl]
      by_cases h2 : (0 : Nat) = i
      · rw [if_pos h2]; exact h2
      · rw [if_neg h2, if_pos rfl]
    · rw [if_neg h1]
      by_cases h2 : i = 0
      · subst h2; rw [if_pos rfl, if_pos rfl]
      · rw [if_neg h2, if_neg h1, if_neg h2]
  · rw [entries_get, entries_get]
    show ((swapI n t.ids 0)[i]?).bind _ = _
    rw [swapI_at 0 hn]
    congr 1
    funext a
    show ((swapI n t.rows row0)[i]?).map _ = _
    rw [swapI_at row0 (by omega)]
    rfl
/-- a store, each table told in another order -/
def swapS (f : Table → Nat) (s : Store) : Store := { s with tables := s.tables.map fun t => swapT (f t) t }
theorem swapS_alike {s : Store} (g : GoodS s) {f : Table → Nat} (hf : ∀ t ∈ s.tables, f t < t.ids.length) : Alike s (swapS f s) := by
  have ge := (good_split s).1 g
  have hp : (entries (swapS f s)).Perm (entries s) := by
    unfold entries entriesT swapS
    have key : ∀ l : List Table, (∀ t ∈ l, f t < t.ids.length ∧ t.ids.length = t.rows.length) → ((l.map fun t => swapT (f t) t).flatMap Table.entries).Perm (l.flatMap Table.entries) := by
      intro l
      induction l with
      | nil => intro _; exact .refl _
      | cons t l ih =>
        intro h
        rw [List.map_cons, List.flatMap_cons, List.flatMap_cons]
        exact (swapT_perm (h t (by simp)).2 (h t (by simp)).1).append (ih (fun u hu => h u (List.mem_cons_of_mem _ hu)))
    exact key s.tables (fun t ht => ⟨hf t ht, (ge.1.1 t ht).2⟩)
  have gt : GoodS (swapS f s) := by
    refine (good_split _).2 ⟨⟨?_, ?_⟩, ge.2.perm hp.symm⟩
    · intro t ht
      obtain ⟨u, hu, rfl⟩ := List.mem_map.1 ht
      obtain ⟨k1, k2⟩ := ge.1.1 u hu
      refine ⟨fun e => k1 ?_, by simp [swapT, swapI_len, k2]⟩
      have : (swapI (f u) u.ids 0).length = 0 := by rw [show swapI (f u) u.ids 0 = [] from e]; rfl
      rw [swapI_len] at this
      exact List.length_eq_zero_iff.1 this
    · show (s.tables.map fun t => swapT (f t) t).Pairwise _
      rw [List.pairwise_map]
      exact ge.1.2
  exact ⟨g, gt, rfl, fun o => by unfold at_; exact (look_perm hp gt.nodup o).symm⟩
end Go.Proofs.YtkpecagkpjabdabGreat.M
