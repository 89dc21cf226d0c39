/- The plain laws behind the walk of store.Good: what holds so far, and why it answers no. No condition, no program in sight. -/
import Derived.Test.YtkpecagkpjabdabPlainFind
import Derived.Maps.OwnSet
namespace Go.Proofs.Ytkpecagkpjabdab.M
open Go.RowKit
set_option linter.unusedVariables false
set_option linter.unusedSimpArgs false
set_option maxRecDepth 100000

/-- the first n tables are as they should be -/
def Upto (s : Store) (n : Nat) : Prop :=
  (∀ t ∈ s.tables.take n, TableOk s.next t) ∧ (s.tables.take n).Pairwise (fun a b => a.mask < b.mask) ∧ (idsT (s.tables.take n)).Nodup
/-- .. and the first k things of the next one -/
def Inner (s : Store) (n k : Nat) (t : Table) : Prop :=
  (∀ i ∈ t.ids.take k, 0 ≤ i ∧ i < s.next) ∧ (∀ r ∈ t.rows.take k, goodRow t.mask r = true) ∧ (idsT (s.tables.take n) ++ t.ids.take k).Nodup
theorem upto_zero (s : Store) : Upto s 0 := by simp [Upto, idsT]
theorem inner_zero {s : Store} {n : Nat} (h : Upto s n) (t : Table) : Inner s n 0 t := by simp [Inner, h.2.2]
theorem take_snoc {α : Type} {l : List α} {n : Nat} {t : α} (h : l[n]? = some t) : l.take (n + 1) = l.take n ++ [t] := by rw [List.take_add_one, h]; rfl
theorem idsT_append (a b : List Table) : idsT (a ++ b) = idsT a ++ idsT b := by simp [idsT]
theorem idsT_one (t : Table) : idsT [t] = t.ids := by simp [idsT]
theorem inner_step {s : Store} {n k : Nat} {t : Table} {id : Int} {r : Row} (h : Inner s n k t) (hi : t.ids[k]? = some id) (hr : t.rows[k]? = some r) (h0 : 0 ≤ id) (h1 : id < s.next)
    (hn : id ∉ idsT (s.tables.take n) ++ t.ids.take k) (hg : goodRow t.mask r = true) : Inner s n (k + 1) t := by
  obtain ⟨a, b, c⟩ := h
  unfold Inner
  rw [take_snoc hi, take_snoc hr]
  refine ⟨?_, ?_, ?_⟩
  · intro i hm
    rcases List.mem_append.1 hm with hm | hm
    · exact a i hm
    · simp only [List.mem_singleton] at hm; subst hm; exact ⟨h0, h1⟩
  · intro q hm
    rcases List.mem_append.1 hm with hm | hm
    · exact b q hm
    · simp only [List.mem_singleton] at hm; subst hm; exact hg
  · rw [← List.append_assoc, List.nodup_append]
    refine ⟨c, by simp, ?_⟩
    intro x hx y hy e
    simp only [List.mem_singleton] at hy
    subst hy; subst e
    exact hn hx
theorem upto_step {s : Store} {n : Nat} {t : Table} (h : Upto s n) (ht : s.tables[n]? = some t) (h0 : t.ids.length ≠ 0) (hl : t.ids.length = t.rows.length)
    (hm : ∀ p, 0 < n → s.tables[n - 1]? = some p → p.mask < t.mask) (hi : Inner s n t.ids.length t) : Upto s (n + 1) := by
  obtain ⟨a, b, c⟩ := h
  obtain ⟨i1, i2, i3⟩ := hi
  rw [List.take_length] at i1 i3
  rw [hl, List.take_length] at i2
  unfold Upto
  rw [take_snoc ht]
  refine ⟨?_, ?_, ?_⟩
  · intro x hx
    rcases List.mem_append.1 hx with hx | hx
    · exact a x hx
    · simp only [List.mem_singleton] at hx
      subst hx
      exact ⟨fun e => h0 (by rw [e]; rfl), hl, i1, i2⟩
  · rw [List.pairwise_append]
    refine ⟨b, by simp, ?_⟩
    intro x hx y hy
    simp only [List.mem_singleton] at hy
    subst hy
    have hlt := (List.getElem?_eq_some_iff.1 ht).1
    obtain ⟨j, hj, rfl⟩ := List.getElem_of_mem hx
    simp only [List.length_take] at hj
    have hpos : 0 < n := by omega
    obtain ⟨p, hp⟩ : ∃ p, s.tables[n - 1]? = some p := ⟨_, List.getElem?_eq_getElem (by omega)⟩
    have h1 := hm p hpos hp
    rw [List.pairwise_iff_getElem] at b
    rw [List.getElem_take]
    have hp' := (List.getElem?_eq_some_iff.1 hp).2
    rcases Nat.lt_or_ge j (n - 1) with hj2 | hj2
    · have := b j (n - 1) (by simp; omega) (by simp; omega) hj2
      rw [List.getElem_take, List.getElem_take, hp'] at this
      omega
    · have e : j = n - 1 := by omega
      subst e
      rw [hp']; exact h1
  · rw [idsT_append, idsT_one]; exact i3
theorem not_good {s : Store} (h : ¬ GoodS s) : good s = false := by simp [good, h]
theorem bad_len {s : Store} {n : Nat} {t : Table} (ht : s.tables[n]? = some t) (h : t.ids.length = 0 ∨ t.ids.length ≠ t.rows.length) : good s = false := by
  refine not_good fun g => ?_
  obtain ⟨a, b, _⟩ := g.1 t (List.mem_of_getElem? ht)
  rcases h with h | h
  · exact a (List.length_eq_zero_iff.1 h)
  · exact h b
theorem bad_mask {s : Store} {n : Nat} {t p : Table} (ht : s.tables[n]? = some t) (hn : 0 < n) (hp : s.tables[n - 1]? = some p) (h : t.mask ≤ p.mask) : good s = false := by
  refine not_good fun g => ?_
  have := g.2.1
  rw [List.pairwise_iff_getElem] at this
  obtain ⟨h1, h2⟩ := List.getElem?_eq_some_iff.1 ht
  obtain ⟨h3, h4⟩ := List.getElem?_eq_some_iff.1 hp
  have := this (n - 1) n h3 h1 (by omega)
  rw [h2, h4] at this
  omega
theorem bad_id {s : Store} {n k : Nat} {t : Table} {id : Int} (ht : s.tables[n]? = some t) (hi : t.ids[k]? = some id) (h : id < 0 ∨ s.next ≤ id) : good s = false := by
  refine not_good fun g => ?_
  obtain ⟨_, _, a, _⟩ := g.1 t (List.mem_of_getElem? ht)
  have := a id (List.mem_of_getElem? hi)
  omega
theorem bad_row {s : Store} {n k : Nat} {t : Table} {r : Row} (ht : s.tables[n]? = some t) (hr : t.rows[k]? = some r) (h : goodRow t.mask r = false) : good s = false := by
  refine not_good fun g => ?_
  obtain ⟨_, _, _, a⟩ := g.1 t (List.mem_of_getElem? ht)
  have := a r (List.mem_of_getElem? hr)
  rw [h] at this; simp at this
theorem bad_twice {s : Store} {n k : Nat} {t : Table} {id : Int} (ht : s.tables[n]? = some t) (hi : t.ids[k]? = some id) (h : id ∈ idsT (s.tables.take n) ++ t.ids.take k) : good s = false := by
  refine not_good fun g => ?_
  have hn := g.2.2.1
  have e : s.tables = s.tables.take n ++ (t :: s.tables.drop (n + 1)) := split_at ht
  have e2 : t.ids = t.ids.take k ++ (id :: t.ids.drop (k + 1)) := split_at hi
  rw [e, idsT_append] at hn
  have e3 : idsT (t :: s.tables.drop (n + 1)) = t.ids ++ idsT (s.tables.drop (n + 1)) := by simp [idsT]
  rw [e3, e2] at hn
  have : (idsT (s.tables.take n) ++ t.ids.take k ++ (id :: (t.ids.drop (k + 1) ++ idsT (s.tables.drop (n + 1))))).Nodup := by
    simpa [List.append_assoc] using hn
  rw [List.nodup_append] at this
  exact this.2.2 id h id (by simp) rfl
/-- a table is not empty, as long on both sides, and of a greater mask than the one ahead of it -/
def Pass (s : Store) (n : Nat) (t : Table) : Prop := t.ids.length ≠ 0 ∧ t.ids.length = t.rows.length ∧ ∀ p, 0 < n → s.tables[n - 1]? = some p → p.mask < t.mask
/-- what the first test says -/
def Tested (s : Store) (n : Nat) (t : Table) (bad : Bool) : Prop := if bad then good s = false else Pass s n t
/-- what the second test says -/
def Tested1 (s : Store) (n k : Nat) (t : Table) (id : Int) (r : Row) (bad : Bool) : Prop :=
  if bad then good s = false else ((0 ≤ id ∧ id < s.next) ∧ id ∉ idsT (s.tables.take n) ++ t.ids.take k ∧ goodRow t.mask r = true)
theorem nodup_bound (l : List Int) (N : Nat) (hn : l.Nodup) (h : ∀ i ∈ l, 0 ≤ i ∧ i < (N : Int)) : l.length ≤ N := by
  induction N generalizing l with
  | zero =>
    cases l with
    | nil => simp
    | cons a l => have := h a (by simp); omega
  | succ N ih =>
    have h1 := ih (l.erase (N : Int)) (hn.erase _) (fun i hi => by
      have := (hn.mem_erase_iff).1 hi
      have := h i this.2
      have hne : i ≠ (N : Int) := by rename_i t; exact t.1
      omega)
    have := List.length_erase_le (a := (N : Int)) (l := l)
    have : l.length ≤ (l.erase (N : Int)).length + 1 := by
      by_cases hm : (N : Int) ∈ l
      · rw [List.length_erase_of_mem hm]; omega
      · rw [List.erase_of_not_mem hm]; omega
    omega
theorem upto_ids {s : Store} {n : Nat} (h : Upto s n) : ∀ i ∈ idsT (s.tables.take n), 0 ≤ i ∧ i < s.next := by
  intro i hi
  unfold idsT at hi
  obtain ⟨t, ht, hm⟩ := List.mem_flatMap.1 hi
  exact (h.1 t ht).2.2.1 i hm
/-- so many different numbers below the next one -/
theorem upto_count {s : Store} {n : Nat} (h : Upto s n) : ((idsT (s.tables.take n)).length : Int) ≤ max 0 s.next := by
  have := nodup_bound _ s.next.toNat h.2.2 (fun i hi => by have := upto_ids h i hi; omega)
  omega
theorem inner_count {s : Store} {n k : Nat} {t : Table} {id : Int} (h : Upto s n) (hi : Inner s n k t) (h0 : 0 ≤ id) (h1 : id < s.next) (hn : id ∉ idsT (s.tables.take n) ++ t.ids.take k) :
    ((idsT (s.tables.take n) ++ t.ids.take k).length : Int) < s.next := by
  have := nodup_bound (id :: (idsT (s.tables.take n) ++ t.ids.take k)) s.next.toNat (List.nodup_cons.2 ⟨hn, hi.2.2⟩) (fun i hm => by
    rcases List.mem_cons.1 hm with rfl | hm
    · omega
    · rcases List.mem_append.1 hm with hm | hm
      · have := upto_ids h i hm; omega
      · have := hi.1 i hm; omega)
  simp only [List.length_cons] at this
  omega
theorem good_end {s : Store} (h : Upto s s.tables.length) : good s = (decide (sizeW s.tables ≤ 10) && (decide (0 ≤ s.next) && decide (s.next ≤ 1048576))) := by
  have hc := upto_count h
  obtain ⟨a, b, c⟩ := h
  rw [List.take_length] at a b c hc
  by_cases hx : s.next ≤ 1048576
  · have e := sizeW_eq s.tables (by omega)
    unfold good
    rw [e, Bool.eq_iff_iff]
    simp only [decide_eq_true_eq, Bool.and_eq_true]
    constructor
    · rintro ⟨_, _, _, d, e, f⟩; omega
    · rintro ⟨d, e, f⟩; exact ⟨a, b, c, by omega, e, f⟩
  · rw [not_good (fun g => hx g.2.2.2.2.2), decide_eq_false hx]
    simp
theorem tested1_row {s : Store} {n k : Nat} {t : Table} {id : Int} {r : Row} {g : Bool} (hg : g = goodRow t.mask r) (ht : s.tables[n]? = some t) (hr : t.rows[k]? = some r) (h0 : ¬ id < 0) (h1 : ¬ s.next ≤ id)
    (hn : id ∉ idsT (s.tables.take n) ++ t.ids.take k) : Tested1 s n k t id r (!g) := by
  cases g
  · exact bad_row ht hr hg.symm
  · exact ⟨⟨by omega, by omega⟩, hn, hg.symm⟩
/-! a set of numbers, as a map of bools reads -/
def keysOf (l : List Int) : List Lit := l.map (Lit.int .i64)
theorem mem_keysOf {l : List Int} {z : Int} : Lit.int .i64 z ∈ keysOf l ↔ z ∈ l := by simp [keysOf]
theorem keysOf_key (l : List Int) : ∀ x ∈ keysOf l, WideAt.IsKeyLit x := by
  intro x hx
  obtain ⟨z, _, rfl⟩ := List.mem_map.1 hx
  trivial
open Go.Maps in
theorem atKey_setOf {H : Type} (u d : DataW H) (l : List Int) (z : Int) : (setOf u (keysOf l)).atKey (.int .i64 z) d = if z ∈ l then u else d := by
  have key : ∀ (r : List Int), (setOf u (keysOf r.reverse)).atKey (.int .i64 z) d = if z ∈ r.reverse then u else d := by
    intro r
    induction r with
    | nil => simp [setOf, DataW.atKey, keysOf]
    | cons x r ih =>
      have e1 : keysOf (r.reverse ++ [x]) = keysOf r.reverse ++ [Lit.int .i64 x] := by simp [keysOf]
      rw [List.reverse_cons, e1, setOf_snoc]
      have hm : IsMap (setOf u (keysOf r.reverse)) := (tidy_setOf u _ (keysOf_key _)).isMap
      by_cases e : z = x
      · subst e
        rw [atKey_put_same hm (keysOf_key [z] _ (by simp [keysOf])), if_pos (by simp)]
      · rw [atKey_put_other (by simpa using e), ih]
        have : (z ∈ r.reverse ++ [x]) ↔ z ∈ r.reverse := by simp [e]
        simp only [this]
  have := key l.reverse
  simpa using this
end Go.Proofs.Ytkpecagkpjabdab.M
