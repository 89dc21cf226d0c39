/- Plain laws behind the document's ThingsOf: what has been taken over so far, and why it answers no. No condition, no program in sight. -/
import Derived.Test.YtkpecagkpjabdaaBagP
import Derived.Test.YtkpecagkpjabdaaMapThing
namespace Go.Proofs.Ytkpecagkpjabdaa.M
open Go.RowKit
set_option linter.unusedVariables false
set_option linter.unusedSimpArgs false
set_option maxRecDepth 100000
/-- the mask of the table ahead of table n; 0: there is none -/
def lastM (s : Store) : Nat → Int
  | 0 => 0
  | n + 1 => match s.tables[n]? with | some t => t.mask | none => 0
theorem lastM_succ {s : Store} {n : Nat} {t : Table} (h : s.tables[n]? = some t) : lastM s (n + 1) = t.mask := by simp [lastM, h]
/-- a store, with the bound on its numbers as the document reckons it -/
def alike (s : Store) : Store := ⟨s.tables, wrap64 (s.next - 1) + 1⟩
theorem alike_eq {s : Store} (h : 0 ≤ s.next) (h1 : s.next ≤ 9223372036854775807) : alike s = s := by
  unfold alike
  rw [IntWalk.wrap64_in _ (by omega)]
  simp
theorem alike_bad {s : Store} (h : good (alike s) = false) : good s = false := by
  cases hg : good s
  · rfl
  · have g := (good_iff s).1 hg
    rw [alike_eq g.2.2.2.2.1 (by have := g.2.2.2.2.2; omega), hg] at h
    cases h
theorem good_last {s : Store} (h : Upto (alike s) s.tables.length) : good s = (decide (((idsT s.tables).length : Int) ≤ 10) && decide (0 ≤ s.next ∧ s.next ≤ 1048576)) := by
  by_cases hn : 0 ≤ s.next ∧ s.next ≤ 1048576
  · rw [alike_eq hn.1 (by omega)] at h
    obtain ⟨a, b, c⟩ := h
    rw [List.take_length] at a b c
    rw [decide_eq_true hn, Bool.and_true, Bool.eq_iff_iff, good_iff, decide_eq_true_eq]
    unfold GoodS
    constructor
    · intro g; have := g.2.2.2.1; omega
    · intro g; exact ⟨a, b, c, by omega, hn.1, hn.2⟩
  · rw [decide_eq_false hn, Bool.and_false]
    cases hg : good s
    · rfl
    · have g := (good_iff s).1 hg
      exact absurd ⟨g.2.2.2.2.1, g.2.2.2.2.2⟩ hn
/-- a table's first row says that its mask is from 1 to 31 -/
theorem ok_mask {next : Int} {t : Table} (h : TableOk next t) : 1 ≤ t.mask ∧ t.mask ≤ 31 := by
  obtain ⟨h1, h2, h3, h4⟩ := h
  obtain ⟨r, l, e⟩ : ∃ r l, t.rows = r :: l := by
    cases hr : t.rows with
    | nil => rw [hr] at h2; exact absurd (List.length_eq_zero_iff.1 h2) h1
    | cons r l => exact ⟨r, l, rfl⟩
  have := h4 r (by rw [e]; simp)
  unfold goodRow at this
  simp only [Bool.and_eq_true, decide_eq_true_eq] at this
  exact this.1
theorem bad_first {s : Store} {n : Nat} {t : Table} (ht : s.tables[n]? = some t) (h : t.mask ≤ 0) : good s = false := by
  cases hg : good s
  · rfl
  · have g := (good_iff s).1 hg
    have := ok_mask (g.1 t (List.mem_of_getElem? ht))
    omega
theorem bad_last {s : Store} {n : Nat} {t : Table} (ht : s.tables[n]? = some t) (h : t.mask ≤ lastM s n) : good s = false := by
  cases n with
  | zero => exact bad_first ht h
  | succ n =>
    obtain ⟨p, hp⟩ : ∃ p, s.tables[n]? = some p := ⟨_, List.getElem?_eq_getElem (by have := (List.getElem?_eq_some_iff.1 ht).1; omega)⟩
    rw [lastM_succ hp] at h
    exact bad_mask ht (by omega) (p := p) (by simpa using hp) h
theorem last_up {s : Store} {n : Nat} {t : Table} (h : ¬ t.mask ≤ lastM s n) : ∀ p, 0 < n → s.tables[n - 1]? = some p → p.mask < t.mask := by
  intro p hn hp
  obtain ⟨m, rfl⟩ : ∃ m, n = m + 1 := ⟨n - 1, by omega⟩
  simp only [Nat.add_sub_cancel] at hp
  rw [lastM_succ hp] at h
  omega
theorem sum_le (l : List Table) (N : Nat) (h : ∀ t ∈ l, t.ids.length ≤ N) : (idsT l).length ≤ l.length * N := by
  induction l with
  | nil => simp [idsT]
  | cons t l ih =>
    have e : (idsT (t :: l)).length = t.ids.length + (idsT l).length := by simp [idsT]
    have := h t (by simp)
    have := ih (fun t ht => h t (by simp [ht]))
    rw [e, List.length_cons, Nat.succ_mul]
    omega
/-- there are few tables: so there are not too many things -/
theorem upto_small {s : Store} {n : Nat} (h : Upto s n) (hs : ∀ t ∈ s.tables, t.ids.length ≤ 17592186044416) : (idsT (s.tables.take n)).length ≤ 562949953421312 := by
  have hm : (s.tables.take n).length ≤ 32 := by
    have h1 : ((s.tables.take n).map (·.mask)).Nodup := by
      unfold List.Nodup
      rw [List.pairwise_map]
      exact h.2.1.imp (fun h => by omega)
    have := nodup_bound ((s.tables.take n).map (·.mask)) 32 h1 (fun m hm => by
      obtain ⟨t, ht, rfl⟩ := List.mem_map.1 hm
      have := ok_mask (h.1 t ht)
      omega)
    rwa [List.length_map] at this
  have := sum_le (s.tables.take n) 17592186044416 (fun t ht => hs t (List.mem_of_mem_take ht))
  have h3 : (s.tables.take n).length * 17592186044416 ≤ 32 * 17592186044416 := Nat.mul_le_mul_right _ hm
  omega
/-- one thing more -/
theorem look_snoc {E : List Entry} {id m : Int} {r : Row} (h : id ∉ E.map (·.1)) : look (E ++ [(id, m, r)]) = upd (look E) id (m, r) := by
  funext j
  unfold upd
  have hn := look_none.2 h
  unfold look at hn ⊢
  rw [List.find?_append]
  by_cases hj : j = id
  · subst hj
    rw [if_pos rfl]
    simp only [Option.map_eq_none_iff] at hn
    rw [hn]
    simp
  · rw [if_neg hj]
    cases hf : E.find? fun e => e.1 == j with
    | some x => simp
    | none =>
      have : ¬ id = j := fun e => hj e.symm
      simp [this]
/-- what has been taken over: the first n tables, and k things of the next one -/
def taken (s : Store) (n k : Nat) (t : Table) : List Entry := entriesT (s.tables.take n) ++ t.entries.take k
theorem taken_zero (s : Store) (n : Nat) (t : Table) : taken s n 0 t = entriesT (s.tables.take n) := by simp [taken]
theorem taken_succ {s : Store} {n k : Nat} {t : Table} {id : Int} {r : Row} (hi : t.ids[k]? = some id) (hr : t.rows[k]? = some r) : taken s n (k + 1) t = taken s n k t ++ [(id, t.mask, r)] := by
  unfold taken
  rw [take_snoc (t := (id, t.mask, r)), List.append_assoc]
  unfold Table.entries
  have hz : (t.ids.zip t.rows)[k]? = some (id, r) := List.getElem?_zip_eq_some.2 ⟨hi, hr⟩
  rw [List.getElem?_map, hz]
  rfl
theorem taken_all {s : Store} {n : Nat} {t : Table} (ht : s.tables[n]? = some t) (hl : t.ids.length = t.rows.length) : taken s n t.ids.length t = entriesT (s.tables.take (n + 1)) := by
  unfold taken
  have he : t.entries.take t.ids.length = t.entries := List.take_of_length_le (by rw [entries_len t hl]; exact Nat.le_refl _)
  rw [take_snoc ht, entriesT_append, he]
  simp [entriesT]
theorem taken_ids {s : Store} {n k : Nat} {t : Table} (he : ∀ u ∈ s.tables.take n, u.ids.length = u.rows.length) (hl : t.ids.length = t.rows.length) : (taken s n k t).map (·.1) = idsT (s.tables.take n) ++ t.ids.take k := by
  unfold taken
  rw [List.map_append, entriesT_ids _ he, List.map_take, entries_ids t hl]
theorem taken_len {s : Store} {n k : Nat} {t : Table} (he : ∀ u ∈ s.tables.take n, u.ids.length = u.rows.length) (hl : t.ids.length = t.rows.length) : (taken s n k t).length = (idsT (s.tables.take n)).length + (t.ids.take k).length := by
  have := congrArg List.length (taken_ids (k := k) he hl)
  rwa [List.length_map, List.length_append] at this
theorem upto_even {s : Store} {n : Nat} (h : Upto s n) : ∀ u ∈ s.tables.take n, u.ids.length = u.rows.length := fun u hu => (h.1 u hu).2.1
theorem look_some_iff {E : List Entry} {id : Int} : (look E id).isSome = decide (id ∈ E.map (·.1)) := by
  by_cases h : id ∈ E.map (·.1)
  · rw [decide_eq_true h]
    cases hl : look E id with
    | some x => rfl
    | none => exact absurd h (look_none.1 hl)
  · rw [decide_eq_false h, look_none.2 h]
    rfl
end Go.Proofs.Ytkpecagkpjabdaa.M
