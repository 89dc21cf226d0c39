/- The plain model of package store's tables: what Good, find, Get, Size, Spawn, Kill, Set, Change and Query answer, and the plain laws on what a store holds. No condition, no program in sight. -/
import Derived.Test.YtkpecagkpjabdabPlainStore
namespace Go.Proofs.Ytkpecagkpjabdab.M
open Go.RowKit
set_option linter.unusedVariables false
set_option linter.unusedSimpArgs false
set_option maxRecDepth 100000

/-- a thing: its number, its mask, its row -/
abbrev Entry := Int × Int × Row

def Table.entries (t : Table) : List Entry := (t.ids.zip t.rows).map fun p => (p.1, t.mask, p.2)
def entriesT (l : List Table) : List Entry := l.flatMap Table.entries
def entries (s : Store) : List Entry := entriesT s.tables

def idsT (l : List Table) : List Int := l.flatMap Table.ids

/-- one table is as it should be -/
def TableOk (next : Int) (t : Table) : Prop :=
  t.ids ≠ [] ∧ t.ids.length = t.rows.length ∧ (∀ i ∈ t.ids, 0 ≤ i ∧ i < next) ∧ ∀ r ∈ t.rows, goodRow t.mask r = true
instance (next : Int) (t : Table) : Decidable (TableOk next t) := by unfold TableOk; exact inferInstance

def GoodS (s : Store) : Prop :=
  (∀ t ∈ s.tables, TableOk s.next t) ∧ s.tables.Pairwise (fun a b => a.mask < b.mask) ∧ (idsT s.tables).Nodup ∧ (idsT s.tables).length ≤ 10 ∧ 0 ≤ s.next ∧ s.next ≤ 1048576
instance (s : Store) : Decidable (GoodS s) := by unfold GoodS; exact inferInstance
def good (s : Store) : Bool := decide (GoodS s)
theorem good_iff (s : Store) : good s = true ↔ GoodS s := by simp [good]

/-- which table, which place there -/
def findT (id : Int) : List Table → Option (Nat × Nat)
  | [] => none
  | t :: ts => if id ∈ t.ids then some (0, t.ids.idxOf id) else (findT id ts).map fun p => (p.1 + 1, p.2)
def find (s : Store) (id : Int) : Option (Nat × Nat) := findT id s.tables

def get (s : Store) (id : Int) : Int × Row × Bool :=
  match find s id with
  | none => (0, row0, false)
  | some (i, k) =>
    match s.tables[i]? with
    | none => (0, row0, false)
    | some t => if h : k < t.rows.length then (t.mask, t.rows[k], true) else (0, row0, false)

def size (s : Store) : Nat := (idsT s.tables).length

/-- a thing more, in the table of its mask (tables by mask) -/
def putT (id m : Int) (r : Row) : List Table → List Table
  | [] => [⟨m, [id], [r]⟩]
  | t :: ts => if t.mask < m then t :: putT id m r ts else if t.mask = m then ⟨m, t.ids ++ [id], t.rows ++ [r]⟩ :: ts else ⟨m, [id], [r]⟩ :: t :: ts
def put (s : Store) (id m : Int) (r : Row) : Store := { s with tables := putT id m r s.tables }

/-- a list without its place k: the last one comes there -/
def without {α : Type} (l : List α) (k : Nat) : List α :=
  match l.getLast? with
  | none => []
  | some x => (l.set k x).dropLast
def cutT (l : List Table) (i k : Nat) : List Table :=
  match l[i]? with
  | none => l
  | some t => if t.ids.length = 1 then l.eraseIdx i else l.set i ⟨t.mask, without t.ids k, without t.rows k⟩
def cut (s : Store) (i k : Nat) : Store := { s with tables := cutT s.tables i k }

def setT (l : List Table) (i k : Nat) (r : Row) : List Table :=
  match l[i]? with
  | none => l
  | some t => l.set i ⟨t.mask, t.ids, t.rows.set k r⟩

def maskAt (s : Store) (i : Nat) : Int := match s.tables[i]? with | none => 0 | some t => t.mask
def rowAt (s : Store) (i k : Nat) : Row := match s.tables[i]? with | none => row0 | some t => t.rows.getD k row0

/-- errors: 1 form, 2 range, 3 none, 5 full -/
def spawn (s : Store) (m : Int) (r : Row) : Store × Int × Int :=
  if good s = false then (s, 0, 1) else if goodRow m r = false then (s, 0, 2) else if 10 ≤ size s ∨ 1048576 ≤ s.next then (s, 0, 5)
  else (put { s with next := s.next + 1 } s.next m r, s.next, 0)
def kill (s : Store) (id : Int) : Store × Int :=
  if good s = false then (s, 1) else match find s id with
  | none => (s, 3)
  | some (i, k) => (cut s i k, 0)
def set (s : Store) (id : Int) (r : Row) : Store × Int :=
  if good s = false then (s, 1) else match find s id with
  | none => (s, 3)
  | some (i, k) => if goodRow (maskAt s i) r = false then (s, 2) else ({ s with tables := setT s.tables i k r }, 0)
/-- the row of a changed thing -/
def changed (was m : Int) (old r : Row) : Row := only m (withR old r (bits .andNot .i64 m was))
def change (s : Store) (id m : Int) (r : Row) : Store × Int :=
  if good s = false then (s, 1) else match find s id with
  | none => (s, 3)
  | some (i, k) =>
    let row := changed (maskAt s i) m (rowAt s i k) r
    if goodRow m row = false then (s, 2) else (put (cut s i k) id m row, 0)
def query (s : Store) (m : Int) : List Int :=
  (s.tables.flatMap fun t => if bits .and .i64 t.mask m = m then t.ids else []).mergeSort (fun a b => decide (a ≤ b))

/-! what a store holds -/

/-- a thing among others, by its number -/
def look (l : List Entry) (id : Int) : Option (Int × Row) := (l.find? fun e => e.1 == id).map Prod.snd

theorem look_none {l : List Entry} {id : Int} : look l id = none ↔ id ∉ l.map (·.1) := by
  simp only [look, Option.map_eq_none_iff, List.find?_eq_none, beq_iff_eq, List.mem_map, not_exists, not_and]
theorem look_some {l : List Entry} {id m : Int} {r : Row} (hn : (l.map (·.1)).Nodup) : look l id = some (m, r) ↔ (id, m, r) ∈ l := by
  induction l with
  | nil => simp [look]
  | cons e l ih =>
    simp only [List.map_cons, List.nodup_cons] at hn
    unfold look
    rw [List.find?_cons]
    by_cases h : e.1 = id
    · simp only [beq_iff_eq.2 h, Option.map_some, Option.some.injEq]
      constructor
      · intro h2; rw [← h2, ← h]; simp
      · intro h2
        rcases List.mem_cons.1 h2 with h3 | h3
        · rw [← h3]
        · exact absurd (List.mem_map.2 ⟨_, h3, rfl⟩) (h ▸ hn.1)
    · have hb : (e.1 == id) = false := by simpa using h
      simp only [hb]
      rw [show Option.map Prod.snd (l.find? fun e => e.1 == id) = look l id from rfl, ih hn.2]
      constructor
      · exact fun h2 => List.mem_cons_of_mem _ h2
      · intro h2
        rcases List.mem_cons.1 h2 with h3 | h3
        · exact absurd (by rw [← h3]) h
        · exact h3
theorem look_perm {l l' : List Entry} (hp : l.Perm l') (hn : (l.map (·.1)).Nodup) (id : Int) : look l id = look l' id := by
  have hn' : (l'.map (·.1)).Nodup := (hp.map _).nodup_iff.1 hn
  cases h : look l id with
  | none =>
    have := look_none.1 h
    exact (look_none.2 (fun h2 => this ((hp.map _).mem_iff.2 h2))).symm
  | some p =>
    obtain ⟨m, r⟩ := p
    exact ((look_some hn').2 (hp.mem_iff.1 ((look_some hn).1 h))).symm

/-! lists -/
theorem without_concat {α : Type} (a : List α) (x : α) (k : Nat) (h : k ≤ a.length) : without (a ++ [x]) k = if k < a.length then a.set k x else a := by
  unfold without
  simp only [List.getLast?_append, List.getLast?_singleton, Option.some_or]
  split
  · rename_i hk
    rw [List.set_append_left _ _ hk, List.dropLast_concat]
  · rename_i hk
    rw [List.set_append_right _ _ (by omega)]
    have : k - a.length = 0 := by omega
    rw [this]; simp
theorem concat_of {α : Type} {l : List α} (h : l ≠ []) : ∃ a x, l = a ++ [x] := ⟨l.dropLast, l.getLast h, (List.dropLast_concat_getLast h).symm⟩
theorem without_set {α : Type} (l : List α) (k : Nat) (h : k < l.length) (r : α) : without (l.set k r) k = without l k := by
  obtain ⟨a, x, rfl⟩ := concat_of (l := l) (by intro e; subst e; simp at h)
  simp at h
  by_cases hk : k < a.length
  · rw [List.set_append_left _ _ hk, without_concat _ _ _ (by simp; omega), without_concat _ _ _ (by omega), if_pos (by simpa using hk), if_pos hk, List.set_set]
  · have e : k - a.length = 0 := by omega
    rw [List.set_append_right _ _ (by omega), e, List.set_cons_zero, without_concat _ _ _ (by omega), without_concat _ _ _ (by omega), if_neg hk, if_neg hk]
theorem without_perm {α : Type} (l : List α) (k : Nat) (h : k < l.length) : l.Perm (l[k] :: without l k) := by
  obtain ⟨a, x, rfl⟩ := concat_of (l := l) (by intro e; subst e; simp at h)
  have hw := without_concat a x k (by simp at h; omega)
  rw [hw]
  split
  · rename_i hk
    rw [List.getElem_append_left hk]
    refine (List.perm_append_singleton x a).trans ?_
    have h1 : a = a.take k ++ a[k] :: a.drop (k + 1) := by rw [← List.drop_eq_getElem_cons hk, List.take_append_drop]
    have h2 : a.set k x = a.take k ++ x :: a.drop (k + 1) := by rw [List.set_eq_take_append_cons_drop, if_pos hk]
    rw [h2]
    conv => lhs; rw [h1]
    have p1 : (x :: (a.take k ++ a[k] :: a.drop (k + 1))).Perm (x :: a[k] :: (a.take k ++ a.drop (k + 1))) := List.Perm.cons _ List.perm_middle
    have p2 : (a[k] :: (a.take k ++ x :: a.drop (k + 1))).Perm (a[k] :: x :: (a.take k ++ a.drop (k + 1))) := List.Perm.cons _ List.perm_middle
    exact p1.trans ((List.Perm.swap _ _ _).trans p2.symm)
  · rename_i hk
    have hk' : k = a.length := by simp at h; omega
    subst hk'
    rw [List.getElem_append_right (Nat.le_refl _)]
    simp
theorem without_length {α : Type} (l : List α) (k : Nat) : (without l k).length = l.length - 1 := by
  unfold without
  split
  · rename_i h; rw [List.getLast?_eq_none_iff] at h; subst h; rfl
  · simp
theorem without_map {α β : Type} (f : α → β) (l : List α) (k : Nat) : without (l.map f) k = (without l k).map f := by
  unfold without
  rw [List.getLast?_map]
  cases l.getLast? with
  | none => rfl
  | some x => simp [List.map_set]
theorem without_zip {α β : Type} (a : List α) (b : List β) (k : Nat) (h : a.length = b.length) : without (a.zip b) k = (without a k).zip (without b k) := by
  have ea : a = (a.zip b).map Prod.fst := (List.map_fst_zip (by omega)).symm
  have eb : b = (a.zip b).map Prod.snd := (List.map_snd_zip (by omega)).symm
  generalize a.zip b = z at ea eb
  subst ea; subst eb
  rw [without_map, without_map, List.zip_map_left, List.zip_map_right]
  generalize without z k = y
  induction y with
  | nil => rfl
  | cons c y ih =>
    simp only [List.zip_cons_cons, List.map_cons, ← ih]
    rfl

/-! entries -/
def Even (l : List Table) : Prop := ∀ t ∈ l, t.ids.length = t.rows.length
theorem entries_ids (t : Table) (h : t.ids.length = t.rows.length) : t.entries.map (·.1) = t.ids := by
  unfold Table.entries
  rw [List.map_map]
  exact List.map_fst_zip (by omega)
theorem entriesT_ids (l : List Table) (h : Even l) : (entriesT l).map (·.1) = idsT l := by
  induction l with
  | nil => rfl
  | cons t l ih =>
    have h1 := entries_ids t (h t (by simp))
    have h2 := ih (fun x hx => h x (List.mem_cons_of_mem _ hx))
    unfold entriesT idsT at h2 ⊢
    simp only [List.flatMap_cons, List.map_append, h1, h2]
theorem mem_entries {t : Table} {e : Entry} : e ∈ t.entries ↔ (e.1, e.2.2) ∈ t.ids.zip t.rows ∧ e.2.1 = t.mask := by
  obtain ⟨a, b, c⟩ := e
  unfold Table.entries
  simp only [List.mem_map, Prod.mk.injEq, Prod.exists]
  constructor
  · rintro ⟨x, y, h, rfl, rfl, rfl⟩; exact ⟨h, rfl⟩
  · rintro ⟨h, rfl⟩; exact ⟨_, _, h, rfl, rfl, rfl⟩
theorem entries_len (t : Table) (h : t.ids.length = t.rows.length) : t.entries.length = t.ids.length := by
  simp [Table.entries, h]

theorem findT_none (id : Int) (l : List Table) : findT id l = none ↔ id ∉ idsT l := by
  induction l with
  | nil => simp [findT, idsT]
  | cons t l ih =>
    unfold findT
    by_cases h : id ∈ t.ids
    · rw [if_pos h]; simp [idsT, h]
    · rw [if_neg h, Option.map_eq_none_iff, ih]; simp [idsT, h]
/-- where a thing has been found it stands -/
theorem findT_at {id : Int} {l : List Table} {i k : Nat} (h : findT id l = some (i, k)) :
    ∃ t, l[i]? = some t ∧ t ∈ l ∧ ∃ hk : k < t.ids.length, t.ids[k] = id := by
  induction l generalizing i with
  | nil => simp [findT] at h
  | cons t l ih =>
    unfold findT at h
    by_cases hm : id ∈ t.ids
    · rw [if_pos hm] at h
      simp only [Option.some.injEq, Prod.mk.injEq] at h
      obtain ⟨rfl, rfl⟩ := h
      refine ⟨t, rfl, by simp, List.idxOf_lt_length_of_mem hm, ?_⟩
      exact List.getElem_idxOf (List.idxOf_lt_length_of_mem hm)
    · rw [if_neg hm, Option.map_eq_some_iff] at h
      obtain ⟨⟨i', k'⟩, h1, h2⟩ := h
      simp only [Prod.mk.injEq] at h2
      obtain ⟨rfl, rfl⟩ := h2
      obtain ⟨t', a, b, c⟩ := ih h1
      exact ⟨t', by simpa using a, List.mem_cons_of_mem _ b, c⟩

theorem split_at {α : Type} {l : List α} {i : Nat} {t : α} (h : l[i]? = some t) : l = l.take i ++ t :: l.drop (i + 1) := by
  obtain ⟨h1, h2⟩ := List.getElem?_eq_some_iff.1 h
  rw [← h2, ← List.drop_eq_getElem_cons h1, List.take_append_drop]
theorem entriesT_append (a b : List Table) : entriesT (a ++ b) = entriesT a ++ entriesT b := by simp [entriesT]
theorem entriesT_cons (t : Table) (b : List Table) : entriesT (t :: b) = t.entries ++ entriesT b := by simp [entriesT]

/-- a thing cut out: the others are left -/
theorem cutT_perm {l : List Table} (he : Even l) {i k : Nat} {t : Table} (h : l[i]? = some t) (hk : k < t.ids.length) (hr : k < t.rows.length) :
    (entriesT l).Perm ((t.ids[k], t.mask, t.rows[k]) :: entriesT (cutT l i k)) := by
  have hs := split_at h
  have hlen : t.ids.length = t.rows.length := he t (List.mem_of_getElem? h)
  have hin : i < l.length := (List.getElem?_eq_some_iff.1 h).1
  unfold cutT
  rw [h]
  simp only
  have hw : t.entries.Perm ((t.ids[k], t.mask, t.rows[k]) :: (Table.mk t.mask (without t.ids k) (without t.rows k)).entries) := by
    unfold Table.entries
    have hz : k < (t.ids.zip t.rows).length := by simp; omega
    have hp := (without_perm (t.ids.zip t.rows) k hz).map (fun p => (p.1, t.mask, p.2))
    rw [List.map_cons, without_zip _ _ _ hlen] at hp
    simpa using hp
  have key : (entriesT l).Perm ((t.ids[k], t.mask, t.rows[k]) :: entriesT (l.take i ++ ⟨t.mask, without t.ids k, without t.rows k⟩ :: l.drop (i + 1))) := by
    conv => lhs; rw [hs]
    rw [entriesT_append, entriesT_append, entriesT_cons, entriesT_cons]
    refine List.Perm.trans ?_ List.perm_middle
    exact List.Perm.append_left _ ((hw.append_right _))
  split
  · rename_i h1
    have e0 : without t.ids k = [] := List.length_eq_zero_iff.1 (by rw [without_length]; omega)
    have : entriesT (l.take i ++ ⟨t.mask, without t.ids k, without t.rows k⟩ :: l.drop (i + 1)) = entriesT (l.eraseIdx i) := by
      rw [entriesT_append, entriesT_cons, List.eraseIdx_eq_take_drop_succ, entriesT_append]
      simp [Table.entries, e0]
    rw [← this]; exact key
  · rw [List.set_eq_take_append_cons_drop, if_pos hin]; exact key

/-- a thing more -/
theorem putT_perm (l : List Table) (he : Even l) (id m : Int) (r : Row) : (entriesT (putT id m r l)).Perm ((id, m, r) :: entriesT l) := by
  induction l with
  | nil => simp [putT, entriesT, Table.entries]
  | cons t l ih =>
    have h2 := ih (fun x hx => he x (List.mem_cons_of_mem _ hx))
    have hl := he t (by simp)
    unfold putT
    split
    · rw [entriesT_cons, entriesT_cons]
      exact (List.Perm.append_left _ h2).trans List.perm_middle
    · split
      · rename_i hm
        rw [entriesT_cons, entriesT_cons]
        have : (Table.mk m (t.ids ++ [id]) (t.rows ++ [r])).entries = t.entries ++ [(id, m, r)] := by
          unfold Table.entries
          rw [List.zip_append hl, List.map_append, hm]; rfl
        rw [this, List.append_assoc]
        exact List.perm_middle
      · rw [entriesT_cons]; simp [Table.entries]
theorem putT_even (l : List Table) (he : Even l) (id m : Int) (r : Row) : Even (putT id m r l) := by
  induction l with
  | nil => intro t ht; simp [putT] at ht; subst ht; rfl
  | cons t l ih =>
    have h2 := ih (fun x hx => he x (List.mem_cons_of_mem _ hx))
    have hl := he t (by simp)
    unfold putT
    intro x hx
    split at hx
    · rcases List.mem_cons.1 hx with rfl | h
      · exact hl
      · exact h2 x h
    · split at hx
      · rcases List.mem_cons.1 hx with rfl | h
        · simp [hl]
        · exact he x (List.mem_cons_of_mem _ h)
      · rcases List.mem_cons.1 hx with rfl | h
        · rfl
        · exact he x h

/-- another row for a thing -/
theorem setT_perm {l : List Table} (he : Even l) {i k : Nat} {t : Table} (h : l[i]? = some t) (hk : k < t.ids.length) (hr : k < t.rows.length) (r : Row) :
    (entriesT (setT l i k r)).Perm ((t.ids[k], t.mask, r) :: entriesT (cutT l i k)) := by
  have hlen : t.ids.length = t.rows.length := he t (List.mem_of_getElem? h)
  have hin : i < l.length := (List.getElem?_eq_some_iff.1 h).1
  have he' : Even (setT l i k r) := by
    unfold setT; rw [h]; simp only
    intro x hx
    rcases List.mem_or_eq_of_mem_set hx with h1 | rfl
    · exact he x h1
    · simp [hlen]
  have hs : (setT l i k r)[i]? = some ⟨t.mask, t.ids, t.rows.set k r⟩ := by
    unfold setT; rw [h]; simp [hin]
  have hp := cutT_perm he' hs (k := k) (by simpa using hk) (by simpa using hr)
  have hc : entriesT (cutT (setT l i k r) i k) = entriesT (cutT l i k) := by
    unfold cutT
    rw [hs, h]
    simp only
    unfold setT; rw [h]; simp only
    split
    · rw [List.eraseIdx_set_eq]
    · rw [List.set_set]
      have : without (t.rows.set k r) k = without t.rows k := without_set _ _ hr _
      rw [this]
  rw [hc] at hp
  simpa using hp
end Go.Proofs.Ytkpecagkpjabdab.M
