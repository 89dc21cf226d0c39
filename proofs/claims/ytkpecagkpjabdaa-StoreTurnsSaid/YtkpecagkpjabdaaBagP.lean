/- Several small texts in one. No condition of its own: each part says its own. -/
import Derived.WalkKit
import Derived.Lib.Slices
import Derived.Maps.OwnSet
/- The plain model of the layers fix and solve: integer functions and rows, no program in sight. No condition. -/
namespace Go.Proofs.Ytkpecagkpjabdaa.M
set_option linter.unusedVariables false
set_option linter.unusedSimpArgs false
set_option maxRecDepth 100000

/-- a row of api -/
structure Row where
  X : Int
  Y : Int
  PX : Int
  PY : Int
  W : Int
  H : Int
  M : Int
  R : Int
deriving DecidableEq

/-- n brought to the nearest number from -most to most (most from 0 on) -/
def within (n most : Int) : Int := if n < -most then -most else if most < n then most else n

def capped (most : Int) : Int := if most < 0 then 0 else if 1099511627776 < most then 1099511627776 else most

def add (a b most : Int) : Int := within (within a (capped most) + within b (capped most)) (capped most)

def part (n a b : Int) : Int :=
  if within b 268435456 = 0 then 0 else (within n 268435456 * within a 268435456).tdiv (within b 268435456)

theorem within_bd (n most : Int) (h : 0 ≤ most) : -most ≤ within n most ∧ within n most ≤ most := by
  unfold within; split <;> (try split) <;> omega
theorem within_id (n most : Int) (h1 : -most ≤ n) (h2 : n ≤ most) : within n most = n := by
  unfold within; rw [if_neg (by omega), if_neg (by omega)]
theorem capped_bd (most : Int) : 0 ≤ capped most ∧ capped most ≤ 1099511627776 := by
  unfold capped; split <;> (try split) <;> omega
theorem capped_id (most : Int) (h1 : 0 ≤ most) (h2 : most ≤ 1099511627776) : capped most = most := by
  unfold capped; rw [if_neg (by omega), if_neg (by omega)]

theorem mul_bd (a b x y : Int) (h1 : -x ≤ a) (h2 : a ≤ x) (h3 : -y ≤ b) (h4 : b ≤ y) : -(x * y) ≤ a * b ∧ a * b ≤ x * y := by
  have hx : 0 ≤ x := by omega
  have hy : 0 ≤ y := by omega
  have ha : a.natAbs ≤ x.natAbs := by omega
  have hb : b.natAbs ≤ y.natAbs := by omega
  have hm : (a * b).natAbs ≤ (x * y).natAbs := by rw [Int.natAbs_mul, Int.natAbs_mul]; exact Nat.mul_le_mul ha hb
  have hp : 0 ≤ x * y := Int.mul_nonneg hx hy
  omega

theorem tdiv_bd (a b x : Int) (h1 : -x ≤ a) (h2 : a ≤ x) : -x ≤ a.tdiv b ∧ a.tdiv b ≤ x := by
  have hle : (a.tdiv b).natAbs ≤ a.natAbs := by rw [Int.natAbs_tdiv]; exact Nat.div_le_self _ _
  generalize a.tdiv b = q at *
  omega

theorem within_neg (n most : Int) (h : 0 ≤ most) : within (-n) most = -within n most := by
  unfold within; (repeat' split) <;> omega
theorem add_comm (a b most : Int) : add a b most = add b a most := by
  unfold add; rw [Int.add_comm]
theorem part_bd (n a b : Int) : -72057594037927936 ≤ part n a b ∧ part n a b ≤ 72057594037927936 := by
  unfold part
  split
  · omega
  · have h1 := within_bd n 268435456 (by omega)
    have h2 := within_bd a 268435456 (by omega)
    have h := mul_bd (within n 268435456) (within a 268435456) 268435456 268435456 (by omega) (by omega) (by omega) (by omega)
    exact tdiv_bd _ _ _ (by omega) (by omega)
theorem part_neg (n a b : Int) : part (-n) a b = -part n a b := by
  unfold part
  rw [within_neg n _ (by omega)]
  split
  · rfl
  · rw [Int.neg_mul, Int.neg_tdiv]
theorem part_neg2 (n a b : Int) : part n (-a) b = -part n a b := by
  unfold part
  rw [within_neg a _ (by omega)]
  split
  · rfl
  · rw [Int.mul_neg, Int.neg_tdiv]
theorem part_self (n b : Int) (hb : b ≠ 0) (h1 : -268435456 ≤ n) (h2 : n ≤ 268435456) (h3 : -268435456 ≤ b) (h4 : b ≤ 268435456) : part n b b = n := by
  unfold part
  rw [within_id n _ (by omega) (by omega), within_id b _ (by omega) (by omega), if_neg hb, Int.mul_tdiv_cancel _ hb]

end Go.Proofs.Ytkpecagkpjabdaa.M
/- The plain model of package store: tables, stores, what each function answers, without a program in sight. No condition. -/
namespace Go.Proofs.Ytkpecagkpjabdaa.M
open Go.RowKit
set_option linter.unusedVariables false
set_option linter.unusedSimpArgs false
set_option maxRecDepth 100000

structure Table where
  mask : Int
  ids : List Int
  rows : List Row
deriving DecidableEq

structure Store where
  tables : List Table
  next : Int
deriving DecidableEq

def row0 : Row := ⟨0, 0, 0, 0, 0, 0, 0, 0⟩

/-- has a mask the part p? -/
def bit (m p : Int) : Bool := bits .and .i64 m p != 0

/-- two numbers within bounds, if the part is there; else 0 (of a mass the second one is not looked at) -/
def isPart (is : Bool) (a b lo hi : Int) : Bool :=
  if is then decide (lo ≤ a ∧ a ≤ hi ∧ lo ≤ b ∧ b ≤ hi) else decide (a = 0 ∧ (b = 0 ∨ (lo = 1 ∧ hi = 9)))

def goodRow (mask : Int) (r : Row) : Bool :=
  decide (1 ≤ mask ∧ mask ≤ 31) && (isPart (bit mask 1) r.X r.Y (-1048576) 1048576 && (isPart (bit mask 2) r.PX r.PY (-16777216) 16777216 &&
    (isPart (bit mask 4) r.W r.H 1 4096 && (isPart (bit mask 8) r.M 1 1 9 && ((bit mask 8 && (decide (0 ≤ r.R) && decide (r.R ≤ 256))) || decide (r.R = 0))))))

def onlyAt (b1 b2 b4 b8 : Bool) (r : Row) : Row :=
  ⟨if b1 then r.X else 0, if b1 then r.Y else 0, if b2 then r.PX else 0, if b2 then r.PY else 0, if b4 then r.W else 0, if b4 then r.H else 0, if b8 then r.M else 0, if b8 then r.R else 0⟩
/-- what of a row belongs to the parts of a mask -/
def only (mask : Int) (r : Row) : Row := onlyAt (bit mask 1) (bit mask 2) (bit mask 4) (bit mask 8) r

/-- two rows together, as the program adds them (wrap-round and all) -/
def plus (a b : Row) : Row :=
  ⟨wrap64 (a.X + b.X), wrap64 (a.Y + b.Y), wrap64 (a.PX + b.PX), wrap64 (a.PY + b.PY), wrap64 (a.W + b.W), wrap64 (a.H + b.H), wrap64 (a.M + b.M), wrap64 (a.R + b.R)⟩

/-- the first row, but for the parts of a mask, which are of the second -/
def withR (r more : Row) (mask : Int) : Row := plus (only (bits .andNot .i64 31 mask) r) (only mask more)

end Go.Proofs.Ytkpecagkpjabdaa.M
/- The plain model of package store's tables: what Good, find, Get, Size, Spawn, Kill, Set, Change and Query answer, and the plain laws on what a store holds. No condition, no program in sight. -/
namespace Go.Proofs.Ytkpecagkpjabdaa.M
open Go.RowKit
set_option linter.unusedVariables false
set_option linter.unusedSimpArgs false
set_option maxRecDepth 100000

/-- a thing: its number, its mask, its row -/
abbrev Entry := Int × Int × Row

def Table.entries (t : Table) : List Entry := (t.ids.zip t.rows).map fun p => (p.1, t.mask, p.2)
def entriesT (l : List Table) : List Entry := l.flatMap Table.entries
def entries (s : Store) : List Entry := entriesT s.tables

def idsT (l : List Table) : List Int := l.flatMap Table.ids

/-- one table is as it should be -/
def TableOk (next : Int) (t : Table) : Prop :=
  t.ids ≠ [] ∧ t.ids.length = t.rows.length ∧ (∀ i ∈ t.ids, 0 ≤ i ∧ i < next) ∧ ∀ r ∈ t.rows, goodRow t.mask r = true
instance (next : Int) (t : Table) : Decidable (TableOk next t) := by unfold TableOk; exact inferInstance

def GoodS (s : Store) : Prop :=
  (∀ t ∈ s.tables, TableOk s.next t) ∧ s.tables.Pairwise (fun a b => a.mask < b.mask) ∧ (idsT s.tables).Nodup ∧ (idsT s.tables).length ≤ 10 ∧ 0 ≤ s.next ∧ s.next ≤ 1048576
instance (s : Store) : Decidable (GoodS s) := by unfold GoodS; exact inferInstance
def good (s : Store) : Bool := decide (GoodS s)
theorem good_iff (s : Store) : good s = true ↔ GoodS s := by simp [good]

/-- which table, which place there -/
def findT (id : Int) : List Table → Option (Nat × Nat)
  | [] => none
  | t :: ts => if id ∈ t.ids then some (0, t.ids.idxOf id) else (findT id ts).map fun p => (p.1 + 1, p.2)
def find (s : Store) (id : Int) : Option (Nat × Nat) := findT id s.tables

def get (s : Store) (id : Int) : Int × Row × Bool :=
  match find s id with
  | none => (0, row0, false)
  | some (i, k) =>
    match s.tables[i]? with
    | none => (0, row0, false)
    | some t => if h : k < t.rows.length then (t.mask, t.rows[k], true) else (0, row0, false)

def size (s : Store) : Nat := (idsT s.tables).length

/-- a thing more, in the table of its mask (tables by mask) -/
def putT (id m : Int) (r : Row) : List Table → List Table
  | [] => [⟨m, [id], [r]⟩]
  | t :: ts => if t.mask < m then t :: putT id m r ts else if t.mask = m then ⟨m, t.ids ++ [id], t.rows ++ [r]⟩ :: ts else ⟨m, [id], [r]⟩ :: t :: ts
def put (s : Store) (id m : Int) (r : Row) : Store := { s with tables := putT id m r s.tables }

/-- a list without its place k: the last one comes there -/
def without {α : Type} (l : List α) (k : Nat) : List α :=
  match l.getLast? with
  | none => []
  | some x => (l.set k x).dropLast
def cutT (l : List Table) (i k : Nat) : List Table :=
  match l[i]? with
  | none => l
  | some t => if t.ids.length = 1 then l.eraseIdx i else l.set i ⟨t.mask, without t.ids k, without t.rows k⟩
def cut (s : Store) (i k : Nat) : Store := { s with tables := cutT s.tables i k }

def setT (l : List Table) (i k : Nat) (r : Row) : List Table :=
  match l[i]? with
  | none => l
  | some t => l.set i ⟨t.mask, t.ids, t.rows.set k r⟩

def maskAt (s : Store) (i : Nat) : Int := match s.tables[i]? with | none => 0 | some t => t.mask
def rowAt (s : Store) (i k : Nat) : Row := match s.tables[i]? with | none => row0 | some t => t.rows.getD k row0

/-- errors: 1 form, 2 range, 3 none, 5 full -/
def spawn (s : Store) (m : Int) (r : Row) : Store × Int × Int :=
  if good s = false then (s, 0, 1) else if goodRow m r = false then (s, 0, 2) else if 10 ≤ size s ∨ 1048576 ≤ s.next then (s, 0, 5)
  else (put { s with next := s.next + 1 } s.next m r, s.next, 0)
def kill (s : Store) (id : Int) : Store × Int :=
  if good s = false then (s, 1) else match find s id with
  | none => (s, 3)
  | some (i, k) => (cut s i k, 0)
def set (s : Store) (id : Int) (r : Row) : Store × Int :=
  if good s = false then (s, 1) else match find s id with
  | none => (s, 3)
  | some (i, k) => if goodRow (maskAt s i) r = false then (s, 2) else ({ s with tables := setT s.tables i k r }, 0)
/-- the row of a changed thing -/
def changed (was m : Int) (old r : Row) : Row := only m (withR old r (bits .andNot .i64 m was))
def change (s : Store) (id m : Int) (r : Row) : Store × Int :=
  if good s = false then (s, 1) else match find s id with
  | none => (s, 3)
  | some (i, k) =>
    let row := changed (maskAt s i) m (rowAt s i k) r
    if goodRow m row = false then (s, 2) else (put (cut s i k) id m row, 0)
def query (s : Store) (m : Int) : List Int :=
  (s.tables.flatMap fun t => if bits .and .i64 t.mask m = m then t.ids else []).mergeSort (fun a b => decide (a ≤ b))

/-! what a store holds -/

/-- a thing among others, by its number -/
def look (l : List Entry) (id : Int) : Option (Int × Row) := (l.find? fun e => e.1 == id).map Prod.snd

theorem look_none {l : List Entry} {id : Int} : look l id = none ↔ id ∉ l.map (·.1) := by
  simp only [look, Option.map_eq_none_iff, List.find?_eq_none, beq_iff_eq, List.mem_map, not_exists, not_and]
theorem look_some {l : List Entry} {id m : Int} {r : Row} (hn : (l.map (·.1)).Nodup) : look l id = some (m, r) ↔ (id, m, r) ∈ l := by
  induction l with
  | nil => simp [look]
  | cons e l ih =>
    simp only [List.map_cons, List.nodup_cons] at hn
    unfold look
    rw [List.find?_cons]
    by_cases h : e.1 = id
    · simp only [beq_iff_eq.2 h, Option.map_some, Option.some.injEq]
      constructor
      · intro h2; rw [← h2, ← h]; simp
      · intro h2
        rcases List.mem_cons.1 h2 with h3 | h3
        · rw [← h3]
        · exact absurd (List.mem_map.2 ⟨_, h3, rfl⟩) (h ▸ hn.1)
    · have hb : (e.1 == id) = false := by simpa using h
      simp only [hb]
      rw [show Option.map Prod.snd (l.find? fun e => e.1 == id) = look l id from rfl, ih hn.2]
      constructor
      · exact fun h2 => List.mem_cons_of_mem _ h2
      · intro h2
        rcases List.mem_cons.1 h2 with h3 | h3
        · exact absurd (by rw [← h3]) h
        · exact h3
theorem look_perm {l l' : List Entry} (hp : l.Perm l') (hn : (l.map (·.1)).Nodup) (id : Int) : look l id = look l' id := by
  have hn' : (l'.map (·.1)).Nodup := (hp.map _).nodup_iff.1 hn
  cases h : look l id with
  | none =>
    have := look_none.1 h
    exact (look_none.2 (fun h2 => this ((hp.map _).mem_iff.2 h2))).symm
  | some p =>
    obtain ⟨m, r⟩ := p
    exact ((look_some hn').2 (hp.mem_iff.1 ((look_some hn).1 h))).symm

/-! lists -/
theorem without_concat {α : Type} (a : List α) (x : α) (k : Nat) (h : k ≤ a.length) : without (a ++ [x]) k = if k < a.length then a.set k x else a := by
  unfold without
  simp only [List.getLast?_append, List.getLast?_singleton, Option.some_or]
  split
  · rename_i hk
    rw [List.set_append_left _ _ hk, List.dropLast_concat]
  · rename_i hk
    rw [List.set_append_right _ _ (by omega)]
    have : k - a.length = 0 := by omega
    rw [this]; simp
theorem concat_of {α : Type} {l : List α} (h : l ≠ []) : ∃ a x, l = a ++ [x] := ⟨l.dropLast, l.getLast h, (List.dropLast_concat_getLast h).symm⟩
theorem without_set {α : Type} (l : List α) (k : Nat) (h : k < l.length) (r : α) : without (l.set k r) k = without l k := by
  obtain ⟨a, x, rfl⟩ := concat_of (l := l) (by intro e; subst e; simp at h)
  simp at h
  by_cases hk : k < a.length
  · rw [List.set_append_left _ _ hk, without_concat _ _ _ (by simp; omega), without_concat _ _ _ (by omega), if_pos (by simpa using hk), if_pos hk, List.set_set]
  · have e : k - a.length = 0 := by omega
    rw [List.set_append_right _ _ (by omega), e, List.set_cons_zero, without_concat _ _ _ (by omega), without_concat _ _ _ (by omega), if_neg hk, if_neg hk]
theorem without_perm {α : Type} (l : List α) (k : Nat) (h : k < l.length) : l.Perm (l[k] :: without l k) := by
  obtain ⟨a, x, rfl⟩ := concat_of (l := l) (by intro e; subst e; simp at h)
  have hw := without_concat a x k (by simp at h; omega)
  rw [hw]
  split
  · rename_i hk
    rw [List.getElem_append_left hk]
    refine (List.perm_append_singleton x a).trans ?_
    have h1 : a = a.take k ++ a[k] :: a.drop (k + 1) := by rw [← List.drop_eq_getElem_cons hk, List.take_append_drop]
    have h2 : a.set k x = a.take k ++ x :: a.drop (k + 1) := by rw [List.set_eq_take_append_cons_drop, if_pos hk]
    rw [h2]
    conv => lhs; rw [h1]
    have p1 : (x :: (a.take k ++ a[k] :: a.drop (k + 1))).Perm (x :: a[k] :: (a.take k ++ a.drop (k + 1))) := List.Perm.cons _ List.perm_middle
    have p2 : (a[k] :: (a.take k ++ x :: a.drop (k + 1))).Perm (a[k] :: x :: (a.take k ++ a.drop (k + 1))) := List.Perm.cons _ List.perm_middle
    exact p1.trans ((List.Perm.swap _ _ _).trans p2.symm)
  · rename_i hk
    have hk' : k = a.length := by simp at h; omega
    subst hk'
    rw [List.getElem_append_right (Nat.le_refl _)]
    simp
theorem without_length {α : Type} (l : List α) (k : Nat) : (without l k).length = l.length - 1 := by
  unfold without
  split
  · rename_i h; rw [List.getLast?_eq_none_iff] at h; subst h; rfl
  · simp
theorem without_map {α β : Type} (f : α → β) (l : List α) (k : Nat) : without (l.map f) k = (without l k).map f := by
  unfold without
  rw [List.getLast?_map]
  cases l.getLast? with
  | none => rfl
  | some x => simp [List.map_set]
theorem without_zip {α β : Type} (a : List α) (b : List β) (k : Nat) (h : a.length = b.length) : without (a.zip b) k = (without a k).zip (without b k) := by
  have ea : a = (a.zip b).map Prod.fst := (List.map_fst_zip (by omega)).symm
  have eb : b = (a.zip b).map Prod.snd := (List.map_snd_zip (by omega)).symm
  generalize a.zip b = z at ea eb
  subst ea; subst eb
  rw [without_map, without_map, List.zip_map_left, List.zip_map_right]
  generalize without z k = y
  induction y with
  | nil => rfl
  | cons c y ih =>
    simp only [List.zip_cons_cons, List.map_cons, ← ih]
    rfl

/-! entries -/
def Even (l : List Table) : Prop := ∀ t ∈ l, t.ids.length = t.rows.length
theorem entries_ids (t : Table) (h : t.ids.length = t.rows.length) : t.entries.map (·.1) = t.ids := by
  unfold Table.entries
  rw [List.map_map]
  exact List.map_fst_zip (by omega)
theorem entriesT_ids (l : List Table) (h : Even l) : (entriesT l).map (·.1) = idsT l := by
  induction l with
  | nil => rfl
  | cons t l ih =>
    have h1 := entries_ids t (h t (by simp))
    have h2 := ih (fun x hx => h x (List.mem_cons_of_mem _ hx))
    unfold entriesT idsT at h2 ⊢
    simp only [List.flatMap_cons, List.map_append, h1, h2]
theorem mem_entries {t : Table} {e : Entry} : e ∈ t.entries ↔ (e.1, e.2.2) ∈ t.ids.zip t.rows ∧ e.2.1 = t.mask := by
  obtain ⟨a, b, c⟩ := e
  unfold Table.entries
  simp only [List.mem_map, Prod.mk.injEq, Prod.exists]
  constructor
  · rintro ⟨x, y, h, rfl, rfl, rfl⟩; exact ⟨h, rfl⟩
  · rintro ⟨h, rfl⟩; exact ⟨_, _, h, rfl, rfl, rfl⟩
theorem entries_len (t : Table) (h : t.ids.length = t.rows.length) : t.entries.length = t.ids.length := by
  simp [Table.entries, h]

theorem findT_none (id : Int) (l : List Table) : findT id l = none ↔ id ∉ idsT l := by
  induction l with
  | nil => simp [findT, idsT]
  | cons t l ih =>
    unfold findT
    by_cases h : id ∈ t.ids
    · rw [if_pos h]; simp [idsT, h]
    · rw [if_neg h, Option.map_eq_none_iff, ih]; simp [idsT, h]
/-- where a thing has been found it stands -/
theorem findT_at {id : Int} {l : List Table} {i k : Nat} (h : findT id l = some (i, k)) :
    ∃ t, l[i]? = some t ∧ t ∈ l ∧ ∃ hk : k < t.ids.length, t.ids[k] = id := by
  induction l generalizing i with
  | nil => simp [findT] at h
  | cons t l ih =>
    unfold findT at h
    by_cases hm : id ∈ t.ids
    · rw [if_pos hm] at h
      simp only [Option.some.injEq, Prod.mk.injEq] at h
      obtain ⟨rfl, rfl⟩ := h
      refine ⟨t, rfl, by simp, List.idxOf_lt_length_of_mem hm, ?_⟩
      exact List.getElem_idxOf (List.idxOf_lt_length_of_mem hm)
    · rw [if_neg hm, Option.map_eq_some_iff] at h
      obtain ⟨⟨i', k'⟩, h1, h2⟩ := h
      simp only [Prod.mk.injEq] at h2
      obtain ⟨rfl, rfl⟩ := h2
      obtain ⟨t', a, b, c⟩ := ih h1
      exact ⟨t', by simpa using a, List.mem_cons_of_mem _ b, c⟩

theorem split_at {α : Type} {l : List α} {i : Nat} {t : α} (h : l[i]? = some t) : l = l.take i ++ t :: l.drop (i + 1) := by
  obtain ⟨h1, h2⟩ := List.getElem?_eq_some_iff.1 h
  rw [← h2, ← List.drop_eq_getElem_cons h1, List.take_append_drop]
theorem entriesT_append (a b : List Table) : entriesT (a ++ b) = entriesT a ++ entriesT b := by simp [entriesT]
theorem entriesT_cons (t : Table) (b : List Table) : entriesT (t :: b) = t.entries ++ entriesT b := by simp [entriesT]

/-- a thing cut out: the others are left -/
theorem cutT_perm {l : List Table} (he : Even l) {i k : Nat} {t : Table} (h : l[i]? = some t) (hk : k < t.ids.length) (hr : k < t.rows.length) :
    (entriesT l).Perm ((t.ids[k], t.mask, t.rows[k]) :: entriesT (cutT l i k)) := by
  have hs := split_at h
  have hlen : t.ids.length = t.rows.length := he t (List.mem_of_getElem? h)
  have hin : i < l.length := (List.getElem?_eq_some_iff.1 h).1
  unfold cutT
  rw [h]
  simp only
  have hw : t.entries.Perm ((t.ids[k], t.mask, t.rows[k]) :: (Table.mk t.mask (without t.ids k) (without t.rows k)).entries) := by
    unfold Table.entries
    have hz : k < (t.ids.zip t.rows).length := by simp; omega
    have hp := (without_perm (t.ids.zip t.rows) k hz).map (fun p => (p.1, t.mask, p.2))
    rw [List.map_cons, without_zip _ _ _ hlen] at hp
    simpa using hp
  have key : (entriesT l).Perm ((t.ids[k], t.mask, t.rows[k]) :: entriesT (l.take i ++ ⟨t.mask, without t.ids k, without t.rows k⟩ :: l.drop (i + 1))) := by
    conv => lhs; rw [hs]
    rw [entriesT_append, entriesT_append, entriesT_cons, entriesT_cons]
    refine List.Perm.trans ?_ List.perm_middle
    exact List.Perm.append_left _ ((hw.append_right _))
  split
  · rename_i h1
    have e0 : without t.ids k = [] := List.length_eq_zero_iff.1 (by rw [without_length]; omega)
    have : entriesT (l.take i ++ ⟨t.mask, without t.ids k, without t.rows k⟩ :: l.drop (i + 1)) = entriesT (l.eraseIdx i) := by
      rw [entriesT_append, entriesT_cons, List.eraseIdx_eq_take_drop_succ, entriesT_append]
      simp [Table.entries, e0]
    rw [← this]; exact key
  · rw [List.set_eq_take_append_cons_drop, if_pos hin]; exact key

/-- a thing more -/
theorem putT_perm (l : List Table) (he : Even l) (id m : Int) (r : Row) : (entriesT (putT id m r l)).Perm ((id, m, r) :: entriesT l) := by
  induction l with
  | nil => simp [putT, entriesT, Table.entries]
  | cons t l ih =>
    have h2 := ih (fun x hx => he x (List.mem_cons_of_mem _ hx))
    have hl := he t (by simp)
    unfold putT
    split
    · rw [entriesT_cons, entriesT_cons]
      exact (List.Perm.append_left _ h2).trans List.perm_middle
    · split
      · rename_i hm
        rw [entriesT_cons, entriesT_cons]
        have : (Table.mk m (t.ids ++ [id]) (t.rows ++ [r])).entries = t.entries ++ [(id, m, r)] := by
          unfold Table.entries
          rw [List.zip_append hl, List.map_append, hm]; rfl
        rw [this, List.append_assoc]
        exact List.perm_middle
      · rw [entriesT_cons]; simp [Table.entries]
theorem putT_even (l : List Table) (he : Even l) (id m : Int) (r : Row) : Even (putT id m r l) := by
  induction l with
  | nil => intro t ht; simp [putT] at ht; subst ht; rfl
  | cons t l ih =>
    have h2 := ih (fun x hx => he x (List.mem_cons_of_mem _ hx))
    have hl := he t (by simp)
    unfold putT
    intro x hx
    split at hx
    · rcases List.mem_cons.1 hx with rfl | h
      · exact hl
      · exact h2 x h
    · split at hx
      · rcases List.mem_cons.1 hx with rfl | h
        · simp [hl]
        · exact he x (List.mem_cons_of_mem _ h)
      · rcases List.mem_cons.1 hx with rfl | h
        · rfl
        · exact he x h

/-- another row for a thing -/
theorem setT_perm {l : List Table} (he : Even l) {i k : Nat} {t : Table} (h : l[i]? = some t) (hk : k < t.ids.length) (hr : k < t.rows.length) (r : Row) :
    (entriesT (setT l i k r)).Perm ((t.ids[k], t.mask, r) :: entriesT (cutT l i k)) := by
  have hlen : t.ids.length = t.rows.length := he t (List.mem_of_getElem? h)
  have hin : i < l.length := (List.getElem?_eq_some_iff.1 h).1
  have he' : Even (setT l i k r) := by
    unfold setT; rw [h]; simp only
    intro x hx
    rcases List.mem_or_eq_of_mem_set hx with h1 | rfl
    · exact he x h1
    · simp [hlen]
  have hs : (setT l i k r)[i]? = some ⟨t.mask, t.ids, t.rows.set k r⟩ := by
    unfold setT; rw [h]; simp [hin]
  have hp := cutT_perm he' hs (k := k) (by simpa using hk) (by simpa using hr)
  have hc : entriesT (cutT (setT l i k r) i k) = entriesT (cutT l i k) := by
    unfold cutT
    rw [hs, h]
    simp only
    unfold setT; rw [h]; simp only
    split
    · rw [List.eraseIdx_set_eq]
    · rw [List.set_set]
      have : without (t.rows.set k r) k = without t.rows k := without_set _ _ hr _
      rw [this]
  rw [hc] at hp
  simpa using hp
end Go.Proofs.Ytkpecagkpjabdaa.M
/- Where a number stands in a list, as package slices says it, and as the plain model does. No condition, no program in sight. -/
namespace Go.Proofs.Ytkpecagkpjabdaa.M
open Go.RowKit
set_option linter.unusedVariables false
set_option linter.unusedSimpArgs false
set_option maxRecDepth 100000

theorem idxFrom_eq (x : Int) (zs : List Int) (i : Nat) : Lib.idxFrom zs x i = if x ∈ zs then ((i + zs.idxOf x : Nat) : Int) else -1 := by
  induction zs generalizing i with
  | nil => simp [Lib.idxFrom]
  | cons z zs ih =>
    unfold Lib.idxFrom
    by_cases h : z = x
    · subst h; simp
    · rw [if_neg h, ih]
      have h' : x ≠ z := fun e => h e.symm
      by_cases hm : x ∈ zs
      · have hb : (z == x) = false := by simpa using h
        rw [if_pos hm, if_pos (List.mem_cons_of_mem _ hm), List.idxOf_cons, hb]
        simp only [cond_false]
        congr 1; omega
      · rw [if_neg hm, if_neg (by simp [h', hm])]
theorem idxOf_eq (x : Int) (zs : List Int) : Lib.idxOf zs x = if x ∈ zs then ((zs.idxOf x : Nat) : Int) else -1 := by
  unfold Lib.idxOf
  rw [idxFrom_eq]
  simp
/-- what find hands back: table, place, and whether there is such a thing -/
def found (s : Store) (id : Int) : Int × Int × Bool :=
  match find s id with
  | none => (0, 0, false)
  | some (i, k) => ((i : Int), (k : Int), true)
/-- the first tables do not have it -/
theorem find_skip {s : Store} {id : Int} {n : Nat} (h : ∀ j t, j < n → s.tables[j]? = some t → id ∉ t.ids) {t : Table} (ht : s.tables[n]? = some t) (hm : id ∈ t.ids) :
    find s id = some (n, t.ids.idxOf id) := by
  obtain ⟨l, nx⟩ := s
  unfold find
  simp only at *
  induction l generalizing n with
  | nil => simp at ht
  | cons a l ih =>
    match n with
    | 0 =>
      simp only [List.getElem?_cons_zero, Option.some.injEq] at ht
      subst ht
      unfold findT
      rw [if_pos hm]
    | n + 1 =>
      have ha : id ∉ a.ids := h 0 a (by omega) (by simp)
      unfold findT
      rw [if_neg ha, ih (n := n) (fun j t hj ht => h (j + 1) t (by omega) (by simpa using ht)) (by simpa using ht)]
      rfl
theorem find_miss {s : Store} {id : Int} (h : ∀ j t, j < s.tables.length → s.tables[j]? = some t → id ∉ t.ids) : find s id = none := by
  unfold find
  rw [findT_none]
  intro hm
  unfold idsT at hm
  obtain ⟨t, ht, hm⟩ := List.mem_flatMap.1 hm
  obtain ⟨j, hj, rfl⟩ := List.getElem_of_mem ht
  exact h j _ hj (List.getElem?_eq_getElem hj) hm
/-- how many things there are, as the program counts them -/
def sizeW (l : List Table) : Int := l.foldl (fun n t => wrap64 (n + (t.ids.length : Int))) 0
theorem sizeW_step {l : List Table} {n : Nat} {t : Table} (h : l[n]? = some t) : sizeW (l.take (n + 1)) = wrap64 (sizeW (l.take n) + (t.ids.length : Int)) := by
  unfold sizeW
  rw [List.take_add_one, h]
  simp
theorem sizeW_eq (l : List Table) (h : (idsT l).length ≤ 4611686018427387904) : sizeW l = ((idsT l).length : Int) := by
  have key : ∀ (l : List Table) (n : Nat), n + (idsT l).length ≤ 4611686018427387904 → l.foldl (fun n t => wrap64 (n + (t.ids.length : Int))) (n : Int) = ((n + (idsT l).length : Nat) : Int) := by
    intro l
    induction l with
    | nil => intro n _; simp [idsT]
    | cons t l ih =>
      intro n hn
      have e : (idsT (t :: l)).length = t.ids.length + (idsT l).length := by simp [idsT]
      rw [e] at hn ⊢
      rw [List.foldl_cons, IntWalk.wrap64_in _ (by omega)]
      have := ih (n + t.ids.length) (by omega)
      rw [show ((n : Int) + (t.ids.length : Int)) = ((n + t.ids.length : Nat) : Int) by omega, this]
      congr 1
      omega
  have := key l 0 (by omega)
  unfold sizeW
  simpa using this
end Go.Proofs.Ytkpecagkpjabdaa.M
/- Plain laws on stores: what Get, Spawn, Kill, Set and Change make of what a store holds. No condition, no program in sight. -/
namespace Go.Proofs.Ytkpecagkpjabdaa.M
open Go.RowKit
set_option linter.unusedVariables false
set_option linter.unusedSimpArgs false
set_option maxRecDepth 100000

/-- the form of a store's tables -/
def Form (l : List Table) : Prop := (∀ t ∈ l, t.ids ≠ [] ∧ t.ids.length = t.rows.length) ∧ l.Pairwise (fun a b => a.mask < b.mask)
/-- things as they should be -/
def GoodE (next : Int) (E : List Entry) : Prop :=
  (∀ e ∈ E, (0 ≤ e.1 ∧ e.1 < next) ∧ goodRow e.2.1 e.2.2 = true) ∧ (E.map (·.1)).Nodup ∧ E.length ≤ 10 ∧ 0 ≤ next ∧ next ≤ 1048576
theorem Form.even {l : List Table} (h : Form l) : Even l := fun t ht => (h.1 t ht).2
theorem GoodE.perm {next : Int} {E E' : List Entry} (h : GoodE next E) (hp : E.Perm E') : GoodE next E' :=
  ⟨fun e he => h.1 e (hp.mem_iff.2 he), (hp.map _).nodup_iff.1 h.2.1, by rw [← hp.length_eq]; exact h.2.2.1, h.2.2.2⟩
theorem entriesT_len (l : List Table) (h : Even l) : (entriesT l).length = (idsT l).length := by
  rw [← entriesT_ids l h, List.length_map]
theorem mem_entriesT {l : List Table} {e : Entry} : e ∈ entriesT l ↔ ∃ t ∈ l, e ∈ t.entries := by simp [entriesT]
theorem good_split (s : Store) : GoodS s ↔ Form s.tables ∧ GoodE s.next (entries s) := by
  unfold GoodS GoodE
  constructor
  · rintro ⟨h1, h2, h3, h4, h5, h6⟩
    have he : Even s.tables := fun t ht => (h1 t ht).2.1
    refine ⟨⟨fun t ht => ⟨(h1 t ht).1, (h1 t ht).2.1⟩, h2⟩, ?_, ?_, ?_, h5, h6⟩
    · intro e hm
      obtain ⟨t, ht, hm⟩ := mem_entriesT.1 hm
      obtain ⟨hz, hmask⟩ := mem_entries.1 hm
      obtain ⟨_, _, a, b⟩ := h1 t ht
      refine ⟨a _ (List.of_mem_zip hz).1, ?_⟩
      rw [hmask]; exact b _ (List.of_mem_zip hz).2
    · rw [entries, entriesT_ids _ he]; exact h3
    · rw [entries, entriesT_len _ he]; exact h4
  · rintro ⟨⟨f1, f2⟩, g1, g2, g3, g4, g5⟩
    have he : Even s.tables := fun t ht => (f1 t ht).2
    rw [entries, entriesT_ids _ he] at g2
    rw [entries, entriesT_len _ he] at g3
    refine ⟨fun t ht => ⟨(f1 t ht).1, (f1 t ht).2, ?_, ?_⟩, f2, g2, g3, g4, g5⟩
    · intro i hi
      obtain ⟨k, hk, rfl⟩ := List.getElem_of_mem hi
      have hk2 : k < t.rows.length := by rw [← he t ht]; exact hk
      refine (g1 (t.ids[k], t.mask, t.rows[k]) (mem_entriesT.2 ⟨t, ht, mem_entries.2 ⟨?_, rfl⟩⟩)).1
      have hz : k < (t.ids.zip t.rows).length := by simp; omega
      have := List.getElem_mem hz
      rwa [List.getElem_zip] at this
    · intro r hr
      obtain ⟨k, hk, rfl⟩ := List.getElem_of_mem hr
      have hk2 : k < t.ids.length := by rw [he t ht]; exact hk
      refine (g1 (t.ids[k], t.mask, t.rows[k]) (mem_entriesT.2 ⟨t, ht, mem_entries.2 ⟨?_, rfl⟩⟩)).2
      have hz : k < (t.ids.zip t.rows).length := by simp; omega
      have := List.getElem_mem hz
      rwa [List.getElem_zip] at this

/-! the form is kept -/
theorem putT_mask_mem {l : List Table} {id m : Int} {r : Row} {t : Table} (h : t ∈ putT id m r l) : t.mask = m ∨ ∃ u ∈ l, u.mask = t.mask := by
  induction l with
  | nil => simp [putT] at h; subst h; exact .inl rfl
  | cons a l ih =>
    unfold putT at h
    split at h
    · rcases List.mem_cons.1 h with rfl | h
      · exact .inr ⟨_, by simp, rfl⟩
      · rcases ih h with h | ⟨u, hu, e⟩
        · exact .inl h
        · exact .inr ⟨u, List.mem_cons_of_mem _ hu, e⟩
    · split at h
      · rcases List.mem_cons.1 h with rfl | h
        · exact .inl rfl
        · exact .inr ⟨_, List.mem_cons_of_mem _ h, rfl⟩
      · rcases List.mem_cons.1 h with rfl | h
        · exact .inl rfl
        · exact .inr ⟨_, h, rfl⟩
theorem putT_form {l : List Table} (h : Form l) (id m : Int) (r : Row) : Form (putT id m r l) := by
  refine ⟨fun t ht => ⟨?_, putT_even l h.even id m r t ht⟩, ?_⟩
  · have h1 := h.1
    clear h
    induction l with
    | nil => simp [putT] at ht; subst ht; simp
    | cons a l ih =>
      have h2 := fun x hx => h1 x (List.mem_cons_of_mem _ hx)
      unfold putT at ht
      split at ht
      · rcases List.mem_cons.1 ht with rfl | ht
        · exact (h1 _ (by simp)).1
        · exact ih ht h2
      · split at ht
        · rcases List.mem_cons.1 ht with rfl | ht
          · simp
          · exact (h2 _ ht).1
        · rcases List.mem_cons.1 ht with rfl | ht
          · simp
          · exact (h1 _ ht).1
  · have h1 := h.2
    clear h
    induction l with
    | nil => simp [putT]
    | cons a l ih =>
      obtain ⟨p1, p2⟩ := List.pairwise_cons.1 h1
      unfold putT
      split
      · rename_i hlt
        refine List.pairwise_cons.2 ⟨fun t ht => ?_, ih p2⟩
        rcases putT_mask_mem ht with e | ⟨u, hu, e⟩
        · rw [e]; exact hlt
        · rw [← e]; exact p1 u hu
      · split
        · rename_i hlt e
          refine List.pairwise_cons.2 ⟨fun t ht => ?_, p2⟩
          have := p1 t ht
          simp only; omega
        · rename_i hlt e
          refine List.pairwise_cons.2 ⟨fun t ht => ?_, h1⟩
          simp only
          rcases List.mem_cons.1 ht with rfl | ht
          · omega
          · have := p1 t ht; omega
theorem set_mask_pairwise {l : List Table} (h : l.Pairwise (fun a b => a.mask < b.mask)) {i : Nat} {t u : Table} (hi : l[i]? = some t) (e : u.mask = t.mask) :
    (l.set i u).Pairwise (fun a b => a.mask < b.mask) := by
  rw [← List.pairwise_map (f := Table.mask) (R := (· < ·))] at h ⊢
  have : (l.set i u).map Table.mask = l.map Table.mask := by
    rw [List.map_set, e]
    apply List.ext_getElem?
    intro j
    rw [List.getElem?_set]
    split
    · rename_i e2; subst e2
      split
      · rw [List.getElem?_map, hi]; rfl
      · rename_i e2; simp at e2; rw [List.getElem?_eq_none (by simpa using e2)]
    · rfl
  rw [this]; exact h
theorem setT_form {l : List Table} (h : Form l) (i k : Nat) (r : Row) : Form (setT l i k r) := by
  unfold setT
  split
  · exact h
  · rename_i t hi
    refine ⟨fun x hx => ?_, set_mask_pairwise h.2 hi rfl⟩
    rcases List.mem_or_eq_of_mem_set hx with h1 | rfl
    · exact h.1 x h1
    · have := h.1 t (List.mem_of_getElem? hi)
      exact ⟨this.1, by simpa using this.2⟩
theorem cutT_form {l : List Table} (h : Form l) (i k : Nat) : Form (cutT l i k) := by
  unfold cutT
  split
  · exact h
  · rename_i t hi
    split
    · exact ⟨fun x hx => h.1 x (List.mem_of_mem_eraseIdx hx), h.2.sublist (List.eraseIdx_sublist _ _)⟩
    · rename_i h1
      refine ⟨fun x hx => ?_, set_mask_pairwise h.2 hi rfl⟩
      rcases List.mem_or_eq_of_mem_set hx with h2 | rfl
      · exact h.1 x h2
      · have := h.1 t (List.mem_of_getElem? hi)
        refine ⟨?_, by rw [without_length, without_length, this.2]⟩
        intro e
        have e2 := without_length t.ids k
        have e' : without t.ids k = [] := e
        rw [e'] at e2
        have : t.ids.length ≠ 0 := fun e3 => this.1 (List.length_eq_zero_iff.1 e3)
        simp at e2; omega

/-! Get -/
def asGot : Option (Int × Row) → Int × Row × Bool
  | none => (0, row0, false)
  | some (m, r) => (m, r, true)
/-- a thing's table and place, and the others -/
theorem find_some {s : Store} (h : Form s.tables) (hn : ((entries s).map (·.1)).Nodup) {id : Int} {i k : Nat} (hf : find s id = some (i, k)) :
    ∃ t r, s.tables[i]? = some t ∧ t.ids[k]? = some id ∧ t.rows[k]? = some r ∧ look (entries s) id = some (t.mask, r) ∧
      (entries s).Perm ((id, t.mask, r) :: entries (cut s i k)) := by
  obtain ⟨t, h1, h2, hk, h3⟩ := findT_at hf
  have hl := h.even t h2
  have hk2 : k < t.rows.length := by omega
  have hp := cutT_perm h.even h1 hk hk2
  rw [h3] at hp
  refine ⟨t, t.rows[k], h1, by rw [List.getElem?_eq_getElem hk, h3], List.getElem?_eq_getElem hk2, ?_, hp⟩
  exact (look_some hn).2 (hp.mem_iff.2 (by simp))
theorem find_none {s : Store} (h : Form s.tables) {id : Int} : find s id = none ↔ look (entries s) id = none := by
  rw [look_none, entries, entriesT_ids _ h.even]
  exact findT_none _ _
theorem get_look {s : Store} (h : Form s.tables) (hn : ((entries s).map (·.1)).Nodup) (id : Int) : get s id = asGot (look (entries s) id) := by
  unfold get
  cases hf : find s id with
  | none => rw [(find_none h).1 hf]; rfl
  | some p =>
    obtain ⟨i, k⟩ := p
    obtain ⟨t, r, h1, h2, h3, h4, h5⟩ := find_some h hn hf
    rw [h4]
    obtain ⟨h6, h7⟩ := List.getElem?_eq_some_iff.1 h3
    simp only [h1, h6, dif_pos, h7]
    rfl
theorem size_len {s : Store} (h : Form s.tables) : size s = (entries s).length := (entriesT_len _ h.even).symm

theorem look_cons (e : Entry) (l : List Entry) (id : Int) : look (e :: l) id = if e.1 = id then some (e.2.1, e.2.2) else look l id := by
  unfold look
  rw [List.find?_cons]
  by_cases h : e.1 = id
  · simp [h]
  · have hb : (e.1 == id) = false := by simpa using h
    rw [if_neg h]; simp [hb]

/-! Spawn, Kill, Set, Change: on what is held -/
theorem spawn_ok {s : Store} {m : Int} {r : Row} (h : (spawn s m r).2.2 = 0) :
    GoodS s ∧ goodRow m r = true ∧ size s < 10 ∧ s.next < 1048576 ∧ (spawn s m r).2.1 = s.next ∧ (spawn s m r).1 = put { s with next := s.next + 1 } s.next m r := by
  unfold spawn at h ⊢
  split at h
  · simp at h
  · rename_i h1
    split at h
    · simp at h
    · rename_i h2
      split at h
      · simp at h
      · rename_i h3
        rw [if_neg h1, if_neg h2, if_neg h3]
        exact ⟨(good_iff s).1 (by simpa using h1), by simpa using h2, by omega, by omega, rfl, rfl⟩
theorem put_good {s : Store} {id m : Int} {r : Row} {E : List Entry} (hf : Form s.tables) (hp : (entries s).Perm E) (hg : GoodE s.next ((id, m, r) :: E)) :
    GoodS (put s id m r) ∧ (entries (put s id m r)).Perm ((id, m, r) :: E) := by
  have h1 := putT_perm s.tables hf.even id m r
  have h2 : (entries (put s id m r)).Perm ((id, m, r) :: E) := h1.trans (List.Perm.cons _ hp)
  exact ⟨(good_split _).2 ⟨putT_form hf id m r, hg.perm h2.symm⟩, h2⟩
theorem spawn_good {s : Store} {m : Int} {r : Row} (h : (spawn s m r).2.2 = 0) :
    GoodS (spawn s m r).1 ∧ (entries (spawn s m r).1).Perm ((s.next, m, r) :: entries s) ∧ s.next ∉ (entries s).map (·.1) := by
  obtain ⟨g, hr, hs, hn, _, e⟩ := spawn_ok h
  obtain ⟨hf, g1, g2, g3, g4, g5⟩ := (good_split s).1 g
  have hfresh : s.next ∉ (entries s).map (·.1) := by
    intro hm
    obtain ⟨x, hx, e⟩ := List.mem_map.1 hm
    have := (g1 x hx).1
    omega
  rw [e]
  have := put_good (s := { s with next := s.next + 1 }) (id := s.next) (m := m) (r := r) (E := entries s) hf (List.Perm.refl _) (by
    refine ⟨?_, ?_, ?_, by simp only; omega, by simp only; omega⟩
    · intro x hx
      rcases List.mem_cons.1 hx with rfl | hx
      · exact ⟨by simp only; omega, hr⟩
      · have := g1 x hx
        exact ⟨by simp only; omega, this.2⟩
    · simp only [List.map_cons, List.nodup_cons]
      exact ⟨hfresh, g2⟩
    · rw [size_len hf] at hs; simp only [List.length_cons]; omega)
  exact ⟨this.1, this.2, hfresh⟩
theorem kill_ok {s : Store} {id : Int} (h : (kill s id).2 = 0) : ∃ m r E, GoodS s ∧ GoodS (kill s id).1 ∧ (kill s id).1.next = s.next ∧
    (entries s).Perm ((id, m, r) :: E) ∧ (entries (kill s id).1).Perm E ∧ look (entries s) id = some (m, r) := by
  unfold kill at h ⊢
  split at h
  · simp at h
  · rename_i h1
    have g := (good_iff s).1 (by simpa using h1)
    obtain ⟨hf, g1, g2, g3, g4, g5⟩ := (good_split s).1 g
    rw [if_neg h1]
    split at h
    · simp at h
    · rename_i i k hfd
      obtain ⟨t, r, a1, a2, a3, a4, a5⟩ := find_some hf g2 hfd
      refine ⟨t.mask, r, entries (cut s i k), g, ?_, rfl, a5, List.Perm.refl _, a4⟩
      have hg : GoodE s.next ((id, t.mask, r) :: entries (cut s i k)) := GoodE.perm ⟨g1, g2, g3, g4, g5⟩ a5
      obtain ⟨b1, b2, b3, b4⟩ := hg
      simp only [List.map_cons, List.nodup_cons, List.length_cons] at b2 b3
      exact (good_split _).2 ⟨cutT_form hf i k, fun e he => b1 e (List.mem_cons_of_mem _ he), b2.2, by show (entries (cut s i k)).length ≤ 10; omega, b4⟩
theorem GoodE.swap {next : Int} {id m m' : Int} {r r' : Row} {E : List Entry} (h : GoodE next ((id, m, r) :: E)) (hr : goodRow m' r' = true) : GoodE next ((id, m', r') :: E) := by
  obtain ⟨b1, b2, b3, b4⟩ := h
  refine ⟨fun e he => ?_, b2, b3, b4⟩
  rcases List.mem_cons.1 he with rfl | he
  · exact ⟨(b1 (id, m, r) (by simp)).1, hr⟩
  · exact b1 e (List.mem_cons_of_mem _ he)
theorem set_ok {s : Store} {id : Int} {r : Row} (h : (set s id r).2 = 0) : ∃ m q E, GoodS s ∧ GoodS (set s id r).1 ∧ (set s id r).1.next = s.next ∧ goodRow m r = true ∧
    (entries s).Perm ((id, m, q) :: E) ∧ (entries (set s id r).1).Perm ((id, m, r) :: E) ∧ look (entries s) id = some (m, q) := by
  unfold set at h ⊢
  split at h
  · simp at h
  · rename_i h1
    have g := (good_iff s).1 (by simpa using h1)
    obtain ⟨hf, g1, g2, g3, g4, g5⟩ := (good_split s).1 g
    rw [if_neg h1]
    split at h
    · simp at h
    · rename_i i k hfd
      obtain ⟨t, q, a1, a2, a3, a4, a5⟩ := find_some hf g2 hfd
      have hm : maskAt s i = t.mask := by unfold maskAt; rw [a1]
      simp only [hm] at h ⊢
      split at h
      · simp at h
      · rename_i h2
        rw [if_neg h2]
        have hg : GoodE s.next ((id, t.mask, q) :: entries (cut s i k)) := GoodE.perm ⟨g1, g2, g3, g4, g5⟩ a5
        have hr : goodRow t.mask r = true := by simpa using h2
        obtain ⟨k1, k2⟩ := List.getElem?_eq_some_iff.1 a2
        obtain ⟨k3, k4⟩ := List.getElem?_eq_some_iff.1 a3
        have hp := setT_perm hf.even a1 k1 k3 r
        rw [k2] at hp
        refine ⟨t.mask, q, entries (cut s i k), g, ?_, rfl, hr, a5, hp, a4⟩
        exact (good_split _).2 ⟨setT_form hf i k r, (hg.swap hr).perm hp.symm⟩
theorem change_ok {s : Store} {id m' : Int} {r : Row} (h : (change s id m' r).2 = 0) : ∃ m q E, GoodS s ∧ GoodS (change s id m' r).1 ∧ (change s id m' r).1.next = s.next ∧
    goodRow m' (changed m m' q r) = true ∧
    (entries s).Perm ((id, m, q) :: E) ∧ (entries (change s id m' r).1).Perm ((id, m', changed m m' q r) :: E) ∧ look (entries s) id = some (m, q) := by
  unfold change at h ⊢
  split at h
  · simp at h
  · rename_i h1
    have g := (good_iff s).1 (by simpa using h1)
    obtain ⟨hf, g1, g2, g3, g4, g5⟩ := (good_split s).1 g
    rw [if_neg h1]
    split at h
    · simp at h
    · rename_i i k hfd
      obtain ⟨t, q, a1, a2, a3, a4, a5⟩ := find_some hf g2 hfd
      have hm : maskAt s i = t.mask := by unfold maskAt; rw [a1]
      have hq : rowAt s i k = q := by unfold rowAt; rw [a1]; simp [a3]
      simp only [hm, hq] at h ⊢
      split at h
      · simp at h
      · rename_i h2
        rw [if_neg h2]
        have hg : GoodE s.next ((id, t.mask, q) :: entries (cut s i k)) := GoodE.perm ⟨g1, g2, g3, g4, g5⟩ a5
        have hr : goodRow m' (changed t.mask m' q r) = true := by simpa using h2
        have hpg := put_good (s := cut s i k) (id := id) (m := m') (r := changed t.mask m' q r) (cutT_form hf i k) (List.Perm.refl _) (hg.swap hr)
        exact ⟨t.mask, q, entries (cut s i k), g, hpg.1, rfl, hr, a5, hpg.2, a4⟩
end Go.Proofs.Ytkpecagkpjabdaa.M
/- Plain laws on masks (0 to 31) and on the row of a changed thing. No condition, no program in sight. -/
namespace Go.Proofs.Ytkpecagkpjabdaa.M
open Go.RowKit
set_option linter.unusedVariables false
set_option linter.unusedSimpArgs false
set_option maxRecDepth 100000
set_option maxRecDepth 100000

theorem bit_tab : ∀ m w : Fin 32, ∀ p : Fin 4, bit (bits .andNot .i64 31 (bits .andNot .i64 m.val w.val)) (2 ^ p.val : Int) = !(bit m.val (2 ^ p.val : Int) && !bit w.val (2 ^ p.val : Int)) ∧
    bit (bits .andNot .i64 m.val w.val) (2 ^ p.val : Int) = (bit m.val (2 ^ p.val : Int) && !bit w.val (2 ^ p.val : Int)) := by decide
theorem fin_of {m : Int} (h0 : 0 ≤ m) (h1 : m ≤ 31) : ∃ f : Fin 32, (f.val : Int) = m := ⟨⟨m.toNat, by omega⟩, by simp; omega⟩
theorem bit_other {m w : Int} (m0 : 0 ≤ m) (m1 : m ≤ 31) (w0 : 0 ≤ w) (w1 : w ≤ 31) {p : Int} (hp : p = 1 ∨ p = 2 ∨ p = 4 ∨ p = 8) :
    bit (bits .andNot .i64 31 (bits .andNot .i64 m w)) p = !(bit m p && !bit w p) ∧ bit (bits .andNot .i64 m w) p = (bit m p && !bit w p) := by
  obtain ⟨a, rfl⟩ := fin_of m0 m1
  obtain ⟨b, rfl⟩ := fin_of w0 w1
  rcases hp with rfl | rfl | rfl | rfl
  · exact bit_tab a b 0
  · exact bit_tab a b 1
  · exact bit_tab a b 2
  · exact bit_tab a b 3

/-- all numbers of a row are of 64 bits -/
def Ok64 (n : Int) : Prop := -9223372036854775808 ≤ n ∧ n ≤ 9223372036854775807
def RowIn (r : Row) : Prop := (Ok64 r.X ∧ Ok64 r.Y) ∧ (Ok64 r.PX ∧ Ok64 r.PY) ∧ (Ok64 r.W ∧ Ok64 r.H) ∧ (Ok64 r.M ∧ Ok64 r.R)
theorem wrap_ok {n : Int} (h : Ok64 n) : wrap64 n = n := IntWalk.wrap64_in n h

/-- one number of a changed row -/
theorem one_changed {a b x y : Int} {bm bw : Bool} (hx : Ok64 x) (hy : Ok64 y) :
    (if bm then wrap64 ((if (!(bm && !bw)) = true then x else 0) + (if (bm && !bw) = true then y else 0)) else 0) = if bm then (if bw then x else y) else 0 := by
  cases bm <;> cases bw <;> simp [wrap_ok hx, wrap_ok hy]
/-- the row of a changed thing: its own where it had the part, the other where the part comes -/
theorem changed_eq {was m : Int} {old r : Row} (m0 : 0 ≤ m) (m1 : m ≤ 31) (w0 : 0 ≤ was) (w1 : was ≤ 31) (ho : RowIn old) (hr : RowIn r) :
    changed was m old r = ⟨if bit m 1 then (if bit was 1 then old.X else r.X) else 0, if bit m 1 then (if bit was 1 then old.Y else r.Y) else 0,
      if bit m 2 then (if bit was 2 then old.PX else r.PX) else 0, if bit m 2 then (if bit was 2 then old.PY else r.PY) else 0,
      if bit m 4 then (if bit was 4 then old.W else r.W) else 0, if bit m 4 then (if bit was 4 then old.H else r.H) else 0,
      if bit m 8 then (if bit was 8 then old.M else r.M) else 0, if bit m 8 then (if bit was 8 then old.R else r.R) else 0⟩ := by
  obtain ⟨⟨o1, o2⟩, ⟨o3, o4⟩, ⟨o5, o6⟩, o7, o8⟩ := ho
  obtain ⟨⟨r1, r2⟩, ⟨r3, r4⟩, ⟨r5, r6⟩, r7, r8⟩ := hr
  obtain ⟨a1, b1⟩ := bit_other m0 m1 w0 w1 (p := 1) (by simp)
  obtain ⟨a2, b2⟩ := bit_other m0 m1 w0 w1 (p := 2) (by simp)
  obtain ⟨a4, b4⟩ := bit_other m0 m1 w0 w1 (p := 4) (by simp)
  obtain ⟨a8, b8⟩ := bit_other m0 m1 w0 w1 (p := 8) (by simp)
  unfold changed withR plus only onlyAt
  simp only [a1, b1, a2, b2, a4, b4, a8, b8]
  have h1 := fun (x y : Int) (hx : Ok64 x) (hy : Ok64 y) (bm bw : Bool) => one_changed (a := 0) (b := 0) (bm := bm) (bw := bw) hx hy
  rw [h1 _ _ o1 r1, h1 _ _ o2 r2, h1 _ _ o3 r3, h1 _ _ o4 r4, h1 _ _ o5 r5, h1 _ _ o6 r6, h1 _ _ o7 r7, h1 _ _ o8 r8]

/-- what a good row's numbers are where a part is lacking, and their bounds -/
theorem isPart_yes {is : Bool} {a b lo hi : Int} (h : isPart is a b lo hi = true) (hz : (lo = 1 ∧ hi = 9) → is = false → b = 0) :
    (is = false → a = 0 ∧ b = 0) ∧ (is = true → lo ≤ a ∧ a ≤ hi ∧ lo ≤ b ∧ b ≤ hi) := by
  unfold isPart at h
  cases is
  · simp only [Bool.false_eq_true, if_false, decide_eq_true_eq] at h
    refine ⟨fun _ => ⟨h.1, ?_⟩, fun h => by simp at h⟩
    rcases h.2 with h | h
    · exact h
    · exact hz h rfl
  · simp only [if_true, decide_eq_true_eq] at h
    exact ⟨fun h => by simp at h, fun _ => h⟩
structure Fits (m : Int) (r : Row) : Prop where
  lo : 1 ≤ m
  hi : m ≤ 31
  p1 : bit m 1 = false → r.X = 0 ∧ r.Y = 0
  q1 : bit m 1 = true → -1048576 ≤ r.X ∧ r.X ≤ 1048576 ∧ -1048576 ≤ r.Y ∧ r.Y ≤ 1048576
  p2 : bit m 2 = false → r.PX = 0 ∧ r.PY = 0
  q2 : bit m 2 = true → -16777216 ≤ r.PX ∧ r.PX ≤ 16777216 ∧ -16777216 ≤ r.PY ∧ r.PY ≤ 16777216
  p4 : bit m 4 = false → r.W = 0 ∧ r.H = 0
  q4 : bit m 4 = true → 1 ≤ r.W ∧ r.W ≤ 4096 ∧ 1 ≤ r.H ∧ r.H ≤ 4096
  p8 : bit m 8 = false → r.M = 0 ∧ r.R = 0
  q8 : bit m 8 = true → 1 ≤ r.M ∧ r.M ≤ 9 ∧ 0 ≤ r.R ∧ r.R ≤ 256
theorem goodRow_fits {m : Int} {r : Row} : goodRow m r = true ↔ Fits m r := by
  unfold goodRow
  simp only [Bool.and_eq_true, Bool.or_eq_true, decide_eq_true_eq]
  constructor
  · rintro ⟨⟨lo, hi⟩, h1, h2, h4, h8, hR⟩
    have e1 := isPart_yes h1 (by omega)
    have e2 := isPart_yes h2 (by omega)
    have e4 := isPart_yes h4 (by omega)
    have f8 : (bit m 8 = false → r.M = 0) ∧ (bit m 8 = true → 1 ≤ r.M ∧ r.M ≤ 9) := by
      unfold isPart at h8
      cases hb : bit m 8 <;> rw [hb] at h8 <;> simp at h8 <;> simp <;> omega
    refine ⟨lo, hi, e1.1, e1.2, e2.1, e2.2, e4.1, e4.2, fun h => ⟨f8.1 h, ?_⟩, fun h => ⟨(f8.2 h).1, (f8.2 h).2, ?_⟩⟩
    · rw [h] at hR; simpa using hR
    · rcases hR with hR | hR <;> omega
  · rintro ⟨lo, hi, p1, q1, p2, q2, p4, q4, p8, q8⟩
    refine ⟨⟨lo, hi⟩, ?_, ?_, ?_, ?_, ?_⟩
    · unfold isPart; cases hb : bit m 1
      · have := p1 hb; simp [this.1, this.2]
      · have := q1 hb; simp; omega
    · unfold isPart; cases hb : bit m 2
      · have := p2 hb; simp [this.1, this.2]
      · have := q2 hb; simp; omega
    · unfold isPart; cases hb : bit m 4
      · have := p4 hb; simp [this.1, this.2]
      · have := q4 hb; simp; omega
    · unfold isPart; cases hb : bit m 8
      · have := p8 hb; simp [this.1]
      · have := q8 hb; simp; omega
    · cases hb : bit m 8
      · right; exact (p8 hb).2
      · left; have := q8 hb; simp; omega
theorem Fits.rowIn {m : Int} {r : Row} (h : Fits m r) : RowIn r := by
  obtain ⟨lo, hi, p1, q1, p2, q2, p4, q4, p8, q8⟩ := h
  unfold RowIn Ok64
  refine ⟨?_, ?_, ?_, ?_⟩
  · cases hb : bit m 1
    · have := p1 hb; omega
    · have := q1 hb; omega
  · cases hb : bit m 2
    · have := p2 hb; omega
    · have := q2 hb; omega
  · cases hb : bit m 4
    · have := p4 hb; omega
    · have := q4 hb; omega
  · cases hb : bit m 8
    · have := p8 hb; omega
    · have := q8 hb; omega

/-! a part given and taken again -/
theorem give_tab : ∀ m : Fin 32, ∀ p : Fin 5, bits .and .i64 m.val (2 ^ p.val : Int) = 0 → bits .or .i64 m.val (2 ^ p.val : Int) = m.val + 2 ^ p.val ∧ (m.val + 2 ^ p.val : Int) ≤ 31 ∧
    ∀ q : Fin 4, bit m.val (2 ^ q.val : Int) = true → bit (m.val + 2 ^ p.val : Int) (2 ^ q.val : Int) = true := by decide
theorem give_part {m : Int} (h0 : 1 ≤ m) (h1 : m ≤ 31) {p : Nat} (hp : p < 5) (hb : bits .and .i64 m (2 ^ p : Int) = 0) :
    bits .or .i64 m (2 ^ p : Int) = m + 2 ^ p ∧ m + 2 ^ p ≤ 31 ∧ ∀ q : Int, q = 1 ∨ q = 2 ∨ q = 4 ∨ q = 8 → bit m q = true → bit (m + 2 ^ p) q = true := by
  obtain ⟨f, rfl⟩ := fin_of (by omega) h1
  obtain ⟨a, b, c⟩ := give_tab f ⟨p, hp⟩ hb
  refine ⟨a, b, fun q hq => ?_⟩
  rcases hq with rfl | rfl | rfl | rfl
  · exact c 0
  · exact c 1
  · exact c 2
  · exact c 3
/-- a part given and taken again: the row is as it was -/
theorem changed_back {m n : Int} {r more : Row} (hm : Fits m r) (n1 : n ≤ 31) (n0 : 0 ≤ n) (hmore : RowIn more) (hn : ∀ q : Int, q = 1 ∨ q = 2 ∨ q = 4 ∨ q = 8 → bit m q = true → bit n q = true) :
    changed n m (changed m n r more) row0 = r := by
  have hm0 : 0 ≤ m := by have := hm.lo; omega
  have z0 : RowIn row0 := by unfold RowIn row0 Ok64; simp
  have e1 := changed_eq n0 n1 hm0 hm.hi hm.rowIn hmore
  have hin : RowIn (changed m n r more) := by
    rw [e1]
    obtain ⟨⟨o1, o2⟩, ⟨o3, o4⟩, ⟨o5, o6⟩, o7, o8⟩ := hm.rowIn
    obtain ⟨⟨r1, r2⟩, ⟨r3, r4⟩, ⟨r5, r6⟩, r7, r8⟩ := hmore
    have h : ∀ (a b : Bool) (x y : Int), Ok64 x → Ok64 y → Ok64 (if a then (if b then x else y) else 0) := by
      intro a b x y hx hy
      cases a <;> cases b <;> simp [hx, hy, Ok64] <;> first | exact hx | exact hy
    exact ⟨⟨h _ _ _ _ o1 r1, h _ _ _ _ o2 r2⟩, ⟨h _ _ _ _ o3 r3, h _ _ _ _ o4 r4⟩, ⟨h _ _ _ _ o5 r5, h _ _ _ _ o6 r6⟩, h _ _ _ _ o7 r7, h _ _ _ _ o8 r8⟩
  rw [changed_eq hm0 hm.hi n0 n1 hin z0, e1]
  have n1 := hn 1 (by simp)
  have n2 := hn 2 (by simp)
  have n4 := hn 4 (by simp)
  have n8 := hn 8 (by simp)
  obtain ⟨lo, hi, p1, q1, p2, q2, p4, q4, p8, q8⟩ := hm
  obtain ⟨x, y, px, py, w, h, mm, rr⟩ := r
  have t1 : ∀ (bm bn : Bool) (x y : Int), (bm = true → bn = true) → (bm = false → x = 0) → (if bm = true then (if bn = true then (if bn = true then (if bm = true then x else y) else 0) else 0) else 0) = x := by
    intro bm bn x y h1 h2
    cases bm
    · simp [h2 rfl]
    · simp [h1 rfl]
  simp only [row0]
  simp only at p1 p2 p4 p8
  rw [t1 _ _ _ _ n1 (fun h => (p1 h).1), t1 _ _ _ _ n1 (fun h => (p1 h).2), t1 _ _ _ _ n2 (fun h => (p2 h).1), t1 _ _ _ _ n2 (fun h => (p2 h).2),
    t1 _ _ _ _ n4 (fun h => (p4 h).1), t1 _ _ _ _ n4 (fun h => (p4 h).2), t1 _ _ _ _ n8 (fun h => (p8 h).1), t1 _ _ _ _ n8 (fun h => (p8 h).2)]
end Go.Proofs.Ytkpecagkpjabdaa.M
/- The plain laws behind the walk of store.Good: what holds so far, and why it answers no. No condition, no program in sight. -/
namespace Go.Proofs.Ytkpecagkpjabdaa.M
open Go.RowKit
set_option linter.unusedVariables false
set_option linter.unusedSimpArgs false
set_option maxRecDepth 100000

/-- the first n tables are as they should be -/
def Upto (s : Store) (n : Nat) : Prop :=
  (∀ t ∈ s.tables.take n, TableOk s.next t) ∧ (s.tables.take n).Pairwise (fun a b => a.mask < b.mask) ∧ (idsT (s.tables.take n)).Nodup
/-- .. and the first k things of the next one -/
def Inner (s : Store) (n k : Nat) (t : Table) : Prop :=
  (∀ i ∈ t.ids.take k, 0 ≤ i ∧ i < s.next) ∧ (∀ r ∈ t.rows.take k, goodRow t.mask r = true) ∧ (idsT (s.tables.take n) ++ t.ids.take k).Nodup
theorem upto_zero (s : Store) : Upto s 0 := by simp [Upto, idsT]
theorem inner_zero {s : Store} {n : Nat} (h : Upto s n) (t : Table) : Inner s n 0 t := by simp [Inner, h.2.2]
theorem take_snoc {α : Type} {l : List α} {n : Nat} {t : α} (h : l[n]? = some t) : l.take (n + 1) = l.take n ++ [t] := by rw [List.take_add_one, h]; rfl
theorem idsT_append (a b : List Table) : idsT (a ++ b) = idsT a ++ idsT b := by simp [idsT]
theorem idsT_one (t : Table) : idsT [t] = t.ids := by simp [idsT]
theorem inner_step {s : Store} {n k : Nat} {t : Table} {id : Int} {r : Row} (h : Inner s n k t) (hi : t.ids[k]? = some id) (hr : t.rows[k]? = some r) (h0 : 0 ≤ id) (h1 : id < s.next)
    (hn : id ∉ idsT (s.tables.take n) ++ t.ids.take k) (hg : goodRow t.mask r = true) : Inner s n (k + 1) t := by
  obtain ⟨a, b, c⟩ := h
  unfold Inner
  rw [take_snoc hi, take_snoc hr]
  refine ⟨?_, ?_, ?_⟩
  · intro i hm
    rcases List.mem_append.1 hm with hm | hm
    · exact a i hm
    · simp only [List.mem_singleton] at hm; subst hm; exact ⟨h0, h1⟩
  · intro q hm
    rcases List.mem_append.1 hm with hm | hm
    · exact b q hm
    · simp only [List.mem_singleton] at hm; subst hm; exact hg
  · rw [← List.append_assoc, List.nodup_append]
    refine ⟨c, by simp, ?_⟩
    intro x hx y hy e
    simp only [List.mem_singleton] at hy
    subst hy; subst e
    exact hn hx
theorem upto_step {s : Store} {n : Nat} {t : Table} (h : Upto s n) (ht : s.tables[n]? = some t) (h0 : t.ids.length ≠ 0) (hl : t.ids.length = t.rows.length)
    (hm : ∀ p, 0 < n → s.tables[n - 1]? = some p → p.mask < t.mask) (hi : Inner s n t.ids.length t) : Upto s (n + 1) := by
  obtain ⟨a, b, c⟩ := h
  obtain ⟨i1, i2, i3⟩ := hi
  rw [List.take_length] at i1 i3
  rw [hl, List.take_length] at i2
  unfold Upto
  rw [take_snoc ht]
  refine ⟨?_, ?_, ?_⟩
  · intro x hx
    rcases List.mem_append.1 hx with hx | hx
    · exact a x hx
    · simp only [List.mem_singleton] at hx
      subst hx
      exact ⟨fun e => h0 (by rw [e]; rfl), hl, i1, i2⟩
  · rw [List.pairwise_append]
    refine ⟨b, by simp, ?_⟩
    intro x hx y hy
    simp only [List.mem_singleton] at hy
    subst hy
    have hlt := (List.getElem?_eq_some_iff.1 ht).1
    obtain ⟨j, hj, rfl⟩ := List.getElem_of_mem hx
    simp only [List.length_take] at hj
    have hpos : 0 < n := by omega
    obtain ⟨p, hp⟩ : ∃ p, s.tables[n - 1]? = some p := ⟨_, List.getElem?_eq_getElem (by omega)⟩
    have h1 := hm p hpos hp
    rw [List.pairwise_iff_getElem] at b
    rw [List.getElem_take]
    have hp' := (List.getElem?_eq_some_iff.1 hp).2
    rcases Nat.lt_or_ge j (n - 1) with hj2 | hj2
    · have := b j (n - 1) (by simp; omega) (by simp; omega) hj2
      rw [List.getElem_take, List.getElem_take, hp'] at this
      omega
    · have e : j = n - 1 := by omega
      subst e
      rw [hp']; exact h1
  · rw [idsT_append, idsT_one]; exact i3
theorem not_good {s : Store} (h : ¬ GoodS s) : good s = false := by simp [good, h]
theorem bad_len {s : Store} {n : Nat} {t : Table} (ht : s.tables[n]? = some t) (h : t.ids.length = 0 ∨ t.ids.length ≠ t.rows.length) : good s = false := by
  refine not_good fun g => ?_
  obtain ⟨a, b, _⟩ := g.1 t (List.mem_of_getElem? ht)
  rcases h with h | h
  · exact a (List.length_eq_zero_iff.1 h)
  · exact h b
theorem bad_mask {s : Store} {n : Nat} {t p : Table} (ht : s.tables[n]? = some t) (hn : 0 < n) (hp : s.tables[n - 1]? = some p) (h : t.mask ≤ p.mask) : good s = false := by
  refine not_good fun g => ?_
  have := g.2.1
  rw [List.pairwise_iff_getElem] at this
  obtain ⟨h1, h2⟩ := List.getElem?_eq_some_iff.1 ht
  obtain ⟨h3, h4⟩ := List.getElem?_eq_some_iff.1 hp
  have := this (n - 1) n h3 h1 (by omega)
  rw [h2, h4] at this
  omega
theorem bad_id {s : Store} {n k : Nat} {t : Table} {id : Int} (ht : s.tables[n]? = some t) (hi : t.ids[k]? = some id) (h : id < 0 ∨ s.next ≤ id) : good s = false := by
  refine not_good fun g => ?_
  obtain ⟨_, _, a, _⟩ := g.1 t (List.mem_of_getElem? ht)
  have := a id (List.mem_of_getElem? hi)
  omega
theorem bad_row {s : Store} {n k : Nat} {t : Table} {r : Row} (ht : s.tables[n]? = some t) (hr : t.rows[k]? = some r) (h : goodRow t.mask r = false) : good s = false := by
  refine not_good fun g => ?_
  obtain ⟨_, _, _, a⟩ := g.1 t (List.mem_of_getElem? ht)
  have := a r (List.mem_of_getElem? hr)
  rw [h] at this; simp at this
theorem bad_twice {s : Store} {n k : Nat} {t : Table} {id : Int} (ht : s.tables[n]? = some t) (hi : t.ids[k]? = some id) (h : id ∈ idsT (s.tables.take n) ++ t.ids.take k) : good s = false := by
  refine not_good fun g => ?_
  have hn := g.2.2.1
  have e : s.tables = s.tables.take n ++ (t :: s.tables.drop (n + 1)) := split_at ht
  have e2 : t.ids = t.ids.take k ++ (id :: t.ids.drop (k + 1)) := split_at hi
  rw [e, idsT_append] at hn
  have e3 : idsT (t :: s.tables.drop (n + 1)) = t.ids ++ idsT (s.tables.drop (n + 1)) := by simp [idsT]
  rw [e3, e2] at hn
  have : (idsT (s.tables.take n) ++ t.ids.take k ++ (id :: (t.ids.drop (k + 1) ++ idsT (s.tables.drop (n + 1))))).Nodup := by
    simpa [List.append_assoc] using hn
  rw [List.nodup_append] at this
  exact this.2.2 id h id (by simp) rfl
/-- a table is not empty, as long on both sides, and of a greater mask than the one ahead of it -/
def Pass (s : Store) (n : Nat) (t : Table) : Prop := t.ids.length ≠ 0 ∧ t.ids.length = t.rows.length ∧ ∀ p, 0 < n → s.tables[n - 1]? = some p → p.mask < t.mask
/-- what the first test says -/
def Tested (s : Store) (n : Nat) (t : Table) (bad : Bool) : Prop := if bad then good s = false else Pass s n t
/-- what the second test says -/
def Tested1 (s : Store) (n k : Nat) (t : Table) (id : Int) (r : Row) (bad : Bool) : Prop :=
  if bad then good s = false else ((0 ≤ id ∧ id < s.next) ∧ id ∉ idsT (s.tables.take n) ++ t.ids.take k ∧ goodRow t.mask r = true)
theorem nodup_bound (l : List Int) (N : Nat) (hn : l.Nodup) (h : ∀ i ∈ l, 0 ≤ i ∧ i < (N : Int)) : l.length ≤ N := by
  induction N generalizing l with
  | zero =>
    cases l with
    | nil => simp
    | cons a l => have := h a (by simp); omega
  | succ N ih =>
    have h1 := ih (l.erase (N : Int)) (hn.erase _) (fun i hi => by
      have := (hn.mem_erase_iff).1 hi
      have := h i this.2
      have hne : i ≠ (N : Int) := by rename_i t; exact t.1
      omega)
    have := List.length_erase_le (a := (N : Int)) (l := l)
    have : l.length ≤ (l.erase (N : Int)).length + 1 := by
      by_cases hm : (N : Int) ∈ l
      · rw [List.length_erase_of_mem hm]; omega
      · rw [List.erase_of_not_mem hm]; omega
    omega
theorem upto_ids {s : Store} {n : Nat} (h : Upto s n) : ∀ i ∈ idsT (s.tables.take n), 0 ≤ i ∧ i < s.next := by
  intro i hi
  unfold idsT at hi
  obtain ⟨t, ht, hm⟩ := List.mem_flatMap.1 hi
  exact (h.1 t ht).2.2.1 i hm
/-- so many different numbers below the next one -/
theorem upto_count {s : Store} {n : Nat} (h : Upto s n) : ((idsT (s.tables.take n)).length : Int) ≤ max 0 s.next := by
  have := nodup_bound _ s.next.toNat h.2.2 (fun i hi => by have := upto_ids h i hi; omega)
  omega
theorem inner_count {s : Store} {n k : Nat} {t : Table} {id : Int} (h : Upto s n) (hi : Inner s n k t) (h0 : 0 ≤ id) (h1 : id < s.next) (hn : id ∉ idsT (s.tables.take n) ++ t.ids.take k) :
    ((idsT (s.tables.take n) ++ t.ids.take k).length : Int) < s.next := by
  have := nodup_bound (id :: (idsT (s.tables.take n) ++ t.ids.take k)) s.next.toNat (List.nodup_cons.2 ⟨hn, hi.2.2⟩) (fun i hm => by
    rcases List.mem_cons.1 hm with rfl | hm
    · omega
    · rcases List.mem_append.1 hm with hm | hm
      · have := upto_ids h i hm; omega
      · have := hi.1 i hm; omega)
  simp only [List.length_cons] at this
  omega
theorem good_end {s : Store} (h : Upto s s.tables.length) : good s = (decide (sizeW s.tables ≤ 10) && (decide (0 ≤ s.next) && decide (s.next ≤ 1048576))) := by
  have hc := upto_count h
  obtain ⟨a, b, c⟩ := h
  rw [List.take_length] at a b c hc
  by_cases hx : s.next ≤ 1048576
  · have e := sizeW_eq s.tables (by omega)
    unfold good
    rw [e, Bool.eq_iff_iff]
    simp only [decide_eq_true_eq, Bool.and_eq_true]
    constructor
    · rintro ⟨_, _, _, d, e, f⟩; omega
    · rintro ⟨d, e, f⟩; exact ⟨a, b, c, by omega, e, f⟩
  · rw [not_good (fun g => hx g.2.2.2.2.2), decide_eq_false hx]
    simp
theorem tested1_row {s : Store} {n k : Nat} {t : Table} {id : Int} {r : Row} {g : Bool} (hg : g = goodRow t.mask r) (ht : s.tables[n]? = some t) (hr : t.rows[k]? = some r) (h0 : ¬ id < 0) (h1 : ¬ s.next ≤ id)
    (hn : id ∉ idsT (s.tables.take n) ++ t.ids.take k) : Tested1 s n k t id r (!g) := by
  cases g
  · exact bad_row ht hr hg.symm
  · exact ⟨⟨by omega, by omega⟩, hn, hg.symm⟩
/-! a set of numbers, as a map of bools reads -/
def keysOf (l : List Int) : List Lit := l.map (Lit.int .i64)
theorem mem_keysOf {l : List Int} {z : Int} : Lit.int .i64 z ∈ keysOf l ↔ z ∈ l := by simp [keysOf]
theorem keysOf_key (l : List Int) : ∀ x ∈ keysOf l, WideAt.IsKeyLit x := by
  intro x hx
  obtain ⟨z, _, rfl⟩ := List.mem_map.1 hx
  trivial
open Go.Maps in
theorem atKey_setOf {H : Type} (u d : DataW H) (l : List Int) (z : Int) : (setOf u (keysOf l)).atKey (.int .i64 z) d = if z ∈ l then u else d := by
  have key : ∀ (r : List Int), (setOf u (keysOf r.reverse)).atKey (.int .i64 z) d = if z ∈ r.reverse then u else d := by
    intro r
    induction r with
    | nil => simp [setOf, DataW.atKey, keysOf]
    | cons x r ih =>
      have e1 : keysOf (r.reverse ++ [x]) = keysOf r.reverse ++ [Lit.int .i64 x] := by simp [keysOf]
      rw [List.reverse_cons, e1, setOf_snoc]
      have hm : IsMap (setOf u (keysOf r.reverse)) := (tidy_setOf u _ (keysOf_key _)).isMap
      by_cases e : z = x
      · subst e
        rw [atKey_put_same hm (keysOf_key [z] _ (by simp [keysOf])), if_pos (by simp)]
      · rw [atKey_put_other (by simpa using e), ih]
        have : (z ∈ r.reverse ++ [x]) ↔ z ∈ r.reverse := by simp [e]
        simp only [this]
  have := key l.reverse
  simpa using this
end Go.Proofs.Ytkpecagkpjabdaa.M
/- The plain laws behind StoreThere, StoreKeeps and StoreQueries: what Spawn, Kill, Set, Change, Get, Size and Query of the plain model answer about each other. Condition: the store is a good one (or the call answered 0). -/
namespace Go.Proofs.Ytkpecagkpjabdaa.M
open Go.RowKit
set_option linter.unusedVariables false
set_option linter.unusedSimpArgs false
set_option maxRecDepth 100000

theorem GoodS.form {s : Store} (h : GoodS s) : Form s.tables := ((good_split s).1 h).1
theorem GoodS.goodE {s : Store} (h : GoodS s) : GoodE s.next (entries s) := ((good_split s).1 h).2
theorem GoodS.nodup {s : Store} (h : GoodS s) : ((entries s).map (·.1)).Nodup := h.goodE.2.1
theorem GoodS.get {s : Store} (h : GoodS s) (id : Int) : M.get s id = asGot (look (entries s) id) := get_look h.form h.nodup id
theorem GoodS.size {s : Store} (h : GoodS s) : M.size s = (entries s).length := size_len h.form
/-- a store that holds what another one does, but for one thing -/
theorem look_head {s : Store} (g : GoodS s) {id m : Int} {r : Row} {E : List Entry} (hp : (entries s).Perm ((id, m, r) :: E)) : look (entries s) id = some (m, r) := by
  rw [look_perm hp g.nodup, look_cons, if_pos rfl]
theorem look_rest {s : Store} (g : GoodS s) {id m : Int} {r : Row} {E : List Entry} (hp : (entries s).Perm ((id, m, r) :: E)) {o : Int} (ho : id ≠ o) : look (entries s) o = look E o := by
  rw [look_perm hp g.nodup, look_cons, if_neg ho]
theorem rest_fresh {s : Store} (g : GoodS s) {id m : Int} {r : Row} {E : List Entry} (hp : (entries s).Perm ((id, m, r) :: E)) : look E id = none := by
  have := (hp.map (·.1)).nodup_iff.1 g.nodup
  simp only [List.map_cons, List.nodup_cons] at this
  exact look_none.2 this.1

/-- Kill answers 0 where the thing is there -/
theorem kill_zero {s : Store} (g : GoodS s) {id m : Int} {r : Row} (h : look (entries s) id = some (m, r)) : (kill s id).2 = 0 := by
  unfold kill
  rw [if_neg (by simp [(good_iff s).2 g])]
  cases hf : find s id with
  | none => rw [(find_none g.form).1 hf] at h; simp at h
  | some p => rfl
theorem change_zero {s : Store} (g : GoodS s) {id m m' : Int} {q r : Row} (h : look (entries s) id = some (m, q)) (hr : goodRow m' (changed m m' q r) = true) : (change s id m' r).2 = 0 := by
  unfold change
  rw [if_neg (by simp [(good_iff s).2 g])]
  cases hf : find s id with
  | none => rw [(find_none g.form).1 hf] at h; simp at h
  | some p =>
    obtain ⟨i, k⟩ := p
    obtain ⟨t, r', a1, a2, a3, a4, a5⟩ := find_some g.form g.nodup hf
    rw [h] at a4
    simp only [Option.some.injEq, Prod.mk.injEq] at a4
    obtain ⟨e1, e2⟩ := a4
    have hm : maskAt s i = m := by unfold maskAt; rw [a1]; exact e1.symm
    have hq : rowAt s i k = q := by unfold rowAt; rw [a1]; simp [a3, e2]
    simp only [hm, hq]
    rw [if_neg (by simp [hr])]

/-! StoreThere -/
theorem there_was {s : Store} {m : Int} {r : Row} (h : (spawn s m r).2.2 = 0) : (get s (spawn s m r).2.1).2.2 = false := by
  obtain ⟨g, hr, hs, hn, e1, e2⟩ := spawn_ok h
  obtain ⟨_, _, hfresh⟩ := spawn_good h
  rw [g.get, e1, look_none.2 hfresh]
  rfl
theorem there_is {s : Store} {m : Int} {r : Row} (h : (spawn s m r).2.2 = 0) : get (spawn s m r).1 (spawn s m r).2.1 = (m, r, true) ∧ size (spawn s m r).1 = size s + 1 := by
  obtain ⟨g, hr, hs, hn, e1, e2⟩ := spawn_ok h
  obtain ⟨g', hp, hfresh⟩ := spawn_good h
  constructor
  · rw [g'.get, e1, look_head g' hp]
    rfl
  · rw [g'.size, g.size, hp.length_eq]
    rfl
theorem there_give {s : Store} {m : Int} {r more : Row} (h : (spawn s m r).2.2 = 0) {p : Nat} (hp5 : p < 5) (hb : bits .and .i64 m (2 ^ p : Int) = 0) (hmore : RowIn more)
    (hc : (change (spawn s m r).1 (spawn s m r).2.1 (bits .or .i64 m (2 ^ p : Int)) more).2 = 0) :
    (change (change (spawn s m r).1 (spawn s m r).2.1 (bits .or .i64 m (2 ^ p : Int)) more).1 (spawn s m r).2.1 m row0).2 = 0 ∧
    get (change (change (spawn s m r).1 (spawn s m r).2.1 (bits .or .i64 m (2 ^ p : Int)) more).1 (spawn s m r).2.1 m row0).1 (spawn s m r).2.1 = (m, r, true) := by
  obtain ⟨g, hr, hs, hn, e1, e2⟩ := spawn_ok h
  obtain ⟨g', hp, hfresh⟩ := spawn_good h
  have hfit := goodRow_fits.1 hr
  obtain ⟨b1, b2, b3⟩ := give_part hfit.lo hfit.hi hp5 hb
  rw [e1] at hc ⊢
  generalize (spawn s m r).1 = x at *
  rw [b1] at hc ⊢
  generalize hn' : m + (2 ^ p : Int) = n at *
  have hn0 : 0 ≤ n := by have := hfit.lo; have : (0 : Int) ≤ 2 ^ p := by exact Int.pow_nonneg (by omega)
                         omega
  obtain ⟨m1, q1, E, _, gy, _, hgr, hpx, hpy, hl⟩ := change_ok hc
  have hlx := look_head g' hp
  rw [hlx] at hl
  simp only [Option.some.injEq, Prod.mk.injEq] at hl
  obtain ⟨rfl, rfl⟩ := hl
  generalize (change x s.next n more).1 = y at *
  have hly := look_head gy hpy
  have hback : changed n m (changed m n r more) row0 = r := changed_back hfit b2 hn0 hmore b3
  have hz : (change y s.next m row0).2 = 0 := change_zero gy hly (by rw [hback]; exact hr)
  refine ⟨hz, ?_⟩
  obtain ⟨m2, q2, E2, _, gz, _, _, hpy2, hpz, hl2⟩ := change_ok hz
  rw [hly] at hl2
  simp only [Option.some.injEq, Prod.mk.injEq] at hl2
  obtain ⟨rfl, rfl⟩ := hl2
  rw [hback] at hpz
  rw [gz.get, look_head gz hpz]
  rfl
theorem there_gone {s : Store} {m : Int} {r : Row} (h : (spawn s m r).2.2 = 0) :
    (kill (spawn s m r).1 (spawn s m r).2.1).2 = 0 ∧ (get (kill (spawn s m r).1 (spawn s m r).2.1).1 (spawn s m r).2.1).2.2 = false ∧
    size (kill (spawn s m r).1 (spawn s m r).2.1).1 = size s := by
  obtain ⟨g, hr, hs, hn, e1, e2⟩ := spawn_ok h
  obtain ⟨g', hp, hfresh⟩ := spawn_good h
  have hl := look_head g' hp
  rw [e1]
  generalize (spawn s m r).1 = x at *
  have hk := kill_zero g' hl
  refine ⟨hk, ?_⟩
  obtain ⟨m1, r1, E, _, gk, _, hpx, hpk, _⟩ := kill_ok hk
  constructor
  · rw [gk.get, look_perm hpk gk.nodup, rest_fresh g' hpx]
    rfl
  · have h1 := hp.length_eq
    have h2 := hpx.length_eq
    have h3 := hpk.length_eq
    rw [gk.size, g.size]
    simp only [List.length_cons] at h1 h2
    omega

/-! StoreKeeps: whatever is done to a thing, the others are as they were -/
theorem keeps_of {s x : Store} (g : GoodS s) (gx : GoodS x) {o : Int} (h : look (entries x) o = look (entries s) o) : good x = true ∧ get s o = get x o :=
  ⟨(good_iff x).2 gx, by rw [g.get, gx.get, h]⟩
theorem keeps_spawn {s : Store} {m : Int} {r : Row} (h : (spawn s m r).2.2 = 0) {o : Int} (ho : o ≠ (spawn s m r).2.1) :
    good (spawn s m r).1 = true ∧ get s o = get (spawn s m r).1 o := by
  obtain ⟨g, hr, hs, hn, e1, e2⟩ := spawn_ok h
  obtain ⟨g', hp, hfresh⟩ := spawn_good h
  rw [e1] at ho
  exact keeps_of g g' (look_rest g' hp (fun e => ho e.symm))
theorem keeps_kill {s : Store} {id o : Int} (h : (kill s id).2 = 0) (ho : o ≠ id) : good (kill s id).1 = true ∧ get s o = get (kill s id).1 o := by
  obtain ⟨m1, r1, E, g, gk, _, hp, hpk, _⟩ := kill_ok h
  exact keeps_of g gk (by rw [look_perm hpk gk.nodup, look_rest g hp (fun e => ho e.symm)])
theorem keeps_set {s : Store} {id o : Int} {r : Row} (h : (set s id r).2 = 0) (ho : o ≠ id) : good (set s id r).1 = true ∧ get s o = get (set s id r).1 o := by
  obtain ⟨m1, r1, E, g, gk, _, _, hp, hpk, _⟩ := set_ok h
  exact keeps_of g gk (by rw [look_rest gk hpk (fun e => ho e.symm), look_rest g hp (fun e => ho e.symm)])
theorem keeps_change {s : Store} {id o m : Int} {r : Row} (h : (change s id m r).2 = 0) (ho : o ≠ id) : good (change s id m r).1 = true ∧ get s o = get (change s id m r).1 o := by
  obtain ⟨m1, r1, E, g, gk, _, _, hp, hpk, _⟩ := change_ok h
  exact keeps_of g gk (by rw [look_rest gk hpk (fun e => ho e.symm), look_rest g hp (fun e => ho e.symm)])

/-! StoreQueries -/
theorem mem_query {s : Store} (g : GoodS s) {m id : Int} : id ∈ query s m ↔ ∃ n r, look (entries s) id = some (n, r) ∧ bits .and .i64 n m = m := by
  unfold query
  rw [List.mem_mergeSort]
  simp only [List.mem_flatMap]
  constructor
  · rintro ⟨t, ht, hm⟩
    split at hm
    · rename_i hb
      obtain ⟨k, hk, rfl⟩ := List.getElem_of_mem hm
      have hl := g.form.even t ht
      refine ⟨t.mask, t.rows[k]'(by omega), ?_, hb⟩
      refine (look_some g.nodup).2 (mem_entriesT.2 ⟨t, ht, mem_entries.2 ⟨?_, rfl⟩⟩)
      have hz : k < (t.ids.zip t.rows).length := by simp; omega
      have := List.getElem_mem hz
      rwa [List.getElem_zip] at this
    · simp at hm
  · rintro ⟨n, r, hl, hb⟩
    obtain ⟨t, ht, he⟩ := mem_entriesT.1 ((look_some g.nodup).1 hl)
    obtain ⟨hz, hm⟩ := mem_entries.1 he
    simp only at hz hm
    refine ⟨t, ht, ?_⟩
    rw [← hm, if_pos hb]
    exact (List.of_mem_zip hz).1
theorem query_sub {l : List Table} (m : Int) : (l.flatMap fun t => if bits .and .i64 t.mask m = m then t.ids else []).Sublist (idsT l) := by
  induction l with
  | nil => exact List.Sublist.refl _
  | cons t l ih =>
    unfold idsT at ih ⊢
    rw [List.flatMap_cons, List.flatMap_cons]
    refine List.Sublist.append ?_ ih
    split
    · exact List.Sublist.refl _
    · exact List.nil_sublist _
theorem query_nodup {s : Store} (g : GoodS s) (m : Int) : (query s m).Nodup :=
  (List.mergeSort_perm _ _).nodup_iff.2 ((query_sub m).nodup g.2.2.1)
theorem query_sorted (s : Store) (m : Int) : (query s m).Pairwise (fun a b => a ≤ b) := by
  have := List.pairwise_mergeSort (le := fun a b : Int => decide (a ≤ b)) (by intro a b c; simp; omega) (by intro a b; simp; omega) (s.tables.flatMap fun t => if bits .and .i64 t.mask m = m then t.ids else [])
  exact this.imp (by simp)
theorem query_asc {s : Store} (g : GoodS s) (m : Int) : (query s m).Pairwise (fun a b => a < b) := by
  have h1 := query_sorted s m
  have h2 := query_nodup g m
  exact (h1.and h2).imp (by intro a b h; have := h.1; have := h.2; omega)
theorem query_len (s : Store) (m : Int) : (query s m).length = (s.tables.flatMap fun t => if bits .and .i64 t.mask m = m then t.ids else []).length := List.length_mergeSort _
end Go.Proofs.Ytkpecagkpjabdaa.M
