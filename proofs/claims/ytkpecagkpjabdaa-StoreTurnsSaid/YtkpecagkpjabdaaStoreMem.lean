/- How a store lies in memory: slices of numbers, of rows, of tables; a store's value; and that it lies there still behind a call that writes nothing old. No condition. -/
import Derived.Test.YtkpecagkpjabdaaBagP
import Derived.Test.YtkpecagkpjabdaaMem
namespace Go.Proofs.Ytkpecagkpjabdaa
open Go.RowKit
set_option linter.unusedVariables false
set_option linter.unusedSimpArgs false
set_option maxRecDepth 100000

/-- the slice v, of n elements of k cells, holds the cells xs, in blocks from lo on -/
def Lies (w : World) (lo : Nat) (v : Value) (n k : Nat) (xs : List Value) : Prop :=
  xs.length = n * k ∧ n ≤ maxLen ∧ ∃ a cap, v = .slice a n cap ∧ (xs ≠ [] → ∃ b o, a = some ⟨b, o, none⟩ ∧ lo ≤ b ∧ ∀ j u, xs[j]? = some u → w.cell? ⟨b, o + j, none⟩ = some u)

theorem cell_lt {w : World} {b o : Nat} {v : Value} (h : w.cell? ⟨b, o, none⟩ = some v) : b < w.heap.size := by
  unfold World.cell? at h
  by_cases hb : b < w.heap.size
  · exact hb
  · have : w.heap[b]? = none := Array.getElem?_eq_none (by omega)
    simp [this] at h
theorem below_cell {w w' : World} {b o : Nat} {v : Value} (h : w.cell? ⟨b, o, none⟩ = some v) (hb : Below w.heap.size w w') : w'.cell? ⟨b, o, none⟩ = some v :=
  (hb.cell (p := ⟨b, o, none⟩) (cell_lt h)).trans h
theorem Lies.below {w w' : World} {lo : Nat} {v : Value} {n k : Nat} {xs : List Value} (h : Lies w lo v n k xs) (hb : Below w.heap.size w w') : Lies w' lo v n k xs := by
  obtain ⟨h1, hm, a, cap, h2, h3⟩ := h
  refine ⟨h1, hm, a, cap, h2, fun hne => ?_⟩
  obtain ⟨b, o, e, hl, hc⟩ := h3 hne
  exact ⟨b, o, e, hl, fun j u hj => below_cell (hc j u hj) hb⟩
theorem Lies.mono {w : World} {lo lo' : Nat} {v : Value} {n k : Nat} {xs : List Value} (h : Lies w lo v n k xs) (hl : lo' ≤ lo) : Lies w lo' v n k xs := by
  obtain ⟨h1, hm, a, cap, h2, h3⟩ := h
  refine ⟨h1, hm, a, cap, h2, fun hne => ?_⟩
  obtain ⟨b, o, e, hl2, hc⟩ := h3 hne
  exact ⟨b, o, e, Nat.le_trans hl hl2, hc⟩
theorem Lies.drew {w : World} {lo : Nat} {v : Value} {n k : Nat} {xs : List Value} (h : Lies w lo v n k xs) : Lies w.drew lo v n k xs := h
/-- what the call's own memory holds lies there -/
theorem Lies.of_owns {w : World} {base : Nat} {e : TypeId} {n k : Nat} {v : Value} {xs : List Value} (h : w.ownsRow base e k v n xs) : Lies w base v n k xs := by
  have hl := h.1
  rcases h.2 with ⟨rfl, rfl⟩ | ⟨g, cap, cur, rfl, hg, hb, hn, hm, hs, ht⟩
  · exact ⟨hl, Nat.zero_le _, none, 0, rfl, fun hne => absurd (List.length_eq_zero_iff.1 (by simpa using hl)) hne⟩
  · refine ⟨hl, Nat.le_trans hn hm, _, cap, rfl, fun hne => ⟨g, 0, rfl, hg, fun j u hj => ?_⟩⟩
    have := h.cells (g := g) rfl j u hj
    rw [Nat.zero_add]
    rw [show (Addr.add ⟨g, 0, none⟩ j : Addr) = ⟨g, j, none⟩ by simp [Addr.add]; intro e; rw [e]] at this
    exact this
theorem Lies.len {w : World} {lo : Nat} {v : Value} {n k : Nat} {xs : List Value} (h : Lies w lo v n k xs) : xs.length = n * k := h.1

/-- numbers -/
def IntsAt (w : World) (lo : Nat) (v : Value) (zs : List Int) : Prop := Lies w lo v zs.length 1 (zs.map (Value.int .i64))
/-- rows -/
def rowL (r : M.Row) : List Value := [.int .i64 r.X, .int .i64 r.Y, .int .i64 r.PX, .int .i64 r.PY, .int .i64 r.W, .int .i64 r.H, .int .i64 r.M, .int .i64 r.R]
def RowsAt (w : World) (lo : Nat) (v : Value) (rs : List M.Row) : Prop := Lies w lo v rs.length 8 (rs.flatMap rowL)
/-- the cells of tables: each one's mask and its two slices -/
def tabL (ts : List M.Table) (hs : List (Value × Value)) : List Value := (ts.zip hs).flatMap fun p => [.int .i64 p.1.mask, p.2.1, p.2.2]
def TabAt (w : World) (lo : Nat) (t : M.Table) (h : Value × Value) : Prop := IntsAt w lo h.1 t.ids ∧ RowsAt w lo h.2 t.rows
/-- tables, with the values of their slices -/
def TabsAtH (w : World) (lo : Nat) (v : Value) (ts : List M.Table) (hs : List (Value × Value)) : Prop :=
  hs.length = ts.length ∧ Lies w lo v ts.length 3 (tabL ts hs) ∧ ∀ (i : Nat) (t : M.Table) (h : Value × Value), ts[i]? = some t → hs[i]? = some h → TabAt w lo t h
def TabsAt (w : World) (lo : Nat) (v : Value) (ts : List M.Table) : Prop := ∃ hs, TabsAtH w lo v ts hs
/-- no list of it is longer than memory allows -/
def Sized (s : M.Store) : Prop := s.tables.length * 56 ≤ 140737488351232 ∧ ∀ t ∈ s.tables, t.ids.length * 8 ≤ 140737488351232 ∧ t.rows.length * 64 ≤ 140737488351232
/-- a store's value -/
def StoreAt (w : World) (lo : Nat) (v : Value) (s : M.Store) : Prop := ∃ vt, v = .agg #[vt, .int .i64 s.next] ∧ TabsAt w lo vt s.tables

section
variable {w w' : World} {lo : Nat} {v : Value}
theorem IntsAt.below {zs : List Int} (h : IntsAt w lo v zs) (hb : Below w.heap.size w w') : IntsAt w' lo v zs := Lies.below h hb
theorem RowsAt.below {rs : List M.Row} (h : RowsAt w lo v rs) (hb : Below w.heap.size w w') : RowsAt w' lo v rs := Lies.below h hb
theorem TabAt.below {t : M.Table} {p : Value × Value} (h : TabAt w lo t p) (hb : Below w.heap.size w w') : TabAt w' lo t p := ⟨h.1.below hb, h.2.below hb⟩
theorem TabsAtH.below {ts : List M.Table} {hs : List (Value × Value)} (h : TabsAtH w lo v ts hs) (hb : Below w.heap.size w w') : TabsAtH w' lo v ts hs :=
  ⟨h.1, h.2.1.below hb, fun i t p h1 h2 => (h.2.2 i t p h1 h2).below hb⟩
theorem TabsAt.below {ts : List M.Table} (h : TabsAt w lo v ts) (hb : Below w.heap.size w w') : TabsAt w' lo v ts := by
  obtain ⟨hs, h⟩ := h
  exact ⟨hs, h.below hb⟩
theorem StoreAt.below {s : M.Store} (h : StoreAt w lo v s) (hb : Below w.heap.size w w') : StoreAt w' lo v s := by
  obtain ⟨vt, e, h⟩ := h
  exact ⟨vt, e, h.below hb⟩
theorem IntsAt.mono {zs : List Int} {lo' : Nat} (h : IntsAt w lo v zs) (hl : lo' ≤ lo) : IntsAt w lo' v zs := Lies.mono h hl
theorem RowsAt.mono {rs : List M.Row} {lo' : Nat} (h : RowsAt w lo v rs) (hl : lo' ≤ lo) : RowsAt w lo' v rs := Lies.mono h hl
theorem StoreAt.mono {s : M.Store} {lo' : Nat} (h : StoreAt w lo v s) (hl : lo' ≤ lo) : StoreAt w lo' v s := by
  obtain ⟨vt, e, hs, h1, h2, h3⟩ := h
  exact ⟨vt, e, hs, h1, h2.mono hl, fun i t p a b => ⟨(h3 i t p a b).1.mono hl, (h3 i t p a b).2.mono hl⟩⟩
end

/-! reading -/
theorem tabL_cons (t : M.Table) (ts : List M.Table) (h : Value × Value) (hs : List (Value × Value)) : tabL (t :: ts) (h :: hs) = .int .i64 t.mask :: h.1 :: h.2 :: tabL ts hs := by simp [tabL]
theorem tabL_length (ts : List M.Table) (hs : List (Value × Value)) (h : hs.length = ts.length) : (tabL ts hs).length = ts.length * 3 := by
  induction ts generalizing hs with
  | nil => simp [tabL]
  | cons t ts ih =>
    match hs, h with
    | p :: hs, h =>
      rw [tabL_cons]
      simp only [List.length_cons] at h ⊢
      rw [ih hs (by omega)]
      omega
theorem tabL_at (ts : List M.Table) (hs : List (Value × Value)) (i : Nat) {t : M.Table} {p : Value × Value} (h1 : ts[i]? = some t) (h2 : hs[i]? = some p) :
    (tabL ts hs)[i * 3]? = some (.int .i64 t.mask) ∧ (tabL ts hs)[i * 3 + 1]? = some p.1 ∧ (tabL ts hs)[i * 3 + 2]? = some p.2 := by
  induction ts generalizing hs i with
  | nil => simp at h1
  | cons t' ts ih =>
    match hs, i with
    | [], i => simp at h2
    | p' :: hs, 0 =>
      simp only [List.getElem?_cons_zero, Option.some.injEq] at h1 h2
      subst h1; subst h2
      rw [tabL_cons]
      simp
    | p' :: hs, i + 1 =>
      simp only [List.getElem?_cons_succ] at h1 h2
      obtain ⟨a, b, c⟩ := ih hs i h1 h2
      rw [tabL_cons]
      have e0 : (i + 1) * 3 = i * 3 + 3 := by omega
      rw [e0]
      exact ⟨a, b, c⟩
theorem rowsL_length (rs : List M.Row) : (rs.flatMap rowL).length = rs.length * 8 := by
  induction rs with
  | nil => rfl
  | cons r rs ih => rw [List.flatMap_cons, List.length_append, ih]; simp [rowL]; omega
theorem rowsL_at (rs : List M.Row) (i j : Nat) {r : M.Row} (h : rs[i]? = some r) (hj : j < 8) : (rs.flatMap rowL)[i * 8 + j]? = (rowL r)[j]? := by
  induction rs generalizing i with
  | nil => simp at h
  | cons a rs ih =>
    have h8 : (rowL a).length = 8 := rfl
    rw [List.flatMap_cons]
    match i with
    | 0 =>
      simp only [List.getElem?_cons_zero, Option.some.injEq] at h
      subst h
      rw [List.getElem?_append_left (by omega)]
      simp
    | i + 1 =>
      simp only [List.getElem?_cons_succ] at h
      rw [List.getElem?_append_right (by omega), h8, ← ih i h]
      congr 1
      omega
/-- the table i of tables that lie somewhere: its mask and its slices -/
theorem TabsAtH.at {w : World} {lo : Nat} {v : Value} {ts : List M.Table} {hs : List (Value × Value)} (h : TabsAtH w lo v ts hs) {i : Nat} {t : M.Table} (hi : ts[i]? = some t) :
    ∃ b o cap p, v = .slice (some ⟨b, o, none⟩) ts.length cap ∧ lo ≤ b ∧ hs[i]? = some p ∧ w.cell? ⟨b, o + i * 3, none⟩ = some (.int .i64 t.mask) ∧ w.cell? ⟨b, o + i * 3 + 1, none⟩ = some p.1 ∧
      w.cell? ⟨b, o + i * 3 + 2, none⟩ = some p.2 ∧ TabAt w lo t p := by
  obtain ⟨h1, ⟨h2, hm, a, cap, e, h3⟩, h4⟩ := h
  have hlt := (List.getElem?_eq_some_iff.1 hi).1
  obtain ⟨p, hp⟩ : ∃ p, hs[i]? = some p := ⟨_, List.getElem?_eq_getElem (by omega)⟩
  obtain ⟨q0, q1, q2⟩ := tabL_at ts hs i hi hp
  obtain ⟨b, o, ea, hl, hc⟩ := h3 (by intro e; rw [e] at q0; simp at q0)
  subst ea
  exact ⟨b, o, cap, p, e, hl, hp, hc _ _ q0, hc _ _ q1, hc _ _ q2, h4 i t p hi hp⟩
theorem RowsAt.at {w : World} {lo : Nat} {v : Value} {rs : List M.Row} (h : RowsAt w lo v rs) {i : Nat} {r : M.Row} (hi : rs[i]? = some r) :
    ∃ b o cap, v = .slice (some ⟨b, o, none⟩) rs.length cap ∧ lo ≤ b ∧ ∀ j u, (rowL r)[j]? = some u → w.cell? ⟨b, o + i * 8 + j, none⟩ = some u := by
  obtain ⟨h2, hmx, a, cap, e, h3⟩ := h
  have q0 := rowsL_at rs i 0 hi (by omega)
  obtain ⟨b, o, ea, hl, hc⟩ := h3 (by intro e; rw [e] at q0; simp [rowL] at q0)
  subst ea
  refine ⟨b, o, cap, e, hl, fun j u hj => ?_⟩
  have hj8 : j < 8 := (List.getElem?_eq_some_iff.1 hj).1
  rw [Nat.add_assoc]
  exact hc _ _ (by rw [rowsL_at rs i j hi hj8]; exact hj)
/-- the cells of row i of rows that lie somewhere -/
def RowCells (w : World) (b o i : Nat) (r : M.Row) : Prop := w.cell? ⟨b, o + i * 8, none⟩ = some (.int .i64 r.X) ∧ w.cell? ⟨b, o + i * 8 + 1, none⟩ = some (.int .i64 r.Y) ∧ w.cell? ⟨b, o + i * 8 + 2, none⟩ = some (.int .i64 r.PX) ∧ w.cell? ⟨b, o + i * 8 + 3, none⟩ = some (.int .i64 r.PY) ∧ w.cell? ⟨b, o + i * 8 + 4, none⟩ = some (.int .i64 r.W) ∧ w.cell? ⟨b, o + i * 8 + 5, none⟩ = some (.int .i64 r.H) ∧ w.cell? ⟨b, o + i * 8 + 6, none⟩ = some (.int .i64 r.M) ∧ w.cell? ⟨b, o + i * 8 + 7, none⟩ = some (.int .i64 r.R)
theorem RowsAt.at8 {w : World} {lo : Nat} {v : Value} {rs : List M.Row} (h : RowsAt w lo v rs) {i : Nat} {r : M.Row} (hi : rs[i]? = some r) :
    ∃ b o cap, v = .slice (some ⟨b, o, none⟩) rs.length cap ∧ lo ≤ b ∧ RowCells w b o i r := by
  obtain ⟨b, o, cap, e, hl, hc⟩ := h.at hi
  exact ⟨b, o, cap, e, hl, hc 0 _ rfl, hc 1 _ rfl, hc 2 _ rfl, hc 3 _ rfl, hc 4 _ rfl, hc 5 _ rfl, hc 6 _ rfl, hc 7 _ rfl⟩
theorem RowCells.below {w w' : World} {b o i : Nat} {r : M.Row} (h : RowCells w b o i r) (hb : Below w.heap.size w w') : RowCells w' b o i r := by
  obtain ⟨h0, h1, h2, h3, h4, h5, h6, h7⟩ := h
  exact ⟨below_cell h0 hb, below_cell h1 hb, below_cell h2 hb, below_cell h3 hb, below_cell h4 hb, below_cell h5 hb, below_cell h6 hb, below_cell h7 hb⟩
theorem IntsAt.at {w : World} {lo : Nat} {v : Value} {zs : List Int} (h : IntsAt w lo v zs) {i : Nat} {z : Int} (hi : zs[i]? = some z) :
    ∃ b o cap, v = .slice (some ⟨b, o, none⟩) zs.length cap ∧ lo ≤ b ∧ w.cell? ⟨b, o + i, none⟩ = some (.int .i64 z) := by
  obtain ⟨h2, hmx, a, cap, e, h3⟩ := h
  have hm : (zs.map (Value.int .i64))[i]? = some (.int .i64 z) := by simp [hi]
  obtain ⟨b, o, ea, hl, hc⟩ := h3 (by intro e; rw [e] at hm; simp at hm)
  subst ea
  exact ⟨b, o, cap, e, hl, hc _ _ hm⟩
/-- the value of numbers that lie somewhere: a slice of that length -/
theorem IntsAt.val {w : World} {lo : Nat} {v : Value} {zs : List Int} (h : IntsAt w lo v zs) : ∃ a cap, v = .slice a zs.length cap := by
  obtain ⟨h2, hmx, a, cap, e, h3⟩ := h
  exact ⟨a, cap, e⟩
theorem RowsAt.val {w : World} {lo : Nat} {v : Value} {rs : List M.Row} (h : RowsAt w lo v rs) : ∃ a cap, v = .slice a rs.length cap := by
  obtain ⟨h2, hmx, a, cap, e, h3⟩ := h
  exact ⟨a, cap, e⟩
theorem TabsAtH.val {w : World} {lo : Nat} {v : Value} {ts : List M.Table} {hs : List (Value × Value)} (h : TabsAtH w lo v ts hs) : ∃ a cap, v = .slice a ts.length cap := by
  obtain ⟨_, ⟨h2, hm, a, cap, e, h3⟩, _⟩ := h
  exact ⟨a, cap, e⟩
/-- the table i, its slices written out -/
theorem TabsAtH.at2 {w : World} {lo : Nat} {v : Value} {ts : List M.Table} {hs : List (Value × Value)} (h : TabsAtH w lo v ts hs) {i : Nat} {t : M.Table} (hi : ts[i]? = some t) :
    ∃ b o cap a1 cp1 a2 cp2, v = .slice (some ⟨b, o, none⟩) ts.length cap ∧ lo ≤ b ∧ hs[i]? = some (.slice a1 t.ids.length cp1, .slice a2 t.rows.length cp2) ∧ w.cell? ⟨b, o + i * 3, none⟩ = some (.int .i64 t.mask) ∧
      w.cell? ⟨b, o + i * 3 + 1, none⟩ = some (.slice a1 t.ids.length cp1) ∧ w.cell? ⟨b, o + i * 3 + 2, none⟩ = some (.slice a2 t.rows.length cp2) ∧ IntsAt w lo (.slice a1 t.ids.length cp1) t.ids ∧ RowsAt w lo (.slice a2 t.rows.length cp2) t.rows := by
  obtain ⟨b, o, cap, ⟨p1, p2⟩, e, hl, hp, c0, c1, c2, hi⟩ := h.at hi
  obtain ⟨a1, cp1, e1⟩ := hi.1.val
  obtain ⟨a2, cp2, e2⟩ := hi.2.val
  simp only at e1 e2
  subst e1; subst e2
  exact ⟨b, o, cap, a1, cp1, a2, cp2, e, hl, hp, c0, c1, c2, hi.1, hi.2⟩
theorem IntsAt.max {w : World} {lo : Nat} {v : Value} {zs : List Int} (h : IntsAt w lo v zs) : zs.length ≤ maxLen := h.2.1
theorem RowsAt.max {w : World} {lo : Nat} {v : Value} {rs : List M.Row} (h : RowsAt w lo v rs) : rs.length ≤ maxLen := h.2.1
theorem TabsAtH.max {w : World} {lo : Nat} {v : Value} {ts : List M.Table} {hs : List (Value × Value)} (h : TabsAtH w lo v ts hs) : ts.length ≤ maxLen := h.2.1.2.1
end Go.Proofs.Ytkpecagkpjabdaa
