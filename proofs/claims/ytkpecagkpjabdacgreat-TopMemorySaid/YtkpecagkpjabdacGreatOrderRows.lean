/- Rows in a slice of the call's own: one stored anew. No condition. -/
import Derived.Test.YtkpecagkpjabdacGreatBagO
namespace Go.Proofs.YtkpecagkpjabdacGreat
open Go.RowKit
set_option linter.unusedVariables false
set_option linter.unusedSimpArgs false
set_option maxRecDepth 100000
theorem setA (a : M.Row) (X : List Value) (k i : Nat) (v : Value) : (rowL a ++ X).set ((k + 1) * 8 + i) v = rowL a ++ X.set (k * 8 + i) v := by
  have h8 : (rowL a).length = 8 := rfl
  rw [List.set_append_right _ _ (by omega), h8]
  congr 2
  omega
theorem ints_put' {w : World} {base g n c : Nat} {zs : List Int} (h : w.ownsRow base 3 1 (.slice (some ⟨g, 0, none⟩) n c) n (zs.map (Value.int .i64))) (j : Nat) (z : Int) :
    (w.setCell ⟨g, j, none⟩ (.int .i64 z)).ownsRow base 3 1 (.slice (some ⟨g, 0, none⟩) n c) n ((zs.set j z).map (Value.int .i64)) := by
  have := own_put h j (.int .i64 z)
  rw [List.map_set]
  exact this
theorem flat8_set (l : List M.Row) (k : Nat) (r : M.Row) (hk : k < l.length) : (((((((((l.flatMap rowL).set (k * 8) (.int .i64 r.X)).set (k * 8 + 1) (.int .i64 r.Y)).set (k * 8 + 2) (.int .i64 r.PX)).set (k * 8 + 3) (.int .i64 r.PY)).set (k * 8 + 4) (.int .i64 r.W)).set (k * 8 + 5) (.int .i64 r.H)).set (k * 8 + 6) (.int .i64 r.M)).set (k * 8 + 7) (.int .i64 r.R)) = (l.set k r).flatMap rowL := by
  induction l generalizing k with
  | nil => simp at hk
  | cons a l ih =>
    match k with
    | 0 => simp [rowL]
    | k + 1 =>
      have := ih k (by simpa using hk)
      rw [List.set_cons_succ, List.flatMap_cons, List.flatMap_cons, ← this]
      have s0 : ∀ (X : List Value) (v : Value), (rowL a ++ X).set ((k + 1) * 8) v = rowL a ++ X.set (k * 8) v := fun X v => setA a X k 0 v
      rw [s0, setA, setA, setA, setA, setA, setA, setA]
theorem rows_put8 {w : World} {base g n c : Nat} {rs : List M.Row} (h : w.ownsRow base 23 8 (.slice (some ⟨g, 0, none⟩) n c) n (rs.flatMap rowL)) (j : Nat) (hj : j < rs.length) (r : M.Row) :
    ((((((((w.setCell ⟨g, j * 8, none⟩ (.int .i64 r.X)).setCell ⟨g, j * 8 + 1, none⟩ (.int .i64 r.Y)).setCell ⟨g, j * 8 + 2, none⟩ (.int .i64 r.PX)).setCell ⟨g, j * 8 + 3, none⟩ (.int .i64 r.PY)).setCell ⟨g, j * 8 + 4, none⟩ (.int .i64 r.W)).setCell ⟨g, j * 8 + 5, none⟩ (.int .i64 r.H)).setCell ⟨g, j * 8 + 6, none⟩ (.int .i64 r.M)).setCell ⟨g, j * 8 + 7, none⟩ (.int .i64 r.R)).ownsRow base 23 8 (.slice (some ⟨g, 0, none⟩) n c) n ((rs.set j r).flatMap rowL) := by
  have := own_put (own_put (own_put (own_put (own_put (own_put (own_put (own_put h (j * 8) (.int .i64 r.X)) (j * 8 + 1) (.int .i64 r.Y)) (j * 8 + 2) (.int .i64 r.PX)) (j * 8 + 3) (.int .i64 r.PY)) (j * 8 + 4) (.int .i64 r.W)) (j * 8 + 5) (.int .i64 r.H)) (j * 8 + 6) (.int .i64 r.M)) (j * 8 + 7) (.int .i64 r.R)
  rw [flat8_set rs j r hj] at this
  exact this
theorem rows_put0 {w : World} {base g n c : Nat} {rs : List M.Row} (h : w.ownsRow base 23 8 (.slice (some ⟨g, 0, none⟩) n c) n (rs.flatMap rowL)) (hj : 0 < rs.length) (r : M.Row) :
    ((((((((w.setCell ⟨g, 0, none⟩ (.int .i64 r.X)).setCell ⟨g, 1, none⟩ (.int .i64 r.Y)).setCell ⟨g, 2, none⟩ (.int .i64 r.PX)).setCell ⟨g, 3, none⟩ (.int .i64 r.PY)).setCell ⟨g, 4, none⟩ (.int .i64 r.W)).setCell ⟨g, 5, none⟩ (.int .i64 r.H)).setCell ⟨g, 6, none⟩ (.int .i64 r.M)).setCell ⟨g, 7, none⟩ (.int .i64 r.R)).ownsRow base 23 8 (.slice (some ⟨g, 0, none⟩) n c) n ((rs.set 0 r).flatMap rowL) := by
  have := rows_put8 h 0 hj r
  simp only [Nat.zero_mul, Nat.zero_add] at this
  exact this
/-- two worlds that differ in block g alone -/
def FarO (g : Nat) (W W' : World) : Prop := (∀ b, b ≠ g → W'.heap[b]? = W.heap[b]?) ∧ W'.heap.size = W.heap.size ∧ W'.os = W.os ∧ W'.tape = W.tape ∧ W'.output = W.output
theorem FarO.refl (g : Nat) (W : World) : FarO g W W := ⟨fun _ _ => rfl, rfl, rfl, rfl, rfl⟩
theorem FarO.set {g : Nat} {W W' : World} (h : FarO g W W') (i : Nat) (u : Value) : FarO g W (W'.setCell ⟨g, i, none⟩ u) :=
  ⟨fun b hb => (Below.heap_setCell _ _ _ _ hb).trans (h.1 b hb), by rw [← h.2.1]; simp [World.setCell], h.2.2.1, h.2.2.2.1, h.2.2.2.2⟩
theorem FarO.trans {g : Nat} {a b c : World} (h : FarO g a b) (k : FarO g b c) : FarO g a c :=
  ⟨fun x hx => (k.1 x hx).trans (h.1 x hx), k.2.1.trans h.2.1, k.2.2.1.trans h.2.2.1, k.2.2.2.1.trans h.2.2.2.1, k.2.2.2.2.trans h.2.2.2.2⟩
theorem FarO.drew {g : Nat} {a b : World} (h : FarO g a b) : FarO g a b.drew := h
theorem FarO.below {g B : Nat} {a b : World} (h : FarO g a b) (hg : B ≤ g) : Below B a b := ⟨h.2.2.1, h.2.2.2.1, h.2.2.2.2, by rw [h.2.1]; exact Nat.le_refl _, fun k hk => h.1 k (by omega)⟩
/-- a row stored into a slice of the call's own, as one step of a region that draws -/
theorem step_store_own8 {ops : Array Oper} {o : Oper} {a : Act} {w : World} {K : Act → World → Prop} {Q : Exit → Act → World → Prop} {E : Prop} (hgd : o.guard = none) (p x : Operand) (hop : o.op = Op.store 23 p x) (hd : o.dst = none)
    {base g n c : Nat} {rs : List M.Row} (h : w.ownsRow base 23 8 (.slice (some ⟨g, 0, none⟩) n c) n (rs.flatMap rowL)) (j : Nat) (hj : j < rs.length) (hn : rs.length = n) (r : M.Row) (hp : a.eval p = .pointer (some ⟨g, j * 8, none⟩)) (hx : a.eval x = rowV r)
    (hK : ∀ w', w'.ownsRow base 23 8 (.slice (some ⟨g, 0, none⟩) n c) n ((rs.set j r).flatMap rowL) → FarO g w w' → K a w') : if Region.wanted o (yielded ops a.tmps) = true then Oper.wp Tryz.prog o a w K Q else E := by
  have hw : Region.wanted o (yielded ops a.tmps) = true := by simp [Region.wanted, hgd]
  rw [if_pos hw]
  have hl : (rs.flatMap rowL).length = n * 8 := by rw [← hn]; exact rowsL_length rs
  have cell : ∀ i, i < 8 → ∃ u, w.cell? ⟨g, j * 8 + i, none⟩ = some u := by
    intro i hi
    have h1 := h.cellAt (j * 8 + i) (by omega)
    exact ⟨_, h1.trans (List.getElem?_eq_getElem (by omega))⟩
  obtain ⟨u0, c0⟩ := cell 0 (by omega)
  obtain ⟨u1, c1⟩ := cell 1 (by omega)
  obtain ⟨u2, c2⟩ := cell 2 (by omega)
  obtain ⟨u3, c3⟩ := cell 3 (by omega)
  obtain ⟨u4, c4⟩ := cell 4 (by omega)
  obtain ⟨u5, c5⟩ := cell 5 (by omega)
  obtain ⟨u6, c6⟩ := cell 6 (by omega)
  obtain ⟨u7, c7⟩ := cell 7 (by omega)
  rw [Nat.add_zero] at c0
  have fz := fun i => h.frozenAt i
  have hR := hK _ (rows_put8 h j hj r) (((((((((FarO.refl g w).set _ _).set _ _).set _ _).set _ _).set _ _).set _ _).set _ _).set _ _)
  clear cell hl h hK
  unfold Oper.wp
  simp only [execOp, hop, hp, hx]
  go_simp
  exact hR
end Go.Proofs.YtkpecagkpjabdacGreat
