/- Opening an act that came in as an argument. No condition. -/
import Derived.Test.YtkpecagkpjabdacGreatBase
import Derived.Test.YtkpecagkpjabdacGreatPlainWorld
namespace Go.Proofs.YtkpecagkpjabdacGreat
open Go.ChangeShapes Go.WideShapes Go.ChangeAt Go.RowKit Go.Deep
set_option linter.unusedVariables false
set_option linter.unusedSimpArgs false
set_option maxRecDepth 100000

/-- the value of an act -/
abbrev actC (a : M.Act) : Array Value := #[.int .i64 a.kind, .int .i64 a.id, .int .i64 a.n, .int .i64 a.mask, .int .i64 a.row.X, .int .i64 a.row.Y, .int .i64 a.row.PX, .int .i64 a.row.PY, .int .i64 a.row.W, .int .i64 a.row.H, .int .i64 a.row.M, .int .i64 a.row.R, .int .i64 a.box.id, .int .i64 a.box.x1, .int .i64 a.box.y1, .int .i64 a.box.x2, .int .i64 a.box.y2]
abbrev actV (a : M.Act) : Value := .agg (actC a)
def ActIn (a : M.Act) : Prop := (I64 a.kind ∧ I64 a.id ∧ I64 a.n ∧ I64 a.mask) ∧ RowOk a.row ∧ (I64 a.box.id ∧ I64 a.box.x1 ∧ I64 a.box.y1 ∧ I64 a.box.x2 ∧ I64 a.box.y2)
section
variable {H : Type} {enc : TypeId × Value → H} {w : World} {base : Nat} {spare : Nat → Bool} {held : Bool} {fuel : Nat}
theorem seventeen {l : List Value} (h : l.length = 17) : ∃ a0 a1 a2 a3 a4 a5 a6 a7 a8 a9 a10 a11 a12 a13 a14 a15 a16, l = [a0, a1, a2, a3, a4, a5, a6, a7, a8, a9, a10, a11, a12, a13, a14, a15, a16] := by
  match l, h with
  | [a0, a1, a2, a3, a4, a5, a6, a7, a8, a9, a10, a11, a12, a13, a14, a15, a16], _ => exact ⟨a0, a1, a2, a3, a4, a5, a6, a7, a8, a9, a10, a11, a12, a13, a14, a15, a16, rfl⟩
theorem six {α : Type} {l : List α} (h : l.length = 6) : ∃ a b c d e f, l = [a, b, c, d, e, f] := by
  match l, h with
  | [a, b, c, d, e, f], _ => exact ⟨a, b, c, d, e, f, rfl⟩
theorem five5 {α : Type} {l : List α} (h : l.length = 5) : ∃ a b c d e, l = [a, b, c, d, e] := by
  match l, h with
  | [a, b, c, d, e], _ => exact ⟨a, b, c, d, e, rfl⟩
theorem abox_of_cells {cs : List Value} {n : Nat} {y : DataW H × List MemPlace} (h : DataW.trod enc Tryz.prog w base spare held n 25 cs = some y) :
    ∃ b : M.Box, cs = [.int .i64 b.id, .int .i64 b.x1, .int .i64 b.y1, .int .i64 b.x2, .int .i64 b.y2] ∧ (I64 b.id ∧ I64 b.x1 ∧ I64 b.y1 ∧ I64 b.x2 ∧ I64 b.y2) := by
  obtain ⟨xs, n, _, _, hlen, hxl, hg⟩ := DataW.trod_struct Tryz.underlying25 h
  have hc : Tryz.prog.cellsOf 25 = 5 := by kernel_rfl
  have c1 : Tryz.prog.cellsOf 3 = 1 := by kernel_rfl
  rw [hc] at hlen
  obtain ⟨a0, a1, a2, a3, a4, rfl⟩ := five5 hlen
  obtain ⟨b0, b1, b2, b3, b4, rfl⟩ := five5 (l := xs) hxl
  obtain ⟨x0, rfl, h0⟩ := cell_i64 Tryz.underlying3 (by simpa [c1] using hg 0 _ rfl)
  obtain ⟨x1, rfl, h1⟩ := cell_i64 Tryz.underlying3 (by simpa [c1] using hg 1 _ rfl)
  obtain ⟨x2, rfl, h2⟩ := cell_i64 Tryz.underlying3 (by simpa [c1] using hg 2 _ rfl)
  obtain ⟨x3, rfl, h3⟩ := cell_i64 Tryz.underlying3 (by simpa [c1] using hg 3 _ rfl)
  obtain ⟨x4, rfl, h4⟩ := cell_i64 Tryz.underlying3 (by simpa [c1] using hg 4 _ rfl)
  exact ⟨⟨x0, x1, x2, x3, x4⟩, rfl, h0, h1, h2, h3, h4⟩
theorem act_of_cells {cs : List Value} {n : Nat} {y : DataW H × List MemPlace} (h : DataW.trod enc Tryz.prog w base spare held n 27 cs = some y) : ∃ a : M.Act, cs = (actC a).toList ∧ ActIn a := by
  obtain ⟨xs, n, _, _, hlen, hxl, hg⟩ := DataW.trod_struct Tryz.underlying27 h
  have hc : Tryz.prog.cellsOf 27 = 17 := by kernel_rfl
  have c1 : Tryz.prog.cellsOf 3 = 1 := by kernel_rfl
  have c8 : Tryz.prog.cellsOf 23 = 8 := by kernel_rfl
  have c5 : Tryz.prog.cellsOf 25 = 5 := by kernel_rfl
  rw [hc] at hlen
  obtain ⟨a0, a1, a2, a3, a4, a5, a6, a7, a8, a9, a10, a11, a12, a13, a14, a15, a16, rfl⟩ := seventeen hlen
  obtain ⟨b0, b1, b2, b3, b4, b5, rfl⟩ := six (l := xs) hxl
  obtain ⟨x0, rfl, h0⟩ := cell_i64 Tryz.underlying3 (by simpa [c1] using hg 0 _ rfl)
  obtain ⟨x1, rfl, h1⟩ := cell_i64 Tryz.underlying3 (by simpa [c1] using hg 1 _ rfl)
  obtain ⟨x2, rfl, h2⟩ := cell_i64 Tryz.underlying3 (by simpa [c1] using hg 2 _ rfl)
  obtain ⟨x3, rfl, h3⟩ := cell_i64 Tryz.underlying3 (by simpa [c1] using hg 3 _ rfl)
  obtain ⟨r, er, hr⟩ := row_of_cells (cs := [a4, a5, a6, a7, a8, a9, a10, a11]) (by simpa [c8] using hg 4 _ rfl)
  obtain ⟨b, eb, hb⟩ := abox_of_cells (cs := [a12, a13, a14, a15, a16]) (by simpa [c5] using hg 5 _ rfl)
  simp only [List.cons.injEq, and_true] at er eb
  obtain ⟨rfl, rfl, rfl, rfl, rfl, rfl, rfl, rfl⟩ := er
  obtain ⟨rfl, rfl, rfl, rfl, rfl⟩ := eb
  exact ⟨⟨x0, x1, x2, x3, r, b⟩, rfl, ⟨h0, h1, h2, h3⟩, hr, hb⟩
theorem open_act {r : Reach} {b0 : Nat} {v : Value} {d : DataW H} {p : List MemPlace} (hv : Value.okWide Tryz.prog w r b0 27 v)
    (h : DataW.Trod enc Tryz.prog w base spare held 27 v d p) : ∃ a, v = actV a ∧ ActIn a := by
  obtain ⟨cs, rfl, hsz⟩ := okWide_struct Tryz.underlying27 hv
  obtain ⟨l⟩ := cs
  obtain ⟨fuel, hf⟩ := h
  obtain ⟨a, ha, hok⟩ := act_of_cells (cs := l) (by simpa [Value.cells] using hf)
  exact ⟨a, by rw [ha], hok⟩
end
end Go.Proofs.YtkpecagkpjabdacGreat
