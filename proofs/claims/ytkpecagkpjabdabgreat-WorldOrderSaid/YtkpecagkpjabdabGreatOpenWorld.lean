/- A world that came in: how it lies in memory. No condition. -/
import Derived.Test.YtkpecagkpjabdabGreatBagW
import Derived.Test.YtkpecagkpjabdabGreatBagP
import Derived.Test.YtkpecagkpjabdabGreatBagWo
namespace Go.Proofs.YtkpecagkpjabdabGreat
open Go.ChangeShapes Go.WideShapes Go.ChangeAt Go.RowKit Go.Deep
set_option linter.unusedVariables false
set_option linter.unusedSimpArgs false
set_option maxRecDepth 100000
/-- a world's value, as it lies in memory; its numbers are of 64 bits -/
def WorldAt (w : World) (v : Value) (d : M.Wd) : Prop := ∃ vt, v = wdV vt d ∧ StoreAt w 0 (.agg #[vt, .int .i64 d.things.next]) d.things ∧ StoreIn d.things ∧ I64 d.fall ∧ I64 d.wide ∧ I64 d.high
theorem fiveW {α : Type} {l : List α} (h : l.length = 5) : ∃ a b c d e, l = [a, b, c, d, e] := by
  match l, h with
  | [a, b, c, d, e], _ => exact ⟨a, b, c, d, e, rfl⟩
theorem fourW {α : Type} {l : List α} (h : l.length = 4) : ∃ a b c d, l = [a, b, c, d] := by
  match l, h with
  | [a, b, c, d], _ => exact ⟨a, b, c, d, rfl⟩
section
variable {H : Type} {enc : TypeId × Value → H} {w : World} {spare : Nat → Bool} {held : Bool}
theorem world_of_cells {cs : List Value} {n : Nat} {y : DataW H × List MemPlace} (h : DataW.trod enc Tryz.prog w 0 spare held n 41 cs = some y) :
    ∃ (d : M.Wd) (vt : Value), cs = [vt, .int .i64 d.things.next, .int .i64 d.fall, .int .i64 d.wide, .int .i64 d.high] ∧ TabsAt w 0 vt d.things.tables ∧ StoreIn d.things ∧ I64 d.fall ∧ I64 d.wide ∧ I64 d.high := by
  obtain ⟨xs, n, _, _, hlen, hxl, hg⟩ := DataW.trod_struct Tryz.underlying41 h
  have hc : Tryz.prog.cellsOf 41 = 5 := by kernel_rfl
  have c1 : Tryz.prog.cellsOf 3 = 1 := by kernel_rfl
  have c2 : Tryz.prog.cellsOf 39 = 2 := by kernel_rfl
  rw [hc] at hlen
  obtain ⟨a0, a1, a2, a3, a4, rfl⟩ := fiveW hlen
  obtain ⟨b0, b1, b2, b3, rfl⟩ := fourW (l := xs) hxl
  obtain ⟨s, vt, e, h1, k1⟩ := store_of_cells (cs := [a0, a1]) (by simpa [c2] using hg 0 _ rfl)
  obtain ⟨f, rfl, hf⟩ := cell_i64 Tryz.underlying3 (by simpa [c1] using hg 1 _ rfl)
  obtain ⟨wi, rfl, hw⟩ := cell_i64 Tryz.underlying3 (by simpa [c1] using hg 2 _ rfl)
  obtain ⟨hi, rfl, hh⟩ := cell_i64 Tryz.underlying3 (by simpa [c1] using hg 3 _ rfl)
  simp only [List.cons.injEq, and_true] at e
  obtain ⟨rfl, rfl⟩ := e
  exact ⟨⟨s, f, wi, hi⟩, a0, rfl, h1, k1, hf, hw, hh⟩
end
theorem open_world {H : Type} {enc : TypeId × Value → H} {w : World} {spare : Nat → Bool} {held : Bool} {r : Reach} {b0 : Nat} {v : Value} {d : DataW H} {p : List MemPlace} (hv : Value.okWide Tryz.prog w r b0 41 v)
    (h : DataW.Trod enc Tryz.prog w 0 spare held 41 v d p) : ∃ d, WorldAt w v d := by
  obtain ⟨cs, rfl, hsz⟩ := okWide_struct Tryz.underlying41 hv
  obtain ⟨l⟩ := cs
  obtain ⟨fuel, hf⟩ := h
  obtain ⟨d, vt, hr, ht, hin, h1, h2, h3⟩ := world_of_cells (cs := l) (by simpa [Value.cells] using hf)
  exact ⟨d, vt, by rw [hr], ⟨vt, rfl, ht⟩, hin, h1, h2, h3⟩
end Go.Proofs.YtkpecagkpjabdabGreat
