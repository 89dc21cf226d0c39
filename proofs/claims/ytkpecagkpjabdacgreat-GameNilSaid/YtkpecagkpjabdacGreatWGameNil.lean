/- The walk of GameNil: a game that is nil. No condition. -/
import Derived.Test.YtkpecagkpjabdacGreatGameNo
import Derived.Test.YtkpecagkpjabdacGreatKit
import Derived.Test.YtkpecagkpjabdacGreatRowCells
import Derived.Deep.DeepCutAuto
import Derived.Deep.RegionHeld3
namespace Go.Proofs.YtkpecagkpjabdacGreat
open Go.RowKit
set_option linter.unusedVariables false
set_option linter.unusedSimpArgs false
set_option maxRecDepth 100000

theorem mem_lt {w : World} {b o : Nat} {v : Value} (h : w.cell? ⟨b, o, none⟩ = some v) : b < w.heap.size := by
  rcases Nat.lt_or_ge b w.heap.size with h1 | h1
  · exact h1
  · unfold World.cell? at h
    have : w.heap[b]? = none := Array.getElem?_eq_none (by omega)
    simp [this] at h
theorem mem_below {w w' : World} {b o : Nat} {v : Value} (h : w.cell? ⟨b, o, none⟩ = some v) (hb : Below w.heap.size w w') : w'.cell? ⟨b, o, none⟩ = some v :=
  (hb.cell (p := ⟨b, o, none⟩) (mem_lt h)).trans h
def NoBoxes (a : M.Act) (w W : World) : Prop := W.cell? ⟨w.heap.size, 0, none⟩ = some (.int .i64 a.kind) ∧ W.cell? ⟨w.heap.size, 1, none⟩ = some (.int .i64 a.id) ∧ W.cell? ⟨w.heap.size, 2, none⟩ = some (.int .i64 a.n) ∧ W.cell? ⟨w.heap.size, 3, none⟩ = some (.int .i64 a.mask) ∧ W.cell? ⟨w.heap.size, 4, none⟩ = some (.int .i64 a.row.X) ∧ W.cell? ⟨w.heap.size, 5, none⟩ = some (.int .i64 a.row.Y) ∧ W.cell? ⟨w.heap.size, 6, none⟩ = some (.int .i64 a.row.PX) ∧ W.cell? ⟨w.heap.size, 7, none⟩ = some (.int .i64 a.row.PY) ∧ W.cell? ⟨w.heap.size, 8, none⟩ = some (.int .i64 a.row.W) ∧ W.cell? ⟨w.heap.size, 9, none⟩ = some (.int .i64 a.row.H) ∧ W.cell? ⟨w.heap.size, 10, none⟩ = some (.int .i64 a.row.M) ∧ W.cell? ⟨w.heap.size, 11, none⟩ = some (.int .i64 a.row.R) ∧ W.cell? ⟨w.heap.size, 12, none⟩ = some (.int .i64 a.box.id) ∧ W.cell? ⟨w.heap.size, 13, none⟩ = some (.int .i64 a.box.x1) ∧ W.cell? ⟨w.heap.size, 14, none⟩ = some (.int .i64 a.box.y1) ∧ W.cell? ⟨w.heap.size, 15, none⟩ = some (.int .i64 a.box.x2) ∧ W.cell? ⟨w.heap.size, 16, none⟩ = some (.int .i64 a.box.y2) ∧ W.cell? ⟨w.heap.size + 1 + 1, 0, none⟩ = some (.slice none 0 0) ∧ W.cell? ⟨w.heap.size + 1 + 1, 1, none⟩ = some (.int .i64 0) ∧ W.cell? ⟨w.heap.size + 1 + 1, 2, none⟩ = some (.int .i64 0) ∧ W.cell? ⟨w.heap.size + 1 + 1, 3, none⟩ = some (.int .i64 0) ∧ W.cell? ⟨w.heap.size + 1 + 1, 4, none⟩ = some (.int .i64 0)
theorem NoBoxes.below {a : M.Act} {w W W' : World} (h : NoBoxes a w W) (hb : Below W.heap.size W W') : NoBoxes a w W' := by
  obtain ⟨y0, y1, y2, y3, y4, y5, y6, y7, y8, y9, y10, y11, y12, y13, y14, y15, y16, y17, y18, y19, y20, y21⟩ := h
  exact ⟨mem_below y0 hb, mem_below y1 hb, mem_below y2 hb, mem_below y3 hb, mem_below y4 hb, mem_below y5 hb, mem_below y6 hb, mem_below y7 hb, mem_below y8 hb, mem_below y9 hb, mem_below y10 hb, mem_below y11 hb, mem_below y12 hb, mem_below y13 hb, mem_below y14 hb, mem_below y15 hb, mem_below y16 hb, mem_below y17 hb, mem_below y18 hb, mem_below y19 hb, mem_below y20 hb, mem_below y21 hb⟩

set_option maxHeartbeats 4000000 in
theorem gameNil_walk (a : M.Act) (w : World) {v : Value} (h : v = actV a ∧ ActIn a) :
    Calls Tryz.prog 3 #[v] w fun e w' => e = .returned (.bool true) ∧ Below w.heap.size w w' := by
  obtain ⟨rfl, _⟩ := h
  go_enter Tryz.func3, Tryz.ntmps3
  go_upto_region 3 with (go_at_call 13; refine (nilWorld_calls _).mono ?_; rintro e w1 ⟨rfl, rfl⟩)
  have hwq : ∃ wq, wq = ((w.alloc (.cells (actC a) 27)).alloc (.cells #[.slice none 0 0, .int .i64 0, .int .i64 0, .int .i64 0, .int .i64 0] 33)).alloc (.cells #[.slice none 0 0, .int .i64 0, .int .i64 0, .int .i64 0, .int .i64 0] 33) := ⟨_, rfl⟩
  obtain ⟨wq, hwq⟩ := hwq
  rw [← hwq]
  have T : NoBoxes a w wq := by
    have b0 : Blk wq w.heap.size 27 (actC a) := by rw [hwq]; exact ((Blk.new w 27 (actC a)).alloc _).alloc _
    have b1 : Blk wq (w.heap.size + 1 + 1) 33 #[.slice none 0 0, .int .i64 0, .int .i64 0, .int .i64 0, .int .i64 0] := by
      rw [hwq]
      have h := Blk.new ((w.alloc (.cells (actC a) 27)).alloc (.cells #[.slice none 0 0, .int .i64 0, .int .i64 0, .int .i64 0, .int .i64 0] 33)) 33 #[.slice none 0 0, .int .i64 0, .int .i64 0, .int .i64 0, .int .i64 0]
      simpa using h
    exact ⟨b0.cell 0, b0.cell 1, b0.cell 2, b0.cell 3, b0.cell 4, b0.cell 5, b0.cell 6, b0.cell 7, b0.cell 8, b0.cell 9, b0.cell 10, b0.cell 11, b0.cell 12, b0.cell 13, b0.cell 14, b0.cell 15, b0.cell 16, b1.cell 0, b1.cell 1, b1.cell 2, b1.cell 3, b1.cell 4⟩
  have KQ : Below w.heap.size w wq := by rw [hwq]; exact (by repeat first | with_reducible assumption | with_reducible exact Below.refl _ _ | with_reducible apply Below.drew | with_reducible apply below_drewN | with_reducible apply Below.alloc (hB := (by first | omega | (simp; done) | (simp; omega))) | with_reducible apply Below.setCell (hp := (by first | omega | (simp; done) | (simp; omega))))
  have kq1 := KQ.size
  clear hwq
  have T0 := T
  obtain ⟨y0, y1, y2, y3, y4, y5, y6, y7, y8, y9, y10, y11, y12, y13, y14, y15, y16, y17, y18, y19, y20, y21⟩ := T0
  go_wp2_with (first | (go_at_call 15; go_loud (refine (nilDo_calls a _).mono ?_); rintro e w5 ⟨rfl, hb5⟩; have hz5 := hb5.size; have T5 := T.below hb5; have T05 := T5; obtain ⟨z0, z1, z2, z3, z4, z5, z6, z7, z8, z9, z10, z11, z12, z13, z14, z15, z16, z17, z18, z19, z20, z21⟩ := T05) | (go_at_call 14; go_loud (refine (nilReply_calls _ _).mono ?_); rintro e w6 ⟨rfl, hb6⟩; have hz6 := hb6.size; go_loud (obtain ⟨x0, x1, x2, x3, x4, x5, x6, x7, x8, x9, x10, x11, x12, x13, x14, x15, x16, x17, x18, x19, x20, x21⟩ := T5.below hb6)))
  go_ret
  exact ⟨rfl, KQ.trans ((hb5.trans (hb6.mono hz5)).mono kq1)⟩
end Go.Proofs.YtkpecagkpjabdacGreat
