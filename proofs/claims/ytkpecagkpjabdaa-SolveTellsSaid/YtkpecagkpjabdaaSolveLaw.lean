/- The helper solves of the statements of package ninepinslaw. No condition. -/
import Derived.Test.YtkpecagkpjabdaaMeetMove
namespace Go.Proofs.Ytkpecagkpjabdaa
open Go.RowKit
set_option linter.unusedVariables false
set_option linter.unusedSimpArgs false
set_option maxRecDepth 100000
theorem lawSolves_calls (w : World) : Calls Try.prog 28 #[] w fun e w' => e = .returned (.bool true) ∧ Below w.heap.size w w' := by
  have hm := fun W => meet_calls ⟨0, 0, 90, 0, 10, 10, 1, 256⟩ ⟨15, 0, 0, 0, 10, 10, 1, 256⟩ W (by unfold RowOk I64; decide) (by unfold RowOk I64; decide)
  have E1 : M.meets ⟨0, 0, 90, 0, 10, 10, 1, 256⟩ ⟨15, 0, 0, 0, 10, 10, 1, 256⟩ = true := by decide +kernel
  have E2 : M.meet ⟨0, 0, 90, 0, 10, 10, 1, 256⟩ ⟨15, 0, 0, 0, 10, 10, 1, 256⟩ = (⟨-2, 0, 0, 0, 10, 10, 1, 256⟩, ⟨18, 0, 90, 0, 10, 10, 1, 256⟩) := by decide +kernel
  rw [E1, E2] at hm
  have HM := Lib.hid hm
  clear hm E1 E2
  go_enter Try.func28, Try.ntmps28
  go_wp2_with (go_at_call 24; refine (HM.out _).mono ?_; rintro e w1 ⟨rfl, hb1⟩; obtain ⟨hc1, hf1⟩ := bcell hb1; have hz1 := hb1.size)
  go_ret
  exact ⟨rfl, (hb1.alloc hz1 _).alloc (by simp; omega) _⟩
end Go.Proofs.Ytkpecagkpjabdaa
