/- A game that is nil: what World and Do answer, and that a reply is the same as itself. No condition. -/
import Derived.Test.YtkpecagkpjabdacGreatOpenAct
import Derived.Test.YtkpecagkpjabdacGreatMem
import Derived.Laws.Rows
namespace Go.Proofs.YtkpecagkpjabdacGreat
open Go.RowKit
set_option linter.unusedVariables false
set_option linter.unusedSimpArgs false
set_option maxRecDepth 100000

set_option maxHeartbeats 4000000 in
theorem nilWorld_calls (w : World) :
    Calls Tryz.prog 13 #[.pointer none] w fun e w' => e = .returned (.agg #[.slice none 0 0, .int .i64 0, .int .i64 0, .int .i64 0, .int .i64 0]) ∧ w' = w.alloc (.cells #[.slice none 0 0, .int .i64 0, .int .i64 0, .int .i64 0, .int .i64 0] 33) := by
  go_enter Tryz.func13, Tryz.ntmps13
  go_wp2
  refine bodyPost_ret (results_cell_row rfl _ _ _ _ _ _ _ rfl (heap_alloc_new w _) Tryz.underlying33 rfl (by kernel_rfl)) rfl ⟨rfl, rfl⟩
set_option maxHeartbeats 4000000 in
theorem no_calls (e : Int) (w : World) :
    Calls Tryz.prog 32 #[.int .i64 e] w fun r w' => r = .returned (.agg #[.int .i64 e, .int .i64 0, .slice none 0 0, .slice none 0 0]) ∧ w' = w.alloc (.cells #[.int .i64 e, .int .i64 0, .slice none 0 0, .slice none 0 0] 40) := by
  go_enter Tryz.func32, Tryz.ntmps32
  go_wp2
  refine bodyPost_ret (results_cell_row rfl _ _ _ _ _ _ _ rfl (heap_alloc_new w _) Tryz.underlying40 rfl (by kernel_rfl)) rfl ⟨rfl, rfl⟩
set_option maxHeartbeats 4000000 in
theorem nilDo_calls (a : M.Act) (w : World) :
    Calls Tryz.prog 15 #[.pointer none, actV a] w fun e w' => e = .returned (.agg #[.int .i64 3, .int .i64 0, .slice none 0 0, .slice none 0 0]) ∧ Below w.heap.size w w' := by
  go_enter Tryz.func15, Tryz.ntmps15
  go_wp2_with (go_at_call 32; refine (no_calls _ _).mono ?_; rintro e w1 ⟨rfl, rfl⟩)
  refine bodyPost_ret (results_cell_row rfl _ _ _ _ _ _ _ rfl ((heap_alloc_old _ _ (by simp)).trans (heap_alloc2_new w _ _)) Tryz.underlying40 rfl (by kernel_rfl)) rfl ⟨rfl, (by repeat first | with_reducible assumption | with_reducible exact Below.refl _ _ | with_reducible apply Below.drew | with_reducible apply below_drewN | with_reducible apply Below.alloc (hB := (by first | omega | (simp; done) | (simp; omega))) | with_reducible apply Below.setCell (hp := (by first | omega | (simp; done) | (simp; omega))))⟩
set_option maxHeartbeats 4000000 in
theorem nilReply_calls (e : Int) (w : World) :
    Calls Tryz.prog 14 #[.agg #[.int .i64 e, .int .i64 0, .slice none 0 0, .slice none 0 0], .agg #[.int .i64 e, .int .i64 0, .slice none 0 0, .slice none 0 0]] w fun r w' => r = .returned (.bool true) ∧ Below w.heap.size w w' := by
  go_enter Tryz.func14, Tryz.ntmps14
  go_wp2
  refine wp_loop_once ?_
  go_wp2
  refine wp_loop_once ?_
  go_wp2
  go_ret
  exact ⟨rfl, (by repeat first | with_reducible assumption | with_reducible exact Below.refl _ _ | with_reducible apply Below.drew | with_reducible apply below_drewN | with_reducible apply Below.alloc (hB := (by first | omega | (simp; done) | (simp; omega))) | with_reducible apply Below.setCell (hp := (by first | omega | (simp; done) | (simp; omega))))⟩
end Go.Proofs.YtkpecagkpjabdacGreat
