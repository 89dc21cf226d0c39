/- The contract of the closure that SolveTurned turns a row with. Condition: numbers of 64 bits above the least. -/
import Derived.Test.YtkpecagkpjabdaaMem
import Derived.Test.YtkpecagkpjabdaaLawTurned
import Derived.RegionTactic
import Derived.BigRegion
import Derived.ChangeAlike
namespace Go.Proofs.Ytkpecagkpjabdaa
open Go.RowKit
set_option linter.unusedVariables false
set_option maxHeartbeats 1000000 in
theorem turn_calls (r : M.Row) (w : World) (h1 : -16777216 ≤ r.X ∧ r.X ≤ 16777216) (h2 : -16777216 ≤ r.Y ∧ r.Y ≤ 16777216) (h3 : -16777216 ≤ r.PX ∧ r.PX ≤ 16777216) (h4 : -16777216 ≤ r.PY ∧ r.PY ≤ 16777216) :
    Calls Try.prog 33 #[rowV r] w fun e w' => e = .returned (rowV (M.turn r)) ∧ Below w.heap.size w w' := by
  go_enter Try.func33, Try.ntmps33
  go_wp2_with fail
  refine bodyPost_ret (v := .agg #[.int .i64 (-r.X), .int .i64 (-r.Y), .int .i64 (-r.PX), .int .i64 (-r.PY), .int .i64 r.W, .int .i64 r.H, .int .i64 r.M, .int .i64 r.R]) ?_ rfl ⟨rfl, ?_⟩
  · simp only [results, Try.results33]
    go_simp
  · exact ((Below.refl _ w).alloc (Nat.le_refl _) _).alloc (by simp) _
end Go.Proofs.Ytkpecagkpjabdaa
