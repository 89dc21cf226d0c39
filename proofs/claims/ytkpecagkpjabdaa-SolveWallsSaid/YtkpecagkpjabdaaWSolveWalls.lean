/- The walk of the law SolveWalls: it returns true, for all numbers of 64 bits. -/
import Derived.Test.YtkpecagkpjabdaaSolveLaw
import Derived.Test.YtkpecagkpjabdaaRefWall
namespace Go.Proofs.Ytkpecagkpjabdaa
open Go.RowKit
set_option linter.unusedVariables false
set_option maxHeartbeats 1000000 in
theorem solveWalls_walk (at_ push half wide back : Int) (w : World) (h1 : I64 at_) (h2 : I64 push) (h3 : I64 half) (h4 : I64 wide) (h5 : I64 back) :
    Calls Try.prog 10 #[.int .i64 at_, .int .i64 push, .int .i64 half, .int .i64 wide, .int .i64 back] w fun e w' => e = .returned (.bool true) ∧ Below w.heap.size w w' := by
  have m1 : Mid (M.within at_ 268435456) := M.within_bd _ _ (by omega)
  have m2 : Mid (M.within push 268435456) := M.within_bd _ _ (by omega)
  have m3 : Mid (M.within half 268435456) := M.within_bd _ _ (by omega)
  have m4 : Mid (M.within wide 268435456) := M.within_bd _ _ (by omega)
  have W1 := Lib.hid (fun W => wall_calls _ _ _ _ (M.within back 268435456) W m1 m2 m3 m4)
  have W2 := Lib.hid (fun W => wallOf_calls _ _ _ _ (M.within back 268435456) W m1 m2 m3 m4)
  clear m1 m2 m3 m4
  go_enter Try.func10, Try.ntmps10
  go_wp2_with (first | (go_at_call 16; refine (withinOf_calls _ _ _ (by omega) (by omega)).mono ?_; rintro e w' ⟨rfl, rfl⟩) | (go_at_call 34; refine (W1.out _).mono ?_; rintro e w' ⟨rfl, rfl⟩) | (go_at_call 35; refine (W2.out _).mono ?_; rintro e w' ⟨rfl, rfl⟩) | (go_at_call 28; refine (lawSolves_calls _).mono ?_; rintro e w9 ⟨rfl, hb9⟩))
  go_ret
  exact ⟨rfl, hb9⟩
end Go.Proofs.Ytkpecagkpjabdaa
