/- The helpers of the statements about package solve: calm, solves. Condition: numbers of 64 bits. -/
import Derived.Test.YtkpecagkpjabdabGreatMeetMove
namespace Go.Proofs.YtkpecagkpjabdabGreat
open Go.RowKit
set_option linter.unusedVariables false
set_option linter.unusedSimpArgs false
set_option maxRecDepth 100000
namespace M
/-- far from the bounds of places and pushes -/
def calm (r : Row) : Bool := decide ((-524288 ≤ r.X ∧ r.X ≤ 524288) ∧ (-524288 ≤ r.Y ∧ r.Y ≤ 524288) ∧ (-16384 ≤ r.PX ∧ r.PX ≤ 16384) ∧ (-16384 ≤ r.PY ∧ r.PY ≤ 16384))
theorem calm_eq (r : Row) : calm r = ((within r.X 524288 == r.X) && ((within r.Y 524288 == r.Y) && ((within r.PX 16384 == r.PX) && (within r.PY 16384 == r.PY)))) := by
  rw [Bool.eq_iff_iff]
  simp only [calm, decide_eq_true_eq, Bool.and_eq_true, beq_iff_eq, eq_comm (a := within _ _), eq_within _ _ (show (0 : Int) ≤ 524288 by omega), eq_within _ _ (show (0 : Int) ≤ 16384 by omega)]
end M

theorem calm_calls (r : M.Row) (w : World) :
    Calls Tryz.prog 33 #[rowV r] w fun e w' => e = .returned (.bool (M.calm r)) ∧ Below w.heap.size w w' := by
  rw [M.calm_eq]
  by_cases c1 : M.within r.X 524288 = r.X
  · have e1 : (M.within r.X 524288 == r.X) = true := by simp [c1]
    clear c1
    by_cases c2 : M.within r.Y 524288 = r.Y
    · have e2 : (M.within r.Y 524288 == r.Y) = true := by simp [c2]
      clear c2
      by_cases c3 : M.within r.PX 16384 = r.PX
      · have e3 : (M.within r.PX 16384 == r.PX) = true := by simp [c3]
        clear c3
        by_cases c4 : M.within r.PY 16384 = r.PY
        · have e4 : (M.within r.PY 16384 == r.PY) = true := by simp [c4]
          clear c4
          go_enter Tryz.func33, Tryz.ntmps33
          go_wp2_with fail
          go_quiet ((go_at_call 70; exact quiet_left (within_calls _ _ _ (by omega) (by omega))))
          go_wp2
          go_ret
          exact ⟨by simp [*], below_drewN ((Below.refl _ _).alloc (Nat.le_refl _) _) _⟩
        · have e4 : (M.within r.PY 16384 == r.PY) = false := by simp [c4]
          clear c4
          go_enter Tryz.func33, Tryz.ntmps33
          go_wp2_with fail
          go_quiet ((go_at_call 70; exact quiet_left (within_calls _ _ _ (by omega) (by omega))))
          go_wp2
          go_ret
          exact ⟨by simp [*], below_drewN ((Below.refl _ _).alloc (Nat.le_refl _) _) _⟩
      · have e3 : (M.within r.PX 16384 == r.PX) = false := by simp [c3]
        clear c3
        go_enter Tryz.func33, Tryz.ntmps33
        go_wp2_with fail
        go_quiet ((go_at_call 70; exact quiet_left (within_calls _ _ _ (by omega) (by omega))))
        go_wp2
        go_ret
        exact ⟨by simp [*], below_drewN ((Below.refl _ _).alloc (Nat.le_refl _) _) _⟩
    · have e2 : (M.within r.Y 524288 == r.Y) = false := by simp [c2]
      clear c2
      go_enter Tryz.func33, Tryz.ntmps33
      go_wp2_with fail
      go_quiet ((go_at_call 70; exact quiet_left (within_calls _ _ _ (by omega) (by omega))))
      go_wp2
      go_ret
      exact ⟨by simp [*], below_drewN ((Below.refl _ _).alloc (Nat.le_refl _) _) _⟩
  · have e1 : (M.within r.X 524288 == r.X) = false := by simp [c1]
    clear c1
    go_enter Tryz.func33, Tryz.ntmps33
    go_wp2_with fail
    go_quiet ((go_at_call 70; exact quiet_left (within_calls _ _ _ (by omega) (by omega))))
    go_wp2
    go_ret
    exact ⟨by simp [*], below_drewN ((Below.refl _ _).alloc (Nat.le_refl _) _) _⟩

end Go.Proofs.YtkpecagkpjabdabGreat
