/- The helpers of the statements about package solve: calm, solves. Condition: numbers of 64 bits. -/
import Derived.Test.YtkpecagkpjabdaaMeetMove
namespace Go.Proofs.Ytkpecagkpjabdaa
open Go.RowKit
set_option linter.unusedVariables false
namespace M
/-- far from the bounds of places and pushes -/
def calm (r : Row) : Bool := decide ((-524288 ≤ r.X ∧ r.X ≤ 524288) ∧ (-524288 ≤ r.Y ∧ r.Y ≤ 524288) ∧ (-16384 ≤ r.PX ∧ r.PX ≤ 16384) ∧ (-16384 ≤ r.PY ∧ r.PY ≤ 16384))
theorem calm_eq (r : Row) : calm r = ((within r.X 524288 == r.X) && ((within r.Y 524288 == r.Y) && ((within r.PX 16384 == r.PX) && (within r.PY 16384 == r.PY)))) := by
  rw [Bool.eq_iff_iff]
  simp only [calm, decide_eq_true_eq, Bool.and_eq_true, beq_iff_eq, eq_comm (a := within _ _), eq_within _ _ (show (0 : Int) ≤ 524288 by omega), eq_within _ _ (show (0 : Int) ≤ 16384 by omega)]
end M

theorem calm_calls (r : M.Row) (w : World) :
    Calls Try.prog 31 #[rowV r] w fun e w' => e = .returned (.bool (M.calm r)) ∧ Below w.heap.size w w' := by
  rw [M.calm_eq]
  by_cases c1 : M.within r.X 524288 = r.X
  · have e1 : (M.within r.X 524288 == r.X) = true := by simp [c1]
    clear c1
    by_cases c2 : M.within r.Y 524288 = r.Y
    · have e2 : (M.within r.Y 524288 == r.Y) = true := by simp [c2]
      clear c2
      by_cases c3 : M.within r.PX 16384 = r.PX
      · have e3 : (M.within r.PX 16384 == r.PX) = true := by simp [c3]
        clear c3
        by_cases c4 : M.within r.PY 16384 = r.PY
        · have e4 : (M.within r.PY 16384 == r.PY) = true := by simp [c4]
          clear c4
          go_enter Try.func31, Try.ntmps31
          go_wp2_with fail
          go_quiet ((go_at_call 15; exact quiet_left (within_calls _ _ _ (by omega) (by omega))))
          go_wp2
          go_ret
          exact ⟨by simp [*], below_drewN ((Below.refl _ _).alloc (Nat.le_refl _) _) _⟩
        · have e4 : (M.within r.PY 16384 == r.PY) = false := by simp [c4]
          clear c4
          go_enter Try.func31, Try.ntmps31
          go_wp2_with fail
          go_quiet ((go_at_call 15; exact quiet_left (within_calls _ _ _ (by omega) (by omega))))
          go_wp2
          go_ret
          exact ⟨by simp [*], below_drewN ((Below.refl _ _).alloc (Nat.le_refl _) _) _⟩
      · have e3 : (M.within r.PX 16384 == r.PX) = false := by simp [c3]
        clear c3
        go_enter Try.func31, Try.ntmps31
        go_wp2_with fail
        go_quiet ((go_at_call 15; exact quiet_left (within_calls _ _ _ (by omega) (by omega))))
        go_wp2
        go_ret
        exact ⟨by simp [*], below_drewN ((Below.refl _ _).alloc (Nat.le_refl _) _) _⟩
    · have e2 : (M.within r.Y 524288 == r.Y) = false := by simp [c2]
      clear c2
      go_enter Try.func31, Try.ntmps31
      go_wp2_with fail
      go_quiet ((go_at_call 15; exact quiet_left (within_calls _ _ _ (by omega) (by omega))))
      go_wp2
      go_ret
      exact ⟨by simp [*], below_drewN ((Below.refl _ _).alloc (Nat.le_refl _) _) _⟩
  · have e1 : (M.within r.X 524288 == r.X) = false := by simp [c1]
    clear c1
    go_enter Try.func31, Try.ntmps31
    go_wp2_with fail
    go_quiet ((go_at_call 15; exact quiet_left (within_calls _ _ _ (by omega) (by omega))))
    go_wp2
    go_ret
    exact ⟨by simp [*], below_drewN ((Below.refl _ _).alloc (Nat.le_refl _) _) _⟩

theorem keepSolves_calls (w : World) : Calls Try.prog 32 #[] w fun e w' => e = .returned (.bool true) ∧ Below w.heap.size w w' := by
  have hm := fun W => meet_calls ⟨0, 0, 90, 0, 10, 10, 1, 256⟩ ⟨15, 0, 0, 0, 10, 10, 1, 256⟩ W (by unfold RowOk I64; decide) (by unfold RowOk I64; decide)
  have E1 : M.meets ⟨0, 0, 90, 0, 10, 10, 1, 256⟩ ⟨15, 0, 0, 0, 10, 10, 1, 256⟩ = true := by decide +kernel
  have E2 : M.meet ⟨0, 0, 90, 0, 10, 10, 1, 256⟩ ⟨15, 0, 0, 0, 10, 10, 1, 256⟩ = (⟨-2, 0, 0, 0, 10, 10, 1, 256⟩, ⟨18, 0, 90, 0, 10, 10, 1, 256⟩) := by decide +kernel
  rw [E1, E2] at hm
  have HM := Lib.hid hm
  clear hm E1 E2
  go_enter Try.func32, Try.ntmps32
  go_wp2_with (go_at_call 24; refine (HM.out _).mono ?_; rintro e w1 ⟨rfl, hb1⟩; obtain ⟨hc1, hf1⟩ := bcell hb1; have hz1 := hb1.size)
  go_ret
  exact ⟨rfl, (hb1.alloc hz1 _).alloc (by simp; omega) _⟩
end Go.Proofs.Ytkpecagkpjabdaa
