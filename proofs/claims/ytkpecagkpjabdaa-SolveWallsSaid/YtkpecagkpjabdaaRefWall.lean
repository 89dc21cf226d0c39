/- The contract of the document's WallOf. Condition: numbers within 2^28. -/
import Derived.Test.YtkpecagkpjabdaaWall
import Derived.Test.YtkpecagkpjabdaaRefFix
namespace Go.Proofs.Ytkpecagkpjabdaa
open Go.RowKit
set_option linter.unusedVariables false
set_option maxHeartbeats 1000000 in
theorem wallOf_calls (at_ push half wide back : Int) (w : World) (h1 : Mid at_) (h2 : Mid push) (h3 : Mid half) (h4 : Mid wide) :
    Calls Try.prog 35 #[.int .i64 at_, .int .i64 push, .int .i64 half, .int .i64 wide, .int .i64 back] w fun e w' =>
      e = .returned (.tuple #[.int .i64 (M.wallA at_ half wide), .int .i64 (M.wallP at_ push half wide back)]) ∧ w = w' := by
  unfold Mid at *
  by_cases cp : push < 0
  · have EA : M.abs push = -push := by unfold M.abs; rw [if_pos cp]
    have bp := M.part_bd (-push) (M.within back 256) 256
    by_cases c0 : wide - half < half
    · have E : M.far half wide = half := by unfold M.far; split <;> omega
      unfold M.wallA M.wallP
      rw [E, EA]
      clear E
      by_cases c1 : at_ < half
      · rw [if_pos c1, if_pos c1]
        go_enter Try.func35, Try.ntmps35
        go_wp2_with (first | (go_at_call 16; refine (withinOf_calls _ _ _ (by omega) (by omega)).mono ?_; rintro e w' ⟨rfl, rfl⟩) | (go_at_call 20; refine (partOf_calls _ _ _ _).mono ?_; rintro e w' ⟨rfl, rfl⟩))
        go_ret2
        exact ⟨rfl, rfl⟩
      · rw [if_neg c1, if_neg c1]
        by_cases c2 : half < at_
        · rw [if_pos c2, if_pos c2]
          go_enter Try.func35, Try.ntmps35
          go_wp2_with (first | (go_at_call 16; refine (withinOf_calls _ _ _ (by omega) (by omega)).mono ?_; rintro e w' ⟨rfl, rfl⟩) | (go_at_call 20; refine (partOf_calls _ _ _ _).mono ?_; rintro e w' ⟨rfl, rfl⟩))
          go_ret2
          exact ⟨rfl, rfl⟩
        · rw [if_neg c2, if_neg c2]
          go_enter Try.func35, Try.ntmps35
          go_wp2_with (first | (go_at_call 16; refine (withinOf_calls _ _ _ (by omega) (by omega)).mono ?_; rintro e w' ⟨rfl, rfl⟩) | (go_at_call 20; refine (partOf_calls _ _ _ _).mono ?_; rintro e w' ⟨rfl, rfl⟩))
          go_ret2
          exact ⟨rfl, rfl⟩
    · have E : M.far half wide = wide - half := by unfold M.far; split <;> omega
      unfold M.wallA M.wallP
      rw [E, EA]
      clear E
      by_cases c1 : at_ < half
      · rw [if_pos c1, if_pos c1]
        go_enter Try.func35, Try.ntmps35
        go_wp2_with (first | (go_at_call 16; refine (withinOf_calls _ _ _ (by omega) (by omega)).mono ?_; rintro e w' ⟨rfl, rfl⟩) | (go_at_call 20; refine (partOf_calls _ _ _ _).mono ?_; rintro e w' ⟨rfl, rfl⟩))
        go_ret2
        exact ⟨rfl, rfl⟩
      · rw [if_neg c1, if_neg c1]
        by_cases c2 : wide - half < at_
        · rw [if_pos c2, if_pos c2]
          go_enter Try.func35, Try.ntmps35
          go_wp2_with (first | (go_at_call 16; refine (withinOf_calls _ _ _ (by omega) (by omega)).mono ?_; rintro e w' ⟨rfl, rfl⟩) | (go_at_call 20; refine (partOf_calls _ _ _ _).mono ?_; rintro e w' ⟨rfl, rfl⟩))
          go_ret2
          exact ⟨rfl, rfl⟩
        · rw [if_neg c2, if_neg c2]
          go_enter Try.func35, Try.ntmps35
          go_wp2_with (first | (go_at_call 16; refine (withinOf_calls _ _ _ (by omega) (by omega)).mono ?_; rintro e w' ⟨rfl, rfl⟩) | (go_at_call 20; refine (partOf_calls _ _ _ _).mono ?_; rintro e w' ⟨rfl, rfl⟩))
          go_ret2
          exact ⟨rfl, rfl⟩
  · have EA : M.abs push = push := by unfold M.abs; rw [if_neg cp]
    have bp := M.part_bd push (M.within back 256) 256
    by_cases c0 : wide - half < half
    · have E : M.far half wide = half := by unfold M.far; split <;> omega
      unfold M.wallA M.wallP
      rw [E, EA]
      clear E
      by_cases c1 : at_ < half
      · rw [if_pos c1, if_pos c1]
        go_enter Try.func35, Try.ntmps35
        go_wp2_with (first | (go_at_call 16; refine (withinOf_calls _ _ _ (by omega) (by omega)).mono ?_; rintro e w' ⟨rfl, rfl⟩) | (go_at_call 20; refine (partOf_calls _ _ _ _).mono ?_; rintro e w' ⟨rfl, rfl⟩))
        go_ret2
        exact ⟨rfl, rfl⟩
      · rw [if_neg c1, if_neg c1]
        by_cases c2 : half < at_
        · rw [if_pos c2, if_pos c2]
          go_enter Try.func35, Try.ntmps35
          go_wp2_with (first | (go_at_call 16; refine (withinOf_calls _ _ _ (by omega) (by omega)).mono ?_; rintro e w' ⟨rfl, rfl⟩) | (go_at_call 20; refine (partOf_calls _ _ _ _).mono ?_; rintro e w' ⟨rfl, rfl⟩))
          go_ret2
          exact ⟨rfl, rfl⟩
        · rw [if_neg c2, if_neg c2]
          go_enter Try.func35, Try.ntmps35
          go_wp2_with (first | (go_at_call 16; refine (withinOf_calls _ _ _ (by omega) (by omega)).mono ?_; rintro e w' ⟨rfl, rfl⟩) | (go_at_call 20; refine (partOf_calls _ _ _ _).mono ?_; rintro e w' ⟨rfl, rfl⟩))
          go_ret2
          exact ⟨rfl, rfl⟩
    · have E : M.far half wide = wide - half := by unfold M.far; split <;> omega
      unfold M.wallA M.wallP
      rw [E, EA]
      clear E
      by_cases c1 : at_ < half
      · rw [if_pos c1, if_pos c1]
        go_enter Try.func35, Try.ntmps35
        go_wp2_with (first | (go_at_call 16; refine (withinOf_calls _ _ _ (by omega) (by omega)).mono ?_; rintro e w' ⟨rfl, rfl⟩) | (go_at_call 20; refine (partOf_calls _ _ _ _).mono ?_; rintro e w' ⟨rfl, rfl⟩))
        go_ret2
        exact ⟨rfl, rfl⟩
      · rw [if_neg c1, if_neg c1]
        by_cases c2 : wide - half < at_
        · rw [if_pos c2, if_pos c2]
          go_enter Try.func35, Try.ntmps35
          go_wp2_with (first | (go_at_call 16; refine (withinOf_calls _ _ _ (by omega) (by omega)).mono ?_; rintro e w' ⟨rfl, rfl⟩) | (go_at_call 20; refine (partOf_calls _ _ _ _).mono ?_; rintro e w' ⟨rfl, rfl⟩))
          go_ret2
          exact ⟨rfl, rfl⟩
        · rw [if_neg c2, if_neg c2]
          go_enter Try.func35, Try.ntmps35
          go_wp2_with (first | (go_at_call 16; refine (withinOf_calls _ _ _ (by omega) (by omega)).mono ?_; rintro e w' ⟨rfl, rfl⟩) | (go_at_call 20; refine (partOf_calls _ _ _ _).mono ?_; rintro e w' ⟨rfl, rfl⟩))
          go_ret2
          exact ⟨rfl, rfl⟩
end Go.Proofs.Ytkpecagkpjabdaa
