/- The contract of solve.Wall. Condition: numbers within 2^28 . -/
import Derived.Test.YtkpecagkpjabdaaSolve
namespace Go.Proofs.Ytkpecagkpjabdaa
open Go.RowKit
set_option linter.unusedVariables false
namespace M
def far (half wide : Int) : Int := if wide - half < half then half else wide - half
def wallA (at_ half wide : Int) : Int := if at_ < half then half else if far half wide < at_ then far half wide else at_
def wallP (at_ push half wide back : Int) : Int :=
  if at_ < half then part (abs push) (within back 256) 256 else if far half wide < at_ then -part (abs push) (within back 256) 256 else push
end M

def Mid (n : Int) : Prop := -268435456 ≤ n ∧ n ≤ 268435456

theorem wall_calls (at_ push half wide back : Int) (w : World) (h1 : Mid at_) (h2 : Mid push) (h3 : Mid half) (h4 : Mid wide) :
    Calls Try.prog 34 #[.int .i64 at_, .int .i64 push, .int .i64 half, .int .i64 wide, .int .i64 back] w fun e w' =>
      e = .returned (.tuple #[.int .i64 (M.wallA at_ half wide), .int .i64 (M.wallP at_ push half wide back)]) ∧ w = w' := by
  unfold Mid at *
  have s1 : 0 ≤ M.abs push ∧ M.abs push ≤ 268435456 := by unfold M.abs; split <;> omega
  have bp := M.part_bd (M.abs push) (M.within back 256) 256
  by_cases c0 : wide - half ≤ half
  · have E : M.far half wide = half := by unfold M.far; split <;> omega
    unfold M.wallA M.wallP
    rw [E]
    clear E
    by_cases c1 : at_ < half
    · rw [if_pos c1, if_pos c1]
      go_enter Try.func34, Try.ntmps34
      go_wp2_with (first | (go_at_call 58; refine (abs_calls _ _ (by omega) (by omega)).mono ?_; rintro e w' ⟨rfl, rfl⟩) | (go_at_call 15; refine (within_calls _ _ _ (by omega) (by omega)).mono ?_; rintro e w' ⟨rfl, rfl⟩) | (go_at_call 19; refine (part_calls _ _ _ _).mono ?_; rintro e w' ⟨rfl, rfl⟩))
      go_ret2
      exact ⟨rfl, rfl⟩
    · rw [if_neg c1, if_neg c1]
      by_cases c2 : half < at_
      · rw [if_pos c2, if_pos c2]
        go_enter Try.func34, Try.ntmps34
        go_wp2_with (first | (go_at_call 58; refine (abs_calls _ _ (by omega) (by omega)).mono ?_; rintro e w' ⟨rfl, rfl⟩) | (go_at_call 15; refine (within_calls _ _ _ (by omega) (by omega)).mono ?_; rintro e w' ⟨rfl, rfl⟩) | (go_at_call 19; refine (part_calls _ _ _ _).mono ?_; rintro e w' ⟨rfl, rfl⟩))
        go_ret2
        exact ⟨rfl, rfl⟩
      · rw [if_neg c2, if_neg c2]
        go_enter Try.func34, Try.ntmps34
        go_wp2_with (first | (go_at_call 58; refine (abs_calls _ _ (by omega) (by omega)).mono ?_; rintro e w' ⟨rfl, rfl⟩) | (go_at_call 15; refine (within_calls _ _ _ (by omega) (by omega)).mono ?_; rintro e w' ⟨rfl, rfl⟩) | (go_at_call 19; refine (part_calls _ _ _ _).mono ?_; rintro e w' ⟨rfl, rfl⟩))
        go_ret2
        exact ⟨rfl, rfl⟩
  · have E : M.far half wide = wide - half := by unfold M.far; split <;> omega
    unfold M.wallA M.wallP
    rw [E]
    clear E
    by_cases c1 : at_ < half
    · rw [if_pos c1, if_pos c1]
      go_enter Try.func34, Try.ntmps34
      go_wp2_with (first | (go_at_call 58; refine (abs_calls _ _ (by omega) (by omega)).mono ?_; rintro e w' ⟨rfl, rfl⟩) | (go_at_call 15; refine (within_calls _ _ _ (by omega) (by omega)).mono ?_; rintro e w' ⟨rfl, rfl⟩) | (go_at_call 19; refine (part_calls _ _ _ _).mono ?_; rintro e w' ⟨rfl, rfl⟩))
      go_ret2
      exact ⟨rfl, rfl⟩
    · rw [if_neg c1, if_neg c1]
      by_cases c2 : wide - half < at_
      · rw [if_pos c2, if_pos c2]
        go_enter Try.func34, Try.ntmps34
        go_wp2_with (first | (go_at_call 58; refine (abs_calls _ _ (by omega) (by omega)).mono ?_; rintro e w' ⟨rfl, rfl⟩) | (go_at_call 15; refine (within_calls _ _ _ (by omega) (by omega)).mono ?_; rintro e w' ⟨rfl, rfl⟩) | (go_at_call 19; refine (part_calls _ _ _ _).mono ?_; rintro e w' ⟨rfl, rfl⟩))
        go_ret2
        exact ⟨rfl, rfl⟩
      · rw [if_neg c2, if_neg c2]
        go_enter Try.func34, Try.ntmps34
        go_wp2_with (first | (go_at_call 58; refine (abs_calls _ _ (by omega) (by omega)).mono ?_; rintro e w' ⟨rfl, rfl⟩) | (go_at_call 15; refine (within_calls _ _ _ (by omega) (by omega)).mono ?_; rintro e w' ⟨rfl, rfl⟩) | (go_at_call 19; refine (part_calls _ _ _ _).mono ?_; rintro e w' ⟨rfl, rfl⟩))
        go_ret2
        exact ⟨rfl, rfl⟩
end Go.Proofs.Ytkpecagkpjabdaa
