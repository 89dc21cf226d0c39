/- The contract of solve.Wall. Condition: numbers within 2^28 . -/
import Derived.Test.YtkpecagkpjabdabGreatSolve
import Derived.Test.YtkpecagkpjabdabGreatBagP
namespace Go.Proofs.YtkpecagkpjabdabGreat
open Go.RowKit
set_option linter.unusedVariables false
set_option linter.unusedSimpArgs false
set_option maxRecDepth 100000

def Mid (n : Int) : Prop := -268435456 ≤ n ∧ n ≤ 268435456

theorem wall_calls (at_ push half wide back : Int) (w : World) (h1 : Mid at_) (h2 : Mid push) (h3 : Mid half) (h4 : Mid wide) :
    Calls Tryz.prog 55 #[.int .i64 at_, .int .i64 push, .int .i64 half, .int .i64 wide, .int .i64 back] w fun e w' =>
      e = .returned (.tuple #[.int .i64 (M.wallA at_ half wide), .int .i64 (M.wallP at_ push half wide back)]) ∧ w = w' := by
  unfold Mid at *
  have s1 : 0 ≤ M.abs push ∧ M.abs push ≤ 268435456 := by unfold M.abs; split <;> omega
  have bp := M.part_bd (M.abs push) (M.within back 256) 256
  by_cases c0 : wide - half ≤ half
  · have E : M.far half wide = half := by unfold M.far; split <;> omega
    unfold M.wallA M.wallP
    rw [E]
    clear E
    by_cases c1 : at_ < half
    · rw [if_pos c1, if_pos c1]
      go_enter Tryz.func55, Tryz.ntmps55
      go_wp2_with (first | (go_at_call 99; refine (abs_calls _ _ (by omega) (by omega)).mono ?_; rintro e w' ⟨rfl, rfl⟩) | (go_at_call 70; refine (within_calls _ _ _ (by omega) (by omega)).mono ?_; rintro e w' ⟨rfl, rfl⟩) | (go_at_call 85; refine (part_calls _ _ _ _).mono ?_; rintro e w' ⟨rfl, rfl⟩))
      go_ret2
      exact ⟨rfl, rfl⟩
    · rw [if_neg c1, if_neg c1]
      by_cases c2 : half < at_
      · rw [if_pos c2, if_pos c2]
        go_enter Tryz.func55, Tryz.ntmps55
        go_wp2_with (first | (go_at_call 99; refine (abs_calls _ _ (by omega) (by omega)).mono ?_; rintro e w' ⟨rfl, rfl⟩) | (go_at_call 70; refine (within_calls _ _ _ (by omega) (by omega)).mono ?_; rintro e w' ⟨rfl, rfl⟩) | (go_at_call 85; refine (part_calls _ _ _ _).mono ?_; rintro e w' ⟨rfl, rfl⟩))
        go_ret2
        exact ⟨rfl, rfl⟩
      · rw [if_neg c2, if_neg c2]
        go_enter Tryz.func55, Tryz.ntmps55
        go_wp2_with (first | (go_at_call 99; refine (abs_calls _ _ (by omega) (by omega)).mono ?_; rintro e w' ⟨rfl, rfl⟩) | (go_at_call 70; refine (within_calls _ _ _ (by omega) (by omega)).mono ?_; rintro e w' ⟨rfl, rfl⟩) | (go_at_call 85; refine (part_calls _ _ _ _).mono ?_; rintro e w' ⟨rfl, rfl⟩))
        go_ret2
        exact ⟨rfl, rfl⟩
  · have E : M.far half wide = wide - half := by unfold M.far; split <;> omega
    unfold M.wallA M.wallP
    rw [E]
    clear E
    by_cases c1 : at_ < half
    · rw [if_pos c1, if_pos c1]
      go_enter Tryz.func55, Tryz.ntmps55
      go_wp2_with (first | (go_at_call 99; refine (abs_calls _ _ (by omega) (by omega)).mono ?_; rintro e w' ⟨rfl, rfl⟩) | (go_at_call 70; refine (within_calls _ _ _ (by omega) (by omega)).mono ?_; rintro e w' ⟨rfl, rfl⟩) | (go_at_call 85; refine (part_calls _ _ _ _).mono ?_; rintro e w' ⟨rfl, rfl⟩))
      go_ret2
      exact ⟨rfl, rfl⟩
    · rw [if_neg c1, if_neg c1]
      by_cases c2 : wide - half < at_
      · rw [if_pos c2, if_pos c2]
        go_enter Tryz.func55, Tryz.ntmps55
        go_wp2_with (first | (go_at_call 99; refine (abs_calls _ _ (by omega) (by omega)).mono ?_; rintro e w' ⟨rfl, rfl⟩) | (go_at_call 70; refine (within_calls _ _ _ (by omega) (by omega)).mono ?_; rintro e w' ⟨rfl, rfl⟩) | (go_at_call 85; refine (part_calls _ _ _ _).mono ?_; rintro e w' ⟨rfl, rfl⟩))
        go_ret2
        exact ⟨rfl, rfl⟩
      · rw [if_neg c2, if_neg c2]
        go_enter Tryz.func55, Tryz.ntmps55
        go_wp2_with (first | (go_at_call 99; refine (abs_calls _ _ (by omega) (by omega)).mono ?_; rintro e w' ⟨rfl, rfl⟩) | (go_at_call 70; refine (within_calls _ _ _ (by omega) (by omega)).mono ?_; rintro e w' ⟨rfl, rfl⟩) | (go_at_call 85; refine (part_calls _ _ _ _).mono ?_; rintro e w' ⟨rfl, rfl⟩))
        go_ret2
        exact ⟨rfl, rfl⟩
end Go.Proofs.YtkpecagkpjabdabGreat
