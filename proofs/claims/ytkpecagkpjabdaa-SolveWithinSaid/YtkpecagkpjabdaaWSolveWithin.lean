/- The walk of the law SolveWithin: it returns true, for all numbers of 64 bits. -/
import Derived.Test.YtkpecagkpjabdaaBase
import Derived.Test.YtkpecagkpjabdaaSolveKeep
import Derived.Test.YtkpecagkpjabdaaWall
import Derived.Test.YtkpecagkpjabdaaPick
import Derived.Test.YtkpecagkpjabdaaLawSums
namespace Go.Proofs.Ytkpecagkpjabdaa
open Go.RowKit
set_option linter.unusedVariables false
theorem M.wall_push (push b : Int) (h : -16777216 ≤ push ∧ push ≤ 16777216) (hb : -256 ≤ b ∧ b ≤ 256) : -M.abs push ≤ M.part (M.abs push) b 256 ∧ M.part (M.abs push) b 256 ≤ M.abs push := by
  have s : 0 ≤ M.abs push ∧ M.abs push ≤ 16777216 := by unfold M.abs; split <;> omega
  have hm := M.mul_bd (M.abs push) b (M.abs push) 256 (by omega) (by omega) (by omega) (by omega)
  unfold M.part
  rw [M.within_id (M.abs push) _ (by omega) (by omega), M.within_id b _ (by omega) (by omega), M.within_id 256 _ (by omega) (by omega), if_neg (by omega)]
  exact M.tdiv_le _ _ (M.abs push) 256 (by omega) (by omega) (by omega) (by omega) (by omega)

/-- Wall, with what it answers written out -/
theorem wall_is (at_ push half wide back A P : Int) (w : World) (h1 : Mid at_) (h2 : Mid push) (h3 : Mid half) (h4 : Mid wide) (eA : M.wallA at_ half wide = A) (eP : M.wallP at_ push half wide back = P) :
    Calls Try.prog 34 #[.int .i64 at_, .int .i64 push, .int .i64 half, .int .i64 wide, .int .i64 back] w fun e w' => e = .returned (.tuple #[.int .i64 A, .int .i64 P]) ∧ w = w' := by
  rw [← eA, ← eP]; exact wall_calls at_ push half wide back w h1 h2 h3 h4

set_option maxHeartbeats 4000000 in
theorem solveWithin_walk (at_ push half wide back : Int) (w : World) (h1 : I64 at_) (h2 : I64 push) (h3 : I64 half) (h4 : I64 wide) (h5 : I64 back) :
    Calls Try.prog 11 #[.int .i64 at_, .int .i64 push, .int .i64 half, .int .i64 wide, .int .i64 back] w fun e w' => e = .returned (.bool true) ∧ Below w.heap.size w w' := by
  have b1 := M.within_bd at_ 268435456 (by omega)
  have b2 := M.within_bd push 16777216 (by omega)
  have b5 := M.within_bd (M.within back 268435456) 256 (by omega)
  have b3 := Int.emod_nonneg half (show (4096 : Int) ≠ 0 by omega)
  have b3' := Int.emod_lt_of_pos half (show (0 : Int) < 4096 by omega)
  have b4 := Int.emod_nonneg wide (show (1048576 : Int) ≠ 0 by omega)
  have b4' := Int.emod_lt_of_pos wide (show (0 : Int) < 1048576 by omega)
  have WP := M.wall_push (M.within push 16777216) (M.within (M.within back 268435456) 256) b2 b5
  have PH := Lib.hid (fun W => pick_calls half 4096 W (by omega) (by omega) h3)
  have PW := Lib.hid (fun W => pick_calls wide 1048576 W (by omega) (by omega) h4)
  unfold I64 at *
  have WL := Lib.hid (fun A P W => wall_is (M.within at_ 268435456) (M.within push 16777216) (half % 4096) (wide % 1048576 + 1) (M.within back 268435456) A P W (by unfold Mid; omega) (by unfold Mid; omega) (by unfold Mid; omega) (by unfold Mid; omega))
  generalize hpv : M.part (M.abs (M.within push 16777216)) (M.within (M.within back 268435456) 256) 256 = pv at *
  have HPV := Lib.hid hpv
  clear hpv b5
  by_cases cp : M.within push 16777216 < 0
  · have ea : M.abs (M.within push 16777216) = -M.within push 16777216 := by unfold M.abs; rw [if_pos cp]
    rw [ea] at WP
    clear ea
    by_cases c0 : (wide % 1048576 + 1) - (half % 4096) ≤ (half % 4096)
    · have EF : M.far (half % 4096) (wide % 1048576 + 1) = (half % 4096) := by unfold M.far; split <;> omega
      by_cases c1 : M.within at_ 268435456 < (half % 4096)
      · have W1 := Lib.hid (fun W => WL.out (half % 4096) pv W (by unfold M.wallA; rw [if_pos c1]) (by unfold M.wallP; rw [if_pos c1]; exact HPV.out))
        clear WL EF HPV
        go_enter Try.func11, Try.ntmps11
        go_wp2_with (first | (go_at_call 36; with_reducible refine (PH.out _).mono ?_; rintro e w' ⟨rfl, rfl⟩) | (go_at_call 36; with_reducible refine (PW.out _).mono ?_; rintro e w' ⟨rfl, rfl⟩) | (go_at_call 15; refine (within_calls _ _ _ (by omega) (by omega)).mono ?_; rintro e w' ⟨rfl, rfl⟩) | (go_at_call 34; refine (W1.out _).mono ?_; rintro e w' ⟨rfl, rfl⟩) | (go_at_call 32; refine (keepSolves_calls _).mono ?_; rintro e w9 ⟨rfl, hb9⟩))
        go_ret
        exact ⟨rfl, hb9⟩
      · by_cases c2 : (half % 4096) < M.within at_ 268435456
        · have W1 := Lib.hid (fun W => WL.out (half % 4096) (-pv) W (by unfold M.wallA; rw [if_neg c1, EF, if_pos c2]) (by unfold M.wallP; rw [if_neg c1, EF, if_pos c2, HPV.out]))
          clear WL EF HPV
          go_enter Try.func11, Try.ntmps11
          go_wp2_with (first | (go_at_call 36; with_reducible refine (PH.out _).mono ?_; rintro e w' ⟨rfl, rfl⟩) | (go_at_call 36; with_reducible refine (PW.out _).mono ?_; rintro e w' ⟨rfl, rfl⟩) | (go_at_call 15; refine (within_calls _ _ _ (by omega) (by omega)).mono ?_; rintro e w' ⟨rfl, rfl⟩) | (go_at_call 34; refine (W1.out _).mono ?_; rintro e w' ⟨rfl, rfl⟩) | (go_at_call 32; refine (keepSolves_calls _).mono ?_; rintro e w9 ⟨rfl, hb9⟩))
          go_ret
          exact ⟨rfl, hb9⟩
        · have W1 := Lib.hid (fun W => WL.out (M.within at_ 268435456) (M.within push 16777216) W (by unfold M.wallA; rw [if_neg c1, EF, if_neg c2]) (by unfold M.wallP; rw [if_neg c1, EF, if_neg c2]))
          clear WL EF HPV
          go_enter Try.func11, Try.ntmps11
          go_wp2_with (first | (go_at_call 36; with_reducible refine (PH.out _).mono ?_; rintro e w' ⟨rfl, rfl⟩) | (go_at_call 36; with_reducible refine (PW.out _).mono ?_; rintro e w' ⟨rfl, rfl⟩) | (go_at_call 15; refine (within_calls _ _ _ (by omega) (by omega)).mono ?_; rintro e w' ⟨rfl, rfl⟩) | (go_at_call 34; refine (W1.out _).mono ?_; rintro e w' ⟨rfl, rfl⟩) | (go_at_call 32; refine (keepSolves_calls _).mono ?_; rintro e w9 ⟨rfl, hb9⟩))
          go_ret
          exact ⟨rfl, hb9⟩
    · have EF : M.far (half % 4096) (wide % 1048576 + 1) = ((wide % 1048576 + 1) - (half % 4096)) := by unfold M.far; split <;> omega
      by_cases c1 : M.within at_ 268435456 < (half % 4096)
      · have W1 := Lib.hid (fun W => WL.out (half % 4096) pv W (by unfold M.wallA; rw [if_pos c1]) (by unfold M.wallP; rw [if_pos c1]; exact HPV.out))
        clear WL EF HPV
        go_enter Try.func11, Try.ntmps11
        go_wp2_with (first | (go_at_call 36; with_reducible refine (PH.out _).mono ?_; rintro e w' ⟨rfl, rfl⟩) | (go_at_call 36; with_reducible refine (PW.out _).mono ?_; rintro e w' ⟨rfl, rfl⟩) | (go_at_call 15; refine (within_calls _ _ _ (by omega) (by omega)).mono ?_; rintro e w' ⟨rfl, rfl⟩) | (go_at_call 34; refine (W1.out _).mono ?_; rintro e w' ⟨rfl, rfl⟩) | (go_at_call 32; refine (keepSolves_calls _).mono ?_; rintro e w9 ⟨rfl, hb9⟩))
        go_ret
        exact ⟨rfl, hb9⟩
      · by_cases c2 : ((wide % 1048576 + 1) - (half % 4096)) < M.within at_ 268435456
        · have W1 := Lib.hid (fun W => WL.out ((wide % 1048576 + 1) - (half % 4096)) (-pv) W (by unfold M.wallA; rw [if_neg c1, EF, if_pos c2]) (by unfold M.wallP; rw [if_neg c1, EF, if_pos c2, HPV.out]))
          clear WL EF HPV
          go_enter Try.func11, Try.ntmps11
          go_wp2_with (first | (go_at_call 36; with_reducible refine (PH.out _).mono ?_; rintro e w' ⟨rfl, rfl⟩) | (go_at_call 36; with_reducible refine (PW.out _).mono ?_; rintro e w' ⟨rfl, rfl⟩) | (go_at_call 15; refine (within_calls _ _ _ (by omega) (by omega)).mono ?_; rintro e w' ⟨rfl, rfl⟩) | (go_at_call 34; refine (W1.out _).mono ?_; rintro e w' ⟨rfl, rfl⟩) | (go_at_call 32; refine (keepSolves_calls _).mono ?_; rintro e w9 ⟨rfl, hb9⟩))
          go_ret
          exact ⟨rfl, hb9⟩
        · have W1 := Lib.hid (fun W => WL.out (M.within at_ 268435456) (M.within push 16777216) W (by unfold M.wallA; rw [if_neg c1, EF, if_neg c2]) (by unfold M.wallP; rw [if_neg c1, EF, if_neg c2]))
          clear WL EF HPV
          go_enter Try.func11, Try.ntmps11
          go_wp2_with (first | (go_at_call 36; with_reducible refine (PH.out _).mono ?_; rintro e w' ⟨rfl, rfl⟩) | (go_at_call 36; with_reducible refine (PW.out _).mono ?_; rintro e w' ⟨rfl, rfl⟩) | (go_at_call 15; refine (within_calls _ _ _ (by omega) (by omega)).mono ?_; rintro e w' ⟨rfl, rfl⟩) | (go_at_call 34; refine (W1.out _).mono ?_; rintro e w' ⟨rfl, rfl⟩) | (go_at_call 32; refine (keepSolves_calls _).mono ?_; rintro e w9 ⟨rfl, hb9⟩))
          go_ret
          exact ⟨rfl, hb9⟩
  · have ea : M.abs (M.within push 16777216) = M.within push 16777216 := by unfold M.abs; rw [if_neg cp]
    rw [ea] at WP
    clear ea
    by_cases c0 : (wide % 1048576 + 1) - (half % 4096) ≤ (half % 4096)
    · have EF : M.far (half % 4096) (wide % 1048576 + 1) = (half % 4096) := by unfold M.far; split <;> omega
      by_cases c1 : M.within at_ 268435456 < (half % 4096)
      · have W1 := Lib.hid (fun W => WL.out (half % 4096) pv W (by unfold M.wallA; rw [if_pos c1]) (by unfold M.wallP; rw [if_pos c1]; exact HPV.out))
        clear WL EF HPV
        go_enter Try.func11, Try.ntmps11
        go_wp2_with (first | (go_at_call 36; with_reducible refine (PH.out _).mono ?_; rintro e w' ⟨rfl, rfl⟩) | (go_at_call 36; with_reducible refine (PW.out _).mono ?_; rintro e w' ⟨rfl, rfl⟩) | (go_at_call 15; refine (within_calls _ _ _ (by omega) (by omega)).mono ?_; rintro e w' ⟨rfl, rfl⟩) | (go_at_call 34; refine (W1.out _).mono ?_; rintro e w' ⟨rfl, rfl⟩) | (go_at_call 32; refine (keepSolves_calls _).mono ?_; rintro e w9 ⟨rfl, hb9⟩))
        go_ret
        exact ⟨rfl, hb9⟩
      · by_cases c2 : (half % 4096) < M.within at_ 268435456
        · have W1 := Lib.hid (fun W => WL.out (half % 4096) (-pv) W (by unfold M.wallA; rw [if_neg c1, EF, if_pos c2]) (by unfold M.wallP; rw [if_neg c1, EF, if_pos c2, HPV.out]))
          clear WL EF HPV
          go_enter Try.func11, Try.ntmps11
          go_wp2_with (first | (go_at_call 36; with_reducible refine (PH.out _).mono ?_; rintro e w' ⟨rfl, rfl⟩) | (go_at_call 36; with_reducible refine (PW.out _).mono ?_; rintro e w' ⟨rfl, rfl⟩) | (go_at_call 15; refine (within_calls _ _ _ (by omega) (by omega)).mono ?_; rintro e w' ⟨rfl, rfl⟩) | (go_at_call 34; refine (W1.out _).mono ?_; rintro e w' ⟨rfl, rfl⟩) | (go_at_call 32; refine (keepSolves_calls _).mono ?_; rintro e w9 ⟨rfl, hb9⟩))
          go_ret
          exact ⟨rfl, hb9⟩
        · have W1 := Lib.hid (fun W => WL.out (M.within at_ 268435456) (M.within push 16777216) W (by unfold M.wallA; rw [if_neg c1, EF, if_neg c2]) (by unfold M.wallP; rw [if_neg c1, EF, if_neg c2]))
          clear WL EF HPV
          go_enter Try.func11, Try.ntmps11
          go_wp2_with (first | (go_at_call 36; with_reducible refine (PH.out _).mono ?_; rintro e w' ⟨rfl, rfl⟩) | (go_at_call 36; with_reducible refine (PW.out _).mono ?_; rintro e w' ⟨rfl, rfl⟩) | (go_at_call 15; refine (within_calls _ _ _ (by omega) (by omega)).mono ?_; rintro e w' ⟨rfl, rfl⟩) | (go_at_call 34; refine (W1.out _).mono ?_; rintro e w' ⟨rfl, rfl⟩) | (go_at_call 32; refine (keepSolves_calls _).mono ?_; rintro e w9 ⟨rfl, hb9⟩))
          go_ret
          exact ⟨rfl, hb9⟩
    · have EF : M.far (half % 4096) (wide % 1048576 + 1) = ((wide % 1048576 + 1) - (half % 4096)) := by unfold M.far; split <;> omega
      by_cases c1 : M.within at_ 268435456 < (half % 4096)
      · have W1 := Lib.hid (fun W => WL.out (half % 4096) pv W (by unfold M.wallA; rw [if_pos c1]) (by unfold M.wallP; rw [if_pos c1]; exact HPV.out))
        clear WL EF HPV
        go_enter Try.func11, Try.ntmps11
        go_wp2_with (first | (go_at_call 36; with_reducible refine (PH.out _).mono ?_; rintro e w' ⟨rfl, rfl⟩) | (go_at_call 36; with_reducible refine (PW.out _).mono ?_; rintro e w' ⟨rfl, rfl⟩) | (go_at_call 15; refine (within_calls _ _ _ (by omega) (by omega)).mono ?_; rintro e w' ⟨rfl, rfl⟩) | (go_at_call 34; refine (W1.out _).mono ?_; rintro e w' ⟨rfl, rfl⟩) | (go_at_call 32; refine (keepSolves_calls _).mono ?_; rintro e w9 ⟨rfl, hb9⟩))
        go_ret
        exact ⟨rfl, hb9⟩
      · by_cases c2 : ((wide % 1048576 + 1) - (half % 4096)) < M.within at_ 268435456
        · have W1 := Lib.hid (fun W => WL.out ((wide % 1048576 + 1) - (half % 4096)) (-pv) W (by unfold M.wallA; rw [if_neg c1, EF, if_pos c2]) (by unfold M.wallP; rw [if_neg c1, EF, if_pos c2, HPV.out]))
          clear WL EF HPV
          go_enter Try.func11, Try.ntmps11
          go_wp2_with (first | (go_at_call 36; with_reducible refine (PH.out _).mono ?_; rintro e w' ⟨rfl, rfl⟩) | (go_at_call 36; with_reducible refine (PW.out _).mono ?_; rintro e w' ⟨rfl, rfl⟩) | (go_at_call 15; refine (within_calls _ _ _ (by omega) (by omega)).mono ?_; rintro e w' ⟨rfl, rfl⟩) | (go_at_call 34; refine (W1.out _).mono ?_; rintro e w' ⟨rfl, rfl⟩) | (go_at_call 32; refine (keepSolves_calls _).mono ?_; rintro e w9 ⟨rfl, hb9⟩))
          go_ret
          exact ⟨rfl, hb9⟩
        · have W1 := Lib.hid (fun W => WL.out (M.within at_ 268435456) (M.within push 16777216) W (by unfold M.wallA; rw [if_neg c1, EF, if_neg c2]) (by unfold M.wallP; rw [if_neg c1, EF, if_neg c2]))
          clear WL EF HPV
          go_enter Try.func11, Try.ntmps11
          go_wp2_with (first | (go_at_call 36; with_reducible refine (PH.out _).mono ?_; rintro e w' ⟨rfl, rfl⟩) | (go_at_call 36; with_reducible refine (PW.out _).mono ?_; rintro e w' ⟨rfl, rfl⟩) | (go_at_call 15; refine (within_calls _ _ _ (by omega) (by omega)).mono ?_; rintro e w' ⟨rfl, rfl⟩) | (go_at_call 34; refine (W1.out _).mono ?_; rintro e w' ⟨rfl, rfl⟩) | (go_at_call 32; refine (keepSolves_calls _).mono ?_; rintro e w9 ⟨rfl, hb9⟩))
          go_ret
          exact ⟨rfl, hb9⟩
end Go.Proofs.Ytkpecagkpjabdaa
