/- The walk of the law FixKeeps: it returns true, for all numbers of 64 bits. -/
import Derived.Test.YtkpecagkpjabdaaBase
import Derived.Test.YtkpecagkpjabdaaFix
namespace Go.Proofs.Ytkpecagkpjabdaa
open Go.RowKit
theorem keepFixes_calls (w : World) : Calls Try.prog 21 #[] w fun e w' => e = .returned (.bool true) ∧ w = w' := by
  go_enter Try.func21, Try.ntmps21
  go_wp2_with (first | (go_at_call 17; refine (add_calls _ _ _ _).mono ?_; rintro e w' ⟨rfl, rfl⟩) | (go_at_call 19; refine (part_calls _ _ _ _).mono ?_; rintro e w' ⟨rfl, rfl⟩))
  go_ret
  exact ⟨rfl, rfl⟩
theorem fixKeeps_walk (n a b most : Int) (w : World) (h1 : I64 n) (h2 : I64 a) (h3 : I64 b) (h4 : I64 most) :
    Calls Try.prog 5 #[.int .i64 n, .int .i64 a, .int .i64 b, .int .i64 most] w fun e w' => e = .returned (.bool true) ∧ Below w.heap.size w w' := by
  unfold I64 at *
  by_cases c1 : most < 0
  · go_enter Try.func5, Try.ntmps5
    go_wp2_with (go_at_call 21; refine (keepFixes_calls _).mono ?_; rintro e w' ⟨rfl, rfl⟩)
    go_ret
    exact ⟨rfl, Below.refl _ _⟩
  · by_cases c2 : 1099511627776 < most
    · go_enter Try.func5, Try.ntmps5
      go_wp2_with (go_at_call 21; refine (keepFixes_calls _).mono ?_; rintro e w' ⟨rfl, rfl⟩)
      go_ret
      exact ⟨rfl, Below.refl _ _⟩
    · have hcap : M.capped most = most := M.capped_id most (by omega) (by omega)
      have hadd : -most ≤ M.add a b most ∧ M.add a b most ≤ most := by
        unfold M.add; rw [hcap]; exact M.within_bd _ _ (by omega)
      have bn := M.within_bd n 268435456 (by omega)
      have ba := M.within_bd a 268435456 (by omega)
      have bb := M.within_bd b 268435456 (by omega)
      have bp := M.part_bd (M.within n 268435456) (M.within a 268435456) (M.within b 268435456)
      have e1 : (M.add (M.within b 268435456) (M.within a 268435456) most == M.add (M.within a 268435456) (M.within b 268435456) most) = true := by rw [M.add_comm]; simp
      have e2 : (M.part (-M.within n 268435456) (M.within a 268435456) (M.within b 268435456) == -M.part (M.within n 268435456) (M.within a 268435456) (M.within b 268435456)) = true := by rw [M.part_neg]; simp
      have e3 : (M.part (M.within n 268435456) (-M.within a 268435456) (M.within b 268435456) == -M.part (M.within n 268435456) (M.within a 268435456) (M.within b 268435456)) = true := by rw [M.part_neg2]; simp
      by_cases c3 : M.within b 268435456 = 0
      · have e4 : (M.within b 268435456 == 0) = true := by simp [c3]
        clear c3
        go_enter Try.func5, Try.ntmps5
        go_wp2_with (first | (go_at_call 17; refine (add_calls _ _ _ _).mono ?_; rintro e w' ⟨rfl, rfl⟩) | (go_at_call 15; refine (within_calls _ _ _ (by omega) (by omega)).mono ?_; rintro e w' ⟨rfl, rfl⟩) | (go_at_call 19; refine (part_calls _ _ _ _).mono ?_; rintro e w' ⟨rfl, rfl⟩) | (go_at_call 21; refine (keepFixes_calls _).mono ?_; rintro e w' ⟨rfl, rfl⟩))
        go_ret
        exact ⟨rfl, Below.refl _ _⟩
      · have e4 : (M.within b 268435456 == 0) = false := by simp [c3]
        have e5 : (M.part (M.within n 268435456) (M.within b 268435456) (M.within b 268435456) == M.within n 268435456) = true := by
          rw [M.part_self _ _ c3 (by omega) (by omega) (by omega) (by omega)]; simp
        clear c3
        go_enter Try.func5, Try.ntmps5
        go_wp2_with (first | (go_at_call 17; refine (add_calls _ _ _ _).mono ?_; rintro e w' ⟨rfl, rfl⟩) | (go_at_call 15; refine (within_calls _ _ _ (by omega) (by omega)).mono ?_; rintro e w' ⟨rfl, rfl⟩) | (go_at_call 19; refine (part_calls _ _ _ _).mono ?_; rintro e w' ⟨rfl, rfl⟩) | (go_at_call 21; refine (keepFixes_calls _).mono ?_; rintro e w' ⟨rfl, rfl⟩))
        go_ret
        exact ⟨rfl, Below.refl _ _⟩
end Go.Proofs.Ytkpecagkpjabdaa
