/- The contract of the statements' pick. Condition: n from 1 to 2^31. -/
import Derived.Test.YtkpecagkpjabdabGreatKit
namespace Go.Proofs.YtkpecagkpjabdabGreat
open Go.RowKit
set_option linter.unusedVariables false
set_option linter.unusedSimpArgs false
set_option maxRecDepth 100000
theorem M.tmod_fix (k n : Int) (hn : 0 < n) : (-n < k.tmod n ∧ k.tmod n < n) ∧ (k.tmod n < 0 → k.tmod n + n = k % n) ∧ (0 ≤ k.tmod n → k.tmod n = k % n) := by
  have h := Int.tmod_eq_emod (a := k) (b := n)
  have h2 := Int.emod_nonneg k (show n ≠ 0 by omega)
  have h3 := Int.emod_lt_of_pos k hn
  have hd : n ∣ k → k % n = 0 := fun h => Int.emod_eq_zero_of_dvd h
  split at h
  · rename_i hc
    simp at h
    omega
  · rename_i hc
    have hz : k % n ≠ 0 := fun e => hc (Or.inr (Int.dvd_of_emod_eq_zero e))
    omega
theorem pick_calls (k n : Int) (w : World) (h1 : 0 < n) (h2 : n ≤ 4294967296) (h3 : -9223372036854775808 ≤ k ∧ k ≤ 9223372036854775807) :
    Calls Tryz.prog 30 #[.int .i64 k, .int .i64 n] w fun e w' => e = .returned (.int .i64 (k % n)) ∧ w = w' := by
  obtain ⟨f1, f2, f3⟩ := M.tmod_fix k n h1
  have F2 := Lib.hid f2
  have F3 := Lib.hid f3
  clear f2 f3
  have hn0 : ¬ n = 0 := by omega
  by_cases c : k.tmod n < 0
  · have E := F2.out c
    rw [← E]
    clear E
    have HC := Lib.hid c
    by_cases ck : 0 ≤ k
    · exact absurd (Int.tmod_nonneg n ck) (by omega)
    · go_enter Tryz.func30, Tryz.ntmps30
      go_wp2
      go_ret
      exact ⟨rfl, rfl⟩
  · have E := F3.out (by omega)
    by_cases ck : 0 ≤ k
    · have h4 := Int.emod_nonneg k (show n ≠ 0 by omega)
      clear E
      go_enter Tryz.func30, Tryz.ntmps30
      go_wp2
      go_ret
      exact ⟨rfl, rfl⟩
    · rw [← E]
      clear E
      go_enter Tryz.func30, Tryz.ntmps30
      go_wp2
      go_ret
      exact ⟨rfl, rfl⟩
end Go.Proofs.YtkpecagkpjabdabGreat
