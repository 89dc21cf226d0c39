/- The contracts of the document's own WithinOf, AddOf, PartOf: they answer what fix does. Condition: most from 0 on. -/
import Derived.Test.YtkpecagkpjabdaaFix
import Derived.Test.YtkpecagkpjabdaaPlainSolve
import Derived.LoopN
namespace Go.Proofs.Ytkpecagkpjabdaa
open Go.RowKit
set_option linter.unusedVariables false
set_option linter.unusedSimpArgs false
set_option maxRecDepth 100000

namespace M

theorem part_signs (n a b : Int) (hb : b ≠ 0) :
    (if n < 0 then -1 else 1) * ((if a < 0 then -1 else 1) * (if b < 0 then -1 else 1)) * ((abs n * abs a).tdiv (abs b)) = (n * a).tdiv b := by
  unfold abs
  by_cases h1 : n < 0 <;> by_cases h2 : a < 0 <;> by_cases h3 : b < 0 <;> simp [h1, h2, h3, Int.neg_tdiv, Int.tdiv_neg, Int.neg_mul, Int.mul_neg]
end M

theorem withinOf_calls (n most : Int) (w : World) (h0 : 0 ≤ most) (h1 : most ≤ 9223372036854775807) :
    Calls Try.prog 16 #[.int .i64 n, .int .i64 most] w fun e w' => e = .returned (.int .i64 (M.within n most)) ∧ w = w' := by
  go_enter Try.func16, Try.ntmps16
  go_wp2
  all_goals (go_ret; refine ⟨ret_int ?_, rfl⟩; unfold M.within; (repeat' split) <;> omega)

theorem addOf_calls (a b most : Int) (w : World) :
    Calls Try.prog 18 #[.int .i64 a, .int .i64 b, .int .i64 most] w fun e w' => e = .returned (.int .i64 (M.add a b most)) ∧ w = w' := by
  have hb := M.capped_bd most
  have ha := M.within_bd a (M.capped most) hb.1
  have hc := M.within_bd b (M.capped most) hb.1
  by_cases c1 : most < 0
  · have e : M.capped most = 0 := by unfold M.capped; rw [if_pos c1]
    have E : M.add a b most = M.within (M.within a 0 + M.within b 0) 0 := by unfold M.add; rw [e]
    rw [e] at ha hc
    rw [E]
    clear e E hb
    go_enter Try.func18, Try.ntmps18
    go_wp2_with (go_at_call 16; refine (withinOf_calls _ _ _ (by omega) (by omega)).mono ?_; rintro e w' ⟨rfl, rfl⟩)
    go_ret
    exact ⟨rfl, rfl⟩
  · by_cases c2 : 1099511627776 < most
    · have e : M.capped most = 1099511627776 := by unfold M.capped; rw [if_neg c1, if_pos c2]
      have E : M.add a b most = M.within (M.within a 1099511627776 + M.within b 1099511627776) 1099511627776 := by unfold M.add; rw [e]
      rw [e] at ha hc
      rw [E]
      clear e E hb
      go_enter Try.func18, Try.ntmps18
      go_wp2_with (go_at_call 16; refine (withinOf_calls _ _ _ (by omega) (by omega)).mono ?_; rintro e w' ⟨rfl, rfl⟩)
      go_ret
      exact ⟨rfl, rfl⟩
    · have e : M.capped most = most := by unfold M.capped; rw [if_neg c1, if_neg c2]
      have E : M.add a b most = M.within (M.within a most + M.within b most) most := by unfold M.add; rw [e]
      rw [e] at ha hc
      rw [E]
      clear e E hb
      go_enter Try.func18, Try.ntmps18
      go_wp2_with (go_at_call 16; refine (withinOf_calls _ _ _ (by omega) (by omega)).mono ?_; rintro e w' ⟨rfl, rfl⟩)
      go_ret
      exact ⟨rfl, rfl⟩

theorem size_calls (x : Int) (w : World) (h1 : -9223372036854775807 ≤ x) (h2 : x ≤ 9223372036854775807) :
    Calls Try.prog 53 #[.int .i64 x] w fun e w' => e = .returned (.int .i64 (M.abs x)) ∧ w = w' := by
  go_enter Try.func53, Try.ntmps53
  go_wp2
  all_goals (go_ret; refine ⟨ret_int ?_, rfl⟩; unfold M.abs; (repeat' split) <;> omega)

set_option maxHeartbeats 4000000 in
theorem partOf_calls (n a b : Int) (w : World) :
    Calls Try.prog 20 #[.int .i64 n, .int .i64 a, .int .i64 b] w fun e w' => e = .returned (.int .i64 (M.part n a b)) ∧ w = w' := by
  have h1 := M.within_bd n 268435456 (by omega)
  have h2 := M.within_bd a 268435456 (by omega)
  have h3 := M.within_bd b 268435456 (by omega)
  by_cases hz : M.within b 268435456 = 0
  · have e1 : (M.within b 268435456 == 0) = true := by simp [hz]
    have E : M.part n a b = 0 := by unfold M.part; rw [if_pos hz]
    rw [E]
    clear hz
    go_enter Try.func20, Try.ntmps20
    go_wp2_with (go_at_call 16; refine (withinOf_calls _ _ _ (by omega) (by omega)).mono ?_; rintro e w' ⟨rfl, rfl⟩)
    go_ret
    exact ⟨rfl, rfl⟩
  · have e1 : (M.within b 268435456 == 0) = false := by simp [hz]
    have E : M.part n a b = (M.within n 268435456 * M.within a 268435456).tdiv (M.within b 268435456) := by unfold M.part; rw [if_neg hz]
    have HE := Lib.hid E
    clear E
    have i0 : ∀ (x y z : Value) w, (Instr.index 68 (.agg #[x, y, z]) (.int .i64 0)).run Try.prog w = .ok x w := fun _ _ _ _ => by kernel_rfl
    have i1 : ∀ (x y z : Value) w, (Instr.index 68 (.agg #[x, y, z]) (.int .i64 1)).run Try.prog w = .ok y w := fun _ _ _ _ => by kernel_rfl
    have i2 : ∀ (x y z : Value) w, (Instr.index 68 (.agg #[x, y, z]) (.int .i64 2)).run Try.prog w = .ok z w := fun _ _ _ _ => by kernel_rfl
    have P := M.part_signs (M.within n 268435456) (M.within a 268435456) (M.within b 268435456) hz
    have HP := Lib.hid P
    clear P
    by_cases c1 : M.within n 268435456 < 0 <;> by_cases c2 : M.within a 268435456 < 0 <;> by_cases c3 : M.within b 268435456 < 0
    all_goals
      go_enter Try.func20, Try.ntmps20
      go_wp2_with (go_at_call 16; refine (withinOf_calls _ _ _ (by omega) (by omega)).mono ?_; rintro e w' ⟨rfl, rfl⟩)
      refine wp_loop_rounds 4 ?_
      rw [rounds_succ]
      go_wp2_with fail
      rw [rounds_succ]
      go_wp2_with fail
      rw [rounds_succ]
      go_wp2_with fail
      have s1 : 0 ≤ M.abs (M.within n 268435456) ∧ M.abs (M.within n 268435456) ≤ 268435456 := by unfold M.abs; split <;> omega
      have s2 : 0 ≤ M.abs (M.within a 268435456) ∧ M.abs (M.within a 268435456) ≤ 268435456 := by unfold M.abs; split <;> omega
      have s3 : 0 < M.abs (M.within b 268435456) ∧ M.abs (M.within b 268435456) ≤ 268435456 := by unfold M.abs; split <;> omega
      have hmul := M.mul_bd (M.abs (M.within n 268435456)) (M.abs (M.within a 268435456)) 268435456 268435456 (by omega) (by omega) (by omega) (by omega)
      have hq := M.tdiv_bd (M.abs (M.within n 268435456) * M.abs (M.within a 268435456)) (M.abs (M.within b 268435456)) 72057594037927936 (by omega) (by omega)
      rw [rounds_succ]
      go_wp2_with (go_at_call 53; refine (size_calls _ _ (by omega) (by omega)).mono ?_; rintro e w' ⟨rfl, rfl⟩)
      go_ret
      refine ⟨ret_int ?_, rfl⟩
      rw [HE.out, ← HP.out]
      (repeat' split) <;> omega
end Go.Proofs.Ytkpecagkpjabdaa
