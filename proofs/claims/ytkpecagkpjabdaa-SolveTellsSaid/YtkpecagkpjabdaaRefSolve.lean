/- The contracts of the document's own within, IsBody, SpeedOf, DepthOf: they answer what the plain model says. Condition: numbers of 64 bits (IsBody), rows that may meet (DepthOf). -/
import Derived.Test.YtkpecagkpjabdaaMeet
import Derived.Test.YtkpecagkpjabdaaRefFix
namespace Go.Proofs.Ytkpecagkpjabdaa
open Go.RowKit
set_option linter.unusedVariables false
set_option linter.unusedSimpArgs false
set_option maxRecDepth 100000
theorem ret_int2 {a b c d : Int} (h : a = c) (k : b = d) : Ending.returned (.tuple #[.int .i64 a, .int .i64 b]) = .returned (.tuple #[.int .i64 c, .int .i64 d]) := by rw [h, k]
def M.isIn (n lo hi : Int) : Bool := decide (lo ≤ n ∧ n ≤ hi)
theorem isIn_calls (n lo hi : Int) (w : World) : Calls Try.prog 57 #[.int .i64 n, .int .i64 lo, .int .i64 hi] w fun e w' => e = .returned (.bool (M.isIn n lo hi)) ∧ w = w' := by
  go_enter Try.func57, Try.ntmps57
  go_wp2
  all_goals
    go_ret
    refine ⟨ret_bool ?_, rfl⟩
    unfold M.isIn
    first
      | (rw [Bool.eq_iff_iff]; simp only [decide_eq_true_eq]; omega)
      | (simp; omega)
theorem M.body_isIn (r : M.Row) : M.body r = (M.isIn r.X (-1048576) 1048576 && M.isIn r.Y (-1048576) 1048576 && M.isIn r.PX (-16777216) 16777216 && M.isIn r.PY (-16777216) 16777216 && M.isIn r.W 1 4096 && M.isIn r.H 1 4096 && M.isIn r.M 0 9 && M.isIn r.R 0 256 && (r.M != 0 || (r.PX == 0 && r.PY == 0))) := by
  rw [Bool.eq_iff_iff]
  simp only [M.body, M.number, M.isIn, Bool.and_eq_true, Bool.or_eq_true, decide_eq_true_eq, beq_iff_eq, bne_iff_ne]
  omega
set_option maxHeartbeats 1000000 in
theorem isBody_calls (r : M.Row) (w : World) : Calls Try.prog 27 #[rowV r] w fun e w' => e = .returned (.bool (M.body r)) ∧ Below w.heap.size w w' := by
  rw [M.body_isIn]
  go_enter Try.func27, Try.ntmps27
  go_wp2_with (go_at_call 57; refine (isIn_calls _ _ _ _).mono ?_; rintro e w' ⟨rfl, rfl⟩)
  all_goals
    go_ret
    refine ⟨ret_bool ?_, (Below.refl _ w).alloc (Nat.le_refl _) _⟩
    first
      | (simp [*]; done)
      | (simp only [M.isIn, decide_eq_true_eq] at *; rw [Bool.eq_iff_iff]; simp only [Bool.and_eq_true, Bool.or_eq_true, decide_eq_true_eq, beq_iff_eq, bne_iff_ne]; omega)

theorem speedOf_calls (r : M.Row) (w : World) :
    Calls Try.prog 23 #[rowV r] w fun e w' => e = .returned (.tuple #[.int .i64 (M.part r.PX 1 r.M), .int .i64 (M.part r.PY 1 r.M)]) ∧ Below w.heap.size w w' := by
  go_enter Try.func23, Try.ntmps23
  go_wp2
  go_quiet ((go_at_call 20; exact quiet_left (partOf_calls _ _ _ _)))
  go_wp2
  go_ret2
  exact ⟨rfl, below_drewN ((Below.refl _ _).alloc (Nat.le_refl _) _) _⟩

set_option maxHeartbeats 4000000 in
theorem depthOf_calls (a b : M.Row) (w : World) (ha : RowMid a) (hb : RowMid b) :
    Calls Try.prog 30 #[rowV a, rowV b] w fun e w' => e = .returned (.tuple #[.int .i64 (M.depth a.W b.W a.X b.X), .int .i64 (M.depth a.H b.H a.Y b.Y)]) ∧ Below w.heap.size w w' := by
  obtain ⟨ha1, ha2, ha3, ha4⟩ := ha
  obtain ⟨hb1, hb2, hb3, hb4⟩ := hb
  have K : ∀ o1 o2, Below w.heap.size w ((w.alloc o1).alloc o2) := fun o1 o2 => ((Below.refl _ _).alloc (Nat.le_refl _) _).alloc (by simp) _
  have HK := Lib.hid K
  clear K
  by_cases c1 : a.X - b.X < 0
  · have A1 : M.depth a.W b.W a.X b.X = a.W + b.W - -(a.X - b.X) := by unfold M.depth M.abs; rw [if_pos c1]
    by_cases c2 : a.Y - b.Y < 0
    · have A2 : M.depth a.H b.H a.Y b.Y = a.H + b.H - -(a.Y - b.Y) := by unfold M.depth M.abs; rw [if_pos c2]
      rw [A1, A2]
      go_enter Try.func30, Try.ntmps30
      go_wp2
      go_quiet (fail)
      go_wp2
      go_region
      go_wp2
      go_ret2
      exact ⟨ret_int2 (by omega) (by omega), by repeat first | exact HK.out _ _ | apply Below.drew | apply below_drewN⟩
    · have A2 : M.depth a.H b.H a.Y b.Y = a.H + b.H - (a.Y - b.Y) := by unfold M.depth M.abs; rw [if_neg c2]
      rw [A1, A2]
      go_enter Try.func30, Try.ntmps30
      go_wp2
      go_quiet (fail)
      go_wp2
      go_region
      go_wp2
      go_ret2
      exact ⟨ret_int2 (by omega) (by omega), by repeat first | exact HK.out _ _ | apply Below.drew | apply below_drewN⟩
  · have A1 : M.depth a.W b.W a.X b.X = a.W + b.W - (a.X - b.X) := by unfold M.depth M.abs; rw [if_neg c1]
    by_cases c2 : a.Y - b.Y < 0
    · have A2 : M.depth a.H b.H a.Y b.Y = a.H + b.H - -(a.Y - b.Y) := by unfold M.depth M.abs; rw [if_pos c2]
      rw [A1, A2]
      go_enter Try.func30, Try.ntmps30
      go_wp2
      go_quiet (fail)
      go_wp2
      go_region
      go_wp2
      go_ret2
      exact ⟨ret_int2 (by omega) (by omega), by repeat first | exact HK.out _ _ | apply Below.drew | apply below_drewN⟩
    · have A2 : M.depth a.H b.H a.Y b.Y = a.H + b.H - (a.Y - b.Y) := by unfold M.depth M.abs; rw [if_neg c2]
      rw [A1, A2]
      go_enter Try.func30, Try.ntmps30
      go_wp2
      go_quiet (fail)
      go_wp2
      go_region
      go_wp2
      go_ret2
      exact ⟨ret_int2 (by omega) (by omega), by repeat first | exact HK.out _ _ | apply Below.drew | apply below_drewN⟩
end Go.Proofs.Ytkpecagkpjabdaa
