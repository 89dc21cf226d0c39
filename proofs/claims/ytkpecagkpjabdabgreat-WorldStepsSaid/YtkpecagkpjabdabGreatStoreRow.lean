/- The contracts of package store on rows: part, GoodRow, Only, with. Condition: none (with: numbers of 64 bits). -/
import Derived.Test.YtkpecagkpjabdabGreatBagP
import Derived.Test.YtkpecagkpjabdabGreatMem
import Derived.Test.YtkpecagkpjabdabGreatKit
import Derived.Lib.QuietBelow
import Derived.Deep.DeepCutAuto
import Derived.Test.YtkpecagkpjabdabGreatRowCells
namespace Go.Proofs.YtkpecagkpjabdabGreat
open Go.RowKit
set_option linter.unusedVariables false
set_option linter.unusedSimpArgs false
set_option maxRecDepth 100000

theorem isPart_calls (is : Bool) (a b lo hi : Int) (w : World) :
    Calls Tryz.prog 119 #[.bool is, .int .i64 a, .int .i64 b, .int .i64 lo, .int .i64 hi] w fun e w' => e = .returned (.bool (M.isPart is a b lo hi)) ∧ w = w' := by
  cases is
  all_goals
    go_enter Tryz.func119, Tryz.ntmps119
    go_wp2
    all_goals
      go_ret
      refine ⟨ret_bool ?_, rfl⟩
      unfold M.isPart
      rw [Bool.eq_iff_iff]
      first
        | (simp; done)
        | (simp; omega)
        | (simp_all; done)
        | (simp_all; omega)

set_option maxHeartbeats 1000000 in
theorem goodRow_calls (mask : Int) (r : M.Row) (w : World) :
    Calls Tryz.prog 76 #[.int .i64 mask, rowV r] w fun e w' => e = .returned (.bool (M.goodRow mask r)) ∧ Below w.heap.size w w' := by
  go_enter Tryz.func76, Tryz.ntmps76
  go_wp2_with (go_at_call 119; refine (isPart_calls _ _ _ _ _ _).mono ?_; rintro e w' ⟨rfl, rfl⟩)
  all_goals
    go_ret
    refine ⟨ret_bool ?_, (Below.refl _ w).alloc (Nat.le_refl _) _⟩
    unfold M.goodRow M.bit
    rw [Bool.eq_iff_iff]
    first
      | (simp [*]; done)
      | (simp [*]; omega)
      | (simp_all; done)
      | (simp; intros; omega)

theorem wp_named {P : Program} {c : Code} {Q : Exit → Act → World → Prop} {a : Act} {w : World} (h : ∀ W, W = w → c.wp P Q a W) : c.wp P Q a w := h w rfl
end Go.Proofs.YtkpecagkpjabdabGreat
