/- '==' between two rows. No condition. -/
import Derived.Test.YtkpecagkpjabdaaBase
namespace Go.Proofs.Ytkpecagkpjabdaa
open Go.RowKit
set_option linter.unusedVariables false
set_option linter.unusedSimpArgs false
set_option maxRecDepth 100000
theorem row_eql (a b : M.Row) (w : World) : (binOp .eql 27 (rowV a) (rowV b)).run Try.prog w = .ok (.bool (decide (a = b))) w := by
  have hS : Try.prog.underlying 27 = some (.struct (Try.prog.fieldsOf 27)) := by kernel_rfl
  have hp : Try.prog.stoodInHeld 27 = false := by kernel_rfl
  obtain ⟨a0, a1, a2, a3, a4, a5, a6, a7⟩ := a
  obtain ⟨b0, b1, b2, b3, b4, b5, b6, b7⟩ := b
  rw [run_eql_struct, show (10000 : Nat) = 9999 + 1 from rfl, run_equalIn_agg w 9999 27 _ _ hS hp]
  simp only [Program.fieldsOf, Try.underlying27]
  go_simp
  clear hS hp
  (repeat' split) <;> simp_all
theorem row_eql_yes (a b : M.Row) (w : World) (h : a = b) : (binOp .eql 27 (rowV a) (rowV b)).run Try.prog w = .ok (.bool true) w := by
  rw [row_eql, decide_eq_true h]
end Go.Proofs.Ytkpecagkpjabdaa
