/- The contracts of the document's Copy and SameThings. Condition: the things lie in memory. -/
import Derived.Test.YtkpecagkpjabdabMapThing
import Derived.Test.YtkpecagkpjabdabRowCells
import Derived.Deep.LoopGhost
import Derived.Deep.DeepCutAuto
namespace Go.Proofs.Ytkpecagkpjabdab
open Go.RowKit
set_option linter.unusedVariables false
set_option linter.unusedSimpArgs false
set_option maxRecDepth 100000
abbrev MapA (w : World) (b : Nat) (f : Int → Option M.Th) (c : Nat) : Prop := MapAt Try.prog 3 w b f c
abbrev RngA (w : World) (b r : Nat) (f : Int → Option M.Th) (c : Nat) (left : Int → Bool) (n : Nat) : Prop := RangeAt Try.prog 3 w b r f c left n
abbrev thC (t : M.Th) : Array Value := #[.int .i64 t.1, .int .i64 t.2.X, .int .i64 t.2.Y, .int .i64 t.2.PX, .int .i64 t.2.PY, .int .i64 t.2.W, .int .i64 t.2.H, .int .i64 t.2.M, .int .i64 t.2.R]
theorem th_zero (w : World) : (zeroValue 65).run Try.prog w = .ok (thV M.th0) w := Try.zeroValue65 w
/-- what has been copied: what is not to come any more -/
def M.come (f : Int → Option M.Th) (left : Int → Bool) : Int → Option M.Th := fun j => if left j = true then none else f j
theorem M.come_start (f : Int → Option M.Th) : M.come f (fun id => (f id).isSome) = fun _ => none := by
  funext j
  unfold M.come
  cases h : f j <;> simp [h]
theorem M.come_step {f : Int → Option M.Th} {left : Int → Bool} {id : Int} {q : M.Th} (hf : f id = some q) : M.upd (M.come f left) id q = M.come f (fun j => left j && !(j == id)) := by
  funext j
  unfold M.upd M.come
  by_cases h : j = id
  · subst h; simp [hf]
  · simp [h]
theorem M.come_end {f : Int → Option M.Th} {left : Int → Bool} (h : ∀ id, left id = false) : M.come f left = f := by
  funext j
  unfold M.come
  simp [h]
theorem row_eqIn (a : M.Row) (w : World) : (Op.equalIn 9999 26 (rowV a) (rowV a)).run Try.prog w = .ok true w := by
  have hS : Try.prog.underlying 26 = some (.struct (Try.prog.fieldsOf 26)) := by kernel_rfl
  have hp : Try.prog.stoodInHeld 26 = false := by kernel_rfl
  obtain ⟨a0, a1, a2, a3, a4, a5, a6, a7⟩ := a
  rw [show (9999 : Nat) = 9998 + 1 from rfl, run_equalIn_agg w 9998 26 _ _ hS hp]
  simp only [Program.fieldsOf, Try.underlying26]
  go_simp
set_option maxRecDepth 100000 in
theorem th_neq_same (t : M.Th) (w : World) : (binOp .neq 65 (thV t) (thV t)).run Try.prog w = .ok (.bool false) w := by
  have hS : Try.prog.underlying 65 = some (.struct (Try.prog.fieldsOf 65)) := by kernel_rfl
  have hp : Try.prog.stoodInHeld 65 = false := by kernel_rfl
  obtain ⟨m, a⟩ := t
  have hr := row_eqIn a w
  rw [run_neq_struct, show (10000 : Nat) = 9999 + 1 from rfl, run_equalIn_agg w 9999 65 _ _ hS hp]
  simp only [Program.fieldsOf, Try.underlying65]
  obtain ⟨d, hd⟩ : ∃ d, d = 9999 := ⟨_, rfl⟩
  rw [← hd] at hr ⊢
  go_simp
end Go.Proofs.Ytkpecagkpjabdab
