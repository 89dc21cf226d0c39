/- The contract of the closure that the document's MeetRows moves a row with, along X and along Y. Condition: the numbers lie within the bounds of things that may meet. -/
import Derived.Test.YtkpecagkpjabdaaRefSolve
import Derived.StillTailTactics
import Derived.IntWalk
namespace Go.Proofs.Ytkpecagkpjabdaa
open Go.RowKit
set_option linter.unusedVariables false
set_option linter.unusedSimpArgs false
set_option maxRecDepth 100000

set_option maxHeartbeats 1000000 in
set_option maxRecDepth 100000 in
theorem moveX_calls (r : M.Row) (w : World) (bx bw : Nat) (far way kick : Int) (hx : Blk w bx 27 (rowC r)) (hw : w.cell? ⟨bw, 0, none⟩ = some (.int .i64 way)) (hne : bw ≠ bx)
    (h1 : -16777216 ≤ far * way ∧ far * way ≤ 16777216) :
    Calls Try.prog 55 #[.pointer (some ⟨bx, 0, none⟩), .pointer (some ⟨bx, 2, none⟩), .int .i64 far, .int .i64 kick, .pointer (some ⟨bw, 0, none⟩)] w fun e w' =>
      e = .returned (.tuple #[]) ∧ Blk w' bx 27 (rowC { r with X := M.add r.X (far * way) 1048576, PX := M.add r.PX kick 16777216 })
        ∧ (∀ b o, b ≠ bx → w'.cell? ⟨b, o, none⟩ = w.cell? ⟨b, o, none⟩) ∧ (∀ b o, b ≠ bx → w'.frozen? ⟨b, o, none⟩ = w.frozen? ⟨b, o, none⟩) ∧ w'.heap.size = w.heap.size ∧ (∀ B, B ≤ bx → Below B w w') ∧ ∀ g, g ≠ bx → w'.heap[g]? = w.heap[g]? := by
  obtain ⟨⟨f0, f1⟩, g0, g1⟩ := rowX_facts hx
  have HX := Lib.hid hx
  clear hx
  go_enter Try.func55, Try.ntmps55
  go_wp2_with fail
  have hwr : IntKind.i64.wrap (far * way) = far * way := IntWalk.i64_in _ (by omega)
  go_still_tail 9, (by kernel_rfl)
  refine wpStill_step (fun K hK => ?_)
  go_simp
  refine ⟨_, (addOf_calls _ _ _ _).mono (fun e w' h => ⟨h.1, h.2.symm⟩), hK _ ?_⟩
  clear hK K
  repeat still_step
  refine wpStill_nil ?_
  clear hwr
  change wpList _ _ _ _ _ w.drew
  go_wp2_with (go_at_call 18; refine (addOf_calls _ _ _ _).mono ?_; rintro e w' ⟨rfl, rfl⟩)
  go_end0
  refine ⟨rfl, ?_, ?_, ?_, ?_, ?_, ?_⟩
  · apply blk_eq
    · repeat first | with_reducible exact HX.out | with_reducible apply Blk.put | with_reducible apply Blk.drew
    · rfl
  · intro b o hb
    show ((w.setCell _ _).setCell _ _).cell? _ = _
    rw [World.cell?_setCell_other _ _ _ _ (by intro e; have h := congrArg Addr.block e; first | exact hb h | exact hb h.symm), World.cell?_setCell_other _ _ _ _ (by intro e; have h := congrArg Addr.block e; first | exact hb h | exact hb h.symm)]
  · intro b o hb
    simp
  · simp [World.setCell]
  · intro B hB
    repeat first | with_reducible exact Below.refl _ _ | with_reducible apply Below.drew | ((with_reducible refine Below.setCell ?_ ?_ _); rotate_left; assumption)
  · intro g hg
    exact (Below.heap_setCell _ _ _ g hg).trans (Below.heap_setCell _ _ _ g hg)

set_option maxHeartbeats 1000000 in
set_option maxRecDepth 100000 in
theorem moveY_calls (r : M.Row) (w : World) (bx bw : Nat) (far way kick : Int) (hx : Blk w bx 27 (rowC r)) (hw : w.cell? ⟨bw, 0, none⟩ = some (.int .i64 way)) (hne : bw ≠ bx)
    (h1 : -16777216 ≤ far * way ∧ far * way ≤ 16777216) :
    Calls Try.prog 55 #[.pointer (some ⟨bx, 1, none⟩), .pointer (some ⟨bx, 3, none⟩), .int .i64 far, .int .i64 kick, .pointer (some ⟨bw, 0, none⟩)] w fun e w' =>
      e = .returned (.tuple #[]) ∧ Blk w' bx 27 (rowC { r with Y := M.add r.Y (far * way) 1048576, PY := M.add r.PY kick 16777216 })
        ∧ (∀ b o, b ≠ bx → w'.cell? ⟨b, o, none⟩ = w.cell? ⟨b, o, none⟩) ∧ (∀ b o, b ≠ bx → w'.frozen? ⟨b, o, none⟩ = w.frozen? ⟨b, o, none⟩) ∧ w'.heap.size = w.heap.size ∧ (∀ B, B ≤ bx → Below B w w') ∧ ∀ g, g ≠ bx → w'.heap[g]? = w.heap[g]? := by
  obtain ⟨⟨f0, f1⟩, g0, g1⟩ := rowY_facts hx
  have HX := Lib.hid hx
  clear hx
  go_enter Try.func55, Try.ntmps55
  go_wp2_with fail
  have hwr : IntKind.i64.wrap (far * way) = far * way := IntWalk.i64_in _ (by omega)
  go_still_tail 9, (by kernel_rfl)
  refine wpStill_step (fun K hK => ?_)
  go_simp
  refine ⟨_, (addOf_calls _ _ _ _).mono (fun e w' h => ⟨h.1, h.2.symm⟩), hK _ ?_⟩
  clear hK K
  repeat still_step
  refine wpStill_nil ?_
  clear hwr
  change wpList _ _ _ _ _ w.drew
  go_wp2_with (go_at_call 18; refine (addOf_calls _ _ _ _).mono ?_; rintro e w' ⟨rfl, rfl⟩)
  go_end0
  refine ⟨rfl, ?_, ?_, ?_, ?_, ?_, ?_⟩
  · apply blk_eq
    · repeat first | with_reducible exact HX.out | with_reducible apply Blk.put | with_reducible apply Blk.drew
    · rfl
  · intro b o hb
    show ((w.setCell _ _).setCell _ _).cell? _ = _
    rw [World.cell?_setCell_other _ _ _ _ (by intro e; have h := congrArg Addr.block e; first | exact hb h | exact hb h.symm), World.cell?_setCell_other _ _ _ _ (by intro e; have h := congrArg Addr.block e; first | exact hb h | exact hb h.symm)]
  · intro b o hb
    simp
  · simp [World.setCell]
  · intro B hB
    repeat first | with_reducible exact Below.refl _ _ | with_reducible apply Below.drew | ((with_reducible refine Below.setCell ?_ ?_ _); rotate_left; assumption)
  · intro g hg
    exact (Below.heap_setCell _ _ _ g hg).trans (Below.heap_setCell _ _ _ g hg)

end Go.Proofs.Ytkpecagkpjabdaa
