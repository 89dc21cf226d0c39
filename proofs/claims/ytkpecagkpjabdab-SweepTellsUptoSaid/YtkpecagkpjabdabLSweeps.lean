/- The contract of ninepinslaw's sweeps: does package sweep answer at all? No condition. -/
import Derived.Test.YtkpecagkpjabdabSweepPairs
namespace Go.Proofs.Ytkpecagkpjabdab
open Go.RowKit
set_option linter.unusedVariables false
set_option linter.unusedSimpArgs false
set_option maxRecDepth 100000

def M.sweepsL : List M.Box := [⟨4, 0, 0, 9, 9⟩, ⟨2, 5, 5, 20, 20⟩]
theorem M.sweeps_pairs : M.pairs M.sweepsL = [(2, 4)] := by
  unfold M.pairs
  rw [if_pos (by decide), show M.allP M.sweepsL = [(2, 4)] by decide]
  unfold M.sortP
  exact List.mergeSort_singleton _
theorem pair_eql (a b : M.Pr) (w : World) : (binOp .eql 48 (pairV a) (pairV b)).run Try.prog w = .ok (.bool (decide (a = b))) w := by
  have hS : Try.prog.underlying 48 = some (.struct (Try.prog.fieldsOf 48)) := by kernel_rfl
  have hp : Try.prog.stoodInHeld 48 = false := by kernel_rfl
  obtain ⟨a0, a1⟩ := a
  obtain ⟨b0, b1⟩ := b
  rw [run_eql_struct, show (10000 : Nat) = 9999 + 1 from rfl, run_equalIn_agg w 9999 48 _ _ hS hp]
  simp only [Program.fieldsOf, Try.underlying48]
  go_simp
  clear hS hp
  (repeat' split) <;> simp_all
theorem lies_boxes {w : World} {g : Nat} {cs : Array Value} {l : List M.Box} (hb : Blk w g 45 cs) (hc : cs.toList = l.flatMap boxL) (hl : l.length ≤ maxLen) (cap : Nat) : BoxesAt5 w 0 (.slice (some ⟨g, 0, none⟩) l.length cap) l := by
  refine ⟨boxes_len l, hl, some ⟨g, 0, none⟩, cap, rfl, fun _ => ⟨g, 0, rfl, Nat.zero_le _, fun j u hj => ?_⟩⟩
  rw [Nat.zero_add, hb.cell j, ← Array.getElem?_toList, hc]
  exact hj
set_option maxHeartbeats 1000000 in
theorem lsweeps_calls (w : World) : Calls Try.prog 39 #[] w fun e w' => e = .returned (.bool true) ∧ Below w.heap.size w w' := by
  have hb : BoxesAt5 (w.alloc (.cells #[.int .i64 4, .int .i64 0, .int .i64 0, .int .i64 9, .int .i64 9, .int .i64 2, .int .i64 5, .int .i64 5, .int .i64 20, .int .i64 20] 45)) 0 (.slice (some ⟨w.heap.size, 0, none⟩) 2 2) M.sweepsL :=
    lies_boxes (l := M.sweepsL) (Blk.new w 45 _) rfl (by decide) 2
  have HP := Lib.hid (pairs_calls hb (by intro b hb; simp [M.sweepsL] at hb; rcases hb with rfl | rfl <;> simp [BoxIn, I64]) (by decide))
  have HE : Hid (∀ w, (binOp .eql 48 (.agg #[.int .i64 2, .int .i64 4]) (.agg #[.int .i64 2, .int .i64 4])).run Try.prog w = .ok (.bool true) w) := Lib.hid (fun w => by
    have := pair_eql (2, 4) (2, 4) w
    simpa using this)
  rw [M.sweeps_pairs] at HP
  clear hb
  go_enter Try.func39, Try.ntmps39
  go_wp2_with (go_at_call 19; refine HP.out.mono ?_; rintro e w1 ⟨v1, rfl, ho1, hb1⟩; obtain ⟨g1, c1, rfl, _, hg1⟩ := own_val ho1 (by simp); have k0 := ho1.cellAt 0 (by simp); have k1 := ho1.cellAt 1 (by simp); simp [pairL] at k0 k1; have K1 : Below w.heap.size w w1 := ((Below.refl _ w).alloc (Nat.le_refl _) _).trans (hb1.mono (by simp)); have HE2 := HE.out; clear ho1 hb1)
  go_ret
  exact ⟨rfl, K1⟩
end Go.Proofs.Ytkpecagkpjabdab
