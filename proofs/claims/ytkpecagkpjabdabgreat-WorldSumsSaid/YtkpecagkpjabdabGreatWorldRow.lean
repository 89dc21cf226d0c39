/- The contract of world.row: a thing's parts, and its row as it meets others. Condition: the store lies in memory. -/
import Derived.Test.YtkpecagkpjabdabGreatStoreFind
import Derived.Test.YtkpecagkpjabdabGreatRowCells
import Derived.Test.YtkpecagkpjabdabGreatBagP
import Derived.Test.YtkpecagkpjabdabGreatKit
namespace Go.Proofs.YtkpecagkpjabdabGreat
open Go.RowKit
set_option linter.unusedVariables false
set_option linter.unusedSimpArgs false
set_option maxRecDepth 100000

set_option maxHeartbeats 4000000 in
theorem worldRow_calls {w : World} {lo : Nat} {v : Value} {s : M.Store} (h : StoreAt w lo v s) (id : Int) :
    Calls Tryz.prog 52 #[v, .int .i64 id] w fun e w' => e = .returned (.tuple #[.int .i64 (M.get s id).1, rowV (M.freeRow (M.get s id).1 (M.get s id).2.1)]) ∧ Below w.heap.size w w' := by
  have HG := Lib.hid (fun W (hb : Below w.heap.size w W) => get_calls (h.below hb) id)
  obtain ⟨m, r, b, hg⟩ : ∃ m r b, M.get s id = (m, r, b) := ⟨_, _, _, rfl⟩
  rw [hg] at HG ⊢
  simp only at HG ⊢
  obtain ⟨vt, rfl, hs, hT⟩ := h
  obtain ⟨a, cap, rfl⟩ := hT.val
  clear hT hg
  by_cases hm : M.moves m = true
  · have q : (bits .and .i64 m 11 == 11) = true := hm
    have q2 : (bits .and .i64 m 11 != 11) = false := by simpa using q
    have hf : M.freeRow m r = r := by unfold M.freeRow; rw [if_pos hm]
    rw [hf]
    clear hf hm q
    go_enter Tryz.func52, Tryz.ntmps52
    go_wp2_with (go_at_call 13; refine (HG.out _ (by repeat first | with_reducible assumption | with_reducible exact Below.refl _ _ | with_reducible apply Below.drew | with_reducible apply below_drewN | with_reducible apply Below.alloc (hB := (by first | omega | (simp; done) | (simp; omega))) | with_reducible apply Below.setCell (hp := (by first | omega | (simp; done) | (simp; omega))))).mono ?_; rintro e w1 ⟨rfl, hb1⟩; have K1 : Below w.heap.size w w1 := (show Below w.heap.size w _ from (by repeat first | with_reducible assumption | with_reducible exact Below.refl _ _ | with_reducible apply Below.drew | with_reducible apply below_drewN | with_reducible apply Below.alloc (hB := (by first | omega | (simp; done) | (simp; omega))) | with_reducible apply Below.setCell (hp := (by first | omega | (simp; done) | (simp; omega))))).trans (hb1.mono (by first | omega | (simp; done) | (simp; omega))); have hz1 := hb1.size; (try simp at hz1); have b5 : Blk w1 (w.heap.size + 1) 27 (rowC ⟨0, 0, 0, 0, 0, 0, 0, 0⟩) := Blk.below (Blk.new_at (by simp)) hb1 (by simp); obtain ⟨y0, y1, y2, y3, y4, y5, y6, y7⟩ := row_at b5; have yf := (fun i => b5.free i); have ly := b5.lt)
    go_region
    all_goals
      go_wp2_with fail
      refine bodyPost_ret (v := .tuple #[.int .i64 m, rowV r]) ?_ rfl ⟨rfl, ?_⟩
      · simp only [results, Tryz.results52]
        go_simp
      · exact (by repeat first | with_reducible assumption | with_reducible exact Below.refl _ _ | with_reducible apply Below.drew | with_reducible apply below_drewN | with_reducible apply Below.alloc (hB := (by first | omega | (simp; done) | (simp; omega))) | with_reducible apply Below.setCell (hp := (by first | omega | (simp; done) | (simp; omega))))
  · have q : (bits .and .i64 m 11 == 11) = false := by simpa [M.moves] using hm
    have q2 : (bits .and .i64 m 11 != 11) = true := by simpa using q
    have hf : M.freeRow m r = { r with PX := 0, PY := 0, M := 0 } := by unfold M.freeRow; rw [if_neg hm]
    rw [hf]
    clear hf hm q
    go_enter Tryz.func52, Tryz.ntmps52
    go_wp2_with (go_at_call 13; refine (HG.out _ (by repeat first | with_reducible assumption | with_reducible exact Below.refl _ _ | with_reducible apply Below.drew | with_reducible apply below_drewN | with_reducible apply Below.alloc (hB := (by first | omega | (simp; done) | (simp; omega))) | with_reducible apply Below.setCell (hp := (by first | omega | (simp; done) | (simp; omega))))).mono ?_; rintro e w1 ⟨rfl, hb1⟩; have K1 : Below w.heap.size w w1 := (show Below w.heap.size w _ from (by repeat first | with_reducible assumption | with_reducible exact Below.refl _ _ | with_reducible apply Below.drew | with_reducible apply below_drewN | with_reducible apply Below.alloc (hB := (by first | omega | (simp; done) | (simp; omega))) | with_reducible apply Below.setCell (hp := (by first | omega | (simp; done) | (simp; omega))))).trans (hb1.mono (by first | omega | (simp; done) | (simp; omega))); have hz1 := hb1.size; (try simp at hz1); have b5 : Blk w1 (w.heap.size + 1) 27 (rowC ⟨0, 0, 0, 0, 0, 0, 0, 0⟩) := Blk.below (Blk.new_at (by simp)) hb1 (by simp); obtain ⟨y0, y1, y2, y3, y4, y5, y6, y7⟩ := row_at b5; have yf := (fun i => b5.free i); have ly := b5.lt)
    go_region
    all_goals
      go_wp2_with fail
      refine bodyPost_ret (v := .tuple #[.int .i64 m, rowV { r with PX := 0, PY := 0, M := 0 }]) ?_ rfl ⟨rfl, ?_⟩
      · simp only [results, Tryz.results52]
        go_simp
      · exact (by repeat first | with_reducible assumption | with_reducible exact Below.refl _ _ | with_reducible apply Below.drew | with_reducible apply below_drewN | with_reducible apply Below.alloc (hB := (by first | omega | (simp; done) | (simp; omega))) | with_reducible apply Below.setCell (hp := (by first | omega | (simp; done) | (simp; omega))))
end Go.Proofs.YtkpecagkpjabdabGreat
