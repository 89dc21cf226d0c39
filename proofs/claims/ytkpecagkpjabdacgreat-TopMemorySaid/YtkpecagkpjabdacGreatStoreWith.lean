/- The contract of store.with: two rows of which the second has some parts. Condition: none. -/
import Derived.Test.YtkpecagkpjabdacGreatStoreRow
import Derived.Deep.RegionHeld3
import Derived.Deep.DrawnRows
namespace Go.Proofs.YtkpecagkpjabdacGreat
open Go.RowKit
set_option linter.unusedVariables false
set_option linter.unusedSimpArgs false
set_option maxRecDepth 100000
attribute [local go_sem ↓] Go.wp_at_zero Go.wp_at_succ
theorem two_boxed {W : World} {s t : Nat} {a b : M.Row} (h : Blk W s 23 (rowC a)) (k : Blk W t 23 (rowC b)) : W.cell? ⟨s, 0, none⟩ = some (.int .i64 a.X) ∧ W.cell? ⟨s, 1, none⟩ = some (.int .i64 a.Y) ∧ W.cell? ⟨s, 2, none⟩ = some (.int .i64 a.PX) ∧ W.cell? ⟨s, 3, none⟩ = some (.int .i64 a.PY) ∧ W.cell? ⟨s, 4, none⟩ = some (.int .i64 a.W) ∧ W.cell? ⟨s, 5, none⟩ = some (.int .i64 a.H) ∧ W.cell? ⟨s, 6, none⟩ = some (.int .i64 a.M) ∧ W.cell? ⟨s, 7, none⟩ = some (.int .i64 a.R) ∧ W.cell? ⟨t, 0, none⟩ = some (.int .i64 b.X) ∧ W.cell? ⟨t, 1, none⟩ = some (.int .i64 b.Y) ∧ W.cell? ⟨t, 2, none⟩ = some (.int .i64 b.PX) ∧ W.cell? ⟨t, 3, none⟩ = some (.int .i64 b.PY) ∧ W.cell? ⟨t, 4, none⟩ = some (.int .i64 b.W) ∧ W.cell? ⟨t, 5, none⟩ = some (.int .i64 b.H) ∧ W.cell? ⟨t, 6, none⟩ = some (.int .i64 b.M) ∧ W.cell? ⟨t, 7, none⟩ = some (.int .i64 b.R) :=
  ⟨h.cell 0, h.cell 1, h.cell 2, h.cell 3, h.cell 4, h.cell 5, h.cell 6, h.cell 7, k.cell 0, k.cell 1, k.cell 2, k.cell 3, k.cell 4, k.cell 5, k.cell 6, k.cell 7⟩
/-- two rows in boxes of their own, whichever came first -/
def TwoBoxes (a b : M.Row) (w0 : World) (p q : Value) (W : World) : Prop :=
  ∃ bx bz, p = .pointer (some ⟨bx, 0, none⟩) ∧ q = .pointer (some ⟨bz, 0, none⟩) ∧ Blk W bx 23 (rowC a) ∧ Blk W bz 23 (rowC b) ∧ Below w0.heap.size w0 W
set_option maxHeartbeats 40000000 in
theorem with_calls (r more : M.Row) (mask : Int) (w : World) :
    Calls Tryz.prog 89 #[rowV r, rowV more, .int .i64 mask] w fun e w' => e = .returned (rowV (M.withR r more mask)) ∧ Below w.heap.size w w' := by
  have H1 := Lib.hid (fun W => only_calls (bits .andNot .i64 31 mask) r W)
  have H2 := Lib.hid (fun W => only_calls mask more W)
  unfold M.withR
  obtain ⟨a, ha⟩ : ∃ a, a = M.only (bits .andNot .i64 31 mask) r := ⟨_, rfl⟩
  obtain ⟨b, hb⟩ : ∃ b, b = M.only mask more := ⟨_, rfl⟩
  rw [← ha] at H1 ⊢
  rw [← hb] at H2 ⊢
  clear ha hb
  go_enter Tryz.func89, Tryz.ntmps89
  go_upto_region 1 with fail
  have Z : Blk (((w.alloc (.cells (rowC r) 23)).alloc (.cells (rowC more) 23)).alloc (.cells (rowC M.row0) 23)) w.heap.size 23 (rowC r) := ((Blk.new w _ _).alloc _).alloc _
  have Y : Blk (((w.alloc (.cells (rowC r) 23)).alloc (.cells (rowC more) 23)).alloc (.cells (rowC M.row0) 23)) (w.heap.size + 1) 23 (rowC more) := by
    have h := (Blk.new (w.alloc (.cells (rowC r) 23)) 23 (rowC more)).alloc (.cells (rowC M.row0) 23); simp at h; exact h
  have V : Blk (((w.alloc (.cells (rowC r) 23)).alloc (.cells (rowC more) 23)).alloc (.cells (rowC M.row0) 23)) (w.heap.size + 1 + 1) 23 (rowC M.row0) := by
    have h := Blk.new ((w.alloc (.cells (rowC r) 23)).alloc (.cells (rowC more) 23)) 23 (rowC M.row0); simp at h; exact h
  have K : Below w.heap.size w (((w.alloc (.cells (rowC r) 23)).alloc (.cells (rowC more) 23)).alloc (.cells (rowC M.row0) 23)) := (((Below.refl _ w).alloc (Nat.le_refl _) _).alloc (by simp) _).alloc (by simp; omega) _
  have hzW : ((((w.alloc (.cells (rowC r) 23)).alloc (.cells (rowC more) 23)).alloc (.cells (rowC M.row0) 23))).heap.size = w.heap.size + 1 + 1 + 1 := by simp
  refine wp_named fun w3 hw3 => ?_
  have HZ : Hid (Blk w3 w.heap.size 23 (rowC r)) := Lib.hid (by rw [hw3]; exact Z)
  have HY : Hid (Blk w3 (w.heap.size + 1) 23 (rowC more)) := Lib.hid (by rw [hw3]; exact Y)
  have HV : Hid (Blk w3 (w.heap.size + 1 + 1) 23 (rowC M.row0)) := Lib.hid (by rw [hw3]; exact V)
  have HK : Hid (Below w.heap.size w w3) := Lib.hid (by rw [hw3]; exact K)
  have hz3 : w.heap.size + 1 + 1 + 1 = w3.heap.size := by rw [hw3]; exact hzW.symm
  clear K Z Y V hzW hw3
  have lz1 : w.heap.size < w3.heap.size := by omega
  have lz2 : w.heap.size + 1 < w3.heap.size := by omega
  have lz3 : w.heap.size + 1 + 1 < w3.heap.size := by omega
  have HZ3 := Lib.hid hz3
  clear hz3
  go_cut [7, 8] (fun p q W => TwoBoxes a b w3 p q W)
  case first =>
    go_region_held3 (fun W => W.cell? ⟨w.heap.size, 0, none⟩ = some (.int .i64 r.X) ∧ W.cell? ⟨w.heap.size, 1, none⟩ = some (.int .i64 r.Y) ∧ W.cell? ⟨w.heap.size, 2, none⟩ = some (.int .i64 r.PX) ∧ W.cell? ⟨w.heap.size, 3, none⟩ = some (.int .i64 r.PY) ∧ W.cell? ⟨w.heap.size, 4, none⟩ = some (.int .i64 r.W) ∧ W.cell? ⟨w.heap.size, 5, none⟩ = some (.int .i64 r.H) ∧ W.cell? ⟨w.heap.size, 6, none⟩ = some (.int .i64 r.M) ∧ W.cell? ⟨w.heap.size, 7, none⟩ = some (.int .i64 r.R) ∧ W.cell? ⟨w.heap.size + 1, 0, none⟩ = some (.int .i64 more.X) ∧ W.cell? ⟨w.heap.size + 1, 1, none⟩ = some (.int .i64 more.Y) ∧ W.cell? ⟨w.heap.size + 1, 2, none⟩ = some (.int .i64 more.PX) ∧ W.cell? ⟨w.heap.size + 1, 3, none⟩ = some (.int .i64 more.PY) ∧ W.cell? ⟨w.heap.size + 1, 4, none⟩ = some (.int .i64 more.W) ∧ W.cell? ⟨w.heap.size + 1, 5, none⟩ = some (.int .i64 more.H) ∧ W.cell? ⟨w.heap.size + 1, 6, none⟩ = some (.int .i64 more.M) ∧ W.cell? ⟨w.heap.size + 1, 7, none⟩ = some (.int .i64 more.R)) (exact two_boxed (by (repeat first | with_reducible exact HZ.out | with_reducible apply Blk.far (hp := (by first | omega | (simp; done) | (simp; omega))) | with_reducible apply Blk.drew | with_reducible apply Blk.alloc | with_reducible apply Blk.below (hb := hb4) (hg := (by first | omega | (simp; done) | (simp; omega))) | with_reducible apply Blk.below (hb := hb5) (hg := (by first | omega | (simp; done) | (simp; omega))))) (by (repeat first | with_reducible exact HY.out | with_reducible apply Blk.far (hp := (by first | omega | (simp; done) | (simp; omega))) | with_reducible apply Blk.drew | with_reducible apply Blk.alloc | with_reducible apply Blk.below (hb := hb4) (hg := (by first | omega | (simp; done) | (simp; omega))) | with_reducible apply Blk.below (hb := hb5) (hg := (by first | omega | (simp; done) | (simp; omega)))))) (first | (go_at_call 88; with_reducible refine (H1.out _).mono ?_; rintro e w4 ⟨rfl, hb4⟩; obtain ⟨hc4, hf4⟩ := bcell hb4; have hz4 := hb4.size; (try simp at hz4); (try have pf4_0 : w.heap.size < w4.heap.size := (by omega)); (try have pg4_0 : w.heap.size < w4.heap.size + 1 := (by omega)); (try have ph4_0 : w.heap.size < w4.heap.size + 1 + 1 := (by omega)); (try have pf4_1 : w.heap.size + 1 < w4.heap.size := (by omega)); (try have pg4_1 : w.heap.size + 1 < w4.heap.size + 1 := (by omega)); (try have ph4_1 : w.heap.size + 1 < w4.heap.size + 1 + 1 := (by omega)); (try have pf4_2 : w.heap.size + 1 + 1 < w4.heap.size := (by omega)); (try have pg4_2 : w.heap.size + 1 + 1 < w4.heap.size + 1 := (by omega)); (try have ph4_2 : w.heap.size + 1 + 1 < w4.heap.size + 1 + 1 := (by omega)); (try have pf4_3 : w3.heap.size < w4.heap.size := (by omega)); (try have pg4_3 : w3.heap.size < w4.heap.size + 1 := (by omega)); (try have ph4_3 : w3.heap.size < w4.heap.size + 1 + 1 := (by omega)); (try have pf4_4 : w3.heap.size + 1 < w4.heap.size := (by omega)); (try have pg4_4 : w3.heap.size + 1 < w4.heap.size + 1 := (by omega)); (try have ph4_4 : w3.heap.size + 1 < w4.heap.size + 1 + 1 := (by omega))) | (go_at_call 88; with_reducible refine (H2.out _).mono ?_; rintro e w5 ⟨rfl, hb5⟩; obtain ⟨hc5, hf5⟩ := bcell hb5; have hz5 := hb5.size; (try simp at hz5); (try have pf5_0 : w.heap.size < w5.heap.size := (by omega)); (try have pg5_0 : w.heap.size < w5.heap.size + 1 := (by omega)); (try have ph5_0 : w.heap.size < w5.heap.size + 1 + 1 := (by omega)); (try have pf5_1 : w.heap.size + 1 < w5.heap.size := (by omega)); (try have pg5_1 : w.heap.size + 1 < w5.heap.size + 1 := (by omega)); (try have ph5_1 : w.heap.size + 1 < w5.heap.size + 1 + 1 := (by omega)); (try have pf5_2 : w.heap.size + 1 + 1 < w5.heap.size := (by omega)); (try have pg5_2 : w.heap.size + 1 + 1 < w5.heap.size + 1 := (by omega)); (try have ph5_2 : w.heap.size + 1 + 1 < w5.heap.size + 1 + 1 := (by omega)); (try have pf5_3 : w3.heap.size < w5.heap.size := (by omega)); (try have pg5_3 : w3.heap.size < w5.heap.size + 1 := (by omega)); (try have ph5_3 : w3.heap.size < w5.heap.size + 1 + 1 := (by omega)); (try have pf5_4 : w3.heap.size + 1 < w5.heap.size := (by omega)); (try have pg5_4 : w3.heap.size + 1 < w5.heap.size + 1 := (by omega)); (try have ph5_4 : w3.heap.size + 1 < w5.heap.size + 1 + 1 := (by omega)); (try have pf5_5 : w4.heap.size < w5.heap.size := (by omega)); (try have pg5_5 : w4.heap.size < w5.heap.size + 1 := (by omega)); (try have ph5_5 : w4.heap.size < w5.heap.size + 1 + 1 := (by omega)); (try have pf5_6 : w4.heap.size + 1 < w5.heap.size := (by omega)); (try have pg5_6 : w4.heap.size + 1 < w5.heap.size + 1 := (by omega)); (try have ph5_6 : w4.heap.size + 1 < w5.heap.size + 1 + 1 := (by omega))))
    all_goals
      go_wp2_with fail
      go_meet
      refine ⟨_, _, rfl, rfl, ?_, ?_, ?_⟩
      · apply blk_to
        · repeat first | with_reducible apply Blk.put | with_reducible apply Blk.far (hp := (by first | omega | (simp; done) | (simp; omega))) | with_reducible apply Blk.drew | with_reducible apply Blk.new_at_w (h := (by first | rfl | (simp; done) | omega)) | with_reducible apply Blk.alloc | with_reducible apply Blk.below (hb := hb4) (hg := (by first | omega | (simp; done) | (simp; omega))) | with_reducible apply Blk.below (hb := hb5) (hg := (by first | omega | (simp; done) | (simp; omega)))
        · rfl
      · apply blk_to
        · repeat first | with_reducible apply Blk.put | with_reducible apply Blk.far (hp := (by first | omega | (simp; done) | (simp; omega))) | with_reducible apply Blk.drew | with_reducible apply Blk.new_at_w (h := (by first | rfl | (simp; done) | omega)) | with_reducible apply Blk.alloc | with_reducible apply Blk.below (hb := hb4) (hg := (by first | omega | (simp; done) | (simp; omega))) | with_reducible apply Blk.below (hb := hb5) (hg := (by first | omega | (simp; done) | (simp; omega)))
        · rfl
      · repeat first | with_reducible exact Below.refl _ _ | with_reducible apply Below.drew | with_reducible apply Below.setCell (hp := (by first | omega | (simp; done) | (simp; omega))) | with_reducible apply Below.alloc (hB := (by first | omega | (simp; done) | (simp; omega))) | with_reducible refine Below.trans ?_ (Below.mono (B' := w3.heap.size) hb4 (by first | omega | (simp; done) | (simp; omega))) | with_reducible refine Below.trans ?_ (Below.mono (B' := w3.heap.size) hb5 (by first | omega | (simp; done) | (simp; omega)))
  case rest =>
    obtain ⟨bx, bz, rfl, rfl, hX, hY, hB⟩ := hcut
    have hV := HV.out.below hB (by omega)
    have HKF := Lib.hid (HK.out.trans (hB.mono (by omega)))
    obtain ⟨x0, x1, x2, x3, x4, x5, x6, x7⟩ := row_at hX
    obtain ⟨y0, y1, y2, y3, y4, y5, y6, y7⟩ := row_at hY
    obtain ⟨v0, v1, v2, v3, v4, v5, v6, v7⟩ := row_at hV
    have vf := fun i => hV.free i
    clear hX hY hV hB lz1 lz2 lz3
    go_wp2
    refine bodyPost_ret (v := rowV (M.plus a b)) ?_ rfl ⟨rfl, ?_⟩
    · simp only [results, Tryz.results89]
      go_simp
      exact ⟨rfl, rfl, rfl, rfl, rfl, rfl, rfl, rfl⟩
    · repeat first | with_reducible exact HKF.out | with_reducible apply Below.setCell (hp := (by first | omega | (simp; done) | (simp; omega)))
end Go.Proofs.YtkpecagkpjabdacGreat
