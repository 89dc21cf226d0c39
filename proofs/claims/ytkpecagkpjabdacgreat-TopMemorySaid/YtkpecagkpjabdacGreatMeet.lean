/- The contract of solve.Meet: it answers what the plain model says, for all rows. Condition: numbers of 64 bits. -/
import Derived.Test.YtkpecagkpjabdacGreatLine
import Derived.RegionTactic
import Derived.BigRegion
import Derived.ChangeAlike
import Derived.Laws.ResultCell
namespace Go.Proofs.YtkpecagkpjabdacGreat
open Go.RowKit
set_option linter.unusedVariables false
set_option linter.unusedSimpArgs false
set_option maxRecDepth 100000

theorem good_yes (r : M.Row) (w : World) (h : RowOk r) (hb : M.body r = true) : Calls Tryz.prog 118 #[rowV r] w fun e w' => e = .returned (.bool true) ∧ Below w.heap.size w w' := by
  rw [← hb]; exact good_calls r w h
theorem good_no (r : M.Row) (w : World) (h : RowOk r) (hb : M.body r = false) : Calls Tryz.prog 118 #[rowV r] w fun e w' => e = .returned (.bool false) ∧ Below w.heap.size w w' := by
  rw [← hb]; exact good_calls r w h

theorem mid_of_body {r : M.Row} (h : M.body r = true) : RowMid r := by
  simp only [M.body, M.number, Bool.and_eq_true, decide_eq_true_eq] at h
  unfold RowMid
  omega
theorem body_facts {r : M.Row} (h : M.body r = true) : ((-1048576 ≤ r.X ∧ r.X ≤ 1048576) ∧ (-1048576 ≤ r.Y ∧ r.Y ≤ 1048576) ∧ (-16777216 ≤ r.PX ∧ r.PX ≤ 16777216) ∧ (-16777216 ≤ r.PY ∧ r.PY ≤ 16777216)) ∧ 1 ≤ r.W ∧ r.W ≤ 4096 ∧ 1 ≤ r.H ∧ r.H ≤ 4096 ∧ (0 ≤ r.M ∧ r.M ≤ 9) ∧ (0 ≤ r.R ∧ r.R ≤ 256) ∧ (0 < r.M ∨ r.PX = 0 ∧ r.PY = 0) := by
  simp only [M.body, M.number, Bool.and_eq_true, decide_eq_true_eq] at h
  omega

set_option maxHeartbeats 4000000 in
theorem meet_bad1 (a b : M.Row) (w : World) (ha : RowOk a) (hb : RowOk b) (h1 : M.body a = false) :
    Calls Tryz.prog 94 #[rowV a, rowV b] w fun e w' => e = .returned (.tuple #[rowV a, rowV b, .bool false]) ∧ Below w.heap.size w w' := by
  have Ha := Lib.hid h1
  clear h1
  go_enter Tryz.func94, Tryz.ntmps94
  go_wp2_with fail
  refine (depth_any _ _ _).mono ?_
  rintro e w1 ⟨⟨d1, d2, rfl⟩, hb1⟩
  obtain ⟨hc1, hf1⟩ := bcell hb1
  have hz1 := hb1.size
  simp at hz1
  have pw10 : w.heap.size < w1.heap.size := by omega
  have pw11 : w.heap.size + 1 < w1.heap.size := by omega
  have pw12 : w.heap.size + 1 + 1 < w1.heap.size := by omega
  have pw13 : w.heap.size + 1 + 1 + 1 < w1.heap.size := by omega
  go_wp2_with fail
  refine (good_no a _ ha Ha.out).mono ?_
  rintro e w2 ⟨rfl, hb2⟩
  obtain ⟨hc2, hf2⟩ := bcell hb2
  have hz2 := hb2.size
  have pw20 : w.heap.size < w2.heap.size := by omega
  have pw21 : w.heap.size + 1 < w2.heap.size := by omega
  have pw22 : w.heap.size + 1 + 1 < w2.heap.size := by omega
  have pw23 : w.heap.size + 1 + 1 + 1 < w2.heap.size := by omega
  go_wp2_with fail
  go_region
  go_wp2
  refine bodyPost_ret (v := .tuple #[rowV a, rowV b, .bool false]) ?_ rfl ⟨rfl, ?_⟩
  · simp only [results, Tryz.results94]
    go_simp
  · have k := (((((Below.refl _ w).alloc (Nat.le_refl _) _).alloc (by simp) _).alloc (by simp; omega) _).alloc (by simp; omega) _).trans (hb1.mono (by simp; omega)) |>.trans (hb2.mono (by omega))
    refine Below.drew ?_
    repeat first | with_reducible exact k | ((with_reducible refine Below.setCell ?_ ?_ _); rotate_left; (first | omega | (simp; omega)))

set_option maxHeartbeats 4000000 in
theorem meet_bad2 (a b : M.Row) (w : World) (ha : RowOk a) (hb : RowOk b) (h1 : M.body a = true) (h2 : M.body b = false) :
    Calls Tryz.prog 94 #[rowV a, rowV b] w fun e w' => e = .returned (.tuple #[rowV a, rowV b, .bool false]) ∧ Below w.heap.size w w' := by
  have Ha := Lib.hid h1
  clear h1
  have Hb := Lib.hid h2
  clear h2
  go_enter Tryz.func94, Tryz.ntmps94
  go_wp2_with fail
  refine (depth_any _ _ _).mono ?_
  rintro e w1 ⟨⟨d1, d2, rfl⟩, hb1⟩
  obtain ⟨hc1, hf1⟩ := bcell hb1
  have hz1 := hb1.size
  simp at hz1
  have pw10 : w.heap.size < w1.heap.size := by omega
  have pw11 : w.heap.size + 1 < w1.heap.size := by omega
  have pw12 : w.heap.size + 1 + 1 < w1.heap.size := by omega
  have pw13 : w.heap.size + 1 + 1 + 1 < w1.heap.size := by omega
  go_wp2_with fail
  refine (good_yes a _ ha Ha.out).mono ?_
  rintro e w2 ⟨rfl, hb2⟩
  obtain ⟨hc2, hf2⟩ := bcell hb2
  have hz2 := hb2.size
  have pw20 : w.heap.size < w2.heap.size := by omega
  have pw21 : w.heap.size + 1 < w2.heap.size := by omega
  have pw22 : w.heap.size + 1 + 1 < w2.heap.size := by omega
  have pw23 : w.heap.size + 1 + 1 + 1 < w2.heap.size := by omega
  go_wp2_with fail
  refine (good_no b _ hb Hb.out).mono ?_
  rintro e w3 ⟨rfl, hb3⟩
  obtain ⟨hc3, hf3⟩ := bcell hb3
  have hz3 := hb3.size
  have pw30 : w.heap.size < w3.heap.size := by omega
  have pw31 : w.heap.size + 1 < w3.heap.size := by omega
  have pw32 : w.heap.size + 1 + 1 < w3.heap.size := by omega
  have pw33 : w.heap.size + 1 + 1 + 1 < w3.heap.size := by omega
  go_wp2_with fail
  go_region
  go_wp2
  refine bodyPost_ret (v := .tuple #[rowV a, rowV b, .bool false]) ?_ rfl ⟨rfl, ?_⟩
  · simp only [results, Tryz.results94]
    go_simp
  · have k := (((((Below.refl _ w).alloc (Nat.le_refl _) _).alloc (by simp) _).alloc (by simp; omega) _).alloc (by simp; omega) _).trans (hb1.mono (by simp; omega)) |>.trans (hb2.mono (by omega)) |>.trans (hb3.mono (by omega))
    refine Below.drew ?_
    repeat first | with_reducible exact k | ((with_reducible refine Below.setCell ?_ ?_ _); rotate_left; (first | omega | (simp; omega)))

set_option maxHeartbeats 4000000 in
theorem meet_bad3 (a b : M.Row) (w : World) (ha : RowOk a) (hb : RowOk b) (h1 : M.body a = true) (h2 : M.body b = true) (h3 : M.depth a.W b.W a.X b.X < 1) :
    Calls Tryz.prog 94 #[rowV a, rowV b] w fun e w' => e = .returned (.tuple #[rowV a, rowV b, .bool false]) ∧ Below w.heap.size w w' := by
  have Ha := Lib.hid h1
  clear h1
  have Hb := Lib.hid h2
  clear h2
  go_enter Tryz.func94, Tryz.ntmps94
  go_wp2_with fail
  refine (depth_calls a b _ (mid_of_body Ha.out) (mid_of_body Hb.out)).mono ?_
  rintro e w1 ⟨rfl, hb1⟩
  obtain ⟨hc1, hf1⟩ := bcell hb1
  have hz1 := hb1.size
  simp at hz1
  have pw10 : w.heap.size < w1.heap.size := by omega
  have pw11 : w.heap.size + 1 < w1.heap.size := by omega
  have pw12 : w.heap.size + 1 + 1 < w1.heap.size := by omega
  have pw13 : w.heap.size + 1 + 1 + 1 < w1.heap.size := by omega
  go_wp2_with fail
  refine (good_yes a _ ha Ha.out).mono ?_
  rintro e w2 ⟨rfl, hb2⟩
  obtain ⟨hc2, hf2⟩ := bcell hb2
  have hz2 := hb2.size
  have pw20 : w.heap.size < w2.heap.size := by omega
  have pw21 : w.heap.size + 1 < w2.heap.size := by omega
  have pw22 : w.heap.size + 1 + 1 < w2.heap.size := by omega
  have pw23 : w.heap.size + 1 + 1 + 1 < w2.heap.size := by omega
  go_wp2_with fail
  refine (good_yes b _ hb Hb.out).mono ?_
  rintro e w3 ⟨rfl, hb3⟩
  obtain ⟨hc3, hf3⟩ := bcell hb3
  have hz3 := hb3.size
  have pw30 : w.heap.size < w3.heap.size := by omega
  have pw31 : w.heap.size + 1 < w3.heap.size := by omega
  have pw32 : w.heap.size + 1 + 1 < w3.heap.size := by omega
  have pw33 : w.heap.size + 1 + 1 + 1 < w3.heap.size := by omega
  go_wp2_with fail
  go_region
  go_wp2
  refine bodyPost_ret (v := .tuple #[rowV a, rowV b, .bool false]) ?_ rfl ⟨rfl, ?_⟩
  · simp only [results, Tryz.results94]
    go_simp
  · have k := (((((Below.refl _ w).alloc (Nat.le_refl _) _).alloc (by simp) _).alloc (by simp; omega) _).alloc (by simp; omega) _).trans (hb1.mono (by simp; omega)) |>.trans (hb2.mono (by omega)) |>.trans (hb3.mono (by omega))
    refine Below.drew ?_
    repeat first | with_reducible exact k | ((with_reducible refine Below.setCell ?_ ?_ _); rotate_left; (first | omega | (simp; omega)))

set_option maxHeartbeats 4000000 in
theorem meet_bad4 (a b : M.Row) (w : World) (ha : RowOk a) (hb : RowOk b) (h1 : M.body a = true) (h2 : M.body b = true) (h3 : 1 ≤ M.depth a.W b.W a.X b.X) (h4 : M.depth a.H b.H a.Y b.Y < 1) :
    Calls Tryz.prog 94 #[rowV a, rowV b] w fun e w' => e = .returned (.tuple #[rowV a, rowV b, .bool false]) ∧ Below w.heap.size w w' := by
  have Ha := Lib.hid h1
  clear h1
  have Hb := Lib.hid h2
  clear h2
  go_enter Tryz.func94, Tryz.ntmps94
  go_wp2_with fail
  refine (depth_calls a b _ (mid_of_body Ha.out) (mid_of_body Hb.out)).mono ?_
  rintro e w1 ⟨rfl, hb1⟩
  obtain ⟨hc1, hf1⟩ := bcell hb1
  have hz1 := hb1.size
  simp at hz1
  have pw10 : w.heap.size < w1.heap.size := by omega
  have pw11 : w.heap.size + 1 < w1.heap.size := by omega
  have pw12 : w.heap.size + 1 + 1 < w1.heap.size := by omega
  have pw13 : w.heap.size + 1 + 1 + 1 < w1.heap.size := by omega
  go_wp2_with fail
  refine (good_yes a _ ha Ha.out).mono ?_
  rintro e w2 ⟨rfl, hb2⟩
  obtain ⟨hc2, hf2⟩ := bcell hb2
  have hz2 := hb2.size
  have pw20 : w.heap.size < w2.heap.size := by omega
  have pw21 : w.heap.size + 1 < w2.heap.size := by omega
  have pw22 : w.heap.size + 1 + 1 < w2.heap.size := by omega
  have pw23 : w.heap.size + 1 + 1 + 1 < w2.heap.size := by omega
  go_wp2_with fail
  refine (good_yes b _ hb Hb.out).mono ?_
  rintro e w3 ⟨rfl, hb3⟩
  obtain ⟨hc3, hf3⟩ := bcell hb3
  have hz3 := hb3.size
  have pw30 : w.heap.size < w3.heap.size := by omega
  have pw31 : w.heap.size + 1 < w3.heap.size := by omega
  have pw32 : w.heap.size + 1 + 1 < w3.heap.size := by omega
  have pw33 : w.heap.size + 1 + 1 + 1 < w3.heap.size := by omega
  go_wp2_with fail
  go_region
  go_wp2
  refine bodyPost_ret (v := .tuple #[rowV a, rowV b, .bool false]) ?_ rfl ⟨rfl, ?_⟩
  · simp only [results, Tryz.results94]
    go_simp
  · have k := (((((Below.refl _ w).alloc (Nat.le_refl _) _).alloc (by simp) _).alloc (by simp; omega) _).alloc (by simp; omega) _).trans (hb1.mono (by simp; omega)) |>.trans (hb2.mono (by omega)) |>.trans (hb3.mono (by omega))
    refine Below.drew ?_
    repeat first | with_reducible exact k | ((with_reducible refine Below.setCell ?_ ?_ _); rotate_left; (first | omega | (simp; omega)))

set_option maxHeartbeats 4000000 in
theorem meet_fixed (a b : M.Row) (w : World) (ha : RowOk a) (hb : RowOk b) (h1 : M.body a = true) (h2 : M.body b = true) (h3 : 1 ≤ M.depth a.W b.W a.X b.X) (h4 : 1 ≤ M.depth a.H b.H a.Y b.Y) (h5 : a.M = 0) (h6 : b.M = 0) :
    Calls Tryz.prog 94 #[rowV a, rowV b] w fun e w' => e = .returned (.tuple #[rowV a, rowV b, .bool true]) ∧ Below w.heap.size w w' := by
  have g5 : 0 ≤ a.M ∧ a.M ≤ 0 := by omega
  have g6 : 0 ≤ b.M ∧ b.M ≤ 0 := by omega
  clear h5 h6
  have Ha := Lib.hid h1
  clear h1
  have Hb := Lib.hid h2
  clear h2
  go_enter Tryz.func94, Tryz.ntmps94
  go_wp2_with fail
  refine (depth_calls a b _ (mid_of_body Ha.out) (mid_of_body Hb.out)).mono ?_
  rintro e w1 ⟨rfl, hb1⟩
  obtain ⟨hc1, hf1⟩ := bcell hb1
  have hz1 := hb1.size
  simp at hz1
  have pw10 : w.heap.size < w1.heap.size := by omega
  have pw11 : w.heap.size + 1 < w1.heap.size := by omega
  have pw12 : w.heap.size + 1 + 1 < w1.heap.size := by omega
  have pw13 : w.heap.size + 1 + 1 + 1 < w1.heap.size := by omega
  go_wp2_with fail
  refine (good_yes a _ ha Ha.out).mono ?_
  rintro e w2 ⟨rfl, hb2⟩
  obtain ⟨hc2, hf2⟩ := bcell hb2
  have hz2 := hb2.size
  have pw20 : w.heap.size < w2.heap.size := by omega
  have pw21 : w.heap.size + 1 < w2.heap.size := by omega
  have pw22 : w.heap.size + 1 + 1 < w2.heap.size := by omega
  have pw23 : w.heap.size + 1 + 1 + 1 < w2.heap.size := by omega
  go_wp2_with fail
  refine (good_yes b _ hb Hb.out).mono ?_
  rintro e w3 ⟨rfl, hb3⟩
  obtain ⟨hc3, hf3⟩ := bcell hb3
  have hz3 := hb3.size
  have pw30 : w.heap.size < w3.heap.size := by omega
  have pw31 : w.heap.size + 1 < w3.heap.size := by omega
  have pw32 : w.heap.size + 1 + 1 < w3.heap.size := by omega
  have pw33 : w.heap.size + 1 + 1 + 1 < w3.heap.size := by omega
  go_wp2_with fail
  go_region
  go_wp2
  refine bodyPost_ret (v := .tuple #[rowV a, rowV b, .bool true]) ?_ rfl ⟨rfl, ?_⟩
  · simp only [results, Tryz.results94]
    go_simp
  · have k := (((((Below.refl _ w).alloc (Nat.le_refl _) _).alloc (by simp) _).alloc (by simp; omega) _).alloc (by simp; omega) _).trans (hb1.mono (by simp; omega)) |>.trans (hb2.mono (by omega)) |>.trans (hb3.mono (by omega))
    refine Below.drew ?_
    repeat first | with_reducible exact k | ((with_reducible refine Below.setCell ?_ ?_ _); rotate_left; (first | omega | (simp; omega)))

end Go.Proofs.YtkpecagkpjabdacGreat
