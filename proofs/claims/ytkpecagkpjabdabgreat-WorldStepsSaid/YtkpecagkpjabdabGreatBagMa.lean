/- Several small texts in one. No condition of its own: each part says its own. -/
import Derived.Test.YtkpecagkpjabdabGreatBagSo
import Derived.Test.YtkpecagkpjabdabGreatRowCells
import Derived.RegionTactic
import Derived.BigRegion
import Derived.ChangeAlike
import Derived.Laws.ResultCell
/- The contract of solve.line, along X and along Y. Condition: the rows' numbers lie within the bounds of things that may meet. -/
namespace Go.Proofs.YtkpecagkpjabdabGreat
open Go.RowKit
set_option linter.unusedVariables false
set_option linter.unusedSimpArgs false
set_option maxRecDepth 100000

set_option maxHeartbeats 4000000 in
theorem lineX_calls (a b : M.Row) (w : World) (bx bz : Nat) (va vb way dep : Int) (hx : Blk w bx 27 (rowC a)) (hy : Blk w bz 27 (rowC b)) (hne : bx ≠ bz)
    (a1 : 0 ≤ a.M ∧ a.M ≤ 9) (a2 : 0 ≤ a.R ∧ a.R ≤ 256) (b1 : 0 ≤ b.M ∧ b.M ≤ 9) (b2 : 0 ≤ b.R ∧ b.R ≤ 256)
    (h1 : -16777216 ≤ va ∧ va ≤ 16777216) (h2 : -16777216 ≤ vb ∧ vb ≤ 16777216) (h3 : 1 ≤ dep ∧ dep ≤ 8192) (h4 : -1 ≤ way ∧ way ≤ 1) :
    Calls Tryz.prog 98 #[.pointer (some ⟨bx, 0, none⟩), .pointer (some ⟨bz, 0, none⟩), .pointer (some ⟨bx, 2, none⟩), .pointer (some ⟨bz, 2, none⟩), .int .i64 va, .int .i64 vb, .int .i64 way, .int .i64 dep, rowV a, rowV b] w fun e w' =>
      e = .returned (.tuple #[]) ∧ Blk w' bx 27 (rowC { a with X := M.pa a.X way dep a.M b.M, PX := M.qa a.PX ((va - vb) * way) way a.M b.M a.R b.R })
        ∧ Blk w' bz 27 (rowC { b with X := M.pb b.X way dep a.M b.M, PX := M.qb b.PX ((va - vb) * way) way a.M b.M a.R b.R })
        ∧ ∀ B, B ≤ bx → B ≤ bz → Below B w w' := by
  have n1 := M.mul_bd (va - vb) way 33554432 1 (by omega) (by omega) (by omega) (by omega)
  have m1 := M.mOf_bd a.M b.M a1 b1
  have m2 := M.nOf_bd a.M b.M a1 b1
  have n2 := M.mul_bd ((va - vb) * way) (M.mOf a.M b.M) 33554432 81 (by omega) (by omega) (by omega) (by omega)
  have n4 := M.part_bd ((va - vb) * way * M.mOf a.M b.M) (256 + b.R) (M.nOf a.M b.M * 256)
  have n5 := M.part_bd ((va - vb) * way * M.mOf a.M b.M) (256 + a.R) (M.nOf a.M b.M * 256)
  have n6 := M.mul_bd (M.part ((va - vb) * way * M.mOf a.M b.M) (256 + b.R) (M.nOf a.M b.M * 256)) way 72057594037927936 1 (by omega) (by omega) (by omega) (by omega)
  have n7 := M.mul_bd (M.part ((va - vb) * way * M.mOf a.M b.M) (256 + a.R) (M.nOf a.M b.M * 256)) way 72057594037927936 1 (by omega) (by omega) (by omega) (by omega)
  have n8 := M.mul_bd (-(dep / 2)) way 8192 1 (by omega) (by omega) (by omega) (by omega)
  have n9 := M.mul_bd (dep - dep / 2) way 8192 1 (by omega) (by omega) (by omega) (by omega)
  have n10 := M.mul_bd (-dep) way 8192 1 (by omega) (by omega) (by omega) (by omega)
  have n11 := M.mul_bd dep way 8192 1 (by omega) (by omega) (by omega) (by omega)
  have lx := hx.lt
  have ly := hy.lt
  have F1 : ∀ o1 o2, ((w.alloc o1).alloc o2).cell? ⟨bx, 0, none⟩ = some (.int .i64 a.X) := fun o1 o2 => (rowX_facts ((hx.alloc o1).alloc o2)).1.1
  have F2 : ∀ o1 o2, ((w.alloc o1).alloc o2).cell? ⟨bz, 0, none⟩ = some (.int .i64 b.X) := fun o1 o2 => (rowX_facts ((hy.alloc o1).alloc o2)).1.1
  have F3 : ∀ o1 o2, ((w.alloc o1).alloc o2).frozen? ⟨bx, 0, none⟩ = false := fun o1 o2 => (rowX_facts ((hx.alloc o1).alloc o2)).2.1
  have F4 : ∀ o1 o2, ((w.alloc o1).alloc o2).frozen? ⟨bz, 0, none⟩ = false := fun o1 o2 => (rowX_facts ((hy.alloc o1).alloc o2)).2.1
  have F5 : ∀ v o1 o2, (((w.setCell ⟨bx, 0, none⟩ v).alloc o1).alloc o2).cell? ⟨bz, 0, none⟩ = some (.int .i64 b.X) := fun v o1 o2 => (rowX_facts (((hy.far (p := ⟨bx, 0, none⟩) hne.symm v).alloc o1).alloc o2)).1.1
  have F6 : ∀ v o1 o2, (((w.setCell ⟨bx, 0, none⟩ v).alloc o1).alloc o2).frozen? ⟨bz, 0, none⟩ = false := fun v o1 o2 => (rowX_facts (((hy.far (p := ⟨bx, 0, none⟩) hne.symm v).alloc o1).alloc o2)).2.1
  have HX := Lib.hid hx
  have HY := Lib.hid hy
  clear hx hy
  by_cases c1 : 0 < (va - vb) * way
  · by_cases c4 : b.R < a.R <;> by_cases c2 : 0 < a.M <;> by_cases c3 : 0 < b.M
    all_goals
      unfold M.pa M.pb M.qa M.qb M.jOf M.halfOf M.least
      repeat (first | rw [if_pos (by omega)] | rw [if_neg (by omega)])
      try rw [Int.sub_zero]
      go_enter Tryz.func98, Tryz.ntmps98
      go_wp2_with (first | (go_at_call 133; refine (weight_calls _ _ _ a1 b1).mono ?_; rintro e w1 ⟨rfl, hb1⟩; obtain ⟨hc1, hf1⟩ := bcell hb1; have hx1 := ((HX.out.alloc _).alloc _).below hb1 (by simp; omega); have hy1 := ((HY.out.alloc _).alloc _).below hb1 (by simp; omega); have HX1 := Lib.hid hx1; have HY1 := Lib.hid hy1; obtain ⟨⟨f0, f1⟩, g0, g1⟩ := rowX_facts hx1; obtain ⟨⟨f2, f3⟩, g2, g3⟩ := rowX_facts hy1; have lx1 := hx1.lt; have ly1 := hy1.lt; clear hx1 hy1) | (go_at_call 85; refine (part_calls _ _ _ _).mono ?_; rintro e w' ⟨rfl, rfl⟩) | (go_at_call 48; refine (add_calls _ _ _ _).mono ?_; rintro e w' ⟨rfl, rfl⟩))
      go_end0
      refine ⟨rfl, ?_, ?_, fun B hB1 hB2 => ?_⟩
      · apply blk_eq
        · repeat first | with_reducible exact HX1.out | with_reducible apply Blk.put | with_reducible apply Blk.far (hp := (by first | exact hne | exact hne.symm)) | with_reducible apply Blk.alloc
        · rfl
      · apply blk_eq
        · repeat first | with_reducible exact HY1.out | with_reducible apply Blk.put | with_reducible apply Blk.far (hp := (by first | exact hne | exact hne.symm)) | with_reducible apply Blk.alloc
        · rfl
      have hw1 := (((Below.refl B w).alloc (by omega) _).alloc (by simp; omega) _).trans (hb1.mono (B' := B) (by simp; omega))
      repeat first | with_reducible exact hw1 | ((with_reducible refine Below.setCell ?_ ?_ _); rotate_left; assumption) | ((with_reducible refine Below.alloc ?_ ?_ _); rotate_left; (first | omega | (simp; omega) | (simp [World.setCell]; omega)))
  · by_cases c2 : 0 < a.M <;> by_cases c3 : 0 < b.M
    all_goals
      unfold M.pa M.pb M.qa M.qb M.jOf M.halfOf M.least
      repeat (first | rw [if_pos (by omega)] | rw [if_neg (by omega)])
      try rw [Int.sub_zero]
      go_enter Tryz.func98, Tryz.ntmps98
      go_wp2_with (first | (go_at_call 133; refine (weight_calls _ _ _ a1 b1).mono ?_; rintro e w1 ⟨rfl, hb1⟩; obtain ⟨hc1, hf1⟩ := bcell hb1; have hx1 := ((HX.out.alloc _).alloc _).below hb1 (by simp; omega); have hy1 := ((HY.out.alloc _).alloc _).below hb1 (by simp; omega); have HX1 := Lib.hid hx1; have HY1 := Lib.hid hy1; obtain ⟨⟨f0, f1⟩, g0, g1⟩ := rowX_facts hx1; obtain ⟨⟨f2, f3⟩, g2, g3⟩ := rowX_facts hy1; have lx1 := hx1.lt; have ly1 := hy1.lt; clear hx1 hy1) | (go_at_call 85; refine (part_calls _ _ _ _).mono ?_; rintro e w' ⟨rfl, rfl⟩) | (go_at_call 48; refine (add_calls _ _ _ _).mono ?_; rintro e w' ⟨rfl, rfl⟩))
      go_end0
      refine ⟨rfl, ?_, ?_, fun B hB1 hB2 => ?_⟩
      · apply blk_eq
        · repeat first | with_reducible exact HX.out | with_reducible apply Blk.put | with_reducible apply Blk.far (hp := (by first | exact hne | exact hne.symm)) | with_reducible apply Blk.alloc
        · rfl
      · apply blk_eq
        · repeat first | with_reducible exact HY.out | with_reducible apply Blk.put | with_reducible apply Blk.far (hp := (by first | exact hne | exact hne.symm)) | with_reducible apply Blk.alloc
        · rfl
      repeat first | with_reducible exact Below.refl _ _ | ((with_reducible refine Below.setCell ?_ ?_ _); rotate_left; assumption) | ((with_reducible refine Below.alloc ?_ ?_ _); rotate_left; (first | omega | (simp; omega) | (simp [World.setCell]; omega)))

theorem rowY_facts {W : World} {b : Nat} {r : M.Row} (h : Blk W b 27 (rowC r)) : (W.cell? ⟨b, 1, none⟩ = some (.int .i64 r.Y) ∧ W.cell? ⟨b, 3, none⟩ = some (.int .i64 r.PY)) ∧ W.frozen? ⟨b, 1, none⟩ = false ∧ W.frozen? ⟨b, 3, none⟩ = false :=
  ⟨⟨h.cell 1, h.cell 3⟩, h.free 1, h.free 3⟩

set_option maxHeartbeats 4000000 in
theorem lineY_calls (a b : M.Row) (w : World) (bx bz : Nat) (va vb way dep : Int) (hx : Blk w bx 27 (rowC a)) (hy : Blk w bz 27 (rowC b)) (hne : bx ≠ bz)
    (a1 : 0 ≤ a.M ∧ a.M ≤ 9) (a2 : 0 ≤ a.R ∧ a.R ≤ 256) (b1 : 0 ≤ b.M ∧ b.M ≤ 9) (b2 : 0 ≤ b.R ∧ b.R ≤ 256)
    (h1 : -16777216 ≤ va ∧ va ≤ 16777216) (h2 : -16777216 ≤ vb ∧ vb ≤ 16777216) (h3 : 1 ≤ dep ∧ dep ≤ 8192) (h4 : -1 ≤ way ∧ way ≤ 1) :
    Calls Tryz.prog 98 #[.pointer (some ⟨bx, 1, none⟩), .pointer (some ⟨bz, 1, none⟩), .pointer (some ⟨bx, 3, none⟩), .pointer (some ⟨bz, 3, none⟩), .int .i64 va, .int .i64 vb, .int .i64 way, .int .i64 dep, rowV a, rowV b] w fun e w' =>
      e = .returned (.tuple #[]) ∧ Blk w' bx 27 (rowC { a with Y := M.pa a.Y way dep a.M b.M, PY := M.qa a.PY ((va - vb) * way) way a.M b.M a.R b.R })
        ∧ Blk w' bz 27 (rowC { b with Y := M.pb b.Y way dep a.M b.M, PY := M.qb b.PY ((va - vb) * way) way a.M b.M a.R b.R })
        ∧ ∀ B, B ≤ bx → B ≤ bz → Below B w w' := by
  have n1 := M.mul_bd (va - vb) way 33554432 1 (by omega) (by omega) (by omega) (by omega)
  have m1 := M.mOf_bd a.M b.M a1 b1
  have m2 := M.nOf_bd a.M b.M a1 b1
  have n2 := M.mul_bd ((va - vb) * way) (M.mOf a.M b.M) 33554432 81 (by omega) (by omega) (by omega) (by omega)
  have n4 := M.part_bd ((va - vb) * way * M.mOf a.M b.M) (256 + b.R) (M.nOf a.M b.M * 256)
  have n5 := M.part_bd ((va - vb) * way * M.mOf a.M b.M) (256 + a.R) (M.nOf a.M b.M * 256)
  have n6 := M.mul_bd (M.part ((va - vb) * way * M.mOf a.M b.M) (256 + b.R) (M.nOf a.M b.M * 256)) way 72057594037927936 1 (by omega) (by omega) (by omega) (by omega)
  have n7 := M.mul_bd (M.part ((va - vb) * way * M.mOf a.M b.M) (256 + a.R) (M.nOf a.M b.M * 256)) way 72057594037927936 1 (by omega) (by omega) (by omega) (by omega)
  have n8 := M.mul_bd (-(dep / 2)) way 8192 1 (by omega) (by omega) (by omega) (by omega)
  have n9 := M.mul_bd (dep - dep / 2) way 8192 1 (by omega) (by omega) (by omega) (by omega)
  have n10 := M.mul_bd (-dep) way 8192 1 (by omega) (by omega) (by omega) (by omega)
  have n11 := M.mul_bd dep way 8192 1 (by omega) (by omega) (by omega) (by omega)
  have lx := hx.lt
  have ly := hy.lt
  have F1 : ∀ o1 o2, ((w.alloc o1).alloc o2).cell? ⟨bx, 1, none⟩ = some (.int .i64 a.Y) := fun o1 o2 => (rowY_facts ((hx.alloc o1).alloc o2)).1.1
  have F2 : ∀ o1 o2, ((w.alloc o1).alloc o2).cell? ⟨bz, 1, none⟩ = some (.int .i64 b.Y) := fun o1 o2 => (rowY_facts ((hy.alloc o1).alloc o2)).1.1
  have F3 : ∀ o1 o2, ((w.alloc o1).alloc o2).frozen? ⟨bx, 1, none⟩ = false := fun o1 o2 => (rowY_facts ((hx.alloc o1).alloc o2)).2.1
  have F4 : ∀ o1 o2, ((w.alloc o1).alloc o2).frozen? ⟨bz, 1, none⟩ = false := fun o1 o2 => (rowY_facts ((hy.alloc o1).alloc o2)).2.1
  have F5 : ∀ v o1 o2, (((w.setCell ⟨bx, 1, none⟩ v).alloc o1).alloc o2).cell? ⟨bz, 1, none⟩ = some (.int .i64 b.Y) := fun v o1 o2 => (rowY_facts (((hy.far (p := ⟨bx, 1, none⟩) hne.symm v).alloc o1).alloc o2)).1.1
  have F6 : ∀ v o1 o2, (((w.setCell ⟨bx, 1, none⟩ v).alloc o1).alloc o2).frozen? ⟨bz, 1, none⟩ = false := fun v o1 o2 => (rowY_facts (((hy.far (p := ⟨bx, 1, none⟩) hne.symm v).alloc o1).alloc o2)).2.1
  have HX := Lib.hid hx
  have HY := Lib.hid hy
  clear hx hy
  by_cases c1 : 0 < (va - vb) * way
  · by_cases c4 : b.R < a.R <;> by_cases c2 : 0 < a.M <;> by_cases c3 : 0 < b.M
    all_goals
      unfold M.pa M.pb M.qa M.qb M.jOf M.halfOf M.least
      repeat (first | rw [if_pos (by omega)] | rw [if_neg (by omega)])
      try rw [Int.sub_zero]
      go_enter Tryz.func98, Tryz.ntmps98
      go_wp2_with (first | (go_at_call 133; refine (weight_calls _ _ _ a1 b1).mono ?_; rintro e w1 ⟨rfl, hb1⟩; obtain ⟨hc1, hf1⟩ := bcell hb1; have hx1 := ((HX.out.alloc _).alloc _).below hb1 (by simp; omega); have hy1 := ((HY.out.alloc _).alloc _).below hb1 (by simp; omega); have HX1 := Lib.hid hx1; have HY1 := Lib.hid hy1; obtain ⟨⟨f0, f1⟩, g0, g1⟩ := rowY_facts hx1; obtain ⟨⟨f2, f3⟩, g2, g3⟩ := rowY_facts hy1; have lx1 := hx1.lt; have ly1 := hy1.lt; clear hx1 hy1) | (go_at_call 85; refine (part_calls _ _ _ _).mono ?_; rintro e w' ⟨rfl, rfl⟩) | (go_at_call 48; refine (add_calls _ _ _ _).mono ?_; rintro e w' ⟨rfl, rfl⟩))
      go_end0
      refine ⟨rfl, ?_, ?_, fun B hB1 hB2 => ?_⟩
      · apply blk_eq
        · repeat first | with_reducible exact HX1.out | with_reducible apply Blk.put | with_reducible apply Blk.far (hp := (by first | exact hne | exact hne.symm)) | with_reducible apply Blk.alloc
        · rfl
      · apply blk_eq
        · repeat first | with_reducible exact HY1.out | with_reducible apply Blk.put | with_reducible apply Blk.far (hp := (by first | exact hne | exact hne.symm)) | with_reducible apply Blk.alloc
        · rfl
      have hw1 := (((Below.refl B w).alloc (by omega) _).alloc (by simp; omega) _).trans (hb1.mono (B' := B) (by simp; omega))
      repeat first | with_reducible exact hw1 | ((with_reducible refine Below.setCell ?_ ?_ _); rotate_left; assumption) | ((with_reducible refine Below.alloc ?_ ?_ _); rotate_left; (first | omega | (simp; omega) | (simp [World.setCell]; omega)))
  · by_cases c2 : 0 < a.M <;> by_cases c3 : 0 < b.M
    all_goals
      unfold M.pa M.pb M.qa M.qb M.jOf M.halfOf M.least
      repeat (first | rw [if_pos (by omega)] | rw [if_neg (by omega)])
      try rw [Int.sub_zero]
      go_enter Tryz.func98, Tryz.ntmps98
      go_wp2_with (first | (go_at_call 133; refine (weight_calls _ _ _ a1 b1).mono ?_; rintro e w1 ⟨rfl, hb1⟩; obtain ⟨hc1, hf1⟩ := bcell hb1; have hx1 := ((HX.out.alloc _).alloc _).below hb1 (by simp; omega); have hy1 := ((HY.out.alloc _).alloc _).below hb1 (by simp; omega); have HX1 := Lib.hid hx1; have HY1 := Lib.hid hy1; obtain ⟨⟨f0, f1⟩, g0, g1⟩ := rowY_facts hx1; obtain ⟨⟨f2, f3⟩, g2, g3⟩ := rowY_facts hy1; have lx1 := hx1.lt; have ly1 := hy1.lt; clear hx1 hy1) | (go_at_call 85; refine (part_calls _ _ _ _).mono ?_; rintro e w' ⟨rfl, rfl⟩) | (go_at_call 48; refine (add_calls _ _ _ _).mono ?_; rintro e w' ⟨rfl, rfl⟩))
      go_end0
      refine ⟨rfl, ?_, ?_, fun B hB1 hB2 => ?_⟩
      · apply blk_eq
        · repeat first | with_reducible exact HX.out | with_reducible apply Blk.put | with_reducible apply Blk.far (hp := (by first | exact hne | exact hne.symm)) | with_reducible apply Blk.alloc
        · rfl
      · apply blk_eq
        · repeat first | with_reducible exact HY.out | with_reducible apply Blk.put | with_reducible apply Blk.far (hp := (by first | exact hne | exact hne.symm)) | with_reducible apply Blk.alloc
        · rfl
      repeat first | with_reducible exact Below.refl _ _ | ((with_reducible refine Below.setCell ?_ ?_ _); rotate_left; assumption) | ((with_reducible refine Below.alloc ?_ ?_ _); rotate_left; (first | omega | (simp; omega) | (simp [World.setCell]; omega)))
end Go.Proofs.YtkpecagkpjabdabGreat
/- The contract of solve.Meet: it answers what the plain model says, for all rows. Condition: numbers of 64 bits. -/
namespace Go.Proofs.YtkpecagkpjabdabGreat
open Go.RowKit
set_option linter.unusedVariables false
set_option linter.unusedSimpArgs false
set_option maxRecDepth 100000

theorem good_yes (r : M.Row) (w : World) (h : RowOk r) (hb : M.body r = true) : Calls Tryz.prog 97 #[rowV r] w fun e w' => e = .returned (.bool true) ∧ Below w.heap.size w w' := by
  rw [← hb]; exact good_calls r w h
theorem good_no (r : M.Row) (w : World) (h : RowOk r) (hb : M.body r = false) : Calls Tryz.prog 97 #[rowV r] w fun e w' => e = .returned (.bool false) ∧ Below w.heap.size w w' := by
  rw [← hb]; exact good_calls r w h

theorem mid_of_body {r : M.Row} (h : M.body r = true) : RowMid r := by
  simp only [M.body, M.number, Bool.and_eq_true, decide_eq_true_eq] at h
  unfold RowMid
  omega
theorem body_facts {r : M.Row} (h : M.body r = true) : ((-1048576 ≤ r.X ∧ r.X ≤ 1048576) ∧ (-1048576 ≤ r.Y ∧ r.Y ≤ 1048576) ∧ (-16777216 ≤ r.PX ∧ r.PX ≤ 16777216) ∧ (-16777216 ≤ r.PY ∧ r.PY ≤ 16777216)) ∧ 1 ≤ r.W ∧ r.W ≤ 4096 ∧ 1 ≤ r.H ∧ r.H ≤ 4096 ∧ (0 ≤ r.M ∧ r.M ≤ 9) ∧ (0 ≤ r.R ∧ r.R ≤ 256) ∧ (0 < r.M ∨ r.PX = 0 ∧ r.PY = 0) := by
  simp only [M.body, M.number, Bool.and_eq_true, decide_eq_true_eq] at h
  omega

set_option maxHeartbeats 4000000 in
theorem meet_bad1 (a b : M.Row) (w : World) (ha : RowOk a) (hb : RowOk b) (h1 : M.body a = false) :
    Calls Tryz.prog 53 #[rowV a, rowV b] w fun e w' => e = .returned (.tuple #[rowV a, rowV b, .bool false]) ∧ Below w.heap.size w w' := by
  have Ha := Lib.hid h1
  clear h1
  go_enter Tryz.func53, Tryz.ntmps53
  go_wp2_with fail
  refine (depth_any _ _ _).mono ?_
  rintro e w1 ⟨⟨d1, d2, rfl⟩, hb1⟩
  obtain ⟨hc1, hf1⟩ := bcell hb1
  have hz1 := hb1.size
  simp at hz1
  have pw10 : w.heap.size < w1.heap.size := by omega
  have pw11 : w.heap.size + 1 < w1.heap.size := by omega
  have pw12 : w.heap.size + 1 + 1 < w1.heap.size := by omega
  have pw13 : w.heap.size + 1 + 1 + 1 < w1.heap.size := by omega
  go_wp2_with fail
  refine (good_no a _ ha Ha.out).mono ?_
  rintro e w2 ⟨rfl, hb2⟩
  obtain ⟨hc2, hf2⟩ := bcell hb2
  have hz2 := hb2.size
  have pw20 : w.heap.size < w2.heap.size := by omega
  have pw21 : w.heap.size + 1 < w2.heap.size := by omega
  have pw22 : w.heap.size + 1 + 1 < w2.heap.size := by omega
  have pw23 : w.heap.size + 1 + 1 + 1 < w2.heap.size := by omega
  go_wp2_with fail
  go_region
  go_wp2
  refine bodyPost_ret (v := .tuple #[rowV a, rowV b, .bool false]) ?_ rfl ⟨rfl, ?_⟩
  · simp only [results, Tryz.results53]
    go_simp
  · have k := (((((Below.refl _ w).alloc (Nat.le_refl _) _).alloc (by simp) _).alloc (by simp; omega) _).alloc (by simp; omega) _).trans (hb1.mono (by simp; omega)) |>.trans (hb2.mono (by omega))
    refine Below.drew ?_
    repeat first | with_reducible exact k | ((with_reducible refine Below.setCell ?_ ?_ _); rotate_left; (first | omega | (simp; omega)))

set_option maxHeartbeats 4000000 in
theorem meet_bad2 (a b : M.Row) (w : World) (ha : RowOk a) (hb : RowOk b) (h1 : M.body a = true) (h2 : M.body b = false) :
    Calls Tryz.prog 53 #[rowV a, rowV b] w fun e w' => e = .returned (.tuple #[rowV a, rowV b, .bool false]) ∧ Below w.heap.size w w' := by
  have Ha := Lib.hid h1
  clear h1
  have Hb := Lib.hid h2
  clear h2
  go_enter Tryz.func53, Tryz.ntmps53
  go_wp2_with fail
  refine (depth_any _ _ _).mono ?_
  rintro e w1 ⟨⟨d1, d2, rfl⟩, hb1⟩
  obtain ⟨hc1, hf1⟩ := bcell hb1
  have hz1 := hb1.size
  simp at hz1
  have pw10 : w.heap.size < w1.heap.size := by omega
  have pw11 : w.heap.size + 1 < w1.heap.size := by omega
  have pw12 : w.heap.size + 1 + 1 < w1.heap.size := by omega
  have pw13 : w.heap.size + 1 + 1 + 1 < w1.heap.size := by omega
  go_wp2_with fail
  refine (good_yes a _ ha Ha.out).mono ?_
  rintro e w2 ⟨rfl, hb2⟩
  obtain ⟨hc2, hf2⟩ := bcell hb2
  have hz2 := hb2.size
  have pw20 : w.heap.size < w2.heap.size := by omega
  have pw21 : w.heap.size + 1 < w2.heap.size := by omega
  have pw22 : w.heap.size + 1 + 1 < w2.heap.size := by omega
  have pw23 : w.heap.size + 1 + 1 + 1 < w2.heap.size := by omega
  go_wp2_with fail
  refine (good_no b _ hb Hb.out).mono ?_
  rintro e w3 ⟨rfl, hb3⟩
  obtain ⟨hc3, hf3⟩ := bcell hb3
  have hz3 := hb3.size
  have pw30 : w.heap.size < w3.heap.size := by omega
  have pw31 : w.heap.size + 1 < w3.heap.size := by omega
  have pw32 : w.heap.size + 1 + 1 < w3.heap.size := by omega
  have pw33 : w.heap.size + 1 + 1 + 1 < w3.heap.size := by omega
  go_wp2_with fail
  go_region
  go_wp2
  refine bodyPost_ret (v := .tuple #[rowV a, rowV b, .bool false]) ?_ rfl ⟨rfl, ?_⟩
  · simp only [results, Tryz.results53]
    go_simp
  · have k := (((((Below.refl _ w).alloc (Nat.le_refl _) _).alloc (by simp) _).alloc (by simp; omega) _).alloc (by simp; omega) _).trans (hb1.mono (by simp; omega)) |>.trans (hb2.mono (by omega)) |>.trans (hb3.mono (by omega))
    refine Below.drew ?_
    repeat first | with_reducible exact k | ((with_reducible refine Below.setCell ?_ ?_ _); rotate_left; (first | omega | (simp; omega)))

set_option maxHeartbeats 4000000 in
theorem meet_bad3 (a b : M.Row) (w : World) (ha : RowOk a) (hb : RowOk b) (h1 : M.body a = true) (h2 : M.body b = true) (h3 : M.depth a.W b.W a.X b.X < 1) :
    Calls Tryz.prog 53 #[rowV a, rowV b] w fun e w' => e = .returned (.tuple #[rowV a, rowV b, .bool false]) ∧ Below w.heap.size w w' := by
  have Ha := Lib.hid h1
  clear h1
  have Hb := Lib.hid h2
  clear h2
  go_enter Tryz.func53, Tryz.ntmps53
  go_wp2_with fail
  refine (depth_calls a b _ (mid_of_body Ha.out) (mid_of_body Hb.out)).mono ?_
  rintro e w1 ⟨rfl, hb1⟩
  obtain ⟨hc1, hf1⟩ := bcell hb1
  have hz1 := hb1.size
  simp at hz1
  have pw10 : w.heap.size < w1.heap.size := by omega
  have pw11 : w.heap.size + 1 < w1.heap.size := by omega
  have pw12 : w.heap.size + 1 + 1 < w1.heap.size := by omega
  have pw13 : w.heap.size + 1 + 1 + 1 < w1.heap.size := by omega
  go_wp2_with fail
  refine (good_yes a _ ha Ha.out).mono ?_
  rintro e w2 ⟨rfl, hb2⟩
  obtain ⟨hc2, hf2⟩ := bcell hb2
  have hz2 := hb2.size
  have pw20 : w.heap.size < w2.heap.size := by omega
  have pw21 : w.heap.size + 1 < w2.heap.size := by omega
  have pw22 : w.heap.size + 1 + 1 < w2.heap.size := by omega
  have pw23 : w.heap.size + 1 + 1 + 1 < w2.heap.size := by omega
  go_wp2_with fail
  refine (good_yes b _ hb Hb.out).mono ?_
  rintro e w3 ⟨rfl, hb3⟩
  obtain ⟨hc3, hf3⟩ := bcell hb3
  have hz3 := hb3.size
  have pw30 : w.heap.size < w3.heap.size := by omega
  have pw31 : w.heap.size + 1 < w3.heap.size := by omega
  have pw32 : w.heap.size + 1 + 1 < w3.heap.size := by omega
  have pw33 : w.heap.size + 1 + 1 + 1 < w3.heap.size := by omega
  go_wp2_with fail
  go_region
  go_wp2
  refine bodyPost_ret (v := .tuple #[rowV a, rowV b, .bool false]) ?_ rfl ⟨rfl, ?_⟩
  · simp only [results, Tryz.results53]
    go_simp
  · have k := (((((Below.refl _ w).alloc (Nat.le_refl _) _).alloc (by simp) _).alloc (by simp; omega) _).alloc (by simp; omega) _).trans (hb1.mono (by simp; omega)) |>.trans (hb2.mono (by omega)) |>.trans (hb3.mono (by omega))
    refine Below.drew ?_
    repeat first | with_reducible exact k | ((with_reducible refine Below.setCell ?_ ?_ _); rotate_left; (first | omega | (simp; omega)))

set_option maxHeartbeats 4000000 in
theorem meet_bad4 (a b : M.Row) (w : World) (ha : RowOk a) (hb : RowOk b) (h1 : M.body a = true) (h2 : M.body b = true) (h3 : 1 ≤ M.depth a.W b.W a.X b.X) (h4 : M.depth a.H b.H a.Y b.Y < 1) :
    Calls Tryz.prog 53 #[rowV a, rowV b] w fun e w' => e = .returned (.tuple #[rowV a, rowV b, .bool false]) ∧ Below w.heap.size w w' := by
  have Ha := Lib.hid h1
  clear h1
  have Hb := Lib.hid h2
  clear h2
  go_enter Tryz.func53, Tryz.ntmps53
  go_wp2_with fail
  refine (depth_calls a b _ (mid_of_body Ha.out) (mid_of_body Hb.out)).mono ?_
  rintro e w1 ⟨rfl, hb1⟩
  obtain ⟨hc1, hf1⟩ := bcell hb1
  have hz1 := hb1.size
  simp at hz1
  have pw10 : w.heap.size < w1.heap.size := by omega
  have pw11 : w.heap.size + 1 < w1.heap.size := by omega
  have pw12 : w.heap.size + 1 + 1 < w1.heap.size := by omega
  have pw13 : w.heap.size + 1 + 1 + 1 < w1.heap.size := by omega
  go_wp2_with fail
  refine (good_yes a _ ha Ha.out).mono ?_
  rintro e w2 ⟨rfl, hb2⟩
  obtain ⟨hc2, hf2⟩ := bcell hb2
  have hz2 := hb2.size
  have pw20 : w.heap.size < w2.heap.size := by omega
  have pw21 : w.heap.size + 1 < w2.heap.size := by omega
  have pw22 : w.heap.size + 1 + 1 < w2.heap.size := by omega
  have pw23 : w.heap.size + 1 + 1 + 1 < w2.heap.size := by omega
  go_wp2_with fail
  refine (good_yes b _ hb Hb.out).mono ?_
  rintro e w3 ⟨rfl, hb3⟩
  obtain ⟨hc3, hf3⟩ := bcell hb3
  have hz3 := hb3.size
  have pw30 : w.heap.size < w3.heap.size := by omega
  have pw31 : w.heap.size + 1 < w3.heap.size := by omega
  have pw32 : w.heap.size + 1 + 1 < w3.heap.size := by omega
  have pw33 : w.heap.size + 1 + 1 + 1 < w3.heap.size := by omega
  go_wp2_with fail
  go_region
  go_wp2
  refine bodyPost_ret (v := .tuple #[rowV a, rowV b, .bool false]) ?_ rfl ⟨rfl, ?_⟩
  · simp only [results, Tryz.results53]
    go_simp
  · have k := (((((Below.refl _ w).alloc (Nat.le_refl _) _).alloc (by simp) _).alloc (by simp; omega) _).alloc (by simp; omega) _).trans (hb1.mono (by simp; omega)) |>.trans (hb2.mono (by omega)) |>.trans (hb3.mono (by omega))
    refine Below.drew ?_
    repeat first | with_reducible exact k | ((with_reducible refine Below.setCell ?_ ?_ _); rotate_left; (first | omega | (simp; omega)))

set_option maxHeartbeats 4000000 in
theorem meet_fixed (a b : M.Row) (w : World) (ha : RowOk a) (hb : RowOk b) (h1 : M.body a = true) (h2 : M.body b = true) (h3 : 1 ≤ M.depth a.W b.W a.X b.X) (h4 : 1 ≤ M.depth a.H b.H a.Y b.Y) (h5 : a.M = 0) (h6 : b.M = 0) :
    Calls Tryz.prog 53 #[rowV a, rowV b] w fun e w' => e = .returned (.tuple #[rowV a, rowV b, .bool true]) ∧ Below w.heap.size w w' := by
  have g5 : 0 ≤ a.M ∧ a.M ≤ 0 := by omega
  have g6 : 0 ≤ b.M ∧ b.M ≤ 0 := by omega
  clear h5 h6
  have Ha := Lib.hid h1
  clear h1
  have Hb := Lib.hid h2
  clear h2
  go_enter Tryz.func53, Tryz.ntmps53
  go_wp2_with fail
  refine (depth_calls a b _ (mid_of_body Ha.out) (mid_of_body Hb.out)).mono ?_
  rintro e w1 ⟨rfl, hb1⟩
  obtain ⟨hc1, hf1⟩ := bcell hb1
  have hz1 := hb1.size
  simp at hz1
  have pw10 : w.heap.size < w1.heap.size := by omega
  have pw11 : w.heap.size + 1 < w1.heap.size := by omega
  have pw12 : w.heap.size + 1 + 1 < w1.heap.size := by omega
  have pw13 : w.heap.size + 1 + 1 + 1 < w1.heap.size := by omega
  go_wp2_with fail
  refine (good_yes a _ ha Ha.out).mono ?_
  rintro e w2 ⟨rfl, hb2⟩
  obtain ⟨hc2, hf2⟩ := bcell hb2
  have hz2 := hb2.size
  have pw20 : w.heap.size < w2.heap.size := by omega
  have pw21 : w.heap.size + 1 < w2.heap.size := by omega
  have pw22 : w.heap.size + 1 + 1 < w2.heap.size := by omega
  have pw23 : w.heap.size + 1 + 1 + 1 < w2.heap.size := by omega
  go_wp2_with fail
  refine (good_yes b _ hb Hb.out).mono ?_
  rintro e w3 ⟨rfl, hb3⟩
  obtain ⟨hc3, hf3⟩ := bcell hb3
  have hz3 := hb3.size
  have pw30 : w.heap.size < w3.heap.size := by omega
  have pw31 : w.heap.size + 1 < w3.heap.size := by omega
  have pw32 : w.heap.size + 1 + 1 < w3.heap.size := by omega
  have pw33 : w.heap.size + 1 + 1 + 1 < w3.heap.size := by omega
  go_wp2_with fail
  go_region
  go_wp2
  refine bodyPost_ret (v := .tuple #[rowV a, rowV b, .bool true]) ?_ rfl ⟨rfl, ?_⟩
  · simp only [results, Tryz.results53]
    go_simp
  · have k := (((((Below.refl _ w).alloc (Nat.le_refl _) _).alloc (by simp) _).alloc (by simp; omega) _).alloc (by simp; omega) _).trans (hb1.mono (by simp; omega)) |>.trans (hb2.mono (by omega)) |>.trans (hb3.mono (by omega))
    refine Below.drew ?_
    repeat first | with_reducible exact k | ((with_reducible refine Below.setCell ?_ ?_ _); rotate_left; (first | omega | (simp; omega)))

end Go.Proofs.YtkpecagkpjabdabGreat
