/- The contract of solve.Meet where one of the two moves. Condition: numbers of 64 bits, both may meet. -/
import Derived.Test.YtkpecagkpjabdabGreatBagMa
import Derived.Deep.DeepCutAuto
namespace Go.Proofs.YtkpecagkpjabdabGreat
open Go.RowKit
set_option linter.unusedVariables false
set_option linter.unusedSimpArgs false
set_option maxRecDepth 100000

/-- two rows in two blocks of their own -/
def TwoRows (a b : M.Row) (w0 : World) (p q : Value) (W : World) : Prop :=
  ∃ bx bz, p = .pointer (some ⟨bx, 0, none⟩) ∧ q = .pointer (some ⟨bz, 0, none⟩) ∧ bx ≠ bz ∧ Blk W bx 27 (rowC a) ∧ Blk W bz 27 (rowC b) ∧ w0.heap.size ≤ bx ∧ w0.heap.size ≤ bz ∧ Below w0.heap.size w0 W

theorem two_rows1 (a b : M.Row) (w0 : World) : TwoRows a b w0 (.pointer (some ⟨w0.heap.size, 0, none⟩)) (.pointer (some ⟨w0.heap.size + 1, 0, none⟩)) ((w0.alloc (.cells (rowC a) 27)).alloc (.cells (rowC b) 27)).drew :=
  ⟨_, _, rfl, rfl, by omega, ((Blk.new w0 _ _).alloc _).drew, by have h := Blk.new (w0.alloc (.cells (rowC a) 27)) 27 (rowC b); simp at h; exact h, by omega, by omega, (((Below.refl _ w0).alloc (Nat.le_refl _) _).alloc (by simp) _).drew⟩
theorem two_rows2 (a b : M.Row) (w0 : World) : TwoRows a b w0 (.pointer (some ⟨w0.heap.size + 1, 0, none⟩)) (.pointer (some ⟨w0.heap.size, 0, none⟩)) ((w0.alloc (.cells (rowC b) 27)).alloc (.cells (rowC a) 27)).drew :=
  ⟨_, _, rfl, rfl, by omega, by have h := Blk.new (w0.alloc (.cells (rowC b) 27)) 27 (rowC a); simp at h; exact h, ((Blk.new w0 _ _).alloc _).drew, by omega, by omega, (((Below.refl _ w0).alloc (Nat.le_refl _) _).alloc (by simp) _).drew⟩
theorem part1_bd (n b : Int) (h : -16777216 ≤ n ∧ n ≤ 16777216) : -16777216 ≤ M.part n 1 b ∧ M.part n 1 b ≤ 16777216 := by
  unfold M.part
  split
  · omega
  · rw [M.within_id n _ (by omega) (by omega), M.within_id 1 _ (by omega) (by omega), Int.mul_one]
    exact M.tdiv_bd _ _ _ (by omega) (by omega)
theorem depth_hi {a b : M.Row} (ha : M.body a = true) (hb : M.body b = true) : M.depth a.W b.W a.X b.X ≤ 8192 ∧ M.depth a.H b.H a.Y b.Y ≤ 8192 := by
  have fa := body_facts ha
  have fb := body_facts hb
  unfold M.depth M.abs
  constructor <;> split <;> omega
/-- the cells of a row, one by one -/
theorem row_cells {W : World} {b : Nat} {r : M.Row} (h : Blk W b 27 (rowC r)) : W.cell? ⟨b, 0, none⟩ = some (.int .i64 r.X) ∧ W.cell? ⟨b, 1, none⟩ = some (.int .i64 r.Y) ∧ W.cell? ⟨b, 2, none⟩ = some (.int .i64 r.PX) ∧ W.cell? ⟨b, 3, none⟩ = some (.int .i64 r.PY) ∧ W.cell? ⟨b, 4, none⟩ = some (.int .i64 r.W) ∧ W.cell? ⟨b, 5, none⟩ = some (.int .i64 r.H) ∧ W.cell? ⟨b, 6, none⟩ = some (.int .i64 r.M) ∧ W.cell? ⟨b, 7, none⟩ = some (.int .i64 r.R) :=
  ⟨h.cell 0, h.cell 1, h.cell 2, h.cell 3, h.cell 4, h.cell 5, h.cell 6, h.cell 7⟩

set_option maxHeartbeats 4000000 in
set_option maxRecDepth 100000 in
theorem meet_move1 (a b : M.Row) (w : World) (ha : RowOk a) (hb : RowOk b) (h1 : M.body a = true) (h2 : M.body b = true) (h3 : 1 ≤ M.depth a.W b.W a.X b.X) (h4 : 1 ≤ M.depth a.H b.H a.Y b.Y) (h5 : 0 < a.M) :
    Calls Tryz.prog 53 #[rowV a, rowV b] w fun e w' => e = .returned (.tuple #[rowV (M.meetR a b).1, rowV (M.meetR a b).2, .bool true]) ∧ Below w.heap.size w w' := by
  have Ha := Lib.hid h1
  clear h1
  have Hb := Lib.hid h2
  clear h2
  go_enter Tryz.func53, Tryz.ntmps53
  go_wp2_with fail
  refine (depth_calls a b _ (mid_of_body Ha.out) (mid_of_body Hb.out)).mono ?_
  rintro e w1 ⟨rfl, hb1⟩
  obtain ⟨hc1, hf1⟩ := bcell hb1
  have hz1 := hb1.size
  simp at hz1
  have pw10 : w.heap.size < w1.heap.size := by omega
  have pw11 : w.heap.size + 1 < w1.heap.size := by omega
  have pw12 : w.heap.size + 1 + 1 < w1.heap.size := by omega
  have pw13 : w.heap.size + 1 + 1 + 1 < w1.heap.size := by omega
  go_wp2_with fail
  refine (good_yes a _ ha Ha.out).mono ?_
  rintro e w2 ⟨rfl, hb2⟩
  obtain ⟨hc2, hf2⟩ := bcell hb2
  have hz2 := hb2.size
  have pw20 : w.heap.size < w2.heap.size := by omega
  have pw21 : w.heap.size + 1 < w2.heap.size := by omega
  have pw22 : w.heap.size + 1 + 1 < w2.heap.size := by omega
  have pw23 : w.heap.size + 1 + 1 + 1 < w2.heap.size := by omega
  go_wp2_with fail
  refine (good_yes b _ hb Hb.out).mono ?_
  rintro e w3 ⟨rfl, hb3⟩
  obtain ⟨hc3, hf3⟩ := bcell hb3
  have hz3 := hb3.size
  have pw30 : w.heap.size < w3.heap.size := by omega
  have pw31 : w.heap.size + 1 < w3.heap.size := by omega
  have pw32 : w.heap.size + 1 + 1 < w3.heap.size := by omega
  have pw33 : w.heap.size + 1 + 1 + 1 < w3.heap.size := by omega
  go_upto_region 6 with fail
  go_cut [9, 10] (fun p q W => TwoRows a b w3 p q W)
  case first =>
    go_region
    all_goals
      go_wp2_with fail
      go_meet
      first | with_reducible exact two_rows1 a b w3 | with_reducible exact two_rows2 a b w3
  case rest =>
    obtain ⟨bx, bz, rfl, rfl, hne, hx4, hy4, lx, lz, hb4⟩ := hcut
    obtain ⟨hc4, hf4⟩ := bcell hb4
    have hz4 := hb4.size
    have pwc0 : w.heap.size < wc.heap.size := by omega
    have pwc1 : w.heap.size + 1 < wc.heap.size := by omega
    have pwc2 : w.heap.size + 1 + 1 < wc.heap.size := by omega
    have pwc3 : w.heap.size + 1 + 1 + 1 < wc.heap.size := by omega
    have lx4 := hx4.lt
    have ly4 := hy4.lt
    have HX4 := Lib.hid hx4
    have HY4 := Lib.hid hy4
    clear hx4 hy4
    go_wp2_with fail
    refine (speed_calls a _).mono ?_
    rintro e w5 ⟨rfl, hb5⟩
    obtain ⟨hc5, hf5⟩ := bcell hb5
    have hz5 := hb5.size
    have pw50 : w.heap.size < w5.heap.size := by omega
    have pw51 : w.heap.size + 1 < w5.heap.size := by omega
    have pw52 : w.heap.size + 1 + 1 < w5.heap.size := by omega
    have pw53 : w.heap.size + 1 + 1 + 1 < w5.heap.size := by omega
    go_wp2_with fail
    refine (speed_calls b _).mono ?_
    rintro e w6 ⟨rfl, hb6⟩
    obtain ⟨hc6, hf6⟩ := bcell hb6
    have hz6 := hb6.size
    have pw60 : w.heap.size < w6.heap.size := by omega
    have pw61 : w.heap.size + 1 < w6.heap.size := by omega
    have pw62 : w.heap.size + 1 + 1 < w6.heap.size := by omega
    have pw63 : w.heap.size + 1 + 1 + 1 < w6.heap.size := by omega
    have hx6 := (HX4.out.below hb5 (by omega)).below hb6 (by omega)
    have hy6 := (HY4.out.below hb5 (by omega)).below hb6 (by omega)
    have HX6 := Lib.hid hx6
    have HY6 := Lib.hid hy6
    clear hx6 hy6
    obtain ⟨⟨fa1, fa2, fa3, fa4⟩, fa5, fa6, fa7, fa8, fa9, fa10, fa11⟩ := body_facts Ha.out
    obtain ⟨⟨fb1, fb2, fb3, fb4⟩, fb5, fb6, fb7, fb8, fb9, fb10, fb11⟩ := body_facts Hb.out
    have dh := depth_hi Ha.out Hb.out
    clear fa11 fb11
    have K : Below w.heap.size w w6 := (((((Below.refl _ w).alloc (Nat.le_refl _) _).alloc (by simp) _).alloc (by simp; omega) _).alloc (by simp; omega) _).trans (hb1.mono (by simp; omega)) |>.trans (hb2.mono (by omega)) |>.trans (hb3.mono (by omega)) |>.trans (hb4.mono (by omega)) |>.trans (hb5.mono (by omega)) |>.trans (hb6.mono (by omega))
    have HK := Lib.hid K
    clear K
    by_cases h7 : M.depth a.W b.W a.X b.X < M.depth a.H b.H a.Y b.Y
    · by_cases h8 : b.X < a.X
      · have EM : M.meetR a b = ({ a with X := M.pa a.X (-1) (M.depth a.W b.W a.X b.X) a.M b.M, PX := M.qa a.PX ((M.part a.PX 1 a.M - M.part b.PX 1 b.M) * (-1)) (-1) a.M b.M a.R b.R }, { b with X := M.pb b.X (-1) (M.depth a.W b.W a.X b.X) a.M b.M, PX := M.qb b.PX ((M.part a.PX 1 a.M - M.part b.PX 1 b.M) * (-1)) (-1) a.M b.M a.R b.R }) := by unfold M.meetR M.meetX M.meetY M.wayOf; rw [if_pos h7, if_pos h8]
        have HM := Lib.hid EM
        clear EM
        go_wp2_with fail
        refine (lineX_calls a b _ bx bz _ _ _ _ HX6.out HY6.out hne fa9 fa10 fb9 fb10 (part1_bd _ _ fa3) (part1_bd _ _ fb3) (by omega) (by omega)).mono ?_
        rintro e w7 ⟨rfl, hx7, hy7, hb7⟩
        have hb7 := hb7 w3.heap.size lx lz
        have hz7 := hb7.size
        have hc7 : ∀ b o, b < w3.heap.size → w7.cell? ⟨b, o, none⟩ = w6.cell? ⟨b, o, none⟩ := fun b o h => hb7.cell (p := ⟨b, o, none⟩) h
        have hf7 : ∀ b o, b < w3.heap.size → w7.frozen? ⟨b, o, none⟩ = w6.frozen? ⟨b, o, none⟩ := fun b o h => hb7.frozen (p := ⟨b, o, none⟩) h
        obtain ⟨x0, x1, x2, x3, x4, x5, x6, x7⟩ := row_cells hx7
        obtain ⟨y0, y1, y2, y3, y4, y5, y6, y7⟩ := row_cells hy7
        clear hx7 hy7
        have nx2 : w.heap.size + 1 + 1 ≠ bx := by omega
        have nx3 : w.heap.size + 1 + 1 + 1 ≠ bx := by omega
        have nz2 : w.heap.size + 1 + 1 ≠ bz := by omega
        have nz3 : w.heap.size + 1 + 1 + 1 ≠ bz := by omega
        go_wp2_with fail
        go_region
        go_wp2
        refine bodyPost_ret (v := .tuple #[rowV { a with X := M.pa a.X (-1) (M.depth a.W b.W a.X b.X) a.M b.M, PX := M.qa a.PX ((M.part a.PX 1 a.M - M.part b.PX 1 b.M) * (-1)) (-1) a.M b.M a.R b.R }, rowV { b with X := M.pb b.X (-1) (M.depth a.W b.W a.X b.X) a.M b.M, PX := M.qb b.PX ((M.part a.PX 1 a.M - M.part b.PX 1 b.M) * (-1)) (-1) a.M b.M a.R b.R }, .bool true]) ?_ rfl ⟨by rw [HM.out], ?_⟩
        · simp only [results, Tryz.results53]
          go_simp
        · have k := HK.out.trans (hb7.mono (by omega))
          refine Below.drew ?_
          repeat first | with_reducible exact k | ((with_reducible refine Below.setCell ?_ ?_ _); rotate_left; (first | omega | (simp; omega)))
      · have EM : M.meetR a b = ({ a with X := M.pa a.X 1 (M.depth a.W b.W a.X b.X) a.M b.M, PX := M.qa a.PX ((M.part a.PX 1 a.M - M.part b.PX 1 b.M) * 1) 1 a.M b.M a.R b.R }, { b with X := M.pb b.X 1 (M.depth a.W b.W a.X b.X) a.M b.M, PX := M.qb b.PX ((M.part a.PX 1 a.M - M.part b.PX 1 b.M) * 1) 1 a.M b.M a.R b.R }) := by unfold M.meetR M.meetX M.meetY M.wayOf; rw [if_pos h7, if_neg h8]
        have HM := Lib.hid EM
        clear EM
        go_wp2_with fail
        refine (lineX_calls a b _ bx bz _ _ _ _ HX6.out HY6.out hne fa9 fa10 fb9 fb10 (part1_bd _ _ fa3) (part1_bd _ _ fb3) (by omega) (by omega)).mono ?_
        rintro e w7 ⟨rfl, hx7, hy7, hb7⟩
        have hb7 := hb7 w3.heap.size lx lz
        have hz7 := hb7.size
        have hc7 : ∀ b o, b < w3.heap.size → w7.cell? ⟨b, o, none⟩ = w6.cell? ⟨b, o, none⟩ := fun b o h => hb7.cell (p := ⟨b, o, none⟩) h
        have hf7 : ∀ b o, b < w3.heap.size → w7.frozen? ⟨b, o, none⟩ = w6.frozen? ⟨b, o, none⟩ := fun b o h => hb7.frozen (p := ⟨b, o, none⟩) h
        obtain ⟨x0, x1, x2, x3, x4, x5, x6, x7⟩ := row_cells hx7
        obtain ⟨y0, y1, y2, y3, y4, y5, y6, y7⟩ := row_cells hy7
        clear hx7 hy7
        have nx2 : w.heap.size + 1 + 1 ≠ bx := by omega
        have nx3 : w.heap.size + 1 + 1 + 1 ≠ bx := by omega
        have nz2 : w.heap.size + 1 + 1 ≠ bz := by omega
        have nz3 : w.heap.size + 1 + 1 + 1 ≠ bz := by omega
        go_wp2_with fail
        go_region
        go_wp2
        refine bodyPost_ret (v := .tuple #[rowV { a with X := M.pa a.X 1 (M.depth a.W b.W a.X b.X) a.M b.M, PX := M.qa a.PX ((M.part a.PX 1 a.M - M.part b.PX 1 b.M) * 1) 1 a.M b.M a.R b.R }, rowV { b with X := M.pb b.X 1 (M.depth a.W b.W a.X b.X) a.M b.M, PX := M.qb b.PX ((M.part a.PX 1 a.M - M.part b.PX 1 b.M) * 1) 1 a.M b.M a.R b.R }, .bool true]) ?_ rfl ⟨by rw [HM.out], ?_⟩
        · simp only [results, Tryz.results53]
          go_simp
        · have k := HK.out.trans (hb7.mono (by omega))
          refine Below.drew ?_
          repeat first | with_reducible exact k | ((with_reducible refine Below.setCell ?_ ?_ _); rotate_left; (first | omega | (simp; omega)))
    · by_cases h8 : b.Y < a.Y
      · have EM : M.meetR a b = ({ a with Y := M.pa a.Y (-1) (M.depth a.H b.H a.Y b.Y) a.M b.M, PY := M.qa a.PY ((M.part a.PY 1 a.M - M.part b.PY 1 b.M) * (-1)) (-1) a.M b.M a.R b.R }, { b with Y := M.pb b.Y (-1) (M.depth a.H b.H a.Y b.Y) a.M b.M, PY := M.qb b.PY ((M.part a.PY 1 a.M - M.part b.PY 1 b.M) * (-1)) (-1) a.M b.M a.R b.R }) := by unfold M.meetR M.meetX M.meetY M.wayOf; rw [if_neg h7, if_pos h8]
        have HM := Lib.hid EM
        clear EM
        go_wp2_with fail
        refine (lineY_calls a b _ bx bz _ _ _ _ HX6.out HY6.out hne fa9 fa10 fb9 fb10 (part1_bd _ _ fa4) (part1_bd _ _ fb4) (by omega) (by omega)).mono ?_
        rintro e w7 ⟨rfl, hx7, hy7, hb7⟩
        have hb7 := hb7 w3.heap.size lx lz
        have hz7 := hb7.size
        have hc7 : ∀ b o, b < w3.heap.size → w7.cell? ⟨b, o, none⟩ = w6.cell? ⟨b, o, none⟩ := fun b o h => hb7.cell (p := ⟨b, o, none⟩) h
        have hf7 : ∀ b o, b < w3.heap.size → w7.frozen? ⟨b, o, none⟩ = w6.frozen? ⟨b, o, none⟩ := fun b o h => hb7.frozen (p := ⟨b, o, none⟩) h
        obtain ⟨x0, x1, x2, x3, x4, x5, x6, x7⟩ := row_cells hx7
        obtain ⟨y0, y1, y2, y3, y4, y5, y6, y7⟩ := row_cells hy7
        clear hx7 hy7
        have nx2 : w.heap.size + 1 + 1 ≠ bx := by omega
        have nx3 : w.heap.size + 1 + 1 + 1 ≠ bx := by omega
        have nz2 : w.heap.size + 1 + 1 ≠ bz := by omega
        have nz3 : w.heap.size + 1 + 1 + 1 ≠ bz := by omega
        go_wp2_with fail
        go_region
        go_wp2
        refine bodyPost_ret (v := .tuple #[rowV { a with Y := M.pa a.Y (-1) (M.depth a.H b.H a.Y b.Y) a.M b.M, PY := M.qa a.PY ((M.part a.PY 1 a.M - M.part b.PY 1 b.M) * (-1)) (-1) a.M b.M a.R b.R }, rowV { b with Y := M.pb b.Y (-1) (M.depth a.H b.H a.Y b.Y) a.M b.M, PY := M.qb b.PY ((M.part a.PY 1 a.M - M.part b.PY 1 b.M) * (-1)) (-1) a.M b.M a.R b.R }, .bool true]) ?_ rfl ⟨by rw [HM.out], ?_⟩
        · simp only [results, Tryz.results53]
          go_simp
        · have k := HK.out.trans (hb7.mono (by omega))
          refine Below.drew ?_
          repeat first | with_reducible exact k | ((with_reducible refine Below.setCell ?_ ?_ _); rotate_left; (first | omega | (simp; omega)))
      · have EM : M.meetR a b = ({ a with Y := M.pa a.Y 1 (M.depth a.H b.H a.Y b.Y) a.M b.M, PY := M.qa a.PY ((M.part a.PY 1 a.M - M.part b.PY 1 b.M) * 1) 1 a.M b.M a.R b.R }, { b with Y := M.pb b.Y 1 (M.depth a.H b.H a.Y b.Y) a.M b.M, PY := M.qb b.PY ((M.part a.PY 1 a.M - M.part b.PY 1 b.M) * 1) 1 a.M b.M a.R b.R }) := by unfold M.meetR M.meetX M.meetY M.wayOf; rw [if_neg h7, if_neg h8]
        have HM := Lib.hid EM
        clear EM
        go_wp2_with fail
        refine (lineY_calls a b _ bx bz _ _ _ _ HX6.out HY6.out hne fa9 fa10 fb9 fb10 (part1_bd _ _ fa4) (part1_bd _ _ fb4) (by omega) (by omega)).mono ?_
        rintro e w7 ⟨rfl, hx7, hy7, hb7⟩
        have hb7 := hb7 w3.heap.size lx lz
        have hz7 := hb7.size
        have hc7 : ∀ b o, b < w3.heap.size → w7.cell? ⟨b, o, none⟩ = w6.cell? ⟨b, o, none⟩ := fun b o h => hb7.cell (p := ⟨b, o, none⟩) h
        have hf7 : ∀ b o, b < w3.heap.size → w7.frozen? ⟨b, o, none⟩ = w6.frozen? ⟨b, o, none⟩ := fun b o h => hb7.frozen (p := ⟨b, o, none⟩) h
        obtain ⟨x0, x1, x2, x3, x4, x5, x6, x7⟩ := row_cells hx7
        obtain ⟨y0, y1, y2, y3, y4, y5, y6, y7⟩ := row_cells hy7
        clear hx7 hy7
        have nx2 : w.heap.size + 1 + 1 ≠ bx := by omega
        have nx3 : w.heap.size + 1 + 1 + 1 ≠ bx := by omega
        have nz2 : w.heap.size + 1 + 1 ≠ bz := by omega
        have nz3 : w.heap.size + 1 + 1 + 1 ≠ bz := by omega
        go_wp2_with fail
        go_region
        go_wp2
        refine bodyPost_ret (v := .tuple #[rowV { a with Y := M.pa a.Y 1 (M.depth a.H b.H a.Y b.Y) a.M b.M, PY := M.qa a.PY ((M.part a.PY 1 a.M - M.part b.PY 1 b.M) * 1) 1 a.M b.M a.R b.R }, rowV { b with Y := M.pb b.Y 1 (M.depth a.H b.H a.Y b.Y) a.M b.M, PY := M.qb b.PY ((M.part a.PY 1 a.M - M.part b.PY 1 b.M) * 1) 1 a.M b.M a.R b.R }, .bool true]) ?_ rfl ⟨by rw [HM.out], ?_⟩
        · simp only [results, Tryz.results53]
          go_simp
        · have k := HK.out.trans (hb7.mono (by omega))
          refine Below.drew ?_
          repeat first | with_reducible exact k | ((with_reducible refine Below.setCell ?_ ?_ _); rotate_left; (first | omega | (simp; omega)))

set_option maxHeartbeats 4000000 in
set_option maxRecDepth 100000 in
theorem meet_move2 (a b : M.Row) (w : World) (ha : RowOk a) (hb : RowOk b) (h1 : M.body a = true) (h2 : M.body b = true) (h3 : 1 ≤ M.depth a.W b.W a.X b.X) (h4 : 1 ≤ M.depth a.H b.H a.Y b.Y) (h5 : 0 ≤ a.M ∧ a.M ≤ 0) (h6 : 0 < b.M) :
    Calls Tryz.prog 53 #[rowV a, rowV b] w fun e w' => e = .returned (.tuple #[rowV (M.meetR a b).1, rowV (M.meetR a b).2, .bool true]) ∧ Below w.heap.size w w' := by
  have e5 : (a.M == 0) = true := by simp; omega
  have e6 : (b.M == 0) = false := by simp; omega
  have Ha := Lib.hid h1
  clear h1
  have Hb := Lib.hid h2
  clear h2
  go_enter Tryz.func53, Tryz.ntmps53
  go_wp2_with fail
  refine (depth_calls a b _ (mid_of_body Ha.out) (mid_of_body Hb.out)).mono ?_
  rintro e w1 ⟨rfl, hb1⟩
  obtain ⟨hc1, hf1⟩ := bcell hb1
  have hz1 := hb1.size
  simp at hz1
  have pw10 : w.heap.size < w1.heap.size := by omega
  have pw11 : w.heap.size + 1 < w1.heap.size := by omega
  have pw12 : w.heap.size + 1 + 1 < w1.heap.size := by omega
  have pw13 : w.heap.size + 1 + 1 + 1 < w1.heap.size := by omega
  go_wp2_with fail
  refine (good_yes a _ ha Ha.out).mono ?_
  rintro e w2 ⟨rfl, hb2⟩
  obtain ⟨hc2, hf2⟩ := bcell hb2
  have hz2 := hb2.size
  have pw20 : w.heap.size < w2.heap.size := by omega
  have pw21 : w.heap.size + 1 < w2.heap.size := by omega
  have pw22 : w.heap.size + 1 + 1 < w2.heap.size := by omega
  have pw23 : w.heap.size + 1 + 1 + 1 < w2.heap.size := by omega
  go_wp2_with fail
  refine (good_yes b _ hb Hb.out).mono ?_
  rintro e w3 ⟨rfl, hb3⟩
  obtain ⟨hc3, hf3⟩ := bcell hb3
  have hz3 := hb3.size
  have pw30 : w.heap.size < w3.heap.size := by omega
  have pw31 : w.heap.size + 1 < w3.heap.size := by omega
  have pw32 : w.heap.size + 1 + 1 < w3.heap.size := by omega
  have pw33 : w.heap.size + 1 + 1 + 1 < w3.heap.size := by omega
  go_upto_region 6 with fail
  go_cut [9, 10] (fun p q W => TwoRows a b w3 p q W)
  case first =>
    go_region
    all_goals
      go_wp2_with fail
      go_meet
      first | with_reducible exact two_rows1 a b w3 | with_reducible exact two_rows2 a b w3
  case rest =>
    obtain ⟨bx, bz, rfl, rfl, hne, hx4, hy4, lx, lz, hb4⟩ := hcut
    obtain ⟨hc4, hf4⟩ := bcell hb4
    have hz4 := hb4.size
    have pwc0 : w.heap.size < wc.heap.size := by omega
    have pwc1 : w.heap.size + 1 < wc.heap.size := by omega
    have pwc2 : w.heap.size + 1 + 1 < wc.heap.size := by omega
    have pwc3 : w.heap.size + 1 + 1 + 1 < wc.heap.size := by omega
    have lx4 := hx4.lt
    have ly4 := hy4.lt
    have HX4 := Lib.hid hx4
    have HY4 := Lib.hid hy4
    clear hx4 hy4
    go_wp2_with fail
    refine (speed_calls a _).mono ?_
    rintro e w5 ⟨rfl, hb5⟩
    obtain ⟨hc5, hf5⟩ := bcell hb5
    have hz5 := hb5.size
    have pw50 : w.heap.size < w5.heap.size := by omega
    have pw51 : w.heap.size + 1 < w5.heap.size := by omega
    have pw52 : w.heap.size + 1 + 1 < w5.heap.size := by omega
    have pw53 : w.heap.size + 1 + 1 + 1 < w5.heap.size := by omega
    go_wp2_with fail
    refine (speed_calls b _).mono ?_
    rintro e w6 ⟨rfl, hb6⟩
    obtain ⟨hc6, hf6⟩ := bcell hb6
    have hz6 := hb6.size
    have pw60 : w.heap.size < w6.heap.size := by omega
    have pw61 : w.heap.size + 1 < w6.heap.size := by omega
    have pw62 : w.heap.size + 1 + 1 < w6.heap.size := by omega
    have pw63 : w.heap.size + 1 + 1 + 1 < w6.heap.size := by omega
    have hx6 := (HX4.out.below hb5 (by omega)).below hb6 (by omega)
    have hy6 := (HY4.out.below hb5 (by omega)).below hb6 (by omega)
    have HX6 := Lib.hid hx6
    have HY6 := Lib.hid hy6
    clear hx6 hy6
    obtain ⟨⟨fa1, fa2, fa3, fa4⟩, fa5, fa6, fa7, fa8, fa9, fa10, fa11⟩ := body_facts Ha.out
    obtain ⟨⟨fb1, fb2, fb3, fb4⟩, fb5, fb6, fb7, fb8, fb9, fb10, fb11⟩ := body_facts Hb.out
    have dh := depth_hi Ha.out Hb.out
    clear fa11 fb11
    have K : Below w.heap.size w w6 := (((((Below.refl _ w).alloc (Nat.le_refl _) _).alloc (by simp) _).alloc (by simp; omega) _).alloc (by simp; omega) _).trans (hb1.mono (by simp; omega)) |>.trans (hb2.mono (by omega)) |>.trans (hb3.mono (by omega)) |>.trans (hb4.mono (by omega)) |>.trans (hb5.mono (by omega)) |>.trans (hb6.mono (by omega))
    have HK := Lib.hid K
    clear K
    by_cases h7 : M.depth a.W b.W a.X b.X < M.depth a.H b.H a.Y b.Y
    · by_cases h8 : b.X < a.X
      · have EM : M.meetR a b = ({ a with X := M.pa a.X (-1) (M.depth a.W b.W a.X b.X) a.M b.M, PX := M.qa a.PX ((M.part a.PX 1 a.M - M.part b.PX 1 b.M) * (-1)) (-1) a.M b.M a.R b.R }, { b with X := M.pb b.X (-1) (M.depth a.W b.W a.X b.X) a.M b.M, PX := M.qb b.PX ((M.part a.PX 1 a.M - M.part b.PX 1 b.M) * (-1)) (-1) a.M b.M a.R b.R }) := by unfold M.meetR M.meetX M.meetY M.wayOf; rw [if_pos h7, if_pos h8]
        have HM := Lib.hid EM
        clear EM
        go_wp2_with fail
        refine (lineX_calls a b _ bx bz _ _ _ _ HX6.out HY6.out hne fa9 fa10 fb9 fb10 (part1_bd _ _ fa3) (part1_bd _ _ fb3) (by omega) (by omega)).mono ?_
        rintro e w7 ⟨rfl, hx7, hy7, hb7⟩
        have hb7 := hb7 w3.heap.size lx lz
        have hz7 := hb7.size
        have hc7 : ∀ b o, b < w3.heap.size → w7.cell? ⟨b, o, none⟩ = w6.cell? ⟨b, o, none⟩ := fun b o h => hb7.cell (p := ⟨b, o, none⟩) h
        have hf7 : ∀ b o, b < w3.heap.size → w7.frozen? ⟨b, o, none⟩ = w6.frozen? ⟨b, o, none⟩ := fun b o h => hb7.frozen (p := ⟨b, o, none⟩) h
        obtain ⟨x0, x1, x2, x3, x4, x5, x6, x7⟩ := row_cells hx7
        obtain ⟨y0, y1, y2, y3, y4, y5, y6, y7⟩ := row_cells hy7
        clear hx7 hy7
        have nx2 : w.heap.size + 1 + 1 ≠ bx := by omega
        have nx3 : w.heap.size + 1 + 1 + 1 ≠ bx := by omega
        have nz2 : w.heap.size + 1 + 1 ≠ bz := by omega
        have nz3 : w.heap.size + 1 + 1 + 1 ≠ bz := by omega
        go_wp2_with fail
        go_region
        go_wp2
        refine bodyPost_ret (v := .tuple #[rowV { a with X := M.pa a.X (-1) (M.depth a.W b.W a.X b.X) a.M b.M, PX := M.qa a.PX ((M.part a.PX 1 a.M - M.part b.PX 1 b.M) * (-1)) (-1) a.M b.M a.R b.R }, rowV { b with X := M.pb b.X (-1) (M.depth a.W b.W a.X b.X) a.M b.M, PX := M.qb b.PX ((M.part a.PX 1 a.M - M.part b.PX 1 b.M) * (-1)) (-1) a.M b.M a.R b.R }, .bool true]) ?_ rfl ⟨by rw [HM.out], ?_⟩
        · simp only [results, Tryz.results53]
          go_simp
        · have k := HK.out.trans (hb7.mono (by omega))
          refine Below.drew ?_
          repeat first | with_reducible exact k | ((with_reducible refine Below.setCell ?_ ?_ _); rotate_left; (first | omega | (simp; omega)))
      · have EM : M.meetR a b = ({ a with X := M.pa a.X 1 (M.depth a.W b.W a.X b.X) a.M b.M, PX := M.qa a.PX ((M.part a.PX 1 a.M - M.part b.PX 1 b.M) * 1) 1 a.M b.M a.R b.R }, { b with X := M.pb b.X 1 (M.depth a.W b.W a.X b.X) a.M b.M, PX := M.qb b.PX ((M.part a.PX 1 a.M - M.part b.PX 1 b.M) * 1) 1 a.M b.M a.R b.R }) := by unfold M.meetR M.meetX M.meetY M.wayOf; rw [if_pos h7, if_neg h8]
        have HM := Lib.hid EM
        clear EM
        go_wp2_with fail
        refine (lineX_calls a b _ bx bz _ _ _ _ HX6.out HY6.out hne fa9 fa10 fb9 fb10 (part1_bd _ _ fa3) (part1_bd _ _ fb3) (by omega) (by omega)).mono ?_
        rintro e w7 ⟨rfl, hx7, hy7, hb7⟩
        have hb7 := hb7 w3.heap.size lx lz
        have hz7 := hb7.size
        have hc7 : ∀ b o, b < w3.heap.size → w7.cell? ⟨b, o, none⟩ = w6.cell? ⟨b, o, none⟩ := fun b o h => hb7.cell (p := ⟨b, o, none⟩) h
        have hf7 : ∀ b o, b < w3.heap.size → w7.frozen? ⟨b, o, none⟩ = w6.frozen? ⟨b, o, none⟩ := fun b o h => hb7.frozen (p := ⟨b, o, none⟩) h
        obtain ⟨x0, x1, x2, x3, x4, x5, x6, x7⟩ := row_cells hx7
        obtain ⟨y0, y1, y2, y3, y4, y5, y6, y7⟩ := row_cells hy7
        clear hx7 hy7
        have nx2 : w.heap.size + 1 + 1 ≠ bx := by omega
        have nx3 : w.heap.size + 1 + 1 + 1 ≠ bx := by omega
        have nz2 : w.heap.size + 1 + 1 ≠ bz := by omega
        have nz3 : w.heap.size + 1 + 1 + 1 ≠ bz := by omega
        go_wp2_with fail
        go_region
        go_wp2
        refine bodyPost_ret (v := .tuple #[rowV { a with X := M.pa a.X 1 (M.depth a.W b.W a.X b.X) a.M b.M, PX := M.qa a.PX ((M.part a.PX 1 a.M - M.part b.PX 1 b.M) * 1) 1 a.M b.M a.R b.R }, rowV { b with X := M.pb b.X 1 (M.depth a.W b.W a.X b.X) a.M b.M, PX := M.qb b.PX ((M.part a.PX 1 a.M - M.part b.PX 1 b.M) * 1) 1 a.M b.M a.R b.R }, .bool true]) ?_ rfl ⟨by rw [HM.out], ?_⟩
        · simp only [results, Tryz.results53]
          go_simp
        · have k := HK.out.trans (hb7.mono (by omega))
          refine Below.drew ?_
          repeat first | with_reducible exact k | ((with_reducible refine Below.setCell ?_ ?_ _); rotate_left; (first | omega | (simp; omega)))
    · by_cases h8 : b.Y < a.Y
      · have EM : M.meetR a b = ({ a with Y := M.pa a.Y (-1) (M.depth a.H b.H a.Y b.Y) a.M b.M, PY := M.qa a.PY ((M.part a.PY 1 a.M - M.part b.PY 1 b.M) * (-1)) (-1) a.M b.M a.R b.R }, { b with Y := M.pb b.Y (-1) (M.depth a.H b.H a.Y b.Y) a.M b.M, PY := M.qb b.PY ((M.part a.PY 1 a.M - M.part b.PY 1 b.M) * (-1)) (-1) a.M b.M a.R b.R }) := by unfold M.meetR M.meetX M.meetY M.wayOf; rw [if_neg h7, if_pos h8]
        have HM := Lib.hid EM
        clear EM
        go_wp2_with fail
        refine (lineY_calls a b _ bx bz _ _ _ _ HX6.out HY6.out hne fa9 fa10 fb9 fb10 (part1_bd _ _ fa4) (part1_bd _ _ fb4) (by omega) (by omega)).mono ?_
        rintro e w7 ⟨rfl, hx7, hy7, hb7⟩
        have hb7 := hb7 w3.heap.size lx lz
        have hz7 := hb7.size
        have hc7 : ∀ b o, b < w3.heap.size → w7.cell? ⟨b, o, none⟩ = w6.cell? ⟨b, o, none⟩ := fun b o h => hb7.cell (p := ⟨b, o, none⟩) h
        have hf7 : ∀ b o, b < w3.heap.size → w7.frozen? ⟨b, o, none⟩ = w6.frozen? ⟨b, o, none⟩ := fun b o h => hb7.frozen (p := ⟨b, o, none⟩) h
        obtain ⟨x0, x1, x2, x3, x4, x5, x6, x7⟩ := row_cells hx7
        obtain ⟨y0, y1, y2, y3, y4, y5, y6, y7⟩ := row_cells hy7
        clear hx7 hy7
        have nx2 : w.heap.size + 1 + 1 ≠ bx := by omega
        have nx3 : w.heap.size + 1 + 1 + 1 ≠ bx := by omega
        have nz2 : w.heap.size + 1 + 1 ≠ bz := by omega
        have nz3 : w.heap.size + 1 + 1 + 1 ≠ bz := by omega
        go_wp2_with fail
        go_region
        go_wp2
        refine bodyPost_ret (v := .tuple #[rowV { a with Y := M.pa a.Y (-1) (M.depth a.H b.H a.Y b.Y) a.M b.M, PY := M.qa a.PY ((M.part a.PY 1 a.M - M.part b.PY 1 b.M) * (-1)) (-1) a.M b.M a.R b.R }, rowV { b with Y := M.pb b.Y (-1) (M.depth a.H b.H a.Y b.Y) a.M b.M, PY := M.qb b.PY ((M.part a.PY 1 a.M - M.part b.PY 1 b.M) * (-1)) (-1) a.M b.M a.R b.R }, .bool true]) ?_ rfl ⟨by rw [HM.out], ?_⟩
        · simp only [results, Tryz.results53]
          go_simp
        · have k := HK.out.trans (hb7.mono (by omega))
          refine Below.drew ?_
          repeat first | with_reducible exact k | ((with_reducible refine Below.setCell ?_ ?_ _); rotate_left; (first | omega | (simp; omega)))
      · have EM : M.meetR a b = ({ a with Y := M.pa a.Y 1 (M.depth a.H b.H a.Y b.Y) a.M b.M, PY := M.qa a.PY ((M.part a.PY 1 a.M - M.part b.PY 1 b.M) * 1) 1 a.M b.M a.R b.R }, { b with Y := M.pb b.Y 1 (M.depth a.H b.H a.Y b.Y) a.M b.M, PY := M.qb b.PY ((M.part a.PY 1 a.M - M.part b.PY 1 b.M) * 1) 1 a.M b.M a.R b.R }) := by unfold M.meetR M.meetX M.meetY M.wayOf; rw [if_neg h7, if_neg h8]
        have HM := Lib.hid EM
        clear EM
        go_wp2_with fail
        refine (lineY_calls a b _ bx bz _ _ _ _ HX6.out HY6.out hne fa9 fa10 fb9 fb10 (part1_bd _ _ fa4) (part1_bd _ _ fb4) (by omega) (by omega)).mono ?_
        rintro e w7 ⟨rfl, hx7, hy7, hb7⟩
        have hb7 := hb7 w3.heap.size lx lz
        have hz7 := hb7.size
        have hc7 : ∀ b o, b < w3.heap.size → w7.cell? ⟨b, o, none⟩ = w6.cell? ⟨b, o, none⟩ := fun b o h => hb7.cell (p := ⟨b, o, none⟩) h
        have hf7 : ∀ b o, b < w3.heap.size → w7.frozen? ⟨b, o, none⟩ = w6.frozen? ⟨b, o, none⟩ := fun b o h => hb7.frozen (p := ⟨b, o, none⟩) h
        obtain ⟨x0, x1, x2, x3, x4, x5, x6, x7⟩ := row_cells hx7
        obtain ⟨y0, y1, y2, y3, y4, y5, y6, y7⟩ := row_cells hy7
        clear hx7 hy7
        have nx2 : w.heap.size + 1 + 1 ≠ bx := by omega
        have nx3 : w.heap.size + 1 + 1 + 1 ≠ bx := by omega
        have nz2 : w.heap.size + 1 + 1 ≠ bz := by omega
        have nz3 : w.heap.size + 1 + 1 + 1 ≠ bz := by omega
        go_wp2_with fail
        go_region
        go_wp2
        refine bodyPost_ret (v := .tuple #[rowV { a with Y := M.pa a.Y 1 (M.depth a.H b.H a.Y b.Y) a.M b.M, PY := M.qa a.PY ((M.part a.PY 1 a.M - M.part b.PY 1 b.M) * 1) 1 a.M b.M a.R b.R }, rowV { b with Y := M.pb b.Y 1 (M.depth a.H b.H a.Y b.Y) a.M b.M, PY := M.qb b.PY ((M.part a.PY 1 a.M - M.part b.PY 1 b.M) * 1) 1 a.M b.M a.R b.R }, .bool true]) ?_ rfl ⟨by rw [HM.out], ?_⟩
        · simp only [results, Tryz.results53]
          go_simp
        · have k := HK.out.trans (hb7.mono (by omega))
          refine Below.drew ?_
          repeat first | with_reducible exact k | ((with_reducible refine Below.setCell ?_ ?_ _); rotate_left; (first | omega | (simp; omega)))

theorem meet_calls (a b : M.Row) (w : World) (ha : RowOk a) (hb : RowOk b) :
    Calls Tryz.prog 53 #[rowV a, rowV b] w fun e w' => e = .returned (.tuple #[rowV (M.meet a b).1, rowV (M.meet a b).2, .bool (M.meets a b)]) ∧ Below w.heap.size w w' := by
  have bad : M.meets a b = false → M.meet a b = (a, b) := fun h => by unfold M.meet; rw [if_pos h]
  by_cases h1 : M.body a = true
  · by_cases h2 : M.body b = true
    · by_cases h3 : M.depth a.W b.W a.X b.X < 1
      · have m : M.meets a b = false := by unfold M.meets; simp [h1, h2]; omega
        rw [m, bad m]; exact meet_bad3 a b w ha hb h1 h2 h3
      · by_cases h4 : M.depth a.H b.H a.Y b.Y < 1
        · have m : M.meets a b = false := by unfold M.meets; simp [h1, h2]; omega
          rw [m, bad m]; exact meet_bad4 a b w ha hb h1 h2 (by omega) h4
        · have m : M.meets a b = true := by unfold M.meets; simp [h1, h2]; omega
          have f1 := body_facts h1
          have f2 := body_facts h2
          rw [m]
          by_cases h5 : a.M = 0
          · by_cases h6 : b.M = 0
            · have E : M.meet a b = (a, b) := by unfold M.meet; rw [if_neg (by rw [m]; decide), if_pos ⟨h5, h6⟩]
              rw [E]; exact meet_fixed a b w ha hb h1 h2 (by omega) (by omega) h5 h6
            · have E : M.meet a b = M.meetR a b := by unfold M.meet; rw [if_neg (by rw [m]; decide), if_neg (by omega)]
              rw [E]; exact meet_move2 a b w ha hb h1 h2 (by omega) (by omega) (by omega) (by omega)
          · have E : M.meet a b = M.meetR a b := by unfold M.meet; rw [if_neg (by rw [m]; decide), if_neg (by omega)]
            rw [E]; exact meet_move1 a b w ha hb h1 h2 (by omega) (by omega) (by omega)
    · have h2' : M.body b = false := by simpa using h2
      have m : M.meets a b = false := by unfold M.meets; simp [h1, h2']
      rw [m, bad m]; exact meet_bad2 a b w ha hb h1 h2'
  · have h1' : M.body a = false := by simpa using h1
    have m : M.meets a b = false := by unfold M.meets; simp [h1']
    rw [m, bad m]; exact meet_bad1 a b w ha hb h1'
end Go.Proofs.YtkpecagkpjabdabGreat
