/- The walk of the law SolveTells: it returns true, for all rows. -/
import Derived.Test.YtkpecagkpjabdaaSolveLaw
import Derived.Test.YtkpecagkpjabdaaRefMeetMove
import Derived.Test.YtkpecagkpjabdaaRowEq
import Derived.Lib.QuietBelow
namespace Go.Proofs.Ytkpecagkpjabdaa
open Go.RowKit
set_option linter.unusedVariables false
set_option linter.unusedSimpArgs false
set_option maxRecDepth 100000
theorem wp_named {P : Program} {c : Code} {Q : Exit → Act → World → Prop} {a : Act} {w : World} (h : ∀ W, W = w → c.wp P Q a W) : c.wp P Q a w := h w rfl
theorem row_neq_no (a : M.Row) (w : World) : (binOp .neq 27 (rowV a) (rowV a)).run Try.prog w = .ok (.bool false) w := by
  have hS : Try.prog.underlying 27 = some (.struct (Try.prog.fieldsOf 27)) := by kernel_rfl
  have hp : Try.prog.stoodInHeld 27 = false := by kernel_rfl
  obtain ⟨a0, a1, a2, a3, a4, a5, a6, a7⟩ := a
  rw [run_neq_struct, show (10000 : Nat) = 9999 + 1 from rfl, run_equalIn_agg w 9999 27 _ _ hS hp]
  simp only [Program.fieldsOf, Try.underlying27]
  go_simp

set_option maxHeartbeats 8000000 in
set_option maxRecDepth 100000 in
theorem solveTells_walk (a b : M.Row) (w : World) (ha : RowOk a) (hb : RowOk b) :
    Calls Try.prog 6 #[rowV a, rowV b] w fun e w' => e = .returned (.bool true) ∧ Below w.heap.size w w' := by
  have hm := fun W => meet_calls a b W ha hb
  have hr := fun W => meetRows_calls a b W
  generalize (M.meet a b).1 = x at hm hr
  generalize (M.meet a b).2 = y at hm hr
  generalize M.meets a b = c at hm hr
  have HM := Lib.hid hm
  have HR := Lib.hid hr
  clear hm hr
  have HG := Lib.hid (fun W => good_calls a W ha)
  go_enter Try.func6, Try.ntmps6
  go_upto_region 5 with (first | (go_at_call 22; with_reducible refine (speed_calls a _).mono ?_; rintro e w1 ⟨rfl, hb1⟩; obtain ⟨hc1, hf1⟩ := bcell hb1; have hz1 := hb1.size; (try simp at hz1); have f1_0 : w.heap.size < w1.heap.size := (by omega); have g1_0 : w.heap.size < w.heap.size + 1 + 1 := (by omega); have f1_1 : w.heap.size + 1 < w1.heap.size := (by omega); have g1_1 : w.heap.size + 1 < w.heap.size + 1 + 1 := (by omega)) | (go_at_call 23; with_reducible refine (speedOf_calls a _).mono ?_; rintro e w2 ⟨rfl, hb2⟩; obtain ⟨hc2, hf2⟩ := bcell hb2; have hz2 := hb2.size; (try simp at hz2); have f2_0 : w.heap.size < w2.heap.size := (by omega); have f2_1 : w.heap.size + 1 < w2.heap.size := (by omega)) | (go_at_call 24; refine (HM.out _).mono ?_; rintro e w3 ⟨rfl, hb3⟩; obtain ⟨hc3, hf3⟩ := bcell hb3; have hz3 := hb3.size; (try simp at hz3); have f3_0 : w.heap.size < w3.heap.size := (by omega); have f3_1 : w.heap.size + 1 < w3.heap.size := (by omega)) | (go_at_call 25; refine (HR.out _).mono ?_; rintro e w4 ⟨rfl, hb4⟩; obtain ⟨hc4, hf4⟩ := bcell hb4; have hz4 := hb4.size; (try simp at hz4); have f4_0 : w.heap.size < w4.heap.size := (by omega); have g4_0 : w.heap.size < w3.heap.size + 1 + 1 := (by omega); have f4_1 : w.heap.size + 1 < w4.heap.size := (by omega); have g4_1 : w.heap.size + 1 < w3.heap.size + 1 + 1 := (by omega); have f4_2 : w3.heap.size < w4.heap.size := (by omega); have g4_2 : w3.heap.size < w3.heap.size + 1 + 1 := (by omega); have f4_3 : w3.heap.size + 1 < w4.heap.size := (by omega); have g4_3 : w3.heap.size + 1 < w3.heap.size + 1 + 1 := (by omega)))
  have K : Below w.heap.size w ((w4.alloc (.cells (rowC x) 27)).alloc (.cells (rowC y) 27)) := ((((((((((Below.refl _ w).alloc (by first | exact Nat.le_refl _ | omega | (simp; done) | (simp; omega)) _).alloc (by first | exact Nat.le_refl _ | omega | (simp; done) | (simp; omega)) _).trans (hb1.mono (by first | omega | (simp; done) | (simp; omega)))).trans (hb2.mono (by first | omega | (simp; done) | (simp; omega)))).trans (hb3.mono (by first | omega | (simp; done) | (simp; omega)))).alloc (by first | exact Nat.le_refl _ | omega | (simp; done) | (simp; omega)) _).alloc (by first | exact Nat.le_refl _ | omega | (simp; done) | (simp; omega)) _).trans (hb4.mono (by first | omega | (simp; done) | (simp; omega)))).alloc (by first | exact Nat.le_refl _ | omega | (simp; done) | (simp; omega)) _).alloc (by first | exact Nat.le_refl _ | omega | (simp; done) | (simp; omega)) _
  have HK := Lib.hid K
  clear K
  refine wp_named fun W hW => ?_
  have ca0 : W.cell? ⟨w.heap.size, 0, none⟩ = some (.int .i64 a.X) := by rw [hW]; go_simp
  have ca1 : W.cell? ⟨w.heap.size, 1, none⟩ = some (.int .i64 a.Y) := by rw [hW]; go_simp
  have ca2 : W.cell? ⟨w.heap.size, 2, none⟩ = some (.int .i64 a.PX) := by rw [hW]; go_simp
  have ca3 : W.cell? ⟨w.heap.size, 3, none⟩ = some (.int .i64 a.PY) := by rw [hW]; go_simp
  have ca4 : W.cell? ⟨w.heap.size, 4, none⟩ = some (.int .i64 a.W) := by rw [hW]; go_simp
  have ca5 : W.cell? ⟨w.heap.size, 5, none⟩ = some (.int .i64 a.H) := by rw [hW]; go_simp
  have ca6 : W.cell? ⟨w.heap.size, 6, none⟩ = some (.int .i64 a.M) := by rw [hW]; go_simp
  have ca7 : W.cell? ⟨w.heap.size, 7, none⟩ = some (.int .i64 a.R) := by rw [hW]; go_simp
  have caq0 := cell_regrown ca0
  have caq1 := cell_regrown ca1
  have caq2 := cell_regrown ca2
  have caq3 := cell_regrown ca3
  have caq4 := cell_regrown ca4
  have caq5 := cell_regrown ca5
  have caq6 := cell_regrown ca6
  have caq7 := cell_regrown ca7
  have cb0 : W.cell? ⟨w.heap.size + 1, 0, none⟩ = some (.int .i64 b.X) := by rw [hW]; go_simp
  have cb1 : W.cell? ⟨w.heap.size + 1, 1, none⟩ = some (.int .i64 b.Y) := by rw [hW]; go_simp
  have cb2 : W.cell? ⟨w.heap.size + 1, 2, none⟩ = some (.int .i64 b.PX) := by rw [hW]; go_simp
  have cb3 : W.cell? ⟨w.heap.size + 1, 3, none⟩ = some (.int .i64 b.PY) := by rw [hW]; go_simp
  have cb4 : W.cell? ⟨w.heap.size + 1, 4, none⟩ = some (.int .i64 b.W) := by rw [hW]; go_simp
  have cb5 : W.cell? ⟨w.heap.size + 1, 5, none⟩ = some (.int .i64 b.H) := by rw [hW]; go_simp
  have cb6 : W.cell? ⟨w.heap.size + 1, 6, none⟩ = some (.int .i64 b.M) := by rw [hW]; go_simp
  have cb7 : W.cell? ⟨w.heap.size + 1, 7, none⟩ = some (.int .i64 b.R) := by rw [hW]; go_simp
  have cbq0 := cell_regrown cb0
  have cbq1 := cell_regrown cb1
  have cbq2 := cell_regrown cb2
  have cbq3 := cell_regrown cb3
  have cbq4 := cell_regrown cb4
  have cbq5 := cell_regrown cb5
  have cbq6 := cell_regrown cb6
  have cbq7 := cell_regrown cb7
  have cx0 : W.cell? ⟨w3.heap.size, 0, none⟩ = some (.int .i64 x.X) := by rw [hW]; go_simp
  have cx1 : W.cell? ⟨w3.heap.size, 1, none⟩ = some (.int .i64 x.Y) := by rw [hW]; go_simp
  have cx2 : W.cell? ⟨w3.heap.size, 2, none⟩ = some (.int .i64 x.PX) := by rw [hW]; go_simp
  have cx3 : W.cell? ⟨w3.heap.size, 3, none⟩ = some (.int .i64 x.PY) := by rw [hW]; go_simp
  have cx4 : W.cell? ⟨w3.heap.size, 4, none⟩ = some (.int .i64 x.W) := by rw [hW]; go_simp
  have cx5 : W.cell? ⟨w3.heap.size, 5, none⟩ = some (.int .i64 x.H) := by rw [hW]; go_simp
  have cx6 : W.cell? ⟨w3.heap.size, 6, none⟩ = some (.int .i64 x.M) := by rw [hW]; go_simp
  have cx7 : W.cell? ⟨w3.heap.size, 7, none⟩ = some (.int .i64 x.R) := by rw [hW]; go_simp
  have cxq0 := cell_regrown cx0
  have cxq1 := cell_regrown cx1
  have cxq2 := cell_regrown cx2
  have cxq3 := cell_regrown cx3
  have cxq4 := cell_regrown cx4
  have cxq5 := cell_regrown cx5
  have cxq6 := cell_regrown cx6
  have cxq7 := cell_regrown cx7
  have cy0 : W.cell? ⟨w3.heap.size + 1, 0, none⟩ = some (.int .i64 y.X) := by rw [hW]; go_simp
  have cy1 : W.cell? ⟨w3.heap.size + 1, 1, none⟩ = some (.int .i64 y.Y) := by rw [hW]; go_simp
  have cy2 : W.cell? ⟨w3.heap.size + 1, 2, none⟩ = some (.int .i64 y.PX) := by rw [hW]; go_simp
  have cy3 : W.cell? ⟨w3.heap.size + 1, 3, none⟩ = some (.int .i64 y.PY) := by rw [hW]; go_simp
  have cy4 : W.cell? ⟨w3.heap.size + 1, 4, none⟩ = some (.int .i64 y.W) := by rw [hW]; go_simp
  have cy5 : W.cell? ⟨w3.heap.size + 1, 5, none⟩ = some (.int .i64 y.H) := by rw [hW]; go_simp
  have cy6 : W.cell? ⟨w3.heap.size + 1, 6, none⟩ = some (.int .i64 y.M) := by rw [hW]; go_simp
  have cy7 : W.cell? ⟨w3.heap.size + 1, 7, none⟩ = some (.int .i64 y.R) := by rw [hW]; go_simp
  have cyq0 := cell_regrown cy0
  have cyq1 := cell_regrown cy1
  have cyq2 := cell_regrown cy2
  have cyq3 := cell_regrown cy3
  have cyq4 := cell_regrown cy4
  have cyq5 := cell_regrown cy5
  have cyq6 := cell_regrown cy6
  have cyq7 := cell_regrown cy7
  have dx0 : W.cell? ⟨w4.heap.size, 0, none⟩ = some (.int .i64 x.X) := by rw [hW]; go_simp
  have dx1 : W.cell? ⟨w4.heap.size, 1, none⟩ = some (.int .i64 x.Y) := by rw [hW]; go_simp
  have dx2 : W.cell? ⟨w4.heap.size, 2, none⟩ = some (.int .i64 x.PX) := by rw [hW]; go_simp
  have dx3 : W.cell? ⟨w4.heap.size, 3, none⟩ = some (.int .i64 x.PY) := by rw [hW]; go_simp
  have dx4 : W.cell? ⟨w4.heap.size, 4, none⟩ = some (.int .i64 x.W) := by rw [hW]; go_simp
  have dx5 : W.cell? ⟨w4.heap.size, 5, none⟩ = some (.int .i64 x.H) := by rw [hW]; go_simp
  have dx6 : W.cell? ⟨w4.heap.size, 6, none⟩ = some (.int .i64 x.M) := by rw [hW]; go_simp
  have dx7 : W.cell? ⟨w4.heap.size, 7, none⟩ = some (.int .i64 x.R) := by rw [hW]; go_simp
  have dxq0 := cell_regrown dx0
  have dxq1 := cell_regrown dx1
  have dxq2 := cell_regrown dx2
  have dxq3 := cell_regrown dx3
  have dxq4 := cell_regrown dx4
  have dxq5 := cell_regrown dx5
  have dxq6 := cell_regrown dx6
  have dxq7 := cell_regrown dx7
  have dy0 : W.cell? ⟨w4.heap.size + 1, 0, none⟩ = some (.int .i64 y.X) := by rw [hW]; go_simp
  have dy1 : W.cell? ⟨w4.heap.size + 1, 1, none⟩ = some (.int .i64 y.Y) := by rw [hW]; go_simp
  have dy2 : W.cell? ⟨w4.heap.size + 1, 2, none⟩ = some (.int .i64 y.PX) := by rw [hW]; go_simp
  have dy3 : W.cell? ⟨w4.heap.size + 1, 3, none⟩ = some (.int .i64 y.PY) := by rw [hW]; go_simp
  have dy4 : W.cell? ⟨w4.heap.size + 1, 4, none⟩ = some (.int .i64 y.W) := by rw [hW]; go_simp
  have dy5 : W.cell? ⟨w4.heap.size + 1, 5, none⟩ = some (.int .i64 y.H) := by rw [hW]; go_simp
  have dy6 : W.cell? ⟨w4.heap.size + 1, 6, none⟩ = some (.int .i64 y.M) := by rw [hW]; go_simp
  have dy7 : W.cell? ⟨w4.heap.size + 1, 7, none⟩ = some (.int .i64 y.R) := by rw [hW]; go_simp
  have dyq0 := cell_regrown dy0
  have dyq1 := cell_regrown dy1
  have dyq2 := cell_regrown dy2
  have dyq3 := cell_regrown dy3
  have dyq4 := cell_regrown dy4
  have dyq5 := cell_regrown dy5
  have dyq6 := cell_regrown dy6
  have dyq7 := cell_regrown dy7
  have hz5 : w4.heap.size + 1 + 1 = W.heap.size := by rw [hW]; simp
  have HK5 : Hid (Below w.heap.size w W) := Lib.hid (by rw [hW]; exact HK.out)
  have lt5 : w.heap.size + 1 < W.heap.size := by omega
  clear hc1 hf1 hc2 hf2 hc3 hf3 hc4 hf4 hb1 hb2 hb3 hb4 HK HM HR hW
  have cG : ∀ d os, Calls Try.prog 26 #[rowV a] (Sort.grow (redrawn W d) os) fun e w'' => e = .returned (.bool (M.body a)) ∧ ∃ p : Regrown, w'' = Sort.grow (redrawn W p.d) p.os := fun d os => Calls.regrown_of (HG.out _)
  have cB : ∀ d os, Calls Try.prog 27 #[rowV a] (Sort.grow (redrawn W d) os) fun e w'' => e = .returned (.bool (M.body a)) ∧ ∃ p : Regrown, w'' = Sort.grow (redrawn W p.d) p.os := fun d os => Calls.regrown_of (isBody_calls a _)
  have NX := row_neq_no x
  have NY := row_neq_no y
  refine wp_region_quiet_below (by kernel_rfl) (by kernel_rfl) ?_
  repeat (quiet_step (first | exact cG _ _ | exact cB _ _))
  refine wpQuiet_nil ?_
  intro _ hw'
  obtain ⟨⟨dq, osq⟩, hw''⟩ := hw'
  subst hw''
  have hb6 := below_regrown W dq osq
  generalize hW6 : Sort.grow (redrawn W dq) osq = W6 at hb6 ⊢
  clear hW6
  obtain ⟨hc6, hf6⟩ := bcell hb6
  have hz6 := hb6.size
  have f6_0 : w.heap.size < W6.heap.size := (by omega)
  have f6_1 : w.heap.size + 1 < W6.heap.size := (by omega)
  have l6_0 : w.heap.size < W.heap.size := (by omega)
  have HK6 : Hid (Below w.heap.size w W6) := Lib.hid (HK5.out.trans (hb6.mono (by omega)))
  clear hb6
  clear cx0 cxq0 cx1 cxq1 cx2 cxq2 cx3 cxq3 cx4 cxq4 cx5 cxq5 cx6 cxq6 cx7 cxq7 cy0 cyq0 cy1 cyq1 cy2 cyq2 cy3 cyq3 cy4 cyq4 cy5 cyq5 cy6 cyq6 cy7 cyq7 dx0 dxq0 dx1 dxq1 dx2 dxq2 dx3 dxq3 dx4 dxq4 dx5 dxq5 dx6 dxq6 dx7 dxq7 dy0 dyq0 dy1 dyq1 dy2 dyq2 dy3 dyq3 dy4 dyq4 dy5 dyq5 dy6 dyq6 dy7 dyq7 caq0 cbq0 caq1 cbq1 caq2 cbq2 caq3 cbq3 caq4 cbq4 caq5 cbq5 caq6 cbq6 caq7 cbq7
  cases p1 : M.body a with
  | false =>
    have B1 := Lib.hid (fun W => isBody_no a W p1)
    go_wp2_with (first | (go_at_call 27; with_reducible refine (B1.out _).mono ?_; rintro e w7 ⟨rfl, hb7⟩; obtain ⟨hc7, hf7⟩ := bcell hb7; have hz7 := hb7.size; (try simp at hz7); have f7_0 : w.heap.size < w7.heap.size := (by omega); have f7_1 : w.heap.size + 1 < w7.heap.size := (by omega)) | (go_at_call 28; with_reducible refine (lawSolves_calls _).mono ?_; rintro e w8 ⟨rfl, hb8⟩; obtain ⟨hc8, hf8⟩ := bcell hb8; have hz8 := hb8.size; (try simp at hz8); have f8_0 : w.heap.size < w8.heap.size := (by omega); have f8_1 : w.heap.size + 1 < w8.heap.size := (by omega)))
    go_ret
    exact ⟨rfl, HK6.out.trans (((Below.refl _ W6).trans (hb7.mono (by first | omega | (simp; done) | (simp; omega)))).trans (hb8.mono (by first | omega | (simp; done) | (simp; omega))) |>.mono (by omega))⟩
  | true =>
    have B1 := Lib.hid (fun W => isBody_yes a W p1)
    cases p2 : M.body b with
    | false =>
      have B2 := Lib.hid (fun W => isBody_no b W p2)
      go_wp2_with (first | (go_at_call 27; with_reducible refine (B1.out _).mono ?_; rintro e w7 ⟨rfl, hb7⟩; obtain ⟨hc7, hf7⟩ := bcell hb7; have hz7 := hb7.size; (try simp at hz7); have f7_0 : w.heap.size < w7.heap.size := (by omega); have f7_1 : w.heap.size + 1 < w7.heap.size := (by omega)) | (go_at_call 27; with_reducible refine (B2.out _).mono ?_; rintro e w8 ⟨rfl, hb8⟩; obtain ⟨hc8, hf8⟩ := bcell hb8; have hz8 := hb8.size; (try simp at hz8); have f8_0 : w.heap.size < w8.heap.size := (by omega); have f8_1 : w.heap.size + 1 < w8.heap.size := (by omega)) | (go_at_call 28; with_reducible refine (lawSolves_calls _).mono ?_; rintro e w9 ⟨rfl, hb9⟩; obtain ⟨hc9, hf9⟩ := bcell hb9; have hz9 := hb9.size; (try simp at hz9); have f9_0 : w.heap.size < w9.heap.size := (by omega); have f9_1 : w.heap.size + 1 < w9.heap.size := (by omega)))
      go_ret
      exact ⟨rfl, HK6.out.trans ((((Below.refl _ W6).trans (hb7.mono (by first | omega | (simp; done) | (simp; omega)))).trans (hb8.mono (by first | omega | (simp; done) | (simp; omega)))).trans (hb9.mono (by first | omega | (simp; done) | (simp; omega))) |>.mono (by omega))⟩
    | true =>
      have B2 := Lib.hid (fun W => isBody_yes b W p2)
      have D1 := Lib.hid (fun W => depth_calls a b W (mid_of_body p1) (mid_of_body p2))
      have D2 := Lib.hid (fun W => depthOf_calls a b W (mid_of_body p1) (mid_of_body p2))
      go_wp2_with (first | (go_at_call 27; with_reducible refine (B1.out _).mono ?_; rintro e w7 ⟨rfl, hb7⟩; obtain ⟨hc7, hf7⟩ := bcell hb7; have hz7 := hb7.size; (try simp at hz7); have f7_0 : w.heap.size < w7.heap.size := (by omega); have f7_1 : w.heap.size + 1 < w7.heap.size := (by omega)) | (go_at_call 27; with_reducible refine (B2.out _).mono ?_; rintro e w8 ⟨rfl, hb8⟩; obtain ⟨hc8, hf8⟩ := bcell hb8; have hz8 := hb8.size; (try simp at hz8); have f8_0 : w.heap.size < w8.heap.size := (by omega); have f8_1 : w.heap.size + 1 < w8.heap.size := (by omega)) | (go_at_call 29; refine (D1.out _).mono ?_; rintro e w9 ⟨rfl, hb9⟩; obtain ⟨hc9, hf9⟩ := bcell hb9; have hz9 := hb9.size; (try simp at hz9); have f9_0 : w.heap.size < w9.heap.size := (by omega); have f9_1 : w.heap.size + 1 < w9.heap.size := (by omega)) | (go_at_call 30; refine (D2.out _).mono ?_; rintro e w10 ⟨rfl, hb10⟩; obtain ⟨hc10, hf10⟩ := bcell hb10; have hz10 := hb10.size; (try simp at hz10); have f10_0 : w.heap.size < w10.heap.size := (by omega); have f10_1 : w.heap.size + 1 < w10.heap.size := (by omega)) | (go_at_call 28; with_reducible refine (lawSolves_calls _).mono ?_; rintro e w11 ⟨rfl, hb11⟩; obtain ⟨hc11, hf11⟩ := bcell hb11; have hz11 := hb11.size; (try simp at hz11); have f11_0 : w.heap.size < w11.heap.size := (by omega); have f11_1 : w.heap.size + 1 < w11.heap.size := (by omega)))
      go_ret
      exact ⟨rfl, HK6.out.trans ((((((Below.refl _ W6).trans (hb7.mono (by first | omega | (simp; done) | (simp; omega)))).trans (hb8.mono (by first | omega | (simp; done) | (simp; omega)))).trans (hb9.mono (by first | omega | (simp; done) | (simp; omega)))).trans (hb10.mono (by first | omega | (simp; done) | (simp; omega)))).trans (hb11.mono (by first | omega | (simp; done) | (simp; omega))) |>.mono (by omega))⟩
end Go.Proofs.Ytkpecagkpjabdaa
