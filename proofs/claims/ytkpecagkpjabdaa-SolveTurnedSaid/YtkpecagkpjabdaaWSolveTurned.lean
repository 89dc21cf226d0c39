/- The walk of the law SolveTurned: it returns true, for all rows of numbers of 64 bits. -/
import Derived.Test.YtkpecagkpjabdaaSolveKeep
import Derived.Test.YtkpecagkpjabdaaWSolveSums
import Derived.Test.YtkpecagkpjabdaaRowEq
import Derived.Test.YtkpecagkpjabdaaTurn
import Derived.Deep.RegionHeld3
import Derived.Deep.DeepCutAuto
namespace Go.Proofs.Ytkpecagkpjabdaa
open Go.RowKit
set_option linter.unusedVariables false

set_option maxHeartbeats 40000000 in
set_option maxRecDepth 100000 in
theorem turned_x (a b : M.Row) (w : World) (ha : RowOk a) (hb : RowOk b) (e1 : (a.X == b.X) = true) :
    Calls Try.prog 9 #[rowV a, rowV b] w fun e w' => e = .returned (.bool true) ∧ Below w.heap.size w w' := by
  go_enter Try.func9, Try.ntmps9
  go_wp2_with (first | (go_at_call 32; with_reducible refine (keepSolves_calls _).mono ?_; rintro e w1 ⟨rfl, hb1⟩; obtain ⟨hc1, hf1⟩ := bcell hb1; have hz1 := hb1.size; (try simp at hz1); have f1_0 : w.heap.size < w1.heap.size := (by omega); have g1_0 : w.heap.size < w.heap.size + 1 + 1 := (by omega); have f1_1 : w.heap.size + 1 < w1.heap.size := (by omega); have g1_1 : w.heap.size + 1 < w.heap.size + 1 + 1 := (by omega)))
  go_ret
  exact ⟨rfl, (((Below.refl _ w).alloc (by first | exact Nat.le_refl _ | omega | (simp; done) | (simp; omega)) _).alloc (by first | exact Nat.le_refl _ | omega | (simp; done) | (simp; omega)) _).trans (hb1.mono (by first | omega | (simp; done) | (simp; omega)))⟩

set_option maxHeartbeats 40000000 in
set_option maxRecDepth 100000 in
theorem turned_y (a b : M.Row) (w : World) (ha : RowOk a) (hb : RowOk b) (e1 : (a.X == b.X) = false) (e2 : (a.Y == b.Y) = true) :
    Calls Try.prog 9 #[rowV a, rowV b] w fun e w' => e = .returned (.bool true) ∧ Below w.heap.size w w' := by
  go_enter Try.func9, Try.ntmps9
  go_wp2_with (first | (go_at_call 32; with_reducible refine (keepSolves_calls _).mono ?_; rintro e w1 ⟨rfl, hb1⟩; obtain ⟨hc1, hf1⟩ := bcell hb1; have hz1 := hb1.size; (try simp at hz1); have f1_0 : w.heap.size < w1.heap.size := (by omega); have g1_0 : w.heap.size < w.heap.size + 1 + 1 := (by omega); have f1_1 : w.heap.size + 1 < w1.heap.size := (by omega); have g1_1 : w.heap.size + 1 < w.heap.size + 1 + 1 := (by omega)))
  go_ret
  exact ⟨rfl, (((Below.refl _ w).alloc (by first | exact Nat.le_refl _ | omega | (simp; done) | (simp; omega)) _).alloc (by first | exact Nat.le_refl _ | omega | (simp; done) | (simp; omega)) _).trans (hb1.mono (by first | omega | (simp; done) | (simp; omega)))⟩

set_option maxHeartbeats 40000000 in
set_option maxRecDepth 100000 in
theorem turned_a (a b : M.Row) (w : World) (ha : RowOk a) (hb : RowOk b) (e1 : (a.X == b.X) = false) (e2 : (a.Y == b.Y) = false) (h1 : M.body a = false) :
    Calls Try.prog 9 #[rowV a, rowV b] w fun e w' => e = .returned (.bool true) ∧ Below w.heap.size w w' := by
  have GA := Lib.hid (fun W => good_no a W ha h1)
  clear h1
  go_enter Try.func9, Try.ntmps9
  go_wp2_with (first | (go_at_call 26; with_reducible refine (GA.out _).mono ?_; rintro e w1 ⟨rfl, hb1⟩; obtain ⟨hc1, hf1⟩ := bcell hb1; have hz1 := hb1.size; (try simp at hz1); have f1_0 : w.heap.size < w1.heap.size := (by omega); have g1_0 : w.heap.size < w.heap.size + 1 + 1 := (by omega); have f1_1 : w.heap.size + 1 < w1.heap.size := (by omega); have g1_1 : w.heap.size + 1 < w.heap.size + 1 + 1 := (by omega)) | (go_at_call 32; with_reducible refine (keepSolves_calls _).mono ?_; rintro e w2 ⟨rfl, hb2⟩; obtain ⟨hc2, hf2⟩ := bcell hb2; have hz2 := hb2.size; (try simp at hz2); have f2_0 : w.heap.size < w2.heap.size := (by omega); have f2_1 : w.heap.size + 1 < w2.heap.size := (by omega)))
  go_ret
  exact ⟨rfl, ((((Below.refl _ w).alloc (by first | exact Nat.le_refl _ | omega | (simp; done) | (simp; omega)) _).alloc (by first | exact Nat.le_refl _ | omega | (simp; done) | (simp; omega)) _).trans (hb1.mono (by first | omega | (simp; done) | (simp; omega)))).trans (hb2.mono (by first | omega | (simp; done) | (simp; omega)))⟩

set_option maxHeartbeats 40000000 in
set_option maxRecDepth 100000 in
theorem turned_b (a b : M.Row) (w : World) (ha : RowOk a) (hb : RowOk b) (e1 : (a.X == b.X) = false) (e2 : (a.Y == b.Y) = false) (h1 : M.body a = true) (h2 : M.body b = false) :
    Calls Try.prog 9 #[rowV a, rowV b] w fun e w' => e = .returned (.bool true) ∧ Below w.heap.size w w' := by
  have GA := Lib.hid (fun W => good_yes a W ha h1)
  have GB := Lib.hid (fun W => good_no b W hb h2)
  clear h1 h2
  go_enter Try.func9, Try.ntmps9
  go_wp2_with (first | (go_at_call 26; with_reducible refine (GA.out _).mono ?_; rintro e w1 ⟨rfl, hb1⟩; obtain ⟨hc1, hf1⟩ := bcell hb1; have hz1 := hb1.size; (try simp at hz1); have f1_0 : w.heap.size < w1.heap.size := (by omega); have g1_0 : w.heap.size < w.heap.size + 1 + 1 := (by omega); have f1_1 : w.heap.size + 1 < w1.heap.size := (by omega); have g1_1 : w.heap.size + 1 < w.heap.size + 1 + 1 := (by omega)) | (go_at_call 26; with_reducible refine (GB.out _).mono ?_; rintro e w2 ⟨rfl, hb2⟩; obtain ⟨hc2, hf2⟩ := bcell hb2; have hz2 := hb2.size; (try simp at hz2); have f2_0 : w.heap.size < w2.heap.size := (by omega); have f2_1 : w.heap.size + 1 < w2.heap.size := (by omega)) | (go_at_call 32; with_reducible refine (keepSolves_calls _).mono ?_; rintro e w3 ⟨rfl, hb3⟩; obtain ⟨hc3, hf3⟩ := bcell hb3; have hz3 := hb3.size; (try simp at hz3); have f3_0 : w.heap.size < w3.heap.size := (by omega); have f3_1 : w.heap.size + 1 < w3.heap.size := (by omega)))
  go_ret
  exact ⟨rfl, (((((Below.refl _ w).alloc (by first | exact Nat.le_refl _ | omega | (simp; done) | (simp; omega)) _).alloc (by first | exact Nat.le_refl _ | omega | (simp; done) | (simp; omega)) _).trans (hb1.mono (by first | omega | (simp; done) | (simp; omega)))).trans (hb2.mono (by first | omega | (simp; done) | (simp; omega)))).trans (hb3.mono (by first | omega | (simp; done) | (simp; omega)))⟩

theorem two_cells {W : World} {s t : Nat} {a b : M.Row} (h : Blk W s 27 (rowC a)) (k : Blk W t 27 (rowC b)) : W.cell? ⟨s, 0, none⟩ = some (.int .i64 a.X) ∧ W.cell? ⟨s, 1, none⟩ = some (.int .i64 a.Y) ∧ W.cell? ⟨s, 2, none⟩ = some (.int .i64 a.PX) ∧ W.cell? ⟨s, 3, none⟩ = some (.int .i64 a.PY) ∧ W.cell? ⟨s, 4, none⟩ = some (.int .i64 a.W) ∧ W.cell? ⟨s, 5, none⟩ = some (.int .i64 a.H) ∧ W.cell? ⟨s, 6, none⟩ = some (.int .i64 a.M) ∧ W.cell? ⟨s, 7, none⟩ = some (.int .i64 a.R) ∧ W.cell? ⟨t, 0, none⟩ = some (.int .i64 b.X) ∧ W.cell? ⟨t, 1, none⟩ = some (.int .i64 b.Y) ∧ W.cell? ⟨t, 2, none⟩ = some (.int .i64 b.PX) ∧ W.cell? ⟨t, 3, none⟩ = some (.int .i64 b.PY) ∧ W.cell? ⟨t, 4, none⟩ = some (.int .i64 b.W) ∧ W.cell? ⟨t, 5, none⟩ = some (.int .i64 b.H) ∧ W.cell? ⟨t, 6, none⟩ = some (.int .i64 b.M) ∧ W.cell? ⟨t, 7, none⟩ = some (.int .i64 b.R) :=
  ⟨h.cell 0, h.cell 1, h.cell 2, h.cell 3, h.cell 4, h.cell 5, h.cell 6, h.cell 7, k.cell 0, k.cell 1, k.cell 2, k.cell 3, k.cell 4, k.cell 5, k.cell 6, k.cell 7⟩

theorem Blk.new_at {w : World} {g : Nat} {t : TypeId} {cs : Array Value} (h : g = w.heap.size) : Blk (w.alloc (.cells cs t)) g t cs := by subst h; exact Blk.new w t cs
theorem blk_to {w : World} {g : Nat} {t : TypeId} {cs ds : Array Value} (h : Blk w g t cs) (e : cs = ds) : Blk w g t ds := e ▸ h
theorem four_cells {W : World} {s t u v : Nat} {a b c d : M.Row} (h : Blk W s 27 (rowC a)) (k : Blk W t 27 (rowC b)) (l : Blk W u 27 (rowC c)) (m : Blk W v 27 (rowC d)) : W.cell? ⟨s, 0, none⟩ = some (.int .i64 a.X) ∧ W.cell? ⟨s, 1, none⟩ = some (.int .i64 a.Y) ∧ W.cell? ⟨s, 2, none⟩ = some (.int .i64 a.PX) ∧ W.cell? ⟨s, 3, none⟩ = some (.int .i64 a.PY) ∧ W.cell? ⟨s, 4, none⟩ = some (.int .i64 a.W) ∧ W.cell? ⟨s, 5, none⟩ = some (.int .i64 a.H) ∧ W.cell? ⟨s, 6, none⟩ = some (.int .i64 a.M) ∧ W.cell? ⟨s, 7, none⟩ = some (.int .i64 a.R) ∧ W.cell? ⟨t, 0, none⟩ = some (.int .i64 b.X) ∧ W.cell? ⟨t, 1, none⟩ = some (.int .i64 b.Y) ∧ W.cell? ⟨t, 2, none⟩ = some (.int .i64 b.PX) ∧ W.cell? ⟨t, 3, none⟩ = some (.int .i64 b.PY) ∧ W.cell? ⟨t, 4, none⟩ = some (.int .i64 b.W) ∧ W.cell? ⟨t, 5, none⟩ = some (.int .i64 b.H) ∧ W.cell? ⟨t, 6, none⟩ = some (.int .i64 b.M) ∧ W.cell? ⟨t, 7, none⟩ = some (.int .i64 b.R) ∧ W.cell? ⟨u, 0, none⟩ = some (.int .i64 c.X) ∧ W.cell? ⟨u, 1, none⟩ = some (.int .i64 c.Y) ∧ W.cell? ⟨u, 2, none⟩ = some (.int .i64 c.PX) ∧ W.cell? ⟨u, 3, none⟩ = some (.int .i64 c.PY) ∧ W.cell? ⟨u, 4, none⟩ = some (.int .i64 c.W) ∧ W.cell? ⟨u, 5, none⟩ = some (.int .i64 c.H) ∧ W.cell? ⟨u, 6, none⟩ = some (.int .i64 c.M) ∧ W.cell? ⟨u, 7, none⟩ = some (.int .i64 c.R) ∧ W.cell? ⟨v, 0, none⟩ = some (.int .i64 d.X) ∧ W.cell? ⟨v, 1, none⟩ = some (.int .i64 d.Y) ∧ W.cell? ⟨v, 2, none⟩ = some (.int .i64 d.PX) ∧ W.cell? ⟨v, 3, none⟩ = some (.int .i64 d.PY) ∧ W.cell? ⟨v, 4, none⟩ = some (.int .i64 d.W) ∧ W.cell? ⟨v, 5, none⟩ = some (.int .i64 d.H) ∧ W.cell? ⟨v, 6, none⟩ = some (.int .i64 d.M) ∧ W.cell? ⟨v, 7, none⟩ = some (.int .i64 d.R) :=
  ⟨h.cell 0, h.cell 1, h.cell 2, h.cell 3, h.cell 4, h.cell 5, h.cell 6, h.cell 7, k.cell 0, k.cell 1, k.cell 2, k.cell 3, k.cell 4, k.cell 5, k.cell 6, k.cell 7, l.cell 0, l.cell 1, l.cell 2, l.cell 3, l.cell 4, l.cell 5, l.cell 6, l.cell 7, m.cell 0, m.cell 1, m.cell 2, m.cell 3, m.cell 4, m.cell 5, m.cell 6, m.cell 7⟩
/-- what the two turned ones came to: two rows in blocks of their own, those of the first two beside them -/
def TurnRes (x y tx ty : M.Row) (c : Bool) (w0 : World) (sx sy : Nat) (p q r : Value) (W : World) : Prop :=
  ∃ bx bz, p = .pointer (some ⟨bx, 0, none⟩) ∧ q = .pointer (some ⟨bz, 0, none⟩) ∧ r = .bool c ∧ Blk W bx 27 (rowC tx) ∧ Blk W bz 27 (rowC ty) ∧ Blk W sx 27 (rowC x) ∧ Blk W sy 27 (rowC y) ∧ Below w0.heap.size w0 W

theorem turn_ok {r : M.Row} (h : M.body r = true) : RowOk (M.turn r) := by
  have := M.body_bd h
  unfold RowOk I64 M.turn
  simp only []
  omega

set_option maxHeartbeats 40000000 in
set_option maxRecDepth 100000 in
theorem turned_main (a b : M.Row) (w : World) (ha : RowOk a) (hb : RowOk b) (e1 : (a.X == b.X) = false) (e2 : (a.Y == b.Y) = false) (h1 : M.body a = true) (h2 : M.body b = true) (c : Bool) (hm : M.meets a b = c) (hx : a.X ≠ b.X) (hy : a.Y ≠ b.Y) :
    Calls Try.prog 9 #[rowV a, rowV b] w fun e w' => e = .returned (.bool true) ∧ Below w.heap.size w w' := by
  have GA := Lib.hid (fun W => good_yes a W ha h1)
  have GB := Lib.hid (fun W => good_yes b W hb h2)
  have ba := M.body_bd h1
  have bb := M.body_bd h2
  obtain ⟨⟨ba1, ba2, ba3, ba4⟩, _⟩ := ba
  obtain ⟨⟨bb1, bb2, bb3, bb4⟩, _⟩ := bb
  have TA := Lib.hid (fun W => turn_calls a W (by omega) (by omega) ba3 ba4)
  have TB := Lib.hid (fun W => turn_calls b W (by omega) (by omega) bb3 bb4)
  have hmeet := fun W => meet_is a b W c ha hb hm
  have hmeet2 := fun W => meet_is (M.turn a) (M.turn b) W c (turn_ok h1) (turn_ok h2) (by rw [M.meets_turn]; exact hm)
  rw [M.meet_turn a b hx hy] at hmeet2
  have bq := M.meet_push_bd h1 h2
  have bp := M.meet_place_bd h1 h2
  have TX := Lib.hid (fun W => turn_calls (M.meet a b).1 W (by omega) (by omega) bq.1.1 bq.1.2)
  have TY := Lib.hid (fun W => turn_calls (M.meet a b).2 W (by omega) (by omega) bq.2.1 bq.2.2)
  clear bq bp
  generalize ex : (M.meet a b).1 = x at *
  generalize ey : (M.meet a b).2 = y at *
  have HM := Lib.hid hmeet
  have HM2 := Lib.hid hmeet2
  clear hmeet hmeet2 ex ey hm h1 h2 hx hy
  go_enter Try.func9, Try.ntmps9
  go_upto_region 7 with (first | (go_at_call 26; with_reducible refine (GA.out _).mono ?_; rintro e w1 ⟨rfl, hb1⟩; obtain ⟨hc1, hf1⟩ := bcell hb1; have hz1 := hb1.size; (try simp at hz1); have f1_0 : w.heap.size < w1.heap.size := (by omega); have g1_0 : w.heap.size < w.heap.size + 1 + 1 := (by omega); have f1_1 : w.heap.size + 1 < w1.heap.size := (by omega); have g1_1 : w.heap.size + 1 < w.heap.size + 1 + 1 := (by omega)) | (go_at_call 26; with_reducible refine (GB.out _).mono ?_; rintro e w2 ⟨rfl, hb2⟩; obtain ⟨hc2, hf2⟩ := bcell hb2; have hz2 := hb2.size; (try simp at hz2); have f2_0 : w.heap.size < w2.heap.size := (by omega); have f2_1 : w.heap.size + 1 < w2.heap.size := (by omega)) | (go_at_call 24; refine (HM.out _).mono ?_; rintro e w3 ⟨rfl, hb3⟩; obtain ⟨hc3, hf3⟩ := bcell hb3; have hz3 := hb3.size; (try simp at hz3); have f3_0 : w.heap.size < w3.heap.size := (by omega); have f3_1 : w.heap.size + 1 < w3.heap.size := (by omega)))
  have HBa := (((Blk.new w 27 (rowC a)).alloc (.cells (rowC b) 27)).below hb1 (by first | omega | (simp; done) | (simp; omega))).below hb2 (by omega) |>.below hb3 (by omega)
  have HBb0 := Blk.new (w.alloc (.cells (rowC a) 27)) 27 (rowC b)
  simp only [World.size_alloc] at HBb0
  have HBb := ((HBb0.below hb1 (by first | omega | (simp; done) | (simp; omega))).below hb2 (by omega)).below hb3 (by omega)
  clear HBb0
  have HK3 := Lib.hid ((((((Below.refl _ w).alloc (by first | exact Nat.le_refl _ | omega | (simp; done) | (simp; omega)) _).alloc (by first | exact Nat.le_refl _ | omega | (simp; done) | (simp; omega)) _).trans (hb1.mono (by first | omega | (simp; done) | (simp; omega)))).trans (hb2.mono (by first | omega | (simp; done) | (simp; omega)))).trans (hb3.mono (by first | omega | (simp; done) | (simp; omega))))
  go_cut [9, 10, 11] (fun p q r W => TurnRes x y (M.turn x) (M.turn y) c w3 w3.heap.size (w3.heap.size + 1) p q r W)
  case first =>
    have HX3 := (Blk.new w3 27 (rowC x))
    clear hc1 hf1 hc2 hf2 hc3 hf3 hb1 hb2
    go_region_held3 (fun W => W.cell? ⟨w.heap.size, 0, none⟩ = some (.int .i64 a.X) ∧ W.cell? ⟨w.heap.size, 1, none⟩ = some (.int .i64 a.Y) ∧ W.cell? ⟨w.heap.size, 2, none⟩ = some (.int .i64 a.PX) ∧ W.cell? ⟨w.heap.size, 3, none⟩ = some (.int .i64 a.PY) ∧ W.cell? ⟨w.heap.size, 4, none⟩ = some (.int .i64 a.W) ∧ W.cell? ⟨w.heap.size, 5, none⟩ = some (.int .i64 a.H) ∧ W.cell? ⟨w.heap.size, 6, none⟩ = some (.int .i64 a.M) ∧ W.cell? ⟨w.heap.size, 7, none⟩ = some (.int .i64 a.R) ∧ W.cell? ⟨w.heap.size + 1, 0, none⟩ = some (.int .i64 b.X) ∧ W.cell? ⟨w.heap.size + 1, 1, none⟩ = some (.int .i64 b.Y) ∧ W.cell? ⟨w.heap.size + 1, 2, none⟩ = some (.int .i64 b.PX) ∧ W.cell? ⟨w.heap.size + 1, 3, none⟩ = some (.int .i64 b.PY) ∧ W.cell? ⟨w.heap.size + 1, 4, none⟩ = some (.int .i64 b.W) ∧ W.cell? ⟨w.heap.size + 1, 5, none⟩ = some (.int .i64 b.H) ∧ W.cell? ⟨w.heap.size + 1, 6, none⟩ = some (.int .i64 b.M) ∧ W.cell? ⟨w.heap.size + 1, 7, none⟩ = some (.int .i64 b.R)) (exact two_cells (by (repeat first | with_reducible exact HBa | with_reducible apply Blk.far (hp := (by first | omega | (simp; done) | (simp; omega))) | with_reducible apply Blk.drew | with_reducible apply Blk.alloc | with_reducible apply Blk.below (hb := hb4) (hg := (by first | omega | (simp; done) | (simp; omega))) | with_reducible apply Blk.below (hb := hb5) (hg := (by first | omega | (simp; done) | (simp; omega))) | with_reducible apply Blk.below (hb := hb6) (hg := (by first | omega | (simp; done) | (simp; omega))))) (by (repeat first | with_reducible exact HBb | with_reducible apply Blk.far (hp := (by first | omega | (simp; done) | (simp; omega))) | with_reducible apply Blk.drew | with_reducible apply Blk.alloc | with_reducible apply Blk.below (hb := hb4) (hg := (by first | omega | (simp; done) | (simp; omega))) | with_reducible apply Blk.below (hb := hb5) (hg := (by first | omega | (simp; done) | (simp; omega))) | with_reducible apply Blk.below (hb := hb6) (hg := (by first | omega | (simp; done) | (simp; omega)))))) (first | (go_at_call 33; with_reducible refine (TA.out _).mono ?_; rintro e w4 ⟨rfl, hb4⟩; obtain ⟨hc4, hf4⟩ := bcell hb4; have hz4 := hb4.size; (try simp at hz4); (try have pf4_0 : w.heap.size < w4.heap.size := (by omega)); (try have pg4_0 : w.heap.size < w4.heap.size + 1 := (by omega)); (try have ph4_0 : w.heap.size < w4.heap.size + 1 + 1 := (by omega)); (try have pf4_1 : w.heap.size + 1 < w4.heap.size := (by omega)); (try have pg4_1 : w.heap.size + 1 < w4.heap.size + 1 := (by omega)); (try have ph4_1 : w.heap.size + 1 < w4.heap.size + 1 + 1 := (by omega)); (try have pf4_2 : w3.heap.size < w4.heap.size := (by omega)); (try have pg4_2 : w3.heap.size < w4.heap.size + 1 := (by omega)); (try have ph4_2 : w3.heap.size < w4.heap.size + 1 + 1 := (by omega)); (try have pf4_3 : w3.heap.size + 1 < w4.heap.size := (by omega)); (try have pg4_3 : w3.heap.size + 1 < w4.heap.size + 1 := (by omega)); (try have ph4_3 : w3.heap.size + 1 < w4.heap.size + 1 + 1 := (by omega)); (try have pf4_4 : w3.heap.size + 1 + 1 < w4.heap.size := (by omega)); (try have pg4_4 : w3.heap.size + 1 + 1 < w4.heap.size + 1 := (by omega)); (try have ph4_4 : w3.heap.size + 1 + 1 < w4.heap.size + 1 + 1 := (by omega)); (try have pf4_5 : w3.heap.size + 1 + 1 + 1 < w4.heap.size := (by omega)); (try have pg4_5 : w3.heap.size + 1 + 1 + 1 < w4.heap.size + 1 := (by omega)); (try have ph4_5 : w3.heap.size + 1 + 1 + 1 < w4.heap.size + 1 + 1 := (by omega))) | (go_at_call 33; with_reducible refine (TB.out _).mono ?_; rintro e w5 ⟨rfl, hb5⟩; obtain ⟨hc5, hf5⟩ := bcell hb5; have hz5 := hb5.size; (try simp at hz5); (try have pf5_0 : w.heap.size < w5.heap.size := (by omega)); (try have pg5_0 : w.heap.size < w5.heap.size + 1 := (by omega)); (try have ph5_0 : w.heap.size < w5.heap.size + 1 + 1 := (by omega)); (try have pf5_1 : w.heap.size + 1 < w5.heap.size := (by omega)); (try have pg5_1 : w.heap.size + 1 < w5.heap.size + 1 := (by omega)); (try have ph5_1 : w.heap.size + 1 < w5.heap.size + 1 + 1 := (by omega)); (try have pf5_2 : w3.heap.size < w5.heap.size := (by omega)); (try have pg5_2 : w3.heap.size < w5.heap.size + 1 := (by omega)); (try have ph5_2 : w3.heap.size < w5.heap.size + 1 + 1 := (by omega)); (try have pf5_3 : w3.heap.size + 1 < w5.heap.size := (by omega)); (try have pg5_3 : w3.heap.size + 1 < w5.heap.size + 1 := (by omega)); (try have ph5_3 : w3.heap.size + 1 < w5.heap.size + 1 + 1 := (by omega)); (try have pf5_4 : w3.heap.size + 1 + 1 < w5.heap.size := (by omega)); (try have pg5_4 : w3.heap.size + 1 + 1 < w5.heap.size + 1 := (by omega)); (try have ph5_4 : w3.heap.size + 1 + 1 < w5.heap.size + 1 + 1 := (by omega)); (try have pf5_5 : w3.heap.size + 1 + 1 + 1 < w5.heap.size := (by omega)); (try have pg5_5 : w3.heap.size + 1 + 1 + 1 < w5.heap.size + 1 := (by omega)); (try have ph5_5 : w3.heap.size + 1 + 1 + 1 < w5.heap.size + 1 + 1 := (by omega)); (try have pf5_6 : w4.heap.size < w5.heap.size := (by omega)); (try have pg5_6 : w4.heap.size < w5.heap.size + 1 := (by omega)); (try have ph5_6 : w4.heap.size < w5.heap.size + 1 + 1 := (by omega)); (try have pf5_7 : w4.heap.size + 1 < w5.heap.size := (by omega)); (try have pg5_7 : w4.heap.size + 1 < w5.heap.size + 1 := (by omega)); (try have ph5_7 : w4.heap.size + 1 < w5.heap.size + 1 + 1 := (by omega))) | (go_at_call 24; with_reducible refine (HM2.out _).mono ?_; rintro e w6 ⟨rfl, hb6⟩; obtain ⟨hc6, hf6⟩ := bcell hb6; have hz6 := hb6.size; (try simp at hz6); (try have pf6_0 : w.heap.size < w6.heap.size := (by omega)); (try have pg6_0 : w.heap.size < w6.heap.size + 1 := (by omega)); (try have ph6_0 : w.heap.size < w6.heap.size + 1 + 1 := (by omega)); (try have pf6_1 : w.heap.size + 1 < w6.heap.size := (by omega)); (try have pg6_1 : w.heap.size + 1 < w6.heap.size + 1 := (by omega)); (try have ph6_1 : w.heap.size + 1 < w6.heap.size + 1 + 1 := (by omega)); (try have pf6_2 : w3.heap.size < w6.heap.size := (by omega)); (try have pg6_2 : w3.heap.size < w6.heap.size + 1 := (by omega)); (try have ph6_2 : w3.heap.size < w6.heap.size + 1 + 1 := (by omega)); (try have pf6_3 : w3.heap.size + 1 < w6.heap.size := (by omega)); (try have pg6_3 : w3.heap.size + 1 < w6.heap.size + 1 := (by omega)); (try have ph6_3 : w3.heap.size + 1 < w6.heap.size + 1 + 1 := (by omega)); (try have pf6_4 : w3.heap.size + 1 + 1 < w6.heap.size := (by omega)); (try have pg6_4 : w3.heap.size + 1 + 1 < w6.heap.size + 1 := (by omega)); (try have ph6_4 : w3.heap.size + 1 + 1 < w6.heap.size + 1 + 1 := (by omega)); (try have pf6_5 : w3.heap.size + 1 + 1 + 1 < w6.heap.size := (by omega)); (try have pg6_5 : w3.heap.size + 1 + 1 + 1 < w6.heap.size + 1 := (by omega)); (try have ph6_5 : w3.heap.size + 1 + 1 + 1 < w6.heap.size + 1 + 1 := (by omega)); (try have pf6_6 : w4.heap.size < w6.heap.size := (by omega)); (try have pg6_6 : w4.heap.size < w6.heap.size + 1 := (by omega)); (try have ph6_6 : w4.heap.size < w6.heap.size + 1 + 1 := (by omega)); (try have pf6_7 : w4.heap.size + 1 < w6.heap.size := (by omega)); (try have pg6_7 : w4.heap.size + 1 < w6.heap.size + 1 := (by omega)); (try have ph6_7 : w4.heap.size + 1 < w6.heap.size + 1 + 1 := (by omega)); (try have pf6_8 : w5.heap.size < w6.heap.size := (by omega)); (try have pg6_8 : w5.heap.size < w6.heap.size + 1 := (by omega)); (try have ph6_8 : w5.heap.size < w6.heap.size + 1 + 1 := (by omega)); (try have pf6_9 : w5.heap.size + 1 < w6.heap.size := (by omega)); (try have pg6_9 : w5.heap.size + 1 < w6.heap.size + 1 := (by omega)); (try have ph6_9 : w5.heap.size + 1 < w6.heap.size + 1 + 1 := (by omega))))
    all_goals
      go_wp2_with fail
      go_meet
      refine ⟨_, _, rfl, rfl, rfl, ?_, ?_, ?_, ?_, ?_⟩
      · apply blk_to
        · repeat first | with_reducible apply Blk.put | with_reducible apply Blk.far (hp := (by first | omega | (simp; done) | (simp; omega))) | with_reducible apply Blk.drew | with_reducible apply Blk.new_at (h := (by first | rfl | (simp; done) | omega)) | with_reducible apply Blk.alloc | with_reducible apply Blk.below (hb := hb4) (hg := (by first | omega | (simp; done) | (simp; omega))) | with_reducible apply Blk.below (hb := hb5) (hg := (by first | omega | (simp; done) | (simp; omega))) | with_reducible apply Blk.below (hb := hb6) (hg := (by first | omega | (simp; done) | (simp; omega)))
        · rfl
      · apply blk_to
        · repeat first | with_reducible apply Blk.put | with_reducible apply Blk.far (hp := (by first | omega | (simp; done) | (simp; omega))) | with_reducible apply Blk.drew | with_reducible apply Blk.new_at (h := (by first | rfl | (simp; done) | omega)) | with_reducible apply Blk.alloc | with_reducible apply Blk.below (hb := hb4) (hg := (by first | omega | (simp; done) | (simp; omega))) | with_reducible apply Blk.below (hb := hb5) (hg := (by first | omega | (simp; done) | (simp; omega))) | with_reducible apply Blk.below (hb := hb6) (hg := (by first | omega | (simp; done) | (simp; omega)))
        · rfl
      · apply blk_to
        · repeat first | with_reducible apply Blk.put | with_reducible apply Blk.far (hp := (by first | omega | (simp; done) | (simp; omega))) | with_reducible apply Blk.drew | with_reducible apply Blk.new_at (h := (by first | rfl | (simp; done) | omega)) | with_reducible apply Blk.alloc | with_reducible apply Blk.below (hb := hb4) (hg := (by first | omega | (simp; done) | (simp; omega))) | with_reducible apply Blk.below (hb := hb5) (hg := (by first | omega | (simp; done) | (simp; omega))) | with_reducible apply Blk.below (hb := hb6) (hg := (by first | omega | (simp; done) | (simp; omega)))
        · rfl
      · apply blk_to
        · repeat first | with_reducible apply Blk.put | with_reducible apply Blk.far (hp := (by first | omega | (simp; done) | (simp; omega))) | with_reducible apply Blk.drew | with_reducible apply Blk.new_at (h := (by first | rfl | (simp; done) | omega)) | with_reducible apply Blk.alloc | with_reducible apply Blk.below (hb := hb4) (hg := (by first | omega | (simp; done) | (simp; omega))) | with_reducible apply Blk.below (hb := hb5) (hg := (by first | omega | (simp; done) | (simp; omega))) | with_reducible apply Blk.below (hb := hb6) (hg := (by first | omega | (simp; done) | (simp; omega)))
        · rfl
      · repeat first | with_reducible exact Below.refl _ _ | with_reducible apply Below.drew | with_reducible apply Below.setCell (hp := (by first | omega | (simp; done) | (simp; omega))) | with_reducible apply Below.alloc (hB := (by first | omega | (simp; done) | (simp; omega))) | with_reducible refine Below.trans ?_ (Below.mono (B' := w3.heap.size) hb4 (by first | omega | (simp; done) | (simp; omega))) | with_reducible refine Below.trans ?_ (Below.mono (B' := w3.heap.size) hb5 (by first | omega | (simp; done) | (simp; omega))) | with_reducible refine Below.trans ?_ (Below.mono (B' := w3.heap.size) hb6 (by first | omega | (simp; done) | (simp; omega)))
  case rest =>
    obtain ⟨bx, bz, rfl, rfl, rfl, hP, hQ, hX, hY, hB⟩ := hcut
    have hzc := hB.size
    have lP := hP.lt
    have lQ := hQ.lt
    have lX := hX.lt
    have lY := hY.lt
    clear hc1 hf1 hc2 hf2 hc3 hf3
    have QX := fun W => row_eql_yes (M.turn x) (M.turn x) W rfl
    have QY := fun W => row_eql_yes (M.turn y) (M.turn y) W rfl
    cases c
    all_goals
     go_wp2_with fail
     go_region_held3 (fun W => W.cell? ⟨bx, 0, none⟩ = some (.int .i64 (M.turn x).X) ∧ W.cell? ⟨bx, 1, none⟩ = some (.int .i64 (M.turn x).Y) ∧ W.cell? ⟨bx, 2, none⟩ = some (.int .i64 (M.turn x).PX) ∧ W.cell? ⟨bx, 3, none⟩ = some (.int .i64 (M.turn x).PY) ∧ W.cell? ⟨bx, 4, none⟩ = some (.int .i64 (M.turn x).W) ∧ W.cell? ⟨bx, 5, none⟩ = some (.int .i64 (M.turn x).H) ∧ W.cell? ⟨bx, 6, none⟩ = some (.int .i64 (M.turn x).M) ∧ W.cell? ⟨bx, 7, none⟩ = some (.int .i64 (M.turn x).R) ∧ W.cell? ⟨bz, 0, none⟩ = some (.int .i64 (M.turn y).X) ∧ W.cell? ⟨bz, 1, none⟩ = some (.int .i64 (M.turn y).Y) ∧ W.cell? ⟨bz, 2, none⟩ = some (.int .i64 (M.turn y).PX) ∧ W.cell? ⟨bz, 3, none⟩ = some (.int .i64 (M.turn y).PY) ∧ W.cell? ⟨bz, 4, none⟩ = some (.int .i64 (M.turn y).W) ∧ W.cell? ⟨bz, 5, none⟩ = some (.int .i64 (M.turn y).H) ∧ W.cell? ⟨bz, 6, none⟩ = some (.int .i64 (M.turn y).M) ∧ W.cell? ⟨bz, 7, none⟩ = some (.int .i64 (M.turn y).R) ∧ W.cell? ⟨w3.heap.size, 0, none⟩ = some (.int .i64 x.X) ∧ W.cell? ⟨w3.heap.size, 1, none⟩ = some (.int .i64 x.Y) ∧ W.cell? ⟨w3.heap.size, 2, none⟩ = some (.int .i64 x.PX) ∧ W.cell? ⟨w3.heap.size, 3, none⟩ = some (.int .i64 x.PY) ∧ W.cell? ⟨w3.heap.size, 4, none⟩ = some (.int .i64 x.W) ∧ W.cell? ⟨w3.heap.size, 5, none⟩ = some (.int .i64 x.H) ∧ W.cell? ⟨w3.heap.size, 6, none⟩ = some (.int .i64 x.M) ∧ W.cell? ⟨w3.heap.size, 7, none⟩ = some (.int .i64 x.R) ∧ W.cell? ⟨(w3.heap.size + 1), 0, none⟩ = some (.int .i64 y.X) ∧ W.cell? ⟨(w3.heap.size + 1), 1, none⟩ = some (.int .i64 y.Y) ∧ W.cell? ⟨(w3.heap.size + 1), 2, none⟩ = some (.int .i64 y.PX) ∧ W.cell? ⟨(w3.heap.size + 1), 3, none⟩ = some (.int .i64 y.PY) ∧ W.cell? ⟨(w3.heap.size + 1), 4, none⟩ = some (.int .i64 y.W) ∧ W.cell? ⟨(w3.heap.size + 1), 5, none⟩ = some (.int .i64 y.H) ∧ W.cell? ⟨(w3.heap.size + 1), 6, none⟩ = some (.int .i64 y.M) ∧ W.cell? ⟨(w3.heap.size + 1), 7, none⟩ = some (.int .i64 y.R)) (exact four_cells (by (repeat first | with_reducible exact hP | with_reducible apply Blk.drew | with_reducible apply Blk.drewN | with_reducible apply Blk.below (hb := hb7) (hg := (by first | omega | (simp; done) | (simp; omega))) | with_reducible apply Blk.below (hb := hb8) (hg := (by first | omega | (simp; done) | (simp; omega))) | with_reducible apply Blk.below (hb := hb9) (hg := (by first | omega | (simp; done) | (simp; omega))))) (by (repeat first | with_reducible exact hQ | with_reducible apply Blk.drew | with_reducible apply Blk.drewN | with_reducible apply Blk.below (hb := hb7) (hg := (by first | omega | (simp; done) | (simp; omega))) | with_reducible apply Blk.below (hb := hb8) (hg := (by first | omega | (simp; done) | (simp; omega))) | with_reducible apply Blk.below (hb := hb9) (hg := (by first | omega | (simp; done) | (simp; omega))))) (by (repeat first | with_reducible exact hX | with_reducible apply Blk.drew | with_reducible apply Blk.drewN | with_reducible apply Blk.below (hb := hb7) (hg := (by first | omega | (simp; done) | (simp; omega))) | with_reducible apply Blk.below (hb := hb8) (hg := (by first | omega | (simp; done) | (simp; omega))) | with_reducible apply Blk.below (hb := hb9) (hg := (by first | omega | (simp; done) | (simp; omega))))) (by (repeat first | with_reducible exact hY | with_reducible apply Blk.drew | with_reducible apply Blk.drewN | with_reducible apply Blk.below (hb := hb7) (hg := (by first | omega | (simp; done) | (simp; omega))) | with_reducible apply Blk.below (hb := hb8) (hg := (by first | omega | (simp; done) | (simp; omega))) | with_reducible apply Blk.below (hb := hb9) (hg := (by first | omega | (simp; done) | (simp; omega)))))) (first | (go_at_call 33; with_reducible refine (TX.out _).mono ?_; rintro e w7 ⟨rfl, hb7⟩; have hz7 := hb7.size; (try simp at hz7)) | (go_at_call 33; with_reducible refine (TY.out _).mono ?_; rintro e w8 ⟨rfl, hb8⟩; have hz8 := hb8.size; (try simp at hz8)) | (go_at_call 32; with_reducible refine (keepSolves_calls _).mono ?_; rintro e w9 ⟨rfl, hb9⟩; have hz9 := hb9.size; (try simp at hz9)))
     go_wp2
     go_ret
     exact ⟨rfl, ((((HK3.out.trans (hB.mono (by omega))).drew).trans (hb7.mono (by first | omega | (simp; done) | (simp; omega)))).trans (hb8.mono (by omega))).trans (hb9.mono (by omega))⟩

theorem solveTurned_walk (a b : M.Row) (w : World) (ha : RowOk a) (hb : RowOk b) :
    Calls Try.prog 9 #[rowV a, rowV b] w fun e w' => e = .returned (.bool true) ∧ Below w.heap.size w w' := by
  by_cases hx : a.X = b.X
  · exact turned_x a b w ha hb (by simp [hx])
  · have e1 : (a.X == b.X) = false := by simp [hx]
    by_cases hy : a.Y = b.Y
    · exact turned_y a b w ha hb e1 (by simp [hy])
    · have e2 : (a.Y == b.Y) = false := by simp [hy]
      cases h1 : M.body a with
      | false => exact turned_a a b w ha hb e1 e2 h1
      | true =>
        cases h2 : M.body b with
        | false => exact turned_b a b w ha hb e1 e2 h1 h2
        | true => exact turned_main a b w ha hb e1 e2 h1 h2 _ rfl hx hy

end Go.Proofs.Ytkpecagkpjabdaa
