/- The walk of the law SolveParts: it returns true, for all rows of numbers of 64 bits. -/
import Derived.Test.YtkpecagkpjabdaaSolveKeep
import Derived.Test.YtkpecagkpjabdaaWSolveSums
import Derived.Test.YtkpecagkpjabdaaLawParts
import Derived.Test.YtkpecagkpjabdaaRowEq
namespace Go.Proofs.Ytkpecagkpjabdaa
open Go.RowKit
set_option linter.unusedVariables false

theorem ok_of_body {r : M.Row} (h : M.body r = true) : RowOk r := by
  have := M.body_bd h
  unfold RowOk I64
  omega

set_option maxHeartbeats 4000000 in
set_option maxRecDepth 100000 in
theorem parts_no (a b : M.Row) (w : World) (ha : RowOk a) (hb : RowOk b) (hm : M.meets a b = false) :
    Calls Try.prog 8 #[rowV a, rowV b] w fun e w' => e = .returned (.bool true) ∧ Below w.heap.size w w' := by
  have E : M.meet a b = (a, b) := by unfold M.meet; rw [if_pos hm]
  have hmeet := fun W => meet_is a b W false ha hb hm
  rw [E] at hmeet
  have HM := Lib.hid hmeet
  have QA := fun W => row_eql_yes a a W rfl
  have QB := fun W => row_eql_yes b b W rfl
  clear hmeet E hm
  go_enter Try.func8, Try.ntmps8
  go_wp2_with (first | (go_at_call 24; refine (HM.out _).mono ?_; rintro e w1 ⟨rfl, hb1⟩; obtain ⟨hc1, hf1⟩ := bcell hb1; have hz1 := hb1.size; (try simp at hz1); have f1_0 : w.heap.size < w1.heap.size := (by omega); have g1_0 : w.heap.size < w.heap.size + 1 + 1 := (by omega); have f1_1 : w.heap.size + 1 < w1.heap.size := (by omega); have g1_1 : w.heap.size + 1 < w.heap.size + 1 + 1 := (by omega)) | (go_at_call 32; with_reducible refine (keepSolves_calls _).mono ?_; rintro e w2 ⟨rfl, hb2⟩; obtain ⟨hc2, hf2⟩ := bcell hb2; have hz2 := hb2.size; (try simp at hz2); have f2_0 : w.heap.size < w2.heap.size := (by omega); have g2_0 : w.heap.size < w1.heap.size + 1 + 1 := (by omega); have f2_1 : w.heap.size + 1 < w2.heap.size := (by omega); have g2_1 : w.heap.size + 1 < w1.heap.size + 1 + 1 := (by omega); have f2_2 : w1.heap.size < w2.heap.size := (by omega); have g2_2 : w1.heap.size < w1.heap.size + 1 + 1 := (by omega); have f2_3 : w1.heap.size + 1 < w2.heap.size := (by omega); have g2_3 : w1.heap.size + 1 < w1.heap.size + 1 + 1 := (by omega)))
  go_ret
  exact ⟨rfl, ((((((Below.refl _ w).alloc (by first | exact Nat.le_refl _ | omega | (simp; done) | (simp; omega)) _).alloc (by first | exact Nat.le_refl _ | omega | (simp; done) | (simp; omega)) _).trans (hb1.mono (by first | omega | (simp; done) | (simp; omega)))).alloc (by first | exact Nat.le_refl _ | omega | (simp; done) | (simp; omega)) _).alloc (by first | exact Nat.le_refl _ | omega | (simp; done) | (simp; omega)) _).trans (hb2.mono (by first | omega | (simp; done) | (simp; omega)))⟩

set_option maxHeartbeats 4000000 in
set_option maxRecDepth 100000 in
theorem parts_b1 (a b : M.Row) (w : World) (ha : RowOk a) (hb : RowOk b) (hm : M.meets a b = true) (hca : M.calm a = false) :
    Calls Try.prog 8 #[rowV a, rowV b] w fun e w' => e = .returned (.bool true) ∧ Below w.heap.size w w' := by
  have hmeet := fun W => meet_is a b W true ha hb hm
  have HA := Lib.hid (fun W => calm_is a W false hca)
  clear hca hm
  generalize hx : (M.meet a b).1 = x at *
  generalize hy : (M.meet a b).2 = y at *
  have HM := Lib.hid hmeet
  clear hmeet hx hy
  go_enter Try.func8, Try.ntmps8
  go_wp2_with (first | (go_at_call 24; refine (HM.out _).mono ?_; rintro e w1 ⟨rfl, hb1⟩; obtain ⟨hc1, hf1⟩ := bcell hb1; have hz1 := hb1.size; (try simp at hz1); have f1_0 : w.heap.size < w1.heap.size := (by omega); have g1_0 : w.heap.size < w.heap.size + 1 + 1 := (by omega); have f1_1 : w.heap.size + 1 < w1.heap.size := (by omega); have g1_1 : w.heap.size + 1 < w.heap.size + 1 + 1 := (by omega)) | (go_at_call 31; with_reducible refine (HA.out _).mono ?_; rintro e w2 ⟨rfl, hb2⟩; obtain ⟨hc2, hf2⟩ := bcell hb2; have hz2 := hb2.size; (try simp at hz2); have f2_0 : w.heap.size < w2.heap.size := (by omega); have g2_0 : w.heap.size < w1.heap.size + 1 + 1 := (by omega); have f2_1 : w.heap.size + 1 < w2.heap.size := (by omega); have g2_1 : w.heap.size + 1 < w1.heap.size + 1 + 1 := (by omega); have f2_2 : w1.heap.size < w2.heap.size := (by omega); have g2_2 : w1.heap.size < w1.heap.size + 1 + 1 := (by omega); have f2_3 : w1.heap.size + 1 < w2.heap.size := (by omega); have g2_3 : w1.heap.size + 1 < w1.heap.size + 1 + 1 := (by omega)) | (go_at_call 32; with_reducible refine (keepSolves_calls _).mono ?_; rintro e w3 ⟨rfl, hb3⟩; obtain ⟨hc3, hf3⟩ := bcell hb3; have hz3 := hb3.size; (try simp at hz3); have f3_0 : w.heap.size < w3.heap.size := (by omega); have f3_1 : w.heap.size + 1 < w3.heap.size := (by omega); have f3_2 : w1.heap.size < w3.heap.size := (by omega); have f3_3 : w1.heap.size + 1 < w3.heap.size := (by omega)))
  go_ret
  exact ⟨rfl, (((((((Below.refl _ w).alloc (by first | exact Nat.le_refl _ | omega | (simp; done) | (simp; omega)) _).alloc (by first | exact Nat.le_refl _ | omega | (simp; done) | (simp; omega)) _).trans (hb1.mono (by first | omega | (simp; done) | (simp; omega)))).alloc (by first | exact Nat.le_refl _ | omega | (simp; done) | (simp; omega)) _).alloc (by first | exact Nat.le_refl _ | omega | (simp; done) | (simp; omega)) _).trans (hb2.mono (by first | omega | (simp; done) | (simp; omega)))).trans (hb3.mono (by first | omega | (simp; done) | (simp; omega)))⟩

set_option maxHeartbeats 4000000 in
set_option maxRecDepth 100000 in
theorem parts_b2 (a b : M.Row) (w : World) (ha : RowOk a) (hb : RowOk b) (hm : M.meets a b = true) (hca : M.calm a = true) (hcb : M.calm b = false) :
    Calls Try.prog 8 #[rowV a, rowV b] w fun e w' => e = .returned (.bool true) ∧ Below w.heap.size w w' := by
  have hmeet := fun W => meet_is a b W true ha hb hm
  have HA := Lib.hid (fun W => calm_is a W true hca)
  have HB := Lib.hid (fun W => calm_is b W false hcb)
  clear hca hcb hm
  generalize hx : (M.meet a b).1 = x at *
  generalize hy : (M.meet a b).2 = y at *
  have HM := Lib.hid hmeet
  clear hmeet hx hy
  go_enter Try.func8, Try.ntmps8
  go_wp2_with (first | (go_at_call 24; refine (HM.out _).mono ?_; rintro e w1 ⟨rfl, hb1⟩; obtain ⟨hc1, hf1⟩ := bcell hb1; have hz1 := hb1.size; (try simp at hz1); have f1_0 : w.heap.size < w1.heap.size := (by omega); have g1_0 : w.heap.size < w.heap.size + 1 + 1 := (by omega); have f1_1 : w.heap.size + 1 < w1.heap.size := (by omega); have g1_1 : w.heap.size + 1 < w.heap.size + 1 + 1 := (by omega)) | (go_at_call 31; with_reducible refine (HA.out _).mono ?_; rintro e w2 ⟨rfl, hb2⟩; obtain ⟨hc2, hf2⟩ := bcell hb2; have hz2 := hb2.size; (try simp at hz2); have f2_0 : w.heap.size < w2.heap.size := (by omega); have g2_0 : w.heap.size < w1.heap.size + 1 + 1 := (by omega); have f2_1 : w.heap.size + 1 < w2.heap.size := (by omega); have g2_1 : w.heap.size + 1 < w1.heap.size + 1 + 1 := (by omega); have f2_2 : w1.heap.size < w2.heap.size := (by omega); have g2_2 : w1.heap.size < w1.heap.size + 1 + 1 := (by omega); have f2_3 : w1.heap.size + 1 < w2.heap.size := (by omega); have g2_3 : w1.heap.size + 1 < w1.heap.size + 1 + 1 := (by omega)) | (go_at_call 31; with_reducible refine (HB.out _).mono ?_; rintro e w3 ⟨rfl, hb3⟩; obtain ⟨hc3, hf3⟩ := bcell hb3; have hz3 := hb3.size; (try simp at hz3); have f3_0 : w.heap.size < w3.heap.size := (by omega); have f3_1 : w.heap.size + 1 < w3.heap.size := (by omega); have f3_2 : w1.heap.size < w3.heap.size := (by omega); have f3_3 : w1.heap.size + 1 < w3.heap.size := (by omega)) | (go_at_call 32; with_reducible refine (keepSolves_calls _).mono ?_; rintro e w4 ⟨rfl, hb4⟩; obtain ⟨hc4, hf4⟩ := bcell hb4; have hz4 := hb4.size; (try simp at hz4); have f4_0 : w.heap.size < w4.heap.size := (by omega); have f4_1 : w.heap.size + 1 < w4.heap.size := (by omega); have f4_2 : w1.heap.size < w4.heap.size := (by omega); have f4_3 : w1.heap.size + 1 < w4.heap.size := (by omega)))
  go_ret
  exact ⟨rfl, ((((((((Below.refl _ w).alloc (by first | exact Nat.le_refl _ | omega | (simp; done) | (simp; omega)) _).alloc (by first | exact Nat.le_refl _ | omega | (simp; done) | (simp; omega)) _).trans (hb1.mono (by first | omega | (simp; done) | (simp; omega)))).alloc (by first | exact Nat.le_refl _ | omega | (simp; done) | (simp; omega)) _).alloc (by first | exact Nat.le_refl _ | omega | (simp; done) | (simp; omega)) _).trans (hb2.mono (by first | omega | (simp; done) | (simp; omega)))).trans (hb3.mono (by first | omega | (simp; done) | (simp; omega)))).trans (hb4.mono (by first | omega | (simp; done) | (simp; omega)))⟩

set_option maxHeartbeats 4000000 in
set_option maxRecDepth 100000 in
theorem parts_b3 (a b : M.Row) (w : World) (ha : RowOk a) (hb : RowOk b) (hm : M.meets a b = true) (hca : M.calm a = true) (hcb : M.calm b = true) (e1 : (a.M == 0) = true) (e2 : (b.M == 0) = true) :
    Calls Try.prog 8 #[rowV a, rowV b] w fun e w' => e = .returned (.bool true) ∧ Below w.heap.size w w' := by
  have hmeet := fun W => meet_is a b W true ha hb hm
  have HA := Lib.hid (fun W => calm_is a W true hca)
  have HB := Lib.hid (fun W => calm_is b W true hcb)
  clear hca hcb hm
  generalize hx : (M.meet a b).1 = x at *
  generalize hy : (M.meet a b).2 = y at *
  have HM := Lib.hid hmeet
  clear hmeet hx hy
  go_enter Try.func8, Try.ntmps8
  go_wp2_with (first | (go_at_call 24; refine (HM.out _).mono ?_; rintro e w1 ⟨rfl, hb1⟩; obtain ⟨hc1, hf1⟩ := bcell hb1; have hz1 := hb1.size; (try simp at hz1); have f1_0 : w.heap.size < w1.heap.size := (by omega); have g1_0 : w.heap.size < w.heap.size + 1 + 1 := (by omega); have f1_1 : w.heap.size + 1 < w1.heap.size := (by omega); have g1_1 : w.heap.size + 1 < w.heap.size + 1 + 1 := (by omega)) | (go_at_call 31; with_reducible refine (HA.out _).mono ?_; rintro e w2 ⟨rfl, hb2⟩; obtain ⟨hc2, hf2⟩ := bcell hb2; have hz2 := hb2.size; (try simp at hz2); have f2_0 : w.heap.size < w2.heap.size := (by omega); have g2_0 : w.heap.size < w1.heap.size + 1 + 1 := (by omega); have f2_1 : w.heap.size + 1 < w2.heap.size := (by omega); have g2_1 : w.heap.size + 1 < w1.heap.size + 1 + 1 := (by omega); have f2_2 : w1.heap.size < w2.heap.size := (by omega); have g2_2 : w1.heap.size < w1.heap.size + 1 + 1 := (by omega); have f2_3 : w1.heap.size + 1 < w2.heap.size := (by omega); have g2_3 : w1.heap.size + 1 < w1.heap.size + 1 + 1 := (by omega)) | (go_at_call 31; with_reducible refine (HB.out _).mono ?_; rintro e w3 ⟨rfl, hb3⟩; obtain ⟨hc3, hf3⟩ := bcell hb3; have hz3 := hb3.size; (try simp at hz3); have f3_0 : w.heap.size < w3.heap.size := (by omega); have f3_1 : w.heap.size + 1 < w3.heap.size := (by omega); have f3_2 : w1.heap.size < w3.heap.size := (by omega); have f3_3 : w1.heap.size + 1 < w3.heap.size := (by omega)) | (go_at_call 32; with_reducible refine (keepSolves_calls _).mono ?_; rintro e w4 ⟨rfl, hb4⟩; obtain ⟨hc4, hf4⟩ := bcell hb4; have hz4 := hb4.size; (try simp at hz4); have f4_0 : w.heap.size < w4.heap.size := (by omega); have f4_1 : w.heap.size + 1 < w4.heap.size := (by omega); have f4_2 : w1.heap.size < w4.heap.size := (by omega); have f4_3 : w1.heap.size + 1 < w4.heap.size := (by omega)))
  go_ret
  exact ⟨rfl, ((((((((Below.refl _ w).alloc (by first | exact Nat.le_refl _ | omega | (simp; done) | (simp; omega)) _).alloc (by first | exact Nat.le_refl _ | omega | (simp; done) | (simp; omega)) _).trans (hb1.mono (by first | omega | (simp; done) | (simp; omega)))).alloc (by first | exact Nat.le_refl _ | omega | (simp; done) | (simp; omega)) _).alloc (by first | exact Nat.le_refl _ | omega | (simp; done) | (simp; omega)) _).trans (hb2.mono (by first | omega | (simp; done) | (simp; omega)))).trans (hb3.mono (by first | omega | (simp; done) | (simp; omega)))).trans (hb4.mono (by first | omega | (simp; done) | (simp; omega)))⟩

set_option maxHeartbeats 4000000 in
set_option maxRecDepth 100000 in
theorem parts_c111 (a b : M.Row) (w : World) (ha : RowOk a) (hb : RowOk b) (hm : M.meets a b = true) (hca : M.calm a = true) (hcb : M.calm b = true) (h1 : a.M ≠ 0) (h2 : b.M ≠ 0) (d1 : (M.depth (M.meet a b).1.W (M.meet a b).2.W (M.meet a b).1.X (M.meet a b).2.X == 0) = true) :
    Calls Try.prog 8 #[rowV a, rowV b] w fun e w' => e = .returned (.bool true) ∧ Below w.heap.size w w' := by
  have hmeet := fun W => meet_is a b W true ha hb hm
  have HA := Lib.hid (fun W => calm_is a W true hca)
  have HB := Lib.hid (fun W => calm_is b W true hcb)
  simp only [M.calm, decide_eq_true_eq] at hca hcb
  obtain ⟨_, ⟨p1, p2, p3, p4⟩, ⟨p5, p6, p7, p8⟩, p9, p10, p11, p12⟩ := M.meet_parts hm (by omega) hca.1 hca.2.1 hcb.1 hcb.2.1
  have e1 : (a.M == 0) = false := by simp [h1]
  have e2 : (b.M == 0) = false := by simp [h2]
  have n1 : (a.M != 0) = true := by simp [h1]
  have n2 : (b.M != 0) = true := by simp [h2]
  have HD := Lib.hid (fun W => depth_calls (M.meet a b).1 (M.meet a b).2 W (mid_of_body p11) (mid_of_body p12))
  have GX := Lib.hid (fun W => good_yes (M.meet a b).1 W (ok_of_body p11) p11)
  have GY := Lib.hid (fun W => good_yes (M.meet a b).2 W (ok_of_body p12) p12)
  have k0 : ((M.meet a b).1.W == a.W) = true := by simp [p1]
  have k1 : ((M.meet a b).1.H == a.H) = true := by simp [p2]
  have k2 : ((M.meet a b).1.M == a.M) = true := by simp [p3]
  have k3 : ((M.meet a b).1.R == a.R) = true := by simp [p4]
  have k4 : ((M.meet a b).2.W == b.W) = true := by simp [p5]
  have k5 : ((M.meet a b).2.H == b.H) = true := by simp [p6]
  have k6 : ((M.meet a b).2.M == b.M) = true := by simp [p7]
  have k7 : ((M.meet a b).2.R == b.R) = true := by simp [p8]
  clear p1 p2 p3 p4 p5 p6 p7 p8 p9 p10 p11 p12 hca hcb h1 h2 hm
  generalize hx : (M.meet a b).1 = x at *
  generalize hy : (M.meet a b).2 = y at *
  have HM := Lib.hid hmeet
  clear hmeet hx hy
  go_enter Try.func8, Try.ntmps8
  go_wp2_with (first | (go_at_call 24; refine (HM.out _).mono ?_; rintro e w1 ⟨rfl, hb1⟩; obtain ⟨hc1, hf1⟩ := bcell hb1; have hz1 := hb1.size; (try simp at hz1); have f1_0 : w.heap.size < w1.heap.size := (by omega); have g1_0 : w.heap.size < w.heap.size + 1 + 1 := (by omega); have f1_1 : w.heap.size + 1 < w1.heap.size := (by omega); have g1_1 : w.heap.size + 1 < w.heap.size + 1 + 1 := (by omega)) | (go_at_call 31; with_reducible refine (HA.out _).mono ?_; rintro e w2 ⟨rfl, hb2⟩; obtain ⟨hc2, hf2⟩ := bcell hb2; have hz2 := hb2.size; (try simp at hz2); have f2_0 : w.heap.size < w2.heap.size := (by omega); have g2_0 : w.heap.size < w1.heap.size + 1 + 1 := (by omega); have f2_1 : w.heap.size + 1 < w2.heap.size := (by omega); have g2_1 : w.heap.size + 1 < w1.heap.size + 1 + 1 := (by omega); have f2_2 : w1.heap.size < w2.heap.size := (by omega); have g2_2 : w1.heap.size < w1.heap.size + 1 + 1 := (by omega); have f2_3 : w1.heap.size + 1 < w2.heap.size := (by omega); have g2_3 : w1.heap.size + 1 < w1.heap.size + 1 + 1 := (by omega)) | (go_at_call 31; with_reducible refine (HB.out _).mono ?_; rintro e w3 ⟨rfl, hb3⟩; obtain ⟨hc3, hf3⟩ := bcell hb3; have hz3 := hb3.size; (try simp at hz3); have f3_0 : w.heap.size < w3.heap.size := (by omega); have f3_1 : w.heap.size + 1 < w3.heap.size := (by omega); have f3_2 : w1.heap.size < w3.heap.size := (by omega); have f3_3 : w1.heap.size + 1 < w3.heap.size := (by omega)) | (go_at_call 29; refine (HD.out _).mono ?_; rintro e w4 ⟨rfl, hb4⟩; obtain ⟨hc4, hf4⟩ := bcell hb4; have hz4 := hb4.size; (try simp at hz4); have f4_0 : w.heap.size < w4.heap.size := (by omega); have f4_1 : w.heap.size + 1 < w4.heap.size := (by omega); have f4_2 : w1.heap.size < w4.heap.size := (by omega); have f4_3 : w1.heap.size + 1 < w4.heap.size := (by omega)) | (go_at_call 26; with_reducible refine (GX.out _).mono ?_; rintro e w5 ⟨rfl, hb5⟩; obtain ⟨hc5, hf5⟩ := bcell hb5; have hz5 := hb5.size; (try simp at hz5); have f5_0 : w.heap.size < w5.heap.size := (by omega); have f5_1 : w.heap.size + 1 < w5.heap.size := (by omega); have f5_2 : w1.heap.size < w5.heap.size := (by omega); have f5_3 : w1.heap.size + 1 < w5.heap.size := (by omega)) | (go_at_call 26; with_reducible refine (GY.out _).mono ?_; rintro e w6 ⟨rfl, hb6⟩; obtain ⟨hc6, hf6⟩ := bcell hb6; have hz6 := hb6.size; (try simp at hz6); have f6_0 : w.heap.size < w6.heap.size := (by omega); have f6_1 : w.heap.size + 1 < w6.heap.size := (by omega); have f6_2 : w1.heap.size < w6.heap.size := (by omega); have f6_3 : w1.heap.size + 1 < w6.heap.size := (by omega)) | (go_at_call 32; with_reducible refine (keepSolves_calls _).mono ?_; rintro e w7 ⟨rfl, hb7⟩; obtain ⟨hc7, hf7⟩ := bcell hb7; have hz7 := hb7.size; (try simp at hz7); have f7_0 : w.heap.size < w7.heap.size := (by omega); have f7_1 : w.heap.size + 1 < w7.heap.size := (by omega); have f7_2 : w1.heap.size < w7.heap.size := (by omega); have f7_3 : w1.heap.size + 1 < w7.heap.size := (by omega)))
  go_ret
  exact ⟨rfl, (((((((((((Below.refl _ w).alloc (by first | exact Nat.le_refl _ | omega | (simp; done) | (simp; omega)) _).alloc (by first | exact Nat.le_refl _ | omega | (simp; done) | (simp; omega)) _).trans (hb1.mono (by first | omega | (simp; done) | (simp; omega)))).alloc (by first | exact Nat.le_refl _ | omega | (simp; done) | (simp; omega)) _).alloc (by first | exact Nat.le_refl _ | omega | (simp; done) | (simp; omega)) _).trans (hb2.mono (by first | omega | (simp; done) | (simp; omega)))).trans (hb3.mono (by first | omega | (simp; done) | (simp; omega)))).trans (hb4.mono (by first | omega | (simp; done) | (simp; omega)))).trans (hb5.mono (by first | omega | (simp; done) | (simp; omega)))).trans (hb6.mono (by first | omega | (simp; done) | (simp; omega)))).trans (hb7.mono (by first | omega | (simp; done) | (simp; omega)))⟩

set_option maxHeartbeats 4000000 in
set_option maxRecDepth 100000 in
theorem parts_c110 (a b : M.Row) (w : World) (ha : RowOk a) (hb : RowOk b) (hm : M.meets a b = true) (hca : M.calm a = true) (hcb : M.calm b = true) (h1 : a.M ≠ 0) (h2 : b.M ≠ 0) (d1 : (M.depth (M.meet a b).1.W (M.meet a b).2.W (M.meet a b).1.X (M.meet a b).2.X == 0) = false) (d2 : (M.depth (M.meet a b).1.H (M.meet a b).2.H (M.meet a b).1.Y (M.meet a b).2.Y == 0) = true) :
    Calls Try.prog 8 #[rowV a, rowV b] w fun e w' => e = .returned (.bool true) ∧ Below w.heap.size w w' := by
  have hmeet := fun W => meet_is a b W true ha hb hm
  have HA := Lib.hid (fun W => calm_is a W true hca)
  have HB := Lib.hid (fun W => calm_is b W true hcb)
  simp only [M.calm, decide_eq_true_eq] at hca hcb
  obtain ⟨_, ⟨p1, p2, p3, p4⟩, ⟨p5, p6, p7, p8⟩, p9, p10, p11, p12⟩ := M.meet_parts hm (by omega) hca.1 hca.2.1 hcb.1 hcb.2.1
  have e1 : (a.M == 0) = false := by simp [h1]
  have e2 : (b.M == 0) = false := by simp [h2]
  have n1 : (a.M != 0) = true := by simp [h1]
  have n2 : (b.M != 0) = true := by simp [h2]
  have HD := Lib.hid (fun W => depth_calls (M.meet a b).1 (M.meet a b).2 W (mid_of_body p11) (mid_of_body p12))
  have GX := Lib.hid (fun W => good_yes (M.meet a b).1 W (ok_of_body p11) p11)
  have GY := Lib.hid (fun W => good_yes (M.meet a b).2 W (ok_of_body p12) p12)
  have k0 : ((M.meet a b).1.W == a.W) = true := by simp [p1]
  have k1 : ((M.meet a b).1.H == a.H) = true := by simp [p2]
  have k2 : ((M.meet a b).1.M == a.M) = true := by simp [p3]
  have k3 : ((M.meet a b).1.R == a.R) = true := by simp [p4]
  have k4 : ((M.meet a b).2.W == b.W) = true := by simp [p5]
  have k5 : ((M.meet a b).2.H == b.H) = true := by simp [p6]
  have k6 : ((M.meet a b).2.M == b.M) = true := by simp [p7]
  have k7 : ((M.meet a b).2.R == b.R) = true := by simp [p8]
  clear p1 p2 p3 p4 p5 p6 p7 p8 p9 p10 p11 p12 hca hcb h1 h2 hm
  generalize hx : (M.meet a b).1 = x at *
  generalize hy : (M.meet a b).2 = y at *
  have HM := Lib.hid hmeet
  clear hmeet hx hy
  go_enter Try.func8, Try.ntmps8
  go_wp2_with (first | (go_at_call 24; refine (HM.out _).mono ?_; rintro e w1 ⟨rfl, hb1⟩; obtain ⟨hc1, hf1⟩ := bcell hb1; have hz1 := hb1.size; (try simp at hz1); have f1_0 : w.heap.size < w1.heap.size := (by omega); have g1_0 : w.heap.size < w.heap.size + 1 + 1 := (by omega); have f1_1 : w.heap.size + 1 < w1.heap.size := (by omega); have g1_1 : w.heap.size + 1 < w.heap.size + 1 + 1 := (by omega)) | (go_at_call 31; with_reducible refine (HA.out _).mono ?_; rintro e w2 ⟨rfl, hb2⟩; obtain ⟨hc2, hf2⟩ := bcell hb2; have hz2 := hb2.size; (try simp at hz2); have f2_0 : w.heap.size < w2.heap.size := (by omega); have g2_0 : w.heap.size < w1.heap.size + 1 + 1 := (by omega); have f2_1 : w.heap.size + 1 < w2.heap.size := (by omega); have g2_1 : w.heap.size + 1 < w1.heap.size + 1 + 1 := (by omega); have f2_2 : w1.heap.size < w2.heap.size := (by omega); have g2_2 : w1.heap.size < w1.heap.size + 1 + 1 := (by omega); have f2_3 : w1.heap.size + 1 < w2.heap.size := (by omega); have g2_3 : w1.heap.size + 1 < w1.heap.size + 1 + 1 := (by omega)) | (go_at_call 31; with_reducible refine (HB.out _).mono ?_; rintro e w3 ⟨rfl, hb3⟩; obtain ⟨hc3, hf3⟩ := bcell hb3; have hz3 := hb3.size; (try simp at hz3); have f3_0 : w.heap.size < w3.heap.size := (by omega); have f3_1 : w.heap.size + 1 < w3.heap.size := (by omega); have f3_2 : w1.heap.size < w3.heap.size := (by omega); have f3_3 : w1.heap.size + 1 < w3.heap.size := (by omega)) | (go_at_call 29; refine (HD.out _).mono ?_; rintro e w4 ⟨rfl, hb4⟩; obtain ⟨hc4, hf4⟩ := bcell hb4; have hz4 := hb4.size; (try simp at hz4); have f4_0 : w.heap.size < w4.heap.size := (by omega); have f4_1 : w.heap.size + 1 < w4.heap.size := (by omega); have f4_2 : w1.heap.size < w4.heap.size := (by omega); have f4_3 : w1.heap.size + 1 < w4.heap.size := (by omega)) | (go_at_call 26; with_reducible refine (GX.out _).mono ?_; rintro e w5 ⟨rfl, hb5⟩; obtain ⟨hc5, hf5⟩ := bcell hb5; have hz5 := hb5.size; (try simp at hz5); have f5_0 : w.heap.size < w5.heap.size := (by omega); have f5_1 : w.heap.size + 1 < w5.heap.size := (by omega); have f5_2 : w1.heap.size < w5.heap.size := (by omega); have f5_3 : w1.heap.size + 1 < w5.heap.size := (by omega)) | (go_at_call 26; with_reducible refine (GY.out _).mono ?_; rintro e w6 ⟨rfl, hb6⟩; obtain ⟨hc6, hf6⟩ := bcell hb6; have hz6 := hb6.size; (try simp at hz6); have f6_0 : w.heap.size < w6.heap.size := (by omega); have f6_1 : w.heap.size + 1 < w6.heap.size := (by omega); have f6_2 : w1.heap.size < w6.heap.size := (by omega); have f6_3 : w1.heap.size + 1 < w6.heap.size := (by omega)) | (go_at_call 32; with_reducible refine (keepSolves_calls _).mono ?_; rintro e w7 ⟨rfl, hb7⟩; obtain ⟨hc7, hf7⟩ := bcell hb7; have hz7 := hb7.size; (try simp at hz7); have f7_0 : w.heap.size < w7.heap.size := (by omega); have f7_1 : w.heap.size + 1 < w7.heap.size := (by omega); have f7_2 : w1.heap.size < w7.heap.size := (by omega); have f7_3 : w1.heap.size + 1 < w7.heap.size := (by omega)))
  go_ret
  exact ⟨rfl, (((((((((((Below.refl _ w).alloc (by first | exact Nat.le_refl _ | omega | (simp; done) | (simp; omega)) _).alloc (by first | exact Nat.le_refl _ | omega | (simp; done) | (simp; omega)) _).trans (hb1.mono (by first | omega | (simp; done) | (simp; omega)))).alloc (by first | exact Nat.le_refl _ | omega | (simp; done) | (simp; omega)) _).alloc (by first | exact Nat.le_refl _ | omega | (simp; done) | (simp; omega)) _).trans (hb2.mono (by first | omega | (simp; done) | (simp; omega)))).trans (hb3.mono (by first | omega | (simp; done) | (simp; omega)))).trans (hb4.mono (by first | omega | (simp; done) | (simp; omega)))).trans (hb5.mono (by first | omega | (simp; done) | (simp; omega)))).trans (hb6.mono (by first | omega | (simp; done) | (simp; omega)))).trans (hb7.mono (by first | omega | (simp; done) | (simp; omega)))⟩

set_option maxHeartbeats 4000000 in
set_option maxRecDepth 100000 in
theorem parts_c101 (a b : M.Row) (w : World) (ha : RowOk a) (hb : RowOk b) (hm : M.meets a b = true) (hca : M.calm a = true) (hcb : M.calm b = true) (h1 : a.M ≠ 0) (h2 : b.M = 0) (d1 : (M.depth (M.meet a b).1.W (M.meet a b).2.W (M.meet a b).1.X (M.meet a b).2.X == 0) = true) :
    Calls Try.prog 8 #[rowV a, rowV b] w fun e w' => e = .returned (.bool true) ∧ Below w.heap.size w w' := by
  have hmeet := fun W => meet_is a b W true ha hb hm
  have HA := Lib.hid (fun W => calm_is a W true hca)
  have HB := Lib.hid (fun W => calm_is b W true hcb)
  simp only [M.calm, decide_eq_true_eq] at hca hcb
  obtain ⟨_, ⟨p1, p2, p3, p4⟩, ⟨p5, p6, p7, p8⟩, p9, p10, p11, p12⟩ := M.meet_parts hm (by omega) hca.1 hca.2.1 hcb.1 hcb.2.1
  have e1 : (a.M == 0) = false := by simp [h1]
  have e2 : (b.M == 0) = true := by simp [h2]
  have n1 : (a.M != 0) = true := by simp [h1]
  have n2 : (b.M != 0) = false := by simp [h2]
  have HD := Lib.hid (fun W => depth_calls (M.meet a b).1 (M.meet a b).2 W (mid_of_body p11) (mid_of_body p12))
  have GX := Lib.hid (fun W => good_yes (M.meet a b).1 W (ok_of_body p11) p11)
  have GY := Lib.hid (fun W => good_yes (M.meet a b).2 W (ok_of_body p12) p12)
  have QB := fun W => row_eql_yes (M.meet a b).2 b W (p10 h2)
  have k0 : ((M.meet a b).1.W == a.W) = true := by simp [p1]
  have k1 : ((M.meet a b).1.H == a.H) = true := by simp [p2]
  have k2 : ((M.meet a b).1.M == a.M) = true := by simp [p3]
  have k3 : ((M.meet a b).1.R == a.R) = true := by simp [p4]
  have k4 : ((M.meet a b).2.W == b.W) = true := by simp [p5]
  have k5 : ((M.meet a b).2.H == b.H) = true := by simp [p6]
  have k6 : ((M.meet a b).2.M == b.M) = true := by simp [p7]
  have k7 : ((M.meet a b).2.R == b.R) = true := by simp [p8]
  clear p1 p2 p3 p4 p5 p6 p7 p8 p9 p10 p11 p12 hca hcb h1 h2 hm
  generalize hx : (M.meet a b).1 = x at *
  generalize hy : (M.meet a b).2 = y at *
  have HM := Lib.hid hmeet
  clear hmeet hx hy
  go_enter Try.func8, Try.ntmps8
  go_wp2_with (first | (go_at_call 24; refine (HM.out _).mono ?_; rintro e w1 ⟨rfl, hb1⟩; obtain ⟨hc1, hf1⟩ := bcell hb1; have hz1 := hb1.size; (try simp at hz1); have f1_0 : w.heap.size < w1.heap.size := (by omega); have g1_0 : w.heap.size < w.heap.size + 1 + 1 := (by omega); have f1_1 : w.heap.size + 1 < w1.heap.size := (by omega); have g1_1 : w.heap.size + 1 < w.heap.size + 1 + 1 := (by omega)) | (go_at_call 31; with_reducible refine (HA.out _).mono ?_; rintro e w2 ⟨rfl, hb2⟩; obtain ⟨hc2, hf2⟩ := bcell hb2; have hz2 := hb2.size; (try simp at hz2); have f2_0 : w.heap.size < w2.heap.size := (by omega); have g2_0 : w.heap.size < w1.heap.size + 1 + 1 := (by omega); have f2_1 : w.heap.size + 1 < w2.heap.size := (by omega); have g2_1 : w.heap.size + 1 < w1.heap.size + 1 + 1 := (by omega); have f2_2 : w1.heap.size < w2.heap.size := (by omega); have g2_2 : w1.heap.size < w1.heap.size + 1 + 1 := (by omega); have f2_3 : w1.heap.size + 1 < w2.heap.size := (by omega); have g2_3 : w1.heap.size + 1 < w1.heap.size + 1 + 1 := (by omega)) | (go_at_call 31; with_reducible refine (HB.out _).mono ?_; rintro e w3 ⟨rfl, hb3⟩; obtain ⟨hc3, hf3⟩ := bcell hb3; have hz3 := hb3.size; (try simp at hz3); have f3_0 : w.heap.size < w3.heap.size := (by omega); have f3_1 : w.heap.size + 1 < w3.heap.size := (by omega); have f3_2 : w1.heap.size < w3.heap.size := (by omega); have f3_3 : w1.heap.size + 1 < w3.heap.size := (by omega)) | (go_at_call 29; refine (HD.out _).mono ?_; rintro e w4 ⟨rfl, hb4⟩; obtain ⟨hc4, hf4⟩ := bcell hb4; have hz4 := hb4.size; (try simp at hz4); have f4_0 : w.heap.size < w4.heap.size := (by omega); have f4_1 : w.heap.size + 1 < w4.heap.size := (by omega); have f4_2 : w1.heap.size < w4.heap.size := (by omega); have f4_3 : w1.heap.size + 1 < w4.heap.size := (by omega)) | (go_at_call 26; with_reducible refine (GX.out _).mono ?_; rintro e w5 ⟨rfl, hb5⟩; obtain ⟨hc5, hf5⟩ := bcell hb5; have hz5 := hb5.size; (try simp at hz5); have f5_0 : w.heap.size < w5.heap.size := (by omega); have f5_1 : w.heap.size + 1 < w5.heap.size := (by omega); have f5_2 : w1.heap.size < w5.heap.size := (by omega); have f5_3 : w1.heap.size + 1 < w5.heap.size := (by omega)) | (go_at_call 26; with_reducible refine (GY.out _).mono ?_; rintro e w6 ⟨rfl, hb6⟩; obtain ⟨hc6, hf6⟩ := bcell hb6; have hz6 := hb6.size; (try simp at hz6); have f6_0 : w.heap.size < w6.heap.size := (by omega); have f6_1 : w.heap.size + 1 < w6.heap.size := (by omega); have f6_2 : w1.heap.size < w6.heap.size := (by omega); have f6_3 : w1.heap.size + 1 < w6.heap.size := (by omega)) | (go_at_call 32; with_reducible refine (keepSolves_calls _).mono ?_; rintro e w7 ⟨rfl, hb7⟩; obtain ⟨hc7, hf7⟩ := bcell hb7; have hz7 := hb7.size; (try simp at hz7); have f7_0 : w.heap.size < w7.heap.size := (by omega); have f7_1 : w.heap.size + 1 < w7.heap.size := (by omega); have f7_2 : w1.heap.size < w7.heap.size := (by omega); have f7_3 : w1.heap.size + 1 < w7.heap.size := (by omega)))
  go_ret
  exact ⟨rfl, (((((((((((Below.refl _ w).alloc (by first | exact Nat.le_refl _ | omega | (simp; done) | (simp; omega)) _).alloc (by first | exact Nat.le_refl _ | omega | (simp; done) | (simp; omega)) _).trans (hb1.mono (by first | omega | (simp; done) | (simp; omega)))).alloc (by first | exact Nat.le_refl _ | omega | (simp; done) | (simp; omega)) _).alloc (by first | exact Nat.le_refl _ | omega | (simp; done) | (simp; omega)) _).trans (hb2.mono (by first | omega | (simp; done) | (simp; omega)))).trans (hb3.mono (by first | omega | (simp; done) | (simp; omega)))).trans (hb4.mono (by first | omega | (simp; done) | (simp; omega)))).trans (hb5.mono (by first | omega | (simp; done) | (simp; omega)))).trans (hb6.mono (by first | omega | (simp; done) | (simp; omega)))).trans (hb7.mono (by first | omega | (simp; done) | (simp; omega)))⟩

set_option maxHeartbeats 4000000 in
set_option maxRecDepth 100000 in
theorem parts_c100 (a b : M.Row) (w : World) (ha : RowOk a) (hb : RowOk b) (hm : M.meets a b = true) (hca : M.calm a = true) (hcb : M.calm b = true) (h1 : a.M ≠ 0) (h2 : b.M = 0) (d1 : (M.depth (M.meet a b).1.W (M.meet a b).2.W (M.meet a b).1.X (M.meet a b).2.X == 0) = false) (d2 : (M.depth (M.meet a b).1.H (M.meet a b).2.H (M.meet a b).1.Y (M.meet a b).2.Y == 0) = true) :
    Calls Try.prog 8 #[rowV a, rowV b] w fun e w' => e = .returned (.bool true) ∧ Below w.heap.size w w' := by
  have hmeet := fun W => meet_is a b W true ha hb hm
  have HA := Lib.hid (fun W => calm_is a W true hca)
  have HB := Lib.hid (fun W => calm_is b W true hcb)
  simp only [M.calm, decide_eq_true_eq] at hca hcb
  obtain ⟨_, ⟨p1, p2, p3, p4⟩, ⟨p5, p6, p7, p8⟩, p9, p10, p11, p12⟩ := M.meet_parts hm (by omega) hca.1 hca.2.1 hcb.1 hcb.2.1
  have e1 : (a.M == 0) = false := by simp [h1]
  have e2 : (b.M == 0) = true := by simp [h2]
  have n1 : (a.M != 0) = true := by simp [h1]
  have n2 : (b.M != 0) = false := by simp [h2]
  have HD := Lib.hid (fun W => depth_calls (M.meet a b).1 (M.meet a b).2 W (mid_of_body p11) (mid_of_body p12))
  have GX := Lib.hid (fun W => good_yes (M.meet a b).1 W (ok_of_body p11) p11)
  have GY := Lib.hid (fun W => good_yes (M.meet a b).2 W (ok_of_body p12) p12)
  have QB := fun W => row_eql_yes (M.meet a b).2 b W (p10 h2)
  have k0 : ((M.meet a b).1.W == a.W) = true := by simp [p1]
  have k1 : ((M.meet a b).1.H == a.H) = true := by simp [p2]
  have k2 : ((M.meet a b).1.M == a.M) = true := by simp [p3]
  have k3 : ((M.meet a b).1.R == a.R) = true := by simp [p4]
  have k4 : ((M.meet a b).2.W == b.W) = true := by simp [p5]
  have k5 : ((M.meet a b).2.H == b.H) = true := by simp [p6]
  have k6 : ((M.meet a b).2.M == b.M) = true := by simp [p7]
  have k7 : ((M.meet a b).2.R == b.R) = true := by simp [p8]
  clear p1 p2 p3 p4 p5 p6 p7 p8 p9 p10 p11 p12 hca hcb h1 h2 hm
  generalize hx : (M.meet a b).1 = x at *
  generalize hy : (M.meet a b).2 = y at *
  have HM := Lib.hid hmeet
  clear hmeet hx hy
  go_enter Try.func8, Try.ntmps8
  go_wp2_with (first | (go_at_call 24; refine (HM.out _).mono ?_; rintro e w1 ⟨rfl, hb1⟩; obtain ⟨hc1, hf1⟩ := bcell hb1; have hz1 := hb1.size; (try simp at hz1); have f1_0 : w.heap.size < w1.heap.size := (by omega); have g1_0 : w.heap.size < w.heap.size + 1 + 1 := (by omega); have f1_1 : w.heap.size + 1 < w1.heap.size := (by omega); have g1_1 : w.heap.size + 1 < w.heap.size + 1 + 1 := (by omega)) | (go_at_call 31; with_reducible refine (HA.out _).mono ?_; rintro e w2 ⟨rfl, hb2⟩; obtain ⟨hc2, hf2⟩ := bcell hb2; have hz2 := hb2.size; (try simp at hz2); have f2_0 : w.heap.size < w2.heap.size := (by omega); have g2_0 : w.heap.size < w1.heap.size + 1 + 1 := (by omega); have f2_1 : w.heap.size + 1 < w2.heap.size := (by omega); have g2_1 : w.heap.size + 1 < w1.heap.size + 1 + 1 := (by omega); have f2_2 : w1.heap.size < w2.heap.size := (by omega); have g2_2 : w1.heap.size < w1.heap.size + 1 + 1 := (by omega); have f2_3 : w1.heap.size + 1 < w2.heap.size := (by omega); have g2_3 : w1.heap.size + 1 < w1.heap.size + 1 + 1 := (by omega)) | (go_at_call 31; with_reducible refine (HB.out _).mono ?_; rintro e w3 ⟨rfl, hb3⟩; obtain ⟨hc3, hf3⟩ := bcell hb3; have hz3 := hb3.size; (try simp at hz3); have f3_0 : w.heap.size < w3.heap.size := (by omega); have f3_1 : w.heap.size + 1 < w3.heap.size := (by omega); have f3_2 : w1.heap.size < w3.heap.size := (by omega); have f3_3 : w1.heap.size + 1 < w3.heap.size := (by omega)) | (go_at_call 29; refine (HD.out _).mono ?_; rintro e w4 ⟨rfl, hb4⟩; obtain ⟨hc4, hf4⟩ := bcell hb4; have hz4 := hb4.size; (try simp at hz4); have f4_0 : w.heap.size < w4.heap.size := (by omega); have f4_1 : w.heap.size + 1 < w4.heap.size := (by omega); have f4_2 : w1.heap.size < w4.heap.size := (by omega); have f4_3 : w1.heap.size + 1 < w4.heap.size := (by omega)) | (go_at_call 26; with_reducible refine (GX.out _).mono ?_; rintro e w5 ⟨rfl, hb5⟩; obtain ⟨hc5, hf5⟩ := bcell hb5; have hz5 := hb5.size; (try simp at hz5); have f5_0 : w.heap.size < w5.heap.size := (by omega); have f5_1 : w.heap.size + 1 < w5.heap.size := (by omega); have f5_2 : w1.heap.size < w5.heap.size := (by omega); have f5_3 : w1.heap.size + 1 < w5.heap.size := (by omega)) | (go_at_call 26; with_reducible refine (GY.out _).mono ?_; rintro e w6 ⟨rfl, hb6⟩; obtain ⟨hc6, hf6⟩ := bcell hb6; have hz6 := hb6.size; (try simp at hz6); have f6_0 : w.heap.size < w6.heap.size := (by omega); have f6_1 : w.heap.size + 1 < w6.heap.size := (by omega); have f6_2 : w1.heap.size < w6.heap.size := (by omega); have f6_3 : w1.heap.size + 1 < w6.heap.size := (by omega)) | (go_at_call 32; with_reducible refine (keepSolves_calls _).mono ?_; rintro e w7 ⟨rfl, hb7⟩; obtain ⟨hc7, hf7⟩ := bcell hb7; have hz7 := hb7.size; (try simp at hz7); have f7_0 : w.heap.size < w7.heap.size := (by omega); have f7_1 : w.heap.size + 1 < w7.heap.size := (by omega); have f7_2 : w1.heap.size < w7.heap.size := (by omega); have f7_3 : w1.heap.size + 1 < w7.heap.size := (by omega)))
  go_ret
  exact ⟨rfl, (((((((((((Below.refl _ w).alloc (by first | exact Nat.le_refl _ | omega | (simp; done) | (simp; omega)) _).alloc (by first | exact Nat.le_refl _ | omega | (simp; done) | (simp; omega)) _).trans (hb1.mono (by first | omega | (simp; done) | (simp; omega)))).alloc (by first | exact Nat.le_refl _ | omega | (simp; done) | (simp; omega)) _).alloc (by first | exact Nat.le_refl _ | omega | (simp; done) | (simp; omega)) _).trans (hb2.mono (by first | omega | (simp; done) | (simp; omega)))).trans (hb3.mono (by first | omega | (simp; done) | (simp; omega)))).trans (hb4.mono (by first | omega | (simp; done) | (simp; omega)))).trans (hb5.mono (by first | omega | (simp; done) | (simp; omega)))).trans (hb6.mono (by first | omega | (simp; done) | (simp; omega)))).trans (hb7.mono (by first | omega | (simp; done) | (simp; omega)))⟩

set_option maxHeartbeats 4000000 in
set_option maxRecDepth 100000 in
theorem parts_c011 (a b : M.Row) (w : World) (ha : RowOk a) (hb : RowOk b) (hm : M.meets a b = true) (hca : M.calm a = true) (hcb : M.calm b = true) (h1 : a.M = 0) (h2 : b.M ≠ 0) (d1 : (M.depth (M.meet a b).1.W (M.meet a b).2.W (M.meet a b).1.X (M.meet a b).2.X == 0) = true) :
    Calls Try.prog 8 #[rowV a, rowV b] w fun e w' => e = .returned (.bool true) ∧ Below w.heap.size w w' := by
  have hmeet := fun W => meet_is a b W true ha hb hm
  have HA := Lib.hid (fun W => calm_is a W true hca)
  have HB := Lib.hid (fun W => calm_is b W true hcb)
  simp only [M.calm, decide_eq_true_eq] at hca hcb
  obtain ⟨_, ⟨p1, p2, p3, p4⟩, ⟨p5, p6, p7, p8⟩, p9, p10, p11, p12⟩ := M.meet_parts hm (by omega) hca.1 hca.2.1 hcb.1 hcb.2.1
  have e1 : (a.M == 0) = true := by simp [h1]
  have e2 : (b.M == 0) = false := by simp [h2]
  have n1 : (a.M != 0) = false := by simp [h1]
  have n2 : (b.M != 0) = true := by simp [h2]
  have HD := Lib.hid (fun W => depth_calls (M.meet a b).1 (M.meet a b).2 W (mid_of_body p11) (mid_of_body p12))
  have GX := Lib.hid (fun W => good_yes (M.meet a b).1 W (ok_of_body p11) p11)
  have GY := Lib.hid (fun W => good_yes (M.meet a b).2 W (ok_of_body p12) p12)
  have QA := fun W => row_eql_yes (M.meet a b).1 a W (p9 h1)
  have k0 : ((M.meet a b).1.W == a.W) = true := by simp [p1]
  have k1 : ((M.meet a b).1.H == a.H) = true := by simp [p2]
  have k2 : ((M.meet a b).1.M == a.M) = true := by simp [p3]
  have k3 : ((M.meet a b).1.R == a.R) = true := by simp [p4]
  have k4 : ((M.meet a b).2.W == b.W) = true := by simp [p5]
  have k5 : ((M.meet a b).2.H == b.H) = true := by simp [p6]
  have k6 : ((M.meet a b).2.M == b.M) = true := by simp [p7]
  have k7 : ((M.meet a b).2.R == b.R) = true := by simp [p8]
  clear p1 p2 p3 p4 p5 p6 p7 p8 p9 p10 p11 p12 hca hcb h1 h2 hm
  generalize hx : (M.meet a b).1 = x at *
  generalize hy : (M.meet a b).2 = y at *
  have HM := Lib.hid hmeet
  clear hmeet hx hy
  go_enter Try.func8, Try.ntmps8
  go_wp2_with (first | (go_at_call 24; refine (HM.out _).mono ?_; rintro e w1 ⟨rfl, hb1⟩; obtain ⟨hc1, hf1⟩ := bcell hb1; have hz1 := hb1.size; (try simp at hz1); have f1_0 : w.heap.size < w1.heap.size := (by omega); have g1_0 : w.heap.size < w.heap.size + 1 + 1 := (by omega); have f1_1 : w.heap.size + 1 < w1.heap.size := (by omega); have g1_1 : w.heap.size + 1 < w.heap.size + 1 + 1 := (by omega)) | (go_at_call 31; with_reducible refine (HA.out _).mono ?_; rintro e w2 ⟨rfl, hb2⟩; obtain ⟨hc2, hf2⟩ := bcell hb2; have hz2 := hb2.size; (try simp at hz2); have f2_0 : w.heap.size < w2.heap.size := (by omega); have g2_0 : w.heap.size < w1.heap.size + 1 + 1 := (by omega); have f2_1 : w.heap.size + 1 < w2.heap.size := (by omega); have g2_1 : w.heap.size + 1 < w1.heap.size + 1 + 1 := (by omega); have f2_2 : w1.heap.size < w2.heap.size := (by omega); have g2_2 : w1.heap.size < w1.heap.size + 1 + 1 := (by omega); have f2_3 : w1.heap.size + 1 < w2.heap.size := (by omega); have g2_3 : w1.heap.size + 1 < w1.heap.size + 1 + 1 := (by omega)) | (go_at_call 31; with_reducible refine (HB.out _).mono ?_; rintro e w3 ⟨rfl, hb3⟩; obtain ⟨hc3, hf3⟩ := bcell hb3; have hz3 := hb3.size; (try simp at hz3); have f3_0 : w.heap.size < w3.heap.size := (by omega); have f3_1 : w.heap.size + 1 < w3.heap.size := (by omega); have f3_2 : w1.heap.size < w3.heap.size := (by omega); have f3_3 : w1.heap.size + 1 < w3.heap.size := (by omega)) | (go_at_call 29; refine (HD.out _).mono ?_; rintro e w4 ⟨rfl, hb4⟩; obtain ⟨hc4, hf4⟩ := bcell hb4; have hz4 := hb4.size; (try simp at hz4); have f4_0 : w.heap.size < w4.heap.size := (by omega); have f4_1 : w.heap.size + 1 < w4.heap.size := (by omega); have f4_2 : w1.heap.size < w4.heap.size := (by omega); have f4_3 : w1.heap.size + 1 < w4.heap.size := (by omega)) | (go_at_call 26; with_reducible refine (GX.out _).mono ?_; rintro e w5 ⟨rfl, hb5⟩; obtain ⟨hc5, hf5⟩ := bcell hb5; have hz5 := hb5.size; (try simp at hz5); have f5_0 : w.heap.size < w5.heap.size := (by omega); have f5_1 : w.heap.size + 1 < w5.heap.size := (by omega); have f5_2 : w1.heap.size < w5.heap.size := (by omega); have f5_3 : w1.heap.size + 1 < w5.heap.size := (by omega)) | (go_at_call 26; with_reducible refine (GY.out _).mono ?_; rintro e w6 ⟨rfl, hb6⟩; obtain ⟨hc6, hf6⟩ := bcell hb6; have hz6 := hb6.size; (try simp at hz6); have f6_0 : w.heap.size < w6.heap.size := (by omega); have f6_1 : w.heap.size + 1 < w6.heap.size := (by omega); have f6_2 : w1.heap.size < w6.heap.size := (by omega); have f6_3 : w1.heap.size + 1 < w6.heap.size := (by omega)) | (go_at_call 32; with_reducible refine (keepSolves_calls _).mono ?_; rintro e w7 ⟨rfl, hb7⟩; obtain ⟨hc7, hf7⟩ := bcell hb7; have hz7 := hb7.size; (try simp at hz7); have f7_0 : w.heap.size < w7.heap.size := (by omega); have f7_1 : w.heap.size + 1 < w7.heap.size := (by omega); have f7_2 : w1.heap.size < w7.heap.size := (by omega); have f7_3 : w1.heap.size + 1 < w7.heap.size := (by omega)))
  go_ret
  exact ⟨rfl, (((((((((((Below.refl _ w).alloc (by first | exact Nat.le_refl _ | omega | (simp; done) | (simp; omega)) _).alloc (by first | exact Nat.le_refl _ | omega | (simp; done) | (simp; omega)) _).trans (hb1.mono (by first | omega | (simp; done) | (simp; omega)))).alloc (by first | exact Nat.le_refl _ | omega | (simp; done) | (simp; omega)) _).alloc (by first | exact Nat.le_refl _ | omega | (simp; done) | (simp; omega)) _).trans (hb2.mono (by first | omega | (simp; done) | (simp; omega)))).trans (hb3.mono (by first | omega | (simp; done) | (simp; omega)))).trans (hb4.mono (by first | omega | (simp; done) | (simp; omega)))).trans (hb5.mono (by first | omega | (simp; done) | (simp; omega)))).trans (hb6.mono (by first | omega | (simp; done) | (simp; omega)))).trans (hb7.mono (by first | omega | (simp; done) | (simp; omega)))⟩

set_option maxHeartbeats 4000000 in
set_option maxRecDepth 100000 in
theorem parts_c010 (a b : M.Row) (w : World) (ha : RowOk a) (hb : RowOk b) (hm : M.meets a b = true) (hca : M.calm a = true) (hcb : M.calm b = true) (h1 : a.M = 0) (h2 : b.M ≠ 0) (d1 : (M.depth (M.meet a b).1.W (M.meet a b).2.W (M.meet a b).1.X (M.meet a b).2.X == 0) = false) (d2 : (M.depth (M.meet a b).1.H (M.meet a b).2.H (M.meet a b).1.Y (M.meet a b).2.Y == 0) = true) :
    Calls Try.prog 8 #[rowV a, rowV b] w fun e w' => e = .returned (.bool true) ∧ Below w.heap.size w w' := by
  have hmeet := fun W => meet_is a b W true ha hb hm
  have HA := Lib.hid (fun W => calm_is a W true hca)
  have HB := Lib.hid (fun W => calm_is b W true hcb)
  simp only [M.calm, decide_eq_true_eq] at hca hcb
  obtain ⟨_, ⟨p1, p2, p3, p4⟩, ⟨p5, p6, p7, p8⟩, p9, p10, p11, p12⟩ := M.meet_parts hm (by omega) hca.1 hca.2.1 hcb.1 hcb.2.1
  have e1 : (a.M == 0) = true := by simp [h1]
  have e2 : (b.M == 0) = false := by simp [h2]
  have n1 : (a.M != 0) = false := by simp [h1]
  have n2 : (b.M != 0) = true := by simp [h2]
  have HD := Lib.hid (fun W => depth_calls (M.meet a b).1 (M.meet a b).2 W (mid_of_body p11) (mid_of_body p12))
  have GX := Lib.hid (fun W => good_yes (M.meet a b).1 W (ok_of_body p11) p11)
  have GY := Lib.hid (fun W => good_yes (M.meet a b).2 W (ok_of_body p12) p12)
  have QA := fun W => row_eql_yes (M.meet a b).1 a W (p9 h1)
  have k0 : ((M.meet a b).1.W == a.W) = true := by simp [p1]
  have k1 : ((M.meet a b).1.H == a.H) = true := by simp [p2]
  have k2 : ((M.meet a b).1.M == a.M) = true := by simp [p3]
  have k3 : ((M.meet a b).1.R == a.R) = true := by simp [p4]
  have k4 : ((M.meet a b).2.W == b.W) = true := by simp [p5]
  have k5 : ((M.meet a b).2.H == b.H) = true := by simp [p6]
  have k6 : ((M.meet a b).2.M == b.M) = true := by simp [p7]
  have k7 : ((M.meet a b).2.R == b.R) = true := by simp [p8]
  clear p1 p2 p3 p4 p5 p6 p7 p8 p9 p10 p11 p12 hca hcb h1 h2 hm
  generalize hx : (M.meet a b).1 = x at *
  generalize hy : (M.meet a b).2 = y at *
  have HM := Lib.hid hmeet
  clear hmeet hx hy
  go_enter Try.func8, Try.ntmps8
  go_wp2_with (first | (go_at_call 24; refine (HM.out _).mono ?_; rintro e w1 ⟨rfl, hb1⟩; obtain ⟨hc1, hf1⟩ := bcell hb1; have hz1 := hb1.size; (try simp at hz1); have f1_0 : w.heap.size < w1.heap.size := (by omega); have g1_0 : w.heap.size < w.heap.size + 1 + 1 := (by omega); have f1_1 : w.heap.size + 1 < w1.heap.size := (by omega); have g1_1 : w.heap.size + 1 < w.heap.size + 1 + 1 := (by omega)) | (go_at_call 31; with_reducible refine (HA.out _).mono ?_; rintro e w2 ⟨rfl, hb2⟩; obtain ⟨hc2, hf2⟩ := bcell hb2; have hz2 := hb2.size; (try simp at hz2); have f2_0 : w.heap.size < w2.heap.size := (by omega); have g2_0 : w.heap.size < w1.heap.size + 1 + 1 := (by omega); have f2_1 : w.heap.size + 1 < w2.heap.size := (by omega); have g2_1 : w.heap.size + 1 < w1.heap.size + 1 + 1 := (by omega); have f2_2 : w1.heap.size < w2.heap.size := (by omega); have g2_2 : w1.heap.size < w1.heap.size + 1 + 1 := (by omega); have f2_3 : w1.heap.size + 1 < w2.heap.size := (by omega); have g2_3 : w1.heap.size + 1 < w1.heap.size + 1 + 1 := (by omega)) | (go_at_call 31; with_reducible refine (HB.out _).mono ?_; rintro e w3 ⟨rfl, hb3⟩; obtain ⟨hc3, hf3⟩ := bcell hb3; have hz3 := hb3.size; (try simp at hz3); have f3_0 : w.heap.size < w3.heap.size := (by omega); have f3_1 : w.heap.size + 1 < w3.heap.size := (by omega); have f3_2 : w1.heap.size < w3.heap.size := (by omega); have f3_3 : w1.heap.size + 1 < w3.heap.size := (by omega)) | (go_at_call 29; refine (HD.out _).mono ?_; rintro e w4 ⟨rfl, hb4⟩; obtain ⟨hc4, hf4⟩ := bcell hb4; have hz4 := hb4.size; (try simp at hz4); have f4_0 : w.heap.size < w4.heap.size := (by omega); have f4_1 : w.heap.size + 1 < w4.heap.size := (by omega); have f4_2 : w1.heap.size < w4.heap.size := (by omega); have f4_3 : w1.heap.size + 1 < w4.heap.size := (by omega)) | (go_at_call 26; with_reducible refine (GX.out _).mono ?_; rintro e w5 ⟨rfl, hb5⟩; obtain ⟨hc5, hf5⟩ := bcell hb5; have hz5 := hb5.size; (try simp at hz5); have f5_0 : w.heap.size < w5.heap.size := (by omega); have f5_1 : w.heap.size + 1 < w5.heap.size := (by omega); have f5_2 : w1.heap.size < w5.heap.size := (by omega); have f5_3 : w1.heap.size + 1 < w5.heap.size := (by omega)) | (go_at_call 26; with_reducible refine (GY.out _).mono ?_; rintro e w6 ⟨rfl, hb6⟩; obtain ⟨hc6, hf6⟩ := bcell hb6; have hz6 := hb6.size; (try simp at hz6); have f6_0 : w.heap.size < w6.heap.size := (by omega); have f6_1 : w.heap.size + 1 < w6.heap.size := (by omega); have f6_2 : w1.heap.size < w6.heap.size := (by omega); have f6_3 : w1.heap.size + 1 < w6.heap.size := (by omega)) | (go_at_call 32; with_reducible refine (keepSolves_calls _).mono ?_; rintro e w7 ⟨rfl, hb7⟩; obtain ⟨hc7, hf7⟩ := bcell hb7; have hz7 := hb7.size; (try simp at hz7); have f7_0 : w.heap.size < w7.heap.size := (by omega); have f7_1 : w.heap.size + 1 < w7.heap.size := (by omega); have f7_2 : w1.heap.size < w7.heap.size := (by omega); have f7_3 : w1.heap.size + 1 < w7.heap.size := (by omega)))
  go_ret
  exact ⟨rfl, (((((((((((Below.refl _ w).alloc (by first | exact Nat.le_refl _ | omega | (simp; done) | (simp; omega)) _).alloc (by first | exact Nat.le_refl _ | omega | (simp; done) | (simp; omega)) _).trans (hb1.mono (by first | omega | (simp; done) | (simp; omega)))).alloc (by first | exact Nat.le_refl _ | omega | (simp; done) | (simp; omega)) _).alloc (by first | exact Nat.le_refl _ | omega | (simp; done) | (simp; omega)) _).trans (hb2.mono (by first | omega | (simp; done) | (simp; omega)))).trans (hb3.mono (by first | omega | (simp; done) | (simp; omega)))).trans (hb4.mono (by first | omega | (simp; done) | (simp; omega)))).trans (hb5.mono (by first | omega | (simp; done) | (simp; omega)))).trans (hb6.mono (by first | omega | (simp; done) | (simp; omega)))).trans (hb7.mono (by first | omega | (simp; done) | (simp; omega)))⟩

theorem solveParts_walk (a b : M.Row) (w : World) (ha : RowOk a) (hb : RowOk b) :
    Calls Try.prog 8 #[rowV a, rowV b] w fun e w' => e = .returned (.bool true) ∧ Below w.heap.size w w' := by
  cases hm : M.meets a b with
  | false => exact parts_no a b w ha hb hm
  | true =>
    cases hca : M.calm a with
    | false => exact parts_b1 a b w ha hb hm hca
    | true =>
      cases hcb : M.calm b with
      | false => exact parts_b2 a b w ha hb hm hca hcb
      | true =>
        have hca' := hca
        have hcb' := hcb
        simp only [M.calm, decide_eq_true_eq] at hca' hcb'
        cases hd : (M.depth (M.meet a b).1.W (M.meet a b).2.W (M.meet a b).1.X (M.meet a b).2.X == 0) with
        | true =>
          by_cases h1 : a.M = 0
          · by_cases h2 : b.M = 0
            · exact parts_b3 a b w ha hb hm hca hcb (by simp [h1]) (by simp [h2])
            · exact parts_c011 a b w ha hb hm hca hcb h1 h2 hd
          · by_cases h2 : b.M = 0
            · exact parts_c101 a b w ha hb hm hca hcb h1 h2 hd
            · exact parts_c111 a b w ha hb hm hca hcb h1 h2 hd
        | false =>
          by_cases h0 : a.M = 0 ∧ b.M = 0
          · exact parts_b3 a b w ha hb hm hca hcb (by simp [h0.1]) (by simp [h0.2])
          · obtain ⟨q, _⟩ := M.meet_parts hm (by omega) hca'.1 hca'.2.1 hcb'.1 hcb'.2.1
            have hd2 : (M.depth (M.meet a b).1.H (M.meet a b).2.H (M.meet a b).1.Y (M.meet a b).2.Y == 0) = true := by
              rcases q with q | q
              · rw [q] at hd; simp at hd
              · simp [q]
            by_cases h1 : a.M = 0
            · exact parts_c010 a b w ha hb hm hca hcb h1 (by omega) hd hd2
            · by_cases h2 : b.M = 0
              · exact parts_c100 a b w ha hb hm hca hcb h1 h2 hd hd2
              · exact parts_c110 a b w ha hb hm hca hcb h1 h2 hd hd2
end Go.Proofs.Ytkpecagkpjabdaa
