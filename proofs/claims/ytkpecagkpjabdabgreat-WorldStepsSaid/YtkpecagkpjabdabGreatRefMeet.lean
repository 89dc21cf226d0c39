/- The contract of the document's MeetRows where nothing moves. Condition: numbers of 64 bits. -/
import Derived.Test.YtkpecagkpjabdabGreatBagM2
import Derived.Test.YtkpecagkpjabdabGreatMeetMove
namespace Go.Proofs.YtkpecagkpjabdabGreat
open Go.RowKit
set_option linter.unusedVariables false
set_option linter.unusedSimpArgs false
set_option maxRecDepth 100000
theorem isBody_yes (r : M.Row) (w : World) (hb : M.body r = true) : Calls Tryz.prog 105 #[rowV r] w fun e w' => e = .returned (.bool true) ∧ Below w.heap.size w w' := by
  rw [← hb]; exact isBody_calls r w
theorem isBody_no (r : M.Row) (w : World) (hb : M.body r = false) : Calls Tryz.prog 105 #[rowV r] w fun e w' => e = .returned (.bool false) ∧ Below w.heap.size w w' := by
  rw [← hb]; exact isBody_calls r w

set_option maxHeartbeats 4000000 in
set_option maxRecDepth 100000 in
theorem rmeet_bad1 (a b : M.Row) (w : World) (h1 : M.body a = false) :
    Calls Tryz.prog 66 #[rowV a, rowV b] w fun e w' => e = .returned (.tuple #[rowV a, rowV b, .bool false]) ∧ Below w.heap.size w w' := by
  have HA := Lib.hid (fun W => isBody_no a W h1)
  clear h1
  go_enter Tryz.func66, Tryz.ntmps66
  go_wp2_with (first | (go_at_call 105; with_reducible refine (HA.out _).mono ?_; rintro e w1 ⟨rfl, hb1⟩; obtain ⟨hc1, hf1⟩ := bcell hb1; have hz1 := hb1.size; (try simp at hz1); have f1_0 : w.heap.size < w1.heap.size := (by omega); have g1_0 : w.heap.size < w.heap.size + 1 + 1 + 1 + 1 := (by omega); have f1_1 : w.heap.size + 1 < w1.heap.size := (by omega); have g1_1 : w.heap.size + 1 < w.heap.size + 1 + 1 + 1 + 1 := (by omega); have f1_2 : w.heap.size + 1 + 1 < w1.heap.size := (by omega); have g1_2 : w.heap.size + 1 + 1 < w.heap.size + 1 + 1 + 1 + 1 := (by omega); have f1_3 : w.heap.size + 1 + 1 + 1 < w1.heap.size := (by omega); have g1_3 : w.heap.size + 1 + 1 + 1 < w.heap.size + 1 + 1 + 1 + 1 := (by omega)))
  go_region
  go_wp2
  refine bodyPost_ret (v := .tuple #[rowV a, rowV b, .bool false]) ?_ rfl ⟨rfl, ?_⟩
  · simp only [results, Tryz.results66]
    go_simp
  · have k := (((((Below.refl _ w).alloc (by first | exact Nat.le_refl _ | omega | (simp; done) | (simp; omega)) _).alloc (by first | exact Nat.le_refl _ | omega | (simp; done) | (simp; omega)) _).alloc (by first | exact Nat.le_refl _ | omega | (simp; done) | (simp; omega)) _).alloc (by first | exact Nat.le_refl _ | omega | (simp; done) | (simp; omega)) _).trans (hb1.mono sid9)
    refine Below.drew ?_
    repeat first | with_reducible exact k | with_reducible apply Below.setCell (hp := sid9)

set_option maxHeartbeats 4000000 in
set_option maxRecDepth 100000 in
theorem rmeet_bad2 (a b : M.Row) (w : World) (h1 : M.body a = true) (h2 : M.body b = false) :
    Calls Tryz.prog 66 #[rowV a, rowV b] w fun e w' => e = .returned (.tuple #[rowV a, rowV b, .bool false]) ∧ Below w.heap.size w w' := by
  have HA := Lib.hid (fun W => isBody_yes a W h1)
  have HB := Lib.hid (fun W => isBody_no b W h2)
  clear h1 h2
  go_enter Tryz.func66, Tryz.ntmps66
  go_wp2_with (first | (go_at_call 105; with_reducible refine (HA.out _).mono ?_; rintro e w1 ⟨rfl, hb1⟩; obtain ⟨hc1, hf1⟩ := bcell hb1; have hz1 := hb1.size; (try simp at hz1); have f1_0 : w.heap.size < w1.heap.size := (by omega); have g1_0 : w.heap.size < w.heap.size + 1 + 1 + 1 + 1 := (by omega); have f1_1 : w.heap.size + 1 < w1.heap.size := (by omega); have g1_1 : w.heap.size + 1 < w.heap.size + 1 + 1 + 1 + 1 := (by omega); have f1_2 : w.heap.size + 1 + 1 < w1.heap.size := (by omega); have g1_2 : w.heap.size + 1 + 1 < w.heap.size + 1 + 1 + 1 + 1 := (by omega); have f1_3 : w.heap.size + 1 + 1 + 1 < w1.heap.size := (by omega); have g1_3 : w.heap.size + 1 + 1 + 1 < w.heap.size + 1 + 1 + 1 + 1 := (by omega)) | (go_at_call 105; with_reducible refine (HB.out _).mono ?_; rintro e w2 ⟨rfl, hb2⟩; obtain ⟨hc2, hf2⟩ := bcell hb2; have hz2 := hb2.size; (try simp at hz2); have f2_0 : w.heap.size < w2.heap.size := (by omega); have f2_1 : w.heap.size + 1 < w2.heap.size := (by omega); have f2_2 : w.heap.size + 1 + 1 < w2.heap.size := (by omega); have f2_3 : w.heap.size + 1 + 1 + 1 < w2.heap.size := (by omega)))
  go_region
  go_wp2
  refine bodyPost_ret (v := .tuple #[rowV a, rowV b, .bool false]) ?_ rfl ⟨rfl, ?_⟩
  · simp only [results, Tryz.results66]
    go_simp
  · have k := ((((((Below.refl _ w).alloc (by first | exact Nat.le_refl _ | omega | (simp; done) | (simp; omega)) _).alloc (by first | exact Nat.le_refl _ | omega | (simp; done) | (simp; omega)) _).alloc (by first | exact Nat.le_refl _ | omega | (simp; done) | (simp; omega)) _).alloc (by first | exact Nat.le_refl _ | omega | (simp; done) | (simp; omega)) _).trans (hb1.mono sid9)).trans (hb2.mono sid9)
    refine Below.drew ?_
    repeat first | with_reducible exact k | with_reducible apply Below.setCell (hp := sid9)

set_option maxHeartbeats 4000000 in
set_option maxRecDepth 100000 in
theorem rmeet_bad3 (a b : M.Row) (w : World) (h1 : M.body a = true) (h2 : M.body b = true) (h3 : M.depth a.W b.W a.X b.X < 1) :
    Calls Tryz.prog 66 #[rowV a, rowV b] w fun e w' => e = .returned (.tuple #[rowV a, rowV b, .bool false]) ∧ Below w.heap.size w w' := by
  have HA := Lib.hid (fun W => isBody_yes a W h1)
  have HB := Lib.hid (fun W => isBody_yes b W h2)
  have HD := Lib.hid (fun W => depthOf_calls a b W (mid_of_body h1) (mid_of_body h2))
  clear h1 h2
  go_enter Tryz.func66, Tryz.ntmps66
  go_wp2_with (first | (go_at_call 105; with_reducible refine (HA.out _).mono ?_; rintro e w1 ⟨rfl, hb1⟩; obtain ⟨hc1, hf1⟩ := bcell hb1; have hz1 := hb1.size; (try simp at hz1); have f1_0 : w.heap.size < w1.heap.size := (by omega); have g1_0 : w.heap.size < w.heap.size + 1 + 1 + 1 + 1 := (by omega); have f1_1 : w.heap.size + 1 < w1.heap.size := (by omega); have g1_1 : w.heap.size + 1 < w.heap.size + 1 + 1 + 1 + 1 := (by omega); have f1_2 : w.heap.size + 1 + 1 < w1.heap.size := (by omega); have g1_2 : w.heap.size + 1 + 1 < w.heap.size + 1 + 1 + 1 + 1 := (by omega); have f1_3 : w.heap.size + 1 + 1 + 1 < w1.heap.size := (by omega); have g1_3 : w.heap.size + 1 + 1 + 1 < w.heap.size + 1 + 1 + 1 + 1 := (by omega)) | (go_at_call 105; with_reducible refine (HB.out _).mono ?_; rintro e w2 ⟨rfl, hb2⟩; obtain ⟨hc2, hf2⟩ := bcell hb2; have hz2 := hb2.size; (try simp at hz2); have f2_0 : w.heap.size < w2.heap.size := (by omega); have f2_1 : w.heap.size + 1 < w2.heap.size := (by omega); have f2_2 : w.heap.size + 1 + 1 < w2.heap.size := (by omega); have f2_3 : w.heap.size + 1 + 1 + 1 < w2.heap.size := (by omega)) | (go_at_call 106; refine (HD.out _).mono ?_; rintro e w3 ⟨rfl, hb3⟩; obtain ⟨hc3, hf3⟩ := bcell hb3; have hz3 := hb3.size; (try simp at hz3); have f3_0 : w.heap.size < w3.heap.size := (by omega); have f3_1 : w.heap.size + 1 < w3.heap.size := (by omega); have f3_2 : w.heap.size + 1 + 1 < w3.heap.size := (by omega); have f3_3 : w.heap.size + 1 + 1 + 1 < w3.heap.size := (by omega)))
  go_region
  go_wp2
  refine bodyPost_ret (v := .tuple #[rowV a, rowV b, .bool false]) ?_ rfl ⟨rfl, ?_⟩
  · simp only [results, Tryz.results66]
    go_simp
  · have k := (((((((Below.refl _ w).alloc (by first | exact Nat.le_refl _ | omega | (simp; done) | (simp; omega)) _).alloc (by first | exact Nat.le_refl _ | omega | (simp; done) | (simp; omega)) _).alloc (by first | exact Nat.le_refl _ | omega | (simp; done) | (simp; omega)) _).alloc (by first | exact Nat.le_refl _ | omega | (simp; done) | (simp; omega)) _).trans (hb1.mono sid9)).trans (hb2.mono sid9)).trans (hb3.mono sid9)
    refine Below.drew ?_
    repeat first | with_reducible exact k | with_reducible apply Below.setCell (hp := sid9)

set_option maxHeartbeats 4000000 in
set_option maxRecDepth 100000 in
theorem rmeet_bad4 (a b : M.Row) (w : World) (h1 : M.body a = true) (h2 : M.body b = true) (h3 : 1 ≤ M.depth a.W b.W a.X b.X) (h4 : M.depth a.H b.H a.Y b.Y < 1) :
    Calls Tryz.prog 66 #[rowV a, rowV b] w fun e w' => e = .returned (.tuple #[rowV a, rowV b, .bool false]) ∧ Below w.heap.size w w' := by
  have HA := Lib.hid (fun W => isBody_yes a W h1)
  have HB := Lib.hid (fun W => isBody_yes b W h2)
  have HD := Lib.hid (fun W => depthOf_calls a b W (mid_of_body h1) (mid_of_body h2))
  clear h1 h2
  go_enter Tryz.func66, Tryz.ntmps66
  go_wp2_with (first | (go_at_call 105; with_reducible refine (HA.out _).mono ?_; rintro e w1 ⟨rfl, hb1⟩; obtain ⟨hc1, hf1⟩ := bcell hb1; have hz1 := hb1.size; (try simp at hz1); have f1_0 : w.heap.size < w1.heap.size := (by omega); have g1_0 : w.heap.size < w.heap.size + 1 + 1 + 1 + 1 := (by omega); have f1_1 : w.heap.size + 1 < w1.heap.size := (by omega); have g1_1 : w.heap.size + 1 < w.heap.size + 1 + 1 + 1 + 1 := (by omega); have f1_2 : w.heap.size + 1 + 1 < w1.heap.size := (by omega); have g1_2 : w.heap.size + 1 + 1 < w.heap.size + 1 + 1 + 1 + 1 := (by omega); have f1_3 : w.heap.size + 1 + 1 + 1 < w1.heap.size := (by omega); have g1_3 : w.heap.size + 1 + 1 + 1 < w.heap.size + 1 + 1 + 1 + 1 := (by omega)) | (go_at_call 105; with_reducible refine (HB.out _).mono ?_; rintro e w2 ⟨rfl, hb2⟩; obtain ⟨hc2, hf2⟩ := bcell hb2; have hz2 := hb2.size; (try simp at hz2); have f2_0 : w.heap.size < w2.heap.size := (by omega); have f2_1 : w.heap.size + 1 < w2.heap.size := (by omega); have f2_2 : w.heap.size + 1 + 1 < w2.heap.size := (by omega); have f2_3 : w.heap.size + 1 + 1 + 1 < w2.heap.size := (by omega)) | (go_at_call 106; refine (HD.out _).mono ?_; rintro e w3 ⟨rfl, hb3⟩; obtain ⟨hc3, hf3⟩ := bcell hb3; have hz3 := hb3.size; (try simp at hz3); have f3_0 : w.heap.size < w3.heap.size := (by omega); have f3_1 : w.heap.size + 1 < w3.heap.size := (by omega); have f3_2 : w.heap.size + 1 + 1 < w3.heap.size := (by omega); have f3_3 : w.heap.size + 1 + 1 + 1 < w3.heap.size := (by omega)))
  go_region
  go_wp2
  refine bodyPost_ret (v := .tuple #[rowV a, rowV b, .bool false]) ?_ rfl ⟨rfl, ?_⟩
  · simp only [results, Tryz.results66]
    go_simp
  · have k := (((((((Below.refl _ w).alloc (by first | exact Nat.le_refl _ | omega | (simp; done) | (simp; omega)) _).alloc (by first | exact Nat.le_refl _ | omega | (simp; done) | (simp; omega)) _).alloc (by first | exact Nat.le_refl _ | omega | (simp; done) | (simp; omega)) _).alloc (by first | exact Nat.le_refl _ | omega | (simp; done) | (simp; omega)) _).trans (hb1.mono sid9)).trans (hb2.mono sid9)).trans (hb3.mono sid9)
    refine Below.drew ?_
    repeat first | with_reducible exact k | with_reducible apply Below.setCell (hp := sid9)

set_option maxHeartbeats 4000000 in
set_option maxRecDepth 100000 in
theorem rmeet_fixed (a b : M.Row) (w : World) (h1 : M.body a = true) (h2 : M.body b = true) (h3 : 1 ≤ M.depth a.W b.W a.X b.X) (h4 : 1 ≤ M.depth a.H b.H a.Y b.Y) (h5 : a.M = 0) (h6 : b.M = 0) :
    Calls Tryz.prog 66 #[rowV a, rowV b] w fun e w' => e = .returned (.tuple #[rowV a, rowV b, .bool true]) ∧ Below w.heap.size w w' := by
  have g5 : 0 ≤ a.M ∧ a.M ≤ 0 := by omega
  have g6 : 0 ≤ b.M ∧ b.M ≤ 0 := by omega
  clear h5 h6
  have HA := Lib.hid (fun W => isBody_yes a W h1)
  have HB := Lib.hid (fun W => isBody_yes b W h2)
  have HD := Lib.hid (fun W => depthOf_calls a b W (mid_of_body h1) (mid_of_body h2))
  clear h1 h2
  go_enter Tryz.func66, Tryz.ntmps66
  go_wp2_with (first | (go_at_call 105; with_reducible refine (HA.out _).mono ?_; rintro e w1 ⟨rfl, hb1⟩; obtain ⟨hc1, hf1⟩ := bcell hb1; have hz1 := hb1.size; (try simp at hz1); have f1_0 : w.heap.size < w1.heap.size := (by omega); have g1_0 : w.heap.size < w.heap.size + 1 + 1 + 1 + 1 := (by omega); have f1_1 : w.heap.size + 1 < w1.heap.size := (by omega); have g1_1 : w.heap.size + 1 < w.heap.size + 1 + 1 + 1 + 1 := (by omega); have f1_2 : w.heap.size + 1 + 1 < w1.heap.size := (by omega); have g1_2 : w.heap.size + 1 + 1 < w.heap.size + 1 + 1 + 1 + 1 := (by omega); have f1_3 : w.heap.size + 1 + 1 + 1 < w1.heap.size := (by omega); have g1_3 : w.heap.size + 1 + 1 + 1 < w.heap.size + 1 + 1 + 1 + 1 := (by omega)) | (go_at_call 105; with_reducible refine (HB.out _).mono ?_; rintro e w2 ⟨rfl, hb2⟩; obtain ⟨hc2, hf2⟩ := bcell hb2; have hz2 := hb2.size; (try simp at hz2); have f2_0 : w.heap.size < w2.heap.size := (by omega); have f2_1 : w.heap.size + 1 < w2.heap.size := (by omega); have f2_2 : w.heap.size + 1 + 1 < w2.heap.size := (by omega); have f2_3 : w.heap.size + 1 + 1 + 1 < w2.heap.size := (by omega)) | (go_at_call 106; refine (HD.out _).mono ?_; rintro e w3 ⟨rfl, hb3⟩; obtain ⟨hc3, hf3⟩ := bcell hb3; have hz3 := hb3.size; (try simp at hz3); have f3_0 : w.heap.size < w3.heap.size := (by omega); have f3_1 : w.heap.size + 1 < w3.heap.size := (by omega); have f3_2 : w.heap.size + 1 + 1 < w3.heap.size := (by omega); have f3_3 : w.heap.size + 1 + 1 + 1 < w3.heap.size := (by omega)))
  go_region
  go_wp2
  refine bodyPost_ret (v := .tuple #[rowV a, rowV b, .bool true]) ?_ rfl ⟨rfl, ?_⟩
  · simp only [results, Tryz.results66]
    go_simp
  · have k := (((((((Below.refl _ w).alloc (by first | exact Nat.le_refl _ | omega | (simp; done) | (simp; omega)) _).alloc (by first | exact Nat.le_refl _ | omega | (simp; done) | (simp; omega)) _).alloc (by first | exact Nat.le_refl _ | omega | (simp; done) | (simp; omega)) _).alloc (by first | exact Nat.le_refl _ | omega | (simp; done) | (simp; omega)) _).trans (hb1.mono sid9)).trans (hb2.mono sid9)).trans (hb3.mono sid9)
    refine Below.drew ?_
    repeat first | with_reducible exact k | with_reducible apply Below.setCell (hp := sid9)

end Go.Proofs.YtkpecagkpjabdabGreat
