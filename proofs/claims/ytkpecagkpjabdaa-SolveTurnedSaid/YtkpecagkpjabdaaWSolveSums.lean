/- The walk of the law SolveSums: it returns true, for all rows of numbers of 64 bits. -/
import Derived.Test.YtkpecagkpjabdaaSolveKeep
import Derived.Test.YtkpecagkpjabdaaLawSums
namespace Go.Proofs.Ytkpecagkpjabdaa
open Go.RowKit
set_option linter.unusedVariables false

theorem calm_is (r : M.Row) (w : World) (b : Bool) (h : M.calm r = b) : Calls Try.prog 31 #[rowV r] w fun e w' => e = .returned (.bool b) ∧ Below w.heap.size w w' := by
  rw [← h]; exact calm_calls r w
theorem meet_is (a b : M.Row) (w : World) (c : Bool) (ha : RowOk a) (hb : RowOk b) (h : M.meets a b = c) :
    Calls Try.prog 24 #[rowV a, rowV b] w fun e w' => e = .returned (.tuple #[rowV (M.meet a b).1, rowV (M.meet a b).2, .bool c]) ∧ Below w.heap.size w w' := by
  rw [← h]; exact meet_calls a b w ha hb

set_option maxHeartbeats 4000000 in
theorem solveSums_walk (a b : M.Row) (w : World) (ha : RowOk a) (hb : RowOk b) :
    Calls Try.prog 7 #[rowV a, rowV b] w fun e w' => e = .returned (.bool true) ∧ Below w.heap.size w w' := by
  have k2 := fun (o1 o2 : Obj) => ((Below.refl _ w).alloc (Nat.le_refl _) o1).alloc (by simp) o2
  have K2 := Lib.hid k2
  clear k2
  cases hm : M.meets a b with
  | false =>
    have Hm := Lib.hid hm
    clear hm
    generalize hx : (M.meet a b).1 = x at *
    generalize hy : (M.meet a b).2 = y at *
    have hmeet := fun W => meet_is a b W false ha hb Hm.out
    rw [hx, hy] at hmeet
    have HM := Lib.hid hmeet
    clear hmeet hx hy
    go_enter Try.func7, Try.ntmps7
    go_wp2_with (first | (go_at_call 24; refine (HM.out _).mono ?_; rintro e w1 ⟨rfl, hb1⟩; obtain ⟨hc1, hf1⟩ := bcell hb1; have hz1 := hb1.size; simp at hz1; have p1 : w.heap.size < w1.heap.size := (by omega); have p2 : w.heap.size + 1 < w1.heap.size := (by omega); have p3 : w.heap.size < w1.heap.size + 1 + 1 := (by omega); have p4 : w.heap.size + 1 < w1.heap.size + 1 + 1 := (by omega)) | (go_at_call 32; refine (keepSolves_calls _).mono ?_; rintro e w9 ⟨rfl, hb9⟩))
    go_ret
    exact ⟨rfl, (((K2.out _ _).trans (hb1.mono (by simp; omega))).alloc (by omega) _ |>.alloc (by simp; omega) _).trans (hb9.mono (by simp; omega))⟩
  | true =>
    have Hm := Lib.hid hm
    have Hm2 := M.meet_push_bd (M.meets_bodies hm).1 (M.meets_bodies hm).2.1
    obtain ⟨⟨⟨a1, a2⟩, ⟨a3, a4⟩⟩, ⟨⟨b1, b2⟩, ⟨b3, b4⟩⟩⟩ := Hm2
    obtain ⟨⟨_, _, fa1, fa2⟩, _⟩ := M.body_bd (M.meets_bodies hm).1
    obtain ⟨⟨_, _, fb1, fb2⟩, _⟩ := M.body_bd (M.meets_bodies hm).2.1
    have hs := M.meet_sums hm
    have HS := Lib.hid hs
    clear hm hs
    cases hca : M.calm a with
    | false =>
      have HA := Lib.hid (fun W => calm_is a W false hca)
      clear hca HS
      generalize hx : (M.meet a b).1 = x at *
      generalize hy : (M.meet a b).2 = y at *
      have hmeet := fun W => meet_is a b W true ha hb Hm.out
      rw [hx, hy] at hmeet
      have HM := Lib.hid hmeet
      clear hmeet hx hy
      go_enter Try.func7, Try.ntmps7
      go_wp2_with (first | (go_at_call 24; refine (HM.out _).mono ?_; rintro e w1 ⟨rfl, hb1⟩; obtain ⟨hc1, hf1⟩ := bcell hb1; have hz1 := hb1.size; simp at hz1; have p1 : w.heap.size < w1.heap.size := (by omega); have p2 : w.heap.size + 1 < w1.heap.size := (by omega); have p3 : w.heap.size < w1.heap.size + 1 + 1 := (by omega); have p4 : w.heap.size + 1 < w1.heap.size + 1 + 1 := (by omega)) | (go_at_call 31; with_reducible refine (HA.out _).mono ?_; rintro e w2 ⟨rfl, hb2⟩; obtain ⟨hc2, hf2⟩ := bcell hb2; have hz2 := hb2.size; (try simp at hz2); have q21 : w.heap.size < w2.heap.size := (by omega); have q22 : w.heap.size + 1 < w2.heap.size := (by omega); have q23 : w1.heap.size < w2.heap.size := (by omega); have q24 : w1.heap.size + 1 < w2.heap.size := (by omega)) | (go_at_call 32; refine (keepSolves_calls _).mono ?_; rintro e w9 ⟨rfl, hb9⟩))
      go_ret
      exact ⟨rfl, (((((K2.out _ _).trans (hb1.mono (by simp; omega))).alloc (by omega) _ |>.alloc (by simp; omega) _).trans (hb2.mono (by simp; omega)))).trans (hb9.mono (by omega))⟩
    | true =>
      have HA := Lib.hid (fun W => calm_is a W true hca)
      cases hcb : M.calm b with
      | false =>
        have HB := Lib.hid (fun W => calm_is b W false hcb)
        clear hca hcb HS
        generalize hx : (M.meet a b).1 = x at *
        generalize hy : (M.meet a b).2 = y at *
        have hmeet := fun W => meet_is a b W true ha hb Hm.out
        rw [hx, hy] at hmeet
        have HM := Lib.hid hmeet
        clear hmeet hx hy
        go_enter Try.func7, Try.ntmps7
        go_wp2_with (first | (go_at_call 24; refine (HM.out _).mono ?_; rintro e w1 ⟨rfl, hb1⟩; obtain ⟨hc1, hf1⟩ := bcell hb1; have hz1 := hb1.size; simp at hz1; have p1 : w.heap.size < w1.heap.size := (by omega); have p2 : w.heap.size + 1 < w1.heap.size := (by omega); have p3 : w.heap.size < w1.heap.size + 1 + 1 := (by omega); have p4 : w.heap.size + 1 < w1.heap.size + 1 + 1 := (by omega)) | (go_at_call 31; with_reducible refine (HA.out _).mono ?_; rintro e w2 ⟨rfl, hb2⟩; obtain ⟨hc2, hf2⟩ := bcell hb2; have hz2 := hb2.size; (try simp at hz2); have q21 : w.heap.size < w2.heap.size := (by omega); have q22 : w.heap.size + 1 < w2.heap.size := (by omega); have q23 : w1.heap.size < w2.heap.size := (by omega); have q24 : w1.heap.size + 1 < w2.heap.size := (by omega)) | (go_at_call 31; with_reducible refine (HB.out _).mono ?_; rintro e w3 ⟨rfl, hb3⟩; obtain ⟨hc3, hf3⟩ := bcell hb3; have hz3 := hb3.size; (try simp at hz3); have q31 : w.heap.size < w3.heap.size := (by omega); have q32 : w.heap.size + 1 < w3.heap.size := (by omega); have q33 : w1.heap.size < w3.heap.size := (by omega); have q34 : w1.heap.size + 1 < w3.heap.size := (by omega)) | (go_at_call 32; refine (keepSolves_calls _).mono ?_; rintro e w9 ⟨rfl, hb9⟩))
        go_ret
        exact ⟨rfl, (((((((K2.out _ _).trans (hb1.mono (by simp; omega))).alloc (by omega) _ |>.alloc (by simp; omega) _).trans (hb2.mono (by simp; omega)))).trans (hb3.mono (by omega)))).trans (hb9.mono (by omega))⟩
      | true =>
        have HB := Lib.hid (fun W => calm_is b W true hcb)
        simp only [M.calm, decide_eq_true_eq] at hca hcb
        by_cases c1 : a.M = 0
        · have e1 : (a.M == 0) = true := by simp [c1]
          clear hca hcb HS c1
          generalize hx : (M.meet a b).1 = x at *
          generalize hy : (M.meet a b).2 = y at *
          have hmeet := fun W => meet_is a b W true ha hb Hm.out
          rw [hx, hy] at hmeet
          have HM := Lib.hid hmeet
          clear hmeet hx hy
          go_enter Try.func7, Try.ntmps7
          go_wp2_with (first | (go_at_call 24; refine (HM.out _).mono ?_; rintro e w1 ⟨rfl, hb1⟩; obtain ⟨hc1, hf1⟩ := bcell hb1; have hz1 := hb1.size; simp at hz1; have p1 : w.heap.size < w1.heap.size := (by omega); have p2 : w.heap.size + 1 < w1.heap.size := (by omega); have p3 : w.heap.size < w1.heap.size + 1 + 1 := (by omega); have p4 : w.heap.size + 1 < w1.heap.size + 1 + 1 := (by omega)) | (go_at_call 31; with_reducible refine (HA.out _).mono ?_; rintro e w2 ⟨rfl, hb2⟩; obtain ⟨hc2, hf2⟩ := bcell hb2; have hz2 := hb2.size; (try simp at hz2); have q21 : w.heap.size < w2.heap.size := (by omega); have q22 : w.heap.size + 1 < w2.heap.size := (by omega); have q23 : w1.heap.size < w2.heap.size := (by omega); have q24 : w1.heap.size + 1 < w2.heap.size := (by omega)) | (go_at_call 31; with_reducible refine (HB.out _).mono ?_; rintro e w3 ⟨rfl, hb3⟩; obtain ⟨hc3, hf3⟩ := bcell hb3; have hz3 := hb3.size; (try simp at hz3); have q31 : w.heap.size < w3.heap.size := (by omega); have q32 : w.heap.size + 1 < w3.heap.size := (by omega); have q33 : w1.heap.size < w3.heap.size := (by omega); have q34 : w1.heap.size + 1 < w3.heap.size := (by omega)) | (go_at_call 32; refine (keepSolves_calls _).mono ?_; rintro e w9 ⟨rfl, hb9⟩))
          go_ret
          exact ⟨rfl, (((((((K2.out _ _).trans (hb1.mono (by simp; omega))).alloc (by omega) _ |>.alloc (by simp; omega) _).trans (hb2.mono (by simp; omega)))).trans (hb3.mono (by omega)))).trans (hb9.mono (by omega))⟩
        · have e1 : (a.M == 0) = false := by simp [c1]
          by_cases c2 : b.M = 0
          · have e2 : (b.M == 0) = true := by simp [c2]
            clear hca hcb HS c1 c2
            generalize hx : (M.meet a b).1 = x at *
            generalize hy : (M.meet a b).2 = y at *
            have hmeet := fun W => meet_is a b W true ha hb Hm.out
            rw [hx, hy] at hmeet
            have HM := Lib.hid hmeet
            clear hmeet hx hy
            go_enter Try.func7, Try.ntmps7
            go_wp2_with (first | (go_at_call 24; refine (HM.out _).mono ?_; rintro e w1 ⟨rfl, hb1⟩; obtain ⟨hc1, hf1⟩ := bcell hb1; have hz1 := hb1.size; simp at hz1; have p1 : w.heap.size < w1.heap.size := (by omega); have p2 : w.heap.size + 1 < w1.heap.size := (by omega); have p3 : w.heap.size < w1.heap.size + 1 + 1 := (by omega); have p4 : w.heap.size + 1 < w1.heap.size + 1 + 1 := (by omega)) | (go_at_call 31; with_reducible refine (HA.out _).mono ?_; rintro e w2 ⟨rfl, hb2⟩; obtain ⟨hc2, hf2⟩ := bcell hb2; have hz2 := hb2.size; (try simp at hz2); have q21 : w.heap.size < w2.heap.size := (by omega); have q22 : w.heap.size + 1 < w2.heap.size := (by omega); have q23 : w1.heap.size < w2.heap.size := (by omega); have q24 : w1.heap.size + 1 < w2.heap.size := (by omega)) | (go_at_call 31; with_reducible refine (HB.out _).mono ?_; rintro e w3 ⟨rfl, hb3⟩; obtain ⟨hc3, hf3⟩ := bcell hb3; have hz3 := hb3.size; (try simp at hz3); have q31 : w.heap.size < w3.heap.size := (by omega); have q32 : w.heap.size + 1 < w3.heap.size := (by omega); have q33 : w1.heap.size < w3.heap.size := (by omega); have q34 : w1.heap.size + 1 < w3.heap.size := (by omega)) | (go_at_call 32; refine (keepSolves_calls _).mono ?_; rintro e w9 ⟨rfl, hb9⟩))
            go_ret
            exact ⟨rfl, (((((((K2.out _ _).trans (hb1.mono (by simp; omega))).alloc (by omega) _ |>.alloc (by simp; omega) _).trans (hb2.mono (by simp; omega)))).trans (hb3.mono (by omega)))).trans (hb9.mono (by omega))⟩
          · have e2 : (b.M == 0) = false := by simp [c2]
            have hsum := HS.out c1 c2 hca.2.2.1 hca.2.2.2 hcb.2.2.1 hcb.2.2.2
            have e3 : ((M.meet a b).1.PX + (M.meet a b).2.PX == a.PX + b.PX) = true := by simp [hsum.1]
            have e4 : ((M.meet a b).1.PY + (M.meet a b).2.PY == a.PY + b.PY) = true := by simp [hsum.2]
            clear hca hcb HS c1 c2 hsum
            generalize hx : (M.meet a b).1 = x at *
            generalize hy : (M.meet a b).2 = y at *
            have hmeet := fun W => meet_is a b W true ha hb Hm.out
            rw [hx, hy] at hmeet
            have HM := Lib.hid hmeet
            clear hmeet hx hy
            go_enter Try.func7, Try.ntmps7
            go_wp2_with (first | (go_at_call 24; refine (HM.out _).mono ?_; rintro e w1 ⟨rfl, hb1⟩; obtain ⟨hc1, hf1⟩ := bcell hb1; have hz1 := hb1.size; simp at hz1; have p1 : w.heap.size < w1.heap.size := (by omega); have p2 : w.heap.size + 1 < w1.heap.size := (by omega); have p3 : w.heap.size < w1.heap.size + 1 + 1 := (by omega); have p4 : w.heap.size + 1 < w1.heap.size + 1 + 1 := (by omega)) | (go_at_call 31; with_reducible refine (HA.out _).mono ?_; rintro e w2 ⟨rfl, hb2⟩; obtain ⟨hc2, hf2⟩ := bcell hb2; have hz2 := hb2.size; (try simp at hz2); have q21 : w.heap.size < w2.heap.size := (by omega); have q22 : w.heap.size + 1 < w2.heap.size := (by omega); have q23 : w1.heap.size < w2.heap.size := (by omega); have q24 : w1.heap.size + 1 < w2.heap.size := (by omega)) | (go_at_call 31; with_reducible refine (HB.out _).mono ?_; rintro e w3 ⟨rfl, hb3⟩; obtain ⟨hc3, hf3⟩ := bcell hb3; have hz3 := hb3.size; (try simp at hz3); have q31 : w.heap.size < w3.heap.size := (by omega); have q32 : w.heap.size + 1 < w3.heap.size := (by omega); have q33 : w1.heap.size < w3.heap.size := (by omega); have q34 : w1.heap.size + 1 < w3.heap.size := (by omega)) | (go_at_call 32; refine (keepSolves_calls _).mono ?_; rintro e w9 ⟨rfl, hb9⟩))
            go_ret
            exact ⟨rfl, (((((((K2.out _ _).trans (hb1.mono (by simp; omega))).alloc (by omega) _ |>.alloc (by simp; omega) _).trans (hb2.mono (by simp; omega)))).trans (hb3.mono (by omega)))).trans (hb9.mono (by omega))⟩
end Go.Proofs.Ytkpecagkpjabdaa
