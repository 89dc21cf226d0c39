/- The contract of world.Good. Condition: the store lies in memory, its numbers are of 64 bits. -/
import Derived.Test.YtkpecagkpjabdabGreatStoreGood
import Derived.Test.YtkpecagkpjabdabGreatBagP
namespace Go.Proofs.YtkpecagkpjabdabGreat
open Go.RowKit
set_option linter.unusedVariables false
set_option linter.unusedSimpArgs false
set_option maxRecDepth 100000

/-- a world's value -/
abbrev wdV (vt : Value) (d : M.Wd) : Value := .agg #[vt, .int .i64 d.things.next, .int .i64 d.fall, .int .i64 d.wide, .int .i64 d.high]
set_option maxHeartbeats 4000000 in
theorem goodWorld_calls {w : World} {lo : Nat} {vt : Value} {d : M.Wd} (h : StoreAt w lo (.agg #[vt, .int .i64 d.things.next]) d.things) (hin : StoreIn d.things) :
    Calls Tryz.prog 21 #[wdV vt d] w fun e w' => e = .returned (.bool (M.goodW d)) ∧ Below w.heap.size w w' := by
  have HG := Lib.hid (fun W (hb : Below w.heap.size w W) => storeGood_calls (h.below hb) hin)
  obtain ⟨s, fall, wide, high⟩ := d
  obtain ⟨g, hg⟩ : ∃ g, M.good s = g := ⟨_, rfl⟩
  have hgw : M.goodW ⟨s, fall, wide, high⟩ = (g && decide ((-64 ≤ fall ∧ fall ≤ 64) ∧ (1 ≤ wide ∧ wide ≤ 1048576) ∧ (1 ≤ high ∧ high ≤ 1048576))) := by unfold M.goodW; rw [hg]
  rw [hgw]
  simp only at HG
  rw [hg] at HG
  clear hg hgw h hin
  have cs : g = false ∨ (g = true ∧ ¬ -64 ≤ fall) ∨ (g = true ∧ -64 ≤ fall ∧ ¬ fall ≤ 64) ∨ (g = true ∧ -64 ≤ fall ∧ fall ≤ 64 ∧ ¬ 1 ≤ wide) ∨ (g = true ∧ -64 ≤ fall ∧ fall ≤ 64 ∧ 1 ≤ wide ∧ ¬ wide ≤ 1048576) ∨ (g = true ∧ -64 ≤ fall ∧ fall ≤ 64 ∧ 1 ≤ wide ∧ wide ≤ 1048576 ∧ ¬ 1 ≤ high) ∨ (g = true ∧ -64 ≤ fall ∧ fall ≤ 64 ∧ 1 ≤ wide ∧ wide ≤ 1048576 ∧ 1 ≤ high) := by
    cases g
    · exact .inl rfl
    · simp only [true_and, Bool.true_eq_false, false_or]; omega
  rcases cs with rfl | ⟨rfl, c1⟩ | ⟨rfl, c1, c2⟩ | ⟨rfl, c1, c2, c3⟩ | ⟨rfl, c1, c2, c3, c4⟩ | ⟨rfl, c1, c2, c3, c4, c5⟩ | ⟨rfl, c1, c2, c3, c4, c5⟩
  all_goals
    go_enter Tryz.func21, Tryz.ntmps21
    go_wp2_with (go_at_call 56; refine (HG.out _ (by repeat first | with_reducible assumption | with_reducible exact Below.refl _ _ | with_reducible apply Below.drew | with_reducible apply below_drewN | with_reducible apply Below.alloc (hB := (by first | omega | (simp; done) | (simp; omega))) | with_reducible apply Below.setCell (hp := (by first | omega | (simp; done) | (simp; omega))))).mono ?_; rintro e w1 ⟨rfl, hb1⟩; have K1 : Below w.heap.size w w1 := (show Below w.heap.size w _ from (by repeat first | with_reducible assumption | with_reducible exact Below.refl _ _ | with_reducible apply Below.drew | with_reducible apply below_drewN | with_reducible apply Below.alloc (hB := (by first | omega | (simp; done) | (simp; omega))) | with_reducible apply Below.setCell (hp := (by first | omega | (simp; done) | (simp; omega))))).trans (hb1.mono (by first | omega | (simp; done) | (simp; omega))); have hz1 := hb1.size; (try simp at hz1); obtain ⟨hc1, hf1⟩ := bcell hb1)
    all_goals
      go_ret
      refine ⟨?_, ?_⟩
      · first | (simp [*]; done) | (simp [*]; omega) | (congr 2; simp; omega)
      · exact (by repeat first | with_reducible assumption | with_reducible exact Below.refl _ _ | with_reducible apply Below.drew | with_reducible apply below_drewN | with_reducible apply Below.alloc (hB := (by first | omega | (simp; done) | (simp; omega))) | with_reducible apply Below.setCell (hp := (by first | omega | (simp; done) | (simp; omega))))
end Go.Proofs.YtkpecagkpjabdabGreat
