/- Plain: so many steps are some, and the others. No condition, no program in sight. -/
import Derived.Test.YtkpecagkpjabdacGreatLawKills
namespace Go.Proofs.YtkpecagkpjabdacGreat.M
open Go.RowKit
set_option linter.unusedVariables false
set_option linter.unusedSimpArgs false
set_option maxRecDepth 100000
theorem stepN_few (k : Nat) {w : Wd} (g : GoodWd w) : (stepN k (w, [])).2.length ≤ 45 * k := by
  induction k with
  | zero => exact Nat.le_refl _
  | succ k ih =>
    rw [stepN_last]
    simp only [List.length_append]
    have := step_few (stepN_good k (w, []) g).1
    omega
theorem steps {g : Game} (hG : GoodG g) (ha : g.acts ≤ 60) {n k : Nat} (h1 : 1 ≤ k) (h2 : k < n) (h3 : n ≤ 8) :
    ∃ (L La Lb : List Pr) (Gn Gk Gm : Game), doAct g (stepAct n) = (Gn, ⟨0, L.length, [], L⟩) ∧ doAct g (stepAct k) = (Gk, ⟨0, La.length, [], La⟩) ∧ doAct Gk (stepAct ((n : Int) - (k : Int))) = (Gm, ⟨0, Lb.length, [], Lb⟩) ∧ L = La ++ Lb ∧ Gn.w = Gm.w ∧ L.length ≤ 360 := by
  have e1 := doAct_stepAct (g := g) (n := (n : Int)) (by omega) (by omega) (by omega)
  have e2 := doAct_stepAct (g := g) (n := (k : Int)) (by omega) (by omega) (by omega)
  rw [Int.toNat_natCast] at e1 e2
  obtain ⟨Gk, hGk⟩ : ∃ Gk, Gk = { more g with w := (stepN k (g.w, [])).1 } := ⟨_, rfl⟩
  have a1 : Gk.acts < 150 := by rw [hGk]; show g.acts + 1 < 150; omega
  have e3 := doAct_stepAct (g := Gk) (n := (n : Int) - (k : Int)) a1 (by omega) (by omega)
  rw [show ((n : Int) - (k : Int)).toNat = n - k by omega] at e3
  have hw : Gk.w = (stepN k (g.w, [])).1 := by rw [hGk]
  rw [hw] at e3
  have hp := stepN_parts k (n - k) g.w
  rw [show k + (n - k) = n by omega] at hp
  have hf := stepN_few n hG.w
  refine ⟨_, _, _, _, Gk, _, e1, by rw [e2, hGk], e3, by rw [hp], by rw [hp], ?_⟩
  omega
def mod0 (n m : Int) : Int := (n.tmod m + m).tmod m
theorem mod0_in (n : Int) {m : Int} (hm : 0 < m) : 0 ≤ mod0 n m ∧ mod0 n m < m := by
  have h := tmod_in (n := n) (m := m) hm
  unfold mod0
  exact ⟨Int.tmod_nonneg _ (by omega), Int.tmod_lt_of_pos _ hm⟩
end Go.Proofs.YtkpecagkpjabdacGreat.M
