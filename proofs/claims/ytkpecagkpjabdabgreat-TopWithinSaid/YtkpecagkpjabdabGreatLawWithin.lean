/- Plain: behind a step of the game all that moves is within the walls. No condition, no program in sight. -/
import Derived.Test.YtkpecagkpjabdabGreatBagP
namespace Go.Proofs.YtkpecagkpjabdabGreat.M
open Go.RowKit
set_option linter.unusedVariables false
set_option linter.unusedSimpArgs false
set_option maxRecDepth 100000
theorem within_step {g : Game} (hG : GoodG g) {a : Act} (hk : a.kind = 6) (hc : (doAct g a).2.code = 0) {id : Int} (h : id ∈ query (doAct g a).1.w.things 11) :
    ∃ m r, get (doAct g a).1.w.things id = (m, r, true) ∧ (r.W ≤ r.X ∧ r.X ≤ max r.W ((doAct g a).1.w.wide - r.W)) ∧ (r.H ≤ r.Y ∧ r.Y ≤ max r.H ((doAct g a).1.w.high - r.H)) ∧ (0 ≤ r.W ∧ r.W ≤ 4096) ∧ (0 ≤ r.H ∧ r.H ≤ 4096) := by
  rcases Int.lt_or_le g.acts 150 with hlt | hge
  · rw [doAct_step hlt hk] at h hc ⊢
    unfold stepG at h hc ⊢
    by_cases hn : a.n < 1 ∨ 8 < a.n
    · rw [if_pos hn] at hc
      exact absurd hc (by show ¬ ((2 : Int) = 0); decide)
    · rw [if_neg hn] at h ⊢
      obtain ⟨k, hk⟩ : ∃ k : Nat, a.n.toNat = k + 1 := ⟨a.n.toNat - 1, by omega⟩
      simp only at h ⊢
      rw [hk, stepN_last] at h ⊢
      simp only at h ⊢
      have gk := (stepN_good k ((more g).w, []) hG.w).1
      generalize (stepN k ((more g).w, [])).1 = d at *
      obtain ⟨m, r, e, hi⟩ := step_inside gk h
      obtain ⟨_, kp, gw, _, e2, e3⟩ := step_kept gk
      have hf := (at_fits gw.things e).half
      rw [e2, e3]
      exact ⟨m, r, by rw [get_at gw.things, e]; rfl, hi.1, hi.2, hf.1, hf.2⟩
  · rw [doAct_full a hge] at hc
    exact absurd hc (by show ¬ ((5 : Int) = 0); decide)
end Go.Proofs.YtkpecagkpjabdabGreat.M
