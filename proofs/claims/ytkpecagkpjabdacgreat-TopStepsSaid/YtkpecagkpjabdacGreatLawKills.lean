/- Plain: who is killed is gone, and never met again. No condition, no program in sight. -/
import Derived.Test.YtkpecagkpjabdacGreatBagP
namespace Go.Proofs.YtkpecagkpjabdacGreat.M
open Go.RowKit
set_option linter.unusedVariables false
set_option linter.unusedSimpArgs false
set_option maxRecDepth 100000
theorem kill_code {s : Store} (g : GoodS s) (id : Int) : (kill s id).2 = 0 ∨ (kill s id).2 = 3 := by
  unfold kill
  rw [if_neg (by rw [(good_iff s).2 g]; simp)]
  split
  · exact .inr rfl
  · exact .inl rfl
theorem kill_none {s : Store} (g : GoodS s) {id : Int} (h : at_ s id = none) : (kill s id).2 = 3 := by
  rcases kill_code g id with k | k
  · obtain ⟨m, r, E, _, _, _, _, _, hl⟩ := kill_ok k
    have h' : look (entries s) id = none := h
    rw [h'] at hl
    cases hl
  · exact k
theorem kill_at {s : Store} {id : Int} (h : (kill s id).2 = 0) : at_ (kill s id).1 id = none := by
  obtain ⟨m, r, E, g, gk, _, hp, hpk, _⟩ := kill_ok h
  show look (entries (kill s id).1) id = none
  rw [look_perm hpk gk.nodup]
  exact rest_fresh g hp
def killAct (id : Int) : Act := ⟨2, id, 0, 0, row0, ⟨0, 0, 0, 0, 0⟩⟩
def stepAct (n : Int) : Act := ⟨6, 0, n, 0, row0, ⟨0, 0, 0, 0, 0⟩⟩
theorem doAct_kill {g : Game} (hg : g.acts < 150) (id : Int) : doAct g (killAct id) = (withThings (more g) (kill g.w.things id).1, no (kill g.w.things id).2) := by
  unfold doAct
  rw [if_neg (by omega)]
  rfl
theorem doAct_stepAct {g : Game} (hg : g.acts < 150) {n : Int} (h1 : 1 ≤ n) (h2 : n ≤ 8) : doAct g (stepAct n) = ({ more g with w := (stepN n.toNat (g.w, [])).1 }, ⟨0, (stepN n.toNat (g.w, [])).2.length, [], (stepN n.toNat (g.w, [])).2⟩) := by
  rw [doAct_step (a := stepAct n) hg rfl]
  unfold stepG
  rw [if_neg (by show ¬ (n < 1 ∨ 8 < n); omega)]
  rfl
/-- what TopKills asks -/
theorem kills {g : Game} (hG : GoodG g) (hg : g.acts ≤ 60) (id : Int) : ((doAct g (killAct id)).2.code = 0 ∨ (doAct g (killAct id)).2.code = 3) ∧ ((doAct g (killAct id)).2.code = 0 →
    (get (doAct g (killAct id)).1.w.things id).2.2 = false ∧
    (∀ p ∈ (doAct (doAct g (killAct id)).1 (stepAct 3)).2.met, p.1 ≠ id ∧ p.2 ≠ id) ∧
    (doAct (doAct (doAct g (killAct id)).1 (stepAct 3)).1 (killAct id)).2.code = 3) := by
  have e1 := doAct_kill (g := g) (by omega) id
  have g1 := doAct_good hG (killAct id)
  rw [e1] at g1 ⊢
  refine ⟨kill_code hG.w.things id, fun hc => ?_⟩
  have hk : (kill g.w.things id).2 = 0 := hc
  have hat := kill_at hk
  have a1 : (withThings (more g) (kill g.w.things id).1).acts ≤ 61 := by show g.acts + 1 ≤ 61; omega
  generalize hG1 : withThings (more g) (kill g.w.things id).1 = G1 at *
  have hth : G1.w.things = (kill g.w.things id).1 := by rw [← hG1]; rfl
  simp only
  have hat1 : at_ G1.w.things id = none := by rw [hth]; exact hat
  refine ⟨by rw [get_at g1.w.things, hat1]; rfl, ?_, ?_⟩
  · rw [doAct_stepAct (by omega) (by omega) (by omega)]
    exact stepN_gone _ _ g1.w hat1
  · have g2 := doAct_good g1 (stepAct 3)
    have e2 := doAct_stepAct (g := G1) (n := 3) (by omega) (by omega) (by omega)
    rw [e2] at g2 ⊢
    have kp := (stepN_good (3 : Int).toNat (G1.w, []) g1.w).2.1
    rw [doAct_kill (by show G1.acts + 1 < 150; omega)]
    show (kill (stepN (3 : Int).toNat (G1.w, [])).1.things id).2 = 3
    exact kill_none kp.good (kp.gone id hat1)
end Go.Proofs.YtkpecagkpjabdacGreat.M
