/- Plain: what was saved comes back, and what was done since, done again, leads to the same. No condition, no program in sight. -/
import Derived.Test.YtkpecagkpjabdabGreatLawRun
namespace Go.Proofs.YtkpecagkpjabdabGreat.M
open Go.RowKit
set_option linter.unusedVariables false
set_option linter.unusedSimpArgs false
set_option maxRecDepth 100000
def saveAct : Act := ⟨7, 0, 0, 0, row0, ⟨0, 0, 0, 0, 0⟩⟩
def loadAct (n : Int) : Act := ⟨8, 0, n, 0, row0, ⟨0, 0, 0, 0, 0⟩⟩
def fixAct (a : Act) : Act := if a.kind = 7 ∨ a.kind = 8 then { a with kind := 6 } else a
theorem fixAct_plain (a : Act) : PlainAct (fixAct a) := by
  unfold fixAct
  split
  · exact ⟨by show (6 : Int) ≠ 7; decide, by show (6 : Int) ≠ 8; decide⟩
  · rename_i h
    exact ⟨fun e => h (.inl e), fun e => h (.inr e)⟩
/-- what TopAgain asks -/
theorem agains {g : Game} (hG : GoodG g) (ha : g.acts ≤ 60) (hc : (doAct g saveAct).2.code = 0) {l : List Act} (hl : l.length ≤ 20) :
    ∃ (G1 G2 G3 G4 : Game) (n : Int) (rs : List Reply), doAct g saveAct = (G1, ⟨0, n, [], []⟩) ∧ (0 ≤ n ∧ n < 3) ∧ runActs G1 (l.map fixAct) = (G2, rs) ∧ (∃ r, doAct G2 (loadAct n) = (G3, r) ∧ r = ⟨0, 0, [], []⟩) ∧ G3.w = G1.w ∧ runActs G3 (l.map fixAct) = (G4, rs) ∧ G4.w = G2.w := by
  obtain ⟨h1, h2, h3⟩ := doAct_save (a := saveAct) rfl hc
  have k := again (g := g) (s := saveAct) rfl hc (l := l.map fixAct) (fun a ha => by
    obtain ⟨b, _, rfl⟩ := List.mem_map.1 ha
    exact fixAct_plain b) (by rw [List.length_map]; omega) (b := loadAct g.saves.length) rfl (by rw [h2]; rfl)
  simp only at k
  obtain ⟨k1, k2, k3, k4⟩ := k
  have e1 : doAct g saveAct = ((doAct g saveAct).1, ⟨0, g.saves.length, [], []⟩) := by rw [← h2]
  obtain ⟨G1, hG1⟩ : ∃ G1, G1 = (doAct g saveAct).1 := ⟨_, rfl⟩
  rw [← hG1] at e1 k1 k2 k3 k4 h3
  obtain ⟨G2, hG2⟩ : ∃ G2, G2 = (runActs G1 (l.map fixAct)).1 := ⟨_, rfl⟩
  rw [← hG2] at k1 k2 k3 k4
  have hacts : G2.acts < 150 := by
    rw [hG2, runActs_acts _ _ (by rw [h3, List.length_map]; show g.acts + 1 + _ ≤ 150; omega), h3, List.length_map]
    show g.acts + 1 + _ < 150
    omega
  have hsv : G2.saves = g.saves ++ [g.w] := by
    rw [hG2, runActs_saves _ _ (fun a ha => by
      obtain ⟨b, _, rfl⟩ := List.mem_map.1 ha
      exact (fixAct_plain b).save), h3]
  obtain ⟨f1, _⟩ := doAct_load (g := G2) (a := loadAct g.saves.length) rfl hacts rfl (w := g.w) (by rw [hsv]; simp)
  refine ⟨G1, G2, (doAct G2 (loadAct g.saves.length)).1, (runActs (doAct G2 (loadAct g.saves.length)).1 (l.map fixAct)).1, g.saves.length, (runActs G1 (l.map fixAct)).2, e1, ⟨by omega, by omega⟩, by rw [hG2], ⟨_, rfl, f1⟩, k2, by rw [← k3], k4⟩
theorem run_at (g : Game) {l : List Act} {k : Nat} {x : Act} (h : l[k]? = some x) : (runActs g l).2[k]? = some (doAct (runK g l k).1 x).2 := by
  have hlt := (List.getElem?_eq_some_iff.1 h).1
  have e := runK_succ g h
  have e2 := runActs_take g l (k + 1)
  have e3 : (runK g l (k + 1)).2 = (runActs g l).2.take (k + 1) := e2
  rw [e] at e3
  have hl : (runK g l k).2.length = k := runK_len g l (by omega)
  have : ((runActs g l).2.take (k + 1))[k]? = some (doAct (runK g l k).1 x).2 := by
    rw [← e3, List.getElem?_append_right (by omega), hl, Nat.sub_self]
    rfl
  rw [List.getElem?_take] at this
  split at this
  · exact this
  · cases this
end Go.Proofs.YtkpecagkpjabdabGreat.M
