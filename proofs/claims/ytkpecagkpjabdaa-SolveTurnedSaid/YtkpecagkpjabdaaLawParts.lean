/- The plain law of SolveParts: who has met, far from the bounds, does not overlap any more; what is fixed stays. -/
import Derived.Test.YtkpecagkpjabdaaLawSums
namespace Go.Proofs.Ytkpecagkpjabdaa.M
set_option linter.unusedVariables false

theorem parts_line (p q W1 W2 aM bM : Int) (hp : -524288 ≤ p ∧ p ≤ 524288) (hq : -524288 ≤ q ∧ q ≤ 524288) (hW : 1 ≤ W1 ∧ W1 ≤ 4096) (hV : 1 ≤ W2 ∧ W2 ≤ 4096) (ha : 0 ≤ aM ∧ aM ≤ 9) (hb : 0 ≤ bM ∧ bM ≤ 9) (hm : aM ≠ 0 ∨ bM ≠ 0) (hd : 1 ≤ depth W1 W2 p q) :
    depth W1 W2 (pa p (wayOf p q) (depth W1 W2 p q) aM bM) (pb q (wayOf p q) (depth W1 W2 p q) aM bM) = 0 ∧
      (-1048576 ≤ pa p (wayOf p q) (depth W1 W2 p q) aM bM ∧ pa p (wayOf p q) (depth W1 W2 p q) aM bM ≤ 1048576) ∧ (-1048576 ≤ pb q (wayOf p q) (depth W1 W2 p q) aM bM ∧ pb q (wayOf p q) (depth W1 W2 p q) aM bM ≤ 1048576) := by
  have hD : depth W1 W2 p q = W1 + W2 - abs (p - q) := rfl
  have hA : abs (p - q) = if p - q < 0 then -(p - q) else p - q := rfl
  generalize hdd : depth W1 W2 p q = d at *
  have hd2 : d ≤ 8192 := by rw [hD, hA]; split <;> omega
  have hH : 0 ≤ halfOf d aM bM ∧ halfOf d aM bM ≤ d ∧ (aM = 0 → halfOf d aM bM = 0) ∧ (bM = 0 → halfOf d aM bM = d) := by
    unfold halfOf
    by_cases h1 : bM = 0
    · rw [if_pos h1]
      exact ⟨by omega, by omega, by omega, by omega⟩
    · rw [if_neg h1]
      by_cases h2 : aM = 0
      · rw [if_pos h2]
        exact ⟨by omega, by omega, by omega, by omega⟩
      · rw [if_neg h2]
        exact ⟨by omega, by omega, by omega, by omega⟩
  unfold pa pb
  generalize halfOf d aM bM = h at *
  have ea : ∀ x : Int, -8192 ≤ x ∧ x ≤ 8192 → add p x 1048576 = p + x := fun x hx => add_mid _ _ _ 524288 (by omega) hp (by omega) (by omega)
  have eb : ∀ x : Int, -8192 ≤ x ∧ x ≤ 8192 → add q x 1048576 = q + x := fun x hx => add_mid _ _ _ 524288 (by omega) hq (by omega) (by omega)
  by_cases hw : q < p
  · have W : wayOf p q = -1 := by unfold wayOf; rw [if_pos hw]
    rw [W, ea _ (by omega), eb _ (by omega)]
    rw [if_neg (by omega)] at hA
    by_cases a0 : 0 < aM <;> by_cases b0 : 0 < bM <;> simp only [a0, b0, if_true, if_false] <;> unfold depth abs <;> refine ⟨?_, ?_, ?_⟩ <;> (try split) <;> omega
  · have W : wayOf p q = 1 := by unfold wayOf; rw [if_neg hw]
    rw [W, ea _ (by omega), eb _ (by omega)]
    by_cases e : p = q
    · rw [if_neg (by omega)] at hA
      by_cases a0 : 0 < aM <;> by_cases b0 : 0 < bM <;> simp only [a0, b0, if_true, if_false] <;> unfold depth abs <;> refine ⟨?_, ?_, ?_⟩ <;> (try split) <;> omega
    · rw [if_pos (by omega)] at hA
      by_cases a0 : 0 < aM <;> by_cases b0 : 0 < bM <;> simp only [a0, b0, if_true, if_false] <;> unfold depth abs <;> refine ⟨?_, ?_, ?_⟩ <;> (try split) <;> omega

theorem body_mk {r : Row} (h : ((-1048576 ≤ r.X ∧ r.X ≤ 1048576) ∧ (-1048576 ≤ r.Y ∧ r.Y ≤ 1048576) ∧ (-16777216 ≤ r.PX ∧ r.PX ≤ 16777216) ∧ (-16777216 ≤ r.PY ∧ r.PY ≤ 16777216)) ∧ 1 ≤ r.W ∧ r.W ≤ 4096 ∧ 1 ≤ r.H ∧ r.H ≤ 4096 ∧ 0 ≤ r.M ∧ r.M ≤ 9 ∧ 0 ≤ r.R ∧ r.R ≤ 256 ∧ (0 < r.M ∨ r.PX = 0 ∧ r.PY = 0)) : body r = true := by
  simp only [body, number, Bool.and_eq_true, decide_eq_true_eq]
  exact h

/-- the main law -/
theorem meet_parts {a b : Row} (hm : meets a b = true) (h0 : a.M ≠ 0 ∨ b.M ≠ 0) (ax : -524288 ≤ a.X ∧ a.X ≤ 524288) (ay : -524288 ≤ a.Y ∧ a.Y ≤ 524288) (bx : -524288 ≤ b.X ∧ b.X ≤ 524288) (by_ : -524288 ≤ b.Y ∧ b.Y ≤ 524288) :
    (depth (meet a b).1.W (meet a b).2.W (meet a b).1.X (meet a b).2.X = 0 ∨ depth (meet a b).1.H (meet a b).2.H (meet a b).1.Y (meet a b).2.Y = 0) ∧
    ((meet a b).1.W = a.W ∧ (meet a b).1.H = a.H ∧ (meet a b).1.M = a.M ∧ (meet a b).1.R = a.R) ∧ ((meet a b).2.W = b.W ∧ (meet a b).2.H = b.H ∧ (meet a b).2.M = b.M ∧ (meet a b).2.R = b.R) ∧
    (a.M = 0 → (meet a b).1 = a) ∧ (b.M = 0 → (meet a b).2 = b) ∧ body (meet a b).1 = true ∧ body (meet a b).2 = true := by
  obtain ⟨ha, hb, hdx, hdy⟩ := meets_bodies hm
  obtain ⟨⟨a1, a2, a3, a4⟩, aw, ah, am, ar, ao⟩ := body_bd ha
  obtain ⟨⟨b1, b2, b3, b4⟩, bw, bh, bm, br, bo⟩ := body_bd hb
  have E : meet a b = meetR a b := by unfold meet; rw [if_neg (by rw [hm]; decide), if_neg (by omega)]
  rw [E]
  unfold meetR
  split
  · have P := parts_line a.X b.X a.W b.W a.M b.M ax bx aw bw am bm h0 hdx
    refine ⟨.inl P.1, ⟨rfl, rfl, rfl, rfl⟩, ⟨rfl, rfl, rfl, rfl⟩, ?_, ?_, ?_, ?_⟩
    · intro h; have h1 : ¬ 0 < a.M := by omega
      unfold meetX pa qa; simp only []; rw [if_neg h1, if_neg (fun c => h1 c.2)]
    · intro h; have h1 : ¬ 0 < b.M := by omega
      unfold meetX pb qb; simp only []; rw [if_neg h1, if_neg (fun c => h1 c.2)]
    · refine body_mk ⟨⟨P.2.1, a2, qa_bd _ _ _ _ _ _ _ a3, a4⟩, aw.1, aw.2, ah.1, ah.2, am.1, am.2, ar.1, ar.2, ?_⟩
      show 0 < a.M ∨ _
      rcases ao with h | h
      · exact .inl h
      · by_cases h2 : 0 < a.M
        · exact .inl h2
        · right; show qa _ _ _ _ _ _ _ = 0 ∧ a.PY = 0; unfold qa; rw [if_neg (by omega)]; exact h
    · refine body_mk ⟨⟨P.2.2, b2, qb_bd _ _ _ _ _ _ _ b3, b4⟩, bw.1, bw.2, bh.1, bh.2, bm.1, bm.2, br.1, br.2, ?_⟩
      show 0 < b.M ∨ _
      rcases bo with h | h
      · exact .inl h
      · by_cases h2 : 0 < b.M
        · exact .inl h2
        · right; show qb _ _ _ _ _ _ _ = 0 ∧ b.PY = 0; unfold qb; rw [if_neg (by omega)]; exact h
  · have P := parts_line a.Y b.Y a.H b.H a.M b.M ay by_ ah bh am bm h0 hdy
    refine ⟨.inr P.1, ⟨rfl, rfl, rfl, rfl⟩, ⟨rfl, rfl, rfl, rfl⟩, ?_, ?_, ?_, ?_⟩
    · intro h; have h1 : ¬ 0 < a.M := by omega
      unfold meetY pa qa; simp only []; rw [if_neg h1, if_neg (fun c => h1 c.2)]
    · intro h; have h1 : ¬ 0 < b.M := by omega
      unfold meetY pb qb; simp only []; rw [if_neg h1, if_neg (fun c => h1 c.2)]
    · refine body_mk ⟨⟨a1, P.2.1, a3, qa_bd _ _ _ _ _ _ _ a4⟩, aw.1, aw.2, ah.1, ah.2, am.1, am.2, ar.1, ar.2, ?_⟩
      show 0 < a.M ∨ _
      rcases ao with h | h
      · exact .inl h
      · by_cases h2 : 0 < a.M
        · exact .inl h2
        · right; show a.PX = 0 ∧ qa _ _ _ _ _ _ _ = 0; unfold qa; rw [if_neg (by omega)]; exact h
    · refine body_mk ⟨⟨b1, P.2.2, b3, qb_bd _ _ _ _ _ _ _ b4⟩, bw.1, bw.2, bh.1, bh.2, bm.1, bm.2, br.1, br.2, ?_⟩
      show 0 < b.M ∨ _
      rcases bo with h | h
      · exact .inl h
      · by_cases h2 : 0 < b.M
        · exact .inl h2
        · right; show b.PX = 0 ∧ qb _ _ _ _ _ _ _ = 0; unfold qb; rw [if_neg (by omega)]; exact h
end Go.Proofs.Ytkpecagkpjabdaa.M
