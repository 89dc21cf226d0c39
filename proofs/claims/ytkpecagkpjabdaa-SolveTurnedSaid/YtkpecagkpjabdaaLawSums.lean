/- The plain law of SolveSums: what the one loses the other one has, for rows far from the bounds. -/
import Derived.Test.YtkpecagkpjabdaaPlainSolve
namespace Go.Proofs.Ytkpecagkpjabdaa.M
set_option linter.unusedVariables false

theorem tdiv_le (a b x k : Int) (hk : 0 < k) (hb : k ≤ b) (h1 : -(x * k) ≤ a) (h2 : a ≤ x * k) (hx : 0 ≤ x) : -x ≤ a.tdiv b ∧ a.tdiv b ≤ x := by
  have h : (a.tdiv b).natAbs ≤ x.natAbs := by
    rw [Int.natAbs_tdiv]
    have h3 : a.natAbs ≤ x.natAbs * k.natAbs := by rw [← Int.natAbs_mul]; have := Int.mul_nonneg hx (Int.le_of_lt hk); omega
    calc a.natAbs / b.natAbs ≤ (x.natAbs * k.natAbs) / b.natAbs := Nat.div_le_div_right h3
      _ ≤ (x.natAbs * k.natAbs) / k.natAbs := Nat.div_le_div_left (by omega) (by omega)
      _ = x.natAbs := Nat.mul_div_cancel _ (by omega)
  generalize a.tdiv b = q at *
  omega
theorem part_lo (q m x : Int) (hx : x ≤ 268435456) (h : -x ≤ q ∧ q ≤ x) : -x ≤ part q 1 m ∧ part q 1 m ≤ x := by
  unfold part
  split
  · omega
  · rw [within_id q _ (by omega) (by omega), within_id 1 _ (by omega) (by omega), Int.mul_one]
    exact tdiv_bd _ _ _ (by omega) (by omega)

theorem j_bd (near way aM bM aR bR : Int) (hn : -32768 ≤ near ∧ near ≤ 32768) (hw : -1 ≤ way ∧ way ≤ 1) (ha : 1 ≤ aM ∧ aM ≤ 9) (hb : 1 ≤ bM ∧ bM ≤ 9) (ra : 0 ≤ aR ∧ aR ≤ 256) (rb : 0 ≤ bR ∧ bR ≤ 256) :
    -2654208 ≤ jOf near way aM bM aR bR ∧ jOf near way aM bM aR bR ≤ 2654208 := by
  unfold jOf
  have hm : mOf aM bM = aM * bM := by unfold mOf; rw [if_neg (by omega), if_neg (by omega)]
  have hN : nOf aM bM = aM + bM := by unfold nOf; rw [if_neg (by omega), if_neg (by omega)]
  have hl : 0 ≤ least aR bR ∧ least aR bR ≤ 256 := by unfold least; split <;> omega
  have m1 := mul_bd aM bM 9 9 (by omega) (by omega) (by omega) (by omega)
  have m2 := mul_bd near (aM * bM) 32768 81 (by omega) (by omega) (by omega) (by omega)
  have m3 := mul_bd (near * (aM * bM)) (256 + least aR bR) 2654208 512 (by omega) (by omega) (by omega) (by omega)
  have hp : -2654208 ≤ part (near * mOf aM bM) (256 + least aR bR) (nOf aM bM * 256) ∧ part (near * mOf aM bM) (256 + least aR bR) (nOf aM bM * 256) ≤ 2654208 := by
    rw [hm, hN]
    unfold part
    rw [within_id _ _ (by omega) (by omega), within_id _ _ (by omega) (by omega), within_id _ _ (by omega) (by omega), if_neg (by omega)]
    exact tdiv_le _ _ 2654208 512 (by omega) (by omega) (by omega) (by omega) (by omega)
  have := mul_bd _ way 2654208 1 hp.1 hp.2 (by omega) (by omega)
  omega

theorem add_mid (a b most x : Int) (hm : 0 ≤ most ∧ most ≤ 1099511627776) (h1 : -x ≤ a ∧ a ≤ x) (h2 : -(most - x) ≤ b ∧ b ≤ most - x) (hx : 0 ≤ x ∧ x ≤ most) : add a b most = a + b := by
  unfold add
  rw [capped_id most (by omega) (by omega), within_id a _ (by omega) (by omega), within_id b _ (by omega) (by omega), within_id _ _ (by omega) (by omega)]

theorem add_bd (a b most : Int) (hm : 0 ≤ most ∧ most ≤ 1099511627776) : -most ≤ add a b most ∧ add a b most ≤ most := by
  unfold add
  rw [capped_id most (by omega) (by omega)]
  exact within_bd _ _ (by omega)

theorem push_sums (q1 q2 near way aM bM aR bR : Int) (h1 : -16384 ≤ q1 ∧ q1 ≤ 16384) (h2 : -16384 ≤ q2 ∧ q2 ≤ 16384) (hn : -32768 ≤ near ∧ near ≤ 32768) (hw : -1 ≤ way ∧ way ≤ 1)
    (ha : 1 ≤ aM ∧ aM ≤ 9) (hb : 1 ≤ bM ∧ bM ≤ 9) (ra : 0 ≤ aR ∧ aR ≤ 256) (rb : 0 ≤ bR ∧ bR ≤ 256) :
    qa q1 near way aM bM aR bR + qb q2 near way aM bM aR bR = q1 + q2 := by
  have hj := j_bd near way aM bM aR bR hn hw ha hb ra rb
  unfold qa qb
  by_cases c : 0 < near
  · rw [if_pos ⟨c, by omega⟩, if_pos ⟨c, by omega⟩, add_mid _ _ _ 16384 (by omega) (by omega) (by omega) (by omega), add_mid _ _ _ 16384 (by omega) (by omega) (by omega) (by omega)]
    omega
  · rw [if_neg (by omega), if_neg (by omega)]

theorem qa_bd (q near way aM bM aR bR : Int) (h : -16777216 ≤ q ∧ q ≤ 16777216) : -16777216 ≤ qa q near way aM bM aR bR ∧ qa q near way aM bM aR bR ≤ 16777216 := by
  unfold qa
  split
  · exact add_bd _ _ _ (by omega)
  · exact h
theorem qb_bd (q near way aM bM aR bR : Int) (h : -16777216 ≤ q ∧ q ≤ 16777216) : -16777216 ≤ qb q near way aM bM aR bR ∧ qb q near way aM bM aR bR ≤ 16777216 := by
  unfold qb
  split
  · exact add_bd _ _ _ (by omega)
  · exact h
theorem pa_bd (p way depth aM bM : Int) (h : -1048576 ≤ p ∧ p ≤ 1048576) : -1048576 ≤ pa p way depth aM bM ∧ pa p way depth aM bM ≤ 1048576 := by
  unfold pa
  split
  · exact add_bd _ _ _ (by omega)
  · exact h
theorem pb_bd (p way depth aM bM : Int) (h : -1048576 ≤ p ∧ p ≤ 1048576) : -1048576 ≤ pb p way depth aM bM ∧ pb p way depth aM bM ≤ 1048576 := by
  unfold pb
  split
  · exact add_bd _ _ _ (by omega)
  · exact h
theorem body_bd {r : Row} (h : body r = true) : ((-1048576 ≤ r.X ∧ r.X ≤ 1048576) ∧ (-1048576 ≤ r.Y ∧ r.Y ≤ 1048576) ∧ (-16777216 ≤ r.PX ∧ r.PX ≤ 16777216) ∧ (-16777216 ≤ r.PY ∧ r.PY ≤ 16777216)) ∧ (1 ≤ r.W ∧ r.W ≤ 4096) ∧ (1 ≤ r.H ∧ r.H ≤ 4096) ∧ (0 ≤ r.M ∧ r.M ≤ 9) ∧ (0 ≤ r.R ∧ r.R ≤ 256) ∧ (0 < r.M ∨ r.PX = 0 ∧ r.PY = 0) := by
  simp only [body, number, Bool.and_eq_true, decide_eq_true_eq] at h
  omega
theorem meets_bodies {a b : Row} (h : meets a b = true) : body a = true ∧ body b = true ∧ 1 ≤ depth a.W b.W a.X b.X ∧ 1 ≤ depth a.H b.H a.Y b.Y := by
  simp only [meets, Bool.and_eq_true, decide_eq_true_eq] at h
  exact ⟨h.1.1.1, h.1.1.2, h.1.2, h.2⟩
theorem way_bd (a b : Int) : -1 ≤ wayOf a b ∧ wayOf a b ≤ 1 := by unfold wayOf; split <;> omega

/-- what comes of two that meet keeps the bounds of pushes -/
theorem meet_push_bd {a b : Row} (ha : body a = true) (hb : body b = true) :
    ((-16777216 ≤ (meet a b).1.PX ∧ (meet a b).1.PX ≤ 16777216) ∧ (-16777216 ≤ (meet a b).1.PY ∧ (meet a b).1.PY ≤ 16777216)) ∧ ((-16777216 ≤ (meet a b).2.PX ∧ (meet a b).2.PX ≤ 16777216) ∧ (-16777216 ≤ (meet a b).2.PY ∧ (meet a b).2.PY ≤ 16777216)) := by
  obtain ⟨⟨_, _, ap, aq⟩, _⟩ := body_bd ha
  obtain ⟨⟨_, _, bp, bq⟩, _⟩ := body_bd hb
  unfold meet
  split
  · exact ⟨⟨ap, aq⟩, bp, bq⟩
  · split
    · exact ⟨⟨ap, aq⟩, bp, bq⟩
    · unfold meetR
      split
      · exact ⟨⟨qa_bd _ _ _ _ _ _ _ ap, aq⟩, qb_bd _ _ _ _ _ _ _ bp, bq⟩
      · exact ⟨⟨ap, qa_bd _ _ _ _ _ _ _ aq⟩, bp, qb_bd _ _ _ _ _ _ _ bq⟩

theorem meet_sums {a b : Row} (hm : meets a b = true) (ma : a.M ≠ 0) (mb : b.M ≠ 0) (a1 : -16384 ≤ a.PX ∧ a.PX ≤ 16384) (a2 : -16384 ≤ a.PY ∧ a.PY ≤ 16384) (b1 : -16384 ≤ b.PX ∧ b.PX ≤ 16384) (b2 : -16384 ≤ b.PY ∧ b.PY ≤ 16384) :
    (meet a b).1.PX + (meet a b).2.PX = a.PX + b.PX ∧ (meet a b).1.PY + (meet a b).2.PY = a.PY + b.PY := by
  obtain ⟨ha, hb, _, _⟩ := meets_bodies hm
  obtain ⟨_, _, _, am, ar, _⟩ := body_bd ha
  obtain ⟨_, _, _, bm, br, _⟩ := body_bd hb
  have E : meet a b = meetR a b := by unfold meet; rw [if_neg (by rw [hm]; decide), if_neg (by omega)]
  rw [E]
  unfold meetR
  split
  · have s1 := part_lo a.PX a.M 16384 (by omega) a1
    have s2 := part_lo b.PX b.M 16384 (by omega) b1
    have hw := way_bd a.X b.X
    have hn := mul_bd (part a.PX 1 a.M - part b.PX 1 b.M) (wayOf a.X b.X) 32768 1 (by omega) (by omega) (by omega) (by omega)
    exact ⟨push_sums _ _ _ _ _ _ _ _ a1 b1 (by omega) hw (by omega) (by omega) ar br, rfl⟩
  · have s1 := part_lo a.PY a.M 16384 (by omega) a2
    have s2 := part_lo b.PY b.M 16384 (by omega) b2
    have hw := way_bd a.Y b.Y
    have hn := mul_bd (part a.PY 1 a.M - part b.PY 1 b.M) (wayOf a.Y b.Y) 32768 1 (by omega) (by omega) (by omega) (by omega)
    exact ⟨rfl, push_sums _ _ _ _ _ _ _ _ a2 b2 (by omega) hw (by omega) (by omega) ar br⟩
end Go.Proofs.Ytkpecagkpjabdaa.M
