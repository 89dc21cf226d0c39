/- The plain law of SolveTurned: two things turned round meet the same, turned round. -/
import Derived.Test.YtkpecagkpjabdaaLawParts
namespace Go.Proofs.Ytkpecagkpjabdaa.M
set_option linter.unusedVariables false

def turn (r : Row) : Row := { r with X := -r.X, Y := -r.Y, PX := -r.PX, PY := -r.PY }

theorem add_neg (a b most : Int) : add (-a) (-b) most = -add a b most := by
  unfold add
  have h := (capped_bd most).1
  rw [within_neg _ _ h, within_neg _ _ h, ← Int.neg_add, within_neg _ _ h]
theorem abs_neg (x : Int) : abs (-x) = abs x := by unfold abs; split <;> split <;> omega
theorem depth_neg (w1 w2 p q : Int) : depth w1 w2 (-p) (-q) = depth w1 w2 p q := by
  unfold depth; rw [show -p - -q = -(p - q) by omega, abs_neg]
theorem way_neg (p q : Int) (h : p ≠ q) : wayOf (-p) (-q) = -wayOf p q := by unfold wayOf; split <;> split <;> omega
theorem number_turn (r : Row) : number (turn r) = number r := by
  unfold number turn
  simp only [decide_eq_decide]
  omega
theorem body_turn (r : Row) : body (turn r) = body r := by
  unfold body
  rw [number_turn]
  simp only [turn, Int.neg_eq_zero]
theorem pa_neg (p way d aM bM : Int) : pa (-p) (-way) d aM bM = -pa p way d aM bM := by
  unfold pa
  split
  · rw [Int.mul_neg, add_neg]
  · rfl
theorem pb_neg (p way d aM bM : Int) : pb (-p) (-way) d aM bM = -pb p way d aM bM := by
  unfold pb
  split
  · rw [Int.mul_neg, add_neg]
  · rfl
theorem j_neg (near way aM bM aR bR : Int) : jOf near (-way) aM bM aR bR = -jOf near way aM bM aR bR := by
  unfold jOf; rw [Int.mul_neg]
theorem qa_neg (q near way aM bM aR bR : Int) : qa (-q) near (-way) aM bM aR bR = -qa q near way aM bM aR bR := by
  unfold qa
  split
  · rw [j_neg, add_neg]
  · rfl
theorem qb_neg (q near way aM bM aR bR : Int) : qb (-q) near (-way) aM bM aR bR = -qb q near way aM bM aR bR := by
  unfold qb
  split
  · rw [j_neg, add_neg]
  · rfl
theorem near_neg (x y way : Int) : (-x - -y) * -way = (x - y) * way := by
  rw [show -x - -y = -(x - y) by omega, Int.neg_mul_neg]

theorem meets_turn (a b : Row) : meets (turn a) (turn b) = meets a b := by
  unfold meets
  rw [body_turn, body_turn]
  simp only [turn, depth_neg]
theorem meetX_turn (a b : Row) (h : a.X ≠ b.X) : meetX (turn a) (turn b) = (turn (meetX a b).1, turn (meetX a b).2) := by
  unfold meetX turn
  simp only [depth_neg, way_neg _ _ h, part_neg, near_neg, pa_neg, pb_neg, qa_neg, qb_neg]
theorem meetY_turn (a b : Row) (h : a.Y ≠ b.Y) : meetY (turn a) (turn b) = (turn (meetY a b).1, turn (meetY a b).2) := by
  unfold meetY turn
  simp only [depth_neg, way_neg _ _ h, part_neg, near_neg, pa_neg, pb_neg, qa_neg, qb_neg]
theorem meet_turn (a b : Row) (hx : a.X ≠ b.X) (hy : a.Y ≠ b.Y) : meet (turn a) (turn b) = (turn (meet a b).1, turn (meet a b).2) := by
  unfold meet
  rw [meets_turn]
  by_cases h1 : meets a b = false
  · rw [if_pos h1, if_pos h1]
  · rw [if_neg h1, if_neg h1]
    by_cases h2 : a.M = 0 ∧ b.M = 0
    · rw [if_pos h2, if_pos (show (turn a).M = 0 ∧ (turn b).M = 0 from h2)]
    · rw [if_neg h2, if_neg (show ¬((turn a).M = 0 ∧ (turn b).M = 0) from h2)]
      unfold meetR
      rw [meetX_turn a b hx, meetY_turn a b hy]
      have e : (depth (turn a).W (turn b).W (turn a).X (turn b).X < depth (turn a).H (turn b).H (turn a).Y (turn b).Y) ↔ (depth a.W b.W a.X b.X < depth a.H b.H a.Y b.Y) := by
        simp only [turn, depth_neg]
      by_cases h3 : depth a.W b.W a.X b.X < depth a.H b.H a.Y b.Y
      · rw [if_pos h3, if_pos (e.2 h3)]
      · rw [if_neg h3, if_neg (fun c => h3 (e.1 c))]
theorem meet_place_bd {a b : Row} (ha : body a = true) (hb : body b = true) :
    ((-1048576 ≤ (meet a b).1.X ∧ (meet a b).1.X ≤ 1048576) ∧ (-1048576 ≤ (meet a b).1.Y ∧ (meet a b).1.Y ≤ 1048576)) ∧ ((-1048576 ≤ (meet a b).2.X ∧ (meet a b).2.X ≤ 1048576) ∧ (-1048576 ≤ (meet a b).2.Y ∧ (meet a b).2.Y ≤ 1048576)) := by
  obtain ⟨⟨ap, aq, _, _⟩, _⟩ := body_bd ha
  obtain ⟨⟨bp, bq, _, _⟩, _⟩ := body_bd hb
  unfold meet
  split
  · exact ⟨⟨ap, aq⟩, bp, bq⟩
  · split
    · exact ⟨⟨ap, aq⟩, bp, bq⟩
    · unfold meetR
      split
      · exact ⟨⟨pa_bd _ _ _ _ _ ap, aq⟩, pb_bd _ _ _ _ _ bp, bq⟩
      · exact ⟨⟨ap, pa_bd _ _ _ _ _ aq⟩, bp, pb_bd _ _ _ _ _ bq⟩
end Go.Proofs.Ytkpecagkpjabdaa.M
