/- The plain model of the layers fix and solve: integer functions and rows, no program in sight. No condition. -/
import Derived.WalkKit
namespace Go.Proofs.Ytkpecagkpjabdab.M
set_option linter.unusedVariables false
set_option linter.unusedSimpArgs false
set_option maxRecDepth 100000

/-- a row of api -/
structure Row where
  X : Int
  Y : Int
  PX : Int
  PY : Int
  W : Int
  H : Int
  M : Int
  R : Int
deriving DecidableEq

/-- n brought to the nearest number from -most to most (most from 0 on) -/
def within (n most : Int) : Int := if n < -most then -most else if most < n then most else n

def capped (most : Int) : Int := if most < 0 then 0 else if 1099511627776 < most then 1099511627776 else most

def add (a b most : Int) : Int := within (within a (capped most) + within b (capped most)) (capped most)

def part (n a b : Int) : Int :=
  if within b 268435456 = 0 then 0 else (within n 268435456 * within a 268435456).tdiv (within b 268435456)

theorem within_bd (n most : Int) (h : 0 ≤ most) : -most ≤ within n most ∧ within n most ≤ most := by
  unfold within; split <;> (try split) <;> omega
theorem within_id (n most : Int) (h1 : -most ≤ n) (h2 : n ≤ most) : within n most = n := by
  unfold within; rw [if_neg (by omega), if_neg (by omega)]
theorem capped_bd (most : Int) : 0 ≤ capped most ∧ capped most ≤ 1099511627776 := by
  unfold capped; split <;> (try split) <;> omega
theorem capped_id (most : Int) (h1 : 0 ≤ most) (h2 : most ≤ 1099511627776) : capped most = most := by
  unfold capped; rw [if_neg (by omega), if_neg (by omega)]

theorem mul_bd (a b x y : Int) (h1 : -x ≤ a) (h2 : a ≤ x) (h3 : -y ≤ b) (h4 : b ≤ y) : -(x * y) ≤ a * b ∧ a * b ≤ x * y := by
  have hx : 0 ≤ x := by omega
  have hy : 0 ≤ y := by omega
  have ha : a.natAbs ≤ x.natAbs := by omega
  have hb : b.natAbs ≤ y.natAbs := by omega
  have hm : (a * b).natAbs ≤ (x * y).natAbs := by rw [Int.natAbs_mul, Int.natAbs_mul]; exact Nat.mul_le_mul ha hb
  have hp : 0 ≤ x * y := Int.mul_nonneg hx hy
  omega

theorem tdiv_bd (a b x : Int) (h1 : -x ≤ a) (h2 : a ≤ x) : -x ≤ a.tdiv b ∧ a.tdiv b ≤ x := by
  have hle : (a.tdiv b).natAbs ≤ a.natAbs := by rw [Int.natAbs_tdiv]; exact Nat.div_le_self _ _
  generalize a.tdiv b = q at *
  omega

theorem within_neg (n most : Int) (h : 0 ≤ most) : within (-n) most = -within n most := by
  unfold within; (repeat' split) <;> omega
theorem add_comm (a b most : Int) : add a b most = add b a most := by
  unfold add; rw [Int.add_comm]
theorem part_bd (n a b : Int) : -72057594037927936 ≤ part n a b ∧ part n a b ≤ 72057594037927936 := by
  unfold part
  split
  · omega
  · have h1 := within_bd n 268435456 (by omega)
    have h2 := within_bd a 268435456 (by omega)
    have h := mul_bd (within n 268435456) (within a 268435456) 268435456 268435456 (by omega) (by omega) (by omega) (by omega)
    exact tdiv_bd _ _ _ (by omega) (by omega)
theorem part_neg (n a b : Int) : part (-n) a b = -part n a b := by
  unfold part
  rw [within_neg n _ (by omega)]
  split
  · rfl
  · rw [Int.neg_mul, Int.neg_tdiv]
theorem part_neg2 (n a b : Int) : part n (-a) b = -part n a b := by
  unfold part
  rw [within_neg a _ (by omega)]
  split
  · rfl
  · rw [Int.mul_neg, Int.neg_tdiv]
theorem part_self (n b : Int) (hb : b ≠ 0) (h1 : -268435456 ≤ n) (h2 : n ≤ 268435456) (h3 : -268435456 ≤ b) (h4 : b ≤ 268435456) : part n b b = n := by
  unfold part
  rw [within_id n _ (by omega) (by omega), within_id b _ (by omega) (by omega), if_neg hb, Int.mul_tdiv_cancel _ hb]

end Go.Proofs.Ytkpecagkpjabdab.M
