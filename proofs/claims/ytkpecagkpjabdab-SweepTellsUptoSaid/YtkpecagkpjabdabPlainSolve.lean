/- The plain model of package solve: what comes of two things that meet, without a program in sight. No condition. -/
import Derived.Test.YtkpecagkpjabdabPlain
namespace Go.Proofs.Ytkpecagkpjabdab.M
set_option linter.unusedVariables false
set_option linter.unusedSimpArgs false
set_option maxRecDepth 100000

def abs (x : Int) : Int := if x < 0 then -x else x

/-- may a thing meet others? -/
def number (r : Row) : Bool := decide ((-1048576 ≤ r.X ∧ r.X ≤ 1048576) ∧ (-1048576 ≤ r.Y ∧ r.Y ≤ 1048576) ∧ (-16777216 ≤ r.PX ∧ r.PX ≤ 16777216) ∧ (-16777216 ≤ r.PY ∧ r.PY ≤ 16777216))
def body (r : Row) : Bool :=
  number r && decide (1 ≤ r.W ∧ r.W ≤ 4096 ∧ 1 ≤ r.H ∧ r.H ≤ 4096 ∧ 0 ≤ r.M ∧ r.M ≤ 9 ∧ 0 ≤ r.R ∧ r.R ≤ 256 ∧ (0 < r.M ∨ r.PX = 0 ∧ r.PY = 0))

/-- how much two overlap along one way; as the program reckons it, wrap-round and all -/
def depth (wa wb xa xb : Int) : Int := wa + wb - abs (xa - xb)

theorem eq_within (n most : Int) (h : 0 ≤ most) : n = within n most ↔ -most ≤ n ∧ n ≤ most := by
  have := within_bd n most h
  constructor
  · intro e; omega
  · intro e; rw [within_id n most e.1 e.2]
theorem number_eq (r : Row) : number r = (decide (r.X = within r.X 1048576) && (decide (r.Y = within r.Y 1048576) && (decide (r.PX = within r.PX 16777216) && decide (r.PY = within r.PY 16777216)))) := by
  rw [Bool.eq_iff_iff]
  simp only [number, decide_eq_true_eq, Bool.and_eq_true, eq_within _ _ (show (0 : Int) ≤ 1048576 by omega), eq_within _ _ (show (0 : Int) ≤ 16777216 by omega)]
def mOf (aM bM : Int) : Int := if aM = 0 then bM else if bM = 0 then aM else aM * bM
def nOf (aM bM : Int) : Int := if aM = 0 then 1 else if bM = 0 then 1 else aM + bM
def least (a b : Int) : Int := if b < a then b else a
def jOf (near way aM bM aR bR : Int) : Int := part (near * mOf aM bM) (256 + least aR bR) (nOf aM bM * 256) * way
def halfOf (depth aM bM : Int) : Int := if bM = 0 then depth else if aM = 0 then 0 else depth / 2
def wayOf (a b : Int) : Int := if b < a then -1 else 1

/-- place and push of a, of b, behind they met along one way -/
def pa (p way depth aM bM : Int) : Int := if 0 < aM then add p (-halfOf depth aM bM * way) 1048576 else p
def pb (p way depth aM bM : Int) : Int := if 0 < bM then add p ((depth - halfOf depth aM bM) * way) 1048576 else p
def qa (q near way aM bM aR bR : Int) : Int := if 0 < near ∧ 0 < aM then add q (-jOf near way aM bM aR bR) 16777216 else q
def qb (q near way aM bM aR bR : Int) : Int := if 0 < near ∧ 0 < bM then add q (jOf near way aM bM aR bR) 16777216 else q

def meetX (a b : Row) : Row × Row :=
  let way := wayOf a.X b.X
  let dx := depth a.W b.W a.X b.X
  let near := (part a.PX 1 a.M - part b.PX 1 b.M) * way
  ({ a with X := pa a.X way dx a.M b.M, PX := qa a.PX near way a.M b.M a.R b.R }, { b with X := pb b.X way dx a.M b.M, PX := qb b.PX near way a.M b.M a.R b.R })
def meetY (a b : Row) : Row × Row :=
  let way := wayOf a.Y b.Y
  let dy := depth a.H b.H a.Y b.Y
  let near := (part a.PY 1 a.M - part b.PY 1 b.M) * way
  ({ a with Y := pa a.Y way dy a.M b.M, PY := qa a.PY near way a.M b.M a.R b.R }, { b with Y := pb b.Y way dy a.M b.M, PY := qb b.PY near way a.M b.M a.R b.R })

/-- two that meet, of which one moves -/
def meetR (a b : Row) : Row × Row := if depth a.W b.W a.X b.X < depth a.H b.H a.Y b.Y then meetX a b else meetY a b

/-- do they meet? -/
def meets (a b : Row) : Bool := body a && body b && decide (1 ≤ depth a.W b.W a.X b.X) && decide (1 ≤ depth a.H b.H a.Y b.Y)
def meet (a b : Row) : Row × Row :=
  if meets a b = false then (a, b)
  else if a.M = 0 ∧ b.M = 0 then (a, b)
  else meetR a b

theorem mOf_bd (a b : Int) (ha : 0 ≤ a ∧ a ≤ 9) (hb : 0 ≤ b ∧ b ≤ 9) : 0 ≤ mOf a b ∧ mOf a b ≤ 81 := by
  have h := Int.mul_nonneg ha.1 hb.1
  have h' := mul_bd a b 9 9 (by omega) (by omega) (by omega) (by omega)
  unfold mOf
  (repeat' split) <;> omega
theorem nOf_bd (a b : Int) (ha : 0 ≤ a ∧ a ≤ 9) (hb : 0 ≤ b ∧ b ≤ 9) : 0 ≤ nOf a b ∧ nOf a b ≤ 18 := by
  unfold nOf
  (repeat' split) <;> omega

end Go.Proofs.Ytkpecagkpjabdab.M
