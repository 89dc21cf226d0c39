/- The plain model of package store: tables, stores, what each function answers, without a program in sight. No condition. -/
import Derived.Test.YtkpecagkpjabdabPlain
import Derived.WalkKit
namespace Go.Proofs.Ytkpecagkpjabdab.M
open Go.RowKit
set_option linter.unusedVariables false
set_option linter.unusedSimpArgs false
set_option maxRecDepth 100000

structure Table where
  mask : Int
  ids : List Int
  rows : List Row
deriving DecidableEq

structure Store where
  tables : List Table
  next : Int
deriving DecidableEq

def row0 : Row := ⟨0, 0, 0, 0, 0, 0, 0, 0⟩

/-- has a mask the part p? -/
def bit (m p : Int) : Bool := bits .and .i64 m p != 0

/-- two numbers within bounds, if the part is there; else 0 (of a mass the second one is not looked at) -/
def isPart (is : Bool) (a b lo hi : Int) : Bool :=
  if is then decide (lo ≤ a ∧ a ≤ hi ∧ lo ≤ b ∧ b ≤ hi) else decide (a = 0 ∧ (b = 0 ∨ (lo = 1 ∧ hi = 9)))

def goodRow (mask : Int) (r : Row) : Bool :=
  decide (1 ≤ mask ∧ mask ≤ 31) && (isPart (bit mask 1) r.X r.Y (-1048576) 1048576 && (isPart (bit mask 2) r.PX r.PY (-16777216) 16777216 &&
    (isPart (bit mask 4) r.W r.H 1 4096 && (isPart (bit mask 8) r.M 1 1 9 && ((bit mask 8 && (decide (0 ≤ r.R) && decide (r.R ≤ 256))) || decide (r.R = 0))))))

def onlyAt (b1 b2 b4 b8 : Bool) (r : Row) : Row :=
  ⟨if b1 then r.X else 0, if b1 then r.Y else 0, if b2 then r.PX else 0, if b2 then r.PY else 0, if b4 then r.W else 0, if b4 then r.H else 0, if b8 then r.M else 0, if b8 then r.R else 0⟩
/-- what of a row belongs to the parts of a mask -/
def only (mask : Int) (r : Row) : Row := onlyAt (bit mask 1) (bit mask 2) (bit mask 4) (bit mask 8) r

/-- two rows together, as the program adds them (wrap-round and all) -/
def plus (a b : Row) : Row :=
  ⟨wrap64 (a.X + b.X), wrap64 (a.Y + b.Y), wrap64 (a.PX + b.PX), wrap64 (a.PY + b.PY), wrap64 (a.W + b.W), wrap64 (a.H + b.H), wrap64 (a.M + b.M), wrap64 (a.R + b.R)⟩

/-- the first row, but for the parts of a mask, which are of the second -/
def withR (r more : Row) (mask : Int) : Row := plus (only (bits .andNot .i64 31 mask) r) (only mask more)

end Go.Proofs.Ytkpecagkpjabdab.M
