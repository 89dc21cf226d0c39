/- The plain model of packages world and game: what Good, Boxes, Step, and a game's acts answer. No condition, no program in sight. -/
import Derived.Test.YtkpecagkpjabdabPlainStore2
import Derived.Test.YtkpecagkpjabdabPlainSweep
import Derived.Test.YtkpecagkpjabdabPlainWall
namespace Go.Proofs.Ytkpecagkpjabdab.M
open Go.RowKit
set_option linter.unusedVariables false
set_option linter.unusedSimpArgs false
set_option maxRecDepth 100000

structure Wd where
  things : Store
  fall : Int
  wide : Int
  high : Int
deriving DecidableEq

def goodW (w : Wd) : Bool := good w.things && decide ((-64 ≤ w.fall ∧ w.fall ≤ 64) ∧ (1 ≤ w.wide ∧ w.wide ≤ 1048576) ∧ (1 ≤ w.high ∧ w.high ≤ 1048576))

/-- all three: place, push, mass -/
def moves (m : Int) : Bool := bits .and .i64 m 11 == 11

def boxOf (id : Int) (r : Row) : Box := ⟨id, r.X - r.W, r.Y - r.H, r.X + r.W, r.Y + r.H⟩
def boxes (s : Store) : List Box := (query s 5).map fun id => boxOf id (get s id).2.1

/-- one thing falls and goes on -/
def goneRow (fall m : Int) (r : Row) : Row :=
  let py := if bit m 16 then add r.PY (fall * r.M) 16777216 else r.PY
  { r with X := add r.X (part r.PX 1 r.M) 1048576, Y := add r.Y (part py 1 r.M) 1048576, PY := py }
def goOn (fall : Int) (s : Store) (id : Int) : Store := (set s id (goneRow fall (get s id).1 (get s id).2.1)).1
/-- a thing's row as it meets others -/
def freeRow (m : Int) (r : Row) : Row := if moves m then r else { r with PX := 0, PY := 0, M := 0 }
def backTo (s : Store) (id m : Int) (r : Row) : Store := if moves m then (set s id r).1 else s
def meetStep (s : Store × List Pr) (p : Pr) : Store × List Pr :=
  let a := get s.1 p.1
  let b := get s.1 p.2
  let fa := freeRow a.1 a.2.1
  let fb := freeRow b.1 b.2.1
  if meets fa fb then (backTo (backTo s.1 p.1 a.1 (meet fa fb).1) p.2 b.1 (meet fa fb).2, s.2 ++ [p]) else s
def walledRow (wide high : Int) (r : Row) : Row :=
  { r with X := wallA r.X r.W wide, PX := wallP r.X r.PX r.W wide r.R, Y := wallA r.Y r.H high, PY := wallP r.Y r.PY r.H high r.R }
def walled (wide high : Int) (s : Store) (id : Int) : Store := (set s id (walledRow wide high (get s id).2.1)).1

def gone (w : Wd) : Store := (query w.things 11).foldl (goOn w.fall) w.things
def met (w : Wd) : Store × List Pr := (pairs (boxes (gone w))).foldl meetStep (gone w, [])
def ends (w : Wd) : Store := (query (met w).1 11).foldl (walled w.wide w.high) (met w).1
def step (w : Wd) : Wd × List Pr × Int := if goodW w then ({ w with things := ends w }, (met w).2, 0) else (w, [], 1)

/-! a game -/
structure Act where
  kind : Int
  id : Int
  n : Int
  mask : Int
  row : Row
  box : Box
deriving DecidableEq
structure Reply where
  code : Int
  n : Int
  ids : List Int
  met : List Pr
deriving DecidableEq
structure Game where
  w : Wd
  saves : List Wd
  acts : Int
deriving DecidableEq

def no (e : Int) : Reply := ⟨e, 0, [], []⟩
def one (m : Int) : Bool := decide (0 < m) && (decide (m ≤ 31) && (bits .and .i64 m (wrap64 (m - 1)) == 0))
def stepN : Nat → Wd × List Pr → Wd × List Pr
  | 0, s => s
  | k + 1, s => stepN k ((step s.1).1, s.2 ++ (step s.1).2.1)
def withThings (g : Game) (s : Store) : Game := { g with w := { g.w with things := s } }
def doAct (g0 : Game) (a : Act) : Game × Reply :=
  if 150 ≤ g0.acts then (g0, no 5) else
  let g := { g0 with acts := g0.acts + 1 }
  let s := g.w.things
  if a.kind = 1 then (withThings g (spawn s a.mask a.row).1, ⟨(spawn s a.mask a.row).2.2, (spawn s a.mask a.row).2.1, [], []⟩)
  else if a.kind = 2 then (withThings g (kill s a.id).1, no (kill s a.id).2)
  else if a.kind = 3 ∨ a.kind = 4 then
    let t := get s a.id
    if t.2.2 = false then (g, no 3)
    else if (one a.mask && ((bits .and .i64 t.1 a.mask != 0) == (a.kind == 4))) = false then (g, no 1)
    else (withThings g (change s a.id (bits .xor .i64 t.1 a.mask) a.row).1, no (change s a.id (bits .xor .i64 t.1 a.mask) a.row).2)
  else if a.kind = 5 then
    let t := get s a.id
    if t.2.2 = false then (g, no 3)
    else if bit t.1 2 = false then (g, no 1)
    else
      let r := { t.2.1 with PX := add t.2.1.PX a.row.PX 16777216, PY := add t.2.1.PY a.row.PY 16777216 }
      (withThings g (set s a.id r).1, no (set s a.id r).2)
  else if a.kind = 6 then
    if a.n < 1 ∨ 8 < a.n then (g, no 2)
    else ({ g with w := (stepN a.n.toNat (g.w, [])).1 }, ⟨0, (stepN a.n.toNat (g.w, [])).2.length, [], (stepN a.n.toNat (g.w, [])).2⟩)
  else if a.kind = 7 then
    if 3 ≤ g.saves.length then (g, no 5) else ({ g with saves := g.saves ++ [g.w] }, ⟨0, g.saves.length, [], []⟩)
  else if a.kind = 8 then
    if a.n < 0 ∨ g.saves.length ≤ a.n then (g, no 3) else ({ g with w := g.saves.getD a.n.toNat g.w }, no 0)
  else if a.kind = 9 then (g, ⟨0, 0, lookB (boxes s) a.box, []⟩)
  else (g, no 4)
def newGame (wide high fall : Int) : Option Game := if goodW ⟨⟨[], 0⟩, fall, wide, high⟩ then some ⟨⟨⟨[], 0⟩, fall, wide, high⟩, [], 0⟩ else none
end Go.Proofs.Ytkpecagkpjabdab.M
