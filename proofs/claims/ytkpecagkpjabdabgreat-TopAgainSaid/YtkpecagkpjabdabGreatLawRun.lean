/- Plain: acts one by one, and the replies to them. No condition, no program in sight. -/
import Derived.Test.YtkpecagkpjabdabGreatBagP
namespace Go.Proofs.YtkpecagkpjabdabGreat.M
open Go.RowKit
set_option linter.unusedVariables false
set_option linter.unusedSimpArgs false
set_option maxRecDepth 100000
def runK (g : Game) (l : List Act) (k : Nat) : Game × List Reply := runActs g (l.take k)
theorem runK_zero (g : Game) (l : List Act) : runK g l 0 = (g, []) := rfl
theorem runK_succ (g : Game) {l : List Act} {k : Nat} {x : Act} (h : l[k]? = some x) : runK g l (k + 1) = ((doAct (runK g l k).1 x).1, (runK g l k).2 ++ [(doAct (runK g l k).1 x).2]) := by
  unfold runK
  rw [List.take_add_one, h, runActs_append]
  rfl
theorem runK_len (g : Game) (l : List Act) {k : Nat} (hk : k ≤ l.length) : (runK g l k).2.length = k := by
  unfold runK
  rw [runActs_len, List.length_take]
  omega
theorem runK_all (g : Game) (l : List Act) : runK g l l.length = runActs g l := by
  unfold runK
  rw [List.take_length]
theorem runK_good {g : Game} (h : GoodG g) (l : List Act) (k : Nat) : GoodG (runK g l k).1 := runActs_good h _
theorem runActs_acts0 {g : Game} (h : 0 ≤ g.acts) (l : List Act) : 0 ≤ (runActs g l).1.acts := by
  induction l generalizing g with
  | nil => exact h
  | cons a l ih => exact ih (doAct_acts0 a h)
theorem runK_acts0 {g : Game} (h : 0 ≤ g.acts) (l : List Act) (k : Nat) : 0 ≤ (runK g l k).1.acts := runActs_acts0 h _
end Go.Proofs.YtkpecagkpjabdabGreat.M
