/-
  No cell of these rows narrows 'for every input' (looked for: loops, veiled, ifaces, maps, wideKeys, modest, calm, conditions, laid).
  DERIVED. THE GIVEN ROWS OF THIS SEAT. 11 by the template 'for every input the law returns true; each argument reads behind the call as it read before'; 0 by the template 'total and deterministic' (their statements: YtkpecagkpjabdaaTotals.lean).
  GIVEN WITH THE SEED: the statements are not yours to turn. If you find one false, say at which input.
  Laid BY PROGRAM, IN A SANDBOX (cutbox-rows.mjs): the forced cells as the released guide's own fill.sh prints them over the translation de9d75adc72fc228… (all of the seat's roots in one cut). By AI agents, Wed Nov 11 2026. No macro, syntax, notation, axiom, sorry.
-/
import Derived.Test.YtkpecagkpjabdaaChecked
import GoSem.Claim
import GoSem.ClaimJoined
import GoSem.ClaimMapViews
import Derived.JoinedTies
import Derived.KernelRfl
namespace Go.Proofs.Ytkpecagkpjabdaa
/- THE CELL 'sum', in the pinned program and in every row, IS THE sha256 OF THE DUMP (.gsa) THAT YtkpecagkpjabdaaProg.lean LOADS. Nothing in Lean hashes anything: it is a label: what it is worth is what the hold of that sum in a sandbox is worth. -/
noncomputable def Try.pinned : Pinned := { name := "ytkpecagkpjabdaa", sum := "de9d75adc72fc2289ec60aabd342dbdb9492e4e82c8accae51827f90edb85961", checked := Try.checked }
namespace Rows
def none {H : Type} : Left H := { results := [], args := [] }

/-- 'ninepinslaw.Names': WHATEVER THE INPUT: true; the input reads as it did. -/
def namesSpec : ChangeSpec := { name := "names", fn := fun _ => fun
  | [] => { results := [.lit (.bool true)], args := [] }
  | _ => none }
def namesRow : OpenClaim := { program := "ytkpecagkpjabdaa", sum := "de9d75adc72fc2289ec60aabd342dbdb9492e4e82c8accae51827f90edb85961", func := "ninepins/ninepinslaw.Names", spec := "names", apart := false }
def NamesSaid : Prop := namesRow.holds Try.pinned (OpenSpec.ofChange namesSpec)

/-- ITS FALSE NEIGHBOUR: 'it returns false'. Refute it at one input. -/
def namesWrong : ChangeSpec := { name := "names", fn := fun _ => fun
  | [] => { results := [.lit (.bool false)], args := [] }
  | _ => none }
def NamesWrongFalsely : Prop := namesRow.holds Try.pinned (OpenSpec.ofChange namesWrong)

/-- 'ninepinslaw.FixTells': WHATEVER THE INPUT: true; the input reads as it did. -/
def fixTellsSpec : ChangeSpec := { name := "fixTells", fn := fun _ => fun
  | [d1, d2, d3, d4] => { results := [.lit (.bool true)], args := [d1, d2, d3, d4] }
  | _ => none }
def fixTellsRow : OpenClaim := { program := "ytkpecagkpjabdaa", sum := "de9d75adc72fc2289ec60aabd342dbdb9492e4e82c8accae51827f90edb85961", func := "ninepins/ninepinslaw.FixTells", spec := "fixTells", unfollowed := true, recurses := true, apart := false }
def FixTellsSaid : Prop := fixTellsRow.holds Try.pinned (OpenSpec.ofChange fixTellsSpec)

/-- ITS FALSE NEIGHBOUR: 'it returns false'. Refute it at one input. -/
def fixTellsWrong : ChangeSpec := { name := "fixTells", fn := fun _ => fun
  | [d1, d2, d3, d4] => { results := [.lit (.bool false)], args := [d1, d2, d3, d4] }
  | _ => none }
def FixTellsWrongFalsely : Prop := fixTellsRow.holds Try.pinned (OpenSpec.ofChange fixTellsWrong)

/-- 'ninepinskeep.FixKeeps': WHATEVER THE INPUT: true; the input reads as it did. -/
def fixKeepsSpec : ChangeSpec := { name := "fixKeeps", fn := fun _ => fun
  | [d1, d2, d3, d4] => { results := [.lit (.bool true)], args := [d1, d2, d3, d4] }
  | _ => none }
def fixKeepsRow : OpenClaim := { program := "ytkpecagkpjabdaa", sum := "de9d75adc72fc2289ec60aabd342dbdb9492e4e82c8accae51827f90edb85961", func := "ninepins/ninepinskeep.FixKeeps", spec := "fixKeeps", apart := false }
def FixKeepsSaid : Prop := fixKeepsRow.holds Try.pinned (OpenSpec.ofChange fixKeepsSpec)

/-- ITS FALSE NEIGHBOUR: 'it returns false'. Refute it at one input. -/
def fixKeepsWrong : ChangeSpec := { name := "fixKeeps", fn := fun _ => fun
  | [d1, d2, d3, d4] => { results := [.lit (.bool false)], args := [d1, d2, d3, d4] }
  | _ => none }
def FixKeepsWrongFalsely : Prop := fixKeepsRow.holds Try.pinned (OpenSpec.ofChange fixKeepsWrong)

/-- 'ninepinslaw.SolveTells': WHATEVER THE INPUT: true; the input reads as it did. -/
def solveTellsSpec : ChangeSpec := { name := "solveTells", fn := fun _ => fun
  | [d1, d2] => { results := [.lit (.bool true)], args := [d1, d2] }
  | _ => none }
def solveTellsRow : OpenClaim := { program := "ytkpecagkpjabdaa", sum := "de9d75adc72fc2289ec60aabd342dbdb9492e4e82c8accae51827f90edb85961", func := "ninepins/ninepinslaw.SolveTells", spec := "solveTells", unfollowed := true, recurses := true, apart := false }
def SolveTellsSaid : Prop := solveTellsRow.holds Try.pinned (OpenSpec.ofChange solveTellsSpec)

/-- ITS FALSE NEIGHBOUR: 'it returns false'. Refute it at one input. -/
def solveTellsWrong : ChangeSpec := { name := "solveTells", fn := fun _ => fun
  | [d1, d2] => { results := [.lit (.bool false)], args := [d1, d2] }
  | _ => none }
def SolveTellsWrongFalsely : Prop := solveTellsRow.holds Try.pinned (OpenSpec.ofChange solveTellsWrong)

/-- 'ninepinskeep.SolveSums': WHATEVER THE INPUT: true; the input reads as it did. -/
def solveSumsSpec : ChangeSpec := { name := "solveSums", fn := fun _ => fun
  | [d1, d2] => { results := [.lit (.bool true)], args := [d1, d2] }
  | _ => none }
def solveSumsRow : OpenClaim := { program := "ytkpecagkpjabdaa", sum := "de9d75adc72fc2289ec60aabd342dbdb9492e4e82c8accae51827f90edb85961", func := "ninepins/ninepinskeep.SolveSums", spec := "solveSums", apart := false }
def SolveSumsSaid : Prop := solveSumsRow.holds Try.pinned (OpenSpec.ofChange solveSumsSpec)

/-- ITS FALSE NEIGHBOUR: 'it returns false'. Refute it at one input. -/
def solveSumsWrong : ChangeSpec := { name := "solveSums", fn := fun _ => fun
  | [d1, d2] => { results := [.lit (.bool false)], args := [d1, d2] }
  | _ => none }
def SolveSumsWrongFalsely : Prop := solveSumsRow.holds Try.pinned (OpenSpec.ofChange solveSumsWrong)

/-- 'ninepinskeep.SolveParts': WHATEVER THE INPUT: true; the input reads as it did. -/
def solvePartsSpec : ChangeSpec := { name := "solveParts", fn := fun _ => fun
  | [d1, d2] => { results := [.lit (.bool true)], args := [d1, d2] }
  | _ => none }
def solvePartsRow : OpenClaim := { program := "ytkpecagkpjabdaa", sum := "de9d75adc72fc2289ec60aabd342dbdb9492e4e82c8accae51827f90edb85961", func := "ninepins/ninepinskeep.SolveParts", spec := "solveParts", apart := false }
def SolvePartsSaid : Prop := solvePartsRow.holds Try.pinned (OpenSpec.ofChange solvePartsSpec)

/-- ITS FALSE NEIGHBOUR: 'it returns false'. Refute it at one input. -/
def solvePartsWrong : ChangeSpec := { name := "solveParts", fn := fun _ => fun
  | [d1, d2] => { results := [.lit (.bool false)], args := [d1, d2] }
  | _ => none }
def SolvePartsWrongFalsely : Prop := solvePartsRow.holds Try.pinned (OpenSpec.ofChange solvePartsWrong)

/-- 'ninepinskeep.SolveTurned': WHATEVER THE INPUT: true; the input reads as it did. -/
def solveTurnedSpec : ChangeSpec := { name := "solveTurned", fn := fun _ => fun
  | [d1, d2] => { results := [.lit (.bool true)], args := [d1, d2] }
  | _ => none }
def solveTurnedRow : OpenClaim := { program := "ytkpecagkpjabdaa", sum := "de9d75adc72fc2289ec60aabd342dbdb9492e4e82c8accae51827f90edb85961", func := "ninepins/ninepinskeep.SolveTurned", spec := "solveTurned", unfollowed := true, recurses := true, apart := false }
def SolveTurnedSaid : Prop := solveTurnedRow.holds Try.pinned (OpenSpec.ofChange solveTurnedSpec)

/-- ITS FALSE NEIGHBOUR: 'it returns false'. Refute it at one input. -/
def solveTurnedWrong : ChangeSpec := { name := "solveTurned", fn := fun _ => fun
  | [d1, d2] => { results := [.lit (.bool false)], args := [d1, d2] }
  | _ => none }
def SolveTurnedWrongFalsely : Prop := solveTurnedRow.holds Try.pinned (OpenSpec.ofChange solveTurnedWrong)

/-- 'ninepinslaw.SolveWalls': WHATEVER THE INPUT: true; the input reads as it did. -/
def solveWallsSpec : ChangeSpec := { name := "solveWalls", fn := fun _ => fun
  | [d1, d2, d3, d4, d5] => { results := [.lit (.bool true)], args := [d1, d2, d3, d4, d5] }
  | _ => none }
def solveWallsRow : OpenClaim := { program := "ytkpecagkpjabdaa", sum := "de9d75adc72fc2289ec60aabd342dbdb9492e4e82c8accae51827f90edb85961", func := "ninepins/ninepinslaw.SolveWalls", spec := "solveWalls", unfollowed := true, recurses := true, apart := false }
def SolveWallsSaid : Prop := solveWallsRow.holds Try.pinned (OpenSpec.ofChange solveWallsSpec)

/-- ITS FALSE NEIGHBOUR: 'it returns false'. Refute it at one input. -/
def solveWallsWrong : ChangeSpec := { name := "solveWalls", fn := fun _ => fun
  | [d1, d2, d3, d4, d5] => { results := [.lit (.bool false)], args := [d1, d2, d3, d4, d5] }
  | _ => none }
def SolveWallsWrongFalsely : Prop := solveWallsRow.holds Try.pinned (OpenSpec.ofChange solveWallsWrong)

/-- 'ninepinskeep.SolveWithin': WHATEVER THE INPUT: true; the input reads as it did. -/
def solveWithinSpec : ChangeSpec := { name := "solveWithin", fn := fun _ => fun
  | [d1, d2, d3, d4, d5] => { results := [.lit (.bool true)], args := [d1, d2, d3, d4, d5] }
  | _ => none }
def solveWithinRow : OpenClaim := { program := "ytkpecagkpjabdaa", sum := "de9d75adc72fc2289ec60aabd342dbdb9492e4e82c8accae51827f90edb85961", func := "ninepins/ninepinskeep.SolveWithin", spec := "solveWithin", apart := false }
def SolveWithinSaid : Prop := solveWithinRow.holds Try.pinned (OpenSpec.ofChange solveWithinSpec)

/-- ITS FALSE NEIGHBOUR: 'it returns false'. Refute it at one input. -/
def solveWithinWrong : ChangeSpec := { name := "solveWithin", fn := fun _ => fun
  | [d1, d2, d3, d4, d5] => { results := [.lit (.bool false)], args := [d1, d2, d3, d4, d5] }
  | _ => none }
def SolveWithinWrongFalsely : Prop := solveWithinRow.holds Try.pinned (OpenSpec.ofChange solveWithinWrong)

/-- 'ninepinskeep.StoreThere': WHATEVER THE INPUT: true; the input reads as it did. -/
def storeThereSpec : ChangeSpec := { name := "storeThere", fn := fun _ => fun
  | [d1, d2, d3, d4] => { results := [.lit (.bool true)], args := [d1, d2, d3, d4] }
  | _ => none }
def storeThereRow : OpenClaim := { program := "ytkpecagkpjabdaa", sum := "de9d75adc72fc2289ec60aabd342dbdb9492e4e82c8accae51827f90edb85961", func := "ninepins/ninepinskeep.StoreThere", spec := "storeThere", inPlace := ["slices.overlaps[ninepins/api.Table]"], unfollowed := true, recurses := true, apart := false }
def StoreThereSaid : Prop := storeThereRow.holds Try.pinned (OpenSpec.ofChange storeThereSpec)

/-- ITS FALSE NEIGHBOUR: 'it returns false'. Refute it at one input. -/
def storeThereWrong : ChangeSpec := { name := "storeThere", fn := fun _ => fun
  | [d1, d2, d3, d4] => { results := [.lit (.bool false)], args := [d1, d2, d3, d4] }
  | _ => none }
def StoreThereWrongFalsely : Prop := storeThereRow.holds Try.pinned (OpenSpec.ofChange storeThereWrong)

/-- 'ninepinslaw.StoreTurns': WHATEVER THE INPUT: true; the input reads as it did. -/
def storeTurnsSpec : ChangeSpec := { name := "storeTurns", fn := fun _ => fun
  | [d1, d2, d3, d4] => { results := [.lit (.bool true)], args := [d1, d2, d3, d4] }
  | _ => none }
def storeTurnsRow : OpenClaim := { program := "ytkpecagkpjabdaa", sum := "de9d75adc72fc2289ec60aabd342dbdb9492e4e82c8accae51827f90edb85961", func := "ninepins/ninepinslaw.StoreTurns", spec := "storeTurns", inPlace := ["slices.overlaps[ninepins/api.Table]"], unfollowed := true, recurses := true, apart := false }
def StoreTurnsSaid : Prop := storeTurnsRow.holds Try.pinned (OpenSpec.ofChange storeTurnsSpec)

/-- ITS FALSE NEIGHBOUR: 'it returns false'. Refute it at one input. -/
def storeTurnsWrong : ChangeSpec := { name := "storeTurns", fn := fun _ => fun
  | [d1, d2, d3, d4] => { results := [.lit (.bool false)], args := [d1, d2, d3, d4] }
  | _ => none }
def StoreTurnsWrongFalsely : Prop := storeTurnsRow.holds Try.pinned (OpenSpec.ofChange storeTurnsWrong)

/- THE SECOND FORM. 'bulk': how many values and letters a reading holds, each counted each time it is reached (what is shared counts as often as it is met; a slice's spare places count too). A statement '..UptoSaid' is the law's where the arguments, and the package variables that the reading takes, are together of bulk at most 1048576: NARROWER than '..Said'. Prove '..Said' where nothing that the law and all that it calls make is longer than what came in: it says more and counts as full. Else prove '..UptoSaid'. A law counts once. -/
mutual
def uptoBulk {H : Type} : DataW H → Nat
  | .lit (.string bytes) => bytes.length + 1
  | .lit _ => 1
  | .nil => 1
  | .ptr d => uptoBulk d + 1
  | .slice elems spare => uptoBulkAll elems + uptoBulkAll spare + 1
  | .agg parts => uptoBulkAll parts + 1
  | .iface _ d => uptoBulk d + 1
  | .map entries => uptoBulkEntries entries + 1
  | .held _ => 1
def uptoBulkAll {H : Type} : List (DataW H) → Nat
  | [] => 0
  | d :: r => uptoBulk d + uptoBulkAll r
def uptoBulkEntries {H : Type} : List (Lit × DataW H) → Nat
  | [] => 0
  | x :: r => uptoBulkEntry x + uptoBulkEntries r
def uptoBulkEntry {H : Type} : Lit × DataW H → Nat
  | (.string bytes, d) => bytes.length + uptoBulk d + 1
  | (_, d) => uptoBulk d + 1
 end
def uptoSmall : (H : Type) → List (DataW H) → Bool := fun _ ds => decide (uptoBulkAll ds ≤ 1048576)
def OpenSpec.upto (s : _root_.Go.ChangeSpec) : _root_.Go.OpenSpec := { _root_.Go.OpenSpec.ofChange s with cond := some uptoSmall }

/-- 'ninepinslaw.Names', WHERE WHAT IT READS IS OF BULK AT MOST 1048576: true; the input reads as it did. -/
def namesUptoRow : OpenClaim := { program := "ytkpecagkpjabdaa", sum := "de9d75adc72fc2289ec60aabd342dbdb9492e4e82c8accae51827f90edb85961", func := "ninepins/ninepinslaw.Names", spec := "names", apart := false, narrowed := true }
def NamesUptoSaid : Prop := namesUptoRow.holds Try.pinned (OpenSpec.upto namesSpec)

/-- 'ninepinslaw.FixTells', WHERE WHAT IT READS IS OF BULK AT MOST 1048576: true; the input reads as it did. -/
def fixTellsUptoRow : OpenClaim := { program := "ytkpecagkpjabdaa", sum := "de9d75adc72fc2289ec60aabd342dbdb9492e4e82c8accae51827f90edb85961", func := "ninepins/ninepinslaw.FixTells", spec := "fixTells", unfollowed := true, recurses := true, apart := false, narrowed := true }
def FixTellsUptoSaid : Prop := fixTellsUptoRow.holds Try.pinned (OpenSpec.upto fixTellsSpec)

/-- 'ninepinskeep.FixKeeps', WHERE WHAT IT READS IS OF BULK AT MOST 1048576: true; the input reads as it did. -/
def fixKeepsUptoRow : OpenClaim := { program := "ytkpecagkpjabdaa", sum := "de9d75adc72fc2289ec60aabd342dbdb9492e4e82c8accae51827f90edb85961", func := "ninepins/ninepinskeep.FixKeeps", spec := "fixKeeps", apart := false, narrowed := true }
def FixKeepsUptoSaid : Prop := fixKeepsUptoRow.holds Try.pinned (OpenSpec.upto fixKeepsSpec)

/-- 'ninepinslaw.SolveTells', WHERE WHAT IT READS IS OF BULK AT MOST 1048576: true; the input reads as it did. -/
def solveTellsUptoRow : OpenClaim := { program := "ytkpecagkpjabdaa", sum := "de9d75adc72fc2289ec60aabd342dbdb9492e4e82c8accae51827f90edb85961", func := "ninepins/ninepinslaw.SolveTells", spec := "solveTells", unfollowed := true, recurses := true, apart := false, narrowed := true }
def SolveTellsUptoSaid : Prop := solveTellsUptoRow.holds Try.pinned (OpenSpec.upto solveTellsSpec)

/-- 'ninepinskeep.SolveSums', WHERE WHAT IT READS IS OF BULK AT MOST 1048576: true; the input reads as it did. -/
def solveSumsUptoRow : OpenClaim := { program := "ytkpecagkpjabdaa", sum := "de9d75adc72fc2289ec60aabd342dbdb9492e4e82c8accae51827f90edb85961", func := "ninepins/ninepinskeep.SolveSums", spec := "solveSums", apart := false, narrowed := true }
def SolveSumsUptoSaid : Prop := solveSumsUptoRow.holds Try.pinned (OpenSpec.upto solveSumsSpec)

/-- 'ninepinskeep.SolveParts', WHERE WHAT IT READS IS OF BULK AT MOST 1048576: true; the input reads as it did. -/
def solvePartsUptoRow : OpenClaim := { program := "ytkpecagkpjabdaa", sum := "de9d75adc72fc2289ec60aabd342dbdb9492e4e82c8accae51827f90edb85961", func := "ninepins/ninepinskeep.SolveParts", spec := "solveParts", apart := false, narrowed := true }
def SolvePartsUptoSaid : Prop := solvePartsUptoRow.holds Try.pinned (OpenSpec.upto solvePartsSpec)

/-- 'ninepinskeep.SolveTurned', WHERE WHAT IT READS IS OF BULK AT MOST 1048576: true; the input reads as it did. -/
def solveTurnedUptoRow : OpenClaim := { program := "ytkpecagkpjabdaa", sum := "de9d75adc72fc2289ec60aabd342dbdb9492e4e82c8accae51827f90edb85961", func := "ninepins/ninepinskeep.SolveTurned", spec := "solveTurned", unfollowed := true, recurses := true, apart := false, narrowed := true }
def SolveTurnedUptoSaid : Prop := solveTurnedUptoRow.holds Try.pinned (OpenSpec.upto solveTurnedSpec)

/-- 'ninepinslaw.SolveWalls', WHERE WHAT IT READS IS OF BULK AT MOST 1048576: true; the input reads as it did. -/
def solveWallsUptoRow : OpenClaim := { program := "ytkpecagkpjabdaa", sum := "de9d75adc72fc2289ec60aabd342dbdb9492e4e82c8accae51827f90edb85961", func := "ninepins/ninepinslaw.SolveWalls", spec := "solveWalls", unfollowed := true, recurses := true, apart := false, narrowed := true }
def SolveWallsUptoSaid : Prop := solveWallsUptoRow.holds Try.pinned (OpenSpec.upto solveWallsSpec)

/-- 'ninepinskeep.SolveWithin', WHERE WHAT IT READS IS OF BULK AT MOST 1048576: true; the input reads as it did. -/
def solveWithinUptoRow : OpenClaim := { program := "ytkpecagkpjabdaa", sum := "de9d75adc72fc2289ec60aabd342dbdb9492e4e82c8accae51827f90edb85961", func := "ninepins/ninepinskeep.SolveWithin", spec := "solveWithin", apart := false, narrowed := true }
def SolveWithinUptoSaid : Prop := solveWithinUptoRow.holds Try.pinned (OpenSpec.upto solveWithinSpec)

/-- 'ninepinskeep.StoreThere', WHERE WHAT IT READS IS OF BULK AT MOST 1048576: true; the input reads as it did. -/
def storeThereUptoRow : OpenClaim := { program := "ytkpecagkpjabdaa", sum := "de9d75adc72fc2289ec60aabd342dbdb9492e4e82c8accae51827f90edb85961", func := "ninepins/ninepinskeep.StoreThere", spec := "storeThere", inPlace := ["slices.overlaps[ninepins/api.Table]"], unfollowed := true, recurses := true, apart := false, narrowed := true }
def StoreThereUptoSaid : Prop := storeThereUptoRow.holds Try.pinned (OpenSpec.upto storeThereSpec)

/-- 'ninepinslaw.StoreTurns', WHERE WHAT IT READS IS OF BULK AT MOST 1048576: true; the input reads as it did. -/
def storeTurnsUptoRow : OpenClaim := { program := "ytkpecagkpjabdaa", sum := "de9d75adc72fc2289ec60aabd342dbdb9492e4e82c8accae51827f90edb85961", func := "ninepins/ninepinslaw.StoreTurns", spec := "storeTurns", inPlace := ["slices.overlaps[ninepins/api.Table]"], unfollowed := true, recurses := true, apart := false, narrowed := true }
def StoreTurnsUptoSaid : Prop := storeTurnsUptoRow.holds Try.pinned (OpenSpec.upto storeTurnsSpec)

end Rows
end Go.Proofs.Ytkpecagkpjabdaa
