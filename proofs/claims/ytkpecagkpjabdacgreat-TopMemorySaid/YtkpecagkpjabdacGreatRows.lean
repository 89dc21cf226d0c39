/-
  No cell of these rows narrows 'for every input' (looked for: loops, veiled, ifaces, maps, wideKeys, modest, calm, conditions, laid).
  DERIVED. THE GIVEN ROWS OF THIS SEAT. 10 by the template 'for every input the law returns true; each argument reads behind the call as it read before'; 0 by the template 'total and deterministic' (their statements: YtkpecagkpjabdacGreatTotals.lean).
  GIVEN WITH THE SEED: the statements are not yours to turn. If you find one false, say at which input.
  Laid BY PROGRAM, IN A SANDBOX (cutbox-rows.mjs): the forced cells as the released guide's own fill.sh prints them over the translation 546500433e80b74a… (all of the seat's roots in one cut). By AI agents, Wed Nov 11 2026. No macro, syntax, notation, axiom, sorry.
-/
import Derived.Test.YtkpecagkpjabdacGreatChecked
import GoSem.Claim
import GoSem.ClaimJoined
import GoSem.ClaimMapViews
import Derived.JoinedTies
import Derived.KernelRfl
namespace Go.Proofs.YtkpecagkpjabdacGreat
/- THE CELL 'sum', in the pinned program and in every row, IS THE sha256 OF THE DUMP (.gsa) THAT YtkpecagkpjabdacGreatProg.lean LOADS. Nothing in Lean hashes anything: it is a label: what it is worth is what the hold of that sum in a sandbox is worth. -/
noncomputable def Tryz.pinned : Pinned := { name := "ytkpecagkpjabdacgreat", sum := "546500433e80b74aa69c41129c9a691150ddc6bdfe6e3e00ff978f7e4948b0c0", checked := Tryz.checked }
namespace Rows
def none {H : Type} : Left H := { results := [], args := [] }

/-- 'ninepinslaw.GameNil': WHATEVER THE INPUT: true; the input reads as it did. -/
def gameNilSpec : ChangeSpec := { name := "gameNil", fn := fun _ => fun
  | [d] => { results := [.lit (.bool true)], args := [d] }
  | _ => none }
def gameNilRow : OpenClaim := { program := "ytkpecagkpjabdacgreat", sum := "546500433e80b74aa69c41129c9a691150ddc6bdfe6e3e00ff978f7e4948b0c0", func := "ninepins/ninepinslaw.GameNil", spec := "gameNil", inPlace := ["slices.overlaps[ninepins/api.Table]"], unfollowed := true, recurses := true, apart := false }
def GameNilSaid : Prop := gameNilRow.holds Tryz.pinned (OpenSpec.ofChange gameNilSpec)

/-- ITS FALSE NEIGHBOUR: 'it returns false'. Refute it at one input. -/
def gameNilWrong : ChangeSpec := { name := "gameNil", fn := fun _ => fun
  | [d] => { results := [.lit (.bool false)], args := [d] }
  | _ => none }
def GameNilWrongFalsely : Prop := gameNilRow.holds Tryz.pinned (OpenSpec.ofChange gameNilWrong)

/-- 'ninepinslaw.GamePlays': WHATEVER THE INPUT: true; the input reads as it did. -/
def gamePlaysSpec : ChangeSpec := { name := "gamePlays", fn := fun _ => fun
  | [d1, d2, d3, d4] => { results := [.lit (.bool true)], args := [d1, d2, d3, d4] }
  | _ => none }
def gamePlaysRow : OpenClaim := { program := "ytkpecagkpjabdacgreat", sum := "546500433e80b74aa69c41129c9a691150ddc6bdfe6e3e00ff978f7e4948b0c0", func := "ninepins/ninepinslaw.GamePlays", spec := "gamePlays", inPlace := ["slices.overlaps[ninepins/api.Table]"], unfollowed := true, recurses := true, apart := false }
def GamePlaysSaid : Prop := gamePlaysRow.holds Tryz.pinned (OpenSpec.ofChange gamePlaysSpec)

/-- ITS FALSE NEIGHBOUR: 'it returns false'. Refute it at one input. -/
def gamePlaysWrong : ChangeSpec := { name := "gamePlays", fn := fun _ => fun
  | [d1, d2, d3, d4] => { results := [.lit (.bool false)], args := [d1, d2, d3, d4] }
  | _ => none }
def GamePlaysWrongFalsely : Prop := gamePlaysRow.holds Tryz.pinned (OpenSpec.ofChange gamePlaysWrong)

/-- 'ninepinslaw.GameRuns': WHATEVER THE INPUT: true; the input reads as it did. -/
def gameRunsSpec : ChangeSpec := { name := "gameRuns", fn := fun _ => fun
  | [d1, d2, d3, d4] => { results := [.lit (.bool true)], args := [d1, d2, d3, d4] }
  | _ => none }
def gameRunsRow : OpenClaim := { program := "ytkpecagkpjabdacgreat", sum := "546500433e80b74aa69c41129c9a691150ddc6bdfe6e3e00ff978f7e4948b0c0", func := "ninepins/ninepinslaw.GameRuns", spec := "gameRuns", inPlace := ["slices.overlaps[ninepins/api.Table]"], unfollowed := true, recurses := true, apart := false }
def GameRunsSaid : Prop := gameRunsRow.holds Tryz.pinned (OpenSpec.ofChange gameRunsSpec)

/-- ITS FALSE NEIGHBOUR: 'it returns false'. Refute it at one input. -/
def gameRunsWrong : ChangeSpec := { name := "gameRuns", fn := fun _ => fun
  | [d1, d2, d3, d4] => { results := [.lit (.bool false)], args := [d1, d2, d3, d4] }
  | _ => none }
def GameRunsWrongFalsely : Prop := gameRunsRow.holds Tryz.pinned (OpenSpec.ofChange gameRunsWrong)

/-- 'ninepinstop.TopSteps': WHATEVER THE INPUT: true; the input reads as it did. -/
def topStepsSpec : ChangeSpec := { name := "topSteps", fn := fun _ => fun
  | [d1, d2, d3, d4, d5] => { results := [.lit (.bool true)], args := [d1, d2, d3, d4, d5] }
  | _ => none }
def topStepsRow : OpenClaim := { program := "ytkpecagkpjabdacgreat", sum := "546500433e80b74aa69c41129c9a691150ddc6bdfe6e3e00ff978f7e4948b0c0", func := "ninepins/ninepinstop.TopSteps", spec := "topSteps", inPlace := ["slices.overlaps[ninepins/api.Table]"], unfollowed := true, recurses := true, apart := false }
def TopStepsSaid : Prop := topStepsRow.holds Tryz.pinned (OpenSpec.ofChange topStepsSpec)

/-- ITS FALSE NEIGHBOUR: 'it returns false'. Refute it at one input. -/
def topStepsWrong : ChangeSpec := { name := "topSteps", fn := fun _ => fun
  | [d1, d2, d3, d4, d5] => { results := [.lit (.bool false)], args := [d1, d2, d3, d4, d5] }
  | _ => none }
def TopStepsWrongFalsely : Prop := topStepsRow.holds Tryz.pinned (OpenSpec.ofChange topStepsWrong)

/-- 'ninepinstop.TopAsks': WHATEVER THE INPUT: true; the input reads as it did. -/
def topAsksSpec : ChangeSpec := { name := "topAsks", fn := fun _ => fun
  | [d1, d2, d3, d4] => { results := [.lit (.bool true)], args := [d1, d2, d3, d4] }
  | _ => none }
def topAsksRow : OpenClaim := { program := "ytkpecagkpjabdacgreat", sum := "546500433e80b74aa69c41129c9a691150ddc6bdfe6e3e00ff978f7e4948b0c0", func := "ninepins/ninepinstop.TopAsks", spec := "topAsks", inPlace := ["slices.overlaps[ninepins/api.Table]"], unfollowed := true, recurses := true, apart := false }
def TopAsksSaid : Prop := topAsksRow.holds Tryz.pinned (OpenSpec.ofChange topAsksSpec)

/-- ITS FALSE NEIGHBOUR: 'it returns false'. Refute it at one input. -/
def topAsksWrong : ChangeSpec := { name := "topAsks", fn := fun _ => fun
  | [d1, d2, d3, d4] => { results := [.lit (.bool false)], args := [d1, d2, d3, d4] }
  | _ => none }
def TopAsksWrongFalsely : Prop := topAsksRow.holds Tryz.pinned (OpenSpec.ofChange topAsksWrong)

/-- 'ninepinstop.TopKills': WHATEVER THE INPUT: true; the input reads as it did. -/
def topKillsSpec : ChangeSpec := { name := "topKills", fn := fun _ => fun
  | [d1, d2, d3, d4] => { results := [.lit (.bool true)], args := [d1, d2, d3, d4] }
  | _ => none }
def topKillsRow : OpenClaim := { program := "ytkpecagkpjabdacgreat", sum := "546500433e80b74aa69c41129c9a691150ddc6bdfe6e3e00ff978f7e4948b0c0", func := "ninepins/ninepinstop.TopKills", spec := "topKills", inPlace := ["slices.overlaps[ninepins/api.Table]"], unfollowed := true, recurses := true, apart := false }
def TopKillsSaid : Prop := topKillsRow.holds Tryz.pinned (OpenSpec.ofChange topKillsSpec)

/-- ITS FALSE NEIGHBOUR: 'it returns false'. Refute it at one input. -/
def topKillsWrong : ChangeSpec := { name := "topKills", fn := fun _ => fun
  | [d1, d2, d3, d4] => { results := [.lit (.bool false)], args := [d1, d2, d3, d4] }
  | _ => none }
def TopKillsWrongFalsely : Prop := topKillsRow.holds Tryz.pinned (OpenSpec.ofChange topKillsWrong)

/-- 'ninepinstop.TopRefused': WHATEVER THE INPUT: true; the input reads as it did. -/
def topRefusedSpec : ChangeSpec := { name := "topRefused", fn := fun _ => fun
  | [d1, d2, d3, d4] => { results := [.lit (.bool true)], args := [d1, d2, d3, d4] }
  | _ => none }
def topRefusedRow : OpenClaim := { program := "ytkpecagkpjabdacgreat", sum := "546500433e80b74aa69c41129c9a691150ddc6bdfe6e3e00ff978f7e4948b0c0", func := "ninepins/ninepinstop.TopRefused", spec := "topRefused", inPlace := ["slices.overlaps[ninepins/api.Table]"], unfollowed := true, recurses := true, apart := false }
def TopRefusedSaid : Prop := topRefusedRow.holds Tryz.pinned (OpenSpec.ofChange topRefusedSpec)

/-- ITS FALSE NEIGHBOUR: 'it returns false'. Refute it at one input. -/
def topRefusedWrong : ChangeSpec := { name := "topRefused", fn := fun _ => fun
  | [d1, d2, d3, d4] => { results := [.lit (.bool false)], args := [d1, d2, d3, d4] }
  | _ => none }
def TopRefusedWrongFalsely : Prop := topRefusedRow.holds Tryz.pinned (OpenSpec.ofChange topRefusedWrong)

/-- 'ninepinstop.TopMemory': WHATEVER THE INPUT: true; the input reads as it did. -/
def topMemorySpec : ChangeSpec := { name := "topMemory", fn := fun _ => fun
  | [d1, d2, d3] => { results := [.lit (.bool true)], args := [d1, d2, d3] }
  | _ => none }
def topMemoryRow : OpenClaim := { program := "ytkpecagkpjabdacgreat", sum := "546500433e80b74aa69c41129c9a691150ddc6bdfe6e3e00ff978f7e4948b0c0", func := "ninepins/ninepinstop.TopMemory", spec := "topMemory", inPlace := ["slices.overlaps[ninepins/api.Table]"], unfollowed := true, recurses := true, apart := false }
def TopMemorySaid : Prop := topMemoryRow.holds Tryz.pinned (OpenSpec.ofChange topMemorySpec)

/-- ITS FALSE NEIGHBOUR: 'it returns false'. Refute it at one input. -/
def topMemoryWrong : ChangeSpec := { name := "topMemory", fn := fun _ => fun
  | [d1, d2, d3] => { results := [.lit (.bool false)], args := [d1, d2, d3] }
  | _ => none }
def TopMemoryWrongFalsely : Prop := topMemoryRow.holds Tryz.pinned (OpenSpec.ofChange topMemoryWrong)

/-- 'ninepinstop.TopEnds': WHATEVER THE INPUT: true; the input reads as it did. -/
def topEndsSpec : ChangeSpec := { name := "topEnds", fn := fun _ => fun
  | [d1, d2, d3, d4] => { results := [.lit (.bool true)], args := [d1, d2, d3, d4] }
  | _ => none }
def topEndsRow : OpenClaim := { program := "ytkpecagkpjabdacgreat", sum := "546500433e80b74aa69c41129c9a691150ddc6bdfe6e3e00ff978f7e4948b0c0", func := "ninepins/ninepinstop.TopEnds", spec := "topEnds", inPlace := ["slices.overlaps[ninepins/api.Table]"], unfollowed := true, recurses := true, apart := false }
def TopEndsSaid : Prop := topEndsRow.holds Tryz.pinned (OpenSpec.ofChange topEndsSpec)

/-- ITS FALSE NEIGHBOUR: 'it returns false'. Refute it at one input. -/
def topEndsWrong : ChangeSpec := { name := "topEnds", fn := fun _ => fun
  | [d1, d2, d3, d4] => { results := [.lit (.bool false)], args := [d1, d2, d3, d4] }
  | _ => none }
def TopEndsWrongFalsely : Prop := topEndsRow.holds Tryz.pinned (OpenSpec.ofChange topEndsWrong)

/-- 'ninepinstop.TopRuns': WHATEVER THE INPUT: true; the input reads as it did. -/
def topRunsSpec : ChangeSpec := { name := "topRuns", fn := fun _ => fun
  | [d1, d2, d3, d4] => { results := [.lit (.bool true)], args := [d1, d2, d3, d4] }
  | _ => none }
def topRunsRow : OpenClaim := { program := "ytkpecagkpjabdacgreat", sum := "546500433e80b74aa69c41129c9a691150ddc6bdfe6e3e00ff978f7e4948b0c0", func := "ninepins/ninepinstop.TopRuns", spec := "topRuns", inPlace := ["slices.overlaps[ninepins/api.Table]"], unfollowed := true, recurses := true, apart := false }
def TopRunsSaid : Prop := topRunsRow.holds Tryz.pinned (OpenSpec.ofChange topRunsSpec)

/-- ITS FALSE NEIGHBOUR: 'it returns false'. Refute it at one input. -/
def topRunsWrong : ChangeSpec := { name := "topRuns", fn := fun _ => fun
  | [d1, d2, d3, d4] => { results := [.lit (.bool false)], args := [d1, d2, d3, d4] }
  | _ => none }
def TopRunsWrongFalsely : Prop := topRunsRow.holds Tryz.pinned (OpenSpec.ofChange topRunsWrong)

/- THE SECOND FORM. 'bulk': how many values and letters a reading holds, each counted each time it is reached (what is shared counts as often as it is met; a slice's spare places count too). A statement '..UptoSaid' is the law's where the arguments, and the package variables that the reading takes, are together of bulk at most 1048576: NARROWER than '..Said'. Prove '..Said' where nothing that the law and all that it calls make is longer than what came in: it says more and counts as full. Else prove '..UptoSaid'. A law counts once. -/
mutual
def uptoBulk {H : Type} : DataW H → Nat
  | .lit (.string bytes) => bytes.length + 1
  | .lit _ => 1
  | .nil => 1
  | .ptr d => uptoBulk d + 1
  | .slice elems spare => uptoBulkAll elems + uptoBulkAll spare + 1
  | .agg parts => uptoBulkAll parts + 1
  | .iface _ d => uptoBulk d + 1
  | .map entries => uptoBulkEntries entries + 1
  | .held _ => 1
def uptoBulkAll {H : Type} : List (DataW H) → Nat
  | [] => 0
  | d :: r => uptoBulk d + uptoBulkAll r
def uptoBulkEntries {H : Type} : List (Lit × DataW H) → Nat
  | [] => 0
  | x :: r => uptoBulkEntry x + uptoBulkEntries r
def uptoBulkEntry {H : Type} : Lit × DataW H → Nat
  | (.string bytes, d) => bytes.length + uptoBulk d + 1
  | (_, d) => uptoBulk d + 1
 end
def uptoSmall : (H : Type) → List (DataW H) → Bool := fun _ ds => decide (uptoBulkAll ds ≤ 1048576)
def OpenSpec.upto (s : _root_.Go.ChangeSpec) : _root_.Go.OpenSpec := { _root_.Go.OpenSpec.ofChange s with cond := some uptoSmall }

/-- 'ninepinslaw.GameNil', WHERE WHAT IT READS IS OF BULK AT MOST 1048576: true; the input reads as it did. -/
def gameNilUptoRow : OpenClaim := { program := "ytkpecagkpjabdacgreat", sum := "546500433e80b74aa69c41129c9a691150ddc6bdfe6e3e00ff978f7e4948b0c0", func := "ninepins/ninepinslaw.GameNil", spec := "gameNil", inPlace := ["slices.overlaps[ninepins/api.Table]"], unfollowed := true, recurses := true, apart := false, narrowed := true }
def GameNilUptoSaid : Prop := gameNilUptoRow.holds Tryz.pinned (OpenSpec.upto gameNilSpec)

/-- 'ninepinslaw.GamePlays', WHERE WHAT IT READS IS OF BULK AT MOST 1048576: true; the input reads as it did. -/
def gamePlaysUptoRow : OpenClaim := { program := "ytkpecagkpjabdacgreat", sum := "546500433e80b74aa69c41129c9a691150ddc6bdfe6e3e00ff978f7e4948b0c0", func := "ninepins/ninepinslaw.GamePlays", spec := "gamePlays", inPlace := ["slices.overlaps[ninepins/api.Table]"], unfollowed := true, recurses := true, apart := false, narrowed := true }
def GamePlaysUptoSaid : Prop := gamePlaysUptoRow.holds Tryz.pinned (OpenSpec.upto gamePlaysSpec)

/-- 'ninepinslaw.GameRuns', WHERE WHAT IT READS IS OF BULK AT MOST 1048576: true; the input reads as it did. -/
def gameRunsUptoRow : OpenClaim := { program := "ytkpecagkpjabdacgreat", sum := "546500433e80b74aa69c41129c9a691150ddc6bdfe6e3e00ff978f7e4948b0c0", func := "ninepins/ninepinslaw.GameRuns", spec := "gameRuns", inPlace := ["slices.overlaps[ninepins/api.Table]"], unfollowed := true, recurses := true, apart := false, narrowed := true }
def GameRunsUptoSaid : Prop := gameRunsUptoRow.holds Tryz.pinned (OpenSpec.upto gameRunsSpec)

/-- 'ninepinstop.TopSteps', WHERE WHAT IT READS IS OF BULK AT MOST 1048576: true; the input reads as it did. -/
def topStepsUptoRow : OpenClaim := { program := "ytkpecagkpjabdacgreat", sum := "546500433e80b74aa69c41129c9a691150ddc6bdfe6e3e00ff978f7e4948b0c0", func := "ninepins/ninepinstop.TopSteps", spec := "topSteps", inPlace := ["slices.overlaps[ninepins/api.Table]"], unfollowed := true, recurses := true, apart := false, narrowed := true }
def TopStepsUptoSaid : Prop := topStepsUptoRow.holds Tryz.pinned (OpenSpec.upto topStepsSpec)

/-- 'ninepinstop.TopAsks', WHERE WHAT IT READS IS OF BULK AT MOST 1048576: true; the input reads as it did. -/
def topAsksUptoRow : OpenClaim := { program := "ytkpecagkpjabdacgreat", sum := "546500433e80b74aa69c41129c9a691150ddc6bdfe6e3e00ff978f7e4948b0c0", func := "ninepins/ninepinstop.TopAsks", spec := "topAsks", inPlace := ["slices.overlaps[ninepins/api.Table]"], unfollowed := true, recurses := true, apart := false, narrowed := true }
def TopAsksUptoSaid : Prop := topAsksUptoRow.holds Tryz.pinned (OpenSpec.upto topAsksSpec)

/-- 'ninepinstop.TopKills', WHERE WHAT IT READS IS OF BULK AT MOST 1048576: true; the input reads as it did. -/
def topKillsUptoRow : OpenClaim := { program := "ytkpecagkpjabdacgreat", sum := "546500433e80b74aa69c41129c9a691150ddc6bdfe6e3e00ff978f7e4948b0c0", func := "ninepins/ninepinstop.TopKills", spec := "topKills", inPlace := ["slices.overlaps[ninepins/api.Table]"], unfollowed := true, recurses := true, apart := false, narrowed := true }
def TopKillsUptoSaid : Prop := topKillsUptoRow.holds Tryz.pinned (OpenSpec.upto topKillsSpec)

/-- 'ninepinstop.TopRefused', WHERE WHAT IT READS IS OF BULK AT MOST 1048576: true; the input reads as it did. -/
def topRefusedUptoRow : OpenClaim := { program := "ytkpecagkpjabdacgreat", sum := "546500433e80b74aa69c41129c9a691150ddc6bdfe6e3e00ff978f7e4948b0c0", func := "ninepins/ninepinstop.TopRefused", spec := "topRefused", inPlace := ["slices.overlaps[ninepins/api.Table]"], unfollowed := true, recurses := true, apart := false, narrowed := true }
def TopRefusedUptoSaid : Prop := topRefusedUptoRow.holds Tryz.pinned (OpenSpec.upto topRefusedSpec)

/-- 'ninepinstop.TopMemory', WHERE WHAT IT READS IS OF BULK AT MOST 1048576: true; the input reads as it did. -/
def topMemoryUptoRow : OpenClaim := { program := "ytkpecagkpjabdacgreat", sum := "546500433e80b74aa69c41129c9a691150ddc6bdfe6e3e00ff978f7e4948b0c0", func := "ninepins/ninepinstop.TopMemory", spec := "topMemory", inPlace := ["slices.overlaps[ninepins/api.Table]"], unfollowed := true, recurses := true, apart := false, narrowed := true }
def TopMemoryUptoSaid : Prop := topMemoryUptoRow.holds Tryz.pinned (OpenSpec.upto topMemorySpec)

/-- 'ninepinstop.TopEnds', WHERE WHAT IT READS IS OF BULK AT MOST 1048576: true; the input reads as it did. -/
def topEndsUptoRow : OpenClaim := { program := "ytkpecagkpjabdacgreat", sum := "546500433e80b74aa69c41129c9a691150ddc6bdfe6e3e00ff978f7e4948b0c0", func := "ninepins/ninepinstop.TopEnds", spec := "topEnds", inPlace := ["slices.overlaps[ninepins/api.Table]"], unfollowed := true, recurses := true, apart := false, narrowed := true }
def TopEndsUptoSaid : Prop := topEndsUptoRow.holds Tryz.pinned (OpenSpec.upto topEndsSpec)

/-- 'ninepinstop.TopRuns', WHERE WHAT IT READS IS OF BULK AT MOST 1048576: true; the input reads as it did. -/
def topRunsUptoRow : OpenClaim := { program := "ytkpecagkpjabdacgreat", sum := "546500433e80b74aa69c41129c9a691150ddc6bdfe6e3e00ff978f7e4948b0c0", func := "ninepins/ninepinstop.TopRuns", spec := "topRuns", inPlace := ["slices.overlaps[ninepins/api.Table]"], unfollowed := true, recurses := true, apart := false, narrowed := true }
def TopRunsUptoSaid : Prop := topRunsUptoRow.holds Tryz.pinned (OpenSpec.upto topRunsSpec)

end Rows
end Go.Proofs.YtkpecagkpjabdacGreat
