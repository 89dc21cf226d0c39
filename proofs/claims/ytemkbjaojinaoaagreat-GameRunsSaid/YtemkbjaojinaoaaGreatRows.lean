/-
  No cell of these rows narrows 'for every input' (looked for: loops, veiled, ifaces, maps, wideKeys, modest, calm, conditions, laid).
  DERIVED. THE GIVEN ROWS OF THIS SEAT. 2 by the template 'for every input the law returns true; each argument reads behind the call as it read before'; 0 by the template 'total and deterministic' (their statements: YtemkbjaojinaoaaGreatTotals.lean).
  GIVEN WITH THE SEED: the statements are not yours to turn. If you find one false, say at which input.
  Laid BY PROGRAM, IN A SANDBOX (cutbox-rows.mjs): the forced cells as the released guide's own fill.sh prints them over the translation d727a5e906114a9c… (all of the seat's roots in one cut). By AI agents, Wed Nov 11 2026. No macro, syntax, notation, axiom, sorry.
-/
import Derived.Test.YtemkbjaojinaoaaGreatChecked
import GoSem.Claim
import GoSem.ClaimJoined
import GoSem.ClaimMapViews
import Derived.JoinedTies
import Derived.KernelRfl
namespace Go.Proofs.YtemkbjaojinaoaaGreat
/- THE CELL 'sum', in the pinned program and in every row, IS THE sha256 OF THE DUMP (.gsa) THAT YtemkbjaojinaoaaGreatProg.lean LOADS. Nothing in Lean hashes anything: it is a label: what it is worth is what the hold of that sum in a sandbox is worth. -/
noncomputable def Tryz.pinned : Pinned := { name := "ytemkbjaojinaoaagreat", sum := "d727a5e906114a9c4a106318fde890702b15628e5e83817e50417a71d74e63fe", checked := Tryz.checked }
namespace Rows
def none {H : Type} : Left H := { results := [], args := [] }

/-- 'ninepinslaw.GamePlays': WHATEVER THE INPUT: true; the input reads as it did. -/
def gamePlaysSpec : ChangeSpec := { name := "gamePlays", fn := fun _ => fun
  | [d1, d2, d3, d4] => { results := [.lit (.bool true)], args := [d1, d2, d3, d4] }
  | _ => none }
def gamePlaysRow : OpenClaim := { program := "ytemkbjaojinaoaagreat", sum := "d727a5e906114a9c4a106318fde890702b15628e5e83817e50417a71d74e63fe", func := "ninepins/ninepinslaw.GamePlays", spec := "gamePlays", inPlace := ["slices.overlaps[ninepins/api.Table]"], unfollowed := true, recurses := true, apart := false }
def GamePlaysSaid : Prop := gamePlaysRow.holds Tryz.pinned (OpenSpec.ofChange gamePlaysSpec)

/-- ITS FALSE NEIGHBOUR: 'it returns false'. Refute it at one input. -/
def gamePlaysWrong : ChangeSpec := { name := "gamePlays", fn := fun _ => fun
  | [d1, d2, d3, d4] => { results := [.lit (.bool false)], args := [d1, d2, d3, d4] }
  | _ => none }
def GamePlaysWrongFalsely : Prop := gamePlaysRow.holds Tryz.pinned (OpenSpec.ofChange gamePlaysWrong)

/-- 'ninepinslaw.GameRuns': WHATEVER THE INPUT: true; the input reads as it did. -/
def gameRunsSpec : ChangeSpec := { name := "gameRuns", fn := fun _ => fun
  | [d1, d2, d3, d4] => { results := [.lit (.bool true)], args := [d1, d2, d3, d4] }
  | _ => none }
def gameRunsRow : OpenClaim := { program := "ytemkbjaojinaoaagreat", sum := "d727a5e906114a9c4a106318fde890702b15628e5e83817e50417a71d74e63fe", func := "ninepins/ninepinslaw.GameRuns", spec := "gameRuns", inPlace := ["slices.overlaps[ninepins/api.Table]"], unfollowed := true, recurses := true, apart := false }
def GameRunsSaid : Prop := gameRunsRow.holds Tryz.pinned (OpenSpec.ofChange gameRunsSpec)

/-- ITS FALSE NEIGHBOUR: 'it returns false'. Refute it at one input. -/
def gameRunsWrong : ChangeSpec := { name := "gameRuns", fn := fun _ => fun
  | [d1, d2, d3, d4] => { results := [.lit (.bool false)], args := [d1, d2, d3, d4] }
  | _ => none }
def GameRunsWrongFalsely : Prop := gameRunsRow.holds Tryz.pinned (OpenSpec.ofChange gameRunsWrong)

/- THE SECOND FORM. 'bulk': how many values and letters a reading holds, each counted each time it is reached (what is shared counts as often as it is met; a slice's spare places count too). A statement '..UptoSaid' is the law's where the arguments, and the package variables that the reading takes, are together of bulk at most 1048576: NARROWER than '..Said'. Prove '..Said' where nothing that the law and all that it calls make is longer than what came in: it says more and counts as full. Else prove '..UptoSaid'. A law counts once. -/
mutual
def uptoBulk {H : Type} : DataW H → Nat
  | .lit (.string bytes) => bytes.length + 1
  | .lit _ => 1
  | .nil => 1
  | .ptr d => uptoBulk d + 1
  | .slice elems spare => uptoBulkAll elems + uptoBulkAll spare + 1
  | .agg parts => uptoBulkAll parts + 1
  | .iface _ d => uptoBulk d + 1
  | .map entries => uptoBulkEntries entries + 1
  | .held _ => 1
def uptoBulkAll {H : Type} : List (DataW H) → Nat
  | [] => 0
  | d :: r => uptoBulk d + uptoBulkAll r
def uptoBulkEntries {H : Type} : List (Lit × DataW H) → Nat
  | [] => 0
  | x :: r => uptoBulkEntry x + uptoBulkEntries r
def uptoBulkEntry {H : Type} : Lit × DataW H → Nat
  | (.string bytes, d) => bytes.length + uptoBulk d + 1
  | (_, d) => uptoBulk d + 1
 end
def uptoSmall : (H : Type) → List (DataW H) → Bool := fun _ ds => decide (uptoBulkAll ds ≤ 1048576)
def OpenSpec.upto (s : _root_.Go.ChangeSpec) : _root_.Go.OpenSpec := { _root_.Go.OpenSpec.ofChange s with cond := some uptoSmall }

/-- 'ninepinslaw.GamePlays', WHERE WHAT IT READS IS OF BULK AT MOST 1048576: true; the input reads as it did. -/
def gamePlaysUptoRow : OpenClaim := { program := "ytemkbjaojinaoaagreat", sum := "d727a5e906114a9c4a106318fde890702b15628e5e83817e50417a71d74e63fe", func := "ninepins/ninepinslaw.GamePlays", spec := "gamePlays", inPlace := ["slices.overlaps[ninepins/api.Table]"], unfollowed := true, recurses := true, apart := false, narrowed := true }
def GamePlaysUptoSaid : Prop := gamePlaysUptoRow.holds Tryz.pinned (OpenSpec.upto gamePlaysSpec)

/-- 'ninepinslaw.GameRuns', WHERE WHAT IT READS IS OF BULK AT MOST 1048576: true; the input reads as it did. -/
def gameRunsUptoRow : OpenClaim := { program := "ytemkbjaojinaoaagreat", sum := "d727a5e906114a9c4a106318fde890702b15628e5e83817e50417a71d74e63fe", func := "ninepins/ninepinslaw.GameRuns", spec := "gameRuns", inPlace := ["slices.overlaps[ninepins/api.Table]"], unfollowed := true, recurses := true, apart := false, narrowed := true }
def GameRunsUptoSaid : Prop := gameRunsUptoRow.holds Tryz.pinned (OpenSpec.upto gameRunsSpec)

end Rows
end Go.Proofs.YtemkbjaojinaoaaGreat
