/-
  No cell of these rows narrows 'for every input' (looked for: loops, veiled, ifaces, maps, wideKeys, modest, calm, conditions, laid).
  DERIVED. THE GIVEN ROWS OF THIS SEAT. 6 by the template 'for every input the law returns true; each argument reads behind the call as it read before'; 0 by the template 'total and deterministic' (their statements: YtkpecagkpjabdabGreatTotals.lean).
  GIVEN WITH THE SEED: the statements are not yours to turn. If you find one false, say at which input.
  Laid BY PROGRAM, IN A SANDBOX (cutbox-rows.mjs): the forced cells as the released guide's own fill.sh prints them over the translation bb5f9ac1ae9056e3… (all of the seat's roots in one cut). By AI agents, Wed Nov 11 2026. No macro, syntax, notation, axiom, sorry.
-/
import Derived.Test.YtkpecagkpjabdabGreatChecked
import GoSem.Claim
import GoSem.ClaimJoined
import GoSem.ClaimMapViews
import Derived.JoinedTies
import Derived.KernelRfl
namespace Go.Proofs.YtkpecagkpjabdabGreat
/- THE CELL 'sum', in the pinned program and in every row, IS THE sha256 OF THE DUMP (.gsa) THAT YtkpecagkpjabdabGreatProg.lean LOADS. Nothing in Lean hashes anything: it is a label: what it is worth is what the hold of that sum in a sandbox is worth. -/
noncomputable def Tryz.pinned : Pinned := { name := "ytkpecagkpjabdabgreat", sum := "bb5f9ac1ae9056e319b735a6c17e566d903a5b4df10863c7c50b1dcd4c0eef81", checked := Tryz.checked }
namespace Rows
def none {H : Type} : Left H := { results := [], args := [] }

/-- 'ninepinstop.TopWithin': WHATEVER THE INPUT: true; the input reads as it did. -/
def topWithinSpec : ChangeSpec := { name := "topWithin", fn := fun _ => fun
  | [d1, d2, d3] => { results := [.lit (.bool true)], args := [d1, d2, d3] }
  | _ => none }
def topWithinRow : OpenClaim := { program := "ytkpecagkpjabdabgreat", sum := "bb5f9ac1ae9056e319b735a6c17e566d903a5b4df10863c7c50b1dcd4c0eef81", func := "ninepins/ninepinstop.TopWithin", spec := "topWithin", inPlace := ["slices.overlaps[ninepins/api.Table]"], unfollowed := true, recurses := true, apart := false }
def TopWithinSaid : Prop := topWithinRow.holds Tryz.pinned (OpenSpec.ofChange topWithinSpec)

/-- ITS FALSE NEIGHBOUR: 'it returns false'. Refute it at one input. -/
def topWithinWrong : ChangeSpec := { name := "topWithin", fn := fun _ => fun
  | [d1, d2, d3] => { results := [.lit (.bool false)], args := [d1, d2, d3] }
  | _ => none }
def TopWithinWrongFalsely : Prop := topWithinRow.holds Tryz.pinned (OpenSpec.ofChange topWithinWrong)

/-- 'ninepinstop.TopAgain': WHATEVER THE INPUT: true; the input reads as it did. -/
def topAgainSpec : ChangeSpec := { name := "topAgain", fn := fun _ => fun
  | [d1, d2, d3, d4] => { results := [.lit (.bool true)], args := [d1, d2, d3, d4] }
  | _ => none }
def topAgainRow : OpenClaim := { program := "ytkpecagkpjabdabgreat", sum := "bb5f9ac1ae9056e319b735a6c17e566d903a5b4df10863c7c50b1dcd4c0eef81", func := "ninepins/ninepinstop.TopAgain", spec := "topAgain", inPlace := ["slices.overlaps[ninepins/api.Table]"], unfollowed := true, recurses := true, apart := false }
def TopAgainSaid : Prop := topAgainRow.holds Tryz.pinned (OpenSpec.ofChange topAgainSpec)

/-- ITS FALSE NEIGHBOUR: 'it returns false'. Refute it at one input. -/
def topAgainWrong : ChangeSpec := { name := "topAgain", fn := fun _ => fun
  | [d1, d2, d3, d4] => { results := [.lit (.bool false)], args := [d1, d2, d3, d4] }
  | _ => none }
def TopAgainWrongFalsely : Prop := topAgainRow.holds Tryz.pinned (OpenSpec.ofChange topAgainWrong)

/-- 'ninepinslaw.WorldSteps': WHATEVER THE INPUT: true; the input reads as it did. -/
def worldStepsSpec : ChangeSpec := { name := "worldSteps", fn := fun _ => fun
  | [d] => { results := [.lit (.bool true)], args := [d] }
  | _ => none }
def worldStepsRow : OpenClaim := { program := "ytkpecagkpjabdabgreat", sum := "bb5f9ac1ae9056e319b735a6c17e566d903a5b4df10863c7c50b1dcd4c0eef81", func := "ninepins/ninepinslaw.WorldSteps", spec := "worldSteps", inPlace := ["slices.overlaps[ninepins/api.Table]"], unfollowed := true, recurses := true, apart := false }
def WorldStepsSaid : Prop := worldStepsRow.holds Tryz.pinned (OpenSpec.ofChange worldStepsSpec)

/-- ITS FALSE NEIGHBOUR: 'it returns false'. Refute it at one input. -/
def worldStepsWrong : ChangeSpec := { name := "worldSteps", fn := fun _ => fun
  | [d] => { results := [.lit (.bool false)], args := [d] }
  | _ => none }
def WorldStepsWrongFalsely : Prop := worldStepsRow.holds Tryz.pinned (OpenSpec.ofChange worldStepsWrong)

/-- 'ninepinskeep.WorldOrder': WHATEVER THE INPUT: true; the input reads as it did. -/
def worldOrderSpec : ChangeSpec := { name := "worldOrder", fn := fun _ => fun
  | [d1, d2] => { results := [.lit (.bool true)], args := [d1, d2] }
  | _ => none }
def worldOrderRow : OpenClaim := { program := "ytkpecagkpjabdabgreat", sum := "bb5f9ac1ae9056e319b735a6c17e566d903a5b4df10863c7c50b1dcd4c0eef81", func := "ninepins/ninepinskeep.WorldOrder", spec := "worldOrder", inPlace := ["slices.overlaps[ninepins/api.Table]"], unfollowed := true, recurses := true, apart := false }
def WorldOrderSaid : Prop := worldOrderRow.holds Tryz.pinned (OpenSpec.ofChange worldOrderSpec)

/-- ITS FALSE NEIGHBOUR: 'it returns false'. Refute it at one input. -/
def worldOrderWrong : ChangeSpec := { name := "worldOrder", fn := fun _ => fun
  | [d1, d2] => { results := [.lit (.bool false)], args := [d1, d2] }
  | _ => none }
def WorldOrderWrongFalsely : Prop := worldOrderRow.holds Tryz.pinned (OpenSpec.ofChange worldOrderWrong)

/-- 'ninepinskeep.WorldFixed': WHATEVER THE INPUT: true; the input reads as it did. -/
def worldFixedSpec : ChangeSpec := { name := "worldFixed", fn := fun _ => fun
  | [d] => { results := [.lit (.bool true)], args := [d] }
  | _ => none }
def worldFixedRow : OpenClaim := { program := "ytkpecagkpjabdabgreat", sum := "bb5f9ac1ae9056e319b735a6c17e566d903a5b4df10863c7c50b1dcd4c0eef81", func := "ninepins/ninepinskeep.WorldFixed", spec := "worldFixed", inPlace := ["slices.overlaps[ninepins/api.Table]"], unfollowed := true, recurses := true, apart := false }
def WorldFixedSaid : Prop := worldFixedRow.holds Tryz.pinned (OpenSpec.ofChange worldFixedSpec)

/-- ITS FALSE NEIGHBOUR: 'it returns false'. Refute it at one input. -/
def worldFixedWrong : ChangeSpec := { name := "worldFixed", fn := fun _ => fun
  | [d] => { results := [.lit (.bool false)], args := [d] }
  | _ => none }
def WorldFixedWrongFalsely : Prop := worldFixedRow.holds Tryz.pinned (OpenSpec.ofChange worldFixedWrong)

/-- 'ninepinskeep.WorldSums': WHATEVER THE INPUT: true; the input reads as it did. -/
def worldSumsSpec : ChangeSpec := { name := "worldSums", fn := fun _ => fun
  | [d] => { results := [.lit (.bool true)], args := [d] }
  | _ => none }
def worldSumsRow : OpenClaim := { program := "ytkpecagkpjabdabgreat", sum := "bb5f9ac1ae9056e319b735a6c17e566d903a5b4df10863c7c50b1dcd4c0eef81", func := "ninepins/ninepinskeep.WorldSums", spec := "worldSums", inPlace := ["slices.overlaps[ninepins/api.Table]"], unfollowed := true, recurses := true, apart := false }
def WorldSumsSaid : Prop := worldSumsRow.holds Tryz.pinned (OpenSpec.ofChange worldSumsSpec)

/-- ITS FALSE NEIGHBOUR: 'it returns false'. Refute it at one input. -/
def worldSumsWrong : ChangeSpec := { name := "worldSums", fn := fun _ => fun
  | [d] => { results := [.lit (.bool false)], args := [d] }
  | _ => none }
def WorldSumsWrongFalsely : Prop := worldSumsRow.holds Tryz.pinned (OpenSpec.ofChange worldSumsWrong)

/- THE SECOND FORM. 'bulk': how many values and letters a reading holds, each counted each time it is reached (what is shared counts as often as it is met; a slice's spare places count too). A statement '..UptoSaid' is the law's where the arguments, and the package variables that the reading takes, are together of bulk at most 1048576: NARROWER than '..Said'. Prove '..Said' where nothing that the law and all that it calls make is longer than what came in: it says more and counts as full. Else prove '..UptoSaid'. A law counts once. -/
mutual
def uptoBulk {H : Type} : DataW H → Nat
  | .lit (.string bytes) => bytes.length + 1
  | .lit _ => 1
  | .nil => 1
  | .ptr d => uptoBulk d + 1
  | .slice elems spare => uptoBulkAll elems + uptoBulkAll spare + 1
  | .agg parts => uptoBulkAll parts + 1
  | .iface _ d => uptoBulk d + 1
  | .map entries => uptoBulkEntries entries + 1
  | .held _ => 1
def uptoBulkAll {H : Type} : List (DataW H) → Nat
  | [] => 0
  | d :: r => uptoBulk d + uptoBulkAll r
def uptoBulkEntries {H : Type} : List (Lit × DataW H) → Nat
  | [] => 0
  | x :: r => uptoBulkEntry x + uptoBulkEntries r
def uptoBulkEntry {H : Type} : Lit × DataW H → Nat
  | (.string bytes, d) => bytes.length + uptoBulk d + 1
  | (_, d) => uptoBulk d + 1
 end
def uptoSmall : (H : Type) → List (DataW H) → Bool := fun _ ds => decide (uptoBulkAll ds ≤ 1048576)
def OpenSpec.upto (s : _root_.Go.ChangeSpec) : _root_.Go.OpenSpec := { _root_.Go.OpenSpec.ofChange s with cond := some uptoSmall }

/-- 'ninepinstop.TopWithin', WHERE WHAT IT READS IS OF BULK AT MOST 1048576: true; the input reads as it did. -/
def topWithinUptoRow : OpenClaim := { program := "ytkpecagkpjabdabgreat", sum := "bb5f9ac1ae9056e319b735a6c17e566d903a5b4df10863c7c50b1dcd4c0eef81", func := "ninepins/ninepinstop.TopWithin", spec := "topWithin", inPlace := ["slices.overlaps[ninepins/api.Table]"], unfollowed := true, recurses := true, apart := false, narrowed := true }
def TopWithinUptoSaid : Prop := topWithinUptoRow.holds Tryz.pinned (OpenSpec.upto topWithinSpec)

/-- 'ninepinstop.TopAgain', WHERE WHAT IT READS IS OF BULK AT MOST 1048576: true; the input reads as it did. -/
def topAgainUptoRow : OpenClaim := { program := "ytkpecagkpjabdabgreat", sum := "bb5f9ac1ae9056e319b735a6c17e566d903a5b4df10863c7c50b1dcd4c0eef81", func := "ninepins/ninepinstop.TopAgain", spec := "topAgain", inPlace := ["slices.overlaps[ninepins/api.Table]"], unfollowed := true, recurses := true, apart := false, narrowed := true }
def TopAgainUptoSaid : Prop := topAgainUptoRow.holds Tryz.pinned (OpenSpec.upto topAgainSpec)

/-- 'ninepinslaw.WorldSteps', WHERE WHAT IT READS IS OF BULK AT MOST 1048576: true; the input reads as it did. -/
def worldStepsUptoRow : OpenClaim := { program := "ytkpecagkpjabdabgreat", sum := "bb5f9ac1ae9056e319b735a6c17e566d903a5b4df10863c7c50b1dcd4c0eef81", func := "ninepins/ninepinslaw.WorldSteps", spec := "worldSteps", inPlace := ["slices.overlaps[ninepins/api.Table]"], unfollowed := true, recurses := true, apart := false, narrowed := true }
def WorldStepsUptoSaid : Prop := worldStepsUptoRow.holds Tryz.pinned (OpenSpec.upto worldStepsSpec)

/-- 'ninepinskeep.WorldOrder', WHERE WHAT IT READS IS OF BULK AT MOST 1048576: true; the input reads as it did. -/
def worldOrderUptoRow : OpenClaim := { program := "ytkpecagkpjabdabgreat", sum := "bb5f9ac1ae9056e319b735a6c17e566d903a5b4df10863c7c50b1dcd4c0eef81", func := "ninepins/ninepinskeep.WorldOrder", spec := "worldOrder", inPlace := ["slices.overlaps[ninepins/api.Table]"], unfollowed := true, recurses := true, apart := false, narrowed := true }
def WorldOrderUptoSaid : Prop := worldOrderUptoRow.holds Tryz.pinned (OpenSpec.upto worldOrderSpec)

/-- 'ninepinskeep.WorldFixed', WHERE WHAT IT READS IS OF BULK AT MOST 1048576: true; the input reads as it did. -/
def worldFixedUptoRow : OpenClaim := { program := "ytkpecagkpjabdabgreat", sum := "bb5f9ac1ae9056e319b735a6c17e566d903a5b4df10863c7c50b1dcd4c0eef81", func := "ninepins/ninepinskeep.WorldFixed", spec := "worldFixed", inPlace := ["slices.overlaps[ninepins/api.Table]"], unfollowed := true, recurses := true, apart := false, narrowed := true }
def WorldFixedUptoSaid : Prop := worldFixedUptoRow.holds Tryz.pinned (OpenSpec.upto worldFixedSpec)

/-- 'ninepinskeep.WorldSums', WHERE WHAT IT READS IS OF BULK AT MOST 1048576: true; the input reads as it did. -/
def worldSumsUptoRow : OpenClaim := { program := "ytkpecagkpjabdabgreat", sum := "bb5f9ac1ae9056e319b735a6c17e566d903a5b4df10863c7c50b1dcd4c0eef81", func := "ninepins/ninepinskeep.WorldSums", spec := "worldSums", inPlace := ["slices.overlaps[ninepins/api.Table]"], unfollowed := true, recurses := true, apart := false, narrowed := true }
def WorldSumsUptoSaid : Prop := worldSumsUptoRow.holds Tryz.pinned (OpenSpec.upto worldSumsSpec)

end Rows
end Go.Proofs.YtkpecagkpjabdabGreat
