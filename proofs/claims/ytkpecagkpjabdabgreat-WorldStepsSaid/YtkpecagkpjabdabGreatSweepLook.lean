/- The contract of sweep.Look. Condition: the boxes lie in memory, their numbers are of 64 bits, they are at most 1048576. -/
import Derived.Test.YtkpecagkpjabdabGreatBagSw
import Derived.Test.YtkpecagkpjabdabGreatStoreQuery
namespace Go.Proofs.YtkpecagkpjabdabGreat
open Go.RowKit
set_option linter.unusedVariables false
set_option linter.unusedSimpArgs false
set_option maxRecDepth 100000
def M.seen (l : List M.Box) (b : M.Box) : List Int := (l.filter fun a => M.meetB a b).map (·.id)
end Go.Proofs.YtkpecagkpjabdabGreat
