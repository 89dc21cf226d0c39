/- Plain: who looks is told all that overlap, in their order. No condition, no program in sight. -/
import Derived.Test.YtemkbjaojinaoaaGreatBagP
set_option linter.unusedVariables false
set_option linter.unusedSimpArgs false
set_option maxRecDepth 100000
namespace Go.Proofs.YtemkbjaojinaoaaGreat.M
open Go.RowKit
theorem boxes_few {s:Store} (g:GoodS s):(boxes s).length<=10:=by
 unfold boxes
 rw [List.length_map]
 exact query_few g 5
end Go.Proofs.YtemkbjaojinaoaaGreat.M
