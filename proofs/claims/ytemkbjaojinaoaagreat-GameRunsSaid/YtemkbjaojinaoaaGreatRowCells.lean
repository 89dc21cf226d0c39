/- A row in a block of its own: its cells, one by one. No condition. -/
import Derived.Test.YtemkbjaojinaoaaGreatMem
import Derived.Test.YtemkbjaojinaoaaGreatKit
set_option linter.unusedVariables false
set_option linter.unusedSimpArgs false
set_option maxRecDepth 100000
namespace Go.Proofs.YtemkbjaojinaoaaGreat
open Go.RowKit
abbrev rowC (r:M.Row):Array Value:=#[.int .i64 r.X,.int .i64 r.Y,.int .i64 r.PX,.int .i64 r.PY,.int .i64 r.W,.int .i64 r.H,.int .i64 r.M,.int .i64 r.R]
theorem blk_eq {w:World} {g:Nat} {t:TypeId} {cs ds:Array Value} (h:Blk w g t cs) (e:cs=ds):Blk w g t ds:=e▸h
theorem Blk.new_at {w:World} {g:Nat} {t:TypeId} {cs:Array Value} (h:g=w.heap.size):Blk (w.alloc (.cells cs t)) g t cs:=by subst h;exact Blk.new w t cs
theorem Blk.new_at_w {w:World} {g:Nat} {t:TypeId} {cs:Array Value} (h:g=w.heap.size):Blk (w.alloc (.cells cs t)) g t cs:=by subst h;exact Blk.new w t cs
theorem blk_to {w:World} {g:Nat} {t:TypeId} {cs ds:Array Value} (h:Blk w g t cs) (e:cs=ds):Blk w g t ds:=e▸h
theorem rowX_facts {W:World} {b:Nat} {r:M.Row} (h:Blk W b 38 (rowC r)):(W.cell? ⟨b,0,none⟩=some (.int .i64 r.X)/\W.cell? ⟨b,2,none⟩=some (.int .i64 r.PX))/\W.frozen? ⟨b,0,none⟩=false/\W.frozen? ⟨b,2,none⟩=false:=
 ⟨⟨h.cell 0,h.cell 2⟩,h.free 0,h.free 2⟩
theorem row_at {W:World} {b:Nat} {r:M.Row} (h:Blk W b 38 (rowC r)):W.cell? ⟨b,0,none⟩=some (.int .i64 r.X)/\W.cell? ⟨b,1,none⟩=some (.int .i64 r.Y)/\W.cell? ⟨b,2,none⟩=some (.int .i64 r.PX)/\W.cell? ⟨b,3,none⟩=some (.int .i64 r.PY)/\W.cell? ⟨b,4,none⟩=some (.int .i64 r.W)/\W.cell? ⟨b,5,none⟩=some (.int .i64 r.H)/\W.cell? ⟨b,6,none⟩=some (.int .i64 r.M)/\W.cell? ⟨b,7,none⟩=some (.int .i64 r.R):=
 ⟨h.cell 0,h.cell 1,h.cell 2,h.cell 3,h.cell 4,h.cell 5,h.cell 6,h.cell 7⟩
end Go.Proofs.YtemkbjaojinaoaaGreat
