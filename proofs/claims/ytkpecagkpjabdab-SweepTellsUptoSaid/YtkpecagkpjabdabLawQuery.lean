/- Plain laws behind Query's walk: what has been gathered, table by table. No condition, no program in sight. -/
import Derived.Test.YtkpecagkpjabdabLawStore
namespace Go.Proofs.Ytkpecagkpjabdab.M
open Go.RowKit
set_option linter.unusedVariables false
set_option linter.unusedSimpArgs false
set_option maxRecDepth 100000

def selT (m : Int) (l : List Table) : List Int := l.flatMap fun t => if bits .and .i64 t.mask m = m then t.ids else []
theorem query_eq (s : Store) (m : Int) : query s m = (selT m s.tables).mergeSort fun x y => decide (x ≤ y) := rfl
theorem selT_step {l : List Table} {n : Nat} {t : Table} (m : Int) (h : l[n]? = some t) : selT m (l.take (n + 1)) = selT m (l.take n) ++ (if bits .and .i64 t.mask m = m then t.ids else []) := by
  unfold selT
  rw [List.take_add_one, h]
  simp
theorem selT_le (m : Int) (l : List Table) : (selT m l).length ≤ (idsT l).length := (query_sub m).length_le
theorem selT_len {l : List Table} {n : Nat} {t : Table} (m : Int) (h : l[n]? = some t) : (selT m (l.take n)).length + t.ids.length ≤ (idsT l).length := by
  have h1 := selT_le m (l.take n)
  have h2 : l = l.take n ++ t :: l.drop (n + 1) := by
    obtain ⟨hl, e⟩ := List.getElem?_eq_some_iff.1 h
    rw [← e, ← List.drop_eq_getElem_cons hl, List.take_append_drop]
  have h3 : (idsT l).length = (idsT (l.take n)).length + t.ids.length + (idsT (l.drop (n + 1))).length := by
    conv => lhs; rw [h2]
    unfold idsT
    simp
    omega
  omega
end Go.Proofs.Ytkpecagkpjabdab.M
