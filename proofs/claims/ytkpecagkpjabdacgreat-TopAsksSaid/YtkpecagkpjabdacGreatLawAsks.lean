/- Plain: who looks is told all that overlap, in their order. No condition, no program in sight. -/
import Derived.Test.YtkpecagkpjabdacGreatBagP
namespace Go.Proofs.YtkpecagkpjabdacGreat.M
open Go.RowKit
set_option linter.unusedVariables false
set_option linter.unusedSimpArgs false
set_option maxRecDepth 100000
def lookAct (b : Box) : Act := ⟨9, 0, 0, 0, row0, b⟩
theorem doAct_look {g : Game} (hg : g.acts < 150) (b : Box) : doAct g (lookAct b) = (more g, ⟨0, 0, lookB (boxes g.w.things) b, []⟩) := by
  unfold doAct
  rw [if_neg (by omega)]
  rfl
def toldK (L : List Box) (b : Box) (i : Nat) : Nat := ((L.take i).filter fun a => meetB a b).length
theorem toldK_zero (L : List Box) (b : Box) : toldK L b 0 = 0 := rfl
theorem toldK_succ {L : List Box} {b x : Box} {i : Nat} (h : L[i]? = some x) : toldK L b (i + 1) = toldK L b i + if meetB x b = true then 1 else 0 := by
  unfold toldK
  rw [List.take_add_one, h, List.filter_append, List.length_append]
  simp only [Option.toList_some, List.filter_cons, List.filter_nil]
  split <;> rfl
theorem toldK_le (L : List Box) (b : Box) (i : Nat) : toldK L b i ≤ i := Nat.le_trans (List.length_filter_le _ _) (List.length_take_le _ _)
theorem told_at {L : List Box} {b x : Box} {i : Nat} (h : L[i]? = some x) (hm : meetB x b = true) : ((L.filter fun a => meetB a b).map (·.id))[toldK L b i]? = some x.id := by
  have hlt := (List.getElem?_eq_some_iff.1 h).1
  have e : L = L.take i ++ x :: L.drop (i + 1) := by
    have hx : L[i] = x := (List.getElem?_eq_some_iff.1 h).2
    rw [← hx, ← List.drop_eq_getElem_cons hlt, List.take_append_drop]
  have e2 : L.filter (fun a => meetB a b) = (L.take i).filter (fun a => meetB a b) ++ x :: (L.drop (i + 1)).filter (fun a => meetB a b) := by
    conv => lhs; rw [e]
    rw [List.filter_append, List.filter_cons, if_pos hm]
  rw [e2, List.map_append, List.map_cons]
  unfold toldK
  rw [List.getElem?_append_right (by rw [List.length_map]; exact Nat.le_refl _), List.length_map, Nat.sub_self]
  rfl
theorem told_all (L : List Box) (b : Box) : toldK L b L.length = ((L.filter fun a => meetB a b).map (·.id)).length := by
  unfold toldK
  rw [List.take_length, List.length_map]
theorem meetB_and (a b : Box) : meetB a b = true ↔ a.x1 < b.x2 ∧ b.x1 < a.x2 ∧ a.y1 < b.y2 ∧ b.y1 < a.y2 := by
  unfold meetB
  simp
theorem boxes_few {s : Store} (g : GoodS s) : (boxes s).length ≤ 10 := by
  unfold boxes
  rw [List.length_map]
  exact query_few g 5
end Go.Proofs.YtkpecagkpjabdacGreat.M
