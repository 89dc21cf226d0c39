/- Words for TopAgain: what may have changed since a world. No condition. -/
import Derived.Test.YtkpecagkpjabdabGreatGameReplies
import Derived.Test.YtkpecagkpjabdabGreatGameSame
import Derived.Test.YtkpecagkpjabdabGreatActRow
import Derived.Test.YtkpecagkpjabdabGreatLawAgain
namespace Go.Proofs.YtkpecagkpjabdabGreat
open Go.RowKit
set_option linter.unusedVariables false
set_option linter.unusedSimpArgs false
set_option maxRecDepth 100000
/-- what changes later is of what might change before, or new -/
theorem Only.inside {Q R : Nat → Prop} {w a b : World} (h : Only Q w a) (k : Only R a b) (hR : ∀ x, R x → Q x ∨ w.heap.size ≤ x) : Only Q w b :=
  ⟨k.os.trans h.os, k.tape.trans h.tape, k.output.trans h.output, Nat.le_trans h.size k.size, fun x h1 h2 => (k.block x (Nat.lt_of_lt_of_le h1 h.size) (fun r => by rcases hR x r with q | q <;> first | exact h2 q | omega)).trans (h.block x h1 h2)⟩
theorem Only.grown {Q : Nat → Prop} {w a b : World} {row : Option Nat} (h : Only Q w a) (hg : a.grownBy b row) (hr : ∀ k, row = some k → Q k ∨ w.heap.size ≤ k) : Only Q w b :=
  ⟨hg.os.trans h.os, hg.tape.trans h.tape, hg.output.trans h.output, Nat.le_trans h.size hg.size, fun x h1 h2 => (hg.block x (Nat.lt_of_lt_of_le h1 h.size) (fun e => by rcases hr x e.symm with q | q <;> first | exact h2 q | omega)).trans (h.block x h1 h2)⟩
theorem OwnReps.same {w W : World} {Q : Nat → Prop} {base : Nat} {vo : Value} {rs : List M.Reply} {hr : List (Value × Value)} (h : OwnReps w Q base vo rs hr) (hV : ∀ b, b < w.heap.size → ¬ Q b → W.heap[b]? = w.heap[b]?) : OwnReps W (fun _ => False) base vo rs hr :=
  ⟨h.len, own_same h.row (fun g e => hV g (h.row.lt g e).2 (fun q => h.off g q e)), fun i r p h1 h2 => ⟨own_same (h.each i r p h1 h2).1 (fun g e => hV g ((h.each i r p h1 h2).1.lt g e).2 (fun q => (h.offe i p h2 g (.inl q)).1 e)), own_same (h.each i r p h1 h2).2 (fun g e => hV g ((h.each i r p h1 h2).2.lt g e).2 (fun q => (h.offe i p h2 g (.inl q)).2 e))⟩,
    fun b q => q.elim, fun i p hp b q => h.offe i p hp b (q.elim (fun f => f.elim) .inr)⟩
/-- the reply i, in whatever world -/
theorem OwnReps.atAll {w : World} {Q : Nat → Prop} {base : Nat} {vo : Value} {rs : List M.Reply} {hr : List (Value × Value)} (h : OwnReps w Q base vo rs hr) {i : Nat} {r : M.Reply} (hi : rs[i]? = some r) :
    ∃ b cap ai ci am cm, vo = .slice (some ⟨b, 0, none⟩) rs.length cap ∧ ∀ (W : World) (R : Nat → Prop), OwnReps W R base vo rs hr → (W.cell? ⟨b, i * 4, none⟩ = some (.int .i64 r.code) ∧ W.cell? ⟨b, i * 4 + 1, none⟩ = some (.int .i64 r.n) ∧ W.cell? ⟨b, i * 4 + 2, none⟩ = some (.slice ai r.ids.length ci) ∧ W.cell? ⟨b, i * 4 + 3, none⟩ = some (.slice am r.met.length cm)) ∧
      IntsAt W 0 (.slice ai r.ids.length ci) r.ids ∧ PairsAt W 0 (.slice am r.met.length cm) r.met := by
  have hlt := (List.getElem?_eq_some_iff.1 hi).1
  have hl := h.len
  obtain ⟨p, hp⟩ : ∃ p, hr[i]? = some p := ⟨_, List.getElem?_eq_getElem (by omega)⟩
  obtain ⟨k1, k2⟩ := h.each i r p hi hp
  obtain ⟨ai, ci, e1⟩ := own_form k1
  obtain ⟨am, cm, e2⟩ := own_form k2
  obtain ⟨g, cap, e0, _, _⟩ := own_val h.row (by omega)
  obtain ⟨c0, c1, c2, c3⟩ := repsL_at hi hp
  refine ⟨g, cap, ai, ci, am, cm, e0, fun W R hW => ?_⟩
  obtain ⟨k1, k2⟩ := hW.each i r p hi hp
  rw [e1] at k1 c2
  rw [e2] at k2 c3
  have hrow := hW.row
  rw [e0] at hrow
  exact ⟨⟨(hrow.cellAt (i * 4) (by omega)).trans c0, (hrow.cellAt (i * 4 + 1) (by omega)).trans c1, (hrow.cellAt (i * 4 + 2) (by omega)).trans c2, (hrow.cellAt (i * 4 + 3) (by omega)).trans c3⟩, Lies.mono (Lies.of_owns k1) (Nat.zero_le _), Lies.mono (Lies.of_owns k2) (Nat.zero_le _)⟩
theorem fix_blk {w : World} {g : Nat} {x : M.Act} (h : Blk w g 31 (actC x)) (hk : x.kind = 7 ∨ x.kind = 8) : Blk (w.setCell ⟨g, 0, none⟩ (.int .i64 6)) g 31 (actC (M.fixAct x)) := by
  have k := h.put 0 (.int .i64 6)
  unfold M.fixAct
  rw [if_pos hk]
  exact k
theorem fix_none {x : M.Act} (h7 : x.kind ≠ 7) (h8 : x.kind ≠ 8) : M.fixAct x = x := by
  unfold M.fixAct
  rw [if_neg (by rintro (h | h) <;> first | exact h7 h | exact h8 h)]
theorem fix_in {x : M.Act} (h : ActIn x) : ActIn (M.fixAct x) := by
  unfold M.fixAct
  split
  · obtain ⟨⟨a, b, c, d⟩, e, f⟩ := h
    exact ⟨⟨by unfold I64; show (_ ≤ (6 : Int) ∧ (6 : Int) ≤ _); omega, b, c, d⟩, e, f⟩
  · exact h
theorem in_save : ActIn M.saveAct := by simp only [ActIn, M.saveAct, RowOk, M.row0, I64]; omega
theorem in_load {n : Int} (h : 0 ≤ n ∧ n < 3) : ActIn (M.loadAct n) := by simp only [ActIn, M.loadAct, RowOk, M.row0, I64]; omega
end Go.Proofs.YtkpecagkpjabdabGreat
