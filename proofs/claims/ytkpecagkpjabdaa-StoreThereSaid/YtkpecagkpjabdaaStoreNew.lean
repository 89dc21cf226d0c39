/- A store's value behind stores into other blocks: where a call's result may lie. No condition. -/
import Derived.Test.YtkpecagkpjabdaaStoreKill
namespace Go.Proofs.Ytkpecagkpjabdaa
open Go.RowKit
set_option linter.unusedVariables false
set_option linter.unusedSimpArgs false
set_option maxRecDepth 100000

theorem Lies.same {w W : World} {lo : Nat} {v : Value} {n k : Nat} {xs : List Value} (h : Lies w lo v n k xs) (hs : ∀ g, lo ≤ g → g < w.heap.size → W.heap[g]? = w.heap[g]?) : Lies W lo v n k xs := by
  obtain ⟨h1, hm, a, cap, h2, h3⟩ := h
  refine ⟨h1, hm, a, cap, h2, fun hne => ?_⟩
  obtain ⟨b, o, e, hl, hc⟩ := h3 hne
  exact ⟨b, o, e, hl, fun j u hj => (World.cell?_of_block (a := ⟨b, o + j, none⟩) (hs b hl (cell_lt (hc j u hj)))).trans (hc j u hj)⟩
theorem StoreAt.same {w W : World} {lo : Nat} {v : Value} {s : M.Store} (h : StoreAt w lo v s) (hs : ∀ g, lo ≤ g → g < w.heap.size → W.heap[g]? = w.heap[g]?) : StoreAt W lo v s := by
  obtain ⟨vt, e, hs', h1, h2, h3⟩ := h
  exact ⟨vt, e, hs', h1, h2.same hs, fun i t p a b => ⟨(h3 i t p a b).1.same hs, (h3 i t p a b).2.same hs⟩⟩
/-- a call's result, behind stores into a block that was laid between its argument and the call -/
theorem got_put {w wc w' W : World} {lo : Nat} {v v' : Value} {s x : M.Store} {b : Nat} (hold : StoreAt w lo v s) (hw : Below w.heap.size w wc) (hb1 : w.heap.size ≤ b) (hb2 : b < wc.heap.size)
    (hc : Below wc.heap.size wc w') (hx : NewOr wc w' v v' s x) (hW : ∀ g, g ≠ b → W.heap[g]? = w'.heap[g]?) : StoreAt W 0 v' x := by
  rcases hx with ⟨rfl, rfl⟩ | hx
  · refine (hold.same fun g h1 h2 => ?_).mono (Nat.zero_le _)
    have := hw.size
    rw [hW g (by omega), hc.block g (by omega), hw.block g h2]
  · exact (hx.same fun g h1 h2 => hW g (by omega)).mono (Nat.zero_le _)
end Go.Proofs.Ytkpecagkpjabdaa
