/- The contract of world.back: a thing's row goes back into the store where the thing moves. Condition: the store lies in memory, its numbers are of 64 bits. -/
import Derived.Test.YtkpecagkpjabdabGreatStoreSet
import Derived.Test.YtkpecagkpjabdabGreatStoreNew
import Derived.Test.YtkpecagkpjabdabGreatRowCells
import Derived.Test.YtkpecagkpjabdabGreatBagP
import Derived.Test.YtkpecagkpjabdabGreatKit
import Derived.Laws.Rows
namespace Go.Proofs.YtkpecagkpjabdabGreat
open Go.RowKit
set_option linter.unusedVariables false
set_option linter.unusedSimpArgs false
set_option maxRecDepth 100000

theorem StoreAt.form {w : World} {lo : Nat} {v : Value} {s : M.Store} (h : StoreAt w lo v s) : ∃ a c, v = .agg #[.slice a s.tables.length c, .int .i64 s.next] := by
  obtain ⟨vt, rfl, hs, hT⟩ := h
  obtain ⟨a, cap, rfl⟩ := hT.val
  exact ⟨a, cap, rfl⟩
/-- a call's result, behind stores into blocks that were laid between its argument and the call -/
theorem got_puts {w wc w' W : World} {lo : Nat} {v v' : Value} {s x : M.Store} (hold : StoreAt w lo v s) (hw : Below w.heap.size w wc)
    (hc : Below wc.heap.size wc w') (hx : NewOr wc w' v v' s x) (hz : w'.heap.size ≤ W.heap.size) (hW : ∀ g, g < w.heap.size ∨ wc.heap.size ≤ g → W.heap[g]? = w'.heap[g]?) : StoreAt W 0 v' x ∧ NewOr w W v v' s x := by
  have k1 := hw.size
  rcases hx with ⟨rfl, rfl⟩ | hx
  · refine ⟨(hold.same fun g h1 h2 => ?_).mono (Nat.zero_le _), .inl ⟨rfl, rfl⟩⟩
    rw [hW g (by omega), hc.block g (by omega), hw.block g h2]
  · have k := hx.same (W := W) fun g h1 h2 => hW g (by omega)
    exact ⟨k.mono (Nat.zero_le _), .inr (k.mono k1)⟩
set_option maxHeartbeats 4000000 in
theorem worldBack_calls {w : World} {lo : Nat} {v : Value} {s : M.Store} (h : StoreAt w lo v s) (hin : StoreIn s) (id m : Int) (r : M.Row) :
    Calls Tryz.prog 54 #[v, .int .i64 id, .int .i64 m, rowV r] w fun e w' => ∃ v', e = .returned v' ∧ (StoreAt w' 0 v' (M.backTo s id m r) ∧ NewOr w w' v v' s (M.backTo s id m r)) ∧ Below w.heap.size w w' := by
  have HG := Lib.hid (fun W (hb : Below w.heap.size w W) => set_calls (h.below hb) hin id r)
  have HS := Lib.hid h
  obtain ⟨a, cap, rfl⟩ := h.form
  clear h hin
  by_cases hm : M.moves m = true
  · have q : (bits .and .i64 m 11 == 11) = true := hm
    have q2 : (bits .and .i64 m 11 != 11) = false := by simpa using q
    have hf : M.backTo s id m r = (M.set s id r).1 := by unfold M.backTo; rw [if_pos hm]
    rw [hf]
    obtain ⟨x, code, hx⟩ : ∃ x code, M.set s id r = (x, code) := ⟨_, _, rfl⟩
    rw [hx] at HG ⊢
    simp only at HG ⊢
    clear hf hm q hx
    go_enter Tryz.func54, Tryz.ntmps54
    go_wp2_with (go_at_call 50; refine (HG.out _ (by repeat first | with_reducible assumption | with_reducible exact Below.refl _ _ | with_reducible apply Below.drew | with_reducible apply below_drewN | with_reducible apply Below.alloc (hB := (by first | omega | (simp; done) | (simp; omega))) | with_reducible apply Below.setCell (hp := (by first | omega | (simp; done) | (simp; omega))))).mono ?_; rintro e w1 ⟨v1, rfl, ⟨hs1, hn1⟩, hb1⟩; obtain ⟨a1, c1, rfl⟩ := hs1.form; have HN1 : Hid (NewOr _ w1 _ _ s x) := Lib.hid hn1; have HB1 := Lib.hid hb1; clear hs1 hn1; have K1 : Below w.heap.size w w1 := (show Below w.heap.size w _ from (by repeat first | with_reducible assumption | with_reducible exact Below.refl _ _ | with_reducible apply Below.drew | with_reducible apply below_drewN | with_reducible apply Below.alloc (hB := (by first | omega | (simp; done) | (simp; omega))) | with_reducible apply Below.setCell (hp := (by first | omega | (simp; done) | (simp; omega))))).trans (hb1.mono (by first | omega | (simp; done) | (simp; omega))); have hz1 := hb1.size; (try simp at hz1); have b4 : Blk w1 w.heap.size 39 #[.slice a s.tables.length cap, .int .i64 s.next] := Blk.below (Blk.alloc (Blk.alloc (Blk.new_at rfl) _) _) hb1 (by first | omega | (simp; done) | (simp; omega)); have b8 : Blk w1 (w.heap.size + 1 + 1) 39 #[.slice none 0 0, .int .i64 0] := Blk.below (Blk.new_at (by first | omega | (simp; done) | (simp; omega))) hb1 (by first | omega | (simp; done) | (simp; omega)); have y0 := b4.cell 0; have y1 := b4.cell 1; have yf := (fun i => b4.free i); have z0 := b8.cell 0; have z1 := b8.cell 1; have zf := (fun i => b8.free i); simp at y0 y1 z0 z1; have ly := b4.lt; have lz := b8.lt)
    refine bodyPost_ret (v := .agg #[.slice a1 x.tables.length c1, .int .i64 x.next]) ?_ rfl ⟨_, rfl, ?_, ?_⟩
    · simp only [results, Tryz.results54]
      go_simp
    · refine got_puts HS.out (show Below w.heap.size w _ from (by repeat first | with_reducible assumption | with_reducible exact Below.refl _ _ | with_reducible apply Below.drew | with_reducible apply below_drewN | with_reducible apply Below.alloc (hB := (by first | omega | (simp; done) | (simp; omega))) | with_reducible apply Below.setCell (hp := (by first | omega | (simp; done) | (simp; omega))))) HB1.out HN1.out (by simp) (fun g hg => ?_)
      simp only [World.size_alloc] at hg
      repeat first | rfl | rw [Below.heap_setCell _ _ _ _ (by simp; omega)]
    · exact (by repeat first | with_reducible assumption | with_reducible exact Below.refl _ _ | with_reducible apply Below.drew | with_reducible apply below_drewN | with_reducible apply Below.alloc (hB := (by first | omega | (simp; done) | (simp; omega))) | with_reducible apply Below.setCell (hp := (by first | omega | (simp; done) | (simp; omega))))
  · have q : (bits .and .i64 m 11 == 11) = false := by simpa [M.moves] using hm
    have q2 : (bits .and .i64 m 11 != 11) = true := by simpa using q
    have hf : M.backTo s id m r = s := by unfold M.backTo; rw [if_neg hm]
    rw [hf]
    clear hf hm q
    go_enter Tryz.func54, Tryz.ntmps54
    go_wp2
    refine bodyPost_ret (v := .agg #[.slice a s.tables.length cap, .int .i64 s.next]) ?_ rfl ⟨_, rfl, ?_, ?_⟩
    · simp only [results, Tryz.results54]
      go_simp
    · exact ⟨(HS.out.mono (Nat.zero_le _)).below (by repeat first | with_reducible assumption | with_reducible exact Below.refl _ _ | with_reducible apply Below.drew | with_reducible apply below_drewN | with_reducible apply Below.alloc (hB := (by first | omega | (simp; done) | (simp; omega))) | with_reducible apply Below.setCell (hp := (by first | omega | (simp; done) | (simp; omega)))), .inl ⟨rfl, rfl⟩⟩
    · exact (by repeat first | with_reducible assumption | with_reducible exact Below.refl _ _ | with_reducible apply Below.drew | with_reducible apply below_drewN | with_reducible apply Below.alloc (hB := (by first | omega | (simp; done) | (simp; omega))) | with_reducible apply Below.setCell (hp := (by first | omega | (simp; done) | (simp; omega))))
end Go.Proofs.YtkpecagkpjabdabGreat
