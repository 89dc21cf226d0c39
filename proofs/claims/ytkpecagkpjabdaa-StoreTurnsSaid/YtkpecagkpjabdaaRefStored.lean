/- The contract of ninepinslaw.stored at a good store. Condition: the store lies in memory. -/
import Derived.Test.YtkpecagkpjabdaaRefThings2
import Derived.Test.YtkpecagkpjabdaaStoreBounds
namespace Go.Proofs.Ytkpecagkpjabdaa
open Go.RowKit
set_option linter.unusedVariables false
set_option linter.unusedSimpArgs false
set_option maxRecDepth 100000
theorem good_sized {s : M.Store} (g : M.GoodS s) : Sized s := by
  have b := good_bounds g
  refine ⟨by have := b.few; omega, fun t ht => ?_⟩
  obtain ⟨k1, k2, k3, k4, k5⟩ := b.each t ht
  omega
set_option maxHeartbeats 8000000 in
set_option maxRecDepth 100000 in
theorem stored_calls {w : World} {lo : Nat} {v : Value} {s : M.Store} (h : StoreAt w lo v s) (g : M.GoodS s) (next : Int) (hn : s.next = next) :
    Calls Try.prog 50 #[v, .int .i64 next] w fun e w' => ∃ b, e = .returned (.tuple #[.map (some b), .bool true]) ∧ w.heap.size ≤ b ∧ MapA w' b (M.look (M.entries s)) (M.size s) ∧ Below w.heap.size w w' := by
  subst hn
  have HTH := Lib.hid (fun W (hb : Below w.heap.size w W) => thingsOf_calls (h.below hb) (good_in g) (good_sized g))
  rw [(M.good_iff s).2 g] at HTH
  obtain ⟨vt, rfl, hs, hT⟩ := h
  obtain ⟨a, cap, rfl⟩ := hT.val
  clear hT g
  go_enter Try.func50, Try.ntmps50
  go_wp2_with (go_at_call 44; refine (HTH.out _ (by repeat first | with_reducible assumption | with_reducible exact Below.refl _ _ | with_reducible apply Below.drew | with_reducible apply below_drewN | with_reducible apply Below.alloc (hB := (by first | omega | (simp; done) | (simp; omega))) | with_reducible apply Below.setCell (hp := (by first | omega | (simp; done) | (simp; omega))))).mono ?_; rintro e w2 ⟨mp, rfl, hmp, hb2⟩; obtain ⟨b, rfl, lb, hmb⟩ := hmp rfl; have HMB := Lib.hid hmb; have kb : w.heap.size ≤ b := (by simp at lb; omega); have K2 : Below w.heap.size w w2 := (show Below w.heap.size w _ from (by repeat first | with_reducible assumption | with_reducible exact Below.refl _ _ | with_reducible apply Below.drew | with_reducible apply below_drewN | with_reducible apply Below.alloc (hB := (by first | omega | (simp; done) | (simp; omega))) | with_reducible apply Below.setCell (hp := (by first | omega | (simp; done) | (simp; omega))))).trans (hb2.mono (by simp)); have BS : Blk w2 w.heap.size 40 #[.slice a s.tables.length cap, .int .i64 s.next] := (Blk.new_at rfl).below hb2 (by simp); have b1 := BS.cell 1; simp at b1; have HK2 := Lib.hid K2; clear hmb hmp hb2 BS K2)
  go_quiet (fail)
  go_wp2_with fail
  go_ret2
  exact ⟨b, rfl, kb, HMB.out, below_drewN HK2.out _⟩
end Go.Proofs.Ytkpecagkpjabdaa
