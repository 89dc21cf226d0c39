/- The contract of ninepinslaw's things: does the store answer at all? No condition. -/
import Derived.Test.YtkpecagkpjabdaaStoreSpawn
namespace Go.Proofs.Ytkpecagkpjabdaa
open Go.RowKit
set_option linter.unusedVariables false
set_option linter.unusedSimpArgs false
set_option maxRecDepth 100000

theorem store_empty (w : World) (lo : Nat) : StoreAt w lo (.agg #[.slice none 0 0, .int .i64 0]) ⟨[], 0⟩ :=
  ⟨_, rfl, [], rfl, ⟨rfl, Nat.zero_le _, none, 0, rfl, fun h => absurd rfl h⟩, fun i t p h => by simp at h⟩
theorem StoreAt.shape {w : World} {lo : Nat} {v : Value} {s : M.Store} (h : StoreAt w lo v s) : ∃ a c, v = .agg #[.slice a s.tables.length c, .int .i64 s.next] := by
  obtain ⟨vt, rfl, hs, hT⟩ := h
  obtain ⟨a, cap, rfl⟩ := hT.val
  exact ⟨a, cap, rfl⟩
def M.thing1 : M.Row := ⟨3, 0, 0, 0, 0, 0, 2, 0⟩
def M.things1 : M.Store := ⟨[⟨9, [0], [M.thing1]⟩], 1⟩
theorem spawn_thing : M.spawn ⟨[], 0⟩ 9 M.thing1 = (M.things1, 0, 0) := by decide
theorem get_thing : M.get M.things1 0 = (9, ⟨3, 0, 0, 0, 0, 0, 2, 0⟩, true) := by decide
theorem size_thing : M.sizeW M.things1.tables = 1 := (M.sizeW_eq _ (by decide)).trans (by decide)
set_option maxHeartbeats 4000000 in
set_option maxRecDepth 100000 in
theorem lthings_calls (w : World) : Calls Try.prog 47 #[] w fun e w' => e = .returned (.bool true) ∧ Below w.heap.size w w' := by
  have HS := Lib.hid (fun W => spawn_calls (store_empty W 0) ⟨⟨by simp, by simp⟩, fun t h => by simp at h⟩ 9 M.thing1)
  rw [spawn_thing] at HS
  go_enter Try.func47, Try.ntmps47
  go_wp2_with (first | (go_at_call 37; refine (HS.out _).mono ?_; rintro e w1 ⟨v1, rfl, ⟨hs1, hn1⟩, hb1⟩; obtain ⟨a1, c1, rfl⟩ := hs1.shape; have HS1 := Lib.hid (fun W (hb : Below w1.heap.size w1 W) => get_calls (hs1.below hb) 0); have HS2 := Lib.hid (fun W (hb : Below w1.heap.size w1 W) => size_calls (hs1.below hb)); rw [get_thing] at HS1; rw [size_thing] at HS2; have K1 : Below w.heap.size w w1 := (show Below w.heap.size w _ from (by repeat first | with_reducible assumption | with_reducible exact Below.refl _ _ | with_reducible apply Below.drew | with_reducible apply below_drewN | with_reducible apply Below.alloc (hB := (by first | omega | (simp; done) | (simp; omega))) | with_reducible apply Below.setCell (hp := (by first | omega | (simp; done) | (simp; omega))))).trans (hb1.mono (by first | omega | (simp; done) | (simp; omega))); have kz1 : w.heap.size ≤ w1.heap.size := K1.size; clear hs1 hn1) | (go_at_call 39; refine (HS1.out _ (by repeat first | with_reducible assumption | with_reducible exact Below.refl _ _ | with_reducible apply Below.drew | with_reducible apply below_drewN | with_reducible apply Below.alloc (hB := (by first | omega | (simp; done) | (simp; omega))) | with_reducible apply Below.setCell (hp := (by first | omega | (simp; done) | (simp; omega))))).mono ?_; rintro e w2 ⟨rfl, hb2⟩; have K12 : Below w1.heap.size w1 w2 := (show Below w1.heap.size w1 _ from (by repeat first | with_reducible assumption | with_reducible exact Below.refl _ _ | with_reducible apply Below.drew | with_reducible apply below_drewN | with_reducible apply Below.alloc (hB := (by first | omega | (simp; done) | (simp; omega))) | with_reducible apply Below.setCell (hp := (by first | omega | (simp; done) | (simp; omega))))).trans (hb2.mono (by first | omega | (simp; done) | (simp; omega))); have K2 : Below w.heap.size w w2 := K1.trans (K12.mono (by have := K1.size; omega)); obtain ⟨hc2, hf2⟩ := bcell hb2; have hz2 := hb2.size; (try simp at hz2); have pz2 : w1.heap.size ≤ w2.heap.size := K12.size; have pa2 : w1.heap.size < w2.heap.size := (by omega); (try have pb2 : w1.heap.size + 1 < w2.heap.size := (by omega))) | (go_at_call 40; refine (HS2.out _ (by repeat first | with_reducible assumption | with_reducible exact Below.refl _ _ | with_reducible apply Below.drew | with_reducible apply below_drewN | with_reducible apply Below.alloc (hB := (by first | omega | (simp; done) | (simp; omega))) | with_reducible apply Below.setCell (hp := (by first | omega | (simp; done) | (simp; omega))))).mono ?_; rintro e w3 ⟨rfl, hb3⟩; have K3 : Below w.heap.size w w3 := (show Below w.heap.size w _ from (by repeat first | with_reducible assumption | with_reducible exact Below.refl _ _ | with_reducible apply Below.drew | with_reducible apply below_drewN | with_reducible apply Below.alloc (hB := (by first | omega | (simp; done) | (simp; omega))) | with_reducible apply Below.setCell (hp := (by first | omega | (simp; done) | (simp; omega))))).trans (hb3.mono (by first | omega | (simp; done) | (simp; omega))); obtain ⟨hc3, hf3⟩ := bcell hb3; have hz3 := hb3.size; (try simp at hz3)))
  go_ret
  exact ⟨rfl, (by repeat first | with_reducible assumption | with_reducible exact Below.refl _ _ | with_reducible apply Below.drew | with_reducible apply below_drewN | with_reducible apply Below.alloc (hB := (by first | omega | (simp; done) | (simp; omega))) | with_reducible apply Below.setCell (hp := (by first | omega | (simp; done) | (simp; omega))))⟩
end Go.Proofs.Ytkpecagkpjabdaa
