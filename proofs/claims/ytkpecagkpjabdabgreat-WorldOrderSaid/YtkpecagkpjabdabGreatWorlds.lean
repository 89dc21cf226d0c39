/- The contract of the statements' worlds: does package world answer at all? No condition. -/
import Derived.Test.YtkpecagkpjabdabGreatWorldStep
import Derived.Test.YtkpecagkpjabdabGreatStoreSpawn
import Derived.Test.YtkpecagkpjabdabGreatBagG
import Derived.Test.YtkpecagkpjabdabGreatBagP
namespace Go.Proofs.YtkpecagkpjabdabGreat
open Go.RowKit
set_option linter.unusedVariables false
set_option linter.unusedSimpArgs false
set_option maxRecDepth 100000
theorem in14 (x : Int) (hx : M.goodW (M.wd14 x) = true) : StoreIn (M.st14 x) := good_in (M.goodW_iff.1 hx).things
set_option maxHeartbeats 4000000 in
set_option maxRecDepth 100000 in
theorem worlds_calls (w : World) : Calls Tryz.prog 29 #[] w fun e w' => e = .returned (.bool true) ∧ Below w.heap.size w w' := by
  have HS := Lib.hid (fun W => spawn_calls (nil_store W 0) nil_in 11 (M.row14 500))
  rw [M.spawn14] at HS
  have HI := Lib.hid (in14 500 (by decide))
  go_enter Tryz.func29, Tryz.ntmps29
  go_wp2_with (first | (go_at_call 40; go_loud (refine (HS.out _).mono ?_; rintro e w1 ⟨v1, rfl, ⟨hs1, hn1⟩, hb1⟩; obtain ⟨a1, c1, rfl⟩ := hs1.form; have HS1 := Lib.hid hs1; have K1 : Below w.heap.size w w1 := (show Below w.heap.size w _ from (by repeat first | with_reducible assumption | with_reducible exact Below.refl _ _ | with_reducible apply Below.drew | with_reducible apply below_drewN | with_reducible apply Below.alloc (hB := (by first | omega | (simp; done) | (simp; omega))) | with_reducible apply Below.setCell (hp := (by first | omega | (simp; done) | (simp; omega))))).trans (hb1.mono (by first | omega | (simp; done) | (simp; omega))); have kz1 := K1.size; clear hs1 hn1)) | (go_at_call 20; go_loud (refine (step_calls2 (d := M.wd14 500) (Rob.made HS1.out (show Below w1.heap.size w1 _ from (by repeat first | with_reducible assumption | with_reducible exact Below.refl _ _ | with_reducible apply Below.drew | with_reducible apply below_drewN | with_reducible apply Below.alloc (hB := (by first | omega | (simp; done) | (simp; omega))) | with_reducible apply Below.setCell (hp := (by first | omega | (simp; done) | (simp; omega)))))) HI.out M.step14).mono ?_; rintro e w2 ⟨a2, c2, v2, rfl, hr2, ho2, hb2⟩; have HR2 := Lib.hid hr2; have K2 : Below w.heap.size w w2 := (show Below w.heap.size w _ from (by repeat first | with_reducible assumption | with_reducible exact Below.refl _ _ | with_reducible apply Below.drew | with_reducible apply below_drewN | with_reducible apply Below.alloc (hB := (by first | omega | (simp; done) | (simp; omega))) | with_reducible apply Below.setCell (hp := (by first | omega | (simp; done) | (simp; omega))))).trans (hb2.mono (by first | omega | (simp; done) | (simp; omega))); have kz2 := K2.size; clear hr2 ho2)) | (go_at_call 13; go_loud (refine (get_calls (HR2.out.at_.below (show Below w2.heap.size w2 _ from (by repeat first | with_reducible assumption | with_reducible exact Below.refl _ _ | with_reducible apply Below.drew | with_reducible apply below_drewN | with_reducible apply Below.alloc (hB := (by first | omega | (simp; done) | (simp; omega))) | with_reducible apply Below.setCell (hp := (by first | omega | (simp; done) | (simp; omega)))))) 0).mono ?_; rw [show M.get (M.wd14 507).things 0 = (11, M.row14 507, true) from M.get14]; rintro e w3 ⟨rfl, hb3⟩; have K3 : Below w.heap.size w w3 := (show Below w.heap.size w _ from (by repeat first | with_reducible assumption | with_reducible exact Below.refl _ _ | with_reducible apply Below.drew | with_reducible apply below_drewN | with_reducible apply Below.alloc (hB := (by first | omega | (simp; done) | (simp; omega))) | with_reducible apply Below.setCell (hp := (by first | omega | (simp; done) | (simp; omega))))).trans (hb3.mono (by first | omega | (simp; done) | (simp; omega))); have kz3 := K3.size)))
  go_ret
  exact ⟨rfl, (by repeat first | with_reducible assumption | with_reducible exact Below.refl _ _ | with_reducible apply Below.drew | with_reducible apply below_drewN | with_reducible apply Below.alloc (hB := (by first | omega | (simp; done) | (simp; omega))) | with_reducible apply Below.setCell (hp := (by first | omega | (simp; done) | (simp; omega))))⟩
end Go.Proofs.YtkpecagkpjabdabGreat
