/- The walk of TopRefused. Condition: the acts lie in memory, their numbers are of 64 bits. -/
import Derived.Test.YtkpecagkpjabdacGreatGameTwo
import Derived.Test.YtkpecagkpjabdacGreatGameSame
import Derived.Test.YtkpecagkpjabdacGreatBagP
namespace Go.Proofs.YtkpecagkpjabdacGreat
open Go.RowKit
set_option linter.unusedVariables false
set_option linter.unusedSimpArgs false
set_option maxRecDepth 100000
set_option maxHeartbeats 8000000 in
set_option maxRecDepth 100000 in
theorem topRefused_walk (size fall : Int) (l : List M.Act) (x : M.Act) (w : World) {v vx : Value} (hs : I64 size) (hf : I64 fall) (h : ActsAt w 0 v l ∧ ∀ x ∈ l, ActIn x) (hx : vx = actV x ∧ ActIn x) :
    Calls Tryz.prog 9 #[.int .i64 size, .int .i64 fall, v, vx] w fun e w' => e = .returned (.bool true) ∧ Below w.heap.size w w' := by
  obtain ⟨rfl, hxi⟩ := hx
  have HP := Lib.hid (fun U (hb : Below w.heap.size w U) => playq_calls (h.1.below hb) h.2 hs hf)
  obtain ⟨av, cv, rfl⟩ := h.1.val
  have GP := Lib.hid (M.played_good size fall l)
  have ha0 := (M.played_acts size fall l).1
  have ha1 := (M.played_acts size fall l).2
  obtain ⟨P, hP⟩ : ∃ P, P = M.played size fall l := ⟨_, rfl⟩
  rw [← hP] at HP GP ha0 ha1
  obtain ⟨G', r, hd⟩ : ∃ G' r, M.doAct P x = (G', r) := ⟨_, _, rfl⟩
  have HD := Lib.hid hd
  have hgood := M.doAct_good GP.out x
  rw [hd] at hgood
  have GG := Lib.hid hgood
  have href := fun hc => M.doAct_refused (g := P) (a := x) hc
  rw [hd] at href
  have HREF := Lib.hid href
  clear h hP hd hgood href
  go_enter Tryz.func9, Tryz.ntmps9
  go_upto_region 2 with (go_at_call 23; go_loud (refine (HP.out _ (by repeat first | with_reducible assumption | with_reducible exact Below.refl _ _ | with_reducible apply Below.drew | with_reducible apply below_drewN | with_reducible apply Below.alloc (hB := (by first | omega | (simp; done) | (simp; omega))) | with_reducible apply Below.setCell (hp := (by first | omega | (simp; done) | (simp; omega))))).mono ?_; rintro e w1 ⟨Q1, g1, a1, c1, sv1, hs1, rfl, hg1, hQ1, hb1⟩; have HG1 := Lib.hid hg1; have HQ1 := Lib.hid hQ1; have kz1 := hb1.size; (try simp at kz1); have K1 : Below w.heap.size w w1 := (show Below w.heap.size w _ from (by repeat first | with_reducible assumption | with_reducible exact Below.refl _ _ | with_reducible apply Below.drew | with_reducible apply below_drewN | with_reducible apply Below.alloc (hB := (by first | omega | (simp; done) | (simp; omega))) | with_reducible apply Below.setCell (hp := (by first | omega | (simp; done) | (simp; omega))))).trans (hb1.mono (by first | omega | (simp; done) | (simp; omega))); have kw1 := K1.size; clear hg1 hQ1))
  have b1 : Blk w1 w.heap.size 27 (actC x) := (Blk.new w 27 (actC x)).below hb1 (by simp)
  go_upto_region 5 with (go_at_call 23; go_loud (refine (HP.out _ (by repeat first | with_reducible assumption | with_reducible exact Below.refl _ _ | with_reducible apply Below.drew | with_reducible apply below_drewN | with_reducible apply Below.alloc (hB := (by first | omega | (simp; done) | (simp; omega))) | with_reducible apply Below.setCell (hp := (by first | omega | (simp; done) | (simp; omega))))).mono ?_; rintro e w2 ⟨Q2, g2, a2, c2, sv2, hs2, rfl, hg2, hQ2, hb2⟩; have HG2 := Lib.hid hg2; have HQ2 := Lib.hid hQ2; have kz2 := hb2.size; (try simp at kz2); have K2 : Below w.heap.size w w2 := (show Below w.heap.size w _ from (by repeat first | with_reducible assumption | with_reducible exact Below.refl _ _ | with_reducible apply Below.drew | with_reducible apply below_drewN | with_reducible apply Below.alloc (hB := (by first | omega | (simp; done) | (simp; omega))) | with_reducible apply Below.setCell (hp := (by first | omega | (simp; done) | (simp; omega))))).trans (hb2.mono (by first | omega | (simp; done) | (simp; omega))); have kw2 := K2.size; clear hg2 hQ2))
  have bA : Blk w2 w.heap.size 27 (actC x) := b1.below hb2 b1.lt
  have HG12 := Lib.hid (HG1.out.below hb2)
  have HD3 := Lib.hid (do_calls2 HG12.out (fun b q => by have := (HQ1.out b q).2; omega) GP.out ha0 hxi HD.out)
  have x0 := bA.cell 0
  have x1 := bA.cell 1
  have x2 := bA.cell 2
  have x3 := bA.cell 3
  have x4 := bA.cell 4
  have x5 := bA.cell 5
  have x6 := bA.cell 6
  have x7 := bA.cell 7
  have x8 := bA.cell 8
  have x9 := bA.cell 9
  have x10 := bA.cell 10
  have x11 := bA.cell 11
  have x12 := bA.cell 12
  have x13 := bA.cell 13
  have x14 := bA.cell 14
  have x15 := bA.cell 15
  have x16 := bA.cell 16
  simp at x0 x1 x2 x3 x4 x5 x6 x7 x8 x9 x10 x11 x12 x13 x14 x15 x16
  go_upto_region 6 with (go_at_call_of 15 g1; go_loud (refine HD3.out.mono ?_; rintro e w3 ⟨ai3, ci3, am3, cm3, Q3, a3, c3, sv3, hs3, rfl, hg3, hQ3, ho3, hi3, hm3⟩; have HG3 := Lib.hid hg3; have HQ3 := Lib.hid hQ3; have HO3 := Lib.hid ho3; have HI3 := Lib.hid hi3; have HM3 := Lib.hid hm3; have kz3 := ho3.size; (try simp at kz3); clear hg3 hQ3 ho3 hi3 hm3))
  refine wp_called (fun W4 hW4 => ?_)
  have B4 : Blk W4 w3.heap.size 40 #[.int .i64 r.code, .int .i64 r.n, .slice ai3 r.ids.length ci3, .slice am3 r.met.length cm3] := by rw [hW4]; exact Blk.new_at rfl
  have K34 : Below w3.heap.size w3 W4 := by rw [hW4]; exact (by repeat first | with_reducible assumption | with_reducible exact Below.refl _ _ | with_reducible apply Below.drew | with_reducible apply below_drewN | with_reducible apply Below.alloc (hB := (by first | omega | (simp; done) | (simp; omega))) | with_reducible apply Below.setCell (hp := (by first | omega | (simp; done) | (simp; omega))))
  have K3 : Below w.heap.size w w3 := K2.trans (HO3.out.below kw2 (fun b q => by have := (HQ1.out b q).1; simp at this; omega))
  have K4 : Below w.heap.size w W4 := K3.trans (K34.mono K3.size)
  have HG4 := Lib.hid (HG3.out.behind K34)
  have HH4 := Lib.hid ((HG2.out.only HO3.out (fun b q r => by have := (HQ1.out b r).2; have := (HQ2.out b q).1; omega)).below K34)
  have kz4 := K34.size
  have kw4 := K4.size
  have lb4 := B4.lt
  have u0 := B4.cell 0
  have u1 := B4.cell 1
  have u2 := B4.cell 2
  have u3 := B4.cell 3
  simp at u0 u1 u2 u3
  clear hW4 x0 x1 x2 x3 x4 x5 x6 x7 x8 x9 x10 x11 x12 x13 x14 x15 x16 bA b1 B4 HD3
  by_cases hc : r.code = 0
  · have q0 : (r.code == 0) = true := by simpa using hc
    clear hc
    go_wp2_with fail
    go_ret
    exact ⟨rfl, K4⟩
  · have q0 : (r.code == 0) = false := by simpa using hc
    obtain ⟨⟨hn, hi, hm⟩, hw⟩ := HREF.out hc
    (try simp only at hn hi hm hw)
    have q1 : (r.n == 0) = true := by simpa using hn
    have q2 : r.ids.length = 0 := by rw [hi]; rfl
    have q3 : r.met.length = 0 := by rw [hm]; rfl
    have HWG := Lib.hid (fun U (hb : Below W4.heap.size W4 U) => gworld_calls (HG4.out.below hb) GG.out)
    rw [hw] at HWG
    have HWH := Lib.hid (fun U (hb : Below W4.heap.size W4 U) => gworld_calls (HH4.out.below hb) GP.out)
    clear hc hn hi hm hw
    go_wp2_with (first | (go_at_call_of 13 g1; go_loud (refine (HWG.out _ (by repeat first | with_reducible assumption | with_reducible exact Below.refl _ _ | with_reducible apply Below.drew | with_reducible apply below_drewN | with_reducible apply Below.alloc (hB := (by first | omega | (simp; done) | (simp; omega))) | with_reducible apply Below.setCell (hp := (by first | omega | (simp; done) | (simp; omega))))).mono ?_; rintro e w5 ⟨a5, c5, hs5, rfl, ho5, hb5⟩; have HO5 := Lib.hid ho5; have kz5 := hb5.size; (try simp at kz5); have HB5 := Lib.hid hb5; clear ho5)) | (go_at_call_of 13 g2; go_loud (refine (HWH.out _ (by repeat first | with_reducible assumption | with_reducible exact Below.refl _ _ | with_reducible apply Below.drew | with_reducible apply below_drewN | with_reducible apply Below.alloc (hB := (by first | omega | (simp; done) | (simp; omega))) | with_reducible apply Below.setCell (hp := (by first | omega | (simp; done) | (simp; omega))))).mono ?_; rintro e w6 ⟨a6, c6, hs6, rfl, ho6, hb6⟩; have HO6 := Lib.hid ho6; have kz6 := hb6.size; (try simp at kz6); have HB6 := Lib.hid hb6; clear ho6)) | (go_at_call 26; go_loud (refine (same_calls (d := P.w) ((HO5.out.at_.mono (Nat.zero_le _)).below HB6.out) (HO6.out.at_.mono (Nat.zero_le _)) GP.out.w).mono ?_; rintro e w7 ⟨rfl, hb7⟩; have K7 : Below W4.heap.size W4 w7 := (HB5.out.trans (HB6.out.mono kz5)).trans (hb7.mono (by omega)))))
    go_ret
    exact ⟨rfl, K4.trans (K7.mono kw4)⟩
end Go.Proofs.YtkpecagkpjabdacGreat
