/- The walk of TopKills. Condition: the acts lie in memory, their numbers are of 64 bits. -/
import Derived.Test.YtkpecagkpjabdacGreatGameTwo
import Derived.Test.YtkpecagkpjabdacGreatLawKills
namespace Go.Proofs.YtkpecagkpjabdacGreat
open Go.RowKit
set_option linter.unusedVariables false
set_option linter.unusedSimpArgs false
set_option maxRecDepth 100000
set_option maxHeartbeats 8000000 in
set_option maxRecDepth 100000 in
theorem topKills_walk (size fall : Int) (l : List M.Act) (id : Int) (w : World) {v : Value} (hs : I64 size) (hf : I64 fall) (h : ActsAt w 0 v l ∧ ∀ x ∈ l, ActIn x) (hid : I64 id) :
    Calls Tryz.prog 8 #[.int .i64 size, .int .i64 fall, v, .int .i64 id] w fun e w' => e = .returned (.bool true) ∧ Below w.heap.size w w' := by
  have HP := Lib.hid (fun U (hb : Below w.heap.size w U) => playq_calls (h.1.below hb) h.2 hs hf)
  obtain ⟨av, cv, rfl⟩ := h.1.val
  have GP := Lib.hid (M.played_good size fall l)
  have ha0 := (M.played_acts size fall l).1
  have ha1 := (M.played_acts size fall l).2
  obtain ⟨P, hP⟩ : ∃ P, P = M.played size fall l := ⟨_, rfl⟩
  rw [← hP] at HP GP ha0 ha1
  have HXK : Hid (ActIn (M.killAct id)) := Lib.hid (by simp only [ActIn, M.killAct, RowOk, M.row0, I64] at hid ⊢; omega)
  have HXS : Hid (ActIn (M.stepAct 3)) := Lib.hid (by simp only [ActIn, M.stepAct, RowOk, M.row0, I64]; omega)
  obtain ⟨hk1, hk2⟩ := M.kills GP.out ha1 id
  have hg2 := M.doAct_good GP.out (M.killAct id)
  have ha2 := M.doAct_acts0 (g := P) (M.killAct id) ha0
  have hg7 := M.doAct_good hg2 (M.stepAct 3)
  have ha7 := M.doAct_acts0 (g := (M.doAct P (M.killAct id)).1) (M.stepAct 3) ha2
  obtain ⟨G2, r2, hd2⟩ : ∃ G' r, M.doAct P (M.killAct id) = (G', r) := ⟨_, _, rfl⟩
  rw [hd2] at hk1 hk2 hg2 ha2 hg7 ha7
  simp only at hk1 hk2 hg2 ha2 hg7 ha7
  obtain ⟨G7, r7, hd7⟩ : ∃ G' r, M.doAct G2 (M.stepAct 3) = (G', r) := ⟨_, _, rfl⟩
  rw [hd7] at hk2 hg7 ha7
  simp only at hk2 hg7 ha7
  obtain ⟨G9, r9, hd9⟩ : ∃ G' r, M.doAct G7 (M.killAct id) = (G', r) := ⟨_, _, rfl⟩
  rw [hd9] at hk2
  simp only at hk2
  have HD2 := Lib.hid hd2
  have HD7 := Lib.hid hd7
  have HD9 := Lib.hid hd9
  have HG2g := Lib.hid hg2
  have HG7g := Lib.hid hg7
  have HK1 := Lib.hid hk1
  have HK2 := Lib.hid hk2
  clear h hP hd2 hd7 hd9 hg2 hg7 hk1 hk2
  have FT := field_things
  have FC := field_code
  go_enter Tryz.func8, Tryz.ntmps8
  go_upto_region 4 with (go_at_call 23; go_loud (refine (HP.out _ (by repeat first | with_reducible assumption | with_reducible exact Below.refl _ _ | with_reducible apply Below.drew | with_reducible apply below_drewN | with_reducible apply Below.alloc (hB := (by first | omega | (simp; done) | (simp; omega))) | with_reducible apply Below.setCell (hp := (by first | omega | (simp; done) | (simp; omega))))).mono ?_; rintro e w1 ⟨Q1, g1, a1, c1, sv1, hs1, rfl, hg1, hQ1, hb1⟩; have HG1 := Lib.hid hg1; have HQ1 := Lib.hid hQ1; have kz1 := hb1.size; (try simp at kz1); have K1 : Below w.heap.size w w1 := (show Below w.heap.size w _ from (by repeat first | with_reducible assumption | with_reducible exact Below.refl _ _ | with_reducible apply Below.drew | with_reducible apply below_drewN | with_reducible apply Below.alloc (hB := (by first | omega | (simp; done) | (simp; omega))) | with_reducible apply Below.setCell (hp := (by first | omega | (simp; done) | (simp; omega))))).trans (hb1.mono (by first | omega | (simp; done) | (simp; omega))); have kw1 := K1.size; clear hg1 hQ1))
  have HE2 := Lib.hid (do_calls2 HG1.out (fun b q => (HQ1.out b q).2) GP.out ha0 HXK.out HD2.out)
  go_upto_region 5 with (go_at_call_of 15 g1; go_loud (refine HE2.out.mono ?_; rintro e w2 ⟨ai2, ci2, am2, cm2, Q2, a2, c2, sv2, hs2, rfl, hg2, hQ2, ho2, hi2, hm2⟩; have HG2 := Lib.hid hg2; have HQ2 := Lib.hid hQ2; have HO2 := Lib.hid ho2; have HI2 := Lib.hid hi2; have HM2 := Lib.hid hm2; have kz2 := ho2.size; (try simp at kz2); clear hg2 hQ2 ho2 hi2 hm2))
  refine wp_called (fun W3 hW3 => ?_)
  have B3 : Blk W3 w2.heap.size 40 #[.int .i64 r2.code, .int .i64 r2.n, .slice ai2 r2.ids.length ci2, .slice am2 r2.met.length cm2] := by rw [hW3]; exact Blk.new_at rfl
  have K23 : Below w2.heap.size w2 W3 := by rw [hW3]; exact (by repeat first | with_reducible assumption | with_reducible exact Below.refl _ _ | with_reducible apply Below.drew | with_reducible apply below_drewN | with_reducible apply Below.alloc (hB := (by first | omega | (simp; done) | (simp; omega))) | with_reducible apply Below.setCell (hp := (by first | omega | (simp; done) | (simp; omega))))
  have K2 : Below w.heap.size w w2 := K1.trans (HO2.out.below kw1 (fun b q => (HQ1.out b q).1))
  have K3 : Below w.heap.size w W3 := K2.trans (K23.mono K2.size)
  have HG3 := Lib.hid (HG2.out.behind K23)
  have kz3 := K23.size
  have kw3 := K3.size
  have kw2 := K2.size
  have lb3 := B3.lt
  have u0 := B3.cell 0
  simp at u0
  have HK3 := Lib.hid K3
  clear hW3 B3 HE2 K1 K2 K23
  by_cases hc : r2.code = 0
  · obtain ⟨hget, hmet, hr9⟩ := HK2.out hc
    have q0 : (r2.code != 0) = false := by simpa using hc
    obtain ⟨gm, gr, gb, hgg⟩ : ∃ gm gr gb, M.get G2.w.things id = (gm, gr, gb) := ⟨_, _, _, rfl⟩
    rw [hgg] at hget
    simp only at hget
    subst hget
    have HGG := Lib.hid hgg
    have HMT := Lib.hid hmet
    have HR9 := Lib.hid hr9
    have HW := Lib.hid (fun U (hb : Below W3.heap.size W3 U) => gworld_calls (HG3.out.below hb) HG2g.out)
    clear hc hgg hmet hr9
    go_upto_region 8 with (first | (go_at_call_of 13 g1; go_loud (refine (HW.out _ (by repeat first | with_reducible assumption | with_reducible exact Below.refl _ _ | with_reducible apply Below.drew | with_reducible apply below_drewN | with_reducible apply Below.alloc (hB := (by first | omega | (simp; done) | (simp; omega))) | with_reducible apply Below.setCell (hp := (by first | omega | (simp; done) | (simp; omega))))).mono ?_; rintro e w4 ⟨a4, c4, hs4, rfl, ho4, hb4⟩; have HO4 := Lib.hid ho4; have kz4 := hb4.size; (try simp at kz4); have HB4 := Lib.hid hb4; clear ho4)) | (go_at_call 28; go_loud (refine (get_calls (s := G2.w.things) (HO4.out.at_.mono (Nat.zero_le _)) id).mono ?_; rw [HGG.out]; rintro e w5 ⟨rfl, hb5⟩; have kz5 := hb5.size; have K35 : Below W3.heap.size W3 w5 := HB4.out.trans (hb5.mono kz4))))
    refine wp_called (fun W6 hW6 => ?_)
    have K36 : Below W3.heap.size W3 W6 := by rw [hW6]; exact K35.trans (Below.mono (B' := W3.heap.size) (show Below w5.heap.size w5 _ from (by repeat first | with_reducible assumption | with_reducible exact Below.refl _ _ | with_reducible apply Below.drew | with_reducible apply below_drewN | with_reducible apply Below.alloc (hB := (by first | omega | (simp; done) | (simp; omega))) | with_reducible apply Below.setCell (hp := (by first | omega | (simp; done) | (simp; omega))))) K35.size)
    have HG6 := Lib.hid (HG3.out.below K36)
    have kz6 := K36.size
    have HE7 := Lib.hid (do_calls2 HG6.out (fun b q => by have := q.2; omega) HG2g.out ha2 HXS.out HD7.out)
    have K6 : Below w.heap.size w W6 := K3.trans (K36.mono kw3)
    have kw6 := K6.size
    clear hW6 u0
    go_upto_region 9 with (go_at_call_of 15 g1; go_loud (refine HE7.out.mono ?_; rintro e w7 ⟨ai7, ci7, am7, cm7, Q7, a7, c7, sv7, hs7, rfl, hg7, hQ7, ho7, hi7, hm7⟩; have HG7 := Lib.hid hg7; have HQ7 := Lib.hid hQ7; have HO7 := Lib.hid ho7; have HI7 := Lib.hid hi7; have HM7 := Lib.hid hm7; have kz7 := ho7.size; (try simp at kz7); clear hg7 hQ7 ho7 hi7 hm7))
    refine wp_called (fun W8 hW8 => ?_)
    have B8 : Blk W8 w7.heap.size 40 #[.int .i64 r7.code, .int .i64 r7.n, .slice ai7 r7.ids.length ci7, .slice am7 r7.met.length cm7] := by rw [hW8]; exact Blk.new_at rfl
    have K78 : Below w7.heap.size w7 W8 := by rw [hW8]; exact (by repeat first | with_reducible assumption | with_reducible exact Below.refl _ _ | with_reducible apply Below.drew | with_reducible apply below_drewN | with_reducible apply Below.alloc (hB := (by first | omega | (simp; done) | (simp; omega))) | with_reducible apply Below.setCell (hp := (by first | omega | (simp; done) | (simp; omega))))
    have K7 : Below w.heap.size w w7 := K6.trans (HO7.out.below kw6 (fun b q => by
      rcases (HQ2.out b q.1).1 with k | k
      · exact (HQ1.out b k).1
      · omega))
    have K8 : Below w.heap.size w W8 := K7.trans (K78.mono K7.size)
    have HG8 := Lib.hid (HG7.out.behind K78)
    have kz8 := K78.size
    have kw8 := K8.size
    have HB8 := Lib.hid B8
    have HPM : Hid (PairsAt W8 0 (.slice am7 r7.met.length cm7) r7.met) := Lib.hid ((Lies.mono (Lies.of_owns HM7.out) (Nat.zero_le _)).below K78)
    have hmm : r7.met.length ≤ 9223372036854775807 := by have := HPM.out.max; unfold maxLen at this; omega
    have u3 := B8.cell 3
    simp at u3
    have lb8 := B8.lt
    have HK8 := Lib.hid K8
    clear hW8 B8 HE7 K3 K6 K36 K7 K78 K8
    go_wp2_with fail
    clear u3
    go_loopg [52] r7.met.length (fun g i wr => ∃ n : Nat, n ≤ r7.met.length ∧ i = .int .i64 n ∧ g = r7.met.length - n ∧ Below W8.heap.size W8 wr)
    case atStart => exact ⟨0, Nat.zero_le _, rfl, rfl, Below.refl _ _⟩
    case round =>
      obtain ⟨wo, hwo⟩ : ∃ wo, wo = wr := ⟨_, rfl⟩
      subst hwo
      obtain ⟨n, hn, rfl, hk, hb⟩ := hrel
      have HB := Lib.hid hb
      have HK := Lib.hid hk
      have ko := hb.size
      clear hk hb
      rcases Nat.lt_or_ge n r7.met.length with hlt | hge
      · obtain ⟨p, hp⟩ : ∃ p, r7.met[n]? = some p := ⟨_, List.getElem?_eq_getElem hlt⟩
        obtain ⟨b, o, cap, e3, _, i1, i2⟩ := (HPM.out.below HB.out).at2 hp
        obtain ⟨rfl, rfl⟩ : am7 = some ⟨b, o, none⟩ ∧ cm7 = cap := by simpa using e3
        obtain ⟨ne1, ne2⟩ := HMT.out p (List.mem_of_getElem? hp)
        have q1 : (p.1 == id) = false := by simpa using ne1
        have q2 : (p.2 == id) = false := by simpa using ne2
        clear e3 hp ne1 ne2
        go_wp2_with fail
        go_roundg (r7.met.length - (n + 1))
        case measure => rw [HK.out]; omega
        case rel => exact ⟨n + 1, by omega, by go_num, rfl, HB.out.trans ((show Below wo.heap.size wo _ from (by repeat first | with_reducible assumption | with_reducible exact Below.refl _ _ | with_reducible apply Below.drew | with_reducible apply below_drewN | with_reducible apply Below.alloc (hB := (by first | omega | (simp; done) | (simp; omega))) | with_reducible apply Below.setCell (hp := (by first | omega | (simp; done) | (simp; omega))))).mono ko)⟩
      · obtain rfl : n = r7.met.length := by omega
        have q9 : decide ((r7.met.length : Int) < (r7.met.length : Int)) = false := decide_eq_false (by omega)
        have HGO := Lib.hid (HG8.out.below HB.out)
        have HE9 := Lib.hid (do_calls2 HGO.out (fun b q => by have := q.2; omega) HG7g.out ha7 HXK.out HD9.out)
        have q3 : (r9.code == 3) = true := by have := HR9.out; simpa using this
        go_wp2_with (go_at_call_of 15 g1; go_loud (refine HE9.out.mono ?_; rintro e w9 ⟨ai9, ci9, am9, cm9, Q9, a9, c9, sv9, hs9, rfl, hg9, hQ9, ho9, hi9, hm9⟩; have HG9 := Lib.hid hg9; have HQ9 := Lib.hid hQ9; have HO9 := Lib.hid ho9; have HI9 := Lib.hid hi9; have HM9 := Lib.hid hm9; have kz9 := ho9.size; (try simp at kz9); clear hg9 hQ9 ho9 hi9 hm9))
        go_ret
        refine ⟨rfl, (HK8.out.trans (HB.out.mono kw8)).trans (HO9.out.below (by omega) (fun b q => ?_))⟩
        rcases (HQ7.out b q.1).1 with k | k
        · rcases (HQ2.out b k.1).1 with k | k
          · exact (HQ1.out b k).1
          · omega
        · omega
  · have q0 : (r2.code != 0) = true := by simpa using hc
    have q1 : (r2.code == 3) = true := by
      rcases HK1.out with k | k
      · exact absurd k hc
      · simpa using k
    clear hc
    go_wp2_with fail
    go_ret
    exact ⟨rfl, K3⟩
end Go.Proofs.YtkpecagkpjabdacGreat
