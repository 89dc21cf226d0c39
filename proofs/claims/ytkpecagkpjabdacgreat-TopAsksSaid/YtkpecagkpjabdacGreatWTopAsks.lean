/- The walk of TopAsks. Condition: the acts lie in memory, their numbers are of 64 bits. -/
import Derived.Test.YtkpecagkpjabdacGreatGameTwo
import Derived.Test.YtkpecagkpjabdacGreatGameSame
import Derived.Test.YtkpecagkpjabdacGreatLawAsks
import Derived.Test.YtkpecagkpjabdacGreatWorldMeets
namespace Go.Proofs.YtkpecagkpjabdacGreat
open Go.RowKit
set_option linter.unusedVariables false
set_option linter.unusedSimpArgs false
set_option maxRecDepth 100000
set_option maxHeartbeats 16000000 in
set_option maxRecDepth 100000 in
theorem topAsks_walk (size fall : Int) (l : List M.Act) (b : M.Box) (w : World) {v vx : Value} (hs : I64 size) (hf : I64 fall) (h : ActsAt w 0 v l ∧ ∀ x ∈ l, ActIn x) (hx : vx = boxV b ∧ BoxIn b) :
    Calls Tryz.prog 7 #[.int .i64 size, .int .i64 fall, v, vx] w fun e w' => e = .returned (.bool true) ∧ Below w.heap.size w w' := by
  obtain ⟨rfl, hbi⟩ := hx
  have HP := Lib.hid (fun U (hb : Below w.heap.size w U) => playq_calls (h.1.below hb) h.2 hs hf)
  obtain ⟨av, cv, rfl⟩ := h.1.val
  have GP := Lib.hid (M.played_good size fall l)
  have ha0 := (M.played_acts size fall l).1
  have ha1 := (M.played_acts size fall l).2
  obtain ⟨P, hP⟩ : ∃ P, P = M.played size fall l := ⟨_, rfl⟩
  rw [← hP] at HP GP ha0 ha1
  have HXL : Hid (ActIn (M.lookAct b)) := Lib.hid (by simp only [ActIn, M.lookAct, RowOk, M.row0, I64, BoxIn] at hbi ⊢; omega)
  obtain ⟨L, hL⟩ : ∃ L, L = M.boxes P.w.things := ⟨_, rfl⟩
  have hfew : L.length ≤ 10 := by rw [hL]; exact M.boxes_few GP.out.w.things
  have hids := M.look_asks GP.out.w.things b
  rw [← hL] at hids
  obtain ⟨ids, eids⟩ : ∃ ids, ids = (L.filter fun a => M.meetB a b).map (·.id) := ⟨_, rfl⟩
  rw [← eids] at hids
  have hd := M.doAct_look (g := P) (by omega) b
  rw [← hL, hids] at hd
  have HD := Lib.hid hd
  have HL := Lib.hid hL
  have HAT : Hid (∀ (i : Nat) x, L[i]? = some x → M.meetB x b = true → ids[M.toldK L b i]? = some x.id) := Lib.hid (fun i x h1 h2 => by rw [eids]; exact M.told_at h1 h2)
  have HALL : Hid (M.toldK L b L.length = ids.length) := Lib.hid (by rw [eids]; exact M.told_all L b)
  have hgood := M.doAct_good GP.out (M.lookAct b)
  rw [hd] at hgood
  have GG := Lib.hid hgood
  clear h hP hd hids eids hL hgood
  go_enter Tryz.func7, Tryz.ntmps7
  go_upto_region 4 with (go_at_call 23; go_loud (refine (HP.out _ (by repeat first | with_reducible assumption | with_reducible exact Below.refl _ _ | with_reducible apply Below.drew | with_reducible apply below_drewN | with_reducible apply Below.alloc (hB := (by first | omega | (simp; done) | (simp; omega))) | with_reducible apply Below.setCell (hp := (by first | omega | (simp; done) | (simp; omega))))).mono ?_; rintro e w1 ⟨Q1, g1, a1, c1, sv1, hs1, rfl, hg1, hQ1, hb1⟩; have HG1 := Lib.hid hg1; have HQ1 := Lib.hid hQ1; have kz1 := hb1.size; (try simp at kz1); have K1 : Below w.heap.size w w1 := (show Below w.heap.size w _ from (by repeat first | with_reducible assumption | with_reducible exact Below.refl _ _ | with_reducible apply Below.drew | with_reducible apply below_drewN | with_reducible apply Below.alloc (hB := (by first | omega | (simp; done) | (simp; omega))) | with_reducible apply Below.setCell (hp := (by first | omega | (simp; done) | (simp; omega))))).trans (hb1.mono (by first | omega | (simp; done) | (simp; omega))); have kw1 := K1.size; clear hg1 hQ1))
  have b1 : Blk w1 w.heap.size 25 (boxC b) := (Blk.new w 25 (boxC b)).below hb1 (by simp)
  have HB1 := Lib.hid b1
  have HW2 := Lib.hid (fun U (hb : Below w1.heap.size w1 U) => gworld_calls (HG1.out.below hb) GP.out)
  clear b1
  go_upto_region 5 with (go_at_call_of 13 g1; go_loud (refine (HW2.out _ (by repeat first | with_reducible assumption | with_reducible exact Below.refl _ _ | with_reducible apply Below.drew | with_reducible apply below_drewN | with_reducible apply Below.alloc (hB := (by first | omega | (simp; done) | (simp; omega))) | with_reducible apply Below.setCell (hp := (by first | omega | (simp; done) | (simp; omega))))).mono ?_; rintro e w2 ⟨a2, c2, hs2, rfl, ho2, hb2⟩; have HO2 := Lib.hid ho2; have kz2 := hb2.size; (try simp at kz2); have HB2 := Lib.hid hb2; clear ho2))
  refine wp_called (fun W3 hW3 => ?_)
  have B3 : Blk W3 w2.heap.size 33 (worldC (.slice a2 P.w.things.tables.length c2) P.w) := by rw [hW3]; exact Blk.new_at rfl
  have K23 : Below w2.heap.size w2 W3 := by rw [hW3]; exact (by repeat first | with_reducible assumption | with_reducible exact Below.refl _ _ | with_reducible apply Below.drew | with_reducible apply below_drewN | with_reducible apply Below.alloc (hB := (by first | omega | (simp; done) | (simp; omega))) | with_reducible apply Below.setCell (hp := (by first | omega | (simp; done) | (simp; omega))))
  have K13 : Below w1.heap.size w1 W3 := HB2.out.trans (K23.mono kz2)
  have K3 : Below w.heap.size w W3 := K1.trans (K13.mono kw1)
  have HG3 := Lib.hid (HG1.out.behind K13)
  have HB3 := Lib.hid B3
  have bA : Blk W3 w.heap.size 25 (boxC b) := HB1.out.below K13 HB1.out.lt
  have HBA := Lib.hid bA
  have HST3 : Hid (StoreAt W3 (w1.heap.size + 1) (stV a2 c2 P.w.things) P.w.things) := Lib.hid (HO2.out.at_.below K23)
  have kz3 := K23.size
  have kz13 := K13.size
  have kw3 := K3.size
  have lA := bA.lt
  have x0 := bA.cell 0
  have x1 := bA.cell 1
  have x2 := bA.cell 2
  have x3 := bA.cell 3
  have x4 := bA.cell 4
  simp at x0 x1 x2 x3 x4
  have HK3 := Lib.hid K3
  have HE4 := Lib.hid (do_calls2 (r := ⟨0, 0, ids, []⟩) (G' := M.more P) HG3.out (fun b q => by have := q.2; omega) GP.out ha0 HXL.out HD.out)
  clear hW3 B3 K23 K13 K1 K3 bA
  go_upto_region 6 with (go_at_call_of 15 g1; go_loud (refine HE4.out.mono ?_; rintro e w4 ⟨ai4, ci4, am4, cm4, Q4, a4, c4, sv4, hs4, rfl, hg4, hQ4, ho4, hi4, hm4⟩; have HG4 := Lib.hid hg4; have HQ4 := Lib.hid hQ4; have HO4 := Lib.hid ho4; have HI4 := Lib.hid hi4; have HM4 := Lib.hid hm4; have kz4 := ho4.size; (try simp at kz4); clear hg4 hQ4 ho4 hi4 hm4))
  refine wp_called (fun W5 hW5 => ?_)
  have B5 : Blk W5 w4.heap.size 40 #[.int .i64 0, .int .i64 0, .slice ai4 ids.length ci4, .slice am4 0 cm4] := by rw [hW5]; exact Blk.new_at rfl
  have K45 : Below w4.heap.size w4 W5 := by rw [hW5]; exact (by repeat first | with_reducible assumption | with_reducible exact Below.refl _ _ | with_reducible apply Below.drew | with_reducible apply below_drewN | with_reducible apply Below.alloc (hB := (by first | omega | (simp; done) | (simp; omega))) | with_reducible apply Below.setCell (hp := (by first | omega | (simp; done) | (simp; omega))))
  have HB5 := Lib.hid B5
  have HB35 := Lib.hid ((HB3.out.only HO4.out (fun q => by have := q.2; omega)).below K45 (by have := (HB3.out.only HO4.out (fun q => by have := q.2; omega)).lt; exact this))
  have HBA5 := Lib.hid ((HBA.out.only HO4.out (fun q => by have h9 := (HQ1.out _ q.1).1; rw [World.size_alloc] at h9; omega)).below K45 (by have := (HBA.out.only HO4.out (fun q => by have h9 := (HQ1.out _ q.1).1; rw [World.size_alloc] at h9; omega)).lt; exact this))
  have HG5 := Lib.hid (HG4.out.behind K45)
  have HST5 : Hid (StoreAt W5 0 (stV a2 c2 P.w.things) P.w.things) := Lib.hid (((HST3.out.same (fun g h1 h2 => HO4.out.block g h2 (fun q => by have := q.2; omega))).mono (Nat.zero_le _)).below K45)
  have HID5 : Hid (IntsAt W5 0 (.slice ai4 ids.length ci4) ids) := Lib.hid ((Lies.mono (Lies.of_owns HI4.out) (Nat.zero_le _)).below K45)
  have hidm : ids.length ≤ 10 := by have := HALL.out; have := M.toldK_le L b L.length; omega
  have K5 : Below w.heap.size w W5 := (HK3.out.trans (HO4.out.below kw3 (fun b q => by have := (HQ1.out _ q.1).1; simp at this; omega))).trans (K45.mono (by omega))
  have HK5 := Lib.hid K5
  have kw5 := K5.size
  have HBX := Lib.hid (fun U (hb : Below W5.heap.size W5 U) => worldBoxes_calls (HST5.out.below hb) GP.out.w.things)
  rw [← HL.out] at HBX
  have z0 := HB35.out.cell 0
  have z1 := HB35.out.cell 1
  simp at z0 z1
  have lz := HB35.out.lt
  clear hW5 B5 K45 K5 HE4 x0 x1 x2 x3 x4
  go_wp2_with (go_at_call 27; go_loud (refine (HBX.out _ (by repeat first | with_reducible assumption | with_reducible exact Below.refl _ _ | with_reducible apply Below.drew | with_reducible apply below_drewN | with_reducible apply Below.alloc (hB := (by first | omega | (simp; done) | (simp; omega))) | with_reducible apply Below.setCell (hp := (by first | omega | (simp; done) | (simp; omega))))).mono ?_; rintro e w6 ⟨v6, rfl, ho6, hb6⟩; obtain ⟨a6, c6, rfl⟩ := own_form ho6; have HO6 := Lib.hid ho6; have HB6 := Lib.hid hb6; have kz6 := hb6.size; clear ho6))
  have HBS : Hid (BoxesAt5 w6 0 (.slice a6 L.length c6) L) := Lib.hid (Lies.mono (Lies.of_owns HO6.out) (Nat.zero_le _))
  clear z0 z1 hb6
  go_loopg [13, 35] L.length (fun gh m i wr => ∃ n : Nat, n ≤ L.length ∧ i = .int .i64 n ∧ m = .int .i64 (M.toldK L b n : Nat) ∧ gh = L.length - n ∧ Below w6.heap.size w6 wr)
  case atStart => exact ⟨0, Nat.zero_le _, rfl, rfl, rfl, Below.refl _ _⟩
  case round =>
    obtain ⟨wo, hwo⟩ : ∃ wo, wo = wr := ⟨_, rfl⟩
    subst hwo
    obtain ⟨n, hn, rfl, rfl, hk, hb⟩ := hrel
    have HB := Lib.hid hb
    have HK := Lib.hid hk
    have ko := hb.size
    have K5O : Below W5.heap.size W5 wo := HB6.out.trans (hb.mono kz6)
    have k5o := K5O.size
    clear hk hb
    rcases Nat.lt_or_ge n L.length with hlt | hge
    · obtain ⟨x, hx⟩ : ∃ x, L[n]? = some x := ⟨_, List.getElem?_eq_getElem hlt⟩
      obtain ⟨bb, o, cap, e5, _, i0, i1, i2, i3, i4⟩ := (HBS.out.below HB.out).at5 hx
      obtain ⟨rfl, rfl⟩ : a6 = some ⟨bb, o, none⟩ ∧ c6 = cap := by simpa using e5
      have hsucc := M.toldK_succ (b := b) hx
      have hle := M.toldK_le L b n
      have HX := Lib.hid hx
      have bA := HBA5.out.below K5O HBA5.out.lt
      have x0 := bA.cell 0
      have x1 := bA.cell 1
      have x2 := bA.cell 2
      have x3 := bA.cell 3
      have x4 := bA.cell 4
      simp at x0 x1 x2 x3 x4
      have lA := bA.lt
      have nlA1 : ¬ w.heap.size = wo.heap.size := by omega
      have nlA2 : ¬ wo.heap.size = w.heap.size := by omega
      obtain ⟨k, hkk⟩ : ∃ k, k = M.toldK L b n := ⟨_, rfl⟩
      rw [← hkk] at hsucc hle ⊢
      have HKK := Lib.hid hkk
      have HSU := Lib.hid hsucc
      clear e5 hx bA hkk hsucc
      by_cases h1 : x.x1 < b.x2
      · by_cases h2 : b.x1 < x.x2
        · by_cases h3 : x.y1 < b.y2
          · by_cases h4 : b.y1 < x.y2
            · have hm : M.meetB x b = true := (M.meetB_and x b).2 ⟨h1, h2, h3, h4⟩
              have hat := HAT.out n x HX.out hm
              rw [← HKK.out] at hat
              have hkl : k < ids.length := (List.getElem?_eq_some_iff.1 hat).1
              obtain ⟨bi, oi, capi, ei, _, ic⟩ := (HID5.out.below K5O).at hat
              obtain ⟨rfl, rfl⟩ : ai4 = some ⟨bi, oi, none⟩ ∧ ci4 = capi := by simpa using ei
              have bR := HB5.out.below K5O HB5.out.lt
              have r2 := bR.cell 2
              simp at r2
              have lR := bR.lt
              have nlR1 : ¬ w4.heap.size = wo.heap.size := by omega
              have nlR2 : ¬ wo.heap.size = w4.heap.size := by omega
              have li := cell_lt ic
              have nli1 : ¬ bi = wo.heap.size := by omega
              have nli2 : ¬ wo.heap.size = bi := by omega
              have q1 : decide (ids.length ≤ k) = false := by simpa using hkl
              have q2 : decide ((ids.length : Int) ≤ (k : Int)) = false := by rw [decide_eq_false_iff_not]; omega
              have q3 : (0 : Int) ≤ (k : Int) := by omega
              have q4 : (k : Int) < (ids.length : Int) := by omega
              have hs2 : Hid (M.toldK L b (n + 1) = k + 1) := Lib.hid (by rw [HSU.out, if_pos hm])
              clear hm hat ei bR
              go_upto_region 11 with fail
              go_quiet (fail)
              go_wp2_with fail
              go_roundg (L.length - (n + 1))
              case measure => rw [HK.out]; omega
              case rel => exact ⟨n + 1, by omega, by go_num, by rw [hs2.out]; go_num, rfl, HB.out.trans ((show Below wo.heap.size wo _ from (by repeat first | with_reducible assumption | with_reducible exact Below.refl _ _ | with_reducible apply Below.drew | with_reducible apply below_drewN | with_reducible apply Below.alloc (hB := (by first | omega | (simp; done) | (simp; omega))) | with_reducible apply Below.setCell (hp := (by first | omega | (simp; done) | (simp; omega))))).mono ko)⟩
            · have hm : M.meetB x b = false := by
                cases hq : M.meetB x b
                · rfl
                · have := (M.meetB_and x b).1 hq; omega
              have hs2 : Hid (M.toldK L b (n + 1) = k) := Lib.hid (by rw [HSU.out, if_neg (by rw [hm]; simp)]; omega)
              clear hm
              go_wp2_with fail
              go_roundg (L.length - (n + 1))
              case measure => rw [HK.out]; omega
              case rel => exact ⟨n + 1, by omega, by go_num, by rw [hs2.out], rfl, HB.out.trans ((show Below wo.heap.size wo _ from (by repeat first | with_reducible assumption | with_reducible exact Below.refl _ _ | with_reducible apply Below.drew | with_reducible apply below_drewN | with_reducible apply Below.alloc (hB := (by first | omega | (simp; done) | (simp; omega))) | with_reducible apply Below.setCell (hp := (by first | omega | (simp; done) | (simp; omega))))).mono ko)⟩
          · have hm : M.meetB x b = false := by
              cases hq : M.meetB x b
              · rfl
              · have := (M.meetB_and x b).1 hq; omega
            have hs2 : Hid (M.toldK L b (n + 1) = k) := Lib.hid (by rw [HSU.out, if_neg (by rw [hm]; simp)]; omega)
            clear hm
            go_wp2_with fail
            go_roundg (L.length - (n + 1))
            case measure => rw [HK.out]; omega
            case rel => exact ⟨n + 1, by omega, by go_num, by rw [hs2.out], rfl, HB.out.trans ((show Below wo.heap.size wo _ from (by repeat first | with_reducible assumption | with_reducible exact Below.refl _ _ | with_reducible apply Below.drew | with_reducible apply below_drewN | with_reducible apply Below.alloc (hB := (by first | omega | (simp; done) | (simp; omega))) | with_reducible apply Below.setCell (hp := (by first | omega | (simp; done) | (simp; omega))))).mono ko)⟩
        · have hm : M.meetB x b = false := by
            cases hq : M.meetB x b
            · rfl
            · have := (M.meetB_and x b).1 hq; omega
          have hs2 : Hid (M.toldK L b (n + 1) = k) := Lib.hid (by rw [HSU.out, if_neg (by rw [hm]; simp)]; omega)
          clear hm
          go_wp2_with fail
          go_roundg (L.length - (n + 1))
          case measure => rw [HK.out]; omega
          case rel => exact ⟨n + 1, by omega, by go_num, by rw [hs2.out], rfl, HB.out.trans ((show Below wo.heap.size wo _ from (by repeat first | with_reducible assumption | with_reducible exact Below.refl _ _ | with_reducible apply Below.drew | with_reducible apply below_drewN | with_reducible apply Below.alloc (hB := (by first | omega | (simp; done) | (simp; omega))) | with_reducible apply Below.setCell (hp := (by first | omega | (simp; done) | (simp; omega))))).mono ko)⟩
      · have hm : M.meetB x b = false := by
          cases hq : M.meetB x b
          · rfl
          · have := (M.meetB_and x b).1 hq; omega
        have hs2 : Hid (M.toldK L b (n + 1) = k) := Lib.hid (by rw [HSU.out, if_neg (by rw [hm]; simp)]; omega)
        clear hm
        go_wp2_with fail
        go_roundg (L.length - (n + 1))
        case measure => rw [HK.out]; omega
        case rel => exact ⟨n + 1, by omega, by go_num, by rw [hs2.out], rfl, HB.out.trans ((show Below wo.heap.size wo _ from (by repeat first | with_reducible assumption | with_reducible exact Below.refl _ _ | with_reducible apply Below.drew | with_reducible apply below_drewN | with_reducible apply Below.alloc (hB := (by first | omega | (simp; done) | (simp; omega))) | with_reducible apply Below.setCell (hp := (by first | omega | (simp; done) | (simp; omega))))).mono ko)⟩
    · obtain rfl : n = L.length := by omega
      have hend := HALL.out
      rw [hend]
      have q9 : decide ((L.length : Int) < (L.length : Int)) = false := decide_eq_false (by omega)
      have HGO := Lib.hid (HG5.out.below K5O)
      have hw0 := fun U (hb : Below wo.heap.size wo U) => gworld_calls (HGO.out.below hb) GG.out
      rw [show (M.more P).w = P.w from rfl] at hw0
      have HWO := Lib.hid hw0
      have HSTO := Lib.hid (HST5.out.below K5O)
      have SB := Lib.hid (fun W (hb : Below wo.heap.size wo W) => show W.cell? ⟨w4.heap.size, 0, none⟩ = some (.int .i64 0) ∧ W.cell? ⟨w4.heap.size, 2, none⟩ = some (.slice ai4 ids.length ci4) ∧ W.cell? ⟨w2.heap.size, 0, none⟩ = some (.slice a2 P.w.things.tables.length c2) ∧ W.cell? ⟨w2.heap.size, 1, none⟩ = some (.int .i64 P.w.things.next) ∧ W.cell? ⟨w2.heap.size, 2, none⟩ = some (.int .i64 P.w.fall) ∧ W.cell? ⟨w2.heap.size, 3, none⟩ = some (.int .i64 P.w.wide) ∧ W.cell? ⟨w2.heap.size, 4, none⟩ = some (.int .i64 P.w.high) from by
        have y1 := HB5.out.below (K5O.trans (hb.mono k5o)) HB5.out.lt
        have y2 := HB35.out.below (K5O.trans (hb.mono k5o)) HB35.out.lt
        exact ⟨y1.cell 0, y1.cell 2, y2.cell 0, y2.cell 1, y2.cell 2, y2.cell 3, y2.cell 4⟩)
      obtain ⟨s0, s1, s2, s3, s4, s5, s6⟩ := SB.out wo (Below.refl _ _)
      clear hw0 hend
      go_upto_region 15 with fail
      go_region_held3 (fun W => W.cell? ⟨w4.heap.size, 0, none⟩ = some (.int .i64 0) ∧ W.cell? ⟨w4.heap.size, 2, none⟩ = some (.slice ai4 ids.length ci4) ∧ W.cell? ⟨w2.heap.size, 0, none⟩ = some (.slice a2 P.w.things.tables.length c2) ∧ W.cell? ⟨w2.heap.size, 1, none⟩ = some (.int .i64 P.w.things.next) ∧ W.cell? ⟨w2.heap.size, 2, none⟩ = some (.int .i64 P.w.fall) ∧ W.cell? ⟨w2.heap.size, 3, none⟩ = some (.int .i64 P.w.wide) ∧ W.cell? ⟨w2.heap.size, 4, none⟩ = some (.int .i64 P.w.high)) (((with_reducible refine SB.out _ ?_); (repeat first | with_reducible exact Below.refl _ _ | with_reducible apply Below.drew | with_reducible apply Below.alloc (hB := (by first | omega | (simp; done) | (simp; omega))) | with_reducible refine Below.trans ?_ (Below.mono (B' := wo.heap.size) hb10 (by first | omega | (simp; done) | (simp; omega))) | with_reducible refine Below.trans ?_ (Below.mono (B' := wo.heap.size) hb9 (by first | omega | (simp; done) | (simp; omega)))); done)) (first | (go_at_call 13; refine (HWO.out _ (by repeat first | with_reducible exact Below.refl _ _ | with_reducible apply Below.drew | with_reducible apply Below.alloc (hB := (by first | omega | (simp; done) | (simp; omega))) | with_reducible refine Below.trans ?_ (Below.mono (B' := wo.heap.size) hb10 (by first | omega | (simp; done) | (simp; omega))) | with_reducible refine Below.trans ?_ (Below.mono (B' := wo.heap.size) hb9 (by first | omega | (simp; done) | (simp; omega))))).mono ?_; rintro e w9 ⟨a9, c9, hs9, rfl, ho9, hb9⟩; have HO9 := Lib.hid ho9; have hz9 := hb9.size; (try simp at hz9); clear ho9) | (go_at_call 26; refine (same_calls (d := P.w) (HO9.out.at_.mono (Nat.zero_le _)) (HSTO.out.below (by repeat first | with_reducible exact Below.refl _ _ | with_reducible apply Below.drew | with_reducible apply Below.alloc (hB := (by first | omega | (simp; done) | (simp; omega))) | with_reducible refine Below.trans ?_ (Below.mono (B' := wo.heap.size) hb10 (by first | omega | (simp; done) | (simp; omega))) | with_reducible refine Below.trans ?_ (Below.mono (B' := wo.heap.size) hb9 (by first | omega | (simp; done) | (simp; omega))))) GP.out.w).mono ?_; rintro e w10 ⟨rfl, hb10⟩; have hz10 := hb10.size; (try simp at hz10)))
      all_goals
        go_wp2_with fail
        go_ret
        exact ⟨rfl, (HK5.out.trans (K5O.mono kw5)).trans (Below.mono (B' := w.heap.size) (by repeat first | with_reducible exact Below.refl _ _ | with_reducible apply Below.drew | with_reducible apply Below.alloc (hB := (by first | omega | (simp; done) | (simp; omega))) | with_reducible refine Below.trans ?_ (Below.mono (B' := wo.heap.size) hb10 (by first | omega | (simp; done) | (simp; omega))) | with_reducible refine Below.trans ?_ (Below.mono (B' := wo.heap.size) hb9 (by first | omega | (simp; done) | (simp; omega)))) (by omega))⟩
end Go.Proofs.YtkpecagkpjabdacGreat
