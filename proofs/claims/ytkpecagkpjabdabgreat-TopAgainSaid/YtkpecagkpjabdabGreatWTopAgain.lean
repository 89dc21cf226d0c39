/- The walk of TopAgain. Condition: the acts lie in memory, their numbers are of 64 bits. -/
import Derived.Test.YtkpecagkpjabdabGreatAgainLaw
import Derived.Deep.RegionHeld3
namespace Go.Proofs.YtkpecagkpjabdabGreat
open Go.RowKit
set_option linter.unusedVariables false
set_option linter.unusedSimpArgs false
set_option maxRecDepth 100000
set_option maxHeartbeats 16000000 in
set_option maxRecDepth 100000 in
theorem topAgain_walk (size fall : Int) (l more : List M.Act) (w : World) {v vm : Value} (hs : I64 size) (hf : I64 fall) (h : ActsAt w 0 v l ∧ ∀ x ∈ l, ActIn x) (hm : ActsAt w 0 vm more ∧ ∀ x ∈ more, ActIn x) :
    Calls Tryz.prog 4 #[.int .i64 size, .int .i64 fall, v, vm] w fun e w' => e = .returned (.bool true) ∧ Below w.heap.size w w' := by
  have HP := Lib.hid (fun U (hb : Below w.heap.size w U) => playq_calls (h.1.below hb) h.2 hs hf)
  obtain ⟨av, cv, rfl⟩ := h.1.val
  have GP := Lib.hid (M.played_good size fall l)
  have ha0 := (M.played_acts size fall l).1
  have ha1 := (M.played_acts size fall l).2
  obtain ⟨P, hP⟩ : ∃ P, P = M.played size fall l := ⟨_, rfl⟩
  rw [← hP] at HP GP ha0 ha1
  obtain ⟨mv, mc, rfl⟩ := hm.1.val
  have hmm : more.length ≤ 9223372036854775807 := by have := hm.1.max; unfold maxLen at this; omega
  have HM := Lib.hid hm.1
  have HMI := Lib.hid hm.2
  obtain ⟨Gs, rS, hdS⟩ : ∃ G' r, M.doAct P M.saveAct = (G', r) := ⟨_, _, rfl⟩
  have HDS := Lib.hid hdS
  have hgS := M.doAct_good GP.out M.saveAct
  rw [hdS] at hgS
  have GGS := Lib.hid hgS
  clear h hP hm hdS hgS
  go_enter Tryz.func4, Tryz.ntmps4
  go_upto_region 4 with (go_at_call 9; go_loud (refine (HP.out _ (by repeat first | with_reducible assumption | with_reducible exact Below.refl _ _ | with_reducible apply Below.drew | with_reducible apply below_drewN | with_reducible apply Below.alloc (hB := (by first | omega | (simp; done) | (simp; omega))) | with_reducible apply Below.setCell (hp := (by first | omega | (simp; done) | (simp; omega))))).mono ?_; rintro e w1 ⟨Q1, g1, a1, c1, sv1, hs1, rfl, hg1, hQ1, hb1⟩; have HG1 := Lib.hid hg1; have HQ1 := Lib.hid hQ1; have kz1 := hb1.size; (try simp at kz1); have K1 : Below w.heap.size w w1 := (show Below w.heap.size w _ from (by repeat first | with_reducible assumption | with_reducible exact Below.refl _ _ | with_reducible apply Below.drew | with_reducible apply below_drewN | with_reducible apply Below.alloc (hB := (by first | omega | (simp; done) | (simp; omega))) | with_reducible apply Below.setCell (hp := (by first | omega | (simp; done) | (simp; omega))))).trans (hb1.mono (by first | omega | (simp; done) | (simp; omega))); have kw1 := K1.size; clear hg1 hQ1))
  have HE2 := Lib.hid (do_calls2 HG1.out (fun b q => (HQ1.out b q).2) GP.out ha0 in_save HDS.out)
  go_upto_region 5 with (go_at_call_of 15 g1; go_loud (refine HE2.out.mono ?_; rintro e w2 ⟨ai2, ci2, am2, cm2, Q2, a2, c2, sv2, hs2, rfl, hg2, hQ2, ho2, hi2, hm2⟩; have HG2 := Lib.hid hg2; have HQ2 := Lib.hid hQ2; have HO2 := Lib.hid ho2; have HI2 := Lib.hid hi2; have HM2 := Lib.hid hm2; have kz2 := ho2.size; (try simp at kz2); clear hg2 hQ2 ho2 hi2 hm2))
  refine wp_called (fun W3 hW3 => ?_)
  have B3 : Blk W3 w2.heap.size 36 #[.int .i64 rS.code, .int .i64 rS.n, .slice ai2 rS.ids.length ci2, .slice am2 rS.met.length cm2] := by rw [hW3]; exact Blk.new_at rfl
  have K23 : Below w2.heap.size w2 W3 := by rw [hW3]; exact (by repeat first | with_reducible assumption | with_reducible exact Below.refl _ _ | with_reducible apply Below.drew | with_reducible apply below_drewN | with_reducible apply Below.alloc (hB := (by first | omega | (simp; done) | (simp; omega))) | with_reducible apply Below.setCell (hp := (by first | omega | (simp; done) | (simp; omega))))
  have K2 : Below w.heap.size w w2 := K1.trans (HO2.out.below kw1 (fun b q => (HQ1.out b q).1))
  have K3 : Below w.heap.size w W3 := K2.trans (K23.mono K2.size)
  have HG3' := Lib.hid (HG2.out.behind K23)
  have hQ2w : Hid (∀ b, Q2 b ∧ b < w2.heap.size → w.heap.size ≤ b) := Lib.hid (fun b q => by
    rcases (HQ2.out b q.1).1 with k | k
    · exact (HQ1.out b k).1
    · omega)
  have kz3 := K23.size
  have kw3 := K3.size
  have lb3 := B3.lt
  have u0 := B3.cell 0
  simp at u0
  have HB3 := Lib.hid B3
  have HK3 := Lib.hid K3
  clear hW3 B3 HE2 K1 K2 K23
  by_cases hc : rS.code = 0
  · have q0 : (rS.code != 0) = false := by simpa using hc
    by_cases hlen : more.length ≤ 20
    · have q20 : decide ((20 : Int) < (more.length : Int)) = false := by rw [decide_eq_false_iff_not]; omega
      have q20' : decide (20 < more.length) = false := by rw [decide_eq_false_iff_not]; omega
      obtain ⟨G1, G2, G3, G4, ns, rs, e1, hns, e2, ⟨r3, e3, er3⟩, e4, e5, e6⟩ := M.agains GP.out ha1 (by rw [HDS.out]; exact hc) hlen
      rw [HDS.out] at e1
      obtain ⟨rfl, rfl⟩ : Gs = G1 ∧ rS = ⟨0, ns, [], []⟩ := by simpa using e1
      subst er3
      obtain ⟨ms, hms⟩ : ∃ ms, ms = more.map M.fixAct := ⟨_, rfl⟩
      rw [← hms] at e2 e5
      have GG1 : Hid (M.GoodG Gs) := GGS
      obtain ⟨G1, hG1⟩ : ∃ G1, G1 = Gs := ⟨_, rfl⟩
      subst hG1
      have HA1 : Hid (0 ≤ G1.acts) := Lib.hid (by have := M.doAct_acts0 (g := P) M.saveAct ha0; rw [HDS.out] at this; exact this)
      have GG2 : Hid (M.GoodG G2) := Lib.hid (by have := M.runActs_good GG1.out ms; rw [e2] at this; exact this)
      have HA2 : Hid (0 ≤ G2.acts) := Lib.hid (by have := M.runActs_acts0 HA1.out ms; rw [e2] at this; exact this)
      have GG3 : Hid (M.GoodG G3) := Lib.hid (by have := M.doAct_good GG2.out (M.loadAct ns); rw [e3] at this; exact this)
      have HA3 : Hid (0 ≤ G3.acts) := Lib.hid (by have := M.doAct_acts0 (g := G2) (M.loadAct ns) HA2.out; rw [e3] at this; exact this)
      have GG4 : Hid (M.GoodG G4) := Lib.hid (by have := M.runActs_good GG3.out ms; rw [e5] at this; exact this)
      have HE2 := Lib.hid e2
      have HE3' := Lib.hid e3
      have HE4 := Lib.hid e4
      have HE5 := Lib.hid e5
      have HE6 := Lib.hid e6
      have HNS := Lib.hid hns
      have hml : ms.length = more.length := by rw [hms, List.length_map]
      have HML := Lib.hid hml
      have HMS := Lib.hid hms
      have HRL : Hid (rs.length = more.length) := Lib.hid (by have := M.runActs_len G1 ms; rw [e2] at this; rw [← hml]; exact this)
      have HW := Lib.hid (fun U (hb : Below W3.heap.size W3 U) => gworld_calls (HG3'.out.below hb) GG1.out)
      obtain ⟨i0, hi, hz0, hz1, hz2⟩ := info_parts infoReply
      have HIN := Lib.hid (And.intro hi (And.intro hz0 (And.intro hz1 hz2)))
      clear e1 e2 e3 e4 e5 e6 hns hml hms hc hi hz0 hz1 hz2
      go_upto_region 8 with (go_at_call_of 11 g1; go_loud (refine (HW.out _ (by repeat first | with_reducible assumption | with_reducible exact Below.refl _ _ | with_reducible apply Below.drew | with_reducible apply below_drewN | with_reducible apply Below.alloc (hB := (by first | omega | (simp; done) | (simp; omega))) | with_reducible apply Below.setCell (hp := (by first | omega | (simp; done) | (simp; omega))))).mono ?_; rintro e w4 ⟨a4, c4, hs4, rfl, ho4, hb4⟩; have HO4 := Lib.hid ho4; have kz4 := hb4.size; (try simp at kz4); have HB4 := Lib.hid hb4; clear ho4))
      refine wp_called (fun W5 hW5 => ?_)
      have B5 : Blk W5 w4.heap.size 41 (worldC (.slice a4 G1.w.things.tables.length c4) G1.w) := by rw [hW5]; exact Blk.new_at rfl
      have K45 : Below w4.heap.size w4 W5 := by rw [hW5]; exact (by repeat first | with_reducible assumption | with_reducible exact Below.refl _ _ | with_reducible apply Below.drew | with_reducible apply below_drewN | with_reducible apply Below.alloc (hB := (by first | omega | (simp; done) | (simp; omega))) | with_reducible apply Below.setCell (hp := (by first | omega | (simp; done) | (simp; omega))))
      have K35 : Below W3.heap.size W3 W5 := HB4.out.trans (K45.mono kz4)
      have kz5 := K45.size
      have kz35 := K35.size
      have lb5 := B5.lt
      have HB5 := Lib.hid B5
      have HB35 := Lib.hid (HB3.out.below K35 HB3.out.lt)
      have HST5 : Hid (StoreAt W5 (W3.heap.size + 1) (stV a4 c4 G1.w.things) G1.w.things) := Lib.hid (HO4.out.at_.below K45)
      obtain ⟨Q5, hQ5⟩ : ∃ Q5 : Nat → Prop, Q5 = fun b => Q2 b ∧ b < w2.heap.size := ⟨_, rfl⟩
      have HG5 : Hid (GameAt W5 Q5 g1 G1 a2 c2 sv2 hs2) := Lib.hid (by rw [hQ5]; exact HG3'.out.below K35)
      have HQ5 : Hid (∀ b, Q5 b → w.heap.size ≤ b ∧ b < w2.heap.size) := Lib.hid (fun b q => by rw [hQ5] at q; exact ⟨hQ2w.out b q, q.2⟩)
      have HK5 : Hid (Below w.heap.size w W5) := Lib.hid (K3.trans (K35.mono kw3))
      clear hW5 B5 K45 K35 K3 hQ5 u0
      go_wp2_with fail
      go_loopg [13, 44] more.length (fun gh o i wr => ∃ (k : Nat) (Q : Nat → Prop) (a : Option Addr) (c : Nat) (sv : Value) (hs : List Value) (oa : Option Addr) (oc : Nat) (hr : List (Value × Value)), k ≤ more.length ∧ i = .int .i64 k ∧ o = .slice oa k oc ∧ gh = more.length - k ∧ GameAt wr Q g1 (M.runK G1 ms k).1 a c sv hs ∧ (∀ b, Q b → (Q5 b ∨ W5.heap.size ≤ b) ∧ b < wr.heap.size) ∧ OwnReps wr Q W5.heap.size (.slice oa k oc) (M.runK G1 ms k).2 hr ∧ Only Q5 W5 wr)
      case atStart => exact ⟨0, Q5, a2, c2, sv2, hs2, none, 0, [], Nat.zero_le _, rfl, rfl, rfl, HG5.out, (fun b q => ⟨.inl q, by have := (HQ5.out b q).2; omega⟩), OwnReps.nil _ _ _, Only.refl _ _⟩
      case round =>
      obtain ⟨wo, hwo⟩ : ∃ wo, wo = wr := ⟨_, rfl⟩
      subst hwo
      obtain ⟨k, Q, a, c, sv, hs, oa, oc, hr, hk, rfl, rfl, hgk, hga, hQ, hre, hon⟩ := hrel
      have HK := Lib.hid hgk
      have HGA := Lib.hid hga
      have HQ := Lib.hid hQ
      have HRE := Lib.hid hre
      have HON := Lib.hid hon
      have ko := hon.size
      have KWO : Below w.heap.size w wo := HK5.out.trans (hon.below HK5.out.size (fun b q => (HQ5.out b q).1))
      have kwo := KWO.size
      have HKWO := Lib.hid KWO
      clear hgk hga hQ hre hon
      rcases Nat.lt_or_ge k more.length with hlt | hge
      · obtain ⟨x, hx⟩ : ∃ x, more[k]? = some x := ⟨_, List.getElem?_eq_getElem hlt⟩
        obtain ⟨b, o, cap, ev, hlo, hc⟩ := (HM.out.below KWO).at hx
        obtain ⟨rfl, rfl⟩ : mv = some ⟨b, o, none⟩ ∧ mc = cap := by simpa using ev
        have hmx : ms[k]? = some (M.fixAct x) := by rw [HMS.out, List.getElem?_map, hx]; rfl
        obtain ⟨G', r, hd⟩ : ∃ G' r, M.doAct (M.runK G1 ms k).1 (M.fixAct x) = (G', r) := ⟨_, _, rfl⟩
        have HS := M.runK_succ G1 hmx
        rw [hd] at HS
        have HG' : Hid (G' = (M.runK G1 ms (k + 1)).1) := Lib.hid (by rw [HS])
        have HR' : Hid ((M.runK G1 ms (k + 1)).2 = (M.runK G1 ms k).2 ++ [r]) := Lib.hid (by rw [HS])
        have HLEN : Hid ((M.runK G1 ms k).2.length = k) := Lib.hid (M.runK_len G1 ms (by have := HML.out; omega))
        have HXI := Lib.hid (fix_in (HMI.out x (List.mem_of_getElem? hx)))
        have HDD := Lib.hid hd
        have HC := Lib.hid hc
        have lb : b < wo.heap.size := cell_lt (hc 0 _ rfl)
        have k20 : k < 20 := by omega
        clear ev hlo hc hx hd HS hmx
        obtain ⟨kk, hkk⟩ : ∃ kk, kk = decide (x.kind = 7 ∨ x.kind = 8) := ⟨_, rfl⟩
        have HKK := Lib.hid hkk
        clear hkk
        go_upto_region 12 with (first | (refine wpList_load_act (x := x) rfl (.tmp 46) rfl b (o + k * 17) (by rfl) HC.out ?_) | (refine wpList_store_actB (x := x) rfl (.tmp 15) (.tmp 47) rfl wo.heap.size (by rfl) (by rfl) (Blk.new_at rfl) rfl ?_; intro WS hBS hOS hZS hLS; have KS : Below wo.heap.size wo WS := hLS ((Below.refl _ wo).alloc (Nat.le_refl _) _) (Nat.le_refl _); have cz := hBS.cell 0; have cf := (fun i => hBS.free i); simp at cz; have lbs := hBS.lt; clear hOS hZS hLS))
        refine wp_called (fun W1 hW1 => ?_)
        have HBS : Hid (Blk W1 wo.heap.size 31 (actC x)) := Lib.hid (by rw [hW1]; exact hBS)
        have HKS : Hid (Below wo.heap.size wo W1) := Lib.hid (by rw [hW1]; exact KS)
        have cz1 := HBS.out.cell 0
        simp at cz1
        have lb1 := HBS.out.lt
        clear hW1 hBS KS cz cf lbs
        simp only [Act.put, List.setIfInBounds_toArray, List.set_cons_succ, List.set_cons_zero]
        go_cut [55] (fun q W => q = .bool kk ∧ W = W1)
        case first =>
          rcases (show x.kind = 7 ∨ x.kind = 8 ∨ (x.kind ≠ 7 ∧ x.kind ≠ 8) by omega) with e7 | e8 | ⟨n7, n8⟩
          · have q7 : (x.kind == 7) = true := by simpa using e7
            have HQ7 := Lib.hid e7
            clear e7
            go_wp2_with fail
            go_meet
            exact ⟨by rw [HKK.out, decide_eq_true (.inl HQ7.out)], rfl⟩
          · have q7 : (x.kind == 7) = false := by rw [beq_eq_false_iff_ne]; omega
            have q8 : (x.kind == 8) = true := by simpa using e8
            have HQ8 := Lib.hid e8
            clear e8
            go_wp2_with fail
            go_meet
            exact ⟨by rw [HKK.out, decide_eq_true (.inr HQ8.out)], rfl⟩
          · have q7 : (x.kind == 7) = false := by rw [beq_eq_false_iff_ne]; exact n7
            have q8 : (x.kind == 8) = false := by rw [beq_eq_false_iff_ne]; exact n8
            have HQ9 := Lib.hid (And.intro n7 n8)
            clear n7 n8
            go_wp2_with fail
            go_meet
            exact ⟨by rw [HKK.out, decide_eq_false (by rintro (h | h); exact HQ9.out.1 h; exact HQ9.out.2 h)], rfl⟩
        case rest =>
        obtain ⟨rfl, rfl⟩ := hcut
        go_upto_if 55 with fail
        go_cut [] (fun W => Blk W wo.heap.size 31 (actC (M.fixAct x)) ∧ Below wo.heap.size wo W)
        case first =>
          have cf1 := HBS.out.free 0
          cases kk
          · have hn := HKK.out.symm
            rw [decide_eq_false_iff_not] at hn
            have HF := Lib.hid (fix_none (fun h => hn (.inl h)) (fun h => hn (.inr h)))
            clear hn
            go_wp2_with fail
            go_meet
            exact ⟨by rw [HF.out]; exact HBS.out, HKS.out⟩
          · have hn := HKK.out.symm
            rw [decide_eq_true_eq] at hn
            have HF := Lib.hid hn
            clear hn
            go_wp2_with fail
            go_meet
            exact ⟨fix_blk HBS.out HF.out, HKS.out.setCell (Nat.le_refl _) _⟩
        case rest =>
        obtain ⟨bA, K2⟩ := hcut
        obtain ⟨W2, hW2⟩ : ∃ W2, W2 = wc := ⟨_, rfl⟩
        subst hW2
        clear cz1 lb1 HBS HKS
        have HBA := Lib.hid bA
        have HK2 := Lib.hid K2
        have kz2 := K2.size
        have HR2 := Lib.hid (HRE.out.below K2)
        have HE3 := Lib.hid (do_calls2 (HGA.out.below K2) (fun b q => by have := (HQ.out b q).2; omega) (M.runK_good GG1.out ms k) (M.runK_acts0 HA1.out ms k) HXI.out HDD.out)
        clear bA K2
        go_wp2_with (first | (refine wpList_load_actB (x := M.fixAct x) rfl (.tmp 15) rfl wo.heap.size (by rfl) HBA.out ?_) | (go_at_call_of 15 g1; go_loud (refine HE3.out.mono ?_; rintro e w3 ⟨ai3, ci3, am3, cm3, Q3, a3, c3, sv3, hs3, rfl, hg3, hQ3, ho3, hi3, hm3⟩; have HG3 := Lib.hid hg3; have HQ3 := Lib.hid hQ3; have HO3 := Lib.hid ho3; have HI3 := Lib.hid hi3; have HM3 := Lib.hid hm3; have kz3 := ho3.size; (try simp at kz3); have HR3 := Lib.hid (HR2.out.only ho3 (R := Q3) (fun b q => (hQ3 b q).1)); have HROW : Hid (w3.ownsRow W5.heap.size 36 4 (.slice oa k oc) k (repsL (M.runK G1 ms k).2 hr)) := Lib.hid (by have := HR3.out.row; rw [HLEN.out] at this; exact this); clear hg3 hQ3 ho3 hi3 hm3)) | (at_builtin; refine wpList_append_own_at _ rfl (.tmp 57) (.tmp 61) _ rfl W5.heap.size 36 i0 _ 4 64 Tryz.underlying49 HIN.out.1 HIN.out.2.1 HIN.out.2.2.1 HIN.out.2.2.2 rfl (by omega) _ k _ rfl (own_below HROW.out (show Below w3.heap.size w3 _ from (by repeat first | with_reducible assumption | with_reducible exact Below.refl _ _ | with_reducible apply Below.drew | with_reducible apply below_drewN | with_reducible apply Below.alloc (hB := (by first | omega | (simp; done) | (simp; omega))) | with_reducible apply Below.setCell (hp := (by first | omega | (simp; done) | (simp; omega)))))) ⟨w3.heap.size, 0, none⟩ 1 1 [.int .i64 r.code, .int .i64 r.n, .slice ai3 r.ids.length ci3, .slice am3 r.met.length cm3] rfl rfl (by intro j u hu; rw [Addr.add_lit]; match j, hu with | 0, hu => (simp at hu; subst hu; simp) | 1, hu => (simp at hu; subst hu; simp) | 2, hu => (simp at hu; subst hu; simp) | 3, hu => (simp at hu; subst hu; simp) | j + 4, hu => simp at hu) (by intro u hu; simp at hu; rcases hu with rfl | rfl | rfl | rfl <;> rfl) (by unfold maxLen; omega) (by omega) (by simp; omega) ?_; intro v9 w9 hown9 hg9 _ hat9; obtain ⟨a9, c9, rfl⟩ := own_form hown9; have HO9 := Lib.hid hown9; have HG9 := Lib.hid hg9; have HA9 := Lib.hid hat9; have kz9 := hg9.size; (try simp at kz9); clear hown9 hg9 hat9))
        go_roundg (more.length - (k + 1))
        case measure => rw [HK.out]; omega
        case rel =>
          obtain ⟨hG9, hR9, hz9, hB9⟩ := reps_round HG3.out HQ3.out HO3.out HI3.out HM3.out HR2.out HLEN.out (by omega) HO9.out HG9.out HA9.out
          rw [HG'.out] at hG9
          rw [← HR'.out] at hR9
          have hQ3' : ∀ b, Q3 b → Q5 b ∨ W5.heap.size ≤ b := fun b q => by
            rcases (HQ3.out b q).1 with k | k
            · exact (HQ.out b k).1
            · right; omega
          have hO3 : Only Q5 W5 w3 := (HON.out.more HK2.out).inside HO3.out (fun b q => (HQ.out b q).1)
          exact ⟨k + 1, Q3, a3, c3, sv3, hs3, a9, c9, _, by omega, by go_num, rfl, rfl, hG9, (fun b q => ⟨hQ3' b q, by have := (HQ3.out b q).2.1; omega⟩), hR9, (hO3.alloc _).grown HG9.out (fun b e => .inr (HR2.out.row.lt b e).1)⟩
      · obtain rfl : k = more.length := by omega
        obtain ⟨wf, hwf⟩ : ∃ wf, wf = wo := ⟨_, rfl⟩
        subst hwf
        obtain ⟨Qf, hQf⟩ : ∃ Qf, Qf = Q := ⟨_, rfl⟩
        subst hQf
        have q9 : decide ((more.length : Int) < (more.length : Int)) = false := decide_eq_false (by omega)
        have eK : M.runK G1 ms more.length = (G2, rs) := by rw [← HML.out, M.runK_all, HE2.out]
        rw [eK] at HGA HRE
        have HWf := Lib.hid (fun U (hb : Below wf.heap.size wf U) => gworld_calls (HGA.out.below hb) GG2.out)
        clear eK
        go_upto_region 17 with (go_at_call_of 11 g1; go_loud (refine (HWf.out _ (by repeat first | with_reducible assumption | with_reducible exact Below.refl _ _ | with_reducible apply Below.drew | with_reducible apply below_drewN | with_reducible apply Below.alloc (hB := (by first | omega | (simp; done) | (simp; omega))) | with_reducible apply Below.setCell (hp := (by first | omega | (simp; done) | (simp; omega))))).mono ?_; rintro e w11 ⟨a11, c11, hs11, rfl, ho11, hb11⟩; have HO11 := Lib.hid ho11; have kz11 := hb11.size; (try simp at kz11); have HB11 := Lib.hid hb11; clear ho11))
        refine wp_called (fun W12 hW12 => ?_)
        have B12 : Blk W12 w11.heap.size 41 (worldC (.slice a11 G2.w.things.tables.length c11) G2.w) := by rw [hW12]; exact Blk.new_at rfl
        have K1112 : Below w11.heap.size w11 W12 := by rw [hW12]; exact (by repeat first | with_reducible assumption | with_reducible exact Below.refl _ _ | with_reducible apply Below.drew | with_reducible apply below_drewN | with_reducible apply Below.alloc (hB := (by first | omega | (simp; done) | (simp; omega))) | with_reducible apply Below.setCell (hp := (by first | omega | (simp; done) | (simp; omega))))
        have KF12 : Below wf.heap.size wf W12 := HB11.out.trans (K1112.mono kz11)
        have kz12 := K1112.size
        have kf12 := KF12.size
        have lb12 := B12.lt
        have HB12 := Lib.hid B12
        have HST12 : Hid (StoreAt W12 (wf.heap.size + 1) (stV a11 c11 G2.w.things) G2.w.things) := Lib.hid (HO11.out.at_.below K1112)
        have HG12 := Lib.hid (HGA.out.behind KF12)
        have HN5 : Hid (∀ b, ¬ Q5 b → b < W5.heap.size → ¬ (Qf b ∧ b < wf.heap.size)) := Lib.hid (fun b h1 h2 q => by rcases (HQ.out b q.1).1 with k | k <;> first | exact h1 k | omega)
        have HNB3 : Hid (¬ Q5 w2.heap.size) := Lib.hid (fun q => by have := (HQ5.out _ q).2; omega)
        have HNB5 : Hid (¬ Q5 w4.heap.size) := Lib.hid (fun q => by have := (HQ5.out _ q).2; omega)
        have HB3f : Hid (Blk W12 w2.heap.size 36 #[.int .i64 0, .int .i64 ns, .slice ai2 0 ci2, .slice am2 0 cm2]) := Lib.hid (by
          have z := HB35.out.only HON.out HNB3.out
          exact z.below KF12 z.lt)
        have HR12 : Hid (OwnReps W12 (fun b => Qf b ∧ b < wf.heap.size) W5.heap.size (.slice oa more.length oc) rs hr) := Lib.hid ((HRE.out.below KF12).less (fun b q => q.1))
        have KW12 : Below w.heap.size w W12 := KWO.trans (KF12.mono kwo)
        have HKW12 := Lib.hid KW12
        have u1 := HB3f.out.cell 1
        simp at u1
        have lb3f := HB3f.out.lt
        have HE13 := Lib.hid (do_calls2 HG12.out (fun b q => by have := q.2; omega) GG2.out HA2.out (in_load HNS.out) HE3'.out)
        have kw12 := KW12.size
        have HKF12 := Lib.hid KF12
        clear hW12 B12 K1112 KF12 KW12 q9
        go_upto_region 18 with (go_at_call_of 15 g1; go_loud (refine HE13.out.mono ?_; rintro e w13 ⟨ai13, ci13, am13, cm13, Q13, a13, c13, sv13, hs13, rfl, hg13, hQ13, ho13, hi13, hm13⟩; have HG13 := Lib.hid hg13; have HQ13 := Lib.hid hQ13; have HO13 := Lib.hid ho13; have HI13 := Lib.hid hi13; have HM13 := Lib.hid hm13; have kz13 := ho13.size; (try simp at kz13); clear hg13 hQ13 ho13 hi13 hm13))
        refine wp_called (fun W14 hW14 => ?_)
        have B14 : Blk W14 w13.heap.size 36 #[.int .i64 0, .int .i64 0, .slice ai13 0 ci13, .slice am13 0 cm13] := by rw [hW14]; exact Blk.new_at rfl
        have K1314 : Below w13.heap.size w13 W14 := by rw [hW14]; exact (by repeat first | with_reducible assumption | with_reducible exact Below.refl _ _ | with_reducible apply Below.drew | with_reducible apply below_drewN | with_reducible apply Below.alloc (hB := (by first | omega | (simp; done) | (simp; omega))) | with_reducible apply Below.setCell (hp := (by first | omega | (simp; done) | (simp; omega))))
        have kz14 := K1314.size
        have HB14 := Lib.hid B14
        have HG14 := Lib.hid (HG13.out.behind K1314)
        have HON14 : Hid (Only Q5 W5 W14) := Lib.hid (((HON.out.more HKF12.out).inside HO13.out (fun b q => (HQ.out b q.1).1)).more K1314)
        have HTO14 : Hid (Only (fun b => Qf b ∧ b < wf.heap.size) W12 W14) := Lib.hid (HO13.out.more K1314)
        have HB5g : Hid (Blk W14 w4.heap.size 41 (worldC (.slice a4 G1.w.things.tables.length c4) G1.w)) := Lib.hid (HB5.out.only HON14.out HNB5.out)
        have HST14 : Hid (StoreAt W14 0 (stV a4 c4 G1.w.things) G1.w.things) := Lib.hid ((HST5.out.same (fun g h1 h2 => HON14.out.block g h2 (fun q => by have := (HQ5.out _ q).2; omega))).mono (Nat.zero_le _))
        have HR14 : Hid (OwnReps W14 (fun b => Q13 b ∧ b < w13.heap.size) W5.heap.size (.slice oa more.length oc) rs hr) := Lib.hid (((HR12.out.only HO13.out (R := Q13) (fun b q => (HQ13.out b q).1)).below K1314).less (fun b q => q.1))
        have KW14 : Below w.heap.size w W14 := (HKW12.out.trans (HO13.out.below kw12 (fun b q => by
          rcases (HQ.out b q.1).1 with k | k
          · exact (HQ5.out b k).1
          · have := HK5.out.size; omega))).trans (K1314.mono (by omega))
        have HKW14 := Lib.hid KW14
        have kw14 := KW14.size
        have HW14 := Lib.hid (fun U (hb : Below W14.heap.size W14 U) => gworld_calls (HG14.out.below hb) GG3.out)
        rw [HE4.out] at HW14
        have SB := Lib.hid (fun W (hb : Below W14.heap.size W14 W) => show W.cell? ⟨w13.heap.size, 0, none⟩ = some (.int .i64 0) ∧ W.cell? ⟨w4.heap.size, 0, none⟩ = some (.slice a4 G1.w.things.tables.length c4) ∧ W.cell? ⟨w4.heap.size, 1, none⟩ = some (.int .i64 G1.w.things.next) ∧ W.cell? ⟨w4.heap.size, 2, none⟩ = some (.int .i64 G1.w.fall) ∧ W.cell? ⟨w4.heap.size, 3, none⟩ = some (.int .i64 G1.w.wide) ∧ W.cell? ⟨w4.heap.size, 4, none⟩ = some (.int .i64 G1.w.high) from by
          have y1 := HB14.out.below hb HB14.out.lt
          have y2 := HB5g.out.below hb HB5g.out.lt
          exact ⟨y1.cell 0, y2.cell 0, y2.cell 1, y2.cell 2, y2.cell 3, y2.cell 4⟩)
        clear hW14 B14 K1314 KW14 u1
        go_cut [80] (fun b W => b = .bool false ∧ Below W14.heap.size W14 W)
        case first =>
          obtain ⟨s0, s1, s2, s3, s4, s5⟩ := SB.out W14 (Below.refl _ _)
          go_region_held3 (fun W => W.cell? ⟨w13.heap.size, 0, none⟩ = some (.int .i64 0) ∧ W.cell? ⟨w4.heap.size, 0, none⟩ = some (.slice a4 G1.w.things.tables.length c4) ∧ W.cell? ⟨w4.heap.size, 1, none⟩ = some (.int .i64 G1.w.things.next) ∧ W.cell? ⟨w4.heap.size, 2, none⟩ = some (.int .i64 G1.w.fall) ∧ W.cell? ⟨w4.heap.size, 3, none⟩ = some (.int .i64 G1.w.wide) ∧ W.cell? ⟨w4.heap.size, 4, none⟩ = some (.int .i64 G1.w.high)) (((with_reducible refine SB.out _ ?_); (repeat first | with_reducible exact Below.refl _ _ | with_reducible apply Below.drew | with_reducible apply Below.alloc (hB := (by first | omega | (simp; done) | (simp; omega))) | with_reducible refine Below.trans ?_ (Below.mono (B' := W14.heap.size) hb16 (by first | omega | (simp; done) | (simp; omega))) | with_reducible refine Below.trans ?_ (Below.mono (B' := W14.heap.size) hb15 (by first | omega | (simp; done) | (simp; omega)))); done)) (first | (go_at_call 11; refine (HW14.out _ (by repeat first | with_reducible exact Below.refl _ _ | with_reducible apply Below.drew | with_reducible apply Below.alloc (hB := (by first | omega | (simp; done) | (simp; omega))) | with_reducible refine Below.trans ?_ (Below.mono (B' := W14.heap.size) hb16 (by first | omega | (simp; done) | (simp; omega))) | with_reducible refine Below.trans ?_ (Below.mono (B' := W14.heap.size) hb15 (by first | omega | (simp; done) | (simp; omega))))).mono ?_; rintro e w15 ⟨a15, c15, hs15, rfl, ho15, hb15⟩; have HO15 := Lib.hid ho15; have hz15 := hb15.size; (try simp at hz15); clear ho15) | (go_at_call 16; refine (same_calls (d := G1.w) (HO15.out.at_.mono (Nat.zero_le _)) (HST14.out.below (by repeat first | with_reducible exact Below.refl _ _ | with_reducible apply Below.drew | with_reducible apply Below.alloc (hB := (by first | omega | (simp; done) | (simp; omega))) | with_reducible refine Below.trans ?_ (Below.mono (B' := W14.heap.size) hb16 (by first | omega | (simp; done) | (simp; omega))) | with_reducible refine Below.trans ?_ (Below.mono (B' := W14.heap.size) hb15 (by first | omega | (simp; done) | (simp; omega))))) GG1.out.w).mono ?_; rintro e w16 ⟨rfl, hb16⟩; have hz16 := hb16.size; (try simp at hz16)))
          all_goals
            go_wp2_with fail
            go_meet
            exact ⟨rfl, (by repeat first | with_reducible exact Below.refl _ _ | with_reducible apply Below.drew | with_reducible apply Below.alloc (hB := (by first | omega | (simp; done) | (simp; omega))) | with_reducible refine Below.trans ?_ (Below.mono (B' := W14.heap.size) hb16 (by first | omega | (simp; done) | (simp; omega))) | with_reducible refine Below.trans ?_ (Below.mono (B' := W14.heap.size) hb15 (by first | omega | (simp; done) | (simp; omega))))⟩
        case rest =>
        obtain ⟨rfl, hB⟩ := hcut
        obtain ⟨wg, hwg⟩ : ∃ wg, wg = wc := ⟨_, rfl⟩
        subst hwg
        have HBg := Lib.hid hB
        have kg := hB.size
        clear hB
        obtain ⟨fa, hfa⟩ : ∃ fa, fa = oa := ⟨_, rfl⟩
        obtain ⟨fc, hfc⟩ : ∃ fc, fc = oc := ⟨_, rfl⟩
        subst hfa hfc
        obtain ⟨Q14, hQ14⟩ : ∃ Q14 : Nat → Prop, Q14 = fun b => Q13 b ∧ b < w13.heap.size := ⟨_, rfl⟩
        rw [← hQ14] at HG14 HR14
        have HQ14 : Hid (∀ b, Q14 b → ((Qf b ∧ b < wf.heap.size) ∨ W12.heap.size ≤ b) ∧ b < w13.heap.size) := Lib.hid (fun b q => by rw [hQ14] at q; exact ⟨(HQ13.out b q.1).1, q.2⟩)
        have HQ14w : Hid (∀ b, Q14 b → w.heap.size ≤ b) := Lib.hid (fun b q => by
          rcases (HQ14.out b q).1 with k | k
          · rcases (HQ.out b k.1).1 with k | k
            · exact (HQ5.out b k).1
            · have := HK5.out.size; omega
          · omega)
        clear hQ14
        go_wp2_with fail
        go_loopg [83] more.length (fun gh i wr => ∃ (k : Nat) (Q : Nat → Prop) (a : Option Addr) (c : Nat) (sv : Value) (hs : List Value), k ≤ more.length ∧ i = .int .i64 k ∧ gh = more.length - k ∧ GameAt wr Q g1 (M.runK G3 ms k).1 a c sv hs ∧ (∀ b, Q b → (Q14 b ∨ W14.heap.size ≤ b) ∧ b < wr.heap.size) ∧ OwnReps wr Q W5.heap.size (.slice fa more.length fc) rs hr ∧ Only Q14 W14 wr)
        case atStart => exact ⟨0, Q14, a13, c13, sv13, hs13, Nat.zero_le _, rfl, rfl, HG14.out.below HBg.out, (fun b q => ⟨.inl q, by have := (HQ14.out b q).2; omega⟩), HR14.out.below HBg.out, Only.of_below HBg.out⟩
        case round =>
        obtain ⟨wo, hwo⟩ : ∃ wo, wo = wr := ⟨_, rfl⟩
        subst hwo
        obtain ⟨k, Q, a, c, sv, hs, hk, rfl, hgk, hga, hQ, hre, hon⟩ := hrel
        have HK := Lib.hid hgk
        have HGA := Lib.hid hga
        have HQ := Lib.hid hQ
        have HRE := Lib.hid hre
        have HON' := Lib.hid hon
        have ko := hon.size
        have KWO : Below w.heap.size w wo := HKW14.out.trans (hon.below kw14 (fun b q => HQ14w.out b q))
        have kwo := KWO.size
        have HKWO := Lib.hid KWO
        clear hgk hga hQ hre hon
        rcases Nat.lt_or_ge k more.length with hlt | hge
        · obtain ⟨x, hx⟩ : ∃ x, more[k]? = some x := ⟨_, List.getElem?_eq_getElem hlt⟩
          obtain ⟨b, o, cap, ev, hlo, hc⟩ := (HM.out.below KWO).at hx
          obtain ⟨rfl, rfl⟩ : mv = some ⟨b, o, none⟩ ∧ mc = cap := by simpa using ev
          have hmx : ms[k]? = some (M.fixAct x) := by rw [HMS.out, List.getElem?_map, hx]; rfl
          obtain ⟨G', r, hd⟩ : ∃ G' r, M.doAct (M.runK G3 ms k).1 (M.fixAct x) = (G', r) := ⟨_, _, rfl⟩
          have HS := M.runK_succ G3 hmx
          have hrk := M.run_at G3 hmx
          rw [hd] at HS hrk
          rw [HE5.out] at hrk
          have HG' : Hid (G' = (M.runK G3 ms (k + 1)).1) := Lib.hid (by rw [HS])
          have HRK : Hid (rs[k]? = some r) := Lib.hid hrk
          have HXI := Lib.hid (fix_in (HMI.out x (List.mem_of_getElem? hx)))
          have HDD := Lib.hid hd
          have HC := Lib.hid hc
          have lb : b < wo.heap.size := cell_lt (hc 0 _ rfl)
          clear ev hlo hc hx hd HS hmx hrk
          obtain ⟨kk, hkk⟩ : ∃ kk, kk = decide (x.kind = 7 ∨ x.kind = 8) := ⟨_, rfl⟩
          have HKK := Lib.hid hkk
          clear hkk
          go_upto_region 23 with (first | (refine wpList_load_act (x := x) rfl (.tmp 86) rfl b (o + k * 17) (by rfl) HC.out ?_) | (refine wpList_store_actB (x := x) rfl (.tmp 19) (.tmp 87) rfl wo.heap.size (by rfl) (by rfl) (Blk.new_at rfl) rfl ?_; intro WS hBS hOS hZS hLS; have KS : Below wo.heap.size wo WS := hLS ((Below.refl _ wo).alloc (Nat.le_refl _) _) (Nat.le_refl _); have cz := hBS.cell 0; have cf := (fun i => hBS.free i); simp at cz; have lbs := hBS.lt; clear hOS hZS hLS))
          refine wp_called (fun W1 hW1 => ?_)
          have HBS : Hid (Blk W1 wo.heap.size 31 (actC x)) := Lib.hid (by rw [hW1]; exact hBS)
          have HKS : Hid (Below wo.heap.size wo W1) := Lib.hid (by rw [hW1]; exact KS)
          have cz1 := HBS.out.cell 0
          simp at cz1
          have lb1 := HBS.out.lt
          clear hW1 hBS KS cz cf lbs
          simp only [Act.put, List.setIfInBounds_toArray, List.set_cons_succ, List.set_cons_zero]
          go_cut [95] (fun q W => q = .bool kk ∧ W = W1)
          case first =>
            rcases (show x.kind = 7 ∨ x.kind = 8 ∨ (x.kind ≠ 7 ∧ x.kind ≠ 8) by omega) with e7 | e8 | ⟨n7, n8⟩
            · have q7 : (x.kind == 7) = true := by simpa using e7
              have HQ7 := Lib.hid e7
              clear e7
              go_wp2_with fail
              go_meet
              exact ⟨by rw [HKK.out, decide_eq_true (.inl HQ7.out)], rfl⟩
            · have q7 : (x.kind == 7) = false := by rw [beq_eq_false_iff_ne]; omega
              have q8 : (x.kind == 8) = true := by simpa using e8
              have HQ8 := Lib.hid e8
              clear e8
              go_wp2_with fail
              go_meet
              exact ⟨by rw [HKK.out, decide_eq_true (.inr HQ8.out)], rfl⟩
            · have q7 : (x.kind == 7) = false := by rw [beq_eq_false_iff_ne]; exact n7
              have q8 : (x.kind == 8) = false := by rw [beq_eq_false_iff_ne]; exact n8
              have HQ9 := Lib.hid (And.intro n7 n8)
              clear n7 n8
              go_wp2_with fail
              go_meet
              exact ⟨by rw [HKK.out, decide_eq_false (by rintro (h | h); exact HQ9.out.1 h; exact HQ9.out.2 h)], rfl⟩
          case rest =>
          obtain ⟨rfl, rfl⟩ := hcut
          go_upto_if 95 with fail
          go_cut [] (fun W => Blk W wo.heap.size 31 (actC (M.fixAct x)) ∧ Below wo.heap.size wo W)
          case first =>
            have cf1 := HBS.out.free 0
            cases kk
            · have hn := HKK.out.symm
              rw [decide_eq_false_iff_not] at hn
              have HF := Lib.hid (fix_none (fun h => hn (.inl h)) (fun h => hn (.inr h)))
              clear hn
              go_wp2_with fail
              go_meet
              exact ⟨by rw [HF.out]; exact HBS.out, HKS.out⟩
            · have hn := HKK.out.symm
              rw [decide_eq_true_eq] at hn
              have HF := Lib.hid hn
              clear hn
              go_wp2_with fail
              go_meet
              exact ⟨fix_blk HBS.out HF.out, HKS.out.setCell (Nat.le_refl _) _⟩
          case rest =>
          obtain ⟨bA, K2⟩ := hcut
          obtain ⟨W2, hW2⟩ : ∃ W2, W2 = wc := ⟨_, rfl⟩
          subst hW2
          clear cz1 lb1 HBS HKS
          have kz2 := K2.size
          obtain ⟨W6, hW6⟩ : ∃ W6, W6 = W2 := ⟨_, rfl⟩
          subst hW6
          obtain ⟨y, hy⟩ : ∃ y, y = M.fixAct x := ⟨_, rfl⟩
          rw [← hy] at bA
          have HBA := Lib.hid bA
          have HK2 := Lib.hid K2
          have HY := Lib.hid hy
          have HRA := Lib.hid (HRE.out.below K2)
          have HGA6 := Lib.hid (HGA.out.below K2)
          obtain ⟨rb, rc, ri, rci, rm, rcm, ev, hall⟩ := HRA.out.atAll HRK.out
          obtain ⟨rfl, rfl⟩ : fa = some ⟨rb, 0, none⟩ ∧ fc = rc := by simp [HRL.out] at ev; exact ev
          have HALL := Lib.hid hall
          have HE16 := Lib.hid (fun U (hb : Below W6.heap.size W6 U) => do_calls2 (x := y) (G' := G') (r := r) (HGA6.out.below hb) (fun b q => by have := (HQ.out b q).2; have := hb.size; omega) (M.runK_good GG3.out ms k) (M.runK_acts0 HA3.out ms k) (by rw [HY.out]; exact HXI.out) (by rw [HY.out]; exact HDD.out))
          have HRI := Lib.hid (fun (V : World) (hV : ∀ b, b < W6.heap.size → ¬ Q b → V.heap[b]? = W6.heap[b]?) (_ : W6.heap.size ≤ V.heap.size) => (HALL.out V _ (HRA.out.same hV)).2)
          have HSD := Lib.hid (fun (V : World) (hV : ∀ b, b < W6.heap.size → ¬ Q b → V.heap[b]? = W6.heap[b]?) (hz : W6.heap.size ≤ V.heap.size) (W : World) (hb : Below V.heap.size V W) => show W.cell? ⟨wo.heap.size, 0, none⟩ = some (.int .i64 y.kind) ∧ W.cell? ⟨wo.heap.size, 1, none⟩ = some (.int .i64 y.id) ∧ W.cell? ⟨wo.heap.size, 2, none⟩ = some (.int .i64 y.n) ∧ W.cell? ⟨wo.heap.size, 3, none⟩ = some (.int .i64 y.mask) ∧ W.cell? ⟨wo.heap.size, 4, none⟩ = some (.int .i64 y.row.X) ∧ W.cell? ⟨wo.heap.size, 5, none⟩ = some (.int .i64 y.row.Y) ∧ W.cell? ⟨wo.heap.size, 6, none⟩ = some (.int .i64 y.row.PX) ∧ W.cell? ⟨wo.heap.size, 7, none⟩ = some (.int .i64 y.row.PY) ∧ W.cell? ⟨wo.heap.size, 8, none⟩ = some (.int .i64 y.row.W) ∧ W.cell? ⟨wo.heap.size, 9, none⟩ = some (.int .i64 y.row.H) ∧ W.cell? ⟨wo.heap.size, 10, none⟩ = some (.int .i64 y.row.M) ∧ W.cell? ⟨wo.heap.size, 11, none⟩ = some (.int .i64 y.row.R) ∧ W.cell? ⟨wo.heap.size, 12, none⟩ = some (.int .i64 y.box.id) ∧ W.cell? ⟨wo.heap.size, 13, none⟩ = some (.int .i64 y.box.x1) ∧ W.cell? ⟨wo.heap.size, 14, none⟩ = some (.int .i64 y.box.y1) ∧ W.cell? ⟨wo.heap.size, 15, none⟩ = some (.int .i64 y.box.x2) ∧ W.cell? ⟨wo.heap.size, 16, none⟩ = some (.int .i64 y.box.y2) ∧ W.cell? ⟨rb, k * 4, none⟩ = some (.int .i64 r.code) ∧ W.cell? ⟨rb, k * 4 + 1, none⟩ = some (.int .i64 r.n) ∧ W.cell? ⟨rb, k * 4 + 2, none⟩ = some (.slice ri r.ids.length rci) ∧ W.cell? ⟨rb, k * 4 + 3, none⟩ = some (.slice rm r.met.length rcm) from by
            have z1 : Blk V wo.heap.size 31 (actC y) := (hV _ HBA.out.lt (fun q => by have := (HQ.out _ q).2; omega)).trans HBA.out
            have y1 := z1.below hb z1.lt
            obtain ⟨⟨r0, r1, r2, r3⟩, _⟩ := HALL.out W _ ((HRA.out.same hV).below hb)
            exact ⟨y1.cell 0, y1.cell 1, y1.cell 2, y1.cell 3, y1.cell 4, y1.cell 5, y1.cell 6, y1.cell 7, y1.cell 8, y1.cell 9, y1.cell 10, y1.cell 11, y1.cell 12, y1.cell 13, y1.cell 14, y1.cell 15, y1.cell 16, r0, r1, r2, r3⟩)
          have q5 : (0 : Int) ≤ (k : Int) := by omega
          have q6 : (k : Int) < (more.length : Int) := by omega
          obtain ⟨x0, x1, x2, x3, x4, x5, x6, x7, x8, x9, x10, x11, x12, x13, x14, x15, x16, z0, z1, z2, z3⟩ := HSD.out W6 (fun _ _ _ => rfl) (Nat.le_refl _) W6 (Below.refl _ _)
          clear bA K2 hy ev hall
          go_wp2_with fail
          go_region_held3 (fun W => W.cell? ⟨wo.heap.size, 0, none⟩ = some (.int .i64 y.kind) ∧ W.cell? ⟨wo.heap.size, 1, none⟩ = some (.int .i64 y.id) ∧ W.cell? ⟨wo.heap.size, 2, none⟩ = some (.int .i64 y.n) ∧ W.cell? ⟨wo.heap.size, 3, none⟩ = some (.int .i64 y.mask) ∧ W.cell? ⟨wo.heap.size, 4, none⟩ = some (.int .i64 y.row.X) ∧ W.cell? ⟨wo.heap.size, 5, none⟩ = some (.int .i64 y.row.Y) ∧ W.cell? ⟨wo.heap.size, 6, none⟩ = some (.int .i64 y.row.PX) ∧ W.cell? ⟨wo.heap.size, 7, none⟩ = some (.int .i64 y.row.PY) ∧ W.cell? ⟨wo.heap.size, 8, none⟩ = some (.int .i64 y.row.W) ∧ W.cell? ⟨wo.heap.size, 9, none⟩ = some (.int .i64 y.row.H) ∧ W.cell? ⟨wo.heap.size, 10, none⟩ = some (.int .i64 y.row.M) ∧ W.cell? ⟨wo.heap.size, 11, none⟩ = some (.int .i64 y.row.R) ∧ W.cell? ⟨wo.heap.size, 12, none⟩ = some (.int .i64 y.box.id) ∧ W.cell? ⟨wo.heap.size, 13, none⟩ = some (.int .i64 y.box.x1) ∧ W.cell? ⟨wo.heap.size, 14, none⟩ = some (.int .i64 y.box.y1) ∧ W.cell? ⟨wo.heap.size, 15, none⟩ = some (.int .i64 y.box.x2) ∧ W.cell? ⟨wo.heap.size, 16, none⟩ = some (.int .i64 y.box.y2) ∧ W.cell? ⟨rb, k * 4, none⟩ = some (.int .i64 r.code) ∧ W.cell? ⟨rb, k * 4 + 1, none⟩ = some (.int .i64 r.n) ∧ W.cell? ⟨rb, k * 4 + 2, none⟩ = some (.slice ri r.ids.length rci) ∧ W.cell? ⟨rb, k * 4 + 3, none⟩ = some (.slice rm r.met.length rcm)) (first | ((with_reducible refine HSD.out W6 (fun _ _ _ => rfl) (Nat.le_refl _) _ ?_); (repeat first | with_reducible exact Below.refl _ _ | with_reducible apply Below.drew | with_reducible apply Below.alloc (hB := (by first | omega | (simp; done) | (simp; omega)))); done) | ((with_reducible refine HS16.out _ ?_); (repeat first | with_reducible exact Below.refl _ _ | with_reducible apply Below.drew | with_reducible apply Below.alloc (hB := (by first | omega | (simp; done) | (simp; omega))) | with_reducible refine Below.trans ?_ (Below.mono (B' := w16.heap.size) hb17 (by first | omega | (simp; done) | (simp; omega)))); done)) (first | (go_at_call_of 15 g1; refine (HE16.out _ (by repeat first | with_reducible exact Below.refl _ _ | with_reducible apply Below.drew | with_reducible apply Below.alloc (hB := (by first | omega | (simp; done) | (simp; omega))))).mono ?_; rintro e w16 ⟨ai16, ci16, am16, cm16, Q16, a16, c16, sv16, hs16, rfl, hg16, hQ16, ho16, hi16, hm16⟩; have HG16 := Lib.hid hg16; have HQ16 := Lib.hid hQ16; have HO16 := Lib.hid ho16; have kz16 := ho16.size; (try simp at kz16); have HR16 := Lib.hid ((HRA.out.below (Below.refl _ W6).drew).only ho16 (R := Q16) (fun b q => (hQ16 b q).1)); have HS16 := Lib.hid (HSD.out w16 (fun b hb hq => ho16.block b hb hq) kz16); have hS16 := HS16.out w16 (Below.refl _ _); have HSR := Lib.hid (sameReply_calls (w := w16) (r := r) (Lies.mono (Lies.of_owns hi16) (Nat.zero_le _)) (Lies.mono (Lies.of_owns hm16) (Nat.zero_le _)) (HRI.out w16 (fun b hb hq => ho16.block b hb hq) kz16).1 (HRI.out w16 (fun b hb hq => ho16.block b hb hq) kz16).2); clear hg16 hQ16 ho16 hi16 hm16) | (go_at_call 17; refine HSR.out.mono ?_; rintro e w17 ⟨rfl, hb17⟩; have hz17 := hb17.size; (try simp at hz17)))
          all_goals
            go_wp2_with fail
            go_roundg (more.length - (k + 1))
            case measure => rw [HK.out]; omega
            case rel =>
              have hg16 := HG16.out
              rw [HG'.out] at hg16
              have hQ16' : ∀ b, Q16 b → Q14 b ∨ W14.heap.size ≤ b := fun b q => by
                rcases (HQ16.out b q).1 with k | k
                · exact (HQ.out b k).1
                · have k : W6.heap.size ≤ b := k; right; omega
              exact ⟨k + 1, Q16, a16, c16, sv16, hs16, by omega, by go_num, rfl, hg16.below hb17, (fun b q => ⟨hQ16' b q, by have := (HQ16.out b q).2.1; omega⟩), HR16.out.below hb17, (((HON'.out.more HK2.out).drew.inside HO16.out (fun b q => (HQ.out b q).1)).more hb17)⟩
        · obtain rfl : k = more.length := by omega
          have q9 : decide ((more.length : Int) < (more.length : Int)) = false := decide_eq_false (by omega)
          have eK : M.runK G3 ms more.length = (G4, rs) := by rw [← HML.out, M.runK_all, HE5.out]
          rw [eK] at HGA
          have hwe := fun U (hb : Below wo.heap.size wo U) => gworld_calls (HGA.out.below hb) GG4.out
          rw [HE6.out] at hwe
          have HWE := Lib.hid hwe
          have HTO : Hid (Only (fun b => Qf b ∧ b < wf.heap.size) W12 wo) := Lib.hid (HTO14.out.inside HON'.out (fun b q => (HQ14.out b q).1))
          have HBT : Hid (Blk wo w11.heap.size 41 (worldC (.slice a11 G2.w.things.tables.length c11) G2.w)) := Lib.hid (HB12.out.only HTO.out (fun q => by have := q.2; omega))
          have HSTE : Hid (StoreAt wo 0 (stV a11 c11 G2.w.things) G2.w.things) := Lib.hid ((HST12.out.same (fun g h1 h2 => HTO.out.block g h2 (fun q => by have := q.2; omega))).mono (Nat.zero_le _))
          have SBE := Lib.hid (fun W (hb : Below wo.heap.size wo W) => show W.cell? ⟨w11.heap.size, 0, none⟩ = some (.slice a11 G2.w.things.tables.length c11) ∧ W.cell? ⟨w11.heap.size, 1, none⟩ = some (.int .i64 G2.w.things.next) ∧ W.cell? ⟨w11.heap.size, 2, none⟩ = some (.int .i64 G2.w.fall) ∧ W.cell? ⟨w11.heap.size, 3, none⟩ = some (.int .i64 G2.w.wide) ∧ W.cell? ⟨w11.heap.size, 4, none⟩ = some (.int .i64 G2.w.high) from by
            have y2 := HBT.out.below hb HBT.out.lt
            exact ⟨y2.cell 0, y2.cell 1, y2.cell 2, y2.cell 3, y2.cell 4⟩)
          obtain ⟨s0, s1, s2, s3, s4⟩ := SBE.out wo (Below.refl _ _)
          clear hwe eK
          go_upto_region 28 with fail
          go_region_held3 (fun W => W.cell? ⟨w11.heap.size, 0, none⟩ = some (.slice a11 G2.w.things.tables.length c11) ∧ W.cell? ⟨w11.heap.size, 1, none⟩ = some (.int .i64 G2.w.things.next) ∧ W.cell? ⟨w11.heap.size, 2, none⟩ = some (.int .i64 G2.w.fall) ∧ W.cell? ⟨w11.heap.size, 3, none⟩ = some (.int .i64 G2.w.wide) ∧ W.cell? ⟨w11.heap.size, 4, none⟩ = some (.int .i64 G2.w.high)) (((with_reducible refine SBE.out _ ?_); (repeat first | with_reducible exact Below.refl _ _ | with_reducible apply Below.drew | with_reducible apply Below.alloc (hB := (by first | omega | (simp; done) | (simp; omega))) | with_reducible refine Below.trans ?_ (Below.mono (B' := wo.heap.size) hb20 (by first | omega | (simp; done) | (simp; omega))) | with_reducible refine Below.trans ?_ (Below.mono (B' := wo.heap.size) hb19 (by first | omega | (simp; done) | (simp; omega)))); done)) (first | (go_at_call 11; refine (HWE.out _ (by repeat first | with_reducible exact Below.refl _ _ | with_reducible apply Below.drew | with_reducible apply Below.alloc (hB := (by first | omega | (simp; done) | (simp; omega))) | with_reducible refine Below.trans ?_ (Below.mono (B' := wo.heap.size) hb20 (by first | omega | (simp; done) | (simp; omega))) | with_reducible refine Below.trans ?_ (Below.mono (B' := wo.heap.size) hb19 (by first | omega | (simp; done) | (simp; omega))))).mono ?_; rintro e w19 ⟨a19, c19, hs19, rfl, ho19, hb19⟩; have HO19 := Lib.hid ho19; have hz19 := hb19.size; (try simp at hz19); clear ho19) | (go_at_call 16; refine (same_calls (d := G2.w) (HO19.out.at_.mono (Nat.zero_le _)) (HSTE.out.below (by repeat first | with_reducible exact Below.refl _ _ | with_reducible apply Below.drew | with_reducible apply Below.alloc (hB := (by first | omega | (simp; done) | (simp; omega))) | with_reducible refine Below.trans ?_ (Below.mono (B' := wo.heap.size) hb20 (by first | omega | (simp; done) | (simp; omega))) | with_reducible refine Below.trans ?_ (Below.mono (B' := wo.heap.size) hb19 (by first | omega | (simp; done) | (simp; omega))))) GG2.out.w).mono ?_; rintro e w20 ⟨rfl, hb20⟩; have hz20 := hb20.size; (try simp at hz20)))
          all_goals
            go_wp2_with fail
            go_ret
            exact ⟨rfl, HKWO.out.trans (Below.mono (B' := w.heap.size) (by repeat first | with_reducible exact Below.refl _ _ | with_reducible apply Below.drew | with_reducible apply Below.alloc (hB := (by first | omega | (simp; done) | (simp; omega))) | with_reducible refine Below.trans ?_ (Below.mono (B' := wo.heap.size) hb20 (by first | omega | (simp; done) | (simp; omega))) | with_reducible refine Below.trans ?_ (Below.mono (B' := wo.heap.size) hb19 (by first | omega | (simp; done) | (simp; omega)))) kwo)⟩
    · have q20 : decide ((20 : Int) < (more.length : Int)) = true := by rw [decide_eq_true_eq]; omega
      have q20' : decide (20 < more.length) = true := by rw [decide_eq_true_eq]; omega
      clear hc hlen
      go_wp2_with fail
      go_ret
      exact ⟨rfl, K3⟩
  · have q0 : (rS.code != 0) = true := by simpa using hc
    clear hc
    go_wp2_with fail
    go_ret
    exact ⟨rfl, K3⟩
end Go.Proofs.YtkpecagkpjabdabGreat
