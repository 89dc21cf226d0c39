/- The walk of WorldSteps. Condition: the world lies in memory, its numbers are of 64 bits. -/
import Derived.Test.YtkpecagkpjabdabGreatLawStepJoin
import Derived.Test.YtkpecagkpjabdabGreatBagM8
import Derived.Test.YtkpecagkpjabdabGreatRefWorldOf
import Derived.Test.YtkpecagkpjabdabGreatBagM9
import Derived.Test.YtkpecagkpjabdabGreatBagM7
import Derived.Test.YtkpecagkpjabdabGreatBagM1
namespace Go.Proofs.YtkpecagkpjabdabGreat
open Go.RowKit
set_option linter.unusedVariables false
set_option linter.unusedSimpArgs false
set_option maxRecDepth 100000
theorem boxNe_self (a : M.Box) (w : World) : (binOp .neq 29 (boxV a) (boxV a)).run Tryz.prog w = .ok (.bool false) w := by
  have hS : Tryz.prog.underlying 29 = some (.struct (Tryz.prog.fieldsOf 29)) := by kernel_rfl
  have hp : Tryz.prog.stoodInHeld 29 = false := by kernel_rfl
  obtain ⟨a0, a1, a2, a3, a4⟩ := a
  rw [run_neq_struct, show (10000 : Nat) = 9999 + 1 from rfl, run_equalIn_agg w 9999 29 _ _ hS hp]
  simp only [Program.fieldsOf, Tryz.underlying29]
  go_simp
set_option maxHeartbeats 16000000 in
set_option maxRecDepth 100000 in
theorem worldSteps_walk (d : M.Wd) (w : World) {v : Value} (h : WorldAt w v d) (hsz : Sized d.things) :
    Calls Tryz.prog 5 #[v] w fun e w' => e = .returned (.bool true) ∧ Below w.heap.size w w' := by
  obtain ⟨vt, rfl, hst, hin, hf, hwi, hhi⟩ := h
  obtain ⟨vt', ev, hs, hT⟩ := id hst
  obtain rfl : vt = vt' := by simpa using ev
  obtain ⟨a, c, rfl⟩ := hT.val
  have HST := Lib.hid hst
  have HIN := Lib.hid hin
  have HSZ := Lib.hid hsz
  have HCP := Lib.hid (fun U (hb : Below w.heap.size w U) => lcopied_calls (hst.below hb) hsz)
  obtain ⟨g, hg⟩ : ∃ g, M.goodW d = g := ⟨_, rfl⟩
  have HGW := Lib.hid hg
  have HG := Lib.hid (fun (U : World) (a' : Option Addr) (c' : Nat) (hu : StoreAt U 0 (stV a' c' d.things) d.things) => goodWorld_calls (d := d) (vt := .slice a' d.things.tables.length c') hu hin)
  have HWL := Lib.hid lworlds_calls
  have HWO := Lib.hid (fun U (hb : Below w.heap.size w U) => worldOf_calls (d := d) (hst.below hb) hin hsz)
  rw [hg] at HWO HG
  obtain ⟨d', l, k, hsd⟩ : ∃ d' l k, M.step d = (d', l, k) := ⟨_, _, _, rfl⟩
  have HS := Lib.hid (fun (U : World) (a' : Option Addr) (c' : Nat) (hu : StoreAt U 0 (stV a' c' d.things) d.things) => step_calls2 (P := fun _ => True) ((Rob.of_at hu).wide (fun _ _ _ => trivial)) hin hsd)
  have HSTP := Lib.hid hsd
  have HF := Lib.hid (And.intro hf (And.intro hwi hhi))
  clear ev hst hin hsz hT hsd hf hwi hhi hg
  go_enter Tryz.func5, Tryz.ntmps5
  go_upto_region 3 with (go_at_call 18; go_loud (refine (HCP.out _ bel9).mono ?_; rintro e w1 ⟨a1, c1, hs1, rfl, ho1, hb1⟩; have ho1 : OwnTabs w1 (w.heap.size + 1 + 1) (.slice a1 d.things.tables.length c1) d.things.tables hs1 := (by simpa using ho1); have HO1 := Lib.hid ho1; have kz1 := hb1.size; (try simp at kz1); have K1 : Below w.heap.size w w1 := (show Below w.heap.size w _ from bel9).trans (hb1.mono sid9); have b0 : Blk w1 w.heap.size 41 (#[.slice a d.things.tables.length c, .int .i64 d.things.next, .int .i64 d.fall, .int .i64 d.wide, .int .i64 d.high]) := Blk.below ((Blk.new_at rfl).alloc _) hb1 sid9; have c0 : Blk w1 (w.heap.size + 1) 41 (#[.slice a d.things.tables.length c, .int .i64 d.things.next, .int .i64 d.fall, .int .i64 d.wide, .int .i64 d.high]) := Blk.below (Blk.new_at (by simp)) hb1 sid9; have lb0 := b0.lt; have lc0 := c0.lt; have cf := fun i => c0.free i; have y0 := c0.cell 0; have y1 := c0.cell 1; simp at y0 y1; clear ho1))
  refine wp_called (fun W2 hW2 => ?_)
  have HBW : Hid (Blk W2 w.heap.size 41 (#[.slice a d.things.tables.length c, .int .i64 d.things.next, .int .i64 d.fall, .int .i64 d.wide, .int .i64 d.high])) := Lib.hid (by rw [hW2]; exact (b0.far (by simp) _).far (by simp) _)
  have HBC : Hid (Blk W2 (w.heap.size + 1) 41 (#[.slice a1 d.things.tables.length c1, .int .i64 d.things.next, .int .i64 d.fall, .int .i64 d.wide, .int .i64 d.high])) := Lib.hid (by rw [hW2]; exact blk_to ((c0.put 0 _).put 1 _) (by simp))
  have HK2 : Hid (Below w.heap.size w W2) := Lib.hid (by rw [hW2]; exact bel9)
  have HTC : Hid (StoreAt W2 0 (stV a1 c1 d.things) d.things) := Lib.hid ((StoreAt.same (W := W2) (lo := w.heap.size + 1 + 1) (show StoreAt w1 (w.heap.size + 1 + 1) (stV a1 c1 d.things) d.things from ⟨_, rfl, hs1, HO1.out.tabs⟩) (fun g h1 h2 => by rw [hW2]; exact (Below.heap_setCell _ _ _ g (by show g ≠ w.heap.size + 1; omega)).trans (Below.heap_setCell _ _ _ g (by show g ≠ w.heap.size + 1; omega)))).mono (Nat.zero_le _))
  have k2 := HK2.out.size
  have x0 := HBW.out.cell 0
  have x1 := HBW.out.cell 1
  have x2 := HBW.out.cell 2
  have x3 := HBW.out.cell 3
  have x4 := HBW.out.cell 4
  simp at x0 x1 x2 x3 x4
  have lw2 := HBW.out.lt
  clear b0 c0 y0 y1 cf lb0 lc0 K1 kz1 hW2
  go_upto_region 4 with (go_at_call 19; go_loud (refine (HWO.out _ (HK2.out.trans (show Below w.heap.size W2 _ from bel9))).mono ?_; rintro e w3 ⟨m3, rfl, hm3, hb3⟩; have HM3 := Lib.hid hm3; have K3 : Below W2.heap.size W2 w3 := (show Below W2.heap.size W2 _ from bel9).trans (hb3.mono sid9); have kz3 := K3.size; clear hm3))
  refine wp_called (fun W3 hW3 => ?_)
  have HBX : Hid (Blk W3 w3.heap.size 57 #[.map m3, .int .i64 d.things.next, .int .i64 d.fall, .int .i64 d.wide, .int .i64 d.high]) := Lib.hid (by rw [hW3]; exact Blk.new_at rfl)
  have hk3 : Below W2.heap.size W2 W3 := by rw [hW3]; exact bel9
  have hm3' : Below w3.heap.size w3 W3 := by rw [hW3]; exact bel9
  have HMX : Hid (M.good d.things = true → ∃ b, m3 = some b ∧ W2.heap.size ≤ b ∧ MapA W3 b (M.look (M.entries d.things)) (M.size d.things)) := Lib.hid (fun h => by obtain ⟨b, e1, e2, e3⟩ := HM3.out h; exact ⟨b, e1, e2, e3.below hm3' e3.lt⟩)
  have HK3 : Hid (Below w.heap.size w W3) := Lib.hid (HK2.out.trans (hk3.mono k2))
  have HB3 := Lib.hid (HBW.out.below hk3 HBW.out.lt)
  have HC3 := Lib.hid (HBC.out.below hk3 HBC.out.lt)
  have HT3 := Lib.hid (HTC.out.below hk3)
  have k3 := HK3.out.size
  have l3 := HBX.out.lt
  have y0 := HC3.out.cell 0
  have y1 := HC3.out.cell 1
  have y2 := HC3.out.cell 2
  have y3 := HC3.out.cell 3
  have y4 := HC3.out.cell 4
  simp at y0 y1 y2 y3 y4
  have lc3 := HC3.out.lt
  clear hW3 hk3 hm3' x0 x1 x2 x3 x4 lw2 HBW HBC HTC HM3 K3 kz3 hb3 k2 HK2 HO1 hb1
  go_upto_region 5 with (go_at_call 20; go_loud (refine (HS.out _ _ _ (HT3.out.below bel9)).mono ?_; rintro e w4 ⟨a4, c4, vo, rfl, hr4, ho4, hb4⟩; obtain ⟨oa, oc, rfl⟩ := own_form ho4; have HR4 := Lib.hid hr4.at_; have HO4 := Lib.hid ho4; have K4 : Below W3.heap.size W3 w4 := (show Below W3.heap.size W3 _ from bel9).trans (hb4.mono sid9); have kz4 := K4.size; clear hr4 ho4))
  refine wp_called (fun W4 hW4 => ?_)
  have HBA : Hid (Blk W4 w4.heap.size 41 #[.slice a4 d'.things.tables.length c4, .int .i64 d'.things.next, .int .i64 d'.fall, .int .i64 d'.wide, .int .i64 d'.high]) := Lib.hid (by rw [hW4]; exact Blk.new_at rfl)
  have hk4 : Below W3.heap.size W3 W4 := by rw [hW4]; exact bel9
  have hw4 : Below w4.heap.size w4 W4 := by rw [hW4]; exact bel9
  have HK4 : Hid (Below w.heap.size w W4) := Lib.hid (HK3.out.trans (hk4.mono k3))
  have HRA := Lib.hid (HR4.out.below hw4)
  have HOA := Lib.hid (own_lower (lo := w.heap.size) (own_below HO4.out hw4) (by first | omega | (simp; omega)))
  have HB4 := Lib.hid (HB3.out.below hk4 HB3.out.lt)
  have HC4 := Lib.hid (HC3.out.below hk4 HC3.out.lt)
  have HX4 := Lib.hid (HBX.out.below hk4 HBX.out.lt)
  have HM4 : Hid (M.good d.things = true → ∃ b, m3 = some b ∧ W2.heap.size ≤ b ∧ MapA W4 b (M.look (M.entries d.things)) (M.size d.things)) := Lib.hid (fun h => by obtain ⟨b, e1, e2, e3⟩ := HMX.out h; exact ⟨b, e1, e2, e3.below hk4 e3.lt⟩)
  have HT4 := Lib.hid (HT3.out.below hk4)
  have k4 := HK4.out.size
  have CS := Lib.hid (fun W (hb : Below W4.heap.size W4 W) => show (W.cell? ⟨w.heap.size, 0, none⟩ = some (.slice a d.things.tables.length c) ∧ W.cell? ⟨w.heap.size, 1, none⟩ = some (.int .i64 d.things.next)) ∧ W.cell? ⟨w.heap.size + 1, 0, none⟩ = some (.slice a1 d.things.tables.length c1) ∧ W.cell? ⟨w.heap.size + 1, 1, none⟩ = some (.int .i64 d.things.next) from by
    have b := HB4.out.below hb HB4.out.lt
    have c := HC4.out.below hb HC4.out.lt
    exact ⟨⟨b.cell 0, b.cell 1⟩, c.cell 0, c.cell 1⟩)
  have y0 := HC4.out.cell 0
  have y1 := HC4.out.cell 1
  have y2 := HC4.out.cell 2
  have y3 := HC4.out.cell 3
  have y4 := HC4.out.cell 4
  simp at y0 y1 y2 y3 y4
  have lc4 := HC4.out.lt
  have q1 : (g != g) = false := by simp
  clear hW4 hk4 hw4 HB3 HC3 HBX HMX HT3 HR4 HO4 hb4 K4 kz4
  go_upto_region 7 with (first | (go_at_call 21; go_loud (refine (HG.out _ _ _ (HT4.out.below bel9)).mono ?_; rintro e w5 ⟨rfl, hb5⟩; have K5 : Below W4.heap.size W4 w5 := (show Below W4.heap.size W4 _ from bel9).trans (hb5.mono sid9); have kz5 := K5.size; obtain ⟨⟨z0, z1⟩, z2, z3⟩ := CS.out _ K5)) | (go_at_call 22; go_loud (refine (lsame_calls (HT4.out.below K5) (HST.out.below (HK4.out.trans (K5.mono k4)))).mono ?_; rintro e w6 ⟨rfl, hb6⟩; have K6 : Below W4.heap.size W4 w6 := K5.trans (hb6.mono kz5); have kz6 := K6.size)) | (go_at_call 23; go_loud (refine (HWL.out _).mono ?_; rintro e w7 ⟨rfl, hb7⟩; have K7 : Below W4.heap.size W4 w7 := K6.trans (hb7.mono kz6); have kz7 := K7.size)))
  have HK7 := Lib.hid (HK4.out.trans (K7.mono k4))
  have HK47 := Lib.hid K7
  have HA7 := Lib.hid (HBA.out.below K7 HBA.out.lt)
  have HB7 := Lib.hid (HB4.out.below K7 HB4.out.lt)
  have HC7 := Lib.hid (HC4.out.below K7 HC4.out.lt)
  have HX7 := Lib.hid (HX4.out.below K7 HX4.out.lt)
  have HRA7 := Lib.hid (HRA.out.below K7)
  have HOA7 := Lib.hid (own_below HOA.out K7)
  have HT7 := Lib.hid (HT4.out.below K7)
  have k7 := HK7.out.size
  clear y0 y1 y2 y3 y4 z0 z1 z2 z3 hb5 hb6 hb7 K5 K6 K7 kz5 kz6 CS HBA HB4 HC4 HX4 HRA HOA HT4 lc3 lc4 l3 ho1
  cases g
  · have ev := HSTP.out
    rw [M.step_bad HGW.out] at ev
    simp only [Prod.mk.injEq] at ev
    obtain ⟨rfl, rfl, rfl⟩ := ev
    have x0 := HA7.out.cell 0
    have x1 := HA7.out.cell 1
    have x2 := HA7.out.cell 2
    have x3 := HA7.out.cell 3
    have x4 := HA7.out.cell 4
    have y0 := HB7.out.cell 0
    have y1 := HB7.out.cell 1
    have y2 := HB7.out.cell 2
    have y3 := HB7.out.cell 3
    have y4 := HB7.out.cell 4
    simp at x0 x1 x2 x3 x4 y0 y1 y2 y3 y4
    have lx := HA7.out.lt
    have ly := HB7.out.lt
    go_wp2_with (go_at_call 22; go_loud (refine (lsame_calls (HRA7.out.below bel9) (HST.out.below (HK7.out.trans (show Below w.heap.size w7 _ from bel9)))).mono ?_; rintro e w8 ⟨rfl, hb8⟩; have K8 : Below w7.heap.size w7 w8 := (show Below w7.heap.size w7 _ from bel9).trans (hb8.mono sid9); have kz8 := K8.size; have bx8 := HA7.out.below K8 HA7.out.lt; have by8 := HB7.out.below K8 HB7.out.lt; have s2 := bx8.cell 2; have s3 := bx8.cell 3; have s4 := bx8.cell 4; have t2 := by8.cell 2; have t3 := by8.cell 3; have t4 := by8.cell 4; simp at s2 s3 s4 t2 t3 t4))
    go_ret
    exact ⟨rfl, HK7.out.trans (K8.mono k7)⟩
  · have gw := M.goodW_iff.1 HGW.out
    have sk := M.step_kept gw
    have hsd := HSTP.out
    rw [hsd] at sk
    simp only at sk
    obtain ⟨rfl, kp, gw', e1, e2, e3⟩ := sk
    have HE := Lib.hid (And.intro kp.next (And.intro e1 (And.intro e2 e3)))
    have HGW2 : Hid (M.goodW d' = true) := Lib.hid (M.goodW_iff.2 gw')
    have HSO := Lib.hid (fun (U : World) (b : Nat) (h : MapA U b (M.at_ d.things) (M.size d.things)) => stepOf_good gw h)
    rw [hsd] at HSO
    simp only at HSO
    have HW2 := Lib.hid (fun (U : World) (h : StoreAt U 0 (stV a4 c4 d'.things) d'.things) => worldOf_calls (d := d') (vt := .slice a4 d'.things.tables.length c4) h (good_in gw'.things) (good_sized gw'.things))
    rw [HGW2.out] at HW2
    obtain ⟨bx, rfl, hbx, hmx⟩ := HM4.out ((M.good_iff d.things).2 gw.things)
    have HMB : Hid (MapA w7 bx (M.at_ d.things) (M.size d.things)) := Lib.hid (hmx.below HK47.out hmx.lt)
    obtain ⟨L, hL⟩ : ∃ L, L = M.boxes d.things := ⟨_, rfl⟩
    have HBX : Hid (∀ W, Below w7.drew.heap.size w7.drew W → Calls Tryz.prog 24 #[.agg #[.slice a1 d.things.tables.length c1, .int .i64 d.things.next]] W fun e W' => ∃ v, e = .returned v ∧ World.ownsRow W' w7.drew.heap.size 29 5 v L.length (L.flatMap boxL) ∧ Below W.heap.size W W') := Lib.hid (fun W hb => (worldBoxes_calls (HT7.out.below (show Below w7.heap.size w7 W from ((Below.refl _ w7).drew).trans hb)) gw.things).mono (by rintro e W' ⟨v, h1, h2, h3⟩; rw [← hL] at h2; exact ⟨v, h1, own_lower h2 hb.size, h3⟩))
    have HBF : Hid (∀ W, Below w7.drew.heap.size w7.drew W → Calls Tryz.prog 25 #[rwV bx d.things.next d.fall d.wide d.high] W fun e W' => ∃ v, e = .returned v ∧ World.ownsRow W' w7.drew.heap.size 29 5 v L.length (L.flatMap boxL) ∧ Below W.heap.size W W') := Lib.hid (fun W hb => (boxesOf_calls (HMB.out.below (show Below w7.heap.size w7 W from ((Below.refl _ w7).drew).trans hb) HMB.out.lt) (Nat.le_trans gw.things.2.2.2.1 (by decide)) (fun id t e => M.at_fits gw.things e) d.things.next d.fall d.wide d.high).mono (by rintro e W' ⟨v, zs, h1, h2, h4, h5, h6, _, h3⟩; rw [M.boxesF_boxes gw.things h4 h5 h6, ← hL] at h2; exact ⟨v, h1, own_lower h2 hb.size, h3⟩))
    clear gw gw' kp e1 e2 e3 hsd hmx hL
    go_upto_region 9 with fail
    refine DG.wp_named (fun A hA => ?_)
    show Code.wp Tryz.prog wsbC _ _ _
    rw [wsbC_is]
    refine wp_region_any (by kernel_rfl) ?_
    rw [wsbOps_size]
    show wpAny _ _ _ _ _ _ _ w7.drew
    refine wsb_region (p3 := w.heap.size + 1) (p4 := w3.heap.size) (z0 := .slice a1 d.things.tables.length c1) (z1 := .int .i64 d.things.next) (fall := d.fall) (wide := d.wide) (high := d.high) (next := d.things.next) (b := bx) (L := L) (W0 := w7.drew) ⟨by rw [hA]; rfl, by rw [hA]; rfl, HC7.out.drew, HX7.out.drew, HBX.out, HBF.out⟩ (by rw [hA]; rfl) (by rw [hA]) (undef, undef) (by unfold wsbMem; exact ⟨Below.refl _ _, (fun e => by cases e), fun e => by cases e⟩) ?_
    intro gg ll W8 hll hmm
    unfold wsbMem at hmm
    obtain ⟨hbel, h2, h4⟩ := hmm
    have ho1 := h2 (hll 2 (by decide))
    have ho2 := h4 (hll 4 (by decide))
    obtain ⟨v9, v10⟩ := gg
    simp only at ho1 ho2
    obtain ⟨ba, bc, rfl⟩ := own_form ho1
    obtain ⟨ca, cc, rfl⟩ := own_form ho2
    rw [hA]
    simp only [wsbVal, List.getD_cons_zero, List.getD_cons_succ]
    simp only [DG.setQ, List.setIfInBounds_toArray, List.set_cons_zero, List.set_cons_succ]
    have K8 : Below w7.heap.size w7 W8 := ((Below.refl _ w7).drew).trans hbel
    have HL1 : Hid (BoxesAt5 W8 0 (.slice ba L.length bc) L) := Lib.hid (Lies.mono (Lies.of_owns ho1) (Nat.zero_le _))
    have HL2 : Hid (BoxesAt5 W8 0 (.slice ca L.length cc) L) := Lib.hid (Lies.mono (Lies.of_owns ho2) (Nat.zero_le _))
    have HK8 := Lib.hid K8
    have HK08 := Lib.hid (HK7.out.trans (K8.mono k7))
    have k8 := HK08.out.size
    clear hA A hll hbel h2 h4 ho1 ho2
    have hlm : L.length ≤ 9223372036854775807 := by have := HL1.out.max; unfold maxLen at this; omega
    go_wp2_with fail
    go_loopg [97] L.length (fun g i wr => ∃ n : Nat, n ≤ L.length ∧ i = .int .i64 n ∧ g = L.length - n ∧ Below W8.heap.size W8 wr)
    case atStart => exact ⟨0, Nat.zero_le _, rfl, rfl, Below.refl _ _⟩
    case round =>
      obtain ⟨wo, hwo⟩ : ∃ wo, wo = wr := ⟨_, rfl⟩
      subst hwo
      obtain ⟨n, hn, rfl, hg, hb⟩ := hrel
      have HBO := Lib.hid hb
      have HK := Lib.hid hg
      have ko := hb.size
      clear hb hg
      rcases Nat.lt_or_ge n L.length with hlt | hge
      · obtain ⟨x, hx⟩ : ∃ x, L[n]? = some x := ⟨_, List.getElem?_eq_getElem hlt⟩
        obtain ⟨b1, o1, c1, ev1, _, i0, i1, i2, i3, i4⟩ := (HL1.out.below HBO.out).at5 hx
        obtain ⟨b2, o2, c2, ev2, _, j0, j1, j2, j3, j4⟩ := (HL2.out.below HBO.out).at5 hx
        obtain ⟨rfl, rfl⟩ : ba = some ⟨b1, o1, none⟩ ∧ bc = c1 := by simpa using ev1
        obtain ⟨rfl, rfl⟩ : ca = some ⟨b2, o2, none⟩ ∧ cc = c2 := by simpa using ev2
        have NX := fun W => boxNe_self x W
        clear ev1 ev2 hx
        go_wp2_with fail
        go_quiet (fail)
        go_wp2_with fail
        go_roundg (L.length - (n + 1))
        case measure => rw [HK.out]; omega
        case rel => exact ⟨n + 1, by omega, by go_num, rfl, below_drewN HBO.out _⟩
      · obtain rfl : n = L.length := by omega
        have q9 : decide ((L.length : Int) < (L.length : Int)) = false := decide_eq_false (by omega)
        have K7o : Below w7.heap.size w7 wo := HK8.out.trans (HBO.out.mono HK8.out.size)
        have HKO := Lib.hid (HK08.out.trans (HBO.out.mono k8))
        have HXO := Lib.hid (HX7.out.below K7o HX7.out.lt)
        have HAO := Lib.hid (HA7.out.below K7o HA7.out.lt)
        have HMO := Lib.hid (HMB.out.below K7o HMB.out.lt)
        have HRO := Lib.hid (HRA7.out.below K7o)
        have HOO := Lib.hid (own_below HOA7.out K7o)
        have kwo := HKO.out.size
        have u0 := HXO.out.cell 0
        have u1 := HXO.out.cell 1
        have u2 := HXO.out.cell 2
        have u3 := HXO.out.cell 3
        have u4 := HXO.out.cell 4
        simp at u0 u1 u2 u3 u4
        have lxo := HXO.out.lt
        clear K7o
        go_upto_region 19 with (go_at_call 26; go_loud (refine (HSO.out _ _ (HMO.out.below (show Below wo.heap.size wo _ from bel9) HMO.out.lt)).mono ?_; rintro e w9 ⟨by_, pv, rfl, hm9, hy9, ho9, hb9⟩; obtain ⟨pa, pc, rfl⟩ := own_form ho9; have HM9 := Lib.hid hm9; have HO9 := Lib.hid ho9; have K9 : Below wo.heap.size wo w9 := (show Below wo.heap.size wo _ from bel9).trans (hb9.mono sid9); have kz9 := K9.size; clear hm9 ho9))
        refine wp_called (fun W9 hW9 => ?_)
        have B12 : Blk W9 w9.heap.size 57 (#[.map (some by_), .int .i64 d.things.next, .int .i64 d.fall, .int .i64 d.wide, .int .i64 d.high]) := by rw [hW9]; exact Blk.new_at rfl
        have h9 : Below w9.heap.size w9 W9 := by rw [hW9]; exact bel9
        have k9 : Below wo.heap.size wo W9 := by rw [hW9]; exact bel9
        have HB12 := Lib.hid B12
        have HM12 := Lib.hid (HM9.out.below h9 HM9.out.lt)
        have HO12 := Lib.hid (own_below HO9.out h9)
        have HA9 := Lib.hid (HAO.out.below k9 HAO.out.lt)
        have HR9 := Lib.hid (HRO.out.below k9)
        have HOO9 := Lib.hid (own_below HOO.out k9)
        have HK9 := Lib.hid (HKO.out.trans (k9.mono kwo))
        have kz := HK9.out.size
        have u0 := HA9.out.cell 0
        have u1 := HA9.out.cell 1
        have u2 := HA9.out.cell 2
        have u3 := HA9.out.cell 3
        have u4 := HA9.out.cell 4
        simp at u0 u1 u2 u3 u4
        have la9 := HA9.out.lt
        have l12 := B12.lt
        clear hW9 B12 h9 k9 hb9 K9 kz9 lxo
        go_upto_region 20 with (go_at_call 19; go_loud (refine (HW2.out _ (HR9.out.below bel9)).mono ?_; rintro e w10 ⟨mz, rfl, hmz, hb10⟩; obtain ⟨bz, rfl, hbz, hm10⟩ := hmz ((M.goodW_iff.1 HGW2.out).things |> (M.good_iff d'.things).2); have HM10 := Lib.hid hm10; have K10 : Below W9.heap.size W9 w10 := (show Below W9.heap.size W9 _ from bel9).trans (hb10.mono sid9); have kz10 := K10.size; clear hmz hm10))
        refine wp_called (fun W10 hW10 => ?_)
        have B14 : Blk W10 w10.heap.size 57 (#[.map (some bz), .int .i64 d.things.next, .int .i64 d.fall, .int .i64 d.wide, .int .i64 d.high]) := by rw [← HE.out.1, ← HE.out.2.1, ← HE.out.2.2.1, ← HE.out.2.2.2, hW10]; exact Blk.new_at rfl
        have h10 : Below w10.heap.size w10 W10 := by rw [hW10]; exact bel9
        have k10 : Below W9.heap.size W9 W10 := by rw [hW10]; exact bel9
        have B12 := HB12.out.below k10 HB12.out.lt
        have HB14 := Lib.hid B14
        have HM14 := Lib.hid (HM10.out.below h10 HM10.out.lt)
        have HMY := Lib.hid (HM12.out.below k10 HM12.out.lt)
        have HPY := Lib.hid (own_below HO12.out k10)
        have HPA := Lib.hid (own_below HOO9.out k10)
        have HK10 := Lib.hid (HK9.out.trans (k10.mono kz))
        have kz11 := HK10.out.size
        have s0 := B12.cell 0
        have s1 := B12.cell 1
        have s2 := B12.cell 2
        have s3 := B12.cell 3
        have s4 := B12.cell 4
        have t0 := B14.cell 0
        have t1 := B14.cell 1
        have t2 := B14.cell 2
        have t3 := B14.cell 3
        have t4 := B14.cell 4
        simp at s0 s1 s2 s3 s4 t0 t1 t2 t3 t4
        have lb12 := B12.lt
        have lb14 := B14.lt
        clear hW10 B12 B14 h10 k10 u0 u1 u2 u3 u4 hb10 K10 kz10 la9 l12
        go_wp2_with (first | (go_at_call 27; go_loud (refine (sameWorld_calls (HMY.out.below bel9 HMY.out.lt) (HM14.out.below bel9 HM14.out.lt) _ _ _ _).mono ?_; rintro e w11 ⟨rfl, hb11⟩; have K11 : Below W10.heap.size W10 w11 := (show Below W10.heap.size W10 _ from bel9).trans (hb11.mono sid9); have kz12 := K11.size)) | (go_at_call 28; go_loud (refine (samePairs_calls (zs := l) (Lies.mono (Lies.of_owns (own_below HPA.out K11)) (Nat.zero_le _)) (Lies.mono (Lies.of_owns (own_below HPY.out K11)) (Nat.zero_le _))).mono ?_; rintro e w12 ⟨rfl, hb12⟩)))
        go_ret
        exact ⟨rfl, HK10.out.trans ((K11.trans (hb12.mono kz12)).mono kz11)⟩
end Go.Proofs.YtkpecagkpjabdabGreat
