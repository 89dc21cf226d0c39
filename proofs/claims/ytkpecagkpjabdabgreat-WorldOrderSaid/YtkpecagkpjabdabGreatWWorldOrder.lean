/- The walk of WorldOrder. Condition: the world lies in memory, its numbers are of 64 bits. -/
import Derived.Test.YtkpecagkpjabdabGreatOpenWorld
import Derived.Test.YtkpecagkpjabdabGreatWorlds
import Derived.Test.YtkpecagkpjabdabGreatWorldStep
import Derived.Test.YtkpecagkpjabdabGreatSameAlike
import Derived.Test.YtkpecagkpjabdabGreatLawOrder
import Derived.Test.YtkpecagkpjabdabGreatOrderRows
import Derived.Test.YtkpecagkpjabdabGreatAppendLies
import Derived.Test.YtkpecagkpjabdabGreatBagH
import Derived.Test.YtkpecagkpjabdabGreatPick
import Derived.Test.YtkpecagkpjabdabGreatOrderSwap
import Derived.Test.YtkpecagkpjabdabGreatBagP
import Derived.Test.YtkpecagkpjabdabGreatBagSw
import Derived.Deep.QuietTactic
import Derived.BigQuiet
import Derived.Deep.RegionWith
import Derived.Deep.RegionHeld3
import Derived.Deep.DeepCutAuto
namespace Go.Proofs.YtkpecagkpjabdabGreat
open Go.RowKit
set_option linter.unusedVariables false
set_option linter.unusedSimpArgs false
set_option maxRecDepth 100000
/-- which place comes first in a table told anew -/
def M.pickN (k : Int) (t : M.Table) : Nat := (k % (t.ids.length : Int)).toNat
theorem M.pickN_lt (k : Int) {t : M.Table} (h : t.ids ≠ []) : M.pickN k t < t.ids.length := by
  have h1 : 0 < t.ids.length := List.length_pos_iff.2 h
  unfold M.pickN
  have a := Int.emod_nonneg k (show (t.ids.length : Int) ≠ 0 by omega)
  have b := Int.emod_lt_of_pos k (show (0 : Int) < (t.ids.length : Int) by omega)
  omega
theorem M.pickN_eq (k : Int) {t : M.Table} (h : t.ids ≠ []) : k % (t.ids.length : Int) = (M.pickN k t : Int) := by
  have h1 : 0 < t.ids.length := List.length_pos_iff.2 h
  have a := Int.emod_nonneg k (show (t.ids.length : Int) ≠ 0 by omega)
  unfold M.pickN
  omega
theorem pairNe_same' (a : M.Pr) (w : World) : (binOp .neq 77 (.agg #[.int .i64 a.1, .int .i64 a.2]) (.agg #[.int .i64 a.1, .int .i64 a.2])).run Tryz.prog w = .ok (.bool false) w := by
  have hS : Tryz.prog.underlying 77 = some (.struct (Tryz.prog.fieldsOf 77)) := by kernel_rfl
  have hp : Tryz.prog.stoodInHeld 77 = false := by kernel_rfl
  obtain ⟨a0, a1⟩ := a
  rw [run_neq_struct, show (10000 : Nat) = 9999 + 1 from rfl, run_equalIn_agg w 9999 77 _ _ hS hp]
  simp only [Program.fieldsOf, Tryz.underlying77]
  go_simp
theorem wp_frame' {P : Program} {c : Code} {Q : Exit → Act → World → Prop} {a : Act} {w : World} (h : ∀ A, A = a → c.wp P Q A w) : c.wp P Q a w := h a rfl
set_option maxHeartbeats 16000000 in
set_option maxRecDepth 100000 in
theorem worldOrder_walk (d : M.Wd) (k : Int) (w : World) {v : Value} (h : WorldAt w v d) (hk64 : I64 k) :
    Calls Tryz.prog 6 #[v, .int .i64 k] w fun e w' => e = .returned (.bool true) ∧ Below w.heap.size w w' := by
  obtain ⟨vt, rfl, hst, hin, hf, hwi, hhi⟩ := h
  obtain ⟨vt', ev, hs, hT⟩ := id hst
  obtain rfl : vt = vt' := by simpa using ev
  obtain ⟨a, c, rfl⟩ := hT.val
  have HG := Lib.hid (fun U (hb : Below w.heap.size w U) => goodWorld_calls (hst.below hb) hin)
  have HWO := Lib.hid worlds_calls
  have HST := Lib.hid hst
  have HT := Lib.hid hT
  have HIN := Lib.hid hin
  have HK64 := Lib.hid hk64
  clear ev hst hT hf hwi hhi hin hk64
  obtain ⟨g, hg⟩ : ∃ g, M.goodW d = g := ⟨_, rfl⟩
  rw [hg] at HG
  cases g
  · go_enter Tryz.func6, Tryz.ntmps6
    go_wp2_with (first | (go_at_call 21; go_loud (refine (HG.out _ (by repeat first | with_reducible assumption | with_reducible exact Below.refl _ _ | with_reducible apply Below.drew | with_reducible apply below_drewN | with_reducible apply Below.alloc (hB := (by first | omega | (simp; done) | (simp; omega))) | with_reducible apply Below.setCell (hp := (by first | omega | (simp; done) | (simp; omega))))).mono ?_; rintro e w1 ⟨rfl, hb1⟩; have bw1 : Blk w1 w.heap.size 41 (#[.slice a d.things.tables.length c, .int .i64 d.things.next, .int .i64 d.fall, .int .i64 d.wide, .int .i64 d.high]) := Blk.below (Blk.new_at rfl) hb1 (by simp); have K1 : Below w.heap.size w w1 := (show Below w.heap.size w _ from (by repeat first | with_reducible assumption | with_reducible exact Below.refl _ _ | with_reducible apply Below.drew | with_reducible apply below_drewN | with_reducible apply Below.alloc (hB := (by first | omega | (simp; done) | (simp; omega))) | with_reducible apply Below.setCell (hp := (by first | omega | (simp; done) | (simp; omega))))).trans (hb1.mono (by first | omega | (simp; done) | (simp; omega))); have kz1 := K1.size; have hz1 := hb1.size; (try simp at hz1); have y0 := bw1.cell 0; have y1 := bw1.cell 1; have y2 := bw1.cell 2; have y3 := bw1.cell 3; have y4 := bw1.cell 4; simp at y0 y1 y2 y3 y4; have HBW1 := Lib.hid bw1; have HK1 := Lib.hid K1; clear bw1 K1 hb1)) | (go_at_call 29; refine (HWO.out _).mono ?_; rintro e w2 ⟨rfl, hb2⟩))
    go_ret
    exact ⟨rfl, HK1.out.trans (hb2.mono kz1)⟩
  · have gw := M.goodW_iff.1 hg
    have GW := Lib.hid gw
    have hmx : d.things.tables.length ≤ 9223372036854775807 := by have := HT.out.max; unfold maxLen at this; omega
    have hfew : d.things.tables.length ≤ 10 := (good_bounds gw.things).few
    have HEACH := Lib.hid (good_bounds gw.things).each
    have hrob : Rob w (fun _ => True) (stV a c d.things) d.things := (Rob.of_at HST.out).wide (fun _ _ _ => trivial)
    obtain ⟨sv, hsv⟩ : ∃ sv, sv = M.swapS (M.pickN k) d.things := ⟨_, rfl⟩
    have hal : M.Alike d.things sv := by rw [hsv]; exact M.swapS_alike gw.things (fun t ht => M.pickN_lt k (gw.things.1 t ht).1)
    have hlv : sv.tables.length = d.things.tables.length := by rw [hsv]; simp [M.swapS]
    have htv : sv.tables = d.things.tables.map fun t => M.swapT (M.pickN k t) t := by rw [hsv]; rfl
    have hst2 := M.step_alike (w := d) (v := ⟨sv, d.fall, d.wide, d.high⟩) hal rfl rfl rfl
    have hl45 := M.step_few gw
    have hz := (M.step_kept gw).1
    obtain ⟨d1, l, z1, hs1⟩ : ∃ d1 l z, M.step d = (d1, l, z) := ⟨_, _, _, rfl⟩
    obtain ⟨d2, l2, z2, hs2⟩ : ∃ d2 l z, M.step ⟨sv, d.fall, d.wide, d.high⟩ = (d2, l, z) := ⟨_, _, _, rfl⟩
    rw [hs1] at hst2 hl45 hz
    rw [hs2] at hst2
    simp only [Prod.mk.injEq] at hst2 hl45 hz
    obtain ⟨hal2, rfl, rfl⟩ := hst2
    subst hz
    have HS1 := Lib.hid (fun U (hb : Below w.heap.size w U) => step_calls2 (d := d) (hrob.step hb.size (fun g h1 _ => hb.block g h1)) HIN.out hs1)
    have HS2 := Lib.hid (fun (U : World) (a' : Option Addr) (c' : Nat) (h : StoreAt U 0 (stV a' c' sv) sv) => show Calls Tryz.prog 20 #[.agg #[.slice a' d.things.tables.length c', .int .i64 d.things.next, .int .i64 d.fall, .int .i64 d.wide, .int .i64 d.high]] U _ from by
      have k := step_calls2 (d := ⟨sv, d.fall, d.wide, d.high⟩) (P := fun _ => True) ((Rob.of_at h).wide (fun _ _ _ => trivial)) (good_in hal.gt) hs2
      rw [show wdV (.slice a' sv.tables.length c') ⟨sv, d.fall, d.wide, d.high⟩ = .agg #[.slice a' d.things.tables.length c', .int .i64 d.things.next, .int .i64 d.fall, .int .i64 d.wide, .int .i64 d.high] by rw [hlv, hal.next]] at k
      exact k)
    have HTV := Lib.hid htv
    have HLV := Lib.hid hlv
    have HAL2 := Lib.hid hal2
    clear hrob hsv hal hlv htv hal2 hs1 hs2
    have HNE : Hid (∀ t ∈ d.things.tables, t.ids ≠ []) := Lib.hid (fun t ht => (gw.things.1 t ht).1)
    obtain ⟨i0, hi, hz0, hz1, hz2⟩ := info_parts infoTable
    have HI := Lib.hid (And.intro hi (And.intro hz0 (And.intro hz1 hz2)))
    obtain ⟨i1, hi1, hz10, hz11, hz12⟩ := info_parts infoInt
    have HIi1 := Lib.hid (And.intro hi1 (And.intro hz10 (And.intro hz11 hz12)))
    obtain ⟨i2, hi2, hz20, hz21, hz22⟩ := info_parts infoRow
    have HIi2 := Lib.hid (And.intro hi2 (And.intro hz20 (And.intro hz21 hz22)))
    clear hi hz0 hz1 hz2 hi1 hz10 hz11 hz12 hi2 hz20 hz21 hz22 hg gw
    go_enter Tryz.func6, Tryz.ntmps6
    go_upto_region 5 with (go_at_call 21; go_loud (refine (HG.out _ (by repeat first | with_reducible assumption | with_reducible exact Below.refl _ _ | with_reducible apply Below.drew | with_reducible apply below_drewN | with_reducible apply Below.alloc (hB := (by first | omega | (simp; done) | (simp; omega))) | with_reducible apply Below.setCell (hp := (by first | omega | (simp; done) | (simp; omega))))).mono ?_; rintro e w1 ⟨rfl, hb1⟩; have bw1 : Blk w1 w.heap.size 41 (#[.slice a d.things.tables.length c, .int .i64 d.things.next, .int .i64 d.fall, .int .i64 d.wide, .int .i64 d.high]) := Blk.below (Blk.new_at rfl) hb1 (by simp); have K1 : Below w.heap.size w w1 := (show Below w.heap.size w _ from (by repeat first | with_reducible assumption | with_reducible exact Below.refl _ _ | with_reducible apply Below.drew | with_reducible apply below_drewN | with_reducible apply Below.alloc (hB := (by first | omega | (simp; done) | (simp; omega))) | with_reducible apply Below.setCell (hp := (by first | omega | (simp; done) | (simp; omega))))).trans (hb1.mono (by first | omega | (simp; done) | (simp; omega))); have kz1 := K1.size; have hz1 := hb1.size; (try simp at hz1); have y0 := bw1.cell 0; have y1 := bw1.cell 1; have y2 := bw1.cell 2; have y3 := bw1.cell 3; have y4 := bw1.cell 4; simp at y0 y1 y2 y3 y4; have HBW1 := Lib.hid bw1; have HK1 := Lib.hid K1; clear bw1 K1 hb1))
    refine wp_called (fun ws hws => ?_)
    have KS1 : Below w1.heap.size w1 ws := by rw [hws]; exact (by repeat first | with_reducible assumption | with_reducible exact Below.refl _ _ | with_reducible apply Below.drew | with_reducible apply below_drewN | with_reducible apply Below.alloc (hB := (by first | omega | (simp; done) | (simp; omega))) | with_reducible apply Below.setCell (hp := (by first | omega | (simp; done) | (simp; omega))))
    have hzs : ws.heap.size = w1.heap.size + 1 := by rw [hws]; simp [World.setCell]
    have B5 : Blk ws w1.heap.size 41 (#[.slice none 0 0, .int .i64 d.things.next, .int .i64 d.fall, .int .i64 d.wide, .int .i64 d.high]) := by
      rw [hws]
      apply blk_to
      · exact Blk.new_at (by simp)
      · rfl
    have B2 : Blk ws w.heap.size 41 (#[.slice a d.things.tables.length c, .int .i64 d.things.next, .int .i64 d.fall, .int .i64 d.wide, .int .i64 d.high]) := HBW1.out.below KS1 HBW1.out.lt
    have KS : Below w.heap.size w ws := HK1.out.trans (KS1.mono kz1)
    have l2 := B2.lt
    have y0 := B2.cell 0
    simp at y0
    clear hws y1 y2 y3 y4
    go_wp2_with fail
    clear y0
    go_loopg [29] d.things.tables.length (fun gh i wr => ∃ (n : Nat) (hs' : List (Value × Value)) (a' : Option Addr) (c' : Nat), n ≤ d.things.tables.length ∧ i = .int .i64 n ∧ gh = d.things.tables.length - n ∧ OwnTabs wr ws.heap.size (.slice a' n c') ((d.things.tables.take n).map fun t => M.swapT (M.pickN k t) t) hs' ∧ Blk wr w1.heap.size 41 (#[.slice a' n c', .int .i64 d.things.next, .int .i64 d.fall, .int .i64 d.wide, .int .i64 d.high]) ∧ Below w1.heap.size ws wr)
    case atStart => exact ⟨0, [], none, 0, Nat.zero_le _, rfl, rfl, OwnTabs.nil _ _, B5, Below.refl _ _⟩
    case round =>
      obtain ⟨wo, hwo⟩ : ∃ wo, wo = wr := ⟨_, rfl⟩
      subst hwo
      obtain ⟨n, hs', a', c', hn, rfl, hgk, hown, hb5, hbl⟩ := hrel
      have HGK := Lib.hid hgk
      have HO := Lib.hid hown
      have HB5 := Lib.hid hb5
      have HB := Lib.hid hbl
      have kzo := hbl.size
      have l5 := hb5.lt
      have KO : Below w.heap.size w wo := KS.trans (hbl.mono kz1)
      have hb2 : Blk wo w.heap.size 41 (#[.slice a d.things.tables.length c, .int .i64 d.things.next, .int .i64 d.fall, .int .i64 d.wide, .int .i64 d.high]) := B2.below hbl (by have := HBW1.out.lt; omega)
      have HB2 := Lib.hid hb2
      have HKO := Lib.hid KO
      clear hgk hown hb5 hbl KO hb2
      rcases Nat.lt_or_ge n d.things.tables.length with hlt | hge
      · obtain ⟨t, ht⟩ : ∃ t, d.things.tables[n]? = some t := ⟨_, List.getElem?_eq_getElem hlt⟩
        obtain ⟨b, o, cap', ai, cpi, ar, cpr, e, hlo, hp, c0, c1', c2, hi1, hi2⟩ := (HT.out.below HKO.out).at2 ht
        obtain ⟨rfl, rfl⟩ : a = some ⟨b, o, none⟩ ∧ c = cap' := by simpa using e
        have htm := List.mem_of_getElem? ht
        obtain ⟨m0, m1, m2, m3, m4⟩ := HEACH.out t htm
        have M1 := Lib.hid m1
        have hrl : t.rows.length ≤ 10 := (by omega)
        clear m1 m2 m3
        have HHT := Lib.hid ht
        have hpl := M.pickN_lt k (HNE.out t htm)
        have hpe := M.pickN_eq k (HNE.out t htm)
        obtain ⟨p, hp⟩ : ∃ p, p = M.pickN k t := ⟨_, rfl⟩
        rw [← hp] at hpl hpe
        have HP := Lib.hid hp
        have HPE := Lib.hid hpe
        have HPK := Lib.hid (fun U => pick_calls k (t.ids.length : Int) U (by omega) (by omega) HK64.out)
        rw [hpe] at HPK
        have HH1 := Lib.hid hi1
        have HH2 := Lib.hid hi2
        clear e hlo hi1 hi2 ht htm hp hpe
        go_upto_region 8 with fail
        refine wp_called (fun wl hwl => ?_)
        have HBT : Hid (Blk wl wo.heap.size 74 #[.int .i64 t.mask, .slice ai t.ids.length cpi, .slice ar t.rows.length cpr]) := Lib.hid (by rw [hwl]; exact Blk.new_at rfl)
        have HKL : Hid (Below wo.heap.size wo wl) := Lib.hid (by rw [hwl]; exact (by repeat first | with_reducible assumption | with_reducible exact Below.refl _ _ | with_reducible apply Below.drew | with_reducible apply below_drewN | with_reducible apply Below.alloc (hB := (by first | omega | (simp; done) | (simp; omega))) | with_reducible apply Below.setCell (hp := (by first | omega | (simp; done) | (simp; omega)))))
        have kl := HKL.out.size
        have hzl : wl.heap.size = wo.heap.size + 1 := by rw [hwl]; simp
        have HI0 := Lib.hid (HH1.out.below HKL.out)
        have HR0 := Lib.hid (HH2.out.below HKL.out)
        clear hwl c0 c1' c2
        have tc1 := HBT.out.cell 1
        have tc2 := HBT.out.cell 2
        simp at tc1 tc2
        go_cut [8, 9] (fun x y W => ∃ (a8 : Option Addr) (c8 : Nat) (a9 : Option Addr) (c9 : Nat), x = .slice a8 t.ids.length c8 ∧ y = .slice a9 t.rows.length c9 ∧ W.ownsRow wl.heap.size 3 1 (.slice a8 t.ids.length c8) t.ids.length (t.ids.map (Value.int .i64)) ∧ W.ownsRow wl.heap.size 27 8 (.slice a9 t.rows.length c9) t.rows.length (t.rows.flatMap rowL) ∧ (∀ g, (Value.slice a8 t.ids.length c8).ownBlock = some g → (Value.slice a9 t.rows.length c9).ownBlock ≠ some g) ∧ Below wl.heap.size wl W)
        case first =>
          go_region_law (first | ((refine step_append_own_lies rfl (.const (.slice none 0 0)) (.tmp 34) 33 rfl wl.heap.size 3 i1 _ 1 8 Tryz.underlying33 HIi1.out.1 HIi1.out.2.1 HIi1.out.2.2.1 HIi1.out.2.2.2 rfl (by decide) (.slice none 0 0) 0 [] (World.ownsRow_nil _ _ _ _) rfl _ 0 t.ids.length _ (HI0.out.below (show Below wl.heap.size wl _ from (by repeat first | with_reducible assumption | with_reducible exact Below.refl _ _ | with_reducible apply Below.drew))) rfl (by intro u hu; obtain ⟨z, _, rfl⟩ := List.mem_map.1 hu; rfl) (by unfold maxLen; omega) (by omega) (by first | exact Nat.le_refl _ | omega | (simp; omega)) ?_); intro v8 w8 hown8 hg8 hat8; obtain ⟨a8, c8, rfl⟩ := own_form hown8; have KK8 : Below wl.heap.size wl w8 := (show Below wl.heap.size wl _ from (by repeat first | with_reducible assumption | with_reducible exact Below.refl _ _ | with_reducible apply Below.drew)).grown hg8 (by first | exact Nat.le_refl _ | omega | (simp; omega)) (fun j hj => by cases hj); have kk8 := KK8.size; have bt8 := HBT.out.below KK8 HBT.out.lt; have tc1 := bt8.cell 1; have tc2 := bt8.cell 2; simp at tc1 tc2; have HO8 := Lib.hid hown8; have HG8 := Lib.hid hg8; have HA8 := Lib.hid hat8; clear hown8 hg8 hat8 bt8) | ((refine step_append_own_lies rfl (.const (.slice none 0 0)) (.tmp 37) 72 rfl wl.heap.size 27 i2 _ 8 64 Tryz.underlying72 HIi2.out.1 HIi2.out.2.1 HIi2.out.2.2.1 HIi2.out.2.2.2 rfl (by decide) (.slice none 0 0) 0 [] (World.ownsRow_nil _ _ _ _) rfl _ 0 t.rows.length _ (HR0.out.below (show Below wl.heap.size wl _ from (by repeat first | with_reducible assumption | with_reducible exact Below.refl _ _ | with_reducible apply Below.drew))) rfl (by intro u hu; obtain ⟨r, _, hr⟩ := List.mem_flatMap.1 hu; exact one_row r u hr) (by unfold maxLen; omega) (by omega) (by first | exact Nat.le_refl _ | omega | (simp; omega)) ?_); intro v9 w9 hown9 hg9 hat9; obtain ⟨a9, c9, rfl⟩ := own_form hown9; have KK9 : Below wl.heap.size wl w9 := (show Below wl.heap.size wl _ from (by repeat first | with_reducible assumption | with_reducible exact Below.refl _ _ | with_reducible apply Below.drew)).grown hg9 (by first | exact Nat.le_refl _ | omega | (simp; omega)) (fun j hj => by cases hj); have kk9 := KK9.size; have bt9 := HBT.out.below KK9 HBT.out.lt; have tc1 := bt9.cell 1; have tc2 := bt9.cell 2; simp at tc1 tc2; have HO9 := Lib.hid hown9; have HG9 := Lib.hid hg9; have HA9 := Lib.hid hat9; clear hown9 hg9 hat9 bt9))
          all_goals
            go_wp2_with fail
            go_meet
            first
              | exact (by
                  have hb : Below w8.heap.size w8 w9 := (Below.refl _ w8).grown HG9.out (Nat.le_refl _) (fun j hj => by cases hj)
                  have h8 := HO8.out
                  have h9 := HO9.out
                  rw [Nat.zero_add, List.nil_append] at h8 h9
                  simp only [Nat.zero_add] at *
                  exact ⟨a8, c8, a9, c9, rfl, rfl, own_below h8 hb, h9, (fun g e1 e2 => by have q1 := (h8.lt g e1).2; have q2 := own_new h9 HA9.out g e2; omega), KK9⟩)
              | exact (by
                  have hb : Below w9.heap.size w9 w8 := (Below.refl _ w9).grown HG8.out (Nat.le_refl _) (fun j hj => by cases hj)
                  have h8 := HO8.out
                  have h9 := HO9.out
                  rw [Nat.zero_add, List.nil_append] at h8 h9
                  simp only [Nat.zero_add] at *
                  exact ⟨a8, c8, a9, c9, rfl, rfl, h8, own_below h9 hb, (fun g e1 e2 => by have q1 := own_new h8 HA8.out g e1; have q2 := (h9.lt g e2).2; omega), KK8⟩)
        case rest =>
        obtain ⟨a8, c8, a9, c9, rfl, rfl, h8, h9, hne, hbc⟩ := hcut
        obtain ⟨wf, hwf⟩ : ∃ wf, wf = wc := ⟨_, rfl⟩
        subst hwf
        have hpos : 0 < t.ids.length := by omega
        have hposr : 0 < t.rows.length := by rw [M1.out]; omega
        have hplr : p < t.rows.length := by rw [M1.out]; exact hpl
        obtain ⟨g8, cap8, e8, b8, l8⟩ := own_val h8 hpos
        obtain ⟨g9, cap9, e9, b9, l9⟩ := own_val h9 hposr
        obtain ⟨rfl, rfl⟩ : a8 = some ⟨g8, 0, none⟩ ∧ c8 = cap8 := by simpa using e8
        obtain ⟨rfl, rfl⟩ : a9 = some ⟨g9, 0, none⟩ ∧ c9 = cap9 := by simpa using e9
        have hgg : g8 ≠ g9 := fun e => hne g8 rfl (by rw [e]; rfl)
        have hgg' : ¬ g9 = g8 := fun e => hgg e.symm
        obtain ⟨i0', hi0⟩ : ∃ z, t.ids[0]? = some z := ⟨_, List.getElem?_eq_getElem hpos⟩
        obtain ⟨ip', hip⟩ : ∃ z, t.ids[p]? = some z := ⟨_, List.getElem?_eq_getElem hpl⟩
        have x0 := (h8.cellAt 0 (by omega)).trans (show (t.ids.map (Value.int .i64))[0]? = some (.int .i64 i0') by simp [hi0])
        have xp := (h8.cellAt p (by omega)).trans (show (t.ids.map (Value.int .i64))[p]? = some (.int .i64 ip') by simp [hip])
        have fz := fun j => h8.frozenAt j
        have HH8 := Lib.hid h8
        have HH9 := Lib.hid h9
        have HBC := Lib.hid hbc
        have HI0' := Lib.hid hi0
        have HIP := Lib.hid hip
        have kc := hbc.size
        have q1 : (0 : Int) ≤ (p : Int) := by omega
        have q2 : (p : Int) < (t.ids.length : Int) := by omega
        have q3 : (0 : Int) < (t.ids.length : Int) := by omega
        have q4 : (p : Int) < (t.rows.length : Int) := by omega
        have q5 : (0 : Int) < (t.rows.length : Int) := by omega
        clear h8 h9 hne hbc e8 e9 hi0 hip
        go_upto_region 10 with (go_at_call 30; go_loud (refine (HPK.out _).mono ?_; rintro e wz ⟨rfl, rfl⟩))
        refine wp_frame' (fun A hA => ?_)
        show Code.wp Tryz.prog swiC _ _ _
        rw [swiC_is]
        refine wp_region_any (by kernel_rfl) ?_
        rw [swiOps_size]
        refine swi_region (g := g8) (n := t.ids.length) (cp := c8) (p := p) (base := wl.heap.size) (xs := t.ids) (x0 := i0') (xp := ip') ⟨by rw [hA]; rfl, by rw [hA]; rfl, rfl, hpl, by omega, HI0'.out, HIP.out⟩ (by rw [hA]; rfl) (by rw [hA]) (own_same HH8.out (fun _ _ => rfl)) ?_
        intro v0 v1 v2 v3 v4 v5 v6 v7 v8 v9 v10 v11 wx hs8 hfar8
        rw [hA]
        simp only [setL, List.setIfInBounds_toArray, List.set_cons_zero, List.set_cons_succ]
        clear hA A
        have HS8 := Lib.hid (show wx.ownsRow wl.heap.size 3 1 (.slice (some ⟨g8, 0, none⟩) t.ids.length c8) t.ids.length ((M.swapI p t.ids 0).map (Value.int .i64)) from by
          unfold M.swapI
          rw [List.getD_eq_getElem?_getD, List.getD_eq_getElem?_getD, HIP.out, HI0'.out]
          exact hs8)
        have HF8 : Hid (FarO g8 wf wx) := Lib.hid hfar8
        have HR9 : Hid (wx.ownsRow wl.heap.size 27 8 (.slice (some ⟨g9, 0, none⟩) t.rows.length c9) t.rows.length (t.rows.flatMap rowL)) := Lib.hid (own_same HH9.out (fun g e => HF8.out.1 g (by rintro rfl; simp [Value.ownBlock] at e; exact hgg' e)))
        have hzx0 := HF8.out.2.1
        have HZX := Lib.hid hzx0
        clear hzx0
        clear hs8 hfar8 x0 xp fz
        obtain ⟨r0', hr0⟩ : ∃ z, t.rows[0]? = some z := ⟨_, List.getElem?_eq_getElem hposr⟩
        obtain ⟨rp', hrp⟩ : ∃ z, t.rows[p]? = some z := ⟨_, List.getElem?_eq_getElem hplr⟩
        have HR0' := Lib.hid hr0
        have HRP := Lib.hid hrp
        clear hr0 hrp
        go_upto_region 11 with fail
        refine wp_frame' (fun A hA => ?_)
        show Code.wp Tryz.prog swrC _ _ _
        rw [swrC_is]
        refine wp_region_any (by kernel_rfl) ?_
        rw [swrOps_size]
        refine swr_region (g := g9) (n := t.rows.length) (cp := c9) (p := p) (base := wl.heap.size) (xs := t.rows) (x0 := r0') (xp := rp') ⟨by rw [hA]; rfl, by rw [hA]; rfl, rfl, hplr, by omega, HR0'.out, HRP.out⟩ (by rw [hA]; rfl) (by rw [hA]) (own_same HR9.out (fun _ _ => rfl)) ?_
        intro y0 y1 y2 y3 y4 y5 y6 y7 y8 y9 y10 y11 wy hs9 hfar9
        rw [hA]
        simp only [setL, List.setIfInBounds_toArray, List.set_cons_zero, List.set_cons_succ]
        clear hA A
        have HS9 := Lib.hid (show wy.ownsRow wl.heap.size 27 8 (.slice (some ⟨g9, 0, none⟩) t.rows.length c9) t.rows.length ((M.swapI p t.rows M.row0).flatMap rowL) from by
          unfold M.swapI
          rw [List.getD_eq_getElem?_getD, List.getD_eq_getElem?_getD, HRP.out, HR0'.out]
          exact hs9)
        have HF9 : Hid (FarO g9 wx wy) := Lib.hid hfar9
        have HS8y : Hid (wy.ownsRow wl.heap.size 3 1 (.slice (some ⟨g8, 0, none⟩) t.ids.length c8) t.ids.length ((M.swapI p t.ids 0).map (Value.int .i64))) := Lib.hid (own_same HS8.out (fun g e => HF9.out.1 g (by rintro rfl; simp [Value.ownBlock] at e; exact hgg e)))
        have HZY := Lib.hid (HF9.out.2.1.trans HZX.out)
        have KY : Below wl.heap.size wl wy := (HBC.out.trans (HF8.out.below b8)).trans (HF9.out.below b9)
        have HKY := Lib.hid KY
        have kyy := KY.size
        clear hs9 hfar9 KY
        have HBTy := Lib.hid (HBT.out.below HKY.out HBT.out.lt)
        have tc0 := HBTy.out.cell 0
        simp at tc0
        have KLY : Below wo.heap.size wo wy := HKL.out.trans (HKY.out.mono kl)
        have HB5y := Lib.hid (HB5.out.below KLY l5)
        have l5y := HB5y.out.lt
        have p0 := HB5y.out.cell 0
        simp at p0
        have HKLY := Lib.hid KLY
        have htl : ((d.things.tables.take n).map fun t => M.swapT (M.pickN k t) t).length = n := by rw [List.length_map, List.length_take]; omega
        have HTL := Lib.hid htl
        have HOY := Lib.hid (HO.out.same (Nat.le_refl _) (fun g _ h2 => KLY.block g h2))
        have HROW : Hid (wy.ownsRow ws.heap.size 74 3 (.slice a' n c') n (tabL ((d.things.tables.take n).map fun t => M.swapT (M.pickN k t) t) hs')) := Lib.hid (by
          have := HOY.out.row
          rw [htl] at this
          exact this)
        have HOB : Hid (∀ g, (Value.slice a' n c').ownBlock = some g → ws.heap.size ≤ g ∧ g < wo.heap.size) := Lib.hid (fun g e => HO.out.row.lt g e)
        clear htl KLY tc1 tc2
        go_wp2_with (at_builtin; go_loud (refine wpList_append_own_at _ rfl (.tmp 69) (.tmp 75) _ rfl ws.heap.size 74 i0 _ 3 56 Tryz.underlying37 HI.out.1 HI.out.2.1 HI.out.2.2.1 HI.out.2.2.2 rfl (by omega) (.slice a' n c') n (tabL ((d.things.tables.take n).map fun t => M.swapT (M.pickN k t) t) hs') rfl (own_below HROW.out ((Below.refl _ wy).alloc (Nat.le_refl _) _)) ⟨wy.heap.size, 0, none⟩ 1 1 [.int .i64 t.mask, .slice (some ⟨g8, 0, none⟩) t.ids.length c8, .slice (some ⟨g9, 0, none⟩) t.rows.length c9] rfl rfl (by intro j u hu; match j, hu with | 0, hu => (simp at hu; subst hu; rw [Addr.add_lit]; simp) | 1, hu => (simp at hu; subst hu; rw [Addr.add_lit]; simp) | 2, hu => (simp at hu; subst hu; rw [Addr.add_lit]; simp) | j + 3, hu => simp at hu) (by intro u hu; simp only [List.mem_cons, List.not_mem_nil, or_false] at hu; rcases hu with rfl | rfl | rfl <;> rfl) (by unfold maxLen; omega) (by omega) (by simp; omega) ?_; intro v9 w9 hown9 hg9 _ hat9; obtain ⟨a9', c9', rfl⟩ := own_form hown9; have HO9 := Lib.hid hown9; have HG9 := Lib.hid hg9; have HA9 := Lib.hid hat9; have bg9 : Blk w9 w1.heap.size 41 (#[.slice a' n c', .int .i64 d.things.next, .int .i64 d.fall, .int .i64 d.wide, .int .i64 d.high]) := (HG9.out.block w1.heap.size (by simp; omega) (fun e => by have := (HOB.out _ e.symm).1; omega)).trans (HB5y.out.alloc _); have p9 := bg9.cell 0; have pf9 := fun i => bg9.free i; simp at p9; have HBG9 := Lib.hid bg9; clear hown9 hg9 hat9 bg9))
        go_roundg (d.things.tables.length - (n + 1))
        case measure => rw [HGK.out]; omega
        case rel =>
          have far : ∀ (U : World) (x : Value) g, g ≠ w1.heap.size → (U.setCell ⟨w1.heap.size, 0, none⟩ x).heap[g]? = U.heap[g]? := fun U x g h => Below.heap_setCell _ _ _ _ h
          have same9 : ∀ g, g < wy.heap.size → (Value.slice a' n c').ownBlock ≠ some g → w9.heap[g]? = wy.heap[g]? := fun g h1 h2 => (HG9.out.block g (by simp; omega) (fun e => h2 e.symm)).trans (Below.heap_alloc _ _ g h1)
          refine ⟨n + 1, hs' ++ [(.slice (some ⟨g8, 0, none⟩) t.ids.length c8, .slice (some ⟨g9, 0, none⟩) t.rows.length c9)], a9', c9', by omega, by go_num, rfl, ?_, ?_, ?_⟩
          · rw [show (d.things.tables.take (n + 1)).map (fun t => M.swapT (M.pickN k t) t) = ((d.things.tables.take n).map fun t => M.swapT (M.pickN k t) t) ++ [M.swapT p t] by rw [List.take_add_one, HHT.out, HP.out]; simp]
            refine HO.out.snoc (t := M.swapT p t) ?_ ?_ ?_ ?_ ?_ ?_ ?_ ?_
            · rw [HTL.out]
              exact own_same HO9.out (fun g' e => far _ _ g' (by have := (HO9.out.lt g' e).1; omega))
            · intro g' h1 h2 h3
              exact (far _ _ g' (by omega)).trans ((same9 g' (by omega) h3).trans (HKLY.out.block g' h2))
            · have e8 : (M.swapT p t).ids.length = t.ids.length := M.swapI_len _ _ _
              rw [e8]
              exact own_mono (own_same HS8y.out (fun g' e => (far _ _ g' (by have := (HS8y.out.lt g' e).1; omega)).trans (same9 g' (HS8y.out.lt g' e).2 (fun e' => by have := (HOB.out g' e').2; have := (HS8y.out.lt g' e).1; omega)))) (by omega)
            · have e8 : (M.swapT p t).rows.length = t.rows.length := M.swapI_len _ _ _
              rw [e8]
              exact own_mono (own_same HS9.out (fun g' e => (far _ _ g' (by have := (HS9.out.lt g' e).1; omega)).trans (same9 g' (HS9.out.lt g' e).2 (fun e' => by have := (HOB.out g' e').2; have := (HS9.out.lt g' e).1; omega)))) (by omega)
            · intro g' e
              have : g' = g8 := by simpa [Value.ownBlock] using e.symm
              omega
            · intro g' e
              have : g' = g9 := by simpa [Value.ownBlock] using e.symm
              omega
            · intro g' e1 e2
              have h1 : g' = g8 := by simpa [Value.ownBlock] using e1.symm
              have h2 : g' = g9 := by simpa [Value.ownBlock] using e2.symm
              exact hgg (h1.symm.trans h2)
            · rcases HA9.out with q | q
              · exact .inl q
              · refine .inr ⟨_, q, by simp; omega, fun e => ?_, fun e => ?_⟩
                · have e9 := e
                  simp [Value.ownBlock] at e9
                  have := HZY.out
                  omega
                · have e9 := e
                  simp [Value.ownBlock] at e9
                  have := HZY.out
                  omega
          · exact blk_to (HBG9.out.put 0 _) (by rfl)
          · exact ((HB.out.trans (HKLY.out.mono (by omega))).trans (((Below.refl _ wy).alloc (by omega) _).grown HG9.out (by simp; omega) (fun j hj => by have := (HOB.out j hj).1; omega))).setCell (Nat.le_refl _) _
      · obtain rfl : n = d.things.tables.length := by omega
        have q9 : decide ((d.things.tables.length : Int) < (d.things.tables.length : Int)) = false := decide_eq_false (by omega)
        have HSV : Hid (StoreAt wo 0 (stV a' c' sv) sv) := Lib.hid (by
          have h9 := HO.out
          rw [List.take_length, ← HTV.out, ← HLV.out] at h9
          exact StoreAt.mono (lo := ws.heap.size) ⟨_, rfl, hs', h9.tabs⟩ (Nat.zero_le _))
        have KO := HKO.out
        have b2o := HB2.out
        have b5o := HB5.out
        have y0 := b2o.cell 0
        have y1 := b2o.cell 1
        have y2 := b2o.cell 2
        have y3 := b2o.cell 3
        have y4 := b2o.cell 4
        simp at y0 y1 y2 y3 y4
        have x0 := b5o.cell 0
        have x1 := b5o.cell 1
        have x2 := b5o.cell 2
        have x3 := b5o.cell 3
        have x4 := b5o.cell 4
        simp at x0 x1 x2 x3 x4
        clear b2o b5o
        go_upto_region 15 with (go_at_call 20; go_loud (refine (HS1.out _ KO).mono ?_; rintro e w3 ⟨a3, c3, vo3, rfl, hr3, ho3, hb3⟩; obtain ⟨ao3, co3, rfl⟩ := own_form ho3; have HR3 := Lib.hid hr3.at_; have HP3 : Hid (PairsAt w3 0 (.slice ao3 l.length co3) l) := Lib.hid (Lies.mono (Lies.of_owns ho3) (Nat.zero_le _)); have b53 := HB5.out.below hb3 l5; have z0 := b53.cell 0; have z1 := b53.cell 1; have z2 := b53.cell 2; have z3 := b53.cell 3; have z4 := b53.cell 4; simp at z0 z1 z2 z3 z4; have kz3 := hb3.size; have lz3 : w1.heap.size < w3.heap.size := Nat.lt_of_lt_of_le l5 kz3; have hb3w : Below w.heap.size w w3 := KO.trans (hb3.mono KO.size); have HB3W := Lib.hid hb3w; have HB3 := Lib.hid hb3; clear hr3 ho3 hb3 b53 hb3w))
        go_upto_region 16 with (go_at_call_of 20 a'; go_loud (refine (HS2.out _ a' c' (HSV.out.below (show Below wo.heap.size wo _ from (by repeat first | with_reducible exact HB3.out | with_reducible apply Below.alloc (hB := (by first | omega | (simp; done) | (simp; omega))))))).mono ?_; rintro e w4 ⟨a4, c4, vo4, rfl, hr4, ho4, hb4⟩; obtain ⟨ao4, co4, rfl⟩ := own_form ho4; have HR4 := Lib.hid hr4.at_; have HP4 : Hid (PairsAt w4 0 (.slice ao4 l.length co4) l) := Lib.hid (Lies.mono (Lies.of_owns ho4) (Nat.zero_le _)); have b11 : Blk w4 w3.heap.size 41 #[.slice a3 d1.things.tables.length c3, .int .i64 d1.things.next, .int .i64 d1.fall, .int .i64 d1.wide, .int .i64 d1.high] := (by apply blk_to; (repeat first | with_reducible apply Blk.below (hb := hb4) (hg := (by first | omega | (simp; done) | (simp; omega))) | with_reducible exact Blk.new_at (h := (by first | rfl | (simp; done) | omega)) | with_reducible apply Blk.alloc); rfl); have HB11 := Lib.hid b11; have kz4 := hb4.size; (try simp at kz4); have hb34 : Below w3.heap.size w3 w4 := ((Below.refl _ w3).alloc (Nat.le_refl _) _).trans (hb4.mono (by simp)); have HB34 := Lib.hid hb34; have HB4 := Lib.hid hb4; clear hr4 ho4 hb4 b11 hb34))
        refine wp_called (fun W5 hW5 => ?_)
        have b14 : Blk W5 w4.heap.size 41 #[.slice a4 d2.things.tables.length c4, .int .i64 d2.things.next, .int .i64 d2.fall, .int .i64 d2.wide, .int .i64 d2.high] := by rw [hW5]; exact Blk.new_at rfl
        have K45 : Below w4.heap.size w4 W5 := by rw [hW5]; exact (Below.refl _ w4).alloc (Nat.le_refl _) _
        have kz5 := K45.size
        have b115 := HB11.out.below K45 HB11.out.lt
        have K35 : Below w3.heap.size w3 W5 := HB34.out.trans (K45.mono HB34.out.size)
        have K5 : Below w.heap.size w W5 := HB3W.out.trans (K35.mono HB3W.out.size)
        have HB14 := Lib.hid b14
        have HB115 := Lib.hid b115
        have HK5 := Lib.hid K5
        have kw5 := K5.size
        have HP3' := Lib.hid (HP3.out.below K35)
        have HP4' := Lib.hid (HP4.out.below K45)
        have HR3' := Lib.hid (HR3.out.below K35)
        have HR4' := Lib.hid (HR4.out.below K45)
        have hlm : l.length ≤ 9223372036854775807 := by omega
        clear hW5 b14 b115 K45 K35 K5 KO HP3 HP4 HR3 HR4
        go_wp2_with fail
        go_loopg [107] l.length (fun g i wr => ∃ m : Nat, m ≤ l.length ∧ i = .int .i64 m ∧ g = l.length - m ∧ Below W5.heap.size W5 wr)
        case atStart => exact ⟨0, Nat.zero_le _, rfl, rfl, Below.refl _ _⟩
        case round =>
          obtain ⟨wq, hwq⟩ : ∃ wq, wq = wr := ⟨_, rfl⟩
          subst hwq
          obtain ⟨m, hm, rfl, hgm, hbm⟩ := hrel
          have HGM := Lib.hid hgm
          have HBM := Lib.hid hbm
          have kq := hbm.size
          clear hgm hbm
          rcases Nat.lt_or_ge m l.length with hlt2 | hge2
          · obtain ⟨pr, hpr⟩ : ∃ p, l[m]? = some p := ⟨_, List.getElem?_eq_getElem hlt2⟩
            obtain ⟨b3, o3, cc3, e3, _, i3, i3'⟩ := (HP3'.out.below HBM.out).at2 hpr
            obtain ⟨rfl, rfl⟩ : ao3 = some ⟨b3, o3, none⟩ ∧ co3 = cc3 := by simpa using e3
            obtain ⟨b4, o4, cc4, e4, _, i4, i4'⟩ := (HP4'.out.below HBM.out).at2 hpr
            obtain ⟨rfl, rfl⟩ : ao4 = some ⟨b4, o4, none⟩ ∧ co4 = cc4 := by simpa using e4
            have q0 : (0 : Int) ≤ (m : Int) := by omega
            have q1 : (m : Int) < (l.length : Int) := by omega
            have NX := fun w => pairNe_same' pr w
            clear e3 e4 hpr
            go_wp2_with fail
            go_quiet (fail)
            go_wp2_with fail
            go_roundg (l.length - (m + 1))
            case measure => rw [HGM.out]; omega
            case rel => exact ⟨m + 1, by omega, by go_num, rfl, below_drewN HBM.out _⟩
          · obtain rfl : m = l.length := by omega
            have q9 : decide ((l.length : Int) < (l.length : Int)) = false := decide_eq_false (by omega)
            have b11q := HB115.out.below HBM.out HB115.out.lt
            have b14q := HB14.out.below HBM.out HB14.out.lt
            have f0 := b11q.cell 0
            have f1 := b11q.cell 1
            have f2 := b11q.cell 2
            have f3 := b11q.cell 3
            have f4 := b11q.cell 4
            simp at f0 f1 f2 f3 f4
            have g0 := b14q.cell 0
            have g1 := b14q.cell 1
            have g2 := b14q.cell 2
            have g3 := b14q.cell 3
            have g4 := b14q.cell 4
            simp at g0 g1 g2 g3 g4
            go_wp2_with (first | (go_at_call 31; go_loud (refine (sameThings_alike (HR3'.out.below HBM.out) (HR4'.out.below HBM.out) HAL2.out).mono ?_; rintro e w6 ⟨rfl, hb6⟩; have K6 : Below W5.heap.size W5 w6 := HBM.out.trans (hb6.mono kq); have k6 := K6.size)) | (go_at_call 29; refine (HWO.out _).mono ?_; rintro e w7 ⟨rfl, hb7⟩))
            go_ret
            exact ⟨rfl, HK5.out.trans ((K6.trans (hb7.mono k6)).mono kw5)⟩
end Go.Proofs.YtkpecagkpjabdabGreat
