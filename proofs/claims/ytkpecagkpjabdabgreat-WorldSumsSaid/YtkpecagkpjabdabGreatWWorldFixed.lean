/- The walk of WorldFixed. Condition: the world lies in memory, its numbers are of 64 bits. -/
import Derived.Test.YtkpecagkpjabdabGreatWorlds
import Derived.Test.YtkpecagkpjabdabGreatOpenWorld
import Derived.Test.YtkpecagkpjabdabGreatBagP
import Derived.Test.YtkpecagkpjabdabGreatBagW
import Derived.Deep.RegionHeld3
namespace Go.Proofs.YtkpecagkpjabdabGreat
open Go.RowKit
set_option linter.unusedVariables false
set_option linter.unusedSimpArgs false
set_option maxRecDepth 100000
theorem rowN_same (a : M.Row) (w : World) : (binOp .neq 27 (rowV a) (rowV a)).run Tryz.prog w = .ok (.bool false) w := by
  have hS : Tryz.prog.underlying 27 = some (.struct (Tryz.prog.fieldsOf 27)) := by kernel_rfl
  have hp : Tryz.prog.stoodInHeld 27 = false := by kernel_rfl
  obtain ⟨a0, a1, a2, a3, a4, a5, a6, a7⟩ := a
  rw [run_neq_struct, show (10000 : Nat) = 9999 + 1 from rfl, run_equalIn_agg w 9999 27 _ _ hS hp]
  simp only [Program.fieldsOf, Tryz.underlying27]
  go_simp
/-- the cells of row k of rows that lie in memory -/
theorem rowsAt_cells {w : World} {b o n cap : Nat} {rs : List M.Row} (h : RowsAt w 0 (.slice (some ⟨b, o, none⟩) n cap) rs) {k : Nat} {r : M.Row} (hk : rs[k]? = some r) {W : World} (hb : Below w.heap.size w W) :
    W.cell? ⟨b, o + k * 8, none⟩ = some (.int .i64 r.X) ∧ W.cell? ⟨b, o + k * 8 + 1, none⟩ = some (.int .i64 r.Y) ∧ W.cell? ⟨b, o + k * 8 + 2, none⟩ = some (.int .i64 r.PX) ∧ W.cell? ⟨b, o + k * 8 + 3, none⟩ = some (.int .i64 r.PY) ∧ W.cell? ⟨b, o + k * 8 + 4, none⟩ = some (.int .i64 r.W) ∧ W.cell? ⟨b, o + k * 8 + 5, none⟩ = some (.int .i64 r.H) ∧ W.cell? ⟨b, o + k * 8 + 6, none⟩ = some (.int .i64 r.M) ∧ W.cell? ⟨b, o + k * 8 + 7, none⟩ = some (.int .i64 r.R) := by
  obtain ⟨b', o', cap', e, _, hc⟩ := (h.below hb).at hk
  simp only [Value.slice.injEq, Option.some.injEq, Addr.mk.injEq, and_true] at e
  obtain ⟨⟨rfl, rfl⟩, _⟩ := e
  exact ⟨hc 0 _ rfl, hc 1 _ rfl, hc 2 _ rfl, hc 3 _ rfl, hc 4 _ rfl, hc 5 _ rfl, hc 6 _ rfl, hc 7 _ rfl⟩
set_option maxHeartbeats 8000000 in
set_option maxRecDepth 100000 in
theorem worldFixed_walk (d : M.Wd) (w : World) {v : Value} (h : WorldAt w v d) :
    Calls Tryz.prog 7 #[v] w fun e w' => e = .returned (.bool true) ∧ Below w.heap.size w w' := by
  obtain ⟨vt, rfl, hst, hin, hf, hwi, hhi⟩ := h
  obtain ⟨vt', ev, hs, hT⟩ := id hst
  obtain rfl : vt = vt' := by simpa using ev
  obtain ⟨a, c, rfl⟩ := hT.val
  have hrob : Rob w (fun _ => True) (stV a c d.things) d.things := (Rob.of_at hst).wide (fun _ _ _ => trivial)
  obtain ⟨d', l, k, hsd⟩ : ∃ d' l k, M.step d = (d', l, k) := ⟨_, _, _, rfl⟩
  have HS := Lib.hid (fun U (hb : Below w.heap.size w U) => step_calls2 (d := d) (hrob.step hb.size (fun g h1 _ => hb.block g h1)) hin hsd)
  have HWO := Lib.hid worlds_calls
  have HST := Lib.hid hst
  have HT := Lib.hid hT
  clear ev hst hT hrob hf hwi hhi
  by_cases hg : M.goodW d = true
  · have gw := M.goodW_iff.1 hg
    have HFG : Hid (∀ t ∈ d.things.tables, ∀ (k : Nat) id r, t.ids[k]? = some id → t.rows[k]? = some r → ∃ q, M.get d'.things id = (t.mask, q, true) ∧ (M.moves t.mask = false → q = r) ∧ M.SameBody q r) := Lib.hid (fun t ht k id r h1 h2 => by
      have := M.fixed_get gw ht h1 h2
      rw [hsd] at this
      exact this)
    have sk := M.step_kept gw
    rw [hsd] at sk
    simp only at sk
    obtain ⟨rfl, kp, gw', e1, e2, e3⟩ := sk
    have enx := kp.next
    have esz := kp.size gw.things
    have HE := Lib.hid (And.intro enx (And.intro e1 (And.intro e2 e3)))
    obtain ⟨n0, hn0⟩ : ∃ n : Nat, M.size d.things = n := ⟨_, rfl⟩
    have h10 : n0 ≤ 10 := by rw [← hn0]; exact gw.things.2.2.2.1
    have HZ1 : Hid (M.sizeW d.things.tables = (n0 : Int)) := Lib.hid ((M.sizeW_eq _ (by show M.size d.things ≤ _; omega)).trans (by show ((M.size d.things : Nat) : Int) = _; rw [hn0]))
    have HZ2 : Hid (M.sizeW d'.things.tables = (n0 : Int)) := Lib.hid ((M.sizeW_eq _ (by show M.size d'.things ≤ _; omega)).trans (by show ((M.size d'.things : Nat) : Int) = _; rw [esz, hn0]))
    have HG' : Hid (M.goodW d' = true) := Lib.hid (M.goodW_iff.2 gw')
    have HIN' : Hid (StoreIn d'.things) := Lib.hid (good_in gw'.things)
    have HLEN : Hid (∀ t ∈ d.things.tables, t.ids.length = t.rows.length) := Lib.hid (fun t ht => (gw.things.1 t ht).2.1)
    have hmx : d.things.tables.length ≤ 9223372036854775807 := by have := HT.out.max; unfold maxLen at this; omega
    clear hg gw hsd kp gw' e1 e2 e3 enx esz hn0 hin
    go_enter Tryz.func7, Tryz.ntmps7
    go_wp2_with (first | (go_at_call 20; go_loud (refine (HS.out _ (by repeat first | with_reducible assumption | with_reducible exact Below.refl _ _ | with_reducible apply Below.drew | with_reducible apply below_drewN | with_reducible apply Below.alloc (hB := (by first | omega | (simp; done) | (simp; omega))) | with_reducible apply Below.setCell (hp := (by first | omega | (simp; done) | (simp; omega))))).mono ?_; rintro e w1 ⟨a1, c1, vo, rfl, hr1, ho1, hb1⟩; obtain ⟨ao, co, rfl⟩ := own_form ho1; have HR1 := Lib.hid hr1; clear hr1 ho1; have K1 : Below w.heap.size w w1 := (show Below w.heap.size w _ from (by repeat first | with_reducible assumption | with_reducible exact Below.refl _ _ | with_reducible apply Below.drew | with_reducible apply below_drewN | with_reducible apply Below.alloc (hB := (by first | omega | (simp; done) | (simp; omega))) | with_reducible apply Below.setCell (hp := (by first | omega | (simp; done) | (simp; omega))))).trans (hb1.mono (by first | omega | (simp; done) | (simp; omega))); have kz1 := K1.size; have hz1 := hb1.size; (try simp at hz1); have bw1 : Blk w1 (w.heap.size) 41 (#[.slice a d.things.tables.length c, .int .i64 d.things.next, .int .i64 d.fall, .int .i64 d.wide, .int .i64 d.high]) := (by apply blk_to; (repeat first | with_reducible apply Blk.below (hb := hb1) (hg := (by first | omega | (simp; done) | (simp; omega))) | with_reducible apply Blk.put | with_reducible apply Blk.drew | with_reducible exact Blk.new_at (h := (by first | rfl | (simp; done) | omega)) | with_reducible apply Blk.alloc | with_reducible apply Blk.far (hp := (by first | omega | (simp; done) | (simp; omega)))); rfl); have lw1 := bw1.lt)) | (go_at_call 29; go_loud (refine (HWO.out _).mono ?_; rintro e w2 ⟨rfl, hb2⟩; have K2 : Below w.heap.size w w2 := (show Below w.heap.size w _ from (by repeat first | with_reducible assumption | with_reducible exact Below.refl _ _ | with_reducible apply Below.drew | with_reducible apply below_drewN | with_reducible apply Below.alloc (hB := (by first | omega | (simp; done) | (simp; omega))) | with_reducible apply Below.setCell (hp := (by first | omega | (simp; done) | (simp; omega))))).trans (hb2.mono (by first | omega | (simp; done) | (simp; omega))); have kz2 := K2.size; have hz2 := hb2.size; (try simp at hz2); have K12 : Below w1.heap.size w1 w2 := (show Below w1.heap.size w1 _ from (by repeat first | with_reducible assumption | with_reducible exact Below.refl _ _ | with_reducible apply Below.drew | with_reducible apply below_drewN | with_reducible apply Below.alloc (hB := (by first | omega | (simp; done) | (simp; omega))) | with_reducible apply Below.setCell (hp := (by first | omega | (simp; done) | (simp; omega))))).trans (hb2.mono (by first | omega | (simp; done) | (simp; omega))); have bw2 : Blk w2 (w.heap.size) 41 (#[.slice a d.things.tables.length c, .int .i64 d.things.next, .int .i64 d.fall, .int .i64 d.wide, .int .i64 d.high]) := (by apply blk_to; (repeat first | with_reducible apply Blk.below (hb := hb2) (hg := (by first | omega | (simp; done) | (simp; omega))) | with_reducible exact bw1 | with_reducible apply Blk.put | with_reducible apply Blk.drew | with_reducible exact Blk.new_at (h := (by first | rfl | (simp; done) | omega)) | with_reducible apply Blk.alloc | with_reducible apply Blk.far (hp := (by first | omega | (simp; done) | (simp; omega)))); rfl); have bx2 : Blk w2 (w1.heap.size) 41 (#[.slice a1 d'.things.tables.length c1, .int .i64 d'.things.next, .int .i64 d'.fall, .int .i64 d'.wide, .int .i64 d'.high]) := (by apply blk_to; (repeat first | with_reducible apply Blk.below (hb := hb2) (hg := (by first | omega | (simp; done) | (simp; omega))) | with_reducible apply Blk.put | with_reducible apply Blk.drew | with_reducible exact Blk.new_at (h := (by first | rfl | (simp; done) | omega)) | with_reducible apply Blk.alloc | with_reducible apply Blk.far (hp := (by first | omega | (simp; done) | (simp; omega)))); rfl); have y0 := bw2.cell 0; have y1 := bw2.cell 1; simp at y0 y1; have ly := bw2.lt)))
    have HBW := Lib.hid bw2
    have HBX := Lib.hid bx2
    have HK2 := Lib.hid K2
    have HK12 := Lib.hid K12
    clear y0 y1 bw1 bw2 bx2 K1 K2 K12 hb1 hb2
    go_loopg [35] d.things.tables.length (fun g i wr => ∃ n : Nat, n ≤ d.things.tables.length ∧ i = .int .i64 n ∧ g = d.things.tables.length - n ∧ Below w2.heap.size w2 wr)
    case atStart => exact ⟨0, Nat.zero_le _, rfl, rfl, Below.refl _ _⟩
    case round =>
      obtain ⟨wo, hwo⟩ : ∃ wo, wo = wr := ⟨_, rfl⟩
      subst hwo
      obtain ⟨n, hn, rfl, hk, hb⟩ := hrel
      have HB := Lib.hid hb
      have HK := Lib.hid hk
      have ko := hb.size
      have KO : Below w.heap.size w wo := HK2.out.trans (hb.mono HK2.out.size)
      clear hk hb
      rcases Nat.lt_or_ge n d.things.tables.length with hlt | hge
      · obtain ⟨t, ht⟩ : ∃ t, d.things.tables[n]? = some t := ⟨_, List.getElem?_eq_getElem hlt⟩
        obtain ⟨b, o, cap', ai, cpi, ar, cpr, e, hlo, hp, c0, c1', c2, hi1, hi2⟩ := (HT.out.below KO).at2 ht
        obtain ⟨rfl, rfl⟩ : a = some ⟨b, o, none⟩ ∧ c = cap' := by simpa using e
        have HII := Lib.hid hi1
        have HRR := Lib.hid hi2
        have htm := List.mem_of_getElem? ht
        have HTM := Lib.hid htm
        have hil : t.ids.length ≤ 9223372036854775807 := by have := hi1.max; unfold maxLen at this; omega
        have hlr := HLEN.out t htm
        have hrl : t.rows.length ≤ 9223372036854775807 := by omega
        have HLR := Lib.hid hlr
        clear e hlo hp hi1 hi2 ht htm hlr
        go_wp2_with fail
        obtain ⟨wl, hwl⟩ : ∃ wl, wl = wo.alloc (.cells #[.int .i64 t.mask, .slice ai t.ids.length cpi, .slice ar t.rows.length cpr] 74) := ⟨_, rfl⟩
        rw [← hwl]
        have HB7 : Hid (Blk wl wo.heap.size 74 #[.int .i64 t.mask, .slice ai t.ids.length cpi, .slice ar t.rows.length cpr]) := Lib.hid (by rw [hwl]; exact Blk.new_at rfl)
        have HKL : Hid (Below wo.heap.size wo wl) := Lib.hid (by rw [hwl]; exact (by repeat first | with_reducible assumption | with_reducible exact Below.refl _ _ | with_reducible apply Below.drew | with_reducible apply below_drewN | with_reducible apply Below.alloc (hB := (by first | omega | (simp; done) | (simp; omega))) | with_reducible apply Below.setCell (hp := (by first | omega | (simp; done) | (simp; omega)))))
        clear hwl c0 c1' c2
        have kl := HKL.out.size
        go_loopg [42] t.ids.length (fun g i wr => ∃ k : Nat, k ≤ t.ids.length ∧ i = .int .i64 k ∧ g = t.ids.length - k ∧ Below wl.heap.size wl wr)
        case atStart => exact ⟨0, Nat.zero_le _, rfl, rfl, Below.refl _ _⟩
        case round =>
          obtain ⟨wq, hwq⟩ : ∃ wq, wq = wr := ⟨_, rfl⟩
          subst hwq
          obtain ⟨k, hk, rfl, hgk, hbq⟩ := hrel
          have HBQ := Lib.hid hbq
          have HKK := Lib.hid hgk
          have kq := hbq.size
          have KOQ : Below wo.heap.size wo wq := HKL.out.trans (hbq.mono kl)
          have K2Q : Below w2.heap.size w2 wq := HB.out.trans (KOQ.mono ko)
          have K1Q : Below w1.heap.size w1 wq := HK12.out.trans (K2Q.mono HK12.out.size)
          have HB7 := Lib.hid (HB7.out.below hbq HB7.out.lt)
          clear hgk hbq
          rcases Nat.lt_or_ge k t.ids.length with hlt2 | hge2
          · obtain ⟨id, hid⟩ : ∃ id, t.ids[k]? = some id := ⟨_, List.getElem?_eq_getElem hlt2⟩
            obtain ⟨r, hr⟩ : ∃ r, t.rows[k]? = some r := ⟨_, List.getElem?_eq_getElem (by rw [← HLR.out]; exact hlt2)⟩
            obtain ⟨q, hq1, hq2, hq3⟩ := HFG.out t HTM.out k id r hid hr
            have hkr : k < t.rows.length := by rw [← HLR.out]; exact hlt2
            obtain ⟨b1, o1, cp1, ei, _, i0⟩ := (HII.out.below KOQ).at hid
            simp only [Value.slice.injEq, true_and] at ei
            obtain ⟨rfl, rfl⟩ := ei
            obtain ⟨br, orr, cp2, er, _, _⟩ := (HRR.out.below KOQ).at hr
            simp only [Value.slice.injEq, true_and] at er
            obtain ⟨rfl, rfl⟩ := er
            have HRC := Lib.hid (fun W (hb : Below wq.heap.size wq W) => rowsAt_cells HRR.out hr (KOQ.trans (hb.mono KOQ.size)))
            have HGI := Lib.hid (fun U (hb : Below wq.heap.size wq U) => get_calls (HR1.out.at_.below (K1Q.trans (hb.mono K1Q.size))) id)
            rw [hq1] at HGI
            simp only at HGI
            have bxq := HBX.out.below K2Q HBX.out.lt
            have x0 := bxq.cell 0
            have x1 := bxq.cell 1
            simp at x0 x1
            have lx := bxq.lt
            have b7q := HB7.out
            have s1 := b7q.cell 1
            simp at s1
            clear hq1 hid hr
            cases hm : M.moves t.mask
            · obtain rfl := hq2 hm
              have qm : (bits .and .i64 t.mask 11 == 11) = false := hm
              have qn : (bits .and .i64 t.mask 11 != 11) = true := by simpa using qm
              have NX := rowN_same q
              clear hm qm hq2 hq3 b7q bxq
              go_upto_region 11 with (go_at_call 13; go_loud (refine (HGI.out _ (by repeat first | with_reducible assumption | with_reducible exact Below.refl _ _ | with_reducible apply Below.drew | with_reducible apply below_drewN | with_reducible apply Below.alloc (hB := (by first | omega | (simp; done) | (simp; omega))) | with_reducible apply Below.setCell (hp := (by first | omega | (simp; done) | (simp; omega))))).mono ?_; rintro e w6 ⟨rfl, hb6⟩; have K6 : Below wq.heap.size wq w6 := (show Below wq.heap.size wq _ from (by repeat first | with_reducible assumption | with_reducible exact Below.refl _ _ | with_reducible apply Below.drew | with_reducible apply below_drewN | with_reducible apply Below.alloc (hB := (by first | omega | (simp; done) | (simp; omega))) | with_reducible apply Below.setCell (hp := (by first | omega | (simp; done) | (simp; omega))))).trans (hb6.mono (by first | omega | (simp; done) | (simp; omega))); have kz6 := K6.size; have hz6 := hb6.size; (try simp at hz6); have b76 := HB7.out.below K6 HB7.out.lt; have t0 := b76.cell 0; have t2 := b76.cell 2; simp at t0 t2; have lt7 := b76.lt; obtain ⟨q0, q1, q2, q3, q4, q5, q6, q7⟩ := HRC.out _ K6; have lr := cell_lt q0; have nr : ¬ br = w6.heap.size := (by omega); have nr2 : ¬ w6.heap.size = br := (by omega); have n7 : ¬ wo.heap.size = w6.heap.size := (by omega); have n72 : ¬ w6.heap.size = wo.heap.size := (by omega)))
              go_quiet (fail)
              go_wp2_with fail
              go_roundg (t.ids.length - (k + 1))
              case measure => rw [HKK.out]; omega
              case rel => exact ⟨k + 1, by omega, by go_num, rfl, HBQ.out.trans ((show Below wq.heap.size wq _ from (by repeat first | with_reducible assumption | with_reducible exact Below.refl _ _ | with_reducible apply Below.drew | with_reducible apply below_drewN | with_reducible apply Below.alloc (hB := (by first | omega | (simp; done) | (simp; omega))) | with_reducible apply Below.setCell (hp := (by first | omega | (simp; done) | (simp; omega))))).mono kq)⟩
            · have qm : (bits .and .i64 t.mask 11 == 11) = true := hm
              have qn : (bits .and .i64 t.mask 11 != 11) = false := by simpa using qm
              obtain ⟨q0, q1, q2, q3, q4, q5, q6, q7⟩ := q
              obtain ⟨rfl, rfl, rfl, rfl⟩ := hq3
              clear hm qm hq2 b7q bxq
              go_upto_region 11 with (go_at_call 13; go_loud (refine (HGI.out _ (by repeat first | with_reducible assumption | with_reducible exact Below.refl _ _ | with_reducible apply Below.drew | with_reducible apply below_drewN | with_reducible apply Below.alloc (hB := (by first | omega | (simp; done) | (simp; omega))) | with_reducible apply Below.setCell (hp := (by first | omega | (simp; done) | (simp; omega))))).mono ?_; rintro e w6 ⟨rfl, hb6⟩; have K6 : Below wq.heap.size wq w6 := (show Below wq.heap.size wq _ from (by repeat first | with_reducible assumption | with_reducible exact Below.refl _ _ | with_reducible apply Below.drew | with_reducible apply below_drewN | with_reducible apply Below.alloc (hB := (by first | omega | (simp; done) | (simp; omega))) | with_reducible apply Below.setCell (hp := (by first | omega | (simp; done) | (simp; omega))))).trans (hb6.mono (by first | omega | (simp; done) | (simp; omega))); have kz6 := K6.size; have hz6 := hb6.size; (try simp at hz6); have b76 := HB7.out.below K6 HB7.out.lt; have t0 := b76.cell 0; have t2 := b76.cell 2; simp at t0 t2; have lt7 := b76.lt; obtain ⟨q0, q1, q2, q3, q4, q5, q6, q7⟩ := HRC.out _ K6; have lr := cell_lt q0; have nr : ¬ br = w6.heap.size := (by omega); have nr2 : ¬ w6.heap.size = br := (by omega); have n7 : ¬ wo.heap.size = w6.heap.size := (by omega); have n72 : ¬ w6.heap.size = wo.heap.size := (by omega)))
              go_quiet (fail)
              go_wp2_with fail
              go_roundg (t.ids.length - (k + 1))
              case measure => rw [HKK.out]; omega
              case rel => exact ⟨k + 1, by omega, by go_num, rfl, HBQ.out.trans ((show Below wq.heap.size wq _ from (by repeat first | with_reducible assumption | with_reducible exact Below.refl _ _ | with_reducible apply Below.drew | with_reducible apply below_drewN | with_reducible apply Below.alloc (hB := (by first | omega | (simp; done) | (simp; omega))) | with_reducible apply Below.setCell (hp := (by first | omega | (simp; done) | (simp; omega))))).mono kq)⟩
          · obtain rfl : k = t.ids.length := by omega
            go_wp2_with fail
            go_roundg (d.things.tables.length - (n + 1))
            case measure => rw [HK.out]; omega
            case rel => exact ⟨n + 1, by omega, by go_num, rfl, K2Q⟩
      · obtain rfl : n = d.things.tables.length := by omega
        have K1O : Below w1.heap.size w1 wo := HK12.out.trans (HB.out.mono HK12.out.size)
        have kw1 := K1O.size
        have kw0 := KO.size
        have SB := Lib.hid (fun W (hb : Below wo.heap.size wo W) => show W.cell? ⟨w1.heap.size, 0, none⟩ = some (.slice a1 d'.things.tables.length c1) ∧ W.cell? ⟨w1.heap.size, 1, none⟩ = some (.int .i64 d.things.next) ∧ W.cell? ⟨w1.heap.size, 2, none⟩ = some (.int .i64 d.fall) ∧ W.cell? ⟨w1.heap.size, 3, none⟩ = some (.int .i64 d.wide) ∧ W.cell? ⟨w1.heap.size, 4, none⟩ = some (.int .i64 d.high) ∧ W.cell? ⟨w.heap.size, 0, none⟩ = some (.slice a d.things.tables.length c) ∧ W.cell? ⟨w.heap.size, 1, none⟩ = some (.int .i64 d.things.next) ∧ W.cell? ⟨w.heap.size, 2, none⟩ = some (.int .i64 d.fall) ∧ W.cell? ⟨w.heap.size, 3, none⟩ = some (.int .i64 d.wide) ∧ W.cell? ⟨w.heap.size, 4, none⟩ = some (.int .i64 d.high) from by
          have bx := HBX.out.below (HB.out.trans (hb.mono ko)) HBX.out.lt
          have bw := HBW.out.below (HB.out.trans (hb.mono ko)) HBW.out.lt
          obtain ⟨e0, e1, e2, e3⟩ := HE.out
          refine ⟨bx.cell 0, ?_, ?_, ?_, ?_, bw.cell 0, bw.cell 1, bw.cell 2, bw.cell 3, bw.cell 4⟩
          · rw [← e0]; exact bx.cell 1
          · rw [← e1]; exact bx.cell 2
          · rw [← e2]; exact bx.cell 3
          · rw [← e3]; exact bx.cell 4)
        have HGD := Lib.hid (fun U (hb : Below wo.heap.size wo U) => show Calls Tryz.prog 21 #[.agg #[.slice a1 d'.things.tables.length c1, .int .i64 d.things.next, .int .i64 d.fall, .int .i64 d.wide, .int .i64 d.high]] U fun e w' => e = .returned (.bool true) ∧ Below U.heap.size U w' from by
          obtain ⟨e0, e1, e2, e3⟩ := HE.out
          have k := goodWorld_calls (vt := .slice a1 d'.things.tables.length c1) (d := d') (HR1.out.at_.below (K1O.trans (hb.mono kw1))) HIN'.out
          rw [HG'.out] at k
          rw [← e0, ← e1, ← e2, ← e3]
          exact k)
        have HSX := Lib.hid (fun U (hb : Below wo.heap.size wo U) => show Calls Tryz.prog 32 #[.agg #[.slice a1 d'.things.tables.length c1, .int .i64 d.things.next]] U fun e w' => e = .returned (.int .i64 (n0 : Int)) ∧ Below U.heap.size U w' from by
          have k := size_calls (HR1.out.at_.below (K1O.trans (hb.mono kw1)))
          rw [HZ2.out] at k
          rw [← HE.out.1]
          exact k)
        have HSW := Lib.hid (fun U (hb : Below wo.heap.size wo U) => show Calls Tryz.prog 32 #[.agg #[.slice a d.things.tables.length c, .int .i64 d.things.next]] U fun e w' => e = .returned (.int .i64 (n0 : Int)) ∧ Below U.heap.size U w' from by
          have k := size_calls (HST.out.below (KO.trans (hb.mono kw0)))
          rw [HZ1.out] at k
          exact k)
        have q9 : decide ((d.things.tables.length : Int) < (d.things.tables.length : Int)) = false := decide_eq_false (by omega)
        obtain ⟨x0, x1, x2, x3, x4, y0, y1, y2, y3, y4⟩ := SB.out wo (Below.refl _ _)
        go_upto_region 15 with (fail)
        go_region_held3 (fun W => W.cell? ⟨w1.heap.size, 0, none⟩ = some (.slice a1 d'.things.tables.length c1) ∧ W.cell? ⟨w1.heap.size, 1, none⟩ = some (.int .i64 d.things.next) ∧ W.cell? ⟨w1.heap.size, 2, none⟩ = some (.int .i64 d.fall) ∧ W.cell? ⟨w1.heap.size, 3, none⟩ = some (.int .i64 d.wide) ∧ W.cell? ⟨w1.heap.size, 4, none⟩ = some (.int .i64 d.high) ∧ W.cell? ⟨w.heap.size, 0, none⟩ = some (.slice a d.things.tables.length c) ∧ W.cell? ⟨w.heap.size, 1, none⟩ = some (.int .i64 d.things.next) ∧ W.cell? ⟨w.heap.size, 2, none⟩ = some (.int .i64 d.fall) ∧ W.cell? ⟨w.heap.size, 3, none⟩ = some (.int .i64 d.wide) ∧ W.cell? ⟨w.heap.size, 4, none⟩ = some (.int .i64 d.high)) (exact SB.out _ (by repeat first | with_reducible exact Below.refl _ _ | with_reducible apply Below.drew | with_reducible refine Below.trans ?_ (Below.mono (B' := wo.heap.size) hb9 (by first | omega | (simp; done) | (simp; omega))) | with_reducible refine Below.trans ?_ (Below.mono (B' := wo.heap.size) hb8 (by first | omega | (simp; done) | (simp; omega))) | with_reducible refine Below.trans ?_ (Below.mono (B' := wo.heap.size) hb7 (by first | omega | (simp; done) | (simp; omega))))) (first | (go_at_call 21; with_reducible refine (HGD.out _ (by repeat first | with_reducible exact Below.refl _ _ | with_reducible apply Below.drew | with_reducible refine Below.trans ?_ (Below.mono (B' := wo.heap.size) hb9 (by first | omega | (simp; done) | (simp; omega))) | with_reducible refine Below.trans ?_ (Below.mono (B' := wo.heap.size) hb8 (by first | omega | (simp; done) | (simp; omega))) | with_reducible refine Below.trans ?_ (Below.mono (B' := wo.heap.size) hb7 (by first | omega | (simp; done) | (simp; omega))))).mono ?_; rintro e w7 ⟨rfl, hb7⟩; have hz7 := hb7.size; (try simp at hz7)) | (go_at_call_of 32 a1; with_reducible refine (HSX.out _ (by repeat first | with_reducible exact Below.refl _ _ | with_reducible apply Below.drew | with_reducible refine Below.trans ?_ (Below.mono (B' := wo.heap.size) hb9 (by first | omega | (simp; done) | (simp; omega))) | with_reducible refine Below.trans ?_ (Below.mono (B' := wo.heap.size) hb8 (by first | omega | (simp; done) | (simp; omega))) | with_reducible refine Below.trans ?_ (Below.mono (B' := wo.heap.size) hb7 (by first | omega | (simp; done) | (simp; omega))))).mono ?_; rintro e w8 ⟨rfl, hb8⟩; have hz8 := hb8.size; (try simp at hz8)) | (go_at_call_of 32 a; with_reducible refine (HSW.out _ (by repeat first | with_reducible exact Below.refl _ _ | with_reducible apply Below.drew | with_reducible refine Below.trans ?_ (Below.mono (B' := wo.heap.size) hb9 (by first | omega | (simp; done) | (simp; omega))) | with_reducible refine Below.trans ?_ (Below.mono (B' := wo.heap.size) hb8 (by first | omega | (simp; done) | (simp; omega))) | with_reducible refine Below.trans ?_ (Below.mono (B' := wo.heap.size) hb7 (by first | omega | (simp; done) | (simp; omega))))).mono ?_; rintro e w9 ⟨rfl, hb9⟩; have hz9 := hb9.size; (try simp at hz9)))
        all_goals
          go_wp2_with fail
          go_ret
          exact ⟨rfl, KO.trans (Below.mono (B' := w.heap.size) (show Below wo.heap.size wo _ from (by repeat first | with_reducible exact Below.refl _ _ | with_reducible apply Below.drew | with_reducible refine Below.trans ?_ (Below.mono (B' := wo.heap.size) hb9 (by first | omega | (simp; done) | (simp; omega))) | with_reducible refine Below.trans ?_ (Below.mono (B' := wo.heap.size) hb8 (by first | omega | (simp; done) | (simp; omega))) | with_reducible refine Below.trans ?_ (Below.mono (B' := wo.heap.size) hb7 (by first | omega | (simp; done) | (simp; omega))))) kw0)⟩
  · have hb := M.step_bad (w := d) (by simpa using hg)
    rw [hsd] at hb
    simp only [Prod.mk.injEq] at hb
    obtain ⟨e1, rfl, rfl⟩ := hb
    have e2 := e1.symm
    subst e2
    clear hg hsd e1
    go_enter Tryz.func7, Tryz.ntmps7
    go_wp2_with (first | (go_at_call 20; go_loud (refine (HS.out _ (by repeat first | with_reducible assumption | with_reducible exact Below.refl _ _ | with_reducible apply Below.drew | with_reducible apply below_drewN | with_reducible apply Below.alloc (hB := (by first | omega | (simp; done) | (simp; omega))) | with_reducible apply Below.setCell (hp := (by first | omega | (simp; done) | (simp; omega))))).mono ?_; rintro e w1 ⟨a1, c1, vo, rfl, hr1, ho1, hb1⟩; obtain ⟨ao, co, rfl⟩ := own_form ho1; have HR1 := Lib.hid hr1; clear hr1 ho1; have K1 : Below w.heap.size w w1 := (show Below w.heap.size w _ from (by repeat first | with_reducible assumption | with_reducible exact Below.refl _ _ | with_reducible apply Below.drew | with_reducible apply below_drewN | with_reducible apply Below.alloc (hB := (by first | omega | (simp; done) | (simp; omega))) | with_reducible apply Below.setCell (hp := (by first | omega | (simp; done) | (simp; omega))))).trans (hb1.mono (by first | omega | (simp; done) | (simp; omega))); have kz1 := K1.size; have hz1 := hb1.size; (try simp at hz1); have bw1 : Blk w1 (w.heap.size) 41 (#[.slice a d.things.tables.length c, .int .i64 d.things.next, .int .i64 d.fall, .int .i64 d.wide, .int .i64 d.high]) := (by apply blk_to; (repeat first | with_reducible apply Blk.below (hb := hb1) (hg := (by first | omega | (simp; done) | (simp; omega))) | with_reducible apply Blk.put | with_reducible apply Blk.drew | with_reducible exact Blk.new_at (h := (by first | rfl | (simp; done) | omega)) | with_reducible apply Blk.alloc | with_reducible apply Blk.far (hp := (by first | omega | (simp; done) | (simp; omega)))); rfl); have lw1 := bw1.lt)) | (go_at_call 29; go_loud (refine (HWO.out _).mono ?_; rintro e w2 ⟨rfl, hb2⟩; have K2 : Below w.heap.size w w2 := (show Below w.heap.size w _ from (by repeat first | with_reducible assumption | with_reducible exact Below.refl _ _ | with_reducible apply Below.drew | with_reducible apply below_drewN | with_reducible apply Below.alloc (hB := (by first | omega | (simp; done) | (simp; omega))) | with_reducible apply Below.setCell (hp := (by first | omega | (simp; done) | (simp; omega))))).trans (hb2.mono (by first | omega | (simp; done) | (simp; omega))); have kz2 := K2.size; have hz2 := hb2.size; (try simp at hz2))))
    go_ret
    exact ⟨rfl, (by repeat first | with_reducible assumption | with_reducible exact Below.refl _ _ | with_reducible apply Below.drew | with_reducible apply below_drewN | with_reducible apply Below.alloc (hB := (by first | omega | (simp; done) | (simp; omega))) | with_reducible apply Below.setCell (hp := (by first | omega | (simp; done) | (simp; omega))))⟩
end Go.Proofs.YtkpecagkpjabdabGreat
