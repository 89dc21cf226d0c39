/- The walk of WorldSums. Condition: the world lies in memory, its numbers are of 64 bits. -/
import Derived.Test.YtkpecagkpjabdabGreatWorlds
import Derived.Test.YtkpecagkpjabdabGreatOpenWorld
import Derived.Test.YtkpecagkpjabdabGreatBagP
import Derived.Test.YtkpecagkpjabdabGreatWWorldFixed
import Derived.Test.YtkpecagkpjabdabGreatSolveKeep
namespace Go.Proofs.YtkpecagkpjabdabGreat
open Go.RowKit
set_option linter.unusedVariables false
set_option linter.unusedSimpArgs false
set_option maxRecDepth 100000
theorem StoreAt.tab {w : World} {a : Option Addr} {c : Nat} {s : M.Store} (h : StoreAt w 0 (stV a c s) s) {i : Nat} {t : M.Table} (hi : s.tables[i]? = some t) :
    ∃ b o a1 cp1 a2 cp2, a = some ⟨b, o, none⟩ ∧ w.cell? ⟨b, o + i * 3, none⟩ = some (.int .i64 t.mask) ∧ w.cell? ⟨b, o + i * 3 + 1, none⟩ = some (.slice a1 t.ids.length cp1) ∧
      w.cell? ⟨b, o + i * 3 + 2, none⟩ = some (.slice a2 t.rows.length cp2) ∧ IntsAt w 0 (.slice a1 t.ids.length cp1) t.ids ∧ RowsAt w 0 (.slice a2 t.rows.length cp2) t.rows := by
  obtain ⟨vt, e, hs, hT⟩ := h
  simp only [Value.agg.injEq, Array.mk.injEq, List.cons.injEq, and_true] at e
  obtain ⟨b, o, cap, a1, cp1, a2, cp2, ev, _, _, c0, c1, c2, h1, h2⟩ := hT.at2 hi
  rw [ev] at e
  simp only [Value.slice.injEq, true_and] at e
  exact ⟨b, o, a1, cp1, a2, cp2, e.1, c0, c1, c2, h1, h2⟩
set_option maxHeartbeats 16000000 in
set_option maxRecDepth 100000 in
theorem worldSums_walk (d : M.Wd) (w : World) {v : Value} (h : WorldAt w v d) :
    Calls Tryz.prog 8 #[v] w fun e w' => e = .returned (.bool true) ∧ Below w.heap.size w w' := by
  obtain ⟨vt, rfl, hst, hin, hf, hwi, hhi⟩ := h
  obtain ⟨vt', ev, hs, hT⟩ := id hst
  obtain rfl : vt = vt' := by simpa using ev
  obtain ⟨a, c, rfl⟩ := hT.val
  have hrob : Rob w (fun _ => True) (stV a c d.things) d.things := (Rob.of_at hst).wide (fun _ _ _ => trivial)
  obtain ⟨d', l, k, hsd⟩ : ∃ d' l k, M.step d = (d', l, k) := ⟨_, _, _, rfl⟩
  have HS := Lib.hid (fun U (hb : Below w.heap.size w U) => step_calls2 (d := d) (hrob.step hb.size (fun g h1 _ => hb.block g h1)) hin hsd)
  have HWO := Lib.hid worlds_calls
  have HST := Lib.hid hst
  clear ev hst hrob hf hwi hhi
  have hmx : d.things.tables.length ≤ 9223372036854775807 := by have := hT.max; unfold maxLen at this; omega
  clear hT
  by_cases hg : M.goodW d = true
  · have gw := M.goodW_iff.1 hg
    have HSUM : Hid ((∀ e ∈ M.entries d.things, M.PassW d e) → M.sumL M.pxf (M.entries d'.things) = M.sumL M.pxf (M.entries d.things) ∧ M.sumL M.pyf (M.entries d'.things) = M.sumL M.pyf (M.entries d.things)) := Lib.hid (fun hp => by
      have := M.sums_step gw hp
      rw [hsd] at this
      exact this)
    have sk := M.step_kept gw
    rw [hsd] at sk
    simp only at sk
    obtain ⟨rfl, kp, gw', e1, e2, e3⟩ := sk
    have HGD := Lib.hid gw.things
    have HGD' := Lib.hid gw'.things
    have HOKR : Hid (∀ t ∈ d.things.tables, ∀ r ∈ t.rows, RowOk r ∧ M.Small r) := Lib.hid (fun t ht r hr => ⟨(hin.2 t ht).2.2 r hr, M.fits_small (M.goodRow_fits.1 ((gw.things.1 t ht).2.2.2 r hr))⟩)
    have hwd := gw.wide
    have hhd := gw.high
    have hmx' : d'.things.tables.length ≤ 9223372036854775807 := by
      have h1 : (M.idsT d'.things.tables).length ≤ 10 := gw'.things.2.2.2.1
      have h2 : d'.things.tables.length ≤ (M.idsT d'.things.tables).length := M.tabs_few gw'.things
      omega
    clear hg gw hsd kp gw' e1 e2 e3 hin
    go_enter Tryz.func8, Tryz.ntmps8
    go_wp2_with (first | (go_at_call 20; go_loud (refine (HS.out _ (by repeat first | with_reducible assumption | with_reducible exact Below.refl _ _ | with_reducible apply Below.drew | with_reducible apply below_drewN | with_reducible apply Below.alloc (hB := (by first | omega | (simp; done) | (simp; omega))) | with_reducible apply Below.setCell (hp := (by first | omega | (simp; done) | (simp; omega))))).mono ?_; rintro e w1 ⟨a1, c1, vo, rfl, hr1, ho1, hb1⟩; obtain ⟨ao, co, rfl⟩ := own_form ho1; have HR1 := Lib.hid hr1; clear hr1 ho1; have K1 : Below w.heap.size w w1 := (show Below w.heap.size w _ from (by repeat first | with_reducible assumption | with_reducible exact Below.refl _ _ | with_reducible apply Below.drew | with_reducible apply below_drewN | with_reducible apply Below.alloc (hB := (by first | omega | (simp; done) | (simp; omega))) | with_reducible apply Below.setCell (hp := (by first | omega | (simp; done) | (simp; omega))))).trans (hb1.mono (by first | omega | (simp; done) | (simp; omega))); have kz1 := K1.size; have hz1 := hb1.size; (try simp at hz1); have bw1 : Blk w1 (w.heap.size) 41 (#[.slice a d.things.tables.length c, .int .i64 d.things.next, .int .i64 d.fall, .int .i64 d.wide, .int .i64 d.high]) := (by apply blk_to; (repeat first | with_reducible apply Blk.below (hb := hb1) (hg := (by first | omega | (simp; done) | (simp; omega))) | with_reducible apply Blk.put | with_reducible apply Blk.drew | with_reducible exact Blk.new_at (h := (by first | rfl | (simp; done) | omega)) | with_reducible apply Blk.alloc | with_reducible apply Blk.far (hp := (by first | omega | (simp; done) | (simp; omega)))); rfl); have lw1 := bw1.lt)) | (go_at_call 29; go_loud (refine (HWO.out _).mono ?_; rintro e w2 ⟨rfl, hb2⟩; have K2 : Below w.heap.size w w2 := (show Below w.heap.size w _ from (by repeat first | with_reducible assumption | with_reducible exact Below.refl _ _ | with_reducible apply Below.drew | with_reducible apply below_drewN | with_reducible apply Below.alloc (hB := (by first | omega | (simp; done) | (simp; omega))) | with_reducible apply Below.setCell (hp := (by first | omega | (simp; done) | (simp; omega))))).trans (hb2.mono (by first | omega | (simp; done) | (simp; omega))); have kz2 := K2.size; have hz2 := hb2.size; (try simp at hz2); have K12 : Below w1.heap.size w1 w2 := (show Below w1.heap.size w1 _ from (by repeat first | with_reducible assumption | with_reducible exact Below.refl _ _ | with_reducible apply Below.drew | with_reducible apply below_drewN | with_reducible apply Below.alloc (hB := (by first | omega | (simp; done) | (simp; omega))) | with_reducible apply Below.setCell (hp := (by first | omega | (simp; done) | (simp; omega))))).trans (hb2.mono (by first | omega | (simp; done) | (simp; omega))); have bw2 : Blk w2 (w.heap.size) 41 (#[.slice a d.things.tables.length c, .int .i64 d.things.next, .int .i64 d.fall, .int .i64 d.wide, .int .i64 d.high]) := (by apply blk_to; (repeat first | with_reducible apply Blk.below (hb := hb2) (hg := (by first | omega | (simp; done) | (simp; omega))) | with_reducible exact bw1 | with_reducible apply Blk.put | with_reducible apply Blk.drew | with_reducible exact Blk.new_at (h := (by first | rfl | (simp; done) | omega)) | with_reducible apply Blk.alloc | with_reducible apply Blk.far (hp := (by first | omega | (simp; done) | (simp; omega)))); rfl); have bx2 : Blk w2 (w1.heap.size) 41 (#[.slice a1 d'.things.tables.length c1, .int .i64 d'.things.next, .int .i64 d'.fall, .int .i64 d'.wide, .int .i64 d'.high]) := (by apply blk_to; (repeat first | with_reducible apply Blk.below (hb := hb2) (hg := (by first | omega | (simp; done) | (simp; omega))) | with_reducible apply Blk.put | with_reducible apply Blk.drew | with_reducible exact Blk.new_at (h := (by first | rfl | (simp; done) | omega)) | with_reducible apply Blk.alloc | with_reducible apply Blk.far (hp := (by first | omega | (simp; done) | (simp; omega)))); rfl); have y0 := bw2.cell 0; have y1 := bw2.cell 1; simp at y0 y1; have ly := bw2.lt)))
    have HBW := Lib.hid bw2
    have HBX := Lib.hid bx2
    have HK2 := Lib.hid K2
    have HK12 := Lib.hid K12
    clear y0 y1 bw1 bw2 bx2 K1 K2 K12 hb1 hb2
    go_loopg [6, 7, 36] d.things.tables.length (fun g sx sy i wr => ∃ n : Nat, n ≤ d.things.tables.length ∧ i = .int .i64 n ∧ g = d.things.tables.length - n ∧ sx = .int .i64 (M.sumL M.pxf (M.ahead d.things n 0)) ∧ sy = .int .i64 (M.sumL M.pyf (M.ahead d.things n 0)) ∧ (∀ e ∈ M.ahead d.things n 0, M.PassW d e) ∧ Below w2.heap.size w2 wr)
    case atStart => exact ⟨0, Nat.zero_le _, rfl, rfl, by rw [M.ahead_zero]; rfl, by rw [M.ahead_zero]; rfl, by rw [M.ahead_zero]; simp, Below.refl _ _⟩
    case round =>
      obtain ⟨wo, hwo⟩ : ∃ wo, wo = wr := ⟨_, rfl⟩
      subst hwo
      obtain ⟨n, hn, rfl, hk, rfl, rfl, hps, hb⟩ := hrel
      have HB := Lib.hid hb
      have HK := Lib.hid hk
      have HPS := Lib.hid hps
      have ko := hb.size
      have KO : Below w.heap.size w wo := HK2.out.trans (hb.mono HK2.out.size)
      clear hk hb hps
      rcases Nat.lt_or_ge n d.things.tables.length with hlt | hge
      · obtain ⟨t, ht⟩ : ∃ t, d.things.tables[n]? = some t := ⟨_, List.getElem?_eq_getElem hlt⟩
        obtain ⟨b, o, ai, cpi, ar, cpr, rfl, c0, c1', c2, hi1, hi2⟩ := (HST.out.below KO).tab ht
        have HRR := Lib.hid hi2
        have HTT := Lib.hid ht
        have HLR := Lib.hid (HGD.out.1 t (List.mem_of_getElem? ht)).2.1
        have HRO := Lib.hid (HOKR.out t (List.mem_of_getElem? ht))
        have hrl : t.rows.length ≤ 9223372036854775807 := by have := hi2.max; unfold maxLen at this; omega
        obtain ⟨X0, hX0⟩ : ∃ x, M.sumL M.pxf (M.ahead d.things n 0) = x := ⟨_, rfl⟩
        obtain ⟨Y0, hY0⟩ : ∃ x, M.sumL M.pyf (M.ahead d.things n 0) = x := ⟨_, rfl⟩
        have HX0 := Lib.hid hX0
        have HY0 := Lib.hid hY0
        rw [hX0, hY0]
        clear hi1 hi2 ht hX0 hY0
        go_wp2_with fail
        obtain ⟨wl, hwl⟩ : ∃ wl, wl = wo.alloc (.cells #[.int .i64 t.mask, .slice ai t.ids.length cpi, .slice ar t.rows.length cpr] 74) := ⟨_, rfl⟩
        rw [← hwl]
        have HB7 : Hid (Blk wl wo.heap.size 74 #[.int .i64 t.mask, .slice ai t.ids.length cpi, .slice ar t.rows.length cpr]) := Lib.hid (by rw [hwl]; exact Blk.new_at rfl)
        have HKL : Hid (Below wo.heap.size wo wl) := Lib.hid (by rw [hwl]; exact (by repeat first | with_reducible assumption | with_reducible exact Below.refl _ _ | with_reducible apply Below.drew | with_reducible apply below_drewN | with_reducible apply Below.alloc (hB := (by first | omega | (simp; done) | (simp; omega))) | with_reducible apply Below.setCell (hp := (by first | omega | (simp; done) | (simp; omega)))))
        clear hwl c0 c1' c2
        have kl := HKL.out.size
        go_loopg [6, 7, 43] t.rows.length (fun g sx sy i wr => ∃ k : Nat, k ≤ t.rows.length ∧ i = .int .i64 k ∧ g = t.rows.length - k ∧ sx = .int .i64 (M.sumL M.pxf (M.ahead d.things n k)) ∧ sy = .int .i64 (M.sumL M.pyf (M.ahead d.things n k)) ∧ (∀ e ∈ M.ahead d.things n k, M.PassW d e) ∧ Below wl.heap.size wl wr)
        case atStart => exact ⟨0, Nat.zero_le _, rfl, rfl, by rw [HX0.out], by rw [HY0.out], HPS.out, Below.refl _ _⟩
        case round =>
          obtain ⟨wq, hwq⟩ : ∃ wq, wq = wr := ⟨_, rfl⟩
          subst hwq
          obtain ⟨k, hk, rfl, hgk, rfl, rfl, hps, hbq⟩ := hrel
          have HBQ := Lib.hid hbq
          have HKK := Lib.hid hgk
          have HPK := Lib.hid hps
          have kq := hbq.size
          have KOQ : Below wo.heap.size wo wq := HKL.out.trans (hbq.mono kl)
          have K2Q : Below w2.heap.size w2 wq := HB.out.trans (KOQ.mono ko)
          have KWQ : Below w.heap.size w wq := KO.trans (KOQ.mono KO.size)
          have HB7 := Lib.hid (HB7.out.below hbq HB7.out.lt)
          have HBWQ := Lib.hid (HBW.out.below K2Q HBW.out.lt)
          have kwq := KWQ.size
          have bdx := M.ahead_bd HGD.out n k
          obtain ⟨X, hX⟩ : ∃ x, M.sumL M.pxf (M.ahead d.things n k) = x := ⟨_, rfl⟩
          obtain ⟨Y, hY⟩ : ∃ x, M.sumL M.pyf (M.ahead d.things n k) = x := ⟨_, rfl⟩
          rw [hX, hY] at bdx
          rw [hX, hY]
          have HX := Lib.hid hX
          have HY := Lib.hid hY
          clear hgk hbq hps hX hY
          rcases Nat.lt_or_ge k t.rows.length with hlt2 | hge2
          · obtain ⟨id, hid⟩ : ∃ id, t.ids[k]? = some id := ⟨_, List.getElem?_eq_getElem (by rw [HLR.out]; exact hlt2)⟩
            obtain ⟨r, hr⟩ : ∃ r, t.rows[k]? = some r := ⟨_, List.getElem?_eq_getElem hlt2⟩
            have HAR : Hid (M.ahead d.things n (k + 1) = M.ahead d.things n k ++ [(id, t.mask, r)]) := Lib.hid (M.ahead_row HTT.out hid hr)
            obtain ⟨hro, hsm⟩ := HRO.out r (List.mem_of_getElem? hr)
            obtain ⟨br, orr, cp2, er, _, _⟩ := (HRR.out.below KOQ).at hr
            simp only [Value.slice.injEq, true_and] at er
            obtain ⟨rfl, rfl⟩ := er
            obtain ⟨q0, q1, q2, q3, q4, q5, q6, q7⟩ := rowsAt_cells HRR.out hr KOQ
            have s0 := HB7.out.cell 0
            have s2 := HB7.out.cell 2
            simp at s0 s2
            have lt7 := HB7.out.lt
            obtain ⟨q, hq⟩ : ∃ q, M.calm r = q := ⟨_, rfl⟩
            have HCA := Lib.hid (fun U => calm_calls r U)
            rw [hq] at HCA
            have HQ := Lib.hid hq
            obtain ⟨⟨d1, d2⟩, ⟨d3, d4⟩, _, _⟩ := hsm
            clear hid hr hq hro
            have step : ∀ (e : M.Entry), e = (id, t.mask, r) → M.PassW d e → ∀ e ∈ M.ahead d.things n (k + 1), M.PassW d e := by
              intro e he hp x hx
              rw [HAR.out] at hx
              rcases List.mem_append.1 hx with hx | hx
              · exact HPK.out x hx
              · rw [List.mem_singleton.1 hx, ← he]; exact hp
            have HSTEP := Lib.hid step
            clear step
            cases hm : M.moves t.mask
            · have qm : (bits .and .i64 t.mask 11 == 11) = false := hm
              have qn : (bits .and .i64 t.mask 11 != 11) = true := by simpa using qm
              cases h4 : M.bit t.mask 4
              · have q4b : (bits .and .i64 t.mask 4 != 0) = false := h4
                cases h16 : M.bit t.mask 16
                · have q16 : (bits .and .i64 t.mask 16 != 0) = false := h16
                  cases q
                  · clear hm h4 h16
                    go_wp2_with (go_at_call 33; go_loud (refine (HCA.out _).mono ?_; rintro e w6 ⟨rfl, hb6⟩; have K6 : Below wq.heap.size wq w6 := (show Below wq.heap.size wq _ from (by repeat first | with_reducible assumption | with_reducible exact Below.refl _ _ | with_reducible apply Below.drew | with_reducible apply below_drewN | with_reducible apply Below.alloc (hB := (by first | omega | (simp; done) | (simp; omega))) | with_reducible apply Below.setCell (hp := (by first | omega | (simp; done) | (simp; omega))))).trans (hb6.mono (by first | omega | (simp; done) | (simp; omega))); have kz6 := K6.size; have b76 := HB7.out.below K6 HB7.out.lt; have t06 := b76.cell 0; simp at t06; have lt76 := b76.lt; have br6 : Blk w6 wq.heap.size 27 (rowC r) := (Blk.new wq 27 (rowC r)).below hb6 (by simp); obtain ⟨r0, r1, r2, r3, r4, r5, r6, r7⟩ := row_at br6; have bw6 := HBWQ.out.below K6 HBWQ.out.lt; have g2 := bw6.cell 2; have g3 := bw6.cell 3; have g4 := bw6.cell 4; simp at g2 g3 g4))
                    go_ret
                    exact ⟨rfl, KWQ.trans ((show Below wq.heap.size wq _ from (by repeat first | with_reducible assumption | with_reducible exact Below.refl _ _ | with_reducible apply Below.drew | with_reducible apply below_drewN | with_reducible apply Below.alloc (hB := (by first | omega | (simp; done) | (simp; omega))) | with_reducible apply Below.setCell (hp := (by first | omega | (simp; done) | (simp; omega))))).mono kwq)⟩
                  · have HP := Lib.hid (HSTEP.out _ rfl ⟨fun _ => h4, h16, HQ.out, fun e => by rw [hm] at e; cases e⟩)
                    have HPX : Hid (M.pxf (id, t.mask, r) = 0 ∧ M.pyf (id, t.mask, r) = 0) := Lib.hid (by simp [M.pxf, M.pyf, hm])
                    clear hm h4 h16
                    go_wp2_with (go_at_call 33; go_loud (refine (HCA.out _).mono ?_; rintro e w6 ⟨rfl, hb6⟩; have K6 : Below wq.heap.size wq w6 := (show Below wq.heap.size wq _ from (by repeat first | with_reducible assumption | with_reducible exact Below.refl _ _ | with_reducible apply Below.drew | with_reducible apply below_drewN | with_reducible apply Below.alloc (hB := (by first | omega | (simp; done) | (simp; omega))) | with_reducible apply Below.setCell (hp := (by first | omega | (simp; done) | (simp; omega))))).trans (hb6.mono (by first | omega | (simp; done) | (simp; omega))); have kz6 := K6.size; have b76 := HB7.out.below K6 HB7.out.lt; have t06 := b76.cell 0; simp at t06; have lt76 := b76.lt; have br6 : Blk w6 wq.heap.size 27 (rowC r) := (Blk.new wq 27 (rowC r)).below hb6 (by simp); obtain ⟨r0, r1, r2, r3, r4, r5, r6, r7⟩ := row_at br6; have bw6 := HBWQ.out.below K6 HBWQ.out.lt; have g2 := bw6.cell 2; have g3 := bw6.cell 3; have g4 := bw6.cell 4; simp at g2 g3 g4))
                    go_roundg (t.rows.length - (k + 1))
                    case measure => rw [HKK.out]; omega
                    case rel =>
                      refine ⟨k + 1, by omega, by go_num, rfl, ?_, ?_, HP.out, HBQ.out.trans ((show Below wq.heap.size wq _ from (by repeat first | with_reducible assumption | with_reducible exact Below.refl _ _ | with_reducible apply Below.drew | with_reducible apply below_drewN | with_reducible apply Below.alloc (hB := (by first | omega | (simp; done) | (simp; omega))) | with_reducible apply Below.setCell (hp := (by first | omega | (simp; done) | (simp; omega))))).mono kq)⟩
                      · rw [HAR.out, M.sumL_snoc, HPX.out.1, HX.out, Int.add_zero]
                      · rw [HAR.out, M.sumL_snoc, HPX.out.2, HY.out, Int.add_zero]
                · have q16 : (bits .and .i64 t.mask 16 != 0) = true := h16
                  clear hm h4 h16
                  go_wp2_with (go_at_call 33; go_loud (refine (HCA.out _).mono ?_; rintro e w6 ⟨rfl, hb6⟩; have K6 : Below wq.heap.size wq w6 := (show Below wq.heap.size wq _ from (by repeat first | with_reducible assumption | with_reducible exact Below.refl _ _ | with_reducible apply Below.drew | with_reducible apply below_drewN | with_reducible apply Below.alloc (hB := (by first | omega | (simp; done) | (simp; omega))) | with_reducible apply Below.setCell (hp := (by first | omega | (simp; done) | (simp; omega))))).trans (hb6.mono (by first | omega | (simp; done) | (simp; omega))); have kz6 := K6.size; have b76 := HB7.out.below K6 HB7.out.lt; have t06 := b76.cell 0; simp at t06; have lt76 := b76.lt; have br6 : Blk w6 wq.heap.size 27 (rowC r) := (Blk.new wq 27 (rowC r)).below hb6 (by simp); obtain ⟨r0, r1, r2, r3, r4, r5, r6, r7⟩ := row_at br6; have bw6 := HBWQ.out.below K6 HBWQ.out.lt; have g2 := bw6.cell 2; have g3 := bw6.cell 3; have g4 := bw6.cell 4; simp at g2 g3 g4))
                  go_ret
                  exact ⟨rfl, KWQ.trans ((show Below wq.heap.size wq _ from (by repeat first | with_reducible assumption | with_reducible exact Below.refl _ _ | with_reducible apply Below.drew | with_reducible apply below_drewN | with_reducible apply Below.alloc (hB := (by first | omega | (simp; done) | (simp; omega))) | with_reducible apply Below.setCell (hp := (by first | omega | (simp; done) | (simp; omega))))).mono kwq)⟩
              · have q4b : (bits .and .i64 t.mask 4 != 0) = true := h4
                clear hm h4
                go_wp2_with (go_at_call 33; go_loud (refine (HCA.out _).mono ?_; rintro e w6 ⟨rfl, hb6⟩; have K6 : Below wq.heap.size wq w6 := (show Below wq.heap.size wq _ from (by repeat first | with_reducible assumption | with_reducible exact Below.refl _ _ | with_reducible apply Below.drew | with_reducible apply below_drewN | with_reducible apply Below.alloc (hB := (by first | omega | (simp; done) | (simp; omega))) | with_reducible apply Below.setCell (hp := (by first | omega | (simp; done) | (simp; omega))))).trans (hb6.mono (by first | omega | (simp; done) | (simp; omega))); have kz6 := K6.size; have b76 := HB7.out.below K6 HB7.out.lt; have t06 := b76.cell 0; simp at t06; have lt76 := b76.lt; have br6 : Blk w6 wq.heap.size 27 (rowC r) := (Blk.new wq 27 (rowC r)).below hb6 (by simp); obtain ⟨r0, r1, r2, r3, r4, r5, r6, r7⟩ := row_at br6; have bw6 := HBWQ.out.below K6 HBWQ.out.lt; have g2 := bw6.cell 2; have g3 := bw6.cell 3; have g4 := bw6.cell 4; simp at g2 g3 g4))
                go_ret
                exact ⟨rfl, KWQ.trans ((show Below wq.heap.size wq _ from (by repeat first | with_reducible assumption | with_reducible exact Below.refl _ _ | with_reducible apply Below.drew | with_reducible apply below_drewN | with_reducible apply Below.alloc (hB := (by first | omega | (simp; done) | (simp; omega))) | with_reducible apply Below.setCell (hp := (by first | omega | (simp; done) | (simp; omega))))).mono kwq)⟩
            · have qm : (bits .and .i64 t.mask 11 == 11) = true := hm
              have qn : (bits .and .i64 t.mask 11 != 11) = false := by simpa using qm
              cases h16 : M.bit t.mask 16
              · have q16 : (bits .and .i64 t.mask 16 != 0) = false := h16
                cases q
                · clear hm h16
                  go_wp2_with (go_at_call 33; go_loud (refine (HCA.out _).mono ?_; rintro e w6 ⟨rfl, hb6⟩; have K6 : Below wq.heap.size wq w6 := (show Below wq.heap.size wq _ from (by repeat first | with_reducible assumption | with_reducible exact Below.refl _ _ | with_reducible apply Below.drew | with_reducible apply below_drewN | with_reducible apply Below.alloc (hB := (by first | omega | (simp; done) | (simp; omega))) | with_reducible apply Below.setCell (hp := (by first | omega | (simp; done) | (simp; omega))))).trans (hb6.mono (by first | omega | (simp; done) | (simp; omega))); have kz6 := K6.size; have b76 := HB7.out.below K6 HB7.out.lt; have t06 := b76.cell 0; simp at t06; have lt76 := b76.lt; have br6 : Blk w6 wq.heap.size 27 (rowC r) := (Blk.new wq 27 (rowC r)).below hb6 (by simp); obtain ⟨r0, r1, r2, r3, r4, r5, r6, r7⟩ := row_at br6; have bw6 := HBWQ.out.below K6 HBWQ.out.lt; have g2 := bw6.cell 2; have g3 := bw6.cell 3; have g4 := bw6.cell 4; simp at g2 g3 g4))
                  go_ret
                  exact ⟨rfl, KWQ.trans ((show Below wq.heap.size wq _ from (by repeat first | with_reducible assumption | with_reducible exact Below.refl _ _ | with_reducible apply Below.drew | with_reducible apply below_drewN | with_reducible apply Below.alloc (hB := (by first | omega | (simp; done) | (simp; omega))) | with_reducible apply Below.setCell (hp := (by first | omega | (simp; done) | (simp; omega))))).mono kwq)⟩
                · rcases (show r.X < 110000 ∨ (¬ r.X < 110000 ∧ d.wide - 110000 < r.X) ∨ (¬ r.X < 110000 ∧ ¬ d.wide - 110000 < r.X ∧ r.Y < 110000) ∨ (¬ r.X < 110000 ∧ ¬ d.wide - 110000 < r.X ∧ ¬ r.Y < 110000 ∧ d.high - 110000 < r.Y) ∨ (¬ r.X < 110000 ∧ ¬ d.wide - 110000 < r.X ∧ ¬ r.Y < 110000 ∧ ¬ d.high - 110000 < r.Y) by omega) with f1 | ⟨f1, f2⟩ | ⟨f1, f2, f3⟩ | ⟨f1, f2, f3, f4⟩ | ⟨f1, f2, f3, f4⟩
                  · clear hm h16
                    go_wp2_with (go_at_call 33; go_loud (refine (HCA.out _).mono ?_; rintro e w6 ⟨rfl, hb6⟩; have K6 : Below wq.heap.size wq w6 := (show Below wq.heap.size wq _ from (by repeat first | with_reducible assumption | with_reducible exact Below.refl _ _ | with_reducible apply Below.drew | with_reducible apply below_drewN | with_reducible apply Below.alloc (hB := (by first | omega | (simp; done) | (simp; omega))) | with_reducible apply Below.setCell (hp := (by first | omega | (simp; done) | (simp; omega))))).trans (hb6.mono (by first | omega | (simp; done) | (simp; omega))); have kz6 := K6.size; have b76 := HB7.out.below K6 HB7.out.lt; have t06 := b76.cell 0; simp at t06; have lt76 := b76.lt; have br6 : Blk w6 wq.heap.size 27 (rowC r) := (Blk.new wq 27 (rowC r)).below hb6 (by simp); obtain ⟨r0, r1, r2, r3, r4, r5, r6, r7⟩ := row_at br6; have bw6 := HBWQ.out.below K6 HBWQ.out.lt; have g2 := bw6.cell 2; have g3 := bw6.cell 3; have g4 := bw6.cell 4; simp at g2 g3 g4))
                    go_ret
                    exact ⟨rfl, KWQ.trans ((show Below wq.heap.size wq _ from (by repeat first | with_reducible assumption | with_reducible exact Below.refl _ _ | with_reducible apply Below.drew | with_reducible apply below_drewN | with_reducible apply Below.alloc (hB := (by first | omega | (simp; done) | (simp; omega))) | with_reducible apply Below.setCell (hp := (by first | omega | (simp; done) | (simp; omega))))).mono kwq)⟩
                  · clear hm h16
                    go_wp2_with (go_at_call 33; go_loud (refine (HCA.out _).mono ?_; rintro e w6 ⟨rfl, hb6⟩; have K6 : Below wq.heap.size wq w6 := (show Below wq.heap.size wq _ from (by repeat first | with_reducible assumption | with_reducible exact Below.refl _ _ | with_reducible apply Below.drew | with_reducible apply below_drewN | with_reducible apply Below.alloc (hB := (by first | omega | (simp; done) | (simp; omega))) | with_reducible apply Below.setCell (hp := (by first | omega | (simp; done) | (simp; omega))))).trans (hb6.mono (by first | omega | (simp; done) | (simp; omega))); have kz6 := K6.size; have b76 := HB7.out.below K6 HB7.out.lt; have t06 := b76.cell 0; simp at t06; have lt76 := b76.lt; have br6 : Blk w6 wq.heap.size 27 (rowC r) := (Blk.new wq 27 (rowC r)).below hb6 (by simp); obtain ⟨r0, r1, r2, r3, r4, r5, r6, r7⟩ := row_at br6; have bw6 := HBWQ.out.below K6 HBWQ.out.lt; have g2 := bw6.cell 2; have g3 := bw6.cell 3; have g4 := bw6.cell 4; simp at g2 g3 g4))
                    go_ret
                    exact ⟨rfl, KWQ.trans ((show Below wq.heap.size wq _ from (by repeat first | with_reducible assumption | with_reducible exact Below.refl _ _ | with_reducible apply Below.drew | with_reducible apply below_drewN | with_reducible apply Below.alloc (hB := (by first | omega | (simp; done) | (simp; omega))) | with_reducible apply Below.setCell (hp := (by first | omega | (simp; done) | (simp; omega))))).mono kwq)⟩
                  · clear hm h16
                    go_wp2_with (go_at_call 33; go_loud (refine (HCA.out _).mono ?_; rintro e w6 ⟨rfl, hb6⟩; have K6 : Below wq.heap.size wq w6 := (show Below wq.heap.size wq _ from (by repeat first | with_reducible assumption | with_reducible exact Below.refl _ _ | with_reducible apply Below.drew | with_reducible apply below_drewN | with_reducible apply Below.alloc (hB := (by first | omega | (simp; done) | (simp; omega))) | with_reducible apply Below.setCell (hp := (by first | omega | (simp; done) | (simp; omega))))).trans (hb6.mono (by first | omega | (simp; done) | (simp; omega))); have kz6 := K6.size; have b76 := HB7.out.below K6 HB7.out.lt; have t06 := b76.cell 0; simp at t06; have lt76 := b76.lt; have br6 : Blk w6 wq.heap.size 27 (rowC r) := (Blk.new wq 27 (rowC r)).below hb6 (by simp); obtain ⟨r0, r1, r2, r3, r4, r5, r6, r7⟩ := row_at br6; have bw6 := HBWQ.out.below K6 HBWQ.out.lt; have g2 := bw6.cell 2; have g3 := bw6.cell 3; have g4 := bw6.cell 4; simp at g2 g3 g4))
                    go_ret
                    exact ⟨rfl, KWQ.trans ((show Below wq.heap.size wq _ from (by repeat first | with_reducible assumption | with_reducible exact Below.refl _ _ | with_reducible apply Below.drew | with_reducible apply below_drewN | with_reducible apply Below.alloc (hB := (by first | omega | (simp; done) | (simp; omega))) | with_reducible apply Below.setCell (hp := (by first | omega | (simp; done) | (simp; omega))))).mono kwq)⟩
                  · clear hm h16
                    go_wp2_with (go_at_call 33; go_loud (refine (HCA.out _).mono ?_; rintro e w6 ⟨rfl, hb6⟩; have K6 : Below wq.heap.size wq w6 := (show Below wq.heap.size wq _ from (by repeat first | with_reducible assumption | with_reducible exact Below.refl _ _ | with_reducible apply Below.drew | with_reducible apply below_drewN | with_reducible apply Below.alloc (hB := (by first | omega | (simp; done) | (simp; omega))) | with_reducible apply Below.setCell (hp := (by first | omega | (simp; done) | (simp; omega))))).trans (hb6.mono (by first | omega | (simp; done) | (simp; omega))); have kz6 := K6.size; have b76 := HB7.out.below K6 HB7.out.lt; have t06 := b76.cell 0; simp at t06; have lt76 := b76.lt; have br6 : Blk w6 wq.heap.size 27 (rowC r) := (Blk.new wq 27 (rowC r)).below hb6 (by simp); obtain ⟨r0, r1, r2, r3, r4, r5, r6, r7⟩ := row_at br6; have bw6 := HBWQ.out.below K6 HBWQ.out.lt; have g2 := bw6.cell 2; have g3 := bw6.cell 3; have g4 := bw6.cell 4; simp at g2 g3 g4))
                    go_ret
                    exact ⟨rfl, KWQ.trans ((show Below wq.heap.size wq _ from (by repeat first | with_reducible assumption | with_reducible exact Below.refl _ _ | with_reducible apply Below.drew | with_reducible apply below_drewN | with_reducible apply Below.alloc (hB := (by first | omega | (simp; done) | (simp; omega))) | with_reducible apply Below.setCell (hp := (by first | omega | (simp; done) | (simp; omega))))).mono kwq)⟩
                  · have HP := Lib.hid (HSTEP.out _ rfl ⟨(fun e => by rw [hm] at e; cases e), h16, HQ.out, fun _ => by refine ⟨⟨?_, ?_⟩, ?_, ?_⟩ <;> simp only <;> omega⟩)
                    have HPX : Hid (M.pxf (id, t.mask, r) = r.PX ∧ M.pyf (id, t.mask, r) = r.PY) := Lib.hid (by simp [M.pxf, M.pyf, hm])
                    clear hm h16
                    go_upto_region 17 with (go_at_call 33; go_loud (refine (HCA.out _).mono ?_; rintro e w6 ⟨rfl, hb6⟩; have K6 : Below wq.heap.size wq w6 := (show Below wq.heap.size wq _ from (by repeat first | with_reducible assumption | with_reducible exact Below.refl _ _ | with_reducible apply Below.drew | with_reducible apply below_drewN | with_reducible apply Below.alloc (hB := (by first | omega | (simp; done) | (simp; omega))) | with_reducible apply Below.setCell (hp := (by first | omega | (simp; done) | (simp; omega))))).trans (hb6.mono (by first | omega | (simp; done) | (simp; omega))); have kz6 := K6.size; have b76 := HB7.out.below K6 HB7.out.lt; have t06 := b76.cell 0; simp at t06; have lt76 := b76.lt; have br6 : Blk w6 wq.heap.size 27 (rowC r) := (Blk.new wq 27 (rowC r)).below hb6 (by simp); obtain ⟨r0, r1, r2, r3, r4, r5, r6, r7⟩ := row_at br6; have bw6 := HBWQ.out.below K6 HBWQ.out.lt; have g2 := bw6.cell 2; have g3 := bw6.cell 3; have g4 := bw6.cell 4; simp at g2 g3 g4))
                    have hwx : IntKind.i64.wrap (X + r.PX) = X + r.PX := by rw [IntKind.wrap_i64]; omega
                    have hwy : IntKind.i64.wrap (Y + r.PY) = Y + r.PY := by rw [IntKind.wrap_i64]; omega
                    go_quiet (fail)
                    clear hwx hwy
                    go_wp2_with fail
                    go_roundg (t.rows.length - (k + 1))
                    case measure => rw [HKK.out]; omega
                    case rel =>
                      refine ⟨k + 1, by omega, by go_num, rfl, ?_, ?_, HP.out, HBQ.out.trans ((show Below wq.heap.size wq _ from (by repeat first | with_reducible assumption | with_reducible exact Below.refl _ _ | with_reducible apply Below.drew | with_reducible apply below_drewN | with_reducible apply Below.alloc (hB := (by first | omega | (simp; done) | (simp; omega))) | with_reducible apply Below.setCell (hp := (by first | omega | (simp; done) | (simp; omega))))).mono kq)⟩
                      · rw [HAR.out, M.sumL_snoc, HPX.out.1, HX.out]
                      · rw [HAR.out, M.sumL_snoc, HPX.out.2, HY.out]
              · have q16 : (bits .and .i64 t.mask 16 != 0) = true := h16
                clear hm h16
                go_wp2_with (go_at_call 33; go_loud (refine (HCA.out _).mono ?_; rintro e w6 ⟨rfl, hb6⟩; have K6 : Below wq.heap.size wq w6 := (show Below wq.heap.size wq _ from (by repeat first | with_reducible assumption | with_reducible exact Below.refl _ _ | with_reducible apply Below.drew | with_reducible apply below_drewN | with_reducible apply Below.alloc (hB := (by first | omega | (simp; done) | (simp; omega))) | with_reducible apply Below.setCell (hp := (by first | omega | (simp; done) | (simp; omega))))).trans (hb6.mono (by first | omega | (simp; done) | (simp; omega))); have kz6 := K6.size; have b76 := HB7.out.below K6 HB7.out.lt; have t06 := b76.cell 0; simp at t06; have lt76 := b76.lt; have br6 : Blk w6 wq.heap.size 27 (rowC r) := (Blk.new wq 27 (rowC r)).below hb6 (by simp); obtain ⟨r0, r1, r2, r3, r4, r5, r6, r7⟩ := row_at br6; have bw6 := HBWQ.out.below K6 HBWQ.out.lt; have g2 := bw6.cell 2; have g3 := bw6.cell 3; have g4 := bw6.cell 4; simp at g2 g3 g4))
                go_ret
                exact ⟨rfl, KWQ.trans ((show Below wq.heap.size wq _ from (by repeat first | with_reducible assumption | with_reducible exact Below.refl _ _ | with_reducible apply Below.drew | with_reducible apply below_drewN | with_reducible apply Below.alloc (hB := (by first | omega | (simp; done) | (simp; omega))) | with_reducible apply Below.setCell (hp := (by first | omega | (simp; done) | (simp; omega))))).mono kwq)⟩
          · obtain rfl : k = t.rows.length := by omega
            go_wp2_with fail
            go_roundg (d.things.tables.length - (n + 1))
            case measure => rw [HK.out]; omega
            case rel =>
              have e := M.ahead_next HTT.out HLR.out (k := t.rows.length) HLR.out.symm
              exact ⟨n + 1, by omega, by go_num, rfl, by rw [e, HX.out], by rw [e, HY.out], by rw [e]; exact HPK.out, K2Q⟩
      · obtain rfl : n = d.things.tables.length := by omega
        have HPA : Hid (∀ e ∈ M.entries d.things, M.PassW d e) := Lib.hid (by have := HPS.out; rwa [M.ahead_all] at this)
        obtain ⟨eqx, eqy⟩ := HSUM.out HPA.out
        rw [M.ahead_all]
        obtain ⟨PX, hPX⟩ : ∃ x, M.sumL M.pxf (M.entries d.things) = x := ⟨_, rfl⟩
        obtain ⟨PY, hPY⟩ : ∃ x, M.sumL M.pyf (M.entries d.things) = x := ⟨_, rfl⟩
        rw [hPX] at eqx
        rw [hPY] at eqy
        rw [hPX, hPY]
        have HEQ := Lib.hid (And.intro eqx eqy)
        have K1O : Below w1.heap.size w1 wo := HK12.out.trans (HB.out.mono HK12.out.size)
        have q9 : decide ((d.things.tables.length : Int) < (d.things.tables.length : Int)) = false := decide_eq_false (by omega)
        have bx := HBX.out.below HB.out HBX.out.lt
        have x0 := bx.cell 0
        simp at x0
        have lx := bx.lt
        have HKW := Lib.hid KO
        have HK1 := Lib.hid K1O
        clear eqx eqy hPX hPY KO K1O
        go_wp2_with fail
        clear x0 bx
        go_loopg [13, 14, 114] d'.things.tables.length (fun g sx sy i wr => ∃ n : Nat, n ≤ d'.things.tables.length ∧ i = .int .i64 n ∧ g = d'.things.tables.length - n ∧ sx = .int .i64 (M.sumL M.pxf (M.ahead d'.things n 0)) ∧ sy = .int .i64 (M.sumL M.pyf (M.ahead d'.things n 0)) ∧ Below wo.heap.size wo wr)
        case atStart => exact ⟨0, Nat.zero_le _, rfl, rfl, by rw [M.ahead_zero]; rfl, by rw [M.ahead_zero]; rfl, (by repeat first | with_reducible assumption | with_reducible exact Below.refl _ _ | with_reducible apply Below.drew | with_reducible apply below_drewN | with_reducible apply Below.alloc (hB := (by first | omega | (simp; done) | (simp; omega))) | with_reducible apply Below.setCell (hp := (by first | omega | (simp; done) | (simp; omega))))⟩
        case round =>
          obtain ⟨wp, hwp⟩ : ∃ wp, wp = wr := ⟨_, rfl⟩
          subst hwp
          obtain ⟨n, hn, rfl, hk, rfl, rfl, hb⟩ := hrel
          have HBP := Lib.hid hb
          have HKP := Lib.hid hk
          have kp := hb.size
          clear hk hb
          rcases Nat.lt_or_ge n d'.things.tables.length with hlt | hge
          · obtain ⟨t, ht⟩ : ∃ t, d'.things.tables[n]? = some t := ⟨_, List.getElem?_eq_getElem hlt⟩
            obtain ⟨b, o, ai, cpi, ar, cpr, rfl, c0, c1', c2, hi1, hi2⟩ := (HR1.out.at_.below (HK1.out.trans (HBP.out.mono HK1.out.size))).tab ht
            have HRR := Lib.hid hi2
            have HTT := Lib.hid ht
            have HLR := Lib.hid (HGD'.out.1 t (List.mem_of_getElem? ht)).2.1
            have HSR := Lib.hid (fun r hr => M.fits_small (M.goodRow_fits.1 ((HGD'.out.1 t (List.mem_of_getElem? ht)).2.2.2 r hr)))
            have hrl : t.rows.length ≤ 9223372036854775807 := by have := hi2.max; unfold maxLen at this; omega
            obtain ⟨X0, hX0⟩ : ∃ x, M.sumL M.pxf (M.ahead d'.things n 0) = x := ⟨_, rfl⟩
            obtain ⟨Y0, hY0⟩ : ∃ x, M.sumL M.pyf (M.ahead d'.things n 0) = x := ⟨_, rfl⟩
            have HX0 := Lib.hid hX0
            have HY0 := Lib.hid hY0
            rw [hX0, hY0]
            clear hi1 hi2 ht hX0 hY0
            go_wp2_with fail
            obtain ⟨wl, hwl⟩ : ∃ wl, wl = wp.alloc (.cells #[.int .i64 t.mask, .slice ai t.ids.length cpi, .slice ar t.rows.length cpr] 74) := ⟨_, rfl⟩
            rw [← hwl]
            have HB7 : Hid (Blk wl wp.heap.size 74 #[.int .i64 t.mask, .slice ai t.ids.length cpi, .slice ar t.rows.length cpr]) := Lib.hid (by rw [hwl]; exact Blk.new_at rfl)
            have HKL : Hid (Below wp.heap.size wp wl) := Lib.hid (by rw [hwl]; exact (by repeat first | with_reducible assumption | with_reducible exact Below.refl _ _ | with_reducible apply Below.drew | with_reducible apply below_drewN | with_reducible apply Below.alloc (hB := (by first | omega | (simp; done) | (simp; omega))) | with_reducible apply Below.setCell (hp := (by first | omega | (simp; done) | (simp; omega)))))
            clear hwl c0 c1' c2
            have kl := HKL.out.size
            go_loopg [13, 14, 121] t.rows.length (fun g sx sy i wr => ∃ k : Nat, k ≤ t.rows.length ∧ i = .int .i64 k ∧ g = t.rows.length - k ∧ sx = .int .i64 (M.sumL M.pxf (M.ahead d'.things n k)) ∧ sy = .int .i64 (M.sumL M.pyf (M.ahead d'.things n k)) ∧ Below wl.heap.size wl wr)
            case atStart => exact ⟨0, Nat.zero_le _, rfl, rfl, by rw [HX0.out], by rw [HY0.out], Below.refl _ _⟩
            case round =>
              obtain ⟨wq, hwq⟩ : ∃ wq, wq = wr := ⟨_, rfl⟩
              subst hwq
              obtain ⟨k, hk, rfl, hgk, rfl, rfl, hbq⟩ := hrel
              have HBQ := Lib.hid hbq
              have HKK := Lib.hid hgk
              have kq := hbq.size
              have KOQ : Below wp.heap.size wp wq := HKL.out.trans (hbq.mono kl)
              have HB7 := Lib.hid (HB7.out.below hbq HB7.out.lt)
              have bdx := M.ahead_bd HGD'.out n k
              obtain ⟨X, hX⟩ : ∃ x, M.sumL M.pxf (M.ahead d'.things n k) = x := ⟨_, rfl⟩
              obtain ⟨Y, hY⟩ : ∃ x, M.sumL M.pyf (M.ahead d'.things n k) = x := ⟨_, rfl⟩
              rw [hX, hY] at bdx
              rw [hX, hY]
              have HX := Lib.hid hX
              have HY := Lib.hid hY
              clear hgk hbq hX hY
              rcases Nat.lt_or_ge k t.rows.length with hlt2 | hge2
              · obtain ⟨id, hid⟩ : ∃ id, t.ids[k]? = some id := ⟨_, List.getElem?_eq_getElem (by rw [HLR.out]; exact hlt2)⟩
                obtain ⟨r, hr⟩ : ∃ r, t.rows[k]? = some r := ⟨_, List.getElem?_eq_getElem hlt2⟩
                have HAR : Hid (M.ahead d'.things n (k + 1) = M.ahead d'.things n k ++ [(id, t.mask, r)]) := Lib.hid (M.ahead_row HTT.out hid hr)
                obtain ⟨_, ⟨d3, d4⟩, _, _⟩ := HSR.out r (List.mem_of_getElem? hr)
                obtain ⟨br, orr, cp2, er, _, _⟩ := (HRR.out.below KOQ).at hr
                simp only [Value.slice.injEq, true_and] at er
                obtain ⟨rfl, rfl⟩ := er
                obtain ⟨q0, q1, q2, q3, q4, q5, q6, q7⟩ := rowsAt_cells HRR.out hr KOQ
                have s0 := HB7.out.cell 0
                have s2 := HB7.out.cell 2
                simp at s0 s2
                have lt7 := HB7.out.lt
                clear hid hr
                cases hm : M.moves t.mask
                · have qm : (bits .and .i64 t.mask 11 == 11) = false := hm
                  have HPX : Hid (M.pxf (id, t.mask, r) = 0 ∧ M.pyf (id, t.mask, r) = 0) := Lib.hid (by simp [M.pxf, M.pyf, hm])
                  clear hm
                  go_wp2_with fail
                  go_roundg (t.rows.length - (k + 1))
                  case measure => rw [HKK.out]; omega
                  case rel =>
                    refine ⟨k + 1, by omega, by go_num, rfl, ?_, ?_, HBQ.out.trans ((show Below wq.heap.size wq _ from (by repeat first | with_reducible assumption | with_reducible exact Below.refl _ _ | with_reducible apply Below.drew | with_reducible apply below_drewN | with_reducible apply Below.alloc (hB := (by first | omega | (simp; done) | (simp; omega))) | with_reducible apply Below.setCell (hp := (by first | omega | (simp; done) | (simp; omega))))).mono kq)⟩
                    · rw [HAR.out, M.sumL_snoc, HPX.out.1, HX.out, Int.add_zero]
                    · rw [HAR.out, M.sumL_snoc, HPX.out.2, HY.out, Int.add_zero]
                · have qm : (bits .and .i64 t.mask 11 == 11) = true := hm
                  have HPX : Hid (M.pxf (id, t.mask, r) = r.PX ∧ M.pyf (id, t.mask, r) = r.PY) := Lib.hid (by simp [M.pxf, M.pyf, hm])
                  clear hm
                  go_upto_region 28 with (fail)
                  have hwx : IntKind.i64.wrap (X + r.PX) = X + r.PX := by rw [IntKind.wrap_i64]; omega
                  have hwy : IntKind.i64.wrap (Y + r.PY) = Y + r.PY := by rw [IntKind.wrap_i64]; omega
                  go_quiet (fail)
                  clear hwx hwy
                  go_wp2_with fail
                  go_roundg (t.rows.length - (k + 1))
                  case measure => rw [HKK.out]; omega
                  case rel =>
                    refine ⟨k + 1, by omega, by go_num, rfl, ?_, ?_, HBQ.out.trans ((show Below wq.heap.size wq _ from (by repeat first | with_reducible assumption | with_reducible exact Below.refl _ _ | with_reducible apply Below.drew | with_reducible apply below_drewN | with_reducible apply Below.alloc (hB := (by first | omega | (simp; done) | (simp; omega))) | with_reducible apply Below.setCell (hp := (by first | omega | (simp; done) | (simp; omega))))).mono kq)⟩
                    · rw [HAR.out, M.sumL_snoc, HPX.out.1, HX.out]
                    · rw [HAR.out, M.sumL_snoc, HPX.out.2, HY.out]
              · obtain rfl : k = t.rows.length := by omega
                go_wp2_with fail
                go_roundg (d'.things.tables.length - (n + 1))
                case measure => rw [HKP.out]; omega
                case rel =>
                  have e := M.ahead_next HTT.out HLR.out (k := t.rows.length) HLR.out.symm
                  exact ⟨n + 1, by omega, by go_num, rfl, by rw [e, HX.out], by rw [e, HY.out], HBP.out.trans (KOQ.mono kp)⟩
          · obtain rfl : n = d'.things.tables.length := by omega
            rw [M.ahead_all, HEQ.out.1, HEQ.out.2]
            have q8 : decide ((d'.things.tables.length : Int) < (d'.things.tables.length : Int)) = false := decide_eq_false (by omega)
            go_wp2_with fail
            go_ret
            exact ⟨rfl, HKW.out.trans (HBP.out.mono HKW.out.size)⟩
  · have hb := M.step_bad (w := d) (by simpa using hg)
    rw [hsd] at hb
    simp only [Prod.mk.injEq] at hb
    obtain ⟨e1, rfl, rfl⟩ := hb
    have e2 := e1.symm
    subst e2
    clear hg hsd e1
    go_enter Tryz.func8, Tryz.ntmps8
    go_wp2_with (first | (go_at_call 20; go_loud (refine (HS.out _ (by repeat first | with_reducible assumption | with_reducible exact Below.refl _ _ | with_reducible apply Below.drew | with_reducible apply below_drewN | with_reducible apply Below.alloc (hB := (by first | omega | (simp; done) | (simp; omega))) | with_reducible apply Below.setCell (hp := (by first | omega | (simp; done) | (simp; omega))))).mono ?_; rintro e w1 ⟨a1, c1, vo, rfl, hr1, ho1, hb1⟩; obtain ⟨ao, co, rfl⟩ := own_form ho1; have HR1 := Lib.hid hr1; clear hr1 ho1; have K1 : Below w.heap.size w w1 := (show Below w.heap.size w _ from (by repeat first | with_reducible assumption | with_reducible exact Below.refl _ _ | with_reducible apply Below.drew | with_reducible apply below_drewN | with_reducible apply Below.alloc (hB := (by first | omega | (simp; done) | (simp; omega))) | with_reducible apply Below.setCell (hp := (by first | omega | (simp; done) | (simp; omega))))).trans (hb1.mono (by first | omega | (simp; done) | (simp; omega))); have kz1 := K1.size; have hz1 := hb1.size; (try simp at hz1); have bw1 : Blk w1 (w.heap.size) 41 (#[.slice a d.things.tables.length c, .int .i64 d.things.next, .int .i64 d.fall, .int .i64 d.wide, .int .i64 d.high]) := (by apply blk_to; (repeat first | with_reducible apply Blk.below (hb := hb1) (hg := (by first | omega | (simp; done) | (simp; omega))) | with_reducible apply Blk.put | with_reducible apply Blk.drew | with_reducible exact Blk.new_at (h := (by first | rfl | (simp; done) | omega)) | with_reducible apply Blk.alloc | with_reducible apply Blk.far (hp := (by first | omega | (simp; done) | (simp; omega)))); rfl); have lw1 := bw1.lt)) | (go_at_call 29; go_loud (refine (HWO.out _).mono ?_; rintro e w2 ⟨rfl, hb2⟩; have K2 : Below w.heap.size w w2 := (show Below w.heap.size w _ from (by repeat first | with_reducible assumption | with_reducible exact Below.refl _ _ | with_reducible apply Below.drew | with_reducible apply below_drewN | with_reducible apply Below.alloc (hB := (by first | omega | (simp; done) | (simp; omega))) | with_reducible apply Below.setCell (hp := (by first | omega | (simp; done) | (simp; omega))))).trans (hb2.mono (by first | omega | (simp; done) | (simp; omega))); have kz2 := K2.size; have hz2 := hb2.size; (try simp at hz2))))
    go_ret
    exact ⟨rfl, (by repeat first | with_reducible assumption | with_reducible exact Below.refl _ _ | with_reducible apply Below.drew | with_reducible apply below_drewN | with_reducible apply Below.alloc (hB := (by first | omega | (simp; done) | (simp; omega))) | with_reducible apply Below.setCell (hp := (by first | omega | (simp; done) | (simp; omega))))⟩
end Go.Proofs.YtkpecagkpjabdabGreat
