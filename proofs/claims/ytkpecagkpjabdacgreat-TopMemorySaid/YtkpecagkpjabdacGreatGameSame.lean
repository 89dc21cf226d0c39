/- The contract of the statements' same: two worlds that are one. Condition: both lie in memory, and they are good. -/
import Derived.Test.YtkpecagkpjabdacGreatBagH
import Derived.Test.YtkpecagkpjabdacGreatBagWo
import Derived.Test.YtkpecagkpjabdacGreatBagP
import Derived.Test.YtkpecagkpjabdacGreatBagW
import Derived.Test.YtkpecagkpjabdacGreatBagA
import Derived.Deep.RegionHeld3
namespace Go.Proofs.YtkpecagkpjabdacGreat
open Go.RowKit
set_option linter.unusedVariables false
set_option linter.unusedSimpArgs false
set_option maxRecDepth 100000
theorem M.get_entry {d : M.Wd} (g : M.GoodWd d) {t : M.Table} (ht : t ∈ d.things.tables) {k : Nat} {id : Int} {r : M.Row} (h1 : t.ids[k]? = some id) (h2 : t.rows[k]? = some r) : M.get d.things id = (t.mask, r, true) := by
  rw [M.get_at g.things, M.entry_at g.things (M.entry_in ht h1 h2)]
  rfl
theorem rowNe_same (a : M.Row) (w : World) : (binOp .neq 23 (rowV a) (rowV a)).run Tryz.prog w = .ok (.bool false) w := by
  have hS : Tryz.prog.underlying 23 = some (.struct (Tryz.prog.fieldsOf 23)) := by kernel_rfl
  have hp : Tryz.prog.stoodInHeld 23 = false := by kernel_rfl
  obtain ⟨a0, a1, a2, a3, a4, a5, a6, a7⟩ := a
  rw [run_neq_struct, show (10000 : Nat) = 9999 + 1 from rfl, run_equalIn_agg w 9999 23 _ _ hS hp]
  simp only [Program.fieldsOf, Tryz.underlying23]
  go_simp
set_option maxHeartbeats 8000000 in
set_option maxRecDepth 100000 in
theorem same_calls {w : World} {a a' : Option Addr} {c c' : Nat} {d : M.Wd} (h1 : StoreAt w 0 (stV a c d.things) d.things) (h2 : StoreAt w 0 (stV a' c' d.things) d.things) (gd : M.GoodWd d) :
    Calls Tryz.prog 26 #[.agg (worldC (.slice a d.things.tables.length c) d), .agg (worldC (.slice a' d.things.tables.length c') d)] w fun e w' => e = .returned (.bool true) ∧ Below w.heap.size w w' := by
  obtain ⟨vt, ev, hs, hT⟩ := id h1
  obtain rfl : vt = .slice a d.things.tables.length c := by simpa using ev.symm
  have HT := Lib.hid hT
  have H1 := Lib.hid h1
  have H2 := Lib.hid h2
  have GD := Lib.hid gd
  obtain ⟨n0, hn0⟩ : ∃ n : Nat, M.size d.things = n := ⟨_, rfl⟩
  have h10 : n0 ≤ 10 := by rw [← hn0]; exact gd.things.2.2.2.1
  have HZ1 : Hid (M.sizeW d.things.tables = (n0 : Int)) := Lib.hid ((M.sizeW_eq _ (by show M.size d.things ≤ _; omega)).trans (by show ((M.size d.things : Nat) : Int) = _; rw [hn0]))
  have HLEN : Hid (∀ t ∈ d.things.tables, t.ids.length = t.rows.length) := Lib.hid (fun t ht => (gd.things.1 t ht).2.1)
  have hmx : d.things.tables.length ≤ 9223372036854775807 := by have := hT.max; unfold maxLen at this; omega
  clear ev hT h1 h2 gd hn0
  go_enter Tryz.func26, Tryz.ntmps26
  go_upto_region 1 with (fail)
  refine wp_called (fun ws hws => ?_)
  have b1 : Blk ws w.heap.size 33 (worldC (.slice a d.things.tables.length c) d) := by rw [hws]; exact (Blk.new_at rfl).alloc _
  have b2 : Blk ws (w.heap.size + 1) 33 (worldC (.slice a' d.things.tables.length c') d) := by rw [hws]; exact Blk.new_at (by simp)
  have KS : Below w.heap.size w ws := by rw [hws]; exact (by repeat first | with_reducible assumption | with_reducible exact Below.refl _ _ | with_reducible apply Below.drew | with_reducible apply below_drewN | with_reducible apply Below.alloc (hB := (by first | omega | (simp; done) | (simp; omega))) | with_reducible apply Below.setCell (hp := (by first | omega | (simp; done) | (simp; omega))))
  have HB1 := Lib.hid b1
  have HB2 := Lib.hid b2
  have HKS := Lib.hid KS
  have ks := KS.size
  have lb1 := b1.lt
  have lb2 := b2.lt
  have SB := Lib.hid (fun W (hb : Below ws.heap.size ws W) => show W.cell? ⟨w.heap.size, 0, none⟩ = some (.slice a d.things.tables.length c) ∧ W.cell? ⟨w.heap.size, 1, none⟩ = some (.int .i64 d.things.next) ∧ W.cell? ⟨w.heap.size, 2, none⟩ = some (.int .i64 d.fall) ∧ W.cell? ⟨w.heap.size, 3, none⟩ = some (.int .i64 d.wide) ∧ W.cell? ⟨w.heap.size, 4, none⟩ = some (.int .i64 d.high) ∧ W.cell? ⟨w.heap.size + 1, 0, none⟩ = some (.slice a' d.things.tables.length c') ∧ W.cell? ⟨w.heap.size + 1, 1, none⟩ = some (.int .i64 d.things.next) ∧ W.cell? ⟨w.heap.size + 1, 2, none⟩ = some (.int .i64 d.fall) ∧ W.cell? ⟨w.heap.size + 1, 3, none⟩ = some (.int .i64 d.wide) ∧ W.cell? ⟨w.heap.size + 1, 4, none⟩ = some (.int .i64 d.high) from by
    have x1 := HB1.out.below hb HB1.out.lt
    have x2 := HB2.out.below hb HB2.out.lt
    exact ⟨x1.cell 0, x1.cell 1, x1.cell 2, x1.cell 3, x1.cell 4, x2.cell 0, x2.cell 1, x2.cell 2, x2.cell 3, x2.cell 4⟩)
  have HSA := Lib.hid (fun U (hb : Below ws.heap.size ws U) => show Calls Tryz.prog 52 #[.agg #[.slice a d.things.tables.length c, .int .i64 d.things.next]] U fun e w' => e = .returned (.int .i64 (n0 : Int)) ∧ Below U.heap.size U w' from by
    have k := size_calls (H1.out.below (HKS.out.trans (hb.mono ks)))
    rw [HZ1.out] at k
    exact k)
  have HSB := Lib.hid (fun U (hb : Below ws.heap.size ws U) => show Calls Tryz.prog 52 #[.agg #[.slice a' d.things.tables.length c', .int .i64 d.things.next]] U fun e w' => e = .returned (.int .i64 (n0 : Int)) ∧ Below U.heap.size U w' from by
    have k := size_calls (H2.out.below (HKS.out.trans (hb.mono ks)))
    rw [HZ1.out] at k
    exact k)
  clear hws b1 b2 KS
  go_cut [51] (fun b W => b = .bool false ∧ Below ws.heap.size ws W)
  case first =>
    obtain ⟨x0, x1, x2, x3, x4, y0, y1, y2, y3, y4⟩ := SB.out ws (Below.refl _ _)
    go_region_held3 (fun W => W.cell? ⟨w.heap.size, 0, none⟩ = some (.slice a d.things.tables.length c) ∧ W.cell? ⟨w.heap.size, 1, none⟩ = some (.int .i64 d.things.next) ∧ W.cell? ⟨w.heap.size, 2, none⟩ = some (.int .i64 d.fall) ∧ W.cell? ⟨w.heap.size, 3, none⟩ = some (.int .i64 d.wide) ∧ W.cell? ⟨w.heap.size, 4, none⟩ = some (.int .i64 d.high) ∧ W.cell? ⟨w.heap.size + 1, 0, none⟩ = some (.slice a' d.things.tables.length c') ∧ W.cell? ⟨w.heap.size + 1, 1, none⟩ = some (.int .i64 d.things.next) ∧ W.cell? ⟨w.heap.size + 1, 2, none⟩ = some (.int .i64 d.fall) ∧ W.cell? ⟨w.heap.size + 1, 3, none⟩ = some (.int .i64 d.wide) ∧ W.cell? ⟨w.heap.size + 1, 4, none⟩ = some (.int .i64 d.high)) (exact SB.out _ (by repeat first | with_reducible exact Below.refl _ _ | with_reducible apply Below.drew | with_reducible refine Below.trans ?_ (Below.mono (B' := ws.heap.size) hb9 (by first | omega | (simp; done) | (simp; omega))) | with_reducible refine Below.trans ?_ (Below.mono (B' := ws.heap.size) hb8 (by first | omega | (simp; done) | (simp; omega))))) (first | (go_at_call_of 52 a'; with_reducible refine (HSB.out _ (by repeat first | with_reducible exact Below.refl _ _ | with_reducible apply Below.drew | with_reducible refine Below.trans ?_ (Below.mono (B' := ws.heap.size) hb9 (by first | omega | (simp; done) | (simp; omega))) | with_reducible refine Below.trans ?_ (Below.mono (B' := ws.heap.size) hb8 (by first | omega | (simp; done) | (simp; omega))))).mono ?_; rintro e w9 ⟨rfl, hb9⟩; have hz9 := hb9.size; (try simp at hz9)) | (go_at_call_of 52 a; with_reducible refine (HSA.out _ (by repeat first | with_reducible exact Below.refl _ _ | with_reducible apply Below.drew | with_reducible refine Below.trans ?_ (Below.mono (B' := ws.heap.size) hb9 (by first | omega | (simp; done) | (simp; omega))) | with_reducible refine Below.trans ?_ (Below.mono (B' := ws.heap.size) hb8 (by first | omega | (simp; done) | (simp; omega))))).mono ?_; rintro e w8 ⟨rfl, hb8⟩; have hz8 := hb8.size; (try simp at hz8)))
    all_goals
      go_wp2_with fail
      go_meet
      exact ⟨rfl, (by repeat first | with_reducible exact Below.refl _ _ | with_reducible apply Below.drew | with_reducible refine Below.trans ?_ (Below.mono (B' := ws.heap.size) hb9 (by first | omega | (simp; done) | (simp; omega))) | with_reducible refine Below.trans ?_ (Below.mono (B' := ws.heap.size) hb8 (by first | omega | (simp; done) | (simp; omega))))⟩
  case rest =>
    obtain ⟨rfl, hB⟩ := hcut
    obtain ⟨wf, hwf⟩ : ∃ wf, wf = wc := ⟨_, rfl⟩
    subst hwf
    have HBF := Lib.hid hB
    have kf := hB.size
    obtain ⟨x0, x1, x2, x3, x4, y0, y1, y2, y3, y4⟩ := SB.out _ hB
    clear hB
    go_wp2_with fail
    clear x0 x1 x2 x3 x4 y0 y1 y2 y3 y4
    go_loopg [56] d.things.tables.length (fun g i wr => ∃ n : Nat, n ≤ d.things.tables.length ∧ i = .int .i64 n ∧ g = d.things.tables.length - n ∧ Below wf.heap.size wf wr)
    case atStart => exact ⟨0, Nat.zero_le _, rfl, rfl, Below.refl _ _⟩
    case round =>
      obtain ⟨wo, hwo⟩ : ∃ wo, wo = wr := ⟨_, rfl⟩
      subst hwo
      obtain ⟨n, hn, rfl, hk, hb⟩ := hrel
      have HB := Lib.hid hb
      have HK := Lib.hid hk
      have ko := hb.size
      have KSO : Below ws.heap.size ws wo := HBF.out.trans (hb.mono kf)
      have KO : Below w.heap.size w wo := HKS.out.trans (KSO.mono ks)
      clear hk hb
      rcases Nat.lt_or_ge n d.things.tables.length with hlt | hge
      · obtain ⟨t, ht⟩ : ∃ t, d.things.tables[n]? = some t := ⟨_, List.getElem?_eq_getElem hlt⟩
        obtain ⟨b, o, cap', ai, cpi, ar, cpr, e, hlo, hp, c0, c1', c2, hi1, hi2⟩ := (HT.out.below KO).at2 ht
        obtain ⟨rfl, rfl⟩ : a = some ⟨b, o, none⟩ ∧ c = cap' := by simpa using e
        have HII := Lib.hid hi1
        have htm := List.mem_of_getElem? ht
        have HTM := Lib.hid htm
        have hil : t.ids.length ≤ 9223372036854775807 := by have := hi1.max; unfold maxLen at this; omega
        have hlr := HLEN.out t htm
        have HLR := Lib.hid hlr
        clear e hlo hp hi1 hi2 ht htm hlr
        go_wp2_with fail
        obtain ⟨wl, hwl⟩ : ∃ wl, wl = wo.alloc (.cells #[.int .i64 t.mask, .slice ai t.ids.length cpi, .slice ar t.rows.length cpr] 80) := ⟨_, rfl⟩
        rw [← hwl]
        have HKL : Hid (Below wo.heap.size wo wl) := Lib.hid (by rw [hwl]; exact (by repeat first | with_reducible assumption | with_reducible exact Below.refl _ _ | with_reducible apply Below.drew | with_reducible apply below_drewN | with_reducible apply Below.alloc (hB := (by first | omega | (simp; done) | (simp; omega))) | with_reducible apply Below.setCell (hp := (by first | omega | (simp; done) | (simp; omega)))))
        clear hwl c0 c1' c2
        have kl := HKL.out.size
        go_loopg [63] t.ids.length (fun g i wr => ∃ k : Nat, k ≤ t.ids.length ∧ i = .int .i64 k ∧ g = t.ids.length - k ∧ Below wl.heap.size wl wr)
        case atStart => exact ⟨0, Nat.zero_le _, rfl, rfl, Below.refl _ _⟩
        case round =>
          obtain ⟨wq, hwq⟩ : ∃ wq, wq = wr := ⟨_, rfl⟩
          subst hwq
          obtain ⟨k, hk, rfl, hgk, hbq⟩ := hrel
          have HBQ := Lib.hid hbq
          have HKK := Lib.hid hgk
          have kq := hbq.size
          have KOQ : Below wo.heap.size wo wq := HKL.out.trans (hbq.mono kl)
          have KSQ : Below ws.heap.size ws wq := KSO.trans (KOQ.mono KSO.size)
          have KWQ : Below w.heap.size w wq := KO.trans (KOQ.mono KO.size)
          have kwq := KWQ.size
          have ksq := KSQ.size
          clear hgk hbq
          rcases Nat.lt_or_ge k t.ids.length with hlt2 | hge2
          · obtain ⟨id, hid⟩ : ∃ id, t.ids[k]? = some id := ⟨_, List.getElem?_eq_getElem hlt2⟩
            obtain ⟨q, hr⟩ : ∃ r, t.rows[k]? = some r := ⟨_, List.getElem?_eq_getElem (by rw [← HLR.out]; exact hlt2)⟩
            have HG : Hid (M.get d.things id = (t.mask, q, true)) := Lib.hid (M.get_entry GD.out HTM.out hid hr)
            obtain ⟨b1, o1, cp1, ei, _, i0⟩ := (HII.out.below KOQ).at hid
            simp only [Value.slice.injEq, true_and] at ei
            obtain ⟨rfl, rfl⟩ := ei
            have HGA := Lib.hid (fun U (hb : Below wq.heap.size wq U) => get_calls (H1.out.below (KWQ.trans (hb.mono kwq))) id)
            have HGB := Lib.hid (fun U (hb : Below wq.heap.size wq U) => get_calls (H2.out.below (KWQ.trans (hb.mono kwq))) id)
            rw [HG.out] at HGA HGB
            simp only at HGA HGB
            have SBQ := Lib.hid (fun W (hb : Below wq.heap.size wq W) => SB.out W (KSQ.trans (hb.mono ksq)))
            obtain ⟨x0, x1, x2, x3, x4, y0, y1, y2, y3, y4⟩ := SBQ.out wq (Below.refl _ _)
            have lx := cell_lt x0
            have ly := cell_lt y0
            have NX := rowNe_same q
            clear hid hr
            go_wp2_with (first | (go_at_call_of 28 a'; go_loud (refine (HGB.out _ (by repeat first | with_reducible assumption | with_reducible exact Below.refl _ _ | with_reducible apply Below.drew | with_reducible apply below_drewN | with_reducible apply Below.alloc (hB := (by first | omega | (simp; done) | (simp; omega))) | with_reducible apply Below.setCell (hp := (by first | omega | (simp; done) | (simp; omega))))).mono ?_; rintro e w7 ⟨rfl, hb7⟩; have K7 : Below wq.heap.size wq w7 := (show Below wq.heap.size wq _ from (by repeat first | with_reducible assumption | with_reducible exact Below.refl _ _ | with_reducible apply Below.drew | with_reducible apply below_drewN | with_reducible apply Below.alloc (hB := (by first | omega | (simp; done) | (simp; omega))) | with_reducible apply Below.setCell (hp := (by first | omega | (simp; done) | (simp; omega))))).trans (hb7.mono (by first | omega | (simp; done) | (simp; omega))); have kz7 := K7.size; have hz7 := hb7.size; (try simp at hz7); have bq7 : Blk w7 w6.heap.size 23 (rowC q) := (by apply blk_to; (repeat first | with_reducible apply Blk.below (hb := hb7) (hg := (by first | omega | (simp; done) | (simp; omega))) | with_reducible apply Blk.put | with_reducible apply Blk.drew | with_reducible exact Blk.new_at (h := (by first | rfl | (simp; done) | omega)) | with_reducible apply Blk.alloc); rfl); obtain ⟨z0, z1, z2, z3, z4, z5, z6, z7⟩ := row_at bq7; have lq7 := bq7.lt; have n67 : ¬ w6.heap.size = w7.heap.size := (by omega); have n76 : ¬ w7.heap.size = w6.heap.size := (by omega))) | (go_at_call 28; go_loud (refine (HGA.out _ (by repeat first | with_reducible assumption | with_reducible exact Below.refl _ _ | with_reducible apply Below.drew | with_reducible apply below_drewN | with_reducible apply Below.alloc (hB := (by first | omega | (simp; done) | (simp; omega))) | with_reducible apply Below.setCell (hp := (by first | omega | (simp; done) | (simp; omega))))).mono ?_; rintro e w6 ⟨rfl, hb6⟩; have K6 : Below wq.heap.size wq w6 := (show Below wq.heap.size wq _ from (by repeat first | with_reducible assumption | with_reducible exact Below.refl _ _ | with_reducible apply Below.drew | with_reducible apply below_drewN | with_reducible apply Below.alloc (hB := (by first | omega | (simp; done) | (simp; omega))) | with_reducible apply Below.setCell (hp := (by first | omega | (simp; done) | (simp; omega))))).trans (hb6.mono (by first | omega | (simp; done) | (simp; omega))); have kz6 := K6.size; have hz6 := hb6.size; (try simp at hz6); obtain ⟨v0, v1, v2, v3, v4, v5, v6, v7, v8, v9⟩ := SBQ.out _ K6; have l6a := cell_lt v0; have l6b := cell_lt v5; have n6a : ¬ w.heap.size = w6.heap.size := (by omega); have n6b : ¬ w.heap.size + 1 = w6.heap.size := (by omega))))
            go_roundg (t.ids.length - (k + 1))
            case measure => rw [HKK.out]; omega
            case rel => exact ⟨k + 1, by omega, by go_num, rfl, HBQ.out.trans ((show Below wq.heap.size wq _ from (by repeat first | with_reducible assumption | with_reducible exact Below.refl _ _ | with_reducible apply Below.drew | with_reducible apply below_drewN | with_reducible apply Below.alloc (hB := (by first | omega | (simp; done) | (simp; omega))) | with_reducible apply Below.setCell (hp := (by first | omega | (simp; done) | (simp; omega))))).mono kq)⟩
          · obtain rfl : k = t.ids.length := by omega
            go_wp2_with fail
            go_roundg (d.things.tables.length - (n + 1))
            case measure => rw [HK.out]; omega
            case rel => exact ⟨n + 1, by omega, by go_num, rfl, HB.out.trans (KOQ.mono ko)⟩
      · obtain rfl : n = d.things.tables.length := by omega
        have q9 : decide ((d.things.tables.length : Int) < (d.things.tables.length : Int)) = false := decide_eq_false (by omega)
        go_wp2_with fail
        go_ret
        exact ⟨rfl, KO⟩
end Go.Proofs.YtkpecagkpjabdacGreat
