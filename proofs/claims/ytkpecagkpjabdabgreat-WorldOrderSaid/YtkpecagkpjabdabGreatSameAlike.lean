/- The contract of sameThings of the statements, at two stores that hold the same. Condition: both lie in memory, and they are good. -/
import Derived.Test.YtkpecagkpjabdabGreatStoreFind
import Derived.Test.YtkpecagkpjabdabGreatBagW
import Derived.Test.YtkpecagkpjabdabGreatBagP
import Derived.Test.YtkpecagkpjabdabGreatBagT2
import Derived.Test.YtkpecagkpjabdabGreatBagG
import Derived.Deep.RegionHeld3
import Derived.Deep.LoopGhost
namespace Go.Proofs.YtkpecagkpjabdabGreat
open Go.RowKit
set_option linter.unusedVariables false
set_option linter.unusedSimpArgs false
set_option maxRecDepth 100000
theorem M.Alike.size {s u : M.Store} (h : M.Alike s u) : M.size s = M.size u := by
  have e8 : ((M.entries s).map (fun e : M.Entry => e.1)).length = (M.entries s).length := List.length_map ..
  have e9 : ((M.entries u).map (fun e : M.Entry => e.1)).length = (M.entries u).length := List.length_map ..
  rw [h.gs.size, h.gt.size, ← e8, ← e9]
  refine List.Perm.length_eq ((List.perm_ext_iff_of_nodup h.gs.nodup h.gt.nodup).2 (fun id => ?_))
  have e1 := @M.look_none (M.entries s) id
  have e2 := @M.look_none (M.entries u) id
  have e := h.at_ id
  unfold M.at_ at e
  rw [e] at e1
  exact ⟨fun m => Decidable.byContradiction (fun n => absurd m (e1.1 (e2.2 n))), fun m => Decidable.byContradiction (fun n => absurd m (e2.1 (e1.2 n)))⟩
theorem M.get_entry' {s : M.Store} (g : M.GoodS s) {t : M.Table} (ht : t ∈ s.tables) {k : Nat} {id : Int} {r : M.Row} (h1 : t.ids[k]? = some id) (h2 : t.rows[k]? = some r) : M.get s id = (t.mask, r, true) := by
  rw [M.get_at g, M.entry_at g (M.entry_in ht h1 h2)]
  rfl
theorem rowNe_same' (a : M.Row) (w : World) : (binOp .neq 27 (rowV a) (rowV a)).run Tryz.prog w = .ok (.bool false) w := by
  have hS : Tryz.prog.underlying 27 = some (.struct (Tryz.prog.fieldsOf 27)) := by kernel_rfl
  have hp : Tryz.prog.stoodInHeld 27 = false := by kernel_rfl
  obtain ⟨a0, a1, a2, a3, a4, a5, a6, a7⟩ := a
  rw [run_neq_struct, show (10000 : Nat) = 9999 + 1 from rfl, run_equalIn_agg w 9999 27 _ _ hS hp]
  simp only [Program.fieldsOf, Tryz.underlying27]
  go_simp
set_option maxHeartbeats 8000000 in
set_option maxRecDepth 100000 in
theorem sameThings_alike {w : World} {a a' : Option Addr} {c c' : Nat} {s u : M.Store} (h1 : StoreAt w 0 (stV a c s) s) (h2 : StoreAt w 0 (stV a' c' u) u) (hal : M.Alike s u) :
    Calls Tryz.prog 31 #[stV a c s, stV a' c' u] w fun e w' => e = .returned (.bool true) ∧ Below w.heap.size w w' := by
  obtain ⟨vt, ev, hs, hT⟩ := id h1
  obtain rfl : vt = .slice a s.tables.length c := by simpa using ev.symm
  have HT := Lib.hid hT
  have H1 := Lib.hid h1
  have H2 := Lib.hid h2
  have AL := Lib.hid hal
  have gd := hal.gs
  have hun := hal.next
  obtain ⟨n0, hn0⟩ : ∃ n : Nat, M.size s = n := ⟨_, rfl⟩
  have h10 : n0 ≤ 10 := by rw [← hn0]; exact gd.2.2.2.1
  have HZ1 : Hid (M.sizeW s.tables = (n0 : Int)) := Lib.hid ((M.sizeW_eq _ (by show M.size s ≤ _; omega)).trans (by show ((M.size s : Nat) : Int) = _; rw [hn0]))
  have HLEN : Hid (∀ t ∈ s.tables, t.ids.length = t.rows.length) := Lib.hid (fun t ht => (gd.1 t ht).2.1)
  have hmx : s.tables.length ≤ 9223372036854775807 := by have := hT.max; unfold maxLen at this; omega
  have hn1 : M.size u = n0 := by rw [← hal.size]; exact hn0
  have HZ2 : Hid (M.sizeW u.tables = (n0 : Int)) := Lib.hid ((M.sizeW_eq _ (by show M.size u ≤ _; omega)).trans (by show ((M.size u : Nat) : Int) = _; rw [hn1]))
  clear ev hT h1 h2 gd hn0 hn1 hal
  have HUN := Lib.hid hun
  show Calls Tryz.prog 31 #[.agg #[.slice a s.tables.length c, .int .i64 s.next], .agg #[.slice a' u.tables.length c', .int .i64 u.next]] w _
  rw [← hun]
  clear hun
  go_enter Tryz.func31, Tryz.ntmps31
  go_upto_region 1 with (fail)
  refine wp_called (fun ws hws => ?_)
  have b1 : Blk ws w.heap.size 39 #[.slice a s.tables.length c, .int .i64 s.next] := by rw [hws]; exact (Blk.new_at rfl).alloc _
  have b2 : Blk ws (w.heap.size + 1) 39 #[.slice a' u.tables.length c', .int .i64 s.next] := by rw [hws]; exact Blk.new_at (by simp)
  have KS : Below w.heap.size w ws := by rw [hws]; exact (by repeat first | with_reducible assumption | with_reducible exact Below.refl _ _ | with_reducible apply Below.drew | with_reducible apply below_drewN | with_reducible apply Below.alloc (hB := (by first | omega | (simp; done) | (simp; omega))) | with_reducible apply Below.setCell (hp := (by first | omega | (simp; done) | (simp; omega))))
  have HB1 := Lib.hid b1
  have HB2 := Lib.hid b2
  have HKS := Lib.hid KS
  have ks := KS.size
  have lb1 := b1.lt
  have lb2 := b2.lt
  have SB := Lib.hid (fun W (hb : Below ws.heap.size ws W) => show W.cell? ⟨w.heap.size, 0, none⟩ = some (.slice a s.tables.length c) ∧ W.cell? ⟨w.heap.size, 1, none⟩ = some (.int .i64 s.next) ∧ W.cell? ⟨w.heap.size + 1, 0, none⟩ = some (.slice a' u.tables.length c') ∧ W.cell? ⟨w.heap.size + 1, 1, none⟩ = some (.int .i64 s.next) from by
    have x1 := HB1.out.below hb HB1.out.lt
    have x2 := HB2.out.below hb HB2.out.lt
    exact ⟨x1.cell 0, x1.cell 1, x2.cell 0, x2.cell 1⟩)
  have HSA := Lib.hid (fun U (hb : Below ws.heap.size ws U) => show Calls Tryz.prog 32 #[.agg #[.slice a s.tables.length c, .int .i64 s.next]] U fun e w' => e = .returned (.int .i64 (n0 : Int)) ∧ Below U.heap.size U w' from by
    have k := size_calls (H1.out.below (HKS.out.trans (hb.mono ks)))
    rw [HZ1.out] at k
    exact k)
  have HSB := Lib.hid (fun U (hb : Below ws.heap.size ws U) => show Calls Tryz.prog 32 #[.agg #[.slice a' u.tables.length c', .int .i64 s.next]] U fun e w' => e = .returned (.int .i64 (n0 : Int)) ∧ Below U.heap.size U w' from by
    have k := size_calls (H2.out.below (HKS.out.trans (hb.mono ks)))
    rw [HZ2.out] at k
    rw [HUN.out]
    exact k)
  clear hws b1 b2 KS
  go_cut [26] (fun b W => b = .bool false ∧ Below ws.heap.size ws W)
  case first =>
    obtain ⟨x0, x1, y0, y1⟩ := SB.out ws (Below.refl _ _)
    go_region_held3 (fun W => W.cell? ⟨w.heap.size, 0, none⟩ = some (.slice a s.tables.length c) ∧ W.cell? ⟨w.heap.size, 1, none⟩ = some (.int .i64 s.next) ∧ W.cell? ⟨w.heap.size + 1, 0, none⟩ = some (.slice a' u.tables.length c') ∧ W.cell? ⟨w.heap.size + 1, 1, none⟩ = some (.int .i64 s.next)) (exact SB.out _ (by repeat first | with_reducible exact Below.refl _ _ | with_reducible apply Below.drew | with_reducible refine Below.trans ?_ (Below.mono (B' := ws.heap.size) hb9 (by first | omega | (simp; done) | (simp; omega))) | with_reducible refine Below.trans ?_ (Below.mono (B' := ws.heap.size) hb8 (by first | omega | (simp; done) | (simp; omega))))) (first | (go_at_call_of 32 a'; with_reducible refine (HSB.out _ (by repeat first | with_reducible exact Below.refl _ _ | with_reducible apply Below.drew | with_reducible refine Below.trans ?_ (Below.mono (B' := ws.heap.size) hb9 (by first | omega | (simp; done) | (simp; omega))) | with_reducible refine Below.trans ?_ (Below.mono (B' := ws.heap.size) hb8 (by first | omega | (simp; done) | (simp; omega))))).mono ?_; rintro e w9 ⟨rfl, hb9⟩; have hz9 := hb9.size; (try simp at hz9)) | (go_at_call_of 32 a; with_reducible refine (HSA.out _ (by repeat first | with_reducible exact Below.refl _ _ | with_reducible apply Below.drew | with_reducible refine Below.trans ?_ (Below.mono (B' := ws.heap.size) hb9 (by first | omega | (simp; done) | (simp; omega))) | with_reducible refine Below.trans ?_ (Below.mono (B' := ws.heap.size) hb8 (by first | omega | (simp; done) | (simp; omega))))).mono ?_; rintro e w8 ⟨rfl, hb8⟩; have hz8 := hb8.size; (try simp at hz8)))
    all_goals
      go_wp2_with fail
      go_meet
      exact ⟨rfl, (by repeat first | with_reducible exact Below.refl _ _ | with_reducible apply Below.drew | with_reducible refine Below.trans ?_ (Below.mono (B' := ws.heap.size) hb9 (by first | omega | (simp; done) | (simp; omega))) | with_reducible refine Below.trans ?_ (Below.mono (B' := ws.heap.size) hb8 (by first | omega | (simp; done) | (simp; omega))))⟩
  case rest =>
    obtain ⟨rfl, hB⟩ := hcut
    obtain ⟨wf, hwf⟩ : ∃ wf, wf = wc := ⟨_, rfl⟩
    subst hwf
    have HBF := Lib.hid hB
    have kf := hB.size
    obtain ⟨x0, x1, y0, y1⟩ := SB.out _ hB
    clear hB
    go_wp2_with fail
    clear x0 x1 y0 y1
    go_loopg [30] s.tables.length (fun g i wr => ∃ n : Nat, n ≤ s.tables.length ∧ i = .int .i64 n ∧ g = s.tables.length - n ∧ Below wf.heap.size wf wr)
    case atStart => exact ⟨0, Nat.zero_le _, rfl, rfl, Below.refl _ _⟩
    case round =>
      obtain ⟨wo, hwo⟩ : ∃ wo, wo = wr := ⟨_, rfl⟩
      subst hwo
      obtain ⟨n, hn, rfl, hk, hb⟩ := hrel
      have HB := Lib.hid hb
      have HK := Lib.hid hk
      have ko := hb.size
      have KSO : Below ws.heap.size ws wo := HBF.out.trans (hb.mono kf)
      have KO : Below w.heap.size w wo := HKS.out.trans (KSO.mono ks)
      clear hk hb
      rcases Nat.lt_or_ge n s.tables.length with hlt | hge
      · obtain ⟨t, ht⟩ : ∃ t, s.tables[n]? = some t := ⟨_, List.getElem?_eq_getElem hlt⟩
        obtain ⟨b, o, cap', ai, cpi, ar, cpr, e, hlo, hp, c0, c1', c2, hi1, hi2⟩ := (HT.out.below KO).at2 ht
        obtain ⟨rfl, rfl⟩ : a = some ⟨b, o, none⟩ ∧ c = cap' := by simpa using e
        have HII := Lib.hid hi1
        have htm := List.mem_of_getElem? ht
        have HTM := Lib.hid htm
        have hil : t.ids.length ≤ 9223372036854775807 := by have := hi1.max; unfold maxLen at this; omega
        have hlr := HLEN.out t htm
        have HLR := Lib.hid hlr
        clear e hlo hp hi1 hi2 ht htm hlr
        go_wp2_with fail
        obtain ⟨wl, hwl⟩ : ∃ wl, wl = wo.alloc (.cells #[.int .i64 t.mask, .slice ai t.ids.length cpi, .slice ar t.rows.length cpr] 74) := ⟨_, rfl⟩
        rw [← hwl]
        have HKL : Hid (Below wo.heap.size wo wl) := Lib.hid (by rw [hwl]; exact (by repeat first | with_reducible assumption | with_reducible exact Below.refl _ _ | with_reducible apply Below.drew | with_reducible apply below_drewN | with_reducible apply Below.alloc (hB := (by first | omega | (simp; done) | (simp; omega))) | with_reducible apply Below.setCell (hp := (by first | omega | (simp; done) | (simp; omega)))))
        clear hwl c0 c1' c2
        have kl := HKL.out.size
        go_loopg [37] t.ids.length (fun g i wr => ∃ k : Nat, k ≤ t.ids.length ∧ i = .int .i64 k ∧ g = t.ids.length - k ∧ Below wl.heap.size wl wr)
        case atStart => exact ⟨0, Nat.zero_le _, rfl, rfl, Below.refl _ _⟩
        case round =>
          obtain ⟨wq, hwq⟩ : ∃ wq, wq = wr := ⟨_, rfl⟩
          subst hwq
          obtain ⟨k, hk, rfl, hgk, hbq⟩ := hrel
          have HBQ := Lib.hid hbq
          have HKK := Lib.hid hgk
          have kq := hbq.size
          have KOQ : Below wo.heap.size wo wq := HKL.out.trans (hbq.mono kl)
          have KSQ : Below ws.heap.size ws wq := KSO.trans (KOQ.mono KSO.size)
          have KWQ : Below w.heap.size w wq := KO.trans (KOQ.mono KO.size)
          have kwq := KWQ.size
          have ksq := KSQ.size
          clear hgk hbq
          rcases Nat.lt_or_ge k t.ids.length with hlt2 | hge2
          · obtain ⟨id, hid⟩ : ∃ id, t.ids[k]? = some id := ⟨_, List.getElem?_eq_getElem hlt2⟩
            obtain ⟨q, hr⟩ : ∃ r, t.rows[k]? = some r := ⟨_, List.getElem?_eq_getElem (by rw [← HLR.out]; exact hlt2)⟩
            have HG : Hid (M.get s id = (t.mask, q, true)) := Lib.hid (M.get_entry' AL.out.gs HTM.out hid hr)
            have HG2 : Hid (M.get u id = (t.mask, q, true)) := Lib.hid ((AL.out.get id).symm.trans HG.out)
            obtain ⟨b1, o1, cp1, ei, _, i0⟩ := (HII.out.below KOQ).at hid
            simp only [Value.slice.injEq, true_and] at ei
            obtain ⟨rfl, rfl⟩ := ei
            have HGA := Lib.hid (fun U (hb : Below wq.heap.size wq U) => get_calls (H1.out.below (KWQ.trans (hb.mono kwq))) id)
            have HGB := Lib.hid (fun U (hb : Below wq.heap.size wq U) => show Calls Tryz.prog 13 #[.agg #[.slice a' u.tables.length c', .int .i64 s.next], .int .i64 id] U fun e w' => e = .returned (.tuple #[.int .i64 t.mask, rowV q, .bool true]) ∧ Below U.heap.size U w' from by
              have k := get_calls (H2.out.below (KWQ.trans (hb.mono kwq))) id
              rw [HG2.out] at k
              rw [HUN.out]
              exact k)
            rw [HG.out] at HGA
            simp only at HGA
            have SBQ := Lib.hid (fun W (hb : Below wq.heap.size wq W) => SB.out W (KSQ.trans (hb.mono ksq)))
            obtain ⟨x0, x1, y0, y1⟩ := SBQ.out wq (Below.refl _ _)
            have lx := cell_lt x0
            have ly := cell_lt y0
            have NX := rowNe_same' q
            clear hid hr
            go_wp2_with (first | (go_at_call_of 13 a'; go_loud (refine (HGB.out _ (by repeat first | with_reducible assumption | with_reducible exact Below.refl _ _ | with_reducible apply Below.drew | with_reducible apply below_drewN | with_reducible apply Below.alloc (hB := (by first | omega | (simp; done) | (simp; omega))) | with_reducible apply Below.setCell (hp := (by first | omega | (simp; done) | (simp; omega))))).mono ?_; rintro e w7 ⟨rfl, hb7⟩; have K7 : Below wq.heap.size wq w7 := (show Below wq.heap.size wq _ from (by repeat first | with_reducible assumption | with_reducible exact Below.refl _ _ | with_reducible apply Below.drew | with_reducible apply below_drewN | with_reducible apply Below.alloc (hB := (by first | omega | (simp; done) | (simp; omega))) | with_reducible apply Below.setCell (hp := (by first | omega | (simp; done) | (simp; omega))))).trans (hb7.mono (by first | omega | (simp; done) | (simp; omega))); have kz7 := K7.size; have hz7 := hb7.size; (try simp at hz7); have bq7 : Blk w7 w6.heap.size 27 (rowC q) := (by apply blk_to; (repeat first | with_reducible apply Blk.below (hb := hb7) (hg := (by first | omega | (simp; done) | (simp; omega))) | with_reducible apply Blk.put | with_reducible apply Blk.drew | with_reducible exact Blk.new_at (h := (by first | rfl | (simp; done) | omega)) | with_reducible apply Blk.alloc); rfl); obtain ⟨z0, z1, z2, z3, z4, z5, z6, z7⟩ := row_at bq7; have lq7 := bq7.lt; have n67 : ¬ w6.heap.size = w7.heap.size := (by omega); have n76 : ¬ w7.heap.size = w6.heap.size := (by omega))) | (go_at_call 13; go_loud (refine (HGA.out _ (by repeat first | with_reducible assumption | with_reducible exact Below.refl _ _ | with_reducible apply Below.drew | with_reducible apply below_drewN | with_reducible apply Below.alloc (hB := (by first | omega | (simp; done) | (simp; omega))) | with_reducible apply Below.setCell (hp := (by first | omega | (simp; done) | (simp; omega))))).mono ?_; rintro e w6 ⟨rfl, hb6⟩; have K6 : Below wq.heap.size wq w6 := (show Below wq.heap.size wq _ from (by repeat first | with_reducible assumption | with_reducible exact Below.refl _ _ | with_reducible apply Below.drew | with_reducible apply below_drewN | with_reducible apply Below.alloc (hB := (by first | omega | (simp; done) | (simp; omega))) | with_reducible apply Below.setCell (hp := (by first | omega | (simp; done) | (simp; omega))))).trans (hb6.mono (by first | omega | (simp; done) | (simp; omega))); have kz6 := K6.size; have hz6 := hb6.size; (try simp at hz6); obtain ⟨v0, v1, v5, v6⟩ := SBQ.out _ K6; have l6a := cell_lt v0; have l6b := cell_lt v5; have n6a : ¬ w.heap.size = w6.heap.size := (by omega); have n6b : ¬ w.heap.size + 1 = w6.heap.size := (by omega))))
            go_roundg (t.ids.length - (k + 1))
            case measure => rw [HKK.out]; omega
            case rel => exact ⟨k + 1, by omega, by go_num, rfl, HBQ.out.trans ((show Below wq.heap.size wq _ from (by repeat first | with_reducible assumption | with_reducible exact Below.refl _ _ | with_reducible apply Below.drew | with_reducible apply below_drewN | with_reducible apply Below.alloc (hB := (by first | omega | (simp; done) | (simp; omega))) | with_reducible apply Below.setCell (hp := (by first | omega | (simp; done) | (simp; omega))))).mono kq)⟩
          · obtain rfl : k = t.ids.length := by omega
            go_wp2_with fail
            go_roundg (s.tables.length - (n + 1))
            case measure => rw [HK.out]; omega
            case rel => exact ⟨n + 1, by omega, by go_num, rfl, HB.out.trans (KOQ.mono ko)⟩
      · obtain rfl : n = s.tables.length := by omega
        have q9 : decide ((s.tables.length : Int) < (s.tables.length : Int)) = false := decide_eq_false (by omega)
        go_wp2_with fail
        go_ret
        exact ⟨rfl, KO⟩
end Go.Proofs.YtkpecagkpjabdabGreat
