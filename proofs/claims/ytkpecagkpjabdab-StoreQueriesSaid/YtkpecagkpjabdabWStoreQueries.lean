/- The walk of StoreQueries. Condition: the store lies in memory, its numbers are of 64 bits. -/
import Derived.Test.YtkpecagkpjabdabStoreQuery
import Derived.Test.YtkpecagkpjabdabStoreGood
import Derived.Test.YtkpecagkpjabdabStoreRow
import Derived.Test.YtkpecagkpjabdabThings
namespace Go.Proofs.Ytkpecagkpjabdab
open Go.RowKit
set_option linter.unusedVariables false
set_option linter.unusedSimpArgs false
set_option maxRecDepth 100000

set_option maxHeartbeats 4000000 in
theorem storeQueries_walk (s : M.Store) (m : Int) (w : World) {v : Value} (hsi : StoreAt w 0 v s ∧ StoreIn s) (hm : I64 m) :
    Calls Try.prog 6 #[v, .int .i64 m] w fun e w' => e = .returned (.bool true) ∧ Below w.heap.size w w' := by
  obtain ⟨h, hin⟩ := hsi
  have HG := Lib.hid (fun W (hb : Below w.heap.size w W) => storeGood_calls (h.below hb) hin)
  have HST := Lib.hid h
  by_cases hg : M.good s = true
  · have hgs := (M.good_iff s).1 hg
    have HQ := Lib.hid (fun W (hb : Below w.heap.size w W) => query_calls (h.below hb) hgs (bits .and .i64 m 31))
    obtain ⟨mm, hmm⟩ : ∃ x, x = bits .and .i64 m 31 := ⟨_, rfl⟩
    rw [← hmm] at HQ
    obtain ⟨ql, hql⟩ : ∃ l, l = M.query s mm := ⟨_, rfl⟩
    rw [← hql] at HQ
    have HASC : Hid (ql.Pairwise (fun a b => a < b)) := Lib.hid (by rw [hql]; exact M.query_asc hgs mm)
    have HMEM : Hid (∀ id ∈ ql, ∃ n r, M.get s id = (n, r, true) ∧ bits .and .i64 n mm = mm) := Lib.hid (by
      intro id hid
      rw [hql] at hid
      obtain ⟨n, r, hl, hb⟩ := (M.mem_query hgs).1 hid
      exact ⟨n, r, by rw [hgs.get, hl]; rfl, hb⟩)
    have HLEN : Hid (ql.length = (M.selT mm s.tables).length) := Lib.hid (by rw [hql, M.query_eq, List.length_mergeSort])
    have h10 : Hid ((M.idsT s.tables).length ≤ 10) := Lib.hid hgs.2.2.2.1
    have hq10 : ql.length ≤ 10 := by have h1 := HLEN.out; have h2 := M.selT_le mm s.tables; have h3 := h10.out; omega
    rw [hg] at HG
    obtain ⟨vt, rfl, hs, hT⟩ := h
    obtain ⟨a, cap, rfl⟩ := hT.val
    have hmx : s.tables.length ≤ 9223372036854775807 := by have := hT.max; unfold maxLen at this; omega
    have HT := Lib.hid hT
    have HMM := Lib.hid hmm
    clear hT hql hg hgs hin hm hmm
    go_enter Try.func6, Try.ntmps6
    go_upto_region 4 with (go_at_call 9; refine (HG.out _ (by repeat first | with_reducible assumption | with_reducible exact Below.refl _ _ | with_reducible apply Below.drew | with_reducible apply below_drewN | with_reducible apply Below.alloc (hB := (by first | omega | (simp; done) | (simp; omega))) | with_reducible apply Below.setCell (hp := (by first | omega | (simp; done) | (simp; omega))))).mono ?_; rintro e w1 ⟨rfl, hb1⟩; have K1 : Below w.heap.size w w1 := (show Below w.heap.size w _ from (by repeat first | with_reducible assumption | with_reducible exact Below.refl _ _ | with_reducible apply Below.drew | with_reducible apply below_drewN | with_reducible apply Below.alloc (hB := (by first | omega | (simp; done) | (simp; omega))) | with_reducible apply Below.setCell (hp := (by first | omega | (simp; done) | (simp; omega))))).trans (hb1.mono (by first | omega | (simp; done) | (simp; omega))); have kz1 : w.heap.size ≤ w1.heap.size := K1.size; have hz1 := hb1.size; (try simp at hz1); have bs1 : Blk w1 (w.heap.size) 24 (#[.slice a s.tables.length cap, .int .i64 s.next]) := (by apply blk_to; (repeat first | with_reducible apply Blk.below (hb := hb1) (hg := (by first | omega | (simp; done) | (simp; omega))) | with_reducible exact Blk.new_at (h := (by first | rfl | (simp; done) | omega)) | with_reducible apply Blk.drew | with_reducible apply Blk.alloc); rfl); have bsc1 := bs1.cell 0; have bsd1 := bs1.cell 1; simp at bsc1 bsd1; have bsf1 := (fun i => bs1.free i); have bsl1 := bs1.lt)
    rw [← HMM.out]
    go_wp2_with (go_at_call 21; refine (HQ.out _ (by repeat first | with_reducible assumption | with_reducible exact Below.refl _ _ | with_reducible apply Below.drew | with_reducible apply below_drewN | with_reducible apply Below.alloc (hB := (by first | omega | (simp; done) | (simp; omega))) | with_reducible apply Below.setCell (hp := (by first | omega | (simp; done) | (simp; omega))))).mono ?_; rintro e w2 ⟨v2, rfl, ho2, hb2⟩; have K2 : Below w.heap.size w w2 := (show Below w.heap.size w _ from (by repeat first | with_reducible assumption | with_reducible exact Below.refl _ _ | with_reducible apply Below.drew | with_reducible apply below_drewN | with_reducible apply Below.alloc (hB := (by first | omega | (simp; done) | (simp; omega))) | with_reducible apply Below.setCell (hp := (by first | omega | (simp; done) | (simp; omega))))).trans (hb2.mono (by first | omega | (simp; done) | (simp; omega))); have kz2 : w.heap.size ≤ w2.heap.size := K2.size; have hz2 := hb2.size; (try simp at hz2); have bs2 : Blk w2 (w.heap.size) 24 (#[.slice a s.tables.length cap, .int .i64 s.next]) := (by apply blk_to; (repeat first | with_reducible exact bs1 | with_reducible apply Blk.below (hb := hb2) (hg := (by first | omega | (simp; done) | (simp; omega))) | with_reducible exact Blk.new_at (h := (by first | rfl | (simp; done) | omega)) | with_reducible apply Blk.drew | with_reducible apply Blk.alloc); rfl); have bsc2 := bs2.cell 0; have bsd2 := bs2.cell 1; simp at bsc2 bsd2; have bsf2 := (fun i => bs2.free i); have bsl2 := bs2.lt; have L2 := Lies.of_owns ho2; obtain ⟨a2, q2, rfl⟩ : ∃ a c, v2 = .slice a ql.length c := (by obtain ⟨_, _, a, c, e, _⟩ := L2; exact ⟨a, c, e⟩); have HL2 : Hid (IntsAt w2 0 (.slice a2 ql.length q2) ql) := Lib.hid (Lies.mono L2 (Nat.zero_le _)); clear ho2 L2)
    have CS := Lib.hid (fun W (hb : Below w2.heap.size w2 W) => show W.cell? ⟨w.heap.size, 0, none⟩ = some (.slice a s.tables.length cap) ∧ W.cell? ⟨w.heap.size, 1, none⟩ = some (.int .i64 s.next) from ⟨below_cell bsc2 hb, below_cell bsd2 hb⟩)
    have HK2 := Lib.hid K2
    clear bsc1 bsd1 bsc2 bsd2 bsf1 bsf2 K1 K2 hb1 hb2 bs1 bs2
    go_loopg [25] ql.length (fun g i wr => ∃ n : Nat, n ≤ ql.length ∧ i = .int .i64 n ∧ g = ql.length - n ∧ Below w2.heap.size w2 wr)
    case atStart => exact ⟨0, Nat.zero_le _, rfl, rfl, Below.refl _ _⟩
    case round =>
      obtain ⟨wo, hwo⟩ : ∃ wo, wo = wr := ⟨_, rfl⟩
      subst hwo
      obtain ⟨n, hn, rfl, hgk, hb⟩ := hrel
      have HB := Lib.hid hb
      have HK := Lib.hid hgk
      have KO : Below w.heap.size w wo := HK2.out.trans (hb.mono kz2)
      have ko := hb.size
      obtain ⟨cso0, cso1⟩ := CS.out _ hb
      clear hgk
      rcases Nat.lt_or_ge n ql.length with hlt | hge
      · obtain ⟨id, hid⟩ : ∃ id, ql[n]? = some id := ⟨_, List.getElem?_eq_getElem hlt⟩
        obtain ⟨mk, r, hgx, hbit⟩ := HMEM.out id (List.mem_of_getElem? hid)
        have HGX := Lib.hid hgx
        obtain ⟨b1, o1, c1, e1, _, i0⟩ := (HL2.out.below hb).at hid
        obtain ⟨rfl, rfl⟩ : a2 = some ⟨b1, o1, none⟩ ∧ q2 = c1 := by simpa using e1
        have HPC : Hid (∀ p, ql[n - 1]? = some p → ∀ W, Below w2.heap.size w2 W → W.cell? ⟨b1, o1 + (n - 1), none⟩ = some (.int .i64 p)) := Lib.hid (by
          intro p hp W hW
          obtain ⟨b', o', c', e', _, i'⟩ := (HL2.out.below hW).at hp
          simp only [Value.slice.injEq, Option.some.injEq, Addr.mk.injEq, true_and, and_true] at e'
          obtain ⟨⟨rfl, rfl⟩, rfl⟩ := e'
          exact i')
        obtain ⟨p, hp⟩ : ∃ p, ql[n - 1]? = some p := ⟨_, List.getElem?_eq_getElem (by omega)⟩
        have hlt2 : 0 < n → p < id := by
          intro h0
          have h1 := List.pairwise_iff_getElem.1 HASC.out (n - 1) n (by omega) hlt (by omega)
          rw [(List.getElem?_eq_some_iff.1 hp).2, (List.getElem?_eq_some_iff.1 hid).2] at h1
          exact h1
        have HP := Lib.hid hp
        clear e1 hid hgx hp
        rcases Nat.eq_zero_or_pos n with hz | hpos
        · have q0 : decide (0 < n) = false := by rw [hz]; rfl
          have HZ := Lib.hid hz
          clear hz hlt2
          go_wp2_with (go_at_call 16; refine ((get_calls (HST.out.below (show Below w.heap.size w _ from (by repeat first | with_reducible assumption | with_reducible exact Below.refl _ _ | with_reducible apply Below.drew | with_reducible apply below_drewN | with_reducible apply Below.alloc (hB := (by first | omega | (simp; done) | (simp; omega))) | with_reducible apply Below.setCell (hp := (by first | omega | (simp; done) | (simp; omega)))))) id)).mono ?_; rw [HGX.out]; rintro e w3 ⟨rfl, hb3⟩; have K3 : Below w2.heap.size w2 w3 := (show Below w2.heap.size w2 _ from (by repeat first | with_reducible assumption | with_reducible exact Below.refl _ _ | with_reducible apply Below.drew | with_reducible apply below_drewN | with_reducible apply Below.alloc (hB := (by first | omega | (simp; done) | (simp; omega))) | with_reducible apply Below.setCell (hp := (by first | omega | (simp; done) | (simp; omega))))).trans (hb3.mono (by first | omega | (simp; done) | (simp; omega))); have k3 := K3.size; have cs3 := CS.out _ K3; obtain ⟨cs30, cs31⟩ := cs3)
          go_roundg (ql.length - (n + 1))
          case measure => rw [HK.out]; omega
          case rel => exact ⟨n + 1, by omega, by go_num, rfl, (by repeat first | with_reducible assumption | with_reducible exact Below.refl _ _ | with_reducible apply Below.drew | with_reducible apply below_drewN | with_reducible apply Below.alloc (hB := (by first | omega | (simp; done) | (simp; omega))) | with_reducible apply Below.setCell (hp := (by first | omega | (simp; done) | (simp; omega))))⟩
        · have hlt3 := hlt2 hpos
          have q5 : decide (id ≤ p) = false := decide_eq_false (by omega)
          go_wp2_with (go_at_call 16; refine ((get_calls (HST.out.below (show Below w.heap.size w _ from (by repeat first | with_reducible assumption | with_reducible exact Below.refl _ _ | with_reducible apply Below.drew | with_reducible apply below_drewN | with_reducible apply Below.alloc (hB := (by first | omega | (simp; done) | (simp; omega))) | with_reducible apply Below.setCell (hp := (by first | omega | (simp; done) | (simp; omega)))))) id)).mono ?_; rw [HGX.out]; rintro e w3 ⟨rfl, hb3⟩; have K3 : Below w2.heap.size w2 w3 := (show Below w2.heap.size w2 _ from (by repeat first | with_reducible assumption | with_reducible exact Below.refl _ _ | with_reducible apply Below.drew | with_reducible apply below_drewN | with_reducible apply Below.alloc (hB := (by first | omega | (simp; done) | (simp; omega))) | with_reducible apply Below.setCell (hp := (by first | omega | (simp; done) | (simp; omega))))).trans (hb3.mono (by first | omega | (simp; done) | (simp; omega))); have k3 := K3.size; have cs3 := CS.out _ K3; obtain ⟨cs30, cs31⟩ := cs3; have pc3 := HPC.out p HP.out _ K3; have lb3 := cell_lt pc3)
          go_roundg (ql.length - (n + 1))
          case measure => rw [HK.out]; omega
          case rel => exact ⟨n + 1, by omega, by go_num, rfl, (by repeat first | with_reducible assumption | with_reducible exact Below.refl _ _ | with_reducible apply Below.drew | with_reducible apply below_drewN | with_reducible apply Below.alloc (hB := (by first | omega | (simp; done) | (simp; omega))) | with_reducible apply Below.setCell (hp := (by first | omega | (simp; done) | (simp; omega))))⟩
      · obtain rfl : n = ql.length := by omega
        go_wp2_with fail
        go_loopg [6, 63] s.tables.length (fun g c i wr => ∃ k : Nat, k ≤ s.tables.length ∧ i = .int .i64 k ∧ g = s.tables.length - k ∧ c = .int .i64 ((M.selT mm (s.tables.take k)).length : Nat) ∧ Below w2.heap.size w2 wr)
        case atStart => exact ⟨0, Nat.zero_le _, rfl, rfl, rfl, HB.out⟩
        case round =>
          obtain ⟨wp, hwp⟩ : ∃ wp, wp = wr := ⟨_, rfl⟩
          subst hwp
          obtain ⟨k, hk, rfl, hgk, rfl, hb5⟩ := hrel
          have HB5 := Lib.hid hb5
          have HK5 := Lib.hid hgk
          have kp := hb5.size
          have KP : Below w.heap.size w wp := HK2.out.trans (hb5.mono kz2)
          clear hgk
          rcases Nat.lt_or_ge k s.tables.length with hlt | hge
          · obtain ⟨t, ht⟩ : ∃ t, s.tables[k]? = some t := ⟨_, List.getElem?_eq_getElem hlt⟩
            obtain ⟨b, o, cap', a1, cp1, a3, cp3, e, hlo, hp, c0, c1, c2, h1, h2⟩ := (HT.out.below KP).at2 ht
            obtain ⟨rfl, rfl⟩ : a = some ⟨b, o, none⟩ ∧ cap = cap' := by simpa using e
            have HS := Lib.hid (M.selT_step mm ht)
            have hlen := M.selT_len mm ht
            have h11 := h10.out
            have HL : Hid ((M.selT mm (s.tables.take k)).length + t.ids.length ≤ 10) := Lib.hid (by omega)
            clear e hlo hp h1 h2 ht hlen h11
            obtain ⟨z, hz⟩ : ∃ z, (M.selT mm (s.tables.take k)).length = z := ⟨_, rfl⟩
            rw [hz] at HL
            have HZ := Lib.hid hz
            rw [hz]
            clear hz
            have hzl := HL.out
            by_cases hm : bits .and .i64 t.mask mm = mm
            · go_wp2_with fail
              go_roundg (s.tables.length - (k + 1))
              case measure => rw [HK5.out]; omega
              case rel =>
                refine ⟨k + 1, by omega, by go_num, rfl, ?_, HB5.out.alloc (by omega) _⟩
                rw [HS.out, if_pos hm, List.length_append, HZ.out]
                first | rfl | go_num
            · go_wp2_with fail
              go_roundg (s.tables.length - (k + 1))
              case measure => rw [HK5.out]; omega
              case rel =>
                refine ⟨k + 1, by omega, by go_num, rfl, ?_, HB5.out.alloc (by omega) _⟩
                rw [HS.out, if_neg hm, List.append_nil, HZ.out]
          · obtain rfl : k = s.tables.length := by omega
            rw [List.take_length]
            have hle := HLEN.out
            rw [← hle]
            clear hle
            go_wp2_with (go_at_call 10; refine (things_calls _).mono ?_; rintro e w9 ⟨rfl, hb9⟩; have K9 : Below w.heap.size w w9 := (show Below w.heap.size w _ from (by repeat first | with_reducible assumption | with_reducible exact Below.refl _ _ | with_reducible apply Below.drew | with_reducible apply below_drewN | with_reducible apply Below.alloc (hB := (by first | omega | (simp; done) | (simp; omega))) | with_reducible apply Below.setCell (hp := (by first | omega | (simp; done) | (simp; omega))))).trans (hb9.mono (by first | omega | (simp; done) | (simp; omega))))
            go_ret
            exact ⟨rfl, (by repeat first | with_reducible assumption | with_reducible exact Below.refl _ _ | with_reducible apply Below.drew | with_reducible apply below_drewN | with_reducible apply Below.alloc (hB := (by first | omega | (simp; done) | (simp; omega))) | with_reducible apply Below.setCell (hp := (by first | omega | (simp; done) | (simp; omega))))⟩
  · have hg0 : M.good s = false := by simpa using hg
    rw [hg0] at HG
    obtain ⟨vt, rfl, hs, hT⟩ := h
    obtain ⟨a, cap, rfl⟩ := hT.val
    clear hT hg hin hm
    go_enter Try.func6, Try.ntmps6
    go_wp2_with (first | (go_at_call 9; refine (HG.out _ (by repeat first | with_reducible assumption | with_reducible exact Below.refl _ _ | with_reducible apply Below.drew | with_reducible apply below_drewN | with_reducible apply Below.alloc (hB := (by first | omega | (simp; done) | (simp; omega))) | with_reducible apply Below.setCell (hp := (by first | omega | (simp; done) | (simp; omega))))).mono ?_; rintro e w1 ⟨rfl, hb1⟩; have K1 : Below w.heap.size w w1 := (show Below w.heap.size w _ from (by repeat first | with_reducible assumption | with_reducible exact Below.refl _ _ | with_reducible apply Below.drew | with_reducible apply below_drewN | with_reducible apply Below.alloc (hB := (by first | omega | (simp; done) | (simp; omega))) | with_reducible apply Below.setCell (hp := (by first | omega | (simp; done) | (simp; omega))))).trans (hb1.mono (by first | omega | (simp; done) | (simp; omega))); have kz1 : w.heap.size ≤ w1.heap.size := K1.size; have hz1 := hb1.size; (try simp at hz1); have bs1 : Blk w1 (w.heap.size) 24 (#[.slice a s.tables.length cap, .int .i64 s.next]) := (by apply blk_to; (repeat first | with_reducible apply Blk.below (hb := hb1) (hg := (by first | omega | (simp; done) | (simp; omega))) | with_reducible exact Blk.new_at (h := (by first | rfl | (simp; done) | omega)) | with_reducible apply Blk.drew | with_reducible apply Blk.alloc); rfl); have bsc1 := bs1.cell 0; have bsd1 := bs1.cell 1; simp at bsc1 bsd1; have bsf1 := (fun i => bs1.free i); have bsl1 := bs1.lt) | (go_at_call 10; refine (things_calls _).mono ?_; rintro e w9 ⟨rfl, hb9⟩; have K9 : Below w.heap.size w w9 := (show Below w.heap.size w _ from (by repeat first | with_reducible assumption | with_reducible exact Below.refl _ _ | with_reducible apply Below.drew | with_reducible apply below_drewN | with_reducible apply Below.alloc (hB := (by first | omega | (simp; done) | (simp; omega))) | with_reducible apply Below.setCell (hp := (by first | omega | (simp; done) | (simp; omega))))).trans (hb9.mono (by first | omega | (simp; done) | (simp; omega)))))
    go_ret
    exact ⟨rfl, (by repeat first | with_reducible assumption | with_reducible exact Below.refl _ _ | with_reducible apply Below.drew | with_reducible apply below_drewN | with_reducible apply Below.alloc (hB := (by first | omega | (simp; done) | (simp; omega))) | with_reducible apply Below.setCell (hp := (by first | omega | (simp; done) | (simp; omega))))⟩
end Go.Proofs.Ytkpecagkpjabdab
