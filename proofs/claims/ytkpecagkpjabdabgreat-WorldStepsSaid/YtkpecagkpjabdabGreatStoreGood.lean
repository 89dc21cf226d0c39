/- The contract of store.Good. No condition. -/
import Derived.Test.YtkpecagkpjabdabGreatStoreFind
import Derived.Test.YtkpecagkpjabdabGreatStoreRow
import Derived.Test.YtkpecagkpjabdabGreatBagW
import Derived.Deep.LoopGhost
import Derived.Deep.DeepCutAuto
import Derived.Deep.QuietTactic
import Derived.BigQuiet
import Derived.Maps.OwnOps
namespace Go.Proofs.YtkpecagkpjabdabGreat
open Go.RowKit Go.Maps
set_option linter.unusedVariables false
set_option linter.unusedSimpArgs false
set_option maxRecDepth 100000

theorem int_law : Keyed Tryz.prog 3 := int_keyed Tryz.underlying3
/-- the set of numbers that have been met, in a map of the call's own -/
def SeenAt (w : World) (b : Nat) (l : List Int) : Prop :=
  w.ownsMap Tryz.prog 3 (plainElem (H := Unit) Tryz.prog 4) b l.length (setOf (.lit (.bool true)) (M.keysOf l))
theorem seen_look {w : World} {b : Nat} {l : List Int} (h : SeenAt w b l) {z : Int} (hz : I64 z) (n : Nat) :
    (Instr.lookup 149 (.map (some b)) (.int .i64 z) false).run Tryz.prog (w.drewN n) = .ok (.bool (decide (z ∈ l))) (w.drewN n) := by
  have h' : (w.drewN n).ownsMap Tryz.prog 3 (plainElem (H := Unit) Tryz.prog 4) b l.length (setOf (.lit (.bool true)) (M.keysOf l)) := h
  obtain ⟨v, ps, hrun, hv⟩ := h'.lookup int_law Tryz.underlying149 (Tryz.zeroValue4 _) (plainElem_bool Tryz.underlying4 false) (keyOf_int_mk Tryz.underlying3 (WalkArith.wf_i64 hz))
  obtain ⟨c, rfl, hc⟩ := plainElem_bool_inv Tryz.underlying4 hv
  rw [hrun]
  simp only [Prod.mk.injEq, M.atKey_setOf] at hc
  have : c = decide (z ∈ l) := by
    by_cases hm : z ∈ l
    · rw [if_pos hm] at hc; simp at hc; simp [hm, ← hc.1]
    · rw [if_neg hm] at hc; simp at hc; simp [hm, ← hc.1]
  rw [this]

theorem seen_below {w w' : World} {b : Nat} {l : List Int} (h : SeenAt w b l) (hb : Below w.heap.size w w') : SeenAt w' b l := by
  have hlt := World.ownsMap.lt h
  obtain ⟨es, clock, h1, F, hs, hD⟩ := h
  exact ⟨es, clock, (hb.block b hlt).trans h1, F, hs, hD⟩
theorem seen_put {w : World} {b : Nat} {l : List Int} {id : Int}
    (h : w.ownsMap Tryz.prog 3 (plainElem (H := Unit) Tryz.prog 4) b (l.length + 1) ((setOf (.lit (.bool true)) (M.keysOf l)).put (.int .i64 id) (.lit (.bool true)))) : SeenAt w b (l ++ [id]) := by
  unfold SeenAt
  have e1 : M.keysOf (l ++ [id]) = M.keysOf l ++ [Lit.int .i64 id] := by simp [M.keysOf]
  rw [e1, setOf_snoc, List.length_append]
  exact h
set_option maxHeartbeats 4000000 in
set_option maxRecDepth 100000 in
theorem storeGood_calls {w : World} {lo : Nat} {v : Value} {s : M.Store} (h : StoreAt w lo v s) (hin : StoreIn s) :
    Calls Tryz.prog 56 #[v] w fun e w' => e = .returned (.bool (M.good s)) ∧ Below w.heap.size w w' := by
  obtain ⟨vt, rfl, hs, hT⟩ := h
  obtain ⟨a, cap, rfl⟩ := hT.val
  have hmx : s.tables.length ≤ 9223372036854775807 := by have := hT.max; unfold maxLen at this; omega
  have HT := Lib.hid hT
  clear hT
  have HI := Lib.hid hin
  clear hin
  have hmm := @run_makeMap Tryz.prog
  go_enter Tryz.func56, Tryz.ntmps56
  go_wp2_with fail
  go_loopg [3, 13] s.tables.length (fun g m i wr => ∃ n : Nat, n ≤ s.tables.length ∧ i = .int .i64 n ∧ m = .int .i64 (M.sizeW (s.tables.take n)) ∧ g = s.tables.length - n ∧
    Below (w.heap.size + 1) (w.alloc (.cells #[.slice a s.tables.length cap, .int .i64 s.next] 39)) wr ∧ SeenAt wr (w.heap.size + 1) (M.idsT (s.tables.take n)) ∧ M.Upto s n)
  case atStart =>
    refine ⟨0, Nat.zero_le _, rfl, rfl, rfl, (Below.refl _ _).alloc (by simp) _, ?_, M.upto_zero s⟩
    have := World.ownsMap_made (w.alloc (.cells #[.slice a s.tables.length cap, .int .i64 s.next] 39)) Tryz.prog 3 (plainElem (H := Unit) Tryz.prog 4)
    simpa [SeenAt, M.idsT, M.keysOf, setOf] using this
  case round =>
    obtain ⟨wo, hwo⟩ : ∃ wo, wo = wr := ⟨_, rfl⟩
    subst hwo
    obtain ⟨n, hn, rfl, rfl, hg, hb1, hseen, hup⟩ := hrel
    have HB1 := Lib.hid hb1
    have HB := Lib.hid (((Below.refl _ w).alloc (Nat.le_refl _) _).trans (hb1.mono (B' := w.heap.size) (by omega)))
    have hz := hb1.size
    simp only [World.size_alloc] at hz
    have HG := Lib.hid hg
    have lt2 : w.heap.size + 1 < wo.heap.size := World.ownsMap.lt hseen
    have HS := Lib.hid hseen
    have HU := Lib.hid hup
    have k0 := hb1.cell (p := ⟨w.heap.size, 0, none⟩) (by simp)
    have k1 := hb1.cell (p := ⟨w.heap.size, 1, none⟩) (by simp)
    simp at k0 k1
    clear hb1 hg hseen hup
    rcases Nat.lt_or_ge n s.tables.length with hlt | hge
    · obtain ⟨t, ht⟩ : ∃ t, s.tables[n]? = some t := ⟨_, List.getElem?_eq_getElem hlt⟩
      obtain ⟨b, o, cap', a1, cp1, a2, cp2, e, hlo, hp, c0, c1, c2, h1, h2⟩ := HT.out.at2 ht
      replace c0 := below_cell c0 HB.out
      replace c1 := below_cell c1 HB.out
      replace c2 := below_cell c2 HB.out
      obtain ⟨rfl, rfl⟩ : a = some ⟨b, o, none⟩ ∧ cap = cap' := by simpa using e
      have HT2 := Lib.hid ht
      have HR := Lib.hid h2
      have HJ := Lib.hid h1
      have hm1 : t.ids.length ≤ 9223372036854775807 := by have := h1.max; unfold maxLen at this; omega
      have hm2 : t.rows.length ≤ 9223372036854775807 := by have := h2.max; unfold maxLen at this; omega
      have hBA : Below w.heap.size w wo := HB.out
      have lt0 : w.heap.size < wo.heap.size := by omega
      clear e hlo hp h1 h2 ht
      go_upto_region 6 with fail
      go_cut [46] (fun q W => ∃ bad k, q = .bool bad ∧ W = (wo.alloc (.cells #[.int .i64 t.mask, .slice a1 t.ids.length cp1, .slice a2 t.rows.length cp2] 74)).drewN k ∧ M.Tested s n t bad)
      case first =>
        by_cases z1 : ((t.ids.length : Int) == 0) = true
        · go_wp2_with fail
          go_quiet (fail)
          go_wp2_with fail
          go_meet
          exact ⟨true, _, rfl, rfl, M.bad_len HT2.out (.inl (by simpa using z1))⟩
        have z1 : ((t.ids.length : Int) == 0) = false := by simpa using z1
        by_cases z2 : ((t.ids.length : Int) != (t.rows.length : Int)) = true
        · go_wp2_with fail
          go_quiet (fail)
          go_wp2_with fail
          go_meet
          exact ⟨true, _, rfl, rfl, M.bad_len HT2.out (.inr (by simp at z2; omega))⟩
        have z2 : ((t.ids.length : Int) != (t.rows.length : Int)) = false := by simpa using z2
        have N1 : Hid (t.ids.length ≠ 0) := Lib.hid (by intro e; rw [e] at z1; simp at z1)
        have N2 : Hid (t.ids.length = t.rows.length) := Lib.hid (by have h := z2; simp only [bne_eq_false_iff_eq] at h; omega)
        rcases Nat.eq_zero_or_pos n with hz0 | hpos
        · have q0 : decide (0 < n) = false := by rw [hz0]; rfl
          have HZ := Lib.hid hz0
          clear hz0
          go_wp2_with fail
          go_quiet (fail)
          go_wp2_with fail
          go_meet
          exact ⟨false, _, rfl, rfl, N1.out, N2.out, fun p hp => absurd hp (by rw [HZ.out]; omega)⟩
        · obtain ⟨p, hp⟩ : ∃ p, s.tables[n - 1]? = some p := ⟨_, List.getElem?_eq_getElem (by omega)⟩
          obtain ⟨b', o', cap'', a1', cp1', a2', cp2', e', _, _, p0, _, _, _, _⟩ := (HT.out.below HB.out).at2 hp
          simp only [Value.slice.injEq, Option.some.injEq, Addr.mk.injEq, true_and, and_true] at e'
          obtain ⟨⟨rfl, rfl⟩, rfl⟩ := e'
          have HP := Lib.hid hp
          clear hp
          have lb := cell_lt p0
          by_cases q1 : t.mask ≤ p.mask
          · go_wp2_with fail
            go_quiet (fail)
            go_wp2_with fail
            go_meet
            exact ⟨true, _, rfl, rfl, M.bad_mask HT2.out hpos HP.out q1⟩
          · have q1' : decide (t.mask ≤ p.mask) = false := decide_eq_false q1
            go_wp2_with fail
            go_quiet (fail)
            go_wp2_with fail
            go_meet
            exact ⟨false, _, rfl, rfl, N1.out, N2.out, fun p' _ hp' => by rw [HP.out] at hp'; simp only [Option.some.injEq] at hp'; subst hp'; omega⟩
      case rest =>
        obtain ⟨bad, kd, rfl, rfl, htest⟩ := hcut
        have HTS := Lib.hid htest
        clear htest
        cases bad
        case true =>
          go_wp2_with fail
          go_ret
          exact ⟨ret_bool HTS.out.symm, bel9⟩
        have hpass := HTS.out
        obtain ⟨n1, n2, n3⟩ := hpass
        have N1 := Lib.hid n1
        have N2 := Lib.hid n2
        have N3 := Lib.hid n3
        clear n1 n2 n3
        go_wp2_with fail
        go_loopg [50] t.ids.length (fun g j wq => ∃ k : Nat, k ≤ t.ids.length ∧ j = .int .i64 k ∧ g = t.ids.length - k ∧
          Below (w.heap.size + 1) (w.alloc (.cells #[.slice (some ⟨b, o, none⟩) s.tables.length cap, .int .i64 s.next] 39)) wq ∧ wo.heap.size < wq.heap.size ∧
          (wq.cell? ⟨wo.heap.size, 0, none⟩ = some (.int .i64 t.mask) ∧ wq.cell? ⟨wo.heap.size, 1, none⟩ = some (.slice a1 t.ids.length cp1) ∧ wq.cell? ⟨wo.heap.size, 2, none⟩ = some (.slice a2 t.rows.length cp2)) ∧
          SeenAt wq (w.heap.size + 1) (M.idsT (s.tables.take n) ++ t.ids.take k) ∧ M.Inner s n k t)
        case atStart =>
          refine ⟨0, Nat.zero_le _, rfl, rfl, below_drewN (HB1.out.alloc (by omega) _) _, by simp, ⟨by simp, by simp, by simp⟩, ?_, M.inner_zero HU.out t⟩
          simp only [List.take_zero, List.append_nil]
          exact HS.out.alloc _
        case round =>
          obtain ⟨wq, hwq⟩ : ∃ wq, wq = wr := ⟨_, rfl⟩
          subst hwq
          obtain ⟨k, hk, rfl, hg2, hq1, hlq, ⟨b0, b1, b2⟩, hseen, hinn⟩ := hrel
          have HQ1 := Lib.hid hq1
          have HQ := Lib.hid (((Below.refl _ w).alloc (Nat.le_refl _) _).trans (hq1.mono (B' := w.heap.size) (by omega)))
          have HG2 := Lib.hid hg2
          have HSq := Lib.hid hseen
          have HIN := Lib.hid hinn
          have l0 := hq1.cell (p := ⟨w.heap.size, 0, none⟩) (by simp)
          have l1 := hq1.cell (p := ⟨w.heap.size, 1, none⟩) (by simp)
          simp at l0 l1
          clear hq1 hg2 hseen hinn k0 k1 c0 c1 c2
          have lt1 : w.heap.size < wq.heap.size := by omega
          rcases Nat.lt_or_ge k t.ids.length with hlt2 | hge2
          · obtain ⟨id, hid⟩ : ∃ id, t.ids[k]? = some id := ⟨_, List.getElem?_eq_getElem hlt2⟩
            have hlt3 : k < t.rows.length := by have := N2.out; omega
            obtain ⟨r, hr⟩ : ∃ r, t.rows[k]? = some r := ⟨_, List.getElem?_eq_getElem hlt3⟩
            obtain ⟨b3, o3, cap3, e3, _, i0⟩ := (HJ.out.below HQ.out).at hid
            obtain ⟨b4, o4, cap4, e4, _, rc⟩ := (HR.out.below HQ.out).at8 hr
            obtain ⟨rfl, rfl⟩ : a1 = some ⟨b3, o3, none⟩ ∧ cp1 = cap3 := by simpa using e3
            obtain ⟨rfl, rfl⟩ : a2 = some ⟨b4, o4, none⟩ ∧ cp2 = cap4 := by simpa using e4
            obtain ⟨r0, r1, r2, r3, r4, r5, r6, r7⟩ := rc
            have HID := Lib.hid hid
            have HRR := Lib.hid hr
            clear e3 e4 hid hr
            have hi64 : I64 id := (HI.out.2 t (List.mem_of_getElem? HT2.out)).2.1 id (List.mem_of_getElem? HID.out)
            have lk := fun nn => seen_look HSq.out hi64 nn
            have HI64 := Lib.hid hi64
            clear hi64
            go_upto_region 11 with fail
            go_cut [78] (fun q W => ∃ bad, q = .bool bad ∧ Below wq.heap.size wq W ∧ M.Tested1 s n k t id r bad)
            case first =>
              by_cases y1 : id < 0
              · go_wp2_with fail
                go_quiet (fail)
                go_wp2_with fail
                go_meet
                exact ⟨true, rfl, below_drewN (Below.refl _ _) _, M.bad_id HT2.out HID.out (.inl y1)⟩
              have y1' : decide (id < 0) = false := decide_eq_false y1
              by_cases y2 : s.next ≤ id
              · go_wp2_with fail
                go_quiet (fail)
                go_wp2_with fail
                go_meet
                exact ⟨true, rfl, below_drewN (Below.refl _ _) _, M.bad_id HT2.out HID.out (.inr y2)⟩
              have y2' : decide (s.next ≤ id) = false := decide_eq_false y2
              by_cases y3 : id ∈ M.idsT (s.tables.take n) ++ t.ids.take k
              · rw [decide_eq_true y3] at lk
                have Y3 := Lib.hid y3
                clear y3
                go_wp2_with fail
                go_quiet (fail)
                go_wp2_with fail
                go_meet
                exact ⟨true, rfl, below_drewN (Below.refl _ _) _, M.bad_twice HT2.out HID.out Y3.out⟩
              rw [decide_eq_false y3] at lk
              have Y3 := Lib.hid y3
              clear y3
              have lk1 := lk 1
              change (Instr.lookup 149 (.map (some (w.heap.size + 1))) (.int .i64 id) false).run Tryz.prog wq.drew = .ok (.bool false) wq.drew at lk1
              have HGR := Lib.hid (fun W => goodRow_calls t.mask r W)
              obtain ⟨gr, hgr⟩ : ∃ g, g = M.goodRow t.mask r := ⟨_, rfl⟩
              rw [← hgr] at HGR
              have HGE := Lib.hid hgr
              clear hgr
              go_wp2_with fail
              go_region_with (go_at_call 76; refine (HGR.out _).mono ?_; rintro e w5 ⟨rfl, hb5⟩; have hb5' : Below wq.heap.size wq w5 := (Below.refl _ wq).drew.trans hb5)
              all_goals
                go_wp2_with fail
                go_meet
                exact ⟨!gr, rfl, by assumption, M.tested1_row HGE.out HT2.out HRR.out (by omega) (by omega) Y3.out⟩
            case rest =>
              obtain ⟨bad, rfl, hbw, htest⟩ := hcut
              have HTT := Lib.hid htest
              have HBW := Lib.hid hbw
              have HBC : Hid (Below w.heap.size w wc) := Lib.hid (HQ.out.trans (hbw.mono (by omega)))
              clear htest
              cases bad
              case true =>
                have hB := HBC.out
                go_wp2_with fail
                go_ret
                exact ⟨ret_bool HTT.out.symm, hB⟩
              have hT1 := HTT.out
              obtain ⟨t1, t2, t3⟩ := hT1
              have hcount := M.inner_count HU.out HIN.out t1.1 t1.2 t2
              have hnext := HI.out.1
              unfold I64 at hnext
              have hown := seen_below HSq.out hbw
              have hkey := keyOf_int_mk Tryz.underlying3 (WalkArith.wf_i64 HI64.out)
              have INN := Lib.hid (M.inner_step HIN.out HID.out HRR.out t1.1 t1.2 t2 t3)
              have T0 := below_cell b0 hbw
              have T1 := below_cell b1 hbw
              have T2 := below_cell b2 hbw
              have hzc := hbw.size
              have EL : Hid (M.idsT (s.tables.take n) ++ t.ids.take (k + 1) = (M.idsT (s.tables.take n) ++ t.ids.take k) ++ [id]) := Lib.hid (by rw [M.take_snoc HID.out, List.append_assoc])
              obtain ⟨L, hL⟩ : ∃ L, L = M.idsT (s.tables.take n) ++ t.ids.take k := ⟨_, rfl⟩
              rw [← hL] at hown hcount EL
              have HOWN := Lib.hid hown
              have HKEY := Lib.hid hkey
              clear t1 t2 t3 hown hkey hL lk b0 b1 b2 l0 l1 r0 r1 r2 r3 r4 r5 r6 r7 i0
              have HT0 := Lib.hid T0
              have HT1' := Lib.hid T1
              have HT2' := Lib.hid T2
              clear T0 T1 T2
              go_wp2_with (at_mapUpdate; refine wpList_mapUpdate_own _ rfl _ _ _ 149 rfl 3 4 int_law Tryz.underlying149 _ (w.heap.size + 1) L.length _ rfl HOWN.out (by unfold maxLen; omega) _ _ _ rfl rfl HKEY.out _ [] (plainElem_bool Tryz.underlying4 true) ?_; intro w6 hown6 hgrow6)
              have hz6 := hgrow6.size
              go_roundg (t.ids.length - (k + 1))
              case measure => rw [HG2.out]; omega
              case rel =>
                refine ⟨k + 1, by omega, by go_num, rfl, ?_, by omega, ⟨?_, ?_, ?_⟩, ?_, INN.out⟩
                · exact (HQ1.out.trans (HBW.out.mono (by omega))).grown hgrow6 (by omega) (fun j hj => by cases hj; omega)
                · exact hgrow6.cell HT0.out (by simp; omega)
                · exact hgrow6.cell HT1'.out (by simp; omega)
                · exact hgrow6.cell HT2'.out (by simp; omega)
                · rw [EL.out]; exact seen_put hown6
          · obtain rfl : k = t.ids.length := by omega
            have UPS := Lib.hid (M.upto_step HU.out HT2.out N1.out N2.out N3.out HIN.out)
            have ES : Hid (M.idsT (s.tables.take (n + 1)) = M.idsT (s.tables.take n) ++ t.ids) := Lib.hid (by rw [M.take_snoc HT2.out, M.idsT_append, M.idsT_one])
            have HSZ := Lib.hid (M.sizeW_step HT2.out)
            have HSq2 : Hid (SeenAt wq (w.heap.size + 1) (M.idsT (s.tables.take n) ++ t.ids)) := Lib.hid (by have h := HSq.out; rw [List.take_length] at h; exact h)
            clear hge2 hk
            obtain ⟨z, hzz⟩ : ∃ z, M.sizeW (s.tables.take n) = z := ⟨_, rfl⟩
            rw [hzz] at HSZ ⊢
            clear hzz
            go_wp2_with fail
            go_roundg (s.tables.length - (n + 1))
            case measure => rw [HG.out]; omega
            case rel => exact ⟨n + 1, by omega, by go_num, by rw [HSZ.out], rfl, HQ1.out, by rw [ES.out]; exact HSq2.out, UPS.out⟩
    · obtain rfl : n = s.tables.length := by omega
      rw [List.take_length]
      have hgd := M.good_end HU.out
      obtain ⟨z, hz⟩ : ∃ z, M.sizeW s.tables = z := ⟨_, rfl⟩
      rw [hz] at hgd ⊢
      have HGD := Lib.hid hgd
      clear hz hgd
      by_cases d1 : z ≤ 10
      · by_cases d2 : 0 ≤ s.next
        · go_wp2_with fail
          go_ret
          exact ⟨ret_bool (by rw [HGD.out]; simp [d1, d2]), HB.out⟩
        · go_wp2_with fail
          go_ret
          exact ⟨ret_bool (by rw [HGD.out]; simp; omega), HB.out⟩
      · have d1' : decide (z ≤ 10) = false := decide_eq_false d1
        go_wp2_with fail
        go_ret
        exact ⟨ret_bool (by rw [HGD.out]; simp; omega), HB.out⟩
end Go.Proofs.YtkpecagkpjabdabGreat
