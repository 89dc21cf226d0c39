/- The walk of TopRuns. Condition: the acts lie in memory, their numbers are of 64 bits. -/
import Derived.Test.YtkpecagkpjabdacGreatGameRun
import Derived.Test.YtkpecagkpjabdacGreatActRow
namespace Go.Proofs.YtkpecagkpjabdacGreat
open Go.RowKit
set_option linter.unusedVariables false
set_option linter.unusedSimpArgs false
set_option maxRecDepth 100000
set_option maxHeartbeats 8000000 in
set_option maxRecDepth 100000 in
theorem topRuns_walk (size fall : Int) (l : List M.Act) (k : Int) (w : World) {v : Value} (hs : I64 size) (hf : I64 fall) (h : (ActsAt w 0 v l ∧ CapOk v) ∧ ∀ x ∈ l, ActIn x) (hk : I64 k) :
    Calls Tryz.prog 12 #[.int .i64 size, .int .i64 fall, v, .int .i64 k] w fun e w' => e = .returned (.bool true) ∧ Below w.heap.size w w' := by
  obtain ⟨⟨h, hcap⟩, hin⟩ := h
  obtain ⟨av, cv, rfl⟩ := h.val
  have hmx : l.length ≤ 9223372036854775807 := by have := h.max; unfold maxLen at this; omega
  obtain ⟨hc1, hc2⟩ : l.length ≤ cv ∧ cv ≤ 9223372036854775807 := by
    obtain ⟨a', n', c', e, hn, hc⟩ := hcap
    obtain ⟨_, rfl, rfl⟩ : av = a' ∧ l.length = n' ∧ cv = c' := by simpa using e
    unfold maxLen at hc
    omega
  have HL := Lib.hid h
  have HIN := Lib.hid hin
  have HA := Lib.hid alive_calls
  clear h hin hcap
  by_cases hlen : l.length ≤ 60
  · have q60 : decide ((60 : Int) < (l.length : Int)) = false := by rw [decide_eq_false_iff_not]; omega
    have q60' : decide (60 < l.length) = false := by rw [decide_eq_false_iff_not]; omega
    go_enter Tryz.func12, Tryz.ntmps12
    go_upto_region 5 with (go_at_call 29; go_loud (refine (HA.out _).mono ?_; rintro e w1 ⟨rfl, K1⟩; have kz1 := K1.size))
    go_upto_region 6 with fail
    have e1 : (wrap64 (size.tmod 1048576 + 1048576)).tmod 1048576 = M.size0 size := by
      have := M.tmod_in (n := size) (m := 1048576) (by omega)
      rw [IntWalk.wrap64_in _ (by omega)]
      rfl
    rw [e1]
    clear e1
    obtain ⟨K, eK, hKl⟩ : ∃ K : Nat, (wrap64 (wrap64 (k.tmod ((l.length : Int) + 1) + (l.length : Int)) + 1)).tmod ((l.length : Int) + 1) = (K : Int) ∧ K ≤ l.length := by
      have t := M.tmod_in (n := k) (m := (l.length : Int) + 1) (by omega)
      rw [IntWalk.wrap64_in (k.tmod ((l.length : Int) + 1) + (l.length : Int)) (by omega), IntWalk.wrap64_in _ (by omega)]
      have z1 := Int.tmod_nonneg ((l.length : Int) + 1) (a := k.tmod ((l.length : Int) + 1) + (l.length : Int) + 1) (by omega)
      have z2 := Int.tmod_lt_of_pos (k.tmod ((l.length : Int) + 1) + (l.length : Int) + 1) (b := (l.length : Int) + 1) (by omega)
      exact ⟨((k.tmod ((l.length : Int) + 1) + (l.length : Int) + 1).tmod ((l.length : Int) + 1)).toNat, by omega, by omega⟩
    rw [eK]
    clear eK
    have hz := M.size0_in size
    have ht := M.tmod_in (n := fall) (m := 65) (by omega)
    have HGW : Hid (M.goodW ⟨⟨[], 0⟩, fall.tmod 65, M.size0 size + 1, M.size0 size + 1⟩ = true) := Lib.hid (M.goodW_empty ⟨by omega, by omega, by omega⟩)
    obtain ⟨z, ez⟩ : ∃ z, z = M.size0 size := ⟨_, rfl⟩
    rw [← ez] at hz HGW ⊢
    obtain ⟨G0, hG0⟩ : ∃ G0, G0 = (⟨⟨⟨[], 0⟩, fall.tmod 65, z + 1, z + 1⟩, [], 0⟩ : M.Game) := ⟨_, rfl⟩
    obtain ⟨LK, eLK⟩ : ∃ LK, LK = l.take K := ⟨_, rfl⟩
    have hLK : LK.length = K := by rw [eLK, List.length_take]; omega
    obtain ⟨rs, ers⟩ : ∃ rs, rs = (M.runActs G0 l).2 := ⟨_, rfl⟩
    have hrs : rs.length = l.length := by rw [ers, M.runActs_len]
    have HRT : Hid ((M.runActs G0 LK).2 = rs.take K) := Lib.hid (by rw [eLK, ers, M.runActs_take])
    have HRS := Lib.hid hrs
    have HR1 := Lib.hid (fun (U : World) (b : Nat) (u : Value) (hu : U.ownsRow b 27 17 u l.length (l.flatMap actL)) => run_calls (ActsAt.of_own hu) HIN.out (by omega) HGW.out)
    rw [← hG0, ← ers] at HR1
    have HR2' := Lib.hid (fun (U : World) (b : Nat) (u : Value) (hu : U.ownsRow b 27 17 u LK.length (LK.flatMap actL)) => show Calls Tryz.prog 22 #[.int .i64 (z + 1), .int .i64 (z + 1), .int .i64 (fall.tmod 65), u] U fun e w' => ∃ a c hr, e = .returned (.tuple #[.slice a K c, .int .i64 0]) ∧ OwnReps w' (fun _ => False) U.heap.size (.slice a K c) (rs.take K) hr ∧ Below U.heap.size U w' from by
      have k := run_calls (ActsAt.of_own hu) (fun x hx => HIN.out x (List.mem_of_mem_take (by rw [← eLK]; exact hx))) (by omega) HGW.out
      rw [← hG0, HRT.out, hLK] at k
      exact k)
    have HTK : Hid (∀ U, Below w.heap.size w U → ActsAt U 0 (.slice av K cv) LK) := Lib.hid (fun U hb => by rw [eLK]; exact (HL.out.below hb).take hKl)
    have HLK := Lib.hid hLK
    have p0 : (0 : Int) ≤ (K : Int) := by omega
    have p1 : (K : Int) ≤ (cv : Int) := by omega
    obtain ⟨hz0, hz1⟩ := hz
    clear ez hG0 eLK hLK ers hrs ht
    go_upto_region 7 with (first | (at_builtin; refine wpList_append_acts rfl (.const (.slice none 0 0)) (.tmp 47) rfl (by rfl) (by rfl) (HL.out.below K1) (by omega) ?_; intro v2 w2 ho2 hb2; obtain ⟨a2, c2, rfl⟩ := own_form ho2; have HO2 := Lib.hid ho2; have kz2 := hb2.size; have K2 : Below w.heap.size w w2 := K1.trans (hb2.mono kz1); clear ho2) | (go_at_call 22; go_loud (refine (HR1.out _ _ _ HO2.out).mono ?_; rintro e w3 ⟨a3, c3, hr3, rfl, hre3, hb3⟩; have HRE3 := Lib.hid hre3; have kz3 := hb3.size; have K3 : Below w.heap.size w w3 := K2.trans (hb3.mono K2.size); have kw3 := K3.size; clear hre3)))
    go_upto_region 8 with (first | (at_builtin; refine wpList_append_acts rfl (.const (.slice none 0 0)) (.tmp 60) rfl (by rfl) (by rfl) (HTK.out _ K3) (by have := HLK.out; omega) ?_; intro v4 w4 ho4 hb4; obtain ⟨a4, c4, rfl⟩ := own_form ho4; have HO4 := Lib.hid ho4; have kz4 := hb4.size; have K4 : Below w3.heap.size w3 w4 := hb4; clear ho4) | (go_at_call 22; go_loud (refine (HR2'.out _ _ _ HO4.out).mono ?_; rintro e w5 ⟨a5, c5, hr5, rfl, hre5, hb5⟩; have HRE5 := Lib.hid hre5; have kz5 := hb5.size; have K5 : Below w3.heap.size w3 w5 := K4.trans (hb5.mono kz4); clear hre5)))
    have HRE5' := HRE5
    have HA5 := Lib.hid (HRE3.out.below K5)
    have KW5 : Below w.heap.size w w5 := K3.trans (K5.mono kw3)
    have HKW5 := Lib.hid KW5
    have kw5 := KW5.size
    clear K1 K2 K3 K4 K5 KW5 hb2 hb3 hb4 hb5 p0 p1
    go_wp2_with fail
    go_loopg [13] K (fun gh i wr => ∃ n : Nat, n ≤ K ∧ i = .int .i64 n ∧ gh = K - n ∧ Below w5.heap.size w5 wr)
    case atStart => exact ⟨0, Nat.zero_le _, rfl, rfl, Below.refl _ _⟩
    case round =>
      obtain ⟨wo, hwo⟩ : ∃ wo, wo = wr := ⟨_, rfl⟩
      subst hwo
      obtain ⟨n, hn, rfl, hgk, hb⟩ := hrel
      have HB := Lib.hid hb
      have HK := Lib.hid hgk
      have ko := hb.size
      clear hgk hb
      rcases Nat.lt_or_ge n K with hlt | hge
      · obtain ⟨r, hr⟩ : ∃ r, rs[n]? = some r := ⟨_, List.getElem?_eq_getElem (by rw [HRS.out]; omega)⟩
        obtain ⟨b1, e1c, ai, ci, am, cm, ev1, ⟨y0, y1, y2, y3⟩, hi1, hm1⟩ := (HA5.out.below HB.out).at4 hr
        obtain ⟨b2, e2c, bi, di, bm, dm, ev2, ⟨z0, z1', z2, z3⟩, hi2, hm2⟩ := (HRE5.out.below HB.out).at4 (i := n) (r := r) (by rw [List.getElem?_take, if_pos hlt]; exact hr)
        obtain ⟨rfl, rfl⟩ : a3 = some ⟨b1, 0, none⟩ ∧ c3 = e1c := by simp [HRS.out] at ev1; exact ev1
        obtain ⟨rfl, rfl⟩ : a5 = some ⟨b2, 0, none⟩ ∧ c5 = e2c := by simp [HRS.out, Nat.min_eq_left hKl] at ev2; exact ev2
        have HSR := Lib.hid (sameReply_calls (w := wo.drew) (r := r) hi1 hm1 hi2 hm2)
        have q0 : (0 : Int) ≤ (n : Int) := by omega
        have q1 : (n : Int) < (l.length : Int) := by omega
        have q2 : (n : Int) < (K : Int) := by omega
        clear ev1 ev2 hr hi1 hm1 hi2 hm2
        go_upto_region 13 with fail
        go_still_tail 8, (by kernel_rfl)
        change wpList _ _ _ _ _ wo.drew
        go_wp2_with (go_at_call 25; go_loud (refine HSR.out.mono ?_; rintro e w7 ⟨rfl, hb7⟩))
        go_roundg (K - (n + 1))
        case measure => rw [HK.out]; omega
        case rel => exact ⟨n + 1, by omega, by go_num, rfl, HB.out.drew.trans (hb7.mono ko)⟩
      · obtain rfl : n = K := by omega
        have q9 : decide ((n : Int) < (n : Int)) = false := decide_eq_false (by omega)
        go_wp2_with fail
        go_ret
        exact ⟨rfl, HKW5.out.trans (HB.out.mono kw5)⟩
  · have q60 : decide ((60 : Int) < (l.length : Int)) = true := by rw [decide_eq_true_eq]; omega
    have q60' : decide (60 < l.length) = true := by rw [decide_eq_true_eq]; omega
    go_enter Tryz.func12, Tryz.ntmps12
    go_upto_region 2 with (go_at_call 29; go_loud (refine (HA.out _).mono ?_; rintro e w1 ⟨rfl, K1⟩; have kz1 := K1.size))
    go_wp2_with (go_at_call 29; go_loud (refine (HA.out _).mono ?_; rintro e w2 ⟨rfl, K2⟩))
    go_ret
    exact ⟨rfl, K1.trans (K2.mono kz1)⟩
end Go.Proofs.YtkpecagkpjabdacGreat
