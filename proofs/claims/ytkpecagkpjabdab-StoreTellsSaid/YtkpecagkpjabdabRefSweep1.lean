/- The document's MeetBoxes and AreBoxes. Condition: the boxes lie in memory. -/
import Derived.Test.YtkpecagkpjabdabSweepGood
import Derived.Test.YtkpecagkpjabdabOpenSweep
import Derived.Test.YtkpecagkpjabdabLawRefSweep
import Derived.Test.YtkpecagkpjabdabStoreOwned
import Derived.Test.YtkpecagkpjabdabKit
namespace Go.Proofs.Ytkpecagkpjabdab
open Go.RowKit
set_option linter.unusedVariables false
set_option linter.unusedSimpArgs false
set_option maxRecDepth 100000
theorem M.meetB_iff (a b : M.Box) : M.meetB a b = true ↔ a.x1 < b.x2 ∧ b.x1 < a.x2 ∧ a.y1 < b.y2 ∧ b.y1 < a.y2 := by
  unfold M.meetB
  simp
set_option maxHeartbeats 4000000 in
theorem meetBoxes_calls (a b : M.Box) (w : World) : Calls Try.prog 33 #[boxV a, boxV b] w fun e w' => e = .returned (.bool (M.meetB a b)) ∧ Below w.heap.size w w' := by
  by_cases h : M.meetB a b = true
  · obtain ⟨h1, h2, h3, h4⟩ := (M.meetB_iff a b).1 h
    rw [h]
    have q1 : decide (a.x2 ≤ b.x1) = false := by rw [decide_eq_false_iff_not]; omega
    have q2 : decide (b.x2 ≤ a.x1) = false := by rw [decide_eq_false_iff_not]; omega
    have q3 : decide (a.y2 ≤ b.y1) = false := by rw [decide_eq_false_iff_not]; omega
    have q4 : decide (b.y2 ≤ a.y1) = false := by rw [decide_eq_false_iff_not]; omega
    clear h
    go_enter Try.func33, Try.ntmps33
    go_wp2_with fail
    go_ret
    exact ⟨rfl, (by repeat first | with_reducible assumption | with_reducible exact Below.refl _ _ | with_reducible apply Below.drew | with_reducible apply below_drewN | with_reducible apply Below.alloc (hB := (by first | omega | (simp; done) | (simp; omega))) | with_reducible apply Below.setCell (hp := (by first | omega | (simp; done) | (simp; omega))))⟩
  · have hn := fun k => h ((M.meetB_iff a b).2 k)
    rw [show M.meetB a b = false by simpa using h]
    clear h
    by_cases h1 : a.x2 ≤ b.x1
    · clear hn
      go_enter Try.func33, Try.ntmps33
      go_wp2_with fail
      go_ret
      exact ⟨rfl, (by repeat first | with_reducible assumption | with_reducible exact Below.refl _ _ | with_reducible apply Below.drew | with_reducible apply below_drewN | with_reducible apply Below.alloc (hB := (by first | omega | (simp; done) | (simp; omega))) | with_reducible apply Below.setCell (hp := (by first | omega | (simp; done) | (simp; omega))))⟩
    · by_cases h2 : b.x2 ≤ a.x1
      · clear hn
        go_enter Try.func33, Try.ntmps33
        go_wp2_with fail
        go_ret
        exact ⟨rfl, (by repeat first | with_reducible assumption | with_reducible exact Below.refl _ _ | with_reducible apply Below.drew | with_reducible apply below_drewN | with_reducible apply Below.alloc (hB := (by first | omega | (simp; done) | (simp; omega))) | with_reducible apply Below.setCell (hp := (by first | omega | (simp; done) | (simp; omega))))⟩
      · by_cases h3 : a.y2 ≤ b.y1
        · clear hn
          go_enter Try.func33, Try.ntmps33
          go_wp2_with fail
          go_ret
          exact ⟨rfl, (by repeat first | with_reducible assumption | with_reducible exact Below.refl _ _ | with_reducible apply Below.drew | with_reducible apply below_drewN | with_reducible apply Below.alloc (hB := (by first | omega | (simp; done) | (simp; omega))) | with_reducible apply Below.setCell (hp := (by first | omega | (simp; done) | (simp; omega))))⟩
        · have h4 : b.y2 ≤ a.y1 := by
            rcases Int.lt_or_le a.y1 b.y2 with k | k
            · exact absurd ⟨by omega, by omega, k, by omega⟩ hn
            · exact k
          clear hn
          go_enter Try.func33, Try.ntmps33
          go_wp2_with fail
          go_ret
          exact ⟨rfl, (by repeat first | with_reducible assumption | with_reducible exact Below.refl _ _ | with_reducible apply Below.drew | with_reducible apply below_drewN | with_reducible apply Below.alloc (hB := (by first | omega | (simp; done) | (simp; omega))) | with_reducible apply Below.setCell (hp := (by first | omega | (simp; done) | (simp; omega))))⟩
theorem M.goodB_iff {l : List M.Box} : M.goodB l = true ↔ (∀ b ∈ l, b.x1 < b.x2 ∧ b.y1 < b.y2) ∧ (l.map (·.id)).Nodup := by
  unfold M.goodB
  rw [decide_eq_true_eq]
  exact Iff.rfl
/-- what is known of the first n boxes -/
def GoodTo (l : List M.Box) (n : Nat) : Prop := (∀ b ∈ l.take n, b.x1 < b.x2 ∧ b.y1 < b.y2) ∧ ((l.take n).map (·.id)).Nodup
theorem GoodTo.zero (l : List M.Box) : GoodTo l 0 := by simp [GoodTo]
theorem GoodTo.succ {l : List M.Box} {n : Nat} {b : M.Box} (h : GoodTo l n) (hb : l[n]? = some b) (h1 : b.x1 < b.x2) (h2 : b.y1 < b.y2) (h3 : ∀ (j : Nat) c, j < n → l[j]? = some c → c.id ≠ b.id) : GoodTo l (n + 1) := by
  unfold GoodTo at h ⊢
  rw [List.take_add_one, hb]
  simp only [Option.toList_some, List.mem_append, List.mem_singleton, List.map_append, List.map_cons, List.map_nil]
  refine ⟨fun x hx => ?_, ?_⟩
  · rcases hx with hx | rfl
    · exact h.1 x hx
    · exact ⟨h1, h2⟩
  · rw [List.nodup_append]
    refine ⟨h.2, by simp, fun x hx y hy => ?_⟩
    simp only [List.mem_singleton] at hy
    subst hy
    obtain ⟨c, hc, rfl⟩ := List.mem_map.1 hx
    obtain ⟨j, hj⟩ := List.getElem?_of_mem hc
    rw [List.getElem?_take] at hj
    split at hj
    · exact h3 j c ‹_› hj
    · cases hj
theorem GoodTo.all {l : List M.Box} (h : GoodTo l l.length) : M.goodB l = true := by
  unfold GoodTo at h
  rw [List.take_length] at h
  exact M.goodB_iff.2 h
theorem bad_empty {l : List M.Box} {n : Nat} {b : M.Box} (hb : l[n]? = some b) (h : b.x2 ≤ b.x1 ∨ b.y2 ≤ b.y1) : M.goodB l = false := by
  cases hg : M.goodB l
  · rfl
  · have := (M.goodB_iff.1 hg).1 b (List.mem_of_getElem? hb)
    omega
theorem bad_twice {l : List M.Box} {n j : Nat} {b c : M.Box} (hb : l[n]? = some b) (hc : l[j]? = some c) (hj : j < n) (h : c.id = b.id) : M.goodB l = false := by
  cases hg : M.goodB l
  · rfl
  · have hn := (M.goodB_iff.1 hg).2
    have h1 : (l.map (·.id))[n]? = some b.id := by simp [hb]
    have h2 : (l.map (·.id))[j]? = some b.id := by simp [hc, h]
    have l1 := (List.getElem?_eq_some_iff.1 h1)
    have l2 := (List.getElem?_eq_some_iff.1 h2)
    obtain ⟨p1, e1⟩ := l1
    obtain ⟨p2, e2⟩ := l2
    have := (List.getElem_inj (h₀ := p1) (h₁ := p2) hn).1 (by rw [e1, e2])
    omega
set_option maxHeartbeats 8000000 in
set_option maxRecDepth 100000 in
theorem areBoxes_calls {w : World} {lo : Nat} {v : Value} {l : List M.Box} (h : BoxesAt5 w lo v l) (hcap : CapOk v) : Calls Try.prog 34 #[v] w fun e w' => e = .returned (.bool (M.goodB l)) ∧ Below w.heap.size w w' := by
  obtain ⟨av, cv, rfl⟩ := h.val
  have hlm : l.length ≤ 9223372036854775807 := by have := h.max; unfold maxLen at this; omega
  obtain ⟨hc1, hc2⟩ : l.length ≤ cv ∧ cv ≤ 9223372036854775807 := by
    obtain ⟨a', n', c', e, hn, hc⟩ := hcap
    obtain ⟨_, rfl, rfl⟩ : av = a' ∧ l.length = n' ∧ cv = c' := by simpa using e
    unfold maxLen at hc
    omega
  have HB := Lib.hid h
  clear h hcap
  go_enter Try.func34, Try.ntmps34
  go_wp2_with fail
  go_loopg [9] l.length (fun g i wr => ∃ n : Nat, n ≤ l.length ∧ i = .int .i64 n ∧ g = l.length - n ∧ GoodTo l n ∧ Below w.heap.size w wr)
  case atStart => exact ⟨0, Nat.zero_le _, rfl, rfl, GoodTo.zero l, Below.refl _ _⟩
  case round =>
    obtain ⟨wo, hwo⟩ : ∃ wo, wo = wr := ⟨_, rfl⟩
    subst hwo
    obtain ⟨n, hn, rfl, hgk, hgt, hb⟩ := hrel
    have HBE := Lib.hid hb
    have HK := Lib.hid hgk
    have HGT := Lib.hid hgt
    have ko := hb.size
    clear hgk hgt hb
    rcases Nat.lt_or_ge n l.length with hlt | hge
    · obtain ⟨b, hb⟩ : ∃ b, l[n]? = some b := ⟨_, List.getElem?_eq_getElem hlt⟩
      obtain ⟨b1, o1, c1, e1, _, i0, i1, i2, i3, i4⟩ := (HB.out.below HBE.out).at5 hb
      obtain ⟨rfl, rfl⟩ : av = some ⟨b1, o1, none⟩ ∧ cv = c1 := by simpa using e1
      have HBB := Lib.hid hb
      clear e1 hb
      by_cases h1 : b.x2 ≤ b.x1
      · go_wp2_with fail
        go_ret
        exact ⟨ret_bool (bad_empty HBB.out (.inl h1)).symm, HBE.out.trans ((show Below wo.heap.size wo _ from (by repeat first | with_reducible assumption | with_reducible exact Below.refl _ _ | with_reducible apply Below.drew | with_reducible apply below_drewN | with_reducible apply Below.alloc (hB := (by first | omega | (simp; done) | (simp; omega))) | with_reducible apply Below.setCell (hp := (by first | omega | (simp; done) | (simp; omega))))).mono ko)⟩
      · by_cases h2 : b.y2 ≤ b.y1
        · go_wp2_with fail
          go_ret
          exact ⟨ret_bool (bad_empty HBB.out (.inr h2)).symm, HBE.out.trans ((show Below wo.heap.size wo _ from (by repeat first | with_reducible assumption | with_reducible exact Below.refl _ _ | with_reducible apply Below.drew | with_reducible apply below_drewN | with_reducible apply Below.alloc (hB := (by first | omega | (simp; done) | (simp; omega))) | with_reducible apply Below.setCell (hp := (by first | omega | (simp; done) | (simp; omega))))).mono ko)⟩
        · have p0 : (0 : Int) ≤ (n : Int) := by omega
          have p1 : (n : Int) ≤ (cv : Int) := by omega
          go_upto_region 6 with fail
          refine wp_called (fun wl hwl => ?_)
          have BB : Blk wl wo.heap.size 45 (boxC b) := by rw [hwl]; exact Blk.new_at rfl
          have KL : Below wo.heap.size wo wl := by rw [hwl]; exact (by repeat first | with_reducible assumption | with_reducible exact Below.refl _ _ | with_reducible apply Below.drew | with_reducible apply below_drewN | with_reducible apply Below.alloc (hB := (by first | omega | (simp; done) | (simp; omega))) | with_reducible apply Below.setCell (hp := (by first | omega | (simp; done) | (simp; omega))))
          have HBL := Lib.hid BB
          have HKL := Lib.hid KL
          have kl := KL.size
          clear hwl BB KL i0 i1 i2 i3 i4
          go_wp2_with fail
          go_loopg [30] n (fun g i wr => ∃ m : Nat, m ≤ n ∧ i = .int .i64 m ∧ g = n - m ∧ (∀ (j : Nat) c, j < m → l[j]? = some c → c.id ≠ b.id) ∧ Below wl.heap.size wl wr)
          case atStart => exact ⟨0, Nat.zero_le _, rfl, rfl, (fun j c hj => absurd hj (Nat.not_lt_zero _)), Below.refl _ _⟩
          case round =>
            obtain ⟨wq, hwq⟩ : ∃ wq, wq = wr := ⟨_, rfl⟩
            subst hwq
            obtain ⟨m, hm, rfl, hgm, hne, hb⟩ := hrel
            have HBQ := Lib.hid hb
            have HKM := Lib.hid hgm
            have HNE := Lib.hid hne
            have kq := hb.size
            have KOQ : Below wo.heap.size wo wq := HKL.out.trans (hb.mono kl)
            have KWQ : Below w.heap.size w wq := HBE.out.trans (KOQ.mono ko)
            clear hgm hne hb
            rcases Nat.lt_or_ge m n with hlt2 | hge2
            · obtain ⟨c, hc⟩ : ∃ c, l[m]? = some c := ⟨_, List.getElem?_eq_getElem (by omega)⟩
              obtain ⟨b2, o2, c2, e2, _, j0, j1, j2, j3, j4⟩ := (HB.out.below KWQ).at5 hc
              obtain ⟨⟨rfl, rfl⟩, _⟩ : (b1 = b2 ∧ o1 = o2) ∧ cv = c2 := by simpa using e2
              have BQ := HBL.out.below HBQ.out HBL.out.lt
              have y0 := BQ.cell 0
              simp at y0
              have ly := BQ.lt
              have HCC := Lib.hid hc
              have nl1 : ¬ wo.heap.size = wq.heap.size := by omega
              have nl2 : ¬ wq.heap.size = wo.heap.size := by omega
              clear e2 BQ hc
              by_cases hid : c.id = b.id
              · have HBT := Lib.hid (bad_twice HBB.out HCC.out hlt2 hid)
                have q1 : (c.id == b.id) = true := by simpa using hid
                clear hid
                go_wp2_with fail
                go_ret
                exact ⟨ret_bool HBT.out.symm, KWQ.trans ((show Below wq.heap.size wq _ from (by repeat first | with_reducible assumption | with_reducible exact Below.refl _ _ | with_reducible apply Below.drew | with_reducible apply below_drewN | with_reducible apply Below.alloc (hB := (by first | omega | (simp; done) | (simp; omega))) | with_reducible apply Below.setCell (hp := (by first | omega | (simp; done) | (simp; omega))))).mono (by have := KWQ.size; omega))⟩
              · have q1 : (c.id == b.id) = false := by simpa using hid
                have HID := Lib.hid hid
                clear hid
                go_wp2_with fail
                go_roundg (n - (m + 1))
                case measure => rw [HKM.out]; omega
                case rel =>
                  refine ⟨m + 1, by omega, by go_num, rfl, fun j d hj hd => ?_, HBQ.out.trans ((show Below wq.heap.size wq _ from (by repeat first | with_reducible assumption | with_reducible exact Below.refl _ _ | with_reducible apply Below.drew | with_reducible apply below_drewN | with_reducible apply Below.alloc (hB := (by first | omega | (simp; done) | (simp; omega))) | with_reducible apply Below.setCell (hp := (by first | omega | (simp; done) | (simp; omega))))).mono kq)⟩
                  rcases Nat.lt_or_ge j m with k | k
                  · exact HNE.out j d k hd
                  · obtain rfl : j = m := by omega
                    rw [HCC.out] at hd
                    simp only [Option.some.injEq] at hd
                    subst hd
                    exact HID.out
            · obtain rfl : m = n := by omega
              go_wp2_with fail
              go_roundg (l.length - (m + 1))
              case measure => rw [HK.out]; omega
              case rel => exact ⟨m + 1, by omega, by go_num, rfl, HGT.out.succ HBB.out (by omega) (by omega) HNE.out, KWQ⟩
    · obtain rfl : n = l.length := by omega
      have q9 : decide ((l.length : Int) < (l.length : Int)) = false := decide_eq_false (by omega)
      go_wp2_with fail
      go_ret
      exact ⟨ret_bool HGT.out.all.symm, HBE.out⟩
end Go.Proofs.Ytkpecagkpjabdab
