/- The contract of sweep.Look. Condition: the boxes lie in memory, their numbers are of 64 bits, they are at most 1048576. -/
import Derived.Test.YtkpecagkpjabdabSweepGood
import Derived.Test.YtkpecagkpjabdabStoreQuery
namespace Go.Proofs.Ytkpecagkpjabdab
open Go.RowKit
set_option linter.unusedVariables false
set_option linter.unusedSimpArgs false
set_option maxRecDepth 100000
def M.seen (l : List M.Box) (b : M.Box) : List Int := (l.filter fun a => M.meetB a b).map (·.id)
theorem M.seen_step {l : List M.Box} {n : Nat} {A : M.Box} (b : M.Box) (h : l[n]? = some A) : M.seen (l.take (n + 1)) b = M.seen (l.take n) b ++ (if M.meetB A b = true then [A.id] else []) := by
  unfold M.seen
  rw [List.take_add_one, h, List.filter_append, List.map_append]
  simp only [Option.toList_some, List.filter_cons, List.filter_nil]
  split <;> rfl
theorem M.seen_len (l : List M.Box) (b : M.Box) (n : Nat) : (M.seen (l.take n) b).length ≤ n := by
  unfold M.seen
  rw [List.length_map]
  exact Nat.le_trans (List.length_filter_le _ _) (List.length_take_le _ _)
set_option maxHeartbeats 4000000 in
set_option maxRecDepth 100000 in
theorem look_calls {w : World} {lo : Nat} {v : Value} {l : List M.Box} (h : BoxesAt5 w lo v l) (hin : ∀ b ∈ l, BoxIn b) (hl : l.length ≤ 1048576) (b : M.Box) :
    Calls Try.prog 37 #[v, boxV b] w fun e w' => ∃ v', e = .returned v' ∧ w'.ownsRow w.heap.size 3 1 v' (M.lookB l b).length ((M.lookB l b).map (Value.int .i64)) ∧ Below w.heap.size w w' := by
  have HGD := Lib.hid (fun W (hb : Below w.heap.size w W) => goodB_calls (h.below hb) hin)
  have HBX := Lib.hid h
  obtain ⟨av, cv, rfl⟩ := h.val
  obtain ⟨i0, hi, hz0, hz1, hz2⟩ := info_parts infoInt
  have HI := Lib.hid (And.intro hi (And.intro hz0 (And.intro hz1 hz2)))
  have hlm : l.length ≤ 9223372036854775807 := by omega
  obtain ⟨q, hq⟩ : ∃ q, M.goodB l = q := ⟨_, rfl⟩
  rw [hq] at HGD
  have HQ := Lib.hid hq
  clear h hin hi hz0 hz1 hz2 hq
  cases q
  · have e : M.lookB l b = [] := by unfold M.lookB; rw [HQ.out]; rfl
    rw [e]
    go_enter Try.func37, Try.ntmps37
    go_wp2_with (go_at_call 17; go_loud (refine (HGD.out _ (by repeat first | with_reducible assumption | with_reducible exact Below.refl _ _ | with_reducible apply Below.drew | with_reducible apply below_drewN | with_reducible apply Below.alloc (hB := (by first | omega | (simp; done) | (simp; omega))) | with_reducible apply Below.setCell (hp := (by first | omega | (simp; done) | (simp; omega))))).mono ?_; rintro e w1 ⟨rfl, hb1⟩; have K1 : Below w.heap.size w w1 := (show Below w.heap.size w _ from (by repeat first | with_reducible assumption | with_reducible exact Below.refl _ _ | with_reducible apply Below.drew | with_reducible apply below_drewN | with_reducible apply Below.alloc (hB := (by first | omega | (simp; done) | (simp; omega))) | with_reducible apply Below.setCell (hp := (by first | omega | (simp; done) | (simp; omega))))).trans (hb1.mono (by first | omega | (simp; done) | (simp; omega))); have kz1 := K1.size; have hz1 := hb1.size; (try simp at hz1); have bb1 : Blk w1 w.heap.size 45 (boxC b) := (Blk.new w 45 (boxC b)).below hb1 (by simp)))
    go_ret
    exact ⟨_, rfl, World.ownsRow_nil _ _ _ _, K1⟩
  · have HLK : Hid (M.lookB l b = (M.seen l b).mergeSort (fun a b => decide (a ≤ b))) := Lib.hid (by unfold M.lookB; rw [HQ.out]; rfl)
    obtain ⟨lk, hlk⟩ : ∃ k, M.lookB l b = k := ⟨_, rfl⟩
    rw [hlk]
    have HLN := Lib.hid hlk
    clear hlk
    go_enter Try.func37, Try.ntmps37
    go_wp2_with (go_at_call 17; go_loud (refine (HGD.out _ (by repeat first | with_reducible assumption | with_reducible exact Below.refl _ _ | with_reducible apply Below.drew | with_reducible apply below_drewN | with_reducible apply Below.alloc (hB := (by first | omega | (simp; done) | (simp; omega))) | with_reducible apply Below.setCell (hp := (by first | omega | (simp; done) | (simp; omega))))).mono ?_; rintro e w1 ⟨rfl, hb1⟩; have K1 : Below w.heap.size w w1 := (show Below w.heap.size w _ from (by repeat first | with_reducible assumption | with_reducible exact Below.refl _ _ | with_reducible apply Below.drew | with_reducible apply below_drewN | with_reducible apply Below.alloc (hB := (by first | omega | (simp; done) | (simp; omega))) | with_reducible apply Below.setCell (hp := (by first | omega | (simp; done) | (simp; omega))))).trans (hb1.mono (by first | omega | (simp; done) | (simp; omega))); have kz1 := K1.size; have hz1 := hb1.size; (try simp at hz1); have bb1 : Blk w1 w.heap.size 45 (boxC b) := (Blk.new w 45 (boxC b)).below hb1 (by simp)))
    have HB1 := Lib.hid bb1
    have HK1 := Lib.hid K1
    clear K1 hb1 bb1
    go_loopg [5, 13] l.length (fun g o i wr => ∃ n : Nat, n ≤ l.length ∧ i = .int .i64 n ∧ g = l.length - n ∧ wr.ownsRow w.heap.size 3 1 o (M.seen (l.take n) b).length ((M.seen (l.take n) b).map (Value.int .i64)) ∧ Below w.heap.size w wr ∧ Blk wr w.heap.size 45 (boxC b) ∧ (∀ k, o.ownBlock = some k → w.heap.size < k))
    case atStart => exact ⟨0, Nat.zero_le _, rfl, rfl, World.ownsRow_nil _ _ _ _, HK1.out, HB1.out, fun k e => by cases e⟩
    case round =>
      obtain ⟨wo, hwo⟩ : ∃ wo, wo = wr := ⟨_, rfl⟩
      subst hwo
      obtain ⟨n, hn, rfl, hgk, ho, hb, hbb, hov⟩ := hrel
      have HB := Lib.hid hb
      have HK := Lib.hid hgk
      have HO := Lib.hid ho
      have HBB := Lib.hid hbb
      have HOV := Lib.hid hov
      have kzo := hb.size
      have lbb := hbb.lt
      clear hgk ho hov
      rcases Nat.lt_or_ge n l.length with hlt | hge
      · obtain ⟨A, hA⟩ : ∃ A, l[n]? = some A := ⟨_, List.getElem?_eq_getElem hlt⟩
        obtain ⟨b1, o1, c1, e1, _, i0', i1, i2, i3, i4⟩ := (HBX.out.below HB.out).at5 hA
        obtain ⟨rfl, rfl⟩ : av = some ⟨b1, o1, none⟩ ∧ cv = c1 := by simpa using e1
        have y0 := hbb.cell 0
        have y1 := hbb.cell 1
        have y2 := hbb.cell 2
        have y3 := hbb.cell 3
        have y4 := hbb.cell 4
        simp at y0 y1 y2 y3 y4
        have HS := Lib.hid (M.seen_step b hA)
        have HL : Hid ((M.seen (l.take n) b).length + 1 ≤ 1048577) := Lib.hid (by have := M.seen_len l b n; omega)
        have HME := Lib.hid (fun U => meetB_calls A b U)
        clear e1 hA hb hbb
        cases hm : M.meetB A b
        · rw [hm] at HME HS
          clear hm
          go_wp2_with (go_at_call 20; go_loud (refine (HME.out _).mono ?_; rintro e w6 ⟨rfl, hb6⟩; have K6 : Below wo.heap.size wo w6 := (show Below wo.heap.size wo _ from (by repeat first | with_reducible assumption | with_reducible exact Below.refl _ _ | with_reducible apply Below.drew | with_reducible apply below_drewN | with_reducible apply Below.alloc (hB := (by first | omega | (simp; done) | (simp; omega))) | with_reducible apply Below.setCell (hp := (by first | omega | (simp; done) | (simp; omega))))).trans (hb6.mono (by first | omega | (simp; done) | (simp; omega))); have kz6 := K6.size; have hz6 := hb6.size; (try simp at hz6); have ba6 : Blk w6 wo.heap.size 45 (boxC A) := (Blk.new wo 45 (boxC A)).below hb6 (by simp); have aq0 := ba6.cell 0; simp at aq0; have la6 := ba6.lt))
          go_roundg (l.length - (n + 1))
          case measure => rw [HK.out]; omega
          case rel =>
            have K6' : Below wo.heap.size wo _ := K6
            refine ⟨n + 1, by omega, by go_num, rfl, ?_, HB.out.trans (K6.mono kzo), HBB.out.below K6 HBB.out.lt, HOV.out⟩
            rw [HS.out]
            simpa using own_below HO.out K6
        · rw [hm] at HME HS
          clear hm
          go_wp2_with (first | (go_at_call 20; go_loud (refine (HME.out _).mono ?_; rintro e w6 ⟨rfl, hb6⟩; have K6 : Below wo.heap.size wo w6 := (show Below wo.heap.size wo _ from (by repeat first | with_reducible assumption | with_reducible exact Below.refl _ _ | with_reducible apply Below.drew | with_reducible apply below_drewN | with_reducible apply Below.alloc (hB := (by first | omega | (simp; done) | (simp; omega))) | with_reducible apply Below.setCell (hp := (by first | omega | (simp; done) | (simp; omega))))).trans (hb6.mono (by first | omega | (simp; done) | (simp; omega))); have kz6 := K6.size; have hz6 := hb6.size; (try simp at hz6); have ba6 : Blk w6 wo.heap.size 45 (boxC A) := (Blk.new wo 45 (boxC A)).below hb6 (by simp); have aq0 := ba6.cell 0; simp at aq0; have la6 := ba6.lt)) | (at_builtin; refine wpList_append_own_at _ rfl (.tmp 20) (.tmp 23) _ rfl w.heap.size 3 i0 _ 1 8 Try.underlying50 HI.out.1 HI.out.2.1 HI.out.2.2.1 HI.out.2.2.2 rfl (by omega) _ _ _ rfl (own_below HO.out (show Below wo.heap.size wo _ from (by repeat first | with_reducible assumption | with_reducible exact Below.refl _ _ | with_reducible apply Below.drew | with_reducible apply below_drewN | with_reducible apply Below.alloc (hB := (by first | omega | (simp; done) | (simp; omega))) | with_reducible apply Below.setCell (hp := (by first | omega | (simp; done) | (simp; omega)))))) ⟨w6.heap.size, 0, none⟩ 1 1 [.int .i64 A.id] rfl rfl (by intro j u hu; match j, hu with | 0, hu => (simp at hu; subst hu; rw [Addr.add_lit]; simp) | j + 1, hu => simp at hu) (by intro u hu; simp at hu; subst hu; rfl) (by have := HL.out; unfold maxLen; omega) (by have := HL.out; omega) (by simp; omega) ?_; intro v9 w9 hown9 hg9 _ hat9; have HO9 := Lib.hid hown9; have HB9 : Hid (Below w.heap.size w w9) := Lib.hid ((HB.out.trans ((show Below wo.heap.size wo _ from (by repeat first | with_reducible assumption | with_reducible exact Below.refl _ _ | with_reducible apply Below.drew | with_reducible apply below_drewN | with_reducible apply Below.alloc (hB := (by first | omega | (simp; done) | (simp; omega))) | with_reducible apply Below.setCell (hp := (by first | omega | (simp; done) | (simp; omega))))).mono kzo)).grown hg9 (by simp; omega) (fun k hk => (HO.out.lt k hk).1)); have HG9 := Lib.hid hg9; have HA9 := Lib.hid hat9; clear hown9 hg9 hat9))
          go_roundg (l.length - (n + 1))
          case measure => rw [HK.out]; omega
          case rel =>
            refine ⟨n + 1, by omega, by go_num, rfl, ?_, HB9.out, ?_, ?_⟩
            · have := HO9.out
              rw [HS.out]
              simpa using this
            · have bb := (HBB.out.below K6 HBB.out.lt).alloc (.cells #[Value.int IntKind.i64 A.id] 3)
              exact (HG9.out.block _ bb.lt (fun e => by have := HOV.out _ e.symm; omega)).trans bb
            · intro k e
              rcases HA9.out with q | q
              · exact HOV.out k (q ▸ e)
              · rw [q] at e
                simp at e
                omega
      · obtain rfl : n = l.length := by omega
        rw [List.take_length] at HO
        have hsl : (M.seen l b).length ≤ 1048576 := by have := M.seen_len l b l.length; rw [List.take_length] at this; omega
        have HSO := Lib.hid (sort_own HO.out (by omega) kzo)
        have q9 : decide ((l.length : Int) < (l.length : Int)) = false := decide_eq_false (by omega)
        clear hsl hb hbb
        go_wp2_with (go_at_call 55; go_loud (refine HSO.out.mono ?_; rintro e w5 ⟨rfl, ho5, hb5⟩))
        go_ret
        refine ⟨_, rfl, ?_, HB.out.trans hb5⟩
        rw [← HLN.out, HLK.out]
        simpa using ho5
end Go.Proofs.Ytkpecagkpjabdab
