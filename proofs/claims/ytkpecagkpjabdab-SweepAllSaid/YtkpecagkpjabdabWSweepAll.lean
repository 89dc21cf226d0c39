/- The walk of SweepAll. Condition: the boxes lie in memory, their numbers are of 64 bits. -/
import Derived.Test.YtkpecagkpjabdabSweeps
namespace Go.Proofs.Ytkpecagkpjabdab
open Go.RowKit
set_option linter.unusedVariables false
set_option linter.unusedSimpArgs false
set_option maxRecDepth 100000

theorem meets1_comm (P : List M.Box) (a b : M.Box) : M.meetB a b = M.meetB b a := M.meetB_comm a b
/-- who meets is told -/
theorem told {l : List M.Box} {ps : List M.Pr} (hps : ps = M.sortP (M.allP l)) {n k : Nat} {a b : M.Box} (ha : l[n]? = some a) (hb : l[k]? = some b) (hk : k < n) (hm : M.meetB a b = true) : M.pairOf a.id b.id ∈ ps := by
  rw [hps]
  unfold M.sortP
  rw [List.mem_mergeSort]
  exact M.mem_allP.2 ⟨n, k, hk, b, a, hb, ha, by rw [M.meetB_comm]; exact hm, M.pairOf_comm _ _⟩

set_option maxHeartbeats 8000000 in
theorem sweepAll_walk (l : List M.Box) (w : World) {v : Value} (hw0 : BoxesAt5 w 0 v l ∧ (∀ b ∈ l, BoxIn b) ∧ CapOk v) :
    Calls Try.prog 4 #[v] w fun e w' => e = .returned (.bool true) ∧ Below w.heap.size w w' := by
  obtain ⟨h, hin, hcap⟩ := hw0
  have HGD := Lib.hid (show Calls Try.prog 17 #[v] w _ from goodB_calls h hin)
  obtain ⟨av, cv, rfl⟩ := h.val
  obtain ⟨_, _, _, ec, hc1, hc2⟩ := hcap
  simp only [Value.slice.injEq] at ec
  obtain ⟨rfl, rfl, rfl⟩ := ec
  have hc63 : cv ≤ 9223372036854775807 := by unfold maxLen at hc2; omega
  by_cases hgl : M.goodB l = true ∧ l.length ≤ 60
  · obtain ⟨hg, h60⟩ := hgl
    rw [hg] at HGD
    have HPA := Lib.hid (fun W (hb : Below w.heap.size w W) => pairs_calls (h.below hb) hin (by omega))
    obtain ⟨ps, hps⟩ : ∃ ps, ps = M.pairs l := ⟨_, rfl⟩
    rw [← hps] at HPA
    have HPE : Hid (ps = M.sortP (M.allP l)) := Lib.hid (by rw [hps]; unfold M.pairs; rw [if_pos hg])
    have HBX := Lib.hid h
    have q60 : decide ((60 : Int) < (l.length : Int)) = false := decide_eq_false (by omega)
    have hall : ∀ n, (M.allP (l.take n)).length ≤ 3600 := fun n => by
      have h1 := allP_few (l.take n)
      have h2 : (l.take n).length ≤ 60 := by rw [List.length_take]; omega
      have h3 : (l.take n).length * (l.take n).length ≤ 60 * 60 := Nat.mul_le_mul h2 h2
      omega
    have HALL := Lib.hid hall
    have hpl : ps.length ≤ 3600 := by
      rw [HPE.out]; unfold M.sortP; rw [List.length_mergeSort]
      have := hall l.length; rw [List.take_length] at this; exact this
    have hpm : ps.length ≤ 9223372036854775807 := by omega
    have NX := fun (a b : M.Pr) w => pair_eql a b w
    have HNX := Lib.hid NX
    clear hg h hin hps hall NX
    go_enter Try.func4, Try.ntmps4
    go_wp2_with (first | (go_at_call 17; refine (HGD.out).mono ?_; rintro e w1 ⟨rfl, hb1⟩; have kz1 := hb1.size) | (go_at_call 19; refine (HPA.out _ hb1).mono ?_; rintro e w2 ⟨v2, rfl, ho2, hb2⟩; obtain ⟨a2, c2, rfl⟩ := own_form ho2; have kz2 := hb2.size; have K2 : Below w.heap.size w w2 := hb1.trans (hb2.mono kz1); have HPS : Hid (PairsAt w2 0 (.slice a2 ps.length c2) ps) := Lib.hid (Lies.mono (Lies.of_owns ho2) (Nat.zero_le _)); clear ho2))
    have HK2 := Lib.hid K2
    clear K2 hb1 hb2
    go_loopg [3, 25] l.length (fun g c i wr => ∃ n : Nat, n ≤ l.length ∧ i = .int .i64 n ∧ g = l.length - n ∧ c = .int .i64 ((M.allP (l.take n)).length : Nat) ∧ Below w2.heap.size w2 wr)
    case atStart => exact ⟨0, Nat.zero_le _, rfl, rfl, rfl, Below.refl _ _⟩
    case round =>
      obtain ⟨wo, hwo⟩ : ∃ wo, wo = wr := ⟨_, rfl⟩
      subst hwo
      obtain ⟨n, hn, rfl, hk, rfl, hb⟩ := hrel
      have HB := Lib.hid hb
      have HK := Lib.hid hk
      have KO : Below w.heap.size w wo := HK2.out.trans (hb.mono (by have := HK2.out.size; omega))
      have ko := hb.size
      clear hk
      rcases Nat.lt_or_ge n l.length with hlt | hge
      · obtain ⟨A, hA⟩ : ∃ A, l[n]? = some A := ⟨_, List.getElem?_eq_getElem hlt⟩
        obtain ⟨b1, o1, c1, e1, _, i0, i1, i2, i3, i4⟩ := (HBX.out.below KO).at5 hA
        obtain ⟨rfl, rfl⟩ : av = some ⟨b1, o1, none⟩ ∧ cv = c1 := by simpa using e1
        have HAN := Lib.hid hA
        have hnc : n ≤ cv := by omega
        have HST0 : Hid (M.allP (l.take (n + 1)) = M.allP (l.take n) ++ M.meets1 (l.take n) A) := Lib.hid (by
          rw [List.take_add_one, hA]
          exact M.allP_snoc _ _)
        clear e1 hA
        obtain ⟨cn, hcn⟩ : ∃ cn, cn = (M.allP (l.take n)).length := ⟨_, rfl⟩
        have hcn3 : cn ≤ 3600 := by rw [hcn]; exact HALL.out n
        rw [← hcn]
        have HCN := Lib.hid hcn
        clear hcn
        go_wp2_with fail
        obtain ⟨ga, hga⟩ : ∃ ga, ga = wo.heap.size := ⟨_, rfl⟩
        have BA : Blk (wo.alloc (.cells (boxC A) 45)) ga 45 (boxC A) := by rw [hga]; exact Blk.new wo 45 (boxC A)
        have BA0 := Lib.hid BA
        rw [← hga]
        have hgal : w2.heap.size ≤ ga := by omega
        clear BA hga i0 i1 i2 i3 i4
        go_loopg [3, 34] n (fun g c i wq => ∃ k : Nat, k ≤ n ∧ i = .int .i64 k ∧ g = n - k ∧ c = .int .i64 ((cn + (M.meets1 (l.take k) A).length : Nat) : Int) ∧ Below w2.heap.size w2 wq ∧ Blk wq ga 45 (boxC A))
        case atStart => exact ⟨0, Nat.zero_le _, rfl, rfl, by simp [M.meets1], HB.out.alloc (by omega) _, BA0.out⟩
        case round =>
          obtain ⟨wq, hwq⟩ : ∃ wq, wq = wr := ⟨_, rfl⟩
          subst hwq
          obtain ⟨k, hk, rfl, hgk, rfl, hbq, baq⟩ := hrel
          have HBQ := Lib.hid hbq
          have BAQ := Lib.hid baq
          have HK3 := Lib.hid hgk
          have KQ : Below w.heap.size w wq := HK2.out.trans (hbq.mono (by have := HK2.out.size; omega))
          have kq := hbq.size
          have aq0 := baq.cell 0
          have aq1 := baq.cell 1
          have aq2 := baq.cell 2
          have aq3 := baq.cell 3
          have aq4 := baq.cell 4
          simp at aq0 aq1 aq2 aq3 aq4
          have laq := baq.lt
          clear hgk baq
          rcases Nat.lt_or_ge k n with hlt2 | hge2
          · obtain ⟨B, hB⟩ : ∃ B, l[k]? = some B := ⟨_, List.getElem?_eq_getElem (by omega)⟩
            obtain ⟨b1', o1', c1', e1, _, i0, i1, i2, i3, i4⟩ := (HBX.out.below KQ).at5 hB
            simp only [Value.slice.injEq, Option.some.injEq, Addr.mk.injEq, true_and, and_true] at e1
            obtain ⟨⟨rfl, rfl⟩, rfl⟩ := e1
            have HBN := Lib.hid hB
            have hm1 : (M.meets1 (l.take k) A).length ≤ 60 := Nat.le_trans (meets1_le _ _) (by rw [List.length_take]; omega)
            have HST := Lib.hid (meets1_step A hB)
            obtain ⟨ck, hck⟩ : ∃ ck, ck = (M.meets1 (l.take k) A).length := ⟨_, rfl⟩
            rw [← hck] at hm1
            rw [← hck]
            have HCK := Lib.hid hck
            clear hck hB
            have HME : Hid (∀ W, Calls Try.prog 20 #[boxV A, boxV B] W fun e w' => e = .returned (.bool (M.meetB A B)) ∧ Below W.heap.size W w') := Lib.hid (fun W => meetB_calls A B W)
            cases hm : M.meetB A B
            · rw [hm] at HME
              have hm2 : M.meetB B A = false := by rw [M.meetB_comm]; exact hm
              rw [hm2] at HST
              clear hm hm2
              go_wp2_with (go_at_call 20; refine (HME.out _).mono ?_; rintro e w6 ⟨rfl, hb6⟩; have K6 : Below wq.heap.size wq w6 := (show Below wq.heap.size wq _ from (by repeat first | with_reducible assumption | with_reducible exact Below.refl _ _ | with_reducible apply Below.drew | with_reducible apply below_drewN | with_reducible apply Below.alloc (hB := (by first | omega | (simp; done) | (simp; omega))) | with_reducible apply Below.setCell (hp := (by first | omega | (simp; done) | (simp; omega))))).trans (hb6.mono (by first | omega | (simp; done) | (simp; omega))); have kz6 := K6.size; have hz6 := hb6.size; (try simp at hz6); have ba6 : Blk w6 ga 45 (boxC A) := BAQ.out.below K6 BAQ.out.lt; have bb6 : Blk w6 wq.heap.size 45 (boxC B) := (Blk.new wq 45 (boxC B)).below hb6 (by first | omega | (simp; done) | (simp; omega)))
              go_roundg (n - (k + 1))
              case measure => rw [HK3.out]; omega
              case rel =>
                refine ⟨k + 1, by omega, by go_num, rfl, ?_, HBQ.out.trans (K6.mono kq), ba6⟩
                rw [HST.out, HCK.out]
                simp
            · rw [hm] at HME
              have hm2 : M.meetB B A = true := by rw [M.meetB_comm]; exact hm
              rw [hm2] at HST
              obtain ⟨pr, hpr⟩ : ∃ pr, pr = M.pairOf A.id B.id := ⟨_, rfl⟩
              have HIN : Hid (pr ∈ ps) := Lib.hid (by rw [hpr]; exact told HPE.out HAN.out HBN.out hlt2 hm)
              have hpr1 : min A.id B.id = pr.1 := by rw [hpr]; rfl
              have hpr2 : max A.id B.id = pr.2 := by rw [hpr]; rfl
              have HPR := Lib.hid (And.intro hpr1 hpr2)
              clear hm hm2 hpr hpr1 hpr2
              go_wp2_with (go_at_call 20; refine (HME.out _).mono ?_; rintro e w6 ⟨rfl, hb6⟩; have K6 : Below wq.heap.size wq w6 := (show Below wq.heap.size wq _ from (by repeat first | with_reducible assumption | with_reducible exact Below.refl _ _ | with_reducible apply Below.drew | with_reducible apply below_drewN | with_reducible apply Below.alloc (hB := (by first | omega | (simp; done) | (simp; omega))) | with_reducible apply Below.setCell (hp := (by first | omega | (simp; done) | (simp; omega))))).trans (hb6.mono (by first | omega | (simp; done) | (simp; omega))); have kz6 := K6.size; have hz6 := hb6.size; (try simp at hz6); have ba6 : Blk w6 ga 45 (boxC A) := BAQ.out.below K6 BAQ.out.lt; have bb6 : Blk w6 wq.heap.size 45 (boxC B) := (Blk.new wq 45 (boxC B)).below hb6 (by first | omega | (simp; done) | (simp; omega)))
              obtain ⟨gb, hgb⟩ : ∃ gb, gb = wq.heap.size := ⟨_, rfl⟩
              rw [← hgb] at bb6
              rw [← hgb]
              have BB6 := Lib.hid bb6
              have BA6 := Lib.hid ba6
              have HK6 := Lib.hid (HBQ.out.trans (K6.mono kq))
              clear hgb bb6 ba6 i0 i1 i2 i3 i4 aq0 aq1 aq2 aq3 aq4
              go_loopg [9, 46] ps.length (fun g t i wp => ∃ j : Nat, j ≤ ps.length ∧ i = .int .i64 j ∧ g = ps.length - j ∧ t = .bool (decide (pr ∈ ps.take j)) ∧ Below w2.heap.size w2 wp ∧ Blk wp ga 45 (boxC A) ∧ Blk wp gb 45 (boxC B))
              case atStart => exact ⟨0, Nat.zero_le _, rfl, rfl, by simp, HK6.out, BA6.out, BB6.out⟩
              case round =>
                obtain ⟨wp, hwp⟩ : ∃ wp, wp = wr := ⟨_, rfl⟩
                subst hwp
                obtain ⟨j, hj, rfl, hgj, rfl, hbp, bap, bbp⟩ := hrel
                have HBP := Lib.hid hbp
                have BAP := Lib.hid bap
                have BBP := Lib.hid bbp
                have HK7 := Lib.hid hgj
                have kp := hbp.size
                have ap0 := bap.cell 0
                have bp0 := bbp.cell 0
                simp at ap0 bp0
                have lap := bap.lt
                have lbp := bbp.lt
                clear hgj bap bbp
                rcases Nat.lt_or_ge j ps.length with hlt3 | hge3
                · obtain ⟨p, hp⟩ : ∃ p, ps[j]? = some p := ⟨_, List.getElem?_eq_getElem hlt3⟩
                  obtain ⟨b3, o3, c3, e3, _, p0, p1⟩ := (HPS.out.below hbp).at2 hp
                  obtain ⟨rfl, rfl⟩ : a2 = some ⟨b3, o3, none⟩ ∧ c2 = c3 := by simpa using e3
                  have HTK : Hid (ps.take (j + 1) = ps.take j ++ [p]) := Lib.hid (by rw [List.take_add_one, hp]; rfl)
                  have NX : ∀ w, (binOp .eql 48 (.agg #[.int .i64 p.1, .int .i64 p.2]) (.agg #[.int .i64 pr.1, .int .i64 pr.2])).run Try.prog w = .ok (.bool (decide (p = pr))) w := fun w => HNX.out p pr w
                  have hq1 := HPR.out.1
                  have hq2 := HPR.out.2
                  clear e3 hp
                  by_cases hin : pr ∈ ps.take j
                  · have q9 : decide (pr ∈ ps.take j) = true := decide_eq_true hin
                    have HI := Lib.hid hin
                    rw [q9]
                    clear hin q9
                    go_wp2_with fail
                    go_roundg (ps.length - (j + 1))
                    case measure => rw [HK7.out]; omega
                    case rel => exact ⟨j + 1, by omega, by go_num, rfl, by rw [HTK.out, decide_eq_true (List.mem_append.2 (.inl HI.out))], HBP.out.alloc (by omega) _, BAP.out.alloc _, BBP.out.alloc _⟩
                  · have q9 : decide (pr ∈ ps.take j) = false := decide_eq_false hin
                    have HI := Lib.hid hin
                    rw [q9]
                    clear hin q9
                    obtain ⟨q, hq⟩ : ∃ q, q = decide (p = pr) := ⟨_, rfl⟩
                    rw [← hq] at NX
                    have HQ := Lib.hid hq
                    clear hq
                    go_wp2_with fail
                    go_roundg (ps.length - (j + 1))
                    case measure => rw [HK7.out]; omega
                    case rel =>
                      refine ⟨j + 1, by omega, by go_num, rfl, ?_, HBP.out.alloc (by omega) _, BAP.out.alloc _, BBP.out.alloc _⟩
                      rw [HTK.out, HQ.out]
                      congr 1
                      rw [decide_eq_decide]
                      simp only [List.mem_append, List.mem_singleton]
                      exact ⟨fun e => .inr e.symm, fun e => (e.resolve_left HI.out).symm⟩
                · obtain rfl : j = ps.length := by omega
                  rw [List.take_length, decide_eq_true HIN.out]
                  go_wp2_with fail
                  go_roundg (n - (k + 1))
                  case measure => rw [HK3.out]; omega
                  case rel =>
                    refine ⟨k + 1, by omega, by go_num, rfl, ?_, HBP.out, BAP.out⟩
                    rw [HST.out, List.length_append, ← HCK.out]
                    first | rfl | go_num
          · obtain rfl : k = n := by omega
            go_wp2_with fail
            go_roundg (l.length - (k + 1))
            case measure => rw [HK.out]; omega
            case rel =>
              refine ⟨k + 1, by omega, by go_num, rfl, ?_, HBQ.out⟩
              rw [HST0.out, List.length_append, ← HCN.out]
      · obtain rfl : n = l.length := by omega
        have hle : (M.allP l).length = ps.length := by rw [HPE.out]; unfold M.sortP; exact (List.length_mergeSort _).symm
        rw [List.take_length, hle]
        clear hle
        go_wp2_with (go_at_call 18; refine (sweeps_calls _).mono ?_; rintro e w9 ⟨rfl, hb9⟩)
        go_ret
        exact ⟨rfl, KO.trans (hb9.mono (by have := KO.size; omega))⟩
  · clear h hin
    by_cases hg : M.goodB l = true
    · rw [hg] at HGD
      have q60 : decide ((60 : Int) < (l.length : Int)) = true := decide_eq_true (by
        false_or_by_contra
        rename_i hn
        exact hgl ⟨hg, by omega⟩)
      clear hgl hg
      go_enter Try.func4, Try.ntmps4
      go_wp2_with (first | (go_at_call 17; refine (HGD.out).mono ?_; rintro e w1 ⟨rfl, hb1⟩; have kz1 := hb1.size) | (go_at_call 18; refine (sweeps_calls _).mono ?_; rintro e w9 ⟨rfl, hb9⟩))
      go_ret
      exact ⟨rfl, hb1.trans (hb9.mono kz1)⟩
    · have hg0 : M.goodB l = false := by simpa using hg
      rw [hg0] at HGD
      clear hgl hg hg0
      go_enter Try.func4, Try.ntmps4
      go_wp2_with (first | (go_at_call 17; refine (HGD.out).mono ?_; rintro e w1 ⟨rfl, hb1⟩; have kz1 := hb1.size) | (go_at_call 18; refine (sweeps_calls _).mono ?_; rintro e w9 ⟨rfl, hb9⟩))
      go_ret
      exact ⟨rfl, hb1.trans (hb9.mono kz1)⟩
end Go.Proofs.Ytkpecagkpjabdab
