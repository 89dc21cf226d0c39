/- The walk of TopWithin. Condition: the acts lie in memory, their numbers are of 64 bits. -/
import Derived.Test.YtkpecagkpjabdabGreatGamePlay
import Derived.Test.YtkpecagkpjabdabGreatLawWithin
import Derived.Test.YtkpecagkpjabdabGreatStoreQuery
import Derived.Shelf.Abstract
namespace Go.Proofs.YtkpecagkpjabdabGreat
open Go.RowKit
set_option linter.unusedVariables false
set_option linter.unusedSimpArgs false
set_option maxRecDepth 100000
set_option maxHeartbeats 8000000 in
set_option maxRecDepth 100000 in
theorem topWithin1_calls {w : World} {Q : Nat → Prop} {g : Nat} {G : M.Game} {a : Option Addr} {c : Nat} {sv : Value} {hs : List Value} (h : GameAt w Q g G a c sv hs) (hG : M.GoodG G) (x : M.Act) (r : M.Reply) (ids met : Value)
    (hin : x.kind = 6 → r.code = 0 → ∀ id ∈ M.query G.w.things 11, ∃ m q, M.get G.w.things id = (m, q, true) ∧ (q.W ≤ q.X ∧ q.X ≤ max q.W (G.w.wide - q.W)) ∧ (q.H ≤ q.Y ∧ q.Y ≤ max q.H (G.w.high - q.H)) ∧ (0 ≤ q.W ∧ q.W ≤ 4096) ∧ (0 ≤ q.H ∧ q.H ≤ 4096)) {ai am : Option Addr} {ni ci nm cm : Nat} (hi : ids = .slice ai ni ci) (hm : met = .slice am nm cm) :
    Calls Tryz.prog 10 #[.pointer (some ⟨g, 0, none⟩), actV x, replyV r ids met] w fun e w' => e = .returned (.bool true) ∧ Below w.heap.size w w' := by
  subst hi hm
  by_cases hk : x.kind = 6
  · by_cases hc : r.code = 0
    · have hw1 := hG.w.wide
      have hw2 := hG.w.high
      have HINN := Lib.hid (hin hk hc)
      have q0 : (x.kind != 6) = false := by simpa using hk
      have q1 : (r.code != 0) = false := by simpa using hc
      have HW := Lib.hid (fun U (hb : Below w.heap.size w U) => gworld_calls (h.below hb) hG)
      have GG := Lib.hid hG
      clear h hG hin hk hc
      go_enter Tryz.func10, Tryz.ntmps10
      go_upto_region 4 with (go_at_call 11; go_loud (refine (HW.out _ (by repeat first | with_reducible assumption | with_reducible exact Below.refl _ _ | with_reducible apply Below.drew | with_reducible apply below_drewN | with_reducible apply Below.alloc (hB := (by first | omega | (simp; done) | (simp; omega))) | with_reducible apply Below.setCell (hp := (by first | omega | (simp; done) | (simp; omega))))).mono ?_; rintro e w1 ⟨a1, c1, hs1, rfl, ho1, hb1⟩; have HO1 := Lib.hid ho1; have K1 : Below w.heap.size w w1 := (show Below w.heap.size w _ from (by repeat first | with_reducible assumption | with_reducible exact Below.refl _ _ | with_reducible apply Below.drew | with_reducible apply below_drewN | with_reducible apply Below.alloc (hB := (by first | omega | (simp; done) | (simp; omega))) | with_reducible apply Below.setCell (hp := (by first | omega | (simp; done) | (simp; omega))))).trans (hb1.mono (by first | omega | (simp; done) | (simp; omega))); have kz1 := K1.size; clear ho1))
      refine wp_called (fun W3 hW3 => ?_)
      have B3 : Blk W3 w1.heap.size 41 (worldC (.slice a1 G.w.things.tables.length c1) G.w) := by rw [hW3]; exact Blk.new_at rfl
      have K13 : Below w1.heap.size w1 W3 := by rw [hW3]; exact (by repeat first | with_reducible assumption | with_reducible exact Below.refl _ _ | with_reducible apply Below.drew | with_reducible apply below_drewN | with_reducible apply Below.alloc (hB := (by first | omega | (simp; done) | (simp; omega))) | with_reducible apply Below.setCell (hp := (by first | omega | (simp; done) | (simp; omega))))
      have K3 : Below w.heap.size w W3 := K1.trans (K13.mono kz1)
      have HB3 := Lib.hid B3
      have HK3 := Lib.hid K3
      have kz3 := K3.size
      have lb3 := B3.lt
      have HST3 : Hid (StoreAt W3 0 (stV a1 c1 G.w.things) G.w.things) := Lib.hid ((HO1.out.at_.mono (Nat.zero_le _)).below K13)
      obtain ⟨L, hL⟩ : ∃ L, L = M.query G.w.things 11 := ⟨_, rfl⟩
      have HL := Lib.hid hL
      have z0 := B3.cell 0
      have z1 := B3.cell 1
      simp at z0 z1
      clear hW3 B3 K13 K3 K1 hb1 hL
      go_wp2_with (go_at_call 12; go_loud (refine (query_calls (HST3.out.below (show Below W3.heap.size W3 _ from (by repeat first | with_reducible assumption | with_reducible exact Below.refl _ _ | with_reducible apply Below.drew | with_reducible apply below_drewN | with_reducible apply Below.alloc (hB := (by first | omega | (simp; done) | (simp; omega))) | with_reducible apply Below.setCell (hp := (by first | omega | (simp; done) | (simp; omega)))))) GG.out.w.things 11).mono ?_; rintro e w4 ⟨v4, rfl, ho4, hb4⟩; obtain ⟨a4, c4, rfl⟩ := own_form ho4; have HO4 := Lib.hid ho4; have HB4 := Lib.hid ((show Below W3.heap.size W3 _ from (by repeat first | with_reducible assumption | with_reducible exact Below.refl _ _ | with_reducible apply Below.drew | with_reducible apply below_drewN | with_reducible apply Below.alloc (hB := (by first | omega | (simp; done) | (simp; omega))) | with_reducible apply Below.setCell (hp := (by first | omega | (simp; done) | (simp; omega))))).trans (hb4.mono (by first | omega | (simp; done) | (simp; omega)))); have kz4 := hb4.size; (try simp at kz4); clear ho4 hb4))
      rw [← HL.out] at HO4 ⊢
      have HIT : Hid (IntsAt w4 0 (.slice a4 L.length c4) L) := Lib.hid (Lies.mono (Lies.of_owns HO4.out) (Nat.zero_le _))
      have hlm : L.length ≤ 9223372036854775807 := by have := HIT.out.max; unfold maxLen at this; omega
      clear z0 z1
      go_loopg [27] L.length (fun gh i wr => ∃ n : Nat, n ≤ L.length ∧ i = .int .i64 n ∧ gh = L.length - n ∧ Below w4.heap.size w4 wr)
      case atStart => exact ⟨0, Nat.zero_le _, rfl, rfl, Below.refl _ _⟩
      case round =>
        obtain ⟨wo, hwo⟩ : ∃ wo, wo = wr := ⟨_, rfl⟩
        subst hwo
        obtain ⟨n, hn, rfl, hk, hb⟩ := hrel
        have HB := Lib.hid hb
        have HK := Lib.hid hk
        have ko := hb.size
        have k34 := HB4.out.size
        have K3O : Below W3.heap.size W3 wo := HB4.out.trans (hb.mono k34)
        have k3o := K3O.size
        clear hk hb
        rcases Nat.lt_or_ge n L.length with hlt | hge
        · obtain ⟨id, hid⟩ : ∃ id, L[n]? = some id := ⟨_, List.getElem?_eq_getElem hlt⟩
          obtain ⟨bb, o, cap, e5, _, i0⟩ := (HIT.out.below HB.out).at hid
          obtain ⟨rfl, rfl⟩ : a4 = some ⟨bb, o, none⟩ ∧ c4 = cap := by simpa using e5
          obtain ⟨m, q, hget, ⟨p1, p2⟩, ⟨p3, p4⟩, ⟨p5, p6⟩, p7, p8⟩ := HINN.out id (by rw [← HL.out]; exact List.mem_of_getElem? hid)
          have HGI := Lib.hid (fun U (hb : Below wo.heap.size wo U) => get_calls (HST3.out.below (K3O.trans (hb.mono k3o))) id)
          rw [hget] at HGI
          simp only at HGI
          have bA := HB3.out.below K3O HB3.out.lt
          have x0 := bA.cell 0
          have x1 := bA.cell 1
          have lA := bA.lt
          simp at x0 x1
          have r1 : decide (q.X < q.W) = false := by rw [decide_eq_false_iff_not]; omega
          have r2 : decide (max q.W (G.w.wide - q.W) < q.X) = false := by rw [decide_eq_false_iff_not]; omega
          have r3 : decide (q.Y < q.H) = false := by rw [decide_eq_false_iff_not]; omega
          have r4 : decide (max q.H (G.w.high - q.H) < q.Y) = false := by rw [decide_eq_false_iff_not]; omega
          clear e5 hid hget bA
          go_wp2_with (go_at_call 13; go_loud (refine (HGI.out _ (by repeat first | with_reducible assumption | with_reducible exact Below.refl _ _ | with_reducible apply Below.drew | with_reducible apply below_drewN | with_reducible apply Below.alloc (hB := (by first | omega | (simp; done) | (simp; omega))) | with_reducible apply Below.setCell (hp := (by first | omega | (simp; done) | (simp; omega))))).mono ?_; rintro e w6 ⟨rfl, hb6⟩; have K6 : Below wo.heap.size wo w6 := (show Below wo.heap.size wo _ from (by repeat first | with_reducible assumption | with_reducible exact Below.refl _ _ | with_reducible apply Below.drew | with_reducible apply below_drewN | with_reducible apply Below.alloc (hB := (by first | omega | (simp; done) | (simp; omega))) | with_reducible apply Below.setCell (hp := (by first | omega | (simp; done) | (simp; omega))))).trans (hb6.mono (by first | omega | (simp; done) | (simp; omega))); have kz6 := K6.size; have y6 := HB3.out.below (K3O.trans (K6.mono k3o)) HB3.out.lt; have y3 := y6.cell 3; have y4 := y6.cell 4; simp at y3 y4; have l6 := y6.lt; have n6a : ¬ w1.heap.size = w6.heap.size := (by omega); have n6b : ¬ w6.heap.size = w1.heap.size := (by omega)))
          go_roundg (L.length - (n + 1))
          case measure => rw [HK.out]; omega
          case rel => exact ⟨n + 1, by omega, by go_num, rfl, HB.out.trans ((show Below wo.heap.size wo _ from (by repeat first | with_reducible assumption | with_reducible exact Below.refl _ _ | with_reducible apply Below.drew | with_reducible apply below_drewN | with_reducible apply Below.alloc (hB := (by first | omega | (simp; done) | (simp; omega))) | with_reducible apply Below.setCell (hp := (by first | omega | (simp; done) | (simp; omega))))).mono ko)⟩
        · obtain rfl : n = L.length := by omega
          have q9 : decide ((L.length : Int) < (L.length : Int)) = false := decide_eq_false (by omega)
          go_wp2_with fail
          go_ret
          exact ⟨rfl, HK3.out.trans (K3O.mono kz3)⟩
    · have q0 : (x.kind != 6) = false := by simpa using hk
      have q1 : (r.code != 0) = true := by simpa using hc
      clear h hG hin hk hc
      go_enter Tryz.func10, Tryz.ntmps10
      go_wp2_with fail
      go_ret
      exact ⟨rfl, (by repeat first | with_reducible assumption | with_reducible exact Below.refl _ _ | with_reducible apply Below.drew | with_reducible apply below_drewN | with_reducible apply Below.alloc (hB := (by first | omega | (simp; done) | (simp; omega))) | with_reducible apply Below.setCell (hp := (by first | omega | (simp; done) | (simp; omega))))⟩
  · have q0 : (x.kind != 6) = true := by simpa using hk
    clear h hG hin hk
    go_enter Tryz.func10, Tryz.ntmps10
    go_wp2_with fail
    go_ret
    exact ⟨rfl, (by repeat first | with_reducible assumption | with_reducible exact Below.refl _ _ | with_reducible apply Below.drew | with_reducible apply below_drewN | with_reducible apply Below.alloc (hB := (by first | omega | (simp; done) | (simp; omega))) | with_reducible apply Below.setCell (hp := (by first | omega | (simp; done) | (simp; omega))))⟩
set_option maxHeartbeats 4000000 in
theorem topWithin_walk (size fall : Int) (l : List M.Act) (w : World) {v : Value} (hs : I64 size) (hf : I64 fall) (h : ActsAt w 0 v l ∧ ∀ x ∈ l, ActIn x) :
    Calls Tryz.prog 3 #[.int .i64 size, .int .i64 fall, v] w fun e w' => e = .returned (.bool true) ∧ Below w.heap.size w w' := by
  have HP := Lib.hid (play_calls h.1 h.2 hs hf (f := 10) (Watch.plain fun k x hx _ W Q g a c sv hs ids met hg hi hm => by
    obtain ⟨ai, ci, e1⟩ := own_form hi
    obtain ⟨am, cm, e2⟩ := own_form hm
    exact topWithin1_calls hg (M.playK_good size fall l (k + 1)) x _ ids met (fun h1 h2 => by
      rw [M.playK_succ size fall hx]
      exact fun id hid => M.within_step (M.playK_good size fall l k) h1 h2 hid) e1 e2) (enters_of Tryz.func10 (by kernel_rfl) rfl))
  obtain ⟨av, cv, rfl⟩ := h.1.val
  clear h
  go_enter Tryz.func3, Tryz.ntmps3
  go_wp2_with (go_at_call 9; go_loud (refine HP.out.mono ?_; rintro e w1 ⟨Q, g, a, c, sv, hs, k, rfl, hg, hQ, hb, _, _⟩; have HG := Lib.hid hg; have HQ := Lib.hid hQ; clear hg hQ))
  go_ret
  exact ⟨rfl, hb⟩
end Go.Proofs.YtkpecagkpjabdabGreat
