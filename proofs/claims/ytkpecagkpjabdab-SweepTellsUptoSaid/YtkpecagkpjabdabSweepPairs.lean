/- The contract of sweep.Pairs: all pairs of boxes that overlap, by number. Condition: a million boxes at most; numbers of 64 bits. -/
import Derived.Test.YtkpecagkpjabdabSweepState
import Derived.Maps.AppendAt
namespace Go.Proofs.Ytkpecagkpjabdab
open Go.RowKit
set_option linter.unusedVariables false
set_option linter.unusedSimpArgs false
set_option maxRecDepth 100000

/-! plain: which boxes may still be met -/
def OpenAt (zs P : List M.Box) (n : Nat) : Prop := ∃ e : Int, (∀ b ∈ zs.drop n, e ≤ b.x1) ∧ P = (zs.take n).filter (fun a => decide (e < a.x2))
theorem open_start (zs : List M.Box) (h : ∀ b ∈ zs, BoxIn b) : OpenAt zs [] 0 := ⟨-9223372036854775808, fun b hb => (h b (by simpa using hb)).2.1.1, by simp⟩
theorem open_over {zs P : List M.Box} {n : Nat} {b : M.Box} (h : OpenAt zs P n) (hb : zs[n]? = some b) : (P.filter fun a => !M.isOver b.x1 a) = (zs.take n).filter (fun a => decide (b.x1 < a.x2)) := by
  obtain ⟨e, h1, rfl⟩ := h
  have hl := (List.getElem?_eq_some_iff.1 hb).1
  exact M.open_step (zs.take n) e b (h1 b (by rw [List.mem_drop_iff_getElem]; exact ⟨0, by omega, by simpa using (List.getElem?_eq_some_iff.1 hb).2⟩))
theorem open_next {zs : List M.Box} {n : Nat} {b : M.Box} (hs : zs.Pairwise (fun a b => a.x1 ≤ b.x1)) (hb : zs[n]? = some b) (hx : b.x1 < b.x2) : OpenAt zs ((zs.take n).filter (fun a => decide (b.x1 < a.x2)) ++ [b]) (n + 1) := by
  refine ⟨b.x1, fun c hc => ?_, ?_⟩
  · obtain ⟨i, hi, e⟩ := List.getElem_of_mem hc
    rw [List.getElem_drop] at e
    rw [List.length_drop] at hi
    have hl := (List.getElem?_eq_some_iff.1 hb)
    have := List.pairwise_iff_getElem.1 hs n (n + 1 + i) hl.1 (by omega) (by omega)
    rw [hl.2, e] at this
    exact this
  · rw [List.take_add_one, hb, List.filter_append]
    simp [hx]
theorem meets1_step {P : List M.Box} {k : Nat} {a : M.Box} (b : M.Box) (h : P[k]? = some a) : M.meets1 (P.take (k + 1)) b = M.meets1 (P.take k) b ++ (if M.meetB a b then [M.pairOf a.id b.id] else []) := by
  unfold M.meets1
  rw [List.take_add_one, h, List.filter_append, List.map_append]
  simp only [Option.toList_some, List.filter_cons, List.filter_nil]
  split <;> rfl
theorem meets1_le (P : List M.Box) (b : M.Box) : (M.meets1 P b).length ≤ P.length := by unfold M.meets1; rw [List.length_map]; exact List.length_filter_le _ _
theorem allP_few (l : List M.Box) : 2 * (M.allP l).length + l.length ≤ l.length * l.length := by
  induction l using M.snocInd with
  | nil => simp [M.allP_nil]
  | snoc l b ih =>
    rw [M.allP_snoc]
    have h1 := meets1_le l b
    simp only [List.length_append, List.length_cons, List.length_nil]
    have h2 : (l.length + (0 + 1)) * (l.length + (0 + 1)) = l.length * l.length + 2 * l.length + 1 := by grind
    omega
theorem allP_small (l : List M.Box) (h : l.length ≤ 1048576) : (M.allP l).length ≤ 549755813888 := by
  have h1 := allP_few l
  have h2 : l.length * l.length ≤ 1048576 * 1048576 := Nat.mul_le_mul h h
  omega
theorem infoPair : (Try.prog.info? 48).map (fun i => (i.zero, i.size, i.bytes)) = some (some (pairV (0, 0)), 2, 16) := by kernel_rfl

set_option maxHeartbeats 8000000 in
theorem pairs_calls {w : World} {lo : Nat} {v : Value} {l : List M.Box} (h : BoxesAt5 w lo v l) (hin : ∀ b ∈ l, BoxIn b) (hl : l.length ≤ 1048576) :
    Calls Try.prog 19 #[v] w fun e w' => ∃ v', e = .returned v' ∧ w'.ownsRow w.heap.size 48 2 v' (M.pairs l).length ((M.pairs l).flatMap pairL) ∧ Below w.heap.size w w' := by
  have HGD := Lib.hid (fun (_ : Unit) => goodB_calls h hin)
  by_cases hg : M.goodB l = true
  · rw [hg] at HGD
    have HGD := Lib.hid (show Calls Try.prog 17 #[v] w _ from HGD.out ())
    have HCL := Lib.hid (fun W (hb : Below w.heap.size w W) => clone_boxes (h.below hb) (by omega))
    have hgb : M.GoodB l := by simpa [M.goodB] using hg
    obtain ⟨i1, hi1, hz11, hz12, hz13⟩ := info_parts infoBox
    obtain ⟨i2, hi2, hz21, hz22, hz23⟩ := info_parts infoPair
    have I1 := Lib.hid (And.intro hi1 (And.intro hz11 (And.intro hz12 hz13)))
    have I2 := Lib.hid (And.intro hi2 (And.intro hz21 (And.intro hz22 hz23)))
    have HIN := Lib.hid hin
    have HGB := Lib.hid hgb
    have HR : Hid (M.pairs l = M.sortP (M.allP l)) := Lib.hid (by unfold M.pairs; rw [if_pos hg])
    have hmf : ∀ (fn : Fn) (first cap : Array Value) (w : World), (Instr.makeFunc fn first cap).run Try.prog w = .ok (.func fn first cap) w := fun _ _ _ _ => rfl
    obtain ⟨av, cv, rfl⟩ := h.val
    clear h hin hg hgb hi1 hz11 hz12 hz13 hi2 hz21 hz22 hz23
    go_enter Try.func19, Try.ntmps19
    go_wp2_with (first | (go_at_call 17; refine HGD.out.mono ?_; rintro e w1 ⟨rfl, hb1⟩; have kz1 := hb1.size) | (go_at_call 45; refine (HCL.out _ hb1).mono ?_; rintro e w2 ⟨v3, rfl, ho2, hb2⟩; obtain ⟨a3, c3, rfl⟩ := own_form ho2; have kz2 := hb2.size; have K2 : Below w.heap.size w w2 := hb1.trans (hb2.mono kz1)) | (go_at_call 46; refine (sortB_own (own_mono ho2 kz1) (by omega)).mono ?_; rintro e w3 ⟨rfl, zs, hperm, hsorted, ho3, hg3⟩; have HP := Lib.hid hperm; have HS := Lib.hid hsorted; have K3 : Below w.heap.size w w3 := K2.grown hg3 (by omega) (fun k hk => by have := (ho2.lt k hk).1; omega); have hlen : l.length = zs.length := hperm.length_eq.symm; rw [hlen] at ho3; clear hperm hsorted))
    have hlz : zs.length ≤ 1048576 := by omega
    have HGZ : Hid (M.GoodB zs) := Lib.hid (by have := M.goodB_perm HP.out; have h2 : M.goodB l = true := decide_eq_true HGB.out; rw [h2] at this; simpa [M.goodB] using this)
    have HIZ : Hid (∀ b ∈ zs, BoxIn b) := Lib.hid (fun b hb => HIN.out b (HP.out.mem_iff.1 hb))
    have hzmax : zs.length ≤ 9223372036854775807 := by omega
    have HO3 := Lib.hid ho3
    have HK3 := Lib.hid K3
    clear ho2 hb1 hb2 hg3 K2 K3 kz1 kz2
    go_loopg [4, 5, 19] zs.length (fun g vo vp i wr => ∃ (n : Nat) (P : List M.Box), n ≤ zs.length ∧ i = .int .i64 n ∧ g = zs.length - n ∧ OpenAt zs P n ∧ SW w wr (.slice a3 zs.length c3) zs vo vp (M.allP (zs.take n)) P)
    case atStart =>
      refine ⟨0, [], Nat.zero_le _, rfl, rfl, open_start zs HIZ.out, ⟨?_, World.ownsRow_nil _ _ _ _, World.ownsRow_nil _ _ _ _, fun g _ => ⟨by simp [Value.ownBlock], by simp [Value.ownBlock]⟩, fun g e => by simp [Value.ownBlock] at e, HK3.out⟩⟩
      exact HO3.out
    case round =>
      obtain ⟨wo, hwo⟩ : ∃ wo, wo = wr := ⟨_, rfl⟩
      subst hwo
      obtain ⟨n, P, hn, rfl, hk, hop, hsw⟩ := hrel
      have HSW := Lib.hid hsw
      have HOP := Lib.hid hop
      have HK := Lib.hid hk
      have ko := hsw.size
      clear hop hk
      rcases Nat.lt_or_ge n zs.length with hlt | hge
      · obtain ⟨b, hbn⟩ : ∃ b, zs[n]? = some b := ⟨_, List.getElem?_eq_getElem hlt⟩
        obtain ⟨g3, c3', e3, _, hg3l⟩ := own_val hsw.row (by omega)
        obtain ⟨rfl, rfl⟩ : a3 = some ⟨g3, 0, none⟩ ∧ c3 = c3' := by simpa using e3
        have kc : ∀ k, k < 5 → wo.cell? ⟨g3, n * 5 + k, none⟩ = (boxL b)[k]? := fun k hk => (hsw.row.cellAt (n * 5 + k) (by omega)).trans (flat_at boxL 5 (fun _ => rfl) zs n k hbn hk)
        have k0 := kc 0 (by omega)
        have k1 := kc 1 (by omega)
        have k2 := kc 2 (by omega)
        have k3 := kc 3 (by omega)
        have k4 := kc 4 (by omega)
        simp only [boxL, Nat.add_zero, List.getElem?_cons_zero, List.getElem?_cons_succ] at k0 k1 k2 k3 k4
        have hgood := HGZ.out.1 b (List.mem_of_getElem? hbn)
        have HBN := Lib.hid hbn
        have HXX := Lib.hid hgood
        obtain ⟨av5, cv5, rfl⟩ := own_form hsw.opn
        clear hsw kc e3 hbn hgood
        go_wp2_with (go_at_call 50; refine (deleteFunc_own (zs := P) (e := b.x1) (own_below HSW.out.opn ((Below.refl _ wo).alloc (Nat.le_refl _) (.cells (boxC b) 45))) (by simp) (HSW.out.notOpen (Nat.le_refl _)).1).mono ?_; rintro r w4 ⟨vp4, rfl, ho4, hg4, hat4⟩; have bb4 : Blk w4 wo.heap.size 45 (boxC b) := (hg4.block wo.heap.size (by simp) (fun e => (HSW.out.notOpen (Nat.le_refl _)).1 e.symm)).trans (Blk.new wo 45 (boxC b)); have HS4 := Lib.hid ((HSW.out.keep ((Below.refl _ wo).alloc (Nat.le_refl _) (.cells (boxC b) 45))).turnOpen hg4 ho4 (.inl hat4)); obtain ⟨a4, c4, rfl⟩ := own_form ho4; clear ho4 hg4 hat4)
        obtain ⟨P4, hP4⟩ : ∃ P4, P4 = P.filter fun a => !M.isOver b.x1 a := ⟨_, rfl⟩
        have HP4 := Lib.hid hP4
        have HE4 : Hid (P4 = (zs.take n).filter (fun a => decide (b.x1 < a.x2))) := Lib.hid (by rw [hP4]; exact open_over HOP.out HBN.out)
        rw [← hP4] at HS4
        rw [← hP4]
        clear hP4
        obtain ⟨gb, hgb⟩ : ∃ gb, gb = wo.heap.size := ⟨_, rfl⟩
        rw [← hgb] at bb4
        rw [← hgb]
        have HNB := Lib.hid (show _ ≠ some gb from by rw [hgb]; exact (HSW.out.notOpen (Nat.le_refl _)).2)
        have HGBL := Lib.hid hgb
        clear hgb
        have BB4 := Lib.hid bb4
        have hP4l : P4.length ≤ n := by rw [HE4.out]; exact Nat.le_trans (List.length_filter_le _ _) (by rw [List.length_take]; omega)
        have HA0 : Hid ((M.allP (zs.take n)).length ≤ 549755813888) := Lib.hid (allP_small _ (by rw [List.length_take]; omega))
        clear bb4 k0 k1 k2 k3 k4
        go_loopg [4, 28] P4.length (fun g vo i wq => ∃ k : Nat, k ≤ P4.length ∧ i = .int .i64 k ∧ g = P4.length - k ∧ SW w wq (.slice (some ⟨g3, 0, none⟩) zs.length c3) zs vo (.slice a4 P4.length c4) (M.allP (zs.take n) ++ M.meets1 (P4.take k) b) P4 ∧ Blk wq gb 45 (boxC b) ∧ vo.ownBlock ≠ some gb)
        case atStart => exact ⟨0, Nat.zero_le _, rfl, rfl, by simpa [M.meets1] using HS4.out, BB4.out, HNB.out⟩
        case round =>
          obtain ⟨wq, hwq⟩ : ∃ wq, wq = wr := ⟨_, rfl⟩
          subst hwq
          obtain ⟨k, hk, rfl, hgk, hsq, hbq, hnb⟩ := hrel
          have HNB2 := Lib.hid hnb
          clear hnb
          have HSQ := Lib.hid hsq
          have BBQ := Lib.hid hbq
          have HK2 := Lib.hid hgk
          have bq0 := hbq.cell 0
          have bq1 := hbq.cell 1
          have bq2 := hbq.cell 2
          have bq3 := hbq.cell 3
          have bq4 := hbq.cell 4
          simp at bq0 bq1 bq2 bq3 bq4
          have lbq := hbq.lt
          clear hgk hbq
          rcases Nat.lt_or_ge k P4.length with hlt2 | hge2
          · obtain ⟨a, hak⟩ : ∃ a, P4[k]? = some a := ⟨_, List.getElem?_eq_getElem hlt2⟩
            obtain ⟨g4, c4', e4, _, hg4l⟩ := own_val hsq.opn (by omega)
            obtain ⟨rfl, rfl⟩ : a4 = some ⟨g4, 0, none⟩ ∧ c4 = c4' := by simpa using e4
            have kc : ∀ j, j < 5 → wq.cell? ⟨g4, k * 5 + j, none⟩ = (boxL a)[j]? := fun j hj => (hsq.opn.cellAt (k * 5 + j) (by omega)).trans (flat_at boxL 5 (fun _ => rfl) P4 k j hak hj)
            have k0 := kc 0 (by omega)
            have k1 := kc 1 (by omega)
            have k2 := kc 2 (by omega)
            have k3 := kc 3 (by omega)
            have k4 := kc 4 (by omega)
            simp only [boxL, Nat.add_zero, List.getElem?_cons_zero, List.getElem?_cons_succ] at k0 k1 k2 k3 k4
            have HST := Lib.hid (meets1_step b hak)
            have HLM : Hid ((M.meets1 (P4.take k) b).length ≤ 1048576) := Lib.hid (Nat.le_trans (meets1_le _ b) (by rw [List.length_take]; omega))
            obtain ⟨O, hO⟩ : ∃ O, O = M.allP (zs.take n) ++ M.meets1 (P4.take k) b := ⟨_, rfl⟩
            have HOO := Lib.hid hO
            have HLO : Hid (O.length ≤ 549756862464) := Lib.hid (by rw [hO, List.length_append]; have h1 := HA0.out; have h2 := HLM.out; omega)
            rw [← hO] at HSQ hsq
            have hmax4 : P4.length ≤ 9223372036854775807 := by omega
            have HME : Hid (∀ W, Calls Try.prog 20 #[boxV a, boxV b] W fun e w' => e = .returned (.bool (M.meetB a b)) ∧ Below W.heap.size W w') := Lib.hid (fun W => meetB_calls a b W)
            obtain ⟨avo, cvo, rfl⟩ := own_form hsq.out
            clear hsq kc e4 hak hO
            cases hm : M.meetB a b
            · rw [hm] at HME HST
              clear hm
              go_wp2_with (go_at_call 20; refine (HME.out _).mono ?_; rintro e w6 ⟨rfl, hb6⟩; have K6 : Below wq.heap.size wq w6 := (show Below wq.heap.size wq _ from (by repeat first | with_reducible assumption | with_reducible exact Below.refl _ _ | with_reducible apply Below.drew | with_reducible apply below_drewN | with_reducible apply Below.alloc (hB := (by first | omega | (simp; done) | (simp; omega))) | with_reducible apply Below.setCell (hp := (by first | omega | (simp; done) | (simp; omega))))).trans (hb6.mono (by first | omega | (simp; done) | (simp; omega))); have kz6 := K6.size; have hz6 := hb6.size; (try simp at hz6); have ba6 : Blk w6 wq.heap.size 45 (boxC a) := (Blk.new wq 45 (boxC a)).below hb6 (by first | omega | (simp; done) | (simp; omega)); have bb6 : Blk w6 gb 45 (boxC b) := BBQ.out.below K6 BBQ.out.lt; have p0 := ba6.cell 0; have p1 := ba6.cell 1; have p2 := ba6.cell 2; have p3 := ba6.cell 3; have p4 := ba6.cell 4; simp at p0 p1 p2 p3 p4; have q0 := bb6.cell 0; have q1 := bb6.cell 1; have q2 := bb6.cell 2; have q3 := bb6.cell 3; have q4 := bb6.cell 4; simp at q0 q1 q2 q3 q4; have la6 := ba6.lt; have lb6 := bb6.lt)
              go_roundg (P4.length - (k + 1))
              case measure => rw [HK2.out]; omega
              case rel =>
                refine ⟨k + 1, by omega, by go_num, rfl, ?_, bb6, HNB2.out⟩
                rw [HST.out]
                simp only [Bool.false_eq_true, if_false, List.append_nil]
                rw [← HOO.out]
                exact HSQ.out.keep K6
            · rw [hm] at HME HST
              clear hm
              go_wp2_with (first | (go_at_call 20; refine (HME.out _).mono ?_; rintro e w6 ⟨rfl, hb6⟩; have K6 : Below wq.heap.size wq w6 := (show Below wq.heap.size wq _ from (by repeat first | with_reducible assumption | with_reducible exact Below.refl _ _ | with_reducible apply Below.drew | with_reducible apply below_drewN | with_reducible apply Below.alloc (hB := (by first | omega | (simp; done) | (simp; omega))) | with_reducible apply Below.setCell (hp := (by first | omega | (simp; done) | (simp; omega))))).trans (hb6.mono (by first | omega | (simp; done) | (simp; omega))); have kz6 := K6.size; have hz6 := hb6.size; (try simp at hz6); have ba6 : Blk w6 wq.heap.size 45 (boxC a) := (Blk.new wq 45 (boxC a)).below hb6 (by first | omega | (simp; done) | (simp; omega)); have bb6 : Blk w6 gb 45 (boxC b) := BBQ.out.below K6 BBQ.out.lt; have p0 := ba6.cell 0; have p1 := ba6.cell 1; have p2 := ba6.cell 2; have p3 := ba6.cell 3; have p4 := ba6.cell 4; simp at p0 p1 p2 p3 p4; have q0 := bb6.cell 0; have q1 := bb6.cell 1; have q2 := bb6.cell 2; have q3 := bb6.cell 3; have q4 := bb6.cell 4; simp at q0 q1 q2 q3 q4; have la6 := ba6.lt; have lb6 := bb6.lt) | (go_at_call 52; refine (pair_calls _ _ _).mono ?_; rintro e w7 ⟨rfl, hb7⟩; have K7 : Below wq.heap.size wq w7 := K6.trans ((show Below wq.heap.size w6 _ from (by repeat first | with_reducible assumption | with_reducible exact Below.refl _ _ | with_reducible apply Below.drew | with_reducible apply below_drewN | with_reducible apply Below.alloc (hB := (by first | omega | (simp; done) | (simp; omega))) | with_reducible apply Below.setCell (hp := (by first | omega | (simp; done) | (simp; omega))))).trans (hb7.mono (by omega))); have kz7 := K7.size) | (at_builtin; refine wpList_append_own_at _ rfl (.tmp 35) (.tmp 41) _ rfl w.heap.size 48 i2 _ 2 16 Try.underlying42 I2.out.1 I2.out.2.1 I2.out.2.2.1 I2.out.2.2.2 rfl (by omega) _ O.length (O.flatMap pairL) rfl (own_below HSQ.out.out (show Below wq.heap.size wq _ from (by repeat first | with_reducible assumption | with_reducible exact Below.refl _ _ | with_reducible apply Below.drew | with_reducible apply below_drewN | with_reducible apply Below.alloc (hB := (by first | omega | (simp; done) | (simp; omega))) | with_reducible apply Below.setCell (hp := (by first | omega | (simp; done) | (simp; omega)))))) ⟨w7.heap.size, 0, none⟩ 1 1 (pairL (M.pairOf a.id b.id)) rfl rfl (by intro j u hu; rw [Addr.add_lit]; match j, hu with | 0, hu => (simp [pairL] at hu; subst hu; simp) | 1, hu => (simp [pairL] at hu; subst hu; simp) | j + 2, hu => simp [pairL] at hu) (by intro u hu; exact pairs_one [M.pairOf a.id b.id] u (by simpa using hu)) (by have := HLO.out; unfold maxLen; omega) (by have := HLO.out; omega) (by have := HSQ.out.size; simp; omega) ?_; intro v8 w8 hown8 hg8 _ hat8))
              go_roundg (P4.length - (k + 1))
              case measure => rw [HK2.out]; omega
              case rel =>
                have KB : Below wq.heap.size wq (w7.alloc (.cells #[.int .i64 (M.pairOf a.id b.id).1, .int .i64 (M.pairOf a.id b.id).2] 48)) := K7.alloc (by omega) _
                refine ⟨k + 1, by omega, by go_num, rfl, ?_, ?_, ?_⟩
                · rw [HST.out]
                  simp only [if_true]
                  rw [← List.append_assoc, ← HOO.out]
                  refine (HSQ.out.keep KB).turnOut hg8 ?_ ?_
                  · rw [List.length_append, List.flatMap_append]
                    simpa using hown8
                  · rcases hat8 with e | e
                    · exact .inl e
                    · exact .inr ⟨_, e, Nat.le_refl _⟩
                · have b7 := BBQ.out.below KB BBQ.out.lt
                  exact (hg8.block gb (by have := b7.lt; exact this) (fun e => HNB2.out e.symm)).trans b7
                · rcases hat8 with e | e
                  · rw [e]; exact HNB2.out
                  · rw [e]; intro e2; simp only [Option.some.injEq, World.size_alloc] at e2; omega
          · obtain rfl : k = P4.length := by omega
            rw [List.take_length] at HSQ hsq
            obtain ⟨O, hO⟩ : ∃ O, O = M.allP (zs.take n) ++ M.meets1 P4 b := ⟨_, rfl⟩
            rw [← hO] at HSQ hsq
            have HOO := Lib.hid hO
            have HLP : Hid (P4.length ≤ 1048576) := Lib.hid (by omega)
            obtain ⟨avo, cvo, rfl⟩ := own_form hsq.out
            clear hsq hO
            go_wp2_with (at_builtin; refine wpList_append_own_at _ rfl (.tmp 44) (.tmp 46) _ rfl w.heap.size 45 i1 _ 5 40 Try.underlying40 I1.out.1 I1.out.2.1 I1.out.2.2.1 I1.out.2.2.2 rfl (by omega) _ P4.length (P4.flatMap boxL) rfl (own_below HSQ.out.opn (show Below wq.heap.size wq _ from (by repeat first | with_reducible assumption | with_reducible exact Below.refl _ _ | with_reducible apply Below.drew | with_reducible apply below_drewN | with_reducible apply Below.alloc (hB := (by first | omega | (simp; done) | (simp; omega))) | with_reducible apply Below.setCell (hp := (by first | omega | (simp; done) | (simp; omega)))))) ⟨wq.heap.size, 0, none⟩ 1 1 (boxL b) rfl rfl (by intro j u hu; rw [Addr.add_lit]; match j, hu with | 0, hu => (simp [boxL] at hu; subst hu; simp) | 1, hu => (simp [boxL] at hu; subst hu; simp) | 2, hu => (simp [boxL] at hu; subst hu; simp) | 3, hu => (simp [boxL] at hu; subst hu; simp) | 4, hu => (simp [boxL] at hu; subst hu; simp) | j + 5, hu => simp [boxL] at hu) (by intro u hu; exact boxes_one [b] u (by simpa using hu)) (by have := HLP.out; unfold maxLen; omega) (by have := HLP.out; omega) (by have := HSQ.out.size; simp; omega) ?_; intro v9 w9 hown9 hg9 _ hat9)
            go_roundg (zs.length - (n + 1))
            case measure => rw [HK.out]; omega
            case rel =>
              have KB : Below wq.heap.size wq (wq.alloc (.cells (boxC b) 45)) := (Below.refl _ wq).alloc (Nat.le_refl _) _
              refine ⟨n + 1, P4 ++ [b], by omega, by go_num, rfl, by rw [HE4.out]; exact open_next HS.out HBN.out HXX.out.1, ?_⟩
              have ea : M.allP (zs.take (n + 1)) = M.allP (zs.take n) ++ M.meets1 P4 b := by
                rw [List.take_add_one, HBN.out]
                show M.allP (zs.take n ++ [b]) = _
                rw [M.allP_snoc, M.meets1_open (seen := zs.take n) (op := P4) (by rw [HE4.out]; exact M.open_meets _ _)]
              rw [ea, ← HOO.out]
              refine (HSQ.out.keep KB).turnOpen hg9 ?_ ?_
              · rw [List.length_append, List.flatMap_append]
                simpa using hown9
              · rcases hat9 with e | e
                · exact .inl e
                · exact .inr ⟨_, e, Nat.le_refl _⟩
      · obtain rfl : n = zs.length := by omega
        rw [List.take_length] at HSW
        have HLS : Hid ((M.allP zs).length < 4611686018427387904) := Lib.hid (by have := allP_small zs hlz; omega)
        obtain ⟨avo, cvo, rfl⟩ := own_form HSW.out.out
        clear hsw
        go_wp2_with (go_at_call 53; refine (sortP_own HSW.out.out HLS.out).mono ?_; rintro e w5 ⟨rfl, ho5, hg5⟩)
        go_ret
        have he : M.pairs l = M.sortP (M.allP zs) := by rw [HR.out]; exact M.sortP_perm (M.allP_perm HP.out.symm)
        rw [he]
        refine ⟨_, rfl, ?_, HSW.out.below.grown hg5 HSW.out.size (fun k hk => (HSW.out.out.lt k hk).1)⟩
        have el : (M.sortP (M.allP zs)).length = (M.allP zs).length := by unfold M.sortP; exact List.length_mergeSort _
        rw [el]
        exact ho5
  · have hg0 : M.goodB l = false := by simpa using hg
    have HR : Hid (M.pairs l = []) := Lib.hid (by unfold M.pairs; rw [hg0]; rfl)
    rw [hg0] at HGD
    have HGD := Lib.hid (show Calls Try.prog 17 #[v] w _ from HGD.out ())
    rw [HR.out]
    obtain ⟨av, cv, rfl⟩ := h.val
    clear h hin hg hg0
    go_enter Try.func19, Try.ntmps19
    go_wp2_with (go_at_call 17; refine HGD.out.mono ?_; rintro e w1 ⟨rfl, hb1⟩)
    go_ret
    exact ⟨_, rfl, World.ownsRow_nil _ _ _ _, hb1⟩
end Go.Proofs.Ytkpecagkpjabdab
