/- Several small texts in one. No condition of its own: each part says its own. -/
import Derived.Test.YtkpecagkpjabdacGreatBagH
import Derived.Test.YtkpecagkpjabdacGreatBagO
import Derived.Test.YtkpecagkpjabdacGreatBagT2
import Derived.Maps.AppendAt
import Derived.Laws.Rows
import Derived.Test.YtkpecagkpjabdacGreatBagD3
import Derived.Test.YtkpecagkpjabdacGreatBagP
import Derived.Test.YtkpecagkpjabdacGreatKit
/- The contracts of game.copied and of a game's World: a world in memory of its own. Condition: the world lies in memory and is good. -/
namespace Go.Proofs.YtkpecagkpjabdacGreat
open Go.RowKit
set_option linter.unusedVariables false
set_option linter.unusedSimpArgs false
set_option maxRecDepth 100000
abbrev worldC (vt : Value) (d : M.Wd) : Array Value := #[vt, .int .i64 d.things.next, .int .i64 d.fall, .int .i64 d.wide, .int .i64 d.high]
theorem world5_blk {U : World} {b : Nat} {z0 z1 z2 z3 z4 : Value} (h : Blk U b 33 #[z0, z1, z2, z3, z4]) (c0 c1 c2 c3 c4 : Value) :
    (((((U.setCell ⟨b, 0, none⟩ c0).setCell ⟨b, 1, none⟩ c1).setCell ⟨b, 2, none⟩ c2).setCell ⟨b, 3, none⟩ c3).setCell ⟨b, 4, none⟩ c4).heap[b]? = some (.cells #[c0, c1, c2, c3, c4] 33 (0, 0)) :=
  blk_to (((((h.put 0 c0).put 1 c1).put 2 c2).put 3 c3).put 4 c4) (by rfl)
set_option maxHeartbeats 8000000 in
set_option maxRecDepth 100000 in
theorem copied_calls {w : World} {lo : Nat} {a : Option Addr} {c : Nat} {d : M.Wd} (h : StoreAt w lo (stV a c d.things) d.things) (hg : M.GoodS d.things) :
    Calls Tryz.prog 31 #[.agg (worldC (.slice a d.things.tables.length c) d)] w fun e w' => ∃ a' c' hs', e = .returned (.agg (worldC (.slice a' d.things.tables.length c') d)) ∧ OwnTabs w' w.heap.size (.slice a' d.things.tables.length c') d.things.tables hs' ∧ Below w.heap.size w w' := by
  obtain ⟨vt0, ev, hs0, hT⟩ := h
  obtain rfl : vt0 = .slice a d.things.tables.length c := by simpa using ev.symm
  have hs := (good_bounds hg).short
  have hmx : d.things.tables.length ≤ 9223372036854775807 := by have := hT.max; unfold maxLen at this; omega
  have hfew : d.things.tables.length * 56 ≤ 140737488355328 := hs.1
  have HT := Lib.hid hT
  have HSH := Lib.hid hs
  obtain ⟨i0, hi, hz0, hz1, hz2⟩ := info_parts infoTable
  have HI := Lib.hid (And.intro hi (And.intro hz0 (And.intro hz1 hz2)))
  clear hT hs ev hg hi hz0 hz1 hz2
  go_enter Tryz.func31, Tryz.ntmps31
  go_wp2_with fail
  refine wp_called (fun ws hws => ?_)
  have KS : Below w.heap.size w ws := by rw [hws]; exact (by repeat first | with_reducible assumption | with_reducible exact Below.refl _ _ | with_reducible apply Below.drew | with_reducible apply below_drewN | with_reducible apply Below.alloc (hB := (by first | omega | (simp; done) | (simp; omega))) | with_reducible apply Below.setCell (hp := (by first | omega | (simp; done) | (simp; omega))))
  have hzs : ws.heap.size = w.heap.size + 2 := by rw [hws]; simp [World.setCell]
  have B0 : Blk ws w.heap.size 33 (worldC (.slice none 0 0) d) := by
    rw [hws]
    apply blk_to
    · exact (Blk.new_at rfl).alloc _
    · rfl
  have B1 : Blk ws (w.heap.size + 1) 33 #[.slice none 0 0, .int .i64 0, .int .i64 0, .int .i64 0, .int .i64 0] := by
    rw [hws]
    apply blk_to
    · exact Blk.new_at (by simp)
    · rfl
  clear hws
  go_loopg [13] d.things.tables.length (fun gh i wr => ∃ (n : Nat) (hs' : List (Value × Value)) (a' : Option Addr) (c' : Nat), n ≤ d.things.tables.length ∧ i = .int .i64 n ∧ gh = d.things.tables.length - n ∧ OwnTabs wr (w.heap.size + 2) (.slice a' n c') (d.things.tables.take n) hs' ∧ Blk wr w.heap.size 33 (worldC (.slice a' n c') d) ∧ Blk wr (w.heap.size + 1) 33 #[.slice none 0 0, .int .i64 0, .int .i64 0, .int .i64 0, .int .i64 0] ∧ Below w.heap.size w wr)
  case atStart => exact ⟨0, [], none, 0, Nat.zero_le _, rfl, rfl, OwnTabs.nil _ _, B0, B1, KS⟩
  case round =>
    obtain ⟨wo, hwo⟩ : ∃ wo, wo = wr := ⟨_, rfl⟩
    subst hwo
    obtain ⟨n, hs', a', c', hn, rfl, hgk, hown, hb0, hb1, hbl⟩ := hrel
    have HG := Lib.hid hgk
    have HO := Lib.hid hown
    have HB0 := Lib.hid hb0
    have HB1 := Lib.hid hb1
    have HB := Lib.hid hbl
    have l0 := hb0.lt
    have l1 := hb1.lt
    clear hgk hown hb0 hb1 hbl KS B0 B1
    rcases Nat.lt_or_ge n d.things.tables.length with hlt | hge
    · obtain ⟨t, ht⟩ : ∃ t, d.things.tables[n]? = some t := ⟨_, List.getElem?_eq_getElem hlt⟩
      obtain ⟨b, o, cap', a1, cp1, a2, cp2, e, hlo, hp, c0, c1, c2, h1, h2⟩ := (HT.out.below HB.out).at2 ht
      obtain ⟨rfl, rfl⟩ : a = some ⟨b, o, none⟩ ∧ c = cap' := by simpa using e
      obtain ⟨⟨ne1, ne2⟩, sz1, sz2⟩ := HSH.out.2 t (List.mem_of_getElem? ht)
      have L1 : Hid (0 < t.ids.length) := Lib.hid (List.length_pos_iff.2 ne1)
      have L2 : Hid (0 < t.rows.length) := Lib.hid (List.length_pos_iff.2 ne2)
      have HHT := Lib.hid ht
      have HH1 := Lib.hid h1
      have HH2 := Lib.hid h2
      clear e hlo hp h1 h2 ht
      go_upto_region 6 with fail
      obtain ⟨wl, hwl⟩ : ∃ wl, wl = wo.alloc (.cells #[.int .i64 t.mask, .slice a1 t.ids.length cp1, .slice a2 t.rows.length cp2] 80) := ⟨_, rfl⟩
      rw [← hwl]
      have BT : Blk wl wo.heap.size 80 #[.int .i64 t.mask, .slice a1 t.ids.length cp1, .slice a2 t.rows.length cp2] := by rw [hwl]; exact Blk.new_at rfl
      have HBT := Lib.hid BT
      have HKL : Hid (Below wo.heap.size wo wl) := Lib.hid (by rw [hwl]; exact (by repeat first | with_reducible assumption | with_reducible exact Below.refl _ _ | with_reducible apply Below.drew | with_reducible apply below_drewN | with_reducible apply Below.alloc (hB := (by first | omega | (simp; done) | (simp; omega))) | with_reducible apply Below.setCell (hp := (by first | omega | (simp; done) | (simp; omega)))))
      have kl := HKL.out.size
      have CI := Lib.hid (fun W (hb : Below wl.heap.size wl W) => clone_ints ((HH1.out.below HKL.out).below hb) ne1 sz1)
      have CR := Lib.hid (fun W (hb : Below wl.heap.size wl W) => clone_rows ((HH2.out.below HKL.out).below hb) ne2 sz2)
      have T1 := BT.cell 1
      have T2 := BT.cell 2
      have TF := fun j => BT.free j
      have lt7 := BT.lt
      simp at T1 T2
      clear hwl c0 c1 c2 ne1 ne2 sz1 sz2 BT
      go_region_with (first | (go_at_call 55; refine (CI.out _ (by repeat first | with_reducible assumption | with_reducible exact Below.refl _ _ | with_reducible apply Below.drew | with_reducible apply below_drewN | with_reducible apply Below.alloc (hB := (by first | omega | (simp; done) | (simp; omega))) | with_reducible apply Below.setCell (hp := (by first | omega | (simp; done) | (simp; omega))))).mono ?_; rintro e w5 ⟨v1, rfl, hr1, hb5⟩; obtain ⟨gi, ci, rfl, hgi, hgi2⟩ := own_val hr1 L1.out; have hz5 := hb5.size; (try simp only [World.size_alloc, World.size_drew] at hz5 hgi); have hb5' : Below wl.heap.size wl w5 := (show Below wl.heap.size wl _ from (by repeat first | with_reducible assumption | with_reducible exact Below.refl _ _ | with_reducible apply Below.drew | with_reducible apply below_drewN | with_reducible apply Below.alloc (hB := (by first | omega | (simp; done) | (simp; omega))) | with_reducible apply Below.setCell (hp := (by first | omega | (simp; done) | (simp; omega))))).trans (hb5.mono (by first | exact Nat.le_refl _ | (simp; done) | (simp; omega) | omega)); have S15 := below_cell T1 hb5'; have S25 := below_cell T2 hb5'; have SF5 := (fun j => (hb5'.frozen (p := ⟨wo.heap.size, j, none⟩) (by simp; omega)).trans (TF j))) | (go_at_call 56; refine (CR.out _ (by repeat first | with_reducible assumption | with_reducible exact Below.refl _ _ | with_reducible apply Below.drew | with_reducible apply below_drewN | with_reducible apply Below.alloc (hB := (by first | omega | (simp; done) | (simp; omega))) | with_reducible apply Below.setCell (hp := (by first | omega | (simp; done) | (simp; omega))))).mono ?_; rintro e w6 ⟨v2, rfl, hr2, hb6⟩; obtain ⟨gr, cr, rfl, hgr, hgr2⟩ := own_val hr2 L2.out; have hz6 := hb6.size; (try simp only [World.size_alloc, World.size_drew] at hz6 hgr); have hb6' : Below wl.heap.size wl w6 := (show Below wl.heap.size wl _ from (by repeat first | with_reducible assumption | with_reducible exact Below.refl _ _ | with_reducible apply Below.drew | with_reducible apply below_drewN | with_reducible apply Below.alloc (hB := (by first | omega | (simp; done) | (simp; omega))) | with_reducible apply Below.setCell (hp := (by first | omega | (simp; done) | (simp; omega))))).trans (hb6.mono (by first | exact Nat.le_refl _ | (simp; done) | (simp; omega) | omega)); have S16 := below_cell T1 hb6'; have S26 := below_cell T2 hb6'; have SF6 := (fun j => (hb6'.frozen (p := ⟨wo.heap.size, j, none⟩) (by simp; omega)).trans (TF j))))
      all_goals
        go_upto_region 7 with (fail)
        refine wp_called (fun W3 hW3 => ?_)
        have K3 : Below wo.heap.size wo W3 := by rw [hW3]; exact ((HKL.out.trans (hb6'.mono kl)).setCell (by first | omega | (simp; done)) _).setCell (by first | omega | (simp; done)) _
        have bt3 : Blk W3 wo.heap.size 80 #[.int .i64 t.mask, .slice (some ⟨gi, 0, none⟩) t.ids.length ci, .slice (some ⟨gr, 0, none⟩) t.rows.length cr] := by
          rw [hW3]
          apply blk_to
          · exact ((HBT.out.below hb6' HBT.out.lt).put _ _).put _ _
          · rfl
        have HK3 := Lib.hid K3
        have kz3 := K3.size
        have far3 : ∀ g, g ≠ wo.heap.size → W3.heap[g]? = w6.heap[g]? := by
          intro g hg
          rw [hW3, Below.heap_setCell _ _ _ _ hg, Below.heap_setCell _ _ _ _ hg]
        have z3 : W3.heap.size = w6.heap.size := by rw [hW3]; simp [World.setCell]
        have fgi : ∀ g, (Value.slice (some ⟨gi, 0, none⟩) t.ids.length ci).ownBlock = some g → g ≠ wo.heap.size := by
          intro g hg
          have : g = gi := by simpa [Value.ownBlock] using hg.symm
          omega
        have fgr : ∀ g, (Value.slice (some ⟨gr, 0, none⟩) t.rows.length cr).ownBlock = some g → g ≠ wo.heap.size := by
          intro g hg
          have : g = gr := by simpa [Value.ownBlock] using hg.symm
          omega
        have HR1 : Hid (W3.ownsRow wl.heap.size 3 1 (.slice (some ⟨gi, 0, none⟩) t.ids.length ci) t.ids.length (t.ids.map (Value.int .i64))) := Lib.hid (own_same (own_lower (own_below hr1 (by first | exact hb6 | exact hb6')) (by first | omega | (simp; done) | (simp; omega))) (fun g hg => far3 g (fgi g hg)))
        have HR2 : Hid (W3.ownsRow wl.heap.size 23 8 (.slice (some ⟨gr, 0, none⟩) t.rows.length cr) t.rows.length (t.rows.flatMap rowL)) := Lib.hid (own_same (own_lower hr2 (by first | omega | (simp; done) | (simp; omega))) (fun g hg => far3 g (fgr g hg)))
        have ngg : ¬ gi = gr := by omega
        have HB03 := Lib.hid (HB0.out.below K3 HB0.out.lt)
        have HB13 := Lib.hid (HB1.out.below K3 HB1.out.lt)
        have HO3 := Lib.hid (HO.out.same (Nat.le_refl _) (fun g _ h2 => K3.block g h2))
        have HOB : Hid (∀ g, (Value.slice a' n c').ownBlock = some g → w.heap.size + 2 ≤ g ∧ g < wo.heap.size) := Lib.hid (fun g e => HO.out.row.lt g e)
        have lgi : gi < W3.heap.size := by omega
        have lgr : gr < W3.heap.size := by omega
        have p0 := HB03.out.cell 0
        simp at p0
        have q0 := bt3.cell 0
        have q1 := bt3.cell 1
        have q2 := bt3.cell 2
        simp at q0 q1 q2
        have lq := bt3.lt
        have htl : (d.things.tables.take n).length = n := by rw [List.length_take]; omega
        have HTL := Lib.hid htl
        have HROW : Hid (W3.ownsRow (w.heap.size + 2) 80 3 (.slice a' n c') n (tabL (d.things.tables.take n) hs')) := Lib.hid (by
          have := HO3.out.row
          rw [htl] at this
          exact this)
        clear fgi fgr hW3 K3 bt3 far3 z3 hr1 hb5 hb5' hr2 hb6 hb6' S15 S25 SF5 S16 S26 SF6 htl T1 T2 TF
        go_wp2_with (at_builtin; refine wpList_append_own_at _ rfl (.tmp 27) (.tmp 29) _ rfl (w.heap.size + 2) 80 i0 _ 3 56 Tryz.underlying29 HI.out.1 HI.out.2.1 HI.out.2.2.1 HI.out.2.2.2 rfl (by omega) _ n _ rfl (own_below HROW.out (show Below W3.heap.size W3 _ from (by repeat first | with_reducible assumption | with_reducible exact Below.refl _ _ | with_reducible apply Below.drew | with_reducible apply below_drewN | with_reducible apply Below.alloc (hB := (by first | omega | (simp; done) | (simp; omega))) | with_reducible apply Below.setCell (hp := (by first | omega | (simp; done) | (simp; omega)))))) ⟨W3.heap.size, 0, none⟩ 1 1 [.int .i64 t.mask, .slice (some ⟨gi, 0, none⟩) t.ids.length ci, .slice (some ⟨gr, 0, none⟩) t.rows.length cr] rfl rfl (by intro j u hu; rw [Addr.add_lit]; match j, hu with | 0, hu => (simp at hu; subst hu; simp) | 1, hu => (simp at hu; subst hu; simp) | 2, hu => (simp at hu; subst hu; simp) | j + 3, hu => simp at hu) (by intro u hu; simp at hu; rcases hu with rfl | rfl | rfl <;> rfl) (by unfold maxLen; omega) (by omega) (by simp; omega) ?_; intro v9 w9 hown9 hg9 _ hat9; obtain ⟨a9, c9, rfl⟩ := own_form hown9; have HO9 := Lib.hid hown9; have HG9 := Lib.hid hg9; have HA9 := Lib.hid hat9; have b09 := Blk.grown (HB03.out.alloc _) hg9 (fun e => by have := HOB.out _ e; omega); have HB09 := Lib.hid b09; have u0 := b09.cell 0; have uf := (fun i => b09.free i); simp at u0; have lu := b09.lt; clear hown9 hg9 hat9 b09)
        go_roundg (d.things.tables.length - (n + 1))
        case measure => rw [HG.out]; omega
        case rel =>
          refine ⟨n + 1, hs' ++ [(.slice (some ⟨gi, 0, none⟩) t.ids.length ci, .slice (some ⟨gr, 0, none⟩) t.rows.length cr)], a9, c9, by omega, by go_num, rfl, ?_, ?_, ?_, ?_⟩
          · rw [show d.things.tables.take (n + 1) = d.things.tables.take n ++ [t] by rw [List.take_add_one, HHT.out]; rfl]
            have same9 : ∀ g, g < W3.heap.size → (Value.slice a' n c').ownBlock ≠ some g → w9.heap[g]? = W3.heap[g]? := fun g h1 h2 => (HG9.out.block g (by simp; omega) (fun e => h2 e.symm)).trans (Below.heap_alloc _ _ g h1)
            refine HO.out.snoc ?_ ?_ ?_ ?_ ?_ ?_ ?_ ?_
            · rw [HTL.out]
              exact own_same HO9.out (fun g e => Below.heap_setCell _ _ _ _ (by have := (HO9.out.lt g e).1; simp; omega))
            · intro g h1 h2 h3
              exact (Below.heap_setCell _ _ _ _ (by simp; omega)).trans ((same9 g (by omega) h3).trans (HK3.out.block g h2))
            · refine own_lower (own_same HR1.out (fun g e => ?_)) (by omega)
              have eg : g = gi := by simpa [Value.ownBlock] using e.symm
              exact (Below.heap_setCell _ _ _ _ (by simp; omega)).trans (same9 g (by omega) (fun e => by have := HOB.out g e; omega))
            · refine own_lower (own_same HR2.out (fun g e => ?_)) (by omega)
              have eg : g = gr := by simpa [Value.ownBlock] using e.symm
              exact (Below.heap_setCell _ _ _ _ (by simp; omega)).trans (same9 g (by omega) (fun e => by have := HOB.out g e; omega))
            · intro g e
              have eg : g = gi := by simpa [Value.ownBlock] using e.symm
              omega
            · intro g e
              have eg : g = gr := by simpa [Value.ownBlock] using e.symm
              omega
            · intro g e1 e2
              have eg : g = gi := by simpa [Value.ownBlock] using e1.symm
              have eg : g = gr := by simpa [Value.ownBlock] using e2.symm
              omega
            · rcases HA9.out with k | k
              · exact .inl k
              · refine .inr ⟨_, k, by simp; omega, fun e => ?_, fun e => ?_⟩
                · simp [Value.ownBlock] at e
                  omega
                · simp [Value.ownBlock] at e
                  omega
          · exact blk_to (HB09.out.put 0 _) (by rfl)
          · exact (Blk.grown (HB13.out.alloc _) HG9.out (fun e => by have := HOB.out _ e; omega)).far (by simp) _
          · refine ((HB.out.trans (HK3.out.mono (by omega))).alloc (by omega) _ |>.grown HG9.out (by simp; omega) (fun k hk => by have := HOB.out k hk; omega)).setCell (by simp) _
    · obtain rfl : n = d.things.tables.length := by omega
      have q9 : decide ((d.things.tables.length : Int) < (d.things.tables.length : Int)) = false := decide_eq_false (by omega)
      have p0 := HB0.out.cell 0
      have p1 := HB0.out.cell 1
      have p2 := HB0.out.cell 2
      have p3 := HB0.out.cell 3
      have p4 := HB0.out.cell 4
      have r0 := HB1.out.cell 0
      have r1 := HB1.out.cell 1
      have r2 := HB1.out.cell 2
      have r3 := HB1.out.cell 3
      have r4 := HB1.out.cell 4
      have rf := fun i => HB1.out.free i
      simp at p0 p1 p2 p3 p4 r0 r1 r2 r3 r4
      go_wp2_with fail
      refine bodyPost_ret (results_cell_row rfl _ _ _ _ _ _ _ rfl (world5_blk HB1.out _ _ _ _ _) Tryz.underlying33 rfl (by kernel_rfl)) rfl ?_
      refine ⟨a', c', hs', rfl, ?_, ?_⟩
      · have := HO.out
        rw [List.take_length] at this
        refine this.same (by omega) (fun g h1 h2 => ?_)
        rw [Below.heap_setCell _ _ _ _ (by simp; omega), Below.heap_setCell _ _ _ _ (by simp; omega), Below.heap_setCell _ _ _ _ (by simp; omega), Below.heap_setCell _ _ _ _ (by simp; omega), Below.heap_setCell _ _ _ _ (by simp; omega)]
      · have hbl := HB.out
        exact (by repeat first | with_reducible assumption | with_reducible exact Below.refl _ _ | with_reducible apply Below.drew | with_reducible apply below_drewN | with_reducible apply Below.alloc (hB := (by first | omega | (simp; done) | (simp; omega))) | with_reducible apply Below.setCell (hp := (by first | omega | (simp; done) | (simp; omega))))
set_option maxHeartbeats 8000000 in
set_option maxRecDepth 100000 in
theorem gworld_calls {w : World} {Q : Nat → Prop} {g : Nat} {G : M.Game} {a : Option Addr} {c : Nat} {sv : Value} {hs : List Value} (h : GameAt w Q g G a c sv hs) (hG : M.GoodG G) :
    Calls Tryz.prog 13 #[.pointer (some ⟨g, 0, none⟩)] w fun e w' => ∃ a' c' hs', e = .returned (.agg (worldC (.slice a' G.w.things.tables.length c') G.w)) ∧ OwnTabs w' (w.heap.size + 1) (.slice a' G.w.things.tables.length c') G.w.things.tables hs' ∧ Below w.heap.size w w' := by
  have HC := Lib.hid (fun U (hb : Below w.heap.size w U) => copied_calls (h.st.at_.below hb) hG.w.things)
  have g0 := h.blk.cell 0
  have g1 := h.blk.cell 1
  have g2 := h.blk.cell 2
  have g3 := h.blk.cell 3
  have g4 := h.blk.cell 4
  have lg := h.blk.lt
  simp at g0 g1 g2 g3 g4
  have ng1 : ¬ g = w.heap.size := by omega
  have ng2 : ¬ w.heap.size = g := by omega
  clear h hG
  go_enter Tryz.func13, Tryz.ntmps13
  go_wp2_with (go_at_call 31; go_loud (refine (HC.out _ (by repeat first | with_reducible assumption | with_reducible exact Below.refl _ _ | with_reducible apply Below.drew | with_reducible apply below_drewN | with_reducible apply Below.alloc (hB := (by first | omega | (simp; done) | (simp; omega))) | with_reducible apply Below.setCell (hp := (by first | omega | (simp; done) | (simp; omega))))).mono ?_; rintro e w1 ⟨a1, c1, hs1, rfl, ho1, hb1⟩; have HO1 := Lib.hid ho1; have K1 : Below w.heap.size w w1 := (show Below w.heap.size w _ from (by repeat first | with_reducible assumption | with_reducible exact Below.refl _ _ | with_reducible apply Below.drew | with_reducible apply below_drewN | with_reducible apply Below.alloc (hB := (by first | omega | (simp; done) | (simp; omega))) | with_reducible apply Below.setCell (hp := (by first | omega | (simp; done) | (simp; omega))))).trans (hb1.mono (by first | omega | (simp; done) | (simp; omega))); have hz1 := hb1.size; (try simp at hz1); have bz : Blk w1 w.heap.size 33 #[.slice none 0 0, .int .i64 0, .int .i64 0, .int .i64 0, .int .i64 0] := Blk.below (Blk.new_at rfl) hb1 (by first | omega | (simp; done) | (simp; omega)); have HBZ := Lib.hid bz; have r0 := bz.cell 0; have r1 := bz.cell 1; have r2 := bz.cell 2; have r3 := bz.cell 3; have r4 := bz.cell 4; have rf := (fun i => bz.free i); have lz := bz.lt; simp at r0 r1 r2 r3 r4; clear ho1 bz))
  refine bodyPost_ret (results_cell_row rfl _ _ _ _ _ _ _ rfl (world5_blk HBZ.out _ _ _ _ _) Tryz.underlying33 rfl (by kernel_rfl)) rfl ?_
  refine ⟨a1, c1, hs1, rfl, ?_, ?_⟩
  · refine (show OwnTabs w1 (w.heap.size + 1) _ _ _ from by simpa using HO1.out).same (Nat.le_refl _) (fun g h1 h2 => ?_)
    rw [Below.heap_setCell _ _ _ _ (by simp; omega), Below.heap_setCell _ _ _ _ (by simp; omega), Below.heap_setCell _ _ _ _ (by simp; omega), Below.heap_setCell _ _ _ _ (by simp; omega), Below.heap_setCell _ _ _ _ (by simp; omega)]
  · exact (by repeat first | with_reducible assumption | with_reducible exact Below.refl _ _ | with_reducible apply Below.drew | with_reducible apply below_drewN | with_reducible apply Below.alloc (hB := (by first | omega | (simp; done) | (simp; omega))) | with_reducible apply Below.setCell (hp := (by first | omega | (simp; done) | (simp; omega))))
end Go.Proofs.YtkpecagkpjabdacGreat
/- The contract of the statements' alive: does package game answer at all? No condition. -/
namespace Go.Proofs.YtkpecagkpjabdacGreat
open Go.RowKit
set_option linter.unusedVariables false
set_option linter.unusedSimpArgs false
set_option maxRecDepth 100000
theorem OwnTabs.at_ {w : World} {base : Nat} {a : Option Addr} {c : Nat} {s : M.Store} {hs : List (Value × Value)} (h : OwnTabs w base (.slice a s.tables.length c) s.tables hs) : StoreAt w base (stV a c s) s := ⟨_, rfl, hs, h.tabs⟩
/-- a game behind a reply's new box: its own blocks are those that were there -/
theorem GameAt.behind {w W : World} {Q : Nat → Prop} {g : Nat} {G : M.Game} {a : Option Addr} {c : Nat} {sv : Value} {hs : List Value} (h : GameAt w Q g G a c sv hs) (hb : Below w.heap.size w W) : GameAt W (fun b => Q b ∧ b < w.heap.size) g G a c sv hs :=
  (h.wide (fun b hb q => ⟨q, hb⟩)).below hb
theorem in_act14 : ActIn ⟨1, 0, 0, 11, M.row14 500, M.box14⟩ := by
  simp only [ActIn, I64, RowOk, M.row14, M.box14]; omega
theorem in_act14b : ActIn ⟨6, 0, 2, 0, M.row0, M.box14⟩ := by
  simp only [ActIn, I64, RowOk, M.row0, M.box14]; omega
theorem field_things (v0 v1 v2 v3 v4 : Value) (W : World) : (Instr.field 33 (.agg #[v0, v1, v2, v3, v4]) 0).run Tryz.prog W = .ok (.agg #[v0, v1]) W := by kernel_rfl
set_option maxHeartbeats 8000000 in
set_option maxRecDepth 100000 in
theorem alive_calls (w : World) : Calls Tryz.prog 29 #[] w fun e w' => e = .returned (.bool true) ∧ Below w.heap.size w w' := by
  have HN := Lib.hid (fun W => new_calls 1000 1000 0 W (by decide))
  have HD1 := Lib.hid (fun (W : World) (Q : Nat → Prop) (g : Nat) a c sv hs (h : GameAt W Q g M.new14 a c sv hs) hq => do_calls h hq M.goodG14 ⟨1, 0, 0, 11, M.row14 500, M.box14⟩ (by decide) in_act14)
  rw [M.alive1] at HD1
  have gg1 : M.GoodG (M.game14 500 1) := by
    have := M.doAct_good M.goodG14 ⟨1, 0, 0, 11, M.row14 500, M.box14⟩
    rw [M.alive1] at this
    exact this
  have HD2 := Lib.hid (fun (W : World) (Q : Nat → Prop) (g : Nat) a c sv hs (h : GameAt W Q g (M.game14 500 1) a c sv hs) hq => do_calls h hq gg1 ⟨6, 0, 2, 0, M.row0, M.box14⟩ (by decide) in_act14b)
  rw [M.alive2] at HD2
  have gg2 : M.GoodG (M.game14 514 2) := by
    have := M.doAct_good gg1 ⟨6, 0, 2, 0, M.row0, M.box14⟩
    rw [M.alive2] at this
    exact this
  have HG2 := Lib.hid gg2
  have FT := field_things
  clear gg1 gg2
  go_enter Tryz.func29, Tryz.ntmps29
  go_upto_region 4 with (go_at_call 16; go_loud (refine (HN.out _).mono ?_; rintro e w1 ⟨g, rfl, hg1, hb1⟩; have HGA1 := Lib.hid hg1; have K1 := hb1; have kz1 := hb1.size; have lg1 := hg1.blk.lt; clear hg1 hb1))
  go_upto_region 5 with (go_at_call 15; go_loud (refine (HD1.out _ _ _ _ _ _ _ HGA1.out (fun b q => q.2)).mono ?_; rintro e w2 ⟨a2, c2, sv2, hs2, ids2, met2, rfl, hga2, hon2, hid2, hmet2⟩; obtain ⟨ai2, ci2, rfl⟩ := own_form hid2; obtain ⟨am2, cm2, rfl⟩ := own_form hmet2; have HGA2 := Lib.hid hga2; have HON2 := Lib.hid hon2; have K2 : Below w.heap.size w w2 := K1.trans (hon2.below kz1 (fun b q => q.1)); have kz2 := hon2.size; clear hga2 hon2 hid2 hmet2))
  refine wp_called (fun W3 hW3 => ?_)
  have B3 : Blk W3 w2.heap.size 40 #[.int .i64 0, .int .i64 0, .slice ai2 0 ci2, .slice am2 0 cm2] := by rw [hW3]; exact Blk.new_at rfl
  have K23 : Below w2.heap.size w2 W3 := by rw [hW3]; exact (by repeat first | with_reducible assumption | with_reducible exact Below.refl _ _ | with_reducible apply Below.drew | with_reducible apply below_drewN | with_reducible apply Below.alloc (hB := (by first | omega | (simp; done) | (simp; omega))) | with_reducible apply Below.setCell (hp := (by first | omega | (simp; done) | (simp; omega))))
  have K3 : Below w.heap.size w W3 := K2.trans (K23.mono K2.size)
  have HG3 := Lib.hid (HGA2.out.behind K23)
  have kz3 := K23.size
  have lb3 := B3.lt
  have HB3 := Lib.hid B3
  have HK3 := Lib.hid K3
  clear hW3 K23 B3 K1 K2 K3
  go_upto_region 6 with (go_at_call 15; go_loud (refine (HD2.out _ _ _ _ _ _ _ HG3.out (fun b q => by have := q.2; omega)).mono ?_; rintro e w4 ⟨a4, c4, sv4, hs4, ids4, met4, rfl, hga4, hon4, hid4, hmet4⟩; obtain ⟨ai4, ci4, rfl⟩ := own_form hid4; obtain ⟨am4, cm4, rfl⟩ := own_form hmet4; have HGA4 := Lib.hid hga4; have HON4 := Lib.hid hon4; clear hga4 hon4 hid4 hmet4))
  refine wp_called (fun W5 hW5 => ?_)
  have B5 : Blk W5 w4.heap.size 40 #[.int .i64 0, .int .i64 0, .slice ai4 0 ci4, .slice am4 0 cm4] := by rw [hW5]; exact Blk.new_at rfl
  have K45 : Below w4.heap.size w4 W5 := by rw [hW5]; exact (by repeat first | with_reducible assumption | with_reducible exact Below.refl _ _ | with_reducible apply Below.drew | with_reducible apply below_drewN | with_reducible apply Below.alloc (hB := (by first | omega | (simp; done) | (simp; omega))) | with_reducible apply Below.setCell (hp := (by first | omega | (simp; done) | (simp; omega))))
  have B34 : Blk w4 w2.heap.size 40 #[.int .i64 0, .int .i64 0, .slice ai2 0 ci2, .slice am2 0 cm2] := (HON4.out.block _ HB3.out.lt (fun q => by have := q.2; omega)).trans HB3.out
  have K4 : Below w.heap.size w w4 := HK3.out.trans (HON4.out.below HK3.out.size (fun b q => by
    rcases q.1.1 with k | k
    · exact k.1
    · omega))
  have K5 : Below w.heap.size w W5 := K4.trans (K45.mono K4.size)
  have B35 := B34.below K45 B34.lt
  have HG5 := Lib.hid (HGA4.out.behind K45)
  have HW5 := Lib.hid (fun U (hb : Below W5.heap.size W5 U) => gworld_calls (HG5.out.below hb) HG2.out)
  have HB5 := Lib.hid B5
  have HB35 := Lib.hid B35
  have lb5 := B5.lt
  have lb35 := B35.lt
  have kz5 := K5.size
  have HK5 := Lib.hid K5
  clear hW5 B5 K45 B34 K4 B35 HGA4 K5
  go_wp2_with (first | (go_at_call 13; go_loud (refine (HW5.out _ (Below.refl _ _)).mono ?_; rintro e w6 ⟨a6, c6, hs6, rfl, ho6, hb6⟩; have HO6 := Lib.hid ho6; have kz6 := hb6.size; have HB6 := Lib.hid hb6; clear ho6 hb6)) | (go_at_call 28; go_loud (refine (get_calls (w := w6) (s := (M.game14 514 2).w.things) (HO6.out.at_.mono (Nat.zero_le _)) 0).mono ?_; rw [M.alive3]; rintro e w7 ⟨rfl, hb7⟩; have hz7 := hb7.size; have K57 : Below W5.heap.size W5 w7 := HB6.out.trans (hb7.mono kz6); have b37 := HB35.out.below K57 HB35.out.lt; have b57 := HB5.out.below K57 HB5.out.lt; have u0 := b37.cell 0; have u1 := b57.cell 0; simp at u0 u1; have l37 := b37.lt; have l57 := b57.lt)))
  go_ret
  exact ⟨rfl, HK5.out.trans (Below.mono (B' := w.heap.size) (show Below W5.heap.size W5 _ from (by repeat first | with_reducible assumption | with_reducible exact Below.refl _ _ | with_reducible apply Below.drew | with_reducible apply below_drewN | with_reducible apply Below.alloc (hB := (by first | omega | (simp; done) | (simp; omega))) | with_reducible apply Below.setCell (hp := (by first | omega | (simp; done) | (simp; omega))))) kz5)⟩
end Go.Proofs.YtkpecagkpjabdacGreat
