/- The contract of the statements' own copied: a store in memory of its own. Condition: the store lies in memory, its lists are no longer than memory allows. -/
import Derived.Test.YtkpecagkpjabdaaCopyDraw
import Derived.Test.YtkpecagkpjabdaaOpenStore
import Derived.Deep.LoopGhost
namespace Go.Proofs.Ytkpecagkpjabdaa
open Go.RowKit
set_option linter.unusedVariables false
set_option linter.unusedSimpArgs false
set_option maxRecDepth 100000
theorem store2_blk {U : World} {b : Nat} {z0 z1 : Value} (h : Blk U b 40 #[z0, z1]) (c0 c1 : Value) :
    ((U.setCell ⟨b, 0, none⟩ c0).setCell ⟨b, 1, none⟩ c1).heap[b]? = some (.cells #[c0, c1] 40 (0, 0)) := blk_to ((h.put 0 c0).put 1 c1) (by rfl)
theorem frame32 {tm : Array Value} (h : tm.size = 32) : ∃ u0 u1 u2 u3 u4 u5 u6 u7 u8 u9 u10 u11 u12 u13 u14 u15 u16 u17 u18 u19 u20 u21 u22 u23 u24 u25 u26 u27 u28 u29 u30 u31, tm = #[u0, u1, u2, u3, u4, u5, u6, u7, u8, u9, u10, u11, u12, u13, u14, u15, u16, u17, u18, u19, u20, u21, u22, u23, u24, u25, u26, u27, u28, u29, u30, u31] := by
  obtain ⟨l⟩ := tm
  match l, h with
  | [u0, u1, u2, u3, u4, u5, u6, u7, u8, u9, u10, u11, u12, u13, u14, u15, u16, u17, u18, u19, u20, u21, u22, u23, u24, u25, u26, u27, u28, u29, u30, u31], _ => exact ⟨u0, u1, u2, u3, u4, u5, u6, u7, u8, u9, u10, u11, u12, u13, u14, u15, u16, u17, u18, u19, u20, u21, u22, u23, u24, u25, u26, u27, u28, u29, u30, u31, rfl⟩
theorem wp_frame {P : Program} {c : Code} {Q : Exit → Act → World → Prop} {a : Act} {w : World} (h : ∀ A, A = a → c.wp P Q A w) : c.wp P Q a w := h a rfl
set_option maxHeartbeats 8000000 in
set_option maxRecDepth 100000 in
theorem lcopied_calls {w : World} {lo : Nat} {v : Value} {s : M.Store} (h : StoreAt w lo v s) (hs : Sized s) :
    Calls Try.prog 43 #[v] w fun e w' => ∃ a' c' hs', e = .returned (.agg #[.slice a' s.tables.length c', .int .i64 s.next]) ∧ OwnTabs w' w.heap.size (.slice a' s.tables.length c') s.tables hs' ∧ Below w.heap.size w w' := by
  obtain ⟨vt0, rfl, hs0, hT⟩ := h
  obtain ⟨a, c, rfl⟩ := hT.val
  have hmx : s.tables.length ≤ 9223372036854775807 := by have := hT.max; unfold maxLen at this; omega
  have hfew : s.tables.length * 56 ≤ 140737488351232 := hs.1
  have HT := Lib.hid hT
  have HSH := Lib.hid hs
  obtain ⟨i0, hi, hz0, hz1, hz2⟩ := info_parts infoTable
  have HI := Lib.hid (And.intro hi (And.intro hz0 (And.intro hz1 hz2)))
  obtain ⟨i1, hi1, hz10, hz11, hz12⟩ := info_parts infoInt
  have HI1 := Lib.hid (And.intro hi1 (And.intro hz10 (And.intro hz11 hz12)))
  obtain ⟨i2, hi2, hz20, hz21, hz22⟩ := info_parts infoRow
  have HI2 := Lib.hid (And.intro hi2 (And.intro hz20 (And.intro hz21 hz22)))
  clear hT hs hi hz0 hz1 hz2 hi1 hz10 hz11 hz12 hi2 hz20 hz21 hz22
  go_enter Try.func43, Try.ntmps43
  go_wp2_with fail
  refine wp_called (fun ws hws => ?_)
  have KS : Below w.heap.size w ws := by rw [hws]; exact (by repeat first | with_reducible assumption | with_reducible exact Below.refl _ _ | with_reducible apply Below.drew | with_reducible apply below_drewN | with_reducible apply Below.alloc (hB := (by first | omega | (simp; done) | (simp; omega))) | with_reducible apply Below.setCell (hp := (by first | omega | (simp; done) | (simp; omega))))
  have hzs : ws.heap.size = w.heap.size + 3 := by rw [hws]; simp [World.setCell]
  have B0 : Blk ws (w.heap.size + 2) 40 #[.slice none 0 0, .int .i64 s.next] := by
    rw [hws]
    apply blk_to
    · exact Blk.new_at (by simp)
    · rfl
  have B1 : Blk ws (w.heap.size + 1) 40 #[.slice none 0 0, .int .i64 0] := by
    rw [hws]
    apply blk_to
    · exact (Blk.new_at (by simp)).alloc _
    · rfl
  clear hws
  go_loopg [12] s.tables.length (fun gh i wr => ∃ (n : Nat) (hs' : List (Value × Value)) (a' : Option Addr) (c' : Nat), n ≤ s.tables.length ∧ i = .int .i64 n ∧ gh = s.tables.length - n ∧ OwnTabs wr (w.heap.size + 3) (.slice a' n c') (s.tables.take n) hs' ∧ Blk wr (w.heap.size + 2) 40 #[.slice a' n c', .int .i64 s.next] ∧ Blk wr (w.heap.size + 1) 40 #[.slice none 0 0, .int .i64 0] ∧ Below w.heap.size w wr)
  case atStart => exact ⟨0, [], none, 0, Nat.zero_le _, rfl, rfl, OwnTabs.nil _ _, B0, B1, KS⟩
  case round =>
    obtain ⟨wo, hwo⟩ : ∃ wo, wo = wr := ⟨_, rfl⟩
    subst hwo
    obtain ⟨n, hs', a', c', hn, rfl, hgk, hown, hb0, hb1, hbl⟩ := hrel
    have HG := Lib.hid hgk
    have HO := Lib.hid hown
    have HB0 := Lib.hid hb0
    have HB1 := Lib.hid hb1
    have HB := Lib.hid hbl
    have l0 := hb0.lt
    have l1 := hb1.lt
    clear hgk hown hb0 hb1 hbl KS B0 B1
    rcases Nat.lt_or_ge n s.tables.length with hlt | hge
    · obtain ⟨t, ht⟩ : ∃ t, s.tables[n]? = some t := ⟨_, List.getElem?_eq_getElem hlt⟩
      obtain ⟨b, o, cap', a1, cp1, a2, cp2, e, hlo, hp, c0, c1, c2, h1, h2⟩ := (HT.out.below HB.out).at2 ht
      obtain ⟨rfl, rfl⟩ : a = some ⟨b, o, none⟩ ∧ c = cap' := by simpa using e
      obtain ⟨sz1, sz2⟩ := HSH.out.2 t (List.mem_of_getElem? ht)
      have hm1 : t.ids.length ≤ 9223372036854775807 := by omega
      have hm2 : t.rows.length ≤ 9223372036854775807 := by omega
      have HHT := Lib.hid ht
      have HH1 := Lib.hid h1
      have HH2 := Lib.hid h2
      clear e hlo hp h1 h2 ht
      go_upto_region 5 with fail
      refine wp_called (fun wl hwl => ?_)
      have BT : Blk wl wo.heap.size 82 #[.int .i64 t.mask, .slice a1 t.ids.length cp1, .slice a2 t.rows.length cp2] := by rw [hwl]; exact Blk.new_at rfl
      have HBT := Lib.hid BT
      have KL : Below wo.heap.size wo wl := by rw [hwl]; exact (by repeat first | with_reducible assumption | with_reducible exact Below.refl _ _ | with_reducible apply Below.drew | with_reducible apply below_drewN | with_reducible apply Below.alloc (hB := (by first | omega | (simp; done) | (simp; omega))) | with_reducible apply Below.setCell (hp := (by first | omega | (simp; done) | (simp; omega))))
      have HKL := Lib.hid KL
      have kl := KL.size
      have HI0 := Lib.hid (HH1.out.below KL)
      have HR0 := Lib.hid (HH2.out.below KL)
      have HB03 := Lib.hid (HB0.out.below KL HB0.out.lt)
      have HB13 := Lib.hid (HB1.out.below KL HB1.out.lt)
      have HO3 := Lib.hid (HO.out.same (Nat.le_refl _) (fun g _ h2 => KL.block g h2))
      have HOB : Hid (∀ g, (Value.slice a' n c').ownBlock = some g → w.heap.size + 3 ≤ g ∧ g < wo.heap.size) := Lib.hid (fun g e => HO.out.row.lt g e)
      have htl : (s.tables.take n).length = n := by rw [List.length_take]; omega
      have HTL := Lib.hid htl
      have HROW : Hid (wl.ownsRow (w.heap.size + 3) 82 3 (.slice a' n c') n (tabL (s.tables.take n) hs')) := Lib.hid (by
        have := HO3.out.row
        rw [htl] at this
        exact this)
      clear hwl KL BT htl c0 c1 c2
      refine wp_frame (fun A hA => ?_)
      show Code.wp Try.prog cpC _ _ _
      rw [cpC_is]
      refine wp_region_any (by kernel_rfl) ?_
      rw [cpOps_size]
      have z : ∀ k, (Array.replicate 15 false).getD k false = false := fun k => by
        by_cases hk : k < 15 <;> simp [Array.getD, hk]
      have no : ∀ {b : Bool} (q : Prop), b = false → b = true → q := fun q h1 h2 => by rw [h1] at h2; cases h2
      refine cp_region (c := ⟨wl, A, w.heap.size + 3, w.heap.size + 2, wo.heap.size, lo, t, .slice a1 t.ids.length cp1, .slice a2 t.rows.length cp2, .slice a' n c', s.next, n, tabL (s.tables.take n) hs'⟩)
        ⟨HB03.out, HBT.out, HI0.out, HR0.out, HROW.out, by show w.heap.size + 3 ≤ wl.heap.size; have := HB.out.size; omega, (fun g e => by have := HOB.out g e; show g ≠ w.heap.size + 2; omega), sz1, sz2, (by show (n + 1) * 56 ≤ 140737488351232; omega), (by show w.heap.size + 2 < w.heap.size + 3; omega), by rw [hA]; rfl, by rw [hA]; rfl⟩
        ⟨by simp, by rw [hA]; rfl, by rw [hA], (fun _ _ => rfl), (fun k j _ hl => no _ (z k) hl), ⟨undef, undef, 0, undef⟩, (fun k _ hl => no _ (z k) hl), .inl ⟨z 12, z 14, (Below.refl _ _).drew, (fun hl => no _ (z 6) hl), (fun hl => no _ (z 9) hl), (fun hl => no _ (z 6) hl), (fun hl => no _ (z 11) hl)⟩⟩ ?_
      intro A' g W1 hd hlen hoth hFB
      obtain ⟨tm, df⟩ := A'
      simp only at hd hlen
      subst hd
      obtain ⟨u0, u1, u2, u3, u4, u5, u6, u7, u8, u9, u10, u11, u12, u13, u14, u15, u16, u17, u18, u19, u20, u21, u22, u23, u24, u25, u26, u27, u28, u29, u30, u31, rfl⟩ := frame32 hlen
      have p0 : u0 = .agg #[.slice (some ⟨b, o, none⟩) s.tables.length c, .int .i64 s.next] := (hoth 0 (by omega)).trans (by rw [hA]; rfl)
      have p1 : u1 = .pointer (some ⟨w.heap.size, 0, none⟩) := (hoth 1 (by omega)).trans (by rw [hA]; rfl)
      have p2 : u2 = .pointer (some ⟨w.heap.size + 1, 0, none⟩) := (hoth 2 (by omega)).trans (by rw [hA]; rfl)
      have p3 : u3 = .pointer (some ⟨w.heap.size + 1 + 1, 0, none⟩) := (hoth 3 (by omega)).trans (by rw [hA]; rfl)
      have p4 : u4 = undef := (hoth 4 (by omega)).trans (by rw [hA]; rfl)
      have p6 : u6 = .pointer (some ⟨w.heap.size, 1, none⟩) := (hoth 6 (by omega)).trans (by rw [hA]; rfl)
      have p7 : u7 = .int .i64 s.next := (hoth 7 (by omega)).trans (by rw [hA]; rfl)
      have p8 : u8 = .agg #[.slice none 0 0, .int .i64 s.next] := (hoth 8 (by omega)).trans (by rw [hA]; rfl)
      have p9 : u9 = .pointer (some ⟨w.heap.size, 0, none⟩) := (hoth 9 (by omega)).trans (by rw [hA]; rfl)
      have p10 : u10 = .slice (some ⟨b, o, none⟩) s.tables.length c := (hoth 10 (by omega)).trans (by rw [hA]; rfl)
      have p11 : u11 = .int .i64 (s.tables.length : Nat) := (hoth 11 (by omega)).trans (by rw [hA]; rfl)
      have p12 : u12 = .int .i64 (n : Nat) := (hoth 12 (by omega)).trans (by rw [hA]; rfl)
      have p31 : u31 = undef := (hoth 31 (by omega)).trans (by rw [hA]; rfl)
      clear hoth hlen z no hA
      subst p0 p1 p2 p3 p4 p6 p7 p8 p9 p10 p11 p12 p31
      obtain ⟨hPK, hBW⟩ := hFB
      simp only at hPK hBW
      obtain ⟨a9, c9, e9⟩ := own_form hPK.row
      have HPK := Lib.hid hPK
      have HBW := Lib.hid hBW
      have HE9 := Lib.hid e9
      clear hPK hBW e9
      go_wp2_with fail
      go_roundg (s.tables.length - (n + 1))
      case measure => rw [HG.out]; omega
      case rel =>
        have far : ∀ (U : World) (x : Value) g, g ≠ w.heap.size + 2 → (U.setCell ⟨w.heap.size + 2, 0, none⟩ x).heap[g]? = U.heap[g]? := fun U x g h => Below.heap_setCell _ _ _ _ h
        refine ⟨n + 1, hs' ++ [(g.v6, g.v9)], a9, c9, by omega, by go_num, rfl, ?_, ?_, ?_, ?_⟩
        · rw [← HE9.out, show s.tables.take (n + 1) = s.tables.take n ++ [t] by rw [List.take_add_one, HHT.out]; rfl]
          refine HO3.out.snoc ?_ ?_ ?_ ?_ ?_ ?_ ?_ ?_
          · rw [HTL.out]
            exact own_same HPK.out.row (fun g' e => far _ _ g' (by have := (HPK.out.row.lt g' e).1; omega))
          · intro g' h1 h2 h3
            exact (far _ _ g' (by omega)).trans (HPK.out.same g' h2 h3)
          · exact own_same HPK.out.ids (fun g' e => far _ _ g' (by have := (HPK.out.ids.lt g' e).1; omega))
          · exact own_same HPK.out.rows (fun g' e => far _ _ g' (by have := (HPK.out.rows.lt g' e).1; omega))
          · exact HPK.out.n1
          · exact HPK.out.n2
          · exact HPK.out.ne
          · exact HPK.out.at_
        · have hb : Blk W1 (w.heap.size + 2) 40 #[.slice a' n c', .int .i64 s.next] := (HPK.out.same (w.heap.size + 2) (by have := HB03.out.lt; omega) (fun e => by have := HOB.out _ e; omega)).trans HB03.out
          rw [← HE9.out]
          exact blk_to (hb.put 0 _) (by rfl)
        · have hb : Blk W1 (w.heap.size + 1) 40 #[.slice none 0 0, .int .i64 0] := (HPK.out.same (w.heap.size + 1) (by have := HB13.out.lt; omega) (fun e => by have := HOB.out _ e; omega)).trans HB13.out
          exact hb.far (by simp) _
        · exact ((HB.out.trans (HKL.out.mono (by have := HB.out.size; omega))).trans (HBW.out.mono (by omega))).setCell (by simp) _
    · obtain rfl : n = s.tables.length := by omega
      have q9 : decide ((s.tables.length : Int) < (s.tables.length : Int)) = false := decide_eq_false (by omega)
      have p0 := HB0.out.cell 0
      have p1 := HB0.out.cell 1
      have r0 := HB1.out.cell 0
      have r1 := HB1.out.cell 1
      have rf := fun i => HB1.out.free i
      simp at p0 p1 r0 r1
      go_wp2_with fail
      refine bodyPost_ret (results_cell_row rfl _ _ _ _ _ _ _ rfl (store2_blk HB1.out _ _) Try.underlying40 rfl (by kernel_rfl)) rfl ?_
      refine ⟨a', c', hs', rfl, ?_, ?_⟩
      · have := HO.out
        rw [List.take_length] at this
        refine this.same (by omega) (fun g h1 h2 => ?_)
        rw [Below.heap_setCell _ _ _ _ (by simp; omega), Below.heap_setCell _ _ _ _ (by simp; omega)]
      · have hbl := HB.out
        exact (by repeat first | with_reducible assumption | with_reducible exact Below.refl _ _ | with_reducible apply Below.drew | with_reducible apply below_drewN | with_reducible apply Below.alloc (hB := (by first | omega | (simp; done) | (simp; omega))) | with_reducible apply Below.setCell (hp := (by first | omega | (simp; done) | (simp; omega))))
end Go.Proofs.Ytkpecagkpjabdaa
