/- The contract of store.cut. Condition: an own store's tables, few; the table and the place are there. -/
import Derived.Test.YtkpecagkpjabdaaStoreCutLaw
import Derived.Deep.DeepCutAuto
import Derived.BigRegion
namespace Go.Proofs.Ytkpecagkpjabdaa
open Go.RowKit
set_option linter.unusedVariables false
set_option linter.unusedSimpArgs false
set_option maxRecDepth 100000

set_option maxHeartbeats 8000000 in
set_option maxRecDepth 100000 in
theorem cut_calls {w : World} {base sb : Nat} {vt : Value} {next : Int} {ts : List M.Table} {hs : List (Value × Value)} (h : OwnTabs w base vt ts hs) (hbox : Blk w sb 40 #[vt, .int .i64 next]) (hsb : sb < base) (hbw : base ≤ w.heap.size)
    (hfew : ts.length ≤ 1000) {i k : Nat} {t : M.Table} (hat : ts[i]? = some t) (hk : k < t.ids.length) (hl : t.ids.length = t.rows.length) (hlen : t.ids.length ≤ 1000) :
    Calls Try.prog 66 #[.pointer (some ⟨sb, 0, none⟩), .int .i64 i, .int .i64 k] w fun e w' => e = .returned (.tuple #[]) ∧
      ∃ vt' hs', Blk w' sb 40 #[vt', .int .i64 next] ∧ OwnTabs w' base vt' (M.cutT ts i k) hs' ∧ But base sb w w' := by
  have hlt := (List.getElem?_eq_some_iff.1 hat).1
  have hhl := h.len
  obtain ⟨⟨v1, v2⟩, hp⟩ : ∃ p, hs[i]? = some p := ⟨_, List.getElem?_eq_getElem (by omega)⟩
  have hkk := h.each i t (v1, v2) hat hp
  obtain ⟨g0, cap0, rfl, hg0, hg1⟩ := own_val h.row (by omega)
  obtain ⟨x0, x1, x2⟩ := tabL_at ts hs i hat hp
  have T1 := (h.row.cellAt (i * 3 + 1) (by omega)).trans x1
  have T2 := (h.row.cellAt (i * 3 + 2) (by omega)).trans x2
  have TF := fun j => h.row.frozenAt j
  obtain ⟨gi, ci, e1, hgi, hgi1⟩ := own_val hkk.ids (by omega)
  obtain ⟨gr, cr, e2, hgr, hgr1⟩ := own_val hkk.rows (by omega)
  simp only at e1 e2
  subst e1; subst e2
  have ne1 : gi ≠ g0 := fun e => (blks_vt h.apart (g := g0) rfl (List.mem_of_getElem? hp)).1 (by simp [Value.ownBlock, e])
  have ne2 : gr ≠ g0 := fun e => (blks_vt h.apart (g := g0) rfl (List.mem_of_getElem? hp)).2 (by simp [Value.ownBlock, e])
  have ne3 : gi ≠ gr := fun e => blks_pair h.apart hp (g := gi) rfl (by simp [Value.ownBlock, e])
  obtain ⟨a, ha⟩ : ∃ a, t.ids[t.ids.length - 1]? = some a := ⟨_, List.getElem?_eq_getElem (by omega)⟩
  obtain ⟨r, hr⟩ : ∃ r, t.rows[t.ids.length - 1]? = some r := ⟨_, List.getElem?_eq_getElem (by omega)⟩
  have HH := Lib.hid h
  have HKK := Lib.hid hkk
  have HP := Lib.hid hp
  have HA := Lib.hid ha
  have HR := Lib.hid hr
  have HAT := Lib.hid hat
  have HBX := Lib.hid hbox
  have c0 : w.cell? ⟨sb, 0, none⟩ = some (.slice (some ⟨g0, 0, none⟩) ts.length cap0) := hbox.cell 0
  have cf := fun i => hbox.free i
  have I1 : w.cell? ⟨gi, t.ids.length - 1, none⟩ = some (.int .i64 a) := (hkk.ids.cellAt (t.ids.length - 1) (by omega)).trans (by rw [List.getElem?_map, ha]; rfl)
  have I2 := hkk.ids.cellAt k (by omega)
  rw [List.getElem?_map, List.getElem?_eq_getElem hk] at I2
  have IF := fun j => hkk.ids.frozenAt j
  have rn : ∀ j, j < 8 → w.cell? ⟨gr, (t.ids.length - 1) * 8 + j, none⟩ = (rowL r)[j]? := fun j hj => (hkk.rows.cellAt _ (by omega)).trans (rowsL_at _ _ _ hr hj)
  obtain ⟨q, hq⟩ : ∃ q, t.rows[k]? = some q := ⟨_, List.getElem?_eq_getElem (by omega)⟩
  have rk : ∀ j, j < 8 → w.cell? ⟨gr, k * 8 + j, none⟩ = (rowL q)[j]? := fun j hj => (hkk.rows.cellAt _ (by omega)).trans (rowsL_at _ _ _ hq hj)
  have RF := fun j => hkk.rows.frozenAt j
  have n0 := rn 0 (by omega); have n1 := rn 1 (by omega); have n2 := rn 2 (by omega); have n3 := rn 3 (by omega); have n4 := rn 4 (by omega); have n5 := rn 5 (by omega); have n6 := rn 6 (by omega); have n7 := rn 7 (by omega)
  have k0 := rk 0 (by omega); have k1 := rk 1 (by omega); have k2 := rk 2 (by omega); have k3 := rk 3 (by omega); have k4 := rk 4 (by omega); have k5 := rk 5 (by omega); have k6 := rk 6 (by omega); have k7 := rk 7 (by omega)
  simp only [rowL, List.getElem?_cons_zero, List.getElem?_cons_succ, Nat.add_zero] at n0 n1 n2 n3 n4 n5 n6 n7 k0 k1 k2 k3 k4 k5 k6 k7
  simp only [Option.map_some] at I2
  have hlI : t.ids.length ≤ ci := by
    rcases hkk.ids.2 with ⟨e, _⟩ | ⟨g', cap', cur, e, _, _, hnc, _⟩
    · simp at e
    · simp only [Value.slice.injEq, true_and] at e; omega
  have hlR : t.rows.length ≤ cr := by
    rcases hkk.rows.2 with ⟨e, _⟩ | ⟨g', cap', cur, e, _, _, hnc, _⟩
    · simp at e
    · simp only [Value.slice.injEq, true_and] at e; omega
  have HL := Lib.hid hl
  rw [← hl] at T2 hlR
  clear h hkk hp ha hr hat hbox x0 x1 x2 rn rk hq hl
  go_enter Try.func66, Try.ntmps66
  go_upto_region 2 with fail
  go_region
  go_wp2_with fail
  generalize hW : World.drew _ = W
  have hkr : k < t.rows.length := by have := HL.out; omega
  have hrw := HKK.out.rows
  rw [← HL.out] at hrw
  obtain ⟨P1, P2, P3, P4, P5, P6, P7⟩ := cut_swap HKK.out.ids hrw ne3 hkr hW
  have T1W := (World.cell?_of_block (a := ⟨g0, i * 3 + 1, none⟩) (P3 g0 (Ne.symm ne1) (Ne.symm ne2))).trans T1
  have T2W := (World.cell?_of_block (a := ⟨g0, i * 3 + 2, none⟩) (P3 g0 (Ne.symm ne1) (Ne.symm ne2))).trans T2
  have TFW := fun j => (World.frozen?_of_block (a := ⟨g0, j, none⟩) (P3 g0 (Ne.symm ne1) (Ne.symm ne2))).trans (TF j)
  have nsi : sb ≠ gi := by omega
  have nsr : sb ≠ gr := by omega
  have nsg : sb ≠ g0 := by omega
  have c0W := (World.cell?_of_block (a := ⟨sb, 0, none⟩) (P3 sb nsi nsr)).trans c0
  have cfW := fun j => (World.frozen?_of_block (a := ⟨sb, j, none⟩) (P3 sb nsi nsr)).trans (cf j)
  have HP1 := Lib.hid P1
  have HP2 := Lib.hid P2
  have HP3 := Lib.hid P3
  have HP4 := Lib.hid (And.intro P4 (And.intro P5 (And.intro P6 P7)))
  clear P1 P2 P3 P4 P5 P6 P7 hW hrw T1 T2 TF c0 cf I1 I2 IF n0 n1 n2 n3 n4 n5 n6 n7 k0 k1 k2 k3 k4 k5 k6 k7 RF
  have htn : ((t.ids.length : Int) - 1).toNat = t.ids.length - 1 := by omega
  go_region
  generalize hW2 : World.drew _ = W2
  have far : ∀ (U : World) (b j : Nat) (u : Value) (g : Nat), g ≠ b → (U.setCell ⟨b, j, none⟩ u).heap[g]? = U.heap[g]? := fun U b j u g hg => Below.heap_setCell _ _ _ _ hg
  have hsame2 : ∀ g, g ≠ g0 → W2.heap[g]? = W.heap[g]? := fun g hg => by
    rw [← hW2]
    exact (far _ _ _ _ _ hg).trans (far _ _ _ _ _ hg)
  have hvtW : W.ownsRow base 82 3 (.slice (some ⟨g0, 0, none⟩) ts.length cap0) ts.length (tabL ts hs) := own_same HH.out.row (fun g hg => by
    have e : g = g0 := by simpa [Value.ownBlock] using hg.symm
    subst e
    exact HP3.out _ (Ne.symm ne1) (Ne.symm ne2))
  have HTAB : Hid (OwnTabs W2 base (.slice (some ⟨g0, 0, none⟩) ts.length cap0) (ts.set i ⟨t.mask, M.without t.ids k, M.without t.rows k⟩) (hs.set i (.slice (some ⟨gi, 0, none⟩) (t.ids.length - 1) ci, .slice (some ⟨gr, 0, none⟩) (t.ids.length - 1) cr))) := Lib.hid (by
    have hr0 := HR.out
    rw [HL.out] at hr0
    have wl1 : (M.without t.ids k).length = t.ids.length - 1 := by rw [without_set_take _ _ _ HA.out]; simp
    have wl2 : (M.without t.rows k).length = t.ids.length - 1 := by rw [without_set_take _ _ _ hr0]; simp [HL.out]
    refine OwnTabs.turn HH.out HAT.out HP.out rfl ?_ ⟨?_, ?_⟩ rfl rfl ?_
    · have R := own_put (own_put hvtW (i * 3 + 1) (.slice (some ⟨gi, 0, none⟩) (t.ids.length - 1) ci)) (i * 3 + 2) (.slice (some ⟨gr, 0, none⟩) (t.ids.length - 1) cr)
      rw [tabL_set ts hs i hhl hlt (.slice (some ⟨gi, 0, none⟩) (t.ids.length - 1) ci, .slice (some ⟨gr, 0, none⟩) (t.ids.length - 1) cr)] at R
      rw [← hW2]
      exact World.ownsRow.drew R
    · have R := own_short HP1.out (m := t.ids.length - 1) (by omega)
      rw [Nat.mul_one, ← List.map_take, ← without_set_take _ _ _ HA.out] at R
      have R2 := own_same R (w' := W2) (fun g hg => by
        have e : g = gi := by simpa [Value.ownBlock] using hg.symm
        subst e
        exact hsame2 _ ne1)
      simpa [wl1] using R2
    · have R := own_short HP2.out (m := t.ids.length - 1) (by omega)
      rw [rowsL_take, show t.ids.length - 1 = t.rows.length - 1 by rw [HL.out], ← without_set_take _ _ _ hr0] at R
      have R2 := own_same R (w' := W2) (fun g hg => by
        have e : g = gr := by simpa [Value.ownBlock] using hg.symm
        subst e
        exact hsame2 _ ne2)
      rw [← HL.out] at R2
      simpa [wl2] using R2
    · intro g hg q1 q2 q3
      have m0 : g ≠ g0 := fun e => q1 (by simp [Value.ownBlock, e])
      have m1 : g ≠ gi := fun e => q2 (by simp [Value.ownBlock, e])
      have m2 : g ≠ gr := fun e => q3 (by simp [Value.ownBlock, e])
      rw [hsame2 _ m0]
      exact HP3.out _ m1 m2)
  have HBUT : Hid (But base sb w W2) := Lib.hid (by
    obtain ⟨p4, p5, p6, p7⟩ := HP4.out
    refine ⟨by rw [← hW2]; exact p4, by rw [← hW2]; exact p5, by rw [← hW2]; exact p6, by rw [← hW2]; simp [World.setCell]; omega, fun g h1 h2 => ?_⟩
    rw [hsame2 _ (by omega)]
    exact HP3.out _ (by omega) (by omega))
  have HBX2 : Hid (Blk W2 sb 40 #[.slice (some ⟨g0, 0, none⟩) ts.length cap0, .int .i64 next]) := Lib.hid (by
    refine Eq.trans ?_ HBX.out
    rw [hsame2 _ nsg]
    exact HP3.out _ nsi nsr)
  have c2 : W2.cell? ⟨sb, 0, none⟩ = some (.slice (some ⟨g0, 0, none⟩) ts.length cap0) := HBX2.out.cell 0
  have c2f := fun j => HBX2.out.free j
  clear far hsame2 hvtW hW2 T1W T2W TFW c0W cfW
  by_cases hn1 : t.ids.length = 1
  · have q : ((t.ids.length : Int) - 1 == 0) = true := by simp; omega
    have HROW := HTAB.out.row
    rw [List.length_set] at HROW
    have hiw : IntKind.i64.wrap ((i : Int) + 1) = (i : Int) + 1 := by rw [IntKind.wrap_i64]; omega
    have HDEL := Lib.hid (fun (U : World) (hU : U = W2) => by
      subst hU
      exact delete_calls (i := i) HROW (by omega) hlt HTAB.out.one)
    clear HROW
    go_wp2_with fail
    refine (HDEL.out W2 rfl).mono ?_
    rintro e w3 ⟨rfl, hd1, hd2⟩
    have hsb3 : w3.heap[sb]? = W2.heap[sb]? := hd2.block sb (by have := HBX2.out.lt; omega) (fun e => nsg (by simpa using e))
    have HB3 : Blk w3 sb 40 #[.slice (some ⟨g0, 0, none⟩) ts.length cap0, .int .i64 next] := hsb3.trans HBX2.out
    have c3 : w3.cell? ⟨sb, 0, none⟩ = some (.slice (some ⟨g0, 0, none⟩) ts.length cap0) := HB3.cell 0
    have c3f := fun j => HB3.free j
    have HB3H := Lib.hid HB3
    have HD := Lib.hid (And.intro hd1 hd2)
    clear hd1 hd2 hsb3 HB3 c2 c2f
    go_wp2
    go_end0
    have hct : M.cutT ts i k = ts.eraseIdx i := by
      unfold M.cutT
      rw [HAT.out]
      simp only [hn1, if_true]
    have L0 : OwnTabs w3 base (.slice (some ⟨g0, 0, none⟩) (ts.length - 1) cap0) ((ts.set i ⟨t.mask, M.without t.ids k, M.without t.rows k⟩).eraseIdx i) ((hs.set i (.slice (some ⟨gi, 0, none⟩) (t.ids.length - 1) ci, .slice (some ⟨gr, 0, none⟩) (t.ids.length - 1) cr)).eraseIdx i) :=
      OwnTabs.less HTAB.out (by simpa using hlt) (by rw [List.length_set]; exact HD.out.1) rfl HD.out.2
    rw [List.eraseIdx_set_eq, List.eraseIdx_set_eq] at L0
    refine ⟨rfl, _, hs.eraseIdx i, HB3H.out.put 0 _, ?_, ?_⟩
    · rw [hct]
      refine L0.same (Nat.le_refl _) (fun g h1 _ => ?_)
      exact Below.heap_setCell _ _ _ _ (by show g ≠ sb; omega)
    · exact ((HBUT.out.grown HD.out.2 (by have := HBUT.out.size; omega) (fun g hg => by simp [Value.ownBlock] at hg; omega))).setCell (.inr rfl) _
  · have q : ((t.ids.length : Int) - 1 == 0) = false := by simp; omega
    go_wp2
    go_end0
    refine ⟨rfl, _, hs.set i (.slice (some ⟨gi, 0, none⟩) (t.ids.length - 1) ci, .slice (some ⟨gr, 0, none⟩) (t.ids.length - 1) cr), HBX2.out, ?_, HBUT.out⟩
    have hct : M.cutT ts i k = ts.set i ⟨t.mask, M.without t.ids k, M.without t.rows k⟩ := by
      unfold M.cutT
      rw [HAT.out]
      simp only [hn1, if_false]
    rw [hct]
    exact HTAB.out
end Go.Proofs.Ytkpecagkpjabdaa
