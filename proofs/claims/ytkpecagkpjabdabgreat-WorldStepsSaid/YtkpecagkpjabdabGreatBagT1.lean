/- Several small texts in one. No condition of its own: each part says its own. -/
import Derived.Test.YtkpecagkpjabdabGreatBagO
import Derived.Deep.LoopGhost
import Derived.Deep.DeepCutAuto
import Derived.Test.YtkpecagkpjabdabGreatBagW
import Derived.Lib.AppendZerosOnto
import Derived.Shelf.Spec.SlicesInsertGrow
import Derived.Deep.RegionLaw
/- The contract of slices.BinarySearchFunc at tables by mask, as store.put calls it. Condition: the tables ascend by mask, masks from 0 to 31. -/
namespace Go.Proofs.YtkpecagkpjabdabGreat
open Go.RowKit
set_option linter.unusedVariables false
set_option linter.unusedSimpArgs false
set_option maxRecDepth 100000

theorem put1_calls (w : World) (mask m : Int) (a1 a2 : Option Addr) (n1 n2 c1 c2 : Nat) (hm : 0 ≤ mask ∧ mask ≤ 31) (hm2 : 0 ≤ m ∧ m ≤ 31) :
    Calls Tryz.prog 122 #[.agg #[.int .i64 mask, .slice a1 n1 c1, .slice a2 n2 c2], .int .i64 m] w fun e w' => e = .returned (.int .i64 (mask - m)) ∧ Below w.heap.size w w' := by
  go_enter Tryz.func122, Tryz.ntmps122
  go_wp2
  go_ret
  exact ⟨rfl, (Below.refl _ w).alloc (Nat.le_refl _) _⟩
/-- where a mask stands among ascending ones, or would stand -/
def Stands (ts : List M.Table) (m : Int) (i : Nat) : Prop := i ≤ ts.length ∧ (∀ (k : Nat) (t : M.Table), ts[k]? = some t → k < i → t.mask < m) ∧ (∀ (k : Nat) (t : M.Table), ts[k]? = some t → i ≤ k → m ≤ t.mask)
def Masks (ts : List M.Table) : Prop := ts.Pairwise (fun a b => a.mask < b.mask) ∧ ∀ t ∈ ts, 0 ≤ t.mask ∧ t.mask ≤ 31
theorem masks_lt {ts : List M.Table} (h : Masks ts) {i j : Nat} {t u : M.Table} (hi : ts[i]? = some t) (hj : ts[j]? = some u) (hij : i ≤ j) : t.mask ≤ u.mask := by
  rcases Nat.lt_or_ge i j with hlt | hge
  · obtain ⟨a, b⟩ := List.getElem?_eq_some_iff.1 hi
    obtain ⟨c, d⟩ := List.getElem?_eq_some_iff.1 hj
    have := (List.pairwise_iff_getElem.1 h.1) i j a c hlt
    rw [b, d] at this
    omega
  · have : i = j := by omega
    subst this
    rw [hi] at hj
    simp only [Option.some.injEq] at hj
    rw [hj]; exact Int.le_refl _
set_option maxHeartbeats 4000000 in
set_option maxRecDepth 100000 in
theorem search_calls {w : World} {lo : Nat} {v : Value} {ts : List M.Table} {hs : List (Value × Value)} (h : TabsAtH w lo v ts hs) (hmk : Masks ts) (m : Int) (hm : 0 ≤ m ∧ m ≤ 31) (hsz : ts.length ≤ 1000000) :
    Calls Tryz.prog 121 #[v, .int .i64 m, .func (.func 122) #[] #[]] w fun e w' =>
      ∃ (i : Nat) (f : Bool), e = .returned (.tuple #[.int .i64 i, .bool f]) ∧ Stands ts m i ∧ (f = true ↔ ∃ t, ts[i]? = some t ∧ t.mask = m) ∧ Below w.heap.size w w' := by
  have HT := Lib.hid h
  have HM := Lib.hid hmk
  obtain ⟨a, cap, rfl⟩ := h.val
  have HPC := Lib.hid (fun W mask a1 n1 c1 a2 n2 c2 hk => put1_calls W mask m a1 a2 n1 n2 c1 c2 hk hm)
  have hm0 : 0 ≤ m := hm.1
  have hm1 : m ≤ 31 := hm.2
  clear h hmk hm
  go_enter Tryz.func121, Tryz.ntmps121
  go_wp2_with fail
  go_loopg [9, 10] (ts.length + 1) (fun g x y wr => ∃ i j : Nat, i ≤ j ∧ j ≤ ts.length ∧ x = .int .i64 i ∧ y = .int .i64 j ∧ g = j - i + 1 ∧ Below w.heap.size w wr ∧
    (∀ (k : Nat) (t : M.Table), ts[k]? = some t → k < i → t.mask < m) ∧ (∀ (k : Nat) (t : M.Table), ts[k]? = some t → j ≤ k → m ≤ t.mask))
  case atStart => exact ⟨0, ts.length, Nat.zero_le _, Nat.le_refl _, rfl, rfl, rfl, Below.refl _ _, fun k t _ hk => absurd hk (Nat.not_lt_zero _), fun k t ht hk => by have := (List.getElem?_eq_some_iff.1 ht).1; omega⟩
  case round =>
    obtain ⟨i, j, hij, hj, rfl, rfl, hg, hb, hlo, hhi⟩ := hrel
    have HG := Lib.hid hg
    have HB := Lib.hid hb
    have HL := Lib.hid hlo
    have HH := Lib.hid hhi
    clear hg hb hlo hhi
    rcases Nat.lt_or_ge i j with hlt | hge
    · obtain ⟨t, ht⟩ : ∃ t, ts[(i + j) / 2]? = some t := ⟨_, List.getElem?_eq_getElem (by omega)⟩
      obtain ⟨b, o, cap', a1, cp1, a2, cp2, e, hlo, hp, c0, c1, c2, h1, h2⟩ := (HT.out.below HB.out).at2 ht
      obtain ⟨rfl, rfl⟩ : a = some ⟨b, o, none⟩ ∧ cap = cap' := by simpa using e
      have hk := HM.out.2 t (List.mem_of_getElem? ht)
      have hk0 := hk.1
      have hk1 := hk.2
      have HT2 := Lib.hid ht
      clear e hlo hp h1 h2 ht hk
      by_cases q : t.mask - m < 0
      · go_wp2_with (go_at_call 122; refine (HPC.out _ _ _ _ _ _ _ _ (by omega)).mono ?_; rintro e w1 ⟨rfl, hb1⟩)
        have hb2 := Lib.hid (HB.out.trans (hb1.mono (by have := HB.out.size; omega)))
        go_roundg (j - ((i + j) / 2 + 1) + 1)
        case measure => rw [HG.out]; omega
        case rel =>
          refine ⟨(i + j) / 2 + 1, j, by omega, hj, by go_num, rfl, rfl, hb2.out, fun k u hu hk => ?_, HH.out⟩
          have := masks_lt HM.out hu HT2.out (by omega)
          omega
      · go_wp2_with (go_at_call 122; refine (HPC.out _ _ _ _ _ _ _ _ (by omega)).mono ?_; rintro e w1 ⟨rfl, hb1⟩)
        have hb2 := Lib.hid (HB.out.trans (hb1.mono (by have := HB.out.size; omega)))
        go_roundg ((i + j) / 2 - i + 1)
        case measure => rw [HG.out]; omega
        case rel =>
          refine ⟨i, (i + j) / 2, by omega, by omega, rfl, by go_num, rfl, hb2.out, HL.out, fun k u hu hk => ?_⟩
          have := masks_lt HM.out HT2.out hu (by omega)
          omega
    · obtain rfl : i = j := by omega
      have HST : Hid (Stands ts m i) := Lib.hid ⟨hj, HL.out, HH.out⟩
      rcases Nat.lt_or_ge i ts.length with hlt | hge2
      · obtain ⟨t, ht⟩ : ∃ t, ts[i]? = some t := ⟨_, List.getElem?_eq_getElem hlt⟩
        obtain ⟨b, o, cap', a1, cp1, a2, cp2, e, hlo, hp, c0, c1, c2, h1, h2⟩ := (HT.out.below HB.out).at2 ht
        obtain ⟨rfl, rfl⟩ : a = some ⟨b, o, none⟩ ∧ cap = cap' := by simpa using e
        have hk := HM.out.2 t (List.mem_of_getElem? ht)
        have hk0 := hk.1
        have hk1 := hk.2
        have HT2 := Lib.hid ht
        clear e hlo hp h1 h2 ht hk
        go_wp2_with (go_at_call 122; refine (HPC.out _ _ _ _ _ _ _ _ (by omega)).mono ?_; rintro e w1 ⟨rfl, hb1⟩)
        all_goals
          have hb2 := HB.out.trans (hb1.mono (by have := HB.out.size; omega))
          refine bodyPost_ret (v := .tuple #[.int .i64 i, .bool (t.mask - m == 0)]) ?_ rfl ⟨i, t.mask - m == 0, rfl, HST.out, ?_, hb2⟩
          · simp only [results, Tryz.results121]
            go_simp
          · simp only [beq_iff_eq]
            constructor
            · intro h; exact ⟨t, HT2.out, by omega⟩
            · rintro ⟨u, hu, hm⟩
              rw [HT2.out] at hu
              simp only [Option.some.injEq] at hu
              subst hu
              omega
      · go_wp2_with fail
        refine bodyPost_ret (v := .tuple #[.int .i64 i, .bool false]) ?_ rfl ⟨i, false, rfl, HST.out, ?_, HB.out⟩
        · simp only [results, Tryz.results121]
          go_simp
        · simp only [Bool.false_eq_true, false_iff, not_exists, not_and]
          intro u hu
          have := (List.getElem?_eq_some_iff.1 hu).1
          omega
end Go.Proofs.YtkpecagkpjabdabGreat
/- The contract of slices.Insert at tables, one table put in. Condition: the slice is one of the call's own; few tables. -/
namespace Go.Proofs.YtkpecagkpjabdabGreat
open Go.RowKit
set_option linter.unusedVariables false
set_option linter.unusedSimpArgs false
set_option maxRecDepth 100000

/-- what comes of an insertion into a slice of the call's own -/
def Inserted (w : World) (base : Nat) (vt : Value) (n i : Nat) (xs news : List Value) (v' : Value) (w' : World) : Prop :=
  w'.ownsRow base 74 3 v' (n + 1) (xs.take (i * 3) ++ news ++ xs.drop (i * 3)) ∧ w.grownBy w' vt.ownBlock ∧ (v'.ownBlock = vt.ownBlock ∨ ∃ nb, v'.ownBlock = some nb ∧ w.heap.size ≤ nb)

set_option maxHeartbeats 2000000 in
set_option maxRecDepth 100000 in
theorem insert_end {w : World} {base : Nat} {vt : Value} {n vb : Nat} {xs news : List Value} (h : w.ownsRow base 74 3 vt n xs) (hn : n ≤ 1000000) (hb : base ≤ w.heap.size)
    (hl : news.length = 3) (hv : ∀ j u, news[j]? = some u → w.cell? ⟨vb, j, none⟩ = some u) (h1 : ∀ u ∈ news, u.oneCell' = true) :
    Calls Tryz.prog 123 #[vt, .int .i64 n, .slice (some ⟨vb, 0, none⟩) 1 1] w fun e w' => ∃ v', e = .returned v' ∧ Inserted w base vt n n xs news v' w' := by
  obtain ⟨i0, hi, hz0, hz1, hz2⟩ := info_parts infoTable
  have H := Lib.hid h
  have H1 := Lib.hid h1
  have HV := Lib.hid hv
  have HL := Lib.hid hl
  have HXL : Hid (xs.length = n * 3) := Lib.hid h.1
  have HV2 : Hid (∀ j u, news[j]? = some u → w.cell? ((⟨vb, 0, none⟩ : Addr).add j) = some u) := Lib.hid (fun j u hj => by rw [Addr.add_lit, Nat.zero_add]; exact hv j u hj)
  have FIN : ∀ v' w', Hid (w'.ownsRow base 74 3 v' (n + 1) (xs ++ news)) → w.grownBy w' vt.ownBlock → (v'.ownBlock = vt.ownBlock ∨ v'.ownBlock = some w.heap.size) → Inserted w base vt n n xs news v' w' := by
    intro v' w' k1 k2 k3
    refine ⟨?_, k2, k3.imp id (fun e => ⟨_, e, Nat.le_refl _⟩)⟩
    rw [List.take_of_length_le (by rw [HXL.out]; exact Nat.le_refl _), List.drop_of_length_le (by rw [HXL.out]; exact Nat.le_refl _), List.append_nil]
    exact k1
  rcases h.2 with ⟨rfl, rfl⟩ | ⟨g, cap, cur, rfl, hbg, hg, hnc, hcm, hcs, htk⟩
  · clear h h1 hv hl
    go_enter Tryz.func123, Tryz.ntmps123
    go_wp2_with (at_builtin; refine wpList_append_own_at _ rfl _ _ 37 rfl base 74 i0 (.agg #[.int .i64 0, .slice none 0 0, .slice none 0 0]) 3 56 Tryz.underlying37 hi hz0 hz1 hz2 rfl (by decide) _ _ _ rfl H.out ⟨vb, 0, none⟩ 1 1 news rfl HL.out HV2.out H1.out (by unfold maxLen; omega) (by omega) hb ?_; intro v' w1 hown hgrow hnil hloc)
    go_ret
    exact ⟨_, rfl, FIN _ _ (Lib.hid hown) hgrow hloc⟩
  · have hc63 : cap ≤ 9223372036854775807 := by unfold maxLen at hcm; omega
    clear h h1 hv hl hbg hg hcm hcs htk
    rcases Nat.lt_or_ge n cap with hlt | hge
    · have hne : ¬ cap = n := by omega
      go_enter Tryz.func123, Tryz.ntmps123
      go_wp2_with (at_builtin; refine wpList_append_own_at _ rfl _ _ 37 rfl base 74 i0 (.agg #[.int .i64 0, .slice none 0 0, .slice none 0 0]) 3 56 Tryz.underlying37 hi hz0 hz1 hz2 rfl (by decide) _ _ _ rfl H.out ⟨vb, 0, none⟩ 1 1 news rfl HL.out HV2.out H1.out (by unfold maxLen; omega) (by omega) hb ?_; intro v' w1 hown hgrow hnil hloc)
      go_ret
      exact ⟨_, rfl, FIN _ _ (Lib.hid hown) hgrow hloc⟩
    · obtain rfl : cap = n := by omega
      go_enter Tryz.func123, Tryz.ntmps123
      go_wp2_with (at_builtin; refine wpList_append_own_at _ rfl _ _ 37 rfl base 74 i0 (.agg #[.int .i64 0, .slice none 0 0, .slice none 0 0]) 3 56 Tryz.underlying37 hi hz0 hz1 hz2 rfl (by decide) _ _ _ rfl H.out ⟨vb, 0, none⟩ 1 1 news rfl HL.out HV2.out H1.out (by unfold maxLen; omega) (by omega) hb ?_; intro v' w1 hown hgrow hnil hloc)
      go_ret
      exact ⟨_, rfl, FIN _ _ (Lib.hid hown) hgrow hloc⟩

theorem splice_in {xs news : List Value} {cl : List Value} {n i : Nat} (hx : cl.take (n * 3) = xs) (hxl : xs.length = n * 3) (hi : i < n) (hl : news.length = 3) (hc : (n + 1) * 3 ≤ cl.length) :
    (((cl.take ((i + 1) * 3) ++ xs.drop (i * 3) ++ cl.drop ((i + 1) * 3 + (xs.drop (i * 3)).length)).take (i * 3) ++ news ++ (cl.take ((i + 1) * 3) ++ xs.drop (i * 3) ++ cl.drop ((i + 1) * 3 + (xs.drop (i * 3)).length)).drop (i * 3 + news.length))).take ((n + 1) * 3) =
      xs.take (i * 3) ++ news ++ xs.drop (i * 3) := by
  have hd : (xs.drop (i * 3)).length = n * 3 - i * 3 := by rw [List.length_drop, hxl]
  have e0 : (i + 1) * 3 = i * 3 + 3 := by omega
  have e1 : (cl.take ((i + 1) * 3) ++ xs.drop (i * 3) ++ cl.drop ((i + 1) * 3 + (xs.drop (i * 3)).length)).take (i * 3) = xs.take (i * 3) := by
    rw [List.append_assoc, List.take_append_of_le_length (by rw [List.length_take]; omega), List.take_take, ← hx, List.take_take]
    congr 1; omega
  have e2 : (cl.take ((i + 1) * 3) ++ xs.drop (i * 3) ++ cl.drop ((i + 1) * 3 + (xs.drop (i * 3)).length)).drop (i * 3 + news.length) = xs.drop (i * 3) ++ cl.drop ((i + 1) * 3 + (xs.drop (i * 3)).length) := by
    rw [List.append_assoc, hl, ← e0]
    have : (cl.take ((i + 1) * 3)).length = (i + 1) * 3 := by rw [List.length_take]; omega
    rw [List.drop_append_of_le_length (by omega), List.drop_of_length_le (by omega), List.nil_append]
  rw [e1, e2, ← List.append_assoc]
  have hle : (xs.take (i * 3) ++ news ++ xs.drop (i * 3)).length = (n + 1) * 3 := by
    simp only [List.length_append, List.length_take, hd, hl, hxl]
    omega
  rw [List.take_append_of_le_length (by omega), List.take_of_length_le (by omega)]
set_option maxHeartbeats 4000000 in
set_option maxRecDepth 100000 in
theorem insert_shift {w : World} {base g n cap i vb : Nat} {xs news : List Value} (h : w.ownsRow base 74 3 (.slice (some ⟨g, 0, none⟩) n cap) n xs) (hn : n ≤ 1000000) (hi : i < n) (hroom : n + 1 ≤ cap) (hvb : vb ≠ g)
    (hl : news.length = 3) (hv : w.heap[vb]? = some (.cells news.toArray 74 (0, 0))) (h1 : ∀ u ∈ news, u.oneCell' = true) (h2 : ∀ u ∈ xs, u.oneCell' = true) :
    Calls Tryz.prog 123 #[.slice (some ⟨g, 0, none⟩) n cap, .int .i64 i, .slice (some ⟨vb, 0, none⟩) 1 1] w fun e w' =>
      ∃ v', e = .returned v' ∧ Inserted w base (.slice (some ⟨g, 0, none⟩) n cap) n i xs news v' w' := by
  obtain ⟨i0, hi0, hz0, hz1, hz2⟩ := info_parts infoTable
  have hsz : (Tryz.prog.info? 74).map (·.size) = some 3 := by rw [hi0]; simp [hz1]
  have hxl := h.1
  rcases h.2 with ⟨e, _⟩ | ⟨g', cap', cur, e, hbg, hg, hnc, hcm, hcs, htk⟩
  · simp at e
  simp only [Value.slice.injEq, Option.some.injEq, Addr.mk.injEq, and_true, true_and] at e
  obtain ⟨rfl, rfl⟩ := e
  have hc63 : cap ≤ 9223372036854775807 := by unfold maxLen at hcm; omega
  have hdl : (xs.drop (i * 3)).length = (n - i) * 3 := by rw [List.length_drop, hxl, Nat.sub_mul]
  have hcell : ∀ j u, xs[j]? = some u → w.cell? ⟨g, j, none⟩ = some u := by
    intro j u hj
    rw [cell_of_row w g j cur _ (0, 0) hg]
    rw [← htk, List.getElem?_take] at hj
    split at hj
    · simpa using hj
    · cases hj
  have hov : ∀ lb cb, (callFunc 140 #[.slice (some ⟨vb, 0, none⟩) 1 1, .slice (some ⟨g, (i + 1) * 3, none⟩) lb cb]).run Tryz.prog w = .ok (.value (.bool false)) w := fun lb cb => by
    rw [run_callFunc_extern Tryz.func140 (by kernel_rfl) (by kernel_rfl) (by kernel_rfl) (e := Extern.SlicesOverlaps.overlaps #[37, 37] #[4]) (by kernel_rfl),
      Lib.run_overlaps_apart w 37 4 74 Tryz.underlying37 3 Tryz.sizeOf74 ⟨vb, 0, none⟩ ⟨g, (i + 1) * 3, none⟩ 1 1 lb cb hvb 74 74 3 cur.size
        (by simp [World.shape?, hv, hl]) (by simp [World.shape?, hg]) (by rw [hcs]; omega) (by simp [World.frozen?, hv]) (by simp [World.frozen?, hv])]
    rfl
  obtain ⟨R1, hR1⟩ : ∃ R1, R1 = (cur.toList.take ((i + 1) * 3) ++ xs.drop (i * 3) ++ cur.toList.drop ((i + 1) * 3 + (xs.drop (i * 3)).length)).toArray := ⟨_, rfl⟩
  have hcl : cur.toList.length = cap * 3 := by simpa using hcs
  have hR1s : R1.size = cap * 3 := by
    rw [hR1]
    simp only [List.size_toArray, List.length_append, List.length_take, List.length_drop, hcl, hdl, hxl]
    omega
  obtain ⟨R2, hR2⟩ : ∃ R2, R2 = (R1.toList.take (i * 3) ++ news ++ R1.toList.drop (i * 3 + news.length)).toArray := ⟨_, rfl⟩
  have hR2s : R2.size = cap * 3 := by
    rw [hR2]
    simp only [List.size_toArray, List.length_append, List.length_take, List.length_drop, hl, Array.length_toList, hR1s]
    omega
  have hcp1 : ∀ ty dL dc sL sc, Nat.min sL dL = n - i → (Builtin.copy_ #[37, 37] ty #[.slice (some ⟨g, (i + 1) * 3, none⟩) dL dc, .slice (some ⟨g, i * 3, none⟩) sL sc]).run Tryz.prog w.drew = .ok (goInt ((n - i : Nat) : Int)) (w.drew.setRow g R1) := fun ty dL dc sL sc hm => by
    have c := run_copy_k (P := Tryz.prog) w.drew 37 37 ty 74 3 g ((i + 1) * 3) dL dc ⟨g, i * 3, none⟩ sL sc cur 74 (xs.drop (i * 3)) Tryz.underlying37 hsz hg (by rw [hm, hdl])
      (fun j v hj => by rw [Addr.add_lit]; exact hcell _ _ (by rwa [List.getElem?_drop] at hj)) (by rw [hdl, hcs]; omega) (fun v hv => h2 v (List.mem_of_mem_drop hv))
    rw [hm, ← hR1] at c
    exact c
  have hcp2 : ∀ (W : World), W.heap = (w.setRow g R1).heap → ∀ ty dL dc, Nat.min 1 dL = 1 → (Builtin.copy_ #[37, 37] ty #[.slice (some ⟨g, i * 3, none⟩) dL dc, .slice (some ⟨vb, 0, none⟩) 1 1]).run Tryz.prog W = .ok (goInt 1) (W.setRow g R2) := fun W hW ty dL dc hm => by
    have hWg : W.heap[g]? = some (.cells R1 74 (0, 0)) := by rw [hW]; exact setRow_heap w g cur R1 _ _ hg
    have hWv : W.heap[vb]? = some (.cells news.toArray 74 (0, 0)) := by rw [hW, setRow_other w g vb _ hvb]; exact hv
    have c := run_copy_k (P := Tryz.prog) W 37 37 ty 74 3 g (i * 3) dL dc ⟨vb, 0, none⟩ 1 1 R1 74 news Tryz.underlying37 hsz hWg (by rw [hm, hl])
      (fun j v hj => by rw [Addr.add_lit, Nat.zero_add, cell_of_row W vb j _ _ (0, 0) hWv]; simpa using hj) (by rw [hl, hR1s]; omega) h1
    rw [hm, ← hR2] at c
    exact c
  have FIN : ∀ w', w'.os = w.os → w'.tape = w.tape → w'.output = w.output → w'.heap = ((w.setRow g R1).setRow g R2).heap → Inserted w base (.slice (some ⟨g, 0, none⟩) n cap) n i xs news (.slice (some ⟨g, 0, none⟩) (n + 1) cap) w' := by
    intro w' q1 q2 q3 q4
    refine ⟨⟨?_, .inr ⟨g, cap, R2, rfl, hbg, ?_, hroom, hcm, hR2s, ?_⟩⟩, ⟨q1, q2, q3, ?_, ?_⟩, .inl rfl⟩
    · simp only [List.length_append, List.length_take, hdl, hl, hxl]
      omega
    · rw [q4]
      exact setRow_heap _ g R1 R2 _ _ (setRow_heap w g cur R1 _ _ hg)
    · rw [hR2, hR1]
      exact splice_in htk hxl hi hl (by rw [hcl]; omega)
    · rw [q4]; simp [World.setRow]
    · intro k _ hk
      have hk' : k ≠ g := fun e => hk (by simp [Value.ownBlock, e])
      rw [q4, setRow_other _ g k _ hk', setRow_other _ g k _ hk']
  have HO := Lib.hid hov
  have HC1 := Lib.hid hcp1
  have HC2 := Lib.hid hcp2
  have HFIN := Lib.hid FIN
  clear hov hcp1 hcp2 FIN hR1 hR2 hR1s hR2s hcell hdl hg hv htk hcs hcl hsz hi0 hz0 hz1 hz2 h hxl h1 h2
  have hw1 : IntKind.i64.wrap ((i : Int) + 1) = (i : Int) + 1 := by rw [IntKind.wrap_i64]; omega
  have htn : ((i : Int) + 1).toNat = i + 1 := by omega
  have hb1 : (0 : Int) ≤ (i : Int) + 1 := by omega
  have hb0 : (i : Int) + 1 ≤ (n : Int) + 1 := by omega
  have hb2 : ¬ (cap = i + 1) := by omega
  have hb3 : (i : Int) ≤ (n : Int) + 1 := by omega
  have hb4 : ¬ (cap = i) := by omega
  go_enter Tryz.func123, Tryz.ntmps123
  go_wp2_with (simp only [HO.out])
  go_region_law (refine step_copy_runI rfl _ _ 37 37 rfl _ _ (by simp [Act.eval, Act.put]) (by simp [Act.eval, Act.put]) (HC1.out _ (n - i) (cap - (i + 1)) (n + 1 - i) (cap - i) (by simp only [Nat.min_def]; split <;> omega)) ?_)
  go_wp2_with (refine wpList_copy_runI _ rfl _ _ 37 37 rfl _ _ rfl rfl (HC2.out _ (by rfl) _ (n + 1 - i) (cap - i) (by simp only [Nat.min_def]; split <;> omega)) ?_)
  go_ret
  exact ⟨_, rfl, HFIN.out _ rfl rfl rfl rfl⟩
theorem splice_out {xs news Z : List Value} {n i : Nat} (hxl : xs.length = n * 3) (hi : i < n) (hl : news.length = 3) (hz : (n + 1) * 3 ≤ i * 3 + Z.length) (R1 : List Value)
    (hR1 : R1 = (xs.take (i * 3) ++ Z).take (i * 3) ++ news ++ (xs.take (i * 3) ++ Z).drop (i * 3 + news.length)) :
    (R1.take ((i + 1) * 3) ++ xs.drop (i * 3) ++ R1.drop ((i + 1) * 3 + (xs.drop (i * 3)).length)).take ((n + 1) * 3) = xs.take (i * 3) ++ news ++ xs.drop (i * 3) := by
  have hd : (xs.drop (i * 3)).length = n * 3 - i * 3 := by rw [List.length_drop, hxl]
  have ht : (xs.take (i * 3)).length = i * 3 := by rw [List.length_take]; omega
  have e0 : (xs.take (i * 3) ++ Z).take (i * 3) = xs.take (i * 3) := by
    rw [List.take_append_of_le_length (by omega), List.take_of_length_le (by omega)]
  rw [e0] at hR1
  have e1 : R1.take ((i + 1) * 3) = xs.take (i * 3) ++ news := by
    rw [hR1, List.take_append_of_le_length (by rw [List.length_append]; omega), List.take_of_length_le (by rw [List.length_append]; omega)]
  rw [e1, List.take_append_of_le_length (by simp only [List.length_append, hd]; omega), List.take_of_length_le (by simp only [List.length_append, hd]; omega)]
set_option maxHeartbeats 4000000 in
set_option maxRecDepth 100000 in
theorem insert_grow {w : World} {base g n i vb : Nat} {xs news : List Value} (h : w.ownsRow base 74 3 (.slice (some ⟨g, 0, none⟩) n n) n xs) (hn : n ≤ 1000000) (hi : i < n) (hb : base ≤ w.heap.size)
    (hl : news.length = 3) (hv : w.heap[vb]? = some (.cells news.toArray 74 (0, 0))) (h1 : ∀ u ∈ news, u.oneCell' = true) (h2 : ∀ u ∈ xs, u.oneCell' = true) :
    Calls Tryz.prog 123 #[.slice (some ⟨g, 0, none⟩) n n, .int .i64 i, .slice (some ⟨vb, 0, none⟩) 1 1] w fun e w' =>
      ∃ v', e = .returned v' ∧ Inserted w base (.slice (some ⟨g, 0, none⟩) n n) n i xs news v' w' := by
  obtain ⟨i0, hi0, hz0, hz1, hz2⟩ := info_parts infoTable
  have hsz : (Tryz.prog.info? 74).map (·.size) = some 3 := by rw [hi0]; simp [hz1]
  have hxl := h.1
  rcases h.2 with ⟨e, _⟩ | ⟨g', cap', cur, e, hbg, hg, hnc, hcm, hcs, htk⟩
  · simp at e
  simp only [Value.slice.injEq, Option.some.injEq, Addr.mk.injEq, and_true, true_and] at e
  obtain ⟨rfl, rfl⟩ := e
  have hgl : g < w.heap.size := (Array.getElem?_eq_some_iff.1 hg).1
  have hvl : vb < w.heap.size := (Array.getElem?_eq_some_iff.1 hv).1
  have hdl : (xs.drop (i * 3)).length = (n - i) * 3 := by rw [List.length_drop, hxl, Nat.sub_mul]
  have hcell : ∀ j u, xs[j]? = some u → w.cell? ⟨g, j, none⟩ = some u := by
    intro j u hj
    rw [cell_of_row w g j cur _ (0, 0) hg]
    rw [← htk, List.getElem?_take] at hj
    split at hj
    · simpa using hj
    · cases hj
  have hold : (Builtin.firstCells i0.size i (.slice (some ⟨g, 0, none⟩) i n)).run Tryz.prog w.drew = .ok (xs.take (i * 3)).toArray w.drew := by
    rw [hz1]
    exact run_firstCells_some w.drew 3 i ⟨g, 0, none⟩ i n (xs.take (i * 3)) (by rw [List.length_take]; omega) (fun j v hj => by
      rw [Addr.add_lit, Nat.zero_add]
      rw [List.getElem?_take] at hj
      split at hj
      · exact hcell j v hj
      · cases hj)
  obtain ⟨G, hG⟩ : ∃ G, G = grownCap w (n + 1) n 74 := ⟨_, rfl⟩
  have hG1 : n + 1 ≤ G := by rw [hG]; exact grownCap_ge w (n + 1) n _
  have hG2 : G ≤ maxLen := by rw [hG]; exact grownCap_le_maxLen w (n + 1) n _ (by unfold maxLen; omega)
  obtain ⟨Z, hZ⟩ : ∃ Z : List Value, Z = (Builtin.zeroCells (Value.agg #[.int .i64 0, .slice none 0 0, .slice none 0 0]).cells (n + 1 - i) ++ Builtin.zeroCells (Value.agg #[.int .i64 0, .slice none 0 0, .slice none 0 0]).cells (G - (n + 1))).toList := ⟨_, rfl⟩
  have hZl : Z.length = (G - i) * 3 := by
    rw [hZ]
    simp only [Array.toList_append, List.length_append, Array.length_toList, size_zeroCells]
    have : (Value.agg #[.int .i64 0, .slice none 0 0, .slice none 0 0]).cells.size = 3 := rfl
    rw [this]
    omega
  obtain ⟨R0, hR0⟩ : ∃ R0 : Array Value, R0 = (xs.take (i * 3) ++ Z).toArray := ⟨_, rfl⟩
  have hR0s : R0.size = G * 3 := by
    rw [hR0]
    simp only [List.size_toArray, List.length_append, List.length_take, hZl, hxl]
    omega
  have hrz : ∀ ty, (Builtin.append_ #[37, 3] ty #[.slice (some ⟨g, 0, none⟩) i n, .int .i64 ((n : Int) + 1 - (i : Int))]).run Tryz.prog w =
      .ok (.slice (some ⟨w.heap.size, 0, none⟩) (n + 1) G) (w.drew.alloc (.cells R0 74)) := fun ty => by
    have hik : i + (n + 1 - i) = n + 1 := by omega
    have hkk : (n : Int) + 1 - (i : Int) = ((n + 1 - i : Nat) : Int) := by omega
    have h := Lib.run_append_grow_zeros w 37 3 ty 74 i0 _ .i64 .i64 Tryz.underlying37 Tryz.underlying3 hi0 hz0 (some ⟨g, 0, none⟩) i n (xs.take (i * 3)) hold (n + 1 - i) (by omega) (by omega) (by omega) (by omega) (by rw [hz2]; omega)
      (by rw [hz2, hik]; exact growslice_fits (by omega) (by omega))
    rw [hik, ← hG] at h
    have e : ∀ (l : List Value) (A : Array Value), l.toArray ++ A = (l ++ A.toList).toArray := by intro l A; apply Array.ext'; simp
    rw [hkk, h, hR0, hZ, Array.append_assoc, e]
  obtain ⟨R1, hR1⟩ : ∃ R1, R1 = (R0.toList.take (i * 3) ++ news ++ R0.toList.drop (i * 3 + news.length)).toArray := ⟨_, rfl⟩
  have hR1s : R1.size = G * 3 := by
    rw [hR1]
    simp only [List.size_toArray, List.length_append, List.length_take, List.length_drop, hl, Array.length_toList, hR0s]
    omega
  obtain ⟨R2, hR2⟩ : ∃ R2, R2 = (R1.toList.take ((i + 1) * 3) ++ xs.drop (i * 3) ++ R1.toList.drop ((i + 1) * 3 + (xs.drop (i * 3)).length)).toArray := ⟨_, rfl⟩
  have hR2s : R2.size = G * 3 := by
    rw [hR2]
    simp only [List.size_toArray, List.length_append, List.length_take, List.length_drop, hdl, Array.length_toList, hR1s]
    omega
  have hcp1 : ∀ (W : World), W.heap = (w.alloc (.cells R0 74)).heap → ∀ ty dL dc, Nat.min 1 dL = 1 → (Builtin.copy_ #[37, 37] ty #[.slice (some ⟨w.heap.size, i * 3, none⟩) dL dc, .slice (some ⟨vb, 0, none⟩) 1 1]).run Tryz.prog W = .ok (goInt 1) (W.setRow w.heap.size R1) := fun W hW ty dL dc hm => by
    have hWg : W.heap[w.heap.size]? = some (.cells R0 74 (0, 0)) := by rw [hW]; exact heap_alloc_new w _
    have hWv : W.heap[vb]? = some (.cells news.toArray 74 (0, 0)) := by rw [hW, heap_alloc_old w _ hvl]; exact hv
    have c := run_copy_k (P := Tryz.prog) W 37 37 ty 74 3 w.heap.size (i * 3) dL dc ⟨vb, 0, none⟩ 1 1 R0 74 news Tryz.underlying37 hsz hWg (by rw [hm, hl])
      (fun j v hj => by rw [Addr.add_lit, Nat.zero_add, cell_of_row W vb j _ _ (0, 0) hWv]; simpa using hj) (by rw [hl, hR0s]; omega) h1
    rw [hm, ← hR1] at c
    exact c
  have hcp2 : ∀ (W : World), W.heap = ((w.alloc (.cells R0 74)).setRow w.heap.size R1).heap → ∀ ty dL dc sL sc, Nat.min sL dL = n - i → (Builtin.copy_ #[37, 37] ty #[.slice (some ⟨w.heap.size, (i + 1) * 3, none⟩) dL dc, .slice (some ⟨g, i * 3, none⟩) sL sc]).run Tryz.prog W = .ok (goInt ((n - i : Nat) : Int)) (W.setRow w.heap.size R2) := fun W hW ty dL dc sL sc hm => by
    have hWg : W.heap[w.heap.size]? = some (.cells R1 74 (0, 0)) := by rw [hW]; exact setRow_heap _ _ R0 R1 _ _ (heap_alloc_new w _)
    have hWo : W.heap[g]? = some (.cells cur 74 (0, 0)) := by rw [hW, setRow_other _ _ g _ (by omega), heap_alloc_old w _ hgl]; exact hg
    have c := run_copy_k (P := Tryz.prog) W 37 37 ty 74 3 w.heap.size ((i + 1) * 3) dL dc ⟨g, i * 3, none⟩ sL sc R1 74 (xs.drop (i * 3)) Tryz.underlying37 hsz hWg (by rw [hm, hdl])
      (fun j v hj => by
        rw [Addr.add_lit, cell_of_row W g _ cur _ (0, 0) hWo, ← cell_of_row w g _ cur _ (0, 0) hg]
        exact hcell _ _ (by rwa [List.getElem?_drop] at hj)) (by rw [hdl, hR1s]; omega) (fun v hv => h2 v (List.mem_of_mem_drop hv))
    rw [hm, ← hR2] at c
    exact c
  have FIN : ∀ w', w'.os = w.os → w'.tape = w.tape → w'.output = w.output → w'.heap = (((w.alloc (.cells R0 74)).setRow w.heap.size R1).setRow w.heap.size R2).heap → Inserted w base (.slice (some ⟨g, 0, none⟩) n n) n i xs news (.slice (some ⟨w.heap.size, 0, none⟩) (n + 1) G) w' := by
    intro w' q1 q2 q3 q4
    refine ⟨⟨?_, .inr ⟨w.heap.size, G, R2, rfl, hb, ?_, hG1, hG2, hR2s, ?_⟩⟩, ⟨q1, q2, q3, ?_, ?_⟩, .inr ⟨_, rfl, Nat.le_refl _⟩⟩
    · simp only [List.length_append, List.length_take, hdl, hl, hxl]
      omega
    · rw [q4]
      exact setRow_heap _ _ R1 R2 _ _ (setRow_heap _ _ R0 R1 _ _ (heap_alloc_new w _))
    · rw [hR2]
      exact splice_out hxl hi hl (by rw [hZl]; omega) R1.toList (by rw [hR1, hR0])
    · rw [q4]; simp [World.setRow]
    · intro k hk _
      rw [q4, setRow_other _ _ k _ (by omega), setRow_other _ _ k _ (by omega), heap_alloc_old w _ hk]
  have HRZ := Lib.hid hrz
  have HC1 := Lib.hid hcp1
  have HC2 := Lib.hid hcp2
  have HFIN := Lib.hid FIN
  clear hrz hcp1 hcp2 FIN hR1 hR2 hR1s hR2s hcell hdl hg hv htk hcs hsz hi0 hz0 hz1 hz2 h hxl h1 h2 hR0 hR0s hZ hZl hold hG
  have hw1 : IntKind.i64.wrap ((i : Int) + 1) = (i : Int) + 1 := by rw [IntKind.wrap_i64]; omega
  have htn : ((i : Int) + 1).toNat = i + 1 := by omega
  have hb1 : (0 : Int) ≤ (i : Int) + 1 := by omega
  have hb0 : (i : Int) + 1 ≤ (n : Int) + 1 := by omega
  have hb2 : ¬ (G = i + 1) := by omega
  have hb3 : (i : Int) ≤ (n : Int) + 1 := by omega
  have hb4 : ¬ (G = i) := by omega
  have hb5 : ¬ (n = i) := by omega
  have hb6 : (i : Int) ≤ (n : Int) := by omega
  have hG63 : G ≤ 9223372036854775807 := by unfold maxLen at hG2; omega
  go_enter Tryz.func123, Tryz.ntmps123
  go_wp2_with (first | (at_builtin; refine Lib.wpList_append_run _ rfl _ _ 37 3 rfl _ _ rfl rfl _ _ (HRZ.out _) ?_) | (refine wpList_copy_runI _ rfl _ _ 37 37 rfl _ _ rfl rfl (HC1.out _ (by rfl) _ (n + 1 - i) (G - i) (by simp only [Nat.min_def]; split <;> omega)) ?_))
  go_region_law (refine step_copy_runI rfl _ _ 37 37 rfl _ _ (by simp [Act.eval, Act.put]) (by simp [Act.eval, Act.put]) (HC2.out _ (by rfl) _ (n - i) (G - (i + 1)) (n - i) (n - i) (by simp only [Nat.min_def]; split <;> omega)) ?_)
  go_wp2_with fail
  go_ret
  exact ⟨_, rfl, HFIN.out _ rfl rfl rfl rfl⟩
end Go.Proofs.YtkpecagkpjabdabGreat
/- The contract of slices.Delete at tables, one table cut out. Condition: the slice is one of the call's own. -/
namespace Go.Proofs.YtkpecagkpjabdabGreat
open Go.RowKit
set_option linter.unusedVariables false
set_option linter.unusedSimpArgs false
set_option maxRecDepth 100000

theorem run_clear_k {P : Program} (w : World) (t e ty : TypeId) (z : Value) (ht : P.underlying t = some (.slice e)) (hv : ∀ w, (zeroValue e).run P w = .ok z w) (g off n c : Nat) (hn : 0 < n) (cur : Array Value) (te : TypeId) (zs : List Value)
    (hz : (Builtin.zeroCells z.cells n).toList = zs) (hg : w.heap[g]? = some (.cells cur te (0, 0))) (hfit : off + zs.length ≤ cur.size) (h1 : ∀ v ∈ zs, v.oneCell' = true) :
    (Builtin.clear_ #[t] ty #[.slice (some ⟨g, off, none⟩) n c]).run P w = .ok (.tuple #[]) (w.setRow g (cur.toList.take off ++ zs ++ cur.toList.drop (off + zs.length)).toArray) := by
  have hst := run_storeCells_at (P := P) g off te zs 0 cur w hg (by simpa using hfit) h1
  rw [Nat.add_zero] at hst
  obtain ⟨m, rfl⟩ : ∃ m, n = m + 1 := ⟨n - 1, by omega⟩
  simp [Builtin.clear_, run_underlying ht, hv, hz, hst]
theorem wpList_clear_run {P : Program} (w : World) {ops : Array Oper} {rest : List Oper} {o : Oper} {a : Act} {Q : Exit → Act → World → Prop} (hgd : o.guard = none) (s : Operand) (t : TypeId)
    (ho : o.op = .call { callee := .builtin .clear, args := #[s], argTypes := #[t] }) (v : Value) (hs : a.eval s = v) {v' : Value} {w' : World}
    (hr : (Builtin.clear_ #[t] o.type #[v]).run P w = .ok v' w') (h : wpList P ops Q rest (a.put o.dst v') w') : wpList P ops Q (o :: rest) a w := by
  refine wpList_plain hgd fun K hK => ?_
  unfold Oper.wp execOp
  simp only [ho, resolve, invoke, builtin, Sem.run_bind, Sem.run_pure, Result.andThen_ok, List.map_toArray, List.map_cons, List.map_nil, hs, hr]
  exact hK _ _ h
end Go.Proofs.YtkpecagkpjabdabGreat
