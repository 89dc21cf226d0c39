/- The contract of slices.BinarySearchFunc at tables by mask, as store.put calls it. Condition: the tables ascend by mask, masks from 0 to 31. -/
import Derived.Test.YtkpecagkpjabdaaStoreOwn
import Derived.Deep.LoopGhost
import Derived.Deep.DeepCutAuto
namespace Go.Proofs.Ytkpecagkpjabdaa
open Go.RowKit
set_option linter.unusedVariables false
set_option linter.unusedSimpArgs false
set_option maxRecDepth 100000

theorem put1_calls (w : World) (mask m : Int) (a1 a2 : Option Addr) (n1 n2 c1 c2 : Nat) (hm : 0 ≤ mask ∧ mask ≤ 31) (hm2 : 0 ≤ m ∧ m ≤ 31) :
    Calls Try.prog 74 #[.agg #[.int .i64 mask, .slice a1 n1 c1, .slice a2 n2 c2], .int .i64 m] w fun e w' => e = .returned (.int .i64 (mask - m)) ∧ Below w.heap.size w w' := by
  go_enter Try.func74, Try.ntmps74
  go_wp2
  go_ret
  exact ⟨rfl, (Below.refl _ w).alloc (Nat.le_refl _) _⟩
/-- where a mask stands among ascending ones, or would stand -/
def Stands (ts : List M.Table) (m : Int) (i : Nat) : Prop := i ≤ ts.length ∧ (∀ (k : Nat) (t : M.Table), ts[k]? = some t → k < i → t.mask < m) ∧ (∀ (k : Nat) (t : M.Table), ts[k]? = some t → i ≤ k → m ≤ t.mask)
def Masks (ts : List M.Table) : Prop := ts.Pairwise (fun a b => a.mask < b.mask) ∧ ∀ t ∈ ts, 0 ≤ t.mask ∧ t.mask ≤ 31
theorem masks_lt {ts : List M.Table} (h : Masks ts) {i j : Nat} {t u : M.Table} (hi : ts[i]? = some t) (hj : ts[j]? = some u) (hij : i ≤ j) : t.mask ≤ u.mask := by
  rcases Nat.lt_or_ge i j with hlt | hge
  · obtain ⟨a, b⟩ := List.getElem?_eq_some_iff.1 hi
    obtain ⟨c, d⟩ := List.getElem?_eq_some_iff.1 hj
    have := (List.pairwise_iff_getElem.1 h.1) i j a c hlt
    rw [b, d] at this
    omega
  · have : i = j := by omega
    subst this
    rw [hi] at hj
    simp only [Option.some.injEq] at hj
    rw [hj]; exact Int.le_refl _
set_option maxHeartbeats 4000000 in
set_option maxRecDepth 100000 in
theorem search_calls {w : World} {lo : Nat} {v : Value} {ts : List M.Table} {hs : List (Value × Value)} (h : TabsAtH w lo v ts hs) (hmk : Masks ts) (m : Int) (hm : 0 ≤ m ∧ m ≤ 31) (hsz : ts.length ≤ 1000000) :
    Calls Try.prog 73 #[v, .int .i64 m, .func (.func 74) #[] #[]] w fun e w' =>
      ∃ (i : Nat) (f : Bool), e = .returned (.tuple #[.int .i64 i, .bool f]) ∧ Stands ts m i ∧ (f = true ↔ ∃ t, ts[i]? = some t ∧ t.mask = m) ∧ Below w.heap.size w w' := by
  have HT := Lib.hid h
  have HM := Lib.hid hmk
  obtain ⟨a, cap, rfl⟩ := h.val
  have HPC := Lib.hid (fun W mask a1 n1 c1 a2 n2 c2 hk => put1_calls W mask m a1 a2 n1 n2 c1 c2 hk hm)
  have hm0 : 0 ≤ m := hm.1
  have hm1 : m ≤ 31 := hm.2
  clear h hmk hm
  go_enter Try.func73, Try.ntmps73
  go_wp2_with fail
  go_loopg [9, 10] (ts.length + 1) (fun g x y wr => ∃ i j : Nat, i ≤ j ∧ j ≤ ts.length ∧ x = .int .i64 i ∧ y = .int .i64 j ∧ g = j - i + 1 ∧ Below w.heap.size w wr ∧
    (∀ (k : Nat) (t : M.Table), ts[k]? = some t → k < i → t.mask < m) ∧ (∀ (k : Nat) (t : M.Table), ts[k]? = some t → j ≤ k → m ≤ t.mask))
  case atStart => exact ⟨0, ts.length, Nat.zero_le _, Nat.le_refl _, rfl, rfl, rfl, Below.refl _ _, fun k t _ hk => absurd hk (Nat.not_lt_zero _), fun k t ht hk => by have := (List.getElem?_eq_some_iff.1 ht).1; omega⟩
  case round =>
    obtain ⟨i, j, hij, hj, rfl, rfl, hg, hb, hlo, hhi⟩ := hrel
    have HG := Lib.hid hg
    have HB := Lib.hid hb
    have HL := Lib.hid hlo
    have HH := Lib.hid hhi
    clear hg hb hlo hhi
    rcases Nat.lt_or_ge i j with hlt | hge
    · obtain ⟨t, ht⟩ : ∃ t, ts[(i + j) / 2]? = some t := ⟨_, List.getElem?_eq_getElem (by omega)⟩
      obtain ⟨b, o, cap', a1, cp1, a2, cp2, e, hlo, hp, c0, c1, c2, h1, h2⟩ := (HT.out.below HB.out).at2 ht
      obtain ⟨rfl, rfl⟩ : a = some ⟨b, o, none⟩ ∧ cap = cap' := by simpa using e
      have hk := HM.out.2 t (List.mem_of_getElem? ht)
      have hk0 := hk.1
      have hk1 := hk.2
      have HT2 := Lib.hid ht
      clear e hlo hp h1 h2 ht hk
      by_cases q : t.mask - m < 0
      · go_wp2_with (go_at_call 74; refine (HPC.out _ _ _ _ _ _ _ _ (by omega)).mono ?_; rintro e w1 ⟨rfl, hb1⟩)
        have hb2 := Lib.hid (HB.out.trans (hb1.mono (by have := HB.out.size; omega)))
        go_roundg (j - ((i + j) / 2 + 1) + 1)
        case measure => rw [HG.out]; omega
        case rel =>
          refine ⟨(i + j) / 2 + 1, j, by omega, hj, by go_num, rfl, rfl, hb2.out, fun k u hu hk => ?_, HH.out⟩
          have := masks_lt HM.out hu HT2.out (by omega)
          omega
      · go_wp2_with (go_at_call 74; refine (HPC.out _ _ _ _ _ _ _ _ (by omega)).mono ?_; rintro e w1 ⟨rfl, hb1⟩)
        have hb2 := Lib.hid (HB.out.trans (hb1.mono (by have := HB.out.size; omega)))
        go_roundg ((i + j) / 2 - i + 1)
        case measure => rw [HG.out]; omega
        case rel =>
          refine ⟨i, (i + j) / 2, by omega, by omega, rfl, by go_num, rfl, hb2.out, HL.out, fun k u hu hk => ?_⟩
          have := masks_lt HM.out HT2.out hu (by omega)
          omega
    · obtain rfl : i = j := by omega
      have HST : Hid (Stands ts m i) := Lib.hid ⟨hj, HL.out, HH.out⟩
      rcases Nat.lt_or_ge i ts.length with hlt | hge2
      · obtain ⟨t, ht⟩ : ∃ t, ts[i]? = some t := ⟨_, List.getElem?_eq_getElem hlt⟩
        obtain ⟨b, o, cap', a1, cp1, a2, cp2, e, hlo, hp, c0, c1, c2, h1, h2⟩ := (HT.out.below HB.out).at2 ht
        obtain ⟨rfl, rfl⟩ : a = some ⟨b, o, none⟩ ∧ cap = cap' := by simpa using e
        have hk := HM.out.2 t (List.mem_of_getElem? ht)
        have hk0 := hk.1
        have hk1 := hk.2
        have HT2 := Lib.hid ht
        clear e hlo hp h1 h2 ht hk
        go_wp2_with (go_at_call 74; refine (HPC.out _ _ _ _ _ _ _ _ (by omega)).mono ?_; rintro e w1 ⟨rfl, hb1⟩)
        all_goals
          have hb2 := HB.out.trans (hb1.mono (by have := HB.out.size; omega))
          refine bodyPost_ret (v := .tuple #[.int .i64 i, .bool (t.mask - m == 0)]) ?_ rfl ⟨i, t.mask - m == 0, rfl, HST.out, ?_, hb2⟩
          · simp only [results, Try.results73]
            go_simp
          · simp only [beq_iff_eq]
            constructor
            · intro h; exact ⟨t, HT2.out, by omega⟩
            · rintro ⟨u, hu, hm⟩
              rw [HT2.out] at hu
              simp only [Option.some.injEq] at hu
              subst hu
              omega
      · go_wp2_with fail
        refine bodyPost_ret (v := .tuple #[.int .i64 i, .bool false]) ?_ rfl ⟨i, false, rfl, HST.out, ?_, HB.out⟩
        · simp only [results, Try.results73]
          go_simp
        · simp only [Bool.false_eq_true, false_iff, not_exists, not_and]
          intro u hu
          have := (List.getElem?_eq_some_iff.1 hu).1
          omega
end Go.Proofs.Ytkpecagkpjabdaa
