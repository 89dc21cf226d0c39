/- The contracts of store.find, Get and Size. No condition. -/
import Derived.Test.YtkpecagkpjabdabGreatBagW
import Derived.Test.YtkpecagkpjabdabGreatLayStore
import Derived.Lib.Hide
import Derived.Deep.DeepFit
import Derived.Deep.LoopGhost
import Derived.Deep.DeepCutAuto
namespace Go.Proofs.YtkpecagkpjabdabGreat
open Go.RowKit
set_option linter.unusedVariables false
set_option linter.unusedSimpArgs false
set_option maxRecDepth 100000

/-- slices.Index at numbers that lie somewhere -/
theorem index_calls {w : World} {lo : Nat} {v : Value} {zs : List Int} (h : IntsAt w lo v zs) (x : Int) :
    Calls Tryz.prog 75 #[v, .int .i64 x] w fun e w' => e = .returned (.int .i64 (if x ∈ zs then ((zs.idxOf x : Nat) : Int) else -1)) ∧ w' = w := by
  obtain ⟨h1, hm, a, cap, rfl, hc⟩ := h
  rw [← M.idxOf_eq]
  cases zs with
  | nil =>
    have c : Calls Tryz.prog 75 #[.slice a 0 cap, .int .i64 x] w fun e w' => e = .returned (.int .i64 (-1)) ∧ w' = w := Any.slices_Index_int_empty Tryz.lays108 _ _ _ _
    exact c
  | cons z zs =>
    obtain ⟨b, o, rfl, hl, hc⟩ := hc (by simp)
    have c : Calls Tryz.prog 75 #[.slice (some ⟨b, o, none⟩) (z :: zs).length cap, .int .i64 x] w fun e w' => e = .returned (.int .i64 (Lib.idxOf ((z :: zs).take (z :: zs).length) x)) ∧ w' = w :=
      Any.slices_Index_int Tryz.lays108 b o (z :: zs).length cap (z :: zs) x w (Nat.le_refl _) (by unfold maxLen at hm; omega) (fun j hj => hc j _ (by
        rw [List.getElem?_map, List.getElem?_eq_getElem hj]
        simp [List.getD, List.getElem?_eq_getElem hj]))
    rw [List.take_length] at c
    exact c
set_option maxHeartbeats 1000000 in
theorem find_calls {w : World} {lo : Nat} {v : Value} {s : M.Store} (h : StoreAt w lo v s) (id : Int) :
    Calls Tryz.prog 38 #[v, .int .i64 id] w fun e w' => e = .returned (.tuple #[.int .i64 (M.found s id).1, .int .i64 (M.found s id).2.1, .bool (M.found s id).2.2]) ∧ Below w.heap.size w w' := by
  obtain ⟨vt, rfl, hs, hT⟩ := h
  obtain ⟨a, cap, rfl⟩ := hT.val
  have hmx : s.tables.length ≤ 9223372036854775807 := by have := hT.max; unfold maxLen at this; omega
  have HT := Lib.hid hT
  clear hT
  go_enter Tryz.func38, Tryz.ntmps38
  go_wp2_with fail
  go_loopg [13] s.tables.length (fun g i wr => ∃ n : Nat, n ≤ s.tables.length ∧ i = .int .i64 n ∧ g = s.tables.length - n ∧ Below w.heap.size w wr ∧ ∀ j t, j < n → s.tables[j]? = some t → id ∉ t.ids)
  case atStart => exact ⟨0, Nat.zero_le _, rfl, rfl, (Below.refl _ w).alloc (Nat.le_refl _) _, fun j t hj => absurd hj (Nat.not_lt_zero _)⟩
  case round =>
    obtain ⟨n, hn, rfl, hg, hb, hmiss⟩ := hrel
    have HM := Lib.hid hmiss
    have HB := Lib.hid hb
    have HG := Lib.hid hg
    clear hmiss hb hg
    rcases Nat.lt_or_ge n s.tables.length with hlt | hge
    · obtain ⟨t, ht⟩ : ∃ t, s.tables[n]? = some t := ⟨_, List.getElem?_eq_getElem hlt⟩
      obtain ⟨b, o, cap', a1, cp1, a2, cp2, e, hlo, hp, c0, c1, c2, h1, h2⟩ := (HT.out.below HB.out).at2 ht
      obtain ⟨rfl, rfl⟩ : a = some ⟨b, o, none⟩ ∧ cap = cap' := by simpa using e
      have HH := Lib.hid ht
      have HI := Lib.hid (fun o => index_calls (h1.below ((Below.refl _ wr).alloc (Nat.le_refl _) o)) id)
      clear e hlo hp h1 h2 ht
      by_cases hm : id ∈ t.ids
      · rw [if_pos hm] at HI
        go_wp2_with (go_at_call 75; refine (HI.out _).mono ?_; rintro e w' ⟨rfl, rfl⟩)
        have hf : M.found s id = ((n : Int), (t.ids.idxOf id : Int), true) := by unfold M.found; rw [M.find_skip HM.out HH.out hm]
        refine bodyPost_ret (v := .tuple #[.int .i64 n, .int .i64 (t.ids.idxOf id : Nat), .bool true]) ?_ rfl ⟨by rw [hf], ?_⟩
        · simp only [results, Tryz.results38]
          go_simp
        · exact HB.out.alloc (by have := HB.out.size; omega) _
      · rw [if_neg hm] at HI
        go_wp2_with (go_at_call 75; refine (HI.out _).mono ?_; rintro e w' ⟨rfl, rfl⟩)
        go_roundg (s.tables.length - (n + 1))
        case measure => rw [HG.out]; omega
        case rel =>
          refine ⟨n + 1, by omega, by go_num, rfl, HB.out.alloc (by have := HB.out.size; omega) _, fun j t' hj ht' => ?_⟩
          rcases Nat.lt_or_ge j n with h | h
          · exact HM.out j t' h ht'
          · obtain rfl : j = n := by omega
            have := HH.out
            rw [ht'] at this
            obtain rfl : t' = t := by simpa using this
            exact hm
    · go_wp2_with fail
      have hf : M.found s id = (0, 0, false) := by
        unfold M.found
        rw [M.find_miss (fun j t hj ht => HM.out j t (by omega) ht)]
      refine bodyPost_ret (v := .tuple #[.int .i64 0, .int .i64 0, .bool false]) ?_ rfl ⟨by rw [hf], HB.out⟩
      simp only [results, Tryz.results38]
      go_simp

set_option maxHeartbeats 1000000 in
theorem get_calls {w : World} {lo : Nat} {v : Value} {s : M.Store} (h : StoreAt w lo v s) (id : Int) :
    Calls Tryz.prog 13 #[v, .int .i64 id] w fun e w' => e = .returned (.tuple #[.int .i64 (M.get s id).1, rowV (M.get s id).2.1, .bool (M.get s id).2.2]) ∧ Below w.heap.size w w' := by
  have HF := Lib.hid (fun W (hb : Below w.heap.size w W) => find_calls (h.below hb) id)
  obtain ⟨vt, rfl, hs, hT⟩ := h
  obtain ⟨a, cap, rfl⟩ := hT.val
  have hmx : s.tables.length ≤ 9223372036854775807 := by have := hT.max; unfold maxLen at this; omega
  cases hf : M.find s id with
  | none =>
    have hg : M.get s id = (0, M.row0, false) := by unfold M.get; rw [hf]
    have hfo : M.found s id = (0, 0, false) := by unfold M.found; rw [hf]
    rw [hg]
    rw [hfo] at HF
    clear hf hg hfo hT
    go_enter Tryz.func13, Tryz.ntmps13
    go_wp2_with (go_at_call 38; refine (HF.out _ bel9).mono ?_; rintro e w1 ⟨rfl, hb1⟩; obtain ⟨hc1, hf1⟩ := bcell hb1; have k0 := (fun o => hc1 w.heap.size o (by simp; omega)); have k1 := (fun o => hc1 (w.heap.size + 1) o (by simp)); have q0 := (fun o => hf1 w.heap.size o (by simp; omega)); have q1 := (fun o => hf1 (w.heap.size + 1) o (by simp)); clear hc1 hf1; have HB := Lib.hid ((show Below w.heap.size w _ from bel9).trans (hb1.mono (by simp; omega))); have hz := HB.out.size)
    refine bodyPost_ret (v := .tuple #[.int .i64 0, rowV M.row0, .bool false]) ?_ rfl ⟨rfl, ?_⟩
    · simp only [results, Tryz.results13, M.row0]
      go_simp
    · have hB := HB.out
      exact bel9
  | some p =>
    obtain ⟨i, k⟩ := p
    obtain ⟨t, ht, _, hki, hid⟩ := M.findT_at hf
    have hfo : M.found s id = ((i : Int), (k : Int), true) := by unfold M.found; rw [hf]
    rw [hfo] at HF
    obtain ⟨b, o, cap', a1, cp1, a2, cp2, e, hlo, hp, c0, c1, c2, h1, h2⟩ := hT.at2 ht
    obtain ⟨rfl, rfl⟩ : a = some ⟨b, o, none⟩ ∧ cap = cap' := by simpa using e
    have hit : i < s.tables.length := (List.getElem?_eq_some_iff.1 ht).1
    have hmr : t.rows.length ≤ 9223372036854775807 := by have := h2.max; unfold maxLen at this; omega
    have C0 := Lib.hid c0
    have C1 := Lib.hid c1
    have C2 := Lib.hid c2
    clear c0 c1 c2 e hp hfo
    by_cases hk : k < t.rows.length
    · have hg : M.get s id = (t.mask, t.rows[k], true) := by
        unfold M.get; rw [hf]; simp only [ht]; rw [dif_pos hk]
      rw [hg]
      obtain ⟨r, hr⟩ : ∃ r, t.rows[k] = r := ⟨_, rfl⟩
      rw [hr]
      obtain ⟨b2, o2, cap2, e2, hlo2, hc⟩ := h2.at8 (i := k) (r := r) (by rw [List.getElem?_eq_getElem hk, hr])
      obtain ⟨rfl, rfl⟩ : a2 = some ⟨b2, o2, none⟩ ∧ cp2 = cap2 := by simpa using e2
      have HC := Lib.hid hc
      clear hc e2 hg hr hf hT ht h1 h2 hid
      go_enter Tryz.func13, Tryz.ntmps13
      go_wp2_with (go_at_call 38; refine (HF.out _ bel9).mono ?_; rintro e w1 ⟨rfl, hb1⟩; obtain ⟨hc1, hf1⟩ := bcell hb1; have k0 := (fun o => hc1 w.heap.size o (by simp; omega)); have k1 := (fun o => hc1 (w.heap.size + 1) o (by simp)); have q0 := (fun o => hf1 w.heap.size o (by simp; omega)); have q1 := (fun o => hf1 (w.heap.size + 1) o (by simp)); clear hc1 hf1; have HB := Lib.hid ((show Below w.heap.size w _ from bel9).trans (hb1.mono (by simp; omega))); have hz := HB.out.size; have c0 := below_cell C0.out HB.out; have c1 := below_cell C1.out HB.out; have c2 := below_cell C2.out HB.out; obtain ⟨r0, r1, r2, r3, r4, r5, r6, r7⟩ := HC.out.below HB.out)
      go_region
      all_goals
        go_wp2_with fail
        refine bodyPost_ret (v := .tuple #[.int .i64 t.mask, rowV r, .bool true]) ?_ rfl ⟨rfl, ?_⟩
        · simp only [results, Tryz.results13]
          go_simp
        · have hB := HB.out
          exact bel9
    · have hg : M.get s id = (0, M.row0, false) := by
        unfold M.get; rw [hf]; simp only [ht]; rw [dif_neg hk]
      rw [hg]
      clear hg hf hT ht h1 h2 hid
      go_enter Tryz.func13, Tryz.ntmps13
      go_wp2_with (go_at_call 38; refine (HF.out _ bel9).mono ?_; rintro e w1 ⟨rfl, hb1⟩; obtain ⟨hc1, hf1⟩ := bcell hb1; have k0 := (fun o => hc1 w.heap.size o (by simp; omega)); have k1 := (fun o => hc1 (w.heap.size + 1) o (by simp)); have q0 := (fun o => hf1 w.heap.size o (by simp; omega)); have q1 := (fun o => hf1 (w.heap.size + 1) o (by simp)); clear hc1 hf1; have HB := Lib.hid ((show Below w.heap.size w _ from bel9).trans (hb1.mono (by simp; omega))); have hz := HB.out.size; have c0 := below_cell C0.out HB.out; have c1 := below_cell C1.out HB.out; have c2 := below_cell C2.out HB.out)
      refine bodyPost_ret (v := .tuple #[.int .i64 0, rowV M.row0, .bool false]) ?_ rfl ⟨rfl, ?_⟩
      · simp only [results, Tryz.results13, M.row0]
        go_simp
      · have hB := HB.out
        exact bel9

set_option maxHeartbeats 1000000 in
theorem size_calls {w : World} {lo : Nat} {v : Value} {s : M.Store} (h : StoreAt w lo v s) :
    Calls Tryz.prog 32 #[v] w fun e w' => e = .returned (.int .i64 (M.sizeW s.tables)) ∧ Below w.heap.size w w' := by
  obtain ⟨vt, rfl, hs, hT⟩ := h
  obtain ⟨a, cap, rfl⟩ := hT.val
  have hmx : s.tables.length ≤ 9223372036854775807 := by have := hT.max; unfold maxLen at this; omega
  have HT := Lib.hid hT
  clear hT
  go_enter Tryz.func32, Tryz.ntmps32
  go_wp2_with fail
  go_loopg [3, 9] s.tables.length (fun g m i wr => ∃ n : Nat, n ≤ s.tables.length ∧ i = .int .i64 n ∧ m = .int .i64 (M.sizeW (s.tables.take n)) ∧ g = s.tables.length - n ∧ Below w.heap.size w wr)
  case atStart => exact ⟨0, Nat.zero_le _, rfl, rfl, rfl, (Below.refl _ w).alloc (Nat.le_refl _) _⟩
  case round =>
    obtain ⟨n, hn, rfl, rfl, hg, hb⟩ := hrel
    have HB := Lib.hid hb
    have HG := Lib.hid hg
    have hz := hb.size
    clear hb hg
    rcases Nat.lt_or_ge n s.tables.length with hlt | hge
    · obtain ⟨t, ht⟩ : ∃ t, s.tables[n]? = some t := ⟨_, List.getElem?_eq_getElem hlt⟩
      obtain ⟨b, o, cap', a1, cp1, a2, cp2, e, hlo, hp, c0, c1, c2, h1, h2⟩ := (HT.out.below HB.out).at2 ht
      obtain ⟨rfl, rfl⟩ : a = some ⟨b, o, none⟩ ∧ cap = cap' := by simpa using e
      have HS := Lib.hid (M.sizeW_step ht)
      clear e hlo hp h1 h2 ht
      obtain ⟨z, hz⟩ : ∃ z, M.sizeW (s.tables.take n) = z := ⟨_, rfl⟩
      rw [hz] at HS ⊢
      clear hz
      go_wp2_with fail
      go_roundg (s.tables.length - (n + 1))
      case measure => rw [HG.out]; omega
      case rel => exact ⟨n + 1, by omega, by go_num, by rw [HS.out], rfl, HB.out.alloc (by have := HB.out.size; omega) _⟩
    · obtain rfl : n = s.tables.length := by omega
      rw [List.take_length]
      go_wp2_with fail
      go_ret
      exact ⟨rfl, HB.out⟩
end Go.Proofs.YtkpecagkpjabdabGreat
