/- The contract of store.Query: the numbers of the things that have all parts of a mask, ascending, in memory of the call's own. Condition: the store is a good one. -/
import Derived.Test.YtkpecagkpjabdabGreatStoreFind
import Derived.Test.YtkpecagkpjabdabGreatBagO
import Derived.Test.YtkpecagkpjabdabGreatBagP
import Derived.Test.YtkpecagkpjabdabGreatLayQuery
import Derived.Sort.OwnSortedInts
import Derived.Maps.AppendAt
namespace Go.Proofs.YtkpecagkpjabdabGreat
open Go.RowKit
set_option linter.unusedVariables false
set_option linter.unusedSimpArgs false
set_option maxRecDepth 100000

/-- slices.Sort at numbers of the call's own -/
theorem sort_own {w : World} {base : Nat} {v : Value} {zs : List Int} (h : w.ownsRow base 3 1 v zs.length (zs.map (Value.int .i64))) (hz : zs.length < 4611686018427387904) (hbw : base ≤ w.heap.size) :
    Calls Tryz.prog 37 #[v] w fun e w' => e = .returned (.tuple #[]) ∧ w'.ownsRow base 3 1 v (zs.mergeSort fun x y => decide (x ≤ y)).length ((zs.mergeSort fun x y => decide (x ≤ y)).map (Value.int .i64)) ∧ Below base w w' := by
  rcases h.2 with ⟨rfl, h0⟩ | ⟨g, cap, cur, rfl, hg, hb, hn, hm, hs, ht⟩
  · have e0 : zs = [] := List.length_eq_zero_iff.1 h0
    subst e0
    have c : Calls Tryz.prog 37 #[.slice none 0 0] w fun e w' => e = .returned (.tuple #[]) ∧ w' = w := Any.slices_Sort_int_none Tryz.lays189 none 0 w
    exact c.mono fun e w' ⟨h1, h2⟩ => ⟨h1, by rw [h2]; simpa using World.ownsRow_nil w base 3 1, by rw [h2]; exact Below.refl _ _⟩
  · have hgl : g < w.heap.size := (Array.getElem?_eq_some_iff.1 hb).1
    have hH := holds_of_blockI (ss := zs) hb (by simpa using ht)
    have c : Calls Tryz.prog 37 #[.slice (some ⟨g, 0, none⟩) zs.length cap] w fun e w' =>
      e = .returned (.tuple #[]) ∧ ∃ n os, w' = Sort.grow (Sort.putRow (Value.int .i64) (Sort.ahead w n) g 0 (zs.mergeSort fun x y => decide (x ≤ y)).toArray) os := Any.slices_Sort_int Tryz.lays189 g 0 cap zs w hH hgl hz
    refine c.mono fun e w' ⟨h1, n, os, h2⟩ => ⟨h1, ?_, ?_⟩
    · rw [h2, List.length_mergeSort]
      exact ownsRow_sortedI (List.length_mergeSort _) hg hb hn hm hs
    · rw [h2]
      exact (Below.refl base w).grown (grownBy_sortedI _) hbw (fun k hk => by simp only [Option.some.injEq] at hk; omega)

set_option maxHeartbeats 1000000 in
theorem query_calls {w : World} {lo : Nat} {v : Value} {s : M.Store} (h : StoreAt w lo v s) (hg : M.GoodS s) (m : Int) :
    Calls Tryz.prog 12 #[v, .int .i64 m] w fun e w' => ∃ v', e = .returned v' ∧ w'.ownsRow w.heap.size 3 1 v' (M.query s m).length ((M.query s m).map (Value.int .i64)) ∧ Below w.heap.size w w' := by
  obtain ⟨vt, rfl, hs, hT⟩ := h
  obtain ⟨a, cap, rfl⟩ := hT.val
  obtain ⟨i0, hi, hz0, hz1, hz2⟩ := info_parts infoInt
  have hmx : s.tables.length ≤ 9223372036854775807 := by have := hT.max; unfold maxLen at this; omega
  have HT := Lib.hid hT
  have HG := Lib.hid hg
  have HI := Lib.hid (And.intro hi (And.intro hz0 (And.intro hz1 hz2)))
  clear hT hg hi hz0 hz1 hz2
  go_enter Tryz.func12, Tryz.ntmps12
  go_wp2_with fail
  go_loopg [5, 11] s.tables.length (fun g o i wr => ∃ n : Nat, n ≤ s.tables.length ∧ i = .int .i64 n ∧ g = s.tables.length - n ∧ wr.ownsRow w.heap.size 3 1 o (M.selT m (s.tables.take n)).length ((M.selT m (s.tables.take n)).map (Value.int .i64)) ∧ Below w.heap.size w wr)
  case atStart => exact ⟨0, Nat.zero_le _, rfl, rfl, World.ownsRow_nil _ _ _ _, (Below.refl _ w).alloc (Nat.le_refl _) _⟩
  case round =>
    obtain ⟨n, hn, rfl, hgk, ho, hb⟩ := hrel
    have HB := Lib.hid hb
    have HK := Lib.hid hgk
    have HO := Lib.hid ho
    have hz := hb.size
    clear hb hgk ho
    rcases Nat.lt_or_ge n s.tables.length with hlt | hge
    · obtain ⟨t, ht⟩ : ∃ t, s.tables[n]? = some t := ⟨_, List.getElem?_eq_getElem hlt⟩
      obtain ⟨b, o, cap', a1, cp1, a2, cp2, e, hlo, hp, c0, c1, c2, h1, h2⟩ := (HT.out.below HB.out).at2 ht
      obtain ⟨rfl, rfl⟩ : a = some ⟨b, o, none⟩ ∧ cap = cap' := by simpa using e
      have hne : t.ids ≠ [] := (HG.out.1 t (List.mem_of_getElem? ht)).1
      have hlen := M.selT_len m ht
      have h10 : (M.idsT s.tables).length ≤ 10 := HG.out.2.2.2.1
      have HS := Lib.hid (M.selT_step m ht)
      obtain ⟨k1, k2, a', cap', e', k3⟩ := h1
      obtain ⟨rfl, rfl⟩ : a1 = a' ∧ cp1 = cap' := by simpa using e'
      obtain ⟨b1, o1, rfl, _, kc⟩ := k3 (by simpa using hne)
      have HC := Lib.hid (fun W (hb : Below wr.heap.size wr W) (j : Nat) (u : Value) (hu : (t.ids.map (Value.int .i64))[j]? = some u) => show W.cell? ((⟨b1, o1, none⟩ : Addr).add j) = some u from by rw [Addr.add_lit]; exact below_cell (kc j u hu) hb)
      have HL : Hid ((M.selT m (s.tables.take n)).length + t.ids.length ≤ 10) := Lib.hid (by omega)
      clear e hlo hp h2 ht hne k1 k2 k3 kc e' hlen h10
      by_cases hm : bits .and .i64 t.mask m = m
      · go_wp2_with (at_builtin; refine wpList_append_own_at _ rfl (.tmp 21) (.tmp 23) _ rfl w.heap.size 3 i0 _ 1 8 Tryz.underlying33 HI.out.1 HI.out.2.1 HI.out.2.2.1 HI.out.2.2.2 rfl (by omega) _ _ _ rfl (own_below HO.out ((Below.refl _ wr).alloc (Nat.le_refl _) _)) ⟨b1, o1, none⟩ t.ids.length cp1 (t.ids.map (Value.int .i64)) rfl (by simp) (HC.out _ ((Below.refl _ wr).alloc (Nat.le_refl _) _)) (by intro u hu; obtain ⟨z, _, rfl⟩ := List.mem_map.1 hu; rfl) (by have := HL.out; unfold maxLen; omega) (by have := HL.out; omega) (by simp; omega) ?_; intro v1 w1 hown1 hg1 _ hat1; have HO1 := Lib.hid hown1; have HB1 : Hid (Below w.heap.size w w1) := Lib.hid ((HB.out.alloc (by omega) _).grown hg1 (by simp; omega) (fun k hk => (HO.out.lt k hk).1)); clear hown1 hg1 hat1)
        go_roundg (s.tables.length - (n + 1))
        case measure => rw [HK.out]; omega
        case rel =>
          refine ⟨n + 1, by omega, by go_num, rfl, ?_, HB1.out⟩
          have := HO1.out
          rw [HS.out, if_pos hm, List.length_append, List.map_append]
          exact this
      · go_wp2_with fail
        go_roundg (s.tables.length - (n + 1))
        case measure => rw [HK.out]; omega
        case rel =>
          refine ⟨n + 1, by omega, by go_num, rfl, ?_, HB.out.alloc (by omega) _⟩
          have := own_below HO.out ((Below.refl _ wr).alloc (Nat.le_refl _) (.cells #[Value.int IntKind.i64 t.mask, Value.slice (some ⟨b1, o1, none⟩) t.ids.length cp1, Value.slice a2 t.rows.length cp2] 74))
          rw [HS.out, if_neg hm, List.append_nil]
          exact this
    · obtain rfl : n = s.tables.length := by omega
      rw [List.take_length] at HO
      have hl : (M.selT m s.tables).length ≤ 10 := Nat.le_trans (M.selT_le m s.tables) HG.out.2.2.2.1
      have HSO := Lib.hid (sort_own HO.out (by omega) hz)
      clear hl
      go_wp2_with (go_at_call 37; refine HSO.out.mono ?_; rintro e w5 ⟨rfl, ho5, hb5⟩)
      go_ret
      exact ⟨_, rfl, ho5, HB.out.trans hb5⟩
end Go.Proofs.YtkpecagkpjabdabGreat
