/- Several small texts in one. No condition of its own: each part says its own. -/
import Derived.Test.YtkpecagkpjabdabGreatStoreFind
import Derived.Maps.AppendAt
import Derived.OwnWalk
import Derived.Laws.OwnMore
import Derived.Deep.RegionHeld3
import Derived.Test.YtkpecagkpjabdabGreatBag1
import Derived.Test.YtkpecagkpjabdabGreatLayQuery
import Derived.Sort.OwnSortedInts
import Derived.Test.YtkpecagkpjabdabGreatSolve
/- The contract of store.own: a store of the call's own. Condition: no table is empty, and each is short enough to be copied. -/
namespace Go.Proofs.YtkpecagkpjabdabGreat
open Go.RowKit
set_option linter.unusedVariables false
set_option linter.unusedSimpArgs false
set_option maxRecDepth 100000

theorem infoInt : (Tryz.prog.info? 3).map (fun i => (i.zero, i.size, i.bytes)) = some (some (.int .i64 0), 1, 8) := by kernel_rfl
theorem infoRow : (Tryz.prog.info? 27).map (fun i => (i.zero, i.size, i.bytes)) = some (some (rowV M.row0), 8, 64) := by kernel_rfl
theorem infoTable : (Tryz.prog.info? 74).map (fun i => (i.zero, i.size, i.bytes)) = some (some (.agg #[.int .i64 0, .slice none 0 0, .slice none 0 0]), 3, 56) := by kernel_rfl

theorem clone_ints {w : World} {lo : Nat} {v : Value} {zs : List Int} (h : IntsAt w lo v zs) (hne : zs ≠ []) (hb : zs.length * 8 ≤ 140737488355328) :
    Calls Tryz.prog 71 #[v] w fun e w' => ∃ v', e = .returned v' ∧ w'.ownsRow w.heap.size 3 1 v' zs.length (zs.map (Value.int .i64)) ∧ Below w.heap.size w w' := by
  obtain ⟨h1, hm, a, cap, rfl, hc⟩ := h
  obtain ⟨b, o, rfl, hl, hc⟩ := hc (by simpa using hne)
  obtain ⟨i0, hi, hz0, hz1, hz2⟩ := info_parts infoInt
  have c : Calls Tryz.prog 71 #[.slice (some ⟨b, o, none⟩) zs.length cap] w fun e w' => ∃ v', e = .returned v' ∧ w'.ownsRow w.heap.size 3 1 v' zs.length (zs.map (Value.int .i64)) ∧ v' ≠ .slice none 0 0 ∧ Below w.heap.size w w' :=
    AnyE.slices_Clone Tryz.cloneInt i0 (.int .i64 0) 1 8 hi hz0 hz1 hz2 rfl (by decide) Tryz.sizeOf3 b o zs.length cap _ w h1 hm hb hc (by intro u hu; obtain ⟨z, _, rfl⟩ := List.mem_map.1 hu; rfl)
  exact c.mono fun e w' ⟨v', h1, h2, h3, h4⟩ => ⟨v', h1, h2, h4⟩
theorem clone_rows {w : World} {lo : Nat} {v : Value} {rs : List M.Row} (h : RowsAt w lo v rs) (hne : rs ≠ []) (hb : rs.length * 64 ≤ 140737488355328) :
    Calls Tryz.prog 72 #[v] w fun e w' => ∃ v', e = .returned v' ∧ w'.ownsRow w.heap.size 27 8 v' rs.length (rs.flatMap rowL) ∧ Below w.heap.size w w' := by
  obtain ⟨h1, hm, a, cap, rfl, hc⟩ := h
  have hne2 : rs.flatMap rowL ≠ [] := by
    intro e
    have k1 := rowsL_length rs
    rw [e] at k1
    have k2 : rs.length ≠ 0 := fun e2 => hne (List.length_eq_zero_iff.1 e2)
    simp only [List.length_nil] at k1
    omega
  obtain ⟨b, o, rfl, hl, hc⟩ := hc hne2
  obtain ⟨i0, hi, hz0, hz1, hz2⟩ := info_parts infoRow
  have c : Calls Tryz.prog 72 #[.slice (some ⟨b, o, none⟩) rs.length cap] w fun e w' => ∃ v', e = .returned v' ∧ w'.ownsRow w.heap.size 27 8 v' rs.length (rs.flatMap rowL) ∧ v' ≠ .slice none 0 0 ∧ Below w.heap.size w w' :=
    AnyE.slices_Clone Tryz.cloneRow i0 (rowV M.row0) 8 64 hi hz0 hz1 hz2 rfl (by decide) Tryz.sizeOf27 b o rs.length cap _ w h1 hm hb hc (by
      intro u hu
      obtain ⟨r, _, hr⟩ := List.mem_flatMap.1 hu
      simp only [rowL, List.mem_cons, List.not_mem_nil, or_false] at hr
      rcases hr with rfl | rfl | rfl | rfl | rfl | rfl | rfl | rfl <;> rfl)
  exact c.mono fun e w' ⟨v', h1, h2, h3, h4⟩ => ⟨v', h1, h2, h4⟩
theorem tabL_one {ts : List M.Table} {hs : List (Value × Value)} (h : ∀ p ∈ hs, p.1.oneCell' = true ∧ p.2.oneCell' = true) : ∀ u ∈ tabL ts hs, u.oneCell' = true := by
  intro u hu
  unfold tabL at hu
  obtain ⟨p, hp, hm⟩ := List.mem_flatMap.1 hu
  have := h p.2 (List.of_mem_zip hp).2
  simp only [List.mem_cons, List.not_mem_nil, or_false] at hm
  rcases hm with rfl | rfl | rfl
  · rfl
  · exact this.1
  · exact this.2
theorem TabsAtH.one {w : World} {lo : Nat} {v : Value} {ts : List M.Table} {hs : List (Value × Value)} (h : TabsAtH w lo v ts hs) : ∀ p ∈ hs, p.1.oneCell' = true ∧ p.2.oneCell' = true := by
  intro p hp
  obtain ⟨i, hi, rfl⟩ := List.getElem_of_mem hp
  have hl : i < ts.length := by rw [← h.1]; exact hi
  obtain ⟨k1, k2⟩ := h.2.2 i ts[i] hs[i] (List.getElem?_eq_getElem hl) (List.getElem?_eq_getElem hi)
  obtain ⟨a1, c1, e1⟩ := k1.val
  obtain ⟨a2, c2, e2⟩ := k2.val
  rw [e1, e2]
  exact ⟨rfl, rfl⟩
theorem clone_tabs1 {w : World} {lo : Nat} {v : Value} {ts : List M.Table} {hs : List (Value × Value)} (h : TabsAtH w lo v ts hs) (hne : ts ≠ []) (hb : ts.length * 56 ≤ 140737488355328) :
    Calls Tryz.prog 120 #[v] w fun e w' => ∃ v', e = .returned v' ∧ w'.ownsRow w.heap.size 74 3 v' ts.length (tabL ts hs) ∧ Below w.heap.size w w' := by
  have hone := tabL_one (ts := ts) h.one
  obtain ⟨hlen, ⟨h1, hm, a, cap, rfl, hc⟩, _⟩ := h
  have hne2 : tabL ts hs ≠ [] := by
    intro e
    have k1 := tabL_length ts hs hlen
    rw [e] at k1
    have k2 : ts.length ≠ 0 := fun e2 => hne (List.length_eq_zero_iff.1 e2)
    simp only [List.length_nil] at k1
    omega
  obtain ⟨b, o, rfl, hl, hc⟩ := hc hne2
  obtain ⟨i0, hi, hz0, hz1, hz2⟩ := info_parts infoTable
  have c : Calls Tryz.prog 120 #[.slice (some ⟨b, o, none⟩) ts.length cap] w fun e w' => ∃ v', e = .returned v' ∧ w'.ownsRow w.heap.size 74 3 v' ts.length (tabL ts hs) ∧ v' ≠ .slice none 0 0 ∧ Below w.heap.size w w' :=
    AnyE.slices_Clone Tryz.cloneTable i0 (.agg #[.int .i64 0, .slice none 0 0, .slice none 0 0]) 3 56 hi hz0 hz1 hz2 rfl (by decide) Tryz.sizeOf74 b o ts.length cap _ w h1 hm hb hc hone
  exact c.mono fun e w' ⟨v', h1, h2, h3, h4⟩ => ⟨v', h1, h2, h4⟩
set_option maxRecDepth 100000 in
/-- no table: whatever the address -/
theorem clone_none (w : World) (a : Option Addr) (cap : Nat) :
    Calls Tryz.prog 120 #[.slice a 0 cap] w fun e w' => ∃ v', e = .returned v' ∧ w'.ownsRow w.heap.size 74 3 v' 0 [] ∧ Below w.heap.size w w' := by
  cases a with
  | none =>
    have c : Calls Tryz.prog 120 #[.slice none 0 cap] w fun e w' => e = .returned (.slice none 0 0) ∧ w' = w := AnyE.slices_Clone_nil Tryz.cloneTable 0 cap w
    exact c.mono fun e w' ⟨h1, h2⟩ => ⟨_, h1, World.ownsRow_nil _ _ _ _, by rw [h2]; exact Below.refl _ _⟩
  | some a =>
    have q22 : ∀ (w : World) (a : Option Addr) (n c n' c' : Nat), (binOp .eql 37 (.slice a n c) (.slice none n' c')).run Tryz.prog w = .ok (.bool a.isNone) w := fun w a n c n' c' => Lib.run_eql_slice_nil w _ _ a n c n' c' Tryz.underlying37
    have u22 : ∀ w, Sem.run Tryz.prog (underlying 37) w = .ok (TypeDesc.slice 74) w := run_underlying Tryz.underlying37
    go_enter Tryz.func120, Tryz.ntmps120
    go_wp2_with fail
    go_ret
    exact ⟨_, rfl, World.ownsRow_lit w #[] 0 (Nat.le_refl _) (Nat.zero_le _) rfl, (Below.refl _ w).alloc (Nat.le_refl _) _⟩
theorem clone_tabs {w : World} {lo : Nat} {v : Value} {ts : List M.Table} {hs : List (Value × Value)} (h : TabsAtH w lo v ts hs) (hb : ts.length * 56 ≤ 140737488355328) :
    Calls Tryz.prog 120 #[v] w fun e w' => ∃ v', e = .returned v' ∧ w'.ownsRow w.heap.size 74 3 v' ts.length (tabL ts hs) ∧ Below w.heap.size w w' := by
  cases ts with
  | nil =>
    obtain ⟨a, cap, rfl⟩ := h.val
    exact clone_none w a cap
  | cons t ts => exact clone_tabs1 h (by simp) hb

/-! a store of the call's own -/
def blks (vt : Value) (hs : List (Value × Value)) : List Nat := (vt :: hs.flatMap fun h => [h.1, h.2]).filterMap Value.ownBlock
structure OwnTab (w : World) (base : Nat) (t : M.Table) (h : Value × Value) : Prop where
  ids : w.ownsRow base 3 1 h.1 t.ids.length (t.ids.map (Value.int .i64))
  rows : w.ownsRow base 27 8 h.2 t.rows.length (t.rows.flatMap rowL)
structure OwnTabs (w : World) (base : Nat) (vt : Value) (ts : List M.Table) (hs : List (Value × Value)) : Prop where
  len : hs.length = ts.length
  row : w.ownsRow base 74 3 vt ts.length (tabL ts hs)
  each : ∀ (i : Nat) (t : M.Table) (h : Value × Value), ts[i]? = some t → hs[i]? = some h → OwnTab w base t h
  apart : (blks vt hs).Nodup
theorem own_val {w : World} {base : Nat} {e : TypeId} {k n : Nat} {v : Value} {xs : List Value} (h : w.ownsRow base e k v n xs) (hn : 0 < n) : ∃ g cap, v = .slice (some ⟨g, 0, none⟩) n cap ∧ base ≤ g ∧ g < w.heap.size := by
  rcases h.2 with ⟨_, h0⟩ | ⟨g, cap, cur, e, hb, hg, _⟩
  · omega
  · exact ⟨g, cap, e, hb, (Array.getElem?_eq_some_iff.1 hg).1⟩
theorem own_mono {w : World} {base base' : Nat} {e : TypeId} {k n : Nat} {v : Value} {xs : List Value} (h : w.ownsRow base e k v n xs) (hb : base' ≤ base) : w.ownsRow base' e k v n xs := by
  refine ⟨h.1, ?_⟩
  rcases h.2 with h0 | ⟨g, cap, cur, e, h1, r⟩
  · exact .inl h0
  · exact .inr ⟨g, cap, cur, e, Nat.le_trans hb h1, r⟩
/-- what is owned stays so where its block is as it was -/
theorem own_same {w w' : World} {base : Nat} {e : TypeId} {k n : Nat} {v : Value} {xs : List Value} (h : w.ownsRow base e k v n xs) (hs : ∀ g, v.ownBlock = some g → w'.heap[g]? = w.heap[g]?) : w'.ownsRow base e k v n xs := by
  refine ⟨h.1, ?_⟩
  rcases h.2 with h0 | ⟨g, cap, cur, rfl, h1, hg, r⟩
  · exact .inl h0
  · exact .inr ⟨g, cap, cur, rfl, h1, (hs g rfl).trans hg, r⟩
theorem own_below {w w' : World} {base : Nat} {e : TypeId} {k n : Nat} {v : Value} {xs : List Value} (h : w.ownsRow base e k v n xs) (hb : Below w.heap.size w w') : w'.ownsRow base e k v n xs :=
  own_same h (fun g hg => hb.block g (h.lt g hg).2)
/-- a store into a cell of what is owned -/
theorem own_put {w : World} {base : Nat} {e : TypeId} {k n g cap : Nat} {xs : List Value} (h : w.ownsRow base e k (.slice (some ⟨g, 0, none⟩) n cap) n xs) (j : Nat) (u : Value) :
    (w.setCell ⟨g, j, none⟩ u).ownsRow base e k (.slice (some ⟨g, 0, none⟩) n cap) n (xs.set j u) := (World.ownsRow.stored h j u).1
theorem tabL_set (ts : List M.Table) (hs : List (Value × Value)) (i : Nat) (hl : hs.length = ts.length) (hi : i < ts.length) (p : Value × Value) :
    ((tabL ts hs).set (i * 3 + 1) p.1).set (i * 3 + 2) p.2 = tabL ts (hs.set i p) := by
  induction ts generalizing hs i with
  | nil => simp at hi
  | cons t ts ih =>
    match hs, hl with
    | h :: hs, hl =>
      rw [tabL_cons]
      match i with
      | 0 => simp [tabL_cons]
      | i + 1 =>
        have e1 : (i + 1) * 3 + 1 = (i * 3 + 1) + 3 := by omega
        have e2 : (i + 1) * 3 + 2 = (i * 3 + 2) + 3 := by omega
        rw [e1, e2]
        simp only [List.set_cons_succ, List.length_cons] at hl hi ⊢
        rw [tabL_cons, ih hs i (by omega) (by omega)]
theorem tabL_set_comm (ts : List M.Table) (hs : List (Value × Value)) (i : Nat) (hl : hs.length = ts.length) (hi : i < ts.length) (p : Value × Value) :
    ((tabL ts hs).set (i * 3 + 2) p.2).set (i * 3 + 1) p.1 = tabL ts (hs.set i p) := by
  rw [List.set_comm _ _ (by omega), tabL_set ts hs i hl hi p]
/-- the blocks of a list of tables, one table more -/
theorem blks_snoc (vt : Value) (hs : List (Value × Value)) (p : Value × Value) : blks vt (hs ++ [p]) = blks vt hs ++ ([p.1, p.2].filterMap Value.ownBlock) := by
  unfold blks
  rw [List.flatMap_append, ← List.cons_append, List.filterMap_append]
  simp
/-- while own goes on: the first n tables are owned, the others are as they were -/
structure OwnTo (w : World) (base : Nat) (vt : Value) (ts : List M.Table) (hs hs' : List (Value × Value)) (n : Nat) : Prop where
  len : hs'.length = ts.length
  row : w.ownsRow base 74 3 vt ts.length (tabL ts hs')
  each : ∀ (i : Nat) (t : M.Table) (h : Value × Value), i < n → ts[i]? = some t → hs'[i]? = some h → OwnTab w base t h
  rest : ∀ i, n ≤ i → hs'[i]? = hs[i]?
  apart : (blks vt (hs'.take n)).Nodup
theorem mem_blks {vt : Value} {hs : List (Value × Value)} {g : Nat} (h : g ∈ blks vt hs) : vt.ownBlock = some g ∨ ∃ p ∈ hs, p.1.ownBlock = some g ∨ p.2.ownBlock = some g := by
  unfold blks at h
  obtain ⟨v, hv, e⟩ := List.mem_filterMap.1 h
  rcases List.mem_cons.1 hv with rfl | hv
  · exact .inl e
  · obtain ⟨p, hp, hm⟩ := List.mem_flatMap.1 hv
    simp only [List.mem_cons, List.not_mem_nil, or_false] at hm
    rcases hm with rfl | rfl
    · exact .inr ⟨p, hp, .inl e⟩
    · exact .inr ⟨p, hp, .inr e⟩
/-- all blocks of the first n tables are old -/
theorem OwnTo.old {w : World} {base : Nat} {vt : Value} {ts : List M.Table} {hs hs' : List (Value × Value)} {n : Nat} (h : OwnTo w base vt ts hs hs' n) : ∀ g ∈ blks vt (hs'.take n), base ≤ g ∧ g < w.heap.size := by
  intro g hg
  rcases mem_blks hg with e | ⟨p, hp, e⟩
  · exact h.row.lt g e
  · obtain ⟨i, hi, rfl⟩ := List.getElem_of_mem hp
    simp only [List.length_take] at hi
    have hl := h.len
    have hit : i < ts.length := by omega
    have hk := h.each i ts[i] hs'[i] (by omega) (List.getElem?_eq_getElem hit) (List.getElem?_eq_getElem (by omega))
    rw [List.getElem_take] at e
    rcases e with e | e
    · exact hk.ids.lt g e
    · exact hk.rows.lt g e
/-- a table more -/
theorem OwnTo.step {w W : World} {base : Nat} {vt v1 v2 : Value} {ts : List M.Table} {hs hs' : List (Value × Value)} {n : Nat} {t : M.Table} (h : OwnTo w base vt ts hs hs' n) (ht : ts[n]? = some t)
    (hrow : W.ownsRow base 74 3 vt ts.length (tabL ts (hs'.set n (v1, v2)))) (hsame : ∀ g, g < w.heap.size → vt.ownBlock ≠ some g → W.heap[g]? = w.heap[g]?)
    (k1 : W.ownsRow base 3 1 v1 t.ids.length (t.ids.map (Value.int .i64))) (k2 : W.ownsRow base 27 8 v2 t.rows.length (t.rows.flatMap rowL))
    (n1 : ∀ g, v1.ownBlock = some g → w.heap.size ≤ g) (n2 : ∀ g, v2.ownBlock = some g → w.heap.size ≤ g) (hne : ∀ g, v1.ownBlock = some g → v2.ownBlock ≠ some g) :
    OwnTo W base vt ts hs (hs'.set n (v1, v2)) (n + 1) := by
  have hlt := (List.getElem?_eq_some_iff.1 ht).1
  have hl := h.len
  have htake : (hs'.set n (v1, v2)).take (n + 1) = hs'.take n ++ [(v1, v2)] := by
    rw [List.take_add_one, List.take_set_of_le (by omega), List.getElem?_set_self (by omega)]; rfl
  have hnd := h.apart
  refine ⟨by simp [hl], hrow, ?_, ?_, ?_⟩
  · intro i t' p hi h1 h2
    rcases Nat.lt_or_ge i n with hin | hin
    · rw [List.getElem?_set_ne (by omega)] at h2
      have k := h.each i t' p hin h1 h2
      have hm : p ∈ hs'.take n := by
        have : (hs'.take n)[i]? = some p := by rw [List.getElem?_take, if_pos hin]; exact h2
        exact List.mem_of_getElem? this
      have hb : ∀ v, v = p.1 ∨ v = p.2 → ∀ g, v.ownBlock = some g → vt.ownBlock ≠ some g := by
        intro v hv g hg e
        unfold blks at hnd
        rw [List.filterMap_cons, e] at hnd
        simp only [List.nodup_cons] at hnd
        refine hnd.1 (List.mem_filterMap.2 ⟨v, List.mem_flatMap.2 ⟨p, hm, ?_⟩, hg⟩)
        rcases hv with rfl | rfl <;> simp
      exact ⟨own_same k.ids (fun g hg => hsame g (k.ids.lt g hg).2 (hb _ (.inl rfl) g hg)), own_same k.rows (fun g hg => hsame g (k.rows.lt g hg).2 (hb _ (.inr rfl) g hg))⟩
    · obtain rfl : i = n := by omega
      rw [List.getElem?_set_self (by omega)] at h2
      rw [ht] at h1
      simp only [Option.some.injEq] at h1 h2
      subst h1; subst h2
      exact ⟨k1, k2⟩
  · intro i hi
    rw [List.getElem?_set_ne (by omega)]
    exact h.rest i (by omega)
  · rw [htake, blks_snoc, List.nodup_append]
    refine ⟨hnd, ?_, ?_⟩
    · cases e1 : v1.ownBlock <;> cases e2 : v2.ownBlock <;> simp [List.filterMap_cons, e1, e2]
      rename_i a b
      intro e
      exact hne a e1 (by rw [e2, e])
    · intro a ha b hb e
      subst e
      have := h.old a ha
      obtain ⟨v, hv, e⟩ := List.mem_filterMap.1 hb
      simp only [List.mem_cons, List.not_mem_nil, or_false] at hv
      rcases hv with rfl | rfl
      · have := n1 a e; omega
      · have := n2 a e; omega
theorem OwnTo.done {w : World} {base : Nat} {vt : Value} {ts : List M.Table} {hs hs' : List (Value × Value)} (h : OwnTo w base vt ts hs hs' ts.length) : OwnTabs w base vt ts hs' := by
  refine ⟨h.len, h.row, fun i t p h1 h2 => h.each i t p (List.getElem?_eq_some_iff.1 h1).1 h1 h2, ?_⟩
  have := h.apart
  rw [List.take_of_length_le (by rw [h.len]; exact Nat.le_refl _)] at this
  exact this
theorem own_round {wo w5 w6 : World} {B g0 gi gr n ci cr capv : Nat} {ts : List M.Table} {hs hs' : List (Value × Value)} {t : M.Table} (hO : OwnTo wo B (.slice (some ⟨g0, 0, none⟩) ts.length capv) ts hs hs' n) (ht : ts[n]? = some t)
    (hg0 : g0 < wo.heap.size) (hB : B ≤ wo.heap.size) (r1 : w5.ownsRow wo.heap.size 3 1 (.slice (some ⟨gi, 0, none⟩) t.ids.length ci) t.ids.length (t.ids.map (Value.int .i64))) (b6 : Below w5.heap.size w5 w6)
    (r2 : w6.ownsRow w5.heap.size 27 8 (.slice (some ⟨gr, 0, none⟩) t.rows.length cr) t.rows.length (t.rows.flatMap rowL)) (hgi : wo.heap.size ≤ gi) (hgi2 : gi < w5.heap.size) (hgr : w5.heap.size ≤ gr) (b6' : Below wo.heap.size wo w6) :
    OwnTo ((w6.setCell ⟨g0, n * 3 + 1, none⟩ (.slice (some ⟨gi, 0, none⟩) t.ids.length ci)).setCell ⟨g0, n * 3 + 2, none⟩ (.slice (some ⟨gr, 0, none⟩) t.rows.length cr)) B (.slice (some ⟨g0, 0, none⟩) ts.length capv) ts hs
      (hs'.set n (.slice (some ⟨gi, 0, none⟩) t.ids.length ci, .slice (some ⟨gr, 0, none⟩) t.rows.length cr)) (n + 1) := by
  have hlt := (List.getElem?_eq_some_iff.1 ht).1
  have far : ∀ (W : World) (j : Nat) (u : Value) (g : Nat), g ≠ g0 → (W.setCell ⟨g0, j, none⟩ u).heap[g]? = W.heap[g]? := fun W j u g hg => Below.heap_setCell _ _ _ _ hg
  refine hO.step ht ?_ ?_ ?_ ?_ ?_ ?_ ?_
  · have R := own_put (own_put (own_below hO.row b6') (n * 3 + 1) (.slice (some ⟨gi, 0, none⟩) t.ids.length ci)) (n * 3 + 2) (.slice (some ⟨gr, 0, none⟩) t.rows.length cr)
    rw [tabL_set ts hs' n hO.len hlt (.slice (some ⟨gi, 0, none⟩) t.ids.length ci, .slice (some ⟨gr, 0, none⟩) t.rows.length cr)] at R
    exact R
  · intro g hg hne
    have hne' : g ≠ g0 := fun e => hne (by simp [Value.ownBlock, e])
    rw [far _ _ _ _ hne', far _ _ _ _ hne']
    exact b6'.block g hg
  · refine own_same (own_mono (own_below r1 b6) hB) (fun g hg => ?_)
    have : g = gi := by simpa [Value.ownBlock] using hg.symm
    rw [far _ _ _ _ (by omega), far _ _ _ _ (by omega)]
  · refine own_same (own_mono r2 (by omega)) (fun g hg => ?_)
    have : g = gr := by simpa [Value.ownBlock] using hg.symm
    rw [far _ _ _ _ (by omega), far _ _ _ _ (by omega)]
  · intro g hg
    have : g = gi := by simpa [Value.ownBlock] using hg.symm
    omega
  · intro g hg
    have : g = gr := by simpa [Value.ownBlock] using hg.symm
    omega
  · intro g h1 h2
    have : g = gi := by simpa [Value.ownBlock] using h1.symm
    have : g = gr := by simpa [Value.ownBlock] using h2.symm
    omega
theorem OwnTabs.same {w W : World} {base base' : Nat} {vt : Value} {ts : List M.Table} {hs : List (Value × Value)} (h : OwnTabs w base vt ts hs) (hb : base' ≤ base) (hs' : ∀ g, base ≤ g → g < w.heap.size → W.heap[g]? = w.heap[g]?) : OwnTabs W base' vt ts hs := by
  refine ⟨h.len, own_mono (own_same h.row (fun g hg => hs' g (h.row.lt g hg).1 (h.row.lt g hg).2)) hb, fun i t p h1 h2 => ?_, h.apart⟩
  have k := h.each i t p h1 h2
  exact ⟨own_mono (own_same k.ids (fun g hg => hs' g (k.ids.lt g hg).1 (k.ids.lt g hg).2)) hb, own_mono (own_same k.rows (fun g hg => hs' g (k.rows.lt g hg).1 (k.rows.lt g hg).2)) hb⟩
end Go.Proofs.YtkpecagkpjabdabGreat
/- The contract of store.Query: the numbers of the things that have all parts of a mask, ascending, in memory of the call's own. Condition: the store is a good one. -/
namespace Go.Proofs.YtkpecagkpjabdabGreat
open Go.RowKit
set_option linter.unusedVariables false
set_option linter.unusedSimpArgs false
set_option maxRecDepth 100000

/-- slices.Sort at numbers of the call's own -/
theorem sort_own {w : World} {base : Nat} {v : Value} {zs : List Int} (h : w.ownsRow base 3 1 v zs.length (zs.map (Value.int .i64))) (hz : zs.length < 4611686018427387904) (hbw : base ≤ w.heap.size) :
    Calls Tryz.prog 37 #[v] w fun e w' => e = .returned (.tuple #[]) ∧ w'.ownsRow base 3 1 v (zs.mergeSort fun x y => decide (x ≤ y)).length ((zs.mergeSort fun x y => decide (x ≤ y)).map (Value.int .i64)) ∧ Below base w w' := by
  rcases h.2 with ⟨rfl, h0⟩ | ⟨g, cap, cur, rfl, hg, hb, hn, hm, hs, ht⟩
  · have e0 : zs = [] := List.length_eq_zero_iff.1 h0
    subst e0
    have c : Calls Tryz.prog 37 #[.slice none 0 0] w fun e w' => e = .returned (.tuple #[]) ∧ w' = w := Any.slices_Sort_int_none Tryz.lays189 none 0 w
    exact c.mono fun e w' ⟨h1, h2⟩ => ⟨h1, by rw [h2]; simpa using World.ownsRow_nil w base 3 1, by rw [h2]; exact Below.refl _ _⟩
  · have hgl : g < w.heap.size := (Array.getElem?_eq_some_iff.1 hb).1
    have hH := holds_of_blockI (ss := zs) hb (by simpa using ht)
    have c : Calls Tryz.prog 37 #[.slice (some ⟨g, 0, none⟩) zs.length cap] w fun e w' =>
      e = .returned (.tuple #[]) ∧ ∃ n os, w' = Sort.grow (Sort.putRow (Value.int .i64) (Sort.ahead w n) g 0 (zs.mergeSort fun x y => decide (x ≤ y)).toArray) os := Any.slices_Sort_int Tryz.lays189 g 0 cap zs w hH hgl hz
    refine c.mono fun e w' ⟨h1, n, os, h2⟩ => ⟨h1, ?_, ?_⟩
    · rw [h2, List.length_mergeSort]
      exact ownsRow_sortedI (List.length_mergeSort _) hg hb hn hm hs
    · rw [h2]
      exact (Below.refl base w).grown (grownBy_sortedI _) hbw (fun k hk => by simp only [Option.some.injEq] at hk; omega)

set_option maxHeartbeats 1000000 in
theorem query_calls {w : World} {lo : Nat} {v : Value} {s : M.Store} (h : StoreAt w lo v s) (hg : M.GoodS s) (m : Int) :
    Calls Tryz.prog 12 #[v, .int .i64 m] w fun e w' => ∃ v', e = .returned v' ∧ w'.ownsRow w.heap.size 3 1 v' (M.query s m).length ((M.query s m).map (Value.int .i64)) ∧ Below w.heap.size w w' := by
  obtain ⟨vt, rfl, hs, hT⟩ := h
  obtain ⟨a, cap, rfl⟩ := hT.val
  obtain ⟨i0, hi, hz0, hz1, hz2⟩ := info_parts infoInt
  have hmx : s.tables.length ≤ 9223372036854775807 := by have := hT.max; unfold maxLen at this; omega
  have HT := Lib.hid hT
  have HG := Lib.hid hg
  have HI := Lib.hid (And.intro hi (And.intro hz0 (And.intro hz1 hz2)))
  clear hT hg hi hz0 hz1 hz2
  go_enter Tryz.func12, Tryz.ntmps12
  go_wp2_with fail
  go_loopg [5, 11] s.tables.length (fun g o i wr => ∃ n : Nat, n ≤ s.tables.length ∧ i = .int .i64 n ∧ g = s.tables.length - n ∧ wr.ownsRow w.heap.size 3 1 o (M.selT m (s.tables.take n)).length ((M.selT m (s.tables.take n)).map (Value.int .i64)) ∧ Below w.heap.size w wr)
  case atStart => exact ⟨0, Nat.zero_le _, rfl, rfl, World.ownsRow_nil _ _ _ _, (Below.refl _ w).alloc (Nat.le_refl _) _⟩
  case round =>
    obtain ⟨n, hn, rfl, hgk, ho, hb⟩ := hrel
    have HB := Lib.hid hb
    have HK := Lib.hid hgk
    have HO := Lib.hid ho
    have hz := hb.size
    clear hb hgk ho
    rcases Nat.lt_or_ge n s.tables.length with hlt | hge
    · obtain ⟨t, ht⟩ : ∃ t, s.tables[n]? = some t := ⟨_, List.getElem?_eq_getElem hlt⟩
      obtain ⟨b, o, cap', a1, cp1, a2, cp2, e, hlo, hp, c0, c1, c2, h1, h2⟩ := (HT.out.below HB.out).at2 ht
      obtain ⟨rfl, rfl⟩ : a = some ⟨b, o, none⟩ ∧ cap = cap' := by simpa using e
      have hne : t.ids ≠ [] := (HG.out.1 t (List.mem_of_getElem? ht)).1
      have hlen := M.selT_len m ht
      have h10 : (M.idsT s.tables).length ≤ 10 := HG.out.2.2.2.1
      have HS := Lib.hid (M.selT_step m ht)
      obtain ⟨k1, k2, a', cap', e', k3⟩ := h1
      obtain ⟨rfl, rfl⟩ : a1 = a' ∧ cp1 = cap' := by simpa using e'
      obtain ⟨b1, o1, rfl, _, kc⟩ := k3 (by simpa using hne)
      have HC := Lib.hid (fun W (hb : Below wr.heap.size wr W) (j : Nat) (u : Value) (hu : (t.ids.map (Value.int .i64))[j]? = some u) => show W.cell? ((⟨b1, o1, none⟩ : Addr).add j) = some u from by rw [Addr.add_lit]; exact below_cell (kc j u hu) hb)
      have HL : Hid ((M.selT m (s.tables.take n)).length + t.ids.length ≤ 10) := Lib.hid (by omega)
      clear e hlo hp h2 ht hne k1 k2 k3 kc e' hlen h10
      by_cases hm : bits .and .i64 t.mask m = m
      · go_wp2_with (at_builtin; refine wpList_append_own_at _ rfl (.tmp 21) (.tmp 23) _ rfl w.heap.size 3 i0 _ 1 8 Tryz.underlying33 HI.out.1 HI.out.2.1 HI.out.2.2.1 HI.out.2.2.2 rfl (by omega) _ _ _ rfl (own_below HO.out ((Below.refl _ wr).alloc (Nat.le_refl _) _)) ⟨b1, o1, none⟩ t.ids.length cp1 (t.ids.map (Value.int .i64)) rfl (by simp) (HC.out _ ((Below.refl _ wr).alloc (Nat.le_refl _) _)) (by intro u hu; obtain ⟨z, _, rfl⟩ := List.mem_map.1 hu; rfl) (by have := HL.out; unfold maxLen; omega) (by have := HL.out; omega) (by simp; omega) ?_; intro v1 w1 hown1 hg1 _ hat1; have HO1 := Lib.hid hown1; have HB1 : Hid (Below w.heap.size w w1) := Lib.hid ((HB.out.alloc (by omega) _).grown hg1 (by simp; omega) (fun k hk => (HO.out.lt k hk).1)); clear hown1 hg1 hat1)
        go_roundg (s.tables.length - (n + 1))
        case measure => rw [HK.out]; omega
        case rel =>
          refine ⟨n + 1, by omega, by go_num, rfl, ?_, HB1.out⟩
          have := HO1.out
          rw [HS.out, if_pos hm, List.length_append, List.map_append]
          exact this
      · go_wp2_with fail
        go_roundg (s.tables.length - (n + 1))
        case measure => rw [HK.out]; omega
        case rel =>
          refine ⟨n + 1, by omega, by go_num, rfl, ?_, HB.out.alloc (by omega) _⟩
          have := own_below HO.out ((Below.refl _ wr).alloc (Nat.le_refl _) (.cells #[Value.int IntKind.i64 t.mask, Value.slice (some ⟨b1, o1, none⟩) t.ids.length cp1, Value.slice a2 t.rows.length cp2] 74))
          rw [HS.out, if_neg hm, List.append_nil]
          exact this
    · obtain rfl : n = s.tables.length := by omega
      rw [List.take_length] at HO
      have hl : (M.selT m s.tables).length ≤ 10 := Nat.le_trans (M.selT_le m s.tables) HG.out.2.2.2.1
      have HSO := Lib.hid (sort_own HO.out (by omega) hz)
      clear hl
      go_wp2_with (go_at_call 37; refine HSO.out.mono ?_; rintro e w5 ⟨rfl, ho5, hb5⟩)
      go_ret
      exact ⟨_, rfl, ho5, HB.out.trans hb5⟩
end Go.Proofs.YtkpecagkpjabdabGreat
/- The plain law of WorldSums: in a world in which nothing falls, and nothing is fixed or near an edge, all pushes together stay what they are. No program in sight. -/
namespace Go.Proofs.YtkpecagkpjabdabGreat.M
open Go.RowKit
set_option linter.unusedVariables false
set_option linter.unusedSimpArgs false
set_option maxRecDepth 100000

/-! two that meet: what the one loses the other one has; and how much they swing grows by little -/
def wt (m : Int) : Int := 2520 / m
theorem wt_mul {m : Int} (h : 1 ≤ m ∧ m ≤ 9) : wt m * m = 2520 ∧ 280 ≤ wt m ∧ wt m ≤ 2520 := by
  have e : m = 1 ∨ m = 2 ∨ m = 3 ∨ m = 4 ∨ m = 5 ∨ m = 6 ∨ m = 7 ∨ m = 8 ∨ m = 9 := by omega
  rcases e with rfl | rfl | rfl | rfl | rfl | rfl | rfl | rfl | rfl <;> decide
theorem speed_eq {q m : Int} (hq : -268435456 ≤ q ∧ q ≤ 268435456) (hm : 1 ≤ m ∧ m ≤ 9) : part q 1 m = q.tdiv m := by
  unfold part
  rw [within_id m _ (by omega) (by omega), if_neg (by omega), within_id q _ (by omega) (by omega), within_id 1 _ (by omega) (by omega), Int.mul_one]
theorem speed_rest {q m : Int} (hq : -268435456 ≤ q ∧ q ≤ 268435456) (hm : 1 ≤ m ∧ m ≤ 9) : ∃ r, q = m * part q 1 m + r ∧ -(m - 1) ≤ r ∧ r ≤ m - 1 := by
  refine ⟨q.tmod m, ?_, ?_, ?_⟩
  · rw [speed_eq hq hm]; exact (Int.mul_tdiv_add_tmod q m).symm
  · have h1 : (q.tmod m).natAbs < m.natAbs := by rw [Int.natAbs_tmod]; exact Nat.mod_lt _ (by omega)
    omega
  · have h1 : (q.tmod m).natAbs < m.natAbs := by rw [Int.natAbs_tmod]; exact Nat.mod_lt _ (by omega)
    omega
theorem speed_le {q m x : Int} (hq : -x ≤ q ∧ q ≤ x) (hx : x ≤ 268435456) : -x ≤ part q 1 m ∧ part q 1 m ≤ x := part_lo q m x hx hq
/-- the kick of two that meet -/
theorem kick {near aM bM aR bR : Int} (hn : 0 < near ∧ near ≤ 400000) (ha : 1 ≤ aM ∧ aM ≤ 9) (hb : 1 ≤ bM ∧ bM ≤ 9) (ra : 0 ≤ aR ∧ aR ≤ 256) (rb : 0 ≤ bR ∧ bR ≤ 256) :
    ∃ j, (∀ way, jOf near way aM bM aR bR = j * way) ∧ 0 ≤ j ∧ j ≤ 3600000 ∧ j * (aM + bM) ≤ 2 * (near * (aM * bM)) := by
  have hm : mOf aM bM = aM * bM := by unfold mOf; rw [if_neg (by omega), if_neg (by omega)]
  have hN : nOf aM bM = aM + bM := by unfold nOf; rw [if_neg (by omega), if_neg (by omega)]
  have hl : 0 ≤ least aR bR ∧ least aR bR ≤ 256 := by unfold least; split <;> omega
  have m0 := Int.mul_nonneg (show 0 ≤ aM by omega) (show 0 ≤ bM by omega)
  have m1 := mul_bd aM bM 9 9 (by omega) (by omega) (by omega) (by omega)
  have m2 := mul_bd near (aM * bM) 400000 81 (by omega) (by omega) (by omega) (by omega)
  have m3 : 0 ≤ near * (aM * bM) := Int.mul_nonneg (by omega) m0
  have e1 : aM * bM ≤ 9 * bM := Int.mul_le_mul_of_nonneg_right ha.2 (by omega)
  have e2 : aM * bM ≤ aM * 9 := Int.mul_le_mul_of_nonneg_left hb.2 (by omega)
  have e4 : near * (2 * (aM * bM)) ≤ near * (9 * (aM + bM)) := Int.mul_le_mul_of_nonneg_left (by omega) (by omega)
  generalize aM * bM = m at *
  obtain ⟨n, hn'⟩ : ∃ n, n = aM + bM := ⟨_, rfl⟩
  rw [← hn'] at hN e4 ⊢
  have hn2 : 2 ≤ n ∧ n ≤ 18 := by omega
  refine ⟨part (near * m) (256 + least aR bR) (n * 256), fun way => by unfold jOf; rw [hm, hN], ?_⟩
  have hp : part (near * m) (256 + least aR bR) (n * 256) = (near * m * (256 + least aR bR)) / (n * 256) := by
    unfold part
    rw [within_id (n * 256) _ (by omega) (by omega), if_neg (by omega), within_id (near * m) _ (by omega) (by omega), within_id _ _ (by omega) (by omega)]
    exact Int.tdiv_eq_ediv_of_nonneg (Int.mul_nonneg m3 (by omega))
  have h3 : 0 ≤ (near * m) * (256 + least aR bR) := Int.mul_nonneg m3 (by omega)
  have h4 : (near * m) * (256 + least aR bR) ≤ (near * m) * 512 := Int.mul_le_mul_of_nonneg_left (by omega) m3
  have h5 := Int.ediv_mul_le (near * m * (256 + least aR bR)) (show n * 256 ≠ 0 by omega)
  have h6 : 0 ≤ (near * m * (256 + least aR bR)) / (n * 256) := Int.ediv_nonneg h3 (by omega)
  rw [hp]
  generalize (near * m * (256 + least aR bR)) / (n * 256) = j at *
  have h7 : j * (n * 256) = (j * n) * 256 := by rw [Int.mul_assoc]
  have h8 : near * (2 * m) = 2 * (near * m) := by rw [Int.mul_left_comm]
  have h9 : near * (9 * n) = (9 * near) * n := by rw [Int.mul_left_comm, Int.mul_assoc]
  have h10 : j * n ≤ 2 * (near * m) := by omega
  refine ⟨h6, ?_, h10⟩
  have h11 : j * n ≤ (9 * near) * n := by omega
  have h12 : j ≤ 9 * near := Int.le_of_mul_le_mul_right h11 (by omega)
  omega

theorem swing (q1 q2 J wa wb : Int) : wa * ((q1 - J) * (q1 - J)) + wb * ((q2 + J) * (q2 + J)) = wa * (q1 * q1) + wb * (q2 * q2) + (J * J * (wa + wb) - 2 * (J * (wa * q1 - wb * q2))) := by grind
def SWING : Int := 36288000000
theorem push_swing (q1 q2 way aM bM aR bR : Int) (h1 : -200000 ≤ q1 ∧ q1 ≤ 200000) (h2 : -200000 ≤ q2 ∧ q2 ≤ 200000) (hw : way = 1 ∨ way = -1)
    (ha : 1 ≤ aM ∧ aM ≤ 9) (hb : 1 ≤ bM ∧ bM ≤ 9) (ra : 0 ≤ aR ∧ aR ≤ 256) (rb : 0 ≤ bR ∧ bR ≤ 256) (near : Int) (hnear : near = (part q1 1 aM - part q2 1 bM) * way) :
    qa q1 near way aM bM aR bR + qb q2 near way aM bM aR bR = q1 + q2 ∧
    wt aM * (qa q1 near way aM bM aR bR * qa q1 near way aM bM aR bR) + wt bM * (qb q2 near way aM bM aR bR * qb q2 near way aM bM aR bR) ≤ wt aM * (q1 * q1) + wt bM * (q2 * q2) + SWING := by
  obtain ⟨r1, e1, l1, u1⟩ := speed_rest (q := q1) (m := aM) (by omega) ha
  obtain ⟨r2, e2, l2, u2⟩ := speed_rest (q := q2) (m := bM) (by omega) hb
  have s1 := speed_le (q := q1) (m := aM) h1 (by omega)
  have s2 := speed_le (q := q2) (m := bM) h2 (by omega)
  generalize part q1 1 aM = v1 at *
  generalize part q2 1 bM = v2 at *
  unfold qa qb
  by_cases c : 0 < near
  · rw [if_pos ⟨c, by omega⟩, if_pos ⟨c, by omega⟩]
    have hn4 : near ≤ 400000 := by rcases hw with rfl | rfl <;> omega
    obtain ⟨j, hj, j0, j1, j2⟩ := kick (near := near) (aM := aM) (bM := bM) (aR := aR) (bR := bR) ⟨c, hn4⟩ ha hb ra rb
    rw [hj way]
    obtain ⟨J, hJ⟩ : ∃ J, J = j * way := ⟨_, rfl⟩
    have hJb : -3600000 ≤ J ∧ J ≤ 3600000 := by rcases hw with rfl | rfl <;> omega
    have hJJ : J * J = j * j := by rw [hJ]; rcases hw with rfl | rfl <;> grind
    have hJv : J * (v1 - v2) = j * near := by rw [hJ, hnear]; grind
    rw [← hJ, add_mid q1 (-J) _ 200000 (by omega) (by omega) (by omega) (by omega), add_mid q2 J _ 200000 (by omega) (by omega) (by omega) (by omega)]
    refine ⟨by omega, ?_⟩
    rw [show q1 + -J = q1 - J by omega, swing]
    obtain ⟨wa1, wa2, wa3⟩ := wt_mul ha
    obtain ⟨wb1, wb2, wb3⟩ := wt_mul hb
    generalize wt aM = wa at *
    generalize wt bM = wb at *
    have hA : (wa + wb) * (aM * bM) = 2520 * (aM + bM) := by
      have : (wa + wb) * (aM * bM) = (wa * aM) * bM + (wb * bM) * aM := by grind
      rw [this, wa1, wb1]; grind
    have hm0 : 0 < aM * bM := Int.mul_pos (by omega) (by omega)
    have hjA : j * (wa + wb) ≤ 5040 * near := by
      refine Int.le_of_mul_le_mul_right (a := aM * bM) ?_ hm0
      have x1 : j * (wa + wb) * (aM * bM) = 2520 * (j * (aM + bM)) := by rw [Int.mul_assoc, hA]; grind
      have x2 : 5040 * near * (aM * bM) = 2520 * (2 * (near * (aM * bM))) := by grind
      rw [x1, x2]
      omega
    have hjj : j * j * (wa + wb) ≤ j * (5040 * near) := by
      rw [Int.mul_assoc]
      exact Int.mul_le_mul_of_nonneg_left hjA j0
    have d1 := mul_bd wa r1 wa (aM - 1) (by omega) (by omega) (by omega) (by omega)
    have d2 := mul_bd wb r2 wb (bM - 1) (by omega) (by omega) (by omega) (by omega)
    have d3 : wa * (aM - 1) = 2520 - wa := by rw [Int.mul_sub, wa1]; omega
    have d4 : wb * (bM - 1) = 2520 - wb := by rw [Int.mul_sub, wb1]; omega
    have d5 := mul_bd J (wa * r1 - wb * r2) 3600000 5040 (by omega) (by omega) (by omega) (by omega)
    have hq : J * (wa * q1 - wb * q2) = 2520 * (j * near) + J * (wa * r1 - wb * r2) := by
      rw [e1, e2, ← hJv]
      have y1 : wa * (aM * v1 + r1) = 2520 * v1 + wa * r1 := by rw [← wa1]; grind
      have y2 : wb * (bM * v2 + r2) = 2520 * v2 + wb * r2 := by rw [← wb1]; grind
      rw [y1, y2]; grind
    rw [hJJ, hq]
    have hz : j * (5040 * near) = 5040 * (j * near) := by grind
    unfold SWING
    omega
  · rw [if_neg (by omega), if_neg (by omega)]
    unfold SWING
    omega

theorem add_near (p d : Int) (hp : -1048576 ≤ p ∧ p ≤ 1048576) (hd : -1048576 ≤ d ∧ d ≤ 1048576) : ∀ x, -x ≤ d → d ≤ x → -x ≤ add p d 1048576 - p ∧ add p d 1048576 - p ≤ x := by
  intro x h1 h2
  unfold add
  rw [capped_id 1048576 (by omega) (by omega), within_id p _ (by omega) (by omega), within_id d _ (by omega) (by omega)]
  unfold within
  (repeat' split) <;> omega
theorem place_near (p q way dep aM bM : Int) (hp : -1048576 ≤ p ∧ p ≤ 1048576) (hq : -1048576 ≤ q ∧ q ≤ 1048576) (hd : 1 ≤ dep ∧ dep ≤ 8192) (hw : way = 1 ∨ way = -1) (ha : 1 ≤ aM) (hb : 1 ≤ bM) :
    (-4096 ≤ pa p way dep aM bM - p ∧ pa p way dep aM bM - p ≤ 4096) ∧ (-4096 ≤ pb q way dep aM bM - q ∧ pb q way dep aM bM - q ≤ 4096) := by
  have hh : halfOf dep aM bM = dep / 2 := by unfold halfOf; rw [if_neg (by omega), if_neg (by omega)]
  unfold pa pb
  rw [if_pos (by omega), if_pos (by omega), hh]
  have e1 : -4096 ≤ -(dep / 2) * way ∧ -(dep / 2) * way ≤ 4096 := by rcases hw with rfl | rfl <;> omega
  have e2 : -4096 ≤ (dep - dep / 2) * way ∧ (dep - dep / 2) * way ≤ 4096 := by rcases hw with rfl | rfl <;> omega
  exact ⟨add_near _ _ hp (by omega) 4096 e1.1 e1.2, add_near _ _ hq (by omega) 4096 e2.1 e2.2⟩
theorem way_or (a b : Int) : wayOf a b = 1 ∨ wayOf a b = -1 := by unfold wayOf; split <;> simp
theorem depth_le (wa wb xa xb : Int) (ha : wa ≤ 4096) (hb : wb ≤ 4096) : depth wa wb xa xb ≤ 8192 := by
  unfold depth abs; split <;> omega

/-- how much a row swings, along either way -/
def enX (r : Row) : Int := wt r.M * (r.PX * r.PX)
def enY (r : Row) : Int := wt r.M * (r.PY * r.PY)
structure Slow (r : Row) : Prop where
  px : -200000 ≤ r.PX ∧ r.PX ≤ 200000
  py : -200000 ≤ r.PY ∧ r.PY ≤ 200000
structure Near (d : Int) (r q : Row) : Prop where
  x : -d ≤ r.X - q.X ∧ r.X - q.X ≤ d
  y : -d ≤ r.Y - q.Y ∧ r.Y - q.Y ≤ d
theorem Near.refl (r : Row) (d : Int) (h : 0 ≤ d) : Near d r r := ⟨by omega, by omega⟩
theorem Near.trans {d e : Int} {a b c : Row} (h : Near d a b) (k : Near e b c) : Near (d + e) a c := by
  obtain ⟨h1, h2⟩ := h
  obtain ⟨k1, k2⟩ := k
  exact ⟨by omega, by omega⟩
theorem meet_swing {a b : Row} (hm : meets a b = true) (ma : a.M ≠ 0) (mb : b.M ≠ 0) (sa : Slow a) (sb : Slow b) :
    ((meet a b).1.PX + (meet a b).2.PX = a.PX + b.PX ∧ (meet a b).1.PY + (meet a b).2.PY = a.PY + b.PY) ∧
    (enX (meet a b).1 + enX (meet a b).2 ≤ enX a + enX b + SWING ∧ enY (meet a b).1 + enY (meet a b).2 ≤ enY a + enY b + SWING) ∧
    Near 4096 (meet a b).1 a ∧ Near 4096 (meet a b).2 b := by
  obtain ⟨ha, hb, d1, d2⟩ := meets_bodies hm
  obtain ⟨⟨ax, ay, _⟩, aw, ah, am, ar, _⟩ := body_bd ha
  obtain ⟨⟨bx, by', _⟩, bw, bh, bm, br, _⟩ := body_bd hb
  have E : meet a b = meetR a b := by unfold meet; rw [if_neg (by rw [hm]; decide), if_neg (by omega)]
  rw [E]
  have S0 : (0 : Int) ≤ SWING := by unfold SWING; omega
  unfold meetR
  split
  · have k := push_swing a.PX b.PX (wayOf a.X b.X) a.M b.M a.R b.R sa.px sb.px (way_or _ _) (by omega) (by omega) ar br _ rfl
    have p := place_near a.X b.X (wayOf a.X b.X) (depth a.W b.W a.X b.X) a.M b.M ax bx ⟨d1, depth_le _ _ _ _ aw.2 bw.2⟩ (way_or _ _) (by omega) (by omega)
    refine ⟨⟨k.1, rfl⟩, ⟨k.2, ?_⟩, ⟨p.1, ?_⟩, p.2, ?_⟩
    · show enY a + enY b ≤ _; omega
    · show -4096 ≤ a.Y - a.Y ∧ a.Y - a.Y ≤ 4096; omega
    · show -4096 ≤ b.Y - b.Y ∧ b.Y - b.Y ≤ 4096; omega
  · have k := push_swing a.PY b.PY (wayOf a.Y b.Y) a.M b.M a.R b.R sa.py sb.py (way_or _ _) (by omega) (by omega) ar br _ rfl
    have p := place_near a.Y b.Y (wayOf a.Y b.Y) (depth a.H b.H a.Y b.Y) a.M b.M ay by' ⟨d2, depth_le _ _ _ _ ah.2 bh.2⟩ (way_or _ _) (by omega) (by omega)
    refine ⟨⟨rfl, k.1⟩, ⟨?_, k.2⟩, ⟨?_, p.1⟩, ?_, p.2⟩
    · show enX a + enX b ≤ _; omega
    · show -4096 ≤ a.X - a.X ∧ a.X - a.X ≤ 4096; omega
    · show -4096 ≤ b.X - b.X ∧ b.X - b.X ≤ 4096; omega

/-! sums over the things of a store -/
def sumOf (f : Entry → Int) (s : Store) : Int := ((entries s).map f).sum
theorem sum_perm (f : Entry → Int) {l l' : List Entry} (h : l.Perm l') : (l.map f).sum = (l'.map f).sum := by
  induction h with
  | nil => rfl
  | cons a _ ih => simp only [List.map_cons, List.sum_cons, ih]
  | swap a b l => simp only [List.map_cons, List.sum_cons]; omega
  | trans _ _ h1 h2 => exact h1.trans h2
theorem sumOf_set {s : Store} (g : GoodS s) {id m : Int} {q r : Row} (h : at_ s id = some (m, q)) (hr : goodRow m r = true) (f : Entry → Int) :
    sumOf f (set s id r).1 = sumOf f s - f (id, m, q) + f (id, m, r) := by
  obtain ⟨hz, _⟩ := set_at g h hr
  obtain ⟨m1, q1, E, _, gx, hn, _, hp, hpx, hl⟩ := set_ok hz
  unfold at_ at h
  rw [h] at hl
  simp only [Option.some.injEq, Prod.mk.injEq] at hl
  obtain ⟨rfl, rfl⟩ := hl
  unfold sumOf
  rw [sum_perm f hp, sum_perm f hpx]
  simp only [List.map_cons, List.sum_cons]
  omega
theorem sum_nonneg {l : List Entry} {f : Entry → Int} (h : ∀ e ∈ l, 0 ≤ f e) : 0 ≤ (l.map f).sum := by
  induction l with
  | nil => simp
  | cons a l ih =>
    simp only [List.map_cons, List.sum_cons]
    have := h a (by simp)
    have := ih (fun e he => h e (List.mem_cons_of_mem _ he))
    omega
theorem mem_sum {l : List Entry} {f : Entry → Int} (h : ∀ e ∈ l, 0 ≤ f e) {e : Entry} (he : e ∈ l) : f e ≤ (l.map f).sum := by
  induction l with
  | nil => simp at he
  | cons a l ih =>
    simp only [List.map_cons, List.sum_cons]
    have h1 := h a (by simp)
    have h2 := sum_nonneg (l := l) (f := f) (fun e he => h e (List.mem_cons_of_mem _ he))
    rcases List.mem_cons.1 he with rfl | he
    · omega
    · have := ih (fun e he => h e (List.mem_cons_of_mem _ he)) he
      omega
theorem sum_le {l : List Entry} {f : Entry → Int} (x : Int) (h : ∀ e ∈ l, f e ≤ x) : (l.map f).sum ≤ l.length * x := by
  induction l with
  | nil => simp
  | cons a l ih =>
    simp only [List.map_cons, List.sum_cons, List.length_cons]
    have h1 := h a (by simp)
    have h2 := ih (fun e he => h e (List.mem_cons_of_mem _ he))
    have h3 : ((l.length + 1 : Nat) : Int) * x = (l.length : Int) * x + x := by rw [Int.natCast_add, Int.add_mul]; simp
    omega
def pxf (e : Entry) : Int := if moves e.2.1 then e.2.2.PX else 0
def pyf (e : Entry) : Int := if moves e.2.1 then e.2.2.PY else 0
def exf (e : Entry) : Int := if moves e.2.1 then enX e.2.2 else 0
def eyf (e : Entry) : Int := if moves e.2.1 then enY e.2.2 else 0
theorem mover_mass {m : Int} {r : Row} (h : Fits m r) (hm : moves m = true) : 1 ≤ r.M ∧ r.M ≤ 9 := by
  obtain ⟨b1, b2, b8⟩ := moves_bits (by have := h.lo; omega) h.hi hm
  have := h.q8 b8
  omega
theorem sq_nonneg (x : Int) : 0 ≤ x * x := by
  rcases Int.le_total 0 x with h | h
  · exact Int.mul_nonneg h h
  · have := Int.mul_nonneg (show 0 ≤ -x by omega) (show 0 ≤ -x by omega)
    rw [Int.neg_mul_neg] at this; exact this
theorem en_nonneg {m p : Int} (h : 1 ≤ m ∧ m ≤ 9) : 0 ≤ wt m * (p * p) := by
  have := wt_mul h
  exact Int.mul_nonneg (by omega) (sq_nonneg p)
theorem en_slow {m p : Int} (h : 1 ≤ m ∧ m ≤ 9) (hE : wt m * (p * p) ≤ 11200000000000) : -200000 ≤ p ∧ p ≤ 200000 := by
  have hw := wt_mul h
  have h1 : 280 * (p * p) ≤ wt m * (p * p) := Int.mul_le_mul_of_nonneg_right (by omega) (sq_nonneg p)
  have h2 : p * p ≤ 40000000000 := by omega
  constructor
  · false_or_by_contra
    rename_i hn
    have h3 : 200001 * 200001 ≤ (-p) * (-p) := Int.mul_le_mul (by omega) (by omega) (by omega) (by omega)
    rw [Int.neg_mul_neg] at h3
    omega
  · false_or_by_contra
    rename_i hn
    have h3 : 200001 * 200001 ≤ p * p := Int.mul_le_mul (by omega) (by omega) (by omega) (by omega)
    omega
theorem en_calm {m p : Int} (h : 1 ≤ m ∧ m ≤ 9) (hp : -16384 ≤ p ∧ p ≤ 16384) : wt m * (p * p) ≤ 676457349120 := by
  have hw := wt_mul h
  have h1 := mul_bd p p 16384 16384 (by omega) (by omega) (by omega) (by omega)
  have h2 := mul_bd (wt m) (p * p) 2520 268435456 (by omega) (by omega) (by omega) (by omega)
  omega
theorem entry_at {s : Store} (g : GoodS s) {e : Entry} (h : e ∈ entries s) : at_ s e.1 = some (e.2.1, e.2.2) := (look_some g.nodup).2 h
theorem entry_fits {s : Store} (g : GoodS s) {e : Entry} (h : e ∈ entries s) : Fits e.2.1 e.2.2 := at_fits g (entry_at g h)
theorem exf_nonneg {s : Store} (g : GoodS s) : ∀ e ∈ entries s, 0 ≤ exf e := by
  intro e he
  unfold exf
  split
  · rename_i hm; exact en_nonneg (mover_mass (entry_fits g he) hm)
  · omega
theorem eyf_nonneg {s : Store} (g : GoodS s) : ∀ e ∈ entries s, 0 ≤ eyf e := by
  intro e he
  unfold eyf
  split
  · rename_i hm; exact en_nonneg (mover_mass (entry_fits g he) hm)
  · omega
theorem slow_of {s : Store} (g : GoodS s) (hx : sumOf exf s ≤ 11200000000000) (hy : sumOf eyf s ≤ 11200000000000) {id m : Int} {r : Row} (h : at_ s id = some (m, r)) (hm : moves m = true) : Slow r := by
  have he : (id, m, r) ∈ entries s := (look_some g.nodup).1 h
  have hM := mover_mass (at_fits g h) hm
  have h1 : exf (id, m, r) ≤ sumOf exf s := mem_sum (exf_nonneg g) he
  have h2 : eyf (id, m, r) ≤ sumOf eyf s := mem_sum (eyf_nonneg g) he
  unfold exf at h1
  unfold eyf at h2
  simp only [hm, if_true] at h1 h2
  exact ⟨en_slow hM (Int.le_trans h1 hx), en_slow hM (Int.le_trans h2 hy)⟩

/-! the world of which the law speaks -/
structure Calm (r : Row) : Prop where
  px : -16384 ≤ r.PX ∧ r.PX ≤ 16384
  py : -16384 ≤ r.PY ∧ r.PY ≤ 16384
structure Free (w : Wd) : Prop where
  loose : ∀ id m r, at_ w.things id = some (m, r) → moves m = false → bit m 4 = false
  light : ∀ id m r, at_ w.things id = some (m, r) → bit m 16 = false
  calm : ∀ id m r, at_ w.things id = some (m, r) → Calm r
  far : ∀ id m r, at_ w.things id = some (m, r) → moves m = true → (110000 ≤ r.X ∧ r.X ≤ w.wide - 110000) ∧ (110000 ≤ r.Y ∧ r.Y ≤ w.high - 110000)
/-- how the things stand behind n meetings, of which c id were of the thing id -/
structure Inv (w : Wd) (n : Nat) (c : Int → Nat) (t : Store) : Prop where
  kept : Kept w.things t
  px : sumOf pxf t = sumOf pxf w.things
  py : sumOf pyf t = sumOf pyf w.things
  ex : sumOf exf t ≤ 6764573491200 + n * SWING
  ey : sumOf eyf t ≤ 6764573491200 + n * SWING
  near : ∀ id m q r, at_ w.things id = some (m, q) → at_ t id = some (m, r) → moves m = true → Near (16384 + 4096 * (c id : Int)) r q
theorem start_ex {w : Wd} (g : GoodS w.things) (h : Free w) : sumOf exf w.things ≤ 6764573491200 ∧ sumOf eyf w.things ≤ 6764573491200 := by
  have hl : (entries w.things).length ≤ 10 := by rw [← g.size]; exact g.2.2.2.1
  have h1 : sumOf exf w.things ≤ (entries w.things).length * 676457349120 := sum_le _ (fun e he => by
    unfold exf
    split
    · rename_i hm; exact en_calm (mover_mass (entry_fits g he) hm) (h.calm _ _ _ (entry_at g he)).px
    · omega)
  have h2 : sumOf eyf w.things ≤ (entries w.things).length * 676457349120 := sum_le _ (fun e he => by
    unfold eyf
    split
    · rename_i hm; exact en_calm (mover_mass (entry_fits g he) hm) (h.calm _ _ _ (entry_at g he)).py
    · omega)
  omega

/-! the first part: all go on -/
structure Gone (w : Wd) (l : List Int) (t : Store) : Prop where
  kept : Kept w.things t
  px : sumOf pxf t = sumOf pxf w.things
  py : sumOf pyf t = sumOf pyf w.things
  ex : sumOf exf t = sumOf exf w.things
  ey : sumOf eyf t = sumOf eyf w.things
  near : ∀ id m q r, at_ w.things id = some (m, q) → at_ t id = some (m, r) → moves m = true → Near 16384 r q ∧ (id ∈ l → r = q)
theorem gone_calm {fall m : Int} {q : Row} (hc : Calm q) (hf : Fits m q) (hl : bit m 16 = false) (hm : moves m = true) :
    (goneRow fall m q).PX = q.PX ∧ (goneRow fall m q).PY = q.PY ∧ (goneRow fall m q).M = q.M ∧ Near 16384 (goneRow fall m q) q := by
  obtain ⟨b1, b2, b8⟩ := moves_bits (by have := hf.lo; omega) hf.hi hm
  have k1 := hf.q1 b1
  unfold goneRow
  simp only [hl]
  have s1 := speed_le (q := q.PX) (m := q.M) (x := 16384) hc.px (by omega)
  have s2 := speed_le (q := q.PY) (m := q.M) (x := 16384) hc.py (by omega)
  refine ⟨by trivial, by trivial, by trivial, ?_, ?_⟩
  · exact add_near _ _ ⟨k1.1, k1.2.1⟩ (by omega) 16384 s1.1 s1.2
  · exact add_near _ _ ⟨k1.2.2.1, k1.2.2.2⟩ (by simp only [if_neg Bool.false_ne_true]; omega) 16384 s2.1 s2.2
theorem gone_fold {w : Wd} (hw : GoodWd w) (h : Free w) (l : List Int) (hn : l.Nodup) (hl : ∀ id ∈ l, Mover w.things id) {t : Store} (i : Gone w l t) : Gone w [] (l.foldl (goOn w.fall) t) := by
  induction l generalizing t with
  | nil => exact i
  | cons a l ih =>
    rw [List.nodup_cons] at hn
    refine ih hn.2 (fun id hid => hl id (List.mem_cons_of_mem _ hid)) ?_
    have g := i.kept.good
    obtain ⟨m, q, e, hm⟩ := hl a (by simp)
    obtain ⟨r, e2, _, _⟩ := i.kept.kept a m q e
    obtain rfl : r = q := (i.near a m q r e e2 hm).2 (by simp)
    have hf := at_fits g e2
    obtain ⟨c1, c2, c3, c4⟩ := gone_calm (fall := w.fall) (h.calm _ _ _ e) hf (h.light _ _ _ e) hm
    have hgo : goOn w.fall t a = (set t a (goneRow w.fall m r)).1 := by unfold goOn; rw [get_at g, e2]; rfl
    have hgood := goodRow_fits.2 (gone_fits (fall := w.fall) hf hm)
    obtain ⟨_, g1, n1, a1⟩ := set_at g e2 hgood
    rw [hgo]
    refine ⟨i.kept.trans (Kept.set g e2 hm (gone_fits hf hm) ⟨rfl, rfl, rfl, rfl⟩), ?_, ?_, ?_, ?_, ?_⟩
    · rw [sumOf_set g e2 hgood, i.px]; simp only [pxf, hm, if_true, c1]; omega
    · rw [sumOf_set g e2 hgood, i.py]; simp only [pyf, hm, if_true, c2]; omega
    · rw [sumOf_set g e2 hgood, i.ex]; simp only [exf, enX, hm, if_true, c1, c3]; omega
    · rw [sumOf_set g e2 hgood, i.ey]; simp only [eyf, enY, hm, if_true, c2, c3]; omega
    · intro id m' q' r' f1 f2 hm'
      rw [a1] at f2
      by_cases ho : id = a
      · subst ho
        rw [if_pos rfl] at f2
        simp only [Option.some.injEq, Prod.mk.injEq] at f2
        rw [e] at f1
        simp only [Option.some.injEq, Prod.mk.injEq] at f1
        obtain ⟨rfl, rfl⟩ := f1
        obtain ⟨_, rfl⟩ := f2
        exact ⟨c4, fun hid => absurd hid hn.1⟩
      · rw [if_neg ho] at f2
        obtain ⟨k1, k2⟩ := i.near id m' q' r' f1 f2 hm'
        exact ⟨k1, fun hid => k2 (List.mem_cons_of_mem _ hid)⟩
theorem gone_inv {w : Wd} (hw : GoodWd w) (h : Free w) : Inv w 0 (fun _ => 0) (gone w) := by
  have g := hw.things
  have st : Gone w (query w.things 11) w.things := by
    refine ⟨Kept.refl g, rfl, rfl, rfl, rfl, fun id m q r e1 e2 _ => ?_⟩
    rw [e1] at e2
    simp only [Option.some.injEq, Prod.mk.injEq, true_and] at e2
    subst e2
    exact ⟨Near.refl _ _ (by omega), fun _ => rfl⟩
  have k := gone_fold hw h (query w.things 11) (query_nodup g 11) (fun id hid => (query_mover g).1 hid) st
  have s := start_ex g h
  refine ⟨k.kept, k.px, k.py, ?_, ?_, fun id m q r e1 e2 hm => (k.near id m q r e1 e2 hm).1⟩
  · have := k.ex; show sumOf exf (gone w) ≤ _; unfold gone; rw [this]; simp; exact s.1
  · have := k.ey; show sumOf eyf (gone w) ≤ _; unfold gone; rw [this]; simp; exact s.2

/-! how many pairs there are, and how many of a thing -/
def cnt (id : Int) (l : List Pr) : Nat := l.countP fun p => decide (p.1 = id) || decide (p.2 = id)
theorem cnt_cons (id : Int) (p : Pr) (l : List Pr) : cnt id (p :: l) = cnt id l + if p.1 = id ∨ p.2 = id then 1 else 0 := by
  unfold cnt
  rw [List.countP_cons]
  simp
theorem allP_len (l : List Box) : 2 * (allP l).length + l.length ≤ l.length * l.length := by
  induction l using snocInd with
  | nil => simp [allP_nil]
  | snoc l b ih =>
    rw [allP_snoc]
    have h1 : (meets1 l b).length ≤ l.length := by unfold meets1; rw [List.length_map]; exact List.length_filter_le _ _
    simp only [List.length_append, List.length_cons, List.length_nil]
    have h2 : (l.length + (0 + 1)) * (l.length + (0 + 1)) = l.length * l.length + 2 * l.length + 1 := by grind
    omega
theorem one_id (l : List Box) (id : Int) (hn : (l.map (·.id)).Nodup) : l.countP (fun a => decide (a.id = id)) ≤ if id ∈ l.map (·.id) then 1 else 0 := by
  induction l with
  | nil => simp
  | cons a l ih =>
    rw [List.map_cons, List.nodup_cons] at hn
    have := ih hn.2
    rw [List.countP_cons]
    by_cases h : a.id = id
    · rw [if_neg (by rw [← h]; exact hn.1)] at this
      simp only [h, decide_true, if_true, List.map_cons, List.mem_cons, true_or]
      omega
    · have e : (id ∈ (a :: l).map (·.id)) ↔ id ∈ l.map (·.id) := by
        rw [List.map_cons, List.mem_cons]
        exact ⟨fun x => x.resolve_left (fun y => h y.symm), .inr⟩
      simp only [h, decide_false, Bool.false_eq_true, if_false, e]
      omega
theorem cnt_append (id : Int) (a b : List Pr) : cnt id (a ++ b) = cnt id a + cnt id b := by unfold cnt; exact List.countP_append
theorem cnt_meets1 (id : Int) (l : List Box) (b : Box) (hb : b.id ≠ id) : cnt id (meets1 l b) ≤ l.countP (fun a => decide (a.id = id)) := by
  unfold cnt meets1
  rw [List.countP_map]
  refine Nat.le_trans (List.Sublist.countP_le (List.filter_sublist)) ?_
  apply List.countP_mono_left
  intro a _ h
  simp only [Function.comp_apply, pairOf, Bool.or_eq_true, decide_eq_true_eq] at h ⊢
  omega
theorem cnt_none (id : Int) (l : List Box) (h : id ∉ l.map (·.id)) : cnt id (allP l) = 0 := by
  induction l using snocInd with
  | nil => rfl
  | snoc l b ih =>
    rw [List.map_append, List.mem_append] at h
    have h1 : b.id ≠ id := fun e => h (.inr (by simp [e]))
    have h2 := cnt_meets1 id l b h1
    have h3 : l.countP (fun a => decide (a.id = id)) = 0 := by
      rw [List.countP_eq_zero]
      intro a ha e
      exact h (.inl (List.mem_map.2 ⟨a, ha, by simpa using e⟩))
    rw [allP_snoc, cnt_append, ih (fun x => h (.inl x))]
    omega
theorem cnt_all (id : Int) (l : List Box) (hn : (l.map (·.id)).Nodup) : cnt id (allP l) ≤ l.length - 1 := by
  induction l using snocInd with
  | nil => exact Nat.zero_le _
  | snoc l b ih =>
    rw [List.map_append, List.nodup_append] at hn
    obtain ⟨n1, _, n3⟩ := hn
    have hi := ih n1
    rw [allP_snoc, cnt_append]
    simp only [List.length_append, List.length_cons, List.length_nil]
    by_cases h : b.id = id
    · have h0 := cnt_none id l (fun hm => n3 id hm b.id (by simp) h.symm)
      have h1 : cnt id (meets1 l b) ≤ l.length := by
        unfold cnt meets1
        refine Nat.le_trans List.countP_le_length ?_
        rw [List.length_map]; exact List.length_filter_le _ _
      omega
    · have h2 := cnt_meets1 id l b h
      have h3 := one_id l id n1
      by_cases hm : id ∈ l.map (·.id)
      · rw [if_pos hm] at h3
        have : 0 < l.length := by
          rcases List.mem_map.1 hm with ⟨a, ha, _⟩
          exact List.length_pos_of_mem ha
        omega
      · rw [if_neg hm] at h3
        have h0 := cnt_none id l hm
        omega
theorem query_few {s : Store} (g : GoodS s) (m : Int) : (query s m).length ≤ 10 := by
  have h := (query_sub (l := s.tables) m).length_le
  have h2 : (idsT s.tables).length ≤ 10 := g.2.2.2.1
  rw [query_len]
  omega
theorem pairs_few {s : Store} (g : GoodS s) : (pairs (boxes s)).length ≤ 45 ∧ ∀ id, cnt id (pairs (boxes s)) ≤ 9 := by
  unfold pairs
  split
  · rename_i hg
    have hg' : GoodB (boxes s) := by simpa [goodB] using hg
    have hl : (boxes s).length ≤ 10 := by unfold boxes; rw [List.length_map]; exact query_few g 5
    unfold sortP
    constructor
    · rw [List.length_mergeSort]
      have := allP_len (boxes s)
      have h2 : (boxes s).length * (boxes s).length ≤ 10 * (boxes s).length := Nat.mul_le_mul_right _ hl
      omega
    · intro id
      have h1 : cnt id ((allP (boxes s)).mergeSort leP) = cnt id (allP (boxes s)) := (List.mergeSort_perm _ _).countP_eq _
      rw [h1]
      have := cnt_all id (boxes s) hg'.2
      omega
  · exact ⟨by simp, fun id => by simp [cnt]⟩
theorem pairs_shape {s : Store} (g : GoodS s) {p : Pr} (h : p ∈ pairs (boxes s)) : (∃ m r, at_ s p.1 = some (m, r) ∧ bit m 4 = true) ∧ (∃ m r, at_ s p.2 = some (m, r) ∧ bit m 4 = true) ∧ p.1 < p.2 := by
  have h0 := (pairs_at g h).2.2
  unfold pairs at h
  split at h
  · unfold sortP at h
    rw [List.mem_mergeSort] at h
    obtain ⟨i, j, hji, a, b, ha, hb, hm, hp⟩ := mem_allP.1 h
    obtain ⟨m1, r1, e1, f1, _⟩ := boxes_at g (List.mem_of_getElem? ha)
    obtain ⟨m2, r2, e2, f2, _⟩ := boxes_at g (List.mem_of_getElem? hb)
    have l1 := at_fits g e1
    have l2 := at_fits g e2
    have s1 := (has5_bits (by have := l1.lo; omega) l1.hi f1).2
    have s2 := (has5_bits (by have := l2.lo; omega) l2.hi f2).2
    rcases pair_ids p hp with ⟨q1, q2⟩ | ⟨q1, q2⟩
    · exact ⟨by rw [q1]; exact ⟨_, _, e1, s1⟩, by rw [q2]; exact ⟨_, _, e2, s2⟩, h0⟩
    · exact ⟨by rw [q1]; exact ⟨_, _, e2, s2⟩, by rw [q2]; exact ⟨_, _, e1, s1⟩, h0⟩
  · simp at h

/-! the second part: who overlaps meets -/
theorem Inv.weaken {w : Wd} {n n' : Nat} {c c' : Int → Nat} {t : Store} (i : Inv w n c t) (h : n ≤ n') (hc : ∀ id, c id ≤ c' id) : Inv w n' c' t := by
  have hS : (n : Int) * SWING ≤ (n' : Int) * SWING := Int.mul_le_mul_of_nonneg_right (by omega) (by unfold SWING; omega)
  refine ⟨i.kept, i.px, i.py, Int.le_trans i.ex (by omega), Int.le_trans i.ey (by omega), fun id m q r e1 e2 hm => ?_⟩
  obtain ⟨k1, k2⟩ := i.near id m q r e1 e2 hm
  have := hc id
  exact ⟨by omega, by omega⟩
theorem inv_meet {w : Wd} (hw : GoodWd w) (h : Free w) {n : Nat} {c : Int → Nat} {t : Store} (i : Inv w n c t) (hn : n < 45) (k : List Pr) {p : Pr} (hne : p.1 < p.2)
    (h1 : ∃ m r, at_ t p.1 = some (m, r) ∧ bit m 4 = true) (h2 : ∃ m r, at_ t p.2 = some (m, r) ∧ bit m 4 = true) :
    Inv w (n + 1) (fun id => c id + if p.1 = id ∨ p.2 = id then 1 else 0) (meetStep (t, k) p).1 := by
  have g := i.kept.good
  obtain ⟨m1, r1, e1, s1⟩ := h1
  obtain ⟨m2, r2, e2, s2⟩ := h2
  have was : ∀ id m r, at_ t id = some (m, r) → ∃ q, at_ w.things id = some (m, q) := by
    intro id m r e
    cases hq : at_ w.things id with
    | none => rw [i.kept.gone id hq] at e; simp at e
    | some x =>
      obtain ⟨m', q⟩ := x
      obtain ⟨r', e', _⟩ := i.kept.kept id m' q hq
      rw [e] at e'
      simp only [Option.some.injEq, Prod.mk.injEq] at e'
      exact ⟨q, by rw [e'.1]⟩
  obtain ⟨q1, w1⟩ := was _ _ _ e1
  obtain ⟨q2, w2⟩ := was _ _ _ e2
  have v1 : moves m1 = true := by
    cases hm : moves m1
    · rw [h.loose _ _ _ w1 hm] at s1; simp at s1
    · rfl
  have v2 : moves m2 = true := by
    cases hm : moves m2
    · rw [h.loose _ _ _ w2 hm] at s2; simp at s2
    · rfl
  have hkm := kept_meetStep g k ⟨_, _, e1⟩ ⟨_, _, e2⟩ (by omega)
  have hS : ((n + 1 : Nat) : Int) * SWING = n * SWING + SWING := by rw [Int.natCast_add, Int.add_mul]; simp
  have hnS : (n : Int) * SWING ≤ 44 * SWING := Int.mul_le_mul_of_nonneg_right (by omega) (by unfold SWING; omega)
  have hlim : 6764573491200 + (n : Int) * SWING ≤ 11200000000000 := by unfold SWING at hnS ⊢; omega
  have hS0 : (0 : Int) ≤ SWING := by unfold SWING; omega
  rw [meetStep_eq e1 e2 g] at hkm ⊢
  have f1 : freeRow m1 r1 = r1 := by unfold freeRow; rw [if_pos v1]
  have f2 : freeRow m2 r2 = r2 := by unfold freeRow; rw [if_pos v2]
  rw [f1, f2] at hkm ⊢
  cases hmt : meets r1 r2
  · exact i.weaken (by omega) (fun id => by omega)
  · rw [hmt] at hkm
    simp only [cond_true] at hkm ⊢
    have M1 := mover_mass (at_fits g e1) v1
    have M2 := mover_mass (at_fits g e2) v2
    have sl1 := slow_of g (Int.le_trans i.ex hlim) (Int.le_trans i.ey hlim) e1 v1
    have sl2 := slow_of g (Int.le_trans i.ex hlim) (Int.le_trans i.ey hlim) e2 v2
    obtain ⟨⟨px, py⟩, ⟨ex, ey⟩, nx, ny⟩ := meet_swing hmt (by omega) (by omega) sl1 sl2
    have bb := meet_body r1 r2
    have ii := meet_in (at_fits g e1).inBounds (at_fits g e2).inBounds
    have x1 := met_fits (at_fits g e1) v1 bb.1 ii.1
    have x2 := met_fits (at_fits g e2) v2 bb.2 ii.2
    generalize (meet r1 r2).1 = x at *
    generalize (meet r1 r2).2 = y at *
    have hb1 : backTo t p.1 m1 x = (set t p.1 x).1 := by unfold backTo; rw [if_pos v1]
    have hb2 : ∀ u, backTo u p.2 m2 y = (set u p.2 y).1 := fun u => by unfold backTo; rw [if_pos v2]
    rw [hb1, hb2] at hkm ⊢
    obtain ⟨_, g1, n1, a1⟩ := set_at g e1 (goodRow_fits.2 x1)
    have e3 : at_ (set t p.1 x).1 p.2 = some (m2, r2) := by rw [a1, if_neg (by omega)]; exact e2
    obtain ⟨_, g2, n2, a2⟩ := set_at g1 e3 (goodRow_fits.2 x2)
    have hsum : ∀ f : Entry → Int, sumOf f (set (set t p.1 x).1 p.2 y).1 = sumOf f t - f (p.1, m1, r1) + f (p.1, m1, x) - f (p.2, m2, r2) + f (p.2, m2, y) := by
      intro f
      rw [sumOf_set g1 e3 (goodRow_fits.2 x2), sumOf_set g e1 (goodRow_fits.2 x1)]
    refine ⟨i.kept.trans hkm, ?_, ?_, ?_, ?_, ?_⟩
    · rw [hsum, i.px]; simp only [pxf, v1, v2, if_true]; omega
    · rw [hsum, i.py]; simp only [pyf, v1, v2, if_true]; omega
    · rw [hsum, hS]; have := i.ex; simp only [exf, v1, v2, if_true]; omega
    · rw [hsum, hS]; have := i.ey; simp only [eyf, v1, v2, if_true]; omega
    · intro id m q r d1 d2 hm
      rw [a2] at d2
      have up : ∀ {a b d : Row}, Near (16384 + 4096 * (c id : Int)) b d → Near 4096 a b → (p.1 = id ∨ p.2 = id) → Near (16384 + 4096 * ((c id + if p.1 = id ∨ p.2 = id then 1 else 0 : Nat) : Int)) a d := by
        intro a b d k1 k2 k3
        have := k2.trans k1
        rw [if_pos k3]
        obtain ⟨t1, t2⟩ := this
        exact ⟨by omega, by omega⟩
      by_cases h2 : id = p.2
      · rw [if_pos h2] at d2
        simp only [Option.some.injEq, Prod.mk.injEq] at d2
        obtain ⟨rfl, rfl⟩ := d2
        rw [h2] at d1
        exact up (by rw [h2]; exact i.near _ _ _ _ d1 e2 hm) ny (.inr h2.symm)
      · rw [if_neg h2, a1] at d2
        by_cases h1 : id = p.1
        · rw [if_pos h1] at d2
          simp only [Option.some.injEq, Prod.mk.injEq] at d2
          obtain ⟨rfl, rfl⟩ := d2
          rw [h1] at d1
          exact up (by rw [h1]; exact i.near _ _ _ _ d1 e1 hm) nx (.inl h1.symm)
        · rw [if_neg h1] at d2
          rw [if_neg (by rintro (e | e); exact h1 e.symm; exact h2 e.symm)]
          exact i.near _ _ _ _ d1 d2 hm
theorem inv_fold {w : Wd} (hw : GoodWd w) (h : Free w) (l : List Pr) {n : Nat} {c : Int → Nat} {t : Store} (i : Inv w n c t) (hn : n + l.length ≤ 45) (k : List Pr)
    (hl : ∀ p ∈ l, (∃ m r, at_ t p.1 = some (m, r) ∧ bit m 4 = true) ∧ (∃ m r, at_ t p.2 = some (m, r) ∧ bit m 4 = true) ∧ p.1 < p.2) :
    Inv w (n + l.length) (fun id => c id + cnt id l) (l.foldl meetStep (t, k)).1 := by
  induction l generalizing t n c k with
  | nil => exact i.weaken (by simp) (fun id => by simp [cnt])
  | cons p l ih =>
    simp only [List.length_cons] at hn
    obtain ⟨h1, h2, h3⟩ := hl p (by simp)
    have j := inv_meet hw h i (by omega) k h3 h1 h2
    have kk := kept_meetStep i.kept.good k (let ⟨m, r, e, _⟩ := h1; ⟨m, r, e⟩) (let ⟨m, r, e, _⟩ := h2; ⟨m, r, e⟩) (by omega)
    rw [List.foldl_cons]
    rcases hs : meetStep (t, k) p with ⟨t1, k1⟩
    rw [hs] at j kk
    simp only at j kk
    have up : ∀ id, (∃ m r, at_ t id = some (m, r) ∧ bit m 4 = true) → ∃ m r, at_ t1 id = some (m, r) ∧ bit m 4 = true := by
      rintro id ⟨m, r, e, hb⟩
      obtain ⟨r', e', _⟩ := kk.kept _ _ _ e
      exact ⟨m, r', e', hb⟩
    refine (ih j (by omega) k1 (fun q hq => ?_)).weaken (by simp; omega) (fun id => by rw [cnt_cons]; omega)
    obtain ⟨a, b, d⟩ := hl q (List.mem_cons_of_mem _ hq)
    exact ⟨up _ a, up _ b, d⟩
theorem met_inv {w : Wd} (hw : GoodWd w) (h : Free w) : Inv w 45 (fun _ => 9) (met w).1 := by
  have i := gone_inv hw h
  have g := i.kept.good
  obtain ⟨f1, f2⟩ := pairs_few g
  unfold met
  exact (inv_fold hw h (pairs (boxes (gone w))) i (by omega) [] (fun p hp => pairs_shape g hp)).weaken (by omega) (fun id => by have := f2 id; omega)

/-! the third part: no wall is near -/
theorem walled_far {w : Wd} {m : Int} {r : Row} (hf : Fits m r) (hx : 4096 ≤ r.X ∧ r.X ≤ w.wide - 4096) (hy : 4096 ≤ r.Y ∧ r.Y ≤ w.high - 4096) : walledRow w.wide w.high r = r := by
  have hh := hf.half
  have e1 : ∀ x half wide : Int, 0 ≤ half → half ≤ 4096 → 4096 ≤ x → x ≤ wide - 4096 → ∀ p back, wallA x half wide = x ∧ wallP x p half wide back = p := by
    intro x half wide h1 h2 h3 h4 p back
    have hfar : ¬ far half wide < x := by unfold far; split <;> omega
    unfold wallA wallP
    rw [if_neg (by omega), if_neg hfar, if_neg (by omega), if_neg hfar]
    exact ⟨rfl, rfl⟩
  unfold walledRow
  rw [(e1 r.X r.W w.wide hh.1.1 hh.1.2 hx.1 hx.2 r.PX r.R).1, (e1 r.X r.W w.wide hh.1.1 hh.1.2 hx.1 hx.2 r.PX r.R).2, (e1 r.Y r.H w.high hh.2.1 hh.2.2 hy.1 hy.2 r.PY r.R).1, (e1 r.Y r.H w.high hh.2.1 hh.2.2 hy.1 hy.2 r.PY r.R).2]
theorem ends_fold {w : Wd} (l : List Int) {t u : Store} (gt : GoodS t) (gu : GoodS u) (ha : ∀ id, at_ u id = at_ t id) (f : Entry → Int) (hf : sumOf f u = sumOf f t)
    (hl : ∀ id ∈ l, ∃ m r, at_ t id = some (m, r) ∧ moves m = true ∧ walledRow w.wide w.high r = r) : sumOf f (l.foldl (walled w.wide w.high) u) = sumOf f t := by
  induction l generalizing u with
  | nil => exact hf
  | cons a l ih =>
    obtain ⟨m, r, e, hm, hwr⟩ := hl a (by simp)
    have e2 : at_ u a = some (m, r) := (ha a).trans e
    have hgo : walled w.wide w.high u a = (set u a r).1 := by unfold walled; rw [get_at gu, e2]; show (set u a (walledRow _ _ r)).1 = _; rw [hwr]
    have hgood := goodRow_fits.2 (at_fits gu e2)
    obtain ⟨_, g1, n1, a1⟩ := set_at gu e2 hgood
    rw [List.foldl_cons, hgo]
    refine ih g1 (fun id => ?_) ?_ (fun id hid => hl id (List.mem_cons_of_mem _ hid))
    · rw [a1]
      split
      · rename_i ho; rw [ho]; exact e.symm
      · exact ha id
    · rw [sumOf_set gu e2 hgood, hf]; omega
theorem ends_sums {w : Wd} (hw : GoodWd w) (h : Free w) : sumOf pxf (ends w) = sumOf pxf w.things ∧ sumOf pyf (ends w) = sumOf pyf w.things := by
  have i := met_inv hw h
  have g := i.kept.good
  have hl : ∀ id ∈ query (met w).1 11, ∃ m r, at_ (met w).1 id = some (m, r) ∧ moves m = true ∧ walledRow w.wide w.high r = r := by
    intro id hid
    obtain ⟨m, r, e, hm⟩ := (query_mover g).1 hid
    refine ⟨m, r, e, hm, ?_⟩
    cases hq : at_ w.things id with
    | none => rw [i.kept.gone id hq] at e; simp at e
    | some x =>
      obtain ⟨m', q⟩ := x
      obtain ⟨r', e', _⟩ := i.kept.kept id m' q hq
      rw [e] at e'
      simp only [Option.some.injEq, Prod.mk.injEq] at e'
      obtain ⟨rfl, rfl⟩ := e'
      obtain ⟨n1, n2⟩ := i.near id m q r hq e hm
      obtain ⟨f1, f2⟩ := h.far id m q hq hm
      exact walled_far (at_fits g e) (by omega) (by omega)
  unfold ends
  exact ⟨(ends_fold _ g g (fun _ => rfl) pxf rfl hl).trans i.px, (ends_fold _ g g (fun _ => rfl) pyf rfl hl).trans i.py⟩
end Go.Proofs.YtkpecagkpjabdabGreat.M
/- The contract of solve.Wall. Condition: numbers within 2^28 . -/
namespace Go.Proofs.YtkpecagkpjabdabGreat
open Go.RowKit
set_option linter.unusedVariables false
set_option linter.unusedSimpArgs false
set_option maxRecDepth 100000

def Mid (n : Int) : Prop := -268435456 ≤ n ∧ n ≤ 268435456

theorem wall_calls (at_ push half wide back : Int) (w : World) (h1 : Mid at_) (h2 : Mid push) (h3 : Mid half) (h4 : Mid wide) :
    Calls Tryz.prog 55 #[.int .i64 at_, .int .i64 push, .int .i64 half, .int .i64 wide, .int .i64 back] w fun e w' =>
      e = .returned (.tuple #[.int .i64 (M.wallA at_ half wide), .int .i64 (M.wallP at_ push half wide back)]) ∧ w = w' := by
  unfold Mid at *
  have s1 : 0 ≤ M.abs push ∧ M.abs push ≤ 268435456 := by unfold M.abs; split <;> omega
  have bp := M.part_bd (M.abs push) (M.within back 256) 256
  by_cases c0 : wide - half ≤ half
  · have E : M.far half wide = half := by unfold M.far; split <;> omega
    unfold M.wallA M.wallP
    rw [E]
    clear E
    by_cases c1 : at_ < half
    · rw [if_pos c1, if_pos c1]
      go_enter Tryz.func55, Tryz.ntmps55
      go_wp2_with (first | (go_at_call 99; refine (abs_calls _ _ (by omega) (by omega)).mono ?_; rintro e w' ⟨rfl, rfl⟩) | (go_at_call 70; refine (within_calls _ _ _ (by omega) (by omega)).mono ?_; rintro e w' ⟨rfl, rfl⟩) | (go_at_call 85; refine (part_calls _ _ _ _).mono ?_; rintro e w' ⟨rfl, rfl⟩))
      go_ret2
      exact ⟨rfl, rfl⟩
    · rw [if_neg c1, if_neg c1]
      by_cases c2 : half < at_
      · rw [if_pos c2, if_pos c2]
        go_enter Tryz.func55, Tryz.ntmps55
        go_wp2_with (first | (go_at_call 99; refine (abs_calls _ _ (by omega) (by omega)).mono ?_; rintro e w' ⟨rfl, rfl⟩) | (go_at_call 70; refine (within_calls _ _ _ (by omega) (by omega)).mono ?_; rintro e w' ⟨rfl, rfl⟩) | (go_at_call 85; refine (part_calls _ _ _ _).mono ?_; rintro e w' ⟨rfl, rfl⟩))
        go_ret2
        exact ⟨rfl, rfl⟩
      · rw [if_neg c2, if_neg c2]
        go_enter Tryz.func55, Tryz.ntmps55
        go_wp2_with (first | (go_at_call 99; refine (abs_calls _ _ (by omega) (by omega)).mono ?_; rintro e w' ⟨rfl, rfl⟩) | (go_at_call 70; refine (within_calls _ _ _ (by omega) (by omega)).mono ?_; rintro e w' ⟨rfl, rfl⟩) | (go_at_call 85; refine (part_calls _ _ _ _).mono ?_; rintro e w' ⟨rfl, rfl⟩))
        go_ret2
        exact ⟨rfl, rfl⟩
  · have E : M.far half wide = wide - half := by unfold M.far; split <;> omega
    unfold M.wallA M.wallP
    rw [E]
    clear E
    by_cases c1 : at_ < half
    · rw [if_pos c1, if_pos c1]
      go_enter Tryz.func55, Tryz.ntmps55
      go_wp2_with (first | (go_at_call 99; refine (abs_calls _ _ (by omega) (by omega)).mono ?_; rintro e w' ⟨rfl, rfl⟩) | (go_at_call 70; refine (within_calls _ _ _ (by omega) (by omega)).mono ?_; rintro e w' ⟨rfl, rfl⟩) | (go_at_call 85; refine (part_calls _ _ _ _).mono ?_; rintro e w' ⟨rfl, rfl⟩))
      go_ret2
      exact ⟨rfl, rfl⟩
    · rw [if_neg c1, if_neg c1]
      by_cases c2 : wide - half < at_
      · rw [if_pos c2, if_pos c2]
        go_enter Tryz.func55, Tryz.ntmps55
        go_wp2_with (first | (go_at_call 99; refine (abs_calls _ _ (by omega) (by omega)).mono ?_; rintro e w' ⟨rfl, rfl⟩) | (go_at_call 70; refine (within_calls _ _ _ (by omega) (by omega)).mono ?_; rintro e w' ⟨rfl, rfl⟩) | (go_at_call 85; refine (part_calls _ _ _ _).mono ?_; rintro e w' ⟨rfl, rfl⟩))
        go_ret2
        exact ⟨rfl, rfl⟩
      · rw [if_neg c2, if_neg c2]
        go_enter Tryz.func55, Tryz.ntmps55
        go_wp2_with (first | (go_at_call 99; refine (abs_calls _ _ (by omega) (by omega)).mono ?_; rintro e w' ⟨rfl, rfl⟩) | (go_at_call 70; refine (within_calls _ _ _ (by omega) (by omega)).mono ?_; rintro e w' ⟨rfl, rfl⟩) | (go_at_call 85; refine (part_calls _ _ _ _).mono ?_; rintro e w' ⟨rfl, rfl⟩))
        go_ret2
        exact ⟨rfl, rfl⟩
end Go.Proofs.YtkpecagkpjabdabGreat
/- Plain: what WorldFixed asks of a step. No condition, no program in sight. -/
namespace Go.Proofs.YtkpecagkpjabdabGreat.M
open Go.RowKit
set_option linter.unusedVariables false
set_option linter.unusedSimpArgs false
set_option maxRecDepth 100000
theorem entry_in {s : Store} {t : Table} (ht : t ∈ s.tables) {k : Nat} {id : Int} {r : Row} (h1 : t.ids[k]? = some id) (h2 : t.rows[k]? = some r) : (id, t.mask, r) ∈ entries s := by
  unfold entries entriesT
  refine List.mem_flatMap.2 ⟨t, ht, List.mem_map.2 ⟨(id, r), ?_, rfl⟩⟩
  refine List.mem_of_getElem? (i := k) ?_
  rw [List.getElem?_zip_eq_some]
  exact ⟨h1, h2⟩
theorem fixed_get {d : Wd} (g : GoodWd d) {t : Table} (ht : t ∈ d.things.tables) {k : Nat} {id : Int} {r : Row} (h1 : t.ids[k]? = some id) (h2 : t.rows[k]? = some r) :
    ∃ q, get (step d).1.things id = (t.mask, q, true) ∧ (moves t.mask = false → q = r) ∧ SameBody q r := by
  have e := entry_at g.things (entry_in ht h1 h2)
  obtain ⟨_, kp, gw, _⟩ := step_kept g
  obtain ⟨q, e2, f, b⟩ := kp.kept _ _ _ e
  exact ⟨q, by rw [get_at gw.things, e2]; rfl, f, b⟩
end Go.Proofs.YtkpecagkpjabdabGreat.M
/- Plain: what WorldSums asks of each row, and sums over a beginning of the things. No condition, no program in sight. -/
namespace Go.Proofs.YtkpecagkpjabdabGreat.M
open Go.RowKit
set_option linter.unusedVariables false
set_option linter.unusedSimpArgs false
set_option maxRecDepth 100000
def calmW (r : Row) : Bool := decide ((-524288 ≤ r.X ∧ r.X ≤ 524288) ∧ (-524288 ≤ r.Y ∧ r.Y ≤ 524288) ∧ (-16384 ≤ r.PX ∧ r.PX ≤ 16384) ∧ (-16384 ≤ r.PY ∧ r.PY ≤ 16384))
structure PassW (d : Wd) (e : Entry) : Prop where
  loose : moves e.2.1 = false → bit e.2.1 4 = false
  light : bit e.2.1 16 = false
  calm : calmW e.2.2 = true
  far : moves e.2.1 = true → (110000 ≤ e.2.2.X ∧ e.2.2.X ≤ d.wide - 110000) ∧ (110000 ≤ e.2.2.Y ∧ e.2.2.Y ≤ d.high - 110000)
theorem free_of {d : Wd} (g : GoodS d.things) (h : ∀ e ∈ entries d.things, PassW d e) : Free d := by
  have k : ∀ id m r, at_ d.things id = some (m, r) → PassW d (id, m, r) := fun id m r e => h _ ((look_some g.nodup).1 e)
  refine ⟨fun id m r e => (k id m r e).loose, fun id m r e => (k id m r e).light, fun id m r e => ?_, fun id m r e => (k id m r e).far⟩
  have := (k id m r e).calm
  unfold calmW at this
  simp only [decide_eq_true_eq] at this
  exact ⟨this.2.2.1, this.2.2.2⟩
def sumL (f : Entry → Int) (l : List Entry) : Int := (l.map f).sum
theorem sumL_snoc (f : Entry → Int) (l : List Entry) (e : Entry) : sumL f (l ++ [e]) = sumL f l + f e := by
  unfold sumL
  rw [List.map_append, List.sum_append]
  simp
/-- the things ahead of the k-th one of table n -/
def ahead (s : Store) (n k : Nat) : List Entry := entriesT (s.tables.take n) ++ ((s.tables[n]?).map fun t => t.entries.take k).getD []
theorem ahead_zero (s : Store) : ahead s 0 0 = [] := by
  unfold ahead
  cases s.tables[0]? <;> simp [entriesT]
theorem ahead_row {s : Store} {n k : Nat} {t : Table} {id : Int} {r : Row} (ht : s.tables[n]? = some t) (h1 : t.ids[k]? = some id) (h2 : t.rows[k]? = some r) : ahead s n (k + 1) = ahead s n k ++ [(id, t.mask, r)] := by
  unfold ahead
  rw [ht]
  simp only [Option.map_some, Option.getD_some, List.append_assoc]
  congr 1
  have : t.entries[k]? = some (id, t.mask, r) := by
    unfold Table.entries
    rw [List.getElem?_map, (List.getElem?_zip_eq_some (z := (id, r))).2 ⟨h1, h2⟩]
    rfl
  rw [List.take_add_one, this]
  rfl
theorem ahead_next {s : Store} {n : Nat} {t : Table} (ht : s.tables[n]? = some t) (hl : t.ids.length = t.rows.length) {k : Nat} (hk : k = t.ids.length) : ahead s (n + 1) 0 = ahead s n k := by
  subst hk
  unfold ahead
  rw [ht, List.take_add_one, ht]
  simp only [Option.map_some, Option.getD_some, Option.toList_some]
  have e : t.entries.take t.ids.length = t.entries := List.take_of_length_le (by unfold Table.entries; simp; omega)
  rw [e]
  have : ((s.tables[n + 1]?).map fun t => t.entries.take 0).getD [] = ([] : List Entry) := by cases s.tables[n + 1]? <;> simp
  rw [this]
  simp [entriesT]
theorem ahead_all (s : Store) : ahead s s.tables.length 0 = entries s := by
  unfold ahead
  rw [List.take_length, List.getElem?_eq_none (Nat.le_refl _)]
  simp [entries]
theorem ahead_mem {s : Store} {n k : Nat} : ∀ e ∈ ahead s n k, e ∈ entries s := by
  intro e h
  unfold ahead at h
  rcases List.mem_append.1 h with h | h
  · unfold entriesT at h
    obtain ⟨t, ht, he⟩ := List.mem_flatMap.1 h
    exact List.mem_flatMap.2 ⟨t, List.mem_of_mem_take ht, he⟩
  · cases ht : s.tables[n]? with
    | none => rw [ht] at h; simp at h
    | some t =>
      rw [ht] at h
      simp only [Option.map_some, Option.getD_some] at h
      exact List.mem_flatMap.2 ⟨t, List.mem_of_getElem? ht, List.mem_of_mem_take h⟩
theorem entriesT_take (l : List Table) (n : Nat) : (entriesT (l.take n)).length ≤ (entriesT l).length := by
  have : entriesT l = entriesT (l.take n) ++ entriesT (l.drop n) := by unfold entriesT; rw [← List.flatMap_append, List.take_append_drop]
  rw [this, List.length_append]
  omega
theorem ahead_len {s : Store} (g : GoodS s) {n k : Nat} : (ahead s n k).length ≤ 10 := by
  have h10 : (entries s).length ≤ 10 := by have := g.2.2.2.1; have e := g.size; have e2 : size s = (idsT s.tables).length := rfl; omega
  refine Nat.le_trans ?_ h10
  unfold ahead entries
  cases ht : s.tables[n]? with
  | none =>
    simp only [Option.map_none, Option.getD_none, List.append_nil]
    exact entriesT_take _ _
  | some t =>
    simp only [Option.map_some, Option.getD_some]
    have e : entriesT (s.tables.take (n + 1)) = entriesT (s.tables.take n) ++ t.entries := by
      unfold entriesT
      rw [List.take_add_one, ht]
      simp
    have h1 : (entriesT (s.tables.take n) ++ t.entries.take k).length ≤ (entriesT (s.tables.take (n + 1))).length := by
      rw [e, List.length_append, List.length_append, List.length_take]
      omega
    exact Nat.le_trans h1 (entriesT_take _ _)
theorem sum_bd (f : Entry → Int) (l : List Entry) (h : ∀ e ∈ l, -16777216 ≤ f e ∧ f e ≤ 16777216) : -(16777216 * (l.length : Int)) ≤ sumL f l ∧ sumL f l ≤ 16777216 * (l.length : Int) := by
  induction l with
  | nil => simp [sumL]
  | cons a l ih =>
    have h1 := h a (List.mem_cons_self ..)
    have h2 := ih (fun e he => h e (List.mem_cons_of_mem _ he))
    have e : sumL f (a :: l) = f a + sumL f l := by simp [sumL]
    rw [e, List.length_cons]
    omega
theorem pxf_bd {s : Store} (g : GoodS s) : ∀ e ∈ entries s, (-16777216 ≤ pxf e ∧ pxf e ≤ 16777216) ∧ (-16777216 ≤ pyf e ∧ pyf e ≤ 16777216) := by
  intro e he
  have hf := fits_small (entry_fits g he)
  unfold pxf pyf
  constructor <;> split <;> omega
theorem ahead_bd {s : Store} (g : GoodS s) (n k : Nat) : (-167772160 ≤ sumL pxf (ahead s n k) ∧ sumL pxf (ahead s n k) ≤ 167772160) ∧ (-167772160 ≤ sumL pyf (ahead s n k) ∧ sumL pyf (ahead s n k) ≤ 167772160) := by
  have h1 := sum_bd pxf (ahead s n k) (fun e he => (pxf_bd g e (ahead_mem e he)).1)
  have h2 := sum_bd pyf (ahead s n k) (fun e he => (pxf_bd g e (ahead_mem e he)).2)
  have h3 := ahead_len g (n := n) (k := k)
  omega
theorem tabs_few {s : Store} (g : GoodS s) : s.tables.length ≤ (idsT s.tables).length := by
  have h : ∀ l : List Table, (∀ t ∈ l, t.ids ≠ []) → l.length ≤ (idsT l).length := by
    intro l
    induction l with
    | nil => intro _; simp [idsT]
    | cons t l ih =>
      intro h
      have h1 := ih (fun t ht => h t (List.mem_cons_of_mem _ ht))
      have h2 : 0 < t.ids.length := List.length_pos_iff.2 (h t (List.mem_cons_self ..))
      have e : idsT (t :: l) = t.ids ++ idsT l := rfl
      rw [e, List.length_append, List.length_cons]
      omega
  exact h _ (fun t ht => (g.1 t ht).1)
theorem sums_step {d : Wd} (g : GoodWd d) (h : ∀ e ∈ entries d.things, PassW d e) : sumL pxf (entries (step d).1.things) = sumL pxf (entries d.things) ∧ sumL pyf (entries (step d).1.things) = sumL pyf (entries d.things) := by
  have k := ends_sums g (free_of g.things h)
  have e : (step d).1.things = ends d := by
    unfold step
    rw [if_pos (goodW_iff.2 g)]
  rw [e]
  exact k
end Go.Proofs.YtkpecagkpjabdabGreat.M
