/- Words for store.cut: an own store with one table turned in its place, or without one table. No condition. -/
import Derived.Test.YtkpecagkpjabdaaStorePutLaw
import Derived.Test.YtkpecagkpjabdaaStorePut
namespace Go.Proofs.Ytkpecagkpjabdaa
open Go.RowKit
set_option linter.unusedVariables false
set_option linter.unusedSimpArgs false
set_option maxRecDepth 100000

theorem rowsL_set (rs : List M.Row) (k : Nat) (r : M.Row) (hk : k < rs.length) :
    ((((((((rs.flatMap rowL).set (k * 8) (.int .i64 r.X)).set (k * 8 + 1) (.int .i64 r.Y)).set (k * 8 + 2) (.int .i64 r.PX)).set (k * 8 + 3) (.int .i64 r.PY)).set (k * 8 + 4) (.int .i64 r.W)).set (k * 8 + 5) (.int .i64 r.H)).set (k * 8 + 6) (.int .i64 r.M)).set (k * 8 + 7) (.int .i64 r.R) = (rs.set k r).flatMap rowL := by
  induction rs generalizing k with
  | nil => simp at hk
  | cons a rs ih =>
    match k with
    | 0 => simp [rowL]
    | k + 1 =>
      have e : ∀ j, (k + 1) * 8 + j = (k * 8 + j) + 8 := fun j => by omega
      have e0 : (k + 1) * 8 = k * 8 + 8 := by omega
      simp only [e]
      rw [e0]
      have hc : ∀ (l : List Value) (j : Nat) (v : Value), (rowL a ++ l).set (j + 8) v = rowL a ++ l.set j v := fun l j v => by simp [rowL]
      rw [List.flatMap_cons, hc, hc, hc, hc, hc, hc, hc, hc, List.set_cons_succ, List.flatMap_cons, ih k (by simpa using hk)]
theorem rowsL_take (rs : List M.Row) (m : Nat) : (rs.flatMap rowL).take (m * 8) = (rs.take m).flatMap rowL := by
  induction rs generalizing m with
  | nil => simp
  | cons a rs ih =>
    match m with
    | 0 => simp
    | m + 1 =>
      have hl : (rowL a).length = 8 := rfl
      rw [List.flatMap_cons, List.take_succ_cons, List.flatMap_cons, show (m + 1) * 8 = (rowL a).length + m * 8 by omega, List.take_length_add_append, ih]
/-- fewer of what is owned -/
theorem own_short {w : World} {base : Nat} {e : TypeId} {k n m g cap : Nat} {xs : List Value} (h : w.ownsRow base e k (.slice (some ⟨g, 0, none⟩) n cap) n xs) (hm : m ≤ n) :
    w.ownsRow base e k (.slice (some ⟨g, 0, none⟩) m cap) m (xs.take (m * k)) := by
  have hle : m * k ≤ n * k := Nat.mul_le_mul_right k hm
  refine ⟨by rw [List.length_take, h.1]; omega, .inr ?_⟩
  rcases h.2 with ⟨e, _⟩ | ⟨g', cap', cur, e, hb, hg, hnc, hcm, hcs, htk⟩
  · simp at e
  simp only [Value.slice.injEq, Option.some.injEq, Addr.mk.injEq, and_true, true_and] at e
  obtain ⟨rfl, rfl⟩ := e
  exact ⟨g, cap, cur, rfl, hb, hg, by omega, hcm, hcs, by rw [← htk, List.take_take]; congr 1; omega⟩
theorem without_set_take {α : Type} (l : List α) (k : Nat) (x : α) (hx : l[l.length - 1]? = some x) : M.without l k = (l.set k x).take (l.length - 1) := by
  unfold M.without
  rw [List.getLast?_eq_getElem?, hx]
  simp only [List.dropLast_eq_take, List.length_set]
theorem tabL_mask {ts : List M.Table} {hs : List (Value × Value)} {i : Nat} {t t' : M.Table} (hat : ts[i]? = some t) (hm : t'.mask = t.mask) (hl : hs.length = ts.length) : tabL (ts.set i t') hs = tabL ts hs := by
  induction ts generalizing hs i with
  | nil => rfl
  | cons a ts ih =>
    match hs, hl, i with
    | q :: hs, hl, 0 =>
      simp only [List.getElem?_cons_zero, Option.some.injEq] at hat
      subst hat
      simp [tabL_cons, hm]
    | q :: hs, hl, i + 1 =>
      simp only [List.set_cons_succ, tabL_cons]
      rw [ih (by simpa using hat) (by simpa using hl)]
theorem blks_set {vt : Value} {hs : List (Value × Value)} {i : Nat} {p q : Value × Value} (hp : hs[i]? = some p) (h1 : q.1.ownBlock = p.1.ownBlock) (h2 : q.2.ownBlock = p.2.ownBlock) : blks vt (hs.set i q) = blks vt hs := by
  have e : ∀ (hs : List (Value × Value)) (i : Nat), hs[i]? = some p → ((hs.set i q).flatMap fun h => [h.1, h.2]).filterMap Value.ownBlock = (hs.flatMap fun h => [h.1, h.2]).filterMap Value.ownBlock := by
    intro hs
    induction hs with
    | nil => intro i h; simp at h
    | cons a hs ih =>
      intro i h
      match i with
      | 0 =>
        simp only [List.getElem?_cons_zero, Option.some.injEq] at h
        subst h
        simp only [List.set_cons_zero, List.flatMap_cons, List.filterMap_append]
        congr 1
        simp [List.filterMap_cons, h1, h2]
      | i + 1 =>
        simp only [List.set_cons_succ, List.flatMap_cons, List.filterMap_append]
        rw [ih i (by simpa using h)]
  unfold blks
  rw [List.filterMap_cons, List.filterMap_cons, e hs i hp]
/-- one table turned in its place: its handles' blocks stay -/
theorem OwnTabs.turn {w W : World} {base : Nat} {vt : Value} {ts : List M.Table} {hs : List (Value × Value)} {i : Nat} {t t' : M.Table} {p q : Value × Value} (h : OwnTabs w base vt ts hs) (hat : ts[i]? = some t) (hp : hs[i]? = some p)
    (hm : t'.mask = t.mask) (hrow : W.ownsRow base 82 3 vt ts.length (tabL ts (hs.set i q)))
    (hk : OwnTab W base t' q) (h1 : q.1.ownBlock = p.1.ownBlock) (h2 : q.2.ownBlock = p.2.ownBlock)
    (hsame : ∀ g, g < w.heap.size → vt.ownBlock ≠ some g → p.1.ownBlock ≠ some g → p.2.ownBlock ≠ some g → W.heap[g]? = w.heap[g]?) : OwnTabs W base vt (ts.set i t') (hs.set i q) := by
  have hl := h.len
  have hlt := (List.getElem?_eq_some_iff.1 hat).1
  have hlt2 := (List.getElem?_eq_some_iff.1 hp).1
  refine ⟨by simp [hl], ?_, ?_, by rw [blks_set hp h1 h2]; exact h.apart⟩
  · rw [List.length_set, tabL_mask hat hm (by simp [hl])]
    exact hrow
  · intro j u x h3 h4
    by_cases hj : j = i
    · subst hj
      rw [List.getElem?_set_self (by omega)] at h3 h4
      simp only [Option.some.injEq] at h3 h4
      subst h3; subst h4
      exact hk
    · rw [List.getElem?_set_ne (fun e => hj e.symm)] at h3 h4
      have kj := h.each j u x h3 h4
      have hvx := fun g (hg : vt.ownBlock = some g) => blks_vt h.apart hg (List.mem_of_getElem? h4)
      have same : ∀ (z : Value), (z = x.1 ∨ z = x.2) → ∀ g, z.ownBlock = some g → g < w.heap.size → W.heap[g]? = w.heap[g]? := by
        intro z hz g hg hgl
        refine hsame g hgl ?_ (blks_two h.apart hj h4 hp hz (.inl rfl) hg) (blks_two h.apart hj h4 hp hz (.inr rfl) hg)
        intro e
        rcases hz with rfl | rfl
        · exact (hvx g e).1 hg
        · exact (hvx g e).2 hg
      exact ⟨own_same kj.ids (fun g hg => same _ (.inl rfl) g hg (kj.ids.lt g hg).2), own_same kj.rows (fun g hg => same _ (.inr rfl) g hg (kj.rows.lt g hg).2)⟩
theorem tabL_erase (ts : List M.Table) (hs : List (Value × Value)) (i : Nat) (h : hs.length = ts.length) : tabL (ts.eraseIdx i) (hs.eraseIdx i) = (tabL ts hs).take (i * 3) ++ (tabL ts hs).drop ((i + 1) * 3) := by
  rw [List.eraseIdx_eq_take_drop_succ, List.eraseIdx_eq_take_drop_succ, tabL_append _ _ _ _ (by simp [h]), tabL_take _ _ _ h, tabL_drop _ _ _ h]
/-- one table less -/
theorem OwnTabs.less {w W : World} {base : Nat} {vt vt' : Value} {ts : List M.Table} {hs : List (Value × Value)} {i : Nat} (h : OwnTabs w base vt ts hs) (hi : i < ts.length)
    (hrow : W.ownsRow base 82 3 vt' (ts.length - 1) ((tabL ts hs).take (i * 3) ++ (tabL ts hs).drop ((i + 1) * 3))) (hv : vt'.ownBlock = vt.ownBlock) (hg : w.grownBy W vt.ownBlock) :
    OwnTabs W base vt' (ts.eraseIdx i) (hs.eraseIdx i) := by
  have hl := h.len
  refine ⟨by rw [List.length_eraseIdx, List.length_eraseIdx, hl], ?_, ?_, ?_⟩
  · rw [List.length_eraseIdx, if_pos hi, tabL_erase _ _ _ hl]
    exact hrow
  · intro j t p h1 h2
    have key : ∀ j', ts[j']? = some t → hs[j']? = some p → OwnTab W base t p := fun j' k1 k2 => by
      have kj := h.each j' t p k1 k2
      have hn : ∀ u, (u = p.1 ∨ u = p.2) → u.ownBlock = none ∨ u.ownBlock ≠ vt.ownBlock := by
        intro u hu
        cases e : u.ownBlock with
        | none => exact .inl rfl
        | some g =>
          right
          intro e2
          have := blks_vt h.apart e2.symm (List.mem_of_getElem? k2)
          rcases hu with rfl | rfl
          · exact this.1 e
          · exact this.2 e
      exact ⟨kj.ids.kept hg (hn _ (.inl rfl)), kj.rows.kept hg (hn _ (.inr rfl))⟩
    rw [List.getElem?_eraseIdx] at h1 h2
    split at h1
    · rw [if_pos (by assumption)] at h2; exact key j h1 h2
    · rw [if_neg (by assumption)] at h2; exact key (j + 1) h1 h2
  · have hb := h.apart
    have hsub : (blks vt' (hs.eraseIdx i)).Sublist (blks vt hs) := by
      have e : ∀ (l : List Value) (v v' : Value), v'.ownBlock = v.ownBlock → (v' :: l).filterMap Value.ownBlock = (v :: l).filterMap Value.ownBlock := fun l v v' e => by rw [List.filterMap_cons, List.filterMap_cons, e]
      unfold blks
      rw [e _ _ _ hv]
      refine List.Sublist.filterMap _ (List.Sublist.cons_cons _ ?_)
      rw [List.flatMap_def, List.flatMap_def]
      have hs1 : (hs.eraseIdx i).Sublist hs := List.eraseIdx_sublist hs i
      generalize hs.eraseIdx i = ks at hs1
      clear hrow h hb hl
      induction hs1 with
      | slnil => exact List.Sublist.refl _
      | cons a _ ih => simp only [List.map_cons, List.flatten_cons]; exact ih.trans (List.sublist_append_right _ _)
      | cons_cons a _ ih => simp only [List.map_cons, List.flatten_cons]; exact List.Sublist.append (List.Sublist.refl _) ih
    exact hb.sublist hsub
/-- the last of a table's things put at place k -/
theorem cut_swap {w W : World} {base gi gr n ci cr k : Nat} {ids : List Int} {rows : List M.Row} {a : Int} {r : M.Row} (h1 : w.ownsRow base 3 1 (.slice (some ⟨gi, 0, none⟩) n ci) n (ids.map (.int .i64)))
    (h2 : w.ownsRow base 27 8 (.slice (some ⟨gr, 0, none⟩) n cr) n (rows.flatMap rowL)) (hne : gi ≠ gr) (hk : k < rows.length)
    (hW : (((((((((w.setCell ⟨gi, k, none⟩ (.int .i64 a)).setCell ⟨gr, k * 8, none⟩ (.int .i64 r.X)).setCell ⟨gr, k * 8 + 1, none⟩ (.int .i64 r.Y)).setCell ⟨gr, k * 8 + 2, none⟩ (.int .i64 r.PX)).setCell ⟨gr, k * 8 + 3, none⟩ (.int .i64 r.PY)).setCell ⟨gr, k * 8 + 4, none⟩ (.int .i64 r.W)).setCell ⟨gr, k * 8 + 5, none⟩ (.int .i64 r.H)).setCell ⟨gr, k * 8 + 6, none⟩ (.int .i64 r.M)).setCell ⟨gr, k * 8 + 7, none⟩ (.int .i64 r.R)).drew = W) :
    W.ownsRow base 3 1 (.slice (some ⟨gi, 0, none⟩) n ci) n ((ids.set k a).map (.int .i64)) ∧ W.ownsRow base 27 8 (.slice (some ⟨gr, 0, none⟩) n cr) n ((rows.set k r).flatMap rowL) ∧
    (∀ g, g ≠ gi → g ≠ gr → W.heap[g]? = w.heap[g]?) ∧ W.os = w.os ∧ W.tape = w.tape ∧ W.output = w.output ∧ W.heap.size = w.heap.size := by
  subst hW
  have far : ∀ (U : World) (b j : Nat) (u : Value) (g : Nat), g ≠ b → (U.setCell ⟨b, j, none⟩ u).heap[g]? = U.heap[g]? := fun U b j u g hg => Below.heap_setCell _ _ _ _ hg
  have d : ∀ (U : World), U.drew.heap = U.heap ∧ U.drew.os = U.os ∧ U.drew.tape = U.tape ∧ U.drew.output = U.output := fun _ => ⟨rfl, rfl, rfl, rfl⟩
  have o : ∀ (U : World) (p : Addr) (u : Value), (U.setCell p u).os = U.os ∧ (U.setCell p u).tape = U.tape ∧ (U.setCell p u).output = U.output ∧ (U.setCell p u).heap.size = U.heap.size := fun _ _ _ => ⟨rfl, rfl, rfl, by simp [World.setCell]⟩
  have o1 := fun U p u => (o U p u).1
  have o2 := fun U p u => (o U p u).2.1
  have o3 := fun U p u => (o U p u).2.2.1
  have o4 := fun U p u => (o U p u).2.2.2
  refine ⟨?_, ?_, ?_, by rw [(d _).2.1]; simp only [o1], by rw [(d _).2.2.1]; simp only [o2], by rw [(d _).2.2.2]; simp only [o3], by rw [(d _).1]; simp only [o4]⟩
  · rw [List.map_set]
    refine World.ownsRow.drew ?_
    refine own_same (own_put h1 k (.int .i64 a)) (fun g hg => ?_)
    have e : g = gi := by simpa [Value.ownBlock] using hg.symm
    subst e
    rw [far _ _ _ _ _ hne, far _ _ _ _ _ hne, far _ _ _ _ _ hne, far _ _ _ _ _ hne, far _ _ _ _ _ hne, far _ _ _ _ _ hne, far _ _ _ _ _ hne, far _ _ _ _ _ hne]
  · rw [← rowsL_set _ _ _ hk]
    refine World.ownsRow.drew ?_
    have h3 : (w.setCell ⟨gi, k, none⟩ (.int .i64 a)).ownsRow base 27 8 (.slice (some ⟨gr, 0, none⟩) n cr) n (rows.flatMap rowL) := own_same h2 (fun g hg => by
      have e : g = gr := by simpa [Value.ownBlock] using hg.symm
      subst e
      exact far _ _ _ _ _ hne.symm)
    exact own_put (own_put (own_put (own_put (own_put (own_put (own_put (own_put h3 _ _) _ _) _ _) _ _) _ _) _ _) _ _) _ _
  · intro g n1 n2
    rw [(d _).1]
    rw [far _ _ _ _ _ n2, far _ _ _ _ _ n2, far _ _ _ _ _ n2, far _ _ _ _ _ n2, far _ _ _ _ _ n2, far _ _ _ _ _ n2, far _ _ _ _ _ n2, far _ _ _ _ _ n2, far _ _ _ _ _ n1]
end Go.Proofs.Ytkpecagkpjabdaa
