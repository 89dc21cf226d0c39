/- Several small texts in one. No condition of its own: each part says its own. -/
import Derived.Test.YtkpecagkpjabdabGreatBagS
import Derived.Deep.AppendSrc
/- append of a whole row (nil too) onto a row of the call's own. No condition. -/
namespace Go.Proofs.YtkpecagkpjabdabGreat
open Go.RowKit
set_option linter.unusedVariables false
set_option linter.unusedSimpArgs false
set_option maxRecDepth 100000
theorem run_append_none {P : Program} (w : World) (base : Nat) (t ty e : TypeId) (i : TypeInfo) (size : Nat) (ht : P.underlying t = some (.slice e)) (hi : P.info? e = some i) (hsize : i.size = size)
    (v : Value) (n : Nat) (xs : List Value) (hown : w.ownsRow base e size v n xs) (c : Nat) : (Builtin.append_ #[t, t] ty #[v, .slice none 0 c]).run P w = .ok v w := by
  rcases hown.2 with ⟨rfl, rfl⟩ | ⟨g, cap, cur, rfl, _, _, hn, _⟩
  · have hs := Src.ofNil (size := i.size) (w := w) ht c
    simp [Builtin.append_, run_underlying ht, sizeOf, typeInfo, hi, hs.len, hs.cells]
  · have k := run_append_room_src (P := P) w t t ty e i ht hi g 0 n cap (.slice none 0 c) 0 [] (Src.ofNil (size := i.size) (w := w) ht c) hn (by simp) (by simp)
    simpa [World.setCells] using k
end Go.Proofs.YtkpecagkpjabdabGreat
/- A table more at the end of a store of one's own. No condition. -/
namespace Go.Proofs.YtkpecagkpjabdabGreat
open Go.RowKit
set_option linter.unusedVariables false
set_option linter.unusedSimpArgs false
set_option maxRecDepth 100000
theorem tabL_snoc (ts : List M.Table) (hs : List (Value × Value)) (hl : hs.length = ts.length) (t : M.Table) (p : Value × Value) : tabL (ts ++ [t]) (hs ++ [p]) = tabL ts hs ++ [.int .i64 t.mask, p.1, p.2] := by
  unfold tabL
  rw [List.zip_append hl.symm, List.flatMap_append]
  rfl
theorem OwnTabs.nil (w : World) (base : Nat) : OwnTabs w base (.slice none 0 0) [] [] :=
  ⟨rfl, World.ownsRow_nil _ _ _ _, fun i t h h1 _ => by simp at h1, (List.nodup_nil : ([] : List Nat).Nodup)⟩
theorem OwnTabs.snoc {w W : World} {base : Nat} {vt vt' v1 v2 : Value} {ts : List M.Table} {hs : List (Value × Value)} {t : M.Table} (h : OwnTabs w base vt ts hs)
    (hrow : W.ownsRow base 74 3 vt' (ts.length + 1) (tabL ts hs ++ [.int .i64 t.mask, v1, v2])) (hsame : ∀ g, base ≤ g → g < w.heap.size → vt.ownBlock ≠ some g → W.heap[g]? = w.heap[g]?)
    (k1 : W.ownsRow base 3 1 v1 t.ids.length (t.ids.map (Value.int .i64))) (k2 : W.ownsRow base 27 8 v2 t.rows.length (t.rows.flatMap rowL))
    (n1 : ∀ g, v1.ownBlock = some g → w.heap.size ≤ g) (n2 : ∀ g, v2.ownBlock = some g → w.heap.size ≤ g) (hne : ∀ g, v1.ownBlock = some g → v2.ownBlock ≠ some g)
    (hat : vt'.ownBlock = vt.ownBlock ∨ ∃ g, vt'.ownBlock = some g ∧ w.heap.size ≤ g ∧ v1.ownBlock ≠ some g ∧ v2.ownBlock ≠ some g) : OwnTabs W base vt' (ts ++ [t]) (hs ++ [(v1, v2)]) := by
  have hl := h.len
  have hold : ∀ g ∈ blks vt hs, base ≤ g ∧ g < w.heap.size := fun g hg => h.blk hg
  have hnd := h.apart
  have hrest := blks_rest hnd
  have hmem : ∀ g, g ∈ ((hs.flatMap fun h => [h.1, h.2]).filterMap Value.ownBlock) → base ≤ g ∧ g < w.heap.size := by
    intro g hg
    refine hold g ?_
    unfold blks
    cases e : vt.ownBlock
    · rw [List.filterMap_cons, e]; exact hg
    · rw [List.filterMap_cons, e]; exact List.mem_cons_of_mem _ hg
  have hnvt : ∀ g, vt.ownBlock = some g → g ∉ ((hs.flatMap fun h => [h.1, h.2]).filterMap Value.ownBlock) := by
    intro g e hg
    unfold blks at hnd
    rw [List.filterMap_cons, e] at hnd
    exact (List.nodup_cons.1 hnd).1 hg
  have hvt' : ∀ g, vt'.ownBlock = some g → g ∉ ((hs.flatMap fun h => [h.1, h.2]).filterMap Value.ownBlock) := by
    intro g e hg
    rcases hat with k | ⟨g', e', hg', _⟩
    · exact hnvt g (k ▸ e) hg
    · rw [e'] at e
      simp only [Option.some.injEq] at e
      have := hmem g hg
      omega
  have hvt1 : ∀ g, vt'.ownBlock = some g → v1.ownBlock ≠ some g ∧ v2.ownBlock ≠ some g := by
    intro g e
    rcases hat with k | ⟨g', e', _, a, b⟩
    · rw [k] at e
      have := (h.row.lt g e).2
      exact ⟨fun e1 => by have := n1 g e1; omega, fun e1 => by have := n2 g e1; omega⟩
    · rw [e'] at e
      simp only [Option.some.injEq] at e
      subst e
      exact ⟨a, b⟩
  refine ⟨by simp [hl], ?_, ?_, ?_⟩
  · rw [List.length_append, List.length_singleton, tabL_snoc ts hs hl]
    exact hrow
  · intro i t' p h1 h2
    rcases Nat.lt_or_ge i ts.length with hi | hi
    · rw [List.getElem?_append_left hi] at h1
      rw [List.getElem?_append_left (by omega)] at h2
      have k := h.each i t' p h1 h2
      have hm := List.mem_of_getElem? h2
      have hb : ∀ v, v = p.1 ∨ v = p.2 → ∀ g, v.ownBlock = some g → vt.ownBlock ≠ some g := by
        intro v hv g hg e
        refine hnvt g e (List.mem_filterMap.2 ⟨v, List.mem_flatMap.2 ⟨p, hm, ?_⟩, hg⟩)
        rcases hv with rfl | rfl <;> simp
      exact ⟨own_same k.ids (fun g hg => hsame g (k.ids.lt g hg).1 (k.ids.lt g hg).2 (hb _ (.inl rfl) g hg)), own_same k.rows (fun g hg => hsame g (k.rows.lt g hg).1 (k.rows.lt g hg).2 (hb _ (.inr rfl) g hg))⟩
    · rw [List.getElem?_append_right hi] at h1
      rw [List.getElem?_append_right (by omega)] at h2
      have hlt := (List.getElem?_eq_some_iff.1 h1).1
      simp only [List.length_singleton] at hlt
      have e0 : i - ts.length = 0 := by omega
      have e1 : i - hs.length = 0 := by omega
      rw [e0] at h1
      rw [e1] at h2
      simp only [List.getElem?_cons_zero, Option.some.injEq] at h1 h2
      subst h1; subst h2
      exact ⟨k1, k2⟩
  · have hnew : ((hs ++ [(v1, v2)]).flatMap fun h => [h.1, h.2]).filterMap Value.ownBlock = ((hs.flatMap fun h => [h.1, h.2]).filterMap Value.ownBlock) ++ [v1, v2].filterMap Value.ownBlock := by
      rw [List.flatMap_append, List.filterMap_append]
      simp
    have hap : ((hs.flatMap fun h => [h.1, h.2]).filterMap Value.ownBlock ++ [v1, v2].filterMap Value.ownBlock).Nodup := by
      rw [List.nodup_append]
      refine ⟨hrest, ?_, ?_⟩
      · cases e1 : v1.ownBlock <;> cases e2 : v2.ownBlock <;> simp [List.filterMap_cons, e1, e2]
        rename_i a b
        intro e
        exact hne a e1 (by rw [e2, e])
      · intro a ha b hb e
        subst e
        have := hmem a ha
        obtain ⟨v, hv, e⟩ := List.mem_filterMap.1 hb
        simp only [List.mem_cons, List.not_mem_nil, or_false] at hv
        rcases hv with rfl | rfl
        · have := n1 a e; omega
        · have := n2 a e; omega
    unfold blks
    cases e : vt'.ownBlock with
    | none => rw [List.filterMap_cons, e, hnew]; exact hap
    | some g =>
      rw [List.filterMap_cons, e, hnew]
      refine List.nodup_cons.2 ⟨?_, hap⟩
      rw [List.mem_append]
      rintro (hg | hg)
      · exact hvt' g e hg
      · obtain ⟨v, hv, ev⟩ := List.mem_filterMap.1 hg
        simp only [List.mem_cons, List.not_mem_nil, or_false] at hv
        rcases hv with rfl | rfl
        · exact (hvt1 g e).1 ev
        · exact (hvt1 g e).2 ev
end Go.Proofs.YtkpecagkpjabdabGreat
