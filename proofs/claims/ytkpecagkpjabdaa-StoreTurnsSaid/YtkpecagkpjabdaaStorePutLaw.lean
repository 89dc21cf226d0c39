/- Words for store.put and store.cut: what is left untouched while an own store is turned; two appends in whatever order. No condition. -/
import Derived.Test.YtkpecagkpjabdaaStoreOwned
import Derived.Test.YtkpecagkpjabdaaStoreSearch
import Derived.Test.YtkpecagkpjabdaaStoreInsert
import Derived.Test.YtkpecagkpjabdaaStoreDelete
import Derived.Test.YtkpecagkpjabdaaRowCells
namespace Go.Proofs.Ytkpecagkpjabdaa
open Go.RowKit
set_option linter.unusedVariables false
set_option linter.unusedSimpArgs false
set_option maxRecDepth 100000

/-- all below 'base' is as it was, but for block sb -/
structure But (base sb : Nat) (w w' : World) : Prop where
  os : w'.os = w.os
  tape : w'.tape = w.tape
  output : w'.output = w.output
  size : w.heap.size ≤ w'.heap.size
  block : ∀ g, g < base → g ≠ sb → w'.heap[g]? = w.heap[g]?
theorem But.refl (base sb : Nat) (w : World) : But base sb w w := ⟨rfl, rfl, rfl, Nat.le_refl _, fun _ _ _ => rfl⟩
theorem But.trans {base sb : Nat} {a b c : World} (h : But base sb a b) (k : But base sb b c) : But base sb a c :=
  ⟨k.os.trans h.os, k.tape.trans h.tape, k.output.trans h.output, Nat.le_trans h.size k.size, fun g h1 h2 => (k.block g h1 h2).trans (h.block g h1 h2)⟩
theorem But.of_below {base sb B : Nat} {a b : World} (h : Below B a b) (hB : base ≤ B) : But base sb a b := ⟨h.os, h.tape, h.output, h.size, fun g h1 _ => h.block g (by omega)⟩
theorem But.below {base sb B : Nat} {a b : World} (h : But base sb a b) (h1 : B ≤ base) (h2 : B ≤ sb) : Below B a b := ⟨h.os, h.tape, h.output, h.size, fun g hg => h.block g (by omega) (by omega)⟩
theorem But.alloc {base sb : Nat} {a w : World} (h : But base sb a w) (hB : base ≤ w.heap.size) (o : Obj) : But base sb a (w.alloc o) := h.trans (But.of_below ((Below.refl _ w).alloc (Nat.le_refl _) o) hB)
theorem But.drew {base sb : Nat} {a w : World} (h : But base sb a w) : But base sb a w.drew := ⟨h.os, h.tape, h.output, h.size, h.block⟩
theorem But.setCell {base sb : Nat} {a w : World} (h : But base sb a w) {p : Addr} (hp : base ≤ p.block ∨ p.block = sb) (u : Value) : But base sb a (w.setCell p u) :=
  h.trans ⟨rfl, rfl, rfl, by simp [World.setCell], fun g h1 h2 => Below.heap_setCell _ _ _ _ (by omega)⟩
theorem But.grown {base sb : Nat} {a w w' : World} {row : Option Nat} (h : But base sb a w) (hg : w.grownBy w' row) (hB : base ≤ w.heap.size) (hr : ∀ g, row = some g → base ≤ g) : But base sb a w' :=
  h.trans ⟨hg.os, hg.tape, hg.output, hg.size, fun g h1 h2 => hg.block g (by omega) (fun e => by have := hr g e.symm; omega)⟩

/-- an own store's tables lie there -/
theorem OwnTabs.tabs {w : World} {base : Nat} {vt : Value} {ts : List M.Table} {hs : List (Value × Value)} (h : OwnTabs w base vt ts hs) : TabsAtH w base vt ts hs :=
  ⟨h.len, Lies.of_owns h.row, fun i t p h1 h2 => ⟨Lies.of_owns (h.each i t p h1 h2).ids, Lies.of_owns (h.each i t p h1 h2).rows⟩⟩
theorem OwnTabs.one {w : World} {base : Nat} {vt : Value} {ts : List M.Table} {hs : List (Value × Value)} (h : OwnTabs w base vt ts hs) : ∀ u ∈ tabL ts hs, u.oneCell' = true := tabL_one h.tabs.one
/-- each block of an own store is one of the call's own -/
theorem OwnTabs.blk {w : World} {base : Nat} {vt : Value} {ts : List M.Table} {hs : List (Value × Value)} (h : OwnTabs w base vt ts hs) {g : Nat} (hg : g ∈ blks vt hs) : base ≤ g ∧ g < w.heap.size := by
  rcases mem_blks hg with e | ⟨p, hp, e⟩
  · exact h.row.lt g e
  · obtain ⟨i, hi, rfl⟩ := List.getElem_of_mem hp
    have hit : i < ts.length := by rw [← h.len]; exact hi
    have hk := h.each i ts[i] hs[i] (List.getElem?_eq_getElem hit) (List.getElem?_eq_getElem hi)
    rcases e with e | e
    · exact hk.ids.lt g e
    · exact hk.rows.lt g e
/-- where a block of an own store is met twice, it is the same place -/
theorem blks_vt {vt : Value} {hs : List (Value × Value)} (h : (blks vt hs).Nodup) {g : Nat} (hg : vt.ownBlock = some g) {p : Value × Value} (hp : p ∈ hs) : p.1.ownBlock ≠ some g ∧ p.2.ownBlock ≠ some g := by
  unfold blks at h
  rw [List.filterMap_cons, hg] at h
  simp only [List.nodup_cons] at h
  exact ⟨fun e => h.1 (List.mem_filterMap.2 ⟨p.1, List.mem_flatMap.2 ⟨p, hp, by simp⟩, e⟩), fun e => h.1 (List.mem_filterMap.2 ⟨p.2, List.mem_flatMap.2 ⟨p, hp, by simp⟩, e⟩)⟩
theorem blks_rest {vt : Value} {hs : List (Value × Value)} (h : (blks vt hs).Nodup) : ((hs.flatMap fun h => [h.1, h.2]).filterMap Value.ownBlock).Nodup := by
  unfold blks at h
  rw [List.filterMap_cons] at h
  cases e : vt.ownBlock <;> rw [e] at h
  · exact h
  · exact (List.nodup_cons.1 h).2
theorem blks_pair {vt : Value} {hs : List (Value × Value)} (h : (blks vt hs).Nodup) {i : Nat} {p : Value × Value} (hp : hs[i]? = some p) {g : Nat} (hg : p.1.ownBlock = some g) : p.2.ownBlock ≠ some g := by
  intro e
  have h2 := blks_rest h
  have hs2 := M.split_at hp
  rw [hs2, List.flatMap_append, List.flatMap_cons, List.filterMap_append, List.filterMap_append, List.nodup_append] at h2
  have h3 := (List.nodup_append.1 h2.2.1).1
  simp [List.filterMap_cons, hg, e] at h3
theorem blks_two {vt : Value} {hs : List (Value × Value)} (h : (blks vt hs).Nodup) {i j : Nat} (hij : i ≠ j) {p q : Value × Value} (hp : hs[i]? = some p) (hq : hs[j]? = some q) {u v : Value} (hu : u = p.1 ∨ u = p.2) (hv : v = q.1 ∨ v = q.2) {g : Nat} (hg : u.ownBlock = some g) : v.ownBlock ≠ some g := by
  have key : ∀ (i j : Nat) (p q : Value × Value) (u v : Value), i < j → hs[i]? = some p → hs[j]? = some q → (u = p.1 ∨ u = p.2) → (v = q.1 ∨ v = q.2) → u.ownBlock = some g → v.ownBlock ≠ some g := by
    intro i j p q u v hlt hp hq hu hv hg e
    have h2 := blks_rest h
    have hs2 := M.split_at hp
    rw [hs2, List.flatMap_append, List.filterMap_append, List.nodup_append] at h2
    have h3 := h2.2.1
    rw [List.flatMap_cons, List.filterMap_append, List.nodup_append] at h3
    have m1 : g ∈ [p.1, p.2].filterMap Value.ownBlock := List.mem_filterMap.2 ⟨u, by rcases hu with rfl | rfl <;> simp, hg⟩
    have hqm : q ∈ hs.drop (i + 1) := by
      have : (hs.drop (i + 1))[j - (i + 1)]? = some q := by rw [List.getElem?_drop]; rw [show i + 1 + (j - (i + 1)) = j by omega]; exact hq
      exact List.mem_of_getElem? this
    have m2 : g ∈ ((hs.drop (i + 1)).flatMap fun h => [h.1, h.2]).filterMap Value.ownBlock := List.mem_filterMap.2 ⟨v, List.mem_flatMap.2 ⟨q, hqm, by rcases hv with rfl | rfl <;> simp⟩, e⟩
    exact h3.2.2 g m1 g m2 rfl
  rcases Nat.lt_or_gt_of_ne hij with hlt | hgt
  · exact key i j p q u v hlt hp hq hu hv hg
  · intro e
    exact key j i q p v u hgt hq hp hv hu e hg

/-! one table's two slices are appended to, in whatever order -/
/-- how far the two appends have come: W0 is the world ahead of them, h the table's slices -/
structure PutAt (base : Nat) (W0 : World) (h : Value × Value) (zs : List Int) (rs : List M.Row) (a b : Option Value) (W : World) : Prop where
  os : W.os = W0.os
  tape : W.tape = W0.tape
  output : W.output = W0.output
  size : W0.heap.size ≤ W.heap.size
  block : ∀ g, g < W0.heap.size → (a ≠ none → h.1.ownBlock ≠ some g) → (b ≠ none → h.2.ownBlock ≠ some g) → W.heap[g]? = W0.heap[g]?
  ids : ∀ v, a = some v → W.ownsRow base 3 1 v zs.length (zs.map (Value.int .i64)) ∧ (v.ownBlock = h.1.ownBlock ∨ ∃ nb, v.ownBlock = some nb ∧ W0.heap.size ≤ nb)
  rows : ∀ v, b = some v → W.ownsRow base 27 8 v rs.length (rs.flatMap rowL) ∧ (v.ownBlock = h.2.ownBlock ∨ ∃ nb, v.ownBlock = some nb ∧ W0.heap.size ≤ nb)
section
variable {base : Nat} {W0 : World} {h : Value × Value} {zs : List Int} {rs : List M.Row} {a b : Option Value} {W : World}
theorem PutAt.start (base : Nat) (W0 : World) (h : Value × Value) (zs : List Int) (rs : List M.Row) : PutAt base W0 h zs rs none none W0 :=
  ⟨rfl, rfl, rfl, Nat.le_refl _, fun _ _ _ _ => rfl, fun v e => by simp at e, fun v e => by simp at e⟩
theorem PutAt.step {W' : World} (k : PutAt base W0 h zs rs a b W) (hb : Below W.heap.size W W') : PutAt base W0 h zs rs a b W' :=
  ⟨hb.os.trans k.os, hb.tape.trans k.tape, hb.output.trans k.output, Nat.le_trans k.size hb.size, fun g h1 h2 h3 => (hb.block g (by have := k.size; omega)).trans (k.block g h1 h2 h3),
    fun v e => ⟨own_below (k.ids v e).1 hb, (k.ids v e).2⟩, fun v e => ⟨own_below (k.rows v e).1 hb, (k.rows v e).2⟩⟩
theorem PutAt.stepA {W' : World} {v : Value} (k : PutAt base W0 h zs rs none b W) (hold : ∀ g, h.1.ownBlock = some g → g < W0.heap.size) (hne : ∀ g, h.1.ownBlock = some g → h.2.ownBlock ≠ some g)
    (hown : W'.ownsRow base 3 1 v zs.length (zs.map (Value.int .i64))) (hg : W.grownBy W' h.1.ownBlock) (hloc : v.ownBlock = h.1.ownBlock ∨ v.ownBlock = some W.heap.size) : PutAt base W0 h zs rs (some v) b W' := by
  refine ⟨hg.os.trans k.os, hg.tape.trans k.tape, hg.output.trans k.output, Nat.le_trans k.size hg.size, ?_, ?_, ?_⟩
  · intro g h1 h2 h3
    rw [hg.block g (by have := k.size; omega) (fun e => h2 (by simp) e.symm)]
    exact k.block g h1 (by simp) h3
  · intro u e
    simp only [Option.some.injEq] at e
    subst e
    exact ⟨hown, hloc.imp id (fun e => ⟨_, e, k.size⟩)⟩
  · intro u e
    obtain ⟨k1, k2⟩ := k.rows u e
    refine ⟨k1.kept hg ?_, k2⟩
    by_cases hu : u.ownBlock = none
    · exact .inl hu
    · right
      intro e2
      rcases k2 with k2 | ⟨nb, k2, k3⟩
      · obtain ⟨g, hgb⟩ := Option.ne_none_iff_exists'.1 hu
        exact hne g (e2 ▸ hgb) (k2 ▸ hgb)
      · have := hold nb (by rw [← e2]; exact k2)
        omega
theorem PutAt.stepB {W' : World} {v : Value} (k : PutAt base W0 h zs rs a none W) (hold : ∀ g, h.2.ownBlock = some g → g < W0.heap.size) (hne : ∀ g, h.1.ownBlock = some g → h.2.ownBlock ≠ some g)
    (hown : W'.ownsRow base 27 8 v rs.length (rs.flatMap rowL)) (hg : W.grownBy W' h.2.ownBlock) (hloc : v.ownBlock = h.2.ownBlock ∨ v.ownBlock = some W.heap.size) : PutAt base W0 h zs rs a (some v) W' := by
  refine ⟨hg.os.trans k.os, hg.tape.trans k.tape, hg.output.trans k.output, Nat.le_trans k.size hg.size, ?_, ?_, ?_⟩
  · intro g h1 h2 h3
    rw [hg.block g (by have := k.size; omega) (fun e => h3 (by simp) e.symm)]
    exact k.block g h1 h2 (by simp)
  · intro u e
    obtain ⟨k1, k2⟩ := k.ids u e
    refine ⟨k1.kept hg ?_, k2⟩
    by_cases hu : u.ownBlock = none
    · exact .inl hu
    · right
      intro e2
      rcases k2 with k2 | ⟨nb, k2, k3⟩
      · obtain ⟨g, hgb⟩ := Option.ne_none_iff_exists'.1 hu
        exact hne g (k2 ▸ hgb) (e2 ▸ hgb)
      · have := hold nb (by rw [← e2]; exact k2)
        omega
  · intro u e
    simp only [Option.some.injEq] at e
    subst e
    exact ⟨hown, hloc.imp id (fun e => ⟨_, e, k.size⟩)⟩
end
/-- append as one step of a region that draws its order, onto a slice of the call's own -/
theorem step_append_own_atK {P : Program} {ops : Array Oper} {o : Oper} {a : Act} {w : World} {K : Act → World → Prop} {Q : Exit → Act → World → Prop} {E : Prop}
    (hgd : o.guard = none) (s x : Operand) (t : TypeId) (hop : o.op = Op.call { callee := Callee.builtin Builtin.append, args := #[s, x], argTypes := #[t, t] })
    (base : Nat) (e : TypeId) (i : TypeInfo) (z : Value) (size bytes : Nat) (ht : P.underlying t = some (.slice e)) (hi : P.info? e = some i) (hz : i.zero = some z)
    (hsize : i.size = size) (hby : i.bytes = bytes) (hzs : z.cells.size = size) (hsz : 0 < size) (v : Value) (n : Nat) (xs : List Value) (hs : a.eval s = v) (hown : w.ownsRow base e size v n xs)
    (ad : Addr) (m c : Nat) (news : List Value) (hx : a.eval x = .slice (some ad) m c) (hl : news.length = m * size) (hnews : ∀ j u, news[j]? = some u → w.cell? (ad.add j) = some u) (h1 : ∀ u ∈ news, u.oneCell' = true)
    (h63 : n + m ≤ maxLen) (hbytes : (n + m) * bytes ≤ 140737488355328) (hbase : base ≤ w.heap.size)
    (hK : ∀ v' w', w'.ownsRow base e size v' (n + m) (xs ++ news) → w.grownBy w' v.ownBlock → (v'.ownBlock = v.ownBlock ∨ v'.ownBlock = some w.heap.size) → K (a.put o.dst v') w') :
    if Region.wanted o (yielded ops a.tmps) = true then Oper.wp P o a w K Q else E := by
  have hw : Region.wanted o (yielded ops a.tmps) = true := by simp [Region.wanted, hgd]
  rw [if_pos hw]
  obtain ⟨v', w', hr, k1, k2, _, k3⟩ := run_append_own_at (P := P) w base t o.type e i z size bytes ht hi hz hsize hby hzs hsz v n xs hown ad m c news hl hnews h1 h63 hbytes hbase
  unfold Oper.wp
  simp [execOp, hop, resolve, invoke, builtin, hs, hx, hr, Result.andThen]
  exact hK v' w' k1 k2 k3
/-- append as one step of a region that draws its order, onto a slice of the call's own -/
theorem step_append_own_atK2 {P : Program} {ops : Array Oper} {o : Oper} {a : Act} {w : World} {K : Act → World → Prop} {Q : Exit → Act → World → Prop} {E : Prop}
    (hgd : o.guard = none) (s x : Operand) (t : TypeId) (hop : o.op = Op.call { callee := Callee.builtin Builtin.append, args := #[s, x], argTypes := #[t, t] })
    (base : Nat) (e : TypeId) (i : TypeInfo) (z : Value) (size bytes : Nat) (ht : P.underlying t = some (.slice e)) (hi : P.info? e = some i) (hz : i.zero = some z)
    (hsize : i.size = size) (hby : i.bytes = bytes) (hzs : z.cells.size = size) (hsz : 0 < size) (v : Value) (n : Nat) (xs : List Value) (hown : w.ownsRow base e size v n xs) (hs : a.eval s = v)
    (ad : Addr) (m c : Nat) (news : List Value) (hx : a.eval x = .slice (some ad) m c) (hl : news.length = m * size) (hnews : ∀ j u, news[j]? = some u → w.cell? (ad.add j) = some u) (h1 : ∀ u ∈ news, u.oneCell' = true)
    (h63 : n + m ≤ maxLen) (hbytes : (n + m) * bytes ≤ 140737488355328) (hbase : base ≤ w.heap.size)
    (hK : ∀ v' w', w'.ownsRow base e size v' (n + m) (xs ++ news) → w.grownBy w' v.ownBlock → (v'.ownBlock = v.ownBlock ∨ v'.ownBlock = some w.heap.size) → K (a.put o.dst v') w') :
    if Region.wanted o (yielded ops a.tmps) = true then Oper.wp P o a w K Q else E := by
  have hw : Region.wanted o (yielded ops a.tmps) = true := by simp [Region.wanted, hgd]
  rw [if_pos hw]
  obtain ⟨v', w', hr, k1, k2, _, k3⟩ := run_append_own_at (P := P) w base t o.type e i z size bytes ht hi hz hsize hby hzs hsz v n xs hown ad m c news hl hnews h1 h63 hbytes hbase
  unfold Oper.wp
  simp [execOp, hop, resolve, invoke, builtin, hs, hx, hr, Result.andThen]
  exact hK v' w' k1 k2 k3
theorem Blk.grown {w w' : World} {g : Nat} {t : TypeId} {cs : Array Value} {row : Option Nat} (h : Blk w g t cs) (hg : w.grownBy w' row) (hne : row ≠ some g) : Blk w' g t cs := (hg.block g h.lt (fun e => hne e.symm)).trans h
theorem blk_cells {w : World} {g : Nat} {t : TypeId} {cs : List Value} (h : Blk w g t cs.toArray) : ∀ j u, cs[j]? = some u → w.cell? ((⟨g, 0, none⟩ : Addr).add j) = some u := by
  intro j u hj
  rw [Addr.add_lit, Nat.zero_add, h.cell j]
  simpa using hj
theorem blk_row {w : World} {g : Nat} {t : TypeId} {r : M.Row} (h : Blk w g t (rowC r)) : ∀ j u, (rowL r)[j]? = some u → w.cell? ((⟨g, 0, none⟩ : Addr).add j) = some u := by
  have e : rowC r = (rowL r).toArray := rfl
  rw [e] at h
  exact blk_cells h
theorem blk_one {w : World} {g : Nat} {t : TypeId} {u : Value} (h : Blk w g t #[u]) : ∀ j x, [u][j]? = some x → w.cell? ((⟨g, 0, none⟩ : Addr).add j) = some x := blk_cells (cs := [u]) h
theorem one_int (z : Int) : ∀ u ∈ [Value.int .i64 z], u.oneCell' = true := by
  intro u hu
  simp only [List.mem_singleton] at hu
  subst hu; rfl
theorem one_row (r : M.Row) : ∀ u ∈ rowL r, u.oneCell' = true := by
  intro u hu
  simp only [rowL, List.mem_cons, List.not_mem_nil, or_false] at hu
  rcases hu with rfl | rfl | rfl | rfl | rfl | rfl | rfl | rfl <;> rfl
section
variable {base : Nat} {W0 W : World} {h : Value × Value} {zs : List Int} {rs : List M.Row} {a b : Option Value}
theorem PutAt.oldA {n : Nat} {xs : List Value} (k : PutAt base W0 h zs rs none b W) (hown : W0.ownsRow base 3 1 h.1 n xs) (hne : ∀ g, h.1.ownBlock = some g → h.2.ownBlock ≠ some g) : W.ownsRow base 3 1 h.1 n xs :=
  own_same hown (fun g hg => k.block g (hown.lt g hg).2 (fun e => absurd rfl e) (fun _ => hne g hg))
theorem PutAt.oldB {n : Nat} {xs : List Value} (k : PutAt base W0 h zs rs a none W) (hown : W0.ownsRow base 27 8 h.2 n xs) (hne : ∀ g, h.1.ownBlock = some g → h.2.ownBlock ≠ some g) : W.ownsRow base 27 8 h.2 n xs :=
  own_same hown (fun g hg => k.block g (hown.lt g hg).2 (fun _ e => hne g e hg) (fun e => absurd rfl e))
end
/-- both appends done, and both slices stored -/
theorem put_done {base sb g0 cap0 i : Nat} {wc W W' : World} {ts : List M.Table} {hs : List (Value × Value)} {p : Value × Value} {t t' : M.Table} {v5 v6 : Value} (hown : OwnTabs wc base (.slice (some ⟨g0, 0, none⟩) ts.length cap0) ts hs)
    (hat : ts[i]? = some t) (hp : hs[i]? = some p) (S : PutAt base wc p t'.ids t'.rows (some v5) (some v6) W) (hmask : t'.mask = t.mask)
    (hos : W'.os = W.os) (htp : W'.tape = W.tape) (hou : W'.output = W.output) (hsz : W'.heap.size = W.heap.size) (hblk : ∀ g, g ≠ g0 → W'.heap[g]? = W.heap[g]?)
    (hrow : W.ownsRow base 82 3 (.slice (some ⟨g0, 0, none⟩) ts.length cap0) ts.length (tabL ts hs) → W'.ownsRow base 82 3 (.slice (some ⟨g0, 0, none⟩) ts.length cap0) ts.length (tabL ts (hs.set i (v5, v6)))) :
    TabsAtH W' base (.slice (some ⟨g0, 0, none⟩) ts.length cap0) (ts.set i t') (hs.set i (v5, v6)) ∧ But base sb wc W' := by
  have hlt := (List.getElem?_eq_some_iff.1 hat).1
  have hl := hown.len
  have hmem : p ∈ hs := List.mem_of_getElem? hp
  have hv := blks_vt hown.apart (g := g0) rfl hmem
  have k := hown.each i t p hat hp
  have hrow0 : W.ownsRow base 82 3 (.slice (some ⟨g0, 0, none⟩) ts.length cap0) ts.length (tabL ts hs) :=
    own_same hown.row (fun g hg => by
      have e : g = g0 := by simpa [Value.ownBlock] using hg.symm
      subst e
      exact S.block g (hown.row.lt g hg).2 (fun _ => hv.1) (fun _ => hv.2))
  have hfar : ∀ (v : Value), (∃ nb, v.ownBlock = some nb ∧ wc.heap.size ≤ nb) → ∀ g, v.ownBlock = some g → g ≠ g0 := by
    rintro v ⟨nb, e1, e2⟩ g hg rfl
    rw [e1] at hg
    simp only [Option.some.injEq] at hg
    have := (hown.row.lt g rfl).2
    omega
  refine ⟨⟨by simp [hl], ?_, ?_⟩, ?_⟩
  · have e : tabL (ts.set i t') (hs.set i (v5, v6)) = tabL ts (hs.set i (v5, v6)) := by
      clear hrow hrow0 hfar hv hmem k S hown hblk
      induction ts generalizing hs i with
      | nil => rfl
      | cons a ts ih =>
        match hs, hl, i with
        | q :: hs, hl, 0 =>
          simp only [List.getElem?_cons_zero, Option.some.injEq] at hat
          subst hat
          simp [tabL_cons, hmask]
        | q :: hs, hl, i + 1 =>
          simp only [List.set_cons_succ, tabL_cons]
          rw [ih (by simpa using hat) (by simpa using hp) (by simpa using hlt) (by simpa using hl)]
    rw [e]
    have := Lies.of_owns (hrow hrow0)
    simpa using this
  · intro j u q h1 h2
    by_cases hj : j = i
    · subst hj
      rw [List.getElem?_set_self (by omega)] at h1 h2
      simp only [Option.some.injEq] at h1 h2
      subst h1; subst h2
      obtain ⟨k1, k2⟩ := S.ids v5 rfl
      obtain ⟨k3, k4⟩ := S.rows v6 rfl
      refine ⟨Lies.of_owns (own_same k1 (fun g hg => hblk g ?_)), Lies.of_owns (own_same k3 (fun g hg => hblk g ?_))⟩
      · rcases k2 with k2 | k2
        · intro e; subst e; exact hv.1 (by rw [← k2]; exact hg)
        · exact hfar v5 k2 g hg
      · rcases k4 with k4 | k4
        · intro e; subst e; exact hv.2 (by rw [← k4]; exact hg)
        · exact hfar v6 k4 g hg
    · rw [List.getElem?_set_ne (fun e => hj e.symm)] at h1 h2
      have kj := hown.each j u q h1 h2
      have hvq := blks_vt hown.apart (g := g0) rfl (List.mem_of_getElem? h2)
      have same : ∀ (x : Value), (x = q.1 ∨ x = q.2) → ∀ g, x.ownBlock = some g → g < wc.heap.size → W'.heap[g]? = wc.heap[g]? := by
        intro x hx g hg hgl
        have n0 : g ≠ g0 := by
          intro e; subst e
          rcases hx with rfl | rfl
          · exact hvq.1 hg
          · exact hvq.2 hg
        rw [hblk g n0]
        exact S.block g hgl (fun _ => blks_two hown.apart hj h2 hp hx (.inl rfl) hg) (fun _ => blks_two hown.apart hj h2 hp hx (.inr rfl) hg)
      exact ⟨Lies.of_owns (own_same kj.ids (fun g hg => same _ (.inl rfl) g hg (kj.ids.lt g hg).2)), Lies.of_owns (own_same kj.rows (fun g hg => same _ (.inr rfl) g hg (kj.rows.lt g hg).2))⟩
  · refine ⟨hos.trans S.os, htp.trans S.tape, hou.trans S.output, by rw [hsz]; exact S.size, fun g h1 h2 => ?_⟩
    have hgl : g < wc.heap.size := by have := (hown.row.lt g0 rfl); omega
    rw [hblk g (by have := (hown.row.lt g0 rfl).1; omega)]
    exact S.block g hgl (fun _ e => by have := (k.ids.lt g e).1; omega) (fun _ e => by have := (k.rows.lt g e).1; omega)
end Go.Proofs.Ytkpecagkpjabdaa
