/- A map of things by number in memory: what the map's operations make of it. Condition: keys are numbers of 64 bits, elements are a mask and a row. -/
import Derived.Test.YtkpecagkpjabdaaBagP
import Derived.Maps.OwnSet
import Derived.Maps.OwnOps
import Derived.Maps.RangeWalk
import Derived.WalkKit
namespace Go.Proofs.Ytkpecagkpjabdaa
open Go.RowKit Go.Maps Go.MapKept
set_option linter.unusedVariables false
set_option linter.unusedSimpArgs false
set_option maxRecDepth 100000

/-- a thing: its mask, its row -/
abbrev M.Th := Int × M.Row
def M.th0 : M.Th := (0, ⟨0, 0, 0, 0, 0, 0, 0, 0⟩)
abbrev thV (t : M.Th) : Value := .agg #[.int .i64 t.1, .int .i64 t.2.X, .int .i64 t.2.Y, .int .i64 t.2.PX, .int .i64 t.2.PY, .int .i64 t.2.W, .int .i64 t.2.H, .int .i64 t.2.M, .int .i64 t.2.R]
/-- how a thing reads -/
def thD (t : M.Th) : DataW Unit := .agg [.lit (.int .i64 t.1), .lit (.int .i64 t.2.X), .lit (.int .i64 t.2.Y), .lit (.int .i64 t.2.PX), .lit (.int .i64 t.2.PY), .lit (.int .i64 t.2.W), .lit (.int .i64 t.2.H), .lit (.int .i64 t.2.M), .lit (.int .i64 t.2.R)]
theorem thV_inj {s t : M.Th} (h : thV s = thV t) : s = t := by
  obtain ⟨m, ⟨a, b, c, d, e, f, g, i⟩⟩ := s
  obtain ⟨m', ⟨a', b', c', d', e', f', g', i'⟩⟩ := t
  simp only [thV, Value.agg.injEq, Array.mk.injEq, List.cons.injEq, Value.int.injEq, true_and, and_true] at h
  obtain ⟨rfl, rfl, rfl, rfl, rfl, rfl, rfl, rfl, rfl⟩ := h
  rfl
theorem thD_inj {s t : M.Th} (h : thD s = thD t) : s = t := by
  obtain ⟨m, ⟨a, b, c, d, e, f, g, i⟩⟩ := s
  obtain ⟨m', ⟨a', b', c', d', e', f', g', i'⟩⟩ := t
  simp only [thD, DataW.agg.injEq, List.cons.injEq, DataW.lit.injEq, Lit.int.injEq, true_and, and_true] at h
  obtain ⟨rfl, rfl, rfl, rfl, rfl, rfl, rfl, rfl, rfl⟩ := h
  rfl
open Classical in
noncomputable def thR (v : Value) : Option (DataW Unit × List MemPlace) := if h : ∃ t, v = thV t then some (thD h.choose, []) else none
theorem thR_mk (t : M.Th) : thR (thV t) = some (thD t, []) := by
  have h : ∃ s, thV t = thV s := ⟨t, rfl⟩
  unfold thR
  rw [dif_pos h]
  have := thV_inj h.choose_spec
  rw [← this]
theorem thR_inv {v : Value} {z : DataW Unit × List MemPlace} (h : thR v = some z) : ∃ t, v = thV t ∧ z = (thD t, []) := by
  unfold thR at h
  split at h
  · rename_i hx
    simp only [Option.some.injEq] at h
    exact ⟨hx.choose, hx.choose_spec, h.symm⟩
  · cases h

/-- the datum D is the things f, c of them -/
def Says (D : DataW Unit) (f : Int → Option M.Th) (c : Nat) : Prop :=
  Maps.size D = c ∧ (∀ id, Maps.has D (.int .i64 id) = (f id).isSome) ∧ ∀ id t, f id = some t → ∀ z, D.atKey (.int .i64 id) z = thD t
/-- block b of w is a map of the things f, c of them -/
def MapAt (P : Program) (k : TypeId) (w : World) (b : Nat) (f : Int → Option M.Th) (c : Nat) : Prop :=
  ∃ D : DataW Unit, w.ownsMap P k thR b c D ∧ Says D f c
/-- things with one more, or another one in its place -/
def M.upd (f : Int → Option M.Th) (id : Int) (t : M.Th) : Int → Option M.Th := fun j => if j = id then some t else f j
def M.del (f : Int → Option M.Th) (id : Int) : Int → Option M.Th := fun j => if j = id then none else f j

theorem ownsMap_exact {P : Program} {k : TypeId} {w : World} {b n : Nat} {D : DataW Unit} (h : w.ownsMap P k thR b n D) : w.ownsMap P k thR b (Maps.size D) D := by
  obtain ⟨es, clock, hb, F, hs, hD⟩ := h
  exact ⟨es, clock, hb, F, by rw [hD]; simp [Maps.size, length_sorted], hD⟩

section
variable {P : Program} {k e t : TypeId} {w w' : World} {b c : Nat} {f : Int → Option M.Th}
theorem MapAt.lt (h : MapAt P k w b f c) : b < w.heap.size := by
  obtain ⟨D, h, _⟩ := h
  exact h.lt
theorem MapAt.block (h : MapAt P k w b f c) (hb : w'.heap[b]? = w.heap[b]?) : MapAt P k w' b f c := by
  obtain ⟨D, ⟨es, clock, h1, h2⟩, h3⟩ := h
  exact ⟨D, ⟨es, clock, hb.trans h1, h2⟩, h3⟩
theorem MapAt.below (h : MapAt P k w b f c) {B : Nat} (hb : Below B w w') (hB : b < B) : MapAt P k w' b f c := h.block (hb.block b hB)
theorem MapAt.alloc (h : MapAt P k w b f c) (o : Obj) : MapAt P k (w.alloc o) b f c := h.block (Below.heap_alloc w o b h.lt)
theorem MapAt.drew (h : MapAt P k w b f c) : MapAt P k w.drew b f c := h
theorem MapAt.far (h : MapAt P k w b f c) {p : Addr} (hp : b ≠ p.block) (u : Value) : MapAt P k (w.setCell p u) b f c := h.block (Below.heap_setCell w p u b hp)
theorem MapAt.kept {row : Option Nat} (h : MapAt P k w b f c) (hg : w.grownBy w' row) (hne : some b ≠ row) : MapAt P k w' b f c := h.block (hg.block b h.lt hne)
theorem MapAt.made (P : Program) (k : TypeId) (w : World) : MapAt P k (w.alloc (.map #[] 0)) w.heap.size (fun _ => none) 0 :=
  ⟨.map [], World.ownsMap_made w P k thR, rfl, fun id => rfl, fun id t h => by cases h⟩
theorem key_i64 (hk : P.underlying k = some (.int .i64)) {id : Int} (h : -9223372036854775808 ≤ id ∧ id ≤ 9223372036854775807) : keyOf P k (.int .i64 id) = some (.int .i64 id) :=
  keyOf_int_mk hk (by simp [Lit.wf, IntKind.min, IntKind.max, IntKind.signed, IntKind.bits]; exact h)
theorem MapAt.look (h : MapAt P k w b f c) (hk : P.underlying k = some (.int .i64)) (ht : P.underlying t = some (.map k e)) (hz : (zeroValue e).run P w = .ok (thV M.th0) w) {id : Int} (hid : -9223372036854775808 ≤ id ∧ id ≤ 9223372036854775807) :
    (Instr.lookup t (.map (some b)) (.int .i64 id) true).run P w = .ok (.tuple #[thV ((f id).getD M.th0), .bool (f id).isSome]) w := by
  obtain ⟨D, h, h1, h2, h3⟩ := h
  obtain ⟨v, ps, hr, hv⟩ := h.look_ok (int_keyed hk) ht hz (thR_mk M.th0) (key_i64 hk hid)
  obtain ⟨q, rfl, hq⟩ := thR_inv hv
  rw [hr, h2]
  simp only [Prod.mk.injEq] at hq
  cases hf : f id with
  | some x =>
    rw [h3 id x hf] at hq
    rw [thD_inj hq.1]
    rfl
  | none =>
    rw [atKey_of_not_has (by rw [h2, hf]; rfl)] at hq
    rw [← thD_inj hq.1]
    rfl
theorem MapAt.get (h : MapAt P k w b f c) (hk : P.underlying k = some (.int .i64)) (ht : P.underlying t = some (.map k e)) (hz : (zeroValue e).run P w = .ok (thV M.th0) w) {id : Int} (hid : -9223372036854775808 ≤ id ∧ id ≤ 9223372036854775807) :
    (Instr.lookup t (.map (some b)) (.int .i64 id) false).run P w = .ok (thV ((f id).getD M.th0)) w := by
  obtain ⟨D, h, h1, h2, h3⟩ := h
  obtain ⟨v, ps, hr, hv⟩ := h.lookup (int_keyed hk) ht hz (thR_mk M.th0) (key_i64 hk hid)
  obtain ⟨q, rfl, hq⟩ := thR_inv hv
  rw [hr]
  simp only [Prod.mk.injEq] at hq
  cases hf : f id with
  | some x =>
    rw [h3 id x hf] at hq
    rw [thD_inj hq.1]
    rfl
  | none =>
    rw [atKey_of_not_has (by rw [h2, hf]; rfl)] at hq
    rw [← thD_inj hq.1]
    rfl
theorem MapAt.len (h : MapAt P k w b f c) (ht : P.underlying t = some (.map k e)) (ty : TypeId) : (Builtin.len_ #[t] ty #[.map (some b)]).run P w = .ok (.int .i64 c) w := by
  obtain ⟨D, h, h1, h2, h3⟩ := h
  rw [h.len ht ty, h1]
theorem Says.put {D : DataW Unit} (h : Says D f c) (hT : Tidy D) (id : Int) (q : M.Th) : Says (D.put (.int .i64 id) (thD q)) (M.upd f id q) (if (f id).isSome then c else c + 1) := by
  obtain ⟨h1, h2, h3⟩ := h
  have hki : WideAt.IsKeyLit (.int .i64 id) := trivial
  refine ⟨?_, fun j => ?_, fun j x hx z => ?_⟩
  · rw [size_put hT, h2, h1]
  · by_cases hj : j = id
    · subst hj
      rw [has_put_same hT.isMap hki]
      simp [M.upd]
    · rw [has_put_other (by simpa using hj), h2]
      simp [M.upd, hj]
  · by_cases hj : j = id
    · subst hj
      rw [atKey_put_same hT.isMap hki]
      simp only [M.upd, if_true, Option.some.injEq] at hx
      rw [hx]
    · rw [atKey_put_other (by simpa using hj)]
      simp only [M.upd, if_neg hj] at hx
      exact h3 j x hx z
theorem Says.del {D : DataW Unit} (h : Says D f c) (hT : Tidy D) (id : Int) : Says (D.del (.int .i64 id)) (M.del f id) (if (f id).isSome then c - 1 else c) := by
  obtain ⟨h1, h2, h3⟩ := h
  have hki : WideAt.IsKeyLit (.int .i64 id) := trivial
  refine ⟨?_, fun j => ?_, fun j x hx z => ?_⟩
  · have := size_del hT (k := .int .i64 id)
    rw [h2, h1] at this
    split at this <;> simp_all <;> omega
  · by_cases hj : j = id
    · subst hj
      rw [has_del_same]
      simp [M.del]
    · rw [has_del_other (by simpa using hj), h2]
      simp [M.del, hj]
  · by_cases hj : j = id
    · subst hj
      simp [M.del] at hx
    · rw [atKey_del_other (by simpa using hj)]
      simp only [M.del, if_neg hj] at hx
      exact h3 j x hx z
theorem MapAt.put (h : MapAt P k w b f c) (hk : P.underlying k = some (.int .i64)) (ht : P.underlying t = some (.map k e)) (hc : c < maxLen) {id : Int} (hid : -9223372036854775808 ≤ id ∧ id ≤ 9223372036854775807) (q : M.Th) :
    ∃ w', (Instr.mapUpdate t (.map (some b)) (.int .i64 id) (thV q)).run P w = .ok () w' ∧ MapAt P k w' b (M.upd f id q) (if (f id).isSome then c else c + 1) ∧ w.mapTurned w' b := by
  obtain ⟨D, h, hS⟩ := h
  obtain ⟨w', hr, ho, hm⟩ := h.store (int_keyed hk) ht hc (key_i64 hk hid) (thR_mk q)
  have hS' := hS.put (h.tidy (int_keyed hk)) id q
  refine ⟨w', hr, ⟨_, ?_, hS'⟩, hm⟩
  have := ownsMap_exact ho
  rw [hS'.1] at this
  exact this
theorem MapAt.drop (h : MapAt P k w b f c) (hk : P.underlying k = some (.int .i64)) (ht : P.underlying t = some (.map k e)) {id : Int} (hid : -9223372036854775808 ≤ id ∧ id ≤ 9223372036854775807) (ty : TypeId) :
    ∃ w', (Builtin.delete_ #[t, k] ty #[.map (some b), .int .i64 id]).run P w = .ok (.tuple #[]) w' ∧ MapAt P k w' b (M.del f id) (if (f id).isSome then c - 1 else c) ∧ w.mapTurned w' b := by
  obtain ⟨D, h, hS⟩ := h
  obtain ⟨w', hr, ho, hm⟩ := h.drop (int_keyed hk) ht (key_i64 hk hid) ty
  have hS' := hS.del (h.tidy (int_keyed hk)) id
  refine ⟨w', hr, ⟨_, ?_, hS'⟩, hm⟩
  have := ownsMap_exact ho
  rw [hS'.1] at this
  exact this
theorem below_turned {B : Nat} {a : World} (h : Below B a w) (hm : w.mapTurned w' b) (hB : B ≤ w.heap.size) (hb : B ≤ b) : Below B a w' :=
  h.grown hm.grown hB (fun j hj => by simp only [Option.some.injEq] at hj; omega)
end

section
variable {P : Program} {k : TypeId} {w w' : World} {b b' c c' : Nat} {f : Int → Option M.Th}
/-- one and the same things are so many -/
theorem MapAt.count (h : MapAt P k w b f c) (h' : MapAt P k w' b' f c') (hk : P.underlying k = some (.int .i64)) : c = c' := by
  have key : ∀ {w : World} {b c : Nat}, MapAt P k w b f c → ∃ L : List Int, L.Nodup ∧ L.length = c ∧ ∀ z, z ∈ L ↔ (f z).isSome = true := by
    intro w b c h
    obtain ⟨D, ⟨es, clock, hb, F, hs, rfl⟩, h1, h2, h3⟩ := h
    have K := Maps.fit_keys F
    have A := Maps.fit_apart (int_keyed hk) F
    have hp := WideShapes.sorted_perm (es.toList.map (WideElems.rg P k thR))
    generalize es.toList.map (WideElems.rg P k thR) = l at K A h1 h2 h3 hp
    have hall : ∀ p ∈ l, ∃ z, p.1 = .int .i64 z := fun p hp => by
      obtain ⟨v, hv⟩ := K p hp
      obtain ⟨z, _, e, _⟩ := keyOf_int_inv hk hv
      exact ⟨z, e⟩
    refine ⟨l.map fun p => match p.1 with | .int _ z => z | _ => 0, ?_, ?_, fun z => ?_⟩
    · unfold List.Nodup
      rw [List.pairwise_map]
      have : l.Pairwise (fun p q => p ∈ l ∧ q ∈ l ∧ p.1 ≠ q.1) := A.imp_of_mem (fun ha hb hne => ⟨ha, hb, hne⟩)
      refine this.imp ?_
      rintro p q ⟨hp, hq, hne⟩
      obtain ⟨x, hx⟩ := hall p hp
      obtain ⟨y, hy⟩ := hall q hq
      rw [hx, hy] at hne ⊢
      simpa using hne
    · rw [List.length_map, ← h1]
      simp [Maps.size, length_sorted]
    · rw [← h2 z]
      show _ ↔ (l.foldr DataW.insert []).any (fun p => p.1.sameKey (.int .i64 z)) = true
      rw [List.any_eq_true]
      constructor
      · intro hz
        obtain ⟨p, hpm, e⟩ := List.mem_map.1 hz
        obtain ⟨x, hx⟩ := hall p hpm
        rw [hx] at e
        simp only at e
        subst e
        exact ⟨p, hp.mem_iff.2 hpm, by rw [hx]; exact WideAt.sameKey_self trivial⟩
      · rintro ⟨p, hpm, e⟩
        refine List.mem_map.2 ⟨p, hp.mem_iff.1 hpm, ?_⟩
        rw [WideAt.sameKey_eq e]
  obtain ⟨L, n1, l1, m1⟩ := key h
  obtain ⟨L', n2, l2, m2⟩ := key h'
  rw [← l1, ← l2]
  exact (List.perm_ext_iff_of_nodup n1 n2 |>.2 (fun z => by rw [m1, m2])).length_eq
end

/-- a range over the things f under way, by the iterator in block r: those of 'left' are still to come, n of them -/
def RangeAt (P : Program) (k : TypeId) (w : World) (b r : Nat) (f : Int → Option M.Th) (c : Nat) (left : Int → Bool) (n : Nat) : Prop :=
  ∃ (D : DataW Unit) (lf : Lit → Bool), w.ranges P k thR b r c D lf n ∧ Says D f c ∧ ∀ id, lf (.int .i64 id) = left id
section
variable {P : Program} {k e t : TypeId} {w w' : World} {b r c n : Nat} {f : Int → Option M.Th} {left : Int → Bool}
theorem RangeAt.block (h : RangeAt P k w b r f c left n) (hb : w'.heap[b]? = w.heap[b]?) (hr : w'.heap[r]? = w.heap[r]?) : RangeAt P k w' b r f c left n := by
  obtain ⟨D, lf, ⟨es, clock, since, seen, c0, h1, h2, h3, h4, h5, h6⟩, hS⟩ := h
  exact ⟨D, lf, ⟨es, clock, since, seen, c0, hb.trans h1, h2, h3, h4, hr.trans h5, h6⟩, hS⟩
theorem RangeAt.map (h : RangeAt P k w b r f c left n) : MapAt P k w b f c := by
  obtain ⟨D, lf, hr, hS, _⟩ := h
  exact ⟨D, hr.owns, hS⟩
theorem RangeAt.lt (h : RangeAt P k w b r f c left n) : r < w.heap.size := by
  obtain ⟨D, lf, hr, hS, _⟩ := h
  exact hr.lt
theorem RangeAt.below (h : RangeAt P k w b r f c left n) {B : Nat} (hb : Below B w w') (h1 : b < B) (h2 : r < B) : RangeAt P k w' b r f c left n := h.block (hb.block b h1) (hb.block r h2)
theorem RangeAt.left_eq (h : RangeAt P k w b r f c left n) : w.rangeLeft b r = n := by
  obtain ⟨D, lf, hr, hS, _⟩ := h
  exact hr.left_eq
theorem MapAt.range (h : MapAt P k w b f c) (hk : P.underlying k = some (.int .i64)) (ht : P.underlying t = some (.map k e)) :
    ∃ w', (Instr.range t (.map (some b))).run P w = .ok (.pointer (some ⟨w.heap.size, 0, none⟩)) w' ∧ RangeAt P k w' b w.heap.size f c (fun id => (f id).isSome) c ∧ w.grownBy w' none ∧ w'.heap.size = w.heap.size + 1 := by
  obtain ⟨D, h, hS⟩ := h
  obtain ⟨w', hr, hg, h1, h2⟩ := h.range (int_keyed hk) ht
  rw [hS.1] at hg
  exact ⟨w', hr, ⟨D, _, hg, hS, hS.2.1⟩, h1, h2⟩
theorem RangeAt.next (h : RangeAt P k w b r f c left n) (hk : P.underlying k = some (.int .i64)) (ty : TypeId) :
    (n = 0 ∧ (∀ id, left id = false) ∧ (Instr.next (.pointer (some ⟨r, 0, none⟩)) false ty).run P w = .ok (.tuple #[.bool false]) w) ∨
    ∃ id q w' n', (-9223372036854775808 ≤ id ∧ id ≤ 9223372036854775807) ∧ left id = true ∧ f id = some q ∧ (Instr.next (.pointer (some ⟨r, 0, none⟩)) false ty).run P w = .ok (.tuple #[.bool true, .int .i64 id, thV q]) w' ∧
      RangeAt P k w' b r f c (fun j => left j && !(j == id)) n' ∧ n' < n ∧ w.grownBy w' (some r) ∧ w'.heap.size = w.heap.size ∧ (Instr.entry (.pointer (some ⟨r, 0, none⟩))).run P w' = .ok (.tuple #[.int .i64 id, thV q]) w' := by
  obtain ⟨D, lf, hr, hS, hl⟩ := h
  rcases hr.next (int_keyed hk) ty with ⟨h0, h1, h2⟩ | ⟨key, v, kl, y, w', n', g1, g2, g3, g4, g5, g6, g7, g8, g9, g10⟩
  · exact .inl ⟨h0, fun id => by rw [← hl]; exact h1 _, h2⟩
  · obtain ⟨id, rfl, rfl, hw⟩ := keyOf_int_inv hk g1
    obtain ⟨q, rfl, rfl⟩ := thR_inv g3
    have hid : -9223372036854775808 ≤ id ∧ id ≤ 9223372036854775807 := by
      simp [Lit.wf, IntKind.min, IntKind.max, IntKind.signed, IntKind.bits] at hw
      exact ⟨hw.1, hw.2⟩
    have hhas : Maps.has D (.int .i64 id) = true := has_true_of_atKey g4
    rw [hS.2.1] at hhas
    obtain ⟨q', hq'⟩ := Option.isSome_iff_exists.1 hhas
    have hqq := (hS.2.2 id q' hq' .nil).symm.trans (g4 .nil)
    have e1 := thD_inj hqq
    subst e1
    refine .inr ⟨id, q', w', n', hid, by rw [← hl]; exact g2, hq', g5, ⟨D, _, g6, hS, fun j => ?_⟩, g7, g8, g9, g10⟩
    rw [hl]
    by_cases hj : j = id
    · subst hj
      rw [WideAt.sameKey_self (show WideAt.IsKeyLit (.int .i64 j) from trivial)]
      simp
    · rw [sameKey_ne (by simpa using hj)]
      simp [hj]
end

/-! at the operation, for the walk -/
section
variable {P : Program} (w : World) {ops : Array Oper} {rest : List Oper} {o : Oper} {a : Act} {Q : Exit → Act → World → Prop}
theorem wpList_th_look (hg : o.guard = none) (m x : Operand) (t : TypeId) (hop : o.op = Op.lookup t m x true) (k e : TypeId) (hk : P.underlying k = some (.int .i64)) (ht : P.underlying t = some (.map k e)) (hz : (zeroValue e).run P w = .ok (thV M.th0) w)
    (b : Nat) (f : Int → Option M.Th) (c : Nat) (hm : a.eval m = .map (some b)) (h : MapAt P k w b f c) (id : Int) (hx : a.eval x = .int .i64 id) (hid : -9223372036854775808 ≤ id ∧ id ≤ 9223372036854775807)
    (hK : wpList P ops Q rest (a.put o.dst (.tuple #[thV ((f id).getD M.th0), .bool (f id).isSome])) w) : wpList P ops Q (o :: rest) a w := by
  refine wpList_plain hg fun K' hK' => ?_
  unfold Oper.wp
  simp [execOp, hop, hm, hx, h.look hk ht hz hid, Result.andThen]
  exact hK' _ _ hK
theorem wpList_th_get (hg : o.guard = none) (m x : Operand) (t : TypeId) (hop : o.op = Op.lookup t m x false) (k e : TypeId) (hk : P.underlying k = some (.int .i64)) (ht : P.underlying t = some (.map k e)) (hz : (zeroValue e).run P w = .ok (thV M.th0) w)
    (b : Nat) (f : Int → Option M.Th) (c : Nat) (hm : a.eval m = .map (some b)) (h : MapAt P k w b f c) (id : Int) (hx : a.eval x = .int .i64 id) (hid : -9223372036854775808 ≤ id ∧ id ≤ 9223372036854775807)
    (hK : wpList P ops Q rest (a.put o.dst (thV ((f id).getD M.th0))) w) : wpList P ops Q (o :: rest) a w := by
  refine wpList_plain hg fun K' hK' => ?_
  unfold Oper.wp
  simp [execOp, hop, hm, hx, h.get hk ht hz hid, Result.andThen]
  exact hK' _ _ hK
theorem wpList_th_len (hg : o.guard = none) (m : Operand) (t : TypeId) (hop : o.op = Op.call { callee := Callee.builtin Builtin.len, args := #[m], argTypes := #[t] }) (k e : TypeId) (ht : P.underlying t = some (.map k e))
    (b : Nat) (f : Int → Option M.Th) (c : Nat) (hm : a.eval m = .map (some b)) (h : MapAt P k w b f c) (hK : wpList P ops Q rest (a.put o.dst (.int .i64 c)) w) : wpList P ops Q (o :: rest) a w := by
  refine wpList_plain hg fun K' hK' => ?_
  unfold Oper.wp
  simp [execOp, hop, resolve, invoke, builtin, hm, h.len ht o.type, Result.andThen]
  exact hK' _ _ hK
theorem wpList_th_put (hg : o.guard = none) (m x v : Operand) (t : TypeId) (hop : o.op = Op.mapUpdate t m x v) (k e : TypeId) (hk : P.underlying k = some (.int .i64)) (ht : P.underlying t = some (.map k e))
    (b : Nat) (f : Int → Option M.Th) (c : Nat) (hm : a.eval m = .map (some b)) (h : MapAt P k w b f c) (hc : c < maxLen) (id : Int) (q : M.Th) (hx : a.eval x = .int .i64 id) (hid : -9223372036854775808 ≤ id ∧ id ≤ 9223372036854775807) (hv : a.eval v = thV q)
    (hK : ∀ w', MapAt P k w' b (M.upd f id q) (if (f id).isSome then c else c + 1) → w.mapTurned w' b → wpList P ops Q rest (a.put o.dst undef) w') : wpList P ops Q (o :: rest) a w := by
  refine wpList_plain hg fun K' hK' => ?_
  obtain ⟨w', hrun, r1, r2⟩ := h.put hk ht hc hid q
  unfold Oper.wp
  simp [execOp, hop, hm, hx, hv, hrun, Result.andThen]
  exact hK' _ _ (hK w' r1 r2)
theorem wpList_th_del (hg : o.guard = none) (m x : Operand) (t k : TypeId) (hop : o.op = Op.call { callee := Callee.builtin Builtin.delete, args := #[m, x], argTypes := #[t, k] }) (e : TypeId) (hk : P.underlying k = some (.int .i64)) (ht : P.underlying t = some (.map k e))
    (b : Nat) (f : Int → Option M.Th) (c : Nat) (hm : a.eval m = .map (some b)) (h : MapAt P k w b f c) (id : Int) (hx : a.eval x = .int .i64 id) (hid : -9223372036854775808 ≤ id ∧ id ≤ 9223372036854775807)
    (hK : ∀ w', MapAt P k w' b (M.del f id) (if (f id).isSome then c - 1 else c) → w.mapTurned w' b → wpList P ops Q rest (a.put o.dst (.tuple #[])) w') : wpList P ops Q (o :: rest) a w := by
  refine wpList_plain hg fun K' hK' => ?_
  obtain ⟨w', hrun, r1, r2⟩ := h.drop hk ht hid o.type
  unfold Oper.wp
  simp [execOp, hop, resolve, invoke, builtin, hm, hx, hrun, Result.andThen]
  exact hK' _ _ (hK w' r1 r2)
theorem wpList_th_range (hg : o.guard = none) (m : Operand) (t : TypeId) (hop : o.op = Op.range t m) (k e : TypeId) (hk : P.underlying k = some (.int .i64)) (ht : P.underlying t = some (.map k e))
    (b : Nat) (f : Int → Option M.Th) (c : Nat) (hm : a.eval m = .map (some b)) (h : MapAt P k w b f c)
    (hK : ∀ w', RangeAt P k w' b w.heap.size f c (fun id => (f id).isSome) c → w.grownBy w' none → w'.heap.size = w.heap.size + 1 → wpList P ops Q rest (a.put o.dst (.pointer (some ⟨w.heap.size, 0, none⟩))) w') : wpList P ops Q (o :: rest) a w := by
  refine wpList_plain hg fun K' hK' => ?_
  obtain ⟨w', hrun, r1, r2, r3⟩ := h.range hk ht
  unfold Oper.wp
  simp [execOp, hop, hm, hrun, Result.andThen]
  exact hK' _ _ (hK w' r1 r2 r3)
theorem wpList_th_next (hg : o.guard = none) (it : Operand) (hop : o.op = Op.next it false) (k : TypeId) (hk : P.underlying k = some (.int .i64)) (b r : Nat) (f : Int → Option M.Th) (c : Nat) (left : Int → Bool) (n : Nat)
    (hit : a.eval it = .pointer (some ⟨r, 0, none⟩)) (h : RangeAt P k w b r f c left n)
    (hDone : n = 0 → (∀ id, left id = false) → wpList P ops Q rest (a.put o.dst (.tuple #[.bool false])) w)
    (hMore : ∀ (id : Int) (q : M.Th) (w' : World) (n' : Nat), (-9223372036854775808 ≤ id ∧ id ≤ 9223372036854775807) → left id = true → f id = some q → RangeAt P k w' b r f c (fun j => left j && !(j == id)) n' → n' < n →
      w.grownBy w' (some r) → w'.heap.size = w.heap.size → (Instr.entry (.pointer (some ⟨r, 0, none⟩))).run P w' = .ok (.tuple #[.int .i64 id, thV q]) w' → wpList P ops Q rest (a.put o.dst (.tuple #[.bool true, .int .i64 id, thV q])) w') : wpList P ops Q (o :: rest) a w := by
  refine wpList_plain hg fun K' hK' => ?_
  unfold Oper.wp
  rcases h.next hk o.type with ⟨h0, hl, hrun⟩ | ⟨id, q, w', n', g1, g2, g3, g4, g5, g6, g7, g8, g9⟩
  · simp [execOp, hop, hit, hrun, Result.andThen]
    exact hK' _ _ (hDone h0 hl)
  · simp [execOp, hop, hit, g4, Result.andThen]
    exact hK' _ _ (hMore id q w' n' g1 g2 g3 g5 g6 g7 g8 g9)
end
end Go.Proofs.Ytkpecagkpjabdaa
