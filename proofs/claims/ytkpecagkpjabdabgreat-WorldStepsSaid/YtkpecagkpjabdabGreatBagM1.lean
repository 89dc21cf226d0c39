/- Several small texts in one. No condition of its own: each part says its own. -/
import Derived.Test.YtkpecagkpjabdabGreatBagP
import Derived.Maps.OwnSet
import Derived.Maps.OwnOps
import Derived.Maps.RangeWalk
import Derived.WalkKit
import Derived.Test.YtkpecagkpjabdabGreatBagW
import Derived.Test.YtkpecagkpjabdabGreatMem
/- A map of things by number in memory: what the map's operations make of it. Condition: keys are numbers of 64 bits, elements are a mask and a row. -/
namespace Go.Proofs.YtkpecagkpjabdabGreat
open Go.RowKit Go.Maps Go.MapKept
set_option linter.unusedVariables false
set_option linter.unusedSimpArgs false
set_option maxRecDepth 100000

/-- a thing: its mask, its row -/
abbrev M.Th := Int × M.Row
def M.th0 : M.Th := (0, ⟨0, 0, 0, 0, 0, 0, 0, 0⟩)
abbrev thV (t : M.Th) : Value := .agg #[.int .i64 t.1, .int .i64 t.2.X, .int .i64 t.2.Y, .int .i64 t.2.PX, .int .i64 t.2.PY, .int .i64 t.2.W, .int .i64 t.2.H, .int .i64 t.2.M, .int .i64 t.2.R]
/-- how a thing reads -/
def thD (t : M.Th) : DataW Unit := .agg [.lit (.int .i64 t.1), .lit (.int .i64 t.2.X), .lit (.int .i64 t.2.Y), .lit (.int .i64 t.2.PX), .lit (.int .i64 t.2.PY), .lit (.int .i64 t.2.W), .lit (.int .i64 t.2.H), .lit (.int .i64 t.2.M), .lit (.int .i64 t.2.R)]
theorem thV_inj {s t : M.Th} (h : thV s = thV t) : s = t := by
  obtain ⟨m, ⟨a, b, c, d, e, f, g, i⟩⟩ := s
  obtain ⟨m', ⟨a', b', c', d', e', f', g', i'⟩⟩ := t
  simp only [thV, Value.agg.injEq, Array.mk.injEq, List.cons.injEq, Value.int.injEq, true_and, and_true] at h
  obtain ⟨rfl, rfl, rfl, rfl, rfl, rfl, rfl, rfl, rfl⟩ := h
  rfl
theorem thD_inj {s t : M.Th} (h : thD s = thD t) : s = t := by
  obtain ⟨m, ⟨a, b, c, d, e, f, g, i⟩⟩ := s
  obtain ⟨m', ⟨a', b', c', d', e', f', g', i'⟩⟩ := t
  simp only [thD, DataW.agg.injEq, List.cons.injEq, DataW.lit.injEq, Lit.int.injEq, true_and, and_true] at h
  obtain ⟨rfl, rfl, rfl, rfl, rfl, rfl, rfl, rfl, rfl⟩ := h
  rfl
open Classical in
noncomputable def thR (v : Value) : Option (DataW Unit × List MemPlace) := if h : ∃ t, v = thV t then some (thD h.choose, []) else none
theorem thR_mk (t : M.Th) : thR (thV t) = some (thD t, []) := by
  have h : ∃ s, thV t = thV s := ⟨t, rfl⟩
  unfold thR
  rw [dif_pos h]
  have := thV_inj h.choose_spec
  rw [← this]
theorem thR_inv {v : Value} {z : DataW Unit × List MemPlace} (h : thR v = some z) : ∃ t, v = thV t ∧ z = (thD t, []) := by
  unfold thR at h
  split at h
  · rename_i hx
    simp only [Option.some.injEq] at h
    exact ⟨hx.choose, hx.choose_spec, h.symm⟩
  · cases h

/-- the datum D is the things f, c of them -/
def Says (D : DataW Unit) (f : Int → Option M.Th) (c : Nat) : Prop :=
  Maps.size D = c ∧ (∀ id, Maps.has D (.int .i64 id) = (f id).isSome) ∧ ∀ id t, f id = some t → ∀ z, D.atKey (.int .i64 id) z = thD t
/-- block b of w is a map of the things f, c of them -/
def MapAt (P : Program) (k : TypeId) (w : World) (b : Nat) (f : Int → Option M.Th) (c : Nat) : Prop :=
  ∃ D : DataW Unit, w.ownsMap P k thR b c D ∧ Says D f c
/-- things with one more, or another one in its place -/
def M.upd (f : Int → Option M.Th) (id : Int) (t : M.Th) : Int → Option M.Th := fun j => if j = id then some t else f j
def M.del (f : Int → Option M.Th) (id : Int) : Int → Option M.Th := fun j => if j = id then none else f j

theorem ownsMap_exact {P : Program} {k : TypeId} {w : World} {b n : Nat} {D : DataW Unit} (h : w.ownsMap P k thR b n D) : w.ownsMap P k thR b (Maps.size D) D := by
  obtain ⟨es, clock, hb, F, hs, hD⟩ := h
  exact ⟨es, clock, hb, F, by rw [hD]; simp [Maps.size, length_sorted], hD⟩

section
variable {P : Program} {k e t : TypeId} {w w' : World} {b c : Nat} {f : Int → Option M.Th}
theorem MapAt.lt (h : MapAt P k w b f c) : b < w.heap.size := by
  obtain ⟨D, h, _⟩ := h
  exact h.lt
theorem MapAt.block (h : MapAt P k w b f c) (hb : w'.heap[b]? = w.heap[b]?) : MapAt P k w' b f c := by
  obtain ⟨D, ⟨es, clock, h1, h2⟩, h3⟩ := h
  exact ⟨D, ⟨es, clock, hb.trans h1, h2⟩, h3⟩
theorem MapAt.below (h : MapAt P k w b f c) {B : Nat} (hb : Below B w w') (hB : b < B) : MapAt P k w' b f c := h.block (hb.block b hB)
theorem MapAt.alloc (h : MapAt P k w b f c) (o : Obj) : MapAt P k (w.alloc o) b f c := h.block (Below.heap_alloc w o b h.lt)
theorem MapAt.drew (h : MapAt P k w b f c) : MapAt P k w.drew b f c := h
theorem MapAt.far (h : MapAt P k w b f c) {p : Addr} (hp : b ≠ p.block) (u : Value) : MapAt P k (w.setCell p u) b f c := h.block (Below.heap_setCell w p u b hp)
theorem MapAt.kept {row : Option Nat} (h : MapAt P k w b f c) (hg : w.grownBy w' row) (hne : some b ≠ row) : MapAt P k w' b f c := h.block (hg.block b h.lt hne)
theorem MapAt.made (P : Program) (k : TypeId) (w : World) : MapAt P k (w.alloc (.map #[] 0)) w.heap.size (fun _ => none) 0 :=
  ⟨.map [], World.ownsMap_made w P k thR, rfl, fun id => rfl, fun id t h => by cases h⟩
theorem key_i64 (hk : P.underlying k = some (.int .i64)) {id : Int} (h : -9223372036854775808 ≤ id ∧ id ≤ 9223372036854775807) : keyOf P k (.int .i64 id) = some (.int .i64 id) :=
  keyOf_int_mk hk (by simp [Lit.wf, IntKind.min, IntKind.max, IntKind.signed, IntKind.bits]; exact h)
theorem MapAt.look (h : MapAt P k w b f c) (hk : P.underlying k = some (.int .i64)) (ht : P.underlying t = some (.map k e)) (hz : (zeroValue e).run P w = .ok (thV M.th0) w) {id : Int} (hid : -9223372036854775808 ≤ id ∧ id ≤ 9223372036854775807) :
    (Instr.lookup t (.map (some b)) (.int .i64 id) true).run P w = .ok (.tuple #[thV ((f id).getD M.th0), .bool (f id).isSome]) w := by
  obtain ⟨D, h, h1, h2, h3⟩ := h
  obtain ⟨v, ps, hr, hv⟩ := h.look_ok (int_keyed hk) ht hz (thR_mk M.th0) (key_i64 hk hid)
  obtain ⟨q, rfl, hq⟩ := thR_inv hv
  rw [hr, h2]
  simp only [Prod.mk.injEq] at hq
  cases hf : f id with
  | some x =>
    rw [h3 id x hf] at hq
    rw [thD_inj hq.1]
    rfl
  | none =>
    rw [atKey_of_not_has (by rw [h2, hf]; rfl)] at hq
    rw [← thD_inj hq.1]
    rfl
theorem MapAt.get (h : MapAt P k w b f c) (hk : P.underlying k = some (.int .i64)) (ht : P.underlying t = some (.map k e)) (hz : (zeroValue e).run P w = .ok (thV M.th0) w) {id : Int} (hid : -9223372036854775808 ≤ id ∧ id ≤ 9223372036854775807) :
    (Instr.lookup t (.map (some b)) (.int .i64 id) false).run P w = .ok (thV ((f id).getD M.th0)) w := by
  obtain ⟨D, h, h1, h2, h3⟩ := h
  obtain ⟨v, ps, hr, hv⟩ := h.lookup (int_keyed hk) ht hz (thR_mk M.th0) (key_i64 hk hid)
  obtain ⟨q, rfl, hq⟩ := thR_inv hv
  rw [hr]
  simp only [Prod.mk.injEq] at hq
  cases hf : f id with
  | some x =>
    rw [h3 id x hf] at hq
    rw [thD_inj hq.1]
    rfl
  | none =>
    rw [atKey_of_not_has (by rw [h2, hf]; rfl)] at hq
    rw [← thD_inj hq.1]
    rfl
theorem MapAt.len (h : MapAt P k w b f c) (ht : P.underlying t = some (.map k e)) (ty : TypeId) : (Builtin.len_ #[t] ty #[.map (some b)]).run P w = .ok (.int .i64 c) w := by
  obtain ⟨D, h, h1, h2, h3⟩ := h
  rw [h.len ht ty, h1]
theorem Says.put {D : DataW Unit} (h : Says D f c) (hT : Tidy D) (id : Int) (q : M.Th) : Says (D.put (.int .i64 id) (thD q)) (M.upd f id q) (if (f id).isSome then c else c + 1) := by
  obtain ⟨h1, h2, h3⟩ := h
  have hki : WideAt.IsKeyLit (.int .i64 id) := trivial
  refine ⟨?_, fun j => ?_, fun j x hx z => ?_⟩
  · rw [size_put hT, h2, h1]
  · by_cases hj : j = id
    · subst hj
      rw [has_put_same hT.isMap hki]
      simp [M.upd]
    · rw [has_put_other (by simpa using hj), h2]
      simp [M.upd, hj]
  · by_cases hj : j = id
    · subst hj
      rw [atKey_put_same hT.isMap hki]
      simp only [M.upd, if_true, Option.some.injEq] at hx
      rw [hx]
    · rw [atKey_put_other (by simpa using hj)]
      simp only [M.upd, if_neg hj] at hx
      exact h3 j x hx z
theorem Says.del {D : DataW Unit} (h : Says D f c) (hT : Tidy D) (id : Int) : Says (D.del (.int .i64 id)) (M.del f id) (if (f id).isSome then c - 1 else c) := by
  obtain ⟨h1, h2, h3⟩ := h
  have hki : WideAt.IsKeyLit (.int .i64 id) := trivial
  refine ⟨?_, fun j => ?_, fun j x hx z => ?_⟩
  · have := size_del hT (k := .int .i64 id)
    rw [h2, h1] at this
    split at this <;> simp_all <;> omega
  · by_cases hj : j = id
    · subst hj
      rw [has_del_same]
      simp [M.del]
    · rw [has_del_other (by simpa using hj), h2]
      simp [M.del, hj]
  · by_cases hj : j = id
    · subst hj
      simp [M.del] at hx
    · rw [atKey_del_other (by simpa using hj)]
      simp only [M.del, if_neg hj] at hx
      exact h3 j x hx z
theorem MapAt.put (h : MapAt P k w b f c) (hk : P.underlying k = some (.int .i64)) (ht : P.underlying t = some (.map k e)) (hc : c < maxLen) {id : Int} (hid : -9223372036854775808 ≤ id ∧ id ≤ 9223372036854775807) (q : M.Th) :
    ∃ w', (Instr.mapUpdate t (.map (some b)) (.int .i64 id) (thV q)).run P w = .ok () w' ∧ MapAt P k w' b (M.upd f id q) (if (f id).isSome then c else c + 1) ∧ w.mapTurned w' b := by
  obtain ⟨D, h, hS⟩ := h
  obtain ⟨w', hr, ho, hm⟩ := h.store (int_keyed hk) ht hc (key_i64 hk hid) (thR_mk q)
  have hS' := hS.put (h.tidy (int_keyed hk)) id q
  refine ⟨w', hr, ⟨_, ?_, hS'⟩, hm⟩
  have := ownsMap_exact ho
  rw [hS'.1] at this
  exact this
theorem MapAt.drop (h : MapAt P k w b f c) (hk : P.underlying k = some (.int .i64)) (ht : P.underlying t = some (.map k e)) {id : Int} (hid : -9223372036854775808 ≤ id ∧ id ≤ 9223372036854775807) (ty : TypeId) :
    ∃ w', (Builtin.delete_ #[t, k] ty #[.map (some b), .int .i64 id]).run P w = .ok (.tuple #[]) w' ∧ MapAt P k w' b (M.del f id) (if (f id).isSome then c - 1 else c) ∧ w.mapTurned w' b := by
  obtain ⟨D, h, hS⟩ := h
  obtain ⟨w', hr, ho, hm⟩ := h.drop (int_keyed hk) ht (key_i64 hk hid) ty
  have hS' := hS.del (h.tidy (int_keyed hk)) id
  refine ⟨w', hr, ⟨_, ?_, hS'⟩, hm⟩
  have := ownsMap_exact ho
  rw [hS'.1] at this
  exact this
theorem below_turned {B : Nat} {a : World} (h : Below B a w) (hm : w.mapTurned w' b) (hB : B ≤ w.heap.size) (hb : B ≤ b) : Below B a w' :=
  h.grown hm.grown hB (fun j hj => by simp only [Option.some.injEq] at hj; omega)
end

section
variable {P : Program} {k : TypeId} {w w' : World} {b b' c c' : Nat} {f : Int → Option M.Th}
/-- one and the same things are so many -/
theorem MapAt.count (h : MapAt P k w b f c) (h' : MapAt P k w' b' f c') (hk : P.underlying k = some (.int .i64)) : c = c' := by
  have key : ∀ {w : World} {b c : Nat}, MapAt P k w b f c → ∃ L : List Int, L.Nodup ∧ L.length = c ∧ ∀ z, z ∈ L ↔ (f z).isSome = true := by
    intro w b c h
    obtain ⟨D, ⟨es, clock, hb, F, hs, rfl⟩, h1, h2, h3⟩ := h
    have K := Maps.fit_keys F
    have A := Maps.fit_apart (int_keyed hk) F
    have hp := WideShapes.sorted_perm (es.toList.map (WideElems.rg P k thR))
    generalize es.toList.map (WideElems.rg P k thR) = l at K A h1 h2 h3 hp
    have hall : ∀ p ∈ l, ∃ z, p.1 = .int .i64 z := fun p hp => by
      obtain ⟨v, hv⟩ := K p hp
      obtain ⟨z, _, e, _⟩ := keyOf_int_inv hk hv
      exact ⟨z, e⟩
    refine ⟨l.map fun p => match p.1 with | .int _ z => z | _ => 0, ?_, ?_, fun z => ?_⟩
    · unfold List.Nodup
      rw [List.pairwise_map]
      have : l.Pairwise (fun p q => p ∈ l ∧ q ∈ l ∧ p.1 ≠ q.1) := A.imp_of_mem (fun ha hb hne => ⟨ha, hb, hne⟩)
      refine this.imp ?_
      rintro p q ⟨hp, hq, hne⟩
      obtain ⟨x, hx⟩ := hall p hp
      obtain ⟨y, hy⟩ := hall q hq
      rw [hx, hy] at hne ⊢
      simpa using hne
    · rw [List.length_map, ← h1]
      simp [Maps.size, length_sorted]
    · rw [← h2 z]
      show _ ↔ (l.foldr DataW.insert []).any (fun p => p.1.sameKey (.int .i64 z)) = true
      rw [List.any_eq_true]
      constructor
      · intro hz
        obtain ⟨p, hpm, e⟩ := List.mem_map.1 hz
        obtain ⟨x, hx⟩ := hall p hpm
        rw [hx] at e
        simp only at e
        subst e
        exact ⟨p, hp.mem_iff.2 hpm, by rw [hx]; exact WideAt.sameKey_self trivial⟩
      · rintro ⟨p, hpm, e⟩
        refine List.mem_map.2 ⟨p, hp.mem_iff.1 hpm, ?_⟩
        rw [WideAt.sameKey_eq e]
  obtain ⟨L, n1, l1, m1⟩ := key h
  obtain ⟨L', n2, l2, m2⟩ := key h'
  rw [← l1, ← l2]
  exact (List.perm_ext_iff_of_nodup n1 n2 |>.2 (fun z => by rw [m1, m2])).length_eq
end

/-- a range over the things f under way, by the iterator in block r: those of 'left' are still to come, n of them -/
def RangeAt (P : Program) (k : TypeId) (w : World) (b r : Nat) (f : Int → Option M.Th) (c : Nat) (left : Int → Bool) (n : Nat) : Prop :=
  ∃ (D : DataW Unit) (lf : Lit → Bool), w.ranges P k thR b r c D lf n ∧ Says D f c ∧ ∀ id, lf (.int .i64 id) = left id
section
variable {P : Program} {k e t : TypeId} {w w' : World} {b r c n : Nat} {f : Int → Option M.Th} {left : Int → Bool}
theorem RangeAt.block (h : RangeAt P k w b r f c left n) (hb : w'.heap[b]? = w.heap[b]?) (hr : w'.heap[r]? = w.heap[r]?) : RangeAt P k w' b r f c left n := by
  obtain ⟨D, lf, ⟨es, clock, since, seen, c0, h1, h2, h3, h4, h5, h6⟩, hS⟩ := h
  exact ⟨D, lf, ⟨es, clock, since, seen, c0, hb.trans h1, h2, h3, h4, hr.trans h5, h6⟩, hS⟩
theorem RangeAt.map (h : RangeAt P k w b r f c left n) : MapAt P k w b f c := by
  obtain ⟨D, lf, hr, hS, _⟩ := h
  exact ⟨D, hr.owns, hS⟩
theorem RangeAt.lt (h : RangeAt P k w b r f c left n) : r < w.heap.size := by
  obtain ⟨D, lf, hr, hS, _⟩ := h
  exact hr.lt
theorem RangeAt.below (h : RangeAt P k w b r f c left n) {B : Nat} (hb : Below B w w') (h1 : b < B) (h2 : r < B) : RangeAt P k w' b r f c left n := h.block (hb.block b h1) (hb.block r h2)
theorem MapAt.range (h : MapAt P k w b f c) (hk : P.underlying k = some (.int .i64)) (ht : P.underlying t = some (.map k e)) :
    ∃ w', (Instr.range t (.map (some b))).run P w = .ok (.pointer (some ⟨w.heap.size, 0, none⟩)) w' ∧ RangeAt P k w' b w.heap.size f c (fun id => (f id).isSome) c ∧ w.grownBy w' none ∧ w'.heap.size = w.heap.size + 1 := by
  obtain ⟨D, h, hS⟩ := h
  obtain ⟨w', hr, hg, h1, h2⟩ := h.range (int_keyed hk) ht
  rw [hS.1] at hg
  exact ⟨w', hr, ⟨D, _, hg, hS, hS.2.1⟩, h1, h2⟩
theorem RangeAt.next (h : RangeAt P k w b r f c left n) (hk : P.underlying k = some (.int .i64)) (ty : TypeId) :
    (n = 0 ∧ (∀ id, left id = false) ∧ (Instr.next (.pointer (some ⟨r, 0, none⟩)) false ty).run P w = .ok (.tuple #[.bool false]) w) ∨
    ∃ id q w' n', (-9223372036854775808 ≤ id ∧ id ≤ 9223372036854775807) ∧ left id = true ∧ f id = some q ∧ (Instr.next (.pointer (some ⟨r, 0, none⟩)) false ty).run P w = .ok (.tuple #[.bool true, .int .i64 id, thV q]) w' ∧
      RangeAt P k w' b r f c (fun j => left j && !(j == id)) n' ∧ n' < n ∧ w.grownBy w' (some r) ∧ w'.heap.size = w.heap.size ∧ (Instr.entry (.pointer (some ⟨r, 0, none⟩))).run P w' = .ok (.tuple #[.int .i64 id, thV q]) w' := by
  obtain ⟨D, lf, hr, hS, hl⟩ := h
  rcases hr.next (int_keyed hk) ty with ⟨h0, h1, h2⟩ | ⟨key, v, kl, y, w', n', g1, g2, g3, g4, g5, g6, g7, g8, g9, g10⟩
  · exact .inl ⟨h0, fun id => by rw [← hl]; exact h1 _, h2⟩
  · obtain ⟨id, rfl, rfl, hw⟩ := keyOf_int_inv hk g1
    obtain ⟨q, rfl, rfl⟩ := thR_inv g3
    have hid : -9223372036854775808 ≤ id ∧ id ≤ 9223372036854775807 := by
      simp [Lit.wf, IntKind.min, IntKind.max, IntKind.signed, IntKind.bits] at hw
      exact ⟨hw.1, hw.2⟩
    have hhas : Maps.has D (.int .i64 id) = true := has_true_of_atKey g4
    rw [hS.2.1] at hhas
    obtain ⟨q', hq'⟩ := Option.isSome_iff_exists.1 hhas
    have hqq := (hS.2.2 id q' hq' .nil).symm.trans (g4 .nil)
    have e1 := thD_inj hqq
    subst e1
    refine .inr ⟨id, q', w', n', hid, by rw [← hl]; exact g2, hq', g5, ⟨D, _, g6, hS, fun j => ?_⟩, g7, g8, g9, g10⟩
    rw [hl]
    by_cases hj : j = id
    · subst hj
      rw [WideAt.sameKey_self (show WideAt.IsKeyLit (.int .i64 j) from trivial)]
      simp
    · rw [sameKey_ne (by simpa using hj)]
      simp [hj]
end

/-! at the operation, for the walk -/
section
variable {P : Program} (w : World) {ops : Array Oper} {rest : List Oper} {o : Oper} {a : Act} {Q : Exit → Act → World → Prop}
theorem wpList_th_look (hg : o.guard = none) (m x : Operand) (t : TypeId) (hop : o.op = Op.lookup t m x true) (k e : TypeId) (hk : P.underlying k = some (.int .i64)) (ht : P.underlying t = some (.map k e)) (hz : (zeroValue e).run P w = .ok (thV M.th0) w)
    (b : Nat) (f : Int → Option M.Th) (c : Nat) (hm : a.eval m = .map (some b)) (h : MapAt P k w b f c) (id : Int) (hx : a.eval x = .int .i64 id) (hid : -9223372036854775808 ≤ id ∧ id ≤ 9223372036854775807)
    (hK : wpList P ops Q rest (a.put o.dst (.tuple #[thV ((f id).getD M.th0), .bool (f id).isSome])) w) : wpList P ops Q (o :: rest) a w := by
  refine wpList_plain hg fun K' hK' => ?_
  unfold Oper.wp
  simp [execOp, hop, hm, hx, h.look hk ht hz hid, Result.andThen]
  exact hK' _ _ hK
theorem wpList_th_get (hg : o.guard = none) (m x : Operand) (t : TypeId) (hop : o.op = Op.lookup t m x false) (k e : TypeId) (hk : P.underlying k = some (.int .i64)) (ht : P.underlying t = some (.map k e)) (hz : (zeroValue e).run P w = .ok (thV M.th0) w)
    (b : Nat) (f : Int → Option M.Th) (c : Nat) (hm : a.eval m = .map (some b)) (h : MapAt P k w b f c) (id : Int) (hx : a.eval x = .int .i64 id) (hid : -9223372036854775808 ≤ id ∧ id ≤ 9223372036854775807)
    (hK : wpList P ops Q rest (a.put o.dst (thV ((f id).getD M.th0))) w) : wpList P ops Q (o :: rest) a w := by
  refine wpList_plain hg fun K' hK' => ?_
  unfold Oper.wp
  simp [execOp, hop, hm, hx, h.get hk ht hz hid, Result.andThen]
  exact hK' _ _ hK
theorem wpList_th_len (hg : o.guard = none) (m : Operand) (t : TypeId) (hop : o.op = Op.call { callee := Callee.builtin Builtin.len, args := #[m], argTypes := #[t] }) (k e : TypeId) (ht : P.underlying t = some (.map k e))
    (b : Nat) (f : Int → Option M.Th) (c : Nat) (hm : a.eval m = .map (some b)) (h : MapAt P k w b f c) (hK : wpList P ops Q rest (a.put o.dst (.int .i64 c)) w) : wpList P ops Q (o :: rest) a w := by
  refine wpList_plain hg fun K' hK' => ?_
  unfold Oper.wp
  simp [execOp, hop, resolve, invoke, builtin, hm, h.len ht o.type, Result.andThen]
  exact hK' _ _ hK
theorem wpList_th_put (hg : o.guard = none) (m x v : Operand) (t : TypeId) (hop : o.op = Op.mapUpdate t m x v) (k e : TypeId) (hk : P.underlying k = some (.int .i64)) (ht : P.underlying t = some (.map k e))
    (b : Nat) (f : Int → Option M.Th) (c : Nat) (hm : a.eval m = .map (some b)) (h : MapAt P k w b f c) (hc : c < maxLen) (id : Int) (q : M.Th) (hx : a.eval x = .int .i64 id) (hid : -9223372036854775808 ≤ id ∧ id ≤ 9223372036854775807) (hv : a.eval v = thV q)
    (hK : ∀ w', MapAt P k w' b (M.upd f id q) (if (f id).isSome then c else c + 1) → w.mapTurned w' b → wpList P ops Q rest (a.put o.dst undef) w') : wpList P ops Q (o :: rest) a w := by
  refine wpList_plain hg fun K' hK' => ?_
  obtain ⟨w', hrun, r1, r2⟩ := h.put hk ht hc hid q
  unfold Oper.wp
  simp [execOp, hop, hm, hx, hv, hrun, Result.andThen]
  exact hK' _ _ (hK w' r1 r2)
theorem wpList_th_range (hg : o.guard = none) (m : Operand) (t : TypeId) (hop : o.op = Op.range t m) (k e : TypeId) (hk : P.underlying k = some (.int .i64)) (ht : P.underlying t = some (.map k e))
    (b : Nat) (f : Int → Option M.Th) (c : Nat) (hm : a.eval m = .map (some b)) (h : MapAt P k w b f c)
    (hK : ∀ w', RangeAt P k w' b w.heap.size f c (fun id => (f id).isSome) c → w.grownBy w' none → w'.heap.size = w.heap.size + 1 → wpList P ops Q rest (a.put o.dst (.pointer (some ⟨w.heap.size, 0, none⟩))) w') : wpList P ops Q (o :: rest) a w := by
  refine wpList_plain hg fun K' hK' => ?_
  obtain ⟨w', hrun, r1, r2, r3⟩ := h.range hk ht
  unfold Oper.wp
  simp [execOp, hop, hm, hrun, Result.andThen]
  exact hK' _ _ (hK w' r1 r2 r3)
theorem wpList_th_next (hg : o.guard = none) (it : Operand) (hop : o.op = Op.next it false) (k : TypeId) (hk : P.underlying k = some (.int .i64)) (b r : Nat) (f : Int → Option M.Th) (c : Nat) (left : Int → Bool) (n : Nat)
    (hit : a.eval it = .pointer (some ⟨r, 0, none⟩)) (h : RangeAt P k w b r f c left n)
    (hDone : n = 0 → (∀ id, left id = false) → wpList P ops Q rest (a.put o.dst (.tuple #[.bool false])) w)
    (hMore : ∀ (id : Int) (q : M.Th) (w' : World) (n' : Nat), (-9223372036854775808 ≤ id ∧ id ≤ 9223372036854775807) → left id = true → f id = some q → RangeAt P k w' b r f c (fun j => left j && !(j == id)) n' → n' < n →
      w.grownBy w' (some r) → w'.heap.size = w.heap.size → (Instr.entry (.pointer (some ⟨r, 0, none⟩))).run P w' = .ok (.tuple #[.int .i64 id, thV q]) w' → wpList P ops Q rest (a.put o.dst (.tuple #[.bool true, .int .i64 id, thV q])) w') : wpList P ops Q (o :: rest) a w := by
  refine wpList_plain hg fun K' hK' => ?_
  unfold Oper.wp
  rcases h.next hk o.type with ⟨h0, hl, hrun⟩ | ⟨id, q, w', n', g1, g2, g3, g4, g5, g6, g7, g8, g9⟩
  · simp [execOp, hop, hit, hrun, Result.andThen]
    exact hK' _ _ (hDone h0 hl)
  · simp [execOp, hop, hit, g4, Result.andThen]
    exact hK' _ _ (hMore id q w' n' g1 g2 g3 g5 g6 g7 g8 g9)
end
end Go.Proofs.YtkpecagkpjabdabGreat
/- The plain laws behind StoreTurns: what Spawn, Kill, Set and Change of the plain model make of a good store, in the things that it holds. No program in sight. -/
namespace Go.Proofs.YtkpecagkpjabdabGreat.M
open Go.RowKit
set_option linter.unusedVariables false
set_option linter.unusedSimpArgs false
set_option maxRecDepth 100000
set_option maxRecDepth 100000
/-- a thing of a good store -/
theorem good_thing {s : Store} (g : GoodS s) {id : Int} {p : Th} (h : look (entries s) id = some p) : (0 ≤ id ∧ id < s.next) ∧ goodRow p.1 p.2 = true := by
  have := (look_some g.nodup).1 (show look (entries s) id = some (p.1, p.2) from h)
  exact g.goodE.1 _ this
end Go.Proofs.YtkpecagkpjabdabGreat.M
/- Plain laws of the document's sweep: putting a pair or a number into its place; all with all. No condition, no program in sight. -/
namespace Go.Proofs.YtkpecagkpjabdabGreat.M
open Go.RowKit
set_option linter.unusedVariables false
set_option linter.unusedSimpArgs false
set_option maxRecDepth 100000
section
variable {α : Type}
/-- what stands while the place is looked for: a hole at k -/
def Hole (l : List α) (k : Nat) (out : List α) : Prop := ∃ x, out = l.take k ++ x :: l.drop k
theorem hole_start (l : List α) (p : α) : Hole l l.length (l ++ [p]) := ⟨p, by simp⟩
theorem hole_len {l out : List α} {k : Nat} (h : Hole l k out) (hk : k ≤ l.length) : out.length = l.length + 1 := by
  obtain ⟨x, rfl⟩ := h
  simp only [List.length_append, List.length_take, List.length_cons, List.length_drop]
  omega
theorem hole_at {l out : List α} {k j : Nat} (h : Hole l k out) (hk : k ≤ l.length) (hj : j < k) : out[j]? = l[j]? := by
  obtain ⟨x, rfl⟩ := h
  rw [List.getElem?_append_left (by rw [List.length_take]; omega), List.getElem?_take, if_pos hj]
theorem hole_set {l out : List α} {k : Nat} (h : Hole l k out) (hk : k ≤ l.length) (p : α) : out.set k p = l.take k ++ p :: l.drop k := by
  obtain ⟨x, rfl⟩ := h
  have e : (l.take k).length = k := by rw [List.length_take]; omega
  rw [List.set_append_right _ _ (by omega), e, Nat.sub_self, List.set_cons_zero]
theorem hole_go {l out : List α} {k : Nat} {y : α} (h : Hole l (k + 1) out) (hk : k + 1 ≤ l.length) (hy : l[k]? = some y) : Hole l k (out.set (k + 1) y) := by
  refine ⟨y, ?_⟩
  rw [hole_set h hk]
  have hlt : k < l.length := by omega
  rw [List.take_add_one, hy, List.append_assoc]
  rw [show l.drop k = y :: l.drop (k + 1) from by
    rw [List.drop_eq_getElem_cons hlt]
    congr 1
    have := List.getElem?_eq_getElem hlt
    rw [this] at hy
    simpa using hy]
  rfl
theorem ins_ok (le : α → α → Bool) (tr : ∀ a b c, le a b = true → le b c = true → le a c = true) (tot : ∀ a b, (le a b || le b a) = true) {l : List α} (s : l.Pairwise (fun a b => le a b = true)) {p : α} {k : Nat} (hk : k ≤ l.length)
    (h1 : ∀ q ∈ l.drop k, le q p = false) (h2 : ∀ j q, j + 1 = k → l[j]? = some q → le q p = true) :
    (l.take k ++ p :: l.drop k).Pairwise (fun a b => le a b = true) ∧ (l.take k ++ p :: l.drop k).Perm (l ++ [p]) := by
  constructor
  · have s' : (l.take k ++ l.drop k).Pairwise (fun a b => le a b = true) := by rw [List.take_append_drop]; exact s
    rw [List.pairwise_append] at s' ⊢
    obtain ⟨s1, s2, s3⟩ := s'
    have up : ∀ q ∈ l.drop k, le p q = true := fun q hq => by
      have := tot p q
      rw [h1 q hq] at this
      simpa using this
    have lo : ∀ q ∈ l.take k, le q p = true := by
      intro q hq
      cases k with
      | zero => simp at hq
      | succ j =>
        have hlt : j < l.length := by omega
        have hj := h2 j l[j] rfl (List.getElem?_eq_getElem hlt)
        rw [List.take_add_one, List.getElem?_eq_getElem hlt] at hq
        simp only [Option.toList_some, List.mem_append, List.mem_singleton] at hq
        rcases hq with hq | rfl
        · rw [List.take_add_one, List.getElem?_eq_getElem hlt] at s1
          simp only [Option.toList_some, List.pairwise_append, List.mem_singleton] at s1
          exact tr _ _ _ (s1.2.2 q hq _ rfl) hj
        · exact hj
    refine ⟨s1, List.pairwise_cons.2 ⟨fun q hq => up q hq, s2⟩, fun a ha b hb => ?_⟩
    rcases List.mem_cons.1 hb with rfl | hb
    · exact lo a ha
    · exact s3 a ha b hb
  · refine List.perm_middle.trans ?_
    rw [List.take_append_drop]
    exact (List.perm_append_singleton p l).symm
end
/-- the pairs of box i with those before it, of the first j -/
theorem meets1_snoc (seen : List Box) (a b : Box) : meets1 (seen ++ [a]) b = meets1 seen b ++ (if meetB a b = true then [pairOf a.id b.id] else []) := by
  unfold meets1
  rw [List.filter_append, List.map_append]
  simp only [List.filter_cons, List.filter_nil]
  split <;> rfl
/-- who is asked for all pairs tells them in their order -/
theorem pairs_of_sorted {l : List Box} (g : goodB l = true) {out : List Pr} (hp : out.Perm (allP l)) (s : out.Pairwise (fun a b => leP a b = true)) : out = pairs l := by
  unfold pairs
  rw [if_pos g]
  exact sortP_of hp s
end Go.Proofs.YtkpecagkpjabdabGreat.M
/- Plain: the document's step, over things by number, is the program's, over tables. Condition: the world is a good one. No program in sight. -/
namespace Go.Proofs.YtkpecagkpjabdabGreat.M
open Go.RowKit
set_option linter.unusedVariables false
set_option linter.unusedSimpArgs false
set_option maxRecDepth 100000
set_option maxRecDepth 100000
/-- one thing goes on, if it moves -/
def goTh (h : Int → Row → Row) (t : Th) : Th := if moves t.1 = true then (t.1, h t.1 t.2) else t
def goS (h : Int → Row → Row) (L : Int → Option Th) (id : Int) : Int → Option Th :=
  if moves ((L id).getD th0).1 = true then upd L id (((L id).getD th0).1, h ((L id).getD th0).1 ((L id).getD th0).2) else L
theorem moves_th0 : moves th0.1 = false := by decide
theorem goS_at (h : Int → Row → Row) (L : Int → Option Th) (id j : Int) : goS h L id j = if j = id then (L j).map (goTh h) else L j := by
  unfold goS
  cases hL : L id with
  | none =>
    simp only [Option.getD_none]
    rw [if_neg (by rw [moves_th0]; simp)]
    by_cases hj : j = id
    · subst hj; rw [if_pos rfl, hL]; rfl
    · rw [if_neg hj]
  | some t =>
    simp only [Option.getD_some]
    by_cases hj : j = id
    · subst hj
      rw [if_pos rfl, hL]
      unfold goTh
      simp only [Option.map_some]
      by_cases hm : moves t.1 = true
      · rw [if_pos hm, if_pos hm]; simp [upd]
      · rw [if_neg hm, if_neg hm]; exact hL
    · rw [if_neg hj]
      split
      · simp [upd, hj]
      · rfl
theorem foldS_at (h : Int → Row → Row) (zs : List Int) (hn : zs.Nodup) (L : Int → Option Th) (j : Int) : zs.foldl (goS h) L j = if j ∈ zs then (L j).map (goTh h) else L j := by
  induction zs generalizing L with
  | nil => simp
  | cons a zs ih =>
    obtain ⟨h1, h2⟩ := List.nodup_cons.1 hn
    rw [List.foldl_cons, ih h2, goS_at]
    by_cases hj : j = a
    · subst hj
      rw [if_neg h1, if_pos rfl, if_pos (by simp)]
    · rw [if_neg hj]
      by_cases hz : j ∈ zs
      · rw [if_pos hz, if_pos (by simp [hz])]
      · rw [if_neg hz, if_neg (by simp [hj, hz])]
theorem foldT_at {h : Int → Row → Row} (hfit : ∀ m r, Fits m r → moves m = true → Fits m (h m r)) {f : Store → Int → Store}
    (hf : ∀ s, GoodS s → ∀ id m q, at_ s id = some (m, q) → f s id = (set s id (h m q)).1) (l : List Int) (hn : l.Nodup) {s : Store} (g : GoodS s) (hl : ∀ id ∈ l, Mover s id) :
    GoodS (l.foldl f s) ∧ (l.foldl f s).next = s.next ∧ ∀ j, at_ (l.foldl f s) j = if j ∈ l then (at_ s j).map (goTh h) else at_ s j := by
  induction l generalizing s with
  | nil => exact ⟨g, rfl, fun j => by simp⟩
  | cons a l ih =>
    obtain ⟨h1, h2⟩ := List.nodup_cons.1 hn
    obtain ⟨m, q, e, hm⟩ := hl a (by simp)
    have e1 := hf s g a m q e
    obtain ⟨_, g1, n1, a1⟩ := set_at g e (goodRow_fits.2 (hfit m q (at_fits g e) hm))
    rw [← e1] at g1 n1 a1
    have hl2 : ∀ id ∈ l, Mover (f s a) id := by
      intro id hid
      obtain ⟨m', q', e', hm'⟩ := hl id (List.mem_cons_of_mem _ hid)
      refine ⟨m', q', ?_, hm'⟩
      rw [a1, if_neg (fun e => by subst e; exact h1 hid)]
      exact e'
    obtain ⟨k1, k2, k3⟩ := ih h2 g1 hl2
    refine ⟨k1, k2.trans n1, fun j => ?_⟩
    rw [List.foldl_cons, k3, a1]
    by_cases hj : j = a
    · subst hj
      rw [if_neg h1, if_pos rfl, if_pos (by simp), e]
      unfold goTh
      simp only [Option.map_some]
      rw [if_pos hm]
    · rw [if_neg hj]
      by_cases hz : j ∈ l
      · rw [if_pos hz, if_pos (by simp [hz])]
      · rw [if_neg hz, if_neg (by simp [hj, hz])]
/-- what is said of the keys of things -/
def Keys (zs : List Int) (L : Int → Option Th) : Prop := zs.Nodup ∧ ∀ z, z ∈ zs ↔ (L z).isSome = true
theorem all_same {h : Int → Row → Row} (hfit : ∀ m r, Fits m r → moves m = true → Fits m (h m r)) {f : Store → Int → Store}
    (hf : ∀ s, GoodS s → ∀ id m q, at_ s id = some (m, q) → f s id = (set s id (h m q)).1) {s : Store} (g : GoodS s) {zs : List Int} (hz : Keys zs (at_ s)) :
    at_ ((query s 11).foldl f s) = zs.foldl (goS h) (at_ s) := by
  funext j
  obtain ⟨_, _, k⟩ := foldT_at hfit hf (query s 11) (query_nodup g 11) g (fun id hid => (query_mover g).1 hid)
  rw [k, foldS_at h zs hz.1]
  cases hj : at_ s j with
  | none => simp
  | some t =>
    rw [if_pos ((hz.2 j).2 (by rw [hj]; rfl))]
    simp only [Option.map_some]
    by_cases hm : moves t.1 = true
    · rw [if_pos ((query_mover g).2 ⟨t.1, t.2, hj, hm⟩)]
    · rw [if_neg (fun hq => by
        obtain ⟨m, q, e, hmv⟩ := (query_mover g).1 hq
        rw [hj] at e
        simp only [Option.some.injEq] at e
        subst e
        exact hm hmv)]
      unfold goTh
      rw [if_neg hm]
/-- the first loop -/
theorem gone_same {w : Wd} (g : GoodS w.things) {zs : List Int} (hz : Keys zs (at_ w.things)) : at_ (gone w) = zs.foldl (goS (goneRow w.fall)) (at_ w.things) := by
  unfold gone
  refine all_same (fun m r hf hm => gone_fits hf hm) (fun s gs id m q e => ?_) g hz
  unfold goOn
  rw [get_at gs, e]
  rfl
/-- the last loop -/
theorem ends_same {w : Wd} (gw : GoodWd w) {zs : List Int} (hz : Keys zs (at_ (met w).1)) : at_ (ends w) = zs.foldl (goS (fun _ r => walledRow w.wide w.high r)) (at_ (met w).1) := by
  unfold ends
  refine all_same (fun m r hf hm => walled_fits hf hm gw.wide gw.high) (fun s gs id m q e => ?_) (kept_met gw.things).good hz
  unfold walled
  rw [get_at gs, e]
  rfl
/-- two meet, over things by number -/
def metS (st : (Int → Option Th) × List Pr) (p : Pr) : (Int → Option Th) × List Pr :=
  let a := (st.1 p.1).getD th0
  let b := (st.1 p.2).getD th0
  let fa := freeRow a.1 a.2
  let fb := freeRow b.1 b.2
  if meets fa fb then
    let L1 := if moves a.1 then upd st.1 p.1 (a.1, (meet fa fb).1) else st.1
    (if moves b.1 then upd L1 p.2 (b.1, (meet fa fb).2) else L1, st.2 ++ [p])
  else st
theorem set_upd {s : Store} (g : GoodS s) {id m : Int} {q r : Row} (h : at_ s id = some (m, q)) (hr : goodRow m r = true) : at_ (set s id r).1 = upd (at_ s) id (m, r) := by
  obtain ⟨_, _, _, a1⟩ := set_at g h hr
  funext o
  rw [a1]
  rfl
theorem back_upd {s : Store} (g : GoodS s) {id m : Int} {q x : Row} (h : at_ s id = some (m, q)) (hb : SameBody x (freeRow m q)) (hi : InBounds x) :
    at_ (backTo s id m x) = if moves m then upd (at_ s) id (m, x) else at_ s := by
  unfold backTo
  by_cases hm : moves m = true
  · rw [if_pos hm, if_pos hm]
    have e : freeRow m q = q := by unfold freeRow; rw [if_pos hm]
    rw [e] at hb
    exact set_upd g h (goodRow_fits.2 (met_fits (at_fits g h) hm hb hi))
  · rw [if_neg hm, if_neg hm]
theorem metS_step {s : Store} (g : GoodS s) (k : List Pr) {p : Pr} (h1 : ∃ m r, at_ s p.1 = some (m, r)) (h2 : ∃ m r, at_ s p.2 = some (m, r)) (hne : p.1 ≠ p.2) :
    at_ (meetStep (s, k) p).1 = (metS (at_ s, k) p).1 ∧ (meetStep (s, k) p).2 = (metS (at_ s, k) p).2 := by
  obtain ⟨m1, r1, e1⟩ := h1
  obtain ⟨m2, r2, e2⟩ := h2
  rw [meetStep_eq e1 e2 g]
  unfold metS
  simp only [e1, e2, Option.getD_some]
  have f1 := freeRow_in (m := m1) (at_fits g e1).inBounds
  have f2 := freeRow_in (m := m2) (at_fits g e2).inBounds
  have i := meet_in f1 f2
  have b := meet_body (freeRow m1 r1) (freeRow m2 r2)
  cases hmt : meets (freeRow m1 r1) (freeRow m2 r2)
  · exact ⟨rfl, rfl⟩
  · simp only [cond_true, if_true, and_true]
    have u1 := back_upd g e1 b.1 i.1
    have g1 := (kept_backTo g e1 b.1 i.1).good
    have e3 : at_ (backTo s p.1 m1 (meet (freeRow m1 r1) (freeRow m2 r2)).1) p.2 = some (m2, r2) := by
      rw [u1]
      split
      · rw [show upd (at_ s) p.1 (m1, (meet (freeRow m1 r1) (freeRow m2 r2)).1) p.2 = at_ s p.2 from if_neg (fun e => hne e.symm)]; exact e2
      · exact e2
    rw [back_upd g1 e3 b.2 i.2, u1]
theorem metS_fold {s : Store} (g : GoodS s) (l : List Pr) (k : List Pr) (hl : ∀ p ∈ l, (∃ m r, at_ s p.1 = some (m, r)) ∧ (∃ m r, at_ s p.2 = some (m, r)) ∧ p.1 < p.2) :
    at_ (l.foldl meetStep (s, k)).1 = (l.foldl metS (at_ s, k)).1 ∧ (l.foldl meetStep (s, k)).2 = (l.foldl metS (at_ s, k)).2 := by
  induction l generalizing s k with
  | nil => exact ⟨rfl, rfl⟩
  | cons p l ih =>
    obtain ⟨h1, h2, h3⟩ := hl p (by simp)
    have k1 := kept_meetStep g k h1 h2 (by omega)
    obtain ⟨a1, a2⟩ := metS_step g k h1 h2 (by omega)
    rw [List.foldl_cons, List.foldl_cons]
    rcases hs : meetStep (s, k) p with ⟨s1, l1⟩
    rw [hs] at k1 a1 a2
    simp only at a1 a2 k1
    have e : metS (at_ s, k) p = (at_ s1, l1) := by rw [a1, a2]
    rw [e]
    refine ih k1.good l1 (fun q hq => ?_)
    obtain ⟨a, b, c⟩ := hl q (List.mem_cons_of_mem _ hq)
    exact ⟨k1.isThere a, k1.isThere b, c⟩
theorem met_same {w : Wd} (g : GoodS w.things) : at_ (met w).1 = ((pairs (boxes (gone w))).foldl metS (at_ (gone w), [])).1 ∧ (met w).2 = ((pairs (boxes (gone w))).foldl metS (at_ (gone w), [])).2 := by
  unfold met
  exact metS_fold (kept_gone g).good _ _ (fun p hp => pairs_at (kept_gone g).good hp)
end Go.Proofs.YtkpecagkpjabdabGreat.M
/- Plain: what the document's Do makes of things by number is what the program's makes of tables: give, take, kick. Condition: the store is a good one. No program in sight. -/
namespace Go.Proofs.YtkpecagkpjabdabGreat.M
open Go.RowKit
set_option linter.unusedVariables false
set_option linter.unusedSimpArgs false
set_option maxRecDepth 100000
set_option maxRecDepth 100000
end Go.Proofs.YtkpecagkpjabdabGreat.M
/- Plain: the keys and the size of a store, by what is there under each number; one step and a step's things. Condition: good stores. No program in sight. -/
namespace Go.Proofs.YtkpecagkpjabdabGreat.M
open Go.RowKit
set_option linter.unusedVariables false
set_option linter.unusedSimpArgs false
set_option maxRecDepth 100000
set_option maxRecDepth 100000
theorem and0_tab : ∀ m : Fin 32, bits .and .i64 m.val 0 = 0 := by decide
def allIds (s : Store) : List Int := query s 0
theorem allIds_mem {s : Store} (g : GoodS s) (z : Int) : z ∈ allIds s ↔ (at_ s z).isSome = true := by
  unfold allIds
  rw [mem_query_at g]
  constructor
  · rintro ⟨n, r, h, _⟩; rw [h]; rfl
  · intro h
    obtain ⟨⟨n, r⟩, h⟩ := Option.isSome_iff_exists.1 h
    refine ⟨n, r, h, ?_⟩
    have hf := at_fits g h
    obtain ⟨f, rfl⟩ := fin_of (m := n) (by have := hf.lo; omega) hf.hi
    exact and0_tab f
theorem allIds_nodup {s : Store} (g : GoodS s) : (allIds s).Nodup := query_nodup g 0
theorem at_next {s : Store} (g : GoodS s) : at_ s s.next = none := by
  cases h : at_ s s.next with
  | none => rfl
  | some p => have := (good_thing g (show look (entries s) s.next = some p from h)).1; omega
end Go.Proofs.YtkpecagkpjabdabGreat.M
/- Plain laws behind the document's ThingsOf: what has been taken over so far, and why it answers no. No condition, no program in sight. -/
namespace Go.Proofs.YtkpecagkpjabdabGreat.M
open Go.RowKit
set_option linter.unusedVariables false
set_option linter.unusedSimpArgs false
set_option maxRecDepth 100000
/-- the mask of the table ahead of table n; 0: there is none -/
def lastM (s : Store) : Nat → Int
  | 0 => 0
  | n + 1 => match s.tables[n]? with | some t => t.mask | none => 0
theorem lastM_succ {s : Store} {n : Nat} {t : Table} (h : s.tables[n]? = some t) : lastM s (n + 1) = t.mask := by simp [lastM, h]
/-- a store, with the bound on its numbers as the document reckons it -/
def alike (s : Store) : Store := ⟨s.tables, wrap64 (s.next - 1) + 1⟩
theorem alike_eq {s : Store} (h : 0 ≤ s.next) (h1 : s.next ≤ 9223372036854775807) : alike s = s := by
  unfold alike
  rw [IntWalk.wrap64_in _ (by omega)]
  simp
theorem alike_bad {s : Store} (h : good (alike s) = false) : good s = false := by
  cases hg : good s
  · rfl
  · have g := (good_iff s).1 hg
    rw [alike_eq g.2.2.2.2.1 (by have := g.2.2.2.2.2; omega), hg] at h
    cases h
theorem good_last {s : Store} (h : Upto (alike s) s.tables.length) : good s = (decide (((idsT s.tables).length : Int) ≤ 10) && decide (0 ≤ s.next ∧ s.next ≤ 1048576)) := by
  by_cases hn : 0 ≤ s.next ∧ s.next ≤ 1048576
  · rw [alike_eq hn.1 (by omega)] at h
    obtain ⟨a, b, c⟩ := h
    rw [List.take_length] at a b c
    rw [decide_eq_true hn, Bool.and_true, Bool.eq_iff_iff, good_iff, decide_eq_true_eq]
    unfold GoodS
    constructor
    · intro g; have := g.2.2.2.1; omega
    · intro g; exact ⟨a, b, c, by omega, hn.1, hn.2⟩
  · rw [decide_eq_false hn, Bool.and_false]
    cases hg : good s
    · rfl
    · have g := (good_iff s).1 hg
      exact absurd ⟨g.2.2.2.2.1, g.2.2.2.2.2⟩ hn
/-- a table's first row says that its mask is from 1 to 31 -/
theorem ok_mask {next : Int} {t : Table} (h : TableOk next t) : 1 ≤ t.mask ∧ t.mask ≤ 31 := by
  obtain ⟨h1, h2, h3, h4⟩ := h
  obtain ⟨r, l, e⟩ : ∃ r l, t.rows = r :: l := by
    cases hr : t.rows with
    | nil => rw [hr] at h2; exact absurd (List.length_eq_zero_iff.1 h2) h1
    | cons r l => exact ⟨r, l, rfl⟩
  have := h4 r (by rw [e]; simp)
  unfold goodRow at this
  simp only [Bool.and_eq_true, decide_eq_true_eq] at this
  exact this.1
theorem bad_first {s : Store} {n : Nat} {t : Table} (ht : s.tables[n]? = some t) (h : t.mask ≤ 0) : good s = false := by
  cases hg : good s
  · rfl
  · have g := (good_iff s).1 hg
    have := ok_mask (g.1 t (List.mem_of_getElem? ht))
    omega
theorem bad_last {s : Store} {n : Nat} {t : Table} (ht : s.tables[n]? = some t) (h : t.mask ≤ lastM s n) : good s = false := by
  cases n with
  | zero => exact bad_first ht h
  | succ n =>
    obtain ⟨p, hp⟩ : ∃ p, s.tables[n]? = some p := ⟨_, List.getElem?_eq_getElem (by have := (List.getElem?_eq_some_iff.1 ht).1; omega)⟩
    rw [lastM_succ hp] at h
    exact bad_mask ht (by omega) (p := p) (by simpa using hp) h
theorem last_up {s : Store} {n : Nat} {t : Table} (h : ¬ t.mask ≤ lastM s n) : ∀ p, 0 < n → s.tables[n - 1]? = some p → p.mask < t.mask := by
  intro p hn hp
  obtain ⟨m, rfl⟩ : ∃ m, n = m + 1 := ⟨n - 1, by omega⟩
  simp only [Nat.add_sub_cancel] at hp
  rw [lastM_succ hp] at h
  omega
theorem ids_le (l : List Table) (N : Nat) (h : ∀ t ∈ l, t.ids.length ≤ N) : (idsT l).length ≤ l.length * N := by
  induction l with
  | nil => simp [idsT]
  | cons t l ih =>
    have e : (idsT (t :: l)).length = t.ids.length + (idsT l).length := by simp [idsT]
    have := h t (by simp)
    have := ih (fun t ht => h t (by simp [ht]))
    rw [e, List.length_cons, Nat.succ_mul]
    omega
/-- there are few tables: so there are not too many things -/
theorem upto_small {s : Store} {n : Nat} (h : Upto s n) (hs : ∀ t ∈ s.tables, t.ids.length ≤ 17592186044416) : (idsT (s.tables.take n)).length ≤ 562949953421312 := by
  have hm : (s.tables.take n).length ≤ 32 := by
    have h1 : ((s.tables.take n).map (·.mask)).Nodup := by
      unfold List.Nodup
      rw [List.pairwise_map]
      exact h.2.1.imp (fun h => by omega)
    have := nodup_bound ((s.tables.take n).map (·.mask)) 32 h1 (fun m hm => by
      obtain ⟨t, ht, rfl⟩ := List.mem_map.1 hm
      have := ok_mask (h.1 t ht)
      omega)
    rwa [List.length_map] at this
  have := ids_le (s.tables.take n) 17592186044416 (fun t ht => hs t (List.mem_of_mem_take ht))
  have h3 : (s.tables.take n).length * 17592186044416 ≤ 32 * 17592186044416 := Nat.mul_le_mul_right _ hm
  omega
/-- one thing more -/
theorem look_snoc {E : List Entry} {id m : Int} {r : Row} (h : id ∉ E.map (·.1)) : look (E ++ [(id, m, r)]) = upd (look E) id (m, r) := by
  funext j
  unfold upd
  have hn := look_none.2 h
  unfold look at hn ⊢
  rw [List.find?_append]
  by_cases hj : j = id
  · subst hj
    rw [if_pos rfl]
    simp only [Option.map_eq_none_iff] at hn
    rw [hn]
    simp
  · rw [if_neg hj]
    cases hf : E.find? fun e => e.1 == j with
    | some x => simp
    | none =>
      have : ¬ id = j := fun e => hj e.symm
      simp [this]
/-- what has been taken over: the first n tables, and k things of the next one -/
def taken (s : Store) (n k : Nat) (t : Table) : List Entry := entriesT (s.tables.take n) ++ t.entries.take k
theorem taken_zero (s : Store) (n : Nat) (t : Table) : taken s n 0 t = entriesT (s.tables.take n) := by simp [taken]
theorem taken_succ {s : Store} {n k : Nat} {t : Table} {id : Int} {r : Row} (hi : t.ids[k]? = some id) (hr : t.rows[k]? = some r) : taken s n (k + 1) t = taken s n k t ++ [(id, t.mask, r)] := by
  unfold taken
  rw [take_snoc (t := (id, t.mask, r)), List.append_assoc]
  unfold Table.entries
  have hz : (t.ids.zip t.rows)[k]? = some (id, r) := List.getElem?_zip_eq_some.2 ⟨hi, hr⟩
  rw [List.getElem?_map, hz]
  rfl
theorem taken_all {s : Store} {n : Nat} {t : Table} (ht : s.tables[n]? = some t) (hl : t.ids.length = t.rows.length) : taken s n t.ids.length t = entriesT (s.tables.take (n + 1)) := by
  unfold taken
  have he : t.entries.take t.ids.length = t.entries := List.take_of_length_le (by rw [entries_len t hl]; exact Nat.le_refl _)
  rw [take_snoc ht, entriesT_append, he]
  simp [entriesT]
theorem taken_ids {s : Store} {n k : Nat} {t : Table} (he : ∀ u ∈ s.tables.take n, u.ids.length = u.rows.length) (hl : t.ids.length = t.rows.length) : (taken s n k t).map (·.1) = idsT (s.tables.take n) ++ t.ids.take k := by
  unfold taken
  rw [List.map_append, entriesT_ids _ he, List.map_take, entries_ids t hl]
theorem upto_even {s : Store} {n : Nat} (h : Upto s n) : ∀ u ∈ s.tables.take n, u.ids.length = u.rows.length := fun u hu => (h.1 u hu).2.1
theorem look_some_iff {E : List Entry} {id : Int} : (look E id).isSome = decide (id ∈ E.map (·.1)) := by
  by_cases h : id ∈ E.map (·.1)
  · rw [decide_eq_true h]
    cases hl : look E id with
    | some x => rfl
    | none => exact absurd h (look_none.1 hl)
  · rw [decide_eq_false h, look_none.2 h]
    rfl
end Go.Proofs.YtkpecagkpjabdabGreat.M
/- A region that draws its order; what its operations yield and make of memory is told by a predicate on what is done, which may speak of things made on the way (ghosts). Condition: what each operation gives, from what is known of those that it waits for. -/
namespace Go.Proofs.YtkpecagkpjabdabGreat
open Go Go.RowKit
set_option linter.unusedVariables false
set_option linter.unusedSimpArgs false
set_option maxRecDepth 100000
structure DG (γ : Type) where
  P : Program
  ops : Array Oper
  a0 : Act
  n : Nat
  slot : Nat → Option Nat
  val : γ → Nat → Value
  needs : Nat → List Nat
  mem : γ → Array Bool → World → Prop
namespace DG
variable {γ : Type} (c : DG γ)
structure Inv (l : Array Bool) (a : Act) (W : World) : Prop where
  size : l.size = c.n
  len : a.tmps.size = c.a0.tmps.size
  defers : a.defers = c.a0.defers
  other : ∀ s : Nat, (∀ k, k < c.n → c.slot k ≠ some s) → a.eval (.tmp s) = c.a0.eval (.tmp s)
  closed : ∀ k j, j ∈ c.needs k → l.getD k false = true → l.getD j false = true
  ghost : ∃ g : γ, (∀ k s, k < c.n → c.slot k = some s → l.getD k false = true → a.eval (.tmp s) = c.val g k) ∧ c.mem g l W
structure Facts (k : Nat) (g : γ) (l : Array Bool) (a : Act) (W : World) : Prop where
  vals : ∀ j s, j ∈ c.needs k → c.slot j = some s → a.eval (.tmp s) = c.val g j
  other : ∀ s : Nat, (∀ k, k < c.n → c.slot k ≠ some s) → a.eval (.tmp s) = c.a0.eval (.tmp s)
  listed : ∀ j, j ∈ c.needs k → l.getD j false = true
  closed : ∀ k j, j ∈ c.needs k → l.getD k false = true → l.getD j false = true
  not : l.getD k false = false
  size : l.size = c.n
  mem : c.mem g l W
def StepOk (Q : Exit → Act → World → Prop) (k : Nat) : Prop :=
  ∀ g l a W, c.Facts k g l a W → ∀ o, c.ops[k]? = some o → ∀ K : Act → World → Prop, (∀ g' W', (∀ j, j < c.n → j ≠ k → l.getD j false = true → c.val g' j = c.val g j) → c.mem g' (l.setIfInBounds k true) W' → K (a.put (c.slot k) (c.val g' k)) W') → o.wp c.P a W K Q
structure Ok (Q : Exit → Act → World → Prop) : Prop where
  size : c.ops.size = c.n
  guards : ∀ k, k < c.n → ∀ o, c.ops[k]? = some o → o.guard = none
  waits : ∀ k, k < c.n → ∀ j ∈ c.needs k, waits .any c.ops k j = true
  step : ∀ k, k < c.n → c.StepOk Q k
  inj : ∀ j k s, j < c.n → k < c.n → c.slot j = some s → c.slot k = some s → j = k
  room : ∀ k s, k < c.n → c.slot k = some s → s < c.a0.tmps.size
variable {c} {l : Array Bool} {a : Act} {W : World} {Q : Exit → Act → World → Prop}
theorem set_ne {l : Array Bool} {i k : Nat} (h : i ≠ k) : (l.setIfInBounds i true).getD k false = l.getD k false := by
  by_cases hk : k < l.size
  · simp [Array.getD, hk, Array.getElem_setIfInBounds, h]
  · simp [Array.getD, hk]
theorem set_eq {l : Array Bool} {i : Nat} (h : i < l.size) : (l.setIfInBounds i true).getD i false = true := by
  simp [Array.getD, h]
theorem step (ok : c.Ok Q) {k : Nat} (h : c.Inv l a W) (hi : k ∈ Region.ready .any c.ops l) : wpOp c.P c.ops Q k (c.Inv (l.setIfInBounds k true)) a W := by
  have hk : k < c.n := ok.size ▸ (ready_spec hi).2.1
  obtain ⟨o, ho⟩ : ∃ o, c.ops[k]? = some o := ⟨_, Array.getElem?_eq_getElem (by have := ok.size; omega)⟩
  have hnot := (getD_two (ready_spec hi).1).2
  obtain ⟨g, hv, hm0⟩ := h.ghost
  have F : c.Facts k g l a W := ⟨fun j s hj hs => by
    have hl := ready_dep hi j (ok.waits k hk j hj)
    have hjn : j < c.n := by
      by_cases hjs : j < l.size
      · have := h.size; omega
      · simp [Array.getD, hjs] at hl
    exact hv j s hjn hs hl, h.other, fun j hj => ready_dep hi j (ok.waits k hk j hj), h.closed, hnot, h.size, hm0⟩
  refine wpOp_run ho (ok.guards k hk o ho) (ok.step k hk g l a W F o ho _ (fun g' W' hg' hm => ?_))
  refine ⟨by simp [h.size], ?_, ?_, ?_, ?_, g', ?_, hm⟩
  · cases hsl : c.slot k with
    | none => exact h.len
    | some t => simp [Act.put, h.len]
  · cases hsl : c.slot k with
    | none => exact h.defers
    | some t => exact h.defers
  · intro s hs
    cases hsl : c.slot k with
    | none => exact h.other s hs
    | some t => rw [put_other (fun e => hs k hk (by rw [hsl, e]))]; exact h.other s hs
  · intro k' j hj hl
    rcases set_getD hl with rfl | hl
    · exact getD_set (ready_dep hi j (ok.waits _ hk j hj))
    · exact getD_set (h.closed k' j hj hl)
  · intro j s hj hs hl
    by_cases hjk : k = j
    · subst hjk
      rw [hs, put_same (by have := ok.room k s hk hs; have := h.len; omega)]
    · rw [set_ne hjk] at hl
      rw [hg' j hj (fun e => hjk e.symm) hl]
      cases hsl : c.slot k with
      | none => exact hv j s hj hs hl
      | some t =>
        rw [put_other (fun e => hjk (ok.inj k j s hk hj (by rw [hsl, e]) hs))]
        exact hv j s hj hs hl
/-- the whole region -/
theorem region (ok : c.Ok Q) (hord : ((List.range c.n).all fun i => ((c.ops[i]?).map fun o => o.after.toList.all fun e => !Region.binds .any e || decide (e.on < i)).getD true) = true)
    (g0 : γ) (hW : c.mem g0 (Array.replicate c.n false) W)
    (hQ : ∀ (a' : Act) (g : γ) (l : Array Bool) (W' : World), a'.tmps.size = c.a0.tmps.size → a'.defers = c.a0.defers → (∀ s : Nat, (∀ k, k < c.n → c.slot k ≠ some s) → a'.eval (.tmp s) = c.a0.eval (.tmp s)) →
      (∀ k s, k < c.n → c.slot k = some s → a'.eval (.tmp s) = c.val g k) → (∀ k, k < c.n → l.getD k false = true) → c.mem g l W' → Q .normal a' W') :
    wpAny c.P .any c.ops Q c.n (Array.replicate c.n false) c.a0 W := by
  have z : ∀ k, (Array.replicate c.n false).getD k false = false := fun k => by
    by_cases hk : k < c.n <;> simp [Array.getD, hk]
  have no : ∀ {b : Bool} {q : Prop}, b = false → b = true → q := fun h1 h2 => by rw [h1] at h2; cases h2
  refine wpAny_inv c.Inv ?_ (fun d a w i h hi => step ok h hi) c.n _ _ _ (by unfold Undone; simp) ⟨by simp, rfl, rfl, fun _ _ => rfl, fun k j _ hl => no (z k) hl, g0, fun k s _ _ hl => no (z k) hl, hW⟩
  intro d a w h hr
  have all := all_done hr (by rw [h.size, ok.size]) (by
    intro i hi o ho e he hb
    have h1 := List.all_eq_true.1 hord i (List.mem_range.2 (ok.size ▸ hi))
    rw [ho] at h1
    simp only [Option.map_some, Option.getD_some] at h1
    have h2 := List.all_eq_true.1 h1 e he
    simpa [hb] using h2)
  rw [ok.size] at all
  obtain ⟨g, hv, hm⟩ := h.ghost
  exact hQ a g d w h.len h.defers h.other (fun k s hk hs => hv k s hk hs (all k hk)) all hm
theorem tmps_eval (a : Act) (s : Nat) : a.tmps[s]?.getD undef = a.eval (.tmp s) := by simp [Act.eval]
/-- slots of a frame that have been written, one behind the other -/
def setQ (A : Array Value) : List (Nat × Value) → Array Value
  | [] => A
  | p :: L => setQ (A.setIfInBounds p.1 p.2) L
theorem setQ_size (A : Array Value) (L : List (Nat × Value)) : (setQ A L).size = A.size := by
  induction L generalizing A with
  | nil => rfl
  | cons p L ih => rw [setQ, ih]; simp
theorem setQ_get (tm A : Array Value) (S : List Nat) (i : Nat) (hi : i < A.size) : (setQ A (S.map fun s => (s, tm.getD s undef)))[i]? = if i ∈ S then some (tm.getD i undef) else A[i]? := by
  induction S generalizing A with
  | nil => simp [setQ]
  | cons s S ih =>
    rw [List.map_cons, setQ, ih _ (by simpa using hi)]
    by_cases h1 : i ∈ S
    · rw [if_pos h1, if_pos (List.mem_cons_of_mem _ h1)]
    · rw [if_neg h1, Array.getElem?_setIfInBounds]
      by_cases h2 : s = i
      · subst h2
        simp [hi]
      · rw [if_neg h2, if_neg (by simp only [List.mem_cons, not_or]; exact ⟨fun e => h2 e.symm, h1⟩)]
theorem frameQ {tm A : Array Value} {n : Nat} (S : List Nat) (hz : tm.size = n) (hA : A.size = n) (h : ∀ i, i ∉ S → tm.getD i undef = A.getD i undef) : tm = setQ A (S.map fun s => (s, tm.getD s undef)) := by
  apply Array.ext_getElem?
  intro i
  by_cases hi : i < n
  · rw [setQ_get _ _ _ _ (by omega)]
    have e : tm[i]? = some (tm.getD i undef) := by simp [Array.getD, hz, hi]
    rw [e]
    by_cases h1 : i ∈ S
    · rw [if_pos h1]
    · rw [if_neg h1, h i h1]
      simp [Array.getD, hA, hi]
  · rw [Array.getElem?_eq_none (by omega), Array.getElem?_eq_none (by rw [setQ_size]; omega)]
theorem wp_named {P : Program} {c : Code} {Q : Exit → Act → World → Prop} {a : Act} {w : World} (h : ∀ A, A = a → c.wp P Q A w) : c.wp P Q a w := h a rfl
theorem StepOk.of {k : Nat} {x : Op × Option Nat} (hx : (c.ops[k]?).map (fun o => (o.op, o.dst)) = some x) (H : ∀ g l a W, c.Facts k g l a W → ∀ o : Oper, o.op = x.1 → o.dst = x.2 → ∀ K : Act → World → Prop, (∀ g' W', (∀ j, j < c.n → j ≠ k → l.getD j false = true → c.val g' j = c.val g j) → c.mem g' (l.setIfInBounds k true) W' → K (a.put (c.slot k) (c.val g' k)) W') → o.wp c.P a W K Q) : c.StepOk Q k :=
  fun g l a W F o ho K hK => H g l a W F o (by rw [ho] at hx; simp only [Option.map_some, Option.some.injEq] at hx; rw [← hx]) (by rw [ho] at hx; simp only [Option.map_some, Option.some.injEq] at hx; rw [← hx]) K hK
theorem ok_of {N : Nat} (hs : c.ops.size = c.n) (hg : (c.ops.toList.all fun o => o.guard.isNone) = true) (hw : ((List.range c.n).all fun k => (c.needs k).all fun j => waits .any c.ops k j) = true)
    (hi : ((List.range c.n).all fun j => (List.range c.n).all fun k => match c.slot j, c.slot k with | some s, some t => s != t || j == k | _, _ => true) = true) (hz : c.a0.tmps.size = N)
    (hr : ((List.range c.n).all fun j => match c.slot j with | some s => decide (s < N) | none => true) = true) (hst : ∀ k, k < c.n → c.StepOk Q k) : c.Ok Q where
  size := hs
  guards := fun k _ o ho => by simpa using List.all_eq_true.1 hg o (List.mem_of_getElem? (by rw [Array.getElem?_toList]; exact ho))
  waits := fun k hk j hj => List.all_eq_true.1 (List.all_eq_true.1 hw k (List.mem_range.2 hk)) j hj
  step := hst
  inj := fun j k s hj hk h1 h2 => by
    have := List.all_eq_true.1 (List.all_eq_true.1 hi j (List.mem_range.2 hj)) k (List.mem_range.2 hk)
    rw [h1, h2] at this
    simpa using this
  room := fun k s hk h1 => by
    have := List.all_eq_true.1 hr k (List.mem_range.2 hk)
    rw [h1] at this
    rw [hz]
    simpa using this
theorem filter_congr {α β : Type} {f g : α → Option β} : ∀ {l : List α}, (∀ k ∈ l, f k = g k) → l.filterMap f = l.filterMap g
  | [], _ => rfl
  | a :: l, h => by
    rw [List.filterMap_cons, List.filterMap_cons, h a (by simp), filter_congr (fun k hk => h k (List.mem_cons_of_mem _ hk))]
/-- what holds of a frame that differs in the region's slots alone -/
theorem frame_slots {n : Nat} {slot : Nat → Option Nat} {V : Nat → Value} {tm A : Array Value} (hz : tm.size = A.size) (ho : ∀ s : Nat, (∀ k, k < n → slot k ≠ some s) → tm.getD s undef = A.getD s undef) (hv : ∀ k s, k < n → slot k = some s → tm.getD s undef = V k) :
    tm = setQ A ((List.range n).filterMap fun k => (slot k).map fun s => (s, V k)) := by
  have h := frameQ (n := A.size) ((List.range n).filterMap slot) hz rfl (fun i hi => ho i (fun k hk e => hi (List.mem_filterMap.2 ⟨k, List.mem_range.2 hk, e⟩)))
  refine h.trans (congrArg (setQ A) ?_)
  rw [List.map_filterMap]
  refine filter_congr fun k hk => ?_
  cases e : slot k with
  | none => rfl
  | some s => simp only [Option.map_some]; rw [hv k s (List.mem_range.1 hk) e]
theorem region2 (ok : c.Ok Q) (hord : ((List.range c.n).all fun i => ((c.ops[i]?).map fun o => o.after.toList.all fun e => !Region.binds .any e || decide (e.on < i)).getD true) = true) (hd : c.a0.defers = []) (g0 : γ) (hW : c.mem g0 (Array.replicate c.n false) W)
    (L : γ → List (Nat × Value)) (hL : ∀ g, L g = (List.range c.n).filterMap fun k => (c.slot k).map fun s => (s, c.val g k))
    (hQ : ∀ (g : γ) (l : Array Bool) (W' : World), (∀ k, k < c.n → l.getD k false = true) → c.mem g l W' → Q .normal ⟨setQ c.a0.tmps (L g), []⟩ W') : wpAny c.P .any c.ops Q c.n (Array.replicate c.n false) c.a0 W := by
  refine region ok hord g0 hW ?_
  intro a' g l W' h1 h2 h3 hv hl hm'
  obtain ⟨tm, df⟩ := a'
  obtain rfl : df = [] := h2.trans hd
  have ht := frame_slots (n := c.n) (slot := c.slot) (V := c.val g) (tm := tm) (A := c.a0.tmps) h1 (fun s hs => h3 s hs) (fun k s hk e => hv k s hk e)
  rw [ht, ← hL]
  exact hQ g l W' hl hm'
end DG
end Go.Proofs.YtkpecagkpjabdabGreat
/- As DrawG, with guarded operations ('&&', '||'): a guard waits for a Bool of the region; where it says no the slot holds undef. A region that draws its order; what its operations yield and make of memory is told by a predicate on what is done, which may speak of things made on the way (ghosts). Condition: what each operation gives, from what is known of those that it waits for. -/
namespace Go.Proofs.YtkpecagkpjabdabGreat
open Go Go.RowKit
set_option linter.unusedVariables false
set_option linter.unusedSimpArgs false
set_option maxRecDepth 100000
structure DH (γ : Type) where
  gd : Nat → Option (Nat × Bool)
  P : Program
  ops : Array Oper
  a0 : Act
  n : Nat
  slot : Nat → Option Nat
  val : γ → Nat → Value
  needs : Nat → List Nat
  mem : γ → Array Bool → World → Prop
namespace DH
variable {γ : Type} (c : DH γ)
structure Inv (l : Array Bool) (a : Act) (W : World) : Prop where
  size : l.size = c.n
  len : a.tmps.size = c.a0.tmps.size
  defers : a.defers = c.a0.defers
  other : ∀ s : Nat, (∀ k, k < c.n → c.slot k ≠ some s) → a.eval (.tmp s) = c.a0.eval (.tmp s)
  closed : ∀ k j, j ∈ c.needs k → l.getD k false = true → l.getD j false = true
  ghost : ∃ g : γ, (∀ k s, k < c.n → c.slot k = some s → l.getD k false = true → a.eval (.tmp s) = c.val g k) ∧ c.mem g l W
structure Facts (k : Nat) (g : γ) (l : Array Bool) (a : Act) (W : World) : Prop where
  vals : ∀ j s, j ∈ c.needs k → c.slot j = some s → a.eval (.tmp s) = c.val g j
  other : ∀ s : Nat, (∀ k, k < c.n → c.slot k ≠ some s) → a.eval (.tmp s) = c.a0.eval (.tmp s)
  listed : ∀ j, j ∈ c.needs k → l.getD j false = true
  closed : ∀ k j, j ∈ c.needs k → l.getD k false = true → l.getD j false = true
  not : l.getD k false = false
  size : l.size = c.n
  mem : c.mem g l W
def StepOk (Q : Exit → Act → World → Prop) (k : Nat) (g : γ) : Prop :=
  ∀ l a W, c.Facts k g l a W → ∀ o, c.ops[k]? = some o → ∀ K : Act → World → Prop, (∀ g' W', (∀ j, j < c.n → j ≠ k → l.getD j false = true → c.val g' j = c.val g j) → c.mem g' (l.setIfInBounds k true) W' → K (a.put (c.slot k) (c.val g' k)) W') → o.wp c.P a W K Q
structure Ok (Q : Exit → Act → World → Prop) : Prop where
  size : c.ops.size = c.n
  guards : ∀ k, k < c.n → ∀ o, c.ops[k]? = some o → o.guard = c.gd k
  dsts : ∀ k, k < c.n → ∀ o, c.ops[k]? = some o → o.dst = c.slot k
  gneed : ∀ k j b, k < c.n → c.gd k = some (j, b) → j ∈ c.needs k ∧ j < c.n ∧ ∃ s, c.slot j = some s
  gbool : ∀ k j b g, k < c.n → c.gd k = some (j, b) → ∃ x : Bool, c.val g j = .bool x
  skip : ∀ k j b g l a W, k < c.n → c.gd k = some (j, b) → c.val g j = .bool (!b) → c.Facts k g l a W → c.val g k = undef ∧ c.mem g (l.setIfInBounds k true) W
  waits : ∀ k, k < c.n → ∀ j ∈ c.needs k, waits .any c.ops k j = true
  step : ∀ k, k < c.n → ∀ g, (∀ j b, c.gd k = some (j, b) → c.val g j = .bool b) → c.StepOk Q k g
  inj : ∀ j k s, j < c.n → k < c.n → c.slot j = some s → c.slot k = some s → j = k
  room : ∀ k s, k < c.n → c.slot k = some s → s < c.a0.tmps.size
variable {c} {l : Array Bool} {a : Act} {W : World} {Q : Exit → Act → World → Prop}
theorem set_ne {l : Array Bool} {i k : Nat} (h : i ≠ k) : (l.setIfInBounds i true).getD k false = l.getD k false := by
  by_cases hk : k < l.size
  · simp [Array.getD, hk, Array.getElem_setIfInBounds, h]
  · simp [Array.getD, hk]
theorem set_eq {l : Array Bool} {i : Nat} (h : i < l.size) : (l.setIfInBounds i true).getD i false = true := by
  simp [Array.getD, h]
theorem step_done (ok : c.Ok Q) {k : Nat} {o : Oper} {g g' : γ} {W' : World} (h : c.Inv l a W) (hi : k ∈ Region.ready .any c.ops l) (ho : c.ops[k]? = some o) (hk : k < c.n) (hnot : l.getD k false = false) (hv : ∀ j s, j < c.n → c.slot j = some s → l.getD j false = true → a.eval (.tmp s) = c.val g j)
    (hg' : ∀ j, j < c.n → j ≠ k → l.getD j false = true → c.val g' j = c.val g j) (hm : c.mem g' (l.setIfInBounds k true) W') : c.Inv (l.setIfInBounds k true) (a.put (c.slot k) (c.val g' k)) W' := by
  refine ⟨by simp [h.size], ?_, ?_, ?_, ?_, g', ?_, hm⟩
  · cases hsl : c.slot k with
    | none => exact h.len
    | some t => simp [Act.put, h.len]
  · cases hsl : c.slot k with
    | none => exact h.defers
    | some t => exact h.defers
  · intro s hs
    cases hsl : c.slot k with
    | none => exact h.other s hs
    | some t => rw [put_other (fun e => hs k hk (by rw [hsl, e]))]; exact h.other s hs
  · intro k' j hj hl
    rcases set_getD hl with rfl | hl
    · exact getD_set (ready_dep hi j (ok.waits _ hk j hj))
    · exact getD_set (h.closed k' j hj hl)
  · intro j s hj hs hl
    by_cases hjk : k = j
    · subst hjk
      rw [hs, put_same (by have := ok.room k s hk hs; have := h.len; omega)]
    · rw [set_ne hjk] at hl
      rw [hg' j hj (fun e => hjk e.symm) hl]
      cases hsl : c.slot k with
      | none => exact hv j s hj hs hl
      | some t =>
        rw [put_other (fun e => hjk (ok.inj k j s hk hj (by rw [hsl, e]) hs))]
        exact hv j s hj hs hl
theorem step (ok : c.Ok Q) {k : Nat} (h : c.Inv l a W) (hi : k ∈ Region.ready .any c.ops l) : wpOp c.P c.ops Q k (c.Inv (l.setIfInBounds k true)) a W := by
  have hk : k < c.n := ok.size ▸ (ready_spec hi).2.1
  obtain ⟨o, ho⟩ : ∃ o, c.ops[k]? = some o := ⟨_, Array.getElem?_eq_getElem (by have := ok.size; omega)⟩
  have hnot := (getD_two (ready_spec hi).1).2
  obtain ⟨g, hv, hm0⟩ := h.ghost
  have F : c.Facts k g l a W := ⟨fun j s hj hs => by
    have hl := ready_dep hi j (ok.waits k hk j hj)
    have hjn : j < c.n := by
      by_cases hjs : j < l.size
      · have := h.size; omega
      · simp [Array.getD, hjs] at hl
    exact hv j s hjn hs hl, h.other, fun j hj => ready_dep hi j (ok.waits k hk j hj), h.closed, hnot, h.size, hm0⟩
  refine wpOp_step ho fun K' hK => ?_
  have hfin : ∀ g' W', (∀ j, j < c.n → j ≠ k → l.getD j false = true → c.val g' j = c.val g j) → c.mem g' (l.setIfInBounds k true) W' → K' (a.put (c.slot k) (c.val g' k)) W' := fun g' W' hg' hm => hK _ _ (step_done ok h hi ho hk hnot hv hg' hm)
  have hgd := ok.guards k hk o ho
  cases hg : c.gd k with
  | none =>
    rw [if_pos (by simp [Region.wanted, hgd, hg])]
    exact ok.step k hk g (fun j b e => by rw [hg] at e; cases e) l a W F o ho _ hfin
  | some p =>
    obtain ⟨j, b⟩ := p
    obtain ⟨hj, hjn, s, hs⟩ := ok.gneed k j b hk hg
    obtain ⟨x, hx⟩ := ok.gbool k j b g hk hg
    have hval := (F.vals j s hj hs).trans hx
    have hy : yielded c.ops a.tmps j = some x := by
      obtain ⟨oj, hoj⟩ : ∃ o, c.ops[j]? = some o := ⟨_, Array.getElem?_eq_getElem (by have := ok.size; omega)⟩
      have hdj := (ok.dsts j hjn oj hoj).trans hs
      have ht : a.tmps[s]? = some (.bool x) := by
        have h5 : a.tmps[s]?.getD undef = .bool x := by simpa [Act.eval] using hval
        cases h6 : a.tmps[s]? with
        | none => rw [h6] at h5; cases h5
        | some u => rw [h6] at h5; simpa using h5
      simp [yielded, hoj, hdj, ht]
    have hw : Region.wanted o (yielded c.ops a.tmps) = (some x == some b) := by
      unfold Region.wanted
      rw [hgd, hg]
      simp only [hy]
    by_cases hxb : x = b
    · subst hxb
      rw [hw, if_pos (by simp)]
      exact ok.step k hk g (fun j' b' e => by rw [hg] at e; simp only [Option.some.injEq, Prod.mk.injEq] at e; obtain ⟨rfl, rfl⟩ := e; exact hx) l a W F o ho _ hfin
    · rw [hw, if_neg (by simpa using hxb)]
      obtain ⟨e1, e2⟩ := ok.skip k j b g l a W hk hg (by rw [hx]; cases x <;> cases b <;> simp_all) F
      have := hfin g W (fun _ _ _ _ => rfl) e2
      rw [e1] at this
      rw [ok.dsts k hk o ho]
      exact this
/-- the whole region -/
theorem region (ok : c.Ok Q) (hord : ((List.range c.n).all fun i => ((c.ops[i]?).map fun o => o.after.toList.all fun e => !Region.binds .any e || decide (e.on < i)).getD true) = true)
    (g0 : γ) (hW : c.mem g0 (Array.replicate c.n false) W)
    (hQ : ∀ (a' : Act) (g : γ) (l : Array Bool) (W' : World), a'.tmps.size = c.a0.tmps.size → a'.defers = c.a0.defers → (∀ s : Nat, (∀ k, k < c.n → c.slot k ≠ some s) → a'.eval (.tmp s) = c.a0.eval (.tmp s)) →
      (∀ k s, k < c.n → c.slot k = some s → a'.eval (.tmp s) = c.val g k) → (∀ k, k < c.n → l.getD k false = true) → c.mem g l W' → Q .normal a' W') :
    wpAny c.P .any c.ops Q c.n (Array.replicate c.n false) c.a0 W := by
  have z : ∀ k, (Array.replicate c.n false).getD k false = false := fun k => by
    by_cases hk : k < c.n <;> simp [Array.getD, hk]
  have no : ∀ {b : Bool} {q : Prop}, b = false → b = true → q := fun h1 h2 => by rw [h1] at h2; cases h2
  refine wpAny_inv c.Inv ?_ (fun d a w i h hi => step ok h hi) c.n _ _ _ (by unfold Undone; simp) ⟨by simp, rfl, rfl, fun _ _ => rfl, fun k j _ hl => no (z k) hl, g0, fun k s _ _ hl => no (z k) hl, hW⟩
  intro d a w h hr
  have all := all_done hr (by rw [h.size, ok.size]) (by
    intro i hi o ho e he hb
    have h1 := List.all_eq_true.1 hord i (List.mem_range.2 (ok.size ▸ hi))
    rw [ho] at h1
    simp only [Option.map_some, Option.getD_some] at h1
    have h2 := List.all_eq_true.1 h1 e he
    simpa [hb] using h2)
  rw [ok.size] at all
  obtain ⟨g, hv, hm⟩ := h.ghost
  exact hQ a g d w h.len h.defers h.other (fun k s hk hs => hv k s hk hs (all k hk)) all hm
theorem StepOk.of {k : Nat} {g : γ} {x : Op × Option Nat} (hx : (c.ops[k]?).map (fun o => (o.op, o.dst)) = some x) (H : ∀ l a W, c.Facts k g l a W → ∀ o : Oper, o.op = x.1 → o.dst = x.2 → ∀ K : Act → World → Prop, (∀ g' W', (∀ j, j < c.n → j ≠ k → l.getD j false = true → c.val g' j = c.val g j) → c.mem g' (l.setIfInBounds k true) W' → K (a.put (c.slot k) (c.val g' k)) W') → o.wp c.P a W K Q) : c.StepOk Q k g :=
  fun l a W F o ho K hK => H l a W F o (by rw [ho] at hx; simp only [Option.map_some, Option.some.injEq] at hx; rw [← hx]) (by rw [ho] at hx; simp only [Option.map_some, Option.some.injEq] at hx; rw [← hx]) K hK
theorem ok_of {N : Nat} (hs : c.ops.size = c.n) (hg : ((List.range c.n).all fun k => (c.ops[k]?).map (·.guard) == some (c.gd k)) = true) (hds : ((List.range c.n).all fun k => (c.ops[k]?).map (·.dst) == some (c.slot k)) = true)
    (hn : ((List.range c.n).all fun k => match c.gd k with | some (j, _) => (c.needs k).contains j && decide (j < c.n) && (c.slot j).isSome | none => true) = true) (hw : ((List.range c.n).all fun k => (c.needs k).all fun j => waits .any c.ops k j) = true)
    (hi : ((List.range c.n).all fun j => (List.range c.n).all fun k => match c.slot j, c.slot k with | some s, some t => s != t || j == k | _, _ => true) = true) (hz : c.a0.tmps.size = N)
    (hr : ((List.range c.n).all fun j => match c.slot j with | some s => decide (s < N) | none => true) = true)
    (gbool : ∀ k j b g, k < c.n → c.gd k = some (j, b) → ∃ x : Bool, c.val g j = .bool x)
    (skip : ∀ k j b g l a W, k < c.n → c.gd k = some (j, b) → c.val g j = .bool (!b) → c.Facts k g l a W → c.val g k = undef ∧ c.mem g (l.setIfInBounds k true) W)
    (hst : ∀ k, k < c.n → ∀ g, (∀ j b, c.gd k = some (j, b) → c.val g j = .bool b) → c.StepOk Q k g) : c.Ok Q where
  size := hs
  guards := fun k hk o ho => by
    have h2 := eq_of_beq (List.all_eq_true.1 hg k (List.mem_range.2 hk))
    rw [ho] at h2
    simpa using h2
  dsts := fun k hk o ho => by
    have h2 := eq_of_beq (List.all_eq_true.1 hds k (List.mem_range.2 hk))
    rw [ho] at h2
    simpa using h2
  gneed := fun k j b hk hg' => by
    have h2 := List.all_eq_true.1 hn k (List.mem_range.2 hk)
    rw [hg'] at h2
    simp only [Bool.and_eq_true, decide_eq_true_eq, List.contains_iff_mem] at h2
    exact ⟨h2.1.1, h2.1.2, Option.isSome_iff_exists.1 h2.2⟩
  gbool := gbool
  skip := skip
  waits := fun k hk j hj => List.all_eq_true.1 (List.all_eq_true.1 hw k (List.mem_range.2 hk)) j hj
  step := hst
  inj := fun j k s hj hk h1 h2 => by
    have := List.all_eq_true.1 (List.all_eq_true.1 hi j (List.mem_range.2 hj)) k (List.mem_range.2 hk)
    rw [h1, h2] at this
    simpa using this
  room := fun k s hk h1 => by
    have := List.all_eq_true.1 hr k (List.mem_range.2 hk)
    rw [h1] at this
    rw [hz]
    simpa using this
theorem region2 (ok : c.Ok Q) (hord : ((List.range c.n).all fun i => ((c.ops[i]?).map fun o => o.after.toList.all fun e => !Region.binds .any e || decide (e.on < i)).getD true) = true) (hd : c.a0.defers = []) (g0 : γ) (hW : c.mem g0 (Array.replicate c.n false) W)
    (L : γ → List (Nat × Value)) (hL : ∀ g, L g = (List.range c.n).filterMap fun k => (c.slot k).map fun s => (s, c.val g k))
    (hQ : ∀ (g : γ) (l : Array Bool) (W' : World), (∀ k, k < c.n → l.getD k false = true) → c.mem g l W' → Q .normal ⟨DG.setQ c.a0.tmps (L g), []⟩ W') : wpAny c.P .any c.ops Q c.n (Array.replicate c.n false) c.a0 W := by
  refine region ok hord g0 hW ?_
  intro a' g l W' h1 h2 h3 hv hl hm'
  obtain ⟨tm, df⟩ := a'
  obtain rfl : df = [] := h2.trans hd
  have ht := DG.frame_slots (n := c.n) (slot := c.slot) (V := c.val g) (tm := tm) (A := c.a0.tmps) h1 (fun s hs => h3 s hs) (fun k s hk e => hv k s hk e)
  rw [ht, ← hL]
  exact hQ g l W' hl hm'
end DH
end Go.Proofs.YtkpecagkpjabdabGreat
