/- Opening a store that came in as an argument: its value lies in memory as a plain store. No condition. -/
import Derived.Test.YtkpecagkpjabdaaStoreMem
import Derived.Deep.Slices
namespace Go.Proofs.Ytkpecagkpjabdaa
open Go.ChangeShapes Go.WideShapes Go.ChangeAt Go.RowKit Go.Deep
set_option linter.unusedVariables false
set_option linter.unusedSimpArgs false
set_option maxRecDepth 100000

section
variable {H : Type} {enc : TypeId × Value → H} {w : World} {spare : Nat → Bool} {held : Bool} {fuel : Nat}

theorem addr_none {a : Addr} {i : Nat} {v : Value} (h : w.cell? (a.add i) = some v) : a.spot = none ∨ i ≠ 0 := by
  by_cases hi : i = 0
  · subst hi
    left
    have e : a.add 0 = a := by simp [Addr.add]
    rw [e] at h
    unfold World.cell? at h
    cases hs : a.spot with
    | none => rfl
    | some s => rw [hs] at h; cases hb : w.heap[a.block]? with
      | none => simp [hb] at h
      | some o => cases o <;> simp [hb] at h
  · exact .inr hi

/-- a slice whose elements' cells are known lies there -/
theorem lies_of {α : Type} {k len cap : Nat} {a : Addr} (f : α → List Value) (xs : List α) (hk : 0 < k) (hf : ∀ x ∈ xs, (f x).length = k) (hm : cap ≤ maxLen) (hl : len ≤ cap) (hx : xs.length = len)
    (hc : ∀ i x, xs[i]? = some x → ∀ j, j < k → w.cell? (a.add (i * k + j)) = (f x)[j]?) : Lies w 0 (.slice (some a) len cap) len k (xs.flatMap f) := by
  have hlen : ∀ ys : List α, (∀ x ∈ ys, (f x).length = k) → (ys.flatMap f).length = ys.length * k := by
    intro ys
    induction ys with
    | nil => intro _; simp
    | cons y ys ih =>
      intro h
      rw [List.flatMap_cons, List.length_append, h y (by simp), ih (fun x hx => h x (List.mem_cons_of_mem _ hx)), List.length_cons, Nat.succ_mul]
      omega
  have hat : ∀ (ys : List α), (∀ x ∈ ys, (f x).length = k) → ∀ (i j : Nat) (y : α), ys[i]? = some y → j < k → (ys.flatMap f)[i * k + j]? = (f y)[j]? := by
    intro ys
    induction ys with
    | nil => intro _ i j y h; simp at h
    | cons z ys ih =>
      intro h i j y hy hj
      have hz := h z (by simp)
      rw [List.flatMap_cons]
      match i with
      | 0 =>
        simp only [List.getElem?_cons_zero, Option.some.injEq] at hy
        subst hy
        rw [Nat.zero_mul, Nat.zero_add, List.getElem?_append_left (by omega)]
      | i + 1 =>
        simp only [List.getElem?_cons_succ] at hy
        have e : (i + 1) * k + j - (f z).length = i * k + j := by rw [hz, Nat.succ_mul]; omega
        rw [List.getElem?_append_right (by rw [hz, Nat.succ_mul]; omega), e]
        exact ih (fun x hx => h x (List.mem_cons_of_mem _ hx)) i j y hy hj
  refine ⟨by rw [hlen xs hf, hx], Nat.le_trans hl hm, some a, cap, rfl, fun hne => ?_⟩
  have hpos : 0 < xs.length := by
    rcases Nat.eq_zero_or_pos xs.length with h | h
    · rw [List.length_eq_zero_iff] at h; subst h; simp at hne
    · exact h
  have hs : a.spot = none := by
    have h0 := hc 0 xs[0] (List.getElem?_eq_getElem hpos) 0 hk
    have hk0 := hf xs[0] (List.getElem_mem hpos)
    rw [List.getElem?_eq_getElem (by omega)] at h0
    rcases addr_none h0 with h | h
    · exact h
    · simp at h
  obtain ⟨b, o, sp⟩ := a
  simp only at hs
  subst hs
  refine ⟨b, o, rfl, Nat.zero_le _, fun j u hj => ?_⟩
  have hj2 : j < xs.length * k := by rw [← hlen xs hf]; exact (List.getElem?_eq_some_iff.1 hj).1
  have hi : j / k < xs.length := by rw [Nat.div_lt_iff_lt_mul hk]; exact hj2
  have hr : j % k < k := Nat.mod_lt _ hk
  have hjk : j / k * k + j % k = j := by rw [Nat.mul_comm]; exact Nat.div_add_mod j k
  have h1 := hc (j / k) xs[j / k] (List.getElem?_eq_getElem hi) (j % k) hr
  have h2 := hat xs hf (j / k) (j % k) xs[j / k] (List.getElem?_eq_getElem hi) hr
  rw [hjk] at h1 h2
  rw [h2] at hj
  rw [hj] at h1
  rw [← h1]
  congr 1
  unfold Addr.add
  split <;> simp_all

theorem cells_at {base : Nat} {a : Addr} {n : Nat} {cs : List Value} (h : w.cells? base a n = some cs) : cs.length = n ∧ ∀ j, j < n → w.cell? (a.add j) = cs[j]? := by
  obtain ⟨_, h1, h2⟩ := World.cells?_some h
  exact ⟨h1, h2⟩

theorem open_intsAt {v : Value} {x : DataW H × List MemPlace} (h : DataW.trod enc Try.prog w 0 spare held fuel 79 [v] = some x) : ∃ zs, IntsAt w 0 v zs ∧ ∀ z ∈ zs, I64 z := by
  rcases open_slice Try.underlying79 h with ⟨e, _⟩ | ⟨a, len, cap, m, n, D, Pl, e, hb, hl, hm, hmm, _, hx⟩
  · obtain rfl : v = .slice none 0 0 := by simpa using e
    exact ⟨[], ⟨rfl, Nat.zero_le _, none, 0, rfl, fun h => absurd rfl h⟩, by simp⟩
  · obtain rfl : v = .slice (some a) len cap := by simpa using e
    have c1 : Try.prog.cellsOf 3 = 1 := by kernel_rfl
    have hlm : len ≤ m := by rw [hmm]; split <;> omega
    obtain ⟨f, hf⟩ := choose_lt (α := Int) (n := len) (p := fun i z => w.cell? (a.add i) = some (.int .i64 z) ∧ I64 z) (fun i hi => by
      obtain ⟨cs', h1, h2⟩ := hx i (by omega)
      obtain ⟨z, rfl, hz⟩ : ∃ z, cs' = [.int .i64 z] ∧ I64 z := by
        obtain ⟨z, hc, _, wa⟩ := DataW.trod_int Try.underlying3 h2
        exact ⟨z, hc, i64_of_wf wa⟩
      rw [c1, Nat.mul_one] at h1
      exact ⟨z, cell_of_cells?_one h1, hz⟩)
    refine ⟨(List.range len).map f, ?_, ?_⟩
    · have := lies_of (w := w) (k := 1) (len := len) (cap := cap) (a := a) (fun z => [Value.int .i64 z]) ((List.range len).map f) (by omega) (by simp) hm hl (by simp) (by
        intro i x hi j hj
        obtain rfl : j = 0 := by omega
        simp only [List.getElem?_map] at hi
        rcases Nat.lt_or_ge i len with hlt | hge
        · rw [List.getElem?_range hlt] at hi
          simp only [Option.map_some, Option.some.injEq] at hi
          subst hi
          rw [Nat.mul_one, Nat.add_zero]
          exact (hf i hlt).1
        · rw [List.getElem?_eq_none (by simpa using hge)] at hi; simp at hi)
      unfold IntsAt
      have e : ((List.range len).map f).flatMap (fun z => [Value.int .i64 z]) = ((List.range len).map f).map (Value.int .i64) := by
        generalize (List.range len).map f = ys
        induction ys with
        | nil => rfl
        | cons y ys ih => rw [List.flatMap_cons, ih]; rfl
      rw [e] at this
      simpa using this
    · intro z hz
      obtain ⟨i, hi, rfl⟩ := List.mem_map.1 hz
      exact (hf i (by simpa using hi)).2

theorem open_rowsAt {v : Value} {x : DataW H × List MemPlace} (h : DataW.trod enc Try.prog w 0 spare held fuel 80 [v] = some x) : ∃ rs, RowsAt w 0 v rs ∧ ∀ r ∈ rs, RowOk r := by
  rcases open_slice Try.underlying80 h with ⟨e, _⟩ | ⟨a, len, cap, m, n, D, Pl, e, hb, hl, hm, hmm, _, hx⟩
  · obtain rfl : v = .slice none 0 0 := by simpa using e
    exact ⟨[], ⟨rfl, Nat.zero_le _, none, 0, rfl, fun h => absurd rfl h⟩, by simp⟩
  · obtain rfl : v = .slice (some a) len cap := by simpa using e
    have c8 : Try.prog.cellsOf 27 = 8 := by kernel_rfl
    have hlm : len ≤ m := by rw [hmm]; split <;> omega
    haveI : Inhabited M.Row := ⟨M.row0⟩
    obtain ⟨f, hf⟩ := choose_lt (α := M.Row) (n := len) (p := fun i r => (∀ j, j < 8 → w.cell? (a.add (i * 8 + j)) = (rowL r)[j]?) ∧ RowOk r) (fun i hi => by
      obtain ⟨cs', h1, h2⟩ := hx i (by omega)
      obtain ⟨r, rfl, hr⟩ := row_of_cells h2
      rw [c8] at h1
      obtain ⟨_, h3⟩ := cells_at h1
      refine ⟨r, fun j hj => ?_, hr⟩
      have := h3 j hj
      rw [add_add] at this
      exact this)
    refine ⟨(List.range len).map f, ?_, ?_⟩
    · have := lies_of (w := w) (k := 8) (len := len) (cap := cap) (a := a) rowL ((List.range len).map f) (by omega) (fun _ _ => rfl) hm hl (by simp) (by
        intro i x hi j hj
        simp only [List.getElem?_map] at hi
        rcases Nat.lt_or_ge i len with hlt | hge
        · rw [List.getElem?_range hlt] at hi
          simp only [Option.map_some, Option.some.injEq] at hi
          subst hi
          exact (hf i hlt).1 j hj
        · rw [List.getElem?_eq_none (by simpa using hge)] at hi; simp at hi)
      unfold RowsAt
      simpa using this
    · intro z hz
      obtain ⟨i, hi, rfl⟩ := List.mem_map.1 hz
      exact (hf i (by simpa using hi)).2

/-- all numbers of a table are of 64 bits -/
def TabIn (t : M.Table) : Prop := I64 t.mask ∧ (∀ z ∈ t.ids, I64 z) ∧ ∀ r ∈ t.rows, RowOk r
def StoreIn (s : M.Store) : Prop := I64 s.next ∧ ∀ t ∈ s.tables, TabIn t
theorem three {α : Type} {l : List α} (h : l.length = 3) : ∃ a b c, l = [a, b, c] := by
  match l, h with
  | [a, b, c], _ => exact ⟨a, b, c, rfl⟩
theorem table_of_cells {cs : List Value} {n : Nat} {y : DataW H × List MemPlace} (h : DataW.trod enc Try.prog w 0 spare held n 82 cs = some y) :
    ∃ (t : M.Table) (p : Value × Value), cs = [.int .i64 t.mask, p.1, p.2] ∧ TabAt w 0 t p ∧ TabIn t := by
  obtain ⟨xs, n, _, _, hlen, hxl, hg⟩ := DataW.trod_struct Try.underlying82 h
  have hc : Try.prog.cellsOf 82 = 3 := by kernel_rfl
  have c1 : Try.prog.cellsOf 3 = 1 := by kernel_rfl
  have c2 : Try.prog.cellsOf 79 = 1 := by kernel_rfl
  have c3 : Try.prog.cellsOf 80 = 1 := by kernel_rfl
  rw [hc] at hlen
  obtain ⟨a0, a1, a2, rfl⟩ := three hlen
  obtain ⟨b0, b1, b2, rfl⟩ := three (l := xs) hxl
  obtain ⟨m, rfl, hm⟩ := cell_i64 Try.underlying3 (by simpa [c1] using hg 0 _ rfl)
  obtain ⟨zs, h1, k1⟩ := open_intsAt (v := a1) (by simpa [c2] using hg 1 _ rfl)
  obtain ⟨rs, h2, k2⟩ := open_rowsAt (v := a2) (by simpa [c3] using hg 2 _ rfl)
  exact ⟨⟨m, zs, rs⟩, (a1, a2), rfl, ⟨h1, h2⟩, hm, k1, k2⟩
theorem open_tabsAt {v : Value} {x : DataW H × List MemPlace} (h : DataW.trod enc Try.prog w 0 spare held fuel 38 [v] = some x) : ∃ ts, TabsAt w 0 v ts ∧ ∀ t ∈ ts, TabIn t := by
  rcases open_slice Try.underlying38 h with ⟨e, _⟩ | ⟨a, len, cap, m, n, D, Pl, e, hb, hl, hm, hmm, _, hx⟩
  · obtain rfl : v = .slice none 0 0 := by simpa using e
    exact ⟨[], ⟨[], rfl, ⟨rfl, Nat.zero_le _, none, 0, rfl, fun h => absurd rfl h⟩, by simp⟩, by simp⟩
  · obtain rfl : v = .slice (some a) len cap := by simpa using e
    have c3 : Try.prog.cellsOf 82 = 3 := by kernel_rfl
    have hlm : len ≤ m := by rw [hmm]; split <;> omega
    let g : M.Table × (Value × Value) → List Value := fun p => [.int .i64 p.1.mask, p.2.1, p.2.2]
    haveI : Inhabited (M.Table × (Value × Value)) := ⟨(⟨0, [], []⟩, (.bool false, .bool false))⟩
    obtain ⟨f, hf⟩ := choose_lt (α := M.Table × (Value × Value)) (n := len) (p := fun i p => (∀ j, j < 3 → w.cell? (a.add (i * 3 + j)) = (g p)[j]?) ∧ TabAt w 0 p.1 p.2 ∧ TabIn p.1) (fun i hi => by
      obtain ⟨cs', h1, h2⟩ := hx i (by omega)
      obtain ⟨t, p, rfl, ht, hin⟩ := table_of_cells h2
      rw [c3] at h1
      obtain ⟨_, h3⟩ := cells_at h1
      refine ⟨(t, p), fun j hj => ?_, ht, hin⟩
      have := h3 j hj
      rw [add_add] at this
      exact this)
    have hlies := lies_of (w := w) (k := 3) (len := len) (cap := cap) (a := a) g ((List.range len).map f) (by omega) (fun _ _ => rfl) hm hl (by simp) (by
        intro i x hi j hj
        simp only [List.getElem?_map] at hi
        rcases Nat.lt_or_ge i len with hlt | hge
        · rw [List.getElem?_range hlt] at hi
          simp only [Option.map_some, Option.some.injEq] at hi
          subst hi
          exact (hf i hlt).1 j hj
        · rw [List.getElem?_eq_none (by simpa using hge)] at hi; simp at hi)
    refine ⟨((List.range len).map f).map Prod.fst, ⟨((List.range len).map f).map Prod.snd, by simp, ?_, ?_⟩, ?_⟩
    · have e : tabL (((List.range len).map f).map Prod.fst) (((List.range len).map f).map Prod.snd) = ((List.range len).map f).flatMap g := by
        unfold tabL
        generalize (List.range len).map f = ys
        induction ys with
        | nil => rfl
        | cons y ys ih => simp only [List.map_cons, List.zip_cons_cons, List.flatMap_cons] at ih ⊢; rw [ih]
      rw [e]
      simpa using hlies
    · intro i t p h1 h2
      simp only [List.getElem?_map] at h1 h2
      rcases Nat.lt_or_ge i len with hlt | hge
      · rw [List.getElem?_range hlt] at h1 h2
        simp only [Option.map_some, Option.some.injEq] at h1 h2
        subst h1; subst h2
        exact (hf i hlt).2.1
      · rw [List.getElem?_eq_none (by simpa using hge)] at h1; simp at h1
    · intro t ht
      simp only [List.map_map, List.mem_map, List.mem_range] at ht
      obtain ⟨i, hi, rfl⟩ := ht
      exact (hf i hi).2.2
theorem two {α : Type} {l : List α} (h : l.length = 2) : ∃ a b, l = [a, b] := by
  match l, h with
  | [a, b], _ => exact ⟨a, b, rfl⟩
theorem store_of_cells {cs : List Value} {n : Nat} {y : DataW H × List MemPlace} (h : DataW.trod enc Try.prog w 0 spare held n 40 cs = some y) :
    ∃ (s : M.Store) (vt : Value), cs = [vt, .int .i64 s.next] ∧ TabsAt w 0 vt s.tables ∧ StoreIn s := by
  obtain ⟨xs, n, _, _, hlen, hxl, hg⟩ := DataW.trod_struct Try.underlying40 h
  have hc : Try.prog.cellsOf 40 = 2 := by kernel_rfl
  have c1 : Try.prog.cellsOf 3 = 1 := by kernel_rfl
  have c2 : Try.prog.cellsOf 38 = 1 := by kernel_rfl
  rw [hc] at hlen
  obtain ⟨a0, a1, rfl⟩ := two hlen
  obtain ⟨b0, b1, rfl⟩ := two (l := xs) hxl
  obtain ⟨ts, h1, k1⟩ := open_tabsAt (v := a0) (by simpa [c2] using hg 0 _ rfl)
  obtain ⟨m, rfl, hm⟩ := cell_i64 Try.underlying3 (by simpa [c1] using hg 1 _ rfl)
  exact ⟨⟨ts, m⟩, a0, rfl, h1, hm, k1⟩
end
/-- a store that came in -/
theorem open_store {H : Type} {enc : TypeId × Value → H} {w : World} {spare : Nat → Bool} {held : Bool} {r : Reach} {b0 : Nat} {v : Value} {d : DataW H} {p : List MemPlace} (hv : Value.okWide Try.prog w r b0 40 v)
    (h : DataW.Trod enc Try.prog w 0 spare held 40 v d p) : ∃ s, StoreAt w 0 v s ∧ StoreIn s := by
  obtain ⟨cs, rfl, hsz⟩ := okWide_struct Try.underlying40 hv
  obtain ⟨l⟩ := cs
  obtain ⟨fuel, hf⟩ := h
  obtain ⟨s, vt, hr, ht, hin⟩ := store_of_cells (cs := l) (by simpa [Value.cells] using hf)
  exact ⟨s, ⟨vt, by rw [hr], ht⟩, hin⟩
end Go.Proofs.Ytkpecagkpjabdaa
