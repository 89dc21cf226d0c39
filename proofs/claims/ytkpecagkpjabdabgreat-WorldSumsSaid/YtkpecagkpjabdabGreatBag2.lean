/- Several small texts in one. No condition of its own: each part says its own. -/
import Derived.Test.YtkpecagkpjabdabGreatBag1
import Derived.RegionTactic
import Derived.NoCompiler
/- Opening boxes that came in as an argument. No condition. -/
namespace Go.Proofs.YtkpecagkpjabdabGreat
open Go.ChangeShapes Go.WideShapes Go.ChangeAt Go.RowKit Go.Deep
set_option linter.unusedVariables false
set_option linter.unusedSimpArgs false
set_option maxRecDepth 100000

def BoxIn (b : M.Box) : Prop := I64 b.id ∧ I64 b.x1 ∧ I64 b.y1 ∧ I64 b.x2 ∧ I64 b.y2
def M.box0 : M.Box := ⟨0, 0, 0, 0, 0⟩
section
variable {H : Type} {enc : TypeId × Value → H} {w : World} {base : Nat} {spare : Nat → Bool} {held : Bool} {fuel : Nat}
theorem five {α : Type} {l : List α} (h : l.length = 5) : ∃ a b c d e, l = [a, b, c, d, e] := by
  match l, h with
  | [a, b, c, d, e], _ => exact ⟨a, b, c, d, e, rfl⟩
theorem box_of_cells {cs : List Value} {n : Nat} {y : DataW H × List MemPlace} (h : DataW.trod enc Tryz.prog w base spare held n 29 cs = some y) :
    ∃ b : M.Box, cs = boxL b ∧ BoxIn b := by
  obtain ⟨xs, n, _, _, hlen, hxl, hg⟩ := DataW.trod_struct Tryz.underlying29 h
  have hc : Tryz.prog.cellsOf 29 = 5 := by kernel_rfl
  have c1 : Tryz.prog.cellsOf 3 = 1 := by kernel_rfl
  rw [hc] at hlen
  obtain ⟨a0, a1, a2, a3, a4, rfl⟩ := five hlen
  obtain ⟨b0, b1, b2, b3, b4, rfl⟩ := five (l := xs) hxl
  obtain ⟨x0, rfl, h0⟩ := cell_i64 Tryz.underlying3 (by simpa [c1] using hg 0 _ rfl)
  obtain ⟨x1, rfl, h1⟩ := cell_i64 Tryz.underlying3 (by simpa [c1] using hg 1 _ rfl)
  obtain ⟨x2, rfl, h2⟩ := cell_i64 Tryz.underlying3 (by simpa [c1] using hg 2 _ rfl)
  obtain ⟨x3, rfl, h3⟩ := cell_i64 Tryz.underlying3 (by simpa [c1] using hg 3 _ rfl)
  obtain ⟨x4, rfl, h4⟩ := cell_i64 Tryz.underlying3 (by simpa [c1] using hg 4 _ rfl)
  exact ⟨⟨x0, x1, x2, x3, x4⟩, rfl, h0, h1, h2, h3, h4⟩
theorem open_box {r : Reach} {b0 : Nat} {v : Value} {d : DataW H} {p : List MemPlace} (hv : Value.okWide Tryz.prog w r b0 29 v)
    (h : DataW.Trod enc Tryz.prog w base spare held 29 v d p) : ∃ b, v = boxV b ∧ BoxIn b := by
  obtain ⟨cs, rfl, hsz⟩ := okWide_struct Tryz.underlying29 hv
  obtain ⟨l⟩ := cs
  obtain ⟨fuel, hf⟩ := h
  obtain ⟨r, hr, hok⟩ := box_of_cells (cs := l) (by simpa [Value.cells] using hf)
  exact ⟨r, by rw [hr]; rfl, hok⟩
theorem open_boxesAt {v : Value} {x : DataW H × List MemPlace} (h : DataW.trod enc Tryz.prog w 0 spare held fuel 65 [v] = some x) : ∃ rs, BoxesAt5 w 0 v rs ∧ ∀ r ∈ rs, BoxIn r := by
  rcases open_slice Tryz.underlying65 h with ⟨e, _⟩ | ⟨a, len, cap, m, n, D, Pl, e, hb, hl, hm, hmm, _, hx⟩
  · obtain rfl : v = .slice none 0 0 := by simpa using e
    exact ⟨[], ⟨rfl, Nat.zero_le _, none, 0, rfl, fun h => absurd rfl h⟩, by simp⟩
  · obtain rfl : v = .slice (some a) len cap := by simpa using e
    have c5 : Tryz.prog.cellsOf 29 = 5 := by kernel_rfl
    have hlm : len ≤ m := by rw [hmm]; split <;> omega
    haveI : Inhabited M.Box := ⟨M.box0⟩
    obtain ⟨f, hf⟩ := choose_lt (α := M.Box) (n := len) (p := fun i r => (∀ j, j < 5 → w.cell? (a.add (i * 5 + j)) = (boxL r)[j]?) ∧ BoxIn r) (fun i hi => by
      obtain ⟨cs', h1, h2⟩ := hx i (by omega)
      obtain ⟨r, rfl, hr⟩ := box_of_cells h2
      rw [c5] at h1
      obtain ⟨_, h3⟩ := cells_at h1
      refine ⟨r, fun j hj => ?_, hr⟩
      have := h3 j hj
      rw [add_add] at this
      exact this)
    refine ⟨(List.range len).map f, ?_, ?_⟩
    · have := lies_of (w := w) (k := 5) (len := len) (cap := cap) (a := a) boxL ((List.range len).map f) (by omega) (fun _ _ => rfl) hm hl (by simp) (by
        intro i x hi j hj
        simp only [List.getElem?_map] at hi
        rcases Nat.lt_or_ge i len with hlt | hge
        · rw [List.getElem?_range hlt] at hi
          simp only [Option.map_some, Option.some.injEq] at hi
          subst hi
          exact (hf i hlt).1 j hj
        · rw [List.getElem?_eq_none (by simpa using hge)] at hi; simp at hi)
      unfold BoxesAt5
      simpa using this
    · intro z hz
      obtain ⟨i, hi, rfl⟩ := List.mem_map.1 hz
      exact (hf i (by simpa using hi)).2
/-- a slice is not longer than its room -/
def CapOk (v : Value) : Prop := ∃ a n c, v = .slice a n c ∧ n ≤ c ∧ c ≤ maxLen
theorem open_cap {v : Value} {x : DataW H × List MemPlace} (h : DataW.trod enc Tryz.prog w 0 spare held fuel 65 [v] = some x) : CapOk v := by
  rcases open_slice Tryz.underlying65 h with ⟨e, _⟩ | ⟨a, len, cap, m, n, D, Pl, e, hb, hl, hm, hmm, _, hx⟩
  · obtain rfl : v = .slice none 0 0 := by simpa using e
    exact ⟨none, 0, 0, rfl, Nat.le_refl _, Nat.zero_le _⟩
  · obtain rfl : v = .slice (some a) len cap := by simpa using e
    exact ⟨some a, len, cap, rfl, hl, hm⟩
theorem open_boxes {r : Reach} {b0 : Nat} {v : Value} {d : DataW H} {p : List MemPlace} (hv : Value.okWide Tryz.prog w r b0 65 v)
    (h : DataW.Trod enc Tryz.prog w 0 spare held 65 v d p) : ∃ bs, BoxesAt5 w 0 v bs ∧ (∀ r ∈ bs, BoxIn r) ∧ CapOk v := by
  obtain ⟨a, len, cap, rfl⟩ := okWide_slice Tryz.underlying65 hv
  obtain ⟨fuel, hf⟩ := h
  have hf2 : DataW.trod enc Tryz.prog w 0 spare held fuel 65 [.slice a len cap] = some (d, p) := by simpa [Value.cells] using hf
  obtain ⟨bs, h1, h2⟩ := open_boxesAt hf2
  exact ⟨bs, h1, h2, open_cap hf2⟩
end
end Go.Proofs.YtkpecagkpjabdabGreat
/- A region that draws its order, shown by an invariant: each operation is walked once, whatever order is drawn. No condition. -/
namespace Go.Proofs.YtkpecagkpjabdabGreat
open Go
set_option linter.unusedVariables false
set_option linter.unusedSimpArgs false
set_option maxRecDepth 100000

/-- what is not done yet -/
def Undone (l : Array Bool) : Nat := l.toList.count false
theorem ready_spec {md : Region.Mode} {ops : Array Oper} {l : Array Bool} {i : Nat} (h : i ∈ Region.ready md ops l) :
    l.getD i true = false ∧ i < ops.size ∧ ∀ o, ops[i]? = some o → ∀ e ∈ o.after.toList, Region.binds md e = true → l.getD e.on false = true := by
  unfold Region.ready at h
  simp only [List.mem_filter, List.mem_range, Bool.and_eq_true, Bool.not_eq_true'] at h
  obtain ⟨h1, h2, h3⟩ := h
  refine ⟨h2, h1, fun o ho e he hb => ?_⟩
  rw [ho] at h3
  simp only [Option.map_some, Option.getD_some] at h3
  have h4 := (Array.all_eq_true'.1 h3) e (by simpa using he)
  simpa [hb] using h4
theorem ready_of {md : Region.Mode} {ops : Array Oper} {l : Array Bool} {i : Nat} (h1 : i < ops.size) (h2 : l.getD i true = false)
    (h3 : ∀ o, ops[i]? = some o → ∀ e ∈ o.after.toList, Region.binds md e = true → l.getD e.on false = true) : i ∈ Region.ready md ops l := by
  unfold Region.ready
  simp only [List.mem_filter, List.mem_range, Bool.and_eq_true, Bool.not_eq_true']
  refine ⟨h1, h2, ?_⟩
  rw [Array.getElem?_eq_getElem h1]
  simp only [Option.map_some, Option.getD_some]
  rw [Array.all_eq_true']
  intro e he
  cases hb : Region.binds md e
  · rfl
  · simpa using h3 _ (Array.getElem?_eq_getElem h1) e (by simpa using he) hb
/-- an operation that may come up: what it waits for is done -/
def waits (md : Region.Mode) (ops : Array Oper) (i j : Nat) : Bool := ((ops[i]?).map fun o => o.after.toList.any fun e => Region.binds md e && e.on == j).getD false
theorem ready_dep {md : Region.Mode} {ops : Array Oper} {l : Array Bool} {i : Nat} (h : i ∈ Region.ready md ops l) (j : Nat) (hw : waits md ops i j = true) : l.getD j false = true := by
  obtain ⟨h1, h2, h3⟩ := ready_spec h
  unfold waits at hw
  rw [Array.getElem?_eq_getElem h2] at hw
  simp only [Option.map_some, Option.getD_some, List.any_eq_true, Bool.and_eq_true, beq_iff_eq] at hw
  obtain ⟨e, he, hb, rfl⟩ := hw
  exact h3 _ (Array.getElem?_eq_getElem h2) e he hb
theorem getD_two {l : Array Bool} {i : Nat} (h : l.getD i true = false) : i < l.size ∧ l.getD i false = false := by
  by_cases hi : i < l.size
  · refine ⟨hi, ?_⟩
    simp [Array.getD, hi] at h ⊢
    exact h
  · simp [Array.getD, hi] at h
theorem undone_step {l : Array Bool} {i n : Nat} (h : l.getD i true = false) (hn : Undone l ≤ n + 1) : Undone (l.setIfInBounds i true) ≤ n := by
  obtain ⟨hi, h2⟩ := getD_two h
  unfold Undone at *
  have e : l[i] = false := by simpa [Array.getD, hi] using h
  rw [Array.toList_setIfInBounds, List.count_set (by simpa using hi)]
  have e2 : l.toList[i]'(by simpa using hi) = false := by simpa using e
  rw [e2]
  have hpos : 0 < l.toList.count false := List.count_pos_iff.2 (by rw [← e2]; exact List.getElem_mem _)
  rw [if_pos (by rfl), if_neg (by decide)]
  omega
theorem wpAny_inv {P : Program} {md : Region.Mode} {ops : Array Oper} {Q : Exit → Act → World → Prop} (Inv : Array Bool → Act → World → Prop)
    (hfin : ∀ l a w, Inv l a w → Region.ready md ops l = [] → Q .normal a w)
    (hstep : ∀ l a w i, Inv l a w → i ∈ Region.ready md ops l → wpOp P ops Q i (Inv (l.setIfInBounds i true)) a w) :
    ∀ n l a w, Undone l ≤ n → Inv l a w → wpAny P md ops Q n l a w := by
  intro n
  induction n with
  | zero =>
    intro l a w hn h
    have hr : Region.ready md ops l = [] := by
      rw [List.eq_nil_iff_forall_not_mem]
      intro i hi
      obtain ⟨h1, h2, _⟩ := ready_spec hi
      obtain ⟨h3, h4⟩ := getD_two h1
      have e2 : l.toList[i]'(by simpa using h3) = false := by simpa [Array.getD, h3] using h1
      have hpos : 0 < l.toList.count false := List.count_pos_iff.2 (by rw [← e2]; exact List.getElem_mem _)
      unfold Undone at hn
      omega
    exact ⟨hr, hfin l a w h hr⟩
  | succ n ih =>
    intro l a w hn h
    refine ⟨fun hr => hfin l a w h hr, fun i hi => ?_⟩
    exact wpOp_mono (fun a' w' h' => ih _ a' w' (undone_step (ready_spec hi).1 hn) h') (hstep l a w i h hi)
/-- nothing is left: all is done -/
theorem all_done {md : Region.Mode} {ops : Array Oper} {l : Array Bool} (hr : Region.ready md ops l = []) (hs : l.size = ops.size)
    (hd : ∀ i, i < ops.size → ∀ o, ops[i]? = some o → ∀ e ∈ o.after.toList, Region.binds md e = true → e.on < i) : ∀ i, i < ops.size → l.getD i false = true := by
  intro i
  induction i using Nat.strongRecOn with
  | ind i ih =>
    intro hi
    cases hx : l.getD i false with
    | true => rfl
    | false =>
      exfalso
      have hm : i ∈ Region.ready md ops l := by
        refine ready_of hi ?_ ?_
        · have : i < l.size := by omega
          simp [Array.getD, this] at hx ⊢
          exact hx
        · intro o ho e he hb
          have := hd i hi o ho e he hb
          exact ih e.on this (by omega)
      rw [hr] at hm
      cases hm
/-- one operation that runs -/
theorem wpOp_run {P : Program} {ops : Array Oper} {Q : Exit → Act → World → Prop} {i : Nat} {o : Oper} {K : Act → World → Prop} {a : Act} {w : World} (ho : ops[i]? = some o) (hg : o.guard = none) (h : o.wp P a w K Q) : wpOp P ops Q i K a w := by
  refine wpOp_step ho fun K' hK => ?_
  rw [if_pos (by simp [Region.wanted, hg])]
  exact Oper.wp_mono hK h
/-- a slot written, the others as they were -/
theorem put_same {a : Act} {t : Nat} {v : Value} (h : t < a.tmps.size) : (a.put (some t) v).eval (.tmp t) = v := by
  simp [Act.eval, Act.put, h]
theorem put_other {a : Act} {t s : Nat} {v : Value} (h : t ≠ s) : (a.put (some t) v).eval (.tmp s) = a.eval (.tmp s) := by
  simp [Act.eval, Act.put, Array.getElem?_setIfInBounds, h]
theorem put_none {a : Act} {v : Value} : a.put none v = a := rfl
theorem set_getD {l : Array Bool} {i k : Nat} (h : (l.setIfInBounds i true).getD k false = true) : k = i ∨ l.getD k false = true := by
  by_cases e : k = i
  · exact .inl e
  · right
    by_cases hk : k < l.size
    · simp [Array.getD, hk, Array.getElem_setIfInBounds, Ne.symm e] at h ⊢
      exact h
    · simp [Array.getD, hk] at h
theorem getD_set {l : Array Bool} {i k : Nat} (h : l.getD k false = true) : (l.setIfInBounds i true).getD k false = true := by
  by_cases hk : k < l.size
  · simp [Array.getD, hk, Array.getElem_setIfInBounds] at h ⊢
    by_cases e : i = k
    · simp [e]
    · simp [e, h]
  · simp [Array.getD, hk] at h
end Go.Proofs.YtkpecagkpjabdabGreat
/- Plain: one thing that moves, two steps on. No condition, no program in sight. -/
namespace Go.Proofs.YtkpecagkpjabdabGreat.M
open Go.RowKit
set_option linter.unusedVariables false
set_option linter.unusedSimpArgs false
set_option maxRecDepth 100000
def row14 (x : Int) : Row := ⟨x, 500, 14, 0, 0, 0, 2, 0⟩
def st14 (x : Int) : Store := ⟨[⟨11, [0], [row14 x]⟩], 1⟩
def wd14 (x : Int) : Wd := ⟨st14 x, 0, 1000, 1000⟩
theorem spawn14 : spawn ⟨[], 0⟩ 11 (row14 500) = (st14 500, 0, 0) := by decide
theorem get14 : get (st14 507) 0 = (11, row14 507, true) := by decide
theorem get14b : get (st14 514) 0 = (11, row14 514, true) := by decide
theorem query14 (x : Int) : query (st14 x) 11 = [0] := by
  show ((if bits .and .i64 11 11 = 11 then [(0 : Int)] else []) ++ []).mergeSort _ = _
  rw [if_pos (by decide)]
  exact List.mergeSort_singleton _
theorem boxes14 (x : Int) : boxes (st14 x) = [] := by
  have : query (st14 x) 5 = [] := by
    show ((if bits .and .i64 11 5 = 5 then [(0 : Int)] else []) ++ []).mergeSort _ = _
    rw [if_neg (by decide)]
    exact List.mergeSort_nil
  unfold boxes
  rw [this]
  rfl
theorem pairs_none : pairs [] = [] := by
  unfold pairs
  rw [if_pos (by decide), allP_nil]
  exact List.mergeSort_nil
theorem step_move {x y : Int} (hg : goodW (wd14 x) = true) (h1 : goOn 0 (st14 x) 0 = st14 y) (h2 : walled 1000 1000 (st14 y) 0 = st14 y) : step (wd14 x) = (wd14 y, [], 0) := by
  have g : gone (wd14 x) = st14 y := by
    show (query (st14 x) 11).foldl (goOn 0) (st14 x) = _
    rw [query14]
    exact h1
  have m : met (wd14 x) = (st14 y, []) := by
    unfold met
    rw [g, boxes14, pairs_none]
    rfl
  have e : ends (wd14 x) = st14 y := by
    show (query (met (wd14 x)).1 11).foldl (walled 1000 1000) (met (wd14 x)).1 = _
    rw [m]
    show (query (st14 y) 11).foldl (walled 1000 1000) (st14 y) = _
    rw [query14]
    exact h2
  unfold step
  rw [if_pos hg, e, m]
  rfl
theorem step14 : step (wd14 500) = (wd14 507, [], 0) := step_move (by decide) (by decide) (by decide)
theorem step14b : step (wd14 507) = (wd14 514, [], 0) := step_move (by decide) (by decide) (by decide)
end Go.Proofs.YtkpecagkpjabdabGreat.M
/- '==' between two rows. No condition. -/
namespace Go.Proofs.YtkpecagkpjabdabGreat
open Go.RowKit
set_option linter.unusedVariables false
set_option linter.unusedSimpArgs false
set_option maxRecDepth 100000
theorem row_eql (a b : M.Row) (w : World) : (binOp .eql 27 (rowV a) (rowV b)).run Tryz.prog w = .ok (.bool (decide (a = b))) w := by
  have hS : Tryz.prog.underlying 27 = some (.struct (Tryz.prog.fieldsOf 27)) := by kernel_rfl
  have hp : Tryz.prog.stoodInHeld 27 = false := by kernel_rfl
  obtain ⟨a0, a1, a2, a3, a4, a5, a6, a7⟩ := a
  obtain ⟨b0, b1, b2, b3, b4, b5, b6, b7⟩ := b
  rw [run_eql_struct, show (10000 : Nat) = 9999 + 1 from rfl, run_equalIn_agg w 9999 27 _ _ hS hp]
  simp only [Program.fieldsOf, Tryz.underlying27]
  go_simp
  clear hS hp
  (repeat' split) <;> simp_all
theorem row_eql_yes (a b : M.Row) (w : World) (h : a = b) : (binOp .eql 27 (rowV a) (rowV b)).run Tryz.prog w = .ok (.bool true) w := by
  rw [row_eql, decide_eq_true h]
end Go.Proofs.YtkpecagkpjabdabGreat
/- Plain: what WorldSums asks of each row, and sums over a beginning of the things. No condition, no program in sight. -/
namespace Go.Proofs.YtkpecagkpjabdabGreat.M
open Go.RowKit
set_option linter.unusedVariables false
set_option linter.unusedSimpArgs false
set_option maxRecDepth 100000
def calmW (r : Row) : Bool := decide ((-524288 ≤ r.X ∧ r.X ≤ 524288) ∧ (-524288 ≤ r.Y ∧ r.Y ≤ 524288) ∧ (-16384 ≤ r.PX ∧ r.PX ≤ 16384) ∧ (-16384 ≤ r.PY ∧ r.PY ≤ 16384))
structure PassW (d : Wd) (e : Entry) : Prop where
  loose : moves e.2.1 = false → bit e.2.1 4 = false
  light : bit e.2.1 16 = false
  calm : calmW e.2.2 = true
  far : moves e.2.1 = true → (110000 ≤ e.2.2.X ∧ e.2.2.X ≤ d.wide - 110000) ∧ (110000 ≤ e.2.2.Y ∧ e.2.2.Y ≤ d.high - 110000)
theorem free_of {d : Wd} (g : GoodS d.things) (h : ∀ e ∈ entries d.things, PassW d e) : Free d := by
  have k : ∀ id m r, at_ d.things id = some (m, r) → PassW d (id, m, r) := fun id m r e => h _ ((look_some g.nodup).1 e)
  refine ⟨fun id m r e => (k id m r e).loose, fun id m r e => (k id m r e).light, fun id m r e => ?_, fun id m r e => (k id m r e).far⟩
  have := (k id m r e).calm
  unfold calmW at this
  simp only [decide_eq_true_eq] at this
  exact ⟨this.2.2.1, this.2.2.2⟩
def sumL (f : Entry → Int) (l : List Entry) : Int := (l.map f).sum
theorem sumL_snoc (f : Entry → Int) (l : List Entry) (e : Entry) : sumL f (l ++ [e]) = sumL f l + f e := by
  unfold sumL
  rw [List.map_append, List.sum_append]
  simp
/-- the things ahead of the k-th one of table n -/
def ahead (s : Store) (n k : Nat) : List Entry := entriesT (s.tables.take n) ++ ((s.tables[n]?).map fun t => t.entries.take k).getD []
theorem ahead_zero (s : Store) : ahead s 0 0 = [] := by
  unfold ahead
  cases s.tables[0]? <;> simp [entriesT]
theorem ahead_row {s : Store} {n k : Nat} {t : Table} {id : Int} {r : Row} (ht : s.tables[n]? = some t) (h1 : t.ids[k]? = some id) (h2 : t.rows[k]? = some r) : ahead s n (k + 1) = ahead s n k ++ [(id, t.mask, r)] := by
  unfold ahead
  rw [ht]
  simp only [Option.map_some, Option.getD_some, List.append_assoc]
  congr 1
  have : t.entries[k]? = some (id, t.mask, r) := by
    unfold Table.entries
    rw [List.getElem?_map, (List.getElem?_zip_eq_some (z := (id, r))).2 ⟨h1, h2⟩]
    rfl
  rw [List.take_add_one, this]
  rfl
theorem ahead_next {s : Store} {n : Nat} {t : Table} (ht : s.tables[n]? = some t) (hl : t.ids.length = t.rows.length) {k : Nat} (hk : k = t.ids.length) : ahead s (n + 1) 0 = ahead s n k := by
  subst hk
  unfold ahead
  rw [ht, List.take_add_one, ht]
  simp only [Option.map_some, Option.getD_some, Option.toList_some]
  have e : t.entries.take t.ids.length = t.entries := List.take_of_length_le (by unfold Table.entries; simp; omega)
  rw [e]
  have : ((s.tables[n + 1]?).map fun t => t.entries.take 0).getD [] = ([] : List Entry) := by cases s.tables[n + 1]? <;> simp
  rw [this]
  simp [entriesT]
theorem ahead_all (s : Store) : ahead s s.tables.length 0 = entries s := by
  unfold ahead
  rw [List.take_length, List.getElem?_eq_none (Nat.le_refl _)]
  simp [entries]
theorem ahead_mem {s : Store} {n k : Nat} : ∀ e ∈ ahead s n k, e ∈ entries s := by
  intro e h
  unfold ahead at h
  rcases List.mem_append.1 h with h | h
  · unfold entriesT at h
    obtain ⟨t, ht, he⟩ := List.mem_flatMap.1 h
    exact List.mem_flatMap.2 ⟨t, List.mem_of_mem_take ht, he⟩
  · cases ht : s.tables[n]? with
    | none => rw [ht] at h; simp at h
    | some t =>
      rw [ht] at h
      simp only [Option.map_some, Option.getD_some] at h
      exact List.mem_flatMap.2 ⟨t, List.mem_of_getElem? ht, List.mem_of_mem_take h⟩
theorem entriesT_take (l : List Table) (n : Nat) : (entriesT (l.take n)).length ≤ (entriesT l).length := by
  have : entriesT l = entriesT (l.take n) ++ entriesT (l.drop n) := by unfold entriesT; rw [← List.flatMap_append, List.take_append_drop]
  rw [this, List.length_append]
  omega
theorem ahead_len {s : Store} (g : GoodS s) {n k : Nat} : (ahead s n k).length ≤ 10 := by
  have h10 : (entries s).length ≤ 10 := by have := g.2.2.2.1; have e := g.size; have e2 : size s = (idsT s.tables).length := rfl; omega
  refine Nat.le_trans ?_ h10
  unfold ahead entries
  cases ht : s.tables[n]? with
  | none =>
    simp only [Option.map_none, Option.getD_none, List.append_nil]
    exact entriesT_take _ _
  | some t =>
    simp only [Option.map_some, Option.getD_some]
    have e : entriesT (s.tables.take (n + 1)) = entriesT (s.tables.take n) ++ t.entries := by
      unfold entriesT
      rw [List.take_add_one, ht]
      simp
    have h1 : (entriesT (s.tables.take n) ++ t.entries.take k).length ≤ (entriesT (s.tables.take (n + 1))).length := by
      rw [e, List.length_append, List.length_append, List.length_take]
      omega
    exact Nat.le_trans h1 (entriesT_take _ _)
theorem sum_bd (f : Entry → Int) (l : List Entry) (h : ∀ e ∈ l, -16777216 ≤ f e ∧ f e ≤ 16777216) : -(16777216 * (l.length : Int)) ≤ sumL f l ∧ sumL f l ≤ 16777216 * (l.length : Int) := by
  induction l with
  | nil => simp [sumL]
  | cons a l ih =>
    have h1 := h a (List.mem_cons_self ..)
    have h2 := ih (fun e he => h e (List.mem_cons_of_mem _ he))
    have e : sumL f (a :: l) = f a + sumL f l := by simp [sumL]
    rw [e, List.length_cons]
    omega
theorem pxf_bd {s : Store} (g : GoodS s) : ∀ e ∈ entries s, (-16777216 ≤ pxf e ∧ pxf e ≤ 16777216) ∧ (-16777216 ≤ pyf e ∧ pyf e ≤ 16777216) := by
  intro e he
  have hf := fits_small (entry_fits g he)
  unfold pxf pyf
  constructor <;> split <;> omega
theorem ahead_bd {s : Store} (g : GoodS s) (n k : Nat) : (-167772160 ≤ sumL pxf (ahead s n k) ∧ sumL pxf (ahead s n k) ≤ 167772160) ∧ (-167772160 ≤ sumL pyf (ahead s n k) ∧ sumL pyf (ahead s n k) ≤ 167772160) := by
  have h1 := sum_bd pxf (ahead s n k) (fun e he => (pxf_bd g e (ahead_mem e he)).1)
  have h2 := sum_bd pyf (ahead s n k) (fun e he => (pxf_bd g e (ahead_mem e he)).2)
  have h3 := ahead_len g (n := n) (k := k)
  omega
theorem tabs_few {s : Store} (g : GoodS s) : s.tables.length ≤ (idsT s.tables).length := by
  have h : ∀ l : List Table, (∀ t ∈ l, t.ids ≠ []) → l.length ≤ (idsT l).length := by
    intro l
    induction l with
    | nil => intro _; simp [idsT]
    | cons t l ih =>
      intro h
      have h1 := ih (fun t ht => h t (List.mem_cons_of_mem _ ht))
      have h2 : 0 < t.ids.length := List.length_pos_iff.2 (h t (List.mem_cons_self ..))
      have e : idsT (t :: l) = t.ids ++ idsT l := rfl
      rw [e, List.length_append, List.length_cons]
      omega
  exact h _ (fun t ht => (g.1 t ht).1)
theorem sums_step {d : Wd} (g : GoodWd d) (h : ∀ e ∈ entries d.things, PassW d e) : sumL pxf (entries (step d).1.things) = sumL pxf (entries d.things) ∧ sumL pyf (entries (step d).1.things) = sumL pyf (entries d.things) := by
  have k := ends_sums g (free_of g.things h)
  have e : (step d).1.things = ends d := by
    unfold step
    rw [if_pos (goodW_iff.2 g)]
  rw [e]
  exact k
end Go.Proofs.YtkpecagkpjabdabGreat.M
/- Opening an act that came in as an argument. No condition. -/
namespace Go.Proofs.YtkpecagkpjabdabGreat
open Go.ChangeShapes Go.WideShapes Go.ChangeAt Go.RowKit Go.Deep
set_option linter.unusedVariables false
set_option linter.unusedSimpArgs false
set_option maxRecDepth 100000

/-- the value of an act -/
abbrev actC (a : M.Act) : Array Value := #[.int .i64 a.kind, .int .i64 a.id, .int .i64 a.n, .int .i64 a.mask, .int .i64 a.row.X, .int .i64 a.row.Y, .int .i64 a.row.PX, .int .i64 a.row.PY, .int .i64 a.row.W, .int .i64 a.row.H, .int .i64 a.row.M, .int .i64 a.row.R, .int .i64 a.box.id, .int .i64 a.box.x1, .int .i64 a.box.y1, .int .i64 a.box.x2, .int .i64 a.box.y2]
abbrev actV (a : M.Act) : Value := .agg (actC a)
def ActIn (a : M.Act) : Prop := (I64 a.kind ∧ I64 a.id ∧ I64 a.n ∧ I64 a.mask) ∧ RowOk a.row ∧ (I64 a.box.id ∧ I64 a.box.x1 ∧ I64 a.box.y1 ∧ I64 a.box.x2 ∧ I64 a.box.y2)
section
variable {H : Type} {enc : TypeId × Value → H} {w : World} {base : Nat} {spare : Nat → Bool} {held : Bool} {fuel : Nat}
theorem seventeen {l : List Value} (h : l.length = 17) : ∃ a0 a1 a2 a3 a4 a5 a6 a7 a8 a9 a10 a11 a12 a13 a14 a15 a16, l = [a0, a1, a2, a3, a4, a5, a6, a7, a8, a9, a10, a11, a12, a13, a14, a15, a16] := by
  match l, h with
  | [a0, a1, a2, a3, a4, a5, a6, a7, a8, a9, a10, a11, a12, a13, a14, a15, a16], _ => exact ⟨a0, a1, a2, a3, a4, a5, a6, a7, a8, a9, a10, a11, a12, a13, a14, a15, a16, rfl⟩
theorem six {α : Type} {l : List α} (h : l.length = 6) : ∃ a b c d e f, l = [a, b, c, d, e, f] := by
  match l, h with
  | [a, b, c, d, e, f], _ => exact ⟨a, b, c, d, e, f, rfl⟩
theorem five5 {α : Type} {l : List α} (h : l.length = 5) : ∃ a b c d e, l = [a, b, c, d, e] := by
  match l, h with
  | [a, b, c, d, e], _ => exact ⟨a, b, c, d, e, rfl⟩
theorem abox_of_cells {cs : List Value} {n : Nat} {y : DataW H × List MemPlace} (h : DataW.trod enc Tryz.prog w base spare held n 29 cs = some y) :
    ∃ b : M.Box, cs = [.int .i64 b.id, .int .i64 b.x1, .int .i64 b.y1, .int .i64 b.x2, .int .i64 b.y2] ∧ (I64 b.id ∧ I64 b.x1 ∧ I64 b.y1 ∧ I64 b.x2 ∧ I64 b.y2) := by
  obtain ⟨xs, n, _, _, hlen, hxl, hg⟩ := DataW.trod_struct Tryz.underlying29 h
  have hc : Tryz.prog.cellsOf 29 = 5 := by kernel_rfl
  have c1 : Tryz.prog.cellsOf 3 = 1 := by kernel_rfl
  rw [hc] at hlen
  obtain ⟨a0, a1, a2, a3, a4, rfl⟩ := five5 hlen
  obtain ⟨b0, b1, b2, b3, b4, rfl⟩ := five5 (l := xs) hxl
  obtain ⟨x0, rfl, h0⟩ := cell_i64 Tryz.underlying3 (by simpa [c1] using hg 0 _ rfl)
  obtain ⟨x1, rfl, h1⟩ := cell_i64 Tryz.underlying3 (by simpa [c1] using hg 1 _ rfl)
  obtain ⟨x2, rfl, h2⟩ := cell_i64 Tryz.underlying3 (by simpa [c1] using hg 2 _ rfl)
  obtain ⟨x3, rfl, h3⟩ := cell_i64 Tryz.underlying3 (by simpa [c1] using hg 3 _ rfl)
  obtain ⟨x4, rfl, h4⟩ := cell_i64 Tryz.underlying3 (by simpa [c1] using hg 4 _ rfl)
  exact ⟨⟨x0, x1, x2, x3, x4⟩, rfl, h0, h1, h2, h3, h4⟩
theorem act_of_cells {cs : List Value} {n : Nat} {y : DataW H × List MemPlace} (h : DataW.trod enc Tryz.prog w base spare held n 31 cs = some y) : ∃ a : M.Act, cs = (actC a).toList ∧ ActIn a := by
  obtain ⟨xs, n, _, _, hlen, hxl, hg⟩ := DataW.trod_struct Tryz.underlying31 h
  have hc : Tryz.prog.cellsOf 31 = 17 := by kernel_rfl
  have c1 : Tryz.prog.cellsOf 3 = 1 := by kernel_rfl
  have c8 : Tryz.prog.cellsOf 27 = 8 := by kernel_rfl
  have c5 : Tryz.prog.cellsOf 29 = 5 := by kernel_rfl
  rw [hc] at hlen
  obtain ⟨a0, a1, a2, a3, a4, a5, a6, a7, a8, a9, a10, a11, a12, a13, a14, a15, a16, rfl⟩ := seventeen hlen
  obtain ⟨b0, b1, b2, b3, b4, b5, rfl⟩ := six (l := xs) hxl
  obtain ⟨x0, rfl, h0⟩ := cell_i64 Tryz.underlying3 (by simpa [c1] using hg 0 _ rfl)
  obtain ⟨x1, rfl, h1⟩ := cell_i64 Tryz.underlying3 (by simpa [c1] using hg 1 _ rfl)
  obtain ⟨x2, rfl, h2⟩ := cell_i64 Tryz.underlying3 (by simpa [c1] using hg 2 _ rfl)
  obtain ⟨x3, rfl, h3⟩ := cell_i64 Tryz.underlying3 (by simpa [c1] using hg 3 _ rfl)
  obtain ⟨r, er, hr⟩ := row_of_cells (cs := [a4, a5, a6, a7, a8, a9, a10, a11]) (by simpa [c8] using hg 4 _ rfl)
  obtain ⟨b, eb, hb⟩ := abox_of_cells (cs := [a12, a13, a14, a15, a16]) (by simpa [c5] using hg 5 _ rfl)
  simp only [List.cons.injEq, and_true] at er eb
  obtain ⟨rfl, rfl, rfl, rfl, rfl, rfl, rfl, rfl⟩ := er
  obtain ⟨rfl, rfl, rfl, rfl, rfl⟩ := eb
  exact ⟨⟨x0, x1, x2, x3, r, b⟩, rfl, ⟨h0, h1, h2, h3⟩, hr, hb⟩
theorem open_act {r : Reach} {b0 : Nat} {v : Value} {d : DataW H} {p : List MemPlace} (hv : Value.okWide Tryz.prog w r b0 31 v)
    (h : DataW.Trod enc Tryz.prog w base spare held 31 v d p) : ∃ a, v = actV a ∧ ActIn a := by
  obtain ⟨cs, rfl, hsz⟩ := okWide_struct Tryz.underlying31 hv
  obtain ⟨l⟩ := cs
  obtain ⟨fuel, hf⟩ := h
  obtain ⟨a, ha, hok⟩ := act_of_cells (cs := l) (by simpa [Value.cells] using hf)
  exact ⟨a, by rw [ha], hok⟩
end
end Go.Proofs.YtkpecagkpjabdabGreat
