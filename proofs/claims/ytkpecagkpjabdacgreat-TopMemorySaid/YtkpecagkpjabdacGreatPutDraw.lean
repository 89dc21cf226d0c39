/- The last statement of store.put, a region that draws its order: each operation once. Condition: what the walk of put has shown ahead of it. -/
import Derived.Test.YtkpecagkpjabdacGreatBagS
import Derived.Test.YtkpecagkpjabdacGreatBagW
import Derived.Great.BuildSlice
import Derived.Laws.Rows
import Derived.BigFrame
namespace Go.Proofs.YtkpecagkpjabdacGreat
open Go.RowKit
set_option linter.unusedVariables false
set_option linter.unusedSimpArgs false
set_option maxRecDepth 100000

/-- a region of a function's code, by its number -/
def regionOf (n : Nat) : Code → Option Code
  | .region i ops d => if i = n then some (.region i ops d) else none
  | .seq a b => match regionOf n a with
    | some c => some c
    | none => regionOf n b
  | .block _ c => regionOf n c
  | .loop c => regionOf n c
  | .scope c => regionOf n c
  | .cond _ a b => match regionOf n a with
    | some c => some c
    | none => regionOf n b
  | _ => none
noncomputable def putLast : Code := ((Tryz.f60.body.bind (regionOf 5)).getD .skip)
noncomputable def putOps : Array Oper := match putLast with
  | .region _ ops _ => ops
  | _ => #[]
theorem putLast_is : putLast = .region 5 putOps true := by kernel_rfl
theorem putOps_size : putOps.size = 22 := by kernel_rfl
theorem op_at {k : Nat} {x : Op} {d : Option Nat} (h : (putOps[k]?).map (fun o => (o.guard.isNone, o.op, o.dst)) = some (true, x, d)) : ∃ o, putOps[k]? = some o ∧ o.guard = none ∧ o.op = x ∧ o.dst = d := by
  cases ho : putOps[k]? with
  | none => rw [ho] at h; simp at h
  | some o =>
    rw [ho] at h
    simp only [Option.map_some, Option.some.injEq, Prod.mk.injEq] at h
    exact ⟨o, rfl, by simpa using h.1, h.2.1, h.2.2⟩

def slotK (k : Nat) : Nat := if k = 19 then 58 else if k = 20 then 59 else 40 + k
theorem slot_ne {k j : Nat} (h : k ≠ j) (hk : k < 22 ∧ k ≠ 18 ∧ k ≠ 21) (hj : j < 22 ∧ j ≠ 18 ∧ j ≠ 21) : slotK k ≠ slotK j := by
  unfold slotK; split <;> split <;> (try split) <;> (try split) <;> omega
theorem slot_lt {k : Nat} (hk : k < 22 ∧ k ≠ 18 ∧ k ≠ 21) : 40 ≤ slotK k ∧ slotK k < 60 := by
  unfold slotK; split <;> (try split) <;> omega
structure Gh where
  b47 : Nat
  b54 : Nat
  v48 : Value
  v55 : Value
structure PC where
  wc : World
  base : Nat
  g0 : Nat
  i : Nat
  rb : Nat
  id : Int
  r : M.Row
  t1 : M.Table
  s1 : Value
  s2 : Value
def PC.val (c : PC) (g : Gh) (k : Nat) : Value :=
  if k = 4 ∨ k = 17 then .pointer (some ⟨c.g0, c.i * 3 + 1, none⟩)
  else if k = 11 ∨ k = 20 then .pointer (some ⟨c.g0, c.i * 3 + 2, none⟩)
  else if k = 5 then c.s1 else if k = 6 then .int .i64 c.id else if k = 7 then .slice (some ⟨g.b47, 0, none⟩) 1 1 else if k = 8 then g.v48
  else if k = 12 then c.s2 else if k = 13 then rowV c.r else if k = 14 then .slice (some ⟨g.b54, 0, none⟩) 1 1 else if k = 15 then g.v55
  else .pointer (some ⟨c.g0, c.i * 3, none⟩)
structure PC.Ok (c : PC) : Prop where
  hg1 : c.g0 < c.wc.heap.size
  lrc : c.rb < c.wc.heap.size
  base : c.base ≤ c.wc.heap.size
  TF : ∀ j, c.wc.frozen? ⟨c.g0, j, none⟩ = false
  T1 : c.wc.cell? ⟨c.g0, c.i * 3 + 1, none⟩ = some c.s1
  T2 : c.wc.cell? ⟨c.g0, c.i * 3 + 2, none⟩ = some c.s2
  row : Blk c.wc c.rb 23 (rowC c.r)
  own1 : c.wc.ownsRow c.base 3 1 c.s1 c.t1.ids.length (c.t1.ids.map (.int .i64))
  own2 : c.wc.ownsRow c.base 23 8 c.s2 c.t1.rows.length (c.t1.rows.flatMap rowL)
  v1 : c.s1.ownBlock ≠ some c.g0
  v2 : c.s2.ownBlock ≠ some c.g0
  f1 : c.s1.ownBlock ≠ some c.rb
  f2 : c.s2.ownBlock ≠ some c.rb
  ne : ∀ g, c.s1.ownBlock = some g → c.s2.ownBlock ≠ some g
  n1 : c.t1.ids.length ≤ 1000
  n2 : c.t1.rows.length ≤ 1000
abbrev PC.Put (c : PC) (a b : Option Value) (W : World) : Prop := PutAt c.base c.wc (c.s1, c.s2) (c.t1.ids ++ [c.id]) (c.t1.rows ++ [c.r]) a b W
structure PC.At (c : PC) (g : Gh) (l : Array Bool) (a : Act) (W : World) : Prop where
  slots : ∀ k, k < 22 ∧ k ≠ 18 ∧ k ≠ 21 → l.getD k false = true → a.eval (.tmp (slotK k)) = c.val g k
  put : c.Put (if l.getD 8 false = true then some g.v48 else none) (if l.getD 15 false = true then some g.v55 else none) W
  b47 : l.getD 7 false = true → Blk W g.b47 3 #[.int .i64 c.id] ∧ c.wc.heap.size ≤ g.b47
  b54 : l.getD 14 false = true → Blk W g.b54 23 (rowC c.r) ∧ c.wc.heap.size ≤ g.b54
def PC.Stored (c : PC) (g : Gh) (l : Array Bool) (W0 W : World) : Prop :=
  (l.getD 18 false = false ∧ l.getD 21 false = false ∧ W = W0) ∨
  ((∀ k ∈ [5, 7, 8, 12, 13, 14, 15], l.getD k false = true) ∧ l.getD 18 false = true ∧
    ((l.getD 21 false = false ∧ W = W0.setCell ⟨c.g0, c.i * 3 + 1, none⟩ g.v48) ∨ (l.getD 21 false = true ∧ W = (W0.setCell ⟨c.g0, c.i * 3 + 1, none⟩ g.v48).setCell ⟨c.g0, c.i * 3 + 2, none⟩ g.v55)))
structure PC.Inv (c : PC) (l : Array Bool) (a : Act) (W : World) : Prop where
  size : l.size = 22
  len : a.tmps.size = 60
  defers : a.defers = []
  p10 : a.eval (.tmp 10) = .pointer (some ⟨c.g0, c.i * 3, none⟩)
  p1 : a.eval (.tmp 1) = .int .i64 c.id
  p7 : a.eval (.tmp 7) = .pointer (some ⟨c.rb, 0, none⟩)
  closed : ∀ k j, waits .any putOps k j = true → l.getD k false = true → l.getD j false = true
  ghost : ∃ (g : Gh) (W0 : World), c.At g l a W0 ∧ c.Stored g l W0 W

theorem getD_ne {l : Array Bool} {i k : Nat} (h : i ≠ k) : (l.setIfInBounds i true).getD k false = l.getD k false := by
  by_cases hk : k < l.size
  · simp [Array.getD, hk, Array.getElem_setIfInBounds, h]
  · simp [Array.getD, hk]
theorem getD_eq {l : Array Bool} {i : Nat} (h : i < l.size) : (l.setIfInBounds i true).getD i false = true := by
  simp [Array.getD, h]
section
variable {c : PC} {l : Array Bool} {a : Act} {W : World}
/-- the frame's part of a step that writes slot k -/
theorem slots_put {g g' : Gh} {k : Nat} {v : Value} (hs : ∀ k, k < 22 ∧ k ≠ 18 ∧ k ≠ 21 → l.getD k false = true → a.eval (.tmp (slotK k)) = c.val g k) (hlen : a.tmps.size = 60) (hk : k < 22 ∧ k ≠ 18 ∧ k ≠ 21)
    (hv : c.val g' k = v) (he : ∀ j, j ≠ k → c.val g' j = c.val g j) :
    ∀ j, j < 22 ∧ j ≠ 18 ∧ j ≠ 21 → (l.setIfInBounds k true).getD j false = true → (a.put (some (slotK k)) v).eval (.tmp (slotK j)) = c.val g' j := by
  intro j hj hl
  by_cases e : k = j
  · subst e
    rw [put_same (by rw [hlen]; exact (slot_lt hk).2), hv]
  · rw [put_other (slot_ne e hk hj), he j (fun h => e h.symm)]
    exact hs j hj (by rwa [getD_ne e] at hl)
theorem closed_step {k : Nat} (h : ∀ k j, waits .any putOps k j = true → l.getD k false = true → l.getD j false = true) (hi : k ∈ Region.ready .any putOps l) :
    ∀ k' j, waits .any putOps k' j = true → (l.setIfInBounds k true).getD k' false = true → (l.setIfInBounds k true).getD j false = true := by
  intro k' j hw hl
  rcases set_getD hl with rfl | hl
  · exact getD_set (ready_dep hi j hw)
  · exact getD_set (h k' j hw hl)
theorem PC.Inv.frame {k : Nat} {v : Value} {W' : World} (h : c.Inv l a W) (hi : k ∈ Region.ready .any putOps l) (hk : k < 22 ∧ k ≠ 18 ∧ k ≠ 21)
    (hgh : ∃ (g : Gh) (W0 : World), c.At g (l.setIfInBounds k true) (a.put (some (slotK k)) v) W0 ∧ c.Stored g (l.setIfInBounds k true) W0 W') : c.Inv (l.setIfInBounds k true) (a.put (some (slotK k)) v) W' := by
  have h40 := slot_lt hk
  refine ⟨by simp [h.size], by simp [Act.put, h.len], h.defers, ?_, ?_, ?_, closed_step h.closed hi, hgh⟩
  · rw [put_other (by omega)]; exact h.p10
  · rw [put_other (by omega)]; exact h.p1
  · rw [put_other (by omega)]; exact h.p7
/-- before the stores the world is the appends' own -/
theorem PC.Stored.early {g : Gh} {W0 : World} (h : c.Stored g l W0 W) {k : Nat} (hk : k ∈ [5, 7, 8, 12, 13, 14, 15]) (hl : l.getD k true = false) : W = W0 ∧ l.getD 18 false = false ∧ l.getD 21 false = false := by
  rcases h with ⟨h1, h2, h3⟩ | ⟨h1, _⟩
  · exact ⟨h3, h1, h2⟩
  · have := h1 k hk
    rw [(getD_two hl).2] at this
    cases this
/-- a step that touches no world -/
theorem PC.Inv.pure {k : Nat} {v : Value} (h : c.Inv l a W) (hi : k ∈ Region.ready .any putOps l) (hk : k < 22) (hn : k ≠ 7 ∧ k ≠ 8 ∧ k ≠ 14 ∧ k ≠ 15 ∧ k ≠ 18 ∧ k ≠ 21) (hv : ∀ g, c.val g k = v) : c.Inv (l.setIfInBounds k true) (a.put (some (slotK k)) v) W := by
  obtain ⟨g, W0, hA, hS⟩ := h.ghost
  refine h.frame hi ⟨hk, hn.2.2.2.2.1, hn.2.2.2.2.2⟩ ⟨g, W0, ⟨slots_put hA.slots h.len ⟨hk, hn.2.2.2.2.1, hn.2.2.2.2.2⟩ (hv g) (fun _ _ => rfl), ?_, ?_, ?_⟩, ?_⟩
  · rw [getD_ne hn.2.1, getD_ne hn.2.2.2.1]; exact hA.put
  · rw [getD_ne hn.1]; exact hA.b47
  · rw [getD_ne hn.2.2.1]; exact hA.b54
  · unfold PC.Stored at hS ⊢
    rw [getD_ne hn.2.2.2.2.1, getD_ne hn.2.2.2.2.2]
    rcases hS with hS | ⟨h1, h2⟩
    · exact .inl hS
    · exact .inr ⟨fun j hj => getD_set (h1 j hj), h2⟩
end

/-! the operations, by kind -/
theorem wp_nil {o : Oper} {a : Act} {w : World} {K : Act → World → Prop} {Q : Exit → Act → World → Prop} {x : Operand} {ad : Addr} (ho : o.op = .nilCheck x) (hx : a.eval x = .pointer (some ad))
    (hk : K (a.put o.dst (.pointer (some ad))) w) : o.wp Tryz.prog a w K Q := by
  unfold Oper.wp execOp
  simp only [ho, hx]
  go_simp
  exact hk
theorem wp_field1 {o : Oper} {a : Act} {w : World} {K : Act → World → Prop} {Q : Exit → Act → World → Prop} {x : Operand} {b n : Nat} (ho : o.op = .fieldAddr 80 x 1) (hx : a.eval x = .pointer (some ⟨b, n, none⟩))
    (hk : K (a.put o.dst (.pointer (some ⟨b, n + 1, none⟩))) w) : o.wp Tryz.prog a w K Q := by
  unfold Oper.wp execOp
  simp only [ho, hx]
  go_simp
  exact hk
theorem wp_field2 {o : Oper} {a : Act} {w : World} {K : Act → World → Prop} {Q : Exit → Act → World → Prop} {x : Operand} {b n : Nat} (ho : o.op = .fieldAddr 80 x 2) (hx : a.eval x = .pointer (some ⟨b, n, none⟩))
    (hk : K (a.put o.dst (.pointer (some ⟨b, n + 2, none⟩))) w) : o.wp Tryz.prog a w K Q := by
  unfold Oper.wp execOp
  simp only [ho, hx]
  go_simp
  exact hk
theorem wp_load1 {o : Oper} {a : Act} {w : World} {K : Act → World → Prop} {Q : Exit → Act → World → Prop} {x : Operand} {ad : Addr} {v : Value} (ho : o.op = .load 37 x) (hx : a.eval x = .pointer (some ad)) (hc : w.cell? ad = some v)
    (hk : K (a.put o.dst v) w) : o.wp Tryz.prog a w K Q := by
  unfold Oper.wp execOp
  simp only [ho, hx]
  go_simp
  exact hk
theorem wp_load2 {o : Oper} {a : Act} {w : World} {K : Act → World → Prop} {Q : Exit → Act → World → Prop} {x : Operand} {ad : Addr} {v : Value} (ho : o.op = .load 78 x) (hx : a.eval x = .pointer (some ad)) (hc : w.cell? ad = some v)
    (hk : K (a.put o.dst v) w) : o.wp Tryz.prog a w K Q := by
  unfold Oper.wp execOp
  simp only [ho, hx]
  go_simp
  exact hk
theorem wp_mv {P : Program} {o : Oper} {a : Act} {w : World} {K : Act → World → Prop} {Q : Exit → Act → World → Prop} {x : Operand} (h : o.op = .move x) (hk : K (a.put o.dst (a.eval x)) w) : o.wp P a w K Q := by
  unfold Oper.wp execOp; rw [h]; exact hk
theorem wp_build1 {o : Oper} {a : Act} {w : World} {K : Act → World → Prop} {Q : Exit → Act → World → Prop} {id : Int} (ho : o.op = .buildSlice 37 1 #[(0, .tmp 46)]) (hx : a.eval (.tmp 46) = .int .i64 id)
    (hk : K (a.put o.dst (.slice (some ⟨w.heap.size, 0, none⟩) 1 1)) (w.alloc (.cells #[.int .i64 id] 3))) : o.wp Tryz.prog a w K Q := by
  unfold Oper.wp execOp
  simp only [ho, List.map_toArray, List.map_cons, List.map_nil, hx]
  go_simp
  exact hk
theorem wp_build2 {o : Oper} {a : Act} {w : World} {K : Act → World → Prop} {Q : Exit → Act → World → Prop} {r : M.Row} (ho : o.op = .buildSlice 78 1 #[(0, .tmp 53)]) (hx : a.eval (.tmp 53) = rowV r)
    (hk : K (a.put o.dst (.slice (some ⟨w.heap.size, 0, none⟩) 1 1)) (w.alloc (.cells (rowC r) 23))) : o.wp Tryz.prog a w K Q := by
  unfold Oper.wp execOp
  simp only [ho, List.map_toArray, List.map_cons, List.map_nil, hx]
  go_simp
  exact hk
theorem wp_store1 {o : Oper} {a : Act} {w : World} {K : Act → World → Prop} {Q : Exit → Act → World → Prop} {p x : Operand} {ad : Addr} {u v : Value} {s : Option Addr} {n m : Nat} (ho : o.op = .store 37 p x) (hd : o.dst = none) (hp : a.eval p = .pointer (some ad)) (hx : a.eval x = v) (hv : v = .slice s n m)
    (hc : w.cell? ad = some u) (hf : w.frozen? ad = false) (hk : K a (w.setCell ad v)) : o.wp Tryz.prog a w K Q := by
  subst hv
  unfold Oper.wp execOp
  simp only [ho, hp, hx]
  go_simp
  exact hk
theorem wp_store2 {o : Oper} {a : Act} {w : World} {K : Act → World → Prop} {Q : Exit → Act → World → Prop} {p x : Operand} {ad : Addr} {u v : Value} {s : Option Addr} {n m : Nat} (ho : o.op = .store 78 p x) (hd : o.dst = none) (hp : a.eval p = .pointer (some ad)) (hx : a.eval x = v) (hv : v = .slice s n m)
    (hc : w.cell? ad = some u) (hf : w.frozen? ad = false) (hk : K a (w.setCell ad v)) : o.wp Tryz.prog a w K Q := by
  subst hv
  unfold Oper.wp execOp
  simp only [ho, hp, hx]
  go_simp
  exact hk
section
variable {c : PC} {l : Array Bool} {a : Act} {W : World} {Q : Exit → Act → World → Prop}
theorem PC.At.cell {g : Gh} (h : c.At g l a W) (ok : c.Ok) : W.cell? ⟨c.g0, c.i * 3 + 1, none⟩ = some c.s1 ∧ W.cell? ⟨c.g0, c.i * 3 + 2, none⟩ = some c.s2 ∧ ∀ j, W.frozen? ⟨c.g0, j, none⟩ = false := by
  have e := h.put.block c.g0 ok.hg1 (fun _ => ok.v1) (fun _ => ok.v2)
  exact ⟨(World.cell?_of_block (a := ⟨c.g0, c.i * 3 + 1, none⟩) e).trans ok.T1, (World.cell?_of_block (a := ⟨c.g0, c.i * 3 + 2, none⟩) e).trans ok.T2, fun j => (World.frozen?_of_block (a := ⟨c.g0, j, none⟩) e).trans (ok.TF j)⟩
theorem PC.At.row {g : Gh} (h : c.At g l a W) (ok : c.Ok) : Blk W c.rb 23 (rowC c.r) := (h.put.block c.rb ok.lrc (fun _ => ok.f1) (fun _ => ok.f2)).trans ok.row
theorem op0 (h : c.Inv l a W) (hi : 0 ∈ Region.ready .any putOps l) : wpOp Tryz.prog putOps Q 0 (c.Inv (l.setIfInBounds 0 true)) a W := by
  obtain ⟨o, ho, hg, hop, hd⟩ := op_at (k := 0) (x := .move (.tmp 10)) (d := some 40) (by kernel_rfl)
  refine wpOp_run ho hg (wp_mv hop ?_)
  rw [h.p10]
  rw [hd]
  exact h.pure (k := 0) hi (by omega) (by omega) (fun _ => rfl)
theorem op1 (h : c.Inv l a W) (hi : 1 ∈ Region.ready .any putOps l) : wpOp Tryz.prog putOps Q 1 (c.Inv (l.setIfInBounds 1 true)) a W := by
  obtain ⟨o, ho, hg, hop, hd⟩ := op_at (k := 1) (x := .move (.tmp 10)) (d := some 41) (by kernel_rfl)
  refine wpOp_run ho hg (wp_mv hop ?_)
  rw [h.p10]
  rw [hd]
  exact h.pure (k := 1) hi (by omega) (by omega) (fun _ => rfl)
theorem op2 (h : c.Inv l a W) (hi : 2 ∈ Region.ready .any putOps l) : wpOp Tryz.prog putOps Q 2 (c.Inv (l.setIfInBounds 2 true)) a W := by
  obtain ⟨o, ho, hg, hop, hd⟩ := op_at (k := 2) (x := .move (.tmp 10)) (d := some 42) (by kernel_rfl)
  refine wpOp_run ho hg (wp_mv hop ?_)
  rw [h.p10]
  rw [hd]
  exact h.pure (k := 2) hi (by omega) (by omega) (fun _ => rfl)
theorem op9 (h : c.Inv l a W) (hi : 9 ∈ Region.ready .any putOps l) : wpOp Tryz.prog putOps Q 9 (c.Inv (l.setIfInBounds 9 true)) a W := by
  obtain ⟨o, ho, hg, hop, hd⟩ := op_at (k := 9) (x := .move (.tmp 10)) (d := some 49) (by kernel_rfl)
  refine wpOp_run ho hg (wp_mv hop ?_)
  rw [h.p10]
  rw [hd]
  exact h.pure (k := 9) hi (by omega) (by omega) (fun _ => rfl)
theorem op6 (h : c.Inv l a W) (hi : 6 ∈ Region.ready .any putOps l) : wpOp Tryz.prog putOps Q 6 (c.Inv (l.setIfInBounds 6 true)) a W := by
  obtain ⟨o, ho, hg, hop, hd⟩ := op_at (k := 6) (x := .move (.tmp 1)) (d := some 46) (by kernel_rfl)
  refine wpOp_run ho hg (wp_mv hop ?_)
  rw [h.p1]
  rw [hd]
  exact h.pure (k := 6) hi (by omega) (by omega) (fun _ => rfl)
theorem op3 (h : c.Inv l a W) (hi : 3 ∈ Region.ready .any putOps l) : wpOp Tryz.prog putOps Q 3 (c.Inv (l.setIfInBounds 3 true)) a W := by
  obtain ⟨o, ho, hg, hop, hd⟩ := op_at (k := 3) (x := .nilCheck (.tmp 42)) (d := some 43) (by kernel_rfl)
  obtain ⟨g, W0, hA, hS⟩ := h.ghost
  have e : a.eval (.tmp 42) = .pointer (some ⟨c.g0, c.i * 3, none⟩) := hA.slots 2 (by omega) (ready_dep hi 2 (by kernel_rfl))
  refine wpOp_run ho hg (wp_nil hop e ?_)
  rw [hd]
  exact h.pure (k := 3) hi (by omega) (by omega) (fun _ => rfl)
theorem op10 (h : c.Inv l a W) (hi : 10 ∈ Region.ready .any putOps l) : wpOp Tryz.prog putOps Q 10 (c.Inv (l.setIfInBounds 10 true)) a W := by
  obtain ⟨o, ho, hg, hop, hd⟩ := op_at (k := 10) (x := .nilCheck (.tmp 49)) (d := some 50) (by kernel_rfl)
  obtain ⟨g, W0, hA, hS⟩ := h.ghost
  have e : a.eval (.tmp 49) = .pointer (some ⟨c.g0, c.i * 3, none⟩) := hA.slots 9 (by omega) (ready_dep hi 9 (by kernel_rfl))
  refine wpOp_run ho hg (wp_nil hop e ?_)
  rw [hd]
  exact h.pure (k := 10) hi (by omega) (by omega) (fun _ => rfl)
theorem op16 (h : c.Inv l a W) (hi : 16 ∈ Region.ready .any putOps l) : wpOp Tryz.prog putOps Q 16 (c.Inv (l.setIfInBounds 16 true)) a W := by
  obtain ⟨o, ho, hg, hop, hd⟩ := op_at (k := 16) (x := .nilCheck (.tmp 40)) (d := some 56) (by kernel_rfl)
  obtain ⟨g, W0, hA, hS⟩ := h.ghost
  have e : a.eval (.tmp 40) = .pointer (some ⟨c.g0, c.i * 3, none⟩) := hA.slots 0 (by omega) (ready_dep hi 0 (by kernel_rfl))
  refine wpOp_run ho hg (wp_nil hop e ?_)
  rw [hd]
  exact h.pure (k := 16) hi (by omega) (by omega) (fun _ => rfl)
theorem op19 (h : c.Inv l a W) (hi : 19 ∈ Region.ready .any putOps l) : wpOp Tryz.prog putOps Q 19 (c.Inv (l.setIfInBounds 19 true)) a W := by
  obtain ⟨o, ho, hg, hop, hd⟩ := op_at (k := 19) (x := .nilCheck (.tmp 41)) (d := some 58) (by kernel_rfl)
  obtain ⟨g, W0, hA, hS⟩ := h.ghost
  have e : a.eval (.tmp 41) = .pointer (some ⟨c.g0, c.i * 3, none⟩) := hA.slots 1 (by omega) (ready_dep hi 1 (by kernel_rfl))
  refine wpOp_run ho hg (wp_nil hop e ?_)
  rw [hd]
  exact h.pure (k := 19) hi (by omega) (by omega) (fun _ => rfl)
theorem op4 (h : c.Inv l a W) (hi : 4 ∈ Region.ready .any putOps l) : wpOp Tryz.prog putOps Q 4 (c.Inv (l.setIfInBounds 4 true)) a W := by
  obtain ⟨o, ho, hg, hop, hd⟩ := op_at (k := 4) (x := .fieldAddr 80 (.tmp 43) 1) (d := some 44) (by kernel_rfl)
  obtain ⟨g, W0, hA, hS⟩ := h.ghost
  have e : a.eval (.tmp 43) = .pointer (some ⟨c.g0, c.i * 3, none⟩) := hA.slots 3 (by omega) (ready_dep hi 3 (by kernel_rfl))
  refine wpOp_run ho hg (wp_field1 hop e ?_)
  rw [hd]
  exact h.pure (k := 4) hi (by omega) (by omega) (fun _ => rfl)
theorem op17 (h : c.Inv l a W) (hi : 17 ∈ Region.ready .any putOps l) : wpOp Tryz.prog putOps Q 17 (c.Inv (l.setIfInBounds 17 true)) a W := by
  obtain ⟨o, ho, hg, hop, hd⟩ := op_at (k := 17) (x := .fieldAddr 80 (.tmp 56) 1) (d := some 57) (by kernel_rfl)
  obtain ⟨g, W0, hA, hS⟩ := h.ghost
  have e : a.eval (.tmp 56) = .pointer (some ⟨c.g0, c.i * 3, none⟩) := hA.slots 16 (by omega) (ready_dep hi 16 (by kernel_rfl))
  refine wpOp_run ho hg (wp_field1 hop e ?_)
  rw [hd]
  exact h.pure (k := 17) hi (by omega) (by omega) (fun _ => rfl)
theorem op11 (h : c.Inv l a W) (hi : 11 ∈ Region.ready .any putOps l) : wpOp Tryz.prog putOps Q 11 (c.Inv (l.setIfInBounds 11 true)) a W := by
  obtain ⟨o, ho, hg, hop, hd⟩ := op_at (k := 11) (x := .fieldAddr 80 (.tmp 50) 2) (d := some 51) (by kernel_rfl)
  obtain ⟨g, W0, hA, hS⟩ := h.ghost
  have e : a.eval (.tmp 50) = .pointer (some ⟨c.g0, c.i * 3, none⟩) := hA.slots 10 (by omega) (ready_dep hi 10 (by kernel_rfl))
  refine wpOp_run ho hg (wp_field2 hop e ?_)
  rw [hd]
  exact h.pure (k := 11) hi (by omega) (by omega) (fun _ => rfl)
theorem op20 (h : c.Inv l a W) (hi : 20 ∈ Region.ready .any putOps l) : wpOp Tryz.prog putOps Q 20 (c.Inv (l.setIfInBounds 20 true)) a W := by
  obtain ⟨o, ho, hg, hop, hd⟩ := op_at (k := 20) (x := .fieldAddr 80 (.tmp 58) 2) (d := some 59) (by kernel_rfl)
  obtain ⟨g, W0, hA, hS⟩ := h.ghost
  have e : a.eval (.tmp 58) = .pointer (some ⟨c.g0, c.i * 3, none⟩) := hA.slots 19 (by omega) (ready_dep hi 19 (by kernel_rfl))
  refine wpOp_run ho hg (wp_field2 hop e ?_)
  rw [hd]
  exact h.pure (k := 20) hi (by omega) (by omega) (fun _ => rfl)
theorem op5 (ok : c.Ok) (h : c.Inv l a W) (hi : 5 ∈ Region.ready .any putOps l) : wpOp Tryz.prog putOps Q 5 (c.Inv (l.setIfInBounds 5 true)) a W := by
  obtain ⟨o, ho, hg, hop, hd⟩ := op_at (k := 5) (x := .load 37 (.tmp 44)) (d := some 45) (by kernel_rfl)
  obtain ⟨g, W0, hA, hS⟩ := h.ghost
  have e : a.eval (.tmp 44) = .pointer (some ⟨c.g0, c.i * 3 + 1, none⟩) := hA.slots 4 (by omega) (ready_dep hi 4 (by kernel_rfl))
  have eW := (hS.early (k := 5) (by simp) (ready_spec hi).1).1
  subst eW
  refine wpOp_run ho hg (wp_load1 hop e (hA.cell ok).1 ?_)
  rw [hd]
  exact h.pure (k := 5) hi (by omega) (by omega) (fun _ => rfl)
theorem op12 (ok : c.Ok) (h : c.Inv l a W) (hi : 12 ∈ Region.ready .any putOps l) : wpOp Tryz.prog putOps Q 12 (c.Inv (l.setIfInBounds 12 true)) a W := by
  obtain ⟨o, ho, hg, hop, hd⟩ := op_at (k := 12) (x := .load 78 (.tmp 51)) (d := some 52) (by kernel_rfl)
  obtain ⟨g, W0, hA, hS⟩ := h.ghost
  have e : a.eval (.tmp 51) = .pointer (some ⟨c.g0, c.i * 3 + 2, none⟩) := hA.slots 11 (by omega) (ready_dep hi 11 (by kernel_rfl))
  have eW := (hS.early (k := 12) (by simp) (ready_spec hi).1).1
  subst eW
  refine wpOp_run ho hg (wp_load2 hop e (hA.cell ok).2.1 ?_)
  rw [hd]
  exact h.pure (k := 12) hi (by omega) (by omega) (fun _ => rfl)
theorem op13 (ok : c.Ok) (h : c.Inv l a W) (hi : 13 ∈ Region.ready .any putOps l) : wpOp Tryz.prog putOps Q 13 (c.Inv (l.setIfInBounds 13 true)) a W := by
  obtain ⟨o, ho, hg, hop, hd⟩ := op_at (k := 13) (x := .load 23 (.tmp 7)) (d := some 53) (by kernel_rfl)
  obtain ⟨g, W0, hA, hS⟩ := h.ghost
  have eW := (hS.early (k := 13) (by simp) (ready_spec hi).1).1
  subst eW
  refine wpOp_run ho hg (wp_load_row 23 _ hop c.rb h.p7 _ (rowC c.r) _ _ (hA.row ok) Tryz.underlying23 rfl (by kernel_rfl) ?_)
  rw [hd]
  exact h.pure (k := 13) hi (by omega) (by omega) (fun _ => rfl)
theorem op7 (h : c.Inv l a W) (hi : 7 ∈ Region.ready .any putOps l) : wpOp Tryz.prog putOps Q 7 (c.Inv (l.setIfInBounds 7 true)) a W := by
  obtain ⟨o, ho, hg, hop, hd⟩ := op_at (k := 7) (x := .buildSlice 37 1 #[(0, .tmp 46)]) (d := some 47) (by kernel_rfl)
  obtain ⟨g, W0, hA, hS⟩ := h.ghost
  have e : a.eval (.tmp 46) = .int .i64 c.id := hA.slots 6 (by omega) (ready_dep hi 6 (by kernel_rfl))
  obtain ⟨eW, e18, e21⟩ := hS.early (k := 7) (by simp) (ready_spec hi).1
  subst eW
  have hb : Below W.heap.size W (W.alloc (.cells #[.int .i64 c.id] 3)) := (Below.refl _ W).alloc (Nat.le_refl _) _
  refine wpOp_run ho hg (wp_build1 hop e ?_)
  rw [hd]
  refine h.frame (k := 7) hi (by omega) ⟨{ g with b47 := W.heap.size }, _, ⟨slots_put hA.slots h.len (by omega) rfl (fun j hj => by unfold PC.val; simp only [hj, if_false]), ?_, ?_, ?_⟩, .inl ⟨?_, ?_, rfl⟩⟩
  · rw [getD_ne (by omega), getD_ne (by omega)]; exact PutAt.step hA.put hb
  · intro _; exact ⟨Blk.new W _ _, hA.put.size⟩
  · rw [getD_ne (by omega)]; intro hl; exact ⟨(hA.b54 hl).1.alloc _, (hA.b54 hl).2⟩
  · rw [getD_ne (by omega)]; exact e18
  · rw [getD_ne (by omega)]; exact e21
theorem op14 (h : c.Inv l a W) (hi : 14 ∈ Region.ready .any putOps l) : wpOp Tryz.prog putOps Q 14 (c.Inv (l.setIfInBounds 14 true)) a W := by
  obtain ⟨o, ho, hg, hop, hd⟩ := op_at (k := 14) (x := .buildSlice 78 1 #[(0, .tmp 53)]) (d := some 54) (by kernel_rfl)
  obtain ⟨g, W0, hA, hS⟩ := h.ghost
  have e : a.eval (.tmp 53) = rowV c.r := hA.slots 13 (by omega) (ready_dep hi 13 (by kernel_rfl))
  obtain ⟨eW, e18, e21⟩ := hS.early (k := 14) (by simp) (ready_spec hi).1
  subst eW
  have hb : Below W.heap.size W (W.alloc (.cells (rowC c.r) 23)) := (Below.refl _ W).alloc (Nat.le_refl _) _
  refine wpOp_run ho hg (wp_build2 hop e ?_)
  rw [hd]
  refine h.frame (k := 14) hi (by omega) ⟨{ g with b54 := W.heap.size }, _, ⟨slots_put hA.slots h.len (by omega) rfl (fun j hj => by unfold PC.val; simp only [hj, if_false]), ?_, ?_, ?_⟩, .inl ⟨?_, ?_, rfl⟩⟩
  · rw [getD_ne (by omega), getD_ne (by omega)]; exact PutAt.step hA.put hb
  · rw [getD_ne (by omega)]; intro hl; exact ⟨(hA.b47 hl).1.alloc _, (hA.b47 hl).2⟩
  · intro _; exact ⟨Blk.new W _ _, hA.put.size⟩
  · rw [getD_ne (by omega)]; exact e18
  · rw [getD_ne (by omega)]; exact e21
theorem op8 (ok : c.Ok) (h : c.Inv l a W) (hi : 8 ∈ Region.ready .any putOps l) : wpOp Tryz.prog putOps Q 8 (c.Inv (l.setIfInBounds 8 true)) a W := by
  obtain ⟨o, ho, hg, hop, hd⟩ := op_at (k := 8) (x := .call { callee := .builtin .append, args := #[.tmp 45, .tmp 47], argTypes := #[37, 37] }) (d := some 48) (by kernel_rfl)
  obtain ⟨g, W0, hA, hS⟩ := h.ghost
  have lx := ready_dep hi 7 (by kernel_rfl)
  have e5 : a.eval (.tmp 45) = c.s1 := hA.slots 5 (by omega) (ready_dep hi 5 (by kernel_rfl))
  have e7 : a.eval (.tmp 47) = .slice (some ⟨g.b47, 0, none⟩) 1 1 := hA.slots 7 (by omega) lx
  obtain ⟨eW, e18, e21⟩ := hS.early (k := 8) (by simp) (ready_spec hi).1
  subst eW
  have lk := (getD_two (ready_spec hi).1).2
  have hp := hA.put
  rw [lk] at hp
  simp only [Bool.false_eq_true, if_false] at hp
  obtain ⟨i1, hi1, hz10, hz11, hz12⟩ := info_parts infoInt
  have hbx := hA.b47 lx
  have hold : ∀ x, c.s1.ownBlock = some x → x < c.wc.heap.size := fun x hx => (ok.own1.lt x hx).2
  refine wpOp_step ho fun K' hK => ?_
  refine step_append_own_atK2 hg (.tmp 45) (.tmp 47) 37 hop c.base 3 i1 (.int .i64 0) 1 8 Tryz.underlying37 hi1 hz10 hz11 hz12 rfl (by decide) c.s1 c.t1.ids.length (c.t1.ids.map (.int .i64)) (PutAt.oldA hp ok.own1 ok.ne) e5
    ⟨g.b47, 0, none⟩ 1 1 ([.int .i64 c.id]) e7 rfl (blk_one hbx.1) (one_int _) (by have := ok.n1; unfold maxLen; omega) (by have := ok.n1; omega) (Nat.le_trans ok.base hp.size) ?_
  intro v' w' hown hgrow hloc
  refine hK _ _ ?_
  rw [hd]
  refine h.frame (k := 8) hi (by omega) ⟨{ g with v48 := v' }, w', ⟨slots_put hA.slots h.len (by omega) rfl (fun j hj => by unfold PC.val; simp only [hj, if_false]), ?_, ?_, ?_⟩, .inl ⟨?_, ?_, rfl⟩⟩
  · rw [getD_ne (i := 8) (k := 15) (by omega), getD_eq (by have := h.size; omega)]
    exact PutAt.stepA hp hold ok.ne (by simpa using hown) hgrow hloc
  · rw [getD_ne (by omega)]; intro hl
    exact ⟨(hA.b47 hl).1.grown hgrow (fun e => by have := hold _ e; have := (hA.b47 hl).2; omega), (hA.b47 hl).2⟩
  · rw [getD_ne (by omega)]; intro hl
    exact ⟨(hA.b54 hl).1.grown hgrow (fun e => by have := hold _ e; have := (hA.b54 hl).2; omega), (hA.b54 hl).2⟩
  · rw [getD_ne (by omega)]; exact e18
  · rw [getD_ne (by omega)]; exact e21
theorem op15 (ok : c.Ok) (h : c.Inv l a W) (hi : 15 ∈ Region.ready .any putOps l) : wpOp Tryz.prog putOps Q 15 (c.Inv (l.setIfInBounds 15 true)) a W := by
  obtain ⟨o, ho, hg, hop, hd⟩ := op_at (k := 15) (x := .call { callee := .builtin .append, args := #[.tmp 52, .tmp 54], argTypes := #[78, 78] }) (d := some 55) (by kernel_rfl)
  obtain ⟨g, W0, hA, hS⟩ := h.ghost
  have lx := ready_dep hi 14 (by kernel_rfl)
  have e5 : a.eval (.tmp 52) = c.s2 := hA.slots 12 (by omega) (ready_dep hi 12 (by kernel_rfl))
  have e7 : a.eval (.tmp 54) = .slice (some ⟨g.b54, 0, none⟩) 1 1 := hA.slots 14 (by omega) lx
  obtain ⟨eW, e18, e21⟩ := hS.early (k := 15) (by simp) (ready_spec hi).1
  subst eW
  have lk := (getD_two (ready_spec hi).1).2
  have hp := hA.put
  rw [lk] at hp
  simp only [Bool.false_eq_true, if_false] at hp
  obtain ⟨i1, hi1, hz10, hz11, hz12⟩ := info_parts infoRow
  have hbx := hA.b54 lx
  have hold : ∀ x, c.s2.ownBlock = some x → x < c.wc.heap.size := fun x hx => (ok.own2.lt x hx).2
  refine wpOp_step ho fun K' hK => ?_
  refine step_append_own_atK2 hg (.tmp 52) (.tmp 54) 78 hop c.base 23 i1 (rowV M.row0) 8 64 Tryz.underlying78 hi1 hz10 hz11 hz12 rfl (by decide) c.s2 c.t1.rows.length (c.t1.rows.flatMap rowL) (PutAt.oldB hp ok.own2 ok.ne) e5
    ⟨g.b54, 0, none⟩ 1 1 (rowL c.r) e7 rfl (blk_row hbx.1) (one_row _) (by have := ok.n2; unfold maxLen; omega) (by have := ok.n2; omega) (Nat.le_trans ok.base hp.size) ?_
  intro v' w' hown hgrow hloc
  refine hK _ _ ?_
  rw [hd]
  refine h.frame (k := 15) hi (by omega) ⟨{ g with v55 := v' }, w', ⟨slots_put hA.slots h.len (by omega) rfl (fun j hj => by unfold PC.val; simp only [hj, if_false]), ?_, ?_, ?_⟩, .inl ⟨?_, ?_, rfl⟩⟩
  · rw [getD_ne (i := 15) (k := 8) (by omega), getD_eq (by have := h.size; omega)]
    exact PutAt.stepB hp hold ok.ne (by simpa using hown) hgrow hloc
  · rw [getD_ne (by omega)]; intro hl
    exact ⟨(hA.b47 hl).1.grown hgrow (fun e => by have := hold _ e; have := (hA.b47 hl).2; omega), (hA.b47 hl).2⟩
  · rw [getD_ne (by omega)]; intro hl
    exact ⟨(hA.b54 hl).1.grown hgrow (fun e => by have := hold _ e; have := (hA.b54 hl).2; omega), (hA.b54 hl).2⟩
  · rw [getD_ne (by omega)]; exact e18
  · rw [getD_ne (by omega)]; exact e21
theorem op18 (ok : c.Ok) (h : c.Inv l a W) (hi : 18 ∈ Region.ready .any putOps l) : wpOp Tryz.prog putOps Q 18 (c.Inv (l.setIfInBounds 18 true)) a W := by
  obtain ⟨o, ho, hg, hop, hd⟩ := op_at (k := 18) (x := .store 37 (.tmp 57) (.tmp 48)) (d := none) (by kernel_rfl)
  obtain ⟨g, W0, hA, hS⟩ := h.ghost
  have l8 := ready_dep hi 8 (by kernel_rfl)
  have l15 := ready_dep hi 15 (by kernel_rfl)
  have l17 := ready_dep hi 17 (by kernel_rfl)
  have l12 := h.closed 15 12 (by kernel_rfl) l15
  have l14 := h.closed 15 14 (by kernel_rfl) l15
  have l13 := h.closed 14 13 (by kernel_rfl) l14
  have l5 := h.closed 8 5 (by kernel_rfl) l8
  have l7 := h.closed 8 7 (by kernel_rfl) l8
  have l18 := (getD_two (ready_spec hi).1).2
  have e1 : a.eval (.tmp 57) = .pointer (some ⟨c.g0, c.i * 3 + 1, none⟩) := hA.slots 17 (by omega) l17
  have e2 : a.eval (.tmp 48) = g.v48 := hA.slots 8 (by omega) l8
  obtain ⟨e21, rfl⟩ : l.getD 21 false = false ∧ W = W0 := by
    rcases hS with ⟨_, k1, k2⟩ | ⟨_, k1, _⟩
    · exact ⟨k1, k2⟩
    · rw [l18] at k1; cases k1
  have hp := hA.put
  rw [l8, l15] at hp
  simp only [if_true] at hp
  obtain ⟨av, cv, hv⟩ := own_form (hp.ids _ rfl).1
  have hc := hA.cell ok
  refine wpOp_run ho hg (wp_store1 hop hd e1 e2 hv hc.1 (hc.2.2 _) ?_)
  refine ⟨by simp [h.size], h.len, h.defers, h.p10, h.p1, h.p7, closed_step h.closed hi, g, W, ⟨fun k hk hl => hA.slots k hk (by rwa [getD_ne (by omega)] at hl), ?_, ?_, ?_⟩, .inr ⟨fun k hk => getD_set ?_, getD_eq (by have := h.size; omega), .inl ⟨?_, rfl⟩⟩⟩
  · rw [getD_ne (by omega), getD_ne (by omega)]; exact hA.put
  · rw [getD_ne (by omega)]; exact hA.b47
  · rw [getD_ne (by omega)]; exact hA.b54
  · simp only [List.mem_cons, List.not_mem_nil, or_false] at hk
    rcases hk with rfl | rfl | rfl | rfl | rfl | rfl | rfl <;> assumption
  · rw [getD_ne (by omega)]; exact e21
theorem op21 (ok : c.Ok) (h : c.Inv l a W) (hi : 21 ∈ Region.ready .any putOps l) : wpOp Tryz.prog putOps Q 21 (c.Inv (l.setIfInBounds 21 true)) a W := by
  obtain ⟨o, ho, hg, hop, hd⟩ := op_at (k := 21) (x := .store 78 (.tmp 59) (.tmp 55)) (d := none) (by kernel_rfl)
  obtain ⟨g, W0, hA, hS⟩ := h.ghost
  have l15 := ready_dep hi 15 (by kernel_rfl)
  have l18 := ready_dep hi 18 (by kernel_rfl)
  have l20 := ready_dep hi 20 (by kernel_rfl)
  have l8 := h.closed 15 8 (by kernel_rfl) l15
  have l21 := (getD_two (ready_spec hi).1).2
  have e1 : a.eval (.tmp 59) = .pointer (some ⟨c.g0, c.i * 3 + 2, none⟩) := hA.slots 20 (by omega) l20
  have e2 : a.eval (.tmp 55) = g.v55 := hA.slots 15 (by omega) l15
  obtain ⟨hE, rfl⟩ : (∀ k ∈ [5, 7, 8, 12, 13, 14, 15], l.getD k false = true) ∧ W = W0.setCell ⟨c.g0, c.i * 3 + 1, none⟩ g.v48 := by
    rcases hS with ⟨k1, _⟩ | ⟨k1, _, ⟨_, k2⟩ | ⟨k2, _⟩⟩
    · rw [l18] at k1; cases k1
    · exact ⟨k1, k2⟩
    · rw [l21] at k2; cases k2
  have hp := hA.put
  rw [l8, l15] at hp
  simp only [if_true] at hp
  obtain ⟨av, cv, hv⟩ := own_form (hp.rows _ rfl).1
  have hc := hA.cell ok
  refine wpOp_run ho hg (wp_store2 (u := c.s2) hop hd e1 e2 hv ?_ ?_ ?_)
  · rw [World.cell?_setCell_other _ _ _ _ (fun e => by injection e; omega)]; exact hc.2.1
  · rw [World.frozen?_setCell]; exact hc.2.2 _
  refine ⟨by simp [h.size], h.len, h.defers, h.p10, h.p1, h.p7, closed_step h.closed hi, g, W0, ⟨fun k hk hl => hA.slots k hk (by rwa [getD_ne (by omega)] at hl), ?_, ?_, ?_⟩, .inr ⟨fun k hk => getD_set (hE k hk), ?_, .inr ⟨getD_eq (by have := h.size; omega), rfl⟩⟩⟩
  · rw [getD_ne (by omega), getD_ne (by omega)]; exact hA.put
  · rw [getD_ne (by omega)]; exact hA.b47
  · rw [getD_ne (by omega)]; exact hA.b54
  · rw [getD_ne (by omega)]; exact l18
theorem put_op (ok : c.Ok) {k : Nat} (h : c.Inv l a W) (hi : k ∈ Region.ready .any putOps l) : wpOp Tryz.prog putOps Q k (c.Inv (l.setIfInBounds k true)) a W := by
  have hk : k < 22 := putOps_size ▸ (ready_spec hi).2.1
  rcases (by omega : k = 0 ∨ k = 1 ∨ k = 2 ∨ k = 3 ∨ k = 4 ∨ k = 5 ∨ k = 6 ∨ k = 7 ∨ k = 8 ∨ k = 9 ∨ k = 10 ∨ k = 11 ∨ k = 12 ∨ k = 13 ∨ k = 14 ∨ k = 15 ∨ k = 16 ∨ k = 17 ∨ k = 18 ∨ k = 19 ∨ k = 20 ∨ k = 21) with rfl | rfl | rfl | rfl | rfl | rfl | rfl | rfl | rfl | rfl | rfl | rfl | rfl | rfl | rfl | rfl | rfl | rfl | rfl | rfl | rfl | rfl
  · exact op0 h hi
  · exact op1 h hi
  · exact op2 h hi
  · exact op3 h hi
  · exact op4 h hi
  · exact op5 ok h hi
  · exact op6 h hi
  · exact op7 h hi
  · exact op8 ok h hi
  · exact op9 h hi
  · exact op10 h hi
  · exact op11 h hi
  · exact op12 ok h hi
  · exact op13 ok h hi
  · exact op14 h hi
  · exact op15 ok h hi
  · exact op16 h hi
  · exact op17 h hi
  · exact op18 ok h hi
  · exact op19 h hi
  · exact op20 h hi
  · exact op21 ok h hi
theorem put_ordered : ((List.range 22).all fun i => ((putOps[i]?).map fun o => o.after.toList.all fun e => !Region.binds .any e || decide (e.on < i)).getD true) = true := by kernel_rfl
/-- the whole statement -/
theorem put_region (ok : c.Ok) (h : c.Inv (Array.replicate 22 false) a W) (hQ : ∀ (a' : Act) (g : Gh) (W0 : World), a'.defers = [] → c.Put (some g.v48) (some g.v55) W0 → Q .normal a' ((W0.setCell ⟨c.g0, c.i * 3 + 1, none⟩ g.v48).setCell ⟨c.g0, c.i * 3 + 2, none⟩ g.v55)) :
    wpAny Tryz.prog .any putOps Q 22 (Array.replicate 22 false) a W := by
  refine wpAny_inv c.Inv ?_ (fun l a w i h hi => put_op ok h hi) 22 _ _ _ (by unfold Undone; simp) h
  intro l a w h hr
  have all := all_done hr (by rw [h.size, putOps_size]) (by
    intro i hi o ho e he hb
    have h1 := List.all_eq_true.1 put_ordered i (List.mem_range.2 (putOps_size ▸ hi))
    rw [ho] at h1
    simp only [Option.map_some, Option.getD_some] at h1
    have h2 := List.all_eq_true.1 h1 e he
    simpa [hb] using h2)
  rw [putOps_size] at all
  obtain ⟨g, W0, hA, hS⟩ := h.ghost
  have hp := hA.put
  rw [all 8 (by omega), all 15 (by omega)] at hp
  simp only [if_true] at hp
  rcases hS with ⟨k1, _⟩ | ⟨_, _, ⟨k1, _⟩ | ⟨_, rfl⟩⟩
  · rw [all 18 (by omega)] at k1; cases k1
  · rw [all 21 (by omega)] at k1; cases k1
  · exact hQ a g W0 h.defers hp
end
end Go.Proofs.YtkpecagkpjabdacGreat
