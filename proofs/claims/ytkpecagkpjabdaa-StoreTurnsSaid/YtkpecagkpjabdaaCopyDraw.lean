/- The drawn statement of the statements' own copied: each operation once. Condition: what the walk of copied has shown ahead of it. -/
import Derived.Test.YtkpecagkpjabdaaDraw
import Derived.Test.YtkpecagkpjabdaaAppendLies
import Derived.Test.YtkpecagkpjabdaaOwnSnoc
import Derived.Test.YtkpecagkpjabdaaStoreOwned
import Derived.Great.BuildSlice
import Derived.Laws.Rows
import Derived.BigFrame
namespace Go.Proofs.Ytkpecagkpjabdaa
open Go.RowKit
set_option linter.unusedVariables false
set_option linter.unusedSimpArgs false
set_option maxRecDepth 100000
/-- a region of a function's code, by its number -/
def regOf (n : Nat) : Code → Option Code
  | .region i ops d => if i = n then some (.region i ops d) else none
  | .seq a b => match regOf n a with
    | some c => some c
    | none => regOf n b
  | .block _ c => regOf n c
  | .loop c => regOf n c
  | .scope c => regOf n c
  | .cond _ a b => match regOf n a with
    | some c => some c
    | none => regOf n b
  | _ => none
noncomputable def cpC : Code := ((Try.f43.body.bind (regOf 5)).getD .skip)
noncomputable def cpOps : Array Oper := match cpC with
  | .region _ ops _ => ops
  | _ => #[]
theorem cpC_is : cpC = .region 5 cpOps true := by kernel_rfl
theorem cpOps_size : cpOps.size = 15 := by kernel_rfl
theorem cpop_at {k : Nat} {x : Op} {d : Option Nat} (h : (cpOps[k]?).map (fun o => (o.guard.isNone, o.op, o.dst)) = some (true, x, d)) : ∃ o, cpOps[k]? = some o ∧ o.guard = none ∧ o.op = x ∧ o.dst = d := by
  cases ho : cpOps[k]? with
  | none => rw [ho] at h; simp at h
  | some o =>
    rw [ho] at h
    simp only [Option.map_some, Option.some.injEq, Prod.mk.injEq] at h
    exact ⟨o, rfl, by simpa using h.1, h.2.1, h.2.2⟩
theorem getD_ne' {l : Array Bool} {i k : Nat} (h : i ≠ k) : (l.setIfInBounds i true).getD k false = l.getD k false := by
  by_cases hk : k < l.size
  · simp [Array.getD, hk, Array.getElem_setIfInBounds, h]
  · simp [Array.getD, hk]
theorem getD_eq' {l : Array Bool} {i : Nat} (h : i < l.size) : (l.setIfInBounds i true).getD i false = true := by
  simp [Array.getD, h]
/-- a table more has been made and appended: what is known of the world behind it -/
structure Packed (wl w9 : World) (base : Nat) (old v9 v1 v2 : Value) (n : Nat) (t : M.Table) (xs : List Value) : Prop where
  row : w9.ownsRow base 82 3 v9 (n + 1) (xs ++ [.int .i64 t.mask, v1, v2])
  same : ∀ g, g < wl.heap.size → old.ownBlock ≠ some g → w9.heap[g]? = wl.heap[g]?
  ids : w9.ownsRow base 3 1 v1 t.ids.length (t.ids.map (Value.int .i64))
  rows : w9.ownsRow base 27 8 v2 t.rows.length (t.rows.flatMap rowL)
  n1 : ∀ g, v1.ownBlock = some g → wl.heap.size ≤ g
  n2 : ∀ g, v2.ownBlock = some g → wl.heap.size ≤ g
  ne : ∀ g, v1.ownBlock = some g → v2.ownBlock ≠ some g
  at_ : v9.ownBlock = old.ownBlock ∨ ∃ g, v9.ownBlock = some g ∧ wl.heap.size ≤ g ∧ v1.ownBlock ≠ some g ∧ v2.ownBlock ≠ some g
  size : wl.heap.size ≤ w9.heap.size
theorem copied_pack {wl W3 w9 : World} {base : Nat} {old v9 v1 v2 : Value} {n : Nat} {t : M.Table} {xs : List Value} (hK : Below wl.heap.size wl W3) (hb : base ≤ wl.heap.size)
    (h1 : W3.ownsRow wl.heap.size 3 1 v1 (0 + t.ids.length) ([] ++ t.ids.map (Value.int .i64))) (h2 : W3.ownsRow wl.heap.size 27 8 v2 (0 + t.rows.length) ([] ++ t.rows.flatMap rowL))
    (hold : ∀ g, old.ownBlock = some g → g < wl.heap.size) (hne : ∀ g, v1.ownBlock = some g → v2.ownBlock ≠ some g)
    (h9 : w9.ownsRow base 82 3 v9 (n + 1) (xs ++ [.int .i64 t.mask, v1, v2])) (hg : W3.grownBy w9 old.ownBlock) (hat : v9.ownBlock = old.ownBlock ∨ v9.ownBlock = some W3.heap.size) : Packed wl w9 base old v9 v1 v2 n t xs := by
  rw [Nat.zero_add, List.nil_append] at h1 h2
  have same9 : ∀ g, g < W3.heap.size → old.ownBlock ≠ some g → w9.heap[g]? = W3.heap[g]? := fun g h1 h2 => hg.block g h1 (fun e => h2 e.symm)
  have hz := hK.size
  refine ⟨h9, fun g a b => (same9 g (by omega) b).trans (hK.block g a), ?_, ?_, fun g e => (h1.lt g e).1, fun g e => (h2.lt g e).1, hne, ?_, ?_⟩
  · exact own_mono (own_same h1 (fun g e => same9 g (h1.lt g e).2 (fun e' => by have := hold g e'; have := (h1.lt g e).1; omega))) hb
  · exact own_mono (own_same h2 (fun g e => same9 g (h2.lt g e).2 (fun e' => by have := hold g e'; have := (h2.lt g e).1; omega))) hb
  · rcases hat with k | k
    · exact .inl k
    · refine .inr ⟨_, k, by omega, fun e => ?_, fun e => ?_⟩
      · have := (h1.lt _ e).2; omega
      · have := (h2.lt _ e).2; omega
  · have := hg.size
    omega
structure CG where
  v6 : Value
  v9 : Value
  b11 : Nat
  v12 : Value
structure CC where
  wl : World
  a0 : Act
  base : Nat
  bx : Nat
  tb : Nat
  lo : Nat
  t : M.Table
  s1 : Value
  s2 : Value
  old : Value
  next : Int
  n : Nat
  xs : List Value
def CC.val (c : CC) (g : CG) (k : Nat) : Value :=
  if k = 0 ∨ k = 13 then .pointer (some ⟨c.bx, 0, none⟩) else if k = 1 then c.old
  else if k = 2 then .pointer (some ⟨c.tb, 0, none⟩) else if k = 3 then .int .i64 c.t.mask
  else if k = 4 then .pointer (some ⟨c.tb, 1, none⟩) else if k = 5 then c.s1 else if k = 6 then g.v6
  else if k = 7 then .pointer (some ⟨c.tb, 2, none⟩) else if k = 8 then c.s2 else if k = 9 then g.v9
  else if k = 10 then .agg #[.int .i64 c.t.mask, g.v6, g.v9] else if k = 11 then .slice (some ⟨g.b11, 0, none⟩) 1 1 else g.v12
structure CC.Ok (c : CC) : Prop where
  box : Blk c.wl c.bx 40 #[c.old, .int .i64 c.next]
  tbox : Blk c.wl c.tb 82 #[.int .i64 c.t.mask, c.s1, c.s2]
  ids : IntsAt c.wl c.lo c.s1 c.t.ids
  rows : RowsAt c.wl c.lo c.s2 c.t.rows
  own : c.wl.ownsRow c.base 82 3 c.old c.n c.xs
  base : c.base ≤ c.wl.heap.size
  nb : ∀ g, c.old.ownBlock = some g → g ≠ c.bx
  z1 : c.t.ids.length * 8 ≤ 140737488351232
  z2 : c.t.rows.length * 64 ≤ 140737488351232
  z3 : (c.n + 1) * 56 ≤ 140737488351232
  lb : c.bx < c.base
  p3 : c.a0.eval (.tmp 3) = .pointer (some ⟨c.bx, 0, none⟩)
  p5 : c.a0.eval (.tmp 5) = .pointer (some ⟨c.tb, 0, none⟩)
/-- before the table is appended -/
structure CC.FA (c : CC) (g : CG) (l : Array Bool) (W : World) : Prop where
  below : Below c.wl.heap.size c.wl W
  ids : l.getD 6 false = true → W.ownsRow c.wl.heap.size 3 1 g.v6 (0 + c.t.ids.length) ([] ++ c.t.ids.map (Value.int .i64))
  rows : l.getD 9 false = true → W.ownsRow c.wl.heap.size 27 8 g.v9 (0 + c.t.rows.length) ([] ++ c.t.rows.flatMap rowL)
  ne : l.getD 6 false = true → l.getD 9 false = true → ∀ x, g.v6.ownBlock = some x → g.v9.ownBlock ≠ some x
  blk : l.getD 11 false = true → Blk W g.b11 82 #[.int .i64 c.t.mask, g.v6, g.v9]
/-- behind it -/
def CC.FB (c : CC) (g : CG) (W : World) : Prop := Packed c.wl W c.base c.old g.v12 g.v6 g.v9 c.n c.t c.xs ∧ Below c.base c.wl W
def CC.Stage (c : CC) (g : CG) (l : Array Bool) (W : World) : Prop :=
  (l.getD 12 false = false ∧ l.getD 14 false = false ∧ c.FA g l W) ∨ (l.getD 12 false = true ∧ l.getD 14 false = false ∧ c.FB g W) ∨
  (l.getD 12 false = true ∧ l.getD 14 false = true ∧ ∃ W1, c.FB g W1 ∧ W = W1.setCell ⟨c.bx, 0, none⟩ g.v12)
structure CC.Inv (c : CC) (l : Array Bool) (a : Act) (W : World) : Prop where
  size : l.size = 15
  len : a.tmps.size = 32
  defers : a.defers = []
  other : ∀ j : Nat, (j < 16 ∨ 30 ≤ j) → a.eval (.tmp j) = c.a0.eval (.tmp j)
  closed : ∀ k j, waits .any cpOps k j = true → l.getD k false = true → l.getD j false = true
  ghost : ∃ g : CG, (∀ k, k < 14 → l.getD k false = true → a.eval (.tmp (16 + k)) = c.val g k) ∧ c.Stage g l W
section
variable {c : CC} {l : Array Bool} {a : Act} {W : World}
theorem cp_slots {g g' : CG} {k : Nat} {v : Value} (hs : ∀ k, k < 14 → l.getD k false = true → a.eval (.tmp (16 + k)) = c.val g k) (hlen : a.tmps.size = 32) (hk : k < 14)
    (hv : c.val g' k = v) (he : ∀ j, j ≠ k → l.getD j false = true → c.val g' j = c.val g j) :
    ∀ j, j < 14 → (l.setIfInBounds k true).getD j false = true → (a.put (some (16 + k)) v).eval (.tmp (16 + j)) = c.val g' j := by
  intro j hj hl
  by_cases e : k = j
  · subst e
    rw [put_same (by omega), hv]
  · rw [getD_ne' e] at hl
    rw [put_other (by omega), he j (fun h => e h.symm) hl]
    exact hs j hj hl
theorem cp_closed {k : Nat} (h : ∀ k j, waits .any cpOps k j = true → l.getD k false = true → l.getD j false = true) (hi : k ∈ Region.ready .any cpOps l) :
    ∀ k' j, waits .any cpOps k' j = true → (l.setIfInBounds k true).getD k' false = true → (l.setIfInBounds k true).getD j false = true := by
  intro k' j hw hl
  rcases set_getD hl with rfl | hl
  · exact getD_set (ready_dep hi j hw)
  · exact getD_set (h k' j hw hl)
theorem CC.Inv.frame {k : Nat} {v : Value} {W' : World} (h : c.Inv l a W) (hi : k ∈ Region.ready .any cpOps l) (hk : k < 14)
    (hgh : ∃ g : CG, (∀ j, j < 14 → (l.setIfInBounds k true).getD j false = true → (a.put (some (16 + k)) v).eval (.tmp (16 + j)) = c.val g j) ∧ c.Stage g (l.setIfInBounds k true) W') : c.Inv (l.setIfInBounds k true) (a.put (some (16 + k)) v) W' := by
  refine ⟨by simp [h.size], by simp [Act.put, h.len], h.defers, fun j hj => ?_, cp_closed h.closed hi, hgh⟩
  rw [put_other (by omega)]
  exact h.other j hj
/-- a step that touches no world -/
theorem CC.Stage.pure {g : CG} {k : Nat} (h : c.Stage g l W) (hn : k ≠ 6 ∧ k ≠ 9 ∧ k ≠ 11 ∧ k ≠ 12 ∧ k ≠ 14) : c.Stage g (l.setIfInBounds k true) W := by
  unfold CC.Stage at h ⊢
  rw [getD_ne' hn.2.2.2.1, getD_ne' hn.2.2.2.2]
  rcases h with ⟨h1, h2, hA⟩ | h | h
  · refine .inl ⟨h1, h2, hA.below, ?_, ?_, ?_, ?_⟩
    · rw [getD_ne' hn.1]; exact hA.ids
    · rw [getD_ne' hn.2.1]; exact hA.rows
    · rw [getD_ne' hn.1, getD_ne' hn.2.1]; exact hA.ne
    · rw [getD_ne' hn.2.2.1]; exact hA.blk
  · exact .inr (.inl h)
  · exact .inr (.inr h)
theorem CC.Inv.pure {k : Nat} {v : Value} (h : c.Inv l a W) (hi : k ∈ Region.ready .any cpOps l) (hk : k < 14) (hn : k ≠ 6 ∧ k ≠ 9 ∧ k ≠ 11 ∧ k ≠ 12) (hv : ∀ g, (∀ j, j < 14 → l.getD j false = true → a.eval (.tmp (16 + j)) = c.val g j) → c.val g k = v) : c.Inv (l.setIfInBounds k true) (a.put (some (16 + k)) v) W := by
  obtain ⟨g, hs, hW⟩ := h.ghost
  exact h.frame hi hk ⟨g, cp_slots hs h.len hk (hv g hs) (fun _ _ _ => rfl), hW.pure ⟨hn.1, hn.2.1, hn.2.2.1, hn.2.2.2, by omega⟩⟩
/-- before operation k of 6, 9, 11, 12, .. the world is the first one's -/
theorem CC.Stage.early {g : CG} (h : c.Stage g l W) {k : Nat} (hl : l.getD k true = false) (hk : ∀ l : Array Bool, (∀ k j, waits .any cpOps k j = true → l.getD k false = true → l.getD j false = true) → l.getD 12 false = true → l.getD k false = true)
    (hc : ∀ k j, waits .any cpOps k j = true → l.getD k false = true → l.getD j false = true) : c.FA g l W ∧ l.getD 12 false = false ∧ l.getD 14 false = false := by
  have hf := (getD_two hl).2
  rcases h with ⟨h1, h2, hA⟩ | ⟨h1, _⟩ | ⟨h1, _⟩
  · exact ⟨hA, h1, h2⟩
  · rw [hk l hc h1] at hf; cases hf
  · rw [hk l hc h1] at hf; cases hf
end
/-! the operations, by kind -/
theorem cp_fieldS {o : Oper} {a : Act} {w : World} {K : Act → World → Prop} {Q : Exit → Act → World → Prop} {x : Operand} {b : Nat} (ho : o.op = .fieldAddr 40 x 0) (hx : a.eval x = .pointer (some ⟨b, 0, none⟩))
    (hk : K (a.put o.dst (.pointer (some ⟨b, 0, none⟩))) w) : o.wp Try.prog a w K Q := by
  unfold Oper.wp execOp
  simp only [ho, hx]
  go_simp
  exact hk
theorem cp_field0 {o : Oper} {a : Act} {w : World} {K : Act → World → Prop} {Q : Exit → Act → World → Prop} {x : Operand} {b : Nat} (ho : o.op = .fieldAddr 82 x 0) (hx : a.eval x = .pointer (some ⟨b, 0, none⟩))
    (hk : K (a.put o.dst (.pointer (some ⟨b, 0, none⟩))) w) : o.wp Try.prog a w K Q := by
  unfold Oper.wp execOp
  simp only [ho, hx]
  go_simp
  exact hk
theorem cp_field1 {o : Oper} {a : Act} {w : World} {K : Act → World → Prop} {Q : Exit → Act → World → Prop} {x : Operand} {b : Nat} (ho : o.op = .fieldAddr 82 x 1) (hx : a.eval x = .pointer (some ⟨b, 0, none⟩))
    (hk : K (a.put o.dst (.pointer (some ⟨b, 1, none⟩))) w) : o.wp Try.prog a w K Q := by
  unfold Oper.wp execOp
  simp only [ho, hx]
  go_simp
  exact hk
theorem cp_field2 {o : Oper} {a : Act} {w : World} {K : Act → World → Prop} {Q : Exit → Act → World → Prop} {x : Operand} {b : Nat} (ho : o.op = .fieldAddr 82 x 2) (hx : a.eval x = .pointer (some ⟨b, 0, none⟩))
    (hk : K (a.put o.dst (.pointer (some ⟨b, 2, none⟩))) w) : o.wp Try.prog a w K Q := by
  unfold Oper.wp execOp
  simp only [ho, hx]
  go_simp
  exact hk
theorem cp_loadT {o : Oper} {a : Act} {w : World} {K : Act → World → Prop} {Q : Exit → Act → World → Prop} {x : Operand} {ad : Addr} {v : Value} (ho : o.op = .load 38 x) (hx : a.eval x = .pointer (some ad)) (hc : w.cell? ad = some v)
    (hk : K (a.put o.dst v) w) : o.wp Try.prog a w K Q := by
  unfold Oper.wp execOp
  simp only [ho, hx]
  go_simp
  exact hk
theorem cp_loadI {o : Oper} {a : Act} {w : World} {K : Act → World → Prop} {Q : Exit → Act → World → Prop} {x : Operand} {ad : Addr} {v : Value} (ho : o.op = .load 3 x) (hx : a.eval x = .pointer (some ad)) (hc : w.cell? ad = some v)
    (hk : K (a.put o.dst v) w) : o.wp Try.prog a w K Q := by
  unfold Oper.wp execOp
  simp only [ho, hx]
  go_simp
  exact hk
theorem cp_loadIs {o : Oper} {a : Act} {w : World} {K : Act → World → Prop} {Q : Exit → Act → World → Prop} {x : Operand} {ad : Addr} {v : Value} (ho : o.op = .load 79 x) (hx : a.eval x = .pointer (some ad)) (hc : w.cell? ad = some v)
    (hk : K (a.put o.dst v) w) : o.wp Try.prog a w K Q := by
  unfold Oper.wp execOp
  simp only [ho, hx]
  go_simp
  exact hk
theorem cp_loadRs {o : Oper} {a : Act} {w : World} {K : Act → World → Prop} {Q : Exit → Act → World → Prop} {x : Operand} {ad : Addr} {v : Value} (ho : o.op = .load 80 x) (hx : a.eval x = .pointer (some ad)) (hc : w.cell? ad = some v)
    (hk : K (a.put o.dst v) w) : o.wp Try.prog a w K Q := by
  unfold Oper.wp execOp
  simp only [ho, hx]
  go_simp
  exact hk

theorem cp_build {o : Oper} {a : Act} {w : World} {K : Act → World → Prop} {Q : Exit → Act → World → Prop} {m : Int} {v1 v2 : Value} {s1 s2 : Option Addr} {n1 n2 c1 c2 : Nat} (ho : o.op = .build 82 #[(0, .tmp 19), (1, .tmp 22), (2, .tmp 25)]) (h0 : a.eval (.tmp 19) = .int .i64 m) (h1 : a.eval (.tmp 22) = v1) (h2 : a.eval (.tmp 25) = v2)
    (e1 : v1 = .slice s1 n1 c1) (e2 : v2 = .slice s2 n2 c2) (hk : K (a.put o.dst (.agg #[.int .i64 m, v1, v2])) w) : o.wp Try.prog a w K Q := by
  subst e1 e2
  unfold Oper.wp execOp
  simp only [ho, List.map_toArray, List.map_cons, List.map_nil, h0, h1, h2]
  go_simp
  exact hk
theorem cp_buildSlice {o : Oper} {a : Act} {w : World} {K : Act → World → Prop} {Q : Exit → Act → World → Prop} {m : Int} {v1 v2 : Value} {s1 s2 : Option Addr} {n1 n2 c1 c2 : Nat} (ho : o.op = .buildSlice 38 1 #[(0, .tmp 26)]) (hx : a.eval (.tmp 26) = .agg #[.int .i64 m, v1, v2])
    (e1 : v1 = .slice s1 n1 c1) (e2 : v2 = .slice s2 n2 c2) (hk : K (a.put o.dst (.slice (some ⟨w.heap.size, 0, none⟩) 1 1)) (w.alloc (.cells #[.int .i64 m, v1, v2] 82))) : o.wp Try.prog a w K Q := by
  subst e1 e2
  unfold Oper.wp execOp
  simp only [ho, List.map_toArray, List.map_cons, List.map_nil, hx]
  go_simp
  exact hk
theorem cp_store {o : Oper} {a : Act} {w : World} {K : Act → World → Prop} {Q : Exit → Act → World → Prop} {p x : Operand} {ad : Addr} {u v : Value} {s : Option Addr} {n m : Nat} (ho : o.op = .store 38 p x) (hd : o.dst = none) (hp : a.eval p = .pointer (some ad)) (hx : a.eval x = v) (hv : v = .slice s n m)
    (hc : w.cell? ad = some u) (hf : w.frozen? ad = false) (hk : K a (w.setCell ad v)) : o.wp Try.prog a w K Q := by
  subst hv
  unfold Oper.wp execOp
  simp only [ho, hp, hx]
  go_simp
  exact hk
section
variable {c : CC} {l : Array Bool} {a : Act} {W : World} {Q : Exit → Act → World → Prop}
theorem cp0 (ok : c.Ok) (h : c.Inv l a W) (hi : 0 ∈ Region.ready .any cpOps l) : wpOp Try.prog cpOps Q 0 (c.Inv (l.setIfInBounds 0 true)) a W := by
  obtain ⟨o, ho, hg, hop, hd⟩ := cpop_at (k := 0) (x := .fieldAddr 40 (.tmp 3) 0) (d := some 16) (by kernel_rfl)
  have e := (h.other 3 (by omega)).trans ok.p3
  refine wpOp_run ho hg (cp_fieldS hop e ?_)
  rw [hd]
  exact h.pure (k := 0) hi (by omega) (by omega) (fun g _ => rfl)
theorem cp2 (ok : c.Ok) (h : c.Inv l a W) (hi : 2 ∈ Region.ready .any cpOps l) : wpOp Try.prog cpOps Q 2 (c.Inv (l.setIfInBounds 2 true)) a W := by
  obtain ⟨o, ho, hg, hop, hd⟩ := cpop_at (k := 2) (x := .fieldAddr 82 (.tmp 5) 0) (d := some 18) (by kernel_rfl)
  have e := (h.other 5 (by omega)).trans ok.p5
  refine wpOp_run ho hg (cp_field0 hop e ?_)
  rw [hd]
  exact h.pure (k := 2) hi (by omega) (by omega) (fun g _ => rfl)
theorem cp4 (ok : c.Ok) (h : c.Inv l a W) (hi : 4 ∈ Region.ready .any cpOps l) : wpOp Try.prog cpOps Q 4 (c.Inv (l.setIfInBounds 4 true)) a W := by
  obtain ⟨o, ho, hg, hop, hd⟩ := cpop_at (k := 4) (x := .fieldAddr 82 (.tmp 5) 1) (d := some 20) (by kernel_rfl)
  have e := (h.other 5 (by omega)).trans ok.p5
  refine wpOp_run ho hg (cp_field1 hop e ?_)
  rw [hd]
  exact h.pure (k := 4) hi (by omega) (by omega) (fun g _ => rfl)
theorem cp7 (ok : c.Ok) (h : c.Inv l a W) (hi : 7 ∈ Region.ready .any cpOps l) : wpOp Try.prog cpOps Q 7 (c.Inv (l.setIfInBounds 7 true)) a W := by
  obtain ⟨o, ho, hg, hop, hd⟩ := cpop_at (k := 7) (x := .fieldAddr 82 (.tmp 5) 2) (d := some 23) (by kernel_rfl)
  have e := (h.other 5 (by omega)).trans ok.p5
  refine wpOp_run ho hg (cp_field2 hop e ?_)
  rw [hd]
  exact h.pure (k := 7) hi (by omega) (by omega) (fun g _ => rfl)
theorem cp13 (ok : c.Ok) (h : c.Inv l a W) (hi : 13 ∈ Region.ready .any cpOps l) : wpOp Try.prog cpOps Q 13 (c.Inv (l.setIfInBounds 13 true)) a W := by
  obtain ⟨o, ho, hg, hop, hd⟩ := cpop_at (k := 13) (x := .fieldAddr 40 (.tmp 3) 0) (d := some 29) (by kernel_rfl)
  have e := (h.other 3 (by omega)).trans ok.p3
  refine wpOp_run ho hg (cp_fieldS hop e ?_)
  rw [hd]
  exact h.pure (k := 13) hi (by omega) (by omega) (fun g _ => rfl)
theorem cp1 (ok : c.Ok) (h : c.Inv l a W) (hi : 1 ∈ Region.ready .any cpOps l) : wpOp Try.prog cpOps Q 1 (c.Inv (l.setIfInBounds 1 true)) a W := by
  obtain ⟨o, ho, hg, hop, hd⟩ := cpop_at (k := 1) (x := .load 38 (.tmp 16)) (d := some 17) (by kernel_rfl)
  obtain ⟨g, hs, hW⟩ := h.ghost
  have e := hs 0 (by omega) (ready_dep hi 0 (by kernel_rfl))
  obtain ⟨hA, _, _⟩ := hW.early (k := 1) (ready_spec hi).1 (fun l hc h12 => (hc 12 1 (by kernel_rfl) h12)) h.closed
  have hc := (ok.box.below hA.below ok.box.lt).cell 0
  refine wpOp_run ho hg (cp_loadT hop e (v := c.old) hc ?_)
  rw [hd]
  exact h.pure (k := 1) hi (by omega) (by omega) (fun g _ => rfl)
theorem cp3 (ok : c.Ok) (h : c.Inv l a W) (hi : 3 ∈ Region.ready .any cpOps l) : wpOp Try.prog cpOps Q 3 (c.Inv (l.setIfInBounds 3 true)) a W := by
  obtain ⟨o, ho, hg, hop, hd⟩ := cpop_at (k := 3) (x := .load 3 (.tmp 18)) (d := some 19) (by kernel_rfl)
  obtain ⟨g, hs, hW⟩ := h.ghost
  have e := hs 2 (by omega) (ready_dep hi 2 (by kernel_rfl))
  obtain ⟨hA, _, _⟩ := hW.early (k := 3) (ready_spec hi).1 (fun l hc h12 => (hc 10 3 (by kernel_rfl) (hc 11 10 (by kernel_rfl) (hc 12 11 (by kernel_rfl) h12)))) h.closed
  have hc := (ok.tbox.below hA.below ok.tbox.lt).cell 0
  refine wpOp_run ho hg (cp_loadI hop e (v := .int .i64 c.t.mask) hc ?_)
  rw [hd]
  exact h.pure (k := 3) hi (by omega) (by omega) (fun g _ => rfl)
theorem cp5 (ok : c.Ok) (h : c.Inv l a W) (hi : 5 ∈ Region.ready .any cpOps l) : wpOp Try.prog cpOps Q 5 (c.Inv (l.setIfInBounds 5 true)) a W := by
  obtain ⟨o, ho, hg, hop, hd⟩ := cpop_at (k := 5) (x := .load 79 (.tmp 20)) (d := some 21) (by kernel_rfl)
  obtain ⟨g, hs, hW⟩ := h.ghost
  have e := hs 4 (by omega) (ready_dep hi 4 (by kernel_rfl))
  obtain ⟨hA, _, _⟩ := hW.early (k := 5) (ready_spec hi).1 (fun l hc h12 => (hc 6 5 (by kernel_rfl) (hc 10 6 (by kernel_rfl) (hc 11 10 (by kernel_rfl) (hc 12 11 (by kernel_rfl) h12))))) h.closed
  have hc := (ok.tbox.below hA.below ok.tbox.lt).cell 1
  refine wpOp_run ho hg (cp_loadIs hop e (v := c.s1) hc ?_)
  rw [hd]
  exact h.pure (k := 5) hi (by omega) (by omega) (fun g _ => rfl)
theorem cp8 (ok : c.Ok) (h : c.Inv l a W) (hi : 8 ∈ Region.ready .any cpOps l) : wpOp Try.prog cpOps Q 8 (c.Inv (l.setIfInBounds 8 true)) a W := by
  obtain ⟨o, ho, hg, hop, hd⟩ := cpop_at (k := 8) (x := .load 80 (.tmp 23)) (d := some 24) (by kernel_rfl)
  obtain ⟨g, hs, hW⟩ := h.ghost
  have e := hs 7 (by omega) (ready_dep hi 7 (by kernel_rfl))
  obtain ⟨hA, _, _⟩ := hW.early (k := 8) (ready_spec hi).1 (fun l hc h12 => (hc 9 8 (by kernel_rfl) (hc 10 9 (by kernel_rfl) (hc 11 10 (by kernel_rfl) (hc 12 11 (by kernel_rfl) h12))))) h.closed
  have hc := (ok.tbox.below hA.below ok.tbox.lt).cell 2
  refine wpOp_run ho hg (cp_loadRs hop e (v := c.s2) hc ?_)
  rw [hd]
  exact h.pure (k := 8) hi (by omega) (by omega) (fun g _ => rfl)
theorem cp6 (ok : c.Ok) (h : c.Inv l a W) (hi : 6 ∈ Region.ready .any cpOps l) : wpOp Try.prog cpOps Q 6 (c.Inv (l.setIfInBounds 6 true)) a W := by
  obtain ⟨o, ho, hg, hop, hd⟩ := cpop_at (k := 6) (x := .call { callee := .builtin .append, args := #[.const (.slice none 0 0), .tmp 21], argTypes := #[79, 79] }) (d := some 22) (by kernel_rfl)
  obtain ⟨g, hs, hW⟩ := h.ghost
  have e := hs 5 (by omega) (ready_dep hi 5 (by kernel_rfl))
  obtain ⟨hA, e12, e14⟩ := hW.early (k := 6) (ready_spec hi).1 (fun l hc h12 => (hc 10 6 (by kernel_rfl) (hc 11 10 (by kernel_rfl) (hc 12 11 (by kernel_rfl) h12)))) h.closed
  have lk := (getD_two (ready_spec hi).1).2
  obtain ⟨i1, hi1, hz10, hz11, hz12⟩ := info_parts infoInt
  have z1 := ok.z1
  have z2 := ok.z2
  have hz := hA.below.size
  refine wpOp_step ho fun K' hK => ?_
  refine step_append_own_lies hg (.const (.slice none 0 0)) (.tmp 21) 79 hop c.wl.heap.size 3 i1 _ 1 8 Try.underlying79 hi1 hz10 hz11 hz12 rfl (by decide) (.slice none 0 0) 0 [] (World.ownsRow_nil _ _ _ _) rfl
    _ c.lo c.t.ids.length _ (ok.ids.below hA.below) e (by intro u hu; obtain ⟨z, _, rfl⟩ := List.mem_map.1 hu; rfl) (by unfold maxLen; omega) (by omega) hz ?_
  intro v' w' hown hgrow hloc
  refine hK _ _ ?_
  rw [hd]
  have hnew := own_new hown hloc
  have hb : Below W.heap.size W w' := (Below.refl _ W).grown hgrow (Nat.le_refl _) (fun j hj => by cases hj)
  refine h.frame (k := 6) hi (by omega) ⟨{ g with v6 := v' }, cp_slots hs h.len (by omega) rfl (fun j hj hl => ?_), .inl ⟨?_, ?_, hA.below.trans (hb.mono hz), ?_, ?_, ?_, ?_⟩⟩
  · have h10 : j ≠ 10 := by
      rintro rfl
      have := h.closed 10 6 (by kernel_rfl) hl
      rw [lk] at this; cases this
    unfold CC.val
    simp only [hj, h10, if_false]
  · rw [getD_ne' (by omega)]; exact e12
  · rw [getD_ne' (by omega)]; exact e14
  · intro _; exact hown
  · rw [getD_ne' (by omega)]; intro hl; exact own_below (hA.rows hl) hb
  · rw [getD_ne' (i := 6) (k := 9) (by omega)]
    intro _ hl x e1 e2
    have := hnew x e1
    have := ((hA.rows hl).lt x e2).2
    omega
  · rw [getD_ne' (by omega)]
    intro hl
    have := h.closed 10 6 (by kernel_rfl) (h.closed 11 10 (by kernel_rfl) hl)
    rw [lk] at this; cases this
theorem cp9 (ok : c.Ok) (h : c.Inv l a W) (hi : 9 ∈ Region.ready .any cpOps l) : wpOp Try.prog cpOps Q 9 (c.Inv (l.setIfInBounds 9 true)) a W := by
  obtain ⟨o, ho, hg, hop, hd⟩ := cpop_at (k := 9) (x := .call { callee := .builtin .append, args := #[.const (.slice none 0 0), .tmp 24], argTypes := #[80, 80] }) (d := some 25) (by kernel_rfl)
  obtain ⟨g, hs, hW⟩ := h.ghost
  have e := hs 8 (by omega) (ready_dep hi 8 (by kernel_rfl))
  obtain ⟨hA, e12, e14⟩ := hW.early (k := 9) (ready_spec hi).1 (fun l hc h12 => (hc 10 9 (by kernel_rfl) (hc 11 10 (by kernel_rfl) (hc 12 11 (by kernel_rfl) h12)))) h.closed
  have lk := (getD_two (ready_spec hi).1).2
  obtain ⟨i1, hi1, hz10, hz11, hz12⟩ := info_parts infoRow
  have z1 := ok.z1
  have z2 := ok.z2
  have hz := hA.below.size
  refine wpOp_step ho fun K' hK => ?_
  refine step_append_own_lies hg (.const (.slice none 0 0)) (.tmp 24) 80 hop c.wl.heap.size 27 i1 _ 8 64 Try.underlying80 hi1 hz10 hz11 hz12 rfl (by decide) (.slice none 0 0) 0 [] (World.ownsRow_nil _ _ _ _) rfl
    _ c.lo c.t.rows.length _ (ok.rows.below hA.below) e (by intro u hu; obtain ⟨r, _, hr⟩ := List.mem_flatMap.1 hu; exact one_row r u hr) (by unfold maxLen; omega) (by omega) hz ?_
  intro v' w' hown hgrow hloc
  refine hK _ _ ?_
  rw [hd]
  have hnew := own_new hown hloc
  have hb : Below W.heap.size W w' := (Below.refl _ W).grown hgrow (Nat.le_refl _) (fun j hj => by cases hj)
  refine h.frame (k := 9) hi (by omega) ⟨{ g with v9 := v' }, cp_slots hs h.len (by omega) rfl (fun j hj hl => ?_), .inl ⟨?_, ?_, hA.below.trans (hb.mono hz), ?_, ?_, ?_, ?_⟩⟩
  · have h10 : j ≠ 10 := by
      rintro rfl
      have := h.closed 10 9 (by kernel_rfl) hl
      rw [lk] at this; cases this
    unfold CC.val
    simp only [hj, h10, if_false]
  · rw [getD_ne' (by omega)]; exact e12
  · rw [getD_ne' (by omega)]; exact e14
  · rw [getD_ne' (by omega)]; intro hl; exact own_below (hA.ids hl) hb
  · intro _; exact hown
  · rw [getD_ne' (i := 9) (k := 6) (by omega)]
    intro hl _ x e1 e2
    have := hnew x e2
    have := ((hA.ids hl).lt x e1).2
    omega
  · rw [getD_ne' (by omega)]
    intro hl
    have := h.closed 10 9 (by kernel_rfl) (h.closed 11 10 (by kernel_rfl) hl)
    rw [lk] at this; cases this
theorem cp10 (ok : c.Ok) (h : c.Inv l a W) (hi : 10 ∈ Region.ready .any cpOps l) : wpOp Try.prog cpOps Q 10 (c.Inv (l.setIfInBounds 10 true)) a W := by
  obtain ⟨o, ho, hg, hop, hd⟩ := cpop_at (k := 10) (x := .build 82 #[(0, .tmp 19), (1, .tmp 22), (2, .tmp 25)]) (d := some 26) (by kernel_rfl)
  obtain ⟨g, hs, hW⟩ := h.ghost
  have l3 := ready_dep hi 3 (by kernel_rfl)
  have l6 := ready_dep hi 6 (by kernel_rfl)
  have l9 := ready_dep hi 9 (by kernel_rfl)
  obtain ⟨hA, _, _⟩ := hW.early (k := 10) (ready_spec hi).1 (fun l hc h12 => (hc 11 10 (by kernel_rfl) (hc 12 11 (by kernel_rfl) h12))) h.closed
  obtain ⟨s1, c1, f1⟩ := own_form (hA.ids l6)
  obtain ⟨s2, c2, f2⟩ := own_form (hA.rows l9)
  refine wpOp_run ho hg (cp_build hop (hs 3 (by omega) l3) (hs 6 (by omega) l6) (hs 9 (by omega) l9) f1 f2 ?_)
  rw [hd]
  exact h.frame (k := 10) hi (by omega) ⟨g, cp_slots hs h.len (by omega) rfl (fun _ _ _ => rfl), hW.pure (by omega)⟩
theorem cp11 (ok : c.Ok) (h : c.Inv l a W) (hi : 11 ∈ Region.ready .any cpOps l) : wpOp Try.prog cpOps Q 11 (c.Inv (l.setIfInBounds 11 true)) a W := by
  obtain ⟨o, ho, hg, hop, hd⟩ := cpop_at (k := 11) (x := .buildSlice 38 1 #[(0, .tmp 26)]) (d := some 27) (by kernel_rfl)
  obtain ⟨g, hs, hW⟩ := h.ghost
  have l10 := ready_dep hi 10 (by kernel_rfl)
  have l6 := h.closed 10 6 (by kernel_rfl) l10
  have l9 := h.closed 10 9 (by kernel_rfl) l10
  obtain ⟨hA, e12, e14⟩ := hW.early (k := 11) (ready_spec hi).1 (fun l hc h12 => (hc 12 11 (by kernel_rfl) h12)) h.closed
  obtain ⟨s1, c1, f1⟩ := own_form (hA.ids l6)
  obtain ⟨s2, c2, f2⟩ := own_form (hA.rows l9)
  have hb : Below W.heap.size W (W.alloc (.cells #[.int .i64 c.t.mask, g.v6, g.v9] 82)) := (Below.refl _ W).alloc (Nat.le_refl _) _
  have hz := hA.below.size
  refine wpOp_run ho hg (cp_buildSlice hop (hs 10 (by omega) l10) f1 f2 ?_)
  rw [hd]
  refine h.frame (k := 11) hi (by omega) ⟨{ g with b11 := W.heap.size }, cp_slots hs h.len (by omega) rfl (fun j hj hl => by unfold CC.val; simp only [hj, if_false]), .inl ⟨?_, ?_, hA.below.trans (hb.mono hz), ?_, ?_, ?_, ?_⟩⟩
  · rw [getD_ne' (by omega)]; exact e12
  · rw [getD_ne' (by omega)]; exact e14
  · intro _; exact own_below (hA.ids l6) hb
  · intro _; exact own_below (hA.rows l9) hb
  · intro _ _; exact hA.ne l6 l9
  · intro _; exact Blk.new W _ _
theorem cp12 (ok : c.Ok) (h : c.Inv l a W) (hi : 12 ∈ Region.ready .any cpOps l) : wpOp Try.prog cpOps Q 12 (c.Inv (l.setIfInBounds 12 true)) a W := by
  obtain ⟨o, ho, hg, hop, hd⟩ := cpop_at (k := 12) (x := .call { callee := .builtin .append, args := #[.tmp 17, .tmp 27], argTypes := #[38, 38] }) (d := some 28) (by kernel_rfl)
  obtain ⟨g, hs, hW⟩ := h.ghost
  have l1 := ready_dep hi 1 (by kernel_rfl)
  have l11 := ready_dep hi 11 (by kernel_rfl)
  have l10 := h.closed 11 10 (by kernel_rfl) l11
  have l6 := h.closed 10 6 (by kernel_rfl) l10
  have l9 := h.closed 10 9 (by kernel_rfl) l10
  obtain ⟨hA, e12, e14⟩ := hW.early (k := 12) (ready_spec hi).1 (fun l hc h12 => h12) h.closed
  have e1 := hs 1 (by omega) l1
  have e11 := hs 11 (by omega) l11
  have hbk := hA.blk l11
  obtain ⟨i1, hi1, hz10, hz11, hz12⟩ := info_parts infoTable
  obtain ⟨s1, c1, f1⟩ := own_form (hA.ids l6)
  obtain ⟨s2, c2, f2⟩ := own_form (hA.rows l9)
  have z3 := ok.z3
  have hz := hA.below.size
  refine wpOp_step ho fun K' hK => ?_
  refine step_append_own_atK2 hg (.tmp 17) (.tmp 27) 38 hop c.base 82 i1 _ 3 56 Try.underlying38 hi1 hz10 hz11 hz12 rfl (by decide) c.old c.n c.xs (own_below ok.own hA.below) e1
    ⟨g.b11, 0, none⟩ 1 1 [.int .i64 c.t.mask, g.v6, g.v9] e11 rfl (by
      intro j u hu
      rw [Addr.add_lit, hbk.cell]
      match j, hu with
      | 0, hu => exact hu
      | 1, hu => exact hu
      | 2, hu => exact hu
      | j + 3, hu => simp at hu) (by
      intro u hu
      simp only [List.mem_cons, List.not_mem_nil, or_false] at hu
      rcases hu with rfl | rfl | rfl
      · rfl
      · rw [f1]; rfl
      · rw [f2]; rfl) (by unfold maxLen; omega) (by omega) (Nat.le_trans ok.base hz) ?_
  intro v' w' hown hgrow hloc
  refine hK _ _ ?_
  rw [hd]
  have hold : ∀ g, c.old.ownBlock = some g → g < c.wl.heap.size := fun g e => (ok.own.lt g e).2
  refine h.frame (k := 12) hi (by omega) ⟨{ g with v12 := v' }, cp_slots hs h.len (by omega) rfl (fun j hj hl => ?_), .inr (.inl ⟨getD_eq' (by have := h.size; omega), ?_, ?_, ?_⟩)⟩
  · have hjl : j < 15 := by
      have h1 := h.size
      by_cases hjs : j < l.size
      · omega
      · simp [Array.getD, hjs] at hl
    have h14 : j ≠ 14 := by
      rintro rfl
      rw [e14] at hl; cases hl
    rcases (by omega : j = 0 ∨ j = 1 ∨ j = 2 ∨ j = 3 ∨ j = 4 ∨ j = 5 ∨ j = 6 ∨ j = 7 ∨ j = 8 ∨ j = 9 ∨ j = 10 ∨ j = 11 ∨ j = 13) with rfl | rfl | rfl | rfl | rfl | rfl | rfl | rfl | rfl | rfl | rfl | rfl | rfl <;> rfl
  · rw [getD_ne' (by omega)]; exact e14
  · exact copied_pack hA.below ok.base (hA.ids l6) (hA.rows l9) hold (hA.ne l6 l9) hown hgrow hloc
  · exact (hA.below.mono ok.base).grown hgrow (Nat.le_trans ok.base hz) (fun k hk => (ok.own.lt k hk).1)
theorem cp14 (ok : c.Ok) (h : c.Inv l a W) (hi : 14 ∈ Region.ready .any cpOps l) : wpOp Try.prog cpOps Q 14 (c.Inv (l.setIfInBounds 14 true)) a W := by
  obtain ⟨o, ho, hg, hop, hd⟩ := cpop_at (k := 14) (x := .store 38 (.tmp 29) (.tmp 28)) (d := none) (by kernel_rfl)
  obtain ⟨g, hs, hW⟩ := h.ghost
  have l12 := ready_dep hi 12 (by kernel_rfl)
  have l13 := ready_dep hi 13 (by kernel_rfl)
  have l14 := (getD_two (ready_spec hi).1).2
  have e13 := hs 13 (by omega) l13
  have e12 := hs 12 (by omega) l12
  have hB : c.FB g W := by
    rcases hW with ⟨k1, _⟩ | ⟨_, _, k⟩ | ⟨_, k1, _⟩
    · rw [l12] at k1; cases k1
    · exact k
    · rw [l14] at k1; cases k1
  obtain ⟨s, cc, hv⟩ := own_form hB.1.row
  have hbx : Blk W c.bx 40 #[c.old, .int .i64 c.next] := (hB.1.same c.bx (by have := ok.lb; have := ok.base; omega) (fun e => ok.nb _ e rfl)).trans ok.box
  refine wpOp_run ho hg (cp_store hop hd e13 e12 hv (hbx.cell 0) (hbx.free 0) ?_)
  refine ⟨by simp [h.size], h.len, h.defers, h.other, cp_closed h.closed hi, g, fun k hk hl => hs k hk (by rwa [getD_ne' (by omega)] at hl), .inr (.inr ⟨?_, getD_eq' (by have := h.size; omega), W, hB, rfl⟩)⟩
  rw [getD_ne' (by omega)]; exact l12
theorem cp_op (ok : c.Ok) {k : Nat} (h : c.Inv l a W) (hi : k ∈ Region.ready .any cpOps l) : wpOp Try.prog cpOps Q k (c.Inv (l.setIfInBounds k true)) a W := by
  have hk : k < 15 := cpOps_size ▸ (ready_spec hi).2.1
  rcases (by omega : k = 0 ∨ k = 1 ∨ k = 2 ∨ k = 3 ∨ k = 4 ∨ k = 5 ∨ k = 6 ∨ k = 7 ∨ k = 8 ∨ k = 9 ∨ k = 10 ∨ k = 11 ∨ k = 12 ∨ k = 13 ∨ k = 14) with rfl | rfl | rfl | rfl | rfl | rfl | rfl | rfl | rfl | rfl | rfl | rfl | rfl | rfl | rfl
  · exact cp0 ok h hi
  · exact cp1 ok h hi
  · exact cp2 ok h hi
  · exact cp3 ok h hi
  · exact cp4 ok h hi
  · exact cp5 ok h hi
  · exact cp6 ok h hi
  · exact cp7 ok h hi
  · exact cp8 ok h hi
  · exact cp9 ok h hi
  · exact cp10 ok h hi
  · exact cp11 ok h hi
  · exact cp12 ok h hi
  · exact cp13 ok h hi
  · exact cp14 ok h hi
theorem cp_ordered : ((List.range 15).all fun i => ((cpOps[i]?).map fun o => o.after.toList.all fun e => !Region.binds .any e || decide (e.on < i)).getD true) = true := by kernel_rfl
/-- the whole statement -/
theorem cp_region (ok : c.Ok) (h : c.Inv (Array.replicate 15 false) a W) (hQ : ∀ (a' : Act) (g : CG) (W1 : World), a'.defers = [] → a'.tmps.size = 32 → (∀ j : Nat, (j < 16 ∨ 30 ≤ j) → a'.eval (.tmp j) = c.a0.eval (.tmp j)) → c.FB g W1 → Q .normal a' (W1.setCell ⟨c.bx, 0, none⟩ g.v12)) :
    wpAny Try.prog .any cpOps Q 15 (Array.replicate 15 false) a W := by
  refine wpAny_inv c.Inv ?_ (fun d a w i h hi => cp_op ok h hi) 15 _ _ _ (by unfold Undone; simp) h
  intro d a w h hr
  have all := all_done hr (by rw [h.size, cpOps_size]) (by
    intro i hi o ho e he hb
    have h1 := List.all_eq_true.1 cp_ordered i (List.mem_range.2 (cpOps_size ▸ hi))
    rw [ho] at h1
    simp only [Option.map_some, Option.getD_some] at h1
    have h2 := List.all_eq_true.1 h1 e he
    simpa [hb] using h2)
  rw [cpOps_size] at all
  obtain ⟨g, hs, hW⟩ := h.ghost
  rcases hW with ⟨h1, _⟩ | ⟨_, h1, _⟩ | ⟨_, _, W1, hB, rfl⟩
  · rw [all 12 (by omega)] at h1; cases h1
  · rw [all 14 (by omega)] at h1; cases h1
  · exact hQ a g W1 h.defers h.len h.other hB
end
end Go.Proofs.Ytkpecagkpjabdaa
