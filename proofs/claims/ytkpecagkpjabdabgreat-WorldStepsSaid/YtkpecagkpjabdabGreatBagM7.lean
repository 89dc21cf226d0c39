/- Several small texts in one. No condition of its own: each part says its own. -/
import Derived.Test.YtkpecagkpjabdabGreatBagH
import Derived.Test.YtkpecagkpjabdabGreatBagW
import Derived.Test.YtkpecagkpjabdabGreatBagO
import Derived.Great.BuildSlice
import Derived.Laws.Rows
import Derived.BigFrame
import Derived.Deep.LoopGhost
import Derived.Test.YtkpecagkpjabdabGreatStoreFind
import Derived.Test.YtkpecagkpjabdabGreatRowCells
import Derived.Deep.QuietTactic
import Derived.BigQuiet
import Derived.Test.YtkpecagkpjabdabGreatBagP
import Derived.Test.YtkpecagkpjabdabGreatKit
import Derived.Deep.DeepCutAuto
/- append of a row that lies somewhere (nil too) onto a row of the call's own. No condition. -/
namespace Go.Proofs.YtkpecagkpjabdabGreat
open Go.RowKit
set_option linter.unusedVariables false
set_option linter.unusedSimpArgs false
set_option maxRecDepth 100000
theorem run_append_own_lies {P : Program} (w : World) (base : Nat) (t ty e : TypeId) (i : TypeInfo) (z : Value) (size bytes : Nat) (ht : P.underlying t = some (.slice e)) (hi : P.info? e = some i) (hz : i.zero = some z)
    (hsize : i.size = size) (hby : i.bytes = bytes) (hzs : z.cells.size = size) (hsz : 0 < size) (v : Value) (n : Nat) (xs : List Value) (hown : w.ownsRow base e size v n xs)
    (u : Value) (lo m : Nat) (news : List Value) (hsrc : Lies w lo u m size news) (h1 : ∀ u ∈ news, u.oneCell' = true) (h63 : n + m ≤ maxLen) (hbytes : (n + m) * bytes ≤ 140737488355328) (hbase : base ≤ w.heap.size) :
    ∃ v' w', (Builtin.append_ #[t, t] ty #[v, u]).run P w = .ok v' w' ∧ w'.ownsRow base e size v' (n + m) (xs ++ news) ∧ w.grownBy w' v.ownBlock ∧ (v'.ownBlock = v.ownBlock ∨ v'.ownBlock = some w.heap.size) := by
  obtain ⟨hl, _, ad, cap, rfl, hc⟩ := hsrc
  cases ad with
  | none =>
    have hx : news = [] := by
      apply Classical.byContradiction
      intro h
      obtain ⟨b, o, e, _⟩ := hc h
      cases e
    subst hx
    have hm : m = 0 := by
      rcases Nat.eq_zero_or_pos m with h | h
      · exact h
      · have := Nat.mul_pos h hsz
        simp at hl
        omega
    subst hm
    exact ⟨v, w, run_append_none w base t ty e i size ht hi hsize v n xs hown cap, by simpa using hown, ⟨rfl, rfl, rfl, Nat.le_refl _, fun _ _ _ => rfl⟩, .inl rfl⟩
  | some ad =>
    obtain ⟨v', w', hr, k1, k2, _, k3⟩ := run_append_own_at (P := P) w base t ty e i z size bytes ht hi hz hsize hby hzs hsz v n xs hown ad m cap news hl (fun j u hj => by
      have hne : news ≠ [] := by intro e; rw [e] at hj; simp at hj
      obtain ⟨b, o, e, _, hh⟩ := hc hne
      simp only [Option.some.injEq] at e
      subst e
      rw [Addr.add_lit]
      exact hh j u hj) h1 h63 hbytes hbase
    exact ⟨v', w', hr, k1, k2, k3⟩
/-- as one step of a region that draws its order -/
theorem step_append_own_lies {P : Program} {ops : Array Oper} {o : Oper} {a : Act} {w : World} {K : Act → World → Prop} {Q : Exit → Act → World → Prop} {E : Prop}
    (hgd : o.guard = none) (s x : Operand) (t : TypeId) (hop : o.op = Op.call { callee := Callee.builtin Builtin.append, args := #[s, x], argTypes := #[t, t] })
    (base : Nat) (e : TypeId) (i : TypeInfo) (z : Value) (size bytes : Nat) (ht : P.underlying t = some (.slice e)) (hi : P.info? e = some i) (hz : i.zero = some z)
    (hsize : i.size = size) (hby : i.bytes = bytes) (hzs : z.cells.size = size) (hsz : 0 < size) (v : Value) (n : Nat) (xs : List Value) (hown : w.ownsRow base e size v n xs) (hs : a.eval s = v)
    (u : Value) (lo m : Nat) (news : List Value) (hsrc : Lies w lo u m size news) (hx : a.eval x = u) (h1 : ∀ u ∈ news, u.oneCell' = true) (h63 : n + m ≤ maxLen) (hbytes : (n + m) * bytes ≤ 140737488355328) (hbase : base ≤ w.heap.size)
    (hK : ∀ v' w', w'.ownsRow base e size v' (n + m) (xs ++ news) → w.grownBy w' v.ownBlock → (v'.ownBlock = v.ownBlock ∨ v'.ownBlock = some w.heap.size) → K (a.put o.dst v') w') :
    if Region.wanted o (yielded ops a.tmps) = true then Oper.wp P o a w K Q else E := by
  have hw : Region.wanted o (yielded ops a.tmps) = true := by simp [Region.wanted, hgd]
  rw [if_pos hw]
  obtain ⟨v', w', hr, k1, k2, k3⟩ := run_append_own_lies (P := P) w base t o.type e i z size bytes ht hi hz hsize hby hzs hsz v n xs hown u lo m news hsrc h1 h63 hbytes hbase
  unfold Oper.wp
  simp [execOp, hop, resolve, invoke, builtin, hs, hx, hr, Result.andThen]
  exact hK v' w' k1 k2 k3
/-- a new row made out of a nil one lies in new memory -/
theorem own_new {w w' : World} {e : TypeId} {k n : Nat} {v : Value} {xs : List Value} {base : Nat} (h : w'.ownsRow base e k v n xs) (hat : v.ownBlock = (Value.slice none 0 0).ownBlock ∨ v.ownBlock = some w.heap.size) : ∀ g, v.ownBlock = some g → g = w.heap.size := by
  intro g hg
  rcases hat with k | k
  · rw [hg] at k; cases k
  · rw [hg] at k; simpa using k
end Go.Proofs.YtkpecagkpjabdabGreat
/- The drawn statement of the statements' own copied: each operation once. Condition: what the walk of copied has shown ahead of it. -/
namespace Go.Proofs.YtkpecagkpjabdabGreat
open Go.RowKit
set_option linter.unusedVariables false
set_option linter.unusedSimpArgs false
set_option maxRecDepth 100000
/-- a region of a function's code, by its number -/
def regOf (n : Nat) : Code → Option Code
  | .region i ops d => if i = n then some (.region i ops d) else none
  | .seq a b => match regOf n a with
    | some c => some c
    | none => regOf n b
  | .block _ c => regOf n c
  | .loop c => regOf n c
  | .scope c => regOf n c
  | .cond _ a b => match regOf n a with
    | some c => some c
    | none => regOf n b
  | _ => none
noncomputable def cpC : Code := ((Tryz.f18.body.bind (regOf 5)).getD .skip)
noncomputable def cpOps : Array Oper := match cpC with
  | .region _ ops _ => ops
  | _ => #[]
theorem cpC_is : cpC = .region 5 cpOps true := by kernel_rfl
theorem cpOps_size : cpOps.size = 15 := by kernel_rfl
theorem cpop_at {k : Nat} {x : Op} {d : Option Nat} (h : (cpOps[k]?).map (fun o => (o.guard.isNone, o.op, o.dst)) = some (true, x, d)) : ∃ o, cpOps[k]? = some o ∧ o.guard = none ∧ o.op = x ∧ o.dst = d := by
  cases ho : cpOps[k]? with
  | none => rw [ho] at h; simp at h
  | some o =>
    rw [ho] at h
    simp only [Option.map_some, Option.some.injEq, Prod.mk.injEq] at h
    exact ⟨o, rfl, by simpa using h.1, h.2.1, h.2.2⟩
theorem getD_ne' {l : Array Bool} {i k : Nat} (h : i ≠ k) : (l.setIfInBounds i true).getD k false = l.getD k false := by
  by_cases hk : k < l.size
  · simp [Array.getD, hk, Array.getElem_setIfInBounds, h]
  · simp [Array.getD, hk]
theorem getD_eq' {l : Array Bool} {i : Nat} (h : i < l.size) : (l.setIfInBounds i true).getD i false = true := by
  simp [Array.getD, h]
/-- a table more has been made and appended: what is known of the world behind it -/
structure Packed (wl w9 : World) (base : Nat) (old v9 v1 v2 : Value) (n : Nat) (t : M.Table) (xs : List Value) : Prop where
  row : w9.ownsRow base 74 3 v9 (n + 1) (xs ++ [.int .i64 t.mask, v1, v2])
  same : ∀ g, g < wl.heap.size → old.ownBlock ≠ some g → w9.heap[g]? = wl.heap[g]?
  ids : w9.ownsRow base 3 1 v1 t.ids.length (t.ids.map (Value.int .i64))
  rows : w9.ownsRow base 27 8 v2 t.rows.length (t.rows.flatMap rowL)
  n1 : ∀ g, v1.ownBlock = some g → wl.heap.size ≤ g
  n2 : ∀ g, v2.ownBlock = some g → wl.heap.size ≤ g
  ne : ∀ g, v1.ownBlock = some g → v2.ownBlock ≠ some g
  at_ : v9.ownBlock = old.ownBlock ∨ ∃ g, v9.ownBlock = some g ∧ wl.heap.size ≤ g ∧ v1.ownBlock ≠ some g ∧ v2.ownBlock ≠ some g
  size : wl.heap.size ≤ w9.heap.size
theorem copied_pack {wl W3 w9 : World} {base : Nat} {old v9 v1 v2 : Value} {n : Nat} {t : M.Table} {xs : List Value} (hK : Below wl.heap.size wl W3) (hb : base ≤ wl.heap.size)
    (h1 : W3.ownsRow wl.heap.size 3 1 v1 (0 + t.ids.length) ([] ++ t.ids.map (Value.int .i64))) (h2 : W3.ownsRow wl.heap.size 27 8 v2 (0 + t.rows.length) ([] ++ t.rows.flatMap rowL))
    (hold : ∀ g, old.ownBlock = some g → g < wl.heap.size) (hne : ∀ g, v1.ownBlock = some g → v2.ownBlock ≠ some g)
    (h9 : w9.ownsRow base 74 3 v9 (n + 1) (xs ++ [.int .i64 t.mask, v1, v2])) (hg : W3.grownBy w9 old.ownBlock) (hat : v9.ownBlock = old.ownBlock ∨ v9.ownBlock = some W3.heap.size) : Packed wl w9 base old v9 v1 v2 n t xs := by
  rw [Nat.zero_add, List.nil_append] at h1 h2
  have same9 : ∀ g, g < W3.heap.size → old.ownBlock ≠ some g → w9.heap[g]? = W3.heap[g]? := fun g h1 h2 => hg.block g h1 (fun e => h2 e.symm)
  have hz := hK.size
  refine ⟨h9, fun g a b => (same9 g (by omega) b).trans (hK.block g a), ?_, ?_, fun g e => (h1.lt g e).1, fun g e => (h2.lt g e).1, hne, ?_, ?_⟩
  · exact own_mono (own_same h1 (fun g e => same9 g (h1.lt g e).2 (fun e' => by have := hold g e'; have := (h1.lt g e).1; omega))) hb
  · exact own_mono (own_same h2 (fun g e => same9 g (h2.lt g e).2 (fun e' => by have := hold g e'; have := (h2.lt g e).1; omega))) hb
  · rcases hat with k | k
    · exact .inl k
    · refine .inr ⟨_, k, by omega, fun e => ?_, fun e => ?_⟩
      · have := (h1.lt _ e).2; omega
      · have := (h2.lt _ e).2; omega
  · have := hg.size
    omega
structure CG where
  v6 : Value
  v9 : Value
  b11 : Nat
  v12 : Value
structure CC where
  wl : World
  a0 : Act
  base : Nat
  bx : Nat
  tb : Nat
  lo : Nat
  t : M.Table
  s1 : Value
  s2 : Value
  old : Value
  next : Int
  n : Nat
  xs : List Value
def CC.val (c : CC) (g : CG) (k : Nat) : Value :=
  if k = 0 ∨ k = 13 then .pointer (some ⟨c.bx, 0, none⟩) else if k = 1 then c.old
  else if k = 2 then .pointer (some ⟨c.tb, 0, none⟩) else if k = 3 then .int .i64 c.t.mask
  else if k = 4 then .pointer (some ⟨c.tb, 1, none⟩) else if k = 5 then c.s1 else if k = 6 then g.v6
  else if k = 7 then .pointer (some ⟨c.tb, 2, none⟩) else if k = 8 then c.s2 else if k = 9 then g.v9
  else if k = 10 then .agg #[.int .i64 c.t.mask, g.v6, g.v9] else if k = 11 then .slice (some ⟨g.b11, 0, none⟩) 1 1 else g.v12
structure CC.Ok (c : CC) : Prop where
  box : Blk c.wl c.bx 39 #[c.old, .int .i64 c.next]
  tbox : Blk c.wl c.tb 74 #[.int .i64 c.t.mask, c.s1, c.s2]
  ids : IntsAt c.wl c.lo c.s1 c.t.ids
  rows : RowsAt c.wl c.lo c.s2 c.t.rows
  own : c.wl.ownsRow c.base 74 3 c.old c.n c.xs
  base : c.base ≤ c.wl.heap.size
  nb : ∀ g, c.old.ownBlock = some g → g ≠ c.bx
  z1 : c.t.ids.length * 8 ≤ 140737488351232
  z2 : c.t.rows.length * 64 ≤ 140737488351232
  z3 : (c.n + 1) * 56 ≤ 140737488351232
  lb : c.bx < c.base
  p3 : c.a0.eval (.tmp 3) = .pointer (some ⟨c.bx, 0, none⟩)
  p5 : c.a0.eval (.tmp 5) = .pointer (some ⟨c.tb, 0, none⟩)
/-- before the table is appended -/
structure CC.FA (c : CC) (g : CG) (l : Array Bool) (W : World) : Prop where
  below : Below c.wl.heap.size c.wl W
  ids : l.getD 6 false = true → W.ownsRow c.wl.heap.size 3 1 g.v6 (0 + c.t.ids.length) ([] ++ c.t.ids.map (Value.int .i64))
  rows : l.getD 9 false = true → W.ownsRow c.wl.heap.size 27 8 g.v9 (0 + c.t.rows.length) ([] ++ c.t.rows.flatMap rowL)
  ne : l.getD 6 false = true → l.getD 9 false = true → ∀ x, g.v6.ownBlock = some x → g.v9.ownBlock ≠ some x
  blk : l.getD 11 false = true → Blk W g.b11 74 #[.int .i64 c.t.mask, g.v6, g.v9]
/-- behind it -/
def CC.FB (c : CC) (g : CG) (W : World) : Prop := Packed c.wl W c.base c.old g.v12 g.v6 g.v9 c.n c.t c.xs ∧ Below c.base c.wl W
def CC.Stage (c : CC) (g : CG) (l : Array Bool) (W : World) : Prop :=
  (l.getD 12 false = false ∧ l.getD 14 false = false ∧ c.FA g l W) ∨ (l.getD 12 false = true ∧ l.getD 14 false = false ∧ c.FB g W) ∨
  (l.getD 12 false = true ∧ l.getD 14 false = true ∧ ∃ W1, c.FB g W1 ∧ W = W1.setCell ⟨c.bx, 0, none⟩ g.v12)
structure CC.Inv (c : CC) (l : Array Bool) (a : Act) (W : World) : Prop where
  size : l.size = 15
  len : a.tmps.size = 32
  defers : a.defers = []
  other : ∀ j : Nat, (j < 16 ∨ 30 ≤ j) → a.eval (.tmp j) = c.a0.eval (.tmp j)
  closed : ∀ k j, waits .any cpOps k j = true → l.getD k false = true → l.getD j false = true
  ghost : ∃ g : CG, (∀ k, k < 14 → l.getD k false = true → a.eval (.tmp (16 + k)) = c.val g k) ∧ c.Stage g l W
section
variable {c : CC} {l : Array Bool} {a : Act} {W : World}
theorem cp_slots {g g' : CG} {k : Nat} {v : Value} (hs : ∀ k, k < 14 → l.getD k false = true → a.eval (.tmp (16 + k)) = c.val g k) (hlen : a.tmps.size = 32) (hk : k < 14)
    (hv : c.val g' k = v) (he : ∀ j, j ≠ k → l.getD j false = true → c.val g' j = c.val g j) :
    ∀ j, j < 14 → (l.setIfInBounds k true).getD j false = true → (a.put (some (16 + k)) v).eval (.tmp (16 + j)) = c.val g' j := by
  intro j hj hl
  by_cases e : k = j
  · subst e
    rw [put_same (by omega), hv]
  · rw [getD_ne' e] at hl
    rw [put_other (by omega), he j (fun h => e h.symm) hl]
    exact hs j hj hl
theorem cp_closed {k : Nat} (h : ∀ k j, waits .any cpOps k j = true → l.getD k false = true → l.getD j false = true) (hi : k ∈ Region.ready .any cpOps l) :
    ∀ k' j, waits .any cpOps k' j = true → (l.setIfInBounds k true).getD k' false = true → (l.setIfInBounds k true).getD j false = true := by
  intro k' j hw hl
  rcases set_getD hl with rfl | hl
  · exact getD_set (ready_dep hi j hw)
  · exact getD_set (h k' j hw hl)
theorem CC.Inv.frame {k : Nat} {v : Value} {W' : World} (h : c.Inv l a W) (hi : k ∈ Region.ready .any cpOps l) (hk : k < 14)
    (hgh : ∃ g : CG, (∀ j, j < 14 → (l.setIfInBounds k true).getD j false = true → (a.put (some (16 + k)) v).eval (.tmp (16 + j)) = c.val g j) ∧ c.Stage g (l.setIfInBounds k true) W') : c.Inv (l.setIfInBounds k true) (a.put (some (16 + k)) v) W' := by
  refine ⟨by simp [h.size], by simp [Act.put, h.len], h.defers, fun j hj => ?_, cp_closed h.closed hi, hgh⟩
  rw [put_other (by omega)]
  exact h.other j hj
/-- a step that touches no world -/
theorem CC.Stage.pure {g : CG} {k : Nat} (h : c.Stage g l W) (hn : k ≠ 6 ∧ k ≠ 9 ∧ k ≠ 11 ∧ k ≠ 12 ∧ k ≠ 14) : c.Stage g (l.setIfInBounds k true) W := by
  unfold CC.Stage at h ⊢
  rw [getD_ne' hn.2.2.2.1, getD_ne' hn.2.2.2.2]
  rcases h with ⟨h1, h2, hA⟩ | h | h
  · refine .inl ⟨h1, h2, hA.below, ?_, ?_, ?_, ?_⟩
    · rw [getD_ne' hn.1]; exact hA.ids
    · rw [getD_ne' hn.2.1]; exact hA.rows
    · rw [getD_ne' hn.1, getD_ne' hn.2.1]; exact hA.ne
    · rw [getD_ne' hn.2.2.1]; exact hA.blk
  · exact .inr (.inl h)
  · exact .inr (.inr h)
theorem CC.Inv.pure {k : Nat} {v : Value} (h : c.Inv l a W) (hi : k ∈ Region.ready .any cpOps l) (hk : k < 14) (hn : k ≠ 6 ∧ k ≠ 9 ∧ k ≠ 11 ∧ k ≠ 12) (hv : ∀ g, (∀ j, j < 14 → l.getD j false = true → a.eval (.tmp (16 + j)) = c.val g j) → c.val g k = v) : c.Inv (l.setIfInBounds k true) (a.put (some (16 + k)) v) W := by
  obtain ⟨g, hs, hW⟩ := h.ghost
  exact h.frame hi hk ⟨g, cp_slots hs h.len hk (hv g hs) (fun _ _ _ => rfl), hW.pure ⟨hn.1, hn.2.1, hn.2.2.1, hn.2.2.2, by omega⟩⟩
/-- before operation k of 6, 9, 11, 12, .. the world is the first one's -/
theorem CC.Stage.early {g : CG} (h : c.Stage g l W) {k : Nat} (hl : l.getD k true = false) (hk : ∀ l : Array Bool, (∀ k j, waits .any cpOps k j = true → l.getD k false = true → l.getD j false = true) → l.getD 12 false = true → l.getD k false = true)
    (hc : ∀ k j, waits .any cpOps k j = true → l.getD k false = true → l.getD j false = true) : c.FA g l W ∧ l.getD 12 false = false ∧ l.getD 14 false = false := by
  have hf := (getD_two hl).2
  rcases h with ⟨h1, h2, hA⟩ | ⟨h1, _⟩ | ⟨h1, _⟩
  · exact ⟨hA, h1, h2⟩
  · rw [hk l hc h1] at hf; cases hf
  · rw [hk l hc h1] at hf; cases hf
end
/-! the operations, by kind -/
theorem cp_fieldS {o : Oper} {a : Act} {w : World} {K : Act → World → Prop} {Q : Exit → Act → World → Prop} {x : Operand} {b : Nat} (ho : o.op = .fieldAddr 39 x 0) (hx : a.eval x = .pointer (some ⟨b, 0, none⟩))
    (hk : K (a.put o.dst (.pointer (some ⟨b, 0, none⟩))) w) : o.wp Tryz.prog a w K Q := by
  unfold Oper.wp execOp
  simp only [ho, hx]
  go_simp
  exact hk
theorem cp_field0 {o : Oper} {a : Act} {w : World} {K : Act → World → Prop} {Q : Exit → Act → World → Prop} {x : Operand} {b : Nat} (ho : o.op = .fieldAddr 74 x 0) (hx : a.eval x = .pointer (some ⟨b, 0, none⟩))
    (hk : K (a.put o.dst (.pointer (some ⟨b, 0, none⟩))) w) : o.wp Tryz.prog a w K Q := by
  unfold Oper.wp execOp
  simp only [ho, hx]
  go_simp
  exact hk
theorem cp_field1 {o : Oper} {a : Act} {w : World} {K : Act → World → Prop} {Q : Exit → Act → World → Prop} {x : Operand} {b : Nat} (ho : o.op = .fieldAddr 74 x 1) (hx : a.eval x = .pointer (some ⟨b, 0, none⟩))
    (hk : K (a.put o.dst (.pointer (some ⟨b, 1, none⟩))) w) : o.wp Tryz.prog a w K Q := by
  unfold Oper.wp execOp
  simp only [ho, hx]
  go_simp
  exact hk
theorem cp_field2 {o : Oper} {a : Act} {w : World} {K : Act → World → Prop} {Q : Exit → Act → World → Prop} {x : Operand} {b : Nat} (ho : o.op = .fieldAddr 74 x 2) (hx : a.eval x = .pointer (some ⟨b, 0, none⟩))
    (hk : K (a.put o.dst (.pointer (some ⟨b, 2, none⟩))) w) : o.wp Tryz.prog a w K Q := by
  unfold Oper.wp execOp
  simp only [ho, hx]
  go_simp
  exact hk
theorem cp_loadT {o : Oper} {a : Act} {w : World} {K : Act → World → Prop} {Q : Exit → Act → World → Prop} {x : Operand} {ad : Addr} {v : Value} (ho : o.op = .load 37 x) (hx : a.eval x = .pointer (some ad)) (hc : w.cell? ad = some v)
    (hk : K (a.put o.dst v) w) : o.wp Tryz.prog a w K Q := by
  unfold Oper.wp execOp
  simp only [ho, hx]
  go_simp
  exact hk
theorem cp_loadI {o : Oper} {a : Act} {w : World} {K : Act → World → Prop} {Q : Exit → Act → World → Prop} {x : Operand} {ad : Addr} {v : Value} (ho : o.op = .load 3 x) (hx : a.eval x = .pointer (some ad)) (hc : w.cell? ad = some v)
    (hk : K (a.put o.dst v) w) : o.wp Tryz.prog a w K Q := by
  unfold Oper.wp execOp
  simp only [ho, hx]
  go_simp
  exact hk
theorem cp_loadIs {o : Oper} {a : Act} {w : World} {K : Act → World → Prop} {Q : Exit → Act → World → Prop} {x : Operand} {ad : Addr} {v : Value} (ho : o.op = .load 33 x) (hx : a.eval x = .pointer (some ad)) (hc : w.cell? ad = some v)
    (hk : K (a.put o.dst v) w) : o.wp Tryz.prog a w K Q := by
  unfold Oper.wp execOp
  simp only [ho, hx]
  go_simp
  exact hk
theorem cp_loadRs {o : Oper} {a : Act} {w : World} {K : Act → World → Prop} {Q : Exit → Act → World → Prop} {x : Operand} {ad : Addr} {v : Value} (ho : o.op = .load 72 x) (hx : a.eval x = .pointer (some ad)) (hc : w.cell? ad = some v)
    (hk : K (a.put o.dst v) w) : o.wp Tryz.prog a w K Q := by
  unfold Oper.wp execOp
  simp only [ho, hx]
  go_simp
  exact hk

theorem cp_build {o : Oper} {a : Act} {w : World} {K : Act → World → Prop} {Q : Exit → Act → World → Prop} {m : Int} {v1 v2 : Value} {s1 s2 : Option Addr} {n1 n2 c1 c2 : Nat} (ho : o.op = .build 74 #[(0, .tmp 19), (1, .tmp 22), (2, .tmp 25)]) (h0 : a.eval (.tmp 19) = .int .i64 m) (h1 : a.eval (.tmp 22) = v1) (h2 : a.eval (.tmp 25) = v2)
    (e1 : v1 = .slice s1 n1 c1) (e2 : v2 = .slice s2 n2 c2) (hk : K (a.put o.dst (.agg #[.int .i64 m, v1, v2])) w) : o.wp Tryz.prog a w K Q := by
  subst e1 e2
  unfold Oper.wp execOp
  simp only [ho, List.map_toArray, List.map_cons, List.map_nil, h0, h1, h2]
  go_simp
  exact hk
theorem cp_buildSlice {o : Oper} {a : Act} {w : World} {K : Act → World → Prop} {Q : Exit → Act → World → Prop} {m : Int} {v1 v2 : Value} {s1 s2 : Option Addr} {n1 n2 c1 c2 : Nat} (ho : o.op = .buildSlice 37 1 #[(0, .tmp 26)]) (hx : a.eval (.tmp 26) = .agg #[.int .i64 m, v1, v2])
    (e1 : v1 = .slice s1 n1 c1) (e2 : v2 = .slice s2 n2 c2) (hk : K (a.put o.dst (.slice (some ⟨w.heap.size, 0, none⟩) 1 1)) (w.alloc (.cells #[.int .i64 m, v1, v2] 74))) : o.wp Tryz.prog a w K Q := by
  subst e1 e2
  unfold Oper.wp execOp
  simp only [ho, List.map_toArray, List.map_cons, List.map_nil, hx]
  go_simp
  exact hk
theorem cp_store {o : Oper} {a : Act} {w : World} {K : Act → World → Prop} {Q : Exit → Act → World → Prop} {p x : Operand} {ad : Addr} {u v : Value} {s : Option Addr} {n m : Nat} (ho : o.op = .store 37 p x) (hd : o.dst = none) (hp : a.eval p = .pointer (some ad)) (hx : a.eval x = v) (hv : v = .slice s n m)
    (hc : w.cell? ad = some u) (hf : w.frozen? ad = false) (hk : K a (w.setCell ad v)) : o.wp Tryz.prog a w K Q := by
  subst hv
  unfold Oper.wp execOp
  simp only [ho, hp, hx]
  go_simp
  exact hk
section
variable {c : CC} {l : Array Bool} {a : Act} {W : World} {Q : Exit → Act → World → Prop}
theorem cp0 (ok : c.Ok) (h : c.Inv l a W) (hi : 0 ∈ Region.ready .any cpOps l) : wpOp Tryz.prog cpOps Q 0 (c.Inv (l.setIfInBounds 0 true)) a W := by
  obtain ⟨o, ho, hg, hop, hd⟩ := cpop_at (k := 0) (x := .fieldAddr 39 (.tmp 3) 0) (d := some 16) (by kernel_rfl)
  have e := (h.other 3 (by omega)).trans ok.p3
  refine wpOp_run ho hg (cp_fieldS hop e ?_)
  rw [hd]
  exact h.pure (k := 0) hi (by omega) (by omega) (fun g _ => rfl)
theorem cp2 (ok : c.Ok) (h : c.Inv l a W) (hi : 2 ∈ Region.ready .any cpOps l) : wpOp Tryz.prog cpOps Q 2 (c.Inv (l.setIfInBounds 2 true)) a W := by
  obtain ⟨o, ho, hg, hop, hd⟩ := cpop_at (k := 2) (x := .fieldAddr 74 (.tmp 5) 0) (d := some 18) (by kernel_rfl)
  have e := (h.other 5 (by omega)).trans ok.p5
  refine wpOp_run ho hg (cp_field0 hop e ?_)
  rw [hd]
  exact h.pure (k := 2) hi (by omega) (by omega) (fun g _ => rfl)
theorem cp4 (ok : c.Ok) (h : c.Inv l a W) (hi : 4 ∈ Region.ready .any cpOps l) : wpOp Tryz.prog cpOps Q 4 (c.Inv (l.setIfInBounds 4 true)) a W := by
  obtain ⟨o, ho, hg, hop, hd⟩ := cpop_at (k := 4) (x := .fieldAddr 74 (.tmp 5) 1) (d := some 20) (by kernel_rfl)
  have e := (h.other 5 (by omega)).trans ok.p5
  refine wpOp_run ho hg (cp_field1 hop e ?_)
  rw [hd]
  exact h.pure (k := 4) hi (by omega) (by omega) (fun g _ => rfl)
theorem cp7 (ok : c.Ok) (h : c.Inv l a W) (hi : 7 ∈ Region.ready .any cpOps l) : wpOp Tryz.prog cpOps Q 7 (c.Inv (l.setIfInBounds 7 true)) a W := by
  obtain ⟨o, ho, hg, hop, hd⟩ := cpop_at (k := 7) (x := .fieldAddr 74 (.tmp 5) 2) (d := some 23) (by kernel_rfl)
  have e := (h.other 5 (by omega)).trans ok.p5
  refine wpOp_run ho hg (cp_field2 hop e ?_)
  rw [hd]
  exact h.pure (k := 7) hi (by omega) (by omega) (fun g _ => rfl)
theorem cp13 (ok : c.Ok) (h : c.Inv l a W) (hi : 13 ∈ Region.ready .any cpOps l) : wpOp Tryz.prog cpOps Q 13 (c.Inv (l.setIfInBounds 13 true)) a W := by
  obtain ⟨o, ho, hg, hop, hd⟩ := cpop_at (k := 13) (x := .fieldAddr 39 (.tmp 3) 0) (d := some 29) (by kernel_rfl)
  have e := (h.other 3 (by omega)).trans ok.p3
  refine wpOp_run ho hg (cp_fieldS hop e ?_)
  rw [hd]
  exact h.pure (k := 13) hi (by omega) (by omega) (fun g _ => rfl)
theorem cp1 (ok : c.Ok) (h : c.Inv l a W) (hi : 1 ∈ Region.ready .any cpOps l) : wpOp Tryz.prog cpOps Q 1 (c.Inv (l.setIfInBounds 1 true)) a W := by
  obtain ⟨o, ho, hg, hop, hd⟩ := cpop_at (k := 1) (x := .load 37 (.tmp 16)) (d := some 17) (by kernel_rfl)
  obtain ⟨g, hs, hW⟩ := h.ghost
  have e := hs 0 (by omega) (ready_dep hi 0 (by kernel_rfl))
  obtain ⟨hA, _, _⟩ := hW.early (k := 1) (ready_spec hi).1 (fun l hc h12 => (hc 12 1 (by kernel_rfl) h12)) h.closed
  have hc := (ok.box.below hA.below ok.box.lt).cell 0
  refine wpOp_run ho hg (cp_loadT hop e (v := c.old) hc ?_)
  rw [hd]
  exact h.pure (k := 1) hi (by omega) (by omega) (fun g _ => rfl)
theorem cp3 (ok : c.Ok) (h : c.Inv l a W) (hi : 3 ∈ Region.ready .any cpOps l) : wpOp Tryz.prog cpOps Q 3 (c.Inv (l.setIfInBounds 3 true)) a W := by
  obtain ⟨o, ho, hg, hop, hd⟩ := cpop_at (k := 3) (x := .load 3 (.tmp 18)) (d := some 19) (by kernel_rfl)
  obtain ⟨g, hs, hW⟩ := h.ghost
  have e := hs 2 (by omega) (ready_dep hi 2 (by kernel_rfl))
  obtain ⟨hA, _, _⟩ := hW.early (k := 3) (ready_spec hi).1 (fun l hc h12 => (hc 10 3 (by kernel_rfl) (hc 11 10 (by kernel_rfl) (hc 12 11 (by kernel_rfl) h12)))) h.closed
  have hc := (ok.tbox.below hA.below ok.tbox.lt).cell 0
  refine wpOp_run ho hg (cp_loadI hop e (v := .int .i64 c.t.mask) hc ?_)
  rw [hd]
  exact h.pure (k := 3) hi (by omega) (by omega) (fun g _ => rfl)
theorem cp5 (ok : c.Ok) (h : c.Inv l a W) (hi : 5 ∈ Region.ready .any cpOps l) : wpOp Tryz.prog cpOps Q 5 (c.Inv (l.setIfInBounds 5 true)) a W := by
  obtain ⟨o, ho, hg, hop, hd⟩ := cpop_at (k := 5) (x := .load 33 (.tmp 20)) (d := some 21) (by kernel_rfl)
  obtain ⟨g, hs, hW⟩ := h.ghost
  have e := hs 4 (by omega) (ready_dep hi 4 (by kernel_rfl))
  obtain ⟨hA, _, _⟩ := hW.early (k := 5) (ready_spec hi).1 (fun l hc h12 => (hc 6 5 (by kernel_rfl) (hc 10 6 (by kernel_rfl) (hc 11 10 (by kernel_rfl) (hc 12 11 (by kernel_rfl) h12))))) h.closed
  have hc := (ok.tbox.below hA.below ok.tbox.lt).cell 1
  refine wpOp_run ho hg (cp_loadIs hop e (v := c.s1) hc ?_)
  rw [hd]
  exact h.pure (k := 5) hi (by omega) (by omega) (fun g _ => rfl)
theorem cp8 (ok : c.Ok) (h : c.Inv l a W) (hi : 8 ∈ Region.ready .any cpOps l) : wpOp Tryz.prog cpOps Q 8 (c.Inv (l.setIfInBounds 8 true)) a W := by
  obtain ⟨o, ho, hg, hop, hd⟩ := cpop_at (k := 8) (x := .load 72 (.tmp 23)) (d := some 24) (by kernel_rfl)
  obtain ⟨g, hs, hW⟩ := h.ghost
  have e := hs 7 (by omega) (ready_dep hi 7 (by kernel_rfl))
  obtain ⟨hA, _, _⟩ := hW.early (k := 8) (ready_spec hi).1 (fun l hc h12 => (hc 9 8 (by kernel_rfl) (hc 10 9 (by kernel_rfl) (hc 11 10 (by kernel_rfl) (hc 12 11 (by kernel_rfl) h12))))) h.closed
  have hc := (ok.tbox.below hA.below ok.tbox.lt).cell 2
  refine wpOp_run ho hg (cp_loadRs hop e (v := c.s2) hc ?_)
  rw [hd]
  exact h.pure (k := 8) hi (by omega) (by omega) (fun g _ => rfl)
theorem cp6 (ok : c.Ok) (h : c.Inv l a W) (hi : 6 ∈ Region.ready .any cpOps l) : wpOp Tryz.prog cpOps Q 6 (c.Inv (l.setIfInBounds 6 true)) a W := by
  obtain ⟨o, ho, hg, hop, hd⟩ := cpop_at (k := 6) (x := .call { callee := .builtin .append, args := #[.const (.slice none 0 0), .tmp 21], argTypes := #[33, 33] }) (d := some 22) (by kernel_rfl)
  obtain ⟨g, hs, hW⟩ := h.ghost
  have e := hs 5 (by omega) (ready_dep hi 5 (by kernel_rfl))
  obtain ⟨hA, e12, e14⟩ := hW.early (k := 6) (ready_spec hi).1 (fun l hc h12 => (hc 10 6 (by kernel_rfl) (hc 11 10 (by kernel_rfl) (hc 12 11 (by kernel_rfl) h12)))) h.closed
  have lk := (getD_two (ready_spec hi).1).2
  obtain ⟨i1, hi1, hz10, hz11, hz12⟩ := info_parts infoInt
  have z1 := ok.z1
  have z2 := ok.z2
  have hz := hA.below.size
  refine wpOp_step ho fun K' hK => ?_
  refine step_append_own_lies hg (.const (.slice none 0 0)) (.tmp 21) 33 hop c.wl.heap.size 3 i1 _ 1 8 Tryz.underlying33 hi1 hz10 hz11 hz12 rfl (by decide) (.slice none 0 0) 0 [] (World.ownsRow_nil _ _ _ _) rfl
    _ c.lo c.t.ids.length _ (ok.ids.below hA.below) e (by intro u hu; obtain ⟨z, _, rfl⟩ := List.mem_map.1 hu; rfl) (by unfold maxLen; omega) (by omega) hz ?_
  intro v' w' hown hgrow hloc
  refine hK _ _ ?_
  rw [hd]
  have hnew := own_new hown hloc
  have hb : Below W.heap.size W w' := (Below.refl _ W).grown hgrow (Nat.le_refl _) (fun j hj => by cases hj)
  refine h.frame (k := 6) hi (by omega) ⟨{ g with v6 := v' }, cp_slots hs h.len (by omega) rfl (fun j hj hl => ?_), .inl ⟨?_, ?_, hA.below.trans (hb.mono hz), ?_, ?_, ?_, ?_⟩⟩
  · have h10 : j ≠ 10 := by
      rintro rfl
      have := h.closed 10 6 (by kernel_rfl) hl
      rw [lk] at this; cases this
    unfold CC.val
    simp only [hj, h10, if_false]
  · rw [getD_ne' (by omega)]; exact e12
  · rw [getD_ne' (by omega)]; exact e14
  · intro _; exact hown
  · rw [getD_ne' (by omega)]; intro hl; exact own_below (hA.rows hl) hb
  · rw [getD_ne' (i := 6) (k := 9) (by omega)]
    intro _ hl x e1 e2
    have := hnew x e1
    have := ((hA.rows hl).lt x e2).2
    omega
  · rw [getD_ne' (by omega)]
    intro hl
    have := h.closed 10 6 (by kernel_rfl) (h.closed 11 10 (by kernel_rfl) hl)
    rw [lk] at this; cases this
theorem cp9 (ok : c.Ok) (h : c.Inv l a W) (hi : 9 ∈ Region.ready .any cpOps l) : wpOp Tryz.prog cpOps Q 9 (c.Inv (l.setIfInBounds 9 true)) a W := by
  obtain ⟨o, ho, hg, hop, hd⟩ := cpop_at (k := 9) (x := .call { callee := .builtin .append, args := #[.const (.slice none 0 0), .tmp 24], argTypes := #[72, 72] }) (d := some 25) (by kernel_rfl)
  obtain ⟨g, hs, hW⟩ := h.ghost
  have e := hs 8 (by omega) (ready_dep hi 8 (by kernel_rfl))
  obtain ⟨hA, e12, e14⟩ := hW.early (k := 9) (ready_spec hi).1 (fun l hc h12 => (hc 10 9 (by kernel_rfl) (hc 11 10 (by kernel_rfl) (hc 12 11 (by kernel_rfl) h12)))) h.closed
  have lk := (getD_two (ready_spec hi).1).2
  obtain ⟨i1, hi1, hz10, hz11, hz12⟩ := info_parts infoRow
  have z1 := ok.z1
  have z2 := ok.z2
  have hz := hA.below.size
  refine wpOp_step ho fun K' hK => ?_
  refine step_append_own_lies hg (.const (.slice none 0 0)) (.tmp 24) 72 hop c.wl.heap.size 27 i1 _ 8 64 Tryz.underlying72 hi1 hz10 hz11 hz12 rfl (by decide) (.slice none 0 0) 0 [] (World.ownsRow_nil _ _ _ _) rfl
    _ c.lo c.t.rows.length _ (ok.rows.below hA.below) e (by intro u hu; obtain ⟨r, _, hr⟩ := List.mem_flatMap.1 hu; exact one_row r u hr) (by unfold maxLen; omega) (by omega) hz ?_
  intro v' w' hown hgrow hloc
  refine hK _ _ ?_
  rw [hd]
  have hnew := own_new hown hloc
  have hb : Below W.heap.size W w' := (Below.refl _ W).grown hgrow (Nat.le_refl _) (fun j hj => by cases hj)
  refine h.frame (k := 9) hi (by omega) ⟨{ g with v9 := v' }, cp_slots hs h.len (by omega) rfl (fun j hj hl => ?_), .inl ⟨?_, ?_, hA.below.trans (hb.mono hz), ?_, ?_, ?_, ?_⟩⟩
  · have h10 : j ≠ 10 := by
      rintro rfl
      have := h.closed 10 9 (by kernel_rfl) hl
      rw [lk] at this; cases this
    unfold CC.val
    simp only [hj, h10, if_false]
  · rw [getD_ne' (by omega)]; exact e12
  · rw [getD_ne' (by omega)]; exact e14
  · rw [getD_ne' (by omega)]; intro hl; exact own_below (hA.ids hl) hb
  · intro _; exact hown
  · rw [getD_ne' (i := 9) (k := 6) (by omega)]
    intro hl _ x e1 e2
    have := hnew x e2
    have := ((hA.ids hl).lt x e1).2
    omega
  · rw [getD_ne' (by omega)]
    intro hl
    have := h.closed 10 9 (by kernel_rfl) (h.closed 11 10 (by kernel_rfl) hl)
    rw [lk] at this; cases this
theorem cp10 (ok : c.Ok) (h : c.Inv l a W) (hi : 10 ∈ Region.ready .any cpOps l) : wpOp Tryz.prog cpOps Q 10 (c.Inv (l.setIfInBounds 10 true)) a W := by
  obtain ⟨o, ho, hg, hop, hd⟩ := cpop_at (k := 10) (x := .build 74 #[(0, .tmp 19), (1, .tmp 22), (2, .tmp 25)]) (d := some 26) (by kernel_rfl)
  obtain ⟨g, hs, hW⟩ := h.ghost
  have l3 := ready_dep hi 3 (by kernel_rfl)
  have l6 := ready_dep hi 6 (by kernel_rfl)
  have l9 := ready_dep hi 9 (by kernel_rfl)
  obtain ⟨hA, _, _⟩ := hW.early (k := 10) (ready_spec hi).1 (fun l hc h12 => (hc 11 10 (by kernel_rfl) (hc 12 11 (by kernel_rfl) h12))) h.closed
  obtain ⟨s1, c1, f1⟩ := own_form (hA.ids l6)
  obtain ⟨s2, c2, f2⟩ := own_form (hA.rows l9)
  refine wpOp_run ho hg (cp_build hop (hs 3 (by omega) l3) (hs 6 (by omega) l6) (hs 9 (by omega) l9) f1 f2 ?_)
  rw [hd]
  exact h.frame (k := 10) hi (by omega) ⟨g, cp_slots hs h.len (by omega) rfl (fun _ _ _ => rfl), hW.pure (by omega)⟩
theorem cp11 (ok : c.Ok) (h : c.Inv l a W) (hi : 11 ∈ Region.ready .any cpOps l) : wpOp Tryz.prog cpOps Q 11 (c.Inv (l.setIfInBounds 11 true)) a W := by
  obtain ⟨o, ho, hg, hop, hd⟩ := cpop_at (k := 11) (x := .buildSlice 37 1 #[(0, .tmp 26)]) (d := some 27) (by kernel_rfl)
  obtain ⟨g, hs, hW⟩ := h.ghost
  have l10 := ready_dep hi 10 (by kernel_rfl)
  have l6 := h.closed 10 6 (by kernel_rfl) l10
  have l9 := h.closed 10 9 (by kernel_rfl) l10
  obtain ⟨hA, e12, e14⟩ := hW.early (k := 11) (ready_spec hi).1 (fun l hc h12 => (hc 12 11 (by kernel_rfl) h12)) h.closed
  obtain ⟨s1, c1, f1⟩ := own_form (hA.ids l6)
  obtain ⟨s2, c2, f2⟩ := own_form (hA.rows l9)
  have hb : Below W.heap.size W (W.alloc (.cells #[.int .i64 c.t.mask, g.v6, g.v9] 74)) := (Below.refl _ W).alloc (Nat.le_refl _) _
  have hz := hA.below.size
  refine wpOp_run ho hg (cp_buildSlice hop (hs 10 (by omega) l10) f1 f2 ?_)
  rw [hd]
  refine h.frame (k := 11) hi (by omega) ⟨{ g with b11 := W.heap.size }, cp_slots hs h.len (by omega) rfl (fun j hj hl => by unfold CC.val; simp only [hj, if_false]), .inl ⟨?_, ?_, hA.below.trans (hb.mono hz), ?_, ?_, ?_, ?_⟩⟩
  · rw [getD_ne' (by omega)]; exact e12
  · rw [getD_ne' (by omega)]; exact e14
  · intro _; exact own_below (hA.ids l6) hb
  · intro _; exact own_below (hA.rows l9) hb
  · intro _ _; exact hA.ne l6 l9
  · intro _; exact Blk.new W _ _
theorem cp12 (ok : c.Ok) (h : c.Inv l a W) (hi : 12 ∈ Region.ready .any cpOps l) : wpOp Tryz.prog cpOps Q 12 (c.Inv (l.setIfInBounds 12 true)) a W := by
  obtain ⟨o, ho, hg, hop, hd⟩ := cpop_at (k := 12) (x := .call { callee := .builtin .append, args := #[.tmp 17, .tmp 27], argTypes := #[37, 37] }) (d := some 28) (by kernel_rfl)
  obtain ⟨g, hs, hW⟩ := h.ghost
  have l1 := ready_dep hi 1 (by kernel_rfl)
  have l11 := ready_dep hi 11 (by kernel_rfl)
  have l10 := h.closed 11 10 (by kernel_rfl) l11
  have l6 := h.closed 10 6 (by kernel_rfl) l10
  have l9 := h.closed 10 9 (by kernel_rfl) l10
  obtain ⟨hA, e12, e14⟩ := hW.early (k := 12) (ready_spec hi).1 (fun l hc h12 => h12) h.closed
  have e1 := hs 1 (by omega) l1
  have e11 := hs 11 (by omega) l11
  have hbk := hA.blk l11
  obtain ⟨i1, hi1, hz10, hz11, hz12⟩ := info_parts infoTable
  obtain ⟨s1, c1, f1⟩ := own_form (hA.ids l6)
  obtain ⟨s2, c2, f2⟩ := own_form (hA.rows l9)
  have z3 := ok.z3
  have hz := hA.below.size
  refine wpOp_step ho fun K' hK => ?_
  refine step_append_own_atK2 hg (.tmp 17) (.tmp 27) 37 hop c.base 74 i1 _ 3 56 Tryz.underlying37 hi1 hz10 hz11 hz12 rfl (by decide) c.old c.n c.xs (own_below ok.own hA.below) e1
    ⟨g.b11, 0, none⟩ 1 1 [.int .i64 c.t.mask, g.v6, g.v9] e11 rfl (by
      intro j u hu
      rw [Addr.add_lit, hbk.cell]
      match j, hu with
      | 0, hu => exact hu
      | 1, hu => exact hu
      | 2, hu => exact hu
      | j + 3, hu => simp at hu) (by
      intro u hu
      simp only [List.mem_cons, List.not_mem_nil, or_false] at hu
      rcases hu with rfl | rfl | rfl
      · rfl
      · rw [f1]; rfl
      · rw [f2]; rfl) (by unfold maxLen; omega) (by omega) (Nat.le_trans ok.base hz) ?_
  intro v' w' hown hgrow hloc
  refine hK _ _ ?_
  rw [hd]
  have hold : ∀ g, c.old.ownBlock = some g → g < c.wl.heap.size := fun g e => (ok.own.lt g e).2
  refine h.frame (k := 12) hi (by omega) ⟨{ g with v12 := v' }, cp_slots hs h.len (by omega) rfl (fun j hj hl => ?_), .inr (.inl ⟨getD_eq' (by have := h.size; omega), ?_, ?_, ?_⟩)⟩
  · have hjl : j < 15 := by
      have h1 := h.size
      by_cases hjs : j < l.size
      · omega
      · simp [Array.getD, hjs] at hl
    have h14 : j ≠ 14 := by
      rintro rfl
      rw [e14] at hl; cases hl
    rcases (by omega : j = 0 ∨ j = 1 ∨ j = 2 ∨ j = 3 ∨ j = 4 ∨ j = 5 ∨ j = 6 ∨ j = 7 ∨ j = 8 ∨ j = 9 ∨ j = 10 ∨ j = 11 ∨ j = 13) with rfl | rfl | rfl | rfl | rfl | rfl | rfl | rfl | rfl | rfl | rfl | rfl | rfl <;> rfl
  · rw [getD_ne' (by omega)]; exact e14
  · exact copied_pack hA.below ok.base (hA.ids l6) (hA.rows l9) hold (hA.ne l6 l9) hown hgrow hloc
  · exact (hA.below.mono ok.base).grown hgrow (Nat.le_trans ok.base hz) (fun k hk => (ok.own.lt k hk).1)
theorem cp14 (ok : c.Ok) (h : c.Inv l a W) (hi : 14 ∈ Region.ready .any cpOps l) : wpOp Tryz.prog cpOps Q 14 (c.Inv (l.setIfInBounds 14 true)) a W := by
  obtain ⟨o, ho, hg, hop, hd⟩ := cpop_at (k := 14) (x := .store 37 (.tmp 29) (.tmp 28)) (d := none) (by kernel_rfl)
  obtain ⟨g, hs, hW⟩ := h.ghost
  have l12 := ready_dep hi 12 (by kernel_rfl)
  have l13 := ready_dep hi 13 (by kernel_rfl)
  have l14 := (getD_two (ready_spec hi).1).2
  have e13 := hs 13 (by omega) l13
  have e12 := hs 12 (by omega) l12
  have hB : c.FB g W := by
    rcases hW with ⟨k1, _⟩ | ⟨_, _, k⟩ | ⟨_, k1, _⟩
    · rw [l12] at k1; cases k1
    · exact k
    · rw [l14] at k1; cases k1
  obtain ⟨s, cc, hv⟩ := own_form hB.1.row
  have hbx : Blk W c.bx 39 #[c.old, .int .i64 c.next] := (hB.1.same c.bx (by have := ok.lb; have := ok.base; omega) (fun e => ok.nb _ e rfl)).trans ok.box
  refine wpOp_run ho hg (cp_store hop hd e13 e12 hv (hbx.cell 0) (hbx.free 0) ?_)
  refine ⟨by simp [h.size], h.len, h.defers, h.other, cp_closed h.closed hi, g, fun k hk hl => hs k hk (by rwa [getD_ne' (by omega)] at hl), .inr (.inr ⟨?_, getD_eq' (by have := h.size; omega), W, hB, rfl⟩)⟩
  rw [getD_ne' (by omega)]; exact l12
theorem cp_op (ok : c.Ok) {k : Nat} (h : c.Inv l a W) (hi : k ∈ Region.ready .any cpOps l) : wpOp Tryz.prog cpOps Q k (c.Inv (l.setIfInBounds k true)) a W := by
  have hk : k < 15 := cpOps_size ▸ (ready_spec hi).2.1
  rcases (by omega : k = 0 ∨ k = 1 ∨ k = 2 ∨ k = 3 ∨ k = 4 ∨ k = 5 ∨ k = 6 ∨ k = 7 ∨ k = 8 ∨ k = 9 ∨ k = 10 ∨ k = 11 ∨ k = 12 ∨ k = 13 ∨ k = 14) with rfl | rfl | rfl | rfl | rfl | rfl | rfl | rfl | rfl | rfl | rfl | rfl | rfl | rfl | rfl
  · exact cp0 ok h hi
  · exact cp1 ok h hi
  · exact cp2 ok h hi
  · exact cp3 ok h hi
  · exact cp4 ok h hi
  · exact cp5 ok h hi
  · exact cp6 ok h hi
  · exact cp7 ok h hi
  · exact cp8 ok h hi
  · exact cp9 ok h hi
  · exact cp10 ok h hi
  · exact cp11 ok h hi
  · exact cp12 ok h hi
  · exact cp13 ok h hi
  · exact cp14 ok h hi
theorem cp_ordered : ((List.range 15).all fun i => ((cpOps[i]?).map fun o => o.after.toList.all fun e => !Region.binds .any e || decide (e.on < i)).getD true) = true := by kernel_rfl
/-- the whole statement -/
theorem cp_region (ok : c.Ok) (h : c.Inv (Array.replicate 15 false) a W) (hQ : ∀ (a' : Act) (g : CG) (W1 : World), a'.defers = [] → a'.tmps.size = 32 → (∀ j : Nat, (j < 16 ∨ 30 ≤ j) → a'.eval (.tmp j) = c.a0.eval (.tmp j)) → c.FB g W1 → Q .normal a' (W1.setCell ⟨c.bx, 0, none⟩ g.v12)) :
    wpAny Tryz.prog .any cpOps Q 15 (Array.replicate 15 false) a W := by
  refine wpAny_inv c.Inv ?_ (fun d a w i h hi => cp_op ok h hi) 15 _ _ _ (by unfold Undone; simp) h
  intro d a w h hr
  have all := all_done hr (by rw [h.size, cpOps_size]) (by
    intro i hi o ho e he hb
    have h1 := List.all_eq_true.1 cp_ordered i (List.mem_range.2 (cpOps_size ▸ hi))
    rw [ho] at h1
    simp only [Option.map_some, Option.getD_some] at h1
    have h2 := List.all_eq_true.1 h1 e he
    simpa [hb] using h2)
  rw [cpOps_size] at all
  obtain ⟨g, hs, hW⟩ := h.ghost
  rcases hW with ⟨h1, _⟩ | ⟨_, h1, _⟩ | ⟨_, _, W1, hB, rfl⟩
  · rw [all 12 (by omega)] at h1; cases h1
  · rw [all 14 (by omega)] at h1; cases h1
  · exact hQ a g W1 h.defers h.len h.other hB
end
end Go.Proofs.YtkpecagkpjabdabGreat
/- The contract of the statements' own copied: a store in memory of its own. Condition: the store lies in memory, its lists are no longer than memory allows. -/
namespace Go.Proofs.YtkpecagkpjabdabGreat
open Go.RowKit
set_option linter.unusedVariables false
set_option linter.unusedSimpArgs false
set_option maxRecDepth 100000
theorem store2_blk {U : World} {b : Nat} {z0 z1 : Value} (h : Blk U b 39 #[z0, z1]) (c0 c1 : Value) :
    ((U.setCell ⟨b, 0, none⟩ c0).setCell ⟨b, 1, none⟩ c1).heap[b]? = some (.cells #[c0, c1] 39 (0, 0)) := blk_to ((h.put 0 c0).put 1 c1) (by rfl)
theorem frame32 {tm : Array Value} (h : tm.size = 32) : ∃ u0 u1 u2 u3 u4 u5 u6 u7 u8 u9 u10 u11 u12 u13 u14 u15 u16 u17 u18 u19 u20 u21 u22 u23 u24 u25 u26 u27 u28 u29 u30 u31, tm = #[u0, u1, u2, u3, u4, u5, u6, u7, u8, u9, u10, u11, u12, u13, u14, u15, u16, u17, u18, u19, u20, u21, u22, u23, u24, u25, u26, u27, u28, u29, u30, u31] := by
  obtain ⟨l⟩ := tm
  match l, h with
  | [u0, u1, u2, u3, u4, u5, u6, u7, u8, u9, u10, u11, u12, u13, u14, u15, u16, u17, u18, u19, u20, u21, u22, u23, u24, u25, u26, u27, u28, u29, u30, u31], _ => exact ⟨u0, u1, u2, u3, u4, u5, u6, u7, u8, u9, u10, u11, u12, u13, u14, u15, u16, u17, u18, u19, u20, u21, u22, u23, u24, u25, u26, u27, u28, u29, u30, u31, rfl⟩
theorem wp_frame {P : Program} {c : Code} {Q : Exit → Act → World → Prop} {a : Act} {w : World} (h : ∀ A, A = a → c.wp P Q A w) : c.wp P Q a w := h a rfl
set_option maxHeartbeats 8000000 in
set_option maxRecDepth 100000 in
theorem lcopied_calls {w : World} {lo : Nat} {v : Value} {s : M.Store} (h : StoreAt w lo v s) (hs : Sized s) :
    Calls Tryz.prog 18 #[v] w fun e w' => ∃ a' c' hs', e = .returned (.agg #[.slice a' s.tables.length c', .int .i64 s.next]) ∧ OwnTabs w' w.heap.size (.slice a' s.tables.length c') s.tables hs' ∧ Below w.heap.size w w' := by
  obtain ⟨vt0, rfl, hs0, hT⟩ := h
  obtain ⟨a, c, rfl⟩ := hT.val
  have hmx : s.tables.length ≤ 9223372036854775807 := by have := hT.max; unfold maxLen at this; omega
  have hfew : s.tables.length * 56 ≤ 140737488351232 := hs.1
  have HT := Lib.hid hT
  have HSH := Lib.hid hs
  obtain ⟨i0, hi, hz0, hz1, hz2⟩ := info_parts infoTable
  have HI := Lib.hid (And.intro hi (And.intro hz0 (And.intro hz1 hz2)))
  obtain ⟨i1, hi1, hz10, hz11, hz12⟩ := info_parts infoInt
  have HI1 := Lib.hid (And.intro hi1 (And.intro hz10 (And.intro hz11 hz12)))
  obtain ⟨i2, hi2, hz20, hz21, hz22⟩ := info_parts infoRow
  have HI2 := Lib.hid (And.intro hi2 (And.intro hz20 (And.intro hz21 hz22)))
  clear hT hs hi hz0 hz1 hz2 hi1 hz10 hz11 hz12 hi2 hz20 hz21 hz22
  go_enter Tryz.func18, Tryz.ntmps18
  go_wp2_with fail
  refine wp_called (fun ws hws => ?_)
  have KS : Below w.heap.size w ws := by rw [hws]; exact bel9
  have hzs : ws.heap.size = w.heap.size + 3 := by rw [hws]; simp [World.setCell]
  have B0 : Blk ws (w.heap.size + 2) 39 #[.slice none 0 0, .int .i64 s.next] := by
    rw [hws]
    apply blk_to
    · exact Blk.new_at (by simp)
    · rfl
  have B1 : Blk ws (w.heap.size + 1) 39 #[.slice none 0 0, .int .i64 0] := by
    rw [hws]
    apply blk_to
    · exact (Blk.new_at (by simp)).alloc _
    · rfl
  clear hws
  go_loopg [12] s.tables.length (fun gh i wr => ∃ (n : Nat) (hs' : List (Value × Value)) (a' : Option Addr) (c' : Nat), n ≤ s.tables.length ∧ i = .int .i64 n ∧ gh = s.tables.length - n ∧ OwnTabs wr (w.heap.size + 3) (.slice a' n c') (s.tables.take n) hs' ∧ Blk wr (w.heap.size + 2) 39 #[.slice a' n c', .int .i64 s.next] ∧ Blk wr (w.heap.size + 1) 39 #[.slice none 0 0, .int .i64 0] ∧ Below w.heap.size w wr)
  case atStart => exact ⟨0, [], none, 0, Nat.zero_le _, rfl, rfl, OwnTabs.nil _ _, B0, B1, KS⟩
  case round =>
    obtain ⟨wo, hwo⟩ : ∃ wo, wo = wr := ⟨_, rfl⟩
    subst hwo
    obtain ⟨n, hs', a', c', hn, rfl, hgk, hown, hb0, hb1, hbl⟩ := hrel
    have HG := Lib.hid hgk
    have HO := Lib.hid hown
    have HB0 := Lib.hid hb0
    have HB1 := Lib.hid hb1
    have HB := Lib.hid hbl
    have l0 := hb0.lt
    have l1 := hb1.lt
    clear hgk hown hb0 hb1 hbl KS B0 B1
    rcases Nat.lt_or_ge n s.tables.length with hlt | hge
    · obtain ⟨t, ht⟩ : ∃ t, s.tables[n]? = some t := ⟨_, List.getElem?_eq_getElem hlt⟩
      obtain ⟨b, o, cap', a1, cp1, a2, cp2, e, hlo, hp, c0, c1, c2, h1, h2⟩ := (HT.out.below HB.out).at2 ht
      obtain ⟨rfl, rfl⟩ : a = some ⟨b, o, none⟩ ∧ c = cap' := by simpa using e
      obtain ⟨sz1, sz2⟩ := HSH.out.2 t (List.mem_of_getElem? ht)
      have hm1 : t.ids.length ≤ 9223372036854775807 := by omega
      have hm2 : t.rows.length ≤ 9223372036854775807 := by omega
      have HHT := Lib.hid ht
      have HH1 := Lib.hid h1
      have HH2 := Lib.hid h2
      clear e hlo hp h1 h2 ht
      go_upto_region 5 with fail
      refine wp_called (fun wl hwl => ?_)
      have BT : Blk wl wo.heap.size 74 #[.int .i64 t.mask, .slice a1 t.ids.length cp1, .slice a2 t.rows.length cp2] := by rw [hwl]; exact Blk.new_at rfl
      have HBT := Lib.hid BT
      have KL : Below wo.heap.size wo wl := by rw [hwl]; exact bel9
      have HKL := Lib.hid KL
      have kl := KL.size
      have HI0 := Lib.hid (HH1.out.below KL)
      have HR0 := Lib.hid (HH2.out.below KL)
      have HB03 := Lib.hid (HB0.out.below KL HB0.out.lt)
      have HB13 := Lib.hid (HB1.out.below KL HB1.out.lt)
      have HO3 := Lib.hid (HO.out.same (Nat.le_refl _) (fun g _ h2 => KL.block g h2))
      have HOB : Hid (∀ g, (Value.slice a' n c').ownBlock = some g → w.heap.size + 3 ≤ g ∧ g < wo.heap.size) := Lib.hid (fun g e => HO.out.row.lt g e)
      have htl : (s.tables.take n).length = n := by rw [List.length_take]; omega
      have HTL := Lib.hid htl
      have HROW : Hid (wl.ownsRow (w.heap.size + 3) 74 3 (.slice a' n c') n (tabL (s.tables.take n) hs')) := Lib.hid (by
        have := HO3.out.row
        rw [htl] at this
        exact this)
      clear hwl KL BT htl c0 c1 c2
      refine wp_frame (fun A hA => ?_)
      show Code.wp Tryz.prog cpC _ _ _
      rw [cpC_is]
      refine wp_region_any (by kernel_rfl) ?_
      rw [cpOps_size]
      have z : ∀ k, (Array.replicate 15 false).getD k false = false := fun k => by
        by_cases hk : k < 15 <;> simp [Array.getD, hk]
      have no : ∀ {b : Bool} (q : Prop), b = false → b = true → q := fun q h1 h2 => by rw [h1] at h2; cases h2
      refine cp_region (c := ⟨wl, A, w.heap.size + 3, w.heap.size + 2, wo.heap.size, lo, t, .slice a1 t.ids.length cp1, .slice a2 t.rows.length cp2, .slice a' n c', s.next, n, tabL (s.tables.take n) hs'⟩)
        ⟨HB03.out, HBT.out, HI0.out, HR0.out, HROW.out, by show w.heap.size + 3 ≤ wl.heap.size; have := HB.out.size; omega, (fun g e => by have := HOB.out g e; show g ≠ w.heap.size + 2; omega), sz1, sz2, (by show (n + 1) * 56 ≤ 140737488351232; omega), (by show w.heap.size + 2 < w.heap.size + 3; omega), by rw [hA]; rfl, by rw [hA]; rfl⟩
        ⟨by simp, by rw [hA]; rfl, by rw [hA], (fun _ _ => rfl), (fun k j _ hl => no _ (z k) hl), ⟨undef, undef, 0, undef⟩, (fun k _ hl => no _ (z k) hl), .inl ⟨z 12, z 14, (Below.refl _ _).drew, (fun hl => no _ (z 6) hl), (fun hl => no _ (z 9) hl), (fun hl => no _ (z 6) hl), (fun hl => no _ (z 11) hl)⟩⟩ ?_
      intro A' g W1 hd hlen hoth hFB
      obtain ⟨tm, df⟩ := A'
      simp only at hd hlen
      subst hd
      obtain ⟨u0, u1, u2, u3, u4, u5, u6, u7, u8, u9, u10, u11, u12, u13, u14, u15, u16, u17, u18, u19, u20, u21, u22, u23, u24, u25, u26, u27, u28, u29, u30, u31, rfl⟩ := frame32 hlen
      have p0 : u0 = .agg #[.slice (some ⟨b, o, none⟩) s.tables.length c, .int .i64 s.next] := (hoth 0 (by omega)).trans (by rw [hA]; rfl)
      have p1 : u1 = .pointer (some ⟨w.heap.size, 0, none⟩) := (hoth 1 (by omega)).trans (by rw [hA]; rfl)
      have p2 : u2 = .pointer (some ⟨w.heap.size + 1, 0, none⟩) := (hoth 2 (by omega)).trans (by rw [hA]; rfl)
      have p3 : u3 = .pointer (some ⟨w.heap.size + 1 + 1, 0, none⟩) := (hoth 3 (by omega)).trans (by rw [hA]; rfl)
      have p4 : u4 = undef := (hoth 4 (by omega)).trans (by rw [hA]; rfl)
      have p6 : u6 = .pointer (some ⟨w.heap.size, 1, none⟩) := (hoth 6 (by omega)).trans (by rw [hA]; rfl)
      have p7 : u7 = .int .i64 s.next := (hoth 7 (by omega)).trans (by rw [hA]; rfl)
      have p8 : u8 = .agg #[.slice none 0 0, .int .i64 s.next] := (hoth 8 (by omega)).trans (by rw [hA]; rfl)
      have p9 : u9 = .pointer (some ⟨w.heap.size, 0, none⟩) := (hoth 9 (by omega)).trans (by rw [hA]; rfl)
      have p10 : u10 = .slice (some ⟨b, o, none⟩) s.tables.length c := (hoth 10 (by omega)).trans (by rw [hA]; rfl)
      have p11 : u11 = .int .i64 (s.tables.length : Nat) := (hoth 11 (by omega)).trans (by rw [hA]; rfl)
      have p12 : u12 = .int .i64 (n : Nat) := (hoth 12 (by omega)).trans (by rw [hA]; rfl)
      have p31 : u31 = undef := (hoth 31 (by omega)).trans (by rw [hA]; rfl)
      clear hoth hlen z no hA
      subst p0 p1 p2 p3 p4 p6 p7 p8 p9 p10 p11 p12 p31
      obtain ⟨hPK, hBW⟩ := hFB
      simp only at hPK hBW
      obtain ⟨a9, c9, e9⟩ := own_form hPK.row
      have HPK := Lib.hid hPK
      have HBW := Lib.hid hBW
      have HE9 := Lib.hid e9
      clear hPK hBW e9
      go_wp2_with fail
      go_roundg (s.tables.length - (n + 1))
      case measure => rw [HG.out]; omega
      case rel =>
        have far : ∀ (U : World) (x : Value) g, g ≠ w.heap.size + 2 → (U.setCell ⟨w.heap.size + 2, 0, none⟩ x).heap[g]? = U.heap[g]? := fun U x g h => Below.heap_setCell _ _ _ _ h
        refine ⟨n + 1, hs' ++ [(g.v6, g.v9)], a9, c9, by omega, by go_num, rfl, ?_, ?_, ?_, ?_⟩
        · rw [← HE9.out, show s.tables.take (n + 1) = s.tables.take n ++ [t] by rw [List.take_add_one, HHT.out]; rfl]
          refine HO3.out.snoc ?_ ?_ ?_ ?_ ?_ ?_ ?_ ?_
          · rw [HTL.out]
            exact own_same HPK.out.row (fun g' e => far _ _ g' (by have := (HPK.out.row.lt g' e).1; omega))
          · intro g' h1 h2 h3
            exact (far _ _ g' (by omega)).trans (HPK.out.same g' h2 h3)
          · exact own_same HPK.out.ids (fun g' e => far _ _ g' (by have := (HPK.out.ids.lt g' e).1; omega))
          · exact own_same HPK.out.rows (fun g' e => far _ _ g' (by have := (HPK.out.rows.lt g' e).1; omega))
          · exact HPK.out.n1
          · exact HPK.out.n2
          · exact HPK.out.ne
          · exact HPK.out.at_
        · have hb : Blk W1 (w.heap.size + 2) 39 #[.slice a' n c', .int .i64 s.next] := (HPK.out.same (w.heap.size + 2) (by have := HB03.out.lt; omega) (fun e => by have := HOB.out _ e; omega)).trans HB03.out
          rw [← HE9.out]
          exact blk_to (hb.put 0 _) (by rfl)
        · have hb : Blk W1 (w.heap.size + 1) 39 #[.slice none 0 0, .int .i64 0] := (HPK.out.same (w.heap.size + 1) (by have := HB13.out.lt; omega) (fun e => by have := HOB.out _ e; omega)).trans HB13.out
          exact hb.far (by simp) _
        · exact ((HB.out.trans (HKL.out.mono (by have := HB.out.size; omega))).trans (HBW.out.mono (by omega))).setCell (by simp) _
    · obtain rfl : n = s.tables.length := by omega
      have q9 : decide ((s.tables.length : Int) < (s.tables.length : Int)) = false := decide_eq_false (by omega)
      have p0 := HB0.out.cell 0
      have p1 := HB0.out.cell 1
      have r0 := HB1.out.cell 0
      have r1 := HB1.out.cell 1
      have rf := fun i => HB1.out.free i
      simp at p0 p1 r0 r1
      go_wp2_with fail
      refine bodyPost_ret (results_cell_row rfl _ _ _ _ _ _ _ rfl (store2_blk HB1.out _ _) Tryz.underlying39 rfl (by kernel_rfl)) rfl ?_
      refine ⟨a', c', hs', rfl, ?_, ?_⟩
      · have := HO.out
        rw [List.take_length] at this
        refine this.same (by omega) (fun g h1 h2 => ?_)
        rw [Below.heap_setCell _ _ _ _ (by simp; omega), Below.heap_setCell _ _ _ _ (by simp; omega)]
      · have hbl := HB.out
        exact bel9
end Go.Proofs.YtkpecagkpjabdabGreat
/- The contract of the statements' own same, at two stores that are one. Condition: both lie in memory. -/
namespace Go.Proofs.YtkpecagkpjabdabGreat
open Go.RowKit
set_option linter.unusedVariables false
set_option linter.unusedSimpArgs false
set_option maxRecDepth 100000
theorem rowNe_self (a : M.Row) (w : World) : (binOp .neq 27 (rowV a) (rowV a)).run Tryz.prog w = .ok (.bool false) w := by
  have hS : Tryz.prog.underlying 27 = some (.struct (Tryz.prog.fieldsOf 27)) := by kernel_rfl
  have hp : Tryz.prog.stoodInHeld 27 = false := by kernel_rfl
  obtain ⟨a0, a1, a2, a3, a4, a5, a6, a7⟩ := a
  rw [run_neq_struct, show (10000 : Nat) = 9999 + 1 from rfl, run_equalIn_agg w 9999 27 _ _ hS hp]
  simp only [Program.fieldsOf, Tryz.underlying27]
  go_simp
theorem wp_named3 {P : Program} {c : Code} {Q : Exit → Act → World → Prop} {a : Act} {w : World} (h : ∀ W, W = w → c.wp P Q a W) : c.wp P Q a w := h w rfl
set_option maxHeartbeats 8000000 in
set_option maxRecDepth 100000 in
theorem lsame_calls {w : World} {lo lo' : Nat} {v v' : Value} {s : M.Store} (h1 : StoreAt w lo v s) (h2 : StoreAt w lo' v' s) :
    Calls Tryz.prog 22 #[v, v'] w fun e w' => e = .returned (.bool true) ∧ Below w.heap.size w w' := by
  obtain ⟨vt, rfl, hs, hT⟩ := h1
  obtain ⟨a, cap, rfl⟩ := hT.val
  obtain ⟨vt', rfl, hs', hT'⟩ := h2
  obtain ⟨a', cap', rfl⟩ := hT'.val
  have hmx : s.tables.length ≤ 9223372036854775807 := by have := hT.max; unfold maxLen at this; omega
  have HT := Lib.hid hT
  have HT' := Lib.hid hT'
  clear hT hT'
  have q1 : ((s.tables.length : Int) != (s.tables.length : Int)) = false := by simp
  have q2 : (s.next != s.next) = false := by simp
  go_enter Tryz.func22, Tryz.ntmps22
  go_upto_region 4 with fail
  refine wp_named3 fun ws hws => ?_
  have y0 : ws.cell? ⟨w.heap.size + 1, 0, none⟩ = some (.slice a' s.tables.length cap') := by rw [hws]; simp
  have KS : Below w.heap.size w ws := by rw [hws]; exact bel9
  have HKS := Lib.hid KS
  have HY := Lib.hid y0
  have ks := KS.size
  clear hws KS y0
  go_loopg [26] s.tables.length (fun g i wr => ∃ n : Nat, n ≤ s.tables.length ∧ i = .int .i64 n ∧ g = s.tables.length - n ∧ Below ws.heap.size ws wr)
  case atStart => exact ⟨0, Nat.zero_le _, rfl, rfl, Below.refl _ _⟩
  case round =>
    obtain ⟨wo, hwo⟩ : ∃ wo, wo = wr := ⟨_, rfl⟩
    subst hwo
    obtain ⟨n, hn, rfl, hg, hb⟩ := hrel
    have HB := Lib.hid hb
    have HG := Lib.hid hg
    have KO : Below w.heap.size w wo := HKS.out.trans (hb.mono ks)
    have HKO := Lib.hid KO
    have y0 := below_cell HY.out hb
    have ko := hb.size
    clear hb hg KO
    rcases Nat.lt_or_ge n s.tables.length with hlt | hge
    · obtain ⟨t, ht⟩ : ∃ t, s.tables[n]? = some t := ⟨_, List.getElem?_eq_getElem hlt⟩
      obtain ⟨b, o, cp, a1, cp1, a2, cp2, e, _, _, c0, c1, c2, h1, h2⟩ := (HT.out.below HKO.out).at2 ht
      obtain ⟨b', o', cp', a1', cp1', a2', cp2', e', _, _, c0', c1', c2', h1', h2'⟩ := (HT'.out.below HKO.out).at2 ht
      obtain ⟨rfl, rfl⟩ : a = some ⟨b, o, none⟩ ∧ cap = cp := by simpa using e
      obtain ⟨rfl, rfl⟩ : a' = some ⟨b', o', none⟩ ∧ cap' = cp' := by simpa using e'
      have hm1 : t.ids.length ≤ 9223372036854775807 := by have := h1.max; unfold maxLen at this; omega
      have hm2 : t.rows.length ≤ 9223372036854775807 := by have := h2.max; unfold maxLen at this; omega
      have H1 := Lib.hid h1
      have H2 := Lib.hid h2
      have H1' := Lib.hid h1'
      have H2' := Lib.hid h2'
      have q3 : (t.mask != t.mask) = false := by simp
      have q4 : ((t.ids.length : Int) != (t.ids.length : Int)) = false := by simp
      have q5 : ((t.rows.length : Int) != (t.rows.length : Int)) = false := by simp
      have C0 := Lib.hid c0'
      have C1 := Lib.hid c1'
      have C2 := Lib.hid c2'
      clear e e' h1 h2 h1' h2' ht
      go_upto_region 6 with fail
      refine wp_named3 fun wl hwl => ?_
      have BT : Blk wl wo.heap.size 74 #[.int .i64 t.mask, .slice a1 t.ids.length cp1, .slice a2 t.rows.length cp2] := by rw [hwl]; exact Blk.new_at rfl
      have KL : Below wo.heap.size wo wl := by rw [hwl]; exact bel9
      have HBT := Lib.hid BT
      have HKL := Lib.hid KL
      have kl := KL.size
      have SB := Lib.hid (fun W (hb : Below wl.heap.size wl W) => show (W.cell? ⟨wo.heap.size, 0, none⟩ = some (.int .i64 t.mask) ∧ W.cell? ⟨wo.heap.size, 1, none⟩ = some (.slice a1 t.ids.length cp1) ∧ W.cell? ⟨wo.heap.size, 2, none⟩ = some (.slice a2 t.rows.length cp2)) ∧ W.cell? ⟨w.heap.size + 1, 0, none⟩ = some (.slice (some ⟨b', o', none⟩) s.tables.length cap') ∧ (W.cell? ⟨b', o' + n * 3, none⟩ = some (.int .i64 t.mask) ∧ W.cell? ⟨b', o' + n * 3 + 1, none⟩ = some (.slice a1' t.ids.length cp1') ∧ W.cell? ⟨b', o' + n * 3 + 2, none⟩ = some (.slice a2' t.rows.length cp2')) from by
        have kb : Below wo.heap.size wo W := HKL.out.trans (hb.mono kl)
        have x := HBT.out.below hb HBT.out.lt
        exact ⟨⟨x.cell 0, x.cell 1, x.cell 2⟩, below_cell y0 kb, below_cell C0.out kb, below_cell C1.out kb, below_cell C2.out kb⟩)
      obtain ⟨⟨x0, x1, x2⟩, z0, c0', c1', c2'⟩ := SB.out wl (Below.refl _ _)
      clear hwl BT KL y0 c0 c1 c2
      go_quiet (fail)
      go_wp2_with fail
      go_loopg [69] t.ids.length (fun g i wr => ∃ k : Nat, k ≤ t.ids.length ∧ i = .int .i64 k ∧ g = t.ids.length - k ∧ Below wl.heap.size wl wr)
      case atStart => exact ⟨0, Nat.zero_le _, rfl, rfl, below_drewN (Below.refl _ _) _⟩
      case round =>
        obtain ⟨wq, hwq⟩ : ∃ wq, wq = wr := ⟨_, rfl⟩
        subst hwq
        obtain ⟨k, hk, rfl, hg, hb⟩ := hrel
        have HBQ := Lib.hid hb
        have HG1 := Lib.hid hg
        have kq := hb.size
        obtain ⟨⟨x0, x1, x2⟩, z0, c0', c1', c2'⟩ := SB.out wq hb
        clear hb hg
        rcases Nat.lt_or_ge k t.ids.length with hlt2 | hge2
        · obtain ⟨id, hid⟩ : ∃ id, t.ids[k]? = some id := ⟨_, List.getElem?_eq_getElem hlt2⟩
          obtain ⟨b3, o3, cp3, e3, _, i0⟩ := (H1.out.below (HKL.out.trans (HBQ.out.mono kl))).at hid
          obtain ⟨b4, o4, cp4, e4, _, i1⟩ := (H1'.out.below (HKL.out.trans (HBQ.out.mono kl))).at hid
          obtain ⟨rfl, rfl⟩ : a1 = some ⟨b3, o3, none⟩ ∧ cp1 = cp3 := by simpa using e3
          obtain ⟨rfl, rfl⟩ : a1' = some ⟨b4, o4, none⟩ ∧ cp1' = cp4 := by simpa using e4
          have q6 : (id != id) = false := by simp
          clear e3 e4 hid
          go_wp2_with fail
          go_quiet (fail)
          go_wp2_with fail
          go_roundg (t.ids.length - (k + 1))
          case measure => rw [HG1.out]; omega
          case rel => exact ⟨k + 1, by omega, by go_num, rfl, below_drewN HBQ.out _⟩
        · obtain rfl : k = t.ids.length := by omega
          have q9 : decide ((t.ids.length : Int) < (t.ids.length : Int)) = false := decide_eq_false (by omega)
          go_wp2_with fail
          go_loopg [91] t.rows.length (fun g i wr => ∃ k : Nat, k ≤ t.rows.length ∧ i = .int .i64 k ∧ g = t.rows.length - k ∧ Below wl.heap.size wl wr)
          case atStart => exact ⟨0, Nat.zero_le _, rfl, rfl, HBQ.out⟩
          case round =>
            obtain ⟨wp, hwp⟩ : ∃ wp, wp = wr := ⟨_, rfl⟩
            subst hwp
            obtain ⟨k, hk, rfl, hg, hb⟩ := hrel
            have HBP := Lib.hid hb
            have HG2 := Lib.hid hg
            have kp := hb.size
            obtain ⟨⟨x0, x1, x2⟩, z0, c0', c1', c2'⟩ := SB.out wp hb
            clear hb hg
            rcases Nat.lt_or_ge k t.rows.length with hlt3 | hge3
            · obtain ⟨r, hr⟩ : ∃ r, t.rows[k]? = some r := ⟨_, List.getElem?_eq_getElem hlt3⟩
              obtain ⟨b3, o3, cp3, e3, _, i0, i1, i2, i3, i4, i5, i6, i7⟩ := (H2.out.below (HKL.out.trans (HBP.out.mono kl))).at8 hr
              obtain ⟨b4, o4, cp4, e4, _, j0, j1, j2, j3, j4, j5, j6, j7⟩ := (H2'.out.below (HKL.out.trans (HBP.out.mono kl))).at8 hr
              obtain ⟨rfl, rfl⟩ : a2 = some ⟨b3, o3, none⟩ ∧ cp2 = cp3 := by simpa using e3
              obtain ⟨rfl, rfl⟩ : a2' = some ⟨b4, o4, none⟩ ∧ cp2' = cp4 := by simpa using e4
              have q6 := fun W => rowNe_self r W
              clear e3 e4 hr
              go_wp2_with fail
              go_quiet (fail)
              go_wp2_with fail
              go_roundg (t.rows.length - (k + 1))
              case measure => rw [HG2.out]; omega
              case rel => exact ⟨k + 1, by omega, by go_num, rfl, below_drewN HBP.out _⟩
            · obtain rfl : k = t.rows.length := by omega
              have q10 : decide ((t.rows.length : Int) < (t.rows.length : Int)) = false := decide_eq_false (by omega)
              go_wp2_with fail
              go_roundg (s.tables.length - (n + 1))
              case measure => rw [HG.out]; omega
              case rel => exact ⟨n + 1, by omega, by go_num, rfl, HB.out.trans ((HKL.out.trans (HBP.out.mono kl)).mono ko)⟩
    · obtain rfl : n = s.tables.length := by omega
      have q9 : decide ((s.tables.length : Int) < (s.tables.length : Int)) = false := decide_eq_false (by omega)
      go_wp2_with fail
      go_ret
      exact ⟨rfl, HKO.out⟩
end Go.Proofs.YtkpecagkpjabdabGreat
/- The contract of the document's SameReply: two replies that are one; SameIds, SamePairs. Condition: both lie in memory. -/
namespace Go.Proofs.YtkpecagkpjabdabGreat
open Go.RowKit
set_option linter.unusedVariables false
set_option linter.unusedSimpArgs false
set_option maxRecDepth 100000
theorem pairNe_same (a : M.Pr) (w : World) : (binOp .neq 77 (.agg #[.int .i64 a.1, .int .i64 a.2]) (.agg #[.int .i64 a.1, .int .i64 a.2])).run Tryz.prog w = .ok (.bool false) w := by
  have hS : Tryz.prog.underlying 77 = some (.struct (Tryz.prog.fieldsOf 77)) := by kernel_rfl
  have hp : Tryz.prog.stoodInHeld 77 = false := by kernel_rfl
  obtain ⟨a0, a1⟩ := a
  rw [run_neq_struct, show (10000 : Nat) = 9999 + 1 from rfl, run_equalIn_agg w 9999 77 _ _ hS hp]
  simp only [Program.fieldsOf, Tryz.underlying77]
  go_simp
abbrev replyV (r : M.Reply) (ids met : Value) : Value := .agg #[.int .i64 r.code, .int .i64 r.n, ids, met]
abbrev replyC (r : M.Reply) (ids met : Value) : Array Value := #[.int .i64 r.code, .int .i64 r.n, ids, met]
set_option maxHeartbeats 8000000 in
set_option maxRecDepth 100000 in
theorem refReply_calls {w : World} {r : M.Reply} {ids met ids' met' : Value} (h1 : IntsAt w 0 ids r.ids) (h2 : PairsAt w 0 met r.met) (h3 : IntsAt w 0 ids' r.ids) (h4 : PairsAt w 0 met' r.met) :
    Calls Tryz.prog 69 #[replyV r ids met, replyV r ids' met'] w fun e w' => e = .returned (.bool true) ∧ Below w.heap.size w w' := by
  obtain ⟨ai, ci, rfl⟩ := h1.val
  obtain ⟨am, cm, rfl⟩ := h2.val
  obtain ⟨bi, di, rfl⟩ := h3.val
  obtain ⟨bm, dm, rfl⟩ := h4.val
  have him : r.ids.length ≤ 9223372036854775807 := by have := h1.max; unfold maxLen at this; omega
  have hmm : r.met.length ≤ 9223372036854775807 := by have := h2.max; unfold maxLen at this; omega
  have H1 := Lib.hid h1
  have H2 := Lib.hid h2
  have H3 := Lib.hid h3
  have H4 := Lib.hid h4
  clear h1 h2 h3 h4
  go_enter Tryz.func69, Tryz.ntmps69
  go_upto_region 1 with (fail)
  refine wp_called (fun ws hws => ?_)
  have b1 : Blk ws w.heap.size 36 (replyC r (.slice ai r.ids.length ci) (.slice am r.met.length cm)) := by rw [hws]; exact (Blk.new_at rfl).alloc _
  have b2 : Blk ws (w.heap.size + 1) 36 (replyC r (.slice bi r.ids.length di) (.slice bm r.met.length dm)) := by rw [hws]; exact Blk.new_at (by simp)
  have KS : Below w.heap.size w ws := by rw [hws]; exact bel9
  have HB1 := Lib.hid b1
  have HB2 := Lib.hid b2
  have HKS := Lib.hid KS
  have ks := KS.size
  have lb2 := b2.lt
  have x0 := b1.cell 0
  have x1 := b1.cell 1
  have x2 := b1.cell 2
  have x3 := b1.cell 3
  have y0 := b2.cell 0
  have y1 := b2.cell 1
  have y2 := b2.cell 2
  have y3 := b2.cell 3
  simp at x0 x1 x2 x3 y0 y1 y2 y3
  clear hws b1 b2 KS
  go_wp2_with fail
  clear x0 x1 x2 x3 y0 y1 y2 y3
  go_loopg [40] r.ids.length (fun g i wr => ∃ n : Nat, n ≤ r.ids.length ∧ i = .int .i64 n ∧ g = r.ids.length - n ∧ Below ws.heap.size ws wr)
  case atStart => exact ⟨0, Nat.zero_le _, rfl, rfl, Below.refl _ _⟩
  case round =>
    obtain ⟨wo, hwo⟩ : ∃ wo, wo = wr := ⟨_, rfl⟩
    subst hwo
    obtain ⟨n, hn, rfl, hk, hb⟩ := hrel
    have HB := Lib.hid hb
    have HK := Lib.hid hk
    have ko := hb.size
    have KO : Below w.heap.size w wo := HKS.out.trans (hb.mono ks)
    have b1 := HB1.out.below hb HB1.out.lt
    have b2 := HB2.out.below hb HB2.out.lt
    have x2 := b1.cell 2
    have x3 := b1.cell 3
    have y2 := b2.cell 2
    have y3 := b2.cell 3
    simp at x2 x3 y2 y3
    clear hk hb b1 b2
    rcases Nat.lt_or_ge n r.ids.length with hlt | hge
    · obtain ⟨id, hid⟩ : ∃ id, r.ids[n]? = some id := ⟨_, List.getElem?_eq_getElem hlt⟩
      obtain ⟨b3, o3, c3, e3, _, i3⟩ := (H1.out.below KO).at hid
      obtain ⟨rfl, rfl⟩ : ai = some ⟨b3, o3, none⟩ ∧ ci = c3 := by simpa using e3
      obtain ⟨b4, o4, c4, e4, _, i4⟩ := (H3.out.below KO).at hid
      obtain ⟨rfl, rfl⟩ : bi = some ⟨b4, o4, none⟩ ∧ di = c4 := by simpa using e4
      have q0 : (0 : Int) ≤ (n : Int) := by omega
      have q1 : (n : Int) < (r.ids.length : Int) := by omega
      clear e3 e4 hid
      go_wp2_with fail
      go_quiet (fail)
      go_wp2_with fail
      go_roundg (r.ids.length - (n + 1))
      case measure => rw [HK.out]; omega
      case rel => exact ⟨n + 1, by omega, by go_num, rfl, below_drewN HB.out _⟩
    · obtain rfl : n = r.ids.length := by omega
      have q9 : decide ((r.ids.length : Int) < (r.ids.length : Int)) = false := decide_eq_false (by omega)
      go_wp2_with fail
      obtain ⟨wi, hwi⟩ : ∃ wi, wi = wo := ⟨_, rfl⟩
      subst hwi
      have HBI := HB
      clear q9 x2 x3 y2 y3
      go_loopg [58] r.met.length (fun g i wr => ∃ n : Nat, n ≤ r.met.length ∧ i = .int .i64 n ∧ g = r.met.length - n ∧ Below wi.heap.size wi wr)
      case atStart => exact ⟨0, Nat.zero_le _, rfl, rfl, Below.refl _ _⟩
      case round =>
        obtain ⟨wq, hwq⟩ : ∃ wq, wq = wr := ⟨_, rfl⟩
        subst hwq
        obtain ⟨m, hm, rfl, hkm, hbm⟩ := hrel
        have HBM := Lib.hid hbm
        have HKM := Lib.hid hkm
        have kq := hbm.size
        have KSQ : Below ws.heap.size ws wq := HBI.out.trans (hbm.mono ko)
        have KQ : Below w.heap.size w wq := HKS.out.trans (KSQ.mono ks)
        have b1 := HB1.out.below KSQ HB1.out.lt
        have b2 := HB2.out.below KSQ HB2.out.lt
        have x2 := b1.cell 2
        have x3 := b1.cell 3
        have y2 := b2.cell 2
        have y3 := b2.cell 3
        simp at x2 x3 y2 y3
        clear hkm hbm b1 b2
        rcases Nat.lt_or_ge m r.met.length with hlt2 | hge2
        · obtain ⟨p, hp⟩ : ∃ p, r.met[m]? = some p := ⟨_, List.getElem?_eq_getElem hlt2⟩
          obtain ⟨b3, o3, c3, e3, _, i3, i3'⟩ := (H2.out.below KQ).at2 hp
          obtain ⟨rfl, rfl⟩ : am = some ⟨b3, o3, none⟩ ∧ cm = c3 := by simpa using e3
          obtain ⟨b4, o4, c4, e4, _, i4, i4'⟩ := (H4.out.below KQ).at2 hp
          obtain ⟨rfl, rfl⟩ : bm = some ⟨b4, o4, none⟩ ∧ dm = c4 := by simpa using e4
          have q0 : (0 : Int) ≤ (m : Int) := by omega
          have q1 : (m : Int) < (r.met.length : Int) := by omega
          have NX := fun w => pairNe_same p w
          clear e3 e4 hp
          go_wp2_with fail
          go_quiet (fail)
          go_wp2_with fail
          go_roundg (r.met.length - (m + 1))
          case measure => rw [HKM.out]; omega
          case rel => exact ⟨m + 1, by omega, by go_num, rfl, below_drewN HBM.out _⟩
        · obtain rfl : m = r.met.length := by omega
          have q9 : decide ((r.met.length : Int) < (r.met.length : Int)) = false := decide_eq_false (by omega)
          go_wp2_with fail
          go_ret
          exact ⟨rfl, KQ⟩
theorem samePairs_calls {w : World} {zs : List M.Pr} {v v' : Value} (h : PairsAt w 0 v zs) (k : PairsAt w 0 v' zs) :
    Calls Tryz.prog 28 #[v, v'] w fun e w' => e = .returned (.bool true) ∧ Below w.heap.size w w' := by
  have HR := Lib.hid (fun W (hb : Below w.heap.size w W) => refReply_calls (w := W) (r := ⟨0, 0, [], zs⟩) (⟨rfl, Nat.zero_le _, none, 0, rfl, fun h => absurd rfl h⟩ : IntsAt W 0 (.slice none 0 0) []) (h.below hb) (⟨rfl, Nat.zero_le _, none, 0, rfl, fun h => absurd rfl h⟩ : IntsAt W 0 (.slice none 0 0) []) (k.below hb))
  obtain ⟨a, c, rfl⟩ := h.val
  obtain ⟨a', c', rfl⟩ := k.val
  clear h k
  go_enter Tryz.func28, Tryz.ntmps28
  go_wp2_with (go_at_call 69; refine (HR.out _ (Below.refl _ _)).mono ?_; rintro e w1 ⟨rfl, hb1⟩)
  go_ret
  exact ⟨rfl, hb1⟩
end Go.Proofs.YtkpecagkpjabdabGreat
