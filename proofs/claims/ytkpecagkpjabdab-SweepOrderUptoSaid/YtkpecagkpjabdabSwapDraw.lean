/- SweepOrder's swap of two boxes in a copy of its own: a region that draws, each operation once. Condition: the boxes lie in memory, the copy is the call's own. -/
import Derived.Test.YtkpecagkpjabdabDraw
import Derived.Test.YtkpecagkpjabdabSweepMem
import Derived.Test.YtkpecagkpjabdabStoreOwned
import Derived.Test.YtkpecagkpjabdabPutDraw
namespace Go.Proofs.Ytkpecagkpjabdab
open Go.RowKit
set_option linter.unusedVariables false
set_option linter.unusedSimpArgs false
set_option maxRecDepth 100000

noncomputable def swapC : Code := ((Try.f5.body.bind (regionOf 5)).getD .skip)
noncomputable def swapOps : Array Oper := match swapC with
  | .region _ ops _ => ops
  | _ => #[]
theorem swapC_is : swapC = .region 5 swapOps true := by kernel_rfl
theorem swapOps_size : swapOps.size = 18 := by kernel_rfl
theorem swop_at {k : Nat} {x : Op} {d : Option Nat} (h : (swapOps[k]?).map (fun o => (o.guard.isNone, o.op, o.dst)) = some (true, x, d)) : ∃ o, swapOps[k]? = some o ∧ o.guard = none ∧ o.op = x ∧ o.dst = d := by
  cases ho : swapOps[k]? with
  | none => rw [ho] at h; simp at h
  | some o =>
    rw [ho] at h
    simp only [Option.map_some, Option.some.injEq, Prod.mk.injEq] at h
    exact ⟨o, rfl, by simpa using h.1, h.2.1, h.2.2⟩
theorem flat_set (l : List M.Box) (i : Nat) (hi : i < l.length) (b : M.Box) :
    (((((l.flatMap boxL).set (i * 5) (.int .i64 b.id)).set (i * 5 + 1) (.int .i64 b.x1)).set (i * 5 + 2) (.int .i64 b.y1)).set (i * 5 + 3) (.int .i64 b.x2)).set (i * 5 + 4) (.int .i64 b.y2) = (l.set i b).flatMap boxL := by
  induction l generalizing i with
  | nil => simp at hi
  | cons c l ih =>
    match i with
    | 0 => simp [boxL]
    | i + 1 =>
      have := ih i (by simpa using hi)
      rw [List.set_cons_succ, List.flatMap_cons, List.flatMap_cons, ← this]
      simp only [boxL, List.cons_append, List.nil_append, show (i + 1) * 5 = i * 5 + 1 + 1 + 1 + 1 + 1 by omega, show i * 5 + 1 + 1 + 1 + 1 + 1 + 1 = (i * 5 + 1) + 1 + 1 + 1 + 1 + 1 by omega, show i * 5 + 1 + 1 + 1 + 1 + 1 + 2 = (i * 5 + 2) + 1 + 1 + 1 + 1 + 1 by omega, show i * 5 + 1 + 1 + 1 + 1 + 1 + 3 = (i * 5 + 3) + 1 + 1 + 1 + 1 + 1 by omega, show i * 5 + 1 + 1 + 1 + 1 + 1 + 4 = (i * 5 + 4) + 1 + 1 + 1 + 1 + 1 by omega, List.set_cons_succ]
def slotS (k : Nat) : Nat := if k = 16 then 35 else 20 + k
theorem slotS_ne {k j : Nat} (h : k ≠ j) (hk : k < 18 ∧ k ≠ 15 ∧ k ≠ 17) (hj : j < 18 ∧ j ≠ 15 ∧ j ≠ 17) : slotS k ≠ slotS j := by
  unfold slotS; split <;> split <;> omega
theorem slotS_lt {k : Nat} (hk : k < 18 ∧ k ≠ 15 ∧ k ≠ 17) : 20 ≤ slotS k ∧ slotS k < 61 := by
  unfold slotS; split <;> omega
structure SC where
  w0 : World
  l : List M.Box
  K : Nat
  bl : Nat
  ol : Nat
  cl : Nat
  gm : Nat
  cm : Nat
  A : M.Box
  B : M.Box
def SC.vl (c : SC) : Value := .slice (some ⟨c.bl, c.ol, none⟩) c.l.length c.cl
def SC.vm (c : SC) : Value := .slice (some ⟨c.gm, 0, none⟩) c.l.length c.cm
def SC.val (c : SC) (k : Nat) : Value :=
  if k = 0 ∨ k = 2 then c.vm else if k = 1 ∨ k = 3 ∨ k = 6 ∨ k = 11 then .int .i64 c.K else if k = 5 ∨ k = 10 then c.vl
  else if k = 4 ∨ k = 7 then .int .i64 ((c.K : Int) + 1) else if k = 8 then .pointer (some ⟨c.bl, c.ol + (c.K + 1) * 5, none⟩) else if k = 12 then .pointer (some ⟨c.bl, c.ol + c.K * 5, none⟩)
  else if k = 9 then boxV c.B else if k = 13 then boxV c.A else if k = 14 then .pointer (some ⟨c.gm, c.K * 5, none⟩) else .pointer (some ⟨c.gm, (c.K + 1) * 5, none⟩)
def SC.cur (c : SC) (d : Array Bool) : List M.Box :=
  if d.getD 17 false = true then (if d.getD 15 false = true then c.l.set c.K c.B else c.l).set (c.K + 1) c.A else (if d.getD 15 false = true then c.l.set c.K c.B else c.l)
structure SC.Ok (c : SC) : Prop where
  hA : c.l[c.K]? = some c.A
  hB : c.l[c.K + 1]? = some c.B
  boxes : BoxesAt5 c.w0 0 c.vl c.l
  n : c.l.length ≤ 1099511627776
  cl : c.l.length ≤ c.cl ∧ c.cl ≤ 9223372036854775807
  cm : c.l.length ≤ c.cm ∧ c.cm ≤ 9223372036854775807
structure SC.Inv (c : SC) (d : Array Bool) (a : Act) (W : World) : Prop where
  size : d.size = 18
  len : a.tmps.size = 61
  defers : a.defers = []
  p0 : a.eval (.tmp 0) = c.vl
  p1 : a.eval (.tmp 1) = .int .i64 c.K
  p5 : a.eval (.tmp 5) = c.vm
  slots : ∀ k, k < 18 ∧ k ≠ 15 ∧ k ≠ 17 → d.getD k false = true → a.eval (.tmp (slotS k)) = c.val k
  below : Below c.w0.heap.size c.w0 W
  own : W.ownsRow c.w0.heap.size 45 5 c.vm c.l.length ((c.cur d).flatMap boxL)
/-! the operations, by kind -/
theorem wp_add1 {o : Oper} {a : Act} {w : World} {K : Act → World → Prop} {Q : Exit → Act → World → Prop} {x : Operand} {n : Nat} (ho : o.op = .binOp .add 3 x (.const (.int .i64 1)) 3) (hx : a.eval x = .int .i64 n) (hn : n ≤ 1099511627776)
    (hk : K (a.put o.dst (.int .i64 ((n : Int) + 1))) w) : o.wp Try.prog a w K Q := by
  have hw : IntKind.i64.wrap ((n : Int) + 1) = (n : Int) + 1 := by rw [IntKind.wrap_i64]; omega
  unfold Oper.wp execOp
  simp only [ho, hx]
  go_simp
  exact hk
theorem wp_indexB {o : Oper} {a : Act} {w : World} {K : Act → World → Prop} {Q : Exit → Act → World → Prop} {x y : Operand} {b f n c j : Nat} (ho : o.op = .indexAddr 40 x y) (hx : a.eval x = .slice (some ⟨b, f, none⟩) n c) (hy : a.eval y = .int .i64 j)
    (hj : j < n) (hc : n ≤ c) (hc2 : c ≤ 9223372036854775807) (hk : K (a.put o.dst (.pointer (some ⟨b, f + j * 5, none⟩))) w) : o.wp Try.prog a w K Q := by
  unfold Oper.wp execOp
  simp only [ho, hx, hy]
  go_simp
  exact hk
theorem wp_loadB {o : Oper} {a : Act} {w : World} {K : Act → World → Prop} {Q : Exit → Act → World → Prop} {x : Operand} {b f : Nat} {r : M.Box} (ho : o.op = .load 45 x) (hx : a.eval x = .pointer (some ⟨b, f, none⟩))
    (h0 : w.cell? ⟨b, f, none⟩ = some (.int .i64 r.id)) (h1 : w.cell? ⟨b, f + 1, none⟩ = some (.int .i64 r.x1)) (h2 : w.cell? ⟨b, f + 2, none⟩ = some (.int .i64 r.y1)) (h3 : w.cell? ⟨b, f + 3, none⟩ = some (.int .i64 r.x2)) (h4 : w.cell? ⟨b, f + 4, none⟩ = some (.int .i64 r.y2))
    (hk : K (a.put o.dst (boxV r)) w) : o.wp Try.prog a w K Q := by
  unfold Oper.wp execOp
  simp only [ho, hx]
  go_simp
  exact hk
theorem wp_storeB {o : Oper} {a : Act} {w : World} {K : Act → World → Prop} {Q : Exit → Act → World → Prop} {p x : Operand} {b f : Nat} {r q : M.Box} (ho : o.op = .store 45 p x) (hd : o.dst = none) (hp : a.eval p = .pointer (some ⟨b, f, none⟩)) (hx : a.eval x = boxV r)
    (h0 : w.cell? ⟨b, f, none⟩ = some (.int .i64 q.id)) (h1 : w.cell? ⟨b, f + 1, none⟩ = some (.int .i64 q.x1)) (h2 : w.cell? ⟨b, f + 2, none⟩ = some (.int .i64 q.y1)) (h3 : w.cell? ⟨b, f + 3, none⟩ = some (.int .i64 q.x2)) (h4 : w.cell? ⟨b, f + 4, none⟩ = some (.int .i64 q.y2))
    (hf : ∀ j, w.frozen? ⟨b, j, none⟩ = false)
    (hk : K a (((((w.setCell ⟨b, f, none⟩ (.int .i64 r.id)).setCell ⟨b, f + 1, none⟩ (.int .i64 r.x1)).setCell ⟨b, f + 2, none⟩ (.int .i64 r.y1)).setCell ⟨b, f + 3, none⟩ (.int .i64 r.x2)).setCell ⟨b, f + 4, none⟩ (.int .i64 r.y2))) : o.wp Try.prog a w K Q := by
  unfold Oper.wp execOp
  simp only [ho, hp, hx]
  go_simp
  exact hk
section
variable {c : SC} {d : Array Bool} {a : Act} {W : World} {Q : Exit → Act → World → Prop}
theorem cur_pure {k : Nat} (h : k ≠ 15 ∧ k ≠ 17) : c.cur (d.setIfInBounds k true) = c.cur d := by
  unfold SC.cur; rw [getD_ne h.1, getD_ne h.2]
theorem SC.Inv.pure {k : Nat} {v : Value} (h : c.Inv d a W) (hk : k < 18 ∧ k ≠ 15 ∧ k ≠ 17) (hv : c.val k = v) : c.Inv (d.setIfInBounds k true) (a.put (some (slotS k)) v) W := by
  have h20 := slotS_lt hk
  refine ⟨by simp [h.size], by simp [Act.put, h.len], h.defers, ?_, ?_, ?_, ?_, h.below, ?_⟩
  · rw [put_other (by omega)]; exact h.p0
  · rw [put_other (by omega)]; exact h.p1
  · rw [put_other (by omega)]; exact h.p5
  · intro j hj hl
    by_cases e : k = j
    · subst e
      rw [put_same (by rw [h.len]; exact h20.2), hv]
    · rw [put_other (slotS_ne e hk hj)]
      exact h.slots j hj (by rwa [getD_ne e] at hl)
  · rw [cur_pure hk.2]; exact h.own
theorem SC.Ok.lt (ok : c.Ok) : c.K + 1 < c.l.length := (List.getElem?_eq_some_iff.1 ok.hB).1
theorem cur_len : (c.cur d).length = c.l.length := by unfold SC.cur; split <;> split <;> simp
/-- the cells of the copy's box i -/
theorem own_at5 {W : World} {base g n cap : Nat} {xs : List M.Box} (h : W.ownsRow base 45 5 (.slice (some ⟨g, 0, none⟩) n cap) n (xs.flatMap boxL)) {i : Nat} {q : M.Box} (hi : xs[i]? = some q) (hn : xs.length = n) :
    W.cell? ⟨g, i * 5, none⟩ = some (.int .i64 q.id) ∧ W.cell? ⟨g, i * 5 + 1, none⟩ = some (.int .i64 q.x1) ∧ W.cell? ⟨g, i * 5 + 2, none⟩ = some (.int .i64 q.y1) ∧ W.cell? ⟨g, i * 5 + 3, none⟩ = some (.int .i64 q.x2) ∧ W.cell? ⟨g, i * 5 + 4, none⟩ = some (.int .i64 q.y2) := by
  have hl := (List.getElem?_eq_some_iff.1 hi).1
  have k : ∀ j u, (boxL q)[j]? = some u → j < 5 → W.cell? ⟨g, i * 5 + j, none⟩ = some u := fun j u hj h5 =>
    (h.cellAt (i * 5 + j) (by omega)).trans ((flat_at boxL 5 (fun _ => rfl) xs i j hi h5).trans hj)
  exact ⟨k 0 _ rfl (by omega), k 1 _ rfl (by omega), k 2 _ rfl (by omega), k 3 _ rfl (by omega), k 4 _ rfl (by omega)⟩
/-- a box stored into the copy -/
theorem own_box {W : World} {base g n cap : Nat} {xs : List M.Box} (h : W.ownsRow base 45 5 (.slice (some ⟨g, 0, none⟩) n cap) n (xs.flatMap boxL)) {i : Nat} (hi : i < xs.length) (r : M.Box) :
    (((((W.setCell ⟨g, i * 5, none⟩ (.int .i64 r.id)).setCell ⟨g, i * 5 + 1, none⟩ (.int .i64 r.x1)).setCell ⟨g, i * 5 + 2, none⟩ (.int .i64 r.y1)).setCell ⟨g, i * 5 + 3, none⟩ (.int .i64 r.x2)).setCell ⟨g, i * 5 + 4, none⟩ (.int .i64 r.y2)).ownsRow base 45 5 (.slice (some ⟨g, 0, none⟩) n cap) n ((xs.set i r).flatMap boxL) := by
  have k := own_put (own_put (own_put (own_put (own_put h (i * 5) (.int .i64 r.id)) (i * 5 + 1) (.int .i64 r.x1)) (i * 5 + 2) (.int .i64 r.y1)) (i * 5 + 3) (.int .i64 r.x2)) (i * 5 + 4) (.int .i64 r.y2)
  rw [flat_set xs i hi r] at k
  exact k
theorem below_box {w W : World} {B g f : Nat} (h : Below B w W) (hg : B ≤ g) (r : M.Box) : Below B w (((((W.setCell ⟨g, f, none⟩ (.int .i64 r.id)).setCell ⟨g, f + 1, none⟩ (.int .i64 r.x1)).setCell ⟨g, f + 2, none⟩ (.int .i64 r.y1)).setCell ⟨g, f + 3, none⟩ (.int .i64 r.x2)).setCell ⟨g, f + 4, none⟩ (.int .i64 r.y2)) :=
  ((((h.setCell hg _).setCell hg _).setCell hg _).setCell hg _).setCell hg _
theorem sw0 (h : c.Inv d a W) (hi : 0 ∈ Region.ready .any swapOps d) : wpOp Try.prog swapOps Q 0 (c.Inv (d.setIfInBounds 0 true)) a W := by
  obtain ⟨o, ho, hg, hop, hd⟩ := swop_at (k := 0) (x := .move (.tmp 5)) (d := some 20) (by kernel_rfl)
  refine wpOp_run ho hg (wp_mv hop ?_)
  rw [h.p5]
  rw [hd]
  exact h.pure (k := 0) (by omega) (by simp [SC.val])
theorem sw2 (h : c.Inv d a W) (hi : 2 ∈ Region.ready .any swapOps d) : wpOp Try.prog swapOps Q 2 (c.Inv (d.setIfInBounds 2 true)) a W := by
  obtain ⟨o, ho, hg, hop, hd⟩ := swop_at (k := 2) (x := .move (.tmp 5)) (d := some 22) (by kernel_rfl)
  refine wpOp_run ho hg (wp_mv hop ?_)
  rw [h.p5]
  rw [hd]
  exact h.pure (k := 2) (by omega) (by simp [SC.val])
theorem sw1 (h : c.Inv d a W) (hi : 1 ∈ Region.ready .any swapOps d) : wpOp Try.prog swapOps Q 1 (c.Inv (d.setIfInBounds 1 true)) a W := by
  obtain ⟨o, ho, hg, hop, hd⟩ := swop_at (k := 1) (x := .move (.tmp 1)) (d := some 21) (by kernel_rfl)
  refine wpOp_run ho hg (wp_mv hop ?_)
  rw [h.p1]
  rw [hd]
  exact h.pure (k := 1) (by omega) (by simp [SC.val])
theorem sw3 (h : c.Inv d a W) (hi : 3 ∈ Region.ready .any swapOps d) : wpOp Try.prog swapOps Q 3 (c.Inv (d.setIfInBounds 3 true)) a W := by
  obtain ⟨o, ho, hg, hop, hd⟩ := swop_at (k := 3) (x := .move (.tmp 1)) (d := some 23) (by kernel_rfl)
  refine wpOp_run ho hg (wp_mv hop ?_)
  rw [h.p1]
  rw [hd]
  exact h.pure (k := 3) (by omega) (by simp [SC.val])
theorem sw6 (h : c.Inv d a W) (hi : 6 ∈ Region.ready .any swapOps d) : wpOp Try.prog swapOps Q 6 (c.Inv (d.setIfInBounds 6 true)) a W := by
  obtain ⟨o, ho, hg, hop, hd⟩ := swop_at (k := 6) (x := .move (.tmp 1)) (d := some 26) (by kernel_rfl)
  refine wpOp_run ho hg (wp_mv hop ?_)
  rw [h.p1]
  rw [hd]
  exact h.pure (k := 6) (by omega) (by simp [SC.val])
theorem sw11 (h : c.Inv d a W) (hi : 11 ∈ Region.ready .any swapOps d) : wpOp Try.prog swapOps Q 11 (c.Inv (d.setIfInBounds 11 true)) a W := by
  obtain ⟨o, ho, hg, hop, hd⟩ := swop_at (k := 11) (x := .move (.tmp 1)) (d := some 31) (by kernel_rfl)
  refine wpOp_run ho hg (wp_mv hop ?_)
  rw [h.p1]
  rw [hd]
  exact h.pure (k := 11) (by omega) (by simp [SC.val])
theorem sw5 (h : c.Inv d a W) (hi : 5 ∈ Region.ready .any swapOps d) : wpOp Try.prog swapOps Q 5 (c.Inv (d.setIfInBounds 5 true)) a W := by
  obtain ⟨o, ho, hg, hop, hd⟩ := swop_at (k := 5) (x := .move (.tmp 0)) (d := some 25) (by kernel_rfl)
  refine wpOp_run ho hg (wp_mv hop ?_)
  rw [h.p0]
  rw [hd]
  exact h.pure (k := 5) (by omega) (by simp [SC.val])
theorem sw10 (h : c.Inv d a W) (hi : 10 ∈ Region.ready .any swapOps d) : wpOp Try.prog swapOps Q 10 (c.Inv (d.setIfInBounds 10 true)) a W := by
  obtain ⟨o, ho, hg, hop, hd⟩ := swop_at (k := 10) (x := .move (.tmp 0)) (d := some 30) (by kernel_rfl)
  refine wpOp_run ho hg (wp_mv hop ?_)
  rw [h.p0]
  rw [hd]
  exact h.pure (k := 10) (by omega) (by simp [SC.val])
theorem sw4 (ok : c.Ok) (h : c.Inv d a W) (hi : 4 ∈ Region.ready .any swapOps d) : wpOp Try.prog swapOps Q 4 (c.Inv (d.setIfInBounds 4 true)) a W := by
  obtain ⟨o, ho, hg, hop, hd⟩ := swop_at (k := 4) (x := .binOp .add 3 (.tmp 23) (.const (.int .i64 1)) 3) (d := some 24) (by kernel_rfl)
  have e : a.eval (.tmp 23) = .int .i64 c.K := h.slots 3 (by omega) (ready_dep hi 3 (by kernel_rfl))
  refine wpOp_run ho hg (wp_add1 hop e (by have := ok.lt; have := ok.n; omega) ?_)
  rw [hd]
  exact h.pure (k := 4) (by omega) (by simp [SC.val])
theorem sw7 (ok : c.Ok) (h : c.Inv d a W) (hi : 7 ∈ Region.ready .any swapOps d) : wpOp Try.prog swapOps Q 7 (c.Inv (d.setIfInBounds 7 true)) a W := by
  obtain ⟨o, ho, hg, hop, hd⟩ := swop_at (k := 7) (x := .binOp .add 3 (.tmp 26) (.const (.int .i64 1)) 3) (d := some 27) (by kernel_rfl)
  have e : a.eval (.tmp 26) = .int .i64 c.K := h.slots 6 (by omega) (ready_dep hi 6 (by kernel_rfl))
  refine wpOp_run ho hg (wp_add1 hop e (by have := ok.lt; have := ok.n; omega) ?_)
  rw [hd]
  exact h.pure (k := 7) (by omega) (by simp [SC.val])
theorem sw8 (ok : c.Ok) (h : c.Inv d a W) (hi : 8 ∈ Region.ready .any swapOps d) : wpOp Try.prog swapOps Q 8 (c.Inv (d.setIfInBounds 8 true)) a W := by
  obtain ⟨o, ho, hg, hop, hd⟩ := swop_at (k := 8) (x := .indexAddr 40 (.tmp 25) (.tmp 27)) (d := some 28) (by kernel_rfl)
  have e : a.eval (.tmp 25) = c.vl := h.slots 5 (by omega) (ready_dep hi 5 (by kernel_rfl))
  have e2 : a.eval (.tmp 27) = .int .i64 ((c.K : Int) + 1) := h.slots 7 (by omega) (ready_dep hi 7 (by kernel_rfl))
  refine wpOp_run ho hg (wp_indexB (j := c.K + 1) hop e (e2.trans (by push_cast; rfl)) (by have := ok.lt; omega) ok.cl.1 ok.cl.2 ?_)
  rw [hd]
  exact h.pure (k := 8) (by omega) (by simp [SC.val])
theorem sw12 (ok : c.Ok) (h : c.Inv d a W) (hi : 12 ∈ Region.ready .any swapOps d) : wpOp Try.prog swapOps Q 12 (c.Inv (d.setIfInBounds 12 true)) a W := by
  obtain ⟨o, ho, hg, hop, hd⟩ := swop_at (k := 12) (x := .indexAddr 40 (.tmp 30) (.tmp 31)) (d := some 32) (by kernel_rfl)
  have e : a.eval (.tmp 30) = c.vl := h.slots 10 (by omega) (ready_dep hi 10 (by kernel_rfl))
  have e2 : a.eval (.tmp 31) = .int .i64 c.K := h.slots 11 (by omega) (ready_dep hi 11 (by kernel_rfl))
  refine wpOp_run ho hg (wp_indexB (j := c.K) hop e e2 (by have := ok.lt; omega) ok.cl.1 ok.cl.2 ?_)
  rw [hd]
  exact h.pure (k := 12) (by omega) (by simp [SC.val])
theorem sw14 (ok : c.Ok) (h : c.Inv d a W) (hi : 14 ∈ Region.ready .any swapOps d) : wpOp Try.prog swapOps Q 14 (c.Inv (d.setIfInBounds 14 true)) a W := by
  obtain ⟨o, ho, hg, hop, hd⟩ := swop_at (k := 14) (x := .indexAddr 40 (.tmp 20) (.tmp 21)) (d := some 34) (by kernel_rfl)
  have e : a.eval (.tmp 20) = c.vm := h.slots 0 (by omega) (ready_dep hi 0 (by kernel_rfl))
  have e2 : a.eval (.tmp 21) = .int .i64 c.K := h.slots 1 (by omega) (ready_dep hi 1 (by kernel_rfl))
  refine wpOp_run ho hg (wp_indexB (j := c.K) hop e e2 (by have := ok.lt; omega) ok.cm.1 ok.cm.2 ?_)
  rw [hd]
  exact h.pure (k := 14) (by omega) (by simp [SC.val])
theorem sw16 (ok : c.Ok) (h : c.Inv d a W) (hi : 16 ∈ Region.ready .any swapOps d) : wpOp Try.prog swapOps Q 16 (c.Inv (d.setIfInBounds 16 true)) a W := by
  obtain ⟨o, ho, hg, hop, hd⟩ := swop_at (k := 16) (x := .indexAddr 40 (.tmp 22) (.tmp 24)) (d := some 35) (by kernel_rfl)
  have e : a.eval (.tmp 22) = c.vm := h.slots 2 (by omega) (ready_dep hi 2 (by kernel_rfl))
  have e2 : a.eval (.tmp 24) = .int .i64 ((c.K : Int) + 1) := h.slots 4 (by omega) (ready_dep hi 4 (by kernel_rfl))
  refine wpOp_run ho hg (wp_indexB (j := c.K + 1) hop e (e2.trans (by push_cast; rfl)) (by have := ok.lt; omega) ok.cm.1 ok.cm.2 ?_)
  rw [hd]
  exact h.pure (k := 16) (by omega) (by simp [SC.val])
theorem sw9 (ok : c.Ok) (h : c.Inv d a W) (hi : 9 ∈ Region.ready .any swapOps d) : wpOp Try.prog swapOps Q 9 (c.Inv (d.setIfInBounds 9 true)) a W := by
  obtain ⟨o, ho, hg, hop, hd⟩ := swop_at (k := 9) (x := .load 45 (.tmp 28)) (d := some 29) (by kernel_rfl)
  have e : a.eval (.tmp 28) = .pointer (some ⟨c.bl, c.ol + (c.K + 1) * 5, none⟩) := h.slots 8 (by omega) (ready_dep hi 8 (by kernel_rfl))
  obtain ⟨b1, o1, c1, e1, _, i0, i1, i2, i3, i4⟩ := (ok.boxes.below h.below).at5 ok.hB
  simp only [SC.vl, Value.slice.injEq, Option.some.injEq, Addr.mk.injEq, true_and, and_true] at e1
  obtain ⟨⟨rfl, rfl⟩, rfl⟩ := e1
  refine wpOp_run ho hg (wp_loadB hop e i0 i1 i2 i3 i4 ?_)
  rw [hd]
  exact h.pure (k := 9) (by omega) (by simp [SC.val])
theorem sw13 (ok : c.Ok) (h : c.Inv d a W) (hi : 13 ∈ Region.ready .any swapOps d) : wpOp Try.prog swapOps Q 13 (c.Inv (d.setIfInBounds 13 true)) a W := by
  obtain ⟨o, ho, hg, hop, hd⟩ := swop_at (k := 13) (x := .load 45 (.tmp 32)) (d := some 33) (by kernel_rfl)
  have e : a.eval (.tmp 32) = .pointer (some ⟨c.bl, c.ol + c.K * 5, none⟩) := h.slots 12 (by omega) (ready_dep hi 12 (by kernel_rfl))
  obtain ⟨b1, o1, c1, e1, _, i0, i1, i2, i3, i4⟩ := (ok.boxes.below h.below).at5 ok.hA
  simp only [SC.vl, Value.slice.injEq, Option.some.injEq, Addr.mk.injEq, true_and, and_true] at e1
  obtain ⟨⟨rfl, rfl⟩, rfl⟩ := e1
  refine wpOp_run ho hg (wp_loadB hop e i0 i1 i2 i3 i4 ?_)
  rw [hd]
  exact h.pure (k := 13) (by omega) (by simp [SC.val])
theorem sw15 (ok : c.Ok) (h : c.Inv d a W) (hi : 15 ∈ Region.ready .any swapOps d) : wpOp Try.prog swapOps Q 15 (c.Inv (d.setIfInBounds 15 true)) a W := by
  obtain ⟨o, ho, hg, hop, hd⟩ := swop_at (k := 15) (x := .store 45 (.tmp 34) (.tmp 29)) (d := none) (by kernel_rfl)
  have e : a.eval (.tmp 34) = .pointer (some ⟨c.gm, c.K * 5, none⟩) := h.slots 14 (by omega) (ready_dep hi 14 (by kernel_rfl))
  have e2 : a.eval (.tmp 29) = boxV c.B := h.slots 9 (by omega) (ready_dep hi 9 (by kernel_rfl))
  have lk := (getD_two (ready_spec hi).1).2
  have ls := h.size
  have hlt : c.K < (c.cur d).length := by rw [cur_len]; have := ok.lt; omega
  obtain ⟨q, hq⟩ : ∃ q, (c.cur d)[c.K]? = some q := ⟨_, List.getElem?_eq_getElem hlt⟩
  obtain ⟨i0, i1, i2, i3, i4⟩ := own_at5 h.own hq cur_len
  have hgm : c.w0.heap.size ≤ c.gm := (h.own.lt c.gm rfl).1
  refine wpOp_run ho hg (wp_storeB hop hd e e2 i0 i1 i2 i3 i4 (fun j => h.own.frozenAt j) ?_)
  refine ⟨by simp [h.size], h.len, h.defers, h.p0, h.p1, h.p5, fun k hk hl => h.slots k hk (by rwa [getD_ne (by omega)] at hl), below_box h.below hgm _, ?_⟩
  have e3 : c.cur (d.setIfInBounds 15 true) = (c.cur d).set c.K c.B := by
    unfold SC.cur
    rw [getD_ne (i := 15) (k := 17) (by omega), getD_eq (i := 15) (by omega), lk]
    cases d.getD 17 false <;> simp [List.set_comm]
  rw [e3]
  exact own_box h.own hlt _
theorem sw17 (ok : c.Ok) (h : c.Inv d a W) (hi : 17 ∈ Region.ready .any swapOps d) : wpOp Try.prog swapOps Q 17 (c.Inv (d.setIfInBounds 17 true)) a W := by
  obtain ⟨o, ho, hg, hop, hd⟩ := swop_at (k := 17) (x := .store 45 (.tmp 35) (.tmp 33)) (d := none) (by kernel_rfl)
  have e : a.eval (.tmp 35) = .pointer (some ⟨c.gm, (c.K + 1) * 5, none⟩) := h.slots 16 (by omega) (ready_dep hi 16 (by kernel_rfl))
  have e2 : a.eval (.tmp 33) = boxV c.A := h.slots 13 (by omega) (ready_dep hi 13 (by kernel_rfl))
  have lk := (getD_two (ready_spec hi).1).2
  have ls := h.size
  have hlt : (c.K + 1) < (c.cur d).length := by rw [cur_len]; have := ok.lt; omega
  obtain ⟨q, hq⟩ : ∃ q, (c.cur d)[(c.K + 1)]? = some q := ⟨_, List.getElem?_eq_getElem hlt⟩
  obtain ⟨i0, i1, i2, i3, i4⟩ := own_at5 h.own hq cur_len
  have hgm : c.w0.heap.size ≤ c.gm := (h.own.lt c.gm rfl).1
  refine wpOp_run ho hg (wp_storeB hop hd e e2 i0 i1 i2 i3 i4 (fun j => h.own.frozenAt j) ?_)
  refine ⟨by simp [h.size], h.len, h.defers, h.p0, h.p1, h.p5, fun k hk hl => h.slots k hk (by rwa [getD_ne (by omega)] at hl), below_box h.below hgm _, ?_⟩
  have e3 : c.cur (d.setIfInBounds 17 true) = (c.cur d).set (c.K + 1) c.A := by
    unfold SC.cur
    rw [getD_ne (i := 17) (k := 15) (by omega), getD_eq (i := 17) (by omega), lk]
    cases d.getD 15 false <;> simp [List.set_comm]
  rw [e3]
  exact own_box h.own hlt _
theorem swap_op (ok : c.Ok) {k : Nat} (h : c.Inv d a W) (hi : k ∈ Region.ready .any swapOps d) : wpOp Try.prog swapOps Q k (c.Inv (d.setIfInBounds k true)) a W := by
  have hk : k < 18 := swapOps_size ▸ (ready_spec hi).2.1
  rcases (by omega : k = 0 ∨ k = 1 ∨ k = 2 ∨ k = 3 ∨ k = 4 ∨ k = 5 ∨ k = 6 ∨ k = 7 ∨ k = 8 ∨ k = 9 ∨ k = 10 ∨ k = 11 ∨ k = 12 ∨ k = 13 ∨ k = 14 ∨ k = 15 ∨ k = 16 ∨ k = 17) with rfl | rfl | rfl | rfl | rfl | rfl | rfl | rfl | rfl | rfl | rfl | rfl | rfl | rfl | rfl | rfl | rfl | rfl
  · exact sw0 h hi
  · exact sw1 h hi
  · exact sw2 h hi
  · exact sw3 h hi
  · exact sw4 ok h hi
  · exact sw5 h hi
  · exact sw6 h hi
  · exact sw7 ok h hi
  · exact sw8 ok h hi
  · exact sw9 ok h hi
  · exact sw10 h hi
  · exact sw11 h hi
  · exact sw12 ok h hi
  · exact sw13 ok h hi
  · exact sw14 ok h hi
  · exact sw15 ok h hi
  · exact sw16 ok h hi
  · exact sw17 ok h hi
theorem swap_ordered : ((List.range 18).all fun i => ((swapOps[i]?).map fun o => o.after.toList.all fun e => !Region.binds .any e || decide (e.on < i)).getD true) = true := by kernel_rfl
/-- the whole statement -/
theorem swap_region (ok : c.Ok) (h : c.Inv (Array.replicate 18 false) a W) (hQ : ∀ (a' : Act) (W' : World) (d' : Array Bool), c.Inv d' a' W' → c.cur d' = (c.l.set c.K c.B).set (c.K + 1) c.A → Q .normal a' W') :
    wpAny Try.prog .any swapOps Q 18 (Array.replicate 18 false) a W := by
  refine wpAny_inv c.Inv ?_ (fun d a w i h hi => swap_op ok h hi) 18 _ _ _ (by unfold Undone; simp) h
  intro d a w h hr
  have all := all_done hr (by rw [h.size, swapOps_size]) (by
    intro i hi o ho e he hb
    have h1 := List.all_eq_true.1 swap_ordered i (List.mem_range.2 (swapOps_size ▸ hi))
    rw [ho] at h1
    simp only [Option.map_some, Option.getD_some] at h1
    have h2 := List.all_eq_true.1 h1 e he
    simpa [hb] using h2)
  rw [swapOps_size] at all
  refine hQ a w d h ?_
  unfold SC.cur
  rw [all 15 (by omega), all 17 (by omega)]
  rfl
end
end Go.Proofs.Ytkpecagkpjabdab
