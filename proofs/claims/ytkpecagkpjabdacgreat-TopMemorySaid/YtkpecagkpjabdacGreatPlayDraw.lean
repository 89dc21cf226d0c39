/- play's statement that asks who looks on: it draws its order, each operation once. Condition: what the walk has shown ahead of it. -/
import Derived.Test.YtkpecagkpjabdacGreatDrawV
import Derived.Test.YtkpecagkpjabdacGreatPutDraw
import Derived.Test.YtkpecagkpjabdacGreatBagH
import Derived.Test.YtkpecagkpjabdacGreatBagW
namespace Go.Proofs.YtkpecagkpjabdacGreat
open Go.RowKit
set_option linter.unusedVariables false
set_option linter.unusedSimpArgs false
set_option maxRecDepth 100000
set_option maxRecDepth 100000
noncomputable def pl12C : Code := ((Tryz.f23.body.bind (regionOf 12)).getD .skip)
noncomputable def pl12Ops : Array Oper := match pl12C with
  | .region _ ops _ => ops
  | _ => #[]
theorem pl12C_is : pl12C = .region 12 pl12Ops true := by kernel_rfl
theorem pl12Ops_size : pl12Ops.size = 9 := by kernel_rfl
def pl12Slot (k : Nat) : Option Nat := ([some 53, some 54, some 55, some 56, some 57, some 58, some 59, some 60, some 61] : List (Option Nat)).getD k none
def pl12Val (l : List M.Act) (g k p13 : Nat) (x : M.Act) (r : M.Reply) (ai am : Option Addr) (b o cv ci cm : Nat) (f : FuncId) (cap : Value) (PP : World → Prop) (j : Nat) : Value := ([.func (.func f) #[] #[cap], .pointer (some ⟨g, 0, none⟩), .slice (some ⟨b, o, none⟩) l.length cv, .int .i64 (k : Int), .pointer (some ⟨b, o + k * 17, none⟩), actV x, replyV r (.slice ai r.ids.length ci) (.slice am r.met.length cm), .bool true, .bool false] : List Value).getD j undef
def pl12Needs (k : Nat) : List Nat := ([[], [], [], [], [2, 3], [4], [], [0, 1, 5, 6], [7]] : List (List Nat)).getD k []
def pl12Mem (PP : World → Prop) (W0 : World) (l : Array Bool) (W : World) : Prop := if l.getD 7 false = true then PP W else W = W0
noncomputable def pl12K (l : List M.Act) (g k p13 : Nat) (x : M.Act) (r : M.Reply) (ai am : Option Addr) (b o cv ci cm : Nat) (f : FuncId) (cap : Value) (PP : World → Prop) (a0 : Act) (W0 : World) : DV := { P := Tryz.prog, ops := pl12Ops, a0 := a0, n := 9, slot := pl12Slot, val := pl12Val l g k p13 x r ai am b o cv ci cm f cap PP, needs := pl12Needs, mem := pl12Mem PP W0 }
theorem pl12_at {k : Nat} {o : Oper} {x : Op} {d : Option Nat} (ho : pl12Ops[k]? = some o) (h : (pl12Ops[k]?).map (fun o => (o.op, o.dst)) = some (x, d)) : o.op = x ∧ o.dst = d := by
  rw [ho] at h
  simpa using h
section
variable {l : List M.Act} {g k p13 : Nat} {x : M.Act} {r : M.Reply} {ai am : Option Addr} {b o cv ci cm : Nat} {f : FuncId} {cap : Value} {PP : World → Prop} {a0 : Act} {W0 : World} {Q : Exit → Act → World → Prop}
theorem pl12_keep {ll : Array Bool} {W : World} {k : Nat} (h : pl12Mem PP W0 ll W) (h1 : k ≠ 7) : pl12Mem PP W0 (ll.setIfInBounds k true) W := by
  unfold pl12Mem at h ⊢
  rw [DV.set_ne h1]
  exact h
structure pl12Ok (l : List M.Act) (g k p13 : Nat) (x : M.Act) (r : M.Reply) (ai am : Option Addr) (b o cv ci cm : Nat) (f : FuncId) (cap : Value) (PP : World → Prop) (a0 : Act) (W0 : World) : Prop where
  h3 : a0.eval (.tmp 3) = .func (.func f) #[] #[cap]
  h10 : a0.eval (.tmp 10) = .pointer (some ⟨g, 0, none⟩)
  h2 : a0.eval (.tmp 2) = .slice (some ⟨b, o, none⟩) l.length cv
  h12 : a0.eval (.tmp 12) = .int .i64 (k : Int)
  h13 : a0.eval (.tmp 13) = .pointer (some ⟨p13, 0, none⟩)
  hk : k < l.length
  hmx : l.length ≤ 9223372036854775807
  act : ActCells W0 b (o + k * 17) x
  box : Blk W0 p13 40 #[.int .i64 r.code, .int .i64 r.n, .slice ai r.ids.length ci, .slice am r.met.length cm]
  enter : ∀ (args : Array Value) (w : World), (callFunc f args).run Tryz.prog w = .ok (.enter f args) w
  look : Calls Tryz.prog f #[.pointer (some ⟨g, 0, none⟩), actV x, replyV r (.slice ai r.ids.length ci) (.slice am r.met.length cm), cap] W0 fun e W' => e = .returned (.bool true) ∧ PP W'
set_option maxHeartbeats 2000000 in
theorem pl12_op0 (ok : pl12Ok l g k p13 x r ai am b o cv ci cm f cap PP a0 W0) : (pl12K l g k p13 x r ai am b o cv ci cm f cap PP a0 W0).StepOk Q 0 := by
  intro ll fr W F oo ho K hK
  obtain ⟨hop, hd⟩ := pl12_at ho (x := .move (.tmp 3)) (d := some 53) (by kernel_rfl)
  have s3 := (F.other 3 (show ∀ k, k < 9 → pl12Slot k ≠ some 3 from by decide)).trans ok.h3
  show oo.wp Tryz.prog fr W K Q
  unfold Oper.wp
  simp only [execOp, hop, s3, List.map_toArray, List.map_cons, List.map_nil]
  go_simp
  exact hK _ (pl12_keep F.mem (by decide))
set_option maxHeartbeats 2000000 in
theorem pl12_op1 (ok : pl12Ok l g k p13 x r ai am b o cv ci cm f cap PP a0 W0) : (pl12K l g k p13 x r ai am b o cv ci cm f cap PP a0 W0).StepOk Q 1 := by
  intro ll fr W F oo ho K hK
  obtain ⟨hop, hd⟩ := pl12_at ho (x := .move (.tmp 10)) (d := some 54) (by kernel_rfl)
  have s10 := (F.other 10 (show ∀ k, k < 9 → pl12Slot k ≠ some 10 from by decide)).trans ok.h10
  show oo.wp Tryz.prog fr W K Q
  unfold Oper.wp
  simp only [execOp, hop, s10, List.map_toArray, List.map_cons, List.map_nil]
  go_simp
  exact hK _ (pl12_keep F.mem (by decide))
set_option maxHeartbeats 2000000 in
theorem pl12_op2 (ok : pl12Ok l g k p13 x r ai am b o cv ci cm f cap PP a0 W0) : (pl12K l g k p13 x r ai am b o cv ci cm f cap PP a0 W0).StepOk Q 2 := by
  intro ll fr W F oo ho K hK
  obtain ⟨hop, hd⟩ := pl12_at ho (x := .move (.tmp 2)) (d := some 55) (by kernel_rfl)
  have s2 := (F.other 2 (show ∀ k, k < 9 → pl12Slot k ≠ some 2 from by decide)).trans ok.h2
  show oo.wp Tryz.prog fr W K Q
  unfold Oper.wp
  simp only [execOp, hop, s2, List.map_toArray, List.map_cons, List.map_nil]
  go_simp
  exact hK _ (pl12_keep F.mem (by decide))
set_option maxHeartbeats 2000000 in
theorem pl12_op3 (ok : pl12Ok l g k p13 x r ai am b o cv ci cm f cap PP a0 W0) : (pl12K l g k p13 x r ai am b o cv ci cm f cap PP a0 W0).StepOk Q 3 := by
  intro ll fr W F oo ho K hK
  obtain ⟨hop, hd⟩ := pl12_at ho (x := .move (.tmp 12)) (d := some 56) (by kernel_rfl)
  have s12 := (F.other 12 (show ∀ k, k < 9 → pl12Slot k ≠ some 12 from by decide)).trans ok.h12
  show oo.wp Tryz.prog fr W K Q
  unfold Oper.wp
  simp only [execOp, hop, s12, List.map_toArray, List.map_cons, List.map_nil]
  go_simp
  exact hK _ (pl12_keep F.mem (by decide))
set_option maxHeartbeats 2000000 in
theorem pl12_op4 (ok : pl12Ok l g k p13 x r ai am b o cv ci cm f cap PP a0 W0) : (pl12K l g k p13 x r ai am b o cv ci cm f cap PP a0 W0).StepOk Q 4 := by
  intro ll fr W F oo ho K hK
  obtain ⟨hop, hd⟩ := pl12_at ho (x := .indexAddr 43 (.tmp 55) (.tmp 56)) (d := some 57) (by kernel_rfl)
  have e2 : fr.eval (.tmp 55) = pl12Val l g k p13 x r ai am b o cv ci cm f cap PP 2 := F.vals 2 55 (show 2 ∈ pl12Needs 4 from by decide) rfl
  simp only [pl12Val, List.getD_cons_zero, List.getD_cons_succ] at e2
  have e3 : fr.eval (.tmp 56) = pl12Val l g k p13 x r ai am b o cv ci cm f cap PP 3 := F.vals 3 56 (show 3 ∈ pl12Needs 4 from by decide) rfl
  simp only [pl12Val, List.getD_cons_zero, List.getD_cons_succ] at e3
  have hk := ok.hk
  have hmx := ok.hmx
  have q0 : (0 : Int) ≤ (k : Int) := by omega
  have q1 : (k : Int) < (l.length : Int) := by omega
  show oo.wp Tryz.prog fr W K Q
  unfold Oper.wp
  simp only [execOp, hop, e2, e3, List.map_toArray, List.map_cons, List.map_nil]
  go_simp
  exact hK _ (pl12_keep F.mem (by decide))
set_option maxHeartbeats 2000000 in
theorem pl12_op5 (ok : pl12Ok l g k p13 x r ai am b o cv ci cm f cap PP a0 W0) : (pl12K l g k p13 x r ai am b o cv ci cm f cap PP a0 W0).StepOk Q 5 := by
  intro ll fr W F oo ho K hK
  obtain ⟨hop, hd⟩ := pl12_at ho (x := .load 27 (.tmp 57)) (d := some 58) (by kernel_rfl)
  have e4 : fr.eval (.tmp 57) = pl12Val l g k p13 x r ai am b o cv ci cm f cap PP 4 := F.vals 4 57 (show 4 ∈ pl12Needs 5 from by decide) rfl
  simp only [pl12Val, List.getD_cons_zero, List.getD_cons_succ] at e4
  have l7 : ll.getD 7 false = false := by
    cases hx : ll.getD 7 false with
    | false => rfl
    | true => have h := F.closed 7 5 (show 5 ∈ pl12Needs 7 from by decide) hx; rw [F.not] at h; cases h
  have hW : W = W0 := by
    have h : pl12Mem PP W0 ll W := F.mem
    unfold pl12Mem at h
    rw [if_neg (by rw [l7]; simp)] at h
    exact h
  subst hW
  obtain ⟨y0, y1, y2, y3, y4, y5, y6, y7, y8, y9, y10, y11, y12, y13, y14, y15, y16⟩ := ok.act.all
  show oo.wp Tryz.prog fr W K Q
  unfold Oper.wp
  simp only [execOp, hop, e4, List.map_toArray, List.map_cons, List.map_nil]
  go_simp
  exact hK _ (pl12_keep F.mem (by decide))
set_option maxHeartbeats 2000000 in
theorem pl12_op6 (ok : pl12Ok l g k p13 x r ai am b o cv ci cm f cap PP a0 W0) : (pl12K l g k p13 x r ai am b o cv ci cm f cap PP a0 W0).StepOk Q 6 := by
  intro ll fr W F oo ho K hK
  obtain ⟨hop, hd⟩ := pl12_at ho (x := .load 40 (.tmp 13)) (d := some 59) (by kernel_rfl)
  have s13 := (F.other 13 (show ∀ k, k < 9 → pl12Slot k ≠ some 13 from by decide)).trans ok.h13
  have l7 : ll.getD 7 false = false := by
    cases hx : ll.getD 7 false with
    | false => rfl
    | true => have h := F.closed 7 6 (show 6 ∈ pl12Needs 7 from by decide) hx; rw [F.not] at h; cases h
  have hW : W = W0 := by
    have h : pl12Mem PP W0 ll W := F.mem
    unfold pl12Mem at h
    rw [if_neg (by rw [l7]; simp)] at h
    exact h
  subst hW
  have u0 := ok.box.cell 0
  have u1 := ok.box.cell 1
  have u2 := ok.box.cell 2
  have u3 := ok.box.cell 3
  simp at u0 u1 u2 u3
  show oo.wp Tryz.prog fr W K Q
  unfold Oper.wp
  simp only [execOp, hop, s13, List.map_toArray, List.map_cons, List.map_nil]
  go_simp
  exact hK _ (pl12_keep F.mem (by decide))
set_option maxHeartbeats 2000000 in
theorem pl12_op7 (ok : pl12Ok l g k p13 x r ai am b o cv ci cm f cap PP a0 W0) : (pl12K l g k p13 x r ai am b o cv ci cm f cap PP a0 W0).StepOk Q 7 := by
  intro ll fr W F oo ho K hK
  obtain ⟨hop, hd⟩ := pl12_at ho (x := .call { callee := .value (.tmp 53), args := #[.tmp 54, .tmp 58, .tmp 59], argTypes := #[28, 27, 40] }) (d := some 60) (by kernel_rfl)
  have e0 : fr.eval (.tmp 53) = pl12Val l g k p13 x r ai am b o cv ci cm f cap PP 0 := F.vals 0 53 (show 0 ∈ pl12Needs 7 from by decide) rfl
  simp only [pl12Val, List.getD_cons_zero, List.getD_cons_succ] at e0
  have e1 : fr.eval (.tmp 54) = pl12Val l g k p13 x r ai am b o cv ci cm f cap PP 1 := F.vals 1 54 (show 1 ∈ pl12Needs 7 from by decide) rfl
  simp only [pl12Val, List.getD_cons_zero, List.getD_cons_succ] at e1
  have e5 : fr.eval (.tmp 58) = pl12Val l g k p13 x r ai am b o cv ci cm f cap PP 5 := F.vals 5 58 (show 5 ∈ pl12Needs 7 from by decide) rfl
  simp only [pl12Val, List.getD_cons_zero, List.getD_cons_succ] at e5
  have e6 : fr.eval (.tmp 59) = pl12Val l g k p13 x r ai am b o cv ci cm f cap PP 6 := F.vals 6 59 (show 6 ∈ pl12Needs 7 from by decide) rfl
  simp only [pl12Val, List.getD_cons_zero, List.getD_cons_succ] at e6
  have l7 : ll.getD 7 false = false := F.not
  have hW : W = W0 := by
    have h : pl12Mem PP W0 ll W := F.mem
    unfold pl12Mem at h
    rw [if_neg (by rw [l7]; simp)] at h
    exact h
  subst hW
  have hfe := ok.enter
  show oo.wp Tryz.prog fr W K Q
  unfold Oper.wp
  simp only [execOp, hop, resolve, e0, e1, e5, e6, List.map_toArray, List.map_cons, List.map_nil]
  go_simp
  refine ok.look.mono ?_
  rintro e W2 ⟨rfl, hp⟩
  refine hK _ ?_
  show pl12Mem PP W (ll.setIfInBounds 7 true) W2
  unfold pl12Mem
  rw [DV.set_eq (by have h := F.size; have h2 : (pl12K l g k p13 x r ai am b o cv ci cm f cap PP a0 W).n = 9 := rfl; omega)]
  simpa using hp
set_option maxHeartbeats 2000000 in
theorem pl12_op8 (ok : pl12Ok l g k p13 x r ai am b o cv ci cm f cap PP a0 W0) : (pl12K l g k p13 x r ai am b o cv ci cm f cap PP a0 W0).StepOk Q 8 := by
  intro ll fr W F oo ho K hK
  obtain ⟨hop, hd⟩ := pl12_at ho (x := .unOp .not 4 (.tmp 60)) (d := some 61) (by kernel_rfl)
  have e7 : fr.eval (.tmp 60) = pl12Val l g k p13 x r ai am b o cv ci cm f cap PP 7 := F.vals 7 60 (show 7 ∈ pl12Needs 8 from by decide) rfl
  simp only [pl12Val, List.getD_cons_zero, List.getD_cons_succ] at e7
  show oo.wp Tryz.prog fr W K Q
  unfold Oper.wp
  simp only [execOp, hop, e7, List.map_toArray, List.map_cons, List.map_nil]
  go_simp
  exact hK _ (pl12_keep F.mem (by decide))
theorem pl12_ok (ok : pl12Ok l g k p13 x r ai am b o cv ci cm f cap PP a0 W0) (hz : a0.tmps.size = 64) : (pl12K l g k p13 x r ai am b o cv ci cm f cap PP a0 W0).Ok Q where
  size := pl12Ops_size
  guards := by
    intro k hk o ho
    have h : ((pl12Ops.toList.all fun o => o.guard.isNone)) = true := by kernel_rfl
    have := List.all_eq_true.1 h o (List.mem_of_getElem? (by rw [Array.getElem?_toList]; exact ho))
    simpa using this
  waits := by
    have h : ((List.range 9).all fun k => (pl12Needs k).all fun j => waits .any pl12Ops k j) = true := by kernel_rfl
    intro k hk j hj
    exact List.all_eq_true.1 (List.all_eq_true.1 h k (List.mem_range.2 hk)) j hj
  step := by
    intro k hk
    have hk' : k < 9 := hk
    rcases (by omega : k = 0 ∨ k = 1 ∨ k = 2 ∨ k = 3 ∨ k = 4 ∨ k = 5 ∨ k = 6 ∨ k = 7 ∨ k = 8) with rfl | rfl | rfl | rfl | rfl | rfl | rfl | rfl | rfl
    · exact pl12_op0 ok
    · exact pl12_op1 ok
    · exact pl12_op2 ok
    · exact pl12_op3 ok
    · exact pl12_op4 ok
    · exact pl12_op5 ok
    · exact pl12_op6 ok
    · exact pl12_op7 ok
    · exact pl12_op8 ok
  inj := by
    have h : ((List.range 9).all fun j => (List.range 9).all fun k => match pl12Slot j, pl12Slot k with | some s, some t => decide (s = t → j = k) | _, _ => true) = true := by decide
    intro j k s hj hk h1 h2
    have := List.all_eq_true.1 (List.all_eq_true.1 h j (List.mem_range.2 hj)) k (List.mem_range.2 hk)
    have h1' : pl12Slot j = some s := h1
    have h2' : pl12Slot k = some s := h2
    rw [h1', h2'] at this
    simpa using this
  room := by
    have h : ((List.range 9).all fun j => match pl12Slot j with | some s => decide (s < 64) | none => true) = true := by decide
    intro k s hk h1
    have := List.all_eq_true.1 h k (List.mem_range.2 hk)
    have h1' : pl12Slot k = some s := h1
    rw [h1'] at this
    show s < a0.tmps.size
    rw [hz]
    simpa using this
theorem pl12_ordered : ((List.range 9).all fun i => ((pl12Ops[i]?).map fun o => o.after.toList.all fun e => !Region.binds .any e || decide (e.on < i)).getD true) = true := by kernel_rfl
/-- slots of a frame that have been written, one behind the other -/
def setP (A : Array Value) (s : Nat) : List Value → Array Value
  | [] => A
  | v :: vs => setP (A.setIfInBounds s v) (s + 1) vs
theorem setP_size (A : Array Value) (s : Nat) (vs : List Value) : (setP A s vs).size = A.size := by
  induction vs generalizing A s with
  | nil => rfl
  | cons v vs ih => rw [setP, ih]; simp
theorem setP_get (A : Array Value) (s : Nat) (vs : List Value) (i : Nat) (hi : i < A.size) : (setP A s vs)[i]? = if s ≤ i ∧ i < s + vs.length then vs[i - s]? else A[i]? := by
  induction vs generalizing A s with
  | nil => rw [setP, if_neg (by simp only [List.length_nil]; omega)]
  | cons v vs ih =>
    rw [setP, ih _ _ (by simpa using hi)]
    simp only [List.length_cons]
    by_cases h1 : s + 1 ≤ i ∧ i < s + 1 + vs.length
    · rw [if_pos h1, if_pos (by omega), show i - s = (i - (s + 1)) + 1 by omega, List.getElem?_cons_succ]
    · rw [if_neg h1, Array.getElem?_setIfInBounds]
      by_cases h2 : s = i
      · subst h2
        rw [if_pos rfl]
        simp [hi]
      · rw [if_neg h2, if_neg (by omega)]
theorem frame9 {tm A : Array Value} {n : Nat} (s : Nat) (hz : tm.size = n) (hA : A.size = n) (h : ∀ i, (i < s ∨ s + 8 < i) → tm.getD i undef = A.getD i undef) :
    tm = setP A s [tm.getD (s + 0) undef, tm.getD (s + 1) undef, tm.getD (s + 2) undef, tm.getD (s + 3) undef, tm.getD (s + 4) undef, tm.getD (s + 5) undef, tm.getD (s + 6) undef, tm.getD (s + 7) undef, tm.getD (s + 8) undef] := by
  apply Array.ext_getElem?
  intro i
  by_cases hi : i < n
  · rw [setP_get _ _ _ _ (by omega)]
    have e : tm[i]? = some (tm.getD i undef) := by simp [Array.getD, hz, hi]
    rw [e]
    by_cases h1 : s ≤ i ∧ i < s + 9
    · rw [if_pos (by simpa using h1)]
      obtain ⟨k, rfl⟩ : ∃ k, i = s + k := ⟨i - s, by omega⟩
      rw [show s + k - s = k by omega]
      rcases (by omega : k = 0 ∨ k = 1 ∨ k = 2 ∨ k = 3 ∨ k = 4 ∨ k = 5 ∨ k = 6 ∨ k = 7 ∨ k = 8) with rfl | rfl | rfl | rfl | rfl | rfl | rfl | rfl | rfl <;> rfl
    · rw [if_neg (by simpa using h1), h i (by omega)]
      simp [Array.getD, hA, hi]
  · rw [Array.getElem?_eq_none (by omega), Array.getElem?_eq_none (by rw [setP_size]; omega)]
/-- the whole statement -/
theorem pl12_region (ok : pl12Ok l g k p13 x r ai am b o cv ci cm f cap PP a0 W0) (hz : a0.tmps.size = 64) (hd : a0.defers = [])
    (hQ : ∀ (v0 v1 v2 v3 v4 v5 v6 v7 : Value) (W' : World), PP W' → Q .normal ⟨setP a0.tmps 53 [v0, v1, v2, v3, v4, v5, v6, v7, .bool false], []⟩ W') :
    wpAny Tryz.prog .any pl12Ops Q 9 (Array.replicate 9 false) a0 W0 := by
  have z : ∀ k, (Array.replicate 9 false).getD k false = false := fun k => by
    by_cases hk : k < 9 <;> simp [Array.getD, hk]
  refine DV.region (c := pl12K l g k p13 x r ai am b o cv ci cm f cap PP a0 W0) (pl12_ok ok hz) pl12_ordered ?_ ?_
  · show pl12Mem PP W0 (Array.replicate 9 false) W0
    unfold pl12Mem
    rw [if_neg (by rw [z]; simp)]
  · intro a' l' W' h1 h2 h3 hv hl hm
    obtain ⟨tm, df⟩ := a'
    have hdf : df = [] := h2.trans hd
    subst hdf
    have hb : ∀ k, k < 9 → ∀ s, pl12Slot k = some s → 53 ≤ s ∧ s ≤ 61 := by
      intro k hk s e
      rcases (by omega : k = 0 ∨ k = 1 ∨ k = 2 ∨ k = 3 ∨ k = 4 ∨ k = 5 ∨ k = 6 ∨ k = 7 ∨ k = 8) with rfl | rfl | rfl | rfl | rfl | rfl | rfl | rfl | rfl <;> simp [pl12Slot] at e <;> omega
    have hfr : ∀ i, (i < 53 ∨ 53 + 8 < i) → tm.getD i undef = a0.tmps.getD i undef := by
      intro i hi
      have h5 : (⟨tm, []⟩ : Act).eval (.tmp i) = a0.eval (.tmp i) := h3 i (fun k hk e => by
        have := hb k hk i e
        omega)
      exact h5
    have hz1 : tm.size = 64 := h1.trans hz
    have ht := frame9 53 hz1 hz hfr
    have h61 : tm.getD (53 + 8) undef = .bool false := hv 8 61 (show 8 < 9 from by decide) rfl
    rw [h61] at ht
    rw [ht]
    refine hQ _ _ _ _ _ _ _ _ W' ?_
    have h7 : pl12Mem PP W0 l' W' := hm
    unfold pl12Mem at h7
    rw [if_pos (hl 7 (show 7 < 9 from by decide))] at h7
    exact h7
end
end Go.Proofs.YtkpecagkpjabdacGreat
