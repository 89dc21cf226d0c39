/- WorldOrder's two statements that change the first place and another one for each other, in slices of the call's own: each operation once. Condition: what the walk has shown ahead of it. -/
import Derived.Test.YtkpecagkpjabdabGreatDrawV
import Derived.Test.YtkpecagkpjabdabGreatOrderRows
import Derived.Test.YtkpecagkpjabdabGreatLawOrder
import Derived.Test.YtkpecagkpjabdabGreatPutDraw
namespace Go.Proofs.YtkpecagkpjabdabGreat
open Go.RowKit
set_option linter.unusedVariables false
set_option linter.unusedSimpArgs false
set_option maxRecDepth 100000
set_option maxRecDepth 100000
/-- slots of a frame that have been written, one behind the other -/
def setL (A : Array Value) (s : Nat) : List Value → Array Value
  | [] => A
  | v :: vs => setL (A.setIfInBounds s v) (s + 1) vs
theorem setL_size (A : Array Value) (s : Nat) (vs : List Value) : (setL A s vs).size = A.size := by
  induction vs generalizing A s with
  | nil => rfl
  | cons v vs ih => rw [setL, ih]; simp
theorem setL_get (A : Array Value) (s : Nat) (vs : List Value) (i : Nat) (hi : i < A.size) : (setL A s vs)[i]? = if s ≤ i ∧ i < s + vs.length then vs[i - s]? else A[i]? := by
  induction vs generalizing A s with
  | nil => rw [setL, if_neg (by simp only [List.length_nil]; omega)]
  | cons v vs ih =>
    rw [setL, ih _ _ (by simpa using hi)]
    simp only [List.length_cons]
    by_cases h1 : s + 1 ≤ i ∧ i < s + 1 + vs.length
    · rw [if_pos h1, if_pos (by omega), show i - s = (i - (s + 1)) + 1 by omega, List.getElem?_cons_succ]
    · rw [if_neg h1, Array.getElem?_setIfInBounds]
      by_cases h2 : s = i
      · subst h2
        rw [if_pos rfl]
        simp [hi]
      · rw [if_neg h2, if_neg (by omega)]
theorem frame12 {tm A : Array Value} {n : Nat} (s : Nat) (hz : tm.size = n) (hA : A.size = n) (h : ∀ i, (i < s ∨ s + 11 < i) → tm.getD i undef = A.getD i undef) :
    ∃ v0 v1 v2 v3 v4 v5 v6 v7 v8 v9 v10 v11, tm = setL A s [v0, v1, v2, v3, v4, v5, v6, v7, v8, v9, v10, v11] := by
  refine ⟨tm.getD (s + 0) undef, tm.getD (s + 1) undef, tm.getD (s + 2) undef, tm.getD (s + 3) undef, tm.getD (s + 4) undef, tm.getD (s + 5) undef, tm.getD (s + 6) undef, tm.getD (s + 7) undef, tm.getD (s + 8) undef, tm.getD (s + 9) undef, tm.getD (s + 10) undef, tm.getD (s + 11) undef, ?_⟩
  apply Array.ext_getElem?
  intro i
  by_cases hi : i < n
  · rw [setL_get _ _ _ _ (by omega)]
    have e : tm[i]? = some (tm.getD i undef) := by simp [Array.getD, hz, hi]
    rw [e]
    by_cases h1 : s ≤ i ∧ i < s + 12
    · rw [if_pos (by simpa using h1)]
      obtain ⟨k, rfl⟩ : ∃ k, i = s + k := ⟨i - s, by omega⟩
      rw [show s + k - s = k by omega]
      rcases (by omega : k = 0 ∨ k = 1 ∨ k = 2 ∨ k = 3 ∨ k = 4 ∨ k = 5 ∨ k = 6 ∨ k = 7 ∨ k = 8 ∨ k = 9 ∨ k = 10 ∨ k = 11) with rfl | rfl | rfl | rfl | rfl | rfl | rfl | rfl | rfl | rfl | rfl | rfl <;> rfl
    · rw [if_neg (by simpa using h1), h i (by omega)]
      simp [Array.getD, hA, hi]
  · rw [Array.getElem?_eq_none (by omega), Array.getElem?_eq_none (by rw [setL_size]; omega)]
noncomputable def swiC : Code := ((Tryz.f6.body.bind (regionOf 10)).getD .skip)
noncomputable def swiOps : Array Oper := match swiC with
  | .region _ ops _ => ops
  | _ => #[]
theorem swiC_is : swiC = .region 10 swiOps true := by kernel_rfl
theorem swiOps_size : swiOps.size = 14 := by kernel_rfl
def swiSlot (k : Nat) : Option Nat := ([some 43, some 44, some 45, some 46, some 47, some 48, some 49, some 50, some 51, some 52, some 53, none, some 54, none] : List (Option Nat)).getD k none
def swiVal (g n cp p base : Nat) (xs : List Int) (x0 xp : Int) (k : Nat) : Value := ([.slice (some ⟨g, 0, none⟩) n cp, .slice (some ⟨g, 0, none⟩) n cp, .int .i64 (p : Int), .slice (some ⟨g, 0, none⟩) n cp, .int .i64 (p : Int), .pointer (some ⟨g, p, none⟩), .int .i64 xp, .slice (some ⟨g, 0, none⟩) n cp, .pointer (some ⟨g, 0, none⟩), .int .i64 x0, .pointer (some ⟨g, 0, none⟩), undef, .pointer (some ⟨g, p, none⟩), undef] : List Value).getD k undef
def swiNeeds (k : Nat) : List Nat := ([[], [], [], [], [], [3, 4], [5], [], [7], [8], [0], [10, 6, 9], [1, 2], [12, 9, 11]] : List (List Nat)).getD k []
def swiCur (g n cp p base : Nat) (xs : List Int) (x0 xp : Int) (l : Array Bool) : List Int := if l.getD 13 false = true then (xs.set 0 xp).set p x0 else if l.getD 11 false = true then xs.set 0 xp else xs
def swiMem (g n cp p base : Nat) (xs : List Int) (x0 xp : Int) (wf : World) (l : Array Bool) (W : World) : Prop := W.ownsRow base 3 1 (.slice (some ⟨g, 0, none⟩) n cp) n ((swiCur g n cp p base xs x0 xp l).map (Value.int .i64)) ∧ FarO g wf W
noncomputable def swiK (g n cp p base : Nat) (xs : List Int) (x0 xp : Int) (a0 : Act) (wf : World) : DV := { P := Tryz.prog, ops := swiOps, a0 := a0, n := 14, slot := swiSlot, val := swiVal g n cp p base xs x0 xp, needs := swiNeeds, mem := swiMem g n cp p base xs x0 xp wf }
theorem swi_at {k : Nat} {o : Oper} {x : Op} {d : Option Nat} (ho : swiOps[k]? = some o) (h : (swiOps[k]?).map (fun o => (o.op, o.dst)) = some (x, d)) : o.op = x ∧ o.dst = d := by
  rw [ho] at h
  simpa using h
section
variable {g n cp p base : Nat} {xs : List Int} {x0 xp : Int} {a0 : Act} {wf : World} {Q : Exit → Act → World → Prop}
theorem swi_keep {l : Array Bool} {W : World} {k : Nat} (h : swiMem g n cp p base xs x0 xp wf l W) (h1 : k ≠ 11) (h2 : k ≠ 13) : swiMem g n cp p base xs x0 xp wf (l.setIfInBounds k true) W := by
  unfold swiMem swiCur at h ⊢
  rw [DV.set_ne h1, DV.set_ne h2]
  exact h
structure swiOk (g n cp p base : Nat) (xs : List Int) (x0 xp : Int) (a0 : Act) : Prop where
  hv : a0.eval (.tmp 8) = .slice (some ⟨g, 0, none⟩) n cp
  hp : a0.eval (.tmp 10) = .int .i64 (p : Int)
  hn : xs.length = n
  hpn : p < n
  hmx : n ≤ 100
  e0 : xs[0]? = some x0
  ep : xs[p]? = some xp
set_option maxHeartbeats 1000000 in
theorem swi_op0 (ok : swiOk g n cp p base xs x0 xp a0) : (swiK g n cp p base xs x0 xp a0 wf).StepOk Q 0 := by
  obtain ⟨hv, hp, hn, hpn, hmx, h0, hxp⟩ := ok
  intro ll fr W F oo ho K hK
  obtain ⟨hop, hd⟩ := swi_at ho (x := .move (.tmp 8)) (d := some 43) (by kernel_rfl)
  have s8 := (F.other 8 (show ∀ k, k < 14 → swiSlot k ≠ some 8 from by decide)).trans hv
  show oo.wp Tryz.prog fr W K Q
  unfold Oper.wp
  simp only [execOp, hop, s8, List.map_toArray, List.map_cons, List.map_nil]
  go_simp
  exact hK _ (swi_keep F.mem (by decide) (by decide))
set_option maxHeartbeats 1000000 in
theorem swi_op1 (ok : swiOk g n cp p base xs x0 xp a0) : (swiK g n cp p base xs x0 xp a0 wf).StepOk Q 1 := by
  obtain ⟨hv, hp, hn, hpn, hmx, h0, hxp⟩ := ok
  intro ll fr W F oo ho K hK
  obtain ⟨hop, hd⟩ := swi_at ho (x := .move (.tmp 8)) (d := some 44) (by kernel_rfl)
  have s8 := (F.other 8 (show ∀ k, k < 14 → swiSlot k ≠ some 8 from by decide)).trans hv
  show oo.wp Tryz.prog fr W K Q
  unfold Oper.wp
  simp only [execOp, hop, s8, List.map_toArray, List.map_cons, List.map_nil]
  go_simp
  exact hK _ (swi_keep F.mem (by decide) (by decide))
set_option maxHeartbeats 1000000 in
theorem swi_op2 (ok : swiOk g n cp p base xs x0 xp a0) : (swiK g n cp p base xs x0 xp a0 wf).StepOk Q 2 := by
  obtain ⟨hv, hp, hn, hpn, hmx, h0, hxp⟩ := ok
  intro ll fr W F oo ho K hK
  obtain ⟨hop, hd⟩ := swi_at ho (x := .move (.tmp 10)) (d := some 45) (by kernel_rfl)
  have s10 := (F.other 10 (show ∀ k, k < 14 → swiSlot k ≠ some 10 from by decide)).trans hp
  show oo.wp Tryz.prog fr W K Q
  unfold Oper.wp
  simp only [execOp, hop, s10, List.map_toArray, List.map_cons, List.map_nil]
  go_simp
  exact hK _ (swi_keep F.mem (by decide) (by decide))
set_option maxHeartbeats 1000000 in
theorem swi_op3 (ok : swiOk g n cp p base xs x0 xp a0) : (swiK g n cp p base xs x0 xp a0 wf).StepOk Q 3 := by
  obtain ⟨hv, hp, hn, hpn, hmx, h0, hxp⟩ := ok
  intro ll fr W F oo ho K hK
  obtain ⟨hop, hd⟩ := swi_at ho (x := .move (.tmp 8)) (d := some 46) (by kernel_rfl)
  have s8 := (F.other 8 (show ∀ k, k < 14 → swiSlot k ≠ some 8 from by decide)).trans hv
  show oo.wp Tryz.prog fr W K Q
  unfold Oper.wp
  simp only [execOp, hop, s8, List.map_toArray, List.map_cons, List.map_nil]
  go_simp
  exact hK _ (swi_keep F.mem (by decide) (by decide))
set_option maxHeartbeats 1000000 in
theorem swi_op4 (ok : swiOk g n cp p base xs x0 xp a0) : (swiK g n cp p base xs x0 xp a0 wf).StepOk Q 4 := by
  obtain ⟨hv, hp, hn, hpn, hmx, h0, hxp⟩ := ok
  intro ll fr W F oo ho K hK
  obtain ⟨hop, hd⟩ := swi_at ho (x := .move (.tmp 10)) (d := some 47) (by kernel_rfl)
  have s10 := (F.other 10 (show ∀ k, k < 14 → swiSlot k ≠ some 10 from by decide)).trans hp
  show oo.wp Tryz.prog fr W K Q
  unfold Oper.wp
  simp only [execOp, hop, s10, List.map_toArray, List.map_cons, List.map_nil]
  go_simp
  exact hK _ (swi_keep F.mem (by decide) (by decide))
set_option maxHeartbeats 1000000 in
theorem swi_op5 (ok : swiOk g n cp p base xs x0 xp a0) : (swiK g n cp p base xs x0 xp a0 wf).StepOk Q 5 := by
  obtain ⟨hv, hp, hn, hpn, hmx, h0, hxp⟩ := ok
  intro ll fr W F oo ho K hK
  obtain ⟨hop, hd⟩ := swi_at ho (x := .indexAddr 33 (.tmp 46) (.tmp 47)) (d := some 48) (by kernel_rfl)
  have e3 : fr.eval (.tmp 46) = swiVal g n cp p base xs x0 xp 3 := F.vals 3 46 (show 3 ∈ swiNeeds 5 from by decide) rfl
  simp only [swiVal, List.getD_cons_zero, List.getD_cons_succ] at e3
  have e4 : fr.eval (.tmp 47) = swiVal g n cp p base xs x0 xp 4 := F.vals 4 47 (show 4 ∈ swiNeeds 5 from by decide) rfl
  simp only [swiVal, List.getD_cons_zero, List.getD_cons_succ] at e4
  have q1 : (0 : Int) ≤ (p : Int) := by omega
  have q2 : (p : Int) < (n : Int) := by omega
  have q3 : (0 : Int) < (n : Int) := by omega
  have q4 : n ≤ 9223372036854775807 := by omega
  have q5 : 0 < n := by omega
  show oo.wp Tryz.prog fr W K Q
  unfold Oper.wp
  simp only [execOp, hop, e3, e4, List.map_toArray, List.map_cons, List.map_nil]
  go_simp
  exact hK _ (swi_keep F.mem (by decide) (by decide))
set_option maxHeartbeats 1000000 in
theorem swi_op6 (ok : swiOk g n cp p base xs x0 xp a0) : (swiK g n cp p base xs x0 xp a0 wf).StepOk Q 6 := by
  obtain ⟨hv, hp, hn, hpn, hmx, h0, hxp⟩ := ok
  intro ll fr W F oo ho K hK
  obtain ⟨hop, hd⟩ := swi_at ho (x := .load 3 (.tmp 48)) (d := some 49) (by kernel_rfl)
  have e5 : fr.eval (.tmp 48) = swiVal g n cp p base xs x0 xp 5 := F.vals 5 48 (show 5 ∈ swiNeeds 6 from by decide) rfl
  simp only [swiVal, List.getD_cons_zero, List.getD_cons_succ] at e5
  have l11 : ll.getD 11 false = false := by
    cases hx : ll.getD 11 false with
    | false => rfl
    | true => have h := F.closed 11 6 (show 6 ∈ swiNeeds 11 from by decide) hx; rw [F.not] at h; cases h
  have l13 : ll.getD 13 false = false := by
    cases hx : ll.getD 13 false with
    | false => rfl
    | true => have h := F.closed 13 11 (show 11 ∈ swiNeeds 13 from by decide) hx; rw [l11] at h; cases h
  obtain ⟨hown, hfar⟩ : swiMem g n cp p base xs x0 xp wf ll W := F.mem
  have hcur : swiCur g n cp p base xs x0 xp ll = xs := by unfold swiCur; rw [l13, l11]; simp
  rw [hcur] at hown
  have hln : xs.length = n := by simp [hn]
  have c0 := (hown.cellAt p (by omega)).trans (show (xs.map (Value.int .i64))[p]? = some (.int .i64 xp) by simp [hxp])
  show oo.wp Tryz.prog fr W K Q
  unfold Oper.wp
  simp only [execOp, hop, e5, List.map_toArray, List.map_cons, List.map_nil]
  go_simp
  exact hK _ (swi_keep F.mem (by decide) (by decide))
set_option maxHeartbeats 1000000 in
theorem swi_op7 (ok : swiOk g n cp p base xs x0 xp a0) : (swiK g n cp p base xs x0 xp a0 wf).StepOk Q 7 := by
  obtain ⟨hv, hp, hn, hpn, hmx, h0, hxp⟩ := ok
  intro ll fr W F oo ho K hK
  obtain ⟨hop, hd⟩ := swi_at ho (x := .move (.tmp 8)) (d := some 50) (by kernel_rfl)
  have s8 := (F.other 8 (show ∀ k, k < 14 → swiSlot k ≠ some 8 from by decide)).trans hv
  show oo.wp Tryz.prog fr W K Q
  unfold Oper.wp
  simp only [execOp, hop, s8, List.map_toArray, List.map_cons, List.map_nil]
  go_simp
  exact hK _ (swi_keep F.mem (by decide) (by decide))
set_option maxHeartbeats 1000000 in
theorem swi_op8 (ok : swiOk g n cp p base xs x0 xp a0) : (swiK g n cp p base xs x0 xp a0 wf).StepOk Q 8 := by
  obtain ⟨hv, hp, hn, hpn, hmx, h0, hxp⟩ := ok
  intro ll fr W F oo ho K hK
  obtain ⟨hop, hd⟩ := swi_at ho (x := .indexAddr 33 (.tmp 50) (.const (.int .i64 0))) (d := some 51) (by kernel_rfl)
  have e7 : fr.eval (.tmp 50) = swiVal g n cp p base xs x0 xp 7 := F.vals 7 50 (show 7 ∈ swiNeeds 8 from by decide) rfl
  simp only [swiVal, List.getD_cons_zero, List.getD_cons_succ] at e7
  have q1 : (0 : Int) ≤ (p : Int) := by omega
  have q2 : (p : Int) < (n : Int) := by omega
  have q3 : (0 : Int) < (n : Int) := by omega
  have q4 : n ≤ 9223372036854775807 := by omega
  have q5 : 0 < n := by omega
  show oo.wp Tryz.prog fr W K Q
  unfold Oper.wp
  simp only [execOp, hop, e7, List.map_toArray, List.map_cons, List.map_nil]
  go_simp
  exact hK _ (swi_keep F.mem (by decide) (by decide))
set_option maxHeartbeats 1000000 in
theorem swi_op9 (ok : swiOk g n cp p base xs x0 xp a0) : (swiK g n cp p base xs x0 xp a0 wf).StepOk Q 9 := by
  obtain ⟨hv, hp, hn, hpn, hmx, h0, hxp⟩ := ok
  intro ll fr W F oo ho K hK
  obtain ⟨hop, hd⟩ := swi_at ho (x := .load 3 (.tmp 51)) (d := some 52) (by kernel_rfl)
  have e8 : fr.eval (.tmp 51) = swiVal g n cp p base xs x0 xp 8 := F.vals 8 51 (show 8 ∈ swiNeeds 9 from by decide) rfl
  simp only [swiVal, List.getD_cons_zero, List.getD_cons_succ] at e8
  have l11 : ll.getD 11 false = false := by
    cases hx : ll.getD 11 false with
    | false => rfl
    | true => have h := F.closed 11 9 (show 9 ∈ swiNeeds 11 from by decide) hx; rw [F.not] at h; cases h
  have l13 : ll.getD 13 false = false := by
    cases hx : ll.getD 13 false with
    | false => rfl
    | true => have h := F.closed 13 11 (show 11 ∈ swiNeeds 13 from by decide) hx; rw [l11] at h; cases h
  obtain ⟨hown, hfar⟩ : swiMem g n cp p base xs x0 xp wf ll W := F.mem
  have hcur : swiCur g n cp p base xs x0 xp ll = xs := by unfold swiCur; rw [l13, l11]; simp
  rw [hcur] at hown
  have hln : xs.length = n := by simp [hn]
  have c0 := (hown.cellAt 0 (by omega)).trans (show (xs.map (Value.int .i64))[0]? = some (.int .i64 x0) by simp [h0])
  show oo.wp Tryz.prog fr W K Q
  unfold Oper.wp
  simp only [execOp, hop, e8, List.map_toArray, List.map_cons, List.map_nil]
  go_simp
  exact hK _ (swi_keep F.mem (by decide) (by decide))
set_option maxHeartbeats 1000000 in
theorem swi_op10 (ok : swiOk g n cp p base xs x0 xp a0) : (swiK g n cp p base xs x0 xp a0 wf).StepOk Q 10 := by
  obtain ⟨hv, hp, hn, hpn, hmx, h0, hxp⟩ := ok
  intro ll fr W F oo ho K hK
  obtain ⟨hop, hd⟩ := swi_at ho (x := .indexAddr 33 (.tmp 43) (.const (.int .i64 0))) (d := some 53) (by kernel_rfl)
  have e0 : fr.eval (.tmp 43) = swiVal g n cp p base xs x0 xp 0 := F.vals 0 43 (show 0 ∈ swiNeeds 10 from by decide) rfl
  simp only [swiVal, List.getD_cons_zero, List.getD_cons_succ] at e0
  have q1 : (0 : Int) ≤ (p : Int) := by omega
  have q2 : (p : Int) < (n : Int) := by omega
  have q3 : (0 : Int) < (n : Int) := by omega
  have q4 : n ≤ 9223372036854775807 := by omega
  have q5 : 0 < n := by omega
  show oo.wp Tryz.prog fr W K Q
  unfold Oper.wp
  simp only [execOp, hop, e0, List.map_toArray, List.map_cons, List.map_nil]
  go_simp
  exact hK _ (swi_keep F.mem (by decide) (by decide))
set_option maxHeartbeats 1000000 in
theorem swi_op11 (ok : swiOk g n cp p base xs x0 xp a0) : (swiK g n cp p base xs x0 xp a0 wf).StepOk Q 11 := by
  obtain ⟨hv, hp, hn, hpn, hmx, h0, hxp⟩ := ok
  intro ll fr W F oo ho K hK
  obtain ⟨hop, hd⟩ := swi_at ho (x := .store 3 (.tmp 53) (.tmp 49)) (d := none) (by kernel_rfl)
  have e10 : fr.eval (.tmp 53) = swiVal g n cp p base xs x0 xp 10 := F.vals 10 53 (show 10 ∈ swiNeeds 11 from by decide) rfl
  simp only [swiVal, List.getD_cons_zero, List.getD_cons_succ] at e10
  have e6 : fr.eval (.tmp 49) = swiVal g n cp p base xs x0 xp 6 := F.vals 6 49 (show 6 ∈ swiNeeds 11 from by decide) rfl
  simp only [swiVal, List.getD_cons_zero, List.getD_cons_succ] at e6
  have e9 : fr.eval (.tmp 52) = swiVal g n cp p base xs x0 xp 9 := F.vals 9 52 (show 9 ∈ swiNeeds 11 from by decide) rfl
  simp only [swiVal, List.getD_cons_zero, List.getD_cons_succ] at e9
  have l11 : ll.getD 11 false = false := F.not
  have l13 : ll.getD 13 false = false := by
    cases hx : ll.getD 13 false with
    | false => rfl
    | true => have h := F.closed 13 11 (show 11 ∈ swiNeeds 13 from by decide) hx; rw [l11] at h; cases h
  obtain ⟨hown, hfar⟩ : swiMem g n cp p base xs x0 xp wf ll W := F.mem
  have hcur : swiCur g n cp p base xs x0 xp ll = xs := by unfold swiCur; rw [l13, l11]; simp
  rw [hcur] at hown
  have hln : xs.length = n := by simp [hn]
  obtain ⟨u0, c0⟩ : ∃ u, W.cell? ⟨g, 0, none⟩ = some u := ⟨_, (hown.cellAt 0 (by omega)).trans (List.getElem?_eq_getElem (by simp; omega))⟩
  have fz := fun j => hown.frozenAt j
  show oo.wp Tryz.prog fr W K Q
  unfold Oper.wp
  simp only [execOp, hop, e10, e6, e9, List.map_toArray, List.map_cons, List.map_nil]
  go_simp
  refine hK _ ⟨?_, ?_⟩
  · rw [show swiCur g n cp p base xs x0 xp (ll.setIfInBounds 11 true) = xs.set 0 xp from by unfold swiCur; rw [DV.set_ne (by decide), l13, DV.set_eq (by have h := F.size; have h2 : (swiK g n cp p base xs x0 xp a0 wf).n = 14 := rfl; omega)]; simp]
    exact ints_put' hown 0 xp
  · exact hfar.set _ _
set_option maxHeartbeats 1000000 in
theorem swi_op12 (ok : swiOk g n cp p base xs x0 xp a0) : (swiK g n cp p base xs x0 xp a0 wf).StepOk Q 12 := by
  obtain ⟨hv, hp, hn, hpn, hmx, h0, hxp⟩ := ok
  intro ll fr W F oo ho K hK
  obtain ⟨hop, hd⟩ := swi_at ho (x := .indexAddr 33 (.tmp 44) (.tmp 45)) (d := some 54) (by kernel_rfl)
  have e1 : fr.eval (.tmp 44) = swiVal g n cp p base xs x0 xp 1 := F.vals 1 44 (show 1 ∈ swiNeeds 12 from by decide) rfl
  simp only [swiVal, List.getD_cons_zero, List.getD_cons_succ] at e1
  have e2 : fr.eval (.tmp 45) = swiVal g n cp p base xs x0 xp 2 := F.vals 2 45 (show 2 ∈ swiNeeds 12 from by decide) rfl
  simp only [swiVal, List.getD_cons_zero, List.getD_cons_succ] at e2
  have q1 : (0 : Int) ≤ (p : Int) := by omega
  have q2 : (p : Int) < (n : Int) := by omega
  have q3 : (0 : Int) < (n : Int) := by omega
  have q4 : n ≤ 9223372036854775807 := by omega
  have q5 : 0 < n := by omega
  show oo.wp Tryz.prog fr W K Q
  unfold Oper.wp
  simp only [execOp, hop, e1, e2, List.map_toArray, List.map_cons, List.map_nil]
  go_simp
  exact hK _ (swi_keep F.mem (by decide) (by decide))
set_option maxHeartbeats 1000000 in
theorem swi_op13 (ok : swiOk g n cp p base xs x0 xp a0) : (swiK g n cp p base xs x0 xp a0 wf).StepOk Q 13 := by
  obtain ⟨hv, hp, hn, hpn, hmx, h0, hxp⟩ := ok
  intro ll fr W F oo ho K hK
  obtain ⟨hop, hd⟩ := swi_at ho (x := .store 3 (.tmp 54) (.tmp 52)) (d := none) (by kernel_rfl)
  have e12 : fr.eval (.tmp 54) = swiVal g n cp p base xs x0 xp 12 := F.vals 12 54 (show 12 ∈ swiNeeds 13 from by decide) rfl
  simp only [swiVal, List.getD_cons_zero, List.getD_cons_succ] at e12
  have e9 : fr.eval (.tmp 52) = swiVal g n cp p base xs x0 xp 9 := F.vals 9 52 (show 9 ∈ swiNeeds 13 from by decide) rfl
  simp only [swiVal, List.getD_cons_zero, List.getD_cons_succ] at e9
  have l11 : ll.getD 11 false = true := F.listed 11 (show 11 ∈ swiNeeds 13 from by decide)
  have l13 : ll.getD 13 false = false := F.not
  obtain ⟨hown, hfar⟩ : swiMem g n cp p base xs x0 xp wf ll W := F.mem
  have hcur : swiCur g n cp p base xs x0 xp ll = (xs.set 0 xp) := by unfold swiCur; rw [l13, l11]; simp
  rw [hcur] at hown
  have hln : (xs.set 0 xp).length = n := by simp [hn]
  obtain ⟨u0, c0⟩ : ∃ u, W.cell? ⟨g, p, none⟩ = some u := ⟨_, (hown.cellAt p (by omega)).trans (List.getElem?_eq_getElem (by simp; omega))⟩
  have fz := fun j => hown.frozenAt j
  show oo.wp Tryz.prog fr W K Q
  unfold Oper.wp
  simp only [execOp, hop, e12, e9, List.map_toArray, List.map_cons, List.map_nil]
  go_simp
  refine hK _ ⟨?_, ?_⟩
  · rw [show swiCur g n cp p base xs x0 xp (ll.setIfInBounds 13 true) = (xs.set 0 xp).set p x0 from by unfold swiCur; rw [DV.set_eq (by have h := F.size; have h2 : (swiK g n cp p base xs x0 xp a0 wf).n = 14 := rfl; omega)]; simp]
    exact ints_put' hown p x0
  · exact hfar.set _ _
theorem swi_ok (ok : swiOk g n cp p base xs x0 xp a0) (hz : a0.tmps.size = 128) : (swiK g n cp p base xs x0 xp a0 wf).Ok Q where
  size := swiOps_size
  guards := by
    intro k hk o ho
    have h : ((swiOps.toList.all fun o => o.guard.isNone)) = true := by kernel_rfl
    have := List.all_eq_true.1 h o (List.mem_of_getElem? (by rw [Array.getElem?_toList]; exact ho))
    simpa using this
  waits := by
    have h : ((List.range 14).all fun k => (swiNeeds k).all fun j => waits .any swiOps k j) = true := by kernel_rfl
    intro k hk j hj
    exact List.all_eq_true.1 (List.all_eq_true.1 h k (List.mem_range.2 hk)) j hj
  step := by
    intro k hk
    have hk' : k < 14 := hk
    rcases (by omega : k = 0 ∨ k = 1 ∨ k = 2 ∨ k = 3 ∨ k = 4 ∨ k = 5 ∨ k = 6 ∨ k = 7 ∨ k = 8 ∨ k = 9 ∨ k = 10 ∨ k = 11 ∨ k = 12 ∨ k = 13) with rfl | rfl | rfl | rfl | rfl | rfl | rfl | rfl | rfl | rfl | rfl | rfl | rfl | rfl
    · exact swi_op0 ok
    · exact swi_op1 ok
    · exact swi_op2 ok
    · exact swi_op3 ok
    · exact swi_op4 ok
    · exact swi_op5 ok
    · exact swi_op6 ok
    · exact swi_op7 ok
    · exact swi_op8 ok
    · exact swi_op9 ok
    · exact swi_op10 ok
    · exact swi_op11 ok
    · exact swi_op12 ok
    · exact swi_op13 ok
  inj := by
    have h : ((List.range 14).all fun j => (List.range 14).all fun k => match swiSlot j, swiSlot k with | some s, some t => decide (s = t → j = k) | _, _ => true) = true := by decide
    intro j k s hj hk h1 h2
    have := List.all_eq_true.1 (List.all_eq_true.1 h j (List.mem_range.2 hj)) k (List.mem_range.2 hk)
    have h1' : swiSlot j = some s := h1
    have h2' : swiSlot k = some s := h2
    rw [h1', h2'] at this
    simpa using this
  room := by
    have h : ((List.range 14).all fun j => match swiSlot j with | some s => decide (s < 128) | none => true) = true := by decide
    intro k s hk h1
    have := List.all_eq_true.1 h k (List.mem_range.2 hk)
    have h1' : swiSlot k = some s := h1
    rw [h1'] at this
    show s < a0.tmps.size
    rw [hz]
    simpa using this
theorem swi_ordered : ((List.range 14).all fun i => ((swiOps[i]?).map fun o => o.after.toList.all fun e => !Region.binds .any e || decide (e.on < i)).getD true) = true := by kernel_rfl
set_option maxHeartbeats 400000 in
/-- the whole statement -/
theorem swi_region {W : World} (ok : swiOk g n cp p base xs x0 xp a0) (hz : a0.tmps.size = 128) (hd : a0.defers = []) (hown : W.ownsRow base 3 1 (.slice (some ⟨g, 0, none⟩) n cp) n (xs.map (Value.int .i64)))
    (hQ : ∀ (v0 v1 v2 v3 v4 v5 v6 v7 v8 v9 v10 v11 : Value) (W' : World), W'.ownsRow base 3 1 (.slice (some ⟨g, 0, none⟩) n cp) n (((xs.set 0 xp).set p x0).map (Value.int .i64)) → FarO g W W' → Q .normal ⟨setL a0.tmps 43 [v0, v1, v2, v3, v4, v5, v6, v7, v8, v9, v10, v11], []⟩ W') :
    wpAny Tryz.prog .any swiOps Q 14 (Array.replicate 14 false) a0 W := by
  have z : ∀ k, (Array.replicate 14 false).getD k false = false := fun k => by
    by_cases hk : k < 14 <;> simp [Array.getD, hk]
  refine DV.region (c := swiK g n cp p base xs x0 xp a0 W) (swi_ok ok hz) swi_ordered ⟨?_, FarO.refl _ _⟩ ?_
  · have e : swiCur g n cp p base xs x0 xp (Array.replicate 14 false) = xs := by unfold swiCur; rw [z, z]; simp
    have h2 := hown
    rw [← e] at h2
    exact h2
  · intro a' l W' h1 h2 h3 _ hl hm
    obtain ⟨tm, df⟩ := a'
    have hdf : df = [] := h2.trans hd
    subst hdf
    have hb : ∀ k, k < 14 → ∀ s, swiSlot k = some s → 43 ≤ s ∧ s ≤ 54 := by
      intro k hk s e
      rcases (by omega : k = 0 ∨ k = 1 ∨ k = 2 ∨ k = 3 ∨ k = 4 ∨ k = 5 ∨ k = 6 ∨ k = 7 ∨ k = 8 ∨ k = 9 ∨ k = 10 ∨ k = 11 ∨ k = 12 ∨ k = 13) with rfl | rfl | rfl | rfl | rfl | rfl | rfl | rfl | rfl | rfl | rfl | rfl | rfl | rfl <;> simp [swiSlot] at e <;> omega
    have hfr : ∀ i, (i < 43 ∨ 43 + 11 < i) → tm.getD i undef = a0.tmps.getD i undef := by
      intro i hi
      have h5 : (⟨tm, []⟩ : Act).eval (.tmp i) = a0.eval (.tmp i) := h3 i (fun k hk e => by
        have := hb k hk i e
        omega)
      exact h5
    have hz1 : tm.size = 128 := h1.trans hz
    obtain ⟨v0, v1, v2, v3, v4, v5, v6, v7, v8, v9, v10, v11, ht⟩ := frame12 43 hz1 hz hfr
    rw [ht]
    refine hQ v0 v1 v2 v3 v4 v5 v6 v7 v8 v9 v10 v11 W' ?_ hm.2
    have h7 := hm.1
    have h8 : swiCur g n cp p base xs x0 xp l = (xs.set 0 xp).set p x0 := by unfold swiCur; rw [hl 13 (show 13 < 14 from by decide)]; simp
    rw [h8] at h7
    exact h7
end
noncomputable def swrC : Code := ((Tryz.f6.body.bind (regionOf 11)).getD .skip)
noncomputable def swrOps : Array Oper := match swrC with
  | .region _ ops _ => ops
  | _ => #[]
theorem swrC_is : swrC = .region 11 swrOps true := by kernel_rfl
theorem swrOps_size : swrOps.size = 14 := by kernel_rfl
def swrSlot (k : Nat) : Option Nat := ([some 55, some 56, some 57, some 58, some 59, some 60, some 61, some 62, some 63, some 64, some 65, none, some 66, none] : List (Option Nat)).getD k none
def swrVal (g n cp p base : Nat) (xs : List M.Row) (x0 xp : M.Row) (k : Nat) : Value := ([.slice (some ⟨g, 0, none⟩) n cp, .slice (some ⟨g, 0, none⟩) n cp, .int .i64 (p : Int), .slice (some ⟨g, 0, none⟩) n cp, .int .i64 (p : Int), .pointer (some ⟨g, p * 8, none⟩), rowV xp, .slice (some ⟨g, 0, none⟩) n cp, .pointer (some ⟨g, 0, none⟩), rowV x0, .pointer (some ⟨g, 0, none⟩), undef, .pointer (some ⟨g, p * 8, none⟩), undef] : List Value).getD k undef
def swrNeeds (k : Nat) : List Nat := ([[], [], [], [], [], [3, 4], [5], [], [7], [8], [0], [10, 6, 9], [1, 2], [12, 9, 11]] : List (List Nat)).getD k []
def swrCur (g n cp p base : Nat) (xs : List M.Row) (x0 xp : M.Row) (l : Array Bool) : List M.Row := if l.getD 13 false = true then (xs.set 0 xp).set p x0 else if l.getD 11 false = true then xs.set 0 xp else xs
def swrMem (g n cp p base : Nat) (xs : List M.Row) (x0 xp : M.Row) (wf : World) (l : Array Bool) (W : World) : Prop := W.ownsRow base 27 8 (.slice (some ⟨g, 0, none⟩) n cp) n ((swrCur g n cp p base xs x0 xp l).flatMap rowL) ∧ FarO g wf W
noncomputable def swrK (g n cp p base : Nat) (xs : List M.Row) (x0 xp : M.Row) (a0 : Act) (wf : World) : DV := { P := Tryz.prog, ops := swrOps, a0 := a0, n := 14, slot := swrSlot, val := swrVal g n cp p base xs x0 xp, needs := swrNeeds, mem := swrMem g n cp p base xs x0 xp wf }
theorem swr_at {k : Nat} {o : Oper} {x : Op} {d : Option Nat} (ho : swrOps[k]? = some o) (h : (swrOps[k]?).map (fun o => (o.op, o.dst)) = some (x, d)) : o.op = x ∧ o.dst = d := by
  rw [ho] at h
  simpa using h
section
variable {g n cp p base : Nat} {xs : List M.Row} {x0 xp : M.Row} {a0 : Act} {wf : World} {Q : Exit → Act → World → Prop}
theorem swr_keep {l : Array Bool} {W : World} {k : Nat} (h : swrMem g n cp p base xs x0 xp wf l W) (h1 : k ≠ 11) (h2 : k ≠ 13) : swrMem g n cp p base xs x0 xp wf (l.setIfInBounds k true) W := by
  unfold swrMem swrCur at h ⊢
  rw [DV.set_ne h1, DV.set_ne h2]
  exact h
structure swrOk (g n cp p base : Nat) (xs : List M.Row) (x0 xp : M.Row) (a0 : Act) : Prop where
  hv : a0.eval (.tmp 9) = .slice (some ⟨g, 0, none⟩) n cp
  hp : a0.eval (.tmp 10) = .int .i64 (p : Int)
  hn : xs.length = n
  hpn : p < n
  hmx : n ≤ 100
  e0 : xs[0]? = some x0
  ep : xs[p]? = some xp
set_option maxHeartbeats 1000000 in
theorem swr_op0 (ok : swrOk g n cp p base xs x0 xp a0) : (swrK g n cp p base xs x0 xp a0 wf).StepOk Q 0 := by
  obtain ⟨hv, hp, hn, hpn, hmx, h0, hxp⟩ := ok
  intro ll fr W F oo ho K hK
  obtain ⟨hop, hd⟩ := swr_at ho (x := .move (.tmp 9)) (d := some 55) (by kernel_rfl)
  have s9 := (F.other 9 (show ∀ k, k < 14 → swrSlot k ≠ some 9 from by decide)).trans hv
  show oo.wp Tryz.prog fr W K Q
  unfold Oper.wp
  simp only [execOp, hop, s9, List.map_toArray, List.map_cons, List.map_nil]
  go_simp
  exact hK _ (swr_keep F.mem (by decide) (by decide))
set_option maxHeartbeats 1000000 in
theorem swr_op1 (ok : swrOk g n cp p base xs x0 xp a0) : (swrK g n cp p base xs x0 xp a0 wf).StepOk Q 1 := by
  obtain ⟨hv, hp, hn, hpn, hmx, h0, hxp⟩ := ok
  intro ll fr W F oo ho K hK
  obtain ⟨hop, hd⟩ := swr_at ho (x := .move (.tmp 9)) (d := some 56) (by kernel_rfl)
  have s9 := (F.other 9 (show ∀ k, k < 14 → swrSlot k ≠ some 9 from by decide)).trans hv
  show oo.wp Tryz.prog fr W K Q
  unfold Oper.wp
  simp only [execOp, hop, s9, List.map_toArray, List.map_cons, List.map_nil]
  go_simp
  exact hK _ (swr_keep F.mem (by decide) (by decide))
set_option maxHeartbeats 1000000 in
theorem swr_op2 (ok : swrOk g n cp p base xs x0 xp a0) : (swrK g n cp p base xs x0 xp a0 wf).StepOk Q 2 := by
  obtain ⟨hv, hp, hn, hpn, hmx, h0, hxp⟩ := ok
  intro ll fr W F oo ho K hK
  obtain ⟨hop, hd⟩ := swr_at ho (x := .move (.tmp 10)) (d := some 57) (by kernel_rfl)
  have s10 := (F.other 10 (show ∀ k, k < 14 → swrSlot k ≠ some 10 from by decide)).trans hp
  show oo.wp Tryz.prog fr W K Q
  unfold Oper.wp
  simp only [execOp, hop, s10, List.map_toArray, List.map_cons, List.map_nil]
  go_simp
  exact hK _ (swr_keep F.mem (by decide) (by decide))
set_option maxHeartbeats 1000000 in
theorem swr_op3 (ok : swrOk g n cp p base xs x0 xp a0) : (swrK g n cp p base xs x0 xp a0 wf).StepOk Q 3 := by
  obtain ⟨hv, hp, hn, hpn, hmx, h0, hxp⟩ := ok
  intro ll fr W F oo ho K hK
  obtain ⟨hop, hd⟩ := swr_at ho (x := .move (.tmp 9)) (d := some 58) (by kernel_rfl)
  have s9 := (F.other 9 (show ∀ k, k < 14 → swrSlot k ≠ some 9 from by decide)).trans hv
  show oo.wp Tryz.prog fr W K Q
  unfold Oper.wp
  simp only [execOp, hop, s9, List.map_toArray, List.map_cons, List.map_nil]
  go_simp
  exact hK _ (swr_keep F.mem (by decide) (by decide))
set_option maxHeartbeats 1000000 in
theorem swr_op4 (ok : swrOk g n cp p base xs x0 xp a0) : (swrK g n cp p base xs x0 xp a0 wf).StepOk Q 4 := by
  obtain ⟨hv, hp, hn, hpn, hmx, h0, hxp⟩ := ok
  intro ll fr W F oo ho K hK
  obtain ⟨hop, hd⟩ := swr_at ho (x := .move (.tmp 10)) (d := some 59) (by kernel_rfl)
  have s10 := (F.other 10 (show ∀ k, k < 14 → swrSlot k ≠ some 10 from by decide)).trans hp
  show oo.wp Tryz.prog fr W K Q
  unfold Oper.wp
  simp only [execOp, hop, s10, List.map_toArray, List.map_cons, List.map_nil]
  go_simp
  exact hK _ (swr_keep F.mem (by decide) (by decide))
set_option maxHeartbeats 1000000 in
theorem swr_op5 (ok : swrOk g n cp p base xs x0 xp a0) : (swrK g n cp p base xs x0 xp a0 wf).StepOk Q 5 := by
  obtain ⟨hv, hp, hn, hpn, hmx, h0, hxp⟩ := ok
  intro ll fr W F oo ho K hK
  obtain ⟨hop, hd⟩ := swr_at ho (x := .indexAddr 72 (.tmp 58) (.tmp 59)) (d := some 60) (by kernel_rfl)
  have e3 : fr.eval (.tmp 58) = swrVal g n cp p base xs x0 xp 3 := F.vals 3 58 (show 3 ∈ swrNeeds 5 from by decide) rfl
  simp only [swrVal, List.getD_cons_zero, List.getD_cons_succ] at e3
  have e4 : fr.eval (.tmp 59) = swrVal g n cp p base xs x0 xp 4 := F.vals 4 59 (show 4 ∈ swrNeeds 5 from by decide) rfl
  simp only [swrVal, List.getD_cons_zero, List.getD_cons_succ] at e4
  have q1 : (0 : Int) ≤ (p : Int) := by omega
  have q2 : (p : Int) < (n : Int) := by omega
  have q3 : (0 : Int) < (n : Int) := by omega
  have q4 : n ≤ 9223372036854775807 := by omega
  have q5 : 0 < n := by omega
  show oo.wp Tryz.prog fr W K Q
  unfold Oper.wp
  simp only [execOp, hop, e3, e4, List.map_toArray, List.map_cons, List.map_nil]
  go_simp
  exact hK _ (swr_keep F.mem (by decide) (by decide))
set_option maxHeartbeats 1000000 in
theorem swr_op6 (ok : swrOk g n cp p base xs x0 xp a0) : (swrK g n cp p base xs x0 xp a0 wf).StepOk Q 6 := by
  obtain ⟨hv, hp, hn, hpn, hmx, h0, hxp⟩ := ok
  intro ll fr W F oo ho K hK
  obtain ⟨hop, hd⟩ := swr_at ho (x := .load 27 (.tmp 60)) (d := some 61) (by kernel_rfl)
  have e5 : fr.eval (.tmp 60) = swrVal g n cp p base xs x0 xp 5 := F.vals 5 60 (show 5 ∈ swrNeeds 6 from by decide) rfl
  simp only [swrVal, List.getD_cons_zero, List.getD_cons_succ] at e5
  have l11 : ll.getD 11 false = false := by
    cases hx : ll.getD 11 false with
    | false => rfl
    | true => have h := F.closed 11 6 (show 6 ∈ swrNeeds 11 from by decide) hx; rw [F.not] at h; cases h
  have l13 : ll.getD 13 false = false := by
    cases hx : ll.getD 13 false with
    | false => rfl
    | true => have h := F.closed 13 11 (show 11 ∈ swrNeeds 13 from by decide) hx; rw [l11] at h; cases h
  obtain ⟨hown, hfar⟩ : swrMem g n cp p base xs x0 xp wf ll W := F.mem
  have hcur : swrCur g n cp p base xs x0 xp ll = xs := by unfold swrCur; rw [l13, l11]; simp
  rw [hcur] at hown
  have hln : xs.length = n := by simp [hn]
  have cc : ∀ j u, (rowL xp)[j]? = some u → W.cell? ⟨g, p * 8 + j, none⟩ = some u := fun j u hu => (hown.cellAt (p * 8 + j) (by have := (List.getElem?_eq_some_iff.1 hu).1; have h8 : (rowL xp).length = 8 := rfl; omega)).trans (by rw [rowsL_at xs p j hxp (by have := (List.getElem?_eq_some_iff.1 hu).1; have h8 : (rowL xp).length = 8 := rfl; omega), hu])
  have c0 := cc 0 _ rfl
  have c1 := cc 1 _ rfl
  have c2 := cc 2 _ rfl
  have c3 := cc 3 _ rfl
  have c4 := cc 4 _ rfl
  have c5 := cc 5 _ rfl
  have c6 := cc 6 _ rfl
  have c7 := cc 7 _ rfl
  rw [Nat.add_zero] at c0
  clear cc
  show oo.wp Tryz.prog fr W K Q
  unfold Oper.wp
  simp only [execOp, hop, e5, List.map_toArray, List.map_cons, List.map_nil]
  go_simp
  exact hK _ (swr_keep F.mem (by decide) (by decide))
set_option maxHeartbeats 1000000 in
theorem swr_op7 (ok : swrOk g n cp p base xs x0 xp a0) : (swrK g n cp p base xs x0 xp a0 wf).StepOk Q 7 := by
  obtain ⟨hv, hp, hn, hpn, hmx, h0, hxp⟩ := ok
  intro ll fr W F oo ho K hK
  obtain ⟨hop, hd⟩ := swr_at ho (x := .move (.tmp 9)) (d := some 62) (by kernel_rfl)
  have s9 := (F.other 9 (show ∀ k, k < 14 → swrSlot k ≠ some 9 from by decide)).trans hv
  show oo.wp Tryz.prog fr W K Q
  unfold Oper.wp
  simp only [execOp, hop, s9, List.map_toArray, List.map_cons, List.map_nil]
  go_simp
  exact hK _ (swr_keep F.mem (by decide) (by decide))
set_option maxHeartbeats 1000000 in
theorem swr_op8 (ok : swrOk g n cp p base xs x0 xp a0) : (swrK g n cp p base xs x0 xp a0 wf).StepOk Q 8 := by
  obtain ⟨hv, hp, hn, hpn, hmx, h0, hxp⟩ := ok
  intro ll fr W F oo ho K hK
  obtain ⟨hop, hd⟩ := swr_at ho (x := .indexAddr 72 (.tmp 62) (.const (.int .i64 0))) (d := some 63) (by kernel_rfl)
  have e7 : fr.eval (.tmp 62) = swrVal g n cp p base xs x0 xp 7 := F.vals 7 62 (show 7 ∈ swrNeeds 8 from by decide) rfl
  simp only [swrVal, List.getD_cons_zero, List.getD_cons_succ] at e7
  have q1 : (0 : Int) ≤ (p : Int) := by omega
  have q2 : (p : Int) < (n : Int) := by omega
  have q3 : (0 : Int) < (n : Int) := by omega
  have q4 : n ≤ 9223372036854775807 := by omega
  have q5 : 0 < n := by omega
  show oo.wp Tryz.prog fr W K Q
  unfold Oper.wp
  simp only [execOp, hop, e7, List.map_toArray, List.map_cons, List.map_nil]
  go_simp
  exact hK _ (swr_keep F.mem (by decide) (by decide))
set_option maxHeartbeats 1000000 in
theorem swr_op9 (ok : swrOk g n cp p base xs x0 xp a0) : (swrK g n cp p base xs x0 xp a0 wf).StepOk Q 9 := by
  obtain ⟨hv, hp, hn, hpn, hmx, h0, hxp⟩ := ok
  intro ll fr W F oo ho K hK
  obtain ⟨hop, hd⟩ := swr_at ho (x := .load 27 (.tmp 63)) (d := some 64) (by kernel_rfl)
  have e8 : fr.eval (.tmp 63) = swrVal g n cp p base xs x0 xp 8 := F.vals 8 63 (show 8 ∈ swrNeeds 9 from by decide) rfl
  simp only [swrVal, List.getD_cons_zero, List.getD_cons_succ] at e8
  have l11 : ll.getD 11 false = false := by
    cases hx : ll.getD 11 false with
    | false => rfl
    | true => have h := F.closed 11 9 (show 9 ∈ swrNeeds 11 from by decide) hx; rw [F.not] at h; cases h
  have l13 : ll.getD 13 false = false := by
    cases hx : ll.getD 13 false with
    | false => rfl
    | true => have h := F.closed 13 11 (show 11 ∈ swrNeeds 13 from by decide) hx; rw [l11] at h; cases h
  obtain ⟨hown, hfar⟩ : swrMem g n cp p base xs x0 xp wf ll W := F.mem
  have hcur : swrCur g n cp p base xs x0 xp ll = xs := by unfold swrCur; rw [l13, l11]; simp
  rw [hcur] at hown
  have hln : xs.length = n := by simp [hn]
  have cc : ∀ j u, (rowL x0)[j]? = some u → W.cell? ⟨g, 0 * 8 + j, none⟩ = some u := fun j u hu => (hown.cellAt (0 * 8 + j) (by have := (List.getElem?_eq_some_iff.1 hu).1; have h8 : (rowL x0).length = 8 := rfl; omega)).trans (by rw [rowsL_at xs 0 j h0 (by have := (List.getElem?_eq_some_iff.1 hu).1; have h8 : (rowL x0).length = 8 := rfl; omega), hu])
  have c0 := cc 0 _ rfl
  have c1 := cc 1 _ rfl
  have c2 := cc 2 _ rfl
  have c3 := cc 3 _ rfl
  have c4 := cc 4 _ rfl
  have c5 := cc 5 _ rfl
  have c6 := cc 6 _ rfl
  have c7 := cc 7 _ rfl
  simp only [Nat.zero_mul, Nat.zero_add] at c0 c1 c2 c3 c4 c5 c6 c7
  clear cc
  show oo.wp Tryz.prog fr W K Q
  unfold Oper.wp
  simp only [execOp, hop, e8, List.map_toArray, List.map_cons, List.map_nil]
  go_simp
  exact hK _ (swr_keep F.mem (by decide) (by decide))
set_option maxHeartbeats 1000000 in
theorem swr_op10 (ok : swrOk g n cp p base xs x0 xp a0) : (swrK g n cp p base xs x0 xp a0 wf).StepOk Q 10 := by
  obtain ⟨hv, hp, hn, hpn, hmx, h0, hxp⟩ := ok
  intro ll fr W F oo ho K hK
  obtain ⟨hop, hd⟩ := swr_at ho (x := .indexAddr 72 (.tmp 55) (.const (.int .i64 0))) (d := some 65) (by kernel_rfl)
  have e0 : fr.eval (.tmp 55) = swrVal g n cp p base xs x0 xp 0 := F.vals 0 55 (show 0 ∈ swrNeeds 10 from by decide) rfl
  simp only [swrVal, List.getD_cons_zero, List.getD_cons_succ] at e0
  have q1 : (0 : Int) ≤ (p : Int) := by omega
  have q2 : (p : Int) < (n : Int) := by omega
  have q3 : (0 : Int) < (n : Int) := by omega
  have q4 : n ≤ 9223372036854775807 := by omega
  have q5 : 0 < n := by omega
  show oo.wp Tryz.prog fr W K Q
  unfold Oper.wp
  simp only [execOp, hop, e0, List.map_toArray, List.map_cons, List.map_nil]
  go_simp
  exact hK _ (swr_keep F.mem (by decide) (by decide))
set_option maxHeartbeats 1000000 in
theorem swr_op11 (ok : swrOk g n cp p base xs x0 xp a0) : (swrK g n cp p base xs x0 xp a0 wf).StepOk Q 11 := by
  obtain ⟨hv, hp, hn, hpn, hmx, h0, hxp⟩ := ok
  intro ll fr W F oo ho K hK
  obtain ⟨hop, hd⟩ := swr_at ho (x := .store 27 (.tmp 65) (.tmp 61)) (d := none) (by kernel_rfl)
  have e10 : fr.eval (.tmp 65) = swrVal g n cp p base xs x0 xp 10 := F.vals 10 65 (show 10 ∈ swrNeeds 11 from by decide) rfl
  simp only [swrVal, List.getD_cons_zero, List.getD_cons_succ] at e10
  have e6 : fr.eval (.tmp 61) = swrVal g n cp p base xs x0 xp 6 := F.vals 6 61 (show 6 ∈ swrNeeds 11 from by decide) rfl
  simp only [swrVal, List.getD_cons_zero, List.getD_cons_succ] at e6
  have e9 : fr.eval (.tmp 64) = swrVal g n cp p base xs x0 xp 9 := F.vals 9 64 (show 9 ∈ swrNeeds 11 from by decide) rfl
  simp only [swrVal, List.getD_cons_zero, List.getD_cons_succ] at e9
  have l11 : ll.getD 11 false = false := F.not
  have l13 : ll.getD 13 false = false := by
    cases hx : ll.getD 13 false with
    | false => rfl
    | true => have h := F.closed 13 11 (show 11 ∈ swrNeeds 13 from by decide) hx; rw [l11] at h; cases h
  obtain ⟨hown, hfar⟩ : swrMem g n cp p base xs x0 xp wf ll W := F.mem
  have hcur : swrCur g n cp p base xs x0 xp ll = xs := by unfold swrCur; rw [l13, l11]; simp
  rw [hcur] at hown
  have hln : xs.length = n := by simp [hn]
  have hfl : (xs.flatMap rowL).length = n * 8 := by rw [rowsL_length, hln]
  have cc : ∀ i, i < 8 → ∃ u, W.cell? ⟨g, 0 * 8 + i, none⟩ = some u := fun i hi => ⟨_, (hown.cellAt (0 * 8 + i) (by omega)).trans (List.getElem?_eq_getElem (by omega))⟩
  obtain ⟨u0, c0⟩ := cc 0 (by omega)
  obtain ⟨u1, c1⟩ := cc 1 (by omega)
  obtain ⟨u2, c2⟩ := cc 2 (by omega)
  obtain ⟨u3, c3⟩ := cc 3 (by omega)
  obtain ⟨u4, c4⟩ := cc 4 (by omega)
  obtain ⟨u5, c5⟩ := cc 5 (by omega)
  obtain ⟨u6, c6⟩ := cc 6 (by omega)
  obtain ⟨u7, c7⟩ := cc 7 (by omega)
  simp only [Nat.zero_mul, Nat.zero_add] at c0 c1 c2 c3 c4 c5 c6 c7
  clear cc
  have fz := fun j => hown.frozenAt j
  show oo.wp Tryz.prog fr W K Q
  unfold Oper.wp
  simp only [execOp, hop, e10, e6, e9, List.map_toArray, List.map_cons, List.map_nil]
  go_simp
  refine hK _ ⟨?_, ?_⟩
  · rw [show swrCur g n cp p base xs x0 xp (ll.setIfInBounds 11 true) = xs.set 0 xp from by unfold swrCur; rw [DV.set_ne (by decide), l13, DV.set_eq (by have h := F.size; have h2 : (swrK g n cp p base xs x0 xp a0 wf).n = 14 := rfl; omega)]; simp]
    exact rows_put0 hown (by omega) xp
  · exact (((((((hfar.set _ _).set _ _).set _ _).set _ _).set _ _).set _ _).set _ _).set _ _
set_option maxHeartbeats 1000000 in
theorem swr_op12 (ok : swrOk g n cp p base xs x0 xp a0) : (swrK g n cp p base xs x0 xp a0 wf).StepOk Q 12 := by
  obtain ⟨hv, hp, hn, hpn, hmx, h0, hxp⟩ := ok
  intro ll fr W F oo ho K hK
  obtain ⟨hop, hd⟩ := swr_at ho (x := .indexAddr 72 (.tmp 56) (.tmp 57)) (d := some 66) (by kernel_rfl)
  have e1 : fr.eval (.tmp 56) = swrVal g n cp p base xs x0 xp 1 := F.vals 1 56 (show 1 ∈ swrNeeds 12 from by decide) rfl
  simp only [swrVal, List.getD_cons_zero, List.getD_cons_succ] at e1
  have e2 : fr.eval (.tmp 57) = swrVal g n cp p base xs x0 xp 2 := F.vals 2 57 (show 2 ∈ swrNeeds 12 from by decide) rfl
  simp only [swrVal, List.getD_cons_zero, List.getD_cons_succ] at e2
  have q1 : (0 : Int) ≤ (p : Int) := by omega
  have q2 : (p : Int) < (n : Int) := by omega
  have q3 : (0 : Int) < (n : Int) := by omega
  have q4 : n ≤ 9223372036854775807 := by omega
  have q5 : 0 < n := by omega
  show oo.wp Tryz.prog fr W K Q
  unfold Oper.wp
  simp only [execOp, hop, e1, e2, List.map_toArray, List.map_cons, List.map_nil]
  go_simp
  exact hK _ (swr_keep F.mem (by decide) (by decide))
set_option maxHeartbeats 1000000 in
theorem swr_op13 (ok : swrOk g n cp p base xs x0 xp a0) : (swrK g n cp p base xs x0 xp a0 wf).StepOk Q 13 := by
  obtain ⟨hv, hp, hn, hpn, hmx, h0, hxp⟩ := ok
  intro ll fr W F oo ho K hK
  obtain ⟨hop, hd⟩ := swr_at ho (x := .store 27 (.tmp 66) (.tmp 64)) (d := none) (by kernel_rfl)
  have e12 : fr.eval (.tmp 66) = swrVal g n cp p base xs x0 xp 12 := F.vals 12 66 (show 12 ∈ swrNeeds 13 from by decide) rfl
  simp only [swrVal, List.getD_cons_zero, List.getD_cons_succ] at e12
  have e9 : fr.eval (.tmp 64) = swrVal g n cp p base xs x0 xp 9 := F.vals 9 64 (show 9 ∈ swrNeeds 13 from by decide) rfl
  simp only [swrVal, List.getD_cons_zero, List.getD_cons_succ] at e9
  have l11 : ll.getD 11 false = true := F.listed 11 (show 11 ∈ swrNeeds 13 from by decide)
  have l13 : ll.getD 13 false = false := F.not
  obtain ⟨hown, hfar⟩ : swrMem g n cp p base xs x0 xp wf ll W := F.mem
  have hcur : swrCur g n cp p base xs x0 xp ll = (xs.set 0 xp) := by unfold swrCur; rw [l13, l11]; simp
  rw [hcur] at hown
  have hln : (xs.set 0 xp).length = n := by simp [hn]
  have hfl : ((xs.set 0 xp).flatMap rowL).length = n * 8 := by rw [rowsL_length, hln]
  have cc : ∀ i, i < 8 → ∃ u, W.cell? ⟨g, p * 8 + i, none⟩ = some u := fun i hi => ⟨_, (hown.cellAt (p * 8 + i) (by omega)).trans (List.getElem?_eq_getElem (by omega))⟩
  obtain ⟨u0, c0⟩ := cc 0 (by omega)
  obtain ⟨u1, c1⟩ := cc 1 (by omega)
  obtain ⟨u2, c2⟩ := cc 2 (by omega)
  obtain ⟨u3, c3⟩ := cc 3 (by omega)
  obtain ⟨u4, c4⟩ := cc 4 (by omega)
  obtain ⟨u5, c5⟩ := cc 5 (by omega)
  obtain ⟨u6, c6⟩ := cc 6 (by omega)
  obtain ⟨u7, c7⟩ := cc 7 (by omega)
  rw [Nat.add_zero] at c0
  clear cc
  have fz := fun j => hown.frozenAt j
  show oo.wp Tryz.prog fr W K Q
  unfold Oper.wp
  simp only [execOp, hop, e12, e9, List.map_toArray, List.map_cons, List.map_nil]
  go_simp
  refine hK _ ⟨?_, ?_⟩
  · rw [show swrCur g n cp p base xs x0 xp (ll.setIfInBounds 13 true) = (xs.set 0 xp).set p x0 from by unfold swrCur; rw [DV.set_eq (by have h := F.size; have h2 : (swrK g n cp p base xs x0 xp a0 wf).n = 14 := rfl; omega)]; simp]
    exact rows_put8 hown p (by rw [hln]; exact hpn) x0
  · exact (((((((hfar.set _ _).set _ _).set _ _).set _ _).set _ _).set _ _).set _ _).set _ _
theorem swr_ok (ok : swrOk g n cp p base xs x0 xp a0) (hz : a0.tmps.size = 128) : (swrK g n cp p base xs x0 xp a0 wf).Ok Q where
  size := swrOps_size
  guards := by
    intro k hk o ho
    have h : ((swrOps.toList.all fun o => o.guard.isNone)) = true := by kernel_rfl
    have := List.all_eq_true.1 h o (List.mem_of_getElem? (by rw [Array.getElem?_toList]; exact ho))
    simpa using this
  waits := by
    have h : ((List.range 14).all fun k => (swrNeeds k).all fun j => waits .any swrOps k j) = true := by kernel_rfl
    intro k hk j hj
    exact List.all_eq_true.1 (List.all_eq_true.1 h k (List.mem_range.2 hk)) j hj
  step := by
    intro k hk
    have hk' : k < 14 := hk
    rcases (by omega : k = 0 ∨ k = 1 ∨ k = 2 ∨ k = 3 ∨ k = 4 ∨ k = 5 ∨ k = 6 ∨ k = 7 ∨ k = 8 ∨ k = 9 ∨ k = 10 ∨ k = 11 ∨ k = 12 ∨ k = 13) with rfl | rfl | rfl | rfl | rfl | rfl | rfl | rfl | rfl | rfl | rfl | rfl | rfl | rfl
    · exact swr_op0 ok
    · exact swr_op1 ok
    · exact swr_op2 ok
    · exact swr_op3 ok
    · exact swr_op4 ok
    · exact swr_op5 ok
    · exact swr_op6 ok
    · exact swr_op7 ok
    · exact swr_op8 ok
    · exact swr_op9 ok
    · exact swr_op10 ok
    · exact swr_op11 ok
    · exact swr_op12 ok
    · exact swr_op13 ok
  inj := by
    have h : ((List.range 14).all fun j => (List.range 14).all fun k => match swrSlot j, swrSlot k with | some s, some t => decide (s = t → j = k) | _, _ => true) = true := by decide
    intro j k s hj hk h1 h2
    have := List.all_eq_true.1 (List.all_eq_true.1 h j (List.mem_range.2 hj)) k (List.mem_range.2 hk)
    have h1' : swrSlot j = some s := h1
    have h2' : swrSlot k = some s := h2
    rw [h1', h2'] at this
    simpa using this
  room := by
    have h : ((List.range 14).all fun j => match swrSlot j with | some s => decide (s < 128) | none => true) = true := by decide
    intro k s hk h1
    have := List.all_eq_true.1 h k (List.mem_range.2 hk)
    have h1' : swrSlot k = some s := h1
    rw [h1'] at this
    show s < a0.tmps.size
    rw [hz]
    simpa using this
theorem swr_ordered : ((List.range 14).all fun i => ((swrOps[i]?).map fun o => o.after.toList.all fun e => !Region.binds .any e || decide (e.on < i)).getD true) = true := by kernel_rfl
set_option maxHeartbeats 400000 in
/-- the whole statement -/
theorem swr_region {W : World} (ok : swrOk g n cp p base xs x0 xp a0) (hz : a0.tmps.size = 128) (hd : a0.defers = []) (hown : W.ownsRow base 27 8 (.slice (some ⟨g, 0, none⟩) n cp) n (xs.flatMap rowL))
    (hQ : ∀ (v0 v1 v2 v3 v4 v5 v6 v7 v8 v9 v10 v11 : Value) (W' : World), W'.ownsRow base 27 8 (.slice (some ⟨g, 0, none⟩) n cp) n (((xs.set 0 xp).set p x0).flatMap rowL) → FarO g W W' → Q .normal ⟨setL a0.tmps 55 [v0, v1, v2, v3, v4, v5, v6, v7, v8, v9, v10, v11], []⟩ W') :
    wpAny Tryz.prog .any swrOps Q 14 (Array.replicate 14 false) a0 W := by
  have z : ∀ k, (Array.replicate 14 false).getD k false = false := fun k => by
    by_cases hk : k < 14 <;> simp [Array.getD, hk]
  refine DV.region (c := swrK g n cp p base xs x0 xp a0 W) (swr_ok ok hz) swr_ordered ⟨?_, FarO.refl _ _⟩ ?_
  · have e : swrCur g n cp p base xs x0 xp (Array.replicate 14 false) = xs := by unfold swrCur; rw [z, z]; simp
    have h2 := hown
    rw [← e] at h2
    exact h2
  · intro a' l W' h1 h2 h3 _ hl hm
    obtain ⟨tm, df⟩ := a'
    have hdf : df = [] := h2.trans hd
    subst hdf
    have hb : ∀ k, k < 14 → ∀ s, swrSlot k = some s → 55 ≤ s ∧ s ≤ 66 := by
      intro k hk s e
      rcases (by omega : k = 0 ∨ k = 1 ∨ k = 2 ∨ k = 3 ∨ k = 4 ∨ k = 5 ∨ k = 6 ∨ k = 7 ∨ k = 8 ∨ k = 9 ∨ k = 10 ∨ k = 11 ∨ k = 12 ∨ k = 13) with rfl | rfl | rfl | rfl | rfl | rfl | rfl | rfl | rfl | rfl | rfl | rfl | rfl | rfl <;> simp [swrSlot] at e <;> omega
    have hfr : ∀ i, (i < 55 ∨ 55 + 11 < i) → tm.getD i undef = a0.tmps.getD i undef := by
      intro i hi
      have h5 : (⟨tm, []⟩ : Act).eval (.tmp i) = a0.eval (.tmp i) := h3 i (fun k hk e => by
        have := hb k hk i e
        omega)
      exact h5
    have hz1 : tm.size = 128 := h1.trans hz
    obtain ⟨v0, v1, v2, v3, v4, v5, v6, v7, v8, v9, v10, v11, ht⟩ := frame12 55 hz1 hz hfr
    rw [ht]
    refine hQ v0 v1 v2 v3 v4 v5 v6 v7 v8 v9 v10 v11 W' ?_ hm.2
    have h7 := hm.1
    have h8 : swrCur g n cp p base xs x0 xp l = (xs.set 0 xp).set p x0 := by unfold swrCur; rw [hl 13 (show 13 < 14 from by decide)]; simp
    rw [h8] at h7
    exact h7
end
end Go.Proofs.YtkpecagkpjabdabGreat
