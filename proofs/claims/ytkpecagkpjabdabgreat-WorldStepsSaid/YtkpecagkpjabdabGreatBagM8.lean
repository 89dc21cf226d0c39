/- Several small texts in one. No condition of its own: each part says its own. -/
import Derived.Test.YtkpecagkpjabdabGreatBagM1
import Derived.Test.YtkpecagkpjabdabGreatBagMb
import Derived.Test.YtkpecagkpjabdabGreatBagM3
import Derived.Test.YtkpecagkpjabdabGreatBagM6
import Derived.Test.YtkpecagkpjabdabGreatRowCells
import Derived.Test.YtkpecagkpjabdabGreatBagW
import Derived.Test.YtkpecagkpjabdabGreatBagWo
/- StepOf's statements that draw their order, each operation once. Condition: what the walk has shown ahead of them. -/
namespace Go.Proofs.YtkpecagkpjabdabGreat
open Go.RowKit
set_option linter.unusedVariables false
set_option linter.unusedSimpArgs false
set_option maxRecDepth 100000
set_option maxRecDepth 100000
noncomputable def stoC : Code := ((Tryz.f26.body.bind (regionOf 10)).getD .skip)
noncomputable def stoOps : Array Oper := match stoC with
  | .region _ ops _ => ops
  | _ => #[]
theorem stoC_is : stoC = .region 10 stoOps true := by kernel_rfl
theorem stoOps_size : stoOps.size = 16 := by kernel_rfl
def stoSlot (k : Nat) : Option Nat := ([some 60, some 61, some 62, some 63, some 64, some 65, some 66, some 67, some 68, some 69, some 70, some 71, none, some 72, some 73, none] : List (Option Nat)).getD k none
def stoVal (p6 : Nat) (m : Int) (r : M.Row) (vx vy : Int) (gg : Unit) (k9 : Nat) : Value := ([.pointer (some ⟨p6, 1, none⟩), .pointer (some ⟨p6, 1, none⟩), .int .i64 r.X, .int .i64 vx, .int .i64 (M.add r.X vx 1048576), .pointer (some ⟨p6, 1, none⟩), .pointer (some ⟨p6, 2, none⟩), .int .i64 r.Y, .int .i64 vy, .int .i64 (M.add r.Y vy 1048576), .pointer (some ⟨p6, 1, none⟩), .pointer (some ⟨p6, 1, none⟩), undef, .pointer (some ⟨p6, 1, none⟩), .pointer (some ⟨p6, 2, none⟩), undef] : List Value).getD k9 undef
def stoNeeds (k : Nat) : List Nat := ([[], [0], [1], [], [2, 3], [], [5], [6], [], [7, 8], [], [10], [4, 11], [], [13], [9, 14]] : List (List Nat)).getD k []
def stoMem (p6 : Nat) (m : Int) (r : M.Row) (vx vy : Int) (W0 : World) (gg : Unit) (ll : Array Bool) (W : World) : Prop := Blk W p6 115 #[.int .i64 m, .int .i64 (if ll.getD 12 false = true then (M.add r.X vx 1048576) else r.X), .int .i64 (if ll.getD 15 false = true then (M.add r.Y vy 1048576) else r.Y), .int .i64 r.PX, .int .i64 r.PY, .int .i64 r.W, .int .i64 r.H, .int .i64 r.M, .int .i64 r.R] ∧ FarO p6 W0 W
noncomputable def stoK (p6 : Nat) (m : Int) (r : M.Row) (vx vy : Int) (a0 : Act) (W0 : World) : DG (Unit) := { P := Tryz.prog, ops := stoOps, a0 := a0, n := 16, slot := stoSlot, val := stoVal p6 m r vx vy, needs := stoNeeds, mem := stoMem p6 m r vx vy W0 }
section
variable {p6 : Nat} {m : Int} {r : M.Row} {vx vy : Int}
variable {a0 fr : Act} {W0 W : World} {Q : Exit → Act → World → Prop} {gg : Unit} {ll : Array Bool} {k : Nat}
structure stoOk (p6 : Nat) (m : Int) (r : M.Row) (vx vy : Int) (a0 : Act) (W0 : World) : Prop where
  h6 : a0.eval (.tmp 6) = .pointer (some ⟨p6, 0, none⟩)
  h7 : a0.eval (.tmp 7) = .int .i64 vx
  h8 : a0.eval (.tmp 8) = .int .i64 vy
theorem sto_v (F : (stoK p6 m r vx vy a0 W0).Facts k gg ll fr W) (j s : Nat) (h1 : j ∈ stoNeeds k) (h2 : stoSlot j = some s) : fr.eval (.tmp s) = stoVal p6 m r vx vy gg j := F.vals j s h1 h2
theorem sto_o (F : (stoK p6 m r vx vy a0 W0).Facts k gg ll fr W) (s : Nat) {v : Value} (h2 : a0.eval (.tmp s) = v) (h1 : ∀ k, k < 16 → stoSlot k ≠ some s) : fr.eval (.tmp s) = v := (F.other s h1).trans h2
theorem sto_m (F : (stoK p6 m r vx vy a0 W0).Facts k gg ll fr W) : Blk W p6 115 #[.int .i64 m, .int .i64 (if ll.getD 12 false = true then (M.add r.X vx 1048576) else r.X), .int .i64 (if ll.getD 15 false = true then (M.add r.Y vy 1048576) else r.Y), .int .i64 r.PX, .int .i64 r.PY, .int .i64 r.W, .int .i64 r.H, .int .i64 r.M, .int .i64 r.R] ∧ FarO p6 W0 W := F.mem
theorem sto_z (F : (stoK p6 m r vx vy a0 W0).Facts k gg ll fr W) : ll.size = 16 := F.size
theorem sto_keep (F : (stoK p6 m r vx vy a0 W0).Facts k gg ll fr W) (n12 : k ≠ 12) (n15 : k ≠ 15) : stoMem p6 m r vx vy W0 gg (ll.setIfInBounds k true) W := by
  have h9 : stoMem p6 m r vx vy W0 gg ll W := F.mem
  unfold stoMem at h9 ⊢
  rw [DG.set_ne n12, DG.set_ne n15]
  exact h9
set_option maxHeartbeats 8000000 in
theorem sto_ok (ok : stoOk p6 m r vx vy a0 W0) (hz : a0.tmps.size = 203) : (stoK p6 m r vx vy a0 W0).Ok Q := by
  refine DG.ok_of stoOps_size (by kernel_rfl) (by kernel_rfl) (by rfl) hz (by rfl) ?_
  · intro k hk
    rcases (show k = 0 ∨ k = 1 ∨ k = 2 ∨ k = 3 ∨ k = 4 ∨ k = 5 ∨ k = 6 ∨ k = 7 ∨ k = 8 ∨ k = 9 ∨ k = 10 ∨ k = 11 ∨ k = 12 ∨ k = 13 ∨ k = 14 ∨ k = 15 from by have k9 : k < 16 := hk; omega) with rfl | rfl | rfl | rfl | rfl | rfl | rfl | rfl | rfl | rfl | rfl | rfl | rfl | rfl | rfl | rfl
    · refine .of (show (stoOps[0]?).map (fun o => (o.op, o.dst)) = some (.fieldAddr 115 (.tmp 6) 1, some 60) from by kernel_rfl) fun gg ll fr W F oo hop hd K hK => ?_
      have s6 := sto_o F 6 ok.h6 (by decide)
      show oo.wp Tryz.prog fr W K Q
      unfold Oper.wp
      simp only [execOp, hop, s6, List.map_toArray, List.map_cons, List.map_nil]
      go_simp
      exact hK gg _ (fun _ _ _ _ => rfl) (sto_keep F (by decide) (by decide))
    · refine .of (show (stoOps[1]?).map (fun o => (o.op, o.dst)) = some (.fieldAddr 27 (.tmp 60) 0, some 61) from by kernel_rfl) fun gg ll fr W F oo hop hd K hK => ?_
      have e0 := sto_v F 0 60 (by decide) rfl
      simp only [stoVal, List.getD_cons_zero, List.getD_cons_succ] at e0
      show oo.wp Tryz.prog fr W K Q
      unfold Oper.wp
      simp only [execOp, hop, e0, List.map_toArray, List.map_cons, List.map_nil]
      go_simp
      exact hK gg _ (fun _ _ _ _ => rfl) (sto_keep F (by decide) (by decide))
    · refine .of (show (stoOps[2]?).map (fun o => (o.op, o.dst)) = some (.load 3 (.tmp 61), some 62) from by kernel_rfl) fun gg ll fr W F oo hop hd K hK => ?_
      have e1 := sto_v F 1 61 (by decide) rfl
      simp only [stoVal, List.getD_cons_zero, List.getD_cons_succ] at e1
      have l12 : ll.getD 12 false = false := by
        cases hx : ll.getD 12 false with
        | false => rfl
        | true => have q := (fun h => (F.closed 4 2 (show 2 ∈ stoNeeds 4 from by decide) (F.closed 12 4 (show 4 ∈ stoNeeds 12 from by decide) h))) hx; rw [F.not] at q; cases q
      obtain ⟨hb, hf⟩ := (sto_m F)
      have u1 := hb.cell 1
      simp [l12] at u1
      show oo.wp Tryz.prog fr W K Q
      unfold Oper.wp
      simp only [execOp, hop, e1, List.map_toArray, List.map_cons, List.map_nil]
      go_simp
      exact hK gg _ (fun _ _ _ _ => rfl) (sto_keep F (by decide) (by decide))
    · refine .of (show (stoOps[3]?).map (fun o => (o.op, o.dst)) = some (.move (.tmp 7), some 63) from by kernel_rfl) fun gg ll fr W F oo hop hd K hK => ?_
      have s7 := sto_o F 7 ok.h7 (by decide)
      show oo.wp Tryz.prog fr W K Q
      unfold Oper.wp
      simp only [execOp, hop, s7, List.map_toArray, List.map_cons, List.map_nil]
      go_simp
      exact hK gg _ (fun _ _ _ _ => rfl) (sto_keep F (by decide) (by decide))
    · refine .of (show (stoOps[4]?).map (fun o => (o.op, o.dst)) = some (.call { callee := .value (.func 62), args := #[.tmp 62, .tmp 63, .const (.int .i64 1048576)], argTypes := #[3, 3, 3] }, some 64) from by kernel_rfl) fun gg ll fr W F oo hop hd K hK => ?_
      have e2 := sto_v F 2 62 (by decide) rfl
      have e3 := sto_v F 3 63 (by decide) rfl
      simp only [stoVal, List.getD_cons_zero, List.getD_cons_succ] at e2 e3
      show oo.wp Tryz.prog fr W K Q
      unfold Oper.wp
      simp only [execOp, hop, e2, e3, List.map_toArray, List.map_cons, List.map_nil]
      go_simp
      simp only [DG.tmps_eval, e2, e3]
      refine (addOf_calls _ _ _ W).mono ?_
      rintro e W2 ⟨rfl, rfl⟩
      exact hK gg _ (fun _ _ _ _ => rfl) (sto_keep F (by decide) (by decide))
    · refine .of (show (stoOps[5]?).map (fun o => (o.op, o.dst)) = some (.fieldAddr 115 (.tmp 6) 1, some 65) from by kernel_rfl) fun gg ll fr W F oo hop hd K hK => ?_
      have s6 := sto_o F 6 ok.h6 (by decide)
      show oo.wp Tryz.prog fr W K Q
      unfold Oper.wp
      simp only [execOp, hop, s6, List.map_toArray, List.map_cons, List.map_nil]
      go_simp
      exact hK gg _ (fun _ _ _ _ => rfl) (sto_keep F (by decide) (by decide))
    · refine .of (show (stoOps[6]?).map (fun o => (o.op, o.dst)) = some (.fieldAddr 27 (.tmp 65) 1, some 66) from by kernel_rfl) fun gg ll fr W F oo hop hd K hK => ?_
      have e5 := sto_v F 5 65 (by decide) rfl
      simp only [stoVal, List.getD_cons_zero, List.getD_cons_succ] at e5
      show oo.wp Tryz.prog fr W K Q
      unfold Oper.wp
      simp only [execOp, hop, e5, List.map_toArray, List.map_cons, List.map_nil]
      go_simp
      exact hK gg _ (fun _ _ _ _ => rfl) (sto_keep F (by decide) (by decide))
    · refine .of (show (stoOps[7]?).map (fun o => (o.op, o.dst)) = some (.load 3 (.tmp 66), some 67) from by kernel_rfl) fun gg ll fr W F oo hop hd K hK => ?_
      have e6 := sto_v F 6 66 (by decide) rfl
      simp only [stoVal, List.getD_cons_zero, List.getD_cons_succ] at e6
      have l15 : ll.getD 15 false = false := by
        cases hx : ll.getD 15 false with
        | false => rfl
        | true => have q := (fun h => (F.closed 9 7 (show 7 ∈ stoNeeds 9 from by decide) (F.closed 15 9 (show 9 ∈ stoNeeds 15 from by decide) h))) hx; rw [F.not] at q; cases q
      obtain ⟨hb, hf⟩ := (sto_m F)
      have u2 := hb.cell 2
      simp [l15] at u2
      show oo.wp Tryz.prog fr W K Q
      unfold Oper.wp
      simp only [execOp, hop, e6, List.map_toArray, List.map_cons, List.map_nil]
      go_simp
      exact hK gg _ (fun _ _ _ _ => rfl) (sto_keep F (by decide) (by decide))
    · refine .of (show (stoOps[8]?).map (fun o => (o.op, o.dst)) = some (.move (.tmp 8), some 68) from by kernel_rfl) fun gg ll fr W F oo hop hd K hK => ?_
      have s8 := sto_o F 8 ok.h8 (by decide)
      show oo.wp Tryz.prog fr W K Q
      unfold Oper.wp
      simp only [execOp, hop, s8, List.map_toArray, List.map_cons, List.map_nil]
      go_simp
      exact hK gg _ (fun _ _ _ _ => rfl) (sto_keep F (by decide) (by decide))
    · refine .of (show (stoOps[9]?).map (fun o => (o.op, o.dst)) = some (.call { callee := .value (.func 62), args := #[.tmp 67, .tmp 68, .const (.int .i64 1048576)], argTypes := #[3, 3, 3] }, some 69) from by kernel_rfl) fun gg ll fr W F oo hop hd K hK => ?_
      have e7 := sto_v F 7 67 (by decide) rfl
      have e8 := sto_v F 8 68 (by decide) rfl
      simp only [stoVal, List.getD_cons_zero, List.getD_cons_succ] at e7 e8
      show oo.wp Tryz.prog fr W K Q
      unfold Oper.wp
      simp only [execOp, hop, e7, e8, List.map_toArray, List.map_cons, List.map_nil]
      go_simp
      simp only [DG.tmps_eval, e7, e8]
      refine (addOf_calls _ _ _ W).mono ?_
      rintro e W2 ⟨rfl, rfl⟩
      exact hK gg _ (fun _ _ _ _ => rfl) (sto_keep F (by decide) (by decide))
    · refine .of (show (stoOps[10]?).map (fun o => (o.op, o.dst)) = some (.fieldAddr 115 (.tmp 6) 1, some 70) from by kernel_rfl) fun gg ll fr W F oo hop hd K hK => ?_
      have s6 := sto_o F 6 ok.h6 (by decide)
      show oo.wp Tryz.prog fr W K Q
      unfold Oper.wp
      simp only [execOp, hop, s6, List.map_toArray, List.map_cons, List.map_nil]
      go_simp
      exact hK gg _ (fun _ _ _ _ => rfl) (sto_keep F (by decide) (by decide))
    · refine .of (show (stoOps[11]?).map (fun o => (o.op, o.dst)) = some (.fieldAddr 27 (.tmp 70) 0, some 71) from by kernel_rfl) fun gg ll fr W F oo hop hd K hK => ?_
      have e10 := sto_v F 10 70 (by decide) rfl
      simp only [stoVal, List.getD_cons_zero, List.getD_cons_succ] at e10
      show oo.wp Tryz.prog fr W K Q
      unfold Oper.wp
      simp only [execOp, hop, e10, List.map_toArray, List.map_cons, List.map_nil]
      go_simp
      exact hK gg _ (fun _ _ _ _ => rfl) (sto_keep F (by decide) (by decide))
    · refine .of (show (stoOps[12]?).map (fun o => (o.op, o.dst)) = some (.store 3 (.tmp 71) (.tmp 64), none) from by kernel_rfl) fun gg ll fr W F oo hop hd K hK => ?_
      have e4 := sto_v F 4 64 (by decide) rfl
      have e11 := sto_v F 11 71 (by decide) rfl
      simp only [stoVal, List.getD_cons_zero, List.getD_cons_succ] at e4 e11
      have hz : 12 < ll.size := by rw [sto_z F]; decide
      obtain ⟨hb, hf⟩ := (sto_m F)
      have u1 := hb.cell 1
      simp at u1
      have fz := fun i => hb.free i
      show oo.wp Tryz.prog fr W K Q
      unfold Oper.wp
      simp only [execOp, hop, e4, e11, List.map_toArray, List.map_cons, List.map_nil]
      go_simp
      refine hK gg _ (fun _ _ _ _ => rfl) (show stoMem p6 m r vx vy W0 gg (ll.setIfInBounds 12 true) _ from ?_)
      unfold stoMem
      rw [DG.set_eq hz, DG.set_ne (i := 12) (k := 15) (by decide)]
      exact ⟨blk_to (hb.put 1 _) (by simp), hf.set _ _⟩
    · refine .of (show (stoOps[13]?).map (fun o => (o.op, o.dst)) = some (.fieldAddr 115 (.tmp 6) 1, some 72) from by kernel_rfl) fun gg ll fr W F oo hop hd K hK => ?_
      have s6 := sto_o F 6 ok.h6 (by decide)
      show oo.wp Tryz.prog fr W K Q
      unfold Oper.wp
      simp only [execOp, hop, s6, List.map_toArray, List.map_cons, List.map_nil]
      go_simp
      exact hK gg _ (fun _ _ _ _ => rfl) (sto_keep F (by decide) (by decide))
    · refine .of (show (stoOps[14]?).map (fun o => (o.op, o.dst)) = some (.fieldAddr 27 (.tmp 72) 1, some 73) from by kernel_rfl) fun gg ll fr W F oo hop hd K hK => ?_
      have e13 := sto_v F 13 72 (by decide) rfl
      simp only [stoVal, List.getD_cons_zero, List.getD_cons_succ] at e13
      show oo.wp Tryz.prog fr W K Q
      unfold Oper.wp
      simp only [execOp, hop, e13, List.map_toArray, List.map_cons, List.map_nil]
      go_simp
      exact hK gg _ (fun _ _ _ _ => rfl) (sto_keep F (by decide) (by decide))
    · refine .of (show (stoOps[15]?).map (fun o => (o.op, o.dst)) = some (.store 3 (.tmp 73) (.tmp 69), none) from by kernel_rfl) fun gg ll fr W F oo hop hd K hK => ?_
      have e9 := sto_v F 9 69 (by decide) rfl
      have e14 := sto_v F 14 73 (by decide) rfl
      simp only [stoVal, List.getD_cons_zero, List.getD_cons_succ] at e9 e14
      have hz : 15 < ll.size := by rw [sto_z F]; decide
      obtain ⟨hb, hf⟩ := (sto_m F)
      have u2 := hb.cell 2
      simp at u2
      have fz := fun i => hb.free i
      show oo.wp Tryz.prog fr W K Q
      unfold Oper.wp
      simp only [execOp, hop, e9, e14, List.map_toArray, List.map_cons, List.map_nil]
      go_simp
      refine hK gg _ (fun _ _ _ _ => rfl) (show stoMem p6 m r vx vy W0 gg (ll.setIfInBounds 15 true) _ from ?_)
      unfold stoMem
      rw [DG.set_eq hz, DG.set_ne (i := 15) (k := 12) (by decide)]
      exact ⟨blk_to (hb.put 2 _) (by simp), hf.set _ _⟩
theorem sto_region (ok : stoOk p6 m r vx vy a0 W0) (hz : a0.tmps.size = 203) (hd : a0.defers = []) (g0 : Unit) (hm : stoMem p6 m r vx vy W0 g0 (Array.replicate 16 false) W)
    (hQ : ∀ (gg : Unit) (ll : Array Bool) (W' : World), (∀ k, k < 16 → ll.getD k false = true) → stoMem p6 m r vx vy W0 gg ll W' → Q .normal ⟨DG.setQ a0.tmps [(60, stoVal p6 m r vx vy gg 0), (61, stoVal p6 m r vx vy gg 1), (62, stoVal p6 m r vx vy gg 2), (63, stoVal p6 m r vx vy gg 3), (64, stoVal p6 m r vx vy gg 4), (65, stoVal p6 m r vx vy gg 5), (66, stoVal p6 m r vx vy gg 6), (67, stoVal p6 m r vx vy gg 7), (68, stoVal p6 m r vx vy gg 8), (69, stoVal p6 m r vx vy gg 9), (70, stoVal p6 m r vx vy gg 10), (71, stoVal p6 m r vx vy gg 11), (72, stoVal p6 m r vx vy gg 13), (73, stoVal p6 m r vx vy gg 14)], []⟩ W') :
    wpAny Tryz.prog .any stoOps Q 16 (Array.replicate 16 false) a0 W :=
  DG.region2 (c := stoK p6 m r vx vy a0 W0) (sto_ok ok hz) (by kernel_rfl) hd g0 hm (fun gg => [(60, stoVal p6 m r vx vy gg 0), (61, stoVal p6 m r vx vy gg 1), (62, stoVal p6 m r vx vy gg 2), (63, stoVal p6 m r vx vy gg 3), (64, stoVal p6 m r vx vy gg 4), (65, stoVal p6 m r vx vy gg 5), (66, stoVal p6 m r vx vy gg 6), (67, stoVal p6 m r vx vy gg 7), (68, stoVal p6 m r vx vy gg 8), (69, stoVal p6 m r vx vy gg 9), (70, stoVal p6 m r vx vy gg 10), (71, stoVal p6 m r vx vy gg 11), (72, stoVal p6 m r vx vy gg 13), (73, stoVal p6 m r vx vy gg 14)]) (fun _ => rfl) hQ
end
noncomputable def stpC : Code := ((Tryz.f26.body.bind (regionOf 17)).getD .skip)
noncomputable def stpOps : Array Oper := match stpC with
  | .region _ ops _ => ops
  | _ => #[]
theorem stpC_is : stpC = .region 17 stpOps true := by kernel_rfl
theorem stpOps_size : stpOps.size = 14 := by kernel_rfl
def stpSlot (k : Nat) : Option Nat := ([some 87, some 88, some 89, some 90, some 91, some 92, some 93, some 94, some 95, some 96, some 12, some 13, none, none] : List (Option Nat)).getD k none
def stpVal (b c p1 p11 : Nat) (f : Int → Option M.Th) (next fall wide high pa pb : Int) (ta tb : M.Th) (gg : (Nat × Nat)) (k9 : Nat) : Value := ([.pointer (some ⟨p1, 0, none⟩), .map (some b), .pointer (some ⟨p11, 0, none⟩), .int .i64 pa, thV ta, .pointer (some ⟨p1, 0, none⟩), .map (some b), .pointer (some ⟨p11, 1, none⟩), .int .i64 pb, thV tb, .pointer (some ⟨gg.1, 0, none⟩), .pointer (some ⟨gg.2, 0, none⟩), undef, undef] : List Value).getD k9 undef
def stpNeeds (k : Nat) : List Nat := ([[], [0], [], [2], [1, 3], [], [5], [], [7], [6, 8], [], [], [4, 10], [9, 11]] : List (List Nat)).getD k []
def stpMem (b c p1 p11 : Nat) (f : Int → Option M.Th) (next fall wide high pa pb : Int) (ta tb : M.Th) (W0 : World) (gg : (Nat × Nat)) (ll : Array Bool) (W : World) : Prop := TwoBlk 115 (thC M.th0) (thC ta) (thC tb) 10 11 12 13 W0 gg ll W
noncomputable def stpK (b c p1 p11 : Nat) (f : Int → Option M.Th) (next fall wide high pa pb : Int) (ta tb : M.Th) (a0 : Act) (W0 : World) : DG ((Nat × Nat)) := { P := Tryz.prog, ops := stpOps, a0 := a0, n := 14, slot := stpSlot, val := stpVal b c p1 p11 f next fall wide high pa pb ta tb, needs := stpNeeds, mem := stpMem b c p1 p11 f next fall wide high pa pb ta tb W0 }
section
variable {b c p1 p11 : Nat} {f : Int → Option M.Th} {next fall wide high pa pb : Int} {ta tb : M.Th}
variable {a0 fr : Act} {W0 W : World} {Q : Exit → Act → World → Prop} {gg : (Nat × Nat)} {ll : Array Bool} {k : Nat}
structure stpOk (b c p1 p11 : Nat) (f : Int → Option M.Th) (next fall wide high pa pb : Int) (ta tb : M.Th) (a0 : Act) (W0 : World) : Prop where
  h1 : a0.eval (.tmp 1) = .pointer (some ⟨p1, 0, none⟩)
  h11 : a0.eval (.tmp 11) = .pointer (some ⟨p11, 0, none⟩)
  bw : Blk W0 p1 57 #[.map (some b), .int .i64 next, .int .i64 fall, .int .i64 wide, .int .i64 high]
  bp : Blk W0 p11 77 #[.int .i64 pa, .int .i64 pb]
  map : MapA W0 b f c
  ia : I64 pa
  ib : I64 pb
  ta : (f pa).getD M.th0 = ta
  tb : (f pb).getD M.th0 = tb
theorem stp_v (F : (stpK b c p1 p11 f next fall wide high pa pb ta tb a0 W0).Facts k gg ll fr W) (j s : Nat) (h1 : j ∈ stpNeeds k) (h2 : stpSlot j = some s) : fr.eval (.tmp s) = stpVal b c p1 p11 f next fall wide high pa pb ta tb gg j := F.vals j s h1 h2
theorem stp_o (F : (stpK b c p1 p11 f next fall wide high pa pb ta tb a0 W0).Facts k gg ll fr W) (s : Nat) {v : Value} (h2 : a0.eval (.tmp s) = v) (h1 : ∀ k, k < 14 → stpSlot k ≠ some s) : fr.eval (.tmp s) = v := (F.other s h1).trans h2
theorem stp_z (F : (stpK b c p1 p11 f next fall wide high pa pb ta tb a0 W0).Facts k gg ll fr W) : ll.size = 14 := F.size
set_option maxHeartbeats 8000000 in
theorem stp_ok (ok : stpOk b c p1 p11 f next fall wide high pa pb ta tb a0 W0) (hz : a0.tmps.size = 203) : (stpK b c p1 p11 f next fall wide high pa pb ta tb a0 W0).Ok Q := by
  refine DG.ok_of stpOps_size (by kernel_rfl) (by kernel_rfl) (by rfl) hz (by rfl) ?_
  · intro k hk
    rcases (show k = 0 ∨ k = 1 ∨ k = 2 ∨ k = 3 ∨ k = 4 ∨ k = 5 ∨ k = 6 ∨ k = 7 ∨ k = 8 ∨ k = 9 ∨ k = 10 ∨ k = 11 ∨ k = 12 ∨ k = 13 from by have k9 : k < 14 := hk; omega) with rfl | rfl | rfl | rfl | rfl | rfl | rfl | rfl | rfl | rfl | rfl | rfl | rfl | rfl
    · refine .of (show (stpOps[0]?).map (fun o => (o.op, o.dst)) = some (.fieldAddr 57 (.tmp 1) 0, some 87) from by kernel_rfl) fun gg ll fr W F oo hop hd K hK => ?_
      have s1 := stp_o F 1 ok.h1 (by decide)
      have hm : stpMem b c p1 p11 f next fall wide high pa pb ta tb W0 gg ll W := F.mem
      show oo.wp Tryz.prog fr W K Q
      unfold Oper.wp
      simp only [execOp, hop, s1, List.map_toArray, List.map_cons, List.map_nil]
      go_simp
      exact hK gg _ (fun _ _ _ _ => rfl) (show stpMem b c p1 p11 f next fall wide high pa pb ta tb W0 gg (ll.setIfInBounds 0 true) W from TwoBlk.keep hm (by decide) (by decide) (by decide) (by decide))
    · refine .of (show (stpOps[1]?).map (fun o => (o.op, o.dst)) = some (.load 55 (.tmp 87), some 88) from by kernel_rfl) fun gg ll fr W F oo hop hd K hK => ?_
      have e0 := stp_v F 0 87 (by decide) rfl
      simp only [stpVal, List.getD_cons_zero, List.getD_cons_succ] at e0
      have hm : stpMem b c p1 p11 f next fall wide high pa pb ta tb W0 gg ll W := F.mem
      have hbel : Below W0.heap.size W0 W := hm.bel
      have hw := ok.bw.below hbel ok.bw.lt
      have u0 := hw.cell 0
      simp at u0
      show oo.wp Tryz.prog fr W K Q
      unfold Oper.wp
      simp only [execOp, hop, e0, List.map_toArray, List.map_cons, List.map_nil]
      go_simp
      exact hK gg _ (fun _ _ _ _ => rfl) (show stpMem b c p1 p11 f next fall wide high pa pb ta tb W0 gg (ll.setIfInBounds 1 true) W from TwoBlk.keep hm (by decide) (by decide) (by decide) (by decide))
    · refine .of (show (stpOps[2]?).map (fun o => (o.op, o.dst)) = some (.fieldAddr 77 (.tmp 11) 0, some 89) from by kernel_rfl) fun gg ll fr W F oo hop hd K hK => ?_
      have s11 := stp_o F 11 ok.h11 (by decide)
      have hm : stpMem b c p1 p11 f next fall wide high pa pb ta tb W0 gg ll W := F.mem
      show oo.wp Tryz.prog fr W K Q
      unfold Oper.wp
      simp only [execOp, hop, s11, List.map_toArray, List.map_cons, List.map_nil]
      go_simp
      exact hK gg _ (fun _ _ _ _ => rfl) (show stpMem b c p1 p11 f next fall wide high pa pb ta tb W0 gg (ll.setIfInBounds 2 true) W from TwoBlk.keep hm (by decide) (by decide) (by decide) (by decide))
    · refine .of (show (stpOps[3]?).map (fun o => (o.op, o.dst)) = some (.load 3 (.tmp 89), some 90) from by kernel_rfl) fun gg ll fr W F oo hop hd K hK => ?_
      have e2 := stp_v F 2 89 (by decide) rfl
      simp only [stpVal, List.getD_cons_zero, List.getD_cons_succ] at e2
      have hm : stpMem b c p1 p11 f next fall wide high pa pb ta tb W0 gg ll W := F.mem
      have hbel : Below W0.heap.size W0 W := hm.bel
      have hp := ok.bp.below hbel ok.bp.lt
      have u0 := hp.cell 0
      simp at u0
      show oo.wp Tryz.prog fr W K Q
      unfold Oper.wp
      simp only [execOp, hop, e2, List.map_toArray, List.map_cons, List.map_nil]
      go_simp
      exact hK gg _ (fun _ _ _ _ => rfl) (show stpMem b c p1 p11 f next fall wide high pa pb ta tb W0 gg (ll.setIfInBounds 3 true) W from TwoBlk.keep hm (by decide) (by decide) (by decide) (by decide))
    · refine .of (show (stpOps[4]?).map (fun o => (o.op, o.dst)) = some (.lookup 55 (.tmp 88) (.tmp 90) false, some 91) from by kernel_rfl) fun gg ll fr W F oo hop hd K hK => ?_
      have e1 := stp_v F 1 88 (by decide) rfl
      have e3 := stp_v F 3 90 (by decide) rfl
      simp only [stpVal, List.getD_cons_zero, List.getD_cons_succ] at e1 e3
      have hm : stpMem b c p1 p11 f next fall wide high pa pb ta tb W0 gg ll W := F.mem
      have hbel : Below W0.heap.size W0 W := hm.bel
      have hmw := ok.map.below hbel ok.map.lt
      have hget := MapAt.get hmw Tryz.underlying3 Tryz.underlying55 (th_zero W) ok.ia
      rw [ok.ta] at hget
      show oo.wp Tryz.prog fr W K Q
      unfold Oper.wp
      simp only [execOp, hop, hget, Result.andThen, e1, e3, List.map_toArray, List.map_cons, List.map_nil]
      go_simp
      exact hK gg _ (fun _ _ _ _ => rfl) (show stpMem b c p1 p11 f next fall wide high pa pb ta tb W0 gg (ll.setIfInBounds 4 true) W from TwoBlk.keep hm (by decide) (by decide) (by decide) (by decide))
    · refine .of (show (stpOps[5]?).map (fun o => (o.op, o.dst)) = some (.fieldAddr 57 (.tmp 1) 0, some 92) from by kernel_rfl) fun gg ll fr W F oo hop hd K hK => ?_
      have s1 := stp_o F 1 ok.h1 (by decide)
      have hm : stpMem b c p1 p11 f next fall wide high pa pb ta tb W0 gg ll W := F.mem
      show oo.wp Tryz.prog fr W K Q
      unfold Oper.wp
      simp only [execOp, hop, s1, List.map_toArray, List.map_cons, List.map_nil]
      go_simp
      exact hK gg _ (fun _ _ _ _ => rfl) (show stpMem b c p1 p11 f next fall wide high pa pb ta tb W0 gg (ll.setIfInBounds 5 true) W from TwoBlk.keep hm (by decide) (by decide) (by decide) (by decide))
    · refine .of (show (stpOps[6]?).map (fun o => (o.op, o.dst)) = some (.load 55 (.tmp 92), some 93) from by kernel_rfl) fun gg ll fr W F oo hop hd K hK => ?_
      have e5 := stp_v F 5 92 (by decide) rfl
      simp only [stpVal, List.getD_cons_zero, List.getD_cons_succ] at e5
      have hm : stpMem b c p1 p11 f next fall wide high pa pb ta tb W0 gg ll W := F.mem
      have hbel : Below W0.heap.size W0 W := hm.bel
      have hw := ok.bw.below hbel ok.bw.lt
      have u0 := hw.cell 0
      simp at u0
      show oo.wp Tryz.prog fr W K Q
      unfold Oper.wp
      simp only [execOp, hop, e5, List.map_toArray, List.map_cons, List.map_nil]
      go_simp
      exact hK gg _ (fun _ _ _ _ => rfl) (show stpMem b c p1 p11 f next fall wide high pa pb ta tb W0 gg (ll.setIfInBounds 6 true) W from TwoBlk.keep hm (by decide) (by decide) (by decide) (by decide))
    · refine .of (show (stpOps[7]?).map (fun o => (o.op, o.dst)) = some (.fieldAddr 77 (.tmp 11) 1, some 94) from by kernel_rfl) fun gg ll fr W F oo hop hd K hK => ?_
      have s11 := stp_o F 11 ok.h11 (by decide)
      have hm : stpMem b c p1 p11 f next fall wide high pa pb ta tb W0 gg ll W := F.mem
      show oo.wp Tryz.prog fr W K Q
      unfold Oper.wp
      simp only [execOp, hop, s11, List.map_toArray, List.map_cons, List.map_nil]
      go_simp
      exact hK gg _ (fun _ _ _ _ => rfl) (show stpMem b c p1 p11 f next fall wide high pa pb ta tb W0 gg (ll.setIfInBounds 7 true) W from TwoBlk.keep hm (by decide) (by decide) (by decide) (by decide))
    · refine .of (show (stpOps[8]?).map (fun o => (o.op, o.dst)) = some (.load 3 (.tmp 94), some 95) from by kernel_rfl) fun gg ll fr W F oo hop hd K hK => ?_
      have e7 := stp_v F 7 94 (by decide) rfl
      simp only [stpVal, List.getD_cons_zero, List.getD_cons_succ] at e7
      have hm : stpMem b c p1 p11 f next fall wide high pa pb ta tb W0 gg ll W := F.mem
      have hbel : Below W0.heap.size W0 W := hm.bel
      have hp := ok.bp.below hbel ok.bp.lt
      have u0 := hp.cell 1
      simp at u0
      show oo.wp Tryz.prog fr W K Q
      unfold Oper.wp
      simp only [execOp, hop, e7, List.map_toArray, List.map_cons, List.map_nil]
      go_simp
      exact hK gg _ (fun _ _ _ _ => rfl) (show stpMem b c p1 p11 f next fall wide high pa pb ta tb W0 gg (ll.setIfInBounds 8 true) W from TwoBlk.keep hm (by decide) (by decide) (by decide) (by decide))
    · refine .of (show (stpOps[9]?).map (fun o => (o.op, o.dst)) = some (.lookup 55 (.tmp 93) (.tmp 95) false, some 96) from by kernel_rfl) fun gg ll fr W F oo hop hd K hK => ?_
      have e6 := stp_v F 6 93 (by decide) rfl
      have e8 := stp_v F 8 95 (by decide) rfl
      simp only [stpVal, List.getD_cons_zero, List.getD_cons_succ] at e6 e8
      have hm : stpMem b c p1 p11 f next fall wide high pa pb ta tb W0 gg ll W := F.mem
      have hbel : Below W0.heap.size W0 W := hm.bel
      have hmw := ok.map.below hbel ok.map.lt
      have hget := MapAt.get hmw Tryz.underlying3 Tryz.underlying55 (th_zero W) ok.ib
      rw [ok.tb] at hget
      show oo.wp Tryz.prog fr W K Q
      unfold Oper.wp
      simp only [execOp, hop, hget, Result.andThen, e6, e8, List.map_toArray, List.map_cons, List.map_nil]
      go_simp
      exact hK gg _ (fun _ _ _ _ => rfl) (show stpMem b c p1 p11 f next fall wide high pa pb ta tb W0 gg (ll.setIfInBounds 9 true) W from TwoBlk.keep hm (by decide) (by decide) (by decide) (by decide))
    · refine .of (show (stpOps[10]?).map (fun o => (o.op, o.dst)) = some (.alloc 115, some 12) from by kernel_rfl) fun gg ll fr W F oo hop hd K hK => ?_
      have hm : stpMem b c p1 p11 f next fall wide high pa pb ta tb W0 gg ll W := F.mem
      show oo.wp Tryz.prog fr W K Q
      unfold Oper.wp
      simp only [execOp, hop, List.map_toArray, List.map_cons, List.map_nil]
      go_simp
      refine hK (W.heap.size, gg.2) _ ?_ (show stpMem b c p1 p11 f next fall wide high pa pb ta tb W0 (W.heap.size, gg.2) (ll.setIfInBounds 10 true) _ from TwoBlk.make1 hm ?_ (by decide) (by decide) (by decide))
      · intro j hj hne hl
        have hj' : j < 14 := hj
        rcases (by omega : j = 0 ∨ j = 1 ∨ j = 2 ∨ j = 3 ∨ j = 4 ∨ j = 5 ∨ j = 6 ∨ j = 7 ∨ j = 8 ∨ j = 9 ∨ j = 10 ∨ j = 11 ∨ j = 12 ∨ j = 13) with rfl | rfl | rfl | rfl | rfl | rfl | rfl | rfl | rfl | rfl | rfl | rfl | rfl | rfl <;> first | rfl | exact absurd rfl hne
      · cases hx : ll.getD 12 false with
        | false => rfl
        | true => have q := F.closed 12 10 (show 10 ∈ stpNeeds 12 from by decide) hx; rw [F.not] at q; cases q
    · refine .of (show (stpOps[11]?).map (fun o => (o.op, o.dst)) = some (.alloc 115, some 13) from by kernel_rfl) fun gg ll fr W F oo hop hd K hK => ?_
      have hm : stpMem b c p1 p11 f next fall wide high pa pb ta tb W0 gg ll W := F.mem
      show oo.wp Tryz.prog fr W K Q
      unfold Oper.wp
      simp only [execOp, hop, List.map_toArray, List.map_cons, List.map_nil]
      go_simp
      refine hK (gg.1, W.heap.size) _ ?_ (show stpMem b c p1 p11 f next fall wide high pa pb ta tb W0 (gg.1, W.heap.size) (ll.setIfInBounds 11 true) _ from TwoBlk.make2 hm ?_ (by decide) (by decide) (by decide))
      · intro j hj hne hl
        have hj' : j < 14 := hj
        rcases (by omega : j = 0 ∨ j = 1 ∨ j = 2 ∨ j = 3 ∨ j = 4 ∨ j = 5 ∨ j = 6 ∨ j = 7 ∨ j = 8 ∨ j = 9 ∨ j = 10 ∨ j = 11 ∨ j = 12 ∨ j = 13) with rfl | rfl | rfl | rfl | rfl | rfl | rfl | rfl | rfl | rfl | rfl | rfl | rfl | rfl <;> first | rfl | exact absurd rfl hne
      · cases hx : ll.getD 13 false with
        | false => rfl
        | true => have q := F.closed 13 11 (show 11 ∈ stpNeeds 13 from by decide) hx; rw [F.not] at q; cases q
    · refine .of (show (stpOps[12]?).map (fun o => (o.op, o.dst)) = some (.store 115 (.tmp 12) (.tmp 91), none) from by kernel_rfl) fun gg ll fr W F oo hop hd K hK => ?_
      have e4 := stp_v F 4 91 (by decide) rfl
      have e10 := stp_v F 10 12 (by decide) rfl
      simp only [stpVal, List.getD_cons_zero, List.getD_cons_succ] at e4 e10
      have hm : stpMem b c p1 p11 f next fall wide high pa pb ta tb W0 gg ll W := F.mem
      have hz : 12 < ll.size := by rw [stp_z F]; decide
      have lm : ll.getD 10 false = true := F.listed 10 (show 10 ∈ stpNeeds 12 from by decide)
      have hb9 := (hm.one lm).2
      rw [show ll.getD 12 false = false from F.not, if_neg (by simp)] at hb9
      have u0 := hb9.cell 0
      have u1 := hb9.cell 1
      have u2 := hb9.cell 2
      have u3 := hb9.cell 3
      have u4 := hb9.cell 4
      have u5 := hb9.cell 5
      have u6 := hb9.cell 6
      have u7 := hb9.cell 7
      have u8 := hb9.cell 8
      simp at u0 u1 u2 u3 u4 u5 u6 u7 u8
      have fz := fun i => hb9.free i
      show oo.wp Tryz.prog fr W K Q
      unfold Oper.wp
      simp only [execOp, hop, e4, e10, List.map_toArray, List.map_cons, List.map_nil]
      go_simp
      exact hK gg _ (fun _ _ _ _ => rfl) (show stpMem b c p1 p11 f next fall wide high pa pb ta tb W0 gg (ll.setIfInBounds 12 true) _ from TwoBlk.fill1 hm lm hz (by decide) (by decide) (by decide) ((((((((((FarO.refl _ _).set _ _).set _ _).set _ _).set _ _).set _ _).set _ _).set _ _).set _ _).set _ _) (blk_to (((((((((hb9.put 0 _).put 1 _).put 2 _).put 3 _).put 4 _).put 5 _).put 6 _).put 7 _).put 8 _) (by simp)))
    · refine .of (show (stpOps[13]?).map (fun o => (o.op, o.dst)) = some (.store 115 (.tmp 13) (.tmp 96), none) from by kernel_rfl) fun gg ll fr W F oo hop hd K hK => ?_
      have e9 := stp_v F 9 96 (by decide) rfl
      have e11 := stp_v F 11 13 (by decide) rfl
      simp only [stpVal, List.getD_cons_zero, List.getD_cons_succ] at e9 e11
      have hm : stpMem b c p1 p11 f next fall wide high pa pb ta tb W0 gg ll W := F.mem
      have hz : 13 < ll.size := by rw [stp_z F]; decide
      have lm : ll.getD 11 false = true := F.listed 11 (show 11 ∈ stpNeeds 13 from by decide)
      have hb9 := (hm.two lm).2
      rw [show ll.getD 13 false = false from F.not, if_neg (by simp)] at hb9
      have u0 := hb9.cell 0
      have u1 := hb9.cell 1
      have u2 := hb9.cell 2
      have u3 := hb9.cell 3
      have u4 := hb9.cell 4
      have u5 := hb9.cell 5
      have u6 := hb9.cell 6
      have u7 := hb9.cell 7
      have u8 := hb9.cell 8
      simp at u0 u1 u2 u3 u4 u5 u6 u7 u8
      have fz := fun i => hb9.free i
      show oo.wp Tryz.prog fr W K Q
      unfold Oper.wp
      simp only [execOp, hop, e9, e11, List.map_toArray, List.map_cons, List.map_nil]
      go_simp
      exact hK gg _ (fun _ _ _ _ => rfl) (show stpMem b c p1 p11 f next fall wide high pa pb ta tb W0 gg (ll.setIfInBounds 13 true) _ from TwoBlk.fill2 hm lm hz (by decide) (by decide) (by decide) ((((((((((FarO.refl _ _).set _ _).set _ _).set _ _).set _ _).set _ _).set _ _).set _ _).set _ _).set _ _) (blk_to (((((((((hb9.put 0 _).put 1 _).put 2 _).put 3 _).put 4 _).put 5 _).put 6 _).put 7 _).put 8 _) (by simp)))
theorem stp_region (ok : stpOk b c p1 p11 f next fall wide high pa pb ta tb a0 W0) (hz : a0.tmps.size = 203) (hd : a0.defers = []) (g0 : (Nat × Nat)) (hm : stpMem b c p1 p11 f next fall wide high pa pb ta tb W0 g0 (Array.replicate 14 false) W)
    (hQ : ∀ (gg : (Nat × Nat)) (ll : Array Bool) (W' : World), (∀ k, k < 14 → ll.getD k false = true) → stpMem b c p1 p11 f next fall wide high pa pb ta tb W0 gg ll W' → Q .normal ⟨DG.setQ a0.tmps [(87, stpVal b c p1 p11 f next fall wide high pa pb ta tb gg 0), (88, stpVal b c p1 p11 f next fall wide high pa pb ta tb gg 1), (89, stpVal b c p1 p11 f next fall wide high pa pb ta tb gg 2), (90, stpVal b c p1 p11 f next fall wide high pa pb ta tb gg 3), (91, stpVal b c p1 p11 f next fall wide high pa pb ta tb gg 4), (92, stpVal b c p1 p11 f next fall wide high pa pb ta tb gg 5), (93, stpVal b c p1 p11 f next fall wide high pa pb ta tb gg 6), (94, stpVal b c p1 p11 f next fall wide high pa pb ta tb gg 7), (95, stpVal b c p1 p11 f next fall wide high pa pb ta tb gg 8), (96, stpVal b c p1 p11 f next fall wide high pa pb ta tb gg 9), (12, stpVal b c p1 p11 f next fall wide high pa pb ta tb gg 10), (13, stpVal b c p1 p11 f next fall wide high pa pb ta tb gg 11)], []⟩ W') :
    wpAny Tryz.prog .any stpOps Q 14 (Array.replicate 14 false) a0 W :=
  DG.region2 (c := stpK b c p1 p11 f next fall wide high pa pb ta tb a0 W0) (stp_ok ok hz) (by kernel_rfl) hd g0 hm (fun gg => [(87, stpVal b c p1 p11 f next fall wide high pa pb ta tb gg 0), (88, stpVal b c p1 p11 f next fall wide high pa pb ta tb gg 1), (89, stpVal b c p1 p11 f next fall wide high pa pb ta tb gg 2), (90, stpVal b c p1 p11 f next fall wide high pa pb ta tb gg 3), (91, stpVal b c p1 p11 f next fall wide high pa pb ta tb gg 4), (92, stpVal b c p1 p11 f next fall wide high pa pb ta tb gg 5), (93, stpVal b c p1 p11 f next fall wide high pa pb ta tb gg 6), (94, stpVal b c p1 p11 f next fall wide high pa pb ta tb gg 7), (95, stpVal b c p1 p11 f next fall wide high pa pb ta tb gg 8), (96, stpVal b c p1 p11 f next fall wide high pa pb ta tb gg 9), (12, stpVal b c p1 p11 f next fall wide high pa pb ta tb gg 10), (13, stpVal b c p1 p11 f next fall wide high pa pb ta tb gg 11)]) (fun _ => rfl) hQ
end
end Go.Proofs.YtkpecagkpjabdabGreat
/- StepOf's statements that draw their order, each operation once. Condition: what the walk has shown ahead of them. -/
namespace Go.Proofs.YtkpecagkpjabdabGreat
open Go.RowKit
set_option linter.unusedVariables false
set_option linter.unusedSimpArgs false
set_option maxRecDepth 100000
set_option maxRecDepth 100000
noncomputable def stqC : Code := ((Tryz.f26.body.bind (regionOf 19)).getD .skip)
noncomputable def stqOps : Array Oper := match stqC with
  | .region _ ops _ => ops
  | _ => #[]
theorem stqC_is : stqC = .region 19 stqOps true := by kernel_rfl
theorem stqOps_size : stqOps.size = 16 := by kernel_rfl
def stqSlot (k : Nat) : Option Nat := ([some 98, some 99, some 100, some 101, some 102, some 103, some 104, some 97, some 105, some 106, some 107, some 15, some 16, none, none, some 17] : List (Option Nat)).getD k none
def stqVal (p12 p13 : Nat) (ta tb : M.Th) (gg : (Nat × Nat)) (k9 : Nat) : Value := ([.func (.func 65) #[] #[], thV ta, rowV (M.freeRow ta.1 ta.2), .func (.func 65) #[] #[], thV tb, rowV (M.freeRow tb.1 tb.2), .tuple #[rowV (M.meet (M.freeRow ta.1 ta.2) (M.freeRow tb.1 tb.2)).1, rowV (M.meet (M.freeRow ta.1 ta.2) (M.freeRow tb.1 tb.2)).2, .bool (M.meets (M.freeRow ta.1 ta.2) (M.freeRow tb.1 tb.2))], .tuple #[rowV (M.meet (M.freeRow ta.1 ta.2) (M.freeRow tb.1 tb.2)).1, rowV (M.meet (M.freeRow ta.1 ta.2) (M.freeRow tb.1 tb.2)).2, .bool (M.meets (M.freeRow ta.1 ta.2) (M.freeRow tb.1 tb.2))], rowV (M.meet (M.freeRow ta.1 ta.2) (M.freeRow tb.1 tb.2)).1, rowV (M.meet (M.freeRow ta.1 ta.2) (M.freeRow tb.1 tb.2)).2, .bool (M.meets (M.freeRow ta.1 ta.2) (M.freeRow tb.1 tb.2)), .pointer (some ⟨gg.1, 0, none⟩), .pointer (some ⟨gg.2, 0, none⟩), undef, undef, .bool (M.meets (M.freeRow ta.1 ta.2) (M.freeRow tb.1 tb.2))] : List Value).getD k9 undef
def stqNeeds (k : Nat) : List Nat := ([[], [], [0, 1], [], [], [3, 4], [2, 5], [6], [7], [7], [7], [], [], [8, 11], [9, 12], [10]] : List (List Nat)).getD k []
def stqMem (p12 p13 : Nat) (ta tb : M.Th) (W0 : World) (gg : (Nat × Nat)) (ll : Array Bool) (W : World) : Prop := TwoBlk 27 (rowC M.row0) (rowC (M.meet (M.freeRow ta.1 ta.2) (M.freeRow tb.1 tb.2)).1) (rowC (M.meet (M.freeRow ta.1 ta.2) (M.freeRow tb.1 tb.2)).2) 11 12 13 14 W0 gg ll W
noncomputable def stqK (p12 p13 : Nat) (ta tb : M.Th) (a0 : Act) (W0 : World) : DG ((Nat × Nat)) := { P := Tryz.prog, ops := stqOps, a0 := a0, n := 16, slot := stqSlot, val := stqVal p12 p13 ta tb, needs := stqNeeds, mem := stqMem p12 p13 ta tb W0 }
section
variable {p12 p13 : Nat} {ta tb : M.Th}
variable {a0 fr : Act} {W0 W : World} {Q : Exit → Act → World → Prop} {gg : (Nat × Nat)} {ll : Array Bool} {k : Nat}
structure stqOk (p12 p13 : Nat) (ta tb : M.Th) (a0 : Act) (W0 : World) : Prop where
  h12 : a0.eval (.tmp 12) = .pointer (some ⟨p12, 0, none⟩)
  h13 : a0.eval (.tmp 13) = .pointer (some ⟨p13, 0, none⟩)
  h14 : a0.eval (.tmp 14) = .func (.func 65) #[] #[]
  ba : Blk W0 p12 115 (thC ta)
  bb : Blk W0 p13 115 (thC tb)
  a0 : 0 ≤ ta.1
  a1 : ta.1 ≤ 31
  b0 : 0 ≤ tb.1
  b1 : tb.1 ≤ 31
theorem stq_v (F : (stqK p12 p13 ta tb a0 W0).Facts k gg ll fr W) (j s : Nat) (h1 : j ∈ stqNeeds k) (h2 : stqSlot j = some s) : fr.eval (.tmp s) = stqVal p12 p13 ta tb gg j := F.vals j s h1 h2
theorem stq_o (F : (stqK p12 p13 ta tb a0 W0).Facts k gg ll fr W) (s : Nat) {v : Value} (h2 : a0.eval (.tmp s) = v) (h1 : ∀ k, k < 16 → stqSlot k ≠ some s) : fr.eval (.tmp s) = v := (F.other s h1).trans h2
theorem stq_z (F : (stqK p12 p13 ta tb a0 W0).Facts k gg ll fr W) : ll.size = 16 := F.size
set_option maxHeartbeats 8000000 in
theorem stq_ok (ok : stqOk p12 p13 ta tb a0 W0) (hz : a0.tmps.size = 203) : (stqK p12 p13 ta tb a0 W0).Ok Q := by
  refine DG.ok_of stqOps_size (by kernel_rfl) (by kernel_rfl) (by rfl) hz (by rfl) ?_
  · intro k hk
    rcases (show k = 0 ∨ k = 1 ∨ k = 2 ∨ k = 3 ∨ k = 4 ∨ k = 5 ∨ k = 6 ∨ k = 7 ∨ k = 8 ∨ k = 9 ∨ k = 10 ∨ k = 11 ∨ k = 12 ∨ k = 13 ∨ k = 14 ∨ k = 15 from by have k9 : k < 16 := hk; omega) with rfl | rfl | rfl | rfl | rfl | rfl | rfl | rfl | rfl | rfl | rfl | rfl | rfl | rfl | rfl | rfl
    · refine .of (show (stqOps[0]?).map (fun o => (o.op, o.dst)) = some (.move (.tmp 14), some 98) from by kernel_rfl) fun gg ll fr W F oo hop hd K hK => ?_
      have s14 := stq_o F 14 ok.h14 (by decide)
      have hm : stqMem p12 p13 ta tb W0 gg ll W := F.mem
      show oo.wp Tryz.prog fr W K Q
      unfold Oper.wp
      simp only [execOp, hop, s14, List.map_toArray, List.map_cons, List.map_nil]
      go_simp
      exact hK gg _ (fun _ _ _ _ => rfl) (show stqMem p12 p13 ta tb W0 gg (ll.setIfInBounds 0 true) W from TwoBlk.keep hm (by decide) (by decide) (by decide) (by decide))
    · refine .of (show (stqOps[1]?).map (fun o => (o.op, o.dst)) = some (.load 115 (.tmp 12), some 99) from by kernel_rfl) fun gg ll fr W F oo hop hd K hK => ?_
      have s12 := stq_o F 12 ok.h12 (by decide)
      have hm : stqMem p12 p13 ta tb W0 gg ll W := F.mem
      have hbel : Below W0.heap.size W0 W := hm.bel
      have hw := ok.ba.below hbel ok.ba.lt
      have u0 := hw.cell 0
      have u1 := hw.cell 1
      have u2 := hw.cell 2
      have u3 := hw.cell 3
      have u4 := hw.cell 4
      have u5 := hw.cell 5
      have u6 := hw.cell 6
      have u7 := hw.cell 7
      have u8 := hw.cell 8
      simp at u0 u1 u2 u3 u4 u5 u6 u7 u8
      show oo.wp Tryz.prog fr W K Q
      unfold Oper.wp
      simp only [execOp, hop, s12, List.map_toArray, List.map_cons, List.map_nil]
      go_simp
      exact hK gg _ (fun _ _ _ _ => rfl) (show stqMem p12 p13 ta tb W0 gg (ll.setIfInBounds 1 true) W from TwoBlk.keep hm (by decide) (by decide) (by decide) (by decide))
    · refine .of (show (stqOps[2]?).map (fun o => (o.op, o.dst)) = some (.call { callee := .value (.tmp 98), args := #[.tmp 99], argTypes := #[115] }, some 100) from by kernel_rfl) fun gg ll fr W F oo hop hd K hK => ?_
      have e0 := stq_v F 0 98 (by decide) rfl
      have e1 := stq_v F 1 99 (by decide) rfl
      simp only [stqVal, List.getD_cons_zero, List.getD_cons_succ] at e0 e1
      have hm : stqMem p12 p13 ta tb W0 gg ll W := F.mem
      show oo.wp Tryz.prog fr W K Q
      unfold Oper.wp
      simp only [execOp, hop, resolve, e0, e1, List.map_toArray, List.map_cons, List.map_nil]
      go_simp
      try simp only [DG.tmps_eval, e1]
      refine (free_calls ok.a0 ok.a1 ta.2 W).mono ?_
      rintro e W2 ⟨rfl, hb2⟩
      exact hK gg _ (fun _ _ _ _ => rfl) (show stqMem p12 p13 ta tb W0 gg (ll.setIfInBounds 2 true) W2 from TwoBlk.more hm hb2 (by decide) (by decide) (by decide) (by decide))
    · refine .of (show (stqOps[3]?).map (fun o => (o.op, o.dst)) = some (.move (.tmp 14), some 101) from by kernel_rfl) fun gg ll fr W F oo hop hd K hK => ?_
      have s14 := stq_o F 14 ok.h14 (by decide)
      have hm : stqMem p12 p13 ta tb W0 gg ll W := F.mem
      show oo.wp Tryz.prog fr W K Q
      unfold Oper.wp
      simp only [execOp, hop, s14, List.map_toArray, List.map_cons, List.map_nil]
      go_simp
      exact hK gg _ (fun _ _ _ _ => rfl) (show stqMem p12 p13 ta tb W0 gg (ll.setIfInBounds 3 true) W from TwoBlk.keep hm (by decide) (by decide) (by decide) (by decide))
    · refine .of (show (stqOps[4]?).map (fun o => (o.op, o.dst)) = some (.load 115 (.tmp 13), some 102) from by kernel_rfl) fun gg ll fr W F oo hop hd K hK => ?_
      have s13 := stq_o F 13 ok.h13 (by decide)
      have hm : stqMem p12 p13 ta tb W0 gg ll W := F.mem
      have hbel : Below W0.heap.size W0 W := hm.bel
      have hw := ok.bb.below hbel ok.bb.lt
      have u0 := hw.cell 0
      have u1 := hw.cell 1
      have u2 := hw.cell 2
      have u3 := hw.cell 3
      have u4 := hw.cell 4
      have u5 := hw.cell 5
      have u6 := hw.cell 6
      have u7 := hw.cell 7
      have u8 := hw.cell 8
      simp at u0 u1 u2 u3 u4 u5 u6 u7 u8
      show oo.wp Tryz.prog fr W K Q
      unfold Oper.wp
      simp only [execOp, hop, s13, List.map_toArray, List.map_cons, List.map_nil]
      go_simp
      exact hK gg _ (fun _ _ _ _ => rfl) (show stqMem p12 p13 ta tb W0 gg (ll.setIfInBounds 4 true) W from TwoBlk.keep hm (by decide) (by decide) (by decide) (by decide))
    · refine .of (show (stqOps[5]?).map (fun o => (o.op, o.dst)) = some (.call { callee := .value (.tmp 101), args := #[.tmp 102], argTypes := #[115] }, some 103) from by kernel_rfl) fun gg ll fr W F oo hop hd K hK => ?_
      have e3 := stq_v F 3 101 (by decide) rfl
      have e4 := stq_v F 4 102 (by decide) rfl
      simp only [stqVal, List.getD_cons_zero, List.getD_cons_succ] at e3 e4
      have hm : stqMem p12 p13 ta tb W0 gg ll W := F.mem
      show oo.wp Tryz.prog fr W K Q
      unfold Oper.wp
      simp only [execOp, hop, resolve, e3, e4, List.map_toArray, List.map_cons, List.map_nil]
      go_simp
      try simp only [DG.tmps_eval, e4]
      refine (free_calls ok.b0 ok.b1 tb.2 W).mono ?_
      rintro e W2 ⟨rfl, hb2⟩
      exact hK gg _ (fun _ _ _ _ => rfl) (show stqMem p12 p13 ta tb W0 gg (ll.setIfInBounds 5 true) W2 from TwoBlk.more hm hb2 (by decide) (by decide) (by decide) (by decide))
    · refine .of (show (stqOps[6]?).map (fun o => (o.op, o.dst)) = some (.call { callee := .value (.func 66), args := #[.tmp 100, .tmp 103], argTypes := #[27, 27] }, some 104) from by kernel_rfl) fun gg ll fr W F oo hop hd K hK => ?_
      have e2 := stq_v F 2 100 (by decide) rfl
      have e5 := stq_v F 5 103 (by decide) rfl
      simp only [stqVal, List.getD_cons_zero, List.getD_cons_succ] at e2 e5
      have hm : stqMem p12 p13 ta tb W0 gg ll W := F.mem
      show oo.wp Tryz.prog fr W K Q
      unfold Oper.wp
      simp only [execOp, hop, e2, e5, List.map_toArray, List.map_cons, List.map_nil]
      go_simp
      simp only [DG.tmps_eval, e2, e5]
      refine (meetRows_calls _ _ W).mono ?_
      rintro e W2 ⟨rfl, hb2⟩
      exact hK gg _ (fun _ _ _ _ => rfl) (show stqMem p12 p13 ta tb W0 gg (ll.setIfInBounds 6 true) W2 from TwoBlk.more hm hb2 (by decide) (by decide) (by decide) (by decide))
    · refine .of (show (stqOps[7]?).map (fun o => (o.op, o.dst)) = some (.move (.tmp 104), some 97) from by kernel_rfl) fun gg ll fr W F oo hop hd K hK => ?_
      have e6 := stq_v F 6 104 (by decide) rfl
      simp only [stqVal, List.getD_cons_zero, List.getD_cons_succ] at e6
      have hm : stqMem p12 p13 ta tb W0 gg ll W := F.mem
      show oo.wp Tryz.prog fr W K Q
      unfold Oper.wp
      simp only [execOp, hop, e6, List.map_toArray, List.map_cons, List.map_nil]
      go_simp
      exact hK gg _ (fun _ _ _ _ => rfl) (show stqMem p12 p13 ta tb W0 gg (ll.setIfInBounds 7 true) W from TwoBlk.keep hm (by decide) (by decide) (by decide) (by decide))
    · refine .of (show (stqOps[8]?).map (fun o => (o.op, o.dst)) = some (.extract (.tmp 97) 0, some 105) from by kernel_rfl) fun gg ll fr W F oo hop hd K hK => ?_
      have e7 := stq_v F 7 97 (by decide) rfl
      simp only [stqVal, List.getD_cons_zero, List.getD_cons_succ] at e7
      have hm : stqMem p12 p13 ta tb W0 gg ll W := F.mem
      show oo.wp Tryz.prog fr W K Q
      unfold Oper.wp
      simp only [execOp, hop, e7, List.map_toArray, List.map_cons, List.map_nil]
      go_simp
      exact hK gg _ (fun _ _ _ _ => rfl) (show stqMem p12 p13 ta tb W0 gg (ll.setIfInBounds 8 true) W from TwoBlk.keep hm (by decide) (by decide) (by decide) (by decide))
    · refine .of (show (stqOps[9]?).map (fun o => (o.op, o.dst)) = some (.extract (.tmp 97) 1, some 106) from by kernel_rfl) fun gg ll fr W F oo hop hd K hK => ?_
      have e7 := stq_v F 7 97 (by decide) rfl
      simp only [stqVal, List.getD_cons_zero, List.getD_cons_succ] at e7
      have hm : stqMem p12 p13 ta tb W0 gg ll W := F.mem
      show oo.wp Tryz.prog fr W K Q
      unfold Oper.wp
      simp only [execOp, hop, e7, List.map_toArray, List.map_cons, List.map_nil]
      go_simp
      exact hK gg _ (fun _ _ _ _ => rfl) (show stqMem p12 p13 ta tb W0 gg (ll.setIfInBounds 9 true) W from TwoBlk.keep hm (by decide) (by decide) (by decide) (by decide))
    · refine .of (show (stqOps[10]?).map (fun o => (o.op, o.dst)) = some (.extract (.tmp 97) 2, some 107) from by kernel_rfl) fun gg ll fr W F oo hop hd K hK => ?_
      have e7 := stq_v F 7 97 (by decide) rfl
      simp only [stqVal, List.getD_cons_zero, List.getD_cons_succ] at e7
      have hm : stqMem p12 p13 ta tb W0 gg ll W := F.mem
      show oo.wp Tryz.prog fr W K Q
      unfold Oper.wp
      simp only [execOp, hop, e7, List.map_toArray, List.map_cons, List.map_nil]
      go_simp
      exact hK gg _ (fun _ _ _ _ => rfl) (show stqMem p12 p13 ta tb W0 gg (ll.setIfInBounds 10 true) W from TwoBlk.keep hm (by decide) (by decide) (by decide) (by decide))
    · refine .of (show (stqOps[11]?).map (fun o => (o.op, o.dst)) = some (.alloc 27, some 15) from by kernel_rfl) fun gg ll fr W F oo hop hd K hK => ?_
      have hm : stqMem p12 p13 ta tb W0 gg ll W := F.mem
      show oo.wp Tryz.prog fr W K Q
      unfold Oper.wp
      simp only [execOp, hop, List.map_toArray, List.map_cons, List.map_nil]
      go_simp
      refine hK (W.heap.size, gg.2) _ ?_ (show stqMem p12 p13 ta tb W0 (W.heap.size, gg.2) (ll.setIfInBounds 11 true) _ from TwoBlk.make1 hm ?_ (by decide) (by decide) (by decide))
      · intro j hj hne hl
        have hj' : j < 16 := hj
        rcases (by omega : j = 0 ∨ j = 1 ∨ j = 2 ∨ j = 3 ∨ j = 4 ∨ j = 5 ∨ j = 6 ∨ j = 7 ∨ j = 8 ∨ j = 9 ∨ j = 10 ∨ j = 11 ∨ j = 12 ∨ j = 13 ∨ j = 14 ∨ j = 15) with rfl | rfl | rfl | rfl | rfl | rfl | rfl | rfl | rfl | rfl | rfl | rfl | rfl | rfl | rfl | rfl <;> first | rfl | exact absurd rfl hne
      · cases hx : ll.getD 13 false with
        | false => rfl
        | true => have q := F.closed 13 11 (show 11 ∈ stqNeeds 13 from by decide) hx; rw [F.not] at q; cases q
    · refine .of (show (stqOps[12]?).map (fun o => (o.op, o.dst)) = some (.alloc 27, some 16) from by kernel_rfl) fun gg ll fr W F oo hop hd K hK => ?_
      have hm : stqMem p12 p13 ta tb W0 gg ll W := F.mem
      show oo.wp Tryz.prog fr W K Q
      unfold Oper.wp
      simp only [execOp, hop, List.map_toArray, List.map_cons, List.map_nil]
      go_simp
      refine hK (gg.1, W.heap.size) _ ?_ (show stqMem p12 p13 ta tb W0 (gg.1, W.heap.size) (ll.setIfInBounds 12 true) _ from TwoBlk.make2 hm ?_ (by decide) (by decide) (by decide))
      · intro j hj hne hl
        have hj' : j < 16 := hj
        rcases (by omega : j = 0 ∨ j = 1 ∨ j = 2 ∨ j = 3 ∨ j = 4 ∨ j = 5 ∨ j = 6 ∨ j = 7 ∨ j = 8 ∨ j = 9 ∨ j = 10 ∨ j = 11 ∨ j = 12 ∨ j = 13 ∨ j = 14 ∨ j = 15) with rfl | rfl | rfl | rfl | rfl | rfl | rfl | rfl | rfl | rfl | rfl | rfl | rfl | rfl | rfl | rfl <;> first | rfl | exact absurd rfl hne
      · cases hx : ll.getD 14 false with
        | false => rfl
        | true => have q := F.closed 14 12 (show 12 ∈ stqNeeds 14 from by decide) hx; rw [F.not] at q; cases q
    · refine .of (show (stqOps[13]?).map (fun o => (o.op, o.dst)) = some (.store 27 (.tmp 15) (.tmp 105), none) from by kernel_rfl) fun gg ll fr W F oo hop hd K hK => ?_
      have e8 := stq_v F 8 105 (by decide) rfl
      have e11 := stq_v F 11 15 (by decide) rfl
      simp only [stqVal, List.getD_cons_zero, List.getD_cons_succ] at e8 e11
      have hm : stqMem p12 p13 ta tb W0 gg ll W := F.mem
      have hz : 13 < ll.size := by rw [stq_z F]; decide
      have lm : ll.getD 11 false = true := F.listed 11 (show 11 ∈ stqNeeds 13 from by decide)
      have hb9 := (hm.one lm).2
      rw [show ll.getD 13 false = false from F.not, if_neg (by simp)] at hb9
      have u0 := hb9.cell 0
      have u1 := hb9.cell 1
      have u2 := hb9.cell 2
      have u3 := hb9.cell 3
      have u4 := hb9.cell 4
      have u5 := hb9.cell 5
      have u6 := hb9.cell 6
      have u7 := hb9.cell 7
      simp at u0 u1 u2 u3 u4 u5 u6 u7
      have fz := fun i => hb9.free i
      show oo.wp Tryz.prog fr W K Q
      unfold Oper.wp
      simp only [execOp, hop, e8, e11, List.map_toArray, List.map_cons, List.map_nil]
      go_simp
      exact hK gg _ (fun _ _ _ _ => rfl) (show stqMem p12 p13 ta tb W0 gg (ll.setIfInBounds 13 true) _ from TwoBlk.fill1 hm lm hz (by decide) (by decide) (by decide) (((((((((FarO.refl _ _).set _ _).set _ _).set _ _).set _ _).set _ _).set _ _).set _ _).set _ _) (blk_to ((((((((hb9.put 0 _).put 1 _).put 2 _).put 3 _).put 4 _).put 5 _).put 6 _).put 7 _) (by simp)))
    · refine .of (show (stqOps[14]?).map (fun o => (o.op, o.dst)) = some (.store 27 (.tmp 16) (.tmp 106), none) from by kernel_rfl) fun gg ll fr W F oo hop hd K hK => ?_
      have e9 := stq_v F 9 106 (by decide) rfl
      have e12 := stq_v F 12 16 (by decide) rfl
      simp only [stqVal, List.getD_cons_zero, List.getD_cons_succ] at e9 e12
      have hm : stqMem p12 p13 ta tb W0 gg ll W := F.mem
      have hz : 14 < ll.size := by rw [stq_z F]; decide
      have lm : ll.getD 12 false = true := F.listed 12 (show 12 ∈ stqNeeds 14 from by decide)
      have hb9 := (hm.two lm).2
      rw [show ll.getD 14 false = false from F.not, if_neg (by simp)] at hb9
      have u0 := hb9.cell 0
      have u1 := hb9.cell 1
      have u2 := hb9.cell 2
      have u3 := hb9.cell 3
      have u4 := hb9.cell 4
      have u5 := hb9.cell 5
      have u6 := hb9.cell 6
      have u7 := hb9.cell 7
      simp at u0 u1 u2 u3 u4 u5 u6 u7
      have fz := fun i => hb9.free i
      show oo.wp Tryz.prog fr W K Q
      unfold Oper.wp
      simp only [execOp, hop, e9, e12, List.map_toArray, List.map_cons, List.map_nil]
      go_simp
      exact hK gg _ (fun _ _ _ _ => rfl) (show stqMem p12 p13 ta tb W0 gg (ll.setIfInBounds 14 true) _ from TwoBlk.fill2 hm lm hz (by decide) (by decide) (by decide) (((((((((FarO.refl _ _).set _ _).set _ _).set _ _).set _ _).set _ _).set _ _).set _ _).set _ _) (blk_to ((((((((hb9.put 0 _).put 1 _).put 2 _).put 3 _).put 4 _).put 5 _).put 6 _).put 7 _) (by simp)))
    · refine .of (show (stqOps[15]?).map (fun o => (o.op, o.dst)) = some (.assign (.tmp 107), some 17) from by kernel_rfl) fun gg ll fr W F oo hop hd K hK => ?_
      have e10 := stq_v F 10 107 (by decide) rfl
      simp only [stqVal, List.getD_cons_zero, List.getD_cons_succ] at e10
      have hm : stqMem p12 p13 ta tb W0 gg ll W := F.mem
      show oo.wp Tryz.prog fr W K Q
      unfold Oper.wp
      simp only [execOp, hop, e10, List.map_toArray, List.map_cons, List.map_nil]
      go_simp
      exact hK gg _ (fun _ _ _ _ => rfl) (show stqMem p12 p13 ta tb W0 gg (ll.setIfInBounds 15 true) W from TwoBlk.keep hm (by decide) (by decide) (by decide) (by decide))
theorem stq_region (ok : stqOk p12 p13 ta tb a0 W0) (hz : a0.tmps.size = 203) (hd : a0.defers = []) (g0 : (Nat × Nat)) (hm : stqMem p12 p13 ta tb W0 g0 (Array.replicate 16 false) W)
    (hQ : ∀ (gg : (Nat × Nat)) (ll : Array Bool) (W' : World), (∀ k, k < 16 → ll.getD k false = true) → stqMem p12 p13 ta tb W0 gg ll W' → Q .normal ⟨DG.setQ a0.tmps [(98, stqVal p12 p13 ta tb gg 0), (99, stqVal p12 p13 ta tb gg 1), (100, stqVal p12 p13 ta tb gg 2), (101, stqVal p12 p13 ta tb gg 3), (102, stqVal p12 p13 ta tb gg 4), (103, stqVal p12 p13 ta tb gg 5), (104, stqVal p12 p13 ta tb gg 6), (97, stqVal p12 p13 ta tb gg 7), (105, stqVal p12 p13 ta tb gg 8), (106, stqVal p12 p13 ta tb gg 9), (107, stqVal p12 p13 ta tb gg 10), (15, stqVal p12 p13 ta tb gg 11), (16, stqVal p12 p13 ta tb gg 12), (17, stqVal p12 p13 ta tb gg 15)], []⟩ W') :
    wpAny Tryz.prog .any stqOps Q 16 (Array.replicate 16 false) a0 W :=
  DG.region2 (c := stqK p12 p13 ta tb a0 W0) (stq_ok ok hz) (by kernel_rfl) hd g0 hm (fun gg => [(98, stqVal p12 p13 ta tb gg 0), (99, stqVal p12 p13 ta tb gg 1), (100, stqVal p12 p13 ta tb gg 2), (101, stqVal p12 p13 ta tb gg 3), (102, stqVal p12 p13 ta tb gg 4), (103, stqVal p12 p13 ta tb gg 5), (104, stqVal p12 p13 ta tb gg 6), (97, stqVal p12 p13 ta tb gg 7), (105, stqVal p12 p13 ta tb gg 8), (106, stqVal p12 p13 ta tb gg 9), (107, stqVal p12 p13 ta tb gg 10), (15, stqVal p12 p13 ta tb gg 11), (16, stqVal p12 p13 ta tb gg 12), (17, stqVal p12 p13 ta tb gg 15)]) (fun _ => rfl) hQ
end
end Go.Proofs.YtkpecagkpjabdabGreat
/- WorldOf's statement that draws its order, each operation once. Condition: what the walk has shown ahead of it. -/
namespace Go.Proofs.YtkpecagkpjabdabGreat
open Go.RowKit
set_option linter.unusedVariables false
set_option linter.unusedSimpArgs false
set_option maxRecDepth 100000
set_option maxRecDepth 100000
noncomputable def wofC : Code := ((Tryz.f19.body.bind (regionOf 2)).getD .skip)
noncomputable def wofOps : Array Oper := match wofC with
  | .region _ ops _ => ops
  | _ => #[]
theorem wofC_is : wofC = .region 2 wofOps true := by kernel_rfl
theorem wofOps_size : wofOps.size = 29 := by kernel_rfl
def wofSlot (k : Nat) : Option Nat := ([some 12, some 13, some 14, some 15, some 16, some 17, some 18, some 19, some 20, some 21, some 22, some 23, some 24, some 25, some 26, some 27, some 28, some 29, some 30, some 31, some 32, some 33, some 34, some 35, some 36, some 37, some 38, none, some 3] : List (Option Nat)).getD k none
def wofVal (m : Option Nat) (q0 q1 q2 q3 : Bool) (p1 p2 : Nat) (vt : Value) (nx fa wi hi : Int) (gg : Unit) (k9 : Nat) : Value := ([.map m, .pointer (some ⟨p1, 0, none⟩), .pointer (some ⟨p1, 1, none⟩), .int .i64 nx, .pointer (some ⟨p1, 2, none⟩), .int .i64 fa, .pointer (some ⟨p1, 3, none⟩), .int .i64 wi, .pointer (some ⟨p1, 4, none⟩), .int .i64 hi, .agg #[.map m, .int .i64 nx, .int .i64 fa, .int .i64 wi, .int .i64 hi], .bool q0, .bool q0, bif q0 then .pointer (some ⟨p1, 2, none⟩) else undef, bif q0 then .int .i64 fa else undef, bif q0 then .bool q1 else undef, .bool (q0 && q1), .bool (q0 && q1), bif (q0 && q1) then .pointer (some ⟨p1, 3, none⟩) else undef, bif (q0 && q1) then .int .i64 wi else undef, bif (q0 && q1) then .bool q2 else undef, .bool ((q0 && q1) && q2), .bool ((q0 && q1) && q2), bif ((q0 && q1) && q2) then .pointer (some ⟨p1, 4, none⟩) else undef, bif ((q0 && q1) && q2) then .int .i64 hi else undef, bif ((q0 && q1) && q2) then .bool q3 else undef, .bool (((q0 && q1) && q2) && q3), undef, .bool (((q0 && q1) && q2) && q3)] : List Value).getD k9 undef
def wofNeeds (k : Nat) : List Nat := ([[], [], [1], [2], [], [4], [], [6], [], [8], [0, 3, 5, 7, 9], [], [11], [12], [12, 13], [12, 14], [12, 15], [16], [17], [17, 18], [17, 19], [17, 20], [21], [22], [22, 23], [22, 24], [22, 25], [10], [26]] : List (List Nat)).getD k []
def wofMem (m : Option Nat) (q0 q1 q2 q3 : Bool) (p1 p2 : Nat) (vt : Value) (nx fa wi hi : Int) (W0 : World) (gg : Unit) (ll : Array Bool) (W : World) : Prop := Blk W p1 41 #[vt, .int .i64 nx, .int .i64 fa, .int .i64 wi, .int .i64 hi] ∧ Blk W p2 57 (if ll.getD 27 false = true then #[.map m, .int .i64 nx, .int .i64 fa, .int .i64 wi, .int .i64 hi] else #[.map none, .int .i64 0, .int .i64 0, .int .i64 0, .int .i64 0]) ∧ FarO p2 W0 W
def wofGd (k : Nat) : Option (Nat × Bool) := ([none, none, none, none, none, none, none, none, none, none, none, none, none, some (12, true), some (12, true), some (12, true), none, none, some (17, true), some (17, true), some (17, true), none, none, some (22, true), some (22, true), some (22, true), none, none, none] : List (Option (Nat × Bool))).getD k none
noncomputable def wofK (m : Option Nat) (q0 q1 q2 q3 : Bool) (p1 p2 : Nat) (vt : Value) (nx fa wi hi : Int) (a0 : Act) (W0 : World) : DH (Unit) := { gd := wofGd, P := Tryz.prog, ops := wofOps, a0 := a0, n := 29, slot := wofSlot, val := wofVal m q0 q1 q2 q3 p1 p2 vt nx fa wi hi, needs := wofNeeds, mem := wofMem m q0 q1 q2 q3 p1 p2 vt nx fa wi hi W0 }
section
variable {m : Option Nat} {q0 q1 q2 q3 : Bool} {p1 p2 : Nat} {vt : Value} {nx fa wi hi : Int}
variable {a0 fr : Act} {W0 W : World} {Q : Exit → Act → World → Prop} {gg : Unit} {ll : Array Bool} {k : Nat}
structure wofOk (m : Option Nat) (q0 q1 q2 q3 : Bool) (p1 p2 : Nat) (vt : Value) (nx fa wi hi : Int) (a0 : Act) (W0 : World) : Prop where
  h1 : a0.eval (.tmp 1) = .pointer (some ⟨p1, 0, none⟩)
  h2 : a0.eval (.tmp 2) = .pointer (some ⟨p2, 0, none⟩)
  h4 : a0.eval (.tmp 4) = .map m
  h5 : a0.eval (.tmp 5) = .bool q0
  ne : p1 ≠ p2
  c1 : ∀ W, Calls Tryz.prog 47 #[.int .i64 fa, .int .i64 (-64), .int .i64 64] W fun e w' => e = .returned (.bool q1) ∧ W = w'
  c2 : ∀ W, Calls Tryz.prog 47 #[.int .i64 wi, .int .i64 1, .int .i64 1048576] W fun e w' => e = .returned (.bool q2) ∧ W = w'
  c3 : ∀ W, Calls Tryz.prog 47 #[.int .i64 hi, .int .i64 1, .int .i64 1048576] W fun e w' => e = .returned (.bool q3) ∧ W = w'
theorem wof_v (F : (wofK m q0 q1 q2 q3 p1 p2 vt nx fa wi hi a0 W0).Facts k gg ll fr W) (j s : Nat) (h1 : j ∈ wofNeeds k) (h2 : wofSlot j = some s) : fr.eval (.tmp s) = wofVal m q0 q1 q2 q3 p1 p2 vt nx fa wi hi gg j := F.vals j s h1 h2
theorem wof_o (F : (wofK m q0 q1 q2 q3 p1 p2 vt nx fa wi hi a0 W0).Facts k gg ll fr W) (s : Nat) {v : Value} (h2 : a0.eval (.tmp s) = v) (h1 : ∀ k, k < 29 → wofSlot k ≠ some s) : fr.eval (.tmp s) = v := (F.other s h1).trans h2
theorem wof_m (F : (wofK m q0 q1 q2 q3 p1 p2 vt nx fa wi hi a0 W0).Facts k gg ll fr W) : Blk W p1 41 #[vt, .int .i64 nx, .int .i64 fa, .int .i64 wi, .int .i64 hi] ∧ Blk W p2 57 (if ll.getD 27 false = true then #[.map m, .int .i64 nx, .int .i64 fa, .int .i64 wi, .int .i64 hi] else #[.map none, .int .i64 0, .int .i64 0, .int .i64 0, .int .i64 0]) ∧ FarO p2 W0 W := F.mem
theorem wof_z (F : (wofK m q0 q1 q2 q3 p1 p2 vt nx fa wi hi a0 W0).Facts k gg ll fr W) : ll.size = 29 := F.size
theorem wof_keep (F : (wofK m q0 q1 q2 q3 p1 p2 vt nx fa wi hi a0 W0).Facts k gg ll fr W) (n27 : k ≠ 27) : wofMem m q0 q1 q2 q3 p1 p2 vt nx fa wi hi W0 gg (ll.setIfInBounds k true) W := by
  have h9 : wofMem m q0 q1 q2 q3 p1 p2 vt nx fa wi hi W0 gg ll W := F.mem
  unfold wofMem at h9 ⊢
  rw [DG.set_ne n27]
  exact h9
set_option maxHeartbeats 8000000 in
theorem wof_ok (ok : wofOk m q0 q1 q2 q3 p1 p2 vt nx fa wi hi a0 W0) (hz : a0.tmps.size = 39) : (wofK m q0 q1 q2 q3 p1 p2 vt nx fa wi hi a0 W0).Ok Q := by
  refine DH.ok_of wofOps_size (by kernel_rfl) (by kernel_rfl) (by rfl) (by kernel_rfl) (by rfl) hz (by rfl) ?_ ?_ ?_
  · intro k j b g hk hg
    have k9 : k < 29 := hk
    have hg : wofGd k = some (j, b) := hg
    rcases (show k = 0 ∨ k = 1 ∨ k = 2 ∨ k = 3 ∨ k = 4 ∨ k = 5 ∨ k = 6 ∨ k = 7 ∨ k = 8 ∨ k = 9 ∨ k = 10 ∨ k = 11 ∨ k = 12 ∨ k = 13 ∨ k = 14 ∨ k = 15 ∨ k = 16 ∨ k = 17 ∨ k = 18 ∨ k = 19 ∨ k = 20 ∨ k = 21 ∨ k = 22 ∨ k = 23 ∨ k = 24 ∨ k = 25 ∨ k = 26 ∨ k = 27 ∨ k = 28 from by omega) with rfl | rfl | rfl | rfl | rfl | rfl | rfl | rfl | rfl | rfl | rfl | rfl | rfl | rfl | rfl | rfl | rfl | rfl | rfl | rfl | rfl | rfl | rfl | rfl | rfl | rfl | rfl | rfl | rfl <;> first | (cases hg; done) | (simp only [wofGd, List.getD_cons_zero, List.getD_cons_succ, Option.some.injEq, Prod.mk.injEq] at hg; obtain ⟨rfl, rfl⟩ := hg; exact ⟨_, rfl⟩)
  · intro k j b gg ll fr W hk hg hv F
    have k9 : k < 29 := hk
    have hg : wofGd k = some (j, b) := hg
    rcases (show k = 0 ∨ k = 1 ∨ k = 2 ∨ k = 3 ∨ k = 4 ∨ k = 5 ∨ k = 6 ∨ k = 7 ∨ k = 8 ∨ k = 9 ∨ k = 10 ∨ k = 11 ∨ k = 12 ∨ k = 13 ∨ k = 14 ∨ k = 15 ∨ k = 16 ∨ k = 17 ∨ k = 18 ∨ k = 19 ∨ k = 20 ∨ k = 21 ∨ k = 22 ∨ k = 23 ∨ k = 24 ∨ k = 25 ∨ k = 26 ∨ k = 27 ∨ k = 28 from by omega) with rfl | rfl | rfl | rfl | rfl | rfl | rfl | rfl | rfl | rfl | rfl | rfl | rfl | rfl | rfl | rfl | rfl | rfl | rfl | rfl | rfl | rfl | rfl | rfl | rfl | rfl | rfl | rfl | rfl <;> first | (cases hg; done) | (simp only [wofGd, List.getD_cons_zero, List.getD_cons_succ, Option.some.injEq, Prod.mk.injEq] at hg; obtain ⟨rfl, rfl⟩ := hg)
    · have hg0 : wofVal m q0 q1 q2 q3 p1 p2 vt nx fa wi hi gg 12 = .bool (!true) := hv
      have h9 : (q0) = false := by simpa [wofVal] using hg0
      exact ⟨by show wofVal m q0 q1 q2 q3 p1 p2 vt nx fa wi hi gg 13 = undef; simp only [wofVal, List.getD_cons_zero, List.getD_cons_succ, h9, cond_false], wof_keep F (by decide)⟩
    · have hg0 : wofVal m q0 q1 q2 q3 p1 p2 vt nx fa wi hi gg 12 = .bool (!true) := hv
      have h9 : (q0) = false := by simpa [wofVal] using hg0
      exact ⟨by show wofVal m q0 q1 q2 q3 p1 p2 vt nx fa wi hi gg 14 = undef; simp only [wofVal, List.getD_cons_zero, List.getD_cons_succ, h9, cond_false], wof_keep F (by decide)⟩
    · have hg0 : wofVal m q0 q1 q2 q3 p1 p2 vt nx fa wi hi gg 12 = .bool (!true) := hv
      have h9 : (q0) = false := by simpa [wofVal] using hg0
      exact ⟨by show wofVal m q0 q1 q2 q3 p1 p2 vt nx fa wi hi gg 15 = undef; simp only [wofVal, List.getD_cons_zero, List.getD_cons_succ, h9, cond_false], wof_keep F (by decide)⟩
    · have hg0 : wofVal m q0 q1 q2 q3 p1 p2 vt nx fa wi hi gg 17 = .bool (!true) := hv
      have h9 : (q0 && q1) = false := by simpa [wofVal] using hg0
      exact ⟨by show wofVal m q0 q1 q2 q3 p1 p2 vt nx fa wi hi gg 18 = undef; simp only [wofVal, List.getD_cons_zero, List.getD_cons_succ, h9, cond_false], wof_keep F (by decide)⟩
    · have hg0 : wofVal m q0 q1 q2 q3 p1 p2 vt nx fa wi hi gg 17 = .bool (!true) := hv
      have h9 : (q0 && q1) = false := by simpa [wofVal] using hg0
      exact ⟨by show wofVal m q0 q1 q2 q3 p1 p2 vt nx fa wi hi gg 19 = undef; simp only [wofVal, List.getD_cons_zero, List.getD_cons_succ, h9, cond_false], wof_keep F (by decide)⟩
    · have hg0 : wofVal m q0 q1 q2 q3 p1 p2 vt nx fa wi hi gg 17 = .bool (!true) := hv
      have h9 : (q0 && q1) = false := by simpa [wofVal] using hg0
      exact ⟨by show wofVal m q0 q1 q2 q3 p1 p2 vt nx fa wi hi gg 20 = undef; simp only [wofVal, List.getD_cons_zero, List.getD_cons_succ, h9, cond_false], wof_keep F (by decide)⟩
    · have hg0 : wofVal m q0 q1 q2 q3 p1 p2 vt nx fa wi hi gg 22 = .bool (!true) := hv
      have h9 : ((q0 && q1) && q2) = false := by simpa [wofVal] using hg0
      exact ⟨by show wofVal m q0 q1 q2 q3 p1 p2 vt nx fa wi hi gg 23 = undef; simp only [wofVal, List.getD_cons_zero, List.getD_cons_succ, h9, cond_false], wof_keep F (by decide)⟩
    · have hg0 : wofVal m q0 q1 q2 q3 p1 p2 vt nx fa wi hi gg 22 = .bool (!true) := hv
      have h9 : ((q0 && q1) && q2) = false := by simpa [wofVal] using hg0
      exact ⟨by show wofVal m q0 q1 q2 q3 p1 p2 vt nx fa wi hi gg 24 = undef; simp only [wofVal, List.getD_cons_zero, List.getD_cons_succ, h9, cond_false], wof_keep F (by decide)⟩
    · have hg0 : wofVal m q0 q1 q2 q3 p1 p2 vt nx fa wi hi gg 22 = .bool (!true) := hv
      have h9 : ((q0 && q1) && q2) = false := by simpa [wofVal] using hg0
      exact ⟨by show wofVal m q0 q1 q2 q3 p1 p2 vt nx fa wi hi gg 25 = undef; simp only [wofVal, List.getD_cons_zero, List.getD_cons_succ, h9, cond_false], wof_keep F (by decide)⟩
  · intro k hk gg hgd
    rcases (show k = 0 ∨ k = 1 ∨ k = 2 ∨ k = 3 ∨ k = 4 ∨ k = 5 ∨ k = 6 ∨ k = 7 ∨ k = 8 ∨ k = 9 ∨ k = 10 ∨ k = 11 ∨ k = 12 ∨ k = 13 ∨ k = 14 ∨ k = 15 ∨ k = 16 ∨ k = 17 ∨ k = 18 ∨ k = 19 ∨ k = 20 ∨ k = 21 ∨ k = 22 ∨ k = 23 ∨ k = 24 ∨ k = 25 ∨ k = 26 ∨ k = 27 ∨ k = 28 from by have k9 : k < 29 := hk; omega) with rfl | rfl | rfl | rfl | rfl | rfl | rfl | rfl | rfl | rfl | rfl | rfl | rfl | rfl | rfl | rfl | rfl | rfl | rfl | rfl | rfl | rfl | rfl | rfl | rfl | rfl | rfl | rfl | rfl
    · refine .of (show (wofOps[0]?).map (fun o => (o.op, o.dst)) = some (.move (.tmp 4), some 12) from by kernel_rfl) fun ll fr W F oo hop hd K hK => ?_
      have s4 := wof_o F 4 ok.h4 (by decide)
      show oo.wp Tryz.prog fr W K Q
      unfold Oper.wp
      simp only [execOp, hop, s4, List.map_toArray, List.map_cons, List.map_nil]
      go_simp
      exact hK gg _ (fun _ _ _ _ => rfl) (wof_keep F (by decide))
    · refine .of (show (wofOps[1]?).map (fun o => (o.op, o.dst)) = some (.fieldAddr 41 (.tmp 1) 0, some 13) from by kernel_rfl) fun ll fr W F oo hop hd K hK => ?_
      have s1 := wof_o F 1 ok.h1 (by decide)
      show oo.wp Tryz.prog fr W K Q
      unfold Oper.wp
      simp only [execOp, hop, s1, List.map_toArray, List.map_cons, List.map_nil]
      go_simp
      exact hK gg _ (fun _ _ _ _ => rfl) (wof_keep F (by decide))
    · refine .of (show (wofOps[2]?).map (fun o => (o.op, o.dst)) = some (.fieldAddr 39 (.tmp 13) 1, some 14) from by kernel_rfl) fun ll fr W F oo hop hd K hK => ?_
      have e1 := wof_v F 1 13 (by decide) rfl
      simp only [wofVal, List.getD_cons_zero, List.getD_cons_succ] at e1
      show oo.wp Tryz.prog fr W K Q
      unfold Oper.wp
      simp only [execOp, hop, e1, List.map_toArray, List.map_cons, List.map_nil]
      go_simp
      exact hK gg _ (fun _ _ _ _ => rfl) (wof_keep F (by decide))
    · refine .of (show (wofOps[3]?).map (fun o => (o.op, o.dst)) = some (.load 3 (.tmp 14), some 15) from by kernel_rfl) fun ll fr W F oo hop hd K hK => ?_
      have e2 := wof_v F 2 14 (by decide) rfl
      simp only [wofVal, List.getD_cons_zero, List.getD_cons_succ] at e2
      obtain ⟨hb1, hb2, hfar⟩ := (wof_m F)
      have u0 := hb1.cell 0
      have u1 := hb1.cell 1
      have u2 := hb1.cell 2
      have u3 := hb1.cell 3
      have u4 := hb1.cell 4
      simp at u0 u1 u2 u3 u4
      show oo.wp Tryz.prog fr W K Q
      unfold Oper.wp
      simp only [execOp, hop, e2, List.map_toArray, List.map_cons, List.map_nil]
      go_simp
      exact hK gg _ (fun _ _ _ _ => rfl) (wof_keep F (by decide))
    · refine .of (show (wofOps[4]?).map (fun o => (o.op, o.dst)) = some (.fieldAddr 41 (.tmp 1) 1, some 16) from by kernel_rfl) fun ll fr W F oo hop hd K hK => ?_
      have s1 := wof_o F 1 ok.h1 (by decide)
      show oo.wp Tryz.prog fr W K Q
      unfold Oper.wp
      simp only [execOp, hop, s1, List.map_toArray, List.map_cons, List.map_nil]
      go_simp
      exact hK gg _ (fun _ _ _ _ => rfl) (wof_keep F (by decide))
    · refine .of (show (wofOps[5]?).map (fun o => (o.op, o.dst)) = some (.load 3 (.tmp 16), some 17) from by kernel_rfl) fun ll fr W F oo hop hd K hK => ?_
      have e4 := wof_v F 4 16 (by decide) rfl
      simp only [wofVal, List.getD_cons_zero, List.getD_cons_succ] at e4
      obtain ⟨hb1, hb2, hfar⟩ := (wof_m F)
      have u0 := hb1.cell 0
      have u1 := hb1.cell 1
      have u2 := hb1.cell 2
      have u3 := hb1.cell 3
      have u4 := hb1.cell 4
      simp at u0 u1 u2 u3 u4
      show oo.wp Tryz.prog fr W K Q
      unfold Oper.wp
      simp only [execOp, hop, e4, List.map_toArray, List.map_cons, List.map_nil]
      go_simp
      exact hK gg _ (fun _ _ _ _ => rfl) (wof_keep F (by decide))
    · refine .of (show (wofOps[6]?).map (fun o => (o.op, o.dst)) = some (.fieldAddr 41 (.tmp 1) 2, some 18) from by kernel_rfl) fun ll fr W F oo hop hd K hK => ?_
      have s1 := wof_o F 1 ok.h1 (by decide)
      show oo.wp Tryz.prog fr W K Q
      unfold Oper.wp
      simp only [execOp, hop, s1, List.map_toArray, List.map_cons, List.map_nil]
      go_simp
      exact hK gg _ (fun _ _ _ _ => rfl) (wof_keep F (by decide))
    · refine .of (show (wofOps[7]?).map (fun o => (o.op, o.dst)) = some (.load 3 (.tmp 18), some 19) from by kernel_rfl) fun ll fr W F oo hop hd K hK => ?_
      have e6 := wof_v F 6 18 (by decide) rfl
      simp only [wofVal, List.getD_cons_zero, List.getD_cons_succ] at e6
      obtain ⟨hb1, hb2, hfar⟩ := (wof_m F)
      have u0 := hb1.cell 0
      have u1 := hb1.cell 1
      have u2 := hb1.cell 2
      have u3 := hb1.cell 3
      have u4 := hb1.cell 4
      simp at u0 u1 u2 u3 u4
      show oo.wp Tryz.prog fr W K Q
      unfold Oper.wp
      simp only [execOp, hop, e6, List.map_toArray, List.map_cons, List.map_nil]
      go_simp
      exact hK gg _ (fun _ _ _ _ => rfl) (wof_keep F (by decide))
    · refine .of (show (wofOps[8]?).map (fun o => (o.op, o.dst)) = some (.fieldAddr 41 (.tmp 1) 3, some 20) from by kernel_rfl) fun ll fr W F oo hop hd K hK => ?_
      have s1 := wof_o F 1 ok.h1 (by decide)
      show oo.wp Tryz.prog fr W K Q
      unfold Oper.wp
      simp only [execOp, hop, s1, List.map_toArray, List.map_cons, List.map_nil]
      go_simp
      exact hK gg _ (fun _ _ _ _ => rfl) (wof_keep F (by decide))
    · refine .of (show (wofOps[9]?).map (fun o => (o.op, o.dst)) = some (.load 3 (.tmp 20), some 21) from by kernel_rfl) fun ll fr W F oo hop hd K hK => ?_
      have e8 := wof_v F 8 20 (by decide) rfl
      simp only [wofVal, List.getD_cons_zero, List.getD_cons_succ] at e8
      obtain ⟨hb1, hb2, hfar⟩ := (wof_m F)
      have u0 := hb1.cell 0
      have u1 := hb1.cell 1
      have u2 := hb1.cell 2
      have u3 := hb1.cell 3
      have u4 := hb1.cell 4
      simp at u0 u1 u2 u3 u4
      show oo.wp Tryz.prog fr W K Q
      unfold Oper.wp
      simp only [execOp, hop, e8, List.map_toArray, List.map_cons, List.map_nil]
      go_simp
      exact hK gg _ (fun _ _ _ _ => rfl) (wof_keep F (by decide))
    · refine .of (show (wofOps[10]?).map (fun o => (o.op, o.dst)) = some (.build 57 #[(0, .tmp 12), (1, .tmp 15), (2, .tmp 17), (3, .tmp 19), (4, .tmp 21)], some 22) from by kernel_rfl) fun ll fr W F oo hop hd K hK => ?_
      have e0 := wof_v F 0 12 (by decide) rfl
      have e3 := wof_v F 3 15 (by decide) rfl
      have e5 := wof_v F 5 17 (by decide) rfl
      have e7 := wof_v F 7 19 (by decide) rfl
      have e9 := wof_v F 9 21 (by decide) rfl
      simp only [wofVal, List.getD_cons_zero, List.getD_cons_succ] at e0 e3 e5 e7 e9
      show oo.wp Tryz.prog fr W K Q
      unfold Oper.wp
      simp only [execOp, hop, e0, e3, e5, e7, e9, List.map_toArray, List.map_cons, List.map_nil]
      go_simp
      exact hK gg _ (fun _ _ _ _ => rfl) (wof_keep F (by decide))
    · refine .of (show (wofOps[11]?).map (fun o => (o.op, o.dst)) = some (.move (.tmp 5), some 23) from by kernel_rfl) fun ll fr W F oo hop hd K hK => ?_
      have s5 := wof_o F 5 ok.h5 (by decide)
      show oo.wp Tryz.prog fr W K Q
      unfold Oper.wp
      simp only [execOp, hop, s5, List.map_toArray, List.map_cons, List.map_nil]
      go_simp
      exact hK gg _ (fun _ _ _ _ => rfl) (wof_keep F (by decide))
    · refine .of (show (wofOps[12]?).map (fun o => (o.op, o.dst)) = some (.move (.tmp 23), some 24) from by kernel_rfl) fun ll fr W F oo hop hd K hK => ?_
      have e11 := wof_v F 11 23 (by decide) rfl
      simp only [wofVal, List.getD_cons_zero, List.getD_cons_succ] at e11
      show oo.wp Tryz.prog fr W K Q
      unfold Oper.wp
      simp only [execOp, hop, e11, List.map_toArray, List.map_cons, List.map_nil]
      go_simp
      exact hK gg _ (fun _ _ _ _ => rfl) (wof_keep F (by decide))
    · refine .of (show (wofOps[13]?).map (fun o => (o.op, o.dst)) = some (.fieldAddr 41 (.tmp 1) 1, some 25) from by kernel_rfl) fun ll fr W F oo hop hd K hK => ?_
      have e12 := wof_v F 12 24 (by decide) rfl
      simp only [wofVal, List.getD_cons_zero, List.getD_cons_succ] at e12
      have s1 := wof_o F 1 ok.h1 (by decide)
      have hgg : wofVal m q0 q1 q2 q3 p1 p2 vt nx fa wi hi gg 12 = .bool true := hgd 12 true rfl
      simp only [wofVal, List.getD_cons_zero, List.getD_cons_succ] at hgg
      obtain rfl : q0 = true := by simpa using hgg
      show oo.wp Tryz.prog fr W K Q
      unfold Oper.wp
      simp only [execOp, hop, e12, s1, List.map_toArray, List.map_cons, List.map_nil]
      go_simp
      exact hK gg _ (fun _ _ _ _ => rfl) (wof_keep F (by decide))
    · refine .of (show (wofOps[14]?).map (fun o => (o.op, o.dst)) = some (.load 3 (.tmp 25), some 26) from by kernel_rfl) fun ll fr W F oo hop hd K hK => ?_
      have e12 := wof_v F 12 24 (by decide) rfl
      have e13 := wof_v F 13 25 (by decide) rfl
      simp only [wofVal, List.getD_cons_zero, List.getD_cons_succ] at e12 e13
      have hgg : wofVal m q0 q1 q2 q3 p1 p2 vt nx fa wi hi gg 12 = .bool true := hgd 12 true rfl
      simp only [wofVal, List.getD_cons_zero, List.getD_cons_succ] at hgg
      obtain rfl : q0 = true := by simpa using hgg
      try simp only [cond_true, cond_false, Bool.and_self, Bool.true_and, Bool.false_and, Bool.and_true, Bool.and_false] at e13
      obtain ⟨hb1, hb2, hfar⟩ := (wof_m F)
      have u0 := hb1.cell 0
      have u1 := hb1.cell 1
      have u2 := hb1.cell 2
      have u3 := hb1.cell 3
      have u4 := hb1.cell 4
      simp at u0 u1 u2 u3 u4
      show oo.wp Tryz.prog fr W K Q
      unfold Oper.wp
      simp only [execOp, hop, e12, e13, List.map_toArray, List.map_cons, List.map_nil]
      go_simp
      exact hK gg _ (fun _ _ _ _ => rfl) (wof_keep F (by decide))
    · refine .of (show (wofOps[15]?).map (fun o => (o.op, o.dst)) = some (.call { callee := .value (.func 47), args := #[.tmp 26, .const (.int .i64 (-64)), .const (.int .i64 64)], argTypes := #[3, 3, 3] }, some 27) from by kernel_rfl) fun ll fr W F oo hop hd K hK => ?_
      have e12 := wof_v F 12 24 (by decide) rfl
      have e14 := wof_v F 14 26 (by decide) rfl
      simp only [wofVal, List.getD_cons_zero, List.getD_cons_succ] at e12 e14
      have hgg : wofVal m q0 q1 q2 q3 p1 p2 vt nx fa wi hi gg 12 = .bool true := hgd 12 true rfl
      simp only [wofVal, List.getD_cons_zero, List.getD_cons_succ] at hgg
      obtain rfl : q0 = true := by simpa using hgg
      try simp only [cond_true, cond_false, Bool.and_self, Bool.true_and, Bool.false_and, Bool.and_true, Bool.and_false] at e14
      show oo.wp Tryz.prog fr W K Q
      unfold Oper.wp
      simp only [execOp, hop, e12, e14, List.map_toArray, List.map_cons, List.map_nil]
      go_simp
      simp only [DG.tmps_eval, e14]
      refine (ok.c1 W).mono ?_
      rintro e W2 ⟨rfl, rfl⟩
      exact hK gg _ (fun _ _ _ _ => rfl) (wof_keep F (by decide))
    · refine .of (show (wofOps[16]?).map (fun o => (o.op, o.dst)) = some (.pick (.tmp 24) (.tmp 27) (.const (.bool false)), some 28) from by kernel_rfl) fun ll fr W F oo hop hd K hK => ?_
      have e12 := wof_v F 12 24 (by decide) rfl
      have e15 := wof_v F 15 27 (by decide) rfl
      simp only [wofVal, List.getD_cons_zero, List.getD_cons_succ] at e12 e15
      cases q0
      all_goals
        try simp only [cond_true, cond_false, Bool.and_self, Bool.true_and, Bool.false_and, Bool.and_true, Bool.and_false] at e12 e15
        show oo.wp Tryz.prog fr W K Q
        unfold Oper.wp
        simp only [execOp, hop, e12, e15, List.map_toArray, List.map_cons, List.map_nil]
        go_simp
        exact hK gg _ (fun _ _ _ _ => rfl) (wof_keep F (by decide))
    · refine .of (show (wofOps[17]?).map (fun o => (o.op, o.dst)) = some (.move (.tmp 28), some 29) from by kernel_rfl) fun ll fr W F oo hop hd K hK => ?_
      have e16 := wof_v F 16 28 (by decide) rfl
      simp only [wofVal, List.getD_cons_zero, List.getD_cons_succ] at e16
      show oo.wp Tryz.prog fr W K Q
      unfold Oper.wp
      simp only [execOp, hop, e16, List.map_toArray, List.map_cons, List.map_nil]
      go_simp
      exact hK gg _ (fun _ _ _ _ => rfl) (wof_keep F (by decide))
    · refine .of (show (wofOps[18]?).map (fun o => (o.op, o.dst)) = some (.fieldAddr 41 (.tmp 1) 2, some 30) from by kernel_rfl) fun ll fr W F oo hop hd K hK => ?_
      have e17 := wof_v F 17 29 (by decide) rfl
      simp only [wofVal, List.getD_cons_zero, List.getD_cons_succ] at e17
      have s1 := wof_o F 1 ok.h1 (by decide)
      have hgg : wofVal m q0 q1 q2 q3 p1 p2 vt nx fa wi hi gg 17 = .bool true := hgd 17 true rfl
      simp only [wofVal, List.getD_cons_zero, List.getD_cons_succ] at hgg
      simp only [Value.bool.injEq, Bool.and_eq_true] at hgg
      obtain ⟨rfl, rfl⟩ := hgg
      show oo.wp Tryz.prog fr W K Q
      unfold Oper.wp
      simp only [execOp, hop, e17, s1, List.map_toArray, List.map_cons, List.map_nil]
      go_simp
      exact hK gg _ (fun _ _ _ _ => rfl) (wof_keep F (by decide))
    · refine .of (show (wofOps[19]?).map (fun o => (o.op, o.dst)) = some (.load 3 (.tmp 30), some 31) from by kernel_rfl) fun ll fr W F oo hop hd K hK => ?_
      have e17 := wof_v F 17 29 (by decide) rfl
      have e18 := wof_v F 18 30 (by decide) rfl
      simp only [wofVal, List.getD_cons_zero, List.getD_cons_succ] at e17 e18
      have hgg : wofVal m q0 q1 q2 q3 p1 p2 vt nx fa wi hi gg 17 = .bool true := hgd 17 true rfl
      simp only [wofVal, List.getD_cons_zero, List.getD_cons_succ] at hgg
      simp only [Value.bool.injEq, Bool.and_eq_true] at hgg
      obtain ⟨rfl, rfl⟩ := hgg
      try simp only [cond_true, cond_false, Bool.and_self, Bool.true_and, Bool.false_and, Bool.and_true, Bool.and_false] at e18
      obtain ⟨hb1, hb2, hfar⟩ := (wof_m F)
      have u0 := hb1.cell 0
      have u1 := hb1.cell 1
      have u2 := hb1.cell 2
      have u3 := hb1.cell 3
      have u4 := hb1.cell 4
      simp at u0 u1 u2 u3 u4
      show oo.wp Tryz.prog fr W K Q
      unfold Oper.wp
      simp only [execOp, hop, e17, e18, List.map_toArray, List.map_cons, List.map_nil]
      go_simp
      exact hK gg _ (fun _ _ _ _ => rfl) (wof_keep F (by decide))
    · refine .of (show (wofOps[20]?).map (fun o => (o.op, o.dst)) = some (.call { callee := .value (.func 47), args := #[.tmp 31, .const (.int .i64 1), .const (.int .i64 1048576)], argTypes := #[3, 3, 3] }, some 32) from by kernel_rfl) fun ll fr W F oo hop hd K hK => ?_
      have e17 := wof_v F 17 29 (by decide) rfl
      have e19 := wof_v F 19 31 (by decide) rfl
      simp only [wofVal, List.getD_cons_zero, List.getD_cons_succ] at e17 e19
      have hgg : wofVal m q0 q1 q2 q3 p1 p2 vt nx fa wi hi gg 17 = .bool true := hgd 17 true rfl
      simp only [wofVal, List.getD_cons_zero, List.getD_cons_succ] at hgg
      simp only [Value.bool.injEq, Bool.and_eq_true] at hgg
      obtain ⟨rfl, rfl⟩ := hgg
      try simp only [cond_true, cond_false, Bool.and_self, Bool.true_and, Bool.false_and, Bool.and_true, Bool.and_false] at e19
      show oo.wp Tryz.prog fr W K Q
      unfold Oper.wp
      simp only [execOp, hop, e17, e19, List.map_toArray, List.map_cons, List.map_nil]
      go_simp
      simp only [DG.tmps_eval, e19]
      refine (ok.c2 W).mono ?_
      rintro e W2 ⟨rfl, rfl⟩
      exact hK gg _ (fun _ _ _ _ => rfl) (wof_keep F (by decide))
    · refine .of (show (wofOps[21]?).map (fun o => (o.op, o.dst)) = some (.pick (.tmp 29) (.tmp 32) (.const (.bool false)), some 33) from by kernel_rfl) fun ll fr W F oo hop hd K hK => ?_
      have e17 := wof_v F 17 29 (by decide) rfl
      have e20 := wof_v F 20 32 (by decide) rfl
      simp only [wofVal, List.getD_cons_zero, List.getD_cons_succ] at e17 e20
      cases q0 <;> cases q1
      all_goals
        try simp only [cond_true, cond_false, Bool.and_self, Bool.true_and, Bool.false_and, Bool.and_true, Bool.and_false] at e17 e20
        show oo.wp Tryz.prog fr W K Q
        unfold Oper.wp
        simp only [execOp, hop, e17, e20, List.map_toArray, List.map_cons, List.map_nil]
        go_simp
        exact hK gg _ (fun _ _ _ _ => rfl) (wof_keep F (by decide))
    · refine .of (show (wofOps[22]?).map (fun o => (o.op, o.dst)) = some (.move (.tmp 33), some 34) from by kernel_rfl) fun ll fr W F oo hop hd K hK => ?_
      have e21 := wof_v F 21 33 (by decide) rfl
      simp only [wofVal, List.getD_cons_zero, List.getD_cons_succ] at e21
      show oo.wp Tryz.prog fr W K Q
      unfold Oper.wp
      simp only [execOp, hop, e21, List.map_toArray, List.map_cons, List.map_nil]
      go_simp
      exact hK gg _ (fun _ _ _ _ => rfl) (wof_keep F (by decide))
    · refine .of (show (wofOps[23]?).map (fun o => (o.op, o.dst)) = some (.fieldAddr 41 (.tmp 1) 3, some 35) from by kernel_rfl) fun ll fr W F oo hop hd K hK => ?_
      have e22 := wof_v F 22 34 (by decide) rfl
      simp only [wofVal, List.getD_cons_zero, List.getD_cons_succ] at e22
      have s1 := wof_o F 1 ok.h1 (by decide)
      have hgg : wofVal m q0 q1 q2 q3 p1 p2 vt nx fa wi hi gg 22 = .bool true := hgd 22 true rfl
      simp only [wofVal, List.getD_cons_zero, List.getD_cons_succ] at hgg
      simp only [Value.bool.injEq, Bool.and_eq_true] at hgg
      obtain ⟨⟨rfl, rfl⟩, rfl⟩ := hgg
      show oo.wp Tryz.prog fr W K Q
      unfold Oper.wp
      simp only [execOp, hop, e22, s1, List.map_toArray, List.map_cons, List.map_nil]
      go_simp
      exact hK gg _ (fun _ _ _ _ => rfl) (wof_keep F (by decide))
    · refine .of (show (wofOps[24]?).map (fun o => (o.op, o.dst)) = some (.load 3 (.tmp 35), some 36) from by kernel_rfl) fun ll fr W F oo hop hd K hK => ?_
      have e22 := wof_v F 22 34 (by decide) rfl
      have e23 := wof_v F 23 35 (by decide) rfl
      simp only [wofVal, List.getD_cons_zero, List.getD_cons_succ] at e22 e23
      have hgg : wofVal m q0 q1 q2 q3 p1 p2 vt nx fa wi hi gg 22 = .bool true := hgd 22 true rfl
      simp only [wofVal, List.getD_cons_zero, List.getD_cons_succ] at hgg
      simp only [Value.bool.injEq, Bool.and_eq_true] at hgg
      obtain ⟨⟨rfl, rfl⟩, rfl⟩ := hgg
      try simp only [cond_true, cond_false, Bool.and_self, Bool.true_and, Bool.false_and, Bool.and_true, Bool.and_false] at e23
      obtain ⟨hb1, hb2, hfar⟩ := (wof_m F)
      have u0 := hb1.cell 0
      have u1 := hb1.cell 1
      have u2 := hb1.cell 2
      have u3 := hb1.cell 3
      have u4 := hb1.cell 4
      simp at u0 u1 u2 u3 u4
      show oo.wp Tryz.prog fr W K Q
      unfold Oper.wp
      simp only [execOp, hop, e22, e23, List.map_toArray, List.map_cons, List.map_nil]
      go_simp
      exact hK gg _ (fun _ _ _ _ => rfl) (wof_keep F (by decide))
    · refine .of (show (wofOps[25]?).map (fun o => (o.op, o.dst)) = some (.call { callee := .value (.func 47), args := #[.tmp 36, .const (.int .i64 1), .const (.int .i64 1048576)], argTypes := #[3, 3, 3] }, some 37) from by kernel_rfl) fun ll fr W F oo hop hd K hK => ?_
      have e22 := wof_v F 22 34 (by decide) rfl
      have e24 := wof_v F 24 36 (by decide) rfl
      simp only [wofVal, List.getD_cons_zero, List.getD_cons_succ] at e22 e24
      have hgg : wofVal m q0 q1 q2 q3 p1 p2 vt nx fa wi hi gg 22 = .bool true := hgd 22 true rfl
      simp only [wofVal, List.getD_cons_zero, List.getD_cons_succ] at hgg
      simp only [Value.bool.injEq, Bool.and_eq_true] at hgg
      obtain ⟨⟨rfl, rfl⟩, rfl⟩ := hgg
      try simp only [cond_true, cond_false, Bool.and_self, Bool.true_and, Bool.false_and, Bool.and_true, Bool.and_false] at e24
      show oo.wp Tryz.prog fr W K Q
      unfold Oper.wp
      simp only [execOp, hop, e22, e24, List.map_toArray, List.map_cons, List.map_nil]
      go_simp
      simp only [DG.tmps_eval, e24]
      refine (ok.c3 W).mono ?_
      rintro e W2 ⟨rfl, rfl⟩
      exact hK gg _ (fun _ _ _ _ => rfl) (wof_keep F (by decide))
    · refine .of (show (wofOps[26]?).map (fun o => (o.op, o.dst)) = some (.pick (.tmp 34) (.tmp 37) (.const (.bool false)), some 38) from by kernel_rfl) fun ll fr W F oo hop hd K hK => ?_
      have e22 := wof_v F 22 34 (by decide) rfl
      have e25 := wof_v F 25 37 (by decide) rfl
      simp only [wofVal, List.getD_cons_zero, List.getD_cons_succ] at e22 e25
      cases q0 <;> cases q1 <;> cases q2
      all_goals
        try simp only [cond_true, cond_false, Bool.and_self, Bool.true_and, Bool.false_and, Bool.and_true, Bool.and_false] at e22 e25
        show oo.wp Tryz.prog fr W K Q
        unfold Oper.wp
        simp only [execOp, hop, e22, e25, List.map_toArray, List.map_cons, List.map_nil]
        go_simp
        exact hK gg _ (fun _ _ _ _ => rfl) (wof_keep F (by decide))
    · refine .of (show (wofOps[27]?).map (fun o => (o.op, o.dst)) = some (.store 57 (.tmp 2) (.tmp 22), none) from by kernel_rfl) fun ll fr W F oo hop hd K hK => ?_
      have e10 := wof_v F 10 22 (by decide) rfl
      simp only [wofVal, List.getD_cons_zero, List.getD_cons_succ] at e10
      have s2 := wof_o F 2 ok.h2 (by decide)
      have hz : 27 < ll.size := by rw [wof_z F]; decide
      obtain ⟨hb1, hb2, hfar⟩ := (wof_m F)
      rw [if_neg (by rw [show ll.getD 27 false = false from F.not]; simp)] at hb2
      have u0 := hb2.cell 0
      have u1 := hb2.cell 1
      have u2 := hb2.cell 2
      have u3 := hb2.cell 3
      have u4 := hb2.cell 4
      simp at u0 u1 u2 u3 u4
      have fz := fun i => hb2.free i
      show oo.wp Tryz.prog fr W K Q
      unfold Oper.wp
      simp only [execOp, hop, e10, s2, List.map_toArray, List.map_cons, List.map_nil]
      go_simp
      refine hK gg _ (fun _ _ _ _ => rfl) (show wofMem m q0 q1 q2 q3 p1 p2 vt nx fa wi hi W0 gg (ll.setIfInBounds 27 true) _ from ?_)
      unfold wofMem
      rw [if_pos (DG.set_eq hz)]
      refine ⟨((((hb1.far ok.ne _).far ok.ne _).far ok.ne _).far ok.ne _).far ok.ne _, ?_, ((((hfar.set _ _).set _ _).set _ _).set _ _).set _ _⟩
      exact blk_to (((((hb2.put 0 _).put 1 _).put 2 _).put 3 _).put 4 _) (by simp)
    · refine .of (show (wofOps[28]?).map (fun o => (o.op, o.dst)) = some (.assign (.tmp 38), some 3) from by kernel_rfl) fun ll fr W F oo hop hd K hK => ?_
      have e26 := wof_v F 26 38 (by decide) rfl
      simp only [wofVal, List.getD_cons_zero, List.getD_cons_succ] at e26
      show oo.wp Tryz.prog fr W K Q
      unfold Oper.wp
      simp only [execOp, hop, e26, List.map_toArray, List.map_cons, List.map_nil]
      go_simp
      exact hK gg _ (fun _ _ _ _ => rfl) (wof_keep F (by decide))
theorem wof_region (ok : wofOk m q0 q1 q2 q3 p1 p2 vt nx fa wi hi a0 W0) (hz : a0.tmps.size = 39) (hd : a0.defers = []) (g0 : Unit) (hm : wofMem m q0 q1 q2 q3 p1 p2 vt nx fa wi hi W0 g0 (Array.replicate 29 false) W)
    (hQ : ∀ (gg : Unit) (ll : Array Bool) (W' : World), (∀ k, k < 29 → ll.getD k false = true) → wofMem m q0 q1 q2 q3 p1 p2 vt nx fa wi hi W0 gg ll W' → Q .normal ⟨DG.setQ a0.tmps [(12, wofVal m q0 q1 q2 q3 p1 p2 vt nx fa wi hi gg 0), (13, wofVal m q0 q1 q2 q3 p1 p2 vt nx fa wi hi gg 1), (14, wofVal m q0 q1 q2 q3 p1 p2 vt nx fa wi hi gg 2), (15, wofVal m q0 q1 q2 q3 p1 p2 vt nx fa wi hi gg 3), (16, wofVal m q0 q1 q2 q3 p1 p2 vt nx fa wi hi gg 4), (17, wofVal m q0 q1 q2 q3 p1 p2 vt nx fa wi hi gg 5), (18, wofVal m q0 q1 q2 q3 p1 p2 vt nx fa wi hi gg 6), (19, wofVal m q0 q1 q2 q3 p1 p2 vt nx fa wi hi gg 7), (20, wofVal m q0 q1 q2 q3 p1 p2 vt nx fa wi hi gg 8), (21, wofVal m q0 q1 q2 q3 p1 p2 vt nx fa wi hi gg 9), (22, wofVal m q0 q1 q2 q3 p1 p2 vt nx fa wi hi gg 10), (23, wofVal m q0 q1 q2 q3 p1 p2 vt nx fa wi hi gg 11), (24, wofVal m q0 q1 q2 q3 p1 p2 vt nx fa wi hi gg 12), (25, wofVal m q0 q1 q2 q3 p1 p2 vt nx fa wi hi gg 13), (26, wofVal m q0 q1 q2 q3 p1 p2 vt nx fa wi hi gg 14), (27, wofVal m q0 q1 q2 q3 p1 p2 vt nx fa wi hi gg 15), (28, wofVal m q0 q1 q2 q3 p1 p2 vt nx fa wi hi gg 16), (29, wofVal m q0 q1 q2 q3 p1 p2 vt nx fa wi hi gg 17), (30, wofVal m q0 q1 q2 q3 p1 p2 vt nx fa wi hi gg 18), (31, wofVal m q0 q1 q2 q3 p1 p2 vt nx fa wi hi gg 19), (32, wofVal m q0 q1 q2 q3 p1 p2 vt nx fa wi hi gg 20), (33, wofVal m q0 q1 q2 q3 p1 p2 vt nx fa wi hi gg 21), (34, wofVal m q0 q1 q2 q3 p1 p2 vt nx fa wi hi gg 22), (35, wofVal m q0 q1 q2 q3 p1 p2 vt nx fa wi hi gg 23), (36, wofVal m q0 q1 q2 q3 p1 p2 vt nx fa wi hi gg 24), (37, wofVal m q0 q1 q2 q3 p1 p2 vt nx fa wi hi gg 25), (38, wofVal m q0 q1 q2 q3 p1 p2 vt nx fa wi hi gg 26), (3, wofVal m q0 q1 q2 q3 p1 p2 vt nx fa wi hi gg 28)], []⟩ W') :
    wpAny Tryz.prog .any wofOps Q 29 (Array.replicate 29 false) a0 W :=
  DH.region2 (c := wofK m q0 q1 q2 q3 p1 p2 vt nx fa wi hi a0 W0) (wof_ok ok hz) (by kernel_rfl) hd g0 hm (fun gg => [(12, wofVal m q0 q1 q2 q3 p1 p2 vt nx fa wi hi gg 0), (13, wofVal m q0 q1 q2 q3 p1 p2 vt nx fa wi hi gg 1), (14, wofVal m q0 q1 q2 q3 p1 p2 vt nx fa wi hi gg 2), (15, wofVal m q0 q1 q2 q3 p1 p2 vt nx fa wi hi gg 3), (16, wofVal m q0 q1 q2 q3 p1 p2 vt nx fa wi hi gg 4), (17, wofVal m q0 q1 q2 q3 p1 p2 vt nx fa wi hi gg 5), (18, wofVal m q0 q1 q2 q3 p1 p2 vt nx fa wi hi gg 6), (19, wofVal m q0 q1 q2 q3 p1 p2 vt nx fa wi hi gg 7), (20, wofVal m q0 q1 q2 q3 p1 p2 vt nx fa wi hi gg 8), (21, wofVal m q0 q1 q2 q3 p1 p2 vt nx fa wi hi gg 9), (22, wofVal m q0 q1 q2 q3 p1 p2 vt nx fa wi hi gg 10), (23, wofVal m q0 q1 q2 q3 p1 p2 vt nx fa wi hi gg 11), (24, wofVal m q0 q1 q2 q3 p1 p2 vt nx fa wi hi gg 12), (25, wofVal m q0 q1 q2 q3 p1 p2 vt nx fa wi hi gg 13), (26, wofVal m q0 q1 q2 q3 p1 p2 vt nx fa wi hi gg 14), (27, wofVal m q0 q1 q2 q3 p1 p2 vt nx fa wi hi gg 15), (28, wofVal m q0 q1 q2 q3 p1 p2 vt nx fa wi hi gg 16), (29, wofVal m q0 q1 q2 q3 p1 p2 vt nx fa wi hi gg 17), (30, wofVal m q0 q1 q2 q3 p1 p2 vt nx fa wi hi gg 18), (31, wofVal m q0 q1 q2 q3 p1 p2 vt nx fa wi hi gg 19), (32, wofVal m q0 q1 q2 q3 p1 p2 vt nx fa wi hi gg 20), (33, wofVal m q0 q1 q2 q3 p1 p2 vt nx fa wi hi gg 21), (34, wofVal m q0 q1 q2 q3 p1 p2 vt nx fa wi hi gg 22), (35, wofVal m q0 q1 q2 q3 p1 p2 vt nx fa wi hi gg 23), (36, wofVal m q0 q1 q2 q3 p1 p2 vt nx fa wi hi gg 24), (37, wofVal m q0 q1 q2 q3 p1 p2 vt nx fa wi hi gg 25), (38, wofVal m q0 q1 q2 q3 p1 p2 vt nx fa wi hi gg 26), (3, wofVal m q0 q1 q2 q3 p1 p2 vt nx fa wi hi gg 28)]) (fun _ => rfl) hQ
end
end Go.Proofs.YtkpecagkpjabdabGreat
/- WorldSteps' statement that asks for both lists of boxes, each operation once. Condition: what the walk has shown ahead of it. -/
namespace Go.Proofs.YtkpecagkpjabdabGreat
open Go.RowKit
set_option linter.unusedVariables false
set_option linter.unusedSimpArgs false
set_option maxRecDepth 100000
set_option maxRecDepth 100000
noncomputable def wsbC : Code := ((Tryz.f5.body.bind (regionOf 9)).getD .skip)
noncomputable def wsbOps : Array Oper := match wsbC with
  | .region _ ops _ => ops
  | _ => #[]
theorem wsbC_is : wsbC = .region 9 wsbOps true := by kernel_rfl
theorem wsbOps_size : wsbOps.size = 7 := by kernel_rfl
def wsbSlot (k : Nat) : Option Nat := ([some 85, some 86, some 87, some 88, some 89, some 9, some 10] : List (Option Nat)).getD k none
def wsbVal (p3 p4 : Nat) (z0 z1 : Value) (fall wide high next : Int) (b : Nat) (L : List M.Box) (gg : (Value × Value)) (k9 : Nat) : Value := ([.pointer (some ⟨p3, 0, none⟩), .agg #[z0, z1], gg.1, rwV b next fall wide high, gg.2, gg.1, gg.2] : List Value).getD k9 undef
def wsbNeeds (k : Nat) : List Nat := ([[], [0], [1], [], [3], [2], [4]] : List (List Nat)).getD k []
def wsbMem (p3 p4 : Nat) (z0 z1 : Value) (fall wide high next : Int) (b : Nat) (L : List M.Box) (W0 : World) (gg : (Value × Value)) (ll : Array Bool) (W : World) : Prop := Below W0.heap.size W0 W ∧ (ll.getD 2 false = true → World.ownsRow W W0.heap.size 29 5 gg.1 L.length (L.flatMap boxL)) ∧ (ll.getD 4 false = true → World.ownsRow W W0.heap.size 29 5 gg.2 L.length (L.flatMap boxL))
noncomputable def wsbK (p3 p4 : Nat) (z0 z1 : Value) (fall wide high next : Int) (b : Nat) (L : List M.Box) (a0 : Act) (W0 : World) : DG ((Value × Value)) := { P := Tryz.prog, ops := wsbOps, a0 := a0, n := 7, slot := wsbSlot, val := wsbVal p3 p4 z0 z1 fall wide high next b L, needs := wsbNeeds, mem := wsbMem p3 p4 z0 z1 fall wide high next b L W0 }
section
variable {p3 p4 : Nat} {z0 z1 : Value} {fall wide high next : Int} {b : Nat} {L : List M.Box}
variable {a0 fr : Act} {W0 W : World} {Q : Exit → Act → World → Prop} {gg : (Value × Value)} {ll : Array Bool} {k : Nat}
structure wsbOk (p3 p4 : Nat) (z0 z1 : Value) (fall wide high next : Int) (b : Nat) (L : List M.Box) (a0 : Act) (W0 : World) : Prop where
  h3 : a0.eval (.tmp 3) = .pointer (some ⟨p3, 0, none⟩)
  h4 : a0.eval (.tmp 4) = .pointer (some ⟨p4, 0, none⟩)
  b3 : Blk W0 p3 41 #[z0, z1, .int .i64 fall, .int .i64 wide, .int .i64 high]
  b4 : Blk W0 p4 57 #[.map (some b), .int .i64 next, .int .i64 fall, .int .i64 wide, .int .i64 high]
  bx : ∀ W, Below W0.heap.size W0 W → Calls Tryz.prog 24 #[.agg #[z0, z1]] W fun e W' => ∃ v, e = .returned v ∧ World.ownsRow W' W0.heap.size 29 5 v L.length (L.flatMap boxL) ∧ Below W.heap.size W W'
  bf : ∀ W, Below W0.heap.size W0 W → Calls Tryz.prog 25 #[rwV b next fall wide high] W fun e W' => ∃ v, e = .returned v ∧ World.ownsRow W' W0.heap.size 29 5 v L.length (L.flatMap boxL) ∧ Below W.heap.size W W'
theorem wsb_v (F : (wsbK p3 p4 z0 z1 fall wide high next b L a0 W0).Facts k gg ll fr W) (j s : Nat) (h1 : j ∈ wsbNeeds k) (h2 : wsbSlot j = some s) : fr.eval (.tmp s) = wsbVal p3 p4 z0 z1 fall wide high next b L gg j := F.vals j s h1 h2
theorem wsb_o (F : (wsbK p3 p4 z0 z1 fall wide high next b L a0 W0).Facts k gg ll fr W) (s : Nat) {v : Value} (h2 : a0.eval (.tmp s) = v) (h1 : ∀ k, k < 7 → wsbSlot k ≠ some s) : fr.eval (.tmp s) = v := (F.other s h1).trans h2
theorem wsb_m (F : (wsbK p3 p4 z0 z1 fall wide high next b L a0 W0).Facts k gg ll fr W) : Below W0.heap.size W0 W ∧ (ll.getD 2 false = true → World.ownsRow W W0.heap.size 29 5 gg.1 L.length (L.flatMap boxL)) ∧ (ll.getD 4 false = true → World.ownsRow W W0.heap.size 29 5 gg.2 L.length (L.flatMap boxL)) := F.mem
set_option maxHeartbeats 8000000 in
theorem wsb_ok (ok : wsbOk p3 p4 z0 z1 fall wide high next b L a0 W0) (hz : a0.tmps.size = 135) : (wsbK p3 p4 z0 z1 fall wide high next b L a0 W0).Ok Q := by
  refine DG.ok_of wsbOps_size (by kernel_rfl) (by kernel_rfl) (by rfl) hz (by rfl) ?_
  · intro k hk
    rcases (show k = 0 ∨ k = 1 ∨ k = 2 ∨ k = 3 ∨ k = 4 ∨ k = 5 ∨ k = 6 from by have k9 : k < 7 := hk; omega) with rfl | rfl | rfl | rfl | rfl | rfl | rfl
    · refine .of (show (wsbOps[0]?).map (fun o => (o.op, o.dst)) = some (.fieldAddr 41 (.tmp 3) 0, some 85) from by kernel_rfl) fun gg ll fr W F oo hop hd K hK => ?_
      have s3 := wsb_o F 3 ok.h3 (by decide)
      have hm : wsbMem p3 p4 z0 z1 fall wide high next b L W0 gg ll W := F.mem
      show oo.wp Tryz.prog fr W K Q
      unfold Oper.wp
      simp only [execOp, hop, s3, List.map_toArray, List.map_cons, List.map_nil]
      go_simp
      exact hK gg _ (fun _ _ _ _ => rfl) (show wsbMem p3 p4 z0 z1 fall wide high next b L W0 gg (ll.setIfInBounds 0 true) W from by unfold wsbMem at hm ⊢; rw [DG.set_ne (i := 0) (k := 2) (by decide), DG.set_ne (i := 0) (k := 4) (by decide)]; exact hm)
    · refine .of (show (wsbOps[1]?).map (fun o => (o.op, o.dst)) = some (.load 39 (.tmp 85), some 86) from by kernel_rfl) fun gg ll fr W F oo hop hd K hK => ?_
      have e0 := wsb_v F 0 85 (by decide) rfl
      simp only [wsbVal, List.getD_cons_zero, List.getD_cons_succ] at e0
      have hm : wsbMem p3 p4 z0 z1 fall wide high next b L W0 gg ll W := F.mem
      obtain ⟨hbel, h2, h4⟩ := (wsb_m F)
      have hp := ok.b3.below hbel ok.b3.lt
      have u0 := hp.cell 0
      have u1 := hp.cell 1
      simp at u0 u1
      show oo.wp Tryz.prog fr W K Q
      unfold Oper.wp
      simp only [execOp, hop, e0, List.map_toArray, List.map_cons, List.map_nil]
      go_simp
      exact hK gg _ (fun _ _ _ _ => rfl) (show wsbMem p3 p4 z0 z1 fall wide high next b L W0 gg (ll.setIfInBounds 1 true) W from by unfold wsbMem at hm ⊢; rw [DG.set_ne (i := 1) (k := 2) (by decide), DG.set_ne (i := 1) (k := 4) (by decide)]; exact hm)
    · refine .of (show (wsbOps[2]?).map (fun o => (o.op, o.dst)) = some (.call { callee := .value (.func 24), args := #[.tmp 86], argTypes := #[39] }, some 87) from by kernel_rfl) fun gg ll fr W F oo hop hd K hK => ?_
      have e1 := wsb_v F 1 86 (by decide) rfl
      simp only [wsbVal, List.getD_cons_zero, List.getD_cons_succ] at e1
      obtain ⟨hbel, h2, h4⟩ := (wsb_m F)
      show oo.wp Tryz.prog fr W K Q
      unfold Oper.wp
      simp only [execOp, hop, e1, List.map_toArray, List.map_cons, List.map_nil]
      go_simp
      try simp only [DG.tmps_eval, e1]
      refine (ok.bx W hbel).mono ?_
      rintro e W2 ⟨v9, rfl, ho9, hb9⟩
      refine hK (v9, gg.2) W2 (fun j hj hne hl => ?_) (show wsbMem p3 p4 z0 z1 fall wide high next b L W0 (v9, gg.2) (ll.setIfInBounds 2 true) W2 from ?_)
      · have hj' : j < 7 := hj
        rcases (by omega : j = 0 ∨ j = 1 ∨ j = 2 ∨ j = 3 ∨ j = 4 ∨ j = 5 ∨ j = 6) with rfl | rfl | rfl | rfl | rfl | rfl | rfl <;> first | rfl | exact absurd rfl hne | (exfalso; have q := F.closed 5 2 (show 2 ∈ wsbNeeds 5 from by decide) hl; rw [F.not] at q; cases q)
      · unfold wsbMem
        rw [DG.set_ne (i := 2) (k := 4) (by decide)]
        exact ⟨hbel.trans (hb9.mono hbel.size), fun _ => ho9, fun e => own_below (h4 e) hb9⟩
    · refine .of (show (wsbOps[3]?).map (fun o => (o.op, o.dst)) = some (.load 57 (.tmp 4), some 88) from by kernel_rfl) fun gg ll fr W F oo hop hd K hK => ?_
      have s4 := wsb_o F 4 ok.h4 (by decide)
      have hm : wsbMem p3 p4 z0 z1 fall wide high next b L W0 gg ll W := F.mem
      obtain ⟨hbel, h2, h4⟩ := (wsb_m F)
      have hp := ok.b4.below hbel ok.b4.lt
      have u0 := hp.cell 0
      have u1 := hp.cell 1
      have u2 := hp.cell 2
      have u3 := hp.cell 3
      have u4 := hp.cell 4
      simp at u0 u1 u2 u3 u4
      show oo.wp Tryz.prog fr W K Q
      unfold Oper.wp
      simp only [execOp, hop, s4, List.map_toArray, List.map_cons, List.map_nil]
      go_simp
      exact hK gg _ (fun _ _ _ _ => rfl) (show wsbMem p3 p4 z0 z1 fall wide high next b L W0 gg (ll.setIfInBounds 3 true) W from by unfold wsbMem at hm ⊢; rw [DG.set_ne (i := 3) (k := 2) (by decide), DG.set_ne (i := 3) (k := 4) (by decide)]; exact hm)
    · refine .of (show (wsbOps[4]?).map (fun o => (o.op, o.dst)) = some (.call { callee := .value (.func 25), args := #[.tmp 88], argTypes := #[57] }, some 89) from by kernel_rfl) fun gg ll fr W F oo hop hd K hK => ?_
      have e3 := wsb_v F 3 88 (by decide) rfl
      simp only [wsbVal, List.getD_cons_zero, List.getD_cons_succ] at e3
      obtain ⟨hbel, h2, h4⟩ := (wsb_m F)
      show oo.wp Tryz.prog fr W K Q
      unfold Oper.wp
      simp only [execOp, hop, e3, List.map_toArray, List.map_cons, List.map_nil]
      go_simp
      try simp only [DG.tmps_eval, e3]
      refine (ok.bf W hbel).mono ?_
      rintro e W2 ⟨v9, rfl, ho9, hb9⟩
      refine hK (gg.1, v9) W2 (fun j hj hne hl => ?_) (show wsbMem p3 p4 z0 z1 fall wide high next b L W0 (gg.1, v9) (ll.setIfInBounds 4 true) W2 from ?_)
      · have hj' : j < 7 := hj
        rcases (by omega : j = 0 ∨ j = 1 ∨ j = 2 ∨ j = 3 ∨ j = 4 ∨ j = 5 ∨ j = 6) with rfl | rfl | rfl | rfl | rfl | rfl | rfl <;> first | rfl | exact absurd rfl hne | (exfalso; have q := F.closed 6 4 (show 4 ∈ wsbNeeds 6 from by decide) hl; rw [F.not] at q; cases q)
      · unfold wsbMem
        rw [DG.set_ne (i := 4) (k := 2) (by decide)]
        exact ⟨hbel.trans (hb9.mono hbel.size), fun e => own_below (h2 e) hb9, fun _ => ho9⟩
    · refine .of (show (wsbOps[5]?).map (fun o => (o.op, o.dst)) = some (.assign (.tmp 87), some 9) from by kernel_rfl) fun gg ll fr W F oo hop hd K hK => ?_
      have e2 := wsb_v F 2 87 (by decide) rfl
      simp only [wsbVal, List.getD_cons_zero, List.getD_cons_succ] at e2
      have hm : wsbMem p3 p4 z0 z1 fall wide high next b L W0 gg ll W := F.mem
      show oo.wp Tryz.prog fr W K Q
      unfold Oper.wp
      simp only [execOp, hop, e2, List.map_toArray, List.map_cons, List.map_nil]
      go_simp
      exact hK gg _ (fun _ _ _ _ => rfl) (show wsbMem p3 p4 z0 z1 fall wide high next b L W0 gg (ll.setIfInBounds 5 true) W from by unfold wsbMem at hm ⊢; rw [DG.set_ne (i := 5) (k := 2) (by decide), DG.set_ne (i := 5) (k := 4) (by decide)]; exact hm)
    · refine .of (show (wsbOps[6]?).map (fun o => (o.op, o.dst)) = some (.assign (.tmp 89), some 10) from by kernel_rfl) fun gg ll fr W F oo hop hd K hK => ?_
      have e4 := wsb_v F 4 89 (by decide) rfl
      simp only [wsbVal, List.getD_cons_zero, List.getD_cons_succ] at e4
      have hm : wsbMem p3 p4 z0 z1 fall wide high next b L W0 gg ll W := F.mem
      show oo.wp Tryz.prog fr W K Q
      unfold Oper.wp
      simp only [execOp, hop, e4, List.map_toArray, List.map_cons, List.map_nil]
      go_simp
      exact hK gg _ (fun _ _ _ _ => rfl) (show wsbMem p3 p4 z0 z1 fall wide high next b L W0 gg (ll.setIfInBounds 6 true) W from by unfold wsbMem at hm ⊢; rw [DG.set_ne (i := 6) (k := 2) (by decide), DG.set_ne (i := 6) (k := 4) (by decide)]; exact hm)
theorem wsb_region (ok : wsbOk p3 p4 z0 z1 fall wide high next b L a0 W0) (hz : a0.tmps.size = 135) (hd : a0.defers = []) (g0 : (Value × Value)) (hm : wsbMem p3 p4 z0 z1 fall wide high next b L W0 g0 (Array.replicate 7 false) W)
    (hQ : ∀ (gg : (Value × Value)) (ll : Array Bool) (W' : World), (∀ k, k < 7 → ll.getD k false = true) → wsbMem p3 p4 z0 z1 fall wide high next b L W0 gg ll W' → Q .normal ⟨DG.setQ a0.tmps [(85, wsbVal p3 p4 z0 z1 fall wide high next b L gg 0), (86, wsbVal p3 p4 z0 z1 fall wide high next b L gg 1), (87, wsbVal p3 p4 z0 z1 fall wide high next b L gg 2), (88, wsbVal p3 p4 z0 z1 fall wide high next b L gg 3), (89, wsbVal p3 p4 z0 z1 fall wide high next b L gg 4), (9, wsbVal p3 p4 z0 z1 fall wide high next b L gg 5), (10, wsbVal p3 p4 z0 z1 fall wide high next b L gg 6)], []⟩ W') :
    wpAny Tryz.prog .any wsbOps Q 7 (Array.replicate 7 false) a0 W :=
  DG.region2 (c := wsbK p3 p4 z0 z1 fall wide high next b L a0 W0) (wsb_ok ok hz) (by kernel_rfl) hd g0 hm (fun gg => [(85, wsbVal p3 p4 z0 z1 fall wide high next b L gg 0), (86, wsbVal p3 p4 z0 z1 fall wide high next b L gg 1), (87, wsbVal p3 p4 z0 z1 fall wide high next b L gg 2), (88, wsbVal p3 p4 z0 z1 fall wide high next b L gg 3), (89, wsbVal p3 p4 z0 z1 fall wide high next b L gg 4), (9, wsbVal p3 p4 z0 z1 fall wide high next b L gg 5), (10, wsbVal p3 p4 z0 z1 fall wide high next b L gg 6)]) (fun _ => rfl) hQ
end
end Go.Proofs.YtkpecagkpjabdabGreat
