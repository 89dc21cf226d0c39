/- TopMemory's callback: the statements that draw their order, each operation once. Condition: what the walk has shown ahead of them. -/
import Derived.Test.YtkpecagkpjabdacGreatDrawG
import Derived.Test.YtkpecagkpjabdacGreatPutDraw
import Derived.Test.YtkpecagkpjabdacGreatBagH
import Derived.Test.YtkpecagkpjabdacGreatBagW
namespace Go.Proofs.YtkpecagkpjabdacGreat
open Go.RowKit
set_option linter.unusedVariables false
set_option linter.unusedSimpArgs false
set_option maxRecDepth 100000
set_option maxRecDepth 100000
/-- where a reply's lists lie -/
structure RG where
  ai : Option Addr
  ci : Nat
  am : Option Addr
  cm : Nat
noncomputable def mem1C : Code := ((Tryz.f30.body.bind (regionOf 1)).getD .skip)
noncomputable def mem1Ops : Array Oper := match mem1C with
  | .region _ ops _ => ops
  | _ => #[]
theorem mem1C_is : mem1C = .region 1 mem1Ops true := by kernel_rfl
theorem mem1Ops_size : mem1Ops.size = 6 := by kernel_rfl
def mem1Slot (k : Nat) : Option Nat := ([some 13, some 14, some 15, some 16, some 17, some 18] : List (Option Nat)).getD k none
def mem1Val (hh bx p5 p6 : Nat) (x : M.Act) (r : M.Reply) (ids met : Value) (P2 : RG → World → Prop) (PP : World → Prop) (gg : RG) (k9 : Nat) : Value := ([.pointer (some ⟨hh, 0, none⟩), actV x, replyV r (.slice gg.ai r.ids.length gg.ci) (.slice gg.am r.met.length gg.cm), replyV r ids met, .bool true, .bool false] : List Value).getD k9 undef
def mem1Needs (k : Nat) : List Nat := ([[], [], [0, 1], [], [2, 3], [4]] : List (List Nat)).getD k []
def mem1Mem (hh bx p5 p6 : Nat) (x : M.Act) (r : M.Reply) (ids met : Value) (P2 : RG → World → Prop) (PP : World → Prop) (W0 : World) (gg : RG) (ll : Array Bool) (W : World) : Prop := if ll.getD 4 false = true then PP W else if ll.getD 2 false = true then P2 gg W else W = W0
noncomputable def mem1K (hh bx p5 p6 : Nat) (x : M.Act) (r : M.Reply) (ids met : Value) (P2 : RG → World → Prop) (PP : World → Prop) (a0 : Act) (W0 : World) : DG (RG) := { P := Tryz.prog, ops := mem1Ops, a0 := a0, n := 6, slot := mem1Slot, val := mem1Val hh bx p5 p6 x r ids met P2 PP, needs := mem1Needs, mem := mem1Mem hh bx p5 p6 x r ids met P2 PP W0 }
theorem mem1_at {k : Nat} {o : Oper} {x : Op} {d : Option Nat} (ho : mem1Ops[k]? = some o) (h : (mem1Ops[k]?).map (fun o => (o.op, o.dst)) = some (x, d)) : o.op = x ∧ o.dst = d := by
  rw [ho] at h
  simpa using h
section
variable {hh bx p5 p6 : Nat} {x : M.Act} {r : M.Reply} {ids met : Value} {P2 : RG → World → Prop} {PP : World → Prop}
variable {a0 : Act} {W0 : World} {Q : Exit → Act → World → Prop}
structure mem1Ok (hh bx p5 p6 : Nat) (x : M.Act) (r : M.Reply) (ids met : Value) (P2 : RG → World → Prop) (PP : World → Prop) (a0 : Act) (W0 : World) : Prop where
  h3 : a0.eval (.tmp 3) = .pointer (some ⟨bx, 0, none⟩)
  h5 : a0.eval (.tmp 5) = .pointer (some ⟨p5, 0, none⟩)
  h6 : a0.eval (.tmp 6) = .pointer (some ⟨p6, 0, none⟩)
  bb : Blk W0 bx 28 #[.pointer (some ⟨hh, 0, none⟩)]
  b5 : Blk W0 p5 27 (actL x).toArray
  b6 : ∀ W, (W = W0 ∨ ∃ gg, P2 gg W) → Blk W p6 40 #[.int .i64 r.code, .int .i64 r.n, ids, met]
  hids : ∃ a n c, ids = .slice a n c
  hmet : ∃ a n c, met = .slice a n c
  do_ : Calls Tryz.prog 15 #[.pointer (some ⟨hh, 0, none⟩), actV x] W0 fun e W' => ∃ gg : RG, e = .returned (replyV r (.slice gg.ai r.ids.length gg.ci) (.slice gg.am r.met.length gg.cm)) ∧ P2 gg W'
  same : ∀ (gg : RG) W, P2 gg W → Calls Tryz.prog 25 #[replyV r (.slice gg.ai r.ids.length gg.ci) (.slice gg.am r.met.length gg.cm), replyV r ids met] W fun e W' => e = .returned (.bool true) ∧ PP W'
theorem mem1_keep {gg : RG} {ll : Array Bool} {W : World} {k : Nat} (h9 : mem1Mem hh bx p5 p6 x r ids met P2 PP W0 gg ll W) (n4 : k ≠ 4) (n2 : k ≠ 2) : mem1Mem hh bx p5 p6 x r ids met P2 PP W0 gg (ll.setIfInBounds k true) W := by
  unfold mem1Mem at h9 ⊢
  rw [DG.set_ne n4, DG.set_ne n2]
  exact h9
set_option maxHeartbeats 400000 in
theorem mem1_op0 (ok : mem1Ok hh bx p5 p6 x r ids met P2 PP a0 W0) : (mem1K hh bx p5 p6 x r ids met P2 PP a0 W0).StepOk Q 0 := by
  intro gg ll fr W F oo ho K hK
  obtain ⟨hop, hd⟩ := mem1_at ho (x := .load 28 (.tmp 3)) (d := some 13) (by kernel_rfl)
  have s3 := (F.other 3 (show ∀ k, k < 6 → mem1Slot k ≠ some 3 from by decide)).trans ok.h3
  have hm : mem1Mem hh bx p5 p6 x r ids met P2 PP W0 gg ll W := F.mem
  have hz : 0 < ll.size := by have q8 := F.size; have q9 : (mem1K hh bx p5 p6 x r ids met P2 PP a0 W0).n = 6 := rfl; omega
  have hmm := hm
  have l2 : ll.getD 2 false = false := by
    cases hx : ll.getD 2 false with
    | false => rfl
    | true => have q := F.closed 2 0 (show 0 ∈ mem1Needs 2 from by decide) hx; rw [F.not] at q; cases q
  have l4 : ll.getD 4 false = false := by
    cases hx : ll.getD 4 false with
    | false => rfl
    | true => have q := (fun h4 => F.closed 2 0 (show 0 ∈ mem1Needs 2 from by decide) (F.closed 4 2 (show 2 ∈ mem1Needs 4 from by decide) h4)) hx; rw [F.not] at q; cases q
  have hW : W = W0 := by
    unfold mem1Mem at hm
    rw [if_neg (by rw [l4]; simp), if_neg (by rw [l2]; simp)] at hm
    exact hm
  subst hW
  have u0 := ok.bb.cell 0
  simp at u0
  show oo.wp Tryz.prog fr W K Q
  unfold Oper.wp
  simp only [execOp, hop, s3, List.map_toArray, List.map_cons, List.map_nil]
  go_simp
  exact hK gg _ (fun _ _ _ _ => rfl) (mem1_keep hmm (by decide) (by decide))
set_option maxHeartbeats 400000 in
theorem mem1_op1 (ok : mem1Ok hh bx p5 p6 x r ids met P2 PP a0 W0) : (mem1K hh bx p5 p6 x r ids met P2 PP a0 W0).StepOk Q 1 := by
  intro gg ll fr W F oo ho K hK
  obtain ⟨hop, hd⟩ := mem1_at ho (x := .load 27 (.tmp 5)) (d := some 14) (by kernel_rfl)
  have s5 := (F.other 5 (show ∀ k, k < 6 → mem1Slot k ≠ some 5 from by decide)).trans ok.h5
  have hm : mem1Mem hh bx p5 p6 x r ids met P2 PP W0 gg ll W := F.mem
  have hz : 1 < ll.size := by have q8 := F.size; have q9 : (mem1K hh bx p5 p6 x r ids met P2 PP a0 W0).n = 6 := rfl; omega
  have hmm := hm
  have l2 : ll.getD 2 false = false := by
    cases hx : ll.getD 2 false with
    | false => rfl
    | true => have q := F.closed 2 1 (show 1 ∈ mem1Needs 2 from by decide) hx; rw [F.not] at q; cases q
  have l4 : ll.getD 4 false = false := by
    cases hx : ll.getD 4 false with
    | false => rfl
    | true => have q := (fun h4 => F.closed 2 1 (show 1 ∈ mem1Needs 2 from by decide) (F.closed 4 2 (show 2 ∈ mem1Needs 4 from by decide) h4)) hx; rw [F.not] at q; cases q
  have hW : W = W0 := by
    unfold mem1Mem at hm
    rw [if_neg (by rw [l4]; simp), if_neg (by rw [l2]; simp)] at hm
    exact hm
  subst hW
  have u0 := ok.b5.cell 0
  have u1 := ok.b5.cell 1
  have u2 := ok.b5.cell 2
  have u3 := ok.b5.cell 3
  have u4 := ok.b5.cell 4
  have u5 := ok.b5.cell 5
  have u6 := ok.b5.cell 6
  have u7 := ok.b5.cell 7
  have u8 := ok.b5.cell 8
  have u9 := ok.b5.cell 9
  have u10 := ok.b5.cell 10
  have u11 := ok.b5.cell 11
  have u12 := ok.b5.cell 12
  have u13 := ok.b5.cell 13
  have u14 := ok.b5.cell 14
  have u15 := ok.b5.cell 15
  have u16 := ok.b5.cell 16
  simp [actL] at u0 u1 u2 u3 u4 u5 u6 u7 u8 u9 u10 u11 u12 u13 u14 u15 u16
  show oo.wp Tryz.prog fr W K Q
  unfold Oper.wp
  simp only [execOp, hop, s5, List.map_toArray, List.map_cons, List.map_nil]
  go_simp
  exact hK gg _ (fun _ _ _ _ => rfl) (mem1_keep hmm (by decide) (by decide))
set_option maxHeartbeats 400000 in
theorem mem1_op2 (ok : mem1Ok hh bx p5 p6 x r ids met P2 PP a0 W0) : (mem1K hh bx p5 p6 x r ids met P2 PP a0 W0).StepOk Q 2 := by
  intro gg ll fr W F oo ho K hK
  obtain ⟨hop, hd⟩ := mem1_at ho (x := .call { callee := .value (.func 15), args := #[.tmp 13, .tmp 14], argTypes := #[28, 27] }) (d := some 15) (by kernel_rfl)
  have e0 : fr.eval (.tmp 13) = mem1Val hh bx p5 p6 x r ids met P2 PP gg 0 := F.vals 0 13 (show 0 ∈ mem1Needs 2 from by decide) rfl
  simp only [mem1Val, List.getD_cons_zero, List.getD_cons_succ] at e0
  have e1 : fr.eval (.tmp 14) = mem1Val hh bx p5 p6 x r ids met P2 PP gg 1 := F.vals 1 14 (show 1 ∈ mem1Needs 2 from by decide) rfl
  simp only [mem1Val, List.getD_cons_zero, List.getD_cons_succ] at e1
  have hm : mem1Mem hh bx p5 p6 x r ids met P2 PP W0 gg ll W := F.mem
  have hz : 2 < ll.size := by have q8 := F.size; have q9 : (mem1K hh bx p5 p6 x r ids met P2 PP a0 W0).n = 6 := rfl; omega
  have hmm := hm
  have l2 : ll.getD 2 false = false := F.not
  have l4 : ll.getD 4 false = false := by
    cases hx : ll.getD 4 false with
    | false => rfl
    | true => have q := F.closed 4 2 (show 2 ∈ mem1Needs 4 from by decide) hx; rw [F.not] at q; cases q
  have hW : W = W0 := by
    unfold mem1Mem at hm
    rw [if_neg (by rw [l4]; simp), if_neg (by rw [l2]; simp)] at hm
    exact hm
  subst hW
  show oo.wp Tryz.prog fr W K Q
  unfold Oper.wp
  simp only [execOp, hop, e0, e1, List.map_toArray, List.map_cons, List.map_nil]
  go_simp
  simp only [DG.tmps_eval, e0, e1]
  refine ok.do_.mono ?_
  rintro e W2 ⟨g9, rfl, hp⟩
  refine hK g9 W2 (fun j hj hne _ => ?_) (show mem1Mem hh bx p5 p6 x r ids met P2 PP W g9 (ll.setIfInBounds 2 true) W2 from by unfold mem1Mem; rw [DG.set_ne (by decide), l4, DG.set_eq hz]; simpa using hp)
  have hj' : j < 6 := hj
  rcases (by omega : j = 0 ∨ j = 1 ∨ j = 3 ∨ j = 4 ∨ j = 5) with rfl | rfl | rfl | rfl | rfl <;> rfl
set_option maxHeartbeats 400000 in
theorem mem1_op3 (ok : mem1Ok hh bx p5 p6 x r ids met P2 PP a0 W0) : (mem1K hh bx p5 p6 x r ids met P2 PP a0 W0).StepOk Q 3 := by
  intro gg ll fr W F oo ho K hK
  obtain ⟨hop, hd⟩ := mem1_at ho (x := .load 40 (.tmp 6)) (d := some 16) (by kernel_rfl)
  have s6 := (F.other 6 (show ∀ k, k < 6 → mem1Slot k ≠ some 6 from by decide)).trans ok.h6
  have hm : mem1Mem hh bx p5 p6 x r ids met P2 PP W0 gg ll W := F.mem
  have hz : 3 < ll.size := by have q8 := F.size; have q9 : (mem1K hh bx p5 p6 x r ids met P2 PP a0 W0).n = 6 := rfl; omega
  have hmm := hm
  have l4 : ll.getD 4 false = false := by
    cases hx : ll.getD 4 false with
    | false => rfl
    | true => have q := F.closed 4 3 (show 3 ∈ mem1Needs 4 from by decide) hx; rw [F.not] at q; cases q
  have hb6 : Blk W p6 40 #[.int .i64 r.code, .int .i64 r.n, ids, met] := by
    have hmm := hm
    unfold mem1Mem at hmm
    rw [if_neg (by rw [l4]; simp)] at hmm
    by_cases h2 : ll.getD 2 false = true
    · rw [if_pos h2] at hmm
      exact ok.b6 W (.inr ⟨gg, hmm⟩)
    · rw [if_neg h2] at hmm
      exact ok.b6 W (.inl hmm)
  obtain ⟨i1, i2, i3, rfl⟩ := ok.hids
  obtain ⟨m1, m2, m3, rfl⟩ := ok.hmet
  have u0 := hb6.cell 0
  have u1 := hb6.cell 1
  have u2 := hb6.cell 2
  have u3 := hb6.cell 3
  simp at u0 u1 u2 u3
  show oo.wp Tryz.prog fr W K Q
  unfold Oper.wp
  simp only [execOp, hop, s6, List.map_toArray, List.map_cons, List.map_nil]
  go_simp
  exact hK gg _ (fun _ _ _ _ => rfl) (mem1_keep hmm (by decide) (by decide))
set_option maxHeartbeats 400000 in
theorem mem1_op4 (ok : mem1Ok hh bx p5 p6 x r ids met P2 PP a0 W0) : (mem1K hh bx p5 p6 x r ids met P2 PP a0 W0).StepOk Q 4 := by
  intro gg ll fr W F oo ho K hK
  obtain ⟨hop, hd⟩ := mem1_at ho (x := .call { callee := .value (.func 25), args := #[.tmp 15, .tmp 16], argTypes := #[40, 40] }) (d := some 17) (by kernel_rfl)
  have e2 : fr.eval (.tmp 15) = mem1Val hh bx p5 p6 x r ids met P2 PP gg 2 := F.vals 2 15 (show 2 ∈ mem1Needs 4 from by decide) rfl
  simp only [mem1Val, List.getD_cons_zero, List.getD_cons_succ] at e2
  have e3 : fr.eval (.tmp 16) = mem1Val hh bx p5 p6 x r ids met P2 PP gg 3 := F.vals 3 16 (show 3 ∈ mem1Needs 4 from by decide) rfl
  simp only [mem1Val, List.getD_cons_zero, List.getD_cons_succ] at e3
  have hm : mem1Mem hh bx p5 p6 x r ids met P2 PP W0 gg ll W := F.mem
  have hz : 4 < ll.size := by have q8 := F.size; have q9 : (mem1K hh bx p5 p6 x r ids met P2 PP a0 W0).n = 6 := rfl; omega
  have hmm := hm
  have l2 : ll.getD 2 false = true := F.listed 2 (show 2 ∈ mem1Needs 4 from by decide)
  have hp2 : P2 gg W := by
    unfold mem1Mem at hm
    rw [if_neg (by rw [show ll.getD 4 false = false from F.not]; simp), if_pos l2] at hm
    exact hm
  show oo.wp Tryz.prog fr W K Q
  unfold Oper.wp
  simp only [execOp, hop, e2, e3, List.map_toArray, List.map_cons, List.map_nil]
  go_simp
  simp only [DG.tmps_eval, e2, e3]
  refine (ok.same gg W hp2).mono ?_
  rintro e W2 ⟨rfl, hp⟩
  exact hK gg W2 (fun _ _ _ _ => rfl) (show mem1Mem hh bx p5 p6 x r ids met P2 PP W0 gg (ll.setIfInBounds 4 true) W2 from by unfold mem1Mem; rw [DG.set_eq hz]; simpa using hp)
set_option maxHeartbeats 400000 in
theorem mem1_op5 (ok : mem1Ok hh bx p5 p6 x r ids met P2 PP a0 W0) : (mem1K hh bx p5 p6 x r ids met P2 PP a0 W0).StepOk Q 5 := by
  intro gg ll fr W F oo ho K hK
  obtain ⟨hop, hd⟩ := mem1_at ho (x := .unOp .not 4 (.tmp 17)) (d := some 18) (by kernel_rfl)
  have e4 : fr.eval (.tmp 17) = mem1Val hh bx p5 p6 x r ids met P2 PP gg 4 := F.vals 4 17 (show 4 ∈ mem1Needs 5 from by decide) rfl
  simp only [mem1Val, List.getD_cons_zero, List.getD_cons_succ] at e4
  have hm : mem1Mem hh bx p5 p6 x r ids met P2 PP W0 gg ll W := F.mem
  have hz : 5 < ll.size := by have q8 := F.size; have q9 : (mem1K hh bx p5 p6 x r ids met P2 PP a0 W0).n = 6 := rfl; omega
  have hmm := hm
  show oo.wp Tryz.prog fr W K Q
  unfold Oper.wp
  simp only [execOp, hop, e4, List.map_toArray, List.map_cons, List.map_nil]
  go_simp
  exact hK gg _ (fun _ _ _ _ => rfl) (mem1_keep hmm (by decide) (by decide))
theorem mem1_ok (ok : mem1Ok hh bx p5 p6 x r ids met P2 PP a0 W0) (hz : a0.tmps.size = 73) : (mem1K hh bx p5 p6 x r ids met P2 PP a0 W0).Ok Q where
  size := mem1Ops_size
  guards := by
    intro k hk o ho
    have h : ((mem1Ops.toList.all fun o => o.guard.isNone)) = true := by kernel_rfl
    have := List.all_eq_true.1 h o (List.mem_of_getElem? (by rw [Array.getElem?_toList]; exact ho))
    simpa using this
  waits := by
    have h : ((List.range 6).all fun k => (mem1Needs k).all fun j => waits .any mem1Ops k j) = true := by kernel_rfl
    intro k hk j hj
    exact List.all_eq_true.1 (List.all_eq_true.1 h k (List.mem_range.2 hk)) j hj
  step := by
    intro k hk
    have hk' : k < 6 := hk
    rcases (by omega : k = 0 ∨ k = 1 ∨ k = 2 ∨ k = 3 ∨ k = 4 ∨ k = 5) with rfl | rfl | rfl | rfl | rfl | rfl
    · exact mem1_op0 ok
    · exact mem1_op1 ok
    · exact mem1_op2 ok
    · exact mem1_op3 ok
    · exact mem1_op4 ok
    · exact mem1_op5 ok
  inj := by
    have h : ((List.range 6).all fun j => (List.range 6).all fun k => match mem1Slot j, mem1Slot k with | some s, some t => decide (s = t → j = k) | _, _ => true) = true := by decide
    intro j k s hj hk h1 h2
    have := List.all_eq_true.1 (List.all_eq_true.1 h j (List.mem_range.2 hj)) k (List.mem_range.2 hk)
    have h1' : mem1Slot j = some s := h1
    have h2' : mem1Slot k = some s := h2
    rw [h1', h2'] at this
    simpa using this
  room := by
    have h : ((List.range 6).all fun j => match mem1Slot j with | some s => decide (s < 73) | none => true) = true := by decide
    intro k s hk h1
    have := List.all_eq_true.1 h k (List.mem_range.2 hk)
    have h1' : mem1Slot k = some s := h1
    rw [h1'] at this
    show s < a0.tmps.size
    rw [hz]
    simpa using this
theorem mem1_ordered : ((List.range 6).all fun i => ((mem1Ops[i]?).map fun o => o.after.toList.all fun e => !Region.binds .any e || decide (e.on < i)).getD true) = true := by kernel_rfl
/-- the whole statement -/
theorem mem1_region (ok : mem1Ok hh bx p5 p6 x r ids met P2 PP a0 W0) (hz : a0.tmps.size = 73) (hd : a0.defers = []) {W : World} (g0 : RG) (hm : mem1Mem hh bx p5 p6 x r ids met P2 PP W0 g0 (Array.replicate 6 false) W)
    (hQ : ∀ (gg : RG) (ll : Array Bool) (W' : World), (∀ k, k < 6 → ll.getD k false = true) → mem1Mem hh bx p5 p6 x r ids met P2 PP W0 gg ll W' → Q .normal ⟨DG.setQ a0.tmps [(13, mem1Val hh bx p5 p6 x r ids met P2 PP gg 0), (14, mem1Val hh bx p5 p6 x r ids met P2 PP gg 1), (15, mem1Val hh bx p5 p6 x r ids met P2 PP gg 2), (16, mem1Val hh bx p5 p6 x r ids met P2 PP gg 3), (17, mem1Val hh bx p5 p6 x r ids met P2 PP gg 4), (18, mem1Val hh bx p5 p6 x r ids met P2 PP gg 5)], []⟩ W') :
    wpAny Tryz.prog .any mem1Ops Q 6 (Array.replicate 6 false) a0 W := by
  refine DG.region (c := mem1K hh bx p5 p6 x r ids met P2 PP a0 W0) (mem1_ok ok hz) mem1_ordered g0 hm ?_
  intro a' gg l' W' h1 h2 h3 hv hl hm'
  obtain ⟨tm, df⟩ := a'
  have hdf : df = [] := h2.trans hd
  subst hdf
  have hb : ∀ k, k < 6 → ∀ s, mem1Slot k = some s → s ∈ ([13, 14, 15, 16, 17, 18] : List Nat) := by
    intro k hk s e
    rcases (by omega : k = 0 ∨ k = 1 ∨ k = 2 ∨ k = 3 ∨ k = 4 ∨ k = 5) with rfl | rfl | rfl | rfl | rfl | rfl <;> simp [mem1Slot] at e <;> subst e <;> decide
  have hfr : ∀ i, i ∉ ([13, 14, 15, 16, 17, 18] : List Nat) → tm.getD i undef = a0.tmps.getD i undef := by
    intro i hi
    have h5 : (⟨tm, []⟩ : Act).eval (.tmp i) = a0.eval (.tmp i) := h3 i (fun k hk e => hi (hb k hk i e))
    exact h5
  have hz1 : tm.size = 73 := h1.trans hz
  have ht := DG.frameQ [13, 14, 15, 16, 17, 18] hz1 hz hfr
  simp only [List.map_cons, List.map_nil] at ht
  have t13 : tm.getD 13 undef = mem1Val hh bx p5 p6 x r ids met P2 PP gg 0 := hv 0 13 (show 0 < 6 from by decide) rfl
  have t14 : tm.getD 14 undef = mem1Val hh bx p5 p6 x r ids met P2 PP gg 1 := hv 1 14 (show 1 < 6 from by decide) rfl
  have t15 : tm.getD 15 undef = mem1Val hh bx p5 p6 x r ids met P2 PP gg 2 := hv 2 15 (show 2 < 6 from by decide) rfl
  have t16 : tm.getD 16 undef = mem1Val hh bx p5 p6 x r ids met P2 PP gg 3 := hv 3 16 (show 3 < 6 from by decide) rfl
  have t17 : tm.getD 17 undef = mem1Val hh bx p5 p6 x r ids met P2 PP gg 4 := hv 4 17 (show 4 < 6 from by decide) rfl
  have t18 : tm.getD 18 undef = mem1Val hh bx p5 p6 x r ids met P2 PP gg 5 := hv 5 18 (show 5 < 6 from by decide) rfl
  rw [t13, t14, t15, t16, t17, t18] at ht
  rw [ht]
  exact hQ gg l' W' (fun k hk => hl k hk) hm'
end
noncomputable def mem2C : Code := ((Tryz.f30.body.bind (regionOf 19)).getD .skip)
noncomputable def mem2Ops : Array Oper := match mem2C with
  | .region _ ops _ => ops
  | _ => #[]
theorem mem2C_is : mem2C = .region 19 mem2Ops true := by kernel_rfl
theorem mem2Ops_size : mem2Ops.size = 11 := by kernel_rfl
def mem2Slot (k : Nat) : Option Nat := ([some 57, some 58, some 59, some 60, some 61, some 62, some 63, some 64, none, some 65, none] : List (Option Nat)).getD k none
def mem2Val (p11 gi gr ni nr ci cr j : Nat) (tmk : Int) (gg : Unit) (k9 : Nat) : Value := ([.pointer (some ⟨p11, 1, none⟩), .slice (some ⟨gi, 0, none⟩) ni ci, .int .i64 (j : Int), .pointer (some ⟨p11, 2, none⟩), .slice (some ⟨gr, 0, none⟩) nr cr, .int .i64 (j : Int), rowV ⟨0, 0, 0, 0, 0, 0, 0, 0⟩, .pointer (some ⟨gi, j, none⟩), undef, .pointer (some ⟨gr, j * 8, none⟩), undef] : List Value).getD k9 undef
def mem2Needs (k : Nat) : List Nat := ([[], [0], [], [], [3], [], [], [1, 2], [7, 1], [4, 5], [9, 6, 8, 4]] : List (List Nat)).getD k []
def mem2Mem (p11 gi gr ni nr ci cr j : Nat) (tmk : Int) (W0 : World) (gg : Unit) (ll : Array Bool) (W : World) : Prop := if ll.getD 10 false = true then W = (((((((((W0.setCell ⟨gi, j, none⟩ (.int .i64 (-1))).setCell ⟨gr, j * 8, none⟩ (.int .i64 0)).setCell ⟨gr, j * 8 + 1, none⟩ (.int .i64 0)).setCell ⟨gr, j * 8 + 2, none⟩ (.int .i64 0)).setCell ⟨gr, j * 8 + 3, none⟩ (.int .i64 0)).setCell ⟨gr, j * 8 + 4, none⟩ (.int .i64 0)).setCell ⟨gr, j * 8 + 5, none⟩ (.int .i64 0)).setCell ⟨gr, j * 8 + 6, none⟩ (.int .i64 0)).setCell ⟨gr, j * 8 + 7, none⟩ (.int .i64 0)) else if ll.getD 8 false = true then W = (W0.setCell ⟨gi, j, none⟩ (.int .i64 (-1))) else W = W0
noncomputable def mem2K (p11 gi gr ni nr ci cr j : Nat) (tmk : Int) (a0 : Act) (W0 : World) : DG (Unit) := { P := Tryz.prog, ops := mem2Ops, a0 := a0, n := 11, slot := mem2Slot, val := mem2Val p11 gi gr ni nr ci cr j tmk, needs := mem2Needs, mem := mem2Mem p11 gi gr ni nr ci cr j tmk W0 }
theorem mem2_at {k : Nat} {o : Oper} {x : Op} {d : Option Nat} (ho : mem2Ops[k]? = some o) (h : (mem2Ops[k]?).map (fun o => (o.op, o.dst)) = some (x, d)) : o.op = x ∧ o.dst = d := by
  rw [ho] at h
  simpa using h
section
variable {p11 gi gr ni nr ci cr j : Nat} {tmk : Int}
variable {a0 : Act} {W0 : World} {Q : Exit → Act → World → Prop}
structure mem2Ok (p11 gi gr ni nr ci cr j : Nat) (tmk : Int) (a0 : Act) (W0 : World) : Prop where
  h11 : a0.eval (.tmp 11) = .pointer (some ⟨p11, 0, none⟩)
  h12 : a0.eval (.tmp 12) = .int .i64 (j : Int)
  bt : Blk W0 p11 80 #[.int .i64 tmk, .slice (some ⟨gi, 0, none⟩) ni ci, .slice (some ⟨gr, 0, none⟩) nr cr]
  ne : p11 ≠ gi
  hj : j < ni
  hj2 : j < nr
  hm : ni ≤ 9223372036854775807
  hm2 : nr ≤ 9223372036854775807
  c8 : ∃ u, W0.cell? ⟨gi, j, none⟩ = some u
  f8 : W0.frozen? ⟨gi, j, none⟩ = false
  c10 : ∀ i, i < 8 → ∃ u, (W0.setCell ⟨gi, j, none⟩ (.int .i64 (-1))).cell? ⟨gr, j * 8 + i, none⟩ = some u
  f10 : ∀ i, (W0.setCell ⟨gi, j, none⟩ (.int .i64 (-1))).frozen? ⟨gr, i, none⟩ = false
theorem mem2_keep {gg : Unit} {ll : Array Bool} {W : World} {k : Nat} (h9 : mem2Mem p11 gi gr ni nr ci cr j tmk W0 gg ll W) (n10 : k ≠ 10) (n8 : k ≠ 8) : mem2Mem p11 gi gr ni nr ci cr j tmk W0 gg (ll.setIfInBounds k true) W := by
  unfold mem2Mem at h9 ⊢
  rw [DG.set_ne n10, DG.set_ne n8]
  exact h9
set_option maxHeartbeats 400000 in
theorem mem2_op0 (ok : mem2Ok p11 gi gr ni nr ci cr j tmk a0 W0) : (mem2K p11 gi gr ni nr ci cr j tmk a0 W0).StepOk Q 0 := by
  intro gg ll fr W F oo ho K hK
  obtain ⟨hop, hd⟩ := mem2_at ho (x := .fieldAddr 80 (.tmp 11) 1) (d := some 57) (by kernel_rfl)
  have s11 := (F.other 11 (show ∀ k, k < 11 → mem2Slot k ≠ some 11 from by decide)).trans ok.h11
  have hm : mem2Mem p11 gi gr ni nr ci cr j tmk W0 gg ll W := F.mem
  have hz : 0 < ll.size := by have q8 := F.size; have q9 : (mem2K p11 gi gr ni nr ci cr j tmk a0 W0).n = 11 := rfl; omega
  have hmm := hm
  show oo.wp Tryz.prog fr W K Q
  unfold Oper.wp
  simp only [execOp, hop, s11, List.map_toArray, List.map_cons, List.map_nil]
  go_simp
  exact hK gg _ (fun _ _ _ _ => rfl) (mem2_keep hmm (by decide) (by decide))
set_option maxHeartbeats 400000 in
theorem mem2_op1 (ok : mem2Ok p11 gi gr ni nr ci cr j tmk a0 W0) : (mem2K p11 gi gr ni nr ci cr j tmk a0 W0).StepOk Q 1 := by
  intro gg ll fr W F oo ho K hK
  obtain ⟨hop, hd⟩ := mem2_at ho (x := .load 37 (.tmp 57)) (d := some 58) (by kernel_rfl)
  have e0 : fr.eval (.tmp 57) = mem2Val p11 gi gr ni nr ci cr j tmk gg 0 := F.vals 0 57 (show 0 ∈ mem2Needs 1 from by decide) rfl
  simp only [mem2Val, List.getD_cons_zero, List.getD_cons_succ] at e0
  have hm : mem2Mem p11 gi gr ni nr ci cr j tmk W0 gg ll W := F.mem
  have hz : 1 < ll.size := by have q8 := F.size; have q9 : (mem2K p11 gi gr ni nr ci cr j tmk a0 W0).n = 11 := rfl; omega
  have hmm := hm
  have l8 : ll.getD 8 false = false := by
    cases hx : ll.getD 8 false with
    | false => rfl
    | true => have q := F.closed 8 1 (show 1 ∈ mem2Needs 8 from by decide) hx; rw [F.not] at q; cases q
  have l10 : ll.getD 10 false = false := by
    cases hx : ll.getD 10 false with
    | false => rfl
    | true => have q := F.closed 10 8 (show 8 ∈ mem2Needs 10 from by decide) hx; rw [l8] at q; cases q
  have hW : W = W0 := by
    unfold mem2Mem at hm
    rw [if_neg (by rw [l10]; simp), if_neg (by rw [l8]; simp)] at hm
    exact hm
  subst hW
  have u0 := ok.bt.cell 1
  simp at u0
  show oo.wp Tryz.prog fr W K Q
  unfold Oper.wp
  simp only [execOp, hop, e0, List.map_toArray, List.map_cons, List.map_nil]
  go_simp
  exact hK gg _ (fun _ _ _ _ => rfl) (mem2_keep hmm (by decide) (by decide))
set_option maxHeartbeats 400000 in
theorem mem2_op2 (ok : mem2Ok p11 gi gr ni nr ci cr j tmk a0 W0) : (mem2K p11 gi gr ni nr ci cr j tmk a0 W0).StepOk Q 2 := by
  intro gg ll fr W F oo ho K hK
  obtain ⟨hop, hd⟩ := mem2_at ho (x := .move (.tmp 12)) (d := some 59) (by kernel_rfl)
  have s12 := (F.other 12 (show ∀ k, k < 11 → mem2Slot k ≠ some 12 from by decide)).trans ok.h12
  have hm : mem2Mem p11 gi gr ni nr ci cr j tmk W0 gg ll W := F.mem
  have hz : 2 < ll.size := by have q8 := F.size; have q9 : (mem2K p11 gi gr ni nr ci cr j tmk a0 W0).n = 11 := rfl; omega
  have hmm := hm
  show oo.wp Tryz.prog fr W K Q
  unfold Oper.wp
  simp only [execOp, hop, s12, List.map_toArray, List.map_cons, List.map_nil]
  go_simp
  exact hK gg _ (fun _ _ _ _ => rfl) (mem2_keep hmm (by decide) (by decide))
set_option maxHeartbeats 400000 in
theorem mem2_op3 (ok : mem2Ok p11 gi gr ni nr ci cr j tmk a0 W0) : (mem2K p11 gi gr ni nr ci cr j tmk a0 W0).StepOk Q 3 := by
  intro gg ll fr W F oo ho K hK
  obtain ⟨hop, hd⟩ := mem2_at ho (x := .fieldAddr 80 (.tmp 11) 2) (d := some 60) (by kernel_rfl)
  have s11 := (F.other 11 (show ∀ k, k < 11 → mem2Slot k ≠ some 11 from by decide)).trans ok.h11
  have hm : mem2Mem p11 gi gr ni nr ci cr j tmk W0 gg ll W := F.mem
  have hz : 3 < ll.size := by have q8 := F.size; have q9 : (mem2K p11 gi gr ni nr ci cr j tmk a0 W0).n = 11 := rfl; omega
  have hmm := hm
  show oo.wp Tryz.prog fr W K Q
  unfold Oper.wp
  simp only [execOp, hop, s11, List.map_toArray, List.map_cons, List.map_nil]
  go_simp
  exact hK gg _ (fun _ _ _ _ => rfl) (mem2_keep hmm (by decide) (by decide))
set_option maxHeartbeats 400000 in
theorem mem2_op4 (ok : mem2Ok p11 gi gr ni nr ci cr j tmk a0 W0) : (mem2K p11 gi gr ni nr ci cr j tmk a0 W0).StepOk Q 4 := by
  intro gg ll fr W F oo ho K hK
  obtain ⟨hop, hd⟩ := mem2_at ho (x := .load 78 (.tmp 60)) (d := some 61) (by kernel_rfl)
  have e3 : fr.eval (.tmp 60) = mem2Val p11 gi gr ni nr ci cr j tmk gg 3 := F.vals 3 60 (show 3 ∈ mem2Needs 4 from by decide) rfl
  simp only [mem2Val, List.getD_cons_zero, List.getD_cons_succ] at e3
  have hm : mem2Mem p11 gi gr ni nr ci cr j tmk W0 gg ll W := F.mem
  have hz : 4 < ll.size := by have q8 := F.size; have q9 : (mem2K p11 gi gr ni nr ci cr j tmk a0 W0).n = 11 := rfl; omega
  have hmm := hm
  have l10 : ll.getD 10 false = false := by
    cases hx : ll.getD 10 false with
    | false => rfl
    | true => have q := F.closed 10 4 (show 4 ∈ mem2Needs 10 from by decide) hx; rw [F.not] at q; cases q
  have u0 := ok.bt.cell 2
  simp at u0
  have u1 : W.cell? ⟨p11, 2, none⟩ = some (.slice (some ⟨gr, 0, none⟩) nr cr) := by
    unfold mem2Mem at hm
    rw [if_neg (by rw [l10]; simp)] at hm
    by_cases h8 : ll.getD 8 false = true
    · rw [if_pos h8] at hm
      rw [hm, World.cell?_of_block (w := W0) (Below.heap_setCell _ _ _ _ (by exact ok.ne))]
      exact u0
    · rw [if_neg h8] at hm
      rw [hm]; exact u0
  clear u0 hm
  show oo.wp Tryz.prog fr W K Q
  unfold Oper.wp
  simp only [execOp, hop, e3, List.map_toArray, List.map_cons, List.map_nil]
  go_simp
  exact hK gg _ (fun _ _ _ _ => rfl) (mem2_keep hmm (by decide) (by decide))
set_option maxHeartbeats 400000 in
theorem mem2_op5 (ok : mem2Ok p11 gi gr ni nr ci cr j tmk a0 W0) : (mem2K p11 gi gr ni nr ci cr j tmk a0 W0).StepOk Q 5 := by
  intro gg ll fr W F oo ho K hK
  obtain ⟨hop, hd⟩ := mem2_at ho (x := .move (.tmp 12)) (d := some 62) (by kernel_rfl)
  have s12 := (F.other 12 (show ∀ k, k < 11 → mem2Slot k ≠ some 12 from by decide)).trans ok.h12
  have hm : mem2Mem p11 gi gr ni nr ci cr j tmk W0 gg ll W := F.mem
  have hz : 5 < ll.size := by have q8 := F.size; have q9 : (mem2K p11 gi gr ni nr ci cr j tmk a0 W0).n = 11 := rfl; omega
  have hmm := hm
  show oo.wp Tryz.prog fr W K Q
  unfold Oper.wp
  simp only [execOp, hop, s12, List.map_toArray, List.map_cons, List.map_nil]
  go_simp
  exact hK gg _ (fun _ _ _ _ => rfl) (mem2_keep hmm (by decide) (by decide))
set_option maxHeartbeats 400000 in
theorem mem2_op6 (ok : mem2Ok p11 gi gr ni nr ci cr j tmk a0 W0) : (mem2K p11 gi gr ni nr ci cr j tmk a0 W0).StepOk Q 6 := by
  intro gg ll fr W F oo ho K hK
  obtain ⟨hop, hd⟩ := mem2_at ho (x := .build 23 #[]) (d := some 63) (by kernel_rfl)
  have hm : mem2Mem p11 gi gr ni nr ci cr j tmk W0 gg ll W := F.mem
  have hz : 6 < ll.size := by have q8 := F.size; have q9 : (mem2K p11 gi gr ni nr ci cr j tmk a0 W0).n = 11 := rfl; omega
  have hmm := hm
  show oo.wp Tryz.prog fr W K Q
  unfold Oper.wp
  simp only [execOp, hop, List.map_toArray, List.map_cons, List.map_nil]
  go_simp
  exact hK gg _ (fun _ _ _ _ => rfl) (mem2_keep hmm (by decide) (by decide))
set_option maxHeartbeats 400000 in
theorem mem2_op7 (ok : mem2Ok p11 gi gr ni nr ci cr j tmk a0 W0) : (mem2K p11 gi gr ni nr ci cr j tmk a0 W0).StepOk Q 7 := by
  intro gg ll fr W F oo ho K hK
  obtain ⟨hop, hd⟩ := mem2_at ho (x := .indexAddr 37 (.tmp 58) (.tmp 59)) (d := some 64) (by kernel_rfl)
  have e1 : fr.eval (.tmp 58) = mem2Val p11 gi gr ni nr ci cr j tmk gg 1 := F.vals 1 58 (show 1 ∈ mem2Needs 7 from by decide) rfl
  simp only [mem2Val, List.getD_cons_zero, List.getD_cons_succ] at e1
  have e2 : fr.eval (.tmp 59) = mem2Val p11 gi gr ni nr ci cr j tmk gg 2 := F.vals 2 59 (show 2 ∈ mem2Needs 7 from by decide) rfl
  simp only [mem2Val, List.getD_cons_zero, List.getD_cons_succ] at e2
  have hm : mem2Mem p11 gi gr ni nr ci cr j tmk W0 gg ll W := F.mem
  have hz : 7 < ll.size := by have q8 := F.size; have q9 : (mem2K p11 gi gr ni nr ci cr j tmk a0 W0).n = 11 := rfl; omega
  have hmm := hm
  have q := ok.hj
  have q9 := ok.hm
  have q0 : (0 : Int) ≤ (j : Int) := by omega
  have q1 : (j : Int) < (ni : Int) := by omega
  have q2 : ni ≤ 9223372036854775807 := by omega
  show oo.wp Tryz.prog fr W K Q
  unfold Oper.wp
  simp only [execOp, hop, e1, e2, List.map_toArray, List.map_cons, List.map_nil]
  go_simp
  exact hK gg _ (fun _ _ _ _ => rfl) (mem2_keep hmm (by decide) (by decide))
set_option maxHeartbeats 400000 in
theorem mem2_op8 (ok : mem2Ok p11 gi gr ni nr ci cr j tmk a0 W0) : (mem2K p11 gi gr ni nr ci cr j tmk a0 W0).StepOk Q 8 := by
  intro gg ll fr W F oo ho K hK
  obtain ⟨hop, hd⟩ := mem2_at ho (x := .store 3 (.tmp 64) (.const (.int .i64 (-1)))) (d := none) (by kernel_rfl)
  have e7 : fr.eval (.tmp 64) = mem2Val p11 gi gr ni nr ci cr j tmk gg 7 := F.vals 7 64 (show 7 ∈ mem2Needs 8 from by decide) rfl
  simp only [mem2Val, List.getD_cons_zero, List.getD_cons_succ] at e7
  have e1 : fr.eval (.tmp 58) = mem2Val p11 gi gr ni nr ci cr j tmk gg 1 := F.vals 1 58 (show 1 ∈ mem2Needs 8 from by decide) rfl
  simp only [mem2Val, List.getD_cons_zero, List.getD_cons_succ] at e1
  have hm : mem2Mem p11 gi gr ni nr ci cr j tmk W0 gg ll W := F.mem
  have hz : 8 < ll.size := by have q8 := F.size; have q9 : (mem2K p11 gi gr ni nr ci cr j tmk a0 W0).n = 11 := rfl; omega
  have hmm := hm
  have l8 : ll.getD 8 false = false := F.not
  have l10 : ll.getD 10 false = false := by
    cases hx : ll.getD 10 false with
    | false => rfl
    | true => have q := F.closed 10 8 (show 8 ∈ mem2Needs 10 from by decide) hx; rw [l8] at q; cases q
  have hW : W = W0 := by
    unfold mem2Mem at hm
    rw [if_neg (by rw [l10]; simp), if_neg (by rw [l8]; simp)] at hm
    exact hm
  subst hW
  obtain ⟨u, c0⟩ := ok.c8
  have f0 := ok.f8
  show oo.wp Tryz.prog fr W K Q
  unfold Oper.wp
  simp only [execOp, hop, e7, e1, List.map_toArray, List.map_cons, List.map_nil]
  go_simp
  refine hK gg _ (fun _ _ _ _ => rfl) ?_
  show mem2Mem p11 gi gr ni nr ci cr j tmk W gg (ll.setIfInBounds 8 true) _
  unfold mem2Mem
  rw [DG.set_ne (by decide), l10, DG.set_eq hz]
  simp
set_option maxHeartbeats 400000 in
theorem mem2_op9 (ok : mem2Ok p11 gi gr ni nr ci cr j tmk a0 W0) : (mem2K p11 gi gr ni nr ci cr j tmk a0 W0).StepOk Q 9 := by
  intro gg ll fr W F oo ho K hK
  obtain ⟨hop, hd⟩ := mem2_at ho (x := .indexAddr 78 (.tmp 61) (.tmp 62)) (d := some 65) (by kernel_rfl)
  have e4 : fr.eval (.tmp 61) = mem2Val p11 gi gr ni nr ci cr j tmk gg 4 := F.vals 4 61 (show 4 ∈ mem2Needs 9 from by decide) rfl
  simp only [mem2Val, List.getD_cons_zero, List.getD_cons_succ] at e4
  have e5 : fr.eval (.tmp 62) = mem2Val p11 gi gr ni nr ci cr j tmk gg 5 := F.vals 5 62 (show 5 ∈ mem2Needs 9 from by decide) rfl
  simp only [mem2Val, List.getD_cons_zero, List.getD_cons_succ] at e5
  have hm : mem2Mem p11 gi gr ni nr ci cr j tmk W0 gg ll W := F.mem
  have hz : 9 < ll.size := by have q8 := F.size; have q9 : (mem2K p11 gi gr ni nr ci cr j tmk a0 W0).n = 11 := rfl; omega
  have hmm := hm
  have q := ok.hj2
  have q9 := ok.hm2
  have q0 : (0 : Int) ≤ (j : Int) := by omega
  have q1 : (j : Int) < (nr : Int) := by omega
  have q2 : nr ≤ 9223372036854775807 := by omega
  show oo.wp Tryz.prog fr W K Q
  unfold Oper.wp
  simp only [execOp, hop, e4, e5, List.map_toArray, List.map_cons, List.map_nil]
  go_simp
  exact hK gg _ (fun _ _ _ _ => rfl) (mem2_keep hmm (by decide) (by decide))
set_option maxHeartbeats 400000 in
theorem mem2_op10 (ok : mem2Ok p11 gi gr ni nr ci cr j tmk a0 W0) : (mem2K p11 gi gr ni nr ci cr j tmk a0 W0).StepOk Q 10 := by
  intro gg ll fr W F oo ho K hK
  obtain ⟨hop, hd⟩ := mem2_at ho (x := .store 23 (.tmp 65) (.tmp 63)) (d := none) (by kernel_rfl)
  have e9 : fr.eval (.tmp 65) = mem2Val p11 gi gr ni nr ci cr j tmk gg 9 := F.vals 9 65 (show 9 ∈ mem2Needs 10 from by decide) rfl
  simp only [mem2Val, List.getD_cons_zero, List.getD_cons_succ] at e9
  have e6 : fr.eval (.tmp 63) = mem2Val p11 gi gr ni nr ci cr j tmk gg 6 := F.vals 6 63 (show 6 ∈ mem2Needs 10 from by decide) rfl
  simp only [mem2Val, List.getD_cons_zero, List.getD_cons_succ] at e6
  have e4 : fr.eval (.tmp 61) = mem2Val p11 gi gr ni nr ci cr j tmk gg 4 := F.vals 4 61 (show 4 ∈ mem2Needs 10 from by decide) rfl
  simp only [mem2Val, List.getD_cons_zero, List.getD_cons_succ] at e4
  have hm : mem2Mem p11 gi gr ni nr ci cr j tmk W0 gg ll W := F.mem
  have hz : 10 < ll.size := by have q8 := F.size; have q9 : (mem2K p11 gi gr ni nr ci cr j tmk a0 W0).n = 11 := rfl; omega
  have hmm := hm
  have l10 : ll.getD 10 false = false := F.not
  have l8 : ll.getD 8 false = true := F.listed 8 (show 8 ∈ mem2Needs 10 from by decide)
  have hW : W = (W0.setCell ⟨gi, j, none⟩ (.int .i64 (-1))) := by
    unfold mem2Mem at hm
    rw [if_neg (by rw [l10]; simp), if_pos l8] at hm
    exact hm
  have f0 := ok.f10
  rw [← hW] at f0
  obtain ⟨u0, c0⟩ := ok.c10 0 (by omega)
  obtain ⟨u1, c1⟩ := ok.c10 1 (by omega)
  obtain ⟨u2, c2⟩ := ok.c10 2 (by omega)
  obtain ⟨u3, c3⟩ := ok.c10 3 (by omega)
  obtain ⟨u4, c4⟩ := ok.c10 4 (by omega)
  obtain ⟨u5, c5⟩ := ok.c10 5 (by omega)
  obtain ⟨u6, c6⟩ := ok.c10 6 (by omega)
  obtain ⟨u7, c7⟩ := ok.c10 7 (by omega)
  rw [← hW] at c0 c1 c2 c3 c4 c5 c6 c7
  rw [Nat.add_zero] at c0
  have HW := Lib.hid hW
  clear hW hm hmm
  show oo.wp Tryz.prog fr W K Q
  unfold Oper.wp
  simp only [execOp, hop, e9, e6, e4, List.map_toArray, List.map_cons, List.map_nil]
  go_simp
  refine hK gg _ (fun _ _ _ _ => rfl) ?_
  show mem2Mem p11 gi gr ni nr ci cr j tmk W0 gg (ll.setIfInBounds 10 true) _
  unfold mem2Mem
  rw [DG.set_eq hz, HW.out]
  simp
theorem mem2_ok (ok : mem2Ok p11 gi gr ni nr ci cr j tmk a0 W0) (hz : a0.tmps.size = 73) : (mem2K p11 gi gr ni nr ci cr j tmk a0 W0).Ok Q where
  size := mem2Ops_size
  guards := by
    intro k hk o ho
    have h : ((mem2Ops.toList.all fun o => o.guard.isNone)) = true := by kernel_rfl
    have := List.all_eq_true.1 h o (List.mem_of_getElem? (by rw [Array.getElem?_toList]; exact ho))
    simpa using this
  waits := by
    have h : ((List.range 11).all fun k => (mem2Needs k).all fun j => waits .any mem2Ops k j) = true := by kernel_rfl
    intro k hk j hj
    exact List.all_eq_true.1 (List.all_eq_true.1 h k (List.mem_range.2 hk)) j hj
  step := by
    intro k hk
    have hk' : k < 11 := hk
    rcases (by omega : k = 0 ∨ k = 1 ∨ k = 2 ∨ k = 3 ∨ k = 4 ∨ k = 5 ∨ k = 6 ∨ k = 7 ∨ k = 8 ∨ k = 9 ∨ k = 10) with rfl | rfl | rfl | rfl | rfl | rfl | rfl | rfl | rfl | rfl | rfl
    · exact mem2_op0 ok
    · exact mem2_op1 ok
    · exact mem2_op2 ok
    · exact mem2_op3 ok
    · exact mem2_op4 ok
    · exact mem2_op5 ok
    · exact mem2_op6 ok
    · exact mem2_op7 ok
    · exact mem2_op8 ok
    · exact mem2_op9 ok
    · exact mem2_op10 ok
  inj := by
    have h : ((List.range 11).all fun j => (List.range 11).all fun k => match mem2Slot j, mem2Slot k with | some s, some t => decide (s = t → j = k) | _, _ => true) = true := by decide
    intro j k s hj hk h1 h2
    have := List.all_eq_true.1 (List.all_eq_true.1 h j (List.mem_range.2 hj)) k (List.mem_range.2 hk)
    have h1' : mem2Slot j = some s := h1
    have h2' : mem2Slot k = some s := h2
    rw [h1', h2'] at this
    simpa using this
  room := by
    have h : ((List.range 11).all fun j => match mem2Slot j with | some s => decide (s < 73) | none => true) = true := by decide
    intro k s hk h1
    have := List.all_eq_true.1 h k (List.mem_range.2 hk)
    have h1' : mem2Slot k = some s := h1
    rw [h1'] at this
    show s < a0.tmps.size
    rw [hz]
    simpa using this
theorem mem2_ordered : ((List.range 11).all fun i => ((mem2Ops[i]?).map fun o => o.after.toList.all fun e => !Region.binds .any e || decide (e.on < i)).getD true) = true := by kernel_rfl
/-- the whole statement -/
theorem mem2_region (ok : mem2Ok p11 gi gr ni nr ci cr j tmk a0 W0) (hz : a0.tmps.size = 73) (hd : a0.defers = []) {W : World} (g0 : Unit) (hm : mem2Mem p11 gi gr ni nr ci cr j tmk W0 g0 (Array.replicate 11 false) W)
    (hQ : ∀ (gg : Unit) (ll : Array Bool) (W' : World), (∀ k, k < 11 → ll.getD k false = true) → mem2Mem p11 gi gr ni nr ci cr j tmk W0 gg ll W' → Q .normal ⟨DG.setQ a0.tmps [(57, mem2Val p11 gi gr ni nr ci cr j tmk gg 0), (58, mem2Val p11 gi gr ni nr ci cr j tmk gg 1), (59, mem2Val p11 gi gr ni nr ci cr j tmk gg 2), (60, mem2Val p11 gi gr ni nr ci cr j tmk gg 3), (61, mem2Val p11 gi gr ni nr ci cr j tmk gg 4), (62, mem2Val p11 gi gr ni nr ci cr j tmk gg 5), (63, mem2Val p11 gi gr ni nr ci cr j tmk gg 6), (64, mem2Val p11 gi gr ni nr ci cr j tmk gg 7), (65, mem2Val p11 gi gr ni nr ci cr j tmk gg 9)], []⟩ W') :
    wpAny Tryz.prog .any mem2Ops Q 11 (Array.replicate 11 false) a0 W := by
  refine DG.region (c := mem2K p11 gi gr ni nr ci cr j tmk a0 W0) (mem2_ok ok hz) mem2_ordered g0 hm ?_
  intro a' gg l' W' h1 h2 h3 hv hl hm'
  obtain ⟨tm, df⟩ := a'
  have hdf : df = [] := h2.trans hd
  subst hdf
  have hb : ∀ k, k < 11 → ∀ s, mem2Slot k = some s → s ∈ ([57, 58, 59, 60, 61, 62, 63, 64, 65] : List Nat) := by
    intro k hk s e
    rcases (by omega : k = 0 ∨ k = 1 ∨ k = 2 ∨ k = 3 ∨ k = 4 ∨ k = 5 ∨ k = 6 ∨ k = 7 ∨ k = 8 ∨ k = 9 ∨ k = 10) with rfl | rfl | rfl | rfl | rfl | rfl | rfl | rfl | rfl | rfl | rfl <;> simp [mem2Slot] at e <;> subst e <;> decide
  have hfr : ∀ i, i ∉ ([57, 58, 59, 60, 61, 62, 63, 64, 65] : List Nat) → tm.getD i undef = a0.tmps.getD i undef := by
    intro i hi
    have h5 : (⟨tm, []⟩ : Act).eval (.tmp i) = a0.eval (.tmp i) := h3 i (fun k hk e => hi (hb k hk i e))
    exact h5
  have hz1 : tm.size = 73 := h1.trans hz
  have ht := DG.frameQ [57, 58, 59, 60, 61, 62, 63, 64, 65] hz1 hz hfr
  simp only [List.map_cons, List.map_nil] at ht
  have t57 : tm.getD 57 undef = mem2Val p11 gi gr ni nr ci cr j tmk gg 0 := hv 0 57 (show 0 < 11 from by decide) rfl
  have t58 : tm.getD 58 undef = mem2Val p11 gi gr ni nr ci cr j tmk gg 1 := hv 1 58 (show 1 < 11 from by decide) rfl
  have t59 : tm.getD 59 undef = mem2Val p11 gi gr ni nr ci cr j tmk gg 2 := hv 2 59 (show 2 < 11 from by decide) rfl
  have t60 : tm.getD 60 undef = mem2Val p11 gi gr ni nr ci cr j tmk gg 3 := hv 3 60 (show 3 < 11 from by decide) rfl
  have t61 : tm.getD 61 undef = mem2Val p11 gi gr ni nr ci cr j tmk gg 4 := hv 4 61 (show 4 < 11 from by decide) rfl
  have t62 : tm.getD 62 undef = mem2Val p11 gi gr ni nr ci cr j tmk gg 5 := hv 5 62 (show 5 < 11 from by decide) rfl
  have t63 : tm.getD 63 undef = mem2Val p11 gi gr ni nr ci cr j tmk gg 6 := hv 6 63 (show 6 < 11 from by decide) rfl
  have t64 : tm.getD 64 undef = mem2Val p11 gi gr ni nr ci cr j tmk gg 7 := hv 7 64 (show 7 < 11 from by decide) rfl
  have t65 : tm.getD 65 undef = mem2Val p11 gi gr ni nr ci cr j tmk gg 9 := hv 9 65 (show 9 < 11 from by decide) rfl
  rw [t57, t58, t59, t60, t61, t62, t63, t64, t65] at ht
  rw [ht]
  exact hQ gg l' W' (fun k hk => hl k hk) hm'
end
end Go.Proofs.YtkpecagkpjabdacGreat
