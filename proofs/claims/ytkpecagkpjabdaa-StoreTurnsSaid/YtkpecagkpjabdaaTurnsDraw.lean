/- A statement of StoreTurns that draws its order: what of two rows belongs to the parts of two masks. Condition: what the walk has shown ahead of it. -/
import Derived.Test.YtkpecagkpjabdaaDrawK
import Derived.Test.YtkpecagkpjabdaaRefThings2
import Derived.Test.YtkpecagkpjabdaaBagU
import Derived.Test.YtkpecagkpjabdaaCopyDraw
namespace Go.Proofs.Ytkpecagkpjabdaa
open Go.RowKit
set_option linter.unusedVariables false
set_option linter.unusedSimpArgs false
set_option maxRecDepth 100000
/-- two worlds that differ in block g alone -/
def Far (g : Nat) (W W' : World) : Prop := (∀ b, b ≠ g → W'.heap[b]? = W.heap[b]?) ∧ W'.heap.size = W.heap.size ∧ W'.os = W.os ∧ W'.tape = W.tape ∧ W'.output = W.output
theorem Far.refl (g : Nat) (W : World) : Far g W W := ⟨fun _ _ => rfl, rfl, rfl, rfl, rfl⟩
theorem Far.set {g : Nat} {W W' : World} (h : Far g W W') (i : Nat) (u : Value) : Far g W (W'.setCell ⟨g, i, none⟩ u) :=
  ⟨fun b hb => (Below.heap_setCell _ _ _ _ hb).trans (h.1 b hb), by rw [← h.2.1]; simp [World.setCell], h.2.2.1, h.2.2.2.1, h.2.2.2.2⟩
theorem fill_row {W : World} {g : Nat} {t : TypeId} {ra : M.Row} (h : Blk W g t (rowC ra)) (r : M.Row) : Blk ((((((((W.setCell ⟨g, 0, none⟩ (.int .i64 r.X)).setCell ⟨g, 1, none⟩ (.int .i64 r.Y)).setCell ⟨g, 2, none⟩ (.int .i64 r.PX)).setCell ⟨g, 3, none⟩ (.int .i64 r.PY)).setCell ⟨g, 4, none⟩ (.int .i64 r.W)).setCell ⟨g, 5, none⟩ (.int .i64 r.H)).setCell ⟨g, 6, none⟩ (.int .i64 r.M)).setCell ⟨g, 7, none⟩ (.int .i64 r.R)) g t (rowC r) ∧ Far g W ((((((((W.setCell ⟨g, 0, none⟩ (.int .i64 r.X)).setCell ⟨g, 1, none⟩ (.int .i64 r.Y)).setCell ⟨g, 2, none⟩ (.int .i64 r.PX)).setCell ⟨g, 3, none⟩ (.int .i64 r.PY)).setCell ⟨g, 4, none⟩ (.int .i64 r.W)).setCell ⟨g, 5, none⟩ (.int .i64 r.H)).setCell ⟨g, 6, none⟩ (.int .i64 r.M)).setCell ⟨g, 7, none⟩ (.int .i64 r.R)) := by
  refine ⟨?_, ((((((((Far.refl g W).set 0 _).set 1 _).set 2 _).set 3 _).set 4 _).set 5 _).set 6 _).set 7 _⟩
  have k := (((((((h.put 0 (.int .i64 r.X)).put 1 (.int .i64 r.Y)).put 2 (.int .i64 r.PX)).put 3 (.int .i64 r.PY)).put 4 (.int .i64 r.W)).put 5 (.int .i64 r.H)).put 6 (.int .i64 r.M)).put 7 (.int .i64 r.R)
  exact blk_to k (by simp [rowC])
set_option maxRecDepth 100000
noncomputable def turns39C : Code := ((Try.f13.body.bind (regOf 39)).getD .skip)
noncomputable def turns39Ops : Array Oper := match turns39C with
  | .region _ ops _ => ops
  | _ => #[]
theorem turns39C_is : turns39C = .region 39 turns39Ops true := by kernel_rfl
theorem turns39Ops_size : turns39Ops.size = 17 := by kernel_rfl
def turns39Slot (k : Nat) : Option Nat := ([some 296, some 297, some 298, some 299, some 300, some 301, some 302, some 303, some 304, some 305, some 306, some 307, some 308, some 31, some 32, none, none] : List (Option Nat)).getD k none
def turns39Val (m : Int) (p : M.Th) (r o q : M.Row) (p24 p7 : Nat) (g : Nat → Nat) (k : Nat) : Value := ([.int .i64 m, .pointer (some ⟨p24, 0, none⟩), .int .i64 p.1, .int .i64 (bits .and .i64 m p.1), .pointer (some ⟨p24, 1, none⟩), rowV p.2, rowV o, .int .i64 m, .pointer (some ⟨p24, 0, none⟩), .int .i64 p.1, .int .i64 (bits .andNot .i64 m p.1), rowV r, rowV q, .pointer (some ⟨g 13, 0, none⟩), .pointer (some ⟨g 14, 0, none⟩), undef, undef] : List Value).getD k undef
def turns39Makes (k : Nat) : Option (TypeId × Array Value) := if k = 13 then some (27, rowC M.row0) else if k = 14 then some (27, rowC M.row0) else none
def turns39Filler (k : Nat) : Nat := if k = 13 then 15 else if k = 14 then 16 else 0
def turns39Fills (k : Nat) : Option Nat := if k = 15 then some 13 else if k = 16 then some 14 else none
def turns39Full (m : Int) (p : M.Th) (r o q : M.Row) (p24 p7 : Nat) (k : Nat) : Array Value := if k = 13 then rowC o else if k = 14 then rowC q else #[]
def turns39Needs (k : Nat) : List Nat := ([[], [], [1], [0, 2], [], [4], [3, 5], [], [], [8], [7, 9], [], [10, 11], [], [], [13, 6], [14, 12]] : List (List Nat)).getD k []
def turns39Uses (k : Nat) : List Nat := ([[], [], [], [], [], [], [], [], [], [], [], [], [], [13], [14], [13], [14]] : List (List Nat)).getD k []
noncomputable def turns39K (m : Int) (p : M.Th) (r o q : M.Row) (p24 p7 : Nat) (a0 : Act) (W0 : World) : DK := { P := Try.prog, ops := turns39Ops, a0 := a0, W0 := W0, n := 17, slot := turns39Slot, val := turns39Val m p r o q p24 p7, makes := turns39Makes, filler := turns39Filler, fills := turns39Fills, full := turns39Full m p r o q p24 p7, needs := turns39Needs, uses := turns39Uses }
theorem turns39_at {k : Nat} {o : Oper} {x : Op} {d : Option Nat} (ho : turns39Ops[k]? = some o) (h : (turns39Ops[k]?).map (fun o => (o.op, o.dst)) = some (x, d)) : o.op = x ∧ o.dst = d := by
  rw [ho] at h
  simpa using h
section
variable {m : Int} {p : M.Th} {r o q : M.Row} {p24 p7 : Nat} {a0 : Act} {W0 : World} {Q : Exit → Act → World → Prop}
abbrev turns39OkT (m : Int) (p : M.Th) (r o q : M.Row) (p24 p7 : Nat) (a0 : Act) (W0 : World) : Prop := (a0.eval (.tmp 2) = .int .i64 m) ∧ (a0.eval (.tmp 24) = .pointer (some ⟨p24, 0, none⟩)) ∧ (a0.eval (.tmp 7) = .pointer (some ⟨p7, 0, none⟩)) ∧ (∀ W, Below W0.heap.size W0 W → (∀ i u, (thC p)[i]? = some u → W.cell? ⟨p24, i, none⟩ = some u) ∧ (∀ i u, (rowC r)[i]? = some u → W.cell? ⟨p7, i, none⟩ = some u)) ∧ (∀ W, Below W0.heap.size W0 W → Calls Try.prog 52 #[.int .i64 (bits .and .i64 m p.1), rowV p.2] W fun e w' => e = .returned (rowV o) ∧ Below W.heap.size W w') ∧ (∀ W, Below W0.heap.size W0 W → Calls Try.prog 52 #[.int .i64 (bits .andNot .i64 m p.1), rowV r] W fun e w' => e = .returned (rowV q) ∧ Below W.heap.size W w')
set_option maxHeartbeats 400000 in
theorem turns39_op0 (ok : turns39OkT m p r o q p24 p7 a0 W0) : (turns39K m p r o q p24 p7 a0 W0).StepOk Q 0 := by
  obtain ⟨h2, h24, h7, hmem, hc1, hc2⟩ := ok
  intro ll gh fr W F oo ho K hK
  obtain ⟨hop, hd⟩ := turns39_at ho (x := .move (.tmp 2)) (d := some 296) (by kernel_rfl)
  have s2 := (F.other 2 (show ∀ k, k < 17 → turns39Slot k ≠ some 2 from by decide)).trans h2
  have hb := F.at_.below
  show oo.wp Try.prog fr W K Q
  unfold Oper.wp
  simp only [execOp, hop, s2, List.map_toArray, List.map_cons, List.map_nil]
  go_simp
  try rw [hd]
  exact hK _ (Below.refl _ _)
set_option maxHeartbeats 400000 in
theorem turns39_op1 (ok : turns39OkT m p r o q p24 p7 a0 W0) : (turns39K m p r o q p24 p7 a0 W0).StepOk Q 1 := by
  obtain ⟨h2, h24, h7, hmem, hc1, hc2⟩ := ok
  intro ll gh fr W F oo ho K hK
  obtain ⟨hop, hd⟩ := turns39_at ho (x := .fieldAddr 62 (.tmp 24) 0) (d := some 297) (by kernel_rfl)
  have s24 := (F.other 24 (show ∀ k, k < 17 → turns39Slot k ≠ some 24 from by decide)).trans h24
  have hb := F.at_.below
  show oo.wp Try.prog fr W K Q
  unfold Oper.wp
  simp only [execOp, hop, s24, List.map_toArray, List.map_cons, List.map_nil]
  go_simp
  try rw [hd]
  exact hK _ (Below.refl _ _)
set_option maxHeartbeats 400000 in
theorem turns39_op2 (ok : turns39OkT m p r o q p24 p7 a0 W0) : (turns39K m p r o q p24 p7 a0 W0).StepOk Q 2 := by
  obtain ⟨h2, h24, h7, hmem, hc1, hc2⟩ := ok
  intro ll gh fr W F oo ho K hK
  obtain ⟨hop, hd⟩ := turns39_at ho (x := .load 3 (.tmp 297)) (d := some 298) (by kernel_rfl)
  have e1 : fr.eval (.tmp 297) = turns39Val m p r o q p24 p7 gh 1 := F.vals 1 297 (show 1 ∈ turns39Needs 2 from by decide) rfl
  simp only [turns39Val, List.getD_cons_zero, List.getD_cons_succ] at e1
  have hb := F.at_.below
  have c0 := (hmem W hb).1 0 _ rfl
  show oo.wp Try.prog fr W K Q
  unfold Oper.wp
  simp only [execOp, hop, e1, List.map_toArray, List.map_cons, List.map_nil]
  go_simp
  try rw [hd]
  exact hK _ (Below.refl _ _)
set_option maxHeartbeats 400000 in
theorem turns39_op3 (ok : turns39OkT m p r o q p24 p7 a0 W0) : (turns39K m p r o q p24 p7 a0 W0).StepOk Q 3 := by
  obtain ⟨h2, h24, h7, hmem, hc1, hc2⟩ := ok
  intro ll gh fr W F oo ho K hK
  obtain ⟨hop, hd⟩ := turns39_at ho (x := .binOp .and 3 (.tmp 296) (.tmp 298) 3) (d := some 299) (by kernel_rfl)
  have e0 : fr.eval (.tmp 296) = turns39Val m p r o q p24 p7 gh 0 := F.vals 0 296 (show 0 ∈ turns39Needs 3 from by decide) rfl
  simp only [turns39Val, List.getD_cons_zero, List.getD_cons_succ] at e0
  have e2 : fr.eval (.tmp 298) = turns39Val m p r o q p24 p7 gh 2 := F.vals 2 298 (show 2 ∈ turns39Needs 3 from by decide) rfl
  simp only [turns39Val, List.getD_cons_zero, List.getD_cons_succ] at e2
  have hb := F.at_.below
  show oo.wp Try.prog fr W K Q
  unfold Oper.wp
  simp only [execOp, hop, e0, e2, List.map_toArray, List.map_cons, List.map_nil]
  go_simp
  try rw [hd]
  exact hK _ (Below.refl _ _)
set_option maxHeartbeats 400000 in
theorem turns39_op4 (ok : turns39OkT m p r o q p24 p7 a0 W0) : (turns39K m p r o q p24 p7 a0 W0).StepOk Q 4 := by
  obtain ⟨h2, h24, h7, hmem, hc1, hc2⟩ := ok
  intro ll gh fr W F oo ho K hK
  obtain ⟨hop, hd⟩ := turns39_at ho (x := .fieldAddr 62 (.tmp 24) 1) (d := some 300) (by kernel_rfl)
  have s24 := (F.other 24 (show ∀ k, k < 17 → turns39Slot k ≠ some 24 from by decide)).trans h24
  have hb := F.at_.below
  show oo.wp Try.prog fr W K Q
  unfold Oper.wp
  simp only [execOp, hop, s24, List.map_toArray, List.map_cons, List.map_nil]
  go_simp
  try rw [hd]
  exact hK _ (Below.refl _ _)
set_option maxHeartbeats 400000 in
theorem turns39_op5 (ok : turns39OkT m p r o q p24 p7 a0 W0) : (turns39K m p r o q p24 p7 a0 W0).StepOk Q 5 := by
  obtain ⟨h2, h24, h7, hmem, hc1, hc2⟩ := ok
  intro ll gh fr W F oo ho K hK
  obtain ⟨hop, hd⟩ := turns39_at ho (x := .load 27 (.tmp 300)) (d := some 301) (by kernel_rfl)
  have e4 : fr.eval (.tmp 300) = turns39Val m p r o q p24 p7 gh 4 := F.vals 4 300 (show 4 ∈ turns39Needs 5 from by decide) rfl
  simp only [turns39Val, List.getD_cons_zero, List.getD_cons_succ] at e4
  have hb := F.at_.below
  have cc := (hmem W hb).1
  have c0 := cc 1 _ rfl
  have c1 := cc 2 _ rfl
  have c2 := cc 3 _ rfl
  have c3 := cc 4 _ rfl
  have c4 := cc 5 _ rfl
  have c5 := cc 6 _ rfl
  have c6 := cc 7 _ rfl
  have c7 := cc 8 _ rfl
  clear cc
  show oo.wp Try.prog fr W K Q
  unfold Oper.wp
  simp only [execOp, hop, e4, List.map_toArray, List.map_cons, List.map_nil]
  go_simp
  try rw [hd]
  exact hK _ (Below.refl _ _)
set_option maxHeartbeats 400000 in
theorem turns39_op6 (ok : turns39OkT m p r o q p24 p7 a0 W0) : (turns39K m p r o q p24 p7 a0 W0).StepOk Q 6 := by
  obtain ⟨h2, h24, h7, hmem, hc1, hc2⟩ := ok
  intro ll gh fr W F oo ho K hK
  obtain ⟨hop, hd⟩ := turns39_at ho (x := .call { callee := .value (.func 52), args := #[.tmp 299, .tmp 301], argTypes := #[3, 27] }) (d := some 302) (by kernel_rfl)
  have e3 : fr.eval (.tmp 299) = turns39Val m p r o q p24 p7 gh 3 := F.vals 3 299 (show 3 ∈ turns39Needs 6 from by decide) rfl
  simp only [turns39Val, List.getD_cons_zero, List.getD_cons_succ] at e3
  have e5 : fr.eval (.tmp 301) = turns39Val m p r o q p24 p7 gh 5 := F.vals 5 301 (show 5 ∈ turns39Needs 6 from by decide) rfl
  simp only [turns39Val, List.getD_cons_zero, List.getD_cons_succ] at e5
  have hb := F.at_.below
  show oo.wp Try.prog fr W K Q
  unfold Oper.wp
  simp only [execOp, hop, e3, e5, List.map_toArray, List.map_cons, List.map_nil]
  go_simp
  simp only [DK.tmps_eval, e3, e5]
  refine (hc1 W hb).mono ?_
  rintro e w9 ⟨rfl, hbk⟩
  try rw [hd]
  exact hK _ hbk
set_option maxHeartbeats 400000 in
theorem turns39_op7 (ok : turns39OkT m p r o q p24 p7 a0 W0) : (turns39K m p r o q p24 p7 a0 W0).StepOk Q 7 := by
  obtain ⟨h2, h24, h7, hmem, hc1, hc2⟩ := ok
  intro ll gh fr W F oo ho K hK
  obtain ⟨hop, hd⟩ := turns39_at ho (x := .move (.tmp 2)) (d := some 303) (by kernel_rfl)
  have s2 := (F.other 2 (show ∀ k, k < 17 → turns39Slot k ≠ some 2 from by decide)).trans h2
  have hb := F.at_.below
  show oo.wp Try.prog fr W K Q
  unfold Oper.wp
  simp only [execOp, hop, s2, List.map_toArray, List.map_cons, List.map_nil]
  go_simp
  try rw [hd]
  exact hK _ (Below.refl _ _)
set_option maxHeartbeats 400000 in
theorem turns39_op8 (ok : turns39OkT m p r o q p24 p7 a0 W0) : (turns39K m p r o q p24 p7 a0 W0).StepOk Q 8 := by
  obtain ⟨h2, h24, h7, hmem, hc1, hc2⟩ := ok
  intro ll gh fr W F oo ho K hK
  obtain ⟨hop, hd⟩ := turns39_at ho (x := .fieldAddr 62 (.tmp 24) 0) (d := some 304) (by kernel_rfl)
  have s24 := (F.other 24 (show ∀ k, k < 17 → turns39Slot k ≠ some 24 from by decide)).trans h24
  have hb := F.at_.below
  show oo.wp Try.prog fr W K Q
  unfold Oper.wp
  simp only [execOp, hop, s24, List.map_toArray, List.map_cons, List.map_nil]
  go_simp
  try rw [hd]
  exact hK _ (Below.refl _ _)
set_option maxHeartbeats 400000 in
theorem turns39_op9 (ok : turns39OkT m p r o q p24 p7 a0 W0) : (turns39K m p r o q p24 p7 a0 W0).StepOk Q 9 := by
  obtain ⟨h2, h24, h7, hmem, hc1, hc2⟩ := ok
  intro ll gh fr W F oo ho K hK
  obtain ⟨hop, hd⟩ := turns39_at ho (x := .load 3 (.tmp 304)) (d := some 305) (by kernel_rfl)
  have e8 : fr.eval (.tmp 304) = turns39Val m p r o q p24 p7 gh 8 := F.vals 8 304 (show 8 ∈ turns39Needs 9 from by decide) rfl
  simp only [turns39Val, List.getD_cons_zero, List.getD_cons_succ] at e8
  have hb := F.at_.below
  have c0 := (hmem W hb).1 0 _ rfl
  show oo.wp Try.prog fr W K Q
  unfold Oper.wp
  simp only [execOp, hop, e8, List.map_toArray, List.map_cons, List.map_nil]
  go_simp
  try rw [hd]
  exact hK _ (Below.refl _ _)
set_option maxHeartbeats 400000 in
theorem turns39_op10 (ok : turns39OkT m p r o q p24 p7 a0 W0) : (turns39K m p r o q p24 p7 a0 W0).StepOk Q 10 := by
  obtain ⟨h2, h24, h7, hmem, hc1, hc2⟩ := ok
  intro ll gh fr W F oo ho K hK
  obtain ⟨hop, hd⟩ := turns39_at ho (x := .binOp .andNot 3 (.tmp 303) (.tmp 305) 3) (d := some 306) (by kernel_rfl)
  have e7 : fr.eval (.tmp 303) = turns39Val m p r o q p24 p7 gh 7 := F.vals 7 303 (show 7 ∈ turns39Needs 10 from by decide) rfl
  simp only [turns39Val, List.getD_cons_zero, List.getD_cons_succ] at e7
  have e9 : fr.eval (.tmp 305) = turns39Val m p r o q p24 p7 gh 9 := F.vals 9 305 (show 9 ∈ turns39Needs 10 from by decide) rfl
  simp only [turns39Val, List.getD_cons_zero, List.getD_cons_succ] at e9
  have hb := F.at_.below
  show oo.wp Try.prog fr W K Q
  unfold Oper.wp
  simp only [execOp, hop, e7, e9, List.map_toArray, List.map_cons, List.map_nil]
  go_simp
  try rw [hd]
  exact hK _ (Below.refl _ _)
set_option maxHeartbeats 400000 in
theorem turns39_op11 (ok : turns39OkT m p r o q p24 p7 a0 W0) : (turns39K m p r o q p24 p7 a0 W0).StepOk Q 11 := by
  obtain ⟨h2, h24, h7, hmem, hc1, hc2⟩ := ok
  intro ll gh fr W F oo ho K hK
  obtain ⟨hop, hd⟩ := turns39_at ho (x := .load 27 (.tmp 7)) (d := some 307) (by kernel_rfl)
  have s7 := (F.other 7 (show ∀ k, k < 17 → turns39Slot k ≠ some 7 from by decide)).trans h7
  have hb := F.at_.below
  have cc := (hmem W hb).2
  have c0 := cc 0 _ rfl
  have c1 := cc 1 _ rfl
  have c2 := cc 2 _ rfl
  have c3 := cc 3 _ rfl
  have c4 := cc 4 _ rfl
  have c5 := cc 5 _ rfl
  have c6 := cc 6 _ rfl
  have c7 := cc 7 _ rfl
  clear cc
  show oo.wp Try.prog fr W K Q
  unfold Oper.wp
  simp only [execOp, hop, s7, List.map_toArray, List.map_cons, List.map_nil]
  go_simp
  try rw [hd]
  exact hK _ (Below.refl _ _)
set_option maxHeartbeats 400000 in
theorem turns39_op12 (ok : turns39OkT m p r o q p24 p7 a0 W0) : (turns39K m p r o q p24 p7 a0 W0).StepOk Q 12 := by
  obtain ⟨h2, h24, h7, hmem, hc1, hc2⟩ := ok
  intro ll gh fr W F oo ho K hK
  obtain ⟨hop, hd⟩ := turns39_at ho (x := .call { callee := .value (.func 52), args := #[.tmp 306, .tmp 307], argTypes := #[3, 27] }) (d := some 308) (by kernel_rfl)
  have e10 : fr.eval (.tmp 306) = turns39Val m p r o q p24 p7 gh 10 := F.vals 10 306 (show 10 ∈ turns39Needs 12 from by decide) rfl
  simp only [turns39Val, List.getD_cons_zero, List.getD_cons_succ] at e10
  have e11 : fr.eval (.tmp 307) = turns39Val m p r o q p24 p7 gh 11 := F.vals 11 307 (show 11 ∈ turns39Needs 12 from by decide) rfl
  simp only [turns39Val, List.getD_cons_zero, List.getD_cons_succ] at e11
  have hb := F.at_.below
  show oo.wp Try.prog fr W K Q
  unfold Oper.wp
  simp only [execOp, hop, e10, e11, List.map_toArray, List.map_cons, List.map_nil]
  go_simp
  simp only [DK.tmps_eval, e10, e11]
  refine (hc2 W hb).mono ?_
  rintro e w9 ⟨rfl, hbk⟩
  try rw [hd]
  exact hK _ hbk
set_option maxHeartbeats 400000 in
theorem turns39_op13 (ok : turns39OkT m p r o q p24 p7 a0 W0) : (turns39K m p r o q p24 p7 a0 W0).StepOk Q 13 := by
  obtain ⟨h2, h24, h7, hmem, hc1, hc2⟩ := ok
  intro ll gh fr W F oo ho K hK
  obtain ⟨hop, hd⟩ := turns39_at ho (x := .alloc 27) (d := some 31) (by kernel_rfl)
  have hb := F.at_.below
  show oo.wp Try.prog fr W K Q
  unfold Oper.wp
  simp only [execOp, hop, List.map_toArray, List.map_cons, List.map_nil]
  go_simp
  try rw [hd]
  exact hK
set_option maxHeartbeats 400000 in
theorem turns39_op14 (ok : turns39OkT m p r o q p24 p7 a0 W0) : (turns39K m p r o q p24 p7 a0 W0).StepOk Q 14 := by
  obtain ⟨h2, h24, h7, hmem, hc1, hc2⟩ := ok
  intro ll gh fr W F oo ho K hK
  obtain ⟨hop, hd⟩ := turns39_at ho (x := .alloc 27) (d := some 32) (by kernel_rfl)
  have hb := F.at_.below
  show oo.wp Try.prog fr W K Q
  unfold Oper.wp
  simp only [execOp, hop, List.map_toArray, List.map_cons, List.map_nil]
  go_simp
  try rw [hd]
  exact hK
set_option maxHeartbeats 400000 in
theorem turns39_op15 (ok : turns39OkT m p r o q p24 p7 a0 W0) : (turns39K m p r o q p24 p7 a0 W0).StepOk Q 15 := by
  obtain ⟨h2, h24, h7, hmem, hc1, hc2⟩ := ok
  intro ll gh fr W F oo ho K hK
  obtain ⟨hop, hd⟩ := turns39_at ho (x := .store 27 (.tmp 31) (.tmp 302)) (d := none) (by kernel_rfl)
  have e13 : fr.eval (.tmp 31) = turns39Val m p r o q p24 p7 gh 13 := F.vals 13 31 (show 13 ∈ turns39Needs 15 from by decide) rfl
  simp only [turns39Val, List.getD_cons_zero, List.getD_cons_succ] at e13
  have e6 : fr.eval (.tmp 302) = turns39Val m p r o q p24 p7 gh 6 := F.vals 6 302 (show 6 ∈ turns39Needs 15 from by decide) rfl
  simp only [turns39Val, List.getD_cons_zero, List.getD_cons_succ] at e6
  have hb := F.at_.below
  show oo.wp Try.prog fr W K Q
  unfold Oper.wp
  simp only [execOp, hop, e13, e6, List.map_toArray, List.map_cons, List.map_nil]
  have hblk := (F.at_.blk 13 _ _ rfl (F.listed 13 (show 13 ∈ turns39Needs 15 from by decide))).2
  have hcl : (turns39K m p r o q p24 p7 a0 W0).cellsOf ll 13 (rowC M.row0) = rowC M.row0 := by unfold DK.cellsOf; rw [if_neg (by show ¬ ll.getD 15 false = true; rw [F.not]; simp)]
  rw [hcl] at hblk
  have hlt := hblk.lt
  have cc := fun i => hblk.cell i
  have hf := fun i => hblk.free i
  have c0 := cc 0
  have c1 := cc 1
  have c2 := cc 2
  have c3 := cc 3
  have c4 := cc 4
  have c5 := cc 5
  have c6 := cc 6
  have c7 := cc 7
  simp at c0 c1 c2 c3 c4 c5 c6 c7
  clear cc
  go_simp
  try rw [hd]
  show K fr _
  have fr := fill_row hblk o
  exact hK _ (fun T z hm => by
      obtain ⟨rfl, rfl⟩ : 27 = T ∧ _ = z := by simpa [turns39K, turns39Makes] using hm
      exact fr.1) fr.2.1 fr.2.2.1 fr.2.2.2
set_option maxHeartbeats 400000 in
theorem turns39_op16 (ok : turns39OkT m p r o q p24 p7 a0 W0) : (turns39K m p r o q p24 p7 a0 W0).StepOk Q 16 := by
  obtain ⟨h2, h24, h7, hmem, hc1, hc2⟩ := ok
  intro ll gh fr W F oo ho K hK
  obtain ⟨hop, hd⟩ := turns39_at ho (x := .store 27 (.tmp 32) (.tmp 308)) (d := none) (by kernel_rfl)
  have e14 : fr.eval (.tmp 32) = turns39Val m p r o q p24 p7 gh 14 := F.vals 14 32 (show 14 ∈ turns39Needs 16 from by decide) rfl
  simp only [turns39Val, List.getD_cons_zero, List.getD_cons_succ] at e14
  have e12 : fr.eval (.tmp 308) = turns39Val m p r o q p24 p7 gh 12 := F.vals 12 308 (show 12 ∈ turns39Needs 16 from by decide) rfl
  simp only [turns39Val, List.getD_cons_zero, List.getD_cons_succ] at e12
  have hb := F.at_.below
  show oo.wp Try.prog fr W K Q
  unfold Oper.wp
  simp only [execOp, hop, e14, e12, List.map_toArray, List.map_cons, List.map_nil]
  have hblk := (F.at_.blk 14 _ _ rfl (F.listed 14 (show 14 ∈ turns39Needs 16 from by decide))).2
  have hcl : (turns39K m p r o q p24 p7 a0 W0).cellsOf ll 14 (rowC M.row0) = rowC M.row0 := by unfold DK.cellsOf; rw [if_neg (by show ¬ ll.getD 16 false = true; rw [F.not]; simp)]
  rw [hcl] at hblk
  have hlt := hblk.lt
  have cc := fun i => hblk.cell i
  have hf := fun i => hblk.free i
  have c0 := cc 0
  have c1 := cc 1
  have c2 := cc 2
  have c3 := cc 3
  have c4 := cc 4
  have c5 := cc 5
  have c6 := cc 6
  have c7 := cc 7
  simp at c0 c1 c2 c3 c4 c5 c6 c7
  clear cc
  go_simp
  try rw [hd]
  show K fr _
  have fr := fill_row hblk q
  exact hK _ (fun T z hm => by
      obtain ⟨rfl, rfl⟩ : 27 = T ∧ _ = z := by simpa [turns39K, turns39Makes] using hm
      exact fr.1) fr.2.1 fr.2.2.1 fr.2.2.2
theorem turns39_ok (ok : turns39OkT m p r o q p24 p7 a0 W0) (hz : a0.tmps.size = 383) : (turns39K m p r o q p24 p7 a0 W0).Ok Q where
  size := turns39Ops_size
  guards := by
    intro k hk o ho
    have h : ((turns39Ops.toList.all fun o => o.guard.isNone)) = true := by kernel_rfl
    have := List.all_eq_true.1 h o (List.mem_of_getElem? (by rw [Array.getElem?_toList]; exact ho))
    simpa using this
  waits := by
    have h : ((List.range 17).all fun k => (turns39Needs k).all fun j => waits .any turns39Ops k j) = true := by kernel_rfl
    intro k hk j hj
    exact List.all_eq_true.1 (List.all_eq_true.1 h k (List.mem_range.2 hk)) j hj
  step := by
    intro k hk
    have hk' : k < 17 := hk
    rcases (by omega : k = 0 ∨ k = 1 ∨ k = 2 ∨ k = 3 ∨ k = 4 ∨ k = 5 ∨ k = 6 ∨ k = 7 ∨ k = 8 ∨ k = 9 ∨ k = 10 ∨ k = 11 ∨ k = 12 ∨ k = 13 ∨ k = 14 ∨ k = 15 ∨ k = 16) with rfl | rfl | rfl | rfl | rfl | rfl | rfl | rfl | rfl | rfl | rfl | rfl | rfl | rfl | rfl | rfl | rfl
    · exact turns39_op0 ok
    · exact turns39_op1 ok
    · exact turns39_op2 ok
    · exact turns39_op3 ok
    · exact turns39_op4 ok
    · exact turns39_op5 ok
    · exact turns39_op6 ok
    · exact turns39_op7 ok
    · exact turns39_op8 ok
    · exact turns39_op9 ok
    · exact turns39_op10 ok
    · exact turns39_op11 ok
    · exact turns39_op12 ok
    · exact turns39_op13 ok
    · exact turns39_op14 ok
    · exact turns39_op15 ok
    · exact turns39_op16 ok
  inj := by
    have h : ((List.range 17).all fun j => (List.range 17).all fun k => match turns39Slot j, turns39Slot k with | some s, some t => decide (s = t → j = k) | _, _ => true) = true := by decide
    intro j k s hj hk h1 h2
    have := List.all_eq_true.1 (List.all_eq_true.1 h j (List.mem_range.2 hj)) k (List.mem_range.2 hk)
    have h1' : turns39Slot j = some s := h1
    have h2' : turns39Slot k = some s := h2
    rw [h1', h2'] at this
    simpa using this
  room := by
    have h : ((List.range 17).all fun j => match turns39Slot j with | some s => decide (s < 383) | none => true) = true := by decide
    intro k s hk h1
    have := List.all_eq_true.1 h k (List.mem_range.2 hk)
    have h1' : turns39Slot k = some s := h1
    rw [h1'] at this
    show s < a0.tmps.size
    rw [hz]
    simpa using this
  uses := by
    have h : ((List.range 17).all fun k => (turns39Uses k).all fun i => decide (i = k) || (turns39Needs k).any fun j => (turns39Uses j).contains i) = true := by decide
    intro k hk i hi
    have := List.all_eq_true.1 (List.all_eq_true.1 h k (List.mem_range.2 hk)) i hi
    simp only [Bool.or_eq_true, decide_eq_true_eq, List.any_eq_true, List.contains_eq_mem] at this
    exact this
  small := by
    have h : ((List.range 17).all fun k => (turns39Needs k).all fun j => decide (j < k)) = true := by decide
    intro k hk j hj
    have := List.all_eq_true.1 (List.all_eq_true.1 h k (List.mem_range.2 hk)) j hj
    simpa using this
  val := by
    intro g g' k hk hu
    have hk' : k < 17 := hk
    rcases (by omega : k = 0 ∨ k = 1 ∨ k = 2 ∨ k = 3 ∨ k = 4 ∨ k = 5 ∨ k = 6 ∨ k = 7 ∨ k = 8 ∨ k = 9 ∨ k = 10 ∨ k = 11 ∨ k = 12 ∨ k = 13 ∨ k = 14 ∨ k = 15 ∨ k = 16) with rfl | rfl | rfl | rfl | rfl | rfl | rfl | rfl | rfl | rfl | rfl | rfl | rfl | rfl | rfl | rfl | rfl
    · rfl
    · rfl
    · rfl
    · rfl
    · rfl
    · rfl
    · rfl
    · rfl
    · rfl
    · rfl
    · rfl
    · rfl
    · rfl
    · have hu13 := hu 13 (show 13 ∈ turns39Uses 13 from by decide); show turns39Val m p r o q p24 p7 g 13 = turns39Val m p r o q p24 p7 g' 13; simp only [turns39Val, List.getD_cons_zero, List.getD_cons_succ, hu13]
    · have hu14 := hu 14 (show 14 ∈ turns39Uses 14 from by decide); show turns39Val m p r o q p24 p7 g 14 = turns39Val m p r o q p24 p7 g' 14; simp only [turns39Val, List.getD_cons_zero, List.getD_cons_succ, hu14]
    · have hu13 := hu 13 (show 13 ∈ turns39Uses 15 from by decide); show turns39Val m p r o q p24 p7 g 15 = turns39Val m p r o q p24 p7 g' 15; simp only [turns39Val, List.getD_cons_zero, List.getD_cons_succ, hu13]
    · have hu14 := hu 14 (show 14 ∈ turns39Uses 16 from by decide); show turns39Val m p r o q p24 p7 g 16 = turns39Val m p r o q p24 p7 g' 16; simp only [turns39Val, List.getD_cons_zero, List.getD_cons_succ, hu14]
  fill := by
    intro k hm
    have hm' : turns39Makes k ≠ none := hm
    unfold turns39Makes at hm'
    obtain rfl | rfl : k = 13 ∨ k = 14 := by (repeat' split at hm') <;> simp_all
    · exact ⟨show 13 ∈ turns39Needs 15 from by decide, show 15 < 17 from by decide, rfl, rfl⟩
    · exact ⟨show 14 ∈ turns39Needs 16 from by decide, show 16 < 17 from by decide, rfl, rfl⟩
  makes := by
    intro k hm
    have hm' : turns39Makes k ≠ none := hm
    unfold turns39Makes at hm'
    obtain rfl | rfl : k = 13 ∨ k = 14 := by (repeat' split at hm') <;> simp_all
    · exact ⟨show 13 < 17 from by decide, show 13 ∈ turns39Uses 13 from by decide⟩
    · exact ⟨show 14 < 17 from by decide, show 14 ∈ turns39Uses 14 from by decide⟩
  fills := by
    intro k hm
    have hm' : turns39Makes k ≠ none := hm
    unfold turns39Makes at hm'
    obtain rfl | rfl : k = 13 ∨ k = 14 := by (repeat' split at hm') <;> simp_all
    all_goals rfl
  filled := by
    intro k j hf
    have hf' : turns39Fills k = some j := hf
    unfold turns39Fills at hf'
    obtain ⟨rfl, rfl⟩ | ⟨rfl, rfl⟩ : (k = 15 ∧ j = 13) ∨ (k = 16 ∧ j = 14) := by (repeat' split at hf') <;> simp_all
    · exact ⟨by show turns39Makes 13 ≠ none; simp [turns39Makes], rfl⟩
    · exact ⟨by show turns39Makes 14 ≠ none; simp [turns39Makes], rfl⟩
theorem turns39_ordered : ((List.range 17).all fun i => ((turns39Ops[i]?).map fun o => o.after.toList.all fun e => !Region.binds .any e || decide (e.on < i)).getD true) = true := by kernel_rfl
end
end Go.Proofs.Ytkpecagkpjabdaa
