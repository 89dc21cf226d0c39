/- The contract of the document's MeetRows where one of the two moves. Condition: numbers of 64 bits, both may meet. -/
import Derived.Test.YtkpecagkpjabdaaRefMeetHalf
namespace Go.Proofs.Ytkpecagkpjabdaa
open Go.RowKit
set_option linter.unusedVariables false
set_option linter.unusedSimpArgs false
set_option maxRecDepth 100000
theorem quiet_add_left {P : Program} {f : FuncId} {args : Array Value} {w : World} {a n : Nat} {v : Value}
    (h : Calls P f args (w.drewN (a + n)) fun e w' => e = .returned v ∧ w.drewN (a + n) = w') : Calls P f args (w.drewN (a + n)) fun e w'' => e = .returned v ∧ ∃ m, w'' = w.drewN (a + m) :=
  h.mono fun _ _ ⟨he, hm⟩ => ⟨he, n, hm.symm⟩
/-- how much two overlap, how fast they come nearer, which way: along the way that counts -/
def M.dOf (a b : M.Row) : Int := if M.depth a.W b.W a.X b.X < M.depth a.H b.H a.Y b.Y then M.depth a.W b.W a.X b.X else M.depth a.H b.H a.Y b.Y
def M.vOf (a b : M.Row) : Int := if M.depth a.W b.W a.X b.X < M.depth a.H b.H a.Y b.Y then M.part a.PX 1 a.M - M.part b.PX 1 b.M else M.part a.PY 1 a.M - M.part b.PY 1 b.M
def M.wOf (a b : M.Row) : Int := if M.depth a.W b.W a.X b.X < M.depth a.H b.H a.Y b.Y then M.wayOf a.X b.X else M.wayOf a.Y b.Y
/-- what the one loses and the other one gets -/
def M.kickOf (near way aM bM aR bR : Int) : Int := if 0 < near then way * M.part (near * M.mOf aM bM) (256 + M.least aR bR) (256 * M.nOf aM bM) else 0
theorem kick_is (near way aM bM aR bR : Int) : M.kickOf near way aM bM aR bR = if 0 < near then M.jOf near way aM bM aR bR else 0 := by
  unfold M.kickOf M.jOf; rw [Int.mul_comm 256, Int.mul_comm way]
theorem way_pm (x y : Int) : M.wayOf x y = 1 ∨ M.wayOf x y = -1 := by unfold M.wayOf; split <;> omega
theorem wOf_pm (a b : M.Row) : M.wOf a b = 1 ∨ M.wOf a b = -1 := by unfold M.wOf; split <;> exact way_pm _ _
theorem mul_pm {x w m : Int} (hx : -m ≤ x ∧ x ≤ m) (hw : w = 1 ∨ w = -1) : -m ≤ x * w ∧ x * w ≤ m := by
  rcases hw with rfl | rfl <;> omega
theorem kick_pos (a b : M.Row) (N : Int) (h : 0 < N) : M.kickOf N (M.wOf a b) a.M b.M a.R b.R = M.wOf a b * M.part (N * M.mOf a.M b.M) (256 + M.least a.R b.R) (256 * M.nOf a.M b.M) := by
  unfold M.kickOf; rw [if_pos h]
theorem kick_any (s N m m' R R' n n' : Int) (hs : s = 1 ∨ s = -1) (hN : -33554432 ≤ N ∧ N ≤ 33554432) (hm : -81 ≤ m ∧ m ≤ 81) (e1 : m' = m) (e2 : 256 * n' = n) (e3 : R' = R) :
    Value.int .i64 (wrap64 (s * M.part (wrap64 (N * m)) (256 + R) n)) = Value.int .i64 (s * M.part (N * m') (256 + R') (256 * n')) := by
  have hq := M.mul_bd N m 33554432 81 (by omega) (by omega) (by omega) (by omega)
  have hp := M.part_bd (N * m) (256 + R) n
  rw [e1, e2, e3, IntWalk.wrap64_in (N * m) (by omega), IntWalk.wrap64_in _ (by rcases hs with rfl | rfl <;> omega)]
theorem two_rows3 (a b : M.Row) (w : World) (o : Obj) (n : Nat) : TwoRows a b ((w.alloc o).drewN n) (.pointer (some ⟨w.heap.size + 1, 0, none⟩)) (.pointer (some ⟨w.heap.size + 1 + 1, 0, none⟩)) ((((w.alloc o).drewN (n + 1)).alloc (.cells (rowC a) 27)).alloc (.cells (rowC b) 27)) := by
  have h := two_rows1 a b ((w.alloc o).drewN n)
  simp at h ⊢
  exact h
theorem two_rows4 (a b : M.Row) (w : World) (o : Obj) (n : Nat) : TwoRows a b ((w.alloc o).drewN n) (.pointer (some ⟨w.heap.size + 1 + 1, 0, none⟩)) (.pointer (some ⟨w.heap.size + 1, 0, none⟩)) ((((w.alloc o).drewN (n + 1)).alloc (.cells (rowC b) 27)).alloc (.cells (rowC a) 27)) := by
  have h := two_rows2 a b ((w.alloc o).drewN n)
  simp at h ⊢
  exact h
/-- the two rows behind they were moved -/
def M.movedA (a b : M.Row) : M.Row :=
  let g := -M.halfOf (M.dOf a b) a.M b.M * M.wOf a b
  let j := -M.kickOf (M.vOf a b * M.wOf a b) (M.wOf a b) a.M b.M a.R b.R
  if M.depth a.W b.W a.X b.X < M.depth a.H b.H a.Y b.Y then { a with X := M.add a.X g 1048576, PX := M.add a.PX j 16777216 } else { a with Y := M.add a.Y g 1048576, PY := M.add a.PY j 16777216 }
def M.movedB (a b : M.Row) : M.Row :=
  let g := (M.dOf a b - M.halfOf (M.dOf a b) a.M b.M) * M.wOf a b
  let j := M.kickOf (M.vOf a b * M.wOf a b) (M.wOf a b) a.M b.M a.R b.R
  if M.depth a.W b.W a.X b.X < M.depth a.H b.H a.Y b.Y then { b with X := M.add b.X g 1048576, PX := M.add b.PX j 16777216 } else { b with Y := M.add b.Y g 1048576, PY := M.add b.PY j 16777216 }
def Moved (bx bz : Nat) (ra rb : M.Row) (w0 wc W : World) : Prop :=
  Blk W bx 27 (rowC ra) ∧ Blk W bz 27 (rowC rb) ∧ Below w0.heap.size w0 W ∧ (∀ b o, b ≠ bx → b ≠ bz → W.cell? ⟨b, o, none⟩ = wc.cell? ⟨b, o, none⟩) ∧ (∀ b o, b ≠ bx → b ≠ bz → W.frozen? ⟨b, o, none⟩ = wc.frozen? ⟨b, o, none⟩)
theorem put_all (ra r : M.Row) : ((((((((rowC ra).setIfInBounds 0 (.int .i64 r.X)).setIfInBounds 1 (.int .i64 r.Y)).setIfInBounds 2 (.int .i64 r.PX)).setIfInBounds 3 (.int .i64 r.PY)).setIfInBounds 4 (.int .i64 r.W)).setIfInBounds 5 (.int .i64 r.H)).setIfInBounds 6 (.int .i64 r.M)).setIfInBounds 7 (.int .i64 r.R) = rowC r := by
  simp [rowC]
theorem blk_puts {w : World} {g : Nat} {t : TypeId} {ra : M.Row} (h : Blk w g t (rowC ra)) (r : M.Row) : Blk ((((((((w.setCell ⟨g, 0, none⟩ (.int .i64 r.X)).setCell ⟨g, 1, none⟩ (.int .i64 r.Y)).setCell ⟨g, 2, none⟩ (.int .i64 r.PX)).setCell ⟨g, 3, none⟩ (.int .i64 r.PY)).setCell ⟨g, 4, none⟩ (.int .i64 r.W)).setCell ⟨g, 5, none⟩ (.int .i64 r.H)).setCell ⟨g, 6, none⟩ (.int .i64 r.M)).setCell ⟨g, 7, none⟩ (.int .i64 r.R)) g t (rowC r) := by
  have k := (((((((h.put 0 (.int .i64 r.X)).put 1 (.int .i64 r.Y)).put 2 (.int .i64 r.PX)).put 3 (.int .i64 r.PY)).put 4 (.int .i64 r.W)).put 5 (.int .i64 r.H)).put 6 (.int .i64 r.M)).put 7 (.int .i64 r.R)
  rw [put_all] at k
  exact k
theorem blk_fars {w : World} {g b : Nat} {t : TypeId} {cs : Array Value} (h : Blk w g t cs) (hne : g ≠ b) (r : M.Row) : Blk ((((((((w.setCell ⟨b, 0, none⟩ (.int .i64 r.X)).setCell ⟨b, 1, none⟩ (.int .i64 r.Y)).setCell ⟨b, 2, none⟩ (.int .i64 r.PX)).setCell ⟨b, 3, none⟩ (.int .i64 r.PY)).setCell ⟨b, 4, none⟩ (.int .i64 r.W)).setCell ⟨b, 5, none⟩ (.int .i64 r.H)).setCell ⟨b, 6, none⟩ (.int .i64 r.M)).setCell ⟨b, 7, none⟩ (.int .i64 r.R)) g t cs := by
  have f : ∀ (u : World) (i : Nat) (v : Value), Blk u g t cs → Blk (u.setCell ⟨b, i, none⟩ v) g t cs := fun u i v hu => hu.far hne v
  exact f _ _ _ (f _ _ _ (f _ _ _ (f _ _ _ (f _ _ _ (f _ _ _ (f _ _ _ (f _ _ _ h)))))))
theorem below_puts {w0 w : World} {B b : Nat} (h : Below B w0 w) (hb : B ≤ b) (r : M.Row) : Below B w0 ((((((((w.setCell ⟨b, 0, none⟩ (.int .i64 r.X)).setCell ⟨b, 1, none⟩ (.int .i64 r.Y)).setCell ⟨b, 2, none⟩ (.int .i64 r.PX)).setCell ⟨b, 3, none⟩ (.int .i64 r.PY)).setCell ⟨b, 4, none⟩ (.int .i64 r.W)).setCell ⟨b, 5, none⟩ (.int .i64 r.H)).setCell ⟨b, 6, none⟩ (.int .i64 r.M)).setCell ⟨b, 7, none⟩ (.int .i64 r.R)) := by
  have f : ∀ (u : World) (i : Nat) (v : Value), Below B w0 u → Below B w0 (u.setCell ⟨b, i, none⟩ v) := fun u i v hu => hu.setCell hb v
  exact f _ _ _ (f _ _ _ (f _ _ _ (f _ _ _ (f _ _ _ (f _ _ _ (f _ _ _ (f _ _ _ h)))))))
theorem moved_put1 {bx bz : Nat} {ra rb : M.Row} {w0 wc W : World} (h : Moved bx bz ra rb w0 wc W) (hb : w0.heap.size ≤ bx) (hne : bz ≠ bx) (r : M.Row) : Moved bx bz r rb w0 wc ((((((((W.setCell ⟨bx, 0, none⟩ (.int .i64 r.X)).setCell ⟨bx, 1, none⟩ (.int .i64 r.Y)).setCell ⟨bx, 2, none⟩ (.int .i64 r.PX)).setCell ⟨bx, 3, none⟩ (.int .i64 r.PY)).setCell ⟨bx, 4, none⟩ (.int .i64 r.W)).setCell ⟨bx, 5, none⟩ (.int .i64 r.H)).setCell ⟨bx, 6, none⟩ (.int .i64 r.M)).setCell ⟨bx, 7, none⟩ (.int .i64 r.R)) := by
  obtain ⟨h1, h2, h3, h4, h5⟩ := h
  refine ⟨?_, ?_, ?_, ?_, ?_⟩
  · exact blk_puts h1 r
  · exact blk_fars h2 hne r
  · exact below_puts h3 hb r
  · intro c o hx hz
    have e : ∀ (u : World) (i : Nat) (v : Value), (u.setCell ⟨bx, i, none⟩ v).cell? ⟨c, o, none⟩ = u.cell? ⟨c, o, none⟩ := fun u i v => World.cell?_setCell_other _ _ _ _ (fun e => by injection e; omega)
    rw [e, e, e, e, e, e, e, e]
    exact h4 c o hx hz
  · intro c o hx hz
    simp only [World.frozen?_setCell]
    exact h5 c o hx hz
theorem moved_put2 {bx bz : Nat} {ra rb : M.Row} {w0 wc W : World} (h : Moved bx bz ra rb w0 wc W) (hb : w0.heap.size ≤ bz) (hne : bx ≠ bz) (r : M.Row) : Moved bx bz ra r w0 wc ((((((((W.setCell ⟨bz, 0, none⟩ (.int .i64 r.X)).setCell ⟨bz, 1, none⟩ (.int .i64 r.Y)).setCell ⟨bz, 2, none⟩ (.int .i64 r.PX)).setCell ⟨bz, 3, none⟩ (.int .i64 r.PY)).setCell ⟨bz, 4, none⟩ (.int .i64 r.W)).setCell ⟨bz, 5, none⟩ (.int .i64 r.H)).setCell ⟨bz, 6, none⟩ (.int .i64 r.M)).setCell ⟨bz, 7, none⟩ (.int .i64 r.R)) := by
  obtain ⟨h1, h2, h3, h4, h5⟩ := h
  refine ⟨?_, ?_, ?_, ?_, ?_⟩
  · exact blk_fars h1 hne r
  · exact blk_puts h2 r
  · exact below_puts h3 hb r
  · intro c o hx hz
    have e : ∀ (u : World) (i : Nat) (v : Value), (u.setCell ⟨bz, i, none⟩ v).cell? ⟨c, o, none⟩ = u.cell? ⟨c, o, none⟩ := fun u i v => World.cell?_setCell_other _ _ _ _ (fun e => by injection e; omega)
    rw [e, e, e, e, e, e, e, e]
    exact h4 c o hx hz
  · intro c o hx hz
    simp only [World.frozen?_setCell]
    exact h5 c o hx hz
def M.half0 (d bM : Int) : Int := if bM ≤ 0 then d else d / 2
def Far (d n wy : Int) (w5 : World) (D N : Value) (W : World) : Prop := D = .int .i64 d ∧ N = .int .i64 n ∧ W = w5.alloc (.cells #[.int .i64 wy] 3)
def OnlyWay (wy : Int) (w5 W : World) : Prop := W = w5.alloc (.cells #[.int .i64 wy] 3)
/-- slot 17 behind the test on near: what is passed on; the world has drawn at most -/
def JIs (J : Int) (W0 : World) (j : Value) (W : World) : Prop := j = .int .i64 J ∧ ∃ n, W = W0.drewN n
def Num (J : Int) (W0 : World) (j : Value) (W : World) : Prop := j = .int .i64 J ∧ W = W0
theorem drewN_twice (w : World) (n m : Nat) : (w.drewN n).drewN m = w.drewN (n + m) := by rw [World.drewN_drewN]
theorem val_int {a b : Int} (h : a = b) : Value.int .i64 a = Value.int .i64 b := by rw [h]
theorem far_x {a b : M.Row} {w5 : World} {s : Int} (h7 : M.depth a.W b.W a.X b.X < M.depth a.H b.H a.Y b.Y) (hs : M.wayOf a.X b.X = s) :
    Far (M.dOf a b) (M.vOf a b) (M.wOf a b) w5 (.int .i64 (M.depth a.W b.W a.X b.X)) (.int .i64 (M.part a.PX 1 a.M - M.part b.PX 1 b.M)) (w5.alloc (.cells #[.int .i64 s] 3)) := by
  subst hs
  refine ⟨?_, ?_, ?_⟩
  · unfold M.dOf; rw [if_pos h7]
  · unfold M.vOf; rw [if_pos h7]
  · unfold M.wOf; rw [if_pos h7]
theorem far_y {a b : M.Row} {w5 : World} (h7 : ¬ M.depth a.W b.W a.X b.X < M.depth a.H b.H a.Y b.Y) :
    Far (M.dOf a b) (M.vOf a b) (M.wOf a b) w5 (.int .i64 (M.depth a.H b.H a.Y b.Y)) (.int .i64 (M.part a.PY 1 a.M - M.part b.PY 1 b.M)) (w5.alloc (.cells #[.int .i64 (M.wayOf a.Y b.Y)] 3)) := by
  refine ⟨?_, ?_, ?_⟩
  · unfold M.dOf; rw [if_neg h7]
  · unfold M.vOf; rw [if_neg h7]
  · unfold M.wOf; rw [if_neg h7]

theorem add_zero_mid (q m : Int) (h : -m ≤ q ∧ q ≤ m) (hm : 0 ≤ m ∧ m ≤ 1099511627776) : M.add q 0 m = q := by
  unfold M.add
  rw [M.capped_id m hm.1 hm.2, M.within_id q m h.1 h.2, M.within_id 0 m (by omega) (by omega), Int.add_zero, M.within_id q m h.1 h.2]
theorem meetR_A (a b : M.Row) : M.body a = true → 0 < a.M → (M.meetR a b).1 = M.movedA a b := by
  intro h1 ha
  obtain ⟨⟨fa1, fa2, fa3, fa4⟩, fa5, fa6, fa7, fa8, fa9, fa10, fa11⟩ := body_facts h1
  have z1 := add_zero_mid a.PX 16777216 fa3 (by omega)
  have z2 := add_zero_mid a.PY 16777216 fa4 (by omega)
  unfold M.meetR M.movedA
  by_cases h7 : M.depth a.W b.W a.X b.X < M.depth a.H b.H a.Y b.Y
  · simp only [h7, if_true, M.meetX, M.dOf, M.vOf, M.wOf, M.pa, M.qa, ha, and_true, kick_is]
    by_cases hn : 0 < (M.part a.PX 1 a.M - M.part b.PX 1 b.M) * M.wayOf a.X b.X
    · simp only [hn, if_true]
    · simp only [hn, if_false, Int.neg_zero, z1]
  · simp only [h7, if_false, M.meetY, M.dOf, M.vOf, M.wOf, M.pa, M.qa, ha, and_true, kick_is, if_true]
    by_cases hn : 0 < (M.part a.PY 1 a.M - M.part b.PY 1 b.M) * M.wayOf a.Y b.Y
    · simp only [hn, if_true]
    · simp only [hn, if_false, Int.neg_zero, z2]
theorem meetR_B (a b : M.Row) : M.body b = true → 0 < b.M → (M.meetR a b).2 = M.movedB a b := by
  intro h1 hb
  obtain ⟨⟨fa1, fa2, fa3, fa4⟩, fa5, fa6, fa7, fa8, fa9, fa10, fa11⟩ := body_facts h1
  have z1 := add_zero_mid b.PX 16777216 fa3 (by omega)
  have z2 := add_zero_mid b.PY 16777216 fa4 (by omega)
  unfold M.meetR M.movedB
  by_cases h7 : M.depth a.W b.W a.X b.X < M.depth a.H b.H a.Y b.Y
  · simp only [h7, if_true, M.meetX, M.dOf, M.vOf, M.wOf, M.pb, M.qb, hb, and_true, kick_is]
    by_cases hn : 0 < (M.part a.PX 1 a.M - M.part b.PX 1 b.M) * M.wayOf a.X b.X
    · simp only [hn, if_true]
    · simp only [hn, if_false, z1]
  · simp only [h7, if_false, M.meetY, M.dOf, M.vOf, M.wOf, M.pb, M.qb, hb, and_true, kick_is, if_true]
    by_cases hn : 0 < (M.part a.PY 1 a.M - M.part b.PY 1 b.M) * M.wayOf a.Y b.Y
    · simp only [hn, if_true]
    · simp only [hn, if_false, z2]
theorem meetR_A0 (a b : M.Row) (ha : a.M ≤ 0) : (M.meetR a b).1 = a := by
  have h : ¬ 0 < a.M := by omega
  unfold M.meetR M.meetX M.meetY M.pa M.qa
  split <;> simp only [h, and_false, if_false]
theorem meetR_B0 (a b : M.Row) (hb : b.M ≤ 0) : (M.meetR a b).2 = b := by
  have h : ¬ 0 < b.M := by omega
  unfold M.meetR M.meetX M.meetY M.pb M.qb
  split <;> simp only [h, and_false, if_false]

theorem meet_finA (a b : M.Row) (h : M.body a = true) : (M.meetR a b).1 = backA a (moveA (decide (M.depth a.W b.W a.X b.X < M.depth a.H b.H a.Y b.Y)) a (-M.halfOf (M.dOf a b) a.M b.M) (M.wOf a b) (-M.kickOf (M.vOf a b * M.wOf a b) (M.wOf a b) a.M b.M a.R b.R)) := by
  obtain ⟨_, fa5, fa6, fa7, fa8, fa9, fa10, fa11⟩ := body_facts h
  unfold backA
  by_cases c : a.M = 0
  · rw [if_pos c]; exact meetR_A0 a b (by omega)
  · rw [if_neg c, meetR_A a b h (by omega)]
    unfold M.movedA moveA
    by_cases h7 : M.depth a.W b.W a.X b.X < M.depth a.H b.H a.Y b.Y <;> simp [h7]
theorem meet_finB (a b : M.Row) (h : M.body b = true) : (M.meetR a b).2 = backA b (moveA (decide (M.depth a.W b.W a.X b.X < M.depth a.H b.H a.Y b.Y)) b (M.dOf a b - M.halfOf (M.dOf a b) a.M b.M) (M.wOf a b) (M.kickOf (M.vOf a b * M.wOf a b) (M.wOf a b) a.M b.M a.R b.R)) := by
  obtain ⟨_, fa5, fa6, fa7, fa8, fa9, fa10, fa11⟩ := body_facts h
  unfold backA
  by_cases c : b.M = 0
  · rw [if_pos c]; exact meetR_B0 a b (by omega)
  · rw [if_neg c, meetR_B a b h (by omega)]
    unfold M.movedB moveA
    by_cases h7 : M.depth a.W b.W a.X b.X < M.depth a.H b.H a.Y b.Y <;> simp [h7]
set_option maxHeartbeats 60000000 in
set_option maxRecDepth 100000 in
theorem rmeet_move (a b : M.Row) (w : World) (h1 : M.body a = true) (h2 : M.body b = true) (h3 : 1 ≤ M.depth a.W b.W a.X b.X) (h4 : 1 ≤ M.depth a.H b.H a.Y b.Y) (h5 : 0 < a.M + b.M) :
    Calls Try.prog 25 #[rowV a, rowV b] w fun e w' => e = .returned (.tuple #[rowV (M.meetR a b).1, rowV (M.meetR a b).2, .bool true]) ∧ Below w.heap.size w w' := by
  rw [meet_finA a b h1, meet_finB a b h2]
  have HA := Lib.hid (fun W => isBody_yes a W h1)
  have HB := Lib.hid (fun W => isBody_yes b W h2)
  have HD := Lib.hid (fun W => depthOf_calls a b W (mid_of_body h1) (mid_of_body h2))
  obtain ⟨⟨fa1, fa2, fa3, fa4⟩, fa5, fa6, fa7, fa8, fa9, fa10, fa11⟩ := body_facts h1
  obtain ⟨⟨fb1, fb2, fb3, fb4⟩, fb5, fb6, fb7, fb8, fb9, fb10, fb11⟩ := body_facts h2
  have dh := depth_hi h1 h2
  have s1 := part1_bd a.PX a.M fa3
  have s2 := part1_bd b.PX b.M fb3
  have s3 := part1_bd a.PY a.M fa4
  have s4 := part1_bd b.PY b.M fb4
  have FH1 := Lib.hid h1
  have FH2 := Lib.hid h2
  have FA := Lib.hid fa11
  have FB := Lib.hid fb11
  clear fa11 fb11 h1 h2
  have hm := M.mul_bd a.M b.M 9 9 (by omega) (by omega) (by omega) (by omega)
  have hs : (a.M + b.M == 0) = false := by simp; omega
  have q1 : decide (M.depth a.W b.W a.X b.X ≤ 0) = false := by simp; omega
  have q2 : decide (M.depth a.H b.H a.Y b.Y ≤ 0) = false := by simp; omega
  obtain ⟨ac, hac⟩ : ∃ ac : Bool, decide (M.depth a.W b.W a.X b.X < M.depth a.H b.H a.Y b.Y) = ac := ⟨_, rfl⟩
  rw [hac]
  obtain ⟨RA, hRA⟩ : ∃ x, x = backA a (moveA ac a (-M.halfOf (M.dOf a b) a.M b.M) (M.wOf a b) (-M.kickOf (M.vOf a b * M.wOf a b) (M.wOf a b) a.M b.M a.R b.R)) := ⟨_, rfl⟩
  obtain ⟨RB, hRB⟩ : ∃ x, x = backA b (moveA ac b (M.dOf a b - M.halfOf (M.dOf a b) a.M b.M) (M.wOf a b) (M.kickOf (M.vOf a b * M.wOf a b) (M.wOf a b) a.M b.M a.R b.R)) := ⟨_, rfl⟩
  rw [← hRA, ← hRB]
  have HRA := Lib.hid hRA
  have HRB := Lib.hid hRB
  clear hRA hRB
  go_enter Try.func25, Try.ntmps25
  go_upto_if 78 with (first | (go_at_call 27; with_reducible refine (HA.out _).mono ?_; rintro e w1 ⟨rfl, hb1⟩; obtain ⟨hc1, hf1⟩ := bcell hb1; have hz1 := hb1.size; (try simp at hz1); have f1_0 : w.heap.size < w1.heap.size := (by omega); have g1_0 : w.heap.size < w.heap.size + 1 + 1 + 1 + 1 := (by omega); have f1_1 : w.heap.size + 1 < w1.heap.size := (by omega); have g1_1 : w.heap.size + 1 < w.heap.size + 1 + 1 + 1 + 1 := (by omega); have f1_2 : w.heap.size + 1 + 1 < w1.heap.size := (by omega); have g1_2 : w.heap.size + 1 + 1 < w.heap.size + 1 + 1 + 1 + 1 := (by omega); have f1_3 : w.heap.size + 1 + 1 + 1 < w1.heap.size := (by omega); have g1_3 : w.heap.size + 1 + 1 + 1 < w.heap.size + 1 + 1 + 1 + 1 := (by omega)) | (go_at_call 27; with_reducible refine (HB.out _).mono ?_; rintro e w2 ⟨rfl, hb2⟩; obtain ⟨hc2, hf2⟩ := bcell hb2; have hz2 := hb2.size; (try simp at hz2); have f2_0 : w.heap.size < w2.heap.size := (by omega); have f2_1 : w.heap.size + 1 < w2.heap.size := (by omega); have f2_2 : w.heap.size + 1 + 1 < w2.heap.size := (by omega); have f2_3 : w.heap.size + 1 + 1 + 1 < w2.heap.size := (by omega)) | (go_at_call 30; refine (HD.out _).mono ?_; rintro e w3 ⟨rfl, hb3⟩; obtain ⟨hc3, hf3⟩ := bcell hb3; have hz3 := hb3.size; (try simp at hz3); have f3_0 : w.heap.size < w3.heap.size := (by omega); have f3_1 : w.heap.size + 1 < w3.heap.size := (by omega); have f3_2 : w.heap.size + 1 + 1 < w3.heap.size := (by omega); have f3_3 : w.heap.size + 1 + 1 + 1 < w3.heap.size := (by omega)) | (go_at_call 23; with_reducible refine (speedOf_calls a _).mono ?_; rintro e w4 ⟨rfl, hb4⟩; obtain ⟨hc4, hf4⟩ := bcell hb4; have hz4 := hb4.size; (try simp at hz4); have f4_0 : w.heap.size < w4.heap.size := (by omega); have f4_1 : w.heap.size + 1 < w4.heap.size := (by omega); have f4_2 : w.heap.size + 1 + 1 < w4.heap.size := (by omega); have f4_3 : w.heap.size + 1 + 1 + 1 < w4.heap.size := (by omega)) | (go_at_call 23; with_reducible refine (speedOf_calls b _).mono ?_; rintro e w5 ⟨rfl, hb5⟩; obtain ⟨hc5, hf5⟩ := bcell hb5; have hz5 := hb5.size; (try simp at hz5); have f5_0 : w.heap.size < w5.heap.size := (by omega); have f5_1 : w.heap.size + 1 < w5.heap.size := (by omega); have f5_2 : w.heap.size + 1 + 1 < w5.heap.size := (by omega); have f5_3 : w.heap.size + 1 + 1 + 1 < w5.heap.size := (by omega)))
  go_cut [] (fun W => OnlyWay (M.wayOf a.Y b.Y) w5 W)
  case first =>
    by_cases h8 : b.Y < a.Y
    · go_wp2_with fail
      go_meet
      show _ = _
      unfold M.wayOf; rw [if_pos h8]
    · go_wp2_with fail
      go_meet
      show _ = _
      unfold M.wayOf; rw [if_neg (by omega)]
  case rest =>
    obtain rfl : wc = w5.alloc (.cells #[.int .i64 (M.wayOf a.Y b.Y)] 3) := hcut
    go_upto_if 79 with fail
    go_cut [14, 15] (fun D N W => Far (M.dOf a b) (M.vOf a b) (M.wOf a b) w5 D N W)
    case first =>
      rcases ac with _ | _
      rotate_left
      · have h7 : M.depth a.W b.W a.X b.X < M.depth a.H b.H a.Y b.Y := by simpa using hac
        by_cases h8 : b.X < a.X
        · go_wp2_with fail
          go_meet
          exact far_x (by omega) (by unfold M.wayOf; rw [if_pos (by omega)])
        · go_wp2_with fail
          go_meet
          exact far_x (by omega) (by unfold M.wayOf; rw [if_neg (by omega)])
      · have h7 : M.depth a.H b.H a.Y b.Y ≤ M.depth a.W b.W a.X b.X := by simpa using hac
        go_wp2_with fail
        go_meet
        exact far_y (by omega)
    case rest =>
      obtain ⟨rfl, rfl, rfl⟩ := hcut
      have hd : 1 ≤ M.dOf a b ∧ M.dOf a b ≤ 8192 := by unfold M.dOf; split <;> omega
      have hv : -33554432 ≤ M.vOf a b ∧ M.vOf a b ≤ 33554432 := by unfold M.vOf; split <;> omega
      have hw := wOf_pm a b
      have hv1 := mul_pm hv hw
      have hw1 : -1 ≤ M.wOf a b ∧ M.wOf a b ≤ 1 := by omega
      have HW := Lib.hid hw
      clear hw
      go_upto_if 93 with fail
      have HN : ∃ N, N = M.vOf a b * M.wOf a b := ⟨_, rfl⟩
      obtain ⟨N, hN⟩ := HN
      rw [← hN] at hv1
      rw [← hN]
      have HN := Lib.hid hN
      clear hN
      go_cut [17] (fun j W => JIs (M.kickOf N (M.wOf a b) a.M b.M a.R b.R) (w5.alloc (.cells #[.int .i64 (M.wOf a b)] 3)) j W)
      case first =>
        by_cases h9 : 0 < N
        · have HK := Lib.hid (kick_pos a b N h9)
          by_cases c111 : 0 < a.M ∧ 0 < b.M ∧ b.R < a.R
          · obtain ⟨m1, m2, m3⟩ := c111
            have q5 : (a.M * b.M == 0) = false := by have h := Int.mul_pos m1 m2; simp; omega
            go_wp2_with fail
            go_quiet (fail)
            go_wp2_with fail
            go_quiet ((go_at_call 20; first | exact quiet_left (partOf_calls _ _ _ _) | exact quiet_add_left (partOf_calls _ _ _ _)))
            go_wp2_with fail
            go_meet
            refine ⟨?_, _, by first | rfl | exact drewN_twice _ _ _⟩
            rw [HK.out]
            exact kick_any _ _ _ _ _ _ _ _ HW.out hv1 (by omega) (by unfold M.mOf; rw [if_neg (by omega), if_neg (by omega)]) (by unfold M.nOf; rw [if_neg (by omega), if_neg (by omega)]) (by unfold M.least; rw [if_pos (by omega)])
          by_cases c110 : 0 < a.M ∧ 0 < b.M ∧ a.R ≤ b.R
          · obtain ⟨m1, m2, m3⟩ := c110
            have q5 : (a.M * b.M == 0) = false := by have h := Int.mul_pos m1 m2; simp; omega
            go_wp2_with fail
            go_quiet (fail)
            go_wp2_with fail
            go_quiet ((go_at_call 20; first | exact quiet_left (partOf_calls _ _ _ _) | exact quiet_add_left (partOf_calls _ _ _ _)))
            go_wp2_with fail
            go_meet
            refine ⟨?_, _, by first | rfl | exact drewN_twice _ _ _⟩
            rw [HK.out]
            exact kick_any _ _ _ _ _ _ _ _ HW.out hv1 (by omega) (by unfold M.mOf; rw [if_neg (by omega), if_neg (by omega)]) (by unfold M.nOf; rw [if_neg (by omega), if_neg (by omega)]) (by unfold M.least; rw [if_neg (by omega)])
          by_cases c101 : 0 < a.M ∧ b.M ≤ 0 ∧ b.R < a.R
          · obtain ⟨m1, m2, m3⟩ := c101
            have q5 : (a.M * b.M == 0) = true := by rw [show b.M = 0 by omega]; simp
            go_wp2_with fail
            go_quiet (fail)
            go_wp2_with fail
            go_quiet ((go_at_call 20; first | exact quiet_left (partOf_calls _ _ _ _) | exact quiet_add_left (partOf_calls _ _ _ _)))
            go_wp2_with fail
            go_meet
            refine ⟨?_, _, by first | rfl | exact drewN_twice _ _ _⟩
            rw [HK.out]
            exact kick_any _ _ _ _ _ _ _ _ HW.out hv1 (by omega) (by unfold M.mOf; rw [if_neg (by omega), if_pos (by omega)]; omega) (by unfold M.nOf; rw [if_neg (by omega), if_pos (by omega)]; rfl) (by unfold M.least; rw [if_pos (by omega)])
          by_cases c100 : 0 < a.M ∧ b.M ≤ 0 ∧ a.R ≤ b.R
          · obtain ⟨m1, m2, m3⟩ := c100
            have q5 : (a.M * b.M == 0) = true := by rw [show b.M = 0 by omega]; simp
            go_wp2_with fail
            go_quiet (fail)
            go_wp2_with fail
            go_quiet ((go_at_call 20; first | exact quiet_left (partOf_calls _ _ _ _) | exact quiet_add_left (partOf_calls _ _ _ _)))
            go_wp2_with fail
            go_meet
            refine ⟨?_, _, by first | rfl | exact drewN_twice _ _ _⟩
            rw [HK.out]
            exact kick_any _ _ _ _ _ _ _ _ HW.out hv1 (by omega) (by unfold M.mOf; rw [if_neg (by omega), if_pos (by omega)]; omega) (by unfold M.nOf; rw [if_neg (by omega), if_pos (by omega)]; rfl) (by unfold M.least; rw [if_neg (by omega)])
          by_cases c011 : a.M ≤ 0 ∧ 0 < b.M ∧ b.R < a.R
          · obtain ⟨m1, m2, m3⟩ := c011
            have q5 : (a.M * b.M == 0) = true := by rw [show a.M = 0 by omega]; simp
            go_wp2_with fail
            go_quiet (fail)
            go_wp2_with fail
            go_quiet ((go_at_call 20; first | exact quiet_left (partOf_calls _ _ _ _) | exact quiet_add_left (partOf_calls _ _ _ _)))
            go_wp2_with fail
            go_meet
            refine ⟨?_, _, by first | rfl | exact drewN_twice _ _ _⟩
            rw [HK.out]
            exact kick_any _ _ _ _ _ _ _ _ HW.out hv1 (by omega) (by unfold M.mOf; rw [if_pos (by omega)]; omega) (by unfold M.nOf; rw [if_pos (by omega)]; rfl) (by unfold M.least; rw [if_pos (by omega)])
          by_cases c010 : a.M ≤ 0 ∧ 0 < b.M ∧ a.R ≤ b.R
          · obtain ⟨m1, m2, m3⟩ := c010
            have q5 : (a.M * b.M == 0) = true := by rw [show a.M = 0 by omega]; simp
            go_wp2_with fail
            go_quiet (fail)
            go_wp2_with fail
            go_quiet ((go_at_call 20; first | exact quiet_left (partOf_calls _ _ _ _) | exact quiet_add_left (partOf_calls _ _ _ _)))
            go_wp2_with fail
            go_meet
            refine ⟨?_, _, by first | rfl | exact drewN_twice _ _ _⟩
            rw [HK.out]
            exact kick_any _ _ _ _ _ _ _ _ HW.out hv1 (by omega) (by unfold M.mOf; rw [if_pos (by omega)]; omega) (by unfold M.nOf; rw [if_pos (by omega)]; rfl) (by unfold M.least; rw [if_neg (by omega)])
          omega
        · go_wp2_with fail
          go_meet
          exact ⟨val_int (by unfold M.kickOf; rw [if_neg (by omega)]), 0, rfl⟩
      case rest =>
        obtain ⟨rfl, n, rfl⟩ := hcut
        have hj : -72057594037927936 ≤ M.kickOf N (M.wOf a b) a.M b.M a.R b.R ∧ M.kickOf N (M.wOf a b) a.M b.M a.R b.R ≤ 72057594037927936 := by
          have hp := M.part_bd (N * M.mOf a.M b.M) (256 + M.least a.R b.R) (256 * M.nOf a.M b.M)
          unfold M.kickOf
          split
          · rcases HW.out with h | h <;> rw [h] <;> omega
          · omega
        have hN := HN.out
        subst hN
        have hRA := HRA.out
        have hRB := HRB.out
        subst hRA hRB
        refine (show ∀ (a : Act) (w : World), Code.wp _ _ _ a w → (_ : Act → World → Prop) a w by assumption) _ _ ?_
        exact rmeet_half (a := a) (b := b) (w := w) (gw := w5.heap.size) _ _ _ _ _ _ _ _ _ _ _ _ _ _ _ _ _ _ _ _ _ _ _ _ _ _ _ _ _ _ _ _ _ _ _ _ _ _ _ _ _ _ _ _ _ _ _ _ _ _ _ _ _ _ _ _ _ _ _ _ _ _ _ _ _ _ _ _ _ _ _ _ _ _ _ _ _ _ _ _ _ _ _ _ _ _ _ _ _ _ _ _ _ _ _ _ _ _ _ _ _ _ _ _ _ _ _ _ _ _ _ _ _ _ _ _ _ _ _ _ _ _ _ _ _ _ _ _ _ _ _ _ _ _ _ _ _ _ _ _ _ _ _ _ _ _ _ _ _ _ _ _ _ _ _ _ _ _ _ _ _ _ _ _ _ _ _ _ _ _ _ (by repeat first | apply Blk.new_at (h := (by first | omega | (simp; done) | (simp; omega))) | with_reducible apply Blk.drewN | with_reducible apply Blk.drew | with_reducible apply Blk.alloc | with_reducible refine Blk.below ?_ hb5 (by first | omega | (simp; done) | (simp; omega)) | with_reducible refine Blk.below ?_ hb4 (by first | omega | (simp; done) | (simp; omega)) | with_reducible refine Blk.below ?_ hb3 (by first | omega | (simp; done) | (simp; omega)) | with_reducible refine Blk.below ?_ hb2 (by first | omega | (simp; done) | (simp; omega)) | with_reducible refine Blk.below ?_ hb1 (by first | omega | (simp; done) | (simp; omega))) (by repeat first | apply Blk.new_at (h := (by first | omega | (simp; done) | (simp; omega))) | with_reducible apply Blk.drewN | with_reducible apply Blk.drew | with_reducible apply Blk.alloc | with_reducible refine Blk.below ?_ hb5 (by first | omega | (simp; done) | (simp; omega)) | with_reducible refine Blk.below ?_ hb4 (by first | omega | (simp; done) | (simp; omega)) | with_reducible refine Blk.below ?_ hb3 (by first | omega | (simp; done) | (simp; omega)) | with_reducible refine Blk.below ?_ hb2 (by first | omega | (simp; done) | (simp; omega)) | with_reducible refine Blk.below ?_ hb1 (by first | omega | (simp; done) | (simp; omega))) ⟨⟨0, 0, 0, 0, 0, 0, 0, 0⟩, (by repeat first | apply Blk.new_at (h := (by first | omega | (simp; done) | (simp; omega))) | with_reducible apply Blk.drewN | with_reducible apply Blk.drew | with_reducible apply Blk.alloc | with_reducible refine Blk.below ?_ hb5 (by first | omega | (simp; done) | (simp; omega)) | with_reducible refine Blk.below ?_ hb4 (by first | omega | (simp; done) | (simp; omega)) | with_reducible refine Blk.below ?_ hb3 (by first | omega | (simp; done) | (simp; omega)) | with_reducible refine Blk.below ?_ hb2 (by first | omega | (simp; done) | (simp; omega)) | with_reducible refine Blk.below ?_ hb1 (by first | omega | (simp; done) | (simp; omega)))⟩ ⟨⟨0, 0, 0, 0, 0, 0, 0, 0⟩, (by repeat first | apply Blk.new_at (h := (by first | omega | (simp; done) | (simp; omega))) | with_reducible apply Blk.drewN | with_reducible apply Blk.drew | with_reducible apply Blk.alloc | with_reducible refine Blk.below ?_ hb5 (by first | omega | (simp; done) | (simp; omega)) | with_reducible refine Blk.below ?_ hb4 (by first | omega | (simp; done) | (simp; omega)) | with_reducible refine Blk.below ?_ hb3 (by first | omega | (simp; done) | (simp; omega)) | with_reducible refine Blk.below ?_ hb2 (by first | omega | (simp; done) | (simp; omega)) | with_reducible refine Blk.below ?_ hb1 (by first | omega | (simp; done) | (simp; omega)))⟩ (((((((((((Below.refl _ w).alloc (by first | exact Nat.le_refl _ | omega | (simp; done) | (simp; omega)) _).alloc (by first | exact Nat.le_refl _ | omega | (simp; done) | (simp; omega)) _).alloc (by first | exact Nat.le_refl _ | omega | (simp; done) | (simp; omega)) _).alloc (by first | exact Nat.le_refl _ | omega | (simp; done) | (simp; omega)) _).trans (hb1.mono (by first | omega | (simp; done) | (simp; omega)))).trans (hb2.mono (by first | omega | (simp; done) | (simp; omega)))).trans (hb3.mono (by first | omega | (simp; done) | (simp; omega)))).trans (hb4.mono (by first | omega | (simp; done) | (simp; omega)))).trans (hb5.mono (by first | omega | (simp; done) | (simp; omega)))).alloc (by omega) _ |> (below_drewN · n)) (by simp) (by omega) (by simp) hd (by omega) (by omega) h5 HW.out hj

theorem meetRows_calls (a b : M.Row) (w : World) :
    Calls Try.prog 25 #[rowV a, rowV b] w fun e w' => e = .returned (.tuple #[rowV (M.meet a b).1, rowV (M.meet a b).2, .bool (M.meets a b)]) ∧ Below w.heap.size w w' := by
  have bad : M.meets a b = false → M.meet a b = (a, b) := fun h => by unfold M.meet; rw [if_pos h]
  by_cases h1 : M.body a = true
  · by_cases h2 : M.body b = true
    · by_cases h3 : M.depth a.W b.W a.X b.X < 1
      · have m : M.meets a b = false := by unfold M.meets; simp [h1, h2]; omega
        rw [m, bad m]; exact rmeet_bad3 a b w h1 h2 h3
      · by_cases h4 : M.depth a.H b.H a.Y b.Y < 1
        · have m : M.meets a b = false := by unfold M.meets; simp [h1, h2]; omega
          rw [m, bad m]; exact rmeet_bad4 a b w h1 h2 (by omega) h4
        · have m : M.meets a b = true := by unfold M.meets; simp [h1, h2]; omega
          have f1 := body_facts h1
          have f2 := body_facts h2
          rw [m]
          by_cases h5 : 0 < a.M + b.M
          · have E : M.meet a b = M.meetR a b := by unfold M.meet; rw [if_neg (by rw [m]; decide), if_neg (by omega)]
            rw [E]; exact rmeet_move a b w h1 h2 (by omega) (by omega) h5
          · have E : M.meet a b = (a, b) := by unfold M.meet; rw [if_neg (by rw [m]; decide), if_pos (by omega)]
            rw [E]; exact rmeet_fixed a b w h1 h2 (by omega) (by omega) (by omega) (by omega)
    · have h2' : M.body b = false := by simpa using h2
      have m : M.meets a b = false := by unfold M.meets; simp [h1, h2']
      rw [m, bad m]; exact rmeet_bad2 a b w h1 h2'
  · have h1' : M.body a = false := by simpa using h1
    have m : M.meets a b = false := by unfold M.meets; simp [h1']
    rw [m, bad m]; exact rmeet_bad1 a b w h1'
end Go.Proofs.Ytkpecagkpjabdaa
