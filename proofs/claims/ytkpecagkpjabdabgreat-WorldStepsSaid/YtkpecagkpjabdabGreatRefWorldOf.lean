/- The contract of the document's WorldOf: the world of a store's world, and whether it is one. Condition: the store lies in memory. -/
import Derived.Test.YtkpecagkpjabdabGreatBagM3
import Derived.Test.YtkpecagkpjabdabGreatBagWo
import Derived.Test.YtkpecagkpjabdabGreatBagM8
namespace Go.Proofs.YtkpecagkpjabdabGreat
open Go.RowKit
set_option linter.unusedVariables false
set_option linter.unusedSimpArgs false
set_option maxRecDepth 100000
set_option maxHeartbeats 8000000 in
set_option maxRecDepth 100000 in
theorem worldOf_calls {w : World} {lo : Nat} {vt : Value} {d : M.Wd} (h : StoreAt w lo (.agg #[vt, .int .i64 d.things.next]) d.things) (hin : StoreIn d.things) (hsz : Sized d.things) :
    Calls Tryz.prog 19 #[wdV vt d] w fun e w' => ∃ m, e = .returned (.tuple #[.agg #[.map m, .int .i64 d.things.next, .int .i64 d.fall, .int .i64 d.wide, .int .i64 d.high], .bool (M.goodW d)]) ∧
      (M.good d.things = true → ∃ b, m = some b ∧ w.heap.size ≤ b ∧ MapA w' b (M.look (M.entries d.things)) (M.size d.things)) ∧ Below w.heap.size w w' := by
  have HT := Lib.hid (fun W (hb : Below w.heap.size w W) => thingsOf_calls (h.below hb) hin hsz)
  obtain ⟨s, fall, wide, high⟩ := d
  simp only at HT
  obtain ⟨g, hg⟩ : ∃ g, g = M.good s := ⟨_, rfl⟩
  have hgw : M.goodW ⟨s, fall, wide, high⟩ = (g && (M.inB fall (-64) 64 && (M.inB wide 1 1048576 && M.inB high 1 1048576))) := by
    unfold M.goodW M.inB
    simp only [← hg]
    cases g <;> simp [Bool.decide_and]
  rw [hgw]
  simp only
  rw [← hg] at HT ⊢
  have HB := Lib.hid (fun n lo hi W => inB_calls n lo hi W)
  obtain ⟨b1, e1⟩ : ∃ b, M.inB fall (-64) 64 = b := ⟨_, rfl⟩
  obtain ⟨b2, e2⟩ : ∃ b, M.inB wide 1 1048576 = b := ⟨_, rfl⟩
  obtain ⟨b3, e3⟩ : ∃ b, M.inB high 1 1048576 = b := ⟨_, rfl⟩
  rw [e1, e2, e3]
  have C1 := Lib.hid e1
  have C2 := Lib.hid e2
  have C3 := Lib.hid e3
  clear e1 e2 e3 hgw hg h hin hsz
  go_enter Tryz.func19, Tryz.ntmps19
  go_upto_region 2 with (go_at_call 46; go_loud (refine (HT.out _ bel9).mono ?_; rintro e w1 ⟨m, rfl, hm, hb1⟩; have HM := Lib.hid hm; have kz1 := hb1.size; (try simp at kz1); have K1 : Below w.heap.size w w1 := (show Below w.heap.size w _ from bel9).trans (hb1.mono sid9); have b0 : Blk w1 w.heap.size 41 (#[vt, .int .i64 s.next, .int .i64 fall, .int .i64 wide, .int .i64 high]) := Blk.below ((Blk.new_at rfl).alloc _) hb1 sid9; have c0 : Blk w1 (w.heap.size + 1) 57 #[.map none, .int .i64 0, .int .i64 0, .int .i64 0, .int .i64 0] := Blk.below (Blk.new_at (by simp)) hb1 sid9; clear hm))
  clear hb1
  have B0 := Lib.hid b0
  have C0 := Lib.hid c0
  have lc0 := c0.lt
  clear b0 c0
  refine DG.wp_named (fun A hA => ?_)
  show Code.wp Tryz.prog wofC _ _ _
  rw [wofC_is]
  refine wp_region_any (by kernel_rfl) ?_
  rw [wofOps_size]
  show wpAny _ _ _ _ _ _ _ w1.drew
  refine wof_region (m := m) (q0 := g) (q1 := b1) (q2 := b2) (q3 := b3) (p1 := w.heap.size) (p2 := w.heap.size + 1) (vt := vt) (nx := s.next) (fa := fall) (wi := wide) (hi := high) (W0 := w1.drew) ⟨by rw [hA]; rfl, by rw [hA]; rfl, by rw [hA]; rfl, by rw [hA]; rfl, by omega, (fun W => by rw [← C1.out]; exact inB_calls _ _ _ W), (fun W => by rw [← C2.out]; exact inB_calls _ _ _ W), (fun W => by rw [← C3.out]; exact inB_calls _ _ _ W)⟩ (by rw [hA]; rfl) (by rw [hA]) () (by unfold wofMem; exact ⟨B0.out.drew, by rw [if_neg (by simp)]; exact C0.out.drew, FarO.refl _ _⟩) ?_
  intro _ ll W9 hll hmm
  unfold wofMem at hmm
  rw [if_pos (hll 27 (by decide))] at hmm
  obtain ⟨_, hb9, hf9⟩ := hmm
  rw [hA]
  simp only [wofVal, List.getD_cons_zero, List.getD_cons_succ]
  simp only [DG.setQ, List.setIfInBounds_toArray, List.set_cons_zero, List.set_cons_succ]
  clear hA A hll
  have hf1 : FarO (w.heap.size + 1) w1 W9 := hf9
  have y0 := hb9.cell 0
  have y1 := hb9.cell 1
  have y2 := hb9.cell 2
  have y3 := hb9.cell 3
  have y4 := hb9.cell 4
  simp at y0 y1 y2 y3 y4
  have lb9 := hb9.lt
  go_wp2_with fail
  refine bodyPost_ret (v := .tuple #[.agg #[.map m, .int .i64 s.next, .int .i64 fall, .int .i64 wide, .int .i64 high], .bool (((g && b1) && b2) && b3)]) ?_ rfl ⟨m, by simp only [Bool.and_assoc], fun hgt => ?_, ?_⟩
  · simp only [results, Tryz.results19]
    go_simp
  · obtain ⟨b, rfl, hb, hma⟩ := HM.out hgt
    have hb2 : w.heap.size + 1 + 1 ≤ b := by simpa using hb
    exact ⟨b, rfl, by omega, hma.block (hf1.1 b (by omega))⟩
  · exact K1.trans (hf1.below (by omega))
end Go.Proofs.YtkpecagkpjabdabGreat
