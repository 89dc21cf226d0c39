/- The contracts of cmp.Or at two numbers and of the two orders of sweep.Pairs. No condition. -/
import Derived.Test.YtkpecagkpjabdabSweepMem
import Derived.Test.YtkpecagkpjabdabStoreOwned
import Derived.Test.YtkpecagkpjabdabKit
import Derived.Test.YtkpecagkpjabdabLaySweep
import Derived.Deep.LoopGhost
import Derived.StillTailTactics
import Derived.Deep.RegionHeld3
namespace Go.Proofs.Ytkpecagkpjabdab
open Go.RowKit Go.Sort
set_option linter.unusedVariables false
set_option linter.unusedSimpArgs false
set_option maxRecDepth 100000

def M.or2 (x y : Int) : Int := if x ≠ 0 then x else y
theorem or_calls (w : World) (g : Nat) (x y : Int) (h0 : w.cell? ⟨g, 0, none⟩ = some (.int .i64 x)) (h1 : w.cell? ⟨g, 1, none⟩ = some (.int .i64 y)) :
    Calls Try.prog 48 #[.slice (some ⟨g, 0, none⟩) 2 2] w fun e w' => e = .returned (.int .i64 (M.or2 x y)) ∧ w' = w := by
  go_enter Try.func48, Try.ntmps48
  go_wp2_with fail
  go_loopg [8] 2 (fun k i wr => wr = w ∧ ((k = 2 ∧ i = .int .i64 0) ∨ (k = 1 ∧ i = .int .i64 1 ∧ x = 0) ∨ (k = 0 ∧ i = .int .i64 2 ∧ x = 0 ∧ y = 0)))
  case atStart => exact ⟨rfl, .inl ⟨rfl, rfl⟩⟩
  case round =>
    obtain ⟨rfl, hr⟩ := hrel
    rcases hr with ⟨rfl, rfl⟩ | ⟨rfl, rfl, hx⟩ | ⟨rfl, rfl, hx, hy⟩
    · by_cases c : x = 0
      · have q : (x != 0) = false := by simpa using c
        have HC := Lib.hid c
        clear c
        go_wp2_with fail
        go_roundg 1
        case measure => omega
        case rel => exact ⟨rfl, .inr (.inl ⟨rfl, by go_num, HC.out⟩)⟩
      · have q : (x != 0) = true := by simpa using c
        go_wp2_with fail
        go_ret
        exact ⟨ret_int (by unfold M.or2; rw [if_pos c]), rfl⟩
    · have HX := Lib.hid hx
      clear hx
      by_cases c : y = 0
      · have q : (y != 0) = false := by simpa using c
        have HC := Lib.hid c
        clear c
        go_wp2_with fail
        go_roundg 0
        case measure => omega
        case rel => exact ⟨rfl, .inr (.inr ⟨rfl, by go_num, HX.out, HC.out⟩)⟩
      · have q : (y != 0) = true := by simpa using c
        go_wp2_with fail
        go_ret
        exact ⟨ret_int (by unfold M.or2; rw [if_neg (by simpa using HX.out)]), rfl⟩
    · have HX := Lib.hid hx
      have HY := Lib.hid hy
      clear hx hy
      go_wp2_with fail
      go_ret
      exact ⟨ret_int (by unfold M.or2; rw [if_neg (by simpa using HX.out), HY.out]), rfl⟩
theorem compare_calls (x y : Int) (w : World) : Calls Try.prog 49 #[.int .i64 x, .int .i64 y] w fun e w' => e = .returned (.int .i64 (Lib.compareInt x y)) ∧ w' = w := AnyG.cmp_Compare_int Try.cmpInt x y w
def M.cmpB (a b : M.Box) : Int := M.or2 (Lib.compareInt a.x1 b.x1) (Lib.compareInt a.id b.id)
def M.cmpP (p q : M.Pr) : Int := M.or2 (Lib.compareInt p.1 q.1) (Lib.compareInt p.2 q.2)
theorem grown_alloc {w W : World} (h : ∃ q os', W = grow (w.drewN q) os') (o : Obj) : ∃ q os', W.alloc o = grow (w.drewN q) os' := by
  obtain ⟨q, os', rfl⟩ := h
  exact ⟨q, os' ++ #[o], by rw [alloc_eq_grow, grow_grow]⟩
theorem grown_drew {w W : World} (h : ∃ q os', W = grow (w.drewN q) os') : ∃ q os', W.drew = grow (w.drewN q) os' := by
  obtain ⟨q, os', rfl⟩ := h
  exact ⟨q + 1, os', rfl⟩
theorem grown_refl (w : World) : ∃ q os', w = grow (w.drewN q) os' := ⟨0, #[], by rw [grow_empty]; rfl⟩
set_option maxHeartbeats 1000000 in
theorem cmpB_calls (a b : M.Box) (w : World) :
    Calls Try.prog 47 #[boxV a, boxV b] w fun e w' => e = .returned (.int .i64 (M.cmpB a b)) ∧ ∃ q os', w' = grow (w.drewN q) os' := by
  have HC1 := Lib.hid (fun W => compare_calls a.x1 b.x1 W)
  have HC2 := Lib.hid (fun W => compare_calls a.id b.id W)
  obtain ⟨c1, e1⟩ : ∃ c, c = Lib.compareInt a.x1 b.x1 := ⟨_, rfl⟩
  obtain ⟨c2, e2⟩ : ∃ c, c = Lib.compareInt a.id b.id := ⟨_, rfl⟩
  have hm : M.cmpB a b = M.or2 c1 c2 := by unfold M.cmpB; rw [e1, e2]
  rw [hm]
  rw [← e1] at HC1
  rw [← e2] at HC2
  clear e1 e2 hm
  go_enter Try.func47, Try.ntmps47
  go_wp2_with fail
  refine wp_called fun wq hwq => ?_
  have HG : Hid (∃ q os', wq.drew = grow (w.drewN q) os') := Lib.hid (by rw [hwq]; exact grown_drew (grown_alloc (grown_alloc (grown_refl w) _) _))
  have k00 : wq.cell? ⟨w.heap.size, 0, none⟩ = some (.int .i64 a.id) := by rw [hwq]; simp
  have k01 : wq.cell? ⟨w.heap.size, 1, none⟩ = some (.int .i64 a.x1) := by rw [hwq]; simp
  have k10 : wq.cell? ⟨w.heap.size + 1, 0, none⟩ = some (.int .i64 b.id) := by rw [hwq]; simp
  have k11 : wq.cell? ⟨w.heap.size + 1, 1, none⟩ = some (.int .i64 b.x1) := by rw [hwq]; simp
  clear hwq
  go_still_tail 10, (by kernel_rfl)
  refine wpStill_step (fun K hK => ?_)
  go_simp
  refine ⟨_, (HC1.out _).mono (fun e w' h => ⟨h.1, h.2⟩), hK _ ?_⟩
  clear hK K
  repeat still_step
  refine wpStill_step (fun K hK => ?_)
  go_simp
  refine ⟨_, (HC2.out _).mono (fun e w' h => ⟨h.1, h.2⟩), hK _ ?_⟩
  clear hK K
  repeat still_step
  refine wpStill_nil ?_
  change wpList _ _ _ _ _ wq.drew
  generalize wq.drew = W at HG ⊢
  go_wp2_with (go_at_call 48; refine (or_calls _ W.heap.size c1 c2 (by simp) (by simp)).mono ?_; rintro e w' ⟨rfl, rfl⟩)
  go_ret
  exact ⟨rfl, grown_alloc HG.out _⟩
set_option maxHeartbeats 1000000 in
theorem cmpP_calls (a b : M.Pr) (w : World) :
    Calls Try.prog 54 #[pairV a, pairV b] w fun e w' => e = .returned (.int .i64 (M.cmpP a b)) ∧ ∃ q os', w' = grow (w.drewN q) os' := by
  have HC1 := Lib.hid (fun W => compare_calls a.1 b.1 W)
  have HC2 := Lib.hid (fun W => compare_calls a.2 b.2 W)
  obtain ⟨c1, e1⟩ : ∃ c, c = Lib.compareInt a.1 b.1 := ⟨_, rfl⟩
  obtain ⟨c2, e2⟩ : ∃ c, c = Lib.compareInt a.2 b.2 := ⟨_, rfl⟩
  have hm : M.cmpP a b = M.or2 c1 c2 := by unfold M.cmpP; rw [e1, e2]
  rw [hm]
  rw [← e1] at HC1
  rw [← e2] at HC2
  clear e1 e2 hm
  go_enter Try.func54, Try.ntmps54
  go_wp2_with fail
  refine wp_called fun wq hwq => ?_
  have HG : Hid (∃ q os', wq.drew = grow (w.drewN q) os') := Lib.hid (by rw [hwq]; exact grown_drew (grown_alloc (grown_alloc (grown_refl w) _) _))
  have k00 : wq.cell? ⟨w.heap.size, 0, none⟩ = some (.int .i64 a.1) := by rw [hwq]; simp
  have k01 : wq.cell? ⟨w.heap.size, 1, none⟩ = some (.int .i64 a.2) := by rw [hwq]; simp
  have k10 : wq.cell? ⟨w.heap.size + 1, 0, none⟩ = some (.int .i64 b.1) := by rw [hwq]; simp
  have k11 : wq.cell? ⟨w.heap.size + 1, 1, none⟩ = some (.int .i64 b.2) := by rw [hwq]; simp
  clear hwq
  go_still_tail 10, (by kernel_rfl)
  refine wpStill_step (fun K hK => ?_)
  go_simp
  refine ⟨_, (HC1.out _).mono (fun e w' h => ⟨h.1, h.2⟩), hK _ ?_⟩
  clear hK K
  repeat still_step
  refine wpStill_step (fun K hK => ?_)
  go_simp
  refine ⟨_, (HC2.out _).mono (fun e w' h => ⟨h.1, h.2⟩), hK _ ?_⟩
  clear hK K
  repeat still_step
  refine wpStill_nil ?_
  change wpList _ _ _ _ _ wq.drew
  generalize wq.drew = W at HG ⊢
  go_wp2_with (go_at_call 48; refine (or_calls _ W.heap.size c1 c2 (by simp) (by simp)).mono ?_; rintro e w' ⟨rfl, rfl⟩)
  go_ret
  exact ⟨rfl, grown_alloc HG.out _⟩
end Go.Proofs.Ytkpecagkpjabdab
