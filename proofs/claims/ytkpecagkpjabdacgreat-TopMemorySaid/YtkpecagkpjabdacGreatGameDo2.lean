/- The contract of Do for acts that give, take or kick. Condition: the game lies in memory and is good. -/
import Derived.Test.YtkpecagkpjabdacGreatBagH
import Derived.Test.YtkpecagkpjabdacGreatBagD2
import Derived.Test.YtkpecagkpjabdacGreatBagP
namespace Go.Proofs.YtkpecagkpjabdacGreat
open Go.RowKit
set_option linter.unusedVariables false
set_option linter.unusedSimpArgs false
set_option maxRecDepth 100000
set_option maxHeartbeats 8000000 in
set_option maxRecDepth 100000 in
theorem do_give {w : World} {Q : Nat → Prop} {g : Nat} {G : M.Game} {a : Option Addr} {c : Nat} {sv : Value} {hs : List Value} (h : GameAt w Q g G a c sv hs) (hq : ∀ b, Q b → b < w.heap.size) (hG : M.GoodG G) (kind id n mask : Int) (row : M.Row) (box : M.Box) (hk : kind = 3) (h0 : 0 ≤ G.acts) (hlt : G.acts < 150) (hx : ActIn ⟨kind, id, n, mask, row, box⟩) :
    Calls Tryz.prog 15 #[.pointer (some ⟨g, 0, none⟩), actV ⟨kind, id, n, mask, row, box⟩] w (DoPost Q w g (M.doAct G ⟨kind, id, n, mask, row, box⟩).1 (M.doAct G ⟨kind, id, n, mask, row, box⟩).2) := by
  subst hk
  obtain ⟨y, code, hyc⟩ : ∃ y c, M.changeG G.w.things ⟨3, id, n, mask, row, box⟩ = (y, c) := ⟨_, _, rfl⟩
  rw [M.doAct_change hlt (.inl rfl)]
  rw [show M.changeG G.w.things ⟨3, id, n, mask, row, box⟩ = (y, code) from hyc]
  have HG0 := Lib.hid h
  have HQ := Lib.hid hq
  have g0 := h.blk.cell 0
  have g1 := h.blk.cell 1
  have g6 := h.blk.cell 6
  have gf := fun i => h.blk.free i
  have lg := h.blk.lt
  simp at g0 g1 g6
  have nl1 : ¬ g = w.heap.size := by omega
  have nl2 : ¬ w.heap.size = g := by omega
  have nl3 : ¬ g = w.heap.size + 1 := by omega
  have nl4 : ¬ w.heap.size + 1 = g := by omega
  clear h hq
  go_enter Tryz.func15, Tryz.ntmps15
  go_upto_region 9 with (fail)
  refine wp_called (fun W2 hW2 => ?_)
  have b3 : Blk W2 (w.heap.size) 27 (actC ⟨3, id, n, mask, row, box⟩) := by
    rw [hW2]
    apply blk_to
    · repeat first | with_reducible exact HG0.out.blk | with_reducible apply Blk.put | with_reducible exact Blk.new_at (h := (by first | rfl | (simp; done) | (simp [World.setCell]; done) | omega)) | with_reducible apply Blk.alloc | with_reducible apply Blk.far (hp := (by first | assumption | omega | (simp; omega)))
    · rfl
  have b4 : Blk W2 (w.heap.size + 1) 40 (#[.int .i64 0, .int .i64 0, .slice none 0 0, .slice none 0 0]) := by
    rw [hW2]
    apply blk_to
    · repeat first | with_reducible exact HG0.out.blk | with_reducible apply Blk.put | with_reducible exact Blk.new_at (h := (by first | rfl | (simp; done) | (simp [World.setCell]; done) | omega)) | with_reducible apply Blk.alloc | with_reducible apply Blk.far (hp := (by first | assumption | omega | (simp; omega)))
    · rfl
  have b7 : Blk W2 (w.heap.size + 2) 31 (#[.slice a G.w.things.tables.length c, .int .i64 G.w.things.next]) := by
    rw [hW2]
    apply blk_to
    · repeat first | with_reducible exact HG0.out.blk | with_reducible apply Blk.put | with_reducible exact Blk.new_at (h := (by first | rfl | (simp; done) | (simp [World.setCell]; done) | omega)) | with_reducible apply Blk.alloc | with_reducible apply Blk.far (hp := (by first | assumption | omega | (simp; omega)))
    · rfl
  have bg : Blk W2 (g) 85 (gameC (.slice a G.w.things.tables.length c) sv (more G)) := by
    rw [hW2]
    apply blk_to
    · repeat first | with_reducible exact HG0.out.blk | with_reducible apply Blk.put | with_reducible exact Blk.new_at (h := (by first | rfl | (simp; done) | (simp [World.setCell]; done) | omega)) | with_reducible apply Blk.alloc | with_reducible apply Blk.far (hp := (by first | assumption | omega | (simp; omega)))
    · rfl
  have HZ2 : Hid (W2.heap.size = w.heap.size + 3) := Lib.hid (by rw [hW2]; simp [World.setCell])
  have hz2 : w.heap.size + 2 < W2.heap.size := by have := HZ2.out; omega
  have hB2 : ∀ b, b < w.heap.size → b ≠ g → W2.heap[b]? = w.heap[b]? := by
    intro b h1 h2
    rw [hW2]
    exact (Below.heap_alloc _ _ b (by simp [World.setCell]; omega)).trans ((Below.heap_alloc _ _ b (by simp [World.setCell]; omega)).trans ((Below.heap_alloc _ _ b (by simp [World.setCell]; omega)).trans (Below.heap_setCell _ _ _ b h2)))
  have HO2 : Hid (Only Q w W2) := Lib.hid (by
    rw [hW2]
    exact ((((Only.refl Q w).setCell (.inl HG0.out.inQ) _).alloc _).alloc _).alloc _)
  have HG2 : Hid (GameAt W2 (QD Q w) g (more G) a c sv hs) := Lib.hid ((HG0.out.wide (R := QD Q w) (fun b h1 k => ⟨.inl k, by omega⟩)).upd (by omega) (fun b h1 _ h3 => hB2 b h1 h3) bg rfl (((HG0.out.wide (R := QD Q w) (fun b h1 k => ⟨.inl k, by omega⟩)).st).step (by omega) (fun b h1 k => hB2 b h1 k.2.1)))
  have HNQ : Hid (∀ b, W2.heap.size ≤ b → QD Q w b) := Lib.hid (fun b hb => ⟨.inr (by omega), by omega⟩)
  have x0 := b3.cell 0
  have x1 := b3.cell 1
  have x2 := b3.cell 2
  have x3 := b3.cell 3
  have x4 := b3.cell 4
  have x5 := b3.cell 5
  have x6 := b3.cell 6
  have x7 := b3.cell 7
  have x8 := b3.cell 8
  have x9 := b3.cell 9
  have x10 := b3.cell 10
  have x11 := b3.cell 11
  have x12 := b3.cell 12
  have x13 := b3.cell 13
  have x14 := b3.cell 14
  have x15 := b3.cell 15
  have x16 := b3.cell 16
  simp at x0 x1 x2 x3 x4 x5 x6 x7 x8 x9 x10 x11 x12 x13 x14 x15 x16
  have s0 := b7.cell 0
  have s1 := b7.cell 1
  have y0 := b4.cell 0
  have y1 := b4.cell 1
  have y2 := b4.cell 2
  have y3 := b4.cell 3
  have yf := fun i => b4.free i
  have gw0 := bg.cell 0
  have gw1 := bg.cell 1
  have gw2 := bg.cell 2
  have gw3 := bg.cell 3
  have gw4 := bg.cell 4
  have gw5 := bg.cell 5
  have gw6 := bg.cell 6
  have gff := fun i => bg.free i
  have l2g := bg.lt
  have l23 := b3.lt
  have l24 := b4.lt
  have l27 := b7.lt
  simp at s0 s1 y0 y1 y2 y3 gw0 gw1 gw2 gw3 gw4 gw5 gw6
  have HB3 := Lib.hid b3
  have HB4 := Lib.hid b4
  have HB7 := Lib.hid b7
  have HBG := Lib.hid bg
  have HIN := Lib.hid (good_in hG.w.things)
  clear hW2 hB2 b3 b4 b7 bg g0 g1 g6 gf
  have HMID := Lib.hid (gchange_calls (HG2.out.wide (R := fun b => QD Q w b ∧ b < W2.heap.size) (fun b h1 k => ⟨k, h1⟩)) (fun b k => k.2) ⟨hG.w, hG.saves⟩ ⟨3, id, n, mask, row, box⟩ hx)
  rw [show M.changeG (more G).w.things ⟨3, id, n, mask, row, box⟩ = (y, code) from hyc] at HMID
  simp only at HMID
  clear hyc hx hG
  go_wp2_with (first | (go_at_call 35; go_loud (refine (HMID.out).mono ?_; rintro e w5 ⟨a5, c5, sv5, hs5, rfl, hg5, ho5⟩; have HG3 := Lib.hid (hg5.wide (R := QD Q w) (fun b _ k => k.elim (fun k => k.1) (fun k => ⟨.inr (by omega), by omega⟩))); have HO3 := Lib.hid (ho5.inner HO2.out); have l34 : w.heap.size + 1 < w5.heap.size := Nat.lt_of_lt_of_le l24 ho5.size; have b43 : Blk w5 (w.heap.size + 1) 40 #[.int .i64 0, .int .i64 0, .slice none 0 0, .slice none 0 0] := (ho5.block _ l24 (fun k => k.1.2 rfl)).trans HB4.out; have HB43 := Lib.hid b43; have y0 := b43.cell 0; have y1 := b43.cell 1; have y2 := b43.cell 2; have y3 := b43.cell 3; have yf := (fun i => b43.free i); simp at y0 y1 y2 y3; clear hg5 ho5 b43)) | (go_at_call 32; go_loud (refine (no_calls _ _).mono ?_; rintro e w6 ⟨rfl, rfl⟩)))
  refine bodyPost_ret (results_cell_row rfl _ _ _ _ _ _ _ rfl ((Below.heap_alloc _ _ _ (by simp [World.setCell]; omega)).trans (reply_blk HB43.out _ _ _ _)) Tryz.underlying40 rfl (by kernel_rfl)) rfl ?_
  refine DoPost.more ?_ ((Below.refl _ _).alloc (Nat.le_refl _) _)
  unfold DoPost
  exact do_end (U := w5) HG3.out HO3.out l34 (Below.refl _ _) (M.no code) (ids := .slice none 0 0) (met := .slice none 0 0) (i0 := undef) (m0 := undef) (World.ownsRow_nil _ _ _ _) (World.ownsRow_nil _ _ _ _) (fun b e => by cases e) (fun b e => by cases e) HQ.out _ _ _ _
set_option maxHeartbeats 8000000 in
set_option maxRecDepth 100000 in
theorem do_take {w : World} {Q : Nat → Prop} {g : Nat} {G : M.Game} {a : Option Addr} {c : Nat} {sv : Value} {hs : List Value} (h : GameAt w Q g G a c sv hs) (hq : ∀ b, Q b → b < w.heap.size) (hG : M.GoodG G) (kind id n mask : Int) (row : M.Row) (box : M.Box) (hk : kind = 4) (h0 : 0 ≤ G.acts) (hlt : G.acts < 150) (hx : ActIn ⟨kind, id, n, mask, row, box⟩) :
    Calls Tryz.prog 15 #[.pointer (some ⟨g, 0, none⟩), actV ⟨kind, id, n, mask, row, box⟩] w (DoPost Q w g (M.doAct G ⟨kind, id, n, mask, row, box⟩).1 (M.doAct G ⟨kind, id, n, mask, row, box⟩).2) := by
  subst hk
  obtain ⟨y, code, hyc⟩ : ∃ y c, M.changeG G.w.things ⟨4, id, n, mask, row, box⟩ = (y, c) := ⟨_, _, rfl⟩
  rw [M.doAct_change hlt (.inr rfl)]
  rw [show M.changeG G.w.things ⟨4, id, n, mask, row, box⟩ = (y, code) from hyc]
  have HG0 := Lib.hid h
  have HQ := Lib.hid hq
  have g0 := h.blk.cell 0
  have g1 := h.blk.cell 1
  have g6 := h.blk.cell 6
  have gf := fun i => h.blk.free i
  have lg := h.blk.lt
  simp at g0 g1 g6
  have nl1 : ¬ g = w.heap.size := by omega
  have nl2 : ¬ w.heap.size = g := by omega
  have nl3 : ¬ g = w.heap.size + 1 := by omega
  have nl4 : ¬ w.heap.size + 1 = g := by omega
  clear h hq
  go_enter Tryz.func15, Tryz.ntmps15
  go_upto_region 9 with (fail)
  refine wp_called (fun W2 hW2 => ?_)
  have b3 : Blk W2 (w.heap.size) 27 (actC ⟨4, id, n, mask, row, box⟩) := by
    rw [hW2]
    apply blk_to
    · repeat first | with_reducible exact HG0.out.blk | with_reducible apply Blk.put | with_reducible exact Blk.new_at (h := (by first | rfl | (simp; done) | (simp [World.setCell]; done) | omega)) | with_reducible apply Blk.alloc | with_reducible apply Blk.far (hp := (by first | assumption | omega | (simp; omega)))
    · rfl
  have b4 : Blk W2 (w.heap.size + 1) 40 (#[.int .i64 0, .int .i64 0, .slice none 0 0, .slice none 0 0]) := by
    rw [hW2]
    apply blk_to
    · repeat first | with_reducible exact HG0.out.blk | with_reducible apply Blk.put | with_reducible exact Blk.new_at (h := (by first | rfl | (simp; done) | (simp [World.setCell]; done) | omega)) | with_reducible apply Blk.alloc | with_reducible apply Blk.far (hp := (by first | assumption | omega | (simp; omega)))
    · rfl
  have b7 : Blk W2 (w.heap.size + 2) 31 (#[.slice a G.w.things.tables.length c, .int .i64 G.w.things.next]) := by
    rw [hW2]
    apply blk_to
    · repeat first | with_reducible exact HG0.out.blk | with_reducible apply Blk.put | with_reducible exact Blk.new_at (h := (by first | rfl | (simp; done) | (simp [World.setCell]; done) | omega)) | with_reducible apply Blk.alloc | with_reducible apply Blk.far (hp := (by first | assumption | omega | (simp; omega)))
    · rfl
  have bg : Blk W2 (g) 85 (gameC (.slice a G.w.things.tables.length c) sv (more G)) := by
    rw [hW2]
    apply blk_to
    · repeat first | with_reducible exact HG0.out.blk | with_reducible apply Blk.put | with_reducible exact Blk.new_at (h := (by first | rfl | (simp; done) | (simp [World.setCell]; done) | omega)) | with_reducible apply Blk.alloc | with_reducible apply Blk.far (hp := (by first | assumption | omega | (simp; omega)))
    · rfl
  have HZ2 : Hid (W2.heap.size = w.heap.size + 3) := Lib.hid (by rw [hW2]; simp [World.setCell])
  have hz2 : w.heap.size + 2 < W2.heap.size := by have := HZ2.out; omega
  have hB2 : ∀ b, b < w.heap.size → b ≠ g → W2.heap[b]? = w.heap[b]? := by
    intro b h1 h2
    rw [hW2]
    exact (Below.heap_alloc _ _ b (by simp [World.setCell]; omega)).trans ((Below.heap_alloc _ _ b (by simp [World.setCell]; omega)).trans ((Below.heap_alloc _ _ b (by simp [World.setCell]; omega)).trans (Below.heap_setCell _ _ _ b h2)))
  have HO2 : Hid (Only Q w W2) := Lib.hid (by
    rw [hW2]
    exact ((((Only.refl Q w).setCell (.inl HG0.out.inQ) _).alloc _).alloc _).alloc _)
  have HG2 : Hid (GameAt W2 (QD Q w) g (more G) a c sv hs) := Lib.hid ((HG0.out.wide (R := QD Q w) (fun b h1 k => ⟨.inl k, by omega⟩)).upd (by omega) (fun b h1 _ h3 => hB2 b h1 h3) bg rfl (((HG0.out.wide (R := QD Q w) (fun b h1 k => ⟨.inl k, by omega⟩)).st).step (by omega) (fun b h1 k => hB2 b h1 k.2.1)))
  have HNQ : Hid (∀ b, W2.heap.size ≤ b → QD Q w b) := Lib.hid (fun b hb => ⟨.inr (by omega), by omega⟩)
  have x0 := b3.cell 0
  have x1 := b3.cell 1
  have x2 := b3.cell 2
  have x3 := b3.cell 3
  have x4 := b3.cell 4
  have x5 := b3.cell 5
  have x6 := b3.cell 6
  have x7 := b3.cell 7
  have x8 := b3.cell 8
  have x9 := b3.cell 9
  have x10 := b3.cell 10
  have x11 := b3.cell 11
  have x12 := b3.cell 12
  have x13 := b3.cell 13
  have x14 := b3.cell 14
  have x15 := b3.cell 15
  have x16 := b3.cell 16
  simp at x0 x1 x2 x3 x4 x5 x6 x7 x8 x9 x10 x11 x12 x13 x14 x15 x16
  have s0 := b7.cell 0
  have s1 := b7.cell 1
  have y0 := b4.cell 0
  have y1 := b4.cell 1
  have y2 := b4.cell 2
  have y3 := b4.cell 3
  have yf := fun i => b4.free i
  have gw0 := bg.cell 0
  have gw1 := bg.cell 1
  have gw2 := bg.cell 2
  have gw3 := bg.cell 3
  have gw4 := bg.cell 4
  have gw5 := bg.cell 5
  have gw6 := bg.cell 6
  have gff := fun i => bg.free i
  have l2g := bg.lt
  have l23 := b3.lt
  have l24 := b4.lt
  have l27 := b7.lt
  simp at s0 s1 y0 y1 y2 y3 gw0 gw1 gw2 gw3 gw4 gw5 gw6
  have HB3 := Lib.hid b3
  have HB4 := Lib.hid b4
  have HB7 := Lib.hid b7
  have HBG := Lib.hid bg
  have HIN := Lib.hid (good_in hG.w.things)
  clear hW2 hB2 b3 b4 b7 bg g0 g1 g6 gf
  have HMID := Lib.hid (gchange_calls (HG2.out.wide (R := fun b => QD Q w b ∧ b < W2.heap.size) (fun b h1 k => ⟨k, h1⟩)) (fun b k => k.2) ⟨hG.w, hG.saves⟩ ⟨4, id, n, mask, row, box⟩ hx)
  rw [show M.changeG (more G).w.things ⟨4, id, n, mask, row, box⟩ = (y, code) from hyc] at HMID
  simp only at HMID
  clear hyc hx hG
  go_wp2_with (first | (go_at_call 35; go_loud (refine (HMID.out).mono ?_; rintro e w5 ⟨a5, c5, sv5, hs5, rfl, hg5, ho5⟩; have HG3 := Lib.hid (hg5.wide (R := QD Q w) (fun b _ k => k.elim (fun k => k.1) (fun k => ⟨.inr (by omega), by omega⟩))); have HO3 := Lib.hid (ho5.inner HO2.out); have l34 : w.heap.size + 1 < w5.heap.size := Nat.lt_of_lt_of_le l24 ho5.size; have b43 : Blk w5 (w.heap.size + 1) 40 #[.int .i64 0, .int .i64 0, .slice none 0 0, .slice none 0 0] := (ho5.block _ l24 (fun k => k.1.2 rfl)).trans HB4.out; have HB43 := Lib.hid b43; have y0 := b43.cell 0; have y1 := b43.cell 1; have y2 := b43.cell 2; have y3 := b43.cell 3; have yf := (fun i => b43.free i); simp at y0 y1 y2 y3; clear hg5 ho5 b43)) | (go_at_call 32; go_loud (refine (no_calls _ _).mono ?_; rintro e w6 ⟨rfl, rfl⟩)))
  refine bodyPost_ret (results_cell_row rfl _ _ _ _ _ _ _ rfl ((Below.heap_alloc _ _ _ (by simp [World.setCell]; omega)).trans (reply_blk HB43.out _ _ _ _)) Tryz.underlying40 rfl (by kernel_rfl)) rfl ?_
  refine DoPost.more ?_ ((Below.refl _ _).alloc (Nat.le_refl _) _)
  unfold DoPost
  exact do_end (U := w5) HG3.out HO3.out l34 (Below.refl _ _) (M.no code) (ids := .slice none 0 0) (met := .slice none 0 0) (i0 := undef) (m0 := undef) (World.ownsRow_nil _ _ _ _) (World.ownsRow_nil _ _ _ _) (fun b e => by cases e) (fun b e => by cases e) HQ.out _ _ _ _
set_option maxHeartbeats 8000000 in
set_option maxRecDepth 100000 in
theorem do_kick {w : World} {Q : Nat → Prop} {g : Nat} {G : M.Game} {a : Option Addr} {c : Nat} {sv : Value} {hs : List Value} (h : GameAt w Q g G a c sv hs) (hq : ∀ b, Q b → b < w.heap.size) (hG : M.GoodG G) (kind id n mask : Int) (row : M.Row) (box : M.Box) (hk : kind = 5) (h0 : 0 ≤ G.acts) (hlt : G.acts < 150) (hx : ActIn ⟨kind, id, n, mask, row, box⟩) :
    Calls Tryz.prog 15 #[.pointer (some ⟨g, 0, none⟩), actV ⟨kind, id, n, mask, row, box⟩] w (DoPost Q w g (M.doAct G ⟨kind, id, n, mask, row, box⟩).1 (M.doAct G ⟨kind, id, n, mask, row, box⟩).2) := by
  subst hk
  obtain ⟨y, code, hyc⟩ : ∃ y c, M.kickG G.w.things ⟨5, id, n, mask, row, box⟩ = (y, c) := ⟨_, _, rfl⟩
  rw [M.doAct_kick hlt rfl]
  rw [show M.kickG G.w.things ⟨5, id, n, mask, row, box⟩ = (y, code) from hyc]
  have HG0 := Lib.hid h
  have HQ := Lib.hid hq
  have g0 := h.blk.cell 0
  have g1 := h.blk.cell 1
  have g6 := h.blk.cell 6
  have gf := fun i => h.blk.free i
  have lg := h.blk.lt
  simp at g0 g1 g6
  have nl1 : ¬ g = w.heap.size := by omega
  have nl2 : ¬ w.heap.size = g := by omega
  have nl3 : ¬ g = w.heap.size + 1 := by omega
  have nl4 : ¬ w.heap.size + 1 = g := by omega
  clear h hq
  go_enter Tryz.func15, Tryz.ntmps15
  go_upto_region 9 with (fail)
  refine wp_called (fun W2 hW2 => ?_)
  have b3 : Blk W2 (w.heap.size) 27 (actC ⟨5, id, n, mask, row, box⟩) := by
    rw [hW2]
    apply blk_to
    · repeat first | with_reducible exact HG0.out.blk | with_reducible apply Blk.put | with_reducible exact Blk.new_at (h := (by first | rfl | (simp; done) | (simp [World.setCell]; done) | omega)) | with_reducible apply Blk.alloc | with_reducible apply Blk.far (hp := (by first | assumption | omega | (simp; omega)))
    · rfl
  have b4 : Blk W2 (w.heap.size + 1) 40 (#[.int .i64 0, .int .i64 0, .slice none 0 0, .slice none 0 0]) := by
    rw [hW2]
    apply blk_to
    · repeat first | with_reducible exact HG0.out.blk | with_reducible apply Blk.put | with_reducible exact Blk.new_at (h := (by first | rfl | (simp; done) | (simp [World.setCell]; done) | omega)) | with_reducible apply Blk.alloc | with_reducible apply Blk.far (hp := (by first | assumption | omega | (simp; omega)))
    · rfl
  have b7 : Blk W2 (w.heap.size + 2) 31 (#[.slice a G.w.things.tables.length c, .int .i64 G.w.things.next]) := by
    rw [hW2]
    apply blk_to
    · repeat first | with_reducible exact HG0.out.blk | with_reducible apply Blk.put | with_reducible exact Blk.new_at (h := (by first | rfl | (simp; done) | (simp [World.setCell]; done) | omega)) | with_reducible apply Blk.alloc | with_reducible apply Blk.far (hp := (by first | assumption | omega | (simp; omega)))
    · rfl
  have bg : Blk W2 (g) 85 (gameC (.slice a G.w.things.tables.length c) sv (more G)) := by
    rw [hW2]
    apply blk_to
    · repeat first | with_reducible exact HG0.out.blk | with_reducible apply Blk.put | with_reducible exact Blk.new_at (h := (by first | rfl | (simp; done) | (simp [World.setCell]; done) | omega)) | with_reducible apply Blk.alloc | with_reducible apply Blk.far (hp := (by first | assumption | omega | (simp; omega)))
    · rfl
  have HZ2 : Hid (W2.heap.size = w.heap.size + 3) := Lib.hid (by rw [hW2]; simp [World.setCell])
  have hz2 : w.heap.size + 2 < W2.heap.size := by have := HZ2.out; omega
  have hB2 : ∀ b, b < w.heap.size → b ≠ g → W2.heap[b]? = w.heap[b]? := by
    intro b h1 h2
    rw [hW2]
    exact (Below.heap_alloc _ _ b (by simp [World.setCell]; omega)).trans ((Below.heap_alloc _ _ b (by simp [World.setCell]; omega)).trans ((Below.heap_alloc _ _ b (by simp [World.setCell]; omega)).trans (Below.heap_setCell _ _ _ b h2)))
  have HO2 : Hid (Only Q w W2) := Lib.hid (by
    rw [hW2]
    exact ((((Only.refl Q w).setCell (.inl HG0.out.inQ) _).alloc _).alloc _).alloc _)
  have HG2 : Hid (GameAt W2 (QD Q w) g (more G) a c sv hs) := Lib.hid ((HG0.out.wide (R := QD Q w) (fun b h1 k => ⟨.inl k, by omega⟩)).upd (by omega) (fun b h1 _ h3 => hB2 b h1 h3) bg rfl (((HG0.out.wide (R := QD Q w) (fun b h1 k => ⟨.inl k, by omega⟩)).st).step (by omega) (fun b h1 k => hB2 b h1 k.2.1)))
  have HNQ : Hid (∀ b, W2.heap.size ≤ b → QD Q w b) := Lib.hid (fun b hb => ⟨.inr (by omega), by omega⟩)
  have x0 := b3.cell 0
  have x1 := b3.cell 1
  have x2 := b3.cell 2
  have x3 := b3.cell 3
  have x4 := b3.cell 4
  have x5 := b3.cell 5
  have x6 := b3.cell 6
  have x7 := b3.cell 7
  have x8 := b3.cell 8
  have x9 := b3.cell 9
  have x10 := b3.cell 10
  have x11 := b3.cell 11
  have x12 := b3.cell 12
  have x13 := b3.cell 13
  have x14 := b3.cell 14
  have x15 := b3.cell 15
  have x16 := b3.cell 16
  simp at x0 x1 x2 x3 x4 x5 x6 x7 x8 x9 x10 x11 x12 x13 x14 x15 x16
  have s0 := b7.cell 0
  have s1 := b7.cell 1
  have y0 := b4.cell 0
  have y1 := b4.cell 1
  have y2 := b4.cell 2
  have y3 := b4.cell 3
  have yf := fun i => b4.free i
  have gw0 := bg.cell 0
  have gw1 := bg.cell 1
  have gw2 := bg.cell 2
  have gw3 := bg.cell 3
  have gw4 := bg.cell 4
  have gw5 := bg.cell 5
  have gw6 := bg.cell 6
  have gff := fun i => bg.free i
  have l2g := bg.lt
  have l23 := b3.lt
  have l24 := b4.lt
  have l27 := b7.lt
  simp at s0 s1 y0 y1 y2 y3 gw0 gw1 gw2 gw3 gw4 gw5 gw6
  have HB3 := Lib.hid b3
  have HB4 := Lib.hid b4
  have HB7 := Lib.hid b7
  have HBG := Lib.hid bg
  have HIN := Lib.hid (good_in hG.w.things)
  clear hW2 hB2 b3 b4 b7 bg g0 g1 g6 gf
  have HMID := Lib.hid (gkick_calls (HG2.out.wide (R := fun b => QD Q w b ∧ b < W2.heap.size) (fun b h1 k => ⟨k, h1⟩)) (fun b k => k.2) ⟨hG.w, hG.saves⟩ ⟨5, id, n, mask, row, box⟩ hx)
  rw [show M.kickG (more G).w.things ⟨5, id, n, mask, row, box⟩ = (y, code) from hyc] at HMID
  simp only at HMID
  clear hyc hx hG
  go_wp2_with (first | (go_at_call 36; go_loud (refine (HMID.out).mono ?_; rintro e w5 ⟨a5, c5, sv5, hs5, rfl, hg5, ho5⟩; have HG3 := Lib.hid (hg5.wide (R := QD Q w) (fun b _ k => k.elim (fun k => k.1) (fun k => ⟨.inr (by omega), by omega⟩))); have HO3 := Lib.hid (ho5.inner HO2.out); have l34 : w.heap.size + 1 < w5.heap.size := Nat.lt_of_lt_of_le l24 ho5.size; have b43 : Blk w5 (w.heap.size + 1) 40 #[.int .i64 0, .int .i64 0, .slice none 0 0, .slice none 0 0] := (ho5.block _ l24 (fun k => k.1.2 rfl)).trans HB4.out; have HB43 := Lib.hid b43; have y0 := b43.cell 0; have y1 := b43.cell 1; have y2 := b43.cell 2; have y3 := b43.cell 3; have yf := (fun i => b43.free i); simp at y0 y1 y2 y3; clear hg5 ho5 b43)) | (go_at_call 32; go_loud (refine (no_calls _ _).mono ?_; rintro e w6 ⟨rfl, rfl⟩)))
  refine bodyPost_ret (results_cell_row rfl _ _ _ _ _ _ _ rfl ((Below.heap_alloc _ _ _ (by simp [World.setCell]; omega)).trans (reply_blk HB43.out _ _ _ _)) Tryz.underlying40 rfl (by kernel_rfl)) rfl ?_
  refine DoPost.more ?_ ((Below.refl _ _).alloc (Nat.le_refl _) _)
  unfold DoPost
  exact do_end (U := w5) HG3.out HO3.out l34 (Below.refl _ _) (M.no code) (ids := .slice none 0 0) (met := .slice none 0 0) (i0 := undef) (m0 := undef) (World.ownsRow_nil _ _ _ _) (World.ownsRow_nil _ _ _ _) (fun b e => by cases e) (fun b e => by cases e) HQ.out _ _ _ _
end Go.Proofs.YtkpecagkpjabdacGreat
