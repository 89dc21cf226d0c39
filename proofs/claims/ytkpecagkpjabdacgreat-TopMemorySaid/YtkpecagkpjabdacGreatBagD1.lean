/- Several small texts in one. No condition of its own: each part says its own. -/
import Derived.Test.YtkpecagkpjabdacGreatBagH
import Derived.Test.YtkpecagkpjabdacGreatStoreSpawn
import Derived.Test.YtkpecagkpjabdacGreatBagT2
import Derived.Test.YtkpecagkpjabdacGreatBagP
import Derived.Test.YtkpecagkpjabdacGreatBagD0
/- The contract of Do for acts that spawn or kill, of no known kind, and behind the last one. Condition: the game lies in memory and is good. -/
namespace Go.Proofs.YtkpecagkpjabdacGreat
open Go.RowKit
set_option linter.unusedVariables false
set_option linter.unusedSimpArgs false
set_option maxRecDepth 100000
set_option maxHeartbeats 8000000 in
set_option maxRecDepth 100000 in
theorem do_spawn {w : World} {Q : Nat → Prop} {g : Nat} {G : M.Game} {a : Option Addr} {c : Nat} {sv : Value} {hs : List Value} (h : GameAt w Q g G a c sv hs) (hq : ∀ b, Q b → b < w.heap.size) (hG : M.GoodG G) (kind id n mask : Int) (row : M.Row) (box : M.Box) (hk : kind = 1) (h0 : 0 ≤ G.acts) (hlt : G.acts < 150) (hx : ActIn ⟨kind, id, n, mask, row, box⟩) :
    Calls Tryz.prog 15 #[.pointer (some ⟨g, 0, none⟩), actV ⟨kind, id, n, mask, row, box⟩] w (DoPost Q w g (M.doAct G ⟨kind, id, n, mask, row, box⟩).1 (M.doAct G ⟨kind, id, n, mask, row, box⟩).2) := by
  obtain ⟨y, nid, code, hsp⟩ : ∃ y i c, M.spawn G.w.things mask row = (y, i, c) := ⟨_, _, _, rfl⟩
  have hres : M.doAct G ⟨kind, id, n, mask, row, box⟩ = (M.withThings (more G) y, ⟨code, nid, [], []⟩) := by
    unfold M.doAct
    rw [if_neg (by omega)]
    simp only
    rw [if_pos hk, hsp]
  rw [hres]
  subst hk
  clear hres
  have HG0 := Lib.hid h
  have HQ := Lib.hid hq
  have g0 := h.blk.cell 0
  have g1 := h.blk.cell 1
  have g6 := h.blk.cell 6
  have gf := fun i => h.blk.free i
  have lg := h.blk.lt
  simp at g0 g1 g6
  have nl1 : ¬ g = w.heap.size := by omega
  have nl2 : ¬ w.heap.size = g := by omega
  have nl3 : ¬ g = w.heap.size + 1 := by omega
  have nl4 : ¬ w.heap.size + 1 = g := by omega
  clear h hq
  go_enter Tryz.func15, Tryz.ntmps15
  go_upto_region 9 with (fail)
  refine wp_called (fun W2 hW2 => ?_)
  have b3 : Blk W2 (w.heap.size) 27 (actC ⟨1, id, n, mask, row, box⟩) := by
    rw [hW2]
    apply blk_to
    · repeat first | with_reducible exact HG0.out.blk | with_reducible apply Blk.put | with_reducible exact Blk.new_at (h := (by first | rfl | (simp; done) | (simp [World.setCell]; done) | omega)) | with_reducible apply Blk.alloc | with_reducible apply Blk.far (hp := (by first | assumption | omega | (simp; omega)))
    · rfl
  have b4 : Blk W2 (w.heap.size + 1) 40 (#[.int .i64 0, .int .i64 0, .slice none 0 0, .slice none 0 0]) := by
    rw [hW2]
    apply blk_to
    · repeat first | with_reducible exact HG0.out.blk | with_reducible apply Blk.put | with_reducible exact Blk.new_at (h := (by first | rfl | (simp; done) | (simp [World.setCell]; done) | omega)) | with_reducible apply Blk.alloc | with_reducible apply Blk.far (hp := (by first | assumption | omega | (simp; omega)))
    · rfl
  have b7 : Blk W2 (w.heap.size + 2) 31 (#[.slice a G.w.things.tables.length c, .int .i64 G.w.things.next]) := by
    rw [hW2]
    apply blk_to
    · repeat first | with_reducible exact HG0.out.blk | with_reducible apply Blk.put | with_reducible exact Blk.new_at (h := (by first | rfl | (simp; done) | (simp [World.setCell]; done) | omega)) | with_reducible apply Blk.alloc | with_reducible apply Blk.far (hp := (by first | assumption | omega | (simp; omega)))
    · rfl
  have bg : Blk W2 (g) 85 (gameC (.slice a G.w.things.tables.length c) sv (more G)) := by
    rw [hW2]
    apply blk_to
    · repeat first | with_reducible exact HG0.out.blk | with_reducible apply Blk.put | with_reducible exact Blk.new_at (h := (by first | rfl | (simp; done) | (simp [World.setCell]; done) | omega)) | with_reducible apply Blk.alloc | with_reducible apply Blk.far (hp := (by first | assumption | omega | (simp; omega)))
    · rfl
  have HZ2 : Hid (W2.heap.size = w.heap.size + 3) := Lib.hid (by rw [hW2]; simp [World.setCell])
  have hz2 : w.heap.size + 2 < W2.heap.size := by have := HZ2.out; omega
  have hB2 : ∀ b, b < w.heap.size → b ≠ g → W2.heap[b]? = w.heap[b]? := by
    intro b h1 h2
    rw [hW2]
    exact (Below.heap_alloc _ _ b (by simp [World.setCell]; omega)).trans ((Below.heap_alloc _ _ b (by simp [World.setCell]; omega)).trans ((Below.heap_alloc _ _ b (by simp [World.setCell]; omega)).trans (Below.heap_setCell _ _ _ b h2)))
  have HO2 : Hid (Only Q w W2) := Lib.hid (by
    rw [hW2]
    exact ((((Only.refl Q w).setCell (.inl HG0.out.inQ) _).alloc _).alloc _).alloc _)
  have HG2 : Hid (GameAt W2 (QD Q w) g (more G) a c sv hs) := Lib.hid ((HG0.out.wide (R := QD Q w) (fun b h1 k => ⟨.inl k, by omega⟩)).upd (by omega) (fun b h1 _ h3 => hB2 b h1 h3) bg rfl (((HG0.out.wide (R := QD Q w) (fun b h1 k => ⟨.inl k, by omega⟩)).st).step (by omega) (fun b h1 k => hB2 b h1 k.2.1)))
  have HNQ : Hid (∀ b, W2.heap.size ≤ b → QD Q w b) := Lib.hid (fun b hb => ⟨.inr (by omega), by omega⟩)
  have x0 := b3.cell 0
  have x1 := b3.cell 1
  have x2 := b3.cell 2
  have x3 := b3.cell 3
  have x4 := b3.cell 4
  have x5 := b3.cell 5
  have x6 := b3.cell 6
  have x7 := b3.cell 7
  have x8 := b3.cell 8
  have x9 := b3.cell 9
  have x10 := b3.cell 10
  have x11 := b3.cell 11
  have x12 := b3.cell 12
  have x13 := b3.cell 13
  have x14 := b3.cell 14
  have x15 := b3.cell 15
  have x16 := b3.cell 16
  simp at x0 x1 x2 x3 x4 x5 x6 x7 x8 x9 x10 x11 x12 x13 x14 x15 x16
  have s0 := b7.cell 0
  have s1 := b7.cell 1
  have y0 := b4.cell 0
  have y1 := b4.cell 1
  have y2 := b4.cell 2
  have y3 := b4.cell 3
  have yf := fun i => b4.free i
  have gw0 := bg.cell 0
  have gw1 := bg.cell 1
  have gw2 := bg.cell 2
  have gw3 := bg.cell 3
  have gw4 := bg.cell 4
  have gw5 := bg.cell 5
  have gw6 := bg.cell 6
  have gff := fun i => bg.free i
  have l2g := bg.lt
  have l23 := b3.lt
  have l24 := b4.lt
  have l27 := b7.lt
  simp at s0 s1 y0 y1 y2 y3 gw0 gw1 gw2 gw3 gw4 gw5 gw6
  have HB3 := Lib.hid b3
  have HB4 := Lib.hid b4
  have HB7 := Lib.hid b7
  have HBG := Lib.hid bg
  have HIN := Lib.hid (good_in hG.w.things)
  clear hW2 hB2 b3 b4 b7 bg g0 g1 g6 gf
  have HSP := Lib.hid (fun U (hb : Below W2.heap.size W2 U) => spawn_calls (HG2.out.st.at_.below hb) HIN.out mask row)
  rw [show M.spawn (more G).w.things mask row = (y, nid, code) from hsp] at HSP
  simp only at HSP
  clear hsp hx hG
  go_upto_region 13 with (go_at_call 33; go_loud (refine (HSP.out _ (by repeat first | with_reducible assumption | with_reducible exact Below.refl _ _ | with_reducible apply Below.drew | with_reducible apply below_drewN | with_reducible apply Below.alloc (hB := (by first | omega | (simp; done) | (simp; omega))) | with_reducible apply Below.setCell (hp := (by first | omega | (simp; done) | (simp; omega))))).mono ?_; rintro e w5 ⟨v5, rfl, ⟨hs5, hn5⟩, hb5⟩; obtain ⟨a5, c5, rfl⟩ := hs5.form; have HR5 := Lib.hid (HG2.out.st.set (Below.refl _ _) hb5 hn5 (HG2.out.newG HNQ.out)); have hz5 := hb5.size; have K5 := hb5; have bg5 := HBG.out.below hb5 HBG.out.lt; have gv0 := bg5.cell 0; have gv1 := bg5.cell 1; simp at gv0 gv1; have gvf := (fun i => bg5.free i); have lv := bg5.lt; have nv : ¬ g = w5.heap.size := (by omega); have nv2 : ¬ w5.heap.size = g := (by omega); clear hs5 hn5 hb5))
  refine wp_called (fun W3 hW3 => ?_)
  have HB43 : Hid (Blk W3 (w.heap.size + 1) 40 #[.int .i64 0, .int .i64 0, .slice none 0 0, .slice none 0 0]) := Lib.hid (by
    rw [hW3]
    exact (((HB4.out.below K5 HB4.out.lt).far (p := ⟨g, 0, none⟩) nl4 _).far (p := ⟨g, 1, none⟩) nl4 _).alloc _)
  have hB3 : ∀ b, b < W2.heap.size → b ≠ g → W3.heap[b]? = W2.heap[b]? := by
    intro b h1 h2
    rw [hW3]
    exact (Below.heap_alloc _ _ b (by simp [World.setCell]; omega)).trans ((Below.heap_setCell _ _ _ b h2).trans ((Below.heap_setCell _ _ _ b h2).trans (K5.block b h1)))
  have hz3 : w5.heap.size ≤ W3.heap.size := by rw [hW3]; simp [World.setCell]
  have HG3 : Hid (GameAt W3 (QD Q w) g (M.withThings (more G) y) a5 c5 sv hs) := Lib.hid (HG2.out.upd (G' := M.withThings (more G) y) (by omega) (fun b h1 _ h3 => hB3 b h1 h3) (by rw [hW3]; exact (blk_to (((HBG.out.below K5 HBG.out.lt).put 0 _).put 1 _) (by rfl)).alloc _) rfl (HR5.out.step hz3 (fun b h1 k => by
    rw [hW3]
    exact (Below.heap_alloc _ _ b (by simp [World.setCell]; omega)).trans ((Below.heap_setCell _ _ _ b k.2.1).trans (Below.heap_setCell _ _ _ b k.2.1)))))
  have HO3 : Hid (Only Q w W3) := Lib.hid (by
    rw [hW3]
    exact (((HO2.out.more K5).setCell (.inl HG0.out.inQ) _).setCell (.inl HG0.out.inQ) _).alloc _)
  clear hW3 hB3 gv0 gv1 gvf bg5 y0 y1 y2 y3 yf gw0 gw1 gw2 gw3 gw4 gw5 gw6 gff x0 x1 x2 x3 x4 x5 x6 x7 x8 x9 x10 x11 x12 x13 x14 x15 x16 s0 s1
  have y0 := HB43.out.cell 0
  have y1 := HB43.out.cell 1
  have y2 := HB43.out.cell 2
  have y3 := HB43.out.cell 3
  have yf := fun i => HB43.out.free i
  simp at y0 y1 y2 y3
  have l34 := HB43.out.lt
  go_wp2_with fail
  refine bodyPost_ret (results_cell_row rfl _ _ _ _ _ _ _ rfl (reply_blk HB43.out _ _ _ _) Tryz.underlying40 rfl (by kernel_rfl)) rfl ?_
  unfold DoPost
  exact do_end (U := W3) HG3.out HO3.out l34 (Below.refl _ _) ⟨code, nid, [], []⟩ (ids := .slice none 0 0) (met := .slice none 0 0) (i0 := undef) (m0 := undef) (World.ownsRow_nil _ _ _ _) (World.ownsRow_nil _ _ _ _) (fun b e => by cases e) (fun b e => by cases e) HQ.out _ _ _ _
set_option maxHeartbeats 8000000 in
set_option maxRecDepth 100000 in
theorem do_kill {w : World} {Q : Nat → Prop} {g : Nat} {G : M.Game} {a : Option Addr} {c : Nat} {sv : Value} {hs : List Value} (h : GameAt w Q g G a c sv hs) (hq : ∀ b, Q b → b < w.heap.size) (hG : M.GoodG G) (kind id n mask : Int) (row : M.Row) (box : M.Box) (hk : kind = 2) (h0 : 0 ≤ G.acts) (hlt : G.acts < 150) (hx : ActIn ⟨kind, id, n, mask, row, box⟩) :
    Calls Tryz.prog 15 #[.pointer (some ⟨g, 0, none⟩), actV ⟨kind, id, n, mask, row, box⟩] w (DoPost Q w g (M.doAct G ⟨kind, id, n, mask, row, box⟩).1 (M.doAct G ⟨kind, id, n, mask, row, box⟩).2) := by
  obtain ⟨y, code, hsp⟩ : ∃ y c, M.kill G.w.things id = (y, c) := ⟨_, _, rfl⟩
  have hres : M.doAct G ⟨kind, id, n, mask, row, box⟩ = (M.withThings (more G) y, M.no code) := by
    unfold M.doAct
    rw [if_neg (by omega)]
    simp only
    rw [if_neg (by omega), if_pos hk, hsp]
  rw [hres]
  subst hk
  clear hres
  have HG0 := Lib.hid h
  have HQ := Lib.hid hq
  have g0 := h.blk.cell 0
  have g1 := h.blk.cell 1
  have g6 := h.blk.cell 6
  have gf := fun i => h.blk.free i
  have lg := h.blk.lt
  simp at g0 g1 g6
  have nl1 : ¬ g = w.heap.size := by omega
  have nl2 : ¬ w.heap.size = g := by omega
  have nl3 : ¬ g = w.heap.size + 1 := by omega
  have nl4 : ¬ w.heap.size + 1 = g := by omega
  clear h hq
  go_enter Tryz.func15, Tryz.ntmps15
  go_upto_region 9 with (fail)
  refine wp_called (fun W2 hW2 => ?_)
  have b3 : Blk W2 (w.heap.size) 27 (actC ⟨2, id, n, mask, row, box⟩) := by
    rw [hW2]
    apply blk_to
    · repeat first | with_reducible exact HG0.out.blk | with_reducible apply Blk.put | with_reducible exact Blk.new_at (h := (by first | rfl | (simp; done) | (simp [World.setCell]; done) | omega)) | with_reducible apply Blk.alloc | with_reducible apply Blk.far (hp := (by first | assumption | omega | (simp; omega)))
    · rfl
  have b4 : Blk W2 (w.heap.size + 1) 40 (#[.int .i64 0, .int .i64 0, .slice none 0 0, .slice none 0 0]) := by
    rw [hW2]
    apply blk_to
    · repeat first | with_reducible exact HG0.out.blk | with_reducible apply Blk.put | with_reducible exact Blk.new_at (h := (by first | rfl | (simp; done) | (simp [World.setCell]; done) | omega)) | with_reducible apply Blk.alloc | with_reducible apply Blk.far (hp := (by first | assumption | omega | (simp; omega)))
    · rfl
  have b7 : Blk W2 (w.heap.size + 2) 31 (#[.slice a G.w.things.tables.length c, .int .i64 G.w.things.next]) := by
    rw [hW2]
    apply blk_to
    · repeat first | with_reducible exact HG0.out.blk | with_reducible apply Blk.put | with_reducible exact Blk.new_at (h := (by first | rfl | (simp; done) | (simp [World.setCell]; done) | omega)) | with_reducible apply Blk.alloc | with_reducible apply Blk.far (hp := (by first | assumption | omega | (simp; omega)))
    · rfl
  have bg : Blk W2 (g) 85 (gameC (.slice a G.w.things.tables.length c) sv (more G)) := by
    rw [hW2]
    apply blk_to
    · repeat first | with_reducible exact HG0.out.blk | with_reducible apply Blk.put | with_reducible exact Blk.new_at (h := (by first | rfl | (simp; done) | (simp [World.setCell]; done) | omega)) | with_reducible apply Blk.alloc | with_reducible apply Blk.far (hp := (by first | assumption | omega | (simp; omega)))
    · rfl
  have HZ2 : Hid (W2.heap.size = w.heap.size + 3) := Lib.hid (by rw [hW2]; simp [World.setCell])
  have hz2 : w.heap.size + 2 < W2.heap.size := by have := HZ2.out; omega
  have hB2 : ∀ b, b < w.heap.size → b ≠ g → W2.heap[b]? = w.heap[b]? := by
    intro b h1 h2
    rw [hW2]
    exact (Below.heap_alloc _ _ b (by simp [World.setCell]; omega)).trans ((Below.heap_alloc _ _ b (by simp [World.setCell]; omega)).trans ((Below.heap_alloc _ _ b (by simp [World.setCell]; omega)).trans (Below.heap_setCell _ _ _ b h2)))
  have HO2 : Hid (Only Q w W2) := Lib.hid (by
    rw [hW2]
    exact ((((Only.refl Q w).setCell (.inl HG0.out.inQ) _).alloc _).alloc _).alloc _)
  have HG2 : Hid (GameAt W2 (QD Q w) g (more G) a c sv hs) := Lib.hid ((HG0.out.wide (R := QD Q w) (fun b h1 k => ⟨.inl k, by omega⟩)).upd (by omega) (fun b h1 _ h3 => hB2 b h1 h3) bg rfl (((HG0.out.wide (R := QD Q w) (fun b h1 k => ⟨.inl k, by omega⟩)).st).step (by omega) (fun b h1 k => hB2 b h1 k.2.1)))
  have HNQ : Hid (∀ b, W2.heap.size ≤ b → QD Q w b) := Lib.hid (fun b hb => ⟨.inr (by omega), by omega⟩)
  have x0 := b3.cell 0
  have x1 := b3.cell 1
  have x2 := b3.cell 2
  have x3 := b3.cell 3
  have x4 := b3.cell 4
  have x5 := b3.cell 5
  have x6 := b3.cell 6
  have x7 := b3.cell 7
  have x8 := b3.cell 8
  have x9 := b3.cell 9
  have x10 := b3.cell 10
  have x11 := b3.cell 11
  have x12 := b3.cell 12
  have x13 := b3.cell 13
  have x14 := b3.cell 14
  have x15 := b3.cell 15
  have x16 := b3.cell 16
  simp at x0 x1 x2 x3 x4 x5 x6 x7 x8 x9 x10 x11 x12 x13 x14 x15 x16
  have s0 := b7.cell 0
  have s1 := b7.cell 1
  have y0 := b4.cell 0
  have y1 := b4.cell 1
  have y2 := b4.cell 2
  have y3 := b4.cell 3
  have yf := fun i => b4.free i
  have gw0 := bg.cell 0
  have gw1 := bg.cell 1
  have gw2 := bg.cell 2
  have gw3 := bg.cell 3
  have gw4 := bg.cell 4
  have gw5 := bg.cell 5
  have gw6 := bg.cell 6
  have gff := fun i => bg.free i
  have l2g := bg.lt
  have l23 := b3.lt
  have l24 := b4.lt
  have l27 := b7.lt
  simp at s0 s1 y0 y1 y2 y3 gw0 gw1 gw2 gw3 gw4 gw5 gw6
  have HB3 := Lib.hid b3
  have HB4 := Lib.hid b4
  have HB7 := Lib.hid b7
  have HBG := Lib.hid bg
  have HIN := Lib.hid (good_in hG.w.things)
  clear hW2 hB2 b3 b4 b7 bg g0 g1 g6 gf
  have HSP := Lib.hid (fun U (hb : Below W2.heap.size W2 U) => kill_calls (HG2.out.st.at_.below hb) HIN.out id)
  rw [show M.kill (more G).w.things id = (y, code) from hsp] at HSP
  simp only at HSP
  clear hsp hx hG
  go_upto_region 16 with (go_at_call 34; go_loud (refine (HSP.out _ (by repeat first | with_reducible assumption | with_reducible exact Below.refl _ _ | with_reducible apply Below.drew | with_reducible apply below_drewN | with_reducible apply Below.alloc (hB := (by first | omega | (simp; done) | (simp; omega))) | with_reducible apply Below.setCell (hp := (by first | omega | (simp; done) | (simp; omega))))).mono ?_; rintro e w5 ⟨v5, rfl, ⟨hs5, hn5⟩, hb5⟩; obtain ⟨a5, c5, rfl⟩ := hs5.form; have HR5 := Lib.hid (HG2.out.st.set (Below.refl _ _) hb5 hn5 (HG2.out.newG HNQ.out)); have hz5 := hb5.size; have K5 := hb5; have bg5 := HBG.out.below hb5 HBG.out.lt; have gv0 := bg5.cell 0; have gv1 := bg5.cell 1; simp at gv0 gv1; have gvf := (fun i => bg5.free i); have lv := bg5.lt; have nv : ¬ g = w5.heap.size := (by omega); have nv2 : ¬ w5.heap.size = g := (by omega); clear hs5 hn5 hb5))
  refine wp_called (fun W3 hW3 => ?_)
  have HB43 : Hid (Blk W3 (w.heap.size + 1) 40 #[.int .i64 0, .int .i64 0, .slice none 0 0, .slice none 0 0]) := Lib.hid (by
    rw [hW3]
    exact ((HB4.out.below K5 HB4.out.lt).far (p := ⟨g, 0, none⟩) nl4 _).far (p := ⟨g, 1, none⟩) nl4 _)
  have hB3 : ∀ b, b < W2.heap.size → b ≠ g → W3.heap[b]? = W2.heap[b]? := by
    intro b h1 h2
    rw [hW3]
    exact (Below.heap_setCell _ _ _ b h2).trans ((Below.heap_setCell _ _ _ b h2).trans (K5.block b h1))
  have hz3 : w5.heap.size ≤ W3.heap.size := by rw [hW3]; simp [World.setCell]
  have HG3 : Hid (GameAt W3 (QD Q w) g (M.withThings (more G) y) a5 c5 sv hs) := Lib.hid (HG2.out.upd (G' := M.withThings (more G) y) (by omega) (fun b h1 _ h3 => hB3 b h1 h3) (by rw [hW3]; exact blk_to (((HBG.out.below K5 HBG.out.lt).put 0 _).put 1 _) (by rfl)) rfl (HR5.out.step hz3 (fun b h1 k => by
    rw [hW3]
    exact (Below.heap_setCell _ _ _ b k.2.1).trans (Below.heap_setCell _ _ _ b k.2.1))))
  have HO3 : Hid (Only Q w W3) := Lib.hid (by
    rw [hW3]
    exact ((HO2.out.more K5).setCell (.inl HG0.out.inQ) _).setCell (.inl HG0.out.inQ) _)
  clear hW3 hB3 gv0 gv1 gvf bg5 y0 y1 y2 y3 yf gw0 gw1 gw2 gw3 gw4 gw5 gw6 gff x0 x1 x2 x3 x4 x5 x6 x7 x8 x9 x10 x11 x12 x13 x14 x15 x16 s0 s1
  have y0 := HB43.out.cell 0
  have y1 := HB43.out.cell 1
  have y2 := HB43.out.cell 2
  have y3 := HB43.out.cell 3
  have yf := fun i => HB43.out.free i
  simp at y0 y1 y2 y3
  have l34 := HB43.out.lt
  go_wp2_with (go_at_call 32; go_loud (refine (no_calls _ _).mono ?_; rintro e w6 ⟨rfl, rfl⟩))
  refine bodyPost_ret (results_cell_row rfl _ _ _ _ _ _ _ rfl ((Below.heap_alloc _ _ _ (by simp [World.setCell]; omega)).trans (reply_blk HB43.out _ _ _ _)) Tryz.underlying40 rfl (by kernel_rfl)) rfl ?_
  refine DoPost.more ?_ ((Below.refl _ _).alloc (Nat.le_refl _) _)
  unfold DoPost
  exact do_end (U := W3) HG3.out HO3.out l34 (Below.refl _ _) (M.no code) (ids := .slice none 0 0) (met := .slice none 0 0) (i0 := undef) (m0 := undef) (World.ownsRow_nil _ _ _ _) (World.ownsRow_nil _ _ _ _) (fun b e => by cases e) (fun b e => by cases e) HQ.out _ _ _ _
end Go.Proofs.YtkpecagkpjabdacGreat
/- The contract of Do for steps, for acts of no kind, and behind the last act. Condition: the game lies in memory and is good. -/
namespace Go.Proofs.YtkpecagkpjabdacGreat
open Go.RowKit
set_option linter.unusedVariables false
set_option linter.unusedSimpArgs false
set_option maxRecDepth 100000
set_option maxHeartbeats 8000000 in
set_option maxRecDepth 100000 in
theorem do_step {w : World} {Q : Nat → Prop} {g : Nat} {G : M.Game} {a : Option Addr} {c : Nat} {sv : Value} {hs : List Value} (h : GameAt w Q g G a c sv hs) (hq : ∀ b, Q b → b < w.heap.size) (hG : M.GoodG G) (kind id n mask : Int) (row : M.Row) (box : M.Box) (hk : kind = 6) (h0 : 0 ≤ G.acts) (hlt : G.acts < 150) (hx : ActIn ⟨kind, id, n, mask, row, box⟩) :
    Calls Tryz.prog 15 #[.pointer (some ⟨g, 0, none⟩), actV ⟨kind, id, n, mask, row, box⟩] w (DoPost Q w g (M.doAct G ⟨kind, id, n, mask, row, box⟩).1 (M.doAct G ⟨kind, id, n, mask, row, box⟩).2) := by
  subst hk
  obtain ⟨G', r, hyc⟩ : ∃ y c, M.stepG (more G) n = (y, c) := ⟨_, _, rfl⟩
  rw [M.doAct_step hlt rfl]
  rw [show M.stepG (M.more G) n = (G', r) from hyc]
  have HG0 := Lib.hid h
  have HQ := Lib.hid hq
  have g0 := h.blk.cell 0
  have g1 := h.blk.cell 1
  have g6 := h.blk.cell 6
  have gf := fun i => h.blk.free i
  have lg := h.blk.lt
  simp at g0 g1 g6
  have nl1 : ¬ g = w.heap.size := by omega
  have nl2 : ¬ w.heap.size = g := by omega
  have nl3 : ¬ g = w.heap.size + 1 := by omega
  have nl4 : ¬ w.heap.size + 1 = g := by omega
  clear h hq
  go_enter Tryz.func15, Tryz.ntmps15
  go_upto_region 9 with (fail)
  refine wp_called (fun W2 hW2 => ?_)
  have b3 : Blk W2 (w.heap.size) 27 (actC ⟨6, id, n, mask, row, box⟩) := by
    rw [hW2]
    apply blk_to
    · repeat first | with_reducible exact HG0.out.blk | with_reducible apply Blk.put | with_reducible exact Blk.new_at (h := (by first | rfl | (simp; done) | (simp [World.setCell]; done) | omega)) | with_reducible apply Blk.alloc | with_reducible apply Blk.far (hp := (by first | assumption | omega | (simp; omega)))
    · rfl
  have b4 : Blk W2 (w.heap.size + 1) 40 (#[.int .i64 0, .int .i64 0, .slice none 0 0, .slice none 0 0]) := by
    rw [hW2]
    apply blk_to
    · repeat first | with_reducible exact HG0.out.blk | with_reducible apply Blk.put | with_reducible exact Blk.new_at (h := (by first | rfl | (simp; done) | (simp [World.setCell]; done) | omega)) | with_reducible apply Blk.alloc | with_reducible apply Blk.far (hp := (by first | assumption | omega | (simp; omega)))
    · rfl
  have b7 : Blk W2 (w.heap.size + 2) 31 (#[.slice a G.w.things.tables.length c, .int .i64 G.w.things.next]) := by
    rw [hW2]
    apply blk_to
    · repeat first | with_reducible exact HG0.out.blk | with_reducible apply Blk.put | with_reducible exact Blk.new_at (h := (by first | rfl | (simp; done) | (simp [World.setCell]; done) | omega)) | with_reducible apply Blk.alloc | with_reducible apply Blk.far (hp := (by first | assumption | omega | (simp; omega)))
    · rfl
  have bg : Blk W2 (g) 85 (gameC (.slice a G.w.things.tables.length c) sv (more G)) := by
    rw [hW2]
    apply blk_to
    · repeat first | with_reducible exact HG0.out.blk | with_reducible apply Blk.put | with_reducible exact Blk.new_at (h := (by first | rfl | (simp; done) | (simp [World.setCell]; done) | omega)) | with_reducible apply Blk.alloc | with_reducible apply Blk.far (hp := (by first | assumption | omega | (simp; omega)))
    · rfl
  have HZ2 : Hid (W2.heap.size = w.heap.size + 3) := Lib.hid (by rw [hW2]; simp [World.setCell])
  have hz2 : w.heap.size + 2 < W2.heap.size := by have := HZ2.out; omega
  have hB2 : ∀ b, b < w.heap.size → b ≠ g → W2.heap[b]? = w.heap[b]? := by
    intro b h1 h2
    rw [hW2]
    exact (Below.heap_alloc _ _ b (by simp [World.setCell]; omega)).trans ((Below.heap_alloc _ _ b (by simp [World.setCell]; omega)).trans ((Below.heap_alloc _ _ b (by simp [World.setCell]; omega)).trans (Below.heap_setCell _ _ _ b h2)))
  have HO2 : Hid (Only Q w W2) := Lib.hid (by
    rw [hW2]
    exact ((((Only.refl Q w).setCell (.inl HG0.out.inQ) _).alloc _).alloc _).alloc _)
  have HG2 : Hid (GameAt W2 (QD Q w) g (more G) a c sv hs) := Lib.hid ((HG0.out.wide (R := QD Q w) (fun b h1 k => ⟨.inl k, by omega⟩)).upd (by omega) (fun b h1 _ h3 => hB2 b h1 h3) bg rfl (((HG0.out.wide (R := QD Q w) (fun b h1 k => ⟨.inl k, by omega⟩)).st).step (by omega) (fun b h1 k => hB2 b h1 k.2.1)))
  have HNQ : Hid (∀ b, W2.heap.size ≤ b → QD Q w b) := Lib.hid (fun b hb => ⟨.inr (by omega), by omega⟩)
  have x0 := b3.cell 0
  have x1 := b3.cell 1
  have x2 := b3.cell 2
  have x3 := b3.cell 3
  have x4 := b3.cell 4
  have x5 := b3.cell 5
  have x6 := b3.cell 6
  have x7 := b3.cell 7
  have x8 := b3.cell 8
  have x9 := b3.cell 9
  have x10 := b3.cell 10
  have x11 := b3.cell 11
  have x12 := b3.cell 12
  have x13 := b3.cell 13
  have x14 := b3.cell 14
  have x15 := b3.cell 15
  have x16 := b3.cell 16
  simp at x0 x1 x2 x3 x4 x5 x6 x7 x8 x9 x10 x11 x12 x13 x14 x15 x16
  have s0 := b7.cell 0
  have s1 := b7.cell 1
  have y0 := b4.cell 0
  have y1 := b4.cell 1
  have y2 := b4.cell 2
  have y3 := b4.cell 3
  have yf := fun i => b4.free i
  have gw0 := bg.cell 0
  have gw1 := bg.cell 1
  have gw2 := bg.cell 2
  have gw3 := bg.cell 3
  have gw4 := bg.cell 4
  have gw5 := bg.cell 5
  have gw6 := bg.cell 6
  have gff := fun i => bg.free i
  have l2g := bg.lt
  have l23 := b3.lt
  have l24 := b4.lt
  have l27 := b7.lt
  simp at s0 s1 y0 y1 y2 y3 gw0 gw1 gw2 gw3 gw4 gw5 gw6
  have HB3 := Lib.hid b3
  have HB4 := Lib.hid b4
  have HB7 := Lib.hid b7
  have HBG := Lib.hid bg
  have HIN := Lib.hid (good_in hG.w.things)
  clear hW2 hB2 b3 b4 b7 bg g0 g1 g6 gf
  have HMID := Lib.hid (gstep_calls (HG2.out.wide (R := fun b => QD Q w b ∧ b < W2.heap.size) (fun b h1 k => ⟨k, h1⟩)) (fun b k => k.2) ⟨hG.w, hG.saves⟩ n)
  rw [hyc] at HMID
  simp only at HMID
  clear hyc hx hG
  go_wp2_with (go_at_call 37; go_loud (refine (HMID.out).mono ?_; rintro e w5 ⟨a5, c5, sv5, hs5, ids, met, rfl, hg5, ho5, hi5, hm5⟩; have HG5 := Lib.hid hg5; have HO3 := Lib.hid (ho5.inner HO2.out); have HI5 := Lib.hid hi5; have HM5 := Lib.hid hm5; have l34 : w.heap.size + 1 < w5.heap.size := Nat.lt_of_lt_of_le l24 ho5.size; have b43 : Blk w5 (w.heap.size + 1) 40 #[.int .i64 0, .int .i64 0, .slice none 0 0, .slice none 0 0] := (ho5.block _ l24 (fun k => k.1.2 rfl)).trans HB4.out; have HB43 := Lib.hid b43; have y0 := b43.cell 0; have y1 := b43.cell 1; have y2 := b43.cell 2; have y3 := b43.cell 3; have yf := (fun i => b43.free i); simp at y0 y1 y2 y3; clear hg5 ho5 b43 hi5 hm5; obtain ⟨ia, ic, rfl⟩ := own_form HI5.out; obtain ⟨ma, mc, rfl⟩ := own_form HM5.out))
  refine bodyPost_ret (results_cell_row rfl _ _ _ _ _ _ _ rfl (reply_blk HB43.out _ _ _ _) Tryz.underlying40 rfl (by kernel_rfl)) rfl ?_
  exact do_end2 HG5.out HO3.out (by omega) r HI5.out HM5.out _ _ _ _
set_option maxHeartbeats 8000000 in
set_option maxRecDepth 100000 in
theorem do_full {w : World} {Q : Nat → Prop} {g : Nat} {G : M.Game} {a : Option Addr} {c : Nat} {sv : Value} {hs : List Value} (h : GameAt w Q g G a c sv hs) (hq : ∀ b, Q b → b < w.heap.size) (hG : M.GoodG G) (x : M.Act) (hlt : 150 ≤ G.acts) :
    Calls Tryz.prog 15 #[.pointer (some ⟨g, 0, none⟩), actV x] w (DoPost Q w g (M.doAct G x).1 (M.doAct G x).2) := by
  rw [show M.doAct G x = (G, M.no 5) by unfold M.doAct; rw [if_pos hlt]]
  have HG0 := Lib.hid h
  have HQ := Lib.hid hq
  have g6 := h.blk.cell 6
  have lg := h.blk.lt
  simp at g6
  have nl1 : ¬ g = w.heap.size := by omega
  have nl2 : ¬ w.heap.size = g := by omega
  have nl3 : ¬ g = w.heap.size + 1 := by omega
  have nl4 : ¬ w.heap.size + 1 = g := by omega
  clear h hq hG
  go_enter Tryz.func15, Tryz.ntmps15
  go_wp2_with (go_at_call 32; go_loud (refine (no_calls _ _).mono ?_; rintro e w6 ⟨rfl, rfl⟩))
  refine bodyPost_ret (results_cell_row rfl _ _ _ _ _ _ _ rfl ((heap_alloc_old _ _ (by simp)).trans (heap_alloc2_new w _ _)) Tryz.underlying40 rfl (by kernel_rfl)) rfl ?_
  exact ⟨a, c, sv, hs, .slice none 0 0, .slice none 0 0, rfl, (HG0.out.below (by repeat first | with_reducible assumption | with_reducible exact Below.refl _ _ | with_reducible apply Below.drew | with_reducible apply below_drewN | with_reducible apply Below.alloc (hB := (by first | omega | (simp; done) | (simp; omega))) | with_reducible apply Below.setCell (hp := (by first | omega | (simp; done) | (simp; omega))))).wide (fun b _ k => ⟨.inl k, (fun e => by cases e), fun e => by cases e⟩), Only.of_below (by repeat first | with_reducible assumption | with_reducible exact Below.refl _ _ | with_reducible apply Below.drew | with_reducible apply below_drewN | with_reducible apply Below.alloc (hB := (by first | omega | (simp; done) | (simp; omega))) | with_reducible apply Below.setCell (hp := (by first | omega | (simp; done) | (simp; omega)))), World.ownsRow_nil _ _ _ _, World.ownsRow_nil _ _ _ _⟩
set_option maxHeartbeats 8000000 in
set_option maxRecDepth 100000 in
theorem do_other {w : World} {Q : Nat → Prop} {g : Nat} {G : M.Game} {a : Option Addr} {c : Nat} {sv : Value} {hs : List Value} (h : GameAt w Q g G a c sv hs) (hq : ∀ b, Q b → b < w.heap.size) (hG : M.GoodG G) (kind id n mask : Int) (row : M.Row) (box : M.Box) (hk : kind < 1 ∨ 9 < kind) (h0 : 0 ≤ G.acts) (hlt : G.acts < 150) :
    Calls Tryz.prog 15 #[.pointer (some ⟨g, 0, none⟩), actV ⟨kind, id, n, mask, row, box⟩] w (DoPost Q w g (M.doAct G ⟨kind, id, n, mask, row, box⟩).1 (M.doAct G ⟨kind, id, n, mask, row, box⟩).2) := by
  have hres : M.doAct G ⟨kind, id, n, mask, row, box⟩ = (more G, M.no 4) := by
    unfold M.doAct
    rw [if_neg (by omega)]
    simp only
    rw [if_neg (by omega), if_neg (by omega), if_neg (by omega), if_neg (by omega), if_neg (by omega), if_neg (by omega), if_neg (by omega), if_neg (by omega)]
  rw [hres]
  clear hres
  have HG0 := Lib.hid h
  have HQ := Lib.hid hq
  have g0 := h.blk.cell 0
  have g1 := h.blk.cell 1
  have g6 := h.blk.cell 6
  have gf := fun i => h.blk.free i
  have lg := h.blk.lt
  simp at g0 g1 g6
  have nl1 : ¬ g = w.heap.size := by omega
  have nl2 : ¬ w.heap.size = g := by omega
  have nl3 : ¬ g = w.heap.size + 1 := by omega
  have nl4 : ¬ w.heap.size + 1 = g := by omega
  clear h hq
  go_enter Tryz.func15, Tryz.ntmps15
  go_upto_region 9 with (fail)
  refine wp_called (fun W2 hW2 => ?_)
  have b3 : Blk W2 (w.heap.size) 27 (actC ⟨kind, id, n, mask, row, box⟩) := by
    rw [hW2]
    apply blk_to
    · repeat first | with_reducible exact HG0.out.blk | with_reducible apply Blk.put | with_reducible exact Blk.new_at (h := (by first | rfl | (simp; done) | (simp [World.setCell]; done) | omega)) | with_reducible apply Blk.alloc | with_reducible apply Blk.far (hp := (by first | assumption | omega | (simp; omega)))
    · rfl
  have b4 : Blk W2 (w.heap.size + 1) 40 (#[.int .i64 0, .int .i64 0, .slice none 0 0, .slice none 0 0]) := by
    rw [hW2]
    apply blk_to
    · repeat first | with_reducible exact HG0.out.blk | with_reducible apply Blk.put | with_reducible exact Blk.new_at (h := (by first | rfl | (simp; done) | (simp [World.setCell]; done) | omega)) | with_reducible apply Blk.alloc | with_reducible apply Blk.far (hp := (by first | assumption | omega | (simp; omega)))
    · rfl
  have b7 : Blk W2 (w.heap.size + 2) 31 (#[.slice a G.w.things.tables.length c, .int .i64 G.w.things.next]) := by
    rw [hW2]
    apply blk_to
    · repeat first | with_reducible exact HG0.out.blk | with_reducible apply Blk.put | with_reducible exact Blk.new_at (h := (by first | rfl | (simp; done) | (simp [World.setCell]; done) | omega)) | with_reducible apply Blk.alloc | with_reducible apply Blk.far (hp := (by first | assumption | omega | (simp; omega)))
    · rfl
  have bg : Blk W2 (g) 85 (gameC (.slice a G.w.things.tables.length c) sv (more G)) := by
    rw [hW2]
    apply blk_to
    · repeat first | with_reducible exact HG0.out.blk | with_reducible apply Blk.put | with_reducible exact Blk.new_at (h := (by first | rfl | (simp; done) | (simp [World.setCell]; done) | omega)) | with_reducible apply Blk.alloc | with_reducible apply Blk.far (hp := (by first | assumption | omega | (simp; omega)))
    · rfl
  have HZ2 : Hid (W2.heap.size = w.heap.size + 3) := Lib.hid (by rw [hW2]; simp [World.setCell])
  have hz2 : w.heap.size + 2 < W2.heap.size := by have := HZ2.out; omega
  have hB2 : ∀ b, b < w.heap.size → b ≠ g → W2.heap[b]? = w.heap[b]? := by
    intro b h1 h2
    rw [hW2]
    exact (Below.heap_alloc _ _ b (by simp [World.setCell]; omega)).trans ((Below.heap_alloc _ _ b (by simp [World.setCell]; omega)).trans ((Below.heap_alloc _ _ b (by simp [World.setCell]; omega)).trans (Below.heap_setCell _ _ _ b h2)))
  have HO2 : Hid (Only Q w W2) := Lib.hid (by
    rw [hW2]
    exact ((((Only.refl Q w).setCell (.inl HG0.out.inQ) _).alloc _).alloc _).alloc _)
  have HG2 : Hid (GameAt W2 (QD Q w) g (more G) a c sv hs) := Lib.hid ((HG0.out.wide (R := QD Q w) (fun b h1 k => ⟨.inl k, by omega⟩)).upd (by omega) (fun b h1 _ h3 => hB2 b h1 h3) bg rfl (((HG0.out.wide (R := QD Q w) (fun b h1 k => ⟨.inl k, by omega⟩)).st).step (by omega) (fun b h1 k => hB2 b h1 k.2.1)))
  have HNQ : Hid (∀ b, W2.heap.size ≤ b → QD Q w b) := Lib.hid (fun b hb => ⟨.inr (by omega), by omega⟩)
  have x0 := b3.cell 0
  have x1 := b3.cell 1
  have x2 := b3.cell 2
  have x3 := b3.cell 3
  have x4 := b3.cell 4
  have x5 := b3.cell 5
  have x6 := b3.cell 6
  have x7 := b3.cell 7
  have x8 := b3.cell 8
  have x9 := b3.cell 9
  have x10 := b3.cell 10
  have x11 := b3.cell 11
  have x12 := b3.cell 12
  have x13 := b3.cell 13
  have x14 := b3.cell 14
  have x15 := b3.cell 15
  have x16 := b3.cell 16
  simp at x0 x1 x2 x3 x4 x5 x6 x7 x8 x9 x10 x11 x12 x13 x14 x15 x16
  have s0 := b7.cell 0
  have s1 := b7.cell 1
  have y0 := b4.cell 0
  have y1 := b4.cell 1
  have y2 := b4.cell 2
  have y3 := b4.cell 3
  have yf := fun i => b4.free i
  have gw0 := bg.cell 0
  have gw1 := bg.cell 1
  have gw2 := bg.cell 2
  have gw3 := bg.cell 3
  have gw4 := bg.cell 4
  have gw5 := bg.cell 5
  have gw6 := bg.cell 6
  have gff := fun i => bg.free i
  have l2g := bg.lt
  have l23 := b3.lt
  have l24 := b4.lt
  have l27 := b7.lt
  simp at s0 s1 y0 y1 y2 y3 gw0 gw1 gw2 gw3 gw4 gw5 gw6
  have HB3 := Lib.hid b3
  have HB4 := Lib.hid b4
  have HB7 := Lib.hid b7
  have HBG := Lib.hid bg
  have HIN := Lib.hid (good_in hG.w.things)
  clear hW2 hB2 b3 b4 b7 bg g0 g1 g6 gf
  have q1 : (kind == 1) = false := by simp; omega
  have q2 : (kind == 2) = false := by simp; omega
  have q3 : (kind == 3) = false := by simp; omega
  have q4 : (kind == 4) = false := by simp; omega
  have q5 : (kind == 5) = false := by simp; omega
  have q6 : (kind == 6) = false := by simp; omega
  have q7 : (kind == 7) = false := by simp; omega
  have q8 : (kind == 8) = false := by simp; omega
  have q9 : (kind == 9) = false := by simp; omega
  clear hG hk
  have HG3 := HG2
  have HO3 := HO2
  have HB43 := HB4
  go_wp2_with (go_at_call 32; go_loud (refine (no_calls _ _).mono ?_; rintro e w6 ⟨rfl, rfl⟩))
  refine bodyPost_ret (results_cell_row rfl _ _ _ _ _ _ _ rfl ((Below.heap_alloc _ _ _ (by simp [World.setCell]; omega)).trans (reply_blk HB43.out _ _ _ _)) Tryz.underlying40 rfl (by kernel_rfl)) rfl ?_
  refine DoPost.more ?_ ((Below.refl _ _).alloc (Nat.le_refl _) _)
  unfold DoPost
  exact do_end (U := W2) HG3.out HO3.out l24 (Below.refl _ _) (M.no 4) (ids := .slice none 0 0) (met := .slice none 0 0) (i0 := undef) (m0 := undef) (World.ownsRow_nil _ _ _ _) (World.ownsRow_nil _ _ _ _) (fun b e => by cases e) (fun b e => by cases e) HQ.out _ _ _ _
end Go.Proofs.YtkpecagkpjabdacGreat
