/- The contract of Do for acts that load a save. Condition: the game lies in memory and is good. -/
import Derived.Test.YtkpecagkpjabdacGreatBagH
import Derived.StillTailTactics
namespace Go.Proofs.YtkpecagkpjabdacGreat
open Go.RowKit
set_option linter.unusedVariables false
set_option linter.unusedSimpArgs false
set_option maxRecDepth 100000
/-- the cells of save i -/
theorem save_cells {w : World} {Q : Nat → Prop} {g : Nat} {G : M.Game} {a : Option Addr} {c : Nat} {sb sc : Nat} {hs : List Value} (h : GameAt w Q g G a c (.slice (some ⟨sb, 0, none⟩) G.saves.length sc) hs) {i : Nat} {d : M.Wd} (hi : G.saves[i]? = some d) :
    ∃ a8 c8, Rob w (InG Q g (.slice (some ⟨sb, 0, none⟩) G.saves.length sc)) (stV a8 c8 d.things) d.things ∧ w.cell? ⟨sb, i * 5, none⟩ = some (.slice a8 d.things.tables.length c8) ∧ w.cell? ⟨sb, i * 5 + 1, none⟩ = some (.int .i64 d.things.next) ∧
      w.cell? ⟨sb, i * 5 + 2, none⟩ = some (.int .i64 d.fall) ∧ w.cell? ⟨sb, i * 5 + 3, none⟩ = some (.int .i64 d.wide) ∧ w.cell? ⟨sb, i * 5 + 4, none⟩ = some (.int .i64 d.high) := by
  have hlt := (List.getElem?_eq_some_iff.1 hi).1
  obtain ⟨v, hv⟩ : ∃ v, hs[i]? = some v := ⟨_, List.getElem?_eq_getElem (by rw [h.len]; exact hlt)⟩
  obtain ⟨a8, c8, rfl, hr⟩ := h.each i d v hi hv
  have hz : (G.saves.zip hs)[i]? = some (d, Value.slice a8 d.things.tables.length c8) := (List.getElem?_zip_eq_some (z := (d, Value.slice a8 d.things.tables.length c8))).2 ⟨hi, hv⟩
  have k : ∀ j u, ([Value.slice a8 d.things.tables.length c8, .int .i64 d.things.next, .int .i64 d.fall, .int .i64 d.wide, .int .i64 d.high])[j]? = some u → j < 5 → w.cell? ⟨sb, i * 5 + j, none⟩ = some u := fun j u hj h5 =>
    (h.own.cellAt (i * 5 + j) (by omega)).trans ((flat_at (fun p : M.Wd × Value => [p.2, .int .i64 p.1.things.next, .int .i64 p.1.fall, .int .i64 p.1.wide, .int .i64 p.1.high]) 5 (fun _ => rfl) (G.saves.zip hs) i j hz h5).trans hj)
  exact ⟨a8, c8, hr, k 0 _ rfl (by omega), k 1 _ rfl (by omega), k 2 _ rfl (by omega), k 3 _ rfl (by omega), k 4 _ rfl (by omega)⟩
set_option maxHeartbeats 8000000 in
set_option maxRecDepth 100000 in
theorem do_load {w : World} {Q : Nat → Prop} {g : Nat} {G : M.Game} {a : Option Addr} {c : Nat} {sv : Value} {hs : List Value} (h : GameAt w Q g G a c sv hs) (hq : ∀ b, Q b → b < w.heap.size) (hG : M.GoodG G) (kind id n mask : Int) (row : M.Row) (box : M.Box) (hk : kind = 8) (h0 : 0 ≤ G.acts) (hlt : G.acts < 150) (hx : ActIn ⟨kind, id, n, mask, row, box⟩) :
    Calls Tryz.prog 15 #[.pointer (some ⟨g, 0, none⟩), actV ⟨kind, id, n, mask, row, box⟩] w (DoPost Q w g (M.doAct G ⟨kind, id, n, mask, row, box⟩).1 (M.doAct G ⟨kind, id, n, mask, row, box⟩).2) := by
  have hres : M.doAct G ⟨kind, id, n, mask, row, box⟩ = if n < 0 ∨ (G.saves.length : Int) ≤ n then (more G, M.no 3) else ({ more G with w := G.saves.getD n.toNat G.w }, M.no 0) := by
    unfold M.doAct
    rw [if_neg (by omega)]
    simp only
    rw [if_neg (by omega), if_neg (by omega), if_neg (by omega), if_neg (by omega), if_neg (by omega), if_neg (by omega), if_pos hk]
  rw [hres]
  subst hk
  clear hres
  obtain ⟨G', r, hgr⟩ : ∃ G' r, (if n < 0 ∨ (G.saves.length : Int) ≤ n then (more G, M.no 3) else ({ more G with w := G.saves.getD n.toNat G.w }, M.no 0)) = (G', r) := ⟨_, _, rfl⟩
  rw [hgr]
  have HGR := Lib.hid hgr
  clear hgr
  obtain ⟨sa, sc, esv⟩ := own_form h.own
  have HSV := Lib.hid esv
  have hsl : G.saves.length ≤ 9223372036854775807 := by
    have := (Lies.of_owns h.own).2.1
    unfold maxLen at this
    omega
  clear esv
  have HG0 := Lib.hid h
  have HQ := Lib.hid hq
  have g0 := h.blk.cell 0
  have g1 := h.blk.cell 1
  have g6 := h.blk.cell 6
  have gf := fun i => h.blk.free i
  have lg := h.blk.lt
  simp at g0 g1 g6
  have nl1 : ¬ g = w.heap.size := by omega
  have nl2 : ¬ w.heap.size = g := by omega
  have nl3 : ¬ g = w.heap.size + 1 := by omega
  have nl4 : ¬ w.heap.size + 1 = g := by omega
  clear h hq
  go_enter Tryz.func15, Tryz.ntmps15
  go_upto_region 9 with (fail)
  refine wp_called (fun W2 hW2 => ?_)
  have b3 : Blk W2 (w.heap.size) 27 (actC ⟨8, id, n, mask, row, box⟩) := by
    rw [hW2]
    apply blk_to
    · repeat first | with_reducible exact HG0.out.blk | with_reducible apply Blk.put | with_reducible exact Blk.new_at (h := (by first | rfl | (simp; done) | (simp [World.setCell]; done) | omega)) | with_reducible apply Blk.alloc | with_reducible apply Blk.far (hp := (by first | assumption | omega | (simp; omega)))
    · rfl
  have b4 : Blk W2 (w.heap.size + 1) 40 (#[.int .i64 0, .int .i64 0, .slice none 0 0, .slice none 0 0]) := by
    rw [hW2]
    apply blk_to
    · repeat first | with_reducible exact HG0.out.blk | with_reducible apply Blk.put | with_reducible exact Blk.new_at (h := (by first | rfl | (simp; done) | (simp [World.setCell]; done) | omega)) | with_reducible apply Blk.alloc | with_reducible apply Blk.far (hp := (by first | assumption | omega | (simp; omega)))
    · rfl
  have b7 : Blk W2 (w.heap.size + 2) 31 (#[.slice a G.w.things.tables.length c, .int .i64 G.w.things.next]) := by
    rw [hW2]
    apply blk_to
    · repeat first | with_reducible exact HG0.out.blk | with_reducible apply Blk.put | with_reducible exact Blk.new_at (h := (by first | rfl | (simp; done) | (simp [World.setCell]; done) | omega)) | with_reducible apply Blk.alloc | with_reducible apply Blk.far (hp := (by first | assumption | omega | (simp; omega)))
    · rfl
  have bg : Blk W2 (g) 85 (gameC (.slice a G.w.things.tables.length c) sv (more G)) := by
    rw [hW2]
    apply blk_to
    · repeat first | with_reducible exact HG0.out.blk | with_reducible apply Blk.put | with_reducible exact Blk.new_at (h := (by first | rfl | (simp; done) | (simp [World.setCell]; done) | omega)) | with_reducible apply Blk.alloc | with_reducible apply Blk.far (hp := (by first | assumption | omega | (simp; omega)))
    · rfl
  have HZ2 : Hid (W2.heap.size = w.heap.size + 3) := Lib.hid (by rw [hW2]; simp [World.setCell])
  have hz2 : w.heap.size + 2 < W2.heap.size := by have := HZ2.out; omega
  have hB2 : ∀ b, b < w.heap.size → b ≠ g → W2.heap[b]? = w.heap[b]? := by
    intro b h1 h2
    rw [hW2]
    exact (Below.heap_alloc _ _ b (by simp [World.setCell]; omega)).trans ((Below.heap_alloc _ _ b (by simp [World.setCell]; omega)).trans ((Below.heap_alloc _ _ b (by simp [World.setCell]; omega)).trans (Below.heap_setCell _ _ _ b h2)))
  have HO2 : Hid (Only Q w W2) := Lib.hid (by
    rw [hW2]
    exact ((((Only.refl Q w).setCell (.inl HG0.out.inQ) _).alloc _).alloc _).alloc _)
  have HG2 : Hid (GameAt W2 (QD Q w) g (more G) a c sv hs) := Lib.hid ((HG0.out.wide (R := QD Q w) (fun b h1 k => ⟨.inl k, by omega⟩)).upd (by omega) (fun b h1 _ h3 => hB2 b h1 h3) bg rfl (((HG0.out.wide (R := QD Q w) (fun b h1 k => ⟨.inl k, by omega⟩)).st).step (by omega) (fun b h1 k => hB2 b h1 k.2.1)))
  have HNQ : Hid (∀ b, W2.heap.size ≤ b → QD Q w b) := Lib.hid (fun b hb => ⟨.inr (by omega), by omega⟩)
  have x0 := b3.cell 0
  have x1 := b3.cell 1
  have x2 := b3.cell 2
  have x3 := b3.cell 3
  have x4 := b3.cell 4
  have x5 := b3.cell 5
  have x6 := b3.cell 6
  have x7 := b3.cell 7
  have x8 := b3.cell 8
  have x9 := b3.cell 9
  have x10 := b3.cell 10
  have x11 := b3.cell 11
  have x12 := b3.cell 12
  have x13 := b3.cell 13
  have x14 := b3.cell 14
  have x15 := b3.cell 15
  have x16 := b3.cell 16
  simp at x0 x1 x2 x3 x4 x5 x6 x7 x8 x9 x10 x11 x12 x13 x14 x15 x16
  have s0 := b7.cell 0
  have s1 := b7.cell 1
  have y0 := b4.cell 0
  have y1 := b4.cell 1
  have y2 := b4.cell 2
  have y3 := b4.cell 3
  have yf := fun i => b4.free i
  have gw0 := bg.cell 0
  have gw1 := bg.cell 1
  have gw2 := bg.cell 2
  have gw3 := bg.cell 3
  have gw4 := bg.cell 4
  have gw5 := bg.cell 5
  have gw6 := bg.cell 6
  have gff := fun i => bg.free i
  have l2g := bg.lt
  have l23 := b3.lt
  have l24 := b4.lt
  have l27 := b7.lt
  simp at s0 s1 y0 y1 y2 y3 gw0 gw1 gw2 gw3 gw4 gw5 gw6
  have HB3 := Lib.hid b3
  have HB4 := Lib.hid b4
  have HB7 := Lib.hid b7
  have HBG := Lib.hid bg
  have HIN := Lib.hid (good_in hG.w.things)
  clear hW2 hB2 b3 b4 b7 bg g0 g1 g6 gf
  rw [HSV.out] at gw5
  rcases (show n < 0 ∨ (¬ n < 0 ∧ (G.saves.length : Int) ≤ n) ∨ (¬ n < 0 ∧ ¬ (G.saves.length : Int) ≤ n) by omega) with hn | ⟨hn, hn8⟩ | ⟨hn, hn8⟩
  · have e := HGR.out
    rw [if_pos (.inl hn)] at e
    simp only [Prod.mk.injEq] at e
    obtain ⟨rfl, rfl⟩ := e
    clear hG hx
    go_upto_region 30 with (fail)
    go_quiet (fail)
    go_upto_region 31 with (fail)
    refine wp_called (fun W3 hW3 => ?_)
    have K3 : Below W2.heap.size W2 W3 := by rw [hW3]; first | exact Below.refl _ _ | exact (Below.refl _ _).drew | exact below_drewN (Below.refl _ _) _ | exact (by repeat first | with_reducible assumption | with_reducible exact Below.refl _ _ | with_reducible apply Below.drew | with_reducible apply below_drewN | with_reducible apply Below.alloc (hB := (by first | omega | (simp; done) | (simp; omega))) | with_reducible apply Below.setCell (hp := (by first | omega | (simp; done) | (simp; omega))))
    have HG3 := Lib.hid (HG2.out.below K3)
    have HO3 := Lib.hid (HO2.out.more K3)
    have HB43 := Lib.hid (HB4.out.below K3 HB4.out.lt)
    have kz3 := K3.size
    clear hW3 x0 x1 x2 x3 x4 x5 x6 x7 x8 x9 x10 x11 x12 x13 x14 x15 x16 s0 s1 gw0 gw1 gw2 gw3 gw4 gw5 gw6 gff y0 y1 y2 y3 yf
    have y0 := HB43.out.cell 0
    have y1 := HB43.out.cell 1
    have y2 := HB43.out.cell 2
    have y3 := HB43.out.cell 3
    have yf := fun i => HB43.out.free i
    simp at y0 y1 y2 y3
    have l34 := HB43.out.lt
    go_wp2_with (go_at_call 32; go_loud (refine (no_calls _ _).mono ?_; rintro e w6 ⟨rfl, rfl⟩))
    refine bodyPost_ret (results_cell_row rfl _ _ _ _ _ _ _ rfl ((Below.heap_alloc _ _ _ (by simp [World.setCell]; omega)).trans (reply_blk HB43.out _ _ _ _)) Tryz.underlying40 rfl (by kernel_rfl)) rfl ?_
    refine DoPost.more ?_ ((Below.refl _ _).alloc (Nat.le_refl _) _)
    unfold DoPost
    exact do_end (U := W3) HG3.out HO3.out l34 (Below.refl _ _) (M.no 3) (ids := .slice none 0 0) (met := .slice none 0 0) (i0 := undef) (m0 := undef) (World.ownsRow_nil _ _ _ _) (World.ownsRow_nil _ _ _ _) (fun b e => by cases e) (fun b e => by cases e) HQ.out _ _ _ _
  · have e := HGR.out
    rw [if_pos (.inr hn8)] at e
    simp only [Prod.mk.injEq] at e
    obtain ⟨rfl, rfl⟩ := e
    clear hG hx
    go_upto_region 30 with (fail)
    go_quiet (fail)
    go_upto_region 31 with (fail)
    refine wp_called (fun W3 hW3 => ?_)
    have K3 : Below W2.heap.size W2 W3 := by rw [hW3]; first | exact Below.refl _ _ | exact (Below.refl _ _).drew | exact below_drewN (Below.refl _ _) _ | exact (by repeat first | with_reducible assumption | with_reducible exact Below.refl _ _ | with_reducible apply Below.drew | with_reducible apply below_drewN | with_reducible apply Below.alloc (hB := (by first | omega | (simp; done) | (simp; omega))) | with_reducible apply Below.setCell (hp := (by first | omega | (simp; done) | (simp; omega))))
    have HG3 := Lib.hid (HG2.out.below K3)
    have HO3 := Lib.hid (HO2.out.more K3)
    have HB43 := Lib.hid (HB4.out.below K3 HB4.out.lt)
    have kz3 := K3.size
    clear hW3 x0 x1 x2 x3 x4 x5 x6 x7 x8 x9 x10 x11 x12 x13 x14 x15 x16 s0 s1 gw0 gw1 gw2 gw3 gw4 gw5 gw6 gff y0 y1 y2 y3 yf
    have y0 := HB43.out.cell 0
    have y1 := HB43.out.cell 1
    have y2 := HB43.out.cell 2
    have y3 := HB43.out.cell 3
    have yf := fun i => HB43.out.free i
    simp at y0 y1 y2 y3
    have l34 := HB43.out.lt
    go_wp2_with (go_at_call 32; go_loud (refine (no_calls _ _).mono ?_; rintro e w6 ⟨rfl, rfl⟩))
    refine bodyPost_ret (results_cell_row rfl _ _ _ _ _ _ _ rfl ((Below.heap_alloc _ _ _ (by simp [World.setCell]; omega)).trans (reply_blk HB43.out _ _ _ _)) Tryz.underlying40 rfl (by kernel_rfl)) rfl ?_
    refine DoPost.more ?_ ((Below.refl _ _).alloc (Nat.le_refl _) _)
    unfold DoPost
    exact do_end (U := W3) HG3.out HO3.out l34 (Below.refl _ _) (M.no 3) (ids := .slice none 0 0) (met := .slice none 0 0) (i0 := undef) (m0 := undef) (World.ownsRow_nil _ _ _ _) (World.ownsRow_nil _ _ _ _) (fun b e => by cases e) (fun b e => by cases e) HQ.out _ _ _ _
  · have e := HGR.out
    rw [if_neg (by omega)] at e
    simp only [Prod.mk.injEq] at e
    obtain ⟨N, rfl⟩ : ∃ N : Nat, n = (N : Int) := ⟨n.toNat, by omega⟩
    have hlt : N < G.saves.length := by omega
    obtain ⟨d, hd⟩ : ∃ d, G.saves[N]? = some d := ⟨_, List.getElem?_eq_getElem hlt⟩
    rw [show G.saves.getD (N : Int).toNat G.w = d by simp [List.getD, hd]] at e
    obtain ⟨rfl, rfl⟩ := e
    obtain ⟨sb, sc', e2, _, lsb⟩ := own_val HG2.out.own (by show 0 < G.saves.length; omega)
    rw [HSV.out] at e2
    simp only [Value.slice.injEq, true_and] at e2
    obtain ⟨rfl, rfl⟩ := e2
    have esv := HSV.out
    subst esv
    obtain ⟨a8, c8, hr8, v0, v1, v2, v3, v4⟩ := save_cells (G := more G) HG2.out hd
    have HR8 := Lib.hid hr8
    have hcap : G.saves.length ≤ sc ∧ sc ≤ 9223372036854775807 := by
      rcases HG2.out.own.2 with ⟨e, _⟩ | ⟨g', cap', cur, e, _, _, hn, hm, _⟩
      · simp at e
      · simp only [Value.slice.injEq, true_and] at e
        obtain ⟨_, rfl⟩ := e
        unfold maxLen at hm
        exact ⟨hn, by omega⟩
    clear hG hx hr8 hd
    go_upto_region 30 with (fail)
    go_quiet (fail)
    go_upto_region 32 with (fail)
    refine wp_called (fun W3 hW3 => ?_)
    have K3 : Below W2.heap.size W2 W3 := by rw [hW3]; first | exact Below.refl _ _ | exact (Below.refl _ _).drew | exact below_drewN (Below.refl _ _) _ | exact (by repeat first | with_reducible assumption | with_reducible exact Below.refl _ _ | with_reducible apply Below.drew | with_reducible apply below_drewN | with_reducible apply Below.alloc (hB := (by first | omega | (simp; done) | (simp; omega))) | with_reducible apply Below.setCell (hp := (by first | omega | (simp; done) | (simp; omega))))
    have HG3 := Lib.hid (HG2.out.below K3)
    have HO3 := Lib.hid (HO2.out.more K3)
    have HB43 := Lib.hid (HB4.out.below K3 HB4.out.lt)
    have HR3 := Lib.hid (HR8.out.step K3.size (fun b h1 _ => K3.block b h1))
    have kz3 := K3.size
    have v0 := (K3.cell (p := ⟨sb, N * 5, none⟩) lsb).trans v0
    have v1 := (K3.cell (p := ⟨sb, N * 5 + 1, none⟩) lsb).trans v1
    have v2 := (K3.cell (p := ⟨sb, N * 5 + 2, none⟩) lsb).trans v2
    have v3 := (K3.cell (p := ⟨sb, N * 5 + 3, none⟩) lsb).trans v3
    have v4 := (K3.cell (p := ⟨sb, N * 5 + 4, none⟩) lsb).trans v4
    have x2 := (K3.cell (p := ⟨w.heap.size, 2, none⟩) l23).trans x2
    have bg3 := HBG.out.below K3 HBG.out.lt
    have gw0 := bg3.cell 0
    have gw1 := bg3.cell 1
    have gw2 := bg3.cell 2
    have gw3 := bg3.cell 3
    have gw4 := bg3.cell 4
    have gw5 := bg3.cell 5
    have gff := fun i => bg3.free i
    simp at gw0 gw1 gw2 gw3 gw4 gw5
    have HBG3 := Lib.hid bg3
    clear hW3 K3 bg3
    go_still_tail 11, (by kernel_rfl)
    go_upto_region 33 with (fail)
    refine wp_called (fun W4 hW4 => ?_)
    have far : ∀ b, b ≠ g → W4.heap[b]? = W3.heap[b]? := fun b hb => by
      rw [hW4]
      exact ((((Below.heap_setCell _ _ _ b hb).trans (Below.heap_setCell _ _ _ b hb)).trans (Below.heap_setCell _ _ _ b hb)).trans (Below.heap_setCell _ _ _ b hb)).trans (Below.heap_setCell _ _ _ b hb)
    have hz4 : W3.heap.size ≤ W4.heap.size := by rw [hW4]; simp [World.setCell]
    have HG4 : Hid (GameAt W4 (QD Q w) g ({ more G with w := d }) a8 c8 (Value.slice (some ⟨sb, 0, none⟩) G.saves.length sc) hs) := Lib.hid (HG3.out.upd (G' := { more G with w := d }) hz4 (fun b _ _ h => far b h) (by rw [hW4]; exact blk_to (((((HBG3.out.put 0 _).put 1 _).put 2 _).put 3 _).put 4 _) (by rfl)) rfl (HR3.out.step hz4 (fun b _ k => far b k.2.1)))
    have HO4 : Hid (Only Q w W4) := Lib.hid (by rw [hW4]; first | exact (((((HO3.out.setCell (p := ⟨g, 0, none⟩) (.inl HG0.out.inQ) _).setCell (p := ⟨g, 1, none⟩) (.inl HG0.out.inQ) _).setCell (p := ⟨g, 2, none⟩) (.inl HG0.out.inQ) _).setCell (p := ⟨g, 3, none⟩) (.inl HG0.out.inQ) _).setCell (p := ⟨g, 4, none⟩) (.inl HG0.out.inQ) _).drew | exact ((((HO3.out.setCell (p := ⟨g, 0, none⟩) (.inl HG0.out.inQ) _).setCell (p := ⟨g, 1, none⟩) (.inl HG0.out.inQ) _).setCell (p := ⟨g, 2, none⟩) (.inl HG0.out.inQ) _).setCell (p := ⟨g, 3, none⟩) (.inl HG0.out.inQ) _).setCell (p := ⟨g, 4, none⟩) (.inl HG0.out.inQ) _)
    have HB44 : Hid (Blk W4 (w.heap.size + 1) 40 #[.int .i64 0, .int .i64 0, .slice none 0 0, .slice none 0 0]) := Lib.hid (by rw [hW4]; first | exact (((((HB43.out.far (p := ⟨g, 0, none⟩) nl4 _).far (p := ⟨g, 1, none⟩) nl4 _).far (p := ⟨g, 2, none⟩) nl4 _).far (p := ⟨g, 3, none⟩) nl4 _).far (p := ⟨g, 4, none⟩) nl4 _).drew | exact ((((HB43.out.far (p := ⟨g, 0, none⟩) nl4 _).far (p := ⟨g, 1, none⟩) nl4 _).far (p := ⟨g, 2, none⟩) nl4 _).far (p := ⟨g, 3, none⟩) nl4 _).far (p := ⟨g, 4, none⟩) nl4 _)
    clear hW4 far HB43 HG3 HO3 y0 y1 y2 y3 yf
    have HB43 := HB44
    have HG3 := HG4
    have HO3 := HO4
    have y0 := HB43.out.cell 0
    have y1 := HB43.out.cell 1
    have y2 := HB43.out.cell 2
    have y3 := HB43.out.cell 3
    have yf := fun i => HB43.out.free i
    simp at y0 y1 y2 y3
    have l34 := HB43.out.lt
    go_wp2_with (go_at_call 32; go_loud (refine (no_calls _ _).mono ?_; rintro e w6 ⟨rfl, rfl⟩))
    refine bodyPost_ret (results_cell_row rfl _ _ _ _ _ _ _ rfl ((Below.heap_alloc _ _ _ (by simp [World.setCell]; omega)).trans (reply_blk HB43.out _ _ _ _)) Tryz.underlying40 rfl (by kernel_rfl)) rfl ?_
    refine DoPost.more ?_ ((Below.refl _ _).alloc (Nat.le_refl _) _)
    unfold DoPost
    exact do_end (U := W4) HG3.out HO3.out l34 (Below.refl _ _) (M.no 0) (ids := .slice none 0 0) (met := .slice none 0 0) (i0 := undef) (m0 := undef) (World.ownsRow_nil _ _ _ _) (World.ownsRow_nil _ _ _ _) (fun b e => by cases e) (fun b e => by cases e) HQ.out _ _ _ _
end Go.Proofs.YtkpecagkpjabdacGreat
