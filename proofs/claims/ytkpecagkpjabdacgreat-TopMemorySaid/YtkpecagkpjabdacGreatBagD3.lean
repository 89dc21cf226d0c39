/- Several small texts in one. No condition of its own: each part says its own. -/
import Derived.Test.YtkpecagkpjabdacGreatBagH
import Derived.Deep.RegionLaw
import Derived.Test.YtkpecagkpjabdacGreatBagD1
import Derived.Test.YtkpecagkpjabdacGreatGameDo2
import Derived.Test.YtkpecagkpjabdacGreatGameLoad
import Derived.Test.YtkpecagkpjabdacGreatBagD0
/- The contract of Do for acts that save. Condition: the game lies in memory and is good. -/
namespace Go.Proofs.YtkpecagkpjabdacGreat
open Go.RowKit
set_option linter.unusedVariables false
set_option linter.unusedSimpArgs false
set_option maxRecDepth 100000
theorem infoWorld : (Tryz.prog.info? 33).map (fun i => (i.zero, i.size, i.bytes)) = some (some (.agg #[.slice none 0 0, .int .i64 0, .int .i64 0, .int .i64 0, .int .i64 0]), 5, 56) := by kernel_rfl
set_option maxHeartbeats 8000000 in
set_option maxRecDepth 100000 in
theorem do_save {w : World} {Q : Nat → Prop} {g : Nat} {G : M.Game} {a : Option Addr} {c : Nat} {sv : Value} {hs : List Value} (h : GameAt w Q g G a c sv hs) (hq : ∀ b, Q b → b < w.heap.size) (hG : M.GoodG G) (kind id n mask : Int) (row : M.Row) (box : M.Box) (hk : kind = 7) (h0 : 0 ≤ G.acts) (hlt : G.acts < 150) (hx : ActIn ⟨kind, id, n, mask, row, box⟩) :
    Calls Tryz.prog 15 #[.pointer (some ⟨g, 0, none⟩), actV ⟨kind, id, n, mask, row, box⟩] w (DoPost Q w g (M.doAct G ⟨kind, id, n, mask, row, box⟩).1 (M.doAct G ⟨kind, id, n, mask, row, box⟩).2) := by
  have hres : M.doAct G ⟨kind, id, n, mask, row, box⟩ = if 3 ≤ G.saves.length then (more G, M.no 5) else ({ more G with saves := G.saves ++ [G.w] }, ⟨0, G.saves.length, [], []⟩) := by
    unfold M.doAct
    rw [if_neg (by omega)]
    simp only
    rw [if_neg (by omega), if_neg (by omega), if_neg (by omega), if_neg (by omega), if_neg (by omega), if_pos hk]
  rw [hres]
  subst hk
  clear hres
  obtain ⟨G', r, hgr⟩ : ∃ G' r, (if 3 ≤ G.saves.length then (more G, M.no 5) else ({ more G with saves := G.saves ++ [G.w] }, ⟨0, G.saves.length, [], []⟩)) = (G', r) := ⟨_, _, rfl⟩
  rw [hgr]
  have HGR := Lib.hid hgr
  clear hgr
  obtain ⟨sa, sc, esv⟩ := own_form h.own
  have HSV := Lib.hid esv
  have hsl : G.saves.length ≤ 9223372036854775807 := by
    have := (Lies.of_owns h.own).2.1
    unfold maxLen at this
    omega
  obtain ⟨i0, hi, iz0, iz1, iz2⟩ := info_parts infoWorld
  clear esv
  have HG0 := Lib.hid h
  have HQ := Lib.hid hq
  have g0 := h.blk.cell 0
  have g1 := h.blk.cell 1
  have g6 := h.blk.cell 6
  have gf := fun i => h.blk.free i
  have lg := h.blk.lt
  simp at g0 g1 g6
  have nl1 : ¬ g = w.heap.size := by omega
  have nl2 : ¬ w.heap.size = g := by omega
  have nl3 : ¬ g = w.heap.size + 1 := by omega
  have nl4 : ¬ w.heap.size + 1 = g := by omega
  clear h hq
  go_enter Tryz.func15, Tryz.ntmps15
  go_upto_region 9 with (fail)
  refine wp_called (fun W2 hW2 => ?_)
  have b3 : Blk W2 (w.heap.size) 27 (actC ⟨7, id, n, mask, row, box⟩) := by
    rw [hW2]
    apply blk_to
    · repeat first | with_reducible exact HG0.out.blk | with_reducible apply Blk.put | with_reducible exact Blk.new_at (h := (by first | rfl | (simp; done) | (simp [World.setCell]; done) | omega)) | with_reducible apply Blk.alloc | with_reducible apply Blk.far (hp := (by first | assumption | omega | (simp; omega)))
    · rfl
  have b4 : Blk W2 (w.heap.size + 1) 40 (#[.int .i64 0, .int .i64 0, .slice none 0 0, .slice none 0 0]) := by
    rw [hW2]
    apply blk_to
    · repeat first | with_reducible exact HG0.out.blk | with_reducible apply Blk.put | with_reducible exact Blk.new_at (h := (by first | rfl | (simp; done) | (simp [World.setCell]; done) | omega)) | with_reducible apply Blk.alloc | with_reducible apply Blk.far (hp := (by first | assumption | omega | (simp; omega)))
    · rfl
  have b7 : Blk W2 (w.heap.size + 2) 31 (#[.slice a G.w.things.tables.length c, .int .i64 G.w.things.next]) := by
    rw [hW2]
    apply blk_to
    · repeat first | with_reducible exact HG0.out.blk | with_reducible apply Blk.put | with_reducible exact Blk.new_at (h := (by first | rfl | (simp; done) | (simp [World.setCell]; done) | omega)) | with_reducible apply Blk.alloc | with_reducible apply Blk.far (hp := (by first | assumption | omega | (simp; omega)))
    · rfl
  have bg : Blk W2 (g) 85 (gameC (.slice a G.w.things.tables.length c) sv (more G)) := by
    rw [hW2]
    apply blk_to
    · repeat first | with_reducible exact HG0.out.blk | with_reducible apply Blk.put | with_reducible exact Blk.new_at (h := (by first | rfl | (simp; done) | (simp [World.setCell]; done) | omega)) | with_reducible apply Blk.alloc | with_reducible apply Blk.far (hp := (by first | assumption | omega | (simp; omega)))
    · rfl
  have HZ2 : Hid (W2.heap.size = w.heap.size + 3) := Lib.hid (by rw [hW2]; simp [World.setCell])
  have hz2 : w.heap.size + 2 < W2.heap.size := by have := HZ2.out; omega
  have hB2 : ∀ b, b < w.heap.size → b ≠ g → W2.heap[b]? = w.heap[b]? := by
    intro b h1 h2
    rw [hW2]
    exact (Below.heap_alloc _ _ b (by simp [World.setCell]; omega)).trans ((Below.heap_alloc _ _ b (by simp [World.setCell]; omega)).trans ((Below.heap_alloc _ _ b (by simp [World.setCell]; omega)).trans (Below.heap_setCell _ _ _ b h2)))
  have HO2 : Hid (Only Q w W2) := Lib.hid (by
    rw [hW2]
    exact ((((Only.refl Q w).setCell (.inl HG0.out.inQ) _).alloc _).alloc _).alloc _)
  have HG2 : Hid (GameAt W2 (QD Q w) g (more G) a c sv hs) := Lib.hid ((HG0.out.wide (R := QD Q w) (fun b h1 k => ⟨.inl k, by omega⟩)).upd (by omega) (fun b h1 _ h3 => hB2 b h1 h3) bg rfl (((HG0.out.wide (R := QD Q w) (fun b h1 k => ⟨.inl k, by omega⟩)).st).step (by omega) (fun b h1 k => hB2 b h1 k.2.1)))
  have HNQ : Hid (∀ b, W2.heap.size ≤ b → QD Q w b) := Lib.hid (fun b hb => ⟨.inr (by omega), by omega⟩)
  have x0 := b3.cell 0
  have x1 := b3.cell 1
  have x2 := b3.cell 2
  have x3 := b3.cell 3
  have x4 := b3.cell 4
  have x5 := b3.cell 5
  have x6 := b3.cell 6
  have x7 := b3.cell 7
  have x8 := b3.cell 8
  have x9 := b3.cell 9
  have x10 := b3.cell 10
  have x11 := b3.cell 11
  have x12 := b3.cell 12
  have x13 := b3.cell 13
  have x14 := b3.cell 14
  have x15 := b3.cell 15
  have x16 := b3.cell 16
  simp at x0 x1 x2 x3 x4 x5 x6 x7 x8 x9 x10 x11 x12 x13 x14 x15 x16
  have s0 := b7.cell 0
  have s1 := b7.cell 1
  have y0 := b4.cell 0
  have y1 := b4.cell 1
  have y2 := b4.cell 2
  have y3 := b4.cell 3
  have yf := fun i => b4.free i
  have gw0 := bg.cell 0
  have gw1 := bg.cell 1
  have gw2 := bg.cell 2
  have gw3 := bg.cell 3
  have gw4 := bg.cell 4
  have gw5 := bg.cell 5
  have gw6 := bg.cell 6
  have gff := fun i => bg.free i
  have l2g := bg.lt
  have l23 := b3.lt
  have l24 := b4.lt
  have l27 := b7.lt
  simp at s0 s1 y0 y1 y2 y3 gw0 gw1 gw2 gw3 gw4 gw5 gw6
  have HB3 := Lib.hid b3
  have HB4 := Lib.hid b4
  have HB7 := Lib.hid b7
  have HBG := Lib.hid bg
  have HIN := Lib.hid (good_in hG.w.things)
  clear hW2 hB2 b3 b4 b7 bg g0 g1 g6 gf
  rw [HSV.out] at gw5
  rcases Nat.lt_or_ge G.saves.length 3 with hn | hn
  · have e := HGR.out
    rw [if_neg (by omega)] at e
    simp only [Prod.mk.injEq] at e
    obtain ⟨rfl, rfl⟩ := e
    have esv := HSV.out
    subst esv
    have HNG : Hid ((Value.slice sa G.saves.length sc).ownBlock ≠ some g) := Lib.hid (fun e => (HG2.out.ov g e).2 rfl)
    clear hG hx
    go_upto_region 27 with (fail)
    go_region_law ((refine step_append_own_atK2 rfl (.tmp 109) (.tmp 114) 83 rfl 0 33 i0 _ 5 56 Tryz.underlying83 hi iz0 iz1 iz2 rfl (by omega) (Value.slice sa G.saves.length sc) G.saves.length (saveL G.saves hs) (own_below HG2.out.own (show Below W2.heap.size W2 _ from (by repeat first | with_reducible assumption | with_reducible exact Below.refl _ _ | with_reducible apply Below.drew | with_reducible apply below_drewN | with_reducible apply Below.alloc (hB := (by first | omega | (simp; done) | (simp; omega))) | with_reducible apply Below.setCell (hp := (by first | omega | (simp; done) | (simp; omega)))))) (by rfl) ⟨W2.heap.size, 0, none⟩ 1 1 [.slice a G.w.things.tables.length c, .int .i64 G.w.things.next, .int .i64 G.w.fall, .int .i64 G.w.wide, .int .i64 G.w.high] (by rfl) rfl (by intro j u hu; rw [Addr.add_lit]; match j, hu with | 0, hu => (simp at hu; subst hu; simp) | 1, hu => (simp at hu; subst hu; simp) | 2, hu => (simp at hu; subst hu; simp) | 3, hu => (simp at hu; subst hu; simp) | 4, hu => (simp at hu; subst hu; simp) | j + 5, hu => simp at hu) (by intro u hu; simp only [List.mem_cons, List.not_mem_nil, or_false] at hu; rcases hu with rfl | rfl | rfl | rfl | rfl <;> rfl) (by unfold maxLen; omega) (by omega) (Nat.zero_le _) ?_); intro v9 w9 hown9 hg9 hat9; obtain ⟨va9, vc9, rfl⟩ := own_form hown9; have HO9 := Lib.hid hown9; have HG9 := Lib.hid hg9; have HA9 := Lib.hid (show (Value.slice va9 (G.saves.length + 1) vc9).ownBlock = (Value.slice sa G.saves.length sc).ownBlock ∨ (Value.slice va9 (G.saves.length + 1) vc9).ownBlock = some (W2.heap.size + 1) from (by rcases hat9 with q | q; exact .inl q; exact .inr (q.trans (by simp)))); have bg9 : Blk w9 g 85 (gameC (.slice a G.w.things.tables.length c) (.slice sa G.saves.length sc) (more G)) := (by first | exact (HG9.out.block g (by simp; omega) (fun e => HNG.out e.symm)).trans (HBG.out.alloc _) | exact (HG9.out.block g (by simp; omega) (fun e => HNG.out e.symm)).trans (HBG.out.drew.alloc _)); have gv5 := Blk.cell bg9 5; simp at gv5; have gvf := (fun i => Blk.free bg9 i); have lv := Blk.lt bg9; have HBG9 := Lib.hid bg9; clear hown9 hg9 hat9 bg9)
    all_goals
      go_upto_region 28 with (fail)
      refine wp_called (fun W4 hW4 => ?_)
      have far : ∀ b, b ≠ g → W4.heap[b]? = w9.heap[b]? := fun b hb => by
        rw [hW4]
        exact Below.heap_setCell _ _ _ b hb
      have hz9 : W2.heap.size < w9.heap.size := by have := HG9.out.size; simp at this; omega
      have hz4 : w9.heap.size ≤ W4.heap.size := by rw [hW4]; simp [World.setCell]
      have old : ∀ b, b < W2.heap.size → (Value.slice sa G.saves.length sc).ownBlock ≠ some b → w9.heap[b]? = W2.heap[b]? := fun b h1 h2 => (HG9.out.block b (by simp; omega) (fun e => h2 e.symm)).trans (Below.heap_alloc _ _ b h1)
      have turn : ∀ {v : Value} {s : M.Store}, Rob W2 (InG (QD Q w) g (.slice sa G.saves.length sc)) v s → Rob W4 (InG (QD Q w) g (Value.slice va9 (G.saves.length + 1) vc9)) v s := fun h =>
        ((h.wide (R := fun b => InG (QD Q w) g (.slice sa G.saves.length sc) b ∧ b < W2.heap.size) (fun b h1 k => ⟨k, h1⟩)).step (by omega) (fun b h1 k => (far b k.1.2.1).trans (old b h1 k.1.2.2))).wide (fun b _ k => ⟨k.1.1, k.1.2.1, fun e => by
          rcases HA9.out with q | q
          · exact k.1.2.2 (q ▸ e)
          · rw [q] at e
            simp at e
            have := k.2
            omega⟩)
      have hlen := HG2.out.len
      have HG4 : Hid (GameAt W4 (QD Q w) g ({ more G with saves := G.saves ++ [G.w] }) a c (Value.slice va9 (G.saves.length + 1) vc9) (hs ++ [.slice a G.w.things.tables.length c])) := Lib.hid (by
        refine ⟨?_, HG2.out.inQ, turn HG2.out.st, ?_, ?_, ?_, ?_⟩
        · rw [hW4]; exact blk_to (HBG9.out.put 5 (Value.slice va9 (G.saves.length + 1) vc9)) (by rfl)
        · have e : saveL (G.saves ++ [G.w]) (hs ++ [Value.slice a G.w.things.tables.length c]) = saveL G.saves hs ++ [.slice a G.w.things.tables.length c, .int .i64 G.w.things.next, .int .i64 G.w.fall, .int .i64 G.w.wide, .int .i64 G.w.high] := by
            unfold saveL
            rw [List.zip_append (by exact hlen.symm), List.flatMap_append]
            rfl
          have k := own_same HO9.out (w' := W4) (fun b eb => far b (fun eg => by
            rcases HA9.out with q | q
            · exact HNG.out (by rw [← q, eb, eg])
            · rw [eb] at q
              simp at q
              omega))
          show W4.ownsRow 0 33 5 (Value.slice va9 (G.saves.length + 1) vc9) (G.saves ++ [G.w]).length (saveL (G.saves ++ [G.w]) (hs ++ [Value.slice a G.w.things.tables.length c]))
          rw [e, List.length_append]
          exact k
        · show (hs ++ _).length = (G.saves ++ [G.w]).length
          rw [List.length_append, List.length_append]
          have : hs.length = G.saves.length := hlen
          simp [this]
        · intro b eb
          rcases HA9.out with q | q
          · exact HG2.out.ov b (q ▸ eb)
          · rw [eb] at q
            simp at q
            exact ⟨⟨.inr (by omega), by omega⟩, by omega⟩
        · intro i d v h1 h2
          have hlen' : hs.length = G.saves.length := hlen
          rcases Nat.lt_or_ge i G.saves.length with hi | hi
          · obtain ⟨a8, c8, e8, r8⟩ := HG2.out.each i d v ((List.getElem?_append_left hi).symm.trans h1) ((List.getElem?_append_left (by omega)).symm.trans h2)
            exact ⟨a8, c8, e8, turn r8⟩
          · have h1' : (G.saves ++ [G.w])[i]? = some d := h1
            rw [List.getElem?_append_right hi] at h1'
            rw [List.getElem?_append_right (by omega)] at h2
            have hi0 : i = G.saves.length := by
              have := (List.getElem?_eq_some_iff.1 h1').1
              simp at this
              omega
            subst hi0
            rw [hlen'] at h2
            simp at h1' h2
            subst h1' h2
            exact ⟨a, c, rfl, turn HG2.out.st⟩)
      have HO4 : Hid (Only Q w W4) := Lib.hid (by
        refine ⟨?_, ?_, ?_, by have := HO2.out.size; omega, fun b h1 h2 => (far b (fun e => h2 (e ▸ HG0.out.inQ))).trans ((old b (by omega) (fun e => h2 (by have k := (HG0.out.ov b e).1; exact k))).trans (HO2.out.block b h1 h2))⟩
        · rw [hW4]; exact HG9.out.os.trans HO2.out.os
        · rw [hW4]; exact HG9.out.tape.trans HO2.out.tape
        · rw [hW4]; exact HG9.out.output.trans HO2.out.output)
      have HB44 : Hid (Blk W4 (w.heap.size + 1) 40 #[.int .i64 0, .int .i64 0, .slice none 0 0, .slice none 0 0]) := Lib.hid ((far _ nl4).trans ((old _ l24 (fun e => (HG2.out.ov _ e).1.2 rfl)).trans HB4.out))
      have bg4 := HG4.out.blk
      have u5 := bg4.cell 5
      simp at u5
      have lg4 := bg4.lt
      clear hW4 far old turn bg4 gv5 gvf lv y0 y1 y2 y3 yf gw0 gw1 gw2 gw3 gw4 gw5 gw6 gff x0 x1 x2 x3 x4 x5 x6 x7 x8 x9 x10 x11 x12 x13 x14 x15 x16 s0 s1
      have HB43 := HB44
      have HG3 := HG4
      have HO3 := HO4
      have hw1 : IntKind.i64.wrap ((G.saves.length : Int) + 1 - 1) = (G.saves.length : Int) := by rw [IntKind.wrap_i64]; omega
      have y0 := HB43.out.cell 0
      have y1 := HB43.out.cell 1
      have y2 := HB43.out.cell 2
      have y3 := HB43.out.cell 3
      have yf := fun i => HB43.out.free i
      simp at y0 y1 y2 y3
      have l34 := HB43.out.lt
      go_wp2_with fail
      refine bodyPost_ret (results_cell_row rfl _ _ _ _ _ _ _ rfl (reply_blk HB43.out _ _ _ _) Tryz.underlying40 rfl (by kernel_rfl)) rfl ?_
      unfold DoPost
      exact do_end (U := W4) HG3.out HO3.out l34 (Below.refl _ _) ⟨0, (G.saves.length : Int), [], []⟩ (ids := .slice none 0 0) (met := .slice none 0 0) (i0 := undef) (m0 := undef) (World.ownsRow_nil _ _ _ _) (World.ownsRow_nil _ _ _ _) (fun b e => by cases e) (fun b e => by cases e) HQ.out _ _ _ _
  · have e := HGR.out
    rw [if_pos hn] at e
    simp only [Prod.mk.injEq] at e
    obtain ⟨rfl, rfl⟩ := e
    clear hG hx
    go_upto_region 26 with (fail)
    refine wp_called (fun W3 hW3 => ?_)
    have K3 : Below W2.heap.size W2 W3 := by rw [hW3]; first | exact Below.refl _ _ | exact (Below.refl _ _).drew | exact below_drewN (Below.refl _ _) _ | exact (by repeat first | with_reducible assumption | with_reducible exact Below.refl _ _ | with_reducible apply Below.drew | with_reducible apply below_drewN | with_reducible apply Below.alloc (hB := (by first | omega | (simp; done) | (simp; omega))) | with_reducible apply Below.setCell (hp := (by first | omega | (simp; done) | (simp; omega))))
    have HG3 := Lib.hid (HG2.out.below K3)
    have HO3 := Lib.hid (HO2.out.more K3)
    have HB43 := Lib.hid (HB4.out.below K3 HB4.out.lt)
    have kz3 := K3.size
    clear hW3 x0 x1 x2 x3 x4 x5 x6 x7 x8 x9 x10 x11 x12 x13 x14 x15 x16 s0 s1 gw0 gw1 gw2 gw3 gw4 gw5 gw6 gff y0 y1 y2 y3 yf
    have y0 := HB43.out.cell 0
    have y1 := HB43.out.cell 1
    have y2 := HB43.out.cell 2
    have y3 := HB43.out.cell 3
    have yf := fun i => HB43.out.free i
    simp at y0 y1 y2 y3
    have l34 := HB43.out.lt
    go_wp2_with (go_at_call 32; go_loud (refine (no_calls _ _).mono ?_; rintro e w6 ⟨rfl, rfl⟩))
    refine bodyPost_ret (results_cell_row rfl _ _ _ _ _ _ _ rfl ((Below.heap_alloc _ _ _ (by simp [World.setCell]; omega)).trans (reply_blk HB43.out _ _ _ _)) Tryz.underlying40 rfl (by kernel_rfl)) rfl ?_
    refine DoPost.more ?_ ((Below.refl _ _).alloc (Nat.le_refl _) _)
    unfold DoPost
    exact do_end (U := W3) HG3.out HO3.out l34 (Below.refl _ _) (M.no 5) (ids := .slice none 0 0) (met := .slice none 0 0) (i0 := undef) (m0 := undef) (World.ownsRow_nil _ _ _ _) (World.ownsRow_nil _ _ _ _) (fun b e => by cases e) (fun b e => by cases e) HQ.out _ _ _ _
end Go.Proofs.YtkpecagkpjabdacGreat
/- The contract of Do, for every act. Condition: the game lies in memory and is good, the act's numbers are of 64 bits. -/
namespace Go.Proofs.YtkpecagkpjabdacGreat
open Go.RowKit
set_option linter.unusedVariables false
set_option linter.unusedSimpArgs false
set_option maxRecDepth 100000
theorem do_calls {w : World} {Q : Nat → Prop} {g : Nat} {G : M.Game} {a : Option Addr} {c : Nat} {sv : Value} {hs : List Value} (h : GameAt w Q g G a c sv hs) (hq : ∀ b, Q b → b < w.heap.size) (hG : M.GoodG G) (x : M.Act) (h0 : 0 ≤ G.acts) (hx : ActIn x) :
    Calls Tryz.prog 15 #[.pointer (some ⟨g, 0, none⟩), actV x] w (DoPost Q w g (M.doAct G x).1 (M.doAct G x).2) := by
  rcases Int.lt_or_le G.acts 150 with hlt | hge
  · obtain ⟨kind, id, n, mask, row, box⟩ := x
    rcases (show kind = 1 ∨ kind = 2 ∨ kind = 3 ∨ kind = 4 ∨ kind = 5 ∨ kind = 6 ∨ kind = 7 ∨ kind = 8 ∨ kind = 9 ∨ (kind < 1 ∨ 9 < kind) by omega) with e | e | e | e | e | e | e | e | e | e
    · exact do_spawn h hq hG kind id n mask row box e h0 hlt hx
    · exact do_kill h hq hG kind id n mask row box e h0 hlt hx
    · exact do_give h hq hG kind id n mask row box e h0 hlt hx
    · exact do_take h hq hG kind id n mask row box e h0 hlt hx
    · exact do_kick h hq hG kind id n mask row box e h0 hlt hx
    · exact do_step h hq hG kind id n mask row box e h0 hlt hx
    · exact do_save h hq hG kind id n mask row box e h0 hlt hx
    · exact do_load h hq hG kind id n mask row box e h0 hlt hx
    · exact do_look h hq hG kind id n mask row box e h0 hlt hx
    · exact do_other h hq hG kind id n mask row box e h0 hlt
  · exact do_full h hq hG x hge
end Go.Proofs.YtkpecagkpjabdacGreat
