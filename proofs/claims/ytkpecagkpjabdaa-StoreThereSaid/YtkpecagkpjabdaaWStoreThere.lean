/- The walk of StoreThere. Condition: the store lies in memory, its numbers and the row's are of 64 bits. -/
import Derived.Test.YtkpecagkpjabdaaStoreChange
import Derived.Test.YtkpecagkpjabdaaStoreSet
import Derived.Test.YtkpecagkpjabdaaStoreNew
import Derived.Test.YtkpecagkpjabdaaThings
import Derived.Test.YtkpecagkpjabdaaPick
import Derived.Test.YtkpecagkpjabdaaRowEq
import Derived.Test.YtkpecagkpjabdaaLawStore
import Derived.Deep.RegionHeld3
namespace Go.Proofs.Ytkpecagkpjabdaa
open Go.RowKit
set_option linter.unusedVariables false
set_option linter.unusedSimpArgs false
set_option maxRecDepth 100000

def BoxesAt (w : World) (a : Option Addr) (cap : Nat) (a1 : Option Addr) (c1 : Nat) (s x : M.Store) (r : M.Row) (g1 g4 : Nat) (W : World) : Prop := W.cell? ⟨w.heap.size, 0, none⟩ = some (.slice a s.tables.length cap) ∧ W.cell? ⟨w.heap.size, 1, none⟩ = some (.int .i64 s.next) ∧ W.cell? ⟨g1, 0, none⟩ = some (.slice a1 x.tables.length c1) ∧ W.cell? ⟨g1, 1, none⟩ = some (.int .i64 x.next) ∧ W.cell? ⟨w.heap.size + 1, 0, none⟩ = some (.int .i64 r.X) ∧ W.cell? ⟨w.heap.size + 1, 1, none⟩ = some (.int .i64 r.Y) ∧ W.cell? ⟨w.heap.size + 1, 2, none⟩ = some (.int .i64 r.PX) ∧ W.cell? ⟨w.heap.size + 1, 3, none⟩ = some (.int .i64 r.PY) ∧ W.cell? ⟨w.heap.size + 1, 4, none⟩ = some (.int .i64 r.W) ∧ W.cell? ⟨w.heap.size + 1, 5, none⟩ = some (.int .i64 r.H) ∧ W.cell? ⟨w.heap.size + 1, 6, none⟩ = some (.int .i64 r.M) ∧ W.cell? ⟨w.heap.size + 1, 7, none⟩ = some (.int .i64 r.R) ∧ W.cell? ⟨g4, 0, none⟩ = some (.int .i64 r.X) ∧ W.cell? ⟨g4, 1, none⟩ = some (.int .i64 r.Y) ∧ W.cell? ⟨g4, 2, none⟩ = some (.int .i64 r.PX) ∧ W.cell? ⟨g4, 3, none⟩ = some (.int .i64 r.PY) ∧ W.cell? ⟨g4, 4, none⟩ = some (.int .i64 r.W) ∧ W.cell? ⟨g4, 5, none⟩ = some (.int .i64 r.H) ∧ W.cell? ⟨g4, 6, none⟩ = some (.int .i64 r.M) ∧ W.cell? ⟨g4, 7, none⟩ = some (.int .i64 r.R)
theorem BoxesAt.below {w : World} {a : Option Addr} {cap : Nat} {a1 : Option Addr} {c1 : Nat} {s x : M.Store} {r : M.Row} {g1 g4 : Nat} {W W' : World} (h : BoxesAt w a cap a1 c1 s x r g1 g4 W) (hb : Below W.heap.size W W') : BoxesAt w a cap a1 c1 s x r g1 g4 W' := by
  obtain ⟨y0, y1, y2, y3, y4, y5, y6, y7, y8, y9, y10, y11, y12, y13, y14, y15, y16, y17, y18, y19⟩ := h
  exact ⟨below_cell y0 hb, below_cell y1 hb, below_cell y2 hb, below_cell y3 hb, below_cell y4 hb, below_cell y5 hb, below_cell y6 hb, below_cell y7 hb, below_cell y8 hb, below_cell y9 hb, below_cell y10 hb, below_cell y11 hb, below_cell y12 hb, below_cell y13 hb, below_cell y14 hb, below_cell y15 hb, below_cell y16 hb, below_cell y17 hb, below_cell y18 hb, below_cell y19 hb⟩
theorem row_neq_same (a : M.Row) (w : World) : (binOp .neq 27 (rowV a) (rowV a)).run Try.prog w = .ok (.bool false) w := by
  have hS : Try.prog.underlying 27 = some (.struct (Try.prog.fieldsOf 27)) := by kernel_rfl
  have hp : Try.prog.stoodInHeld 27 = false := by kernel_rfl
  obtain ⟨a0, a1, a2, a3, a4, a5, a6, a7⟩ := a
  rw [run_neq_struct, show (10000 : Nat) = 9999 + 1 from rfl, run_equalIn_agg w 9999 27 _ _ hS hp]
  simp only [Program.fieldsOf, Try.underlying27]
  go_simp

theorem change_zero {w W : World} {lo : Nat} {a : Option Addr} {c : Nat} {s y : M.Store} {id m code : Int} (h : StoreAt w lo (.agg #[.slice a s.tables.length c, .int .i64 s.next]) s) (hb : Below w.heap.size w W) (hin : StoreIn s) (hc : M.change s id m M.row0 = (y, code)) :
    Calls Try.prog 41 #[.agg #[.slice a s.tables.length c, .int .i64 s.next], .int .i64 id, .int .i64 m, .agg #[.int .i64 0, .int .i64 0, .int .i64 0, .int .i64 0, .int .i64 0, .int .i64 0, .int .i64 0, .int .i64 0]] W fun e w' =>
      ∃ v', e = .returned (.tuple #[v', .int .i64 code]) ∧ (StoreAt w' 0 v' y ∧ NewOr W w' (.agg #[.slice a s.tables.length c, .int .i64 s.next]) v' s y) ∧ Below W.heap.size W w' := by
  have k := change_calls (h.below hb) hin id m M.row0
  rw [hc] at k
  exact k
set_option maxHeartbeats 16000000 in
set_option maxRecDepth 100000 in
theorem there_walk {w : World} {lo : Nat} {v : Value} {s : M.Store} (h : StoreAt w lo v s) (hin : StoreIn s) (m : Int) (r : M.Row) (more : Int) (hm : I64 m) (hr : RowOk r) (hmo : I64 more) :
    Calls Try.prog 12 #[v, .int .i64 m, rowV r, .int .i64 more] w fun e w' => e = .returned (.bool true) ∧ Below w.heap.size w w' := by
  have HS := Lib.hid (fun W (hb : Below w.heap.size w W) => spawn_calls (h.below hb) hin m r)
  have HST := Lib.hid h
  obtain ⟨x, id, code, hsp⟩ : ∃ x id code, M.spawn s m r = (x, id, code) := ⟨_, _, _, rfl⟩
  have HGS := Lib.hid (fun W (hb : Below w.heap.size w W) => get_calls (h.below hb) id)
  obtain ⟨vt, rfl, hs, hT⟩ := h
  obtain ⟨a, cap, rfl⟩ := hT.val
  clear hT
  rw [hsp] at HS
  simp only at HS
  by_cases hc : code = 0
  · subst hc
    have hz0 : (M.spawn s m r).2.2 = 0 := by rw [hsp]
    have t1 := M.there_was hz0
    have t2 := M.there_is hz0
    rw [hsp] at t1 t2
    simp only at t1 t2
    obtain ⟨gm, gr, gb, hgs⟩ : ∃ gm gr gb, M.get s id = (gm, gr, gb) := ⟨_, _, _, rfl⟩
    rw [hgs] at t1 HGS
    simp only at t1 HGS
    subst t1
    have HGX := Lib.hid t2.1
    have q0 : ((0 : Int) != 0) = false := rfl
    go_enter Try.func12, Try.ntmps12
    have NX := row_neq_same r
    obtain ⟨gs, gx, sz⟩ : M.GoodS s ∧ M.GoodS x ∧ M.size x = M.size s + 1 := by
      have g1 := (M.spawn_ok hz0).1
      have g2 := (M.spawn_good hz0).1
      rw [hsp] at g2
      exact ⟨g1, g2, t2.2⟩
    have hn0 : M.size s ≤ 10 := gs.2.2.2.1
    have hn1 : M.size x ≤ 10 := gx.2.2.2.1
    have e1 : M.sizeW s.tables = (M.size s : Int) := M.sizeW_eq _ (by show M.size s ≤ _; omega)
    have e2 : M.sizeW x.tables = (M.size s : Int) + 1 := (M.sizeW_eq _ (by show M.size x ≤ _; omega)).trans (by show ((M.size x : Nat) : Int) = _; omega)
    obtain ⟨n, hn⟩ : ∃ n : Nat, n = M.size s := ⟨_, rfl⟩
    rw [← hn] at e1 e2 hn0
    have HE1 := Lib.hid e1
    have HE2 := Lib.hid e2
    have HGSD := Lib.hid (And.intro gs gx)
    have HT2 := Lib.hid t2
    clear e1 e2 hn1 hn t2 hgs gs gx sz
    go_upto_region 8 with (first | (go_at_call 37; refine (HS.out _ (by repeat first | with_reducible assumption | with_reducible exact Below.refl _ _ | with_reducible apply Below.drew | with_reducible apply below_drewN | with_reducible apply Below.alloc (hB := (by first | omega | (simp; done) | (simp; omega))) | with_reducible apply Below.setCell (hp := (by first | omega | (simp; done) | (simp; omega))))).mono ?_; rintro e w1 ⟨v1, rfl, ⟨hs1, hn1⟩, hb1⟩; obtain ⟨a1, c1, rfl⟩ := hs1.shape; have K1 : Below w.heap.size w w1 := (show Below w.heap.size w _ from (by repeat first | with_reducible assumption | with_reducible exact Below.refl _ _ | with_reducible apply Below.drew | with_reducible apply below_drewN | with_reducible apply Below.alloc (hB := (by first | omega | (simp; done) | (simp; omega))) | with_reducible apply Below.setCell (hp := (by first | omega | (simp; done) | (simp; omega))))).trans (hb1.mono (by first | omega | (simp; done) | (simp; omega))); have kz1 : w.heap.size ≤ w1.heap.size := K1.size; have hz1 := hb1.size; (try simp at hz1); have HS1 := Lib.hid hs1; clear hs1 hn1; have bs1 : Blk w1 (w.heap.size) 40 (#[.slice a s.tables.length cap, .int .i64 s.next]) := (by apply blk_to; (repeat first | with_reducible apply Blk.below (hb := hb1) (hg := (by first | omega | (simp; done) | (simp; omega))) | with_reducible exact Blk.new_at (h := (by first | rfl | (simp; done) | omega)) | with_reducible apply Blk.drew | with_reducible apply Blk.alloc); rfl); have bsc1 := bs1.cell 0; have bsd1 := bs1.cell 1; simp at bsc1 bsd1; have bsf1 := (fun i => bs1.free i); have bsl1 := bs1.lt; have br1 : Blk w1 (w.heap.size + 1) 27 (rowC r) := (by apply blk_to; (repeat first | with_reducible apply Blk.below (hb := hb1) (hg := (by first | omega | (simp; done) | (simp; omega))) | with_reducible exact Blk.new_at (h := (by first | rfl | (simp; done) | omega)) | with_reducible apply Blk.drew | with_reducible apply Blk.alloc); rfl); obtain ⟨brr1_0, brr1_1, brr1_2, brr1_3, brr1_4, brr1_5, brr1_6, brr1_7⟩ := row_at br1; have brf1 := (fun i => br1.free i); have brl1 := br1.lt) | (go_at_call 38; refine (things_calls _).mono ?_; rintro e w2 ⟨rfl, hb2⟩; have K2 : Below w.heap.size w w2 := (show Below w.heap.size w _ from (by repeat first | with_reducible assumption | with_reducible exact Below.refl _ _ | with_reducible apply Below.drew | with_reducible apply below_drewN | with_reducible apply Below.alloc (hB := (by first | omega | (simp; done) | (simp; omega))) | with_reducible apply Below.setCell (hp := (by first | omega | (simp; done) | (simp; omega))))).trans (hb2.mono (by first | omega | (simp; done) | (simp; omega))); have kz2 : w.heap.size ≤ w2.heap.size := K2.size; have hz2 := hb2.size; (try simp at hz2); have bs2 : Blk w2 (w.heap.size) 40 (#[.slice a s.tables.length cap, .int .i64 s.next]) := (by apply blk_to; (repeat first | with_reducible exact bs1 | with_reducible apply Blk.below (hb := hb2) (hg := (by first | omega | (simp; done) | (simp; omega))) | with_reducible exact Blk.new_at (h := (by first | rfl | (simp; done) | omega)) | with_reducible apply Blk.drew | with_reducible apply Blk.alloc); rfl); have bsc2 := bs2.cell 0; have bsd2 := bs2.cell 1; simp at bsc2 bsd2; have bsf2 := (fun i => bs2.free i); have bsl2 := bs2.lt; have br2 : Blk w2 (w.heap.size + 1) 27 (rowC r) := (by apply blk_to; (repeat first | with_reducible exact br1 | with_reducible apply Blk.below (hb := hb2) (hg := (by first | omega | (simp; done) | (simp; omega))) | with_reducible exact Blk.new_at (h := (by first | rfl | (simp; done) | omega)) | with_reducible apply Blk.drew | with_reducible apply Blk.alloc); rfl); obtain ⟨brr2_0, brr2_1, brr2_2, brr2_3, brr2_4, brr2_5, brr2_6, brr2_7⟩ := row_at br2; have brf2 := (fun i => br2.free i); have brl2 := br2.lt; have bx2 : Blk w2 (w1.heap.size) 40 (#[.slice a1 x.tables.length c1, .int .i64 x.next]) := (by apply blk_to; (repeat first | with_reducible exact bx1 | with_reducible apply Blk.below (hb := hb2) (hg := (by first | omega | (simp; done) | (simp; omega))) | with_reducible exact Blk.new_at (h := (by first | rfl | (simp; done) | omega)) | with_reducible apply Blk.drew | with_reducible apply Blk.alloc); rfl); have bxc2 := bx2.cell 0; have bxd2 := bx2.cell 1; simp at bxc2 bxd2; have bxf2 := (fun i => bx2.free i); have bxl2 := bx2.lt; have KX2 : Below w1.heap.size w1 w2 := (show Below w1.heap.size w1 _ from (by repeat first | with_reducible assumption | with_reducible exact Below.refl _ _ | with_reducible apply Below.drew | with_reducible apply below_drewN | with_reducible apply Below.alloc (hB := (by first | omega | (simp; done) | (simp; omega))) | with_reducible apply Below.setCell (hp := (by first | omega | (simp; done) | (simp; omega))))).trans (hb2.mono (by first | omega | (simp; done) | (simp; omega)))) | (go_at_call_of 39 a; refine (HGS.out _ (by repeat first | with_reducible assumption | with_reducible exact Below.refl _ _ | with_reducible apply Below.drew | with_reducible apply below_drewN | with_reducible apply Below.alloc (hB := (by first | omega | (simp; done) | (simp; omega))) | with_reducible apply Below.setCell (hp := (by first | omega | (simp; done) | (simp; omega))))).mono ?_; rintro e w3 ⟨rfl, hb3⟩; have K3 : Below w.heap.size w w3 := (show Below w.heap.size w _ from (by repeat first | with_reducible assumption | with_reducible exact Below.refl _ _ | with_reducible apply Below.drew | with_reducible apply below_drewN | with_reducible apply Below.alloc (hB := (by first | omega | (simp; done) | (simp; omega))) | with_reducible apply Below.setCell (hp := (by first | omega | (simp; done) | (simp; omega))))).trans (hb3.mono (by first | omega | (simp; done) | (simp; omega))); have kz3 : w.heap.size ≤ w3.heap.size := K3.size; have hz3 := hb3.size; (try simp at hz3); have KX3 : Below w1.heap.size w1 w3 := (show Below w1.heap.size w1 _ from (by repeat first | with_reducible assumption | with_reducible exact Below.refl _ _ | with_reducible apply Below.drew | with_reducible apply below_drewN | with_reducible apply Below.alloc (hB := (by first | omega | (simp; done) | (simp; omega))) | with_reducible apply Below.setCell (hp := (by first | omega | (simp; done) | (simp; omega))))).trans (hb3.mono (by first | omega | (simp; done) | (simp; omega))); have bs3 : Blk w3 (w.heap.size) 40 (#[.slice a s.tables.length cap, .int .i64 s.next]) := (by apply blk_to; (repeat first | with_reducible exact bs2 | with_reducible exact bs1 | with_reducible apply Blk.below (hb := hb3) (hg := (by first | omega | (simp; done) | (simp; omega))) | with_reducible exact Blk.new_at (h := (by first | rfl | (simp; done) | omega)) | with_reducible apply Blk.drew | with_reducible apply Blk.alloc); rfl); have bsc3 := bs3.cell 0; have bsd3 := bs3.cell 1; simp at bsc3 bsd3; have bsf3 := (fun i => bs3.free i); have bsl3 := bs3.lt; have br3 : Blk w3 (w.heap.size + 1) 27 (rowC r) := (by apply blk_to; (repeat first | with_reducible exact br2 | with_reducible exact br1 | with_reducible apply Blk.below (hb := hb3) (hg := (by first | omega | (simp; done) | (simp; omega))) | with_reducible exact Blk.new_at (h := (by first | rfl | (simp; done) | omega)) | with_reducible apply Blk.drew | with_reducible apply Blk.alloc); rfl); obtain ⟨brr3_0, brr3_1, brr3_2, brr3_3, brr3_4, brr3_5, brr3_6, brr3_7⟩ := row_at br3; have brf3 := (fun i => br3.free i); have brl3 := br3.lt; have bx3 : Blk w3 (w1.heap.size) 40 (#[.slice a1 x.tables.length c1, .int .i64 x.next]) := (by apply blk_to; (repeat first | with_reducible exact bx2 | with_reducible exact bx1 | with_reducible apply Blk.below (hb := hb3) (hg := (by first | omega | (simp; done) | (simp; omega))) | with_reducible exact Blk.new_at (h := (by first | rfl | (simp; done) | omega)) | with_reducible apply Blk.drew | with_reducible apply Blk.alloc); rfl); have bxc3 := bx3.cell 0; have bxd3 := bx3.cell 1; simp at bxc3 bxd3; have bxf3 := (fun i => bx3.free i); have bxl3 := bx3.lt) | (go_at_call_of 39 a1; refine ((get_calls (HS1.out.below (show Below w1.heap.size w1 _ from (by repeat first | with_reducible assumption | with_reducible exact Below.refl _ _ | with_reducible apply Below.drew | with_reducible apply below_drewN | with_reducible apply Below.alloc (hB := (by first | omega | (simp; done) | (simp; omega))) | with_reducible apply Below.setCell (hp := (by first | omega | (simp; done) | (simp; omega)))))) id)).mono ?_; rw [HGX.out]; rintro e w4 ⟨rfl, hb4⟩; have K4 : Below w.heap.size w w4 := (show Below w.heap.size w _ from (by repeat first | with_reducible assumption | with_reducible exact Below.refl _ _ | with_reducible apply Below.drew | with_reducible apply below_drewN | with_reducible apply Below.alloc (hB := (by first | omega | (simp; done) | (simp; omega))) | with_reducible apply Below.setCell (hp := (by first | omega | (simp; done) | (simp; omega))))).trans (hb4.mono (by first | omega | (simp; done) | (simp; omega))); have kz4 : w.heap.size ≤ w4.heap.size := K4.size; have hz4 := hb4.size; (try simp at hz4); have KX4 : Below w1.heap.size w1 w4 := (show Below w1.heap.size w1 _ from (by repeat first | with_reducible assumption | with_reducible exact Below.refl _ _ | with_reducible apply Below.drew | with_reducible apply below_drewN | with_reducible apply Below.alloc (hB := (by first | omega | (simp; done) | (simp; omega))) | with_reducible apply Below.setCell (hp := (by first | omega | (simp; done) | (simp; omega))))).trans (hb4.mono (by first | omega | (simp; done) | (simp; omega))); have bs4 : Blk w4 (w.heap.size) 40 (#[.slice a s.tables.length cap, .int .i64 s.next]) := (by apply blk_to; (repeat first | with_reducible exact bs3 | with_reducible exact bs2 | with_reducible exact bs1 | with_reducible apply Blk.below (hb := hb4) (hg := (by first | omega | (simp; done) | (simp; omega))) | with_reducible exact Blk.new_at (h := (by first | rfl | (simp; done) | omega)) | with_reducible apply Blk.drew | with_reducible apply Blk.alloc); rfl); have bsc4 := bs4.cell 0; have bsd4 := bs4.cell 1; simp at bsc4 bsd4; have bsf4 := (fun i => bs4.free i); have bsl4 := bs4.lt; have br4 : Blk w4 (w.heap.size + 1) 27 (rowC r) := (by apply blk_to; (repeat first | with_reducible exact br3 | with_reducible exact br2 | with_reducible exact br1 | with_reducible apply Blk.below (hb := hb4) (hg := (by first | omega | (simp; done) | (simp; omega))) | with_reducible exact Blk.new_at (h := (by first | rfl | (simp; done) | omega)) | with_reducible apply Blk.drew | with_reducible apply Blk.alloc); rfl); obtain ⟨brr4_0, brr4_1, brr4_2, brr4_3, brr4_4, brr4_5, brr4_6, brr4_7⟩ := row_at br4; have brf4 := (fun i => br4.free i); have brl4 := br4.lt; have bx4 : Blk w4 (w1.heap.size) 40 (#[.slice a1 x.tables.length c1, .int .i64 x.next]) := (by apply blk_to; (repeat first | with_reducible exact bx3 | with_reducible exact bx2 | with_reducible exact bx1 | with_reducible apply Blk.below (hb := hb4) (hg := (by first | omega | (simp; done) | (simp; omega))) | with_reducible exact Blk.new_at (h := (by first | rfl | (simp; done) | omega)) | with_reducible apply Blk.drew | with_reducible apply Blk.alloc); rfl); have bxc4 := bx4.cell 0; have bxd4 := bx4.cell 1; simp at bxc4 bxd4; have bxf4 := (fun i => bx4.free i); have bxl4 := bx4.lt))
    refine wp_called fun wq hwq => ?_
    have T : BoxesAt w a cap a1 c1 s x r w1.heap.size w4.heap.size wq := by
      rw [hwq]
      have b1 := bs4.alloc (.cells (rowC r) 27)
      have b2 := br4.alloc (.cells (rowC r) 27)
      have b3 := bx4.alloc (.cells (rowC r) 27)
      have b4 := Blk.new w4 27 (rowC r)
      exact ⟨b1.cell 0, b1.cell 1, b3.cell 0, b3.cell 1, b2.cell 0, b2.cell 1, b2.cell 2, b2.cell 3, b2.cell 4, b2.cell 5, b2.cell 6, b2.cell 7, b4.cell 0, b4.cell 1, b4.cell 2, b4.cell 3, b4.cell 4, b4.cell 5, b4.cell 6, b4.cell 7⟩
    have KQ : Below w.heap.size w wq := by rw [hwq]; exact (by repeat first | with_reducible assumption | with_reducible exact Below.refl _ _ | with_reducible apply Below.drew | with_reducible apply below_drewN | with_reducible apply Below.alloc (hB := (by first | omega | (simp; done) | (simp; omega))) | with_reducible apply Below.setCell (hp := (by first | omega | (simp; done) | (simp; omega))))
    have KXQ : Below w1.heap.size w1 wq := by rw [hwq]; exact (by repeat first | with_reducible assumption | with_reducible exact Below.refl _ _ | with_reducible apply Below.drew | with_reducible apply below_drewN | with_reducible apply Below.alloc (hB := (by first | omega | (simp; done) | (simp; omega))) | with_reducible apply Below.setCell (hp := (by first | omega | (simp; done) | (simp; omega))))
    have kq1 := KQ.size
    have kq2 := KXQ.size
    have HSX := Lib.hid (fun W (hb : Below wq.heap.size wq W) => size_calls (HST.out.below (KQ.trans (hb.mono kq1))))
    have HXX := Lib.hid (fun W (hb : Below wq.heap.size wq W) => size_calls (HS1.out.below (KXQ.trans (hb.mono kq2))))
    rw [HE1.out] at HSX
    rw [HE2.out] at HXX
    have hwr : IntKind.i64.wrap ((n : Int) + 1) = (n : Int) + 1 := by rw [IntKind.wrap_i64]; omega
    clear hwq
    go_cut [78] (fun b W => b = .bool false ∧ Below wq.heap.size wq W)
    case first =>
      go_region_held3 (fun W => W.cell? ⟨w.heap.size, 0, none⟩ = some (.slice a s.tables.length cap) ∧ W.cell? ⟨w.heap.size, 1, none⟩ = some (.int .i64 s.next) ∧ W.cell? ⟨w1.heap.size, 0, none⟩ = some (.slice a1 x.tables.length c1) ∧ W.cell? ⟨w1.heap.size, 1, none⟩ = some (.int .i64 x.next) ∧ W.cell? ⟨w.heap.size + 1, 0, none⟩ = some (.int .i64 r.X) ∧ W.cell? ⟨w.heap.size + 1, 1, none⟩ = some (.int .i64 r.Y) ∧ W.cell? ⟨w.heap.size + 1, 2, none⟩ = some (.int .i64 r.PX) ∧ W.cell? ⟨w.heap.size + 1, 3, none⟩ = some (.int .i64 r.PY) ∧ W.cell? ⟨w.heap.size + 1, 4, none⟩ = some (.int .i64 r.W) ∧ W.cell? ⟨w.heap.size + 1, 5, none⟩ = some (.int .i64 r.H) ∧ W.cell? ⟨w.heap.size + 1, 6, none⟩ = some (.int .i64 r.M) ∧ W.cell? ⟨w.heap.size + 1, 7, none⟩ = some (.int .i64 r.R) ∧ W.cell? ⟨w4.heap.size, 0, none⟩ = some (.int .i64 r.X) ∧ W.cell? ⟨w4.heap.size, 1, none⟩ = some (.int .i64 r.Y) ∧ W.cell? ⟨w4.heap.size, 2, none⟩ = some (.int .i64 r.PX) ∧ W.cell? ⟨w4.heap.size, 3, none⟩ = some (.int .i64 r.PY) ∧ W.cell? ⟨w4.heap.size, 4, none⟩ = some (.int .i64 r.W) ∧ W.cell? ⟨w4.heap.size, 5, none⟩ = some (.int .i64 r.H) ∧ W.cell? ⟨w4.heap.size, 6, none⟩ = some (.int .i64 r.M) ∧ W.cell? ⟨w4.heap.size, 7, none⟩ = some (.int .i64 r.R)) (exact T.below (by repeat first | with_reducible exact Below.refl _ _ | with_reducible apply Below.drew | with_reducible apply Below.setCell (hp := (by first | omega | (simp; done) | (simp; omega))) | with_reducible apply Below.alloc (hB := (by first | omega | (simp; done) | (simp; omega))) | with_reducible refine Below.trans ?_ (Below.mono (B' := wq.heap.size) hb6 (by first | omega | (simp; done) | (simp; omega))) | with_reducible refine Below.trans ?_ (Below.mono (B' := wq.heap.size) hb5 (by first | omega | (simp; done) | (simp; omega))))) (first | (go_at_call_of 40 a1; with_reducible refine (HXX.out _ (by repeat first | with_reducible exact Below.refl _ _ | with_reducible apply Below.drew | with_reducible apply Below.setCell (hp := (by first | omega | (simp; done) | (simp; omega))) | with_reducible apply Below.alloc (hB := (by first | omega | (simp; done) | (simp; omega))) | with_reducible refine Below.trans ?_ (Below.mono (B' := wq.heap.size) hb6 (by first | omega | (simp; done) | (simp; omega))) | with_reducible refine Below.trans ?_ (Below.mono (B' := wq.heap.size) hb5 (by first | omega | (simp; done) | (simp; omega))))).mono ?_; rintro e w5 ⟨rfl, hb5⟩; have hz5 := hb5.size; (try simp at hz5)) | (go_at_call_of 40 a; with_reducible refine (HSX.out _ (by repeat first | with_reducible exact Below.refl _ _ | with_reducible apply Below.drew | with_reducible apply Below.setCell (hp := (by first | omega | (simp; done) | (simp; omega))) | with_reducible apply Below.alloc (hB := (by first | omega | (simp; done) | (simp; omega))) | with_reducible refine Below.trans ?_ (Below.mono (B' := wq.heap.size) hb6 (by first | omega | (simp; done) | (simp; omega))) | with_reducible refine Below.trans ?_ (Below.mono (B' := wq.heap.size) hb5 (by first | omega | (simp; done) | (simp; omega))))).mono ?_; rintro e w6 ⟨rfl, hb6⟩; have hz6 := hb6.size; (try simp at hz6)))
      all_goals
        go_wp2_with fail
        go_meet
        exact ⟨rfl, (by repeat first | with_reducible exact Below.refl _ _ | with_reducible apply Below.drew | with_reducible apply Below.setCell (hp := (by first | omega | (simp; done) | (simp; omega))) | with_reducible apply Below.alloc (hB := (by first | omega | (simp; done) | (simp; omega))) | with_reducible refine Below.trans ?_ (Below.mono (B' := wq.heap.size) hb6 (by first | omega | (simp; done) | (simp; omega))) | with_reducible refine Below.trans ?_ (Below.mono (B' := wq.heap.size) hb5 (by first | omega | (simp; done) | (simp; omega))))⟩
    case rest =>
      obtain ⟨rfl, hB⟩ := hcut
      have TC := T.below hB
      have KC : Below w.heap.size w wc := KQ.trans (hB.mono kq1)
      have KXC : Below w1.heap.size w1 wc := KXQ.trans (hB.mono kq2)
      obtain ⟨p, hp, hp5⟩ : ∃ p : Nat, more % 5 = (p : Int) ∧ p < 5 := ⟨(more % 5).toNat, by omega, by omega⟩
      go_upto_if 86 with (go_at_call 36; refine (pick_calls _ _ _ (by omega) (by omega) hmo).mono ?_; rintro e w' ⟨rfl, rfl⟩)
      have hpw : wrap64 (2 ^ p) = 2 ^ p := by
        have : ∀ q : Nat, q < 5 → wrap64 (2 ^ q) = 2 ^ q := by
          intro q hq
          match q, hq with
          | 0, _ => exact IntWalk.wrap64_in _ (by decide)
          | 1, _ => exact IntWalk.wrap64_in _ (by decide)
          | 2, _ => exact IntWalk.wrap64_in _ (by decide)
          | 3, _ => exact IntWalk.wrap64_in _ (by decide)
          | 4, _ => exact IntWalk.wrap64_in _ (by decide)
          | q + 5, h => omega
        exact this p hp5
      obtain ⟨hgs0, hgx0⟩ := HGSD.out
      obtain ⟨wo, hwo⟩ : ∃ wo, wo = wc := ⟨_, rfl⟩
      subst hwo
      have kco := KC.size
      have kxo := KXC.size
      rw [hpw]
      clear hpw
      have HCH := Lib.hid (fun W (hb : Below wo.heap.size wo W) => change_calls (HS1.out.below (KXC.trans (hb.mono kxo))) (good_in hgx0) id (bits .or .i64 m (2 ^ p)) ⟨0, 0, 0, 0, 1, 1, 1, 0⟩)
      go_cut [] (fun W => Below wo.heap.size wo W)
      case first =>
        by_cases hbit : bits .and .i64 m (2 ^ p) = 0
        · have qb : (bits .and .i64 m (2 ^ p) == 0) = true := by simpa using hbit
          rw [qb]
          obtain ⟨y, yc, hch⟩ : ∃ y yc, M.change x id (bits .or .i64 m (2 ^ p)) ⟨0, 0, 0, 0, 1, 1, 1, 0⟩ = (y, yc) := ⟨_, _, rfl⟩
          rw [hch] at HCH
          simp only at HCH
          by_cases hyc : yc = 0
          · subst hyc
            have hgv := M.there_give (more := ⟨0, 0, 0, 0, 1, 1, 1, 0⟩) hz0 hp5 hbit (by unfold M.RowIn M.Ok64; simp) (by rw [hsp]; simp only []; rw [hch])
            rw [hsp] at hgv
            simp only at hgv
            rw [hch] at hgv
            simp only at hgv
            have hok := M.change_ok (s := x) (id := id) (m' := bits .or .i64 m (2 ^ p)) (r := ⟨0, 0, 0, 0, 1, 1, 1, 0⟩) (by rw [hch])
            rw [hch] at hok
            simp only at hok
            obtain ⟨_, _, _, _, gy, -⟩ := hok
            obtain ⟨y2, y2c, hc2⟩ : ∃ y2 y2c, M.change y id m M.row0 = (y2, y2c) := ⟨_, _, rfl⟩
            rw [hc2] at hgv
            simp only at hgv
            obtain ⟨rfl, g2⟩ := hgv
            have GY := Lib.hid gy
            have HC2 := Lib.hid hc2
            have HG2 := Lib.hid g2
            obtain ⟨tc1, tc2, tc3, tc4, tc5, tc6, tc7, tc8, tc9, tc10, tc11, tc12, tc13, tc14, tc15, tc16, tc17, tc18, tc19, tc20⟩ := (show BoxesAt w a cap a1 c1 s x r w1.heap.size w4.heap.size wo from TC)
            clear gy hc2 g2 hch
            have HTC := Lib.hid TC
            clear tc1 tc2 tc3 tc4 tc5 tc6 tc7 tc8 tc9 tc10 tc11 tc12 tc13 tc14 tc15 tc16 tc17 tc18 tc19 tc20
            obtain ⟨tc1, tc2, tc3, tc4, tc5, tc6, tc7, tc8, tc9, tc10, tc11, tc12, tc13, tc14, tc15, tc16, tc17, tc18, tc19, tc20⟩ := (show BoxesAt w a cap a1 c1 s x r w1.heap.size w4.heap.size wo from HTC.out)
            go_upto_region 14 with (first | (go_at_call_of 41 a1; refine (HCH.out _ (Below.refl _ _)).mono ?_; rintro e w9 ⟨v9, rfl, ⟨hs9, hn9⟩, hb9⟩; obtain ⟨a9, c9, rfl⟩ := hs9.shape; have HS9 := Lib.hid hs9; have HB9 := Lib.hid hb9; have k9 := hb9.size; clear hs9 hn9 hb9))
            refine wp_called fun wy hwy => ?_
            have KY9 : Below w9.heap.size w9 wy := by rw [hwy]; exact (Below.refl _ _).alloc (Nat.le_refl _) _
            have BY : Blk wy w9.heap.size 40 #[.slice a9 y.tables.length c9, .int .i64 y.next] := by rw [hwy]; exact Blk.new_at rfl
            have KY : Below wo.heap.size wo wy := HB9.out.trans (KY9.mono k9)
            have HKY9 := Lib.hid KY9
            have HBY := Lib.hid BY
            have HKY := Lib.hid KY
            have ky := KY.size
            have ky9 := KY9.size
            have ly := BY.lt
            have yb0 := BY.cell 0
            have yb1 := BY.cell 1
            simp at yb0 yb1
            have HCY := Lib.hid (change_zero HS9.out KY9 (good_in GY.out) HC2.out)
            obtain ⟨ty1, ty2, ty3, ty4, ty5, ty6, ty7, ty8, ty9, ty10, ty11, ty12, ty13, ty14, ty15, ty16, ty17, ty18, ty19, ty20⟩ := BoxesAt.below HTC.out KY
            clear hwy BY KY KY9 tc1 tc2 tc3 tc4 tc5 tc6 tc7 tc8 tc9 tc10 tc11 tc12 tc13 tc14 tc15 tc16 tc17 tc18 tc19 tc20
            go_upto_region 15 with (first | (go_at_call_of 41 a9; refine HCY.out.mono ?_; rintro e w10 ⟨v10, rfl, ⟨hs10, hn10⟩, hb10⟩; obtain ⟨a10, c10, rfl⟩ := hs10.shape; have HB10 := Lib.hid hb10; have HN10 := Lib.hid (fun (W : World) (hW : ∀ g, g ≠ w9.heap.size → W.heap[g]? = w10.heap[g]?) => got_put HS9.out HKY9.out (Nat.le_refl _) ly hb10 hn10 hW); have by10 := HBY.out.below hb10 ly; have HBY10 := Lib.hid by10; have yc0 := by10.cell 0; have yc1 := by10.cell 1; simp at yc0 yc1; have yf := (fun i => by10.free i); have yl := by10.lt; have k10 := hb10.size; clear hs10 hn10 hb10 by10))
            refine wp_called fun wz hwz => ?_
            have HSZ := Lib.hid (HN10.out wz (fun g hg => by rw [hwz]; exact (Below.heap_setCell _ _ _ _ (by exact hg)).trans (Below.heap_setCell _ _ _ _ (by exact hg))))
            have KZ : Below wo.heap.size wo wz := by
              rw [hwz]
              exact ((HKY.out.trans (HB10.out.mono ky)).setCell (by show wo.heap.size ≤ w9.heap.size; omega) _).setCell (by show wo.heap.size ≤ w9.heap.size; omega) _
            have kz := KZ.size
            have HKZ := Lib.hid KZ
            have hgz := get_calls HSZ.out id
            rw [HG2.out] at hgz
            have HGZ := Lib.hid hgz
            have yz0 : wz.cell? ⟨w9.heap.size, 0, none⟩ = some (.slice a10 y2.tables.length c10) := by rw [hwz]; exact (HBY10.out.put 0 _ |>.put 1 _).cell 0
            have yz1 : wz.cell? ⟨w9.heap.size, 1, none⟩ = some (.int .i64 y2.next) := by rw [hwz]; exact (HBY10.out.put 0 _ |>.put 1 _).cell 1
            have lz : w9.heap.size < wz.heap.size := by rw [hwz]; simp [World.setCell]; omega
            clear hwz KZ hgz yc0 yc1 yf yb0 yb1 ty1 ty2 ty3 ty4 ty5 ty6 ty7 ty8 ty9 ty10 ty11 ty12 ty13 ty14 ty15 ty16 ty17 ty18 ty19 ty20
            go_upto_region 16 with (first | (go_at_call_of 39 a10; refine HGZ.out.mono ?_; rintro e w11 ⟨rfl, hb11⟩; have HB11 := Lib.hid hb11; have k11 := hb11.size))
            refine wp_called fun wq hwq => ?_
            have KQ : Below wo.heap.size wo wq := by rw [hwq]; exact ((HKZ.out.trans (HB11.out.mono kz)).alloc (by omega) _)
            obtain ⟨uq1, uq2, uq3, uq4, uq5, uq6, uq7, uq8, uq9, uq10, uq11, uq12, uq13, uq14, uq15, uq16, uq17, uq18, uq19, uq20⟩ := BoxesAt.below HTC.out KQ
            have bq : Blk wq w11.heap.size 27 (rowC r) := by
              rw [hwq]
              apply blk_to
              · repeat first | with_reducible apply Blk.put | with_reducible apply Blk.drew | with_reducible exact Blk.new_at_w (h := (by first | rfl | (simp; done) | omega)) | with_reducible exact Blk.new_at (h := (by first | rfl | (simp; done) | omega))
              · rfl
            obtain ⟨z0, z1, z2, z3, z4, z5, z6, z7⟩ := row_at bq
            clear hwq bq
            go_wp2_with fail
            go_meet
            exact KQ
          · have q9 : (yc == 0) = false := by simpa using hyc
            obtain ⟨tc1, tc2, tc3, tc4, tc5, tc6, tc7, tc8, tc9, tc10, tc11, tc12, tc13, tc14, tc15, tc16, tc17, tc18, tc19, tc20⟩ := (show BoxesAt w a cap a1 c1 s x r w1.heap.size w4.heap.size wo from TC)
            clear hch
            go_wp2_with (go_at_call_of 41 a1; refine (HCH.out _ (by repeat first | with_reducible assumption | with_reducible exact Below.refl _ _ | with_reducible apply Below.drew | with_reducible apply below_drewN | with_reducible apply Below.alloc (hB := (by first | omega | (simp; done) | (simp; omega))) | with_reducible apply Below.setCell (hp := (by first | omega | (simp; done) | (simp; omega))))).mono ?_; rintro e w9 ⟨v9, rfl, ⟨hs9, hn9⟩, hb9⟩; obtain ⟨a9, c9, rfl⟩ := hs9.shape; have HS9 := Lib.hid hs9; clear hs9 hn9; have K9 : Below wo.heap.size wo w9 := (show Below wo.heap.size wo _ from (by repeat first | with_reducible assumption | with_reducible exact Below.refl _ _ | with_reducible apply Below.drew | with_reducible apply below_drewN | with_reducible apply Below.alloc (hB := (by first | omega | (simp; done) | (simp; omega))) | with_reducible apply Below.setCell (hp := (by first | omega | (simp; done) | (simp; omega))))).trans (hb9.mono (by first | exact Nat.le_refl _ | omega | (simp; done) | (simp; omega))); have k9 := K9.size; obtain ⟨u9_1, u9_2, u9_3, u9_4, u9_5, u9_6, u9_7, u9_8, u9_9, u9_10, u9_11, u9_12, u9_13, u9_14, u9_15, u9_16, u9_17, u9_18, u9_19, u9_20⟩ := BoxesAt.below TC K9)
            go_meet
            exact (by repeat first | with_reducible assumption | with_reducible exact Below.refl _ _ | with_reducible apply Below.drew | with_reducible apply below_drewN | with_reducible apply Below.alloc (hB := (by first | omega | (simp; done) | (simp; omega))) | with_reducible apply Below.setCell (hp := (by first | omega | (simp; done) | (simp; omega))))
        · have qb : (bits .and .i64 m (2 ^ p) == 0) = false := by simpa using hbit
          rw [qb]
          go_wp2_with fail
          go_meet
          exact Below.refl _ _
      case rest =>
        have TC := TC.below hcut
        have KC : Below w.heap.size w wc := KC.trans (hcut.mono kco)
        have KXC : Below w1.heap.size w1 wc := KXC.trans (hcut.mono kxo)
        clear HCH
        have hkl := M.there_gone hz0
        rw [hsp] at hkl
        simp only at hkl
        obtain ⟨z, zc, hzk⟩ : ∃ z zc, M.kill x id = (z, zc) := ⟨_, _, rfl⟩
        rw [hzk] at hkl
        simp only at hkl
        obtain ⟨rfl, zg, zs⟩ := hkl
        have HKL := Lib.hid (fun W (hb : Below wc.heap.size wc W) => kill_calls (HS1.out.below (KXC.trans (hb.mono KXC.size))) (good_in hgx0) id)
        rw [hzk] at HKL
        simp only at HKL
        obtain ⟨ym, yr, yb, hzg⟩ : ∃ ym yr yb, M.get z id = (ym, yr, yb) := ⟨_, _, _, rfl⟩
        have HZG := Lib.hid hzg
        rw [hzg] at zg
        simp only at zg
        subst zg
        have HZS := Lib.hid zs
        clear hzg zs
        obtain ⟨tc1, tc2, tc3, tc4, tc5, tc6, tc7, tc8, tc9, tc10, tc11, tc12, tc13, tc14, tc15, tc16, tc17, tc18, tc19, tc20⟩ := (show BoxesAt w a cap a1 c1 s x r w1.heap.size w4.heap.size wc from TC)
        go_wp2_with (first | (go_at_call 42; refine (HKL.out _ (by repeat first | with_reducible assumption | with_reducible exact Below.refl _ _ | with_reducible apply Below.drew | with_reducible apply below_drewN | with_reducible apply Below.alloc (hB := (by first | omega | (simp; done) | (simp; omega))) | with_reducible apply Below.setCell (hp := (by first | omega | (simp; done) | (simp; omega))))).mono ?_; rintro e w7 ⟨v7, rfl, ⟨hs7, hn7⟩, hb7⟩; obtain ⟨a7, c7, rfl⟩ := hs7.shape; have HS7 := Lib.hid hs7; clear hs7 hn7; have KW7 : Below wc.heap.size wc w7 := (show Below wc.heap.size wc _ from (by repeat first | with_reducible assumption | with_reducible exact Below.refl _ _ | with_reducible apply Below.drew | with_reducible apply below_drewN | with_reducible apply Below.alloc (hB := (by first | omega | (simp; done) | (simp; omega))) | with_reducible apply Below.setCell (hp := (by first | omega | (simp; done) | (simp; omega))))).trans (hb7.mono (by first | exact Nat.le_refl _ | omega | (simp; done) | (simp; omega))); have kw7 := KW7.size; obtain ⟨uc1, uc2, uc3, uc4, uc5, uc6, uc7, uc8, uc9, uc10, uc11, uc12, uc13, uc14, uc15, uc16, uc17, uc18, uc19, uc20⟩ := BoxesAt.below TC KW7) | (go_at_call_of 39 a7; refine ((get_calls (HS7.out.below (show Below w7.heap.size w7 _ from (by repeat first | with_reducible assumption | with_reducible exact Below.refl _ _ | with_reducible apply Below.drew | with_reducible apply below_drewN | with_reducible apply Below.alloc (hB := (by first | omega | (simp; done) | (simp; omega))) | with_reducible apply Below.setCell (hp := (by first | omega | (simp; done) | (simp; omega)))))) id)).mono ?_; rw [HZG.out]; rintro e w8 ⟨rfl, hb8⟩; have KW8 : Below w7.heap.size w7 w8 := (show Below w7.heap.size w7 _ from (by repeat first | with_reducible assumption | with_reducible exact Below.refl _ _ | with_reducible apply Below.drew | with_reducible apply below_drewN | with_reducible apply Below.alloc (hB := (by first | omega | (simp; done) | (simp; omega))) | with_reducible apply Below.setCell (hp := (by first | omega | (simp; done) | (simp; omega))))).trans (hb8.mono (by first | exact Nat.le_refl _ | omega | (simp; done) | (simp; omega))); have kw8 := KW8.size; have bz8 : Blk w8 w7.heap.size 40 #[.slice a7 z.tables.length c7, .int .i64 z.next] := (by repeat first | with_reducible apply Blk.below (hb := hb8) (hg := (by first | omega | (simp; done) | (simp; omega))) | with_reducible exact Blk.new_at (h := (by first | rfl | (simp; done) | omega)) | with_reducible apply Blk.drew | with_reducible apply Blk.alloc)))
        refine wp_called fun wz hwz => ?_
        have KWZ : Below w8.heap.size w8 wz := by rw [hwz]; exact (by repeat first | with_reducible assumption | with_reducible exact Below.refl _ _ | with_reducible apply Below.drew | with_reducible apply below_drewN | with_reducible apply Below.alloc (hB := (by first | omega | (simp; done) | (simp; omega))) | with_reducible apply Below.setCell (hp := (by first | omega | (simp; done) | (simp; omega))))
        have KZ7 : Below w7.heap.size w7 wz := KW8.trans (KWZ.mono kw8)
        have kz7 := KZ7.size
        have bzz := bz8.below KWZ bz8.lt
        have KFZ : Below w.heap.size w wz := (KC.trans (KW7.mono KC.size)).trans (KZ7.mono (by have := KC.size; omega))
        have kfz := KFZ.size
        have SZ : wz.cell? ⟨w.heap.size, 0, none⟩ = some (.slice a s.tables.length cap) ∧ wz.cell? ⟨w.heap.size, 1, none⟩ = some (.int .i64 s.next) ∧ wz.cell? ⟨w7.heap.size, 0, none⟩ = some (.slice a7 z.tables.length c7) ∧ wz.cell? ⟨w7.heap.size, 1, none⟩ = some (.int .i64 z.next) :=
          ⟨below_cell uc1 KZ7, below_cell uc2 KZ7, bzz.cell 0, bzz.cell 1⟩
        have SZB := Lib.hid (fun W (hb : Below wz.heap.size wz W) => show W.cell? ⟨w.heap.size, 0, none⟩ = some (.slice a s.tables.length cap) ∧ W.cell? ⟨w.heap.size, 1, none⟩ = some (.int .i64 s.next) ∧ W.cell? ⟨w7.heap.size, 0, none⟩ = some (.slice a7 z.tables.length c7) ∧ W.cell? ⟨w7.heap.size, 1, none⟩ = some (.int .i64 z.next) from
          ⟨below_cell SZ.1 hb, below_cell SZ.2.1 hb, below_cell SZ.2.2.1 hb, below_cell SZ.2.2.2 hb⟩)
        have HS1Z := Lib.hid (fun W (hb : Below wz.heap.size wz W) => size_calls (HST.out.below (KFZ.trans (hb.mono kfz))))
        have HS2Z := Lib.hid (fun W (hb : Below wz.heap.size wz W) => size_calls (HS7.out.below (KZ7.trans (hb.mono kz7))))
        have ez : M.sizeW z.tables = (n : Int) := (M.sizeW_eq _ (by show M.size z ≤ _; rw [HZS.out]; have := hgs0.2.2.2.1; show M.size s ≤ _; have e : M.size s ≤ 10 := hgs0.2.2.2.1; omega)).trans (by
          have e3 := (M.sizeW_eq s.tables (by have e : M.size s ≤ 10 := hgs0.2.2.2.1; show M.size s ≤ _; omega)).symm.trans HE1.out
          show ((M.size z : Nat) : Int) = _
          rw [HZS.out]
          exact e3)
        rw [HE1.out] at HS1Z
        rw [ez] at HS2Z
        clear hwz TC ez
        go_region_held3 (fun W => W.cell? ⟨w.heap.size, 0, none⟩ = some (.slice a s.tables.length cap) ∧ W.cell? ⟨w.heap.size, 1, none⟩ = some (.int .i64 s.next) ∧ W.cell? ⟨w7.heap.size, 0, none⟩ = some (.slice a7 z.tables.length c7) ∧ W.cell? ⟨w7.heap.size, 1, none⟩ = some (.int .i64 z.next)) (exact SZB.out _ (by repeat first | with_reducible exact Below.refl _ _ | with_reducible apply Below.drew | with_reducible apply Below.setCell (hp := (by first | omega | (simp; done) | (simp; omega))) | with_reducible apply Below.alloc (hB := (by first | omega | (simp; done) | (simp; omega))) | with_reducible refine Below.trans ?_ (Below.mono (B' := wz.heap.size) hb6 (by first | omega | (simp; done) | (simp; omega))) | with_reducible refine Below.trans ?_ (Below.mono (B' := wz.heap.size) hb5 (by first | omega | (simp; done) | (simp; omega))))) (first | (go_at_call_of 40 a7; with_reducible refine (HS2Z.out _ (by repeat first | with_reducible exact Below.refl _ _ | with_reducible apply Below.drew | with_reducible apply Below.setCell (hp := (by first | omega | (simp; done) | (simp; omega))) | with_reducible apply Below.alloc (hB := (by first | omega | (simp; done) | (simp; omega))) | with_reducible refine Below.trans ?_ (Below.mono (B' := wz.heap.size) hb6 (by first | omega | (simp; done) | (simp; omega))) | with_reducible refine Below.trans ?_ (Below.mono (B' := wz.heap.size) hb5 (by first | omega | (simp; done) | (simp; omega))))).mono ?_; rintro e w5 ⟨rfl, hb5⟩; have hz5 := hb5.size; (try simp at hz5)) | (go_at_call_of 40 a; with_reducible refine (HS1Z.out _ (by repeat first | with_reducible exact Below.refl _ _ | with_reducible apply Below.drew | with_reducible apply Below.setCell (hp := (by first | omega | (simp; done) | (simp; omega))) | with_reducible apply Below.alloc (hB := (by first | omega | (simp; done) | (simp; omega))) | with_reducible refine Below.trans ?_ (Below.mono (B' := wz.heap.size) hb6 (by first | omega | (simp; done) | (simp; omega))) | with_reducible refine Below.trans ?_ (Below.mono (B' := wz.heap.size) hb5 (by first | omega | (simp; done) | (simp; omega))))).mono ?_; rintro e w6 ⟨rfl, hb6⟩; have hz6 := hb6.size; (try simp at hz6)))
        all_goals
          go_wp2_with fail
          go_ret
          exact ⟨rfl, KFZ.trans (Below.mono (B' := w.heap.size) (show Below wz.heap.size wz _ from (by repeat first | with_reducible exact Below.refl _ _ | with_reducible apply Below.drew | with_reducible apply Below.setCell (hp := (by first | omega | (simp; done) | (simp; omega))) | with_reducible apply Below.alloc (hB := (by first | omega | (simp; done) | (simp; omega))) | with_reducible refine Below.trans ?_ (Below.mono (B' := wz.heap.size) hb6 (by first | omega | (simp; done) | (simp; omega))) | with_reducible refine Below.trans ?_ (Below.mono (B' := wz.heap.size) hb5 (by first | omega | (simp; done) | (simp; omega))))) kfz)⟩
  · have q0 : (code != 0) = true := by simpa using hc
    clear hsp hc hin hm hr hmo
    go_enter Try.func12, Try.ntmps12
    go_wp2_with (first | (go_at_call 37; refine (HS.out _ (by repeat first | with_reducible assumption | with_reducible exact Below.refl _ _ | with_reducible apply Below.drew | with_reducible apply below_drewN | with_reducible apply Below.alloc (hB := (by first | omega | (simp; done) | (simp; omega))) | with_reducible apply Below.setCell (hp := (by first | omega | (simp; done) | (simp; omega))))).mono ?_; rintro e w1 ⟨v1, rfl, ⟨hs1, hn1⟩, hb1⟩; obtain ⟨a1, c1, rfl⟩ := hs1.shape; have K1 : Below w.heap.size w w1 := (show Below w.heap.size w _ from (by repeat first | with_reducible assumption | with_reducible exact Below.refl _ _ | with_reducible apply Below.drew | with_reducible apply below_drewN | with_reducible apply Below.alloc (hB := (by first | omega | (simp; done) | (simp; omega))) | with_reducible apply Below.setCell (hp := (by first | omega | (simp; done) | (simp; omega))))).trans (hb1.mono (by first | omega | (simp; done) | (simp; omega))); have kz1 : w.heap.size ≤ w1.heap.size := K1.size; have hz1 := hb1.size; (try simp at hz1); have HS1 := Lib.hid hs1; clear hs1 hn1) | (go_at_call 38; refine (things_calls _).mono ?_; rintro e w2 ⟨rfl, hb2⟩; have K2 : Below w.heap.size w w2 := (show Below w.heap.size w _ from (by repeat first | with_reducible assumption | with_reducible exact Below.refl _ _ | with_reducible apply Below.drew | with_reducible apply below_drewN | with_reducible apply Below.alloc (hB := (by first | omega | (simp; done) | (simp; omega))) | with_reducible apply Below.setCell (hp := (by first | omega | (simp; done) | (simp; omega))))).trans (hb2.mono (by first | omega | (simp; done) | (simp; omega))); have kz2 : w.heap.size ≤ w2.heap.size := K2.size; have hz2 := hb2.size; (try simp at hz2)))
    go_ret
    exact ⟨rfl, (by repeat first | with_reducible assumption | with_reducible exact Below.refl _ _ | with_reducible apply Below.drew | with_reducible apply below_drewN | with_reducible apply Below.alloc (hB := (by first | omega | (simp; done) | (simp; omega))) | with_reducible apply Below.setCell (hp := (by first | omega | (simp; done) | (simp; omega))))⟩
theorem storeThere_walk (s : M.Store) (m : Int) (r : M.Row) (more : Int) (w : World) {v : Value} (h : StoreAt w 0 v s ∧ StoreIn s) (hm : I64 m) (hr : RowOk r) (hmo : I64 more) :
    Calls Try.prog 12 #[v, .int .i64 m, rowV r, .int .i64 more] w fun e w' => e = .returned (.bool true) ∧ Below w.heap.size w w' := there_walk h.1 h.2 m r more hm hr hmo
end Go.Proofs.Ytkpecagkpjabdaa
