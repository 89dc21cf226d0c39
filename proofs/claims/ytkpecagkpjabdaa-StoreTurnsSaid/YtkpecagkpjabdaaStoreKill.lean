/- The contract of store.Kill. Condition: the store lies in memory, its numbers are of 64 bits. -/
import Derived.Test.YtkpecagkpjabdaaStoreGood
import Derived.Test.YtkpecagkpjabdaaStoreFind
import Derived.Test.YtkpecagkpjabdaaStoreOwned
import Derived.Test.YtkpecagkpjabdaaStoreBounds
namespace Go.Proofs.Ytkpecagkpjabdaa
open Go.RowKit
set_option linter.unusedVariables false
set_option linter.unusedSimpArgs false
set_option maxRecDepth 100000

/-- what an own store holds, as a store's value -/
theorem agg_store {w : World} {base : Nat} {vt : Value} {s : M.Store} {hs : List (Value × Value)} (h : TabsAtH w base vt s.tables hs) : StoreAt w 0 (.agg #[vt, .int .i64 s.next]) s := StoreAt.mono (lo := base) ⟨vt, rfl, hs, h⟩ (Nat.zero_le _)

/-- a result: the store that was handed in, or one in memory of the call's own -/
def NewOr (w w' : World) (v v' : Value) (s x : M.Store) : Prop := (v' = v ∧ x = s) ∨ StoreAt w' w.heap.size v' x
theorem agg_new {w0 w : World} {base : Nat} {vt v : Value} {s0 s : M.Store} {hs : List (Value × Value)} (h : TabsAtH w base vt s.tables hs) (hb : w0.heap.size ≤ base) :
    StoreAt w 0 (.agg #[vt, .int .i64 s.next]) s ∧ NewOr w0 w v (.agg #[vt, .int .i64 s.next]) s0 s := ⟨agg_store h, .inr (StoreAt.mono (lo := base) ⟨vt, rfl, hs, h⟩ hb)⟩

set_option maxHeartbeats 4000000 in
set_option maxRecDepth 100000 in
theorem kill_calls {w : World} {lo : Nat} {v : Value} {s : M.Store} (h : StoreAt w lo v s) (hin : StoreIn s) (id : Int) :
    Calls Try.prog 42 #[v, .int .i64 id] w fun e w' => ∃ v', e = .returned (.tuple #[v', .int .i64 (M.kill s id).2]) ∧ (StoreAt w' 0 v' (M.kill s id).1 ∧ NewOr w w' v v' s (M.kill s id).1) ∧ Below w.heap.size w w' := by
  have HG := Lib.hid (fun W (hb : Below w.heap.size w W) => storeGood_calls (h.below hb) hin)
  have HF := Lib.hid (fun W (hb : Below w.heap.size w W) => find_calls (h.below hb) id)
  have HST := Lib.hid h
  have HOW := Lib.hid (fun W (hb : Below w.heap.size w W) => own_calls (h.below hb))
  obtain ⟨vt, rfl, hs, hT⟩ := h
  obtain ⟨a, cap, rfl⟩ := hT.val
  clear hT hin
  by_cases hg : M.good s = true
  · have hgs := (M.good_iff s).1 hg
    rw [hg] at HG
    cases hf : M.find s id with
    | none =>
      have hfo : M.found s id = (0, 0, false) := by unfold M.found; rw [hf]
      rw [hfo] at HF
      have HR : Hid (M.kill s id = (s, 3)) := Lib.hid (by unfold M.kill; rw [hg, hf]; rfl)
      rw [HR.out]
      clear hf hfo hg hgs HOW
      go_enter Try.func42, Try.ntmps42
      go_wp2_with (first | (go_at_call 59; refine (HG.out _ (by repeat first | with_reducible assumption | with_reducible exact Below.refl _ _ | with_reducible apply Below.drew | with_reducible apply below_drewN | with_reducible apply Below.alloc (hB := (by first | omega | (simp; done) | (simp; omega))) | with_reducible apply Below.setCell (hp := (by first | omega | (simp; done) | (simp; omega))))).mono ?_; rintro e w1 ⟨rfl, hb1⟩; obtain ⟨hc1, hf1⟩ := bcell hb1; have hz1 := hb1.size; (try simp at hz1); have f1_0 : w.heap.size < w1.heap.size := (by omega); have g1_0 : w.heap.size < w.heap.size + 1 + 1 := (by omega); have f1_1 : w.heap.size + 1 < w1.heap.size := (by omega); have g1_1 : w.heap.size + 1 < w.heap.size + 1 + 1 := (by omega); have K1 : Below w.heap.size w w1 := (show Below w.heap.size w _ from (by repeat first | with_reducible assumption | with_reducible exact Below.refl _ _ | with_reducible apply Below.drew | with_reducible apply below_drewN | with_reducible apply Below.alloc (hB := (by first | omega | (simp; done) | (simp; omega))) | with_reducible apply Below.setCell (hp := (by first | omega | (simp; done) | (simp; omega))))).trans (hb1.mono (by first | omega | (simp; done) | (simp; omega)))) | (go_at_call 63; refine (HF.out _ (by repeat first | with_reducible assumption | with_reducible exact Below.refl _ _ | with_reducible apply Below.drew | with_reducible apply below_drewN | with_reducible apply Below.alloc (hB := (by first | omega | (simp; done) | (simp; omega))) | with_reducible apply Below.setCell (hp := (by first | omega | (simp; done) | (simp; omega))))).mono ?_; rintro e w2 ⟨rfl, hb2⟩; obtain ⟨hc2, hf2⟩ := bcell hb2; have hz2 := hb2.size; (try simp at hz2); have f2_0 : w.heap.size < w2.heap.size := (by omega); have f2_1 : w.heap.size + 1 < w2.heap.size := (by omega); have K2 : Below w.heap.size w w2 := (show Below w.heap.size w _ from (by repeat first | with_reducible assumption | with_reducible exact Below.refl _ _ | with_reducible apply Below.drew | with_reducible apply below_drewN | with_reducible apply Below.alloc (hB := (by first | omega | (simp; done) | (simp; omega))) | with_reducible apply Below.setCell (hp := (by first | omega | (simp; done) | (simp; omega))))).trans (hb2.mono (by first | omega | (simp; done) | (simp; omega)))))
      refine bodyPost_ret (v := .tuple #[.agg #[.slice a s.tables.length cap, .int .i64 s.next], .int .i64 3]) ?_ rfl ⟨_, rfl, ⟨(HST.out.below (by repeat first | with_reducible assumption | with_reducible exact Below.refl _ _ | with_reducible apply Below.drew | with_reducible apply below_drewN | with_reducible apply Below.alloc (hB := (by first | omega | (simp; done) | (simp; omega))) | with_reducible apply Below.setCell (hp := (by first | omega | (simp; done) | (simp; omega))))).mono (Nat.zero_le _), .inl ⟨rfl, rfl⟩⟩, (by repeat first | with_reducible assumption | with_reducible exact Below.refl _ _ | with_reducible apply Below.drew | with_reducible apply below_drewN | with_reducible apply Below.alloc (hB := (by first | omega | (simp; done) | (simp; omega))) | with_reducible apply Below.setCell (hp := (by first | omega | (simp; done) | (simp; omega))))⟩
      simp only [results, Try.results42]
      go_simp
    | some p =>
      obtain ⟨i, k⟩ := p
      have hfo : M.found s id = ((i : Int), (k : Int), true) := by unfold M.found; rw [hf]
      rw [hfo] at HF
      have HR : Hid (M.kill s id = (M.cut s i k, 0)) := Lib.hid (by unfold M.kill; rw [hg, hf]; rfl)
      rw [HR.out]
      have hbd := good_bounds hgs
      obtain ⟨t, ht, hmem, hki, hid⟩ := M.findT_at hf
      have hee := hbd.each t hmem
      have HT := Lib.hid ht
      have HN1 : Hid (s.tables.length ≤ 1000) := Lib.hid (by have := hbd.few; omega)
      have HN2 := Lib.hid hki
      have HN3 : Hid (t.ids.length = t.rows.length) := Lib.hid hee.2.1.symm
      have HN4 : Hid (t.ids.length ≤ 1000) := Lib.hid (by omega)
      have HSH := Lib.hid hbd.short
      clear hf hfo hg hgs hbd ht hmem hki hid hee
      go_enter Try.func42, Try.ntmps42
      go_wp2_with (first | (go_at_call 59; refine (HG.out _ (by repeat first | with_reducible assumption | with_reducible exact Below.refl _ _ | with_reducible apply Below.drew | with_reducible apply below_drewN | with_reducible apply Below.alloc (hB := (by first | omega | (simp; done) | (simp; omega))) | with_reducible apply Below.setCell (hp := (by first | omega | (simp; done) | (simp; omega))))).mono ?_; rintro e w1 ⟨rfl, hb1⟩; obtain ⟨hc1, hf1⟩ := bcell hb1; have hz1 := hb1.size; (try simp at hz1); have f1_0 : w.heap.size < w1.heap.size := (by omega); have g1_0 : w.heap.size < w.heap.size + 1 + 1 := (by omega); have f1_1 : w.heap.size + 1 < w1.heap.size := (by omega); have g1_1 : w.heap.size + 1 < w.heap.size + 1 + 1 := (by omega); have K1 : Below w.heap.size w w1 := (show Below w.heap.size w _ from (by repeat first | with_reducible assumption | with_reducible exact Below.refl _ _ | with_reducible apply Below.drew | with_reducible apply below_drewN | with_reducible apply Below.alloc (hB := (by first | omega | (simp; done) | (simp; omega))) | with_reducible apply Below.setCell (hp := (by first | omega | (simp; done) | (simp; omega))))).trans (hb1.mono (by first | omega | (simp; done) | (simp; omega)))) | (go_at_call 63; refine (HF.out _ (by repeat first | with_reducible assumption | with_reducible exact Below.refl _ _ | with_reducible apply Below.drew | with_reducible apply below_drewN | with_reducible apply Below.alloc (hB := (by first | omega | (simp; done) | (simp; omega))) | with_reducible apply Below.setCell (hp := (by first | omega | (simp; done) | (simp; omega))))).mono ?_; rintro e w2 ⟨rfl, hb2⟩; obtain ⟨hc2, hf2⟩ := bcell hb2; have hz2 := hb2.size; (try simp at hz2); have f2_0 : w.heap.size < w2.heap.size := (by omega); have f2_1 : w.heap.size + 1 < w2.heap.size := (by omega); have K2 : Below w.heap.size w w2 := (show Below w.heap.size w _ from (by repeat first | with_reducible assumption | with_reducible exact Below.refl _ _ | with_reducible apply Below.drew | with_reducible apply below_drewN | with_reducible apply Below.alloc (hB := (by first | omega | (simp; done) | (simp; omega))) | with_reducible apply Below.setCell (hp := (by first | omega | (simp; done) | (simp; omega))))).trans (hb2.mono (by first | omega | (simp; done) | (simp; omega)))) | (go_at_call 61; refine (HOW.out _ (by repeat first | with_reducible assumption | with_reducible exact Below.refl _ _ | with_reducible apply Below.drew | with_reducible apply below_drewN | with_reducible apply Below.alloc (hB := (by first | omega | (simp; done) | (simp; omega))) | with_reducible apply Below.setCell (hp := (by first | omega | (simp; done) | (simp; omega)))) HSH.out).mono ?_; rintro e w3 ⟨vt1, hs1, rfl, ho3, hb3⟩; have K3 : Below w.heap.size w w3 := (show Below w.heap.size w _ from (by repeat first | with_reducible assumption | with_reducible exact Below.refl _ _ | with_reducible apply Below.drew | with_reducible apply below_drewN | with_reducible apply Below.alloc (hB := (by first | omega | (simp; done) | (simp; omega))) | with_reducible apply Below.setCell (hp := (by first | omega | (simp; done) | (simp; omega))))).trans (hb3.mono (by first | omega | (simp; done) | (simp; omega))); have bx3 : Blk w3 w.heap.size 40 #[.slice a s.tables.length cap, .int .i64 s.next] := (by repeat first | with_reducible apply Blk.below (hb := hb3) (hg := (by first | omega | (simp; done) | (simp; omega))) | with_reducible apply Blk.below (hb := hb2) (hg := (by first | omega | (simp; done) | (simp; omega))) | with_reducible apply Blk.below (hb := hb1) (hg := (by first | omega | (simp; done) | (simp; omega))) | with_reducible exact Blk.new_at (h := (by first | rfl | (simp; done) | omega)) | with_reducible apply Blk.alloc); obtain ⟨av, cv, rfl⟩ := own_form ho3.row; have c30 := bx3.cell 0; have c31 := bx3.cell 1; have f3 := (fun i => bx3.free i); have z3 := bx3.lt; simp at c30 c31; have hz3 := hb3.size; (try simp at hz3); obtain ⟨hc3, hf3⟩ := bcell hb3; have g3a : w.heap.size < w2.heap.size := (by omega); have g3b : w.heap.size + 1 < w2.heap.size := (by omega); have g3c : w.heap.size + 1 < w3.heap.size := (by omega)) | (go_at_call 66; refine (cut_calls (i := i) (k := k) (sb := w.heap.size) (next := s.next) (ho3.same (Nat.le_refl _) (fun g h1 h2 => (Below.heap_setCell _ _ _ _ (by show g ≠ w.heap.size; omega)).trans (Below.heap_setCell _ _ _ _ (by show g ≠ w.heap.size; omega)))) (by exact (bx3.put 0 (.slice av s.tables.length cv)).put 1 (.int .i64 s.next)) (by omega) (by first | (simp [World.setCell]; done) | (simp [World.setCell]; omega)) HN1.out HT.out HN2.out HN3.out HN4.out).mono ?_; rintro e w4 ⟨rfl, vt4, hs4, bx4, ho4, but4⟩; obtain ⟨a4, q4, rfl⟩ := own_form ho4.row; have c40 := bx4.cell 0; have c41 := bx4.cell 1; simp at c40 c41; have z4 := bx4.lt; have f4 := (fun i => bx4.free i); have B4 := but4.block (w.heap.size + 1) g3b (by omega); have B5 := B4.trans ((Below.heap_setCell _ _ _ _ (by show w.heap.size + 1 ≠ w.heap.size; omega)).trans (Below.heap_setCell _ _ _ _ (by show w.heap.size + 1 ≠ w.heap.size; omega))); have d4 := (fun o => World.cell?_of_block (a := ⟨w.heap.size + 1, o, none⟩) B5); have e4 := (fun o => World.frozen?_of_block (a := ⟨w.heap.size + 1, o, none⟩) B5); clear B4 B5; have z5 : w.heap.size + 1 < w4.heap.size := (by have := but4.size; simp [World.setCell] at this; omega)))
      refine bodyPost_ret (v := .tuple #[.agg #[.slice a4 (M.cutT s.tables i k).length q4, .int .i64 s.next], .int .i64 0]) ?_ rfl ⟨_, rfl, agg_new (s := M.cut s i k) (ho4.same (Nat.le_refl _) (fun g h1 h2 => (Below.heap_setCell _ _ _ _ (by show g ≠ w.heap.size + 1; omega)).trans (Below.heap_setCell _ _ _ _ (by show g ≠ w.heap.size + 1; omega)))).tabs (by first | omega | (simp; done) | (simp; omega)), ?_⟩
      · simp only [results, Try.results42]
        go_simp
      · have KF : Below w.heap.size w w4 := (show Below w.heap.size w _ from (by repeat first | with_reducible assumption | with_reducible exact Below.refl _ _ | with_reducible apply Below.drew | with_reducible apply below_drewN | with_reducible apply Below.alloc (hB := (by first | omega | (simp; done) | (simp; omega))) | with_reducible apply Below.setCell (hp := (by first | omega | (simp; done) | (simp; omega))))).trans (but4.below (by omega) (Nat.le_refl _))
        exact (by repeat first | with_reducible assumption | with_reducible exact Below.refl _ _ | with_reducible apply Below.drew | with_reducible apply below_drewN | with_reducible apply Below.alloc (hB := (by first | omega | (simp; done) | (simp; omega))) | with_reducible apply Below.setCell (hp := (by first | omega | (simp; done) | (simp; omega))))
  · have hg0 : M.good s = false := by simpa using hg
    rw [hg0] at HG
    have HR : Hid (M.kill s id = (s, 1)) := Lib.hid (by unfold M.kill; rw [hg0]; rfl)
    rw [HR.out]
    clear hg hg0 HF HOW
    go_enter Try.func42, Try.ntmps42
    go_wp2_with (first | (go_at_call 59; refine (HG.out _ (by repeat first | with_reducible assumption | with_reducible exact Below.refl _ _ | with_reducible apply Below.drew | with_reducible apply below_drewN | with_reducible apply Below.alloc (hB := (by first | omega | (simp; done) | (simp; omega))) | with_reducible apply Below.setCell (hp := (by first | omega | (simp; done) | (simp; omega))))).mono ?_; rintro e w1 ⟨rfl, hb1⟩; obtain ⟨hc1, hf1⟩ := bcell hb1; have hz1 := hb1.size; (try simp at hz1); have f1_0 : w.heap.size < w1.heap.size := (by omega); have g1_0 : w.heap.size < w.heap.size + 1 + 1 := (by omega); have f1_1 : w.heap.size + 1 < w1.heap.size := (by omega); have g1_1 : w.heap.size + 1 < w.heap.size + 1 + 1 := (by omega); have K1 : Below w.heap.size w w1 := (show Below w.heap.size w _ from (by repeat first | with_reducible assumption | with_reducible exact Below.refl _ _ | with_reducible apply Below.drew | with_reducible apply below_drewN | with_reducible apply Below.alloc (hB := (by first | omega | (simp; done) | (simp; omega))) | with_reducible apply Below.setCell (hp := (by first | omega | (simp; done) | (simp; omega))))).trans (hb1.mono (by first | omega | (simp; done) | (simp; omega)))))
    refine bodyPost_ret (v := .tuple #[.agg #[.slice a s.tables.length cap, .int .i64 s.next], .int .i64 1]) ?_ rfl ⟨_, rfl, ⟨(HST.out.below (by repeat first | with_reducible assumption | with_reducible exact Below.refl _ _ | with_reducible apply Below.drew | with_reducible apply below_drewN | with_reducible apply Below.alloc (hB := (by first | omega | (simp; done) | (simp; omega))) | with_reducible apply Below.setCell (hp := (by first | omega | (simp; done) | (simp; omega))))).mono (Nat.zero_le _), .inl ⟨rfl, rfl⟩⟩, (by repeat first | with_reducible assumption | with_reducible exact Below.refl _ _ | with_reducible apply Below.drew | with_reducible apply below_drewN | with_reducible apply Below.alloc (hB := (by first | omega | (simp; done) | (simp; omega))) | with_reducible apply Below.setCell (hp := (by first | omega | (simp; done) | (simp; omega))))⟩
    simp only [results, Try.results42]
    go_simp
end Go.Proofs.Ytkpecagkpjabdaa
