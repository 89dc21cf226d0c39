/- The contract of store.Spawn. Condition: the store lies in memory, its numbers are of 64 bits. -/
import Derived.Test.YtkpecagkpjabdabGreatBagT2
import Derived.Test.YtkpecagkpjabdabGreatBagMb
namespace Go.Proofs.YtkpecagkpjabdabGreat
open Go.RowKit
set_option linter.unusedVariables false
set_option linter.unusedSimpArgs false
set_option maxRecDepth 100000

theorem tabs_same {w W : World} {base : Nat} {vt : Value} {ts : List M.Table} {hs : List (Value × Value)} (h : TabsAtH w base vt ts hs) (hs' : ∀ g, base ≤ g → W.heap[g]? = w.heap[g]?) : TabsAtH W base vt ts hs := by
  have key : ∀ {v : Value} {n k : Nat} {xs : List Value}, Lies w base v n k xs → Lies W base v n k xs := by
    rintro v n k xs ⟨h1, hm, a, cap, h2, h3⟩
    refine ⟨h1, hm, a, cap, h2, fun hne => ?_⟩
    obtain ⟨b, o, e, hl, hc⟩ := h3 hne
    exact ⟨b, o, e, hl, fun j u hj => (World.cell?_of_block (a := ⟨b, o + j, none⟩) (hs' b hl)).trans (hc j u hj)⟩
  exact ⟨h.1, key h.2.1, fun i t p h1 h2 => ⟨key (h.2.2 i t p h1 h2).1, key (h.2.2 i t p h1 h2).2⟩⟩
set_option maxHeartbeats 4000000 in
set_option maxRecDepth 100000 in
theorem spawn_calls {w : World} {lo : Nat} {v : Value} {s : M.Store} (h : StoreAt w lo v s) (hin : StoreIn s) (m : Int) (r : M.Row) :
    Calls Tryz.prog 40 #[v, .int .i64 m, rowV r] w fun e w' => ∃ v', e = .returned (.tuple #[v', .int .i64 (M.spawn s m r).2.1, .int .i64 (M.spawn s m r).2.2]) ∧ (StoreAt w' 0 v' (M.spawn s m r).1 ∧ NewOr w w' v v' s (M.spawn s m r).1) ∧ Below w.heap.size w w' := by
  have HG := Lib.hid (fun W (hb : Below w.heap.size w W) => storeGood_calls (h.below hb) hin)
  have HZ := Lib.hid (fun W (hb : Below w.heap.size w W) => size_calls (h.below hb))
  have HST := Lib.hid h
  have HOW := Lib.hid (fun W (hb : Below w.heap.size w W) => own_calls (h.below hb))
  have HQ := Lib.hid (fun W => goodRow_calls m r W)
  obtain ⟨vt, rfl, hs, hT⟩ := h
  obtain ⟨a, cap, rfl⟩ := hT.val
  clear hin hT
  by_cases hg : M.good s = true
  · have hgs := (M.good_iff s).1 hg
    rw [hg] at HG
    by_cases hq : M.goodRow m r = true
    · rw [hq] at HQ
      have hbd := good_bounds hgs
      have hsz : M.sizeW s.tables = (M.size s : Int) := M.sizeW_eq _ (by have := hgs.2.2.2.1; omega)
      have hs10 : M.size s ≤ 10 := hgs.2.2.2.1
      rw [hsz] at HZ
      have hlo := hbd.lo
      have hhi := hbd.hi
      have HSH := Lib.hid hbd.short
      have HMK : Hid (Masks s.tables) := Lib.hid hbd.masks
      have HFW : Hid (Few s.tables) := Lib.hid hbd.isFew
      have HM : Hid (0 ≤ m ∧ m ≤ 31) := Lib.hid (by have k1 := (M.goodRow_fits.1 hq).lo; have k2 := (M.goodRow_fits.1 hq).hi; omega)
      by_cases h10 : 10 ≤ M.size s
      · have HR : Hid (M.spawn s m r = (s, 0, 5)) := Lib.hid (by
          unfold M.spawn
          rw [if_neg (by rw [hg]; decide), if_neg (by rw [hq]; decide), if_pos (Or.inl h10)])
        rw [HR.out]
        have q10 : decide ((10 : Int) ≤ (M.size s : Int)) = true := by simp; omega
        clear hg hgs hq hbd hsz
        go_enter Tryz.func40, Tryz.ntmps40
        go_wp2_with (first | (go_at_call 56; refine (HG.out _ bel9).mono ?_; rintro e w1 ⟨rfl, hb1⟩; obtain ⟨hc1, hf1⟩ := bcell hb1; have hz1 := hb1.size; (try simp at hz1); have f1_0 : w.heap.size < w1.heap.size := (by omega); have g1_0 : w.heap.size < w.heap.size + 1 + 1 + 1 := (by omega); have f1_1 : w.heap.size + 1 < w1.heap.size := (by omega); have g1_1 : w.heap.size + 1 < w.heap.size + 1 + 1 + 1 := (by omega); have f1_2 : w.heap.size + 1 + 1 < w1.heap.size := (by omega); have g1_2 : w.heap.size + 1 + 1 < w.heap.size + 1 + 1 + 1 := (by omega); have K1 : Below w.heap.size w w1 := (show Below w.heap.size w _ from bel9).trans (hb1.mono sid9)) | (go_at_call 76; refine (HQ.out _).mono ?_; rintro e w2 ⟨rfl, hb2⟩; obtain ⟨hc2, hf2⟩ := bcell hb2; have hz2 := hb2.size; (try simp at hz2); have f2_0 : w.heap.size < w2.heap.size := (by omega); have f2_1 : w.heap.size + 1 < w2.heap.size := (by omega); have f2_2 : w.heap.size + 1 + 1 < w2.heap.size := (by omega); have K2 : Below w.heap.size w w2 := (show Below w.heap.size w _ from bel9).trans (hb2.mono sid9)) | (go_at_call 32; refine (HZ.out _ bel9).mono ?_; rintro e w3 ⟨rfl, hb3⟩; obtain ⟨hc3, hf3⟩ := bcell hb3; have hz3 := hb3.size; (try simp at hz3); have f3_0 : w.heap.size < w3.heap.size := (by omega); have f3_1 : w.heap.size + 1 < w3.heap.size := (by omega); have f3_2 : w.heap.size + 1 + 1 < w3.heap.size := (by omega); have K3 : Below w.heap.size w w3 := (show Below w.heap.size w _ from bel9).trans (hb3.mono sid9)))
        refine bodyPost_ret (v := .tuple #[.agg #[.slice a s.tables.length cap, .int .i64 s.next], .int .i64 0, .int .i64 5]) ?_ rfl ⟨_, rfl, ⟨(HST.out.below bel9).mono (Nat.zero_le _), .inl ⟨rfl, rfl⟩⟩, bel9⟩
        simp only [results, Tryz.results40]
        go_simp
      · by_cases hn : 1048576 ≤ s.next
        · have HR : Hid (M.spawn s m r = (s, 0, 5)) := Lib.hid (by
            unfold M.spawn
            rw [if_neg (by rw [hg]; decide), if_neg (by rw [hq]; decide), if_pos (Or.inr hn)])
          rw [HR.out]
          have q10 : decide ((10 : Int) ≤ (M.size s : Int)) = false := by simp; omega
          have qn : decide ((1048576 : Int) ≤ s.next) = true := by simp; omega
          clear hg hgs hq hbd hsz
          go_enter Tryz.func40, Tryz.ntmps40
          go_wp2_with (first | (go_at_call 56; refine (HG.out _ bel9).mono ?_; rintro e w1 ⟨rfl, hb1⟩; obtain ⟨hc1, hf1⟩ := bcell hb1; have hz1 := hb1.size; (try simp at hz1); have f1_0 : w.heap.size < w1.heap.size := (by omega); have g1_0 : w.heap.size < w.heap.size + 1 + 1 + 1 := (by omega); have f1_1 : w.heap.size + 1 < w1.heap.size := (by omega); have g1_1 : w.heap.size + 1 < w.heap.size + 1 + 1 + 1 := (by omega); have f1_2 : w.heap.size + 1 + 1 < w1.heap.size := (by omega); have g1_2 : w.heap.size + 1 + 1 < w.heap.size + 1 + 1 + 1 := (by omega); have K1 : Below w.heap.size w w1 := (show Below w.heap.size w _ from bel9).trans (hb1.mono sid9)) | (go_at_call 76; refine (HQ.out _).mono ?_; rintro e w2 ⟨rfl, hb2⟩; obtain ⟨hc2, hf2⟩ := bcell hb2; have hz2 := hb2.size; (try simp at hz2); have f2_0 : w.heap.size < w2.heap.size := (by omega); have f2_1 : w.heap.size + 1 < w2.heap.size := (by omega); have f2_2 : w.heap.size + 1 + 1 < w2.heap.size := (by omega); have K2 : Below w.heap.size w w2 := (show Below w.heap.size w _ from bel9).trans (hb2.mono sid9)) | (go_at_call 32; refine (HZ.out _ bel9).mono ?_; rintro e w3 ⟨rfl, hb3⟩; obtain ⟨hc3, hf3⟩ := bcell hb3; have hz3 := hb3.size; (try simp at hz3); have f3_0 : w.heap.size < w3.heap.size := (by omega); have f3_1 : w.heap.size + 1 < w3.heap.size := (by omega); have f3_2 : w.heap.size + 1 + 1 < w3.heap.size := (by omega); have K3 : Below w.heap.size w w3 := (show Below w.heap.size w _ from bel9).trans (hb3.mono sid9)))
          refine bodyPost_ret (v := .tuple #[.agg #[.slice a s.tables.length cap, .int .i64 s.next], .int .i64 0, .int .i64 5]) ?_ rfl ⟨_, rfl, ⟨(HST.out.below bel9).mono (Nat.zero_le _), .inl ⟨rfl, rfl⟩⟩, bel9⟩
          simp only [results, Tryz.results40]
          go_simp
        · have HR : Hid (M.spawn s m r = (M.put { s with next := s.next + 1 } s.next m r, s.next, 0)) := Lib.hid (by
            unfold M.spawn
            rw [if_neg (by rw [hg]; decide), if_neg (by rw [hq]; decide), if_neg (by omega)])
          rw [HR.out]
          have hw1 : IntKind.i64.wrap (s.next + 1) = s.next + 1 := by rw [IntKind.wrap_i64]; omega
          clear hg hq hgs hbd hsz
          go_enter Tryz.func40, Tryz.ntmps40
          go_wp2_with (first | (go_at_call 56; refine (HG.out _ bel9).mono ?_; rintro e w1 ⟨rfl, hb1⟩; obtain ⟨hc1, hf1⟩ := bcell hb1; have hz1 := hb1.size; (try simp at hz1); have f1_0 : w.heap.size < w1.heap.size := (by omega); have g1_0 : w.heap.size < w.heap.size + 1 + 1 + 1 := (by omega); have f1_1 : w.heap.size + 1 < w1.heap.size := (by omega); have g1_1 : w.heap.size + 1 < w.heap.size + 1 + 1 + 1 := (by omega); have f1_2 : w.heap.size + 1 + 1 < w1.heap.size := (by omega); have g1_2 : w.heap.size + 1 + 1 < w.heap.size + 1 + 1 + 1 := (by omega); have K1 : Below w.heap.size w w1 := (show Below w.heap.size w _ from bel9).trans (hb1.mono sid9)) | (go_at_call 76; refine (HQ.out _).mono ?_; rintro e w2 ⟨rfl, hb2⟩; obtain ⟨hc2, hf2⟩ := bcell hb2; have hz2 := hb2.size; (try simp at hz2); have f2_0 : w.heap.size < w2.heap.size := (by omega); have f2_1 : w.heap.size + 1 < w2.heap.size := (by omega); have f2_2 : w.heap.size + 1 + 1 < w2.heap.size := (by omega); have K2 : Below w.heap.size w w2 := (show Below w.heap.size w _ from bel9).trans (hb2.mono sid9)) | (go_at_call 32; refine (HZ.out _ bel9).mono ?_; rintro e w3 ⟨rfl, hb3⟩; obtain ⟨hc3, hf3⟩ := bcell hb3; have hz3 := hb3.size; (try simp at hz3); have f3_0 : w.heap.size < w3.heap.size := (by omega); have f3_1 : w.heap.size + 1 < w3.heap.size := (by omega); have f3_2 : w.heap.size + 1 + 1 < w3.heap.size := (by omega); have K3 : Below w.heap.size w w3 := (show Below w.heap.size w _ from bel9).trans (hb3.mono sid9)) | (go_at_call 77; refine (HOW.out _ bel9 HSH.out).mono ?_; rintro e w4 ⟨vt1, hs1, rfl, ho4, hb4⟩; have K4 : Below w.heap.size w w4 := (show Below w.heap.size w _ from bel9).trans (hb4.mono sid9); have bx4 : Blk w4 w.heap.size 39 #[.slice a s.tables.length cap, .int .i64 s.next] := (by repeat first | with_reducible apply Blk.below (hb := hb4) (hg := sid9) | with_reducible apply Blk.below (hb := hb3) (hg := sid9) | with_reducible apply Blk.below (hb := hb2) (hg := sid9) | with_reducible apply Blk.below (hb := hb1) (hg := sid9) | with_reducible exact Blk.new_at (h := (by first | rfl | (simp; done) | omega)) | with_reducible apply Blk.alloc | with_reducible apply Blk.drew); obtain ⟨av, cv, rfl⟩ := own_form ho4.row; have c40 := bx4.cell 0; have c41 := bx4.cell 1; have f4 := (fun i => bx4.free i); have z4 := bx4.lt; simp at c40 c41; have hz4 := hb4.size; (try simp at hz4); obtain ⟨hc4, hf4⟩ := bcell hb4; have g4a : w.heap.size < w3.heap.size := (by omega); have g4b : w.heap.size + 1 < w3.heap.size := (by omega); have g4d : w.heap.size + 1 < w4.heap.size := (by omega); have g4e : w.heap.size + 1 + 1 < w3.heap.size := (by omega); have g4f : w.heap.size + 1 + 1 < w4.heap.size := (by omega)) | (go_at_call 78; refine (put_calls (sb := w.heap.size) (next := s.next + 1) (ho4.same (Nat.le_refl _) (fun g h1 h2 => (Below.heap_setCell _ _ _ _ (by show g ≠ w.heap.size; omega)).trans ((Below.heap_setCell _ _ _ _ (by show g ≠ w.heap.size; omega)).trans (Below.heap_setCell _ _ _ _ (by show g ≠ w.heap.size; omega))))) (by exact ((bx4.put 0 (.slice av s.tables.length cv)).put 1 (.int .i64 s.next)).put 1 (.int .i64 (s.next + 1))) (by omega) (by first | (simp [World.setCell]; done) | (simp [World.setCell]; omega)) HMK.out HFW.out s.next m r HM.out).mono ?_; rintro e w5 ⟨rfl, vt5, hs5, bx5, ht5, but5⟩; obtain ⟨a5, q5, rfl⟩ := ht5.val; have c50 := bx5.cell 0; have c51 := bx5.cell 1; simp at c50 c51; have z5 := bx5.lt; have f5 := (fun i => bx5.free i); have B4 := but5.block (w.heap.size + 1 + 1) g4e (by omega); have B5 := B4.trans ((Below.heap_setCell _ _ _ _ (by show w.heap.size + 1 + 1 ≠ w.heap.size; omega)).trans ((Below.heap_setCell _ _ _ _ (by show w.heap.size + 1 + 1 ≠ w.heap.size; omega)).trans (Below.heap_setCell _ _ _ _ (by show w.heap.size + 1 + 1 ≠ w.heap.size; omega)))); have d5 := (fun o => World.cell?_of_block (a := ⟨w.heap.size + 1 + 1, o, none⟩) B5); have e5 := (fun o => World.frozen?_of_block (a := ⟨w.heap.size + 1 + 1, o, none⟩) B5); clear B4 B5; have z6 : w.heap.size + 1 + 1 < w5.heap.size := (by have := but5.size; simp [World.setCell] at this; omega)))
          refine bodyPost_ret (v := .tuple #[.agg #[.slice a5 (M.putT s.next m r s.tables).length q5, .int .i64 (s.next + 1)], .int .i64 s.next, .int .i64 0]) ?_ rfl ⟨_, rfl, agg_new (s := M.put { s with next := s.next + 1 } s.next m r) (tabs_same ht5 (fun g h1 => (Below.heap_setCell _ _ _ _ (by show g ≠ w.heap.size + 1 + 1; omega)).trans (Below.heap_setCell _ _ _ _ (by show g ≠ w.heap.size + 1 + 1; omega)))) sid9, ?_⟩
          · simp only [results, Tryz.results40]
            go_simp
          · have KF : Below w.heap.size w w5 := (show Below w.heap.size w _ from bel9).trans (but5.below (by omega) (Nat.le_refl _))
            exact bel9
    · have hq0 : M.goodRow m r = false := by simpa using hq
      rw [hq0] at HQ
      have HR : Hid (M.spawn s m r = (s, 0, 2)) := Lib.hid (by
        unfold M.spawn
        rw [if_neg (by rw [hg]; decide), if_pos hq0])
      rw [HR.out]
      clear hg hgs hq hq0 HZ HOW
      go_enter Tryz.func40, Tryz.ntmps40
      go_wp2_with (first | (go_at_call 56; refine (HG.out _ bel9).mono ?_; rintro e w1 ⟨rfl, hb1⟩; obtain ⟨hc1, hf1⟩ := bcell hb1; have hz1 := hb1.size; (try simp at hz1); have f1_0 : w.heap.size < w1.heap.size := (by omega); have g1_0 : w.heap.size < w.heap.size + 1 + 1 + 1 := (by omega); have f1_1 : w.heap.size + 1 < w1.heap.size := (by omega); have g1_1 : w.heap.size + 1 < w.heap.size + 1 + 1 + 1 := (by omega); have f1_2 : w.heap.size + 1 + 1 < w1.heap.size := (by omega); have g1_2 : w.heap.size + 1 + 1 < w.heap.size + 1 + 1 + 1 := (by omega); have K1 : Below w.heap.size w w1 := (show Below w.heap.size w _ from bel9).trans (hb1.mono sid9)) | (go_at_call 76; refine (HQ.out _).mono ?_; rintro e w2 ⟨rfl, hb2⟩; obtain ⟨hc2, hf2⟩ := bcell hb2; have hz2 := hb2.size; (try simp at hz2); have f2_0 : w.heap.size < w2.heap.size := (by omega); have f2_1 : w.heap.size + 1 < w2.heap.size := (by omega); have f2_2 : w.heap.size + 1 + 1 < w2.heap.size := (by omega); have K2 : Below w.heap.size w w2 := (show Below w.heap.size w _ from bel9).trans (hb2.mono sid9)))
      refine bodyPost_ret (v := .tuple #[.agg #[.slice a s.tables.length cap, .int .i64 s.next], .int .i64 0, .int .i64 2]) ?_ rfl ⟨_, rfl, ⟨(HST.out.below bel9).mono (Nat.zero_le _), .inl ⟨rfl, rfl⟩⟩, bel9⟩
      simp only [results, Tryz.results40]
      go_simp
  · have hg0 : M.good s = false := by simpa using hg
    rw [hg0] at HG
    have HR : Hid (M.spawn s m r = (s, 0, 1)) := Lib.hid (by unfold M.spawn; rw [if_pos hg0])
    rw [HR.out]
    clear hg hg0 HZ HOW HQ
    go_enter Tryz.func40, Tryz.ntmps40
    go_wp2_with (first | (go_at_call 56; refine (HG.out _ bel9).mono ?_; rintro e w1 ⟨rfl, hb1⟩; obtain ⟨hc1, hf1⟩ := bcell hb1; have hz1 := hb1.size; (try simp at hz1); have f1_0 : w.heap.size < w1.heap.size := (by omega); have g1_0 : w.heap.size < w.heap.size + 1 + 1 + 1 := (by omega); have f1_1 : w.heap.size + 1 < w1.heap.size := (by omega); have g1_1 : w.heap.size + 1 < w.heap.size + 1 + 1 + 1 := (by omega); have f1_2 : w.heap.size + 1 + 1 < w1.heap.size := (by omega); have g1_2 : w.heap.size + 1 + 1 < w.heap.size + 1 + 1 + 1 := (by omega); have K1 : Below w.heap.size w w1 := (show Below w.heap.size w _ from bel9).trans (hb1.mono sid9)))
    refine bodyPost_ret (v := .tuple #[.agg #[.slice a s.tables.length cap, .int .i64 s.next], .int .i64 0, .int .i64 1]) ?_ rfl ⟨_, rfl, ⟨(HST.out.below bel9).mono (Nat.zero_le _), .inl ⟨rfl, rfl⟩⟩, bel9⟩
    simp only [results, Tryz.results40]
    go_simp
end Go.Proofs.YtkpecagkpjabdabGreat
