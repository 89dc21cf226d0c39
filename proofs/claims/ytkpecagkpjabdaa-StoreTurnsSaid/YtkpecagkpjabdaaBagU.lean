/- Several small texts in one. No condition of its own: each part says its own. -/
import Derived.Test.YtkpecagkpjabdaaBagP
import Derived.Test.YtkpecagkpjabdaaRowCells
import Derived.Test.YtkpecagkpjabdaaRowEq
import Derived.Lib.QuietBelow
import Derived.Deep.DeepCutAuto
import Derived.BigQuiet
import Derived.Deep.RegionHeld3
import Derived.Deep.QuietTactic
/- The contracts of the document's has, within, OnlyOf and IsRow: they answer what the plain model says. Condition: has, OnlyOf: a mask from 0 to 31. -/
namespace Go.Proofs.Ytkpecagkpjabdaa
open Go.RowKit
set_option linter.unusedVariables false
set_option linter.unusedSimpArgs false
set_option maxRecDepth 100000
def M.inB (n lo hi : Int) : Bool := decide (lo ≤ n ∧ n ≤ hi)
theorem M.has_tab : ∀ m : Fin 32, ∀ p : Fin 5, decide (((m.val : Int).tdiv (2 ^ p.val : Int)).tmod 2 = 1) = M.bit m.val (2 ^ p.val : Int) := by decide
theorem M.has_bit {m p : Int} (h0 : 0 ≤ m) (h1 : m ≤ 31) (hp : p = 1 ∨ p = 2 ∨ p = 4 ∨ p = 8 ∨ p = 16) : decide ((m.tdiv p).tmod 2 = 1) = M.bit m p := by
  obtain ⟨f, rfl⟩ := M.fin_of h0 h1
  rcases hp with rfl | rfl | rfl | rfl | rfl
  · exact M.has_tab f 0
  · exact M.has_tab f 1
  · exact M.has_tab f 2
  · exact M.has_tab f 3
  · exact M.has_tab f 4
theorem has_calls {m p : Int} (h0 : 0 ≤ m) (h1 : m ≤ 31) (hp : p = 1 ∨ p = 2 ∨ p = 4 ∨ p = 8 ∨ p = 16) (w : World) : Calls Try.prog 67 #[.int .i64 m, .int .i64 p] w fun e w' => e = .returned (.bool (M.bit m p)) ∧ w = w' := by
  have hb := M.has_bit h0 h1 hp
  have hw : IntKind.i64.wrap (m.tdiv p) = m.tdiv p := by
    rw [IntKind.wrap_i64]
    have := Int.tdiv_eq_ediv_of_nonneg h0 (b := p)
    rcases hp with rfl | rfl | rfl | rfl | rfl <;> rw [this] <;> omega
  have hw2 : IntKind.i64.wrap ((m.tdiv p).tmod 2) = (m.tdiv p).tmod 2 := by
    rw [IntKind.wrap_i64]
    have := Int.tdiv_nonneg h0 (show 0 ≤ p by omega)
    have := Int.tmod_eq_emod_of_nonneg this (b := 2)
    omega
  have hp0 : (p == 0) = false := by rcases hp with rfl | rfl | rfl | rfl | rfl <;> rfl
  have hp1 : p ≠ 0 := by rcases hp with rfl | rfl | rfl | rfl | rfl <;> decide
  clear hp
  go_enter Try.func67, Try.ntmps67
  go_wp2
  go_ret
  refine ⟨ret_bool ?_, rfl⟩
  rw [← hb]
  rfl
theorem inB_calls (n lo hi : Int) (w : World) : Calls Try.prog 57 #[.int .i64 n, .int .i64 lo, .int .i64 hi] w fun e w' => e = .returned (.bool (M.inB n lo hi)) ∧ w = w' := by
  go_enter Try.func57, Try.ntmps57
  go_wp2
  all_goals
    go_ret
    refine ⟨ret_bool ?_, rfl⟩
    unfold M.inB
    rw [Bool.eq_iff_iff]
    first
      | (simp; done)
      | (simp; omega)
      | (simp_all; done)
set_option maxHeartbeats 4000000 in
theorem onlyOf_calls {m : Int} (h0 : 0 ≤ m) (h1 : m ≤ 31) (r : M.Row) (w : World) : Calls Try.prog 52 #[.int .i64 m, rowV r] w fun e w' => e = .returned (rowV (M.only m r)) ∧ Below w.heap.size w w' := by
  have HH := Lib.hid (fun p hp W => has_calls h0 h1 (p := p) hp W)
  unfold M.only
  obtain ⟨b1, c1⟩ : ∃ b, M.bit m 1 = b := ⟨_, rfl⟩
  obtain ⟨b2, c2⟩ : ∃ b, M.bit m 2 = b := ⟨_, rfl⟩
  obtain ⟨b4, c4⟩ : ∃ b, M.bit m 4 = b := ⟨_, rfl⟩
  obtain ⟨b8, c8⟩ : ∃ b, M.bit m 8 = b := ⟨_, rfl⟩
  rw [c1, c2, c4, c8]
  have C1 := Lib.hid c1
  have C2 := Lib.hid c2
  have C4 := Lib.hid c4
  have C8 := Lib.hid c8
  clear c1 c2 c4 c8
  cases b1 <;> cases b2 <;> cases b4 <;> cases b8
  all_goals
    go_enter Try.func52, Try.ntmps52
    go_wp2_with (go_at_call 67; refine (HH.out _ (by simp) _).mono ?_; rintro e w' ⟨he, rfl⟩; (first | rw [C1.out] at he | rw [C2.out] at he | rw [C4.out] at he | rw [C8.out] at he); subst he)
    refine bodyPost_ret (v := rowV (M.onlyAt _ _ _ _ r)) ?_ rfl ⟨rfl, (by repeat first | with_reducible assumption | with_reducible exact Below.refl _ _ | with_reducible apply Below.drew | with_reducible apply below_drewN | with_reducible apply Below.alloc (hB := (by first | omega | (simp; done) | (simp; omega))) | with_reducible apply Below.setCell (hp := (by first | omega | (simp; done) | (simp; omega))))⟩
    simp only [results, Try.results52]
    go_simp
    simp [M.onlyAt]
end Go.Proofs.Ytkpecagkpjabdaa
/- The contract of the document's IsRow: it answers what the plain model says. No condition. -/
namespace Go.Proofs.Ytkpecagkpjabdaa
open Go.RowKit
set_option linter.unusedVariables false
set_option linter.unusedSimpArgs false
set_option maxRecDepth 100000
/-- what IsRow has found so far -/
def M.isRowN (b1 b2 b4 b8 : Bool) (r : M.Row) : Bool × Bool × Bool × Bool :=
  let o1 := if b1 then M.inB r.X (-1048576) 1048576 && M.inB r.Y (-1048576) 1048576 else true
  let o2 := if b2 then o1 && (M.inB r.PX (-16777216) 16777216 && M.inB r.PY (-16777216) 16777216) else o1
  let o4 := if b4 then o2 && (M.inB r.W 1 4096 && M.inB r.H 1 4096) else o2
  let o8 := if b8 then o4 && (M.inB r.M 1 9 && M.inB r.R 0 256) else o4
  (o1, o2, o4, o8)
theorem M.isRow_eq {m : Int} (h0 : 1 ≤ m) (h1 : m ≤ 31) (r : M.Row) : ((M.isRowN (M.bit m 1) (M.bit m 2) (M.bit m 4) (M.bit m 8) r).2.2.2 && decide (r = M.only m r)) = M.goodRow m r := by
  rw [Bool.eq_iff_iff, M.goodRow_fits]
  unfold M.isRowN M.only M.inB
  obtain ⟨x, y, px, py, w, h, ma, re⟩ := r
  constructor
  · intro hh
    simp only [Bool.and_eq_true, decide_eq_true_eq, M.onlyAt, M.Row.mk.injEq] at hh
    obtain ⟨ho, e1, e2, e3, e4, e5, e6, e7, e8⟩ := hh
    refine ⟨h0, h1, ?_, ?_, ?_, ?_, ?_, ?_, ?_, ?_⟩ <;> intro hb <;> simp only [hb] at ho e1 e2 e3 e4 e5 e6 e7 e8 <;> simp at ho e1 e2 e3 e4 e5 e6 e7 e8 <;> simp_all
    all_goals (repeat' split at ho) <;> simp_all
  · rintro ⟨_, _, p1, q1, p2, q2, p4, q4, p8, q8⟩
    cases c1 : M.bit m 1 <;> cases c2 : M.bit m 2 <;> cases c4 : M.bit m 4 <;> cases c8 : M.bit m 8 <;> simp [c1, c2, c4, c8] at p1 q1 p2 q2 p4 q4 p8 q8 <;> simp [M.onlyAt] <;> omega
theorem wp_named2 {P : Program} {c : Code} {Q : Exit → Act → World → Prop} {a : Act} {w : World} (h : ∀ W, W = w → c.wp P Q a W) : c.wp P Q a w := h w rfl
theorem M.goodRow_out {m : Int} (h : ¬ (1 ≤ m ∧ m ≤ 31)) (r : M.Row) : M.goodRow m r = false := by
  unfold M.goodRow
  rw [decide_eq_false h]
  rfl
set_option maxHeartbeats 4000000 in
theorem isRow_calls (m : Int) (r : M.Row) (w : World) : Calls Try.prog 49 #[.int .i64 m, rowV r] w fun e w' => e = .returned (.bool (M.goodRow m r)) ∧ Below w.heap.size w w' := by
  by_cases hm : 1 ≤ m ∧ m ≤ 31
  rotate_left
  · have hin : M.inB m 1 31 = false := decide_eq_false hm
    have HI := Lib.hid hin
    have HG := Lib.hid (M.goodRow_out hm r)
    clear hm hin
    go_enter Try.func49, Try.ntmps49
    go_wp2_with (go_at_call 57; refine (inB_calls _ _ _ _).mono ?_; rintro e w' ⟨he, rfl⟩; rw [HI.out] at he; subst he)
    go_ret
    exact ⟨ret_bool HG.out.symm, (by repeat first | with_reducible assumption | with_reducible exact Below.refl _ _ | with_reducible apply Below.drew | with_reducible apply below_drewN | with_reducible apply Below.alloc (hB := (by first | omega | (simp; done) | (simp; omega))) | with_reducible apply Below.setCell (hp := (by first | omega | (simp; done) | (simp; omega))))⟩
  obtain ⟨h0, h1⟩ := hm
  have HH := Lib.hid (fun p hp W => has_calls (show 0 ≤ m by omega) h1 (p := p) hp W)
  have HO := Lib.hid (fun W => onlyOf_calls (show 0 ≤ m by omega) h1 r W)
  have hq := M.isRow_eq h0 h1 r
  have hin : M.inB m 1 31 = true := decide_eq_true ⟨h0, h1⟩
  have HI := Lib.hid hin
  obtain ⟨g, hg⟩ : ∃ g, M.goodRow m r = g := ⟨_, rfl⟩
  obtain ⟨o, ho⟩ : ∃ o, M.only m r = o := ⟨_, rfl⟩
  rw [hg] at hq ⊢
  rw [ho] at hq HO
  obtain ⟨b1, c1⟩ : ∃ b, M.bit m 1 = b := ⟨_, rfl⟩
  obtain ⟨b2, c2⟩ : ∃ b, M.bit m 2 = b := ⟨_, rfl⟩
  obtain ⟨b4, c4⟩ : ∃ b, M.bit m 4 = b := ⟨_, rfl⟩
  obtain ⟨b8, c8⟩ : ∃ b, M.bit m 8 = b := ⟨_, rfl⟩
  rw [c1, c2, c4, c8] at hq
  have C1 := Lib.hid c1
  have C2 := Lib.hid c2
  have C4 := Lib.hid c4
  have C8 := Lib.hid c8
  have HQ := Lib.hid hq
  clear c1 c2 c4 c8 hin hg ho h0 h1 hq
  obtain ⟨o1, ho1⟩ : ∃ o, o = (if b1 then M.inB r.X (-1048576) 1048576 && M.inB r.Y (-1048576) 1048576 else true) := ⟨_, rfl⟩
  obtain ⟨o2, ho2⟩ : ∃ o, o = (if b2 then o1 && (M.inB r.PX (-16777216) 16777216 && M.inB r.PY (-16777216) 16777216) else o1) := ⟨_, rfl⟩
  obtain ⟨o4, ho4⟩ : ∃ o, o = (if b4 then o2 && (M.inB r.W 1 4096 && M.inB r.H 1 4096) else o2) := ⟨_, rfl⟩
  obtain ⟨o8, ho8⟩ : ∃ o, o = (if b8 then o4 && (M.inB r.M 1 9 && M.inB r.R 0 256) else o4) := ⟨_, rfl⟩
  have HQ2 : Hid ((o8 && decide (r = o)) = g) := Lib.hid (by rw [← HQ.out, ho8, ho4, ho2, ho1]; rfl)
  have O1 := Lib.hid ho1
  have O2 := Lib.hid ho2
  have O4 := Lib.hid ho4
  have O8 := Lib.hid ho8
  clear ho1 ho2 ho4 ho8 HQ
  go_enter Try.func49, Try.ntmps49
  go_upto_if 8 with (go_at_call 57; refine (inB_calls _ _ _ _).mono ?_; rintro e w' ⟨he, rfl⟩; rw [HI.out] at he; subst he)
  go_upto_if 10 with (go_at_call 67; refine (HH.out _ (by simp) _).mono ?_; rintro e w' ⟨he, rfl⟩; (first | rw [C1.out] at he | rw [C2.out] at he | rw [C4.out] at he | rw [C8.out] at he); subst he)
  go_cut [5] (fun q W => q = .bool o1 ∧ W = w.alloc (.cells (rowC r) 27))
  case first =>
    obtain ⟨a1, ha1⟩ : ∃ a, M.inB r.X (-1048576) 1048576 = a := ⟨_, rfl⟩
    obtain ⟨a2, ha2⟩ : ∃ a, M.inB r.Y (-1048576) 1048576 = a := ⟨_, rfl⟩
    have hon := O1.out
    rw [ha1, ha2] at hon
    have A1 := Lib.hid ha1
    have A2 := Lib.hid ha2
    have HN := Lib.hid hon
    clear ha1 ha2 hon
    cases b1
    · go_wp2_with fail
      go_meet
      exact ⟨by rw [HN.out]; rfl, rfl⟩
    · cases a1
      · go_wp2_with (go_at_call 57; refine (inB_calls _ _ _ _).mono ?_; rintro e w' ⟨he, rfl⟩; (first | rw [A1.out] at he | rw [A2.out] at he); subst he)
        go_meet
        exact ⟨by rw [HN.out]; rfl, rfl⟩
      · go_wp2_with (go_at_call 57; refine (inB_calls _ _ _ _).mono ?_; rintro e w' ⟨he, rfl⟩; (first | rw [A1.out] at he | rw [A2.out] at he); subst he)
        go_meet
        exact ⟨by rw [HN.out]; simp, rfl⟩
  case rest =>
  obtain ⟨rfl, rfl⟩ := hcut
  go_upto_if 23 with (go_at_call 67; refine (HH.out _ (by simp) _).mono ?_; rintro e w' ⟨he, rfl⟩; (first | rw [C1.out] at he | rw [C2.out] at he | rw [C4.out] at he | rw [C8.out] at he); subst he)
  go_cut [5] (fun q W => q = .bool o2 ∧ W = w.alloc (.cells (rowC r) 27))
  case first =>
    obtain ⟨a1, ha1⟩ : ∃ a, M.inB r.PX (-16777216) 16777216 = a := ⟨_, rfl⟩
    obtain ⟨a2, ha2⟩ : ∃ a, M.inB r.PY (-16777216) 16777216 = a := ⟨_, rfl⟩
    have hon := O2.out
    rw [ha1, ha2] at hon
    have A1 := Lib.hid ha1
    have A2 := Lib.hid ha2
    have HN := Lib.hid hon
    clear ha1 ha2 hon
    cases b2
    · go_wp2_with fail
      go_meet
      exact ⟨by rw [HN.out]; rfl, rfl⟩
    · cases o1
      · go_wp2_with fail
        go_meet
        exact ⟨by rw [HN.out]; rfl, rfl⟩
      · cases a1
        · go_wp2_with (go_at_call 57; refine (inB_calls _ _ _ _).mono ?_; rintro e w' ⟨he, rfl⟩; (first | rw [A1.out] at he | rw [A2.out] at he); subst he)
          go_meet
          exact ⟨by rw [HN.out]; rfl, rfl⟩
        · go_wp2_with (go_at_call 57; refine (inB_calls _ _ _ _).mono ?_; rintro e w' ⟨he, rfl⟩; (first | rw [A1.out] at he | rw [A2.out] at he); subst he)
          go_meet
          exact ⟨by rw [HN.out]; simp, rfl⟩
  case rest =>
  obtain ⟨rfl, rfl⟩ := hcut
  go_upto_if 36 with (go_at_call 67; refine (HH.out _ (by simp) _).mono ?_; rintro e w' ⟨he, rfl⟩; (first | rw [C1.out] at he | rw [C2.out] at he | rw [C4.out] at he | rw [C8.out] at he); subst he)
  go_cut [5] (fun q W => q = .bool o4 ∧ W = w.alloc (.cells (rowC r) 27))
  case first =>
    obtain ⟨a1, ha1⟩ : ∃ a, M.inB r.W 1 4096 = a := ⟨_, rfl⟩
    obtain ⟨a2, ha2⟩ : ∃ a, M.inB r.H 1 4096 = a := ⟨_, rfl⟩
    have hon := O4.out
    rw [ha1, ha2] at hon
    have A1 := Lib.hid ha1
    have A2 := Lib.hid ha2
    have HN := Lib.hid hon
    clear ha1 ha2 hon
    cases b4
    · go_wp2_with fail
      go_meet
      exact ⟨by rw [HN.out]; rfl, rfl⟩
    · cases o2
      · go_wp2_with fail
        go_meet
        exact ⟨by rw [HN.out]; rfl, rfl⟩
      · cases a1
        · go_wp2_with (go_at_call 57; refine (inB_calls _ _ _ _).mono ?_; rintro e w' ⟨he, rfl⟩; (first | rw [A1.out] at he | rw [A2.out] at he); subst he)
          go_meet
          exact ⟨by rw [HN.out]; rfl, rfl⟩
        · go_wp2_with (go_at_call 57; refine (inB_calls _ _ _ _).mono ?_; rintro e w' ⟨he, rfl⟩; (first | rw [A1.out] at he | rw [A2.out] at he); subst he)
          go_meet
          exact ⟨by rw [HN.out]; simp, rfl⟩
  case rest =>
  obtain ⟨rfl, rfl⟩ := hcut
  go_upto_if 49 with (go_at_call 67; refine (HH.out _ (by simp) _).mono ?_; rintro e w' ⟨he, rfl⟩; (first | rw [C1.out] at he | rw [C2.out] at he | rw [C4.out] at he | rw [C8.out] at he); subst he)
  go_cut [5] (fun q W => q = .bool o8 ∧ W = w.alloc (.cells (rowC r) 27))
  case first =>
    obtain ⟨a1, ha1⟩ : ∃ a, M.inB r.M 1 9 = a := ⟨_, rfl⟩
    obtain ⟨a2, ha2⟩ : ∃ a, M.inB r.R 0 256 = a := ⟨_, rfl⟩
    have hon := O8.out
    rw [ha1, ha2] at hon
    have A1 := Lib.hid ha1
    have A2 := Lib.hid ha2
    have HN := Lib.hid hon
    clear ha1 ha2 hon
    cases b8
    · go_wp2_with fail
      go_meet
      exact ⟨by rw [HN.out]; rfl, rfl⟩
    · cases o4
      · go_wp2_with fail
        go_meet
        exact ⟨by rw [HN.out]; rfl, rfl⟩
      · cases a1
        · go_wp2_with (go_at_call 57; refine (inB_calls _ _ _ _).mono ?_; rintro e w' ⟨he, rfl⟩; (first | rw [A1.out] at he | rw [A2.out] at he); subst he)
          go_meet
          exact ⟨by rw [HN.out]; rfl, rfl⟩
        · go_wp2_with (go_at_call 57; refine (inB_calls _ _ _ _).mono ?_; rintro e w' ⟨he, rfl⟩; (first | rw [A1.out] at he | rw [A2.out] at he); subst he)
          go_meet
          exact ⟨by rw [HN.out]; simp, rfl⟩
  case rest =>
  obtain ⟨rfl, rfl⟩ := hcut
  cases o8
  · go_wp2_with fail
    go_quiet (fail)
    go_wp2_with fail
    go_ret
    exact ⟨ret_bool HQ2.out, (by repeat first | with_reducible assumption | with_reducible exact Below.refl _ _ | with_reducible apply Below.drew | with_reducible apply below_drewN | with_reducible apply Below.alloc (hB := (by first | omega | (simp; done) | (simp; omega))) | with_reducible apply Below.setCell (hp := (by first | omega | (simp; done) | (simp; omega))))⟩
  · obtain ⟨q, hq⟩ : ∃ q, decide (r = o) = q := ⟨_, rfl⟩
    have he5 := fun W => row_eql r o W
    rw [hq] at HQ2 he5
    clear hq
    go_wp2_with fail
    refine wp_named2 (fun W0 hW0 => ?_)
    have B0 : Blk W0 w.heap.size 27 (rowC r) := by rw [hW0]; exact Blk.new_at rfl
    have K0 : Below w.heap.size w W0 := by rw [hW0]; exact (by repeat first | with_reducible assumption | with_reducible exact Below.refl _ _ | with_reducible apply Below.drew | with_reducible apply below_drewN | with_reducible apply Below.alloc (hB := (by first | omega | (simp; done) | (simp; omega))) | with_reducible apply Below.setCell (hp := (by first | omega | (simp; done) | (simp; omega))))
    have hz0 := K0.size
    have SB := Lib.hid (fun W (hb : Below W0.heap.size W0 W) => show W.cell? ⟨w.heap.size, 0, none⟩ = some (.int .i64 r.X) ∧ W.cell? ⟨w.heap.size, 1, none⟩ = some (.int .i64 r.Y) ∧ W.cell? ⟨w.heap.size, 2, none⟩ = some (.int .i64 r.PX) ∧ W.cell? ⟨w.heap.size, 3, none⟩ = some (.int .i64 r.PY) ∧ W.cell? ⟨w.heap.size, 4, none⟩ = some (.int .i64 r.W) ∧ W.cell? ⟨w.heap.size, 5, none⟩ = some (.int .i64 r.H) ∧ W.cell? ⟨w.heap.size, 6, none⟩ = some (.int .i64 r.M) ∧ W.cell? ⟨w.heap.size, 7, none⟩ = some (.int .i64 r.R) from row_at (B0.below hb B0.lt))
    have lb0 := B0.lt
    obtain ⟨x0, x1, x2, x3, x4, x5, x6, x7⟩ := SB.out W0 (Below.refl _ _)
    clear hW0 B0
    go_region_held3 (fun W => W.cell? ⟨w.heap.size, 0, none⟩ = some (.int .i64 r.X) ∧ W.cell? ⟨w.heap.size, 1, none⟩ = some (.int .i64 r.Y) ∧ W.cell? ⟨w.heap.size, 2, none⟩ = some (.int .i64 r.PX) ∧ W.cell? ⟨w.heap.size, 3, none⟩ = some (.int .i64 r.PY) ∧ W.cell? ⟨w.heap.size, 4, none⟩ = some (.int .i64 r.W) ∧ W.cell? ⟨w.heap.size, 5, none⟩ = some (.int .i64 r.H) ∧ W.cell? ⟨w.heap.size, 6, none⟩ = some (.int .i64 r.M) ∧ W.cell? ⟨w.heap.size, 7, none⟩ = some (.int .i64 r.R)) (((with_reducible refine SB.out _ ?_); ((repeat first | with_reducible assumption | with_reducible exact Below.refl _ _ | with_reducible apply Below.drew | with_reducible apply below_drewN | with_reducible apply Below.alloc (hB := (by first | omega | (simp; done) | (simp; omega))) | with_reducible apply Below.setCell (hp := (by first | omega | (simp; done) | (simp; omega))))); done)) (first | (go_at_call 52; refine (HO.out _).mono ?_; rintro e w5 ⟨rfl, hb5⟩; have hb6 : Below W0.heap.size W0 w5 := (show Below W0.heap.size W0 _ from (by repeat first | with_reducible assumption | with_reducible exact Below.refl _ _ | with_reducible apply Below.drew | with_reducible apply below_drewN | with_reducible apply Below.alloc (hB := (by first | omega | (simp; done) | (simp; omega))) | with_reducible apply Below.setCell (hp := (by first | omega | (simp; done) | (simp; omega))))).trans (show Below W0.heap.size _ w5 from hb5); have hz5 := hb6.size))
    all_goals
      go_wp2_with fail
      go_ret
      exact ⟨ret_bool HQ2.out, K0.trans ((show Below W0.heap.size W0 _ from (by repeat first | with_reducible assumption | with_reducible exact Below.refl _ _ | with_reducible apply Below.drew | with_reducible apply below_drewN | with_reducible apply Below.alloc (hB := (by first | omega | (simp; done) | (simp; omega))) | with_reducible apply Below.setCell (hp := (by first | omega | (simp; done) | (simp; omega))))).mono hz0)⟩
end Go.Proofs.Ytkpecagkpjabdaa
