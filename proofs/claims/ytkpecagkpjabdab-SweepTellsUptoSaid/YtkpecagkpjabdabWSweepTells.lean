/- The walk of SweepTells. Condition: the boxes lie in memory, their numbers are of 64 bits, they are at most 1048576. -/
import Derived.Test.YtkpecagkpjabdabRefSweep3
import Derived.Test.YtkpecagkpjabdabRefReply
import Derived.Test.YtkpecagkpjabdabLSweeps
import Derived.Test.YtkpecagkpjabdabAppendLies
import Derived.Test.YtkpecagkpjabdabSweepLook
import Derived.Deep.RegionHeld3
namespace Go.Proofs.Ytkpecagkpjabdab
open Go.RowKit
set_option linter.unusedVariables false
set_option linter.unusedSimpArgs false
set_option maxRecDepth 100000
theorem boxNe_self (a : M.Box) (w : World) : (binOp .neq 45 (boxV a) (boxV a)).run Try.prog w = .ok (.bool false) w := by
  have hS : Try.prog.underlying 45 = some (.struct (Try.prog.fieldsOf 45)) := by kernel_rfl
  have hp : Try.prog.stoodInHeld 45 = false := by kernel_rfl
  obtain ⟨a0, a1, a2, a3, a4⟩ := a
  rw [run_neq_struct, show (10000 : Nat) = 9999 + 1 from rfl, run_equalIn_agg w 9999 45 _ _ hS hp]
  simp only [Program.fieldsOf, Try.underlying45]
  go_simp
theorem infoBox5 : (Try.prog.info? 45).map (fun i => (i.zero, i.size, i.bytes)) = some (some (boxV ⟨0, 0, 0, 0, 0⟩), 5, 40) := by kernel_rfl
set_option maxHeartbeats 8000000 in
set_option maxRecDepth 100000 in
theorem sweepTells_walk (l : List M.Box) (a b : M.Box) (hl : l.length ≤ 1048576) (w : World) {v : Value} (hw0 : BoxesAt5 w 0 v l ∧ (∀ b ∈ l, BoxIn b) ∧ CapOk v) :
    Calls Try.prog 8 #[v, boxV a, boxV b] w fun e w' => e = .returned (.bool true) ∧ Below w.heap.size w w' := by
  obtain ⟨h, hin, hcap⟩ := hw0
  have HB := Lib.hid h
  obtain ⟨av, cv, rfl⟩ := h.val
  obtain ⟨i0, hi, hz0, hz1, hz2⟩ := info_parts infoBox5
  have HI := Lib.hid (And.intro hi (And.intro hz0 (And.intro hz1 hz2)))
  have hlm : l.length ≤ 9223372036854775807 := by omega
  have HIN := Lib.hid hin
  have HCAP := Lib.hid hcap
  clear h hi hz0 hz1 hz2 hin hcap
  go_enter Try.func8, Try.ntmps8
  go_upto_region 2 with (at_builtin; go_loud (refine wpList_append_own_lies rfl (.const (.slice none 0 0)) (.tmp 9) _ rfl w.heap.size 45 i0 _ 5 40 Try.underlying40 HI.out.1 HI.out.2.1 HI.out.2.2.1 HI.out.2.2.2 rfl (by omega) (.slice none 0 0) 0 [] rfl (World.ownsRow_nil _ _ _ _) _ 0 l.length (l.flatMap boxL) rfl (HB.out.below (by repeat first | with_reducible assumption | with_reducible exact Below.refl _ _ | with_reducible apply Below.drew | with_reducible apply below_drewN | with_reducible apply Below.alloc (hB := (by first | omega | (simp; done) | (simp; omega))) | with_reducible apply Below.setCell (hp := (by first | omega | (simp; done) | (simp; omega))))) (boxes_one l) (by unfold maxLen; omega) (by omega) (by first | omega | (simp; done) | (simp; omega)) ?_); intro v3 w3 hown3 hg3 hat3; obtain ⟨a3, c3, rfl⟩ := own_form hown3; have HO3 := Lib.hid hown3; have HG3 := Lib.hid hg3; clear hown3 hg3 hat3)
  refine wp_called (fun W0 hW0 => ?_)
  have K0 : Below w.heap.size w W0 := by rw [hW0]; exact (((Below.refl _ w).alloc (Nat.le_refl _) _).alloc (by simp) _).grown HG3.out (by simp; omega) (fun k hk => by cases hk)
  have BA : Blk W0 w.heap.size 45 (boxC a) := by rw [hW0]; exact (HG3.out.block _ (by simp; omega) (fun e => by cases e)).trans ((Blk.new_at rfl).alloc _)
  have BB : Blk W0 (w.heap.size + 1) 45 (boxC b) := by rw [hW0]; exact (HG3.out.block _ (by simp) (fun e => by cases e)).trans (Blk.new_at (by simp))
  have hown : W0.ownsRow w.heap.size 45 5 (.slice a3 l.length c3) l.length (l.flatMap boxL) := by rw [hW0]; simpa using HO3.out
  have HBC : Hid (BoxesAt5 W0 0 (.slice a3 l.length c3) l) := Lib.hid (Lies.mono (Lies.of_owns hown) (Nat.zero_le _))
  have HBL : Hid (BoxesAt5 W0 0 (.slice av l.length cv) l) := Lib.hid (HB.out.below K0)
  have HK0 := Lib.hid K0
  have k0 := K0.size
  have SB := Lib.hid (fun W (hb : Below W0.heap.size W0 W) => show W.cell? ⟨w.heap.size, 0, none⟩ = some (.int .i64 a.id) ∧ W.cell? ⟨w.heap.size, 1, none⟩ = some (.int .i64 a.x1) ∧ W.cell? ⟨w.heap.size, 2, none⟩ = some (.int .i64 a.y1) ∧ W.cell? ⟨w.heap.size, 3, none⟩ = some (.int .i64 a.x2) ∧ W.cell? ⟨w.heap.size, 4, none⟩ = some (.int .i64 a.y2) ∧ W.cell? ⟨w.heap.size + 1, 0, none⟩ = some (.int .i64 b.id) ∧ W.cell? ⟨w.heap.size + 1, 1, none⟩ = some (.int .i64 b.x1) ∧ W.cell? ⟨w.heap.size + 1, 2, none⟩ = some (.int .i64 b.y1) ∧ W.cell? ⟨w.heap.size + 1, 3, none⟩ = some (.int .i64 b.x2) ∧ W.cell? ⟨w.heap.size + 1, 4, none⟩ = some (.int .i64 b.y2) from by
    have x := BA.below hb BA.lt
    have y := BB.below hb BB.lt
    exact ⟨x.cell 0, x.cell 1, x.cell 2, x.cell 3, x.cell 4, y.cell 0, y.cell 1, y.cell 2, y.cell 3, y.cell 4⟩)
  have HM1 := Lib.hid (fun W (_ : Below W0.heap.size W0 W) => meetB_calls a b W)
  have HM2 := Lib.hid (fun W (_ : Below W0.heap.size W0 W) => meetBoxes_calls a b W)
  have HG1 := Lib.hid (fun W (hb : Below W0.heap.size W0 W) => goodB_calls (HBC.out.below hb) HIN.out)
  have HG2 := Lib.hid (fun W (hb : Below W0.heap.size W0 W) => areBoxes_calls (HBL.out.below hb) HCAP.out)
  have HP1 := Lib.hid (fun W (hb : Below W0.heap.size W0 W) => pairs_calls (HBC.out.below hb) HIN.out hl)
  have HP2 := Lib.hid (fun W (hb : Below W0.heap.size W0 W) => pairsOf_calls (HBL.out.below hb) HCAP.out hl)
  have HL1 := Lib.hid (fun W (hb : Below W0.heap.size W0 W) => look_calls (HBC.out.below hb) HIN.out hl b)
  have HL2 := Lib.hid (fun W (hb : Below W0.heap.size W0 W) => lookOf_calls (HBL.out.below hb) HCAP.out hl b)
  obtain ⟨mq, hmq⟩ : ∃ q, M.meetB a b = q := ⟨_, rfl⟩
  obtain ⟨gq, hgq⟩ : ∃ q, M.goodB l = q := ⟨_, rfl⟩
  rw [hmq] at HM1 HM2
  rw [hgq] at HG1 HG2
  have q1 : (mq != mq) = false := by simp
  have q2 : (gq != gq) = false := by simp
  obtain ⟨s0, s1, s2, s3, s4, s5, s6, s7, s8, s9⟩ := SB.out W0 (Below.refl _ _)
  clear hW0 K0 BA BB hown hmq hgq
  go_cut [42] (fun q W => q = .bool false ∧ Below W0.heap.size W0 W)
  case first =>
    go_region_held3 (fun W => W.cell? ⟨w.heap.size, 0, none⟩ = some (.int .i64 a.id) ∧ W.cell? ⟨w.heap.size, 1, none⟩ = some (.int .i64 a.x1) ∧ W.cell? ⟨w.heap.size, 2, none⟩ = some (.int .i64 a.y1) ∧ W.cell? ⟨w.heap.size, 3, none⟩ = some (.int .i64 a.x2) ∧ W.cell? ⟨w.heap.size, 4, none⟩ = some (.int .i64 a.y2) ∧ W.cell? ⟨w.heap.size + 1, 0, none⟩ = some (.int .i64 b.id) ∧ W.cell? ⟨w.heap.size + 1, 1, none⟩ = some (.int .i64 b.x1) ∧ W.cell? ⟨w.heap.size + 1, 2, none⟩ = some (.int .i64 b.y1) ∧ W.cell? ⟨w.heap.size + 1, 3, none⟩ = some (.int .i64 b.x2) ∧ W.cell? ⟨w.heap.size + 1, 4, none⟩ = some (.int .i64 b.y2)) (first | ((with_reducible refine SB.out _ ?_); (first | with_reducible exact G10 | with_reducible exact G9 | with_reducible exact G8 | with_reducible exact G7 | with_reducible exact G6 | with_reducible exact G5 | with_reducible exact G4 | with_reducible exact G3 | with_reducible exact G2 | with_reducible exact G1 | with_reducible exact (Below.refl _ _).drew | with_reducible exact Below.refl _ _); done)) (first | (go_at_call 20; refine (HM1.out _ (by first | with_reducible exact (Below.refl _ _).drew | with_reducible exact Below.refl _ _)).mono ?_; rintro e w1 ⟨rfl, hb1⟩; have G1 : Below W0.heap.size W0 w1 := (show Below W0.heap.size W0 _ from (by first | with_reducible exact (Below.refl _ _).drew | with_reducible exact Below.refl _ _)).trans (Below.mono (B' := W0.heap.size) (show Below _ _ w1 from hb1) (by first | omega | (simp; done) | (simp; omega))); have gz1 := G1.size) | (go_at_call 33; refine (HM2.out _ (by first | with_reducible exact G1 | with_reducible exact (Below.refl _ _).drew | with_reducible exact Below.refl _ _)).mono ?_; rintro e w2 ⟨rfl, hb2⟩; have G2 : Below W0.heap.size W0 w2 := (show Below W0.heap.size W0 _ from (by first | with_reducible exact G1 | with_reducible exact (Below.refl _ _).drew | with_reducible exact Below.refl _ _)).trans (Below.mono (B' := W0.heap.size) (show Below _ _ w2 from hb2) (by first | omega | (simp; done) | (simp; omega))); have gz2 := G2.size) | (go_at_call 17; refine (HG1.out _ (by first | with_reducible exact G2 | with_reducible exact (Below.refl _ _).drew | with_reducible exact Below.refl _ _)).mono ?_; rintro e w3 ⟨rfl, hb3⟩; have G3 : Below W0.heap.size W0 w3 := (show Below W0.heap.size W0 _ from (by first | with_reducible exact G2 | with_reducible exact (Below.refl _ _).drew | with_reducible exact Below.refl _ _)).trans (Below.mono (B' := W0.heap.size) (show Below _ _ w3 from hb3) (by first | omega | (simp; done) | (simp; omega))); have gz3 := G3.size) | (go_at_call 34; refine (HG2.out _ (by first | with_reducible exact G3 | with_reducible exact (Below.refl _ _).drew | with_reducible exact Below.refl _ _)).mono ?_; rintro e w4 ⟨rfl, hb4⟩; have G4 : Below W0.heap.size W0 w4 := (show Below W0.heap.size W0 _ from (by first | with_reducible exact G3 | with_reducible exact (Below.refl _ _).drew | with_reducible exact Below.refl _ _)).trans (Below.mono (B' := W0.heap.size) (show Below _ _ w4 from hb4) (by first | omega | (simp; done) | (simp; omega))); have gz4 := G4.size) | (go_at_call 19; refine (HP1.out _ (by first | with_reducible exact G4 | with_reducible exact (Below.refl _ _).drew | with_reducible exact Below.refl _ _)).mono ?_; rintro e w5 ⟨v5, rfl, ho5, hb5⟩; have G5 : Below W0.heap.size W0 w5 := (show Below W0.heap.size W0 _ from (by first | with_reducible exact G4 | with_reducible exact (Below.refl _ _).drew | with_reducible exact Below.refl _ _)).trans (Below.mono (B' := W0.heap.size) (show Below _ _ w5 from hb5) (by first | omega | (simp; done) | (simp; omega))); have gz5 := G5.size; obtain ⟨pa5, pc5, rfl⟩ := own_form ho5; have HO5 := Lib.hid ho5; clear ho5) | (go_at_call 36; refine (HP2.out _ (by first | with_reducible exact G5 | with_reducible exact (Below.refl _ _).drew | with_reducible exact Below.refl _ _)).mono ?_; rintro e w6 ⟨v6, rfl, ho6, hb6⟩; have G6 : Below W0.heap.size W0 w6 := (show Below W0.heap.size W0 _ from (by first | with_reducible exact G5 | with_reducible exact (Below.refl _ _).drew | with_reducible exact Below.refl _ _)).trans (Below.mono (B' := W0.heap.size) (show Below _ _ w6 from hb6) (by first | omega | (simp; done) | (simp; omega))); have gz6 := G6.size; obtain ⟨pa6, pc6, rfl⟩ := own_form ho6; have HO6 := Lib.hid ho6; have HSP := Lib.hid (samePairs_calls (w := w6) (zs := M.pairs l) (Lies.mono (Lies.of_owns (own_below HO5.out hb6)) (Nat.zero_le _)) (Lies.mono (Lies.of_owns ho6) (Nat.zero_le _))); clear ho6) | (go_at_call 35; refine HSP.out.mono ?_; rintro e w7 ⟨rfl, hb7⟩; have G7 : Below W0.heap.size W0 w7 := G6.trans (hb7.mono (by first | omega | (simp; done) | (simp; omega))); have gz7 := G7.size) | (go_at_call 37; refine (HL1.out _ (by first | with_reducible exact G7 | with_reducible exact (Below.refl _ _).drew | with_reducible exact Below.refl _ _)).mono ?_; rintro e w8 ⟨v8, rfl, ho8, hb8⟩; have G8 : Below W0.heap.size W0 w8 := (show Below W0.heap.size W0 _ from (by first | with_reducible exact G7 | with_reducible exact (Below.refl _ _).drew | with_reducible exact Below.refl _ _)).trans (Below.mono (B' := W0.heap.size) (show Below _ _ w8 from hb8) (by first | omega | (simp; done) | (simp; omega))); have gz8 := G8.size; obtain ⟨pa8, pc8, rfl⟩ := own_form ho8; have HO8 := Lib.hid ho8; clear ho8) | (go_at_call 38; refine (HL2.out _ (by first | with_reducible exact G8 | with_reducible exact (Below.refl _ _).drew | with_reducible exact Below.refl _ _)).mono ?_; rintro e w9 ⟨v9, rfl, ho9, hb9⟩; have G9 : Below W0.heap.size W0 w9 := (show Below W0.heap.size W0 _ from (by first | with_reducible exact G8 | with_reducible exact (Below.refl _ _).drew | with_reducible exact Below.refl _ _)).trans (Below.mono (B' := W0.heap.size) (show Below _ _ w9 from hb9) (by first | omega | (simp; done) | (simp; omega))); have gz9 := G9.size; obtain ⟨pa9, pc9, rfl⟩ := own_form ho9; have HO9 := Lib.hid ho9; have HSI := Lib.hid (sameIds_calls (w := w9) (zs := M.lookB l b) (Lies.mono (Lies.of_owns (own_below HO8.out hb9)) (Nat.zero_le _)) (Lies.mono (Lies.of_owns ho9) (Nat.zero_le _))); clear ho9) | (go_at_call 31; refine HSI.out.mono ?_; rintro e w10 ⟨rfl, hb10⟩; have G10 : Below W0.heap.size W0 w10 := G9.trans (hb10.mono (by first | omega | (simp; done) | (simp; omega))); have gz10 := G10.size))
    all_goals
      go_wp2_with fail
      go_meet
      exact ⟨rfl, G10⟩
  case rest =>
  obtain ⟨rfl, hbc⟩ := hcut
  have HBW := Lib.hid hbc
  have kc := hbc.size
  clear hbc
  go_wp2_with fail
  go_loopg [45] l.length (fun g i wr => ∃ n : Nat, n ≤ l.length ∧ i = .int .i64 n ∧ g = l.length - n ∧ Below W0.heap.size W0 wr)
  case atStart => exact ⟨0, Nat.zero_le _, rfl, rfl, HBW.out⟩
  case round =>
    obtain ⟨wo, hwo⟩ : ∃ wo, wo = wr := ⟨_, rfl⟩
    subst hwo
    obtain ⟨n, hn, rfl, hg, hb⟩ := hrel
    have HBO := Lib.hid hb
    have HK := Lib.hid hg
    have ko := hb.size
    clear hb hg
    rcases Nat.lt_or_ge n l.length with hlt | hge
    · obtain ⟨x, hx⟩ : ∃ x, l[n]? = some x := ⟨_, List.getElem?_eq_getElem hlt⟩
      obtain ⟨b1, o1, c1, e1, _, i0, i1, i2, i3, i4⟩ := (HBL.out.below HBO.out).at5 hx
      obtain ⟨b2, o2, c2, e2, _, j0, j1, j2, j3, j4⟩ := (HBC.out.below HBO.out).at5 hx
      obtain ⟨rfl, rfl⟩ : av = some ⟨b1, o1, none⟩ ∧ cv = c1 := by simpa using e1
      obtain ⟨rfl, rfl⟩ : a3 = some ⟨b2, o2, none⟩ ∧ c3 = c2 := by simpa using e2
      have NX := fun W => boxNe_self x W
      clear e1 e2 hx
      go_wp2_with fail
      go_quiet (fail)
      go_wp2_with fail
      go_roundg (l.length - (n + 1))
      case measure => rw [HK.out]; omega
      case rel => exact ⟨n + 1, by omega, by go_num, rfl, below_drewN HBO.out _⟩
    · obtain rfl : n = l.length := by omega
      have q9 : decide ((l.length : Int) < (l.length : Int)) = false := decide_eq_false (by omega)
      go_wp2_with (go_at_call 39; refine (lsweeps_calls _).mono ?_; rintro e w6 ⟨rfl, hb6⟩)
      go_ret
      exact ⟨rfl, HK0.out.trans ((HBO.out.trans (hb6.mono ko)).mono k0)⟩
end Go.Proofs.Ytkpecagkpjabdab
