/- The walk of TopSteps. Condition: the acts lie in memory, their numbers are of 64 bits. -/
import Derived.Test.YtkpecagkpjabdacGreatGameTwo
import Derived.Test.YtkpecagkpjabdacGreatGameSame
import Derived.Test.YtkpecagkpjabdacGreatGameReply
import Derived.Test.YtkpecagkpjabdacGreatLawSteps
import Derived.Test.YtkpecagkpjabdacGreatBagH
import Derived.Test.YtkpecagkpjabdacGreatBagSw
namespace Go.Proofs.YtkpecagkpjabdacGreat
open Go.RowKit
set_option linter.unusedVariables false
set_option linter.unusedSimpArgs false
set_option maxRecDepth 100000
theorem nb_of {v u : Value} {n m : Nat} (hat : v.ownBlock = u.ownBlock ∨ v.ownBlock = some n) (hu : ∀ b, u.ownBlock = some b → b ≠ m) (hn : n ≠ m) : ∀ b, v.ownBlock = some b → b ≠ m := by
  intro b e
  rcases hat with k | k
  · exact hu b (k ▸ e)
  · rw [k] at e
    simp only [Option.some.injEq] at e
    omega
theorem pairs_j {W : World} {base : Nat} {La Lb : List M.Pr} {a : Option Addr} {c : Nat} (h : W.ownsRow base 75 2 (.slice a (La.length + Lb.length) c) (La.length + Lb.length) (La.flatMap pairL ++ Lb.flatMap pairL)) : PairsAt W 0 (.slice a (La ++ Lb).length c) (La ++ Lb) := by
  unfold PairsAt
  rw [List.flatMap_append, List.length_append]
  exact Lies.mono (Lies.of_owns h) (Nat.zero_le _)
theorem nil_ints (W : World) (a : Option Addr) (c : Nat) : IntsAt W 0 (.slice a 0 c) [] := ⟨rfl, Nat.zero_le _, a, c, rfl, fun h => absurd rfl h⟩
/-- behind the joining of two lists of pairs -/
def Joined (W7 : World) (La Lb : List M.Pr) (p : Value) (W : World) : Prop :=
  ∃ (b : Nat) (av : Option Addr) (cv : Nat), p = .pointer (some ⟨b, 0, none⟩) ∧ Blk W b 40 #[.int .i64 0, .int .i64 ((La.length : Int) + (Lb.length : Int)), .slice none 0 0, .slice av (La.length + Lb.length) cv] ∧ PairsAt W 0 (.slice av (La ++ Lb).length cv) (La ++ Lb) ∧ Below W7.heap.size W7 W
set_option maxHeartbeats 16000000 in
set_option maxRecDepth 100000 in
theorem topSteps_walk (size fall : Int) (l : List M.Act) (n k : Int) (w : World) {v : Value} (hs : I64 size) (hf : I64 fall) (h : ActsAt w 0 v l ∧ ∀ x ∈ l, ActIn x) (hn : I64 n) (hk : I64 k) :
    Calls Tryz.prog 6 #[.int .i64 size, .int .i64 fall, v, .int .i64 n, .int .i64 k] w fun e w' => e = .returned (.bool true) ∧ Below w.heap.size w w' := by
  have HP := Lib.hid (fun U (hb : Below w.heap.size w U) => playq_calls (h.1.below hb) h.2 hs hf)
  obtain ⟨av, cv, rfl⟩ := h.1.val
  have GP := Lib.hid (M.played_good size fall l)
  have ha0 := (M.played_acts size fall l).1
  have ha1 := (M.played_acts size fall l).2
  obtain ⟨P, hP⟩ : ∃ P, P = M.played size fall l := ⟨_, rfl⟩
  rw [← hP] at HP GP ha0 ha1
  obtain ⟨i0, hi, hz0, hz1, hz2⟩ := info_parts infoPair
  have HI := Lib.hid (And.intro hi (And.intro hz0 (And.intro hz1 hz2)))
  clear hi hz0 hz1 hz2 hP h
  go_enter Tryz.func6, Tryz.ntmps6
  go_upto_region 2 with (go_at_call 23; go_loud (refine (HP.out _ (by repeat first | with_reducible assumption | with_reducible exact Below.refl _ _ | with_reducible apply Below.drew | with_reducible apply below_drewN | with_reducible apply Below.alloc (hB := (by first | omega | (simp; done) | (simp; omega))) | with_reducible apply Below.setCell (hp := (by first | omega | (simp; done) | (simp; omega))))).mono ?_; rintro e w1 ⟨Q1, g1, a1, c1, sv1, hs1, rfl, hg1, hQ1, hb1⟩; have HG1 := Lib.hid hg1; have HQ1 := Lib.hid hQ1; have kz1 := hb1.size; (try simp at kz1); have K1 : Below w.heap.size w w1 := (show Below w.heap.size w _ from (by repeat first | with_reducible assumption | with_reducible exact Below.refl _ _ | with_reducible apply Below.drew | with_reducible apply below_drewN | with_reducible apply Below.alloc (hB := (by first | omega | (simp; done) | (simp; omega))) | with_reducible apply Below.setCell (hp := (by first | omega | (simp; done) | (simp; omega))))).trans (hb1.mono (by first | omega | (simp; done) | (simp; omega))); have kw1 := K1.size; clear hg1 hQ1))
  go_upto_region 5 with (go_at_call 23; go_loud (refine (HP.out _ (by repeat first | with_reducible assumption | with_reducible exact Below.refl _ _ | with_reducible apply Below.drew | with_reducible apply below_drewN | with_reducible apply Below.alloc (hB := (by first | omega | (simp; done) | (simp; omega))) | with_reducible apply Below.setCell (hp := (by first | omega | (simp; done) | (simp; omega))))).mono ?_; rintro e w2 ⟨Q2, g2, a2, c2, sv2, hs2, rfl, hg2, hQ2, hb2⟩; have HG2 := Lib.hid hg2; have HQ2 := Lib.hid hQ2; have kz2 := hb2.size; (try simp at kz2); have K2 : Below w.heap.size w w2 := (show Below w.heap.size w _ from (by repeat first | with_reducible assumption | with_reducible exact Below.refl _ _ | with_reducible apply Below.drew | with_reducible apply below_drewN | with_reducible apply Below.alloc (hB := (by first | omega | (simp; done) | (simp; omega))) | with_reducible apply Below.setCell (hp := (by first | omega | (simp; done) | (simp; omega))))).trans (hb2.mono (by first | omega | (simp; done) | (simp; omega))); have kw2 := K2.size; clear hg2 hQ2))
  go_upto_region 6 with fail
  obtain ⟨N, eN, hN1, hN8⟩ : ∃ N : Nat, wrap64 ((wrap64 (n.tmod 8 + 8)).tmod 8 + 1) = (N : Int) ∧ 1 ≤ N ∧ N ≤ 8 := by
    have t := M.tmod_in (n := n) (m := 8) (by omega)
    have z := M.mod0_in n (m := 8) (by omega)
    refine ⟨(M.mod0 n 8 + 1).toNat, ?_, by omega, by omega⟩
    rw [IntWalk.wrap64_in (n.tmod 8 + 8) (by omega), show (n.tmod 8 + 8).tmod 8 = M.mod0 n 8 from rfl, IntWalk.wrap64_in _ (by omega)]
    omega
  rw [eN]
  clear eN
  have qN : ((N : Int) == 0) = false := by rw [beq_eq_false_iff_ne]; omega
  have qN2 : ¬ (N : Int) = 0 := by omega
  have htN := M.tmod_in (n := k) (m := (N : Int)) (by omega)
  obtain ⟨htN1, htN2⟩ := htN
  go_upto_region 7 with fail
  obtain ⟨K, eK, hKN⟩ : ∃ K : Nat, (k.tmod (N : Int) + (N : Int)) % (N : Int) = (K : Int) ∧ K < N := by
    have z1 := Int.emod_nonneg (k.tmod (N : Int) + (N : Int)) (b := (N : Int)) (by omega)
    have z2 := Int.emod_lt_of_pos (k.tmod (N : Int) + (N : Int)) (b := (N : Int)) (by omega)
    exact ⟨((k.tmod (N : Int) + (N : Int)) % (N : Int)).toNat, by omega, by omega⟩
  rw [eK]
  clear eK qN qN2 htN1 htN2
  have kz12 : w.heap.size ≤ w1.heap.size := kw1
  rcases Nat.eq_zero_or_pos K with rfl | hK1
  · have q0 : (((0 : Nat) : Int) == 0) = true := rfl
    go_wp2_with fail
    go_ret
    exact ⟨rfl, K2⟩
  · have q0 : ((K : Int) == 0) = false := by rw [beq_eq_false_iff_ne]; omega
    obtain ⟨L, La, Lb, Gn, Gk, Gm, d1, d2, d3, eL, eW, hL⟩ := M.steps GP.out ha1 hK1 hKN hN8
    have hgn := M.doAct_good GP.out (M.stepAct N)
    have hgk := M.doAct_good GP.out (M.stepAct K)
    rw [d1] at hgn
    rw [d2] at hgk
    have hgm := M.doAct_good hgk (M.stepAct ((N : Int) - (K : Int)))
    have hak := M.doAct_acts0 (g := P) (M.stepAct K) ha0
    rw [d2] at hak
    simp only at hgn hgk hak
    rw [d3] at hgm
    have HD1 := Lib.hid d1
    have HD2 := Lib.hid d2
    have HD3 := Lib.hid d3
    have GN := Lib.hid hgn
    have GK := Lib.hid hgk
    have GM := Lib.hid hgm
    have EL := Lib.hid eL
    have EW := Lib.hid eW
    have hLL : La.length + Lb.length = L.length := by rw [eL, List.length_append]
    have HLL := Lib.hid hLL
    have hla : La.length ≤ 360 := by omega
    have hlb : Lb.length ≤ 360 := by omega
    have HXN : Hid (ActIn (M.stepAct N)) := Lib.hid (by simp only [ActIn, M.stepAct, RowOk, M.row0, I64]; omega)
    have HXK : Hid (ActIn (M.stepAct K)) := Lib.hid (by simp only [ActIn, M.stepAct, RowOk, M.row0, I64]; omega)
    have HXM : Hid (ActIn (M.stepAct ((N : Int) - (K : Int)))) := Lib.hid (by simp only [ActIn, M.stepAct, RowOk, M.row0, I64]; omega)
    clear d1 d2 d3 hgn hgk hgm eL eW hLL
    have HG12 := Lib.hid (HG1.out.below hb2)
    have HE3 := Lib.hid (do_calls2 HG12.out (fun b q => by have := (HQ1.out b q).2; omega) GP.out ha0 HXN.out HD1.out)
    go_upto_region 10 with (go_at_call_of 15 g1; go_loud (refine HE3.out.mono ?_; rintro e w3 ⟨ai3, ci3, am3, cm3, Q3, a3, c3, sv3, hs3, rfl, hg3, hQ3, ho3, hi3, hm3⟩; have HG3 := Lib.hid hg3; have HQ3 := Lib.hid hQ3; have HO3 := Lib.hid ho3; have HI3 := Lib.hid hi3; have HM3 := Lib.hid hm3; have kz3 := ho3.size; (try simp at kz3); clear hg3 hQ3 ho3 hi3 hm3))
    refine wp_called (fun W2 hW2 => ?_)
    have B2 : Blk W2 w3.heap.size 40 #[.int .i64 0, .int .i64 (L.length : Int), .slice ai3 0 ci3, .slice am3 L.length cm3] := by rw [hW2]; exact Blk.new_at rfl
    have K32 : Below w3.heap.size w3 W2 := by rw [hW2]; exact (by repeat first | with_reducible assumption | with_reducible exact Below.refl _ _ | with_reducible apply Below.drew | with_reducible apply below_drewN | with_reducible apply Below.alloc (hB := (by first | omega | (simp; done) | (simp; omega))) | with_reducible apply Below.setCell (hp := (by first | omega | (simp; done) | (simp; omega))))
    have K3 : Below w.heap.size w w3 := K2.trans (HO3.out.below kw2 (fun b q => by have := (HQ1.out b q).1; omega))
    have KW2 : Below w.heap.size w W2 := K3.trans (K32.mono K3.size)
    have HG2' := Lib.hid (HG3.out.behind K32)
    have HH2 := Lib.hid ((HG2.out.only HO3.out (fun b q r => by have := (HQ1.out b r).2; have := (HQ2.out b q).1; omega)).below K32)
    have HB2 := Lib.hid B2
    have HMN := Lib.hid (own_below HM3.out K32)
    have kz32 := K32.size
    have kzw2 := KW2.size
    have lb2 := B2.lt
    have HKW2 := Lib.hid KW2
    have HE5 := Lib.hid (do_calls2 HH2.out (fun b q => by have := (HQ2.out b q).2; omega) GP.out ha0 HXK.out HD2.out)
    clear hW2 B2 K32 K3 KW2 HE3 K1 K2
    go_upto_region 11 with (first | (go_at_call_of 15 N; go_loud (refine HE6.out.mono ?_; rintro e w6 ⟨ai6, ci6, am6, cm6, Q6, a6, c6, sv6, hs6, rfl, hg6, hQ6, ho6, hi6, hm6⟩; have HG6 := Lib.hid hg6; have HQ6 := Lib.hid hQ6; have HO6 := Lib.hid ho6; have HI6 := Lib.hid hi6; have HM6 := Lib.hid hm6; have kz6 := ho6.size; (try simp at kz6); clear hg6 hQ6 ho6 hi6 hm6)) | (go_at_call_of 15 g2; go_loud (refine HE5.out.mono ?_; rintro e w5 ⟨ai5, ci5, am5, cm5, Q5, a5, c5, sv5, hs5, rfl, hg5, hQ5, ho5, hi5, hm5⟩; have HG5 := Lib.hid hg5; have HQ5 := Lib.hid hQ5; have HO5 := Lib.hid ho5; have HI5 := Lib.hid hi5; have HM5 := Lib.hid hm5; have kz5 := ho5.size; (try simp at kz5); have HE6 := Lib.hid (do_calls2 HG5.out (fun b q => (HQ5.out b q).2.1) GK.out hak HXM.out HD3.out); clear hg5 hQ5 ho5 hi5 hm5)))
    refine wp_called (fun W7 hW7 => ?_)
    have BA : Blk W7 w6.heap.size 40 #[.int .i64 0, .int .i64 (La.length : Int), .slice ai5 0 ci5, .slice am5 La.length cm5] := by
      rw [hW7]
      apply blk_to
      · repeat first | with_reducible apply Blk.put | with_reducible apply Blk.drew | with_reducible exact Blk.new_at (h := (by first | rfl | (simp; done) | (simp [World.setCell]; done) | omega)) | with_reducible apply Blk.alloc | with_reducible apply Blk.far (hp := (by first | assumption | omega | (simp; done) | (simp; omega)))
      · rfl
    have BB : Blk W7 (w6.heap.size + 1) 40 #[.int .i64 0, .int .i64 (Lb.length : Int), .slice ai6 0 ci6, .slice am6 Lb.length cm6] := by
      rw [hW7]
      apply blk_to
      · repeat first | with_reducible apply Blk.put | with_reducible apply Blk.drew | with_reducible exact Blk.new_at (h := (by first | rfl | (simp; done) | (simp [World.setCell]; done) | omega)) | with_reducible apply Blk.alloc | with_reducible apply Blk.far (hp := (by first | assumption | omega | (simp; done) | (simp; omega)))
      · rfl
    have K67 : Below w6.heap.size w6 W7 := by rw [hW7]; exact (by repeat first | with_reducible assumption | with_reducible exact Below.refl _ _ | with_reducible apply Below.drew | with_reducible apply below_drewN | with_reducible apply Below.alloc (hB := (by first | omega | (simp; done) | (simp; omega))) | with_reducible apply Below.setCell (hp := (by first | omega | (simp; done) | (simp; omega))))
    have HK67 := Lib.hid K67
    have kz67 := K67.size
    have NQ5 : Hid (∀ b, Q2 b → w1.heap.size ≤ b ∧ b < w2.heap.size) := HQ2
    have HMA : Hid (W7.ownsRow W2.heap.size 75 2 (.slice am5 La.length cm5) La.length (La.flatMap pairL)) := Lib.hid (own_below (own_only HM5.out HO6.out (fun b q => (HQ5.out b q).2.2.2)) K67)
    have HMB : Hid (W7.ownsRow w5.heap.size 75 2 (.slice am6 Lb.length cm6) Lb.length (Lb.flatMap pairL)) := Lib.hid (own_below HM6.out K67)
    have HBN : Hid (Blk W7 w3.heap.size 40 #[.int .i64 0, .int .i64 (L.length : Int), .slice ai3 0 ci3, .slice am3 L.length cm3]) := Lib.hid (by
      have z5 := HB2.out.only HO5.out (fun q => by have := (HQ2.out _ q).2; omega)
      have z6 := z5.only HO6.out (fun q => by
        rcases (HQ5.out _ q).1 with k | k
        · have := (HQ2.out _ k).2; omega
        · omega)
      exact z6.below K67 z6.lt)
    have HMN7 : Hid (W7.ownsRow w2.heap.size 75 2 (.slice am3 L.length cm3) L.length (L.flatMap pairL)) := Lib.hid (by
      have lt3 := fun b e => (HMN.out.lt b e)
      have z5 := own_only HMN.out HO5.out (fun b q e => by have := (HQ2.out b q).2; have := (lt3 b e).1; omega)
      have z6 := own_only z5 HO6.out (fun b q e => by
        rcases (HQ5.out b q).1 with k | k
        · have := (HQ2.out b k).2; have := (lt3 b e).1; omega
        · have := (lt3 b e).2; omega)
      exact own_below z6 K67)
    have HGG : Hid (GameAt W7 (fun b => Q3 b ∧ b < w3.heap.size) g1 Gn a3 c3 sv3 hs3) := Lib.hid (((HG2'.out.only HO5.out (fun b q r => by
        have h2 := (HQ2.out b r)
        rcases (HQ3.out b q.1).1 with k | k
        · have := (HQ1.out b k).2; omega
        · omega)).only HO6.out (fun b q r => by
          rcases (HQ5.out b r).1 with r | r
          · have h2 := (HQ2.out b r)
            rcases (HQ3.out b q.1).1 with k | k
            · have := (HQ1.out b k).2; omega
            · omega
          · have := q.2; omega)).below K67)
    have HGH := Lib.hid (HG6.out.behind K67)
    have KW7 : Below w.heap.size w W7 := ((HKW2.out.trans (HO5.out.below kzw2 (fun b q => by have := (HQ2.out b q).1; omega))).trans (HO6.out.below (by omega) (fun b q => by
      rcases (HQ5.out b q).1 with k | k
      · have := (HQ2.out b k).1; omega
      · omega))).trans (K67.mono (by omega))
    have HKW7 := Lib.hid KW7
    have kw7 := KW7.size
    have HBA := Lib.hid BA
    have HBB := Lib.hid BB
    have lBA := BA.lt
    have lBB := BB.lt
    have SB := Lib.hid (fun W (hb : Below W7.heap.size W7 W) => show W.cell? ⟨w6.heap.size, 1, none⟩ = some (.int .i64 (La.length : Int)) ∧ W.cell? ⟨w6.heap.size, 3, none⟩ = some (.slice am5 La.length cm5) ∧ W.cell? ⟨w6.heap.size + 1, 1, none⟩ = some (.int .i64 (Lb.length : Int)) ∧ W.cell? ⟨w6.heap.size + 1, 3, none⟩ = some (.slice am6 Lb.length cm6) from by
      have x1 := HBA.out.below hb HBA.out.lt
      have x2 := HBB.out.below hb HBB.out.lt
      exact ⟨x1.cell 1, x1.cell 3, x2.cell 1, x2.cell 3⟩)
    obtain ⟨s0, s1, s2, s3⟩ := SB.out W7 (Below.refl _ _)
    clear hW7 BA BB K67 KW7 HE5 NQ5
    go_cut [18] (fun p W => Joined W7 La Lb p W)
    case first =>
      have hsum : IntKind.i64.wrap ((La.length : Int) + (Lb.length : Int)) = (La.length : Int) + (Lb.length : Int) := by rw [IntKind.wrap_i64]; omega
      go_region_held3 (fun W => W.cell? ⟨w6.heap.size, 1, none⟩ = some (.int .i64 (La.length : Int)) ∧ W.cell? ⟨w6.heap.size, 3, none⟩ = some (.slice am5 La.length cm5) ∧ W.cell? ⟨w6.heap.size + 1, 1, none⟩ = some (.int .i64 (Lb.length : Int)) ∧ W.cell? ⟨w6.heap.size + 1, 3, none⟩ = some (.slice am6 Lb.length cm6)) (first | (with_reducible exact hS9) | (with_reducible exact hS10) | ((with_reducible refine SB.out _ ?_); (repeat first | with_reducible assumption | with_reducible exact Below.refl _ _ | with_reducible apply Below.drew | with_reducible apply Below.setCell (hp := (by first | omega | (simp; done) | (simp; omega))) | with_reducible apply Below.alloc (hB := (by first | omega | (simp; done) | (simp; omega)))); done)) (first | ((refine step_append_own_any2 (by rfl) rfl (.const (.slice none 0 0)) (.tmp 73) 38 rfl W7.heap.size 75 i0 _ 2 16 Tryz.underlying38 HI.out.1 HI.out.2.1 HI.out.2.2.1 HI.out.2.2.2 rfl (by omega) _ 0 [] (show (W7.drew).ownsRow W7.heap.size 75 2 (.slice none 0 0) 0 [] from World.ownsRow_nil _ _ _ _) (by rfl) _ W2.heap.size La.length _ (show (W7.drew).ownsRow W2.heap.size 75 2 (.slice am5 La.length cm5) La.length (La.flatMap pairL) from own_below HMA.out (by repeat first | with_reducible assumption | with_reducible exact Below.refl _ _ | with_reducible apply Below.drew | with_reducible apply Below.alloc (hB := (by first | omega | (simp; done) | (simp; omega))))) (by rfl) (pairs_one La) (by unfold maxLen; omega) (by omega) (by first | omega | (simp; done) | (simp; omega)) ?_); intro v9 w9 hown9 hg9 hat9; have hO9 : w9.ownsRow W7.heap.size 75 2 v9 La.length (La.flatMap pairL) := (by simpa using hown9); obtain ⟨a9, c9, rfl⟩ := own_form hO9; have HO9 := Lib.hid hO9; have K9 : Below W7.heap.size W7 w9 := (show Below W7.heap.size W7 (W7.drew) from (by repeat first | with_reducible assumption | with_reducible exact Below.refl _ _ | with_reducible apply Below.drew | with_reducible apply Below.alloc (hB := (by first | omega | (simp; done) | (simp; omega))))).grown hg9 (by first | omega | (simp; done) | (simp; omega)) (fun k hk => by cases hk); have kz9 := K9.size; have hz9 := hg9.size; (try simp at hz9); have hS9 := SB.out w9 K9; have lb9 : ∀ b, (Value.slice a9 La.length c9).ownBlock = some b → b < w9.heap.size := (fun b e => (HO9.out.lt b e).2); skip; clear hown9 hO9 hat9 hg9) | ((refine step_append_own_any2 (by rfl) rfl (.const (.slice none 0 0)) (.tmp 73) 38 rfl W7.heap.size 75 i0 _ 2 16 Tryz.underlying38 HI.out.1 HI.out.2.1 HI.out.2.2.1 HI.out.2.2.2 rfl (by omega) _ 0 [] (show ((W7.alloc (.cells #[.int .i64 0, .int .i64 0, .slice none 0 0, .slice none 0 0] 40)).drew).ownsRow W7.heap.size 75 2 (.slice none 0 0) 0 [] from World.ownsRow_nil _ _ _ _) (by rfl) _ W2.heap.size La.length _ (show ((W7.alloc (.cells #[.int .i64 0, .int .i64 0, .slice none 0 0, .slice none 0 0] 40)).drew).ownsRow W2.heap.size 75 2 (.slice am5 La.length cm5) La.length (La.flatMap pairL) from own_below HMA.out (by repeat first | with_reducible assumption | with_reducible exact Below.refl _ _ | with_reducible apply Below.drew | with_reducible apply Below.alloc (hB := (by first | omega | (simp; done) | (simp; omega))))) (by rfl) (pairs_one La) (by unfold maxLen; omega) (by omega) (by first | omega | (simp; done) | (simp; omega)) ?_); intro v9 w9 hown9 hg9 hat9; have hO9 : w9.ownsRow W7.heap.size 75 2 v9 La.length (La.flatMap pairL) := (by simpa using hown9); obtain ⟨a9, c9, rfl⟩ := own_form hO9; have HO9 := Lib.hid hO9; have K9 : Below W7.heap.size W7 w9 := (show Below W7.heap.size W7 ((W7.alloc (.cells #[.int .i64 0, .int .i64 0, .slice none 0 0, .slice none 0 0] 40)).drew) from (by repeat first | with_reducible assumption | with_reducible exact Below.refl _ _ | with_reducible apply Below.drew | with_reducible apply Below.alloc (hB := (by first | omega | (simp; done) | (simp; omega))))).grown hg9 (by first | omega | (simp; done) | (simp; omega)) (fun k hk => by cases hk); have kz9 := K9.size; have hz9 := hg9.size; (try simp at hz9); have hS9 := SB.out w9 K9; have lb9 : ∀ b, (Value.slice a9 La.length c9).ownBlock = some b → b < w9.heap.size := (fun b e => (HO9.out.lt b e).2); have BN9 : Blk w9 W7.heap.size 40 #[.int .i64 0, .int .i64 0, .slice none 0 0, .slice none 0 0] := Blk.grown (show Blk (W7.alloc (.cells #[.int .i64 0, .int .i64 0, .slice none 0 0, .slice none 0 0] 40)).drew W7.heap.size _ _ from Blk.new_at rfl) hg9 (fun e => by cases e); have nb9 := nb_of (m := W7.heap.size) hat9 (fun b e => by cases e) (by simp); clear hown9 hO9 hat9 hg9) | ((refine step_append_own_any2 (by rfl) rfl (.tmp 74) (.tmp 76) 38 rfl W7.heap.size 75 i0 _ 2 16 Tryz.underlying38 HI.out.1 HI.out.2.1 HI.out.2.2.1 HI.out.2.2.2 rfl (by omega) _ La.length (La.flatMap pairL) (show (w9).ownsRow W7.heap.size 75 2 (.slice a9 La.length c9) La.length (La.flatMap pairL) from own_below HO9.out (by repeat first | with_reducible assumption | with_reducible exact Below.refl _ _ | with_reducible apply Below.drew | with_reducible apply Below.alloc (hB := (by first | omega | (simp; done) | (simp; omega))))) (by rfl) _ w5.heap.size Lb.length _ (show (w9).ownsRow w5.heap.size 75 2 (.slice am6 Lb.length cm6) Lb.length (Lb.flatMap pairL) from own_below HMB.out (by repeat first | with_reducible assumption | with_reducible exact Below.refl _ _ | with_reducible apply Below.drew | with_reducible apply Below.alloc (hB := (by first | omega | (simp; done) | (simp; omega))))) (by rfl) (pairs_one Lb) (by unfold maxLen; omega) (by omega) (by first | omega | (simp; done) | (simp; omega)) ?_); intro v10 w10 hown10 hg10 hat10; have hO10 : w10.ownsRow W7.heap.size 75 2 v10 (La.length + Lb.length) (La.flatMap pairL ++ Lb.flatMap pairL) := hown10; obtain ⟨a10, c10, rfl⟩ := own_form hO10; have HO10 := Lib.hid hO10; have K10 : Below W7.heap.size W7 w10 := (show Below W7.heap.size W7 (w9) from (by repeat first | with_reducible assumption | with_reducible exact Below.refl _ _ | with_reducible apply Below.drew | with_reducible apply Below.alloc (hB := (by first | omega | (simp; done) | (simp; omega))))).grown hg10 (by first | omega | (simp; done) | (simp; omega)) (fun k hk => (HO9.out.lt k hk).1); have kz10 := K10.size; have hz10 := hg10.size; (try simp at hz10); have hS10 := SB.out w10 K10; have BN : Blk w10 W7.heap.size 40 #[.int .i64 0, .int .i64 0, .slice none 0 0, .slice none 0 0] := Blk.grown BN9 hg10 (fun e => nb9 _ e rfl); have nb10 := nb_of (m := W7.heap.size) hat10 nb9 (by omega); have y0 := BN.cell 0; have y1 := BN.cell 1; have y2 := BN.cell 2; have y3 := BN.cell 3; have yf := (fun i => BN.free i); simp at y0 y1 y2 y3; have lBN := BN.lt; clear hown10 hO10 hat10 hg10) | ((refine step_append_own_any2 (by rfl) rfl (.tmp 74) (.tmp 76) 38 rfl W7.heap.size 75 i0 _ 2 16 Tryz.underlying38 HI.out.1 HI.out.2.1 HI.out.2.2.1 HI.out.2.2.2 rfl (by omega) _ La.length (La.flatMap pairL) (show ((w9.alloc (.cells #[.int .i64 0, .int .i64 0, .slice none 0 0, .slice none 0 0] 40))).ownsRow W7.heap.size 75 2 (.slice a9 La.length c9) La.length (La.flatMap pairL) from own_below HO9.out (by repeat first | with_reducible assumption | with_reducible exact Below.refl _ _ | with_reducible apply Below.drew | with_reducible apply Below.alloc (hB := (by first | omega | (simp; done) | (simp; omega))))) (by rfl) _ w5.heap.size Lb.length _ (show ((w9.alloc (.cells #[.int .i64 0, .int .i64 0, .slice none 0 0, .slice none 0 0] 40))).ownsRow w5.heap.size 75 2 (.slice am6 Lb.length cm6) Lb.length (Lb.flatMap pairL) from own_below HMB.out (by repeat first | with_reducible assumption | with_reducible exact Below.refl _ _ | with_reducible apply Below.drew | with_reducible apply Below.alloc (hB := (by first | omega | (simp; done) | (simp; omega))))) (by rfl) (pairs_one Lb) (by unfold maxLen; omega) (by omega) (by first | omega | (simp; done) | (simp; omega)) ?_); intro v10 w10 hown10 hg10 hat10; have hO10 : w10.ownsRow W7.heap.size 75 2 v10 (La.length + Lb.length) (La.flatMap pairL ++ Lb.flatMap pairL) := hown10; obtain ⟨a10, c10, rfl⟩ := own_form hO10; have HO10 := Lib.hid hO10; have K10 : Below W7.heap.size W7 w10 := (show Below W7.heap.size W7 ((w9.alloc (.cells #[.int .i64 0, .int .i64 0, .slice none 0 0, .slice none 0 0] 40))) from (by repeat first | with_reducible assumption | with_reducible exact Below.refl _ _ | with_reducible apply Below.drew | with_reducible apply Below.alloc (hB := (by first | omega | (simp; done) | (simp; omega))))).grown hg10 (by first | omega | (simp; done) | (simp; omega)) (fun k hk => (HO9.out.lt k hk).1); have kz10 := K10.size; have hz10 := hg10.size; (try simp at hz10); have hS10 := SB.out w10 K10; have BN : Blk w10 w9.heap.size 40 #[.int .i64 0, .int .i64 0, .slice none 0 0, .slice none 0 0] := Blk.grown (show Blk (w9.alloc (.cells #[.int .i64 0, .int .i64 0, .slice none 0 0, .slice none 0 0] 40)) w9.heap.size _ _ from Blk.new_at rfl) hg10 (fun e => by have := lb9 _ e; omega); have nb10 := nb_of (m := w9.heap.size) hat10 (fun b e => by have := lb9 b e; omega) (by simp); have y0 := BN.cell 0; have y1 := BN.cell 1; have y2 := BN.cell 2; have y3 := BN.cell 3; have yf := (fun i => BN.free i); simp at y0 y1 y2 y3; have lBN := BN.lt; clear hown10 hO10 hat10 hg10) | ((refine step_append_own_any2 (by rfl) rfl (.tmp 74) (.tmp 76) 38 rfl W7.heap.size 75 i0 _ 2 16 Tryz.underlying38 HI.out.1 HI.out.2.1 HI.out.2.2.1 HI.out.2.2.2 rfl (by omega) _ La.length (La.flatMap pairL) (show (w9).ownsRow W7.heap.size 75 2 (.slice a9 La.length c9) La.length (La.flatMap pairL) from own_below HO9.out (by repeat first | with_reducible assumption | with_reducible exact Below.refl _ _ | with_reducible apply Below.drew | with_reducible apply Below.alloc (hB := (by first | omega | (simp; done) | (simp; omega))))) (by rfl) _ w5.heap.size Lb.length _ (show (w9).ownsRow w5.heap.size 75 2 (.slice am6 Lb.length cm6) Lb.length (Lb.flatMap pairL) from own_below HMB.out (by repeat first | with_reducible assumption | with_reducible exact Below.refl _ _ | with_reducible apply Below.drew | with_reducible apply Below.alloc (hB := (by first | omega | (simp; done) | (simp; omega))))) (by rfl) (pairs_one Lb) (by unfold maxLen; omega) (by omega) (by first | omega | (simp; done) | (simp; omega)) ?_); intro v10 w10 hown10 hg10 hat10; have hO10 : w10.ownsRow W7.heap.size 75 2 v10 (La.length + Lb.length) (La.flatMap pairL ++ Lb.flatMap pairL) := hown10; obtain ⟨a10, c10, rfl⟩ := own_form hO10; have HO10 := Lib.hid hO10; have K10 : Below W7.heap.size W7 w10 := (show Below W7.heap.size W7 (w9) from (by repeat first | with_reducible assumption | with_reducible exact Below.refl _ _ | with_reducible apply Below.drew | with_reducible apply Below.alloc (hB := (by first | omega | (simp; done) | (simp; omega))))).grown hg10 (by first | omega | (simp; done) | (simp; omega)) (fun k hk => (HO9.out.lt k hk).1); have kz10 := K10.size; have hz10 := hg10.size; (try simp at hz10); have hS10 := SB.out w10 K10; skip; clear hown10 hO10 hat10 hg10))
      all_goals
        go_wp2_with fail
        go_meet
        first
          | exact ⟨_, a10, c10, rfl, reply_blk BN _ _ _ _, pairs_j (own_same HO10.out (fun b e => (((Below.heap_setCell _ _ _ b (nb10 b e)).trans (Below.heap_setCell _ _ _ b (nb10 b e))).trans (Below.heap_setCell _ _ _ b (nb10 b e))).trans (Below.heap_setCell _ _ _ b (nb10 b e)))), (((K10.setCell (by first | exact Nat.le_refl _ | (simp; omega)) _).setCell (by first | exact Nat.le_refl _ | (simp; omega)) _).setCell (by first | exact Nat.le_refl _ | (simp; omega)) _).setCell (by first | exact Nat.le_refl _ | (simp; omega)) _⟩
          | exact ⟨_, a10, c10, rfl, Blk.new_at rfl, pairs_j (own_below HO10.out ((Below.refl _ _).alloc (Nat.le_refl _) _)), K10.alloc (by omega) _⟩
    case rest =>
      obtain ⟨bx, jv, jc, rfl, hbx, hpx, hbl⟩ := hcut
      rw [show (La.length : Int) + (Lb.length : Int) = (L.length : Int) by have := HLL.out; omega, HLL.out] at hbx
      rw [← EL.out] at hpx
      obtain ⟨wf, hwf⟩ : ∃ wf, wf = wc := ⟨_, rfl⟩
      subst hwf
      have HBL := Lib.hid hbl
      have HPX := Lib.hid hpx
      have kwf := hbl.size
      have BNF := HBN.out.below hbl HBN.out.lt
      have u0 := BNF.cell 0
      have u1 := BNF.cell 1
      have u2 := BNF.cell 2
      have u3 := BNF.cell 3
      have v0 := hbx.cell 0
      have v1 := hbx.cell 1
      have v2 := hbx.cell 2
      have v3 := hbx.cell 3
      simp at u0 u1 u2 u3 v0 v1 v2 v3
      have HPN : Hid (PairsAt wf 0 (.slice am3 L.length cm3) L) := Lib.hid (Lies.mono (Lies.of_owns (own_below HMN7.out hbl)) (Nat.zero_le _))
      have HSR := Lib.hid (sameReply_calls (w := wf) (r := ⟨0, L.length, [], L⟩) (ids := .slice ai3 0 ci3) (met := .slice am3 L.length cm3) (ids' := .slice none 0 0) (met' := .slice jv L.length jc) (nil_ints _ _ _) HPN.out (nil_ints _ _ _) HPX.out)
      have HW1 := Lib.hid (fun U (hb : Below wf.heap.size wf U) => gworld_calls (HGG.out.below (HBL.out.trans (hb.mono kwf))) GN.out)
      have hw2 := fun U (hb : Below wf.heap.size wf U) => gworld_calls (HGH.out.below (HBL.out.trans (hb.mono kwf))) GM.out
      rw [← EW.out] at hw2
      have HW2 := Lib.hid hw2
      clear hbx hpx hbl BNF hw2 s0 s1 s2 s3
      go_wp2_with (first | (go_at_call 25; go_loud (refine HSR.out.mono ?_; rintro e w11 ⟨rfl, hb11⟩; have kz11 := hb11.size)) | (go_at_call_of 13 g1; go_loud (refine (HW1.out _ (by repeat first | with_reducible assumption | with_reducible exact Below.refl _ _ | with_reducible apply Below.drew | with_reducible apply below_drewN | with_reducible apply Below.alloc (hB := (by first | omega | (simp; done) | (simp; omega))) | with_reducible apply Below.setCell (hp := (by first | omega | (simp; done) | (simp; omega))))).mono ?_; rintro e w12 ⟨a12, c12, hs12, rfl, ho12, hb12⟩; have HO12 := Lib.hid ho12; have kz12 := hb12.size; (try simp at kz12); have HB12 := Lib.hid hb12; have K12 : Below wf.heap.size wf w12 := hb11.trans (hb12.mono kz11); clear ho12)) | (go_at_call_of 13 g2; go_loud (refine (HW2.out _ (by repeat first | with_reducible assumption | with_reducible exact Below.refl _ _ | with_reducible apply Below.drew | with_reducible apply below_drewN | with_reducible apply Below.alloc (hB := (by first | omega | (simp; done) | (simp; omega))) | with_reducible apply Below.setCell (hp := (by first | omega | (simp; done) | (simp; omega))))).mono ?_; rintro e w13 ⟨a13, c13, hs13, rfl, ho13, hb13⟩; have HO13 := Lib.hid ho13; have kz13 := hb13.size; (try simp at kz13); have HB13 := Lib.hid hb13; clear ho13)) | (go_at_call 26; go_loud (refine (same_calls (d := Gn.w) ((HO12.out.at_.mono (Nat.zero_le _)).below HB13.out) (HO13.out.at_.mono (Nat.zero_le _)) GN.out.w).mono ?_; rintro e w14 ⟨rfl, hb14⟩; have K14 : Below wf.heap.size wf w14 := ((hb11.trans (HB12.out.mono kz11)).trans (HB13.out.mono (by omega))).trans (hb14.mono (by omega)))))
      go_ret
      exact ⟨rfl, (HKW7.out.trans (HBL.out.mono kw7)).trans (K14.mono (by omega))⟩
end Go.Proofs.YtkpecagkpjabdacGreat
