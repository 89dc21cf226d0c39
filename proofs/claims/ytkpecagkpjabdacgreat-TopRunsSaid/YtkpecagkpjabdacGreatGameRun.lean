/- The contract of game.Run. Condition: the acts lie in memory, they are at most 150, the world is good. -/
import Derived.Test.YtkpecagkpjabdacGreatGameReplies
import Derived.Test.YtkpecagkpjabdacGreatLawRun
import Derived.Test.YtkpecagkpjabdacGreatBagW
import Derived.Test.YtkpecagkpjabdacGreatActRow
namespace Go.Proofs.YtkpecagkpjabdacGreat
open Go.RowKit
set_option linter.unusedVariables false
set_option linter.unusedSimpArgs false
set_option maxRecDepth 100000
set_option maxHeartbeats 8000000 in
set_option maxRecDepth 100000 in
theorem run_calls {w : World} {lo : Nat} {v : Value} {l : List M.Act} (h : ActsAt w lo v l) (hin : ∀ x ∈ l, ActIn x) (hl : l.length ≤ 150) {wide high fall : Int} (hg : M.goodW ⟨⟨[], 0⟩, fall, wide, high⟩ = true) :
    Calls Tryz.prog 22 #[.int .i64 wide, .int .i64 high, .int .i64 fall, v] w fun e w' => ∃ a c hr, e = .returned (.tuple #[.slice a l.length c, .int .i64 0]) ∧ OwnReps w' (fun _ => False) w.heap.size (.slice a l.length c) (M.runActs ⟨⟨⟨[], 0⟩, fall, wide, high⟩, [], 0⟩ l).2 hr ∧ Below w.heap.size w w' := by
  obtain ⟨av, cv, rfl⟩ := h.val
  have HL := Lib.hid h
  have HIN0 := Lib.hid hin
  have HN := Lib.hid (fun W => new_calls wide high fall W hg)
  have HG0 : Hid (M.GoodG ⟨⟨⟨[], 0⟩, fall, wide, high⟩, [], 0⟩) := Lib.hid ⟨M.goodW_iff.1 hg, fun s hs => by cases hs⟩
  obtain ⟨G0, hG0⟩ : ∃ G0, G0 = (⟨⟨⟨[], 0⟩, fall, wide, high⟩, [], 0⟩ : M.Game) := ⟨_, rfl⟩
  have ha0 : G0.acts = 0 := by rw [hG0]
  rw [← hG0] at HN HG0 ⊢
  have HA0 := Lib.hid ha0
  obtain ⟨i0, hi, hz0, hz1, hz2⟩ := info_parts infoReply
  have HIN := Lib.hid (And.intro hi (And.intro hz0 (And.intro hz1 hz2)))
  have q150 : decide ((150 : Int) < (l.length : Int)) = false := by rw [decide_eq_false_iff_not]; omega
  have q150' : decide (150 < l.length) = false := by rw [decide_eq_false_iff_not]; omega
  clear h hin hg hG0 ha0 hi hz0 hz1 hz2
  go_enter Tryz.func22, Tryz.ntmps22
  go_wp2_with (go_at_call 16; go_loud (refine (HN.out _).mono ?_; rintro e w1 ⟨g, rfl, hg1, hb1⟩; have HGA1 := Lib.hid hg1; have K1 := hb1; have kz1 := hb1.size; have lg1 := hg1.inQ.1; clear hg1 hb1))
  go_loopg [12, 30] l.length (fun gh o i wr => ∃ (k : Nat) (Q : Nat → Prop) (a : Option Addr) (c : Nat) (sv : Value) (hs : List Value) (oa : Option Addr) (oc : Nat) (hr : List (Value × Value)), k ≤ l.length ∧ i = .int .i64 k ∧ o = .slice oa k oc ∧ gh = l.length - k ∧ GameAt wr Q g (M.runK G0 l k).1 a c sv hs ∧ (∀ b, Q b → w.heap.size ≤ b ∧ b < wr.heap.size) ∧ OwnReps wr Q w.heap.size (.slice oa k oc) (M.runK G0 l k).2 hr ∧ Below w.heap.size w wr)
  case atStart => exact ⟨0, _, none, 0, _, [], none, 0, [], Nat.zero_le _, rfl, rfl, rfl, HGA1.out, (fun b q => q), OwnReps.nil _ _ _, K1⟩
  case round =>
    obtain ⟨wo, hwo⟩ : ∃ wo, wo = wr := ⟨_, rfl⟩
    subst hwo
    obtain ⟨k, Q, a, c, sv, hs, oa, oc, hr, hk, rfl, rfl, hgk, hga, hQ, hre, hb⟩ := hrel
    have HK := Lib.hid hgk
    have HGA := Lib.hid hga
    have HQ := Lib.hid hQ
    have HRE := Lib.hid hre
    have HB := Lib.hid hb
    have ko := hb.size
    clear hgk hga hQ hre hb K1
    rcases Nat.lt_or_ge k l.length with hlt | hge
    · obtain ⟨x, hx⟩ : ∃ x, l[k]? = some x := ⟨_, List.getElem?_eq_getElem hlt⟩
      obtain ⟨b, o, cap, ev, hlo, hc⟩ := (HL.out.below HB.out).at hx
      obtain ⟨rfl, rfl⟩ : av = some ⟨b, o, none⟩ ∧ cv = cap := by simpa using ev
      obtain ⟨G', r, hd⟩ : ∃ G' r, M.doAct (M.runK G0 l k).1 x = (G', r) := ⟨_, _, rfl⟩
      have HS := M.runK_succ G0 hx
      rw [hd] at HS
      have HG' : Hid (G' = (M.runK G0 l (k + 1)).1) := Lib.hid (by rw [HS])
      have HR' : Hid ((M.runK G0 l (k + 1)).2 = (M.runK G0 l k).2 ++ [r]) := Lib.hid (by rw [HS])
      have HLEN : Hid ((M.runK G0 l k).2.length = k) := Lib.hid (M.runK_len G0 l (by omega))
      have HXI := Lib.hid (HIN0.out x (List.mem_of_getElem? hx))
      have HDD := Lib.hid hd
      have HC := Lib.hid hc
      have lb : b < wo.heap.size := cell_lt (hc 0 _ rfl)
      clear ev hlo hc hx hd HS
      go_upto_region 10 with (first | (refine wpList_load_act (x := x) rfl (.tmp 32) rfl b (o + k * 17) (by rfl) HC.out ?_) | (refine wpList_store_actB (x := x) rfl (.tmp 14) (.tmp 33) rfl wo.heap.size (by rfl) (by rfl) (Blk.new_at rfl) rfl ?_; intro WS hBS hOS hZS hLS; have KS : Below wo.heap.size wo WS := hLS ((Below.refl _ wo).alloc (Nat.le_refl _) _) (Nat.le_refl _); clear hOS hZS hLS))
      refine wp_called (fun W2 hW2 => ?_)
      have bA : Blk W2 wo.heap.size 27 (actC x) := by rw [hW2]; exact hBS
      have K2 : Below wo.heap.size wo W2 := by rw [hW2]; exact KS
      have kz2 := K2.size
      have HGA2 := Lib.hid (HGA.out.below K2)
      have HR2 := Lib.hid (HRE.out.below K2)
      have HE3 := Lib.hid (do_calls2 HGA2.out (fun b q => by have := (HQ.out b q).2; omega) (M.runK_good HG0.out l k) (M.runK_acts0 (by rw [HA0.out]; exact Int.le_refl _) l k) HXI.out HDD.out)
      have HBA := Lib.hid bA
      have HK2 := Lib.hid K2
      clear hW2 hBS KS bA K2
      go_wp2_with (first | (refine wpList_load_actB (x := x) rfl (.tmp 14) rfl wo.heap.size (by rfl) HBA.out ?_) | (go_at_call_of 15 g; go_loud (refine HE3.out.mono ?_; rintro e w3 ⟨ai3, ci3, am3, cm3, Q3, a3, c3, sv3, hs3, rfl, hg3, hQ3, ho3, hi3, hm3⟩; have HG3 := Lib.hid hg3; have HQ3 := Lib.hid hQ3; have HO3 := Lib.hid ho3; have HI3 := Lib.hid hi3; have HM3 := Lib.hid hm3; have kz3 := ho3.size; (try simp at kz3); have HR3 := Lib.hid (HR2.out.only ho3 (fun b q => (hQ3 b q).1)); have HROW : Hid (w3.ownsRow w.heap.size 40 4 (.slice oa k oc) k (repsL (M.runK G0 l k).2 hr)) := Lib.hid (by have := HR3.out.row; rw [HLEN.out] at this; exact this); clear hg3 hQ3 ho3 hi3 hm3)) | (at_builtin; refine wpList_append_own_at _ rfl (.tmp 34) (.tmp 38) _ rfl w.heap.size 40 i0 _ 4 64 Tryz.underlying61 HIN.out.1 HIN.out.2.1 HIN.out.2.2.1 HIN.out.2.2.2 rfl (by omega) _ k _ rfl (own_below HROW.out (show Below w3.heap.size w3 _ from (by repeat first | with_reducible assumption | with_reducible exact Below.refl _ _ | with_reducible apply Below.drew | with_reducible apply below_drewN | with_reducible apply Below.alloc (hB := (by first | omega | (simp; done) | (simp; omega))) | with_reducible apply Below.setCell (hp := (by first | omega | (simp; done) | (simp; omega)))))) ⟨w3.heap.size, 0, none⟩ 1 1 [.int .i64 r.code, .int .i64 r.n, .slice ai3 r.ids.length ci3, .slice am3 r.met.length cm3] rfl rfl (by intro j u hu; rw [Addr.add_lit]; match j, hu with | 0, hu => (simp at hu; subst hu; simp) | 1, hu => (simp at hu; subst hu; simp) | 2, hu => (simp at hu; subst hu; simp) | 3, hu => (simp at hu; subst hu; simp) | j + 4, hu => simp at hu) (by intro u hu; simp at hu; rcases hu with rfl | rfl | rfl | rfl <;> rfl) (by unfold maxLen; omega) (by omega) (by simp; omega) ?_; intro v9 w9 hown9 hg9 _ hat9; obtain ⟨a9, c9, rfl⟩ := own_form hown9; have HO9 := Lib.hid hown9; have HG9 := Lib.hid hg9; have HA9 := Lib.hid hat9; have kz9 := hg9.size; (try simp at kz9); clear hown9 hg9 hat9))
      go_roundg (l.length - (k + 1))
      case measure => rw [HK.out]; omega
      case rel =>
          obtain ⟨hG9, hR9, hz9, hB9⟩ := reps_round HG3.out HQ3.out HO3.out HI3.out HM3.out HR2.out HLEN.out (by omega) HO9.out HG9.out HA9.out
          rw [HG'.out] at hG9
          rw [← HR'.out] at hR9
          exact ⟨k + 1, Q3, a3, c3, sv3, hs3, a9, c9, _, by omega, by go_num, rfl, rfl, hG9, (fun b q => ⟨by rcases (HQ3.out b q).1 with k | k <;> first | exact (HQ.out b k).1 | omega, by have := (HQ3.out b q).2.1; omega⟩), hR9, hB9 ((HB.out.trans (HK2.out.mono ko)).trans (HO3.out.below (by omega) (fun b q => (HQ.out b q).1))) (by omega) (Nat.le_refl _)⟩
    · obtain rfl : k = l.length := by omega
      have q9 : decide ((l.length : Int) < (l.length : Int)) = false := decide_eq_false (by omega)
      go_wp2_with fail
      go_ret2
      have hR := HRE.out
      rw [M.runK_all] at hR
      exact ⟨oa, oc, hr, rfl, hR.less (fun b q => q.elim), HB.out⟩
end Go.Proofs.YtkpecagkpjabdacGreat
