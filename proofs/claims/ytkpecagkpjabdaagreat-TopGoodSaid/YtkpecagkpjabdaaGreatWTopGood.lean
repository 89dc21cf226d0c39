/- The walk of TopGood. Condition: the acts lie in memory, their numbers are of 64 bits. -/
import Derived.Test.YtkpecagkpjabdaaGreatGamePlay
import Derived.Test.YtkpecagkpjabdaaGreatBagWo
import Derived.Shelf.Abstract
namespace Go.Proofs.YtkpecagkpjabdaaGreat
open Go.RowKit
set_option linter.unusedVariables false
set_option linter.unusedSimpArgs false
set_option maxRecDepth 100000
set_option maxHeartbeats 4000000 in
set_option maxRecDepth 100000 in
theorem topGood1_calls {w : World} {Q : Nat → Prop} {g : Nat} {G : M.Game} {a : Option Addr} {c : Nat} {sv : Value} {hs : List Value} (h : GameAt w Q g G a c sv hs) (hG : M.GoodG G) (x : M.Act) (r : M.Reply) (ids met : Value) :
    Calls Tryz.prog 5 #[.pointer (some ⟨g, 0, none⟩), actV x, replyV r ids met] w fun e w' => e = .returned (.bool true) ∧ Below w.heap.size w w' := by
  have HW := Lib.hid (fun U (hb : Below w.heap.size w U) => gworld_calls (h.below hb) hG)
  have HI := Lib.hid (good_in hG.w.things)
  have HGW : Hid (M.goodW G.w = true) := Lib.hid (M.goodW_iff.2 hG.w)
  clear h hG
  go_enter Tryz.func5, Tryz.ntmps5
  go_wp2_with (first | (go_at_call 7; go_loud (refine (HW.out _ (by repeat first | with_reducible assumption | with_reducible exact Below.refl _ _ | with_reducible apply Below.drew | with_reducible apply below_drewN | with_reducible apply Below.alloc (hB := (by first | omega | (simp; done) | (simp; omega))) | with_reducible apply Below.setCell (hp := (by first | omega | (simp; done) | (simp; omega))))).mono ?_; rintro e w1 ⟨a1, c1, hs1, rfl, ho1, hb1⟩; have HO1 := Lib.hid ho1; have K1 : Below w.heap.size w w1 := (show Below w.heap.size w _ from (by repeat first | with_reducible assumption | with_reducible exact Below.refl _ _ | with_reducible apply Below.drew | with_reducible apply below_drewN | with_reducible apply Below.alloc (hB := (by first | omega | (simp; done) | (simp; omega))) | with_reducible apply Below.setCell (hp := (by first | omega | (simp; done) | (simp; omega))))).trans (hb1.mono (by first | omega | (simp; done) | (simp; omega))); have kz1 := K1.size; clear ho1)) | (go_at_call 6; go_loud (have HGD := (goodWorld_calls (w := w1) (vt := .slice a1 G.w.things.tables.length c1) (d := G.w) (HO1.out.at_.mono (Nat.zero_le _)) HI.out); rw [HGW.out] at HGD; refine HGD.mono ?_; rintro e w2 ⟨rfl, hb2⟩; have K2 : Below w.heap.size w w2 := K1.trans (hb2.mono kz1))))
  go_ret
  exact ⟨rfl, K2⟩
set_option maxHeartbeats 4000000 in
theorem topGood_walk (size fall : Int) (l : List M.Act) (w : World) {v : Value} (hs : I64 size) (hf : I64 fall) (h : ActsAt w 0 v l ∧ ∀ x ∈ l, ActIn x) :
    Calls Tryz.prog 3 #[.int .i64 size, .int .i64 fall, v] w fun e w' => e = .returned (.bool true) ∧ Below w.heap.size w w' := by
  have HP := Lib.hid (play_calls h.1 h.2 hs hf (f := 5) (Watch.plain fun k x _ _ W Q g a c sv hs ids met hg _ _ => topGood1_calls hg (M.playK_good size fall l (k + 1)) x _ ids met) (enters_of Tryz.func5 (by kernel_rfl) rfl))
  obtain ⟨av, cv, rfl⟩ := h.1.val
  clear h
  go_enter Tryz.func3, Tryz.ntmps3
  go_wp2_with (go_at_call 4; go_loud (refine HP.out.mono ?_; rintro e w1 ⟨Q, g, a, c, sv, hs, k, rfl, hg, hQ, hb, _, _⟩; have HG := Lib.hid hg; have HQ := Lib.hid hQ; clear hg hQ))
  go_ret
  exact ⟨rfl, hb⟩
end Go.Proofs.YtkpecagkpjabdaaGreat
