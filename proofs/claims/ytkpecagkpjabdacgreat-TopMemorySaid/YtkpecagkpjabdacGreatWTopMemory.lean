/- The walk of TopMemory. Condition: the acts lie in memory, their numbers are of 64 bits. -/
import Derived.Test.YtkpecagkpjabdacGreatMemLook
import Derived.Test.YtkpecagkpjabdacGreatGamePlay2
import Derived.Shelf.Abstract
namespace Go.Proofs.YtkpecagkpjabdacGreat
open Go.RowKit
set_option linter.unusedVariables false
set_option linter.unusedSimpArgs false
set_option maxRecDepth 100000
/-- what the callback holds: its own game behind k acts, and the box with its place -/
def MemE (B bx h : Nat) (size fall : Int) (l : List M.Act) (k : Nat) (W : World) (QE : Nat → Prop) : Prop :=
  ∃ (R : Nat → Prop) (a : Option Addr) (c : Nat) (sv : Value) (hs : List Value), GameAt W R h (M.playK size fall l k) a c sv hs ∧ (∀ b, R b → B ≤ b ∧ b < W.heap.size) ∧ (∀ b, QE b → ¬ R b) ∧ Blk W bx 28 #[.pointer (some ⟨h, 0, none⟩)] ∧ ¬ QE bx ∧ ¬ R bx
theorem mem_watch {w : World} {B bx h : Nat} {size fall : Int} {l : List M.Act} (hin : ∀ x ∈ l, ActIn x) (hB : B ≤ w.heap.size) {R : Nat → Prop} {a : Option Addr} {c : Nat} {sv : Value} {hs : List Value} (hg : GameAt w R h (M.new0 size fall) a c sv hs) (hR : ∀ b, R b → B ≤ b ∧ b < w.heap.size) (hb : Blk w bx 28 #[.pointer (some ⟨h, 0, none⟩)]) (hn : ¬ R bx) :
    Watch2 B w l size fall 30 (.pointer (some ⟨bx, 0, none⟩)) (MemE B bx h size fall l) := by
  refine ⟨?_, ?_, ?_, ?_⟩
  · intro W Q hbe hQ
    refine ⟨R, a, c, sv, hs, ?_, ?_, ?_, hb.below hbe hb.lt, ?_, hn⟩
    · rw [M.playK_zero]; exact hg.below hbe
    · exact fun b q => ⟨(hR b q).1, Nat.lt_of_lt_of_le (hR b q).2 hbe.size⟩
    · intro b q r; have := (hQ b q).1; have := (hR b r).2; omega
    · intro q; have := (hQ _ q).1; have := hb.lt; omega
  · rintro k W W' Q ⟨R, a, c, sv, hs, hg, hR, hd, hb, h1, h2⟩ hQ ho
    refine ⟨R, a, c, sv, hs, hg.only ho (fun b r q => hd b q r), fun b q => ⟨(hR b q).1, Nat.lt_of_lt_of_le (hR b q).2 ho.size⟩, ?_, hb.only ho h1, ?_, h2⟩
    · rintro b (q | q) r
      · exact hd b q r
      · have := (hR b r).2; omega
    · rintro (q | q)
      · exact h1 q
      · have := hb.lt; omega
  · rintro k W Q S ⟨R, a, c, sv, hs, hg, hR, hd, hb, h1, h2⟩ hs'
    exact ⟨R, a, c, sv, hs, hg, hR, fun b q r => hd b (hs' b q (hR b r).2) r, hb, fun q => h1 (hs' _ q hb.lt), h2⟩
  · rintro k x hx h60 W Q g a2 c2 sv2 hs2 ids met hbe hwg hga hQ QE hQE hids hmet ⟨R, a, c, sv, hs, hg, hR, hd, hb, h1, h2⟩
    have hsu := M.playK_succ size fall hx
    obtain ⟨G1, r, hD⟩ : ∃ G' r, M.doAct (M.playK size fall l k) x = (G', r) := ⟨_, _, rfl⟩
    rw [hD] at hsu hids hmet ⊢
    simp only at hsu hids hmet ⊢
    have hG1 := M.playK_good size fall l (k + 1)
    rw [hsu] at hga hG1 ⊢
    refine (memLook_calls (base := w.heap.size) hga (fun b q => (hQ b q).1.2) hg (fun b q => (hR b q).2) (fun b q r => hd b (hQE b (.inl q)) r) ?_ ?_ hb ⟨h2, fun e => h1 (hQE _ (.inr (.inl e))), fun e => h1 (hQE _ (.inr (.inr e)))⟩ hids hmet hD (M.playK_good size fall l k) hG1 (by rw [M.playK_acts size fall l (by omega)]; omega) (hin x (List.mem_of_getElem? hx))).mono ?_
    · rintro b (q | q) e
      · exact hd b (hQE b (.inr (.inl e))) q
      · exact (hQ b q).2.1 e
    · rintro b (q | q) e
      · exact hd b (hQE b (.inr (.inr e))) q
      · exact (hQ b q).2.2 e
    · rintro e W' ⟨rfl, ho, R', a', c', sv', hs', hg', hR'⟩
      have hsz := ho.size
      have hbs := hbe.size
      refine ⟨rfl, hbe.trans (ho.below (by omega) ?_), Q, a2, c2, sv2, hs2, hga.only ho ?_, fun b q => ⟨(hQ b q).1.1, Nat.lt_of_lt_of_le (hQ b q).1.2 hsz⟩, R', a', c', sv', hs', by rw [hsu]; exact hg', ?_, ?_, hb.only ho ?_, ?_, ?_⟩
      · rintro b (q | q | q)
        · exact (hR b q).1
        · have := (hids.lt b q).1; omega
        · have := (hmet.lt b q).1; omega
      · rintro b q (r | r | r)
        · exact hd b (hQE b (.inl q)) r
        · exact (hQ b q).2.1 r
        · exact (hQ b q).2.2 r
      · intro b q
        have := hR' b q
        refine ⟨?_, this.2⟩
        rcases this.1 with r | r
        · exact (hR b r).1
        · omega
      · intro b q r
        rcases (hR' b r).1 with s | s
        · exact hd b (hQE b (.inl q)) s
        · have := (hQ b q).1.2; omega
      · rintro (r | r | r)
        · exact h2 r
        · exact h1 (hQE _ (.inr (.inl r)))
        · exact h1 (hQE _ (.inr (.inr r)))
      · exact fun q => h1 (hQE _ (.inl q))
      · intro r
        rcases (hR' _ r).1 with s | s
        · exact h2 s
        · have := hb.lt; omega
set_option maxHeartbeats 8000000 in
set_option maxRecDepth 100000 in
theorem topMemory_walk (size fall : Int) (l : List M.Act) (w : World) {v : Value} (hs : I64 size) (hf : I64 fall) (h : ActsAt w 0 v l ∧ ∀ x ∈ l, ActIn x) :
    Calls Tryz.prog 10 #[.int .i64 size, .int .i64 fall, v] w fun e w' => e = .returned (.bool true) ∧ Below w.heap.size w w' := by
  obtain ⟨av, cv, rfl⟩ := h.1.val
  have HH := Lib.hid h
  have HA := Lib.hid alive_calls
  clear h
  go_enter Tryz.func10, Tryz.ntmps10
  go_upto_region 3 with (go_at_call 29; go_loud (refine (HA.out _).mono ?_; rintro e w0 ⟨rfl, K0⟩; have kz0 := K0.size))
  go_upto_region 4 with fail
  have hz := M.size0_in size
  have hwr : (wrap64 (size.tmod 1048576 + 1048576)).tmod 1048576 = M.size0 size := by
    have := M.tmod_in (n := size) (m := 1048576) (by omega)
    rw [IntWalk.wrap64_in _ (by omega)]
    rfl
  rw [hwr]
  clear hwr
  have HNG : Hid (M.new0 size fall = ⟨⟨⟨[], 0⟩, fall.tmod 65, M.size0 size + 1, 1048576 - M.size0 size⟩, [], 0⟩) := Lib.hid rfl
  have HGW := Lib.hid (M.new0_goodW size fall)
  obtain ⟨z, ez⟩ : ∃ z, z = M.size0 size := ⟨_, rfl⟩
  rw [← ez] at hz HNG HGW ⊢
  clear ez
  have HN := Lib.hid (fun W => new_calls (z + 1) (1048576 - z) (fall.tmod 65) W HGW.out)
  obtain ⟨hz0, hz1⟩ := hz
  go_upto_region 5 with (go_at_call 16; go_loud (refine (HN.out _).mono ?_; rintro e w1 ⟨g, rfl, hg1, hb1⟩; have HGA1 := Lib.hid hg1; have K1 : Below w.heap.size w w1 := K0.trans (hb1.mono kz0); have kz1 := hb1.size; have lg1 := hg1.inQ.1; have hgw : w.heap.size ≤ g := (by omega); clear hg1 hb1))
  go_upto_region 7 with fail
  refine wp_called (fun W hW => ?_)
  have KW : Below w1.heap.size w1 W := by rw [hW]; exact (by repeat first | with_reducible assumption | with_reducible exact Below.refl _ _ | with_reducible apply Below.drew | with_reducible apply below_drewN | with_reducible apply Below.alloc (hB := (by first | omega | (simp; done) | (simp; omega))) | with_reducible apply Below.setCell (hp := (by first | omega | (simp; done) | (simp; omega))))
  have HBX : Hid (Blk W w1.heap.size 28 #[.pointer (some ⟨g, 0, none⟩)]) := Lib.hid (by rw [hW]; exact Blk.new_at rfl)
  have K2 : Below w.heap.size w W := K1.trans (KW.mono (by omega))
  have kzw := KW.size
  have k2 := K2.size
  have HPL := Lib.hid (play_calls2 (B := w.heap.size) k2 (HH.out.1.below K2) (fun U hb => HH.out.1.below (K2.trans hb)) HH.out.2 hs hf (mem_watch (bx := w1.heap.size) HH.out.2 k2 (R := fun b => w0.heap.size ≤ b ∧ b < w1.heap.size) (by rw [HNG.out]; exact HGA1.out.below KW) (fun b q => ⟨by omega, by omega⟩) HBX.out (by omega)) (enters_of Tryz.func30 (by kernel_rfl) rfl))
  clear hW HGA1
  go_wp2_with (go_at_call 23; go_loud (refine HPL.out.mono ?_; rintro e w3 ⟨Q3, g3, a3, c3, sv3, hs3, k3, rfl, hg3, hQ3, hb3, hE3, hw3⟩))
  go_ret
  exact ⟨rfl, K2.trans hb3⟩
end Go.Proofs.YtkpecagkpjabdacGreat
