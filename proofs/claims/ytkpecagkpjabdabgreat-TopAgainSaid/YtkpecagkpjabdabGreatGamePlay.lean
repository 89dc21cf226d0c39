/- The contract of the statements' play: acts at a new game, whoever looks on. Condition: the acts lie in memory, their numbers are of 64 bits; who looks says yes. -/
import Derived.Test.YtkpecagkpjabdabGreatBagA
import Derived.Test.YtkpecagkpjabdabGreatBagW
import Derived.StillTailTactics
namespace Go.Proofs.YtkpecagkpjabdabGreat
open Go.RowKit
set_option linter.unusedVariables false
set_option linter.unusedSimpArgs false
set_option maxRecDepth 100000
/-- who looks on, and what lies in his memory: E k W Q: behind k acts, in world W, the game's own blocks being Q -/
structure Watch (w : World) (l : List M.Act) (size fall : Int) (f : FuncId) (cs : Array Value) (E : Nat → World → (Nat → Prop) → Prop) : Prop where
  start : ∀ W (Q : Nat → Prop), Below w.heap.size w W → (∀ b, Q b → w.heap.size ≤ b ∧ b < W.heap.size) → E 0 W Q
  only : ∀ k W W' (Q : Nat → Prop), E k W Q → (∀ b, Q b → b < W.heap.size) → Only Q W W' → E k W' (fun b => Q b ∨ W.heap.size ≤ b)
  sub : ∀ k W (Q R : Nat → Prop), E k W Q → (∀ b, R b → b < W.heap.size → Q b) → E k W R
  look : ∀ (k : Nat) (x : M.Act), l[k]? = some x → k < 60 → ∀ (W : World) (Q : Nat → Prop) (g : Nat) (a : Option Addr) (c : Nat) (sv : Value) (hs : List Value) (ids met : Value), Below w.heap.size w W → w.heap.size ≤ g →
    GameAt W Q g (M.playK size fall l (k + 1)) a c sv hs → (∀ b, Q b → (w.heap.size ≤ b ∧ b < W.heap.size) ∧ ids.ownBlock ≠ some b ∧ met.ownBlock ≠ some b) →
    W.ownsRow w.heap.size 3 1 ids (M.doAct (M.playK size fall l k) x).2.ids.length ((M.doAct (M.playK size fall l k) x).2.ids.map (Value.int .i64)) →
    W.ownsRow w.heap.size 77 2 met (M.doAct (M.playK size fall l k) x).2.met.length ((M.doAct (M.playK size fall l k) x).2.met.flatMap pairL) → E k W Q →
    Calls Tryz.prog f (cs ++ #[.pointer (some ⟨g, 0, none⟩), actV x, replyV (M.doAct (M.playK size fall l k) x).2 ids met]) W fun e W' => e = .returned (.bool true) ∧ Below w.heap.size w W' ∧
      ∃ (Q' : Nat → Prop) (a : Option Addr) (c : Nat) (sv : Value) (hs : List Value), GameAt W' Q' g (M.playK size fall l (k + 1)) a c sv hs ∧ (∀ b, Q' b → w.heap.size ≤ b ∧ b < W'.heap.size) ∧ E (k + 1) W' Q'
def PlayPost (w : World) (size fall : Int) (l : List M.Act) (E : Nat → World → (Nat → Prop) → Prop) (e : Ending) (w' : World) : Prop :=
  ∃ (Q : Nat → Prop) (g : Nat) (a : Option Addr) (c : Nat) (sv : Value) (hs : List Value) (k : Nat), e = .returned (.tuple #[.pointer (some ⟨g, 0, none⟩), .bool true]) ∧ GameAt w' Q g (M.played size fall l) a c sv hs ∧ (∀ b, Q b → w.heap.size ≤ b ∧ b < w'.heap.size) ∧ Below w.heap.size w w' ∧ E k w' Q ∧ w.heap.size ≤ g
theorem Watch.plain {w : World} {l : List M.Act} {size fall : Int} {f : FuncId} (h : ∀ (k : Nat) (x : M.Act), l[k]? = some x → k < 60 → ∀ (W : World) (Q : Nat → Prop) (g : Nat) (a : Option Addr) (c : Nat) (sv : Value) (hs : List Value) (ids met : Value),
    GameAt W Q g (M.playK size fall l (k + 1)) a c sv hs → W.ownsRow w.heap.size 3 1 ids (M.doAct (M.playK size fall l k) x).2.ids.length ((M.doAct (M.playK size fall l k) x).2.ids.map (Value.int .i64)) →
    W.ownsRow w.heap.size 77 2 met (M.doAct (M.playK size fall l k) x).2.met.length ((M.doAct (M.playK size fall l k) x).2.met.flatMap pairL) →
    Calls Tryz.prog f #[.pointer (some ⟨g, 0, none⟩), actV x, replyV (M.doAct (M.playK size fall l k) x).2 ids met] W fun e W' => e = .returned (.bool true) ∧ Below W.heap.size W W') : Watch w l size fall f #[] (fun _ _ _ => True) where
  start := fun _ _ _ _ => trivial
  only := fun _ _ _ _ _ _ _ => trivial
  sub := fun _ _ _ _ _ _ => trivial
  look := fun k x hx hk W Q g a c sv hs ids met hb hg hG hQ hi hm _ => (h k x hx hk W Q g a c sv hs ids met hG hi hm).mono fun e W' ⟨he, hb'⟩ =>
    ⟨he, hb.trans (hb'.mono hb.size), Q, a, c, sv, hs, hG.below hb', fun b q => ⟨(hQ b q).1.1, by have := (hQ b q).1.2; have := hb'.size; omega⟩, trivial⟩
set_option maxHeartbeats 8000000 in
set_option maxRecDepth 100000 in
theorem play_calls {w : World} {lo : Nat} {v : Value} {l : List M.Act} (h : ActsAt w lo v l) (hin : ∀ x ∈ l, ActIn x) {size fall : Int} (hs : I64 size) (hf : I64 fall) {f : FuncId} {E : Nat → World → (Nat → Prop) → Prop} (hE : Watch w l size fall f #[] E) (hfe : ∀ (args : Array Value) (w : World), (callFunc f args).run Tryz.prog w = .ok (.enter f args) w) :
    Calls Tryz.prog 9 #[.int .i64 size, .int .i64 fall, v, .func (.func f) #[] #[]] w (PlayPost w size fall l E) := by
  obtain ⟨av, cv, rfl⟩ := h.val
  have HL := Lib.hid h
  have HIN := Lib.hid hin
  have HE := Lib.hid hE
  have HA := Lib.hid alive_calls
  have hmx : l.length ≤ 9223372036854775807 := by have := h.max; unfold maxLen at this; omega
  clear h hin hE
  go_enter Tryz.func9, Tryz.ntmps9
  go_upto_region 5 with (go_at_call 34; go_loud (refine (HA.out _).mono ?_; rintro e w0 ⟨rfl, K0⟩; have kz0 := K0.size))
  have hz := M.size0_in size
  have hwr : (wrap64 (size.tmod 1048576 + 1048576)).tmod 1048576 = M.size0 size := by
    have := M.tmod_in (n := size) (m := 1048576) (by omega)
    rw [IntWalk.wrap64_in _ (by omega)]
    rfl
  rw [hwr]
  clear hwr
  have HNG : Hid (M.new0 size fall = ⟨⟨⟨[], 0⟩, fall.tmod 65, M.size0 size + 1, 1048576 - M.size0 size⟩, [], 0⟩) := Lib.hid rfl
  have HGW := Lib.hid (M.new0_goodW size fall)
  obtain ⟨z, ez⟩ : ∃ z, z = M.size0 size := ⟨_, rfl⟩
  rw [← ez] at hz HNG HGW ⊢
  clear ez
  have HN := Lib.hid (fun W => new_calls (z + 1) (1048576 - z) (fall.tmod 65) W HGW.out)
  obtain ⟨hz0, hz1⟩ := hz
  go_upto_region 8 with (go_at_call 35; go_loud (refine (HN.out _).mono ?_; rintro e w1 ⟨g, rfl, hg1, hb1⟩; have HGA1 := Lib.hid hg1; have K1 : Below w.heap.size w w1 := K0.trans (hb1.mono kz0); have kz1 := hb1.size; have lg1 := hg1.inQ.1; clear hg1 hb1))
  go_wp2_with fail
  go_loopg [12] 60 (fun gh i wr => ∃ (k : Nat) (Q : Nat → Prop) (a : Option Addr) (c : Nat) (sv : Value) (hs : List Value), (k ≤ l.length ∧ k ≤ 60) ∧ i = .int .i64 k ∧ gh = 60 - k ∧ GameAt wr Q g (M.playK size fall l k) a c sv hs ∧ (∀ b, Q b → w.heap.size ≤ b ∧ b < wr.heap.size) ∧ Below w.heap.size w wr ∧ E k wr Q)
  case atStart =>
    refine ⟨0, fun b => w0.heap.size ≤ b ∧ b < w1.heap.size, none, 0, .slice none 0 0, [], ⟨Nat.zero_le _, Nat.zero_le _⟩, rfl, rfl, ?_, (fun b q => ⟨by omega, q.2⟩), K1, HE.out.start _ _ K1 (fun b q => ⟨by omega, q.2⟩)⟩
    rw [M.playK_zero, HNG.out]
    exact HGA1.out
  case round =>
    obtain ⟨wo, hwo⟩ : ∃ wo, wo = wr := ⟨_, rfl⟩
    subst hwo
    obtain ⟨k, Q, a, c, sv, hs, ⟨hk1, hk2⟩, rfl, hgk, hga, hQ, hb, hE⟩ := hrel
    have HK := Lib.hid hgk
    have HGA := Lib.hid hga
    have HQ := Lib.hid hQ
    have HB := Lib.hid hb
    have HEK := Lib.hid hE
    have ko := hb.size
    clear hgk hga hQ hb hE K0 K1
    by_cases hin : k < l.length ∧ k < 60
    · obtain ⟨hlt, h60⟩ := hin
      obtain ⟨x, hx⟩ : ∃ x, l[k]? = some x := ⟨_, List.getElem?_eq_getElem hlt⟩
      obtain ⟨b, o, cap, ev, hlo, hc⟩ := (HL.out.below HB.out).at hx
      obtain ⟨rfl, rfl⟩ : av = some ⟨b, o, none⟩ ∧ cv = cap := by simpa using ev
      have HX := Lib.hid hx
      have HC := Lib.hid hc
      obtain ⟨G', r, hd⟩ : ∃ G' r, M.doAct (M.playK size fall l k) x = (G', r) := ⟨_, _, rfl⟩
      have HG' : Hid (G' = M.playK size fall l (k + 1)) := Lib.hid (by rw [M.playK_succ size fall hx, hd])
      have HD := Lib.hid (do_calls HGA.out (fun b q => (HQ.out b q).2) (M.playK_good size fall l k) x (by rw [M.playK_acts size fall l hk2]; omega) (HIN.out x (List.mem_of_getElem? hx)))
      rw [hd] at HD
      simp only at HD
      have HDD := Lib.hid hd
      have q0 : (0 : Int) ≤ (k : Int) := by omega
      have q1 : (k : Int) < (l.length : Int) := by omega
      have q2 : decide ((k : Int) < (l.length : Int)) = true := by simpa using hlt
      have q3 : decide ((k : Int) < 60) = true := by rw [decide_eq_true_eq]; omega
      have lb : b < wo.heap.size := cell_lt (hc 0 _ rfl)
      obtain ⟨y0, y1, y2, y3, y4, y5, y6, y7, y8, y9, y10, y11, y12, y13, y14, y15, y16⟩ := hc.all
      clear ev hlo hc hx hd
      go_upto_region 12 with (go_at_call 15; go_loud (refine HD.out.mono ?_; rintro e w2 ⟨a2, c2, sv2, hs2, ids2, met2, rfl, hga2, hon2, hid2, hmet2⟩; obtain ⟨ai2, ci2, rfl⟩ := own_form hid2; obtain ⟨am2, cm2, rfl⟩ := own_form hmet2; have HGA2 := Lib.hid hga2; have HON2 := Lib.hid hon2; have HID2 := Lib.hid hid2; have HMET2 := Lib.hid hmet2; have K2 : Below w.heap.size w w2 := HB.out.trans (hon2.below ko (fun b q => (HQ.out b q).1)); have kz2 := hon2.size; clear hga2 hon2 hid2 hmet2))
      refine wp_called (fun W3 hW3 => ?_)
      have B3 : Blk W3 w2.heap.size 36 #[.int .i64 r.code, .int .i64 r.n, .slice ai2 r.ids.length ci2, .slice am2 r.met.length cm2] := by rw [hW3]; exact Blk.new_at rfl
      have K23 : Below w2.heap.size w2 W3 := by rw [hW3]; exact (by repeat first | with_reducible assumption | with_reducible exact Below.refl _ _ | with_reducible apply Below.drew | with_reducible apply below_drewN | with_reducible apply Below.alloc (hB := (by first | omega | (simp; done) | (simp; omega))) | with_reducible apply Below.setCell (hp := (by first | omega | (simp; done) | (simp; omega))))
      have K3 : Below w.heap.size w W3 := K2.trans (K23.mono K2.size)
      have kz3 := K23.size
      have k23 := K2.size
      have HQ2 : Hid (∀ b, ((Q b ∨ wo.heap.size ≤ b) ∧ (Value.slice ai2 r.ids.length ci2).ownBlock ≠ some b ∧ (Value.slice am2 r.met.length cm2).ownBlock ≠ some b) ∧ b < w2.heap.size → (w.heap.size ≤ b ∧ b < W3.drew.heap.size) ∧ (Value.slice ai2 r.ids.length ci2).ownBlock ≠ some b ∧ (Value.slice am2 r.met.length cm2).ownBlock ≠ some b) := Lib.hid (by
        rintro b ⟨⟨k, k'⟩, h2⟩
        refine ⟨⟨?_, by show b < W3.heap.size; omega⟩, k'⟩
        rcases k with k | k
        · exact (HQ.out b k).1
        · omega)
      have HE3 : Hid (E k W3.drew (fun b => ((Q b ∨ wo.heap.size ≤ b) ∧ (Value.slice ai2 r.ids.length ci2).ownBlock ≠ some b ∧ (Value.slice am2 r.met.length cm2).ownBlock ≠ some b) ∧ b < w2.heap.size)) := Lib.hid (by
        have e1 := HE.out.only k _ w2 Q HEK.out (fun b q => (HQ.out b q).2) HON2.out
        have e2 := HE.out.sub k _ _ (fun b => ((Q b ∨ wo.heap.size ≤ b) ∧ (Value.slice ai2 r.ids.length ci2).ownBlock ≠ some b ∧ (Value.slice am2 r.met.length cm2).ownBlock ≠ some b) ∧ b < w2.heap.size) e1 (fun b q _ => q.1.1)
        have e3 := HE.out.only k _ W3.drew _ e2 (fun b q => q.2) (Only.of_below (K23.drew))
        exact HE.out.sub k _ _ _ e3 (fun b q _ => .inl q))
      have hga3 := (HGA2.out.behind K23)
      rw [HG'.out] at hga3
      have HLK0 := HE.out.look k x HX.out h60 W3.drew (fun b => ((Q b ∨ wo.heap.size ≤ b) ∧ (Value.slice ai2 r.ids.length ci2).ownBlock ≠ some b ∧ (Value.slice am2 r.met.length cm2).ownBlock ≠ some b) ∧ b < w2.heap.size) g a2 c2 sv2 hs2 (.slice ai2 r.ids.length ci2) (.slice am2 r.met.length cm2) K3.drew (by omega) (hga3.below (Below.refl _ W3).drew) HQ2.out
        (by rw [HDD.out]; exact own_lower (own_below HID2.out K23.drew) ko) (by rw [HDD.out]; exact own_lower (own_below HMET2.out K23.drew) ko) HE3.out
      rw [HDD.out] at HLK0
      simp only [Array.empty_append] at HLK0
      have HLK := Lib.hid HLK0
      have u0 := B3.cell 0
      have u1 := B3.cell 1
      have u2 := B3.cell 2
      have u3 := B3.cell 3
      simp at u0 u1 u2 u3
      obtain ⟨y0, y1, y2, y3, y4, y5, y6, y7, y8, y9, y10, y11, y12, y13, y14, y15, y16⟩ := ((HL.out.below K3).at HX.out |> fun ⟨b', o', cap', ev, _, hc⟩ => by
        obtain ⟨⟨rfl, rfl⟩, rfl⟩ : (b = b' ∧ o = o') ∧ cv = cap' := by simpa using ev
        exact hc : ActCells W3 b (o + k * 17) x).all
      clear hW3 B3 K23 K2 hga3 HLK0 HD
      go_still_tail 7, (by kernel_rfl)
      change wpList _ _ _ _ _ W3.drew
      go_wp2_with (go_at_fn f; go_loud (refine HLK.out.mono ?_; rintro e w5 ⟨rfl, hb5, Q5, a5, c5, sv5, hs5, hg5, hq5, he5⟩; have HG5 := Lib.hid hg5; have HQ5 := Lib.hid hq5; have HE5 := Lib.hid he5; clear hg5 hq5 he5))
      go_roundg (60 - (k + 1))
      case measure => rw [HK.out]; omega
      case rel => exact ⟨k + 1, Q5, a5, c5, sv5, hs5, ⟨by omega, by omega⟩, by go_num, rfl, HG5.out, HQ5.out, hb5, HE5.out⟩
    · have HP : Hid (M.playK size fall l k = M.played size fall l) := Lib.hid (M.playK_end size fall l (by omega) hk2)
      rw [HP.out] at HGA
      clear HP
      rcases Nat.lt_or_ge k l.length with hlt | hge
      · obtain rfl : k = 60 := by omega
        have q2 : decide (60 < l.length) = true := by simpa using hlt
        have q2' : decide (((60 : Nat) : Int) < (l.length : Int)) = true := by rw [decide_eq_true_eq]; omega
        clear hin
        go_wp2_with fail
        go_ret2
        exact ⟨Q, g, a, c, sv, hs, _, rfl, HGA.out, HQ.out, HB.out, HEK.out, by omega⟩
      · have q2 : decide ((k : Int) < (l.length : Int)) = false := by rw [decide_eq_false_iff_not]; omega
        clear hin
        go_wp2_with fail
        go_ret2
        exact ⟨Q, g, a, c, sv, hs, _, rfl, HGA.out, HQ.out, HB.out, HEK.out, by omega⟩
end Go.Proofs.YtkpecagkpjabdabGreat
