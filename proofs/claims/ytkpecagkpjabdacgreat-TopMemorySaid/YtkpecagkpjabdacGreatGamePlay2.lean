/- The contract of the statements' play, whoever looks on: he may hold memory of his own and write over what is told. Condition: the acts lie in memory wherever the blocks below B are as they were; who looks says yes. -/
import Derived.Test.YtkpecagkpjabdacGreatBagA
import Derived.Test.YtkpecagkpjabdacGreatBagW
import Derived.Test.YtkpecagkpjabdacGreatPlayDraw
import Derived.Test.YtkpecagkpjabdacGreatActRow
import Derived.Deep.DeepCutAuto
namespace Go.Proofs.YtkpecagkpjabdacGreat
open Go.RowKit
set_option linter.unusedVariables false
set_option linter.unusedSimpArgs false
set_option maxRecDepth 100000
/-- who looks on, and what lies in his memory: E k W Q: behind k acts, in world W, the game's own blocks being Q -/
structure Watch2 (B : Nat) (w : World) (l : List M.Act) (size fall : Int) (f : FuncId) (cap : Value) (E : Nat → World → (Nat → Prop) → Prop) : Prop where
  start : ∀ W (Q : Nat → Prop), Below w.heap.size w W → (∀ b, Q b → w.heap.size ≤ b ∧ b < W.heap.size) → E 0 W Q
  only : ∀ k W W' (Q : Nat → Prop), E k W Q → (∀ b, Q b → b < W.heap.size) → Only Q W W' → E k W' (fun b => Q b ∨ W.heap.size ≤ b)
  sub : ∀ k W (Q R : Nat → Prop), E k W Q → (∀ b, R b → b < W.heap.size → Q b) → E k W R
  look : ∀ (k : Nat) (x : M.Act), l[k]? = some x → k < 60 → ∀ (W : World) (Q : Nat → Prop) (g : Nat) (a : Option Addr) (c : Nat) (sv : Value) (hs : List Value) (ids met : Value), Below B w W → w.heap.size ≤ g →
    GameAt W Q g (M.playK size fall l (k + 1)) a c sv hs → (∀ b, Q b → (w.heap.size ≤ b ∧ b < W.heap.size) ∧ ids.ownBlock ≠ some b ∧ met.ownBlock ≠ some b) → ∀ (QE : Nat → Prop), (∀ b, Q b ∨ ids.ownBlock = some b ∨ met.ownBlock = some b → QE b) →
    W.ownsRow w.heap.size 3 1 ids (M.doAct (M.playK size fall l k) x).2.ids.length ((M.doAct (M.playK size fall l k) x).2.ids.map (Value.int .i64)) →
    W.ownsRow w.heap.size 75 2 met (M.doAct (M.playK size fall l k) x).2.met.length ((M.doAct (M.playK size fall l k) x).2.met.flatMap pairL) → E k W QE →
    Calls Tryz.prog f #[.pointer (some ⟨g, 0, none⟩), actV x, replyV (M.doAct (M.playK size fall l k) x).2 ids met, cap] W fun e W' => e = .returned (.bool true) ∧ Below B w W' ∧
      ∃ (Q' : Nat → Prop) (a : Option Addr) (c : Nat) (sv : Value) (hs : List Value), GameAt W' Q' g (M.playK size fall l (k + 1)) a c sv hs ∧ (∀ b, Q' b → w.heap.size ≤ b ∧ b < W'.heap.size) ∧ E (k + 1) W' Q'
def PlayPost2 (B : Nat) (w : World) (size fall : Int) (l : List M.Act) (E : Nat → World → (Nat → Prop) → Prop) (e : Ending) (w' : World) : Prop :=
  ∃ (Q : Nat → Prop) (g : Nat) (a : Option Addr) (c : Nat) (sv : Value) (hs : List Value) (k : Nat), e = .returned (.tuple #[.pointer (some ⟨g, 0, none⟩), .bool true]) ∧ GameAt w' Q g (M.played size fall l) a c sv hs ∧ (∀ b, Q b → w.heap.size ≤ b ∧ b < w'.heap.size) ∧ Below B w w' ∧ E k w' Q ∧ w.heap.size ≤ g
/-- what who looks on is handed behind an act -/
theorem play_look2 {B : Nat} {w wo w2 W3 : World} {l : List M.Act} {size fall : Int} {f : FuncId} {cap : Value} {E : Nat → World → (Nat → Prop) → Prop} (hE : Watch2 B w l size fall f cap E) (hB : B ≤ w.heap.size) {k : Nat} {x : M.Act} (hx : l[k]? = some x) (h60 : k < 60)
    (hb : Below B w wo) {Q : Nat → Prop} (hQ : ∀ b, Q b → w.heap.size ≤ b ∧ b < wo.heap.size) (hEK : E k wo Q) {G' : M.Game} {r : M.Reply} (hd : M.doAct (M.playK size fall l k) x = (G', r)) (hG' : G' = M.playK size fall l (k + 1))
    {g : Nat} {a2 : Option Addr} {c2 : Nat} {sv2 : Value} {hs2 : List Value} {ai2 am2 : Option Addr} {ci2 cm2 : Nat}
    (hga2 : GameAt w2 (fun b => (Q b ∨ wo.heap.size ≤ b) ∧ (Value.slice ai2 r.ids.length ci2).ownBlock ≠ some b ∧ (Value.slice am2 r.met.length cm2).ownBlock ≠ some b) g G' a2 c2 sv2 hs2) (hon2 : Only Q wo w2)
    (hid2 : w2.ownsRow wo.heap.size 3 1 (.slice ai2 r.ids.length ci2) r.ids.length (r.ids.map (Value.int .i64))) (hmet2 : w2.ownsRow wo.heap.size 75 2 (.slice am2 r.met.length cm2) r.met.length (r.met.flatMap pairL)) (hg : w.heap.size ≤ g) (K23 : Below w2.heap.size w2 W3) :
    Calls Tryz.prog f #[.pointer (some ⟨g, 0, none⟩), actV x, replyV r (.slice ai2 r.ids.length ci2) (.slice am2 r.met.length cm2), cap] W3.drew fun e W' => e = .returned (.bool true) ∧ Below B w W' ∧
      ∃ (Q' : Nat → Prop) (a : Option Addr) (c : Nat) (sv : Value) (hs : List Value), GameAt W' Q' g (M.playK size fall l (k + 1)) a c sv hs ∧ (∀ b, Q' b → w.heap.size ≤ b ∧ b < W'.heap.size) ∧ E (k + 1) W' Q' := by
  have ko := hb.size
  have kz2 := hon2.size
  have kz3 := K23.size
  have K2 : Below B w w2 := hb.trans (hon2.below (by omega) (fun b q => by have := (hQ b q).1; omega))
  have K3 : Below B w W3 := K2.trans (K23.mono (by omega))
  have hEE : E k W3.drew (fun b => (Q b ∨ wo.heap.size ≤ b) ∧ b < w2.heap.size) := by
    have e1 := hE.only k _ w2 Q hEK (fun b q => (hQ b q).2) hon2
    have e2 := hE.sub k _ _ (fun b => (Q b ∨ wo.heap.size ≤ b) ∧ b < w2.heap.size) e1 (fun b q _ => q.1)
    have e3 := hE.only k _ W3.drew _ e2 (fun b q => q.2) (Only.of_below (K23.drew))
    exact hE.sub k _ _ _ e3 (fun b q _ => .inl q)
  have hga3 := hga2.behind K23
  rw [hG'] at hga3
  have hlk := hE.look k x hx h60 W3.drew (fun b => ((Q b ∨ wo.heap.size ≤ b) ∧ (Value.slice ai2 r.ids.length ci2).ownBlock ≠ some b ∧ (Value.slice am2 r.met.length cm2).ownBlock ≠ some b) ∧ b < w2.heap.size) g a2 c2 sv2 hs2 (.slice ai2 r.ids.length ci2) (.slice am2 r.met.length cm2) K3.drew hg (hga3.below (Below.refl _ W3).drew)
    (by
      rintro b ⟨⟨q, q'⟩, h2⟩
      refine ⟨⟨?_, by show b < W3.heap.size; omega⟩, q'⟩
      rcases q with q | q
      · exact (hQ b q).1
      · omega)
    (fun b => (Q b ∨ wo.heap.size ≤ b) ∧ b < w2.heap.size)
    (by
      rintro b (q | q | q)
      · exact ⟨q.1.1, q.2⟩
      · exact ⟨.inr (hid2.lt b q).1, (hid2.lt b q).2⟩
      · exact ⟨.inr (hmet2.lt b q).1, (hmet2.lt b q).2⟩)
    (by rw [hd]; exact own_lower (own_below hid2 K23.drew) ko) (by rw [hd]; exact own_lower (own_below hmet2 K23.drew) ko) hEE
  rw [hd] at hlk
  exact hlk
theorem wp_frameP {P : Program} {c : Code} {Q : Exit → Act → World → Prop} {a : Act} {w : World} (h : ∀ A, A = a → c.wp P Q A w) : c.wp P Q a w := h a rfl
set_option maxHeartbeats 8000000 in
set_option maxRecDepth 100000 in
theorem play_calls2 {w : World} {B : Nat} (hB : B ≤ w.heap.size) {lo : Nat} {v : Value} {l : List M.Act} (h0 : ActsAt w lo v l) (h : ∀ W, Below B w W → ActsAt W lo v l) (hin : ∀ x ∈ l, ActIn x) {size fall : Int} (hs : I64 size) (hf : I64 fall) {f : FuncId} {E : Nat → World → (Nat → Prop) → Prop} {cap : Value} (hE : Watch2 B w l size fall f cap E) (hfe : ∀ (args : Array Value) (w : World), (callFunc f args).run Tryz.prog w = .ok (.enter f args) w) :
    Calls Tryz.prog 23 #[.int .i64 size, .int .i64 fall, v, .func (.func f) #[] #[cap]] w (PlayPost2 B w size fall l E) := by
  obtain ⟨av, cv, rfl⟩ := h0.val
  have HL := Lib.hid h
  have HIN := Lib.hid hin
  have HE := Lib.hid hE
  have HA := Lib.hid alive_calls
  have hmx : l.length ≤ 9223372036854775807 := by have := h0.max; unfold maxLen at this; omega
  clear h h0 hin hE
  go_enter Tryz.func23, Tryz.ntmps23
  go_upto_region 5 with (go_at_call 29; go_loud (refine (HA.out _).mono ?_; rintro e w0 ⟨rfl, K0⟩; have kz0 := K0.size))
  have hz := M.size0_in size
  have hwr : (wrap64 (size.tmod 1048576 + 1048576)).tmod 1048576 = M.size0 size := by
    have := M.tmod_in (n := size) (m := 1048576) (by omega)
    rw [IntWalk.wrap64_in _ (by omega)]
    rfl
  rw [hwr]
  clear hwr
  have HNG : Hid (M.new0 size fall = ⟨⟨⟨[], 0⟩, fall.tmod 65, M.size0 size + 1, 1048576 - M.size0 size⟩, [], 0⟩) := Lib.hid rfl
  have HGW := Lib.hid (M.new0_goodW size fall)
  obtain ⟨z, ez⟩ : ∃ z, z = M.size0 size := ⟨_, rfl⟩
  rw [← ez] at hz HNG HGW ⊢
  clear ez
  have HN := Lib.hid (fun W => new_calls (z + 1) (1048576 - z) (fall.tmod 65) W HGW.out)
  obtain ⟨hz0, hz1⟩ := hz
  go_upto_region 8 with (go_at_call 16; go_loud (refine (HN.out _).mono ?_; rintro e w1 ⟨g, rfl, hg1, hb1⟩; have HGA1 := Lib.hid hg1; have K1 : Below w.heap.size w w1 := K0.trans (hb1.mono kz0); have kz1 := hb1.size; have lg1 := hg1.inQ.1; have hgw : w.heap.size ≤ g := (by omega); clear hg1 hb1))
  go_wp2_with fail
  go_loopg [12] 60 (fun gh i wr => ∃ (k : Nat) (Q : Nat → Prop) (a : Option Addr) (c : Nat) (sv : Value) (hs : List Value), (k ≤ l.length ∧ k ≤ 60) ∧ i = .int .i64 k ∧ gh = 60 - k ∧ GameAt wr Q g (M.playK size fall l k) a c sv hs ∧ (∀ b, Q b → w.heap.size ≤ b ∧ b < wr.heap.size) ∧ Below B w wr ∧ E k wr Q)
  case atStart =>
    refine ⟨0, fun b => w0.heap.size ≤ b ∧ b < w1.heap.size, none, 0, .slice none 0 0, [], ⟨Nat.zero_le _, Nat.zero_le _⟩, rfl, rfl, ?_, (fun b q => ⟨by omega, q.2⟩), K1.mono hB, HE.out.start _ _ K1 (fun b q => ⟨by omega, q.2⟩)⟩
    rw [M.playK_zero, HNG.out]
    exact HGA1.out
  case round =>
    obtain ⟨wo, hwo⟩ : ∃ wo, wo = wr := ⟨_, rfl⟩
    subst hwo
    obtain ⟨k, Q, a, c, sv, hs, ⟨hk1, hk2⟩, rfl, hgk, hga, hQ, hb, hE⟩ := hrel
    have HK := Lib.hid hgk
    have HGA := Lib.hid hga
    have HQ := Lib.hid hQ
    have HB := Lib.hid hb
    have HEK := Lib.hid hE
    have ko := hb.size
    clear hgk hga hQ hb hE K0 K1
    by_cases hin : k < l.length ∧ k < 60
    · obtain ⟨hlt, h60⟩ := hin
      obtain ⟨x, hx⟩ : ∃ x, l[k]? = some x := ⟨_, List.getElem?_eq_getElem hlt⟩
      obtain ⟨b, o, cap9, ev, hlo, hc⟩ := (HL.out _ HB.out).at hx
      obtain ⟨rfl, rfl⟩ : av = some ⟨b, o, none⟩ ∧ cv = cap9 := by simpa using ev
      have HX := Lib.hid hx
      have HC := Lib.hid hc
      obtain ⟨G', r, hd⟩ : ∃ G' r, M.doAct (M.playK size fall l k) x = (G', r) := ⟨_, _, rfl⟩
      have HG' : Hid (G' = M.playK size fall l (k + 1)) := Lib.hid (by rw [M.playK_succ size fall hx, hd])
      have HD := Lib.hid (do_calls HGA.out (fun b q => (HQ.out b q).2) (M.playK_good size fall l k) x (by rw [M.playK_acts size fall l hk2]; omega) (HIN.out x (List.mem_of_getElem? hx)))
      rw [hd] at HD
      simp only at HD
      have HDD := Lib.hid hd
      have q0 : (0 : Int) ≤ (k : Int) := by omega
      have q1 : (k : Int) < (l.length : Int) := by omega
      have q2 : decide ((k : Int) < (l.length : Int)) = true := by simpa using hlt
      have q3 : decide ((k : Int) < 60) = true := by rw [decide_eq_true_eq]; omega
      have lb : b < wo.heap.size := cell_lt (hc 0 _ rfl)
      clear ev hlo hc hx hd
      go_upto_region 12 with (first | (refine wpList_load_act (x := x) rfl (.tmp 50) rfl b (o + k * 17) (by rfl) HC.out ?_) | (go_at_call 15; go_loud (refine HD.out.mono ?_; rintro e w2 ⟨a2, c2, sv2, hs2, ids2, met2, rfl, hga2, hon2, hid2, hmet2⟩; obtain ⟨ai2, ci2, rfl⟩ := own_form hid2; obtain ⟨am2, cm2, rfl⟩ := own_form hmet2; have HGA2 := Lib.hid hga2; have HON2 := Lib.hid hon2; have HID2 := Lib.hid hid2; have HMET2 := Lib.hid hmet2; have K2 : Below B w w2 := HB.out.trans (hon2.below (by omega) (fun b q => by have := (HQ.out b q).1; omega)); have kz2 := hon2.size; clear hga2 hon2 hid2 hmet2)))
      refine wp_called (fun W3 hW3 => ?_)
      have B3 : Blk W3 w2.heap.size 40 #[.int .i64 r.code, .int .i64 r.n, .slice ai2 r.ids.length ci2, .slice am2 r.met.length cm2] := by rw [hW3]; exact Blk.new_at rfl
      have K23 : Below w2.heap.size w2 W3 := by rw [hW3]; exact (by repeat first | with_reducible assumption | with_reducible exact Below.refl _ _ | with_reducible apply Below.drew | with_reducible apply below_drewN | with_reducible apply Below.alloc (hB := (by first | omega | (simp; done) | (simp; omega))) | with_reducible apply Below.setCell (hp := (by first | omega | (simp; done) | (simp; omega))))
      have K3 : Below B w W3 := K2.trans (K23.mono (by have := K2.size; omega))
      have kz3 := K23.size
      have k23 := K2.size
      have HLK := Lib.hid (play_look2 HE.out hB HX.out h60 HB.out HQ.out HEK.out HDD.out HG'.out HGA2.out HON2.out HID2.out HMET2.out hgw K23)
      have hact : ActCells W3.drew b (o + k * 17) x := ((HL.out _ K3).at HX.out |> fun ⟨b', o', cap', ev, _, hc⟩ => by
        obtain ⟨⟨rfl, rfl⟩, rfl⟩ : (b = b' ∧ o = o') ∧ cv = cap' := by simpa using ev
        exact hc)
      have HACT := Lib.hid hact
      have HB3 : Hid (Blk W3.drew w2.heap.size 40 #[.int .i64 r.code, .int .i64 r.n, .slice ai2 r.ids.length ci2, .slice am2 r.met.length cm2]) := Lib.hid B3
      clear hW3 B3 K23 K2 HD HGA2 HON2 HID2 HMET2 hact
      refine wp_frameP (fun A hA => ?_)
      show Code.wp Tryz.prog pl12C _ _ _
      rw [pl12C_is]
      refine wp_region_any (by kernel_rfl) ?_
      rw [pl12Ops_size]
      refine pl12_region (l := l) (g := g) (k := k) (p13 := w2.heap.size) (x := x) (r := r) (ai := ai2) (am := am2) (b := b) (o := o) (cv := cv) (ci := ci2) (cm := cm2) (f := f) (cap := cap) (PP := fun W' => Below B w W' ∧ ∃ (Q' : Nat → Prop) (a : Option Addr) (c : Nat) (sv : Value) (hs : List Value), GameAt W' Q' g (M.playK size fall l (k + 1)) a c sv hs ∧ (∀ b, Q' b → w.heap.size ≤ b ∧ b < W'.heap.size) ∧ E (k + 1) W' Q')
        ⟨by rw [hA]; rfl, by rw [hA]; rfl, by rw [hA]; rfl, by rw [hA]; rfl, by rw [hA]; rfl, hlt, hmx, HACT.out, HB3.out, hfe, HLK.out⟩ (by rw [hA]; rfl) (by rw [hA]) ?_
      rintro v0 v1 v2 v3 v4 v5 v6 v7 w5 ⟨hb5, Q5, a5, c5, sv5, hs5, hg5, hq5, he5⟩
      rw [hA]
      simp only [setP, List.setIfInBounds_toArray, List.set_cons_zero, List.set_cons_succ]
      have HG5 := Lib.hid hg5
      have HQ5 := Lib.hid hq5
      have HE5 := Lib.hid he5
      clear hA A hg5 hq5 he5
      go_wp2_with fail
      go_roundg (60 - (k + 1))
      case measure => rw [HK.out]; omega
      case rel => exact ⟨k + 1, Q5, a5, c5, sv5, hs5, ⟨by omega, by omega⟩, by go_num, rfl, HG5.out, HQ5.out, hb5, HE5.out⟩
    · have HP : Hid (M.playK size fall l k = M.played size fall l) := Lib.hid (M.playK_end size fall l (by omega) hk2)
      rw [HP.out] at HGA
      clear HP
      rcases Nat.lt_or_ge k l.length with hlt | hge
      · obtain rfl : k = 60 := by omega
        have q2 : decide (60 < l.length) = true := by simpa using hlt
        have q2' : decide (((60 : Nat) : Int) < (l.length : Int)) = true := by rw [decide_eq_true_eq]; omega
        clear hin
        go_wp2_with fail
        go_ret2
        exact ⟨Q, g, a, c, sv, hs, _, rfl, HGA.out, HQ.out, HB.out, HEK.out, by omega⟩
      · have q2 : decide ((k : Int) < (l.length : Int)) = false := by rw [decide_eq_false_iff_not]; omega
        clear hin
        go_wp2_with fail
        go_ret2
        exact ⟨Q, g, a, c, sv, hs, _, rfl, HGA.out, HQ.out, HB.out, HEK.out, by omega⟩
end Go.Proofs.YtkpecagkpjabdacGreat
