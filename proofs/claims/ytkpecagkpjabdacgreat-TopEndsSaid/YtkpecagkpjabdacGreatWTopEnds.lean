/- The walk of TopEnds. Condition: the acts lie in memory, their numbers are of 64 bits. -/
import Derived.Test.YtkpecagkpjabdacGreatGameTwo
import Derived.Test.YtkpecagkpjabdacGreatGameSame
import Derived.Test.YtkpecagkpjabdacGreatGameReply
import Derived.Test.YtkpecagkpjabdacGreatLawKills
namespace Go.Proofs.YtkpecagkpjabdacGreat
open Go.RowKit
set_option linter.unusedVariables false
set_option linter.unusedSimpArgs false
set_option maxRecDepth 100000
theorem M.empty_act {g : M.Game} (hg : g.acts < 150) : M.doAct g ⟨0, 0, 0, 0, ⟨0, 0, 0, 0, 0, 0, 0, 0⟩, ⟨0, 0, 0, 0, 0⟩⟩ = ({ g with acts := g.acts + 1 }, ⟨4, 0, [], []⟩) := M.doAct_empty rfl hg
theorem in_empty : ActIn ⟨0, 0, 0, 0, ⟨0, 0, 0, 0, 0, 0, 0, 0⟩, ⟨0, 0, 0, 0, 0⟩⟩ := by simp only [ActIn, RowOk, I64]; omega
theorem sr_full {U : World} {base : Nat} {ai am : Option Addr} {ci cm : Nat} (hi : U.ownsRow base 3 1 (.slice ai ([] : List Int).length ci) ([] : List Int).length (([] : List Int).map (Value.int .i64))) (hm : U.ownsRow base 75 2 (.slice am ([] : List M.Pr).length cm) ([] : List M.Pr).length (([] : List M.Pr).flatMap pairL)) :
    Calls Tryz.prog 25 #[.agg #[.int .i64 5, .int .i64 0, .slice ai 0 ci, .slice am 0 cm], .agg #[.int .i64 5, .int .i64 0, .slice none 0 0, .slice none 0 0]] U fun e w' => e = .returned (.bool true) ∧ Below U.heap.size U w' :=
  sameReply_calls (r := ⟨5, 0, [], []⟩) (Lies.mono (Lies.of_owns hi) (Nat.zero_le _)) (Lies.mono (Lies.of_owns hm) (Nat.zero_le _)) (Lies.mono (Lies.of_owns (World.ownsRow_nil U 0 3 1)) (Nat.zero_le _)) (Lies.mono (Lies.of_owns (World.ownsRow_nil U 0 75 2)) (Nat.zero_le _))
theorem GameAt.acts_eq {w : World} {Q : Nat → Prop} {g : Nat} {G H : M.Game} {a : Option Addr} {c : Nat} {sv : Value} {hs : List Value} (h : GameAt w Q g G a c sv hs) (e : G = H) : GameAt w Q g H a c sv hs := e ▸ h
set_option maxHeartbeats 8000000 in
set_option maxRecDepth 100000 in
theorem topEnds_walk (size fall : Int) (l : List M.Act) (x : M.Act) (w : World) {v vx : Value} (hs : I64 size) (hf : I64 fall) (h : ActsAt w 0 v l ∧ ∀ x ∈ l, ActIn x) (hx : vx = actV x ∧ ActIn x) :
    Calls Tryz.prog 11 #[.int .i64 size, .int .i64 fall, v, vx] w fun e w' => e = .returned (.bool true) ∧ Below w.heap.size w w' := by
  obtain ⟨rfl, hxi⟩ := hx
  have hpa : (M.played size fall l).acts = ((min l.length 60 : Nat) : Int) := by
    unfold M.played
    rw [M.playK_acts size fall l (Nat.le_refl _), List.length_take, Nat.min_comm]
  have hlm : l.length ≤ 9223372036854775807 := by have := h.1.max; unfold maxLen at this; omega
  have HP := Lib.hid (fun U (hb : Below w.heap.size w U) => playq_calls (h.1.below hb) h.2 hs hf)
  obtain ⟨av, cv, rfl⟩ := h.1.val
  have GP := Lib.hid (M.played_good size fall l)
  have ha0 := (M.played_acts size fall l).1
  have ha1 := (M.played_acts size fall l).2
  obtain ⟨P, hP⟩ : ∃ P, P = M.played size fall l := ⟨_, rfl⟩
  rw [← hP] at HP GP ha0 ha1
  rw [← hP] at hpa
  obtain ⟨n0, hn0⟩ : ∃ n0, n0 = min l.length 60 := ⟨_, rfl⟩
  rw [← hn0] at hpa
  have hn60 : n0 ≤ 60 := by omega
  have HPA := Lib.hid hpa
  have HN0 := Lib.hid hn0
  have FC := field_code
  clear h hP hpa hn0
  go_enter Tryz.func11, Tryz.ntmps11
  go_upto_region 4 with (go_at_call 23; go_loud (refine (HP.out _ (by repeat first | with_reducible assumption | with_reducible exact Below.refl _ _ | with_reducible apply Below.drew | with_reducible apply below_drewN | with_reducible apply Below.alloc (hB := (by first | omega | (simp; done) | (simp; omega))) | with_reducible apply Below.setCell (hp := (by first | omega | (simp; done) | (simp; omega))))).mono ?_; rintro e w1 ⟨Q1, g1, a1, c1, sv1, hs1, rfl, hg1, hQ1, hb1⟩; have HG1 := Lib.hid hg1; have HQ1 := Lib.hid hQ1; have kz1 := hb1.size; (try simp at kz1); have K1 : Below w.heap.size w w1 := (show Below w.heap.size w _ from (by repeat first | with_reducible assumption | with_reducible exact Below.refl _ _ | with_reducible apply Below.drew | with_reducible apply below_drewN | with_reducible apply Below.alloc (hB := (by first | omega | (simp; done) | (simp; omega))) | with_reducible apply Below.setCell (hp := (by first | omega | (simp; done) | (simp; omega))))).trans (hb1.mono (by first | omega | (simp; done) | (simp; omega))); have kw1 := K1.size; clear hg1 hQ1))
  have b1 : Blk w1 w.heap.size 27 (actC x) := (Blk.new w 27 (actC x)).below hb1 (by simp)
  have HBA := Lib.hid b1
  have emin : min (l.length : Int) 60 = (n0 : Int) := by have := HN0.out; omega
  go_wp2_with fail

  clear b1 emin
  go_loopg [11] (150 - n0) (fun gh i wr => ∃ (k : Nat) (Q : Nat → Prop) (a : Option Addr) (c : Nat) (sv : Value) (hs : List Value), k ≤ 150 ∧ i = .int .i64 k ∧ gh = 150 - k ∧ GameAt wr Q g1 { P with acts := (k : Int) } a c sv hs ∧ (∀ b, Q b → w.heap.size + 1 ≤ b ∧ b < wr.heap.size) ∧ Blk wr w.heap.size 27 (actC x) ∧ Below w.heap.size w wr)
  case atStart => exact ⟨n0, Q1, a1, c1, sv1, hs1, by omega, rfl, rfl, HG1.out.acts_eq (by rw [← HPA.out]), (fun b q => by have := HQ1.out b q; simp at this; exact this), HBA.out, K1⟩
  case round =>
    obtain ⟨wo, hwo⟩ : ∃ wo, wo = wr := ⟨_, rfl⟩
    subst hwo
    obtain ⟨k, Q, a, c, sv, hs, hk, rfl, hgk, hga, hQ, hbA, hb⟩ := hrel
    have HK := Lib.hid hgk
    have HGK := Lib.hid hga
    have HQ := Lib.hid hQ
    have HBA := Lib.hid hbA
    have HB := Lib.hid hb
    have ko := hb.size
    have lbA := hbA.lt
    clear hgk hga hQ hbA hb K1
    have GPK : Hid (M.GoodG { P with acts := (k : Int) }) := Lib.hid ⟨GP.out.w, GP.out.saves⟩
    rcases Nat.lt_or_ge k 150 with hlt | hge
    · have HE3 := Lib.hid (do_calls2 (G' := { P with acts := ((k + 1 : Nat) : Int) }) (r := ⟨4, 0, [], []⟩) HGK.out (fun b q => (HQ.out b q).2) GPK.out (by show (0 : Int) ≤ k; omega) in_empty (M.empty_act (by show (k : Int) < 150; omega)))
      go_wp2_with (go_at_call_of 15 g1; go_loud (refine HE3.out.mono ?_; rintro e w3 ⟨ai3, ci3, am3, cm3, Q3, a3, c3, sv3, hs3, rfl, hg3, hQ3, ho3, hi3, hm3⟩; have HG3 := Lib.hid hg3; have HQ3 := Lib.hid hQ3; have HO3 := Lib.hid ho3; have HI3 := Lib.hid hi3; have HM3 := Lib.hid hm3; have kz3 := ho3.size; (try simp at kz3); clear hg3 hQ3 ho3 hi3 hm3))
      go_roundg (150 - (k + 1))
      case measure => rw [HK.out]; omega
      case rel =>
        refine ⟨k + 1, Q3, a3, c3, sv3, hs3, by omega, by go_num, rfl, HG3.out, (fun b q => ⟨?_, (HQ3.out b q).2.1⟩), HBA.out.only HO3.out (fun q => by have := (HQ.out _ q).1; omega), HB.out.trans (HO3.out.below ko (fun b q => by have := (HQ.out b q).1; omega))⟩
        rcases (HQ3.out b q).1 with k | k
        · exact (HQ.out b k).1
        · omega
    · obtain rfl : k = 150 := by omega
      have hw0 := fun U (hb : Below wo.heap.size wo U) => gworld_calls (HGK.out.below hb) GPK.out
      dsimp only at hw0
      have HW := Lib.hid hw0
      clear hw0
      go_upto_region 10 with (go_at_call_of 13 g1; go_loud (refine (HW.out _ (by repeat first | with_reducible assumption | with_reducible exact Below.refl _ _ | with_reducible apply Below.drew | with_reducible apply below_drewN | with_reducible apply Below.alloc (hB := (by first | omega | (simp; done) | (simp; omega))) | with_reducible apply Below.setCell (hp := (by first | omega | (simp; done) | (simp; omega))))).mono ?_; rintro e w5 ⟨a5, c5, hs5, rfl, ho5, hb5⟩; have HO5 := Lib.hid ho5; have kz5 := hb5.size; (try simp at kz5); have HB5 := Lib.hid hb5; clear ho5))
      refine wp_called (fun W6 hW6 => ?_)
      have B6 : Blk W6 w5.heap.size 33 (worldC (.slice a5 P.w.things.tables.length c5) P.w) := by rw [hW6]; exact Blk.new_at rfl
      have K56 : Below w5.heap.size w5 W6 := by rw [hW6]; exact (by repeat first | with_reducible assumption | with_reducible exact Below.refl _ _ | with_reducible apply Below.drew | with_reducible apply below_drewN | with_reducible apply Below.alloc (hB := (by first | omega | (simp; done) | (simp; omega))) | with_reducible apply Below.setCell (hp := (by first | omega | (simp; done) | (simp; omega))))
      have KO6 : Below wo.heap.size wo W6 := HB5.out.trans (K56.mono kz5)
      have K6 : Below w.heap.size w W6 := HB.out.trans (KO6.mono ko)
      have HG6 := Lib.hid (HGK.out.behind KO6)
      have ko6 := KO6.size
      have kw6 := K6.size
      have lb6 := B6.lt
      have HB6 := Lib.hid B6
      have HBA6 := Lib.hid (HBA.out.below KO6 HBA.out.lt)
      have HST6 : Hid (StoreAt W6 (wo.heap.size + 1) (stV a5 c5 P.w.things) P.w.things) := Lib.hid (HO5.out.at_.below K56)
      have HK6 := Lib.hid K6
      have HE7 := Lib.hid (fun U (hb : Below W6.heap.size W6 U) => do_calls2 (G' := { P with acts := ((150 : Nat) : Int) }) (r := ⟨5, 0, [], []⟩) (HG6.out.below hb) (fun b q => by have := q.2; have := hb.size; omega) GPK.out (by show (0 : Int) ≤ 150; omega) hxi (M.doAct_full x (by show (150 : Int) ≤ 150; omega)))
      have HSD := Lib.hid (fun (V : World) (hV : ∀ b, b < W6.heap.size → ¬ (Q b ∧ b < wo.heap.size) → V.heap[b]? = W6.heap[b]?) (W : World) (hb : Below V.heap.size V W) (hz : W6.heap.size ≤ V.heap.size) => show W.cell? ⟨w.heap.size, 0, none⟩ = some (.int .i64 x.kind) ∧ W.cell? ⟨w.heap.size, 1, none⟩ = some (.int .i64 x.id) ∧ W.cell? ⟨w.heap.size, 2, none⟩ = some (.int .i64 x.n) ∧ W.cell? ⟨w.heap.size, 3, none⟩ = some (.int .i64 x.mask) ∧ W.cell? ⟨w.heap.size, 4, none⟩ = some (.int .i64 x.row.X) ∧ W.cell? ⟨w.heap.size, 5, none⟩ = some (.int .i64 x.row.Y) ∧ W.cell? ⟨w.heap.size, 6, none⟩ = some (.int .i64 x.row.PX) ∧ W.cell? ⟨w.heap.size, 7, none⟩ = some (.int .i64 x.row.PY) ∧ W.cell? ⟨w.heap.size, 8, none⟩ = some (.int .i64 x.row.W) ∧ W.cell? ⟨w.heap.size, 9, none⟩ = some (.int .i64 x.row.H) ∧ W.cell? ⟨w.heap.size, 10, none⟩ = some (.int .i64 x.row.M) ∧ W.cell? ⟨w.heap.size, 11, none⟩ = some (.int .i64 x.row.R) ∧ W.cell? ⟨w.heap.size, 12, none⟩ = some (.int .i64 x.box.id) ∧ W.cell? ⟨w.heap.size, 13, none⟩ = some (.int .i64 x.box.x1) ∧ W.cell? ⟨w.heap.size, 14, none⟩ = some (.int .i64 x.box.y1) ∧ W.cell? ⟨w.heap.size, 15, none⟩ = some (.int .i64 x.box.x2) ∧ W.cell? ⟨w.heap.size, 16, none⟩ = some (.int .i64 x.box.y2) ∧ W.cell? ⟨w5.heap.size, 0, none⟩ = some (.slice a5 P.w.things.tables.length c5) ∧ W.cell? ⟨w5.heap.size, 1, none⟩ = some (.int .i64 P.w.things.next) ∧ W.cell? ⟨w5.heap.size, 2, none⟩ = some (.int .i64 P.w.fall) ∧ W.cell? ⟨w5.heap.size, 3, none⟩ = some (.int .i64 P.w.wide) ∧ W.cell? ⟨w5.heap.size, 4, none⟩ = some (.int .i64 P.w.high) from by
        have z1 : Blk V w.heap.size 27 (actC x) := (hV _ HBA6.out.lt (fun q => by have := (HQ.out _ q.1).1; omega)).trans HBA6.out
        have z2 : Blk V w5.heap.size 33 (worldC (.slice a5 P.w.things.tables.length c5) P.w) := (hV _ HB6.out.lt (fun q => by have := q.2; omega)).trans HB6.out
        have y1 := z1.below hb z1.lt
        have y2 := z2.below hb z2.lt
        exact ⟨y1.cell 0, y1.cell 1, y1.cell 2, y1.cell 3, y1.cell 4, y1.cell 5, y1.cell 6, y1.cell 7, y1.cell 8, y1.cell 9, y1.cell 10, y1.cell 11, y1.cell 12, y1.cell 13, y1.cell 14, y1.cell 15, y1.cell 16, y2.cell 0, y2.cell 1, y2.cell 2, y2.cell 3, y2.cell 4⟩)
      clear hW6 B6 K56 KO6 K6
      obtain ⟨x0, x1, x2, x3, x4, x5, x6, x7, x8, x9, x10, x11, x12, x13, x14, x15, x16, z0, z1, z2, z3, z4⟩ := HSD.out W6 (fun _ _ _ => rfl) W6 (Below.refl _ _) (Nat.le_refl _)
      go_region_held3 (fun W => W.cell? ⟨w.heap.size, 0, none⟩ = some (.int .i64 x.kind) ∧ W.cell? ⟨w.heap.size, 1, none⟩ = some (.int .i64 x.id) ∧ W.cell? ⟨w.heap.size, 2, none⟩ = some (.int .i64 x.n) ∧ W.cell? ⟨w.heap.size, 3, none⟩ = some (.int .i64 x.mask) ∧ W.cell? ⟨w.heap.size, 4, none⟩ = some (.int .i64 x.row.X) ∧ W.cell? ⟨w.heap.size, 5, none⟩ = some (.int .i64 x.row.Y) ∧ W.cell? ⟨w.heap.size, 6, none⟩ = some (.int .i64 x.row.PX) ∧ W.cell? ⟨w.heap.size, 7, none⟩ = some (.int .i64 x.row.PY) ∧ W.cell? ⟨w.heap.size, 8, none⟩ = some (.int .i64 x.row.W) ∧ W.cell? ⟨w.heap.size, 9, none⟩ = some (.int .i64 x.row.H) ∧ W.cell? ⟨w.heap.size, 10, none⟩ = some (.int .i64 x.row.M) ∧ W.cell? ⟨w.heap.size, 11, none⟩ = some (.int .i64 x.row.R) ∧ W.cell? ⟨w.heap.size, 12, none⟩ = some (.int .i64 x.box.id) ∧ W.cell? ⟨w.heap.size, 13, none⟩ = some (.int .i64 x.box.x1) ∧ W.cell? ⟨w.heap.size, 14, none⟩ = some (.int .i64 x.box.y1) ∧ W.cell? ⟨w.heap.size, 15, none⟩ = some (.int .i64 x.box.x2) ∧ W.cell? ⟨w.heap.size, 16, none⟩ = some (.int .i64 x.box.y2) ∧ W.cell? ⟨w5.heap.size, 0, none⟩ = some (.slice a5 P.w.things.tables.length c5) ∧ W.cell? ⟨w5.heap.size, 1, none⟩ = some (.int .i64 P.w.things.next) ∧ W.cell? ⟨w5.heap.size, 2, none⟩ = some (.int .i64 P.w.fall) ∧ W.cell? ⟨w5.heap.size, 3, none⟩ = some (.int .i64 P.w.wide) ∧ W.cell? ⟨w5.heap.size, 4, none⟩ = some (.int .i64 P.w.high)) (first | ((with_reducible refine HSD.out W6 (fun _ _ _ => rfl) _ ?_ (Nat.le_refl _)); (repeat first | with_reducible exact Below.refl _ _ | with_reducible apply Below.drew | with_reducible apply Below.alloc (hB := (by first | omega | (simp; done) | (simp; omega)))); done) | ((with_reducible refine HS7.out _ ?_ (by omega)); (repeat first | with_reducible exact Below.refl _ _ | with_reducible apply Below.drew | with_reducible apply Below.alloc (hB := (by first | omega | (simp; done) | (simp; omega))) | with_reducible refine Below.trans ?_ (Below.mono (B' := w7.heap.size) hb10 (by first | omega | (simp; done) | (simp; omega))) | with_reducible refine Below.trans ?_ (Below.mono (B' := w7.heap.size) hb9 (by first | omega | (simp; done) | (simp; omega))) | with_reducible refine Below.trans ?_ (Below.mono (B' := w7.heap.size) hb8 (by first | omega | (simp; done) | (simp; omega)))); done)) (first | (go_at_call_of 15 g1; refine (HE7.out _ (by repeat first | with_reducible exact Below.refl _ _ | with_reducible apply Below.drew | with_reducible apply Below.alloc (hB := (by first | omega | (simp; done) | (simp; omega)))) ).mono ?_; rintro e w7 ⟨ai7, ci7, am7, cm7, Q7, a7, c7, sv7, hs7, rfl, hg7, hQ7, ho7, hi7, hm7⟩; have HG7 := Lib.hid hg7; have HO7 := Lib.hid ho7; have HI7 := Lib.hid hi7; have HM7 := Lib.hid hm7; have kz7 := ho7.size; (try simp at kz7); have HS7 := Lib.hid (HSD.out w7 (fun b hb hq => ho7.block b hb hq)); have hS7 := HS7.out w7 (Below.refl _ _) (by omega); have HSR := Lib.hid (fun (U : World) (hb : Below w7.heap.size w7 U) => sr_full (own_below hi7 hb) (own_below hm7 hb)); clear hg7 hQ7 ho7 hi7 hm7) | (go_at_call 25; refine (HSR.out _ (by repeat first | with_reducible exact Below.refl _ _ | with_reducible apply Below.drew | with_reducible apply Below.alloc (hB := (by first | omega | (simp; done) | (simp; omega))) | with_reducible refine Below.trans ?_ (Below.mono (B' := w7.heap.size) hb10 (by first | omega | (simp; done) | (simp; omega))) | with_reducible refine Below.trans ?_ (Below.mono (B' := w7.heap.size) hb9 (by first | omega | (simp; done) | (simp; omega))) | with_reducible refine Below.trans ?_ (Below.mono (B' := w7.heap.size) hb8 (by first | omega | (simp; done) | (simp; omega))))).mono ?_; rintro e w8 ⟨rfl, hb8⟩; have hz8 := hb8.size; (try simp at hz8)) | (go_at_call 13; refine (gworld_calls (HG7.out.below (by repeat first | with_reducible exact Below.refl _ _ | with_reducible apply Below.drew | with_reducible apply Below.alloc (hB := (by first | omega | (simp; done) | (simp; omega))) | with_reducible refine Below.trans ?_ (Below.mono (B' := w7.heap.size) hb10 (by first | omega | (simp; done) | (simp; omega))) | with_reducible refine Below.trans ?_ (Below.mono (B' := w7.heap.size) hb9 (by first | omega | (simp; done) | (simp; omega))) | with_reducible refine Below.trans ?_ (Below.mono (B' := w7.heap.size) hb8 (by first | omega | (simp; done) | (simp; omega))))) GPK.out).mono ?_; rintro e w9 ⟨a9, c9, hs9, rfl, ho9, hb9⟩; have HO9 := Lib.hid ho9; have hz9 := hb9.size; (try simp at hz9); clear ho9) | (go_at_call 26; refine (same_calls (d := P.w) (HO9.out.at_.mono (Nat.zero_le _)) (((HST6.out.same (fun g h1 h2 => HO7.out.block g h2 (fun q => by have := q.2; omega))).mono (Nat.zero_le _)).below (by repeat first | with_reducible exact Below.refl _ _ | with_reducible apply Below.drew | with_reducible apply Below.alloc (hB := (by first | omega | (simp; done) | (simp; omega))) | with_reducible refine Below.trans ?_ (Below.mono (B' := w7.heap.size) hb10 (by first | omega | (simp; done) | (simp; omega))) | with_reducible refine Below.trans ?_ (Below.mono (B' := w7.heap.size) hb9 (by first | omega | (simp; done) | (simp; omega))) | with_reducible refine Below.trans ?_ (Below.mono (B' := w7.heap.size) hb8 (by first | omega | (simp; done) | (simp; omega))))) GP.out.w).mono ?_; rintro e w10 ⟨rfl, hb10⟩; have hz10 := hb10.size; (try simp at hz10)))
      all_goals
        go_wp2_with fail
        go_ret
        exact ⟨rfl, (HK6.out.drew.trans (HO7.out.below kw6 (fun b q => by have := (HQ.out b q.1).1; omega))).trans (Below.mono (B' := w.heap.size) (by repeat first | with_reducible exact Below.refl _ _ | with_reducible apply Below.drew | with_reducible apply Below.alloc (hB := (by first | omega | (simp; done) | (simp; omega))) | with_reducible refine Below.trans ?_ (Below.mono (B' := w7.heap.size) hb10 (by first | omega | (simp; done) | (simp; omega))) | with_reducible refine Below.trans ?_ (Below.mono (B' := w7.heap.size) hb9 (by first | omega | (simp; done) | (simp; omega))) | with_reducible refine Below.trans ?_ (Below.mono (B' := w7.heap.size) hb8 (by first | omega | (simp; done) | (simp; omega)))) (by omega))⟩
end Go.Proofs.YtkpecagkpjabdacGreat
