/- Several small texts in one. No condition of its own: each part says its own. -/
import Derived.Test.YtkpecagkpjabdacGreatBagH
import Derived.Test.YtkpecagkpjabdacGreatBagP
import Derived.Test.YtkpecagkpjabdacGreatBagSw
import Derived.Deep.RegionHeld3
import Derived.Test.YtkpecagkpjabdacGreatStoreQuery
import Derived.Test.YtkpecagkpjabdacGreatWorldMeets
/- The contract of the method step of a game. Condition: the game lies in memory and is good. -/
namespace Go.Proofs.YtkpecagkpjabdacGreat
open Go.RowKit
set_option linter.unusedVariables false
set_option linter.unusedSimpArgs false
set_option maxRecDepth 100000
/-- what may be read while step runs: not the reply's box, nor the pairs that have met -/
def QS (Q : Nat → Prop) (w : World) (o : Value) (b : Nat) : Prop := (Q b ∨ w.heap.size ≤ b) ∧ b ≠ w.heap.size ∧ o.ownBlock ≠ some b
set_option maxHeartbeats 8000000 in
set_option maxRecDepth 100000 in
theorem gstep_calls {w : World} {Q : Nat → Prop} {g : Nat} {G : M.Game} {a : Option Addr} {c : Nat} {sv : Value} {hs : List Value} (h : GameAt w Q g G a c sv hs) (hq : ∀ b, Q b → b < w.heap.size) (hG : M.GoodG G) (n : Int) :
    Calls Tryz.prog 37 #[.pointer (some ⟨g, 0, none⟩), .int .i64 n] w (DoPost Q w g (M.stepG G n).1 (M.stepG G n).2) := by
  have HG0 := Lib.hid h
  have HQ := Lib.hid hq
  have lg := h.blk.lt
  have ng1 : ¬ g = w.heap.size := by omega
  have ng2 : ¬ w.heap.size = g := by omega
  clear h hq
  rcases (show n < 1 ∨ (¬ n < 1 ∧ 8 < n) ∨ (¬ n < 1 ∧ ¬ 8 < n) by omega) with hn | ⟨hn, hn8⟩ | ⟨hn, hn8⟩
  · rw [show M.stepG G n = (G, M.no 2) by unfold M.stepG; rw [if_pos (.inl hn)]]
    go_enter Tryz.func37, Tryz.ntmps37
    go_wp2
    refine bodyPost_ret (results_cell_row rfl _ _ _ _ _ _ _ rfl (heap_alloc_new w _) Tryz.underlying40 rfl (by kernel_rfl)) rfl ?_
    exact ⟨a, c, sv, hs, .slice none 0 0, .slice none 0 0, rfl, (HG0.out.below ((Below.refl _ w).alloc (Nat.le_refl _) _)).wide (fun b _ k => ⟨.inl k, (fun e => by cases e), fun e => by cases e⟩), (Only.refl Q w).alloc _, World.ownsRow_nil _ _ _ _, World.ownsRow_nil _ _ _ _⟩
  · rw [show M.stepG G n = (G, M.no 2) by unfold M.stepG; rw [if_pos (.inr hn8)]]
    go_enter Tryz.func37, Tryz.ntmps37
    go_wp2
    refine bodyPost_ret (results_cell_row rfl _ _ _ _ _ _ _ rfl (heap_alloc_new w _) Tryz.underlying40 rfl (by kernel_rfl)) rfl ?_
    exact ⟨a, c, sv, hs, .slice none 0 0, .slice none 0 0, rfl, (HG0.out.below ((Below.refl _ w).alloc (Nat.le_refl _) _)).wide (fun b _ k => ⟨.inl k, (fun e => by cases e), fun e => by cases e⟩), (Only.refl Q w).alloc _, World.ownsRow_nil _ _ _ _, World.ownsRow_nil _ _ _ _⟩
  · obtain ⟨N, rfl⟩ : ∃ N : Nat, n = (N : Int) := ⟨n.toNat, by omega⟩
    obtain ⟨dF, lF, hF⟩ : ∃ d l, M.stepN N (G.w, []) = (d, l) := ⟨_, _, rfl⟩
    rw [show M.stepG G (N : Int) = ({ G with w := dF }, ⟨0, lF.length, [], lF⟩) by unfold M.stepG; rw [if_neg (by omega), show (N : Int).toNat = N by omega, hF]]
    have HF := Lib.hid hF
    have HGW := Lib.hid hG.w
    obtain ⟨i0, hi, hz0, hz1, hz2⟩ := info_parts infoPair
    clear hF hG
    go_enter Tryz.func37, Tryz.ntmps37
    go_wp2_with fail
    go_loopg [5, 17] N (fun gh o i wr => ∃ (k : Nat) (d : M.Wd) (l : List M.Pr) (a : Option Addr) (c : Nat), k ≤ N ∧ i = .int .i64 k ∧ gh = N - k ∧ M.stepN k (G.w, []) = (d, l) ∧ l.length ≤ 45 * k ∧ GameAt wr (QS Q w o) g { G with w := d } a c sv hs ∧ Only Q w wr ∧ Blk wr w.heap.size 40 #[.int .i64 0, .int .i64 0, .slice none 0 0, .slice none 0 0] ∧ wr.ownsRow (w.heap.size + 1) 75 2 o l.length (l.flatMap pairL))
    case atStart =>
      exact ⟨0, G.w, [], a, c, Nat.zero_le _, rfl, rfl, rfl, Nat.le_refl _, (HG0.out.below ((Below.refl _ w).alloc (Nat.le_refl _) _)).wide (fun b _ k => ⟨.inl k, (by have := HQ.out b k; omega), fun e => by cases e⟩), (Only.refl Q w).alloc _, Blk.new_at rfl, World.ownsRow_nil _ _ _ _⟩
    case round =>
      obtain ⟨wo, hwo⟩ : ∃ wo, wo = wr := ⟨_, rfl⟩
      subst hwo
      obtain ⟨k, d, l, ao, co, hk, rfl, hgk, hst, hl, hga, hon, hb4, how⟩ := hrel
      obtain ⟨vo, vc, rfl⟩ := own_form how
      have HK := Lib.hid hgk
      have HST := Lib.hid hst
      have HGA := Lib.hid hga
      have HON := Lib.hid hon
      have HB4 := Lib.hid hb4
      have HOW := Lib.hid how
      have kwo : w.heap.size < wo.heap.size := hb4.lt
      clear hgk hst hga hon hb4 how
      rcases Nat.lt_or_ge k N with hlt | hge
      · have gd : M.GoodWd d := by
          have := (M.stepN_good k (G.w, []) HGW.out).1
          rw [HST.out] at this
          exact this
        obtain ⟨d5, l5, c5k, hs5⟩ : ∃ d' l' k, M.step d = (d', l', k) := ⟨_, _, _, rfl⟩
        have hk0 := (M.step_kept gd).1
        have hf5 := M.step_few gd
        rw [hs5] at hk0 hf5
        simp only at hk0 hf5
        subst hk0
        have HLAST : Hid (M.stepN (k + 1) (G.w, []) = (d5, l ++ l5)) := Lib.hid (by rw [M.stepN_last, HST.out]; simp only [hs5])
        have HSP := Lib.hid (fun U (hb : Below wo.heap.size wo U) => step_calls2 (P := InG (QS Q w (.slice vo l.length vc)) g sv) (a := ao) (c := co) (d := d) (HGA.out.st.step hb.size (fun b h1 _ => hb.block b h1)) (good_in gd.things) hs5)
        have g0 := HGA.out.blk.cell 0
        have g1 := HGA.out.blk.cell 1
        have g2 := HGA.out.blk.cell 2
        have g3 := HGA.out.blk.cell 3
        have g4 := HGA.out.blk.cell 4
        simp at g0 g1 g2 g3 g4
        have lgo := HGA.out.blk.lt
        clear gd hs5
        go_upto_region 7 with (go_at_call 66; go_loud (refine (HSP.out _ (by repeat first | with_reducible assumption | with_reducible exact Below.refl _ _ | with_reducible apply Below.drew | with_reducible apply below_drewN | with_reducible apply Below.alloc (hB := (by first | omega | (simp; done) | (simp; omega))) | with_reducible apply Below.setCell (hp := (by first | omega | (simp; done) | (simp; omega))))).mono ?_; rintro e w5 ⟨a5, c5, v5, rfl, hr5, ho5, hb5⟩; obtain ⟨v5a, v5c, rfl⟩ := own_form ho5; have HR5 := Lib.hid hr5; have HO5 := Lib.hid ho5; have K5 := hb5; have hz5 := hb5.size; clear hr5 ho5))
        refine wp_called (fun W2 hW2 => ?_)
        have K2 : Below wo.heap.size wo W2 := by rw [hW2]; exact (by repeat first | with_reducible assumption | with_reducible exact Below.refl _ _ | with_reducible apply Below.drew | with_reducible apply below_drewN | with_reducible apply Below.alloc (hB := (by first | omega | (simp; done) | (simp; omega))) | with_reducible apply Below.setCell (hp := (by first | omega | (simp; done) | (simp; omega))))
        have K52 : Below w5.heap.size w5 W2 := by rw [hW2]; exact (by repeat first | with_reducible assumption | with_reducible exact Below.refl _ _ | with_reducible apply Below.drew | with_reducible apply below_drewN | with_reducible apply Below.alloc (hB := (by first | omega | (simp; done) | (simp; omega))) | with_reducible apply Below.setCell (hp := (by first | omega | (simp; done) | (simp; omega))))
        have b6 : Blk W2 w5.heap.size 33 #[.slice a5 d5.things.tables.length c5, .int .i64 d5.things.next, .int .i64 d5.fall, .int .i64 d5.wide, .int .i64 d5.high] := by rw [hW2]; exact Blk.new_at rfl
        have HB6 := Lib.hid b6
        have HK2 := Lib.hid K2
        have HGA2 := Lib.hid (HGA.out.below K2)
        have HOW2 := Lib.hid (own_below HOW.out K2)
        have HO52 := Lib.hid (own_below HO5.out K52)
        have HR52 := Lib.hid (HR5.out.step K52.size (fun b h1 _ => K52.block b h1))
        have kz2 := K2.size
        have l62 := b6.lt
        have CS := Lib.hid (fun W (hb : Below W2.heap.size W2 W) => show W.cell? ⟨w5.heap.size, 0, none⟩ = some (.slice a5 d5.things.tables.length c5) ∧ W.cell? ⟨w5.heap.size, 1, none⟩ = some (.int .i64 d5.things.next) ∧ W.cell? ⟨w5.heap.size, 2, none⟩ = some (.int .i64 d5.fall) ∧ W.cell? ⟨w5.heap.size, 3, none⟩ = some (.int .i64 d5.wide) ∧ W.cell? ⟨w5.heap.size, 4, none⟩ = some (.int .i64 d5.high) from by
          have b := HB6.out.below hb HB6.out.lt
          exact ⟨b.cell 0, b.cell 1, b.cell 2, b.cell 3, b.cell 4⟩)
        have hob : ∀ b, (Value.slice vo l.length vc).ownBlock = some b → w.heap.size + 1 ≤ b ∧ b < wo.heap.size := fun b e => HOW.out.lt b e
        have HOB := Lib.hid hob
        have HFAR : Hid (∀ (U : World) (i j : Nat) (u : Value), (U.setCell ⟨g, i, none⟩ u).cell? ⟨w5.heap.size, j, none⟩ = U.cell? ⟨w5.heap.size, j, none⟩) := Lib.hid (fun U i j u => World.cell?_setCell_far _ _ _ _ (by show g ≠ w5.heap.size; omega))
        have HF9 := Lib.hid (fun (U : World) (hU : W2.drew.grownBy U (Value.slice vo l.length vc).ownBlock) => show (U.cell? ⟨w5.heap.size, 0, none⟩ = some (.slice a5 d5.things.tables.length c5) ∧ U.cell? ⟨w5.heap.size, 1, none⟩ = some (.int .i64 d5.things.next) ∧ U.cell? ⟨w5.heap.size, 2, none⟩ = some (.int .i64 d5.fall) ∧ U.cell? ⟨w5.heap.size, 3, none⟩ = some (.int .i64 d5.wide) ∧ U.cell? ⟨w5.heap.size, 4, none⟩ = some (.int .i64 d5.high)) ∧ U.cell? ⟨g, 0, none⟩ = some (.slice ao d.things.tables.length co) ∧ U.cell? ⟨g, 1, none⟩ = some (.int .i64 d.things.next) ∧ U.cell? ⟨g, 2, none⟩ = some (.int .i64 d.fall) ∧ U.cell? ⟨g, 3, none⟩ = some (.int .i64 d.wide) ∧ U.cell? ⟨g, 4, none⟩ = some (.int .i64 d.high) ∧ (∀ i, U.frozen? ⟨g, i, none⟩ = false) ∧ g < U.heap.size from by
          have b := Blk.grown HB6.out.drew hU (fun e => by have := hob _ e; omega)
          have bg := Blk.grown HGA2.out.blk.drew hU (fun e => by have := hob _ e; omega)
          exact ⟨⟨b.cell 0, b.cell 1, b.cell 2, b.cell 3, b.cell 4⟩, bg.cell 0, bg.cell 1, bg.cell 2, bg.cell 3, bg.cell 4, fun i => bg.free i, bg.lt⟩)
        clear hW2 K2 K52 b6 K5 hb5 g0 g1 g2 g3 g4 HSP hob
        go_region_held3 (fun W => W.cell? ⟨w5.heap.size, 0, none⟩ = some (.slice a5 d5.things.tables.length c5) ∧ W.cell? ⟨w5.heap.size, 1, none⟩ = some (.int .i64 d5.things.next) ∧ W.cell? ⟨w5.heap.size, 2, none⟩ = some (.int .i64 d5.fall) ∧ W.cell? ⟨w5.heap.size, 3, none⟩ = some (.int .i64 d5.wide) ∧ W.cell? ⟨w5.heap.size, 4, none⟩ = some (.int .i64 d5.high)) (first | (with_reducible exact CS.out _ (Below.refl _ _)) | (with_reducible exact CS.out _ (Below.refl _ _).drew) | (with_reducible exact hS9) | (simp only [HFAR.out]; with_reducible exact hS9)) ((refine step_append_own_any2 (by rfl) rfl (.tmp 30) (.tmp 31) 38 rfl (w.heap.size + 1) 75 i0 _ 2 16 Tryz.underlying38 hi hz0 hz1 hz2 rfl (by omega) _ l.length _ (show W2.drew.ownsRow _ _ _ _ _ _ from HOW2.out) (by rfl) _ wo.heap.size l5.length _ (show W2.drew.ownsRow _ _ _ _ _ _ from HO52.out) (by rfl) (pairs_one l5) (by unfold maxLen; omega) (by omega) (by show w.heap.size + 1 ≤ W2.heap.size; omega) ?_; intro v9 w9 hown9 hg9 hat9; have HO9 := Lib.hid hown9; have HG9 := Lib.hid hg9; have HA9 := Lib.hid hat9; obtain ⟨hS9, gg0, gg1, gg2, gg3, gg4, ggf, ggl⟩ := HF9.out _ hg9; clear hown9 hg9 hat9))
        all_goals
          go_wp2_with fail
          go_roundg (N - (k + 1))
          case measure => rw [HK.out]; omega
          case rel =>
            have far : ∀ (c0 c1 c2 c3 c4 : Value) b, b ≠ g → (((((w9.setCell ⟨g, 0, none⟩ c0).setCell ⟨g, 1, none⟩ c1).setCell ⟨g, 2, none⟩ c2).setCell ⟨g, 3, none⟩ c3).setCell ⟨g, 4, none⟩ c4).heap[b]? = w9.heap[b]? := fun c0 c1 c2 c3 c4 b hb =>
              ((((Below.heap_setCell _ _ _ b hb).trans (Below.heap_setCell _ _ _ b hb)).trans (Below.heap_setCell _ _ _ b hb)).trans (Below.heap_setCell _ _ _ b hb)).trans (Below.heap_setCell _ _ _ b hb)
            have old : ∀ b, b < W2.heap.size → (Value.slice vo l.length vc).ownBlock ≠ some b → w9.heap[b]? = W2.heap[b]? := fun b h1 h2 => HG9.out.block b h1 (fun e => h2 e.symm)
            have hz9 : W2.heap.size ≤ w9.heap.size := HG9.out.size
            have hO2 : Only Q w W2 := HON.out.more HK2.out
            have hO9 : Only Q w w9 := ⟨HG9.out.os.trans hO2.os, HG9.out.tape.trans hO2.tape, HG9.out.output.trans hO2.output, Nat.le_trans hO2.size HG9.out.size, fun b hb hq => (old b (by omega) (fun e => by have := HOB.out b e; omega)).trans (hO2.block b hb hq)⟩
            have bg9 := Blk.grown HGA2.out.blk.drew HG9.out (fun e => by have := HOB.out _ e; omega)
            refine ⟨k + 1, d5, l ++ l5, a5, c5, by omega, by go_num, rfl, HLAST.out, by rw [List.length_append]; omega, ?_, ?_, ?_, ?_⟩
            · have h1 : GameAt wo (fun b => QS Q w (.slice vo l.length vc) b ∧ b < W2.heap.size) g { G with w := d } ao co sv hs := HGA.out.wide (fun b hb q => ⟨q, by omega⟩)
              refine (h1.upd (G' := { G with w := d5 }) (a' := a5) (c' := c5) (by simp [World.setCell]; omega) (fun b hb q hne => (far _ _ _ _ _ b hne).trans ((old b (by omega) q.1.2.2).trans (HK2.out.block b hb))) (blk_to (((((bg9.put 0 _).put 1 _).put 2 _).put 3 _).put 4 _) (by rfl)) rfl ?_).wide (fun b _ q => ⟨q.1.1, q.1.2.1, fun e => ?_⟩)
              · refine (HR52.out.wide (R := InG (fun b => QS Q w (.slice vo l.length vc) b ∧ b < W2.heap.size) g sv) (fun b hb q => ?_)).step (by simp [World.setCell]; omega) (fun b hb q => (far _ _ _ _ _ b q.2.1).trans (old b hb q.1.1.2.2))
                rcases q.1 with k | k
                · exact ⟨⟨k.1, hb⟩, k.2⟩
                · exact ⟨⟨⟨.inr (by omega), by omega, fun e => by have := HOB.out b e; omega⟩, hb⟩, by omega, fun e => by have := (HGA.out.own.lt b e).2; omega⟩
              · rcases HA9.out with k | k
                · exact q.1.2.2 (k ▸ e)
                · rw [k] at e
                  simp only [Option.some.injEq] at e
                  have : W2.drew.heap.size = W2.heap.size := rfl
                  have := q.2
                  omega
            · exact ((((hO9.setCell (.inl HG0.out.inQ) _).setCell (.inl HG0.out.inQ) _).setCell (.inl HG0.out.inQ) _).setCell (.inl HG0.out.inQ) _).setCell (.inl HG0.out.inQ) _
            · exact (((((Blk.grown (HB4.out.below HK2.out HB4.out.lt).drew HG9.out (fun e => by have := HOB.out _ e; omega)).far ng2 _).far ng2 _).far ng2 _).far ng2 _).far ng2 _
            · rw [List.length_append, List.flatMap_append]
              exact own_same HO9.out (fun b e => far _ _ _ _ _ b (by have := (HO9.out.lt b e).1; omega))
      · obtain rfl : k = N := by omega
        obtain ⟨rfl, rfl⟩ : d = dF ∧ l = lF := by
          have := HST.out.symm.trans HF.out
          simpa using this
        have q9 : decide ((k : Int) < (k : Int)) = false := decide_eq_false (by omega)
        have y0 := HB4.out.cell 0
        have y1 := HB4.out.cell 1
        have y2 := HB4.out.cell 2
        have y3 := HB4.out.cell 3
        have yf := fun i => HB4.out.free i
        simp at y0 y1 y2 y3
        go_wp2_with fail
        refine bodyPost_ret (results_cell_row rfl _ _ _ _ _ _ _ rfl (reply_blk HB4.out _ _ _ _) Tryz.underlying40 rfl (by kernel_rfl)) rfl ?_
        have far : ∀ (c0 c1 c2 c3 : Value) b, b ≠ w.heap.size → ((((wo.setCell ⟨w.heap.size, 0, none⟩ c0).setCell ⟨w.heap.size, 1, none⟩ c1).setCell ⟨w.heap.size, 2, none⟩ c2).setCell ⟨w.heap.size, 3, none⟩ c3).heap[b]? = wo.heap[b]? := fun c0 c1 c2 c3 b hb =>
          (((Below.heap_setCell _ _ _ b hb).trans (Below.heap_setCell _ _ _ b hb)).trans (Below.heap_setCell _ _ _ b hb)).trans (Below.heap_setCell _ _ _ b hb)
        exact ⟨ao, co, sv, hs, .slice none 0 0, .slice vo l.length vc, rfl, (HGA.out.keep (by simp [World.setCell]) (fun b _ q => far _ _ _ _ b q.2.1)).wide (fun b _ q => ⟨q.1, (fun e => by cases e), q.2.2⟩), (((HON.out.setCell (.inr (Nat.le_refl _)) _).setCell (.inr (Nat.le_refl _)) _).setCell (.inr (Nat.le_refl _)) _).setCell (.inr (Nat.le_refl _)) _, World.ownsRow_nil _ _ _ _, own_lower (own_same HOW.out (fun b e => far _ _ _ _ b (by have := (HOW.out.lt b e).1; omega))) (by omega)⟩
end Go.Proofs.YtkpecagkpjabdacGreat
/- The contract of sweep.Look. Condition: the boxes lie in memory, their numbers are of 64 bits, they are at most 1048576. -/
namespace Go.Proofs.YtkpecagkpjabdacGreat
open Go.RowKit
set_option linter.unusedVariables false
set_option linter.unusedSimpArgs false
set_option maxRecDepth 100000
def M.seen (l : List M.Box) (b : M.Box) : List Int := (l.filter fun a => M.meetB a b).map (·.id)
theorem M.seen_step {l : List M.Box} {n : Nat} {A : M.Box} (b : M.Box) (h : l[n]? = some A) : M.seen (l.take (n + 1)) b = M.seen (l.take n) b ++ (if M.meetB A b = true then [A.id] else []) := by
  unfold M.seen
  rw [List.take_add_one, h, List.filter_append, List.map_append]
  simp only [Option.toList_some, List.filter_cons, List.filter_nil]
  split <;> rfl
theorem M.seen_len (l : List M.Box) (b : M.Box) (n : Nat) : (M.seen (l.take n) b).length ≤ n := by
  unfold M.seen
  rw [List.length_map]
  exact Nat.le_trans (List.length_filter_le _ _) (List.length_take_le _ _)
set_option maxHeartbeats 4000000 in
set_option maxRecDepth 100000 in
theorem look_calls {w : World} {lo : Nat} {v : Value} {l : List M.Box} (h : BoxesAt5 w lo v l) (hin : ∀ b ∈ l, BoxIn b) (hl : l.length ≤ 1048576) (b : M.Box) :
    Calls Tryz.prog 38 #[v, boxV b] w fun e w' => ∃ v', e = .returned v' ∧ w'.ownsRow w.heap.size 3 1 v' (M.lookB l b).length ((M.lookB l b).map (Value.int .i64)) ∧ Below w.heap.size w w' := by
  have HGD := Lib.hid (fun W (hb : Below w.heap.size w W) => goodB_calls (h.below hb) hin)
  have HBX := Lib.hid h
  obtain ⟨av, cv, rfl⟩ := h.val
  obtain ⟨i0, hi, hz0, hz1, hz2⟩ := info_parts infoInt
  have HI := Lib.hid (And.intro hi (And.intro hz0 (And.intro hz1 hz2)))
  have hlm : l.length ≤ 9223372036854775807 := by omega
  obtain ⟨q, hq⟩ : ∃ q, M.goodB l = q := ⟨_, rfl⟩
  rw [hq] at HGD
  have HQ := Lib.hid hq
  clear h hin hi hz0 hz1 hz2 hq
  cases q
  · have e : M.lookB l b = [] := by unfold M.lookB; rw [HQ.out]; rfl
    rw [e]
    go_enter Tryz.func38, Tryz.ntmps38
    go_wp2_with (go_at_call 67; go_loud (refine (HGD.out _ (by repeat first | with_reducible assumption | with_reducible exact Below.refl _ _ | with_reducible apply Below.drew | with_reducible apply below_drewN | with_reducible apply Below.alloc (hB := (by first | omega | (simp; done) | (simp; omega))) | with_reducible apply Below.setCell (hp := (by first | omega | (simp; done) | (simp; omega))))).mono ?_; rintro e w1 ⟨rfl, hb1⟩; have K1 : Below w.heap.size w w1 := (show Below w.heap.size w _ from (by repeat first | with_reducible assumption | with_reducible exact Below.refl _ _ | with_reducible apply Below.drew | with_reducible apply below_drewN | with_reducible apply Below.alloc (hB := (by first | omega | (simp; done) | (simp; omega))) | with_reducible apply Below.setCell (hp := (by first | omega | (simp; done) | (simp; omega))))).trans (hb1.mono (by first | omega | (simp; done) | (simp; omega))); have kz1 := K1.size; have hz1 := hb1.size; (try simp at hz1); have bb1 : Blk w1 w.heap.size 25 (boxC b) := (Blk.new w 25 (boxC b)).below hb1 (by simp)))
    go_ret
    exact ⟨_, rfl, World.ownsRow_nil _ _ _ _, K1⟩
  · have HLK : Hid (M.lookB l b = (M.seen l b).mergeSort (fun a b => decide (a ≤ b))) := Lib.hid (by unfold M.lookB; rw [HQ.out]; rfl)
    obtain ⟨lk, hlk⟩ : ∃ k, M.lookB l b = k := ⟨_, rfl⟩
    rw [hlk]
    have HLN := Lib.hid hlk
    clear hlk
    go_enter Tryz.func38, Tryz.ntmps38
    go_wp2_with (go_at_call 67; go_loud (refine (HGD.out _ (by repeat first | with_reducible assumption | with_reducible exact Below.refl _ _ | with_reducible apply Below.drew | with_reducible apply below_drewN | with_reducible apply Below.alloc (hB := (by first | omega | (simp; done) | (simp; omega))) | with_reducible apply Below.setCell (hp := (by first | omega | (simp; done) | (simp; omega))))).mono ?_; rintro e w1 ⟨rfl, hb1⟩; have K1 : Below w.heap.size w w1 := (show Below w.heap.size w _ from (by repeat first | with_reducible assumption | with_reducible exact Below.refl _ _ | with_reducible apply Below.drew | with_reducible apply below_drewN | with_reducible apply Below.alloc (hB := (by first | omega | (simp; done) | (simp; omega))) | with_reducible apply Below.setCell (hp := (by first | omega | (simp; done) | (simp; omega))))).trans (hb1.mono (by first | omega | (simp; done) | (simp; omega))); have kz1 := K1.size; have hz1 := hb1.size; (try simp at hz1); have bb1 : Blk w1 w.heap.size 25 (boxC b) := (Blk.new w 25 (boxC b)).below hb1 (by simp)))
    have HB1 := Lib.hid bb1
    have HK1 := Lib.hid K1
    clear K1 hb1 bb1
    go_loopg [5, 13] l.length (fun g o i wr => ∃ n : Nat, n ≤ l.length ∧ i = .int .i64 n ∧ g = l.length - n ∧ wr.ownsRow w.heap.size 3 1 o (M.seen (l.take n) b).length ((M.seen (l.take n) b).map (Value.int .i64)) ∧ Below w.heap.size w wr ∧ Blk wr w.heap.size 25 (boxC b) ∧ (∀ k, o.ownBlock = some k → w.heap.size < k))
    case atStart => exact ⟨0, Nat.zero_le _, rfl, rfl, World.ownsRow_nil _ _ _ _, HK1.out, HB1.out, fun k e => by cases e⟩
    case round =>
      obtain ⟨wo, hwo⟩ : ∃ wo, wo = wr := ⟨_, rfl⟩
      subst hwo
      obtain ⟨n, hn, rfl, hgk, ho, hb, hbb, hov⟩ := hrel
      have HB := Lib.hid hb
      have HK := Lib.hid hgk
      have HO := Lib.hid ho
      have HBB := Lib.hid hbb
      have HOV := Lib.hid hov
      have kzo := hb.size
      have lbb := hbb.lt
      clear hgk ho hov
      rcases Nat.lt_or_ge n l.length with hlt | hge
      · obtain ⟨A, hA⟩ : ∃ A, l[n]? = some A := ⟨_, List.getElem?_eq_getElem hlt⟩
        obtain ⟨b1, o1, c1, e1, _, i0', i1, i2, i3, i4⟩ := (HBX.out.below HB.out).at5 hA
        obtain ⟨rfl, rfl⟩ : av = some ⟨b1, o1, none⟩ ∧ cv = c1 := by simpa using e1
        have y0 := hbb.cell 0
        have y1 := hbb.cell 1
        have y2 := hbb.cell 2
        have y3 := hbb.cell 3
        have y4 := hbb.cell 4
        simp at y0 y1 y2 y3 y4
        have HS := Lib.hid (M.seen_step b hA)
        have HL : Hid ((M.seen (l.take n) b).length + 1 ≤ 1048577) := Lib.hid (by have := M.seen_len l b n; omega)
        have HME := Lib.hid (fun U => meetB_calls A b U)
        clear e1 hA hb hbb
        cases hm : M.meetB A b
        · rw [hm] at HME HS
          clear hm
          go_wp2_with (go_at_call 68; go_loud (refine (HME.out _).mono ?_; rintro e w6 ⟨rfl, hb6⟩; have K6 : Below wo.heap.size wo w6 := (show Below wo.heap.size wo _ from (by repeat first | with_reducible assumption | with_reducible exact Below.refl _ _ | with_reducible apply Below.drew | with_reducible apply below_drewN | with_reducible apply Below.alloc (hB := (by first | omega | (simp; done) | (simp; omega))) | with_reducible apply Below.setCell (hp := (by first | omega | (simp; done) | (simp; omega))))).trans (hb6.mono (by first | omega | (simp; done) | (simp; omega))); have kz6 := K6.size; have hz6 := hb6.size; (try simp at hz6); have ba6 : Blk w6 wo.heap.size 25 (boxC A) := (Blk.new wo 25 (boxC A)).below hb6 (by simp); have aq0 := ba6.cell 0; simp at aq0; have la6 := ba6.lt))
          go_roundg (l.length - (n + 1))
          case measure => rw [HK.out]; omega
          case rel =>
            have K6' : Below wo.heap.size wo _ := K6
            refine ⟨n + 1, by omega, by go_num, rfl, ?_, HB.out.trans (K6.mono kzo), HBB.out.below K6 HBB.out.lt, HOV.out⟩
            rw [HS.out]
            simpa using own_below HO.out K6
        · rw [hm] at HME HS
          clear hm
          go_wp2_with (first | (go_at_call 68; go_loud (refine (HME.out _).mono ?_; rintro e w6 ⟨rfl, hb6⟩; have K6 : Below wo.heap.size wo w6 := (show Below wo.heap.size wo _ from (by repeat first | with_reducible assumption | with_reducible exact Below.refl _ _ | with_reducible apply Below.drew | with_reducible apply below_drewN | with_reducible apply Below.alloc (hB := (by first | omega | (simp; done) | (simp; omega))) | with_reducible apply Below.setCell (hp := (by first | omega | (simp; done) | (simp; omega))))).trans (hb6.mono (by first | omega | (simp; done) | (simp; omega))); have kz6 := K6.size; have hz6 := hb6.size; (try simp at hz6); have ba6 : Blk w6 wo.heap.size 25 (boxC A) := (Blk.new wo 25 (boxC A)).below hb6 (by simp); have aq0 := ba6.cell 0; simp at aq0; have la6 := ba6.lt)) | (at_builtin; refine wpList_append_own_at _ rfl (.tmp 20) (.tmp 23) _ rfl w.heap.size 3 i0 _ 1 8 Tryz.underlying37 HI.out.1 HI.out.2.1 HI.out.2.2.1 HI.out.2.2.2 rfl (by omega) _ _ _ rfl (own_below HO.out (show Below wo.heap.size wo _ from (by repeat first | with_reducible assumption | with_reducible exact Below.refl _ _ | with_reducible apply Below.drew | with_reducible apply below_drewN | with_reducible apply Below.alloc (hB := (by first | omega | (simp; done) | (simp; omega))) | with_reducible apply Below.setCell (hp := (by first | omega | (simp; done) | (simp; omega)))))) ⟨w6.heap.size, 0, none⟩ 1 1 [.int .i64 A.id] rfl rfl (by intro j u hu; match j, hu with | 0, hu => (simp at hu; subst hu; rw [Addr.add_lit]; simp) | j + 1, hu => simp at hu) (by intro u hu; simp at hu; subst hu; rfl) (by have := HL.out; unfold maxLen; omega) (by have := HL.out; omega) (by simp; omega) ?_; intro v9 w9 hown9 hg9 _ hat9; have HO9 := Lib.hid hown9; have HB9 : Hid (Below w.heap.size w w9) := Lib.hid ((HB.out.trans ((show Below wo.heap.size wo _ from (by repeat first | with_reducible assumption | with_reducible exact Below.refl _ _ | with_reducible apply Below.drew | with_reducible apply below_drewN | with_reducible apply Below.alloc (hB := (by first | omega | (simp; done) | (simp; omega))) | with_reducible apply Below.setCell (hp := (by first | omega | (simp; done) | (simp; omega))))).mono kzo)).grown hg9 (by simp; omega) (fun k hk => (HO.out.lt k hk).1)); have HG9 := Lib.hid hg9; have HA9 := Lib.hid hat9; clear hown9 hg9 hat9))
          go_roundg (l.length - (n + 1))
          case measure => rw [HK.out]; omega
          case rel =>
            refine ⟨n + 1, by omega, by go_num, rfl, ?_, HB9.out, ?_, ?_⟩
            · have := HO9.out
              rw [HS.out]
              simpa using this
            · have bb := (HBB.out.below K6 HBB.out.lt).alloc (.cells #[Value.int IntKind.i64 A.id] 3)
              exact (HG9.out.block _ bb.lt (fun e => by have := HOV.out _ e.symm; omega)).trans bb
            · intro k e
              rcases HA9.out with q | q
              · exact HOV.out k (q ▸ e)
              · rw [q] at e
                simp at e
                omega
      · obtain rfl : n = l.length := by omega
        rw [List.take_length] at HO
        have hsl : (M.seen l b).length ≤ 1048576 := by have := M.seen_len l b l.length; rw [List.take_length] at this; omega
        have HSO := Lib.hid (sort_own HO.out (by omega) kzo)
        have q9 : decide ((l.length : Int) < (l.length : Int)) = false := decide_eq_false (by omega)
        clear hsl hb hbb
        go_wp2_with (go_at_call 69; go_loud (refine HSO.out.mono ?_; rintro e w5 ⟨rfl, ho5, hb5⟩))
        go_ret
        refine ⟨_, rfl, ?_, HB.out.trans hb5⟩
        rw [← HLN.out, HLK.out]
        simpa using ho5
end Go.Proofs.YtkpecagkpjabdacGreat
/- The contract of Do for acts that look. Condition: the game lies in memory and is good. -/
namespace Go.Proofs.YtkpecagkpjabdacGreat
open Go.RowKit
set_option linter.unusedVariables false
set_option linter.unusedSimpArgs false
set_option maxRecDepth 100000
set_option maxHeartbeats 8000000 in
set_option maxRecDepth 100000 in
theorem do_look {w : World} {Q : Nat → Prop} {g : Nat} {G : M.Game} {a : Option Addr} {c : Nat} {sv : Value} {hs : List Value} (h : GameAt w Q g G a c sv hs) (hq : ∀ b, Q b → b < w.heap.size) (hG : M.GoodG G) (kind id n mask : Int) (row : M.Row) (box : M.Box) (hk : kind = 9) (h0 : 0 ≤ G.acts) (hlt : G.acts < 150) (hx : ActIn ⟨kind, id, n, mask, row, box⟩) :
    Calls Tryz.prog 15 #[.pointer (some ⟨g, 0, none⟩), actV ⟨kind, id, n, mask, row, box⟩] w (DoPost Q w g (M.doAct G ⟨kind, id, n, mask, row, box⟩).1 (M.doAct G ⟨kind, id, n, mask, row, box⟩).2) := by
  have hres : M.doAct G ⟨kind, id, n, mask, row, box⟩ = (more G, ⟨0, 0, M.lookB (M.boxes G.w.things) box, []⟩) := by
    unfold M.doAct
    rw [if_neg (by omega)]
    simp only
    rw [if_neg (by omega), if_neg (by omega), if_neg (by omega), if_neg (by omega), if_neg (by omega), if_neg (by omega), if_neg (by omega), if_pos hk]
  rw [hres]
  subst hk
  clear hres
  have HGS := Lib.hid hG.w.things
  obtain ⟨lk, hlk⟩ : ∃ k, M.lookB (M.boxes G.w.things) box = k := ⟨_, rfl⟩
  rw [hlk]
  have HLK := Lib.hid hlk
  clear hlk
  have HG0 := Lib.hid h
  have HQ := Lib.hid hq
  have g0 := h.blk.cell 0
  have g1 := h.blk.cell 1
  have g6 := h.blk.cell 6
  have gf := fun i => h.blk.free i
  have lg := h.blk.lt
  simp at g0 g1 g6
  have nl1 : ¬ g = w.heap.size := by omega
  have nl2 : ¬ w.heap.size = g := by omega
  have nl3 : ¬ g = w.heap.size + 1 := by omega
  have nl4 : ¬ w.heap.size + 1 = g := by omega
  clear h hq
  go_enter Tryz.func15, Tryz.ntmps15
  go_upto_region 9 with (fail)
  refine wp_called (fun W2 hW2 => ?_)
  have b3 : Blk W2 (w.heap.size) 27 (actC ⟨9, id, n, mask, row, box⟩) := by
    rw [hW2]
    apply blk_to
    · repeat first | with_reducible exact HG0.out.blk | with_reducible apply Blk.put | with_reducible exact Blk.new_at (h := (by first | rfl | (simp; done) | (simp [World.setCell]; done) | omega)) | with_reducible apply Blk.alloc | with_reducible apply Blk.far (hp := (by first | assumption | omega | (simp; omega)))
    · rfl
  have b4 : Blk W2 (w.heap.size + 1) 40 (#[.int .i64 0, .int .i64 0, .slice none 0 0, .slice none 0 0]) := by
    rw [hW2]
    apply blk_to
    · repeat first | with_reducible exact HG0.out.blk | with_reducible apply Blk.put | with_reducible exact Blk.new_at (h := (by first | rfl | (simp; done) | (simp [World.setCell]; done) | omega)) | with_reducible apply Blk.alloc | with_reducible apply Blk.far (hp := (by first | assumption | omega | (simp; omega)))
    · rfl
  have b7 : Blk W2 (w.heap.size + 2) 31 (#[.slice a G.w.things.tables.length c, .int .i64 G.w.things.next]) := by
    rw [hW2]
    apply blk_to
    · repeat first | with_reducible exact HG0.out.blk | with_reducible apply Blk.put | with_reducible exact Blk.new_at (h := (by first | rfl | (simp; done) | (simp [World.setCell]; done) | omega)) | with_reducible apply Blk.alloc | with_reducible apply Blk.far (hp := (by first | assumption | omega | (simp; omega)))
    · rfl
  have bg : Blk W2 (g) 85 (gameC (.slice a G.w.things.tables.length c) sv (more G)) := by
    rw [hW2]
    apply blk_to
    · repeat first | with_reducible exact HG0.out.blk | with_reducible apply Blk.put | with_reducible exact Blk.new_at (h := (by first | rfl | (simp; done) | (simp [World.setCell]; done) | omega)) | with_reducible apply Blk.alloc | with_reducible apply Blk.far (hp := (by first | assumption | omega | (simp; omega)))
    · rfl
  have HZ2 : Hid (W2.heap.size = w.heap.size + 3) := Lib.hid (by rw [hW2]; simp [World.setCell])
  have hz2 : w.heap.size + 2 < W2.heap.size := by have := HZ2.out; omega
  have hB2 : ∀ b, b < w.heap.size → b ≠ g → W2.heap[b]? = w.heap[b]? := by
    intro b h1 h2
    rw [hW2]
    exact (Below.heap_alloc _ _ b (by simp [World.setCell]; omega)).trans ((Below.heap_alloc _ _ b (by simp [World.setCell]; omega)).trans ((Below.heap_alloc _ _ b (by simp [World.setCell]; omega)).trans (Below.heap_setCell _ _ _ b h2)))
  have HO2 : Hid (Only Q w W2) := Lib.hid (by
    rw [hW2]
    exact ((((Only.refl Q w).setCell (.inl HG0.out.inQ) _).alloc _).alloc _).alloc _)
  have HG2 : Hid (GameAt W2 (QD Q w) g (more G) a c sv hs) := Lib.hid ((HG0.out.wide (R := QD Q w) (fun b h1 k => ⟨.inl k, by omega⟩)).upd (by omega) (fun b h1 _ h3 => hB2 b h1 h3) bg rfl (((HG0.out.wide (R := QD Q w) (fun b h1 k => ⟨.inl k, by omega⟩)).st).step (by omega) (fun b h1 k => hB2 b h1 k.2.1)))
  have HNQ : Hid (∀ b, W2.heap.size ≤ b → QD Q w b) := Lib.hid (fun b hb => ⟨.inr (by omega), by omega⟩)
  have x0 := b3.cell 0
  have x1 := b3.cell 1
  have x2 := b3.cell 2
  have x3 := b3.cell 3
  have x4 := b3.cell 4
  have x5 := b3.cell 5
  have x6 := b3.cell 6
  have x7 := b3.cell 7
  have x8 := b3.cell 8
  have x9 := b3.cell 9
  have x10 := b3.cell 10
  have x11 := b3.cell 11
  have x12 := b3.cell 12
  have x13 := b3.cell 13
  have x14 := b3.cell 14
  have x15 := b3.cell 15
  have x16 := b3.cell 16
  simp at x0 x1 x2 x3 x4 x5 x6 x7 x8 x9 x10 x11 x12 x13 x14 x15 x16
  have s0 := b7.cell 0
  have s1 := b7.cell 1
  have y0 := b4.cell 0
  have y1 := b4.cell 1
  have y2 := b4.cell 2
  have y3 := b4.cell 3
  have yf := fun i => b4.free i
  have gw0 := bg.cell 0
  have gw1 := bg.cell 1
  have gw2 := bg.cell 2
  have gw3 := bg.cell 3
  have gw4 := bg.cell 4
  have gw5 := bg.cell 5
  have gw6 := bg.cell 6
  have gff := fun i => bg.free i
  have l2g := bg.lt
  have l23 := b3.lt
  have l24 := b4.lt
  have l27 := b7.lt
  simp at s0 s1 y0 y1 y2 y3 gw0 gw1 gw2 gw3 gw4 gw5 gw6
  have HB3 := Lib.hid b3
  have HB4 := Lib.hid b4
  have HB7 := Lib.hid b7
  have HBG := Lib.hid bg
  have HIN := Lib.hid (good_in hG.w.things)
  clear hW2 hB2 b3 b4 b7 bg g0 g1 g6 gf
  have CS := Lib.hid (fun W (hb : Below W2.heap.size W2 W) => show W.cell? ⟨w.heap.size + 2, 0, none⟩ = some (.slice a G.w.things.tables.length c) ∧ W.cell? ⟨w.heap.size + 2, 1, none⟩ = some (.int .i64 G.w.things.next) ∧ W.cell? ⟨w.heap.size, 12, none⟩ = some (.int .i64 box.id) ∧ W.cell? ⟨w.heap.size, 13, none⟩ = some (.int .i64 box.x1) ∧ W.cell? ⟨w.heap.size, 14, none⟩ = some (.int .i64 box.y1) ∧ W.cell? ⟨w.heap.size, 15, none⟩ = some (.int .i64 box.x2) ∧ W.cell? ⟨w.heap.size, 16, none⟩ = some (.int .i64 box.y2) from by
    have b3 := HB3.out.below hb HB3.out.lt
    have b7 := HB7.out.below hb HB7.out.lt
    exact ⟨b7.cell 0, b7.cell 1, b3.cell 12, b3.cell 13, b3.cell 14, b3.cell 15, b3.cell 16⟩)
  have HBO := Lib.hid (fun U (hb : Below W2.heap.size W2 U) => worldBoxes_calls (HG2.out.st.at_.below hb) HGS.out)
  have HLO := Lib.hid (fun (U : World) (m : Nat) (v : Value) (ho : U.ownsRow m 25 5 v (M.boxes G.w.things).length ((M.boxes G.w.things).flatMap boxL)) => look_calls (Lies.of_owns ho) (boxes_in HGS.out) (by
    have : (M.boxes G.w.things).length ≤ 10 := by unfold M.boxes; rw [List.length_map]; exact M.query_few HGS.out 5
    omega) box)
  rw [HLK.out] at HLO
  have HFAR : Hid (∀ (U : World) (i j : Nat) (u : Value), (U.setCell ⟨w.heap.size + 1, i, none⟩ u).cell? ⟨w.heap.size, j, none⟩ = U.cell? ⟨w.heap.size, j, none⟩ ∧ (U.setCell ⟨w.heap.size + 1, i, none⟩ u).cell? ⟨w.heap.size + 2, j, none⟩ = U.cell? ⟨w.heap.size + 2, j, none⟩) := Lib.hid (fun U i j u => ⟨World.cell?_setCell_far _ _ _ _ (by show w.heap.size + 1 ≠ w.heap.size; omega), World.cell?_setCell_far _ _ _ _ (by show w.heap.size + 1 ≠ w.heap.size + 2; omega)⟩)
  clear hG hx
  go_upto_region 35 with (fail)
  clear x0 x1 x2 x3 x4 x5 x6 x7 x8 x9 x10 x11 x12 x13 x14 x15 x16 s0 s1 gw0 gw1 gw2 gw3 gw4 gw5 gw6 gff y0 y1 y2 y3 yf
  go_region_held3 (fun W => W.cell? ⟨w.heap.size + 2, 0, none⟩ = some (.slice a G.w.things.tables.length c) ∧ W.cell? ⟨w.heap.size + 2, 1, none⟩ = some (.int .i64 G.w.things.next) ∧ W.cell? ⟨w.heap.size, 12, none⟩ = some (.int .i64 box.id) ∧ W.cell? ⟨w.heap.size, 13, none⟩ = some (.int .i64 box.x1) ∧ W.cell? ⟨w.heap.size, 14, none⟩ = some (.int .i64 box.y1) ∧ W.cell? ⟨w.heap.size, 15, none⟩ = some (.int .i64 box.x2) ∧ W.cell? ⟨w.heap.size, 16, none⟩ = some (.int .i64 box.y2)) (first | ((with_reducible refine CS.out _ ?_); (repeat first | with_reducible exact Below.refl _ _ | with_reducible apply Below.drew | with_reducible apply Below.alloc (hB := (by first | omega | (simp; done) | (simp; omega))) | with_reducible refine Below.trans ?_ (Below.mono (B' := W2.heap.size) hb6 (by first | omega | (simp; done) | (simp; omega))) | with_reducible refine Below.trans ?_ (Below.mono (B' := W2.heap.size) hb5 (by first | omega | (simp; done) | (simp; omega)))); done) | (have hS6 := CS.out w6 (by repeat first | with_reducible exact Below.refl _ _ | with_reducible apply Below.drew | with_reducible apply Below.alloc (hB := (by first | omega | (simp; done) | (simp; omega))) | with_reducible refine Below.trans ?_ (Below.mono (B' := W2.heap.size) hb6 (by first | omega | (simp; done) | (simp; omega))) | with_reducible refine Below.trans ?_ (Below.mono (B' := W2.heap.size) hb5 (by first | omega | (simp; done) | (simp; omega)))); simp only [(HFAR.out _ _ _ _).1, (HFAR.out _ _ _ _).2]; with_reducible exact hS6)) (first | (go_at_call 27; with_reducible refine (HBO.out _ (by repeat first | with_reducible exact Below.refl _ _ | with_reducible apply Below.drew | with_reducible apply Below.alloc (hB := (by first | omega | (simp; done) | (simp; omega))) | with_reducible refine Below.trans ?_ (Below.mono (B' := W2.heap.size) hb6 (by first | omega | (simp; done) | (simp; omega))) | with_reducible refine Below.trans ?_ (Below.mono (B' := W2.heap.size) hb5 (by first | omega | (simp; done) | (simp; omega))))).mono ?_; rintro e w5 ⟨v5, rfl, ho5, hb5⟩; obtain ⟨a5, c5, rfl⟩ := own_form ho5; have HO5 := Lib.hid ho5; have hz5 := hb5.size; (try simp at hz5); clear ho5) | (go_at_call 38; refine (HLO.out _ _ _ HO5.out).mono ?_; rintro e w6 ⟨v6, rfl, ho6, hb6⟩; obtain ⟨a6, c6, rfl⟩ := own_form ho6; have HO6 := Lib.hid ho6; have hz6 := hb6.size; (try simp at hz6); have K6 : Below W2.heap.size W2 w6 := (by repeat first | with_reducible exact Below.refl _ _ | with_reducible apply Below.drew | with_reducible apply Below.alloc (hB := (by first | omega | (simp; done) | (simp; omega))) | with_reducible refine Below.trans ?_ (Below.mono (B' := W2.heap.size) hb6 (by first | omega | (simp; done) | (simp; omega))) | with_reducible refine Below.trans ?_ (Below.mono (B' := W2.heap.size) hb5 (by first | omega | (simp; done) | (simp; omega)))); have b46 := HB4.out.below K6 HB4.out.lt; have HB46 := Lib.hid b46; have y0 := b46.cell 0; have y1 := b46.cell 1; have y2 := b46.cell 2; have y3 := b46.cell 3; have yf := (fun i => b46.free i); simp at y0 y1 y2 y3; have ly := b46.lt; clear ho6 b46))
  all_goals
    go_wp2_with fail
    refine bodyPost_ret (results_cell_row rfl _ _ _ _ _ _ _ rfl (reply_blk HB46.out _ _ _ _) Tryz.underlying40 rfl (by kernel_rfl)) rfl ?_
    refine do_end2 (a := a) (c := c) (sv := sv) (hs := hs) (m := W2.heap.size) (ids := .slice a6 lk.length c6) (met := .slice none 0 0) ?_ (HO2.out.more K6) (by omega) ⟨0, 0, lk, []⟩ (own_lower HO6.out (by omega)) (World.ownsRow_nil _ _ _ _) _ _ _ _
    exact (HG2.out.wide (R := fun b => ((QD Q w b ∧ b < W2.heap.size) ∨ W2.heap.size ≤ b) ∧ (Value.slice a6 lk.length c6).ownBlock ≠ some b ∧ (Value.slice none 0 0).ownBlock ≠ some b) (fun b hb k => ⟨.inl ⟨k, hb⟩, (fun e => by have := (HO6.out.lt b e).1; omega), fun e => by cases e⟩)).below K6
end Go.Proofs.YtkpecagkpjabdacGreat
