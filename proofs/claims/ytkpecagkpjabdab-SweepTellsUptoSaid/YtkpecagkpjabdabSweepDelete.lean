/- The contract of slices.DeleteFunc at boxes of the call's own, with sweep.Pairs' own test. Condition: few enough for memory. -/
import Derived.Test.YtkpecagkpjabdabSweepCmp
import Derived.Test.YtkpecagkpjabdabOpenSweep
import Derived.Test.YtkpecagkpjabdabStoreDelete
import Derived.Test.YtkpecagkpjabdabRowCells
namespace Go.Proofs.Ytkpecagkpjabdab
open Go.RowKit
set_option linter.unusedVariables false
set_option linter.unusedSimpArgs false
set_option maxRecDepth 100000

/-! plain: what stands in the row while it is cut -/
structure Cutting (keep : M.Box → Bool) (zs R : List M.Box) (i j : Nat) : Prop where
  len : R.length = zs.length
  head : R.take i = (zs.take j).filter keep
  count : i = ((zs.take j).filter keep).length
  tail : R.drop j = zs.drop j
  lt : i < j
theorem Cutting.start {keep : M.Box → Bool} {zs : List M.Box} {i : Nat} {b : M.Box} (h : zs[i]? = some b) (hb : keep b = false) (hk : ∀ j c, j < i → zs[j]? = some c → keep c = true) : Cutting keep zs zs i (i + 1) := by
  have hl := (List.getElem?_eq_some_iff.1 h).1
  have e : (zs.take (i + 1)).filter keep = zs.take i := by
    rw [List.take_add_one, h, List.filter_append, List.filter_eq_self.2 (fun c hc => by
      obtain ⟨j, hj, e⟩ := List.getElem_of_mem hc
      rw [List.length_take] at hj
      rw [List.getElem_take] at e
      exact hk j c (by omega) (by rw [← e]; exact List.getElem?_eq_getElem (by omega)))]
    simp [hb]
  exact ⟨rfl, e.symm, by rw [e, List.length_take]; omega, rfl, by omega⟩
theorem Cutting.at_ {keep : M.Box → Bool} {zs R : List M.Box} {i j : Nat} (h : Cutting keep zs R i j) (hj : j < zs.length) : R[j]? = zs[j]? := by
  have := congrArg (fun l => l[0]?) h.tail
  simpa using this
theorem Cutting.keep {keep : M.Box → Bool} {zs R : List M.Box} {i j : Nat} {b : M.Box} (h : Cutting keep zs R i j) (hj : zs[j]? = some b) (hb : keep b = true) : Cutting keep zs (R.set i b) (i + 1) (j + 1) := by
  have hl := (List.getElem?_eq_some_iff.1 hj).1
  have hlen := h.len
  have hlt := h.lt
  have e : (zs.take (j + 1)).filter keep = (zs.take j).filter keep ++ [b] := by
    rw [List.take_add_one, hj, List.filter_append]; simp [hb]
  refine ⟨by rw [List.length_set]; exact h.len, ?_, ?_, ?_, by omega⟩
  · rw [e, ← h.head, List.take_add_one, List.getElem?_set_self (by omega)]
    rw [List.take_set, List.set_eq_of_length_le (by rw [List.length_take]; omega)]
    simp
  · rw [e, List.length_append, ← h.count]; rfl
  · rw [List.drop_set_of_lt (by omega)]
    have := congrArg (fun l => l.drop 1) h.tail
    simpa [List.drop_drop] using this
theorem Cutting.cut {keep : M.Box → Bool} {zs R : List M.Box} {i j : Nat} {b : M.Box} (h : Cutting keep zs R i j) (hj : zs[j]? = some b) (hb : keep b = false) : Cutting keep zs R i (j + 1) := by
  have hlt := h.lt
  have e : (zs.take (j + 1)).filter keep = (zs.take j).filter keep := by
    rw [List.take_add_one, hj, List.filter_append]; simp [hb]
  refine ⟨h.len, by rw [e]; exact h.head, by rw [e]; exact h.count, ?_, by omega⟩
  have := congrArg (fun l => l.drop 1) h.tail
  simpa [List.drop_drop] using this
theorem boxesL_set (rs : List M.Box) (k : Nat) (r : M.Box) (hk : k < rs.length) :
    (((((rs.flatMap boxL).set (k * 5) (.int .i64 r.id)).set (k * 5 + 1) (.int .i64 r.x1)).set (k * 5 + 2) (.int .i64 r.y1)).set (k * 5 + 3) (.int .i64 r.x2)).set (k * 5 + 4) (.int .i64 r.y2) = (rs.set k r).flatMap boxL := by
  induction rs generalizing k with
  | nil => simp at hk
  | cons a rs ih =>
    match k with
    | 0 => simp [boxL]
    | k + 1 =>
      have e : ∀ j, (k + 1) * 5 + j = (k * 5 + j) + 5 := fun j => by omega
      have e0 : (k + 1) * 5 = k * 5 + 5 := by omega
      simp only [e]
      rw [e0]
      have hc : ∀ (l : List Value) (j : Nat) (v : Value), (boxL a ++ l).set (j + 5) v = boxL a ++ l.set j v := fun l j v => by simp [boxL]
      rw [List.flatMap_cons, hc, hc, hc, hc, hc, List.set_cons_succ, List.flatMap_cons, ih k (by simpa using hk)]
theorem boxesL_take (rs : List M.Box) (m : Nat) : (rs.flatMap boxL).take (m * 5) = (rs.take m).flatMap boxL := by
  induction rs generalizing m with
  | nil => simp
  | cons a rs ih =>
    match m with
    | 0 => simp
    | m + 1 =>
      have hl : (boxL a).length = 5 := rfl
      rw [List.flatMap_cons, List.take_succ_cons, List.flatMap_cons, show (m + 1) * 5 = (boxL a).length + m * 5 by omega, List.take_length_add_append, ih]

/-- who ends ahead of e -/
def M.isOver (e : Int) (a : M.Box) : Bool := decide (a.x2 ≤ e)
theorem over_calls (a : M.Box) (bx : Nat) (e : Int) (w : World) (h : w.cell? ⟨bx, 1, none⟩ = some (.int .i64 e)) :
    Calls Try.prog 51 #[boxV a, .pointer (some ⟨bx, 0, none⟩)] w fun r w' => r = .returned (.bool (M.isOver e a)) ∧ Below w.heap.size w w' := by
  have hl := cell_lt h
  go_enter Try.func51, Try.ntmps51
  go_wp2_with fail
  go_ret
  exact ⟨rfl, (by repeat first | with_reducible assumption | with_reducible exact Below.refl _ _ | with_reducible apply Below.drew | with_reducible apply below_drewN | with_reducible apply Below.alloc (hB := (by first | omega | (simp; done) | (simp; omega))) | with_reducible apply Below.setCell (hp := (by first | omega | (simp; done) | (simp; omega))))⟩
theorem infoBox : (Try.prog.info? 45).map (fun i => (i.zero, i.size, i.bytes)) = some (some (boxV M.box0), 5, 40) := by kernel_rfl
instance : Inhabited M.Box := ⟨M.box0⟩
theorem index_cases (p : M.Box → Bool) (zs : List M.Box) (n : Nat) (hn : zs.length = n) : (Lib.idxBy (fun _ y => p y) (zs.take n) default = -1 ∧ ∀ b ∈ zs, p b = false) ∨
    ∃ i b, Lib.idxBy (fun _ y => p y) (zs.take n) default = ((i : Nat) : Int) ∧ i < n ∧ zs[i]? = some b ∧ p b = true ∧ ∀ j c, j < i → zs[j]? = some c → p c = false := by
  subst hn
  rw [List.take_length]
  unfold Lib.idxBy
  have h : ∀ (l : List M.Box) (k : Nat), (Lib.idxByFrom (fun _ y => p y) default l k = -1 ∧ ∀ b ∈ l, p b = false) ∨
      ∃ i b, Lib.idxByFrom (fun _ y => p y) default l k = ((k + i : Nat) : Int) ∧ i < l.length ∧ l[i]? = some b ∧ p b = true ∧ ∀ j c, j < i → l[j]? = some c → p c = false := by
    intro l
    induction l with
    | nil => intro k; exact .inl ⟨rfl, by simp⟩
    | cons a l ih =>
      intro k
      cases hp : p a
      · rcases ih (k + 1) with ⟨h1, h2⟩ | ⟨i, b, h1, h2, h3, h4, h5⟩
        · refine .inl ⟨by simp only [Lib.idxByFrom, hp]; exact h1, ?_⟩
          intro b hb
          rcases List.mem_cons.1 hb with rfl | hb
          · exact hp
          · exact h2 b hb
        · refine .inr ⟨i + 1, b, ?_, by simp; omega, by simpa using h3, h4, ?_⟩
          · simp only [Lib.idxByFrom, hp]
            show Lib.idxByFrom (fun _ y => p y) default l (k + 1) = _
            rw [h1]; omega
          · intro j c hj hc
            cases j with
            | zero => simp only [List.getElem?_cons_zero, Option.some.injEq] at hc; subst hc; exact hp
            | succ j => exact h5 j c (by omega) (by simpa using hc)
      · exact .inr ⟨0, a, by simp [Lib.idxByFrom, hp], by simp, rfl, hp, fun j c hj => absurd hj (Nat.not_lt_zero _)⟩
  rcases h zs 0 with h | ⟨i, b, h1, h2⟩
  · exact .inl h
  · exact .inr ⟨i, b, by rw [h1, Nat.zero_add], h2⟩
/-- slices.IndexFunc with the sweep's own test -/
theorem index_calls_box {w : World} {g n cap bx : Nat} {zs : List M.Box} {e : Int} (hn : zs.length = n) (hm : n ≤ maxLen) (hg : g < w.heap.size) (hz : ∀ j u, (zs.flatMap boxL)[j]? = some u → w.cell? ⟨g, j, none⟩ = some u) (hb : w.cell? ⟨bx, 1, none⟩ = some (.int .i64 e)) :
    Calls Try.prog 72 #[.slice (some ⟨g, 0, none⟩) n cap, .func (.func 51) #[] #[.pointer (some ⟨bx, 0, none⟩)]] w fun r w' =>
      r = .returned (.int .i64 (Lib.idxBy (fun _ y => M.isOver e y) (zs.take n) default)) ∧ Below w.heap.size w w' := by
  have eg : ∀ args w, (callFunc 51 args).run Try.prog w = .ok (.enter 51 args) w := enters_of Try.func51 (by kernel_rfl) rfl
  exact AnyQ.slices_IndexFunc Try.indexBox 5 Try.isAgg45 Try.sizeOf45 boxL (fun _ => rfl) (M.isOver e) 51 #[.pointer (some ⟨bx, 0, none⟩)] eg g 0 n cap zs w
    (fun W x hbl => (over_calls x bx e W (below_cell hb hbl)).mono fun _ _ ⟨h1, h2⟩ => ⟨h1, hbl.trans (h2.mono hbl.size)⟩) (by omega) (by unfold maxLen at hm; omega) hg (fun j hj i v hi => by
      have h1 : zs[j]? = some zs[j]! := by rw [List.getElem?_eq_getElem hj, getElem!_pos zs j hj]
      have hi5 : i < 5 := (List.getElem?_eq_some_iff.1 hi).1
      have := hz (j * 5 + i) v ((flat_at boxL 5 (fun _ => rfl) zs j i h1 hi5).trans hi)
      rw [Nat.zero_add]
      exact this)

set_option maxHeartbeats 4000000 in
theorem deleteFunc_calls {w : World} {base g n cap bx : Nat} {zs : List M.Box} {e : Int} (h : w.ownsRow base 45 5 (.slice (some ⟨g, 0, none⟩) n cap) n (zs.flatMap boxL)) (hlen : zs.length = n) (hb : w.cell? ⟨bx, 1, none⟩ = some (.int .i64 e)) (hne : bx ≠ g) :
    Calls Try.prog 50 #[.slice (some ⟨g, 0, none⟩) n cap, .func (.func 51) #[] #[.pointer (some ⟨bx, 0, none⟩)]] w fun r w' =>
      r = .returned (.slice (some ⟨g, 0, none⟩) (zs.filter fun a => !M.isOver e a).length cap) ∧ w'.ownsRow base 45 5 (.slice (some ⟨g, 0, none⟩) (zs.filter fun a => !M.isOver e a).length cap) (zs.filter fun a => !M.isOver e a).length ((zs.filter fun a => !M.isOver e a).flatMap boxL) ∧ w.grownBy w' (some g) := by
  have hg : g < w.heap.size := (h.lt g rfl).2
  obtain ⟨hcap, hcm⟩ : n ≤ cap ∧ cap ≤ maxLen := by
    rcases h.2 with ⟨e', _⟩ | ⟨g', cap', cur, e', hbg, hgg, hnc, hcm, hcs, htk⟩
    · simp at e'
    · simp only [Value.slice.injEq, Option.some.injEq, Addr.mk.injEq, and_true, true_and] at e'
      obtain ⟨rfl, rfl⟩ := e'
      exact ⟨hnc, hcm⟩
  have hc63 : cap ≤ 9223372036854775807 := by unfold maxLen at hcm; omega
  have hbl := cell_lt hb
  have HIX := index_calls_box (cap := cap) hlen (by omega) hg (fun j u hu => by
    have hj : j < n * 5 := by rw [← hlen, ← boxes_len]; exact (List.getElem?_eq_some_iff.1 hu).1
    exact (h.cellAt j hj).trans hu) hb
  have HO := Lib.hid h
  have HB := Lib.hid hb
  rcases index_cases (M.isOver e) zs n hlen with ⟨hi, hall⟩ | ⟨i0, b0, hi, hi0, hb0, hp0, hbefore⟩
  · rw [hi] at HIX
    have HI := Lib.hid HIX
    have hf : (zs.filter fun a => !M.isOver e a) = zs := List.filter_eq_self.2 (fun a ha => by rw [hall a ha]; rfl)
    rw [hf, hlen]
    clear h hb hi hall hf HIX
    go_enter Try.func50, Try.ntmps50
    go_wp2_with (go_at_call 72; refine HI.out.mono ?_; rintro r w1 ⟨rfl, hb1⟩)
    go_ret
    exact ⟨rfl, own_below HO.out hb1, ⟨hb1.os, hb1.tape, hb1.output, hb1.size, fun k hk _ => hb1.block k hk⟩⟩
  · rw [hi] at HIX
    have HI := Lib.hid HIX
    have HCUT := Lib.hid (Cutting.start (keep := fun a => !M.isOver e a) hb0 (by rw [hp0]; rfl) (fun j c hj hc => by rw [hbefore j c hj hc]; rfl))
    clear h hb hi HIX hb0 hp0 hbefore
    go_enter Try.func50, Try.ntmps50
    go_wp2_with (go_at_call 72; refine HI.out.mono ?_; rintro r w1 ⟨rfl, hb1⟩)
    go_loopg [5, 6] (n - (i0 + 1)) (fun k vi vj wr => ∃ (i j : Nat) (R : List M.Box), vi = .int .i64 i ∧ vj = .int .i64 j ∧ k = n - j ∧ j ≤ n ∧ Cutting (fun a => !M.isOver e a) zs R i j ∧ wr.ownsRow base 45 5 (.slice (some ⟨g, 0, none⟩) n cap) n (R.flatMap boxL) ∧ w.grownBy wr (some g))
    case atStart =>
      exact ⟨i0, i0 + 1, zs, rfl, by go_num, rfl, by omega, HCUT.out, own_below HO.out hb1, ⟨hb1.os, hb1.tape, hb1.output, hb1.size, fun k hk _ => hb1.block k hk⟩⟩
    case round =>
      obtain ⟨wo, hwo⟩ : ∃ wo, wo = wr := ⟨_, rfl⟩
      subst hwo
      obtain ⟨i, j, R, rfl, rfl, hk, hj, hcut, hown, hgrow⟩ := hrel
      have HC := Lib.hid hcut
      have HW := Lib.hid hown
      have HG := Lib.hid hgrow
      have HK := Lib.hid hk
      have gs := hgrow.size
      have bc := hgrow.cell HB.out (by simp; omega)
      have hRl := hcut.len
      have hilt := hcut.lt
      have hgl : g < wo.heap.size := by omega
      clear hk
      rcases Nat.lt_or_ge j n with hlt | hge
      · obtain ⟨b, hbj⟩ : ∃ b, zs[j]? = some b := ⟨_, List.getElem?_eq_getElem (by omega)⟩
        have hRj : R[j]? = some b := (hcut.at_ (by omega)).trans hbj
        have kc : ∀ k, k < 5 → wo.cell? ⟨g, j * 5 + k, none⟩ = (boxL b)[k]? := fun k hk => (hown.cellAt (j * 5 + k) (by omega)).trans (flat_at boxL 5 (fun _ => rfl) R j k hRj hk)
        have k0 := kc 0 (by omega)
        have k1 := kc 1 (by omega)
        have k2 := kc 2 (by omega)
        have k3 := kc 3 (by omega)
        have k4 := kc 4 (by omega)
        simp only [boxL, Nat.add_zero, List.getElem?_cons_zero, List.getElem?_cons_succ] at k0 k1 k2 k3 k4
        have HBJ := Lib.hid hbj
        clear hcut hown hgrow kc hRj
        cases hq : M.isOver e b
        · have HOV : Hid (∀ W, Below wo.heap.size wo W → Calls Try.prog 51 #[boxV b, .pointer (some ⟨bx, 0, none⟩)] W fun r w' => r = .returned (.bool false) ∧ Below W.heap.size W w') := Lib.hid (fun W hW => by
            have := over_calls b bx e W (below_cell bc hW)
            rw [hq] at this; exact this)
          have HQ := Lib.hid hq
          obtain ⟨c, hci⟩ : ∃ c, R[i]? = some c := ⟨_, List.getElem?_eq_getElem (by omega)⟩
          have HCI := Lib.hid hci
          clear hq hbj hci
          go_wp2_with (go_at_call 51; refine (HOV.out _ (by repeat first | with_reducible assumption | with_reducible exact Below.refl _ _ | with_reducible apply Below.drew | with_reducible apply below_drewN | with_reducible apply Below.alloc (hB := (by first | omega | (simp; done) | (simp; omega))) | with_reducible apply Below.setCell (hp := (by first | omega | (simp; done) | (simp; omega))))).mono ?_; rintro r w2 ⟨rfl, hb2⟩; have K2 : Below wo.heap.size wo w2 := (show Below wo.heap.size wo _ from (by repeat first | with_reducible assumption | with_reducible exact Below.refl _ _ | with_reducible apply Below.drew | with_reducible apply below_drewN | with_reducible apply Below.alloc (hB := (by first | omega | (simp; done) | (simp; omega))) | with_reducible apply Below.setCell (hp := (by first | omega | (simp; done) | (simp; omega))))).trans (hb2.mono (by first | omega | (simp; done) | (simp; omega))); have kz2 := K2.size; have HW2 := Lib.hid (own_below HW.out K2); have bb : Blk w2 wo.heap.size 45 (boxC b) := (by apply blk_to; (repeat first | with_reducible apply Blk.below (hb := hb2) (hg := (by first | omega | (simp; done) | (simp; omega))) | with_reducible exact Blk.new_at (h := (by first | rfl | (simp; done) | omega))); rfl); have b0 := bb.cell 0; have b1 := bb.cell 1; have b2 := bb.cell 2; have b3 := bb.cell 3; have b4 := bb.cell 4; simp at b0 b1 b2 b3 b4; have bl := bb.lt; have pc : ∀ k, k < 5 → w2.cell? ⟨g, i * 5 + k, none⟩ = (boxL c)[k]? := (fun k hk => (HW2.out.cellAt (i * 5 + k) (by omega)).trans (flat_at boxL 5 (fun _ => rfl) R i k HCI.out hk)); have p0 := pc 0 (by omega); have p1 := pc 1 (by omega); have p2 := pc 2 (by omega); have p3 := pc 3 (by omega); have p4 := pc 4 (by omega); simp only [boxL, Nat.add_zero, List.getElem?_cons_zero, List.getElem?_cons_succ] at p0 p1 p2 p3 p4; clear pc; have TF := (fun j => HW2.out.frozenAt j); have hgl2 : g < w2.heap.size := (by omega))
          go_roundg (n - (j + 1))
          case measure => rw [HK.out]; omega
          case rel =>
            have P := own_put (own_put (own_put (own_put (own_put HW2.out (i * 5) (.int .i64 b.id)) (i * 5 + 1) (.int .i64 b.x1)) (i * 5 + 2) (.int .i64 b.y1)) (i * 5 + 3) (.int .i64 b.x2)) (i * 5 + 4) (.int .i64 b.y2)
            rw [boxesL_set R i b (by omega)] at P
            refine ⟨i + 1, j + 1, R.set i b, by go_num, by go_num, rfl, by omega, HC.out.keep HBJ.out (by rw [HQ.out]; rfl), P, ?_⟩
            have G2 : w.grownBy w2 (some g) := ⟨K2.os.trans HG.out.os, K2.tape.trans HG.out.tape, K2.output.trans HG.out.output, by have := HG.out.size; omega, fun k hk hne => (K2.block k (by omega)).trans (HG.out.block k hk hne)⟩
            have far : ∀ (U : World) (j : Nat) (u : Value), w.grownBy U (some g) → w.grownBy (U.setCell ⟨g, j, none⟩ u) (some g) := fun U j u hU => ⟨hU.os, hU.tape, hU.output, by have := hU.size; simpa [World.setCell] using this, fun k hk hne => (Below.heap_setCell _ _ _ _ (by intro e; exact hne (by rw [e]))).trans (hU.block k hk hne)⟩
            exact far _ _ _ (far _ _ _ (far _ _ _ (far _ _ _ (far _ _ _ G2))))
        · have HOV : Hid (∀ W, Below wo.heap.size wo W → Calls Try.prog 51 #[boxV b, .pointer (some ⟨bx, 0, none⟩)] W fun r w' => r = .returned (.bool true) ∧ Below W.heap.size W w') := Lib.hid (fun W hW => by
            have := over_calls b bx e W (below_cell bc hW)
            rw [hq] at this; exact this)
          have HQ := Lib.hid hq
          clear hq hbj
          go_wp2_with (go_at_call 51; refine (HOV.out _ (by repeat first | with_reducible assumption | with_reducible exact Below.refl _ _ | with_reducible apply Below.drew | with_reducible apply below_drewN | with_reducible apply Below.alloc (hB := (by first | omega | (simp; done) | (simp; omega))) | with_reducible apply Below.setCell (hp := (by first | omega | (simp; done) | (simp; omega))))).mono ?_; rintro r w2 ⟨rfl, hb2⟩; have K2 : Below wo.heap.size wo w2 := (show Below wo.heap.size wo _ from (by repeat first | with_reducible assumption | with_reducible exact Below.refl _ _ | with_reducible apply Below.drew | with_reducible apply below_drewN | with_reducible apply Below.alloc (hB := (by first | omega | (simp; done) | (simp; omega))) | with_reducible apply Below.setCell (hp := (by first | omega | (simp; done) | (simp; omega))))).trans (hb2.mono (by first | omega | (simp; done) | (simp; omega))))
          go_roundg (n - (j + 1))
          case measure => rw [HK.out]; omega
          case rel => exact ⟨i, j + 1, R, rfl, by go_num, rfl, by omega, HC.out.cut HBJ.out (by rw [HQ.out]; rfl), own_below HW.out K2, ⟨K2.os.trans HG.out.os, K2.tape.trans HG.out.tape, K2.output.trans HG.out.output, by have := K2.size; omega, fun k hk hne => (K2.block k (by omega)).trans (HG.out.block k hk hne)⟩⟩
      · obtain rfl : j = n := by omega
        have hcnt := hcut.count
        have hhead := hcut.head
        have hzl : zs.take j = zs := List.take_of_length_le (by omega)
        rw [hzl] at hcnt hhead
        have HH := Lib.hid hhead
        have HCN := Lib.hid hcnt
        clear hcut hown hgrow hhead hcnt bc
        rcases HW.out.2 with ⟨e', _⟩ | ⟨g', cap', cur, e', hbg, hgg, hnc, hcm', hcs, htk⟩
        · simp at e'
        simp only [Value.slice.injEq, Option.some.injEq, Addr.mk.injEq, and_true, true_and] at e'
        obtain ⟨rfl, rfl⟩ := e'
        have hcl : cur.toList.length = cap * 5 := by simpa using hcs
        obtain ⟨z0, hz0⟩ : ∃ z, z = (Builtin.zeroCells (boxV M.box0).cells (j - i)).toList := ⟨_, rfl⟩
        have hzl0 : z0.length = (j - i) * 5 := by
          rw [hz0, Array.length_toList, size_zeroCells]; rfl
        have hfit : i * 5 + z0.length ≤ cap * 5 := by rw [hzl0]; omega
        obtain ⟨R2, hR2⟩ : ∃ R2, R2 = (cur.toList.take (i * 5) ++ z0 ++ cur.toList.drop (i * 5 + z0.length)).toArray := ⟨_, rfl⟩
        have hR2s : R2.size = cap * 5 := by
          rw [hR2]
          simp only [List.size_toArray, List.length_append, List.length_take, List.length_drop, hcl]
          omega
        have HCR : Hid (∀ ty dc, (Builtin.clear_ #[40] ty #[.slice (some ⟨g, i * 5, none⟩) (j - i) dc]).run Try.prog wo = .ok (.tuple #[]) (wo.setRow g R2)) := Lib.hid (fun ty dc => by
          have c := run_clear_k (P := Try.prog) wo 40 45 ty _ Try.underlying40 Try.zeroValue45 g (i * 5) (j - i) dc (by omega) cur 45 z0 hz0.symm hgg (by rw [hcs]; exact hfit) (by
            intro v hv
            rw [hz0] at hv
            have hv2 : v = .int .i64 0 := by
              simp only [Builtin.zeroCells, boxV, Value.cells, M.box0] at hv
              simp at hv
              obtain ⟨k, hk, hv⟩ := hv
              rw [← hv]
              have h5 : k % 5 < 5 := Nat.mod_lt _ (by omega)
              generalize k % 5 = q at h5
              rcases (show q = 0 ∨ q = 1 ∨ q = 2 ∨ q = 3 ∨ q = 4 by omega) with rfl | rfl | rfl | rfl | rfl <;> rfl
            rw [hv2]; rfl)
          rw [← hR2] at c
          exact c)
        have HF : Hid ((wo.setRow g R2).ownsRow base 45 5 (.slice (some ⟨g, 0, none⟩) i cap) i ((zs.filter fun a => !M.isOver e a).flatMap boxL) ∧ w.grownBy (wo.setRow g R2) (some g)) := Lib.hid (by
          refine ⟨⟨?_, .inr ⟨g, cap, R2, rfl, hbg, setRow_heap wo g cur R2 _ _ hgg, by omega, hcm, hR2s, ?_⟩⟩, ⟨HG.out.os, HG.out.tape, HG.out.output, ?_, ?_⟩⟩
          · rw [boxes_len, ← HCN.out]
          · rw [hR2, ← HH.out, ← boxesL_take, ← htk, List.take_take, Nat.min_eq_left (by omega)]
            simp only [List.append_assoc]
            rw [List.take_append_of_le_length (by rw [List.length_take, hcl]; omega), List.take_take, Nat.min_self]
          · have := HG.out.size; simpa [World.setRow] using this
          · intro k hk hne'
            have hk' : k ≠ g := fun e => hne' (by rw [e])
            rw [setRow_other _ g k _ hk']
            exact HG.out.block k hk hne')
        clear hcl hz0 hzl0 hfit hR2 hR2s htk hgg hcs HH
        go_wp2_with (refine wpList_clear_run _ rfl _ 40 rfl _ rfl (HCR.out _ _) ?_)
        go_ret
        rw [← HCN.out]
        exact ⟨rfl, HF.out⟩
end Go.Proofs.Ytkpecagkpjabdab
