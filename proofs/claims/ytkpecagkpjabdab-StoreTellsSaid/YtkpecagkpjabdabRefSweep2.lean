/- The document's LookOf. Condition: the boxes lie in memory, they are at most 1048576. -/
import Derived.Test.YtkpecagkpjabdabRefSweep1
import Derived.Test.YtkpecagkpjabdabSweepLook
import Derived.Maps.AppendAt
import Derived.Deep.QuietTactic
import Derived.BigQuiet
namespace Go.Proofs.Ytkpecagkpjabdab
open Go.RowKit
set_option linter.unusedVariables false
set_option linter.unusedSimpArgs false
set_option maxRecDepth 100000
def leI (a b : Int) : Bool := decide (a ≤ b)
theorem leI_trans (a b c : Int) : leI a b = true → leI b c = true → leI a c = true := by simp [leI]; omega
theorem leI_total (a b : Int) : (leI a b || leI b a) = true := by simp [leI]; omega
/-- all is as it was but for block g -/
structure Bar (g : Nat) (a b : World) : Prop where
  os : b.os = a.os
  tape : b.tape = a.tape
  output : b.output = a.output
  size : a.heap.size ≤ b.heap.size
  block : ∀ k, k < a.heap.size → k ≠ g → b.heap[k]? = a.heap[k]?
theorem Bar.refl (g : Nat) (w : World) : Bar g w w := ⟨rfl, rfl, rfl, Nat.le_refl _, fun _ _ _ => rfl⟩
theorem Bar.setCell {g : Nat} {a b : World} (h : Bar g a b) (j : Nat) (u : Value) : Bar g a (b.setCell ⟨g, j, none⟩ u) :=
  ⟨h.os, h.tape, h.output, by simpa [World.setCell] using h.size, fun k h1 h2 => (Below.heap_setCell _ _ _ _ h2).trans (h.block k h1 h2)⟩
theorem Bar.drewN {g : Nat} {a b : World} (h : Bar g a b) (n : Nat) : Bar g a (b.drewN n) := ⟨h.os, h.tape, h.output, h.size, h.block⟩
theorem Bar.below {g B : Nat} {a b : World} (h : Bar g a b) (h1 : B ≤ a.heap.size) (h2 : B ≤ g) : Below B a b := ⟨h.os, h.tape, h.output, h.size, fun k hk => h.block k (by omega) (by omega)⟩
theorem Blk.bar {w W : World} {g b : Nat} {t : TypeId} {cs : Array Value} (h : Blk w b t cs) (k : Bar g w W) (hne : b ≠ g) : Blk W b t cs := (k.block b h.lt hne).trans h
/-- a store into a row of numbers of one's own -/
theorem ints_put {w : World} {base g n c : Nat} {zs : List Int} (h : w.ownsRow base 3 1 (.slice (some ⟨g, 0, none⟩) n c) n (zs.map (Value.int .i64))) (j : Nat) (z : Int) :
    (w.setCell ⟨g, j, none⟩ (.int .i64 z)).ownsRow base 3 1 (.slice (some ⟨g, 0, none⟩) n c) n ((zs.set j z).map (Value.int .i64)) := by
  have := own_put h j (.int .i64 z)
  rw [List.map_set]
  exact this
theorem look_ins {zs out : List Int} {k : Nat} {x : Int} (hho : M.Hole zs k out) (hk : k ≤ zs.length) (hdr : ∀ q ∈ zs.drop k, leI q x = false) (hlast : ∀ j q, j + 1 = k → zs[j]? = some q → leI q x = true) (hs : zs.Pairwise (fun a b => leI a b = true)) :
    (out.set k x).Pairwise (fun a b => leI a b = true) ∧ (out.set k x).Perm (zs ++ [x]) ∧ (out.set k x).length = zs.length + 1 := by
  rw [M.hole_set hho hk]
  have := M.ins_ok leI leI_trans leI_total hs hk hdr hlast
  exact ⟨this.1, this.2, by rw [this.2.length_eq, List.length_append]; rfl⟩
theorem Blk.grown' {w w' : World} {g : Nat} {t : TypeId} {cs : Array Value} {row : Option Nat} (h : Blk w g t cs) (hg : w.grownBy w' row) (hne : row ≠ some g) : Blk w' g t cs := (hg.block g h.lt (fun e => hne e.symm)).trans h
set_option maxHeartbeats 8000000 in
set_option maxRecDepth 100000 in
theorem lookOf_calls {w : World} {lo : Nat} {v : Value} {l : List M.Box} (h : BoxesAt5 w lo v l) (hcap : CapOk v) (hl : l.length ≤ 1048576) (b : M.Box) :
    Calls Try.prog 38 #[v, boxV b] w fun e w' => ∃ v', e = .returned v' ∧ w'.ownsRow w.heap.size 3 1 v' (M.lookB l b).length ((M.lookB l b).map (Value.int .i64)) ∧ Below w.heap.size w w' := by
  have HAB := Lib.hid (fun U (hb : Below w.heap.size w U) => areBoxes_calls (h.below hb) hcap)
  have HB := Lib.hid h
  obtain ⟨av, cv, rfl⟩ := h.val
  obtain ⟨i0, hi, hz0, hz1, hz2⟩ := info_parts infoInt
  have HI := Lib.hid (And.intro hi (And.intro hz0 (And.intro hz1 hz2)))
  have hlm : l.length ≤ 9223372036854775807 := by omega
  obtain ⟨q, hq⟩ : ∃ q, M.goodB l = q := ⟨_, rfl⟩
  rw [hq] at HAB
  have HQ := Lib.hid hq
  clear h hcap hi hz0 hz1 hz2 hq
  cases q
  · have e : M.lookB l b = [] := by unfold M.lookB; rw [HQ.out]; rfl
    rw [e]
    clear e
    go_enter Try.func38, Try.ntmps38
    go_wp2_with (go_at_call 34; go_loud (refine (HAB.out _ (by repeat first | with_reducible assumption | with_reducible exact Below.refl _ _ | with_reducible apply Below.drew | with_reducible apply below_drewN | with_reducible apply Below.alloc (hB := (by first | omega | (simp; done) | (simp; omega))) | with_reducible apply Below.setCell (hp := (by first | omega | (simp; done) | (simp; omega))))).mono ?_; rintro e w1 ⟨rfl, hb1⟩; have K1 : Below w.heap.size w w1 := (show Below w.heap.size w _ from (by repeat first | with_reducible assumption | with_reducible exact Below.refl _ _ | with_reducible apply Below.drew | with_reducible apply below_drewN | with_reducible apply Below.alloc (hB := (by first | omega | (simp; done) | (simp; omega))) | with_reducible apply Below.setCell (hp := (by first | omega | (simp; done) | (simp; omega))))).trans (hb1.mono (by first | omega | (simp; done) | (simp; omega)))))
    go_ret
    exact ⟨_, rfl, World.ownsRow_nil _ _ _ _, K1⟩
  · go_enter Try.func38, Try.ntmps38
    go_wp2_with (go_at_call 34; go_loud (refine (HAB.out _ (by repeat first | with_reducible assumption | with_reducible exact Below.refl _ _ | with_reducible apply Below.drew | with_reducible apply below_drewN | with_reducible apply Below.alloc (hB := (by first | omega | (simp; done) | (simp; omega))) | with_reducible apply Below.setCell (hp := (by first | omega | (simp; done) | (simp; omega))))).mono ?_; rintro e w1 ⟨rfl, hb1⟩; have K1 : Below w.heap.size w w1 := (show Below w.heap.size w _ from (by repeat first | with_reducible assumption | with_reducible exact Below.refl _ _ | with_reducible apply Below.drew | with_reducible apply below_drewN | with_reducible apply Below.alloc (hB := (by first | omega | (simp; done) | (simp; omega))) | with_reducible apply Below.setCell (hp := (by first | omega | (simp; done) | (simp; omega))))).trans (hb1.mono (by first | omega | (simp; done) | (simp; omega))); have kz1 := K1.size; have hz1 := hb1.size; (try simp at hz1); have bb1 : Blk w1 w.heap.size 45 (boxC b) := (Blk.new w 45 (boxC b)).below hb1 (by simp)))
    have HK1 := Lib.hid K1
    have HB1 := Lib.hid bb1
    clear K1 hb1 bb1
    go_loopg [5, 14] l.length (fun g o i wr => ∃ (n : Nat) (oa : Option Addr) (oc : Nat) (zs : List Int), n ≤ l.length ∧ i = .int .i64 n ∧ o = .slice oa zs.length oc ∧ g = l.length - n ∧ zs.Perm (((l.take n).filter fun a => M.meetB a b).map (·.id)) ∧ zs.Pairwise (fun a b => leI a b = true) ∧ wr.ownsRow (w.heap.size + 1) 3 1 (.slice oa zs.length oc) zs.length (zs.map (Value.int .i64)) ∧ Blk wr w.heap.size 45 (boxC b) ∧ Below w.heap.size w wr)
    case atStart => exact ⟨0, none, 0, [], Nat.zero_le _, rfl, rfl, rfl, List.Perm.refl _, List.Pairwise.nil, World.ownsRow_nil _ _ _ _, HB1.out, HK1.out⟩
    case round =>
      obtain ⟨wo, hwo⟩ : ∃ wo, wo = wr := ⟨_, rfl⟩
      subst hwo
      obtain ⟨n, oa, oc, zs, hn, rfl, rfl, hgk, hper, hsor, how, hbb, hbe⟩ := hrel
      have HBE := Lib.hid hbe
      have HK := Lib.hid hgk
      have HPE := Lib.hid hper
      have HSO := Lib.hid hsor
      have HOW := Lib.hid how
      have HBB := Lib.hid hbb
      have ko := hbe.size
      have lbb := hbb.lt
      have hzl : zs.length ≤ n := by
        have := hper.length_eq
        rw [this, List.length_map]
        exact Nat.le_trans (List.length_filter_le _ _) (List.length_take_le _ _)
      clear hgk hper hsor how hbe
      rcases Nat.lt_or_ge n l.length with hlt | hge
      · obtain ⟨x, hx⟩ : ∃ x, l[n]? = some x := ⟨_, List.getElem?_eq_getElem hlt⟩
        obtain ⟨b1, o1, c1, e1, _, j0, j1, j2, j3, j4⟩ := (HB.out.below HBE.out).at5 hx
        obtain ⟨rfl, rfl⟩ : av = some ⟨b1, o1, none⟩ ∧ cv = c1 := by simpa using e1
        have y1 := hbb.cell 1
        have y2 := hbb.cell 2
        have y3 := hbb.cell 3
        have y4 := hbb.cell 4
        simp at y1 y2 y3 y4
        have nl1 : ¬ w.heap.size = wo.heap.size := by omega
        have nl2 : ¬ wo.heap.size = w.heap.size := by omega
        have hstep : (((l.take (n + 1)).filter fun a => M.meetB a b).map (·.id)) = (((l.take n).filter fun a => M.meetB a b).map (·.id)) ++ (if M.meetB x b = true then [x.id] else []) := by
          rw [List.take_add_one, hx, List.filter_append, List.map_append]
          simp only [Option.toList_some, List.filter_cons, List.filter_nil]
          split <;> rfl
        have HST := Lib.hid hstep
        clear e1 hx hbb hstep
        by_cases h1 : x.x1 < b.x2
        · by_cases h2 : b.x1 < x.x2
          · by_cases h3 : x.y1 < b.y2
            · by_cases h4 : b.y1 < x.y2
              · have hm : M.meetB x b = true := (M.meetB_iff x b).2 ⟨h1, h2, h3, h4⟩
                have HM := Lib.hid hm
                clear hm
                go_upto_region 10 with (at_builtin; refine wpList_append_own_at _ rfl (.tmp 46) (.tmp 49) _ rfl (w.heap.size + 1) 3 i0 _ 1 8 Try.underlying50 HI.out.1 HI.out.2.1 HI.out.2.2.1 HI.out.2.2.2 rfl (by omega) (.slice oa zs.length oc) zs.length (zs.map (Value.int .i64)) rfl (own_below HOW.out (show Below wo.heap.size wo _ from (by repeat first | with_reducible assumption | with_reducible exact Below.refl _ _ | with_reducible apply Below.drew | with_reducible apply below_drewN | with_reducible apply Below.alloc (hB := (by first | omega | (simp; done) | (simp; omega))) | with_reducible apply Below.setCell (hp := (by first | omega | (simp; done) | (simp; omega)))))) ⟨wo.heap.size + 1, 0, none⟩ 1 1 [.int .i64 x.id] rfl rfl (by intro j u hu; match j, hu with | 0, hu => (simp at hu; subst hu; rw [Addr.add_lit]; simp) | j + 1, hu => simp at hu) (by intro u hu; simp at hu; subst hu; rfl) (by unfold maxLen; omega) (by omega) (by simp; omega) ?_; intro v9 w9 hown9 hg9 _ hat9; obtain ⟨g9, c9, rfl, hg91, hg92⟩ := own_val hown9 (by omega); have HO9 := Lib.hid hown9; have HG9 := Lib.hid hg9; have HA9 := Lib.hid hat9; have kz9 := hg9.size; (try simp at kz9); clear hown9 hg9 hat9)
                obtain ⟨m, hm⟩ : ∃ m, m = zs.length := ⟨_, rfl⟩
                have b79 : Blk w9 wo.heap.size 45 (boxC x) := Blk.grown' (by exact (Blk.new_at rfl).alloc _) HG9.out (fun e => by have := (HOW.out.lt _ e).2; omega)
                have bb9 : Blk w9 w.heap.size 45 (boxC b) := Blk.grown' (by exact (HBB.out.alloc _).alloc _) HG9.out (fun e => by have := (HOW.out.lt _ e).1; omega)
                have hg9w : w.heap.size < g9 := by omega
                have hg9x : g9 ≠ wo.heap.size := by
                  rcases HA9.out with k | k
                  · intro e
                    have := (HOW.out.lt g9 (by rw [← k]; rfl)).2
                    omega
                  · simp [Value.ownBlock] at k
                    omega
                have HX9 := Lib.hid b79
                have HB9 := Lib.hid bb9
                have HBE9 : Hid (Below w.heap.size w w9) := Lib.hid (((HBE.out.alloc ko _).alloc (by simp; omega) _).grown HG9.out (by simp; omega) (fun k hk => by have := (HOW.out.lt k hk).1; omega))
                have HW9 : Hid (w9.ownsRow (w.heap.size + 1) 3 1 (.slice (some ⟨g9, 0, none⟩) (zs.length + 1) c9) (zs.length + 1) ((zs ++ [x.id]).map (Value.int .i64))) := Lib.hid (by rw [List.map_append]; exact HO9.out)
                clear b79 bb9 y1 y2 y3 y4 j0 j1 j2 j3 j4 h1 h2 h3 h4
                go_loopg [8] zs.length (fun gh i wr => ∃ (k : Nat) (out : List Int), k ≤ zs.length ∧ i = .int .i64 k ∧ gh = k ∧ M.Hole zs k out ∧ (∀ q ∈ zs.drop k, leI q x.id = false) ∧ wr.ownsRow (w.heap.size + 1) 3 1 (.slice (some ⟨g9, 0, none⟩) (zs.length + 1) c9) (zs.length + 1) (out.map (Value.int .i64)) ∧ Bar g9 w9 wr)
                case atStart => exact ⟨zs.length, zs ++ [x.id], Nat.le_refl _, rfl, rfl, M.hole_start zs x.id, (by simp), HW9.out, Bar.refl _ _⟩
                case round =>
                  obtain ⟨wq, hwq⟩ : ∃ wq, wq = wr := ⟨_, rfl⟩
                  subst hwq
                  obtain ⟨k, out, hk, rfl, hgk, hho, hdr, how, hbar⟩ := hrel
                  have HKK := Lib.hid hgk
                  have HHO := Lib.hid hho
                  have HDR := Lib.hid hdr
                  have HOQ := Lib.hid how
                  have HBAR := Lib.hid hbar
                  have kq := hbar.size
                  have bx := HX9.out.bar hbar (fun e => hg9x e.symm)
                  have y0 := bx.cell 0
                  simp at y0
                  have ly := bx.lt
                  have lg := (how.lt g9 rfl).2
                  have hol := M.hole_len hho hk
                  have fq := fun j => how.frozenAt j
                  clear hgk hho hdr hbar bx
                  rcases Nat.eq_zero_or_pos k with hk0 | hkp
                  · subst hk0
                    obtain ⟨u1, hu1⟩ : ∃ u, out[0]? = some u := ⟨_, List.getElem?_eq_getElem (by omega)⟩
                    have z1 := (how.cellAt 0 (by omega)).trans (show (out.map (Value.int .i64))[0]? = some (.int .i64 u1) by simp [hu1])
                    clear hu1
                    have q0 : decide ((0 : Int) < ((0 : Nat) : Int)) = false := by rw [decide_eq_false_iff_not]; omega
                    clear how
                    have hins := look_ins (x := x.id) HHO.out hk HDR.out (fun j q e _ => by omega) HSO.out
                    have HINS := Lib.hid hins
                    have q4 : (0 : Int) < (zs.length : Int) + 1 := by omega
                    clear hins
                    go_wp2_with fail
                    go_quiet (fail)
                    go_wp2_with fail
                    go_roundg (l.length - (n + 1))
                    case measure => rw [HK.out]; omega
                    case rel =>
                      obtain ⟨s1, s2, s3⟩ := HINS.out
                      refine ⟨n + 1, some ⟨g9, 0, none⟩, c9, out.set 0 x.id, by omega, by go_num, by rw [s3], rfl, ?_, s1, ?_, ?_, ?_⟩
                      · rw [HST.out, if_pos HM.out]
                        exact s2.trans (HPE.out.append_right _)
                      · rw [s3]
                        exact own_same (ints_put HOQ.out 0 x.id) (fun _ _ => rfl)
                      · exact (HB9.out.bar (HBAR.out.drewN _) (by omega)).far (by simp; omega) _
                      · exact (HBE9.out.trans ((HBAR.out.drewN _).below (B := w.heap.size) (by omega) (by omega))).setCell (by simp; omega) _
                  · obtain ⟨j, rfl⟩ : ∃ j, k = j + 1 := ⟨k - 1, by omega⟩
                    obtain ⟨u, hu⟩ : ∃ u, zs[j]? = some u := ⟨_, List.getElem?_eq_getElem (by omega)⟩
                    have hou := (M.hole_at HHO.out hk (Nat.lt_succ_self j)).trans hu
                    have z0 := (how.cellAt j (by omega)).trans (show (out.map (Value.int .i64))[j]? = some (.int .i64 u) by simp [hou])
                    have q0 : decide ((0 : Int) < ((j : Int) + 1)) = true := by rw [decide_eq_true_eq]; omega
                    have q1 : (0 : Int) ≤ (j : Int) := by omega
                    have q2 : (j : Int) < (zs.length : Int) + 1 := by omega
                    have hw1 : IntKind.i64.wrap ((j : Int) + 1 - 1) = (j : Int) := by rw [IntKind.wrap_i64]; omega
                    have HU := Lib.hid hu
                    obtain ⟨u1, hu1⟩ : ∃ u, out[j + 1]? = some u := ⟨_, List.getElem?_eq_getElem (by omega)⟩
                    have z1 := (how.cellAt (j + 1) (by omega)).trans (show (out.map (Value.int .i64))[j + 1]? = some (.int .i64 u1) by simp [hu1])
                    have q8 : ((j : Int) + 1) < (zs.length : Int) + 1 := by omega
                    clear hu1
                    rw [show ((j + 1 : Nat) : Int) = (j : Int) + 1 by omega]
                    clear how hou hu
                    by_cases hgt : x.id < u
                    · have HGT := Lib.hid hgt
                      go_wp2_with fail
                      go_quiet (fail)
                      go_wp2_with fail
                      go_roundg j
                      case measure => rw [HKK.out]; omega
                      case rel =>
                        refine ⟨j, out.set (j + 1) u, by omega, by go_num, rfl, M.hole_go HHO.out hk HU.out, ?_, ?_, (HBAR.out.drewN _).setCell _ _⟩
                        · intro q hq
                          rw [List.drop_eq_getElem_cons (show j < zs.length by omega)] at hq
                          rcases List.mem_cons.1 hq with e | e
                          · have hu2 := HU.out
                            rw [List.getElem?_eq_getElem (show j < zs.length by omega)] at hu2
                            simp only [Option.some.injEq] at hu2
                            have := HGT.out
                            rw [e, hu2]
                            unfold leI
                            rw [decide_eq_false_iff_not]
                            omega
                          · exact HDR.out q e
                        · exact own_same (ints_put HOQ.out (j + 1) u) (fun _ _ => rfl)
                    · have q7 : decide (x.id < u) = false := decide_eq_false hgt
                      have hins := look_ins (x := x.id) HHO.out hk HDR.out (fun j' q e hq => by
                        obtain rfl : j' = j := by omega
                        rw [HU.out] at hq
                        simp only [Option.some.injEq] at hq
                        subst hq
                        unfold leI
                        rw [decide_eq_true_eq]
                        omega) HSO.out
                      have HINS := Lib.hid hins
                      clear hins
                      go_wp2_with fail
                      go_quiet (fail)
                      go_wp2_with fail
                      go_roundg (l.length - (n + 1))
                      case measure => rw [HK.out]; omega
                      case rel =>
                        obtain ⟨s1, s2, s3⟩ := HINS.out
                        refine ⟨n + 1, some ⟨g9, 0, none⟩, c9, out.set (j + 1) x.id, by omega, by go_num, by rw [s3], rfl, ?_, s1, ?_, ?_, ?_⟩
                        · rw [HST.out, if_pos HM.out]
                          exact s2.trans (HPE.out.append_right _)
                        · rw [s3]
                          exact own_same (ints_put HOQ.out (j + 1) x.id) (fun _ _ => rfl)
                        · exact (HB9.out.bar (HBAR.out.drewN _) (by omega)).far (by simp; omega) _
                        · exact (HBE9.out.trans ((HBAR.out.drewN _).below (B := w.heap.size) (by omega) (by omega))).setCell (by simp; omega) _
              · have hm : M.meetB x b = false := by
                  cases hq : M.meetB x b
                  · rfl
                  · have := (M.meetB_iff x b).1 hq; omega
                have hs2 := HST.out
                rw [if_neg (by rw [hm]; simp), List.append_nil] at hs2
                have HS2 := Lib.hid hs2
                clear hm hs2
                go_wp2_with fail
                go_roundg (l.length - (n + 1))
                case measure => rw [HK.out]; omega
                case rel => exact ⟨n + 1, oa, oc, zs, by omega, by go_num, rfl, rfl, by rw [HS2.out]; exact HPE.out, HSO.out, own_below HOW.out (by repeat first | with_reducible assumption | with_reducible exact Below.refl _ _ | with_reducible apply Below.drew | with_reducible apply below_drewN | with_reducible apply Below.alloc (hB := (by first | omega | (simp; done) | (simp; omega))) | with_reducible apply Below.setCell (hp := (by first | omega | (simp; done) | (simp; omega)))), (HBB.out.below (show Below wo.heap.size wo _ from (by repeat first | with_reducible assumption | with_reducible exact Below.refl _ _ | with_reducible apply Below.drew | with_reducible apply below_drewN | with_reducible apply Below.alloc (hB := (by first | omega | (simp; done) | (simp; omega))) | with_reducible apply Below.setCell (hp := (by first | omega | (simp; done) | (simp; omega))))) HBB.out.lt), HBE.out.trans ((show Below wo.heap.size wo _ from (by repeat first | with_reducible assumption | with_reducible exact Below.refl _ _ | with_reducible apply Below.drew | with_reducible apply below_drewN | with_reducible apply Below.alloc (hB := (by first | omega | (simp; done) | (simp; omega))) | with_reducible apply Below.setCell (hp := (by first | omega | (simp; done) | (simp; omega))))).mono ko)⟩
            · have hm : M.meetB x b = false := by
                cases hq : M.meetB x b
                · rfl
                · have := (M.meetB_iff x b).1 hq; omega
              have hs2 := HST.out
              rw [if_neg (by rw [hm]; simp), List.append_nil] at hs2
              have HS2 := Lib.hid hs2
              clear hm hs2
              go_wp2_with fail
              go_roundg (l.length - (n + 1))
              case measure => rw [HK.out]; omega
              case rel => exact ⟨n + 1, oa, oc, zs, by omega, by go_num, rfl, rfl, by rw [HS2.out]; exact HPE.out, HSO.out, own_below HOW.out (by repeat first | with_reducible assumption | with_reducible exact Below.refl _ _ | with_reducible apply Below.drew | with_reducible apply below_drewN | with_reducible apply Below.alloc (hB := (by first | omega | (simp; done) | (simp; omega))) | with_reducible apply Below.setCell (hp := (by first | omega | (simp; done) | (simp; omega)))), (HBB.out.below (show Below wo.heap.size wo _ from (by repeat first | with_reducible assumption | with_reducible exact Below.refl _ _ | with_reducible apply Below.drew | with_reducible apply below_drewN | with_reducible apply Below.alloc (hB := (by first | omega | (simp; done) | (simp; omega))) | with_reducible apply Below.setCell (hp := (by first | omega | (simp; done) | (simp; omega))))) HBB.out.lt), HBE.out.trans ((show Below wo.heap.size wo _ from (by repeat first | with_reducible assumption | with_reducible exact Below.refl _ _ | with_reducible apply Below.drew | with_reducible apply below_drewN | with_reducible apply Below.alloc (hB := (by first | omega | (simp; done) | (simp; omega))) | with_reducible apply Below.setCell (hp := (by first | omega | (simp; done) | (simp; omega))))).mono ko)⟩
          · have hm : M.meetB x b = false := by
              cases hq : M.meetB x b
              · rfl
              · have := (M.meetB_iff x b).1 hq; omega
            have hs2 := HST.out
            rw [if_neg (by rw [hm]; simp), List.append_nil] at hs2
            have HS2 := Lib.hid hs2
            clear hm hs2
            go_wp2_with fail
            go_roundg (l.length - (n + 1))
            case measure => rw [HK.out]; omega
            case rel => exact ⟨n + 1, oa, oc, zs, by omega, by go_num, rfl, rfl, by rw [HS2.out]; exact HPE.out, HSO.out, own_below HOW.out (by repeat first | with_reducible assumption | with_reducible exact Below.refl _ _ | with_reducible apply Below.drew | with_reducible apply below_drewN | with_reducible apply Below.alloc (hB := (by first | omega | (simp; done) | (simp; omega))) | with_reducible apply Below.setCell (hp := (by first | omega | (simp; done) | (simp; omega)))), (HBB.out.below (show Below wo.heap.size wo _ from (by repeat first | with_reducible assumption | with_reducible exact Below.refl _ _ | with_reducible apply Below.drew | with_reducible apply below_drewN | with_reducible apply Below.alloc (hB := (by first | omega | (simp; done) | (simp; omega))) | with_reducible apply Below.setCell (hp := (by first | omega | (simp; done) | (simp; omega))))) HBB.out.lt), HBE.out.trans ((show Below wo.heap.size wo _ from (by repeat first | with_reducible assumption | with_reducible exact Below.refl _ _ | with_reducible apply Below.drew | with_reducible apply below_drewN | with_reducible apply Below.alloc (hB := (by first | omega | (simp; done) | (simp; omega))) | with_reducible apply Below.setCell (hp := (by first | omega | (simp; done) | (simp; omega))))).mono ko)⟩
        · have hm : M.meetB x b = false := by
            cases hq : M.meetB x b
            · rfl
            · have := (M.meetB_iff x b).1 hq; omega
          have hs2 := HST.out
          rw [if_neg (by rw [hm]; simp), List.append_nil] at hs2
          have HS2 := Lib.hid hs2
          clear hm hs2
          go_wp2_with fail
          go_roundg (l.length - (n + 1))
          case measure => rw [HK.out]; omega
          case rel => exact ⟨n + 1, oa, oc, zs, by omega, by go_num, rfl, rfl, by rw [HS2.out]; exact HPE.out, HSO.out, own_below HOW.out (by repeat first | with_reducible assumption | with_reducible exact Below.refl _ _ | with_reducible apply Below.drew | with_reducible apply below_drewN | with_reducible apply Below.alloc (hB := (by first | omega | (simp; done) | (simp; omega))) | with_reducible apply Below.setCell (hp := (by first | omega | (simp; done) | (simp; omega)))), (HBB.out.below (show Below wo.heap.size wo _ from (by repeat first | with_reducible assumption | with_reducible exact Below.refl _ _ | with_reducible apply Below.drew | with_reducible apply below_drewN | with_reducible apply Below.alloc (hB := (by first | omega | (simp; done) | (simp; omega))) | with_reducible apply Below.setCell (hp := (by first | omega | (simp; done) | (simp; omega))))) HBB.out.lt), HBE.out.trans ((show Below wo.heap.size wo _ from (by repeat first | with_reducible assumption | with_reducible exact Below.refl _ _ | with_reducible apply Below.drew | with_reducible apply below_drewN | with_reducible apply Below.alloc (hB := (by first | omega | (simp; done) | (simp; omega))) | with_reducible apply Below.setCell (hp := (by first | omega | (simp; done) | (simp; omega))))).mono ko)⟩
      · obtain rfl : n = l.length := by omega
        have q9 : decide ((l.length : Int) < (l.length : Int)) = false := decide_eq_false (by omega)
        have hfin : zs = M.lookB l b := M.look_of_sorted HQ.out (by have := HPE.out; rw [List.take_length] at this; exact this) HSO.out
        have HF := Lib.hid hfin
        clear hfin
        go_wp2_with fail
        go_ret
        exact ⟨_, rfl, by rw [← HF.out]; exact own_mono HOW.out (by omega), HBE.out⟩
end Go.Proofs.Ytkpecagkpjabdab
