/- The contracts of sweep.Meet, pair and Good. Condition: the boxes' numbers are of 64 bits. -/
import Derived.Test.YtkpecagkpjabdabStoreGood
import Derived.Test.YtkpecagkpjabdabOpenSweep
namespace Go.Proofs.Ytkpecagkpjabdab
open Go.RowKit Go.Maps
set_option linter.unusedVariables false
set_option linter.unusedSimpArgs false
set_option maxRecDepth 100000

set_option maxHeartbeats 1000000 in
theorem meetB_calls (a b : M.Box) (w : World) :
    Calls Try.prog 20 #[boxV a, boxV b] w fun e w' => e = .returned (.bool (M.meetB a b)) ∧ Below w.heap.size w w' := by
  obtain ⟨q1, h1⟩ : ∃ q, q = decide (a.x1 < b.x2) := ⟨_, rfl⟩
  obtain ⟨q2, h2⟩ : ∃ q, q = decide (b.x1 < a.x2) := ⟨_, rfl⟩
  obtain ⟨q3, h3⟩ : ∃ q, q = decide (a.y1 < b.y2) := ⟨_, rfl⟩
  obtain ⟨q4, h4⟩ : ∃ q, q = decide (b.y1 < a.y2) := ⟨_, rfl⟩
  have hm : M.meetB a b = (q1 && (q2 && (q3 && q4))) := by rw [h1, h2, h3, h4]; rfl
  rw [hm]
  clear hm
  have e1 := h1.symm
  have e2 := h2.symm
  have e3 := h3.symm
  have e4 := h4.symm
  clear h1 h2 h3 h4
  cases q1
  · go_enter Try.func20, Try.ntmps20
    go_wp2_with fail
    go_ret
    exact ⟨rfl, (by repeat first | with_reducible assumption | with_reducible exact Below.refl _ _ | with_reducible apply Below.drew | with_reducible apply below_drewN | with_reducible apply Below.alloc (hB := (by first | omega | (simp; done) | (simp; omega))) | with_reducible apply Below.setCell (hp := (by first | omega | (simp; done) | (simp; omega))))⟩
  cases q2
  · go_enter Try.func20, Try.ntmps20
    go_wp2_with fail
    go_ret
    exact ⟨rfl, (by repeat first | with_reducible assumption | with_reducible exact Below.refl _ _ | with_reducible apply Below.drew | with_reducible apply below_drewN | with_reducible apply Below.alloc (hB := (by first | omega | (simp; done) | (simp; omega))) | with_reducible apply Below.setCell (hp := (by first | omega | (simp; done) | (simp; omega))))⟩
  cases q3
  · go_enter Try.func20, Try.ntmps20
    go_wp2_with fail
    go_ret
    exact ⟨rfl, (by repeat first | with_reducible assumption | with_reducible exact Below.refl _ _ | with_reducible apply Below.drew | with_reducible apply below_drewN | with_reducible apply Below.alloc (hB := (by first | omega | (simp; done) | (simp; omega))) | with_reducible apply Below.setCell (hp := (by first | omega | (simp; done) | (simp; omega))))⟩
  cases q4
  · go_enter Try.func20, Try.ntmps20
    go_wp2_with fail
    go_ret
    exact ⟨rfl, (by repeat first | with_reducible assumption | with_reducible exact Below.refl _ _ | with_reducible apply Below.drew | with_reducible apply below_drewN | with_reducible apply Below.alloc (hB := (by first | omega | (simp; done) | (simp; omega))) | with_reducible apply Below.setCell (hp := (by first | omega | (simp; done) | (simp; omega))))⟩
  · go_enter Try.func20, Try.ntmps20
    go_wp2_with fail
    go_ret
    exact ⟨rfl, (by repeat first | with_reducible assumption | with_reducible exact Below.refl _ _ | with_reducible apply Below.drew | with_reducible apply below_drewN | with_reducible apply Below.alloc (hB := (by first | omega | (simp; done) | (simp; omega))) | with_reducible apply Below.setCell (hp := (by first | omega | (simp; done) | (simp; omega))))⟩
theorem pair_calls (a b : Int) (w : World) :
    Calls Try.prog 52 #[.int .i64 a, .int .i64 b] w fun e w' => e = .returned (pairV (M.pairOf a b)) ∧ Below w.heap.size w w' := by
  go_enter Try.func52, Try.ntmps52
  go_wp2_with fail
  refine bodyPost_ret (v := pairV (M.pairOf a b)) ?_ rfl ⟨rfl, (by repeat first | with_reducible assumption | with_reducible exact Below.refl _ _ | with_reducible apply Below.drew | with_reducible apply below_drewN | with_reducible apply Below.alloc (hB := (by first | omega | (simp; done) | (simp; omega))) | with_reducible apply Below.setCell (hp := (by first | omega | (simp; done) | (simp; omega))))⟩
  simp only [results, Try.results52]
  go_simp
  exact ⟨rfl, rfl⟩
/-! Good -/
theorem goodB_short {l : List M.Box} {n : Nat} {b : M.Box} (h : l[n]? = some b) (hb : b.x2 ≤ b.x1 ∨ b.y2 ≤ b.y1) : M.goodB l = false := by
  unfold M.goodB
  rw [decide_eq_false_iff_not]
  intro g
  have := g.1 b (List.mem_of_getElem? h)
  omega
theorem take_map_id {l : List M.Box} {n : Nat} {b : M.Box} (h : l[n]? = some b) : (l.take (n + 1)).map (·.id) = (l.take n).map (·.id) ++ [b.id] := by
  rw [List.take_add_one, h]; simp
theorem goodB_twice {l : List M.Box} {n : Nat} {b : M.Box} (h : l[n]? = some b) (hb : b.id ∈ (l.take n).map (·.id)) : M.goodB l = false := by
  unfold M.goodB
  rw [decide_eq_false_iff_not]
  intro g
  have h1 : (l.take (n + 1)).map (·.id) <+: l.map (·.id) := by rw [List.map_take]; exact List.take_prefix _ _
  have h2 := h1.sublist.nodup g.2
  rw [take_map_id h, List.nodup_append] at h2
  exact h2.2.2 b.id hb b.id (by simp) rfl
theorem goodB_step {l : List M.Box} {n : Nat} {b : M.Box} (g : M.GoodB (l.take n)) (h : l[n]? = some b) (h1 : b.x1 < b.x2) (h2 : b.y1 < b.y2) (h3 : b.id ∉ (l.take n).map (·.id)) : M.GoodB (l.take (n + 1)) := by
  refine ⟨fun c hc => ?_, ?_⟩
  · rw [List.take_add_one, h] at hc
    simp only [Option.toList_some, List.mem_append, List.mem_singleton] at hc
    rcases hc with hc | rfl
    · exact g.1 c hc
    · exact ⟨h1, h2⟩
  · rw [take_map_id h, List.nodup_append]
    exact ⟨g.2, by simp, fun x hx y hy e => by simp only [List.mem_singleton] at hy; subst hy; subst e; exact h3 hx⟩

set_option maxHeartbeats 2000000 in
theorem goodB_calls {w : World} {lo : Nat} {v : Value} {l : List M.Box} (h : BoxesAt5 w lo v l) (hin : ∀ b ∈ l, BoxIn b) :
    Calls Try.prog 17 #[v] w fun e w' => e = .returned (.bool (M.goodB l)) ∧ Below w.heap.size w w' := by
  obtain ⟨a, cap, rfl⟩ := h.val
  have hmx : l.length ≤ 9223372036854775807 := by have := h.max; unfold maxLen at this; omega
  have hmx2 := Lib.hid h.max
  have HB := Lib.hid h
  have HI := Lib.hid hin
  clear h hin
  have hmm := @run_makeMap Try.prog
  go_enter Try.func17, Try.ntmps17
  go_wp2_with fail
  go_loopg [9] l.length (fun g i wr => ∃ n : Nat, n ≤ l.length ∧ i = .int .i64 n ∧ g = l.length - n ∧ Below w.heap.size w wr ∧ SeenAt wr w.heap.size ((l.take n).map (·.id)) ∧ M.GoodB (l.take n))
  case atStart =>
    refine ⟨0, Nat.zero_le _, rfl, rfl, (Below.refl _ _).alloc (Nat.le_refl _) _, ?_, ⟨by simp, by simp⟩⟩
    have := World.ownsMap_made w Try.prog 3 (plainElem (H := Unit) Try.prog 4)
    simpa [SeenAt, M.keysOf, setOf] using this
  case round =>
    obtain ⟨wo, hwo⟩ : ∃ wo, wo = wr := ⟨_, rfl⟩
    subst hwo
    obtain ⟨n, hn, rfl, hg, hb1, hseen, hgd⟩ := hrel
    have HB1 := Lib.hid hb1
    have HG := Lib.hid hg
    have hz := hb1.size
    have lt2 : w.heap.size < wo.heap.size := World.ownsMap.lt hseen
    have HS := Lib.hid hseen
    have HD := Lib.hid hgd
    clear hb1 hg hseen hgd
    rcases Nat.lt_or_ge n l.length with hlt | hge
    · obtain ⟨b, hbx⟩ : ∃ b, l[n]? = some b := ⟨_, List.getElem?_eq_getElem hlt⟩
      obtain ⟨b1, o1, c1, e1, _, i0, i1, i2, i3, i4⟩ := (HB.out.below HB1.out).at5 hbx
      obtain ⟨rfl, rfl⟩ : a = some ⟨b1, o1, none⟩ ∧ cap = c1 := by simpa using e1
      have hi64 := (HI.out b (List.mem_of_getElem? hbx)).1
      have HX := Lib.hid hbx
      have HI64 := Lib.hid hi64
      have HS2 := Lib.hid (HS.out.alloc (.cells (boxC b) 45))
      have lk := seen_look HS2.out hi64 0
      change (Instr.lookup 74 (.map (some w.heap.size)) (.int .i64 b.id) false).run Try.prog (wo.alloc (.cells (boxC b) 45)) = .ok (.bool _) (wo.alloc (.cells (boxC b) 45)) at lk
      clear e1 hbx hi64
      by_cases y1 : b.x2 ≤ b.x1
      · go_wp2_with fail
        go_ret
        exact ⟨ret_bool (goodB_short HX.out (.inl y1)).symm, HB1.out.alloc (by omega) _⟩
      have y1' : decide (b.x2 ≤ b.x1) = false := decide_eq_false y1
      by_cases y2 : b.y2 ≤ b.y1
      · go_wp2_with fail
        go_ret
        exact ⟨ret_bool (goodB_short HX.out (.inr y2)).symm, HB1.out.alloc (by omega) _⟩
      have y2' : decide (b.y2 ≤ b.y1) = false := decide_eq_false y2
      by_cases y3 : b.id ∈ (l.take n).map (·.id)
      · rw [decide_eq_true y3] at lk
        have Y3 := Lib.hid y3
        clear y3
        go_wp2_with fail
        go_ret
        exact ⟨ret_bool (goodB_twice HX.out Y3.out).symm, HB1.out.alloc (by omega) _⟩
      · rw [decide_eq_false y3] at lk
        have HD2 := Lib.hid (goodB_step HD.out HX.out (by omega) (by omega) y3)
        have HKEY := Lib.hid (keyOf_int_mk Try.underlying3 (WalkArith.wf_i64 HI64.out))
        have ES := Lib.hid (take_map_id HX.out)
        obtain ⟨L, hL⟩ : ∃ L, L = (l.take n).map (·.id) := ⟨_, rfl⟩
        have hll : L.length = n := by rw [hL, List.length_map, List.length_take]; omega
        rw [← hL] at HS2 ES
        clear y3 hL
        go_wp2_with (at_mapUpdate; refine wpList_mapUpdate_own _ rfl _ _ _ 74 rfl 3 4 int_law Try.underlying74 _ w.heap.size L.length _ rfl HS2.out (by have := hmx2.out; omega) _ _ _ rfl rfl HKEY.out _ [] (plainElem_bool Try.underlying4 true) ?_; intro w6 hown6 hgrow6)
        go_roundg (l.length - (n + 1))
        case measure => rw [HG.out]; omega
        case rel =>
          refine ⟨n + 1, by omega, by go_num, rfl, ?_, ?_, HD2.out⟩
          · exact (HB1.out.alloc (by omega) _).grown hgrow6 (by simp; omega) (fun j hj => by cases hj; omega)
          · rw [ES.out]; exact seen_put hown6
    · obtain rfl : n = l.length := by omega
      have hgd := HD.out
      rw [List.take_length] at hgd
      have hgb : M.goodB l = true := by unfold M.goodB; exact decide_eq_true hgd
      go_wp2_with fail
      go_ret
      exact ⟨ret_bool hgb.symm, HB1.out⟩
end Go.Proofs.Ytkpecagkpjabdab
