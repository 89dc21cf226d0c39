/- The contract of the statements' own same, at two stores that are one. Condition: both lie in memory. -/
import Derived.Test.YtkpecagkpjabdaaStoreFind
import Derived.Test.YtkpecagkpjabdaaRowCells
import Derived.Deep.LoopGhost
import Derived.Deep.QuietTactic
import Derived.BigQuiet
namespace Go.Proofs.Ytkpecagkpjabdaa
open Go.RowKit
set_option linter.unusedVariables false
set_option linter.unusedSimpArgs false
set_option maxRecDepth 100000
theorem rowNe_self (a : M.Row) (w : World) : (binOp .neq 27 (rowV a) (rowV a)).run Try.prog w = .ok (.bool false) w := by
  have hS : Try.prog.underlying 27 = some (.struct (Try.prog.fieldsOf 27)) := by kernel_rfl
  have hp : Try.prog.stoodInHeld 27 = false := by kernel_rfl
  obtain ⟨a0, a1, a2, a3, a4, a5, a6, a7⟩ := a
  rw [run_neq_struct, show (10000 : Nat) = 9999 + 1 from rfl, run_equalIn_agg w 9999 27 _ _ hS hp]
  simp only [Program.fieldsOf, Try.underlying27]
  go_simp
theorem wp_named3 {P : Program} {c : Code} {Q : Exit → Act → World → Prop} {a : Act} {w : World} (h : ∀ W, W = w → c.wp P Q a W) : c.wp P Q a w := h w rfl
set_option maxHeartbeats 8000000 in
set_option maxRecDepth 100000 in
theorem lsame_calls {w : World} {lo lo' : Nat} {v v' : Value} {s : M.Store} (h1 : StoreAt w lo v s) (h2 : StoreAt w lo' v' s) :
    Calls Try.prog 46 #[v, v'] w fun e w' => e = .returned (.bool true) ∧ Below w.heap.size w w' := by
  obtain ⟨vt, rfl, hs, hT⟩ := h1
  obtain ⟨a, cap, rfl⟩ := hT.val
  obtain ⟨vt', rfl, hs', hT'⟩ := h2
  obtain ⟨a', cap', rfl⟩ := hT'.val
  have hmx : s.tables.length ≤ 9223372036854775807 := by have := hT.max; unfold maxLen at this; omega
  have HT := Lib.hid hT
  have HT' := Lib.hid hT'
  clear hT hT'
  have q1 : ((s.tables.length : Int) != (s.tables.length : Int)) = false := by simp
  have q2 : (s.next != s.next) = false := by simp
  go_enter Try.func46, Try.ntmps46
  go_upto_region 4 with fail
  refine wp_named3 fun ws hws => ?_
  have y0 : ws.cell? ⟨w.heap.size + 1, 0, none⟩ = some (.slice a' s.tables.length cap') := by rw [hws]; simp
  have KS : Below w.heap.size w ws := by rw [hws]; exact (by repeat first | with_reducible assumption | with_reducible exact Below.refl _ _ | with_reducible apply Below.drew | with_reducible apply below_drewN | with_reducible apply Below.alloc (hB := (by first | omega | (simp; done) | (simp; omega))) | with_reducible apply Below.setCell (hp := (by first | omega | (simp; done) | (simp; omega))))
  have HKS := Lib.hid KS
  have HY := Lib.hid y0
  have ks := KS.size
  clear hws KS y0
  go_loopg [26] s.tables.length (fun g i wr => ∃ n : Nat, n ≤ s.tables.length ∧ i = .int .i64 n ∧ g = s.tables.length - n ∧ Below ws.heap.size ws wr)
  case atStart => exact ⟨0, Nat.zero_le _, rfl, rfl, Below.refl _ _⟩
  case round =>
    obtain ⟨wo, hwo⟩ : ∃ wo, wo = wr := ⟨_, rfl⟩
    subst hwo
    obtain ⟨n, hn, rfl, hg, hb⟩ := hrel
    have HB := Lib.hid hb
    have HG := Lib.hid hg
    have KO : Below w.heap.size w wo := HKS.out.trans (hb.mono ks)
    have HKO := Lib.hid KO
    have y0 := below_cell HY.out hb
    have ko := hb.size
    clear hb hg KO
    rcases Nat.lt_or_ge n s.tables.length with hlt | hge
    · obtain ⟨t, ht⟩ : ∃ t, s.tables[n]? = some t := ⟨_, List.getElem?_eq_getElem hlt⟩
      obtain ⟨b, o, cp, a1, cp1, a2, cp2, e, _, _, c0, c1, c2, h1, h2⟩ := (HT.out.below HKO.out).at2 ht
      obtain ⟨b', o', cp', a1', cp1', a2', cp2', e', _, _, c0', c1', c2', h1', h2'⟩ := (HT'.out.below HKO.out).at2 ht
      obtain ⟨rfl, rfl⟩ : a = some ⟨b, o, none⟩ ∧ cap = cp := by simpa using e
      obtain ⟨rfl, rfl⟩ : a' = some ⟨b', o', none⟩ ∧ cap' = cp' := by simpa using e'
      have hm1 : t.ids.length ≤ 9223372036854775807 := by have := h1.max; unfold maxLen at this; omega
      have hm2 : t.rows.length ≤ 9223372036854775807 := by have := h2.max; unfold maxLen at this; omega
      have H1 := Lib.hid h1
      have H2 := Lib.hid h2
      have H1' := Lib.hid h1'
      have H2' := Lib.hid h2'
      have q3 : (t.mask != t.mask) = false := by simp
      have q4 : ((t.ids.length : Int) != (t.ids.length : Int)) = false := by simp
      have q5 : ((t.rows.length : Int) != (t.rows.length : Int)) = false := by simp
      have C0 := Lib.hid c0'
      have C1 := Lib.hid c1'
      have C2 := Lib.hid c2'
      clear e e' h1 h2 h1' h2' ht
      go_upto_region 6 with fail
      refine wp_named3 fun wl hwl => ?_
      have BT : Blk wl wo.heap.size 82 #[.int .i64 t.mask, .slice a1 t.ids.length cp1, .slice a2 t.rows.length cp2] := by rw [hwl]; exact Blk.new_at rfl
      have KL : Below wo.heap.size wo wl := by rw [hwl]; exact (by repeat first | with_reducible assumption | with_reducible exact Below.refl _ _ | with_reducible apply Below.drew | with_reducible apply below_drewN | with_reducible apply Below.alloc (hB := (by first | omega | (simp; done) | (simp; omega))) | with_reducible apply Below.setCell (hp := (by first | omega | (simp; done) | (simp; omega))))
      have HBT := Lib.hid BT
      have HKL := Lib.hid KL
      have kl := KL.size
      have SB := Lib.hid (fun W (hb : Below wl.heap.size wl W) => show (W.cell? ⟨wo.heap.size, 0, none⟩ = some (.int .i64 t.mask) ∧ W.cell? ⟨wo.heap.size, 1, none⟩ = some (.slice a1 t.ids.length cp1) ∧ W.cell? ⟨wo.heap.size, 2, none⟩ = some (.slice a2 t.rows.length cp2)) ∧ W.cell? ⟨w.heap.size + 1, 0, none⟩ = some (.slice (some ⟨b', o', none⟩) s.tables.length cap') ∧ (W.cell? ⟨b', o' + n * 3, none⟩ = some (.int .i64 t.mask) ∧ W.cell? ⟨b', o' + n * 3 + 1, none⟩ = some (.slice a1' t.ids.length cp1') ∧ W.cell? ⟨b', o' + n * 3 + 2, none⟩ = some (.slice a2' t.rows.length cp2')) from by
        have kb : Below wo.heap.size wo W := HKL.out.trans (hb.mono kl)
        have x := HBT.out.below hb HBT.out.lt
        exact ⟨⟨x.cell 0, x.cell 1, x.cell 2⟩, below_cell y0 kb, below_cell C0.out kb, below_cell C1.out kb, below_cell C2.out kb⟩)
      obtain ⟨⟨x0, x1, x2⟩, z0, c0', c1', c2'⟩ := SB.out wl (Below.refl _ _)
      clear hwl BT KL y0 c0 c1 c2
      go_quiet (fail)
      go_wp2_with fail
      go_loopg [69] t.ids.length (fun g i wr => ∃ k : Nat, k ≤ t.ids.length ∧ i = .int .i64 k ∧ g = t.ids.length - k ∧ Below wl.heap.size wl wr)
      case atStart => exact ⟨0, Nat.zero_le _, rfl, rfl, below_drewN (Below.refl _ _) _⟩
      case round =>
        obtain ⟨wq, hwq⟩ : ∃ wq, wq = wr := ⟨_, rfl⟩
        subst hwq
        obtain ⟨k, hk, rfl, hg, hb⟩ := hrel
        have HBQ := Lib.hid hb
        have HG1 := Lib.hid hg
        have kq := hb.size
        obtain ⟨⟨x0, x1, x2⟩, z0, c0', c1', c2'⟩ := SB.out wq hb
        clear hb hg
        rcases Nat.lt_or_ge k t.ids.length with hlt2 | hge2
        · obtain ⟨id, hid⟩ : ∃ id, t.ids[k]? = some id := ⟨_, List.getElem?_eq_getElem hlt2⟩
          obtain ⟨b3, o3, cp3, e3, _, i0⟩ := (H1.out.below (HKL.out.trans (HBQ.out.mono kl))).at hid
          obtain ⟨b4, o4, cp4, e4, _, i1⟩ := (H1'.out.below (HKL.out.trans (HBQ.out.mono kl))).at hid
          obtain ⟨rfl, rfl⟩ : a1 = some ⟨b3, o3, none⟩ ∧ cp1 = cp3 := by simpa using e3
          obtain ⟨rfl, rfl⟩ : a1' = some ⟨b4, o4, none⟩ ∧ cp1' = cp4 := by simpa using e4
          have q6 : (id != id) = false := by simp
          clear e3 e4 hid
          go_wp2_with fail
          go_quiet (fail)
          go_wp2_with fail
          go_roundg (t.ids.length - (k + 1))
          case measure => rw [HG1.out]; omega
          case rel => exact ⟨k + 1, by omega, by go_num, rfl, below_drewN HBQ.out _⟩
        · obtain rfl : k = t.ids.length := by omega
          have q9 : decide ((t.ids.length : Int) < (t.ids.length : Int)) = false := decide_eq_false (by omega)
          go_wp2_with fail
          go_loopg [91] t.rows.length (fun g i wr => ∃ k : Nat, k ≤ t.rows.length ∧ i = .int .i64 k ∧ g = t.rows.length - k ∧ Below wl.heap.size wl wr)
          case atStart => exact ⟨0, Nat.zero_le _, rfl, rfl, HBQ.out⟩
          case round =>
            obtain ⟨wp, hwp⟩ : ∃ wp, wp = wr := ⟨_, rfl⟩
            subst hwp
            obtain ⟨k, hk, rfl, hg, hb⟩ := hrel
            have HBP := Lib.hid hb
            have HG2 := Lib.hid hg
            have kp := hb.size
            obtain ⟨⟨x0, x1, x2⟩, z0, c0', c1', c2'⟩ := SB.out wp hb
            clear hb hg
            rcases Nat.lt_or_ge k t.rows.length with hlt3 | hge3
            · obtain ⟨r, hr⟩ : ∃ r, t.rows[k]? = some r := ⟨_, List.getElem?_eq_getElem hlt3⟩
              obtain ⟨b3, o3, cp3, e3, _, i0, i1, i2, i3, i4, i5, i6, i7⟩ := (H2.out.below (HKL.out.trans (HBP.out.mono kl))).at8 hr
              obtain ⟨b4, o4, cp4, e4, _, j0, j1, j2, j3, j4, j5, j6, j7⟩ := (H2'.out.below (HKL.out.trans (HBP.out.mono kl))).at8 hr
              obtain ⟨rfl, rfl⟩ : a2 = some ⟨b3, o3, none⟩ ∧ cp2 = cp3 := by simpa using e3
              obtain ⟨rfl, rfl⟩ : a2' = some ⟨b4, o4, none⟩ ∧ cp2' = cp4 := by simpa using e4
              have q6 := fun W => rowNe_self r W
              clear e3 e4 hr
              go_wp2_with fail
              go_quiet (fail)
              go_wp2_with fail
              go_roundg (t.rows.length - (k + 1))
              case measure => rw [HG2.out]; omega
              case rel => exact ⟨k + 1, by omega, by go_num, rfl, below_drewN HBP.out _⟩
            · obtain rfl : k = t.rows.length := by omega
              have q10 : decide ((t.rows.length : Int) < (t.rows.length : Int)) = false := decide_eq_false (by omega)
              go_wp2_with fail
              go_roundg (s.tables.length - (n + 1))
              case measure => rw [HG.out]; omega
              case rel => exact ⟨n + 1, by omega, by go_num, rfl, HB.out.trans ((HKL.out.trans (HBP.out.mono kl)).mono ko)⟩
    · obtain rfl : n = s.tables.length := by omega
      have q9 : decide ((s.tables.length : Int) < (s.tables.length : Int)) = false := decide_eq_false (by omega)
      go_wp2_with fail
      go_ret
      exact ⟨rfl, HKO.out⟩
end Go.Proofs.Ytkpecagkpjabdaa
