/- The contract of the statements' sameReply: two replies that are one. Condition: both lie in memory. -/
import Derived.Test.YtkpecagkpjabdacGreatBagH
import Derived.Test.YtkpecagkpjabdacGreatKit
import Derived.Deep.DeepCutAuto
import Derived.Laws.Rows
namespace Go.Proofs.YtkpecagkpjabdacGreat
open Go.RowKit
set_option linter.unusedVariables false
set_option linter.unusedSimpArgs false
set_option maxRecDepth 100000
theorem pairNe_same (a : M.Pr) (w : World) : (binOp .neq 75 (.agg #[.int .i64 a.1, .int .i64 a.2]) (.agg #[.int .i64 a.1, .int .i64 a.2])).run Tryz.prog w = .ok (.bool false) w := by
  have hS : Tryz.prog.underlying 75 = some (.struct (Tryz.prog.fieldsOf 75)) := by kernel_rfl
  have hp : Tryz.prog.stoodInHeld 75 = false := by kernel_rfl
  obtain ⟨a0, a1⟩ := a
  rw [run_neq_struct, show (10000 : Nat) = 9999 + 1 from rfl, run_equalIn_agg w 9999 75 _ _ hS hp]
  simp only [Program.fieldsOf, Tryz.underlying75]
  go_simp
abbrev replyC (r : M.Reply) (ids met : Value) : Array Value := #[.int .i64 r.code, .int .i64 r.n, ids, met]
set_option maxHeartbeats 8000000 in
set_option maxRecDepth 100000 in
theorem sameReply_calls {w : World} {r : M.Reply} {ids met ids' met' : Value} (h1 : IntsAt w 0 ids r.ids) (h2 : PairsAt w 0 met r.met) (h3 : IntsAt w 0 ids' r.ids) (h4 : PairsAt w 0 met' r.met) :
    Calls Tryz.prog 25 #[replyV r ids met, replyV r ids' met'] w fun e w' => e = .returned (.bool true) ∧ Below w.heap.size w w' := by
  obtain ⟨ai, ci, rfl⟩ := h1.val
  obtain ⟨am, cm, rfl⟩ := h2.val
  obtain ⟨bi, di, rfl⟩ := h3.val
  obtain ⟨bm, dm, rfl⟩ := h4.val
  have him : r.ids.length ≤ 9223372036854775807 := by have := h1.max; unfold maxLen at this; omega
  have hmm : r.met.length ≤ 9223372036854775807 := by have := h2.max; unfold maxLen at this; omega
  have H1 := Lib.hid h1
  have H2 := Lib.hid h2
  have H3 := Lib.hid h3
  have H4 := Lib.hid h4
  clear h1 h2 h3 h4
  go_enter Tryz.func25, Tryz.ntmps25
  go_upto_region 1 with (fail)
  refine wp_called (fun ws hws => ?_)
  have b1 : Blk ws w.heap.size 40 (replyC r (.slice ai r.ids.length ci) (.slice am r.met.length cm)) := by rw [hws]; exact (Blk.new_at rfl).alloc _
  have b2 : Blk ws (w.heap.size + 1) 40 (replyC r (.slice bi r.ids.length di) (.slice bm r.met.length dm)) := by rw [hws]; exact Blk.new_at (by simp)
  have KS : Below w.heap.size w ws := by rw [hws]; exact (by repeat first | with_reducible assumption | with_reducible exact Below.refl _ _ | with_reducible apply Below.drew | with_reducible apply below_drewN | with_reducible apply Below.alloc (hB := (by first | omega | (simp; done) | (simp; omega))) | with_reducible apply Below.setCell (hp := (by first | omega | (simp; done) | (simp; omega))))
  have HB1 := Lib.hid b1
  have HB2 := Lib.hid b2
  have HKS := Lib.hid KS
  have ks := KS.size
  have lb2 := b2.lt
  have x0 := b1.cell 0
  have x1 := b1.cell 1
  have x2 := b1.cell 2
  have x3 := b1.cell 3
  have y0 := b2.cell 0
  have y1 := b2.cell 1
  have y2 := b2.cell 2
  have y3 := b2.cell 3
  simp at x0 x1 x2 x3 y0 y1 y2 y3
  clear hws b1 b2 KS
  go_wp2_with fail
  clear x0 x1 x2 x3 y0 y1 y2 y3
  go_loopg [40] r.ids.length (fun g i wr => ∃ n : Nat, n ≤ r.ids.length ∧ i = .int .i64 n ∧ g = r.ids.length - n ∧ Below ws.heap.size ws wr)
  case atStart => exact ⟨0, Nat.zero_le _, rfl, rfl, Below.refl _ _⟩
  case round =>
    obtain ⟨wo, hwo⟩ : ∃ wo, wo = wr := ⟨_, rfl⟩
    subst hwo
    obtain ⟨n, hn, rfl, hk, hb⟩ := hrel
    have HB := Lib.hid hb
    have HK := Lib.hid hk
    have ko := hb.size
    have KO : Below w.heap.size w wo := HKS.out.trans (hb.mono ks)
    have b1 := HB1.out.below hb HB1.out.lt
    have b2 := HB2.out.below hb HB2.out.lt
    have x2 := b1.cell 2
    have x3 := b1.cell 3
    have y2 := b2.cell 2
    have y3 := b2.cell 3
    simp at x2 x3 y2 y3
    clear hk hb b1 b2
    rcases Nat.lt_or_ge n r.ids.length with hlt | hge
    · obtain ⟨id, hid⟩ : ∃ id, r.ids[n]? = some id := ⟨_, List.getElem?_eq_getElem hlt⟩
      obtain ⟨b3, o3, c3, e3, _, i3⟩ := (H1.out.below KO).at hid
      obtain ⟨rfl, rfl⟩ : ai = some ⟨b3, o3, none⟩ ∧ ci = c3 := by simpa using e3
      obtain ⟨b4, o4, c4, e4, _, i4⟩ := (H3.out.below KO).at hid
      obtain ⟨rfl, rfl⟩ : bi = some ⟨b4, o4, none⟩ ∧ di = c4 := by simpa using e4
      have q0 : (0 : Int) ≤ (n : Int) := by omega
      have q1 : (n : Int) < (r.ids.length : Int) := by omega
      clear e3 e4 hid
      go_wp2_with fail
      go_quiet (fail)
      go_wp2_with fail
      go_roundg (r.ids.length - (n + 1))
      case measure => rw [HK.out]; omega
      case rel => exact ⟨n + 1, by omega, by go_num, rfl, below_drewN HB.out _⟩
    · obtain rfl : n = r.ids.length := by omega
      have q9 : decide ((r.ids.length : Int) < (r.ids.length : Int)) = false := decide_eq_false (by omega)
      go_wp2_with fail
      obtain ⟨wi, hwi⟩ : ∃ wi, wi = wo := ⟨_, rfl⟩
      subst hwi
      have HBI := HB
      clear q9 x2 x3 y2 y3
      go_loopg [58] r.met.length (fun g i wr => ∃ n : Nat, n ≤ r.met.length ∧ i = .int .i64 n ∧ g = r.met.length - n ∧ Below wi.heap.size wi wr)
      case atStart => exact ⟨0, Nat.zero_le _, rfl, rfl, Below.refl _ _⟩
      case round =>
        obtain ⟨wq, hwq⟩ : ∃ wq, wq = wr := ⟨_, rfl⟩
        subst hwq
        obtain ⟨m, hm, rfl, hkm, hbm⟩ := hrel
        have HBM := Lib.hid hbm
        have HKM := Lib.hid hkm
        have kq := hbm.size
        have KSQ : Below ws.heap.size ws wq := HBI.out.trans (hbm.mono ko)
        have KQ : Below w.heap.size w wq := HKS.out.trans (KSQ.mono ks)
        have b1 := HB1.out.below KSQ HB1.out.lt
        have b2 := HB2.out.below KSQ HB2.out.lt
        have x2 := b1.cell 2
        have x3 := b1.cell 3
        have y2 := b2.cell 2
        have y3 := b2.cell 3
        simp at x2 x3 y2 y3
        clear hkm hbm b1 b2
        rcases Nat.lt_or_ge m r.met.length with hlt2 | hge2
        · obtain ⟨p, hp⟩ : ∃ p, r.met[m]? = some p := ⟨_, List.getElem?_eq_getElem hlt2⟩
          obtain ⟨b3, o3, c3, e3, _, i3, i3'⟩ := (H2.out.below KQ).at2 hp
          obtain ⟨rfl, rfl⟩ : am = some ⟨b3, o3, none⟩ ∧ cm = c3 := by simpa using e3
          obtain ⟨b4, o4, c4, e4, _, i4, i4'⟩ := (H4.out.below KQ).at2 hp
          obtain ⟨rfl, rfl⟩ : bm = some ⟨b4, o4, none⟩ ∧ dm = c4 := by simpa using e4
          have q0 : (0 : Int) ≤ (m : Int) := by omega
          have q1 : (m : Int) < (r.met.length : Int) := by omega
          have NX := fun w => pairNe_same p w
          clear e3 e4 hp
          go_wp2_with fail
          go_quiet (fail)
          go_wp2_with fail
          go_roundg (r.met.length - (m + 1))
          case measure => rw [HKM.out]; omega
          case rel => exact ⟨m + 1, by omega, by go_num, rfl, below_drewN HBM.out _⟩
        · obtain rfl : m = r.met.length := by omega
          have q9 : decide ((r.met.length : Int) < (r.met.length : Int)) = false := decide_eq_false (by omega)
          go_wp2_with fail
          go_ret
          exact ⟨rfl, KQ⟩
end Go.Proofs.YtkpecagkpjabdacGreat
