/- The contract of the document's ThingsOf. Condition: the store lies in memory, its numbers are of 64 bits, its lists are no longer than memory allows. -/
import Derived.Test.YtkpecagkpjabdaaRefThings
import Derived.Test.YtkpecagkpjabdaaBagU
import Derived.Test.YtkpecagkpjabdaaLawThings
import Derived.Test.YtkpecagkpjabdaaStoreFind
import Derived.Test.YtkpecagkpjabdaaOpenStore
import Derived.Deep.QuietTactic
import Derived.BigQuiet
import Derived.Deep.RegionHeld3
namespace Go.Proofs.Ytkpecagkpjabdaa
open Go.RowKit
set_option linter.unusedVariables false
set_option linter.unusedSimpArgs false
set_option maxRecDepth 100000
theorem wrap64_kind (x : Int) : wrap64 x = IntKind.i64.wrap x := by rw [IntKind.wrap_i64]; unfold wrap64; rfl
set_option maxHeartbeats 8000000 in
set_option maxRecDepth 100000 in
theorem thingsOf_calls {w : World} {lo : Nat} {v : Value} {s : M.Store} (h : StoreAt w lo v s) (hin : StoreIn s) (hsz : Sized s) :
    Calls Try.prog 44 #[v] w fun e w' => ∃ m, e = .returned (.tuple #[.map m, .bool (M.good s)]) ∧ (M.good s = true → ∃ b, m = some b ∧ w.heap.size ≤ b ∧ MapA w' b (M.look (M.entries s)) (M.size s)) ∧ Below w.heap.size w w' := by
  obtain ⟨vt, rfl, hs, hT⟩ := h
  obtain ⟨a, cap, rfl⟩ := hT.val
  have hmx : s.tables.length ≤ 9223372036854775807 := by have := hT.max; unfold maxLen at this; omega
  have HT := Lib.hid hT
  clear hT
  have HI := Lib.hid hin
  have HSZ := Lib.hid hsz
  have hsm : ∀ t ∈ s.tables, t.ids.length ≤ 17592186044416 := fun t ht => by have := (hsz.2 t ht).1; omega
  have HSM := Lib.hid hsm
  clear hin hsz hsm
  have hmm := @run_makeMap Try.prog
  go_enter Try.func44, Try.ntmps44
  go_wp2_with fail
  go_loopg [5, 16] s.tables.length (fun g m i wr => ∃ n : Nat, n ≤ s.tables.length ∧ i = .int .i64 n ∧ m = .int .i64 (M.lastM s n) ∧ g = s.tables.length - n ∧
    Below (w.heap.size + 1) (w.alloc (.cells #[.slice a s.tables.length cap, .int .i64 s.next] 40)) wr ∧ MapA wr (w.heap.size + 1) (M.look (M.entriesT (s.tables.take n))) (M.idsT (s.tables.take n)).length ∧ M.Upto (M.alike s) n)
  case atStart =>
    refine ⟨0, Nat.zero_le _, rfl, rfl, rfl, (Below.refl _ _).alloc (by simp) _, ?_, M.upto_zero _⟩
    have := MapAt.made Try.prog 3 (w.alloc (.cells #[.slice a s.tables.length cap, .int .i64 s.next] 40))
    simp only [World.size_alloc] at this
    exact this
  case round =>
    obtain ⟨wo, hwo⟩ : ∃ wo, wo = wr := ⟨_, rfl⟩
    subst hwo
    obtain ⟨n, hn, rfl, rfl, hg, hb1, hmap, hup⟩ := hrel
    have HB1 := Lib.hid hb1
    have HB := Lib.hid (((Below.refl _ w).alloc (Nat.le_refl _) _).trans (hb1.mono (B' := w.heap.size) (by omega)))
    have hz := hb1.size
    simp only [World.size_alloc] at hz
    have HG := Lib.hid hg
    have lt2 : w.heap.size + 1 < wo.heap.size := hmap.lt
    have HM := Lib.hid hmap
    have HU := Lib.hid hup
    have k0 := hb1.cell (p := ⟨w.heap.size, 0, none⟩) (by simp)
    have k1 := hb1.cell (p := ⟨w.heap.size, 1, none⟩) (by simp)
    simp at k0 k1
    clear hb1 hg hmap hup
    rcases Nat.lt_or_ge n s.tables.length with hlt | hge
    · obtain ⟨t, ht⟩ : ∃ t, s.tables[n]? = some t := ⟨_, List.getElem?_eq_getElem hlt⟩
      obtain ⟨b, o, cap', a1, cp1, a2, cp2, e, hlo, hp, c0, c1, c2, h1, h2⟩ := HT.out.at2 ht
      replace c0 := below_cell c0 HB.out
      replace c1 := below_cell c1 HB.out
      replace c2 := below_cell c2 HB.out
      obtain ⟨rfl, rfl⟩ : a = some ⟨b, o, none⟩ ∧ cap = cap' := by simpa using e
      have HT2 := Lib.hid ht
      have HR := Lib.hid h2
      have HJ := Lib.hid h1
      have hm1 : t.ids.length ≤ 9223372036854775807 := by have := h1.max; unfold maxLen at this; omega
      have hm2 : t.rows.length ≤ 9223372036854775807 := by have := h2.max; unfold maxLen at this; omega
      have hBA : Below w.heap.size w wo := HB.out
      have lt0 : w.heap.size < wo.heap.size := by omega
      clear e hlo hp h1 h2 ht
      obtain ⟨la, hla⟩ : ∃ la, la = M.lastM s n := ⟨_, rfl⟩
      rw [← hla]
      have HLA := Lib.hid hla
      clear hla
      by_cases z0 : t.mask ≤ la
      · have hbad := M.bad_last HT2.out (by rw [← HLA.out]; exact z0)
        have HBAD := Lib.hid hbad
        clear hbad
        go_wp2_with fail
        go_ret2
        exact ⟨none, by rw [HBAD.out]; rfl, fun h => absurd (HBAD.out.symm.trans h) (by simp), hBA.trans ((show Below wo.heap.size wo _ from (by repeat first | with_reducible assumption | with_reducible exact Below.refl _ _ | with_reducible apply Below.drew | with_reducible apply below_drewN | with_reducible apply Below.alloc (hB := (by first | omega | (simp; done) | (simp; omega))) | with_reducible apply Below.setCell (hp := (by first | omega | (simp; done) | (simp; omega))))).mono (by omega))⟩
      have z0' : decide (t.mask ≤ la) = false := decide_eq_false z0
      by_cases z1 : ((t.ids.length : Int) == 0) = true
      · have hbad := M.bad_len HT2.out (.inl (by simpa using z1))
        have HBAD := Lib.hid hbad
        clear hbad
        go_wp2_with fail
        go_ret2
        exact ⟨none, by rw [HBAD.out]; rfl, fun h => absurd (HBAD.out.symm.trans h) (by simp), hBA.trans ((show Below wo.heap.size wo _ from (by repeat first | with_reducible assumption | with_reducible exact Below.refl _ _ | with_reducible apply Below.drew | with_reducible apply below_drewN | with_reducible apply Below.alloc (hB := (by first | omega | (simp; done) | (simp; omega))) | with_reducible apply Below.setCell (hp := (by first | omega | (simp; done) | (simp; omega))))).mono (by omega))⟩
      have z1 : ((t.ids.length : Int) == 0) = false := by simpa using z1
      by_cases z2 : ((t.rows.length : Int) != (t.ids.length : Int)) = true
      · have hbad := M.bad_len HT2.out (.inr (by simp at z2; omega))
        have HBAD := Lib.hid hbad
        clear hbad
        go_wp2_with fail
        go_ret2
        exact ⟨none, by rw [HBAD.out]; rfl, fun h => absurd (HBAD.out.symm.trans h) (by simp), hBA.trans ((show Below wo.heap.size wo _ from (by repeat first | with_reducible assumption | with_reducible exact Below.refl _ _ | with_reducible apply Below.drew | with_reducible apply below_drewN | with_reducible apply Below.alloc (hB := (by first | omega | (simp; done) | (simp; omega))) | with_reducible apply Below.setCell (hp := (by first | omega | (simp; done) | (simp; omega))))).mono (by omega))⟩
      have z2 : ((t.rows.length : Int) != (t.ids.length : Int)) = false := by simpa using z2
      have N1 : Hid (t.ids.length ≠ 0) := Lib.hid (by intro e; rw [e] at z1; simp at z1)
      have N2 : Hid (t.ids.length = t.rows.length) := Lib.hid (by have h := z2; simp only [bne_eq_false_iff_eq] at h; omega)
      have N3 := Lib.hid (M.last_up (s := s) (n := n) (t := t) (by rw [← HLA.out]; exact z0))
      go_upto_region 9 with fail
      refine wp_named2 fun wl hwl => ?_
      have BT : Blk wl wo.heap.size 82 #[.int .i64 t.mask, .slice a1 t.ids.length cp1, .slice a2 t.rows.length cp2] := by rw [hwl]; exact Blk.new_at rfl
      have KL : Below wo.heap.size wo wl := by rw [hwl]; exact (by repeat first | with_reducible assumption | with_reducible exact Below.refl _ _ | with_reducible apply Below.drew | with_reducible apply below_drewN | with_reducible apply Below.alloc (hB := (by first | omega | (simp; done) | (simp; omega))) | with_reducible apply Below.setCell (hp := (by first | omega | (simp; done) | (simp; omega))))
      have MT : MapA wl (w.heap.size + 1) (M.look (M.entriesT (s.tables.take n))) (M.idsT (s.tables.take n)).length := HM.out.below KL lt2
      have kl := KL.size
      have ll := BT.lt
      have HBT := Lib.hid BT
      have HKL := Lib.hid KL
      have HMT := Lib.hid MT
      have HB2 : Hid (Below (w.heap.size + 1) (w.alloc (.cells #[.slice (some ⟨b, o, none⟩) s.tables.length cap, .int .i64 s.next] 40)) wl) := Lib.hid (HB1.out.trans (KL.mono (by omega)))
      have y1 := BT.cell 1
      simp at y1
      clear hwl BT KL MT c0 c1 c2 k0 k1 hBA z0 z0' z1 z2
      go_wp2_with fail
      go_loopg [44] t.ids.length (fun g j wq => ∃ k : Nat, k ≤ t.ids.length ∧ j = .int .i64 k ∧ g = t.ids.length - k ∧
        Below (w.heap.size + 1) (w.alloc (.cells #[.slice (some ⟨b, o, none⟩) s.tables.length cap, .int .i64 s.next] 40)) wq ∧
        Blk wq wo.heap.size 82 #[.int .i64 t.mask, .slice a1 t.ids.length cp1, .slice a2 t.rows.length cp2] ∧
        MapA wq (w.heap.size + 1) (M.look (M.taken s n k t)) ((M.idsT (s.tables.take n)).length + k) ∧ M.Inner (M.alike s) n k t)
      case atStart =>
        refine ⟨0, Nat.zero_le _, rfl, rfl, HB2.out, HBT.out, ?_, M.inner_zero HU.out t⟩
        rw [M.taken_zero]
        exact HMT.out
      case round =>
        obtain ⟨wq, hwq⟩ : ∃ wq, wq = wr := ⟨_, rfl⟩
        subst hwq
        obtain ⟨k, hk, rfl, hg2, hq1, hbt, hmap, hinn⟩ := hrel
        have HQ1 := Lib.hid hq1
        have HQ := Lib.hid (((Below.refl _ w).alloc (Nat.le_refl _) _).trans (hq1.mono (B' := w.heap.size) (by omega)))
        have HG2 := Lib.hid hg2
        have HMQ := Lib.hid hmap
        have HIN := Lib.hid hinn
        have HBQ := Lib.hid hbt
        have l1 := hq1.cell (p := ⟨w.heap.size, 1, none⟩) (by simp)
        simp at l1
        have lq := hbt.lt
        have lm := hmap.lt
        have l0 : w.heap.size < wq.heap.size := by omega
        clear hq1 hg2 hmap hinn hbt y1
        rcases Nat.lt_or_ge k t.ids.length with hlt2 | hge2
        · obtain ⟨id, hid⟩ : ∃ id, t.ids[k]? = some id := ⟨_, List.getElem?_eq_getElem hlt2⟩
          have hlt3 : k < t.rows.length := by have := N2.out; omega
          obtain ⟨r, hr⟩ : ∃ r, t.rows[k]? = some r := ⟨_, List.getElem?_eq_getElem hlt3⟩
          obtain ⟨b3, o3, cap3, e3, _, i0⟩ := (HJ.out.below HQ.out).at hid
          obtain ⟨b4, o4, cap4, e4, _, rc⟩ := (HR.out.below HQ.out).at8 hr
          obtain ⟨rfl, rfl⟩ : a1 = some ⟨b3, o3, none⟩ ∧ cp1 = cap3 := by simpa using e3
          obtain ⟨rfl, rfl⟩ : a2 = some ⟨b4, o4, none⟩ ∧ cp2 = cap4 := by simpa using e4
          have HRC := Lib.hid rc
          have HID := Lib.hid hid
          have HRR := Lib.hid hr
          clear e3 e4 hid hr rc
          have hi64 : I64 id := (HI.out.2 t (List.mem_of_getElem? HT2.out)).2.1 id (List.mem_of_getElem? HID.out)
          have HI64 := Lib.hid hi64
          have EID : Hid ((M.taken s n k t).map (·.1) = M.idsT (s.tables.take n) ++ t.ids.take k) := Lib.hid (M.taken_ids (k := k) (M.upto_even (s := M.alike s) HU.out) N2.out)
          have hfd := M.look_some_iff (E := M.taken s n k t) (id := id)
          rw [EID.out] at hfd
          obtain ⟨fv, hfv⟩ : ∃ fv, fv = (M.look (M.taken s n k t) id).getD M.th0 := ⟨_, rfl⟩
          obtain ⟨tw, htw⟩ : ∃ tw, tw = (M.look (M.taken s n k t) id).isSome := ⟨_, rfl⟩
          rw [← htw] at hfd
          have HFD := Lib.hid hfd
          have HFV := Lib.hid hfv
          have HTW := Lib.hid htw
          clear hi64 hfd hfv htw
          go_upto_region 13 with (at_lookup; refine wpList_th_look _ rfl _ _ 54 rfl 3 62 Try.underlying3 Try.underlying54 (th_zero _) (w.heap.size + 1) _ _ rfl HMQ.out id rfl HI64.out ?_; rw [← HFV.out, ← HTW.out])
          refine wp_named2 fun W0 hW0 => ?_
          have KW : Below wq.heap.size wq W0 := by rw [hW0]; exact (by repeat first | with_reducible assumption | with_reducible exact Below.refl _ _ | with_reducible apply Below.drew | with_reducible apply below_drewN | with_reducible apply Below.alloc (hB := (by first | omega | (simp; done) | (simp; omega))) | with_reducible apply Below.setCell (hp := (by first | omega | (simp; done) | (simp; omega))))
          have kw := KW.size
          have HKW := Lib.hid KW
          have HKW0 := Lib.hid (HQ.out.trans (KW.mono (by omega)))
          have HBT0 := Lib.hid (HBQ.out.below KW lq)
          have n1 := below_cell l1 KW
          have hal : (M.alike s).next = wrap64 (s.next - 1) + 1 := rfl
          have HAL := Lib.hid hal
          have lw : W0.heap.size = wq.heap.size + 1 := by rw [hW0]; simp
          have HT2' : Hid ((M.alike s).tables[n]? = some t) := Lib.hid HT2.out
          obtain ⟨y1, y0, y2⟩ := (show W0.cell? ⟨wo.heap.size, 1, none⟩ = some (.slice (some ⟨b3, o3, none⟩) t.ids.length cp1) ∧ W0.cell? ⟨wo.heap.size, 0, none⟩ = some (.int .i64 t.mask) ∧ W0.cell? ⟨wo.heap.size, 2, none⟩ = some (.slice (some ⟨b4, o4, none⟩) t.rows.length cp2) from ⟨HBT0.out.cell 1, HBT0.out.cell 0, HBT0.out.cell 2⟩)
          have SB := Lib.hid (fun W (hb : Below W0.heap.size W0 W) => show W.cell? ⟨w.heap.size, 1, none⟩ = some (.int .i64 s.next) ∧ W.cell? ⟨wo.heap.size, 0, none⟩ = some (.int .i64 t.mask) ∧ W.cell? ⟨wo.heap.size, 2, none⟩ = some (.slice (some ⟨b4, o4, none⟩) t.rows.length cp2) ∧ W.cell? ⟨b4, o4 + k * 8, none⟩ = some (.int .i64 r.X) ∧ W.cell? ⟨b4, o4 + k * 8 + 1, none⟩ = some (.int .i64 r.Y) ∧ W.cell? ⟨b4, o4 + k * 8 + 2, none⟩ = some (.int .i64 r.PX) ∧ W.cell? ⟨b4, o4 + k * 8 + 3, none⟩ = some (.int .i64 r.PY) ∧ W.cell? ⟨b4, o4 + k * 8 + 4, none⟩ = some (.int .i64 r.W) ∧ W.cell? ⟨b4, o4 + k * 8 + 5, none⟩ = some (.int .i64 r.H) ∧ W.cell? ⟨b4, o4 + k * 8 + 6, none⟩ = some (.int .i64 r.M) ∧ W.cell? ⟨b4, o4 + k * 8 + 7, none⟩ = some (.int .i64 r.R) from by
            refine ⟨below_cell n1 hb, below_cell y0 hb, below_cell y2 hb, ?_⟩
            obtain ⟨b5, o5, c5, e5, _, rc⟩ := ((HR.out.below HKW0.out).below hb).at8 HRR.out
            obtain ⟨⟨rfl, rfl⟩, rfl⟩ : (b4 = b5 ∧ o4 = o5) ∧ cp2 = c5 := by simpa using e5
            exact rc)
          obtain ⟨_, _, _, x0, x1, x2, x3, x4, x5, x6, x7⟩ := SB.out W0 (Below.refl _ _)
          clear hW0 KW i0 hal
          obtain ⟨nx, hnx⟩ : ∃ nx, nx = wrap64 (s.next - 1) := ⟨_, rfl⟩
          have HNX := Lib.hid hnx
          rw [← hnx] at HAL
          go_cut [74] (fun q W => ∃ bad, q = .bool bad ∧ Below W0.heap.size W0 W ∧ M.Tested1 (M.alike s) n k t id r bad)
          case first =>
            cases tw with
            | true =>
              have hmem : id ∈ M.idsT (s.tables.take n) ++ t.ids.take k := by have := HFD.out; simpa using this.symm
              have HME := Lib.hid hmem
              clear hmem
              go_wp2_with fail
              go_quiet (fail)
              go_wp2_with fail
              go_meet
              exact ⟨true, rfl, below_drewN (Below.refl _ _) _, M.bad_twice HT2'.out HID.out HME.out⟩
            | false =>
              have hmem : ¬ id ∈ M.idsT (s.tables.take n) ++ t.ids.take k := by have := HFD.out; simpa using this.symm
              have HME := Lib.hid hmem
              clear hmem
              by_cases hi : 0 ≤ id ∧ id ≤ nx
              · have HII := Lib.hid hi
                have hin : M.inB id 0 nx = true := decide_eq_true hi
                have hwi := fun W => inB_calls id 0 (wrap64 (s.next - 1)) W
                rw [← HNX.out, hin] at hwi
                rw [HNX.out] at hwi
                have HWI := Lib.hid hwi
                have hwj := hwi
                rw [wrap64_kind] at hwj
                have HWJ := Lib.hid hwj
                clear hwi hwj
                clear hin hi
                obtain ⟨gr, hgr⟩ : ∃ g, g = M.goodRow t.mask r := ⟨_, rfl⟩
                have HGR := Lib.hid (fun W => isRow_calls t.mask r W)
                rw [← hgr] at HGR
                have HGE := Lib.hid hgr
                clear hgr
                go_wp2_with fail
                go_region_held3 (fun W => W.cell? ⟨w.heap.size, 1, none⟩ = some (.int .i64 s.next) ∧ W.cell? ⟨wo.heap.size, 0, none⟩ = some (.int .i64 t.mask) ∧ W.cell? ⟨wo.heap.size, 2, none⟩ = some (.slice (some ⟨b4, o4, none⟩) t.rows.length cp2) ∧ W.cell? ⟨b4, o4 + k * 8, none⟩ = some (.int .i64 r.X) ∧ W.cell? ⟨b4, o4 + k * 8 + 1, none⟩ = some (.int .i64 r.Y) ∧ W.cell? ⟨b4, o4 + k * 8 + 2, none⟩ = some (.int .i64 r.PX) ∧ W.cell? ⟨b4, o4 + k * 8 + 3, none⟩ = some (.int .i64 r.PY) ∧ W.cell? ⟨b4, o4 + k * 8 + 4, none⟩ = some (.int .i64 r.W) ∧ W.cell? ⟨b4, o4 + k * 8 + 5, none⟩ = some (.int .i64 r.H) ∧ W.cell? ⟨b4, o4 + k * 8 + 6, none⟩ = some (.int .i64 r.M) ∧ W.cell? ⟨b4, o4 + k * 8 + 7, none⟩ = some (.int .i64 r.R)) (((with_reducible refine SB.out _ ?_); ((repeat first | with_reducible assumption | with_reducible exact Below.refl _ _ | with_reducible apply Below.drew | with_reducible apply below_drewN | with_reducible apply Below.alloc (hB := (by first | omega | (simp; done) | (simp; omega))) | with_reducible apply Below.setCell (hp := (by first | omega | (simp; done) | (simp; omega))))); done)) (first | (go_at_call 57; refine (HWJ.out _).mono ?_; rintro e w' ⟨rfl, rfl⟩) | (go_at_call 49; refine (HGR.out _).mono ?_; rintro e w5 ⟨rfl, hb5⟩; have hb6 : Below W0.heap.size W0 w5 := (show Below W0.heap.size W0 _ from (by repeat first | with_reducible assumption | with_reducible exact Below.refl _ _ | with_reducible apply Below.drew | with_reducible apply below_drewN | with_reducible apply Below.alloc (hB := (by first | omega | (simp; done) | (simp; omega))) | with_reducible apply Below.setCell (hp := (by first | omega | (simp; done) | (simp; omega))))).trans (show Below W0.heap.size _ w5 from hb5); have hz5 := hb6.size))
                all_goals
                  go_wp2_with fail
                  go_meet
                  exact ⟨!gr, rfl, by assumption, M.tested1_row HGE.out HT2'.out HRR.out (by have := HII.out; omega) (by have := HII.out; have := HAL.out; omega) HME.out⟩
              · have hin : M.inB id 0 nx = false := decide_eq_false hi
                have hwi := fun W => inB_calls id 0 (wrap64 (s.next - 1)) W
                rw [← HNX.out, hin] at hwi
                rw [HNX.out] at hwi
                have HWI := Lib.hid hwi
                have hwj := hwi
                rw [wrap64_kind] at hwj
                have HWJ := Lib.hid hwj
                clear hwi hwj
                have HNI := Lib.hid hi
                clear hin hi
                go_wp2_with fail
                go_quiet ((go_at_call 57; exact quiet_left (HWI.out _)))
                go_wp2_with fail
                go_meet
                exact ⟨true, rfl, below_drewN (Below.refl _ _) _, M.bad_id HT2'.out HID.out (by have := HNI.out; have := HAL.out; omega)⟩
          case rest =>
            obtain ⟨bad, rfl, hbw, htest⟩ := hcut
            have HTT := Lib.hid htest
            have HBW := Lib.hid hbw
            have HBC : Hid (Below w.heap.size w wc) := Lib.hid (HKW0.out.trans (hbw.mono (by omega)))
            have kc := hbw.size
            clear htest
            cases bad
            case true =>
              have HBAD := Lib.hid (M.alike_bad (s := s) HTT.out)
              have hB := HBC.out
              go_wp2_with fail
              go_ret2
              exact ⟨none, by rw [HBAD.out]; rfl, fun h => absurd (HBAD.out.symm.trans h) (by simp), hB⟩
            have hT1 := HTT.out
            obtain ⟨t1, t2, t3⟩ := hT1
            have INN := Lib.hid (M.inner_step HIN.out HID.out HRR.out t1.1 t1.2 t2 t3)
            have hsmall := M.upto_small (s := M.alike s) HU.out HSM.out
            have hsm2 := HSM.out t (List.mem_of_getElem? HT2.out)
            have HNM : Hid (id ∉ (M.taken s n k t).map (·.1)) := Lib.hid (by rw [EID.out]; exact t2)
            have hMQ : MapA wc (w.heap.size + 1) (M.look (M.taken s n k t)) ((M.idsT (s.tables.take n)).length + k) := (HMQ.out.below HKW.out lm).below hbw (by omega)
            have hsmall' : (M.idsT (s.tables.take n)).length ≤ 562949953421312 := hsmall
            obtain ⟨w2, hput, hm2, ht2⟩ := MapAt.put (w := wc.drew) hMQ.drew Try.underlying3 Try.underlying54 (by unfold maxLen; omega) HI64.out (t.mask, r)
            have e0 : (M.look (M.taken s n k t) id).isSome = false := by rw [M.look_some_iff]; exact decide_eq_false HNM.out
            rw [e0, ← M.look_snoc HNM.out, ← M.taken_succ HID.out HRR.out] at hm2
            simp only [thV] at hput
            have HM2 := Lib.hid hm2
            have HT3 := Lib.hid ht2
            have lm2 : w.heap.size + 1 < wo.heap.size := lt2
            have hnb : ∀ j, j ≠ w.heap.size + 1 → j < wc.heap.size → w2.heap[j]? = wc.heap[j]? := fun j hj hl => ht2.grown.block j hl (by simpa using hj)
            have HNB := Lib.hid hnb
            have SB2 := Lib.hid (fun W (hb : Below wc.heap.size wc W) => show W.cell? ⟨wo.heap.size, 0, none⟩ = some (.int .i64 t.mask) ∧ W.cell? ⟨wo.heap.size, 2, none⟩ = some (.slice (some ⟨b4, o4, none⟩) t.rows.length cp2) ∧ W.cell? ⟨b4, o4 + k * 8, none⟩ = some (.int .i64 r.X) ∧ W.cell? ⟨b4, o4 + k * 8 + 1, none⟩ = some (.int .i64 r.Y) ∧ W.cell? ⟨b4, o4 + k * 8 + 2, none⟩ = some (.int .i64 r.PX) ∧ W.cell? ⟨b4, o4 + k * 8 + 3, none⟩ = some (.int .i64 r.PY) ∧ W.cell? ⟨b4, o4 + k * 8 + 4, none⟩ = some (.int .i64 r.W) ∧ W.cell? ⟨b4, o4 + k * 8 + 5, none⟩ = some (.int .i64 r.H) ∧ W.cell? ⟨b4, o4 + k * 8 + 6, none⟩ = some (.int .i64 r.M) ∧ W.cell? ⟨b4, o4 + k * 8 + 7, none⟩ = some (.int .i64 r.R) from (SB.out W (hbw.trans (hb.mono (by omega)))).2)
            have b4n : b4 < w.heap.size := by
              obtain ⟨b5, o5, c5, e5, _, rc⟩ := HR.out.at8 HRR.out
              obtain ⟨⟨rfl, rfl⟩, rfl⟩ : (b4 = b5 ∧ o4 = o5) ∧ cp2 = c5 := by simpa using e5
              exact cell_lt rc.1
            have SD := Lib.hid (show (fun W => W.cell? ⟨wo.heap.size, 0, none⟩ = some (.int .i64 t.mask) ∧ W.cell? ⟨wo.heap.size, 2, none⟩ = some (.slice (some ⟨b4, o4, none⟩) t.rows.length cp2) ∧ W.cell? ⟨b4, o4 + k * 8, none⟩ = some (.int .i64 r.X) ∧ W.cell? ⟨b4, o4 + k * 8 + 1, none⟩ = some (.int .i64 r.Y) ∧ W.cell? ⟨b4, o4 + k * 8 + 2, none⟩ = some (.int .i64 r.PX) ∧ W.cell? ⟨b4, o4 + k * 8 + 3, none⟩ = some (.int .i64 r.PY) ∧ W.cell? ⟨b4, o4 + k * 8 + 4, none⟩ = some (.int .i64 r.W) ∧ W.cell? ⟨b4, o4 + k * 8 + 5, none⟩ = some (.int .i64 r.H) ∧ W.cell? ⟨b4, o4 + k * 8 + 6, none⟩ = some (.int .i64 r.M) ∧ W.cell? ⟨b4, o4 + k * 8 + 7, none⟩ = some (.int .i64 r.R)) w2 from by
              obtain ⟨z0, z2, z3, z4, z5, z6, z7, z8, z9, z10⟩ := SB2.out wc (Below.refl _ _)
              have m1 : ¬ wo.heap.size = w.heap.size + 1 := by omega
              have m2 : ¬ b4 = w.heap.size + 1 := by omega
              have gc := fun o v (hv : wc.cell? ⟨wo.heap.size, o, none⟩ = some v) => ht2.grown.cell (a := ⟨wo.heap.size, o, none⟩) hv (by simpa using m1)
              have gd := fun o v (hv : wc.cell? ⟨b4, o, none⟩ = some v) => ht2.grown.cell (a := ⟨b4, o, none⟩) hv (by simpa using m2)
              exact ⟨gc _ _ z0, gc _ _ z2, gd _ _ z3, gd _ _ z4, gd _ _ z5, gd _ _ z6, gd _ _ z7, gd _ _ z8, gd _ _ z9, gd _ _ z10⟩)
            obtain ⟨y0, y2, x0, x1, x2, x3, x4, x5, x6, x7⟩ := SB2.out wc (Below.refl _ _)
            clear hm2 ht2 hnb hMQ e0 t1 t2 t3 hsmall hsmall' hsm2 n1
            go_wp2_with fail
            go_region_held3 (fun W => W.cell? ⟨wo.heap.size, 0, none⟩ = some (.int .i64 t.mask) ∧ W.cell? ⟨wo.heap.size, 2, none⟩ = some (.slice (some ⟨b4, o4, none⟩) t.rows.length cp2) ∧ W.cell? ⟨b4, o4 + k * 8, none⟩ = some (.int .i64 r.X) ∧ W.cell? ⟨b4, o4 + k * 8 + 1, none⟩ = some (.int .i64 r.Y) ∧ W.cell? ⟨b4, o4 + k * 8 + 2, none⟩ = some (.int .i64 r.PX) ∧ W.cell? ⟨b4, o4 + k * 8 + 3, none⟩ = some (.int .i64 r.PY) ∧ W.cell? ⟨b4, o4 + k * 8 + 4, none⟩ = some (.int .i64 r.W) ∧ W.cell? ⟨b4, o4 + k * 8 + 5, none⟩ = some (.int .i64 r.H) ∧ W.cell? ⟨b4, o4 + k * 8 + 6, none⟩ = some (.int .i64 r.M) ∧ W.cell? ⟨b4, o4 + k * 8 + 7, none⟩ = some (.int .i64 r.R)) (first | (((with_reducible refine SB2.out _ ?_); ((repeat first | with_reducible assumption | with_reducible exact Below.refl _ _ | with_reducible apply Below.drew | with_reducible apply below_drewN | with_reducible apply Below.alloc (hB := (by first | omega | (simp; done) | (simp; omega))) | with_reducible apply Below.setCell (hp := (by first | omega | (simp; done) | (simp; omega))))); done)) | (exact SD.out)) (fail)
            all_goals
              go_wp2_with fail
              go_roundg (t.ids.length - (k + 1))
              case measure => rw [HG2.out]; omega
              case rel =>
                have hq3 : Below (w.heap.size + 1) (w.alloc (.cells #[.slice (some ⟨b, o, none⟩) s.tables.length cap, .int .i64 s.next] 40)) wc := (HQ1.out.trans (HKW.out.mono (by omega))).trans (hbw.mono (by omega))
                refine ⟨k + 1, by omega, by go_num, rfl, ?_, ?_, HM2.out, INN.out⟩
                · exact below_turned (w := wc.drew) hq3.drew HT3.out (by show w.heap.size + 1 ≤ wc.heap.size; omega) (Nat.le_refl _)
                · exact (HNB.out wo.heap.size (by omega) (by omega)).trans (HBT0.out.below hbw (by omega))
        · obtain rfl : k = t.ids.length := by omega
          have UPS : Hid (M.Upto (M.alike s) (n + 1)) := Lib.hid (M.upto_step HU.out HT2.out N1.out N2.out N3.out HIN.out)
          have ES : Hid ((M.idsT (s.tables.take (n + 1))).length = (M.idsT (s.tables.take n)).length + t.ids.length) := Lib.hid (by rw [M.take_snoc HT2.out, M.idsT_append, M.idsT_one, List.length_append])
          have hm := HMQ.out
          rw [M.taken_all HT2.out N2.out, ← ES.out] at hm
          have HM2 := Lib.hid hm
          have HLS := Lib.hid (M.lastM_succ HT2.out)
          have q9 : decide ((t.ids.length : Int) < (t.ids.length : Int)) = false := decide_eq_false (by omega)
          clear hm hge2 hk
          go_wp2_with fail
          go_roundg (s.tables.length - (n + 1))
          case measure => rw [HG.out]; omega
          case rel => exact ⟨n + 1, by omega, by go_num, by rw [HLS.out], rfl, HQ1.out, HM2.out, UPS.out⟩
    · obtain rfl : n = s.tables.length := by omega
      rw [List.take_length] at HM
      have hgd := M.good_last HU.out
      have HGD := Lib.hid hgd
      have q9 : decide ((s.tables.length : Int) < (s.tables.length : Int)) = false := decide_eq_false (by omega)
      have HSI : Hid (M.size s = (M.idsT s.tables).length) := Lib.hid rfl
      clear hgd hge hn
      obtain ⟨c, hc⟩ : ∃ c, c = (M.idsT s.tables).length := ⟨_, rfl⟩
      rw [← hc] at HM HGD HSI
      clear hc
      obtain ⟨q, hq⟩ : ∃ q, q = M.inB s.next 0 1048576 := ⟨_, rfl⟩
      have HW := Lib.hid (fun W => inB_calls s.next 0 1048576 W)
      rw [← hq] at HW
      have HQ := Lib.hid hq
      clear hq
      by_cases d1 : (c : Int) ≤ 10
      · have D1 := Lib.hid d1
        go_wp2_with (first | (at_len; refine wpList_th_len _ rfl _ 54 rfl 3 62 Try.underlying54 (w.heap.size + 1) _ c rfl HM.out ?_) | (go_at_call 57; refine (HW.out _).mono ?_; rintro e w' ⟨rfl, rfl⟩))
        go_ret2
        exact ⟨some (w.heap.size + 1), by rw [HGD.out, HQ.out]; simp [M.inB, D1.out], fun _ => ⟨_, rfl, by omega, by rw [HSI.out]; exact HM.out⟩, HB.out⟩
      · have d1' : decide ((c : Int) ≤ 10) = false := decide_eq_false d1
        have D1 := Lib.hid d1
        go_wp2_with (first | (at_len; refine wpList_th_len _ rfl _ 54 rfl 3 62 Try.underlying54 (w.heap.size + 1) _ c rfl HM.out ?_))
        go_ret2
        exact ⟨some (w.heap.size + 1), by rw [HGD.out, decide_eq_false (show ¬ (c : Int) ≤ 10 by have := D1.out; omega)]; rfl, fun _ => ⟨_, rfl, by omega, by rw [HSI.out]; exact HM.out⟩, HB.out⟩
end Go.Proofs.Ytkpecagkpjabdaa
