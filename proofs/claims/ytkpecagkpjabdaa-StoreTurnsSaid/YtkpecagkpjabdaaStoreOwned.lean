/- The walk of store.own. Condition: no table is empty, and each is short enough to be copied. -/
import Derived.Test.YtkpecagkpjabdaaStoreOwn
import Derived.Deep.LoopGhost
import Derived.Deep.DeepCutAuto
import Derived.Deep.DeepFit
namespace Go.Proofs.Ytkpecagkpjabdaa
open Go.RowKit
set_option linter.unusedVariables false
set_option linter.unusedSimpArgs false
set_option maxRecDepth 100000

theorem wp_called {P : Program} {c : Code} {Q : Exit → Act → World → Prop} {a : Act} {w : World} (h : ∀ W, W = w → c.wp P Q a W) : c.wp P Q a w := h w rfl
theorem own_form {w : World} {base : Nat} {e : TypeId} {k n : Nat} {v : Value} {xs : List Value} (h : w.ownsRow base e k v n xs) : ∃ a cap, v = .slice a n cap := by
  rcases h.2 with ⟨e, h0⟩ | ⟨g, cap, cur, e, _⟩
  · exact ⟨none, 0, by rw [e, h0]⟩
  · exact ⟨_, cap, e⟩
theorem ownTo_start {w : World} {base : Nat} {vt : Value} {ts : List M.Table} {hs : List (Value × Value)} (hl : hs.length = ts.length) (h : w.ownsRow base 82 3 vt ts.length (tabL ts hs)) : OwnTo w base vt ts hs hs 0 := by
  refine ⟨hl, h, fun i t p hi => absurd hi (Nat.not_lt_zero _), fun i _ => rfl, ?_⟩
  unfold blks
  cases e : vt.ownBlock <;> simp [e]
/-- no table is empty, and each is short enough to be copied -/
def Short (s : M.Store) : Prop := s.tables.length * 56 ≤ 140737488355328 ∧ ∀ t ∈ s.tables, (t.ids ≠ [] ∧ t.rows ≠ []) ∧ t.ids.length * 8 ≤ 140737488355328 ∧ t.rows.length * 64 ≤ 140737488355328
set_option maxHeartbeats 4000000 in
set_option maxRecDepth 100000 in
theorem own_calls {w : World} {lo : Nat} {v : Value} {s : M.Store} (h : StoreAt w lo v s) (hs : Short s) :
    Calls Try.prog 61 #[v] w fun e w' => ∃ vt hs', e = .returned (.agg #[vt, .int .i64 s.next]) ∧ OwnTabs w' w.heap.size vt s.tables hs' ∧ Below w.heap.size w w' := by
  obtain ⟨vt0, rfl, hs0, hT⟩ := h
  have HC := Lib.hid (fun W (hb : Below w.heap.size w W) => clone_tabs (hT.below hb) hs.1)
  obtain ⟨a, cap, rfl⟩ := hT.val
  have hmx : s.tables.length ≤ 9223372036854775807 := by have := hT.max; unfold maxLen at this; omega
  have HT := Lib.hid hT
  have HSH := Lib.hid hs
  clear hT hs
  go_enter Try.func61, Try.ntmps61
  go_wp2_with fail
  refine (HC.out _ (by repeat first | with_reducible assumption | with_reducible exact Below.refl _ _ | with_reducible apply Below.drew | with_reducible apply below_drewN | with_reducible apply Below.alloc (hB := (by first | omega | (simp; done) | (simp; omega))) | with_reducible apply Below.setCell (hp := (by first | omega | (simp; done) | (simp; omega))))).mono ?_
  rintro e w3 ⟨vt, rfl, hrow, hb3⟩
  obtain ⟨av, capv, rfl⟩ := own_form hrow
  obtain ⟨hc3, hf3⟩ := bcell hb3
  have k0 := (fun o => hc3 w.heap.size o (by simp; omega))
  have k1 := (fun o => hc3 (w.heap.size + 1) o (by simp))
  have q0 := (fun o => hf3 w.heap.size o (by simp; omega))
  have q1 := (fun o => hf3 (w.heap.size + 1) o (by simp))
  have hz3 := hb3.size
  simp only [World.size_alloc] at hz3 hrow
  have HROW := Lib.hid hrow
  have HB3 : Hid (Below w.heap.size w w3) := Lib.hid ((show Below w.heap.size w _ from (by repeat first | with_reducible assumption | with_reducible exact Below.refl _ _ | with_reducible apply Below.drew | with_reducible apply below_drewN | with_reducible apply Below.alloc (hB := (by first | omega | (simp; done) | (simp; omega))) | with_reducible apply Below.setCell (hp := (by first | omega | (simp; done) | (simp; omega))))).trans (hb3.mono (by simp; omega)))
  clear hc3 hf3 hb3 hrow
  go_wp2_with fail
  refine wp_called fun w4 hw4 => ?_
  have hz4 : w4.heap.size = w3.heap.size := by rw [hw4]; simp [World.setCell]
  have HROW4 : Hid (w4.ownsRow (w.heap.size + 2) 82 3 (.slice av s.tables.length capv) s.tables.length (tabL s.tables hs0)) :=
    Lib.hid (by rw [hw4]; exact own_same HROW.out (fun g hg => Below.heap_setCell _ _ _ _ (by have := (HROW.out.lt g hg).1; simp; omega)))
  have HB4 : Hid (Below w.heap.size w w4) := Lib.hid (by rw [hw4]; exact HB3.out.setCell (Nat.le_refl _) _)
  have m0 : w4.cell? ⟨w.heap.size, 0, none⟩ = some (.slice av s.tables.length capv) := by rw [hw4]; go_simp
  have m1 : w4.cell? ⟨w.heap.size, 1, none⟩ = some (.int .i64 s.next) := by rw [hw4]; go_simp
  have m2 : w4.cell? ⟨w.heap.size + 1, 0, none⟩ = some (.slice none 0 0) := by rw [hw4]; go_simp
  have m3 : w4.cell? ⟨w.heap.size + 1, 1, none⟩ = some (.int .i64 0) := by rw [hw4]; go_simp
  have n2 : ∀ o, w4.frozen? ⟨w.heap.size + 1, o, none⟩ = false := by rw [hw4]; intro o; rw [World.frozen?_setCell, q1]; simp
  clear hw4 k0 k1 q0 q1
  go_wp2_with fail
  go_loopg [12] s.tables.length (fun g i wr => ∃ (n : Nat) (hs' : List (Value × Value)), n ≤ s.tables.length ∧ i = .int .i64 n ∧ g = s.tables.length - n ∧ OwnTo wr (w.heap.size + 2) (.slice av s.tables.length capv) s.tables hs0 hs' n ∧ Below (w.heap.size + 2) w4 wr)
  case atStart => exact ⟨0, hs0, Nat.zero_le _, rfl, rfl, ownTo_start HT.out.1 HROW4.out, Below.refl _ _⟩
  case round =>
    obtain ⟨wo, hwo⟩ : ∃ wo, wo = wr := ⟨_, rfl⟩
    subst hwo
    obtain ⟨n, hs', hn, rfl, hg, hown, hbo⟩ := hrel
    have HG := Lib.hid hg
    have HO := Lib.hid hown
    have HBO := Lib.hid hbo
    have HB : Hid (Below w.heap.size w wo) := Lib.hid (HB4.out.trans (hbo.mono (by omega)))
    have hzo := hbo.size
    have p0 := (hbo.cell (p := ⟨w.heap.size, 0, none⟩) (by simp)).trans m0
    have p1 := (hbo.cell (p := ⟨w.heap.size, 1, none⟩) (by simp)).trans m1
    have p2 := (hbo.cell (p := ⟨w.heap.size + 1, 0, none⟩) (by simp)).trans m2
    have p3 := (hbo.cell (p := ⟨w.heap.size + 1, 1, none⟩) (by simp)).trans m3
    have p4 := fun o => (hbo.frozen (p := ⟨w.heap.size + 1, o, none⟩) (by simp)).trans (n2 o)
    clear hg hown hbo m0 m1 m2 m3 n2
    rcases Nat.lt_or_ge n s.tables.length with hlt | hge
    · obtain ⟨t, ht⟩ : ∃ t, s.tables[n]? = some t := ⟨_, List.getElem?_eq_getElem hlt⟩
      obtain ⟨b, o, cap', a1, cp1, a2, cp2, e, hlo, hp, c0, c1, c2, h1, h2⟩ := HT.out.at2 ht
      obtain ⟨⟨ne1, ne2⟩, sz1, sz2⟩ := HSH.out.2 t (List.mem_of_getElem? ht)
      have CI := Lib.hid (fun W (hb : Below w.heap.size w W) => clone_ints (h1.below hb) ne1 sz1)
      have CR := Lib.hid (fun W (hb : Below w.heap.size w W) => clone_rows (h2.below hb) ne2 sz2)
      have L1 : Hid (0 < t.ids.length) := Lib.hid (List.length_pos_iff.2 ne1)
      have L2 : Hid (0 < t.rows.length) := Lib.hid (List.length_pos_iff.2 ne2)
      have hp' : hs'[n]? = some (.slice a1 t.ids.length cp1, .slice a2 t.rows.length cp2) := (HO.out.rest n (Nat.le_refl _)).trans hp
      obtain ⟨x0, x1, x2⟩ := tabL_at s.tables hs' n ht hp'
      obtain ⟨g0, cap0, e0, hg0, hg1⟩ := own_val HO.out.row (by omega)
      obtain ⟨rfl, rfl⟩ : av = some ⟨g0, 0, none⟩ ∧ capv = cap0 := by simpa using e0
      have T1 := (HO.out.row.cellAt (n * 3 + 1) (by omega)).trans x1
      have T2 := (HO.out.row.cellAt (n * 3 + 2) (by omega)).trans x2
      have TF := fun j => HO.out.row.frozenAt j
      have HHT := Lib.hid ht
      have hB : Below w.heap.size w wo := HB.out
      clear e hlo hp hp' c0 c1 c2 h1 h2 x0 x1 x2 e0 ht ne1 ne2 sz1 sz2
      go_upto_region 6 with fail
      go_wp2_with fail
      go_region_with (first | (go_at_call 71; refine (CI.out _ (by repeat first | with_reducible assumption | with_reducible exact Below.refl _ _ | with_reducible apply Below.drew | with_reducible apply below_drewN | with_reducible apply Below.alloc (hB := (by first | omega | (simp; done) | (simp; omega))) | with_reducible apply Below.setCell (hp := (by first | omega | (simp; done) | (simp; omega))))).mono ?_; rintro e w5 ⟨v1, rfl, hr1, hb5⟩; obtain ⟨gi, ci, rfl, hgi, hgi2⟩ := own_val hr1 L1.out; have hz5 := hb5.size; (try simp only [World.size_alloc, World.size_drew] at hz5 hgi); have hb5' : Below wo.heap.size wo w5 := (show Below wo.heap.size wo _ from (by repeat first | with_reducible assumption | with_reducible exact Below.refl _ _ | with_reducible apply Below.drew | with_reducible apply below_drewN | with_reducible apply Below.alloc (hB := (by first | omega | (simp; done) | (simp; omega))) | with_reducible apply Below.setCell (hp := (by first | omega | (simp; done) | (simp; omega))))).trans (hb5.mono (by first | exact Nat.le_refl _ | (simp; done) | (simp; omega) | omega)); have hw5 : Below w.heap.size w w5 := hB.trans (hb5'.mono (by omega)); have S15 := below_cell T1 hb5'; have S25 := below_cell T2 hb5'; have SF5 := (fun j => (hb5'.frozen (p := ⟨g0, j, none⟩) (by simp; omega)).trans (TF j))) | (go_at_call 72; refine (CR.out _ (by repeat first | with_reducible assumption | with_reducible exact Below.refl _ _ | with_reducible apply Below.drew | with_reducible apply below_drewN | with_reducible apply Below.alloc (hB := (by first | omega | (simp; done) | (simp; omega))) | with_reducible apply Below.setCell (hp := (by first | omega | (simp; done) | (simp; omega))))).mono ?_; rintro e w6 ⟨v2, rfl, hr2, hb6⟩; obtain ⟨gr, cr, rfl, hgr, hgr2⟩ := own_val hr2 L2.out; have hz6 := hb6.size; (try simp only [World.size_alloc, World.size_drew] at hz6 hgr); have hb6' : Below wo.heap.size wo w6 := (show Below wo.heap.size wo _ from (by repeat first | with_reducible assumption | with_reducible exact Below.refl _ _ | with_reducible apply Below.drew | with_reducible apply below_drewN | with_reducible apply Below.alloc (hB := (by first | omega | (simp; done) | (simp; omega))) | with_reducible apply Below.setCell (hp := (by first | omega | (simp; done) | (simp; omega))))).trans (hb6.mono (by first | exact Nat.le_refl _ | (simp; done) | (simp; omega) | omega)); have hw6 : Below w.heap.size w w6 := hB.trans (hb6'.mono (by omega)); have S16 := below_cell T1 hb6'; have S26 := below_cell T2 hb6'; have SF6 := (fun j => (hb6'.frozen (p := ⟨g0, j, none⟩) (by simp; omega)).trans (TF j))))
      all_goals
        have FIN := Lib.hid (own_round HO.out HHT.out hg1 (by omega) hr1 hb6 hr2 hgi hgi2 hgr hb6')
        have FIB := Lib.hid (((HBO.out.trans (hb6'.mono (by omega))).setCell (p := ⟨g0, n * 3 + 1, none⟩) hg0 (.slice (some ⟨gi, 0, none⟩) t.ids.length ci)).setCell (p := ⟨g0, n * 3 + 2, none⟩) hg0 (.slice (some ⟨gr, 0, none⟩) t.rows.length cr))
        clear hr1 hb5 hr2 hb6 hb6' hb5' hw5 hw6 S15 S25 SF5 S16 S26 SF6
        go_wp2_with fail
        go_roundg (s.tables.length - (n + 1))
        case measure => rw [HG.out]; omega
        case rel => exact ⟨n + 1, _, by omega, by go_num, rfl, FIN.out, FIB.out⟩
    · obtain rfl : n = s.tables.length := by omega
      have hB : Below w.heap.size w wo := HB.out
      go_wp2_with fail
      refine bodyPost_ret (v := .agg #[.slice av s.tables.length capv, .int .i64 s.next]) ?_ rfl ⟨_, hs', rfl, HO.out.done.same (by omega) ?_, (by repeat first | with_reducible assumption | with_reducible exact Below.refl _ _ | with_reducible apply Below.drew | with_reducible apply below_drewN | with_reducible apply Below.alloc (hB := (by first | omega | (simp; done) | (simp; omega))) | with_reducible apply Below.setCell (hp := (by first | omega | (simp; done) | (simp; omega))))⟩
      · simp only [results, Try.results61]
        go_simp
      · intro g h1 h2
        rw [Below.heap_setCell _ _ _ _ (by simp; omega), Below.heap_setCell _ _ _ _ (by simp; omega)]
end Go.Proofs.Ytkpecagkpjabdaa
