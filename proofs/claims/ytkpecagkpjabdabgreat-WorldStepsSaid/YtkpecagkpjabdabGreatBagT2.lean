/- Several small texts in one. No condition of its own: each part says its own. -/
import Derived.Test.YtkpecagkpjabdabGreatBagS
import Derived.Deep.DeepCutAuto
import Derived.BigRegion
import Derived.Test.YtkpecagkpjabdabGreatBagW
import Derived.Test.YtkpecagkpjabdabGreatBagP
import Derived.Test.YtkpecagkpjabdabGreatStoreGood
import Derived.Test.YtkpecagkpjabdabGreatStoreFind
import Derived.Test.YtkpecagkpjabdabGreatBagO
/- The contract of store.cut. Condition: an own store's tables, few; the table and the place are there. -/
namespace Go.Proofs.YtkpecagkpjabdabGreat
open Go.RowKit
set_option linter.unusedVariables false
set_option linter.unusedSimpArgs false
set_option maxRecDepth 100000

end Go.Proofs.YtkpecagkpjabdabGreat
/- What a good store allows: few tables, short ones, masks from 1 to 31, numbers of 64 bits. No condition. -/
namespace Go.Proofs.YtkpecagkpjabdabGreat
open Go.RowKit
set_option linter.unusedVariables false
set_option linter.unusedSimpArgs false
set_option maxRecDepth 100000

theorem ids_le (l : List M.Table) {t : M.Table} (h : t ∈ l) : t.ids.length ≤ (M.idsT l).length := by
  induction l with
  | nil => simp at h
  | cons a l ih =>
    unfold M.idsT at ih ⊢
    rw [List.flatMap_cons, List.length_append]
    rcases List.mem_cons.1 h with rfl | h
    · omega
    · have := ih h; omega
theorem tables_le (l : List M.Table) (h : ∀ t ∈ l, t.ids ≠ []) : l.length ≤ (M.idsT l).length := by
  induction l with
  | nil => simp
  | cons a l ih =>
    have h1 := ih (fun t ht => h t (List.mem_cons_of_mem _ ht))
    have h2 : a.ids.length ≠ 0 := fun e => h a (by simp) (List.length_eq_zero_iff.1 e)
    unfold M.idsT at h1 ⊢
    rw [List.flatMap_cons, List.length_append, List.length_cons]
    omega
structure Bounds (s : M.Store) : Prop where
  few : s.tables.length ≤ 10
  each : ∀ t ∈ s.tables, t.ids.length ≤ 10 ∧ t.rows.length = t.ids.length ∧ t.ids ≠ [] ∧ t.rows ≠ [] ∧ (1 ≤ t.mask ∧ t.mask ≤ 31)
  asc : s.tables.Pairwise (fun a b => a.mask < b.mask)
  lo : 0 ≤ s.next
  hi : s.next ≤ 1048576
theorem good_bounds {s : M.Store} (h : M.GoodS s) : Bounds s := by
  obtain ⟨h1, h2, h3, h4, h5, h6⟩ := h
  refine ⟨Nat.le_trans (tables_le _ fun t ht => (h1 t ht).1) h4, fun t ht => ?_, h2, h5, h6⟩
  obtain ⟨k1, k2, k3, k4⟩ := h1 t ht
  have hr : t.rows ≠ [] := fun e => k1 (List.length_eq_zero_iff.1 (by rw [k2, e]; rfl))
  refine ⟨Nat.le_trans (ids_le _ ht) h4, k2.symm, k1, hr, ?_⟩
  obtain ⟨r, hr⟩ := List.exists_mem_of_ne_nil _ hr
  have := M.goodRow_fits.1 (k4 r hr)
  exact ⟨this.lo, this.hi⟩
theorem Bounds.short {s : M.Store} (h : Bounds s) : Short s := by
  refine ⟨by have := h.few; omega, fun t ht => ?_⟩
  obtain ⟨k1, k2, k3, k4, k5⟩ := h.each t ht
  exact ⟨⟨k3, k4⟩, by omega, by omega⟩
/-- few tables, short ones -/
def FewT (ts : List M.Table) : Prop := ts.length ≤ 1000 ∧ ∀ t ∈ ts, t.ids.length ≤ 1000 ∧ t.rows.length ≤ 1000
theorem Bounds.isFew {s : M.Store} (h : Bounds s) : FewT s.tables := by
  refine ⟨by have := h.few; omega, fun t ht => ?_⟩
  obtain ⟨k1, k2, k3, k4, k5⟩ := h.each t ht
  exact ⟨by omega, by omega⟩
theorem Bounds.masks {s : M.Store} (h : Bounds s) : Masks s.tables := by
  refine ⟨h.asc, fun t ht => ?_⟩
  obtain ⟨k1, k2, k3, k4, k5⟩ := h.each t ht
  omega
/-- a good store's numbers are of 64 bits -/
theorem good_in {s : M.Store} (h : M.GoodS s) : StoreIn s := by
  have hb := good_bounds h
  obtain ⟨h1, h2, h3, h4, h5, h6⟩ := h
  refine ⟨⟨by omega, by omega⟩, fun t ht => ?_⟩
  obtain ⟨k1, k2, k3, k4⟩ := h1 t ht
  have km := (hb.each t ht).2.2.2.2
  refine ⟨⟨by omega, by omega⟩, fun z hz => ?_, fun r hr => ?_⟩
  · have := k3 z hz; exact ⟨by omega, by omega⟩
  · have := (M.goodRow_fits.1 (k4 r hr)).rowIn
    unfold M.RowIn M.Ok64 at this
    unfold RowOk I64
    omega
theorem without_length {α : Type} (l : List α) (k : Nat) : (M.without l k).length = l.length - 1 := by
  unfold M.without
  cases h : l.getLast? with
  | none => rw [List.getLast?_eq_none_iff.1 h]; rfl
  | some x => simp
theorem good_sized {s : M.Store} (g : M.GoodS s) : Sized s := by
  have b := good_bounds g
  refine ⟨by have := b.few; omega, fun t ht => ?_⟩
  obtain ⟨k1, k2, k3, k4, k5⟩ := b.each t ht
  omega
end Go.Proofs.YtkpecagkpjabdabGreat
/- The contract of store.Kill. Condition: the store lies in memory, its numbers are of 64 bits. -/
namespace Go.Proofs.YtkpecagkpjabdabGreat
open Go.RowKit
set_option linter.unusedVariables false
set_option linter.unusedSimpArgs false
set_option maxRecDepth 100000

/-- what an own store holds, as a store's value -/
theorem agg_store {w : World} {base : Nat} {vt : Value} {s : M.Store} {hs : List (Value × Value)} (h : TabsAtH w base vt s.tables hs) : StoreAt w 0 (.agg #[vt, .int .i64 s.next]) s := StoreAt.mono (lo := base) ⟨vt, rfl, hs, h⟩ (Nat.zero_le _)

/-- a result: the store that was handed in, or one in memory of the call's own -/
def NewOr (w w' : World) (v v' : Value) (s x : M.Store) : Prop := (v' = v ∧ x = s) ∨ StoreAt w' w.heap.size v' x
theorem agg_new {w0 w : World} {base : Nat} {vt v : Value} {s0 s : M.Store} {hs : List (Value × Value)} (h : TabsAtH w base vt s.tables hs) (hb : w0.heap.size ≤ base) :
    StoreAt w 0 (.agg #[vt, .int .i64 s.next]) s ∧ NewOr w0 w v (.agg #[vt, .int .i64 s.next]) s0 s := ⟨agg_store h, .inr (StoreAt.mono (lo := base) ⟨vt, rfl, hs, h⟩ hb)⟩

end Go.Proofs.YtkpecagkpjabdabGreat
/- The contract of store.Set. Condition: the store lies in memory, its numbers are of 64 bits. -/
namespace Go.Proofs.YtkpecagkpjabdabGreat
open Go.RowKit
set_option linter.unusedVariables false
set_option linter.unusedSimpArgs false
set_option maxRecDepth 100000

theorem set_done {w W : World} {base : Nat} {vt : Value} {ts : List M.Table} {hs : List (Value × Value)} {i k gr cr : Nat} {t : M.Table} {v1 : Value} {r : M.Row} (h : OwnTabs w base vt ts hs) (hat : ts[i]? = some t)
    (hp : hs[i]? = some (v1, .slice (some ⟨gr, 0, none⟩) t.rows.length cr)) (hk : k < t.rows.length) (hl : t.ids.length = t.rows.length)
    (hW : (((((((w.setCell ⟨gr, k * 8, none⟩ (.int .i64 r.X)).setCell ⟨gr, k * 8 + 1, none⟩ (.int .i64 r.Y)).setCell ⟨gr, k * 8 + 2, none⟩ (.int .i64 r.PX)).setCell ⟨gr, k * 8 + 3, none⟩ (.int .i64 r.PY)).setCell ⟨gr, k * 8 + 4, none⟩ (.int .i64 r.W)).setCell ⟨gr, k * 8 + 5, none⟩ (.int .i64 r.H)).setCell ⟨gr, k * 8 + 6, none⟩ (.int .i64 r.M)).setCell ⟨gr, k * 8 + 7, none⟩ (.int .i64 r.R) = W) :
    OwnTabs W base vt (M.setT ts i k r) hs := by
  subst hW
  have far : ∀ (U : World) (b j : Nat) (u : Value) (g : Nat), g ≠ b → (U.setCell ⟨b, j, none⟩ u).heap[g]? = U.heap[g]? := fun U b j u g hg => Below.heap_setCell _ _ _ _ hg
  have hs1 := (List.getElem?_eq_some_iff.1 hp)
  have hke := h.each i t _ hat hp
  have hset : hs.set i (v1, .slice (some ⟨gr, 0, none⟩) t.rows.length cr) = hs := by
    obtain ⟨h1, h2⟩ := hs1
    rw [← h2, List.set_getElem_self]
  have hv := fun g (hg : vt.ownBlock = some g) => blks_vt h.apart hg (List.mem_of_getElem? hp)
  have hnv : v1.ownBlock ≠ some gr := fun e => blks_pair h.apart hp e (by simp [Value.ownBlock])
  have hsame : ∀ (v : Value), v.ownBlock ≠ some gr → ∀ g, v.ownBlock = some g → ((((((((w.setCell ⟨gr, k * 8, none⟩ (.int .i64 r.X)).setCell ⟨gr, k * 8 + 1, none⟩ (.int .i64 r.Y)).setCell ⟨gr, k * 8 + 2, none⟩ (.int .i64 r.PX)).setCell ⟨gr, k * 8 + 3, none⟩ (.int .i64 r.PY)).setCell ⟨gr, k * 8 + 4, none⟩ (.int .i64 r.W)).setCell ⟨gr, k * 8 + 5, none⟩ (.int .i64 r.H)).setCell ⟨gr, k * 8 + 6, none⟩ (.int .i64 r.M)).setCell ⟨gr, k * 8 + 7, none⟩ (.int .i64 r.R)).heap[g]? = w.heap[g]? := by
    intro v hn g hg
    have hne : g ≠ gr := fun e => hn (by rw [hg, e])
    rw [far _ _ _ _ _ hne, far _ _ _ _ _ hne, far _ _ _ _ _ hne, far _ _ _ _ _ hne, far _ _ _ _ _ hne, far _ _ _ _ _ hne, far _ _ _ _ _ hne, far _ _ _ _ _ hne]
  have hvt : vt.ownBlock ≠ some gr := fun e => (hv gr e).2 (by simp [Value.ownBlock])
  unfold M.setT
  rw [hat]
  have R := OwnTabs.turn (W := (((((((w.setCell ⟨gr, k * 8, none⟩ (.int .i64 r.X)).setCell ⟨gr, k * 8 + 1, none⟩ (.int .i64 r.Y)).setCell ⟨gr, k * 8 + 2, none⟩ (.int .i64 r.PX)).setCell ⟨gr, k * 8 + 3, none⟩ (.int .i64 r.PY)).setCell ⟨gr, k * 8 + 4, none⟩ (.int .i64 r.W)).setCell ⟨gr, k * 8 + 5, none⟩ (.int .i64 r.H)).setCell ⟨gr, k * 8 + 6, none⟩ (.int .i64 r.M)).setCell ⟨gr, k * 8 + 7, none⟩ (.int .i64 r.R)) h hat hp (t' := ⟨t.mask, t.ids, t.rows.set k r⟩) (q := (v1, .slice (some ⟨gr, 0, none⟩) t.rows.length cr)) rfl (by rw [hset]; exact own_same h.row (hsame vt hvt)) ⟨own_same hke.ids (hsame v1 hnv), by
    have P := own_put (own_put (own_put (own_put (own_put (own_put (own_put (own_put hke.rows (k * 8) (.int .i64 r.X)) (k * 8 + 1) (.int .i64 r.Y)) (k * 8 + 2) (.int .i64 r.PX)) (k * 8 + 3) (.int .i64 r.PY)) (k * 8 + 4) (.int .i64 r.W)) (k * 8 + 5) (.int .i64 r.H)) (k * 8 + 6) (.int .i64 r.M)) (k * 8 + 7) (.int .i64 r.R)
    rw [rowsL_set _ _ _ hk] at P
    simpa using P⟩ rfl rfl (fun g hg q1 q2 q3 => by
    have hne : g ≠ gr := fun e => q3 (by simp [Value.ownBlock, e])
    rw [far _ _ _ _ _ hne, far _ _ _ _ _ hne, far _ _ _ _ _ hne, far _ _ _ _ _ hne, far _ _ _ _ _ hne, far _ _ _ _ _ hne, far _ _ _ _ _ hne, far _ _ _ _ _ hne])
  rw [hset] at R
  exact R
set_option maxHeartbeats 4000000 in
set_option maxRecDepth 100000 in
theorem set_calls {w : World} {lo : Nat} {v : Value} {s : M.Store} (h : StoreAt w lo v s) (hin : StoreIn s) (id : Int) (r : M.Row) :
    Calls Tryz.prog 50 #[v, .int .i64 id, rowV r] w fun e w' => ∃ v', e = .returned (.tuple #[v', .int .i64 (M.set s id r).2]) ∧ (StoreAt w' 0 v' (M.set s id r).1 ∧ NewOr w w' v v' s (M.set s id r).1) ∧ Below w.heap.size w w' := by
  have HG := Lib.hid (fun W (hb : Below w.heap.size w W) => storeGood_calls (h.below hb) hin)
  have HF := Lib.hid (fun W (hb : Below w.heap.size w W) => find_calls (h.below hb) id)
  have HST := Lib.hid h
  have HOW := Lib.hid (fun W (hb : Below w.heap.size w W) => own_calls (h.below hb))
  obtain ⟨vt, rfl, hs, hT⟩ := h
  obtain ⟨a, cap, rfl⟩ := hT.val
  clear hin
  by_cases hg : M.good s = true
  · have hgs := (M.good_iff s).1 hg
    rw [hg] at HG
    cases hf : M.find s id with
    | none =>
      have hfo : M.found s id = (0, 0, false) := by unfold M.found; rw [hf]
      rw [hfo] at HF
      have HR : Hid (M.set s id r = (s, 3)) := Lib.hid (by unfold M.set; rw [hg, hf]; rfl)
      rw [HR.out]
      clear hf hfo hg hgs HOW hT
      go_enter Tryz.func50, Tryz.ntmps50
      go_wp2_with (first | (go_at_call 56; refine (HG.out _ bel9).mono ?_; rintro e w1 ⟨rfl, hb1⟩; obtain ⟨hc1, hf1⟩ := bcell hb1; have hz1 := hb1.size; (try simp at hz1); have f1_0 : w.heap.size < w1.heap.size := (by omega); have g1_0 : w.heap.size < w.heap.size + 1 + 1 + 1 := (by omega); have f1_1 : w.heap.size + 1 < w1.heap.size := (by omega); have g1_1 : w.heap.size + 1 < w.heap.size + 1 + 1 + 1 := (by omega); have f1_2 : w.heap.size + 1 + 1 < w1.heap.size := (by omega); have g1_2 : w.heap.size + 1 + 1 < w.heap.size + 1 + 1 + 1 := (by omega); have K1 : Below w.heap.size w w1 := (show Below w.heap.size w _ from bel9).trans (hb1.mono sid9)) | (go_at_call 38; refine (HF.out _ bel9).mono ?_; rintro e w2 ⟨rfl, hb2⟩; obtain ⟨hc2, hf2⟩ := bcell hb2; have hz2 := hb2.size; (try simp at hz2); have f2_0 : w.heap.size < w2.heap.size := (by omega); have f2_1 : w.heap.size + 1 < w2.heap.size := (by omega); have f2_2 : w.heap.size + 1 + 1 < w2.heap.size := (by omega); have K2 : Below w.heap.size w w2 := (show Below w.heap.size w _ from bel9).trans (hb2.mono sid9)))
      refine bodyPost_ret (v := .tuple #[.agg #[.slice a s.tables.length cap, .int .i64 s.next], .int .i64 3]) ?_ rfl ⟨_, rfl, ⟨(HST.out.below bel9).mono (Nat.zero_le _), .inl ⟨rfl, rfl⟩⟩, bel9⟩
      simp only [results, Tryz.results50]
      go_simp
    | some p =>
      obtain ⟨i, k⟩ := p
      have hfo : M.found s id = ((i : Int), (k : Int), true) := by unfold M.found; rw [hf]
      rw [hfo] at HF
      have hbd := good_bounds hgs
      obtain ⟨t, ht, hmem, hki, hid⟩ := M.findT_at hf
      have hee := hbd.each t hmem
      obtain ⟨b, o, cap', a1, cp1, a2, cp2, e, hlo, hp, c0, c1, c2, h1, h2⟩ := hT.at2 ht
      obtain ⟨rfl, rfl⟩ : a = some ⟨b, o, none⟩ ∧ cap = cap' := by simpa using e
      have hit : i < s.tables.length := (List.getElem?_eq_some_iff.1 ht).1
      have C0 := Lib.hid c0
      have HT := Lib.hid ht
      have HN1 : s.tables.length ≤ 1000 := by have := hbd.few; omega
      have HN2 := Lib.hid hki
      have HN3 : Hid (t.ids.length = t.rows.length) := Lib.hid hee.2.1.symm
      have HN4 : Hid (t.ids.length ≤ 1000) := Lib.hid (by omega)
      have HSH := Lib.hid hbd.short
      have hma : M.maskAt s i = t.mask := by unfold M.maskAt; rw [ht]
      have HQ := Lib.hid (fun W => goodRow_calls t.mask r W)
      have HN0 : Hid (0 < s.tables.length) := Lib.hid (by omega)
      have HN5 := Lib.hid hit
      have HN7 : Hid (k < t.rows.length) := Lib.hid (by omega)
      have HN6 : Hid (0 < t.rows.length) := Lib.hid (by omega)
      obtain ⟨q, hqr⟩ : ∃ q, t.rows[k]? = some q := ⟨_, List.getElem?_eq_getElem (by omega)⟩
      have HQR := Lib.hid hqr
      have hk10 : k < t.rows.length := HN7.out
      clear hqr
      have hG0 := hg
      have hf0 := hf
      clear hf hfo
      clear hg hgs hbd hmem hki hid hee c0 c1 c2 h1 h2 hT e hp
      by_cases hq : M.goodRow t.mask r = true
      · rw [hq] at HQ
        have HR : Hid (M.set s id r = ({ s with tables := M.setT s.tables i k r }, 0)) := Lib.hid (by
          unfold M.set
          rw [hG0, hf0]
          simp only [hma, hq]
          rfl)
        rw [HR.out]
        clear hG0 hf0 hma hq
        go_enter Tryz.func50, Tryz.ntmps50
        go_wp2_with (first | (go_at_call 56; refine (HG.out _ bel9).mono ?_; rintro e w1 ⟨rfl, hb1⟩; obtain ⟨hc1, hf1⟩ := bcell hb1; have hz1 := hb1.size; (try simp at hz1); have f1_0 : w.heap.size < w1.heap.size := (by omega); have g1_0 : w.heap.size < w.heap.size + 1 + 1 + 1 := (by omega); have f1_1 : w.heap.size + 1 < w1.heap.size := (by omega); have g1_1 : w.heap.size + 1 < w.heap.size + 1 + 1 + 1 := (by omega); have f1_2 : w.heap.size + 1 + 1 < w1.heap.size := (by omega); have g1_2 : w.heap.size + 1 + 1 < w.heap.size + 1 + 1 + 1 := (by omega); have K1 : Below w.heap.size w w1 := (show Below w.heap.size w _ from bel9).trans (hb1.mono sid9)) | (go_at_call 38; refine (HF.out _ bel9).mono ?_; rintro e w2 ⟨rfl, hb2⟩; obtain ⟨hc2, hf2⟩ := bcell hb2; have hz2 := hb2.size; (try simp at hz2); have f2_0 : w.heap.size < w2.heap.size := (by omega); have f2_1 : w.heap.size + 1 < w2.heap.size := (by omega); have f2_2 : w.heap.size + 1 + 1 < w2.heap.size := (by omega); have K2 : Below w.heap.size w w2 := (show Below w.heap.size w _ from bel9).trans (hb2.mono sid9); have c0 := below_cell C0.out K2))
        go_region_with (go_at_call 76; refine (HQ.out _).mono ?_; rintro e w3 ⟨rfl, hb3q⟩; have hb3 : Below w2.heap.size w2 w3 := (Below.refl _ w2).drew.trans hb3q; have hz3 := hb3.size; obtain ⟨hc3, hf3⟩ := bcell hb3; have f3_0 : w.heap.size < w3.heap.size := (by omega); have f3_1 : w.heap.size + 1 < w3.heap.size := (by omega); have f3_2 : w.heap.size + 1 + 1 < w3.heap.size := (by omega); have K3 : Below w.heap.size w w3 := (show Below w.heap.size w _ from bel9).trans (hb3.mono sid9))
        all_goals
          go_wp2_with (first | (go_at_call 77; refine (HOW.out _ bel9 HSH.out).mono ?_; rintro e w4 ⟨vt1, hs1, rfl, ho4, hb4⟩; have K4 : Below w.heap.size w w4 := (show Below w.heap.size w _ from bel9).trans (hb4.mono sid9); have bx4 : Blk w4 w.heap.size 39 #[.slice (some ⟨b, o, none⟩) s.tables.length cap, .int .i64 s.next] := (by repeat first | with_reducible apply Blk.below (hb := hb4) (hg := sid9) | with_reducible apply Blk.below (hb := hb3) (hg := sid9) | with_reducible apply Blk.below (hb := hb2) (hg := sid9) | with_reducible apply Blk.below (hb := hb1) (hg := sid9) | with_reducible exact Blk.new_at (h := (by first | rfl | (simp; done) | omega)) | with_reducible apply Blk.alloc | with_reducible apply Blk.drew); obtain ⟨g0, cap0, rfl, hg0, hg1⟩ := own_val ho4.row HN0.out; obtain ⟨⟨v1, v2⟩, hp1⟩ : ∃ p, hs1[i]? = some p := ⟨_, List.getElem?_eq_getElem (by have := ho4.len; have := HN5.out; omega)⟩; have hkk := ho4.each i t (v1, v2) HT.out hp1; obtain ⟨gr, cr, e2, hgr, hgr1⟩ := own_val hkk.rows HN6.out; simp only at e2; subst e2; obtain ⟨x0, x1, x2⟩ := tabL_at s.tables hs1 i HT.out hp1; have T2 := (ho4.row.cellAt (i * 3 + 2) (by have := HN5.out; omega)).trans x2; have TF := (fun j => ho4.row.frozenAt j); have RF := (fun j => hkk.rows.frozenAt j); have rk : ∀ j, j < 8 → w4.cell? ⟨gr, k * 8 + j, none⟩ = (rowL q)[j]? := (fun j hj => (hkk.rows.cellAt _ (by have := HN7.out; omega)).trans (rowsL_at _ _ _ HQR.out hj)); have k0 := rk 0 (by omega); have k1 := rk 1 (by omega); have k2 := rk 2 (by omega); have k3 := rk 3 (by omega); have k4 := rk 4 (by omega); have k5 := rk 5 (by omega); have k6 := rk 6 (by omega); have k7 := rk 7 (by omega); simp only [rowL, List.getElem?_cons_zero, List.getElem?_cons_succ, Nat.add_zero] at k0 k1 k2 k3 k4 k5 k6 k7; have n1 : g0 ≠ w.heap.size := (by omega); have n2 : gr ≠ w.heap.size := (by omega); have n3 : gr ≠ w.heap.size + 1 := (by omega); have n4 : gr ≠ w.heap.size + 1 + 1 := (by omega); have HO4 := Lib.hid ho4; have HP1 := Lib.hid hp1; clear rk x0 x1 x2; have c40 := bx4.cell 0; have c41 := bx4.cell 1; have f4 := (fun i => bx4.free i); have z4 := bx4.lt; simp at c40 c41; have hz4 := hb4.size; (try simp at hz4); obtain ⟨hc4, hf4⟩ := bcell hb4; have g4a : w.heap.size < w3.heap.size := (by omega); have g4b : w.heap.size + 1 < w3.heap.size := (by omega); have g4c : w.heap.size + 1 + 1 < w3.heap.size := (by omega); have g4d : w.heap.size + 1 < w4.heap.size := (by omega); have g4e : w.heap.size + 1 + 1 < w4.heap.size := (by omega)))
          go_region
          go_wp2_with fail
          obtain ⟨wA, hA⟩ : ∃ W, W = (w4.setCell ⟨w.heap.size, 0, none⟩ (.slice (some ⟨g0, 0, none⟩) s.tables.length cap0)).setCell ⟨w.heap.size, 1, none⟩ (.int .i64 s.next) := ⟨_, rfl⟩
          have HOA : OwnTabs wA w3.heap.size (.slice (some ⟨g0, 0, none⟩) s.tables.length cap0) s.tables hs1 := by
            refine HO4.out.same (Nat.le_refl _) (fun g h1 h2 => ?_)
            rw [hA]
            exact (Below.heap_setCell _ _ _ _ (by show g ≠ w.heap.size; omega)).trans (Below.heap_setCell _ _ _ _ (by show g ≠ w.heap.size; omega))
          have KA : Below w.heap.size w wA := by rw [hA]; exact bel9
          rw [← hA]
          obtain ⟨wB, hB⟩ : ∃ W, (((((((wA.setCell ⟨gr, k * 8, none⟩ (.int .i64 r.X)).setCell ⟨gr, k * 8 + 1, none⟩ (.int .i64 r.Y)).setCell ⟨gr, k * 8 + 2, none⟩ (.int .i64 r.PX)).setCell ⟨gr, k * 8 + 3, none⟩ (.int .i64 r.PY)).setCell ⟨gr, k * 8 + 4, none⟩ (.int .i64 r.W)).setCell ⟨gr, k * 8 + 5, none⟩ (.int .i64 r.H)).setCell ⟨gr, k * 8 + 6, none⟩ (.int .i64 r.M)).setCell ⟨gr, k * 8 + 7, none⟩ (.int .i64 r.R) = W := ⟨_, rfl⟩
          have HOB := set_done HOA HT.out HP1.out HN7.out HN3.out hB
          have KB : Below w.heap.size w wB := by rw [← hB]; exact bel9
          rw [hB]
          refine bodyPost_ret (v := .tuple #[.agg #[.slice (some ⟨g0, 0, none⟩) s.tables.length cap0, .int .i64 s.next], .int .i64 0]) ?_ rfl ⟨_, rfl, agg_new (s := { s with tables := M.setT s.tables i k r }) (HOB.same (Nat.le_refl _) (fun g h1 h2 => (Below.heap_setCell _ _ _ _ (by show g ≠ w.heap.size + 1 + 1; omega)).trans (Below.heap_setCell _ _ _ _ (by show g ≠ w.heap.size + 1 + 1; omega)))).tabs sid9, ?_⟩
          · subst hB; subst hA
            simp only [results, Tryz.results50]
            go_simp
          · exact bel9
      · have hq0 : M.goodRow t.mask r = false := by simpa using hq
        rw [hq0] at HQ
        have HR : Hid (M.set s id r = (s, 2)) := Lib.hid (by
          unfold M.set
          rw [hG0, hf0]
          simp only [hma, hq0]
          rfl)
        rw [HR.out]
        clear hG0 hf0 hma hq hq0
        go_enter Tryz.func50, Tryz.ntmps50
        go_wp2_with (first | (go_at_call 56; refine (HG.out _ bel9).mono ?_; rintro e w1 ⟨rfl, hb1⟩; obtain ⟨hc1, hf1⟩ := bcell hb1; have hz1 := hb1.size; (try simp at hz1); have f1_0 : w.heap.size < w1.heap.size := (by omega); have g1_0 : w.heap.size < w.heap.size + 1 + 1 + 1 := (by omega); have f1_1 : w.heap.size + 1 < w1.heap.size := (by omega); have g1_1 : w.heap.size + 1 < w.heap.size + 1 + 1 + 1 := (by omega); have f1_2 : w.heap.size + 1 + 1 < w1.heap.size := (by omega); have g1_2 : w.heap.size + 1 + 1 < w.heap.size + 1 + 1 + 1 := (by omega); have K1 : Below w.heap.size w w1 := (show Below w.heap.size w _ from bel9).trans (hb1.mono sid9)) | (go_at_call 38; refine (HF.out _ bel9).mono ?_; rintro e w2 ⟨rfl, hb2⟩; obtain ⟨hc2, hf2⟩ := bcell hb2; have hz2 := hb2.size; (try simp at hz2); have f2_0 : w.heap.size < w2.heap.size := (by omega); have f2_1 : w.heap.size + 1 < w2.heap.size := (by omega); have f2_2 : w.heap.size + 1 + 1 < w2.heap.size := (by omega); have K2 : Below w.heap.size w w2 := (show Below w.heap.size w _ from bel9).trans (hb2.mono sid9); have c0 := below_cell C0.out K2))
        go_region_with (go_at_call 76; refine (HQ.out _).mono ?_; rintro e w3 ⟨rfl, hb3q⟩; have hb3 : Below w2.heap.size w2 w3 := (Below.refl _ w2).drew.trans hb3q; have hz3 := hb3.size; obtain ⟨hc3, hf3⟩ := bcell hb3; have f3_0 : w.heap.size < w3.heap.size := (by omega); have f3_1 : w.heap.size + 1 < w3.heap.size := (by omega); have f3_2 : w.heap.size + 1 + 1 < w3.heap.size := (by omega); have K3 : Below w.heap.size w w3 := (show Below w.heap.size w _ from bel9).trans (hb3.mono sid9))
        all_goals
          go_wp2_with fail
          refine bodyPost_ret (v := .tuple #[.agg #[.slice (some ⟨b, o, none⟩) s.tables.length cap, .int .i64 s.next], .int .i64 2]) ?_ rfl ⟨_, rfl, ⟨(HST.out.below bel9).mono (Nat.zero_le _), .inl ⟨rfl, rfl⟩⟩, bel9⟩
          simp only [results, Tryz.results50]
          go_simp
  · have hg0 : M.good s = false := by simpa using hg
    rw [hg0] at HG
    have HR : Hid (M.set s id r = (s, 1)) := Lib.hid (by unfold M.set; rw [hg0]; rfl)
    rw [HR.out]
    clear hg hg0 HF HOW hT
    go_enter Tryz.func50, Tryz.ntmps50
    go_wp2_with (first | (go_at_call 56; refine (HG.out _ bel9).mono ?_; rintro e w1 ⟨rfl, hb1⟩; obtain ⟨hc1, hf1⟩ := bcell hb1; have hz1 := hb1.size; (try simp at hz1); have f1_0 : w.heap.size < w1.heap.size := (by omega); have g1_0 : w.heap.size < w.heap.size + 1 + 1 + 1 := (by omega); have f1_1 : w.heap.size + 1 < w1.heap.size := (by omega); have g1_1 : w.heap.size + 1 < w.heap.size + 1 + 1 + 1 := (by omega); have f1_2 : w.heap.size + 1 + 1 < w1.heap.size := (by omega); have g1_2 : w.heap.size + 1 + 1 < w.heap.size + 1 + 1 + 1 := (by omega); have K1 : Below w.heap.size w w1 := (show Below w.heap.size w _ from bel9).trans (hb1.mono sid9)))
    refine bodyPost_ret (v := .tuple #[.agg #[.slice a s.tables.length cap, .int .i64 s.next], .int .i64 1]) ?_ rfl ⟨_, rfl, ⟨(HST.out.below bel9).mono (Nat.zero_le _), .inl ⟨rfl, rfl⟩⟩, bel9⟩
    simp only [results, Tryz.results50]
    go_simp
end Go.Proofs.YtkpecagkpjabdabGreat
/- A store's value behind stores into other blocks: where a call's result may lie. No condition. -/
namespace Go.Proofs.YtkpecagkpjabdabGreat
open Go.RowKit
set_option linter.unusedVariables false
set_option linter.unusedSimpArgs false
set_option maxRecDepth 100000

theorem Lies.same {w W : World} {lo : Nat} {v : Value} {n k : Nat} {xs : List Value} (h : Lies w lo v n k xs) (hs : ∀ g, lo ≤ g → g < w.heap.size → W.heap[g]? = w.heap[g]?) : Lies W lo v n k xs := by
  obtain ⟨h1, hm, a, cap, h2, h3⟩ := h
  refine ⟨h1, hm, a, cap, h2, fun hne => ?_⟩
  obtain ⟨b, o, e, hl, hc⟩ := h3 hne
  exact ⟨b, o, e, hl, fun j u hj => (World.cell?_of_block (a := ⟨b, o + j, none⟩) (hs b hl (cell_lt (hc j u hj)))).trans (hc j u hj)⟩
theorem StoreAt.same {w W : World} {lo : Nat} {v : Value} {s : M.Store} (h : StoreAt w lo v s) (hs : ∀ g, lo ≤ g → g < w.heap.size → W.heap[g]? = w.heap[g]?) : StoreAt W lo v s := by
  obtain ⟨vt, e, hs', h1, h2, h3⟩ := h
  exact ⟨vt, e, hs', h1, h2.same hs, fun i t p a b => ⟨(h3 i t p a b).1.same hs, (h3 i t p a b).2.same hs⟩⟩
end Go.Proofs.YtkpecagkpjabdabGreat
