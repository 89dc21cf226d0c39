/- The contract of store.put. Condition: an own store's tables, ascending by mask, few; a mask from 0 to 31. -/
import Derived.Test.YtkpecagkpjabdaaStorePutLaw
import Derived.Test.YtkpecagkpjabdaaRowCells
import Derived.Deep.DeepCutAuto
namespace Go.Proofs.Ytkpecagkpjabdaa
open Go.RowKit
set_option linter.unusedVariables false
set_option linter.unusedSimpArgs false
set_option maxRecDepth 100000

theorem putT_found {ts : List M.Table} {m : Int} {i : Nat} {t : M.Table} (hs : Stands ts m i) (ht : ts[i]? = some t) (hm : t.mask = m) (id : Int) (r : M.Row) :
    M.putT id m r ts = ts.set i ⟨m, t.ids ++ [id], t.rows ++ [r]⟩ := by
  induction ts generalizing i with
  | nil => simp at ht
  | cons a ts ih =>
    obtain ⟨h1, h2, h3⟩ := hs
    match i with
    | 0 =>
      simp only [List.getElem?_cons_zero, Option.some.injEq] at ht
      subst ht
      unfold M.putT
      rw [if_neg (by omega), if_pos hm]
      rfl
    | i + 1 =>
      have ha := h2 0 a (by simp) (by omega)
      unfold M.putT
      rw [if_pos ha, ih (i := i) ⟨by simp only [List.length_cons] at h1; omega, fun k u hu hk => h2 (k + 1) u (by simpa using hu) (by omega), fun k u hu hk => h3 (k + 1) u (by simpa using hu) (by omega)⟩ (by simpa using ht)]
      rfl
theorem putT_new {ts : List M.Table} {m : Int} {i : Nat} (hs : Stands ts m i) (hn : ¬ ∃ t, ts[i]? = some t ∧ t.mask = m) (id : Int) (r : M.Row) :
    M.putT id m r ts = ts.take i ++ ⟨m, [id], [r]⟩ :: ts.drop i := by
  induction ts generalizing i with
  | nil =>
    obtain ⟨h1, _⟩ := hs
    have : i = 0 := by simpa using h1
    subst this
    rfl
  | cons a ts ih =>
    obtain ⟨h1, h2, h3⟩ := hs
    match i with
    | 0 =>
      have ha := h3 0 a (by simp) (Nat.le_refl _)
      have hne : a.mask ≠ m := fun e => hn ⟨a, by simp, e⟩
      unfold M.putT
      rw [if_neg (by omega), if_neg hne]
      rfl
    | i + 1 =>
      have ha := h2 0 a (by simp) (by omega)
      unfold M.putT
      rw [if_pos ha, ih (i := i) ⟨by simp only [List.length_cons] at h1; omega, fun k u hu hk => h2 (k + 1) u (by simpa using hu) (by omega), fun k u hu hk => h3 (k + 1) u (by simpa using hu) (by omega)⟩ (fun ⟨t, h4, h5⟩ => hn ⟨t, by simpa using h4, h5⟩)]
      rfl
theorem tabL_append (ts us : List M.Table) (hs ks : List (Value × Value)) (h : hs.length = ts.length) : tabL (ts ++ us) (hs ++ ks) = tabL ts hs ++ tabL us ks := by
  unfold tabL
  rw [List.zip_append h.symm, List.flatMap_append]
theorem tabL_take (ts : List M.Table) (hs : List (Value × Value)) (i : Nat) (h : hs.length = ts.length) : tabL (ts.take i) (hs.take i) = (tabL ts hs).take (i * 3) := by
  induction ts generalizing hs i with
  | nil => simp [tabL]
  | cons t ts ih =>
    match hs, h, i with
    | p :: hs, h, 0 => simp [tabL]
    | p :: hs, h, i + 1 =>
      rw [List.take_succ_cons, List.take_succ_cons, tabL_cons, tabL_cons, ih hs i (by simpa using h), show (i + 1) * 3 = i * 3 + 3 by omega]
      rfl
theorem tabL_drop (ts : List M.Table) (hs : List (Value × Value)) (i : Nat) (h : hs.length = ts.length) : tabL (ts.drop i) (hs.drop i) = (tabL ts hs).drop (i * 3) := by
  induction ts generalizing hs i with
  | nil => simp [tabL]
  | cons t ts ih =>
    match hs, h, i with
    | p :: hs, h, 0 => simp
    | p :: hs, h, i + 1 =>
      rw [List.drop_succ_cons, List.drop_succ_cons, tabL_cons, ih hs i (by simpa using h), show (i + 1) * 3 = i * 3 + 3 by omega]
      rfl
def nilP : Value × Value := (.slice none 0 0, .slice none 0 0)
/-- a table more, without things -/
theorem own_insert {w W w' : World} {base : Nat} {vt v' : Value} {ts : List M.Table} {hs : List (Value × Value)} {i : Nat} {m : Int} (h : OwnTabs w base vt ts hs) (hi : i ≤ ts.length) (hb : Below w.heap.size w W)
    (hin : Inserted W base vt ts.length i (tabL ts hs) [.int .i64 m, .slice none 0 0, .slice none 0 0] v' w') : OwnTabs w' base v' (ts.take i ++ ⟨m, [], []⟩ :: ts.drop i) (hs.take i ++ nilP :: hs.drop i) := by
  obtain ⟨k1, k2, k3⟩ := hin
  have hl := h.len
  have hlen : (ts.take i ++ (⟨m, [], []⟩ : M.Table) :: ts.drop i).length = ts.length + 1 := by simp; omega
  have hrest : ∀ (u : Value) (p : Value × Value), p ∈ hs → (u = p.1 ∨ u = p.2) → u.ownBlock = none ∨ u.ownBlock ≠ vt.ownBlock := by
    intro u p hp hu
    cases e : u.ownBlock with
    | none => exact .inl rfl
    | some g =>
      right
      intro e2
      have := blks_vt h.apart e2.symm hp
      rcases hu with rfl | rfl
      · exact this.1 e
      · exact this.2 e
  have hkeep : ∀ (t : M.Table) (p : Value × Value), p ∈ hs → OwnTab w base t p → OwnTab w' base t p := fun t p hp k =>
    ⟨(own_below k.ids hb).kept k2 (hrest _ p hp (.inl rfl)), (own_below k.rows hb).kept k2 (hrest _ p hp (.inr rfl))⟩
  refine ⟨by simp; omega, ?_, ?_, ?_⟩
  · rw [hlen, tabL_append _ _ _ _ (by simp; omega), tabL_take _ _ _ hl, nilP, tabL_cons, tabL_drop _ _ _ hl]
    simpa using k1
  · intro j t p h1 h2
    rcases Nat.lt_trichotomy j i with hj | hj | hj
    · rw [List.getElem?_append_left (by simp; omega), List.getElem?_take, if_pos hj] at h1 h2
      exact hkeep t p (List.mem_of_getElem? h2) (h.each j t p h1 h2)
    · subst hj
      have e1 : (ts.take j).length = j := by simp; omega
      have e2 : (hs.take j).length = j := by simp; omega
      rw [List.getElem?_append_right (by omega), e1, Nat.sub_self] at h1
      rw [List.getElem?_append_right (by omega), e2, Nat.sub_self] at h2
      simp only [List.getElem?_cons_zero, Option.some.injEq] at h1 h2
      subst h1; subst h2
      exact ⟨World.ownsRow_nil _ _ _ _, World.ownsRow_nil _ _ _ _⟩
    · have e1 : (ts.take i).length = i := by simp; omega
      have e2 : (hs.take i).length = i := by simp; omega
      rw [List.getElem?_append_right (by omega), e1, show j - i = (j - i - 1) + 1 by omega, List.getElem?_cons_succ, List.getElem?_drop, show i + (j - i - 1) = j - 1 by omega] at h1
      rw [List.getElem?_append_right (by omega), e2, show j - i = (j - i - 1) + 1 by omega, List.getElem?_cons_succ, List.getElem?_drop, show i + (j - i - 1) = j - 1 by omega] at h2
      exact hkeep t p (List.mem_of_getElem? h2) (h.each (j - 1) t p h1 h2)
  · have e : (hs.take i ++ nilP :: hs.drop i).flatMap (fun h => [h.1, h.2]) = (hs.take i).flatMap (fun h => [h.1, h.2]) ++ (.slice none 0 0 :: .slice none 0 0 :: (hs.drop i).flatMap (fun h => [h.1, h.2])) := by
      rw [List.flatMap_append, List.flatMap_cons]; rfl
    have e2 : ((hs.take i ++ nilP :: hs.drop i).flatMap (fun h => [h.1, h.2])).filterMap Value.ownBlock = (hs.flatMap (fun h => [h.1, h.2])).filterMap Value.ownBlock := by
      have e3 : hs.flatMap (fun h => [h.1, h.2]) = (hs.take i).flatMap (fun h => [h.1, h.2]) ++ (hs.drop i).flatMap (fun h => [h.1, h.2]) := by rw [← List.flatMap_append, List.take_append_drop]
      rw [e, e3, List.filterMap_append, List.filterMap_append]
      simp [List.filterMap_cons, Value.ownBlock]
    have ha := h.apart
    have ha2 := blks_rest ha
    unfold blks
    rw [List.filterMap_cons]
    rcases k3 with k3 | ⟨nb, k3, k4⟩
    · rw [k3]
      unfold blks at ha
      rw [List.filterMap_cons] at ha
      cases e5 : vt.ownBlock <;> rw [e5] at ha
      · simp only []; rw [e2]; exact ha
      · simp only []; rw [e2]; exact ha
    · rw [k3]
      simp only []
      rw [e2, List.nodup_cons]
      refine ⟨fun hm => ?_, ha2⟩
      have : nb ∈ blks vt hs := by
        unfold blks
        rw [List.filterMap_cons]
        cases vt.ownBlock
        · exact hm
        · exact List.mem_cons_of_mem _ hm
      have h1 := (h.blk this).2
      have h2 := hb.size
      omega
/-- Insert, at whatever place -/
theorem insert_calls {w : World} {base : Nat} {vt : Value} {n i vb : Nat} {xs news : List Value} (h : w.ownsRow base 82 3 vt n xs) (hn : n ≤ 1000000) (hi : i ≤ n) (hb : base ≤ w.heap.size)
    (hl : news.length = 3) (hv : w.heap[vb]? = some (.cells news.toArray 82 (0, 0))) (hvb : vt.ownBlock ≠ some vb) (h1 : ∀ u ∈ news, u.oneCell' = true) (h2 : ∀ u ∈ xs, u.oneCell' = true) :
    Calls Try.prog 75 #[vt, .int .i64 i, .slice (some ⟨vb, 0, none⟩) 1 1] w fun e w' => ∃ v', e = .returned v' ∧ Inserted w base vt n i xs news v' w' := by
  rcases Nat.lt_or_ge i n with hlt | hge
  · obtain ⟨g, cap, rfl, hg, hg2⟩ := own_val h (by omega)
    have hcap : n ≤ cap := by
      rcases h.2 with ⟨e, _⟩ | ⟨g', cap', cur, e, _, _, hnc, _⟩
      · simp at e
      · simp only [Value.slice.injEq, true_and] at e; omega
    rcases Nat.lt_or_ge n cap with hr | hr
    · exact insert_shift h hn hlt hr (fun e => hvb (by simp [Value.ownBlock, e])) hl hv h1 h2
    · obtain rfl : cap = n := by omega
      exact insert_grow h hn hlt hb hl hv h1 h2
  · obtain rfl : i = n := by omega
    exact insert_end h hn hb hl (fun j u hj => by rw [cell_of_row w vb j _ _ (0, 0) hv]; simpa using hj) h1
theorem set_middle {α : Type} (a b : List α) (x y : α) (i : Nat) (h : a.length = i) : (a ++ x :: b).set i y = a ++ y :: b := by
  subst h
  rw [List.set_append_right _ _ (Nat.le_refl _), Nat.sub_self]
  rfl
theorem get_middle {α : Type} (a b : List α) (x : α) (i : Nat) (h : a.length = i) : (a ++ x :: b)[i]? = some x := by
  subst h
  rw [List.getElem?_append_right (Nat.le_refl _), Nat.sub_self]
  rfl
/-- the two slices stored, whichever first -/
theorem put_fin {base sb g0 cap0 i : Nat} {w wc W W' : World} {next m id : Int} {r : M.Row} {ts0 ts : List M.Table} {hs : List (Value × Value)} {p : Value × Value} {t : M.Table} {v5 v6 : Value} (hown : OwnTabs wc base (.slice (some ⟨g0, 0, none⟩) ts.length cap0) ts hs)
    (hat : ts[i]? = some t) (hp : hs[i]? = some p) (S : PutAt base wc p (t.ids ++ [id]) (t.rows ++ [r]) (some v5) (some v6) W) (hmask : t.mask = m) (hlaw : M.putT id m r ts0 = ts.set i ⟨m, t.ids ++ [id], t.rows ++ [r]⟩)
    (hbx : Blk wc sb 40 #[.slice (some ⟨g0, 0, none⟩) ts.length cap0, .int .i64 next]) (hsb : sb < base) (hbut : But base sb w wc)
    (hW : W' = (W.setCell ⟨g0, i * 3 + 1, none⟩ v5).setCell ⟨g0, i * 3 + 2, none⟩ v6 ∨ W' = (W.setCell ⟨g0, i * 3 + 2, none⟩ v6).setCell ⟨g0, i * 3 + 1, none⟩ v5) :
    ∃ vt' hs', Blk W' sb 40 #[vt', .int .i64 next] ∧ TabsAtH W' base vt' (M.putT id m r ts0) hs' ∧ But base sb w W' := by
  have hlt := (List.getElem?_eq_some_iff.1 hat).1
  have k := hown.each i t p hat hp
  have hg0 := hown.row.lt g0 rfl
  have far : ∀ g, g ≠ g0 → W'.heap[g]? = W.heap[g]? := by
    intro g hg
    rcases hW with rfl | rfl <;> rw [Below.heap_setCell _ _ _ _ hg, Below.heap_setCell _ _ _ _ hg]
  have fin := put_done (sb := sb) (t' := ⟨m, t.ids ++ [id], t.rows ++ [r]⟩) hown hat hp S hmask.symm (W' := W') (by rcases hW with rfl | rfl <;> rfl) (by rcases hW with rfl | rfl <;> rfl) (by rcases hW with rfl | rfl <;> rfl) (by rcases hW with rfl | rfl <;> simp [World.setCell]) far (by
    intro h
    rcases hW with rfl | rfl
    · have := own_put (own_put h (i * 3 + 1) v5) (i * 3 + 2) v6
      rw [tabL_set ts hs i hown.len hlt (v5, v6)] at this
      exact this
    · have := own_put (own_put h (i * 3 + 2) v6) (i * 3 + 1) v5
      rw [tabL_set_comm ts hs i hown.len hlt (v5, v6)] at this
      exact this)
  refine ⟨_, _, ?_, by rw [hlaw]; exact fin.1, hbut.trans fin.2⟩
  exact (far sb (by omega)).trans ((S.block sb hbx.lt (fun _ e => by have := (k.ids.lt sb e).1; omega) (fun _ e => by have := (k.rows.lt sb e).1; omega)).trans hbx)
end Go.Proofs.Ytkpecagkpjabdaa
