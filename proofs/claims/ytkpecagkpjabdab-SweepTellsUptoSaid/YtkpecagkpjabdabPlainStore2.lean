/- Plain laws on stores: what Get, Spawn, Kill, Set and Change make of what a store holds. No condition, no program in sight. -/
import Derived.Test.YtkpecagkpjabdabPlainTables
namespace Go.Proofs.Ytkpecagkpjabdab.M
open Go.RowKit
set_option linter.unusedVariables false
set_option linter.unusedSimpArgs false
set_option maxRecDepth 100000

/-- the form of a store's tables -/
def Form (l : List Table) : Prop := (∀ t ∈ l, t.ids ≠ [] ∧ t.ids.length = t.rows.length) ∧ l.Pairwise (fun a b => a.mask < b.mask)
/-- things as they should be -/
def GoodE (next : Int) (E : List Entry) : Prop :=
  (∀ e ∈ E, (0 ≤ e.1 ∧ e.1 < next) ∧ goodRow e.2.1 e.2.2 = true) ∧ (E.map (·.1)).Nodup ∧ E.length ≤ 10 ∧ 0 ≤ next ∧ next ≤ 1048576
theorem Form.even {l : List Table} (h : Form l) : Even l := fun t ht => (h.1 t ht).2
theorem GoodE.perm {next : Int} {E E' : List Entry} (h : GoodE next E) (hp : E.Perm E') : GoodE next E' :=
  ⟨fun e he => h.1 e (hp.mem_iff.2 he), (hp.map _).nodup_iff.1 h.2.1, by rw [← hp.length_eq]; exact h.2.2.1, h.2.2.2⟩
theorem entriesT_len (l : List Table) (h : Even l) : (entriesT l).length = (idsT l).length := by
  rw [← entriesT_ids l h, List.length_map]
theorem mem_entriesT {l : List Table} {e : Entry} : e ∈ entriesT l ↔ ∃ t ∈ l, e ∈ t.entries := by simp [entriesT]
theorem good_split (s : Store) : GoodS s ↔ Form s.tables ∧ GoodE s.next (entries s) := by
  unfold GoodS GoodE
  constructor
  · rintro ⟨h1, h2, h3, h4, h5, h6⟩
    have he : Even s.tables := fun t ht => (h1 t ht).2.1
    refine ⟨⟨fun t ht => ⟨(h1 t ht).1, (h1 t ht).2.1⟩, h2⟩, ?_, ?_, ?_, h5, h6⟩
    · intro e hm
      obtain ⟨t, ht, hm⟩ := mem_entriesT.1 hm
      obtain ⟨hz, hmask⟩ := mem_entries.1 hm
      obtain ⟨_, _, a, b⟩ := h1 t ht
      refine ⟨a _ (List.of_mem_zip hz).1, ?_⟩
      rw [hmask]; exact b _ (List.of_mem_zip hz).2
    · rw [entries, entriesT_ids _ he]; exact h3
    · rw [entries, entriesT_len _ he]; exact h4
  · rintro ⟨⟨f1, f2⟩, g1, g2, g3, g4, g5⟩
    have he : Even s.tables := fun t ht => (f1 t ht).2
    rw [entries, entriesT_ids _ he] at g2
    rw [entries, entriesT_len _ he] at g3
    refine ⟨fun t ht => ⟨(f1 t ht).1, (f1 t ht).2, ?_, ?_⟩, f2, g2, g3, g4, g5⟩
    · intro i hi
      obtain ⟨k, hk, rfl⟩ := List.getElem_of_mem hi
      have hk2 : k < t.rows.length := by rw [← he t ht]; exact hk
      refine (g1 (t.ids[k], t.mask, t.rows[k]) (mem_entriesT.2 ⟨t, ht, mem_entries.2 ⟨?_, rfl⟩⟩)).1
      have hz : k < (t.ids.zip t.rows).length := by simp; omega
      have := List.getElem_mem hz
      rwa [List.getElem_zip] at this
    · intro r hr
      obtain ⟨k, hk, rfl⟩ := List.getElem_of_mem hr
      have hk2 : k < t.ids.length := by rw [he t ht]; exact hk
      refine (g1 (t.ids[k], t.mask, t.rows[k]) (mem_entriesT.2 ⟨t, ht, mem_entries.2 ⟨?_, rfl⟩⟩)).2
      have hz : k < (t.ids.zip t.rows).length := by simp; omega
      have := List.getElem_mem hz
      rwa [List.getElem_zip] at this

/-! the form is kept -/
theorem putT_mask_mem {l : List Table} {id m : Int} {r : Row} {t : Table} (h : t ∈ putT id m r l) : t.mask = m ∨ ∃ u ∈ l, u.mask = t.mask := by
  induction l with
  | nil => simp [putT] at h; subst h; exact .inl rfl
  | cons a l ih =>
    unfold putT at h
    split at h
    · rcases List.mem_cons.1 h with rfl | h
      · exact .inr ⟨_, by simp, rfl⟩
      · rcases ih h with h | ⟨u, hu, e⟩
        · exact .inl h
        · exact .inr ⟨u, List.mem_cons_of_mem _ hu, e⟩
    · split at h
      · rcases List.mem_cons.1 h with rfl | h
        · exact .inl rfl
        · exact .inr ⟨_, List.mem_cons_of_mem _ h, rfl⟩
      · rcases List.mem_cons.1 h with rfl | h
        · exact .inl rfl
        · exact .inr ⟨_, h, rfl⟩
theorem putT_form {l : List Table} (h : Form l) (id m : Int) (r : Row) : Form (putT id m r l) := by
  refine ⟨fun t ht => ⟨?_, putT_even l h.even id m r t ht⟩, ?_⟩
  · have h1 := h.1
    clear h
    induction l with
    | nil => simp [putT] at ht; subst ht; simp
    | cons a l ih =>
      have h2 := fun x hx => h1 x (List.mem_cons_of_mem _ hx)
      unfold putT at ht
      split at ht
      · rcases List.mem_cons.1 ht with rfl | ht
        · exact (h1 _ (by simp)).1
        · exact ih ht h2
      · split at ht
        · rcases List.mem_cons.1 ht with rfl | ht
          · simp
          · exact (h2 _ ht).1
        · rcases List.mem_cons.1 ht with rfl | ht
          · simp
          · exact (h1 _ ht).1
  · have h1 := h.2
    clear h
    induction l with
    | nil => simp [putT]
    | cons a l ih =>
      obtain ⟨p1, p2⟩ := List.pairwise_cons.1 h1
      unfold putT
      split
      · rename_i hlt
        refine List.pairwise_cons.2 ⟨fun t ht => ?_, ih p2⟩
        rcases putT_mask_mem ht with e | ⟨u, hu, e⟩
        · rw [e]; exact hlt
        · rw [← e]; exact p1 u hu
      · split
        · rename_i hlt e
          refine List.pairwise_cons.2 ⟨fun t ht => ?_, p2⟩
          have := p1 t ht
          simp only; omega
        · rename_i hlt e
          refine List.pairwise_cons.2 ⟨fun t ht => ?_, h1⟩
          simp only
          rcases List.mem_cons.1 ht with rfl | ht
          · omega
          · have := p1 t ht; omega
theorem set_mask_pairwise {l : List Table} (h : l.Pairwise (fun a b => a.mask < b.mask)) {i : Nat} {t u : Table} (hi : l[i]? = some t) (e : u.mask = t.mask) :
    (l.set i u).Pairwise (fun a b => a.mask < b.mask) := by
  rw [← List.pairwise_map (f := Table.mask) (R := (· < ·))] at h ⊢
  have : (l.set i u).map Table.mask = l.map Table.mask := by
    rw [List.map_set, e]
    apply List.ext_getElem?
    intro j
    rw [List.getElem?_set]
    split
    · rename_i e2; subst e2
      split
      · rw [List.getElem?_map, hi]; rfl
      · rename_i e2; simp at e2; rw [List.getElem?_eq_none (by simpa using e2)]
    · rfl
  rw [this]; exact h
theorem setT_form {l : List Table} (h : Form l) (i k : Nat) (r : Row) : Form (setT l i k r) := by
  unfold setT
  split
  · exact h
  · rename_i t hi
    refine ⟨fun x hx => ?_, set_mask_pairwise h.2 hi rfl⟩
    rcases List.mem_or_eq_of_mem_set hx with h1 | rfl
    · exact h.1 x h1
    · have := h.1 t (List.mem_of_getElem? hi)
      exact ⟨this.1, by simpa using this.2⟩
theorem cutT_form {l : List Table} (h : Form l) (i k : Nat) : Form (cutT l i k) := by
  unfold cutT
  split
  · exact h
  · rename_i t hi
    split
    · exact ⟨fun x hx => h.1 x (List.mem_of_mem_eraseIdx hx), h.2.sublist (List.eraseIdx_sublist _ _)⟩
    · rename_i h1
      refine ⟨fun x hx => ?_, set_mask_pairwise h.2 hi rfl⟩
      rcases List.mem_or_eq_of_mem_set hx with h2 | rfl
      · exact h.1 x h2
      · have := h.1 t (List.mem_of_getElem? hi)
        refine ⟨?_, by rw [without_length, without_length, this.2]⟩
        intro e
        have e2 := without_length t.ids k
        have e' : without t.ids k = [] := e
        rw [e'] at e2
        have : t.ids.length ≠ 0 := fun e3 => this.1 (List.length_eq_zero_iff.1 e3)
        simp at e2; omega

/-! Get -/
def asGot : Option (Int × Row) → Int × Row × Bool
  | none => (0, row0, false)
  | some (m, r) => (m, r, true)
/-- a thing's table and place, and the others -/
theorem find_some {s : Store} (h : Form s.tables) (hn : ((entries s).map (·.1)).Nodup) {id : Int} {i k : Nat} (hf : find s id = some (i, k)) :
    ∃ t r, s.tables[i]? = some t ∧ t.ids[k]? = some id ∧ t.rows[k]? = some r ∧ look (entries s) id = some (t.mask, r) ∧
      (entries s).Perm ((id, t.mask, r) :: entries (cut s i k)) := by
  obtain ⟨t, h1, h2, hk, h3⟩ := findT_at hf
  have hl := h.even t h2
  have hk2 : k < t.rows.length := by omega
  have hp := cutT_perm h.even h1 hk hk2
  rw [h3] at hp
  refine ⟨t, t.rows[k], h1, by rw [List.getElem?_eq_getElem hk, h3], List.getElem?_eq_getElem hk2, ?_, hp⟩
  exact (look_some hn).2 (hp.mem_iff.2 (by simp))
theorem find_none {s : Store} (h : Form s.tables) {id : Int} : find s id = none ↔ look (entries s) id = none := by
  rw [look_none, entries, entriesT_ids _ h.even]
  exact findT_none _ _
theorem get_look {s : Store} (h : Form s.tables) (hn : ((entries s).map (·.1)).Nodup) (id : Int) : get s id = asGot (look (entries s) id) := by
  unfold get
  cases hf : find s id with
  | none => rw [(find_none h).1 hf]; rfl
  | some p =>
    obtain ⟨i, k⟩ := p
    obtain ⟨t, r, h1, h2, h3, h4, h5⟩ := find_some h hn hf
    rw [h4]
    obtain ⟨h6, h7⟩ := List.getElem?_eq_some_iff.1 h3
    simp only [h1, h6, dif_pos, h7]
    rfl
theorem size_len {s : Store} (h : Form s.tables) : size s = (entries s).length := (entriesT_len _ h.even).symm

theorem look_cons (e : Entry) (l : List Entry) (id : Int) : look (e :: l) id = if e.1 = id then some (e.2.1, e.2.2) else look l id := by
  unfold look
  rw [List.find?_cons]
  by_cases h : e.1 = id
  · simp [h]
  · have hb : (e.1 == id) = false := by simpa using h
    rw [if_neg h]; simp [hb]

/-! Spawn, Kill, Set, Change: on what is held -/
theorem spawn_ok {s : Store} {m : Int} {r : Row} (h : (spawn s m r).2.2 = 0) :
    GoodS s ∧ goodRow m r = true ∧ size s < 10 ∧ s.next < 1048576 ∧ (spawn s m r).2.1 = s.next ∧ (spawn s m r).1 = put { s with next := s.next + 1 } s.next m r := by
  unfold spawn at h ⊢
  split at h
  · simp at h
  · rename_i h1
    split at h
    · simp at h
    · rename_i h2
      split at h
      · simp at h
      · rename_i h3
        rw [if_neg h1, if_neg h2, if_neg h3]
        exact ⟨(good_iff s).1 (by simpa using h1), by simpa using h2, by omega, by omega, rfl, rfl⟩
theorem put_good {s : Store} {id m : Int} {r : Row} {E : List Entry} (hf : Form s.tables) (hp : (entries s).Perm E) (hg : GoodE s.next ((id, m, r) :: E)) :
    GoodS (put s id m r) ∧ (entries (put s id m r)).Perm ((id, m, r) :: E) := by
  have h1 := putT_perm s.tables hf.even id m r
  have h2 : (entries (put s id m r)).Perm ((id, m, r) :: E) := h1.trans (List.Perm.cons _ hp)
  exact ⟨(good_split _).2 ⟨putT_form hf id m r, hg.perm h2.symm⟩, h2⟩
theorem spawn_good {s : Store} {m : Int} {r : Row} (h : (spawn s m r).2.2 = 0) :
    GoodS (spawn s m r).1 ∧ (entries (spawn s m r).1).Perm ((s.next, m, r) :: entries s) ∧ s.next ∉ (entries s).map (·.1) := by
  obtain ⟨g, hr, hs, hn, _, e⟩ := spawn_ok h
  obtain ⟨hf, g1, g2, g3, g4, g5⟩ := (good_split s).1 g
  have hfresh : s.next ∉ (entries s).map (·.1) := by
    intro hm
    obtain ⟨x, hx, e⟩ := List.mem_map.1 hm
    have := (g1 x hx).1
    omega
  rw [e]
  have := put_good (s := { s with next := s.next + 1 }) (id := s.next) (m := m) (r := r) (E := entries s) hf (List.Perm.refl _) (by
    refine ⟨?_, ?_, ?_, by simp only; omega, by simp only; omega⟩
    · intro x hx
      rcases List.mem_cons.1 hx with rfl | hx
      · exact ⟨by simp only; omega, hr⟩
      · have := g1 x hx
        exact ⟨by simp only; omega, this.2⟩
    · simp only [List.map_cons, List.nodup_cons]
      exact ⟨hfresh, g2⟩
    · rw [size_len hf] at hs; simp only [List.length_cons]; omega)
  exact ⟨this.1, this.2, hfresh⟩
theorem kill_ok {s : Store} {id : Int} (h : (kill s id).2 = 0) : ∃ m r E, GoodS s ∧ GoodS (kill s id).1 ∧ (kill s id).1.next = s.next ∧
    (entries s).Perm ((id, m, r) :: E) ∧ (entries (kill s id).1).Perm E ∧ look (entries s) id = some (m, r) := by
  unfold kill at h ⊢
  split at h
  · simp at h
  · rename_i h1
    have g := (good_iff s).1 (by simpa using h1)
    obtain ⟨hf, g1, g2, g3, g4, g5⟩ := (good_split s).1 g
    rw [if_neg h1]
    split at h
    · simp at h
    · rename_i i k hfd
      obtain ⟨t, r, a1, a2, a3, a4, a5⟩ := find_some hf g2 hfd
      refine ⟨t.mask, r, entries (cut s i k), g, ?_, rfl, a5, List.Perm.refl _, a4⟩
      have hg : GoodE s.next ((id, t.mask, r) :: entries (cut s i k)) := GoodE.perm ⟨g1, g2, g3, g4, g5⟩ a5
      obtain ⟨b1, b2, b3, b4⟩ := hg
      simp only [List.map_cons, List.nodup_cons, List.length_cons] at b2 b3
      exact (good_split _).2 ⟨cutT_form hf i k, fun e he => b1 e (List.mem_cons_of_mem _ he), b2.2, by show (entries (cut s i k)).length ≤ 10; omega, b4⟩
theorem GoodE.swap {next : Int} {id m m' : Int} {r r' : Row} {E : List Entry} (h : GoodE next ((id, m, r) :: E)) (hr : goodRow m' r' = true) : GoodE next ((id, m', r') :: E) := by
  obtain ⟨b1, b2, b3, b4⟩ := h
  refine ⟨fun e he => ?_, b2, b3, b4⟩
  rcases List.mem_cons.1 he with rfl | he
  · exact ⟨(b1 (id, m, r) (by simp)).1, hr⟩
  · exact b1 e (List.mem_cons_of_mem _ he)
theorem set_ok {s : Store} {id : Int} {r : Row} (h : (set s id r).2 = 0) : ∃ m q E, GoodS s ∧ GoodS (set s id r).1 ∧ (set s id r).1.next = s.next ∧ goodRow m r = true ∧
    (entries s).Perm ((id, m, q) :: E) ∧ (entries (set s id r).1).Perm ((id, m, r) :: E) ∧ look (entries s) id = some (m, q) := by
  unfold set at h ⊢
  split at h
  · simp at h
  · rename_i h1
    have g := (good_iff s).1 (by simpa using h1)
    obtain ⟨hf, g1, g2, g3, g4, g5⟩ := (good_split s).1 g
    rw [if_neg h1]
    split at h
    · simp at h
    · rename_i i k hfd
      obtain ⟨t, q, a1, a2, a3, a4, a5⟩ := find_some hf g2 hfd
      have hm : maskAt s i = t.mask := by unfold maskAt; rw [a1]
      simp only [hm] at h ⊢
      split at h
      · simp at h
      · rename_i h2
        rw [if_neg h2]
        have hg : GoodE s.next ((id, t.mask, q) :: entries (cut s i k)) := GoodE.perm ⟨g1, g2, g3, g4, g5⟩ a5
        have hr : goodRow t.mask r = true := by simpa using h2
        obtain ⟨k1, k2⟩ := List.getElem?_eq_some_iff.1 a2
        obtain ⟨k3, k4⟩ := List.getElem?_eq_some_iff.1 a3
        have hp := setT_perm hf.even a1 k1 k3 r
        rw [k2] at hp
        refine ⟨t.mask, q, entries (cut s i k), g, ?_, rfl, hr, a5, hp, a4⟩
        exact (good_split _).2 ⟨setT_form hf i k r, (hg.swap hr).perm hp.symm⟩
theorem change_ok {s : Store} {id m' : Int} {r : Row} (h : (change s id m' r).2 = 0) : ∃ m q E, GoodS s ∧ GoodS (change s id m' r).1 ∧ (change s id m' r).1.next = s.next ∧
    goodRow m' (changed m m' q r) = true ∧
    (entries s).Perm ((id, m, q) :: E) ∧ (entries (change s id m' r).1).Perm ((id, m', changed m m' q r) :: E) ∧ look (entries s) id = some (m, q) := by
  unfold change at h ⊢
  split at h
  · simp at h
  · rename_i h1
    have g := (good_iff s).1 (by simpa using h1)
    obtain ⟨hf, g1, g2, g3, g4, g5⟩ := (good_split s).1 g
    rw [if_neg h1]
    split at h
    · simp at h
    · rename_i i k hfd
      obtain ⟨t, q, a1, a2, a3, a4, a5⟩ := find_some hf g2 hfd
      have hm : maskAt s i = t.mask := by unfold maskAt; rw [a1]
      have hq : rowAt s i k = q := by unfold rowAt; rw [a1]; simp [a3]
      simp only [hm, hq] at h ⊢
      split at h
      · simp at h
      · rename_i h2
        rw [if_neg h2]
        have hg : GoodE s.next ((id, t.mask, q) :: entries (cut s i k)) := GoodE.perm ⟨g1, g2, g3, g4, g5⟩ a5
        have hr : goodRow m' (changed t.mask m' q r) = true := by simpa using h2
        have hpg := put_good (s := cut s i k) (id := id) (m := m') (r := changed t.mask m' q r) (cutT_form hf i k) (List.Perm.refl _) (hg.swap hr)
        exact ⟨t.mask, q, entries (cut s i k), g, hpg.1, rfl, hr, a5, hpg.2, a4⟩
end Go.Proofs.Ytkpecagkpjabdab.M
