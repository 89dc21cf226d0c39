/- The plain laws behind StoreThere, StoreKeeps and StoreQueries: what Spawn, Kill, Set, Change, Get, Size and Query of the plain model answer about each other. Condition: the store is a good one (or the call answered 0). -/
import Derived.Test.YtkpecagkpjabdabPlainBits
namespace Go.Proofs.Ytkpecagkpjabdab.M
open Go.RowKit
set_option linter.unusedVariables false
set_option linter.unusedSimpArgs false
set_option maxRecDepth 100000

theorem GoodS.form {s : Store} (h : GoodS s) : Form s.tables := ((good_split s).1 h).1
theorem GoodS.goodE {s : Store} (h : GoodS s) : GoodE s.next (entries s) := ((good_split s).1 h).2
theorem GoodS.nodup {s : Store} (h : GoodS s) : ((entries s).map (·.1)).Nodup := h.goodE.2.1
theorem GoodS.get {s : Store} (h : GoodS s) (id : Int) : M.get s id = asGot (look (entries s) id) := get_look h.form h.nodup id
theorem GoodS.size {s : Store} (h : GoodS s) : M.size s = (entries s).length := size_len h.form
/-- a store that holds what another one does, but for one thing -/
theorem look_head {s : Store} (g : GoodS s) {id m : Int} {r : Row} {E : List Entry} (hp : (entries s).Perm ((id, m, r) :: E)) : look (entries s) id = some (m, r) := by
  rw [look_perm hp g.nodup, look_cons, if_pos rfl]
theorem look_rest {s : Store} (g : GoodS s) {id m : Int} {r : Row} {E : List Entry} (hp : (entries s).Perm ((id, m, r) :: E)) {o : Int} (ho : id ≠ o) : look (entries s) o = look E o := by
  rw [look_perm hp g.nodup, look_cons, if_neg ho]
theorem rest_fresh {s : Store} (g : GoodS s) {id m : Int} {r : Row} {E : List Entry} (hp : (entries s).Perm ((id, m, r) :: E)) : look E id = none := by
  have := (hp.map (·.1)).nodup_iff.1 g.nodup
  simp only [List.map_cons, List.nodup_cons] at this
  exact look_none.2 this.1

/-- Kill answers 0 where the thing is there -/
theorem kill_zero {s : Store} (g : GoodS s) {id m : Int} {r : Row} (h : look (entries s) id = some (m, r)) : (kill s id).2 = 0 := by
  unfold kill
  rw [if_neg (by simp [(good_iff s).2 g])]
  cases hf : find s id with
  | none => rw [(find_none g.form).1 hf] at h; simp at h
  | some p => rfl
theorem change_zero {s : Store} (g : GoodS s) {id m m' : Int} {q r : Row} (h : look (entries s) id = some (m, q)) (hr : goodRow m' (changed m m' q r) = true) : (change s id m' r).2 = 0 := by
  unfold change
  rw [if_neg (by simp [(good_iff s).2 g])]
  cases hf : find s id with
  | none => rw [(find_none g.form).1 hf] at h; simp at h
  | some p =>
    obtain ⟨i, k⟩ := p
    obtain ⟨t, r', a1, a2, a3, a4, a5⟩ := find_some g.form g.nodup hf
    rw [h] at a4
    simp only [Option.some.injEq, Prod.mk.injEq] at a4
    obtain ⟨e1, e2⟩ := a4
    have hm : maskAt s i = m := by unfold maskAt; rw [a1]; exact e1.symm
    have hq : rowAt s i k = q := by unfold rowAt; rw [a1]; simp [a3, e2]
    simp only [hm, hq]
    rw [if_neg (by simp [hr])]

/-! StoreThere -/
theorem there_was {s : Store} {m : Int} {r : Row} (h : (spawn s m r).2.2 = 0) : (get s (spawn s m r).2.1).2.2 = false := by
  obtain ⟨g, hr, hs, hn, e1, e2⟩ := spawn_ok h
  obtain ⟨_, _, hfresh⟩ := spawn_good h
  rw [g.get, e1, look_none.2 hfresh]
  rfl
theorem there_is {s : Store} {m : Int} {r : Row} (h : (spawn s m r).2.2 = 0) : get (spawn s m r).1 (spawn s m r).2.1 = (m, r, true) ∧ size (spawn s m r).1 = size s + 1 := by
  obtain ⟨g, hr, hs, hn, e1, e2⟩ := spawn_ok h
  obtain ⟨g', hp, hfresh⟩ := spawn_good h
  constructor
  · rw [g'.get, e1, look_head g' hp]
    rfl
  · rw [g'.size, g.size, hp.length_eq]
    rfl
theorem there_give {s : Store} {m : Int} {r more : Row} (h : (spawn s m r).2.2 = 0) {p : Nat} (hp5 : p < 5) (hb : bits .and .i64 m (2 ^ p : Int) = 0) (hmore : RowIn more)
    (hc : (change (spawn s m r).1 (spawn s m r).2.1 (bits .or .i64 m (2 ^ p : Int)) more).2 = 0) :
    (change (change (spawn s m r).1 (spawn s m r).2.1 (bits .or .i64 m (2 ^ p : Int)) more).1 (spawn s m r).2.1 m row0).2 = 0 ∧
    get (change (change (spawn s m r).1 (spawn s m r).2.1 (bits .or .i64 m (2 ^ p : Int)) more).1 (spawn s m r).2.1 m row0).1 (spawn s m r).2.1 = (m, r, true) := by
  obtain ⟨g, hr, hs, hn, e1, e2⟩ := spawn_ok h
  obtain ⟨g', hp, hfresh⟩ := spawn_good h
  have hfit := goodRow_fits.1 hr
  obtain ⟨b1, b2, b3⟩ := give_part hfit.lo hfit.hi hp5 hb
  rw [e1] at hc ⊢
  generalize (spawn s m r).1 = x at *
  rw [b1] at hc ⊢
  generalize hn' : m + (2 ^ p : Int) = n at *
  have hn0 : 0 ≤ n := by have := hfit.lo; have : (0 : Int) ≤ 2 ^ p := by exact Int.pow_nonneg (by omega)
                         omega
  obtain ⟨m1, q1, E, _, gy, _, hgr, hpx, hpy, hl⟩ := change_ok hc
  have hlx := look_head g' hp
  rw [hlx] at hl
  simp only [Option.some.injEq, Prod.mk.injEq] at hl
  obtain ⟨rfl, rfl⟩ := hl
  generalize (change x s.next n more).1 = y at *
  have hly := look_head gy hpy
  have hback : changed n m (changed m n r more) row0 = r := changed_back hfit b2 hn0 hmore b3
  have hz : (change y s.next m row0).2 = 0 := change_zero gy hly (by rw [hback]; exact hr)
  refine ⟨hz, ?_⟩
  obtain ⟨m2, q2, E2, _, gz, _, _, hpy2, hpz, hl2⟩ := change_ok hz
  rw [hly] at hl2
  simp only [Option.some.injEq, Prod.mk.injEq] at hl2
  obtain ⟨rfl, rfl⟩ := hl2
  rw [hback] at hpz
  rw [gz.get, look_head gz hpz]
  rfl
theorem there_gone {s : Store} {m : Int} {r : Row} (h : (spawn s m r).2.2 = 0) :
    (kill (spawn s m r).1 (spawn s m r).2.1).2 = 0 ∧ (get (kill (spawn s m r).1 (spawn s m r).2.1).1 (spawn s m r).2.1).2.2 = false ∧
    size (kill (spawn s m r).1 (spawn s m r).2.1).1 = size s := by
  obtain ⟨g, hr, hs, hn, e1, e2⟩ := spawn_ok h
  obtain ⟨g', hp, hfresh⟩ := spawn_good h
  have hl := look_head g' hp
  rw [e1]
  generalize (spawn s m r).1 = x at *
  have hk := kill_zero g' hl
  refine ⟨hk, ?_⟩
  obtain ⟨m1, r1, E, _, gk, _, hpx, hpk, _⟩ := kill_ok hk
  constructor
  · rw [gk.get, look_perm hpk gk.nodup, rest_fresh g' hpx]
    rfl
  · have h1 := hp.length_eq
    have h2 := hpx.length_eq
    have h3 := hpk.length_eq
    rw [gk.size, g.size]
    simp only [List.length_cons] at h1 h2
    omega

/-! StoreKeeps: whatever is done to a thing, the others are as they were -/
theorem keeps_of {s x : Store} (g : GoodS s) (gx : GoodS x) {o : Int} (h : look (entries x) o = look (entries s) o) : good x = true ∧ get s o = get x o :=
  ⟨(good_iff x).2 gx, by rw [g.get, gx.get, h]⟩
theorem keeps_spawn {s : Store} {m : Int} {r : Row} (h : (spawn s m r).2.2 = 0) {o : Int} (ho : o ≠ (spawn s m r).2.1) :
    good (spawn s m r).1 = true ∧ get s o = get (spawn s m r).1 o := by
  obtain ⟨g, hr, hs, hn, e1, e2⟩ := spawn_ok h
  obtain ⟨g', hp, hfresh⟩ := spawn_good h
  rw [e1] at ho
  exact keeps_of g g' (look_rest g' hp (fun e => ho e.symm))
theorem keeps_kill {s : Store} {id o : Int} (h : (kill s id).2 = 0) (ho : o ≠ id) : good (kill s id).1 = true ∧ get s o = get (kill s id).1 o := by
  obtain ⟨m1, r1, E, g, gk, _, hp, hpk, _⟩ := kill_ok h
  exact keeps_of g gk (by rw [look_perm hpk gk.nodup, look_rest g hp (fun e => ho e.symm)])
theorem keeps_set {s : Store} {id o : Int} {r : Row} (h : (set s id r).2 = 0) (ho : o ≠ id) : good (set s id r).1 = true ∧ get s o = get (set s id r).1 o := by
  obtain ⟨m1, r1, E, g, gk, _, _, hp, hpk, _⟩ := set_ok h
  exact keeps_of g gk (by rw [look_rest gk hpk (fun e => ho e.symm), look_rest g hp (fun e => ho e.symm)])
theorem keeps_change {s : Store} {id o m : Int} {r : Row} (h : (change s id m r).2 = 0) (ho : o ≠ id) : good (change s id m r).1 = true ∧ get s o = get (change s id m r).1 o := by
  obtain ⟨m1, r1, E, g, gk, _, _, hp, hpk, _⟩ := change_ok h
  exact keeps_of g gk (by rw [look_rest gk hpk (fun e => ho e.symm), look_rest g hp (fun e => ho e.symm)])

/-! StoreQueries -/
theorem mem_query {s : Store} (g : GoodS s) {m id : Int} : id ∈ query s m ↔ ∃ n r, look (entries s) id = some (n, r) ∧ bits .and .i64 n m = m := by
  unfold query
  rw [List.mem_mergeSort]
  simp only [List.mem_flatMap]
  constructor
  · rintro ⟨t, ht, hm⟩
    split at hm
    · rename_i hb
      obtain ⟨k, hk, rfl⟩ := List.getElem_of_mem hm
      have hl := g.form.even t ht
      refine ⟨t.mask, t.rows[k]'(by omega), ?_, hb⟩
      refine (look_some g.nodup).2 (mem_entriesT.2 ⟨t, ht, mem_entries.2 ⟨?_, rfl⟩⟩)
      have hz : k < (t.ids.zip t.rows).length := by simp; omega
      have := List.getElem_mem hz
      rwa [List.getElem_zip] at this
    · simp at hm
  · rintro ⟨n, r, hl, hb⟩
    obtain ⟨t, ht, he⟩ := mem_entriesT.1 ((look_some g.nodup).1 hl)
    obtain ⟨hz, hm⟩ := mem_entries.1 he
    simp only at hz hm
    refine ⟨t, ht, ?_⟩
    rw [← hm, if_pos hb]
    exact (List.of_mem_zip hz).1
theorem query_sub {l : List Table} (m : Int) : (l.flatMap fun t => if bits .and .i64 t.mask m = m then t.ids else []).Sublist (idsT l) := by
  induction l with
  | nil => exact List.Sublist.refl _
  | cons t l ih =>
    unfold idsT at ih ⊢
    rw [List.flatMap_cons, List.flatMap_cons]
    refine List.Sublist.append ?_ ih
    split
    · exact List.Sublist.refl _
    · exact List.nil_sublist _
theorem query_nodup {s : Store} (g : GoodS s) (m : Int) : (query s m).Nodup :=
  (List.mergeSort_perm _ _).nodup_iff.2 ((query_sub m).nodup g.2.2.1)
theorem query_sorted (s : Store) (m : Int) : (query s m).Pairwise (fun a b => a ≤ b) := by
  have := List.pairwise_mergeSort (le := fun a b : Int => decide (a ≤ b)) (by intro a b c; simp; omega) (by intro a b; simp; omega) (s.tables.flatMap fun t => if bits .and .i64 t.mask m = m then t.ids else [])
  exact this.imp (by simp)
theorem query_asc {s : Store} (g : GoodS s) (m : Int) : (query s m).Pairwise (fun a b => a < b) := by
  have h1 := query_sorted s m
  have h2 := query_nodup g m
  exact (h1.and h2).imp (by intro a b h; have := h.1; have := h.2; omega)
theorem query_len (s : Store) (m : Int) : (query s m).length = (s.tables.flatMap fun t => if bits .and .i64 t.mask m = m then t.ids else []).length := List.length_mergeSort _
end Go.Proofs.Ytkpecagkpjabdab.M
