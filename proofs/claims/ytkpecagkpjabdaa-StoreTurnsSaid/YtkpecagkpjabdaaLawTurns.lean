/- The plain laws behind StoreTurns: what Spawn, Kill, Set and Change of the plain model make of a good store, in the things that it holds. No program in sight. -/
import Derived.Test.YtkpecagkpjabdaaBagP
import Derived.Test.YtkpecagkpjabdaaMapThing
namespace Go.Proofs.Ytkpecagkpjabdaa.M
open Go.RowKit
set_option linter.unusedVariables false
set_option linter.unusedSimpArgs false
set_option maxRecDepth 100000
set_option maxRecDepth 100000
theorem look_upd (E : List Entry) (id m : Int) (r : Row) : look ((id, m, r) :: E) = upd (look E) id (m, r) := by
  funext j
  rw [look_cons]
  unfold upd
  by_cases h : j = id
  · subst h; simp
  · rw [if_neg (fun e => h e.symm), if_neg h]
theorem look_of_perm {s : Store} (g : GoodS s) {E : List Entry} (hp : (entries s).Perm E) : look (entries s) = look E := by
  funext j
  exact look_perm hp g.nodup j
theorem upd_upd (f : Int → Option Th) (id : Int) (a b : Th) : upd (upd f id a) id b = upd f id b := by
  funext j; unfold upd; split <;> rfl
theorem upd_del (f : Int → Option Th) (id : Int) (a : Th) : upd (del f id) id a = upd f id a := by
  funext j; unfold upd del; split <;> rfl
theorem del_upd (f : Int → Option Th) (id : Int) (a : Th) (h : f id = none) : del (upd f id a) id = f := by
  funext j; unfold upd del
  by_cases hj : j = id
  · subst hj; simp [h]
  · simp [hj]
theorem spawn_bad {s : Store} (h : good s = false) (m : Int) (r : Row) : spawn s m r = (s, 0, 1) := by unfold spawn; rw [if_pos h]
theorem kill_bad {s : Store} (h : good s = false) (id : Int) : kill s id = (s, 1) := by unfold kill; rw [if_pos h]
theorem set_bad {s : Store} (h : good s = false) (id : Int) (r : Row) : set s id r = (s, 1) := by unfold set; rw [if_pos h]
theorem change_bad {s : Store} (h : good s = false) (id m : Int) (r : Row) : change s id m r = (s, 1) := by unfold change; rw [if_pos h]
theorem spawn_three {s : Store} (g : GoodS s) (m : Int) (r : Row) :
    (goodRow m r = false ∧ spawn s m r = (s, 0, 2)) ∨ (goodRow m r = true ∧ (10 ≤ size s ∨ 1048576 ≤ s.next) ∧ spawn s m r = (s, 0, 5)) ∨
    (goodRow m r = true ∧ (size s < 10 ∧ s.next < 1048576) ∧ (spawn s m r).2 = (s.next, 0) ∧ GoodS (spawn s m r).1 ∧ (spawn s m r).1.next = s.next + 1 ∧ look (entries (spawn s m r).1) = upd (look (entries s)) s.next (m, r)) := by
  have hg := (good_iff s).2 g
  cases hr : goodRow m r with
  | false =>
    left
    refine ⟨rfl, ?_⟩
    unfold spawn
    rw [if_neg (by rw [hg]; simp), if_pos hr]
  | true =>
    right
    by_cases hf : 10 ≤ size s ∨ 1048576 ≤ s.next
    · left
      refine ⟨rfl, hf, ?_⟩
      unfold spawn
      rw [if_neg (by rw [hg]; simp), if_neg (by rw [hr]; simp), if_pos hf]
    · right
      have e : spawn s m r = (put { s with next := s.next + 1 } s.next m r, s.next, 0) := by
        unfold spawn
        rw [if_neg (by rw [hg]; simp), if_neg (by rw [hr]; simp), if_neg hf]
      have h0 : (spawn s m r).2.2 = 0 := by rw [e]
      obtain ⟨k1, k2, k3⟩ := spawn_good h0
      refine ⟨rfl, by omega, by rw [e], k1, by rw [e]; rfl, ?_⟩
      rw [look_of_perm k1 k2, look_upd]
theorem kill_two {s : Store} (g : GoodS s) (id : Int) : (look (entries s) id = none ∧ kill s id = (s, 3)) ∨
    (∃ p, look (entries s) id = some p ∧ (kill s id).2 = 0 ∧ GoodS (kill s id).1 ∧ (kill s id).1.next = s.next ∧ look (entries (kill s id).1) = del (look (entries s)) id) := by
  have hg := (good_iff s).2 g
  cases hf : find s id with
  | none =>
    left
    refine ⟨(find_none g.form).1 hf, ?_⟩
    unfold kill
    rw [if_neg (by rw [hg]; simp), hf]
  | some p =>
    right
    have e : (kill s id).2 = 0 := by unfold kill; rw [if_neg (by rw [hg]; simp), hf]
    obtain ⟨m, r, E, _, k1, k2, k3, k4, k5⟩ := kill_ok e
    refine ⟨_, k5, e, k1, k2, ?_⟩
    have hn : id ∉ E.map (·.1) := by
      have := (k3.map (·.1)).nodup_iff.1 g.nodup
      simp only [List.map_cons, List.nodup_cons] at this
      exact this.1
    rw [look_of_perm k1 k4, look_of_perm g k3, look_upd, del_upd _ _ _ (look_none.2 hn)]
theorem set_none {s : Store} (g : GoodS s) {id : Int} (h : look (entries s) id = none) (r : Row) : set s id r = (s, 3) := by
  unfold set
  rw [if_neg (by rw [(good_iff s).2 g]; simp), (find_none g.form).2 h]
theorem change_none {s : Store} (g : GoodS s) {id : Int} (h : look (entries s) id = none) (m : Int) (r : Row) : change s id m r = (s, 3) := by
  unfold change
  rw [if_neg (by rw [(good_iff s).2 g]; simp), (find_none g.form).2 h]
theorem find_was {s : Store} (g : GoodS s) {id : Int} {p : Th} (h : look (entries s) id = some p) : ∃ i k, find s id = some (i, k) ∧ maskAt s i = p.1 ∧ rowAt s i k = p.2 := by
  cases hf : find s id with
  | none => rw [(find_none g.form).1 hf] at h; cases h
  | some q =>
    obtain ⟨i, k⟩ := q
    obtain ⟨t, r, a1, a2, a3, a4, a5⟩ := find_some g.form g.nodup hf
    rw [h] at a4
    obtain rfl : p = (t.mask, r) := by simpa using a4
    refine ⟨i, k, rfl, by unfold maskAt; rw [a1], ?_⟩
    unfold rowAt
    rw [a1]
    show t.rows.getD k row0 = r
    rw [List.getD_eq_getElem?_getD, a3]
    rfl
theorem set_two {s : Store} (g : GoodS s) {id : Int} {p : Th} (h : look (entries s) id = some p) (r : Row) :
    (goodRow p.1 r = false ∧ set s id r = (s, 2)) ∨ (goodRow p.1 r = true ∧ (set s id r).2 = 0 ∧ GoodS (set s id r).1 ∧ (set s id r).1.next = s.next ∧ look (entries (set s id r).1) = upd (look (entries s)) id (p.1, r)) := by
  have hg := (good_iff s).2 g
  obtain ⟨i, k, hf, hm, hq⟩ := find_was g h
  cases hr : goodRow p.1 r with
  | false =>
    left
    refine ⟨rfl, ?_⟩
    unfold set
    rw [if_neg (by rw [hg]; simp), hf]
    simp only [hm, hr, if_true]
  | true =>
    right
    have e : (set s id r).2 = 0 := by
      unfold set
      rw [if_neg (by rw [hg]; simp), hf]
      simp only [hm, hr, Bool.true_eq_false, if_false]
    obtain ⟨m, q, E, _, k1, k2, k3, k4, k5, k6⟩ := set_ok e
    rw [h] at k6
    obtain rfl : p = (m, q) := by simpa using k6
    refine ⟨rfl, e, k1, k2, ?_⟩
    rw [look_of_perm k1 k5, look_of_perm g k4, look_upd, look_upd, upd_upd]
theorem change_two {s : Store} (g : GoodS s) {id : Int} {p : Th} (h : look (entries s) id = some p) (m : Int) (r : Row) :
    (goodRow m (changed p.1 m p.2 r) = false ∧ change s id m r = (s, 2)) ∨ (goodRow m (changed p.1 m p.2 r) = true ∧ (change s id m r).2 = 0 ∧ GoodS (change s id m r).1 ∧ (change s id m r).1.next = s.next ∧ look (entries (change s id m r).1) = upd (look (entries s)) id (m, changed p.1 m p.2 r)) := by
  have hg := (good_iff s).2 g
  obtain ⟨i, k, hf, hm, hq⟩ := find_was g h
  cases hr : goodRow m (changed p.1 m p.2 r) with
  | false =>
    left
    refine ⟨rfl, ?_⟩
    unfold change
    rw [if_neg (by rw [hg]; simp), hf]
    simp only [hm, hq, hr, if_true]
  | true =>
    right
    have e : (change s id m r).2 = 0 := by
      unfold change
      rw [if_neg (by rw [hg]; simp), hf]
      simp only [hm, hq, hr, Bool.true_eq_false, if_false]
    obtain ⟨m1, q, E, _, k1, k2, k3, k4, k5, k6⟩ := change_ok e
    rw [h] at k6
    obtain rfl : p = (m1, q) := by simpa using k6
    refine ⟨rfl, e, k1, k2, ?_⟩
    rw [look_of_perm k1 k5, look_of_perm g k4, look_upd, look_upd, upd_upd]
theorem bad_mask_row {m : Int} (h : m < 0 ∨ 31 < m) (r : Row) : goodRow m r = false := by
  cases hr : goodRow m r with
  | false => rfl
  | true => have k := goodRow_fits.1 hr; have := k.lo; have := k.hi; omega
theorem and_tab : ∀ m w : Fin 32, ∀ p : Fin 4, bit (bits .and .i64 m.val w.val) (2 ^ p.val : Int) = (bit m.val (2 ^ p.val : Int) && bit w.val (2 ^ p.val : Int)) := by decide
theorem and_bounds : ∀ m w : Fin 32, (0 ≤ bits .and .i64 m.val w.val ∧ bits .and .i64 m.val w.val ≤ 31) ∧ 0 ≤ bits .andNot .i64 m.val w.val ∧ bits .andNot .i64 m.val w.val ≤ 31 := by decide
theorem bounds_and {m w : Int} (m0 : 0 ≤ m) (m1 : m ≤ 31) (w0 : 0 ≤ w) (w1 : w ≤ 31) : (0 ≤ bits .and .i64 m w ∧ bits .and .i64 m w ≤ 31) ∧ 0 ≤ bits .andNot .i64 m w ∧ bits .andNot .i64 m w ≤ 31 := by
  obtain ⟨a, rfl⟩ := fin_of m0 m1
  obtain ⟨b, rfl⟩ := fin_of w0 w1
  exact and_bounds a b
theorem bit_and {m w : Int} (m0 : 0 ≤ m) (m1 : m ≤ 31) (w0 : 0 ≤ w) (w1 : w ≤ 31) {p : Int} (hp : p = 1 ∨ p = 2 ∨ p = 4 ∨ p = 8) : bit (bits .and .i64 m w) p = (bit m p && bit w p) := by
  obtain ⟨a, rfl⟩ := fin_of m0 m1
  obtain ⟨b, rfl⟩ := fin_of w0 w1
  rcases hp with rfl | rfl | rfl | rfl
  · exact and_tab a b 0
  · exact and_tab a b 1
  · exact and_tab a b 2
  · exact and_tab a b 3
theorem one_parts {x y : Int} {bm bw : Bool} (hx : Ok64 x) (hy : Ok64 y) :
    wrap64 ((if (bm && bw) = true then x else 0) + (if (bm && !bw) = true then y else 0)) = if bm then (if bw then x else y) else 0 := by
  have h0 : wrap64 0 = 0 := wrap_ok ⟨by omega, by omega⟩
  cases bm <;> cases bw <;> simp [wrap_ok hx, wrap_ok hy, h0]
/-- the row of a changed thing, as the document adds it up -/
theorem parts_eq {was m : Int} {old r : Row} (m0 : 0 ≤ m) (m1 : m ≤ 31) (w0 : 0 ≤ was) (w1 : was ≤ 31) (ho : RowIn old) (hr : RowIn r) :
    plus (only (bits .and .i64 m was) old) (only (bits .andNot .i64 m was) r) = changed was m old r := by
  rw [changed_eq m0 m1 w0 w1 ho hr]
  obtain ⟨⟨o1, o2⟩, ⟨o3, o4⟩, ⟨o5, o6⟩, o7, o8⟩ := ho
  obtain ⟨⟨r1, r2⟩, ⟨r3, r4⟩, ⟨r5, r6⟩, r7, r8⟩ := hr
  unfold plus only onlyAt
  simp only [bit_and m0 m1 w0 w1 (p := 1) (by simp), bit_and m0 m1 w0 w1 (p := 2) (by simp), bit_and m0 m1 w0 w1 (p := 4) (by simp), bit_and m0 m1 w0 w1 (p := 8) (by simp),
    (bit_other m0 m1 w0 w1 (p := 1) (by simp)).2, (bit_other m0 m1 w0 w1 (p := 2) (by simp)).2, (bit_other m0 m1 w0 w1 (p := 4) (by simp)).2, (bit_other m0 m1 w0 w1 (p := 8) (by simp)).2]
  rw [one_parts o1 r1, one_parts o2 r2, one_parts o3 r3, one_parts o4 r4, one_parts o5 r5, one_parts o6 r6, one_parts o7 r7, one_parts o8 r8]
/-- a thing of a good store -/
theorem good_thing {s : Store} (g : GoodS s) {id : Int} {p : Th} (h : look (entries s) id = some p) : (0 ≤ id ∧ id < s.next) ∧ goodRow p.1 p.2 = true := by
  have := (look_some g.nodup).1 (show look (entries s) id = some (p.1, p.2) from h)
  exact g.goodE.1 _ this
theorem fits_in {m : Int} {r : Row} (h : goodRow m r = true) : (0 ≤ m ∧ m ≤ 31) ∧ RowIn r := by
  have k := goodRow_fits.1 h
  obtain ⟨lo, hi, p1, q1, p2, q2, p4, q4, p8, q8⟩ := k
  have o : ∀ {x : Int}, -1000000000 ≤ x → x ≤ 1000000000 → Ok64 x := fun a b => ⟨by omega, by omega⟩
  refine ⟨by omega, ⟨?_, ?_⟩, ⟨?_, ?_⟩, ⟨?_, ?_⟩, ?_, ?_⟩ <;> refine o ?_ ?_
  all_goals
    cases h1 : bit m 1 <;> cases h2 : bit m 2 <;> cases h4 : bit m 4 <;> cases h8 : bit m 8 <;> simp_all <;> omega
end Go.Proofs.Ytkpecagkpjabdaa.M
