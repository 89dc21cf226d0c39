/- Plain laws on masks (0 to 31) and on the row of a changed thing. No condition, no program in sight. -/
import Derived.Test.YtkpecagkpjabdabPlainStore2
namespace Go.Proofs.Ytkpecagkpjabdab.M
open Go.RowKit
set_option linter.unusedVariables false
set_option linter.unusedSimpArgs false
set_option maxRecDepth 100000
set_option maxRecDepth 100000

theorem bit_tab : ∀ m w : Fin 32, ∀ p : Fin 4, bit (bits .andNot .i64 31 (bits .andNot .i64 m.val w.val)) (2 ^ p.val : Int) = !(bit m.val (2 ^ p.val : Int) && !bit w.val (2 ^ p.val : Int)) ∧
    bit (bits .andNot .i64 m.val w.val) (2 ^ p.val : Int) = (bit m.val (2 ^ p.val : Int) && !bit w.val (2 ^ p.val : Int)) := by decide
theorem fin_of {m : Int} (h0 : 0 ≤ m) (h1 : m ≤ 31) : ∃ f : Fin 32, (f.val : Int) = m := ⟨⟨m.toNat, by omega⟩, by simp; omega⟩
theorem bit_other {m w : Int} (m0 : 0 ≤ m) (m1 : m ≤ 31) (w0 : 0 ≤ w) (w1 : w ≤ 31) {p : Int} (hp : p = 1 ∨ p = 2 ∨ p = 4 ∨ p = 8) :
    bit (bits .andNot .i64 31 (bits .andNot .i64 m w)) p = !(bit m p && !bit w p) ∧ bit (bits .andNot .i64 m w) p = (bit m p && !bit w p) := by
  obtain ⟨a, rfl⟩ := fin_of m0 m1
  obtain ⟨b, rfl⟩ := fin_of w0 w1
  rcases hp with rfl | rfl | rfl | rfl
  · exact bit_tab a b 0
  · exact bit_tab a b 1
  · exact bit_tab a b 2
  · exact bit_tab a b 3

/-- all numbers of a row are of 64 bits -/
def Ok64 (n : Int) : Prop := -9223372036854775808 ≤ n ∧ n ≤ 9223372036854775807
def RowIn (r : Row) : Prop := (Ok64 r.X ∧ Ok64 r.Y) ∧ (Ok64 r.PX ∧ Ok64 r.PY) ∧ (Ok64 r.W ∧ Ok64 r.H) ∧ (Ok64 r.M ∧ Ok64 r.R)
theorem wrap_ok {n : Int} (h : Ok64 n) : wrap64 n = n := IntWalk.wrap64_in n h

/-- one number of a changed row -/
theorem one_changed {a b x y : Int} {bm bw : Bool} (hx : Ok64 x) (hy : Ok64 y) :
    (if bm then wrap64 ((if (!(bm && !bw)) = true then x else 0) + (if (bm && !bw) = true then y else 0)) else 0) = if bm then (if bw then x else y) else 0 := by
  cases bm <;> cases bw <;> simp [wrap_ok hx, wrap_ok hy]
/-- the row of a changed thing: its own where it had the part, the other where the part comes -/
theorem changed_eq {was m : Int} {old r : Row} (m0 : 0 ≤ m) (m1 : m ≤ 31) (w0 : 0 ≤ was) (w1 : was ≤ 31) (ho : RowIn old) (hr : RowIn r) :
    changed was m old r = ⟨if bit m 1 then (if bit was 1 then old.X else r.X) else 0, if bit m 1 then (if bit was 1 then old.Y else r.Y) else 0,
      if bit m 2 then (if bit was 2 then old.PX else r.PX) else 0, if bit m 2 then (if bit was 2 then old.PY else r.PY) else 0,
      if bit m 4 then (if bit was 4 then old.W else r.W) else 0, if bit m 4 then (if bit was 4 then old.H else r.H) else 0,
      if bit m 8 then (if bit was 8 then old.M else r.M) else 0, if bit m 8 then (if bit was 8 then old.R else r.R) else 0⟩ := by
  obtain ⟨⟨o1, o2⟩, ⟨o3, o4⟩, ⟨o5, o6⟩, o7, o8⟩ := ho
  obtain ⟨⟨r1, r2⟩, ⟨r3, r4⟩, ⟨r5, r6⟩, r7, r8⟩ := hr
  obtain ⟨a1, b1⟩ := bit_other m0 m1 w0 w1 (p := 1) (by simp)
  obtain ⟨a2, b2⟩ := bit_other m0 m1 w0 w1 (p := 2) (by simp)
  obtain ⟨a4, b4⟩ := bit_other m0 m1 w0 w1 (p := 4) (by simp)
  obtain ⟨a8, b8⟩ := bit_other m0 m1 w0 w1 (p := 8) (by simp)
  unfold changed withR plus only onlyAt
  simp only [a1, b1, a2, b2, a4, b4, a8, b8]
  have h1 := fun (x y : Int) (hx : Ok64 x) (hy : Ok64 y) (bm bw : Bool) => one_changed (a := 0) (b := 0) (bm := bm) (bw := bw) hx hy
  rw [h1 _ _ o1 r1, h1 _ _ o2 r2, h1 _ _ o3 r3, h1 _ _ o4 r4, h1 _ _ o5 r5, h1 _ _ o6 r6, h1 _ _ o7 r7, h1 _ _ o8 r8]

/-- what a good row's numbers are where a part is lacking, and their bounds -/
theorem isPart_yes {is : Bool} {a b lo hi : Int} (h : isPart is a b lo hi = true) (hz : (lo = 1 ∧ hi = 9) → is = false → b = 0) :
    (is = false → a = 0 ∧ b = 0) ∧ (is = true → lo ≤ a ∧ a ≤ hi ∧ lo ≤ b ∧ b ≤ hi) := by
  unfold isPart at h
  cases is
  · simp only [Bool.false_eq_true, if_false, decide_eq_true_eq] at h
    refine ⟨fun _ => ⟨h.1, ?_⟩, fun h => by simp at h⟩
    rcases h.2 with h | h
    · exact h
    · exact hz h rfl
  · simp only [if_true, decide_eq_true_eq] at h
    exact ⟨fun h => by simp at h, fun _ => h⟩
structure Fits (m : Int) (r : Row) : Prop where
  lo : 1 ≤ m
  hi : m ≤ 31
  p1 : bit m 1 = false → r.X = 0 ∧ r.Y = 0
  q1 : bit m 1 = true → -1048576 ≤ r.X ∧ r.X ≤ 1048576 ∧ -1048576 ≤ r.Y ∧ r.Y ≤ 1048576
  p2 : bit m 2 = false → r.PX = 0 ∧ r.PY = 0
  q2 : bit m 2 = true → -16777216 ≤ r.PX ∧ r.PX ≤ 16777216 ∧ -16777216 ≤ r.PY ∧ r.PY ≤ 16777216
  p4 : bit m 4 = false → r.W = 0 ∧ r.H = 0
  q4 : bit m 4 = true → 1 ≤ r.W ∧ r.W ≤ 4096 ∧ 1 ≤ r.H ∧ r.H ≤ 4096
  p8 : bit m 8 = false → r.M = 0 ∧ r.R = 0
  q8 : bit m 8 = true → 1 ≤ r.M ∧ r.M ≤ 9 ∧ 0 ≤ r.R ∧ r.R ≤ 256
theorem goodRow_fits {m : Int} {r : Row} : goodRow m r = true ↔ Fits m r := by
  unfold goodRow
  simp only [Bool.and_eq_true, Bool.or_eq_true, decide_eq_true_eq]
  constructor
  · rintro ⟨⟨lo, hi⟩, h1, h2, h4, h8, hR⟩
    have e1 := isPart_yes h1 (by omega)
    have e2 := isPart_yes h2 (by omega)
    have e4 := isPart_yes h4 (by omega)
    have f8 : (bit m 8 = false → r.M = 0) ∧ (bit m 8 = true → 1 ≤ r.M ∧ r.M ≤ 9) := by
      unfold isPart at h8
      cases hb : bit m 8 <;> rw [hb] at h8 <;> simp at h8 <;> simp <;> omega
    refine ⟨lo, hi, e1.1, e1.2, e2.1, e2.2, e4.1, e4.2, fun h => ⟨f8.1 h, ?_⟩, fun h => ⟨(f8.2 h).1, (f8.2 h).2, ?_⟩⟩
    · rw [h] at hR; simpa using hR
    · rcases hR with hR | hR <;> omega
  · rintro ⟨lo, hi, p1, q1, p2, q2, p4, q4, p8, q8⟩
    refine ⟨⟨lo, hi⟩, ?_, ?_, ?_, ?_, ?_⟩
    · unfold isPart; cases hb : bit m 1
      · have := p1 hb; simp [this.1, this.2]
      · have := q1 hb; simp; omega
    · unfold isPart; cases hb : bit m 2
      · have := p2 hb; simp [this.1, this.2]
      · have := q2 hb; simp; omega
    · unfold isPart; cases hb : bit m 4
      · have := p4 hb; simp [this.1, this.2]
      · have := q4 hb; simp; omega
    · unfold isPart; cases hb : bit m 8
      · have := p8 hb; simp [this.1]
      · have := q8 hb; simp; omega
    · cases hb : bit m 8
      · right; exact (p8 hb).2
      · left; have := q8 hb; simp; omega
theorem Fits.rowIn {m : Int} {r : Row} (h : Fits m r) : RowIn r := by
  obtain ⟨lo, hi, p1, q1, p2, q2, p4, q4, p8, q8⟩ := h
  unfold RowIn Ok64
  refine ⟨?_, ?_, ?_, ?_⟩
  · cases hb : bit m 1
    · have := p1 hb; omega
    · have := q1 hb; omega
  · cases hb : bit m 2
    · have := p2 hb; omega
    · have := q2 hb; omega
  · cases hb : bit m 4
    · have := p4 hb; omega
    · have := q4 hb; omega
  · cases hb : bit m 8
    · have := p8 hb; omega
    · have := q8 hb; omega

/-! a part given and taken again -/
theorem give_tab : ∀ m : Fin 32, ∀ p : Fin 5, bits .and .i64 m.val (2 ^ p.val : Int) = 0 → bits .or .i64 m.val (2 ^ p.val : Int) = m.val + 2 ^ p.val ∧ (m.val + 2 ^ p.val : Int) ≤ 31 ∧
    ∀ q : Fin 4, bit m.val (2 ^ q.val : Int) = true → bit (m.val + 2 ^ p.val : Int) (2 ^ q.val : Int) = true := by decide
theorem give_part {m : Int} (h0 : 1 ≤ m) (h1 : m ≤ 31) {p : Nat} (hp : p < 5) (hb : bits .and .i64 m (2 ^ p : Int) = 0) :
    bits .or .i64 m (2 ^ p : Int) = m + 2 ^ p ∧ m + 2 ^ p ≤ 31 ∧ ∀ q : Int, q = 1 ∨ q = 2 ∨ q = 4 ∨ q = 8 → bit m q = true → bit (m + 2 ^ p) q = true := by
  obtain ⟨f, rfl⟩ := fin_of (by omega) h1
  obtain ⟨a, b, c⟩ := give_tab f ⟨p, hp⟩ hb
  refine ⟨a, b, fun q hq => ?_⟩
  rcases hq with rfl | rfl | rfl | rfl
  · exact c 0
  · exact c 1
  · exact c 2
  · exact c 3
/-- a part given and taken again: the row is as it was -/
theorem changed_back {m n : Int} {r more : Row} (hm : Fits m r) (n1 : n ≤ 31) (n0 : 0 ≤ n) (hmore : RowIn more) (hn : ∀ q : Int, q = 1 ∨ q = 2 ∨ q = 4 ∨ q = 8 → bit m q = true → bit n q = true) :
    changed n m (changed m n r more) row0 = r := by
  have hm0 : 0 ≤ m := by have := hm.lo; omega
  have z0 : RowIn row0 := by unfold RowIn row0 Ok64; simp
  have e1 := changed_eq n0 n1 hm0 hm.hi hm.rowIn hmore
  have hin : RowIn (changed m n r more) := by
    rw [e1]
    obtain ⟨⟨o1, o2⟩, ⟨o3, o4⟩, ⟨o5, o6⟩, o7, o8⟩ := hm.rowIn
    obtain ⟨⟨r1, r2⟩, ⟨r3, r4⟩, ⟨r5, r6⟩, r7, r8⟩ := hmore
    have h : ∀ (a b : Bool) (x y : Int), Ok64 x → Ok64 y → Ok64 (if a then (if b then x else y) else 0) := by
      intro a b x y hx hy
      cases a <;> cases b <;> simp [hx, hy, Ok64] <;> first | exact hx | exact hy
    exact ⟨⟨h _ _ _ _ o1 r1, h _ _ _ _ o2 r2⟩, ⟨h _ _ _ _ o3 r3, h _ _ _ _ o4 r4⟩, ⟨h _ _ _ _ o5 r5, h _ _ _ _ o6 r6⟩, h _ _ _ _ o7 r7, h _ _ _ _ o8 r8⟩
  rw [changed_eq hm0 hm.hi n0 n1 hin z0, e1]
  have n1 := hn 1 (by simp)
  have n2 := hn 2 (by simp)
  have n4 := hn 4 (by simp)
  have n8 := hn 8 (by simp)
  obtain ⟨lo, hi, p1, q1, p2, q2, p4, q4, p8, q8⟩ := hm
  obtain ⟨x, y, px, py, w, h, mm, rr⟩ := r
  have t1 : ∀ (bm bn : Bool) (x y : Int), (bm = true → bn = true) → (bm = false → x = 0) → (if bm = true then (if bn = true then (if bn = true then (if bm = true then x else y) else 0) else 0) else 0) = x := by
    intro bm bn x y h1 h2
    cases bm
    · simp [h2 rfl]
    · simp [h1 rfl]
  simp only [row0]
  simp only at p1 p2 p4 p8
  rw [t1 _ _ _ _ n1 (fun h => (p1 h).1), t1 _ _ _ _ n1 (fun h => (p1 h).2), t1 _ _ _ _ n2 (fun h => (p2 h).1), t1 _ _ _ _ n2 (fun h => (p2 h).2),
    t1 _ _ _ _ n4 (fun h => (p4 h).1), t1 _ _ _ _ n4 (fun h => (p4 h).2), t1 _ _ _ _ n8 (fun h => (p8 h).1), t1 _ _ _ _ n8 (fun h => (p8 h).2)]
end Go.Proofs.Ytkpecagkpjabdab.M
