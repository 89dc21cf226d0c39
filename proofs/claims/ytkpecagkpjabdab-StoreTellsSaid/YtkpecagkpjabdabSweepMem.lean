/- How boxes and pairs lie in memory. No condition. -/
import Derived.Test.YtkpecagkpjabdabStoreMem
import Derived.Test.YtkpecagkpjabdabBagP
namespace Go.Proofs.Ytkpecagkpjabdab
open Go.RowKit
set_option linter.unusedVariables false
set_option linter.unusedSimpArgs false
set_option maxRecDepth 100000

/-- a box: its cells, its value -/
def boxL (b : M.Box) : List Value := [.int .i64 b.id, .int .i64 b.x1, .int .i64 b.y1, .int .i64 b.x2, .int .i64 b.y2]
abbrev boxC (b : M.Box) : Array Value := #[.int .i64 b.id, .int .i64 b.x1, .int .i64 b.y1, .int .i64 b.x2, .int .i64 b.y2]
abbrev boxV (b : M.Box) : Value := .agg (boxC b)
def pairL (p : M.Pr) : List Value := [.int .i64 p.1, .int .i64 p.2]
abbrev pairV (p : M.Pr) : Value := .agg #[.int .i64 p.1, .int .i64 p.2]
def BoxesAt5 (w : World) (lo : Nat) (v : Value) (bs : List M.Box) : Prop := Lies w lo v bs.length 5 (bs.flatMap boxL)
def PairsAt (w : World) (lo : Nat) (v : Value) (ps : List M.Pr) : Prop := Lies w lo v ps.length 2 (ps.flatMap pairL)

theorem flat_at {α : Type} (f : α → List Value) (k : Nat) (hf : ∀ x, (f x).length = k) (l : List α) (i j : Nat) {x : α} (h : l[i]? = some x) (hj : j < k) : (l.flatMap f)[i * k + j]? = (f x)[j]? := by
  induction l generalizing i with
  | nil => simp at h
  | cons a l ih =>
    have hk := hf a
    rw [List.flatMap_cons]
    cases i with
    | zero =>
      simp only [List.getElem?_cons_zero, Option.some.injEq] at h
      subst h
      rw [Nat.zero_mul, Nat.zero_add, List.getElem?_append_left (by omega)]
    | succ i =>
      simp only [List.getElem?_cons_succ] at h
      rw [List.getElem?_append_right (by rw [hk, Nat.succ_mul]; omega), hk, show (i + 1) * k + j - k = i * k + j by rw [Nat.succ_mul]; omega]
      exact ih i h
theorem flat_len {α : Type} (f : α → List Value) (k : Nat) (hf : ∀ x, (f x).length = k) (l : List α) : (l.flatMap f).length = l.length * k := by
  induction l with
  | nil => simp
  | cons a l ih => rw [List.flatMap_cons, List.length_append, ih, hf, List.length_cons, Nat.succ_mul]; omega
theorem boxes_len (l : List M.Box) : (l.flatMap boxL).length = l.length * 5 := flat_len boxL 5 (fun _ => rfl) l
theorem pairs_len (l : List M.Pr) : (l.flatMap pairL).length = l.length * 2 := flat_len pairL 2 (fun _ => rfl) l
/-- the cells of box i -/
def BoxCells (w : World) (b o i : Nat) (r : M.Box) : Prop := w.cell? ⟨b, o + i * 5, none⟩ = some (.int .i64 r.id) ∧ w.cell? ⟨b, o + i * 5 + 1, none⟩ = some (.int .i64 r.x1) ∧ w.cell? ⟨b, o + i * 5 + 2, none⟩ = some (.int .i64 r.y1) ∧ w.cell? ⟨b, o + i * 5 + 3, none⟩ = some (.int .i64 r.x2) ∧ w.cell? ⟨b, o + i * 5 + 4, none⟩ = some (.int .i64 r.y2)
theorem BoxCells.below {w w' : World} {b o i : Nat} {r : M.Box} (h : BoxCells w b o i r) (hb : Below w.heap.size w w') : BoxCells w' b o i r := by
  obtain ⟨h0, h1, h2, h3, h4⟩ := h
  exact ⟨below_cell h0 hb, below_cell h1 hb, below_cell h2 hb, below_cell h3 hb, below_cell h4 hb⟩
theorem BoxesAt5.below {w w' : World} {lo : Nat} {v : Value} {bs : List M.Box} (h : BoxesAt5 w lo v bs) (hb : Below w.heap.size w w') : BoxesAt5 w' lo v bs := Lies.below h hb
theorem PairsAt.below {w w' : World} {lo : Nat} {v : Value} {bs : List M.Pr} (h : PairsAt w lo v bs) (hb : Below w.heap.size w w') : PairsAt w' lo v bs := Lies.below h hb
theorem BoxesAt5.val {w : World} {lo : Nat} {v : Value} {bs : List M.Box} (h : BoxesAt5 w lo v bs) : ∃ a cap, v = .slice a bs.length cap := by
  obtain ⟨h2, hmx, a, cap, e, h3⟩ := h
  exact ⟨a, cap, e⟩
theorem PairsAt.val {w : World} {lo : Nat} {v : Value} {bs : List M.Pr} (h : PairsAt w lo v bs) : ∃ a cap, v = .slice a bs.length cap := by
  obtain ⟨h2, hmx, a, cap, e, h3⟩ := h
  exact ⟨a, cap, e⟩
theorem BoxesAt5.max {w : World} {lo : Nat} {v : Value} {bs : List M.Box} (h : BoxesAt5 w lo v bs) : bs.length ≤ maxLen := h.2.1
theorem PairsAt.max {w : World} {lo : Nat} {v : Value} {bs : List M.Pr} (h : PairsAt w lo v bs) : bs.length ≤ maxLen := h.2.1
theorem BoxesAt5.at5 {w : World} {lo : Nat} {v : Value} {bs : List M.Box} (h : BoxesAt5 w lo v bs) {i : Nat} {r : M.Box} (hi : bs[i]? = some r) :
    ∃ b o cap, v = .slice (some ⟨b, o, none⟩) bs.length cap ∧ lo ≤ b ∧ BoxCells w b o i r := by
  obtain ⟨h2, hmx, a, cap, e, h3⟩ := h
  have hm := flat_at boxL 5 (fun _ => rfl) bs i 0 hi (by omega)
  obtain ⟨b, o, ea, hl, hc⟩ := h3 (by intro e; rw [e] at hm; simp [boxL] at hm)
  subst ea
  have hx : ∀ j u, (boxL r)[j]? = some u → j < 5 → w.cell? ⟨b, o + i * 5 + j, none⟩ = some u := by
    intro j u hu hj
    rw [Nat.add_assoc]
    exact hc _ _ ((flat_at boxL 5 (fun _ => rfl) bs i j hi hj).trans hu)
  exact ⟨b, o, cap, e, hl, hx 0 _ rfl (by omega), hx 1 _ rfl (by omega), hx 2 _ rfl (by omega), hx 3 _ rfl (by omega), hx 4 _ rfl (by omega)⟩
theorem PairsAt.at2 {w : World} {lo : Nat} {v : Value} {bs : List M.Pr} (h : PairsAt w lo v bs) {i : Nat} {r : M.Pr} (hi : bs[i]? = some r) :
    ∃ b o cap, v = .slice (some ⟨b, o, none⟩) bs.length cap ∧ lo ≤ b ∧ w.cell? ⟨b, o + i * 2, none⟩ = some (.int .i64 r.1) ∧ w.cell? ⟨b, o + i * 2 + 1, none⟩ = some (.int .i64 r.2) := by
  obtain ⟨h2, hmx, a, cap, e, h3⟩ := h
  have hm := flat_at pairL 2 (fun _ => rfl) bs i 0 hi (by omega)
  obtain ⟨b, o, ea, hl, hc⟩ := h3 (by intro e; rw [e] at hm; simp [pairL] at hm)
  subst ea
  have hx : ∀ j u, (pairL r)[j]? = some u → j < 2 → w.cell? ⟨b, o + i * 2 + j, none⟩ = some u := by
    intro j u hu hj
    rw [Nat.add_assoc]
    exact hc _ _ ((flat_at pairL 2 (fun _ => rfl) bs i j hi hj).trans hu)
  exact ⟨b, o, cap, e, hl, hx 0 _ rfl (by omega), hx 1 _ rfl (by omega)⟩
theorem boxes_one (bs : List M.Box) : ∀ u ∈ bs.flatMap boxL, u.oneCell' = true := by
  intro u hu
  obtain ⟨r, _, hr⟩ := List.mem_flatMap.1 hu
  simp only [boxL, List.mem_cons, List.not_mem_nil, or_false] at hr
  rcases hr with rfl | rfl | rfl | rfl | rfl <;> rfl
theorem pairs_one (bs : List M.Pr) : ∀ u ∈ bs.flatMap pairL, u.oneCell' = true := by
  intro u hu
  obtain ⟨r, _, hr⟩ := List.mem_flatMap.1 hu
  simp only [pairL, List.mem_cons, List.not_mem_nil, or_false] at hr
  rcases hr with rfl | rfl <;> rfl
end Go.Proofs.Ytkpecagkpjabdab
