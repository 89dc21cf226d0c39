/- Opening boxes that came in as an argument. No condition. -/
import Derived.Test.YtkpecagkpjabdabOpenStore
import Derived.Test.YtkpecagkpjabdabSweepMem
namespace Go.Proofs.Ytkpecagkpjabdab
open Go.ChangeShapes Go.WideShapes Go.ChangeAt Go.RowKit Go.Deep
set_option linter.unusedVariables false
set_option linter.unusedSimpArgs false
set_option maxRecDepth 100000

def BoxIn (b : M.Box) : Prop := I64 b.id ∧ I64 b.x1 ∧ I64 b.y1 ∧ I64 b.x2 ∧ I64 b.y2
def M.box0 : M.Box := ⟨0, 0, 0, 0, 0⟩
section
variable {H : Type} {enc : TypeId × Value → H} {w : World} {base : Nat} {spare : Nat → Bool} {held : Bool} {fuel : Nat}
theorem five {α : Type} {l : List α} (h : l.length = 5) : ∃ a b c d e, l = [a, b, c, d, e] := by
  match l, h with
  | [a, b, c, d, e], _ => exact ⟨a, b, c, d, e, rfl⟩
theorem box_of_cells {cs : List Value} {n : Nat} {y : DataW H × List MemPlace} (h : DataW.trod enc Try.prog w base spare held n 45 cs = some y) :
    ∃ b : M.Box, cs = boxL b ∧ BoxIn b := by
  obtain ⟨xs, n, _, _, hlen, hxl, hg⟩ := DataW.trod_struct Try.underlying45 h
  have hc : Try.prog.cellsOf 45 = 5 := by kernel_rfl
  have c1 : Try.prog.cellsOf 3 = 1 := by kernel_rfl
  rw [hc] at hlen
  obtain ⟨a0, a1, a2, a3, a4, rfl⟩ := five hlen
  obtain ⟨b0, b1, b2, b3, b4, rfl⟩ := five (l := xs) hxl
  obtain ⟨x0, rfl, h0⟩ := cell_i64 Try.underlying3 (by simpa [c1] using hg 0 _ rfl)
  obtain ⟨x1, rfl, h1⟩ := cell_i64 Try.underlying3 (by simpa [c1] using hg 1 _ rfl)
  obtain ⟨x2, rfl, h2⟩ := cell_i64 Try.underlying3 (by simpa [c1] using hg 2 _ rfl)
  obtain ⟨x3, rfl, h3⟩ := cell_i64 Try.underlying3 (by simpa [c1] using hg 3 _ rfl)
  obtain ⟨x4, rfl, h4⟩ := cell_i64 Try.underlying3 (by simpa [c1] using hg 4 _ rfl)
  exact ⟨⟨x0, x1, x2, x3, x4⟩, rfl, h0, h1, h2, h3, h4⟩
theorem open_box {r : Reach} {b0 : Nat} {v : Value} {d : DataW H} {p : List MemPlace} (hv : Value.okWide Try.prog w r b0 45 v)
    (h : DataW.Trod enc Try.prog w base spare held 45 v d p) : ∃ b, v = boxV b ∧ BoxIn b := by
  obtain ⟨cs, rfl, hsz⟩ := okWide_struct Try.underlying45 hv
  obtain ⟨l⟩ := cs
  obtain ⟨fuel, hf⟩ := h
  obtain ⟨r, hr, hok⟩ := box_of_cells (cs := l) (by simpa [Value.cells] using hf)
  exact ⟨r, by rw [hr]; rfl, hok⟩
theorem open_boxesAt {v : Value} {x : DataW H × List MemPlace} (h : DataW.trod enc Try.prog w 0 spare held fuel 40 [v] = some x) : ∃ rs, BoxesAt5 w 0 v rs ∧ ∀ r ∈ rs, BoxIn r := by
  rcases open_slice Try.underlying40 h with ⟨e, _⟩ | ⟨a, len, cap, m, n, D, Pl, e, hb, hl, hm, hmm, _, hx⟩
  · obtain rfl : v = .slice none 0 0 := by simpa using e
    exact ⟨[], ⟨rfl, Nat.zero_le _, none, 0, rfl, fun h => absurd rfl h⟩, by simp⟩
  · obtain rfl : v = .slice (some a) len cap := by simpa using e
    have c5 : Try.prog.cellsOf 45 = 5 := by kernel_rfl
    have hlm : len ≤ m := by rw [hmm]; split <;> omega
    haveI : Inhabited M.Box := ⟨M.box0⟩
    obtain ⟨f, hf⟩ := choose_lt (α := M.Box) (n := len) (p := fun i r => (∀ j, j < 5 → w.cell? (a.add (i * 5 + j)) = (boxL r)[j]?) ∧ BoxIn r) (fun i hi => by
      obtain ⟨cs', h1, h2⟩ := hx i (by omega)
      obtain ⟨r, rfl, hr⟩ := box_of_cells h2
      rw [c5] at h1
      obtain ⟨_, h3⟩ := cells_at h1
      refine ⟨r, fun j hj => ?_, hr⟩
      have := h3 j hj
      rw [add_add] at this
      exact this)
    refine ⟨(List.range len).map f, ?_, ?_⟩
    · have := lies_of (w := w) (k := 5) (len := len) (cap := cap) (a := a) boxL ((List.range len).map f) (by omega) (fun _ _ => rfl) hm hl (by simp) (by
        intro i x hi j hj
        simp only [List.getElem?_map] at hi
        rcases Nat.lt_or_ge i len with hlt | hge
        · rw [List.getElem?_range hlt] at hi
          simp only [Option.map_some, Option.some.injEq] at hi
          subst hi
          exact (hf i hlt).1 j hj
        · rw [List.getElem?_eq_none (by simpa using hge)] at hi; simp at hi)
      unfold BoxesAt5
      simpa using this
    · intro z hz
      obtain ⟨i, hi, rfl⟩ := List.mem_map.1 hz
      exact (hf i (by simpa using hi)).2
/-- a slice is not longer than its room -/
def CapOk (v : Value) : Prop := ∃ a n c, v = .slice a n c ∧ n ≤ c ∧ c ≤ maxLen
theorem open_cap {v : Value} {x : DataW H × List MemPlace} (h : DataW.trod enc Try.prog w 0 spare held fuel 40 [v] = some x) : CapOk v := by
  rcases open_slice Try.underlying40 h with ⟨e, _⟩ | ⟨a, len, cap, m, n, D, Pl, e, hb, hl, hm, hmm, _, hx⟩
  · obtain rfl : v = .slice none 0 0 := by simpa using e
    exact ⟨none, 0, 0, rfl, Nat.le_refl _, Nat.zero_le _⟩
  · obtain rfl : v = .slice (some a) len cap := by simpa using e
    exact ⟨some a, len, cap, rfl, hl, hm⟩
theorem open_boxes {r : Reach} {b0 : Nat} {v : Value} {d : DataW H} {p : List MemPlace} (hv : Value.okWide Try.prog w r b0 40 v)
    (h : DataW.Trod enc Try.prog w 0 spare held 40 v d p) : ∃ bs, BoxesAt5 w 0 v bs ∧ (∀ r ∈ bs, BoxIn r) ∧ CapOk v := by
  obtain ⟨a, len, cap, rfl⟩ := okWide_slice Try.underlying40 hv
  obtain ⟨fuel, hf⟩ := h
  have hf2 : DataW.trod enc Try.prog w 0 spare held fuel 40 [.slice a len cap] = some (d, p) := by simpa [Value.cells] using hf
  obtain ⟨bs, h1, h2⟩ := open_boxesAt hf2
  exact ⟨bs, h1, h2, open_cap hf2⟩
end
end Go.Proofs.Ytkpecagkpjabdab
