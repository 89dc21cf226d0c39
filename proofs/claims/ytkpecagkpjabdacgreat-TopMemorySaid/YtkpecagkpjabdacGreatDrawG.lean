/- A region that draws its order; what its operations yield and make of memory is told by a predicate on what is done, which may speak of things made on the way (ghosts). Condition: what each operation gives, from what is known of those that it waits for. -/
import Derived.Test.YtkpecagkpjabdacGreatBagW
import Derived.Test.YtkpecagkpjabdacGreatMem
namespace Go.Proofs.YtkpecagkpjabdacGreat
open Go Go.RowKit
set_option linter.unusedVariables false
set_option linter.unusedSimpArgs false
set_option maxRecDepth 100000
structure DG (γ : Type) where
  P : Program
  ops : Array Oper
  a0 : Act
  n : Nat
  slot : Nat → Option Nat
  val : γ → Nat → Value
  needs : Nat → List Nat
  mem : γ → Array Bool → World → Prop
namespace DG
variable {γ : Type} (c : DG γ)
structure Inv (l : Array Bool) (a : Act) (W : World) : Prop where
  size : l.size = c.n
  len : a.tmps.size = c.a0.tmps.size
  defers : a.defers = c.a0.defers
  other : ∀ s : Nat, (∀ k, k < c.n → c.slot k ≠ some s) → a.eval (.tmp s) = c.a0.eval (.tmp s)
  closed : ∀ k j, j ∈ c.needs k → l.getD k false = true → l.getD j false = true
  ghost : ∃ g : γ, (∀ k s, k < c.n → c.slot k = some s → l.getD k false = true → a.eval (.tmp s) = c.val g k) ∧ c.mem g l W
structure Facts (k : Nat) (g : γ) (l : Array Bool) (a : Act) (W : World) : Prop where
  vals : ∀ j s, j ∈ c.needs k → c.slot j = some s → a.eval (.tmp s) = c.val g j
  other : ∀ s : Nat, (∀ k, k < c.n → c.slot k ≠ some s) → a.eval (.tmp s) = c.a0.eval (.tmp s)
  listed : ∀ j, j ∈ c.needs k → l.getD j false = true
  closed : ∀ k j, j ∈ c.needs k → l.getD k false = true → l.getD j false = true
  not : l.getD k false = false
  size : l.size = c.n
  mem : c.mem g l W
def StepOk (Q : Exit → Act → World → Prop) (k : Nat) : Prop :=
  ∀ g l a W, c.Facts k g l a W → ∀ o, c.ops[k]? = some o → ∀ K : Act → World → Prop, (∀ g' W', (∀ j, j < c.n → j ≠ k → l.getD j false = true → c.val g' j = c.val g j) → c.mem g' (l.setIfInBounds k true) W' → K (a.put (c.slot k) (c.val g' k)) W') → o.wp c.P a W K Q
structure Ok (Q : Exit → Act → World → Prop) : Prop where
  size : c.ops.size = c.n
  guards : ∀ k, k < c.n → ∀ o, c.ops[k]? = some o → o.guard = none
  waits : ∀ k, k < c.n → ∀ j ∈ c.needs k, waits .any c.ops k j = true
  step : ∀ k, k < c.n → c.StepOk Q k
  inj : ∀ j k s, j < c.n → k < c.n → c.slot j = some s → c.slot k = some s → j = k
  room : ∀ k s, k < c.n → c.slot k = some s → s < c.a0.tmps.size
variable {c} {l : Array Bool} {a : Act} {W : World} {Q : Exit → Act → World → Prop}
theorem set_ne {l : Array Bool} {i k : Nat} (h : i ≠ k) : (l.setIfInBounds i true).getD k false = l.getD k false := by
  by_cases hk : k < l.size
  · simp [Array.getD, hk, Array.getElem_setIfInBounds, h]
  · simp [Array.getD, hk]
theorem set_eq {l : Array Bool} {i : Nat} (h : i < l.size) : (l.setIfInBounds i true).getD i false = true := by
  simp [Array.getD, h]
theorem step (ok : c.Ok Q) {k : Nat} (h : c.Inv l a W) (hi : k ∈ Region.ready .any c.ops l) : wpOp c.P c.ops Q k (c.Inv (l.setIfInBounds k true)) a W := by
  have hk : k < c.n := ok.size ▸ (ready_spec hi).2.1
  obtain ⟨o, ho⟩ : ∃ o, c.ops[k]? = some o := ⟨_, Array.getElem?_eq_getElem (by have := ok.size; omega)⟩
  have hnot := (getD_two (ready_spec hi).1).2
  obtain ⟨g, hv, hm0⟩ := h.ghost
  have F : c.Facts k g l a W := ⟨fun j s hj hs => by
    have hl := ready_dep hi j (ok.waits k hk j hj)
    have hjn : j < c.n := by
      by_cases hjs : j < l.size
      · have := h.size; omega
      · simp [Array.getD, hjs] at hl
    exact hv j s hjn hs hl, h.other, fun j hj => ready_dep hi j (ok.waits k hk j hj), h.closed, hnot, h.size, hm0⟩
  refine wpOp_run ho (ok.guards k hk o ho) (ok.step k hk g l a W F o ho _ (fun g' W' hg' hm => ?_))
  refine ⟨by simp [h.size], ?_, ?_, ?_, ?_, g', ?_, hm⟩
  · cases hsl : c.slot k with
    | none => exact h.len
    | some t => simp [Act.put, h.len]
  · cases hsl : c.slot k with
    | none => exact h.defers
    | some t => exact h.defers
  · intro s hs
    cases hsl : c.slot k with
    | none => exact h.other s hs
    | some t => rw [put_other (fun e => hs k hk (by rw [hsl, e]))]; exact h.other s hs
  · intro k' j hj hl
    rcases set_getD hl with rfl | hl
    · exact getD_set (ready_dep hi j (ok.waits _ hk j hj))
    · exact getD_set (h.closed k' j hj hl)
  · intro j s hj hs hl
    by_cases hjk : k = j
    · subst hjk
      rw [hs, put_same (by have := ok.room k s hk hs; have := h.len; omega)]
    · rw [set_ne hjk] at hl
      rw [hg' j hj (fun e => hjk e.symm) hl]
      cases hsl : c.slot k with
      | none => exact hv j s hj hs hl
      | some t =>
        rw [put_other (fun e => hjk (ok.inj k j s hk hj (by rw [hsl, e]) hs))]
        exact hv j s hj hs hl
/-- the whole region -/
theorem region (ok : c.Ok Q) (hord : ((List.range c.n).all fun i => ((c.ops[i]?).map fun o => o.after.toList.all fun e => !Region.binds .any e || decide (e.on < i)).getD true) = true)
    (g0 : γ) (hW : c.mem g0 (Array.replicate c.n false) W)
    (hQ : ∀ (a' : Act) (g : γ) (l : Array Bool) (W' : World), a'.tmps.size = c.a0.tmps.size → a'.defers = c.a0.defers → (∀ s : Nat, (∀ k, k < c.n → c.slot k ≠ some s) → a'.eval (.tmp s) = c.a0.eval (.tmp s)) →
      (∀ k s, k < c.n → c.slot k = some s → a'.eval (.tmp s) = c.val g k) → (∀ k, k < c.n → l.getD k false = true) → c.mem g l W' → Q .normal a' W') :
    wpAny c.P .any c.ops Q c.n (Array.replicate c.n false) c.a0 W := by
  have z : ∀ k, (Array.replicate c.n false).getD k false = false := fun k => by
    by_cases hk : k < c.n <;> simp [Array.getD, hk]
  have no : ∀ {b : Bool} {q : Prop}, b = false → b = true → q := fun h1 h2 => by rw [h1] at h2; cases h2
  refine wpAny_inv c.Inv ?_ (fun d a w i h hi => step ok h hi) c.n _ _ _ (by unfold Undone; simp) ⟨by simp, rfl, rfl, fun _ _ => rfl, fun k j _ hl => no (z k) hl, g0, fun k s _ _ hl => no (z k) hl, hW⟩
  intro d a w h hr
  have all := all_done hr (by rw [h.size, ok.size]) (by
    intro i hi o ho e he hb
    have h1 := List.all_eq_true.1 hord i (List.mem_range.2 (ok.size ▸ hi))
    rw [ho] at h1
    simp only [Option.map_some, Option.getD_some] at h1
    have h2 := List.all_eq_true.1 h1 e he
    simpa [hb] using h2)
  rw [ok.size] at all
  obtain ⟨g, hv, hm⟩ := h.ghost
  exact hQ a g d w h.len h.defers h.other (fun k s hk hs => hv k s hk hs (all k hk)) all hm
theorem tmps_eval (a : Act) (s : Nat) : a.tmps[s]?.getD undef = a.eval (.tmp s) := by simp [Act.eval]
/-- slots of a frame that have been written, one behind the other -/
def setQ (A : Array Value) : List (Nat × Value) → Array Value
  | [] => A
  | p :: L => setQ (A.setIfInBounds p.1 p.2) L
theorem setQ_size (A : Array Value) (L : List (Nat × Value)) : (setQ A L).size = A.size := by
  induction L generalizing A with
  | nil => rfl
  | cons p L ih => rw [setQ, ih]; simp
theorem setQ_get (tm A : Array Value) (S : List Nat) (i : Nat) (hi : i < A.size) : (setQ A (S.map fun s => (s, tm.getD s undef)))[i]? = if i ∈ S then some (tm.getD i undef) else A[i]? := by
  induction S generalizing A with
  | nil => simp [setQ]
  | cons s S ih =>
    rw [List.map_cons, setQ, ih _ (by simpa using hi)]
    by_cases h1 : i ∈ S
    · rw [if_pos h1, if_pos (List.mem_cons_of_mem _ h1)]
    · rw [if_neg h1, Array.getElem?_setIfInBounds]
      by_cases h2 : s = i
      · subst h2
        simp [hi]
      · rw [if_neg h2, if_neg (by simp only [List.mem_cons, not_or]; exact ⟨fun e => h2 e.symm, h1⟩)]
theorem frameQ {tm A : Array Value} {n : Nat} (S : List Nat) (hz : tm.size = n) (hA : A.size = n) (h : ∀ i, i ∉ S → tm.getD i undef = A.getD i undef) : tm = setQ A (S.map fun s => (s, tm.getD s undef)) := by
  apply Array.ext_getElem?
  intro i
  by_cases hi : i < n
  · rw [setQ_get _ _ _ _ (by omega)]
    have e : tm[i]? = some (tm.getD i undef) := by simp [Array.getD, hz, hi]
    rw [e]
    by_cases h1 : i ∈ S
    · rw [if_pos h1]
    · rw [if_neg h1, h i h1]
      simp [Array.getD, hA, hi]
  · rw [Array.getElem?_eq_none (by omega), Array.getElem?_eq_none (by rw [setQ_size]; omega)]
theorem wp_named {P : Program} {c : Code} {Q : Exit → Act → World → Prop} {a : Act} {w : World} (h : ∀ A, A = a → c.wp P Q A w) : c.wp P Q a w := h a rfl
end DG
end Go.Proofs.YtkpecagkpjabdacGreat
