/- A region that draws its order, each operation's value fixed ahead; what its stores make of memory is told by a predicate on what is done. Condition: what each operation gives, from what is known of those that it waits for. -/
import Derived.Test.YtkpecagkpjabdacGreatBagW
import Derived.Test.YtkpecagkpjabdacGreatMem
namespace Go.Proofs.YtkpecagkpjabdacGreat
open Go Go.RowKit
set_option linter.unusedVariables false
set_option linter.unusedSimpArgs false
set_option maxRecDepth 100000
structure DV where
  P : Program
  ops : Array Oper
  a0 : Act
  n : Nat
  slot : Nat → Option Nat
  val : Nat → Value
  needs : Nat → List Nat
  mem : Array Bool → World → Prop
namespace DV
variable (c : DV)
structure Inv (l : Array Bool) (a : Act) (W : World) : Prop where
  size : l.size = c.n
  len : a.tmps.size = c.a0.tmps.size
  defers : a.defers = c.a0.defers
  other : ∀ s : Nat, (∀ k, k < c.n → c.slot k ≠ some s) → a.eval (.tmp s) = c.a0.eval (.tmp s)
  closed : ∀ k j, j ∈ c.needs k → l.getD k false = true → l.getD j false = true
  vals : ∀ k s, k < c.n → c.slot k = some s → l.getD k false = true → a.eval (.tmp s) = c.val k
  mem : c.mem l W
structure Facts (k : Nat) (l : Array Bool) (a : Act) (W : World) : Prop where
  vals : ∀ j s, j ∈ c.needs k → c.slot j = some s → a.eval (.tmp s) = c.val j
  other : ∀ s : Nat, (∀ k, k < c.n → c.slot k ≠ some s) → a.eval (.tmp s) = c.a0.eval (.tmp s)
  listed : ∀ j, j ∈ c.needs k → l.getD j false = true
  closed : ∀ k j, j ∈ c.needs k → l.getD k false = true → l.getD j false = true
  not : l.getD k false = false
  size : l.size = c.n
  mem : c.mem l W
def StepOk (Q : Exit → Act → World → Prop) (k : Nat) : Prop :=
  ∀ l a W, c.Facts k l a W → ∀ o, c.ops[k]? = some o → ∀ K : Act → World → Prop, (∀ W', c.mem (l.setIfInBounds k true) W' → K (a.put (c.slot k) (c.val k)) W') → o.wp c.P a W K Q
structure Ok (Q : Exit → Act → World → Prop) : Prop where
  size : c.ops.size = c.n
  guards : ∀ k, k < c.n → ∀ o, c.ops[k]? = some o → o.guard = none
  waits : ∀ k, k < c.n → ∀ j ∈ c.needs k, waits .any c.ops k j = true
  step : ∀ k, k < c.n → c.StepOk Q k
  inj : ∀ j k s, j < c.n → k < c.n → c.slot j = some s → c.slot k = some s → j = k
  room : ∀ k s, k < c.n → c.slot k = some s → s < c.a0.tmps.size
variable {c} {l : Array Bool} {a : Act} {W : World} {Q : Exit → Act → World → Prop}
theorem set_ne {l : Array Bool} {i k : Nat} (h : i ≠ k) : (l.setIfInBounds i true).getD k false = l.getD k false := by
  by_cases hk : k < l.size
  · simp [Array.getD, hk, Array.getElem_setIfInBounds, h]
  · simp [Array.getD, hk]
theorem set_eq {l : Array Bool} {i : Nat} (h : i < l.size) : (l.setIfInBounds i true).getD i false = true := by
  simp [Array.getD, h]
theorem step (ok : c.Ok Q) {k : Nat} (h : c.Inv l a W) (hi : k ∈ Region.ready .any c.ops l) : wpOp c.P c.ops Q k (c.Inv (l.setIfInBounds k true)) a W := by
  have hk : k < c.n := ok.size ▸ (ready_spec hi).2.1
  obtain ⟨o, ho⟩ : ∃ o, c.ops[k]? = some o := ⟨_, Array.getElem?_eq_getElem (by have := ok.size; omega)⟩
  have hnot := (getD_two (ready_spec hi).1).2
  have F : c.Facts k l a W := ⟨fun j s hj hs => by
    have hl := ready_dep hi j (ok.waits k hk j hj)
    have hjn : j < c.n := by
      by_cases hjs : j < l.size
      · have := h.size; omega
      · simp [Array.getD, hjs] at hl
    exact h.vals j s hjn hs hl, h.other, fun j hj => ready_dep hi j (ok.waits k hk j hj), h.closed, hnot, h.size, h.mem⟩
  refine wpOp_run ho (ok.guards k hk o ho) (ok.step k hk l a W F o ho _ (fun W' hm => ?_))
  refine ⟨by simp [h.size], ?_, ?_, ?_, ?_, ?_, hm⟩
  · cases hsl : c.slot k with
    | none => exact h.len
    | some t => simp [Act.put, h.len]
  · cases hsl : c.slot k with
    | none => exact h.defers
    | some t => exact h.defers
  · intro s hs
    cases hsl : c.slot k with
    | none => exact h.other s hs
    | some t => rw [put_other (fun e => hs k hk (by rw [hsl, e]))]; exact h.other s hs
  · intro k' j hj hl
    rcases set_getD hl with rfl | hl
    · exact getD_set (ready_dep hi j (ok.waits _ hk j hj))
    · exact getD_set (h.closed k' j hj hl)
  · intro j s hj hs hl
    by_cases hjk : k = j
    · subst hjk
      rw [hs, put_same (by have := ok.room k s hk hs; have := h.len; omega)]
    · rw [set_ne hjk] at hl
      cases hsl : c.slot k with
      | none => exact h.vals j s hj hs hl
      | some t =>
        rw [put_other (fun e => hjk (ok.inj k j s hk hj (by rw [hsl, e]) hs))]
        exact h.vals j s hj hs hl
/-- the whole region -/
theorem region (ok : c.Ok Q) (hord : ((List.range c.n).all fun i => ((c.ops[i]?).map fun o => o.after.toList.all fun e => !Region.binds .any e || decide (e.on < i)).getD true) = true)
    (hW : c.mem (Array.replicate c.n false) W)
    (hQ : ∀ (a' : Act) (l : Array Bool) (W' : World), a'.tmps.size = c.a0.tmps.size → a'.defers = c.a0.defers → (∀ s : Nat, (∀ k, k < c.n → c.slot k ≠ some s) → a'.eval (.tmp s) = c.a0.eval (.tmp s)) →
      (∀ k s, k < c.n → c.slot k = some s → a'.eval (.tmp s) = c.val k) → (∀ k, k < c.n → l.getD k false = true) → c.mem l W' → Q .normal a' W') :
    wpAny c.P .any c.ops Q c.n (Array.replicate c.n false) c.a0 W := by
  have z : ∀ k, (Array.replicate c.n false).getD k false = false := fun k => by
    by_cases hk : k < c.n <;> simp [Array.getD, hk]
  have no : ∀ {b : Bool} {q : Prop}, b = false → b = true → q := fun h1 h2 => by rw [h1] at h2; cases h2
  refine wpAny_inv c.Inv ?_ (fun d a w i h hi => step ok h hi) c.n _ _ _ (by unfold Undone; simp) ⟨by simp, rfl, rfl, fun _ _ => rfl, fun k j _ hl => no (z k) hl, fun k s _ _ hl => no (z k) hl, hW⟩
  intro d a w h hr
  have all := all_done hr (by rw [h.size, ok.size]) (by
    intro i hi o ho e he hb
    have h1 := List.all_eq_true.1 hord i (List.mem_range.2 (ok.size ▸ hi))
    rw [ho] at h1
    simp only [Option.map_some, Option.getD_some] at h1
    have h2 := List.all_eq_true.1 h1 e he
    simpa [hb] using h2)
  rw [ok.size] at all
  exact hQ a d w h.len h.defers h.other (fun k s hk hs => h.vals k s hk hs (all k hk)) all h.mem
theorem tmps_eval (a : Act) (s : Nat) : a.tmps[s]?.getD undef = a.eval (.tmp s) := by simp [Act.eval]
end DV
end Go.Proofs.YtkpecagkpjabdacGreat
