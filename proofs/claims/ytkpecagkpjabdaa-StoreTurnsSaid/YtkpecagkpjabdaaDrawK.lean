/- A region that draws its order and holds loads, calls that write nothing old, blocks made and filled once: shown by one step for each operation, whatever the order. Condition: what each operation gives, from what is known of those that it waits for. -/
import Derived.Test.YtkpecagkpjabdaaDraw
import Derived.Test.YtkpecagkpjabdaaMem
namespace Go.Proofs.Ytkpecagkpjabdaa
open Go Go.RowKit
set_option linter.unusedVariables false
set_option linter.unusedSimpArgs false
set_option maxRecDepth 100000
/-- what is known of a region: its operations n; where each one's value goes; its value, the blocks made being g; which blocks are made, with which cells, by which operation they are filled, and with what -/
structure DK where
  P : Program
  ops : Array Oper
  a0 : Act
  W0 : World
  n : Nat
  slot : Nat → Option Nat
  val : (Nat → Nat) → Nat → Value
  makes : Nat → Option (TypeId × Array Value)
  filler : Nat → Nat
  fills : Nat → Option Nat
  full : Nat → Array Value
  needs : Nat → List Nat
  uses : Nat → List Nat
namespace DK
variable (c : DK)
/-- cells of the block that operation k made -/
def cellsOf (l : Array Bool) (k : Nat) (z : Array Value) : Array Value := if l.getD (c.filler k) false = true then c.full k else z
/-- what is known at a moment -/
structure At (l : Array Bool) (g : Nat → Nat) (W : World) : Prop where
  below : Below c.W0.heap.size c.W0 W
  blk : ∀ k T z, c.makes k = some (T, z) → l.getD k false = true → c.W0.heap.size ≤ g k ∧ Blk W (g k) T (c.cellsOf l k z)
  apart : ∀ j k, c.makes j ≠ none → c.makes k ≠ none → l.getD j false = true → l.getD k false = true → j ≠ k → g j ≠ g k
structure Inv (l : Array Bool) (a : Act) (W : World) : Prop where
  size : l.size = c.n
  len : a.tmps.size = c.a0.tmps.size
  defers : a.defers = c.a0.defers
  other : ∀ s : Nat, (∀ k, k < c.n → c.slot k ≠ some s) → a.eval (.tmp s) = c.a0.eval (.tmp s)
  closed : ∀ k j, j ∈ c.needs k → l.getD k false = true → l.getD j false = true
  ghost : ∃ g : Nat → Nat, (∀ k s, k < c.n → c.slot k = some s → l.getD k false = true → a.eval (.tmp s) = c.val g k) ∧ c.At l g W
/-- what an operation may lean on -/
structure Facts (k : Nat) (l : Array Bool) (g : Nat → Nat) (a : Act) (W : World) : Prop where
  vals : ∀ j s, j ∈ c.needs k → c.slot j = some s → a.eval (.tmp s) = c.val g j
  other : ∀ s : Nat, (∀ k, k < c.n → c.slot k ≠ some s) → a.eval (.tmp s) = c.a0.eval (.tmp s)
  at_ : c.At l g W
  listed : ∀ j, j ∈ c.needs k → l.getD j false = true
  closed : ∀ k j, j ∈ c.needs k → l.getD k false = true → l.getD j false = true
  not : l.getD k false = false
/-- what each operation does -/
def StepOk (Q : Exit → Act → World → Prop) (k : Nat) : Prop :=
  ∀ l g a W, c.Facts k l g a W → ∀ o, c.ops[k]? = some o → ∀ K : Act → World → Prop,
    (match c.makes k, c.fills k with
      | some p, _ => K (a.put (c.slot k) (c.val (fun j => if j = k then W.heap.size else g j) k)) (W.alloc (.cells p.2 p.1))
      | none, some j => ∀ W', (∀ T z, c.makes j = some (T, z) → Blk W' (g j) T (c.full j)) → (∀ b, b ≠ g j → W'.heap[b]? = W.heap[b]?) → W'.heap.size = W.heap.size → W'.os = W.os ∧ W'.tape = W.tape ∧ W'.output = W.output → K a W'
      | none, none => ∀ W', Below W.heap.size W W' → K (a.put (c.slot k) (c.val g k)) W') →
    o.wp c.P a W K Q
structure Ok (Q : Exit → Act → World → Prop) : Prop where
  size : c.ops.size = c.n
  guards : ∀ k, k < c.n → ∀ o, c.ops[k]? = some o → o.guard = none
  waits : ∀ k, k < c.n → ∀ j ∈ c.needs k, waits .any c.ops k j = true
  step : ∀ k, k < c.n → c.StepOk Q k
  inj : ∀ j k s, j < c.n → k < c.n → c.slot j = some s → c.slot k = some s → j = k
  room : ∀ k s, k < c.n → c.slot k = some s → s < c.a0.tmps.size
  uses : ∀ k, k < c.n → ∀ i ∈ c.uses k, i = k ∨ ∃ j ∈ c.needs k, i ∈ c.uses j
  small : ∀ k, k < c.n → ∀ j ∈ c.needs k, j < k
  val : ∀ g g' k, k < c.n → (∀ i ∈ c.uses k, g i = g' i) → c.val g k = c.val g' k
  fill : ∀ k, c.makes k ≠ none → k ∈ c.needs (c.filler k) ∧ c.filler k < c.n ∧ c.makes (c.filler k) = none ∧ c.slot (c.filler k) = none
  makes : ∀ k, c.makes k ≠ none → k < c.n ∧ k ∈ c.uses k
  fills : ∀ j, c.makes j ≠ none → c.fills (c.filler j) = some j
  filled : ∀ k j, c.fills k = some j → c.makes j ≠ none ∧ c.filler j = k
variable {c} {l : Array Bool} {a : Act} {W : World} {Q : Exit → Act → World → Prop}
theorem getD_ne'' {l : Array Bool} {i k : Nat} (h : i ≠ k) : (l.setIfInBounds i true).getD k false = l.getD k false := by
  by_cases hk : k < l.size
  · simp [Array.getD, hk, Array.getElem_setIfInBounds, h]
  · simp [Array.getD, hk]
theorem getD_eq'' {l : Array Bool} {i : Nat} (h : i < l.size) : (l.setIfInBounds i true).getD i false = true := by
  simp [Array.getD, h]
theorem listed_lt (hs : l.size = c.n) {k : Nat} (h : l.getD k false = true) : k < c.n := by
  by_cases hk : k < l.size
  · omega
  · simp [Array.getD, hk] at h
theorem uses_listed (ok : c.Ok Q) (h : c.Inv l a W) : ∀ k, k < c.n → l.getD k false = true → ∀ i ∈ c.uses k, l.getD i false = true := by
  intro k
  induction k using Nat.strongRecOn with
  | ind k ih =>
    intro hk hl i hi
    rcases ok.uses k hk i hi with rfl | ⟨j, hj, hij⟩
    · exact hl
    · have := ok.small k hk j hj
      exact ih j this (by omega) (h.closed k j hj hl) i hij
theorem tmps_eval (a : Act) (s : Nat) : a.tmps[s]?.getD undef = a.eval (.tmp s) := by simp [Act.eval]
theorem put_none' {a : Act} {v : Value} : a.put none v = a := rfl
theorem closed_step (ok : c.Ok Q) (hc : ∀ k j, j ∈ c.needs k → l.getD k false = true → l.getD j false = true) {k : Nat} (hk : k < c.n) (hi : k ∈ Region.ready .any c.ops l) :
    ∀ k' j, j ∈ c.needs k' → (l.setIfInBounds k true).getD k' false = true → (l.setIfInBounds k true).getD j false = true := by
  intro k' j hj hl
  rcases set_getD hl with rfl | hl
  · exact getD_set (ready_dep hi j (ok.waits _ hk j hj))
  · exact getD_set (hc k' j hj hl)
theorem step (ok : c.Ok Q) {k : Nat} (h : c.Inv l a W) (hi : k ∈ Region.ready .any c.ops l) : wpOp c.P c.ops Q k (c.Inv (l.setIfInBounds k true)) a W := by
  have hk : k < c.n := ok.size ▸ (ready_spec hi).2.1
  obtain ⟨o, ho⟩ : ∃ o, c.ops[k]? = some o := ⟨_, Array.getElem?_eq_getElem (by have := ok.size; omega)⟩
  have hnot := (getD_two (ready_spec hi).1).2
  have hkl : k < l.size := (getD_two (ready_spec hi).1).1
  obtain ⟨g, hv, hA⟩ := h.ghost
  have F : c.Facts k l g a W := ⟨fun j s hj hs => hv j s (by have := ok.small k hk j hj; omega) hs (ready_dep hi j (ok.waits k hk j hj)), h.other, hA, fun j hj => ready_dep hi j (ok.waits k hk j hj), h.closed, hnot⟩
  refine wpOp_run ho (ok.guards k hk o ho) (ok.step k hk l g a W F o ho _ ?_)
  have hcl := closed_step ok h.closed hk hi
  -- the frame behind a value is put
  have hoth : ∀ v : Value, ∀ s : Nat, (∀ k, k < c.n → c.slot k ≠ some s) → (a.put (c.slot k) v).eval (.tmp s) = c.a0.eval (.tmp s) := by
    intro v s hs
    cases hsl : c.slot k with
    | none => rw [put_none']; exact h.other s hs
    | some t => rw [put_other (fun e => hs k hk (by rw [hsl, e]))]; exact h.other s hs
  have hlen : ∀ v : Value, (a.put (c.slot k) v).tmps.size = c.a0.tmps.size := by
    intro v
    cases hsl : c.slot k with
    | none => exact h.len
    | some t => simp [Act.put, h.len]
  have hdef : ∀ v : Value, (a.put (c.slot k) v).defers = c.a0.defers := by
    intro v
    cases hsl : c.slot k with
    | none => exact h.defers
    | some t => exact h.defers
  have hval : ∀ (g' : Nat → Nat) (v : Value), v = c.val g' k → (∀ j, j < c.n → j ≠ k → l.getD j false = true → c.val g' j = c.val g j) →
      ∀ j s, j < c.n → c.slot j = some s → (l.setIfInBounds k true).getD j false = true → (a.put (c.slot k) v).eval (.tmp s) = c.val g' j := by
    intro g' v e he j s hj hs hl
    by_cases hjk : k = j
    · subst hjk
      rw [hs, put_same (by have := ok.room k s hk hs; have := h.len; omega), e]
    · rw [getD_ne'' hjk] at hl
      rw [he j hj (fun e => hjk e.symm) hl]
      cases hsl : c.slot k with
      | none => rw [put_none']; exact hv j s hj hs hl
      | some t =>
        rw [put_other (fun e => hjk (ok.inj k j s hk hj (by rw [hsl, e]) hs))]
        exact hv j s hj hs hl
  cases hm : c.makes k with
  | some p =>
    obtain ⟨T, z⟩ := p
    simp only
    have hmk : c.makes k ≠ none := by rw [hm]; simp
    obtain ⟨f1, f2, f3, f4⟩ := ok.fill k hmk
    have hfk : c.filler k ≠ k := fun e => by rw [e] at f3; exact hmk f3
    refine ⟨by simp [h.size], hlen _, hdef _, hoth _, hcl, fun j => if j = k then W.heap.size else g j, hval _ _ rfl ?_, ?_, ?_, ?_⟩
    · intro j hj hjk hl
      refine ok.val _ _ j hj (fun i hiu => ?_)
      have hil := uses_listed ok h j hj hl i hiu
      rw [if_neg (fun e => by subst e; rw [hnot] at hil; cases hil)]
    · exact hA.below.alloc hA.below.size _
    · intro j T' z' hmj hl
      by_cases hjk : j = k
      · subst hjk
        rw [hm] at hmj
        obtain ⟨rfl, rfl⟩ : T = T' ∧ z = z' := by simpa using hmj
        simp only [if_true]
        refine ⟨hA.below.size, ?_⟩
        unfold cellsOf
        rw [getD_ne'' (fun e => hfk e.symm)]
        have : l.getD (c.filler j) false = false := by
          cases hx : l.getD (c.filler j) false with
          | false => rfl
          | true => have := h.closed _ _ f1 hx; rw [hnot] at this; cases this
        rw [this]
        exact Blk.new W _ _
      · rw [getD_ne'' (fun e => hjk e.symm)] at hl
        obtain ⟨b1, b2⟩ := hA.blk j T' z' hmj hl
        simp only [if_neg hjk]
        refine ⟨b1, ?_⟩
        have hfj : c.filler j ≠ k := fun e => by
          have := (ok.fill j (by rw [hmj]; simp)).2.2.1
          rw [e] at this; exact hmk this
        unfold cellsOf at b2 ⊢
        rw [getD_ne'' (fun e => hfj e.symm)]
        exact b2.alloc _
    · intro i j hi' hj' hli hlj hij
      by_cases hik : i = k
      · subst hik
        have hjk : j ≠ i := fun e => hij e.symm
        rw [getD_ne'' (fun e => hjk e.symm)] at hlj
        simp only [if_true, if_neg hjk]
        obtain ⟨p', hp'⟩ : ∃ p : TypeId × Array Value, c.makes j = some p := by cases hx : c.makes j with | none => exact absurd hx hj' | some p => exact ⟨p, rfl⟩
        have := (hA.blk j p'.1 p'.2 hp' hlj).2.lt
        omega
      · rw [getD_ne'' (fun e => hik e.symm)] at hli
        by_cases hjk : j = k
        · subst hjk
          simp only [if_true, if_neg hik]
          obtain ⟨p', hp'⟩ : ∃ p : TypeId × Array Value, c.makes i = some p := by cases hx : c.makes i with | none => exact absurd hx hi' | some p => exact ⟨p, rfl⟩
          have := (hA.blk i p'.1 p'.2 hp' hli).2.lt
          omega
        · rw [getD_ne'' (fun e => hjk e.symm)] at hlj
          simp only [if_neg hik, if_neg hjk]
          exact hA.apart i j hi' hj' hli hlj hij
  | none =>
    cases hf : c.fills k with
    | some j0 =>
      simp only
      intro W' hb hfar hsz hsame
      obtain ⟨hj0, hf0⟩ := ok.filled k j0 hf
      have hslot : c.slot k = none := by rw [← hf0]; exact (ok.fill j0 hj0).2.2.2
      have hl0 : l.getD j0 false = true := ready_dep hi j0 (ok.waits k hk j0 (by rw [← hf0]; exact (ok.fill j0 hj0).1))
      have honly : ∀ j, c.makes j ≠ none → c.filler j = k → j = j0 := fun j h1 h2 => by
        have := ok.fills j h1
        rw [h2, hf] at this
        simpa using this.symm
      obtain ⟨⟨T0, z0⟩, hm0⟩ : ∃ p : TypeId × Array Value, c.makes j0 = some p := by cases hx : c.makes j0 with | none => exact absurd hx hj0 | some p => exact ⟨p, rfl⟩
      have hb0 := hA.blk j0 T0 z0 hm0 hl0
      have hvv := hval g (c.val g k) rfl (fun _ _ _ _ => rfl)
      rw [hslot, put_none'] at hvv
      refine ⟨by simp [h.size], h.len, h.defers, h.other, hcl, g, hvv, ⟨⟨hsame.1.trans hA.below.os, hsame.2.1.trans hA.below.tape, hsame.2.2.trans hA.below.output, by rw [hsz]; exact hA.below.size, fun b hb' => ?_⟩, ?_, ?_⟩⟩
      · rw [hfar b (by have := hb0.1; omega)]
        exact hA.below.block b hb'
      · intro j T' z' hmj hl
        have hjk : j ≠ k := fun e => by rw [e, hm] at hmj; cases hmj
        rw [getD_ne'' (fun e => hjk e.symm)] at hl
        obtain ⟨b1, b2⟩ := hA.blk j T' z' hmj hl
        refine ⟨b1, ?_⟩
        unfold cellsOf at b2 ⊢
        by_cases hfj : c.filler j = k
        · rw [hfj, getD_eq'' hkl]
          simp only [if_true]
          have ej := honly j (by rw [hmj]; simp) hfj
          subst ej
          exact hb T' z' hmj
        · rw [getD_ne'' (fun e => hfj e.symm)]
          have hne : j ≠ j0 := fun e => hfj (by rw [e]; exact hf0)
          exact (hfar _ (hA.apart j j0 (by rw [hmj]; simp) hj0 hl hl0 hne)).trans b2
      · intro i j hi' hj' hli hlj hij
        have hik : i ≠ k := fun e => by rw [e] at hi'; exact hi' hm
        have hjk : j ≠ k := fun e => by rw [e] at hj'; exact hj' hm
        rw [getD_ne'' (fun e => hik e.symm)] at hli
        rw [getD_ne'' (fun e => hjk e.symm)] at hlj
        exact hA.apart i j hi' hj' hli hlj hij
    | none =>
      simp only
      intro W' hb
      refine ⟨by simp [h.size], hlen _, hdef _, hoth _, hcl, g, hval g _ rfl (fun _ _ _ _ => rfl), ⟨hA.below.trans (hb.mono hA.below.size), ?_, ?_⟩⟩
      · intro j T' z' hmj hl
        have hjk : j ≠ k := fun e => by rw [e, hm] at hmj; cases hmj
        rw [getD_ne'' (fun e => hjk e.symm)] at hl
        obtain ⟨b1, b2⟩ := hA.blk j T' z' hmj hl
        refine ⟨b1, ?_⟩
        unfold cellsOf at b2 ⊢
        rw [getD_ne'' (fun e => by have := ok.fills j (by rw [hmj]; simp); rw [← e, hf] at this; cases this)]
        exact b2.below hb b2.lt
      · intro i j hi' hj' hli hlj hij
        have hik : i ≠ k := fun e => by rw [e] at hi'; exact hi' hm
        have hjk : j ≠ k := fun e => by rw [e] at hj'; exact hj' hm
        rw [getD_ne'' (fun e => hik e.symm)] at hli
        rw [getD_ne'' (fun e => hjk e.symm)] at hlj
        exact hA.apart i j hi' hj' hli hlj hij
/-- the whole region -/
theorem region (ok : c.Ok Q) (hord : ((List.range c.n).all fun i => ((c.ops[i]?).map fun o => o.after.toList.all fun e => !Region.binds .any e || decide (e.on < i)).getD true) = true)
    (hW : Below c.W0.heap.size c.W0 W)
    (hQ : ∀ (a' : Act) (g : Nat → Nat) (W' : World), a'.tmps.size = c.a0.tmps.size → a'.defers = c.a0.defers → (∀ s : Nat, (∀ k, k < c.n → c.slot k ≠ some s) → a'.eval (.tmp s) = c.a0.eval (.tmp s)) →
      (∀ k s, k < c.n → c.slot k = some s → a'.eval (.tmp s) = c.val g k) → Below c.W0.heap.size c.W0 W' → (∀ k T z, c.makes k = some (T, z) → c.W0.heap.size ≤ g k ∧ Blk W' (g k) T (c.full k)) → (∀ j k, c.makes j ≠ none → c.makes k ≠ none → j ≠ k → g j ≠ g k) → Q .normal a' W') :
    wpAny c.P .any c.ops Q c.n (Array.replicate c.n false) c.a0 W := by
  have z : ∀ k, (Array.replicate c.n false).getD k false = false := fun k => by
    by_cases hk : k < c.n <;> simp [Array.getD, hk]
  have no : ∀ {b : Bool} {q : Prop}, b = false → b = true → q := fun h1 h2 => by rw [h1] at h2; cases h2
  refine wpAny_inv c.Inv ?_ (fun d a w i h hi => step ok h hi) c.n _ _ _ (by unfold Undone; simp) ⟨by simp, rfl, rfl, fun _ _ => rfl, fun k j _ hl => no (z k) hl, fun _ => 0, fun k s _ _ hl => no (z k) hl, hW, fun k T x _ hl => no (z k) hl, fun j k _ _ hl => no (z j) hl⟩
  intro d a w h hr
  have all := all_done hr (by rw [h.size, ok.size]) (by
    intro i hi o ho e he hb
    have h1 := List.all_eq_true.1 hord i (List.mem_range.2 (ok.size ▸ hi))
    rw [ho] at h1
    simp only [Option.map_some, Option.getD_some] at h1
    have h2 := List.all_eq_true.1 h1 e he
    simpa [hb] using h2)
  rw [ok.size] at all
  obtain ⟨g, hv, hA⟩ := h.ghost
  refine hQ a g w h.len h.defers h.other (fun k s hk hs => hv k s hk hs (all k hk)) hA.below ?_ ?_
  · intro k T x hm
    have hk := (ok.makes k (by rw [hm]; simp)).1
    obtain ⟨b1, b2⟩ := hA.blk k T x hm (all k hk)
    refine ⟨b1, ?_⟩
    unfold cellsOf at b2
    rw [all _ (ok.fill k (by rw [hm]; simp)).2.1] at b2
    exact b2
  · intro j k h1 h2 hjk
    exact hA.apart j k h1 h2 (all j (ok.makes j h1).1) (all k (ok.makes k h2).1) hjk
end DK
end Go.Proofs.Ytkpecagkpjabdaa
