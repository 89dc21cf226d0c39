/- A region that draws its order, shown by an invariant: each operation is walked once, whatever order is drawn. No condition. -/
import Derived.RegionTactic
import Derived.NoCompiler
namespace Go.Proofs.Ytkpecagkpjabdaa
open Go
set_option linter.unusedVariables false
set_option linter.unusedSimpArgs false
set_option maxRecDepth 100000

/-- what is not done yet -/
def Undone (l : Array Bool) : Nat := l.toList.count false
theorem ready_spec {md : Region.Mode} {ops : Array Oper} {l : Array Bool} {i : Nat} (h : i ∈ Region.ready md ops l) :
    l.getD i true = false ∧ i < ops.size ∧ ∀ o, ops[i]? = some o → ∀ e ∈ o.after.toList, Region.binds md e = true → l.getD e.on false = true := by
  unfold Region.ready at h
  simp only [List.mem_filter, List.mem_range, Bool.and_eq_true, Bool.not_eq_true'] at h
  obtain ⟨h1, h2, h3⟩ := h
  refine ⟨h2, h1, fun o ho e he hb => ?_⟩
  rw [ho] at h3
  simp only [Option.map_some, Option.getD_some] at h3
  have h4 := (Array.all_eq_true'.1 h3) e (by simpa using he)
  simpa [hb] using h4
theorem ready_of {md : Region.Mode} {ops : Array Oper} {l : Array Bool} {i : Nat} (h1 : i < ops.size) (h2 : l.getD i true = false)
    (h3 : ∀ o, ops[i]? = some o → ∀ e ∈ o.after.toList, Region.binds md e = true → l.getD e.on false = true) : i ∈ Region.ready md ops l := by
  unfold Region.ready
  simp only [List.mem_filter, List.mem_range, Bool.and_eq_true, Bool.not_eq_true']
  refine ⟨h1, h2, ?_⟩
  rw [Array.getElem?_eq_getElem h1]
  simp only [Option.map_some, Option.getD_some]
  rw [Array.all_eq_true']
  intro e he
  cases hb : Region.binds md e
  · rfl
  · simpa using h3 _ (Array.getElem?_eq_getElem h1) e (by simpa using he) hb
/-- an operation that may come up: what it waits for is done -/
def waits (md : Region.Mode) (ops : Array Oper) (i j : Nat) : Bool := ((ops[i]?).map fun o => o.after.toList.any fun e => Region.binds md e && e.on == j).getD false
theorem ready_dep {md : Region.Mode} {ops : Array Oper} {l : Array Bool} {i : Nat} (h : i ∈ Region.ready md ops l) (j : Nat) (hw : waits md ops i j = true) : l.getD j false = true := by
  obtain ⟨h1, h2, h3⟩ := ready_spec h
  unfold waits at hw
  rw [Array.getElem?_eq_getElem h2] at hw
  simp only [Option.map_some, Option.getD_some, List.any_eq_true, Bool.and_eq_true, beq_iff_eq] at hw
  obtain ⟨e, he, hb, rfl⟩ := hw
  exact h3 _ (Array.getElem?_eq_getElem h2) e he hb
theorem getD_two {l : Array Bool} {i : Nat} (h : l.getD i true = false) : i < l.size ∧ l.getD i false = false := by
  by_cases hi : i < l.size
  · refine ⟨hi, ?_⟩
    simp [Array.getD, hi] at h ⊢
    exact h
  · simp [Array.getD, hi] at h
theorem undone_step {l : Array Bool} {i n : Nat} (h : l.getD i true = false) (hn : Undone l ≤ n + 1) : Undone (l.setIfInBounds i true) ≤ n := by
  obtain ⟨hi, h2⟩ := getD_two h
  unfold Undone at *
  have e : l[i] = false := by simpa [Array.getD, hi] using h
  rw [Array.toList_setIfInBounds, List.count_set (by simpa using hi)]
  have e2 : l.toList[i]'(by simpa using hi) = false := by simpa using e
  rw [e2]
  have hpos : 0 < l.toList.count false := List.count_pos_iff.2 (by rw [← e2]; exact List.getElem_mem _)
  rw [if_pos (by rfl), if_neg (by decide)]
  omega
theorem wpAny_inv {P : Program} {md : Region.Mode} {ops : Array Oper} {Q : Exit → Act → World → Prop} (Inv : Array Bool → Act → World → Prop)
    (hfin : ∀ l a w, Inv l a w → Region.ready md ops l = [] → Q .normal a w)
    (hstep : ∀ l a w i, Inv l a w → i ∈ Region.ready md ops l → wpOp P ops Q i (Inv (l.setIfInBounds i true)) a w) :
    ∀ n l a w, Undone l ≤ n → Inv l a w → wpAny P md ops Q n l a w := by
  intro n
  induction n with
  | zero =>
    intro l a w hn h
    have hr : Region.ready md ops l = [] := by
      rw [List.eq_nil_iff_forall_not_mem]
      intro i hi
      obtain ⟨h1, h2, _⟩ := ready_spec hi
      obtain ⟨h3, h4⟩ := getD_two h1
      have e2 : l.toList[i]'(by simpa using h3) = false := by simpa [Array.getD, h3] using h1
      have hpos : 0 < l.toList.count false := List.count_pos_iff.2 (by rw [← e2]; exact List.getElem_mem _)
      unfold Undone at hn
      omega
    exact ⟨hr, hfin l a w h hr⟩
  | succ n ih =>
    intro l a w hn h
    refine ⟨fun hr => hfin l a w h hr, fun i hi => ?_⟩
    exact wpOp_mono (fun a' w' h' => ih _ a' w' (undone_step (ready_spec hi).1 hn) h') (hstep l a w i h hi)
/-- nothing is left: all is done -/
theorem all_done {md : Region.Mode} {ops : Array Oper} {l : Array Bool} (hr : Region.ready md ops l = []) (hs : l.size = ops.size)
    (hd : ∀ i, i < ops.size → ∀ o, ops[i]? = some o → ∀ e ∈ o.after.toList, Region.binds md e = true → e.on < i) : ∀ i, i < ops.size → l.getD i false = true := by
  intro i
  induction i using Nat.strongRecOn with
  | ind i ih =>
    intro hi
    cases hx : l.getD i false with
    | true => rfl
    | false =>
      exfalso
      have hm : i ∈ Region.ready md ops l := by
        refine ready_of hi ?_ ?_
        · have : i < l.size := by omega
          simp [Array.getD, this] at hx ⊢
          exact hx
        · intro o ho e he hb
          have := hd i hi o ho e he hb
          exact ih e.on this (by omega)
      rw [hr] at hm
      cases hm
/-- one operation that runs -/
theorem wpOp_run {P : Program} {ops : Array Oper} {Q : Exit → Act → World → Prop} {i : Nat} {o : Oper} {K : Act → World → Prop} {a : Act} {w : World} (ho : ops[i]? = some o) (hg : o.guard = none) (h : o.wp P a w K Q) : wpOp P ops Q i K a w := by
  refine wpOp_step ho fun K' hK => ?_
  rw [if_pos (by simp [Region.wanted, hg])]
  exact Oper.wp_mono hK h
/-- a slot written, the others as they were -/
theorem put_same {a : Act} {t : Nat} {v : Value} (h : t < a.tmps.size) : (a.put (some t) v).eval (.tmp t) = v := by
  simp [Act.eval, Act.put, h]
theorem put_other {a : Act} {t s : Nat} {v : Value} (h : t ≠ s) : (a.put (some t) v).eval (.tmp s) = a.eval (.tmp s) := by
  simp [Act.eval, Act.put, Array.getElem?_setIfInBounds, h]
theorem put_none {a : Act} {v : Value} : a.put none v = a := rfl
theorem set_getD {l : Array Bool} {i k : Nat} (h : (l.setIfInBounds i true).getD k false = true) : k = i ∨ l.getD k false = true := by
  by_cases e : k = i
  · exact .inl e
  · right
    by_cases hk : k < l.size
    · simp [Array.getD, hk, Array.getElem_setIfInBounds, Ne.symm e] at h ⊢
      exact h
    · simp [Array.getD, hk] at h
theorem getD_set {l : Array Bool} {i k : Nat} (h : l.getD k false = true) : (l.setIfInBounds i true).getD k false = true := by
  by_cases hk : k < l.size
  · simp [Array.getD, hk, Array.getElem_setIfInBounds] at h ⊢
    by_cases e : i = k
    · simp [e]
    · simp [e, h]
  · simp [Array.getD, hk] at h
end Go.Proofs.Ytkpecagkpjabdaa
