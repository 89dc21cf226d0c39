/- The contracts of slices.SortFunc at boxes and at pairs of the call's own, with sweep.Pairs' own orders. No condition but few enough for memory. -/
import Derived.Test.YtkpecagkpjabdabSweepCmp
import Derived.Shelf.SlSortCmp.NoneTotal
import Derived.Sort.OwnSortedInts
namespace Go.Proofs.Ytkpecagkpjabdab
open Go.RowKit Go.Sort Go.Lib
set_option linter.unusedVariables false
set_option linter.unusedSimpArgs false
set_option maxRecDepth 100000

/-! a row of the call's own, laid anew by a sort -/
section
variable {w : World} {g m n cap k base : Nat} {e : TypeId} {os : Array Obj} {cur : Array Value}
theorem laid_block (F : Array Value) (hb : w.heap[g]? = some (.cells cur e (0, 0))) : (grow (putRow id (Sort.ahead w m) g 0 F) os).heap[g]? = some (.cells (putCells id 0 F cur) e (0, 0)) := by
  have hg := (Array.getElem?_eq_some_iff.1 hb).1
  rw [heap_grow_old _ _ (by simpa using hg)]
  simp [putRow, mapBlock, Sort.ahead, Array.getElem?_modify, hb, onCells]
theorem laid_grown (F : Array Value) : w.grownBy (grow (putRow id (Sort.ahead w m) g 0 F) os) (some g) := by
  refine ⟨rfl, rfl, rfl, by simp, fun j hj hne => ?_⟩
  rw [heap_grow_old _ _ (by simpa using hj)]
  have : g ≠ j := fun x => hne (by rw [x])
  simp [putRow, mapBlock, Sort.ahead, Array.getElem?_modify, this]
theorem laid_take (F : Array Value) (h : F.size ≤ cur.size) : (putCells id 0 F cur).toList.take F.size = F.toList := by
  apply List.ext_getElem?
  intro j
  by_cases hj : j < F.size
  · rw [List.getElem?_take_of_lt hj, Array.getElem?_toList]
    simp [putCells, hj, show j < cur.size by omega]
  · rw [List.getElem?_take_eq_none (by omega), List.getElem?_eq_none (by simp; omega)]
theorem laid_owns (F : Array Value) (hF : F.size = n * k) (hbase : base ≤ g) (hb : w.heap[g]? = some (.cells cur e (0, 0))) (h1 : n ≤ cap) (h2 : cap ≤ maxLen) (h3 : cur.size = cap * k) :
    (grow (putRow id (Sort.ahead w m) g 0 F) os).ownsRow base e k (.slice (some ⟨g, 0, none⟩) n cap) n F.toList :=
  ⟨by simp [hF], .inr ⟨g, cap, _, rfl, hbase, laid_block F hb, h1, h2, by simp [putCells, h3], by rw [← hF]; exact laid_take F (by rw [hF, h3]; exact Nat.mul_le_mul_right _ h1)⟩⟩
theorem laid_holds {F : List Value} (hb : w.heap[g]? = some (.cells cur e (0, 0))) (ht : cur.toList.take F.length = F) : Holds id w g 0 F.toArray := by
  intro j hj
  have hj' : j < F.length := by simpa using hj
  refine ⟨?_, by simp [World.frozen?, hb]⟩
  have h1 : (cur.toList.take F.length)[j]? = F[j]? := by rw [ht]
  rw [List.getElem?_take_of_lt hj'] at h1
  simp only [World.cell?, hb, Nat.zero_add]
  simp only [Option.isSome_none, Bool.false_eq_true, if_false]
  rw [← Array.getElem?_toList, h1]
  simp [hj']
end
theorem flatK_eq {α : Type} [Inhabited α] (enc : α → List Value) (k : Nat) (hk : ∀ x, (enc x).length = k) (d : Array α) : flatK enc k d = (d.toList.flatMap enc).toArray := by
  have hl := flat_len enc k hk d.toList
  refine ext_get! (by simp [hl]) fun t ht => ?_
  have ht' : t < d.size * k := by simpa using ht
  have k0 : 0 < k := by rcases Nat.eq_zero_or_pos k with h | h; · subst h; simp at ht'
                        · exact h
  rw [get_flatK _ _ _ t ht']
  have hd : t / k < d.size := by rw [Nat.div_lt_iff_lt_mul k0]; exact ht'
  have hr : t % k < k := Nat.mod_lt _ k0
  have h1 := flat_at enc k hk d.toList (t / k) (t % k) (x := d[t / k]!) (by rw [Array.getElem?_toList, Array.getElem?_eq_getElem hd, getElem!_pos d _ hd]) hr
  rw [show t / k * k + t % k = t by rw [Nat.mul_comm]; exact Nat.div_add_mod t k] at h1
  have h2 : (enc d[t / k]!)[t % k]? = some (enc d[t / k]!)[t % k]! := by rw [List.getElem?_eq_getElem (by rw [hk]; exact hr), getElem!_pos (enc d[t / k]!) _ (by rw [hk]; exact hr)]
  rw [h2] at h1
  have h3 : t < (d.toList.flatMap enc).length := by rw [hl]; simpa using ht'
  rw [getElem!_pos _ t (by simpa using h3)]
  have := (List.getElem?_eq_some_iff.1 h1).2
  simp [this]
theorem perm_list {α : Type} [Inhabited α] {d d' : Array α} (h : PermIn 0 d.size d d') : d'.toList.Perm d.toList := by
  obtain ⟨h1, _, h3⟩ := h
  have e1 : d'.extract 0 d.size = d' := by rw [← h1]; simp
  have e2 : d.extract 0 d.size = d := by simp
  rw [e1, e2] at h3
  exact h3
theorem sorted_list {α : Type} [Inhabited α] {lt : α → α → Bool} {d' : Array α} (h : SortedIn lt 0 d'.size d') : d'.toList.Pairwise (fun a b => lt b a = false) := by
  rw [List.pairwise_iff_getElem]
  intro i j hi hj hij
  have hi' : i < d'.size := by simpa using hi
  have hj' : j < d'.size := by simpa using hj
  have := h i j (Nat.zero_le _) hij hj'
  rw [getElem!_pos d' i hi', getElem!_pos d' j hj'] at this
  simpa using this

/-! the two orders -/
theorem M.or2_lt (a b c d : Int) : M.or2 (Lib.compareInt a b) (Lib.compareInt c d) < 0 ↔ a < b ∨ (a = b ∧ c < d) := by
  unfold M.or2 Lib.compareInt
  (repeat' split) <;> omega
theorem ltB (x y : M.Box) : ltOf M.cmpB x y = decide (x.x1 < y.x1 ∨ (x.x1 = y.x1 ∧ x.id < y.id)) := by
  unfold ltOf M.cmpB
  rw [decide_eq_decide]
  exact M.or2_lt _ _ _ _
theorem ltP (x y : M.Pr) : ltOf M.cmpP x y = decide (x.1 < y.1 ∨ (x.1 = y.1 ∧ x.2 < y.2)) := by
  unfold ltOf M.cmpP
  rw [decide_eq_decide]
  exact M.or2_lt _ _ _ _
instance inhBox : Inhabited M.Box := ⟨⟨0, 0, 0, 0, 0⟩⟩
theorem swoB : SWO (ltOf M.cmpB) where
  irrefl x := by rw [ltB]; simp
  trans x y z h1 h2 := by rw [ltB, decide_eq_true_eq] at *; omega
  ntrans x y z h1 h2 := by rw [ltB, decide_eq_false_iff_not] at *; omega
theorem swoP : SWO (ltOf M.cmpP) where
  irrefl x := by rw [ltP]; simp
  trans x y z h1 h2 := by rw [ltP, decide_eq_true_eq] at *; omega
  ntrans x y z h1 h2 := by rw [ltP, decide_eq_false_iff_not] at *; omega

theorem sortB_own {w : World} {base : Nat} {v : Value} {zs : List M.Box} (h : w.ownsRow base 45 5 v zs.length (zs.flatMap boxL)) (hz : zs.length < 4611686018427387904) :
    Calls Try.prog 46 #[v, .func (.func 47) #[] #[]] w fun e w' => e = .returned (.tuple #[]) ∧
      ∃ zs' : List M.Box, zs'.Perm zs ∧ zs'.Pairwise (fun a b => a.x1 ≤ b.x1) ∧ w'.ownsRow base 45 5 v zs.length (zs'.flatMap boxL) ∧ w.grownBy w' v.ownBlock := by
  rcases h.2 with ⟨rfl, h0⟩ | ⟨g, cap, cur, rfl, hg, hb, hn, hm, hs, ht⟩
  · have e0 : zs = [] := List.length_eq_zero_iff.1 h0
    subst e0
    have c : Calls Try.prog 46 #[.slice none 0 0, .func (.func 47) #[] #[]] w fun e w' => e = .returned (.tuple #[]) ∧ w' = w := AnyF.slices_SortFunc_none Try.sortBox none 0 _ w
    exact c.mono fun e w' ⟨h1, h2⟩ => ⟨h1, [], List.Perm.refl _, List.Pairwise.nil, by rw [h2]; exact World.ownsRow_nil w base _ 5, by rw [h2]; exact World.grownBy.refl w _⟩
  · have hgl : g < w.heap.size := (Array.getElem?_eq_some_iff.1 hb).1
    have eg : ∀ args w, (callFunc 47 args).run Try.prog w = .ok (.enter 47 args) w := enters_of Try.func47 (by kernel_rfl) rfl
    have hH : HoldsK boxL 5 w g 0 zs.toArray := by
      unfold HoldsK
      rw [flatK_eq boxL 5 (fun _ => rfl)]
      exact laid_holds hb (by rw [h.1]; exact ht)
    have c : Calls Try.prog 46 #[.slice (some ⟨g, 0, none⟩) zs.toArray.size cap, .func (.func 47) #[] #[]] w fun e w' =>
      e = .returned (.tuple #[]) ∧ ∃ d' n os, PermIn 0 zs.toArray.size zs.toArray d' ∧ SortedIn (ltOf M.cmpB) 0 zs.toArray.size d' ∧ w' = sortWorldK boxL 5 w g 0 n d' os :=
      AnyQ.slices_SortFunc Try.sortBox 5 Try.isAgg45 Try.sizeOf45 boxL (fun _ => rfl) (fun x v hv => boxes_one [x] v (by simpa using hv)) M.cmpB swoB 47 #[] g 0 cap zs.toArray w eg
        (fun _ _ _ _ x y => cmpB_calls x y _) hH hgl (by simpa using hz)
    rw [List.size_toArray] at c
    refine c.mono fun e w' ⟨h1, d', n, os, hp, hsd, hw⟩ => ⟨h1, d'.toList, ?_, ?_, ?_, ?_⟩
    · have := perm_list (d := zs.toArray) (d' := d') (by simpa using hp)
      simpa using this
    · have hd : d'.size = zs.length := by simpa using hp.1
      have := sorted_list (lt := ltOf M.cmpB) (d' := d') (by rw [hd]; exact hsd)
      exact this.imp (fun {a b} hab => by rw [ltB, decide_eq_false_iff_not] at hab; omega)
    · have hd : d'.size = zs.length := by simpa using hp.1
      rw [hw]
      unfold sortWorldK putRowK
      rw [flatK_eq boxL 5 (fun _ => rfl)]
      exact laid_owns (d'.toList.flatMap boxL).toArray (by rw [List.size_toArray, boxes_len, Array.length_toList, hd]) hg hb hn hm hs
    · rw [hw]
      exact laid_grown _
theorem sortP_own {w : World} {base : Nat} {v : Value} {zs : List M.Pr} (h : w.ownsRow base 48 2 v zs.length (zs.flatMap pairL)) (hz : zs.length < 4611686018427387904) :
    Calls Try.prog 53 #[v, .func (.func 54) #[] #[]] w fun e w' => e = .returned (.tuple #[]) ∧
      w'.ownsRow base 48 2 v zs.length ((M.sortP zs).flatMap pairL) ∧ w.grownBy w' v.ownBlock := by
  rcases h.2 with ⟨rfl, h0⟩ | ⟨g, cap, cur, rfl, hg, hb, hn, hm, hs, ht⟩
  · have e0 : zs = [] := List.length_eq_zero_iff.1 h0
    subst e0
    have c : Calls Try.prog 53 #[.slice none 0 0, .func (.func 54) #[] #[]] w fun e w' => e = .returned (.tuple #[]) ∧ w' = w := AnyF.slices_SortFunc_none Try.sortPair none 0 _ w
    exact c.mono fun e w' ⟨h1, h2⟩ => ⟨h1, by rw [h2]; simpa [M.sortP] using World.ownsRow_nil w base 48 2, by rw [h2]; exact World.grownBy.refl w _⟩
  · have hgl : g < w.heap.size := (Array.getElem?_eq_some_iff.1 hb).1
    have eg : ∀ args w, (callFunc 54 args).run Try.prog w = .ok (.enter 54 args) w := enters_of Try.func54 (by kernel_rfl) rfl
    have hH : HoldsK pairL 2 w g 0 zs.toArray := by
      unfold HoldsK
      rw [flatK_eq pairL 2 (fun _ => rfl)]
      exact laid_holds hb (by rw [h.1]; exact ht)
    have c : Calls Try.prog 53 #[.slice (some ⟨g, 0, none⟩) zs.toArray.size cap, .func (.func 54) #[] #[]] w fun e w' =>
      e = .returned (.tuple #[]) ∧ ∃ d' n os, PermIn 0 zs.toArray.size zs.toArray d' ∧ SortedIn (ltOf M.cmpP) 0 zs.toArray.size d' ∧ w' = sortWorldK pairL 2 w g 0 n d' os :=
      AnyQ.slices_SortFunc Try.sortPair 2 Try.isAgg48 Try.sizeOf48 pairL (fun _ => rfl) (fun x v hv => pairs_one [x] v (by simpa using hv)) M.cmpP swoP 54 #[] g 0 cap zs.toArray w eg
        (fun _ _ _ _ x y => cmpP_calls x y _) hH hgl (by simpa using hz)
    rw [List.size_toArray] at c
    refine c.mono fun e w' ⟨h1, d', n, os, hp, hsd, hw⟩ => ⟨h1, ?_, ?_⟩
    · have hd : d'.size = zs.length := by simpa using hp.1
      have hpl : d'.toList.Perm zs := by have := perm_list (d := zs.toArray) (d' := d') (by simpa using hp); simpa using this
      have hsl := sorted_list (lt := ltOf M.cmpP) (d' := d') (by rw [hd]; exact hsd)
      have he : d'.toList = M.sortP zs := M.sortP_of hpl (hsl.imp (fun {a b} hab => by rw [ltP, decide_eq_false_iff_not] at hab; rw [M.leP_iff]; omega))
      rw [hw, ← he]
      unfold sortWorldK putRowK
      rw [flatK_eq pairL 2 (fun _ => rfl)]
      exact laid_owns (d'.toList.flatMap pairL).toArray (by rw [List.size_toArray, pairs_len, Array.length_toList, hd]) hg hb hn hm hs
    · rw [hw]
      exact laid_grown _
end Go.Proofs.Ytkpecagkpjabdab
