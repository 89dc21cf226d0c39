/- Laws at the operation for a whole act: it is loaded out of acts that came in, stored into a box, loaded out of it. No condition. -/
import Derived.Test.YtkpecagkpjabdacGreatBagW
import Derived.Laws.Tables
import Derived.Laws.Rows
import Derived.Laws.CopyOwn
import Derived.Deep.MidRow
import Derived.Test.YtkpecagkpjabdacGreatBagH
namespace Go.Proofs.YtkpecagkpjabdacGreat
open Go.RowKit
set_option linter.unusedVariables false
set_option linter.unusedSimpArgs false
set_option maxRecDepth 100000
section
variable {ops : Array Oper} {rest : List Oper} {op : Oper} {a : Act} {w : World} {Q : Exit → Act → World → Prop} {x : M.Act}
theorem wpList_load_act (hgd : op.guard = none) (s : Operand) (ho : op.op = .load 27 s) (b o : Nat) (hs : a.eval s = .pointer (some ⟨b, o, none⟩)) (hc : ActCells w b o x) (h : wpList Tryz.prog ops Q rest (a.put op.dst (actV x)) w) : wpList Tryz.prog ops Q (op :: rest) a w :=
  wpList_load_mid hgd 27 s ho b o hs (actL x) _ hc Tryz.underlying27 rfl (by kernel_rfl) h
theorem wpList_load_actB (hgd : op.guard = none) (s : Operand) (ho : op.op = .load 27 s) (g : Nat) (hs : a.eval s = .pointer (some ⟨g, 0, none⟩)) (hB : Blk w g 27 (actC x)) (h : wpList Tryz.prog ops Q rest (a.put op.dst (actV x)) w) : wpList Tryz.prog ops Q (op :: rest) a w :=
  wpList_load_row hgd 27 s ho g hs 27 (actC x) (0, 0) _ hB Tryz.underlying27 rfl (by kernel_rfl) h
theorem wpList_store_actB (hgd : op.guard = none) (s y : Operand) (ho : op.op = .store 27 s y) (g : Nat) (hs : a.eval s = .pointer (some ⟨g, 0, none⟩)) (hy : a.eval y = actV x) {old : Array Value} (hB : Blk w g 27 old) (hsz : old.size = 17)
    (h : ∀ W, Blk W g 27 (actC x) → (∀ k, k ≠ g → W.heap[k]? = w.heap[k]?) → W.heap.size = w.heap.size → (∀ {B : Nat} {w0 : World}, Below B w0 w → B ≤ g → Below B w0 W) → wpList Tryz.prog ops Q rest (a.put op.dst undef) W) : wpList Tryz.prog ops Q (op :: rest) a w :=
  wpList_store_row hgd 27 s y ho g (actC x) hs hy 27 old hB (by kernel_rfl) hsz (show (actL x).toArray.all (·.oneCell') = true from all_oneCell_toArray (fun v hv => acts_one [x] v (by simpa using hv)))
    (h _ (setRow_heap w g old (actC x) 27 (0, 0) hB) (fun k hk => setRow_other w g k _ hk) (setRow_size w g _) (fun hb h1 => below_setRow hb h1 _))
end
theorem infoAct : (Tryz.prog.info? 27).map (fun i => (i.zero, i.size, i.bytes)) = some (some (actV ⟨0, 0, 0, 0, ⟨0, 0, 0, 0, 0, 0, 0, 0⟩, ⟨0, 0, 0, 0, 0⟩⟩), 17, 136) := by kernel_rfl
/-- acts that came in, copied onto nothing -/
theorem run_append_acts {w : World} {lo : Nat} {v : Value} {l : List M.Act} (h : ActsAt w lo v l) (hl : l.length ≤ 1000000) (ty : TypeId) :
    ∃ v' w', (Builtin.append_ #[43, 43] ty #[.slice none 0 0, v]).run Tryz.prog w = .ok v' w' ∧ w'.ownsRow w.heap.size 27 17 v' l.length (l.flatMap actL) ∧ Below w.heap.size w w' := by
  obtain ⟨i0, hi, hz0, hz1, hz2⟩ := info_parts infoAct
  obtain ⟨h1, hm, a, cap, rfl, hc⟩ := h
  cases a with
  | none =>
    have hx : l.flatMap actL = [] := by
      rcases List.eq_nil_or_concat (l.flatMap actL) with e | ⟨xs, y, e⟩
      · exact e
      · obtain ⟨b, o, hb, _⟩ := hc (by rw [e]; simp)
        cases hb
    have h0 : l.length = 0 := by
      have := acts_len l
      rw [hx] at this
      simp only [List.length_nil] at this
      omega
    rw [hx, h0]
    exact ⟨_, w, run_append_none w w.heap.size _ ty _ i0 17 Tryz.underlying43 hi hz1 _ 0 [] (World.ownsRow_nil _ _ _ _) cap, World.ownsRow_nil _ _ _ _, Below.refl _ _⟩
  | some ad =>
    have hcc : ∀ j u, (l.flatMap actL)[j]? = some u → w.cell? (ad.add j) = some u := by
      intro j u hj
      obtain ⟨b, o, hb, _, hcell⟩ := hc (by intro e; rw [e] at hj; simp at hj)
      simp only [Option.some.injEq] at hb
      subst hb
      rw [Addr.add_mid]
      exact hcell j u hj
    obtain ⟨v', w', hr, k1, k2, _, _⟩ := run_append_own_at (P := Tryz.prog) w w.heap.size 43 ty 27 i0 _ 17 136 Tryz.underlying43 hi hz0 hz1 hz2 rfl (by omega) (.slice none 0 0) 0 [] (World.ownsRow_nil _ _ _ _) ad l.length cap (l.flatMap actL) (acts_len l) hcc (acts_one l) (by unfold maxLen; omega) (by omega) (Nat.le_refl _)
    refine ⟨v', w', hr, by simpa using k1, (Below.refl _ w).grown k2 (Nat.le_refl _) (fun k hk => by cases hk)⟩
theorem wpList_append_acts {ops : Array Oper} {rest : List Oper} {o : Oper} {a : Act} {w : World} {Q : Exit → Act → World → Prop} (hgd : o.guard = none) (s x : Operand)
    (ho : o.op = .call { callee := .builtin .append, args := #[s, x], argTypes := #[43, 43] }) (hs : a.eval s = .slice none 0 0) {lo : Nat} {v : Value} {l : List M.Act} (hx : a.eval x = v) (hv : ActsAt w lo v l) (hl : l.length ≤ 1000000)
    (h : ∀ v' w', w'.ownsRow w.heap.size 27 17 v' l.length (l.flatMap actL) → Below w.heap.size w w' → wpList Tryz.prog ops Q rest (a.put o.dst v') w') : wpList Tryz.prog ops Q (o :: rest) a w := by
  refine wpList_plain hgd fun K hK => ?_
  obtain ⟨v', w', hr, h2, h3⟩ := run_append_acts hv hl o.type
  unfold Oper.wp execOp
  simp only [ho, resolve, invoke, builtin, Sem.run_bind, Sem.run_pure, Result.andThen_ok, List.map_toArray, List.map_cons, List.map_nil, hs, hx, hr]
  exact hK _ _ (h v' w' h2 h3)
theorem ActsAt.of_own {w : World} {base : Nat} {v : Value} {l : List M.Act} (h : w.ownsRow base 27 17 v l.length (l.flatMap actL)) : ActsAt w base v l := Lies.of_owns h
theorem ActsAt.take {w : World} {lo : Nat} {a : Option Addr} {n c : Nat} {l : List M.Act} (h : ActsAt w lo (.slice a n c) l) {k : Nat} (hk : k ≤ l.length) : ActsAt w lo (.slice a k c) (l.take k) := by
  obtain ⟨h1, hm, a', cap, e, hc⟩ := h
  obtain ⟨rfl, rfl, rfl⟩ : a = a' ∧ n = l.length ∧ c = cap := by simpa using e
  have hlen : (l.take k).length = k := by rw [List.length_take]; omega
  refine ⟨acts_len _, by rw [hlen]; omega, a, c, by rw [hlen], fun hne => ?_⟩
  have hpre : ∀ (j : Nat) (u : Value), ((l.take k).flatMap actL)[j]? = some u → (l.flatMap actL)[j]? = some u := by
    intro j u hj
    have e2 : l.flatMap actL = (l.take k).flatMap actL ++ (l.drop k).flatMap actL := by rw [← List.flatMap_append, List.take_append_drop]
    rw [e2, List.getElem?_append_left (List.getElem?_eq_some_iff.1 hj).1]
    exact hj
  obtain ⟨b, o, ea, hl2, hcell⟩ := hc (by
    intro e3
    obtain ⟨u, hu⟩ : ∃ u, ((l.take k).flatMap actL)[0]? = some u := ⟨_, List.getElem?_eq_getElem (List.length_pos_iff.2 hne)⟩
    have := hpre 0 u hu
    rw [e3] at this
    simp at this)
  exact ⟨b, o, ea, hl2, fun j u hj => hcell j u (hpre j u hj)⟩
section
variable {H : Type} {enc : TypeId × Value → H} {w : World} {base : Nat} {spare : Nat → Bool} {held : Bool} {fuel : Nat}
open Go.ChangeShapes Go.WideShapes Go.ChangeAt Go.RowKit Go.Deep
theorem open_acts2 {r : Reach} {b0 : Nat} {v : Value} {d : DataW H} {p : List MemPlace} (hv : Value.okWide Tryz.prog w r b0 43 v)
    (h : DataW.Trod enc Tryz.prog w 0 spare held 43 v d p) : ∃ xs, (ActsAt w 0 v xs ∧ CapOk v) ∧ ∀ r ∈ xs, ActIn r := by
  obtain ⟨a, len, cap, rfl⟩ := okWide_slice Tryz.underlying43 hv
  obtain ⟨fuel, hf⟩ := h
  have hf2 : DataW.trod enc Tryz.prog w 0 spare held fuel 43 [.slice a len cap] = some (d, p) := by simpa [Value.cells] using hf
  obtain ⟨xs, h1, h2⟩ := open_actsAt hf2
  refine ⟨xs, ⟨h1, ?_⟩, h2⟩
  rcases open_slice Tryz.underlying43 hf2 with ⟨e, _⟩ | ⟨a, len, cap, m, n, D, Pl, e, hb, hl, hm, hmm, _, hx⟩
  · simp only [List.cons.injEq, and_true] at e
    rw [e]
    exact ⟨none, 0, 0, rfl, Nat.le_refl _, Nat.zero_le _⟩
  · simp only [List.cons.injEq, and_true] at e
    rw [e]
    exact ⟨some a, len, cap, rfl, hl, hm⟩
end
end Go.Proofs.YtkpecagkpjabdacGreat
