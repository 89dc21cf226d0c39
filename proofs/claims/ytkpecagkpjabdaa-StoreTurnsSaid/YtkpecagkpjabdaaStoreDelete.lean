/- The contract of slices.Delete at tables, one table cut out. Condition: the slice is one of the call's own. -/
import Derived.Test.YtkpecagkpjabdaaStoreOwned
import Derived.Test.YtkpecagkpjabdaaCopyRows
import Derived.Deep.RegionLaw
namespace Go.Proofs.Ytkpecagkpjabdaa
open Go.RowKit
set_option linter.unusedVariables false
set_option linter.unusedSimpArgs false
set_option maxRecDepth 100000

theorem run_clear_k {P : Program} (w : World) (t e ty : TypeId) (z : Value) (ht : P.underlying t = some (.slice e)) (hv : ∀ w, (zeroValue e).run P w = .ok z w) (g off n c : Nat) (hn : 0 < n) (cur : Array Value) (te : TypeId) (zs : List Value)
    (hz : (Builtin.zeroCells z.cells n).toList = zs) (hg : w.heap[g]? = some (.cells cur te (0, 0))) (hfit : off + zs.length ≤ cur.size) (h1 : ∀ v ∈ zs, v.oneCell' = true) :
    (Builtin.clear_ #[t] ty #[.slice (some ⟨g, off, none⟩) n c]).run P w = .ok (.tuple #[]) (w.setRow g (cur.toList.take off ++ zs ++ cur.toList.drop (off + zs.length)).toArray) := by
  have hst := run_storeCells_at (P := P) g off te zs 0 cur w hg (by simpa using hfit) h1
  rw [Nat.add_zero] at hst
  obtain ⟨m, rfl⟩ : ∃ m, n = m + 1 := ⟨n - 1, by omega⟩
  simp [Builtin.clear_, run_underlying ht, hv, hz, hst]
theorem step_append_runK {P : Program} {ops : Array Oper} {o : Oper} {a : Act} {w : World} {K : Act → World → Prop} {Q : Exit → Act → World → Prop} {E : Prop}
    (hg : o.guard = none) (s x : Operand) (t tn : TypeId) (hop : o.op = Op.call { callee := Callee.builtin Builtin.append, args := #[s, x], argTypes := #[t, tn] })
    (vs vx : Value) (hs : a.eval s = vs) (hx : a.eval x = vx) {v' : Value} {w' : World} (hr : (Builtin.append_ #[t, tn] o.type #[vs, vx]).run P w = .ok v' w') (hK : K (a.put o.dst v') w') :
    if Region.wanted o (yielded ops a.tmps) = true then Oper.wp P o a w K Q else E := by
  have hw : Region.wanted o (yielded ops a.tmps) = true := by simp [Region.wanted, hg]
  rw [if_pos hw]
  unfold Oper.wp
  simp [execOp, hop, resolve, invoke, builtin, hs, hx, hr, Result.andThen]
  exact hK
theorem wpList_clear_run {P : Program} (w : World) {ops : Array Oper} {rest : List Oper} {o : Oper} {a : Act} {Q : Exit → Act → World → Prop} (hgd : o.guard = none) (s : Operand) (t : TypeId)
    (ho : o.op = .call { callee := .builtin .clear, args := #[s], argTypes := #[t] }) (v : Value) (hs : a.eval s = v) {v' : Value} {w' : World}
    (hr : (Builtin.clear_ #[t] o.type #[v]).run P w = .ok v' w') (h : wpList P ops Q rest (a.put o.dst v') w') : wpList P ops Q (o :: rest) a w := by
  refine wpList_plain hgd fun K hK => ?_
  unfold Oper.wp execOp
  simp only [ho, resolve, invoke, builtin, Sem.run_bind, Sem.run_pure, Result.andThen_ok, List.map_toArray, List.map_cons, List.map_nil, hs, hr]
  exact hK _ _ h
theorem splice_cut {xs cl zs : List Value} {n i : Nat} (hx : cl.take (n * 3) = xs) (hxl : xs.length = n * 3) (hi : i < n) (R1 : List Value)
    (hR1 : R1 = cl.take (i * 3) ++ xs.drop ((i + 1) * 3) ++ cl.drop (i * 3 + (xs.drop ((i + 1) * 3)).length)) :
    (R1.take ((n - 1) * 3) ++ zs ++ R1.drop ((n - 1) * 3 + zs.length)).take ((n - 1) * 3) = xs.take (i * 3) ++ xs.drop ((i + 1) * 3) := by
  have hd : (xs.drop ((i + 1) * 3)).length = n * 3 - (i + 1) * 3 := by rw [List.length_drop, hxl]
  have hcl : n * 3 ≤ cl.length := by
    have := congrArg List.length hx
    rw [List.length_take, hxl] at this
    omega
  have e1 : R1.take ((n - 1) * 3) = xs.take (i * 3) ++ xs.drop ((i + 1) * 3) := by
    rw [hR1]
    have ht : cl.take (i * 3) = xs.take (i * 3) := by rw [← hx, List.take_take]; congr 1; omega
    have hl : (xs.take (i * 3) ++ xs.drop ((i + 1) * 3)).length = (n - 1) * 3 := by
      rw [List.length_append, List.length_take, hd, hxl]; omega
    rw [ht, List.take_append_of_le_length (by rw [hl]; exact Nat.le_refl _), List.take_of_length_le (by rw [hl]; exact Nat.le_refl _)]
  have hl2 : (R1.take ((n - 1) * 3)).length = (n - 1) * 3 := by
    rw [e1, List.length_append, List.length_take, hd, hxl]; omega
  rw [List.append_assoc, List.take_append_of_le_length (by omega), List.take_of_length_le (by omega), e1]
set_option maxHeartbeats 4000000 in
set_option maxRecDepth 100000 in
theorem delete_calls {w : World} {base g n cap i : Nat} {xs : List Value} (h : w.ownsRow base 82 3 (.slice (some ⟨g, 0, none⟩) n cap) n xs) (hn : n ≤ 1000000) (hi : i < n) (h2 : ∀ u ∈ xs, u.oneCell' = true) :
    Calls Try.prog 77 #[.slice (some ⟨g, 0, none⟩) n cap, .int .i64 i, .int .i64 ((i : Int) + 1)] w fun e w' =>
      e = .returned (.slice (some ⟨g, 0, none⟩) (n - 1) cap) ∧ w'.ownsRow base 82 3 (.slice (some ⟨g, 0, none⟩) (n - 1) cap) (n - 1) (xs.take (i * 3) ++ xs.drop ((i + 1) * 3)) ∧ w.grownBy w' (some g) := by
  obtain ⟨i0, hi0, hz0, hz1, hz2⟩ := info_parts infoTable
  have hxl := h.1
  rcases h.2 with ⟨e, _⟩ | ⟨g', cap', cur, e, hbg, hg, hnc, hcm, hcs, htk⟩
  · simp at e
  simp only [Value.slice.injEq, Option.some.injEq, Addr.mk.injEq, and_true, true_and] at e
  obtain ⟨rfl, rfl⟩ := e
  have hc63 : cap ≤ 9223372036854775807 := by unfold maxLen at hcm; omega
  have hcl : cur.toList.length = cap * 3 := by simpa using hcs
  have hdl : (xs.drop ((i + 1) * 3)).length = (n - (i + 1)) * 3 := by rw [List.length_drop, hxl, Nat.sub_mul]
  have hcell : ∀ j u, xs[j]? = some u → w.cell? ⟨g, j, none⟩ = some u := by
    intro j u hj
    rw [cell_of_row w g j cur _ (0, 0) hg]
    rw [← htk, List.getElem?_take] at hj
    split at hj
    · simpa using hj
    · cases hj
  obtain ⟨R1, hR1⟩ : ∃ R1, R1 = (cur.toList.take (i * 3) ++ xs.drop ((i + 1) * 3) ++ cur.toList.drop (i * 3 + (xs.drop ((i + 1) * 3)).length)).toArray := ⟨_, rfl⟩
  have hR1s : R1.size = cap * 3 := by
    rw [hR1]
    simp only [List.size_toArray, List.length_append, List.length_take, List.length_drop, hcl, hdl, hxl]
    omega
  obtain ⟨zs, hzs⟩ : ∃ zs, zs = (Builtin.zeroCells (Value.agg #[.int .i64 0, .slice none 0 0, .slice none 0 0]).cells 1).toList := ⟨_, rfl⟩
  have hzs' : zs = [.int .i64 0, .slice none 0 0, .slice none 0 0] := by rw [hzs]; kernel_rfl
  obtain ⟨R2, hR2⟩ : ∃ R2, R2 = (R1.toList.take ((n - 1) * 3) ++ zs ++ R1.toList.drop ((n - 1) * 3 + zs.length)).toArray := ⟨_, rfl⟩
  have hzl : zs.length = 3 := by rw [hzs']; rfl
  have hR2s : R2.size = cap * 3 := by
    rw [hR2]
    simp only [List.size_toArray, List.length_append, List.length_take, List.length_drop, hzl, Array.length_toList, hR1s]
    omega
  have hap : ∀ ty (A : Addr), (∀ j u, (xs.drop ((i + 1) * 3))[j]? = some u → w.drew.cell? (A.add j) = some u) →
      (Builtin.append_ #[38, 38] ty #[.slice (some ⟨g, 0, none⟩) i cap, .slice (some A) (n - (i + 1)) (cap - (i + 1))]).run Try.prog w.drew = .ok (.slice (some ⟨g, 0, none⟩) (n - 1) cap) (w.drew.setRow g R1) := fun ty A hA => by
    have c := run_append_room (P := Try.prog) w.drew 38 ty 82 i0 Try.underlying38 hi0 g i cap cur hg A (n - (i + 1)) (cap - (i + 1)) (xs.drop ((i + 1) * 3)) (by rw [hz1, hdl]) hA (fun u hu => h2 u (List.mem_of_mem_drop hu)) (by omega) (by rw [hz1, hdl, hcs]; omega)
    rw [hz1, ← hR1, show i + (n - (i + 1)) = n - 1 by omega] at c
    exact c
  have hcr : ∀ (W : World), W.heap = (w.setRow g R1).heap → ∀ ty dc, (Builtin.clear_ #[38] ty #[.slice (some ⟨g, (n - 1) * 3, none⟩) 1 dc]).run Try.prog W = .ok (.tuple #[]) (W.setRow g R2) := fun W hW ty dc => by
    have hWg : W.heap[g]? = some (.cells R1 82 (0, 0)) := by rw [hW]; exact setRow_heap w g cur R1 _ _ hg
    have c := run_clear_k (P := Try.prog) W 38 82 ty _ Try.underlying38 Try.zeroValue82 g ((n - 1) * 3) 1 dc (by omega) R1 82 zs hzs.symm hWg (by rw [hzl, hR1s]; omega) (by
      intro v hv
      rw [hzs'] at hv
      simp only [List.mem_cons, List.not_mem_nil, or_false] at hv
      rcases hv with rfl | rfl | rfl <;> rfl)
    rw [← hR2] at c
    exact c
  have FIN : ∀ w', w'.os = w.os → w'.tape = w.tape → w'.output = w.output → w'.heap = ((w.setRow g R1).setRow g R2).heap →
      w'.ownsRow base 82 3 (.slice (some ⟨g, 0, none⟩) (n - 1) cap) (n - 1) (xs.take (i * 3) ++ xs.drop ((i + 1) * 3)) ∧ w.grownBy w' (some g) := by
    intro w' q1 q2 q3 q4
    refine ⟨⟨?_, .inr ⟨g, cap, R2, rfl, hbg, ?_, by omega, hcm, hR2s, ?_⟩⟩, ⟨q1, q2, q3, ?_, ?_⟩⟩
    · simp only [List.length_append, List.length_take, hdl, hxl]
      omega
    · rw [q4]
      exact setRow_heap _ g R1 R2 _ _ (setRow_heap w g cur R1 _ _ hg)
    · rw [hR2]
      exact splice_cut htk hxl hi R1.toList (by rw [hR1])
    · rw [q4]; simp [World.setRow]
    · intro k _ hk
      have hk' : k ≠ g := fun e => hk (by rw [e])
      rw [q4, setRow_other _ g k _ hk', setRow_other _ g k _ hk']
  obtain ⟨A, hA, hsrc⟩ : ∃ A : Addr, (if cap = i + 1 then some (⟨g, 0, none⟩ : Addr) else some ⟨g, (i + 1) * 3, none⟩) = some A ∧ (∀ j u, (xs.drop ((i + 1) * 3))[j]? = some u → w.drew.cell? (A.add j) = some u) := by
    by_cases hc : cap = i + 1
    · refine ⟨⟨g, 0, none⟩, by simp [hc], fun t u hu => ?_⟩
      have h0 : (xs.drop ((i + 1) * 3)).length = 0 := by rw [hdl]; have : n - (i + 1) = 0 := by omega
                                                         rw [this]
      rw [List.length_eq_zero_iff.1 h0] at hu
      simp at hu
    · refine ⟨⟨g, (i + 1) * 3, none⟩, by simp [hc], fun t u hu => ?_⟩
      rw [Addr.add_lit]
      exact hcell _ _ (by rwa [List.getElem?_drop] at hu)
  have HAP := Lib.hid (fun ty => hap ty A hsrc)
  have HCR := Lib.hid hcr
  have HFIN := Lib.hid FIN
  clear hap hcr FIN hR1 hR2 hR1s hR2s hcell hdl hg htk hcs hcl hi0 hz0 hz1 hz2 h hxl h2 hzs hzs' hzl hsrc
  have hw1 : IntKind.i64.wrap ((i : Int) + 1) = (i : Int) + 1 := by rw [IntKind.wrap_i64]; omega
  have htn : ((i : Int) + 1).toNat = i + 1 := by omega
  have hb1 : (0 : Int) ≤ (i : Int) + 1 := by omega
  have hb0 : (i : Int) + 1 ≤ (n : Int) := by omega
  have hb3 : (i : Int) ≤ (n : Int) := by omega
  have hb4 : (i : Int) ≤ (cap : Int) := by omega
  have hb5 : ¬ (cap = n - 1) := by omega
  have hb6 : n - (n - 1) = 1 := by omega
  go_enter Try.func77, Try.ntmps77
  go_wp2_with fail
  go_region_law (refine step_append_runK rfl _ _ 38 38 rfl _ _ (by simp [Act.eval, Act.put]) (by simp [Act.eval, Act.put, hA]) (HAP.out _) ?_)
  go_wp2_with (refine wpList_clear_run _ rfl _ 38 rfl _ rfl (HCR.out _ (by rfl) _ _) ?_)
  go_ret
  exact ⟨rfl, HFIN.out _ rfl rfl rfl rfl⟩
end Go.Proofs.Ytkpecagkpjabdaa
