/- The end of world.Step: the store goes back into the world; the world, the pairs, no error. Condition: the facts St. -/
import Derived.Test.YtkpecagkpjabdabGreatBag4
namespace Go.Proofs.YtkpecagkpjabdabGreat
open Go.RowKit
set_option linter.unusedVariables false
set_option linter.unusedSimpArgs false
set_option maxRecDepth 100000
set_option maxHeartbeats 8000000 in
set_option maxRecDepth 100000 in
theorem step_ret {P : Nat → Prop} {w W : World} {g1 g2 g5 : Nat} {t0 : Value} {n0 fall wide high : Int} {z0 z1 z2 z3 z4 vo : Value} {l : List M.Pr} {s : M.Store} {a : Option Addr} {c : Nat} (u0 u3 u4 u6 u7 u8 u9 u10 u11 u12 u14 u15 u16 u17 u18 u19 u20 u21 u22 u23 u24 u25 u26 u27 u28 u29 u30 u31 u32 u33 u34 u35 u36 u37 u38 u39 u40 u41 u42 u43 u44 u45 u46 u47 u48 u49 u50 u51 u52 u53 u54 u55 u56 u57 u58 u59 u60 u61 u62 u63 u64 u65 u66 u67 u68 u69 u70 u71 u72 u73 u74 u75 u76 u77 u78 u79 u80 u81 u82 u83 u84 u85 u86 u87 u88 u89 u90 u91 u92 u93 u94 u95 u96 u97 u98 u99 u100 u101 u102 u103 u104 u105 u106 u107 u108 u109 u110 u111 u112 u113 u114 u115 u116 u117 u118 u119 u120 u121 u122 u123 u124 u125 u126 u127 u128 u129 u130 u131 u132 u133 u134 u135 u136 u137 u138 u139 u140 u141 u142 u143 u144 u145 u146 u147 u148 u149 u150 u151 u152 u153 u154 u155 u156 u157 u158 u159 u160 u161 u162 u163 u164 u165 u166 u167 u168 u169 u170 u171 u172 u173 u174 u175 u176 u177 u178 u179 u180 u181 u182 u183 u184 u185 u186 u187 u188 : Value) (h : St P w W g1 g2 g5 t0 n0 fall wide high z0 z1 z2 z3 z4 vo l a c s) :
    Code.wp Tryz.prog (tailS 7) (bodyPost Tryz.prog Tryz.f20 fun e w' => e = .returned (.tuple #[.agg #[.slice a s.tables.length c, .int .i64 s.next, .int .i64 fall, .int .i64 wide, .int .i64 high], vo, .int .i64 0]) ∧ Rob w' (InQ P w g1 g2 g5 vo) (stV a c s) s ∧ Below w.heap.size w w' ∧ (∀ g, w.heap.size ≤ g → g ≠ g1 → g ≠ g2 → w'.heap[g]? = W.heap[g]?) ∧ W.heap.size ≤ w'.heap.size) ⟨List.toArray (u0 :: .pointer (some ⟨g1, 0, none⟩) :: .pointer (some ⟨g2, 0, none⟩) :: u3 :: u4 :: .pointer (some ⟨g5, 0, none⟩) :: u6 :: u7 :: u8 :: u9 :: u10 :: u11 :: u12 :: vo :: u14 :: u15 :: u16 :: u17 :: u18 :: u19 :: u20 :: u21 :: u22 :: u23 :: u24 :: u25 :: u26 :: u27 :: u28 :: u29 :: u30 :: u31 :: u32 :: u33 :: u34 :: u35 :: u36 :: u37 :: u38 :: u39 :: u40 :: u41 :: u42 :: u43 :: u44 :: u45 :: u46 :: u47 :: u48 :: u49 :: u50 :: u51 :: u52 :: u53 :: u54 :: u55 :: u56 :: u57 :: u58 :: u59 :: u60 :: u61 :: u62 :: u63 :: u64 :: u65 :: u66 :: u67 :: u68 :: u69 :: u70 :: u71 :: u72 :: u73 :: u74 :: u75 :: u76 :: u77 :: u78 :: u79 :: u80 :: u81 :: u82 :: u83 :: u84 :: u85 :: u86 :: u87 :: u88 :: u89 :: u90 :: u91 :: u92 :: u93 :: u94 :: u95 :: u96 :: u97 :: u98 :: u99 :: u100 :: u101 :: u102 :: u103 :: u104 :: u105 :: u106 :: u107 :: u108 :: u109 :: u110 :: u111 :: u112 :: u113 :: u114 :: u115 :: u116 :: u117 :: u118 :: u119 :: u120 :: u121 :: u122 :: u123 :: u124 :: u125 :: u126 :: u127 :: u128 :: u129 :: u130 :: u131 :: u132 :: u133 :: u134 :: u135 :: u136 :: u137 :: u138 :: u139 :: u140 :: u141 :: u142 :: u143 :: u144 :: u145 :: u146 :: u147 :: u148 :: u149 :: u150 :: u151 :: u152 :: u153 :: u154 :: u155 :: u156 :: u157 :: u158 :: u159 :: u160 :: u161 :: u162 :: u163 :: u164 :: u165 :: u166 :: u167 :: u168 :: u169 :: u170 :: u171 :: u172 :: u173 :: u174 :: u175 :: u176 :: u177 :: u178 :: u179 :: u180 :: u181 :: u182 :: u183 :: u184 :: u185 :: u186 :: u187 :: u188 :: []), []⟩ W := by
  have H := Lib.hid h
  have n12 := h.n12
  have n15 := h.n15
  have n25 := h.n25
  have n21 : ¬ g2 = g1 := fun e => n12 e.symm
  have n51 : ¬ g5 = g1 := fun e => n15 e.symm
  have n52 : ¬ g5 = g2 := fun e => n25 e.symm
  have k5 := h.b5.lt
  have k1 := h.b1.lt
  have k2 := h.b2.lt
  have c0 := h.b5.cell 0
  have c1 := h.b5.cell 1
  have f1 := fun i => h.b1.free i
  simp at c0 c1
  have i0 := h.b1.cell 0
  have i1 := h.b1.cell 1
  simp at i0 i1
  clear h
  conv => arg 2; whnf
  go_upto_region 35 with (fail)
  refine wp_called (fun W2 hW2 => ?_)
  have b1 : Blk W2 g1 41 #[.slice a s.tables.length c, .int .i64 s.next, .int .i64 fall, .int .i64 wide, .int .i64 high] := by
    rw [hW2]
    have := (H.out.b1.put 0 (.slice a s.tables.length c)).put 1 (.int .i64 s.next)
    simpa using this
  have b2 : Blk W2 g2 41 #[z0, z1, z2, z3, z4] := by
    rw [hW2]
    exact (H.out.b2.far (p := ⟨g1, 0, none⟩) n21 _).far (p := ⟨g1, 1, none⟩) n21 _
  have hE : Hid (∀ g, g ≠ g1 → W2.heap[g]? = W.heap[g]?) := Lib.hid (by
    intro g e1
    rw [hW2]
    rw [Below.heap_setCell _ _ _ _ e1, Below.heap_setCell _ _ _ _ e1])
  have HZ : Hid (W2.heap.size = W.heap.size) := Lib.hid (by rw [hW2]; simp)
  have hBB : Below w.heap.size w W2 := by
    rw [hW2]
    exact (H.out.bel.setCell H.out.l1 _).setCell H.out.l1 _
  have HBB := Lib.hid hBB
  have i0 := b1.cell 0
  have i1 := b1.cell 1
  have i2 := b1.cell 2
  have i3 := b1.cell 3
  have i4 := b1.cell 4
  have j0 := b2.cell 0
  have j1 := b2.cell 1
  have j2 := b2.cell 2
  have j3 := b2.cell 3
  have j4 := b2.cell 4
  have f2 := fun i => b2.free i
  have l1 := b1.lt
  have l2 := b2.lt
  simp at i0 i1 i2 i3 i4 j0 j1 j2 j3 j4
  have HB2 := Lib.hid b2
  clear b1 b2 hW2 hBB c0 c1 f1
  go_wp2_with fail
  have hg2 : ∀ U, U = (((((W2.setCell ⟨g2, 0, none⟩ (.slice a s.tables.length c)).setCell ⟨g2, 1, none⟩ (.int .i64 s.next)).setCell ⟨g2, 2, none⟩ (.int .i64 fall)).setCell ⟨g2, 3, none⟩ (.int .i64 wide)).setCell ⟨g2, 4, none⟩ (.int .i64 high)) → U.heap[g2]? = some (.cells #[.slice a s.tables.length c, .int .i64 s.next, .int .i64 fall, .int .i64 wide, .int .i64 high] 41 (0, 0)) := by
    rintro U rfl
    exact blk_to (((((HB2.out.put 0 (.slice a s.tables.length c)).put 1 (.int .i64 s.next)).put 2 (.int .i64 fall)).put 3 (.int .i64 wide)).put 4 (.int .i64 high)) (by rfl)
  refine bodyPost_ret (results_cell_tmp2 (p := 2) (ty := 41) (u := 3) (x := 4) rfl _ _ g2 41 _ (0, 0) _ rfl (hg2 _ rfl) Tryz.underlying41 rfl (by kernel_rfl)) rfl ⟨rfl, ?_, ?_, ?_, ?_⟩
  · refine H.out.rob.step (by simp [HZ.out]) (fun g h1 h2 => ?_)
    have e1 : g ≠ g1 := h2.2.1.1
    have e2 : g ≠ g2 := h2.2.1.2.1
    exact ((((((Below.heap_setCell _ _ _ _ e2).trans (Below.heap_setCell _ _ _ _ e2)).trans (Below.heap_setCell _ _ _ _ e2)).trans (Below.heap_setCell _ _ _ _ e2)).trans (Below.heap_setCell _ _ _ _ e2)).trans (hE.out g e1))
  · have l2' := H.out.l2
    have k3 := HBB.out
    exact ((((k3.setCell l2' _).setCell l2' _).setCell l2' _).setCell l2' _).setCell l2' _
  · intro g _ e1 e2
    exact ((((((Below.heap_setCell _ _ _ _ e2).trans (Below.heap_setCell _ _ _ _ e2)).trans (Below.heap_setCell _ _ _ _ e2)).trans (Below.heap_setCell _ _ _ _ e2)).trans (Below.heap_setCell _ _ _ _ e2)).trans (hE.out g e1))
  · simp [HZ.out]
end Go.Proofs.YtkpecagkpjabdabGreat
