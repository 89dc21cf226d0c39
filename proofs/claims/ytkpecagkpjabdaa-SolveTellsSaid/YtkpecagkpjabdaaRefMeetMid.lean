/- The document's MeetRows: the moving. Condition: numbers of 64 bits. -/
import Derived.Test.YtkpecagkpjabdaaRefMeetEnd
namespace Go.Proofs.Ytkpecagkpjabdaa
open Go.RowKit
set_option linter.unusedVariables false
set_option linter.unusedSimpArgs false
set_option maxRecDepth 100000
def moveA (ac : Bool) (r : M.Row) (far way kick : Int) : M.Row :=
  if ac then { r with X := M.add r.X (far * way) 1048576, PX := M.add r.PX kick 16777216 } else { r with Y := M.add r.Y (far * way) 1048576, PY := M.add r.PY kick 16777216 }
set_option maxHeartbeats 20000000 in
set_option maxRecDepth 100000 in
theorem rmeet_mid {a b : M.Row} {w W : World} {gw : Nat} {way J GA GB : Int} {ac : Bool} (u0 u1 u6 u7 u8 u9 u10 u11 u12 u14 u15 u18 u19 u22 u23 u24 u25 u26 u27 u28 u29 u30 u31 u32 u33 u34 u35 u36 u37 u38 u39 u40 u41 u42 u43 u44 u45 u46 u47 u48 u49 u50 u51 u52 u53 u54 u55 u56 u57 u58 u59 u60 u61 u62 u63 u64 u65 u66 u67 u68 u69 u70 u71 u72 u73 u74 u75 u76 u77 u78 u79 u80 u81 u82 u83 u84 u85 u86 u87 u88 u89 u90 u91 u92 u93 u94 u95 u96 u97 u98 u99 u100 u101 u102 u103 u104 u105 u106 u107 u108 u109 u110 u111 u112 u113 u114 u115 u116 u117 u118 u119 u120 u121 u122 u123 u124 u125 u126 u127 u128 u129 u130 u131 u132 u133 u134 u135 u136 u137 u138 u139 u140 u141 u142 u143 u144 u145 u146 u147 u148 u149 u150 u151 u152 u153 u154 u155 u156 u157 u158 u159 u160 u161 u162 u163 u164 u165 u166 u167 u168 u169 u170 u171 u172 u173 u174 u175 u176 u177 u178 : Value) (hA : Blk W w.heap.size 27 (rowC a)) (hB : Blk W (w.heap.size + 1) 27 (rowC b)) (h4 : ∃ z, Blk W (w.heap.size + 1 + 1) 27 (rowC z)) (h5 : ∃ z, Blk W (w.heap.size + 1 + 1 + 1) 27 (rowC z)) (K : Below w.heap.size w W) (hw : W.cell? ⟨gw, 0, none⟩ = some (.int .i64 way)) (hg1 : w.heap.size + 1 + 1 + 1 < gw) (hg2 : gw < W.heap.size)
    (hGA : 0 ≤ GA ∧ GA ≤ 8192) (hGB : 0 ≤ GB ∧ GB ≤ 8192) (hway : way = 1 ∨ way = -1) (hj : -72057594037927936 ≤ J ∧ J ≤ 72057594037927936) :
    Code.wp Try.prog (tailC 19) (bodyPost Try.prog Try.f25 fun e w' => e = .returned (.tuple #[rowV (backA a (moveA ac a (-GA) way (-J))), rowV (backA b (moveA ac b GB way J)), .bool true]) ∧ Below w.heap.size w w') ⟨List.toArray (u0 :: u1 :: .pointer (some ⟨w.heap.size, 0, none⟩) :: .pointer (some ⟨w.heap.size + 1, 0, none⟩) :: .pointer (some ⟨w.heap.size + 1 + 1, 0, none⟩) :: .pointer (some ⟨w.heap.size + 1 + 1 + 1, 0, none⟩) :: u6 :: u7 :: u8 :: u9 :: u10 :: u11 :: u12 :: .bool ac :: u14 :: u15 :: .pointer (some ⟨gw, 0, none⟩) :: .int .i64 J :: u18 :: u19 :: .int .i64 GA :: .int .i64 GB :: u22 :: u23 :: u24 :: u25 :: u26 :: u27 :: u28 :: u29 :: u30 :: u31 :: u32 :: u33 :: u34 :: u35 :: u36 :: u37 :: u38 :: u39 :: u40 :: u41 :: u42 :: u43 :: u44 :: u45 :: u46 :: u47 :: u48 :: u49 :: u50 :: u51 :: u52 :: u53 :: u54 :: u55 :: u56 :: u57 :: u58 :: u59 :: u60 :: u61 :: u62 :: u63 :: u64 :: u65 :: u66 :: u67 :: u68 :: u69 :: u70 :: u71 :: u72 :: u73 :: u74 :: u75 :: u76 :: u77 :: u78 :: u79 :: u80 :: u81 :: u82 :: u83 :: u84 :: u85 :: u86 :: u87 :: u88 :: u89 :: u90 :: u91 :: u92 :: u93 :: u94 :: u95 :: u96 :: u97 :: u98 :: u99 :: u100 :: u101 :: u102 :: u103 :: u104 :: u105 :: u106 :: u107 :: u108 :: u109 :: u110 :: u111 :: u112 :: u113 :: u114 :: u115 :: u116 :: u117 :: u118 :: u119 :: u120 :: u121 :: u122 :: u123 :: u124 :: u125 :: u126 :: u127 :: u128 :: u129 :: u130 :: u131 :: u132 :: u133 :: u134 :: u135 :: u136 :: u137 :: u138 :: u139 :: u140 :: u141 :: u142 :: u143 :: u144 :: u145 :: u146 :: u147 :: u148 :: u149 :: u150 :: u151 :: u152 :: u153 :: u154 :: u155 :: u156 :: u157 :: u158 :: u159 :: u160 :: u161 :: u162 :: u163 :: u164 :: u165 :: u166 :: u167 :: u168 :: u169 :: u170 :: u171 :: u172 :: u173 :: u174 :: u175 :: u176 :: u177 :: u178 :: []), []⟩ W := by
  have hmf : ∀ (fn : Fn) (first cap : Array Value) (w : World), (Instr.makeFunc fn first cap).run Try.prog w = .ok (.func fn first cap) w := fun _ _ _ _ => rfl
  have HA := Lib.hid hA
  have HB := Lib.hid hB
  have H4 := Lib.hid h4
  have H5 := Lib.hid h5
  have HK := Lib.hid K
  have la := hA.lt
  have lb := hB.lt
  have l5 : w.heap.size + 1 + 1 + 1 < W.heap.size := by obtain ⟨z, hz⟩ := h5; exact hz.lt
  obtain ⟨a0, a1, a2, a3, a4, a5, a6, a7⟩ := row_cells hA
  obtain ⟨b0, b1, b2, b3, b4, b5, b6, b7⟩ := row_cells hB
  clear hA hB h4 h5 K
  conv => arg 2; whnf
  go_upto_region 33 with fail
  go_cut [22, 23] (fun p q W' => TwoRows a b W p q W')
  case first =>
    go_region
    all_goals
      go_wp2_with fail
      go_meet
      first
        | (have h := two_rows1 a b W; simp at h ⊢; exact h)
        | (have h := two_rows2 a b W; simp at h ⊢; exact h)
        | exact two_rows1 a b W
        | exact two_rows2 a b W
  case rest =>
    obtain ⟨bx, bz, rfl, rfl, hne, hx6, hy6, lx, lz, hb6⟩ := hcut
    have hz6 := hb6.size
    have hw6 : wc.cell? ⟨gw, 0, none⟩ = some (.int .i64 way) := (hb6.cell (p := ⟨gw, 0, none⟩) hg2).trans hw
    clear a0 a1 a2 a3 a4 a5 a6 a7 b0 b1 b2 b3 b4 b5 b6 b7
    go_upto_block 0 with fail
    go_cut [] (fun W' => Blk W' bx 27 (rowC (moveA ac a (-GA) way (-J))) ∧ Blk W' bz 27 (rowC (moveA ac b GB way J)) ∧ Below W.heap.size W W')
    case first =>
     cases ac
     · skip
       go_wp2_with fail
       refine (moveY_calls a _ bx gw (-GA) way (-J) hx6 hw6 (by omega) (by rcases hway with rfl | rfl <;> omega)).mono ?_
       rintro e w7 ⟨rfl, hx7, hc7, hf7, hz7, hb7, hg7⟩
       have hb7' := hb7 W.heap.size (by omega)
       have hy7 : Blk w7 bz 27 (rowC b) := (hg7 bz (by omega)).trans hy6
       have hw7 : w7.cell? ⟨gw, 0, none⟩ = some (.int .i64 way) := by rw [hc7 _ _ (by omega)]; exact hw6
       go_wp2_with fail
       refine (moveY_calls b _ bz gw GB way J hy7 hw7 (by omega) (by rcases hway with rfl | rfl <;> omega)).mono ?_
       rintro e w8 ⟨rfl, hy8, hc8, hf8, hz8, hb8, hg8⟩
       have hb8' := hb8 W.heap.size (by omega)
       have hx8 := (hg8 bx (by omega)).trans hx7
       have FIN := Lib.hid (⟨hx8, hy8, (hb6.trans (hb7'.mono (by omega))).trans (hb8'.mono (by omega))⟩ : Blk w8 bx 27 (rowC (moveA false a (-GA) way (-J))) ∧ Blk w8 bz 27 (rowC (moveA false b GB way J)) ∧ Below W.heap.size W w8)
       clear hb8' hb7' hb7 hb8 hg7 hg8 hy7 hw7 hx8 hx7 hy8
       go_wp2_with fail
       go_meet
       exact FIN.out
     · skip
       go_wp2_with fail
       refine (moveX_calls a _ bx gw (-GA) way (-J) hx6 hw6 (by omega) (by rcases hway with rfl | rfl <;> omega)).mono ?_
       rintro e w7 ⟨rfl, hx7, hc7, hf7, hz7, hb7, hg7⟩
       have hb7' := hb7 W.heap.size (by omega)
       have hy7 : Blk w7 bz 27 (rowC b) := (hg7 bz (by omega)).trans hy6
       have hw7 : w7.cell? ⟨gw, 0, none⟩ = some (.int .i64 way) := by rw [hc7 _ _ (by omega)]; exact hw6
       go_wp2_with fail
       refine (moveX_calls b _ bz gw GB way J hy7 hw7 (by omega) (by rcases hway with rfl | rfl <;> omega)).mono ?_
       rintro e w8 ⟨rfl, hy8, hc8, hf8, hz8, hb8, hg8⟩
       have hb8' := hb8 W.heap.size (by omega)
       have hx8 := (hg8 bx (by omega)).trans hx7
       have FIN := Lib.hid (⟨hx8, hy8, (hb6.trans (hb7'.mono (by omega))).trans (hb8'.mono (by omega))⟩ : Blk w8 bx 27 (rowC (moveA true a (-GA) way (-J))) ∧ Blk w8 bz 27 (rowC (moveA true b GB way J)) ∧ Below W.heap.size W w8)
       clear hb8' hb7' hb7 hb8 hg7 hg8 hy7 hw7 hx8 hx7 hy8
       go_wp2_with fail
       go_meet
       exact FIN.out
    case rest =>
      obtain ⟨hx8, hy8, hb8⟩ := hcut
      refine (show ∀ (a : Act) (w : World), Code.wp _ _ _ a w → (_ : Act → World → Prop) a w by assumption) _ _ ?_
      exact rmeet_end _ _ _ _ _ _ _ _ _ _ _ _ _ _ _ _ _ _ _ _ _ _ _ _ _ _ _ _ _ _ _ _ _ _ _ _ _ _ _ _ _ _ _ _ _ _ _ _ _ _ _ _ _ _ _ _ _ _ _ _ _ _ _ _ _ _ _ _ _ _ _ _ _ _ _ _ _ _ _ _ _ _ _ _ _ _ _ _ _ _ _ _ _ _ _ _ _ _ _ _ _ _ _ _ _ _ _ _ _ _ _ _ _ _ _ _ _ _ _ _ _ _ _ _ _ _ _ _ _ _ _ _ _ _ _ _ _ _ _ _ _ _ _ _ _ _ _ _ _ _ _ _ _ _ _ _ _ _ _ _ _ _ _ _ _ _ _ _ _ _ _ _ _ (HA.out.below hb8 la) (HB.out.below hb8 lb) (by obtain ⟨z, hz⟩ := H4.out; exact ⟨z, hz.below hb8 hz.lt⟩) (by obtain ⟨z, hz⟩ := H5.out; exact ⟨z, hz.below hb8 hz.lt⟩) (HK.out.trans (hb8.mono (by have := HK.out.size; omega))) hx8 hy8 (by omega) (by omega) hne
end Go.Proofs.Ytkpecagkpjabdaa
