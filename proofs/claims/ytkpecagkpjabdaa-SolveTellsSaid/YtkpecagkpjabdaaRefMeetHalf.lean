/- The document's MeetRows: how the way is parted. Condition: numbers of 64 bits. -/
import Derived.Test.YtkpecagkpjabdaaRefMeetMid
namespace Go.Proofs.Ytkpecagkpjabdaa
open Go.RowKit
set_option linter.unusedVariables false
set_option linter.unusedSimpArgs false
set_option maxRecDepth 100000
def NumB (J : Int) (W0 : World) (j : Value) (W : World) : Prop := j = .int .i64 J ∧ W = W0
def halfB (d bM : Int) : Int := if bM ≤ 0 then d else d / 2
theorem val_intB {a b : Int} (h : a = b) : Value.int .i64 a = Value.int .i64 b := by rw [h]
set_option maxHeartbeats 20000000 in
set_option maxRecDepth 100000 in
theorem rmeet_half {a b : M.Row} {w W : World} {gw : Nat} {way J d : Int} {ac : Bool} (u0 u1 u6 u7 u8 u9 u10 u11 u12 u15 u18 u19 u20 u21 u22 u23 u24 u25 u26 u27 u28 u29 u30 u31 u32 u33 u34 u35 u36 u37 u38 u39 u40 u41 u42 u43 u44 u45 u46 u47 u48 u49 u50 u51 u52 u53 u54 u55 u56 u57 u58 u59 u60 u61 u62 u63 u64 u65 u66 u67 u68 u69 u70 u71 u72 u73 u74 u75 u76 u77 u78 u79 u80 u81 u82 u83 u84 u85 u86 u87 u88 u89 u90 u91 u92 u93 u94 u95 u96 u97 u98 u99 u100 u101 u102 u103 u104 u105 u106 u107 u108 u109 u110 u111 u112 u113 u114 u115 u116 u117 u118 u119 u120 u121 u122 u123 u124 u125 u126 u127 u128 u129 u130 u131 u132 u133 u134 u135 u136 u137 u138 u139 u140 u141 u142 u143 u144 u145 u146 u147 u148 u149 u150 u151 u152 u153 u154 u155 u156 u157 u158 u159 u160 u161 u162 u163 u164 u165 u166 u167 u168 u169 u170 u171 u172 u173 u174 u175 u176 u177 u178 : Value) (hA : Blk W w.heap.size 27 (rowC a)) (hB : Blk W (w.heap.size + 1) 27 (rowC b)) (h4 : ∃ z, Blk W (w.heap.size + 1 + 1) 27 (rowC z)) (h5 : ∃ z, Blk W (w.heap.size + 1 + 1 + 1) 27 (rowC z)) (K : Below w.heap.size w W) (hw : W.cell? ⟨gw, 0, none⟩ = some (.int .i64 way)) (hg1 : w.heap.size + 1 + 1 + 1 < gw) (hg2 : gw < W.heap.size)
    (hd : 1 ≤ d ∧ d ≤ 8192) (ha0 : 0 ≤ a.M) (hb0 : 0 ≤ b.M) (hab : 0 < a.M + b.M) (hway : way = 1 ∨ way = -1) (hj : -72057594037927936 ≤ J ∧ J ≤ 72057594037927936) :
    Code.wp Try.prog (tailC 14) (bodyPost Try.prog Try.f25 fun e w' => e = .returned (.tuple #[rowV (backA a (moveA ac a (-M.halfOf d a.M b.M) way (-J))), rowV (backA b (moveA ac b (d - M.halfOf d a.M b.M) way J)), .bool true]) ∧ Below w.heap.size w w') ⟨List.toArray (u0 :: u1 :: .pointer (some ⟨w.heap.size, 0, none⟩) :: .pointer (some ⟨w.heap.size + 1, 0, none⟩) :: .pointer (some ⟨w.heap.size + 1 + 1, 0, none⟩) :: .pointer (some ⟨w.heap.size + 1 + 1 + 1, 0, none⟩) :: u6 :: u7 :: u8 :: u9 :: u10 :: u11 :: u12 :: .bool ac :: .int .i64 d :: u15 :: .pointer (some ⟨gw, 0, none⟩) :: .int .i64 J :: u18 :: u19 :: u20 :: u21 :: u22 :: u23 :: u24 :: u25 :: u26 :: u27 :: u28 :: u29 :: u30 :: u31 :: u32 :: u33 :: u34 :: u35 :: u36 :: u37 :: u38 :: u39 :: u40 :: u41 :: u42 :: u43 :: u44 :: u45 :: u46 :: u47 :: u48 :: u49 :: u50 :: u51 :: u52 :: u53 :: u54 :: u55 :: u56 :: u57 :: u58 :: u59 :: u60 :: u61 :: u62 :: u63 :: u64 :: u65 :: u66 :: u67 :: u68 :: u69 :: u70 :: u71 :: u72 :: u73 :: u74 :: u75 :: u76 :: u77 :: u78 :: u79 :: u80 :: u81 :: u82 :: u83 :: u84 :: u85 :: u86 :: u87 :: u88 :: u89 :: u90 :: u91 :: u92 :: u93 :: u94 :: u95 :: u96 :: u97 :: u98 :: u99 :: u100 :: u101 :: u102 :: u103 :: u104 :: u105 :: u106 :: u107 :: u108 :: u109 :: u110 :: u111 :: u112 :: u113 :: u114 :: u115 :: u116 :: u117 :: u118 :: u119 :: u120 :: u121 :: u122 :: u123 :: u124 :: u125 :: u126 :: u127 :: u128 :: u129 :: u130 :: u131 :: u132 :: u133 :: u134 :: u135 :: u136 :: u137 :: u138 :: u139 :: u140 :: u141 :: u142 :: u143 :: u144 :: u145 :: u146 :: u147 :: u148 :: u149 :: u150 :: u151 :: u152 :: u153 :: u154 :: u155 :: u156 :: u157 :: u158 :: u159 :: u160 :: u161 :: u162 :: u163 :: u164 :: u165 :: u166 :: u167 :: u168 :: u169 :: u170 :: u171 :: u172 :: u173 :: u174 :: u175 :: u176 :: u177 :: u178 :: []), []⟩ W := by
  have HA := Lib.hid hA
  have HB := Lib.hid hB
  have H4 := Lib.hid h4
  have H5 := Lib.hid h5
  have HK := Lib.hid K
  obtain ⟨a0, a1, a2, a3, a4, a5, a6, a7⟩ := row_cells hA
  obtain ⟨b0, b1, b2, b3, b4, b5, b6, b7⟩ := row_cells hB
  clear hA hB h4 h5 K
  conv => arg 2; whnf
  go_upto_if 125 with fail
  go_cut [20] (fun j W' => NumB (halfB d b.M) W j W')
  case first =>
    by_cases c : b.M ≤ 0
    · have q : (b.M == 0) = true := by simp; omega
      go_wp2_with fail
      go_meet
      exact ⟨val_intB (by unfold halfB; rw [if_pos c]), rfl⟩
    · have q : (b.M == 0) = false := by simp; omega
      go_wp2_with fail
      go_meet
      exact ⟨val_intB (by unfold halfB; rw [if_neg (by omega)]), rfl⟩
  case rest =>
    obtain ⟨rfl, rfl⟩ := hcut
    go_upto_if 129 with fail
    go_cut [20] (fun j W' => NumB (M.halfOf d a.M b.M) wc j W')
    case first =>
      by_cases c : a.M ≤ 0
      · have q : (a.M == 0) = true := by simp; omega
        go_wp2_with fail
        go_meet
        exact ⟨val_intB (by unfold M.halfOf; (try unfold halfB); (repeat' split) <;> omega), rfl⟩
      · have q : (a.M == 0) = false := by simp; omega
        go_wp2_with fail
        go_meet
        exact ⟨val_intB (by unfold M.halfOf; (try unfold halfB); (repeat' split) <;> omega), rfl⟩
    case rest =>
      obtain ⟨rfl, rfl⟩ := hcut
      have hh : 0 ≤ M.halfOf d a.M b.M ∧ M.halfOf d a.M b.M ≤ d := by unfold M.halfOf; (repeat' split) <;> omega
      go_upto_if 135 with fail
      go_cut [21] (fun j W' => NumB (d - M.halfOf d a.M b.M) wc j W')
      case first =>
        by_cases c : b.M ≤ 0
        · have q : (b.M == 0) = true := by simp; omega
          go_wp2_with fail
          go_meet
          exact ⟨val_intB (by unfold M.halfOf; rw [if_pos (by omega)]; omega), rfl⟩
        · have q : (b.M == 0) = false := by simp; omega
          go_wp2_with fail
          go_meet
          exact ⟨rfl, rfl⟩
      case rest =>
        obtain ⟨rfl, rfl⟩ := hcut
        refine (show ∀ (a : Act) (w : World), Code.wp _ _ _ a w → (_ : Act → World → Prop) a w by assumption) _ _ ?_
        exact rmeet_mid _ _ _ _ _ _ _ _ _ _ _ _ _ _ _ _ _ _ _ _ _ _ _ _ _ _ _ _ _ _ _ _ _ _ _ _ _ _ _ _ _ _ _ _ _ _ _ _ _ _ _ _ _ _ _ _ _ _ _ _ _ _ _ _ _ _ _ _ _ _ _ _ _ _ _ _ _ _ _ _ _ _ _ _ _ _ _ _ _ _ _ _ _ _ _ _ _ _ _ _ _ _ _ _ _ _ _ _ _ _ _ _ _ _ _ _ _ _ _ _ _ _ _ _ _ _ _ _ _ _ _ _ _ _ _ _ _ _ _ _ _ _ _ _ _ _ _ _ _ _ _ _ _ _ _ _ _ _ _ _ _ _ _ _ _ _ _ _ _ _ HA.out HB.out H4.out H5.out HK.out hw hg1 hg2 (by omega) (by omega) hway hj
end Go.Proofs.Ytkpecagkpjabdaa
