/- The document's MeetRows behind the moving: who is fixed is put back, and the results. Condition: numbers of 64 bits. -/
import Derived.Test.YtkpecagkpjabdaaRefMeet
import Derived.Test.YtkpecagkpjabdaaRefMove
import Derived.Test.YtkpecagkpjabdaaRowCells
import Derived.Deep.DeepCutAuto
import Derived.Deep.CutBlock
namespace Go.Proofs.Ytkpecagkpjabdaa
open Go.RowKit
set_option linter.unusedVariables false
set_option linter.unusedSimpArgs false
set_option maxRecDepth 100000
/-- the n last statements of a body left out ahead -/
def dropC : Nat → Code → Code
  | 0, c => c
  | n + 1, .seq _ b => dropC n b
  | _ + 1, c => c
noncomputable def tailC (n : Nat) : Code := dropC n (Try.f25.body.getD .skip)
def backA (a ra : M.Row) : M.Row := if a.M = 0 then a else ra
set_option maxHeartbeats 8000000 in
set_option maxRecDepth 100000 in
theorem rmeet_end00 {a b ra rb : M.Row} {w W : World} {bx bz : Nat} (u0 u1 u6 u7 u8 u9 u10 u11 u12 u13 u14 u15 u16 u17 u18 u19 u20 u21 u24 u25 u26 u27 u28 u29 u30 u31 u32 u33 u34 u35 u36 u37 u38 u39 u40 u41 u42 u43 u44 u45 u46 u47 u48 u49 u50 u51 u52 u53 u54 u55 u56 u57 u58 u59 u60 u61 u62 u63 u64 u65 u66 u67 u68 u69 u70 u71 u72 u73 u74 u75 u76 u77 u78 u79 u80 u81 u82 u83 u84 u85 u86 u87 u88 u89 u90 u91 u92 u93 u94 u95 u96 u97 u98 u99 u100 u101 u102 u103 u104 u105 u106 u107 u108 u109 u110 u111 u112 u113 u114 u115 u116 u117 u118 u119 u120 u121 u122 u123 u124 u125 u126 u127 u128 u129 u130 u131 u132 u133 u134 u135 u136 u137 u138 u139 u140 u141 u142 u143 u144 u145 u146 u147 u148 u149 u150 u151 u152 u153 u154 u155 u156 u157 u158 u159 u160 u161 u162 u163 u164 u165 u166 u167 u168 u169 u170 u171 u172 u173 u174 u175 u176 u177 u178 : Value) (hA : Blk W w.heap.size 27 (rowC a)) (hB : Blk W (w.heap.size + 1) 27 (rowC b)) (h4 : ∃ z, Blk W (w.heap.size + 1 + 1) 27 (rowC z)) (h5 : ∃ z, Blk W (w.heap.size + 1 + 1 + 1) 27 (rowC z)) (K : Below w.heap.size w W)
    (hx : Blk W bx 27 (rowC ra)) (hz : Blk W bz 27 (rowC rb)) (lx : w.heap.size + 1 + 1 + 1 < bx) (lz : w.heap.size + 1 + 1 + 1 < bz) (hne : bx ≠ bz) (ca : ¬ a.M = 0) (cb : ¬ b.M = 0) :
    Code.wp Try.prog (tailC 22) (bodyPost Try.prog Try.f25 fun e w' => e = .returned (.tuple #[rowV ra, rowV rb, .bool true]) ∧ Below w.heap.size w w') ⟨List.toArray (u0 :: u1 :: .pointer (some ⟨w.heap.size, 0, none⟩) :: .pointer (some ⟨w.heap.size + 1, 0, none⟩) :: .pointer (some ⟨w.heap.size + 1 + 1, 0, none⟩) :: .pointer (some ⟨w.heap.size + 1 + 1 + 1, 0, none⟩) :: u6 :: u7 :: u8 :: u9 :: u10 :: u11 :: u12 :: u13 :: u14 :: u15 :: u16 :: u17 :: u18 :: u19 :: u20 :: u21 :: .pointer (some ⟨bx, 0, none⟩) :: .pointer (some ⟨bz, 0, none⟩) :: u24 :: u25 :: u26 :: u27 :: u28 :: u29 :: u30 :: u31 :: u32 :: u33 :: u34 :: u35 :: u36 :: u37 :: u38 :: u39 :: u40 :: u41 :: u42 :: u43 :: u44 :: u45 :: u46 :: u47 :: u48 :: u49 :: u50 :: u51 :: u52 :: u53 :: u54 :: u55 :: u56 :: u57 :: u58 :: u59 :: u60 :: u61 :: u62 :: u63 :: u64 :: u65 :: u66 :: u67 :: u68 :: u69 :: u70 :: u71 :: u72 :: u73 :: u74 :: u75 :: u76 :: u77 :: u78 :: u79 :: u80 :: u81 :: u82 :: u83 :: u84 :: u85 :: u86 :: u87 :: u88 :: u89 :: u90 :: u91 :: u92 :: u93 :: u94 :: u95 :: u96 :: u97 :: u98 :: u99 :: u100 :: u101 :: u102 :: u103 :: u104 :: u105 :: u106 :: u107 :: u108 :: u109 :: u110 :: u111 :: u112 :: u113 :: u114 :: u115 :: u116 :: u117 :: u118 :: u119 :: u120 :: u121 :: u122 :: u123 :: u124 :: u125 :: u126 :: u127 :: u128 :: u129 :: u130 :: u131 :: u132 :: u133 :: u134 :: u135 :: u136 :: u137 :: u138 :: u139 :: u140 :: u141 :: u142 :: u143 :: u144 :: u145 :: u146 :: u147 :: u148 :: u149 :: u150 :: u151 :: u152 :: u153 :: u154 :: u155 :: u156 :: u157 :: u158 :: u159 :: u160 :: u161 :: u162 :: u163 :: u164 :: u165 :: u166 :: u167 :: u168 :: u169 :: u170 :: u171 :: u172 :: u173 :: u174 :: u175 :: u176 :: u177 :: u178 :: []), []⟩ W := by
  have q1 : (a.M == 0) = false := by simp [ca]
  have q2 : (b.M == 0) = false := by simp [cb]
  obtain ⟨a0, a1, a2, a3, a4, a5, a6, a7⟩ := row_cells hA
  obtain ⟨b0, b1, b2, b3, b4, b5, b6, b7⟩ := row_cells hB
  obtain ⟨x0, x1, x2, x3, x4, x5, x6, x7⟩ := row_cells hx
  obtain ⟨y0, y1, y2, y3, y4, y5, y6, y7⟩ := row_cells hz
  obtain ⟨z4, h4⟩ := h4
  obtain ⟨z5, h5⟩ := h5
  obtain ⟨c0, c1, c2, c3, c4, c5, c6, c7⟩ := row_cells h4
  obtain ⟨d0, d1, d2, d3, d4, d5, d6, d7⟩ := row_cells h5
  have xf := fun i => hx.free i
  have yf := fun i => hz.free i
  have cf := fun i => h4.free i
  have df := fun i => h5.free i
  have n1 : w.heap.size ≠ bx := by omega
  have n2 : w.heap.size ≠ bz := by omega
  have n3 : w.heap.size + 1 ≠ bx := by omega
  have n4 : w.heap.size + 1 ≠ bz := by omega
  have n5 : w.heap.size + 1 + 1 ≠ bx := by omega
  have n6 : w.heap.size + 1 + 1 ≠ bz := by omega
  have n7 : w.heap.size + 1 + 1 + 1 ≠ bx := by omega
  have n8 : w.heap.size + 1 + 1 + 1 ≠ bz := by omega
  have HK := Lib.hid K
  clear hA hB hx hz h4 h5 K ca cb
  conv => arg 2; whnf
  go_wp2_with fail
  go_region
  all_goals
    go_wp2_with fail
    refine bodyPost_ret (v := .tuple #[rowV ra, rowV rb, .bool true]) ?_ rfl ⟨rfl, ?_⟩
    · simp only [results, Try.results25]
      go_simp
    · have k := HK.out
      repeat first | with_reducible exact k | with_reducible apply Below.drew | with_reducible apply Below.setCell (hp := (by first | omega | (simp; done) | (simp; omega)))
set_option maxHeartbeats 8000000 in
set_option maxRecDepth 100000 in
theorem rmeet_end01 {a b ra rb : M.Row} {w W : World} {bx bz : Nat} (u0 u1 u6 u7 u8 u9 u10 u11 u12 u13 u14 u15 u16 u17 u18 u19 u20 u21 u24 u25 u26 u27 u28 u29 u30 u31 u32 u33 u34 u35 u36 u37 u38 u39 u40 u41 u42 u43 u44 u45 u46 u47 u48 u49 u50 u51 u52 u53 u54 u55 u56 u57 u58 u59 u60 u61 u62 u63 u64 u65 u66 u67 u68 u69 u70 u71 u72 u73 u74 u75 u76 u77 u78 u79 u80 u81 u82 u83 u84 u85 u86 u87 u88 u89 u90 u91 u92 u93 u94 u95 u96 u97 u98 u99 u100 u101 u102 u103 u104 u105 u106 u107 u108 u109 u110 u111 u112 u113 u114 u115 u116 u117 u118 u119 u120 u121 u122 u123 u124 u125 u126 u127 u128 u129 u130 u131 u132 u133 u134 u135 u136 u137 u138 u139 u140 u141 u142 u143 u144 u145 u146 u147 u148 u149 u150 u151 u152 u153 u154 u155 u156 u157 u158 u159 u160 u161 u162 u163 u164 u165 u166 u167 u168 u169 u170 u171 u172 u173 u174 u175 u176 u177 u178 : Value) (hA : Blk W w.heap.size 27 (rowC a)) (hB : Blk W (w.heap.size + 1) 27 (rowC b)) (h4 : ∃ z, Blk W (w.heap.size + 1 + 1) 27 (rowC z)) (h5 : ∃ z, Blk W (w.heap.size + 1 + 1 + 1) 27 (rowC z)) (K : Below w.heap.size w W)
    (hx : Blk W bx 27 (rowC ra)) (hz : Blk W bz 27 (rowC rb)) (lx : w.heap.size + 1 + 1 + 1 < bx) (lz : w.heap.size + 1 + 1 + 1 < bz) (hne : bx ≠ bz) (ca : ¬ a.M = 0) (cb : b.M = 0) :
    Code.wp Try.prog (tailC 22) (bodyPost Try.prog Try.f25 fun e w' => e = .returned (.tuple #[rowV ra, rowV b, .bool true]) ∧ Below w.heap.size w w') ⟨List.toArray (u0 :: u1 :: .pointer (some ⟨w.heap.size, 0, none⟩) :: .pointer (some ⟨w.heap.size + 1, 0, none⟩) :: .pointer (some ⟨w.heap.size + 1 + 1, 0, none⟩) :: .pointer (some ⟨w.heap.size + 1 + 1 + 1, 0, none⟩) :: u6 :: u7 :: u8 :: u9 :: u10 :: u11 :: u12 :: u13 :: u14 :: u15 :: u16 :: u17 :: u18 :: u19 :: u20 :: u21 :: .pointer (some ⟨bx, 0, none⟩) :: .pointer (some ⟨bz, 0, none⟩) :: u24 :: u25 :: u26 :: u27 :: u28 :: u29 :: u30 :: u31 :: u32 :: u33 :: u34 :: u35 :: u36 :: u37 :: u38 :: u39 :: u40 :: u41 :: u42 :: u43 :: u44 :: u45 :: u46 :: u47 :: u48 :: u49 :: u50 :: u51 :: u52 :: u53 :: u54 :: u55 :: u56 :: u57 :: u58 :: u59 :: u60 :: u61 :: u62 :: u63 :: u64 :: u65 :: u66 :: u67 :: u68 :: u69 :: u70 :: u71 :: u72 :: u73 :: u74 :: u75 :: u76 :: u77 :: u78 :: u79 :: u80 :: u81 :: u82 :: u83 :: u84 :: u85 :: u86 :: u87 :: u88 :: u89 :: u90 :: u91 :: u92 :: u93 :: u94 :: u95 :: u96 :: u97 :: u98 :: u99 :: u100 :: u101 :: u102 :: u103 :: u104 :: u105 :: u106 :: u107 :: u108 :: u109 :: u110 :: u111 :: u112 :: u113 :: u114 :: u115 :: u116 :: u117 :: u118 :: u119 :: u120 :: u121 :: u122 :: u123 :: u124 :: u125 :: u126 :: u127 :: u128 :: u129 :: u130 :: u131 :: u132 :: u133 :: u134 :: u135 :: u136 :: u137 :: u138 :: u139 :: u140 :: u141 :: u142 :: u143 :: u144 :: u145 :: u146 :: u147 :: u148 :: u149 :: u150 :: u151 :: u152 :: u153 :: u154 :: u155 :: u156 :: u157 :: u158 :: u159 :: u160 :: u161 :: u162 :: u163 :: u164 :: u165 :: u166 :: u167 :: u168 :: u169 :: u170 :: u171 :: u172 :: u173 :: u174 :: u175 :: u176 :: u177 :: u178 :: []), []⟩ W := by
  have q1 : (a.M == 0) = false := by simp [ca]
  have q2 : (b.M == 0) = true := by simp [cb]
  obtain ⟨a0, a1, a2, a3, a4, a5, a6, a7⟩ := row_cells hA
  obtain ⟨b0, b1, b2, b3, b4, b5, b6, b7⟩ := row_cells hB
  obtain ⟨x0, x1, x2, x3, x4, x5, x6, x7⟩ := row_cells hx
  obtain ⟨y0, y1, y2, y3, y4, y5, y6, y7⟩ := row_cells hz
  obtain ⟨z4, h4⟩ := h4
  obtain ⟨z5, h5⟩ := h5
  obtain ⟨c0, c1, c2, c3, c4, c5, c6, c7⟩ := row_cells h4
  obtain ⟨d0, d1, d2, d3, d4, d5, d6, d7⟩ := row_cells h5
  have xf := fun i => hx.free i
  have yf := fun i => hz.free i
  have cf := fun i => h4.free i
  have df := fun i => h5.free i
  have n1 : w.heap.size ≠ bx := by omega
  have n2 : w.heap.size ≠ bz := by omega
  have n3 : w.heap.size + 1 ≠ bx := by omega
  have n4 : w.heap.size + 1 ≠ bz := by omega
  have n5 : w.heap.size + 1 + 1 ≠ bx := by omega
  have n6 : w.heap.size + 1 + 1 ≠ bz := by omega
  have n7 : w.heap.size + 1 + 1 + 1 ≠ bx := by omega
  have n8 : w.heap.size + 1 + 1 + 1 ≠ bz := by omega
  have HK := Lib.hid K
  clear hA hB hx hz h4 h5 K ca cb
  conv => arg 2; whnf
  go_wp2_with fail
  go_region
  all_goals
    go_wp2_with fail
    refine bodyPost_ret (v := .tuple #[rowV ra, rowV b, .bool true]) ?_ rfl ⟨rfl, ?_⟩
    · simp only [results, Try.results25]
      go_simp
    · have k := HK.out
      repeat first | with_reducible exact k | with_reducible apply Below.drew | with_reducible apply Below.setCell (hp := (by first | omega | (simp; done) | (simp; omega)))
set_option maxHeartbeats 8000000 in
set_option maxRecDepth 100000 in
theorem rmeet_end10 {a b ra rb : M.Row} {w W : World} {bx bz : Nat} (u0 u1 u6 u7 u8 u9 u10 u11 u12 u13 u14 u15 u16 u17 u18 u19 u20 u21 u24 u25 u26 u27 u28 u29 u30 u31 u32 u33 u34 u35 u36 u37 u38 u39 u40 u41 u42 u43 u44 u45 u46 u47 u48 u49 u50 u51 u52 u53 u54 u55 u56 u57 u58 u59 u60 u61 u62 u63 u64 u65 u66 u67 u68 u69 u70 u71 u72 u73 u74 u75 u76 u77 u78 u79 u80 u81 u82 u83 u84 u85 u86 u87 u88 u89 u90 u91 u92 u93 u94 u95 u96 u97 u98 u99 u100 u101 u102 u103 u104 u105 u106 u107 u108 u109 u110 u111 u112 u113 u114 u115 u116 u117 u118 u119 u120 u121 u122 u123 u124 u125 u126 u127 u128 u129 u130 u131 u132 u133 u134 u135 u136 u137 u138 u139 u140 u141 u142 u143 u144 u145 u146 u147 u148 u149 u150 u151 u152 u153 u154 u155 u156 u157 u158 u159 u160 u161 u162 u163 u164 u165 u166 u167 u168 u169 u170 u171 u172 u173 u174 u175 u176 u177 u178 : Value) (hA : Blk W w.heap.size 27 (rowC a)) (hB : Blk W (w.heap.size + 1) 27 (rowC b)) (h4 : ∃ z, Blk W (w.heap.size + 1 + 1) 27 (rowC z)) (h5 : ∃ z, Blk W (w.heap.size + 1 + 1 + 1) 27 (rowC z)) (K : Below w.heap.size w W)
    (hx : Blk W bx 27 (rowC ra)) (hz : Blk W bz 27 (rowC rb)) (lx : w.heap.size + 1 + 1 + 1 < bx) (lz : w.heap.size + 1 + 1 + 1 < bz) (hne : bx ≠ bz) (ca : a.M = 0) (cb : ¬ b.M = 0) :
    Code.wp Try.prog (tailC 22) (bodyPost Try.prog Try.f25 fun e w' => e = .returned (.tuple #[rowV a, rowV rb, .bool true]) ∧ Below w.heap.size w w') ⟨List.toArray (u0 :: u1 :: .pointer (some ⟨w.heap.size, 0, none⟩) :: .pointer (some ⟨w.heap.size + 1, 0, none⟩) :: .pointer (some ⟨w.heap.size + 1 + 1, 0, none⟩) :: .pointer (some ⟨w.heap.size + 1 + 1 + 1, 0, none⟩) :: u6 :: u7 :: u8 :: u9 :: u10 :: u11 :: u12 :: u13 :: u14 :: u15 :: u16 :: u17 :: u18 :: u19 :: u20 :: u21 :: .pointer (some ⟨bx, 0, none⟩) :: .pointer (some ⟨bz, 0, none⟩) :: u24 :: u25 :: u26 :: u27 :: u28 :: u29 :: u30 :: u31 :: u32 :: u33 :: u34 :: u35 :: u36 :: u37 :: u38 :: u39 :: u40 :: u41 :: u42 :: u43 :: u44 :: u45 :: u46 :: u47 :: u48 :: u49 :: u50 :: u51 :: u52 :: u53 :: u54 :: u55 :: u56 :: u57 :: u58 :: u59 :: u60 :: u61 :: u62 :: u63 :: u64 :: u65 :: u66 :: u67 :: u68 :: u69 :: u70 :: u71 :: u72 :: u73 :: u74 :: u75 :: u76 :: u77 :: u78 :: u79 :: u80 :: u81 :: u82 :: u83 :: u84 :: u85 :: u86 :: u87 :: u88 :: u89 :: u90 :: u91 :: u92 :: u93 :: u94 :: u95 :: u96 :: u97 :: u98 :: u99 :: u100 :: u101 :: u102 :: u103 :: u104 :: u105 :: u106 :: u107 :: u108 :: u109 :: u110 :: u111 :: u112 :: u113 :: u114 :: u115 :: u116 :: u117 :: u118 :: u119 :: u120 :: u121 :: u122 :: u123 :: u124 :: u125 :: u126 :: u127 :: u128 :: u129 :: u130 :: u131 :: u132 :: u133 :: u134 :: u135 :: u136 :: u137 :: u138 :: u139 :: u140 :: u141 :: u142 :: u143 :: u144 :: u145 :: u146 :: u147 :: u148 :: u149 :: u150 :: u151 :: u152 :: u153 :: u154 :: u155 :: u156 :: u157 :: u158 :: u159 :: u160 :: u161 :: u162 :: u163 :: u164 :: u165 :: u166 :: u167 :: u168 :: u169 :: u170 :: u171 :: u172 :: u173 :: u174 :: u175 :: u176 :: u177 :: u178 :: []), []⟩ W := by
  have q1 : (a.M == 0) = true := by simp [ca]
  have q2 : (b.M == 0) = false := by simp [cb]
  obtain ⟨a0, a1, a2, a3, a4, a5, a6, a7⟩ := row_cells hA
  obtain ⟨b0, b1, b2, b3, b4, b5, b6, b7⟩ := row_cells hB
  obtain ⟨x0, x1, x2, x3, x4, x5, x6, x7⟩ := row_cells hx
  obtain ⟨y0, y1, y2, y3, y4, y5, y6, y7⟩ := row_cells hz
  obtain ⟨z4, h4⟩ := h4
  obtain ⟨z5, h5⟩ := h5
  obtain ⟨c0, c1, c2, c3, c4, c5, c6, c7⟩ := row_cells h4
  obtain ⟨d0, d1, d2, d3, d4, d5, d6, d7⟩ := row_cells h5
  have xf := fun i => hx.free i
  have yf := fun i => hz.free i
  have cf := fun i => h4.free i
  have df := fun i => h5.free i
  have n1 : w.heap.size ≠ bx := by omega
  have n2 : w.heap.size ≠ bz := by omega
  have n3 : w.heap.size + 1 ≠ bx := by omega
  have n4 : w.heap.size + 1 ≠ bz := by omega
  have n5 : w.heap.size + 1 + 1 ≠ bx := by omega
  have n6 : w.heap.size + 1 + 1 ≠ bz := by omega
  have n7 : w.heap.size + 1 + 1 + 1 ≠ bx := by omega
  have n8 : w.heap.size + 1 + 1 + 1 ≠ bz := by omega
  have HK := Lib.hid K
  clear hA hB hx hz h4 h5 K ca cb
  conv => arg 2; whnf
  go_wp2_with fail
  go_region
  all_goals
    go_wp2_with fail
    refine bodyPost_ret (v := .tuple #[rowV a, rowV rb, .bool true]) ?_ rfl ⟨rfl, ?_⟩
    · simp only [results, Try.results25]
      go_simp
    · have k := HK.out
      repeat first | with_reducible exact k | with_reducible apply Below.drew | with_reducible apply Below.setCell (hp := (by first | omega | (simp; done) | (simp; omega)))
set_option maxHeartbeats 8000000 in
set_option maxRecDepth 100000 in
theorem rmeet_end11 {a b ra rb : M.Row} {w W : World} {bx bz : Nat} (u0 u1 u6 u7 u8 u9 u10 u11 u12 u13 u14 u15 u16 u17 u18 u19 u20 u21 u24 u25 u26 u27 u28 u29 u30 u31 u32 u33 u34 u35 u36 u37 u38 u39 u40 u41 u42 u43 u44 u45 u46 u47 u48 u49 u50 u51 u52 u53 u54 u55 u56 u57 u58 u59 u60 u61 u62 u63 u64 u65 u66 u67 u68 u69 u70 u71 u72 u73 u74 u75 u76 u77 u78 u79 u80 u81 u82 u83 u84 u85 u86 u87 u88 u89 u90 u91 u92 u93 u94 u95 u96 u97 u98 u99 u100 u101 u102 u103 u104 u105 u106 u107 u108 u109 u110 u111 u112 u113 u114 u115 u116 u117 u118 u119 u120 u121 u122 u123 u124 u125 u126 u127 u128 u129 u130 u131 u132 u133 u134 u135 u136 u137 u138 u139 u140 u141 u142 u143 u144 u145 u146 u147 u148 u149 u150 u151 u152 u153 u154 u155 u156 u157 u158 u159 u160 u161 u162 u163 u164 u165 u166 u167 u168 u169 u170 u171 u172 u173 u174 u175 u176 u177 u178 : Value) (hA : Blk W w.heap.size 27 (rowC a)) (hB : Blk W (w.heap.size + 1) 27 (rowC b)) (h4 : ∃ z, Blk W (w.heap.size + 1 + 1) 27 (rowC z)) (h5 : ∃ z, Blk W (w.heap.size + 1 + 1 + 1) 27 (rowC z)) (K : Below w.heap.size w W)
    (hx : Blk W bx 27 (rowC ra)) (hz : Blk W bz 27 (rowC rb)) (lx : w.heap.size + 1 + 1 + 1 < bx) (lz : w.heap.size + 1 + 1 + 1 < bz) (hne : bx ≠ bz) (ca : a.M = 0) (cb : b.M = 0) :
    Code.wp Try.prog (tailC 22) (bodyPost Try.prog Try.f25 fun e w' => e = .returned (.tuple #[rowV a, rowV b, .bool true]) ∧ Below w.heap.size w w') ⟨List.toArray (u0 :: u1 :: .pointer (some ⟨w.heap.size, 0, none⟩) :: .pointer (some ⟨w.heap.size + 1, 0, none⟩) :: .pointer (some ⟨w.heap.size + 1 + 1, 0, none⟩) :: .pointer (some ⟨w.heap.size + 1 + 1 + 1, 0, none⟩) :: u6 :: u7 :: u8 :: u9 :: u10 :: u11 :: u12 :: u13 :: u14 :: u15 :: u16 :: u17 :: u18 :: u19 :: u20 :: u21 :: .pointer (some ⟨bx, 0, none⟩) :: .pointer (some ⟨bz, 0, none⟩) :: u24 :: u25 :: u26 :: u27 :: u28 :: u29 :: u30 :: u31 :: u32 :: u33 :: u34 :: u35 :: u36 :: u37 :: u38 :: u39 :: u40 :: u41 :: u42 :: u43 :: u44 :: u45 :: u46 :: u47 :: u48 :: u49 :: u50 :: u51 :: u52 :: u53 :: u54 :: u55 :: u56 :: u57 :: u58 :: u59 :: u60 :: u61 :: u62 :: u63 :: u64 :: u65 :: u66 :: u67 :: u68 :: u69 :: u70 :: u71 :: u72 :: u73 :: u74 :: u75 :: u76 :: u77 :: u78 :: u79 :: u80 :: u81 :: u82 :: u83 :: u84 :: u85 :: u86 :: u87 :: u88 :: u89 :: u90 :: u91 :: u92 :: u93 :: u94 :: u95 :: u96 :: u97 :: u98 :: u99 :: u100 :: u101 :: u102 :: u103 :: u104 :: u105 :: u106 :: u107 :: u108 :: u109 :: u110 :: u111 :: u112 :: u113 :: u114 :: u115 :: u116 :: u117 :: u118 :: u119 :: u120 :: u121 :: u122 :: u123 :: u124 :: u125 :: u126 :: u127 :: u128 :: u129 :: u130 :: u131 :: u132 :: u133 :: u134 :: u135 :: u136 :: u137 :: u138 :: u139 :: u140 :: u141 :: u142 :: u143 :: u144 :: u145 :: u146 :: u147 :: u148 :: u149 :: u150 :: u151 :: u152 :: u153 :: u154 :: u155 :: u156 :: u157 :: u158 :: u159 :: u160 :: u161 :: u162 :: u163 :: u164 :: u165 :: u166 :: u167 :: u168 :: u169 :: u170 :: u171 :: u172 :: u173 :: u174 :: u175 :: u176 :: u177 :: u178 :: []), []⟩ W := by
  have q1 : (a.M == 0) = true := by simp [ca]
  have q2 : (b.M == 0) = true := by simp [cb]
  obtain ⟨a0, a1, a2, a3, a4, a5, a6, a7⟩ := row_cells hA
  obtain ⟨b0, b1, b2, b3, b4, b5, b6, b7⟩ := row_cells hB
  obtain ⟨x0, x1, x2, x3, x4, x5, x6, x7⟩ := row_cells hx
  obtain ⟨y0, y1, y2, y3, y4, y5, y6, y7⟩ := row_cells hz
  obtain ⟨z4, h4⟩ := h4
  obtain ⟨z5, h5⟩ := h5
  obtain ⟨c0, c1, c2, c3, c4, c5, c6, c7⟩ := row_cells h4
  obtain ⟨d0, d1, d2, d3, d4, d5, d6, d7⟩ := row_cells h5
  have xf := fun i => hx.free i
  have yf := fun i => hz.free i
  have cf := fun i => h4.free i
  have df := fun i => h5.free i
  have n1 : w.heap.size ≠ bx := by omega
  have n2 : w.heap.size ≠ bz := by omega
  have n3 : w.heap.size + 1 ≠ bx := by omega
  have n4 : w.heap.size + 1 ≠ bz := by omega
  have n5 : w.heap.size + 1 + 1 ≠ bx := by omega
  have n6 : w.heap.size + 1 + 1 ≠ bz := by omega
  have n7 : w.heap.size + 1 + 1 + 1 ≠ bx := by omega
  have n8 : w.heap.size + 1 + 1 + 1 ≠ bz := by omega
  have HK := Lib.hid K
  clear hA hB hx hz h4 h5 K ca cb
  conv => arg 2; whnf
  go_wp2_with fail
  go_region
  all_goals
    go_wp2_with fail
    refine bodyPost_ret (v := .tuple #[rowV a, rowV b, .bool true]) ?_ rfl ⟨rfl, ?_⟩
    · simp only [results, Try.results25]
      go_simp
    · have k := HK.out
      repeat first | with_reducible exact k | with_reducible apply Below.drew | with_reducible apply Below.setCell (hp := (by first | omega | (simp; done) | (simp; omega)))
theorem rmeet_end {a b ra rb : M.Row} {w W : World} {bx bz : Nat} (u0 u1 u6 u7 u8 u9 u10 u11 u12 u13 u14 u15 u16 u17 u18 u19 u20 u21 u24 u25 u26 u27 u28 u29 u30 u31 u32 u33 u34 u35 u36 u37 u38 u39 u40 u41 u42 u43 u44 u45 u46 u47 u48 u49 u50 u51 u52 u53 u54 u55 u56 u57 u58 u59 u60 u61 u62 u63 u64 u65 u66 u67 u68 u69 u70 u71 u72 u73 u74 u75 u76 u77 u78 u79 u80 u81 u82 u83 u84 u85 u86 u87 u88 u89 u90 u91 u92 u93 u94 u95 u96 u97 u98 u99 u100 u101 u102 u103 u104 u105 u106 u107 u108 u109 u110 u111 u112 u113 u114 u115 u116 u117 u118 u119 u120 u121 u122 u123 u124 u125 u126 u127 u128 u129 u130 u131 u132 u133 u134 u135 u136 u137 u138 u139 u140 u141 u142 u143 u144 u145 u146 u147 u148 u149 u150 u151 u152 u153 u154 u155 u156 u157 u158 u159 u160 u161 u162 u163 u164 u165 u166 u167 u168 u169 u170 u171 u172 u173 u174 u175 u176 u177 u178 : Value) (hA : Blk W w.heap.size 27 (rowC a)) (hB : Blk W (w.heap.size + 1) 27 (rowC b)) (h4 : ∃ z, Blk W (w.heap.size + 1 + 1) 27 (rowC z)) (h5 : ∃ z, Blk W (w.heap.size + 1 + 1 + 1) 27 (rowC z)) (K : Below w.heap.size w W)
    (hx : Blk W bx 27 (rowC ra)) (hz : Blk W bz 27 (rowC rb)) (lx : w.heap.size + 1 + 1 + 1 < bx) (lz : w.heap.size + 1 + 1 + 1 < bz) (hne : bx ≠ bz) :
    Code.wp Try.prog (tailC 22) (bodyPost Try.prog Try.f25 fun e w' => e = .returned (.tuple #[rowV (backA a ra), rowV (backA b rb), .bool true]) ∧ Below w.heap.size w w') ⟨List.toArray (u0 :: u1 :: .pointer (some ⟨w.heap.size, 0, none⟩) :: .pointer (some ⟨w.heap.size + 1, 0, none⟩) :: .pointer (some ⟨w.heap.size + 1 + 1, 0, none⟩) :: .pointer (some ⟨w.heap.size + 1 + 1 + 1, 0, none⟩) :: u6 :: u7 :: u8 :: u9 :: u10 :: u11 :: u12 :: u13 :: u14 :: u15 :: u16 :: u17 :: u18 :: u19 :: u20 :: u21 :: .pointer (some ⟨bx, 0, none⟩) :: .pointer (some ⟨bz, 0, none⟩) :: u24 :: u25 :: u26 :: u27 :: u28 :: u29 :: u30 :: u31 :: u32 :: u33 :: u34 :: u35 :: u36 :: u37 :: u38 :: u39 :: u40 :: u41 :: u42 :: u43 :: u44 :: u45 :: u46 :: u47 :: u48 :: u49 :: u50 :: u51 :: u52 :: u53 :: u54 :: u55 :: u56 :: u57 :: u58 :: u59 :: u60 :: u61 :: u62 :: u63 :: u64 :: u65 :: u66 :: u67 :: u68 :: u69 :: u70 :: u71 :: u72 :: u73 :: u74 :: u75 :: u76 :: u77 :: u78 :: u79 :: u80 :: u81 :: u82 :: u83 :: u84 :: u85 :: u86 :: u87 :: u88 :: u89 :: u90 :: u91 :: u92 :: u93 :: u94 :: u95 :: u96 :: u97 :: u98 :: u99 :: u100 :: u101 :: u102 :: u103 :: u104 :: u105 :: u106 :: u107 :: u108 :: u109 :: u110 :: u111 :: u112 :: u113 :: u114 :: u115 :: u116 :: u117 :: u118 :: u119 :: u120 :: u121 :: u122 :: u123 :: u124 :: u125 :: u126 :: u127 :: u128 :: u129 :: u130 :: u131 :: u132 :: u133 :: u134 :: u135 :: u136 :: u137 :: u138 :: u139 :: u140 :: u141 :: u142 :: u143 :: u144 :: u145 :: u146 :: u147 :: u148 :: u149 :: u150 :: u151 :: u152 :: u153 :: u154 :: u155 :: u156 :: u157 :: u158 :: u159 :: u160 :: u161 :: u162 :: u163 :: u164 :: u165 :: u166 :: u167 :: u168 :: u169 :: u170 :: u171 :: u172 :: u173 :: u174 :: u175 :: u176 :: u177 :: u178 :: []), []⟩ W := by
  unfold backA
  by_cases ca : a.M = 0 <;> by_cases cb : b.M = 0
  · rw [if_pos ca, if_pos cb]; exact rmeet_end11 u0 u1 u6 u7 u8 u9 u10 u11 u12 u13 u14 u15 u16 u17 u18 u19 u20 u21 u24 u25 u26 u27 u28 u29 u30 u31 u32 u33 u34 u35 u36 u37 u38 u39 u40 u41 u42 u43 u44 u45 u46 u47 u48 u49 u50 u51 u52 u53 u54 u55 u56 u57 u58 u59 u60 u61 u62 u63 u64 u65 u66 u67 u68 u69 u70 u71 u72 u73 u74 u75 u76 u77 u78 u79 u80 u81 u82 u83 u84 u85 u86 u87 u88 u89 u90 u91 u92 u93 u94 u95 u96 u97 u98 u99 u100 u101 u102 u103 u104 u105 u106 u107 u108 u109 u110 u111 u112 u113 u114 u115 u116 u117 u118 u119 u120 u121 u122 u123 u124 u125 u126 u127 u128 u129 u130 u131 u132 u133 u134 u135 u136 u137 u138 u139 u140 u141 u142 u143 u144 u145 u146 u147 u148 u149 u150 u151 u152 u153 u154 u155 u156 u157 u158 u159 u160 u161 u162 u163 u164 u165 u166 u167 u168 u169 u170 u171 u172 u173 u174 u175 u176 u177 u178 hA hB h4 h5 K hx hz lx lz hne ca cb
  · rw [if_pos ca, if_neg cb]; exact rmeet_end10 u0 u1 u6 u7 u8 u9 u10 u11 u12 u13 u14 u15 u16 u17 u18 u19 u20 u21 u24 u25 u26 u27 u28 u29 u30 u31 u32 u33 u34 u35 u36 u37 u38 u39 u40 u41 u42 u43 u44 u45 u46 u47 u48 u49 u50 u51 u52 u53 u54 u55 u56 u57 u58 u59 u60 u61 u62 u63 u64 u65 u66 u67 u68 u69 u70 u71 u72 u73 u74 u75 u76 u77 u78 u79 u80 u81 u82 u83 u84 u85 u86 u87 u88 u89 u90 u91 u92 u93 u94 u95 u96 u97 u98 u99 u100 u101 u102 u103 u104 u105 u106 u107 u108 u109 u110 u111 u112 u113 u114 u115 u116 u117 u118 u119 u120 u121 u122 u123 u124 u125 u126 u127 u128 u129 u130 u131 u132 u133 u134 u135 u136 u137 u138 u139 u140 u141 u142 u143 u144 u145 u146 u147 u148 u149 u150 u151 u152 u153 u154 u155 u156 u157 u158 u159 u160 u161 u162 u163 u164 u165 u166 u167 u168 u169 u170 u171 u172 u173 u174 u175 u176 u177 u178 hA hB h4 h5 K hx hz lx lz hne ca cb
  · rw [if_neg ca, if_pos cb]; exact rmeet_end01 u0 u1 u6 u7 u8 u9 u10 u11 u12 u13 u14 u15 u16 u17 u18 u19 u20 u21 u24 u25 u26 u27 u28 u29 u30 u31 u32 u33 u34 u35 u36 u37 u38 u39 u40 u41 u42 u43 u44 u45 u46 u47 u48 u49 u50 u51 u52 u53 u54 u55 u56 u57 u58 u59 u60 u61 u62 u63 u64 u65 u66 u67 u68 u69 u70 u71 u72 u73 u74 u75 u76 u77 u78 u79 u80 u81 u82 u83 u84 u85 u86 u87 u88 u89 u90 u91 u92 u93 u94 u95 u96 u97 u98 u99 u100 u101 u102 u103 u104 u105 u106 u107 u108 u109 u110 u111 u112 u113 u114 u115 u116 u117 u118 u119 u120 u121 u122 u123 u124 u125 u126 u127 u128 u129 u130 u131 u132 u133 u134 u135 u136 u137 u138 u139 u140 u141 u142 u143 u144 u145 u146 u147 u148 u149 u150 u151 u152 u153 u154 u155 u156 u157 u158 u159 u160 u161 u162 u163 u164 u165 u166 u167 u168 u169 u170 u171 u172 u173 u174 u175 u176 u177 u178 hA hB h4 h5 K hx hz lx lz hne ca cb
  · rw [if_neg ca, if_neg cb]; exact rmeet_end00 u0 u1 u6 u7 u8 u9 u10 u11 u12 u13 u14 u15 u16 u17 u18 u19 u20 u21 u24 u25 u26 u27 u28 u29 u30 u31 u32 u33 u34 u35 u36 u37 u38 u39 u40 u41 u42 u43 u44 u45 u46 u47 u48 u49 u50 u51 u52 u53 u54 u55 u56 u57 u58 u59 u60 u61 u62 u63 u64 u65 u66 u67 u68 u69 u70 u71 u72 u73 u74 u75 u76 u77 u78 u79 u80 u81 u82 u83 u84 u85 u86 u87 u88 u89 u90 u91 u92 u93 u94 u95 u96 u97 u98 u99 u100 u101 u102 u103 u104 u105 u106 u107 u108 u109 u110 u111 u112 u113 u114 u115 u116 u117 u118 u119 u120 u121 u122 u123 u124 u125 u126 u127 u128 u129 u130 u131 u132 u133 u134 u135 u136 u137 u138 u139 u140 u141 u142 u143 u144 u145 u146 u147 u148 u149 u150 u151 u152 u153 u154 u155 u156 u157 u158 u159 u160 u161 u162 u163 u164 u165 u166 u167 u168 u169 u170 u171 u172 u173 u174 u175 u176 u177 u178 hA hB h4 h5 K hx hz lx lz hne ca cb
end Go.Proofs.Ytkpecagkpjabdaa
