/- Several small texts in one. No condition of its own: each part says its own. -/
import Derived.Test.YtemkbjaojinaoaaGreatShort
import Derived.Test.YtemkbjaojinaoaaGreatRefMeet
import Derived.Test.YtemkbjaojinaoaaGreatBagM2
import Derived.Test.YtemkbjaojinaoaaGreatRowCells
import Derived.Deep.DeepCutAuto
import Derived.Deep.CutBlock
set_option linter.unusedVariables false
set_option linter.unusedSimpArgs false
set_option maxRecDepth 100000
set_option maxHeartbeats 60000000
namespace Go.Proofs.YtemkbjaojinaoaaGreat
open Go.RowKit
def dropC:Nat->Code->Code
 |0,c=>c
 |n+1,.seq _ b=>dropC n b
 |_+1,c=>c
noncomputable def tailC (n:Nat):Code:=dropC n (Tryz.f60.body.getD .skip)
def backA (a ra:M.Row):M.Row:=if a.M=0 then a else ra
section
variable {u0 u1 u6 u7 u8 u9 u10 u11 u12 u13 u14 u15 u16 u17 u18 u19 u20 u21 u24 u25 u26 u27 u28 u29 u30 u31 u32 u33 u34 u35 u36 u37 u38 u39 u40 u41 u42 u43 u44 u45 u46 u47 u48 u49 u50 u51 u52 u53 u54 u55 u56 u57 u58 u59 u60 u61 u62 u63 u64 u65 u66 u67 u68 u69 u70 u71 u72 u73 u74 u75 u76 u77 u78 u79 u80 u81 u82 u83 u84 u85 u86 u87 u88 u89 u90 u91 u92 u93 u94 u95 u96 u97 u98 u99 u100 u101 u102 u103 u104 u105 u106 u107 u108 u109 u110 u111 u112 u113 u114 u115 u116 u117 u118 u119 u120 u121 u122 u123 u124 u125 u126 u127 u128 u129 u130 u131 u132 u133 u134 u135 u136 u137 u138 u139 u140 u141 u142 u143 u144 u145 u146 u147 u148 u149 u150 u151 u152 u153 u154 u155 u156 u157 u158 u159 u160 u161 u162 u163 u164 u165 u166 u167 u168 u169 u170 u171 u172 u173 u174 u175 u176 u177 u178:Value}
theorem rmeet_end00 {a b ra rb:M.Row} {w W:World} {bx bz:Nat} (hA:Blk W w.heap.size 38 (rowC a)) (hB:Blk W (w.heap.size+1) 38 (rowC b)) (h4:∃z,Blk W (w.heap.size+1+1) 38 (rowC z)) (h5:∃z,Blk W (w.heap.size+1+1+1) 38 (rowC z)) (K:Below w.heap.size w W)
  (hx:Blk W bx 38 (rowC ra)) (hz:Blk W bz 38 (rowC rb)) (lx:w.heap.size+1+1+1<bx) (lz:w.heap.size+1+1+1<bz) (hne:bx≠bz) (ca:¬a.M=0) (cb:¬b.M=0):
  Code.wp Tryz.prog (tailC 22) (bodyPost Tryz.prog Tryz.f60 λe w'=>e=.returned (.tuple #[rowV ra,rowV rb,.bool true])/\Below w.heap.size w w') ⟨List.toArray (u0::u1::.pointer (some ⟨w.heap.size,0,none⟩)::.pointer (some ⟨w.heap.size+1,0,none⟩)::.pointer (some ⟨w.heap.size+1+1,0,none⟩)::.pointer (some ⟨w.heap.size+1+1+1,0,none⟩)::u6::u7::u8::u9::u10::u11::u12::u13::u14::u15::u16::u17::u18::u19::u20::u21::.pointer (some ⟨bx,0,none⟩)::.pointer (some ⟨bz,0,none⟩)::u24::u25::u26::u27::u28::u29::u30::u31::u32::u33::u34::u35::u36::u37::u38::u39::u40::u41::u42::u43::u44::u45::u46::u47::u48::u49::u50::u51::u52::u53::u54::u55::u56::u57::u58::u59::u60::u61::u62::u63::u64::u65::u66::u67::u68::u69::u70::u71::u72::u73::u74::u75::u76::u77::u78::u79::u80::u81::u82::u83::u84::u85::u86::u87::u88::u89::u90::u91::u92::u93::u94::u95::u96::u97::u98::u99::u100::u101::u102::u103::u104::u105::u106::u107::u108::u109::u110::u111::u112::u113::u114::u115::u116::u117::u118::u119::u120::u121::u122::u123::u124::u125::u126::u127::u128::u129::u130::u131::u132::u133::u134::u135::u136::u137::u138::u139::u140::u141::u142::u143::u144::u145::u146::u147::u148::u149::u150::u151::u152::u153::u154::u155::u156::u157::u158::u159::u160::u161::u162::u163::u164::u165::u166::u167::u168::u169::u170::u171::u172::u173::u174::u175::u176::u177::u178::[]),[]⟩ W:=by
 have q1:(a.M==0)=false:=by simp [ca]
 have q2:(b.M==0)=false:=by simp [cb]
 obtain ⟨a0,a1,a2,a3,a4,a5,a6,a7⟩:=row_cells hA
 obtain ⟨b0,b1,b2,b3,b4,b5,b6,b7⟩:=row_cells hB
 obtain ⟨x0,x1,x2,x3,x4,x5,x6,x7⟩:=row_cells hx
 obtain ⟨y0,y1,y2,y3,y4,y5,y6,y7⟩:=row_cells hz
 obtain ⟨z4,h4⟩:=h4
 obtain ⟨z5,h5⟩:=h5
 obtain ⟨c0,c1,c2,c3,c4,c5,c6,c7⟩:=row_cells h4
 obtain ⟨d0,d1,d2,d3,d4,d5,d6,d7⟩:=row_cells h5
 have xf:=λi=>hx.free i
 have yf:=λi=>hz.free i
 have cf:=λi=>h4.free i
 have df:=λi=>h5.free i
 have n1:w.heap.size≠bx:=by omega
 have n2:w.heap.size≠bz:=by omega
 have n3:w.heap.size+1≠bx:=by omega
 have n4:w.heap.size+1≠bz:=by omega
 have n5:w.heap.size+1+1≠bx:=by omega
 have n6:w.heap.size+1+1≠bz:=by omega
 have n7:w.heap.size+1+1+1≠bx:=by omega
 have n8:w.heap.size+1+1+1≠bz:=by omega
 have HK:=hI K
 clear hA hB hx hz h4 h5 K ca cb
 conv=>arg 2;whnf
 go_wp2_with fail
 go_region
 all_goals
  go_wp2_with fail
  refine bodyPost_ret (v:=.tuple #[rowV ra,rowV rb,.bool true]) ?_ rfl ⟨rfl,?_⟩
  ·simp only [results,Tryz.results60]
   go_simp
  ·have k:=HK.out
   repeat first|with_reducible exact k|with_reducible apply Below.drew|with_reducible apply Below.setCell (hp:=sid9)
theorem rmeet_end01 {a b ra rb:M.Row} {w W:World} {bx bz:Nat} (hA:Blk W w.heap.size 38 (rowC a)) (hB:Blk W (w.heap.size+1) 38 (rowC b)) (h4:∃z,Blk W (w.heap.size+1+1) 38 (rowC z)) (h5:∃z,Blk W (w.heap.size+1+1+1) 38 (rowC z)) (K:Below w.heap.size w W)
  (hx:Blk W bx 38 (rowC ra)) (hz:Blk W bz 38 (rowC rb)) (lx:w.heap.size+1+1+1<bx) (lz:w.heap.size+1+1+1<bz) (hne:bx≠bz) (ca:¬a.M=0) (cb:b.M=0):
  Code.wp Tryz.prog (tailC 22) (bodyPost Tryz.prog Tryz.f60 λe w'=>e=.returned (.tuple #[rowV ra,rowV b,.bool true])/\Below w.heap.size w w') ⟨List.toArray (u0::u1::.pointer (some ⟨w.heap.size,0,none⟩)::.pointer (some ⟨w.heap.size+1,0,none⟩)::.pointer (some ⟨w.heap.size+1+1,0,none⟩)::.pointer (some ⟨w.heap.size+1+1+1,0,none⟩)::u6::u7::u8::u9::u10::u11::u12::u13::u14::u15::u16::u17::u18::u19::u20::u21::.pointer (some ⟨bx,0,none⟩)::.pointer (some ⟨bz,0,none⟩)::u24::u25::u26::u27::u28::u29::u30::u31::u32::u33::u34::u35::u36::u37::u38::u39::u40::u41::u42::u43::u44::u45::u46::u47::u48::u49::u50::u51::u52::u53::u54::u55::u56::u57::u58::u59::u60::u61::u62::u63::u64::u65::u66::u67::u68::u69::u70::u71::u72::u73::u74::u75::u76::u77::u78::u79::u80::u81::u82::u83::u84::u85::u86::u87::u88::u89::u90::u91::u92::u93::u94::u95::u96::u97::u98::u99::u100::u101::u102::u103::u104::u105::u106::u107::u108::u109::u110::u111::u112::u113::u114::u115::u116::u117::u118::u119::u120::u121::u122::u123::u124::u125::u126::u127::u128::u129::u130::u131::u132::u133::u134::u135::u136::u137::u138::u139::u140::u141::u142::u143::u144::u145::u146::u147::u148::u149::u150::u151::u152::u153::u154::u155::u156::u157::u158::u159::u160::u161::u162::u163::u164::u165::u166::u167::u168::u169::u170::u171::u172::u173::u174::u175::u176::u177::u178::[]),[]⟩ W:=by
 have q1:(a.M==0)=false:=by simp [ca]
 have q2:(b.M==0)=true:=by simp [cb]
 obtain ⟨a0,a1,a2,a3,a4,a5,a6,a7⟩:=row_cells hA
 obtain ⟨b0,b1,b2,b3,b4,b5,b6,b7⟩:=row_cells hB
 obtain ⟨x0,x1,x2,x3,x4,x5,x6,x7⟩:=row_cells hx
 obtain ⟨y0,y1,y2,y3,y4,y5,y6,y7⟩:=row_cells hz
 obtain ⟨z4,h4⟩:=h4
 obtain ⟨z5,h5⟩:=h5
 obtain ⟨c0,c1,c2,c3,c4,c5,c6,c7⟩:=row_cells h4
 obtain ⟨d0,d1,d2,d3,d4,d5,d6,d7⟩:=row_cells h5
 have xf:=λi=>hx.free i
 have yf:=λi=>hz.free i
 have cf:=λi=>h4.free i
 have df:=λi=>h5.free i
 have n1:w.heap.size≠bx:=by omega
 have n2:w.heap.size≠bz:=by omega
 have n3:w.heap.size+1≠bx:=by omega
 have n4:w.heap.size+1≠bz:=by omega
 have n5:w.heap.size+1+1≠bx:=by omega
 have n6:w.heap.size+1+1≠bz:=by omega
 have n7:w.heap.size+1+1+1≠bx:=by omega
 have n8:w.heap.size+1+1+1≠bz:=by omega
 have HK:=hI K
 clear hA hB hx hz h4 h5 K ca cb
 conv=>arg 2;whnf
 go_wp2_with fail
 go_region
 all_goals
  go_wp2_with fail
  refine bodyPost_ret (v:=.tuple #[rowV ra,rowV b,.bool true]) ?_ rfl ⟨rfl,?_⟩
  ·simp only [results,Tryz.results60]
   go_simp
  ·have k:=HK.out
   repeat first|with_reducible exact k|with_reducible apply Below.drew|with_reducible apply Below.setCell (hp:=sid9)
theorem rmeet_end10 {a b ra rb:M.Row} {w W:World} {bx bz:Nat} (hA:Blk W w.heap.size 38 (rowC a)) (hB:Blk W (w.heap.size+1) 38 (rowC b)) (h4:∃z,Blk W (w.heap.size+1+1) 38 (rowC z)) (h5:∃z,Blk W (w.heap.size+1+1+1) 38 (rowC z)) (K:Below w.heap.size w W)
  (hx:Blk W bx 38 (rowC ra)) (hz:Blk W bz 38 (rowC rb)) (lx:w.heap.size+1+1+1<bx) (lz:w.heap.size+1+1+1<bz) (hne:bx≠bz) (ca:a.M=0) (cb:¬b.M=0):
  Code.wp Tryz.prog (tailC 22) (bodyPost Tryz.prog Tryz.f60 λe w'=>e=.returned (.tuple #[rowV a,rowV rb,.bool true])/\Below w.heap.size w w') ⟨List.toArray (u0::u1::.pointer (some ⟨w.heap.size,0,none⟩)::.pointer (some ⟨w.heap.size+1,0,none⟩)::.pointer (some ⟨w.heap.size+1+1,0,none⟩)::.pointer (some ⟨w.heap.size+1+1+1,0,none⟩)::u6::u7::u8::u9::u10::u11::u12::u13::u14::u15::u16::u17::u18::u19::u20::u21::.pointer (some ⟨bx,0,none⟩)::.pointer (some ⟨bz,0,none⟩)::u24::u25::u26::u27::u28::u29::u30::u31::u32::u33::u34::u35::u36::u37::u38::u39::u40::u41::u42::u43::u44::u45::u46::u47::u48::u49::u50::u51::u52::u53::u54::u55::u56::u57::u58::u59::u60::u61::u62::u63::u64::u65::u66::u67::u68::u69::u70::u71::u72::u73::u74::u75::u76::u77::u78::u79::u80::u81::u82::u83::u84::u85::u86::u87::u88::u89::u90::u91::u92::u93::u94::u95::u96::u97::u98::u99::u100::u101::u102::u103::u104::u105::u106::u107::u108::u109::u110::u111::u112::u113::u114::u115::u116::u117::u118::u119::u120::u121::u122::u123::u124::u125::u126::u127::u128::u129::u130::u131::u132::u133::u134::u135::u136::u137::u138::u139::u140::u141::u142::u143::u144::u145::u146::u147::u148::u149::u150::u151::u152::u153::u154::u155::u156::u157::u158::u159::u160::u161::u162::u163::u164::u165::u166::u167::u168::u169::u170::u171::u172::u173::u174::u175::u176::u177::u178::[]),[]⟩ W:=by
 have q1:(a.M==0)=true:=by simp [ca]
 have q2:(b.M==0)=false:=by simp [cb]
 obtain ⟨a0,a1,a2,a3,a4,a5,a6,a7⟩:=row_cells hA
 obtain ⟨b0,b1,b2,b3,b4,b5,b6,b7⟩:=row_cells hB
 obtain ⟨x0,x1,x2,x3,x4,x5,x6,x7⟩:=row_cells hx
 obtain ⟨y0,y1,y2,y3,y4,y5,y6,y7⟩:=row_cells hz
 obtain ⟨z4,h4⟩:=h4
 obtain ⟨z5,h5⟩:=h5
 obtain ⟨c0,c1,c2,c3,c4,c5,c6,c7⟩:=row_cells h4
 obtain ⟨d0,d1,d2,d3,d4,d5,d6,d7⟩:=row_cells h5
 have xf:=λi=>hx.free i
 have yf:=λi=>hz.free i
 have cf:=λi=>h4.free i
 have df:=λi=>h5.free i
 have n1:w.heap.size≠bx:=by omega
 have n2:w.heap.size≠bz:=by omega
 have n3:w.heap.size+1≠bx:=by omega
 have n4:w.heap.size+1≠bz:=by omega
 have n5:w.heap.size+1+1≠bx:=by omega
 have n6:w.heap.size+1+1≠bz:=by omega
 have n7:w.heap.size+1+1+1≠bx:=by omega
 have n8:w.heap.size+1+1+1≠bz:=by omega
 have HK:=hI K
 clear hA hB hx hz h4 h5 K ca cb
 conv=>arg 2;whnf
 go_wp2_with fail
 go_region
 all_goals
  go_wp2_with fail
  refine bodyPost_ret (v:=.tuple #[rowV a,rowV rb,.bool true]) ?_ rfl ⟨rfl,?_⟩
  ·simp only [results,Tryz.results60]
   go_simp
  ·have k:=HK.out
   repeat first|with_reducible exact k|with_reducible apply Below.drew|with_reducible apply Below.setCell (hp:=sid9)
theorem rmeet_end11 {a b ra rb:M.Row} {w W:World} {bx bz:Nat} (hA:Blk W w.heap.size 38 (rowC a)) (hB:Blk W (w.heap.size+1) 38 (rowC b)) (h4:∃z,Blk W (w.heap.size+1+1) 38 (rowC z)) (h5:∃z,Blk W (w.heap.size+1+1+1) 38 (rowC z)) (K:Below w.heap.size w W)
  (hx:Blk W bx 38 (rowC ra)) (hz:Blk W bz 38 (rowC rb)) (lx:w.heap.size+1+1+1<bx) (lz:w.heap.size+1+1+1<bz) (hne:bx≠bz) (ca:a.M=0) (cb:b.M=0):
  Code.wp Tryz.prog (tailC 22) (bodyPost Tryz.prog Tryz.f60 λe w'=>e=.returned (.tuple #[rowV a,rowV b,.bool true])/\Below w.heap.size w w') ⟨List.toArray (u0::u1::.pointer (some ⟨w.heap.size,0,none⟩)::.pointer (some ⟨w.heap.size+1,0,none⟩)::.pointer (some ⟨w.heap.size+1+1,0,none⟩)::.pointer (some ⟨w.heap.size+1+1+1,0,none⟩)::u6::u7::u8::u9::u10::u11::u12::u13::u14::u15::u16::u17::u18::u19::u20::u21::.pointer (some ⟨bx,0,none⟩)::.pointer (some ⟨bz,0,none⟩)::u24::u25::u26::u27::u28::u29::u30::u31::u32::u33::u34::u35::u36::u37::u38::u39::u40::u41::u42::u43::u44::u45::u46::u47::u48::u49::u50::u51::u52::u53::u54::u55::u56::u57::u58::u59::u60::u61::u62::u63::u64::u65::u66::u67::u68::u69::u70::u71::u72::u73::u74::u75::u76::u77::u78::u79::u80::u81::u82::u83::u84::u85::u86::u87::u88::u89::u90::u91::u92::u93::u94::u95::u96::u97::u98::u99::u100::u101::u102::u103::u104::u105::u106::u107::u108::u109::u110::u111::u112::u113::u114::u115::u116::u117::u118::u119::u120::u121::u122::u123::u124::u125::u126::u127::u128::u129::u130::u131::u132::u133::u134::u135::u136::u137::u138::u139::u140::u141::u142::u143::u144::u145::u146::u147::u148::u149::u150::u151::u152::u153::u154::u155::u156::u157::u158::u159::u160::u161::u162::u163::u164::u165::u166::u167::u168::u169::u170::u171::u172::u173::u174::u175::u176::u177::u178::[]),[]⟩ W:=by
 have q1:(a.M==0)=true:=by simp [ca]
 have q2:(b.M==0)=true:=by simp [cb]
 obtain ⟨a0,a1,a2,a3,a4,a5,a6,a7⟩:=row_cells hA
 obtain ⟨b0,b1,b2,b3,b4,b5,b6,b7⟩:=row_cells hB
 obtain ⟨x0,x1,x2,x3,x4,x5,x6,x7⟩:=row_cells hx
 obtain ⟨y0,y1,y2,y3,y4,y5,y6,y7⟩:=row_cells hz
 obtain ⟨z4,h4⟩:=h4
 obtain ⟨z5,h5⟩:=h5
 obtain ⟨c0,c1,c2,c3,c4,c5,c6,c7⟩:=row_cells h4
 obtain ⟨d0,d1,d2,d3,d4,d5,d6,d7⟩:=row_cells h5
 have xf:=λi=>hx.free i
 have yf:=λi=>hz.free i
 have cf:=λi=>h4.free i
 have df:=λi=>h5.free i
 have n1:w.heap.size≠bx:=by omega
 have n2:w.heap.size≠bz:=by omega
 have n3:w.heap.size+1≠bx:=by omega
 have n4:w.heap.size+1≠bz:=by omega
 have n5:w.heap.size+1+1≠bx:=by omega
 have n6:w.heap.size+1+1≠bz:=by omega
 have n7:w.heap.size+1+1+1≠bx:=by omega
 have n8:w.heap.size+1+1+1≠bz:=by omega
 have HK:=hI K
 clear hA hB hx hz h4 h5 K ca cb
 conv=>arg 2;whnf
 go_wp2_with fail
 go_region
 all_goals
  go_wp2_with fail
  refine bodyPost_ret (v:=.tuple #[rowV a,rowV b,.bool true]) ?_ rfl ⟨rfl,?_⟩
  ·simp only [results,Tryz.results60]
   go_simp
  ·have k:=HK.out
   repeat first|with_reducible exact k|with_reducible apply Below.drew|with_reducible apply Below.setCell (hp:=sid9)
theorem rmeet_end {a b ra rb:M.Row} {w W:World} {bx bz:Nat} (hA:Blk W w.heap.size 38 (rowC a)) (hB:Blk W (w.heap.size+1) 38 (rowC b)) (h4:∃z,Blk W (w.heap.size+1+1) 38 (rowC z)) (h5:∃z,Blk W (w.heap.size+1+1+1) 38 (rowC z)) (K:Below w.heap.size w W)
  (hx:Blk W bx 38 (rowC ra)) (hz:Blk W bz 38 (rowC rb)) (lx:w.heap.size+1+1+1<bx) (lz:w.heap.size+1+1+1<bz) (hne:bx≠bz):
  Code.wp Tryz.prog (tailC 22) (bodyPost Tryz.prog Tryz.f60 λe w'=>e=.returned (.tuple #[rowV (backA a ra),rowV (backA b rb),.bool true])/\Below w.heap.size w w') ⟨List.toArray (u0::u1::.pointer (some ⟨w.heap.size,0,none⟩)::.pointer (some ⟨w.heap.size+1,0,none⟩)::.pointer (some ⟨w.heap.size+1+1,0,none⟩)::.pointer (some ⟨w.heap.size+1+1+1,0,none⟩)::u6::u7::u8::u9::u10::u11::u12::u13::u14::u15::u16::u17::u18::u19::u20::u21::.pointer (some ⟨bx,0,none⟩)::.pointer (some ⟨bz,0,none⟩)::u24::u25::u26::u27::u28::u29::u30::u31::u32::u33::u34::u35::u36::u37::u38::u39::u40::u41::u42::u43::u44::u45::u46::u47::u48::u49::u50::u51::u52::u53::u54::u55::u56::u57::u58::u59::u60::u61::u62::u63::u64::u65::u66::u67::u68::u69::u70::u71::u72::u73::u74::u75::u76::u77::u78::u79::u80::u81::u82::u83::u84::u85::u86::u87::u88::u89::u90::u91::u92::u93::u94::u95::u96::u97::u98::u99::u100::u101::u102::u103::u104::u105::u106::u107::u108::u109::u110::u111::u112::u113::u114::u115::u116::u117::u118::u119::u120::u121::u122::u123::u124::u125::u126::u127::u128::u129::u130::u131::u132::u133::u134::u135::u136::u137::u138::u139::u140::u141::u142::u143::u144::u145::u146::u147::u148::u149::u150::u151::u152::u153::u154::u155::u156::u157::u158::u159::u160::u161::u162::u163::u164::u165::u166::u167::u168::u169::u170::u171::u172::u173::u174::u175::u176::u177::u178::[]),[]⟩ W:=by
 unfold backA
 by_cases ca:a.M=0<;>by_cases cb:b.M=0
 ·rw [if_pos ca,if_pos cb];exact rmeet_end11 hA hB h4 h5 K hx hz lx lz hne ca cb
 ·rw [if_pos ca,if_neg cb];exact rmeet_end10 hA hB h4 h5 K hx hz lx lz hne ca cb
 ·rw [if_neg ca,if_pos cb];exact rmeet_end01 hA hB h4 h5 K hx hz lx lz hne ca cb
 ·rw [if_neg ca,if_neg cb];exact rmeet_end00 hA hB h4 h5 K hx hz lx lz hne ca cb
end
def moveA (ac:Bool) (r:M.Row) (far way kick:Int):M.Row:=
 if ac then {r with X:=M.add r.X (far*way) 1048576,PX:=M.add r.PX kick 16777216} else {r with Y:=M.add r.Y (far*way) 1048576,PY:=M.add r.PY kick 16777216}
theorem rmeet_mid {a b:M.Row} {w W:World} {gw:Nat} {way J GA GB:Int} {ac:Bool} {u0 u1 u6 u7 u8 u9 u10 u11 u12 u14 u15 u18 u19 u22 u23 u24 u25 u26 u27 u28 u29 u30 u31 u32 u33 u34 u35 u36 u37 u38 u39 u40 u41 u42 u43 u44 u45 u46 u47 u48 u49 u50 u51 u52 u53 u54 u55 u56 u57 u58 u59 u60 u61 u62 u63 u64 u65 u66 u67 u68 u69 u70 u71 u72 u73 u74 u75 u76 u77 u78 u79 u80 u81 u82 u83 u84 u85 u86 u87 u88 u89 u90 u91 u92 u93 u94 u95 u96 u97 u98 u99 u100 u101 u102 u103 u104 u105 u106 u107 u108 u109 u110 u111 u112 u113 u114 u115 u116 u117 u118 u119 u120 u121 u122 u123 u124 u125 u126 u127 u128 u129 u130 u131 u132 u133 u134 u135 u136 u137 u138 u139 u140 u141 u142 u143 u144 u145 u146 u147 u148 u149 u150 u151 u152 u153 u154 u155 u156 u157 u158 u159 u160 u161 u162 u163 u164 u165 u166 u167 u168 u169 u170 u171 u172 u173 u174 u175 u176 u177 u178:Value} (hA:Blk W w.heap.size 38 (rowC a)) (hB:Blk W (w.heap.size+1) 38 (rowC b)) (h4:∃z,Blk W (w.heap.size+1+1) 38 (rowC z)) (h5:∃z,Blk W (w.heap.size+1+1+1) 38 (rowC z)) (K:Below w.heap.size w W) (hw:W.cell? ⟨gw,0,none⟩=some (.int .i64 way)) (hg1:w.heap.size+1+1+1<gw) (hg2:gw<W.heap.size)
  (hGA:0<=GA/\GA<=8192) (hGB:0<=GB/\GB<=8192) (hway:way=1\/way=-1) (hj:-72057594037927936<=J/\J<=72057594037927936):
  Code.wp Tryz.prog (tailC 19) (bodyPost Tryz.prog Tryz.f60 λe w'=>e=.returned (.tuple #[rowV (backA a (moveA ac a (-GA) way (-J))),rowV (backA b (moveA ac b GB way J)),.bool true])/\Below w.heap.size w w') ⟨List.toArray (u0::u1::.pointer (some ⟨w.heap.size,0,none⟩)::.pointer (some ⟨w.heap.size+1,0,none⟩)::.pointer (some ⟨w.heap.size+1+1,0,none⟩)::.pointer (some ⟨w.heap.size+1+1+1,0,none⟩)::u6::u7::u8::u9::u10::u11::u12::.bool ac::u14::u15::.pointer (some ⟨gw,0,none⟩)::.int .i64 J::u18::u19::.int .i64 GA::.int .i64 GB::u22::u23::u24::u25::u26::u27::u28::u29::u30::u31::u32::u33::u34::u35::u36::u37::u38::u39::u40::u41::u42::u43::u44::u45::u46::u47::u48::u49::u50::u51::u52::u53::u54::u55::u56::u57::u58::u59::u60::u61::u62::u63::u64::u65::u66::u67::u68::u69::u70::u71::u72::u73::u74::u75::u76::u77::u78::u79::u80::u81::u82::u83::u84::u85::u86::u87::u88::u89::u90::u91::u92::u93::u94::u95::u96::u97::u98::u99::u100::u101::u102::u103::u104::u105::u106::u107::u108::u109::u110::u111::u112::u113::u114::u115::u116::u117::u118::u119::u120::u121::u122::u123::u124::u125::u126::u127::u128::u129::u130::u131::u132::u133::u134::u135::u136::u137::u138::u139::u140::u141::u142::u143::u144::u145::u146::u147::u148::u149::u150::u151::u152::u153::u154::u155::u156::u157::u158::u159::u160::u161::u162::u163::u164::u165::u166::u167::u168::u169::u170::u171::u172::u173::u174::u175::u176::u177::u178::[]),[]⟩ W:=by
 have hmf:∀(fn:Fn) (first cap:Array Value) (w:World),(Instr.makeFunc fn first cap).run Tryz.prog w=.ok (.func fn first cap) w:=λ_ _ _ _=>rfl
 have HA:=hI hA
 have HB:=hI hB
 have H4:=hI h4
 have H5:=hI h5
 have HK:=hI K
 have la:=hA.lt
 have lb:=hB.lt
 have l5:w.heap.size+1+1+1<W.heap.size:=by obtain ⟨z,hz⟩:=h5;exact hz.lt
 obtain ⟨a0,a1,a2,a3,a4,a5,a6,a7⟩:=row_cells hA
 obtain ⟨b0,b1,b2,b3,b4,b5,b6,b7⟩:=row_cells hB
 clear hA hB h4 h5 K
 conv=>arg 2;whnf
 go_upto_region 33 with fail
 go_cut [22,23] (λp q W'=>TwoRows a b W p q W')
 case first=>
  go_region
  all_goals
   go_wp2_with fail
   go_meet
   first
    |(have h:=two_rows1 a b W;simp at h⊢;exact h)
    |(have h:=two_rows2 a b W;simp at h⊢;exact h)
    |exact two_rows1 a b W
    |exact two_rows2 a b W
 case rest=>
  obtain ⟨bx,bz,rfl,rfl,hne,hx6,hy6,lx,lz,hb6⟩:=hcut
  have hz6:=hb6.size
  have hw6:wc.cell? ⟨gw,0,none⟩=some (.int .i64 way):=(hb6.cell (p:=⟨gw,0,none⟩) hg2).trans hw
  clear a0 a1 a2 a3 a4 a5 a6 a7 b0 b1 b2 b3 b4 b5 b6 b7
  go_upto_block 0 with fail
  go_cut [] (λW'=>Blk W' bx 38 (rowC (moveA ac a (-GA) way (-J)))/\Blk W' bz 38 (rowC (moveA ac b GB way J))/\Below W.heap.size W W')
  case first=>
   cases ac
   ·skip
    go_wp2_with fail
    refine (moveY_calls a _ bx gw (-GA) way (-J) hx6 hw6 bO (by rcases hway with rfl|rfl<;>omega)).mono ?_
    rintro e w7 ⟨rfl,hx7,hc7,hf7,hz7,hb7,hg7⟩
    have hb7':=hb7 W.heap.size bO
    have hy7:Blk w7 bz 38 (rowC b):=(hg7 bz bO).trans hy6
    have hw7:w7.cell? ⟨gw,0,none⟩=some (.int .i64 way):=by rw [hc7 _ _ bO];exact hw6
    go_wp2_with fail
    refine (moveY_calls b _ bz gw GB way J hy7 hw7 bO (by rcases hway with rfl|rfl<;>omega)).mono ?_
    rintro e w8 ⟨rfl,hy8,hc8,hf8,hz8,hb8,hg8⟩
    have hb8':=hb8 W.heap.size bO
    have hx8:=(hg8 bx bO).trans hx7
    have FIN:=hI (⟨hx8,hy8,(hb6.trans (hb7'.mono bO)).trans (hb8'.mono bO)⟩:Blk w8 bx 38 (rowC (moveA false a (-GA) way (-J)))/\Blk w8 bz 38 (rowC (moveA false b GB way J))/\Below W.heap.size W w8)
    clear hb8' hb7' hb7 hb8 hg7 hg8 hy7 hw7 hx8 hx7 hy8
    go_wp2_with fail
    go_meet
    exact FIN.out
   ·skip
    go_wp2_with fail
    refine (moveX_calls a _ bx gw (-GA) way (-J) hx6 hw6 bO (by rcases hway with rfl|rfl<;>omega)).mono ?_
    rintro e w7 ⟨rfl,hx7,hc7,hf7,hz7,hb7,hg7⟩
    have hb7':=hb7 W.heap.size bO
    have hy7:Blk w7 bz 38 (rowC b):=(hg7 bz bO).trans hy6
    have hw7:w7.cell? ⟨gw,0,none⟩=some (.int .i64 way):=by rw [hc7 _ _ bO];exact hw6
    go_wp2_with fail
    refine (moveX_calls b _ bz gw GB way J hy7 hw7 bO (by rcases hway with rfl|rfl<;>omega)).mono ?_
    rintro e w8 ⟨rfl,hy8,hc8,hf8,hz8,hb8,hg8⟩
    have hb8':=hb8 W.heap.size bO
    have hx8:=(hg8 bx bO).trans hx7
    have FIN:=hI (⟨hx8,hy8,(hb6.trans (hb7'.mono bO)).trans (hb8'.mono bO)⟩:Blk w8 bx 38 (rowC (moveA true a (-GA) way (-J)))/\Blk w8 bz 38 (rowC (moveA true b GB way J))/\Below W.heap.size W w8)
    clear hb8' hb7' hb7 hb8 hg7 hg8 hy7 hw7 hx8 hx7 hy8
    go_wp2_with fail
    go_meet
    exact FIN.out
  case rest=>
   obtain ⟨hx8,hy8,hb8⟩:=hcut
   refine (show ∀(a:Act) (w:World),Code.wp _ _ _ a w->(_:Act->World->Prop) a w by assumption) _ _ ?_
   exact rmeet_end (HA.out.below hb8 la) (HB.out.below hb8 lb) (by obtain ⟨z,hz⟩:=H4.out;exact ⟨z,hz.below hb8 hz.lt⟩) (by obtain ⟨z,hz⟩:=H5.out;exact ⟨z,hz.below hb8 hz.lt⟩) (HK.out.trans (hb8.mono (by have:=HK.out.size;omega))) hx8 hy8 bO bO hne
def NumB (J:Int) (W0:World) (j:Value) (W:World):Prop:=j=.int .i64 J/\W=W0
def halfB (d bM:Int):Int:=if bM<=0 then d else d / 2
theorem val_intB {a b:Int} (h:a=b):Value.int .i64 a=Value.int .i64 b:=by rw [h]
theorem rmeet_half {a b:M.Row} {w W:World} {gw:Nat} {way J d:Int} {ac:Bool} {u0 u1 u6 u7 u8 u9 u10 u11 u12 u15 u18 u19 u20 u21 u22 u23 u24 u25 u26 u27 u28 u29 u30 u31 u32 u33 u34 u35 u36 u37 u38 u39 u40 u41 u42 u43 u44 u45 u46 u47 u48 u49 u50 u51 u52 u53 u54 u55 u56 u57 u58 u59 u60 u61 u62 u63 u64 u65 u66 u67 u68 u69 u70 u71 u72 u73 u74 u75 u76 u77 u78 u79 u80 u81 u82 u83 u84 u85 u86 u87 u88 u89 u90 u91 u92 u93 u94 u95 u96 u97 u98 u99 u100 u101 u102 u103 u104 u105 u106 u107 u108 u109 u110 u111 u112 u113 u114 u115 u116 u117 u118 u119 u120 u121 u122 u123 u124 u125 u126 u127 u128 u129 u130 u131 u132 u133 u134 u135 u136 u137 u138 u139 u140 u141 u142 u143 u144 u145 u146 u147 u148 u149 u150 u151 u152 u153 u154 u155 u156 u157 u158 u159 u160 u161 u162 u163 u164 u165 u166 u167 u168 u169 u170 u171 u172 u173 u174 u175 u176 u177 u178:Value} (hA:Blk W w.heap.size 38 (rowC a)) (hB:Blk W (w.heap.size+1) 38 (rowC b)) (h4:∃z,Blk W (w.heap.size+1+1) 38 (rowC z)) (h5:∃z,Blk W (w.heap.size+1+1+1) 38 (rowC z)) (K:Below w.heap.size w W) (hw:W.cell? ⟨gw,0,none⟩=some (.int .i64 way)) (hg1:w.heap.size+1+1+1<gw) (hg2:gw<W.heap.size)
  (hd:1<=d/\d<=8192) (ha0:0<=a.M) (hb0:0<=b.M) (hab:0<a.M+b.M) (hway:way=1\/way=-1) (hj:-72057594037927936<=J/\J<=72057594037927936):
  Code.wp Tryz.prog (tailC 14) (bodyPost Tryz.prog Tryz.f60 λe w'=>e=.returned (.tuple #[rowV (backA a (moveA ac a (-M.halfOf d a.M b.M) way (-J))),rowV (backA b (moveA ac b (d-M.halfOf d a.M b.M) way J)),.bool true])/\Below w.heap.size w w') ⟨List.toArray (u0::u1::.pointer (some ⟨w.heap.size,0,none⟩)::.pointer (some ⟨w.heap.size+1,0,none⟩)::.pointer (some ⟨w.heap.size+1+1,0,none⟩)::.pointer (some ⟨w.heap.size+1+1+1,0,none⟩)::u6::u7::u8::u9::u10::u11::u12::.bool ac::.int .i64 d::u15::.pointer (some ⟨gw,0,none⟩)::.int .i64 J::u18::u19::u20::u21::u22::u23::u24::u25::u26::u27::u28::u29::u30::u31::u32::u33::u34::u35::u36::u37::u38::u39::u40::u41::u42::u43::u44::u45::u46::u47::u48::u49::u50::u51::u52::u53::u54::u55::u56::u57::u58::u59::u60::u61::u62::u63::u64::u65::u66::u67::u68::u69::u70::u71::u72::u73::u74::u75::u76::u77::u78::u79::u80::u81::u82::u83::u84::u85::u86::u87::u88::u89::u90::u91::u92::u93::u94::u95::u96::u97::u98::u99::u100::u101::u102::u103::u104::u105::u106::u107::u108::u109::u110::u111::u112::u113::u114::u115::u116::u117::u118::u119::u120::u121::u122::u123::u124::u125::u126::u127::u128::u129::u130::u131::u132::u133::u134::u135::u136::u137::u138::u139::u140::u141::u142::u143::u144::u145::u146::u147::u148::u149::u150::u151::u152::u153::u154::u155::u156::u157::u158::u159::u160::u161::u162::u163::u164::u165::u166::u167::u168::u169::u170::u171::u172::u173::u174::u175::u176::u177::u178::[]),[]⟩ W:=by
 have HA:=hI hA
 have HB:=hI hB
 have H4:=hI h4
 have H5:=hI h5
 have HK:=hI K
 obtain ⟨a0,a1,a2,a3,a4,a5,a6,a7⟩:=row_cells hA
 obtain ⟨b0,b1,b2,b3,b4,b5,b6,b7⟩:=row_cells hB
 clear hA hB h4 h5 K
 conv=>arg 2;whnf
 go_upto_if 125 with fail
 go_cut [20] (λj W'=>NumB (halfB d b.M) W j W')
 case first=>
  by_cases c:b.M<=0
  ·have q:(b.M==0)=true:=by simp;omega
   go_wp2_with fail
   go_meet
   exact ⟨val_intB (by unfold halfB;rw [if_pos c]),rfl⟩
  ·have q:(b.M==0)=false:=by simp;omega
   go_wp2_with fail
   go_meet
   exact ⟨val_intB (by unfold halfB;rw [if_neg bO]),rfl⟩
 case rest=>
  obtain ⟨rfl,rfl⟩:=hcut
  go_upto_if 129 with fail
  go_cut [20] (λj W'=>NumB (M.halfOf d a.M b.M) wc j W')
  case first=>
   by_cases c:a.M<=0
   ·have q:(a.M==0)=true:=by simp;omega
    go_wp2_with fail
    go_meet
    exact ⟨val_intB (by unfold M.halfOf;(try unfold halfB);(repeat' split)<;>omega),rfl⟩
   ·have q:(a.M==0)=false:=by simp;omega
    go_wp2_with fail
    go_meet
    exact ⟨val_intB (by unfold M.halfOf;(try unfold halfB);(repeat' split)<;>omega),rfl⟩
  case rest=>
   obtain ⟨rfl,rfl⟩:=hcut
   have hh:0<=M.halfOf d a.M b.M/\M.halfOf d a.M b.M<=d:=by unfold M.halfOf;(repeat' split)<;>omega
   go_upto_if 135 with fail
   go_cut [21] (λj W'=>NumB (d-M.halfOf d a.M b.M) wc j W')
   case first=>
    by_cases c:b.M<=0
    ·have q:(b.M==0)=true:=by simp;omega
     go_wp2_with fail
     go_meet
     exact ⟨val_intB (by unfold M.halfOf;rw [if_pos bO];omega),rfl⟩
    ·have q:(b.M==0)=false:=by simp;omega
     go_wp2_with fail
     go_meet
     exact ⟨rfl,rfl⟩
   case rest=>
    obtain ⟨rfl,rfl⟩:=hcut
    refine (show ∀(a:Act) (w:World),Code.wp _ _ _ a w->(_:Act->World->Prop) a w by assumption) _ _ ?_
    exact rmeet_mid HA.out HB.out H4.out H5.out HK.out hw hg1 hg2 bO bO hway hj
theorem quiet_add_left {P:Program} {f:FuncId} {args:Array Value} {w:World} {a n:Nat} {v:Value}
  (h:Calls P f args (w.drewN (a+n)) λe w'=>e=.returned v/\w.drewN (a+n)=w'):Calls P f args (w.drewN (a+n)) λe w''=>e=.returned v/\∃m,w''=w.drewN (a+m):=
 h.mono λ_ _ ⟨he,hm⟩=>⟨he,n,hm.symm⟩
def M.dOf (a b:M.Row):Int:=if M.depth a.W b.W a.X b.X<M.depth a.H b.H a.Y b.Y then M.depth a.W b.W a.X b.X else M.depth a.H b.H a.Y b.Y
def M.vOf (a b:M.Row):Int:=if M.depth a.W b.W a.X b.X<M.depth a.H b.H a.Y b.Y then M.part a.PX 1 a.M-M.part b.PX 1 b.M else M.part a.PY 1 a.M-M.part b.PY 1 b.M
def M.wOf (a b:M.Row):Int:=if M.depth a.W b.W a.X b.X<M.depth a.H b.H a.Y b.Y then M.wayOf a.X b.X else M.wayOf a.Y b.Y
def M.kickOf (near way aM bM aR bR:Int):Int:=if 0<near then way*M.part (near*M.mOf aM bM) (256+M.least aR bR) (256*M.nOf aM bM) else 0
theorem kick_is (near way aM bM aR bR:Int):M.kickOf near way aM bM aR bR=if 0<near then M.jOf near way aM bM aR bR else 0:=by
 unfold M.kickOf M.jOf;rw [Int.mul_comm 256,Int.mul_comm way]
theorem way_pm (x y:Int):M.wayOf x y=1\/M.wayOf x y=-1:=by unfold M.wayOf;split<;>omega
theorem wOf_pm (a b:M.Row):M.wOf a b=1\/M.wOf a b=-1:=by unfold M.wOf;split<;>exact way_pm _ _
theorem mul_pm {x w m:Int} (hx:-m<=x/\x<=m) (hw:w=1\/w=-1):-m<=x*w/\x*w<=m:=by
 rcases hw with rfl|rfl<;>omega
theorem kick_pos (a b:M.Row) (N:Int) (h:0<N):M.kickOf N (M.wOf a b) a.M b.M a.R b.R=M.wOf a b*M.part (N*M.mOf a.M b.M) (256+M.least a.R b.R) (256*M.nOf a.M b.M):=by
 unfold M.kickOf;rw [if_pos h]
theorem kick_any (s N m m' R R' n n':Int) (hs:s=1\/s=-1) (hN:-33554432<=N/\N<=33554432) (hm:-81<=m/\m<=81) (e1:m'=m) (e2:256*n'=n) (e3:R'=R):
  Value.int .i64 (wrap64 (s*M.part (wrap64 (N*m)) (256+R) n))=Value.int .i64 (s*M.part (N*m') (256+R') (256*n')):=by
 have hq:=M.mul_bd N m 33554432 81 bO bO bO bO
 have hp:=M.part_bd (N*m) (256+R) n
 rw [e1,e2,e3,IntWalk.wrap64_in (N*m) bO,IntWalk.wrap64_in _ (by rcases hs with rfl|rfl<;>omega)]
def M.movedA (a b:M.Row):M.Row:=
 let g:=-M.halfOf (M.dOf a b) a.M b.M*M.wOf a b
 let j:=-M.kickOf (M.vOf a b*M.wOf a b) (M.wOf a b) a.M b.M a.R b.R
 if M.depth a.W b.W a.X b.X<M.depth a.H b.H a.Y b.Y then {a with X:=M.add a.X g 1048576,PX:=M.add a.PX j 16777216} else {a with Y:=M.add a.Y g 1048576,PY:=M.add a.PY j 16777216}
def M.movedB (a b:M.Row):M.Row:=
 let g:=(M.dOf a b-M.halfOf (M.dOf a b) a.M b.M)*M.wOf a b
 let j:=M.kickOf (M.vOf a b*M.wOf a b) (M.wOf a b) a.M b.M a.R b.R
 if M.depth a.W b.W a.X b.X<M.depth a.H b.H a.Y b.Y then {b with X:=M.add b.X g 1048576,PX:=M.add b.PX j 16777216} else {b with Y:=M.add b.Y g 1048576,PY:=M.add b.PY j 16777216}
def Far (d n wy:Int) (w5:World) (D N:Value) (W:World):Prop:=D=.int .i64 d/\N=.int .i64 n/\W=w5.alloc (.cells #[.int .i64 wy] 3)
def OnlyWay (wy:Int) (w5 W:World):Prop:=W=w5.alloc (.cells #[.int .i64 wy] 3)
def JIs (J:Int) (W0:World) (j:Value) (W:World):Prop:=j=.int .i64 J/\∃n,W=W0.drewN n
theorem drewN_twice (w:World) (n m:Nat):(w.drewN n).drewN m=w.drewN (n+m):=by rw [World.drewN_drewN]
theorem val_int {a b:Int} (h:a=b):Value.int .i64 a=Value.int .i64 b:=by rw [h]
theorem far_x {a b:M.Row} {w5:World} {s:Int} (h7:M.depth a.W b.W a.X b.X<M.depth a.H b.H a.Y b.Y) (hs:M.wayOf a.X b.X=s):
  Far (M.dOf a b) (M.vOf a b) (M.wOf a b) w5 (.int .i64 (M.depth a.W b.W a.X b.X)) (.int .i64 (M.part a.PX 1 a.M-M.part b.PX 1 b.M)) (w5.alloc (.cells #[.int .i64 s] 3)):=by
 subst hs
 refine ⟨?_,?_,?_⟩
 ·unfold M.dOf;rw [if_pos h7]
 ·unfold M.vOf;rw [if_pos h7]
 ·unfold M.wOf;rw [if_pos h7]
theorem far_y {a b:M.Row} {w5:World} (h7:¬M.depth a.W b.W a.X b.X<M.depth a.H b.H a.Y b.Y):
  Far (M.dOf a b) (M.vOf a b) (M.wOf a b) w5 (.int .i64 (M.depth a.H b.H a.Y b.Y)) (.int .i64 (M.part a.PY 1 a.M-M.part b.PY 1 b.M)) (w5.alloc (.cells #[.int .i64 (M.wayOf a.Y b.Y)] 3)):=by
 refine ⟨?_,?_,?_⟩
 ·unfold M.dOf;rw [if_neg h7]
 ·unfold M.vOf;rw [if_neg h7]
 ·unfold M.wOf;rw [if_neg h7]
theorem add_zero_mid (q m:Int) (h:-m<=q/\q<=m) (hm:0<=m/\m<=1099511627776):M.add q 0 m=q:=by
 unfold M.add
 rw [M.capped_id m hm.1 hm.2,M.within_id q m h.1 h.2,M.within_id 0 m bO bO,Int.add_zero,M.within_id q m h.1 h.2]
theorem meetR_A (a b:M.Row):M.body a=true->0<a.M->(M.meetR a b).1=M.movedA a b:=by
 intro h1 ha
 obtain ⟨⟨fa1,fa2,fa3,fa4⟩,fa5,fa6,fa7,fa8,fa9,fa10,fa11⟩:=body_facts h1
 have z1:=add_zero_mid a.PX 16777216 fa3 bO
 have z2:=add_zero_mid a.PY 16777216 fa4 bO
 unfold M.meetR M.movedA
 by_cases h7:M.depth a.W b.W a.X b.X<M.depth a.H b.H a.Y b.Y
 ·simp only [h7,if_true,M.meetX,M.dOf,M.vOf,M.wOf,M.pa,M.qa,ha,and_true,kick_is]
  by_cases hn:0<(M.part a.PX 1 a.M-M.part b.PX 1 b.M)*M.wayOf a.X b.X
  ·simp only [hn,if_true]
  ·simp only [hn,if_false,Int.neg_zero,z1]
 ·simp only [h7,if_false,M.meetY,M.dOf,M.vOf,M.wOf,M.pa,M.qa,ha,and_true,kick_is,if_true]
  by_cases hn:0<(M.part a.PY 1 a.M-M.part b.PY 1 b.M)*M.wayOf a.Y b.Y
  ·simp only [hn,if_true]
  ·simp only [hn,if_false,Int.neg_zero,z2]
theorem meetR_B (a b:M.Row):M.body b=true->0<b.M->(M.meetR a b).2=M.movedB a b:=by
 intro h1 hb
 obtain ⟨⟨fa1,fa2,fa3,fa4⟩,fa5,fa6,fa7,fa8,fa9,fa10,fa11⟩:=body_facts h1
 have z1:=add_zero_mid b.PX 16777216 fa3 bO
 have z2:=add_zero_mid b.PY 16777216 fa4 bO
 unfold M.meetR M.movedB
 by_cases h7:M.depth a.W b.W a.X b.X<M.depth a.H b.H a.Y b.Y
 ·simp only [h7,if_true,M.meetX,M.dOf,M.vOf,M.wOf,M.pb,M.qb,hb,and_true,kick_is]
  by_cases hn:0<(M.part a.PX 1 a.M-M.part b.PX 1 b.M)*M.wayOf a.X b.X
  ·simp only [hn,if_true]
  ·simp only [hn,if_false,z1]
 ·simp only [h7,if_false,M.meetY,M.dOf,M.vOf,M.wOf,M.pb,M.qb,hb,and_true,kick_is,if_true]
  by_cases hn:0<(M.part a.PY 1 a.M-M.part b.PY 1 b.M)*M.wayOf a.Y b.Y
  ·simp only [hn,if_true]
  ·simp only [hn,if_false,z2]
theorem meetR_A0 (a b:M.Row) (ha:a.M<=0):(M.meetR a b).1=a:=by
 have h:¬0<a.M:=by omega
 unfold M.meetR M.meetX M.meetY M.pa M.qa
 split<;>simp only [h,and_false,if_false]
theorem meetR_B0 (a b:M.Row) (hb:b.M<=0):(M.meetR a b).2=b:=by
 have h:¬0<b.M:=by omega
 unfold M.meetR M.meetX M.meetY M.pb M.qb
 split<;>simp only [h,and_false,if_false]
theorem meet_finA (a b:M.Row) (h:M.body a=true):(M.meetR a b).1=backA a (moveA (decide (M.depth a.W b.W a.X b.X<M.depth a.H b.H a.Y b.Y)) a (-M.halfOf (M.dOf a b) a.M b.M) (M.wOf a b) (-M.kickOf (M.vOf a b*M.wOf a b) (M.wOf a b) a.M b.M a.R b.R)):=by
 obtain ⟨_,fa5,fa6,fa7,fa8,fa9,fa10,fa11⟩:=body_facts h
 unfold backA
 by_cases c:a.M=0
 ·rw [if_pos c];exact meetR_A0 a b bO
 ·rw [if_neg c,meetR_A a b h bO]
  unfold M.movedA moveA
  by_cases h7:M.depth a.W b.W a.X b.X<M.depth a.H b.H a.Y b.Y<;>simp [h7]
theorem meet_finB (a b:M.Row) (h:M.body b=true):(M.meetR a b).2=backA b (moveA (decide (M.depth a.W b.W a.X b.X<M.depth a.H b.H a.Y b.Y)) b (M.dOf a b-M.halfOf (M.dOf a b) a.M b.M) (M.wOf a b) (M.kickOf (M.vOf a b*M.wOf a b) (M.wOf a b) a.M b.M a.R b.R)):=by
 obtain ⟨_,fa5,fa6,fa7,fa8,fa9,fa10,fa11⟩:=body_facts h
 unfold backA
 by_cases c:b.M=0
 ·rw [if_pos c];exact meetR_B0 a b bO
 ·rw [if_neg c,meetR_B a b h bO]
  unfold M.movedB moveA
  by_cases h7:M.depth a.W b.W a.X b.X<M.depth a.H b.H a.Y b.Y<;>simp [h7]
theorem rmeet_move (a b:M.Row) (w:World) (h1:M.body a=true) (h2:M.body b=true) (h3:1<=M.depth a.W b.W a.X b.X) (h4:1<=M.depth a.H b.H a.Y b.Y) (h5:0<a.M+b.M):
  Calls Tryz.prog 60 #[rowV a,rowV b] w λe w'=>e=.returned (.tuple #[rowV (M.meetR a b).1,rowV (M.meetR a b).2,.bool true])/\Below w.heap.size w w':=by
 rw [meet_finA a b h1,meet_finB a b h2]
 have HA:=hI (λW=>isBody_yes a W h1)
 have HB:=hI (λW=>isBody_yes b W h2)
 have HD:=hI (λW=>depthOf_calls a b W (mid_of_body h1) (mid_of_body h2))
 obtain ⟨⟨fa1,fa2,fa3,fa4⟩,fa5,fa6,fa7,fa8,fa9,fa10,fa11⟩:=body_facts h1
 obtain ⟨⟨fb1,fb2,fb3,fb4⟩,fb5,fb6,fb7,fb8,fb9,fb10,fb11⟩:=body_facts h2
 have dh:=depth_hi h1 h2
 have s1:=part1_bd a.PX a.M fa3
 have s2:=part1_bd b.PX b.M fb3
 have s3:=part1_bd a.PY a.M fa4
 have s4:=part1_bd b.PY b.M fb4
 have FH1:=hI h1
 have FH2:=hI h2
 have FA:=hI fa11
 have FB:=hI fb11
 clear fa11 fb11 h1 h2
 have hm:=M.mul_bd a.M b.M 9 9 bO bO bO bO
 have hs:(a.M+b.M==0)=false:=by simp;omega
 have q1:decide (M.depth a.W b.W a.X b.X<=0)=false:=by simp;omega
 have q2:decide (M.depth a.H b.H a.Y b.Y<=0)=false:=by simp;omega
 obtain ⟨ac,hac⟩:∃ac:Bool,decide (M.depth a.W b.W a.X b.X<M.depth a.H b.H a.Y b.Y)=ac:=⟨_,rfl⟩
 rw [hac]
 obtain ⟨RA,hRA⟩:∃x,x=backA a (moveA ac a (-M.halfOf (M.dOf a b) a.M b.M) (M.wOf a b) (-M.kickOf (M.vOf a b*M.wOf a b) (M.wOf a b) a.M b.M a.R b.R)):=⟨_,rfl⟩
 obtain ⟨RB,hRB⟩:∃x,x=backA b (moveA ac b (M.dOf a b-M.halfOf (M.dOf a b) a.M b.M) (M.wOf a b) (M.kickOf (M.vOf a b*M.wOf a b) (M.wOf a b) a.M b.M a.R b.R)):=⟨_,rfl⟩
 rw [←hRA,←hRB]
 have HRA:=hI hRA
 have HRB:=hI hRB
 clear hRA hRB
 go_enter Tryz.func60,Tryz.ntmps60
 go_upto_if 78 with (first|(go_at_call 87;with_reducible refine (HA.out _).mono ?_;rintro e w1 ⟨rfl,hb1⟩;obtain ⟨hc1,hf1⟩:=bcell hb1;have hz1:=hb1.size;(try simp at hz1);have f1_0:w.heap.size<w1.heap.size:=bO;have g1_0:w.heap.size<w.heap.size+1+1+1+1:=bO;have f1_1:w.heap.size+1<w1.heap.size:=bO;have g1_1:w.heap.size+1<w.heap.size+1+1+1+1:=bO;have f1_2:w.heap.size+1+1<w1.heap.size:=bO;have g1_2:w.heap.size+1+1<w.heap.size+1+1+1+1:=bO;have f1_3:w.heap.size+1+1+1<w1.heap.size:=bO;have g1_3:w.heap.size+1+1+1<w.heap.size+1+1+1+1:=bO)|(go_at_call 87;with_reducible refine (HB.out _).mono ?_;rintro e w2 ⟨rfl,hb2⟩;obtain ⟨hc2,hf2⟩:=bcell hb2;have hz2:=hb2.size;(try simp at hz2);have f2_0:w.heap.size<w2.heap.size:=bO;have f2_1:w.heap.size+1<w2.heap.size:=bO;have f2_2:w.heap.size+1+1<w2.heap.size:=bO;have f2_3:w.heap.size+1+1+1<w2.heap.size:=bO)|(go_at_call 88;refine (HD.out _).mono ?_;rintro e w3 ⟨rfl,hb3⟩;obtain ⟨hc3,hf3⟩:=bcell hb3;have hz3:=hb3.size;(try simp at hz3);have f3_0:w.heap.size<w3.heap.size:=bO;have f3_1:w.heap.size+1<w3.heap.size:=bO;have f3_2:w.heap.size+1+1<w3.heap.size:=bO;have f3_3:w.heap.size+1+1+1<w3.heap.size:=bO)|(go_at_call 57;with_reducible refine (speedOf_calls a _).mono ?_;rintro e w4 ⟨rfl,hb4⟩;obtain ⟨hc4,hf4⟩:=bcell hb4;have hz4:=hb4.size;(try simp at hz4);have f4_0:w.heap.size<w4.heap.size:=bO;have f4_1:w.heap.size+1<w4.heap.size:=bO;have f4_2:w.heap.size+1+1<w4.heap.size:=bO;have f4_3:w.heap.size+1+1+1<w4.heap.size:=bO)|(go_at_call 57;with_reducible refine (speedOf_calls b _).mono ?_;rintro e w5 ⟨rfl,hb5⟩;obtain ⟨hc5,hf5⟩:=bcell hb5;have hz5:=hb5.size;(try simp at hz5);have f5_0:w.heap.size<w5.heap.size:=bO;have f5_1:w.heap.size+1<w5.heap.size:=bO;have f5_2:w.heap.size+1+1<w5.heap.size:=bO;have f5_3:w.heap.size+1+1+1<w5.heap.size:=bO))
 go_cut [] (λW=>OnlyWay (M.wayOf a.Y b.Y) w5 W)
 case first=>
  by_cases h8:b.Y<a.Y
  ·go_wp2_with fail
   go_meet
   show _=_
   unfold M.wayOf;rw [if_pos h8]
  ·go_wp2_with fail
   go_meet
   show _=_
   unfold M.wayOf;rw [if_neg bO]
 case rest=>
  obtain rfl:wc=w5.alloc (.cells #[.int .i64 (M.wayOf a.Y b.Y)] 3):=hcut
  go_upto_if 79 with fail
  go_cut [14,15] (λD N W=>Far (M.dOf a b) (M.vOf a b) (M.wOf a b) w5 D N W)
  case first=>
   rcases ac with _|_
   rotate_left
   ·have h7:M.depth a.W b.W a.X b.X<M.depth a.H b.H a.Y b.Y:=by simpa using hac
    by_cases h8:b.X<a.X
    ·go_wp2_with fail
     go_meet
     exact far_x bO (by unfold M.wayOf;rw [if_pos bO])
    ·go_wp2_with fail
     go_meet
     exact far_x bO (by unfold M.wayOf;rw [if_neg bO])
   ·have h7:M.depth a.H b.H a.Y b.Y<=M.depth a.W b.W a.X b.X:=by simpa using hac
    go_wp2_with fail
    go_meet
    exact far_y bO
  case rest=>
   obtain ⟨rfl,rfl,rfl⟩:=hcut
   have hd:1<=M.dOf a b/\M.dOf a b<=8192:=by unfold M.dOf;split<;>omega
   have hv:-33554432<=M.vOf a b/\M.vOf a b<=33554432:=by unfold M.vOf;split<;>omega
   have hw:=wOf_pm a b
   have hv1:=mul_pm hv hw
   have hw1:-1<=M.wOf a b/\M.wOf a b<=1:=by omega
   have HW:=hI hw
   clear hw
   go_upto_if 93 with fail
   have HN:∃N,N=M.vOf a b*M.wOf a b:=⟨_,rfl⟩
   obtain ⟨N,hN⟩:=HN
   rw [←hN] at hv1
   rw [←hN]
   have HN:=hI hN
   clear hN
   go_cut [17] (λj W=>JIs (M.kickOf N (M.wOf a b) a.M b.M a.R b.R) (w5.alloc (.cells #[.int .i64 (M.wOf a b)] 3)) j W)
   case first=>
    by_cases h9:0<N
    ·have HK:=hI (kick_pos a b N h9)
     by_cases c111:0<a.M/\0<b.M/\b.R<a.R
     ·obtain ⟨m1,m2,m3⟩:=c111
      have q5:(a.M*b.M==0)=false:=by have h:=Int.mul_pos m1 m2;simp;omega
      go_wp2_with fail
      go_quiet (fail)
      go_wp2_with fail
      go_quiet ((go_at_call 85;first|exact quiet_left (partOf_calls _ _ _ _)|exact quiet_add_left (partOf_calls _ _ _ _)))
      go_wp2_with fail
      go_meet
      refine ⟨?_,_,by first|rfl|exact drewN_twice _ _ _⟩
      rw [HK.out]
      exact kick_any _ _ _ _ _ _ _ _ HW.out hv1 bO (by unfold M.mOf;rw [if_neg bO,if_neg bO]) (by unfold M.nOf;rw [if_neg bO,if_neg bO]) (by unfold M.least;rw [if_pos bO])
     by_cases c110:0<a.M/\0<b.M/\a.R<=b.R
     ·obtain ⟨m1,m2,m3⟩:=c110
      have q5:(a.M*b.M==0)=false:=by have h:=Int.mul_pos m1 m2;simp;omega
      go_wp2_with fail
      go_quiet (fail)
      go_wp2_with fail
      go_quiet ((go_at_call 85;first|exact quiet_left (partOf_calls _ _ _ _)|exact quiet_add_left (partOf_calls _ _ _ _)))
      go_wp2_with fail
      go_meet
      refine ⟨?_,_,by first|rfl|exact drewN_twice _ _ _⟩
      rw [HK.out]
      exact kick_any _ _ _ _ _ _ _ _ HW.out hv1 bO (by unfold M.mOf;rw [if_neg bO,if_neg bO]) (by unfold M.nOf;rw [if_neg bO,if_neg bO]) (by unfold M.least;rw [if_neg bO])
     by_cases c101:0<a.M/\b.M<=0/\b.R<a.R
     ·obtain ⟨m1,m2,m3⟩:=c101
      have q5:(a.M*b.M==0)=true:=by rw [show b.M=0 by omega];simp
      go_wp2_with fail
      go_quiet (fail)
      go_wp2_with fail
      go_quiet ((go_at_call 85;first|exact quiet_left (partOf_calls _ _ _ _)|exact quiet_add_left (partOf_calls _ _ _ _)))
      go_wp2_with fail
      go_meet
      refine ⟨?_,_,by first|rfl|exact drewN_twice _ _ _⟩
      rw [HK.out]
      exact kick_any _ _ _ _ _ _ _ _ HW.out hv1 bO (by unfold M.mOf;rw [if_neg bO,if_pos bO];omega) (by unfold M.nOf;rw [if_neg bO,if_pos bO];rfl) (by unfold M.least;rw [if_pos bO])
     by_cases c100:0<a.M/\b.M<=0/\a.R<=b.R
     ·obtain ⟨m1,m2,m3⟩:=c100
      have q5:(a.M*b.M==0)=true:=by rw [show b.M=0 by omega];simp
      go_wp2_with fail
      go_quiet (fail)
      go_wp2_with fail
      go_quiet ((go_at_call 85;first|exact quiet_left (partOf_calls _ _ _ _)|exact quiet_add_left (partOf_calls _ _ _ _)))
      go_wp2_with fail
      go_meet
      refine ⟨?_,_,by first|rfl|exact drewN_twice _ _ _⟩
      rw [HK.out]
      exact kick_any _ _ _ _ _ _ _ _ HW.out hv1 bO (by unfold M.mOf;rw [if_neg bO,if_pos bO];omega) (by unfold M.nOf;rw [if_neg bO,if_pos bO];rfl) (by unfold M.least;rw [if_neg bO])
     by_cases c011:a.M<=0/\0<b.M/\b.R<a.R
     ·obtain ⟨m1,m2,m3⟩:=c011
      have q5:(a.M*b.M==0)=true:=by rw [show a.M=0 by omega];simp
      go_wp2_with fail
      go_quiet (fail)
      go_wp2_with fail
      go_quiet ((go_at_call 85;first|exact quiet_left (partOf_calls _ _ _ _)|exact quiet_add_left (partOf_calls _ _ _ _)))
      go_wp2_with fail
      go_meet
      refine ⟨?_,_,by first|rfl|exact drewN_twice _ _ _⟩
      rw [HK.out]
      exact kick_any _ _ _ _ _ _ _ _ HW.out hv1 bO (by unfold M.mOf;rw [if_pos bO];omega) (by unfold M.nOf;rw [if_pos bO];rfl) (by unfold M.least;rw [if_pos bO])
     by_cases c010:a.M<=0/\0<b.M/\a.R<=b.R
     ·obtain ⟨m1,m2,m3⟩:=c010
      have q5:(a.M*b.M==0)=true:=by rw [show a.M=0 by omega];simp
      go_wp2_with fail
      go_quiet (fail)
      go_wp2_with fail
      go_quiet ((go_at_call 85;first|exact quiet_left (partOf_calls _ _ _ _)|exact quiet_add_left (partOf_calls _ _ _ _)))
      go_wp2_with fail
      go_meet
      refine ⟨?_,_,by first|rfl|exact drewN_twice _ _ _⟩
      rw [HK.out]
      exact kick_any _ _ _ _ _ _ _ _ HW.out hv1 bO (by unfold M.mOf;rw [if_pos bO];omega) (by unfold M.nOf;rw [if_pos bO];rfl) (by unfold M.least;rw [if_neg bO])
     omega
    ·go_wp2_with fail
     go_meet
     exact ⟨val_int (by unfold M.kickOf;rw [if_neg bO]),0,rfl⟩
   case rest=>
    obtain ⟨rfl,n,rfl⟩:=hcut
    have hj:-72057594037927936<=M.kickOf N (M.wOf a b) a.M b.M a.R b.R/\M.kickOf N (M.wOf a b) a.M b.M a.R b.R<=72057594037927936:=by
     have hp:=M.part_bd (N*M.mOf a.M b.M) (256+M.least a.R b.R) (256*M.nOf a.M b.M)
     unfold M.kickOf
     split
     ·rcases HW.out with h|h<;>rw [h]<;>omega
     ·omega
    have hN:=HN.out
    subst hN
    have hRA:=HRA.out
    have hRB:=HRB.out
    subst hRA hRB
    refine (show ∀(a:Act) (w:World),Code.wp _ _ _ a w->(_:Act->World->Prop) a w by assumption) _ _ ?_
    exact rmeet_half (a:=a) (b:=b) (w:=w) (gw:=w5.heap.size) bR2 bR2 ⟨⟨0,0,0,0,0,0,0,0⟩,bR2⟩ ⟨⟨0,0,0,0,0,0,0,0⟩,bR2⟩ (((((((((((Below.refl _ w).alloc lO _).alloc lO _).alloc lO _).alloc lO _).trans (hb1.mono sid9)).trans (hb2.mono sid9)).trans (hb3.mono sid9)).trans (hb4.mono sid9)).trans (hb5.mono sid9)).alloc bO _|>(below_drewN · n)) sS bO sS hd bO bO h5 HW.out hj
theorem meetRows_calls (a b:M.Row) (w:World):
  Calls Tryz.prog 60 #[rowV a,rowV b] w λe w'=>e=.returned (.tuple #[rowV (M.meet a b).1,rowV (M.meet a b).2,.bool (M.meets a b)])/\Below w.heap.size w w':=by
 have bad:M.meets a b=false->M.meet a b=(a,b):=λh=>by unfold M.meet;rw [if_pos h]
 by_cases h1:M.body a=true
 ·by_cases h2:M.body b=true
  ·by_cases h3:M.depth a.W b.W a.X b.X<1
   ·have m:M.meets a b=false:=by unfold M.meets;simp [h1,h2];omega
    rw [m,bad m];exact rmeet_bad3 a b w h1 h2 h3
   ·by_cases h4:M.depth a.H b.H a.Y b.Y<1
    ·have m:M.meets a b=false:=by unfold M.meets;simp [h1,h2];omega
     rw [m,bad m];exact rmeet_bad4 a b w h1 h2 bO h4
    ·have m:M.meets a b=true:=by unfold M.meets;simp [h1,h2];omega
     have f1:=body_facts h1
     have f2:=body_facts h2
     rw [m]
     by_cases h5:0<a.M+b.M
     ·have E:M.meet a b=M.meetR a b:=by unfold M.meet;rw [if_neg (by rw [m];decide),if_neg bO]
      rw [E];exact rmeet_move a b w h1 h2 bO bO h5
     ·have E:M.meet a b=(a,b):=by unfold M.meet;rw [if_neg (by rw [m];decide),if_pos bO]
      rw [E];exact rmeet_fixed a b w h1 h2 bO bO bO bO
  ·have h2':M.body b=false:=by simpa using h2
   have m:M.meets a b=false:=by unfold M.meets;simp [h1,h2']
   rw [m,bad m];exact rmeet_bad2 a b w h1 h2'
 ·have h1':M.body a=false:=by simpa using h1
  have m:M.meets a b=false:=by unfold M.meets;simp [h1']
  rw [m,bad m];exact rmeet_bad1 a b w h1'
end Go.Proofs.YtemkbjaojinaoaaGreat
