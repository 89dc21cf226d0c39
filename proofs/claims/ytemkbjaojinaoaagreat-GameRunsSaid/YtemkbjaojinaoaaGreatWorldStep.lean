/- The contract of world.Step. Condition: the world's store is read in blocks of a set; its numbers are of 64 bits. -/
import Derived.Test.YtemkbjaojinaoaaGreatShort
import Derived.Test.YtemkbjaojinaoaaGreatBagMc
import Derived.Test.YtemkbjaojinaoaaGreatWorldMeets
import Derived.Test.YtemkbjaojinaoaaGreatBagG
import Derived.Test.YtemkbjaojinaoaaGreatBagWo
set_option linter.unusedVariables false
set_option linter.unusedSimpArgs false
set_option maxRecDepth 100000
set_option maxHeartbeats 4000000
namespace Go.Proofs.YtemkbjaojinaoaaGreat
open Go.RowKit
theorem step_var {W:World} {g1 g2 g5:Nat} (u0 u3 u4 u6 u7 u8 u9 u10 u11 u12 u13 u14 u15 u16 u17 u18 u19 u20 u21 u22 u23 u24 u25 u26 u27 u28 u29 u30 u31 u32 u33 u34 u35 u36 u37 u38 u39 u40 u41 u42 u43 u44 u45 u46 u47 u48 u49 u50 u51 u52 u53 u54 u55 u56 u57 u58 u59 u60 u61 u62 u63 u64 u65 u66 u67 u68 u69 u70 u71 u72 u73 u74 u75 u76 u77 u78 u79 u80 u81 u82 u83 u84 u85 u86 u87 u88 u89 u90 u91 u92 u93 u94 u95 u96 u97 u98 u99 u100 u101 u102 u103 u104 u105 u106 u107 u108 u109 u110 u111 u112 u113 u114 u115 u116 u117 u118 u119 u120 u121 u122 u123 u124 u125 u126 u127 u128 u129 u130 u131 u132 u133 u134 u135 u136 u137 u138 u139 u140 u141 u142 u143 u144 u145 u146 u147 u148 u149 u150 u151 u152 u153 u154 u155 u156 u157 u158 u159 u160 u161 u162 u163 u164 u165 u166 u167 u168 u169 u170 u171 u172 u173 u174 u175 u176 u177 u178 u179 u180 u181 u182 u183 u184 u185 u186 u187 u188:Value) {K:Act->World->Prop} {Q:Exit->Act->World->Prop} (hK:K ⟨List.toArray (u0::.pointer (some ⟨g1,0,none⟩)::.pointer (some ⟨g2,0,none⟩)::u3::u4::.pointer (some ⟨g5,0,none⟩)::u6::u7::u8::u9::u10::u11::u12::.slice none 0 0::u14::u15::u16::u17::u18::u19::u20::u21::u22::u23::u24::u25::u26::u27::u28::u29::u30::u31::u32::u33::u34::u35::u36::u37::u38::u39::u40::u41::u42::u43::u44::u45::u46::u47::u48::u49::u50::u51::u52::u53::u54::u55::u56::u57::u58::u59::u60::u61::u62::u63::u64::u65::u66::u67::u68::u69::u70::u71::u72::u73::u74::u75::u76::u77::u78::u79::u80::u81::u82::u83::u84::u85::u86::u87::u88::u89::u90::u91::u92::u93::u94::u95::u96::u97::u98::u99::u100::u101::u102::u103::u104::u105::u106::u107::u108::u109::u110::u111::u112::u113::u114::u115::u116::u117::u118::u119::u120::u121::u122::u123::u124::u125::u126::u127::u128::u129::u130::u131::u132::u133::u134::u135::u136::u137::u138::u139::u140::u141::u142::u143::u144::u145::u146::u147::u148::u149::u150::u151::u152::u153::u154::u155::u156::u157::u158::u159::u160::u161::u162::u163::u164::u165::u166::u167::u168::u169::u170::u171::u172::u173::u174::u175::u176::u177::u178::u179::u180::u181::u182::u183::u184::u185::u186::u187::u188::[]),[]⟩ W):Code.wp Tryz.prog (headS 4) (Exit.then K Q) ⟨List.toArray (u0::.pointer (some ⟨g1,0,none⟩)::.pointer (some ⟨g2,0,none⟩)::u3::u4::.pointer (some ⟨g5,0,none⟩)::u6::u7::u8::u9::u10::u11::u12::u13::u14::u15::u16::u17::u18::u19::u20::u21::u22::u23::u24::u25::u26::u27::u28::u29::u30::u31::u32::u33::u34::u35::u36::u37::u38::u39::u40::u41::u42::u43::u44::u45::u46::u47::u48::u49::u50::u51::u52::u53::u54::u55::u56::u57::u58::u59::u60::u61::u62::u63::u64::u65::u66::u67::u68::u69::u70::u71::u72::u73::u74::u75::u76::u77::u78::u79::u80::u81::u82::u83::u84::u85::u86::u87::u88::u89::u90::u91::u92::u93::u94::u95::u96::u97::u98::u99::u100::u101::u102::u103::u104::u105::u106::u107::u108::u109::u110::u111::u112::u113::u114::u115::u116::u117::u118::u119::u120::u121::u122::u123::u124::u125::u126::u127::u128::u129::u130::u131::u132::u133::u134::u135::u136::u137::u138::u139::u140::u141::u142::u143::u144::u145::u146::u147::u148::u149::u150::u151::u152::u153::u154::u155::u156::u157::u158::u159::u160::u161::u162::u163::u164::u165::u166::u167::u168::u169::u170::u171::u172::u173::u174::u175::u176::u177::u178::u179::u180::u181::u182::u183::u184::u185::u186::u187::u188::[]),[]⟩ W:=by
 conv=>arg 2;whnf
 go_wp2_with fail
 exact hK
theorem bodyPost_weak {P:Program} {fn:Func} {R R':Ending->World->Prop} (h:∀e w,R e w->R' e w):∀e a w,bodyPost P fn R e a w->bodyPost P fn R' e a w
 | .normal,_,_,⟨h1,v,h2,h3⟩=>⟨h1,v,h2,h _ _ h3⟩
 | .ret,_,_,⟨h1,v,h2,h3⟩=>⟨h1,v,h2,h _ _ h3⟩
 | .panic _,_,_,⟨h1,h2⟩=>⟨h1,h _ _ h2⟩
 | .outgrown,_,_,h1=>h _ _ h1
 | .exit _,_,_,h1=>h1.elim
theorem tailS_3:tailS 3=.seq (headS 3) (tailS 4):=by kernel_rfl
theorem tailS_4:tailS 4=.seq (headS 4) (tailS 5):=by kernel_rfl
theorem tailS_5:tailS 5=.seq (headS 5) (tailS 6):=by kernel_rfl
theorem tailS_6:tailS 6=.seq (headS 6) (tailS 7):=by kernel_rfl
def StepPost (P:Nat->Prop) (w:World) (d:M.Wd) (e:Ending) (w':World):Prop:=∃(a':Option Addr) (c':Nat) (vo:Value),e=.returned (.tuple #[wdV (.slice a' (M.step d).1.things.tables.length c') (M.step d).1,vo,.int .i64 (M.step d).2.2])/\Rob w' (λg=>(P g\/w.heap.size<=g)/\vo.ownBlock≠some g) (stV a' c' (M.step d).1.things) (M.step d).1.things/\w'.ownsRow w.heap.size 71 2 vo (M.step d).2.1.length ((M.step d).2.1.flatMap pairL)/\Below w.heap.size w w'
theorem step_from3 {P:Nat->Prop} {w W:World} {g1 g2 g5:Nat} {t0:Value} {n0:Int} {z0 z1 z2 z3 z4:Value} {d:M.Wd} {a:Option Addr} {c:Nat} (u0 u3 u4 u6 u7 u8 u9 u10 u11 u12 u13 u14 u15 u16 u17 u18 u19 u20 u21 u22 u23 u24 u25 u26 u27 u28 u29 u30 u31 u32 u33 u34 u35 u36 u37 u38 u39 u40 u41 u42 u43 u44 u45 u46 u47 u48 u49 u50 u51 u52 u53 u54 u55 u56 u57 u58 u59 u60 u61 u62 u63 u64 u65 u66 u67 u68 u69 u70 u71 u72 u73 u74 u75 u76 u77 u78 u79 u80 u81 u82 u83 u84 u85 u86 u87 u88 u89 u90 u91 u92 u93 u94 u95 u96 u97 u98 u99 u100 u101 u102 u103 u104 u105 u106 u107 u108 u109 u110 u111 u112 u113 u114 u115 u116 u117 u118 u119 u120 u121 u122 u123 u124 u125 u126 u127 u128 u129 u130 u131 u132 u133 u134 u135 u136 u137 u138 u139 u140 u141 u142 u143 u144 u145 u146 u147 u148 u149 u150 u151 u152 u153 u154 u155 u156 u157 u158 u159 u160 u161 u162 u163 u164 u165 u166 u167 u168 u169 u170 u171 u172 u173 u174 u175 u176 u177 u178 u179 u180 u181 u182 u183 u184 u185 u186 u187 u188:Value) (h:St P w W g1 g2 g5 t0 n0 d.fall d.wide d.high z0 z1 z2 z3 z4 (.slice none 0 0) [] a c d.things) (hg:M.goodW d=true):
  Code.wp Tryz.prog (tailS 3) (bodyPost Tryz.prog Tryz.f49 (StepPost P w d)) ⟨List.toArray (u0::.pointer (some ⟨g1,0,none⟩)::.pointer (some ⟨g2,0,none⟩)::u3::u4::.pointer (some ⟨g5,0,none⟩)::u6::u7::u8::u9::u10::u11::u12::u13::u14::u15::u16::u17::u18::u19::u20::u21::u22::u23::u24::u25::u26::u27::u28::u29::u30::u31::u32::u33::u34::u35::u36::u37::u38::u39::u40::u41::u42::u43::u44::u45::u46::u47::u48::u49::u50::u51::u52::u53::u54::u55::u56::u57::u58::u59::u60::u61::u62::u63::u64::u65::u66::u67::u68::u69::u70::u71::u72::u73::u74::u75::u76::u77::u78::u79::u80::u81::u82::u83::u84::u85::u86::u87::u88::u89::u90::u91::u92::u93::u94::u95::u96::u97::u98::u99::u100::u101::u102::u103::u104::u105::u106::u107::u108::u109::u110::u111::u112::u113::u114::u115::u116::u117::u118::u119::u120::u121::u122::u123::u124::u125::u126::u127::u128::u129::u130::u131::u132::u133::u134::u135::u136::u137::u138::u139::u140::u141::u142::u143::u144::u145::u146::u147::u148::u149::u150::u151::u152::u153::u154::u155::u156::u157::u158::u159::u160::u161::u162::u163::u164::u165::u166::u167::u168::u169::u170::u171::u172::u173::u174::u175::u176::u177::u178::u179::u180::u181::u182::u183::u184::u185::u186::u187::u188::[]),[]⟩ W:=by
 have gw:=M.goodW_iff.1 hg
 rw [tailS_3]
 refine wp_seq (step_go _ _ _ _ _ _ _ _ _ _ _ _ _ _ _ _ _ _ _ _ _ _ _ _ _ _ _ _ _ _ _ _ _ _ _ _ _ _ _ _ _ _ _ _ _ _ _ _ _ _ _ _ _ _ _ _ _ _ _ _ _ _ _ _ _ _ _ _ _ _ _ _ _ _ _ _ _ _ _ _ _ _ _ _ _ _ _ _ _ _ _ _ _ _ _ _ _ _ _ _ _ _ _ _ _ _ _ _ _ _ _ _ _ _ _ _ _ _ _ _ _ _ _ _ _ _ _ _ _ _ _ _ _ _ _ _ _ _ _ _ _ _ _ _ _ _ _ _ _ _ _ _ _ _ _ _ _ _ _ _ _ _ _ _ _ _ _ _ _ _ _ _ _ _ _ _ _ _ _ _ _ _ _ _ _ _ h gw.fall ?_)
 intro u0 u3 u4 u6 u7 u8 u9 u10 u11 u12 u13 u14 u15 u16 u17 u18 u19 u20 u21 u22 u23 u24 u25 u26 u27 u28 u29 u30 u31 u32 u33 u34 u35 u36 u37 u38 u39 u40 u41 u42 u43 u44 u45 u46 u47 u48 u49 u50 u51 u52 u53 u54 u55 u56 u57 u58 u59 u60 u61 u62 u63 u64 u65 u66 u67 u68 u69 u70 u71 u72 u73 u74 u75 u76 u77 u78 u79 u80 u81 u82 u83 u84 u85 u86 u87 u88 u89 u90 u91 u92 u93 u94 u95 u96 u97 u98 u99 u100 u101 u102 u103 u104 u105 u106 u107 u108 u109 u110 u111 u112 u113 u114 u115 u116 u117 u118 u119 u120 u121 u122 u123 u124 u125 u126 u127 u128 u129 u130 u131 u132 u133 u134 u135 u136 u137 u138 u139 u140 u141 u142 u143 u144 u145 u146 u147 u148 u149 u150 u151 u152 u153 u154 u155 u156 u157 u158 u159 u160 u161 u162 u163 u164 u165 u166 u167 u168 u169 u170 u171 u172 u173 u174 u175 u176 u177 u178 u179 u180 u181 u182 u183 u184 u185 u186 u187 u188 W' a1 c1 x1 hx1 h1
 rw [tailS_4]
 refine wp_seq (step_var _ _ _ _ _ _ _ _ _ _ _ _ _ _ _ _ _ _ _ _ _ _ _ _ _ _ _ _ _ _ _ _ _ _ _ _ _ _ _ _ _ _ _ _ _ _ _ _ _ _ _ _ _ _ _ _ _ _ _ _ _ _ _ _ _ _ _ _ _ _ _ _ _ _ _ _ _ _ _ _ _ _ _ _ _ _ _ _ _ _ _ _ _ _ _ _ _ _ _ _ _ _ _ _ _ _ _ _ _ _ _ _ _ _ _ _ _ _ _ _ _ _ _ _ _ _ _ _ _ _ _ _ _ _ _ _ _ _ _ _ _ _ _ _ _ _ _ _ _ _ _ _ _ _ _ _ _ _ _ _ _ _ _ _ _ _ _ _ _ _ _ _ _ _ _ _ _ _ _ _ _ _ _ _ _ _ ?_)
 rw [tailS_5]
 refine wp_seq (step_meets _ _ _ _ _ _ _ _ _ _ _ _ _ _ _ _ _ _ _ _ _ _ _ _ _ _ _ _ _ _ _ _ _ _ _ _ _ _ _ _ _ _ _ _ _ _ _ _ _ _ _ _ _ _ _ _ _ _ _ _ _ _ _ _ _ _ _ _ _ _ _ _ _ _ _ _ _ _ _ _ _ _ _ _ _ _ _ _ _ _ _ _ _ _ _ _ _ _ _ _ _ _ _ _ _ _ _ _ _ _ _ _ _ _ _ _ _ _ _ _ _ _ _ _ _ _ _ _ _ _ _ _ _ _ _ _ _ _ _ _ _ _ _ _ _ _ _ _ _ _ _ _ _ _ _ _ _ _ _ _ _ _ _ _ _ _ _ _ _ _ _ _ _ _ _ _ _ _ _ _ _ _ _ _ _ h1 ?_)
 intro u0 u3 u4 u6 u7 u8 u9 u10 u11 u12 u14 u15 u16 u17 u18 u19 u20 u21 u22 u23 u24 u25 u26 u27 u28 u29 u30 u31 u32 u33 u34 u35 u36 u37 u38 u39 u40 u41 u42 u43 u44 u45 u46 u47 u48 u49 u50 u51 u52 u53 u54 u55 u56 u57 u58 u59 u60 u61 u62 u63 u64 u65 u66 u67 u68 u69 u70 u71 u72 u73 u74 u75 u76 u77 u78 u79 u80 u81 u82 u83 u84 u85 u86 u87 u88 u89 u90 u91 u92 u93 u94 u95 u96 u97 u98 u99 u100 u101 u102 u103 u104 u105 u106 u107 u108 u109 u110 u111 u112 u113 u114 u115 u116 u117 u118 u119 u120 u121 u122 u123 u124 u125 u126 u127 u128 u129 u130 u131 u132 u133 u134 u135 u136 u137 u138 u139 u140 u141 u142 u143 u144 u145 u146 u147 u148 u149 u150 u151 u152 u153 u154 u155 u156 u157 u158 u159 u160 u161 u162 u163 u164 u165 u166 u167 u168 u169 u170 u171 u172 u173 u174 u175 u176 u177 u178 u179 u180 u181 u182 u183 u184 u185 u186 u187 u188 W2 a2 c2 x2 vo l2 hx2 h2
 rw [tailS_6]
 refine wp_seq (step_walls _ _ _ _ _ _ _ _ _ _ _ _ _ _ _ _ _ _ _ _ _ _ _ _ _ _ _ _ _ _ _ _ _ _ _ _ _ _ _ _ _ _ _ _ _ _ _ _ _ _ _ _ _ _ _ _ _ _ _ _ _ _ _ _ _ _ _ _ _ _ _ _ _ _ _ _ _ _ _ _ _ _ _ _ _ _ _ _ _ _ _ _ _ _ _ _ _ _ _ _ _ _ _ _ _ _ _ _ _ _ _ _ _ _ _ _ _ _ _ _ _ _ _ _ _ _ _ _ _ _ _ _ _ _ _ _ _ _ _ _ _ _ _ _ _ _ _ _ _ _ _ _ _ _ _ _ _ _ _ _ _ _ _ _ _ _ _ _ _ _ _ _ _ _ _ _ _ _ _ _ _ _ _ _ _ h2 gw.wide gw.high ?_)
 intro u0 u3 u4 u6 u7 u8 u9 u10 u11 u12 u14 u15 u16 u17 u18 u19 u20 u21 u22 u23 u24 u25 u26 u27 u28 u29 u30 u31 u32 u33 u34 u35 u36 u37 u38 u39 u40 u41 u42 u43 u44 u45 u46 u47 u48 u49 u50 u51 u52 u53 u54 u55 u56 u57 u58 u59 u60 u61 u62 u63 u64 u65 u66 u67 u68 u69 u70 u71 u72 u73 u74 u75 u76 u77 u78 u79 u80 u81 u82 u83 u84 u85 u86 u87 u88 u89 u90 u91 u92 u93 u94 u95 u96 u97 u98 u99 u100 u101 u102 u103 u104 u105 u106 u107 u108 u109 u110 u111 u112 u113 u114 u115 u116 u117 u118 u119 u120 u121 u122 u123 u124 u125 u126 u127 u128 u129 u130 u131 u132 u133 u134 u135 u136 u137 u138 u139 u140 u141 u142 u143 u144 u145 u146 u147 u148 u149 u150 u151 u152 u153 u154 u155 u156 u157 u158 u159 u160 u161 u162 u163 u164 u165 u166 u167 u168 u169 u170 u171 u172 u173 u174 u175 u176 u177 u178 u179 u180 u181 u182 u183 u184 u185 u186 u187 u188 W3 a3 c3 x3 hx3 h3
 refine Code.wp_mono ?_ (step_ret _ _ _ _ _ _ _ _ _ _ _ _ _ _ _ _ _ _ _ _ _ _ _ _ _ _ _ _ _ _ _ _ _ _ _ _ _ _ _ _ _ _ _ _ _ _ _ _ _ _ _ _ _ _ _ _ _ _ _ _ _ _ _ _ _ _ _ _ _ _ _ _ _ _ _ _ _ _ _ _ _ _ _ _ _ _ _ _ _ _ _ _ _ _ _ _ _ _ _ _ _ _ _ _ _ _ _ _ _ _ _ _ _ _ _ _ _ _ _ _ _ _ _ _ _ _ _ _ _ _ _ _ _ _ _ _ _ _ _ _ _ _ _ _ _ _ _ _ _ _ _ _ _ _ _ _ _ _ _ _ _ _ _ _ _ _ _ _ _ _ _ _ _ _ _ _ _ _ _ _ _ _ _ _ _ h3)
 have hmet:M.met d=(x2,l2):=by
  unfold M.met
  rw [hx2,show M.gone d=x1 from hx1.symm]
 have hs:M.step d=({d with things:=x3},l2,0):=by
  unfold M.step
  rw [if_pos hg]
  unfold M.ends
  rw [hmet,hx3]
 refine λe a w'=>bodyPost_weak ?_ e a w'
 rintro e w' ⟨he,hr,hb,hv,hz⟩
 refine ⟨a3,c3,vo,?_,?_,?_,hb⟩
 ·rw [hs];exact he
 ·rw [hs];exact hr.wide (λg _ k=>⟨k.1,k.2.2⟩)
 ·rw [hs]
  exact own_same h3.own (λg k=>hv g (h3.own.lt g k).1 (h3.ov g k).1 (h3.ov g k).2.1)
def AtGo (P:Nat->Prop) (w:World) (a:Option Addr) (c:Nat) (d:M.Wd) (p1 p2 p5:Value) (W:World):Prop:=∃g5,p1=.pointer (some ⟨w.heap.size,0,none⟩)/\p2=.pointer (some ⟨w.heap.size+1,0,none⟩)/\p5=.pointer (some ⟨g5,0,none⟩)/\St P w W w.heap.size (w.heap.size+1) g5 (.slice a d.things.tables.length c) d.things.next d.fall d.wide d.high (.slice none 0 0) (.int .i64 0) (.int .i64 0) (.int .i64 0) (.int .i64 0) (.slice none 0 0) [] a c d.things
theorem step_calls {P:Nat->Prop} {w:World} {a:Option Addr} {c:Nat} {d:M.Wd} (h:Rob w P (stV a c d.things) d.things) (hin:StoreIn d.things):
  Calls Tryz.prog 49 #[wdV (.slice a d.things.tables.length c) d] w (StepPost P w d):=by
 have HG:=hI (λW (hb:Below w.heap.size w W)=>goodWorld_calls (h.at_.below hb) hin)
 have H:=hI h
 obtain ⟨g,hg⟩:∃g,M.goodW d=g:=⟨_,rfl⟩
 have HGW:=hI hg
 rw [hg] at HG
 clear h hin hg
 cases g
 ·go_enter Tryz.func49,Tryz.ntmps49
  go_wp2_with (go_at_call 15;go_loud (refine (HG.out _ bel9).mono ?_;rintro e w1 ⟨rfl,hb1⟩;have b1:Blk w1 w.heap.size 53 #[.slice a d.things.tables.length c,.int .i64 d.things.next,.int .i64 d.fall,.int .i64 d.wide,.int .i64 d.high]:=Blk.below (Blk.alloc (Blk.new_at rfl) _) hb1 sid9;have b2:Blk w1 (w.heap.size+1) 53 #[.slice none 0 0,.int .i64 0,.int .i64 0,.int .i64 0,.int .i64 0]:=Blk.below (Blk.new_at sS) hb1 sid9;have HB1:=hI b1;have HB2:=hI b2;have y0:=b1.cell 0;have y1:=b1.cell 1;have y2:=b1.cell 2;have y3:=b1.cell 3;have y4:=b1.cell 4;have z0:=b2.cell 0;have z1:=b2.cell 1;have z2:=b2.cell 2;have z3:=b2.cell 3;have z4:=b2.cell 4;have zf:=(λi=>b2.free i);simp at y0 y1 y2 y3 y4 z0 z1 z2 z3 z4;have ly:=b1.lt;have lz:=b2.lt;clear b1 b2;have K1:Below w.heap.size w w1:=(show Below w.heap.size w _ from bel9).trans (hb1.mono sid9);have kz1:=K1.size;have hz1:=hb1.size;(try simp at hz1)))
  have hs:M.step d=(d,[],1):=M.step_bad HGW.out
  have hg2:∀U,U=(((((w1.setCell ⟨w.heap.size+1,0,none⟩ (.slice a d.things.tables.length c)).setCell ⟨w.heap.size+1,1,none⟩ (.int .i64 d.things.next)).setCell ⟨w.heap.size+1,2,none⟩ (.int .i64 d.fall)).setCell ⟨w.heap.size+1,3,none⟩ (.int .i64 d.wide)).setCell ⟨w.heap.size+1,4,none⟩ (.int .i64 d.high))->U.heap[w.heap.size+1]?=some (.cells #[.slice a d.things.tables.length c,.int .i64 d.things.next,.int .i64 d.fall,.int .i64 d.wide,.int .i64 d.high] 53 (0,0)):=by
   rintro U rfl
   exact blk_to (((((HB2.out.put 0 (.slice a d.things.tables.length c)).put 1 (.int .i64 d.things.next)).put 2 (.int .i64 d.fall)).put 3 (.int .i64 d.wide)).put 4 (.int .i64 d.high)) (by rfl)
  have HBF:Below w.heap.size w (((((w1.setCell ⟨w.heap.size+1,0,none⟩ (.slice a d.things.tables.length c)).setCell ⟨w.heap.size+1,1,none⟩ (.int .i64 d.things.next)).setCell ⟨w.heap.size+1,2,none⟩ (.int .i64 d.fall)).setCell ⟨w.heap.size+1,3,none⟩ (.int .i64 d.wide)).setCell ⟨w.heap.size+1,4,none⟩ (.int .i64 d.high)):=
   ((((K1.setCell (Nat.le_succ _) _).setCell (Nat.le_succ _) _).setCell (Nat.le_succ _) _).setCell (Nat.le_succ _) _).setCell (Nat.le_succ _) _
  refine bodyPost_ret (results_cell_tmp2 (p:=2) (ty:=53) (u:=3) (x:=4) rfl _ _ (w.heap.size+1) 53 _ (0,0) _ rfl (hg2 _ rfl) Tryz.underlying53 rfl kR) rfl ?_
  refine ⟨a,c,.slice none 0 0,by rw [hs];rfl,?_,by rw [hs];exact World.ownsRow_nil _ _ _ _,HBF⟩
  rw [hs]
  exact (H.out.step HBF.size (λg h1 _=>HBF.block g h1)).wide (λg _ k=>⟨.inl k,λe=>by cases e⟩)
 ·go_enter Tryz.func49,Tryz.ntmps49
  go_upto_region 3 with (go_at_call 15;go_loud (refine (HG.out _ bel9).mono ?_;rintro e w1 ⟨rfl,hb1⟩;have b1:Blk w1 w.heap.size 53 #[.slice a d.things.tables.length c,.int .i64 d.things.next,.int .i64 d.fall,.int .i64 d.wide,.int .i64 d.high]:=Blk.below (Blk.alloc (Blk.new_at rfl) _) hb1 sid9;have b2:Blk w1 (w.heap.size+1) 53 #[.slice none 0 0,.int .i64 0,.int .i64 0,.int .i64 0,.int .i64 0]:=Blk.below (Blk.new_at sS) hb1 sid9;have HB1:=hI b1;have HB2:=hI b2;have y0:=b1.cell 0;have y1:=b1.cell 1;have y2:=b1.cell 2;have y3:=b1.cell 3;have y4:=b1.cell 4;have z0:=b2.cell 0;have z1:=b2.cell 1;have z2:=b2.cell 2;have z3:=b2.cell 3;have z4:=b2.cell 4;have zf:=(λi=>b2.free i);simp at y0 y1 y2 y3 y4 z0 z1 z2 z3 z4;have ly:=b1.lt;have lz:=b2.lt;clear b1 b2;have K1:Below w.heap.size w w1:=(show Below w.heap.size w _ from bel9).trans (hb1.mono sid9);have kz1:=K1.size;have hz1:=hb1.size;(try simp at hz1)))
  go_cut [1,2,5] (λp1 p2 p5 W=>AtGo P w a c d p1 p2 p5 W)
  case first=>
   go_wp2_with fail
   go_meet
   refine ⟨_,rfl,rfl,rfl,?_,?_,?_,?_,(M.goodW_iff.1 HGW.out).things,?_,Nat.le_refl _,Nat.le_succ _,?_,?_,?_,?_,World.ownsRow_nil _ _ _ _,λg e=>by cases e⟩
   ·exact HB1.out.alloc _
   ·exact HB2.out.alloc _
   ·exact Blk.new_at rfl
   ·exact (H.out.wide (R:=InQ P w w.heap.size (w.heap.size+1) w1.heap.size (.slice none 0 0)) (λg h1 k=>⟨.inl k,⟨by omega,by omega,by omega⟩,λe=>by cases e⟩)).step (show Below w.heap.size w _ from bel9).size (λg h1 _=>(show Below w.heap.size w _ from bel9).block g h1)
   ·exact bel9
   ·omega
   ·omega
   ·omega
   ·omega
  case rest=>
   obtain ⟨g5,rfl,rfl,rfl,h⟩:=hcut
   refine ‹∀(a:Act) (w:World),Code.wp _ _ _ a w->_› _ _ ?_
   exact step_from3 _ _ _ _ _ _ _ _ _ _ _ _ _ _ _ _ _ _ _ _ _ _ _ _ _ _ _ _ _ _ _ _ _ _ _ _ _ _ _ _ _ _ _ _ _ _ _ _ _ _ _ _ _ _ _ _ _ _ _ _ _ _ _ _ _ _ _ _ _ _ _ _ _ _ _ _ _ _ _ _ _ _ _ _ _ _ _ _ _ _ _ _ _ _ _ _ _ _ _ _ _ _ _ _ _ _ _ _ _ _ _ _ _ _ _ _ _ _ _ _ _ _ _ _ _ _ _ _ _ _ _ _ _ _ _ _ _ _ _ _ _ _ _ _ _ _ _ _ _ _ _ _ _ _ _ _ _ _ _ _ _ _ _ _ _ _ _ _ _ _ _ _ _ _ _ _ _ _ _ _ _ _ _ _ _ _ h HGW.out
theorem step_calls2 {P:Nat->Prop} {w:World} {a:Option Addr} {c:Nat} {d d':M.Wd} {l:List M.Pr} {k:Int} (h:Rob w P (stV a c d.things) d.things) (hin:StoreIn d.things) (hs:M.step d=(d',l,k)):
  Calls Tryz.prog 49 #[wdV (.slice a d.things.tables.length c) d] w λe w'=>∃(a':Option Addr) (c':Nat) (vo:Value),e=.returned (.tuple #[wdV (.slice a' d'.things.tables.length c') d',vo,.int .i64 k])/\Rob w' (λg=>(P g\/w.heap.size<=g)/\vo.ownBlock≠some g) (stV a' c' d'.things) d'.things/\w'.ownsRow w.heap.size 71 2 vo l.length (l.flatMap pairL)/\Below w.heap.size w w':=by
 have k:=step_calls h hin
 unfold StepPost at k
 rw [hs] at k
 exact k
end Go.Proofs.YtemkbjaojinaoaaGreat
