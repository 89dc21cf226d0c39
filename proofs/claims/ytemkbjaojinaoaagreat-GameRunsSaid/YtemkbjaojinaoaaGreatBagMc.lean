/- Several small texts in one. No condition of its own: each part says its own. -/
import Derived.Test.YtemkbjaojinaoaaGreatShort
import Derived.Test.YtemkbjaojinaoaaGreatBagG
import Derived.Test.YtemkbjaojinaoaaGreatBagSo
import Derived.StillTailTactics
import Derived.IntWalk
set_option linter.unusedVariables false
set_option linter.unusedSimpArgs false
set_option maxRecDepth 100000
set_option maxHeartbeats 8000000
namespace Go.Proofs.YtemkbjaojinaoaaGreat
open Go.RowKit
theorem step_go {P:Nat->Prop} {w W:World} {g1 g2 g5:Nat} {t0:Value} {n0 fall wide high:Int} {z0 z1 z2 z3 z4 vo:Value} {l:List M.Pr} {s:M.Store} {a:Option Addr} {c:Nat} (u0 u3 u4 u6 u7 u8 u9 u10 u11 u12 u13 u14 u15 u16 u17 u18 u19 u20 u21 u22 u23 u24 u25 u26 u27 u28 u29 u30 u31 u32 u33 u34 u35 u36 u37 u38 u39 u40 u41 u42 u43 u44 u45 u46 u47 u48 u49 u50 u51 u52 u53 u54 u55 u56 u57 u58 u59 u60 u61 u62 u63 u64 u65 u66 u67 u68 u69 u70 u71 u72 u73 u74 u75 u76 u77 u78 u79 u80 u81 u82 u83 u84 u85 u86 u87 u88 u89 u90 u91 u92 u93 u94 u95 u96 u97 u98 u99 u100 u101 u102 u103 u104 u105 u106 u107 u108 u109 u110 u111 u112 u113 u114 u115 u116 u117 u118 u119 u120 u121 u122 u123 u124 u125 u126 u127 u128 u129 u130 u131 u132 u133 u134 u135 u136 u137 u138 u139 u140 u141 u142 u143 u144 u145 u146 u147 u148 u149 u150 u151 u152 u153 u154 u155 u156 u157 u158 u159 u160 u161 u162 u163 u164 u165 u166 u167 u168 u169 u170 u171 u172 u173 u174 u175 u176 u177 u178 u179 u180 u181 u182 u183 u184 u185 u186 u187 u188:Value) (h:St P w W g1 g2 g5 t0 n0 fall wide high z0 z1 z2 z3 z4 vo l a c s) (hfl:-64<=fall/\fall<=64) {K:Act->World->Prop} {Q:Exit->Act->World->Prop}
  (hK:∀(u0 u3 u4 u6 u7 u8 u9 u10 u11 u12 u13 u14 u15 u16 u17 u18 u19 u20 u21 u22 u23 u24 u25 u26 u27 u28 u29 u30 u31 u32 u33 u34 u35 u36 u37 u38 u39 u40 u41 u42 u43 u44 u45 u46 u47 u48 u49 u50 u51 u52 u53 u54 u55 u56 u57 u58 u59 u60 u61 u62 u63 u64 u65 u66 u67 u68 u69 u70 u71 u72 u73 u74 u75 u76 u77 u78 u79 u80 u81 u82 u83 u84 u85 u86 u87 u88 u89 u90 u91 u92 u93 u94 u95 u96 u97 u98 u99 u100 u101 u102 u103 u104 u105 u106 u107 u108 u109 u110 u111 u112 u113 u114 u115 u116 u117 u118 u119 u120 u121 u122 u123 u124 u125 u126 u127 u128 u129 u130 u131 u132 u133 u134 u135 u136 u137 u138 u139 u140 u141 u142 u143 u144 u145 u146 u147 u148 u149 u150 u151 u152 u153 u154 u155 u156 u157 u158 u159 u160 u161 u162 u163 u164 u165 u166 u167 u168 u169 u170 u171 u172 u173 u174 u175 u176 u177 u178 u179 u180 u181 u182 u183 u184 u185 u186 u187 u188:Value) (W':World) (a':Option Addr) (c':Nat) (x:M.Store),x=(M.query s 11).foldl (M.goOn fall) s->St P w W' g1 g2 g5 t0 n0 fall wide high z0 z1 z2 z3 z4 vo l a' c' x->K ⟨List.toArray (u0::.pointer (some ⟨g1,0,none⟩)::.pointer (some ⟨g2,0,none⟩)::u3::u4::.pointer (some ⟨g5,0,none⟩)::u6::u7::u8::u9::u10::u11::u12::u13::u14::u15::u16::u17::u18::u19::u20::u21::u22::u23::u24::u25::u26::u27::u28::u29::u30::u31::u32::u33::u34::u35::u36::u37::u38::u39::u40::u41::u42::u43::u44::u45::u46::u47::u48::u49::u50::u51::u52::u53::u54::u55::u56::u57::u58::u59::u60::u61::u62::u63::u64::u65::u66::u67::u68::u69::u70::u71::u72::u73::u74::u75::u76::u77::u78::u79::u80::u81::u82::u83::u84::u85::u86::u87::u88::u89::u90::u91::u92::u93::u94::u95::u96::u97::u98::u99::u100::u101::u102::u103::u104::u105::u106::u107::u108::u109::u110::u111::u112::u113::u114::u115::u116::u117::u118::u119::u120::u121::u122::u123::u124::u125::u126::u127::u128::u129::u130::u131::u132::u133::u134::u135::u136::u137::u138::u139::u140::u141::u142::u143::u144::u145::u146::u147::u148::u149::u150::u151::u152::u153::u154::u155::u156::u157::u158::u159::u160::u161::u162::u163::u164::u165::u166::u167::u168::u169::u170::u171::u172::u173::u174::u175::u176::u177::u178::u179::u180::u181::u182::u183::u184::u185::u186::u187::u188::[]),[]⟩ W'):
  Code.wp Tryz.prog (headS 3) (Exit.then K Q) ⟨List.toArray (u0::.pointer (some ⟨g1,0,none⟩)::.pointer (some ⟨g2,0,none⟩)::u3::u4::.pointer (some ⟨g5,0,none⟩)::u6::u7::u8::u9::u10::u11::u12::u13::u14::u15::u16::u17::u18::u19::u20::u21::u22::u23::u24::u25::u26::u27::u28::u29::u30::u31::u32::u33::u34::u35::u36::u37::u38::u39::u40::u41::u42::u43::u44::u45::u46::u47::u48::u49::u50::u51::u52::u53::u54::u55::u56::u57::u58::u59::u60::u61::u62::u63::u64::u65::u66::u67::u68::u69::u70::u71::u72::u73::u74::u75::u76::u77::u78::u79::u80::u81::u82::u83::u84::u85::u86::u87::u88::u89::u90::u91::u92::u93::u94::u95::u96::u97::u98::u99::u100::u101::u102::u103::u104::u105::u106::u107::u108::u109::u110::u111::u112::u113::u114::u115::u116::u117::u118::u119::u120::u121::u122::u123::u124::u125::u126::u127::u128::u129::u130::u131::u132::u133::u134::u135::u136::u137::u138::u139::u140::u141::u142::u143::u144::u145::u146::u147::u148::u149::u150::u151::u152::u153::u154::u155::u156::u157::u158::u159::u160::u161::u162::u163::u164::u165::u166::u167::u168::u169::u170::u171::u172::u173::u174::u175::u176::u177::u178::u179::u180::u181::u182::u183::u184::u185::u186::u187::u188::[]),[]⟩ W:=by
 obtain ⟨qs,hqs⟩:∃qs,qs=M.query s 11:=⟨_,rfl⟩
 rw [←hqs] at hK
 have HQ:=hI (λU (hb:Below W.heap.size W U)=>query_calls (h.rob.at_.below hb) h.good 11)
 rw [←hqs] at HQ
 have H:=hI h
 have HKK:=hI hK
 have n15:=h.n15
 have k5:=h.b5.lt
 have k1:=h.b1.lt
 have k2:=h.b2.lt
 have c0:=h.b5.cell 0
 have c1:=h.b5.cell 1
 simp at c0 c1
 clear h hqs hK
 conv=>arg 2;whnf
 go_wp2_with (go_at_call 53;refine (HQ.out _ (Below.refl _ _)).mono ?_;rintro e w1 ⟨v1,rfl,ho1,hb1⟩;obtain ⟨a1,c1',rfl⟩:=own_form ho1;have kz1:=hb1.size)
 have HB1:=hI hb1
 have HO1:=hI ho1
 have hqm:qs.length<=9223372036854775807:=by
  have:=(Lies.of_owns ho1).2.1
  unfold maxLen at this
  omega
 clear hb1 ho1
 go_loopg [37] qs.length (λg i wr=>∃(n:Nat) (x:M.Store) (ax:Option Addr) (cx:Nat),n<=qs.length/\i=.int .i64 n/\g=qs.length-n/\x=(qs.take n).foldl (M.goOn fall) s/\St P w wr g1 g2 g5 t0 n0 fall wide high z0 z1 z2 z3 z4 vo l ax cx x/\But w1.heap.size g5 w1 wr)
 case atStart=>
  exact ⟨0,s,a,c,Nat.zero_le _,rfl,rfl,by simp,H.out.more HB1.out,But.refl _ _ _⟩
 case round=>
  obtain ⟨wo,hwo⟩:∃wo,wo=wr:=⟨_,rfl⟩
  subst hwo
  obtain ⟨n,x,ax,cx,hn,rfl,hgk,hx,hst,hbut⟩:=hrel
  have HN:=hI hgk
  have HX:=hI hx
  have HST:=hI hst
  have HBUT:=hI hbut
  have kz2:=hbut.size
  clear hgk hx hst hbut
  rcases Nat.lt_or_ge n qs.length with hlt|hge
  ·have f2:=HST.out.b1.cell 2
   have e0:=HST.out.b5.cell 0
   have e1:=HST.out.b5.cell 1
   have ef:=λi=>HST.out.b5.free i
   have k1o:=HST.out.b1.lt
   have k5o:=HST.out.b5.lt
   have hbx:=hI HST.out.newQ
   simp at e0 e1 f2
   obtain ⟨id,hid⟩:∃id,qs[n]?=some id:=⟨_,List.getElem?_eq_getElem hlt⟩
   obtain ⟨gq,cq,e1q,hgq0,hgq⟩:=own_val HO1.out bO
   simp only [Value.slice.injEq,true_and] at e1q
   obtain ⟨rfl,rfl⟩:=e1q
   have hcell:wo.cell? ⟨gq,n,none⟩=some (.int .i64 id):=by
    have hb:=HBUT.out.block gq hgq bO
    rw [World.cell?_of_block (a:=⟨gq,n,none⟩) hb,HO1.out.cellAt n bO,List.getElem?_map,hid];rfl
   obtain ⟨m,r,b,hget⟩:∃m r b,M.get x id=(m,r,b):=⟨_,_,_,rfl⟩
   have hsm:M.Small r:=by have k:=M.get_small HST.out.good id;rw [hget] at k;exact k
   have HGI:=hI (λU (hb:Below wo.heap.size wo U)=>get_calls (HST.out.rob.at_.below hb) id)
   rw [hget] at HGI
   simp only at HGI
   have hfm:IntKind.i64.wrap (fall*r.M)=fall*r.M:=by
    obtain ⟨_,_,_,d7,d8⟩:=hsm
    have:=M.mul_bd fall r.M 64 9 bO bO bO bO
    exact IntWalk.i64_in _ bO
   obtain ⟨x',code,hset⟩:∃x' code,M.set x id (M.goneRow fall m r)=(x',code):=⟨_,_,rfl⟩
   have HSI:=hI (λU (hb:Below wo.heap.size wo U)=>set_calls (HST.out.rob.at_.below hb) (good_in HST.out.good) id (M.goneRow fall m r))
   rw [hset] at HSI
   simp only at HSI
   have HX2:Hid (x'=(qs.take (n+1)).foldl (M.goOn fall) s/\M.GoodS x'):=hI (by
    refine ⟨?_,?_⟩
    ·rw [List.take_add_one,hid]
     simp only [Option.toList_some,List.foldl_append,List.foldl_cons,List.foldl_nil]
     rw [←HX.out]
     unfold M.goOn
     rw [hget]
     simp only
     rw [hset]
    ·have:=M.set_good HST.out.good id (M.goneRow fall m r)
     rw [hset] at this
     exact this)
   clear hset hget hid hsm
   cases hbit:M.bit m 16
   ·have hwr:M.goneRow fall m r=⟨M.add r.X (M.part r.PX 1 r.M) 1048576,M.add r.Y (M.part (r.PY) 1 r.M) 1048576,r.PX,r.PY,r.W,r.H,r.M,r.R⟩:=by unfold M.goneRow;rw [hbit];rfl
    rw [hwr] at HSI
    have qb:(bits .and .i64 m 16 !=0)=false:=hbit
    clear hwr hbit
    go_upto_region 11 with (first|(go_at_call 17;go_loud (refine (HGI.out _ (Below.refl _ _)).mono ?_;rintro e w6 ⟨rfl,hb6⟩;have K6:Below wo.heap.size wo w6:=hb6;have hz6:=hb6.size;have l61:g1<w6.heap.size:=bO;have l65:g5<w6.heap.size:=bO;have n61:¬g1=w6.heap.size:=bO;have n65:¬g5=w6.heap.size:=bO;have n66:¬w6.heap.size=g1:=bO;have n67:¬w6.heap.size=g5:=bO;have f62:=(hb6.cell (p:=⟨g1,2,none⟩) k1o).trans f2))|(go_at_call 47;go_loud (refine (add_calls _ _ _ _).mono ?_;rintro e w' ⟨rfl,rfl⟩))|(go_at_call 77;go_loud (refine (speed_calls ⟨r.X,r.Y,r.PX,r.PY,r.W,r.H,r.M,r.R⟩ _).mono ?_;rintro e w8 ⟨rfl,hb8⟩;have K8:Below wo.heap.size wo w8:=(show Below wo.heap.size wo _ from bel9).trans (hb8.mono sid9);have b9:Blk w8 w6.heap.size 38 (rowC ⟨r.X,r.Y,r.PX,r.PY,r.W,r.H,r.M,r.R⟩):=(by apply blk_to;(repeat first|with_reducible apply Blk.below (hb:=hb8) (hg:=sid9)|with_reducible apply Blk.put|with_reducible apply Blk.drew|with_reducible exact Blk.new_at (h:=rO));rfl))))
    refine wp_called (λW2 hW2=>?_)
    have K2:Below wo.heap.size wo W2:=by rw [hW2];exact K8
    have b9:Blk W2 w6.heap.size 38 (rowC ⟨r.X,r.Y,r.PX,r.PY,r.W,r.H,r.M,r.R⟩):=by rw [hW2];exact b9
    have kz3:=K2.size
    have l9:=b9.lt
    have e0:=(K2.cell (p:=⟨g5,0,none⟩) k5o).trans e0
    have e1:=(K2.cell (p:=⟨g5,1,none⟩) k5o).trans e1
    have l25:g5<W2.heap.size:=by omega
    have y9:=λi=>b9.free i
    obtain ⟨y0,y1,y2,y3,y4,y5,y6,y7⟩:=row_at b9
    have HB9:=hI b9
    clear hW2 b9 K8 hb8 hb6 f62 f2 hfm qb hcell
    go_still_tail 9,kR
    refine wpStill_step (λK hK=>?_)
    go_simp
    refine ⟨_,(add_calls _ _ _ _).mono (λe w' h=>⟨h.1,h.2.symm⟩),hK _ ?_⟩
    clear hK K
    repeat still_step
    refine wpStill_step (λK hK=>?_)
    go_simp
    refine ⟨_,(add_calls _ _ _ _).mono (λe w' h=>⟨h.1,h.2.symm⟩),hK _ ?_⟩
    clear hK K
    repeat still_step
    refine wpStill_nil ?_
    change wpList _ _ _ _ _ W2.drew
    go_wp2_with (go_at_call 48;go_loud (refine (HSI.out _ bel9).mono ?_;rintro e w7 ⟨v7,rfl,⟨hs7,hn7⟩,hb7⟩;obtain ⟨a7,c7,rfl⟩:=hs7.form;have HN7:=hI (HST.out.rob.set bel9 hb7 hn7 hbx.out);have K7:Below wo.heap.size wo w7:=(show Below wo.heap.size wo _ from bel9).trans (hb7.mono sid9);have kz7:=K7.size;have b75:=HST.out.b5.below K7 k5o;have y0:=b75.cell 0;have y1:=b75.cell 1;(try simp at y0 y1);have yf:=(λi=>b75.free i);have ly:=b75.lt;clear hs7 hn7))
    go_roundg (qs.length-(n+1))
    case measure=>rw [HN.out];omega
    case rel=>
     have hbw:=But.of_below (sb:=g5) K7 lR
     refine ⟨n+1,x',a7,c7,by omega,by go_num,rfl,HX2.out.1,HST.out.next ((hbw.setCell (.inr rfl) _).setCell (.inr rfl) _) ?_ ?_ HX2.out.2,(HBUT.out.trans (But.of_below K7 kz2)).setCell (.inr rfl) _|>.setCell (.inr rfl) _⟩
     ·have:=(b75.put 0 (.slice a7 x'.tables.length c7)).put 1 (.int .i64 x'.next)
      simpa using this
     ·refine HN7.out.step sS (λg h1 h2=>?_)
      rw [bS _ _ _ _ h2.2.1.2.2,bS _ _ _ _ h2.2.1.2.2]
   ·have hwr:M.goneRow fall m r=⟨M.add r.X (M.part r.PX 1 r.M) 1048576,M.add r.Y (M.part (M.add r.PY (fall*r.M) 16777216) 1 r.M) 1048576,r.PX,M.add r.PY (fall*r.M) 16777216,r.W,r.H,r.M,r.R⟩:=by unfold M.goneRow;rw [hbit];rfl
    rw [hwr] at HSI
    have qb:(bits .and .i64 m 16 !=0)=true:=hbit
    clear hwr hbit
    go_upto_region 11 with (first|(go_at_call 17;go_loud (refine (HGI.out _ (Below.refl _ _)).mono ?_;rintro e w6 ⟨rfl,hb6⟩;have K6:Below wo.heap.size wo w6:=hb6;have hz6:=hb6.size;have l61:g1<w6.heap.size:=bO;have l65:g5<w6.heap.size:=bO;have n61:¬g1=w6.heap.size:=bO;have n65:¬g5=w6.heap.size:=bO;have n66:¬w6.heap.size=g1:=bO;have n67:¬w6.heap.size=g5:=bO;have f62:=(hb6.cell (p:=⟨g1,2,none⟩) k1o).trans f2))|(go_at_call 47;go_loud (refine (add_calls _ _ _ _).mono ?_;rintro e w' ⟨rfl,rfl⟩))|(go_at_call 77;go_loud (refine (speed_calls ⟨r.X,r.Y,r.PX,M.add r.PY (fall*r.M) 16777216,r.W,r.H,r.M,r.R⟩ _).mono ?_;rintro e w8 ⟨rfl,hb8⟩;have K8:Below wo.heap.size wo w8:=(show Below wo.heap.size wo _ from bel9).trans (hb8.mono sid9);have b9:Blk w8 w6.heap.size 38 (rowC ⟨r.X,r.Y,r.PX,M.add r.PY (fall*r.M) 16777216,r.W,r.H,r.M,r.R⟩):=(by apply blk_to;(repeat first|with_reducible apply Blk.below (hb:=hb8) (hg:=sid9)|with_reducible apply Blk.put|with_reducible apply Blk.drew|with_reducible exact Blk.new_at (h:=rO));rfl))))
    refine wp_called (λW2 hW2=>?_)
    have K2:Below wo.heap.size wo W2:=by rw [hW2];exact K8
    have b9:Blk W2 w6.heap.size 38 (rowC ⟨r.X,r.Y,r.PX,M.add r.PY (fall*r.M) 16777216,r.W,r.H,r.M,r.R⟩):=by rw [hW2];exact b9
    have kz3:=K2.size
    have l9:=b9.lt
    have e0:=(K2.cell (p:=⟨g5,0,none⟩) k5o).trans e0
    have e1:=(K2.cell (p:=⟨g5,1,none⟩) k5o).trans e1
    have l25:g5<W2.heap.size:=by omega
    have y9:=λi=>b9.free i
    obtain ⟨y0,y1,y2,y3,y4,y5,y6,y7⟩:=row_at b9
    have HB9:=hI b9
    clear hW2 b9 K8 hb8 hb6 f62 f2 hfm qb hcell
    go_still_tail 9,kR
    refine wpStill_step (λK hK=>?_)
    go_simp
    refine ⟨_,(add_calls _ _ _ _).mono (λe w' h=>⟨h.1,h.2.symm⟩),hK _ ?_⟩
    clear hK K
    repeat still_step
    refine wpStill_step (λK hK=>?_)
    go_simp
    refine ⟨_,(add_calls _ _ _ _).mono (λe w' h=>⟨h.1,h.2.symm⟩),hK _ ?_⟩
    clear hK K
    repeat still_step
    refine wpStill_nil ?_
    change wpList _ _ _ _ _ W2.drew
    go_wp2_with (go_at_call 48;go_loud (refine (HSI.out _ bel9).mono ?_;rintro e w7 ⟨v7,rfl,⟨hs7,hn7⟩,hb7⟩;obtain ⟨a7,c7,rfl⟩:=hs7.form;have HN7:=hI (HST.out.rob.set bel9 hb7 hn7 hbx.out);have K7:Below wo.heap.size wo w7:=(show Below wo.heap.size wo _ from bel9).trans (hb7.mono sid9);have kz7:=K7.size;have b75:=HST.out.b5.below K7 k5o;have y0:=b75.cell 0;have y1:=b75.cell 1;(try simp at y0 y1);have yf:=(λi=>b75.free i);have ly:=b75.lt;clear hs7 hn7))
    go_roundg (qs.length-(n+1))
    case measure=>rw [HN.out];omega
    case rel=>
     have hbw:=But.of_below (sb:=g5) K7 lR
     refine ⟨n+1,x',a7,c7,by omega,by go_num,rfl,HX2.out.1,HST.out.next ((hbw.setCell (.inr rfl) _).setCell (.inr rfl) _) ?_ ?_ HX2.out.2,(HBUT.out.trans (But.of_below K7 kz2)).setCell (.inr rfl) _|>.setCell (.inr rfl) _⟩
     ·have:=(b75.put 0 (.slice a7 x'.tables.length c7)).put 1 (.int .i64 x'.next)
      simpa using this
     ·refine HN7.out.step sS (λg h1 h2=>?_)
      rw [bS _ _ _ _ h2.2.1.2.2,bS _ _ _ _ h2.2.1.2.2]
  ·obtain rfl:n=qs.length:=by omega
   have q9:decide ((qs.length:Int)<(qs.length:Int))=false:=decide_eq_false bO
   go_wp2_with fail
   exact HKK.out _ _ _ _ _ _ _ _ _ _ _ _ _ _ _ _ _ _ _ _ _ _ _ _ _ _ _ _ _ _ _ _ _ _ _ _ _ _ _ _ _ _ _ _ _ _ _ _ _ _ _ _ _ _ _ _ _ _ _ _ _ _ _ _ _ _ _ _ _ _ _ _ _ _ _ _ _ _ _ _ _ _ _ _ _ _ _ _ _ _ _ _ _ _ _ _ _ _ _ _ _ _ _ _ _ _ _ _ _ _ _ _ _ _ _ _ _ _ _ _ _ _ _ _ _ _ _ _ _ _ _ _ _ _ _ _ _ _ _ _ _ _ _ _ _ _ _ _ _ _ _ _ _ _ _ _ _ _ _ _ _ _ _ _ _ _ _ _ _ _ _ _ _ _ _ _ _ _ _ _ _ _ _ _ _ _ _ _ _ _ (by rw [HX.out,List.take_length]) HST.out
theorem step_walls {P:Nat->Prop} {w W:World} {g1 g2 g5:Nat} {t0:Value} {n0 fall wide high:Int} {z0 z1 z2 z3 z4 vo:Value} {l:List M.Pr} {s:M.Store} {a:Option Addr} {c:Nat} (u0 u3 u4 u6 u7 u8 u9 u10 u11 u12 u14 u15 u16 u17 u18 u19 u20 u21 u22 u23 u24 u25 u26 u27 u28 u29 u30 u31 u32 u33 u34 u35 u36 u37 u38 u39 u40 u41 u42 u43 u44 u45 u46 u47 u48 u49 u50 u51 u52 u53 u54 u55 u56 u57 u58 u59 u60 u61 u62 u63 u64 u65 u66 u67 u68 u69 u70 u71 u72 u73 u74 u75 u76 u77 u78 u79 u80 u81 u82 u83 u84 u85 u86 u87 u88 u89 u90 u91 u92 u93 u94 u95 u96 u97 u98 u99 u100 u101 u102 u103 u104 u105 u106 u107 u108 u109 u110 u111 u112 u113 u114 u115 u116 u117 u118 u119 u120 u121 u122 u123 u124 u125 u126 u127 u128 u129 u130 u131 u132 u133 u134 u135 u136 u137 u138 u139 u140 u141 u142 u143 u144 u145 u146 u147 u148 u149 u150 u151 u152 u153 u154 u155 u156 u157 u158 u159 u160 u161 u162 u163 u164 u165 u166 u167 u168 u169 u170 u171 u172 u173 u174 u175 u176 u177 u178 u179 u180 u181 u182 u183 u184 u185 u186 u187 u188:Value) (h:St P w W g1 g2 g5 t0 n0 fall wide high z0 z1 z2 z3 z4 vo l a c s) (hwd:1<=wide/\wide<=1048576) (hhg:1<=high/\high<=1048576) {K:Act->World->Prop} {Q:Exit->Act->World->Prop}
  (hK:∀(u0 u3 u4 u6 u7 u8 u9 u10 u11 u12 u14 u15 u16 u17 u18 u19 u20 u21 u22 u23 u24 u25 u26 u27 u28 u29 u30 u31 u32 u33 u34 u35 u36 u37 u38 u39 u40 u41 u42 u43 u44 u45 u46 u47 u48 u49 u50 u51 u52 u53 u54 u55 u56 u57 u58 u59 u60 u61 u62 u63 u64 u65 u66 u67 u68 u69 u70 u71 u72 u73 u74 u75 u76 u77 u78 u79 u80 u81 u82 u83 u84 u85 u86 u87 u88 u89 u90 u91 u92 u93 u94 u95 u96 u97 u98 u99 u100 u101 u102 u103 u104 u105 u106 u107 u108 u109 u110 u111 u112 u113 u114 u115 u116 u117 u118 u119 u120 u121 u122 u123 u124 u125 u126 u127 u128 u129 u130 u131 u132 u133 u134 u135 u136 u137 u138 u139 u140 u141 u142 u143 u144 u145 u146 u147 u148 u149 u150 u151 u152 u153 u154 u155 u156 u157 u158 u159 u160 u161 u162 u163 u164 u165 u166 u167 u168 u169 u170 u171 u172 u173 u174 u175 u176 u177 u178 u179 u180 u181 u182 u183 u184 u185 u186 u187 u188:Value) (W':World) (a':Option Addr) (c':Nat) (x:M.Store),x=(M.query s 11).foldl (M.walled wide high) s->St P w W' g1 g2 g5 t0 n0 fall wide high z0 z1 z2 z3 z4 vo l a' c' x->K ⟨List.toArray (u0::.pointer (some ⟨g1,0,none⟩)::.pointer (some ⟨g2,0,none⟩)::u3::u4::.pointer (some ⟨g5,0,none⟩)::u6::u7::u8::u9::u10::u11::u12::vo::u14::u15::u16::u17::u18::u19::u20::u21::u22::u23::u24::u25::u26::u27::u28::u29::u30::u31::u32::u33::u34::u35::u36::u37::u38::u39::u40::u41::u42::u43::u44::u45::u46::u47::u48::u49::u50::u51::u52::u53::u54::u55::u56::u57::u58::u59::u60::u61::u62::u63::u64::u65::u66::u67::u68::u69::u70::u71::u72::u73::u74::u75::u76::u77::u78::u79::u80::u81::u82::u83::u84::u85::u86::u87::u88::u89::u90::u91::u92::u93::u94::u95::u96::u97::u98::u99::u100::u101::u102::u103::u104::u105::u106::u107::u108::u109::u110::u111::u112::u113::u114::u115::u116::u117::u118::u119::u120::u121::u122::u123::u124::u125::u126::u127::u128::u129::u130::u131::u132::u133::u134::u135::u136::u137::u138::u139::u140::u141::u142::u143::u144::u145::u146::u147::u148::u149::u150::u151::u152::u153::u154::u155::u156::u157::u158::u159::u160::u161::u162::u163::u164::u165::u166::u167::u168::u169::u170::u171::u172::u173::u174::u175::u176::u177::u178::u179::u180::u181::u182::u183::u184::u185::u186::u187::u188::[]),[]⟩ W'):
  Code.wp Tryz.prog (headS 6) (Exit.then K Q) ⟨List.toArray (u0::.pointer (some ⟨g1,0,none⟩)::.pointer (some ⟨g2,0,none⟩)::u3::u4::.pointer (some ⟨g5,0,none⟩)::u6::u7::u8::u9::u10::u11::u12::vo::u14::u15::u16::u17::u18::u19::u20::u21::u22::u23::u24::u25::u26::u27::u28::u29::u30::u31::u32::u33::u34::u35::u36::u37::u38::u39::u40::u41::u42::u43::u44::u45::u46::u47::u48::u49::u50::u51::u52::u53::u54::u55::u56::u57::u58::u59::u60::u61::u62::u63::u64::u65::u66::u67::u68::u69::u70::u71::u72::u73::u74::u75::u76::u77::u78::u79::u80::u81::u82::u83::u84::u85::u86::u87::u88::u89::u90::u91::u92::u93::u94::u95::u96::u97::u98::u99::u100::u101::u102::u103::u104::u105::u106::u107::u108::u109::u110::u111::u112::u113::u114::u115::u116::u117::u118::u119::u120::u121::u122::u123::u124::u125::u126::u127::u128::u129::u130::u131::u132::u133::u134::u135::u136::u137::u138::u139::u140::u141::u142::u143::u144::u145::u146::u147::u148::u149::u150::u151::u152::u153::u154::u155::u156::u157::u158::u159::u160::u161::u162::u163::u164::u165::u166::u167::u168::u169::u170::u171::u172::u173::u174::u175::u176::u177::u178::u179::u180::u181::u182::u183::u184::u185::u186::u187::u188::[]),[]⟩ W:=by
 obtain ⟨qs,hqs⟩:∃qs,qs=M.query s 11:=⟨_,rfl⟩
 rw [←hqs] at hK
 have HQ:=hI (λU (hb:Below W.heap.size W U)=>query_calls (h.rob.at_.below hb) h.good 11)
 rw [←hqs] at HQ
 have H:=hI h
 have HKK:=hI hK
 have n15:=h.n15
 have k5:=h.b5.lt
 have k1:=h.b1.lt
 have k2:=h.b2.lt
 have c0:=h.b5.cell 0
 have c1:=h.b5.cell 1
 simp at c0 c1
 clear h hqs hK
 conv=>arg 2;whnf
 go_wp2_with (go_at_call 53;refine (HQ.out _ (Below.refl _ _)).mono ?_;rintro e w1 ⟨v1,rfl,ho1,hb1⟩;obtain ⟨a1,c1',rfl⟩:=own_form ho1;have kz1:=hb1.size)
 have HB1:=hI hb1
 have HO1:=hI ho1
 have hqm:qs.length<=9223372036854775807:=by
  have:=(Lies.of_owns ho1).2.1
  unfold maxLen at this
  omega
 clear hb1 ho1
 go_loopg [134] qs.length (λg i wr=>∃(n:Nat) (x:M.Store) (ax:Option Addr) (cx:Nat),n<=qs.length/\i=.int .i64 n/\g=qs.length-n/\x=(qs.take n).foldl (M.walled wide high) s/\St P w wr g1 g2 g5 t0 n0 fall wide high z0 z1 z2 z3 z4 vo l ax cx x/\But w1.heap.size g5 w1 wr)
 case atStart=>
  exact ⟨0,s,a,c,Nat.zero_le _,rfl,rfl,by simp,H.out.more HB1.out,But.refl _ _ _⟩
 case round=>
  obtain ⟨wo,hwo⟩:∃wo,wo=wr:=⟨_,rfl⟩
  subst hwo
  obtain ⟨n,x,ax,cx,hn,rfl,hgk,hx,hst,hbut⟩:=hrel
  have HN:=hI hgk
  have HX:=hI hx
  have HST:=hI hst
  have HBUT:=hI hbut
  have kz2:=hbut.size
  clear hgk hx hst hbut
  rcases Nat.lt_or_ge n qs.length with hlt|hge
  ·have f2:=HST.out.b1.cell 2
   have f3:=HST.out.b1.cell 3
   have f4:=HST.out.b1.cell 4
   have e0:=HST.out.b5.cell 0
   have e1:=HST.out.b5.cell 1
   have ef:=λi=>HST.out.b5.free i
   have k1o:=HST.out.b1.lt
   have k5o:=HST.out.b5.lt
   have hbx:=hI HST.out.newQ
   simp at e0 e1 f2 f3 f4
   obtain ⟨id,hid⟩:∃id,qs[n]?=some id:=⟨_,List.getElem?_eq_getElem hlt⟩
   obtain ⟨gq,cq,e1q,hgq0,hgq⟩:=own_val HO1.out bO
   simp only [Value.slice.injEq,true_and] at e1q
   obtain ⟨rfl,rfl⟩:=e1q
   have hcell:wo.cell? ⟨gq,n,none⟩=some (.int .i64 id):=by
    have hb:=HBUT.out.block gq hgq bO
    rw [World.cell?_of_block (a:=⟨gq,n,none⟩) hb,HO1.out.cellAt n bO,List.getElem?_map,hid];rfl
   obtain ⟨m,r,b,hget⟩:∃m r b,M.get x id=(m,r,b):=⟨_,_,_,rfl⟩
   have hsm:M.Small r:=by have k:=M.get_small HST.out.good id;rw [hget] at k;exact k
   obtain ⟨⟨d1,d2⟩,⟨d3,d4⟩,⟨d5,d6⟩,d7,d8⟩:=hsm
   have HGI:=hI (λU (hb:Below wo.heap.size wo U)=>get_calls (HST.out.rob.at_.below hb) id)
   rw [hget] at HGI
   simp only at HGI
   have md1:Mid r.X:=by unfold Mid;omega
   have md2:Mid r.PX:=by unfold Mid;omega
   have md3:Mid r.W:=by unfold Mid;omega
   have md4:Mid wide:=by unfold Mid;omega
   have md5:Mid r.Y:=by unfold Mid;omega
   have md6:Mid r.PY:=by unfold Mid;omega
   have md7:Mid r.H:=by unfold Mid;omega
   have md8:Mid high:=by unfold Mid;omega
   obtain ⟨x',code,hset⟩:∃x' code,M.set x id (M.walledRow wide high r)=(x',code):=⟨_,_,rfl⟩
   have HSI:=hI (λU (hb:Below wo.heap.size wo U)=>set_calls (HST.out.rob.at_.below hb) (good_in HST.out.good) id (M.walledRow wide high r))
   rw [hset] at HSI
   simp only at HSI
   have HX2:Hid (x'=(qs.take (n+1)).foldl (M.walled wide high) s/\M.GoodS x'):=hI (by
    refine ⟨?_,?_⟩
    ·rw [List.take_add_one,hid]
     simp only [Option.toList_some,List.foldl_append,List.foldl_cons,List.foldl_nil]
     rw [←HX.out]
     unfold M.walled
     rw [hget,hset]
    ·have:=M.set_good HST.out.good id (M.walledRow wide high r)
     rw [hset] at this
     exact this)
   have hwr:M.walledRow wide high r=⟨M.wallA r.X r.W wide,M.wallA r.Y r.H high,M.wallP r.X r.PX r.W wide r.R,M.wallP r.Y r.PY r.H high r.R,r.W,r.H,r.M,r.R⟩:=rfl
   rw [hwr] at HSI
   clear hwr hset hget hid d1 d2 d3 d4 d5 d6 d7 d8
   go_wp2_with (first|(go_at_call 17;go_loud (refine (HGI.out _ (Below.refl _ _)).mono ?_;rintro e w6 ⟨rfl,hb6⟩;have K6:Below wo.heap.size wo w6:=hb6;have hz6:=hb6.size;have l61:g1<w6.heap.size:=bO;have l65:g5<w6.heap.size:=bO;have n61:¬g1=w6.heap.size:=bO;have n65:¬g5=w6.heap.size:=bO;have n66:¬w6.heap.size=g1:=bO;have n67:¬w6.heap.size=g5:=bO;have f63:=(hb6.cell (p:=⟨g1,3,none⟩) k1o).trans f3;have f64:=(hb6.cell (p:=⟨g1,4,none⟩) k1o).trans f4;have e60:=(hb6.cell (p:=⟨g5,0,none⟩) k5o).trans e0;have e61:=(hb6.cell (p:=⟨g5,1,none⟩) k5o).trans e1))|(go_at_call 82;go_loud (refine (wall_calls _ _ _ _ _ _ (by assumption) (by assumption) (by assumption) (by assumption)).mono ?_;rintro e w' ⟨rfl,rfl⟩))|(go_at_call 48;go_loud (refine (HSI.out _ bel9).mono ?_;rintro e w7 ⟨v7,rfl,⟨hs7,hn7⟩,hb7⟩;obtain ⟨a7,c7,rfl⟩:=hs7.form;have HN7:=hI (HST.out.rob.set bel9 hb7 hn7 hbx.out);have K7:Below wo.heap.size wo w7:=(show Below wo.heap.size wo _ from bel9).trans (hb7.mono sid9);have kz7:=K7.size;have b75:=HST.out.b5.below K7 k5o;have y0:=b75.cell 0;have y1:=b75.cell 1;(try simp at y0 y1);have yf:=(λi=>b75.free i);have ly:=b75.lt;clear hs7 hn7)))
   go_roundg (qs.length-(n+1))
   case measure=>rw [HN.out];omega
   case rel=>
    have hbw:=But.of_below (sb:=g5) K7 lR
    refine ⟨n+1,x',a7,c7,by omega,by go_num,rfl,HX2.out.1,HST.out.next ((hbw.setCell (.inr rfl) _).setCell (.inr rfl) _) ?_ ?_ HX2.out.2,(HBUT.out.trans (But.of_below K7 kz2)).setCell (.inr rfl) _|>.setCell (.inr rfl) _⟩
    ·have:=(b75.put 0 (.slice a7 x'.tables.length c7)).put 1 (.int .i64 x'.next)
     simpa using this
    ·refine HN7.out.step sS (λg h1 h2=>?_)
     rw [bS _ _ _ _ h2.2.1.2.2,bS _ _ _ _ h2.2.1.2.2]
  ·obtain rfl:n=qs.length:=by omega
   have q9:decide ((qs.length:Int)<(qs.length:Int))=false:=decide_eq_false bO
   go_wp2_with fail
   exact HKK.out _ _ _ _ _ _ _ _ _ _ _ _ _ _ _ _ _ _ _ _ _ _ _ _ _ _ _ _ _ _ _ _ _ _ _ _ _ _ _ _ _ _ _ _ _ _ _ _ _ _ _ _ _ _ _ _ _ _ _ _ _ _ _ _ _ _ _ _ _ _ _ _ _ _ _ _ _ _ _ _ _ _ _ _ _ _ _ _ _ _ _ _ _ _ _ _ _ _ _ _ _ _ _ _ _ _ _ _ _ _ _ _ _ _ _ _ _ _ _ _ _ _ _ _ _ _ _ _ _ _ _ _ _ _ _ _ _ _ _ _ _ _ _ _ _ _ _ _ _ _ _ _ _ _ _ _ _ _ _ _ _ _ _ _ _ _ _ _ _ _ _ _ _ _ _ _ _ _ _ _ _ _ _ _ _ _ _ _ _ (by rw [HX.out,List.take_length]) HST.out
end Go.Proofs.YtemkbjaojinaoaaGreat
