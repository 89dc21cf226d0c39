/- The second loop of world.Step: pair by pair of boxes that overlap. Condition: the facts St. -/
import Derived.Test.YtemkbjaojinaoaaGreatShort
import Derived.Test.YtemkbjaojinaoaaGreatBagG
import Derived.Test.YtemkbjaojinaoaaGreatBagP
import Derived.Test.YtemkbjaojinaoaaGreatBagMa
import Derived.Test.YtemkbjaojinaoaaGreatBagWo
import Derived.Test.YtemkbjaojinaoaaGreatBagSw
import Derived.IntWalk
set_option linter.unusedVariables false
set_option linter.unusedSimpArgs false
set_option maxRecDepth 100000
set_option maxHeartbeats 8000000
namespace Go.Proofs.YtemkbjaojinaoaaGreat
open Go.RowKit
theorem boxes_in {s:M.Store} (g:M.GoodS s):∀b∈M.boxes s,BoxIn b:=by
 intro b hb
 obtain ⟨m,r,e,_,hbr⟩:=M.boxes_at g hb
 have q1:b.x1=r.X-r.W:=congrArg M.Box.x1 hbr
 have q2:b.y1=r.Y-r.H:=congrArg M.Box.y1 hbr
 have q3:b.x2=r.X+r.W:=congrArg M.Box.x2 hbr
 have q4:b.y2=r.Y+r.H:=congrArg M.Box.y2 hbr
 have h1:=M.at_id g e
 have h2:=M.fits_small (M.at_fits g e)
 have h3:=g.2.2.2.2.2
 unfold BoxIn I64
 omega
theorem small_ok {r:M.Row} (h:M.Small r):RowOk r:=by
 unfold M.Small at h
 unfold RowOk I64
 omega
theorem free_small {m:Int} {r:M.Row} (h:M.Small r):M.Small (M.freeRow m r):=by
 unfold M.freeRow
 split
 ·exact h
 ·unfold M.Small at h⊢
  simp only
  omega
theorem meetStep_no {x:M.Store} {l:List M.Pr} {ida idb ma mb:Int} {ra rb fa fb:M.Row} {ba bb:Bool} (h1:M.get x ida=(ma,ra,ba)) (h2:M.get x idb=(mb,rb,bb)) (h3:M.freeRow ma ra=fa) (h4:M.freeRow mb rb=fb) (h5:M.meets fa fb=false):
  M.meetStep (x,l) (ida,idb)=(x,l):=by
 unfold M.meetStep
 simp only [h1,h2,h3,h4,h5]
 rfl
theorem meetStep_yes {x xA xB:M.Store} {l:List M.Pr} {ida idb ma mb:Int} {ra rb fa fb X Y:M.Row} {ba bb:Bool} (h1:M.get x ida=(ma,ra,ba)) (h2:M.get x idb=(mb,rb,bb)) (h3:M.freeRow ma ra=fa) (h4:M.freeRow mb rb=fb) (h5:M.meets fa fb=true)
  (h6:M.meet fa fb=(X,Y)) (h7:xA=M.backTo x ida ma X) (h8:xB=M.backTo xA idb mb Y):M.meetStep (x,l) (ida,idb)=(xB,l++[(ida,idb)]):=by
 unfold M.meetStep
 simp only [h1,h2,h3,h4,h5,h6]
 rw [h8,h7]
 rfl
theorem step_meets {P:Nat->Prop} {w W:World} {g1 g2 g5:Nat} {t0:Value} {n0 fall wide high:Int} {z0 z1 z2 z3 z4:Value} {s:M.Store} {a:Option Addr} {c:Nat} (u0 u3 u4 u6 u7 u8 u9 u10 u11 u12 u14 u15 u16 u17 u18 u19 u20 u21 u22 u23 u24 u25 u26 u27 u28 u29 u30 u31 u32 u33 u34 u35 u36 u37 u38 u39 u40 u41 u42 u43 u44 u45 u46 u47 u48 u49 u50 u51 u52 u53 u54 u55 u56 u57 u58 u59 u60 u61 u62 u63 u64 u65 u66 u67 u68 u69 u70 u71 u72 u73 u74 u75 u76 u77 u78 u79 u80 u81 u82 u83 u84 u85 u86 u87 u88 u89 u90 u91 u92 u93 u94 u95 u96 u97 u98 u99 u100 u101 u102 u103 u104 u105 u106 u107 u108 u109 u110 u111 u112 u113 u114 u115 u116 u117 u118 u119 u120 u121 u122 u123 u124 u125 u126 u127 u128 u129 u130 u131 u132 u133 u134 u135 u136 u137 u138 u139 u140 u141 u142 u143 u144 u145 u146 u147 u148 u149 u150 u151 u152 u153 u154 u155 u156 u157 u158 u159 u160 u161 u162 u163 u164 u165 u166 u167 u168 u169 u170 u171 u172 u173 u174 u175 u176 u177 u178 u179 u180 u181 u182 u183 u184 u185 u186 u187 u188:Value) (h:St P w W g1 g2 g5 t0 n0 fall wide high z0 z1 z2 z3 z4 (.slice none 0 0) [] a c s) {K:Act->World->Prop} {Q:Exit->Act->World->Prop}
  (hK:∀(u0 u3 u4 u6 u7 u8 u9 u10 u11 u12 u14 u15 u16 u17 u18 u19 u20 u21 u22 u23 u24 u25 u26 u27 u28 u29 u30 u31 u32 u33 u34 u35 u36 u37 u38 u39 u40 u41 u42 u43 u44 u45 u46 u47 u48 u49 u50 u51 u52 u53 u54 u55 u56 u57 u58 u59 u60 u61 u62 u63 u64 u65 u66 u67 u68 u69 u70 u71 u72 u73 u74 u75 u76 u77 u78 u79 u80 u81 u82 u83 u84 u85 u86 u87 u88 u89 u90 u91 u92 u93 u94 u95 u96 u97 u98 u99 u100 u101 u102 u103 u104 u105 u106 u107 u108 u109 u110 u111 u112 u113 u114 u115 u116 u117 u118 u119 u120 u121 u122 u123 u124 u125 u126 u127 u128 u129 u130 u131 u132 u133 u134 u135 u136 u137 u138 u139 u140 u141 u142 u143 u144 u145 u146 u147 u148 u149 u150 u151 u152 u153 u154 u155 u156 u157 u158 u159 u160 u161 u162 u163 u164 u165 u166 u167 u168 u169 u170 u171 u172 u173 u174 u175 u176 u177 u178 u179 u180 u181 u182 u183 u184 u185 u186 u187 u188:Value) (W':World) (a':Option Addr) (c':Nat) (x:M.Store) (vo':Value) (l':List M.Pr),(x,l')=(M.pairs (M.boxes s)).foldl M.meetStep (s,[])->St P w W' g1 g2 g5 t0 n0 fall wide high z0 z1 z2 z3 z4 vo' l' a' c' x->K ⟨List.toArray (u0::.pointer (some ⟨g1,0,none⟩)::.pointer (some ⟨g2,0,none⟩)::u3::u4::.pointer (some ⟨g5,0,none⟩)::u6::u7::u8::u9::u10::u11::u12::vo'::u14::u15::u16::u17::u18::u19::u20::u21::u22::u23::u24::u25::u26::u27::u28::u29::u30::u31::u32::u33::u34::u35::u36::u37::u38::u39::u40::u41::u42::u43::u44::u45::u46::u47::u48::u49::u50::u51::u52::u53::u54::u55::u56::u57::u58::u59::u60::u61::u62::u63::u64::u65::u66::u67::u68::u69::u70::u71::u72::u73::u74::u75::u76::u77::u78::u79::u80::u81::u82::u83::u84::u85::u86::u87::u88::u89::u90::u91::u92::u93::u94::u95::u96::u97::u98::u99::u100::u101::u102::u103::u104::u105::u106::u107::u108::u109::u110::u111::u112::u113::u114::u115::u116::u117::u118::u119::u120::u121::u122::u123::u124::u125::u126::u127::u128::u129::u130::u131::u132::u133::u134::u135::u136::u137::u138::u139::u140::u141::u142::u143::u144::u145::u146::u147::u148::u149::u150::u151::u152::u153::u154::u155::u156::u157::u158::u159::u160::u161::u162::u163::u164::u165::u166::u167::u168::u169::u170::u171::u172::u173::u174::u175::u176::u177::u178::u179::u180::u181::u182::u183::u184::u185::u186::u187::u188::[]),[]⟩ W'):
  Code.wp Tryz.prog (headS 5) (Exit.then K Q) ⟨List.toArray (u0::.pointer (some ⟨g1,0,none⟩)::.pointer (some ⟨g2,0,none⟩)::u3::u4::.pointer (some ⟨g5,0,none⟩)::u6::u7::u8::u9::u10::u11::u12::.slice none 0 0::u14::u15::u16::u17::u18::u19::u20::u21::u22::u23::u24::u25::u26::u27::u28::u29::u30::u31::u32::u33::u34::u35::u36::u37::u38::u39::u40::u41::u42::u43::u44::u45::u46::u47::u48::u49::u50::u51::u52::u53::u54::u55::u56::u57::u58::u59::u60::u61::u62::u63::u64::u65::u66::u67::u68::u69::u70::u71::u72::u73::u74::u75::u76::u77::u78::u79::u80::u81::u82::u83::u84::u85::u86::u87::u88::u89::u90::u91::u92::u93::u94::u95::u96::u97::u98::u99::u100::u101::u102::u103::u104::u105::u106::u107::u108::u109::u110::u111::u112::u113::u114::u115::u116::u117::u118::u119::u120::u121::u122::u123::u124::u125::u126::u127::u128::u129::u130::u131::u132::u133::u134::u135::u136::u137::u138::u139::u140::u141::u142::u143::u144::u145::u146::u147::u148::u149::u150::u151::u152::u153::u154::u155::u156::u157::u158::u159::u160::u161::u162::u163::u164::u165::u166::u167::u168::u169::u170::u171::u172::u173::u174::u175::u176::u177::u178::u179::u180::u181::u182::u183::u184::u185::u186::u187::u188::[]),[]⟩ W:=by
 obtain ⟨ps,hps⟩:∃ps,ps=M.pairs (M.boxes s):=⟨_,rfl⟩
 rw [←hps] at hK
 have hpl:ps.length<=45:=by rw [hps];exact (M.pairs_few h.good).1
 have HQ:=hI (worldBoxes_calls h.rob.at_ h.good)
 have HQ2:=hI (λ(U:World) (v:Value) (ho:U.ownsRow W.heap.size 40 5 v (M.boxes s).length ((M.boxes s).flatMap boxL))=>pairs_calls (lo:=W.heap.size) (v:=v) (w:=U) (l:=M.boxes s) (Lies.of_owns ho) (boxes_in h.good) (by
  have:(M.boxes s).length<=10:=by unfold M.boxes;rw [List.length_map];exact M.query_few h.good 5
  omega))
 rw [←hps] at HQ2
 have H:=hI h
 have HKK:=hI hK
 obtain ⟨i0,hi,hz0,hz1,hz2⟩:=info_parts infoPair
 have n15:=h.n15
 have k5:=h.b5.lt
 have c0:=h.b5.cell 0
 have c1:=h.b5.cell 1
 have kw0:=h.bel.size
 simp at c0 c1
 clear h hps hK
 conv=>arg 2;whnf
 go_wp2_with (first|(go_at_call 25;go_loud (refine HQ.out.mono ?_;rintro e w1 ⟨v1,rfl,ho1,hb1⟩;have kz1:=hb1.size))|(go_at_call 78;go_loud (refine (HQ2.out _ _ ho1).mono ?_;rintro e w2 ⟨v2,rfl,ho2,hb2⟩;obtain ⟨a2,c2,rfl⟩:=own_form ho2;have kz2:=hb2.size)))
 have HB2:Hid (Below W.heap.size W w2):=hI (hb1.trans (hb2.mono kz1))
 have HO2:=hI ho2
 clear ho1 ho2 hb1 hb2
 go_loopg [13,87] ps.length (λg o i wr=>∃(n:Nat) (x:M.Store) (ax:Option Addr) (cx:Nat) (l:List M.Pr),n<=ps.length/\i=.int .i64 n/\g=ps.length-n/\(x,l)=(ps.take n).foldl M.meetStep (s,[])/\l.length<=n/\St P w wr g1 g2 g5 t0 n0 fall wide high z0 z1 z2 z3 z4 o l ax cx x/\But w2.heap.size g5 w2 wr/\(∀g,o.ownBlock=some g->w2.heap.size<=g))
 case atStart=>
  exact ⟨0,s,a,c,[],Nat.zero_le _,rfl,rfl,by simp,Nat.le_refl _,H.out.more HB2.out,But.refl _ _ _,λg e=>by cases e⟩
 case round=>
  obtain ⟨wo,hwo⟩:∃wo,wo=wr:=⟨_,rfl⟩
  subst hwo
  obtain ⟨n,x,ax,cx,l,hn,rfl,hgk,hx,hln,hst,hbut,hov⟩:=hrel
  have HN:=hI hgk
  have HX:=hI hx
  have HST:=hI hst
  have HBUT:=hI hbut
  have HOV:=hI hov
  have kzb:=hbut.size
  clear hgk hx hst hbut hov
  rcases Nat.lt_or_ge n ps.length with hlt|hge
  ·obtain ⟨vx,vc,rfl⟩:=own_form HST.out.own
   have e0:=HST.out.b5.cell 0
   have e1:=HST.out.b5.cell 1
   have ef:=λi=>HST.out.b5.free i
   have k5o:=HST.out.b5.lt
   simp at e0 e1
   obtain ⟨ida,idb,hid⟩:∃ida idb,ps[n]?=some (ida,idb):=⟨_,_,List.getElem?_eq_getElem hlt⟩
   obtain ⟨gq,cq,e1q,hgq0,hgq⟩:=own_val HO2.out bO
   simp only [Value.slice.injEq,true_and] at e1q
   obtain ⟨rfl,rfl⟩:=e1q
   have hbq:=HBUT.out.block gq hgq bO
   have hcell0:wo.cell? ⟨gq,n*2,none⟩=some (.int .i64 ida):=by
    rw [World.cell?_of_block (a:=⟨gq,n*2,none⟩) hbq,HO2.out.cellAt (n*2) bO]
    exact (flat_at pairL 2 (λ_=>rfl) ps n 0 hid bO).trans rfl
   have hcell1:wo.cell? ⟨gq,n*2+1,none⟩=some (.int .i64 idb):=by
    rw [World.cell?_of_block (a:=⟨gq,n*2+1,none⟩) hbq,HO2.out.cellAt (n*2+1) bO]
    exact (flat_at pairL 2 (λ_=>rfl) ps n 1 hid bO).trans rfl
   obtain ⟨ma,ra,ba,hga⟩:∃m r b,M.get x ida=(m,r,b):=⟨_,_,_,rfl⟩
   obtain ⟨mb,rb,bb,hgb⟩:∃m r b,M.get x idb=(m,r,b):=⟨_,_,_,rfl⟩
   have hsa:M.Small ra:=by have k:=M.get_small HST.out.good ida;rw [hga] at k;exact k
   have hsb:M.Small rb:=by have k:=M.get_small HST.out.good idb;rw [hgb] at k;exact k
   have HRA:=hI (λU (hb:Below wo.heap.size wo U)=>worldRow_calls (HST.out.rob.at_.below hb) ida)
   have HRB:=hI (λU (hb:Below wo.heap.size wo U)=>worldRow_calls (HST.out.rob.at_.below hb) idb)
   rw [hga] at HRA
   rw [hgb] at HRB
   obtain ⟨fa,hfa⟩:∃fa,M.freeRow ma ra=fa:=⟨_,rfl⟩
   obtain ⟨fb,hfb⟩:∃fb,M.freeRow mb rb=fb:=⟨_,rfl⟩
   simp only at HRA HRB
   rw [hfa] at HRA
   rw [hfb] at HRB
   obtain ⟨X,Y,hXY⟩:∃X Y,M.meet fa fb=(X,Y):=⟨_,_,rfl⟩
   obtain ⟨q,hq⟩:∃q,M.meets fa fb=q:=⟨_,rfl⟩
   have HME:=hI (λU=>meet_calls fa fb U (small_ok (hfa▸free_small hsa)) (small_ok (hfb▸free_small hsb)))
   rw [hXY,hq] at HME
   simp only at HME
   have HTK:Hid ((ps.take (n+1)).foldl M.meetStep (s,[])=M.meetStep (x,l) (ida,idb)):=hI (by
    rw [List.take_add_one,hid]
    simp only [Option.toList_some,List.foldl_append,List.foldl_cons,List.foldl_nil]
    rw [←HX.out])
   have HGA:=hI (And.intro hga (And.intro hgb (And.intro hfa hfb)))
   have HXY:=hI hXY
   have HQQ:=hI hq
   clear hga hgb hfa hfb hXY hq hsa hsb hid hbq
   go_upto_region 21 with (first|(go_at_call_of 79 ida;go_loud (refine (HRA.out _ bel9).mono ?_;rintro e w3 ⟨rfl,hb3⟩;have K3:Below wo.heap.size wo w3:=(show Below wo.heap.size wo _ from bel9).trans (hb3.mono sid9);have kz3:=K3.size;have hz3:=hb3.size;(try simp at hz3);have e03:=(K3.cell (p:=⟨g5,0,none⟩) k5o).trans e0;have e13:=(K3.cell (p:=⟨g5,1,none⟩) k5o).trans e1;have l53:g5<w3.heap.size:=bO;have m53:¬g5=w3.heap.size:=bO;have m63:¬w3.heap.size=g5:=bO;have mp3:¬wo.heap.size=w3.heap.size:=bO;have mq3:¬w3.heap.size=wo.heap.size:=bO;have bp3:Blk w3 (wo.heap.size) 71 (#[.int .i64 ida,.int .i64 idb]):=(by apply blk_to;(repeat first|with_reducible apply Blk.below (hb:=hb3) (hg:=sid9)|with_reducible apply Blk.put|with_reducible apply Blk.drew|with_reducible exact Blk.new_at (h:=rO)|with_reducible apply Blk.alloc|with_reducible apply Blk.far (hp:=sid9));rfl);have p03:=bp3.cell 0;have p13:=bp3.cell 1;simp at p03 p13;have lp3:=bp3.lt))|(go_at_call_of 79 idb;go_loud (refine (HRB.out _ bel9).mono ?_;rintro e w4 ⟨rfl,hb4⟩;have K4:Below wo.heap.size wo w4:=(show Below wo.heap.size wo _ from bel9).trans (hb4.mono sid9);have kz4:=K4.size;have hz4:=hb4.size;(try simp at hz4);have e04:=(K4.cell (p:=⟨g5,0,none⟩) k5o).trans e0;have e14:=(K4.cell (p:=⟨g5,1,none⟩) k5o).trans e1;have l54:g5<w4.heap.size:=bO;have m54:¬g5=w4.heap.size:=bO;have m64:¬w4.heap.size=g5:=bO;have mp4:¬wo.heap.size=w4.heap.size:=bO;have mq4:¬w4.heap.size=wo.heap.size:=bO;have bp4:Blk w4 (wo.heap.size) 71 (#[.int .i64 ida,.int .i64 idb]):=(by apply blk_to;(repeat first|with_reducible apply Blk.below (hb:=hb4) (hg:=sid9)|with_reducible exact bp3|with_reducible apply Blk.put|with_reducible apply Blk.drew|with_reducible exact Blk.new_at (h:=rO)|with_reducible apply Blk.alloc|with_reducible apply Blk.far (hp:=sid9));rfl);have ba4:Blk w4 (w3.heap.size) 38 (rowC fa):=(by apply blk_to;(repeat first|with_reducible apply Blk.below (hb:=hb4) (hg:=sid9)|with_reducible apply Blk.put|with_reducible apply Blk.drew|with_reducible exact Blk.new_at (h:=rO)|with_reducible apply Blk.alloc|with_reducible apply Blk.far (hp:=sid9));rfl);obtain ⟨q0,q1,q2,q3,q4,q5,q6,q7⟩:=row_at ba4;have la4:=ba4.lt;have ma4:¬w3.heap.size=w4.heap.size:=bO;have mb4:¬w4.heap.size=w3.heap.size:=bO))|(go_at_call 80;go_loud (refine (HME.out _).mono ?_;rintro e w5 ⟨rfl,hb5⟩;have K5:Below wo.heap.size wo w5:=(show Below wo.heap.size wo _ from bel9).trans (hb5.mono sid9);have kz5:=K5.size;have hz5:=hb5.size;(try simp at hz5);have e05:=(K5.cell (p:=⟨g5,0,none⟩) k5o).trans e0;have e15:=(K5.cell (p:=⟨g5,1,none⟩) k5o).trans e1;have l55:g5<w5.heap.size:=bO;have m55:¬g5=w5.heap.size:=bO;have m65:¬w5.heap.size=g5:=bO;have mp5:¬wo.heap.size=w5.heap.size:=bO;have mq5:¬w5.heap.size=wo.heap.size:=bO;have bp5:Blk w5 (wo.heap.size) 71 (#[.int .i64 ida,.int .i64 idb]):=(by apply blk_to;(repeat first|with_reducible apply Blk.below (hb:=hb5) (hg:=sid9)|with_reducible exact bp4|with_reducible apply Blk.put|with_reducible apply Blk.drew|with_reducible exact Blk.new_at (h:=rO)|with_reducible apply Blk.alloc|with_reducible apply Blk.far (hp:=sid9));rfl))))
   refine wp_called (λW2 hW2=>?_)
   have K2:Below wo.heap.size wo W2:=by rw [hW2];exact bel9
   have kz4:=K2.size
   have bp:Blk W2 (wo.heap.size) 71 (#[.int .i64 ida,.int .i64 idb]):=by
    rw [hW2]
    apply blk_to
    ·repeat first|with_reducible exact bp5|with_reducible apply Blk.put|with_reducible apply Blk.drew|with_reducible exact Blk.new_at (h:=rO)|with_reducible apply Blk.alloc|with_reducible apply Blk.far (hp:=sid9)
    ·rfl
   have bx:Blk W2 (w5.heap.size) 38 (rowC X):=by
    rw [hW2]
    apply blk_to
    ·repeat first|fail|with_reducible apply Blk.put|with_reducible apply Blk.drew|with_reducible exact Blk.new_at (h:=rO)|with_reducible apply Blk.alloc|with_reducible apply Blk.far (hp:=sid9)
    ·rfl
   have by_:Blk W2 (w5.heap.size+1) 38 (rowC Y):=by
    rw [hW2]
    apply blk_to
    ·repeat first|fail|with_reducible apply Blk.put|with_reducible apply Blk.drew|with_reducible exact Blk.new_at (h:=rO)|with_reducible apply Blk.alloc|with_reducible apply Blk.far (hp:=sid9)
    ·rfl
   have HST2:=hI (HST.out.more K2)
   have HBUT2:Hid (But w2.heap.size g5 w2 W2):=hI (HBUT.out.trans (But.of_below K2 kzb))
   have HP2:=hI bp
   have HX2:=hI bx
   have HY2:=hI by_
   have p0:=bp.cell 0
   have p1:=bp.cell 1
   simp at p0 p1
   have lp:=bp.lt
   have lx:=bx.lt
   have ly:=by_.lt
   have hlow:∀g,(Value.slice vx l.length vc).ownBlock=some g->g<wo.heap.size:=λg e=>(HST.out.own.lt g e).2
   have HLOW:=hI hlow
   clear hW2 hlow bp bx by_ HRA HRB HME bp3 bp4 bp5 ba4 p03 p13 q0 q1 q2 q3 q4 q5 q6 q7 hb3 hb4 hb5 e03 e13 e04 e14 e05 e15 e0 e1 ef hcell0 hcell1
   cases q
   ·go_wp2_with fail
    go_roundg (ps.length-(n+1))
    case measure=>rw [HN.out];omega
    case rel=>
     refine ⟨n+1,x,ax,cx,l,by omega,by go_num,rfl,?_,by omega,HST2.out,HBUT2.out,HOV.out⟩
     rw [HTK.out]
     exact (meetStep_no HGA.out.1 HGA.out.2.1 HGA.out.2.2.1 HGA.out.2.2.2 HQQ.out).symm
   ·obtain ⟨xA,hxA⟩:∃xA,xA=M.backTo x ida ma X:=⟨_,rfl⟩
    obtain ⟨xB,hxB⟩:∃xB,xB=M.backTo xA idb mb Y:=⟨_,rfl⟩
    have HXA:=hI hxA
    have HXB:=hI hxB
    have HGXA:Hid (M.GoodS xA):=hI (by rw [hxA];exact M.backTo_good HST.out.good _ _ _)
    have HGXB:Hid (M.GoodS xB):=hI (by rw [hxB];exact M.backTo_good HGXA.out _ _ _)
    clear hxA hxB
    have kw2:=HST2.out.bel.size
    go_upto_region 23 with (at_builtin;refine wpList_append_own_at _ rfl (.tmp 114) (.tmp 116) _ rfl w.heap.size 71 i0 _ 2 16 Tryz.underlying33 hi hz0 hz1 hz2 rfl bO _ l.length _ rfl (own_below HST2.out.own (show Below W2.heap.size W2 _ from bel9)) ⟨W2.heap.size,0,none⟩ 1 1 (pairL (ida,idb)) rfl rfl (by intro j u hu;rw [Addr.add_lit];match j,hu with|0,hu=>(simp [pairL] at hu;subst hu;simp)|1,hu=>(simp [pairL] at hu;subst hu;simp)|j+2,hu=>simp [pairL] at hu) (by intro u hu;exact pairs_one [(ida,idb)] u (by simpa using hu)) (by unfold maxLen;omega) bO sO ?_;intro v9 w9 hown9 hg9 _ hat9;have HS9:=hI ((HST2.out.more (show Below W2.heap.size W2 _ from bel9)).grow hown9 hg9 hat9);have HG9:=hI hg9;have HO9:=hI hown9;have HA9:=hI hat9;clear hown9 hg9 hat9)
    refine wp_called (λW3 hW3=>?_)
    have HST3:Hid (St P w W3 g1 g2 g5 t0 n0 fall wide high z0 z1 z2 z3 z4 v9 (l++[(ida,idb)]) ax cx x):=hI (by rw [hW3];exact HS9.out)
    have hneg:∀g,wo.heap.size<=g->(Value.slice vx l.length vc).ownBlock≠some g:=λg hg e=>by have:=HLOW.out g e;omega
    have HBUT3:Hid (But w2.heap.size g5 w2 W3):=hI (by rw [hW3];exact (HBUT2.out.trans (But.of_below (show Below W2.heap.size W2 _ from bel9) bO)).grown HG9.out sO HOV.out)
    have HOV3:Hid (∀g,v9.ownBlock=some g->w2.heap.size<=g):=hI (by
     intro g e
     rcases HA9.out with k|k
     ·exact HOV.out g (k▸e)
     ·rw [k] at e
      simp at e
      omega)
    have bp:Blk W3 wo.heap.size 71 #[.int .i64 ida,.int .i64 idb]:=by rw [hW3];exact (HP2.out.alloc _).grown HG9.out (hneg _ bO)
    have bx:Blk W3 w5.heap.size 38 (rowC X):=by rw [hW3];exact (HX2.out.alloc _).grown HG9.out (hneg _ bO)
    have by_:Blk W3 (w5.heap.size+1) 38 (rowC Y):=by rw [hW3];exact (HY2.out.alloc _).grown HG9.out (hneg _ bO)
    have p0:=bp.cell 0
    have p1:=bp.cell 1
    simp at p0 p1
    have lp:=bp.lt
    obtain ⟨q0,q1,q2,q3,q4,q5,q6,q7⟩:=row_at bx
    have lx:=bx.lt
    have HP3:=hI bp
    have HY3:=hI by_
    have e0:=HST3.out.b5.cell 0
    have e1:=HST3.out.b5.cell 1
    have ef:=λi=>HST3.out.b5.free i
    have k5o:=HST3.out.b5.lt
    simp at e0 e1
    have HBA:=hI (λU (hb:Below W3.heap.size W3 U)=>worldBack_calls (HST3.out.rob.at_.below hb) (good_in HST3.out.good) ida ma X)
    rw [←HXA.out] at HBA
    have kx3:=HST3.out.bel.size
    have kb3:=HBUT3.out.size
    clear hW3 bp bx by_ hneg
    go_upto_region 24 with (go_at_call_of 81 ida;go_loud (refine (HBA.out _ bel9).mono ?_;rintro e w10 ⟨v10,rfl,⟨hs10,hn10⟩,hb10⟩;obtain ⟨a10,c10,rfl⟩:=hs10.form;have HN10:=hI (HST3.out.rob.set bel9 hb10 hn10 HST3.out.newQ);have K10:Below W3.heap.size W3 w10:=(show Below W3.heap.size W3 _ from bel9).trans (hb10.mono sid9);have kz10:=K10.size;have b710:=HST3.out.b5.below K10 HST3.out.b5.lt;have y010:=b710.cell 0;have y110:=b710.cell 1;(try simp at y010 y110);have yf10:=(λi=>b710.free i);have ly10:=b710.lt;clear hs10 hn10))
    refine wp_called (λW4 hW4=>?_)
    have HST4:Hid (St P w W4 g1 g2 g5 t0 n0 fall wide high z0 z1 z2 z3 z4 v9 (l++[(ida,idb)]) a10 c10 xA):=hI (by
     rw [hW4]
     exact HST3.out.next (((But.of_below (sb:=g5) K10 lR).setCell (.inr rfl) _).setCell (.inr rfl) _) (by
      have:=(b710.put 0 (.slice a10 xA.tables.length c10)).put 1 (.int .i64 xA.next)
      simpa using this) (HN10.out.step sS (λg h1 h2=>by rw [bS _ _ _ _ h2.2.1.2.2,bS _ _ _ _ h2.2.1.2.2])) HGXA.out)
    have HBUT4:Hid (But w2.heap.size g5 w2 W4):=hI (by rw [hW4];exact ((HBUT3.out.trans (But.of_below K10 kb3)).setCell (.inr rfl) _).setCell (.inr rfl) _)
    have bp:Blk W4 wo.heap.size 71 #[.int .i64 ida,.int .i64 idb]:=by rw [hW4];exact (((HP3.out.below K10 HP3.out.lt).far (p:=⟨g5,0,none⟩) (by show ¬wo.heap.size=g5;have:=HST.out.b5.lt;omega) _).far (p:=⟨g5,1,none⟩) (by show ¬wo.heap.size=g5;have:=HST.out.b5.lt;omega) _)
    have by_:Blk W4 (w5.heap.size+1) 38 (rowC Y):=by rw [hW4];exact (((HY3.out.below K10 HY3.out.lt).far (p:=⟨g5,0,none⟩) (by show ¬w5.heap.size+1=g5;have:=HST.out.b5.lt;omega) _).far (p:=⟨g5,1,none⟩) (by show ¬w5.heap.size+1=g5;have:=HST.out.b5.lt;omega) _)
    have p0:=bp.cell 0
    have p1:=bp.cell 1
    simp at p0 p1
    have lp:=bp.lt
    obtain ⟨q0,q1,q2,q3,q4,q5,q6,q7⟩:=row_at by_
    have ly:=by_.lt
    have e0:=HST4.out.b5.cell 0
    have e1:=HST4.out.b5.cell 1
    have ef:=λi=>HST4.out.b5.free i
    have k5o:=HST4.out.b5.lt
    simp at e0 e1
    have HBB:=hI (λU (hb:Below W4.heap.size W4 U)=>worldBack_calls (HST4.out.rob.at_.below hb) (good_in HST4.out.good) idb mb Y)
    rw [←HXB.out] at HBB
    have kx4:=HST4.out.bel.size
    have kb4:=HBUT4.out.size
    clear hW4 bp by_ y010 y110 yf10 b710
    go_wp2_with (go_at_call_of 81 idb;go_loud (refine (HBB.out _ bel9).mono ?_;rintro e w11 ⟨v11,rfl,⟨hs11,hn11⟩,hb11⟩;obtain ⟨a11,c11,rfl⟩:=hs11.form;have HN11:=hI (HST4.out.rob.set bel9 hb11 hn11 HST4.out.newQ);have K11:Below W4.heap.size W4 w11:=(show Below W4.heap.size W4 _ from bel9).trans (hb11.mono sid9);have kz11:=K11.size;have b711:=HST4.out.b5.below K11 HST4.out.b5.lt;have y011:=b711.cell 0;have y111:=b711.cell 1;(try simp at y011 y111);have yf11:=(λi=>b711.free i);have ly11:=b711.lt;clear hs11 hn11))
    go_roundg (ps.length-(n+1))
    case measure=>rw [HN.out];omega
    case rel=>
     refine ⟨n+1,xB,a11,c11,l++[(ida,idb)],by omega,by go_num,rfl,?_,by simp;omega,?_,?_,HOV3.out⟩
     ·rw [HTK.out]
      exact (meetStep_yes HGA.out.1 HGA.out.2.1 HGA.out.2.2.1 HGA.out.2.2.2 HQQ.out HXY.out HXA.out HXB.out).symm
     ·exact HST4.out.next (((But.of_below (sb:=g5) K11 lR).setCell (.inr rfl) _).setCell (.inr rfl) _) (by
      have:=(b711.put 0 (.slice a11 xB.tables.length c11)).put 1 (.int .i64 xB.next)
      simpa using this) (HN11.out.step sS (λg h1 h2=>by rw [bS _ _ _ _ h2.2.1.2.2,bS _ _ _ _ h2.2.1.2.2])) HGXB.out
     ·exact ((HBUT4.out.trans (But.of_below K11 kb4)).setCell (.inr rfl) _).setCell (.inr rfl) _
  ·obtain rfl:n=ps.length:=by omega
   have q9:decide ((ps.length:Int)<(ps.length:Int))=false:=decide_eq_false bO
   go_wp2_with fail
   exact HKK.out _ _ _ _ _ _ _ _ _ _ _ _ _ _ _ _ _ _ _ _ _ _ _ _ _ _ _ _ _ _ _ _ _ _ _ _ _ _ _ _ _ _ _ _ _ _ _ _ _ _ _ _ _ _ _ _ _ _ _ _ _ _ _ _ _ _ _ _ _ _ _ _ _ _ _ _ _ _ _ _ _ _ _ _ _ _ _ _ _ _ _ _ _ _ _ _ _ _ _ _ _ _ _ _ _ _ _ _ _ _ _ _ _ _ _ _ _ _ _ _ _ _ _ _ _ _ _ _ _ _ _ _ _ _ _ _ _ _ _ _ _ _ _ _ _ _ _ _ _ _ _ _ _ _ _ _ _ _ _ _ _ _ _ _ _ _ _ _ _ _ _ _ _ _ _ _ _ _ _ _ _ _ _ _ _ _ _ _ _ _ _ (by rw [HX.out,List.take_length]) HST.out
end Go.Proofs.YtemkbjaojinaoaaGreat
