/- Several small texts in one. No condition of its own: each part says its own. -/
import Derived.Test.YtemkbjaojinaoaaGreatShort
import Derived.Test.YtemkbjaojinaoaaGreatBagWo
import Derived.Test.YtemkbjaojinaoaaGreatBagP
import Derived.Test.YtemkbjaojinaoaaGreatBagS
import Derived.Test.YtemkbjaojinaoaaGreatBagX9
import Derived.Deep.DeepCutAuto
import Derived.Laws.Rows
set_option linter.unusedVariables false
set_option linter.unusedSimpArgs false
set_option maxRecDepth 100000
set_option maxHeartbeats 8000000
namespace Go.Proofs.YtemkbjaojinaoaaGreat
open Go.RowKit
def dropS:Nat->Code->Code
 |0,c=>c
 |n+1,.seq _ b=>dropS n b
 |_+1,c=>c
def headC:Code->Code
 | .seq a _=>a
 |c=>c
noncomputable def tailS (n:Nat):Code:=dropS n (Tryz.f49.body.getD .skip)
noncomputable def headS (n:Nat):Code:=headC (tailS n)
theorem results_cell_tmp2 {P:Program} {fn:Func} {p:Tmp} {ty:TypeId} {u x:Tmp} (h:fn.results=#[.cell p ty,.tmp u,.tmp x]) (tmps:Array Value) (w:World) (g:Nat) (t:TypeId) (cs:Array Value) (fr:Nat×Nat) (d:TypeDesc)
  (hp:tmps.getD p undef=.pointer (some ⟨g,0,none⟩)) (hg:w.heap[g]?=some (.cells cs t fr))
  (hu:P.underlying ty=some d) (hd:(match d with| .struct _| .array _ _=>true|_=>false)=true) (hi:(P.info? ty).map (·.size)=some cs.size):
  (results fn tmps).run P w=.ok (.tuple #[.agg cs,tmps.getD u undef,tmps.getD x undef]) w:=by
 have hp':tmps[p]?.getD undef=.pointer (some ⟨g,0,none⟩):=by simpa using hp
 simp [results,h,hp',asAddr,run_loadVar_row w g t ty cs fr d hg hu hd hi]
def Rob (w:World) (Q:Nat->Prop) (v:Value) (s:M.Store):Prop:=∀W,w.heap.size<=W.heap.size->(∀g,g<w.heap.size->Q g->W.heap[g]?=w.heap[g]?)->StoreAt W 0 v s
theorem Rob.at_ {w:World} {Q:Nat->Prop} {v:Value} {s:M.Store} (h:Rob w Q v s):StoreAt w 0 v s:=h w lR (λ_ _ _=>rfl)
theorem Rob.wide {w:World} {Q R:Nat->Prop} {v:Value} {s:M.Store} (h:Rob w Q v s) (hq:∀g,g<w.heap.size->Q g->R g):Rob w R v s:=λU hU hE=>h U hU (λg h1 h2=>hE g h1 (hq g h1 h2))
theorem Rob.of_at {w:World} {lo:Nat} {v:Value} {s:M.Store} (h:StoreAt w lo v s):Rob w (λg=>lo<=g) v s:=λU hU hE=>(h.same (W:=U) λg h1 h2=>hE g h2 h1).mono (Nat.zero_le _)
theorem Rob.step {w W:World} {Q:Nat->Prop} {v:Value} {s:M.Store} (h:Rob w Q v s) (hz:w.heap.size<=W.heap.size) (hb:∀g,g<w.heap.size->Q g->W.heap[g]?=w.heap[g]?):Rob W Q v s:=
 λU hU hE=>h U (Nat.le_trans hz hU) (λg h1 h2=>(hE g bO h2).trans (hb g h1 h2))
theorem Rob.set {w wc w7:World} {Q:Nat->Prop} {v v':Value} {s x:M.Store} (h:Rob w Q v s) (hw:Below w.heap.size w wc) (hc:Below wc.heap.size wc w7) (hx:NewOr wc w7 v v' s x) (h5:∀g,w.heap.size<=g->Q g):Rob w7 Q v' x:=by
 have k1:=hw.size
 have k2:=hc.size
 rcases hx with ⟨rfl,rfl⟩|hx
 ·exact h.step bO (λg h1 h2=>(hc.block g bO).trans (hw.block g h1))
 ·intro U hU hE
  exact (hx.same λg h1 h2=>hE g h2 (h5 g bO)).mono (Nat.zero_le _)
def InQ (P:Nat->Prop) (w:World) (g1 g2 g5:Nat) (vo:Value) (g:Nat):Prop:=(P g\/w.heap.size<=g)/\(g≠g1/\g≠g2/\g≠g5)/\vo.ownBlock≠some g
abbrev stV (a:Option Addr) (c:Nat) (x:M.Store):Value:=.agg #[.slice a x.tables.length c,.int .i64 x.next]
structure St (P:Nat->Prop) (w W:World) (g1 g2 g5:Nat) (t0:Value) (n0 fall wide high:Int) (z0 z1 z2 z3 z4 vo:Value) (l:List M.Pr) (a:Option Addr) (c:Nat) (x:M.Store):Prop where
 b1:Blk W g1 53 #[t0,.int .i64 n0,.int .i64 fall,.int .i64 wide,.int .i64 high]
 b2:Blk W g2 53 #[z0,z1,z2,z3,z4]
 b5:Blk W g5 51 #[.slice a x.tables.length c,.int .i64 x.next]
 rob:Rob W (InQ P w g1 g2 g5 vo) (stV a c x) x
 good:M.GoodS x
 bel:Below w.heap.size w W
 l1:w.heap.size<=g1
 l2:w.heap.size<=g2
 l5:w.heap.size<=g5
 n12:g1≠g2
 n15:g1≠g5
 n25:g2≠g5
 own:W.ownsRow w.heap.size 71 2 vo l.length (l.flatMap pairL)
 ov:∀g,vo.ownBlock=some g->g≠g1/\g≠g2/\g≠g5
section
variable {P:Nat->Prop} {w W W':World} {g1 g2 g5:Nat} {t0:Value} {n0 fall wide high:Int} {z0 z1 z2 z3 z4 vo:Value} {l:List M.Pr} {a:Option Addr} {c:Nat} {x:M.Store}
theorem St.next (h:St P w W g1 g2 g5 t0 n0 fall wide high z0 z1 z2 z3 z4 vo l a c x) {a':Option Addr} {c':Nat} {x':M.Store} (hB:But W.heap.size g5 W W') (b5:Blk W' g5 51 #[.slice a' x'.tables.length c',.int .i64 x'.next])
  (hr:Rob W' (InQ P w g1 g2 g5 vo) (stV a' c' x') x') (hg:M.GoodS x'):St P w W' g1 g2 g5 t0 n0 fall wide high z0 z1 z2 z3 z4 vo l a' c' x':=
 ⟨(hB.block g1 h.b1.lt h.n15).trans h.b1,(hB.block g2 h.b2.lt h.n25).trans h.b2,b5,hr,hg,h.bel.trans (hB.below (B:=w.heap.size) h.bel.size h.l5),h.l1,h.l2,h.l5,h.n12,h.n15,h.n25,own_same h.own (λg hg=>hB.block g (h.own.lt g hg).2 (h.ov g hg).2.2),h.ov⟩
theorem St.newQ (h:St P w W g1 g2 g5 t0 n0 fall wide high z0 z1 z2 z3 z4 vo l a c x):∀g,W.heap.size<=g->InQ P w g1 g2 g5 vo g:=by
 intro g hg
 have k0:=h.bel.size
 have k1:=h.b1.lt
 have k2:=h.b2.lt
 have k5:=h.b5.lt
 exact ⟨.inr bO,⟨by omega,by omega,by omega⟩,λe=>by have:=(h.own.lt g e).2;omega⟩
theorem St.grow (h:St P w W g1 g2 g5 t0 n0 fall wide high z0 z1 z2 z3 z4 vo l a c x) {w9:World} {v9:Value} {p:M.Pr} (ho:w9.ownsRow w.heap.size 71 2 v9 (l.length+1) (l.flatMap pairL++pairL p)) (hg:W.grownBy w9 vo.ownBlock)
  (hat:v9.ownBlock=vo.ownBlock\/v9.ownBlock=some W.heap.size):St P w w9 g1 g2 g5 t0 n0 fall wide high z0 z1 z2 z3 z4 v9 (l++[p]) a c x:=by
 refine ⟨(hg.block g1 h.b1.lt (λe=>(h.ov g1 e.symm).1 rfl)).trans h.b1,(hg.block g2 h.b2.lt (λe=>(h.ov g2 e.symm).2.1 rfl)).trans h.b2,(hg.block g5 h.b5.lt (λe=>(h.ov g5 e.symm).2.2 rfl)).trans h.b5,?_,h.good,h.bel.grown hg h.bel.size (λk hk=>(h.own.lt k hk).1),h.l1,h.l2,h.l5,h.n12,h.n15,h.n25,?_,?_⟩
 ·intro V hV hE
  refine h.rob V (Nat.le_trans hg.size hV) (λg h1 h2=>?_)
  refine (hE g (Nat.lt_of_lt_of_le h1 hg.size) ⟨h2.1,h2.2.1,λe=>?_⟩).trans (hg.block g h1 (λe=>h2.2.2 e.symm))
  rcases hat with k|k
  ·exact h2.2.2 (k▸e)
  ·rw [k] at e
   simp only [Option.some.injEq] at e
   omega
 ·rw [List.length_append,List.flatMap_append]
  simpa using ho
 ·intro g e
  rcases hat with k|k
  ·exact h.ov g (k▸e)
  ·rw [k] at e
   simp only [Option.some.injEq] at e
   have k1:=h.b1.lt
   have k2:=h.b2.lt
   have k5:=h.b5.lt
   omega
theorem St.more (h:St P w W g1 g2 g5 t0 n0 fall wide high z0 z1 z2 z3 z4 vo l a c x) (hb:Below W.heap.size W W'):St P w W' g1 g2 g5 t0 n0 fall wide high z0 z1 z2 z3 z4 vo l a c x:=
 h.next (But.of_below hb lR) (h.b5.below hb h.b5.lt) (h.rob.step hb.size (λg h1 _=>hb.block g h1)) h.good
end
theorem nil_store (w:World) (lo:Nat):StoreAt w lo (.agg #[.slice none 0 0,.int .i64 0]) ⟨[],0⟩:=
 ⟨_,rfl,[],rfl,⟨rfl,Nat.zero_le _,none,0,rfl,λh=>absurd rfl h⟩,λi t p h=>by simp at h⟩
theorem nil_in:StoreIn ⟨[],0⟩:=⟨⟨by simp,by simp⟩,λt h=>by simp at h⟩
theorem Rob.made {w W:World} {v:Value} {s:M.Store} {lo:Nat} (h:StoreAt w lo v s) (hb:Below w.heap.size w W):Rob W (λg=>g<w.heap.size) v s:=
 ((Rob.of_at h).wide (R:=λg=>g<w.heap.size) (λg h1 _=>h1)).step hb.size (λg h1 _=>hb.block g h1)
theorem step_ret {P:Nat->Prop} {w W:World} {g1 g2 g5:Nat} {t0:Value} {n0 fall wide high:Int} {z0 z1 z2 z3 z4 vo:Value} {l:List M.Pr} {s:M.Store} {a:Option Addr} {c:Nat} (u0 u3 u4 u6 u7 u8 u9 u10 u11 u12 u14 u15 u16 u17 u18 u19 u20 u21 u22 u23 u24 u25 u26 u27 u28 u29 u30 u31 u32 u33 u34 u35 u36 u37 u38 u39 u40 u41 u42 u43 u44 u45 u46 u47 u48 u49 u50 u51 u52 u53 u54 u55 u56 u57 u58 u59 u60 u61 u62 u63 u64 u65 u66 u67 u68 u69 u70 u71 u72 u73 u74 u75 u76 u77 u78 u79 u80 u81 u82 u83 u84 u85 u86 u87 u88 u89 u90 u91 u92 u93 u94 u95 u96 u97 u98 u99 u100 u101 u102 u103 u104 u105 u106 u107 u108 u109 u110 u111 u112 u113 u114 u115 u116 u117 u118 u119 u120 u121 u122 u123 u124 u125 u126 u127 u128 u129 u130 u131 u132 u133 u134 u135 u136 u137 u138 u139 u140 u141 u142 u143 u144 u145 u146 u147 u148 u149 u150 u151 u152 u153 u154 u155 u156 u157 u158 u159 u160 u161 u162 u163 u164 u165 u166 u167 u168 u169 u170 u171 u172 u173 u174 u175 u176 u177 u178 u179 u180 u181 u182 u183 u184 u185 u186 u187 u188:Value) (h:St P w W g1 g2 g5 t0 n0 fall wide high z0 z1 z2 z3 z4 vo l a c s):
  Code.wp Tryz.prog (tailS 7) (bodyPost Tryz.prog Tryz.f49 λe w'=>e=.returned (.tuple #[.agg #[.slice a s.tables.length c,.int .i64 s.next,.int .i64 fall,.int .i64 wide,.int .i64 high],vo,.int .i64 0])/\Rob w' (InQ P w g1 g2 g5 vo) (stV a c s) s/\Below w.heap.size w w'/\(∀g,w.heap.size<=g->g≠g1->g≠g2->w'.heap[g]?=W.heap[g]?)/\W.heap.size<=w'.heap.size) ⟨List.toArray (u0::.pointer (some ⟨g1,0,none⟩)::.pointer (some ⟨g2,0,none⟩)::u3::u4::.pointer (some ⟨g5,0,none⟩)::u6::u7::u8::u9::u10::u11::u12::vo::u14::u15::u16::u17::u18::u19::u20::u21::u22::u23::u24::u25::u26::u27::u28::u29::u30::u31::u32::u33::u34::u35::u36::u37::u38::u39::u40::u41::u42::u43::u44::u45::u46::u47::u48::u49::u50::u51::u52::u53::u54::u55::u56::u57::u58::u59::u60::u61::u62::u63::u64::u65::u66::u67::u68::u69::u70::u71::u72::u73::u74::u75::u76::u77::u78::u79::u80::u81::u82::u83::u84::u85::u86::u87::u88::u89::u90::u91::u92::u93::u94::u95::u96::u97::u98::u99::u100::u101::u102::u103::u104::u105::u106::u107::u108::u109::u110::u111::u112::u113::u114::u115::u116::u117::u118::u119::u120::u121::u122::u123::u124::u125::u126::u127::u128::u129::u130::u131::u132::u133::u134::u135::u136::u137::u138::u139::u140::u141::u142::u143::u144::u145::u146::u147::u148::u149::u150::u151::u152::u153::u154::u155::u156::u157::u158::u159::u160::u161::u162::u163::u164::u165::u166::u167::u168::u169::u170::u171::u172::u173::u174::u175::u176::u177::u178::u179::u180::u181::u182::u183::u184::u185::u186::u187::u188::[]),[]⟩ W:=by
 have H:=hI h
 have n12:=h.n12
 have n15:=h.n15
 have n25:=h.n25
 have n21:¬g2=g1:=λe=>n12 e.symm
 have n51:¬g5=g1:=λe=>n15 e.symm
 have n52:¬g5=g2:=λe=>n25 e.symm
 have k5:=h.b5.lt
 have k1:=h.b1.lt
 have k2:=h.b2.lt
 have c0:=h.b5.cell 0
 have c1:=h.b5.cell 1
 have f1:=λi=>h.b1.free i
 simp at c0 c1
 have i0:=h.b1.cell 0
 have i1:=h.b1.cell 1
 simp at i0 i1
 clear h
 conv=>arg 2;whnf
 go_upto_region 35 with (fail)
 refine wp_called (λW2 hW2=>?_)
 have b1:Blk W2 g1 53 #[.slice a s.tables.length c,.int .i64 s.next,.int .i64 fall,.int .i64 wide,.int .i64 high]:=by
  rw [hW2]
  have:=(H.out.b1.put 0 (.slice a s.tables.length c)).put 1 (.int .i64 s.next)
  simpa using this
 have b2:Blk W2 g2 53 #[z0,z1,z2,z3,z4]:=by
  rw [hW2]
  exact (H.out.b2.far (p:=⟨g1,0,none⟩) n21 _).far (p:=⟨g1,1,none⟩) n21 _
 have hE:Hid (∀g,g≠g1->W2.heap[g]?=W.heap[g]?):=hI (by
  intro g e1
  rw [hW2]
  rw [bS _ _ _ _ e1,bS _ _ _ _ e1])
 have HZ:Hid (W2.heap.size=W.heap.size):=hI (by rw [hW2];simp)
 have hBB:Below w.heap.size w W2:=by
  rw [hW2]
  exact (H.out.bel.setCell H.out.l1 _).setCell H.out.l1 _
 have HBB:=hI hBB
 have i0:=b1.cell 0
 have i1:=b1.cell 1
 have i2:=b1.cell 2
 have i3:=b1.cell 3
 have i4:=b1.cell 4
 have j0:=b2.cell 0
 have j1:=b2.cell 1
 have j2:=b2.cell 2
 have j3:=b2.cell 3
 have j4:=b2.cell 4
 have f2:=λi=>b2.free i
 have l1:=b1.lt
 have l2:=b2.lt
 simp at i0 i1 i2 i3 i4 j0 j1 j2 j3 j4
 have HB2:=hI b2
 clear b1 b2 hW2 hBB c0 c1 f1
 go_wp2_with fail
 have hg2:∀U,U=(((((W2.setCell ⟨g2,0,none⟩ (.slice a s.tables.length c)).setCell ⟨g2,1,none⟩ (.int .i64 s.next)).setCell ⟨g2,2,none⟩ (.int .i64 fall)).setCell ⟨g2,3,none⟩ (.int .i64 wide)).setCell ⟨g2,4,none⟩ (.int .i64 high))->U.heap[g2]?=some (.cells #[.slice a s.tables.length c,.int .i64 s.next,.int .i64 fall,.int .i64 wide,.int .i64 high] 53 (0,0)):=by
  rintro U rfl
  exact blk_to (((((HB2.out.put 0 (.slice a s.tables.length c)).put 1 (.int .i64 s.next)).put 2 (.int .i64 fall)).put 3 (.int .i64 wide)).put 4 (.int .i64 high)) (by rfl)
 refine bodyPost_ret (results_cell_tmp2 (p:=2) (ty:=53) (u:=3) (x:=4) rfl _ _ g2 53 _ (0,0) _ rfl (hg2 _ rfl) Tryz.underlying53 rfl kR) rfl ⟨rfl,?_,?_,?_,?_⟩
 ·refine H.out.rob.step (by simp [HZ.out]) (λg h1 h2=>?_)
  have e1:g≠g1:=h2.2.1.1
  have e2:g≠g2:=h2.2.1.2.1
  exact ((((((bS _ _ _ _ e2).trans (bS _ _ _ _ e2)).trans (bS _ _ _ _ e2)).trans (bS _ _ _ _ e2)).trans (bS _ _ _ _ e2)).trans (hE.out g e1))
 ·have l2':=H.out.l2
  have k3:=HBB.out
  exact ((((k3.setCell l2' _).setCell l2' _).setCell l2' _).setCell l2' _).setCell l2' _
 ·intro g _ e1 e2
  exact ((((((bS _ _ _ _ e2).trans (bS _ _ _ _ e2)).trans (bS _ _ _ _ e2)).trans (bS _ _ _ _ e2)).trans (bS _ _ _ _ e2)).trans (hE.out g e1))
 ·simp [HZ.out]
end Go.Proofs.YtemkbjaojinaoaaGreat
