/- Several small texts in one. No condition of its own: each part says its own. -/
import Derived.Test.YtemkbjaojinaoaaGreatShort
import Derived.Test.YtemkbjaojinaoaaGreatBagN2
import Derived.Test.YtemkbjaojinaoaaGreatBagM3
import Derived.Test.YtemkbjaojinaoaaGreatBagP
import Derived.Test.YtemkbjaojinaoaaGreatRefDoDraw2
set_option linter.unusedVariables false
set_option linter.unusedSimpArgs false
set_option maxRecDepth 100000
set_option maxHeartbeats 8000000
namespace Go.Proofs.YtemkbjaojinaoaaGreat
open Go.RowKit
theorem rdo_spawn {w:World} {R:Nat->Prop} {g:Nat} {G:M.Game} {b:Nat} {sv:Value} {hs:List Nat} (h:RefAt w R g G b sv hs) (hR:∀y,R y->y<w.heap.size) (hG:M.GoodG G) (kind id n mask:Int) (row:M.Row) (box:M.Box) (hk:kind=1) (h0:0<=G.acts) (hlt:G.acts<150) (hx:ActIn ⟨kind,id,n,mask,row,box⟩):
  Calls Tryz.prog 10 #[.pointer (some ⟨g,0,none⟩),actV ⟨kind,id,n,mask,row,box⟩] w (RefPost R w g (M.doAct G ⟨kind,id,n,mask,row,box⟩).1 (M.doAct G ⟨kind,id,n,mask,row,box⟩).2):=by
 subst hk
 refine rdo_begin h _ hx.1.2.1 h0 hlt (λf gt W F A=>?_)
 obtain ⟨f0,f3,f4,f5,f6,f7⟩:=F
 obtain ⟨x0,x1,x2,x3,x4,x5,x6,x7,x8,x9,x10,x11,x12,x13,x14,x15,x16⟩:=act_cells A.act
 obtain ⟨y0,y1,y2,y3⟩:=four_cells A.rep
 obtain ⟨g0,g1,g2,g3,g4,g5,g6⟩:=game_cells A.ref.blk
 obtain ⟨yf,gf,lx,ly,lg,gp,HREF,HO,HY,HBG,HM,ng1,ng2,ng3,ng4⟩:=rdo_facts A hR
 have HA:=hI A
 have HRR:=hI hR
 simp only [fr406,f0,f3,f4,f5,f6,f7]
 clear A
 conv=>arg 2;whnf
 clear f0 f3 f4 f5 f6 f7 h
 have HI:=hI (λU=>isRow_calls mask row U)
 have gs:=hG.w.things
 clear hR hx
 rcases M.spawn_three gs mask row with ⟨e1,e2⟩|⟨e1,e2,e3⟩|⟨e1,⟨e2,e2q⟩,e3,e4,e5,e6⟩
 ·have hres:M.doAct G ⟨1,id,n,mask,row,box⟩=(more G,M.no 2):=by unfold M.doAct;rw [if_neg bO];simp only;rw [if_pos trivial,e2];rfl
  rw [hres]
  clear hres e2
  go_wp2_with (first|(go_at_call 27;go_loud (refine (HI.out _).mono ?_;rintro e w8 ⟨rfl,hb8⟩;rw [e1];have K8:Below W.heap.size W w8:=(show Below W.heap.size W _ from bel9).trans (hb8.mono sid9);have kz8:=K8.size))|(go_at_call 26;go_loud (refine (rno_calls _ _).mono ?_;rintro e w9 ⟨rfl,hb9⟩;have K9:Below W.heap.size W w9:=(show Below W.heap.size W _ from bel9).trans (hb9.mono sid9);have kz9:=K9.size;have by9:=HY.out.below K9 HY.out.lt;have z0:=by9.cell 0;have z1:=by9.cell 1;have z2:=by9.cell 2;have z3:=by9.cell 3;have zf:=λi=>by9.free i;simp at z0 z1 z2 z3)))
  refine bodyPost_ret (results_cell_row rfl _ _ _ _ _ _ _ rfl (reply_blk by9 _ _ _ _) Tryz.underlying35 rfl kR) rfl ?_
  exact rdo_end (m:=W.heap.size) (HREF.out.below K9) HRR.out HM.out (HO.out.more K9) (M.no 2) oN oN _ _ _ _
 ·have hres:M.doAct G ⟨1,id,n,mask,row,box⟩=(more G,M.no 5):=by unfold M.doAct;rw [if_neg bO];simp only;rw [if_pos trivial,e3];rfl
  rw [hres]
  clear hres e3
  obtain ⟨sz,hsz⟩:∃k,M.size G.w.things=k:=⟨_,rfl⟩
  have hs10:M.size G.w.things<=10:=gs.2.2.2.1
  have hn10:=gs.2.2.2.2.2
  rw [hsz] at hs10 e2
  have HMP:Hid (MapA W b (M.at_ G.w.things) sz):=hI (by rw [←hsz];exact HREF.out.map.2)
  clear hsz
  have q1:(((sz:Nat):Int)==10)=true\/((((sz:Nat):Int)==10)=false/\(G.w.things.next==1048576)=true):=by
   by_cases h:sz=10
   ·left;simp [h]
   ·right;refine ⟨by simp;omega,by simp;omega⟩
  rcases q1 with q1|⟨q1,q2⟩
  ·go_wp2_with (first|(go_at_call 27;go_loud (refine (HI.out _).mono ?_;rintro e w8 ⟨rfl,hb8⟩;rw [e1];have K8:Below W.heap.size W w8:=(show Below W.heap.size W _ from bel9).trans (hb8.mono sid9);have kz8:=K8.size;have bg8:=HBG.out.below K8 HBG.out.lt;have g0:=bg8.cell 0;have g1:=bg8.cell 1;simp at g0 g1))|(at_len;go_loud (refine wpList_th_len _ rfl _ 44 rfl 3 83 Tryz.underlying44 b _ _ rfl (HMP.out.below (show Below W.heap.size W _ from bel9) HMP.out.lt) ?_))|(go_at_call 26;go_loud (refine (rno_calls _ _).mono ?_;rintro e w9 ⟨rfl,hb9⟩;have K9:Below W.heap.size W w9:=(show Below W.heap.size W _ from bel9).trans (hb9.mono sid9);have kz9:=K9.size;have by9:=HY.out.below K9 HY.out.lt;have z0:=by9.cell 0;have z1:=by9.cell 1;have z2:=by9.cell 2;have z3:=by9.cell 3;have zf:=λi=>by9.free i;simp at z0 z1 z2 z3)))
   refine bodyPost_ret (results_cell_row rfl _ _ _ _ _ _ _ rfl (reply_blk by9 _ _ _ _) Tryz.underlying35 rfl kR) rfl ?_
   exact rdo_end (m:=W.heap.size) (HREF.out.below K9) HRR.out HM.out (HO.out.more K9) (M.no 5) oN oN _ _ _ _
  ·go_wp2_with (first|(go_at_call 27;go_loud (refine (HI.out _).mono ?_;rintro e w8 ⟨rfl,hb8⟩;rw [e1];have K8:Below W.heap.size W w8:=(show Below W.heap.size W _ from bel9).trans (hb8.mono sid9);have kz8:=K8.size;have bg8:=HBG.out.below K8 HBG.out.lt;have g0:=bg8.cell 0;have g1:=bg8.cell 1;simp at g0 g1))|(at_len;go_loud (refine wpList_th_len _ rfl _ 44 rfl 3 83 Tryz.underlying44 b _ _ rfl (HMP.out.below (show Below W.heap.size W _ from bel9) HMP.out.lt) ?_))|(go_at_call 26;go_loud (refine (rno_calls _ _).mono ?_;rintro e w9 ⟨rfl,hb9⟩;have K9:Below W.heap.size W w9:=(show Below W.heap.size W _ from bel9).trans (hb9.mono sid9);have kz9:=K9.size;have by9:=HY.out.below K9 HY.out.lt;have z0:=by9.cell 0;have z1:=by9.cell 1;have z2:=by9.cell 2;have z3:=by9.cell 3;have zf:=λi=>by9.free i;simp at z0 z1 z2 z3)))
   refine bodyPost_ret (results_cell_row rfl _ _ _ _ _ _ _ rfl (reply_blk by9 _ _ _ _) Tryz.underlying35 rfl kR) rfl ?_
   exact rdo_end (m:=W.heap.size) (HREF.out.below K9) HRR.out HM.out (HO.out.more K9) (M.no 5) oN oN _ _ _ _
 ·have hres:M.doAct G ⟨1,id,n,mask,row,box⟩=(M.withThings (more G) (M.spawn G.w.things mask row).1,⟨0,G.w.things.next,[],[]⟩):=by unfold M.doAct;rw [if_neg bO];simp only;rw [if_pos trivial,e3]
  rw [hres]
  clear hres
  obtain ⟨s2,hs2⟩:∃s,(M.spawn G.w.things mask row).1=s:=⟨_,rfl⟩
  rw [hs2] at e4 e5 e6
  rw [hs2]
  have hn:=M.at_next gs
  have hsz2:=M.size_more gs e4 hn e6
  have hn0:=gs.2.2.2.2.1
  have hmp:=HREF.out.map.2
  obtain ⟨sz,hsz⟩:∃k,M.size G.w.things=k:=⟨_,rfl⟩
  rw [hsz] at e2 hsz2
  have HMP:Hid (MapA W b (M.at_ G.w.things) sz):=hI (by rw [←hsz];exact hmp)
  clear hmp hs2 e3
  have q1:(((sz:Nat):Int)==10)=false:=by (first|(simp;done)|(simp;omega))
  have q2:(G.w.things.next==1048576)=false:=by (first|(simp;done)|(simp;omega))
  have HSM:Hid (sz<maxLen):=hI (by unfold maxLen;omega)
  have HID:Hid (I64 G.w.things.next):=hI (by constructor<;>omega)
  have HCP:=hI (λU (hb:Below W.heap.size W U)=>wcopy_calls (HMP.out.below hb HMP.out.lt) (by unfold maxLen;omega) G.w.things.next G.w.fall G.w.wide G.w.high)
  go_upto_region 14 with (first|(go_at_call 27;go_loud (refine (HI.out _).mono ?_;rintro e w8 ⟨rfl,hb8⟩;rw [e1];have K8:Below W.heap.size W w8:=(show Below W.heap.size W _ from bel9).trans (hb8.mono sid9);have kz8:=K8.size;have bg8:=HBG.out.below K8 HBG.out.lt;have g0:=bg8.cell 0;have g1:=bg8.cell 1;have g2:=bg8.cell 2;have g3:=bg8.cell 3;have g4:=bg8.cell 4;simp at g0 g1 g2 g3 g4))|(at_len;go_loud (refine wpList_th_len _ rfl _ 44 rfl 3 83 Tryz.underlying44 b _ _ rfl (HMP.out.below (show Below W.heap.size W _ from bel9) HMP.out.lt) ?_))|(go_at_call 28;go_loud (refine (HCP.out _ (show Below W.heap.size W _ from bel9)).mono ?_;rintro e w7 ⟨b2,rfl,hm7,hb7,hbl7⟩;have hb2:W.heap.size<=b2:=Nat.le_trans kz8 hb7;have HM7:=hI hm7;have K7:Below W.heap.size W w7:=(show Below W.heap.size W _ from bel9).trans (hbl7.mono sid9);have kz7:=K7.size;have bg7:=HBG.out.below K7 HBG.out.lt;have gf7:=λi=>bg7.free i;have g0:=bg7.cell 0;have g1:=bg7.cell 1;have g2:=bg7.cell 2;have g3:=bg7.cell 3;have g4:=bg7.cell 4;simp at g0 g1 g2 g3 g4;clear hm7)))
  refine wp_called (λW3 hW3=>?_)
  have nb:b2≠g:=ne_new lg hb2
  have BUT:But1 g W W3:=by rw [hW3];exact ((((((But1.refl g W).more K7).put 0 _).put 1 _).put 2 _).put 3 _).put 4 _
  have HM3:Hid (MapA W3 b2 (M.at_ G.w.things) sz):=hI (by rw [hW3];exact ((((HM7.out.far nb _).far nb _).far nb _).far nb _).far nb _)
  have b3:Blk W3 g 58 (refC b2 sv (more G)):=by rw [hW3];exact blk_to (((((bg7.put 0 _).put 1 _).put 2 _).put 3 _).put 4 _) (by rfl)
  have a3:Blk W3 w.heap.size 42 (actC ⟨1,id,n,mask,row,box⟩):=by rw [hW3];exact (((((HA.out.act.below K7 lx).far (p:=⟨g,0,none⟩) ng2 _).far (p:=⟨g,1,none⟩) ng2 _).far (p:=⟨g,2,none⟩) ng2 _).far (p:=⟨g,3,none⟩) ng2 _).far (p:=⟨g,4,none⟩) ng2 _
  have r3:Blk W3 (w.heap.size+1) 35 #[.int .i64 0,.int .i64 0,.slice none 0 0,.slice none 0 0]:=by rw [hW3];exact (((((HY.out.below K7 ly).far (p:=⟨g,0,none⟩) ng4 _).far (p:=⟨g,1,none⟩) ng4 _).far (p:=⟨g,2,none⟩) ng4 _).far (p:=⟨g,3,none⟩) ng4 _).far (p:=⟨g,4,none⟩) ng4 _
  clear hW3
  obtain ⟨w4,hrun,hm4,ht4⟩:=MapAt.put HM3.out.drew Tryz.underlying3 Tryz.underlying44 HSM.out (id:=G.w.things.next) HID.out (mask,row)
  have e6q:M.at_ s2=M.upd (M.at_ G.w.things) G.w.things.next (mask,row):=e6
  rw [hn] at hm4
  simp only [Option.isSome_none,Bool.false_eq_true,if_false] at hm4
  rw [←hsz2,←e6q] at hm4
  have HB3:=hI b3
  have HY3:=hI r3
  have HA3:=hI a3
  have HBU:=hI BUT
  have HM4:=hI hm4
  have HT4:=hI ht4
  clear b3 r3 a3 BUT hm4 ht4
  refine DG.wp_named (λA hA=>?_)
  show Code.wp Tryz.prog r14C _ _ _
  rw [r14C_is]
  refine wp_region_any kR ?_
  rw [r14Ops_size]
  show wpAny _ _ _ _ _ _ _ W3.drew
  refine r14_region (g:=g) (p3:=w.heap.size) (b:=b2) (mask:=mask) (next:=G.w.things.next) (row:=row) (w4:=w4) (W0:=W3.drew) ⟨by rw [hA];rfl,by rw [hA];rfl,HB3.out.drew.cell 0,HB3.out.drew.cell 1,HA3.out.drew.cell 3,HA3.out.drew.cell 4,HA3.out.drew.cell 5,HA3.out.drew.cell 6,HA3.out.drew.cell 7,HA3.out.drew.cell 8,HA3.out.drew.cell 9,HA3.out.drew.cell 10,HA3.out.drew.cell 11,hrun⟩ rA (by rw [hA]) () (by unfold r14Mem;rw [if_neg sS]) ?_
  intro gg ll W4 hll hmm
  unfold r14Mem at hmm
  rw [if_pos (hll 15 dC)] at hmm
  subst hmm
  refine next_frame rA [0,3,4,5] (by rfl) (λf9 k9=>?_)
  have e0:f9 0=.pointer (some ⟨g,0,none⟩):=(k9 0 dC).trans rA
  have e3:f9 3=.pointer (some ⟨w.heap.size,0,none⟩):=(k9 3 dC).trans rA
  have e4:f9 4=.pointer (some ⟨w.heap.size+1,0,none⟩):=(k9 4 dC).trans rA
  have e5:f9 5=.func (.func 26) #[] #[]:=(k9 5 dC).trans rA
  clear k9 hA A
  simp only [fr406,e0,e3,e4,e5]
  clear e0 e3 e4 e5
  have bt:=But1.turned (But1.refl b2 W3.drew) HT4.out
  have nb2:g≠b2:=λe=>nb e.symm
  have b4:=bt.blk HB3.out.drew nb2
  have r4:=bt.blk HY3.out.drew (ne_new ly hb2).symm
  have HBU4:Hid (But1 g W W4):=hI ((HBU.out.more ((Below.refl _ W3).drew)).turns HT4.out bO)
  obtain ⟨g0,g1,g2,g3,g4,g5,g6⟩:=game_cells b4
  obtain ⟨y0,y1,y2,y3⟩:=four_cells r4
  have gf:=λi=>b4.free i
  have yf:=λi=>r4.free i
  have lg4:=b4.lt
  have ly4:=r4.lt
  have HB4:=hI b4
  have HR4:=hI r4
  clear b4 r4 bt
  go_wp2_with fail
  refine bodyPost_ret (results_cell_row rfl _ _ _ _ _ _ _ rfl (reply_blk (HR4.out.far (p:=⟨g,1,none⟩) ng4 _) _ _ _ _) Tryz.underlying35 rfl kR) rfl ?_
  have BU5:=HBU4.out.put 1 (.int .i64 (G.w.things.next+1))
  exact rdo_end (m:=W.heap.size) (HREF.out.made (G':=M.withThings (more G) s2) BU5 (blk_to (HB4.out.put 1 _) (by simp [M.withThings,e5])) rfl lR hb2 (HM4.out.far (p:=⟨g,1,none⟩) nb _)) HRR.out HM.out (But1.only HO.out BU5 HA.out.ref.inR) ⟨0,G.w.things.next,[],[]⟩ oN oN _ _ _ _
theorem rno2_calls (e:Int) {V U:World} {m:Nat} (hY:Blk V m 35 #[.int .i64 0,.int .i64 0,.slice none 0 0,.slice none 0 0]) (hb:Below V.heap.size V U):
  Calls Tryz.prog 26 #[.int .i64 e] U λr w9=>r=.returned (.agg #[.int .i64 e,.int .i64 0,.slice none 0 0,.slice none 0 0])/\Below V.heap.size V w9/\V.heap.size<=w9.heap.size/\Blk w9 m 35 #[.int .i64 0,.int .i64 0,.slice none 0 0,.slice none 0 0]/\
   w9.cell? ⟨m,0,none⟩=some (.int .i64 0)/\w9.cell? ⟨m,1,none⟩=some (.int .i64 0)/\w9.cell? ⟨m,2,none⟩=some (.slice none 0 0)/\w9.cell? ⟨m,3,none⟩=some (.slice none 0 0)/\∀i,w9.frozen? ⟨m,i,none⟩=false:=by
 refine (rno_calls e U).mono ?_
 rintro r w9 ⟨rfl,hb9⟩
 have K:=hb.trans (hb9.mono hb.size)
 have b9:=hY.below K hY.lt
 exact ⟨rfl,K,K.size,b9,b9.cell 0,b9.cell 1,b9.cell 2,b9.cell 3,λi=>b9.free i⟩
theorem rdo_copy {W U:World} {g m b c:Nat} {f:Int->Option M.Th} {G:M.Game} {sv:Value} {kind id n mask:Int} {row:M.Row} {box:M.Box} (hb:Below W.heap.size W U) (hM:MapA W b f c) (hc:c<=maxLen) (hB:Blk W g 58 (refC b sv (more G))) (hA:Blk W m 42 (actC ⟨kind,id,n,mask,row,box⟩)):
  Calls Tryz.prog 28 #[.agg #[.map (some b),.int .i64 G.w.things.next,.int .i64 G.w.fall,.int .i64 G.w.wide,.int .i64 G.w.high]] U λe w7=>∃b2,e=.returned (.agg #[.map (some b2),.int .i64 G.w.things.next,.int .i64 G.w.fall,.int .i64 G.w.wide,.int .i64 G.w.high])/\W.heap.size<=b2/\Hid (MapA w7 b2 f c)/\Below W.heap.size W w7/\W.heap.size<=w7.heap.size/\
   (∀i,w7.frozen? ⟨g,i,none⟩=false)/\(w7.cell? ⟨g,0,none⟩=some (.map (some b))/\w7.cell? ⟨g,1,none⟩=some (.int .i64 G.w.things.next)/\w7.cell? ⟨g,2,none⟩=some (.int .i64 G.w.fall)/\w7.cell? ⟨g,3,none⟩=some (.int .i64 G.w.wide)/\w7.cell? ⟨g,4,none⟩=some (.int .i64 G.w.high))/\Blk w7 g 58 (refC b sv (more G))/\
   w7.cell? ⟨m,0,none⟩=some (.int .i64 kind)/\w7.cell? ⟨m,1,none⟩=some (.int .i64 id)/\w7.cell? ⟨m,2,none⟩=some (.int .i64 n)/\w7.cell? ⟨m,3,none⟩=some (.int .i64 mask):=by
 refine (wcopy_calls (hM.below hb hM.lt) hc G.w.things.next G.w.fall G.w.wide G.w.high).mono ?_
 rintro e w7 ⟨b2,rfl,hm,h2,hbl⟩
 have K:=hb.trans (hbl.mono hb.size)
 have b7:=hB.below K hB.lt
 have a7:=hA.below K hA.lt
 exact ⟨b2,rfl,Nat.le_trans hb.size h2,hI hm,K,K.size,λi=>b7.free i,⟨b7.cell 0,b7.cell 1,b7.cell 2,b7.cell 3,b7.cell 4⟩,b7,a7.cell 0,a7.cell 1,a7.cell 2,a7.cell 3⟩
theorem rdo_full {w:World} {R:Nat->Prop} {g:Nat} {G:M.Game} {b:Nat} {sv:Value} {hs:List Nat} (h:RefAt w R g G b sv hs) (hR:∀y,R y->y<w.heap.size) (x:M.Act) (h150:G.acts=150):
  Calls Tryz.prog 10 #[.pointer (some ⟨g,0,none⟩),actV x] w (RefPost R w g (M.doAct G x).1 (M.doAct G x).2):=by
 rw [show M.doAct G x=(G,M.no 5) by unfold M.doAct;rw [if_pos bO]]
 have q1:(G.acts==150)=true:=by simp [h150]
 have g6:=h.blk.cell 6
 have lg:=h.blk.lt
 simp at g6
 have ho:=Only.refl R w
 have HG0:=hI h
 have HRR:=hI hR
 have HO:=hI ho
 clear h hR ho
 go_enter Tryz.func10,Tryz.ntmps10
 go_wp2_with (go_at_call 26;go_loud (refine (rno_calls _ _).mono ?_;rintro e w9 ⟨rfl,hb9⟩;have K9:Below w.heap.size w w9:=(show Below w.heap.size w _ from bel9).trans (hb9.mono sid9);have by9:Blk w9 (w.heap.size+1) 35 #[.int .i64 0,.int .i64 0,.slice none 0 0,.slice none 0 0]:=Blk.below (Blk.new_at sS) hb9 sid9;have hz9:=hb9.size;(try simp at hz9);have z0:=by9.cell 0;have z1:=by9.cell 1;have z2:=by9.cell 2;have z3:=by9.cell 3;have zf:=λi=>by9.free i;simp at z0 z1 z2 z3))
 refine bodyPost_ret (results_cell_row rfl _ _ _ _ _ _ _ rfl (reply_blk by9 _ _ _ _) Tryz.underlying35 rfl kR) rfl ?_
 exact rdo_end (m:=w9.heap.size) ((HG0.out.wide (λy _ k=>.inl k)).below K9) HRR.out by9.lt (HO.out.more K9) (M.no 5) oN oN _ _ _ _
theorem rdo_none {w:World} {R:Nat->Prop} {g:Nat} {G:M.Game} {b:Nat} {sv:Value} {hs:List Nat} (h:RefAt w R g G b sv hs) (hR:∀y,R y->y<w.heap.size) (hG:M.GoodG G) (kind id n mask:Int) (row:M.Row) (box:M.Box) (hk:kind=2\/kind=3\/kind=4\/kind=5) (hn:M.at_ G.w.things id=none) (hres:M.doAct G ⟨kind,id,n,mask,row,box⟩=(more G,M.no 3)) (h0:0<=G.acts) (hlt:G.acts<150) (hx:ActIn ⟨kind,id,n,mask,row,box⟩):
  Calls Tryz.prog 10 #[.pointer (some ⟨g,0,none⟩),actV ⟨kind,id,n,mask,row,box⟩] w (RefPost R w g (M.doAct G ⟨kind,id,n,mask,row,box⟩).1 (M.doAct G ⟨kind,id,n,mask,row,box⟩).2):=by
 rw [hres]
 clear hres
 refine rdo_begin h _ hx.1.2.1 h0 hlt (λf gt W F A=>?_)
 obtain ⟨f0,f3,f4,f5,f6,f7⟩:=F
 simp only [hn,Option.isSome_none] at f7
 obtain ⟨x0,x1,x2,x3,x4,x5,x6,x7,x8,x9,x10,x11,x12,x13,x14,x15,x16⟩:=act_cells A.act
 obtain ⟨y0,y1,y2,y3⟩:=four_cells A.rep
 obtain ⟨g0,g1,g2,g3,g4,g5,g6⟩:=game_cells A.ref.blk
 obtain ⟨yf,gf,lx,ly,lg,gp,HREF,HO,HY,HBG,HM,ng1,ng2,ng3,ng4⟩:=rdo_facts A hR
 have HA:=hI A
 have HRR:=hI hR
 simp only [fr406,f0,f3,f4,f5,f6,f7]
 clear A
 conv=>arg 2;whnf
 clear f0 f3 f4 f5 f6 f7 h
 clear hR hx
 rcases hk with rfl|rfl|rfl|rfl
 ·go_wp2_with (go_at_call 26;go_loud (refine (rno2_calls _ HY.out (show Below W.heap.size W _ from bel9)).mono ?_;rintro e w9 ⟨rfl,K9,kz9,by9,z0,z1,z2,z3,zf⟩))
  refine bodyPost_ret (results_cell_row rfl _ _ _ _ _ _ _ rfl (reply_blk by9 _ _ _ _) Tryz.underlying35 rfl kR) rfl ?_
  exact rdo_end (m:=W.heap.size) (HREF.out.below K9) HRR.out HM.out (HO.out.more K9) (M.no 3) oN oN _ _ _ _
 ·go_wp2_with (go_at_call 26;go_loud (refine (rno2_calls _ HY.out (show Below W.heap.size W _ from bel9)).mono ?_;rintro e w9 ⟨rfl,K9,kz9,by9,z0,z1,z2,z3,zf⟩))
  refine bodyPost_ret (results_cell_row rfl _ _ _ _ _ _ _ rfl (reply_blk by9 _ _ _ _) Tryz.underlying35 rfl kR) rfl ?_
  exact rdo_end (m:=W.heap.size) (HREF.out.below K9) HRR.out HM.out (HO.out.more K9) (M.no 3) oN oN _ _ _ _
 ·go_wp2_with (go_at_call 26;go_loud (refine (rno2_calls _ HY.out (show Below W.heap.size W _ from bel9)).mono ?_;rintro e w9 ⟨rfl,K9,kz9,by9,z0,z1,z2,z3,zf⟩))
  refine bodyPost_ret (results_cell_row rfl _ _ _ _ _ _ _ rfl (reply_blk by9 _ _ _ _) Tryz.underlying35 rfl kR) rfl ?_
  exact rdo_end (m:=W.heap.size) (HREF.out.below K9) HRR.out HM.out (HO.out.more K9) (M.no 3) oN oN _ _ _ _
 ·go_wp2_with (go_at_call 26;go_loud (refine (rno2_calls _ HY.out (show Below W.heap.size W _ from bel9)).mono ?_;rintro e w9 ⟨rfl,K9,kz9,by9,z0,z1,z2,z3,zf⟩))
  refine bodyPost_ret (results_cell_row rfl _ _ _ _ _ _ _ rfl (reply_blk by9 _ _ _ _) Tryz.underlying35 rfl kR) rfl ?_
  exact rdo_end (m:=W.heap.size) (HREF.out.below K9) HRR.out HM.out (HO.out.more K9) (M.no 3) oN oN _ _ _ _
theorem rdo_other {w:World} {R:Nat->Prop} {g:Nat} {G:M.Game} {b:Nat} {sv:Value} {hs:List Nat} (h:RefAt w R g G b sv hs) (hR:∀y,R y->y<w.heap.size) (hG:M.GoodG G) (kind id n mask:Int) (row:M.Row) (box:M.Box) (hk:kind<1\/9<kind) (h0:0<=G.acts) (hlt:G.acts<150) (hx:ActIn ⟨kind,id,n,mask,row,box⟩):
  Calls Tryz.prog 10 #[.pointer (some ⟨g,0,none⟩),actV ⟨kind,id,n,mask,row,box⟩] w (RefPost R w g (M.doAct G ⟨kind,id,n,mask,row,box⟩).1 (M.doAct G ⟨kind,id,n,mask,row,box⟩).2):=by
 have hres:M.doAct G ⟨kind,id,n,mask,row,box⟩=(more G,M.no 4):=by
  unfold M.doAct
  rw [if_neg bO]
  simp only
  rw [if_neg bO,if_neg bO,if_neg bO,if_neg bO,if_neg bO,if_neg bO,if_neg bO,if_neg bO]
 rw [hres]
 clear hres
 have q1:(kind==1)=false:=by simp;omega
 have q2:(kind==2)=false:=by simp;omega
 have q3:(kind==3)=false:=by simp;omega
 have q4:(kind==4)=false:=by simp;omega
 have q5:(kind==5)=false:=by simp;omega
 have q6:(kind==6)=false:=by simp;omega
 have q7:(kind==7)=false:=by simp;omega
 have q8:(kind==8)=false:=by simp;omega
 have q9:(kind==9)=false:=by simp;omega
 obtain ⟨is,his⟩:∃t,(M.at_ G.w.things id).isSome=t:=⟨_,rfl⟩
 refine rdo_begin h _ hx.1.2.1 h0 hlt (λf gt W F A=>?_)
 obtain ⟨f0,f3,f4,f5,f6,f7⟩:=F
 simp only [his] at f7
 obtain ⟨x0,x1,x2,x3,x4,x5,x6,x7,x8,x9,x10,x11,x12,x13,x14,x15,x16⟩:=act_cells A.act
 obtain ⟨y0,y1,y2,y3⟩:=four_cells A.rep
 obtain ⟨g0,g1,g2,g3,g4,g5,g6⟩:=game_cells A.ref.blk
 obtain ⟨yf,gf,lx,ly,lg,gp,HREF,HO,HY,HBG,HM,ng1,ng2,ng3,ng4⟩:=rdo_facts A hR
 have HA:=hI A
 have HRR:=hI hR
 simp only [fr406,f0,f3,f4,f5,f6,f7]
 clear A
 conv=>arg 2;whnf
 clear f0 f3 f4 f5 f6 f7 h
 clear hR hx hk his
 go_wp2_with (go_at_call 26;go_loud (refine (rno2_calls _ HY.out (show Below W.heap.size W _ from bel9)).mono ?_;rintro e w9 ⟨rfl,K9,kz9,by9,z0,z1,z2,z3,zf⟩))
 refine bodyPost_ret (results_cell_row rfl _ _ _ _ _ _ _ rfl (reply_blk by9 _ _ _ _) Tryz.underlying35 rfl kR) rfl ?_
 exact rdo_end (m:=W.heap.size) (HREF.out.below K9) HRR.out HM.out (HO.out.more K9) (M.no 4) oN oN _ _ _ _
theorem rdo_kill {w:World} {R:Nat->Prop} {g:Nat} {G:M.Game} {b:Nat} {sv:Value} {hs:List Nat} (h:RefAt w R g G b sv hs) (hR:∀y,R y->y<w.heap.size) (hG:M.GoodG G) (kind id n mask:Int) (row:M.Row) (box:M.Box) (hk:kind=2) {p:M.Th} (hp:M.at_ G.w.things id=some p) (h0:0<=G.acts) (hlt:G.acts<150) (hx:ActIn ⟨kind,id,n,mask,row,box⟩):
  Calls Tryz.prog 10 #[.pointer (some ⟨g,0,none⟩),actV ⟨kind,id,n,mask,row,box⟩] w (RefPost R w g (M.doAct G ⟨kind,id,n,mask,row,box⟩).1 (M.doAct G ⟨kind,id,n,mask,row,box⟩).2):=by
 subst hk
 have gs:=hG.w.things
 have hth:(M.at_ G.w.things id).isSome=true:=by rw [hp];rfl
 have hres:M.doAct G ⟨2,id,n,mask,row,box⟩=(M.withThings (more G) (M.kill G.w.things id).1,M.no (M.kill G.w.things id).2):=by unfold M.doAct;rw [if_neg bO];simp only;rw [if_neg bO,if_pos trivial]
 obtain ⟨e1,e2⟩|⟨p2,e1,e2,e3,e4,e5⟩:=M.kill_two gs id
 ·rw [show M.at_ G.w.things id=none from e1] at hp;cases hp
 rw [hres,e2]
 obtain ⟨s2,hs2⟩:∃s,(M.kill G.w.things id).1=s:=⟨_,rfl⟩
 rw [hs2] at e3 e4 e5
 rw [hs2]
 clear hres e1 e2 hs2
 have hsz2:=M.size_less gs e3 hth e5
 refine rdo_begin h _ hx.1.2.1 h0 hlt (λf gt W F A=>?_)
 obtain ⟨f0,f3,f4,f5,f6,f7⟩:=F
 simp only [hth] at f7
 obtain ⟨x0,x1,x2,x3,x4,x5,x6,x7,x8,x9,x10,x11,x12,x13,x14,x15,x16⟩:=act_cells A.act
 obtain ⟨y0,y1,y2,y3⟩:=four_cells A.rep
 obtain ⟨g0,g1,g2,g3,g4,g5,g6⟩:=game_cells A.ref.blk
 obtain ⟨yf,gf,lx,ly,lg,gp,HREF,HO,HY,HBG,HM,ng1,ng2,ng3,ng4⟩:=rdo_facts A hR
 have HA:=hI A
 have HRR:=hI hR
 simp only [fr406,f0,f3,f4,f5,f6,f7]
 clear A
 conv=>arg 2;whnf
 clear f0 f3 f4 f5 f6 f7 h
 obtain ⟨sz,hsz⟩:∃k,M.size G.w.things=k:=⟨_,rfl⟩
 have hs10:M.size G.w.things<=10:=gs.2.2.2.1
 rw [hsz] at hs10
 have HMP:Hid (MapA W b (M.at_ G.w.things) sz):=hI (by rw [←hsz];exact HREF.out.map.2)
 have HSM:Hid (sz<maxLen):=hI (by unfold maxLen;omega)
 have HID:Hid (I64 id):=hI hx.1.2.1
 have HCP:=hI (λU (hb:Below W.heap.size W U)=>rdo_copy hb HMP.out (by unfold maxLen;omega) HBG.out HA.out.act)
 rw [hsz] at hsz2
 clear hR hx hp hs10 hsz
 go_upto_region 50 with (go_at_call 28;go_loud (refine (HCP.out _ (show Below W.heap.size W _ from bel9)).mono ?_;rintro e w7 ⟨b2,rfl,hb2,HM7,K7,kz7,gf7,⟨g0,g1,g2,g3,g4⟩,bg7,x0,x1,x2,x3⟩))
 refine wp_called (λW3 hW3=>?_)
 have nb:b2≠g:=ne_new lg hb2
 have BUT:But1 g W W3:=by rw [hW3];exact ((((((But1.refl g W).more K7).put 0 _).put 1 _).put 2 _).put 3 _).put 4 _
 have HM3:Hid (MapA W3 b2 (M.at_ G.w.things) sz):=hI (by rw [hW3];exact ((((HM7.out.far nb _).far nb _).far nb _).far nb _).far nb _)
 have b3:Blk W3 g 58 (refC b2 sv (more G)):=by rw [hW3];exact blk_to (((((bg7.put 0 _).put 1 _).put 2 _).put 3 _).put 4 _) (by rfl)
 have a3:Blk W3 w.heap.size 42 (actC ⟨2,id,n,mask,row,box⟩):=by rw [hW3];exact (((((HA.out.act.below K7 lx).far (p:=⟨g,0,none⟩) ng2 _).far (p:=⟨g,1,none⟩) ng2 _).far (p:=⟨g,2,none⟩) ng2 _).far (p:=⟨g,3,none⟩) ng2 _).far (p:=⟨g,4,none⟩) ng2 _
 have r3:Blk W3 (w.heap.size+1) 35 #[.int .i64 0,.int .i64 0,.slice none 0 0,.slice none 0 0]:=by rw [hW3];exact (((((HY.out.below K7 ly).far (p:=⟨g,0,none⟩) ng4 _).far (p:=⟨g,1,none⟩) ng4 _).far (p:=⟨g,2,none⟩) ng4 _).far (p:=⟨g,3,none⟩) ng4 _).far (p:=⟨g,4,none⟩) ng4 _
 clear hW3
 obtain ⟨w4,hrun,hm4,ht4⟩:=MapAt.drop HM3.out.drew Tryz.underlying3 Tryz.underlying44 (id:=id) HID.out 0
 rw [hth] at hm4
 simp only [if_true] at hm4
 have e5q:M.at_ s2=M.del (M.at_ G.w.things) id:=e5
 rw [←hsz2,←e5q] at hm4
 have HB3:=hI b3
 have HY3:=hI r3
 have HA3:=hI a3
 have HBU:=hI BUT
 have HM4:=hI hm4
 have HT4:=hI ht4
 clear b3 r3 a3 BUT hm4 ht4
 refine DG.wp_named (λA hA=>?_)
 show Code.wp Tryz.prog r50C _ _ _
 rw [r50C_is]
 refine wp_region_any kR ?_
 rw [r50Ops_size]
 show wpAny _ _ _ _ _ _ _ W3.drew
 refine r50_region (g:=g) (p3:=w.heap.size) (b:=b2) (id:=id) (w4:=w4) (W0:=W3.drew) ⟨by rw [hA];rfl,by rw [hA];rfl,HB3.out.drew.cell 0,HA3.out.drew.cell 1,λ_=>hrun⟩ rA (by rw [hA]) () (by unfold r50Mem;rw [if_neg sS]) ?_
 intro gg ll W4 hll hmm
 unfold r50Mem at hmm
 rw [if_pos (hll 7 dC)] at hmm
 subst hmm
 refine next_frame rA [0,3,4,5] (by rfl) (λf9 k9=>?_)
 have e0:f9 0=.pointer (some ⟨g,0,none⟩):=(k9 0 dC).trans rA
 have e3:f9 3=.pointer (some ⟨w.heap.size,0,none⟩):=(k9 3 dC).trans rA
 have e4:f9 4=.pointer (some ⟨w.heap.size+1,0,none⟩):=(k9 4 dC).trans rA
 have e5:f9 5=.func (.func 26) #[] #[]:=(k9 5 dC).trans rA
 clear k9 hA A
 simp only [fr406,e0,e3,e4,e5]
 clear e0 e3 e4 e5
 have bt:=But1.turned (But1.refl b2 W3.drew) HT4.out
 have nb2:g≠b2:=λe=>nb e.symm
 have b4:=bt.blk HB3.out.drew nb2
 have r4:=bt.blk HY3.out.drew (ne_new ly hb2).symm
 have HBU4:Hid (But1 g W W4):=hI ((HBU.out.more ((Below.refl _ W3).drew)).turns HT4.out bO)
 obtain ⟨g0,g1,g2,g3,g4,g5,g6⟩:=game_cells b4
 obtain ⟨y0,y1,y2,y3⟩:=four_cells r4
 have gf:=λi=>b4.free i
 have yf:=λi=>r4.free i
 have lg4:=b4.lt
 have ly4:=r4.lt
 have HB4:=hI b4
 have HR4:=hI r4
 clear b4 r4 bt
 go_wp2_with (go_at_call 26;go_loud (refine (rno2_calls _ HR4.out (show Below W4.heap.size W4 _ from bel9)).mono ?_;rintro e w9 ⟨rfl,K9,kz9,by9,z0,z1,z2,z3,zf⟩))
 refine bodyPost_ret (results_cell_row rfl _ _ _ _ _ _ _ rfl (reply_blk by9 _ _ _ _) Tryz.underlying35 rfl kR) rfl ?_
 exact rdo_end (m:=W.heap.size) ((HREF.out.made (G':=M.withThings (more G) s2) HBU4.out (blk_eq HB4.out (by simp [M.withThings,e4])) rfl lR hb2 HM4.out).below K9) HRR.out HM.out ((But1.only HO.out HBU4.out HA.out.ref.inR).more K9) (M.no 0) oN oN _ _ _ _
theorem Only.but1 {Q:Nat->Prop} {b:Nat} {w W W':World} (h:Only Q w W) (k:But1 b W W') (hb:Q b):Only Q w W':=
 ⟨k.os.trans h.os,k.tape.trans h.tape,k.output.trans h.output,Nat.le_trans h.size k.size,λy h1 h2=>(k.block y (Nat.lt_of_lt_of_le h1 h.size) (λe=>h2 (e▸hb))).trans (h.block y h1 h2)⟩
theorem Only.farO {Q:Nat->Prop} {b:Nat} {w W W':World} (h:Only Q w W) (k:FarO b W W') (hb:Q b):Only Q w W':=
 ⟨k.2.2.1.trans h.os,k.2.2.2.1.trans h.tape,k.2.2.2.2.trans h.output,by rw [k.2.1];exact h.size,λy h1 h2=>(k.1 y (λe=>h2 (e▸hb))).trans (h.block y h1 h2)⟩
abbrev Own9 (g:Nat) (w:World) (y:Nat):Prop:=y=g\/w.heap.size<=y
theorem rdo_copied {w W w7 W3:World} {g gt b b2 c c2:Nat} {G:M.Game} {sv:Value} {x:M.Act} {p:M.Th} {f:Int->Option M.Th} (hW3:W3=(((((w7.setCell ⟨g,0,none⟩ (.map (some b2))).setCell ⟨g,1,none⟩ (.int .i64 G.w.things.next)).setCell ⟨g,2,none⟩ (.int .i64 G.w.fall)).setCell ⟨g,3,none⟩ (.int .i64 G.w.wide)).setCell ⟨g,4,none⟩ (.int .i64 G.w.high))) (K7:Below W.heap.size W w7) (hB:Blk W g 58 (refC b sv (more G))) (hA:Blk W w.heap.size 42 (actC x))
  (hY:Blk W (w.heap.size+1) 35 #[.int .i64 0,.int .i64 0,.slice none 0 0,.slice none 0 0]) (hT:Blk W gt 83 (thC p)) (hM:MapA w7 b2 f c) (hb2:W.heap.size<=b2) (hsz:c2=c) (ng2:¬w.heap.size=g) (ng4:¬w.heap.size+1=g) (ng5:¬gt=g):
  b2≠g/\Hid (Only (Own9 g w) W W3)/\Hid (MapA W3 b2 f c2)/\Hid (Blk W3 g 58 (refC b2 sv (more G)))/\Hid (Blk W3 w.heap.size 42 (actC x))/\Hid (Blk W3 (w.heap.size+1) 35 #[.int .i64 0,.int .i64 0,.slice none 0 0,.slice none 0 0])/\Hid (Blk W3 gt 83 (thC p)):=by
 have nb:b2≠g:=ne_new hB.lt hb2
 have b7:=hB.below K7 hB.lt
 subst hW3 hsz
 exact ⟨nb,hI ((((((((Only.refl (Own9 g w) W).more K7).setCell (.inl (.inl rfl)) _).setCell (.inl (.inl rfl)) _).setCell (.inl (.inl rfl)) _).setCell (.inl (.inl rfl)) _).setCell (.inl (.inl rfl)) _)),
  hI ((((((hM).far (p:=⟨g,0,none⟩) nb _).far (p:=⟨g,1,none⟩) nb _).far (p:=⟨g,2,none⟩) nb _).far (p:=⟨g,3,none⟩) nb _).far (p:=⟨g,4,none⟩) nb _),hI (blk_to (((((b7.put 0 _).put 1 _).put 2 _).put 3 _).put 4 _) (by rfl)),hI ((((((hA.below K7 hA.lt).far (p:=⟨g,0,none⟩) ng2 _).far (p:=⟨g,1,none⟩) ng2 _).far (p:=⟨g,2,none⟩) ng2 _).far (p:=⟨g,3,none⟩) ng2 _).far (p:=⟨g,4,none⟩) ng2 _),hI ((((((hY.below K7 hY.lt).far (p:=⟨g,0,none⟩) ng4 _).far (p:=⟨g,1,none⟩) ng4 _).far (p:=⟨g,2,none⟩) ng4 _).far (p:=⟨g,3,none⟩) ng4 _).far (p:=⟨g,4,none⟩) ng4 _),hI ((((((hT.below K7 hT.lt).far (p:=⟨g,0,none⟩) ng5 _).far (p:=⟨g,1,none⟩) ng5 _).far (p:=⟨g,2,none⟩) ng5 _).far (p:=⟨g,3,none⟩) ng5 _).far (p:=⟨g,4,none⟩) ng5 _)⟩
theorem RefAt.made2 {R:Nat->Prop} {w W U:World} {g:Nat} {G G':M.Game} {b b':Nat} {sv:Value} {hs:List Nat} (h:RefAt W (λy=>R y\/W.heap.size<=y) g G b sv hs) (hR:∀y,R y->y<w.heap.size) (k:Only (Own9 g w) W U) (blk:Blk U g 58 (refC b' sv G')) (hsv:G'.saves=G.saves) (hb':W.heap.size<=b') (hmp:MapA U b' (M.at_ G'.w.things) (M.size G'.w.things)):RefAt U (λy=>R y\/W.heap.size<=y) g G' b' sv hs:=
 h.upd (λy h1 hy h3=>k.block y h1 (λq=>by rcases q with q|q;exact h3 q;rcases hy with r|r;(have:=hR y r;omega);omega)) blk hsv ⟨.inr hb',(by have:=h.blk.lt;omega),λe=>by have:=(h.own.lt _ e).2;omega⟩ hmp
theorem Only.own9 {R:Nat->Prop} {w W U:World} {g:Nat} (ho:Only R w W) (k:Only (Own9 g w) W U) (hg:R g):Only R w U:=
 ⟨k.os.trans ho.os,k.tape.trans ho.tape,k.output.trans ho.output,Nat.le_trans ho.size k.size,λy h1 h2=>(k.block y (Nat.lt_of_lt_of_le h1 ho.size) (λq=>by rcases q with q|q;exact h2 (q▸hg);omega)).trans (ho.block y h1 h2)⟩
theorem rdo_kick {w:World} {R:Nat->Prop} {g:Nat} {G:M.Game} {b:Nat} {sv:Value} {hs:List Nat} (h:RefAt w R g G b sv hs) (hR:∀y,R y->y<w.heap.size) (hG:M.GoodG G) (kind id n mask:Int) (row:M.Row) (box:M.Box) (hk:kind=5) {p:M.Th} (hp:M.at_ G.w.things id=some p) (h0:0<=G.acts) (hlt:G.acts<150) (hx:ActIn ⟨kind,id,n,mask,row,box⟩):
  Calls Tryz.prog 10 #[.pointer (some ⟨g,0,none⟩),actV ⟨kind,id,n,mask,row,box⟩] w (RefPost R w g (M.doAct G ⟨kind,id,n,mask,row,box⟩).1 (M.doAct G ⟨kind,id,n,mask,row,box⟩).2):=by
 subst hk
 have gs:=hG.w.things
 have hf:=M.at_fits gs hp
 have hth:(M.at_ G.w.things id).isSome=true:=by rw [hp];rfl
 rw [M.doAct_kick hlt rfl]
 obtain ⟨e1,e2⟩|⟨e1,e2,e3,e4,e5⟩:=M.kick_ref gs ⟨5,id,n,mask,row,box⟩ hp
 ·rw [e2]
  show Calls _ _ _ _ (RefPost R w g (more G) (M.no 1))
  refine rdo_begin h _ hx.1.2.1 h0 hlt (λf gt W F A=>?_)
  obtain ⟨f0,f3,f4,f5,f6,f7⟩:=F
  simp only [hth] at f7
  obtain ⟨x0,x1,x2,x3,x4,x5,x6,x7,x8,x9,x10,x11,x12,x13,x14,x15,x16⟩:=act_cells A.act
  obtain ⟨y0,y1,y2,y3⟩:=four_cells A.rep
  obtain ⟨g0,g1,g2,g3,g4,g5,g6⟩:=game_cells A.ref.blk
  obtain ⟨yf,gf,lx,ly,lg,gp,HREF,HO,HY,HBG,HM,ng1,ng2,ng3,ng4⟩:=rdo_facts A hR
  have HA:=hI A
  have HRR:=hI hR
  simp only [fr406,f0,f3,f4,f5,f6,f7]
  clear A
  conv=>arg 2;whnf
  clear f0 f3 f4 f5 f6 f7 h
  have ng5:¬gt=g:=(by have:=hR g HA.out.ref.inR;omega)
  have ng6:¬w.heap.size=gt:=bO
  have HTH:Hid (Blk W gt 83 (thC p)):=hI (by have k:=HA.out.th;rw [show M.at_ G.w.things (⟨5,id,n,mask,row,box⟩:M.Act).id=some p from hp] at k;exact k)
  have lt6:=HTH.out.lt
  obtain ⟨sz,hsz⟩:∃k,M.size G.w.things=k:=⟨_,rfl⟩
  have hs10:M.size G.w.things<=10:=gs.2.2.2.1
  rw [hsz] at hs10
  have HMP:Hid (MapA W b (M.at_ G.w.things) sz):=hI (by rw [←hsz];exact HREF.out.map.2)
  have HSM:Hid (sz<maxLen):=hI (by unfold maxLen;omega)
  have HID:Hid (I64 id):=hI hx.1.2.1
  have HCP:=hI (λU (hb:Below W.heap.size W U)=>rdo_copy hb HMP.out (by unfold maxLen;omega) HBG.out HA.out.act)
  have HSZ:=hI hsz
  clear hR hx hs10 hsz
  have HHAS:=hI (λU=>has_calls (m:=p.1) (p:=2) (by have:=hf.lo;omega) hf.hi bO U)
  rw [e1] at HHAS
  go_upto_region 74 with (go_at_call 28;go_loud (refine (HCP.out _ (show Below W.heap.size W _ from bel9)).mono ?_;rintro e w7 ⟨b2,rfl,hb2,HM7,K7,kz7,gf7,⟨g0,g1,g2,g3,g4⟩,bg7,x0,x1,x2,x3⟩))
  refine wp_called (λW3 hW3=>?_)
  obtain ⟨nb,HK3,HM3,HB3,HA3,HY3,HT3⟩:=rdo_copied hW3 K7 HBG.out HA.out.act HY.out HTH.out HM7.out hb2 HSZ.out ng2 ng4 ng5
  clear hW3
  obtain ⟨x0,x1,x2,x3,x4,x5,x6,x7,x8,x9,x10,x11,x12,x13,x14,x15,x16⟩:=act_cells HA3.out
  obtain ⟨y0,y1,y2,y3⟩:=four_cells HY3.out
  obtain ⟨t0,t1,t2,t3,t4,t5,t6,t7,t8⟩:=th_cells HT3.out
  obtain ⟨g0,g1,g2,g3,g4,g5,g6⟩:=game_cells HB3.out
  have yf:=λi=>HY3.out.free i
  have gf:=λi=>HB3.out.free i
  have tf:=λi=>HT3.out.free i
  have lx3:=HA3.out.lt
  have ly3:=HY3.out.lt
  have lt3:=HT3.out.lt
  have lg3:=HB3.out.lt
  go_wp2_with (first|(go_at_call 32;go_loud (refine (HHAS.out _).mono ?_;rintro e w' ⟨rfl,rfl⟩))|(go_at_call 26;go_loud (refine (rno2_calls _ HY3.out (show Below W3.heap.size W3 _ from bel9)).mono ?_;rintro e w9 ⟨rfl,K9,kz9,by9,z0,z1,z2,z3,zf⟩)))
  refine bodyPost_ret (results_cell_row rfl _ _ _ _ _ _ _ rfl (reply_blk by9 _ _ _ _) Tryz.underlying35 rfl kR) rfl ?_
  exact rdo_end (m:=W.heap.size) ((HREF.out.made2 HRR.out (G':=more G) HK3.out HB3.out rfl hb2 HM3.out).below K9) HRR.out HM.out ((HO.out.own9 HK3.out HA.out.ref.inR).more K9) (M.no 1) oN oN _ _ _ _
 ·rw [e2]
  obtain ⟨s2,hs2⟩:∃s,(M.kickG G.w.things ⟨5,id,n,mask,row,box⟩).1=s:=⟨_,rfl⟩
  rw [hs2] at e3 e4 e5
  rw [hs2]
  clear hs2 e2
  have hsz2:=M.size_as gs e3 hth e5
  show Calls _ _ _ _ (RefPost R w g (M.withThings (more G) s2) (M.no 0))
  refine rdo_begin h _ hx.1.2.1 h0 hlt (λf gt W F A=>?_)
  obtain ⟨f0,f3,f4,f5,f6,f7⟩:=F
  simp only [hth] at f7
  obtain ⟨x0,x1,x2,x3,x4,x5,x6,x7,x8,x9,x10,x11,x12,x13,x14,x15,x16⟩:=act_cells A.act
  obtain ⟨y0,y1,y2,y3⟩:=four_cells A.rep
  obtain ⟨g0,g1,g2,g3,g4,g5,g6⟩:=game_cells A.ref.blk
  obtain ⟨yf,gf,lx,ly,lg,gp,HREF,HO,HY,HBG,HM,ng1,ng2,ng3,ng4⟩:=rdo_facts A hR
  have HA:=hI A
  have HRR:=hI hR
  simp only [fr406,f0,f3,f4,f5,f6,f7]
  clear A
  conv=>arg 2;whnf
  clear f0 f3 f4 f5 f6 f7 h
  have ng5:¬gt=g:=(by have:=hR g HA.out.ref.inR;omega)
  have ng6:¬w.heap.size=gt:=bO
  have HTH:Hid (Blk W gt 83 (thC p)):=hI (by have k:=HA.out.th;rw [show M.at_ G.w.things (⟨5,id,n,mask,row,box⟩:M.Act).id=some p from hp] at k;exact k)
  have lt6:=HTH.out.lt
  obtain ⟨sz,hsz⟩:∃k,M.size G.w.things=k:=⟨_,rfl⟩
  have hs10:M.size G.w.things<=10:=gs.2.2.2.1
  rw [hsz] at hs10
  have HMP:Hid (MapA W b (M.at_ G.w.things) sz):=hI (by rw [←hsz];exact HREF.out.map.2)
  have HSM:Hid (sz<maxLen):=hI (by unfold maxLen;omega)
  have HID:Hid (I64 id):=hI hx.1.2.1
  have HCP:=hI (λU (hb:Below W.heap.size W U)=>rdo_copy hb HMP.out (by unfold maxLen;omega) HBG.out HA.out.act)
  have HSZ:=hI hsz
  clear hR hx hs10 hsz
  have HHAS:=hI (λU=>has_calls (m:=p.1) (p:=2) (by have:=hf.lo;omega) hf.hi bO U)
  rw [e1] at HHAS
  go_upto_region 74 with (go_at_call 28;go_loud (refine (HCP.out _ (show Below W.heap.size W _ from bel9)).mono ?_;rintro e w7 ⟨b2,rfl,hb2,HM7,K7,kz7,gf7,⟨g0,g1,g2,g3,g4⟩,bg7,x0,x1,x2,x3⟩))
  refine wp_called (λW3 hW3=>?_)
  obtain ⟨nb,HK3,HM3,HB3,HA3,HY3,HT3⟩:=rdo_copied hW3 K7 HBG.out HA.out.act HY.out HTH.out HM7.out hb2 HSZ.out ng2 ng4 ng5
  clear hW3
  obtain ⟨x0,x1,x2,x3,x4,x5,x6,x7,x8,x9,x10,x11,x12,x13,x14,x15,x16⟩:=act_cells HA3.out
  obtain ⟨y0,y1,y2,y3⟩:=four_cells HY3.out
  obtain ⟨t0,t1,t2,t3,t4,t5,t6,t7,t8⟩:=th_cells HT3.out
  obtain ⟨g0,g1,g2,g3,g4,g5,g6⟩:=game_cells HB3.out
  have yf:=λi=>HY3.out.free i
  have gf:=λi=>HB3.out.free i
  have tf:=λi=>HT3.out.free i
  have lx3:=HA3.out.lt
  have ly3:=HY3.out.lt
  have lt3:=HT3.out.lt
  have lg3:=HB3.out.lt
  go_upto_region 76 with (go_at_call 32;go_loud (refine (HHAS.out _).mono ?_;rintro e w' ⟨rfl,rfl⟩))
  refine DG.wp_named (λA hA=>?_)
  show Code.wp Tryz.prog r76C _ _ _
  rw [r76C_is]
  refine wp_region_any kR ?_
  rw [r76Ops_size]
  show wpAny _ _ _ _ _ _ _ W3.drew
  refine r76_region (p3:=w.heap.size) (p6:=gt) (m:=p.1) (r:=p.2) (q:=row) (W0:=W3.drew) ⟨by rw [hA];rfl,by rw [hA];rfl,ng6,HA3.out.drew.cell 6,HA3.out.drew.cell 7⟩ rA (by rw [hA]) () (by unfold r76Mem;exact ⟨blk_to HT3.out.drew sS,FarO.refl _ _⟩) ?_
  intro gg ll W5 hll hmm
  unfold r76Mem at hmm
  rw [if_pos (hll 16 dC),if_pos (hll 19 dC)] at hmm
  obtain ⟨hb5,hf5⟩:=hmm
  refine next_frame rA [0,3,4,5,6] (by rfl) (λf9 k9=>?_)
  have e0:f9 0=.pointer (some ⟨g,0,none⟩):=(k9 0 dC).trans rA
  have e3:f9 3=.pointer (some ⟨w.heap.size,0,none⟩):=(k9 3 dC).trans rA
  have e4:f9 4=.pointer (some ⟨w.heap.size+1,0,none⟩):=(k9 4 dC).trans rA
  have e5:f9 5=.func (.func 26) #[] #[]:=(k9 5 dC).trans rA
  have e6:f9 6=.pointer (some ⟨gt,0,none⟩):=(k9 6 dC).trans rA
  clear k9 hA A
  simp only [fr406,e0,e3,e4,e5,e6]
  clear e0 e3 e4 e5 e6
  have HT5:Hid (Blk W5 gt 83 (thC (p.1,M.kickRow p.2 row))):=hI (blk_to hb5 (by simp [M.kickRow]))
  have HK5:Hid (Only (Own9 g w) W W5):=hI (HK3.out.drew.farO hf5 (.inr bO))
  have HB5:Hid (Blk W5 g 58 (refC b2 sv (more G))):=hI ((hf5.1 g (λe=>ng5 e.symm)).trans HB3.out.drew)
  have HA5:Hid (Blk W5 w.heap.size 42 (actC ⟨5,id,n,mask,row,box⟩)):=hI ((hf5.1 _ ng6).trans HA3.out.drew)
  have HY5:Hid (Blk W5 (w.heap.size+1) 35 #[.int .i64 0,.int .i64 0,.slice none 0 0,.slice none 0 0]):=hI ((hf5.1 _ bO).trans HY3.out.drew)
  have nbt:b2≠gt:=ne_new lt6 hb2
  have HM5:Hid (MapA W5 b2 (M.at_ G.w.things) (M.size G.w.things)):=hI (HM3.out.drew.block (hf5.1 _ nbt))
  clear hb5 hf5
  obtain ⟨w4,hrun,hm4,ht4⟩:=MapAt.put HM5.out.drew Tryz.underlying3 Tryz.underlying44 (by rw [HSZ.out];exact HSM.out) (id:=id) HID.out (p.1,M.kickRow p.2 row)
  rw [hth] at hm4
  simp only [if_true] at hm4
  have e5q:M.at_ s2=M.upd (M.at_ G.w.things) id (p.1,M.kickRow p.2 row):=e5
  rw [←hsz2,←e5q] at hm4
  have HM4:=hI hm4
  have HT4:=hI ht4
  clear hm4 ht4
  go_upto_region 77 with fail
  refine DG.wp_named (λA hA=>?_)
  show Code.wp Tryz.prog r77C _ _ _
  rw [r77C_is]
  refine wp_region_any kR ?_
  rw [r77Ops_size]
  show wpAny _ _ _ _ _ _ _ W5.drew
  refine r77_region (g:=g) (p3:=w.heap.size) (p6:=gt) (b:=b2) (id:=id) (t:=(p.1,M.kickRow p.2 row)) (w4:=w4) (W0:=W5.drew) ⟨by rw [hA];rfl,by rw [hA];rfl,by rw [hA];rfl,HB5.out.drew.cell 0,HA5.out.drew.cell 1,HT5.out.drew.cell 0,HT5.out.drew.cell 1,HT5.out.drew.cell 2,HT5.out.drew.cell 3,HT5.out.drew.cell 4,HT5.out.drew.cell 5,HT5.out.drew.cell 6,HT5.out.drew.cell 7,HT5.out.drew.cell 8,hrun⟩ rA (by rw [hA]) () (by unfold r77Mem;rw [if_neg sS]) ?_
  intro gg ll W4 hll hmm
  unfold r77Mem at hmm
  rw [if_pos (hll 8 dC)] at hmm
  subst hmm
  refine next_frame rA [0,3,4,5] (by rfl) (λf9 k9=>?_)
  have e0:f9 0=.pointer (some ⟨g,0,none⟩):=(k9 0 dC).trans rA
  have e3:f9 3=.pointer (some ⟨w.heap.size,0,none⟩):=(k9 3 dC).trans rA
  have e4:f9 4=.pointer (some ⟨w.heap.size+1,0,none⟩):=(k9 4 dC).trans rA
  have e5:f9 5=.func (.func 26) #[] #[]:=(k9 5 dC).trans rA
  clear k9 hA A
  simp only [fr406,e0,e3,e4,e5]
  clear e0 e3 e4 e5
  have bt:=But1.turned (But1.refl b2 W5.drew) HT4.out
  have nb2:g≠b2:=λe=>nb e.symm
  have HB4:=hI (bt.blk HB5.out.drew nb2)
  have HR4:=hI (bt.blk HY5.out.drew (ne_new ly hb2).symm)
  have HK4:Hid (Only (Own9 g w) W W4):=hI (HK5.out.drew.but1 bt (.inr bO))
  obtain ⟨y0,y1,y2,y3⟩:=four_cells HR4.out
  have yf:=λi=>HR4.out.free i
  have ly4:=HR4.out.lt
  clear bt
  go_wp2_with (go_at_call 26;go_loud (refine (rno2_calls _ HR4.out (show Below W4.heap.size W4 _ from bel9)).mono ?_;rintro e w9 ⟨rfl,K9,kz9,by9,z0,z1,z2,z3,zf⟩))
  refine bodyPost_ret (results_cell_row rfl _ _ _ _ _ _ _ rfl (reply_blk by9 _ _ _ _) Tryz.underlying35 rfl kR) rfl ?_
  exact rdo_end (m:=W.heap.size) ((HREF.out.made2 HRR.out (G':=M.withThings (more G) s2) HK4.out (blk_eq HB4.out (by simp [M.withThings,e4])) rfl hb2 HM4.out).below K9) HRR.out HM.out ((HO.out.own9 HK4.out HA.out.ref.inR).more K9) (M.no 0) oN oN _ _ _ _
end Go.Proofs.YtemkbjaojinaoaaGreat
