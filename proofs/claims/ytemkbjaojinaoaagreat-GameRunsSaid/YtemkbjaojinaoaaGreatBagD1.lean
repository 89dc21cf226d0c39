/- Several small texts in one. No condition of its own: each part says its own. -/
import Derived.Test.YtemkbjaojinaoaaGreatShort
import Derived.Test.YtemkbjaojinaoaaGreatBagH
import Derived.Test.YtemkbjaojinaoaaGreatBagX9
import Derived.Test.YtemkbjaojinaoaaGreatBagP
set_option linter.unusedVariables false
set_option linter.unusedSimpArgs false
set_option maxRecDepth 100000
set_option maxHeartbeats 8000000
namespace Go.Proofs.YtemkbjaojinaoaaGreat
open Go.RowKit
theorem do_spawn {w:World} {Q:Nat->Prop} {g:Nat} {G:M.Game} {a:Option Addr} {c:Nat} {sv:Value} {hs:List Value} (h:GameAt w Q g G a c sv hs) (hq:∀b,Q b->b<w.heap.size) (hG:M.GoodG G) (kind id n mask:Int) (row:M.Row) (box:M.Box) (hk:kind=1) (h0:0<=G.acts) (hlt:G.acts<150) (hx:ActIn ⟨kind,id,n,mask,row,box⟩):
  Calls Tryz.prog 9 #[.pointer (some ⟨g,0,none⟩),actV ⟨kind,id,n,mask,row,box⟩] w (DoPost Q w g (M.doAct G ⟨kind,id,n,mask,row,box⟩).1 (M.doAct G ⟨kind,id,n,mask,row,box⟩).2):=by
 obtain ⟨y,nid,code,hsp⟩:∃y i c,M.spawn G.w.things mask row=(y,i,c):=⟨_,_,_,rfl⟩
 have hres:M.doAct G ⟨kind,id,n,mask,row,box⟩=(M.withThings (more G) y,⟨code,nid,[],[]⟩):=by
  unfold M.doAct
  rw [if_neg bO]
  simp only
  rw [if_pos hk,hsp]
 rw [hres]
 subst hk
 clear hres
 obtain ⟨HG0,HQ,g0,g1,g6,gf,lg,nl1,nl2,nl3,nl4⟩:=do_first h hq
 clear h hq
 go_enter Tryz.func9,Tryz.ntmps9
 go_upto_region 9 with (fail)
 refine wp_called (λW2 hW2=>?_)
 obtain ⟨HZ2,hz2,HO2,HG2,HNQ,⟨x0,x1,x2,x3,x4,x5,x6,x7,x8,x9,x10,x11,x12,x13,x14,x15,x16⟩,⟨s0,s1⟩,⟨y0,y1,y2,y3⟩,yf,⟨gw0,gw1,gw2,gw3,gw4,gw5,gw6⟩,gff,l2g,l23,l24,l27,HB3,HB4,HB7,HBG⟩:=do_facts HG0.out HQ.out hW2
 have HIN:=hI (good_in hG.w.things)
 clear hW2 g0 g1 g6 gf
 have HSP:=hI (λU (hb:Below W2.heap.size W2 U)=>spawn_calls (HG2.out.st.at_.below hb) HIN.out mask row)
 rw [show M.spawn (more G).w.things mask row=(y,nid,code) from hsp] at HSP
 simp only at HSP
 clear hsp hx hG
 go_upto_region 13 with (go_at_call 19;go_loud (refine (HSP.out _ bel9).mono ?_;rintro e w5 ⟨v5,rfl,⟨hs5,hn5⟩,hb5⟩;obtain ⟨a5,c5,rfl⟩:=hs5.form;have HR5:=hI (HG2.out.st.set (Below.refl _ _) hb5 hn5 (HG2.out.newG HNQ.out));have hz5:=hb5.size;have K5:=hb5;have bg5:=HBG.out.below hb5 HBG.out.lt;have gv0:=bg5.cell 0;have gv1:=bg5.cell 1;simp at gv0 gv1;have gvf:=(λi=>bg5.free i);have lv:=bg5.lt;have nv:¬g=w5.heap.size:=bO;have nv2:¬w5.heap.size=g:=bO;clear hs5 hn5 hb5))
 refine wp_called (λW3 hW3=>?_)
 have HB43:Hid (Blk W3 (w.heap.size+1) 35 #[.int .i64 0,.int .i64 0,.slice none 0 0,.slice none 0 0]):=hI (by
  rw [hW3]
  exact (((HB4.out.below K5 HB4.out.lt).far (p:=⟨g,0,none⟩) nl4 _).far (p:=⟨g,1,none⟩) nl4 _).alloc _)
 have hB3:∀b,b<W2.heap.size->b≠g->W3.heap[b]?=W2.heap[b]?:=by
  intro b h1 h2
  rw [hW3]
  exact (Below.heap_alloc _ _ b sW).trans ((bS _ _ _ b h2).trans ((bS _ _ _ b h2).trans (K5.block b h1)))
 have hz3:w5.heap.size<=W3.heap.size:=by rw [hW3];simp [World.setCell]
 have HG3:Hid (GameAt W3 (QD Q w) g (M.withThings (more G) y) a5 c5 sv hs):=hI (HG2.out.upd (G':=M.withThings (more G) y) bO (λb h1 _ h3=>hB3 b h1 h3) (by rw [hW3];exact (blk_to (((HBG.out.below K5 HBG.out.lt).put 0 _).put 1 _) (by rfl)).alloc _) rfl (HR5.out.step hz3 (λb h1 k=>by
  rw [hW3]
  exact (Below.heap_alloc _ _ b sW).trans ((bS _ _ _ b k.2.1).trans (bS _ _ _ b k.2.1)))))
 have HO3:Hid (Only Q w W3):=hI (by
  rw [hW3]
  exact (((HO2.out.more K5).setCell (.inl HG0.out.inQ) _).setCell (.inl HG0.out.inQ) _).alloc _)
 clear hW3 hB3 gv0 gv1 gvf bg5 y0 y1 y2 y3 yf gw0 gw1 gw2 gw3 gw4 gw5 gw6 gff x0 x1 x2 x3 x4 x5 x6 x7 x8 x9 x10 x11 x12 x13 x14 x15 x16 s0 s1
 have y0:=HB43.out.cell 0
 have y1:=HB43.out.cell 1
 have y2:=HB43.out.cell 2
 have y3:=HB43.out.cell 3
 have yf:=λi=>HB43.out.free i
 simp at y0 y1 y2 y3
 have l34:=HB43.out.lt
 go_wp2_with fail
 refine bodyPost_ret (results_cell_row rfl _ _ _ _ _ _ _ rfl (reply_blk HB43.out _ _ _ _) Tryz.underlying35 rfl kR) rfl ?_
 unfold DoPost
 exact do_end (U:=W3) HG3.out HO3.out l34 (Below.refl _ _) ⟨code,nid,[],[]⟩ (ids:=.slice none 0 0) (met:=.slice none 0 0) (i0:=undef) (m0:=undef) oN oN (λb e=>by cases e) (λb e=>by cases e) HQ.out _ _ _ _
theorem do_kill {w:World} {Q:Nat->Prop} {g:Nat} {G:M.Game} {a:Option Addr} {c:Nat} {sv:Value} {hs:List Value} (h:GameAt w Q g G a c sv hs) (hq:∀b,Q b->b<w.heap.size) (hG:M.GoodG G) (kind id n mask:Int) (row:M.Row) (box:M.Box) (hk:kind=2) (h0:0<=G.acts) (hlt:G.acts<150) (hx:ActIn ⟨kind,id,n,mask,row,box⟩):
  Calls Tryz.prog 9 #[.pointer (some ⟨g,0,none⟩),actV ⟨kind,id,n,mask,row,box⟩] w (DoPost Q w g (M.doAct G ⟨kind,id,n,mask,row,box⟩).1 (M.doAct G ⟨kind,id,n,mask,row,box⟩).2):=by
 obtain ⟨y,code,hsp⟩:∃y c,M.kill G.w.things id=(y,c):=⟨_,_,rfl⟩
 have hres:M.doAct G ⟨kind,id,n,mask,row,box⟩=(M.withThings (more G) y,M.no code):=by
  unfold M.doAct
  rw [if_neg bO]
  simp only
  rw [if_neg bO,if_pos hk,hsp]
 rw [hres]
 subst hk
 clear hres
 obtain ⟨HG0,HQ,g0,g1,g6,gf,lg,nl1,nl2,nl3,nl4⟩:=do_first h hq
 clear h hq
 go_enter Tryz.func9,Tryz.ntmps9
 go_upto_region 9 with (fail)
 refine wp_called (λW2 hW2=>?_)
 obtain ⟨HZ2,hz2,HO2,HG2,HNQ,⟨x0,x1,x2,x3,x4,x5,x6,x7,x8,x9,x10,x11,x12,x13,x14,x15,x16⟩,⟨s0,s1⟩,⟨y0,y1,y2,y3⟩,yf,⟨gw0,gw1,gw2,gw3,gw4,gw5,gw6⟩,gff,l2g,l23,l24,l27,HB3,HB4,HB7,HBG⟩:=do_facts HG0.out HQ.out hW2
 have HIN:=hI (good_in hG.w.things)
 clear hW2 g0 g1 g6 gf
 have HSP:=hI (λU (hb:Below W2.heap.size W2 U)=>kill_calls (HG2.out.st.at_.below hb) HIN.out id)
 rw [show M.kill (more G).w.things id=(y,code) from hsp] at HSP
 simp only at HSP
 clear hsp hx hG
 go_upto_region 16 with (go_at_call 20;go_loud (refine (HSP.out _ bel9).mono ?_;rintro e w5 ⟨v5,rfl,⟨hs5,hn5⟩,hb5⟩;obtain ⟨a5,c5,rfl⟩:=hs5.form;have HR5:=hI (HG2.out.st.set (Below.refl _ _) hb5 hn5 (HG2.out.newG HNQ.out));have hz5:=hb5.size;have K5:=hb5;have bg5:=HBG.out.below hb5 HBG.out.lt;have gv0:=bg5.cell 0;have gv1:=bg5.cell 1;simp at gv0 gv1;have gvf:=(λi=>bg5.free i);have lv:=bg5.lt;have nv:¬g=w5.heap.size:=bO;have nv2:¬w5.heap.size=g:=bO;clear hs5 hn5 hb5))
 refine wp_called (λW3 hW3=>?_)
 have HB43:Hid (Blk W3 (w.heap.size+1) 35 #[.int .i64 0,.int .i64 0,.slice none 0 0,.slice none 0 0]):=hI (by
  rw [hW3]
  exact ((HB4.out.below K5 HB4.out.lt).far (p:=⟨g,0,none⟩) nl4 _).far (p:=⟨g,1,none⟩) nl4 _)
 have hB3:∀b,b<W2.heap.size->b≠g->W3.heap[b]?=W2.heap[b]?:=by
  intro b h1 h2
  rw [hW3]
  exact (bS _ _ _ b h2).trans ((bS _ _ _ b h2).trans (K5.block b h1))
 have hz3:w5.heap.size<=W3.heap.size:=by rw [hW3];simp [World.setCell]
 have HG3:Hid (GameAt W3 (QD Q w) g (M.withThings (more G) y) a5 c5 sv hs):=hI (HG2.out.upd (G':=M.withThings (more G) y) bO (λb h1 _ h3=>hB3 b h1 h3) (by rw [hW3];exact blk_to (((HBG.out.below K5 HBG.out.lt).put 0 _).put 1 _) (by rfl)) rfl (HR5.out.step hz3 (λb h1 k=>by
  rw [hW3]
  exact (bS _ _ _ b k.2.1).trans (bS _ _ _ b k.2.1))))
 have HO3:Hid (Only Q w W3):=hI (by
  rw [hW3]
  exact ((HO2.out.more K5).setCell (.inl HG0.out.inQ) _).setCell (.inl HG0.out.inQ) _)
 clear hW3 hB3 gv0 gv1 gvf bg5 y0 y1 y2 y3 yf gw0 gw1 gw2 gw3 gw4 gw5 gw6 gff x0 x1 x2 x3 x4 x5 x6 x7 x8 x9 x10 x11 x12 x13 x14 x15 x16 s0 s1
 have y0:=HB43.out.cell 0
 have y1:=HB43.out.cell 1
 have y2:=HB43.out.cell 2
 have y3:=HB43.out.cell 3
 have yf:=λi=>HB43.out.free i
 simp at y0 y1 y2 y3
 have l34:=HB43.out.lt
 go_wp2_with (go_at_call 18;go_loud (refine (no_calls _ _).mono ?_;rintro e w6 ⟨rfl,rfl⟩))
 refine bodyPost_ret (results_cell_row rfl _ _ _ _ _ _ _ rfl ((Below.heap_alloc _ _ _ sW).trans (reply_blk HB43.out _ _ _ _)) Tryz.underlying35 rfl kR) rfl ?_
 refine DoPost.more ?_ ((Below.refl _ _).alloc lR _)
 unfold DoPost
 exact do_end (U:=W3) HG3.out HO3.out l34 (Below.refl _ _) (M.no code) (ids:=.slice none 0 0) (met:=.slice none 0 0) (i0:=undef) (m0:=undef) oN oN (λb e=>by cases e) (λb e=>by cases e) HQ.out _ _ _ _
theorem do_step {w:World} {Q:Nat->Prop} {g:Nat} {G:M.Game} {a:Option Addr} {c:Nat} {sv:Value} {hs:List Value} (h:GameAt w Q g G a c sv hs) (hq:∀b,Q b->b<w.heap.size) (hG:M.GoodG G) (kind id n mask:Int) (row:M.Row) (box:M.Box) (hk:kind=6) (h0:0<=G.acts) (hlt:G.acts<150) (hx:ActIn ⟨kind,id,n,mask,row,box⟩):
  Calls Tryz.prog 9 #[.pointer (some ⟨g,0,none⟩),actV ⟨kind,id,n,mask,row,box⟩] w (DoPost Q w g (M.doAct G ⟨kind,id,n,mask,row,box⟩).1 (M.doAct G ⟨kind,id,n,mask,row,box⟩).2):=by
 subst hk
 obtain ⟨G',r,hyc⟩:∃y c,M.stepG (more G) n=(y,c):=⟨_,_,rfl⟩
 rw [M.doAct_step hlt rfl]
 rw [show M.stepG (M.more G) n=(G',r) from hyc]
 obtain ⟨HG0,HQ,g0,g1,g6,gf,lg,nl1,nl2,nl3,nl4⟩:=do_first h hq
 clear h hq
 go_enter Tryz.func9,Tryz.ntmps9
 go_upto_region 9 with (fail)
 refine wp_called (λW2 hW2=>?_)
 obtain ⟨HZ2,hz2,HO2,HG2,HNQ,⟨x0,x1,x2,x3,x4,x5,x6,x7,x8,x9,x10,x11,x12,x13,x14,x15,x16⟩,⟨s0,s1⟩,⟨y0,y1,y2,y3⟩,yf,⟨gw0,gw1,gw2,gw3,gw4,gw5,gw6⟩,gff,l2g,l23,l24,l27,HB3,HB4,HB7,HBG⟩:=do_facts HG0.out HQ.out hW2
 have HIN:=hI (good_in hG.w.things)
 clear hW2 g0 g1 g6 gf
 have HMID:=hI (gstep_calls (HG2.out.wide (R:=λb=>QD Q w b/\b<W2.heap.size) (λb h1 k=>⟨k,h1⟩)) (λb k=>k.2) ⟨hG.w,hG.saves⟩ n)
 rw [hyc] at HMID
 simp only at HMID
 clear hyc hx hG
 go_wp2_with (go_at_call 23;go_loud (refine (HMID.out).mono ?_;rintro e w5 ⟨a5,c5,sv5,hs5,ids,met,rfl,hg5,ho5,hi5,hm5⟩;have HG5:=hI hg5;have HO3:=hI (ho5.inner HO2.out);have HI5:=hI hi5;have HM5:=hI hm5;have l34:w.heap.size+1<w5.heap.size:=Nat.lt_of_lt_of_le l24 ho5.size;have b43:Blk w5 (w.heap.size+1) 35 #[.int .i64 0,.int .i64 0,.slice none 0 0,.slice none 0 0]:=(ho5.block _ l24 (λk=>k.1.2 rfl)).trans HB4.out;have HB43:=hI b43;have y0:=b43.cell 0;have y1:=b43.cell 1;have y2:=b43.cell 2;have y3:=b43.cell 3;have yf:=(λi=>b43.free i);simp at y0 y1 y2 y3;clear hg5 ho5 b43 hi5 hm5;obtain ⟨ia,ic,rfl⟩:=own_form HI5.out;obtain ⟨ma,mc,rfl⟩:=own_form HM5.out))
 refine bodyPost_ret (results_cell_row rfl _ _ _ _ _ _ _ rfl (reply_blk HB43.out _ _ _ _) Tryz.underlying35 rfl kR) rfl ?_
 exact do_end2 HG5.out HO3.out bO r HI5.out HM5.out _ _ _ _
theorem do_full {w:World} {Q:Nat->Prop} {g:Nat} {G:M.Game} {a:Option Addr} {c:Nat} {sv:Value} {hs:List Value} (h:GameAt w Q g G a c sv hs) (hq:∀b,Q b->b<w.heap.size) (hG:M.GoodG G) (x:M.Act) (hlt:150<=G.acts):
  Calls Tryz.prog 9 #[.pointer (some ⟨g,0,none⟩),actV x] w (DoPost Q w g (M.doAct G x).1 (M.doAct G x).2):=by
 rw [show M.doAct G x=(G,M.no 5) by unfold M.doAct;rw [if_pos hlt]]
 have HG0:=hI h
 have HQ:=hI hq
 have g6:=h.blk.cell 6
 have lg:=h.blk.lt
 simp at g6
 have nl1:¬g=w.heap.size:=by omega
 have nl2:¬w.heap.size=g:=by omega
 have nl3:¬g=w.heap.size+1:=by omega
 have nl4:¬w.heap.size+1=g:=by omega
 clear h hq hG
 go_enter Tryz.func9,Tryz.ntmps9
 go_wp2_with (go_at_call 18;go_loud (refine (no_calls _ _).mono ?_;rintro e w6 ⟨rfl,rfl⟩))
 refine bodyPost_ret (results_cell_row rfl _ _ _ _ _ _ _ rfl ((heap_alloc_old _ _ sS).trans (heap_alloc2_new w _ _)) Tryz.underlying35 rfl kR) rfl ?_
 exact ⟨a,c,sv,hs,.slice none 0 0,.slice none 0 0,rfl,(HG0.out.below bel9).wide (λb _ k=>⟨.inl k,(λe=>by cases e),λe=>by cases e⟩),Only.of_below bel9,World.ownsRow_nil _ _ _ _,World.ownsRow_nil _ _ _ _⟩
theorem do_other {w:World} {Q:Nat->Prop} {g:Nat} {G:M.Game} {a:Option Addr} {c:Nat} {sv:Value} {hs:List Value} (h:GameAt w Q g G a c sv hs) (hq:∀b,Q b->b<w.heap.size) (hG:M.GoodG G) (kind id n mask:Int) (row:M.Row) (box:M.Box) (hk:kind<1\/9<kind) (h0:0<=G.acts) (hlt:G.acts<150):
  Calls Tryz.prog 9 #[.pointer (some ⟨g,0,none⟩),actV ⟨kind,id,n,mask,row,box⟩] w (DoPost Q w g (M.doAct G ⟨kind,id,n,mask,row,box⟩).1 (M.doAct G ⟨kind,id,n,mask,row,box⟩).2):=by
 have hres:M.doAct G ⟨kind,id,n,mask,row,box⟩=(more G,M.no 4):=by
  unfold M.doAct
  rw [if_neg bO]
  simp only
  rw [if_neg bO,if_neg bO,if_neg bO,if_neg bO,if_neg bO,if_neg bO,if_neg bO,if_neg bO]
 rw [hres]
 clear hres
 obtain ⟨HG0,HQ,g0,g1,g6,gf,lg,nl1,nl2,nl3,nl4⟩:=do_first h hq
 clear h hq
 go_enter Tryz.func9,Tryz.ntmps9
 go_upto_region 9 with (fail)
 refine wp_called (λW2 hW2=>?_)
 obtain ⟨HZ2,hz2,HO2,HG2,HNQ,⟨x0,x1,x2,x3,x4,x5,x6,x7,x8,x9,x10,x11,x12,x13,x14,x15,x16⟩,⟨s0,s1⟩,⟨y0,y1,y2,y3⟩,yf,⟨gw0,gw1,gw2,gw3,gw4,gw5,gw6⟩,gff,l2g,l23,l24,l27,HB3,HB4,HB7,HBG⟩:=do_facts HG0.out HQ.out hW2
 have HIN:=hI (good_in hG.w.things)
 clear hW2 g0 g1 g6 gf
 have q1:(kind==1)=false:=by simp;omega
 have q2:(kind==2)=false:=by simp;omega
 have q3:(kind==3)=false:=by simp;omega
 have q4:(kind==4)=false:=by simp;omega
 have q5:(kind==5)=false:=by simp;omega
 have q6:(kind==6)=false:=by simp;omega
 have q7:(kind==7)=false:=by simp;omega
 have q8:(kind==8)=false:=by simp;omega
 have q9:(kind==9)=false:=by simp;omega
 clear hG hk
 have HG3:=HG2
 have HO3:=HO2
 have HB43:=HB4
 go_wp2_with (go_at_call 18;go_loud (refine (no_calls _ _).mono ?_;rintro e w6 ⟨rfl,rfl⟩))
 refine bodyPost_ret (results_cell_row rfl _ _ _ _ _ _ _ rfl ((Below.heap_alloc _ _ _ sW).trans (reply_blk HB43.out _ _ _ _)) Tryz.underlying35 rfl kR) rfl ?_
 refine DoPost.more ?_ ((Below.refl _ _).alloc lR _)
 unfold DoPost
 exact do_end (U:=W2) HG3.out HO3.out l24 (Below.refl _ _) (M.no 4) (ids:=.slice none 0 0) (met:=.slice none 0 0) (i0:=undef) (m0:=undef) oN oN (λb e=>by cases e) (λb e=>by cases e) HQ.out _ _ _ _
end Go.Proofs.YtemkbjaojinaoaaGreat
