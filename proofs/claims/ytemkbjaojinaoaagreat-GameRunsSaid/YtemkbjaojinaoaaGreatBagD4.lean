/- Several small texts in one. No condition of its own: each part says its own. -/
import Derived.Test.YtemkbjaojinaoaaGreatShort
import Derived.Test.YtemkbjaojinaoaaGreatBagH
import Derived.Test.YtemkbjaojinaoaaGreatBagD2
import Derived.Test.YtemkbjaojinaoaaGreatBagP
import Derived.StillTailTactics
set_option linter.unusedVariables false
set_option linter.unusedSimpArgs false
set_option maxRecDepth 100000
set_option maxHeartbeats 8000000
namespace Go.Proofs.YtemkbjaojinaoaaGreat
open Go.RowKit
theorem do_give {w:World} {Q:Nat->Prop} {g:Nat} {G:M.Game} {a:Option Addr} {c:Nat} {sv:Value} {hs:List Value} (h:GameAt w Q g G a c sv hs) (hq:∀b,Q b->b<w.heap.size) (hG:M.GoodG G) (kind id n mask:Int) (row:M.Row) (box:M.Box) (hk:kind=3) (h0:0<=G.acts) (hlt:G.acts<150) (hx:ActIn ⟨kind,id,n,mask,row,box⟩):
  Calls Tryz.prog 9 #[.pointer (some ⟨g,0,none⟩),actV ⟨kind,id,n,mask,row,box⟩] w (DoPost Q w g (M.doAct G ⟨kind,id,n,mask,row,box⟩).1 (M.doAct G ⟨kind,id,n,mask,row,box⟩).2):=by
 subst hk
 obtain ⟨y,code,hyc⟩:∃y c,M.changeG G.w.things ⟨3,id,n,mask,row,box⟩=(y,c):=⟨_,_,rfl⟩
 rw [M.doAct_change hlt (.inl rfl)]
 rw [show M.changeG G.w.things ⟨3,id,n,mask,row,box⟩=(y,code) from hyc]
 obtain ⟨HG0,HQ,g0,g1,g6,gf,lg,nl1,nl2,nl3,nl4⟩:=do_first h hq
 clear h hq
 go_enter Tryz.func9,Tryz.ntmps9
 go_upto_region 9 with (fail)
 refine wp_called (λW2 hW2=>?_)
 obtain ⟨HZ2,hz2,HO2,HG2,HNQ,⟨x0,x1,x2,x3,x4,x5,x6,x7,x8,x9,x10,x11,x12,x13,x14,x15,x16⟩,⟨s0,s1⟩,⟨y0,y1,y2,y3⟩,yf,⟨gw0,gw1,gw2,gw3,gw4,gw5,gw6⟩,gff,l2g,l23,l24,l27,HB3,HB4,HB7,HBG⟩:=do_facts HG0.out HQ.out hW2
 have HIN:=hI (good_in hG.w.things)
 clear hW2 g0 g1 g6 gf
 have HMID:=hI (gchange_calls (HG2.out.wide (R:=λb=>QD Q w b/\b<W2.heap.size) (λb h1 k=>⟨k,h1⟩)) (λb k=>k.2) ⟨hG.w,hG.saves⟩ ⟨3,id,n,mask,row,box⟩ hx)
 rw [show M.changeG (more G).w.things ⟨3,id,n,mask,row,box⟩=(y,code) from hyc] at HMID
 simp only at HMID
 clear hyc hx hG
 go_wp2_with (first|(go_at_call 21;go_loud (refine (HMID.out).mono ?_;rintro e w5 ⟨a5,c5,sv5,hs5,rfl,hg5,ho5⟩;have HG3:=hI (hg5.wide (R:=QD Q w) (λb _ k=>k.elim (λk=>k.1) (λk=>⟨.inr bO,by omega⟩)));have HO3:=hI (ho5.inner HO2.out);have l34:w.heap.size+1<w5.heap.size:=Nat.lt_of_lt_of_le l24 ho5.size;have b43:Blk w5 (w.heap.size+1) 35 #[.int .i64 0,.int .i64 0,.slice none 0 0,.slice none 0 0]:=(ho5.block _ l24 (λk=>k.1.2 rfl)).trans HB4.out;have HB43:=hI b43;have y0:=b43.cell 0;have y1:=b43.cell 1;have y2:=b43.cell 2;have y3:=b43.cell 3;have yf:=(λi=>b43.free i);simp at y0 y1 y2 y3;clear hg5 ho5 b43))|(go_at_call 18;go_loud (refine (no_calls _ _).mono ?_;rintro e w6 ⟨rfl,rfl⟩)))
 refine bodyPost_ret (results_cell_row rfl _ _ _ _ _ _ _ rfl ((Below.heap_alloc _ _ _ sW).trans (reply_blk HB43.out _ _ _ _)) Tryz.underlying35 rfl kR) rfl ?_
 refine DoPost.more ?_ ((Below.refl _ _).alloc lR _)
 unfold DoPost
 exact do_end (U:=w5) HG3.out HO3.out l34 (Below.refl _ _) (M.no code) (ids:=.slice none 0 0) (met:=.slice none 0 0) (i0:=undef) (m0:=undef) oN oN (λb e=>by cases e) (λb e=>by cases e) HQ.out _ _ _ _
theorem do_take {w:World} {Q:Nat->Prop} {g:Nat} {G:M.Game} {a:Option Addr} {c:Nat} {sv:Value} {hs:List Value} (h:GameAt w Q g G a c sv hs) (hq:∀b,Q b->b<w.heap.size) (hG:M.GoodG G) (kind id n mask:Int) (row:M.Row) (box:M.Box) (hk:kind=4) (h0:0<=G.acts) (hlt:G.acts<150) (hx:ActIn ⟨kind,id,n,mask,row,box⟩):
  Calls Tryz.prog 9 #[.pointer (some ⟨g,0,none⟩),actV ⟨kind,id,n,mask,row,box⟩] w (DoPost Q w g (M.doAct G ⟨kind,id,n,mask,row,box⟩).1 (M.doAct G ⟨kind,id,n,mask,row,box⟩).2):=by
 subst hk
 obtain ⟨y,code,hyc⟩:∃y c,M.changeG G.w.things ⟨4,id,n,mask,row,box⟩=(y,c):=⟨_,_,rfl⟩
 rw [M.doAct_change hlt (.inr rfl)]
 rw [show M.changeG G.w.things ⟨4,id,n,mask,row,box⟩=(y,code) from hyc]
 obtain ⟨HG0,HQ,g0,g1,g6,gf,lg,nl1,nl2,nl3,nl4⟩:=do_first h hq
 clear h hq
 go_enter Tryz.func9,Tryz.ntmps9
 go_upto_region 9 with (fail)
 refine wp_called (λW2 hW2=>?_)
 obtain ⟨HZ2,hz2,HO2,HG2,HNQ,⟨x0,x1,x2,x3,x4,x5,x6,x7,x8,x9,x10,x11,x12,x13,x14,x15,x16⟩,⟨s0,s1⟩,⟨y0,y1,y2,y3⟩,yf,⟨gw0,gw1,gw2,gw3,gw4,gw5,gw6⟩,gff,l2g,l23,l24,l27,HB3,HB4,HB7,HBG⟩:=do_facts HG0.out HQ.out hW2
 have HIN:=hI (good_in hG.w.things)
 clear hW2 g0 g1 g6 gf
 have HMID:=hI (gchange_calls (HG2.out.wide (R:=λb=>QD Q w b/\b<W2.heap.size) (λb h1 k=>⟨k,h1⟩)) (λb k=>k.2) ⟨hG.w,hG.saves⟩ ⟨4,id,n,mask,row,box⟩ hx)
 rw [show M.changeG (more G).w.things ⟨4,id,n,mask,row,box⟩=(y,code) from hyc] at HMID
 simp only at HMID
 clear hyc hx hG
 go_wp2_with (first|(go_at_call 21;go_loud (refine (HMID.out).mono ?_;rintro e w5 ⟨a5,c5,sv5,hs5,rfl,hg5,ho5⟩;have HG3:=hI (hg5.wide (R:=QD Q w) (λb _ k=>k.elim (λk=>k.1) (λk=>⟨.inr bO,by omega⟩)));have HO3:=hI (ho5.inner HO2.out);have l34:w.heap.size+1<w5.heap.size:=Nat.lt_of_lt_of_le l24 ho5.size;have b43:Blk w5 (w.heap.size+1) 35 #[.int .i64 0,.int .i64 0,.slice none 0 0,.slice none 0 0]:=(ho5.block _ l24 (λk=>k.1.2 rfl)).trans HB4.out;have HB43:=hI b43;have y0:=b43.cell 0;have y1:=b43.cell 1;have y2:=b43.cell 2;have y3:=b43.cell 3;have yf:=(λi=>b43.free i);simp at y0 y1 y2 y3;clear hg5 ho5 b43))|(go_at_call 18;go_loud (refine (no_calls _ _).mono ?_;rintro e w6 ⟨rfl,rfl⟩)))
 refine bodyPost_ret (results_cell_row rfl _ _ _ _ _ _ _ rfl ((Below.heap_alloc _ _ _ sW).trans (reply_blk HB43.out _ _ _ _)) Tryz.underlying35 rfl kR) rfl ?_
 refine DoPost.more ?_ ((Below.refl _ _).alloc lR _)
 unfold DoPost
 exact do_end (U:=w5) HG3.out HO3.out l34 (Below.refl _ _) (M.no code) (ids:=.slice none 0 0) (met:=.slice none 0 0) (i0:=undef) (m0:=undef) oN oN (λb e=>by cases e) (λb e=>by cases e) HQ.out _ _ _ _
theorem do_kick {w:World} {Q:Nat->Prop} {g:Nat} {G:M.Game} {a:Option Addr} {c:Nat} {sv:Value} {hs:List Value} (h:GameAt w Q g G a c sv hs) (hq:∀b,Q b->b<w.heap.size) (hG:M.GoodG G) (kind id n mask:Int) (row:M.Row) (box:M.Box) (hk:kind=5) (h0:0<=G.acts) (hlt:G.acts<150) (hx:ActIn ⟨kind,id,n,mask,row,box⟩):
  Calls Tryz.prog 9 #[.pointer (some ⟨g,0,none⟩),actV ⟨kind,id,n,mask,row,box⟩] w (DoPost Q w g (M.doAct G ⟨kind,id,n,mask,row,box⟩).1 (M.doAct G ⟨kind,id,n,mask,row,box⟩).2):=by
 subst hk
 obtain ⟨y,code,hyc⟩:∃y c,M.kickG G.w.things ⟨5,id,n,mask,row,box⟩=(y,c):=⟨_,_,rfl⟩
 rw [M.doAct_kick hlt rfl]
 rw [show M.kickG G.w.things ⟨5,id,n,mask,row,box⟩=(y,code) from hyc]
 obtain ⟨HG0,HQ,g0,g1,g6,gf,lg,nl1,nl2,nl3,nl4⟩:=do_first h hq
 clear h hq
 go_enter Tryz.func9,Tryz.ntmps9
 go_upto_region 9 with (fail)
 refine wp_called (λW2 hW2=>?_)
 obtain ⟨HZ2,hz2,HO2,HG2,HNQ,⟨x0,x1,x2,x3,x4,x5,x6,x7,x8,x9,x10,x11,x12,x13,x14,x15,x16⟩,⟨s0,s1⟩,⟨y0,y1,y2,y3⟩,yf,⟨gw0,gw1,gw2,gw3,gw4,gw5,gw6⟩,gff,l2g,l23,l24,l27,HB3,HB4,HB7,HBG⟩:=do_facts HG0.out HQ.out hW2
 have HIN:=hI (good_in hG.w.things)
 clear hW2 g0 g1 g6 gf
 have HMID:=hI (gkick_calls (HG2.out.wide (R:=λb=>QD Q w b/\b<W2.heap.size) (λb h1 k=>⟨k,h1⟩)) (λb k=>k.2) ⟨hG.w,hG.saves⟩ ⟨5,id,n,mask,row,box⟩ hx)
 rw [show M.kickG (more G).w.things ⟨5,id,n,mask,row,box⟩=(y,code) from hyc] at HMID
 simp only at HMID
 clear hyc hx hG
 go_wp2_with (first|(go_at_call 22;go_loud (refine (HMID.out).mono ?_;rintro e w5 ⟨a5,c5,sv5,hs5,rfl,hg5,ho5⟩;have HG3:=hI (hg5.wide (R:=QD Q w) (λb _ k=>k.elim (λk=>k.1) (λk=>⟨.inr bO,by omega⟩)));have HO3:=hI (ho5.inner HO2.out);have l34:w.heap.size+1<w5.heap.size:=Nat.lt_of_lt_of_le l24 ho5.size;have b43:Blk w5 (w.heap.size+1) 35 #[.int .i64 0,.int .i64 0,.slice none 0 0,.slice none 0 0]:=(ho5.block _ l24 (λk=>k.1.2 rfl)).trans HB4.out;have HB43:=hI b43;have y0:=b43.cell 0;have y1:=b43.cell 1;have y2:=b43.cell 2;have y3:=b43.cell 3;have yf:=(λi=>b43.free i);simp at y0 y1 y2 y3;clear hg5 ho5 b43))|(go_at_call 18;go_loud (refine (no_calls _ _).mono ?_;rintro e w6 ⟨rfl,rfl⟩)))
 refine bodyPost_ret (results_cell_row rfl _ _ _ _ _ _ _ rfl ((Below.heap_alloc _ _ _ sW).trans (reply_blk HB43.out _ _ _ _)) Tryz.underlying35 rfl kR) rfl ?_
 refine DoPost.more ?_ ((Below.refl _ _).alloc lR _)
 unfold DoPost
 exact do_end (U:=w5) HG3.out HO3.out l34 (Below.refl _ _) (M.no code) (ids:=.slice none 0 0) (met:=.slice none 0 0) (i0:=undef) (m0:=undef) oN oN (λb e=>by cases e) (λb e=>by cases e) HQ.out _ _ _ _
theorem save_cells {w:World} {Q:Nat->Prop} {g:Nat} {G:M.Game} {a:Option Addr} {c:Nat} {sb sc:Nat} {hs:List Value} (h:GameAt w Q g G a c (.slice (some ⟨sb,0,none⟩) G.saves.length sc) hs) {i:Nat} {d:M.Wd} (hi:G.saves[i]?=some d):
  ∃a8 c8,Rob w (InG Q g (.slice (some ⟨sb,0,none⟩) G.saves.length sc)) (stV a8 c8 d.things) d.things/\w.cell? ⟨sb,i*5,none⟩=some (.slice a8 d.things.tables.length c8)/\w.cell? ⟨sb,i*5+1,none⟩=some (.int .i64 d.things.next)/\
   w.cell? ⟨sb,i*5+2,none⟩=some (.int .i64 d.fall)/\w.cell? ⟨sb,i*5+3,none⟩=some (.int .i64 d.wide)/\w.cell? ⟨sb,i*5+4,none⟩=some (.int .i64 d.high):=by
 have hlt:=(List.getElem?_eq_some_iff.1 hi).1
 obtain ⟨v,hv⟩:∃v,hs[i]?=some v:=⟨_,List.getElem?_eq_getElem (by rw [h.len];exact hlt)⟩
 obtain ⟨a8,c8,rfl,hr⟩:=h.each i d v hi hv
 have hz:(G.saves.zip hs)[i]?=some (d,Value.slice a8 d.things.tables.length c8):=(List.getElem?_zip_eq_some (z:=(d,Value.slice a8 d.things.tables.length c8))).2 ⟨hi,hv⟩
 have k:∀j u,([Value.slice a8 d.things.tables.length c8,.int .i64 d.things.next,.int .i64 d.fall,.int .i64 d.wide,.int .i64 d.high])[j]?=some u->j<5->w.cell? ⟨sb,i*5+j,none⟩=some u:=λj u hj h5=>
  (h.own.cellAt (i*5+j) bO).trans ((flat_at (λp:M.Wd×Value=>[p.2,.int .i64 p.1.things.next,.int .i64 p.1.fall,.int .i64 p.1.wide,.int .i64 p.1.high]) 5 (λ_=>rfl) (G.saves.zip hs) i j hz h5).trans hj)
 exact ⟨a8,c8,hr,k 0 _ rfl bO,k 1 _ rfl bO,k 2 _ rfl bO,k 3 _ rfl bO,k 4 _ rfl bO⟩
theorem do_load {w:World} {Q:Nat->Prop} {g:Nat} {G:M.Game} {a:Option Addr} {c:Nat} {sv:Value} {hs:List Value} (h:GameAt w Q g G a c sv hs) (hq:∀b,Q b->b<w.heap.size) (hG:M.GoodG G) (kind id n mask:Int) (row:M.Row) (box:M.Box) (hk:kind=8) (h0:0<=G.acts) (hlt:G.acts<150) (hx:ActIn ⟨kind,id,n,mask,row,box⟩):
  Calls Tryz.prog 9 #[.pointer (some ⟨g,0,none⟩),actV ⟨kind,id,n,mask,row,box⟩] w (DoPost Q w g (M.doAct G ⟨kind,id,n,mask,row,box⟩).1 (M.doAct G ⟨kind,id,n,mask,row,box⟩).2):=by
 have hres:M.doAct G ⟨kind,id,n,mask,row,box⟩=if n<0\/(G.saves.length:Int)<=n then (more G,M.no 3) else ({more G with w:=G.saves.getD n.toNat G.w},M.no 0):=by
  unfold M.doAct
  rw [if_neg bO]
  simp only
  rw [if_neg bO,if_neg bO,if_neg bO,if_neg bO,if_neg bO,if_neg bO,if_pos hk]
 rw [hres]
 subst hk
 clear hres
 obtain ⟨G',r,hgr⟩:∃G' r,(if n<0\/(G.saves.length:Int)<=n then (more G,M.no 3) else ({more G with w:=G.saves.getD n.toNat G.w},M.no 0))=(G',r):=⟨_,_,rfl⟩
 rw [hgr]
 have HGR:=hI hgr
 clear hgr
 obtain ⟨sa,sc,esv⟩:=own_form h.own
 have HSV:=hI esv
 have hsl:G.saves.length<=9223372036854775807:=by
  have:=(Lies.of_owns h.own).2.1
  unfold maxLen at this
  omega
 clear esv
 obtain ⟨HG0,HQ,g0,g1,g6,gf,lg,nl1,nl2,nl3,nl4⟩:=do_first h hq
 clear h hq
 go_enter Tryz.func9,Tryz.ntmps9
 go_upto_region 9 with (fail)
 refine wp_called (λW2 hW2=>?_)
 obtain ⟨HZ2,hz2,HO2,HG2,HNQ,⟨x0,x1,x2,x3,x4,x5,x6,x7,x8,x9,x10,x11,x12,x13,x14,x15,x16⟩,⟨s0,s1⟩,⟨y0,y1,y2,y3⟩,yf,⟨gw0,gw1,gw2,gw3,gw4,gw5,gw6⟩,gff,l2g,l23,l24,l27,HB3,HB4,HB7,HBG⟩:=do_facts HG0.out HQ.out hW2
 have HIN:=hI (good_in hG.w.things)
 clear hW2 g0 g1 g6 gf
 rw [HSV.out] at gw5
 rcases (show n<0\/(¬n<0/\(G.saves.length:Int)<=n)\/(¬n<0/\¬(G.saves.length:Int)<=n) by omega) with hn|⟨hn,hn8⟩|⟨hn,hn8⟩
 ·have e:=HGR.out
  rw [if_pos (.inl hn)] at e
  simp only [Prod.mk.injEq] at e
  obtain ⟨rfl,rfl⟩:=e
  clear hG hx
  go_upto_region 30 with (fail)
  go_quiet (fail)
  go_upto_region 31 with (fail)
  refine wp_called (λW3 hW3=>?_)
  have K3:Below W2.heap.size W2 W3:=by rw [hW3];first|exact Below.refl _ _|exact (Below.refl _ _).drew|exact below_drewN (Below.refl _ _) _|exact bel9
  have HG3:=hI (HG2.out.below K3)
  have HO3:=hI (HO2.out.more K3)
  have HB43:=hI (HB4.out.below K3 HB4.out.lt)
  have kz3:=K3.size
  clear hW3 x0 x1 x2 x3 x4 x5 x6 x7 x8 x9 x10 x11 x12 x13 x14 x15 x16 s0 s1 gw0 gw1 gw2 gw3 gw4 gw5 gw6 gff y0 y1 y2 y3 yf
  have y0:=HB43.out.cell 0
  have y1:=HB43.out.cell 1
  have y2:=HB43.out.cell 2
  have y3:=HB43.out.cell 3
  have yf:=λi=>HB43.out.free i
  simp at y0 y1 y2 y3
  have l34:=HB43.out.lt
  go_wp2_with (go_at_call 18;go_loud (refine (no_calls _ _).mono ?_;rintro e w6 ⟨rfl,rfl⟩))
  refine bodyPost_ret (results_cell_row rfl _ _ _ _ _ _ _ rfl ((Below.heap_alloc _ _ _ sW).trans (reply_blk HB43.out _ _ _ _)) Tryz.underlying35 rfl kR) rfl ?_
  refine DoPost.more ?_ ((Below.refl _ _).alloc lR _)
  unfold DoPost
  exact do_end (U:=W3) HG3.out HO3.out l34 (Below.refl _ _) (M.no 3) (ids:=.slice none 0 0) (met:=.slice none 0 0) (i0:=undef) (m0:=undef) oN oN (λb e=>by cases e) (λb e=>by cases e) HQ.out _ _ _ _
 ·have e:=HGR.out
  rw [if_pos (.inr hn8)] at e
  simp only [Prod.mk.injEq] at e
  obtain ⟨rfl,rfl⟩:=e
  clear hG hx
  go_upto_region 30 with (fail)
  go_quiet (fail)
  go_upto_region 31 with (fail)
  refine wp_called (λW3 hW3=>?_)
  have K3:Below W2.heap.size W2 W3:=by rw [hW3];first|exact Below.refl _ _|exact (Below.refl _ _).drew|exact below_drewN (Below.refl _ _) _|exact bel9
  have HG3:=hI (HG2.out.below K3)
  have HO3:=hI (HO2.out.more K3)
  have HB43:=hI (HB4.out.below K3 HB4.out.lt)
  have kz3:=K3.size
  clear hW3 x0 x1 x2 x3 x4 x5 x6 x7 x8 x9 x10 x11 x12 x13 x14 x15 x16 s0 s1 gw0 gw1 gw2 gw3 gw4 gw5 gw6 gff y0 y1 y2 y3 yf
  have y0:=HB43.out.cell 0
  have y1:=HB43.out.cell 1
  have y2:=HB43.out.cell 2
  have y3:=HB43.out.cell 3
  have yf:=λi=>HB43.out.free i
  simp at y0 y1 y2 y3
  have l34:=HB43.out.lt
  go_wp2_with (go_at_call 18;go_loud (refine (no_calls _ _).mono ?_;rintro e w6 ⟨rfl,rfl⟩))
  refine bodyPost_ret (results_cell_row rfl _ _ _ _ _ _ _ rfl ((Below.heap_alloc _ _ _ sW).trans (reply_blk HB43.out _ _ _ _)) Tryz.underlying35 rfl kR) rfl ?_
  refine DoPost.more ?_ ((Below.refl _ _).alloc lR _)
  unfold DoPost
  exact do_end (U:=W3) HG3.out HO3.out l34 (Below.refl _ _) (M.no 3) (ids:=.slice none 0 0) (met:=.slice none 0 0) (i0:=undef) (m0:=undef) oN oN (λb e=>by cases e) (λb e=>by cases e) HQ.out _ _ _ _
 ·have e:=HGR.out
  rw [if_neg bO] at e
  simp only [Prod.mk.injEq] at e
  obtain ⟨N,rfl⟩:∃N:Nat,n=(N:Int):=⟨n.toNat,by omega⟩
  have hlt:N<G.saves.length:=by omega
  obtain ⟨d,hd⟩:∃d,G.saves[N]?=some d:=⟨_,List.getElem?_eq_getElem hlt⟩
  rw [show G.saves.getD (N:Int).toNat G.w=d by simp [List.getD,hd]] at e
  obtain ⟨rfl,rfl⟩:=e
  obtain ⟨sb,sc',e2,_,lsb⟩:=own_val HG2.out.own (by show 0<G.saves.length;omega)
  rw [HSV.out] at e2
  simp only [Value.slice.injEq,true_and] at e2
  obtain ⟨rfl,rfl⟩:=e2
  have esv:=HSV.out
  subst esv
  obtain ⟨a8,c8,hr8,v0,v1,v2,v3,v4⟩:=save_cells (G:=more G) HG2.out hd
  have HR8:=hI hr8
  have hcap:G.saves.length<=sc/\sc<=9223372036854775807:=by
   rcases HG2.out.own.2 with ⟨e,_⟩|⟨g',cap',cur,e,_,_,hn,hm,_⟩
   ·simp at e
   ·simp only [Value.slice.injEq,true_and] at e
    obtain ⟨_,rfl⟩:=e
    unfold maxLen at hm
    exact ⟨hn,by omega⟩
  clear hG hx hr8 hd
  go_upto_region 30 with (fail)
  go_quiet (fail)
  go_upto_region 32 with (fail)
  refine wp_called (λW3 hW3=>?_)
  have K3:Below W2.heap.size W2 W3:=by rw [hW3];first|exact Below.refl _ _|exact (Below.refl _ _).drew|exact below_drewN (Below.refl _ _) _|exact bel9
  have HG3:=hI (HG2.out.below K3)
  have HO3:=hI (HO2.out.more K3)
  have HB43:=hI (HB4.out.below K3 HB4.out.lt)
  have HR3:=hI (HR8.out.step K3.size (λb h1 _=>K3.block b h1))
  have kz3:=K3.size
  have v0:=(K3.cell (p:=⟨sb,N*5,none⟩) lsb).trans v0
  have v1:=(K3.cell (p:=⟨sb,N*5+1,none⟩) lsb).trans v1
  have v2:=(K3.cell (p:=⟨sb,N*5+2,none⟩) lsb).trans v2
  have v3:=(K3.cell (p:=⟨sb,N*5+3,none⟩) lsb).trans v3
  have v4:=(K3.cell (p:=⟨sb,N*5+4,none⟩) lsb).trans v4
  have x2:=(K3.cell (p:=⟨w.heap.size,2,none⟩) l23).trans x2
  have bg3:=HBG.out.below K3 HBG.out.lt
  have gw0:=bg3.cell 0
  have gw1:=bg3.cell 1
  have gw2:=bg3.cell 2
  have gw3:=bg3.cell 3
  have gw4:=bg3.cell 4
  have gw5:=bg3.cell 5
  have gff:=λi=>bg3.free i
  simp at gw0 gw1 gw2 gw3 gw4 gw5
  have HBG3:=hI bg3
  clear hW3 K3 bg3
  go_still_tail 11,kR
  go_upto_region 33 with (fail)
  refine wp_called (λW4 hW4=>?_)
  have far:∀b,b≠g->W4.heap[b]?=W3.heap[b]?:=λb hb=>by
   rw [hW4]
   exact ((((bS _ _ _ b hb).trans (bS _ _ _ b hb)).trans (bS _ _ _ b hb)).trans (bS _ _ _ b hb)).trans (bS _ _ _ b hb)
  have hz4:W3.heap.size<=W4.heap.size:=by rw [hW4];simp [World.setCell]
  have HG4:Hid (GameAt W4 (QD Q w) g ({more G with w:=d}) a8 c8 (Value.slice (some ⟨sb,0,none⟩) G.saves.length sc) hs):=hI (HG3.out.upd (G':={more G with w:=d}) hz4 (λb _ _ h=>far b h) (by rw [hW4];exact blk_to (((((HBG3.out.put 0 _).put 1 _).put 2 _).put 3 _).put 4 _) (by rfl)) rfl (HR3.out.step hz4 (λb _ k=>far b k.2.1)))
  have HO4:Hid (Only Q w W4):=hI (by rw [hW4];first|exact (((((HO3.out.setCell (p:=⟨g,0,none⟩) (.inl HG0.out.inQ) _).setCell (p:=⟨g,1,none⟩) (.inl HG0.out.inQ) _).setCell (p:=⟨g,2,none⟩) (.inl HG0.out.inQ) _).setCell (p:=⟨g,3,none⟩) (.inl HG0.out.inQ) _).setCell (p:=⟨g,4,none⟩) (.inl HG0.out.inQ) _).drew|exact ((((HO3.out.setCell (p:=⟨g,0,none⟩) (.inl HG0.out.inQ) _).setCell (p:=⟨g,1,none⟩) (.inl HG0.out.inQ) _).setCell (p:=⟨g,2,none⟩) (.inl HG0.out.inQ) _).setCell (p:=⟨g,3,none⟩) (.inl HG0.out.inQ) _).setCell (p:=⟨g,4,none⟩) (.inl HG0.out.inQ) _)
  have HB44:Hid (Blk W4 (w.heap.size+1) 35 #[.int .i64 0,.int .i64 0,.slice none 0 0,.slice none 0 0]):=hI (by rw [hW4];first|exact (((((HB43.out.far (p:=⟨g,0,none⟩) nl4 _).far (p:=⟨g,1,none⟩) nl4 _).far (p:=⟨g,2,none⟩) nl4 _).far (p:=⟨g,3,none⟩) nl4 _).far (p:=⟨g,4,none⟩) nl4 _).drew|exact ((((HB43.out.far (p:=⟨g,0,none⟩) nl4 _).far (p:=⟨g,1,none⟩) nl4 _).far (p:=⟨g,2,none⟩) nl4 _).far (p:=⟨g,3,none⟩) nl4 _).far (p:=⟨g,4,none⟩) nl4 _)
  clear hW4 far HB43 HG3 HO3 y0 y1 y2 y3 yf
  have HB43:=HB44
  have HG3:=HG4
  have HO3:=HO4
  have y0:=HB43.out.cell 0
  have y1:=HB43.out.cell 1
  have y2:=HB43.out.cell 2
  have y3:=HB43.out.cell 3
  have yf:=λi=>HB43.out.free i
  simp at y0 y1 y2 y3
  have l34:=HB43.out.lt
  go_wp2_with (go_at_call 18;go_loud (refine (no_calls _ _).mono ?_;rintro e w6 ⟨rfl,rfl⟩))
  refine bodyPost_ret (results_cell_row rfl _ _ _ _ _ _ _ rfl ((Below.heap_alloc _ _ _ sW).trans (reply_blk HB43.out _ _ _ _)) Tryz.underlying35 rfl kR) rfl ?_
  refine DoPost.more ?_ ((Below.refl _ _).alloc lR _)
  unfold DoPost
  exact do_end (U:=W4) HG3.out HO3.out l34 (Below.refl _ _) (M.no 0) (ids:=.slice none 0 0) (met:=.slice none 0 0) (i0:=undef) (m0:=undef) oN oN (λb e=>by cases e) (λb e=>by cases e) HQ.out _ _ _ _
end Go.Proofs.YtemkbjaojinaoaaGreat
