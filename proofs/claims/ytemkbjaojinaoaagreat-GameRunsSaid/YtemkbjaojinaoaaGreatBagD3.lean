/- Several small texts in one. No condition of its own: each part says its own. -/
import Derived.Test.YtemkbjaojinaoaaGreatShort
import Derived.Test.YtemkbjaojinaoaaGreatBagH
import Derived.Deep.RegionLaw
import Derived.Test.YtemkbjaojinaoaaGreatBagD1
import Derived.Test.YtemkbjaojinaoaaGreatBagD4
set_option linter.unusedVariables false
set_option linter.unusedSimpArgs false
set_option maxRecDepth 100000
set_option maxHeartbeats 8000000
namespace Go.Proofs.YtemkbjaojinaoaaGreat
open Go.RowKit
theorem infoWorld:(Tryz.prog.info? 53).map (λi=>(i.zero,i.size,i.bytes))=some (some (.agg #[.slice none 0 0,.int .i64 0,.int .i64 0,.int .i64 0,.int .i64 0]),5,56):=by kernel_rfl
theorem do_save {w:World} {Q:Nat->Prop} {g:Nat} {G:M.Game} {a:Option Addr} {c:Nat} {sv:Value} {hs:List Value} (h:GameAt w Q g G a c sv hs) (hq:∀b,Q b->b<w.heap.size) (hG:M.GoodG G) (kind id n mask:Int) (row:M.Row) (box:M.Box) (hk:kind=7) (h0:0<=G.acts) (hlt:G.acts<150) (hx:ActIn ⟨kind,id,n,mask,row,box⟩):
  Calls Tryz.prog 9 #[.pointer (some ⟨g,0,none⟩),actV ⟨kind,id,n,mask,row,box⟩] w (DoPost Q w g (M.doAct G ⟨kind,id,n,mask,row,box⟩).1 (M.doAct G ⟨kind,id,n,mask,row,box⟩).2):=by
 have hres:M.doAct G ⟨kind,id,n,mask,row,box⟩=if 3<=G.saves.length then (more G,M.no 5) else ({more G with saves:=G.saves++[G.w]},⟨0,G.saves.length,[],[]⟩):=by
  unfold M.doAct
  rw [if_neg bO]
  simp only
  rw [if_neg bO,if_neg bO,if_neg bO,if_neg bO,if_neg bO,if_pos hk]
 rw [hres]
 subst hk
 clear hres
 obtain ⟨G',r,hgr⟩:∃G' r,(if 3<=G.saves.length then (more G,M.no 5) else ({more G with saves:=G.saves++[G.w]},⟨0,G.saves.length,[],[]⟩))=(G',r):=⟨_,_,rfl⟩
 rw [hgr]
 have HGR:=hI hgr
 clear hgr
 obtain ⟨sa,sc,esv⟩:=own_form h.own
 have HSV:=hI esv
 have hsl:G.saves.length<=9223372036854775807:=by
  have:=(Lies.of_owns h.own).2.1
  unfold maxLen at this
  omega
 obtain ⟨i0,hi,iz0,iz1,iz2⟩:=info_parts infoWorld
 clear esv
 obtain ⟨HG0,HQ,g0,g1,g6,gf,lg,nl1,nl2,nl3,nl4⟩:=do_first h hq
 clear h hq
 go_enter Tryz.func9,Tryz.ntmps9
 go_upto_region 9 with (fail)
 refine wp_called (λW2 hW2=>?_)
 obtain ⟨HZ2,hz2,HO2,HG2,HNQ,⟨x0,x1,x2,x3,x4,x5,x6,x7,x8,x9,x10,x11,x12,x13,x14,x15,x16⟩,⟨s0,s1⟩,⟨y0,y1,y2,y3⟩,yf,⟨gw0,gw1,gw2,gw3,gw4,gw5,gw6⟩,gff,l2g,l23,l24,l27,HB3,HB4,HB7,HBG⟩:=do_facts HG0.out HQ.out hW2
 have HIN:=hI (good_in hG.w.things)
 clear hW2 g0 g1 g6 gf
 rw [HSV.out] at gw5
 rcases Nat.lt_or_ge G.saves.length 3 with hn|hn
 ·have e:=HGR.out
  rw [if_neg bO] at e
  simp only [Prod.mk.injEq] at e
  obtain ⟨rfl,rfl⟩:=e
  have esv:=HSV.out
  subst esv
  have HNG:Hid ((Value.slice sa G.saves.length sc).ownBlock≠some g):=hI (λe=>(HG2.out.ov g e).2 rfl)
  clear hG hx
  go_upto_region 27 with (fail)
  go_region_law ((refine step_append_own_atK2 rfl (.tmp 109) (.tmp 114) 64 rfl 0 53 i0 _ 5 56 Tryz.underlying64 hi iz0 iz1 iz2 rfl bO (Value.slice sa G.saves.length sc) G.saves.length (saveL G.saves hs) (own_below HG2.out.own (show Below W2.heap.size W2 _ from bel9)) (by rfl) ⟨W2.heap.size,0,none⟩ 1 1 [.slice a G.w.things.tables.length c,.int .i64 G.w.things.next,.int .i64 G.w.fall,.int .i64 G.w.wide,.int .i64 G.w.high] (by rfl) rfl (by intro j u hu;rw [Addr.add_lit];match j,hu with|0,hu=>(simp at hu;subst hu;simp)|1,hu=>(simp at hu;subst hu;simp)|2,hu=>(simp at hu;subst hu;simp)|3,hu=>(simp at hu;subst hu;simp)|4,hu=>(simp at hu;subst hu;simp)|j+5,hu=>simp at hu) (by intro u hu;simp only [List.mem_cons,List.not_mem_nil,or_false] at hu;rcases hu with rfl|rfl|rfl|rfl|rfl<;>rfl) (by unfold maxLen;omega) bO (Nat.zero_le _) ?_);intro v9 w9 hown9 hg9 hat9;obtain ⟨va9,vc9,rfl⟩:=own_form hown9;have HO9:=hI hown9;have HG9:=hI hg9;have HA9:=hI (show (Value.slice va9 (G.saves.length+1) vc9).ownBlock=(Value.slice sa G.saves.length sc).ownBlock\/(Value.slice va9 (G.saves.length+1) vc9).ownBlock=some (W2.heap.size+1) from (by rcases hat9 with q|q;exact .inl q;exact .inr (q.trans sS)));have bg9:Blk w9 g 66 (gameC (.slice a G.w.things.tables.length c) (.slice sa G.saves.length sc) (more G)):=(by first|exact (HG9.out.block g sO (λe=>HNG.out e.symm)).trans (HBG.out.alloc _)|exact (HG9.out.block g sO (λe=>HNG.out e.symm)).trans (HBG.out.drew.alloc _));have gv5:=Blk.cell bg9 5;simp at gv5;have gvf:=(λi=>Blk.free bg9 i);have lv:=Blk.lt bg9;have HBG9:=hI bg9;clear hown9 hg9 hat9 bg9)
  all_goals
   go_upto_region 28 with (fail)
   refine wp_called (λW4 hW4=>?_)
   have far:∀b,b≠g->W4.heap[b]?=w9.heap[b]?:=λb hb=>by
    rw [hW4]
    exact bS _ _ _ b hb
   have hz9:W2.heap.size<w9.heap.size:=by have:=HG9.out.size;simp at this;omega
   have hz4:w9.heap.size<=W4.heap.size:=by rw [hW4];simp [World.setCell]
   have old:∀b,b<W2.heap.size->(Value.slice sa G.saves.length sc).ownBlock≠some b->w9.heap[b]?=W2.heap[b]?:=λb h1 h2=>(HG9.out.block b sO (λe=>h2 e.symm)).trans (Below.heap_alloc _ _ b h1)
   have turn:∀{v:Value} {s:M.Store},Rob W2 (InG (QD Q w) g (.slice sa G.saves.length sc)) v s->Rob W4 (InG (QD Q w) g (Value.slice va9 (G.saves.length+1) vc9)) v s:=λh=>
    ((h.wide (R:=λb=>InG (QD Q w) g (.slice sa G.saves.length sc) b/\b<W2.heap.size) (λb h1 k=>⟨k,h1⟩)).step bO (λb h1 k=>(far b k.1.2.1).trans (old b h1 k.1.2.2))).wide (λb _ k=>⟨k.1.1,k.1.2.1,λe=>by
     rcases HA9.out with q|q
     ·exact k.1.2.2 (q▸e)
     ·rw [q] at e
      simp at e
      have:=k.2
      omega⟩)
   have hlen:=HG2.out.len
   have HG4:Hid (GameAt W4 (QD Q w) g ({more G with saves:=G.saves++[G.w]}) a c (Value.slice va9 (G.saves.length+1) vc9) (hs++[.slice a G.w.things.tables.length c])):=hI (by
    refine ⟨?_,HG2.out.inQ,turn HG2.out.st,?_,?_,?_,?_⟩
    ·rw [hW4];exact blk_to (HBG9.out.put 5 (Value.slice va9 (G.saves.length+1) vc9)) (by rfl)
    ·have e:saveL (G.saves++[G.w]) (hs++[Value.slice a G.w.things.tables.length c])=saveL G.saves hs++[.slice a G.w.things.tables.length c,.int .i64 G.w.things.next,.int .i64 G.w.fall,.int .i64 G.w.wide,.int .i64 G.w.high]:=by
      unfold saveL
      rw [List.zip_append (by exact hlen.symm),List.flatMap_append]
      rfl
     have k:=own_same HO9.out (w':=W4) (λb eb=>far b (λeg=>by
      rcases HA9.out with q|q
      ·exact HNG.out (by rw [←q,eb,eg])
      ·rw [eb] at q
       simp at q
       omega))
     show W4.ownsRow 0 53 5 (Value.slice va9 (G.saves.length+1) vc9) (G.saves++[G.w]).length (saveL (G.saves++[G.w]) (hs++[Value.slice a G.w.things.tables.length c]))
     rw [e,List.length_append]
     exact k
    ·show (hs++_).length=(G.saves++[G.w]).length
     rw [List.length_append,List.length_append]
     have:hs.length=G.saves.length:=hlen
     simp [this]
    ·intro b eb
     rcases HA9.out with q|q
     ·exact HG2.out.ov b (q▸eb)
     ·rw [eb] at q
      simp at q
      exact ⟨⟨.inr bO,by omega⟩,by omega⟩
    ·intro i d v h1 h2
     have hlen':hs.length=G.saves.length:=hlen
     rcases Nat.lt_or_ge i G.saves.length with hi|hi
     ·obtain ⟨a8,c8,e8,r8⟩:=HG2.out.each i d v ((List.getElem?_append_left hi).symm.trans h1) ((List.getElem?_append_left bO).symm.trans h2)
      exact ⟨a8,c8,e8,turn r8⟩
     ·have h1':(G.saves++[G.w])[i]?=some d:=h1
      rw [List.getElem?_append_right hi] at h1'
      rw [List.getElem?_append_right bO] at h2
      have hi0:i=G.saves.length:=by
       have:=(List.getElem?_eq_some_iff.1 h1').1
       simp at this
       omega
      subst hi0
      rw [hlen'] at h2
      simp at h1' h2
      subst h1' h2
      exact ⟨a,c,rfl,turn HG2.out.st⟩)
   have HO4:Hid (Only Q w W4):=hI (by
    refine ⟨?_,?_,?_,by have:=HO2.out.size;omega,λb h1 h2=>(far b (λe=>h2 (e▸HG0.out.inQ))).trans ((old b bO (λe=>h2 (by have k:=(HG0.out.ov b e).1;exact k))).trans (HO2.out.block b h1 h2))⟩
    ·rw [hW4];exact HG9.out.os.trans HO2.out.os
    ·rw [hW4];exact HG9.out.tape.trans HO2.out.tape
    ·rw [hW4];exact HG9.out.output.trans HO2.out.output)
   have HB44:Hid (Blk W4 (w.heap.size+1) 35 #[.int .i64 0,.int .i64 0,.slice none 0 0,.slice none 0 0]):=hI ((far _ nl4).trans ((old _ l24 (λe=>(HG2.out.ov _ e).1.2 rfl)).trans HB4.out))
   have bg4:=HG4.out.blk
   have u5:=bg4.cell 5
   simp at u5
   have lg4:=bg4.lt
   clear hW4 far old turn bg4 gv5 gvf lv y0 y1 y2 y3 yf gw0 gw1 gw2 gw3 gw4 gw5 gw6 gff x0 x1 x2 x3 x4 x5 x6 x7 x8 x9 x10 x11 x12 x13 x14 x15 x16 s0 s1
   have HB43:=HB44
   have HG3:=HG4
   have HO3:=HO4
   have hw1:IntKind.i64.wrap ((G.saves.length:Int)+1-1)=(G.saves.length:Int):=by rw [IntKind.wrap_i64];omega
   have y0:=HB43.out.cell 0
   have y1:=HB43.out.cell 1
   have y2:=HB43.out.cell 2
   have y3:=HB43.out.cell 3
   have yf:=λi=>HB43.out.free i
   simp at y0 y1 y2 y3
   have l34:=HB43.out.lt
   go_wp2_with fail
   refine bodyPost_ret (results_cell_row rfl _ _ _ _ _ _ _ rfl (reply_blk HB43.out _ _ _ _) Tryz.underlying35 rfl kR) rfl ?_
   unfold DoPost
   exact do_end (U:=W4) HG3.out HO3.out l34 (Below.refl _ _) ⟨0,(G.saves.length:Int),[],[]⟩ (ids:=.slice none 0 0) (met:=.slice none 0 0) (i0:=undef) (m0:=undef) oN oN (λb e=>by cases e) (λb e=>by cases e) HQ.out _ _ _ _
 ·have e:=HGR.out
  rw [if_pos hn] at e
  simp only [Prod.mk.injEq] at e
  obtain ⟨rfl,rfl⟩:=e
  clear hG hx
  go_upto_region 26 with (fail)
  refine wp_called (λW3 hW3=>?_)
  have K3:Below W2.heap.size W2 W3:=by rw [hW3];first|exact Below.refl _ _|exact (Below.refl _ _).drew|exact below_drewN (Below.refl _ _) _|exact bel9
  have HG3:=hI (HG2.out.below K3)
  have HO3:=hI (HO2.out.more K3)
  have HB43:=hI (HB4.out.below K3 HB4.out.lt)
  have kz3:=K3.size
  clear hW3 x0 x1 x2 x3 x4 x5 x6 x7 x8 x9 x10 x11 x12 x13 x14 x15 x16 s0 s1 gw0 gw1 gw2 gw3 gw4 gw5 gw6 gff y0 y1 y2 y3 yf
  have y0:=HB43.out.cell 0
  have y1:=HB43.out.cell 1
  have y2:=HB43.out.cell 2
  have y3:=HB43.out.cell 3
  have yf:=λi=>HB43.out.free i
  simp at y0 y1 y2 y3
  have l34:=HB43.out.lt
  go_wp2_with (go_at_call 18;go_loud (refine (no_calls _ _).mono ?_;rintro e w6 ⟨rfl,rfl⟩))
  refine bodyPost_ret (results_cell_row rfl _ _ _ _ _ _ _ rfl ((Below.heap_alloc _ _ _ sW).trans (reply_blk HB43.out _ _ _ _)) Tryz.underlying35 rfl kR) rfl ?_
  refine DoPost.more ?_ ((Below.refl _ _).alloc lR _)
  unfold DoPost
  exact do_end (U:=W3) HG3.out HO3.out l34 (Below.refl _ _) (M.no 5) (ids:=.slice none 0 0) (met:=.slice none 0 0) (i0:=undef) (m0:=undef) oN oN (λb e=>by cases e) (λb e=>by cases e) HQ.out _ _ _ _
theorem do_calls {w:World} {Q:Nat->Prop} {g:Nat} {G:M.Game} {a:Option Addr} {c:Nat} {sv:Value} {hs:List Value} (h:GameAt w Q g G a c sv hs) (hq:∀b,Q b->b<w.heap.size) (hG:M.GoodG G) (x:M.Act) (h0:0<=G.acts) (hx:ActIn x):
  Calls Tryz.prog 9 #[.pointer (some ⟨g,0,none⟩),actV x] w (DoPost Q w g (M.doAct G x).1 (M.doAct G x).2):=by
 rcases Int.lt_or_le G.acts 150 with hlt|hge
 ·obtain ⟨kind,id,n,mask,row,box⟩:=x
  rcases (show kind=1\/kind=2\/kind=3\/kind=4\/kind=5\/kind=6\/kind=7\/kind=8\/kind=9\/(kind<1\/9<kind) by omega) with e|e|e|e|e|e|e|e|e|e
  ·exact do_spawn h hq hG kind id n mask row box e h0 hlt hx
  ·exact do_kill h hq hG kind id n mask row box e h0 hlt hx
  ·exact do_give h hq hG kind id n mask row box e h0 hlt hx
  ·exact do_take h hq hG kind id n mask row box e h0 hlt hx
  ·exact do_kick h hq hG kind id n mask row box e h0 hlt hx
  ·exact do_step h hq hG kind id n mask row box e h0 hlt hx
  ·exact do_save h hq hG kind id n mask row box e h0 hlt hx
  ·exact do_load h hq hG kind id n mask row box e h0 hlt hx
  ·exact do_look h hq hG kind id n mask row box e h0 hlt hx
  ·exact do_other h hq hG kind id n mask row box e h0 hlt
 ·exact do_full h hq hG x hge
end Go.Proofs.YtemkbjaojinaoaaGreat
