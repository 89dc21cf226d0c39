/- Several small texts in one. No condition of its own: each part says its own. -/
import Derived.Test.YtemkbjaojinaoaaGreatShort
import Derived.Test.YtemkbjaojinaoaaGreatBagH
import Derived.Test.YtemkbjaojinaoaaGreatBagO
import Derived.Test.YtemkbjaojinaoaaGreatBagX9
import Derived.Maps.AppendAt
import Derived.Laws.Rows
import Derived.Test.YtemkbjaojinaoaaGreatBagD3
import Derived.Test.YtemkbjaojinaoaaGreatBagP
import Derived.Test.YtemkbjaojinaoaaGreatKit
import Derived.Deep.DeepCutAuto
set_option linter.unusedVariables false
set_option linter.unusedSimpArgs false
set_option maxRecDepth 100000
set_option maxHeartbeats 8000000
namespace Go.Proofs.YtemkbjaojinaoaaGreat
open Go.RowKit
abbrev worldC (vt:Value) (d:M.Wd):Array Value:=#[vt,.int .i64 d.things.next,.int .i64 d.fall,.int .i64 d.wide,.int .i64 d.high]
theorem world5_blk {U:World} {b:Nat} {z0 z1 z2 z3 z4:Value} (h:Blk U b 53 #[z0,z1,z2,z3,z4]) (c0 c1 c2 c3 c4:Value):
  (((((U.setCell ⟨b,0,none⟩ c0).setCell ⟨b,1,none⟩ c1).setCell ⟨b,2,none⟩ c2).setCell ⟨b,3,none⟩ c3).setCell ⟨b,4,none⟩ c4).heap[b]?=some (.cells #[c0,c1,c2,c3,c4] 53 (0,0)):=
 blk_to (((((h.put 0 c0).put 1 c1).put 2 c2).put 3 c3).put 4 c4) (by rfl)
theorem copied_calls {w:World} {lo:Nat} {a:Option Addr} {c:Nat} {d:M.Wd} (h:StoreAt w lo (stV a c d.things) d.things) (hg:M.GoodS d.things):
  Calls Tryz.prog 36 #[.agg (worldC (.slice a d.things.tables.length c) d)] w λe w'=>∃a' c' hs',e=.returned (.agg (worldC (.slice a' d.things.tables.length c') d))/\OwnTabs w' w.heap.size (.slice a' d.things.tables.length c') d.things.tables hs'/\Below w.heap.size w w':=by
 obtain ⟨vt0,ev,hs0,hT⟩:=h
 obtain rfl:vt0=.slice a d.things.tables.length c:=by simpa using ev.symm
 have hs:=(good_bounds hg).short
 have hmx:d.things.tables.length<=9223372036854775807:=by have:=hT.max;unfold maxLen at this;omega
 have hfew:d.things.tables.length*56<=140737488355328:=hs.1
 have HT:=hI hT
 have HSH:=hI hs
 obtain ⟨i0,hi,hz0,hz1,hz2⟩:=info_parts infoTable
 have HI:=hI (And.intro hi (And.intro hz0 (And.intro hz1 hz2)))
 clear hT hs ev hg hi hz0 hz1 hz2
 go_enter Tryz.func36,Tryz.ntmps36
 go_wp2_with fail
 refine wp_called (λws hws=>?_)
 have KS:Below w.heap.size w ws:=by rw [hws];exact bel9
 have hzs:ws.heap.size=w.heap.size+2:=by rw [hws];simp [World.setCell]
 have B0:Blk ws w.heap.size 53 (worldC (.slice none 0 0) d):=by
  rw [hws]
  apply blk_to
  ·exact (Blk.new_at rfl).alloc _
  ·rfl
 have B1:Blk ws (w.heap.size+1) 53 #[.slice none 0 0,.int .i64 0,.int .i64 0,.int .i64 0,.int .i64 0]:=by
  rw [hws]
  apply blk_to
  ·exact Blk.new_at sS
  ·rfl
 clear hws
 go_loopg [13] d.things.tables.length (λgh i wr=>∃(n:Nat) (hs':List (Value×Value)) (a':Option Addr) (c':Nat),n<=d.things.tables.length/\i=.int .i64 n/\gh=d.things.tables.length-n/\OwnTabs wr (w.heap.size+2) (.slice a' n c') (d.things.tables.take n) hs'/\Blk wr w.heap.size 53 (worldC (.slice a' n c') d)/\Blk wr (w.heap.size+1) 53 #[.slice none 0 0,.int .i64 0,.int .i64 0,.int .i64 0,.int .i64 0]/\Below w.heap.size w wr)
 case atStart=>exact ⟨0,[],none,0,Nat.zero_le _,rfl,rfl,OwnTabs.nil _ _,B0,B1,KS⟩
 case round=>
  obtain ⟨wo,hwo⟩:∃wo,wo=wr:=⟨_,rfl⟩
  subst hwo
  obtain ⟨n,hs',a',c',hn,rfl,hgk,hown,hb0,hb1,hbl⟩:=hrel
  have HG:=hI hgk
  have HO:=hI hown
  have HB0:=hI hb0
  have HB1:=hI hb1
  have HB:=hI hbl
  have l0:=hb0.lt
  have l1:=hb1.lt
  clear hgk hown hb0 hb1 hbl KS B0 B1
  rcases Nat.lt_or_ge n d.things.tables.length with hlt|hge
  ·obtain ⟨t,ht⟩:∃t,d.things.tables[n]?=some t:=⟨_,List.getElem?_eq_getElem hlt⟩
   obtain ⟨b,o,cap',a1,cp1,a2,cp2,e,hlo,hp,c0,c1,c2,h1,h2⟩:=(HT.out.below HB.out).at2 ht
   obtain ⟨rfl,rfl⟩:a=some ⟨b,o,none⟩/\c=cap':=by simpa using e
   obtain ⟨⟨ne1,ne2⟩,sz1,sz2⟩:=HSH.out.2 t (List.mem_of_getElem? ht)
   have L1:Hid (0<t.ids.length):=hI (List.length_pos_iff.2 ne1)
   have L2:Hid (0<t.rows.length):=hI (List.length_pos_iff.2 ne2)
   have HHT:=hI ht
   have HH1:=hI h1
   have HH2:=hI h2
   clear e hlo hp h1 h2 ht
   go_upto_region 6 with fail
   obtain ⟨wl,hwl⟩:∃wl,wl=wo.alloc (.cells #[.int .i64 t.mask,.slice a1 t.ids.length cp1,.slice a2 t.rows.length cp2] 102):=⟨_,rfl⟩
   rw [←hwl]
   have BT:Blk wl wo.heap.size 102 #[.int .i64 t.mask,.slice a1 t.ids.length cp1,.slice a2 t.rows.length cp2]:=by rw [hwl];exact Blk.new_at rfl
   have HBT:=hI BT
   have HKL:Hid (Below wo.heap.size wo wl):=hI (by rw [hwl];exact bel9)
   have kl:=HKL.out.size
   have CI:=hI (λW (hb:Below wl.heap.size wl W)=>clone_ints ((HH1.out.below HKL.out).below hb) ne1 sz1)
   have CR:=hI (λW (hb:Below wl.heap.size wl W)=>clone_rows ((HH2.out.below HKL.out).below hb) ne2 sz2)
   have T1:=BT.cell 1
   have T2:=BT.cell 2
   have TF:=λj=>BT.free j
   have lt7:=BT.lt
   simp at T1 T2
   clear hwl c0 c1 c2 ne1 ne2 sz1 sz2 BT
   go_region_with (first|(go_at_call 65;refine (CI.out _ bel9).mono ?_;rintro e w5 ⟨v1,rfl,hr1,hb5⟩;obtain ⟨gi,ci,rfl,hgi,hgi2⟩:=own_val hr1 L1.out;have hz5:=hb5.size;(try simp only [World.size_alloc,World.size_drew] at hz5 hgi);have hb5':Below wl.heap.size wl w5:=(show Below wl.heap.size wl _ from bel9).trans (hb5.mono (by first|exact Nat.le_refl _|(simp;done)|(simp;omega)|omega));have S15:=below_cell T1 hb5';have S25:=below_cell T2 hb5';have SF5:=(λj=>(hb5'.frozen (p:=⟨wo.heap.size,j,none⟩) sO).trans (TF j)))|(go_at_call 66;refine (CR.out _ bel9).mono ?_;rintro e w6 ⟨v2,rfl,hr2,hb6⟩;obtain ⟨gr,cr,rfl,hgr,hgr2⟩:=own_val hr2 L2.out;have hz6:=hb6.size;(try simp only [World.size_alloc,World.size_drew] at hz6 hgr);have hb6':Below wl.heap.size wl w6:=(show Below wl.heap.size wl _ from bel9).trans (hb6.mono (by first|exact Nat.le_refl _|(simp;done)|(simp;omega)|omega));have S16:=below_cell T1 hb6';have S26:=below_cell T2 hb6';have SF6:=(λj=>(hb6'.frozen (p:=⟨wo.heap.size,j,none⟩) sO).trans (TF j))))
   all_goals
    go_upto_region 7 with (fail)
    refine wp_called (λW3 hW3=>?_)
    have K3:Below wo.heap.size wo W3:=by rw [hW3];exact ((HKL.out.trans (hb6'.mono kl)).setCell (by first|omega|(simp;done)) _).setCell (by first|omega|(simp;done)) _
    have bt3:Blk W3 wo.heap.size 102 #[.int .i64 t.mask,.slice (some ⟨gi,0,none⟩) t.ids.length ci,.slice (some ⟨gr,0,none⟩) t.rows.length cr]:=by
     rw [hW3]
     apply blk_to
     ·exact ((HBT.out.below hb6' HBT.out.lt).put _ _).put _ _
     ·rfl
    have HK3:=hI K3
    have kz3:=K3.size
    have far3:∀g,g≠wo.heap.size->W3.heap[g]?=w6.heap[g]?:=by
     intro g hg
     rw [hW3,bS _ _ _ _ hg,bS _ _ _ _ hg]
    have z3:W3.heap.size=w6.heap.size:=by rw [hW3];simp [World.setCell]
    have fgi:∀g,(Value.slice (some ⟨gi,0,none⟩) t.ids.length ci).ownBlock=some g->g≠wo.heap.size:=by
     intro g hg
     have:g=gi:=by simpa [Value.ownBlock] using hg.symm
     omega
    have fgr:∀g,(Value.slice (some ⟨gr,0,none⟩) t.rows.length cr).ownBlock=some g->g≠wo.heap.size:=by
     intro g hg
     have:g=gr:=by simpa [Value.ownBlock] using hg.symm
     omega
    have HR1:Hid (W3.ownsRow wl.heap.size 3 1 (.slice (some ⟨gi,0,none⟩) t.ids.length ci) t.ids.length (t.ids.map (Value.int .i64))):=hI (own_same (own_lower (own_below hr1 (by first|exact hb6|exact hb6')) sid9) (λg hg=>far3 g (fgi g hg)))
    have HR2:Hid (W3.ownsRow wl.heap.size 38 8 (.slice (some ⟨gr,0,none⟩) t.rows.length cr) t.rows.length (t.rows.flatMap rowL)):=hI (own_same (own_lower hr2 sid9) (λg hg=>far3 g (fgr g hg)))
    have ngg:¬gi=gr:=by omega
    have HB03:=hI (HB0.out.below K3 HB0.out.lt)
    have HB13:=hI (HB1.out.below K3 HB1.out.lt)
    have HO3:=hI (HO.out.same lR (λg _ h2=>K3.block g h2))
    have HOB:Hid (∀g,(Value.slice a' n c').ownBlock=some g->w.heap.size+2<=g/\g<wo.heap.size):=hI (λg e=>HO.out.row.lt g e)
    have lgi:gi<W3.heap.size:=by omega
    have lgr:gr<W3.heap.size:=by omega
    have p0:=HB03.out.cell 0
    simp at p0
    have q0:=bt3.cell 0
    have q1:=bt3.cell 1
    have q2:=bt3.cell 2
    simp at q0 q1 q2
    have lq:=bt3.lt
    have htl:(d.things.tables.take n).length=n:=by rw [List.length_take];omega
    have HTL:=hI htl
    have HROW:Hid (W3.ownsRow (w.heap.size+2) 102 3 (.slice a' n c') n (tabL (d.things.tables.take n) hs')):=hI (by
     have:=HO3.out.row
     rw [htl] at this
     exact this)
    clear fgi fgr hW3 K3 bt3 far3 z3 hr1 hb5 hb5' hr2 hb6 hb6' S15 S25 SF5 S16 S26 SF6 htl T1 T2 TF
    go_wp2_with (at_builtin;refine wpList_append_own_at _ rfl (.tmp 27) (.tmp 29) _ rfl (w.heap.size+2) 102 i0 _ 3 56 Tryz.underlying49 HI.out.1 HI.out.2.1 HI.out.2.2.1 HI.out.2.2.2 rfl bO _ n _ rfl (own_below HROW.out (show Below W3.heap.size W3 _ from bel9)) ⟨W3.heap.size,0,none⟩ 1 1 [.int .i64 t.mask,.slice (some ⟨gi,0,none⟩) t.ids.length ci,.slice (some ⟨gr,0,none⟩) t.rows.length cr] rfl rfl (by intro j u hu;rw [Addr.add_lit];match j,hu with|0,hu=>(simp at hu;subst hu;simp)|1,hu=>(simp at hu;subst hu;simp)|2,hu=>(simp at hu;subst hu;simp)|j+3,hu=>simp at hu) (by intro u hu;simp at hu;rcases hu with rfl|rfl|rfl<;>rfl) (by unfold maxLen;omega) bO sO ?_;intro v9 w9 hown9 hg9 _ hat9;obtain ⟨a9,c9,rfl⟩:=own_form hown9;have HO9:=hI hown9;have HG9:=hI hg9;have HA9:=hI hat9;have b09:=Blk.grown (HB03.out.alloc _) hg9 (λe=>by have:=HOB.out _ e;omega);have HB09:=hI b09;have u0:=b09.cell 0;have uf:=(λi=>b09.free i);simp at u0;have lu:=b09.lt;clear hown9 hg9 hat9 b09)
    go_roundg (d.things.tables.length-(n+1))
    case measure=>rw [HG.out];omega
    case rel=>
     refine ⟨n+1,hs'++[(.slice (some ⟨gi,0,none⟩) t.ids.length ci,.slice (some ⟨gr,0,none⟩) t.rows.length cr)],a9,c9,by omega,by go_num,rfl,?_,?_,?_,?_⟩
     ·rw [show d.things.tables.take (n+1)=d.things.tables.take n++[t] by rw [List.take_add_one,HHT.out];rfl]
      have same9:∀g,g<W3.heap.size->(Value.slice a' n c').ownBlock≠some g->w9.heap[g]?=W3.heap[g]?:=λg h1 h2=>(HG9.out.block g sO (λe=>h2 e.symm)).trans (Below.heap_alloc _ _ g h1)
      refine HO.out.snoc ?_ ?_ ?_ ?_ ?_ ?_ ?_ ?_
      ·rw [HTL.out]
       exact own_same HO9.out (λg e=>bS _ _ _ _ (by have:=(HO9.out.lt g e).1;simp;omega))
      ·intro g h1 h2 h3
       exact (bS _ _ _ _ sO).trans ((same9 g bO h3).trans (HK3.out.block g h2))
      ·refine own_lower (own_same HR1.out (λg e=>?_)) bO
       have eg:g=gi:=by simpa [Value.ownBlock] using e.symm
       exact (bS _ _ _ _ sO).trans (same9 g bO (λe=>by have:=HOB.out g e;omega))
      ·refine own_lower (own_same HR2.out (λg e=>?_)) bO
       have eg:g=gr:=by simpa [Value.ownBlock] using e.symm
       exact (bS _ _ _ _ sO).trans (same9 g bO (λe=>by have:=HOB.out g e;omega))
      ·intro g e
       have eg:g=gi:=by simpa [Value.ownBlock] using e.symm
       omega
      ·intro g e
       have eg:g=gr:=by simpa [Value.ownBlock] using e.symm
       omega
      ·intro g e1 e2
       have eg:g=gi:=by simpa [Value.ownBlock] using e1.symm
       have eg:g=gr:=by simpa [Value.ownBlock] using e2.symm
       omega
      ·rcases HA9.out with k|k
       ·exact .inl k
       ·refine .inr ⟨_,k,by simp;omega,λe=>?_,λe=>?_⟩
        ·simp [Value.ownBlock] at e
         omega
        ·simp [Value.ownBlock] at e
         omega
     ·exact blk_to (HB09.out.put 0 _) (by rfl)
     ·exact (Blk.grown (HB13.out.alloc _) HG9.out (λe=>by have:=HOB.out _ e;omega)).far sS _
     ·refine ((HB.out.trans (HK3.out.mono bO)).alloc bO _|>.grown HG9.out sO (λk hk=>by have:=HOB.out k hk;omega)).setCell sS _
  ·obtain rfl:n=d.things.tables.length:=by omega
   have q9:decide ((d.things.tables.length:Int)<(d.things.tables.length:Int))=false:=decide_eq_false bO
   have p0:=HB0.out.cell 0
   have p1:=HB0.out.cell 1
   have p2:=HB0.out.cell 2
   have p3:=HB0.out.cell 3
   have p4:=HB0.out.cell 4
   have r0:=HB1.out.cell 0
   have r1:=HB1.out.cell 1
   have r2:=HB1.out.cell 2
   have r3:=HB1.out.cell 3
   have r4:=HB1.out.cell 4
   have rf:=λi=>HB1.out.free i
   simp at p0 p1 p2 p3 p4 r0 r1 r2 r3 r4
   go_wp2_with fail
   refine bodyPost_ret (results_cell_row rfl _ _ _ _ _ _ _ rfl (world5_blk HB1.out _ _ _ _ _) Tryz.underlying53 rfl kR) rfl ?_
   refine ⟨a',c',hs',rfl,?_,?_⟩
   ·have:=HO.out
    rw [List.take_length] at this
    refine this.same bO (λg h1 h2=>?_)
    rw [bS _ _ _ _ sO,bS _ _ _ _ sO,bS _ _ _ _ sO,bS _ _ _ _ sO,bS _ _ _ _ sO]
   ·have hbl:=HB.out
    exact bel9
theorem gworld_calls {w:World} {Q:Nat->Prop} {g:Nat} {G:M.Game} {a:Option Addr} {c:Nat} {sv:Value} {hs:List Value} (h:GameAt w Q g G a c sv hs) (hG:M.GoodG G):
  Calls Tryz.prog 12 #[.pointer (some ⟨g,0,none⟩)] w λe w'=>∃a' c' hs',e=.returned (.agg (worldC (.slice a' G.w.things.tables.length c') G.w))/\OwnTabs w' (w.heap.size+1) (.slice a' G.w.things.tables.length c') G.w.things.tables hs'/\Below w.heap.size w w':=by
 have HC:=hI (λU (hb:Below w.heap.size w U)=>copied_calls (h.st.at_.below hb) hG.w.things)
 have g0:=h.blk.cell 0
 have g1:=h.blk.cell 1
 have g2:=h.blk.cell 2
 have g3:=h.blk.cell 3
 have g4:=h.blk.cell 4
 have lg:=h.blk.lt
 simp at g0 g1 g2 g3 g4
 have ng1:¬g=w.heap.size:=by omega
 have ng2:¬w.heap.size=g:=by omega
 clear h hG
 go_enter Tryz.func12,Tryz.ntmps12
 go_wp2_with (go_at_call 36;go_loud (refine (HC.out _ bel9).mono ?_;rintro e w1 ⟨a1,c1,hs1,rfl,ho1,hb1⟩;have HO1:=hI ho1;have K1:Below w.heap.size w w1:=(show Below w.heap.size w _ from bel9).trans (hb1.mono sid9);have hz1:=hb1.size;(try simp at hz1);have bz:Blk w1 w.heap.size 53 #[.slice none 0 0,.int .i64 0,.int .i64 0,.int .i64 0,.int .i64 0]:=Blk.below (Blk.new_at rfl) hb1 sid9;have HBZ:=hI bz;have r0:=bz.cell 0;have r1:=bz.cell 1;have r2:=bz.cell 2;have r3:=bz.cell 3;have r4:=bz.cell 4;have rf:=(λi=>bz.free i);have lz:=bz.lt;simp at r0 r1 r2 r3 r4;clear ho1 bz))
 refine bodyPost_ret (results_cell_row rfl _ _ _ _ _ _ _ rfl (world5_blk HBZ.out _ _ _ _ _) Tryz.underlying53 rfl kR) rfl ?_
 refine ⟨a1,c1,hs1,rfl,?_,?_⟩
 ·refine (show OwnTabs w1 (w.heap.size+1) _ _ _ from by simpa using HO1.out).same lR (λg h1 h2=>?_)
  rw [bS _ _ _ _ sO,bS _ _ _ _ sO,bS _ _ _ _ sO,bS _ _ _ _ sO,bS _ _ _ _ sO]
 ·exact bel9
theorem OwnTabs.at_ {w:World} {base:Nat} {a:Option Addr} {c:Nat} {s:M.Store} {hs:List (Value×Value)} (h:OwnTabs w base (.slice a s.tables.length c) s.tables hs):StoreAt w base (stV a c s) s:=⟨_,rfl,hs,h.tabs⟩
theorem GameAt.behind {w W:World} {Q:Nat->Prop} {g:Nat} {G:M.Game} {a:Option Addr} {c:Nat} {sv:Value} {hs:List Value} (h:GameAt w Q g G a c sv hs) (hb:Below w.heap.size w W):GameAt W (λb=>Q b/\b<w.heap.size) g G a c sv hs:=
 (h.wide (λb hb q=>⟨q,hb⟩)).below hb
theorem in_act14:ActIn ⟨1,0,0,11,M.row14 500,M.box14⟩:=by
 simp only [ActIn,I64,RowOk,M.row14,M.box14];omega
theorem in_act14b:ActIn ⟨6,0,2,0,M.row0,M.box14⟩:=by
 simp only [ActIn,I64,RowOk,M.row0,M.box14];omega
theorem field_things (v0 v1 v2 v3 v4:Value) (W:World):(Instr.field 53 (.agg #[v0,v1,v2,v3,v4]) 0).run Tryz.prog W=.ok (.agg #[v0,v1]) W:=by kernel_rfl
theorem lalive_calls (w:World):Calls Tryz.prog 7 #[] w λe w'=>e=.returned (.bool true)/\Below w.heap.size w w':=by
 have HN:=hI (λW=>new_calls 1000 1000 0 W dC)
 have HD1:=hI (λ(W:World) (Q:Nat->Prop) (g:Nat) a c sv hs (h:GameAt W Q g M.new14 a c sv hs) hq=>do_calls h hq M.goodG14 ⟨1,0,0,11,M.row14 500,M.box14⟩ dC in_act14)
 rw [M.alive1] at HD1
 have gg1:M.GoodG (M.game14 500 1):=by
  have:=M.doAct_good M.goodG14 ⟨1,0,0,11,M.row14 500,M.box14⟩
  rw [M.alive1] at this
  exact this
 have HD2:=hI (λ(W:World) (Q:Nat->Prop) (g:Nat) a c sv hs (h:GameAt W Q g (M.game14 500 1) a c sv hs) hq=>do_calls h hq gg1 ⟨6,0,2,0,M.row0,M.box14⟩ dC in_act14b)
 rw [M.alive2] at HD2
 have gg2:M.GoodG (M.game14 514 2):=by
  have:=M.doAct_good gg1 ⟨6,0,2,0,M.row0,M.box14⟩
  rw [M.alive2] at this
  exact this
 have HG2:=hI gg2
 have FT:=field_things
 clear gg1 gg2
 go_enter Tryz.func7,Tryz.ntmps7
 go_upto_region 4 with (go_at_call 5;go_loud (refine (HN.out _).mono ?_;rintro e w1 ⟨g,rfl,hg1,hb1⟩;have HGA1:=hI hg1;have K1:=hb1;have kz1:=hb1.size;have lg1:=hg1.blk.lt;clear hg1 hb1))
 go_upto_region 5 with (go_at_call 9;go_loud (refine (HD1.out _ _ _ _ _ _ _ HGA1.out (λb q=>q.2)).mono ?_;rintro e w2 ⟨a2,c2,sv2,hs2,ids2,met2,rfl,hga2,hon2,hid2,hmet2⟩;obtain ⟨ai2,ci2,rfl⟩:=own_form hid2;obtain ⟨am2,cm2,rfl⟩:=own_form hmet2;have HGA2:=hI hga2;have HON2:=hI hon2;have K2:Below w.heap.size w w2:=K1.trans (hon2.below kz1 (λb q=>q.1));have kz2:=hon2.size;clear hga2 hon2 hid2 hmet2))
 refine wp_called (λW3 hW3=>?_)
 have B3:Blk W3 w2.heap.size 35 #[.int .i64 0,.int .i64 0,.slice ai2 0 ci2,.slice am2 0 cm2]:=by rw [hW3];exact Blk.new_at rfl
 have K23:Below w2.heap.size w2 W3:=by rw [hW3];exact bel9
 have K3:Below w.heap.size w W3:=K2.trans (K23.mono K2.size)
 have HG3:=hI (HGA2.out.behind K23)
 have kz3:=K23.size
 have lb3:=B3.lt
 have HB3:=hI B3
 have HK3:=hI K3
 clear hW3 K23 B3 K1 K2 K3
 go_upto_region 6 with (go_at_call 9;go_loud (refine (HD2.out _ _ _ _ _ _ _ HG3.out (λb q=>by have:=q.2;omega)).mono ?_;rintro e w4 ⟨a4,c4,sv4,hs4,ids4,met4,rfl,hga4,hon4,hid4,hmet4⟩;obtain ⟨ai4,ci4,rfl⟩:=own_form hid4;obtain ⟨am4,cm4,rfl⟩:=own_form hmet4;have HGA4:=hI hga4;have HON4:=hI hon4;clear hga4 hon4 hid4 hmet4))
 refine wp_called (λW5 hW5=>?_)
 have B5:Blk W5 w4.heap.size 35 #[.int .i64 0,.int .i64 0,.slice ai4 0 ci4,.slice am4 0 cm4]:=by rw [hW5];exact Blk.new_at rfl
 have K45:Below w4.heap.size w4 W5:=by rw [hW5];exact bel9
 have B34:Blk w4 w2.heap.size 35 #[.int .i64 0,.int .i64 0,.slice ai2 0 ci2,.slice am2 0 cm2]:=(HON4.out.block _ HB3.out.lt (λq=>by have:=q.2;omega)).trans HB3.out
 have K4:Below w.heap.size w w4:=HK3.out.trans (HON4.out.below HK3.out.size (λb q=>by
  rcases q.1.1 with k|k
  ·exact k.1
  ·omega))
 have K5:Below w.heap.size w W5:=K4.trans (K45.mono K4.size)
 have B35:=B34.below K45 B34.lt
 have HG5:=hI (HGA4.out.behind K45)
 have HW5:=hI (λU (hb:Below W5.heap.size W5 U)=>gworld_calls (HG5.out.below hb) HG2.out)
 have HB5:=hI B5
 have HB35:=hI B35
 have lb5:=B5.lt
 have lb35:=B35.lt
 have kz5:=K5.size
 have HK5:=hI K5
 clear hW5 B5 K45 B34 K4 B35 HGA4 K5
 go_wp2_with (first|(go_at_call 12;go_loud (refine (HW5.out _ (Below.refl _ _)).mono ?_;rintro e w6 ⟨a6,c6,hs6,rfl,ho6,hb6⟩;have HO6:=hI ho6;have kz6:=hb6.size;have HB6:=hI hb6;clear ho6 hb6))|(go_at_call 17;go_loud (refine (get_calls (w:=w6) (s:=(M.game14 514 2).w.things) (HO6.out.at_.mono (Nat.zero_le _)) 0).mono ?_;rw [M.alive3];rintro e w7 ⟨rfl,hb7⟩;have hz7:=hb7.size;have K57:Below W5.heap.size W5 w7:=HB6.out.trans (hb7.mono kz6);have b37:=HB35.out.below K57 HB35.out.lt;have b57:=HB5.out.below K57 HB5.out.lt;have u0:=b37.cell 0;have u1:=b57.cell 0;simp at u0 u1;have l37:=b37.lt;have l57:=b57.lt)))
 go_ret
 exact ⟨rfl,HK5.out.trans (Below.mono (B':=w.heap.size) (show Below W5.heap.size W5 _ from bel9) kz5)⟩
section
variable {w W:World} {Q R:Nat->Prop} {g:Nat} {G:M.Game} {a:Option Addr} {c:Nat} {sv:Value} {hs:List Value}
theorem GameAt.only (h:GameAt w Q g G a c sv hs) (ho:Only R w W) (hd:∀b,Q b->¬R b):GameAt W Q g G a c sv hs:=h.keep ho.size (λb h1 q=>ho.block b h1 (hd b q))
theorem Blk.only {b:Nat} {t:TypeId} {cs:Array Value} (h:Blk w b t cs) (ho:Only R w W) (hd:¬R b):Blk W b t cs:=(ho.block b h.lt hd).trans h
theorem own_only {base:Nat} {e:TypeId} {k n:Nat} {v:Value} {xs:List Value} (h:w.ownsRow base e k v n xs) (ho:Only R w W) (hd:∀b,R b->v.ownBlock≠some b):W.ownsRow base e k v n xs:=
 own_same h (λb e=>ho.block b (h.lt b e).2 (λr=>hd b r e))
end
def DoPost2 (Q:Nat->Prop) (w:World) (g:Nat) (G':M.Game) (r:M.Reply) (e:Ending) (w':World):Prop:=
 ∃(ai:Option Addr) (ci:Nat) (am:Option Addr) (cm:Nat) (Q':Nat->Prop) (a:Option Addr) (c:Nat) (sv:Value) (hs:List Value),e=.returned (replyV r (.slice ai r.ids.length ci) (.slice am r.met.length cm))/\GameAt w' Q' g G' a c sv hs/\
  (∀b,Q' b->(Q b\/w.heap.size<=b)/\b<w'.heap.size/\(Value.slice ai r.ids.length ci).ownBlock≠some b/\(Value.slice am r.met.length cm).ownBlock≠some b)/\Only Q w w'/\
  w'.ownsRow w.heap.size 3 1 (.slice ai r.ids.length ci) r.ids.length (r.ids.map (Value.int .i64))/\w'.ownsRow w.heap.size 71 2 (.slice am r.met.length cm) r.met.length (r.met.flatMap pairL)
theorem do_calls2 {w:World} {Q:Nat->Prop} {g:Nat} {G:M.Game} {a:Option Addr} {c:Nat} {sv:Value} {hs:List Value} (h:GameAt w Q g G a c sv hs) (hq:∀b,Q b->b<w.heap.size) (hG:M.GoodG G) {x:M.Act} (h0:0<=G.acts) (hx:ActIn x) {G':M.Game} {r:M.Reply} (hd:M.doAct G x=(G',r)):
  Calls Tryz.prog 9 #[.pointer (some ⟨g,0,none⟩),actV x] w (DoPost2 Q w g G' r):=by
 have k:=do_calls h hq hG x h0 hx
 rw [hd] at k
 refine k.mono ?_
 rintro e w' ⟨a2,c2,sv2,hs2,ids,met,rfl,hg,ho,hi,hm⟩
 obtain ⟨ai,ci,rfl⟩:=own_form hi
 obtain ⟨am,cm,rfl⟩:=own_form hm
 exact ⟨ai,ci,am,cm,λb=>((Q b\/w.heap.size<=b)/\(Value.slice ai r.ids.length ci).ownBlock≠some b/\(Value.slice am r.met.length cm).ownBlock≠some b)/\b<w'.heap.size,a2,c2,sv2,hs2,rfl,hg.wide (λb hb q=>⟨q,hb⟩),λb q=>⟨q.1.1,q.2,q.1.2⟩,ho,hi,hm⟩
theorem pairNe_same (a:M.Pr) (w:World):(binOp .neq 71 (.agg #[.int .i64 a.1,.int .i64 a.2]) (.agg #[.int .i64 a.1,.int .i64 a.2])).run Tryz.prog w=.ok (.bool false) w:=by
 have hS:Tryz.prog.underlying 71=some (.struct (Tryz.prog.fieldsOf 71)):=by kernel_rfl
 have hp:Tryz.prog.stoodInHeld 71=false:=by kernel_rfl
 obtain ⟨a0,a1⟩:=a
 rw [run_neq_struct,show (10000:Nat)=9999+1 from rfl,run_equalIn_agg w 9999 71 _ _ hS hp]
 simp only [Program.fieldsOf,Tryz.underlying71]
 go_simp
abbrev replyC (r:M.Reply) (ids met:Value):Array Value:=#[.int .i64 r.code,.int .i64 r.n,ids,met]
theorem refReply_calls {w:World} {r:M.Reply} {ids met ids' met':Value} (h1:IntsAt w 0 ids r.ids) (h2:PairsAt w 0 met r.met) (h3:IntsAt w 0 ids' r.ids) (h4:PairsAt w 0 met' r.met):
  Calls Tryz.prog 8 #[replyV r ids met,replyV r ids' met'] w λe w'=>e=.returned (.bool true)/\Below w.heap.size w w':=by
 obtain ⟨ai,ci,rfl⟩:=h1.val
 obtain ⟨am,cm,rfl⟩:=h2.val
 obtain ⟨bi,di,rfl⟩:=h3.val
 obtain ⟨bm,dm,rfl⟩:=h4.val
 have him:r.ids.length<=9223372036854775807:=by have:=h1.max;unfold maxLen at this;omega
 have hmm:r.met.length<=9223372036854775807:=by have:=h2.max;unfold maxLen at this;omega
 have H1:=hI h1
 have H2:=hI h2
 have H3:=hI h3
 have H4:=hI h4
 clear h1 h2 h3 h4
 go_enter Tryz.func8,Tryz.ntmps8
 go_upto_region 1 with (fail)
 refine wp_called (λws hws=>?_)
 have b1:Blk ws w.heap.size 35 (replyC r (.slice ai r.ids.length ci) (.slice am r.met.length cm)):=by rw [hws];exact (Blk.new_at rfl).alloc _
 have b2:Blk ws (w.heap.size+1) 35 (replyC r (.slice bi r.ids.length di) (.slice bm r.met.length dm)):=by rw [hws];exact Blk.new_at sS
 have KS:Below w.heap.size w ws:=by rw [hws];exact bel9
 have HB1:=hI b1
 have HB2:=hI b2
 have HKS:=hI KS
 have ks:=KS.size
 have lb2:=b2.lt
 have x0:=b1.cell 0
 have x1:=b1.cell 1
 have x2:=b1.cell 2
 have x3:=b1.cell 3
 have y0:=b2.cell 0
 have y1:=b2.cell 1
 have y2:=b2.cell 2
 have y3:=b2.cell 3
 simp at x0 x1 x2 x3 y0 y1 y2 y3
 clear hws b1 b2 KS
 go_wp2_with fail
 clear x0 x1 x2 x3 y0 y1 y2 y3
 go_loopg [40] r.ids.length (λg i wr=>∃n:Nat,n<=r.ids.length/\i=.int .i64 n/\g=r.ids.length-n/\Below ws.heap.size ws wr)
 case atStart=>exact ⟨0,Nat.zero_le _,rfl,rfl,Below.refl _ _⟩
 case round=>
  obtain ⟨wo,hwo⟩:∃wo,wo=wr:=⟨_,rfl⟩
  subst hwo
  obtain ⟨n,hn,rfl,hk,hb⟩:=hrel
  have HB:=hI hb
  have HK:=hI hk
  have ko:=hb.size
  have KO:Below w.heap.size w wo:=HKS.out.trans (hb.mono ks)
  have b1:=HB1.out.below hb HB1.out.lt
  have b2:=HB2.out.below hb HB2.out.lt
  have x2:=b1.cell 2
  have x3:=b1.cell 3
  have y2:=b2.cell 2
  have y3:=b2.cell 3
  simp at x2 x3 y2 y3
  clear hk hb b1 b2
  rcases Nat.lt_or_ge n r.ids.length with hlt|hge
  ·obtain ⟨id,hid⟩:∃id,r.ids[n]?=some id:=⟨_,List.getElem?_eq_getElem hlt⟩
   obtain ⟨b3,o3,c3,e3,_,i3⟩:=(H1.out.below KO).at hid
   obtain ⟨rfl,rfl⟩:ai=some ⟨b3,o3,none⟩/\ci=c3:=by simpa using e3
   obtain ⟨b4,o4,c4,e4,_,i4⟩:=(H3.out.below KO).at hid
   obtain ⟨rfl,rfl⟩:bi=some ⟨b4,o4,none⟩/\di=c4:=by simpa using e4
   have q0:(0:Int)<=(n:Int):=by omega
   have q1:(n:Int)<(r.ids.length:Int):=by omega
   clear e3 e4 hid
   go_wp2_with fail
   go_quiet (fail)
   go_wp2_with fail
   go_roundg (r.ids.length-(n+1))
   case measure=>rw [HK.out];omega
   case rel=>exact ⟨n+1,by omega,by go_num,rfl,below_drewN HB.out _⟩
  ·obtain rfl:n=r.ids.length:=by omega
   have q9:decide ((r.ids.length:Int)<(r.ids.length:Int))=false:=decide_eq_false bO
   go_wp2_with fail
   obtain ⟨wi,hwi⟩:∃wi,wi=wo:=⟨_,rfl⟩
   subst hwi
   have HBI:=HB
   clear q9 x2 x3 y2 y3
   go_loopg [58] r.met.length (λg i wr=>∃n:Nat,n<=r.met.length/\i=.int .i64 n/\g=r.met.length-n/\Below wi.heap.size wi wr)
   case atStart=>exact ⟨0,Nat.zero_le _,rfl,rfl,Below.refl _ _⟩
   case round=>
    obtain ⟨wq,hwq⟩:∃wq,wq=wr:=⟨_,rfl⟩
    subst hwq
    obtain ⟨m,hm,rfl,hkm,hbm⟩:=hrel
    have HBM:=hI hbm
    have HKM:=hI hkm
    have kq:=hbm.size
    have KSQ:Below ws.heap.size ws wq:=HBI.out.trans (hbm.mono ko)
    have KQ:Below w.heap.size w wq:=HKS.out.trans (KSQ.mono ks)
    have b1:=HB1.out.below KSQ HB1.out.lt
    have b2:=HB2.out.below KSQ HB2.out.lt
    have x2:=b1.cell 2
    have x3:=b1.cell 3
    have y2:=b2.cell 2
    have y3:=b2.cell 3
    simp at x2 x3 y2 y3
    clear hkm hbm b1 b2
    rcases Nat.lt_or_ge m r.met.length with hlt2|hge2
    ·obtain ⟨p,hp⟩:∃p,r.met[m]?=some p:=⟨_,List.getElem?_eq_getElem hlt2⟩
     obtain ⟨b3,o3,c3,e3,_,i3,i3'⟩:=(H2.out.below KQ).at2 hp
     obtain ⟨rfl,rfl⟩:am=some ⟨b3,o3,none⟩/\cm=c3:=by simpa using e3
     obtain ⟨b4,o4,c4,e4,_,i4,i4'⟩:=(H4.out.below KQ).at2 hp
     obtain ⟨rfl,rfl⟩:bm=some ⟨b4,o4,none⟩/\dm=c4:=by simpa using e4
     have q0:(0:Int)<=(m:Int):=by omega
     have q1:(m:Int)<(r.met.length:Int):=by omega
     have NX:=λw=>pairNe_same p w
     clear e3 e4 hp
     go_wp2_with fail
     go_quiet (fail)
     go_wp2_with fail
     go_roundg (r.met.length-(m+1))
     case measure=>rw [HKM.out];omega
     case rel=>exact ⟨m+1,by omega,by go_num,rfl,below_drewN HBM.out _⟩
    ·obtain rfl:m=r.met.length:=by omega
     have q9:decide ((r.met.length:Int)<(r.met.length:Int))=false:=decide_eq_false bO
     go_wp2_with fail
     go_ret
     exact ⟨rfl,KQ⟩
end Go.Proofs.YtemkbjaojinaoaaGreat
