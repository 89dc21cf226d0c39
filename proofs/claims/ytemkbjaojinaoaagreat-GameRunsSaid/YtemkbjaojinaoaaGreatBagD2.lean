/- Several small texts in one. No condition of its own: each part says its own. -/
import Derived.Test.YtemkbjaojinaoaaGreatShort
import Derived.Test.YtemkbjaojinaoaaGreatBagH
import Derived.Test.YtemkbjaojinaoaaGreatBagX9
import Derived.Test.YtemkbjaojinaoaaGreatBagP
import Derived.Test.YtemkbjaojinaoaaGreatFix
import Derived.StillTailTactics
import Derived.Deep.RegionHeld3
set_option linter.unusedVariables false
set_option linter.unusedSimpArgs false
set_option maxRecDepth 100000
set_option maxHeartbeats 8000000
namespace Go.Proofs.YtemkbjaojinaoaaGreat
open Go.RowKit
def GotAt (W1:World) (m:Int) (r:M.Row) (b:Bool) (vm vp vo:Value) (W:World):Prop:=vm=.int .i64 m/\(∃gb,vp=.pointer (some ⟨gb,0,none⟩)/\Blk W gb 38 (rowC r)/\W1.heap.size<=gb)/\vo=.bool b/\Below W1.heap.size W1 W
def SetAt (W1:World) (Q:Nat->Prop) (y:M.Store) (code:Int) (vp vo:Value) (W:World):Prop:=∃(a:Option Addr) (c:Nat),(∃gs,vp=.pointer (some ⟨gs,0,none⟩)/\Blk W gs 51 #[.slice a y.tables.length c,.int .i64 y.next]/\W1.heap.size<=gs)/\vo=.int .i64 code/\Rob W Q (stV a c y) y/\Below W1.heap.size W1 W
theorem one_calls (m:Int) (hm:I64 m) (w:World):Calls Tryz.prog 45 #[.int .i64 m] w λe w'=>e=.returned (.bool (M.one m))/\w=w':=by
 unfold I64 at hm
 rcases (show ¬0<m\/(0<m/\¬m<=31)\/(0<m/\m<=31) by omega) with h|⟨h,h2⟩|⟨h,h2⟩
 ·have e:M.one m=false:=by unfold M.one;rw [decide_eq_false h];rfl
  rw [e]
  go_enter Tryz.func45,Tryz.ntmps45
  go_wp2
  go_ret
  exact ⟨rfl,rfl⟩
 ·have e:M.one m=false:=by unfold M.one;rw [decide_eq_false h2];simp
  rw [e]
  go_enter Tryz.func45,Tryz.ntmps45
  go_wp2
  go_ret
  exact ⟨rfl,rfl⟩
 ·have e:M.one m=(bits .and .i64 m (m-1)==0):=by unfold M.one;rw [decide_eq_true h,decide_eq_true h2,show wrap64 (m-1)=m-1 from IntWalk.wrap64_in _ bO];rfl
  rw [e]
  go_enter Tryz.func45,Tryz.ntmps45
  go_wp2
  go_ret
  exact ⟨rfl,rfl⟩
theorem gchange_calls {w:World} {Q:Nat->Prop} {g:Nat} {G:M.Game} {a:Option Addr} {c:Nat} {sv:Value} {hs:List Value} (h:GameAt w Q g G a c sv hs) (hq:∀b,Q b->b<w.heap.size) (hG:M.GoodG G) (x:M.Act) (hx:ActIn x):
  Calls Tryz.prog 21 #[.pointer (some ⟨g,0,none⟩),actV x] w (MidPost Q w g (M.withThings G (M.changeG G.w.things x).1) (M.changeG G.w.things x).2):=by
 have HIX:=hI hx
 obtain ⟨y,code,hyc⟩:∃y c,M.changeG G.w.things x=(y,c):=⟨_,_,rfl⟩
 rw [hyc]
 have HYC:=hI hyc
 clear hyc
 obtain ⟨m,r,ok,hget⟩:∃m r b,M.get G.w.things x.id=(m,r,b):=⟨_,_,_,rfl⟩
 have HG0:=hI h
 have HQ:=hI hq
 have HIN:=hI (good_in hG.w.things)
 have HGET:=hI hget
 have hsm:M.Small r:=by have k:=M.get_small hG.w.things x.id;rw [hget] at k;exact k
 have HSM:=hI hsm
 have lg:=h.blk.lt
 have ng1:¬g=w.heap.size:=by omega
 have ng2:¬w.heap.size=g:=by omega
 clear h hq hget hsm
 go_enter Tryz.func21,Tryz.ntmps21
 go_upto_region 1 with (fail)
 refine wp_called (λW1 hW1=>?_)
 have K1:Below w.heap.size w W1:=by rw [hW1];exact bel9
 have kz1:w.heap.size<W1.heap.size:=by rw [hW1];simp
 have HB3:Hid (Blk W1 w.heap.size 42 (actC x)):=hI (by rw [hW1];exact Blk.new_at rfl)
 have HG1:=hI (HG0.out.below K1)
 have HK1:=hI K1
 have CS:=hI (λW (hb:Below W1.heap.size W1 W)=>show W.cell? ⟨g,0,none⟩=some (.slice a G.w.things.tables.length c)/\W.cell? ⟨g,1,none⟩=some (.int .i64 G.w.things.next)/\W.cell? ⟨w.heap.size,0,none⟩=some (.int .i64 x.kind)/\W.cell? ⟨w.heap.size,1,none⟩=some (.int .i64 x.id)/\W.cell? ⟨w.heap.size,2,none⟩=some (.int .i64 x.n)/\W.cell? ⟨w.heap.size,3,none⟩=some (.int .i64 x.mask)/\W.cell? ⟨w.heap.size,4,none⟩=some (.int .i64 x.row.X)/\W.cell? ⟨w.heap.size,5,none⟩=some (.int .i64 x.row.Y)/\W.cell? ⟨w.heap.size,6,none⟩=some (.int .i64 x.row.PX)/\W.cell? ⟨w.heap.size,7,none⟩=some (.int .i64 x.row.PY)/\W.cell? ⟨w.heap.size,8,none⟩=some (.int .i64 x.row.W)/\W.cell? ⟨w.heap.size,9,none⟩=some (.int .i64 x.row.H)/\W.cell? ⟨w.heap.size,10,none⟩=some (.int .i64 x.row.M)/\W.cell? ⟨w.heap.size,11,none⟩=some (.int .i64 x.row.R) from by
  have bg:=HG1.out.blk.below hb HG1.out.blk.lt
  have b3:=HB3.out.below hb HB3.out.lt
  exact ⟨bg.cell 0,bg.cell 1,b3.cell 0,b3.cell 1,b3.cell 2,b3.cell 3,b3.cell 4,b3.cell 5,b3.cell 6,b3.cell 7,b3.cell 8,b3.cell 9,b3.cell 10,b3.cell 11⟩)
 have HGI:=hI (λU (hb:Below W1.heap.size W1 U)=>get_calls (HG1.out.st.at_.below hb) x.id)
 rw [HGET.out] at HGI
 simp only at HGI
 have lg1:g<W1.heap.size:=by omega
 clear hW1 K1 hx
 go_cut [5,6,7] (λvm vp vo W=>GotAt W1 m r ok vm vp vo W)
 case first=>
  go_region_held3 (λW=>W.cell? ⟨g,0,none⟩=some (.slice a G.w.things.tables.length c)/\W.cell? ⟨g,1,none⟩=some (.int .i64 G.w.things.next)/\W.cell? ⟨w.heap.size,0,none⟩=some (.int .i64 x.kind)/\W.cell? ⟨w.heap.size,1,none⟩=some (.int .i64 x.id)/\W.cell? ⟨w.heap.size,2,none⟩=some (.int .i64 x.n)/\W.cell? ⟨w.heap.size,3,none⟩=some (.int .i64 x.mask)/\W.cell? ⟨w.heap.size,4,none⟩=some (.int .i64 x.row.X)/\W.cell? ⟨w.heap.size,5,none⟩=some (.int .i64 x.row.Y)/\W.cell? ⟨w.heap.size,6,none⟩=some (.int .i64 x.row.PX)/\W.cell? ⟨w.heap.size,7,none⟩=some (.int .i64 x.row.PY)/\W.cell? ⟨w.heap.size,8,none⟩=some (.int .i64 x.row.W)/\W.cell? ⟨w.heap.size,9,none⟩=some (.int .i64 x.row.H)/\W.cell? ⟨w.heap.size,10,none⟩=some (.int .i64 x.row.M)/\W.cell? ⟨w.heap.size,11,none⟩=some (.int .i64 x.row.R)) (exact CS.out _ bR5) (first|(go_at_call 17;with_reducible refine (HGI.out _ bR5).mono ?_;rintro e w5 ⟨rfl,hb5⟩;have hz5:=hb5.size;(try simp at hz5);(try (have b9:Blk w5 W1.heap.size 38 (rowC ⟨0,0,0,0,0,0,0,0⟩):=bR0;obtain ⟨z0,z1,z2,z3,z4,z5,z6,z7⟩:=row_at b9;have zf:=(λi=>b9.free i);have zl:=b9.lt))))
  all_goals
   go_wp2_with fail
   go_meet
   exact ⟨rfl,⟨_,rfl,bR0,sid9⟩,rfl,bR5⟩
 case rest=>
  obtain ⟨rfl,⟨gb,rfl,bgb,hgb⟩,rfl,hbc⟩:=hcut
  obtain ⟨wo,hwo⟩:∃wo,wo=wc:=⟨_,rfl⟩
  subst hwo
  have HBC:=hI hbc
  have HGB:=hI bgb
  have HO:Hid (Only Q w wo):=hI (.of_below (HK1.out.trans (hbc.mono HK1.out.size)))
  have HG2:Hid (GameAt wo (λb=>Q b\/w.heap.size<=b) g G a c sv hs):=hI ((HG1.out.below hbc).wide (λb _ k=>.inl k))
  have kzo:=hbc.size
  obtain ⟨g0,g1,x0,x1,x2,x3,x4,x5,x6,x7,x8,x9,x10,x11⟩:=CS.out wo hbc
  have l3:=cell_lt x0
  clear hbc bgb
  cases ok
  ·have e:(G.w.things,(3:Int))=(y,code):=by rw [←HYC.out];unfold M.changeG;rw [HGET.out];rfl
   simp only [Prod.mk.injEq] at e
   obtain ⟨rfl,rfl⟩:=e
   go_wp2_with fail
   go_ret
   exact ⟨a,c,sv,hs,rfl,HG2.out,HO.out⟩
  ·obtain ⟨o,ho⟩:∃o,M.one x.mask=o:=⟨_,rfl⟩
   obtain ⟨p,hp⟩:∃p,(bits .and .i64 m x.mask !=0)=p:=⟨_,rfl⟩
   obtain ⟨k4,hk4⟩:∃k,(x.kind==4)=k:=⟨_,rfl⟩
   have HONE:=hI (λU=>one_calls x.mask HIX.out.1.2.2.2 U)
   rw [ho] at HONE
   have e:(if (o && (p==k4))=false then (G.w.things,(1:Int)) else M.change G.w.things x.id (bits .xor .i64 m x.mask) x.row)=(y,code):=by
    rw [←HYC.out]
    unfold M.changeG
    rw [HGET.out]
    simp only [ho,hp,hk4]
    rfl
   have CS2:=hI (λW (hb:Below wo.heap.size wo W)=>CS.out W (HBC.out.trans (hb.mono kzo)))
   have HSP:=hI (λU (hb:Below wo.heap.size wo U)=>change_calls (HG2.out.st.at_.below hb) HIN.out x.id (bits .xor .i64 m x.mask) x.row)
   clear ho
   cases o
   ·obtain ⟨rfl,rfl⟩:G.w.things=y/\1=code:=by simpa using e
    clear e
    go_wp2_with (go_at_call 45;go_loud (refine (HONE.out _).mono ?_;rintro e w' ⟨rfl,rfl⟩))
    go_ret
    exact ⟨a,c,sv,hs,rfl,HG2.out,HO.out⟩
   ·cases p<;>cases k4
    ·rw [if_neg dC] at e
     rw [e] at HSP
     simp only at HSP
     clear e
     have HR5:=hI HG2.out.st
     have HNEW:=hI (HG2.out.newG (λb hb=>.inr (by have:=HK1.out.size;omega)))
     go_upto_region 6 with (go_at_call 45;go_loud (refine (HONE.out _).mono ?_;rintro e w' ⟨rfl,rfl⟩))
     go_cut [8,9] (λvp vo W=>SetAt wo (InG (λb=>Q b\/w.heap.size<=b) g sv) y code vp vo W)
     case first=>
      go_region_held3 (λW=>W.cell? ⟨g,0,none⟩=some (.slice a G.w.things.tables.length c)/\W.cell? ⟨g,1,none⟩=some (.int .i64 G.w.things.next)/\W.cell? ⟨w.heap.size,0,none⟩=some (.int .i64 x.kind)/\W.cell? ⟨w.heap.size,1,none⟩=some (.int .i64 x.id)/\W.cell? ⟨w.heap.size,2,none⟩=some (.int .i64 x.n)/\W.cell? ⟨w.heap.size,3,none⟩=some (.int .i64 x.mask)/\W.cell? ⟨w.heap.size,4,none⟩=some (.int .i64 x.row.X)/\W.cell? ⟨w.heap.size,5,none⟩=some (.int .i64 x.row.Y)/\W.cell? ⟨w.heap.size,6,none⟩=some (.int .i64 x.row.PX)/\W.cell? ⟨w.heap.size,7,none⟩=some (.int .i64 x.row.PY)/\W.cell? ⟨w.heap.size,8,none⟩=some (.int .i64 x.row.W)/\W.cell? ⟨w.heap.size,9,none⟩=some (.int .i64 x.row.H)/\W.cell? ⟨w.heap.size,10,none⟩=some (.int .i64 x.row.M)/\W.cell? ⟨w.heap.size,11,none⟩=some (.int .i64 x.row.R)) (exact CS2.out _ bR7) (first|(go_at_call 46;with_reducible refine (HSP.out _ bR7).mono ?_;rintro e w6 ⟨v6,rfl,⟨hs6,hn6⟩,hb6⟩;obtain ⟨a6,c6,rfl⟩:=hs6.form;(first|(have HN6:=hI (Rob.set ((HR5.out.wide (R:=λb=>InG (λb=>Q b\/w.heap.size<=b) g sv b/\b≠wo.heap.size) (λb h1 k=>⟨k,by omega⟩)).step (show Below wo.heap.size wo _ from bR4).size (λb h1 _=>(show Below wo.heap.size wo _ from bR4).block b h1)) (Below.refl _ _) hb6 hn6 (λb hb=>⟨HNEW.out b (by simp at hb;omega),by simp at hb;omega⟩)))|(have HN6:=hI (HR5.out.set bR4 hb6 hn6 HNEW.out)));have hz6:=hb6.size;(try simp at hz6);(try (have b9:Blk w6 wo.heap.size 51 #[.slice none 0 0,.int .i64 0]:=bR1;have z0:=b9.cell 0;have z1:=b9.cell 1;simp at z0 z1;have zf:=(λi=>b9.free i);have zl:=b9.lt));clear hs6 hn6))
      all_goals
       go_wp2_with fail
       go_meet
       refine ⟨a6,c6,⟨_,rfl,bR1,sid9⟩,rfl,?_,bR7⟩
       first
        |exact (HN6.out.step (by simp [World.setCell]) (λb _ k=>(bS _ _ _ b k.2).trans (bS _ _ _ b k.2))).wide (λb _ k=>k.1)
        |exact HN6.out.step (show Below w6.heap.size w6 _ from bel9).size (λb h1 _=>(show Below w6.heap.size w6 _ from bel9).block b h1)
     case rest=>
      obtain ⟨a6,c6,⟨gs,rfl,bgs,hgs⟩,rfl,hr6,hb6⟩:=hcut
      have HR6:=hI hr6
      have HB6:=hI hb6
      have HG6:=hI (HG2.out.below hb6)
      have kz6:=hb6.size
      have s0:=bgs.cell 0
      have s1:=bgs.cell 1
      have g0:=HG6.out.blk.cell 0
      have g1:=HG6.out.blk.cell 1
      have gf:=λi=>HG6.out.blk.free i
      have lgs:=bgs.lt
      have lg6:=HG6.out.blk.lt
      have ns:¬gs=g:=by omega
      have ns2:¬g=gs:=by omega
      simp at s0 s1 g0 g1
      clear hr6 hb6 bgs
      go_wp2_with fail
      go_ret
      refine ⟨a6,c6,sv,hs,rfl,?_,?_⟩
      ·exact HG6.out.upd (by simp [World.setCell]) (λb _ _ h3=>(bS _ _ _ b h3).trans (bS _ _ _ b h3)) (blk_to ((HG6.out.blk.put 0 _).put 1 _) (by rfl)) rfl (HR6.out.step (by simp [World.setCell]) (λb _ k=>(bS _ _ _ b k.2.1).trans (bS _ _ _ b k.2.1)))
      ·exact ((HO.out.more HB6.out).setCell (.inl HG0.out.inQ) _).setCell (.inl HG0.out.inQ) _
    ·obtain ⟨rfl,rfl⟩:G.w.things=y/\1=code:=by simpa using e
     clear e
     go_wp2_with (go_at_call 45;go_loud (refine (HONE.out _).mono ?_;rintro e w' ⟨rfl,rfl⟩))
     go_ret
     exact ⟨a,c,sv,hs,rfl,HG2.out,HO.out⟩
    ·obtain ⟨rfl,rfl⟩:G.w.things=y/\1=code:=by simpa using e
     clear e
     go_wp2_with (go_at_call 45;go_loud (refine (HONE.out _).mono ?_;rintro e w' ⟨rfl,rfl⟩))
     go_ret
     exact ⟨a,c,sv,hs,rfl,HG2.out,HO.out⟩
    ·rw [if_neg dC] at e
     rw [e] at HSP
     simp only at HSP
     clear e
     have HR5:=hI HG2.out.st
     have HNEW:=hI (HG2.out.newG (λb hb=>.inr (by have:=HK1.out.size;omega)))
     go_upto_region 6 with (go_at_call 45;go_loud (refine (HONE.out _).mono ?_;rintro e w' ⟨rfl,rfl⟩))
     go_cut [8,9] (λvp vo W=>SetAt wo (InG (λb=>Q b\/w.heap.size<=b) g sv) y code vp vo W)
     case first=>
      go_region_held3 (λW=>W.cell? ⟨g,0,none⟩=some (.slice a G.w.things.tables.length c)/\W.cell? ⟨g,1,none⟩=some (.int .i64 G.w.things.next)/\W.cell? ⟨w.heap.size,0,none⟩=some (.int .i64 x.kind)/\W.cell? ⟨w.heap.size,1,none⟩=some (.int .i64 x.id)/\W.cell? ⟨w.heap.size,2,none⟩=some (.int .i64 x.n)/\W.cell? ⟨w.heap.size,3,none⟩=some (.int .i64 x.mask)/\W.cell? ⟨w.heap.size,4,none⟩=some (.int .i64 x.row.X)/\W.cell? ⟨w.heap.size,5,none⟩=some (.int .i64 x.row.Y)/\W.cell? ⟨w.heap.size,6,none⟩=some (.int .i64 x.row.PX)/\W.cell? ⟨w.heap.size,7,none⟩=some (.int .i64 x.row.PY)/\W.cell? ⟨w.heap.size,8,none⟩=some (.int .i64 x.row.W)/\W.cell? ⟨w.heap.size,9,none⟩=some (.int .i64 x.row.H)/\W.cell? ⟨w.heap.size,10,none⟩=some (.int .i64 x.row.M)/\W.cell? ⟨w.heap.size,11,none⟩=some (.int .i64 x.row.R)) (exact CS2.out _ bR7) (first|(go_at_call 46;with_reducible refine (HSP.out _ bR7).mono ?_;rintro e w6 ⟨v6,rfl,⟨hs6,hn6⟩,hb6⟩;obtain ⟨a6,c6,rfl⟩:=hs6.form;(first|(have HN6:=hI (Rob.set ((HR5.out.wide (R:=λb=>InG (λb=>Q b\/w.heap.size<=b) g sv b/\b≠wo.heap.size) (λb h1 k=>⟨k,by omega⟩)).step (show Below wo.heap.size wo _ from bR4).size (λb h1 _=>(show Below wo.heap.size wo _ from bR4).block b h1)) (Below.refl _ _) hb6 hn6 (λb hb=>⟨HNEW.out b (by simp at hb;omega),by simp at hb;omega⟩)))|(have HN6:=hI (HR5.out.set bR4 hb6 hn6 HNEW.out)));have hz6:=hb6.size;(try simp at hz6);(try (have b9:Blk w6 wo.heap.size 51 #[.slice none 0 0,.int .i64 0]:=bR1;have z0:=b9.cell 0;have z1:=b9.cell 1;simp at z0 z1;have zf:=(λi=>b9.free i);have zl:=b9.lt));clear hs6 hn6))
      all_goals
       go_wp2_with fail
       go_meet
       refine ⟨a6,c6,⟨_,rfl,bR1,sid9⟩,rfl,?_,bR7⟩
       first
        |exact (HN6.out.step (by simp [World.setCell]) (λb _ k=>(bS _ _ _ b k.2).trans (bS _ _ _ b k.2))).wide (λb _ k=>k.1)
        |exact HN6.out.step (show Below w6.heap.size w6 _ from bel9).size (λb h1 _=>(show Below w6.heap.size w6 _ from bel9).block b h1)
     case rest=>
      obtain ⟨a6,c6,⟨gs,rfl,bgs,hgs⟩,rfl,hr6,hb6⟩:=hcut
      have HR6:=hI hr6
      have HB6:=hI hb6
      have HG6:=hI (HG2.out.below hb6)
      have kz6:=hb6.size
      have s0:=bgs.cell 0
      have s1:=bgs.cell 1
      have g0:=HG6.out.blk.cell 0
      have g1:=HG6.out.blk.cell 1
      have gf:=λi=>HG6.out.blk.free i
      have lgs:=bgs.lt
      have lg6:=HG6.out.blk.lt
      have ns:¬gs=g:=by omega
      have ns2:¬g=gs:=by omega
      simp at s0 s1 g0 g1
      clear hr6 hb6 bgs
      go_wp2_with fail
      go_ret
      refine ⟨a6,c6,sv,hs,rfl,?_,?_⟩
      ·exact HG6.out.upd (by simp [World.setCell]) (λb _ _ h3=>(bS _ _ _ b h3).trans (bS _ _ _ b h3)) (blk_to ((HG6.out.blk.put 0 _).put 1 _) (by rfl)) rfl (HR6.out.step (by simp [World.setCell]) (λb _ k=>(bS _ _ _ b k.2.1).trans (bS _ _ _ b k.2.1)))
      ·exact ((HO.out.more HB6.out).setCell (.inl HG0.out.inQ) _).setCell (.inl HG0.out.inQ) _
theorem gkick_calls {w:World} {Q:Nat->Prop} {g:Nat} {G:M.Game} {a:Option Addr} {c:Nat} {sv:Value} {hs:List Value} (h:GameAt w Q g G a c sv hs) (hq:∀b,Q b->b<w.heap.size) (hG:M.GoodG G) (x:M.Act) (hx:ActIn x):
  Calls Tryz.prog 22 #[.pointer (some ⟨g,0,none⟩),actV x] w (MidPost Q w g (M.withThings G (M.kickG G.w.things x).1) (M.kickG G.w.things x).2):=by
 obtain ⟨y,code,hyc⟩:∃y c,M.kickG G.w.things x=(y,c):=⟨_,_,rfl⟩
 rw [hyc]
 have HYC:=hI hyc
 clear hyc
 obtain ⟨m,r,ok,hget⟩:∃m r b,M.get G.w.things x.id=(m,r,b):=⟨_,_,_,rfl⟩
 have HG0:=hI h
 have HQ:=hI hq
 have HIN:=hI (good_in hG.w.things)
 have HGET:=hI hget
 have hsm:M.Small r:=by have k:=M.get_small hG.w.things x.id;rw [hget] at k;exact k
 have HSM:=hI hsm
 have lg:=h.blk.lt
 have ng1:¬g=w.heap.size:=by omega
 have ng2:¬w.heap.size=g:=by omega
 clear h hq hget hsm
 go_enter Tryz.func22,Tryz.ntmps22
 go_upto_region 1 with (fail)
 refine wp_called (λW1 hW1=>?_)
 have K1:Below w.heap.size w W1:=by rw [hW1];exact bel9
 have kz1:w.heap.size<W1.heap.size:=by rw [hW1];simp
 have HB3:Hid (Blk W1 w.heap.size 42 (actC x)):=hI (by rw [hW1];exact Blk.new_at rfl)
 have HG1:=hI (HG0.out.below K1)
 have HK1:=hI K1
 have CS:=hI (λW (hb:Below W1.heap.size W1 W)=>show W.cell? ⟨g,0,none⟩=some (.slice a G.w.things.tables.length c)/\W.cell? ⟨g,1,none⟩=some (.int .i64 G.w.things.next)/\W.cell? ⟨w.heap.size,0,none⟩=some (.int .i64 x.kind)/\W.cell? ⟨w.heap.size,1,none⟩=some (.int .i64 x.id)/\W.cell? ⟨w.heap.size,2,none⟩=some (.int .i64 x.n)/\W.cell? ⟨w.heap.size,3,none⟩=some (.int .i64 x.mask)/\W.cell? ⟨w.heap.size,4,none⟩=some (.int .i64 x.row.X)/\W.cell? ⟨w.heap.size,5,none⟩=some (.int .i64 x.row.Y)/\W.cell? ⟨w.heap.size,6,none⟩=some (.int .i64 x.row.PX)/\W.cell? ⟨w.heap.size,7,none⟩=some (.int .i64 x.row.PY)/\W.cell? ⟨w.heap.size,8,none⟩=some (.int .i64 x.row.W)/\W.cell? ⟨w.heap.size,9,none⟩=some (.int .i64 x.row.H)/\W.cell? ⟨w.heap.size,10,none⟩=some (.int .i64 x.row.M)/\W.cell? ⟨w.heap.size,11,none⟩=some (.int .i64 x.row.R) from by
  have bg:=HG1.out.blk.below hb HG1.out.blk.lt
  have b3:=HB3.out.below hb HB3.out.lt
  exact ⟨bg.cell 0,bg.cell 1,b3.cell 0,b3.cell 1,b3.cell 2,b3.cell 3,b3.cell 4,b3.cell 5,b3.cell 6,b3.cell 7,b3.cell 8,b3.cell 9,b3.cell 10,b3.cell 11⟩)
 have HGI:=hI (λU (hb:Below W1.heap.size W1 U)=>get_calls (HG1.out.st.at_.below hb) x.id)
 rw [HGET.out] at HGI
 simp only at HGI
 have lg1:g<W1.heap.size:=by omega
 clear hW1 K1 hx
 go_cut [5,6,7] (λvm vp vo W=>GotAt W1 m r ok vm vp vo W)
 case first=>
  go_region_held3 (λW=>W.cell? ⟨g,0,none⟩=some (.slice a G.w.things.tables.length c)/\W.cell? ⟨g,1,none⟩=some (.int .i64 G.w.things.next)/\W.cell? ⟨w.heap.size,0,none⟩=some (.int .i64 x.kind)/\W.cell? ⟨w.heap.size,1,none⟩=some (.int .i64 x.id)/\W.cell? ⟨w.heap.size,2,none⟩=some (.int .i64 x.n)/\W.cell? ⟨w.heap.size,3,none⟩=some (.int .i64 x.mask)/\W.cell? ⟨w.heap.size,4,none⟩=some (.int .i64 x.row.X)/\W.cell? ⟨w.heap.size,5,none⟩=some (.int .i64 x.row.Y)/\W.cell? ⟨w.heap.size,6,none⟩=some (.int .i64 x.row.PX)/\W.cell? ⟨w.heap.size,7,none⟩=some (.int .i64 x.row.PY)/\W.cell? ⟨w.heap.size,8,none⟩=some (.int .i64 x.row.W)/\W.cell? ⟨w.heap.size,9,none⟩=some (.int .i64 x.row.H)/\W.cell? ⟨w.heap.size,10,none⟩=some (.int .i64 x.row.M)/\W.cell? ⟨w.heap.size,11,none⟩=some (.int .i64 x.row.R)) (exact CS.out _ bR5) (first|(go_at_call 17;with_reducible refine (HGI.out _ bR5).mono ?_;rintro e w5 ⟨rfl,hb5⟩;have hz5:=hb5.size;(try simp at hz5);(try (have b9:Blk w5 W1.heap.size 38 (rowC ⟨0,0,0,0,0,0,0,0⟩):=bR0;obtain ⟨z0,z1,z2,z3,z4,z5,z6,z7⟩:=row_at b9;have zf:=(λi=>b9.free i);have zl:=b9.lt))))
  all_goals
   go_wp2_with fail
   go_meet
   exact ⟨rfl,⟨_,rfl,bR0,sid9⟩,rfl,bR5⟩
 case rest=>
  obtain ⟨rfl,⟨gb,rfl,bgb,hgb⟩,rfl,hbc⟩:=hcut
  obtain ⟨wo,hwo⟩:∃wo,wo=wc:=⟨_,rfl⟩
  subst hwo
  have HBC:=hI hbc
  have HGB:=hI bgb
  have HO:Hid (Only Q w wo):=hI (.of_below (HK1.out.trans (hbc.mono HK1.out.size)))
  have HG2:Hid (GameAt wo (λb=>Q b\/w.heap.size<=b) g G a c sv hs):=hI ((HG1.out.below hbc).wide (λb _ k=>.inl k))
  have kzo:=hbc.size
  obtain ⟨g0,g1,x0,x1,x2,x3,x4,x5,x6,x7,x8,x9,x10,x11⟩:=CS.out wo hbc
  have l3:=cell_lt x0
  clear hbc bgb
  cases ok
  ·have e:(G.w.things,(3:Int))=(y,code):=by rw [←HYC.out];unfold M.kickG;rw [HGET.out];rfl
   simp only [Prod.mk.injEq] at e
   obtain ⟨rfl,rfl⟩:=e
   go_wp2_with fail
   go_ret
   exact ⟨a,c,sv,hs,rfl,HG2.out,HO.out⟩
  ·cases hb2:M.bit m 2
   ·have e:(G.w.things,(1:Int))=(y,code):=by
     rw [←HYC.out];unfold M.kickG;rw [HGET.out]
     simp only [hb2]
     rfl
    simp only [Prod.mk.injEq] at e
    obtain ⟨rfl,rfl⟩:=e
    have q0:(bits .and .i64 m 2==0)=true:=by
     have:(bits .and .i64 m 2 !=0)=false:=hb2
     simpa using this
    clear hb2
    go_wp2_with fail
    go_ret
    exact ⟨a,c,sv,hs,rfl,HG2.out,HO.out⟩
   ·have e:M.set G.w.things x.id (M.kickRow r x.row)=(y,code):=by
     rw [←HYC.out];unfold M.kickG;rw [HGET.out]
     simp only [hb2]
     rfl
    have q0:(bits .and .i64 m 2==0)=false:=by
     have:(bits .and .i64 m 2 !=0)=true:=hb2
     simpa using this
    clear hb2
    have bgb:=HGB.out
    have rf:=λi=>bgb.free i
    obtain ⟨r0,r1,r2,r3,r4,r5,r6,r7⟩:=row_at bgb
    have lgb:=bgb.lt
    clear bgb
    go_upto_region 6 with (fail)
    go_still_tail 13,kR
    refine wpStill_step (λK hK=>?_)
    go_simp
    refine ⟨_,(add_calls _ _ _ _).mono (λe w' h=>⟨h.1,h.2.symm⟩),hK _ ?_⟩
    clear hK K
    repeat still_step
    refine wpStill_step (λK hK=>?_)
    go_simp
    refine ⟨_,(add_calls _ _ _ _).mono (λe w' h=>⟨h.1,h.2.symm⟩),hK _ ?_⟩
    clear hK K
    repeat still_step
    refine wpStill_nil ?_
    change wpList _ _ _ _ _ wo.drew
    go_upto_region 7 with (fail)
    refine wp_called (λW2 hW2=>?_)
    have HBC2:Hid (Below W1.heap.size W1 W2):=hI (by rw [hW2];exact ((HBC.out.drew).setCell hgb _).setCell hgb _)
    have HGB2:Hid (Blk W2 gb 38 (rowC (M.kickRow r x.row))):=hI (by rw [hW2];exact blk_to ((HGB.out.drew.put 2 _).put 3 _) (by rfl))
    clear hW2 r0 r1 r2 r3 r4 r5 r6 r7 rf g0 g1 x0 x1 x2 x3 x4 x5 x6 x7 x8 x9 x10 x11 q0
    have HO:Hid (Only Q w W2):=hI (.of_below (HK1.out.trans (HBC2.out.mono HK1.out.size)))
    have HG2:Hid (GameAt W2 (λb=>Q b\/w.heap.size<=b) g G a c sv hs):=hI ((HG1.out.below HBC2.out).wide (λb _ k=>.inl k))
    have kzo:=HBC2.out.size
    clear lgb
    have lgb:=HGB2.out.lt
    obtain ⟨wo,hwo⟩:∃wo,wo=W2:=⟨_,rfl⟩
    subst hwo
    have CS2:=hI (λW (hb:Below wo.heap.size wo W)=>show W.cell? ⟨g,0,none⟩=some (.slice a G.w.things.tables.length c)/\W.cell? ⟨g,1,none⟩=some (.int .i64 G.w.things.next)/\W.cell? ⟨w.heap.size,0,none⟩=some (.int .i64 x.kind)/\W.cell? ⟨w.heap.size,1,none⟩=some (.int .i64 x.id)/\W.cell? ⟨w.heap.size,2,none⟩=some (.int .i64 x.n)/\W.cell? ⟨w.heap.size,3,none⟩=some (.int .i64 x.mask)/\W.cell? ⟨w.heap.size,4,none⟩=some (.int .i64 x.row.X)/\W.cell? ⟨w.heap.size,5,none⟩=some (.int .i64 x.row.Y)/\W.cell? ⟨w.heap.size,6,none⟩=some (.int .i64 x.row.PX)/\W.cell? ⟨w.heap.size,7,none⟩=some (.int .i64 x.row.PY)/\W.cell? ⟨w.heap.size,8,none⟩=some (.int .i64 x.row.W)/\W.cell? ⟨w.heap.size,9,none⟩=some (.int .i64 x.row.H)/\W.cell? ⟨w.heap.size,10,none⟩=some (.int .i64 x.row.M)/\W.cell? ⟨w.heap.size,11,none⟩=some (.int .i64 x.row.R)/\W.cell? ⟨gb,0,none⟩=some (.int .i64 (r.X))/\W.cell? ⟨gb,1,none⟩=some (.int .i64 (r.Y))/\W.cell? ⟨gb,2,none⟩=some (.int .i64 (M.add r.PX x.row.PX 16777216))/\W.cell? ⟨gb,3,none⟩=some (.int .i64 (M.add r.PY x.row.PY 16777216))/\W.cell? ⟨gb,4,none⟩=some (.int .i64 (r.W))/\W.cell? ⟨gb,5,none⟩=some (.int .i64 (r.H))/\W.cell? ⟨gb,6,none⟩=some (.int .i64 (r.M))/\W.cell? ⟨gb,7,none⟩=some (.int .i64 (r.R)) from by
     obtain ⟨g0,g1,x0,x1,x2,x3,x4,x5,x6,x7,x8,x9,x10,x11⟩:=CS.out W (HBC2.out.trans (hb.mono kzo))
     have b:=HGB2.out.below hb HGB2.out.lt
     exact ⟨g0,g1,x0,x1,x2,x3,x4,x5,x6,x7,x8,x9,x10,x11,b.cell 0,b.cell 1,b.cell 2,b.cell 3,b.cell 4,b.cell 5,b.cell 6,b.cell 7⟩)
    have HSP:=hI (λU (hb:Below wo.heap.size wo U)=>set_calls (HG2.out.st.at_.below hb) HIN.out x.id (M.kickRow r x.row))
    rw [e] at HSP
    simp only at HSP
    rw [show M.kickRow r x.row=⟨r.X,r.Y,M.add r.PX x.row.PX 16777216,M.add r.PY x.row.PY 16777216,r.W,r.H,r.M,r.R⟩ from rfl] at HSP
    clear e
    have HR5:=hI HG2.out.st
    have HNEW:=hI (HG2.out.newG (λb hb=>.inr (by have:=HK1.out.size;omega)))
    go_cut [8,9] (λvp vo W=>SetAt wo (InG (λb=>Q b\/w.heap.size<=b) g sv) y code vp vo W)
    case first=>
     go_region_held3 (λW=>W.cell? ⟨g,0,none⟩=some (.slice a G.w.things.tables.length c)/\W.cell? ⟨g,1,none⟩=some (.int .i64 G.w.things.next)/\W.cell? ⟨w.heap.size,0,none⟩=some (.int .i64 x.kind)/\W.cell? ⟨w.heap.size,1,none⟩=some (.int .i64 x.id)/\W.cell? ⟨w.heap.size,2,none⟩=some (.int .i64 x.n)/\W.cell? ⟨w.heap.size,3,none⟩=some (.int .i64 x.mask)/\W.cell? ⟨w.heap.size,4,none⟩=some (.int .i64 x.row.X)/\W.cell? ⟨w.heap.size,5,none⟩=some (.int .i64 x.row.Y)/\W.cell? ⟨w.heap.size,6,none⟩=some (.int .i64 x.row.PX)/\W.cell? ⟨w.heap.size,7,none⟩=some (.int .i64 x.row.PY)/\W.cell? ⟨w.heap.size,8,none⟩=some (.int .i64 x.row.W)/\W.cell? ⟨w.heap.size,9,none⟩=some (.int .i64 x.row.H)/\W.cell? ⟨w.heap.size,10,none⟩=some (.int .i64 x.row.M)/\W.cell? ⟨w.heap.size,11,none⟩=some (.int .i64 x.row.R)/\W.cell? ⟨gb,0,none⟩=some (.int .i64 (r.X))/\W.cell? ⟨gb,1,none⟩=some (.int .i64 (r.Y))/\W.cell? ⟨gb,2,none⟩=some (.int .i64 (M.add r.PX x.row.PX 16777216))/\W.cell? ⟨gb,3,none⟩=some (.int .i64 (M.add r.PY x.row.PY 16777216))/\W.cell? ⟨gb,4,none⟩=some (.int .i64 (r.W))/\W.cell? ⟨gb,5,none⟩=some (.int .i64 (r.H))/\W.cell? ⟨gb,6,none⟩=some (.int .i64 (r.M))/\W.cell? ⟨gb,7,none⟩=some (.int .i64 (r.R))) (exact CS2.out _ bR7) (first|(go_at_call 48;with_reducible refine (HSP.out _ bR7).mono ?_;rintro e w6 ⟨v6,rfl,⟨hs6,hn6⟩,hb6⟩;obtain ⟨a6,c6,rfl⟩:=hs6.form;(first|(have HN6:=hI (Rob.set ((HR5.out.wide (R:=λb=>InG (λb=>Q b\/w.heap.size<=b) g sv b/\b≠wo.heap.size) (λb h1 k=>⟨k,by omega⟩)).step (show Below wo.heap.size wo _ from bR4).size (λb h1 _=>(show Below wo.heap.size wo _ from bR4).block b h1)) (Below.refl _ _) hb6 hn6 (λb hb=>⟨HNEW.out b (by simp at hb;omega),by simp at hb;omega⟩)))|(have HN6:=hI (HR5.out.set bR4 hb6 hn6 HNEW.out)));have hz6:=hb6.size;(try simp at hz6);(try (have b9:Blk w6 wo.heap.size 51 #[.slice none 0 0,.int .i64 0]:=bR1;have z0:=b9.cell 0;have z1:=b9.cell 1;simp at z0 z1;have zf:=(λi=>b9.free i);have zl:=b9.lt));clear hs6 hn6))
     all_goals
      go_wp2_with fail
      go_meet
      refine ⟨a6,c6,⟨_,rfl,bR1,sid9⟩,rfl,?_,bR7⟩
      first
       |exact (HN6.out.step (by simp [World.setCell]) (λb _ k=>(bS _ _ _ b k.2).trans (bS _ _ _ b k.2))).wide (λb _ k=>k.1)
       |exact HN6.out.step (show Below w6.heap.size w6 _ from bel9).size (λb h1 _=>(show Below w6.heap.size w6 _ from bel9).block b h1)
    case rest=>
     obtain ⟨a6,c6,⟨gs,rfl,bgs,hgs⟩,rfl,hr6,hb6⟩:=hcut
     have HR6:=hI hr6
     have HB6:=hI hb6
     have HG6:=hI (HG2.out.below hb6)
     have kz6:=hb6.size
     have s0:=bgs.cell 0
     have s1:=bgs.cell 1
     have g0:=HG6.out.blk.cell 0
     have g1:=HG6.out.blk.cell 1
     have gf:=λi=>HG6.out.blk.free i
     have lgs:=bgs.lt
     have lg6:=HG6.out.blk.lt
     have ns:¬gs=g:=by omega
     have ns2:¬g=gs:=by omega
     simp at s0 s1 g0 g1
     clear hr6 hb6 bgs
     go_wp2_with fail
     go_ret
     refine ⟨a6,c6,sv,hs,rfl,?_,?_⟩
     ·exact HG6.out.upd (by simp [World.setCell]) (λb _ _ h3=>(bS _ _ _ b h3).trans (bS _ _ _ b h3)) (blk_to ((HG6.out.blk.put 0 _).put 1 _) (by rfl)) rfl (HR6.out.step (by simp [World.setCell]) (λb _ k=>(bS _ _ _ b k.2.1).trans (bS _ _ _ b k.2.1)))
     ·exact ((HO.out.more HB6.out).setCell (.inl HG0.out.inQ) _).setCell (.inl HG0.out.inQ) _
end Go.Proofs.YtemkbjaojinaoaaGreat
