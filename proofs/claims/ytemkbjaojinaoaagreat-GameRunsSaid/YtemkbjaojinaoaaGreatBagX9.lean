/- Several small texts in one. No condition of its own: each part says its own. -/
import Derived.Test.YtemkbjaojinaoaaGreatShort
import Derived.Test.YtemkbjaojinaoaaGreatBagS
import Derived.Deep.DeepCutAuto
import Derived.BigRegion
import Derived.Test.YtemkbjaojinaoaaGreatBagW
import Derived.Test.YtemkbjaojinaoaaGreatBagP
import Derived.Test.YtemkbjaojinaoaaGreatBagSg
import Derived.Test.YtemkbjaojinaoaaGreatBagO
import Derived.Test.YtemkbjaojinaoaaGreatBagMb
import Derived.Test.YtemkbjaojinaoaaGreatBagX7
import Derived.Deep.RegionHeld3
set_option linter.unusedVariables false
set_option linter.unusedSimpArgs false
set_option maxRecDepth 100000
set_option maxHeartbeats 8000000
namespace Go.Proofs.YtemkbjaojinaoaaGreat
open Go.RowKit
theorem cut_calls {w:World} {base sb:Nat} {vt:Value} {next:Int} {ts:List M.Table} {hs:List (Value×Value)} (h:OwnTabs w base vt ts hs) (hbox:Blk w sb 51 #[vt,.int .i64 next]) (hsb:sb<base) (hbw:base<=w.heap.size)
  (hfew:ts.length<=1000) {i k:Nat} {t:M.Table} (hat:ts[i]?=some t) (hk:k<t.ids.length) (hl:t.ids.length=t.rows.length) (hlen:t.ids.length<=1000):
  Calls Tryz.prog 44 #[.pointer (some ⟨sb,0,none⟩),.int .i64 i,.int .i64 k] w λe w'=>e=.returned (.tuple #[])/\
   ∃vt' hs',Blk w' sb 51 #[vt',.int .i64 next]/\OwnTabs w' base vt' (M.cutT ts i k) hs'/\But base sb w w':=by
 have hlt:=(List.getElem?_eq_some_iff.1 hat).1
 have hhl:=h.len
 obtain ⟨⟨v1,v2⟩,hp⟩:∃p,hs[i]?=some p:=⟨_,List.getElem?_eq_getElem bO⟩
 have hkk:=h.each i t (v1,v2) hat hp
 obtain ⟨g0,cap0,rfl,hg0,hg1⟩:=own_val h.row bO
 obtain ⟨x0,x1,x2⟩:=tabL_at ts hs i hat hp
 have T1:=(h.row.cellAt (i*3+1) bO).trans x1
 have T2:=(h.row.cellAt (i*3+2) bO).trans x2
 have TF:=λj=>h.row.frozenAt j
 obtain ⟨gi,ci,e1,hgi,hgi1⟩:=own_val hkk.ids bO
 obtain ⟨gr,cr,e2,hgr,hgr1⟩:=own_val hkk.rows bO
 simp only at e1 e2
 subst e1;subst e2
 have ne1:gi≠g0:=λe=>(blks_vt h.apart (g:=g0) rfl (List.mem_of_getElem? hp)).1 (by simp [Value.ownBlock,e])
 have ne2:gr≠g0:=λe=>(blks_vt h.apart (g:=g0) rfl (List.mem_of_getElem? hp)).2 (by simp [Value.ownBlock,e])
 have ne3:gi≠gr:=λe=>blks_pair h.apart hp (g:=gi) rfl (by simp [Value.ownBlock,e])
 obtain ⟨a,ha⟩:∃a,t.ids[t.ids.length-1]?=some a:=⟨_,List.getElem?_eq_getElem bO⟩
 obtain ⟨r,hr⟩:∃r,t.rows[t.ids.length-1]?=some r:=⟨_,List.getElem?_eq_getElem bO⟩
 have HH:=hI h
 have HKK:=hI hkk
 have HP:=hI hp
 have HA:=hI ha
 have HR:=hI hr
 have HAT:=hI hat
 have HBX:=hI hbox
 have c0:w.cell? ⟨sb,0,none⟩=some (.slice (some ⟨g0,0,none⟩) ts.length cap0):=hbox.cell 0
 have cf:=λi=>hbox.free i
 have I1:w.cell? ⟨gi,t.ids.length-1,none⟩=some (.int .i64 a):=(hkk.ids.cellAt (t.ids.length-1) bO).trans (by rw [List.getElem?_map,ha];rfl)
 have I2:=hkk.ids.cellAt k bO
 rw [List.getElem?_map,List.getElem?_eq_getElem hk] at I2
 have IF:=λj=>hkk.ids.frozenAt j
 have rn:∀j,j<8->w.cell? ⟨gr,(t.ids.length-1)*8+j,none⟩=(rowL r)[j]?:=λj hj=>(hkk.rows.cellAt _ bO).trans (rowsL_at _ _ _ hr hj)
 obtain ⟨q,hq⟩:∃q,t.rows[k]?=some q:=⟨_,List.getElem?_eq_getElem bO⟩
 have rk:∀j,j<8->w.cell? ⟨gr,k*8+j,none⟩=(rowL q)[j]?:=λj hj=>(hkk.rows.cellAt _ bO).trans (rowsL_at _ _ _ hq hj)
 have RF:=λj=>hkk.rows.frozenAt j
 have n0:=rn 0 bO;have n1:=rn 1 bO;have n2:=rn 2 bO;have n3:=rn 3 bO;have n4:=rn 4 bO;have n5:=rn 5 bO;have n6:=rn 6 bO;have n7:=rn 7 bO
 have k0:=rk 0 bO;have k1:=rk 1 bO;have k2:=rk 2 bO;have k3:=rk 3 bO;have k4:=rk 4 bO;have k5:=rk 5 bO;have k6:=rk 6 bO;have k7:=rk 7 bO
 simp only [rowL,List.getElem?_cons_zero,List.getElem?_cons_succ,Nat.add_zero] at n0 n1 n2 n3 n4 n5 n6 n7 k0 k1 k2 k3 k4 k5 k6 k7
 simp only [Option.map_some] at I2
 have hlI:t.ids.length<=ci:=by
  rcases hkk.ids.2 with ⟨e,_⟩|⟨g',cap',cur,e,_,_,hnc,_⟩
  ·simp at e
  ·simp only [Value.slice.injEq,true_and] at e;omega
 have hlR:t.rows.length<=cr:=by
  rcases hkk.rows.2 with ⟨e,_⟩|⟨g',cap',cur,e,_,_,hnc,_⟩
  ·simp at e
  ·simp only [Value.slice.injEq,true_and] at e;omega
 have HL:=hI hl
 rw [←hl] at T2 hlR
 clear h hkk hp ha hr hat hbox x0 x1 x2 rn rk hq hl
 go_enter Tryz.func44,Tryz.ntmps44
 go_upto_region 2 with fail
 go_region
 go_wp2_with fail
 generalize hW:World.drew _=W
 have hkr:k<t.rows.length:=by have:=HL.out;omega
 have hrw:=HKK.out.rows
 rw [←HL.out] at hrw
 obtain ⟨P1,P2,P3,P4,P5,P6,P7⟩:=cut_swap HKK.out.ids hrw ne3 hkr hW
 have T1W:=(World.cell?_of_block (a:=⟨g0,i*3+1,none⟩) (P3 g0 (Ne.symm ne1) (Ne.symm ne2))).trans T1
 have T2W:=(World.cell?_of_block (a:=⟨g0,i*3+2,none⟩) (P3 g0 (Ne.symm ne1) (Ne.symm ne2))).trans T2
 have TFW:=λj=>(World.frozen?_of_block (a:=⟨g0,j,none⟩) (P3 g0 (Ne.symm ne1) (Ne.symm ne2))).trans (TF j)
 have nsi:sb≠gi:=by omega
 have nsr:sb≠gr:=by omega
 have nsg:sb≠g0:=by omega
 have c0W:=(World.cell?_of_block (a:=⟨sb,0,none⟩) (P3 sb nsi nsr)).trans c0
 have cfW:=λj=>(World.frozen?_of_block (a:=⟨sb,j,none⟩) (P3 sb nsi nsr)).trans (cf j)
 have HP1:=hI P1
 have HP2:=hI P2
 have HP3:=hI P3
 have HP4:=hI (And.intro P4 (And.intro P5 (And.intro P6 P7)))
 clear P1 P2 P3 P4 P5 P6 P7 hW hrw T1 T2 TF c0 cf I1 I2 IF n0 n1 n2 n3 n4 n5 n6 n7 k0 k1 k2 k3 k4 k5 k6 k7 RF
 have htn:((t.ids.length:Int)-1).toNat=t.ids.length-1:=by omega
 go_region
 generalize hW2:World.drew _=W2
 have far:∀(U:World) (b j:Nat) (u:Value) (g:Nat),g≠b->(U.setCell ⟨b,j,none⟩ u).heap[g]?=U.heap[g]?:=λU b j u g hg=>bS _ _ _ _ hg
 have hsame2:∀g,g≠g0->W2.heap[g]?=W.heap[g]?:=λg hg=>by
  rw [←hW2]
  exact (far _ _ _ _ _ hg).trans (far _ _ _ _ _ hg)
 have hvtW:W.ownsRow base 102 3 (.slice (some ⟨g0,0,none⟩) ts.length cap0) ts.length (tabL ts hs):=own_same HH.out.row (λg hg=>by
  have e:g=g0:=by simpa [Value.ownBlock] using hg.symm
  subst e
  exact HP3.out _ (Ne.symm ne1) (Ne.symm ne2))
 have HTAB:Hid (OwnTabs W2 base (.slice (some ⟨g0,0,none⟩) ts.length cap0) (ts.set i ⟨t.mask,M.without t.ids k,M.without t.rows k⟩) (hs.set i (.slice (some ⟨gi,0,none⟩) (t.ids.length-1) ci,.slice (some ⟨gr,0,none⟩) (t.ids.length-1) cr))):=hI (by
  have hr0:=HR.out
  rw [HL.out] at hr0
  have wl1:(M.without t.ids k).length=t.ids.length-1:=by rw [without_set_take _ _ _ HA.out];simp
  have wl2:(M.without t.rows k).length=t.ids.length-1:=by rw [without_set_take _ _ _ hr0];simp [HL.out]
  refine OwnTabs.turn HH.out HAT.out HP.out rfl ?_ ⟨?_,?_⟩ rfl rfl ?_
  ·have R:=own_put (own_put hvtW (i*3+1) (.slice (some ⟨gi,0,none⟩) (t.ids.length-1) ci)) (i*3+2) (.slice (some ⟨gr,0,none⟩) (t.ids.length-1) cr)
   rw [tabL_set ts hs i hhl hlt (.slice (some ⟨gi,0,none⟩) (t.ids.length-1) ci,.slice (some ⟨gr,0,none⟩) (t.ids.length-1) cr)] at R
   rw [←hW2]
   exact World.ownsRow.drew R
  ·have R:=own_short HP1.out (m:=t.ids.length-1) bO
   rw [Nat.mul_one,←List.map_take,←without_set_take _ _ _ HA.out] at R
   have R2:=own_same R (w':=W2) (λg hg=>by
    have e:g=gi:=by simpa [Value.ownBlock] using hg.symm
    subst e
    exact hsame2 _ ne1)
   simpa [wl1] using R2
  ·have R:=own_short HP2.out (m:=t.ids.length-1) bO
   rw [rowsL_take,show t.ids.length-1=t.rows.length-1 by rw [HL.out],←without_set_take _ _ _ hr0] at R
   have R2:=own_same R (w':=W2) (λg hg=>by
    have e:g=gr:=by simpa [Value.ownBlock] using hg.symm
    subst e
    exact hsame2 _ ne2)
   rw [←HL.out] at R2
   simpa [wl2] using R2
  ·intro g hg q1 q2 q3
   have m0:g≠g0:=λe=>q1 (by simp [Value.ownBlock,e])
   have m1:g≠gi:=λe=>q2 (by simp [Value.ownBlock,e])
   have m2:g≠gr:=λe=>q3 (by simp [Value.ownBlock,e])
   rw [hsame2 _ m0]
   exact HP3.out _ m1 m2)
 have HBUT:Hid (But base sb w W2):=hI (by
  obtain ⟨p4,p5,p6,p7⟩:=HP4.out
  refine ⟨by rw [←hW2];exact p4,by rw [←hW2];exact p5,by rw [←hW2];exact p6,by rw [←hW2];simp [World.setCell];omega,λg h1 h2=>?_⟩
  rw [hsame2 _ bO]
  exact HP3.out _ bO bO)
 have HBX2:Hid (Blk W2 sb 51 #[.slice (some ⟨g0,0,none⟩) ts.length cap0,.int .i64 next]):=hI (by
  refine Eq.trans ?_ HBX.out
  rw [hsame2 _ nsg]
  exact HP3.out _ nsi nsr)
 have c2:W2.cell? ⟨sb,0,none⟩=some (.slice (some ⟨g0,0,none⟩) ts.length cap0):=HBX2.out.cell 0
 have c2f:=λj=>HBX2.out.free j
 clear far hsame2 hvtW hW2 T1W T2W TFW c0W cfW
 by_cases hn1:t.ids.length=1
 ·have q:((t.ids.length:Int)-1==0)=true:=by simp;omega
  have HROW:=HTAB.out.row
  rw [List.length_set] at HROW
  have hiw:IntKind.i64.wrap ((i:Int)+1)=(i:Int)+1:=by rw [IntKind.wrap_i64];omega
  have HDEL:=hI (λ(U:World) (hU:U=W2)=>by
   subst hU
   exact delete_calls (i:=i) HROW bO hlt HTAB.out.one)
  clear HROW
  go_wp2_with fail
  refine (HDEL.out W2 rfl).mono ?_
  rintro e w3 ⟨rfl,hd1,hd2⟩
  have hsb3:w3.heap[sb]?=W2.heap[sb]?:=hd2.block sb (by have:=HBX2.out.lt;omega) (λe=>nsg (by simpa using e))
  have HB3:Blk w3 sb 51 #[.slice (some ⟨g0,0,none⟩) ts.length cap0,.int .i64 next]:=hsb3.trans HBX2.out
  have c3:w3.cell? ⟨sb,0,none⟩=some (.slice (some ⟨g0,0,none⟩) ts.length cap0):=HB3.cell 0
  have c3f:=λj=>HB3.free j
  have HB3H:=hI HB3
  have HD:=hI (And.intro hd1 hd2)
  clear hd1 hd2 hsb3 HB3 c2 c2f
  go_wp2
  go_end0
  have hct:M.cutT ts i k=ts.eraseIdx i:=by
   unfold M.cutT
   rw [HAT.out]
   simp only [hn1,if_true]
  have L0:OwnTabs w3 base (.slice (some ⟨g0,0,none⟩) (ts.length-1) cap0) ((ts.set i ⟨t.mask,M.without t.ids k,M.without t.rows k⟩).eraseIdx i) ((hs.set i (.slice (some ⟨gi,0,none⟩) (t.ids.length-1) ci,.slice (some ⟨gr,0,none⟩) (t.ids.length-1) cr)).eraseIdx i):=
   OwnTabs.less HTAB.out (by simpa using hlt) (by rw [List.length_set];exact HD.out.1) rfl HD.out.2
  rw [List.eraseIdx_set_eq,List.eraseIdx_set_eq] at L0
  refine ⟨rfl,_,hs.eraseIdx i,HB3H.out.put 0 _,?_,?_⟩
  ·rw [hct]
   refine L0.same lR (λg h1 _=>?_)
   exact bS _ _ _ _ (by show g≠sb;omega)
  ·exact ((HBUT.out.grown HD.out.2 (by have:=HBUT.out.size;omega) (λg hg=>by simp [Value.ownBlock] at hg;omega))).setCell (.inr rfl) _
 ·have q:((t.ids.length:Int)-1==0)=false:=by simp;omega
  go_wp2
  go_end0
  refine ⟨rfl,_,hs.set i (.slice (some ⟨gi,0,none⟩) (t.ids.length-1) ci,.slice (some ⟨gr,0,none⟩) (t.ids.length-1) cr),HBX2.out,?_,HBUT.out⟩
  have hct:M.cutT ts i k=ts.set i ⟨t.mask,M.without t.ids k,M.without t.rows k⟩:=by
   unfold M.cutT
   rw [HAT.out]
   simp only [hn1,if_false]
  rw [hct]
  exact HTAB.out
theorem ids_le (l:List M.Table) {t:M.Table} (h:t∈l):t.ids.length<=(M.idsT l).length:=by
 induction l with
 |nil=>simp at h
 |cons a l ih=>
  unfold M.idsT at ih⊢
  rw [List.flatMap_cons,List.length_append]
  rcases List.mem_cons.1 h with rfl|h
  ·omega
  ·have:=ih h;omega
theorem tables_le (l:List M.Table) (h:∀t∈l,t.ids≠[]):l.length<=(M.idsT l).length:=by
 induction l with
 |nil=>simp
 |cons a l ih=>
  have h1:=ih (λt ht=>h t (List.mem_cons_of_mem _ ht))
  have h2:a.ids.length≠0:=λe=>h a sS (List.length_eq_zero_iff.1 e)
  unfold M.idsT at h1⊢
  rw [List.flatMap_cons,List.length_append,List.length_cons]
  omega
structure Bounds (s:M.Store):Prop where
 few:s.tables.length<=10
 each:∀t∈s.tables,t.ids.length<=10/\t.rows.length=t.ids.length/\t.ids≠[]/\t.rows≠[]/\(1<=t.mask/\t.mask<=31)
 asc:s.tables.Pairwise (λa b=>a.mask<b.mask)
 lo:0<=s.next
 hi:s.next<=1048576
theorem good_bounds {s:M.Store} (h:M.GoodS s):Bounds s:=by
 obtain ⟨h1,h2,h3,h4,h5,h6⟩:=h
 refine ⟨Nat.le_trans (tables_le _ λt ht=>(h1 t ht).1) h4,λt ht=>?_,h2,h5,h6⟩
 obtain ⟨k1,k2,k3,k4⟩:=h1 t ht
 have hr:t.rows≠[]:=λe=>k1 (List.length_eq_zero_iff.1 (by rw [k2,e];rfl))
 refine ⟨Nat.le_trans (ids_le _ ht) h4,k2.symm,k1,hr,?_⟩
 obtain ⟨r,hr⟩:=List.exists_mem_of_ne_nil _ hr
 have:=M.goodRow_fits.1 (k4 r hr)
 exact ⟨this.lo,this.hi⟩
theorem Bounds.short {s:M.Store} (h:Bounds s):Short s:=by
 refine ⟨by have:=h.few;omega,λt ht=>?_⟩
 obtain ⟨k1,k2,k3,k4,k5⟩:=h.each t ht
 exact ⟨⟨k3,k4⟩,by omega,by omega⟩
def FewT (ts:List M.Table):Prop:=ts.length<=1000/\∀t∈ts,t.ids.length<=1000/\t.rows.length<=1000
theorem Bounds.isFew {s:M.Store} (h:Bounds s):FewT s.tables:=by
 refine ⟨by have:=h.few;omega,λt ht=>?_⟩
 obtain ⟨k1,k2,k3,k4,k5⟩:=h.each t ht
 exact ⟨by omega,by omega⟩
theorem Bounds.masks {s:M.Store} (h:Bounds s):Masks s.tables:=by
 refine ⟨h.asc,λt ht=>?_⟩
 obtain ⟨k1,k2,k3,k4,k5⟩:=h.each t ht
 omega
theorem good_in {s:M.Store} (h:M.GoodS s):StoreIn s:=by
 have hb:=good_bounds h
 obtain ⟨h1,h2,h3,h4,h5,h6⟩:=h
 refine ⟨⟨by omega,by omega⟩,λt ht=>?_⟩
 obtain ⟨k1,k2,k3,k4⟩:=h1 t ht
 have km:=(hb.each t ht).2.2.2.2
 refine ⟨⟨by omega,by omega⟩,λz hz=>?_,λr hr=>?_⟩
 ·have:=k3 z hz;exact ⟨by omega,by omega⟩
 ·have:=(M.goodRow_fits.1 (k4 r hr)).rowIn
  unfold M.RowIn M.Ok64 at this
  unfold RowOk I64
  omega
theorem without_length {α:Type} (l:List α) (k:Nat):(M.without l k).length=l.length-1:=by
 unfold M.without
 cases h:l.getLast? with
 |none=>rw [List.getLast?_eq_none_iff.1 h];rfl
 |some x=>simp
theorem cut_few {ts:List M.Table} (h:FewT ts) (i k:Nat):FewT (M.cutT ts i k):=by
 unfold M.cutT
 cases e:ts[i]? with
 |none=>exact h
 |some t=>
  simp only
  have ht:=h.2 t (List.mem_of_getElem? e)
  split
  ·refine ⟨?_,λu hu=>h.2 u (List.mem_of_mem_eraseIdx hu)⟩
   have:=h.1
   rw [List.length_eraseIdx];split<;>omega
  ·refine ⟨by rw [List.length_set];exact h.1,λu hu=>?_⟩
   rcases List.mem_or_eq_of_mem_set hu with hu|rfl
   ·exact h.2 u hu
   ·simp only [without_length];omega
theorem cut_masks {ts:List M.Table} (h:Masks ts) (i k:Nat):Masks (M.cutT ts i k):=by
 unfold M.cutT
 cases e:ts[i]? with
 |none=>exact h
 |some t=>
  simp only
  have ht:=h.2 t (List.mem_of_getElem? e)
  split
  ·exact ⟨h.1.sublist (List.eraseIdx_sublist _ _),λu hu=>h.2 u (List.mem_of_mem_eraseIdx hu)⟩
  ·have hlt:=(List.getElem?_eq_some_iff.1 e).1
   have hti:=(List.getElem?_eq_some_iff.1 e).2
   refine ⟨?_,λu hu=>?_⟩
   ·rw [List.pairwise_iff_getElem] at *
    have hp:=List.pairwise_iff_getElem.1 h.1
    intro a b ha hb hab
    simp only [List.length_set] at ha hb
    have k:=hp a b ha hb hab
    rw [List.getElem_set,List.getElem_set]
    split<;>split
    ·omega
    ·rename_i q1 q2;subst q1;rw [hti] at k;exact k
    ·rename_i q1 q2;subst q2;rw [hti] at k;exact k
    ·exact k
   ·rcases List.mem_or_eq_of_mem_set hu with hu|rfl
    ·exact h.2 u hu
    ·exact ht
theorem good_sized {s:M.Store} (g:M.GoodS s):Sized s:=by
 have b:=good_bounds g
 refine ⟨by have:=b.few;omega,λt ht=>?_⟩
 obtain ⟨k1,k2,k3,k4,k5⟩:=b.each t ht
 omega
theorem agg_store {w:World} {base:Nat} {vt:Value} {s:M.Store} {hs:List (Value×Value)} (h:TabsAtH w base vt s.tables hs):StoreAt w 0 (.agg #[vt,.int .i64 s.next]) s:=StoreAt.mono (lo:=base) ⟨vt,rfl,hs,h⟩ (Nat.zero_le _)
def NewOr (w w':World) (v v':Value) (s x:M.Store):Prop:=(v'=v/\x=s)\/StoreAt w' w.heap.size v' x
theorem agg_new {w0 w:World} {base:Nat} {vt v:Value} {s0 s:M.Store} {hs:List (Value×Value)} (h:TabsAtH w base vt s.tables hs) (hb:w0.heap.size<=base):
  StoreAt w 0 (.agg #[vt,.int .i64 s.next]) s/\NewOr w0 w v (.agg #[vt,.int .i64 s.next]) s0 s:=⟨agg_store h,.inr (StoreAt.mono (lo:=base) ⟨vt,rfl,hs,h⟩ hb)⟩
theorem kill_calls {w:World} {lo:Nat} {v:Value} {s:M.Store} (h:StoreAt w lo v s) (hin:StoreIn s) (id:Int):
  Calls Tryz.prog 20 #[v,.int .i64 id] w λe w'=>∃v',e=.returned (.tuple #[v',.int .i64 (M.kill s id).2])/\(StoreAt w' 0 v' (M.kill s id).1/\NewOr w w' v v' s (M.kill s id).1)/\Below w.heap.size w w':=by
 have HG:=hI (λW (hb:Below w.heap.size w W)=>storeGood_calls (h.below hb) hin)
 have HF:=hI (λW (hb:Below w.heap.size w W)=>find_calls (h.below hb) id)
 have HST:=hI h
 have HOW:=hI (λW (hb:Below w.heap.size w W)=>own_calls (h.below hb))
 obtain ⟨vt,rfl,hs,hT⟩:=h
 obtain ⟨a,cap,rfl⟩:=hT.val
 clear hT hin
 by_cases hg:M.good s=true
 ·have hgs:=(M.good_iff s).1 hg
  rw [hg] at HG
  cases hf:M.find s id with
  |none=>
   have hfo:M.found s id=(0,0,false):=by unfold M.found;rw [hf]
   rw [hfo] at HF
   have HR:Hid (M.kill s id=(s,3)):=hI (by unfold M.kill;rw [hg,hf];rfl)
   rw [HR.out]
   clear hf hfo hg hgs HOW
   go_enter Tryz.func20,Tryz.ntmps20
   go_wp2_with (first|(go_at_call 38;refine (HG.out _ bel9).mono ?_;rintro e w1 ⟨rfl,hb1⟩;obtain ⟨hc1,hf1⟩:=bcell hb1;have hz1:=hb1.size;(try simp at hz1);have f1_0:w.heap.size<w1.heap.size:=bO;have g1_0:w.heap.size<w.heap.size+1+1:=bO;have f1_1:w.heap.size+1<w1.heap.size:=bO;have g1_1:w.heap.size+1<w.heap.size+1+1:=bO;have K1:Below w.heap.size w w1:=(show Below w.heap.size w _ from bel9).trans (hb1.mono sid9))|(go_at_call 39;refine (HF.out _ bel9).mono ?_;rintro e w2 ⟨rfl,hb2⟩;obtain ⟨hc2,hf2⟩:=bcell hb2;have hz2:=hb2.size;(try simp at hz2);have f2_0:w.heap.size<w2.heap.size:=bO;have f2_1:w.heap.size+1<w2.heap.size:=bO;have K2:Below w.heap.size w w2:=(show Below w.heap.size w _ from bel9).trans (hb2.mono sid9)))
   refine bodyPost_ret (v:=.tuple #[.agg #[.slice a s.tables.length cap,.int .i64 s.next],.int .i64 3]) ?_ rfl ⟨_,rfl,⟨(HST.out.below bel9).mono (Nat.zero_le _),.inl ⟨rfl,rfl⟩⟩,bel9⟩
   simp only [results,Tryz.results20]
   go_simp
  |some p=>
   obtain ⟨i,k⟩:=p
   have hfo:M.found s id=((i:Int),(k:Int),true):=by unfold M.found;rw [hf]
   rw [hfo] at HF
   have HR:Hid (M.kill s id=(M.cut s i k,0)):=hI (by unfold M.kill;rw [hg,hf];rfl)
   rw [HR.out]
   have hbd:=good_bounds hgs
   obtain ⟨t,ht,hmem,hki,hid⟩:=M.findT_at hf
   have hee:=hbd.each t hmem
   have HT:=hI ht
   have HN1:Hid (s.tables.length<=1000):=hI (by have:=hbd.few;omega)
   have HN2:=hI hki
   have HN3:Hid (t.ids.length=t.rows.length):=hI hee.2.1.symm
   have HN4:Hid (t.ids.length<=1000):=hI bO
   have HSH:=hI hbd.short
   clear hf hfo hg hgs hbd ht hmem hki hid hee
   go_enter Tryz.func20,Tryz.ntmps20
   go_wp2_with (first|(go_at_call 38;refine (HG.out _ bel9).mono ?_;rintro e w1 ⟨rfl,hb1⟩;obtain ⟨hc1,hf1⟩:=bcell hb1;have hz1:=hb1.size;(try simp at hz1);have f1_0:w.heap.size<w1.heap.size:=bO;have g1_0:w.heap.size<w.heap.size+1+1:=bO;have f1_1:w.heap.size+1<w1.heap.size:=bO;have g1_1:w.heap.size+1<w.heap.size+1+1:=bO;have K1:Below w.heap.size w w1:=(show Below w.heap.size w _ from bel9).trans (hb1.mono sid9))|(go_at_call 39;refine (HF.out _ bel9).mono ?_;rintro e w2 ⟨rfl,hb2⟩;obtain ⟨hc2,hf2⟩:=bcell hb2;have hz2:=hb2.size;(try simp at hz2);have f2_0:w.heap.size<w2.heap.size:=bO;have f2_1:w.heap.size+1<w2.heap.size:=bO;have K2:Below w.heap.size w w2:=(show Below w.heap.size w _ from bel9).trans (hb2.mono sid9))|(go_at_call 42;refine (HOW.out _ bel9 HSH.out).mono ?_;rintro e w3 ⟨vt1,hs1,rfl,ho3,hb3⟩;have K3:Below w.heap.size w w3:=(show Below w.heap.size w _ from bel9).trans (hb3.mono sid9);have bx3:Blk w3 w.heap.size 51 #[.slice a s.tables.length cap,.int .i64 s.next]:=(by repeat first|with_reducible apply Blk.below (hb:=hb3) (hg:=sid9)|with_reducible apply Blk.below (hb:=hb2) (hg:=sid9)|with_reducible apply Blk.below (hb:=hb1) (hg:=sid9)|with_reducible exact Blk.new_at (h:=rO)|with_reducible apply Blk.alloc);obtain ⟨av,cv,rfl⟩:=own_form ho3.row;have c30:=bx3.cell 0;have c31:=bx3.cell 1;have f3:=(λi=>bx3.free i);have z3:=bx3.lt;simp at c30 c31;have hz3:=hb3.size;(try simp at hz3);obtain ⟨hc3,hf3⟩:=bcell hb3;have g3a:w.heap.size<w2.heap.size:=bO;have g3b:w.heap.size+1<w2.heap.size:=bO;have g3c:w.heap.size+1<w3.heap.size:=bO)|(go_at_call 44;refine (cut_calls (i:=i) (k:=k) (sb:=w.heap.size) (next:=s.next) (ho3.same lR (λg h1 h2=>(bS _ _ _ _ (by show g≠w.heap.size;omega)).trans (bS _ _ _ _ (by show g≠w.heap.size;omega)))) (by exact (bx3.put 0 (.slice av s.tables.length cv)).put 1 (.int .i64 s.next)) bO (by first|(simp [World.setCell];done)|(simp [World.setCell];omega)) HN1.out HT.out HN2.out HN3.out HN4.out).mono ?_;rintro e w4 ⟨rfl,vt4,hs4,bx4,ho4,but4⟩;obtain ⟨a4,q4,rfl⟩:=own_form ho4.row;have c40:=bx4.cell 0;have c41:=bx4.cell 1;simp at c40 c41;have z4:=bx4.lt;have f4:=(λi=>bx4.free i);have B4:=but4.block (w.heap.size+1) g3b bO;have B5:=B4.trans ((bS _ _ _ _ (by show w.heap.size+1≠w.heap.size;omega)).trans (bS _ _ _ _ (by show w.heap.size+1≠w.heap.size;omega)));have d4:=(λo=>World.cell?_of_block (a:=⟨w.heap.size+1,o,none⟩) B5);have e4:=(λo=>World.frozen?_of_block (a:=⟨w.heap.size+1,o,none⟩) B5);clear B4 B5;have z5:w.heap.size+1<w4.heap.size:=(by have:=but4.size;simp [World.setCell] at this;omega)))
   refine bodyPost_ret (v:=.tuple #[.agg #[.slice a4 (M.cutT s.tables i k).length q4,.int .i64 s.next],.int .i64 0]) ?_ rfl ⟨_,rfl,agg_new (s:=M.cut s i k) (ho4.same lR (λg h1 h2=>(bS _ _ _ _ (by show g≠w.heap.size+1;omega)).trans (bS _ _ _ _ (by show g≠w.heap.size+1;omega)))).tabs sid9,?_⟩
   ·simp only [results,Tryz.results20]
    go_simp
   ·have KF:Below w.heap.size w w4:=(show Below w.heap.size w _ from bel9).trans (but4.below bO lR)
    exact bel9
 ·have hg0:M.good s=false:=by simpa using hg
  rw [hg0] at HG
  have HR:Hid (M.kill s id=(s,1)):=hI (by unfold M.kill;rw [hg0];rfl)
  rw [HR.out]
  clear hg hg0 HF HOW
  go_enter Tryz.func20,Tryz.ntmps20
  go_wp2_with (first|(go_at_call 38;refine (HG.out _ bel9).mono ?_;rintro e w1 ⟨rfl,hb1⟩;obtain ⟨hc1,hf1⟩:=bcell hb1;have hz1:=hb1.size;(try simp at hz1);have f1_0:w.heap.size<w1.heap.size:=bO;have g1_0:w.heap.size<w.heap.size+1+1:=bO;have f1_1:w.heap.size+1<w1.heap.size:=bO;have g1_1:w.heap.size+1<w.heap.size+1+1:=bO;have K1:Below w.heap.size w w1:=(show Below w.heap.size w _ from bel9).trans (hb1.mono sid9)))
  refine bodyPost_ret (v:=.tuple #[.agg #[.slice a s.tables.length cap,.int .i64 s.next],.int .i64 1]) ?_ rfl ⟨_,rfl,⟨(HST.out.below bel9).mono (Nat.zero_le _),.inl ⟨rfl,rfl⟩⟩,bel9⟩
  simp only [results,Tryz.results20]
  go_simp
theorem set_done {w W:World} {base:Nat} {vt:Value} {ts:List M.Table} {hs:List (Value×Value)} {i k gr cr:Nat} {t:M.Table} {v1:Value} {r:M.Row} (h:OwnTabs w base vt ts hs) (hat:ts[i]?=some t)
  (hp:hs[i]?=some (v1,.slice (some ⟨gr,0,none⟩) t.rows.length cr)) (hk:k<t.rows.length) (hl:t.ids.length=t.rows.length)
  (hW:(((((((w.setCell ⟨gr,k*8,none⟩ (.int .i64 r.X)).setCell ⟨gr,k*8+1,none⟩ (.int .i64 r.Y)).setCell ⟨gr,k*8+2,none⟩ (.int .i64 r.PX)).setCell ⟨gr,k*8+3,none⟩ (.int .i64 r.PY)).setCell ⟨gr,k*8+4,none⟩ (.int .i64 r.W)).setCell ⟨gr,k*8+5,none⟩ (.int .i64 r.H)).setCell ⟨gr,k*8+6,none⟩ (.int .i64 r.M)).setCell ⟨gr,k*8+7,none⟩ (.int .i64 r.R)=W):
  OwnTabs W base vt (M.setT ts i k r) hs:=by
 subst hW
 have far:∀(U:World) (b j:Nat) (u:Value) (g:Nat),g≠b->(U.setCell ⟨b,j,none⟩ u).heap[g]?=U.heap[g]?:=λU b j u g hg=>bS _ _ _ _ hg
 have hs1:=(List.getElem?_eq_some_iff.1 hp)
 have hke:=h.each i t _ hat hp
 have hset:hs.set i (v1,.slice (some ⟨gr,0,none⟩) t.rows.length cr)=hs:=by
  obtain ⟨h1,h2⟩:=hs1
  rw [←h2,List.set_getElem_self]
 have hv:=λg (hg:vt.ownBlock=some g)=>blks_vt h.apart hg (List.mem_of_getElem? hp)
 have hnv:v1.ownBlock≠some gr:=λe=>blks_pair h.apart hp e (by simp [Value.ownBlock])
 have hsame:∀(v:Value),v.ownBlock≠some gr->∀g,v.ownBlock=some g->((((((((w.setCell ⟨gr,k*8,none⟩ (.int .i64 r.X)).setCell ⟨gr,k*8+1,none⟩ (.int .i64 r.Y)).setCell ⟨gr,k*8+2,none⟩ (.int .i64 r.PX)).setCell ⟨gr,k*8+3,none⟩ (.int .i64 r.PY)).setCell ⟨gr,k*8+4,none⟩ (.int .i64 r.W)).setCell ⟨gr,k*8+5,none⟩ (.int .i64 r.H)).setCell ⟨gr,k*8+6,none⟩ (.int .i64 r.M)).setCell ⟨gr,k*8+7,none⟩ (.int .i64 r.R)).heap[g]?=w.heap[g]?:=by
  intro v hn g hg
  have hne:g≠gr:=λe=>hn (by rw [hg,e])
  rw [far _ _ _ _ _ hne,far _ _ _ _ _ hne,far _ _ _ _ _ hne,far _ _ _ _ _ hne,far _ _ _ _ _ hne,far _ _ _ _ _ hne,far _ _ _ _ _ hne,far _ _ _ _ _ hne]
 have hvt:vt.ownBlock≠some gr:=λe=>(hv gr e).2 (by simp [Value.ownBlock])
 unfold M.setT
 rw [hat]
 have R:=OwnTabs.turn (W:=(((((((w.setCell ⟨gr,k*8,none⟩ (.int .i64 r.X)).setCell ⟨gr,k*8+1,none⟩ (.int .i64 r.Y)).setCell ⟨gr,k*8+2,none⟩ (.int .i64 r.PX)).setCell ⟨gr,k*8+3,none⟩ (.int .i64 r.PY)).setCell ⟨gr,k*8+4,none⟩ (.int .i64 r.W)).setCell ⟨gr,k*8+5,none⟩ (.int .i64 r.H)).setCell ⟨gr,k*8+6,none⟩ (.int .i64 r.M)).setCell ⟨gr,k*8+7,none⟩ (.int .i64 r.R)) h hat hp (t':=⟨t.mask,t.ids,t.rows.set k r⟩) (q:=(v1,.slice (some ⟨gr,0,none⟩) t.rows.length cr)) rfl (by rw [hset];exact own_same h.row (hsame vt hvt)) ⟨own_same hke.ids (hsame v1 hnv),by
  have P:=own_put (own_put (own_put (own_put (own_put (own_put (own_put (own_put hke.rows (k*8) (.int .i64 r.X)) (k*8+1) (.int .i64 r.Y)) (k*8+2) (.int .i64 r.PX)) (k*8+3) (.int .i64 r.PY)) (k*8+4) (.int .i64 r.W)) (k*8+5) (.int .i64 r.H)) (k*8+6) (.int .i64 r.M)) (k*8+7) (.int .i64 r.R)
  rw [rowsL_set _ _ _ hk] at P
  simpa using P⟩ rfl rfl (λg hg q1 q2 q3=>by
  have hne:g≠gr:=λe=>q3 (by simp [Value.ownBlock,e])
  rw [far _ _ _ _ _ hne,far _ _ _ _ _ hne,far _ _ _ _ _ hne,far _ _ _ _ _ hne,far _ _ _ _ _ hne,far _ _ _ _ _ hne,far _ _ _ _ _ hne,far _ _ _ _ _ hne])
 rw [hset] at R
 exact R
theorem set_calls {w:World} {lo:Nat} {v:Value} {s:M.Store} (h:StoreAt w lo v s) (hin:StoreIn s) (id:Int) (r:M.Row):
  Calls Tryz.prog 48 #[v,.int .i64 id,rowV r] w λe w'=>∃v',e=.returned (.tuple #[v',.int .i64 (M.set s id r).2])/\(StoreAt w' 0 v' (M.set s id r).1/\NewOr w w' v v' s (M.set s id r).1)/\Below w.heap.size w w':=by
 have HG:=hI (λW (hb:Below w.heap.size w W)=>storeGood_calls (h.below hb) hin)
 have HF:=hI (λW (hb:Below w.heap.size w W)=>find_calls (h.below hb) id)
 have HST:=hI h
 have HOW:=hI (λW (hb:Below w.heap.size w W)=>own_calls (h.below hb))
 obtain ⟨vt,rfl,hs,hT⟩:=h
 obtain ⟨a,cap,rfl⟩:=hT.val
 clear hin
 by_cases hg:M.good s=true
 ·have hgs:=(M.good_iff s).1 hg
  rw [hg] at HG
  cases hf:M.find s id with
  |none=>
   have hfo:M.found s id=(0,0,false):=by unfold M.found;rw [hf]
   rw [hfo] at HF
   have HR:Hid (M.set s id r=(s,3)):=hI (by unfold M.set;rw [hg,hf];rfl)
   rw [HR.out]
   clear hf hfo hg hgs HOW hT
   go_enter Tryz.func48,Tryz.ntmps48
   go_wp2_with (first|(go_at_call 38;refine (HG.out _ bel9).mono ?_;rintro e w1 ⟨rfl,hb1⟩;obtain ⟨hc1,hf1⟩:=bcell hb1;have hz1:=hb1.size;(try simp at hz1);have f1_0:w.heap.size<w1.heap.size:=bO;have g1_0:w.heap.size<w.heap.size+1+1+1:=bO;have f1_1:w.heap.size+1<w1.heap.size:=bO;have g1_1:w.heap.size+1<w.heap.size+1+1+1:=bO;have f1_2:w.heap.size+1+1<w1.heap.size:=bO;have g1_2:w.heap.size+1+1<w.heap.size+1+1+1:=bO;have K1:Below w.heap.size w w1:=(show Below w.heap.size w _ from bel9).trans (hb1.mono sid9))|(go_at_call 39;refine (HF.out _ bel9).mono ?_;rintro e w2 ⟨rfl,hb2⟩;obtain ⟨hc2,hf2⟩:=bcell hb2;have hz2:=hb2.size;(try simp at hz2);have f2_0:w.heap.size<w2.heap.size:=bO;have f2_1:w.heap.size+1<w2.heap.size:=bO;have f2_2:w.heap.size+1+1<w2.heap.size:=bO;have K2:Below w.heap.size w w2:=(show Below w.heap.size w _ from bel9).trans (hb2.mono sid9)))
   refine bodyPost_ret (v:=.tuple #[.agg #[.slice a s.tables.length cap,.int .i64 s.next],.int .i64 3]) ?_ rfl ⟨_,rfl,⟨(HST.out.below bel9).mono (Nat.zero_le _),.inl ⟨rfl,rfl⟩⟩,bel9⟩
   simp only [results,Tryz.results48]
   go_simp
  |some p=>
   obtain ⟨i,k⟩:=p
   have hfo:M.found s id=((i:Int),(k:Int),true):=by unfold M.found;rw [hf]
   rw [hfo] at HF
   have hbd:=good_bounds hgs
   obtain ⟨t,ht,hmem,hki,hid⟩:=M.findT_at hf
   have hee:=hbd.each t hmem
   obtain ⟨b,o,cap',a1,cp1,a2,cp2,e,hlo,hp,c0,c1,c2,h1,h2⟩:=hT.at2 ht
   obtain ⟨rfl,rfl⟩:a=some ⟨b,o,none⟩/\cap=cap':=by simpa using e
   have hit:i<s.tables.length:=(List.getElem?_eq_some_iff.1 ht).1
   have C0:=hI c0
   have HT:=hI ht
   have HN1:s.tables.length<=1000:=by have:=hbd.few;omega
   have HN2:=hI hki
   have HN3:Hid (t.ids.length=t.rows.length):=hI hee.2.1.symm
   have HN4:Hid (t.ids.length<=1000):=hI bO
   have HSH:=hI hbd.short
   have hma:M.maskAt s i=t.mask:=by unfold M.maskAt;rw [ht]
   have HQ:=hI (λW=>goodRow_calls t.mask r W)
   have HN0:Hid (0<s.tables.length):=hI bO
   have HN5:=hI hit
   have HN7:Hid (k<t.rows.length):=hI bO
   have HN6:Hid (0<t.rows.length):=hI bO
   obtain ⟨q,hqr⟩:∃q,t.rows[k]?=some q:=⟨_,List.getElem?_eq_getElem bO⟩
   have HQR:=hI hqr
   have hk10:k<t.rows.length:=HN7.out
   clear hqr
   have hG0:=hg
   have hf0:=hf
   clear hf hfo
   clear hg hgs hbd hmem hki hid hee c0 c1 c2 h1 h2 hT e hp
   by_cases hq:M.goodRow t.mask r=true
   ·rw [hq] at HQ
    have HR:Hid (M.set s id r=({s with tables:=M.setT s.tables i k r},0)):=hI (by
     unfold M.set
     rw [hG0,hf0]
     simp only [hma,hq]
     rfl)
    rw [HR.out]
    clear hG0 hf0 hma hq
    go_enter Tryz.func48,Tryz.ntmps48
    go_wp2_with (first|(go_at_call 38;refine (HG.out _ bel9).mono ?_;rintro e w1 ⟨rfl,hb1⟩;obtain ⟨hc1,hf1⟩:=bcell hb1;have hz1:=hb1.size;(try simp at hz1);have f1_0:w.heap.size<w1.heap.size:=bO;have g1_0:w.heap.size<w.heap.size+1+1+1:=bO;have f1_1:w.heap.size+1<w1.heap.size:=bO;have g1_1:w.heap.size+1<w.heap.size+1+1+1:=bO;have f1_2:w.heap.size+1+1<w1.heap.size:=bO;have g1_2:w.heap.size+1+1<w.heap.size+1+1+1:=bO;have K1:Below w.heap.size w w1:=(show Below w.heap.size w _ from bel9).trans (hb1.mono sid9))|(go_at_call 39;refine (HF.out _ bel9).mono ?_;rintro e w2 ⟨rfl,hb2⟩;obtain ⟨hc2,hf2⟩:=bcell hb2;have hz2:=hb2.size;(try simp at hz2);have f2_0:w.heap.size<w2.heap.size:=bO;have f2_1:w.heap.size+1<w2.heap.size:=bO;have f2_2:w.heap.size+1+1<w2.heap.size:=bO;have K2:Below w.heap.size w w2:=(show Below w.heap.size w _ from bel9).trans (hb2.mono sid9);have c0:=below_cell C0.out K2))
    go_region_with (go_at_call 40;refine (HQ.out _).mono ?_;rintro e w3 ⟨rfl,hb3q⟩;have hb3:Below w2.heap.size w2 w3:=(Below.refl _ w2).drew.trans hb3q;have hz3:=hb3.size;obtain ⟨hc3,hf3⟩:=bcell hb3;have f3_0:w.heap.size<w3.heap.size:=bO;have f3_1:w.heap.size+1<w3.heap.size:=bO;have f3_2:w.heap.size+1+1<w3.heap.size:=bO;have K3:Below w.heap.size w w3:=(show Below w.heap.size w _ from bel9).trans (hb3.mono sid9))
    all_goals
     go_wp2_with (first|(go_at_call 42;refine (HOW.out _ bel9 HSH.out).mono ?_;rintro e w4 ⟨vt1,hs1,rfl,ho4,hb4⟩;have K4:Below w.heap.size w w4:=(show Below w.heap.size w _ from bel9).trans (hb4.mono sid9);have bx4:Blk w4 w.heap.size 51 #[.slice (some ⟨b,o,none⟩) s.tables.length cap,.int .i64 s.next]:=(by repeat first|with_reducible apply Blk.below (hb:=hb4) (hg:=sid9)|with_reducible apply Blk.below (hb:=hb3) (hg:=sid9)|with_reducible apply Blk.below (hb:=hb2) (hg:=sid9)|with_reducible apply Blk.below (hb:=hb1) (hg:=sid9)|with_reducible exact Blk.new_at (h:=rO)|with_reducible apply Blk.alloc|with_reducible apply Blk.drew);obtain ⟨g0,cap0,rfl,hg0,hg1⟩:=own_val ho4.row HN0.out;obtain ⟨⟨v1,v2⟩,hp1⟩:∃p,hs1[i]?=some p:=⟨_,List.getElem?_eq_getElem (by have:=ho4.len;have:=HN5.out;omega)⟩;have hkk:=ho4.each i t (v1,v2) HT.out hp1;obtain ⟨gr,cr,e2,hgr,hgr1⟩:=own_val hkk.rows HN6.out;simp only at e2;subst e2;obtain ⟨x0,x1,x2⟩:=tabL_at s.tables hs1 i HT.out hp1;have T2:=(ho4.row.cellAt (i*3+2) (by have:=HN5.out;omega)).trans x2;have TF:=(λj=>ho4.row.frozenAt j);have RF:=(λj=>hkk.rows.frozenAt j);have rk:∀j,j<8->w4.cell? ⟨gr,k*8+j,none⟩=(rowL q)[j]?:=(λj hj=>(hkk.rows.cellAt _ (by have:=HN7.out;omega)).trans (rowsL_at _ _ _ HQR.out hj));have k0:=rk 0 bO;have k1:=rk 1 bO;have k2:=rk 2 bO;have k3:=rk 3 bO;have k4:=rk 4 bO;have k5:=rk 5 bO;have k6:=rk 6 bO;have k7:=rk 7 bO;simp only [rowL,List.getElem?_cons_zero,List.getElem?_cons_succ,Nat.add_zero] at k0 k1 k2 k3 k4 k5 k6 k7;have n1:g0≠w.heap.size:=bO;have n2:gr≠w.heap.size:=bO;have n3:gr≠w.heap.size+1:=bO;have n4:gr≠w.heap.size+1+1:=bO;have HO4:=hI ho4;have HP1:=hI hp1;clear rk x0 x1 x2;have c40:=bx4.cell 0;have c41:=bx4.cell 1;have f4:=(λi=>bx4.free i);have z4:=bx4.lt;simp at c40 c41;have hz4:=hb4.size;(try simp at hz4);obtain ⟨hc4,hf4⟩:=bcell hb4;have g4a:w.heap.size<w3.heap.size:=bO;have g4b:w.heap.size+1<w3.heap.size:=bO;have g4c:w.heap.size+1+1<w3.heap.size:=bO;have g4d:w.heap.size+1<w4.heap.size:=bO;have g4e:w.heap.size+1+1<w4.heap.size:=bO))
     go_region
     go_wp2_with fail
     obtain ⟨wA,hA⟩:∃W,W=(w4.setCell ⟨w.heap.size,0,none⟩ (.slice (some ⟨g0,0,none⟩) s.tables.length cap0)).setCell ⟨w.heap.size,1,none⟩ (.int .i64 s.next):=⟨_,rfl⟩
     have HOA:OwnTabs wA w3.heap.size (.slice (some ⟨g0,0,none⟩) s.tables.length cap0) s.tables hs1:=by
      refine HO4.out.same lR (λg h1 h2=>?_)
      rw [hA]
      exact (bS _ _ _ _ (by show g≠w.heap.size;omega)).trans (bS _ _ _ _ (by show g≠w.heap.size;omega))
     have KA:Below w.heap.size w wA:=by rw [hA];exact bel9
     rw [←hA]
     obtain ⟨wB,hB⟩:∃W,(((((((wA.setCell ⟨gr,k*8,none⟩ (.int .i64 r.X)).setCell ⟨gr,k*8+1,none⟩ (.int .i64 r.Y)).setCell ⟨gr,k*8+2,none⟩ (.int .i64 r.PX)).setCell ⟨gr,k*8+3,none⟩ (.int .i64 r.PY)).setCell ⟨gr,k*8+4,none⟩ (.int .i64 r.W)).setCell ⟨gr,k*8+5,none⟩ (.int .i64 r.H)).setCell ⟨gr,k*8+6,none⟩ (.int .i64 r.M)).setCell ⟨gr,k*8+7,none⟩ (.int .i64 r.R)=W:=⟨_,rfl⟩
     have HOB:=set_done HOA HT.out HP1.out HN7.out HN3.out hB
     have KB:Below w.heap.size w wB:=by rw [←hB];exact bel9
     rw [hB]
     refine bodyPost_ret (v:=.tuple #[.agg #[.slice (some ⟨g0,0,none⟩) s.tables.length cap0,.int .i64 s.next],.int .i64 0]) ?_ rfl ⟨_,rfl,agg_new (s:={s with tables:=M.setT s.tables i k r}) (HOB.same lR (λg h1 h2=>(bS _ _ _ _ (by show g≠w.heap.size+1+1;omega)).trans (bS _ _ _ _ (by show g≠w.heap.size+1+1;omega)))).tabs sid9,?_⟩
     ·subst hB;subst hA
      simp only [results,Tryz.results48]
      go_simp
     ·exact bel9
   ·have hq0:M.goodRow t.mask r=false:=by simpa using hq
    rw [hq0] at HQ
    have HR:Hid (M.set s id r=(s,2)):=hI (by
     unfold M.set
     rw [hG0,hf0]
     simp only [hma,hq0]
     rfl)
    rw [HR.out]
    clear hG0 hf0 hma hq hq0
    go_enter Tryz.func48,Tryz.ntmps48
    go_wp2_with (first|(go_at_call 38;refine (HG.out _ bel9).mono ?_;rintro e w1 ⟨rfl,hb1⟩;obtain ⟨hc1,hf1⟩:=bcell hb1;have hz1:=hb1.size;(try simp at hz1);have f1_0:w.heap.size<w1.heap.size:=bO;have g1_0:w.heap.size<w.heap.size+1+1+1:=bO;have f1_1:w.heap.size+1<w1.heap.size:=bO;have g1_1:w.heap.size+1<w.heap.size+1+1+1:=bO;have f1_2:w.heap.size+1+1<w1.heap.size:=bO;have g1_2:w.heap.size+1+1<w.heap.size+1+1+1:=bO;have K1:Below w.heap.size w w1:=(show Below w.heap.size w _ from bel9).trans (hb1.mono sid9))|(go_at_call 39;refine (HF.out _ bel9).mono ?_;rintro e w2 ⟨rfl,hb2⟩;obtain ⟨hc2,hf2⟩:=bcell hb2;have hz2:=hb2.size;(try simp at hz2);have f2_0:w.heap.size<w2.heap.size:=bO;have f2_1:w.heap.size+1<w2.heap.size:=bO;have f2_2:w.heap.size+1+1<w2.heap.size:=bO;have K2:Below w.heap.size w w2:=(show Below w.heap.size w _ from bel9).trans (hb2.mono sid9);have c0:=below_cell C0.out K2))
    go_region_with (go_at_call 40;refine (HQ.out _).mono ?_;rintro e w3 ⟨rfl,hb3q⟩;have hb3:Below w2.heap.size w2 w3:=(Below.refl _ w2).drew.trans hb3q;have hz3:=hb3.size;obtain ⟨hc3,hf3⟩:=bcell hb3;have f3_0:w.heap.size<w3.heap.size:=bO;have f3_1:w.heap.size+1<w3.heap.size:=bO;have f3_2:w.heap.size+1+1<w3.heap.size:=bO;have K3:Below w.heap.size w w3:=(show Below w.heap.size w _ from bel9).trans (hb3.mono sid9))
    all_goals
     go_wp2_with fail
     refine bodyPost_ret (v:=.tuple #[.agg #[.slice (some ⟨b,o,none⟩) s.tables.length cap,.int .i64 s.next],.int .i64 2]) ?_ rfl ⟨_,rfl,⟨(HST.out.below bel9).mono (Nat.zero_le _),.inl ⟨rfl,rfl⟩⟩,bel9⟩
     simp only [results,Tryz.results48]
     go_simp
 ·have hg0:M.good s=false:=by simpa using hg
  rw [hg0] at HG
  have HR:Hid (M.set s id r=(s,1)):=hI (by unfold M.set;rw [hg0];rfl)
  rw [HR.out]
  clear hg hg0 HF HOW hT
  go_enter Tryz.func48,Tryz.ntmps48
  go_wp2_with (first|(go_at_call 38;refine (HG.out _ bel9).mono ?_;rintro e w1 ⟨rfl,hb1⟩;obtain ⟨hc1,hf1⟩:=bcell hb1;have hz1:=hb1.size;(try simp at hz1);have f1_0:w.heap.size<w1.heap.size:=bO;have g1_0:w.heap.size<w.heap.size+1+1+1:=bO;have f1_1:w.heap.size+1<w1.heap.size:=bO;have g1_1:w.heap.size+1<w.heap.size+1+1+1:=bO;have f1_2:w.heap.size+1+1<w1.heap.size:=bO;have g1_2:w.heap.size+1+1<w.heap.size+1+1+1:=bO;have K1:Below w.heap.size w w1:=(show Below w.heap.size w _ from bel9).trans (hb1.mono sid9)))
  refine bodyPost_ret (v:=.tuple #[.agg #[.slice a s.tables.length cap,.int .i64 s.next],.int .i64 1]) ?_ rfl ⟨_,rfl,⟨(HST.out.below bel9).mono (Nat.zero_le _),.inl ⟨rfl,rfl⟩⟩,bel9⟩
  simp only [results,Tryz.results48]
  go_simp
theorem Lies.same {w W:World} {lo:Nat} {v:Value} {n k:Nat} {xs:List Value} (h:Lies w lo v n k xs) (hs:∀g,lo<=g->g<w.heap.size->W.heap[g]?=w.heap[g]?):Lies W lo v n k xs:=by
 obtain ⟨h1,hm,a,cap,h2,h3⟩:=h
 refine ⟨h1,hm,a,cap,h2,λhne=>?_⟩
 obtain ⟨b,o,e,hl,hc⟩:=h3 hne
 exact ⟨b,o,e,hl,λj u hj=>(World.cell?_of_block (a:=⟨b,o+j,none⟩) (hs b hl (cell_lt (hc j u hj)))).trans (hc j u hj)⟩
theorem StoreAt.same {w W:World} {lo:Nat} {v:Value} {s:M.Store} (h:StoreAt w lo v s) (hs:∀g,lo<=g->g<w.heap.size->W.heap[g]?=w.heap[g]?):StoreAt W lo v s:=by
 obtain ⟨vt,e,hs',h1,h2,h3⟩:=h
 exact ⟨vt,e,hs',h1,h2.same hs,λi t p a b=>⟨(h3 i t p a b).1.same hs,(h3 i t p a b).2.same hs⟩⟩
theorem tabs_same {w W:World} {base:Nat} {vt:Value} {ts:List M.Table} {hs:List (Value×Value)} (h:TabsAtH w base vt ts hs) (hs':∀g,base<=g->W.heap[g]?=w.heap[g]?):TabsAtH W base vt ts hs:=by
 have key:∀{v:Value} {n k:Nat} {xs:List Value},Lies w base v n k xs->Lies W base v n k xs:=by
  rintro v n k xs ⟨h1,hm,a,cap,h2,h3⟩
  refine ⟨h1,hm,a,cap,h2,λhne=>?_⟩
  obtain ⟨b,o,e,hl,hc⟩:=h3 hne
  exact ⟨b,o,e,hl,λj u hj=>(World.cell?_of_block (a:=⟨b,o+j,none⟩) (hs' b hl)).trans (hc j u hj)⟩
 exact ⟨h.1,key h.2.1,λi t p h1 h2=>⟨key (h.2.2 i t p h1 h2).1,key (h.2.2 i t p h1 h2).2⟩⟩
theorem spawn_calls {w:World} {lo:Nat} {v:Value} {s:M.Store} (h:StoreAt w lo v s) (hin:StoreIn s) (m:Int) (r:M.Row):
  Calls Tryz.prog 19 #[v,.int .i64 m,rowV r] w λe w'=>∃v',e=.returned (.tuple #[v',.int .i64 (M.spawn s m r).2.1,.int .i64 (M.spawn s m r).2.2])/\(StoreAt w' 0 v' (M.spawn s m r).1/\NewOr w w' v v' s (M.spawn s m r).1)/\Below w.heap.size w w':=by
 have HG:=hI (λW (hb:Below w.heap.size w W)=>storeGood_calls (h.below hb) hin)
 have HZ:=hI (λW (hb:Below w.heap.size w W)=>size_calls (h.below hb))
 have HST:=hI h
 have HOW:=hI (λW (hb:Below w.heap.size w W)=>own_calls (h.below hb))
 have HQ:=hI (λW=>goodRow_calls m r W)
 obtain ⟨vt,rfl,hs,hT⟩:=h
 obtain ⟨a,cap,rfl⟩:=hT.val
 clear hin hT
 by_cases hg:M.good s=true
 ·have hgs:=(M.good_iff s).1 hg
  rw [hg] at HG
  by_cases hq:M.goodRow m r=true
  ·rw [hq] at HQ
   have hbd:=good_bounds hgs
   have hsz:M.sizeW s.tables=(M.size s:Int):=M.sizeW_eq _ (by have:=hgs.2.2.2.1;omega)
   have hs10:M.size s<=10:=hgs.2.2.2.1
   rw [hsz] at HZ
   have hlo:=hbd.lo
   have hhi:=hbd.hi
   have HSH:=hI hbd.short
   have HMK:Hid (Masks s.tables):=hI hbd.masks
   have HFW:Hid (Few s.tables):=hI hbd.isFew
   have HM:Hid (0<=m/\m<=31):=hI (by have k1:=(M.goodRow_fits.1 hq).lo;have k2:=(M.goodRow_fits.1 hq).hi;omega)
   by_cases h10:10<=M.size s
   ·have HR:Hid (M.spawn s m r=(s,0,5)):=hI (by
     unfold M.spawn
     rw [if_neg (by rw [hg];decide),if_neg (by rw [hq];decide),if_pos (Or.inl h10)])
    rw [HR.out]
    have q10:decide ((10:Int)<=(M.size s:Int))=true:=by simp;omega
    clear hg hgs hq hbd hsz
    go_enter Tryz.func19,Tryz.ntmps19
    go_wp2_with (first|(go_at_call 38;refine (HG.out _ bel9).mono ?_;rintro e w1 ⟨rfl,hb1⟩;obtain ⟨hc1,hf1⟩:=bcell hb1;have hz1:=hb1.size;(try simp at hz1);have f1_0:w.heap.size<w1.heap.size:=bO;have g1_0:w.heap.size<w.heap.size+1+1+1:=bO;have f1_1:w.heap.size+1<w1.heap.size:=bO;have g1_1:w.heap.size+1<w.heap.size+1+1+1:=bO;have f1_2:w.heap.size+1+1<w1.heap.size:=bO;have g1_2:w.heap.size+1+1<w.heap.size+1+1+1:=bO;have K1:Below w.heap.size w w1:=(show Below w.heap.size w _ from bel9).trans (hb1.mono sid9))|(go_at_call 40;refine (HQ.out _).mono ?_;rintro e w2 ⟨rfl,hb2⟩;obtain ⟨hc2,hf2⟩:=bcell hb2;have hz2:=hb2.size;(try simp at hz2);have f2_0:w.heap.size<w2.heap.size:=bO;have f2_1:w.heap.size+1<w2.heap.size:=bO;have f2_2:w.heap.size+1+1<w2.heap.size:=bO;have K2:Below w.heap.size w w2:=(show Below w.heap.size w _ from bel9).trans (hb2.mono sid9))|(go_at_call 41;refine (HZ.out _ bel9).mono ?_;rintro e w3 ⟨rfl,hb3⟩;obtain ⟨hc3,hf3⟩:=bcell hb3;have hz3:=hb3.size;(try simp at hz3);have f3_0:w.heap.size<w3.heap.size:=bO;have f3_1:w.heap.size+1<w3.heap.size:=bO;have f3_2:w.heap.size+1+1<w3.heap.size:=bO;have K3:Below w.heap.size w w3:=(show Below w.heap.size w _ from bel9).trans (hb3.mono sid9)))
    refine bodyPost_ret (v:=.tuple #[.agg #[.slice a s.tables.length cap,.int .i64 s.next],.int .i64 0,.int .i64 5]) ?_ rfl ⟨_,rfl,⟨(HST.out.below bel9).mono (Nat.zero_le _),.inl ⟨rfl,rfl⟩⟩,bel9⟩
    simp only [results,Tryz.results19]
    go_simp
   ·by_cases hn:1048576<=s.next
    ·have HR:Hid (M.spawn s m r=(s,0,5)):=hI (by
      unfold M.spawn
      rw [if_neg (by rw [hg];decide),if_neg (by rw [hq];decide),if_pos (Or.inr hn)])
     rw [HR.out]
     have q10:decide ((10:Int)<=(M.size s:Int))=false:=by simp;omega
     have qn:decide ((1048576:Int)<=s.next)=true:=by simp;omega
     clear hg hgs hq hbd hsz
     go_enter Tryz.func19,Tryz.ntmps19
     go_wp2_with (first|(go_at_call 38;refine (HG.out _ bel9).mono ?_;rintro e w1 ⟨rfl,hb1⟩;obtain ⟨hc1,hf1⟩:=bcell hb1;have hz1:=hb1.size;(try simp at hz1);have f1_0:w.heap.size<w1.heap.size:=bO;have g1_0:w.heap.size<w.heap.size+1+1+1:=bO;have f1_1:w.heap.size+1<w1.heap.size:=bO;have g1_1:w.heap.size+1<w.heap.size+1+1+1:=bO;have f1_2:w.heap.size+1+1<w1.heap.size:=bO;have g1_2:w.heap.size+1+1<w.heap.size+1+1+1:=bO;have K1:Below w.heap.size w w1:=(show Below w.heap.size w _ from bel9).trans (hb1.mono sid9))|(go_at_call 40;refine (HQ.out _).mono ?_;rintro e w2 ⟨rfl,hb2⟩;obtain ⟨hc2,hf2⟩:=bcell hb2;have hz2:=hb2.size;(try simp at hz2);have f2_0:w.heap.size<w2.heap.size:=bO;have f2_1:w.heap.size+1<w2.heap.size:=bO;have f2_2:w.heap.size+1+1<w2.heap.size:=bO;have K2:Below w.heap.size w w2:=(show Below w.heap.size w _ from bel9).trans (hb2.mono sid9))|(go_at_call 41;refine (HZ.out _ bel9).mono ?_;rintro e w3 ⟨rfl,hb3⟩;obtain ⟨hc3,hf3⟩:=bcell hb3;have hz3:=hb3.size;(try simp at hz3);have f3_0:w.heap.size<w3.heap.size:=bO;have f3_1:w.heap.size+1<w3.heap.size:=bO;have f3_2:w.heap.size+1+1<w3.heap.size:=bO;have K3:Below w.heap.size w w3:=(show Below w.heap.size w _ from bel9).trans (hb3.mono sid9)))
     refine bodyPost_ret (v:=.tuple #[.agg #[.slice a s.tables.length cap,.int .i64 s.next],.int .i64 0,.int .i64 5]) ?_ rfl ⟨_,rfl,⟨(HST.out.below bel9).mono (Nat.zero_le _),.inl ⟨rfl,rfl⟩⟩,bel9⟩
     simp only [results,Tryz.results19]
     go_simp
    ·have HR:Hid (M.spawn s m r=(M.put {s with next:=s.next+1} s.next m r,s.next,0)):=hI (by
      unfold M.spawn
      rw [if_neg (by rw [hg];decide),if_neg (by rw [hq];decide),if_neg bO])
     rw [HR.out]
     have hw1:IntKind.i64.wrap (s.next+1)=s.next+1:=by rw [IntKind.wrap_i64];omega
     clear hg hq hgs hbd hsz
     go_enter Tryz.func19,Tryz.ntmps19
     go_wp2_with (first|(go_at_call 38;refine (HG.out _ bel9).mono ?_;rintro e w1 ⟨rfl,hb1⟩;obtain ⟨hc1,hf1⟩:=bcell hb1;have hz1:=hb1.size;(try simp at hz1);have f1_0:w.heap.size<w1.heap.size:=bO;have g1_0:w.heap.size<w.heap.size+1+1+1:=bO;have f1_1:w.heap.size+1<w1.heap.size:=bO;have g1_1:w.heap.size+1<w.heap.size+1+1+1:=bO;have f1_2:w.heap.size+1+1<w1.heap.size:=bO;have g1_2:w.heap.size+1+1<w.heap.size+1+1+1:=bO;have K1:Below w.heap.size w w1:=(show Below w.heap.size w _ from bel9).trans (hb1.mono sid9))|(go_at_call 40;refine (HQ.out _).mono ?_;rintro e w2 ⟨rfl,hb2⟩;obtain ⟨hc2,hf2⟩:=bcell hb2;have hz2:=hb2.size;(try simp at hz2);have f2_0:w.heap.size<w2.heap.size:=bO;have f2_1:w.heap.size+1<w2.heap.size:=bO;have f2_2:w.heap.size+1+1<w2.heap.size:=bO;have K2:Below w.heap.size w w2:=(show Below w.heap.size w _ from bel9).trans (hb2.mono sid9))|(go_at_call 41;refine (HZ.out _ bel9).mono ?_;rintro e w3 ⟨rfl,hb3⟩;obtain ⟨hc3,hf3⟩:=bcell hb3;have hz3:=hb3.size;(try simp at hz3);have f3_0:w.heap.size<w3.heap.size:=bO;have f3_1:w.heap.size+1<w3.heap.size:=bO;have f3_2:w.heap.size+1+1<w3.heap.size:=bO;have K3:Below w.heap.size w w3:=(show Below w.heap.size w _ from bel9).trans (hb3.mono sid9))|(go_at_call 42;refine (HOW.out _ bel9 HSH.out).mono ?_;rintro e w4 ⟨vt1,hs1,rfl,ho4,hb4⟩;have K4:Below w.heap.size w w4:=(show Below w.heap.size w _ from bel9).trans (hb4.mono sid9);have bx4:Blk w4 w.heap.size 51 #[.slice a s.tables.length cap,.int .i64 s.next]:=(by repeat first|with_reducible apply Blk.below (hb:=hb4) (hg:=sid9)|with_reducible apply Blk.below (hb:=hb3) (hg:=sid9)|with_reducible apply Blk.below (hb:=hb2) (hg:=sid9)|with_reducible apply Blk.below (hb:=hb1) (hg:=sid9)|with_reducible exact Blk.new_at (h:=rO)|with_reducible apply Blk.alloc|with_reducible apply Blk.drew);obtain ⟨av,cv,rfl⟩:=own_form ho4.row;have c40:=bx4.cell 0;have c41:=bx4.cell 1;have f4:=(λi=>bx4.free i);have z4:=bx4.lt;simp at c40 c41;have hz4:=hb4.size;(try simp at hz4);obtain ⟨hc4,hf4⟩:=bcell hb4;have g4a:w.heap.size<w3.heap.size:=bO;have g4b:w.heap.size+1<w3.heap.size:=bO;have g4d:w.heap.size+1<w4.heap.size:=bO;have g4e:w.heap.size+1+1<w3.heap.size:=bO;have g4f:w.heap.size+1+1<w4.heap.size:=bO)|(go_at_call 43;refine (put_calls (sb:=w.heap.size) (next:=s.next+1) (ho4.same lR (λg h1 h2=>(bS _ _ _ _ (by show g≠w.heap.size;omega)).trans ((bS _ _ _ _ (by show g≠w.heap.size;omega)).trans (bS _ _ _ _ (by show g≠w.heap.size;omega))))) (by exact ((bx4.put 0 (.slice av s.tables.length cv)).put 1 (.int .i64 s.next)).put 1 (.int .i64 (s.next+1))) bO (by first|(simp [World.setCell];done)|(simp [World.setCell];omega)) HMK.out HFW.out s.next m r HM.out).mono ?_;rintro e w5 ⟨rfl,vt5,hs5,bx5,ht5,but5⟩;obtain ⟨a5,q5,rfl⟩:=ht5.val;have c50:=bx5.cell 0;have c51:=bx5.cell 1;simp at c50 c51;have z5:=bx5.lt;have f5:=(λi=>bx5.free i);have B4:=but5.block (w.heap.size+1+1) g4e bO;have B5:=B4.trans ((bS _ _ _ _ (by show w.heap.size+1+1≠w.heap.size;omega)).trans ((bS _ _ _ _ (by show w.heap.size+1+1≠w.heap.size;omega)).trans (bS _ _ _ _ (by show w.heap.size+1+1≠w.heap.size;omega))));have d5:=(λo=>World.cell?_of_block (a:=⟨w.heap.size+1+1,o,none⟩) B5);have e5:=(λo=>World.frozen?_of_block (a:=⟨w.heap.size+1+1,o,none⟩) B5);clear B4 B5;have z6:w.heap.size+1+1<w5.heap.size:=(by have:=but5.size;simp [World.setCell] at this;omega)))
     refine bodyPost_ret (v:=.tuple #[.agg #[.slice a5 (M.putT s.next m r s.tables).length q5,.int .i64 (s.next+1)],.int .i64 s.next,.int .i64 0]) ?_ rfl ⟨_,rfl,agg_new (s:=M.put {s with next:=s.next+1} s.next m r) (tabs_same ht5 (λg h1=>(bS _ _ _ _ (by show g≠w.heap.size+1+1;omega)).trans (bS _ _ _ _ (by show g≠w.heap.size+1+1;omega)))) sid9,?_⟩
     ·simp only [results,Tryz.results19]
      go_simp
     ·have KF:Below w.heap.size w w5:=(show Below w.heap.size w _ from bel9).trans (but5.below bO lR)
      exact bel9
  ·have hq0:M.goodRow m r=false:=by simpa using hq
   rw [hq0] at HQ
   have HR:Hid (M.spawn s m r=(s,0,2)):=hI (by
    unfold M.spawn
    rw [if_neg (by rw [hg];decide),if_pos hq0])
   rw [HR.out]
   clear hg hgs hq hq0 HZ HOW
   go_enter Tryz.func19,Tryz.ntmps19
   go_wp2_with (first|(go_at_call 38;refine (HG.out _ bel9).mono ?_;rintro e w1 ⟨rfl,hb1⟩;obtain ⟨hc1,hf1⟩:=bcell hb1;have hz1:=hb1.size;(try simp at hz1);have f1_0:w.heap.size<w1.heap.size:=bO;have g1_0:w.heap.size<w.heap.size+1+1+1:=bO;have f1_1:w.heap.size+1<w1.heap.size:=bO;have g1_1:w.heap.size+1<w.heap.size+1+1+1:=bO;have f1_2:w.heap.size+1+1<w1.heap.size:=bO;have g1_2:w.heap.size+1+1<w.heap.size+1+1+1:=bO;have K1:Below w.heap.size w w1:=(show Below w.heap.size w _ from bel9).trans (hb1.mono sid9))|(go_at_call 40;refine (HQ.out _).mono ?_;rintro e w2 ⟨rfl,hb2⟩;obtain ⟨hc2,hf2⟩:=bcell hb2;have hz2:=hb2.size;(try simp at hz2);have f2_0:w.heap.size<w2.heap.size:=bO;have f2_1:w.heap.size+1<w2.heap.size:=bO;have f2_2:w.heap.size+1+1<w2.heap.size:=bO;have K2:Below w.heap.size w w2:=(show Below w.heap.size w _ from bel9).trans (hb2.mono sid9)))
   refine bodyPost_ret (v:=.tuple #[.agg #[.slice a s.tables.length cap,.int .i64 s.next],.int .i64 0,.int .i64 2]) ?_ rfl ⟨_,rfl,⟨(HST.out.below bel9).mono (Nat.zero_le _),.inl ⟨rfl,rfl⟩⟩,bel9⟩
   simp only [results,Tryz.results19]
   go_simp
 ·have hg0:M.good s=false:=by simpa using hg
  rw [hg0] at HG
  have HR:Hid (M.spawn s m r=(s,0,1)):=hI (by unfold M.spawn;rw [if_pos hg0])
  rw [HR.out]
  clear hg hg0 HZ HOW HQ
  go_enter Tryz.func19,Tryz.ntmps19
  go_wp2_with (first|(go_at_call 38;refine (HG.out _ bel9).mono ?_;rintro e w1 ⟨rfl,hb1⟩;obtain ⟨hc1,hf1⟩:=bcell hb1;have hz1:=hb1.size;(try simp at hz1);have f1_0:w.heap.size<w1.heap.size:=bO;have g1_0:w.heap.size<w.heap.size+1+1+1:=bO;have f1_1:w.heap.size+1<w1.heap.size:=bO;have g1_1:w.heap.size+1<w.heap.size+1+1+1:=bO;have f1_2:w.heap.size+1+1<w1.heap.size:=bO;have g1_2:w.heap.size+1+1<w.heap.size+1+1+1:=bO;have K1:Below w.heap.size w w1:=(show Below w.heap.size w _ from bel9).trans (hb1.mono sid9)))
  refine bodyPost_ret (v:=.tuple #[.agg #[.slice a s.tables.length cap,.int .i64 s.next],.int .i64 0,.int .i64 1]) ?_ rfl ⟨_,rfl,⟨(HST.out.below bel9).mono (Nat.zero_le _),.inl ⟨rfl,rfl⟩⟩,bel9⟩
  simp only [results,Tryz.results19]
  go_simp
theorem change_calls {w:World} {lo:Nat} {v:Value} {s:M.Store} (h:StoreAt w lo v s) (hin:StoreIn s) (id m:Int) (r:M.Row):
  Calls Tryz.prog 46 #[v,.int .i64 id,.int .i64 m,rowV r] w λe w'=>∃v',e=.returned (.tuple #[v',.int .i64 (M.change s id m r).2])/\(StoreAt w' 0 v' (M.change s id m r).1/\NewOr w w' v v' s (M.change s id m r).1)/\Below w.heap.size w w':=by
 have HG:=hI (λW (hb:Below w.heap.size w W)=>storeGood_calls (h.below hb) hin)
 have HF:=hI (λW (hb:Below w.heap.size w W)=>find_calls (h.below hb) id)
 have HST:=hI h
 have HOW:=hI (λW (hb:Below w.heap.size w W)=>own_calls (h.below hb))
 obtain ⟨vt,rfl,hs,hT⟩:=h
 obtain ⟨a,cap,rfl⟩:=hT.val
 clear hin
 by_cases hg:M.good s=true
 ·have hgs:=(M.good_iff s).1 hg
  rw [hg] at HG
  cases hf:M.find s id with
  |none=>
   have hfo:M.found s id=(0,0,false):=by unfold M.found;rw [hf]
   rw [hfo] at HF
   have HR:Hid (M.change s id m r=(s,3)):=hI (by unfold M.change;rw [hg,hf];rfl)
   rw [HR.out]
   clear hf hfo hg hgs HOW hT
   go_enter Tryz.func46,Tryz.ntmps46
   go_wp2_with (first|(go_at_call 38;refine (HG.out _ bel9).mono ?_;rintro e w1 ⟨rfl,hb1⟩;obtain ⟨hc1,hf1⟩:=bcell hb1;have hz1:=hb1.size;(try simp at hz1);have f1_0:w.heap.size<w1.heap.size:=bO;have g1_0:w.heap.size<w.heap.size+1+1+1:=bO;have f1_1:w.heap.size+1<w1.heap.size:=bO;have g1_1:w.heap.size+1<w.heap.size+1+1+1:=bO;have f1_2:w.heap.size+1+1<w1.heap.size:=bO;have g1_2:w.heap.size+1+1<w.heap.size+1+1+1:=bO;have K1:Below w.heap.size w w1:=(show Below w.heap.size w _ from bel9).trans (hb1.mono sid9))|(go_at_call 39;refine (HF.out _ bel9).mono ?_;rintro e w2 ⟨rfl,hb2⟩;obtain ⟨hc2,hf2⟩:=bcell hb2;have hz2:=hb2.size;(try simp at hz2);have f2_0:w.heap.size<w2.heap.size:=bO;have f2_1:w.heap.size+1<w2.heap.size:=bO;have f2_2:w.heap.size+1+1<w2.heap.size:=bO;have K2:Below w.heap.size w w2:=(show Below w.heap.size w _ from bel9).trans (hb2.mono sid9)))
   refine bodyPost_ret (v:=.tuple #[.agg #[.slice a s.tables.length cap,.int .i64 s.next],.int .i64 3]) ?_ rfl ⟨_,rfl,⟨(HST.out.below bel9).mono (Nat.zero_le _),.inl ⟨rfl,rfl⟩⟩,bel9⟩
   simp only [results,Tryz.results46]
   go_simp
  |some p=>
   obtain ⟨i,k⟩:=p
   have hfo:M.found s id=((i:Int),(k:Int),true):=by unfold M.found;rw [hf]
   rw [hfo] at HF
   have hbd:=good_bounds hgs
   obtain ⟨t,ht,hmem,hki,hid⟩:=M.findT_at hf
   have hee:=hbd.each t hmem
   have hrk:k<t.rows.length:=by omega
   obtain ⟨b,o,cap',a1,cp1,a2,cp2,e,hlo,hp,c0,c1,c2,h1,h2⟩:=hT.at2 ht
   obtain ⟨rfl,rfl⟩:a=some ⟨b,o,none⟩/\cap=cap':=by simpa using e
   obtain ⟨q,hqr⟩:∃q,t.rows[k]?=some q:=⟨_,List.getElem?_eq_getElem hrk⟩
   obtain ⟨b2,o2,cap2,e2,hlo2,hc⟩:=h2.at8 (i:=k) (r:=q) hqr
   obtain ⟨rfl,rfl⟩:a2=some ⟨b2,o2,none⟩/\cp2=cap2:=by simpa using e2
   have hit:i<s.tables.length:=(List.getElem?_eq_some_iff.1 ht).1
   have hkr:k<t.rows.length:=hrk
   have C0:=hI c0
   have C2:=hI c2
   have HC:=hI hc
   have HT:=hI ht
   have HN1:Hid (s.tables.length<=1000):=hI (by have:=hbd.few;omega)
   have HN2:=hI hki
   have HN3:Hid (t.ids.length=t.rows.length):=hI hee.2.1.symm
   have HN4:Hid (t.ids.length<=1000):=hI bO
   have HSH:=hI hbd.short
   have hma:M.maskAt s i=t.mask:=by unfold M.maskAt;rw [ht]
   have hra:M.rowAt s i k=q:=by unfold M.rowAt;rw [ht];simp only [];rw [List.getD_eq_getElem?_getD,hqr];rfl
   obtain ⟨row,hrow⟩:∃row,row=M.changed t.mask m q r:=⟨_,rfl⟩
   obtain ⟨wr,hwr⟩:∃x,x=M.withR q r (bits .andNot .i64 m t.mask):=⟨_,rfl⟩
   have hor:M.only m wr=row:=by rw [hwr,hrow];rfl
   have HWI:=hI (λW=>with_calls q r (bits .andNot .i64 m t.mask) W)
   have HON:=hI (λW=>only_calls m wr W)
   rw [←hwr] at HWI
   rw [hor] at HON
   have HQ:=hI (λW=>goodRow_calls m row W)
   have HMK:Hid (Masks (M.cutT s.tables i k)):=hI (cut_masks hbd.masks i k)
   have HFW:Hid (Few (M.cutT s.tables i k)):=hI (cut_few hbd.isFew i k)
   have hG0:=hg
   have hf0:=hf
   clear hf hfo
   clear hg hgs hbd hmem hki hid hee c0 c1 c2 h1 h2 hT e hp e2 hc hqr hrk
   by_cases hq:M.goodRow m row=true
   ·rw [hq] at HQ
    have HM:Hid (0<=m/\m<=31):=hI (by have k1:=(M.goodRow_fits.1 hq).lo;have k2:=(M.goodRow_fits.1 hq).hi;omega)
    have HR:Hid (M.change s id m r=(M.put (M.cut s i k) id m row,0)):=hI (by
     unfold M.change
     rw [hG0,hf0]
     simp only [hma,hra,←hrow,hq]
     rfl)
    rw [HR.out]
    clear hG0 hf0 hma hra hq hor hwr hrow
    go_enter Tryz.func46,Tryz.ntmps46
    go_upto_region 7 with (first|(go_at_call 38;refine (HG.out _ bel9).mono ?_;rintro e w1 ⟨rfl,hb1⟩;obtain ⟨hc1,hf1⟩:=bcell hb1;have hz1:=hb1.size;(try simp at hz1);have f1_0:w.heap.size<w1.heap.size:=bO;have g1_0:w.heap.size<w.heap.size+1+1+1:=bO;have f1_1:w.heap.size+1<w1.heap.size:=bO;have g1_1:w.heap.size+1<w.heap.size+1+1+1:=bO;have f1_2:w.heap.size+1+1<w1.heap.size:=bO;have g1_2:w.heap.size+1+1<w.heap.size+1+1+1:=bO;have K1:Below w.heap.size w w1:=(show Below w.heap.size w _ from bel9).trans (hb1.mono sid9))|(go_at_call 39;refine (HF.out _ bel9).mono ?_;rintro e w2 ⟨rfl,hb2⟩;obtain ⟨hc2,hf2⟩:=bcell hb2;have hz2:=hb2.size;(try simp at hz2);have f2_0:w.heap.size<w2.heap.size:=bO;have f2_1:w.heap.size+1<w2.heap.size:=bO;have f2_2:w.heap.size+1+1<w2.heap.size:=bO;have K2:Below w.heap.size w w2:=(show Below w.heap.size w _ from bel9).trans (hb2.mono sid9);have c0:=below_cell C0.out K2;have c2:=below_cell C2.out K2;obtain ⟨r0,r1,r2,r3,r4,r5,r6,r7⟩:=HC.out.below K2))
    have bs2:Blk w2 w.heap.size 51 #[.slice (some ⟨b,o,none⟩) s.tables.length cap,.int .i64 s.next]:=by
     repeat first|with_reducible apply Blk.below (hb:=hb2) (hg:=sid9)|with_reducible apply Blk.below (hb:=hb1) (hg:=sid9)|with_reducible exact Blk.new_at (h:=rO)|with_reducible apply Blk.alloc|with_reducible apply Blk.drew
    have br2:Blk w2 (w.heap.size+1) 38 (rowC r):=by
     apply blk_to
     ·repeat first|with_reducible apply Blk.below (hb:=hb2) (hg:=sid9)|with_reducible apply Blk.below (hb:=hb1) (hg:=sid9)|with_reducible exact Blk.new_at (h:=rO)|with_reducible apply Blk.alloc|with_reducible apply Blk.drew
     ·rfl
    have HRD:Hid (w2.cell? ⟨w.heap.size,0,none⟩=some (.slice (some ⟨b,o,none⟩) s.tables.length cap)/\w2.cell? ⟨b,o+i*3+2,none⟩=some (.slice (some ⟨b2,o2,none⟩) t.rows.length cp2)/\w2.cell? ⟨b2,o2+k*8,none⟩=some (.int .i64 q.X)/\w2.cell? ⟨b2,o2+k*8+1,none⟩=some (.int .i64 q.Y)/\w2.cell? ⟨b2,o2+k*8+2,none⟩=some (.int .i64 q.PX)/\w2.cell? ⟨b2,o2+k*8+3,none⟩=some (.int .i64 q.PY)/\w2.cell? ⟨b2,o2+k*8+4,none⟩=some (.int .i64 q.W)/\w2.cell? ⟨b2,o2+k*8+5,none⟩=some (.int .i64 q.H)/\w2.cell? ⟨b2,o2+k*8+6,none⟩=some (.int .i64 q.M)/\w2.cell? ⟨b2,o2+k*8+7,none⟩=some (.int .i64 q.R)/\w2.cell? ⟨w.heap.size+1,0,none⟩=some (.int .i64 r.X)/\w2.cell? ⟨w.heap.size+1,1,none⟩=some (.int .i64 r.Y)/\w2.cell? ⟨w.heap.size+1,2,none⟩=some (.int .i64 r.PX)/\w2.cell? ⟨w.heap.size+1,3,none⟩=some (.int .i64 r.PY)/\w2.cell? ⟨w.heap.size+1,4,none⟩=some (.int .i64 r.W)/\w2.cell? ⟨w.heap.size+1,5,none⟩=some (.int .i64 r.H)/\w2.cell? ⟨w.heap.size+1,6,none⟩=some (.int .i64 r.M)/\w2.cell? ⟨w.heap.size+1,7,none⟩=some (.int .i64 r.R)):=hI ⟨bs2.cell 0,c2,r0,r1,r2,r3,r4,r5,r6,r7,br2.cell 0,br2.cell 1,br2.cell 2,br2.cell 3,br2.cell 4,br2.cell 5,br2.cell 6,br2.cell 7⟩
    have HRD2:=hI (λW (hb:Below w2.heap.size w2 W)=>show W.cell? ⟨w.heap.size,0,none⟩=some (.slice (some ⟨b,o,none⟩) s.tables.length cap)/\W.cell? ⟨b,o+i*3+2,none⟩=some (.slice (some ⟨b2,o2,none⟩) t.rows.length cp2)/\W.cell? ⟨b2,o2+k*8,none⟩=some (.int .i64 q.X)/\W.cell? ⟨b2,o2+k*8+1,none⟩=some (.int .i64 q.Y)/\W.cell? ⟨b2,o2+k*8+2,none⟩=some (.int .i64 q.PX)/\W.cell? ⟨b2,o2+k*8+3,none⟩=some (.int .i64 q.PY)/\W.cell? ⟨b2,o2+k*8+4,none⟩=some (.int .i64 q.W)/\W.cell? ⟨b2,o2+k*8+5,none⟩=some (.int .i64 q.H)/\W.cell? ⟨b2,o2+k*8+6,none⟩=some (.int .i64 q.M)/\W.cell? ⟨b2,o2+k*8+7,none⟩=some (.int .i64 q.R)/\W.cell? ⟨w.heap.size+1,0,none⟩=some (.int .i64 r.X)/\W.cell? ⟨w.heap.size+1,1,none⟩=some (.int .i64 r.Y)/\W.cell? ⟨w.heap.size+1,2,none⟩=some (.int .i64 r.PX)/\W.cell? ⟨w.heap.size+1,3,none⟩=some (.int .i64 r.PY)/\W.cell? ⟨w.heap.size+1,4,none⟩=some (.int .i64 r.W)/\W.cell? ⟨w.heap.size+1,5,none⟩=some (.int .i64 r.H)/\W.cell? ⟨w.heap.size+1,6,none⟩=some (.int .i64 r.M)/\W.cell? ⟨w.heap.size+1,7,none⟩=some (.int .i64 r.R) from by
     obtain ⟨y0,y1,y2,y3,y4,y5,y6,y7,y8,y9,y10,y11,y12,y13,y14,y15,y16,y17⟩:=HRD.out
     exact ⟨below_cell y0 hb,below_cell y1 hb,below_cell y2 hb,below_cell y3 hb,below_cell y4 hb,below_cell y5 hb,below_cell y6 hb,below_cell y7 hb,below_cell y8 hb,below_cell y9 hb,below_cell y10 hb,below_cell y11 hb,below_cell y12 hb,below_cell y13 hb,below_cell y14 hb,below_cell y15 hb,below_cell y16 hb,below_cell y17 hb⟩)
    have bz2:Blk w2 (w.heap.size+1+1) 51 #[.slice none 0 0,.int .i64 0]:=by
     repeat first|with_reducible apply Blk.below (hb:=hb2) (hg:=sid9)|with_reducible apply Blk.below (hb:=hb1) (hg:=sid9)|with_reducible exact Blk.new_at (h:=rO)|with_reducible apply Blk.alloc|with_reducible apply Blk.drew
    have HBS:=hI bs2
    have HBZ:=hI bz2
    have HK2:=hI K2
    have ls2:=bs2.lt
    have lz2:=bz2.lt
    clear bs2 br2 bz2
    go_cut [14] (λp W=>∃bx,p=.pointer (some ⟨bx,0,none⟩)/\Blk W bx 38 (rowC row)/\Below w2.heap.size w2 W/\w2.heap.size<=bx)
    case first=>
     go_region_held3 (λW=>W.cell? ⟨w.heap.size,0,none⟩=some (.slice (some ⟨b,o,none⟩) s.tables.length cap)/\W.cell? ⟨b,o+i*3+2,none⟩=some (.slice (some ⟨b2,o2,none⟩) t.rows.length cp2)/\W.cell? ⟨b2,o2+k*8,none⟩=some (.int .i64 q.X)/\W.cell? ⟨b2,o2+k*8+1,none⟩=some (.int .i64 q.Y)/\W.cell? ⟨b2,o2+k*8+2,none⟩=some (.int .i64 q.PX)/\W.cell? ⟨b2,o2+k*8+3,none⟩=some (.int .i64 q.PY)/\W.cell? ⟨b2,o2+k*8+4,none⟩=some (.int .i64 q.W)/\W.cell? ⟨b2,o2+k*8+5,none⟩=some (.int .i64 q.H)/\W.cell? ⟨b2,o2+k*8+6,none⟩=some (.int .i64 q.M)/\W.cell? ⟨b2,o2+k*8+7,none⟩=some (.int .i64 q.R)/\W.cell? ⟨w.heap.size+1,0,none⟩=some (.int .i64 r.X)/\W.cell? ⟨w.heap.size+1,1,none⟩=some (.int .i64 r.Y)/\W.cell? ⟨w.heap.size+1,2,none⟩=some (.int .i64 r.PX)/\W.cell? ⟨w.heap.size+1,3,none⟩=some (.int .i64 r.PY)/\W.cell? ⟨w.heap.size+1,4,none⟩=some (.int .i64 r.W)/\W.cell? ⟨w.heap.size+1,5,none⟩=some (.int .i64 r.H)/\W.cell? ⟨w.heap.size+1,6,none⟩=some (.int .i64 r.M)/\W.cell? ⟨w.heap.size+1,7,none⟩=some (.int .i64 r.R)) (exact HRD2.out _ bR6) (first|(go_at_call 75;with_reducible refine (HWI.out _).mono ?_;rintro e w3 ⟨rfl,hb3⟩;obtain ⟨hc3,hf3⟩:=bcell hb3;have hz3:=hb3.size;(try simp at hz3);(try have pf3_0:w.heap.size<w3.heap.size:=bO);(try have pg3_0:w.heap.size<w3.heap.size+1:=bO);(try have ph3_0:w.heap.size<w3.heap.size+1+1:=bO);(try have pf3_1:w.heap.size+1<w3.heap.size:=bO);(try have pg3_1:w.heap.size+1<w3.heap.size+1:=bO);(try have ph3_1:w.heap.size+1<w3.heap.size+1+1:=bO);(try have pf3_2:w.heap.size+1+1<w3.heap.size:=bO);(try have pg3_2:w.heap.size+1+1<w3.heap.size+1:=bO);(try have ph3_2:w.heap.size+1+1<w3.heap.size+1+1:=bO);(try have pf3_3:w2.heap.size<w3.heap.size:=bO);(try have pg3_3:w2.heap.size<w3.heap.size+1:=bO);(try have ph3_3:w2.heap.size<w3.heap.size+1+1:=bO))|(go_at_call 74;with_reducible refine (HON.out _).mono ?_;rintro e w4 ⟨rfl,hb4⟩;obtain ⟨hc4,hf4⟩:=bcell hb4;have hz4:=hb4.size;(try simp at hz4);(try have pf4_0:w.heap.size<w4.heap.size:=bO);(try have pg4_0:w.heap.size<w4.heap.size+1:=bO);(try have ph4_0:w.heap.size<w4.heap.size+1+1:=bO);(try have pf4_1:w.heap.size+1<w4.heap.size:=bO);(try have pg4_1:w.heap.size+1<w4.heap.size+1:=bO);(try have ph4_1:w.heap.size+1<w4.heap.size+1+1:=bO);(try have pf4_2:w.heap.size+1+1<w4.heap.size:=bO);(try have pg4_2:w.heap.size+1+1<w4.heap.size+1:=bO);(try have ph4_2:w.heap.size+1+1<w4.heap.size+1+1:=bO);(try have pf4_3:w2.heap.size<w4.heap.size:=bO);(try have pg4_3:w2.heap.size<w4.heap.size+1:=bO);(try have ph4_3:w2.heap.size<w4.heap.size+1+1:=bO);(try have pf4_4:w3.heap.size<w4.heap.size:=bO);(try have pg4_4:w3.heap.size<w4.heap.size+1:=bO);(try have ph4_4:w3.heap.size<w4.heap.size+1+1:=bO)))
     all_goals
      go_wp2_with fail
      go_meet
      refine ⟨_,rfl,?_,bR6,by first|exact Nat.le_refl _|omega⟩
      apply blk_to
      ·repeat first|with_reducible apply Blk.put|with_reducible apply Blk.drew|with_reducible apply Blk.new_at_w (h:=rO)|with_reducible apply Blk.below (hb:=hb4) (hg:=sid9)|with_reducible apply Blk.below (hb:=hb3) (hg:=sid9)
      ·rfl
    case rest=>
     obtain ⟨bx,rfl,bxc,hB,hbx⟩:=hcut
     have bsc:=HBS.out.below hB ls2
     have bzc:=HBZ.out.below hB lz2
     have KC:Below w.heap.size w wc:=HK2.out.trans (hB.mono (by have:=HK2.out.size;omega))
     have hzB:=hB.size
     have nb1:bx≠w.heap.size:=by omega
     have nb2:bx≠w.heap.size+1+1:=by omega
     have pc0:=bsc.cell 0
     have pc1:=bsc.cell 1
     simp at pc0 pc1
     have pfc:=(λi=>bsc.free i)
     obtain ⟨qc0,qc1,qc2,qc3,qc4,qc5,qc6,qc7⟩:=row_at bxc
     have qfc:=(λi=>bxc.free i)
     have zc0:=bzc.cell 0
     have zc1:=bzc.cell 1
     simp at zc0 zc1
     have zfc:=(λi=>bzc.free i)
     have lc0:=bsc.lt
     have lc1:=bxc.lt
     have lc2:=bzc.lt
     clear hB
     go_wp2_with (first|(go_at_call 40;with_reducible refine (HQ.out _).mono ?_;rintro e w5 ⟨rfl,hb5⟩;have bs5:=bsc.below hb5 sid9;have bx5:=bxc.below hb5 sid9;have bz5:=bzc.below hb5 sid9;have K5:Below w.heap.size w w5:=(show Below w.heap.size w _ from bel9).trans (hb5.mono sid9);have p50:=bs5.cell 0;have p51:=bs5.cell 1;simp at p50 p51;have pf5:=(λi=>bs5.free i);obtain ⟨q50,q51,q52,q53,q54,q55,q56,q57⟩:=row_at bx5;have qf5:=(λi=>bx5.free i);have z50:=bz5.cell 0;have z51:=bz5.cell 1;simp at z50 z51;have zf5:=(λi=>bz5.free i);have l50:=bs5.lt;have l51:=bx5.lt;have l52:=bz5.lt)|(go_at_call 42;refine (HOW.out _ bel9 HSH.out).mono ?_;rintro e w6 ⟨vt1,hs1,rfl,ho6,hb6⟩;obtain ⟨av,cv,rfl⟩:=own_form ho6.row;have bs6:=bs5.below hb6 sid9;have bx6:=bx5.below hb6 sid9;have bz6:=bz5.below hb6 sid9;have K6:Below w.heap.size w w6:=(show Below w.heap.size w _ from bel9).trans (hb6.mono sid9);have hz6:=hb6.size;have p60:=bs6.cell 0;have p61:=bs6.cell 1;simp at p60 p61;have pf6:=(λi=>bs6.free i);obtain ⟨q60,q61,q62,q63,q64,q65,q66,q67⟩:=row_at bx6;have qf6:=(λi=>bx6.free i);have z60:=bz6.cell 0;have z61:=bz6.cell 1;simp at z60 z61;have zf6:=(λi=>bz6.free i);have l60:=bs6.lt;have l61:=bx6.lt;have l62:=bz6.lt)|(go_at_call 44;refine (cut_calls (i:=i) (k:=k) (sb:=w.heap.size) (next:=s.next) (ho6.same lR (λg h1 h2=>(bS _ _ _ _ (by show g≠w.heap.size;omega)).trans (bS _ _ _ _ (by show g≠w.heap.size;omega)))) (by exact (bs6.put 0 (.slice av s.tables.length cv)).put 1 (.int .i64 s.next)) bO (by first|(simp [World.setCell];done)|(simp [World.setCell];omega)) HN1.out HT.out HN2.out HN3.out HN4.out).mono ?_;rintro e w7 ⟨rfl,vt7,hs7,bs7,ho7,but7⟩;obtain ⟨a7,q7,rfl⟩:=own_form ho7.row;have bx7:Blk w7 bx 38 (rowC row):=(but7.block bx bO nb1).trans ((bx6.far (p:=⟨w.heap.size,0,none⟩) nb1 _).far (p:=⟨w.heap.size,1,none⟩) nb1 _);have bz7:Blk w7 (w.heap.size+1+1) 51 #[.slice none 0 0,.int .i64 0]:=(but7.block (w.heap.size+1+1) bO bO).trans ((bz6.far (p:=⟨w.heap.size,0,none⟩) (by show w.heap.size+1+1≠w.heap.size;omega) _).far (p:=⟨w.heap.size,1,none⟩) (by show w.heap.size+1+1≠w.heap.size;omega) _);have K7:Below w.heap.size w w7:=(show Below w.heap.size w _ from bel9).trans (but7.below bO lR);have p70:=bs7.cell 0;have p71:=bs7.cell 1;simp at p70 p71;have pf7:=(λi=>bs7.free i);obtain ⟨q70,q71,q72,q73,q74,q75,q76,q77⟩:=row_at bx7;have qf7:=(λi=>bx7.free i);have z70:=bz7.cell 0;have z71:=bz7.cell 1;simp at z70 z71;have zf7:=(λi=>bz7.free i);have l70:=bs7.lt;have l71:=bx7.lt;have l72:=bz7.lt)|(go_at_call 43;refine (put_calls (sb:=w.heap.size) (next:=s.next) ho7 bs7 bO (by have:=but7.size;simp [World.setCell] at this;omega) HMK.out HFW.out id m row HM.out).mono ?_;rintro e w8 ⟨rfl,vt8,hs8,bs8,ht8,but8⟩;obtain ⟨a8,q8,rfl⟩:=ht8.val;have bz8:Blk w8 (w.heap.size+1+1) 51 #[.slice none 0 0,.int .i64 0]:=(but8.block (w.heap.size+1+1) bO bO).trans bz7;have K8:Below w.heap.size w w8:=(show Below w.heap.size w _ from bel9).trans (but8.below bO lR);have p80:=bs8.cell 0;have p81:=bs8.cell 1;simp at p80 p81;have pf8:=(λi=>bs8.free i);have z80:=bz8.cell 0;have z81:=bz8.cell 1;simp at z80 z81;have zf8:=(λi=>bz8.free i);have l80:=bs8.lt;have l82:=bz8.lt))
     refine bodyPost_ret (v:=.tuple #[.agg #[.slice a8 (M.putT id m row (M.cutT s.tables i k)).length q8,.int .i64 s.next],.int .i64 0]) ?_ rfl ⟨_,rfl,agg_new (s:=M.put (M.cut s i k) id m row) (tabs_same ht8 (λg h1=>(bS _ _ _ _ (by show g≠w.heap.size+1+1;omega)).trans (bS _ _ _ _ (by show g≠w.heap.size+1+1;omega)))) sid9,?_⟩
     ·simp only [results,Tryz.results46]
      go_simp
     ·exact bel9
   ·have hq0:M.goodRow m row=false:=by simpa using hq
    rw [hq0] at HQ
    have HR:Hid (M.change s id m r=(s,2)):=hI (by
     unfold M.change
     rw [hG0,hf0]
     simp only [hma,hra,←hrow,hq0]
     rfl)
    rw [HR.out]
    clear hG0 hf0 hma hra hq hq0 hor hwr hrow HMK HFW
    go_enter Tryz.func46,Tryz.ntmps46
    go_upto_region 7 with (first|(go_at_call 38;refine (HG.out _ bel9).mono ?_;rintro e w1 ⟨rfl,hb1⟩;obtain ⟨hc1,hf1⟩:=bcell hb1;have hz1:=hb1.size;(try simp at hz1);have f1_0:w.heap.size<w1.heap.size:=bO;have g1_0:w.heap.size<w.heap.size+1+1+1:=bO;have f1_1:w.heap.size+1<w1.heap.size:=bO;have g1_1:w.heap.size+1<w.heap.size+1+1+1:=bO;have f1_2:w.heap.size+1+1<w1.heap.size:=bO;have g1_2:w.heap.size+1+1<w.heap.size+1+1+1:=bO;have K1:Below w.heap.size w w1:=(show Below w.heap.size w _ from bel9).trans (hb1.mono sid9))|(go_at_call 39;refine (HF.out _ bel9).mono ?_;rintro e w2 ⟨rfl,hb2⟩;obtain ⟨hc2,hf2⟩:=bcell hb2;have hz2:=hb2.size;(try simp at hz2);have f2_0:w.heap.size<w2.heap.size:=bO;have f2_1:w.heap.size+1<w2.heap.size:=bO;have f2_2:w.heap.size+1+1<w2.heap.size:=bO;have K2:Below w.heap.size w w2:=(show Below w.heap.size w _ from bel9).trans (hb2.mono sid9);have c0:=below_cell C0.out K2;have c2:=below_cell C2.out K2;obtain ⟨r0,r1,r2,r3,r4,r5,r6,r7⟩:=HC.out.below K2))
    have bs2:Blk w2 w.heap.size 51 #[.slice (some ⟨b,o,none⟩) s.tables.length cap,.int .i64 s.next]:=by
     repeat first|with_reducible apply Blk.below (hb:=hb2) (hg:=sid9)|with_reducible apply Blk.below (hb:=hb1) (hg:=sid9)|with_reducible exact Blk.new_at (h:=rO)|with_reducible apply Blk.alloc|with_reducible apply Blk.drew
    have br2:Blk w2 (w.heap.size+1) 38 (rowC r):=by
     apply blk_to
     ·repeat first|with_reducible apply Blk.below (hb:=hb2) (hg:=sid9)|with_reducible apply Blk.below (hb:=hb1) (hg:=sid9)|with_reducible exact Blk.new_at (h:=rO)|with_reducible apply Blk.alloc|with_reducible apply Blk.drew
     ·rfl
    have HRD:Hid (w2.cell? ⟨w.heap.size,0,none⟩=some (.slice (some ⟨b,o,none⟩) s.tables.length cap)/\w2.cell? ⟨b,o+i*3+2,none⟩=some (.slice (some ⟨b2,o2,none⟩) t.rows.length cp2)/\w2.cell? ⟨b2,o2+k*8,none⟩=some (.int .i64 q.X)/\w2.cell? ⟨b2,o2+k*8+1,none⟩=some (.int .i64 q.Y)/\w2.cell? ⟨b2,o2+k*8+2,none⟩=some (.int .i64 q.PX)/\w2.cell? ⟨b2,o2+k*8+3,none⟩=some (.int .i64 q.PY)/\w2.cell? ⟨b2,o2+k*8+4,none⟩=some (.int .i64 q.W)/\w2.cell? ⟨b2,o2+k*8+5,none⟩=some (.int .i64 q.H)/\w2.cell? ⟨b2,o2+k*8+6,none⟩=some (.int .i64 q.M)/\w2.cell? ⟨b2,o2+k*8+7,none⟩=some (.int .i64 q.R)/\w2.cell? ⟨w.heap.size+1,0,none⟩=some (.int .i64 r.X)/\w2.cell? ⟨w.heap.size+1,1,none⟩=some (.int .i64 r.Y)/\w2.cell? ⟨w.heap.size+1,2,none⟩=some (.int .i64 r.PX)/\w2.cell? ⟨w.heap.size+1,3,none⟩=some (.int .i64 r.PY)/\w2.cell? ⟨w.heap.size+1,4,none⟩=some (.int .i64 r.W)/\w2.cell? ⟨w.heap.size+1,5,none⟩=some (.int .i64 r.H)/\w2.cell? ⟨w.heap.size+1,6,none⟩=some (.int .i64 r.M)/\w2.cell? ⟨w.heap.size+1,7,none⟩=some (.int .i64 r.R)):=hI ⟨bs2.cell 0,c2,r0,r1,r2,r3,r4,r5,r6,r7,br2.cell 0,br2.cell 1,br2.cell 2,br2.cell 3,br2.cell 4,br2.cell 5,br2.cell 6,br2.cell 7⟩
    have HRD2:=hI (λW (hb:Below w2.heap.size w2 W)=>show W.cell? ⟨w.heap.size,0,none⟩=some (.slice (some ⟨b,o,none⟩) s.tables.length cap)/\W.cell? ⟨b,o+i*3+2,none⟩=some (.slice (some ⟨b2,o2,none⟩) t.rows.length cp2)/\W.cell? ⟨b2,o2+k*8,none⟩=some (.int .i64 q.X)/\W.cell? ⟨b2,o2+k*8+1,none⟩=some (.int .i64 q.Y)/\W.cell? ⟨b2,o2+k*8+2,none⟩=some (.int .i64 q.PX)/\W.cell? ⟨b2,o2+k*8+3,none⟩=some (.int .i64 q.PY)/\W.cell? ⟨b2,o2+k*8+4,none⟩=some (.int .i64 q.W)/\W.cell? ⟨b2,o2+k*8+5,none⟩=some (.int .i64 q.H)/\W.cell? ⟨b2,o2+k*8+6,none⟩=some (.int .i64 q.M)/\W.cell? ⟨b2,o2+k*8+7,none⟩=some (.int .i64 q.R)/\W.cell? ⟨w.heap.size+1,0,none⟩=some (.int .i64 r.X)/\W.cell? ⟨w.heap.size+1,1,none⟩=some (.int .i64 r.Y)/\W.cell? ⟨w.heap.size+1,2,none⟩=some (.int .i64 r.PX)/\W.cell? ⟨w.heap.size+1,3,none⟩=some (.int .i64 r.PY)/\W.cell? ⟨w.heap.size+1,4,none⟩=some (.int .i64 r.W)/\W.cell? ⟨w.heap.size+1,5,none⟩=some (.int .i64 r.H)/\W.cell? ⟨w.heap.size+1,6,none⟩=some (.int .i64 r.M)/\W.cell? ⟨w.heap.size+1,7,none⟩=some (.int .i64 r.R) from by
     obtain ⟨y0,y1,y2,y3,y4,y5,y6,y7,y8,y9,y10,y11,y12,y13,y14,y15,y16,y17⟩:=HRD.out
     exact ⟨below_cell y0 hb,below_cell y1 hb,below_cell y2 hb,below_cell y3 hb,below_cell y4 hb,below_cell y5 hb,below_cell y6 hb,below_cell y7 hb,below_cell y8 hb,below_cell y9 hb,below_cell y10 hb,below_cell y11 hb,below_cell y12 hb,below_cell y13 hb,below_cell y14 hb,below_cell y15 hb,below_cell y16 hb,below_cell y17 hb⟩)
    have bz2:Blk w2 (w.heap.size+1+1) 51 #[.slice none 0 0,.int .i64 0]:=by
     repeat first|with_reducible apply Blk.below (hb:=hb2) (hg:=sid9)|with_reducible apply Blk.below (hb:=hb1) (hg:=sid9)|with_reducible exact Blk.new_at (h:=rO)|with_reducible apply Blk.alloc|with_reducible apply Blk.drew
    have HBS:=hI bs2
    have HBZ:=hI bz2
    have HK2:=hI K2
    have ls2:=bs2.lt
    have lz2:=bz2.lt
    clear bs2 br2 bz2
    go_cut [14] (λp W=>∃bx,p=.pointer (some ⟨bx,0,none⟩)/\Blk W bx 38 (rowC row)/\Below w2.heap.size w2 W/\w2.heap.size<=bx)
    case first=>
     go_region_held3 (λW=>W.cell? ⟨w.heap.size,0,none⟩=some (.slice (some ⟨b,o,none⟩) s.tables.length cap)/\W.cell? ⟨b,o+i*3+2,none⟩=some (.slice (some ⟨b2,o2,none⟩) t.rows.length cp2)/\W.cell? ⟨b2,o2+k*8,none⟩=some (.int .i64 q.X)/\W.cell? ⟨b2,o2+k*8+1,none⟩=some (.int .i64 q.Y)/\W.cell? ⟨b2,o2+k*8+2,none⟩=some (.int .i64 q.PX)/\W.cell? ⟨b2,o2+k*8+3,none⟩=some (.int .i64 q.PY)/\W.cell? ⟨b2,o2+k*8+4,none⟩=some (.int .i64 q.W)/\W.cell? ⟨b2,o2+k*8+5,none⟩=some (.int .i64 q.H)/\W.cell? ⟨b2,o2+k*8+6,none⟩=some (.int .i64 q.M)/\W.cell? ⟨b2,o2+k*8+7,none⟩=some (.int .i64 q.R)/\W.cell? ⟨w.heap.size+1,0,none⟩=some (.int .i64 r.X)/\W.cell? ⟨w.heap.size+1,1,none⟩=some (.int .i64 r.Y)/\W.cell? ⟨w.heap.size+1,2,none⟩=some (.int .i64 r.PX)/\W.cell? ⟨w.heap.size+1,3,none⟩=some (.int .i64 r.PY)/\W.cell? ⟨w.heap.size+1,4,none⟩=some (.int .i64 r.W)/\W.cell? ⟨w.heap.size+1,5,none⟩=some (.int .i64 r.H)/\W.cell? ⟨w.heap.size+1,6,none⟩=some (.int .i64 r.M)/\W.cell? ⟨w.heap.size+1,7,none⟩=some (.int .i64 r.R)) (exact HRD2.out _ bR6) (first|(go_at_call 75;with_reducible refine (HWI.out _).mono ?_;rintro e w3 ⟨rfl,hb3⟩;obtain ⟨hc3,hf3⟩:=bcell hb3;have hz3:=hb3.size;(try simp at hz3);(try have pf3_0:w.heap.size<w3.heap.size:=bO);(try have pg3_0:w.heap.size<w3.heap.size+1:=bO);(try have ph3_0:w.heap.size<w3.heap.size+1+1:=bO);(try have pf3_1:w.heap.size+1<w3.heap.size:=bO);(try have pg3_1:w.heap.size+1<w3.heap.size+1:=bO);(try have ph3_1:w.heap.size+1<w3.heap.size+1+1:=bO);(try have pf3_2:w.heap.size+1+1<w3.heap.size:=bO);(try have pg3_2:w.heap.size+1+1<w3.heap.size+1:=bO);(try have ph3_2:w.heap.size+1+1<w3.heap.size+1+1:=bO);(try have pf3_3:w2.heap.size<w3.heap.size:=bO);(try have pg3_3:w2.heap.size<w3.heap.size+1:=bO);(try have ph3_3:w2.heap.size<w3.heap.size+1+1:=bO))|(go_at_call 74;with_reducible refine (HON.out _).mono ?_;rintro e w4 ⟨rfl,hb4⟩;obtain ⟨hc4,hf4⟩:=bcell hb4;have hz4:=hb4.size;(try simp at hz4);(try have pf4_0:w.heap.size<w4.heap.size:=bO);(try have pg4_0:w.heap.size<w4.heap.size+1:=bO);(try have ph4_0:w.heap.size<w4.heap.size+1+1:=bO);(try have pf4_1:w.heap.size+1<w4.heap.size:=bO);(try have pg4_1:w.heap.size+1<w4.heap.size+1:=bO);(try have ph4_1:w.heap.size+1<w4.heap.size+1+1:=bO);(try have pf4_2:w.heap.size+1+1<w4.heap.size:=bO);(try have pg4_2:w.heap.size+1+1<w4.heap.size+1:=bO);(try have ph4_2:w.heap.size+1+1<w4.heap.size+1+1:=bO);(try have pf4_3:w2.heap.size<w4.heap.size:=bO);(try have pg4_3:w2.heap.size<w4.heap.size+1:=bO);(try have ph4_3:w2.heap.size<w4.heap.size+1+1:=bO);(try have pf4_4:w3.heap.size<w4.heap.size:=bO);(try have pg4_4:w3.heap.size<w4.heap.size+1:=bO);(try have ph4_4:w3.heap.size<w4.heap.size+1+1:=bO)))
     all_goals
      go_wp2_with fail
      go_meet
      refine ⟨_,rfl,?_,bR6,by first|exact Nat.le_refl _|omega⟩
      apply blk_to
      ·repeat first|with_reducible apply Blk.put|with_reducible apply Blk.drew|with_reducible apply Blk.new_at_w (h:=rO)|with_reducible apply Blk.below (hb:=hb4) (hg:=sid9)|with_reducible apply Blk.below (hb:=hb3) (hg:=sid9)
      ·rfl
    case rest=>
     obtain ⟨bx,rfl,bxc,hB,hbx⟩:=hcut
     have bsc:=HBS.out.below hB ls2
     have bzc:=HBZ.out.below hB lz2
     have KC:Below w.heap.size w wc:=HK2.out.trans (hB.mono (by have:=HK2.out.size;omega))
     have hzB:=hB.size
     have nb1:bx≠w.heap.size:=by omega
     have nb2:bx≠w.heap.size+1+1:=by omega
     have pc0:=bsc.cell 0
     have pc1:=bsc.cell 1
     simp at pc0 pc1
     have pfc:=(λi=>bsc.free i)
     obtain ⟨qc0,qc1,qc2,qc3,qc4,qc5,qc6,qc7⟩:=row_at bxc
     have qfc:=(λi=>bxc.free i)
     have zc0:=bzc.cell 0
     have zc1:=bzc.cell 1
     simp at zc0 zc1
     have zfc:=(λi=>bzc.free i)
     have lc0:=bsc.lt
     have lc1:=bxc.lt
     have lc2:=bzc.lt
     clear hB
     go_wp2_with (first|(go_at_call 40;with_reducible refine (HQ.out _).mono ?_;rintro e w5 ⟨rfl,hb5⟩;have bs5:=bsc.below hb5 sid9;have bx5:=bxc.below hb5 sid9;have bz5:=bzc.below hb5 sid9;have K5:Below w.heap.size w w5:=(show Below w.heap.size w _ from bel9).trans (hb5.mono sid9);have p50:=bs5.cell 0;have p51:=bs5.cell 1;simp at p50 p51;have pf5:=(λi=>bs5.free i);obtain ⟨q50,q51,q52,q53,q54,q55,q56,q57⟩:=row_at bx5;have qf5:=(λi=>bx5.free i);have z50:=bz5.cell 0;have z51:=bz5.cell 1;simp at z50 z51;have zf5:=(λi=>bz5.free i);have l50:=bs5.lt;have l51:=bx5.lt;have l52:=bz5.lt))
     refine bodyPost_ret (v:=.tuple #[.agg #[.slice (some ⟨b,o,none⟩) s.tables.length cap,.int .i64 s.next],.int .i64 2]) ?_ rfl ⟨_,rfl,⟨(HST.out.below bel9).mono (Nat.zero_le _),.inl ⟨rfl,rfl⟩⟩,bel9⟩
     simp only [results,Tryz.results46]
     go_simp
 ·have hg0:M.good s=false:=by simpa using hg
  rw [hg0] at HG
  have HR:Hid (M.change s id m r=(s,1)):=hI (by unfold M.change;rw [hg0];rfl)
  rw [HR.out]
  clear hg hg0 HF HOW hT
  go_enter Tryz.func46,Tryz.ntmps46
  go_wp2_with (first|(go_at_call 38;refine (HG.out _ bel9).mono ?_;rintro e w1 ⟨rfl,hb1⟩;obtain ⟨hc1,hf1⟩:=bcell hb1;have hz1:=hb1.size;(try simp at hz1);have f1_0:w.heap.size<w1.heap.size:=bO;have g1_0:w.heap.size<w.heap.size+1+1+1:=bO;have f1_1:w.heap.size+1<w1.heap.size:=bO;have g1_1:w.heap.size+1<w.heap.size+1+1+1:=bO;have f1_2:w.heap.size+1+1<w1.heap.size:=bO;have g1_2:w.heap.size+1+1<w.heap.size+1+1+1:=bO;have K1:Below w.heap.size w w1:=(show Below w.heap.size w _ from bel9).trans (hb1.mono sid9)))
  refine bodyPost_ret (v:=.tuple #[.agg #[.slice a s.tables.length cap,.int .i64 s.next],.int .i64 1]) ?_ rfl ⟨_,rfl,⟨(HST.out.below bel9).mono (Nat.zero_le _),.inl ⟨rfl,rfl⟩⟩,bel9⟩
  simp only [results,Tryz.results46]
  go_simp
end Go.Proofs.YtemkbjaojinaoaaGreat
