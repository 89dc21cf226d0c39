/- Several small texts in one. No condition of its own: each part says its own. -/
import Derived.Test.YtemkbjaojinaoaaGreatShort
import Derived.Test.YtemkbjaojinaoaaGreatBagO
import Derived.Test.YtemkbjaojinaoaaGreatStoreRow
import Derived.Test.YtemkbjaojinaoaaGreatBagW
import Derived.Deep.LoopGhost
import Derived.Deep.DeepCutAuto
import Derived.Deep.QuietTactic
import Derived.BigQuiet
import Derived.Maps.OwnOps
import Derived.Test.YtemkbjaojinaoaaGreatBagP
import Derived.Test.YtemkbjaojinaoaaGreatLayQuery
import Derived.Sort.OwnSortedInts
import Derived.Maps.AppendAt
set_option linter.unusedVariables false
set_option linter.unusedSimpArgs false
set_option maxRecDepth 100000
set_option maxHeartbeats 4000000
namespace Go.Proofs.YtemkbjaojinaoaaGreat
open Go.RowKit Go.Maps
theorem int_law:Keyed Tryz.prog 3:=int_keyed Tryz.underlying3
def SeenAt (w:World) (b:Nat) (l:List Int):Prop:=
 w.ownsMap Tryz.prog 3 (plainElem (H:=Unit) Tryz.prog 4) b l.length (setOf (.lit (.bool true)) (M.keysOf l))
theorem seen_look {w:World} {b:Nat} {l:List Int} (h:SeenAt w b l) {z:Int} (hz:I64 z) (n:Nat):
  (Instr.lookup 130 (.map (some b)) (.int .i64 z) false).run Tryz.prog (w.drewN n)=.ok (.bool (decide (z∈l))) (w.drewN n):=by
 have h':(w.drewN n).ownsMap Tryz.prog 3 (plainElem (H:=Unit) Tryz.prog 4) b l.length (setOf (.lit (.bool true)) (M.keysOf l)):=h
 obtain ⟨v,ps,hrun,hv⟩:=h'.lookup int_law Tryz.underlying130 (Tryz.zeroValue4 _) (plainElem_bool Tryz.underlying4 false) (keyOf_int_mk Tryz.underlying3 (WalkArith.wf_i64 hz))
 obtain ⟨c,rfl,hc⟩:=plainElem_bool_inv Tryz.underlying4 hv
 rw [hrun]
 simp only [Prod.mk.injEq,M.atKey_setOf] at hc
 have:c=decide (z∈l):=by
  by_cases hm:z∈l
  ·rw [if_pos hm] at hc;simp at hc;simp [hm,←hc.1]
  ·rw [if_neg hm] at hc;simp at hc;simp [hm,←hc.1]
 rw [this]
theorem seen_below {w w':World} {b:Nat} {l:List Int} (h:SeenAt w b l) (hb:Below w.heap.size w w'):SeenAt w' b l:=by
 have hlt:=World.ownsMap.lt h
 obtain ⟨es,clock,h1,F,hs,hD⟩:=h
 exact ⟨es,clock,(hb.block b hlt).trans h1,F,hs,hD⟩
theorem seen_put {w:World} {b:Nat} {l:List Int} {id:Int}
  (h:w.ownsMap Tryz.prog 3 (plainElem (H:=Unit) Tryz.prog 4) b (l.length+1) ((setOf (.lit (.bool true)) (M.keysOf l)).put (.int .i64 id) (.lit (.bool true)))):SeenAt w b (l++[id]):=by
 unfold SeenAt
 have e1:M.keysOf (l++[id])=M.keysOf l++[Lit.int .i64 id]:=by simp [M.keysOf]
 rw [e1,setOf_snoc,List.length_append]
 exact h
theorem storeGood_calls {w:World} {lo:Nat} {v:Value} {s:M.Store} (h:StoreAt w lo v s) (hin:StoreIn s):
  Calls Tryz.prog 38 #[v] w λe w'=>e=.returned (.bool (M.good s))/\Below w.heap.size w w':=by
 obtain ⟨vt,rfl,hs,hT⟩:=h
 obtain ⟨a,cap,rfl⟩:=hT.val
 have hmx:s.tables.length<=9223372036854775807:=by have:=hT.max;unfold maxLen at this;omega
 have HT:=hI hT
 clear hT
 have HI:=hI hin
 clear hin
 have hmm:=@run_makeMap Tryz.prog
 go_enter Tryz.func38,Tryz.ntmps38
 go_wp2_with fail
 go_loopg [3,13] s.tables.length (λg m i wr=>∃n:Nat,n<=s.tables.length/\i=.int .i64 n/\m=.int .i64 (M.sizeW (s.tables.take n))/\g=s.tables.length-n/\
  Below (w.heap.size+1) (w.alloc (.cells #[.slice a s.tables.length cap,.int .i64 s.next] 51)) wr/\SeenAt wr (w.heap.size+1) (M.idsT (s.tables.take n))/\M.Upto s n)
 case atStart=>
  refine ⟨0,Nat.zero_le _,rfl,rfl,rfl,(Below.refl _ _).alloc sS _,?_,M.upto_zero s⟩
  have:=World.ownsMap_made (w.alloc (.cells #[.slice a s.tables.length cap,.int .i64 s.next] 51)) Tryz.prog 3 (plainElem (H:=Unit) Tryz.prog 4)
  simpa [SeenAt,M.idsT,M.keysOf,setOf] using this
 case round=>
  obtain ⟨wo,hwo⟩:∃wo,wo=wr:=⟨_,rfl⟩
  subst hwo
  obtain ⟨n,hn,rfl,rfl,hg,hb1,hseen,hup⟩:=hrel
  have HB1:=hI hb1
  have HB:=hI (((Below.refl _ w).alloc lR _).trans (hb1.mono (B':=w.heap.size) bO))
  have hz:=hb1.size
  simp only [World.size_alloc] at hz
  have HG:=hI hg
  have lt2:w.heap.size+1<wo.heap.size:=World.ownsMap.lt hseen
  have HS:=hI hseen
  have HU:=hI hup
  have k0:=hb1.cell (p:=⟨w.heap.size,0,none⟩) sS
  have k1:=hb1.cell (p:=⟨w.heap.size,1,none⟩) sS
  simp at k0 k1
  clear hb1 hg hseen hup
  rcases Nat.lt_or_ge n s.tables.length with hlt|hge
  ·obtain ⟨t,ht⟩:∃t,s.tables[n]?=some t:=⟨_,List.getElem?_eq_getElem hlt⟩
   obtain ⟨b,o,cap',a1,cp1,a2,cp2,e,hlo,hp,c0,c1,c2,h1,h2⟩:=HT.out.at2 ht
   replace c0:=below_cell c0 HB.out
   replace c1:=below_cell c1 HB.out
   replace c2:=below_cell c2 HB.out
   obtain ⟨rfl,rfl⟩:a=some ⟨b,o,none⟩/\cap=cap':=by simpa using e
   have HT2:=hI ht
   have HR:=hI h2
   have HJ:=hI h1
   have hm1:t.ids.length<=9223372036854775807:=by have:=h1.max;unfold maxLen at this;omega
   have hm2:t.rows.length<=9223372036854775807:=by have:=h2.max;unfold maxLen at this;omega
   have hBA:Below w.heap.size w wo:=HB.out
   have lt0:w.heap.size<wo.heap.size:=by omega
   clear e hlo hp h1 h2 ht
   go_upto_region 6 with fail
   go_cut [46] (λq W=>∃bad k,q=.bool bad/\W=(wo.alloc (.cells #[.int .i64 t.mask,.slice a1 t.ids.length cp1,.slice a2 t.rows.length cp2] 102)).drewN k/\M.Tested s n t bad)
   case first=>
    by_cases z1:((t.ids.length:Int)==0)=true
    ·go_wp2_with fail
     go_quiet (fail)
     go_wp2_with fail
     go_meet
     exact ⟨true,_,rfl,rfl,M.bad_len HT2.out (.inl (by simpa using z1))⟩
    have z1:((t.ids.length:Int)==0)=false:=by simpa using z1
    by_cases z2:((t.ids.length:Int) !=(t.rows.length:Int))=true
    ·go_wp2_with fail
     go_quiet (fail)
     go_wp2_with fail
     go_meet
     exact ⟨true,_,rfl,rfl,M.bad_len HT2.out (.inr (by simp at z2;omega))⟩
    have z2:((t.ids.length:Int) !=(t.rows.length:Int))=false:=by simpa using z2
    have N1:Hid (t.ids.length≠0):=hI (by intro e;rw [e] at z1;simp at z1)
    have N2:Hid (t.ids.length=t.rows.length):=hI (by have h:=z2;simp only [bne_eq_false_iff_eq] at h;omega)
    rcases Nat.eq_zero_or_pos n with hz0|hpos
    ·have q0:decide (0<n)=false:=by rw [hz0];rfl
     have HZ:=hI hz0
     clear hz0
     go_wp2_with fail
     go_quiet (fail)
     go_wp2_with fail
     go_meet
     exact ⟨false,_,rfl,rfl,N1.out,N2.out,λp hp=>absurd hp (by rw [HZ.out];omega)⟩
    ·obtain ⟨p,hp⟩:∃p,s.tables[n-1]?=some p:=⟨_,List.getElem?_eq_getElem bO⟩
     obtain ⟨b',o',cap'',a1',cp1',a2',cp2',e',_,_,p0,_,_,_,_⟩:=(HT.out.below HB.out).at2 hp
     simp only [Value.slice.injEq,Option.some.injEq,Addr.mk.injEq,true_and,and_true] at e'
     obtain ⟨⟨rfl,rfl⟩,rfl⟩:=e'
     have HP:=hI hp
     clear hp
     have lb:=cell_lt p0
     by_cases q1:t.mask<=p.mask
     ·go_wp2_with fail
      go_quiet (fail)
      go_wp2_with fail
      go_meet
      exact ⟨true,_,rfl,rfl,M.bad_mask HT2.out hpos HP.out q1⟩
     ·have q1':decide (t.mask<=p.mask)=false:=decide_eq_false q1
      go_wp2_with fail
      go_quiet (fail)
      go_wp2_with fail
      go_meet
      exact ⟨false,_,rfl,rfl,N1.out,N2.out,λp' _ hp'=>by rw [HP.out] at hp';simp only [Option.some.injEq] at hp';subst hp';omega⟩
   case rest=>
    obtain ⟨bad,kd,rfl,rfl,htest⟩:=hcut
    have HTS:=hI htest
    clear htest
    cases bad
    case true=>
     go_wp2_with fail
     go_ret
     exact ⟨ret_bool HTS.out.symm,bel9⟩
    have hpass:=HTS.out
    obtain ⟨n1,n2,n3⟩:=hpass
    have N1:=hI n1
    have N2:=hI n2
    have N3:=hI n3
    clear n1 n2 n3
    go_wp2_with fail
    go_loopg [50] t.ids.length (λg j wq=>∃k:Nat,k<=t.ids.length/\j=.int .i64 k/\g=t.ids.length-k/\
     Below (w.heap.size+1) (w.alloc (.cells #[.slice (some ⟨b,o,none⟩) s.tables.length cap,.int .i64 s.next] 51)) wq/\wo.heap.size<wq.heap.size/\
     (wq.cell? ⟨wo.heap.size,0,none⟩=some (.int .i64 t.mask)/\wq.cell? ⟨wo.heap.size,1,none⟩=some (.slice a1 t.ids.length cp1)/\wq.cell? ⟨wo.heap.size,2,none⟩=some (.slice a2 t.rows.length cp2))/\
     SeenAt wq (w.heap.size+1) (M.idsT (s.tables.take n)++t.ids.take k)/\M.Inner s n k t)
    case atStart=>
     refine ⟨0,Nat.zero_le _,rfl,rfl,below_drewN (HB1.out.alloc bO _) _,by simp,⟨by simp,by simp,by simp⟩,?_,M.inner_zero HU.out t⟩
     simp only [List.take_zero,List.append_nil]
     exact HS.out.alloc _
    case round=>
     obtain ⟨wq,hwq⟩:∃wq,wq=wr:=⟨_,rfl⟩
     subst hwq
     obtain ⟨k,hk,rfl,hg2,hq1,hlq,⟨b0,b1,b2⟩,hseen,hinn⟩:=hrel
     have HQ1:=hI hq1
     have HQ:=hI (((Below.refl _ w).alloc lR _).trans (hq1.mono (B':=w.heap.size) bO))
     have HG2:=hI hg2
     have HSq:=hI hseen
     have HIN:=hI hinn
     have l0:=hq1.cell (p:=⟨w.heap.size,0,none⟩) sS
     have l1:=hq1.cell (p:=⟨w.heap.size,1,none⟩) sS
     simp at l0 l1
     clear hq1 hg2 hseen hinn k0 k1 c0 c1 c2
     have lt1:w.heap.size<wq.heap.size:=by omega
     rcases Nat.lt_or_ge k t.ids.length with hlt2|hge2
     ·obtain ⟨id,hid⟩:∃id,t.ids[k]?=some id:=⟨_,List.getElem?_eq_getElem hlt2⟩
      have hlt3:k<t.rows.length:=by have:=N2.out;omega
      obtain ⟨r,hr⟩:∃r,t.rows[k]?=some r:=⟨_,List.getElem?_eq_getElem hlt3⟩
      obtain ⟨b3,o3,cap3,e3,_,i0⟩:=(HJ.out.below HQ.out).at hid
      obtain ⟨b4,o4,cap4,e4,_,rc⟩:=(HR.out.below HQ.out).at8 hr
      obtain ⟨rfl,rfl⟩:a1=some ⟨b3,o3,none⟩/\cp1=cap3:=by simpa using e3
      obtain ⟨rfl,rfl⟩:a2=some ⟨b4,o4,none⟩/\cp2=cap4:=by simpa using e4
      obtain ⟨r0,r1,r2,r3,r4,r5,r6,r7⟩:=rc
      have HID:=hI hid
      have HRR:=hI hr
      clear e3 e4 hid hr
      have hi64:I64 id:=(HI.out.2 t (List.mem_of_getElem? HT2.out)).2.1 id (List.mem_of_getElem? HID.out)
      have lk:=λnn=>seen_look HSq.out hi64 nn
      have HI64:=hI hi64
      clear hi64
      go_upto_region 11 with fail
      go_cut [78] (λq W=>∃bad,q=.bool bad/\Below wq.heap.size wq W/\M.Tested1 s n k t id r bad)
      case first=>
       by_cases y1:id<0
       ·go_wp2_with fail
        go_quiet (fail)
        go_wp2_with fail
        go_meet
        exact ⟨true,rfl,below_drewN (Below.refl _ _) _,M.bad_id HT2.out HID.out (.inl y1)⟩
       have y1':decide (id<0)=false:=decide_eq_false y1
       by_cases y2:s.next<=id
       ·go_wp2_with fail
        go_quiet (fail)
        go_wp2_with fail
        go_meet
        exact ⟨true,rfl,below_drewN (Below.refl _ _) _,M.bad_id HT2.out HID.out (.inr y2)⟩
       have y2':decide (s.next<=id)=false:=decide_eq_false y2
       by_cases y3:id∈M.idsT (s.tables.take n)++t.ids.take k
       ·rw [decide_eq_true y3] at lk
        have Y3:=hI y3
        clear y3
        go_wp2_with fail
        go_quiet (fail)
        go_wp2_with fail
        go_meet
        exact ⟨true,rfl,below_drewN (Below.refl _ _) _,M.bad_twice HT2.out HID.out Y3.out⟩
       rw [decide_eq_false y3] at lk
       have Y3:=hI y3
       clear y3
       have lk1:=lk 1
       change (Instr.lookup 130 (.map (some (w.heap.size+1))) (.int .i64 id) false).run Tryz.prog wq.drew=.ok (.bool false) wq.drew at lk1
       have HGR:=hI (λW=>goodRow_calls t.mask r W)
       obtain ⟨gr,hgr⟩:∃g,g=M.goodRow t.mask r:=⟨_,rfl⟩
       rw [←hgr] at HGR
       have HGE:=hI hgr
       clear hgr
       go_wp2_with fail
       go_region_with (go_at_call 40;refine (HGR.out _).mono ?_;rintro e w5 ⟨rfl,hb5⟩;have hb5':Below wq.heap.size wq w5:=(Below.refl _ wq).drew.trans hb5)
       all_goals
        go_wp2_with fail
        go_meet
        exact ⟨!gr,rfl,by assumption,M.tested1_row HGE.out HT2.out HRR.out bO bO Y3.out⟩
      case rest=>
       obtain ⟨bad,rfl,hbw,htest⟩:=hcut
       have HTT:=hI htest
       have HBW:=hI hbw
       have HBC:Hid (Below w.heap.size w wc):=hI (HQ.out.trans (hbw.mono bO))
       clear htest
       cases bad
       case true=>
        have hB:=HBC.out
        go_wp2_with fail
        go_ret
        exact ⟨ret_bool HTT.out.symm,hB⟩
       have hT1:=HTT.out
       obtain ⟨t1,t2,t3⟩:=hT1
       have hcount:=M.inner_count HU.out HIN.out t1.1 t1.2 t2
       have hnext:=HI.out.1
       unfold I64 at hnext
       have hown:=seen_below HSq.out hbw
       have hkey:=keyOf_int_mk Tryz.underlying3 (WalkArith.wf_i64 HI64.out)
       have INN:=hI (M.inner_step HIN.out HID.out HRR.out t1.1 t1.2 t2 t3)
       have T0:=below_cell b0 hbw
       have T1:=below_cell b1 hbw
       have T2:=below_cell b2 hbw
       have hzc:=hbw.size
       have EL:Hid (M.idsT (s.tables.take n)++t.ids.take (k+1)=(M.idsT (s.tables.take n)++t.ids.take k)++[id]):=hI (by rw [M.take_snoc HID.out,List.append_assoc])
       obtain ⟨L,hL⟩:∃L,L=M.idsT (s.tables.take n)++t.ids.take k:=⟨_,rfl⟩
       rw [←hL] at hown hcount EL
       have HOWN:=hI hown
       have HKEY:=hI hkey
       clear t1 t2 t3 hown hkey hL lk b0 b1 b2 l0 l1 r0 r1 r2 r3 r4 r5 r6 r7 i0
       have HT0:=hI T0
       have HT1':=hI T1
       have HT2':=hI T2
       clear T0 T1 T2
       go_wp2_with (at_mapUpdate;refine wpList_mapUpdate_own _ rfl _ _ _ 130 rfl 3 4 int_law Tryz.underlying130 _ (w.heap.size+1) L.length _ rfl HOWN.out (by unfold maxLen;omega) _ _ _ rfl rfl HKEY.out _ [] (plainElem_bool Tryz.underlying4 true) ?_;intro w6 hown6 hgrow6)
       have hz6:=hgrow6.size
       go_roundg (t.ids.length-(k+1))
       case measure=>rw [HG2.out];omega
       case rel=>
        refine ⟨k+1,by omega,by go_num,rfl,?_,by omega,⟨?_,?_,?_⟩,?_,INN.out⟩
        ·exact (HQ1.out.trans (HBW.out.mono bO)).grown hgrow6 bO (λj hj=>by cases hj;omega)
        ·exact hgrow6.cell HT0.out sO
        ·exact hgrow6.cell HT1'.out sO
        ·exact hgrow6.cell HT2'.out sO
        ·rw [EL.out];exact seen_put hown6
     ·obtain rfl:k=t.ids.length:=by omega
      have UPS:=hI (M.upto_step HU.out HT2.out N1.out N2.out N3.out HIN.out)
      have ES:Hid (M.idsT (s.tables.take (n+1))=M.idsT (s.tables.take n)++t.ids):=hI (by rw [M.take_snoc HT2.out,M.idsT_append,M.idsT_one])
      have HSZ:=hI (M.sizeW_step HT2.out)
      have HSq2:Hid (SeenAt wq (w.heap.size+1) (M.idsT (s.tables.take n)++t.ids)):=hI (by have h:=HSq.out;rw [List.take_length] at h;exact h)
      clear hge2 hk
      obtain ⟨z,hzz⟩:∃z,M.sizeW (s.tables.take n)=z:=⟨_,rfl⟩
      rw [hzz] at HSZ⊢
      clear hzz
      go_wp2_with fail
      go_roundg (s.tables.length-(n+1))
      case measure=>rw [HG.out];omega
      case rel=>exact ⟨n+1,by omega,by go_num,by rw [HSZ.out],rfl,HQ1.out,by rw [ES.out];exact HSq2.out,UPS.out⟩
  ·obtain rfl:n=s.tables.length:=by omega
   rw [List.take_length]
   have hgd:=M.good_end HU.out
   obtain ⟨z,hz⟩:∃z,M.sizeW s.tables=z:=⟨_,rfl⟩
   rw [hz] at hgd⊢
   have HGD:=hI hgd
   clear hz hgd
   by_cases d1:z<=10
   ·by_cases d2:0<=s.next
    ·go_wp2_with fail
     go_ret
     exact ⟨ret_bool (by rw [HGD.out];simp [d1,d2]),HB.out⟩
    ·go_wp2_with fail
     go_ret
     exact ⟨ret_bool (by rw [HGD.out];simp;omega),HB.out⟩
   ·have d1':decide (z<=10)=false:=decide_eq_false d1
    go_wp2_with fail
    go_ret
    exact ⟨ret_bool (by rw [HGD.out];simp;omega),HB.out⟩
end Go.Proofs.YtemkbjaojinaoaaGreat
namespace Go.Proofs.YtemkbjaojinaoaaGreat
open Go.RowKit
theorem sort_own {w:World} {base:Nat} {v:Value} {zs:List Int} (h:w.ownsRow base 3 1 v zs.length (zs.map (Value.int .i64))) (hz:zs.length<4611686018427387904) (hbw:base<=w.heap.size):
  Calls Tryz.prog 52 #[v] w λe w'=>e=.returned (.tuple #[])/\w'.ownsRow base 3 1 v (zs.mergeSort λx y=>decide (x<=y)).length ((zs.mergeSort λx y=>decide (x<=y)).map (Value.int .i64))/\Below base w w':=by
 rcases h.2 with ⟨rfl,h0⟩|⟨g,cap,cur,rfl,hg,hb,hn,hm,hs,ht⟩
 ·have e0:zs=[]:=List.length_eq_zero_iff.1 h0
  subst e0
  have c:Calls Tryz.prog 52 #[.slice none 0 0] w λe w'=>e=.returned (.tuple #[])/\w'=w:=Any.slices_Sort_int_none Tryz.lays189 none 0 w
  exact c.mono λe w' ⟨h1,h2⟩=>⟨h1,by rw [h2];simpa using World.ownsRow_nil w base 3 1,by rw [h2];exact Below.refl _ _⟩
 ·have hgl:g<w.heap.size:=(Array.getElem?_eq_some_iff.1 hb).1
  have hH:=holds_of_blockI (ss:=zs) hb (by simpa using ht)
  have c:Calls Tryz.prog 52 #[.slice (some ⟨g,0,none⟩) zs.length cap] w λe w'=>
   e=.returned (.tuple #[])/\∃n os,w'=Sort.grow (Sort.putRow (Value.int .i64) (Sort.ahead w n) g 0 (zs.mergeSort λx y=>decide (x<=y)).toArray) os:=Any.slices_Sort_int Tryz.lays189 g 0 cap zs w hH hgl hz
  refine c.mono λe w' ⟨h1,n,os,h2⟩=>⟨h1,?_,?_⟩
  ·rw [h2,List.length_mergeSort]
   exact ownsRow_sortedI (List.length_mergeSort _) hg hb hn hm hs
  ·rw [h2]
   exact (Below.refl base w).grown (grownBy_sortedI _) hbw (λk hk=>by simp only [Option.some.injEq] at hk;omega)
theorem query_calls {w:World} {lo:Nat} {v:Value} {s:M.Store} (h:StoreAt w lo v s) (hg:M.GoodS s) (m:Int):
  Calls Tryz.prog 53 #[v,.int .i64 m] w λe w'=>∃v',e=.returned v'/\w'.ownsRow w.heap.size 3 1 v' (M.query s m).length ((M.query s m).map (Value.int .i64))/\Below w.heap.size w w':=by
 obtain ⟨vt,rfl,hs,hT⟩:=h
 obtain ⟨a,cap,rfl⟩:=hT.val
 obtain ⟨i0,hi,hz0,hz1,hz2⟩:=info_parts infoInt
 have hmx:s.tables.length<=9223372036854775807:=by have:=hT.max;unfold maxLen at this;omega
 have HT:=hI hT
 have HG:=hI hg
 have HI:=hI (And.intro hi (And.intro hz0 (And.intro hz1 hz2)))
 clear hT hg hi hz0 hz1 hz2
 go_enter Tryz.func53,Tryz.ntmps53
 go_wp2_with fail
 go_loopg [5,11] s.tables.length (λg o i wr=>∃n:Nat,n<=s.tables.length/\i=.int .i64 n/\g=s.tables.length-n/\wr.ownsRow w.heap.size 3 1 o (M.selT m (s.tables.take n)).length ((M.selT m (s.tables.take n)).map (Value.int .i64))/\Below w.heap.size w wr)
 case atStart=>exact ⟨0,Nat.zero_le _,rfl,rfl,World.ownsRow_nil _ _ _ _,(Below.refl _ w).alloc lR _⟩
 case round=>
  obtain ⟨n,hn,rfl,hgk,ho,hb⟩:=hrel
  have HB:=hI hb
  have HK:=hI hgk
  have HO:=hI ho
  have hz:=hb.size
  clear hb hgk ho
  rcases Nat.lt_or_ge n s.tables.length with hlt|hge
  ·obtain ⟨t,ht⟩:∃t,s.tables[n]?=some t:=⟨_,List.getElem?_eq_getElem hlt⟩
   obtain ⟨b,o,cap',a1,cp1,a2,cp2,e,hlo,hp,c0,c1,c2,h1,h2⟩:=(HT.out.below HB.out).at2 ht
   obtain ⟨rfl,rfl⟩:a=some ⟨b,o,none⟩/\cap=cap':=by simpa using e
   have hne:t.ids≠[]:=(HG.out.1 t (List.mem_of_getElem? ht)).1
   have hlen:=M.selT_len m ht
   have h10:(M.idsT s.tables).length<=10:=HG.out.2.2.2.1
   have HS:=hI (M.selT_step m ht)
   obtain ⟨k1,k2,a',cap',e',k3⟩:=h1
   obtain ⟨rfl,rfl⟩:a1=a'/\cp1=cap':=by simpa using e'
   obtain ⟨b1,o1,rfl,_,kc⟩:=k3 (by simpa using hne)
   have HC:=hI (λW (hb:Below wr.heap.size wr W) (j:Nat) (u:Value) (hu:(t.ids.map (Value.int .i64))[j]?=some u)=>show W.cell? ((⟨b1,o1,none⟩:Addr).add j)=some u from by rw [Addr.add_lit];exact below_cell (kc j u hu) hb)
   have HL:Hid ((M.selT m (s.tables.take n)).length+t.ids.length<=10):=hI bO
   clear e hlo hp h2 ht hne k1 k2 k3 kc e' hlen h10
   by_cases hm:bits .and .i64 t.mask m=m
   ·go_wp2_with (at_builtin;refine wpList_append_own_at _ rfl (.tmp 21) (.tmp 23) _ rfl w.heap.size 3 i0 _ 1 8 Tryz.underlying32 HI.out.1 HI.out.2.1 HI.out.2.2.1 HI.out.2.2.2 rfl bO _ _ _ rfl (own_below HO.out ((Below.refl _ wr).alloc lR _)) ⟨b1,o1,none⟩ t.ids.length cp1 (t.ids.map (Value.int .i64)) rfl sS (HC.out _ ((Below.refl _ wr).alloc lR _)) (by intro u hu;obtain ⟨z,_,rfl⟩:=List.mem_map.1 hu;rfl) (by have:=HL.out;unfold maxLen;omega) (by have:=HL.out;omega) sO ?_;intro v1 w1 hown1 hg1 _ hat1;have HO1:=hI hown1;have HB1:Hid (Below w.heap.size w w1):=hI ((HB.out.alloc bO _).grown hg1 sO (λk hk=>(HO.out.lt k hk).1));clear hown1 hg1 hat1)
    go_roundg (s.tables.length-(n+1))
    case measure=>rw [HK.out];omega
    case rel=>
     refine ⟨n+1,by omega,by go_num,rfl,?_,HB1.out⟩
     have:=HO1.out
     rw [HS.out,if_pos hm,List.length_append,List.map_append]
     exact this
   ·go_wp2_with fail
    go_roundg (s.tables.length-(n+1))
    case measure=>rw [HK.out];omega
    case rel=>
     refine ⟨n+1,by omega,by go_num,rfl,?_,HB.out.alloc bO _⟩
     have:=own_below HO.out ((Below.refl _ wr).alloc lR (.cells #[Value.int IntKind.i64 t.mask,Value.slice (some ⟨b1,o1,none⟩) t.ids.length cp1,Value.slice a2 t.rows.length cp2] 102))
     rw [HS.out,if_neg hm,List.append_nil]
     exact this
  ·obtain rfl:n=s.tables.length:=by omega
   rw [List.take_length] at HO
   have hl:(M.selT m s.tables).length<=10:=Nat.le_trans (M.selT_le m s.tables) HG.out.2.2.2.1
   have HSO:=hI (sort_own HO.out bO hz)
   clear hl
   go_wp2_with (go_at_call 52;refine HSO.out.mono ?_;rintro e w5 ⟨rfl,ho5,hb5⟩)
   go_ret
   exact ⟨_,rfl,ho5,HB.out.trans hb5⟩
end Go.Proofs.YtemkbjaojinaoaaGreat
