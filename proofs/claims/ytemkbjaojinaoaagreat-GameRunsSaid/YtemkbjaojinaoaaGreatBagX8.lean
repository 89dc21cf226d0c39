/- Several small texts in one. No condition of its own: each part says its own. -/
import Derived.Test.YtemkbjaojinaoaaGreatShort
import Derived.Test.YtemkbjaojinaoaaGreatBagM3
import Derived.Test.YtemkbjaojinaoaaGreatBagM4
import Derived.Test.YtemkbjaojinaoaaGreatBagP
import Derived.Test.YtemkbjaojinaoaaGreatBagWo
import Derived.Test.YtemkbjaojinaoaaGreatBagM1
import Derived.Test.YtemkbjaojinaoaaGreatBagW
set_option linter.unusedVariables false
set_option linter.unusedSimpArgs false
set_option maxRecDepth 100000
set_option maxHeartbeats 8000000
namespace Go.Proofs.YtemkbjaojinaoaaGreat
open Go.RowKit
theorem sorted_calls {w:World} {b c:Nat} {f:Int->Option M.Th} (h:MapA w b f c) (hc:c<=1048576):
  Calls Tryz.prog 55 #[.map (some b)] w λe w'=>∃(v':Value) (zs:List Int),e=.returned v'/\w'.ownsRow w.heap.size 3 1 v' zs.length (zs.map (Value.int .i64))/\zs.Pairwise (λa b=>leI a b=true)/\zs.Nodup/\(∀z,z∈zs↔(f z).isSome=true)/\(∀z∈zs,I64 z)/\zs.length<=c/\Below w.heap.size w w':=by
 have HM:=hI h
 have lb:=h.lt
 obtain ⟨i0,hi,hz0,hz1,hz2⟩:=info_parts infoInt
 have HI:=hI (And.intro hi (And.intro hz0 (And.intro hz1 hz2)))
 clear h hi hz0 hz1 hz2
 go_enter Tryz.func55,Tryz.ntmps55
 go_wp2_with (first|(at_range;refine wpList_th_range _ rfl _ 44 rfl 3 83 Tryz.underlying3 Tryz.underlying44 b f c rfl HM.out ?_;intro w0 hrg0 hg0 hs0;have HR0:=hI hrg0;have HG0:=hI hg0;clear hrg0 hg0))
 go_frame
 have HB0:Hid (Below w.heap.size w w0):=hI ((Below.refl _ w).grown HG0.out sS sS)
 go_loopg [3] c (λgh o wr=>∃(left:Int->Bool) (oa:Option Addr) (oc:Nat) (zs:List Int),RngA wr b w.heap.size f c left gh/\o=.slice oa zs.length oc/\zs.Pairwise (λa b=>leI a b=true)/\zs.Nodup/\(∀z,z∈zs↔((f z).isSome=true/\left z=false))/\zs.length+gh<=c/\(∀z∈zs,I64 z)/\wr.ownsRow (w.heap.size+1) 3 1 (.slice oa zs.length oc) zs.length (zs.map (Value.int .i64))/\Below w.heap.size w wr)
 case atStart=>exact ⟨_,none,0,[],HR0.out,rfl,List.Pairwise.nil,List.nodup_nil,(λz=>⟨λh=>absurd h sS,λh=>by have h2:=h.2;rw [h.1] at h2;cases h2⟩),by simp,sS,World.ownsRow_nil _ _ _ _,HB0.out⟩
 case round=>
  obtain ⟨wo,hwo⟩:∃wo,wo=wr:=⟨_,rfl⟩
  subst hwo
  obtain ⟨left,oa,oc,zs,hrg,rfl,hso,hnd,hiff,hlt0,hi64,how,hbe⟩:=hrel
  have HRG:=hI hrg
  have HSO:=hI hso
  have HND:=hI hnd
  have HIFF:=hI hiff
  have HLT:=hI hlt0
  have HI64:=hI hi64
  have HOW:=hI how
  have HBE:=hI hbe
  have ko:=hbe.size
  have lr:=hrg.lt
  have hzl:zs.length<=1048576:=by omega
  have hold:∀g,(Value.slice oa zs.length oc).ownBlock=some g->w.heap.size+1<=g/\g<wo.heap.size:=λg e=>how.lt g e
  have HOLD:=hI hold
  clear hrg hso hnd hiff hlt0 hi64 how hbe hold
  go_wp2_with (first|(at_next;refine wpList_th_next _ rfl _ rfl 3 Tryz.underlying3 b w.heap.size f c left _ rfl HRG.out (λh0 hl0=>?_) (λid q w1 n1 hid hlt hfq hrg1 hn1 hg1 hs1 hen=>?_))|(at_builtin;have HOW1:=hI (show w1.ownsRow (w.heap.size+1) 3 1 (.slice oa zs.length oc) zs.length (zs.map (Value.int .i64)) from own_same HOW.out (λg e=>hg1.block g (HOLD.out g e).2 (λe'=>by have:=(HOLD.out g e).1;simp at e';omega)));have HRG1:=hI hrg1;have HG1:=hI hg1;have HFQ:=hI hfq;have HLL:=hI hlt;have HNN:=hI hn1;have HID:Hid (I64 id):=hI hid;clear hrg1 hg1 hfq hlt hn1 hid;go_loud (refine wpList_append_own_at _ rfl (.tmp 14) (.tmp 16) _ rfl (w.heap.size+1) 3 i0 _ 1 8 Tryz.underlying32 HI.out.1 HI.out.2.1 HI.out.2.2.1 HI.out.2.2.2 rfl bO (.slice oa zs.length oc) zs.length (zs.map (Value.int .i64)) rfl (own_below HOW1.out ((Below.refl _ w1).alloc lR _)) ⟨wo.heap.size,0,none⟩ 1 1 [.int .i64 id] rfl rfl (by intro j u hu;rw [←hs1];match j,hu with|0,hu=>(simp at hu;subst hu;rw [Addr.add_lit];simp)|j+1,hu=>simp at hu) (by intro u hu;simp at hu;subst hu;rfl) (by unfold maxLen;omega) bO sO ?_);intro v9 w9 hown9 hg9 _ hat9;obtain ⟨g9,c9,rfl,hg91,hg92⟩:=own_val hown9 bO;have HO9:=hI hown9;have HG9:=hI hg9;have HA9:=hI hat9;have kz9:=hg9.size;(try simp at kz9);clear hown9 hg9 hat9))
  ·go_ret
   exact ⟨_,zs,rfl,own_mono HOW.out bO,HSO.out,HND.out,(λz=>by rw [HIFF.out z,hl0];simp),HI64.out,by have:=HLT.out;omega,HBE.out⟩
  ·have HRG9:Hid (RngA w9 b w.heap.size f c (λj=>left j && !(j==id)) n1):=hI (HRG1.out.block ((HG9.out.block b sO (λe=>by have:=(HOLD.out b e.symm).1;omega)).trans (Below.heap_alloc w1 _ b bO)) ((HG9.out.block w.heap.size sO (λe=>by have:=(HOLD.out _ e.symm).1;omega)).trans (Below.heap_alloc w1 _ _ bO)))
   have HBE9:Hid (Below w.heap.size w w9):=hI (((HBE.out.grown HG1.out ko sS).alloc bO _).grown HG9.out sO (λk hk=>by have:=(HOLD.out k hk).1;omega))
   have HW9:Hid (w9.ownsRow (w.heap.size+1) 3 1 (.slice (some ⟨g9,0,none⟩) (zs.length+1) c9) (zs.length+1) ((zs++[id]).map (Value.int .i64))):=hI (by rw [List.map_append];exact HO9.out)
   have HNI:Hid (id∉zs):=hI (λe=>by have:=((HIFF.out id).1 e).2;rw [HLL.out] at this;cases this)
   go_loopg [5] zs.length (λgh i wr=>∃(k:Nat) (out:List Int),k<=zs.length/\i=.int .i64 k/\gh=k/\M.Hole zs k out/\(∀q∈zs.drop k,leI q id=false)/\wr.ownsRow (w.heap.size+1) 3 1 (.slice (some ⟨g9,0,none⟩) (zs.length+1) c9) (zs.length+1) (out.map (Value.int .i64))/\Bar g9 w9 wr)
   case atStart=>exact ⟨zs.length,zs++[id],Nat.le_refl _,rfl,rfl,M.hole_start zs id,sS,HW9.out,Bar.refl _ _⟩
   case round=>
    obtain ⟨wq,hwq⟩:∃wq,wq=wr:=⟨_,rfl⟩
    subst hwq
    obtain ⟨k,out,hk,rfl,hgk,hho,hdr,how,hbar⟩:=hrel
    have HKK:=hI hgk
    have HHO:=hI hho
    have HDR:=hI hdr
    have HOQ:=hI how
    have HBAR:=hI hbar
    have kq:=hbar.size
    have lg:=(how.lt g9 rfl).2
    have hol:=M.hole_len hho hk
    have fq:=λj=>how.frozenAt j
    clear hgk hho hdr hbar
    rcases Nat.eq_zero_or_pos k with hk0|hkp
    ·subst hk0
     obtain ⟨u1,hu1⟩:∃u,out[0]?=some u:=⟨_,List.getElem?_eq_getElem bO⟩
     have z1:=(how.cellAt 0 bO).trans (show (out.map (Value.int .i64))[0]?=some (.int .i64 u1) by simp [hu1])
     have q0:decide ((0:Int)<((0:Nat):Int))=false:=by rw [decide_eq_false_iff_not];omega
     have q4:(0:Int)<(zs.length:Int)+1:=by omega
     have hins:=look_ins (x:=id) HHO.out hk HDR.out (λj q e _=>by omega) HSO.out
     have HINS:=hI hins
     clear hu1 how hins
     go_wp2_with fail
     go_roundg n1
     case measure=>exact HNN.out
     case rel=>exact (by
      obtain ⟨s1,s2,s3⟩:=HINS.out
      refine ⟨λj=>left j && !(j==id),some ⟨g9,0,none⟩,c9,out.set 0 id,?_,by rw [s3],s1,?_,?_,?_,?_,?_,?_⟩
      ·exact HRG9.out.block (((bS _ _ _ _ sO).trans (HBAR.out.block b bO bO))) (((bS _ _ _ _ sO).trans (HBAR.out.block w.heap.size bO bO)))
      ·exact s2.nodup_iff.2 (by rw [List.nodup_append];exact ⟨HND.out,by simp,λx hx y hy e=>by simp only [List.mem_singleton] at hy;subst hy;subst e;exact HNI.out hx⟩)
      ·intro z
       rw [s2.mem_iff,List.mem_append,List.mem_singleton,HIFF.out z]
       by_cases hz:z=id
       ·subst hz
        simp [HFQ.out]
       ·simp [hz]
      ·have:=HLT.out;have:=HNN.out;omega
      ·intro z hz
       rcases List.mem_append.1 (s2.mem_iff.1 hz) with h|h
       ·exact HI64.out z h
       ·simp only [List.mem_singleton] at h;subst h;exact HID.out
      ·rw [s3]
       exact own_same (ints_put HOQ.out 0 id) (λ_ _=>rfl)
      ·exact (HBE9.out.trans (HBAR.out.below (B:=w.heap.size) bO bO)).setCell sO _)
    ·obtain ⟨j,rfl⟩:∃j,k=j+1:=⟨k-1,by omega⟩
     obtain ⟨u,hu⟩:∃u,zs[j]?=some u:=⟨_,List.getElem?_eq_getElem bO⟩
     have hou:=(M.hole_at HHO.out hk (Nat.lt_succ_self j)).trans hu
     have z0:=(how.cellAt j bO).trans (show (out.map (Value.int .i64))[j]?=some (.int .i64 u) by simp [hou])
     have q0:decide ((0:Int)<((j:Int)+1))=true:=by rw [decide_eq_true_eq];omega
     have q1:(0:Int)<=(j:Int):=by omega
     have q2:(j:Int)<(zs.length:Int)+1:=by omega
     have hw1:IntKind.i64.wrap ((j:Int)+1-1)=(j:Int):=by rw [IntKind.wrap_i64];omega
     have HU:=hI hu
     obtain ⟨u1,hu1⟩:∃u,out[j+1]?=some u:=⟨_,List.getElem?_eq_getElem bO⟩
     have z1:=(how.cellAt (j+1) bO).trans (show (out.map (Value.int .i64))[j+1]?=some (.int .i64 u1) by simp [hu1])
     have q8:((j:Int)+1)<(zs.length:Int)+1:=by omega
     clear hu1 how hou hu
     rw [show ((j+1:Nat):Int)=(j:Int)+1 by omega]
     by_cases hgt:id<u
     ·have HGT:=hI hgt
      go_wp2_with fail
      go_roundg j
      case measure=>rw [HKK.out];omega
      case rel=>
       refine ⟨j,out.set (j+1) u,by omega,by go_num,rfl,M.hole_go HHO.out hk HU.out,?_,?_,HBAR.out.setCell _ _⟩
       ·intro q hq
        rw [List.drop_eq_getElem_cons (show j<zs.length by omega)] at hq
        rcases List.mem_cons.1 hq with e|e
        ·have hu2:=HU.out
         rw [List.getElem?_eq_getElem (show j<zs.length by omega)] at hu2
         simp only [Option.some.injEq] at hu2
         have:=HGT.out
         rw [e,hu2]
         unfold leI
         rw [decide_eq_false_iff_not]
         omega
        ·exact HDR.out q e
       ·exact own_same (ints_put HOQ.out (j+1) u) (λ_ _=>rfl)
     ·have q7:decide (id<u)=false:=decide_eq_false hgt
      have hins:=look_ins (x:=id) HHO.out hk HDR.out (λj' q e hq=>by
       obtain rfl:j'=j:=by omega
       rw [HU.out] at hq
       simp only [Option.some.injEq] at hq
       subst hq
       unfold leI
       rw [decide_eq_true_eq]
       omega) HSO.out
      have HINS:=hI hins
      clear hins
      go_wp2_with fail
      go_roundg n1
      case measure=>exact HNN.out
      case rel=>exact (by
       obtain ⟨s1,s2,s3⟩:=HINS.out
       refine ⟨λj=>left j && !(j==id),some ⟨g9,0,none⟩,c9,out.set (j+1) id,?_,by rw [s3],s1,?_,?_,?_,?_,?_,?_⟩
       ·exact HRG9.out.block (((bS _ _ _ _ sO).trans (HBAR.out.block b bO bO))) (((bS _ _ _ _ sO).trans (HBAR.out.block w.heap.size bO bO)))
       ·exact s2.nodup_iff.2 (by rw [List.nodup_append];exact ⟨HND.out,by simp,λx hx y hy e=>by simp only [List.mem_singleton] at hy;subst hy;subst e;exact HNI.out hx⟩)
       ·intro z
        rw [s2.mem_iff,List.mem_append,List.mem_singleton,HIFF.out z]
        by_cases hz:z=id
        ·subst hz
         simp [HFQ.out]
        ·simp [hz]
       ·have:=HLT.out;have:=HNN.out;omega
       ·intro z hz
        rcases List.mem_append.1 (s2.mem_iff.1 hz) with h|h
        ·exact HI64.out z h
        ·simp only [List.mem_singleton] at h;subst h;exact HID.out
       ·rw [s3]
        exact own_same (ints_put HOQ.out (j+1) id) (λ_ _=>rfl)
       ·exact (HBE9.out.trans (HBAR.out.below (B:=w.heap.size) bO bO)).setCell sO _)
def M.hasAll (f:Int->Option M.Th) (m z:Int):Bool:=decide (bits .and .i64 ((f z).getD M.th0).1 m=m)
theorem M.asc_unique {a b:List Int} (ha:a.Pairwise (· < ·)) (hb:b.Pairwise (· < ·)) (h:∀z,z∈a↔z∈b):a=b:=by
 have na:a.Nodup:=ha.imp (λh=>by omega)
 have nb:b.Nodup:=hb.imp (λh=>by omega)
 exact List.Perm.eq_of_pairwise (le:=λa b:Int=>a<=b) (λa b _ _ h1 h2=>by omega) (ha.imp (λh=>by omega)) (hb.imp (λh=>by omega)) ((List.perm_ext_iff_of_nodup na nb).2 h)
theorem M.having_query {s:M.Store} (g:M.GoodS s) (m:Int) {zs:List Int} (hs:zs.Pairwise (λa b=>leI a b=true)) (hn:zs.Nodup) (hi:∀z,z∈zs↔(M.look (M.entries s) z).isSome=true):
  zs.filter (M.hasAll (M.look (M.entries s)) m)=M.query s m:=by
 refine M.asc_unique ?_ (M.query_asc g m) (λz=>?_)
 ·have h2:zs.Pairwise (· < ·):=(List.pairwise_and_iff.2 ⟨hs,hn⟩).imp (λ⟨h1,h2⟩=>by unfold leI at h1;simp at h1;omega)
  exact h2.filter _
 ·rw [List.mem_filter,hi,M.mem_query g]
  unfold M.hasAll
  constructor
  ·rintro ⟨h1,h2⟩
   obtain ⟨⟨n,r⟩,h3⟩:=Option.isSome_iff_exists.1 h1
   rw [h3] at h2
   exact ⟨n,r,h3,by simpa using h2⟩
  ·rintro ⟨n,r,h3,h4⟩
   rw [h3]
   exact ⟨rfl,by simpa using h4⟩
theorem th_field (t:M.Th) (w:World):(Instr.field 83 (thV t) 0).run Tryz.prog w=.ok (.int .i64 t.1) w:=by kernel_rfl
theorem having_calls2 {w:World} {b c:Nat} {f:Int->Option M.Th} (h:MapA w b f c) (hc:c<=1048576) (m:Int):
  Calls Tryz.prog 63 #[.map (some b),.int .i64 m] w λe w'=>∃(v':Value) (zs:List Int),e=.returned v'/\w'.ownsRow w.heap.size 3 1 v' (zs.filter (M.hasAll f m)).length ((zs.filter (M.hasAll f m)).map (Value.int .i64))/\zs.Pairwise (λa b=>leI a b=true)/\zs.Nodup/\(∀z,z∈zs↔(f z).isSome=true)/\(∀z∈zs,I64 z)/\zs.length<=c/\Below w.heap.size w w':=by
 have HSC:=hI (λU (hb:Below w.heap.size w U)=>sorted_calls (h.below hb h.lt) hc)
 have HM:=hI h
 have lb:=h.lt
 obtain ⟨i0,hi,hz0,hz1,hz2⟩:=info_parts infoInt
 have HI:=hI (And.intro hi (And.intro hz0 (And.intro hz1 hz2)))
 clear hi hz0 hz1 hz2
 clear h
 go_enter Tryz.func63,Tryz.ntmps63
 go_wp2_with (go_at_call 55;refine (HSC.out _ (Below.refl _ _)).mono ?_;rintro e w1 ⟨v1,zs,rfl,ho1,hs1,hn1,hi1,h641,hl1,hb1⟩;obtain ⟨a1,c1,rfl⟩:=own_form ho1)
 have HO1:Hid (IntsAt w1 0 (.slice a1 zs.length c1) zs):=hI (Lies.mono (Lies.of_owns ho1) (Nat.zero_le _))
 have HS1:=hI hs1
 have HN1:=hI hn1
 have HI1:=hI hi1
 have H64:=hI h641
 have HB1:=hI hb1
 have k1:=hb1.size
 have hzl:zs.length<=1048576:=by omega
 clear ho1 hs1 hn1 hi1 h641 hb1
 go_loopg [5,11] zs.length (λg o i wr=>∃(n:Nat) (oa:Option Addr) (oc:Nat),n<=zs.length/\i=.int .i64 n/\o=.slice oa ((zs.take n).filter (M.hasAll f m)).length oc/\g=zs.length-n/\wr.ownsRow w.heap.size 3 1 (.slice oa ((zs.take n).filter (M.hasAll f m)).length oc) ((zs.take n).filter (M.hasAll f m)).length (((zs.take n).filter (M.hasAll f m)).map (Value.int .i64))/\(∀g,(Value.slice oa ((zs.take n).filter (M.hasAll f m)).length oc).ownBlock=some g->w1.heap.size<=g)/\Below w1.heap.size w1 wr)
 case atStart=>exact ⟨0,none,0,Nat.zero_le _,rfl,rfl,rfl,World.ownsRow_nil _ _ _ _,(λg e=>by cases e),Below.refl _ _⟩
 case round=>
  obtain ⟨wo,hwo⟩:∃wo,wo=wr:=⟨_,rfl⟩
  subst hwo
  obtain ⟨n,oa,oc,hn,rfl,rfl,hgk,how,hnb,hbe⟩:=hrel
  have HOW:=hI how
  have HNB:=hI hnb
  have HBE:=hI hbe
  have HK:=hI hgk
  have ko:=hbe.size
  have hbw:Below w.heap.size w wo:=HB1.out.trans (hbe.mono k1)
  have HBW:=hI hbw
  have hfl:((zs.take n).filter (M.hasAll f m)).length<=1048576:=by
   have:=List.length_filter_le (M.hasAll f m) (zs.take n)
   have:=List.length_take_le n zs
   omega
  clear hgk how hnb hbe
  rcases Nat.lt_or_ge n zs.length with hlt|hge
  ·obtain ⟨z,hz⟩:∃z,zs[n]?=some z:=⟨_,List.getElem?_eq_getElem hlt⟩
   obtain ⟨b3,o3,c3,e3,_,i0'⟩:=(HO1.out.below HBE.out).at hz
   obtain ⟨rfl,rfl⟩:a1=some ⟨b3,o3,none⟩/\c1=c3:=by simpa using e3
   have hid:I64 z:=H64.out z (List.mem_of_getElem? hz)
   have HID:=hI hid
   have HMO:=hI (HM.out.below hbw lb)
   have hstep:(zs.take (n+1)).filter (M.hasAll f m)=(zs.take n).filter (M.hasAll f m)++(if M.hasAll f m z=true then [z] else []):=by
    rw [List.take_add_one,hz,List.filter_append]
    simp only [Option.toList_some,List.filter_cons,List.filter_nil]
   have HST:=hI hstep
   obtain ⟨t,ht⟩:∃t,t=(f z).getD M.th0:=⟨_,rfl⟩
   have HT:=hI ht
   have FC:=λW=>th_field t W
   obtain ⟨os,hos⟩:∃os,os=(zs.take n).filter (M.hasAll f m):=⟨_,rfl⟩
   have HOS:=hI hos
   rw [←hos] at HOW HNB hfl HST
   rw [←hos]
   clear e3 hz hid hstep ht hbw hos
   by_cases hm:bits .and .i64 t.1 m=m
   ·have qm:(bits .and .i64 t.1 m==m)=true:=by simpa using hm
    have hh:M.hasAll f m z=true:=by unfold M.hasAll;rw [←HT.out];exact decide_eq_true hm
    have HH:=hI hh
    clear hm hh
    go_wp2_with (first|(at_lookup;refine wpList_th_get _ rfl _ _ 44 rfl 3 83 Tryz.underlying3 Tryz.underlying44 (th_zero _) b f c rfl HMO.out z rfl HID.out ?_;rw [←HT.out])|(at_builtin;go_loud (refine wpList_append_own_at _ rfl (.tmp 23) (.tmp 25) _ rfl w.heap.size 3 i0 _ 1 8 Tryz.underlying32 HI.out.1 HI.out.2.1 HI.out.2.2.1 HI.out.2.2.2 rfl bO (.slice oa os.length oc) os.length (os.map (Value.int .i64)) rfl (own_below HOW.out ((Below.refl _ wo).alloc lR _)) ⟨wo.heap.size,0,none⟩ 1 1 [.int .i64 z] rfl rfl (by intro j u hu;match j,hu with|0,hu=>(simp at hu;subst hu;rw [Addr.add_lit];simp)|j+1,hu=>simp at hu) (by intro u hu;simp at hu;subst hu;rfl) (by unfold maxLen;omega) bO sO ?_);intro v9 w9 hown9 hg9 _ hat9;obtain ⟨a9,c9,rfl⟩:=own_form hown9;have HO9:=hI hown9;have HG9:=hI hg9;have HA9:=hI hat9;have kz9:=hg9.size;(try simp at kz9);clear hown9 hg9 hat9))
    go_roundg (zs.length-(n+1))
    case measure=>rw [HK.out];omega
    case rel=>
     have e1:(zs.take (n+1)).filter (M.hasAll f m)=os++[z]:=by rw [HST.out,if_pos HH.out]
     have e2:((zs.take (n+1)).filter (M.hasAll f m)).length=os.length+1:=by rw [e1];simp
     refine ⟨n+1,a9,c9,by omega,by go_num,by rw [e2],rfl,?_,?_,?_⟩
     ·rw [e1,List.map_append]
      have:=HO9.out
      simpa using this
     ·intro g e
      rw [e2] at e
      rcases HA9.out with k|k
      ·exact HNB.out g (k▸(by simpa [Value.ownBlock] using e))
      ·have:g=wo.heap.size+1:=by
        rw [k] at e
        simpa using e.symm
       omega
     ·exact ((HBE.out.alloc ko _).grown HG9.out sO (λk hk=>HNB.out k hk))
   ·have qm:(bits .and .i64 t.1 m==m)=false:=by simpa using hm
    have hh:M.hasAll f m z=false:=by unfold M.hasAll;rw [←HT.out];exact decide_eq_false hm
    have HH:=hI hh
    clear hm hh
    go_wp2_with (first|(at_lookup;refine wpList_th_get _ rfl _ _ 44 rfl 3 83 Tryz.underlying3 Tryz.underlying44 (th_zero _) b f c rfl HMO.out z rfl HID.out ?_;rw [←HT.out]))
    go_roundg (zs.length-(n+1))
    case measure=>rw [HK.out];omega
    case rel=>
     have e1:(zs.take (n+1)).filter (M.hasAll f m)=os:=by rw [HST.out,if_neg (by rw [HH.out];simp),List.append_nil]
     exact ⟨n+1,oa,oc,by omega,by go_num,by rw [e1],rfl,by rw [e1];exact HOW.out,by rw [e1];exact HNB.out,HBE.out⟩
  ·obtain rfl:n=zs.length:=by omega
   have q9:decide ((zs.length:Int)<(zs.length:Int))=false:=decide_eq_false bO
   rw [List.take_length] at HOW
   rw [List.take_length]
   go_wp2_with fail
   go_ret
   exact ⟨_,zs,rfl,HOW.out,HS1.out,HN1.out,HI1.out,H64.out,hl1,HBW.out⟩
def M.FitF (f:Int->Option M.Th):Prop:=∀id t,f id=some t->M.Fits t.1 t.2
def M.boxesF (f:Int->Option M.Th) (zs:List Int):List M.Box:=(zs.filter (M.hasAll f 5)).map λid=>M.boxOf id ((f id).getD M.th0).2
theorem boxesF_sides {f:Int->Option M.Th} (hf:M.FitF f) {z:Int} (hz:(f z).isSome=true) (hm:M.hasAll f 5 z=true):
  (-1048576<=((f z).getD M.th0).2.X/\((f z).getD M.th0).2.X<=1048576)/\(-1048576<=((f z).getD M.th0).2.Y/\((f z).getD M.th0).2.Y<=1048576)/\(1<=((f z).getD M.th0).2.W/\((f z).getD M.th0).2.W<=4096)/\(1<=((f z).getD M.th0).2.H/\((f z).getD M.th0).2.H<=4096):=by
 obtain ⟨t,ht⟩:=Option.isSome_iff_exists.1 hz
 have k:=hf z t ht
 unfold M.hasAll at hm
 rw [ht] at hm⊢
 simp only [Option.getD_some,decide_eq_true_eq] at hm⊢
 have h4:=M.has5_bits (by have:=k.lo;omega) k.hi hm
 have k4:=k.q4 h4.2
 have k1:=k.q1 h4.1
 omega
theorem th_row (t:M.Th) (w:World):(Instr.field 83 (thV t) 1).run Tryz.prog w=.ok (rowV t.2) w:=by kernel_rfl
theorem boxesOf_calls {w:World} {b c:Nat} {f:Int->Option M.Th} (h:MapA w b f c) (hc:c<=1048576) (hf:M.FitF f) (next fall wide high:Int):
  Calls Tryz.prog 31 #[rwV b next fall wide high] w λe w'=>∃(v':Value) (zs:List Int),e=.returned v'/\w'.ownsRow w.heap.size 40 5 v' (M.boxesF f zs).length ((M.boxesF f zs).flatMap boxL)/\zs.Pairwise (λa b=>leI a b=true)/\zs.Nodup/\(∀z,z∈zs↔(f z).isSome=true)/\zs.length<=c/\Below w.heap.size w w':=by
 have HH:=hI (λU (hb:Below w.heap.size w U)=>having_calls2 (h.below hb h.lt) hc 5)
 have HM:=hI h
 have lb:=h.lt
 have HF:=hI hf
 obtain ⟨i0,hi,hz0,hz1,hz2⟩:=info_parts infoBoxW
 have HI:=hI (And.intro hi (And.intro hz0 (And.intro hz1 hz2)))
 clear hi hz0 hz1 hz2 h hf
 go_enter Tryz.func31,Tryz.ntmps31
 go_wp2_with (go_at_call 63;go_loud (refine (HH.out _ bel9).mono ?_;rintro e w1 ⟨v1,zs,rfl,ho1,hs1,hn1,hm1,h641,hl1,hb1⟩;obtain ⟨a1,c1,rfl⟩:=own_form ho1;have K1:Below w.heap.size w w1:=(show Below w.heap.size w _ from bel9).trans (hb1.mono sid9);have hz1':=hb1.size;(try simp at hz1');have b1:Blk w1 w.heap.size 46 #[.map (some b),.int .i64 next,.int .i64 fall,.int .i64 wide,.int .i64 high]:=Blk.below (Blk.new_at sid9) hb1 sid9))
 obtain ⟨qs,hqs⟩:∃qs,qs=zs.filter (M.hasAll f 5):=⟨_,rfl⟩
 have hbx:M.boxesF f zs=qs.map λid=>M.boxOf id ((f id).getD M.th0).2:=by rw [hqs];rfl
 have HSD:Hid (∀z∈qs,I64 z/\(-1048576<=((f z).getD M.th0).2.X/\((f z).getD M.th0).2.X<=1048576)/\(-1048576<=((f z).getD M.th0).2.Y/\((f z).getD M.th0).2.Y<=1048576)/\(1<=((f z).getD M.th0).2.W/\((f z).getD M.th0).2.W<=4096)/\(1<=((f z).getD M.th0).2.H/\((f z).getD M.th0).2.H<=4096)):=hI (λz hz=>by
  rw [hqs] at hz
  obtain ⟨h1,h2⟩:=List.mem_filter.1 hz
  exact ⟨h641 z h1,boxesF_sides HF.out ((hm1 z).1 h1) h2⟩)
 have hl10:qs.length<=1048576:=by
  rw [hqs]
  have:=List.length_filter_le (M.hasAll f 5) zs
  omega
 have HBX:=hI hbx
 rw [←hqs] at ho1⊢
 have HEND:=hI (And.intro hs1 (And.intro hn1 (And.intro hm1 hl1)))
 have HK1:=hI K1
 have HO1:=hI ho1
 have HB1:=hI b1
 clear K1 hb1 ho1 b1 hbx hqs hs1 hn1 hm1 hl1 h641
 go_loopg [3,11] qs.length (λg o i wr=>∃n:Nat,n<=qs.length/\i=.int .i64 n/\g=qs.length-n/\wr.ownsRow w1.heap.size 40 5 o n (((qs.take n).map λid=>M.boxOf id ((f id).getD M.th0).2).flatMap boxL)/\Below w1.heap.size w1 wr)
 case atStart=>exact ⟨0,Nat.zero_le _,rfl,rfl,World.ownsRow_nil _ _ _ _,Below.refl _ _⟩
 case round=>
  obtain ⟨wo,hwo⟩:∃wo,wo=wr:=⟨_,rfl⟩
  subst hwo
  obtain ⟨n,hn,rfl,hgk,ho,hb⟩:=hrel
  have HB:=hI hb
  have HK:=hI hgk
  have HO:=hI ho
  have hz:=hb.size
  have bs:=HB1.out.below hb HB1.out.lt
  have s0:=bs.cell 0
  simp at s0
  have ls:=bs.lt
  clear hgk ho
  rcases Nat.lt_or_ge n qs.length with hlt|hge
  ·obtain ⟨id,hid⟩:∃id,qs[n]?=some id:=⟨_,List.getElem?_eq_getElem hlt⟩
   obtain ⟨g1,cq,e1,_,hg1⟩:=own_val HO1.out bO
   simp only [Value.slice.injEq,true_and] at e1
   obtain ⟨rfl,rfl⟩:=e1
   have hcell:wo.cell? ⟨g1,n,none⟩=some (.int .i64 id):=by
    rw [hb.cell (p:=⟨g1,n,none⟩) hg1,HO1.out.cellAt n bO,List.getElem?_map,hid];rfl
   have KO:Below w.heap.size w wo:=HK1.out.trans (hb.mono HK1.out.size)
   have HMO:=hI (HM.out.below KO lb)
   obtain ⟨hid64,hsd⟩:=HSD.out id (List.mem_of_getElem? hid)
   have HID:=hI hid64
   have HST0:(qs.take (n+1)).map (λid=>M.boxOf id ((f id).getD M.th0).2)=(qs.take n).map (λid=>M.boxOf id ((f id).getD M.th0).2)++[M.boxOf id ((f id).getD M.th0).2]:=by rw [List.take_add_one,hid];simp
   obtain ⟨t,ht⟩:∃t,t=(f id).getD M.th0:=⟨_,rfl⟩
   rw [←ht] at hsd HST0
   have HT:=hI ht
   obtain ⟨m,r⟩:=t
   simp only at hsd HST0
   obtain ⟨d1,d2,d3,d4⟩:=hsd
   have v1:IntKind.i64.wrap (r.X-r.W)=r.X-r.W:=by rw [IntKind.wrap_i64];omega
   have v2:IntKind.i64.wrap (r.Y-r.H)=r.Y-r.H:=by rw [IntKind.wrap_i64];omega
   have v3:IntKind.i64.wrap (r.X+r.W)=r.X+r.W:=by rw [IntKind.wrap_i64];omega
   have v4:IntKind.i64.wrap (r.Y+r.H)=r.Y+r.H:=by rw [IntKind.wrap_i64];omega
   have HST:=hI HST0
   have FR:∀W,(Instr.field 83 (thV (m,r)) 1).run Tryz.prog W=.ok (rowV r) W:=λW=>th_row (m,r) W
   clear hb hid hid64 KO HST0 ht
   go_wp2_with (first|(at_lookup;refine wpList_th_get _ rfl _ _ 44 rfl 3 83 Tryz.underlying3 Tryz.underlying44 (th_zero _) b f c rfl HMO.out id rfl HID.out ?_;rw [←HT.out])|(at_builtin;refine wpList_append_own_at _ rfl (.tmp 20) (.tmp 43) _ rfl w1.heap.size 40 i0 _ 5 40 Tryz.underlying80 HI.out.1 HI.out.2.1 HI.out.2.2.1 HI.out.2.2.2 rfl bO _ n _ rfl (own_below HO.out (show Below wo.heap.size wo _ from bel9)) ⟨wo.heap.size+1,0,none⟩ 1 1 (boxL (M.boxOf id r)) rfl rfl (by intro j u hu;rw [Addr.add_lit];match j,hu with|0,hu=>(simp [boxL,M.boxOf] at hu;subst hu;simp)|1,hu=>(simp [boxL,M.boxOf] at hu;subst hu;simp)|2,hu=>(simp [boxL,M.boxOf] at hu;subst hu;simp)|3,hu=>(simp [boxL,M.boxOf] at hu;subst hu;simp)|4,hu=>(simp [boxL,M.boxOf] at hu;subst hu;simp)|j+5,hu=>simp [boxL] at hu) (by intro u hu;exact boxes_one [M.boxOf id r] u (by simpa using hu)) (by unfold maxLen;omega) bO sO ?_;intro v9 w9 hown9 hg9 _ hat9;have HO9:=hI hown9;have HG9:=hI hg9;clear hown9 hg9 hat9))
   go_roundg (qs.length-(n+1))
   case measure=>rw [HK.out];omega
   case rel=>
    refine ⟨n+1,by omega,by go_num,rfl,?_,?_⟩
    ·rw [HST.out,List.flatMap_append]
     have:=HO9.out
     simpa using this
    ·exact (HB.out.trans ((show Below wo.heap.size wo _ from bel9).mono hz)).grown HG9.out sO (λk hk=>(HO.out.lt k hk).1)
  ·obtain rfl:n=qs.length:=by omega
   rw [List.take_length] at HO
   go_wp2_with fail
   go_ret
   refine ⟨_,zs,rfl,?_,HEND.out.1,HEND.out.2.1,HEND.out.2.2.1,HEND.out.2.2.2,HK1.out.trans (HB.out.mono HK1.out.size)⟩
   rw [HBX.out,List.length_map]
   exact own_lower HO.out (by have:=HK1.out.size;omega)
structure But1 (b:Nat) (w W:World):Prop where
 os:W.os=w.os
 tape:W.tape=w.tape
 output:W.output=w.output
 size:w.heap.size<=W.heap.size
 block:∀g,g<w.heap.size->g≠b->W.heap[g]?=w.heap[g]?
section
variable {b:Nat} {w W W':World}
theorem But1.refl (b:Nat) (w:World):But1 b w w:=⟨rfl,rfl,rfl,Nat.le_refl _,λ_ _ _=>rfl⟩
theorem But1.more (h:But1 b w W) (k:Below W.heap.size W W'):But1 b w W':=⟨k.os.trans h.os,k.tape.trans h.tape,k.output.trans h.output,Nat.le_trans h.size k.size,λg h1 h2=>(k.block g (Nat.lt_of_lt_of_le h1 h.size)).trans (h.block g h1 h2)⟩
theorem But1.later (h:But1 b w W) {B:Nat} (k:Below B W W') (hB:w.heap.size<=B):But1 b w W':=⟨k.os.trans h.os,k.tape.trans h.tape,k.output.trans h.output,Nat.le_trans h.size k.size,λg h1 h2=>(k.block g bO).trans (h.block g h1 h2)⟩
theorem But1.turned (h:But1 b w W) (k:W.mapTurned W' b):But1 b w W':=
 ⟨k.grown.os.trans h.os,k.grown.tape.trans h.tape,k.grown.output.trans h.output,Nat.le_trans h.size k.grown.size,λg h1 h2=>(k.grown.block g (Nat.lt_of_lt_of_le h1 h.size) (λe=>h2 (Option.some.inj e))).trans (h.block g h1 h2)⟩
theorem But1.grown (h:But1 b w W) {row:Option Nat} (k:W.grownBy W' row) (hr:∀r,row=some r->w.heap.size<=r):But1 b w W':=
 ⟨k.os.trans h.os,k.tape.trans h.tape,k.output.trans h.output,Nat.le_trans h.size k.size,λg h1 h2=>(k.block g (Nat.lt_of_lt_of_le h1 h.size) (λe=>by have:=hr g e.symm;omega)).trans (h.block g h1 h2)⟩
theorem But1.blk (h:But1 b w W) {g:Nat} {t:TypeId} {cs:Array Value} (k:Blk w g t cs) (hg:g≠b):Blk W g t cs:=(h.block g k.lt hg).trans k
theorem But1.below (h:But1 b w W) {B:Nat} (hB:B<=w.heap.size) (hb:B<=b):Below B w W:=⟨h.os,h.tape,h.output,h.size,λg hg=>h.block g bO bO⟩
theorem But1.own (h:But1 b w W) {base:Nat} {e:TypeId} {k n:Nat} {v:Value} {xs:List Value} (o:w.ownsRow base e k v n xs) (hb:b<base):W.ownsRow base e k v n xs:=
 own_same o (λg e=>h.block g (o.lt g e).2 (by have:=(o.lt g e).1;omega))
end
namespace M
theorem goS_fit {h:Int->Row->Row} (hfit:∀m r,Fits m r->moves m=true->Fits m (h m r)) {f:Int->Option Th} (hf:FitF f) (z:Int):FitF (goS h f z):=by
 intro id t ht
 rw [goS_at] at ht
 split at ht
 ·rename_i e
  subst e
  cases hz:f id with
  |none=>rw [hz] at ht;cases ht
  |some q=>
   rw [hz] at ht
   simp only [Option.map_some,Option.some.injEq] at ht
   subst ht
   have k:=hf id q hz
   unfold goTh
   split
   ·exact hfit _ _ k (by assumption)
   ·exact k
 ·exact hf id t ht
theorem foldS_fit {h:Int->Row->Row} (hfit:∀m r,Fits m r->moves m=true->Fits m (h m r)) (zs:List Int) {f:Int->Option Th} (hf:FitF f):FitF (zs.foldl (goS h) f):=by
 induction zs generalizing f with
 |nil=>exact hf
 |cons z zs ih=>exact ih (goS_fit hfit hf z)
theorem goS_key (h:Int->Row->Row) (f:Int->Option Th) (z j:Int):(goS h f z j).isSome=(f j).isSome:=by
 rw [goS_at]
 split<;>simp
theorem foldS_key (h:Int->Row->Row) (zs:List Int) (f:Int->Option Th) (j:Int):(zs.foldl (goS h) f j).isSome=(f j).isSome:=by
 induction zs generalizing f with
 |nil=>rfl
 |cons z zs ih=>rw [List.foldl_cons,ih,goS_key]
theorem upd_key {f:Int->Option Th} {id:Int} (h:(f id).isSome=true) (t:Th) (j:Int):(upd f id t j).isSome=(f j).isSome:=by
 unfold upd
 split
 ·rename_i e;subst e;rw [h];rfl
 ·rfl
theorem moves_there {f:Int->Option Th} {id:Int} (h:moves ((f id).getD th0).1=true):(f id).isSome=true:=by
 cases hf:f id with
 |none=>rw [hf] at h;exact absurd h dC
 |some t=>rfl
theorem fit_mask {f:Int->Option Th} (hf:FitF f) (id:Int):0<=((f id).getD th0).1/\((f id).getD th0).1<=31:=by
 cases h:f id with
 |none=>exact ⟨by decide,by decide⟩
 |some t=>have:=(hf id t h).lo;exact ⟨by simp only [Option.getD_some];omega,(hf id t h).hi⟩
theorem metS_key (st:(Int->Option Th)×List Pr) (p:Pr) (j:Int):((metS st p).1 j).isSome=(st.1 j).isSome:=by
 unfold metS
 simp only
 split
 ·by_cases h1:moves ((st.1 p.1).getD th0).1=true
  ·rw [if_pos h1]
   have k1:=λt j=>upd_key (moves_there h1) t j
   split
   ·rename_i h2
    rw [upd_key (by rw [k1];exact moves_there h2),k1]
   ·exact k1 _ j
  ·rw [if_neg h1]
   split
   ·rename_i h2
    rw [upd_key (moves_there h2)]
   ·rfl
 ·rfl
theorem foldM_key (l:List Pr) (st:(Int->Option Th)×List Pr) (j:Int):((l.foldl metS st).1 j).isSome=(st.1 j).isSome:=by
 induction l generalizing st with
 |nil=>rfl
 |cons p l ih=>rw [List.foldl_cons,ih,metS_key]
theorem upd_fit {f:Int->Option Th} (hf:FitF f) {id:Int} {t:Th} (ht:Fits t.1 t.2):FitF (upd f id t):=by
 intro j q hq
 unfold upd at hq
 split at hq
 ·simp only [Option.some.injEq] at hq;subst hq;exact ht
 ·exact hf j q hq
theorem th0_in:InBounds th0.2:=by unfold InBounds th0;simp
theorem fit_in {f:Int->Option Th} (hf:FitF f) (id:Int):InBounds ((f id).getD th0).2:=by
 cases h:f id with
 |none=>exact th0_in
 |some t=>exact (hf id t h).inBounds
theorem metS_fit {st:(Int->Option Th)×List Pr} (hf:FitF st.1) (p:Pr):FitF (metS st p).1:=by
 unfold metS
 simp only
 have f1:=freeRow_in (m:=((st.1 p.1).getD th0).1) (fit_in hf p.1)
 have f2:=freeRow_in (m:=((st.1 p.2).getD th0).1) (fit_in hf p.2)
 have i:=meet_in f1 f2
 have b:=meet_body (freeRow ((st.1 p.1).getD th0).1 ((st.1 p.1).getD th0).2) (freeRow ((st.1 p.2).getD th0).1 ((st.1 p.2).getD th0).2)
 have key:∀{id:Int} {x:Row},moves ((st.1 id).getD th0).1=true->SameBody x (freeRow ((st.1 id).getD th0).1 ((st.1 id).getD th0).2)->InBounds x->Fits ((st.1 id).getD th0).1 x:=by
  intro id x hm hb hi
  obtain ⟨t,ht⟩:=Option.isSome_iff_exists.1 (moves_there hm)
  rw [ht] at hm hb⊢
  simp only [Option.getD_some] at hm hb⊢
  have e:freeRow t.1 t.2=t.2:=by unfold freeRow;rw [if_pos hm]
  rw [e] at hb
  exact met_fits (hf id t ht) hm hb hi
 split
 ·split
  ·rename_i h2
   refine upd_fit ?_ (key h2 b.2 i.2)
   split
   ·rename_i h1
    exact upd_fit hf (key h1 b.1 i.1)
   ·exact hf
  ·split
   ·rename_i h1
    exact upd_fit hf (key h1 b.1 i.1)
   ·exact hf
 ·exact hf
theorem foldM_fit (l:List Pr) {st:(Int->Option Th)×List Pr} (hf:FitF st.1):FitF (l.foldl metS st).1:=by
 induction l generalizing st with
 |nil=>exact hf
 |cons p l ih=>exact ih (metS_fit hf p)
theorem pairs_cnt {l:List Box} (h:l.length<=10):(pairs l).length<=45:=by
 unfold pairs
 split
 ·unfold sortP
  rw [List.length_mergeSort]
  have:=allP_len l
  have h2:l.length*l.length<=10*l.length:=Nat.mul_le_mul_right _ h
  omega
 ·simp
theorem pairs_ids {l:List Box} (hl:∀b∈l,I64 b.id) {p:Pr} (h:p∈pairs l):I64 p.1/\I64 p.2:=by
 unfold pairs at h
 split at h
 ·unfold sortP at h
  rw [List.mem_mergeSort] at h
  obtain ⟨i,j,hji,a,b,ha,hb,hm,hp⟩:=mem_allP.1 h
  have h1:=hl a (List.mem_of_getElem? ha)
  have h2:=hl b (List.mem_of_getElem? hb)
  rcases pair_ids p hp with ⟨e1,e2⟩|⟨e1,e2⟩<;>rw [e1,e2]
  ·exact ⟨h1,h2⟩
  ·exact ⟨h2,h1⟩
 ·cases h
end M
theorem own_cap {w:World} {base:Nat} {e:TypeId} {k n:Nat} {v:Value} {xs:List Value} (h:w.ownsRow base e k v n xs):CapOk v:=by
 rcases h.2 with ⟨rfl,_⟩|⟨g,cap,cur,rfl,_,_,h1,h2,_⟩
 ·exact ⟨none,0,0,rfl,Nat.le_refl _,Nat.zero_le _⟩
 ·exact ⟨_,_,_,rfl,h1,h2⟩
theorem infoPairW:(Tryz.prog.info? 71).map (λi=>(i.zero,i.size,i.bytes))=some (some (.agg #[.int .i64 0,.int .i64 0]),2,16):=by kernel_rfl
end Go.Proofs.YtemkbjaojinaoaaGreat
