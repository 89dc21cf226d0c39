/- Several small texts in one. No condition of its own: each part says its own. -/
import Derived.Test.YtemkbjaojinaoaaGreatShort
import Derived.Test.YtemkbjaojinaoaaGreatBagX8
import Derived.Test.YtemkbjaojinaoaaGreatBagM8
import Derived.Test.YtemkbjaojinaoaaGreatBagM4
import Derived.Test.YtemkbjaojinaoaaGreatBagM2
import Derived.Deep.LoopGhost
import Derived.Test.YtemkbjaojinaoaaGreatBagM1
set_option linter.unusedVariables false
set_option linter.unusedSimpArgs false
set_option maxRecDepth 100000
set_option maxHeartbeats 16000000
namespace Go.Proofs.YtemkbjaojinaoaaGreat
open Go.RowKit
def M.s1 (f:Int->Option M.Th) (zs:List Int) (fall:Int):Int->Option M.Th:=zs.foldl (M.goS (M.goneRow fall)) f
def M.s2 (f:Int->Option M.Th) (zs:List Int) (fall:Int):(Int->Option M.Th)×List M.Pr:=(M.pairs (M.boxesF (M.s1 f zs fall) zs)).foldl M.metS (M.s1 f zs fall,[])
def M.s3 (f:Int->Option M.Th) (zs:List Int) (fall wide high:Int):Int->Option M.Th:=zs.foldl (M.goS (λ_ r=>M.walledRow wide high r)) (M.s2 f zs fall).1
theorem zs_same {zs ys:List Int} {f g:Int->Option M.Th} (h1:zs.Pairwise (λa b=>leI a b=true)) (n1:zs.Nodup) (m1:∀z,z∈zs↔(f z).isSome=true) (h2:ys.Pairwise (λa b=>leI a b=true)) (n2:ys.Nodup) (m2:∀z,z∈ys↔(g z).isSome=true) (hk:∀j,(g j).isSome=(f j).isSome):ys=zs:=by
 have lt:∀{l:List Int},l.Pairwise (λa b=>leI a b=true)->l.Nodup->l.Pairwise (· < ·):=λ{l} h n=>by
  have:=h.and n
  refine this.imp ?_
  rintro a b ⟨k1,k2⟩
  simp [leI] at k1
  omega
 exact M.asc_unique (lt h2 n2) (lt h1 n1) (λz=>by rw [m1,m2,hk])
theorem stepOf_calls {w:World} {b c:Nat} {f:Int->Option M.Th} (h:MapA w b f c) (hc:c<=10) (hf:M.FitF f) (next fall wide high:Int) (hfa:-64<=fall/\fall<=64) (hwi:1<=wide/\wide<=1048576) (hhi:1<=high/\high<=1048576) {zs:List Int} (hzs:zs.Pairwise (λa b=>leI a b=true)) (hzn:zs.Nodup) (hzm:∀z,z∈zs↔(f z).isSome=true):
  Calls Tryz.prog 29 #[rwV b next fall wide high] w λe w'=>∃(b':Nat) (pv:Value),e=.returned (.tuple #[rwV b' next fall wide high,pv])/\MapA w' b' (M.s3 f zs fall wide high) c/\w.heap.size<=b'/\
   w'.ownsRow w.heap.size 71 2 pv (M.s2 f zs fall).2.length ((M.s2 f zs fall).2.flatMap pairL)/\Below w.heap.size w w':=by
 have HC:=hI (λU (hb:Below w.heap.size w U)=>wcopy_calls (h.below hb h.lt) (by unfold maxLen;omega) next fall wide high)
 have HF:=hI hf
 have HZS:=hI hzs
 have HZN:=hI hzn
 have HZM:=hI hzm
 have HHC:=hI hc
 clear h hf hzs hzn hzm
 go_enter Tryz.func29,Tryz.ntmps29
 go_upto_region 2 with (go_at_call 28;go_loud (refine (HC.out _ bel9).mono ?_;rintro e w1 ⟨b1,rfl,hm1,hl1,hb1⟩;have HM1:=hI hm1;have kz1:=hb1.size;(try simp at kz1);(try simp at hl1);have l1:=hm1.lt;have K1:Below w.heap.size w w1:=(show Below w.heap.size w _ from bel9).trans (hb1.mono sid9);have b0:Blk w1 w.heap.size 46 #[.map (some b),.int .i64 next,.int .i64 fall,.int .i64 wide,.int .i64 high]:=Blk.below ((Blk.new_at rfl).alloc _) hb1 sid9;have y0:=b0.cell 0;have y1:=b0.cell 1;have y2:=b0.cell 2;have y3:=b0.cell 3;have y4:=b0.cell 4;simp at y0 y1 y2 y3 y4;have c0:Blk w1 (w.heap.size+1) 46 #[.map none,.int .i64 0,.int .i64 0,.int .i64 0,.int .i64 0]:=Blk.below (Blk.new_at sS) hb1 sid9;have lb0:=b0.lt;have lc0:=c0.lt;have yf:=λi=>b0.free i;clear hm1))
 refine wp_called (λW2 hW2=>?_)
 have BW:Blk W2 w.heap.size 46 #[.map (some b1),.int .i64 next,.int .i64 fall,.int .i64 wide,.int .i64 high]:=by rw [hW2];exact blk_to (((((b0.put 0 _).put 1 _).put 2 _).put 3 _).put 4 _) sS
 have q1:b1≠w.heap.size:=by omega
 have q2:b1≠w.heap.size+1:=by omega
 have HMA:Hid (MapA W2 b1 f c):=hI (by rw [hW2];exact ((((HM1.out.far q1 _).far q1 _).far q1 _).far q1 _).far q1 _)
 have BC:Blk W2 (w.heap.size+1) 46 #[.map none,.int .i64 0,.int .i64 0,.int .i64 0,.int .i64 0]:=by rw [hW2];exact ((((c0.far sS _).far sS _).far sS _).far sS _).far sS _
 have K2:Below w.heap.size w W2:=by rw [hW2];exact bel9
 have z2:w1.heap.size=W2.heap.size:=by rw [hW2];simp [World.setCell]
 have HBW:=hI BW
 have HBC:=hI BC
 have HK2:=hI K2
 have lb1:b1<W2.heap.size:=by omega
 have hb1w:w.heap.size+2<=b1:=by omega
 have HSO:=hI (λU (hb:Below W2.heap.size W2 U)=>sorted_calls (HMA.out.below hb HMA.out.lt) (by have:=HHC.out;omega))
 have x0:=BW.cell 0
 simp at x0
 have lw2:=BW.lt
 clear hW2 b0 c0 y0 y1 y2 y3 y4 yf BW BC K2 z2 kz1 hl1 l1 hb1 K1 lb0 lc0 q1 q2 HM1
 go_wp2_with (go_at_call 55;go_loud (refine (HSO.out _ bel9).mono ?_;rintro e w3 ⟨v3,ys,rfl,ho3,hs3,hn3,hi3,h643,hl3,hb3⟩;obtain ⟨a3,c3,rfl⟩:=own_form ho3;obtain rfl:ys=zs:=zs_same HZS.out HZN.out HZM.out hs3 hn3 hi3 (λ_=>rfl)))
 have HO3:=hI ho3
 have H64:=hI h643
 have K3:Below W2.heap.size W2 w3:=(show Below W2.heap.size W2 _ from bel9).trans (hb3.mono sid9)
 have HMB:=hI (HMA.out.below K3 HMA.out.lt)
 have HB3:=hI (HBW.out.below K3 HBW.out.lt)
 have HK3:=hI (HK2.out.trans (K3.mono HK2.out.size))
 have kz3:=K3.size
 have hzl:ys.length<=10:=by have:=HHC.out;omega
 have HC3:=hI (HBC.out.below K3 HBC.out.lt)
 clear ho3 hs3 hn3 hi3 h643 hb3 K3 x0
 go_loopg [27] ys.length (λgh i wr=>∃n:Nat,n<=ys.length/\i=.int .i64 n/\gh=ys.length-n/\MapA wr b1 ((ys.take n).foldl (M.goS (M.goneRow fall)) f) c/\But1 b1 w3 wr)
 case atStart=>exact ⟨0,Nat.zero_le _,rfl,rfl,HMB.out,But1.refl _ _⟩
 case round=>
  obtain ⟨wo,hwo⟩:∃wo,wo=wr:=⟨_,rfl⟩
  subst hwo
  obtain ⟨n,hn,rfl,hgk,hm,hbt⟩:=hrel
  have HK:=hI hgk
  have HM:=hI hm
  have HT:=hI hbt
  have ko:=hbt.size
  have bw:=hbt.blk HB3.out bO
  have s0:=bw.cell 0
  have s2:=bw.cell 2
  simp at s0 s2
  have lbw:=bw.lt
  have HBWO:=hI bw
  clear hgk hm hbt bw
  rcases Nat.lt_or_ge n ys.length with hlt|hge
  ·obtain ⟨id,hid⟩:∃id,ys[n]?=some id:=⟨_,List.getElem?_eq_getElem hlt⟩
   obtain ⟨g3,cq,e3,hg3b,hg3⟩:=own_val HO3.out bO
   simp only [Value.slice.injEq,true_and] at e3
   obtain ⟨rfl,rfl⟩:=e3
   have hcell:wo.cell? ⟨g3,n,none⟩=some (.int .i64 id):=by
    rw [(HT.out.own HO3.out bO).cellAt n bO,List.getElem?_map,hid];rfl
   have HID:Hid (I64 id):=hI (H64.out id (List.mem_of_getElem? hid))
   have HST:Hid ((ys.take (n+1)).foldl (M.goS (M.goneRow fall)) f=M.goS (M.goneRow fall) ((ys.take n).foldl (M.goS (M.goneRow fall)) f) id):=hI (by rw [List.take_add_one,hid,List.foldl_append];rfl)
   obtain ⟨fn,hfn⟩:∃fn,fn=(ys.take n).foldl (M.goS (M.goneRow fall)) f:=⟨_,rfl⟩
   have HFF:Hid (M.FitF fn):=hI (by rw [hfn];exact M.foldS_fit (λm r h1 h2=>M.gone_fits h1 h2) _ HF.out)
   rw [←hfn] at HM HST
   obtain ⟨t,ht⟩:∃t,t=(fn id).getD M.th0:=⟨_,rfl⟩
   have HTT:=hI ht
   obtain ⟨hm0,hm1⟩:=M.fit_mask HFF.out id
   rw [←ht] at hm0 hm1
   obtain ⟨m,r⟩:=t
   simp only at hm0 hm1
   clear hid hfn ht
   go_upto_region 6 with (at_lookup;refine wpList_th_get _ rfl _ _ 44 rfl 3 83 Tryz.underlying3 Tryz.underlying44 (th_zero _) b1 fn c rfl HM.out id rfl HID.out ?_;rw [←HTT.out])
   refine wp_called (λW4 hW4=>?_)
   have B6:Blk W4 wo.heap.size 83 (thC (m,r)):=by rw [hW4];exact Blk.new_at rfl
   have K4:Below wo.heap.size wo W4:=by rw [hW4];exact bel9
   have HB6:=hI B6
   have HT4:=hI (HT.out.more K4)
   have HM4:=hI (HM.out.below K4 HM.out.lt)
   have HBW4:=hI (HBWO.out.below K4 HBWO.out.lt)
   have k4:=K4.size
   have l6:=B6.lt
   have u0:=B6.cell 0
   have u4:=B6.cell 4
   have u7:=B6.cell 7
   simp at u0 u4 u7
   have uf:=λi=>B6.free i
   have v2:=HBW4.out.cell 2
   simp at v2
   have lw4:=HBW4.out.lt
   clear hW4 B6 K4 hcell s0 s2 HBWO lbw
   by_cases hmv:M.moves m=true
   ·have HMV:=hI (λW=>moves_calls hm0 hm1 W)
    rw [hmv] at HMV
    have HHA:=hI (λW=>has_calls hm0 hm1 (p:=16) bO W)
    have HIS:=hI (M.moves_there (f:=fn) (id:=id) (by rw [←HTT.out];exact hmv))
    have HGO:Hid (∀r1,r1=M.goneRow fall m r->M.goS (M.goneRow fall) fn id=M.upd fn id (m,r1)):=hI (λr1 e=>by subst e;unfold M.goS;rw [←HTT.out,if_pos hmv])
    have hfit:M.Fits m r:=by
     obtain ⟨q,hq⟩:=Option.isSome_iff_exists.1 HIS.out
     have:=HTT.out
     rw [hq] at this
     simp only [Option.getD_some] at this
     have k:=HFF.out id q hq
     rw [←this] at k
     exact k
    have h8:=hfit.q8 (M.moves_bits hm0 hm1 hmv).2.2
    have hwr:wrap64 (fall*r.M)=fall*r.M:=by
     have:=M.mul_bd fall r.M 64 9 bO bO bO bO
     exact IntWalk.wrap64_in _ bO
    clear hfit h8
    go_upto_region 7 with (go_at_call 56;go_loud (refine (HMV.out _).mono ?_;rintro e w' ⟨rfl,rfl⟩))
    by_cases h16:M.bit m 16=true
    ·rw [h16] at HHA
     go_upto_region 9 with (first|(go_at_call 32;go_loud (refine (HHA.out _).mono ?_;rintro e w' ⟨rfl,rfl⟩))|(go_at_call 34;go_loud (refine (addOf_calls _ _ _ _).mono ?_;rintro e w' ⟨rfl,rfl⟩)))
     refine wp_called (λW5 hW5=>?_)
     have B7:Blk W5 wo.heap.size 83 (thC (m,({r with PY:=M.add r.PY (fall*r.M) 16777216}:M.Row))):=by rw [hW5];exact blk_to (HB6.out.put 4 _) sS
     have K5:Below wo.heap.size W4 W5:=by rw [hW5];exact bel9
     have HT5:=hI (HT4.out.later K5 ko)
     have HM5:=hI (HM4.out.below K5 (by have:=HMB.out.lt;omega))
     have HBW5:=hI (HBW4.out.below K5 (by have:=HB3.out.lt;omega))
     have k5:=K5.size
     obtain ⟨r1,hr1⟩:∃r1,r1=({r with PY:=M.add r.PY (fall*r.M) 16777216}:M.Row):=⟨_,rfl⟩
     rw [←hr1] at B7
     have HR1:=hI hr1
     have HB7:=hI B7
     have l7:=B7.lt
     have t0:=B7.cell 0
     have t1:=B7.cell 1
     have t2:=B7.cell 2
     have t3:=B7.cell 3
     have t4:=B7.cell 4
     have t5:=B7.cell 5
     have t6:=B7.cell 6
     have t7:=B7.cell 7
     have t8:=B7.cell 8
     simp at t0 t1 t2 t3 t4 t5 t6 t7 t8
     have lw5:=HBW5.out.lt
     have HSP:=hI (λW=>speedOf_calls r1 W)
     clear hW5 hr1 B7 K5 u0 u4 u7 uf v2 l6 k4 lw4
     go_upto_region 10 with (go_at_call 57;go_loud (refine (HSP.out _).mono ?_;rintro e w6 ⟨rfl,hb6⟩;have K6:Below W5.heap.size W5 w6:=(show Below W5.heap.size W5 _ from bel9).trans (hb6.mono sid9)))
     refine wp_called (λW6 hW6=>?_)
     have K7:Below W5.heap.size W5 W6:=by rw [hW6];exact bel9
     have HB8:=hI (HB7.out.below K7 HB7.out.lt)
     have HT6:=hI (HT5.out.more K7)
     have HM6:=hI (HM5.out.below K7 HM5.out.lt)
     have HBW6:=hI (HBW5.out.below K7 HBW5.out.lt)
     have k6:=K7.size
     clear hW6 K7 t0 t1 t2 t3 t4 t5 t6 t7 t8
     refine DG.wp_named (λA hA=>?_)
     show Code.wp Tryz.prog stoC _ _ _
     rw [stoC_is]
     refine wp_region_any kR ?_
     rw [stoOps_size]
     show wpAny _ _ _ _ _ _ _ W6.drew
     refine sto_region (p6:=wo.heap.size) (m:=m) (r:=r1) (vx:=M.part r1.PX 1 r1.M) (vy:=M.part r1.PY 1 r1.M) (W0:=W6.drew) ⟨by rw [hA];rfl,by rw [hA];rfl,by rw [hA];rfl⟩ rA (by rw [hA]) () (by unfold stoMem;exact ⟨blk_to HB8.out.drew sS,FarO.refl _ _⟩) ?_
     intro _ ll W9 hll hmm
     unfold stoMem at hmm
     rw [if_pos (hll 12 dC),if_pos (hll 15 dC)] at hmm
     obtain ⟨hb9,hf9⟩:=hmm
     rw [hA]
     simp only [stoL,stoVal,List.getD_cons_zero,List.getD_cons_succ]
     simp only [DG.setQ,List.setIfInBounds_toArray,List.set_cons_zero,List.set_cons_succ]
     clear hA A hll
     have hf8:FarO wo.heap.size W6 W9:=hf9
     have K9:Below wo.heap.size W6 W9:=hf8.below lR
     have HT9:=hI (HT6.out.later K9 ko)
     have HM9:=hI (HM6.out.below K9 (by have:=HMB.out.lt;omega))
     have b9w:=HBW6.out.below K9 (by have:=HB3.out.lt;omega)
     have k9:=K9.size
     have HG9:=hI (HGO.out {r1 with X:=M.add r1.X (M.part r1.PX 1 r1.M) 1048576,Y:=M.add r1.Y (M.part r1.PY 1 r1.M) 1048576} (by rw [HR1.out];unfold M.goneRow;rw [if_pos h16];try simp))
     have s0:=b9w.cell 0
     simp at s0
     have l9w:=b9w.lt
     have l9:=hb9.lt
     have t0:=hb9.cell 0
     have t1:=hb9.cell 1
     have t2:=hb9.cell 2
     have t3:=hb9.cell 3
     have t4:=hb9.cell 4
     have t5:=hb9.cell 5
     have t6:=hb9.cell 6
     have t7:=hb9.cell 7
     have t8:=hb9.cell 8
     simp at t0 t1 t2 t3 t4 t5 t6 t7 t8
     clear hf9 hf8 K9 b9w hb9
     go_wp2_with (at_mapUpdate;go_loud (refine wpList_th_put _ rfl _ _ _ 44 rfl 3 83 Tryz.underlying3 Tryz.underlying44 b1 _ _ rfl HM9.out (by unfold maxLen;have:=HHC.out;omega) id (m,({r1 with X:=M.add r1.X (M.part r1.PX 1 r1.M) 1048576,Y:=M.add r1.Y (M.part r1.PY 1 r1.M) 1048576}:M.Row)) rfl HID.out rfl ?_;intro w10 hm10 ht10;rw [if_pos HIS.out,←HG9.out,←HST.out] at hm10;have HM10:=hI hm10;have HT10:=hI (HT9.out.turned ht10);clear hm10 ht10))
     go_roundg (ys.length-(n+1))
     case measure=>rw [HK.out];omega
     case rel=>exact ⟨n+1,by omega,by go_num,rfl,HM10.out,HT10.out⟩
    ·have h16':M.bit m 16=false:=by simpa using h16
     rw [h16'] at HHA
     go_upto_region 9 with (go_at_call 32;go_loud (refine (HHA.out _).mono ?_;rintro e w' ⟨rfl,rfl⟩))
     refine wp_called (λW5 hW5=>?_)
     have B7:Blk W5 wo.heap.size 83 (thC (m,r)):=by rw [hW5];exact HB6.out
     have K5:Below wo.heap.size W4 W5:=by rw [hW5];exact bel9
     have HT5:=hI (HT4.out.later K5 ko)
     have HM5:=hI (HM4.out.below K5 (by have:=HMB.out.lt;omega))
     have HBW5:=hI (HBW4.out.below K5 (by have:=HB3.out.lt;omega))
     have k5:=K5.size
     obtain ⟨r1,hr1⟩:∃r1,r1=r:=⟨_,rfl⟩
     rw [←hr1] at B7
     have HR1:=hI hr1
     have HB7:=hI B7
     have l7:=B7.lt
     have t0:=B7.cell 0
     have t1:=B7.cell 1
     have t2:=B7.cell 2
     have t3:=B7.cell 3
     have t4:=B7.cell 4
     have t5:=B7.cell 5
     have t6:=B7.cell 6
     have t7:=B7.cell 7
     have t8:=B7.cell 8
     simp at t0 t1 t2 t3 t4 t5 t6 t7 t8
     have lw5:=HBW5.out.lt
     have HSP:=hI (λW=>speedOf_calls r1 W)
     clear hW5 hr1 B7 K5 u0 u4 u7 uf v2 l6 k4 lw4
     go_upto_region 10 with (go_at_call 57;go_loud (refine (HSP.out _).mono ?_;rintro e w6 ⟨rfl,hb6⟩;have K6:Below W5.heap.size W5 w6:=(show Below W5.heap.size W5 _ from bel9).trans (hb6.mono sid9)))
     refine wp_called (λW6 hW6=>?_)
     have K7:Below W5.heap.size W5 W6:=by rw [hW6];exact bel9
     have HB8:=hI (HB7.out.below K7 HB7.out.lt)
     have HT6:=hI (HT5.out.more K7)
     have HM6:=hI (HM5.out.below K7 HM5.out.lt)
     have HBW6:=hI (HBW5.out.below K7 HBW5.out.lt)
     have k6:=K7.size
     clear hW6 K7 t0 t1 t2 t3 t4 t5 t6 t7 t8
     refine DG.wp_named (λA hA=>?_)
     show Code.wp Tryz.prog stoC _ _ _
     rw [stoC_is]
     refine wp_region_any kR ?_
     rw [stoOps_size]
     show wpAny _ _ _ _ _ _ _ W6.drew
     refine sto_region (p6:=wo.heap.size) (m:=m) (r:=r1) (vx:=M.part r1.PX 1 r1.M) (vy:=M.part r1.PY 1 r1.M) (W0:=W6.drew) ⟨by rw [hA];rfl,by rw [hA];rfl,by rw [hA];rfl⟩ rA (by rw [hA]) () (by unfold stoMem;exact ⟨blk_to HB8.out.drew sS,FarO.refl _ _⟩) ?_
     intro _ ll W9 hll hmm
     unfold stoMem at hmm
     rw [if_pos (hll 12 dC),if_pos (hll 15 dC)] at hmm
     obtain ⟨hb9,hf9⟩:=hmm
     rw [hA]
     simp only [stoL,stoVal,List.getD_cons_zero,List.getD_cons_succ]
     simp only [DG.setQ,List.setIfInBounds_toArray,List.set_cons_zero,List.set_cons_succ]
     clear hA A hll
     have hf8:FarO wo.heap.size W6 W9:=hf9
     have K9:Below wo.heap.size W6 W9:=hf8.below lR
     have HT9:=hI (HT6.out.later K9 ko)
     have HM9:=hI (HM6.out.below K9 (by have:=HMB.out.lt;omega))
     have b9w:=HBW6.out.below K9 (by have:=HB3.out.lt;omega)
     have k9:=K9.size
     have HG9:=hI (HGO.out {r1 with X:=M.add r1.X (M.part r1.PX 1 r1.M) 1048576,Y:=M.add r1.Y (M.part r1.PY 1 r1.M) 1048576} (by rw [HR1.out];unfold M.goneRow;rw [if_neg (by rw [h16'];simp)];try simp))
     have s0:=b9w.cell 0
     simp at s0
     have l9w:=b9w.lt
     have l9:=hb9.lt
     have t0:=hb9.cell 0
     have t1:=hb9.cell 1
     have t2:=hb9.cell 2
     have t3:=hb9.cell 3
     have t4:=hb9.cell 4
     have t5:=hb9.cell 5
     have t6:=hb9.cell 6
     have t7:=hb9.cell 7
     have t8:=hb9.cell 8
     simp at t0 t1 t2 t3 t4 t5 t6 t7 t8
     clear hf9 hf8 K9 b9w hb9
     go_wp2_with (at_mapUpdate;go_loud (refine wpList_th_put _ rfl _ _ _ 44 rfl 3 83 Tryz.underlying3 Tryz.underlying44 b1 _ _ rfl HM9.out (by unfold maxLen;have:=HHC.out;omega) id (m,({r1 with X:=M.add r1.X (M.part r1.PX 1 r1.M) 1048576,Y:=M.add r1.Y (M.part r1.PY 1 r1.M) 1048576}:M.Row)) rfl HID.out rfl ?_;intro w10 hm10 ht10;rw [if_pos HIS.out,←HG9.out,←HST.out] at hm10;have HM10:=hI hm10;have HT10:=hI (HT9.out.turned ht10);clear hm10 ht10))
     go_roundg (ys.length-(n+1))
     case measure=>rw [HK.out];omega
     case rel=>exact ⟨n+1,by omega,by go_num,rfl,HM10.out,HT10.out⟩
   ·have hmv':M.moves m=false:=by simpa using hmv
    have HMV:=hI (λW=>moves_calls hm0 hm1 W)
    rw [hmv'] at HMV
    go_wp2_with (go_at_call 56;go_loud (refine (HMV.out _).mono ?_;rintro e w' ⟨rfl,rfl⟩))
    go_roundg (ys.length-(n+1))
    case measure=>rw [HK.out];omega
    case rel=>
     refine ⟨n+1,by omega,by go_num,rfl,?_,HT4.out⟩
     rw [HST.out]
     unfold M.goS
     rw [←HTT.out,if_neg (by rw [hmv'];simp)]
     exact HM4.out
  ·obtain rfl:n=ys.length:=by omega
   rw [List.take_length] at HM
   have HFF:Hid (M.FitF (M.s1 f ys fall)):=hI (M.foldS_fit (λm r h1 h2=>M.gone_fits h1 h2) _ HF.out)
   rw [show ys.foldl (M.goS (M.goneRow fall)) f=M.s1 f ys fall from rfl] at HM
   have HK1:=hI (λj=>M.foldS_key (M.goneRow fall) ys f j)
   have s1:=HBWO.out.cell 1
   have s3:=HBWO.out.cell 3
   have s4:=HBWO.out.cell 4
   simp at s1 s3 s4
   go_upto_region 14 with fail
   have HBO:=hI (λU (hb:Below wo.heap.size wo U)=>boxesOf_calls (HM.out.below hb HM.out.lt) (by have:=HHC.out;omega) HFF.out next fall wide high)
   go_wp2_with (first|(go_at_call 31;go_loud (refine (HBO.out _ bel9).mono ?_;rintro e w4 ⟨v4,xs,rfl,ho4,hs4,hn4,hm4,hl4,hb4⟩;obtain ⟨a4,c4,rfl⟩:=own_form ho4;obtain rfl:xs=ys:=zs_same HZS.out HZN.out HZM.out hs4 hn4 hm4 (λj=>HK1.out j);have K4:Below wo.heap.size wo w4:=(show Below wo.heap.size wo _ from bel9).trans (hb4.mono sid9);have hbl:(M.boxesF (M.s1 f xs fall) xs).length<=10:=(by unfold M.boxesF;rw [List.length_map];exact Nat.le_trans (List.length_filter_le _ _) hzl);have HPO:=hI (λU (hb:Below w4.heap.size w4 U)=>pairsOf_calls (w:=U) (lo:=0) (l:=M.boxesF (M.s1 f xs fall) xs) (Lies.mono (Lies.of_owns (own_below ho4 hb)) (Nat.zero_le _)) (own_cap ho4) bO);have kz4:=K4.size;clear hs4 hn4 hm4 hl4 ho4))|(go_at_call 58;go_loud (refine (HPO.out _ bel9).mono ?_;rintro e w5 ⟨v5,rfl,ho5,hb5⟩;obtain ⟨a5,c5,rfl⟩:=own_form ho5;have K5:Below wo.heap.size wo w5:=K4.trans ((show Below w4.heap.size w4 _ from bel9).trans (hb5.mono sid9)|>.mono kz4);have HO5:=hI ho5;clear ho5 hb5)))
   obtain ⟨ps,hps⟩:∃ps,ps=M.pairs (M.boxesF (M.s1 f xs fall) xs):=⟨_,rfl⟩
   have hpl:ps.length<=45:=by rw [hps];exact M.pairs_cnt hbl
   have HPI:Hid (∀p∈ps,I64 p.1/\I64 p.2):=hI (λp hp=>by
    rw [hps] at hp
    refine M.pairs_ids (λbx hbx=>?_) hp
    unfold M.boxesF at hbx
    obtain ⟨id,hid,rfl⟩:=List.mem_map.1 hbx
    exact H64.out id (List.mem_filter.1 hid).1)
   have HS2:Hid (ps.foldl M.metS (M.s1 f xs fall,[])=M.s2 f xs fall):=hI (by rw [hps];rfl)
   rw [←hps] at HO5⊢
   have HM5:=hI (HM.out.below K5 HM.out.lt)
   have HT5:=hI (HT.out.more K5)
   have HBW5:=hI (HBWO.out.below K5 HBWO.out.lt)
   have k5:=K5.size
   have lb5:=HM.out.lt
   clear hps K5 s0 s1 s2 s3 s4 HBO hbl
   obtain ⟨i0,hi,hz0,hz1,hz2⟩:=info_parts infoPairW
   have HI:=hI (And.intro hi (And.intro hz0 (And.intro hz1 hz2)))
   clear hi hz0 hz1 hz2
   go_loopg [83,9] ps.length (λgh i o wr=>∃(n:Nat) (oa:Option Addr) (oc:Nat),n<=ps.length/\i=.int .i64 n/\o=.slice oa ((ps.take n).foldl M.metS (M.s1 f xs fall,[])).2.length oc/\gh=ps.length-n/\MapA wr b1 ((ps.take n).foldl M.metS (M.s1 f xs fall,[])).1 c/\wr.ownsRow w5.heap.size 71 2 (.slice oa ((ps.take n).foldl M.metS (M.s1 f xs fall,[])).2.length oc) ((ps.take n).foldl M.metS (M.s1 f xs fall,[])).2.length (((ps.take n).foldl M.metS (M.s1 f xs fall,[])).2.flatMap pairL)/\But1 b1 w5 wr)
   case atStart=>exact ⟨0,none,0,Nat.zero_le _,rfl,rfl,rfl,HM5.out,World.ownsRow_nil _ _ _ _,But1.refl _ _⟩
   case round=>
    obtain ⟨wp,hwp⟩:∃wp,wp=wr:=⟨_,rfl⟩
    subst hwp
    obtain ⟨n,oa,oc,hn,rfl,rfl,hgk,hm,how,hbt⟩:=hrel
    have HK:=hI hgk
    have HM:=hI hm
    have HT:=hI hbt
    have HOW:=hI how
    have kp:=hbt.size
    have bw:=hbt.blk HBW5.out bO
    have s0:=bw.cell 0
    simp at s0
    have lbw:=bw.lt
    have HBWP:=hI bw
    clear hgk hm how hbt bw
    rcases Nat.lt_or_ge n ps.length with hlt|hge
    ·obtain ⟨p,hp⟩:∃p,ps[n]?=some p:=⟨_,List.getElem?_eq_getElem hlt⟩
     obtain ⟨g5,cq5,e5,hg5b,hg5⟩:=own_val HO5.out bO
     simp only [Value.slice.injEq,true_and] at e5
     obtain ⟨rfl,rfl⟩:=e5
     have ho5':=HT.out.own HO5.out bO
     have hca:wp.cell? ⟨g5,n*2,none⟩=some (.int .i64 p.1):=by
      have:=ho5'.cellAt (n*2+0) bO
      rw [flat_at pairL 2 (λ_=>rfl) ps n 0 hp bO] at this
      exact this
     have hcb:wp.cell? ⟨g5,n*2+1,none⟩=some (.int .i64 p.2):=by
      rw [ho5'.cellAt (n*2+1) bO,flat_at pairL 2 (λ_=>rfl) ps n 1 hp bO];rfl
     obtain ⟨hpi1,hpi2⟩:=HPI.out p (List.mem_of_getElem? hp)
     have HP1:=hI hpi1
     have HP2:=hI hpi2
     obtain ⟨st,hst⟩:∃st,st=(ps.take n).foldl M.metS (M.s1 f xs fall,[]):=⟨_,rfl⟩
     have HST:Hid ((ps.take (n+1)).foldl M.metS (M.s1 f xs fall,[])=M.metS st p):=hI (by rw [List.take_add_one,hp,List.foldl_append,hst];rfl)
     have HFM:Hid (M.FitF st.1):=hI (by rw [hst];exact M.foldM_fit _ HFF.out)
     rw [←hst] at HM HOW⊢
     obtain ⟨L,ms⟩:=st
     obtain ⟨ta,hta⟩:∃t,t=(L p.1).getD M.th0:=⟨_,rfl⟩
     obtain ⟨tb,htb⟩:∃t,t=(L p.2).getD M.th0:=⟨_,rfl⟩
     have HTA:=hI hta
     have HTB:=hI htb
     have HMA0:=hI (M.fit_mask HFM.out p.1)
     have HMB0:=hI (M.fit_mask HFM.out p.2)
     simp only at HMA0 HMB0
     rw [←hta] at HMA0
     rw [←htb] at HMB0
     have HMS:Hid (M.metS (L,ms) p=if M.meets (M.freeRow ta.1 ta.2) (M.freeRow tb.1 tb.2) then ((if M.moves tb.1 then M.upd (if M.moves ta.1 then M.upd L p.1 (ta.1,(M.meet (M.freeRow ta.1 ta.2) (M.freeRow tb.1 tb.2)).1) else L) p.2 (tb.1,(M.meet (M.freeRow ta.1 ta.2) (M.freeRow tb.1 tb.2)).2) else (if M.moves ta.1 then M.upd L p.1 (ta.1,(M.meet (M.freeRow ta.1 ta.2) (M.freeRow tb.1 tb.2)).1) else L)),ms++[p]) else (L,ms)):=hI (by rw [hta,htb];rfl)
     have hml:ms.length<=n:=by
      have h:∀(l:List M.Pr) (s:(Int->Option M.Th)×List M.Pr),(l.foldl M.metS s).2.length<=s.2.length+l.length:=λl=>by
       induction l with
       |nil=>intro s;simp
       |cons q l ih=>
        intro s
        have h1:=ih (M.metS s q)
        have h2:(M.metS s q).2.length<=s.2.length+1:=by unfold M.metS;simp only;split<;>simp
        simp only [List.foldl_cons,List.length_cons]
        omega
      have:=h (ps.take n) (M.s1 f xs fall,[])
      rw [←hst] at this
      simp at this
      omega
     clear hst hp hta htb hpi1 hpi2 ho5'
     simp only at HM HOW
     go_upto_region 17 with fail
     refine wp_called (λW6 hW6=>?_)
     have BP:Blk W6 wp.heap.size 71 #[.int .i64 p.1,.int .i64 p.2]:=by rw [hW6];exact Blk.new_at rfl
     have K6:Below wp.heap.size wp W6:=by rw [hW6];exact bel9
     have HBP:=hI BP
     have HT6:=hI (HT.out.more K6)
     have HM6:=hI (HM.out.below K6 HM.out.lt)
     have HBW6:=hI (HBWP.out.below K6 HBWP.out.lt)
     have HOW6:=hI (own_below HOW.out K6)
     have k6:=K6.size
     have lp6:=BP.lt
     clear hW6 BP K6 hca hcb s0 lbw
     refine DG.wp_named (λA hA=>?_)
     show Code.wp Tryz.prog stpC _ _ _
     rw [stpC_is]
     refine wp_region_any kR ?_
     rw [stpOps_size]
     show wpAny _ _ _ _ _ _ _ W6.drew
     refine stp_region (b:=b1) (c:=c) (p1:=w.heap.size) (p11:=wp.heap.size) (f:=L) (next:=next) (fall:=fall) (wide:=wide) (high:=high) (pa:=p.1) (pb:=p.2) (ta:=ta) (tb:=tb) (W0:=W6.drew) ⟨by rw [hA];rfl,by rw [hA];rfl,HBW6.out.drew,HBP.out.drew,HM6.out.drew,HP1.out,HP2.out,HTA.out.symm,HTB.out.symm⟩ rA (by rw [hA]) (0,0) (by unfold stpMem;exact TwoBlk.start _) ?_
     intro gg ll W7 hll hmm
     unfold stpMem at hmm
     have hone:=hmm.one (hll 10 dC)
     have htwo:=hmm.two (hll 11 dC)
     rw [if_pos (hll 12 dC)] at hone
     rw [if_pos (hll 13 dC)] at htwo
     have K7:Below W6.heap.size W6 W7:=((Below.refl _ W6).drew).trans hmm.bel
     rw [hA]
     simp only [stpL,stpVal,List.getD_cons_zero,List.getD_cons_succ]
     simp only [DG.setQ,List.setIfInBounds_toArray,List.set_cons_zero,List.set_cons_succ]
     clear hA A hll hmm
     obtain ⟨g12,g13⟩:=gg
     simp only at hone htwo
     have HONE:=hI hone.2
     have HTWO:=hI htwo.2
     have z12:W6.heap.size<=g12:=hone.1
     have z13:W6.heap.size<=g13:=htwo.1
     have HT7:=hI (HT6.out.more K7)
     have HM7:=hI (HM6.out.below K7 HM6.out.lt)
     have HBW7:=hI (HBW6.out.below K7 HBW6.out.lt)
     have HBP7:=hI (HBP.out.below K7 HBP.out.lt)
     have HOW7:=hI (own_below HOW6.out K7)
     have k7:=K7.size
     clear hone htwo K7
     go_upto_region 19 with fail
     refine DG.wp_named (λA hA=>?_)
     show Code.wp Tryz.prog stqC _ _ _
     rw [stqC_is]
     refine wp_region_any kR ?_
     rw [stqOps_size]
     show wpAny _ _ _ _ _ _ _ W7.drew
     refine stq_region (p12:=g12) (p13:=g13) (ta:=ta) (tb:=tb) (W0:=W7.drew) ⟨by rw [hA];rfl,by rw [hA];rfl,by rw [hA];rfl,HONE.out.drew,HTWO.out.drew,HMA0.out.1,HMA0.out.2,HMB0.out.1,HMB0.out.2⟩ rA (by rw [hA]) (0,0) (by unfold stqMem;exact TwoBlk.start _) ?_
     intro gg ll W8 hll hmm
     unfold stqMem at hmm
     have hone:=hmm.one (hll 11 dC)
     have htwo:=hmm.two (hll 12 dC)
     rw [if_pos (hll 13 dC)] at hone
     rw [if_pos (hll 14 dC)] at htwo
     have K8:Below W7.heap.size W7 W8:=((Below.refl _ W7).drew).trans hmm.bel
     rw [hA]
     simp only [stqL,stqVal,List.getD_cons_zero,List.getD_cons_succ]
     simp only [DG.setQ,List.setIfInBounds_toArray,List.set_cons_zero,List.set_cons_succ]
     clear hA A hll hmm
     obtain ⟨g15,g16⟩:=gg
     simp only at hone htwo
     have HR1:=hI hone.2
     have HR2:=hI htwo.2
     have HT8:=hI (HT7.out.more K8)
     have HM8:=hI (HM7.out.below K8 HM7.out.lt)
     have HBW8:=hI (HBW7.out.below K8 HBW7.out.lt)
     have HBP8:=hI (HBP7.out.below K8 HBP7.out.lt)
     have HA8:=hI (HONE.out.below K8 HONE.out.lt)
     have HB8:=hI (HTWO.out.below K8 HTWO.out.lt)
     have HOW8:=hI (own_below HOW7.out K8)
     have k8:=K8.size
     have z15:W7.heap.size<=g15:=hone.1
     have z16:W7.heap.size<=g16:=htwo.1
     clear hone htwo K8
     obtain ⟨ra,hra⟩:∃r,r=(M.meet (M.freeRow ta.1 ta.2) (M.freeRow tb.1 tb.2)).1:=⟨_,rfl⟩
     obtain ⟨rb,hrb⟩:∃r,r=(M.meet (M.freeRow ta.1 ta.2) (M.freeRow tb.1 tb.2)).2:=⟨_,rfl⟩
     rw [←hra,←hrb] at HMS
     rw [←hra] at HR1
     rw [←hrb] at HR2
     rw [←hra,←hrb]
     clear hra hrb
     by_cases hme:M.meets (M.freeRow ta.1 ta.2) (M.freeRow tb.1 tb.2)=true
     ·rw [hme]
      rw [if_pos hme] at HMS
      clear hme
      have u0:=HBP8.out.cell 0
      have u1:=HBP8.out.cell 1
      simp at u0 u1
      have lpp:=HBP8.out.lt
      go_upto_region 22 with (at_builtin;refine wpList_append_own_at _ rfl (.tmp 110) (.tmp 112) _ rfl w5.heap.size 71 i0 _ 2 16 Tryz.underlying33 HI.out.1 HI.out.2.1 HI.out.2.2.1 HI.out.2.2.2 rfl bO _ ms.length _ rfl (own_below HOW8.out (show Below W8.heap.size W8 _ from bel9)) ⟨W8.heap.size,0,none⟩ 1 1 (pairL p) rfl rfl (by intro j u hu;rw [Addr.add_lit];match j,hu with|0,hu=>(simp [pairL] at hu;subst hu;simp)|1,hu=>(simp [pairL] at hu;subst hu;simp)|j+2,hu=>simp [pairL] at hu) (by intro u hu;simp [pairL] at hu;rcases hu with rfl|rfl<;>rfl) (by unfold maxLen;omega) bO sO ?_;intro v9 w9 hown9 hg9 _ hat9;obtain ⟨a9,c9,rfl⟩:=own_form hown9;have HO9:=hI hown9;have HG9:=hI hg9;clear hown9 hg9 hat9)
      have hrow:∀k,(Value.slice oa ms.length oc).ownBlock=some k->w5.heap.size<=k/\k<wp.heap.size:=λk hk=>HOW.out.lt k hk
      have HT9:=hI ((HT8.out.more (show Below W8.heap.size W8 _ from bel9)).grown HG9.out (λk hk=>(hrow k hk).1))
      have keepB:∀{g:Nat} {t:TypeId} {cs:Array Value},Blk W8 g t cs->(g<w5.heap.size\/wp.heap.size<=g)->Blk w9 g t cs:=λhb hg=>(hb.below (show Below W8.heap.size W8 _ from bel9) hb.lt).grown' HG9.out (λe=>by have:=hrow _ e;omega)
      have HM9:=hI (MapAt.kept (HM8.out.below (show Below W8.heap.size W8 _ from bel9) HM8.out.lt) HG9.out (λe=>by have:=hrow _ e.symm;omega))
      have HBW9:=hI (keepB HBW8.out (.inl (by have:=HBW5.out.lt;omega)))
      have HBP9:=hI (keepB HBP8.out (.inr bO))
      have HA9:=hI (keepB HA8.out (.inr bO))
      have HB9:=hI (keepB HB8.out (.inr bO))
      have HX9:=hI (keepB HR1.out (.inr bO))
      have HY9:=hI (keepB HR2.out (.inr bO))
      have k9:W8.heap.size<=w9.heap.size:=by have:=HG9.out.size;simp at this;omega
      clear hrow keepB u0 u1 lpp
      have i0:=HBW9.out.cell 0
      simp at i0
      have il:=HBW9.out.lt
      have j0:=HBP9.out.cell 0
      have j1:=HBP9.out.cell 1
      simp at j0 j1
      have jl:=HBP9.out.lt
      have aa0:=HA9.out.cell 0
      simp at aa0
      have aal:=HA9.out.lt
      have bb0:=HB9.out.cell 0
      simp at bb0
      have bbl:=HB9.out.lt
      have xx0:=HX9.out.cell 0
      have xx1:=HX9.out.cell 1
      have xx2:=HX9.out.cell 2
      have xx3:=HX9.out.cell 3
      have xx4:=HX9.out.cell 4
      have xx5:=HX9.out.cell 5
      have xx6:=HX9.out.cell 6
      have xx7:=HX9.out.cell 7
      simp at xx0 xx1 xx2 xx3 xx4 xx5 xx6 xx7
      have xxl:=HX9.out.lt
      have yy0:=HY9.out.cell 0
      have yy1:=HY9.out.cell 1
      have yy2:=HY9.out.cell 2
      have yy3:=HY9.out.cell 3
      have yy4:=HY9.out.cell 4
      have yy5:=HY9.out.cell 5
      have yy6:=HY9.out.cell 6
      have yy7:=HY9.out.cell 7
      simp at yy0 yy1 yy2 yy3 yy4 yy5 yy6 yy7
      have yyl:=HY9.out.lt
      by_cases hma:M.moves ta.1=true
      ·have HMV:=hI (λW=>moves_calls HMA0.out.1 HMA0.out.2 W)
       rw [hma] at HMV
       rw [if_pos hma] at HMS
       have HIS:=hI (M.moves_there (f:=L) (id:=p.1) (by rw [←HTA.out];exact hma))
       go_upto_region 24 with (first|(go_at_call 56;go_loud (refine (HMV.out _).mono ?_;rintro e w' ⟨rfl,rfl⟩))|(at_mapUpdate;go_loud (refine wpList_th_put _ rfl _ _ _ 44 rfl 3 83 Tryz.underlying3 Tryz.underlying44 b1 _ _ rfl HM9.out (by unfold maxLen;have:=HHC.out;omega) p.1 ((ta.1,ra):M.Th) rfl HP1.out rfl ?_;intro w10 hm10 ht10;rw [if_pos HIS.out] at hm10;have HM10:=hI hm10;have HU10:=hI ht10;clear hm10 ht10;have wz10:=HU10.out.grown.size;have HBW10:=hI (HBW9.out.grown' HU10.out.grown (λe=>by have:=Option.some.inj e;omega));have HBP10:=hI (HBP9.out.grown' HU10.out.grown (λe=>by have:=Option.some.inj e;omega));have HB10:=hI (HB9.out.grown' HU10.out.grown (λe=>by have:=Option.some.inj e;omega));have HY10:=hI (HY9.out.grown' HU10.out.grown (λe=>by have:=Option.some.inj e;omega));have HO10:=hI (own_same HO9.out (λb e=>HU10.out.grown.block b (HO9.out.lt b e).2 (λe2=>by have:=(HO9.out.lt b e).1;have:=Option.some.inj e2;omega)));have HT10:=hI (HT9.out.turned HU10.out))))
       clear i0 j0 j1 aa0 bb0 xx0 xx1 xx2 xx3 xx4 xx5 xx6 xx7 yy0 yy1 yy2 yy3 yy4 yy5 yy6 yy7 il jl aal bbl xxl yyl
       clear HMV
       have i0:=HBW10.out.cell 0
       simp at i0
       have il:=HBW10.out.lt
       have j0:=HBP10.out.cell 0
       have j1:=HBP10.out.cell 1
       simp at j0 j1
       have jl:=HBP10.out.lt
       have bb0:=HB10.out.cell 0
       simp at bb0
       have bbl:=HB10.out.lt
       have yy0:=HY10.out.cell 0
       have yy1:=HY10.out.cell 1
       have yy2:=HY10.out.cell 2
       have yy3:=HY10.out.cell 3
       have yy4:=HY10.out.cell 4
       have yy5:=HY10.out.cell 5
       have yy6:=HY10.out.cell 6
       have yy7:=HY10.out.cell 7
       simp at yy0 yy1 yy2 yy3 yy4 yy5 yy6 yy7
       have yyl:=HY10.out.lt
       by_cases hmb:M.moves tb.1=true
       ·have HMV:=hI (λW=>moves_calls HMB0.out.1 HMB0.out.2 W)
        rw [hmb] at HMV
        rw [if_pos hmb] at HMS
        have HIS2:Hid ((M.upd L p.1 (ta.1,ra) p.2).isSome=true):=hI (by first|exact M.moves_there (by rw [←HTB.out];exact hmb)|(rw [M.upd_key HIS.out];exact M.moves_there (by rw [←HTB.out];exact hmb)))
        go_wp2_with (first|(go_at_call 56;go_loud (refine (HMV.out _).mono ?_;rintro e w' ⟨rfl,rfl⟩))|(at_mapUpdate;go_loud (refine wpList_th_put _ rfl _ _ _ 44 rfl 3 83 Tryz.underlying3 Tryz.underlying44 b1 _ _ rfl HM10.out (by unfold maxLen;have:=HHC.out;omega) p.2 ((tb.1,rb):M.Th) rfl HP2.out rfl ?_;intro w11 hm11 ht11;rw [if_pos HIS2.out] at hm11;have HM11:=hI hm11;have HU11:=hI ht11;clear hm11 ht11;have wz11:=HU11.out.grown.size)))
        go_roundg (ps.length-(n+1))
        case measure=>rw [HK.out];omega
        case rel=>exact ⟨n+1,a9,c9,by omega,by go_num,by rw [HST.out,HMS.out];simp,rfl,by rw [HST.out,HMS.out];exact HM11.out,by rw [HST.out,HMS.out];simp only [List.length_append,List.length_cons,List.length_nil,List.flatMap_append,List.flatMap_cons,List.flatMap_nil,List.append_nil];exact own_same HO10.out (λb e=>HU11.out.grown.block b (HO10.out.lt b e).2 (λe2=>by have:=(HO10.out.lt b e).1;have:=Option.some.inj e2;omega)),HT10.out.turned HU11.out⟩
       ·have hmb':M.moves tb.1=false:=by simpa using hmb
        have HMV:=hI (λW=>moves_calls HMB0.out.1 HMB0.out.2 W)
        rw [hmb'] at HMV
        rw [if_neg hmb] at HMS
        go_wp2_with (go_at_call 56;go_loud (refine (HMV.out _).mono ?_;rintro e w' ⟨rfl,rfl⟩))
        go_roundg (ps.length-(n+1))
        case measure=>rw [HK.out];omega
        case rel=>exact ⟨n+1,a9,c9,by omega,by go_num,by rw [HST.out,HMS.out];simp,rfl,by rw [HST.out,HMS.out];exact HM10.out,by rw [HST.out,HMS.out];simp only [List.length_append,List.length_cons,List.length_nil,List.flatMap_append,List.flatMap_cons,List.flatMap_nil,List.append_nil];exact HO10.out,HT10.out⟩
      ·have hma':M.moves ta.1=false:=by simpa using hma
       have HMV:=hI (λW=>moves_calls HMA0.out.1 HMA0.out.2 W)
       rw [hma'] at HMV
       rw [if_neg hma] at HMS
       go_upto_region 24 with (go_at_call 56;go_loud (refine (HMV.out _).mono ?_;rintro e w' ⟨rfl,rfl⟩))
       clear HMV
       by_cases hmb:M.moves tb.1=true
       ·have HMV:=hI (λW=>moves_calls HMB0.out.1 HMB0.out.2 W)
        rw [hmb] at HMV
        rw [if_pos hmb] at HMS
        have HIS2:Hid ((L p.2).isSome=true):=hI (by first|exact M.moves_there (by rw [←HTB.out];exact hmb)|(rw [M.upd_key HIS.out];exact M.moves_there (by rw [←HTB.out];exact hmb)))
        go_wp2_with (first|(go_at_call 56;go_loud (refine (HMV.out _).mono ?_;rintro e w' ⟨rfl,rfl⟩))|(at_mapUpdate;go_loud (refine wpList_th_put _ rfl _ _ _ 44 rfl 3 83 Tryz.underlying3 Tryz.underlying44 b1 _ _ rfl HM9.out (by unfold maxLen;have:=HHC.out;omega) p.2 ((tb.1,rb):M.Th) rfl HP2.out rfl ?_;intro w11 hm11 ht11;rw [if_pos HIS2.out] at hm11;have HM11:=hI hm11;have HU11:=hI ht11;clear hm11 ht11;have wz11:=HU11.out.grown.size)))
        go_roundg (ps.length-(n+1))
        case measure=>rw [HK.out];omega
        case rel=>exact ⟨n+1,a9,c9,by omega,by go_num,by rw [HST.out,HMS.out];simp,rfl,by rw [HST.out,HMS.out];exact HM11.out,by rw [HST.out,HMS.out];simp only [List.length_append,List.length_cons,List.length_nil,List.flatMap_append,List.flatMap_cons,List.flatMap_nil,List.append_nil];exact own_same HO9.out (λb e=>HU11.out.grown.block b (HO9.out.lt b e).2 (λe2=>by have:=(HO9.out.lt b e).1;have:=Option.some.inj e2;omega)),HT9.out.turned HU11.out⟩
       ·have hmb':M.moves tb.1=false:=by simpa using hmb
        have HMV:=hI (λW=>moves_calls HMB0.out.1 HMB0.out.2 W)
        rw [hmb'] at HMV
        rw [if_neg hmb] at HMS
        go_wp2_with (go_at_call 56;go_loud (refine (HMV.out _).mono ?_;rintro e w' ⟨rfl,rfl⟩))
        go_roundg (ps.length-(n+1))
        case measure=>rw [HK.out];omega
        case rel=>exact ⟨n+1,a9,c9,by omega,by go_num,by rw [HST.out,HMS.out];simp,rfl,by rw [HST.out,HMS.out];exact HM9.out,by rw [HST.out,HMS.out];simp only [List.length_append,List.length_cons,List.length_nil,List.flatMap_append,List.flatMap_cons,List.flatMap_nil,List.append_nil];exact HO9.out,HT9.out⟩
     ·rw [if_neg hme] at HMS
      have hme':M.meets (M.freeRow ta.1 ta.2) (M.freeRow tb.1 tb.2)=false:=by simpa using hme
      rw [hme']
      clear hme hme'
      go_wp2_with fail
      go_roundg (ps.length-(n+1))
      case measure=>rw [HK.out];omega
      case rel=>exact ⟨n+1,oa,oc,by omega,by go_num,by rw [HST.out,HMS.out],rfl,by rw [HST.out,HMS.out];exact HM8.out,by rw [HST.out,HMS.out];exact HOW8.out,HT8.out⟩
    ·obtain rfl:n=ps.length:=by omega
     rw [List.take_length] at HM HOW
     rw [List.take_length]
     rw [HS2.out] at HM HOW
     rw [HS2.out]
     have HFG:Hid (M.FitF (M.s2 f xs fall).1):=hI (M.foldM_fit _ HFF.out)
     have HKG:Hid (∀j,((M.s2 f xs fall).1 j).isSome=(f j).isSome):=hI (λj=>(M.foldM_key _ _ j).trans (HK1.out j))
     obtain ⟨fg,hfg⟩:∃g,g=(M.s2 f xs fall).1:=⟨_,rfl⟩
     obtain ⟨ms,hms⟩:∃l,l=(M.s2 f xs fall).2:=⟨_,rfl⟩
     have HS3:Hid (xs.foldl (M.goS (λ_ r=>M.walledRow wide high r)) fg=M.s3 f xs fall wide high):=hI (by rw [hfg];rfl)
     rw [←hfg] at HM HFG HKG
     rw [←hms] at HOW⊢
     have HMSE:=hI hms
     clear hfg hms
     have HMp:=hI HM.out
     have HTp:=hI HT.out
     have HOWp:=hI HOW.out
     have HSO2:=hI (λU (hb:Below wp.heap.size wp U)=>sorted_calls (HMp.out.below hb HMp.out.lt) (by have:=HHC.out;omega))
     have lbp:=HMp.out.lt
     go_wp2_with (go_at_call 55;go_loud (refine (HSO2.out _ bel9).mono ?_;rintro e w6 ⟨v6,vs,rfl,ho6,hs6,hn6,hi6,h646,hl6,hb6⟩;obtain ⟨a6,c6,rfl⟩:=own_form ho6;obtain rfl:vs=xs:=zs_same HZS.out HZN.out HZM.out hs6 hn6 hi6 (λj=>HKG.out j);have K6:Below wp.heap.size wp w6:=(show Below wp.heap.size wp _ from bel9).trans (hb6.mono sid9);have HO6:=hI ho6;clear ho6 hs6 hn6 hi6 h646 hl6 hb6))
     have HM6:=hI (HMp.out.below K6 HMp.out.lt)
     have HB6:=hI (HBWP.out.below K6 HBWP.out.lt)
     have HT6:=hI (HTp.out.more K6)
     have HOW6:=hI (own_below HOWp.out K6)
     have k6:=K6.size
     clear K6 s0
     go_loopg [141] vs.length (λgh i wr=>∃n:Nat,n<=vs.length/\i=.int .i64 n/\gh=vs.length-n/\MapA wr b1 ((vs.take n).foldl (M.goS (λ_ r=>M.walledRow wide high r)) fg) c/\But1 b1 w6 wr)
     case atStart=>exact ⟨0,Nat.zero_le _,rfl,rfl,HM6.out,But1.refl _ _⟩
     case round=>
      obtain ⟨wq,hwq⟩:∃wq,wq=wr:=⟨_,rfl⟩
      subst hwq
      obtain ⟨n,hn,rfl,hgk,hm,hbt⟩:=hrel
      have HK:=hI hgk
      have HMq:=hI hm
      have HTq:=hI hbt
      have kq:=hbt.size
      have bw:=hbt.blk HB6.out bO
      have s0:=bw.cell 0
      have s1:=bw.cell 1
      have s2:=bw.cell 2
      have s3:=bw.cell 3
      have s4:=bw.cell 4
      simp at s0 s1 s2 s3 s4
      have lbw:=bw.lt
      have HBWQ:=hI bw
      clear hgk hm hbt bw
      rcases Nat.lt_or_ge n vs.length with hlt|hge
      ·obtain ⟨id,hid⟩:∃id,vs[n]?=some id:=⟨_,List.getElem?_eq_getElem hlt⟩
       obtain ⟨g3,cq,e3,hg3b,hg3⟩:=own_val HO6.out bO
       simp only [Value.slice.injEq,true_and] at e3
       obtain ⟨rfl,rfl⟩:=e3
       have hcell:wq.cell? ⟨g3,n,none⟩=some (.int .i64 id):=by
        rw [(HTq.out.own HO6.out (by first|omega|(simp;omega))).cellAt n bO,List.getElem?_map,hid];rfl
       have HID:Hid (I64 id):=hI (H64.out id (List.mem_of_getElem? hid))
       have HST:Hid ((vs.take (n+1)).foldl (M.goS (λ_ r=>M.walledRow wide high r)) fg=M.goS (λ_ r=>M.walledRow wide high r) ((vs.take n).foldl (M.goS (λ_ r=>M.walledRow wide high r)) fg) id):=hI (by rw [List.take_add_one,hid,List.foldl_append];rfl)
       obtain ⟨fn,hfn⟩:∃fn,fn=(vs.take n).foldl (M.goS (λ_ r=>M.walledRow wide high r)) fg:=⟨_,rfl⟩
       have HFN:Hid (M.FitF fn):=hI (by rw [hfn];exact M.foldS_fit (λm r h1 h2=>M.walled_fits h1 h2 hwi hhi) _ HFG.out)
       rw [←hfn] at HMq HST
       obtain ⟨t,ht⟩:∃t,t=(fn id).getD M.th0:=⟨_,rfl⟩
       have HTT:=hI ht
       obtain ⟨hm0,hm1⟩:=M.fit_mask HFN.out id
       rw [←ht] at hm0 hm1
       obtain ⟨m,r⟩:=t
       simp only at hm0 hm1
       clear hid hfn ht
       go_upto_region 31 with (at_lookup;refine wpList_th_get _ rfl _ _ 44 rfl 3 83 Tryz.underlying3 Tryz.underlying44 (th_zero _) b1 fn c rfl HMq.out id rfl HID.out ?_;rw [←HTT.out])
       refine wp_called (λW4 hW4=>?_)
       have B6:Blk W4 wq.heap.size 83 (thC (m,r)):=by rw [hW4];exact Blk.new_at rfl
       have K4:Below wq.heap.size wq W4:=by rw [hW4];exact bel9
       have HT4:=hI (HTq.out.more K4)
       have HM4:=hI (HMq.out.below K4 HMq.out.lt)
       have HBW4:=hI (HBWQ.out.below K4 HBWQ.out.lt)
       have HB4:=hI B6
       have k4:=K4.size
       have l6:=B6.lt
       have u0:=B6.cell 0
       have u1:=B6.cell 1
       have u2:=B6.cell 2
       have u3:=B6.cell 3
       have u4:=B6.cell 4
       have u5:=B6.cell 5
       have u6:=B6.cell 6
       have u7:=B6.cell 7
       have u8:=B6.cell 8
       simp at u0 u1 u2 u3 u4 u5 u6 u7 u8
       have uf:=λi=>B6.free i
       have v0:=HBW4.out.cell 0
       have v3:=HBW4.out.cell 3
       have v4:=HBW4.out.cell 4
       simp at v0 v3 v4
       have lw4:=HBW4.out.lt
       clear hW4 B6 K4 hcell s0 s1 s2 s3 s4 HBWQ lbw
       by_cases hmv:M.moves m=true
       ·have HMV:=hI (λW=>moves_calls hm0 hm1 W)
        rw [hmv] at HMV
        have HIS:=hI (M.moves_there (f:=fn) (id:=id) (by rw [←HTT.out];exact hmv))
        have HGO:Hid (M.goS (λ_ r=>M.walledRow wide high r) fn id=M.upd fn id (m,M.walledRow wide high r)):=hI (by unfold M.goS;rw [←HTT.out,if_pos hmv])
        have hfit:M.Fits m r:=by
         obtain ⟨q,hq⟩:=Option.isSome_iff_exists.1 HIS.out
         have:=HTT.out
         rw [hq] at this
         simp only [Option.getD_some] at this
         have k:=HFN.out id q hq
         rw [←this] at k
         exact k
        have hbits:=M.moves_bits hm0 hm1 hmv
        have f1:=hfit.q1 hbits.1
        have f2:=hfit.q2 hbits.2.1
        have f4:=hfit.half
        have HMX:Hid (Mid r.X/\Mid r.PX/\Mid r.W/\Mid wide/\Mid r.Y/\Mid r.PY/\Mid r.H/\Mid high):=hI (by unfold Mid;omega)
        clear hfit hbits f1 f2 f4
        go_upto_region 34 with (first|(go_at_call 56;go_loud (refine (HMV.out _).mono ?_;rintro e w' ⟨rfl,rfl⟩))|(go_at_call 61;go_loud (refine (wallOf_calls _ _ _ _ _ _ (by first|exact HMX.out.1|exact HMX.out.2.2.2.2.1) (by first|exact HMX.out.2.1|exact HMX.out.2.2.2.2.2.1) (by first|exact HMX.out.2.2.1|exact HMX.out.2.2.2.2.2.2.1) (by first|exact HMX.out.2.2.2.1|exact HMX.out.2.2.2.2.2.2.2)).mono ?_;rintro e w' ⟨rfl,rfl⟩)))
        refine wp_called (λW5 hW5=>?_)
        have B7:Blk W5 wq.heap.size 83 (thC (m,M.walledRow wide high r)):=by rw [hW5];exact blk_to ((((HB4.out.put 1 _).put 3 _).put 2 _).put 4 _) (by simp [M.walledRow])
        have K5:Below wq.heap.size W4 W5:=by rw [hW5];exact bel9
        have HT5:=hI (HT4.out.later K5 kq)
        have HM5b:=hI (HM4.out.below K5 (by have:=HM6.out.lt;omega))
        have b5w:=HBW4.out.below K5 (by have:=HB6.out.lt;omega)
        have k5b:=K5.size
        have w0:=b5w.cell 0
        simp at w0
        have lw5:=b5w.lt
        have l7:=B7.lt
        have t0:=B7.cell 0
        have t1:=B7.cell 1
        have t2:=B7.cell 2
        have t3:=B7.cell 3
        have t4:=B7.cell 4
        have t5:=B7.cell 5
        have t6:=B7.cell 6
        have t7:=B7.cell 7
        have t8:=B7.cell 8
        simp at t0 t1 t2 t3 t4 t5 t6 t7 t8
        clear hW5 B7 K5 b5w u0 u1 u2 u3 u4 u5 u6 u7 u8 uf v0 v3 v4
        go_wp2_with (at_mapUpdate;go_loud (refine wpList_th_put _ rfl _ _ _ 44 rfl 3 83 Tryz.underlying3 Tryz.underlying44 b1 _ _ rfl HM5b.out (by unfold maxLen;have:=HHC.out;omega) id (m,M.walledRow wide high r) rfl HID.out rfl ?_;intro w10 hm10 ht10;rw [if_pos HIS.out,←HGO.out,←HST.out] at hm10;have HM10:=hI hm10;have HT10:=hI (HT5.out.turned ht10);clear hm10 ht10))
        go_roundg (vs.length-(n+1))
        case measure=>rw [HK.out];omega
        case rel=>exact ⟨n+1,by omega,by go_num,rfl,HM10.out,HT10.out⟩
       ·have hmv':M.moves m=false:=by simpa using hmv
        have HMV:=hI (λW=>moves_calls hm0 hm1 W)
        rw [hmv'] at HMV
        go_wp2_with (go_at_call 56;go_loud (refine (HMV.out _).mono ?_;rintro e w' ⟨rfl,rfl⟩))
        go_roundg (vs.length-(n+1))
        case measure=>rw [HK.out];omega
        case rel=>
         refine ⟨n+1,by omega,by go_num,rfl,?_,HT4.out⟩
         rw [HST.out]
         unfold M.goS
         rw [←HTT.out,if_neg (by rw [hmv'];simp)]
         exact HM4.out
      ·obtain rfl:n=vs.length:=by omega
       rw [List.take_length] at HMq
       rw [HS3.out] at HMq
       have z3:=HK3.out.size
       have z5:=HT5.out.size
       have z6:=HT6.out.size
       have KE:Below w.heap.size w wq:=HK3.out.trans ((HT5.out.below bO bO).trans ((HT6.out.below bO bO).trans (HTq.out.below bO bO)))
       have bce:=HTq.out.blk (HT6.out.blk (HT5.out.blk HC3.out bO) bO) bO
       have HOWE:=hI (HTq.out.own HOW6.out bO)
       have z0:=bce.cell 0
       have z1:=bce.cell 1
       have z2:=bce.cell 2
       have z3':=bce.cell 3
       have z4:=bce.cell 4
       simp at z0 z1 z2 z3' z4
       have zf:=λi=>bce.free i
       have lce:=bce.lt
       have HKE:=hI KE
       clear KE
       go_wp2_with fail
       have q2:b1≠w.heap.size+1:=by omega
       refine bodyPost_ret (v:=.tuple #[rwV b1 next fall wide high,.slice oa ms.length oc]) ?_ rfl ⟨b1,_,rfl,((((HMq.out.far q2 _).far q2 _).far q2 _).far q2 _).far q2 _,by omega,?_,?_⟩
       ·simp only [results,Tryz.results29]
        go_simp
       ·rw [←HMSE.out]
        have hlo:w.heap.size<=w5.heap.size:=by omega
        refine own_lower (base:=w5.heap.size) (own_same HOWE.out (λg e=>?_)) hlo
        have:=(HOWE.out.lt g e).1
        have q3:g≠w.heap.size+1:=by omega
        exact (bS _ _ _ _ q3).trans ((bS _ _ _ _ q3).trans ((bS _ _ _ _ q3).trans ((bS _ _ _ _ q3).trans (bS _ _ _ _ q3))))
       ·have KE:=HKE.out
        exact bel9
namespace M
theorem boxesF_boxes {s:Store} (g:GoodS s) {zs:List Int} (hs:zs.Pairwise (λa b=>leI a b=true)) (hn:zs.Nodup) (hm:∀z,z∈zs↔(at_ s z).isSome=true):boxesF (at_ s) zs=boxes s:=by
 have hq:zs.filter (hasAll (at_ s) 5)=query s 5:=having_query g 5 hs hn hm
 unfold boxesF boxes
 rw [hq]
 apply List.map_congr_left
 intro id hid
 rw [get_at g]
 cases h:at_ s id with
 |none=>rfl
 |some t=>rfl
theorem s1_same {w:Wd} (g:GoodS w.things) {zs:List Int} (hn:zs.Nodup) (hm:∀z,z∈zs↔(at_ w.things z).isSome=true):s1 (at_ w.things) zs w.fall=at_ (gone w):=
 (gone_same g ⟨hn,hm⟩).symm
theorem s2_same {w:Wd} (g:GoodS w.things) {zs:List Int} (hs:zs.Pairwise (λa b=>leI a b=true)) (hn:zs.Nodup) (hm:∀z,z∈zs↔(at_ w.things z).isSome=true):s2 (at_ w.things) zs w.fall=(at_ (met w).1,(met w).2):=by
 have e1:=s1_same g hn hm
 have hk:∀z,z∈zs↔(at_ (gone w) z).isSome=true:=λz=>by rw [hm,←e1];unfold s1;rw [foldS_key]
 have e2:=boxesF_boxes (kept_gone g).good hs hn hk
 unfold s2
 rw [e1,e2]
 exact Prod.ext (met_same g).1.symm (met_same g).2.symm
theorem s3_same {w:Wd} (gw:GoodWd w) {zs:List Int} (hs:zs.Pairwise (λa b=>leI a b=true)) (hn:zs.Nodup) (hm:∀z,z∈zs↔(at_ w.things z).isSome=true):s3 (at_ w.things) zs w.fall w.wide w.high=at_ (ends w):=by
 have e2:=s2_same gw.things hs hn hm
 have hk:∀z,z∈zs↔(at_ (met w).1 z).isSome=true:=λz=>by
  have:=foldM_key (pairs (boxesF (s1 (at_ w.things) zs w.fall) zs)) (s1 (at_ w.things) zs w.fall,[]) z
  rw [show (pairs (boxesF (s1 (at_ w.things) zs w.fall) zs)).foldl metS (s1 (at_ w.things) zs w.fall,[])=s2 (at_ w.things) zs w.fall from rfl,e2] at this
  rw [hm,this]
  unfold s1
  rw [foldS_key]
 unfold s3
 rw [e2]
 exact (ends_same gw ⟨hn,hk⟩).symm
theorem allIds_asc {s:Store} (g:GoodS s):(allIds s).Pairwise (λa b=>leI a b=true):=(query_asc g 0).imp (λh=>by unfold leI;simp;omega)
end M
theorem stepOf_good {w:World} {b:Nat} {d:M.Wd} (gw:M.GoodWd d) (h:MapA w b (M.at_ d.things) (M.size d.things)):
  Calls Tryz.prog 29 #[rwV b d.things.next d.fall d.wide d.high] w λe w'=>∃(b':Nat) (pv:Value),e=.returned (.tuple #[rwV b' d.things.next d.fall d.wide d.high,pv])/\MapA w' b' (M.at_ (M.step d).1.things) (M.size (M.step d).1.things)/\w.heap.size<=b'/\
   w'.ownsRow w.heap.size 71 2 pv (M.step d).2.1.length ((M.step d).2.1.flatMap pairL)/\Below w.heap.size w w':=by
 have k:=stepOf_calls h gw.things.2.2.2.1 (λid t e=>M.at_fits gw.things e) d.things.next d.fall d.wide d.high gw.fall gw.wide gw.high (M.allIds_asc gw.things) (M.allIds_nodup gw.things) (M.allIds_mem gw.things)
 have e1:=M.s3_same gw (M.allIds_asc gw.things) (M.allIds_nodup gw.things) (M.allIds_mem gw.things)
 have e2:=M.s2_same gw.things (M.allIds_asc gw.things) (M.allIds_nodup gw.things) (M.allIds_mem gw.things)
 have e3:=(M.step_kept gw).2.1.size gw.things
 have e4:M.step d=({d with things:=M.ends d},(M.met d).2,0):=by unfold M.step;rw [if_pos (M.goodW_iff.2 gw)]
 rw [e4] at e3⊢
 rw [e1,e2] at k
 simp only at e3⊢
 rw [e3]
 exact k
end Go.Proofs.YtemkbjaojinaoaaGreat
