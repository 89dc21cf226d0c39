/- Several small texts in one. No condition of its own: each part says its own. -/
import Derived.Test.YtemkbjaojinaoaaGreatShort
import Derived.Test.YtemkbjaojinaoaaGreatBagO
import Derived.Deep.LoopGhost
import Derived.Deep.DeepCutAuto
import Derived.Test.YtemkbjaojinaoaaGreatBagW
import Derived.Lib.AppendZerosOnto
import Derived.Shelf.Spec.SlicesInsertGrow
import Derived.Deep.RegionLaw
set_option linter.unusedVariables false
set_option linter.unusedSimpArgs false
set_option maxRecDepth 100000
set_option maxHeartbeats 4000000
namespace Go.Proofs.YtemkbjaojinaoaaGreat
open Go.RowKit
theorem put1_calls (w:World) (mask m:Int) (a1 a2:Option Addr) (n1 n2 c1 c2:Nat) (hm:0<=mask/\mask<=31) (hm2:0<=m/\m<=31):
  Calls Tryz.prog 71 #[.agg #[.int .i64 mask,.slice a1 n1 c1,.slice a2 n2 c2],.int .i64 m] w λe w'=>e=.returned (.int .i64 (mask-m))/\Below w.heap.size w w':=by
 go_enter Tryz.func71,Tryz.ntmps71
 go_wp2
 go_ret
 exact ⟨rfl,(Below.refl _ w).alloc lR _⟩
def Stands (ts:List M.Table) (m:Int) (i:Nat):Prop:=i<=ts.length/\(∀(k:Nat) (t:M.Table),ts[k]?=some t->k<i->t.mask<m)/\(∀(k:Nat) (t:M.Table),ts[k]?=some t->i<=k->m<=t.mask)
def Masks (ts:List M.Table):Prop:=ts.Pairwise (λa b=>a.mask<b.mask)/\∀t∈ts,0<=t.mask/\t.mask<=31
theorem masks_lt {ts:List M.Table} (h:Masks ts) {i j:Nat} {t u:M.Table} (hi:ts[i]?=some t) (hj:ts[j]?=some u) (hij:i<=j):t.mask<=u.mask:=by
 rcases Nat.lt_or_ge i j with hlt|hge
 ·obtain ⟨a,b⟩:=List.getElem?_eq_some_iff.1 hi
  obtain ⟨c,d⟩:=List.getElem?_eq_some_iff.1 hj
  have:=(List.pairwise_iff_getElem.1 h.1) i j a c hlt
  rw [b,d] at this
  omega
 ·have:i=j:=by omega
  subst this
  rw [hi] at hj
  simp only [Option.some.injEq] at hj
  rw [hj];exact Int.le_refl _
theorem search_calls {w:World} {lo:Nat} {v:Value} {ts:List M.Table} {hs:List (Value×Value)} (h:TabsAtH w lo v ts hs) (hmk:Masks ts) (m:Int) (hm:0<=m/\m<=31) (hsz:ts.length<=1000000):
  Calls Tryz.prog 70 #[v,.int .i64 m,.func (.func 71) #[] #[]] w λe w'=>
   ∃(i:Nat) (f:Bool),e=.returned (.tuple #[.int .i64 i,.bool f])/\Stands ts m i/\(f=true↔∃t,ts[i]?=some t/\t.mask=m)/\Below w.heap.size w w':=by
 have HT:=hI h
 have HM:=hI hmk
 obtain ⟨a,cap,rfl⟩:=h.val
 have HPC:=hI (λW mask a1 n1 c1 a2 n2 c2 hk=>put1_calls W mask m a1 a2 n1 n2 c1 c2 hk hm)
 have hm0:0<=m:=hm.1
 have hm1:m<=31:=hm.2
 clear h hmk hm
 go_enter Tryz.func70,Tryz.ntmps70
 go_wp2_with fail
 go_loopg [9,10] (ts.length+1) (λg x y wr=>∃i j:Nat,i<=j/\j<=ts.length/\x=.int .i64 i/\y=.int .i64 j/\g=j-i+1/\Below w.heap.size w wr/\
  (∀(k:Nat) (t:M.Table),ts[k]?=some t->k<i->t.mask<m)/\(∀(k:Nat) (t:M.Table),ts[k]?=some t->j<=k->m<=t.mask))
 case atStart=>exact ⟨0,ts.length,Nat.zero_le _,Nat.le_refl _,rfl,rfl,rfl,Below.refl _ _,λk t _ hk=>absurd hk (Nat.not_lt_zero _),λk t ht hk=>by have:=(List.getElem?_eq_some_iff.1 ht).1;omega⟩
 case round=>
  obtain ⟨i,j,hij,hj,rfl,rfl,hg,hb,hlo,hhi⟩:=hrel
  have HG:=hI hg
  have HB:=hI hb
  have HL:=hI hlo
  have HH:=hI hhi
  clear hg hb hlo hhi
  rcases Nat.lt_or_ge i j with hlt|hge
  ·obtain ⟨t,ht⟩:∃t,ts[(i+j) / 2]?=some t:=⟨_,List.getElem?_eq_getElem bO⟩
   obtain ⟨b,o,cap',a1,cp1,a2,cp2,e,hlo,hp,c0,c1,c2,h1,h2⟩:=(HT.out.below HB.out).at2 ht
   obtain ⟨rfl,rfl⟩:a=some ⟨b,o,none⟩/\cap=cap':=by simpa using e
   have hk:=HM.out.2 t (List.mem_of_getElem? ht)
   have hk0:=hk.1
   have hk1:=hk.2
   have HT2:=hI ht
   clear e hlo hp h1 h2 ht hk
   by_cases q:t.mask-m<0
   ·go_wp2_with (go_at_call 71;refine (HPC.out _ _ _ _ _ _ _ _ bO).mono ?_;rintro e w1 ⟨rfl,hb1⟩)
    have hb2:=hI (HB.out.trans (hb1.mono (by have:=HB.out.size;omega)))
    go_roundg (j-((i+j) / 2+1)+1)
    case measure=>rw [HG.out];omega
    case rel=>
     refine ⟨(i+j) / 2+1,j,by omega,hj,by go_num,rfl,rfl,hb2.out,λk u hu hk=>?_,HH.out⟩
     have:=masks_lt HM.out hu HT2.out bO
     omega
   ·go_wp2_with (go_at_call 71;refine (HPC.out _ _ _ _ _ _ _ _ bO).mono ?_;rintro e w1 ⟨rfl,hb1⟩)
    have hb2:=hI (HB.out.trans (hb1.mono (by have:=HB.out.size;omega)))
    go_roundg ((i+j) / 2-i+1)
    case measure=>rw [HG.out];omega
    case rel=>
     refine ⟨i,(i+j) / 2,by omega,by omega,rfl,by go_num,rfl,hb2.out,HL.out,λk u hu hk=>?_⟩
     have:=masks_lt HM.out HT2.out hu bO
     omega
  ·obtain rfl:i=j:=by omega
   have HST:Hid (Stands ts m i):=hI ⟨hj,HL.out,HH.out⟩
   rcases Nat.lt_or_ge i ts.length with hlt|hge2
   ·obtain ⟨t,ht⟩:∃t,ts[i]?=some t:=⟨_,List.getElem?_eq_getElem hlt⟩
    obtain ⟨b,o,cap',a1,cp1,a2,cp2,e,hlo,hp,c0,c1,c2,h1,h2⟩:=(HT.out.below HB.out).at2 ht
    obtain ⟨rfl,rfl⟩:a=some ⟨b,o,none⟩/\cap=cap':=by simpa using e
    have hk:=HM.out.2 t (List.mem_of_getElem? ht)
    have hk0:=hk.1
    have hk1:=hk.2
    have HT2:=hI ht
    clear e hlo hp h1 h2 ht hk
    go_wp2_with (go_at_call 71;refine (HPC.out _ _ _ _ _ _ _ _ bO).mono ?_;rintro e w1 ⟨rfl,hb1⟩)
    all_goals
     have hb2:=HB.out.trans (hb1.mono (by have:=HB.out.size;omega))
     refine bodyPost_ret (v:=.tuple #[.int .i64 i,.bool (t.mask-m==0)]) ?_ rfl ⟨i,t.mask-m==0,rfl,HST.out,?_,hb2⟩
     ·simp only [results,Tryz.results70]
      go_simp
     ·simp only [beq_iff_eq]
      constructor
      ·intro h;exact ⟨t,HT2.out,by omega⟩
      ·rintro ⟨u,hu,hm⟩
       rw [HT2.out] at hu
       simp only [Option.some.injEq] at hu
       subst hu
       omega
   ·go_wp2_with fail
    refine bodyPost_ret (v:=.tuple #[.int .i64 i,.bool false]) ?_ rfl ⟨i,false,rfl,HST.out,?_,HB.out⟩
    ·simp only [results,Tryz.results70]
     go_simp
    ·simp only [Bool.false_eq_true,false_iff,not_exists,not_and]
     intro u hu
     have:=(List.getElem?_eq_some_iff.1 hu).1
     omega
def Inserted (w:World) (base:Nat) (vt:Value) (n i:Nat) (xs news:List Value) (v':Value) (w':World):Prop:=
 w'.ownsRow base 102 3 v' (n+1) (xs.take (i*3)++news++xs.drop (i*3))/\w.grownBy w' vt.ownBlock/\(v'.ownBlock=vt.ownBlock\/∃nb,v'.ownBlock=some nb/\w.heap.size<=nb)
theorem insert_end {w:World} {base:Nat} {vt:Value} {n vb:Nat} {xs news:List Value} (h:w.ownsRow base 102 3 vt n xs) (hn:n<=1000000) (hb:base<=w.heap.size)
  (hl:news.length=3) (hv:∀j u,news[j]?=some u->w.cell? ⟨vb,j,none⟩=some u) (h1:∀u∈news,u.oneCell'=true):
  Calls Tryz.prog 72 #[vt,.int .i64 n,.slice (some ⟨vb,0,none⟩) 1 1] w λe w'=>∃v',e=.returned v'/\Inserted w base vt n n xs news v' w':=by
 obtain ⟨i0,hi,hz0,hz1,hz2⟩:=info_parts infoTable
 have H:=hI h
 have H1:=hI h1
 have HV:=hI hv
 have HL:=hI hl
 have HXL:Hid (xs.length=n*3):=hI h.1
 have HV2:Hid (∀j u,news[j]?=some u->w.cell? ((⟨vb,0,none⟩:Addr).add j)=some u):=hI (λj u hj=>by rw [Addr.add_lit,Nat.zero_add];exact hv j u hj)
 have FIN:∀v' w',Hid (w'.ownsRow base 102 3 v' (n+1) (xs++news))->w.grownBy w' vt.ownBlock->(v'.ownBlock=vt.ownBlock\/v'.ownBlock=some w.heap.size)->Inserted w base vt n n xs news v' w':=by
  intro v' w' k1 k2 k3
  refine ⟨?_,k2,k3.imp id (λe=>⟨_,e,Nat.le_refl _⟩)⟩
  rw [List.take_of_length_le (by rw [HXL.out];exact Nat.le_refl _),List.drop_of_length_le (by rw [HXL.out];exact Nat.le_refl _),List.append_nil]
  exact k1
 rcases h.2 with ⟨rfl,rfl⟩|⟨g,cap,cur,rfl,hbg,hg,hnc,hcm,hcs,htk⟩
 ·clear h h1 hv hl
  go_enter Tryz.func72,Tryz.ntmps72
  go_wp2_with (at_builtin;refine wpList_append_own_at _ rfl _ _ 49 rfl base 102 i0 (.agg #[.int .i64 0,.slice none 0 0,.slice none 0 0]) 3 56 Tryz.underlying49 hi hz0 hz1 hz2 rfl dC _ _ _ rfl H.out ⟨vb,0,none⟩ 1 1 news rfl HL.out HV2.out H1.out (by unfold maxLen;omega) bO hb ?_;intro v' w1 hown hgrow hnil hloc)
  go_ret
  exact ⟨_,rfl,FIN _ _ (hI hown) hgrow hloc⟩
 ·have hc63:cap<=9223372036854775807:=by unfold maxLen at hcm;omega
  clear h h1 hv hl hbg hg hcm hcs htk
  rcases Nat.lt_or_ge n cap with hlt|hge
  ·have hne:¬cap=n:=by omega
   go_enter Tryz.func72,Tryz.ntmps72
   go_wp2_with (at_builtin;refine wpList_append_own_at _ rfl _ _ 49 rfl base 102 i0 (.agg #[.int .i64 0,.slice none 0 0,.slice none 0 0]) 3 56 Tryz.underlying49 hi hz0 hz1 hz2 rfl dC _ _ _ rfl H.out ⟨vb,0,none⟩ 1 1 news rfl HL.out HV2.out H1.out (by unfold maxLen;omega) bO hb ?_;intro v' w1 hown hgrow hnil hloc)
   go_ret
   exact ⟨_,rfl,FIN _ _ (hI hown) hgrow hloc⟩
  ·obtain rfl:cap=n:=by omega
   go_enter Tryz.func72,Tryz.ntmps72
   go_wp2_with (at_builtin;refine wpList_append_own_at _ rfl _ _ 49 rfl base 102 i0 (.agg #[.int .i64 0,.slice none 0 0,.slice none 0 0]) 3 56 Tryz.underlying49 hi hz0 hz1 hz2 rfl dC _ _ _ rfl H.out ⟨vb,0,none⟩ 1 1 news rfl HL.out HV2.out H1.out (by unfold maxLen;omega) bO hb ?_;intro v' w1 hown hgrow hnil hloc)
   go_ret
   exact ⟨_,rfl,FIN _ _ (hI hown) hgrow hloc⟩
theorem splice_in {xs news:List Value} {cl:List Value} {n i:Nat} (hx:cl.take (n*3)=xs) (hxl:xs.length=n*3) (hi:i<n) (hl:news.length=3) (hc:(n+1)*3<=cl.length):
  (((cl.take ((i+1)*3)++xs.drop (i*3)++cl.drop ((i+1)*3+(xs.drop (i*3)).length)).take (i*3)++news++(cl.take ((i+1)*3)++xs.drop (i*3)++cl.drop ((i+1)*3+(xs.drop (i*3)).length)).drop (i*3+news.length))).take ((n+1)*3)=
   xs.take (i*3)++news++xs.drop (i*3):=by
 have hd:(xs.drop (i*3)).length=n*3-i*3:=by rw [List.length_drop,hxl]
 have e0:(i+1)*3=i*3+3:=by omega
 have e1:(cl.take ((i+1)*3)++xs.drop (i*3)++cl.drop ((i+1)*3+(xs.drop (i*3)).length)).take (i*3)=xs.take (i*3):=by
  rw [List.append_assoc,List.take_append_of_le_length (by rw [List.length_take];omega),List.take_take,←hx,List.take_take]
  congr 1;omega
 have e2:(cl.take ((i+1)*3)++xs.drop (i*3)++cl.drop ((i+1)*3+(xs.drop (i*3)).length)).drop (i*3+news.length)=xs.drop (i*3)++cl.drop ((i+1)*3+(xs.drop (i*3)).length):=by
  rw [List.append_assoc,hl,←e0]
  have:(cl.take ((i+1)*3)).length=(i+1)*3:=by rw [List.length_take];omega
  rw [List.drop_append_of_le_length bO,List.drop_of_length_le bO,List.nil_append]
 rw [e1,e2,←List.append_assoc]
 have hle:(xs.take (i*3)++news++xs.drop (i*3)).length=(n+1)*3:=by
  simp only [List.length_append,List.length_take,hd,hl,hxl]
  omega
 rw [List.take_append_of_le_length bO,List.take_of_length_le bO]
theorem insert_shift {w:World} {base g n cap i vb:Nat} {xs news:List Value} (h:w.ownsRow base 102 3 (.slice (some ⟨g,0,none⟩) n cap) n xs) (hn:n<=1000000) (hi:i<n) (hroom:n+1<=cap) (hvb:vb≠g)
  (hl:news.length=3) (hv:w.heap[vb]?=some (.cells news.toArray 102 (0,0))) (h1:∀u∈news,u.oneCell'=true) (h2:∀u∈xs,u.oneCell'=true):
  Calls Tryz.prog 72 #[.slice (some ⟨g,0,none⟩) n cap,.int .i64 i,.slice (some ⟨vb,0,none⟩) 1 1] w λe w'=>
   ∃v',e=.returned v'/\Inserted w base (.slice (some ⟨g,0,none⟩) n cap) n i xs news v' w':=by
 obtain ⟨i0,hi0,hz0,hz1,hz2⟩:=info_parts infoTable
 have hsz:(Tryz.prog.info? 102).map (·.size)=some 3:=by rw [hi0];simp [hz1]
 have hxl:=h.1
 rcases h.2 with ⟨e,_⟩|⟨g',cap',cur,e,hbg,hg,hnc,hcm,hcs,htk⟩
 ·simp at e
 simp only [Value.slice.injEq,Option.some.injEq,Addr.mk.injEq,and_true,true_and] at e
 obtain ⟨rfl,rfl⟩:=e
 have hc63:cap<=9223372036854775807:=by unfold maxLen at hcm;omega
 have hdl:(xs.drop (i*3)).length=(n-i)*3:=by rw [List.length_drop,hxl,Nat.sub_mul]
 have hcell:∀j u,xs[j]?=some u->w.cell? ⟨g,j,none⟩=some u:=by
  intro j u hj
  rw [cell_of_row w g j cur _ (0,0) hg]
  rw [←htk,List.getElem?_take] at hj
  split at hj
  ·simpa using hj
  ·cases hj
 have hov:∀lb cb,(callFunc 90 #[.slice (some ⟨vb,0,none⟩) 1 1,.slice (some ⟨g,(i+1)*3,none⟩) lb cb]).run Tryz.prog w=.ok (.value (.bool false)) w:=λlb cb=>by
  rw [run_callFunc_extern Tryz.func90 kR kR kR (e:=Extern.SlicesOverlaps.overlaps #[49,49] #[4]) kR,
   Lib.run_overlaps_apart w 49 4 102 Tryz.underlying49 3 Tryz.sizeOf102 ⟨vb,0,none⟩ ⟨g,(i+1)*3,none⟩ 1 1 lb cb hvb 102 102 3 cur.size
    (by simp [World.shape?,hv,hl]) (by simp [World.shape?,hg]) (by rw [hcs];omega) (by simp [World.frozen?,hv]) (by simp [World.frozen?,hv])]
  rfl
 obtain ⟨R1,hR1⟩:∃R1,R1=(cur.toList.take ((i+1)*3)++xs.drop (i*3)++cur.toList.drop ((i+1)*3+(xs.drop (i*3)).length)).toArray:=⟨_,rfl⟩
 have hcl:cur.toList.length=cap*3:=by simpa using hcs
 have hR1s:R1.size=cap*3:=by
  rw [hR1]
  simp only [List.size_toArray,List.length_append,List.length_take,List.length_drop,hcl,hdl,hxl]
  omega
 obtain ⟨R2,hR2⟩:∃R2,R2=(R1.toList.take (i*3)++news++R1.toList.drop (i*3+news.length)).toArray:=⟨_,rfl⟩
 have hR2s:R2.size=cap*3:=by
  rw [hR2]
  simp only [List.size_toArray,List.length_append,List.length_take,List.length_drop,hl,Array.length_toList,hR1s]
  omega
 have hcp1:∀ty dL dc sL sc,Nat.min sL dL=n-i->(Builtin.copy_ #[49,49] ty #[.slice (some ⟨g,(i+1)*3,none⟩) dL dc,.slice (some ⟨g,i*3,none⟩) sL sc]).run Tryz.prog w.drew=.ok (goInt ((n-i:Nat):Int)) (w.drew.setRow g R1):=λty dL dc sL sc hm=>by
  have c:=run_copy_k (P:=Tryz.prog) w.drew 49 49 ty 102 3 g ((i+1)*3) dL dc ⟨g,i*3,none⟩ sL sc cur 102 (xs.drop (i*3)) Tryz.underlying49 hsz hg (by rw [hm,hdl])
   (λj v hj=>by rw [Addr.add_lit];exact hcell _ _ (by rwa [List.getElem?_drop] at hj)) (by rw [hdl,hcs];omega) (λv hv=>h2 v (List.mem_of_mem_drop hv))
  rw [hm,←hR1] at c
  exact c
 have hcp2:∀(W:World),W.heap=(w.setRow g R1).heap->∀ty dL dc,Nat.min 1 dL=1->(Builtin.copy_ #[49,49] ty #[.slice (some ⟨g,i*3,none⟩) dL dc,.slice (some ⟨vb,0,none⟩) 1 1]).run Tryz.prog W=.ok (goInt 1) (W.setRow g R2):=λW hW ty dL dc hm=>by
  have hWg:W.heap[g]?=some (.cells R1 102 (0,0)):=by rw [hW];exact setRow_heap w g cur R1 _ _ hg
  have hWv:W.heap[vb]?=some (.cells news.toArray 102 (0,0)):=by rw [hW,setRow_other w g vb _ hvb];exact hv
  have c:=run_copy_k (P:=Tryz.prog) W 49 49 ty 102 3 g (i*3) dL dc ⟨vb,0,none⟩ 1 1 R1 102 news Tryz.underlying49 hsz hWg (by rw [hm,hl])
   (λj v hj=>by rw [Addr.add_lit,Nat.zero_add,cell_of_row W vb j _ _ (0,0) hWv];simpa using hj) (by rw [hl,hR1s];omega) h1
  rw [hm,←hR2] at c
  exact c
 have FIN:∀w',w'.os=w.os->w'.tape=w.tape->w'.output=w.output->w'.heap=((w.setRow g R1).setRow g R2).heap->Inserted w base (.slice (some ⟨g,0,none⟩) n cap) n i xs news (.slice (some ⟨g,0,none⟩) (n+1) cap) w':=by
  intro w' q1 q2 q3 q4
  refine ⟨⟨?_,.inr ⟨g,cap,R2,rfl,hbg,?_,hroom,hcm,hR2s,?_⟩⟩,⟨q1,q2,q3,?_,?_⟩,.inl rfl⟩
  ·simp only [List.length_append,List.length_take,hdl,hl,hxl]
   omega
  ·rw [q4]
   exact setRow_heap _ g R1 R2 _ _ (setRow_heap w g cur R1 _ _ hg)
  ·rw [hR2,hR1]
   exact splice_in htk hxl hi hl (by rw [hcl];omega)
  ·rw [q4];simp [World.setRow]
  ·intro k _ hk
   have hk':k≠g:=λe=>hk (by simp [Value.ownBlock,e])
   rw [q4,setRow_other _ g k _ hk',setRow_other _ g k _ hk']
 have HO:=hI hov
 have HC1:=hI hcp1
 have HC2:=hI hcp2
 have HFIN:=hI FIN
 clear hov hcp1 hcp2 FIN hR1 hR2 hR1s hR2s hcell hdl hg hv htk hcs hcl hsz hi0 hz0 hz1 hz2 h hxl h1 h2
 have hw1:IntKind.i64.wrap ((i:Int)+1)=(i:Int)+1:=by rw [IntKind.wrap_i64];omega
 have htn:((i:Int)+1).toNat=i+1:=by omega
 have hb1:(0:Int)<=(i:Int)+1:=by omega
 have hb0:(i:Int)+1<=(n:Int)+1:=by omega
 have hb2:¬(cap=i+1):=by omega
 have hb3:(i:Int)<=(n:Int)+1:=by omega
 have hb4:¬(cap=i):=by omega
 go_enter Tryz.func72,Tryz.ntmps72
 go_wp2_with (simp only [HO.out])
 go_region_law (refine step_copy_runI rfl _ _ 49 49 rfl _ _ (by simp [Act.eval,Act.put]) (by simp [Act.eval,Act.put]) (HC1.out _ (n-i) (cap-(i+1)) (n+1-i) (cap-i) (by simp only [Nat.min_def];split<;>omega)) ?_)
 go_wp2_with (refine wpList_copy_runI _ rfl _ _ 49 49 rfl _ _ rfl rfl (HC2.out _ (by rfl) _ (n+1-i) (cap-i) (by simp only [Nat.min_def];split<;>omega)) ?_)
 go_ret
 exact ⟨_,rfl,HFIN.out _ rfl rfl rfl rfl⟩
theorem splice_out {xs news Z:List Value} {n i:Nat} (hxl:xs.length=n*3) (hi:i<n) (hl:news.length=3) (hz:(n+1)*3<=i*3+Z.length) (R1:List Value)
  (hR1:R1=(xs.take (i*3)++Z).take (i*3)++news++(xs.take (i*3)++Z).drop (i*3+news.length)):
  (R1.take ((i+1)*3)++xs.drop (i*3)++R1.drop ((i+1)*3+(xs.drop (i*3)).length)).take ((n+1)*3)=xs.take (i*3)++news++xs.drop (i*3):=by
 have hd:(xs.drop (i*3)).length=n*3-i*3:=by rw [List.length_drop,hxl]
 have ht:(xs.take (i*3)).length=i*3:=by rw [List.length_take];omega
 have e0:(xs.take (i*3)++Z).take (i*3)=xs.take (i*3):=by
  rw [List.take_append_of_le_length bO,List.take_of_length_le bO]
 rw [e0] at hR1
 have e1:R1.take ((i+1)*3)=xs.take (i*3)++news:=by
  rw [hR1,List.take_append_of_le_length (by rw [List.length_append];omega),List.take_of_length_le (by rw [List.length_append];omega)]
 rw [e1,List.take_append_of_le_length (by simp only [List.length_append,hd];omega),List.take_of_length_le (by simp only [List.length_append,hd];omega)]
theorem insert_grow {w:World} {base g n i vb:Nat} {xs news:List Value} (h:w.ownsRow base 102 3 (.slice (some ⟨g,0,none⟩) n n) n xs) (hn:n<=1000000) (hi:i<n) (hb:base<=w.heap.size)
  (hl:news.length=3) (hv:w.heap[vb]?=some (.cells news.toArray 102 (0,0))) (h1:∀u∈news,u.oneCell'=true) (h2:∀u∈xs,u.oneCell'=true):
  Calls Tryz.prog 72 #[.slice (some ⟨g,0,none⟩) n n,.int .i64 i,.slice (some ⟨vb,0,none⟩) 1 1] w λe w'=>
   ∃v',e=.returned v'/\Inserted w base (.slice (some ⟨g,0,none⟩) n n) n i xs news v' w':=by
 obtain ⟨i0,hi0,hz0,hz1,hz2⟩:=info_parts infoTable
 have hsz:(Tryz.prog.info? 102).map (·.size)=some 3:=by rw [hi0];simp [hz1]
 have hxl:=h.1
 rcases h.2 with ⟨e,_⟩|⟨g',cap',cur,e,hbg,hg,hnc,hcm,hcs,htk⟩
 ·simp at e
 simp only [Value.slice.injEq,Option.some.injEq,Addr.mk.injEq,and_true,true_and] at e
 obtain ⟨rfl,rfl⟩:=e
 have hgl:g<w.heap.size:=(Array.getElem?_eq_some_iff.1 hg).1
 have hvl:vb<w.heap.size:=(Array.getElem?_eq_some_iff.1 hv).1
 have hdl:(xs.drop (i*3)).length=(n-i)*3:=by rw [List.length_drop,hxl,Nat.sub_mul]
 have hcell:∀j u,xs[j]?=some u->w.cell? ⟨g,j,none⟩=some u:=by
  intro j u hj
  rw [cell_of_row w g j cur _ (0,0) hg]
  rw [←htk,List.getElem?_take] at hj
  split at hj
  ·simpa using hj
  ·cases hj
 have hold:(Builtin.firstCells i0.size i (.slice (some ⟨g,0,none⟩) i n)).run Tryz.prog w.drew=.ok (xs.take (i*3)).toArray w.drew:=by
  rw [hz1]
  exact run_firstCells_some w.drew 3 i ⟨g,0,none⟩ i n (xs.take (i*3)) (by rw [List.length_take];omega) (λj v hj=>by
   rw [Addr.add_lit,Nat.zero_add]
   rw [List.getElem?_take] at hj
   split at hj
   ·exact hcell j v hj
   ·cases hj)
 obtain ⟨G,hG⟩:∃G,G=grownCap w (n+1) n 102:=⟨_,rfl⟩
 have hG1:n+1<=G:=by rw [hG];exact grownCap_ge w (n+1) n _
 have hG2:G<=maxLen:=by rw [hG];exact grownCap_le_maxLen w (n+1) n _ (by unfold maxLen;omega)
 obtain ⟨Z,hZ⟩:∃Z:List Value,Z=(Builtin.zeroCells (Value.agg #[.int .i64 0,.slice none 0 0,.slice none 0 0]).cells (n+1-i)++Builtin.zeroCells (Value.agg #[.int .i64 0,.slice none 0 0,.slice none 0 0]).cells (G-(n+1))).toList:=⟨_,rfl⟩
 have hZl:Z.length=(G-i)*3:=by
  rw [hZ]
  simp only [Array.toList_append,List.length_append,Array.length_toList,size_zeroCells]
  have:(Value.agg #[.int .i64 0,.slice none 0 0,.slice none 0 0]).cells.size=3:=rfl
  rw [this]
  omega
 obtain ⟨R0,hR0⟩:∃R0:Array Value,R0=(xs.take (i*3)++Z).toArray:=⟨_,rfl⟩
 have hR0s:R0.size=G*3:=by
  rw [hR0]
  simp only [List.size_toArray,List.length_append,List.length_take,hZl,hxl]
  omega
 have hrz:∀ty,(Builtin.append_ #[49,3] ty #[.slice (some ⟨g,0,none⟩) i n,.int .i64 ((n:Int)+1-(i:Int))]).run Tryz.prog w=
   .ok (.slice (some ⟨w.heap.size,0,none⟩) (n+1) G) (w.drew.alloc (.cells R0 102)):=λty=>by
  have hik:i+(n+1-i)=n+1:=by omega
  have hkk:(n:Int)+1-(i:Int)=((n+1-i:Nat):Int):=by omega
  have h:=Lib.run_append_grow_zeros w 49 3 ty 102 i0 _ .i64 .i64 Tryz.underlying49 Tryz.underlying3 hi0 hz0 (some ⟨g,0,none⟩) i n (xs.take (i*3)) hold (n+1-i) bO bO bO bO (by rw [hz2];omega)
   (by rw [hz2,hik];exact growslice_fits bO bO)
  rw [hik,←hG] at h
  have e:∀(l:List Value) (A:Array Value),l.toArray++A=(l++A.toList).toArray:=by intro l A;apply Array.ext';simp
  rw [hkk,h,hR0,hZ,Array.append_assoc,e]
 obtain ⟨R1,hR1⟩:∃R1,R1=(R0.toList.take (i*3)++news++R0.toList.drop (i*3+news.length)).toArray:=⟨_,rfl⟩
 have hR1s:R1.size=G*3:=by
  rw [hR1]
  simp only [List.size_toArray,List.length_append,List.length_take,List.length_drop,hl,Array.length_toList,hR0s]
  omega
 obtain ⟨R2,hR2⟩:∃R2,R2=(R1.toList.take ((i+1)*3)++xs.drop (i*3)++R1.toList.drop ((i+1)*3+(xs.drop (i*3)).length)).toArray:=⟨_,rfl⟩
 have hR2s:R2.size=G*3:=by
  rw [hR2]
  simp only [List.size_toArray,List.length_append,List.length_take,List.length_drop,hdl,Array.length_toList,hR1s]
  omega
 have hcp1:∀(W:World),W.heap=(w.alloc (.cells R0 102)).heap->∀ty dL dc,Nat.min 1 dL=1->(Builtin.copy_ #[49,49] ty #[.slice (some ⟨w.heap.size,i*3,none⟩) dL dc,.slice (some ⟨vb,0,none⟩) 1 1]).run Tryz.prog W=.ok (goInt 1) (W.setRow w.heap.size R1):=λW hW ty dL dc hm=>by
  have hWg:W.heap[w.heap.size]?=some (.cells R0 102 (0,0)):=by rw [hW];exact heap_alloc_new w _
  have hWv:W.heap[vb]?=some (.cells news.toArray 102 (0,0)):=by rw [hW,heap_alloc_old w _ hvl];exact hv
  have c:=run_copy_k (P:=Tryz.prog) W 49 49 ty 102 3 w.heap.size (i*3) dL dc ⟨vb,0,none⟩ 1 1 R0 102 news Tryz.underlying49 hsz hWg (by rw [hm,hl])
   (λj v hj=>by rw [Addr.add_lit,Nat.zero_add,cell_of_row W vb j _ _ (0,0) hWv];simpa using hj) (by rw [hl,hR0s];omega) h1
  rw [hm,←hR1] at c
  exact c
 have hcp2:∀(W:World),W.heap=((w.alloc (.cells R0 102)).setRow w.heap.size R1).heap->∀ty dL dc sL sc,Nat.min sL dL=n-i->(Builtin.copy_ #[49,49] ty #[.slice (some ⟨w.heap.size,(i+1)*3,none⟩) dL dc,.slice (some ⟨g,i*3,none⟩) sL sc]).run Tryz.prog W=.ok (goInt ((n-i:Nat):Int)) (W.setRow w.heap.size R2):=λW hW ty dL dc sL sc hm=>by
  have hWg:W.heap[w.heap.size]?=some (.cells R1 102 (0,0)):=by rw [hW];exact setRow_heap _ _ R0 R1 _ _ (heap_alloc_new w _)
  have hWo:W.heap[g]?=some (.cells cur 102 (0,0)):=by rw [hW,setRow_other _ _ g _ bO,heap_alloc_old w _ hgl];exact hg
  have c:=run_copy_k (P:=Tryz.prog) W 49 49 ty 102 3 w.heap.size ((i+1)*3) dL dc ⟨g,i*3,none⟩ sL sc R1 102 (xs.drop (i*3)) Tryz.underlying49 hsz hWg (by rw [hm,hdl])
   (λj v hj=>by
    rw [Addr.add_lit,cell_of_row W g _ cur _ (0,0) hWo,←cell_of_row w g _ cur _ (0,0) hg]
    exact hcell _ _ (by rwa [List.getElem?_drop] at hj)) (by rw [hdl,hR1s];omega) (λv hv=>h2 v (List.mem_of_mem_drop hv))
  rw [hm,←hR2] at c
  exact c
 have FIN:∀w',w'.os=w.os->w'.tape=w.tape->w'.output=w.output->w'.heap=(((w.alloc (.cells R0 102)).setRow w.heap.size R1).setRow w.heap.size R2).heap->Inserted w base (.slice (some ⟨g,0,none⟩) n n) n i xs news (.slice (some ⟨w.heap.size,0,none⟩) (n+1) G) w':=by
  intro w' q1 q2 q3 q4
  refine ⟨⟨?_,.inr ⟨w.heap.size,G,R2,rfl,hb,?_,hG1,hG2,hR2s,?_⟩⟩,⟨q1,q2,q3,?_,?_⟩,.inr ⟨_,rfl,Nat.le_refl _⟩⟩
  ·simp only [List.length_append,List.length_take,hdl,hl,hxl]
   omega
  ·rw [q4]
   exact setRow_heap _ _ R1 R2 _ _ (setRow_heap _ _ R0 R1 _ _ (heap_alloc_new w _))
  ·rw [hR2]
   exact splice_out hxl hi hl (by rw [hZl];omega) R1.toList (by rw [hR1,hR0])
  ·rw [q4];simp [World.setRow]
  ·intro k hk _
   rw [q4,setRow_other _ _ k _ bO,setRow_other _ _ k _ bO,heap_alloc_old w _ hk]
 have HRZ:=hI hrz
 have HC1:=hI hcp1
 have HC2:=hI hcp2
 have HFIN:=hI FIN
 clear hrz hcp1 hcp2 FIN hR1 hR2 hR1s hR2s hcell hdl hg hv htk hcs hsz hi0 hz0 hz1 hz2 h hxl h1 h2 hR0 hR0s hZ hZl hold hG
 have hw1:IntKind.i64.wrap ((i:Int)+1)=(i:Int)+1:=by rw [IntKind.wrap_i64];omega
 have htn:((i:Int)+1).toNat=i+1:=by omega
 have hb1:(0:Int)<=(i:Int)+1:=by omega
 have hb0:(i:Int)+1<=(n:Int)+1:=by omega
 have hb2:¬(G=i+1):=by omega
 have hb3:(i:Int)<=(n:Int)+1:=by omega
 have hb4:¬(G=i):=by omega
 have hb5:¬(n=i):=by omega
 have hb6:(i:Int)<=(n:Int):=by omega
 have hG63:G<=9223372036854775807:=by unfold maxLen at hG2;omega
 go_enter Tryz.func72,Tryz.ntmps72
 go_wp2_with (first|(at_builtin;refine Lib.wpList_append_run _ rfl _ _ 49 3 rfl _ _ rfl rfl _ _ (HRZ.out _) ?_)|(refine wpList_copy_runI _ rfl _ _ 49 49 rfl _ _ rfl rfl (HC1.out _ (by rfl) _ (n+1-i) (G-i) (by simp only [Nat.min_def];split<;>omega)) ?_))
 go_region_law (refine step_copy_runI rfl _ _ 49 49 rfl _ _ (by simp [Act.eval,Act.put]) (by simp [Act.eval,Act.put]) (HC2.out _ (by rfl) _ (n-i) (G-(i+1)) (n-i) (n-i) (by simp only [Nat.min_def];split<;>omega)) ?_)
 go_wp2_with fail
 go_ret
 exact ⟨_,rfl,HFIN.out _ rfl rfl rfl rfl⟩
end Go.Proofs.YtemkbjaojinaoaaGreat
