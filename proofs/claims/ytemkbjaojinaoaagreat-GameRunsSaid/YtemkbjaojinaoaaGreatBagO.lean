/- Several small texts in one. No condition of its own: each part says its own. -/
import Derived.Test.YtemkbjaojinaoaaGreatShort
import Derived.Test.YtemkbjaojinaoaaGreatBagW
import Derived.Test.YtemkbjaojinaoaaGreatLayStore
import Derived.Lib.Hide
import Derived.Deep.DeepFit
import Derived.Deep.LoopGhost
import Derived.Deep.DeepCutAuto
import Derived.Maps.AppendAt
import Derived.OwnWalk
import Derived.Laws.OwnMore
import Derived.Deep.RegionHeld3
set_option linter.unusedVariables false
set_option linter.unusedSimpArgs false
set_option maxRecDepth 100000
set_option maxHeartbeats 4000000
namespace Go.Proofs.YtemkbjaojinaoaaGreat
open Go.RowKit
theorem index_calls {w:World} {lo:Nat} {v:Value} {zs:List Int} (h:IntsAt w lo v zs) (x:Int):
  Calls Tryz.prog 67 #[v,.int .i64 x] w λe w'=>e=.returned (.int .i64 (if x∈zs then ((zs.idxOf x:Nat):Int) else -1))/\w'=w:=by
 obtain ⟨h1,hm,a,cap,rfl,hc⟩:=h
 rw [←M.idxOf_eq]
 cases zs with
 |nil=>
  have c:Calls Tryz.prog 67 #[.slice a 0 cap,.int .i64 x] w λe w'=>e=.returned (.int .i64 (-1))/\w'=w:=Any.slices_Index_int_empty Tryz.lays108 _ _ _ _
  exact c
 |cons z zs=>
  obtain ⟨b,o,rfl,hl,hc⟩:=hc sS
  have c:Calls Tryz.prog 67 #[.slice (some ⟨b,o,none⟩) (z::zs).length cap,.int .i64 x] w λe w'=>e=.returned (.int .i64 (Lib.idxOf ((z::zs).take (z::zs).length) x))/\w'=w:=
   Any.slices_Index_int Tryz.lays108 b o (z::zs).length cap (z::zs) x w lR (by unfold maxLen at hm;omega) (λj hj=>hc j _ (by
    rw [List.getElem?_map,List.getElem?_eq_getElem hj]
    simp [List.getD,List.getElem?_eq_getElem hj]))
  rw [List.take_length] at c
  exact c
theorem find_calls {w:World} {lo:Nat} {v:Value} {s:M.Store} (h:StoreAt w lo v s) (id:Int):
  Calls Tryz.prog 39 #[v,.int .i64 id] w λe w'=>e=.returned (.tuple #[.int .i64 (M.found s id).1,.int .i64 (M.found s id).2.1,.bool (M.found s id).2.2])/\Below w.heap.size w w':=by
 obtain ⟨vt,rfl,hs,hT⟩:=h
 obtain ⟨a,cap,rfl⟩:=hT.val
 have hmx:s.tables.length<=9223372036854775807:=by have:=hT.max;unfold maxLen at this;omega
 have HT:=hI hT
 clear hT
 go_enter Tryz.func39,Tryz.ntmps39
 go_wp2_with fail
 go_loopg [13] s.tables.length (λg i wr=>∃n:Nat,n<=s.tables.length/\i=.int .i64 n/\g=s.tables.length-n/\Below w.heap.size w wr/\∀j t,j<n->s.tables[j]?=some t->id∉t.ids)
 case atStart=>exact ⟨0,Nat.zero_le _,rfl,rfl,(Below.refl _ w).alloc lR _,λj t hj=>absurd hj (Nat.not_lt_zero _)⟩
 case round=>
  obtain ⟨n,hn,rfl,hg,hb,hmiss⟩:=hrel
  have HM:=hI hmiss
  have HB:=hI hb
  have HG:=hI hg
  clear hmiss hb hg
  rcases Nat.lt_or_ge n s.tables.length with hlt|hge
  ·obtain ⟨t,ht⟩:∃t,s.tables[n]?=some t:=⟨_,List.getElem?_eq_getElem hlt⟩
   obtain ⟨b,o,cap',a1,cp1,a2,cp2,e,hlo,hp,c0,c1,c2,h1,h2⟩:=(HT.out.below HB.out).at2 ht
   obtain ⟨rfl,rfl⟩:a=some ⟨b,o,none⟩/\cap=cap':=by simpa using e
   have HH:=hI ht
   have HI:=hI (λo=>index_calls (h1.below ((Below.refl _ wr).alloc lR o)) id)
   clear e hlo hp h1 h2 ht
   by_cases hm:id∈t.ids
   ·rw [if_pos hm] at HI
    go_wp2_with (go_at_call 67;refine (HI.out _).mono ?_;rintro e w' ⟨rfl,rfl⟩)
    have hf:M.found s id=((n:Int),(t.ids.idxOf id:Int),true):=by unfold M.found;rw [M.find_skip HM.out HH.out hm]
    refine bodyPost_ret (v:=.tuple #[.int .i64 n,.int .i64 (t.ids.idxOf id:Nat),.bool true]) ?_ rfl ⟨by rw [hf],?_⟩
    ·simp only [results,Tryz.results39]
     go_simp
    ·exact HB.out.alloc (by have:=HB.out.size;omega) _
   ·rw [if_neg hm] at HI
    go_wp2_with (go_at_call 67;refine (HI.out _).mono ?_;rintro e w' ⟨rfl,rfl⟩)
    go_roundg (s.tables.length-(n+1))
    case measure=>rw [HG.out];omega
    case rel=>
     refine ⟨n+1,by omega,by go_num,rfl,HB.out.alloc (by have:=HB.out.size;omega) _,λj t' hj ht'=>?_⟩
     rcases Nat.lt_or_ge j n with h|h
     ·exact HM.out j t' h ht'
     ·obtain rfl:j=n:=by omega
      have:=HH.out
      rw [ht'] at this
      obtain rfl:t'=t:=by simpa using this
      exact hm
  ·go_wp2_with fail
   have hf:M.found s id=(0,0,false):=by
    unfold M.found
    rw [M.find_miss (λj t hj ht=>HM.out j t bO ht)]
   refine bodyPost_ret (v:=.tuple #[.int .i64 0,.int .i64 0,.bool false]) ?_ rfl ⟨by rw [hf],HB.out⟩
   simp only [results,Tryz.results39]
   go_simp
theorem get_calls {w:World} {lo:Nat} {v:Value} {s:M.Store} (h:StoreAt w lo v s) (id:Int):
  Calls Tryz.prog 17 #[v,.int .i64 id] w λe w'=>e=.returned (.tuple #[.int .i64 (M.get s id).1,rowV (M.get s id).2.1,.bool (M.get s id).2.2])/\Below w.heap.size w w':=by
 have HF:=hI (λW (hb:Below w.heap.size w W)=>find_calls (h.below hb) id)
 obtain ⟨vt,rfl,hs,hT⟩:=h
 obtain ⟨a,cap,rfl⟩:=hT.val
 have hmx:s.tables.length<=9223372036854775807:=by have:=hT.max;unfold maxLen at this;omega
 cases hf:M.find s id with
 |none=>
  have hg:M.get s id=(0,M.row0,false):=by unfold M.get;rw [hf]
  have hfo:M.found s id=(0,0,false):=by unfold M.found;rw [hf]
  rw [hg]
  rw [hfo] at HF
  clear hf hg hfo hT
  go_enter Tryz.func17,Tryz.ntmps17
  go_wp2_with (go_at_call 39;refine (HF.out _ bel9).mono ?_;rintro e w1 ⟨rfl,hb1⟩;obtain ⟨hc1,hf1⟩:=bcell hb1;have k0:=(λo=>hc1 w.heap.size o sO);have k1:=(λo=>hc1 (w.heap.size+1) o sS);have q0:=(λo=>hf1 w.heap.size o sO);have q1:=(λo=>hf1 (w.heap.size+1) o sS);clear hc1 hf1;have HB:=hI ((show Below w.heap.size w _ from bel9).trans (hb1.mono sO));have hz:=HB.out.size)
  refine bodyPost_ret (v:=.tuple #[.int .i64 0,rowV M.row0,.bool false]) ?_ rfl ⟨rfl,?_⟩
  ·simp only [results,Tryz.results17,M.row0]
   go_simp
  ·have hB:=HB.out
   exact bel9
 |some p=>
  obtain ⟨i,k⟩:=p
  obtain ⟨t,ht,_,hki,hid⟩:=M.findT_at hf
  have hfo:M.found s id=((i:Int),(k:Int),true):=by unfold M.found;rw [hf]
  rw [hfo] at HF
  obtain ⟨b,o,cap',a1,cp1,a2,cp2,e,hlo,hp,c0,c1,c2,h1,h2⟩:=hT.at2 ht
  obtain ⟨rfl,rfl⟩:a=some ⟨b,o,none⟩/\cap=cap':=by simpa using e
  have hit:i<s.tables.length:=(List.getElem?_eq_some_iff.1 ht).1
  have hmr:t.rows.length<=9223372036854775807:=by have:=h2.max;unfold maxLen at this;omega
  have C0:=hI c0
  have C1:=hI c1
  have C2:=hI c2
  clear c0 c1 c2 e hp hfo
  by_cases hk:k<t.rows.length
  ·have hg:M.get s id=(t.mask,t.rows[k],true):=by
    unfold M.get;rw [hf];simp only [ht];rw [dif_pos hk]
   rw [hg]
   obtain ⟨r,hr⟩:∃r,t.rows[k]=r:=⟨_,rfl⟩
   rw [hr]
   obtain ⟨b2,o2,cap2,e2,hlo2,hc⟩:=h2.at8 (i:=k) (r:=r) (by rw [List.getElem?_eq_getElem hk,hr])
   obtain ⟨rfl,rfl⟩:a2=some ⟨b2,o2,none⟩/\cp2=cap2:=by simpa using e2
   have HC:=hI hc
   clear hc e2 hg hr hf hT ht h1 h2 hid
   go_enter Tryz.func17,Tryz.ntmps17
   go_wp2_with (go_at_call 39;refine (HF.out _ bel9).mono ?_;rintro e w1 ⟨rfl,hb1⟩;obtain ⟨hc1,hf1⟩:=bcell hb1;have k0:=(λo=>hc1 w.heap.size o sO);have k1:=(λo=>hc1 (w.heap.size+1) o sS);have q0:=(λo=>hf1 w.heap.size o sO);have q1:=(λo=>hf1 (w.heap.size+1) o sS);clear hc1 hf1;have HB:=hI ((show Below w.heap.size w _ from bel9).trans (hb1.mono sO));have hz:=HB.out.size;have c0:=below_cell C0.out HB.out;have c1:=below_cell C1.out HB.out;have c2:=below_cell C2.out HB.out;obtain ⟨r0,r1,r2,r3,r4,r5,r6,r7⟩:=HC.out.below HB.out)
   go_region
   all_goals
    go_wp2_with fail
    refine bodyPost_ret (v:=.tuple #[.int .i64 t.mask,rowV r,.bool true]) ?_ rfl ⟨rfl,?_⟩
    ·simp only [results,Tryz.results17]
     go_simp
    ·have hB:=HB.out
     exact bel9
  ·have hg:M.get s id=(0,M.row0,false):=by
    unfold M.get;rw [hf];simp only [ht];rw [dif_neg hk]
   rw [hg]
   clear hg hf hT ht h1 h2 hid
   go_enter Tryz.func17,Tryz.ntmps17
   go_wp2_with (go_at_call 39;refine (HF.out _ bel9).mono ?_;rintro e w1 ⟨rfl,hb1⟩;obtain ⟨hc1,hf1⟩:=bcell hb1;have k0:=(λo=>hc1 w.heap.size o sO);have k1:=(λo=>hc1 (w.heap.size+1) o sS);have q0:=(λo=>hf1 w.heap.size o sO);have q1:=(λo=>hf1 (w.heap.size+1) o sS);clear hc1 hf1;have HB:=hI ((show Below w.heap.size w _ from bel9).trans (hb1.mono sO));have hz:=HB.out.size;have c0:=below_cell C0.out HB.out;have c1:=below_cell C1.out HB.out;have c2:=below_cell C2.out HB.out)
   refine bodyPost_ret (v:=.tuple #[.int .i64 0,rowV M.row0,.bool false]) ?_ rfl ⟨rfl,?_⟩
   ·simp only [results,Tryz.results17,M.row0]
    go_simp
   ·have hB:=HB.out
    exact bel9
theorem size_calls {w:World} {lo:Nat} {v:Value} {s:M.Store} (h:StoreAt w lo v s):
  Calls Tryz.prog 41 #[v] w λe w'=>e=.returned (.int .i64 (M.sizeW s.tables))/\Below w.heap.size w w':=by
 obtain ⟨vt,rfl,hs,hT⟩:=h
 obtain ⟨a,cap,rfl⟩:=hT.val
 have hmx:s.tables.length<=9223372036854775807:=by have:=hT.max;unfold maxLen at this;omega
 have HT:=hI hT
 clear hT
 go_enter Tryz.func41,Tryz.ntmps41
 go_wp2_with fail
 go_loopg [3,9] s.tables.length (λg m i wr=>∃n:Nat,n<=s.tables.length/\i=.int .i64 n/\m=.int .i64 (M.sizeW (s.tables.take n))/\g=s.tables.length-n/\Below w.heap.size w wr)
 case atStart=>exact ⟨0,Nat.zero_le _,rfl,rfl,rfl,(Below.refl _ w).alloc lR _⟩
 case round=>
  obtain ⟨n,hn,rfl,rfl,hg,hb⟩:=hrel
  have HB:=hI hb
  have HG:=hI hg
  have hz:=hb.size
  clear hb hg
  rcases Nat.lt_or_ge n s.tables.length with hlt|hge
  ·obtain ⟨t,ht⟩:∃t,s.tables[n]?=some t:=⟨_,List.getElem?_eq_getElem hlt⟩
   obtain ⟨b,o,cap',a1,cp1,a2,cp2,e,hlo,hp,c0,c1,c2,h1,h2⟩:=(HT.out.below HB.out).at2 ht
   obtain ⟨rfl,rfl⟩:a=some ⟨b,o,none⟩/\cap=cap':=by simpa using e
   have HS:=hI (M.sizeW_step ht)
   clear e hlo hp h1 h2 ht
   obtain ⟨z,hz⟩:∃z,M.sizeW (s.tables.take n)=z:=⟨_,rfl⟩
   rw [hz] at HS⊢
   clear hz
   go_wp2_with fail
   go_roundg (s.tables.length-(n+1))
   case measure=>rw [HG.out];omega
   case rel=>exact ⟨n+1,by omega,by go_num,by rw [HS.out],rfl,HB.out.alloc (by have:=HB.out.size;omega) _⟩
  ·obtain rfl:n=s.tables.length:=by omega
   rw [List.take_length]
   go_wp2_with fail
   go_ret
   exact ⟨rfl,HB.out⟩
theorem infoInt:(Tryz.prog.info? 3).map (λi=>(i.zero,i.size,i.bytes))=some (some (.int .i64 0),1,8):=by kernel_rfl
theorem infoRow:(Tryz.prog.info? 38).map (λi=>(i.zero,i.size,i.bytes))=some (some (rowV M.row0),8,64):=by kernel_rfl
theorem infoTable:(Tryz.prog.info? 102).map (λi=>(i.zero,i.size,i.bytes))=some (some (.agg #[.int .i64 0,.slice none 0 0,.slice none 0 0]),3,56):=by kernel_rfl
theorem clone_ints {w:World} {lo:Nat} {v:Value} {zs:List Int} (h:IntsAt w lo v zs) (hne:zs≠[]) (hb:zs.length*8<=140737488355328):
  Calls Tryz.prog 65 #[v] w λe w'=>∃v',e=.returned v'/\w'.ownsRow w.heap.size 3 1 v' zs.length (zs.map (Value.int .i64))/\Below w.heap.size w w':=by
 obtain ⟨h1,hm,a,cap,rfl,hc⟩:=h
 obtain ⟨b,o,rfl,hl,hc⟩:=hc (by simpa using hne)
 obtain ⟨i0,hi,hz0,hz1,hz2⟩:=info_parts infoInt
 have c:Calls Tryz.prog 65 #[.slice (some ⟨b,o,none⟩) zs.length cap] w λe w'=>∃v',e=.returned v'/\w'.ownsRow w.heap.size 3 1 v' zs.length (zs.map (Value.int .i64))/\v'≠ .slice none 0 0/\Below w.heap.size w w':=
  AnyE.slices_Clone Tryz.cloneInt i0 (.int .i64 0) 1 8 hi hz0 hz1 hz2 rfl dC Tryz.sizeOf3 b o zs.length cap _ w h1 hm hb hc (by intro u hu;obtain ⟨z,_,rfl⟩:=List.mem_map.1 hu;rfl)
 exact c.mono λe w' ⟨v',h1,h2,h3,h4⟩=>⟨v',h1,h2,h4⟩
theorem clone_rows {w:World} {lo:Nat} {v:Value} {rs:List M.Row} (h:RowsAt w lo v rs) (hne:rs≠[]) (hb:rs.length*64<=140737488355328):
  Calls Tryz.prog 66 #[v] w λe w'=>∃v',e=.returned v'/\w'.ownsRow w.heap.size 38 8 v' rs.length (rs.flatMap rowL)/\Below w.heap.size w w':=by
 obtain ⟨h1,hm,a,cap,rfl,hc⟩:=h
 have hne2:rs.flatMap rowL≠[]:=by
  intro e
  have k1:=rowsL_length rs
  rw [e] at k1
  have k2:rs.length≠0:=λe2=>hne (List.length_eq_zero_iff.1 e2)
  simp only [List.length_nil] at k1
  omega
 obtain ⟨b,o,rfl,hl,hc⟩:=hc hne2
 obtain ⟨i0,hi,hz0,hz1,hz2⟩:=info_parts infoRow
 have c:Calls Tryz.prog 66 #[.slice (some ⟨b,o,none⟩) rs.length cap] w λe w'=>∃v',e=.returned v'/\w'.ownsRow w.heap.size 38 8 v' rs.length (rs.flatMap rowL)/\v'≠ .slice none 0 0/\Below w.heap.size w w':=
  AnyE.slices_Clone Tryz.cloneRow i0 (rowV M.row0) 8 64 hi hz0 hz1 hz2 rfl dC Tryz.sizeOf38 b o rs.length cap _ w h1 hm hb hc (by
   intro u hu
   obtain ⟨r,_,hr⟩:=List.mem_flatMap.1 hu
   simp only [rowL,List.mem_cons,List.not_mem_nil,or_false] at hr
   rcases hr with rfl|rfl|rfl|rfl|rfl|rfl|rfl|rfl<;>rfl)
 exact c.mono λe w' ⟨v',h1,h2,h3,h4⟩=>⟨v',h1,h2,h4⟩
theorem tabL_one {ts:List M.Table} {hs:List (Value×Value)} (h:∀p∈hs,p.1.oneCell'=true/\p.2.oneCell'=true):∀u∈tabL ts hs,u.oneCell'=true:=by
 intro u hu
 unfold tabL at hu
 obtain ⟨p,hp,hm⟩:=List.mem_flatMap.1 hu
 have:=h p.2 (List.of_mem_zip hp).2
 simp only [List.mem_cons,List.not_mem_nil,or_false] at hm
 rcases hm with rfl|rfl|rfl
 ·rfl
 ·exact this.1
 ·exact this.2
theorem TabsAtH.one {w:World} {lo:Nat} {v:Value} {ts:List M.Table} {hs:List (Value×Value)} (h:TabsAtH w lo v ts hs):∀p∈hs,p.1.oneCell'=true/\p.2.oneCell'=true:=by
 intro p hp
 obtain ⟨i,hi,rfl⟩:=List.getElem_of_mem hp
 have hl:i<ts.length:=by rw [←h.1];exact hi
 obtain ⟨k1,k2⟩:=h.2.2 i ts[i] hs[i] (List.getElem?_eq_getElem hl) (List.getElem?_eq_getElem hi)
 obtain ⟨a1,c1,e1⟩:=k1.val
 obtain ⟨a2,c2,e2⟩:=k2.val
 rw [e1,e2]
 exact ⟨rfl,rfl⟩
theorem clone_tabs1 {w:World} {lo:Nat} {v:Value} {ts:List M.Table} {hs:List (Value×Value)} (h:TabsAtH w lo v ts hs) (hne:ts≠[]) (hb:ts.length*56<=140737488355328):
  Calls Tryz.prog 69 #[v] w λe w'=>∃v',e=.returned v'/\w'.ownsRow w.heap.size 102 3 v' ts.length (tabL ts hs)/\Below w.heap.size w w':=by
 have hone:=tabL_one (ts:=ts) h.one
 obtain ⟨hlen,⟨h1,hm,a,cap,rfl,hc⟩,_⟩:=h
 have hne2:tabL ts hs≠[]:=by
  intro e
  have k1:=tabL_length ts hs hlen
  rw [e] at k1
  have k2:ts.length≠0:=λe2=>hne (List.length_eq_zero_iff.1 e2)
  simp only [List.length_nil] at k1
  omega
 obtain ⟨b,o,rfl,hl,hc⟩:=hc hne2
 obtain ⟨i0,hi,hz0,hz1,hz2⟩:=info_parts infoTable
 have c:Calls Tryz.prog 69 #[.slice (some ⟨b,o,none⟩) ts.length cap] w λe w'=>∃v',e=.returned v'/\w'.ownsRow w.heap.size 102 3 v' ts.length (tabL ts hs)/\v'≠ .slice none 0 0/\Below w.heap.size w w':=
  AnyE.slices_Clone Tryz.cloneTable i0 (.agg #[.int .i64 0,.slice none 0 0,.slice none 0 0]) 3 56 hi hz0 hz1 hz2 rfl dC Tryz.sizeOf102 b o ts.length cap _ w h1 hm hb hc hone
 exact c.mono λe w' ⟨v',h1,h2,h3,h4⟩=>⟨v',h1,h2,h4⟩
theorem clone_none (w:World) (a:Option Addr) (cap:Nat):
  Calls Tryz.prog 69 #[.slice a 0 cap] w λe w'=>∃v',e=.returned v'/\w'.ownsRow w.heap.size 102 3 v' 0 []/\Below w.heap.size w w':=by
 cases a with
 |none=>
  have c:Calls Tryz.prog 69 #[.slice none 0 cap] w λe w'=>e=.returned (.slice none 0 0)/\w'=w:=AnyE.slices_Clone_nil Tryz.cloneTable 0 cap w
  exact c.mono λe w' ⟨h1,h2⟩=>⟨_,h1,World.ownsRow_nil _ _ _ _,by rw [h2];exact Below.refl _ _⟩
 |some a=>
  have q22:∀(w:World) (a:Option Addr) (n c n' c':Nat),(binOp .eql 49 (.slice a n c) (.slice none n' c')).run Tryz.prog w=.ok (.bool a.isNone) w:=λw a n c n' c'=>Lib.run_eql_slice_nil w _ _ a n c n' c' Tryz.underlying49
  have u22:∀w,Sem.run Tryz.prog (underlying 49) w=.ok (TypeDesc.slice 102) w:=run_underlying Tryz.underlying49
  go_enter Tryz.func69,Tryz.ntmps69
  go_wp2_with fail
  go_ret
  exact ⟨_,rfl,World.ownsRow_lit w #[] 0 lR (Nat.zero_le _) rfl,(Below.refl _ w).alloc lR _⟩
theorem clone_tabs {w:World} {lo:Nat} {v:Value} {ts:List M.Table} {hs:List (Value×Value)} (h:TabsAtH w lo v ts hs) (hb:ts.length*56<=140737488355328):
  Calls Tryz.prog 69 #[v] w λe w'=>∃v',e=.returned v'/\w'.ownsRow w.heap.size 102 3 v' ts.length (tabL ts hs)/\Below w.heap.size w w':=by
 cases ts with
 |nil=>
  obtain ⟨a,cap,rfl⟩:=h.val
  exact clone_none w a cap
 |cons t ts=>exact clone_tabs1 h sS hb
def blks (vt:Value) (hs:List (Value×Value)):List Nat:=(vt::hs.flatMap λh=>[h.1,h.2]).filterMap Value.ownBlock
structure OwnTab (w:World) (base:Nat) (t:M.Table) (h:Value×Value):Prop where
 ids:w.ownsRow base 3 1 h.1 t.ids.length (t.ids.map (Value.int .i64))
 rows:w.ownsRow base 38 8 h.2 t.rows.length (t.rows.flatMap rowL)
structure OwnTabs (w:World) (base:Nat) (vt:Value) (ts:List M.Table) (hs:List (Value×Value)):Prop where
 len:hs.length=ts.length
 row:w.ownsRow base 102 3 vt ts.length (tabL ts hs)
 each:∀(i:Nat) (t:M.Table) (h:Value×Value),ts[i]?=some t->hs[i]?=some h->OwnTab w base t h
 apart:(blks vt hs).Nodup
theorem own_val {w:World} {base:Nat} {e:TypeId} {k n:Nat} {v:Value} {xs:List Value} (h:w.ownsRow base e k v n xs) (hn:0<n):∃g cap,v=.slice (some ⟨g,0,none⟩) n cap/\base<=g/\g<w.heap.size:=by
 rcases h.2 with ⟨_,h0⟩|⟨g,cap,cur,e,hb,hg,_⟩
 ·omega
 ·exact ⟨g,cap,e,hb,(Array.getElem?_eq_some_iff.1 hg).1⟩
theorem own_mono {w:World} {base base':Nat} {e:TypeId} {k n:Nat} {v:Value} {xs:List Value} (h:w.ownsRow base e k v n xs) (hb:base'<=base):w.ownsRow base' e k v n xs:=by
 refine ⟨h.1,?_⟩
 rcases h.2 with h0|⟨g,cap,cur,e,h1,r⟩
 ·exact .inl h0
 ·exact .inr ⟨g,cap,cur,e,Nat.le_trans hb h1,r⟩
theorem own_same {w w':World} {base:Nat} {e:TypeId} {k n:Nat} {v:Value} {xs:List Value} (h:w.ownsRow base e k v n xs) (hs:∀g,v.ownBlock=some g->w'.heap[g]?=w.heap[g]?):w'.ownsRow base e k v n xs:=by
 refine ⟨h.1,?_⟩
 rcases h.2 with h0|⟨g,cap,cur,rfl,h1,hg,r⟩
 ·exact .inl h0
 ·exact .inr ⟨g,cap,cur,rfl,h1,(hs g rfl).trans hg,r⟩
theorem own_below {w w':World} {base:Nat} {e:TypeId} {k n:Nat} {v:Value} {xs:List Value} (h:w.ownsRow base e k v n xs) (hb:Below w.heap.size w w'):w'.ownsRow base e k v n xs:=
 own_same h (λg hg=>hb.block g (h.lt g hg).2)
theorem own_put {w:World} {base:Nat} {e:TypeId} {k n g cap:Nat} {xs:List Value} (h:w.ownsRow base e k (.slice (some ⟨g,0,none⟩) n cap) n xs) (j:Nat) (u:Value):
  (w.setCell ⟨g,j,none⟩ u).ownsRow base e k (.slice (some ⟨g,0,none⟩) n cap) n (xs.set j u):=(World.ownsRow.stored h j u).1
theorem tabL_set (ts:List M.Table) (hs:List (Value×Value)) (i:Nat) (hl:hs.length=ts.length) (hi:i<ts.length) (p:Value×Value):
  ((tabL ts hs).set (i*3+1) p.1).set (i*3+2) p.2=tabL ts (hs.set i p):=by
 induction ts generalizing hs i with
 |nil=>simp at hi
 |cons t ts ih=>
  match hs,hl with
  |h::hs,hl=>
   rw [tabL_cons]
   match i with
   |0=>simp [tabL_cons]
   |i+1=>
    have e1:(i+1)*3+1=(i*3+1)+3:=by omega
    have e2:(i+1)*3+2=(i*3+2)+3:=by omega
    rw [e1,e2]
    simp only [List.set_cons_succ,List.length_cons] at hl hi⊢
    rw [tabL_cons,ih hs i bO bO]
theorem tabL_set_comm (ts:List M.Table) (hs:List (Value×Value)) (i:Nat) (hl:hs.length=ts.length) (hi:i<ts.length) (p:Value×Value):
  ((tabL ts hs).set (i*3+2) p.2).set (i*3+1) p.1=tabL ts (hs.set i p):=by
 rw [List.set_comm _ _ bO,tabL_set ts hs i hl hi p]
theorem blks_snoc (vt:Value) (hs:List (Value×Value)) (p:Value×Value):blks vt (hs++[p])=blks vt hs++([p.1,p.2].filterMap Value.ownBlock):=by
 unfold blks
 rw [List.flatMap_append,←List.cons_append,List.filterMap_append]
 simp
structure OwnTo (w:World) (base:Nat) (vt:Value) (ts:List M.Table) (hs hs':List (Value×Value)) (n:Nat):Prop where
 len:hs'.length=ts.length
 row:w.ownsRow base 102 3 vt ts.length (tabL ts hs')
 each:∀(i:Nat) (t:M.Table) (h:Value×Value),i<n->ts[i]?=some t->hs'[i]?=some h->OwnTab w base t h
 rest:∀i,n<=i->hs'[i]?=hs[i]?
 apart:(blks vt (hs'.take n)).Nodup
theorem mem_blks {vt:Value} {hs:List (Value×Value)} {g:Nat} (h:g∈blks vt hs):vt.ownBlock=some g\/∃p∈hs,p.1.ownBlock=some g\/p.2.ownBlock=some g:=by
 unfold blks at h
 obtain ⟨v,hv,e⟩:=List.mem_filterMap.1 h
 rcases List.mem_cons.1 hv with rfl|hv
 ·exact .inl e
 ·obtain ⟨p,hp,hm⟩:=List.mem_flatMap.1 hv
  simp only [List.mem_cons,List.not_mem_nil,or_false] at hm
  rcases hm with rfl|rfl
  ·exact .inr ⟨p,hp,.inl e⟩
  ·exact .inr ⟨p,hp,.inr e⟩
theorem OwnTo.old {w:World} {base:Nat} {vt:Value} {ts:List M.Table} {hs hs':List (Value×Value)} {n:Nat} (h:OwnTo w base vt ts hs hs' n):∀g∈blks vt (hs'.take n),base<=g/\g<w.heap.size:=by
 intro g hg
 rcases mem_blks hg with e|⟨p,hp,e⟩
 ·exact h.row.lt g e
 ·obtain ⟨i,hi,rfl⟩:=List.getElem_of_mem hp
  simp only [List.length_take] at hi
  have hl:=h.len
  have hit:i<ts.length:=by omega
  have hk:=h.each i ts[i] hs'[i] bO (List.getElem?_eq_getElem hit) (List.getElem?_eq_getElem bO)
  rw [List.getElem_take] at e
  rcases e with e|e
  ·exact hk.ids.lt g e
  ·exact hk.rows.lt g e
theorem OwnTo.step {w W:World} {base:Nat} {vt v1 v2:Value} {ts:List M.Table} {hs hs':List (Value×Value)} {n:Nat} {t:M.Table} (h:OwnTo w base vt ts hs hs' n) (ht:ts[n]?=some t)
  (hrow:W.ownsRow base 102 3 vt ts.length (tabL ts (hs'.set n (v1,v2)))) (hsame:∀g,g<w.heap.size->vt.ownBlock≠some g->W.heap[g]?=w.heap[g]?)
  (k1:W.ownsRow base 3 1 v1 t.ids.length (t.ids.map (Value.int .i64))) (k2:W.ownsRow base 38 8 v2 t.rows.length (t.rows.flatMap rowL))
  (n1:∀g,v1.ownBlock=some g->w.heap.size<=g) (n2:∀g,v2.ownBlock=some g->w.heap.size<=g) (hne:∀g,v1.ownBlock=some g->v2.ownBlock≠some g):
  OwnTo W base vt ts hs (hs'.set n (v1,v2)) (n+1):=by
 have hlt:=(List.getElem?_eq_some_iff.1 ht).1
 have hl:=h.len
 have htake:(hs'.set n (v1,v2)).take (n+1)=hs'.take n++[(v1,v2)]:=by
  rw [List.take_add_one,List.take_set_of_le bO,List.getElem?_set_self bO];rfl
 have hnd:=h.apart
 refine ⟨by simp [hl],hrow,?_,?_,?_⟩
 ·intro i t' p hi h1 h2
  rcases Nat.lt_or_ge i n with hin|hin
  ·rw [List.getElem?_set_ne bO] at h2
   have k:=h.each i t' p hin h1 h2
   have hm:p∈hs'.take n:=by
    have:(hs'.take n)[i]?=some p:=by rw [List.getElem?_take,if_pos hin];exact h2
    exact List.mem_of_getElem? this
   have hb:∀v,v=p.1\/v=p.2->∀g,v.ownBlock=some g->vt.ownBlock≠some g:=by
    intro v hv g hg e
    unfold blks at hnd
    rw [List.filterMap_cons,e] at hnd
    simp only [List.nodup_cons] at hnd
    refine hnd.1 (List.mem_filterMap.2 ⟨v,List.mem_flatMap.2 ⟨p,hm,?_⟩,hg⟩)
    rcases hv with rfl|rfl<;>simp
   exact ⟨own_same k.ids (λg hg=>hsame g (k.ids.lt g hg).2 (hb _ (.inl rfl) g hg)),own_same k.rows (λg hg=>hsame g (k.rows.lt g hg).2 (hb _ (.inr rfl) g hg))⟩
  ·obtain rfl:i=n:=by omega
   rw [List.getElem?_set_self bO] at h2
   rw [ht] at h1
   simp only [Option.some.injEq] at h1 h2
   subst h1;subst h2
   exact ⟨k1,k2⟩
 ·intro i hi
  rw [List.getElem?_set_ne bO]
  exact h.rest i bO
 ·rw [htake,blks_snoc,List.nodup_append]
  refine ⟨hnd,?_,?_⟩
  ·cases e1:v1.ownBlock<;>cases e2:v2.ownBlock<;>simp [List.filterMap_cons,e1,e2]
   rename_i a b
   intro e
   exact hne a e1 (by rw [e2,e])
  ·intro a ha b hb e
   subst e
   have:=h.old a ha
   obtain ⟨v,hv,e⟩:=List.mem_filterMap.1 hb
   simp only [List.mem_cons,List.not_mem_nil,or_false] at hv
   rcases hv with rfl|rfl
   ·have:=n1 a e;omega
   ·have:=n2 a e;omega
theorem OwnTo.done {w:World} {base:Nat} {vt:Value} {ts:List M.Table} {hs hs':List (Value×Value)} (h:OwnTo w base vt ts hs hs' ts.length):OwnTabs w base vt ts hs':=by
 refine ⟨h.len,h.row,λi t p h1 h2=>h.each i t p (List.getElem?_eq_some_iff.1 h1).1 h1 h2,?_⟩
 have:=h.apart
 rw [List.take_of_length_le (by rw [h.len];exact Nat.le_refl _)] at this
 exact this
theorem own_round {wo w5 w6:World} {B g0 gi gr n ci cr capv:Nat} {ts:List M.Table} {hs hs':List (Value×Value)} {t:M.Table} (hO:OwnTo wo B (.slice (some ⟨g0,0,none⟩) ts.length capv) ts hs hs' n) (ht:ts[n]?=some t)
  (hg0:g0<wo.heap.size) (hB:B<=wo.heap.size) (r1:w5.ownsRow wo.heap.size 3 1 (.slice (some ⟨gi,0,none⟩) t.ids.length ci) t.ids.length (t.ids.map (Value.int .i64))) (b6:Below w5.heap.size w5 w6)
  (r2:w6.ownsRow w5.heap.size 38 8 (.slice (some ⟨gr,0,none⟩) t.rows.length cr) t.rows.length (t.rows.flatMap rowL)) (hgi:wo.heap.size<=gi) (hgi2:gi<w5.heap.size) (hgr:w5.heap.size<=gr) (b6':Below wo.heap.size wo w6):
  OwnTo ((w6.setCell ⟨g0,n*3+1,none⟩ (.slice (some ⟨gi,0,none⟩) t.ids.length ci)).setCell ⟨g0,n*3+2,none⟩ (.slice (some ⟨gr,0,none⟩) t.rows.length cr)) B (.slice (some ⟨g0,0,none⟩) ts.length capv) ts hs
   (hs'.set n (.slice (some ⟨gi,0,none⟩) t.ids.length ci,.slice (some ⟨gr,0,none⟩) t.rows.length cr)) (n+1):=by
 have hlt:=(List.getElem?_eq_some_iff.1 ht).1
 have far:∀(W:World) (j:Nat) (u:Value) (g:Nat),g≠g0->(W.setCell ⟨g0,j,none⟩ u).heap[g]?=W.heap[g]?:=λW j u g hg=>bS _ _ _ _ hg
 refine hO.step ht ?_ ?_ ?_ ?_ ?_ ?_ ?_
 ·have R:=own_put (own_put (own_below hO.row b6') (n*3+1) (.slice (some ⟨gi,0,none⟩) t.ids.length ci)) (n*3+2) (.slice (some ⟨gr,0,none⟩) t.rows.length cr)
  rw [tabL_set ts hs' n hO.len hlt (.slice (some ⟨gi,0,none⟩) t.ids.length ci,.slice (some ⟨gr,0,none⟩) t.rows.length cr)] at R
  exact R
 ·intro g hg hne
  have hne':g≠g0:=λe=>hne (by simp [Value.ownBlock,e])
  rw [far _ _ _ _ hne',far _ _ _ _ hne']
  exact b6'.block g hg
 ·refine own_same (own_mono (own_below r1 b6) hB) (λg hg=>?_)
  have:g=gi:=by simpa [Value.ownBlock] using hg.symm
  rw [far _ _ _ _ bO,far _ _ _ _ bO]
 ·refine own_same (own_mono r2 bO) (λg hg=>?_)
  have:g=gr:=by simpa [Value.ownBlock] using hg.symm
  rw [far _ _ _ _ bO,far _ _ _ _ bO]
 ·intro g hg
  have:g=gi:=by simpa [Value.ownBlock] using hg.symm
  omega
 ·intro g hg
  have:g=gr:=by simpa [Value.ownBlock] using hg.symm
  omega
 ·intro g h1 h2
  have:g=gi:=by simpa [Value.ownBlock] using h1.symm
  have:g=gr:=by simpa [Value.ownBlock] using h2.symm
  omega
theorem OwnTabs.same {w W:World} {base base':Nat} {vt:Value} {ts:List M.Table} {hs:List (Value×Value)} (h:OwnTabs w base vt ts hs) (hb:base'<=base) (hs':∀g,base<=g->g<w.heap.size->W.heap[g]?=w.heap[g]?):OwnTabs W base' vt ts hs:=by
 refine ⟨h.len,own_mono (own_same h.row (λg hg=>hs' g (h.row.lt g hg).1 (h.row.lt g hg).2)) hb,λi t p h1 h2=>?_,h.apart⟩
 have k:=h.each i t p h1 h2
 exact ⟨own_mono (own_same k.ids (λg hg=>hs' g (k.ids.lt g hg).1 (k.ids.lt g hg).2)) hb,own_mono (own_same k.rows (λg hg=>hs' g (k.rows.lt g hg).1 (k.rows.lt g hg).2)) hb⟩
theorem wp_called {P:Program} {c:Code} {Q:Exit->Act->World->Prop} {a:Act} {w:World} (h:∀W,W=w->c.wp P Q a W):c.wp P Q a w:=h w rfl
theorem own_form {w:World} {base:Nat} {e:TypeId} {k n:Nat} {v:Value} {xs:List Value} (h:w.ownsRow base e k v n xs):∃a cap,v=.slice a n cap:=by
 rcases h.2 with ⟨e,h0⟩|⟨g,cap,cur,e,_⟩
 ·exact ⟨none,0,by rw [e,h0]⟩
 ·exact ⟨_,cap,e⟩
theorem ownTo_start {w:World} {base:Nat} {vt:Value} {ts:List M.Table} {hs:List (Value×Value)} (hl:hs.length=ts.length) (h:w.ownsRow base 102 3 vt ts.length (tabL ts hs)):OwnTo w base vt ts hs hs 0:=by
 refine ⟨hl,h,λi t p hi=>absurd hi (Nat.not_lt_zero _),λi _=>rfl,?_⟩
 unfold blks
 cases e:vt.ownBlock<;>simp [e]
def Short (s:M.Store):Prop:=s.tables.length*56<=140737488355328/\∀t∈s.tables,(t.ids≠[]/\t.rows≠[])/\t.ids.length*8<=140737488355328/\t.rows.length*64<=140737488355328
theorem own_calls {w:World} {lo:Nat} {v:Value} {s:M.Store} (h:StoreAt w lo v s) (hs:Short s):
  Calls Tryz.prog 42 #[v] w λe w'=>∃vt hs',e=.returned (.agg #[vt,.int .i64 s.next])/\OwnTabs w' w.heap.size vt s.tables hs'/\Below w.heap.size w w':=by
 obtain ⟨vt0,rfl,hs0,hT⟩:=h
 have HC:=hI (λW (hb:Below w.heap.size w W)=>clone_tabs (hT.below hb) hs.1)
 obtain ⟨a,cap,rfl⟩:=hT.val
 have hmx:s.tables.length<=9223372036854775807:=by have:=hT.max;unfold maxLen at this;omega
 have HT:=hI hT
 have HSH:=hI hs
 clear hT hs
 go_enter Tryz.func42,Tryz.ntmps42
 go_wp2_with fail
 refine (HC.out _ bel9).mono ?_
 rintro e w3 ⟨vt,rfl,hrow,hb3⟩
 obtain ⟨av,capv,rfl⟩:=own_form hrow
 obtain ⟨hc3,hf3⟩:=bcell hb3
 have k0:=(λo=>hc3 w.heap.size o sO)
 have k1:=(λo=>hc3 (w.heap.size+1) o sS)
 have q0:=(λo=>hf3 w.heap.size o sO)
 have q1:=(λo=>hf3 (w.heap.size+1) o sS)
 have hz3:=hb3.size
 simp only [World.size_alloc] at hz3 hrow
 have HROW:=hI hrow
 have HB3:Hid (Below w.heap.size w w3):=hI ((show Below w.heap.size w _ from bel9).trans (hb3.mono sO))
 clear hc3 hf3 hb3 hrow
 go_wp2_with fail
 refine wp_called λw4 hw4=>?_
 have hz4:w4.heap.size=w3.heap.size:=by rw [hw4];simp [World.setCell]
 have HROW4:Hid (w4.ownsRow (w.heap.size+2) 102 3 (.slice av s.tables.length capv) s.tables.length (tabL s.tables hs0)):=
  hI (by rw [hw4];exact own_same HROW.out (λg hg=>bS _ _ _ _ (by have:=(HROW.out.lt g hg).1;simp;omega)))
 have HB4:Hid (Below w.heap.size w w4):=hI (by rw [hw4];exact HB3.out.setCell lR _)
 have m0:w4.cell? ⟨w.heap.size,0,none⟩=some (.slice av s.tables.length capv):=by rw [hw4];go_simp
 have m1:w4.cell? ⟨w.heap.size,1,none⟩=some (.int .i64 s.next):=by rw [hw4];go_simp
 have m2:w4.cell? ⟨w.heap.size+1,0,none⟩=some (.slice none 0 0):=by rw [hw4];go_simp
 have m3:w4.cell? ⟨w.heap.size+1,1,none⟩=some (.int .i64 0):=by rw [hw4];go_simp
 have n2:∀o,w4.frozen? ⟨w.heap.size+1,o,none⟩=false:=by rw [hw4];intro o;rw [World.frozen?_setCell,q1];simp
 clear hw4 k0 k1 q0 q1
 go_wp2_with fail
 go_loopg [12] s.tables.length (λg i wr=>∃(n:Nat) (hs':List (Value×Value)),n<=s.tables.length/\i=.int .i64 n/\g=s.tables.length-n/\OwnTo wr (w.heap.size+2) (.slice av s.tables.length capv) s.tables hs0 hs' n/\Below (w.heap.size+2) w4 wr)
 case atStart=>exact ⟨0,hs0,Nat.zero_le _,rfl,rfl,ownTo_start HT.out.1 HROW4.out,Below.refl _ _⟩
 case round=>
  obtain ⟨wo,hwo⟩:∃wo,wo=wr:=⟨_,rfl⟩
  subst hwo
  obtain ⟨n,hs',hn,rfl,hg,hown,hbo⟩:=hrel
  have HG:=hI hg
  have HO:=hI hown
  have HBO:=hI hbo
  have HB:Hid (Below w.heap.size w wo):=hI (HB4.out.trans (hbo.mono bO))
  have hzo:=hbo.size
  have p0:=(hbo.cell (p:=⟨w.heap.size,0,none⟩) sS).trans m0
  have p1:=(hbo.cell (p:=⟨w.heap.size,1,none⟩) sS).trans m1
  have p2:=(hbo.cell (p:=⟨w.heap.size+1,0,none⟩) sS).trans m2
  have p3:=(hbo.cell (p:=⟨w.heap.size+1,1,none⟩) sS).trans m3
  have p4:=λo=>(hbo.frozen (p:=⟨w.heap.size+1,o,none⟩) sS).trans (n2 o)
  clear hg hown hbo m0 m1 m2 m3 n2
  rcases Nat.lt_or_ge n s.tables.length with hlt|hge
  ·obtain ⟨t,ht⟩:∃t,s.tables[n]?=some t:=⟨_,List.getElem?_eq_getElem hlt⟩
   obtain ⟨b,o,cap',a1,cp1,a2,cp2,e,hlo,hp,c0,c1,c2,h1,h2⟩:=HT.out.at2 ht
   obtain ⟨⟨ne1,ne2⟩,sz1,sz2⟩:=HSH.out.2 t (List.mem_of_getElem? ht)
   have CI:=hI (λW (hb:Below w.heap.size w W)=>clone_ints (h1.below hb) ne1 sz1)
   have CR:=hI (λW (hb:Below w.heap.size w W)=>clone_rows (h2.below hb) ne2 sz2)
   have L1:Hid (0<t.ids.length):=hI (List.length_pos_iff.2 ne1)
   have L2:Hid (0<t.rows.length):=hI (List.length_pos_iff.2 ne2)
   have hp':hs'[n]?=some (.slice a1 t.ids.length cp1,.slice a2 t.rows.length cp2):=(HO.out.rest n lR).trans hp
   obtain ⟨x0,x1,x2⟩:=tabL_at s.tables hs' n ht hp'
   obtain ⟨g0,cap0,e0,hg0,hg1⟩:=own_val HO.out.row bO
   obtain ⟨rfl,rfl⟩:av=some ⟨g0,0,none⟩/\capv=cap0:=by simpa using e0
   have T1:=(HO.out.row.cellAt (n*3+1) bO).trans x1
   have T2:=(HO.out.row.cellAt (n*3+2) bO).trans x2
   have TF:=λj=>HO.out.row.frozenAt j
   have HHT:=hI ht
   have hB:Below w.heap.size w wo:=HB.out
   clear e hlo hp hp' c0 c1 c2 h1 h2 x0 x1 x2 e0 ht ne1 ne2 sz1 sz2
   go_upto_region 6 with fail
   go_wp2_with fail
   go_region_with (first|(go_at_call 65;refine (CI.out _ bel9).mono ?_;rintro e w5 ⟨v1,rfl,hr1,hb5⟩;obtain ⟨gi,ci,rfl,hgi,hgi2⟩:=own_val hr1 L1.out;have hz5:=hb5.size;(try simp only [World.size_alloc,World.size_drew] at hz5 hgi);have hb5':Below wo.heap.size wo w5:=(show Below wo.heap.size wo _ from bel9).trans (hb5.mono (by first|exact Nat.le_refl _|(simp;done)|(simp;omega)|omega));have hw5:Below w.heap.size w w5:=hB.trans (hb5'.mono bO);have S15:=below_cell T1 hb5';have S25:=below_cell T2 hb5';have SF5:=(λj=>(hb5'.frozen (p:=⟨g0,j,none⟩) sO).trans (TF j)))|(go_at_call 66;refine (CR.out _ bel9).mono ?_;rintro e w6 ⟨v2,rfl,hr2,hb6⟩;obtain ⟨gr,cr,rfl,hgr,hgr2⟩:=own_val hr2 L2.out;have hz6:=hb6.size;(try simp only [World.size_alloc,World.size_drew] at hz6 hgr);have hb6':Below wo.heap.size wo w6:=(show Below wo.heap.size wo _ from bel9).trans (hb6.mono (by first|exact Nat.le_refl _|(simp;done)|(simp;omega)|omega));have hw6:Below w.heap.size w w6:=hB.trans (hb6'.mono bO);have S16:=below_cell T1 hb6';have S26:=below_cell T2 hb6';have SF6:=(λj=>(hb6'.frozen (p:=⟨g0,j,none⟩) sO).trans (TF j))))
   all_goals
    have FIN:=hI (own_round HO.out HHT.out hg1 bO hr1 hb6 hr2 hgi hgi2 hgr hb6')
    have FIB:=hI (((HBO.out.trans (hb6'.mono bO)).setCell (p:=⟨g0,n*3+1,none⟩) hg0 (.slice (some ⟨gi,0,none⟩) t.ids.length ci)).setCell (p:=⟨g0,n*3+2,none⟩) hg0 (.slice (some ⟨gr,0,none⟩) t.rows.length cr))
    clear hr1 hb5 hr2 hb6 hb6' hb5' hw5 hw6 S15 S25 SF5 S16 S26 SF6
    go_wp2_with fail
    go_roundg (s.tables.length-(n+1))
    case measure=>rw [HG.out];omega
    case rel=>exact ⟨n+1,_,by omega,by go_num,rfl,FIN.out,FIB.out⟩
  ·obtain rfl:n=s.tables.length:=by omega
   have hB:Below w.heap.size w wo:=HB.out
   go_wp2_with fail
   refine bodyPost_ret (v:=.agg #[.slice av s.tables.length capv,.int .i64 s.next]) ?_ rfl ⟨_,hs',rfl,HO.out.done.same bO ?_,bel9⟩
   ·simp only [results,Tryz.results42]
    go_simp
   ·intro g h1 h2
    rw [bS _ _ _ _ sO,bS _ _ _ _ sO]
end Go.Proofs.YtemkbjaojinaoaaGreat
