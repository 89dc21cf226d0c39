/- Several small texts in one. No condition of its own: each part says its own. -/
import Derived.Test.YtemkbjaojinaoaaGreatShort
import Derived.Test.YtemkbjaojinaoaaGreatBagW
import Derived.Test.YtemkbjaojinaoaaGreatBagO
import Derived.Test.YtemkbjaojinaoaaGreatKit
import Derived.Test.YtemkbjaojinaoaaGreatLaySweep
import Derived.Deep.LoopGhost
import Derived.StillTailTactics
import Derived.Deep.RegionHeld3
import Derived.Test.YtemkbjaojinaoaaGreatBagX7
import Derived.Test.YtemkbjaojinaoaaGreatRowCells
import Derived.Shelf.SlSortCmp.NoneTotal
import Derived.Sort.OwnSortedInts
import Derived.Test.YtemkbjaojinaoaaGreatBagSg
import Derived.Maps.AppendAt
set_option linter.unusedVariables false
set_option linter.unusedSimpArgs false
set_option maxRecDepth 100000
set_option maxHeartbeats 8000000
namespace Go.Proofs.YtemkbjaojinaoaaGreat
open Go.RowKit Go.Sort
def M.or2 (x y:Int):Int:=if x≠0 then x else y
theorem or_calls (w:World) (g:Nat) (x y:Int) (h0:w.cell? ⟨g,0,none⟩=some (.int .i64 x)) (h1:w.cell? ⟨g,1,none⟩=some (.int .i64 y)):
  Calls Tryz.prog 96 #[.slice (some ⟨g,0,none⟩) 2 2] w λe w'=>e=.returned (.int .i64 (M.or2 x y))/\w'=w:=by
 go_enter Tryz.func96,Tryz.ntmps96
 go_wp2_with fail
 go_loopg [8] 2 (λk i wr=>wr=w/\((k=2/\i=.int .i64 0)\/(k=1/\i=.int .i64 1/\x=0)\/(k=0/\i=.int .i64 2/\x=0/\y=0)))
 case atStart=>exact ⟨rfl,.inl ⟨rfl,rfl⟩⟩
 case round=>
  obtain ⟨rfl,hr⟩:=hrel
  rcases hr with ⟨rfl,rfl⟩|⟨rfl,rfl,hx⟩|⟨rfl,rfl,hx,hy⟩
  ·by_cases c:x=0
   ·have q:(x !=0)=false:=by simpa using c
    have HC:=hI c
    clear c
    go_wp2_with fail
    go_roundg 1
    case measure=>omega
    case rel=>exact ⟨rfl,.inr (.inl ⟨rfl,by go_num,HC.out⟩)⟩
   ·have q:(x !=0)=true:=by simpa using c
    go_wp2_with fail
    go_ret
    exact ⟨ret_int (by unfold M.or2;rw [if_pos c]),rfl⟩
  ·have HX:=hI hx
   clear hx
   by_cases c:y=0
   ·have q:(y !=0)=false:=by simpa using c
    have HC:=hI c
    clear c
    go_wp2_with fail
    go_roundg 0
    case measure=>omega
    case rel=>exact ⟨rfl,.inr (.inr ⟨rfl,by go_num,HX.out,HC.out⟩)⟩
   ·have q:(y !=0)=true:=by simpa using c
    go_wp2_with fail
    go_ret
    exact ⟨ret_int (by unfold M.or2;rw [if_neg (by simpa using HX.out)]),rfl⟩
  ·have HX:=hI hx
   have HY:=hI hy
   clear hx hy
   go_wp2_with fail
   go_ret
   exact ⟨ret_int (by unfold M.or2;rw [if_neg (by simpa using HX.out),HY.out]),rfl⟩
theorem compare_calls (x y:Int) (w:World):Calls Tryz.prog 97 #[.int .i64 x,.int .i64 y] w λe w'=>e=.returned (.int .i64 (Lib.compareInt x y))/\w'=w:=AnyG.cmp_Compare_int Tryz.cmpInt x y w
def M.cmpB (a b:M.Box):Int:=M.or2 (Lib.compareInt a.x1 b.x1) (Lib.compareInt a.id b.id)
def M.cmpP (p q:M.Pr):Int:=M.or2 (Lib.compareInt p.1 q.1) (Lib.compareInt p.2 q.2)
theorem grown_alloc {w W:World} (h:∃q os',W=grow (w.drewN q) os') (o:Obj):∃q os',W.alloc o=grow (w.drewN q) os':=by
 obtain ⟨q,os',rfl⟩:=h
 exact ⟨q,os'++#[o],by rw [alloc_eq_grow,grow_grow]⟩
theorem grown_drew {w W:World} (h:∃q os',W=grow (w.drewN q) os'):∃q os',W.drew=grow (w.drewN q) os':=by
 obtain ⟨q,os',rfl⟩:=h
 exact ⟨q+1,os',rfl⟩
theorem grown_refl (w:World):∃q os',w=grow (w.drewN q) os':=⟨0,#[],by rw [grow_empty];rfl⟩
theorem cmpB_calls (a b:M.Box) (w:World):
  Calls Tryz.prog 95 #[boxV a,boxV b] w λe w'=>e=.returned (.int .i64 (M.cmpB a b))/\∃q os',w'=grow (w.drewN q) os':=by
 have HC1:=hI (λW=>compare_calls a.x1 b.x1 W)
 have HC2:=hI (λW=>compare_calls a.id b.id W)
 obtain ⟨c1,e1⟩:∃c,c=Lib.compareInt a.x1 b.x1:=⟨_,rfl⟩
 obtain ⟨c2,e2⟩:∃c,c=Lib.compareInt a.id b.id:=⟨_,rfl⟩
 have hm:M.cmpB a b=M.or2 c1 c2:=by unfold M.cmpB;rw [e1,e2]
 rw [hm]
 rw [←e1] at HC1
 rw [←e2] at HC2
 clear e1 e2 hm
 go_enter Tryz.func95,Tryz.ntmps95
 go_wp2_with fail
 refine wp_called λwq hwq=>?_
 have HG:Hid (∃q os',wq.drew=grow (w.drewN q) os'):=hI (by rw [hwq];exact grown_drew (grown_alloc (grown_alloc (grown_refl w) _) _))
 have k00:wq.cell? ⟨w.heap.size,0,none⟩=some (.int .i64 a.id):=by rw [hwq];simp
 have k01:wq.cell? ⟨w.heap.size,1,none⟩=some (.int .i64 a.x1):=by rw [hwq];simp
 have k10:wq.cell? ⟨w.heap.size+1,0,none⟩=some (.int .i64 b.id):=by rw [hwq];simp
 have k11:wq.cell? ⟨w.heap.size+1,1,none⟩=some (.int .i64 b.x1):=by rw [hwq];simp
 clear hwq
 go_still_tail 10,kR
 refine wpStill_step (λK hK=>?_)
 go_simp
 refine ⟨_,(HC1.out _).mono (λe w' h=>⟨h.1,h.2⟩),hK _ ?_⟩
 clear hK K
 repeat still_step
 refine wpStill_step (λK hK=>?_)
 go_simp
 refine ⟨_,(HC2.out _).mono (λe w' h=>⟨h.1,h.2⟩),hK _ ?_⟩
 clear hK K
 repeat still_step
 refine wpStill_nil ?_
 change wpList _ _ _ _ _ wq.drew
 generalize wq.drew=W at HG⊢
 go_wp2_with (go_at_call 96;refine (or_calls _ W.heap.size c1 c2 sS sS).mono ?_;rintro e w' ⟨rfl,rfl⟩)
 go_ret
 exact ⟨rfl,grown_alloc HG.out _⟩
theorem cmpP_calls (a b:M.Pr) (w:World):
  Calls Tryz.prog 102 #[pairV a,pairV b] w λe w'=>e=.returned (.int .i64 (M.cmpP a b))/\∃q os',w'=grow (w.drewN q) os':=by
 have HC1:=hI (λW=>compare_calls a.1 b.1 W)
 have HC2:=hI (λW=>compare_calls a.2 b.2 W)
 obtain ⟨c1,e1⟩:∃c,c=Lib.compareInt a.1 b.1:=⟨_,rfl⟩
 obtain ⟨c2,e2⟩:∃c,c=Lib.compareInt a.2 b.2:=⟨_,rfl⟩
 have hm:M.cmpP a b=M.or2 c1 c2:=by unfold M.cmpP;rw [e1,e2]
 rw [hm]
 rw [←e1] at HC1
 rw [←e2] at HC2
 clear e1 e2 hm
 go_enter Tryz.func102,Tryz.ntmps102
 go_wp2_with fail
 refine wp_called λwq hwq=>?_
 have HG:Hid (∃q os',wq.drew=grow (w.drewN q) os'):=hI (by rw [hwq];exact grown_drew (grown_alloc (grown_alloc (grown_refl w) _) _))
 have k00:wq.cell? ⟨w.heap.size,0,none⟩=some (.int .i64 a.1):=by rw [hwq];simp
 have k01:wq.cell? ⟨w.heap.size,1,none⟩=some (.int .i64 a.2):=by rw [hwq];simp
 have k10:wq.cell? ⟨w.heap.size+1,0,none⟩=some (.int .i64 b.1):=by rw [hwq];simp
 have k11:wq.cell? ⟨w.heap.size+1,1,none⟩=some (.int .i64 b.2):=by rw [hwq];simp
 clear hwq
 go_still_tail 10,kR
 refine wpStill_step (λK hK=>?_)
 go_simp
 refine ⟨_,(HC1.out _).mono (λe w' h=>⟨h.1,h.2⟩),hK _ ?_⟩
 clear hK K
 repeat still_step
 refine wpStill_step (λK hK=>?_)
 go_simp
 refine ⟨_,(HC2.out _).mono (λe w' h=>⟨h.1,h.2⟩),hK _ ?_⟩
 clear hK K
 repeat still_step
 refine wpStill_nil ?_
 change wpList _ _ _ _ _ wq.drew
 generalize wq.drew=W at HG⊢
 go_wp2_with (go_at_call 96;refine (or_calls _ W.heap.size c1 c2 sS sS).mono ?_;rintro e w' ⟨rfl,rfl⟩)
 go_ret
 exact ⟨rfl,grown_alloc HG.out _⟩
end Go.Proofs.YtemkbjaojinaoaaGreat
namespace Go.Proofs.YtemkbjaojinaoaaGreat
open Go.RowKit
structure Cutting (keep:M.Box->Bool) (zs R:List M.Box) (i j:Nat):Prop where
 len:R.length=zs.length
 head:R.take i=(zs.take j).filter keep
 count:i=((zs.take j).filter keep).length
 tail:R.drop j=zs.drop j
 lt:i<j
theorem Cutting.start {keep:M.Box->Bool} {zs:List M.Box} {i:Nat} {b:M.Box} (h:zs[i]?=some b) (hb:keep b=false) (hk:∀j c,j<i->zs[j]?=some c->keep c=true):Cutting keep zs zs i (i+1):=by
 have hl:=(List.getElem?_eq_some_iff.1 h).1
 have e:(zs.take (i+1)).filter keep=zs.take i:=by
  rw [List.take_add_one,h,List.filter_append,List.filter_eq_self.2 (λc hc=>by
   obtain ⟨j,hj,e⟩:=List.getElem_of_mem hc
   rw [List.length_take] at hj
   rw [List.getElem_take] at e
   exact hk j c bO (by rw [←e];exact List.getElem?_eq_getElem bO))]
  simp [hb]
 exact ⟨rfl,e.symm,by rw [e,List.length_take];omega,rfl,by omega⟩
theorem Cutting.at_ {keep:M.Box->Bool} {zs R:List M.Box} {i j:Nat} (h:Cutting keep zs R i j) (hj:j<zs.length):R[j]?=zs[j]?:=by
 have:=congrArg (λl=>l[0]?) h.tail
 simpa using this
theorem Cutting.keep {keep:M.Box->Bool} {zs R:List M.Box} {i j:Nat} {b:M.Box} (h:Cutting keep zs R i j) (hj:zs[j]?=some b) (hb:keep b=true):Cutting keep zs (R.set i b) (i+1) (j+1):=by
 have hl:=(List.getElem?_eq_some_iff.1 hj).1
 have hlen:=h.len
 have hlt:=h.lt
 have e:(zs.take (j+1)).filter keep=(zs.take j).filter keep++[b]:=by
  rw [List.take_add_one,hj,List.filter_append];simp [hb]
 refine ⟨by rw [List.length_set];exact h.len,?_,?_,?_,by omega⟩
 ·rw [e,←h.head,List.take_add_one,List.getElem?_set_self bO]
  rw [List.take_set,List.set_eq_of_length_le (by rw [List.length_take];omega)]
  simp
 ·rw [e,List.length_append,←h.count];rfl
 ·rw [List.drop_set_of_lt bO]
  have:=congrArg (λl=>l.drop 1) h.tail
  simpa [List.drop_drop] using this
theorem Cutting.cut {keep:M.Box->Bool} {zs R:List M.Box} {i j:Nat} {b:M.Box} (h:Cutting keep zs R i j) (hj:zs[j]?=some b) (hb:keep b=false):Cutting keep zs R i (j+1):=by
 have hlt:=h.lt
 have e:(zs.take (j+1)).filter keep=(zs.take j).filter keep:=by
  rw [List.take_add_one,hj,List.filter_append];simp [hb]
 refine ⟨h.len,by rw [e];exact h.head,by rw [e];exact h.count,?_,by omega⟩
 have:=congrArg (λl=>l.drop 1) h.tail
 simpa [List.drop_drop] using this
theorem boxesL_set (rs:List M.Box) (k:Nat) (r:M.Box) (hk:k<rs.length):
  (((((rs.flatMap boxL).set (k*5) (.int .i64 r.id)).set (k*5+1) (.int .i64 r.x1)).set (k*5+2) (.int .i64 r.y1)).set (k*5+3) (.int .i64 r.x2)).set (k*5+4) (.int .i64 r.y2)=(rs.set k r).flatMap boxL:=by
 induction rs generalizing k with
 |nil=>simp at hk
 |cons a rs ih=>
  match k with
  |0=>simp [boxL]
  |k+1=>
   have e:∀j,(k+1)*5+j=(k*5+j)+5:=λj=>by omega
   have e0:(k+1)*5=k*5+5:=by omega
   simp only [e]
   rw [e0]
   have hc:∀(l:List Value) (j:Nat) (v:Value),(boxL a++l).set (j+5) v=boxL a++l.set j v:=λl j v=>by simp [boxL]
   rw [List.flatMap_cons,hc,hc,hc,hc,hc,List.set_cons_succ,List.flatMap_cons,ih k (by simpa using hk)]
theorem boxesL_take (rs:List M.Box) (m:Nat):(rs.flatMap boxL).take (m*5)=(rs.take m).flatMap boxL:=by
 induction rs generalizing m with
 |nil=>simp
 |cons a rs ih=>
  match m with
  |0=>simp
  |m+1=>
   have hl:(boxL a).length=5:=rfl
   rw [List.flatMap_cons,List.take_succ_cons,List.flatMap_cons,show (m+1)*5=(boxL a).length+m*5 by omega,List.take_length_add_append,ih]
def M.isOver (e:Int) (a:M.Box):Bool:=decide (a.x2<=e)
theorem over_calls (a:M.Box) (bx:Nat) (e:Int) (w:World) (h:w.cell? ⟨bx,1,none⟩=some (.int .i64 e)):
  Calls Tryz.prog 99 #[boxV a,.pointer (some ⟨bx,0,none⟩)] w λr w'=>r=.returned (.bool (M.isOver e a))/\Below w.heap.size w w':=by
 have hl:=cell_lt h
 go_enter Tryz.func99,Tryz.ntmps99
 go_wp2_with fail
 go_ret
 exact ⟨rfl,bel9⟩
theorem infoBox:(Tryz.prog.info? 40).map (λi=>(i.zero,i.size,i.bytes))=some (some (boxV M.box0),5,40):=by kernel_rfl
instance:Inhabited M.Box:=⟨M.box0⟩
theorem index_cases (p:M.Box->Bool) (zs:List M.Box) (n:Nat) (hn:zs.length=n):(Lib.idxBy (λ_ y=>p y) (zs.take n) default=-1/\∀b∈zs,p b=false)\/
  ∃i b,Lib.idxBy (λ_ y=>p y) (zs.take n) default=((i:Nat):Int)/\i<n/\zs[i]?=some b/\p b=true/\∀j c,j<i->zs[j]?=some c->p c=false:=by
 subst hn
 rw [List.take_length]
 unfold Lib.idxBy
 have h:∀(l:List M.Box) (k:Nat),(Lib.idxByFrom (λ_ y=>p y) default l k=-1/\∀b∈l,p b=false)\/
   ∃i b,Lib.idxByFrom (λ_ y=>p y) default l k=((k+i:Nat):Int)/\i<l.length/\l[i]?=some b/\p b=true/\∀j c,j<i->l[j]?=some c->p c=false:=by
  intro l
  induction l with
  |nil=>intro k;exact .inl ⟨rfl,by simp⟩
  |cons a l ih=>
   intro k
   cases hp:p a
   ·rcases ih (k+1) with ⟨h1,h2⟩|⟨i,b,h1,h2,h3,h4,h5⟩
    ·refine .inl ⟨by simp only [Lib.idxByFrom,hp];exact h1,?_⟩
     intro b hb
     rcases List.mem_cons.1 hb with rfl|hb
     ·exact hp
     ·exact h2 b hb
    ·refine .inr ⟨i+1,b,?_,by simp;omega,by simpa using h3,h4,?_⟩
     ·simp only [Lib.idxByFrom,hp]
      show Lib.idxByFrom (λ_ y=>p y) default l (k+1)=_
      rw [h1];omega
     ·intro j c hj hc
      cases j with
      |zero=>simp only [List.getElem?_cons_zero,Option.some.injEq] at hc;subst hc;exact hp
      |succ j=>exact h5 j c bO (by simpa using hc)
   ·exact .inr ⟨0,a,by simp [Lib.idxByFrom,hp],by simp,rfl,hp,λj c hj=>absurd hj (Nat.not_lt_zero _)⟩
 rcases h zs 0 with h|⟨i,b,h1,h2⟩
 ·exact .inl h
 ·exact .inr ⟨i,b,by rw [h1,Nat.zero_add],h2⟩
theorem index_calls_box {w:World} {g n cap bx:Nat} {zs:List M.Box} {e:Int} (hn:zs.length=n) (hm:n<=maxLen) (hg:g<w.heap.size) (hz:∀j u,(zs.flatMap boxL)[j]?=some u->w.cell? ⟨g,j,none⟩=some u) (hb:w.cell? ⟨bx,1,none⟩=some (.int .i64 e)):
  Calls Tryz.prog 122 #[.slice (some ⟨g,0,none⟩) n cap,.func (.func 99) #[] #[.pointer (some ⟨bx,0,none⟩)]] w λr w'=>
   r=.returned (.int .i64 (Lib.idxBy (λ_ y=>M.isOver e y) (zs.take n) default))/\Below w.heap.size w w':=by
 have eg:∀args w,(callFunc 99 args).run Tryz.prog w=.ok (.enter 99 args) w:=enters_of Tryz.func99 kR rfl
 exact AnyQ.slices_IndexFunc Tryz.indexBox 5 Tryz.isAgg40 Tryz.sizeOf40 boxL (λ_=>rfl) (M.isOver e) 99 #[.pointer (some ⟨bx,0,none⟩)] eg g 0 n cap zs w
  (λW x hbl=>(over_calls x bx e W (below_cell hb hbl)).mono λ_ _ ⟨h1,h2⟩=>⟨h1,hbl.trans (h2.mono hbl.size)⟩) bO (by unfold maxLen at hm;omega) hg (λj hj i v hi=>by
   have h1:zs[j]?=some zs[j]! :=by rw [List.getElem?_eq_getElem hj,getElem!_pos zs j hj]
   have hi5:i<5:=(List.getElem?_eq_some_iff.1 hi).1
   have:=hz (j*5+i) v ((flat_at boxL 5 (λ_=>rfl) zs j i h1 hi5).trans hi)
   rw [Nat.zero_add]
   exact this)
theorem deleteFunc_calls {w:World} {base g n cap bx:Nat} {zs:List M.Box} {e:Int} (h:w.ownsRow base 40 5 (.slice (some ⟨g,0,none⟩) n cap) n (zs.flatMap boxL)) (hlen:zs.length=n) (hb:w.cell? ⟨bx,1,none⟩=some (.int .i64 e)) (hne:bx≠g):
  Calls Tryz.prog 98 #[.slice (some ⟨g,0,none⟩) n cap,.func (.func 99) #[] #[.pointer (some ⟨bx,0,none⟩)]] w λr w'=>
   r=.returned (.slice (some ⟨g,0,none⟩) (zs.filter λa=> !M.isOver e a).length cap)/\w'.ownsRow base 40 5 (.slice (some ⟨g,0,none⟩) (zs.filter λa=> !M.isOver e a).length cap) (zs.filter λa=> !M.isOver e a).length ((zs.filter λa=> !M.isOver e a).flatMap boxL)/\w.grownBy w' (some g):=by
 have hg:g<w.heap.size:=(h.lt g rfl).2
 obtain ⟨hcap,hcm⟩:n<=cap/\cap<=maxLen:=by
  rcases h.2 with ⟨e',_⟩|⟨g',cap',cur,e',hbg,hgg,hnc,hcm,hcs,htk⟩
  ·simp at e'
  ·simp only [Value.slice.injEq,Option.some.injEq,Addr.mk.injEq,and_true,true_and] at e'
   obtain ⟨rfl,rfl⟩:=e'
   exact ⟨hnc,hcm⟩
 have hc63:cap<=9223372036854775807:=by unfold maxLen at hcm;omega
 have hbl:=cell_lt hb
 have HIX:=index_calls_box (cap:=cap) hlen bO hg (λj u hu=>by
  have hj:j<n*5:=by rw [←hlen,←boxes_len];exact (List.getElem?_eq_some_iff.1 hu).1
  exact (h.cellAt j hj).trans hu) hb
 have HO:=hI h
 have HB:=hI hb
 rcases index_cases (M.isOver e) zs n hlen with ⟨hi,hall⟩|⟨i0,b0,hi,hi0,hb0,hp0,hbefore⟩
 ·rw [hi] at HIX
  have HI:=hI HIX
  have hf:(zs.filter λa=> !M.isOver e a)=zs:=List.filter_eq_self.2 (λa ha=>by rw [hall a ha];rfl)
  rw [hf,hlen]
  clear h hb hi hall hf HIX
  go_enter Tryz.func98,Tryz.ntmps98
  go_wp2_with (go_at_call 122;refine HI.out.mono ?_;rintro r w1 ⟨rfl,hb1⟩)
  go_ret
  exact ⟨rfl,own_below HO.out hb1,⟨hb1.os,hb1.tape,hb1.output,hb1.size,λk hk _=>hb1.block k hk⟩⟩
 ·rw [hi] at HIX
  have HI:=hI HIX
  have HCUT:=hI (Cutting.start (keep:=λa=> !M.isOver e a) hb0 (by rw [hp0];rfl) (λj c hj hc=>by rw [hbefore j c hj hc];rfl))
  clear h hb hi HIX hb0 hp0 hbefore
  go_enter Tryz.func98,Tryz.ntmps98
  go_wp2_with (go_at_call 122;refine HI.out.mono ?_;rintro r w1 ⟨rfl,hb1⟩)
  go_loopg [5,6] (n-(i0+1)) (λk vi vj wr=>∃(i j:Nat) (R:List M.Box),vi=.int .i64 i/\vj=.int .i64 j/\k=n-j/\j<=n/\Cutting (λa=> !M.isOver e a) zs R i j/\wr.ownsRow base 40 5 (.slice (some ⟨g,0,none⟩) n cap) n (R.flatMap boxL)/\w.grownBy wr (some g))
  case atStart=>
   exact ⟨i0,i0+1,zs,rfl,by go_num,rfl,by omega,HCUT.out,own_below HO.out hb1,⟨hb1.os,hb1.tape,hb1.output,hb1.size,λk hk _=>hb1.block k hk⟩⟩
  case round=>
   obtain ⟨wo,hwo⟩:∃wo,wo=wr:=⟨_,rfl⟩
   subst hwo
   obtain ⟨i,j,R,rfl,rfl,hk,hj,hcut,hown,hgrow⟩:=hrel
   have HC:=hI hcut
   have HW:=hI hown
   have HG:=hI hgrow
   have HK:=hI hk
   have gs:=hgrow.size
   have bc:=hgrow.cell HB.out sO
   have hRl:=hcut.len
   have hilt:=hcut.lt
   have hgl:g<wo.heap.size:=by omega
   clear hk
   rcases Nat.lt_or_ge j n with hlt|hge
   ·obtain ⟨b,hbj⟩:∃b,zs[j]?=some b:=⟨_,List.getElem?_eq_getElem bO⟩
    have hRj:R[j]?=some b:=(hcut.at_ bO).trans hbj
    have kc:∀k,k<5->wo.cell? ⟨g,j*5+k,none⟩=(boxL b)[k]?:=λk hk=>(hown.cellAt (j*5+k) bO).trans (flat_at boxL 5 (λ_=>rfl) R j k hRj hk)
    have k0:=kc 0 bO
    have k1:=kc 1 bO
    have k2:=kc 2 bO
    have k3:=kc 3 bO
    have k4:=kc 4 bO
    simp only [boxL,Nat.add_zero,List.getElem?_cons_zero,List.getElem?_cons_succ] at k0 k1 k2 k3 k4
    have HBJ:=hI hbj
    clear hcut hown hgrow kc hRj
    cases hq:M.isOver e b
    ·have HOV:Hid (∀W,Below wo.heap.size wo W->Calls Tryz.prog 99 #[boxV b,.pointer (some ⟨bx,0,none⟩)] W λr w'=>r=.returned (.bool false)/\Below W.heap.size W w'):=hI (λW hW=>by
      have:=over_calls b bx e W (below_cell bc hW)
      rw [hq] at this;exact this)
     have HQ:=hI hq
     obtain ⟨c,hci⟩:∃c,R[i]?=some c:=⟨_,List.getElem?_eq_getElem bO⟩
     have HCI:=hI hci
     clear hq hbj hci
     go_wp2_with (go_at_call 99;refine (HOV.out _ bel9).mono ?_;rintro r w2 ⟨rfl,hb2⟩;have K2:Below wo.heap.size wo w2:=(show Below wo.heap.size wo _ from bel9).trans (hb2.mono sid9);have kz2:=K2.size;have HW2:=hI (own_below HW.out K2);have bb:Blk w2 wo.heap.size 40 (boxC b):=(by apply blk_to;(repeat first|with_reducible apply Blk.below (hb:=hb2) (hg:=sid9)|with_reducible exact Blk.new_at (h:=rO));rfl);have b0:=bb.cell 0;have b1:=bb.cell 1;have b2:=bb.cell 2;have b3:=bb.cell 3;have b4:=bb.cell 4;simp at b0 b1 b2 b3 b4;have bl:=bb.lt;have pc:∀k,k<5->w2.cell? ⟨g,i*5+k,none⟩=(boxL c)[k]?:=(λk hk=>(HW2.out.cellAt (i*5+k) bO).trans (flat_at boxL 5 (λ_=>rfl) R i k HCI.out hk));have p0:=pc 0 bO;have p1:=pc 1 bO;have p2:=pc 2 bO;have p3:=pc 3 bO;have p4:=pc 4 bO;simp only [boxL,Nat.add_zero,List.getElem?_cons_zero,List.getElem?_cons_succ] at p0 p1 p2 p3 p4;clear pc;have TF:=(λj=>HW2.out.frozenAt j);have hgl2:g<w2.heap.size:=bO)
     go_roundg (n-(j+1))
     case measure=>rw [HK.out];omega
     case rel=>
      have P:=own_put (own_put (own_put (own_put (own_put HW2.out (i*5) (.int .i64 b.id)) (i*5+1) (.int .i64 b.x1)) (i*5+2) (.int .i64 b.y1)) (i*5+3) (.int .i64 b.x2)) (i*5+4) (.int .i64 b.y2)
      rw [boxesL_set R i b bO] at P
      refine ⟨i+1,j+1,R.set i b,by go_num,by go_num,rfl,by omega,HC.out.keep HBJ.out (by rw [HQ.out];rfl),P,?_⟩
      have G2:w.grownBy w2 (some g):=⟨K2.os.trans HG.out.os,K2.tape.trans HG.out.tape,K2.output.trans HG.out.output,by have:=HG.out.size;omega,λk hk hne=>(K2.block k bO).trans (HG.out.block k hk hne)⟩
      have far:∀(U:World) (j:Nat) (u:Value),w.grownBy U (some g)->w.grownBy (U.setCell ⟨g,j,none⟩ u) (some g):=λU j u hU=>⟨hU.os,hU.tape,hU.output,by have:=hU.size;simpa [World.setCell] using this,λk hk hne=>(bS _ _ _ _ (by intro e;exact hne (by rw [e]))).trans (hU.block k hk hne)⟩
      exact far _ _ _ (far _ _ _ (far _ _ _ (far _ _ _ (far _ _ _ G2))))
    ·have HOV:Hid (∀W,Below wo.heap.size wo W->Calls Tryz.prog 99 #[boxV b,.pointer (some ⟨bx,0,none⟩)] W λr w'=>r=.returned (.bool true)/\Below W.heap.size W w'):=hI (λW hW=>by
      have:=over_calls b bx e W (below_cell bc hW)
      rw [hq] at this;exact this)
     have HQ:=hI hq
     clear hq hbj
     go_wp2_with (go_at_call 99;refine (HOV.out _ bel9).mono ?_;rintro r w2 ⟨rfl,hb2⟩;have K2:Below wo.heap.size wo w2:=(show Below wo.heap.size wo _ from bel9).trans (hb2.mono sid9))
     go_roundg (n-(j+1))
     case measure=>rw [HK.out];omega
     case rel=>exact ⟨i,j+1,R,rfl,by go_num,rfl,by omega,HC.out.cut HBJ.out (by rw [HQ.out];rfl),own_below HW.out K2,⟨K2.os.trans HG.out.os,K2.tape.trans HG.out.tape,K2.output.trans HG.out.output,by have:=K2.size;omega,λk hk hne=>(K2.block k bO).trans (HG.out.block k hk hne)⟩⟩
   ·obtain rfl:j=n:=by omega
    have hcnt:=hcut.count
    have hhead:=hcut.head
    have hzl:zs.take j=zs:=List.take_of_length_le bO
    rw [hzl] at hcnt hhead
    have HH:=hI hhead
    have HCN:=hI hcnt
    clear hcut hown hgrow hhead hcnt bc
    rcases HW.out.2 with ⟨e',_⟩|⟨g',cap',cur,e',hbg,hgg,hnc,hcm',hcs,htk⟩
    ·simp at e'
    simp only [Value.slice.injEq,Option.some.injEq,Addr.mk.injEq,and_true,true_and] at e'
    obtain ⟨rfl,rfl⟩:=e'
    have hcl:cur.toList.length=cap*5:=by simpa using hcs
    obtain ⟨z0,hz0⟩:∃z,z=(Builtin.zeroCells (boxV M.box0).cells (j-i)).toList:=⟨_,rfl⟩
    have hzl0:z0.length=(j-i)*5:=by
     rw [hz0,Array.length_toList,size_zeroCells];rfl
    have hfit:i*5+z0.length<=cap*5:=by rw [hzl0];omega
    obtain ⟨R2,hR2⟩:∃R2,R2=(cur.toList.take (i*5)++z0++cur.toList.drop (i*5+z0.length)).toArray:=⟨_,rfl⟩
    have hR2s:R2.size=cap*5:=by
     rw [hR2]
     simp only [List.size_toArray,List.length_append,List.length_take,List.length_drop,hcl]
     omega
    have HCR:Hid (∀ty dc,(Builtin.clear_ #[80] ty #[.slice (some ⟨g,i*5,none⟩) (j-i) dc]).run Tryz.prog wo=.ok (.tuple #[]) (wo.setRow g R2)):=hI (λty dc=>by
     have c:=run_clear_k (P:=Tryz.prog) wo 80 40 ty _ Tryz.underlying80 Tryz.zeroValue40 g (i*5) (j-i) dc bO cur 40 z0 hz0.symm hgg (by rw [hcs];exact hfit) (by
      intro v hv
      rw [hz0] at hv
      have hv2:v=.int .i64 0:=by
       simp only [Builtin.zeroCells,boxV,Value.cells,M.box0] at hv
       simp at hv
       obtain ⟨k,hk,hv⟩:=hv
       rw [←hv]
       have h5:k % 5<5:=Nat.mod_lt _ bO
       generalize k % 5=q at h5
       rcases (show q=0\/q=1\/q=2\/q=3\/q=4 by omega) with rfl|rfl|rfl|rfl|rfl<;>rfl
      rw [hv2];rfl)
     rw [←hR2] at c
     exact c)
    have HF:Hid ((wo.setRow g R2).ownsRow base 40 5 (.slice (some ⟨g,0,none⟩) i cap) i ((zs.filter λa=> !M.isOver e a).flatMap boxL)/\w.grownBy (wo.setRow g R2) (some g)):=hI (by
     refine ⟨⟨?_,.inr ⟨g,cap,R2,rfl,hbg,setRow_heap wo g cur R2 _ _ hgg,by omega,hcm,hR2s,?_⟩⟩,⟨HG.out.os,HG.out.tape,HG.out.output,?_,?_⟩⟩
     ·rw [boxes_len,←HCN.out]
     ·rw [hR2,←HH.out,←boxesL_take,←htk,List.take_take,Nat.min_eq_left bO]
      simp only [List.append_assoc]
      rw [List.take_append_of_le_length (by rw [List.length_take,hcl];omega),List.take_take,Nat.min_self]
     ·have:=HG.out.size;simpa [World.setRow] using this
     ·intro k hk hne'
      have hk':k≠g:=λe=>hne' (by rw [e])
      rw [setRow_other _ g k _ hk']
      exact HG.out.block k hk hne')
    clear hcl hz0 hzl0 hfit hR2 hR2s htk hgg hcs HH
    go_wp2_with (refine wpList_clear_run _ rfl _ 80 rfl _ rfl (HCR.out _ _) ?_)
    go_ret
    rw [←HCN.out]
    exact ⟨rfl,HF.out⟩
end Go.Proofs.YtemkbjaojinaoaaGreat
namespace Go.Proofs.YtemkbjaojinaoaaGreat
open Go.RowKit Go.Sort Go.Lib
section
variable {w:World} {g m n cap k base:Nat} {e:TypeId} {os:Array Obj} {cur:Array Value}
theorem laid_block (F:Array Value) (hb:w.heap[g]?=some (.cells cur e (0,0))):(grow (putRow id (Sort.ahead w m) g 0 F) os).heap[g]?=some (.cells (putCells id 0 F cur) e (0,0)):=by
 have hg:=(Array.getElem?_eq_some_iff.1 hb).1
 rw [heap_grow_old _ _ (by simpa using hg)]
 simp [putRow,mapBlock,Sort.ahead,Array.getElem?_modify,hb,onCells]
theorem laid_grown (F:Array Value):w.grownBy (grow (putRow id (Sort.ahead w m) g 0 F) os) (some g):=by
 refine ⟨rfl,rfl,rfl,by simp,λj hj hne=>?_⟩
 rw [heap_grow_old _ _ (by simpa using hj)]
 have:g≠j:=λx=>hne (by rw [x])
 simp [putRow,mapBlock,Sort.ahead,Array.getElem?_modify,this]
theorem laid_take (F:Array Value) (h:F.size<=cur.size):(putCells id 0 F cur).toList.take F.size=F.toList:=by
 apply List.ext_getElem?
 intro j
 by_cases hj:j<F.size
 ·rw [List.getElem?_take_of_lt hj,Array.getElem?_toList]
  simp [putCells,hj,show j<cur.size by omega]
 ·rw [List.getElem?_take_eq_none bO,List.getElem?_eq_none sO]
theorem laid_owns (F:Array Value) (hF:F.size=n*k) (hbase:base<=g) (hb:w.heap[g]?=some (.cells cur e (0,0))) (h1:n<=cap) (h2:cap<=maxLen) (h3:cur.size=cap*k):
  (grow (putRow id (Sort.ahead w m) g 0 F) os).ownsRow base e k (.slice (some ⟨g,0,none⟩) n cap) n F.toList:=
 ⟨by simp [hF],.inr ⟨g,cap,_,rfl,hbase,laid_block F hb,h1,h2,by simp [putCells,h3],by rw [←hF];exact laid_take F (by rw [hF,h3];exact Nat.mul_le_mul_right _ h1)⟩⟩
theorem laid_holds {F:List Value} (hb:w.heap[g]?=some (.cells cur e (0,0))) (ht:cur.toList.take F.length=F):Holds id w g 0 F.toArray:=by
 intro j hj
 have hj':j<F.length:=by simpa using hj
 refine ⟨?_,by simp [World.frozen?,hb]⟩
 have h1:(cur.toList.take F.length)[j]?=F[j]?:=by rw [ht]
 rw [List.getElem?_take_of_lt hj'] at h1
 simp only [World.cell?,hb,Nat.zero_add]
 simp only [Option.isSome_none,Bool.false_eq_true,if_false]
 rw [←Array.getElem?_toList,h1]
 simp [hj']
end
theorem flatK_eq {α:Type} [Inhabited α] (enc:α->List Value) (k:Nat) (hk:∀x,(enc x).length=k) (d:Array α):flatK enc k d=(d.toList.flatMap enc).toArray:=by
 have hl:=flat_len enc k hk d.toList
 refine ext_get! (by simp [hl]) λt ht=>?_
 have ht':t<d.size*k:=by simpa using ht
 have k0:0<k:=by
  rcases Nat.eq_zero_or_pos k with h|h; · subst h;simp at ht'
  ·exact h
 rw [get_flatK _ _ _ t ht']
 have hd:t / k<d.size:=by rw [Nat.div_lt_iff_lt_mul k0];exact ht'
 have hr:t % k<k:=Nat.mod_lt _ k0
 have h1:=flat_at enc k hk d.toList (t / k) (t % k) (x:=d[t / k]!) (by rw [Array.getElem?_toList,Array.getElem?_eq_getElem hd,getElem!_pos d _ hd]) hr
 rw [show t / k*k+t % k=t by rw [Nat.mul_comm];exact Nat.div_add_mod t k] at h1
 have h2:(enc d[t / k]!)[t % k]?=some (enc d[t / k]!)[t % k]! :=by rw [List.getElem?_eq_getElem (by rw [hk];exact hr),getElem!_pos (enc d[t / k]!) _ (by rw [hk];exact hr)]
 rw [h2] at h1
 have h3:t<(d.toList.flatMap enc).length:=by rw [hl];simpa using ht'
 rw [getElem!_pos _ t (by simpa using h3)]
 have:=(List.getElem?_eq_some_iff.1 h1).2
 simp [this]
theorem perm_list {α:Type} [Inhabited α] {d d':Array α} (h:PermIn 0 d.size d d'):d'.toList.Perm d.toList:=by
 obtain ⟨h1,_,h3⟩:=h
 have e1:d'.extract 0 d.size=d':=by rw [←h1];simp
 have e2:d.extract 0 d.size=d:=by simp
 rw [e1,e2] at h3
 exact h3
theorem sorted_list {α:Type} [Inhabited α] {lt:α->α->Bool} {d':Array α} (h:SortedIn lt 0 d'.size d'):d'.toList.Pairwise (λa b=>lt b a=false):=by
 rw [List.pairwise_iff_getElem]
 intro i j hi hj hij
 have hi':i<d'.size:=by simpa using hi
 have hj':j<d'.size:=by simpa using hj
 have:=h i j (Nat.zero_le _) hij hj'
 rw [getElem!_pos d' i hi',getElem!_pos d' j hj'] at this
 simpa using this
theorem M.or2_lt (a b c d:Int):M.or2 (Lib.compareInt a b) (Lib.compareInt c d)<0↔a<b\/(a=b/\c<d):=by
 unfold M.or2 Lib.compareInt
 (repeat' split)<;>omega
theorem ltB (x y:M.Box):ltOf M.cmpB x y=decide (x.x1<y.x1\/(x.x1=y.x1/\x.id<y.id)):=by
 unfold ltOf M.cmpB
 rw [decide_eq_decide]
 exact M.or2_lt _ _ _ _
theorem ltP (x y:M.Pr):ltOf M.cmpP x y=decide (x.1<y.1\/(x.1=y.1/\x.2<y.2)):=by
 unfold ltOf M.cmpP
 rw [decide_eq_decide]
 exact M.or2_lt _ _ _ _
instance inhBox:Inhabited M.Box:=⟨⟨0,0,0,0,0⟩⟩
theorem swoB:SWO (ltOf M.cmpB) where
 irrefl x:=by rw [ltB];simp
 trans x y z h1 h2:=by rw [ltB,decide_eq_true_eq] at *;omega
 ntrans x y z h1 h2:=by rw [ltB,decide_eq_false_iff_not] at *;omega
theorem swoP:SWO (ltOf M.cmpP) where
 irrefl x:=by rw [ltP];simp
 trans x y z h1 h2:=by rw [ltP,decide_eq_true_eq] at *;omega
 ntrans x y z h1 h2:=by rw [ltP,decide_eq_false_iff_not] at *;omega
theorem sortB_own {w:World} {base:Nat} {v:Value} {zs:List M.Box} (h:w.ownsRow base 40 5 v zs.length (zs.flatMap boxL)) (hz:zs.length<4611686018427387904):
  Calls Tryz.prog 94 #[v,.func (.func 95) #[] #[]] w λe w'=>e=.returned (.tuple #[])/\
   ∃zs':List M.Box,zs'.Perm zs/\zs'.Pairwise (λa b=>a.x1<=b.x1)/\w'.ownsRow base 40 5 v zs.length (zs'.flatMap boxL)/\w.grownBy w' v.ownBlock:=by
 rcases h.2 with ⟨rfl,h0⟩|⟨g,cap,cur,rfl,hg,hb,hn,hm,hs,ht⟩
 ·have e0:zs=[]:=List.length_eq_zero_iff.1 h0
  subst e0
  have c:Calls Tryz.prog 94 #[.slice none 0 0,.func (.func 95) #[] #[]] w λe w'=>e=.returned (.tuple #[])/\w'=w:=AnyF.slices_SortFunc_none Tryz.sortBox none 0 _ w
  exact c.mono λe w' ⟨h1,h2⟩=>⟨h1,[],List.Perm.refl _,List.Pairwise.nil,by rw [h2];exact World.ownsRow_nil w base _ 5,by rw [h2];exact World.grownBy.refl w _⟩
 ·have hgl:g<w.heap.size:=(Array.getElem?_eq_some_iff.1 hb).1
  have eg:∀args w,(callFunc 95 args).run Tryz.prog w=.ok (.enter 95 args) w:=enters_of Tryz.func95 kR rfl
  have hH:HoldsK boxL 5 w g 0 zs.toArray:=by
   unfold HoldsK
   rw [flatK_eq boxL 5 (λ_=>rfl)]
   exact laid_holds hb (by rw [h.1];exact ht)
  have c:Calls Tryz.prog 94 #[.slice (some ⟨g,0,none⟩) zs.toArray.size cap,.func (.func 95) #[] #[]] w λe w'=>
   e=.returned (.tuple #[])/\∃d' n os,PermIn 0 zs.toArray.size zs.toArray d'/\SortedIn (ltOf M.cmpB) 0 zs.toArray.size d'/\w'=sortWorldK boxL 5 w g 0 n d' os:=
   AnyQ.slices_SortFunc Tryz.sortBox 5 Tryz.isAgg40 Tryz.sizeOf40 boxL (λ_=>rfl) (λx v hv=>boxes_one [x] v (by simpa using hv)) M.cmpB swoB 95 #[] g 0 cap zs.toArray w eg
    (λ_ _ _ _ x y=>cmpB_calls x y _) hH hgl (by simpa using hz)
  rw [List.size_toArray] at c
  refine c.mono λe w' ⟨h1,d',n,os,hp,hsd,hw⟩=>⟨h1,d'.toList,?_,?_,?_,?_⟩
  ·have:=perm_list (d:=zs.toArray) (d':=d') (by simpa using hp)
   simpa using this
  ·have hd:d'.size=zs.length:=by simpa using hp.1
   have:=sorted_list (lt:=ltOf M.cmpB) (d':=d') (by rw [hd];exact hsd)
   exact this.imp (λ{a b} hab=>by rw [ltB,decide_eq_false_iff_not] at hab;omega)
  ·have hd:d'.size=zs.length:=by simpa using hp.1
   rw [hw]
   unfold sortWorldK putRowK
   rw [flatK_eq boxL 5 (λ_=>rfl)]
   exact laid_owns (d'.toList.flatMap boxL).toArray (by rw [List.size_toArray,boxes_len,Array.length_toList,hd]) hg hb hn hm hs
  ·rw [hw]
   exact laid_grown _
theorem sortP_own {w:World} {base:Nat} {v:Value} {zs:List M.Pr} (h:w.ownsRow base 71 2 v zs.length (zs.flatMap pairL)) (hz:zs.length<4611686018427387904):
  Calls Tryz.prog 101 #[v,.func (.func 102) #[] #[]] w λe w'=>e=.returned (.tuple #[])/\
   w'.ownsRow base 71 2 v zs.length ((M.sortP zs).flatMap pairL)/\w.grownBy w' v.ownBlock:=by
 rcases h.2 with ⟨rfl,h0⟩|⟨g,cap,cur,rfl,hg,hb,hn,hm,hs,ht⟩
 ·have e0:zs=[]:=List.length_eq_zero_iff.1 h0
  subst e0
  have c:Calls Tryz.prog 101 #[.slice none 0 0,.func (.func 102) #[] #[]] w λe w'=>e=.returned (.tuple #[])/\w'=w:=AnyF.slices_SortFunc_none Tryz.sortPair none 0 _ w
  exact c.mono λe w' ⟨h1,h2⟩=>⟨h1,by rw [h2];simpa [M.sortP] using World.ownsRow_nil w base 71 2,by rw [h2];exact World.grownBy.refl w _⟩
 ·have hgl:g<w.heap.size:=(Array.getElem?_eq_some_iff.1 hb).1
  have eg:∀args w,(callFunc 102 args).run Tryz.prog w=.ok (.enter 102 args) w:=enters_of Tryz.func102 kR rfl
  have hH:HoldsK pairL 2 w g 0 zs.toArray:=by
   unfold HoldsK
   rw [flatK_eq pairL 2 (λ_=>rfl)]
   exact laid_holds hb (by rw [h.1];exact ht)
  have c:Calls Tryz.prog 101 #[.slice (some ⟨g,0,none⟩) zs.toArray.size cap,.func (.func 102) #[] #[]] w λe w'=>
   e=.returned (.tuple #[])/\∃d' n os,PermIn 0 zs.toArray.size zs.toArray d'/\SortedIn (ltOf M.cmpP) 0 zs.toArray.size d'/\w'=sortWorldK pairL 2 w g 0 n d' os:=
   AnyQ.slices_SortFunc Tryz.sortPair 2 Tryz.isAgg71 Tryz.sizeOf71 pairL (λ_=>rfl) (λx v hv=>pairs_one [x] v (by simpa using hv)) M.cmpP swoP 102 #[] g 0 cap zs.toArray w eg
    (λ_ _ _ _ x y=>cmpP_calls x y _) hH hgl (by simpa using hz)
  rw [List.size_toArray] at c
  refine c.mono λe w' ⟨h1,d',n,os,hp,hsd,hw⟩=>⟨h1,?_,?_⟩
  ·have hd:d'.size=zs.length:=by simpa using hp.1
   have hpl:d'.toList.Perm zs:=by have:=perm_list (d:=zs.toArray) (d':=d') (by simpa using hp);simpa using this
   have hsl:=sorted_list (lt:=ltOf M.cmpP) (d':=d') (by rw [hd];exact hsd)
   have he:d'.toList=M.sortP zs:=M.sortP_of hpl (hsl.imp (λ{a b} hab=>by rw [ltP,decide_eq_false_iff_not] at hab;rw [M.leP_iff];omega))
   rw [hw,←he]
   unfold sortWorldK putRowK
   rw [flatK_eq pairL 2 (λ_=>rfl)]
   exact laid_owns (d'.toList.flatMap pairL).toArray (by rw [List.size_toArray,pairs_len,Array.length_toList,hd]) hg hb hn hm hs
  ·rw [hw]
   exact laid_grown _
end Go.Proofs.YtemkbjaojinaoaaGreat
namespace Go.Proofs.YtemkbjaojinaoaaGreat
open Go.RowKit Go.Maps
theorem meetB_calls (a b:M.Box) (w:World):
  Calls Tryz.prog 51 #[boxV a,boxV b] w λe w'=>e=.returned (.bool (M.meetB a b))/\Below w.heap.size w w':=by
 obtain ⟨q1,h1⟩:∃q,q=decide (a.x1<b.x2):=⟨_,rfl⟩
 obtain ⟨q2,h2⟩:∃q,q=decide (b.x1<a.x2):=⟨_,rfl⟩
 obtain ⟨q3,h3⟩:∃q,q=decide (a.y1<b.y2):=⟨_,rfl⟩
 obtain ⟨q4,h4⟩:∃q,q=decide (b.y1<a.y2):=⟨_,rfl⟩
 have hm:M.meetB a b=(q1 && (q2 && (q3 && q4))):=by rw [h1,h2,h3,h4];rfl
 rw [hm]
 clear hm
 have e1:=h1.symm
 have e2:=h2.symm
 have e3:=h3.symm
 have e4:=h4.symm
 clear h1 h2 h3 h4
 cases q1
 ·go_enter Tryz.func51,Tryz.ntmps51
  go_wp2_with fail
  go_ret
  exact ⟨rfl,bel9⟩
 cases q2
 ·go_enter Tryz.func51,Tryz.ntmps51
  go_wp2_with fail
  go_ret
  exact ⟨rfl,bel9⟩
 cases q3
 ·go_enter Tryz.func51,Tryz.ntmps51
  go_wp2_with fail
  go_ret
  exact ⟨rfl,bel9⟩
 cases q4
 ·go_enter Tryz.func51,Tryz.ntmps51
  go_wp2_with fail
  go_ret
  exact ⟨rfl,bel9⟩
 ·go_enter Tryz.func51,Tryz.ntmps51
  go_wp2_with fail
  go_ret
  exact ⟨rfl,bel9⟩
theorem pair_calls (a b:Int) (w:World):
  Calls Tryz.prog 100 #[.int .i64 a,.int .i64 b] w λe w'=>e=.returned (pairV (M.pairOf a b))/\Below w.heap.size w w':=by
 go_enter Tryz.func100,Tryz.ntmps100
 go_wp2_with fail
 refine bodyPost_ret (v:=pairV (M.pairOf a b)) ?_ rfl ⟨rfl,bel9⟩
 simp only [results,Tryz.results100]
 go_simp
 exact ⟨rfl,rfl⟩
theorem goodB_short {l:List M.Box} {n:Nat} {b:M.Box} (h:l[n]?=some b) (hb:b.x2<=b.x1\/b.y2<=b.y1):M.goodB l=false:=by
 unfold M.goodB
 rw [decide_eq_false_iff_not]
 intro g
 have:=g.1 b (List.mem_of_getElem? h)
 omega
theorem take_map_id {l:List M.Box} {n:Nat} {b:M.Box} (h:l[n]?=some b):(l.take (n+1)).map (·.id)=(l.take n).map (·.id)++[b.id]:=by
 rw [List.take_add_one,h];simp
theorem goodB_twice {l:List M.Box} {n:Nat} {b:M.Box} (h:l[n]?=some b) (hb:b.id∈(l.take n).map (·.id)):M.goodB l=false:=by
 unfold M.goodB
 rw [decide_eq_false_iff_not]
 intro g
 have h1:(l.take (n+1)).map (·.id)<+:l.map (·.id):=by rw [List.map_take];exact List.take_prefix _ _
 have h2:=h1.sublist.nodup g.2
 rw [take_map_id h,List.nodup_append] at h2
 exact h2.2.2 b.id hb b.id sS rfl
theorem goodB_step {l:List M.Box} {n:Nat} {b:M.Box} (g:M.GoodB (l.take n)) (h:l[n]?=some b) (h1:b.x1<b.x2) (h2:b.y1<b.y2) (h3:b.id∉(l.take n).map (·.id)):M.GoodB (l.take (n+1)):=by
 refine ⟨λc hc=>?_,?_⟩
 ·rw [List.take_add_one,h] at hc
  simp only [Option.toList_some,List.mem_append,List.mem_singleton] at hc
  rcases hc with hc|rfl
  ·exact g.1 c hc
  ·exact ⟨h1,h2⟩
 ·rw [take_map_id h,List.nodup_append]
  exact ⟨g.2,by simp,λx hx y hy e=>by simp only [List.mem_singleton] at hy;subst hy;subst e;exact h3 hx⟩
theorem goodB_calls {w:World} {lo:Nat} {v:Value} {l:List M.Box} (h:BoxesAt5 w lo v l) (hin:∀b∈l,BoxIn b):
  Calls Tryz.prog 50 #[v] w λe w'=>e=.returned (.bool (M.goodB l))/\Below w.heap.size w w':=by
 obtain ⟨a,cap,rfl⟩:=h.val
 have hmx:l.length<=9223372036854775807:=by have:=h.max;unfold maxLen at this;omega
 have hmx2:=hI h.max
 have HB:=hI h
 have HI:=hI hin
 clear h hin
 have hmm:=@run_makeMap Tryz.prog
 go_enter Tryz.func50,Tryz.ntmps50
 go_wp2_with fail
 go_loopg [9] l.length (λg i wr=>∃n:Nat,n<=l.length/\i=.int .i64 n/\g=l.length-n/\Below w.heap.size w wr/\SeenAt wr w.heap.size ((l.take n).map (·.id))/\M.GoodB (l.take n))
 case atStart=>
  refine ⟨0,Nat.zero_le _,rfl,rfl,(Below.refl _ _).alloc lR _,?_,⟨by simp,by simp⟩⟩
  have:=World.ownsMap_made w Tryz.prog 3 (plainElem (H:=Unit) Tryz.prog 4)
  simpa [SeenAt,M.keysOf,setOf] using this
 case round=>
  obtain ⟨wo,hwo⟩:∃wo,wo=wr:=⟨_,rfl⟩
  subst hwo
  obtain ⟨n,hn,rfl,hg,hb1,hseen,hgd⟩:=hrel
  have HB1:=hI hb1
  have HG:=hI hg
  have hz:=hb1.size
  have lt2:w.heap.size<wo.heap.size:=World.ownsMap.lt hseen
  have HS:=hI hseen
  have HD:=hI hgd
  clear hb1 hg hseen hgd
  rcases Nat.lt_or_ge n l.length with hlt|hge
  ·obtain ⟨b,hbx⟩:∃b,l[n]?=some b:=⟨_,List.getElem?_eq_getElem hlt⟩
   obtain ⟨b1,o1,c1,e1,_,i0,i1,i2,i3,i4⟩:=(HB.out.below HB1.out).at5 hbx
   obtain ⟨rfl,rfl⟩:a=some ⟨b1,o1,none⟩/\cap=c1:=by simpa using e1
   have hi64:=(HI.out b (List.mem_of_getElem? hbx)).1
   have HX:=hI hbx
   have HI64:=hI hi64
   have HS2:=hI (HS.out.alloc (.cells (boxC b) 40))
   have lk:=seen_look HS2.out hi64 0
   change (Instr.lookup 130 (.map (some w.heap.size)) (.int .i64 b.id) false).run Tryz.prog (wo.alloc (.cells (boxC b) 40))=.ok (.bool _) (wo.alloc (.cells (boxC b) 40)) at lk
   clear e1 hbx hi64
   by_cases y1:b.x2<=b.x1
   ·go_wp2_with fail
    go_ret
    exact ⟨ret_bool (goodB_short HX.out (.inl y1)).symm,HB1.out.alloc bO _⟩
   have y1':decide (b.x2<=b.x1)=false:=decide_eq_false y1
   by_cases y2:b.y2<=b.y1
   ·go_wp2_with fail
    go_ret
    exact ⟨ret_bool (goodB_short HX.out (.inr y2)).symm,HB1.out.alloc bO _⟩
   have y2':decide (b.y2<=b.y1)=false:=decide_eq_false y2
   by_cases y3:b.id∈(l.take n).map (·.id)
   ·rw [decide_eq_true y3] at lk
    have Y3:=hI y3
    clear y3
    go_wp2_with fail
    go_ret
    exact ⟨ret_bool (goodB_twice HX.out Y3.out).symm,HB1.out.alloc bO _⟩
   ·rw [decide_eq_false y3] at lk
    have HD2:=hI (goodB_step HD.out HX.out bO bO y3)
    have HKEY:=hI (keyOf_int_mk Tryz.underlying3 (WalkArith.wf_i64 HI64.out))
    have ES:=hI (take_map_id HX.out)
    obtain ⟨L,hL⟩:∃L,L=(l.take n).map (·.id):=⟨_,rfl⟩
    have hll:L.length=n:=by rw [hL,List.length_map,List.length_take];omega
    rw [←hL] at HS2 ES
    clear y3 hL
    go_wp2_with (at_mapUpdate;refine wpList_mapUpdate_own _ rfl _ _ _ 130 rfl 3 4 int_law Tryz.underlying130 _ w.heap.size L.length _ rfl HS2.out (by have:=hmx2.out;omega) _ _ _ rfl rfl HKEY.out _ [] (plainElem_bool Tryz.underlying4 true) ?_;intro w6 hown6 hgrow6)
    go_roundg (l.length-(n+1))
    case measure=>rw [HG.out];omega
    case rel=>
     refine ⟨n+1,by omega,by go_num,rfl,?_,?_,HD2.out⟩
     ·exact (HB1.out.alloc bO _).grown hgrow6 sO (λj hj=>by cases hj;omega)
     ·rw [ES.out];exact seen_put hown6
  ·obtain rfl:n=l.length:=by omega
   have hgd:=HD.out
   rw [List.take_length] at hgd
   have hgb:M.goodB l=true:=by unfold M.goodB;exact decide_eq_true hgd
   go_wp2_with fail
   go_ret
   exact ⟨ret_bool hgb.symm,HB1.out⟩
end Go.Proofs.YtemkbjaojinaoaaGreat
namespace Go.Proofs.YtemkbjaojinaoaaGreat
open Go.RowKit
structure SW (w wr:World) (v3:Value) (zs:List M.Box) (vo vp:Value) (O:List M.Pr) (P:List M.Box):Prop where
 row:wr.ownsRow w.heap.size 40 5 v3 zs.length (zs.flatMap boxL)
 out:wr.ownsRow w.heap.size 71 2 vo O.length (O.flatMap pairL)
 opn:wr.ownsRow w.heap.size 40 5 vp P.length (P.flatMap boxL)
 a1:∀g,v3.ownBlock=some g->vo.ownBlock≠some g/\vp.ownBlock≠some g
 a2:∀g,vo.ownBlock=some g->vp.ownBlock≠some g
 below:Below w.heap.size w wr
section
variable {w wr wr':World} {v3 vo vp:Value} {zs:List M.Box} {O:List M.Pr} {P:List M.Box}
theorem SW.keep (h:SW w wr v3 zs vo vp O P) (hb:Below wr.heap.size wr wr'):SW w wr' v3 zs vo vp O P:=
 ⟨own_below h.row hb,own_below h.out hb,own_below h.opn hb,h.a1,h.a2,h.below.trans (hb.mono h.below.size)⟩
theorem SW.size (h:SW w wr v3 zs vo vp O P):w.heap.size<=wr.heap.size:=h.below.size
theorem none_or {a b:Option Nat} (h:∀g,a=some g->b≠some g):a=none\/a≠b:=by
 cases a with
 |none=>exact .inl rfl
 |some g=>exact .inr (λe=>h g rfl e.symm)
theorem SW.turnOut (h:SW w wr v3 zs vo vp O P) {vo':Value} {O':List M.Pr} (hg:wr.grownBy wr' vo.ownBlock) (ho:wr'.ownsRow w.heap.size 71 2 vo' O'.length (O'.flatMap pairL))
  (hat:vo'.ownBlock=vo.ownBlock\/∃nb,vo'.ownBlock=some nb/\wr.heap.size<=nb):SW w wr' v3 zs vo' vp O' P:=by
 refine ⟨h.row.kept hg (none_or λg e=>(h.a1 g e).1),ho,h.opn.kept hg (none_or λg e e2=>h.a2 g e2 e),?_,?_,h.below.grown hg h.size (λk hk=>(h.out.lt k hk).1)⟩
 ·intro g e
  refine ⟨?_,(h.a1 g e).2⟩
  have hl:=(h.row.lt g e).2
  rcases hat with e2|⟨nb,e2,hnb⟩
  ·rw [e2];exact (h.a1 g e).1
  ·rw [e2];intro e3;simp only [Option.some.injEq] at e3;omega
 ·intro g e e4
  have hl:=(h.opn.lt g e4).2
  rcases hat with e2|⟨nb,e2,hnb⟩
  ·rw [e2] at e;exact h.a2 g e e4
  ·rw [e2] at e;simp only [Option.some.injEq] at e;omega
theorem SW.turnOpen (h:SW w wr v3 zs vo vp O P) {vp':Value} {P':List M.Box} (hg:wr.grownBy wr' vp.ownBlock) (ho:wr'.ownsRow w.heap.size 40 5 vp' P'.length (P'.flatMap boxL))
  (hat:vp'.ownBlock=vp.ownBlock\/∃nb,vp'.ownBlock=some nb/\wr.heap.size<=nb):SW w wr' v3 zs vo vp' O P':=by
 refine ⟨h.row.kept hg (none_or λg e=>(h.a1 g e).2),h.out.kept hg (none_or λg e=>h.a2 g e),ho,?_,?_,h.below.grown hg h.size (λk hk=>(h.opn.lt k hk).1)⟩
 ·intro g e
  refine ⟨(h.a1 g e).1,?_⟩
  have hl:=(h.row.lt g e).2
  rcases hat with e2|⟨nb,e2,hnb⟩
  ·rw [e2];exact (h.a1 g e).2
  ·rw [e2];intro e3;simp only [Option.some.injEq] at e3;omega
 ·intro g e e4
  have hl:=(h.out.lt g e).2
  rcases hat with e2|⟨nb,e2,hnb⟩
  ·rw [e2] at e4;exact h.a2 g e e4
  ·rw [e2] at e4;simp only [Option.some.injEq] at e4;omega
theorem SW.notOpen (h:SW w wr v3 zs vo vp O P) {b:Nat} (hb:wr.heap.size<=b):vp.ownBlock≠some b/\vo.ownBlock≠some b:=by
 constructor
 ·intro e;have:=(h.opn.lt b e).2;omega
 ·intro e;have:=(h.out.lt b e).2;omega
end
theorem clone_boxes1 {w:World} {lo:Nat} {v:Value} {l:List M.Box} (h:BoxesAt5 w lo v l) (hne:l≠[]) (hb:l.length*40<=140737488355328):
  Calls Tryz.prog 93 #[v] w λe w'=>∃v',e=.returned v'/\w'.ownsRow w.heap.size 40 5 v' l.length (l.flatMap boxL)/\Below w.heap.size w w':=by
 obtain ⟨h1,hm,a,cap,rfl,hc⟩:=h
 have hne2:l.flatMap boxL≠[]:=by
  intro e
  have k1:=boxes_len l
  rw [e] at k1
  have k2:l.length≠0:=λe2=>hne (List.length_eq_zero_iff.1 e2)
  simp only [List.length_nil] at k1
  omega
 obtain ⟨b,o,rfl,hl,hc⟩:=hc hne2
 obtain ⟨i0,hi,hz0,hz1,hz2⟩:=info_parts infoBox
 have c:Calls Tryz.prog 93 #[.slice (some ⟨b,o,none⟩) l.length cap] w λe w'=>∃v',e=.returned v'/\w'.ownsRow w.heap.size 40 5 v' l.length (l.flatMap boxL)/\v'≠ .slice none 0 0/\Below w.heap.size w w':=
  AnyE.slices_Clone Tryz.cloneBox i0 (boxV M.box0) 5 40 hi hz0 hz1 hz2 rfl dC Tryz.sizeOf40 b o l.length cap _ w h1 hm hb hc (boxes_one l)
 exact c.mono λe w' ⟨v',h1,h2,h3,h4⟩=>⟨v',h1,h2,h4⟩
theorem clone_boxes0 (w:World) (a:Option Addr) (cap:Nat):
  Calls Tryz.prog 93 #[.slice a 0 cap] w λe w'=>∃v',e=.returned v'/\w'.ownsRow w.heap.size 40 5 v' 0 []/\Below w.heap.size w w':=by
 cases a with
 |none=>
  have c:Calls Tryz.prog 93 #[.slice none 0 cap] w λe w'=>e=.returned (.slice none 0 0)/\w'=w:=AnyE.slices_Clone_nil Tryz.cloneBox 0 cap w
  exact c.mono λe w' ⟨h1,h2⟩=>⟨_,h1,World.ownsRow_nil _ _ _ _,by rw [h2];exact Below.refl _ _⟩
 |some a=>
  have q22:∀(w:World) (a:Option Addr) (n c n' c':Nat),(binOp .eql 80 (.slice a n c) (.slice none n' c')).run Tryz.prog w=.ok (.bool a.isNone) w:=λw a n c n' c'=>Lib.run_eql_slice_nil w _ _ a n c n' c' Tryz.underlying80
  have u22:∀w,Sem.run Tryz.prog (underlying 80) w=.ok (TypeDesc.slice 40) w:=run_underlying Tryz.underlying80
  go_enter Tryz.func93,Tryz.ntmps93
  go_wp2_with fail
  go_ret
  exact ⟨_,rfl,World.ownsRow_lit w #[] 0 lR (Nat.zero_le _) rfl,(Below.refl _ w).alloc lR _⟩
theorem clone_boxes {w:World} {lo:Nat} {v:Value} {l:List M.Box} (h:BoxesAt5 w lo v l) (hb:l.length*40<=140737488355328):
  Calls Tryz.prog 93 #[v] w λe w'=>∃v',e=.returned v'/\w'.ownsRow w.heap.size 40 5 v' l.length (l.flatMap boxL)/\Below w.heap.size w w':=by
 cases l with
 |nil=>
  obtain ⟨a,cap,rfl⟩:=h.val
  exact clone_boxes0 w a cap
 |cons t ts=>exact clone_boxes1 h sS hb
theorem index_none (w:World) (fv:Value):Calls Tryz.prog 122 #[.slice none 0 0,fv] w λr w'=>r=.returned (.int .i64 (-1))/\w'=w:=by
 go_enter Tryz.func122,Tryz.ntmps122
 go_wp2_with fail
 go_loopg [8] 0 (λk i wr=>wr=w/\i=.int .i64 0)
 case atStart=>exact ⟨rfl,rfl⟩
 case round=>
  obtain ⟨rfl,rfl⟩:=hrel
  go_wp2_with fail
  go_ret
  exact ⟨rfl,rfl⟩
theorem delete_none (w:World) (fv:Value):Calls Tryz.prog 98 #[.slice none 0 0,fv] w λr w'=>r=.returned (.slice none 0 0)/\w'=w:=by
 go_enter Tryz.func98,Tryz.ntmps98
 go_wp2_with (go_at_call 122;refine (index_none _ _).mono ?_;rintro r w1 ⟨rfl,rfl⟩)
 go_ret
 exact ⟨rfl,rfl⟩
theorem deleteFunc_own {w:World} {base bx:Nat} {v:Value} {zs:List M.Box} {e:Int} (h:w.ownsRow base 40 5 v zs.length (zs.flatMap boxL)) (hb:w.cell? ⟨bx,1,none⟩=some (.int .i64 e)) (hne:v.ownBlock≠some bx):
  Calls Tryz.prog 98 #[v,.func (.func 99) #[] #[.pointer (some ⟨bx,0,none⟩)]] w λr w'=>∃v',r=.returned v'/\
   w'.ownsRow base 40 5 v' (zs.filter λa=> !M.isOver e a).length ((zs.filter λa=> !M.isOver e a).flatMap boxL)/\w.grownBy w' v.ownBlock/\v'.ownBlock=v.ownBlock:=by
 rcases h.2 with ⟨rfl,h0⟩|⟨g,cap,cur,rfl,hg,hgg,hn,hm,hs,ht⟩
 ·have e0:zs=[]:=List.length_eq_zero_iff.1 h0
  subst e0
  exact (delete_none w _).mono λr w' ⟨h1,h2⟩=>⟨_,h1,by rw [h2];exact World.ownsRow_nil w base _ 5,by rw [h2];exact World.grownBy.refl w _,rfl⟩
 ·have:=deleteFunc_calls h rfl hb (λe2=>hne (by rw [e2];rfl))
  exact this.mono λr w' ⟨h1,h2,h3⟩=>⟨_,h1,h2,h3,rfl⟩
def OpenAt (zs P:List M.Box) (n:Nat):Prop:=∃e:Int,(∀b∈zs.drop n,e<=b.x1)/\P=(zs.take n).filter (λa=>decide (e<a.x2))
theorem open_start (zs:List M.Box) (h:∀b∈zs,BoxIn b):OpenAt zs [] 0:=⟨-9223372036854775808,λb hb=>(h b (by simpa using hb)).2.1.1,by simp⟩
theorem open_over {zs P:List M.Box} {n:Nat} {b:M.Box} (h:OpenAt zs P n) (hb:zs[n]?=some b):(P.filter λa=> !M.isOver b.x1 a)=(zs.take n).filter (λa=>decide (b.x1<a.x2)):=by
 obtain ⟨e,h1,rfl⟩:=h
 have hl:=(List.getElem?_eq_some_iff.1 hb).1
 exact M.open_step (zs.take n) e b (h1 b (by rw [List.mem_drop_iff_getElem];exact ⟨0,by omega,by simpa using (List.getElem?_eq_some_iff.1 hb).2⟩))
theorem open_next {zs:List M.Box} {n:Nat} {b:M.Box} (hs:zs.Pairwise (λa b=>a.x1<=b.x1)) (hb:zs[n]?=some b) (hx:b.x1<b.x2):OpenAt zs ((zs.take n).filter (λa=>decide (b.x1<a.x2))++[b]) (n+1):=by
 refine ⟨b.x1,λc hc=>?_,?_⟩
 ·obtain ⟨i,hi,e⟩:=List.getElem_of_mem hc
  rw [List.getElem_drop] at e
  rw [List.length_drop] at hi
  have hl:=(List.getElem?_eq_some_iff.1 hb)
  have:=List.pairwise_iff_getElem.1 hs n (n+1+i) hl.1 bO bO
  rw [hl.2,e] at this
  exact this
 ·rw [List.take_add_one,hb,List.filter_append]
  simp [hx]
theorem meets1_step {P:List M.Box} {k:Nat} {a:M.Box} (b:M.Box) (h:P[k]?=some a):M.meets1 (P.take (k+1)) b=M.meets1 (P.take k) b++(if M.meetB a b then [M.pairOf a.id b.id] else []):=by
 unfold M.meets1
 rw [List.take_add_one,h,List.filter_append,List.map_append]
 simp only [Option.toList_some,List.filter_cons,List.filter_nil]
 split<;>rfl
theorem meets1_le (P:List M.Box) (b:M.Box):(M.meets1 P b).length<=P.length:=by unfold M.meets1;rw [List.length_map];exact List.length_filter_le _ _
theorem allP_few (l:List M.Box):2*(M.allP l).length+l.length<=l.length*l.length:=by
 induction l using M.snocInd with
 |nil=>simp [M.allP_nil]
 |snoc l b ih=>
  rw [M.allP_snoc]
  have h1:=meets1_le l b
  simp only [List.length_append,List.length_cons,List.length_nil]
  have h2:(l.length+(0+1))*(l.length+(0+1))=l.length*l.length+2*l.length+1:=by grind
  omega
theorem allP_small (l:List M.Box) (h:l.length<=1048576):(M.allP l).length<=549755813888:=by
 have h1:=allP_few l
 have h2:l.length*l.length<=1048576*1048576:=Nat.mul_le_mul h h
 omega
theorem infoPair:(Tryz.prog.info? 71).map (λi=>(i.zero,i.size,i.bytes))=some (some (pairV (0,0)),2,16):=by kernel_rfl
theorem pairs_calls {w:World} {lo:Nat} {v:Value} {l:List M.Box} (h:BoxesAt5 w lo v l) (hin:∀b∈l,BoxIn b) (hl:l.length<=1048576):
  Calls Tryz.prog 78 #[v] w λe w'=>∃v',e=.returned v'/\w'.ownsRow w.heap.size 71 2 v' (M.pairs l).length ((M.pairs l).flatMap pairL)/\Below w.heap.size w w':=by
 have HGD:=hI (λ(_:Unit)=>goodB_calls h hin)
 by_cases hg:M.goodB l=true
 ·rw [hg] at HGD
  have HGD:=hI (show Calls Tryz.prog 50 #[v] w _ from HGD.out ())
  have HCL:=hI (λW (hb:Below w.heap.size w W)=>clone_boxes (h.below hb) bO)
  have hgb:M.GoodB l:=by simpa [M.goodB] using hg
  obtain ⟨i1,hi1,hz11,hz12,hz13⟩:=info_parts infoBox
  obtain ⟨i2,hi2,hz21,hz22,hz23⟩:=info_parts infoPair
  have I1:=hI (And.intro hi1 (And.intro hz11 (And.intro hz12 hz13)))
  have I2:=hI (And.intro hi2 (And.intro hz21 (And.intro hz22 hz23)))
  have HIN:=hI hin
  have HGB:=hI hgb
  have HR:Hid (M.pairs l=M.sortP (M.allP l)):=hI (by unfold M.pairs;rw [if_pos hg])
  have hmf:∀(fn:Fn) (first cap:Array Value) (w:World),(Instr.makeFunc fn first cap).run Tryz.prog w=.ok (.func fn first cap) w:=λ_ _ _ _=>rfl
  obtain ⟨av,cv,rfl⟩:=h.val
  clear h hin hg hgb hi1 hz11 hz12 hz13 hi2 hz21 hz22 hz23
  go_enter Tryz.func78,Tryz.ntmps78
  go_wp2_with (first|(go_at_call 50;refine HGD.out.mono ?_;rintro e w1 ⟨rfl,hb1⟩;have kz1:=hb1.size)|(go_at_call 93;refine (HCL.out _ hb1).mono ?_;rintro e w2 ⟨v3,rfl,ho2,hb2⟩;obtain ⟨a3,c3,rfl⟩:=own_form ho2;have kz2:=hb2.size;have K2:Below w.heap.size w w2:=hb1.trans (hb2.mono kz1))|(go_at_call 94;refine (sortB_own (own_mono ho2 kz1) bO).mono ?_;rintro e w3 ⟨rfl,zs,hperm,hsorted,ho3,hg3⟩;have HP:=hI hperm;have HS:=hI hsorted;have K3:Below w.heap.size w w3:=K2.grown hg3 bO (λk hk=>by have:=(ho2.lt k hk).1;omega);have hlen:l.length=zs.length:=hperm.length_eq.symm;rw [hlen] at ho3;clear hperm hsorted))
  have hlz:zs.length<=1048576:=by omega
  have HGZ:Hid (M.GoodB zs):=hI (by have:=M.goodB_perm HP.out;have h2:M.goodB l=true:=decide_eq_true HGB.out;rw [h2] at this;simpa [M.goodB] using this)
  have HIZ:Hid (∀b∈zs,BoxIn b):=hI (λb hb=>HIN.out b (HP.out.mem_iff.1 hb))
  have hzmax:zs.length<=9223372036854775807:=by omega
  have HO3:=hI ho3
  have HK3:=hI K3
  clear ho2 hb1 hb2 hg3 K2 K3 kz1 kz2
  go_loopg [4,5,19] zs.length (λg vo vp i wr=>∃(n:Nat) (P:List M.Box),n<=zs.length/\i=.int .i64 n/\g=zs.length-n/\OpenAt zs P n/\SW w wr (.slice a3 zs.length c3) zs vo vp (M.allP (zs.take n)) P)
  case atStart=>
   refine ⟨0,[],Nat.zero_le _,rfl,rfl,open_start zs HIZ.out,⟨?_,World.ownsRow_nil _ _ _ _,World.ownsRow_nil _ _ _ _,λg _=>⟨by simp [Value.ownBlock],by simp [Value.ownBlock]⟩,λg e=>by simp [Value.ownBlock] at e,HK3.out⟩⟩
   exact HO3.out
  case round=>
   obtain ⟨wo,hwo⟩:∃wo,wo=wr:=⟨_,rfl⟩
   subst hwo
   obtain ⟨n,P,hn,rfl,hk,hop,hsw⟩:=hrel
   have HSW:=hI hsw
   have HOP:=hI hop
   have HK:=hI hk
   have ko:=hsw.size
   clear hop hk
   rcases Nat.lt_or_ge n zs.length with hlt|hge
   ·obtain ⟨b,hbn⟩:∃b,zs[n]?=some b:=⟨_,List.getElem?_eq_getElem hlt⟩
    obtain ⟨g3,c3',e3,_,hg3l⟩:=own_val hsw.row bO
    obtain ⟨rfl,rfl⟩:a3=some ⟨g3,0,none⟩/\c3=c3':=by simpa using e3
    have kc:∀k,k<5->wo.cell? ⟨g3,n*5+k,none⟩=(boxL b)[k]?:=λk hk=>(hsw.row.cellAt (n*5+k) bO).trans (flat_at boxL 5 (λ_=>rfl) zs n k hbn hk)
    have k0:=kc 0 bO
    have k1:=kc 1 bO
    have k2:=kc 2 bO
    have k3:=kc 3 bO
    have k4:=kc 4 bO
    simp only [boxL,Nat.add_zero,List.getElem?_cons_zero,List.getElem?_cons_succ] at k0 k1 k2 k3 k4
    have hgood:=HGZ.out.1 b (List.mem_of_getElem? hbn)
    have HBN:=hI hbn
    have HXX:=hI hgood
    obtain ⟨av5,cv5,rfl⟩:=own_form hsw.opn
    clear hsw kc e3 hbn hgood
    go_wp2_with (go_at_call 98;refine (deleteFunc_own (zs:=P) (e:=b.x1) (own_below HSW.out.opn ((Below.refl _ wo).alloc lR (.cells (boxC b) 40))) sS (HSW.out.notOpen lR).1).mono ?_;rintro r w4 ⟨vp4,rfl,ho4,hg4,hat4⟩;have bb4:Blk w4 wo.heap.size 40 (boxC b):=(hg4.block wo.heap.size sS (λe=>(HSW.out.notOpen lR).1 e.symm)).trans (Blk.new wo 40 (boxC b));have HS4:=hI ((HSW.out.keep ((Below.refl _ wo).alloc lR (.cells (boxC b) 40))).turnOpen hg4 ho4 (.inl hat4));obtain ⟨a4,c4,rfl⟩:=own_form ho4;clear ho4 hg4 hat4)
    obtain ⟨P4,hP4⟩:∃P4,P4=P.filter λa=> !M.isOver b.x1 a:=⟨_,rfl⟩
    have HP4:=hI hP4
    have HE4:Hid (P4=(zs.take n).filter (λa=>decide (b.x1<a.x2))):=hI (by rw [hP4];exact open_over HOP.out HBN.out)
    rw [←hP4] at HS4
    rw [←hP4]
    clear hP4
    obtain ⟨gb,hgb⟩:∃gb,gb=wo.heap.size:=⟨_,rfl⟩
    rw [←hgb] at bb4
    rw [←hgb]
    have HNB:=hI (show _≠some gb from by rw [hgb];exact (HSW.out.notOpen lR).2)
    have HGBL:=hI hgb
    clear hgb
    have BB4:=hI bb4
    have hP4l:P4.length<=n:=by rw [HE4.out];exact Nat.le_trans (List.length_filter_le _ _) (by rw [List.length_take];omega)
    have HA0:Hid ((M.allP (zs.take n)).length<=549755813888):=hI (allP_small _ (by rw [List.length_take];omega))
    clear bb4 k0 k1 k2 k3 k4
    go_loopg [4,28] P4.length (λg vo i wq=>∃k:Nat,k<=P4.length/\i=.int .i64 k/\g=P4.length-k/\SW w wq (.slice (some ⟨g3,0,none⟩) zs.length c3) zs vo (.slice a4 P4.length c4) (M.allP (zs.take n)++M.meets1 (P4.take k) b) P4/\Blk wq gb 40 (boxC b)/\vo.ownBlock≠some gb)
    case atStart=>exact ⟨0,Nat.zero_le _,rfl,rfl,by simpa [M.meets1] using HS4.out,BB4.out,HNB.out⟩
    case round=>
     obtain ⟨wq,hwq⟩:∃wq,wq=wr:=⟨_,rfl⟩
     subst hwq
     obtain ⟨k,hk,rfl,hgk,hsq,hbq,hnb⟩:=hrel
     have HNB2:=hI hnb
     clear hnb
     have HSQ:=hI hsq
     have BBQ:=hI hbq
     have HK2:=hI hgk
     have bq0:=hbq.cell 0
     have bq1:=hbq.cell 1
     have bq2:=hbq.cell 2
     have bq3:=hbq.cell 3
     have bq4:=hbq.cell 4
     simp at bq0 bq1 bq2 bq3 bq4
     have lbq:=hbq.lt
     clear hgk hbq
     rcases Nat.lt_or_ge k P4.length with hlt2|hge2
     ·obtain ⟨a,hak⟩:∃a,P4[k]?=some a:=⟨_,List.getElem?_eq_getElem hlt2⟩
      obtain ⟨g4,c4',e4,_,hg4l⟩:=own_val hsq.opn bO
      obtain ⟨rfl,rfl⟩:a4=some ⟨g4,0,none⟩/\c4=c4':=by simpa using e4
      have kc:∀j,j<5->wq.cell? ⟨g4,k*5+j,none⟩=(boxL a)[j]?:=λj hj=>(hsq.opn.cellAt (k*5+j) bO).trans (flat_at boxL 5 (λ_=>rfl) P4 k j hak hj)
      have k0:=kc 0 bO
      have k1:=kc 1 bO
      have k2:=kc 2 bO
      have k3:=kc 3 bO
      have k4:=kc 4 bO
      simp only [boxL,Nat.add_zero,List.getElem?_cons_zero,List.getElem?_cons_succ] at k0 k1 k2 k3 k4
      have HST:=hI (meets1_step b hak)
      have HLM:Hid ((M.meets1 (P4.take k) b).length<=1048576):=hI (Nat.le_trans (meets1_le _ b) (by rw [List.length_take];omega))
      obtain ⟨O,hO⟩:∃O,O=M.allP (zs.take n)++M.meets1 (P4.take k) b:=⟨_,rfl⟩
      have HOO:=hI hO
      have HLO:Hid (O.length<=549756862464):=hI (by rw [hO,List.length_append];have h1:=HA0.out;have h2:=HLM.out;omega)
      rw [←hO] at HSQ hsq
      have hmax4:P4.length<=9223372036854775807:=by omega
      have HME:Hid (∀W,Calls Tryz.prog 51 #[boxV a,boxV b] W λe w'=>e=.returned (.bool (M.meetB a b))/\Below W.heap.size W w'):=hI (λW=>meetB_calls a b W)
      obtain ⟨avo,cvo,rfl⟩:=own_form hsq.out
      clear hsq kc e4 hak hO
      cases hm:M.meetB a b
      ·rw [hm] at HME HST
       clear hm
       go_wp2_with (go_at_call 51;refine (HME.out _).mono ?_;rintro e w6 ⟨rfl,hb6⟩;have K6:Below wq.heap.size wq w6:=(show Below wq.heap.size wq _ from bel9).trans (hb6.mono sid9);have kz6:=K6.size;have hz6:=hb6.size;(try simp at hz6);have ba6:Blk w6 wq.heap.size 40 (boxC a):=(Blk.new wq 40 (boxC a)).below hb6 sid9;have bb6:Blk w6 gb 40 (boxC b):=BBQ.out.below K6 BBQ.out.lt;have p0:=ba6.cell 0;have p1:=ba6.cell 1;have p2:=ba6.cell 2;have p3:=ba6.cell 3;have p4:=ba6.cell 4;simp at p0 p1 p2 p3 p4;have q0:=bb6.cell 0;have q1:=bb6.cell 1;have q2:=bb6.cell 2;have q3:=bb6.cell 3;have q4:=bb6.cell 4;simp at q0 q1 q2 q3 q4;have la6:=ba6.lt;have lb6:=bb6.lt)
       go_roundg (P4.length-(k+1))
       case measure=>rw [HK2.out];omega
       case rel=>
        refine ⟨k+1,by omega,by go_num,rfl,?_,bb6,HNB2.out⟩
        rw [HST.out]
        simp only [Bool.false_eq_true,if_false,List.append_nil]
        rw [←HOO.out]
        exact HSQ.out.keep K6
      ·rw [hm] at HME HST
       clear hm
       go_wp2_with (first|(go_at_call 51;refine (HME.out _).mono ?_;rintro e w6 ⟨rfl,hb6⟩;have K6:Below wq.heap.size wq w6:=(show Below wq.heap.size wq _ from bel9).trans (hb6.mono sid9);have kz6:=K6.size;have hz6:=hb6.size;(try simp at hz6);have ba6:Blk w6 wq.heap.size 40 (boxC a):=(Blk.new wq 40 (boxC a)).below hb6 sid9;have bb6:Blk w6 gb 40 (boxC b):=BBQ.out.below K6 BBQ.out.lt;have p0:=ba6.cell 0;have p1:=ba6.cell 1;have p2:=ba6.cell 2;have p3:=ba6.cell 3;have p4:=ba6.cell 4;simp at p0 p1 p2 p3 p4;have q0:=bb6.cell 0;have q1:=bb6.cell 1;have q2:=bb6.cell 2;have q3:=bb6.cell 3;have q4:=bb6.cell 4;simp at q0 q1 q2 q3 q4;have la6:=ba6.lt;have lb6:=bb6.lt)|(go_at_call 100;refine (pair_calls _ _ _).mono ?_;rintro e w7 ⟨rfl,hb7⟩;have K7:Below wq.heap.size wq w7:=K6.trans ((show Below wq.heap.size w6 _ from bel9).trans (hb7.mono bO));have kz7:=K7.size)|(at_builtin;refine wpList_append_own_at _ rfl (.tmp 35) (.tmp 41) _ rfl w.heap.size 71 i2 _ 2 16 Tryz.underlying33 I2.out.1 I2.out.2.1 I2.out.2.2.1 I2.out.2.2.2 rfl bO _ O.length (O.flatMap pairL) rfl (own_below HSQ.out.out (show Below wq.heap.size wq _ from bel9)) ⟨w7.heap.size,0,none⟩ 1 1 (pairL (M.pairOf a.id b.id)) rfl rfl (by intro j u hu;rw [Addr.add_lit];match j,hu with|0,hu=>(simp [pairL] at hu;subst hu;simp)|1,hu=>(simp [pairL] at hu;subst hu;simp)|j+2,hu=>simp [pairL] at hu) (by intro u hu;exact pairs_one [M.pairOf a.id b.id] u (by simpa using hu)) (by have:=HLO.out;unfold maxLen;omega) (by have:=HLO.out;omega) (by have:=HSQ.out.size;simp;omega) ?_;intro v8 w8 hown8 hg8 _ hat8))
       go_roundg (P4.length-(k+1))
       case measure=>rw [HK2.out];omega
       case rel=>
        have KB:Below wq.heap.size wq (w7.alloc (.cells #[.int .i64 (M.pairOf a.id b.id).1,.int .i64 (M.pairOf a.id b.id).2] 71)):=K7.alloc bO _
        refine ⟨k+1,by omega,by go_num,rfl,?_,?_,?_⟩
        ·rw [HST.out]
         simp only [if_true]
         rw [←List.append_assoc,←HOO.out]
         refine (HSQ.out.keep KB).turnOut hg8 ?_ ?_
         ·rw [List.length_append,List.flatMap_append]
          simpa using hown8
         ·rcases hat8 with e|e
          ·exact .inl e
          ·exact .inr ⟨_,e,Nat.le_refl _⟩
        ·have b7:=BBQ.out.below KB BBQ.out.lt
         exact (hg8.block gb (by have:=b7.lt;exact this) (λe=>HNB2.out e.symm)).trans b7
        ·rcases hat8 with e|e
         ·rw [e];exact HNB2.out
         ·rw [e];intro e2;simp only [Option.some.injEq,World.size_alloc] at e2;omega
     ·obtain rfl:k=P4.length:=by omega
      rw [List.take_length] at HSQ hsq
      obtain ⟨O,hO⟩:∃O,O=M.allP (zs.take n)++M.meets1 P4 b:=⟨_,rfl⟩
      rw [←hO] at HSQ hsq
      have HOO:=hI hO
      have HLP:Hid (P4.length<=1048576):=hI bO
      obtain ⟨avo,cvo,rfl⟩:=own_form hsq.out
      clear hsq hO
      go_wp2_with (at_builtin;refine wpList_append_own_at _ rfl (.tmp 44) (.tmp 46) _ rfl w.heap.size 40 i1 _ 5 40 Tryz.underlying80 I1.out.1 I1.out.2.1 I1.out.2.2.1 I1.out.2.2.2 rfl bO _ P4.length (P4.flatMap boxL) rfl (own_below HSQ.out.opn (show Below wq.heap.size wq _ from bel9)) ⟨wq.heap.size,0,none⟩ 1 1 (boxL b) rfl rfl (by intro j u hu;rw [Addr.add_lit];match j,hu with|0,hu=>(simp [boxL] at hu;subst hu;simp)|1,hu=>(simp [boxL] at hu;subst hu;simp)|2,hu=>(simp [boxL] at hu;subst hu;simp)|3,hu=>(simp [boxL] at hu;subst hu;simp)|4,hu=>(simp [boxL] at hu;subst hu;simp)|j+5,hu=>simp [boxL] at hu) (by intro u hu;exact boxes_one [b] u (by simpa using hu)) (by have:=HLP.out;unfold maxLen;omega) (by have:=HLP.out;omega) (by have:=HSQ.out.size;simp;omega) ?_;intro v9 w9 hown9 hg9 _ hat9)
      go_roundg (zs.length-(n+1))
      case measure=>rw [HK.out];omega
      case rel=>
       have KB:Below wq.heap.size wq (wq.alloc (.cells (boxC b) 40)):=(Below.refl _ wq).alloc lR _
       refine ⟨n+1,P4++[b],by omega,by go_num,rfl,by rw [HE4.out];exact open_next HS.out HBN.out HXX.out.1,?_⟩
       have ea:M.allP (zs.take (n+1))=M.allP (zs.take n)++M.meets1 P4 b:=by
        rw [List.take_add_one,HBN.out]
        show M.allP (zs.take n++[b])=_
        rw [M.allP_snoc,M.meets1_open (seen:=zs.take n) (op:=P4) (by rw [HE4.out];exact M.open_meets _ _)]
       rw [ea,←HOO.out]
       refine (HSQ.out.keep KB).turnOpen hg9 ?_ ?_
       ·rw [List.length_append,List.flatMap_append]
        simpa using hown9
       ·rcases hat9 with e|e
        ·exact .inl e
        ·exact .inr ⟨_,e,Nat.le_refl _⟩
   ·obtain rfl:n=zs.length:=by omega
    rw [List.take_length] at HSW
    have HLS:Hid ((M.allP zs).length<4611686018427387904):=hI (by have:=allP_small zs hlz;omega)
    obtain ⟨avo,cvo,rfl⟩:=own_form HSW.out.out
    clear hsw
    go_wp2_with (go_at_call 101;refine (sortP_own HSW.out.out HLS.out).mono ?_;rintro e w5 ⟨rfl,ho5,hg5⟩)
    go_ret
    have he:M.pairs l=M.sortP (M.allP zs):=by rw [HR.out];exact M.sortP_perm (M.allP_perm HP.out.symm)
    rw [he]
    refine ⟨_,rfl,?_,HSW.out.below.grown hg5 HSW.out.size (λk hk=>(HSW.out.out.lt k hk).1)⟩
    have el:(M.sortP (M.allP zs)).length=(M.allP zs).length:=by unfold M.sortP;exact List.length_mergeSort _
    rw [el]
    exact ho5
 ·have hg0:M.goodB l=false:=by simpa using hg
  have HR:Hid (M.pairs l=[]):=hI (by unfold M.pairs;rw [hg0];rfl)
  rw [hg0] at HGD
  have HGD:=hI (show Calls Tryz.prog 50 #[v] w _ from HGD.out ())
  rw [HR.out]
  obtain ⟨av,cv,rfl⟩:=h.val
  clear h hin hg hg0
  go_enter Tryz.func78,Tryz.ntmps78
  go_wp2_with (go_at_call 50;refine HGD.out.mono ?_;rintro e w1 ⟨rfl,hb1⟩)
  go_ret
  exact ⟨_,rfl,World.ownsRow_nil _ _ _ _,hb1⟩
end Go.Proofs.YtemkbjaojinaoaaGreat
