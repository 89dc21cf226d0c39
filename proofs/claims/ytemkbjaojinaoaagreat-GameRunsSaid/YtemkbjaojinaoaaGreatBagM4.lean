/- Several small texts in one. No condition of its own: each part says its own. -/
import Derived.Test.YtemkbjaojinaoaaGreatShort
import Derived.Test.YtemkbjaojinaoaaGreatBagSw
import Derived.Test.YtemkbjaojinaoaaGreatBagW
import Derived.Test.YtemkbjaojinaoaaGreatBagM1
import Derived.Test.YtemkbjaojinaoaaGreatBagO
import Derived.Test.YtemkbjaojinaoaaGreatKit
import Derived.Test.YtemkbjaojinaoaaGreatBagH
import Derived.Maps.AppendAt
import Derived.Deep.QuietTactic
import Derived.BigQuiet
set_option linter.unusedVariables false
set_option linter.unusedSimpArgs false
set_option maxRecDepth 100000
set_option maxHeartbeats 8000000
namespace Go.Proofs.YtemkbjaojinaoaaGreat
open Go.RowKit
theorem M.meetB_iff (a b:M.Box):M.meetB a b=true↔a.x1<b.x2/\b.x1<a.x2/\a.y1<b.y2/\b.y1<a.y2:=by
 unfold M.meetB
 simp
theorem meetBoxes_calls (a b:M.Box) (w:World):Calls Tryz.prog 86 #[boxV a,boxV b] w λe w'=>e=.returned (.bool (M.meetB a b))/\Below w.heap.size w w':=by
 by_cases h:M.meetB a b=true
 ·obtain ⟨h1,h2,h3,h4⟩:=(M.meetB_iff a b).1 h
  rw [h]
  have q1:decide (a.x2<=b.x1)=false:=by rw [decide_eq_false_iff_not];omega
  have q2:decide (b.x2<=a.x1)=false:=by rw [decide_eq_false_iff_not];omega
  have q3:decide (a.y2<=b.y1)=false:=by rw [decide_eq_false_iff_not];omega
  have q4:decide (b.y2<=a.y1)=false:=by rw [decide_eq_false_iff_not];omega
  clear h
  go_enter Tryz.func86,Tryz.ntmps86
  go_wp2_with fail
  go_ret
  exact ⟨rfl,bel9⟩
 ·have hn:=λk=>h ((M.meetB_iff a b).2 k)
  rw [show M.meetB a b=false by simpa using h]
  clear h
  by_cases h1:a.x2<=b.x1
  ·clear hn
   go_enter Tryz.func86,Tryz.ntmps86
   go_wp2_with fail
   go_ret
   exact ⟨rfl,bel9⟩
  ·by_cases h2:b.x2<=a.x1
   ·clear hn
    go_enter Tryz.func86,Tryz.ntmps86
    go_wp2_with fail
    go_ret
    exact ⟨rfl,bel9⟩
   ·by_cases h3:a.y2<=b.y1
    ·clear hn
     go_enter Tryz.func86,Tryz.ntmps86
     go_wp2_with fail
     go_ret
     exact ⟨rfl,bel9⟩
    ·have h4:b.y2<=a.y1:=by
      rcases Int.lt_or_le a.y1 b.y2 with k|k
      ·exact absurd ⟨by omega,by omega,k,by omega⟩ hn
      ·exact k
     clear hn
     go_enter Tryz.func86,Tryz.ntmps86
     go_wp2_with fail
     go_ret
     exact ⟨rfl,bel9⟩
theorem M.goodB_iff {l:List M.Box}:M.goodB l=true↔(∀b∈l,b.x1<b.x2/\b.y1<b.y2)/\(l.map (·.id)).Nodup:=by
 unfold M.goodB
 rw [decide_eq_true_eq]
 exact Iff.rfl
def GoodTo (l:List M.Box) (n:Nat):Prop:=(∀b∈l.take n,b.x1<b.x2/\b.y1<b.y2)/\((l.take n).map (·.id)).Nodup
theorem GoodTo.zero (l:List M.Box):GoodTo l 0:=by simp [GoodTo]
theorem GoodTo.succ {l:List M.Box} {n:Nat} {b:M.Box} (h:GoodTo l n) (hb:l[n]?=some b) (h1:b.x1<b.x2) (h2:b.y1<b.y2) (h3:∀(j:Nat) c,j<n->l[j]?=some c->c.id≠b.id):GoodTo l (n+1):=by
 unfold GoodTo at h⊢
 rw [List.take_add_one,hb]
 simp only [Option.toList_some,List.mem_append,List.mem_singleton,List.map_append,mC,mN]
 refine ⟨λx hx=>?_,?_⟩
 ·rcases hx with hx|rfl
  ·exact h.1 x hx
  ·exact ⟨h1,h2⟩
 ·rw [List.nodup_append]
  refine ⟨h.2,by simp,λx hx y hy=>?_⟩
  simp only [List.mem_singleton] at hy
  subst hy
  obtain ⟨c,hc,rfl⟩:=List.mem_map.1 hx
  obtain ⟨j,hj⟩:=List.getElem?_of_mem hc
  rw [List.getElem?_take] at hj
  split at hj
  ·exact h3 j c ‹_› hj
  ·cases hj
theorem GoodTo.all {l:List M.Box} (h:GoodTo l l.length):M.goodB l=true:=by
 unfold GoodTo at h
 rw [List.take_length] at h
 exact M.goodB_iff.2 h
theorem bad_empty {l:List M.Box} {n:Nat} {b:M.Box} (hb:l[n]?=some b) (h:b.x2<=b.x1\/b.y2<=b.y1):M.goodB l=false:=by
 cases hg:M.goodB l
 ·rfl
 ·have:=(M.goodB_iff.1 hg).1 b (List.mem_of_getElem? hb)
  omega
theorem bad_twice {l:List M.Box} {n j:Nat} {b c:M.Box} (hb:l[n]?=some b) (hc:l[j]?=some c) (hj:j<n) (h:c.id=b.id):M.goodB l=false:=by
 cases hg:M.goodB l
 ·rfl
 ·have hn:=(M.goodB_iff.1 hg).2
  have h1:(l.map (·.id))[n]?=some b.id:=by simp [hb]
  have h2:(l.map (·.id))[j]?=some b.id:=by simp [hc,h]
  have l1:=(List.getElem?_eq_some_iff.1 h1)
  have l2:=(List.getElem?_eq_some_iff.1 h2)
  obtain ⟨p1,e1⟩:=l1
  obtain ⟨p2,e2⟩:=l2
  have:=(List.getElem_inj (h₀:=p1) (h₁:=p2) hn).1 (by rw [e1,e2])
  omega
theorem areBoxes_calls {w:World} {lo:Nat} {v:Value} {l:List M.Box} (h:BoxesAt5 w lo v l) (hcap:CapOk v):Calls Tryz.prog 62 #[v] w λe w'=>e=.returned (.bool (M.goodB l))/\Below w.heap.size w w':=by
 obtain ⟨av,cv,rfl⟩:=h.val
 have hlm:l.length<=9223372036854775807:=by have:=h.max;unfold maxLen at this;omega
 obtain ⟨hc1,hc2⟩:l.length<=cv/\cv<=9223372036854775807:=by
  obtain ⟨a',n',c',e,hn,hc⟩:=hcap
  obtain ⟨_,rfl,rfl⟩:av=a'/\l.length=n'/\cv=c':=by simpa using e
  unfold maxLen at hc
  omega
 have HB:=hI h
 clear h hcap
 go_enter Tryz.func62,Tryz.ntmps62
 go_wp2_with fail
 go_loopg [9] l.length (λg i wr=>∃n:Nat,n<=l.length/\i=.int .i64 n/\g=l.length-n/\GoodTo l n/\Below w.heap.size w wr)
 case atStart=>exact ⟨0,Nat.zero_le _,rfl,rfl,GoodTo.zero l,Below.refl _ _⟩
 case round=>
  obtain ⟨wo,hwo⟩:∃wo,wo=wr:=⟨_,rfl⟩
  subst hwo
  obtain ⟨n,hn,rfl,hgk,hgt,hb⟩:=hrel
  have HBE:=hI hb
  have HK:=hI hgk
  have HGT:=hI hgt
  have ko:=hb.size
  clear hgk hgt hb
  rcases Nat.lt_or_ge n l.length with hlt|hge
  ·obtain ⟨b,hb⟩:∃b,l[n]?=some b:=⟨_,List.getElem?_eq_getElem hlt⟩
   obtain ⟨b1,o1,c1,e1,_,i0,i1,i2,i3,i4⟩:=(HB.out.below HBE.out).at5 hb
   obtain ⟨rfl,rfl⟩:av=some ⟨b1,o1,none⟩/\cv=c1:=by simpa using e1
   have HBB:=hI hb
   clear e1 hb
   by_cases h1:b.x2<=b.x1
   ·go_wp2_with fail
    go_ret
    exact ⟨ret_bool (bad_empty HBB.out (.inl h1)).symm,HBE.out.trans ((show Below wo.heap.size wo _ from bel9).mono ko)⟩
   ·by_cases h2:b.y2<=b.y1
    ·go_wp2_with fail
     go_ret
     exact ⟨ret_bool (bad_empty HBB.out (.inr h2)).symm,HBE.out.trans ((show Below wo.heap.size wo _ from bel9).mono ko)⟩
    ·have p0:(0:Int)<=(n:Int):=by omega
     have p1:(n:Int)<=(cv:Int):=by omega
     go_upto_region 6 with fail
     refine wp_called (λwl hwl=>?_)
     have BB:Blk wl wo.heap.size 40 (boxC b):=by rw [hwl];exact Blk.new_at rfl
     have KL:Below wo.heap.size wo wl:=by rw [hwl];exact bel9
     have HBL:=hI BB
     have HKL:=hI KL
     have kl:=KL.size
     clear hwl BB KL i0 i1 i2 i3 i4
     go_wp2_with fail
     go_loopg [30] n (λg i wr=>∃m:Nat,m<=n/\i=.int .i64 m/\g=n-m/\(∀(j:Nat) c,j<m->l[j]?=some c->c.id≠b.id)/\Below wl.heap.size wl wr)
     case atStart=>exact ⟨0,Nat.zero_le _,rfl,rfl,(λj c hj=>absurd hj (Nat.not_lt_zero _)),Below.refl _ _⟩
     case round=>
      obtain ⟨wq,hwq⟩:∃wq,wq=wr:=⟨_,rfl⟩
      subst hwq
      obtain ⟨m,hm,rfl,hgm,hne,hb⟩:=hrel
      have HBQ:=hI hb
      have HKM:=hI hgm
      have HNE:=hI hne
      have kq:=hb.size
      have KOQ:Below wo.heap.size wo wq:=HKL.out.trans (hb.mono kl)
      have KWQ:Below w.heap.size w wq:=HBE.out.trans (KOQ.mono ko)
      clear hgm hne hb
      rcases Nat.lt_or_ge m n with hlt2|hge2
      ·obtain ⟨c,hc⟩:∃c,l[m]?=some c:=⟨_,List.getElem?_eq_getElem bO⟩
       obtain ⟨b2,o2,c2,e2,_,j0,j1,j2,j3,j4⟩:=(HB.out.below KWQ).at5 hc
       obtain ⟨⟨rfl,rfl⟩,_⟩:(b1=b2/\o1=o2)/\cv=c2:=by simpa using e2
       have BQ:=HBL.out.below HBQ.out HBL.out.lt
       have y0:=BQ.cell 0
       simp at y0
       have ly:=BQ.lt
       have HCC:=hI hc
       have nl1:¬wo.heap.size=wq.heap.size:=by omega
       have nl2:¬wq.heap.size=wo.heap.size:=by omega
       clear e2 BQ hc
       by_cases hid:c.id=b.id
       ·have HBT:=hI (bad_twice HBB.out HCC.out hlt2 hid)
        have q1:(c.id==b.id)=true:=by simpa using hid
        clear hid
        go_wp2_with fail
        go_ret
        exact ⟨ret_bool HBT.out.symm,KWQ.trans ((show Below wq.heap.size wq _ from bel9).mono (by have:=KWQ.size;omega))⟩
       ·have q1:(c.id==b.id)=false:=by simpa using hid
        have HID:=hI hid
        clear hid
        go_wp2_with fail
        go_roundg (n-(m+1))
        case measure=>rw [HKM.out];omega
        case rel=>
         refine ⟨m+1,by omega,by go_num,rfl,λj d hj hd=>?_,HBQ.out.trans ((show Below wq.heap.size wq _ from bel9).mono kq)⟩
         rcases Nat.lt_or_ge j m with k|k
         ·exact HNE.out j d k hd
         ·obtain rfl:j=m:=by omega
          rw [HCC.out] at hd
          simp only [Option.some.injEq] at hd
          subst hd
          exact HID.out
      ·obtain rfl:m=n:=by omega
       go_wp2_with fail
       go_roundg (l.length-(m+1))
       case measure=>rw [HK.out];omega
       case rel=>exact ⟨m+1,by omega,by go_num,rfl,HGT.out.succ HBB.out bO bO HNE.out,KWQ⟩
  ·obtain rfl:n=l.length:=by omega
   have q9:decide ((l.length:Int)<(l.length:Int))=false:=decide_eq_false bO
   go_wp2_with fail
   go_ret
   exact ⟨ret_bool HGT.out.all.symm,HBE.out⟩
def leI (a b:Int):Bool:=decide (a<=b)
theorem leI_trans (a b c:Int):leI a b=true->leI b c=true->leI a c=true:=by simp [leI];omega
theorem leI_total (a b:Int):(leI a b||leI b a)=true:=by simp [leI];omega
structure Bar (g:Nat) (a b:World):Prop where
 os:b.os=a.os
 tape:b.tape=a.tape
 output:b.output=a.output
 size:a.heap.size<=b.heap.size
 block:∀k,k<a.heap.size->k≠g->b.heap[k]?=a.heap[k]?
theorem Bar.refl (g:Nat) (w:World):Bar g w w:=⟨rfl,rfl,rfl,Nat.le_refl _,λ_ _ _=>rfl⟩
theorem Bar.setCell {g:Nat} {a b:World} (h:Bar g a b) (j:Nat) (u:Value):Bar g a (b.setCell ⟨g,j,none⟩ u):=
 ⟨h.os,h.tape,h.output,by simpa [World.setCell] using h.size,λk h1 h2=>(bS _ _ _ _ h2).trans (h.block k h1 h2)⟩
theorem Bar.drewN {g:Nat} {a b:World} (h:Bar g a b) (n:Nat):Bar g a (b.drewN n):=⟨h.os,h.tape,h.output,h.size,h.block⟩
theorem Bar.below {g B:Nat} {a b:World} (h:Bar g a b) (h1:B<=a.heap.size) (h2:B<=g):Below B a b:=⟨h.os,h.tape,h.output,h.size,λk hk=>h.block k bO bO⟩
theorem Blk.bar {w W:World} {g b:Nat} {t:TypeId} {cs:Array Value} (h:Blk w b t cs) (k:Bar g w W) (hne:b≠g):Blk W b t cs:=(k.block b h.lt hne).trans h
theorem ints_put {w:World} {base g n c:Nat} {zs:List Int} (h:w.ownsRow base 3 1 (.slice (some ⟨g,0,none⟩) n c) n (zs.map (Value.int .i64))) (j:Nat) (z:Int):
  (w.setCell ⟨g,j,none⟩ (.int .i64 z)).ownsRow base 3 1 (.slice (some ⟨g,0,none⟩) n c) n ((zs.set j z).map (Value.int .i64)):=by
 have:=own_put h j (.int .i64 z)
 rw [List.map_set]
 exact this
theorem look_ins {zs out:List Int} {k:Nat} {x:Int} (hho:M.Hole zs k out) (hk:k<=zs.length) (hdr:∀q∈zs.drop k,leI q x=false) (hlast:∀j q,j+1=k->zs[j]?=some q->leI q x=true) (hs:zs.Pairwise (λa b=>leI a b=true)):
  (out.set k x).Pairwise (λa b=>leI a b=true)/\(out.set k x).Perm (zs++[x])/\(out.set k x).length=zs.length+1:=by
 rw [M.hole_set hho hk]
 have:=M.ins_ok leI leI_trans leI_total hs hk hdr hlast
 exact ⟨this.1,this.2,by rw [this.2.length_eq,List.length_append];rfl⟩
theorem Blk.grown' {w w':World} {g:Nat} {t:TypeId} {cs:Array Value} {row:Option Nat} (h:Blk w g t cs) (hg:w.grownBy w' row) (hne:row≠some g):Blk w' g t cs:=(hg.block g h.lt (λe=>hne e.symm)).trans h
theorem lookOf_calls {w:World} {lo:Nat} {v:Value} {l:List M.Box} (h:BoxesAt5 w lo v l) (hcap:CapOk v) (hl:l.length<=1048576) (b:M.Box):
  Calls Tryz.prog 30 #[v,boxV b] w λe w'=>∃v',e=.returned v'/\w'.ownsRow w.heap.size 3 1 v' (M.lookB l b).length ((M.lookB l b).map (Value.int .i64))/\Below w.heap.size w w':=by
 have HAB:=hI (λU (hb:Below w.heap.size w U)=>areBoxes_calls (h.below hb) hcap)
 have HB:=hI h
 obtain ⟨av,cv,rfl⟩:=h.val
 obtain ⟨i0,hi,hz0,hz1,hz2⟩:=info_parts infoInt
 have HI:=hI (And.intro hi (And.intro hz0 (And.intro hz1 hz2)))
 have hlm:l.length<=9223372036854775807:=by omega
 obtain ⟨q,hq⟩:∃q,M.goodB l=q:=⟨_,rfl⟩
 rw [hq] at HAB
 have HQ:=hI hq
 clear h hcap hi hz0 hz1 hz2 hq
 cases q
 ·have e:M.lookB l b=[]:=by unfold M.lookB;rw [HQ.out];rfl
  rw [e]
  clear e
  go_enter Tryz.func30,Tryz.ntmps30
  go_wp2_with (go_at_call 62;go_loud (refine (HAB.out _ bel9).mono ?_;rintro e w1 ⟨rfl,hb1⟩;have K1:Below w.heap.size w w1:=(show Below w.heap.size w _ from bel9).trans (hb1.mono sid9)))
  go_ret
  exact ⟨_,rfl,World.ownsRow_nil _ _ _ _,K1⟩
 ·go_enter Tryz.func30,Tryz.ntmps30
  go_wp2_with (go_at_call 62;go_loud (refine (HAB.out _ bel9).mono ?_;rintro e w1 ⟨rfl,hb1⟩;have K1:Below w.heap.size w w1:=(show Below w.heap.size w _ from bel9).trans (hb1.mono sid9);have kz1:=K1.size;have hz1:=hb1.size;(try simp at hz1);have bb1:Blk w1 w.heap.size 40 (boxC b):=(Blk.new w 40 (boxC b)).below hb1 sS))
  have HK1:=hI K1
  have HB1:=hI bb1
  clear K1 hb1 bb1
  go_loopg [5,14] l.length (λg o i wr=>∃(n:Nat) (oa:Option Addr) (oc:Nat) (zs:List Int),n<=l.length/\i=.int .i64 n/\o=.slice oa zs.length oc/\g=l.length-n/\zs.Perm (((l.take n).filter λa=>M.meetB a b).map (·.id))/\zs.Pairwise (λa b=>leI a b=true)/\wr.ownsRow (w.heap.size+1) 3 1 (.slice oa zs.length oc) zs.length (zs.map (Value.int .i64))/\Blk wr w.heap.size 40 (boxC b)/\Below w.heap.size w wr)
  case atStart=>exact ⟨0,none,0,[],Nat.zero_le _,rfl,rfl,rfl,List.Perm.refl _,List.Pairwise.nil,World.ownsRow_nil _ _ _ _,HB1.out,HK1.out⟩
  case round=>
   obtain ⟨wo,hwo⟩:∃wo,wo=wr:=⟨_,rfl⟩
   subst hwo
   obtain ⟨n,oa,oc,zs,hn,rfl,rfl,hgk,hper,hsor,how,hbb,hbe⟩:=hrel
   have HBE:=hI hbe
   have HK:=hI hgk
   have HPE:=hI hper
   have HSO:=hI hsor
   have HOW:=hI how
   have HBB:=hI hbb
   have ko:=hbe.size
   have lbb:=hbb.lt
   have hzl:zs.length<=n:=by
    have:=hper.length_eq
    rw [this,List.length_map]
    exact Nat.le_trans (List.length_filter_le _ _) (List.length_take_le _ _)
   clear hgk hper hsor how hbe
   rcases Nat.lt_or_ge n l.length with hlt|hge
   ·obtain ⟨x,hx⟩:∃x,l[n]?=some x:=⟨_,List.getElem?_eq_getElem hlt⟩
    obtain ⟨b1,o1,c1,e1,_,j0,j1,j2,j3,j4⟩:=(HB.out.below HBE.out).at5 hx
    obtain ⟨rfl,rfl⟩:av=some ⟨b1,o1,none⟩/\cv=c1:=by simpa using e1
    have y1:=hbb.cell 1
    have y2:=hbb.cell 2
    have y3:=hbb.cell 3
    have y4:=hbb.cell 4
    simp at y1 y2 y3 y4
    have nl1:¬w.heap.size=wo.heap.size:=by omega
    have nl2:¬wo.heap.size=w.heap.size:=by omega
    have hstep:(((l.take (n+1)).filter λa=>M.meetB a b).map (·.id))=(((l.take n).filter λa=>M.meetB a b).map (·.id))++(if M.meetB x b=true then [x.id] else []):=by
     rw [List.take_add_one,hx,List.filter_append,List.map_append]
     simp only [Option.toList_some,List.filter_cons,List.filter_nil]
     split<;>rfl
    have HST:=hI hstep
    clear e1 hx hbb hstep
    by_cases h1:x.x1<b.x2
    ·by_cases h2:b.x1<x.x2
     ·by_cases h3:x.y1<b.y2
      ·by_cases h4:b.y1<x.y2
       ·have hm:M.meetB x b=true:=(M.meetB_iff x b).2 ⟨h1,h2,h3,h4⟩
        have HM:=hI hm
        clear hm
        go_upto_region 10 with (at_builtin;refine wpList_append_own_at _ rfl (.tmp 46) (.tmp 49) _ rfl (w.heap.size+1) 3 i0 _ 1 8 Tryz.underlying32 HI.out.1 HI.out.2.1 HI.out.2.2.1 HI.out.2.2.2 rfl bO (.slice oa zs.length oc) zs.length (zs.map (Value.int .i64)) rfl (own_below HOW.out (show Below wo.heap.size wo _ from bel9)) ⟨wo.heap.size+1,0,none⟩ 1 1 [.int .i64 x.id] rfl rfl (by intro j u hu;match j,hu with|0,hu=>(simp at hu;subst hu;rw [Addr.add_lit];simp)|j+1,hu=>simp at hu) (by intro u hu;simp at hu;subst hu;rfl) (by unfold maxLen;omega) bO sO ?_;intro v9 w9 hown9 hg9 _ hat9;obtain ⟨g9,c9,rfl,hg91,hg92⟩:=own_val hown9 bO;have HO9:=hI hown9;have HG9:=hI hg9;have HA9:=hI hat9;have kz9:=hg9.size;(try simp at kz9);clear hown9 hg9 hat9)
        obtain ⟨m,hm⟩:∃m,m=zs.length:=⟨_,rfl⟩
        have b79:Blk w9 wo.heap.size 40 (boxC x):=Blk.grown' (by exact (Blk.new_at rfl).alloc _) HG9.out (λe=>by have:=(HOW.out.lt _ e).2;omega)
        have bb9:Blk w9 w.heap.size 40 (boxC b):=Blk.grown' (by exact (HBB.out.alloc _).alloc _) HG9.out (λe=>by have:=(HOW.out.lt _ e).1;omega)
        have hg9w:w.heap.size<g9:=by omega
        have hg9x:g9≠wo.heap.size:=by
         rcases HA9.out with k|k
         ·intro e
          have:=(HOW.out.lt g9 (by rw [←k];rfl)).2
          omega
         ·simp [Value.ownBlock] at k
          omega
        have HX9:=hI b79
        have HB9:=hI bb9
        have HBE9:Hid (Below w.heap.size w w9):=hI (((HBE.out.alloc ko _).alloc sO _).grown HG9.out sO (λk hk=>by have:=(HOW.out.lt k hk).1;omega))
        have HW9:Hid (w9.ownsRow (w.heap.size+1) 3 1 (.slice (some ⟨g9,0,none⟩) (zs.length+1) c9) (zs.length+1) ((zs++[x.id]).map (Value.int .i64))):=hI (by rw [List.map_append];exact HO9.out)
        clear b79 bb9 y1 y2 y3 y4 j0 j1 j2 j3 j4 h1 h2 h3 h4
        go_loopg [8] zs.length (λgh i wr=>∃(k:Nat) (out:List Int),k<=zs.length/\i=.int .i64 k/\gh=k/\M.Hole zs k out/\(∀q∈zs.drop k,leI q x.id=false)/\wr.ownsRow (w.heap.size+1) 3 1 (.slice (some ⟨g9,0,none⟩) (zs.length+1) c9) (zs.length+1) (out.map (Value.int .i64))/\Bar g9 w9 wr)
        case atStart=>exact ⟨zs.length,zs++[x.id],Nat.le_refl _,rfl,rfl,M.hole_start zs x.id,sS,HW9.out,Bar.refl _ _⟩
        case round=>
         obtain ⟨wq,hwq⟩:∃wq,wq=wr:=⟨_,rfl⟩
         subst hwq
         obtain ⟨k,out,hk,rfl,hgk,hho,hdr,how,hbar⟩:=hrel
         have HKK:=hI hgk
         have HHO:=hI hho
         have HDR:=hI hdr
         have HOQ:=hI how
         have HBAR:=hI hbar
         have kq:=hbar.size
         have bx:=HX9.out.bar hbar (λe=>hg9x e.symm)
         have y0:=bx.cell 0
         simp at y0
         have ly:=bx.lt
         have lg:=(how.lt g9 rfl).2
         have hol:=M.hole_len hho hk
         have fq:=λj=>how.frozenAt j
         clear hgk hho hdr hbar bx
         rcases Nat.eq_zero_or_pos k with hk0|hkp
         ·subst hk0
          obtain ⟨u1,hu1⟩:∃u,out[0]?=some u:=⟨_,List.getElem?_eq_getElem bO⟩
          have z1:=(how.cellAt 0 bO).trans (show (out.map (Value.int .i64))[0]?=some (.int .i64 u1) by simp [hu1])
          clear hu1
          have q0:decide ((0:Int)<((0:Nat):Int))=false:=by rw [decide_eq_false_iff_not];omega
          clear how
          have hins:=look_ins (x:=x.id) HHO.out hk HDR.out (λj q e _=>by omega) HSO.out
          have HINS:=hI hins
          have q4:(0:Int)<(zs.length:Int)+1:=by omega
          clear hins
          go_wp2_with fail
          go_quiet (fail)
          go_wp2_with fail
          go_roundg (l.length-(n+1))
          case measure=>rw [HK.out];omega
          case rel=>
           obtain ⟨s1,s2,s3⟩:=HINS.out
           refine ⟨n+1,some ⟨g9,0,none⟩,c9,out.set 0 x.id,by omega,by go_num,by rw [s3],rfl,?_,s1,?_,?_,?_⟩
           ·rw [HST.out,if_pos HM.out]
            exact s2.trans (HPE.out.append_right _)
           ·rw [s3]
            exact own_same (ints_put HOQ.out 0 x.id) (λ_ _=>rfl)
           ·exact (HB9.out.bar (HBAR.out.drewN _) bO).far sO _
           ·exact (HBE9.out.trans ((HBAR.out.drewN _).below (B:=w.heap.size) bO bO)).setCell sO _
         ·obtain ⟨j,rfl⟩:∃j,k=j+1:=⟨k-1,by omega⟩
          obtain ⟨u,hu⟩:∃u,zs[j]?=some u:=⟨_,List.getElem?_eq_getElem bO⟩
          have hou:=(M.hole_at HHO.out hk (Nat.lt_succ_self j)).trans hu
          have z0:=(how.cellAt j bO).trans (show (out.map (Value.int .i64))[j]?=some (.int .i64 u) by simp [hou])
          have q0:decide ((0:Int)<((j:Int)+1))=true:=by rw [decide_eq_true_eq];omega
          have q1:(0:Int)<=(j:Int):=by omega
          have q2:(j:Int)<(zs.length:Int)+1:=by omega
          have hw1:IntKind.i64.wrap ((j:Int)+1-1)=(j:Int):=by rw [IntKind.wrap_i64];omega
          have HU:=hI hu
          obtain ⟨u1,hu1⟩:∃u,out[j+1]?=some u:=⟨_,List.getElem?_eq_getElem bO⟩
          have z1:=(how.cellAt (j+1) bO).trans (show (out.map (Value.int .i64))[j+1]?=some (.int .i64 u1) by simp [hu1])
          have q8:((j:Int)+1)<(zs.length:Int)+1:=by omega
          clear hu1
          rw [show ((j+1:Nat):Int)=(j:Int)+1 by omega]
          clear how hou hu
          by_cases hgt:x.id<u
          ·have HGT:=hI hgt
           go_wp2_with fail
           go_quiet (fail)
           go_wp2_with fail
           go_roundg j
           case measure=>rw [HKK.out];omega
           case rel=>
            refine ⟨j,out.set (j+1) u,by omega,by go_num,rfl,M.hole_go HHO.out hk HU.out,?_,?_,(HBAR.out.drewN _).setCell _ _⟩
            ·intro q hq
             rw [List.drop_eq_getElem_cons (show j<zs.length by omega)] at hq
             rcases List.mem_cons.1 hq with e|e
             ·have hu2:=HU.out
              rw [List.getElem?_eq_getElem (show j<zs.length by omega)] at hu2
              simp only [Option.some.injEq] at hu2
              have:=HGT.out
              rw [e,hu2]
              unfold leI
              rw [decide_eq_false_iff_not]
              omega
             ·exact HDR.out q e
            ·exact own_same (ints_put HOQ.out (j+1) u) (λ_ _=>rfl)
          ·have q7:decide (x.id<u)=false:=decide_eq_false hgt
           have hins:=look_ins (x:=x.id) HHO.out hk HDR.out (λj' q e hq=>by
            obtain rfl:j'=j:=by omega
            rw [HU.out] at hq
            simp only [Option.some.injEq] at hq
            subst hq
            unfold leI
            rw [decide_eq_true_eq]
            omega) HSO.out
           have HINS:=hI hins
           clear hins
           go_wp2_with fail
           go_quiet (fail)
           go_wp2_with fail
           go_roundg (l.length-(n+1))
           case measure=>rw [HK.out];omega
           case rel=>
            obtain ⟨s1,s2,s3⟩:=HINS.out
            refine ⟨n+1,some ⟨g9,0,none⟩,c9,out.set (j+1) x.id,by omega,by go_num,by rw [s3],rfl,?_,s1,?_,?_,?_⟩
            ·rw [HST.out,if_pos HM.out]
             exact s2.trans (HPE.out.append_right _)
            ·rw [s3]
             exact own_same (ints_put HOQ.out (j+1) x.id) (λ_ _=>rfl)
            ·exact (HB9.out.bar (HBAR.out.drewN _) bO).far sO _
            ·exact (HBE9.out.trans ((HBAR.out.drewN _).below (B:=w.heap.size) bO bO)).setCell sO _
       ·have hm:M.meetB x b=false:=by
         cases hq:M.meetB x b
         ·rfl
         ·have:=(M.meetB_iff x b).1 hq;omega
        have hs2:=HST.out
        rw [if_neg (by rw [hm];simp),List.append_nil] at hs2
        have HS2:=hI hs2
        clear hm hs2
        go_wp2_with fail
        go_roundg (l.length-(n+1))
        case measure=>rw [HK.out];omega
        case rel=>exact ⟨n+1,oa,oc,zs,by omega,by go_num,rfl,rfl,by rw [HS2.out];exact HPE.out,HSO.out,own_below HOW.out bel9,(HBB.out.below (show Below wo.heap.size wo _ from bel9) HBB.out.lt),HBE.out.trans ((show Below wo.heap.size wo _ from bel9).mono ko)⟩
      ·have hm:M.meetB x b=false:=by
        cases hq:M.meetB x b
        ·rfl
        ·have:=(M.meetB_iff x b).1 hq;omega
       have hs2:=HST.out
       rw [if_neg (by rw [hm];simp),List.append_nil] at hs2
       have HS2:=hI hs2
       clear hm hs2
       go_wp2_with fail
       go_roundg (l.length-(n+1))
       case measure=>rw [HK.out];omega
       case rel=>exact ⟨n+1,oa,oc,zs,by omega,by go_num,rfl,rfl,by rw [HS2.out];exact HPE.out,HSO.out,own_below HOW.out bel9,(HBB.out.below (show Below wo.heap.size wo _ from bel9) HBB.out.lt),HBE.out.trans ((show Below wo.heap.size wo _ from bel9).mono ko)⟩
     ·have hm:M.meetB x b=false:=by
       cases hq:M.meetB x b
       ·rfl
       ·have:=(M.meetB_iff x b).1 hq;omega
      have hs2:=HST.out
      rw [if_neg (by rw [hm];simp),List.append_nil] at hs2
      have HS2:=hI hs2
      clear hm hs2
      go_wp2_with fail
      go_roundg (l.length-(n+1))
      case measure=>rw [HK.out];omega
      case rel=>exact ⟨n+1,oa,oc,zs,by omega,by go_num,rfl,rfl,by rw [HS2.out];exact HPE.out,HSO.out,own_below HOW.out bel9,(HBB.out.below (show Below wo.heap.size wo _ from bel9) HBB.out.lt),HBE.out.trans ((show Below wo.heap.size wo _ from bel9).mono ko)⟩
    ·have hm:M.meetB x b=false:=by
      cases hq:M.meetB x b
      ·rfl
      ·have:=(M.meetB_iff x b).1 hq;omega
     have hs2:=HST.out
     rw [if_neg (by rw [hm];simp),List.append_nil] at hs2
     have HS2:=hI hs2
     clear hm hs2
     go_wp2_with fail
     go_roundg (l.length-(n+1))
     case measure=>rw [HK.out];omega
     case rel=>exact ⟨n+1,oa,oc,zs,by omega,by go_num,rfl,rfl,by rw [HS2.out];exact HPE.out,HSO.out,own_below HOW.out bel9,(HBB.out.below (show Below wo.heap.size wo _ from bel9) HBB.out.lt),HBE.out.trans ((show Below wo.heap.size wo _ from bel9).mono ko)⟩
   ·obtain rfl:n=l.length:=by omega
    have q9:decide ((l.length:Int)<(l.length:Int))=false:=decide_eq_false bO
    have hfin:zs=M.lookB l b:=M.look_of_sorted HQ.out (by have:=HPE.out;rw [List.take_length] at this;exact this) HSO.out
    have HF:=hI hfin
    clear hfin
    go_wp2_with fail
    go_ret
    exact ⟨_,rfl,by rw [←HF.out];exact own_mono HOW.out bO,HBE.out⟩
theorem M.meets1_le (seen:List M.Box) (b:M.Box):(M.meets1 seen b).length<=seen.length:=by
 unfold M.meets1
 rw [List.length_map]
 exact List.length_filter_le _ _
theorem M.allP_le (l:List M.Box):(M.allP l).length<=l.length*l.length:=by
 refine M.snocInd (motive:=λl=>(M.allP l).length<=l.length*l.length) l (by rw [M.allP_nil];exact Nat.le_refl _) (λl a ih=>?_)
 rw [M.allP_snoc,List.length_append,List.length_append,List.length_singleton]
 have:=M.meets1_le l a
 have:(l.length+1)*(l.length+1)=l.length*l.length+l.length+l.length+1:=by rw [Nat.add_mul,Nat.mul_add];omega
 omega
theorem flat2_set (l:List M.Pr) (k:Nat) (p:M.Pr):((l.flatMap pairL).set (k*2) (.int .i64 p.1)).set (k*2+1) (.int .i64 p.2)=(l.set k p).flatMap pairL:=by
 induction l generalizing k with
 |nil=>simp
 |cons a l ih=>
  cases k with
  |zero=>simp [pairL]
  |succ k=>
   have e1:(k+1)*2=k*2+1+1:=by omega
   have e2:(k+1)*2+1=k*2+1+1+1:=by omega
   rw [e1,List.set_cons_succ,List.flatMap_cons,List.flatMap_cons,←ih k]
   simp [pairL]
theorem pairs_put {w:World} {base g n c:Nat} {zs:List M.Pr} (h:w.ownsRow base 71 2 (.slice (some ⟨g,0,none⟩) n c) n (zs.flatMap pairL)) (j:Nat) (z:M.Pr):
  ((w.setCell ⟨g,j*2,none⟩ (.int .i64 z.1)).setCell ⟨g,j*2+1,none⟩ (.int .i64 z.2)).ownsRow base 71 2 (.slice (some ⟨g,0,none⟩) n c) n ((zs.set j z).flatMap pairL):=by
 have:=own_put (own_put h (j*2) (.int .i64 z.1)) (j*2+1) (.int .i64 z.2)
 rw [←flat2_set]
 exact this
theorem pair_ins {zs out:List M.Pr} {k:Nat} {x:M.Pr} (hho:M.Hole zs k out) (hk:k<=zs.length) (hdr:∀q∈zs.drop k,M.leP q x=false) (hlast:∀j q,j+1=k->zs[j]?=some q->M.leP q x=true) (hs:zs.Pairwise (λa b=>M.leP a b=true)):
  (out.set k x).Pairwise (λa b=>M.leP a b=true)/\(out.set k x).Perm (zs++[x])/\(out.set k x).length=zs.length+1:=by
 rw [M.hole_set hho hk]
 have:=M.ins_ok M.leP M.leP_trans M.leP_total hs hk hdr hlast
 exact ⟨this.1,this.2,by rw [this.2.length_eq,List.length_append];rfl⟩
theorem pair_cells {w:World} {base g n c:Nat} {zs:List M.Pr} (h:w.ownsRow base 71 2 (.slice (some ⟨g,0,none⟩) n c) n (zs.flatMap pairL)) (hn:zs.length=n) {j:Nat} {u:M.Pr} (hu:zs[j]?=some u):
  w.cell? ⟨g,j*2,none⟩=some (.int .i64 u.1)/\w.cell? ⟨g,j*2+1,none⟩=some (.int .i64 u.2):=by
 have hj:j<n:=by rw [←hn];exact (List.getElem?_eq_some_iff.1 hu).1
 exact ⟨(h.cellAt (j*2) bO).trans (flat_at pairL 2 (λ_=>rfl) zs j 0 hu bO),(h.cellAt (j*2+1) bO).trans (flat_at pairL 2 (λ_=>rfl) zs j 1 hu bO)⟩
theorem pairsOf_calls {w:World} {lo:Nat} {v:Value} {l:List M.Box} (h:BoxesAt5 w lo v l) (hcap:CapOk v) (hl:l.length<=1048576):
  Calls Tryz.prog 58 #[v] w λe w'=>∃v',e=.returned v'/\w'.ownsRow w.heap.size 71 2 v' (M.pairs l).length ((M.pairs l).flatMap pairL)/\Below w.heap.size w w':=by
 have HAB:=hI (λU (hb:Below w.heap.size w U)=>areBoxes_calls (h.below hb) hcap)
 have HB:=hI h
 obtain ⟨av,cv,rfl⟩:=h.val
 obtain ⟨hc1,hc2⟩:l.length<=cv/\cv<=9223372036854775807:=by
  obtain ⟨a',n',c',e,hn,hc⟩:=hcap
  obtain ⟨_,rfl,rfl⟩:av=a'/\l.length=n'/\cv=c':=by simpa using e
  unfold maxLen at hc
  omega
 obtain ⟨i0,hi,hz0,hz1,hz2⟩:=info_parts infoPair
 have HI:=hI (And.intro hi (And.intro hz0 (And.intro hz1 hz2)))
 have hlm:l.length<=9223372036854775807:=by omega
 obtain ⟨q,hq⟩:∃q,M.goodB l=q:=⟨_,rfl⟩
 rw [hq] at HAB
 have HQ:=hI hq
 clear h hcap hi hz0 hz1 hz2 hq
 cases q
 ·have e:M.pairs l=[]:=by unfold M.pairs;rw [HQ.out];rfl
  rw [e]
  clear e
  go_enter Tryz.func58,Tryz.ntmps58
  go_wp2_with (go_at_call 62;go_loud (refine (HAB.out _ bel9).mono ?_;rintro e w1 ⟨rfl,hb1⟩;have K1:Below w.heap.size w w1:=(show Below w.heap.size w _ from bel9).trans (hb1.mono sid9)))
  go_ret
  exact ⟨_,rfl,World.ownsRow_nil _ _ _ _,K1⟩
 ·go_enter Tryz.func58,Tryz.ntmps58
  go_wp2_with (go_at_call 62;go_loud (refine (HAB.out _ bel9).mono ?_;rintro e w1 ⟨rfl,hb1⟩;have K1:Below w.heap.size w w1:=(show Below w.heap.size w _ from bel9).trans (hb1.mono sid9)))
  have HK1:=hI K1
  clear K1 hb1
  go_loopg [3,15] l.length (λg o i wr=>∃(n:Nat) (oa:Option Addr) (oc:Nat) (zs:List M.Pr),n<=l.length/\i=.int .i64 n/\o=.slice oa zs.length oc/\g=l.length-n/\zs.Perm (M.allP (l.take n))/\zs.Pairwise (λa b=>M.leP a b=true)/\wr.ownsRow w.heap.size 71 2 (.slice oa zs.length oc) zs.length (zs.flatMap pairL)/\Below w.heap.size w wr)
  case atStart=>exact ⟨0,none,0,[],Nat.zero_le _,rfl,rfl,rfl,by simp [M.allP_nil],List.Pairwise.nil,World.ownsRow_nil _ _ _ _,HK1.out⟩
  case round=>
   obtain ⟨wo,hwo⟩:∃wo,wo=wr:=⟨_,rfl⟩
   subst hwo
   obtain ⟨n,oa,oc,zs,hn,rfl,rfl,hgk,hper,hsor,how,hbe⟩:=hrel
   have HBE:=hI hbe
   have HK:=hI hgk
   have HPE0:=hI hper
   have HSO0:=hI hsor
   have HOW0:=hI how
   have ko:=hbe.size
   clear hgk hper hsor how hbe
   rcases Nat.lt_or_ge n l.length with hlt|hge
   ·obtain ⟨a,ha⟩:∃a,l[n]?=some a:=⟨_,List.getElem?_eq_getElem hlt⟩
    obtain ⟨b1,o1,c1,e1,_,j0,j1,j2,j3,j4⟩:=(HB.out.below HBE.out).at5 ha
    obtain ⟨rfl,rfl⟩:av=some ⟨b1,o1,none⟩/\cv=c1:=by simpa using e1
    have hstep:M.allP (l.take (n+1))=M.allP (l.take n)++M.meets1 (l.take n) a:=by
     rw [List.take_add_one,ha]
     exact M.allP_snoc _ _
    have HSTEP:=hI hstep
    have p0:(0:Int)<=(n:Int):=by omega
    have p1:(n:Int)<=(cv:Int):=by omega
    clear e1 ha hstep
    go_upto_region 7 with fail
    refine wp_called (λwl hwl=>?_)
    have BB:Blk wl wo.heap.size 40 (boxC a):=by rw [hwl];exact Blk.new_at rfl
    have KL:Below wo.heap.size wo wl:=by rw [hwl];exact bel9
    have HBL:=hI BB
    have HKL:=hI KL
    have kl:=KL.size
    have ll:=BB.lt
    have HOWL:=hI (own_below HOW0.out KL)
    have HNB:Hid (∀g,(Value.slice oa zs.length oc).ownBlock=some g->w.heap.size<=g/\g≠wo.heap.size):=hI (λg e=>by have:=HOW0.out.lt g e;omega)
    have HBEL:Hid (Below w.heap.size w wl):=hI (HBE.out.trans (KL.mono ko))
    clear hwl BB KL j0 j1 j2 j3 j4
    obtain ⟨zs0,oa0,oc0,hzz⟩:∃zs0 oa0 oc0,zs0=zs/\oa0=oa/\oc0=oc:=⟨_,_,_,rfl,rfl,rfl⟩
    obtain ⟨e1,e2,e3⟩:=hzz
    rw [←e1] at HPE0 HSO0
    rw [←e1,←e2,←e3] at HOWL HNB
    rw [←e1,←e2,←e3]
    clear HOW0
    clear e1 e2 e3
    clear zs oa oc
    go_wp2_with fail
    go_loopg [3,24] n (λg o i wr=>∃(m:Nat) (oa:Option Addr) (oc:Nat) (zs:List M.Pr),m<=n/\i=.int .i64 m/\o=.slice oa zs.length oc/\g=n-m/\zs.Perm (M.allP (l.take n)++M.meets1 (l.take m) a)/\zs.Pairwise (λa b=>M.leP a b=true)/\wr.ownsRow w.heap.size 71 2 (.slice oa zs.length oc) zs.length (zs.flatMap pairL)/\(∀g,(Value.slice oa zs.length oc).ownBlock=some g->w.heap.size<=g/\g≠wo.heap.size)/\Blk wr wo.heap.size 40 (boxC a)/\Below w.heap.size w wr)
    case atStart=>exact ⟨0,oa0,oc0,zs0,Nat.zero_le _,rfl,rfl,rfl,by simpa [M.meets1] using HPE0.out,HSO0.out,HOWL.out,HNB.out,HBL.out,HBEL.out⟩
    case round=>
     obtain ⟨wq,hwq⟩:∃wq,wq=wr:=⟨_,rfl⟩
     subst hwq
     obtain ⟨m,oa,oc,zs,hm,rfl,rfl,hgm,hper,hsor,how,hnb,hba,hbe⟩:=hrel
     have HBEQ:=hI hbe
     have HKM:=hI hgm
     have HPE:=hI hper
     have HSO:=hI hsor
     have HOW:=hI how
     have HNQ:=hI hnb
     have HBA:=hI hba
     have kq:=hbe.size
     have lba:=hba.lt
     clear hgm hper hsor how hnb hbe
     rcases Nat.lt_or_ge m n with hlt2|hge2
     ·obtain ⟨c,hc⟩:∃c,l[m]?=some c:=⟨_,List.getElem?_eq_getElem bO⟩
      obtain ⟨b2,o2,c2,e2,_,j0,j1,j2,j3,j4⟩:=(HB.out.below HBEQ.out).at5 hc
      obtain ⟨⟨rfl,rfl⟩,-⟩:(b1=b2/\o1=o2)/\cv=c2:=by simpa using e2
      have hstep:M.allP (l.take n)++M.meets1 (l.take (m+1)) a=M.allP (l.take n)++M.meets1 (l.take m) a++(if M.meetB c a=true then [M.pairOf c.id a.id] else []):=by
       rw [List.take_add_one,hc]
       show _++M.meets1 (l.take m++[c]) a=_
       rw [M.meets1_snoc,List.append_assoc]
      have HST:=hI hstep
      have hzl:zs.length<=1099511627776+1048576:=by
       rw [HPE.out.length_eq,List.length_append]
       have q1:=M.allP_le (l.take n)
       have q2:=M.meets1_le (l.take m) a
       rw [List.length_take] at q1 q2
       have q3:min n l.length<=1048576:=by omega
       have q4:min n l.length*min n l.length<=1048576*1048576:=Nat.mul_le_mul q3 q3
       omega
      have x0:=hba.cell 0
      have x1:=hba.cell 1
      have x2:=hba.cell 2
      have x3:=hba.cell 3
      have x4:=hba.cell 4
      simp at x0 x1 x2 x3 x4
      have nl1:¬wo.heap.size=wq.heap.size:=by omega
      have nl2:¬wq.heap.size=wo.heap.size:=by omega
      have HMB:=hI (λW=>meetBoxes_calls a c W)
      obtain ⟨mb,hmb⟩:∃mb,M.meetB a c=mb:=⟨_,rfl⟩
      rw [hmb] at HMB
      have HMM:Hid (M.meetB c a=mb):=hI (by rw [M.meetB_comm];exact hmb)
      clear e2 hc hstep hba hmb
      cases mb
      ·have hs2:=HST.out
       rw [if_neg (by rw [HMM.out];simp),List.append_nil] at hs2
       have HS2:=hI hs2
       clear hs2
       go_wp2_with (go_at_call 86;go_loud (refine (HMB.out _).mono ?_;rintro e w7 ⟨rfl,hb7⟩;have hz7:=hb7.size;(try simp at hz7);have hz7':wq.heap.size<=w7.heap.size:=bO;have K7:Below wq.heap.size wq w7:=(show Below wq.heap.size wq _ from bel9).trans (hb7.mono sid9);have bc7:Blk w7 wq.heap.size 40 (boxC c):=Blk.below (by exact Blk.new_at rfl) hb7 sid9;have y0:=bc7.cell 0;simp at y0;have ly:=bc7.lt;have xa0:=below_cell x0 K7;clear hb7))
       go_roundg (n-(m+1))
       case measure=>rw [HKM.out];omega
       case rel=>
        have kb:Below wq.heap.size wq w7:=K7
        exact ⟨m+1,oa,oc,zs,by omega,by go_num,rfl,rfl,by rw [HS2.out];exact HPE.out,HSO.out,own_below HOW.out kb,HNQ.out,HBA.out.below kb HBA.out.lt,HBEQ.out.trans (kb.mono kq)⟩
      ·obtain ⟨pp,hpp⟩:∃pp,pp=M.pairOf c.id a.id:=⟨_,rfl⟩
       have HPP:=hI hpp
       have hs2:=HST.out
       rw [if_pos HMM.out,←hpp] at hs2
       have HS3:=hI hs2
       clear hpp hs2
       go_upto_region 11 with (go_at_call 86;go_loud (refine (HMB.out _).mono ?_;rintro e w7 ⟨rfl,hb7⟩;have hz7:=hb7.size;(try simp at hz7);have hz7':wq.heap.size<=w7.heap.size:=bO;have K7:Below wq.heap.size wq w7:=(show Below wq.heap.size wq _ from bel9).trans (hb7.mono sid9);have bc7:Blk w7 wq.heap.size 40 (boxC c):=Blk.below (by exact Blk.new_at rfl) hb7 sid9;have y0:=bc7.cell 0;simp at y0;have ly:=bc7.lt;have xa0:=below_cell x0 K7;clear hb7))
       have HK7:=hI K7
       have HBC7:=hI bc7
       have HBA7:=hI (HBA.out.below K7 HBA.out.lt)
       have e1:pp.1=min a.id c.id:=by rw [HPP.out];exact Int.min_comm _ _
       have e2:pp.2=max a.id c.id:=by rw [HPP.out];exact Int.max_comm _ _
       have HE1:=hI e1
       have HE2:=hI e2
       clear e1 e2 x0 x1 x2 x3 x4 j0 j1 j2 j3 j4 K7 bc7
       go_upto_region 12 with fail
       refine wp_called (λw8 hw8=>?_)
       have BP:Blk w8 w7.heap.size 71 #[.int .i64 pp.1,.int .i64 pp.2]:=by rw [hw8,HE1.out,HE2.out];exact Blk.new_at rfl
       have K78:Below w7.heap.size w7 w8:=by rw [hw8];exact bel9
       have k78:=K78.size
       have HBP:=hI BP
       have hpw:Hid (Below wq.heap.size wq w8):=hI (HK7.out.trans (K78.mono hz7'))
       have HBA8:=hI (HBA7.out.below K78 bO)
       have HOW7:Hid (w8.ownsRow w.heap.size 71 2 (.slice oa zs.length oc) zs.length (zs.flatMap pairL)):=hI (own_below HOW.out hpw.out)
       have kq8:=hpw.out.size
       have b0:=BP.cell 0
       have b1':=BP.cell 1
       simp at b0 b1'
       have lp:=BP.lt
       clear hw8 BP K78 y0 xa0
       go_upto_region 14 with (at_builtin;refine wpList_append_own_at _ rfl (.tmp 45) (.tmp 47) _ rfl w.heap.size 71 i0 _ 2 16 Tryz.underlying33 HI.out.1 HI.out.2.1 HI.out.2.2.1 HI.out.2.2.2 rfl bO (.slice oa zs.length oc) zs.length (zs.flatMap pairL) rfl (own_below HOW7.out bel9) ⟨w8.heap.size,0,none⟩ 1 1 [.int .i64 pp.1,.int .i64 pp.2] rfl rfl (by intro j u hu;rw [Addr.add_lit];match j,hu with|0,hu=>(simp at hu;subst hu;simp)|1,hu=>(simp at hu;subst hu;simp)|j+2,hu=>simp at hu) (by intro u hu;simp at hu;rcases hu with rfl|rfl<;>rfl) (by unfold maxLen;omega) bO sO ?_;intro v9 w9 hown9 hg9 _ hat9;obtain ⟨g9,c9,rfl,hg91,hg92⟩:=own_val hown9 bO;have HO9:=hI hown9;have HG9:=hI hg9;have HA9:=hI hat9;have kz9:=hg9.size;(try simp at kz9);clear hown9 hg9 hat9)
       have hold:∀g,(Value.slice oa zs.length oc).ownBlock=some g->g<wq.heap.size:=λg e=>(HOW.out.lt g e).2
       have BP9:Blk w9 w7.heap.size 71 #[.int .i64 pp.1,.int .i64 pp.2]:=Blk.grown' (HBP.out.alloc _) HG9.out (λe=>by have:=hold _ e;omega)
       have BA9:Blk w9 wo.heap.size 40 (boxC a):=Blk.grown' (HBA8.out.alloc _) HG9.out (λe=>(HNQ.out _ e).2 rfl)
       have hg9a:g9≠wo.heap.size:=by
        rcases HA9.out with k|k
        ·exact (HNQ.out g9 (by rw [←k];rfl)).2
        ·simp [Value.ownBlock] at k
         omega
       have hg9p:g9≠w7.heap.size:=by
        rcases HA9.out with k|k
        ·have:=hold g9 (by rw [←k];rfl)
         omega
        ·simp [Value.ownBlock] at k
         omega
       have HBP9:=hI BP9
       have HA9b:=hI BA9
       have HBE9:Hid (Below w.heap.size w w9):=hI (((HBEQ.out.trans (hpw.out.mono kq)).alloc bO _).grown HG9.out sO (λk hk=>by have:=(HNQ.out k hk).1;omega))
       have HW9:Hid (w9.ownsRow w.heap.size 71 2 (.slice (some ⟨g9,0,none⟩) (zs.length+1) c9) (zs.length+1) ((zs++[pp]).flatMap pairL)):=hI (by rw [List.flatMap_append];simpa [pairL] using HO9.out)
       clear BP9 BA9 b0 b1' hold
       go_loopg [9] zs.length (λgh i wr=>∃(k:Nat) (out:List M.Pr),k<=zs.length/\i=.int .i64 k/\gh=k/\M.Hole zs k out/\(∀q∈zs.drop k,M.leP q pp=false)/\wr.ownsRow w.heap.size 71 2 (.slice (some ⟨g9,0,none⟩) (zs.length+1) c9) (zs.length+1) (out.flatMap pairL)/\Bar g9 w9 wr)
       case atStart=>exact ⟨zs.length,zs++[pp],Nat.le_refl _,rfl,rfl,M.hole_start zs pp,sS,HW9.out,Bar.refl _ _⟩
       case round=>
        obtain ⟨wz,hwz⟩:∃wz,wz=wr:=⟨_,rfl⟩
        subst hwz
        obtain ⟨k,out,hk,rfl,hgk,hho,hdr,how,hbar⟩:=hrel
        have HKK:=hI hgk
        have HHO:=hI hho
        have HDR:=hI hdr
        have HOQ:=hI how
        have HBAR:=hI hbar
        have kz:=hbar.size
        have bx:=HBP9.out.bar hbar (λe=>hg9p e.symm)
        have y0:=bx.cell 0
        have y1:=bx.cell 1
        simp at y0 y1
        have ly:=bx.lt
        have lg:=(how.lt g9 rfl).2
        have hol:=M.hole_len hho hk
        have fq:=λj=>how.frozenAt j
        clear hgk hho hdr hbar bx
        rcases Nat.eq_zero_or_pos k with hk0|hkp
        ·subst hk0
         obtain ⟨u1,hu1⟩:∃u,out[0]?=some u:=⟨_,List.getElem?_eq_getElem bO⟩
         obtain ⟨z1,z2⟩:=pair_cells how hol hu1
         have q0:decide ((0:Int)<((0:Nat):Int))=false:=by rw [decide_eq_false_iff_not];omega
         have q4:(0:Int)<(zs.length:Int)+1:=by omega
         simp at z1 z2
         clear hu1 how
         have hins:=pair_ins (x:=pp) HHO.out hk HDR.out (λj q e _=>by omega) HSO.out
         have HINS:=hI hins
         clear hins
         go_wp2_with fail
         go_quiet (fail)
         go_wp2_with fail
         go_roundg (n-(m+1))
         case measure=>rw [HKM.out];omega
         case rel=>
          obtain ⟨s1,s2,s3⟩:=HINS.out
          refine ⟨m+1,some ⟨g9,0,none⟩,c9,out.set 0 pp,by omega,by go_num,by rw [s3],rfl,?_,s1,?_,?_,?_,?_⟩
          ·rw [HS3.out]
           exact s2.trans (HPE.out.append_right _)
          ·rw [s3]
           exact own_same (pairs_put HOQ.out 0 pp) (λ_ _=>rfl)
          ·intro g e
           have e':g9=g:=by simpa [Value.ownBlock] using e
           exact ⟨by omega,by omega⟩
          ·exact ((HA9b.out.bar (HBAR.out.drewN _) (λe=>hg9a e.symm)).far sO _).far sO _
          ·exact ((HBE9.out.trans ((HBAR.out.drewN _).below (B:=w.heap.size) bO bO)).setCell sO _).setCell sO _
        ·obtain ⟨j,rfl⟩:∃j,k=j+1:=⟨k-1,by omega⟩
         obtain ⟨u,hu⟩:∃u,zs[j]?=some u:=⟨_,List.getElem?_eq_getElem bO⟩
         have hou:=(M.hole_at HHO.out hk (Nat.lt_succ_self j)).trans hu
         obtain ⟨z0,z0'⟩:=pair_cells how hol hou
         obtain ⟨u1,hu1⟩:∃u,out[j+1]?=some u:=⟨_,List.getElem?_eq_getElem bO⟩
         obtain ⟨z1,z1'⟩:=pair_cells how hol hu1
         have q0:decide ((0:Int)<((j:Int)+1))=true:=by rw [decide_eq_true_eq];omega
         have q1:(0:Int)<=(j:Int):=by omega
         have q2:(j:Int)<(zs.length:Int)+1:=by omega
         have hw1:IntKind.i64.wrap ((j:Int)+1-1)=(j:Int):=by rw [IntKind.wrap_i64];omega
         have HU:=hI hu
         have q8:((j:Int)+1)<(zs.length:Int)+1:=by omega
         clear hu1 how hou hu
         rw [show ((j+1:Nat):Int)=(j:Int)+1 by omega]
         by_cases h1:pp.1<u.1
         ·have HGT:Hid (M.leP u pp=false):=hI (by unfold M.leP;simp;omega)
          go_wp2_with fail
          go_quiet (fail)
          go_wp2_with fail
          go_roundg j
          case measure=>rw [HKK.out];omega
          case rel=>
           refine ⟨j,out.set (j+1) u,by omega,by go_num,rfl,M.hole_go HHO.out hk HU.out,?_,?_,((HBAR.out.drewN _).setCell _ _).setCell _ _⟩
           ·intro q hq
            rw [List.drop_eq_getElem_cons (show j<zs.length by omega)] at hq
            rcases List.mem_cons.1 hq with e|e
            ·have hu2:=HU.out
             rw [List.getElem?_eq_getElem (show j<zs.length by omega)] at hu2
             simp only [Option.some.injEq] at hu2
             rw [e,hu2]
             exact HGT.out
            ·exact HDR.out q e
           ·exact own_same (pairs_put HOQ.out (j+1) u) (λ_ _=>rfl)
         ·have d1:decide (pp.1<u.1)=false:=decide_eq_false h1
          by_cases h2:u.1=pp.1
          ·have b2:(u.1==pp.1)=true:=by simpa using h2
           by_cases h3:pp.2<u.2
           ·have HGT:Hid (M.leP u pp=false):=hI (by unfold M.leP;simp;omega)
            clear h2
            go_wp2_with fail
            go_quiet (fail)
            go_wp2_with fail
            go_roundg j
            case measure=>rw [HKK.out];omega
            case rel=>
             refine ⟨j,out.set (j+1) u,by omega,by go_num,rfl,M.hole_go HHO.out hk HU.out,?_,?_,((HBAR.out.drewN _).setCell _ _).setCell _ _⟩
             ·intro q hq
              rw [List.drop_eq_getElem_cons (show j<zs.length by omega)] at hq
              rcases List.mem_cons.1 hq with e|e
              ·have hu2:=HU.out
               rw [List.getElem?_eq_getElem (show j<zs.length by omega)] at hu2
               simp only [Option.some.injEq] at hu2
               rw [e,hu2]
               exact HGT.out
              ·exact HDR.out q e
             ·exact own_same (pairs_put HOQ.out (j+1) u) (λ_ _=>rfl)
           ·have d3:decide (pp.2<u.2)=false:=decide_eq_false h3
            have HLE:Hid (M.leP u pp=true):=hI (by unfold M.leP;simp;omega)
            clear h2
            have hins:=pair_ins (x:=pp) HHO.out hk HDR.out (λj' q e hq=>by
              obtain rfl:j'=j:=by omega
              rw [HU.out] at hq
              simp only [Option.some.injEq] at hq
              subst hq
              exact HLE.out) HSO.out
            have HINS:=hI hins
            clear hins
            go_wp2_with fail
            go_quiet (fail)
            go_wp2_with fail
            go_roundg (n-(m+1))
            case measure=>rw [HKM.out];omega
            case rel=>
             obtain ⟨s1,s2,s3⟩:=HINS.out
             refine ⟨m+1,some ⟨g9,0,none⟩,c9,out.set (j+1) pp,by omega,by go_num,by rw [s3],rfl,?_,s1,?_,?_,?_,?_⟩
             ·rw [HS3.out]
              exact s2.trans (HPE.out.append_right _)
             ·rw [s3]
              exact own_same (pairs_put HOQ.out (j+1) pp) (λ_ _=>rfl)
             ·intro g e
              have e':g9=g:=by simpa [Value.ownBlock] using e
              exact ⟨by omega,by omega⟩
             ·exact ((HA9b.out.bar (HBAR.out.drewN _) (λe=>hg9a e.symm)).far sO _).far sO _
             ·exact ((HBE9.out.trans ((HBAR.out.drewN _).below (B:=w.heap.size) bO bO)).setCell sO _).setCell sO _
          ·have b2:(u.1==pp.1)=false:=by simpa using h2
           have HLE:Hid (M.leP u pp=true):=hI (by unfold M.leP;simp;omega)
           clear h2
           have hins:=pair_ins (x:=pp) HHO.out hk HDR.out (λj' q e hq=>by
             obtain rfl:j'=j:=by omega
             rw [HU.out] at hq
             simp only [Option.some.injEq] at hq
             subst hq
             exact HLE.out) HSO.out
           have HINS:=hI hins
           clear hins
           go_wp2_with fail
           go_quiet (fail)
           go_wp2_with fail
           go_roundg (n-(m+1))
           case measure=>rw [HKM.out];omega
           case rel=>
            obtain ⟨s1,s2,s3⟩:=HINS.out
            refine ⟨m+1,some ⟨g9,0,none⟩,c9,out.set (j+1) pp,by omega,by go_num,by rw [s3],rfl,?_,s1,?_,?_,?_,?_⟩
            ·rw [HS3.out]
             exact s2.trans (HPE.out.append_right _)
            ·rw [s3]
             exact own_same (pairs_put HOQ.out (j+1) pp) (λ_ _=>rfl)
            ·intro g e
             have e':g9=g:=by simpa [Value.ownBlock] using e
             exact ⟨by omega,by omega⟩
            ·exact ((HA9b.out.bar (HBAR.out.drewN _) (λe=>hg9a e.symm)).far sO _).far sO _
            ·exact ((HBE9.out.trans ((HBAR.out.drewN _).below (B:=w.heap.size) bO bO)).setCell sO _).setCell sO _
     ·obtain rfl:m=n:=by omega
      have q9:decide ((m:Int)<(m:Int))=false:=decide_eq_false bO
      go_wp2_with fail
      go_roundg (l.length-(m+1))
      case measure=>rw [HK.out];omega
      case rel=>exact ⟨m+1,oa,oc,zs,by omega,by go_num,rfl,rfl,by rw [HSTEP.out];exact HPE.out,HSO.out,HOW.out,HBEQ.out⟩
   ·obtain rfl:n=l.length:=by omega
    have q9:decide ((l.length:Int)<(l.length:Int))=false:=decide_eq_false bO
    have hfin:zs=M.pairs l:=M.pairs_of_sorted HQ.out (by have:=HPE0.out;rw [List.take_length] at this;exact this) HSO0.out
    have HF:=hI hfin
    clear hfin
    go_wp2_with fail
    go_ret
    exact ⟨_,rfl,by rw [←HF.out];exact HOW0.out,HBE.out⟩
end Go.Proofs.YtemkbjaojinaoaaGreat
