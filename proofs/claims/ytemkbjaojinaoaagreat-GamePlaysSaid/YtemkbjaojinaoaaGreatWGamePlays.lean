/- The walk of GamePlays. Condition: the acts lie in memory, their numbers are of 64 bits. -/
import Derived.Test.YtemkbjaojinaoaaGreatShort
import Derived.Test.YtemkbjaojinaoaaGreatPlaysDraw
import Derived.Test.YtemkbjaojinaoaaGreatBagA
import Derived.Test.YtemkbjaojinaoaaGreatBagWf
import Derived.Test.YtemkbjaojinaoaaGreatBagM3
import Derived.Test.YtemkbjaojinaoaaGreatBagN2
set_option linter.unusedVariables false
set_option linter.unusedSimpArgs false
set_option maxRecDepth 100000
set_option maxHeartbeats 8000000
namespace Go.Proofs.YtemkbjaojinaoaaGreat
open Go.RowKit
theorem two_world {w W:World} {g rg:Nat} {G H:M.Game} {K:Nat->Prop} (h:Two w W g rg G H K) (hG:M.GoodG G):
  Calls Tryz.prog 12 #[.pointer (some ⟨g,0,none⟩)] W λe w'=>∃a c,e=.returned (wdV (.slice a G.w.things.tables.length c) G.w)/\StoreAt w' 0 (stV a c G.w.things) G.w.things/\Below W.heap.size W w':=by
 obtain ⟨Q,R,a,c,sv,hs,b,rv,rs,h1,_⟩:=h
 refine (gworld_calls h1 hG).mono ?_
 rintro e w' ⟨a',c',hs',rfl,ho,hb⟩
 exact ⟨a',c',rfl,ho.at_.mono (Nat.zero_le _),hb⟩
theorem Two.map {w W:World} {g rg:Nat} {G H:M.Game} {K:Nat->Prop} (h:Two w W g rg G H K):
  ∃b rv,Blk W rg 58 (refC b rv H)/\MapA W b (M.at_ H.w.things) (M.size H.w.things):=by
 obtain ⟨Q,R,a,c,sv,hs,b,rv,rs,_,h2,_⟩:=h
 exact ⟨b,rv,h2.blk,h2.map.2⟩
theorem two_start {w w1 w2 w3:World} {g rg b:Nat} {G:M.Game} {a:Option Addr} {c:Nat} {sv rv:Value} {hs:List Value} {rs:List Nat} (h1:GameAt w1 (λb=>w.heap.size<=b/\b<w1.heap.size) g G a c sv hs) (k1:Below w.heap.size w w1) (h2:RefAt w2 (λx=>w1.heap.size<=x/\x<w2.heap.size) rg G b rv rs) (k2:Below w1.heap.size w1 w2) (k3:Below w2.heap.size w2 w3):Two w w3 g rg G G (λ_=>False):=by
 have z1:=k1.size
 have z2:=k2.size
 exact Two.more (W:=w2) ⟨_,_,a,c,sv,hs,b,rv,rs,h1.below k2,h2,λy q=>⟨q.1,by have:=q.2;omega⟩,λy q=>⟨by have:=q.1;omega,q.2,λk=>by have:=q.1;have:=k.2;omega,λk=>k⟩,k1.trans (k2.mono z1)⟩ k3
theorem one_start {w1 w2 w3:World} {rg b:Nat} {G:M.Game} {rv:Value} {rs:List Nat} (h2:RefAt w2 (λx=>w1.heap.size<=x/\x<w2.heap.size) rg G b rv rs) (k2:Below w1.heap.size w1 w2) (k3:Below w2.heap.size w2 w3):One w1 w3 rg G:=
 One.more (W:=w2) ⟨_,b,rv,rs,h2,λy q=>q,k2⟩ k3
theorem gamePlays_walk (wide high fall:Int) (l:List M.Act) (w:World) {v:Value} (hw:I64 wide) (hh:I64 high) (hf:I64 fall) (h:ActsAt w 0 v l/\∀x∈l,ActIn x):
  Calls Tryz.prog 3 #[.int .i64 wide,.int .i64 high,.int .i64 fall,v] w λe w'=>e=.returned (.bool true)/\Below w.heap.size w w':=by
 obtain ⟨h,hin⟩:=h
 obtain ⟨av,cv,rfl⟩:=h.val
 have hmx:l.length<=9223372036854775807:=by have:=h.max;unfold maxLen at this;omega
 have HL:=hI h
 have HIN:=hI hin
 have HA:=hI lalive_calls
 clear h hin hw hh hf
 cases hg:M.goodW ⟨⟨[],0⟩,fall,wide,high⟩ with
 |false=>
  have HN:=hI (λW=>newBad_calls wide high fall W hg)
  have HR:=hI (λW=>rnewBad_calls wide high fall W hg)
  clear hg
  go_enter Tryz.func3,Tryz.ntmps3
  go_wp2_with (first|(go_at_call 5;go_loud (refine (HN.out _).mono ?_;rintro e w1 ⟨rfl,K1⟩;have kz1:=K1.size))|(go_at_call 6;go_loud (refine (HR.out _).mono ?_;rintro e w2 ⟨rfl,K2⟩;have kz2:=K2.size;have KK:=K1.trans (K2.mono kz1)))|(go_at_call 7;go_loud (refine (HA.out _).mono ?_;rintro e w3 ⟨rfl,K3⟩)))
  go_ret
  exact ⟨rfl,KK.trans (K3.mono KK.size)⟩
 |true=>
  have HN:=hI (λW=>new_calls wide high fall W hg)
  have HR:=hI (λW=>rnew_calls wide high fall W hg)
  have HD0:=hI (M.inDoc_new hg)
  clear hg
  obtain ⟨G0,hG0⟩:∃G0,G0=(⟨⟨⟨[],0⟩,fall,wide,high⟩,[],0⟩:M.Game):=⟨_,rfl⟩
  rw [←hG0] at HN HR HD0
  clear hG0
  go_enter Tryz.func3,Tryz.ntmps3
  go_wp2_with (first|(go_at_call 5;go_loud (refine (HN.out _).mono ?_;rintro e w1 ⟨g,rfl,hg1,K1⟩;have HG1:=hI hg1;have HK1:=hI K1;have lg1:=hg1.inQ.1;have kz1:=K1.size;clear hg1 K1))|(go_at_call 6;go_loud (refine (HR.out _).mono ?_;rintro e w2 ⟨rg,b2,rfl,hr2,K2⟩;have HR2:=hI hr2;have HK2:=hI K2;have kz2:=K2.size;have lr2:=hr2.inR.1;clear hr2 K2))|(go_at_call 7;go_loud (refine (HA.out _).mono ?_;rintro e w3 ⟨rfl,K3⟩;have HT3:=hI (two_start HG1.out HK1.out HR2.out HK2.out K3);clear K3)))
  go_loopg [13] 60 (λgh i wr=>∃n:Nat,(n<=l.length/\n<=60)/\i=.int .i64 n/\gh=60-n/\Two w wr g rg (M.runK G0 l n).1 (M.runK G0 l n).1 (λ_=>False))
  case atStart=>exact ⟨0,⟨Nat.zero_le _,Nat.zero_le _⟩,rfl,rfl,HT3.out⟩
  case round=>
   obtain ⟨wo,hwo⟩:∃wo,wo=wr:=⟨_,rfl⟩
   subst hwo
   obtain ⟨n,⟨hn1,hn2⟩,rfl,hgk,ht⟩:=hrel
   have HK:=hI hgk
   have HT:=hI ht
   have ko:=ht.bel.size
   have HDOC0:=hI (HD0.out.kth l n)
   clear hgk ht
   by_cases hc9:n<l.length/\n<60
   ·obtain ⟨hlt,h60⟩:=hc9
    obtain ⟨x,hx⟩:∃x,l[n]?=some x:=⟨_,List.getElem?_eq_getElem hlt⟩
    obtain ⟨b,o,cap9,ev,hlo,hc⟩:=HL.out.at hx
    obtain ⟨rfl,rfl⟩:av=some ⟨b,o,none⟩/\cv=cap9:=by simpa using ev
    obtain ⟨G',r,hd⟩:∃G' r,M.doAct (M.runK G0 l n).1 x=(G',r):=⟨_,_,rfl⟩
    have hS:=M.runK_succ G0 hx
    rw [hd] at hS
    have HS:Hid ((M.runK G0 l (n+1)).1=G'):=hI (by rw [hS])
    have HD:=hI hd
    have HX:=hI (HIN.out x (List.mem_of_getElem? hx))
    have HC:=hI (λU (hb:Below w.heap.size w U)=>hc.below hb)
    have HDOC:Hid (M.InDoc G'):=hI (by have k:=HDOC0.out.next x;rw [hd] at k;exact k)
    have hgw:=HDOC.out.good.w.things
    have HSIN:=hI (good_in hgw)
    have HSZ:=hI (good_sized hgw)
    have HGS:Hid (M.good G'.w.things=true):=hI ((M.good_iff G'.w.things).2 hgw)
    have HGW:Hid (M.goodW G'.w=true):=hI (M.goodW_iff.2 HDOC.out.good.w)
    have HWOF:=hI (λ(U:World) (a:Option Addr) (c:Nat) (hs:StoreAt U 0 (stV a c G'.w.things) G'.w.things)=>worldOf_calls (d:=G'.w) (vt:=.slice a G'.w.things.tables.length c) hs HSIN.out HSZ.out)
    rw [HGW.out] at HWOF
    have q0:(0:Int)<=(n:Int):=by omega
    have q1:(n:Int)<(l.length:Int):=by omega
    have q2:decide ((n:Int)<(l.length:Int))=true:=by rw [decide_eq_true_eq];omega
    have q3:decide ((n:Int)<60)=true:=by rw [decide_eq_true_eq];omega
    clear ev hlo hc hx hd hS hgw
    go_upto_region 10 with fail
    refine DG.wp_named (λA hA=>?_)
    show Code.wp Tryz.prog p10C _ _ _
    rw [p10C_is]
    refine wp_region_any kR ?_
    rw [p10Ops_size]
    show wpAny _ _ _ _ _ _ _ wo.drew
    refine p10_region (w:=w) (l:=l) (g:=g) (rg:=rg) (kk:=n) (b:=b) (o:=o) (cv:=cv) (x:=x) (r:=r) (G:=(M.runK G0 l n).1) (G2:=G') (W0:=wo.drew) ⟨by rw [hA];rfl,by rw [hA];rfl,by rw [hA];rfl,by rw [hA];rfl,hlt,hmx,HC.out,HT.out.more ((Below.refl _ wo).drew),HDOC0.out,HX.out,HD.out⟩ rA (by rw [hA]) (undef,undef,undef,undef) (by unfold p10Mem;rw [if_neg sS,if_neg sS,if_neg sS]) ?_
    intro gg ll w5 hll hmm
    unfold p10Mem at hmm
    rw [if_pos (hll 12 dC)] at hmm
    have HT5:=hI hmm
    have kz5:=hmm.bel.size
    clear hmm
    rw [hA]
    simp only [p10L,DG.setQ,List.setIfInBounds_toArray,List.set_cons_zero,List.set_cons_succ]
    go_upto_region 13 with (first|(go_at_call 12;go_loud (refine (two_world HT5.out HDOC.out.good).mono ?_;rintro e w6 ⟨a6,c6,rfl,hst6,hb6⟩;have HST6:=hI hst6;have HT6:=hI (HT5.out.more hb6);have kz6:=hb6.size;clear hst6))|(go_at_call 11;go_loud (refine (HWOF.out _ _ _ HST6.out).mono ?_;rintro e w7 ⟨m7,rfl,hm7,hb7⟩;obtain ⟨b7,rfl,_,hm7⟩:=hm7 HGS.out;have HM7:=hI hm7;have HT7:=hI (HT6.out.more hb7);have kz7:=hb7.size;clear hm7)))
    refine wp_called (λW8 hW8=>?_)
    have B8:Blk W8 w7.heap.size 46 #[.map (some b7),.int .i64 G'.w.things.next,.int .i64 G'.w.fall,.int .i64 G'.w.wide,.int .i64 G'.w.high]:=by rw [hW8];exact Blk.new_at rfl
    have K8:Below w7.heap.size w7 W8:=by rw [hW8];exact bel9
    have HM8:=hI (HM7.out.below K8 HM7.out.lt)
    have HT8:=hI (HT7.out.more K8)
    obtain ⟨rb8,rv8,hrb8,hrm8⟩:=HT8.out.map
    have HRM8:=hI hrm8
    have kz8:=HT8.out.bel.size
    have u0:=B8.cell 0
    have u1:=B8.cell 1
    have u2:=B8.cell 2
    have u3:=B8.cell 3
    have u4:=B8.cell 4
    have z0:=hrb8.cell 0
    have z1:=hrb8.cell 1
    have z2:=hrb8.cell 2
    have z3:=hrb8.cell 3
    have z4:=hrb8.cell 4
    simp at u0 u1 u2 u3 u4 z0 z1 z2 z3 z4
    have lb8:=B8.lt
    have lr8:=hrb8.lt
    clear hW8 B8 K8 hrb8 hrm8 HT7 HM7
    go_still_tail 8,kR
    change wpList _ _ _ _ _ W8.drew
    go_wp2_with (go_at_call 13;go_loud (refine (sameWorld_calls (HM8.out.below (show Below W8.heap.size W8 _ from bel9) HM8.out.lt) (HRM8.out.below (show Below W8.heap.size W8 _ from bel9) HRM8.out.lt) _ _ _ _).mono ?_;rintro e w9 ⟨rfl,hb9⟩;have K9:Below W8.heap.size W8 w9:=(show Below W8.heap.size W8 _ from bel9).trans (hb9.mono sid9)))
    go_roundg (60-(n+1))
    case measure=>rw [HK.out];omega
    case rel=>exact ⟨n+1,by omega,by go_num,rfl,by rw [HS.out];exact HT8.out.more K9⟩
   ·have hend:=HT.out.bel
    rcases Nat.lt_or_ge n l.length with hlt|hge
    ·obtain rfl:n=60:=by omega
     have q2:decide (60<l.length)=true:=by simpa using hlt
     have q2':decide (((60:Nat):Int)<(l.length:Int))=true:=by rw [decide_eq_true_eq];omega
     clear hc9
     go_wp2_with fail
     go_ret
     exact ⟨rfl,hend⟩
    ·have q2:decide ((n:Int)<(l.length:Int))=false:=by rw [decide_eq_false_iff_not];omega
     clear hc9
     go_wp2_with fail
     go_ret
     exact ⟨rfl,hend⟩
end Go.Proofs.YtemkbjaojinaoaaGreat
