/- The walk of GameRuns. Condition: the acts lie in memory, their numbers are of 64 bits. -/
import Derived.Test.YtemkbjaojinaoaaGreatShort
import Derived.Test.YtemkbjaojinaoaaGreatRunsDraw
import Derived.Test.YtemkbjaojinaoaaGreatBagA
import Derived.Test.YtemkbjaojinaoaaGreatBagN2
import Derived.Test.YtemkbjaojinaoaaGreatBagR
import Derived.Test.YtemkbjaojinaoaaGreatBagP
set_option linter.unusedVariables false
set_option linter.unusedSimpArgs false
set_option maxRecDepth 100000
set_option maxHeartbeats 8000000
namespace Go.Proofs.YtemkbjaojinaoaaGreat
open Go.RowKit
theorem one_start {w1 w2 w3:World} {rg b:Nat} {G:M.Game} {rv:Value} {rs:List Nat} (h2:RefAt w2 (λx=>w1.heap.size<=x/\x<w2.heap.size) rg G b rv rs) (k2:Below w1.heap.size w1 w2) (k3:Below w2.heap.size w2 w3):One w1 w3 rg G:=
 One.more (W:=w2) ⟨_,b,rv,rs,h2,λy q=>q,k2⟩ k3
theorem runBad_calls (wide high fall:Int) (v:Value) (w:World) (hg:M.goodW ⟨⟨[],0⟩,fall,wide,high⟩=false):
  Calls Tryz.prog 14 #[.int .i64 wide,.int .i64 high,.int .i64 fall,v] w λe w'=>e=.returned (.tuple #[.slice none 0 0,.int .i64 2])/\Below w.heap.size w w':=by
 have HN:=hI (λW=>newBad_calls wide high fall W hg)
 clear hg
 go_enter Tryz.func14,Tryz.ntmps14
 go_wp2_with (go_at_call 5;go_loud (refine (HN.out _).mono ?_;rintro e w1 ⟨rfl,K1⟩))
 go_ret2
 exact ⟨rfl,K1⟩
theorem runFull_calls (wide high fall:Int) (a:Option Addr) (n c:Nat) (w:World) (hn:150<n) (hg:M.goodW ⟨⟨[],0⟩,fall,wide,high⟩=true):
  Calls Tryz.prog 14 #[.int .i64 wide,.int .i64 high,.int .i64 fall,.slice a n c] w λe w'=>e=.returned (.tuple #[.slice none 0 0,.int .i64 5])/\Below w.heap.size w w':=by
 have HN:=hI (λW=>new_calls wide high fall W hg)
 have q150:decide ((150:Int)<(n:Int))=true:=by rw [decide_eq_true_eq];omega
 have q150':decide (150<n)=true:=by rw [decide_eq_true_eq];omega
 clear hg
 go_enter Tryz.func14,Tryz.ntmps14
 go_wp2_with (go_at_call 5;go_loud (refine (HN.out _).mono ?_;rintro e w1 ⟨g,rfl,_,K1⟩))
 go_ret2
 exact ⟨rfl,K1⟩
theorem acts_one_at {W:World} {g:Nat} {x:M.Act} (h:Blk W g 42 (actC x)):ActsAt W 0 (.slice (some ⟨g,0,none⟩) 1 1) [x]:=by
 refine ⟨acts_len _,by simp only [List.length_cons,List.length_nil];unfold maxLen;omega,_,_,rfl,λ_=>⟨g,0,rfl,Nat.zero_le _,λj u hu=>?_⟩⟩
 rw [Nat.zero_add]
 refine (h.cell j).trans ?_
 simpa [actL] using hu
theorem OwnReps.at9 {w:World} {Q:Nat->Prop} {base:Nat} {vo:Value} {rs:List M.Reply} {hr:List (Value×Value)} (h:OwnReps w Q base vo rs hr) {i:Nat} {r:M.Reply} (hi:rs[i]?=some r):
  ∃b cap ids met,vo=.slice (some ⟨b,0,none⟩) rs.length cap/\∀(W:World),OwnReps W Q base vo rs hr->(W.cell? ⟨b,i*4,none⟩=some (.int .i64 r.code)/\W.cell? ⟨b,i*4+1,none⟩=some (.int .i64 r.n)/\W.cell? ⟨b,i*4+2,none⟩=some ids/\W.cell? ⟨b,i*4+3,none⟩=some met)/\
   IntsAt W 0 ids r.ids/\PairsAt W 0 met r.met:=by
 have hlt:=(List.getElem?_eq_some_iff.1 hi).1
 have hl:=h.len
 obtain ⟨p,hp⟩:∃p,hr[i]?=some p:=⟨_,List.getElem?_eq_getElem bO⟩
 obtain ⟨k1,k2⟩:=h.each i r p hi hp
 obtain ⟨g,cap,e0,_,_⟩:=own_val h.row bO
 obtain ⟨c0,c1,c2,c3⟩:=repsL_at hi hp
 refine ⟨g,cap,p.1,p.2,e0,λW hW=>?_⟩
 obtain ⟨k1,k2⟩:=hW.each i r p hi hp
 have hrow:=hW.row
 rw [e0] at hrow
 exact ⟨⟨(hrow.cellAt (i*4) bO).trans c0,(hrow.cellAt (i*4+1) bO).trans c1,(hrow.cellAt (i*4+2) bO).trans c2,(hrow.cellAt (i*4+3) bO).trans c3⟩,Lies.mono (Lies.of_owns k1) (Nat.zero_le _),Lies.mono (Lies.of_owns k2) (Nat.zero_le _)⟩
def M.act99:M.Act:=⟨99,0,0,0,M.row0,⟨0,0,0,0,0⟩⟩
theorem in_act99:∀x∈[M.act99],ActIn x:=by
 intro x hx
 simp only [List.mem_cons,List.not_mem_nil,or_false] at hx
 subst hx
 simp only [ActIn,I64,RowOk,M.row0,M.act99]
 omega
theorem run99_calls {U:World} {g:Nat} (h:Blk U g 42 #[.int .i64 99,.int .i64 0,.int .i64 0,.int .i64 0,.int .i64 0,.int .i64 0,.int .i64 0,.int .i64 0,.int .i64 0,.int .i64 0,.int .i64 0,.int .i64 0,.int .i64 0,.int .i64 0,.int .i64 0,.int .i64 0,.int .i64 0]):
  Calls Tryz.prog 14 #[.int .i64 9,.int .i64 9,.int .i64 0,.slice (some ⟨g,0,none⟩) 1 1] U λe w'=>∃a c,e=.returned (.tuple #[.slice a 1 c,.int .i64 0])/\Below U.heap.size U w':=by
 refine (run_calls (l:=[M.act99]) (lo:=0) (acts_one_at (x:=M.act99) h) in_act99 dC (show M.goodW ⟨⟨[],0⟩,0,9,9⟩=true by decide)).mono ?_
 rintro e w' ⟨a,c,hr,rfl,_,hb⟩
 exact ⟨a,c,rfl,hb⟩
theorem gameRuns_walk (wide high fall:Int) (l:List M.Act) (w:World) {v:Value} (hw:I64 wide) (hh:I64 high) (hf:I64 fall) (h:ActsAt w 0 v l/\∀x∈l,ActIn x) (hby:l.length*136<=140737488351232):
  Calls Tryz.prog 4 #[.int .i64 wide,.int .i64 high,.int .i64 fall,v] w λe w'=>e=.returned (.bool true)/\Below w.heap.size w w':=by
 obtain ⟨h,hin⟩:=h
 obtain ⟨av,cv,rfl⟩:=h.val
 have hmx:l.length<=9223372036854775807:=by have:=h.max;unfold maxLen at this;omega
 have HL:=hI h
 have HIN:=hI hin
 have HA:=hI lalive_calls
 clear h hin hw hh hf
 cases hg:M.goodW ⟨⟨[],0⟩,fall,wide,high⟩ with
 |false=>
  have HR1:=hI (λ(U:World) (b:Nat) (u:Value) (hu:U.ownsRow b 42 17 u l.length (l.flatMap actL))=>runBad_calls wide high fall u U hg)
  have HR:=hI (λW=>rnewBad_calls wide high fall W hg)
  clear hg
  go_enter Tryz.func4,Tryz.ntmps4
  go_upto_region 2 with (first|(at_builtin;refine wpList_append_acts rfl (.const (.slice none 0 0)) (.tmp 20) rfl (by rfl) (by rfl) HL.out bO ?_;intro v2 w2 ho2 hb2;obtain ⟨a2,c2,rfl⟩:=own_form ho2;have HO2:=hI ho2;have kz2:=hb2.size;have HK2:=hI hb2;clear ho2 hb2)|(go_at_call 14;go_loud (refine (HR1.out _ _ _ HO2.out).mono ?_;rintro e w3 ⟨rfl,hb3⟩;have HK3:=hI (HK2.out.trans (hb3.mono kz2));have kz3:=HK3.out.size;clear hb3)))
  go_upto_region 3 with (go_at_call 14;go_loud (refine (run99_calls (Blk.new_at rfl)).mono ?_;rintro e w4 ⟨a4,c4,rfl,hb4⟩;have K4:Below w3.heap.size w3 w4:=(show Below w3.heap.size w3 _ from bel9).trans (hb4.mono sid9);have kz4:=K4.size;have HK4:=hI (HK3.out.trans (K4.mono HK3.out.size));clear K4 hb4))
  go_wp2_with (first|(go_at_call 6;go_loud (refine (HR.out _).mono ?_;rintro e w5 ⟨rfl,K5⟩;have HK5:=hI (HK4.out.trans (K5.mono HK4.out.size))))|(go_at_call 7;go_loud (refine (HA.out _).mono ?_;rintro e w6 ⟨rfl,K6⟩;have HK6:=hI (HK5.out.trans (K6.mono HK5.out.size)))))
  go_ret
  exact ⟨rfl,HK6.out⟩
 |true=>
  rcases Nat.lt_or_ge 150 l.length with hfull|hfew
  ·have HR1:=hI (λ(U:World) (b:Nat) (a:Option Addr) (c:Nat) (hu:U.ownsRow b 42 17 (.slice a l.length c) l.length (l.flatMap actL))=>runFull_calls wide high fall a l.length c U hfull hg)
   have HR:=hI (λW=>rnew_calls wide high fall W hg)
   clear hg
   have q150:decide ((150:Int)<(l.length:Int))=true:=by rw [decide_eq_true_eq];omega
   have q150':decide (150<l.length)=true:=by rw [decide_eq_true_eq];omega
   go_enter Tryz.func4,Tryz.ntmps4
   go_upto_region 2 with (first|(at_builtin;refine wpList_append_acts rfl (.const (.slice none 0 0)) (.tmp 20) rfl (by rfl) (by rfl) HL.out bO ?_;intro v2 w2 ho2 hb2;obtain ⟨a2,c2,rfl⟩:=own_form ho2;have HO2:=hI ho2;have kz2:=hb2.size;have HK2:=hI hb2;clear ho2 hb2)|(go_at_call 14;go_loud (refine (HR1.out _ _ _ _ HO2.out).mono ?_;rintro e w3 ⟨rfl,hb3⟩;have HK3:=hI (HK2.out.trans (hb3.mono kz2));have kz3:=HK3.out.size;clear hb3)))
   go_upto_region 3 with (go_at_call 14;go_loud (refine (run99_calls (Blk.new_at rfl)).mono ?_;rintro e w4 ⟨a4,c4,rfl,hb4⟩;have K4:Below w3.heap.size w3 w4:=(show Below w3.heap.size w3 _ from bel9).trans (hb4.mono sid9);have kz4:=K4.size;have HK4:=hI (HK3.out.trans (K4.mono HK3.out.size));clear K4 hb4))
   go_wp2_with (first|(go_at_call 6;go_loud (refine (HR.out _).mono ?_;rintro e w5 ⟨rg,b5,rfl,hr5,K5⟩;have HR5:=hI hr5;have H45:=hI K5;have HK5:=hI (HK4.out.trans (K5.mono HK4.out.size));clear hr5 K5))|(go_at_call 7;go_loud (refine (HA.out _).mono ?_;rintro e w6 ⟨rfl,K6⟩;have HK6:=hI (HK5.out.trans (K6.mono HK5.out.size)))))
   go_ret
   exact ⟨rfl,HK6.out⟩
  ·have HR1:=hI (λ(U:World) (b:Nat) (u:Value) (hu:U.ownsRow b 42 17 u l.length (l.flatMap actL))=>run_calls (ActsAt.of_own hu) HIN.out bO hg)
   have HR:=hI (λW=>rnew_calls wide high fall W hg)
   have HD0:=hI (M.inDoc_new hg)
   clear hg
   obtain ⟨G0,hG0⟩:∃G0,G0=(⟨⟨⟨[],0⟩,fall,wide,high⟩,[],0⟩:M.Game):=⟨_,rfl⟩
   rw [←hG0] at HR1 HR HD0
   clear hG0
   have q150:decide ((150:Int)<(l.length:Int))=false:=by rw [decide_eq_false_iff_not];omega
   have q150':decide (150<l.length)=false:=by rw [decide_eq_false_iff_not];omega
   go_enter Tryz.func4,Tryz.ntmps4
   go_upto_region 2 with (first|(at_builtin;refine wpList_append_acts rfl (.const (.slice none 0 0)) (.tmp 20) rfl (by rfl) (by rfl) HL.out bO ?_;intro v2 w2 ho2 hb2;obtain ⟨a2,c2,rfl⟩:=own_form ho2;have HO2:=hI ho2;have kz2:=hb2.size;have HK2:=hI hb2;clear ho2 hb2)|(go_at_call 14;go_loud (refine (HR1.out _ _ _ HO2.out).mono ?_;rintro e w3 ⟨a3,c3,hr3,rfl,hre3,hb3⟩;have HRE3:=hI hre3;have HK3:=hI (HK2.out.trans (hb3.mono kz2));have kz3:=HK3.out.size;clear hre3 hb3)))
   go_upto_region 3 with (go_at_call 14;go_loud (refine (run99_calls (Blk.new_at rfl)).mono ?_;rintro e w4 ⟨a4,c4,rfl,hb4⟩;have K4:Below w3.heap.size w3 w4:=(show Below w3.heap.size w3 _ from bel9).trans (hb4.mono sid9);have kz4:=K4.size;have HRE4:=hI (HRE3.out.below K4);have HK4:=hI (HK3.out.trans (K4.mono HK3.out.size));clear K4 hb4))
   go_wp2_with (first|(go_at_call 6;go_loud (refine (HR.out _).mono ?_;rintro e w5 ⟨rg,b5,rfl,hr5,K5⟩;have HR5:=hI hr5;have H45:=hI K5;have HK5:=hI (HK4.out.trans (K5.mono HK4.out.size));clear hr5 K5))|(go_at_call 7;go_loud (refine (HA.out _).mono ?_;rintro e w6 ⟨rfl,K6⟩;have HK6:=hI (HK5.out.trans (K6.mono HK5.out.size));have H56:=hI K6)))
   have HO6:=hI (one_start HR5.out H45.out H56.out)
   go_loopg [15] l.length (λgh i wr=>∃n:Nat,n<=l.length/\i=.int .i64 n/\gh=l.length-n/\One w4 wr rg (M.runK G0 l n).1)
   case atStart=>exact ⟨0,Nat.zero_le _,rfl,rfl,HO6.out⟩
   case round=>
    obtain ⟨wo,hwo⟩:∃wo,wo=wr:=⟨_,rfl⟩
    subst hwo
    obtain ⟨n,hn1,rfl,hgk,ht⟩:=hrel
    have HK:=hI hgk
    have HT:=hI ht
    have ko:=ht.bel.size
    have HDOC0:=hI (HD0.out.kth l n)
    clear hgk ht
    rcases Nat.lt_or_ge n l.length with hlt|hge
    ·obtain ⟨x,hx⟩:∃x,l[n]?=some x:=⟨_,List.getElem?_eq_getElem hlt⟩
     obtain ⟨b,o,cap9,ev,hlo,hc⟩:=(HL.out.below HK4.out).at hx
     obtain ⟨rfl,rfl⟩:av=some ⟨b,o,none⟩/\cv=cap9:=by simpa using ev
     obtain ⟨G',r,hd⟩:∃G' r,M.doAct (M.runK G0 l n).1 x=(G',r):=⟨_,_,rfl⟩
     have hS:=M.runK_succ G0 hx
     rw [hd] at hS
     have HS:Hid ((M.runK G0 l (n+1)).1=G'):=hI (by rw [hS])
     have hr:(M.runActs G0 l).2[n]?=some r:=by rw [M.run_at G0 hx,hd]
     have HD:=hI hd
     have HX:=hI (HIN.out x (List.mem_of_getElem? hx))
     have HC:=hI (λU (hb:Below w4.heap.size w4 U)=>hc.below hb)
     obtain ⟨rb,rc,ids,met,ev4,hat⟩:=HRE4.out.at9 hr
     obtain ⟨rfl,rfl⟩:a3=some ⟨rb,0,none⟩/\c3=rc:=by simpa [M.runActs_len] using ev4
     have HAT:=hI (λU (hb:Below w4.heap.size w4 U)=>hat U (HRE4.out.below hb))
     have q0:(0:Int)<=(n:Int):=by omega
     have q1:(n:Int)<(l.length:Int):=by omega
     clear ev ev4 hlo hc hx hd hS hr hat
     go_upto_region 15 with fail
     refine DG.wp_named (λA hA=>?_)
     show Code.wp Tryz.prog r15C _ _ _
     rw [r15C_is]
     refine wp_region_any kR ?_
     rw [r15Ops_size]
     show wpAny _ _ _ _ _ _ _ wo.drew
     refine r15_region (w:=w4) (l:=l) (rg:=rg) (kk:=n) (b:=b) (o:=o) (cv:=cv) (rb:=rb) (rn:=l.length) (rc:=c3) (x:=x) (r:=r) (ids:=ids) (met:=met) (G:=(M.runK G0 l n).1) (G2:=G') (W0:=wo.drew) ⟨by rw [hA];rfl,by rw [hA];rfl,by rw [hA];rfl,by rw [hA];rfl,hlt,hmx,hlt,hmx,HC.out,HAT.out,HT.out.more ((Below.refl _ wo).drew),HDOC0.out,HX.out,HD.out⟩ rA (by rw [hA]) (undef,undef) (by unfold r15Mem;rw [if_neg sS,if_neg sS]) ?_
     intro gg ll w7 hll hmm
     unfold r15Mem at hmm
     rw [if_pos (hll 10 dC)] at hmm
     have HT7:=hI hmm
     clear hmm
     rw [hA]
     simp only [r15L,DG.setQ,List.setIfInBounds_toArray,List.set_cons_zero,List.set_cons_succ]
     go_wp2_with fail
     go_roundg (l.length-(n+1))
     case measure=>rw [HK.out];omega
     case rel=>exact ⟨n+1,by omega,by go_num,rfl,by rw [HS.out];exact HT7.out⟩
    ·obtain rfl:n=l.length:=by omega
     have q9:decide ((l.length:Int)<(l.length:Int))=false:=decide_eq_false bO
     have hend:=HT.out.bel
     go_wp2_with fail
     go_ret
     exact ⟨rfl,HK4.out.trans (hend.mono HK4.out.size)⟩
end Go.Proofs.YtemkbjaojinaoaaGreat
