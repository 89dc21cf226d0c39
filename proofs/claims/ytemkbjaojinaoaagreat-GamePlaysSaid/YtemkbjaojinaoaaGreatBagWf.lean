/- Several small texts in one. No condition of its own: each part says its own. -/
import Derived.Test.YtemkbjaojinaoaaGreatShort
import Derived.Test.YtemkbjaojinaoaaGreatBagM1
import Derived.Test.YtemkbjaojinaoaaGreatBagMb
import Derived.Test.YtemkbjaojinaoaaGreatBagM3
import Derived.Test.YtemkbjaojinaoaaGreatRowCells
import Derived.Test.YtemkbjaojinaoaaGreatBagWo
set_option linter.unusedVariables false
set_option linter.unusedSimpArgs false
set_option maxRecDepth 100000
set_option maxHeartbeats 8000000
namespace Go.Proofs.YtemkbjaojinaoaaGreat
open Go.RowKit
noncomputable def wofC:Code:=((Tryz.f11.body.bind (regionOf 2)).getD .skip)
noncomputable def wofOps:Array Oper:=match wofC with
 | .region _ ops _=>ops
 |_=>#[]
theorem wofC_is:wofC=.region 2 wofOps true:=by kernel_rfl
theorem wofOps_size:wofOps.size=29:=by kernel_rfl
def wofSlot (k:Nat):Option Nat:=([some 12,some 13,some 14,some 15,some 16,some 17,some 18,some 19,some 20,some 21,some 22,some 23,some 24,some 25,some 26,some 27,some 28,some 29,some 30,some 31,some 32,some 33,some 34,some 35,some 36,some 37,some 38,none,some 3]:List (Option Nat)).getD k none
def wofVal (m:Option Nat) (q0 q1 q2 q3:Bool) (p1 p2:Nat) (vt:Value) (nx fa wi hi:Int) (gg:Unit) (k9:Nat):Value:=([.map m,.pointer (some ⟨p1,0,none⟩),.pointer (some ⟨p1,1,none⟩),.int .i64 nx,.pointer (some ⟨p1,2,none⟩),.int .i64 fa,.pointer (some ⟨p1,3,none⟩),.int .i64 wi,.pointer (some ⟨p1,4,none⟩),.int .i64 hi,.agg #[.map m,.int .i64 nx,.int .i64 fa,.int .i64 wi,.int .i64 hi],.bool q0,.bool q0,bif q0 then .pointer (some ⟨p1,2,none⟩) else undef,bif q0 then .int .i64 fa else undef,bif q0 then .bool q1 else undef,.bool (q0 && q1),.bool (q0 && q1),bif (q0 && q1) then .pointer (some ⟨p1,3,none⟩) else undef,bif (q0 && q1) then .int .i64 wi else undef,bif (q0 && q1) then .bool q2 else undef,.bool ((q0 && q1) && q2),.bool ((q0 && q1) && q2),bif ((q0 && q1) && q2) then .pointer (some ⟨p1,4,none⟩) else undef,bif ((q0 && q1) && q2) then .int .i64 hi else undef,bif ((q0 && q1) && q2) then .bool q3 else undef,.bool (((q0 && q1) && q2) && q3),undef,.bool (((q0 && q1) && q2) && q3)]:List Value).getD k9 undef
def wofNeeds (k:Nat):List Nat:=([[],[],[1],[2],[],[4],[],[6],[],[8],[0,3,5,7,9],[],[11],[12],[12,13],[12,14],[12,15],[16],[17],[17,18],[17,19],[17,20],[21],[22],[22,23],[22,24],[22,25],[10],[26]]:List (List Nat)).getD k []
def wofMem (m:Option Nat) (q0 q1 q2 q3:Bool) (p1 p2:Nat) (vt:Value) (nx fa wi hi:Int) (W0:World) (gg:Unit) (ll:Array Bool) (W:World):Prop:=Blk W p1 53 #[vt,.int .i64 nx,.int .i64 fa,.int .i64 wi,.int .i64 hi]/\Blk W p2 46 (if ll.getD 27 false=true then #[.map m,.int .i64 nx,.int .i64 fa,.int .i64 wi,.int .i64 hi] else #[.map none,.int .i64 0,.int .i64 0,.int .i64 0,.int .i64 0])/\FarO p2 W0 W
def wofGd (k:Nat):Option (Nat×Bool):=([none,none,none,none,none,none,none,none,none,none,none,none,none,some (12,true),some (12,true),some (12,true),none,none,some (17,true),some (17,true),some (17,true),none,none,some (22,true),some (22,true),some (22,true),none,none,none]:List (Option (Nat×Bool))).getD k none
noncomputable def wofK (m:Option Nat) (q0 q1 q2 q3:Bool) (p1 p2:Nat) (vt:Value) (nx fa wi hi:Int) (a0:Act) (W0:World):DH (Unit):={gd:=wofGd,P:=Tryz.prog,ops:=wofOps,a0:=a0,n:=29,slot:=wofSlot,val:=wofVal m q0 q1 q2 q3 p1 p2 vt nx fa wi hi,needs:=wofNeeds,mem:=wofMem m q0 q1 q2 q3 p1 p2 vt nx fa wi hi W0}
section
variable {m:Option Nat} {q0 q1 q2 q3:Bool} {p1 p2:Nat} {vt:Value} {nx fa wi hi:Int}
variable {a0 fr:Act} {W0 W:World} {Q:Exit->Act->World->Prop} {gg:Unit} {ll:Array Bool} {k:Nat}
structure wofOk (m:Option Nat) (q0 q1 q2 q3:Bool) (p1 p2:Nat) (vt:Value) (nx fa wi hi:Int) (a0:Act) (W0:World):Prop where
 h1:a0.eval (.tmp 1)=.pointer (some ⟨p1,0,none⟩)
 h2:a0.eval (.tmp 2)=.pointer (some ⟨p2,0,none⟩)
 h4:a0.eval (.tmp 4)=.map m
 h5:a0.eval (.tmp 5)=.bool q0
 ne:p1≠p2
 c1:∀W,Calls Tryz.prog 16 #[.int .i64 fa,.int .i64 (-64),.int .i64 64] W λe w'=>e=.returned (.bool q1)/\W=w'
 c2:∀W,Calls Tryz.prog 16 #[.int .i64 wi,.int .i64 1,.int .i64 1048576] W λe w'=>e=.returned (.bool q2)/\W=w'
 c3:∀W,Calls Tryz.prog 16 #[.int .i64 hi,.int .i64 1,.int .i64 1048576] W λe w'=>e=.returned (.bool q3)/\W=w'
theorem wof_v (F:(wofK m q0 q1 q2 q3 p1 p2 vt nx fa wi hi a0 W0).Facts k gg ll fr W) (j s:Nat) (h1:j∈wofNeeds k) (h2:wofSlot j=some s):fr.eval (.tmp s)=wofVal m q0 q1 q2 q3 p1 p2 vt nx fa wi hi gg j:=F.vals j s h1 h2
theorem wof_o (F:(wofK m q0 q1 q2 q3 p1 p2 vt nx fa wi hi a0 W0).Facts k gg ll fr W) (s:Nat) {v:Value} (h2:a0.eval (.tmp s)=v) (h1:∀k,k<29->wofSlot k≠some s):fr.eval (.tmp s)=v:=(F.other s h1).trans h2
theorem wof_z (F:(wofK m q0 q1 q2 q3 p1 p2 vt nx fa wi hi a0 W0).Facts k gg ll fr W):ll.size=29:=F.size
theorem wof_keep (F:(wofK m q0 q1 q2 q3 p1 p2 vt nx fa wi hi a0 W0).Facts k gg ll fr W) (n27:k≠27):wofMem m q0 q1 q2 q3 p1 p2 vt nx fa wi hi W0 gg (ll.setIfInBounds k true) W:=by
 have h9:wofMem m q0 q1 q2 q3 p1 p2 vt nx fa wi hi W0 gg ll W:=F.mem
 unfold wofMem at h9⊢
 rw [DG.set_ne n27]
 exact h9
theorem wof_x {p:Prop} (h:p:=by show Oper.wp Tryz.prog oo fr W K Q;unfold Oper.wp;(try simp only [wofK,wofVal,DG.gz,DG.gs] at e);simp only [execOp,hop,e,mA,mC,mN];go_simp;exact hK gg _ (λ_ _ _ _=>rfl) (wof_keep F dC)):p:=h
theorem wof_ok (ok:wofOk m q0 q1 q2 q3 p1 p2 vt nx fa wi hi a0 W0) (hz:a0.tmps.size=39):(wofK m q0 q1 q2 q3 p1 p2 vt nx fa wi hi a0 W0).Ok Q:=by
 refine DH.ok_of wofOps_size kR kR (by rfl) kR (by rfl) hz (by rfl) ?_ ?_ ?_
 ·intro k j b g hk hg
  have k9:k<29:=hk
  have hg:wofGd k=some (j,b):=hg
  rcases (show k=0\/k=1\/k=2\/k=3\/k=4\/k=5\/k=6\/k=7\/k=8\/k=9\/k=10\/k=11\/k=12\/k=13\/k=14\/k=15\/k=16\/k=17\/k=18\/k=19\/k=20\/k=21\/k=22\/k=23\/k=24\/k=25\/k=26\/k=27\/k=28 from by omega) with rfl|rfl|rfl|rfl|rfl|rfl|rfl|rfl|rfl|rfl|rfl|rfl|rfl|rfl|rfl|rfl|rfl|rfl|rfl|rfl|rfl|rfl|rfl|rfl|rfl|rfl|rfl|rfl|rfl<;>first|(cases hg;done)|(simp only [wofGd,List.getD_cons_zero,List.getD_cons_succ,Option.some.injEq,Prod.mk.injEq] at hg;obtain ⟨rfl,rfl⟩:=hg;exact ⟨_,rfl⟩)
 ·intro k j b gg ll fr W hk hg hv F
  have k9:k<29:=hk
  have hg:wofGd k=some (j,b):=hg
  rcases (show k=0\/k=1\/k=2\/k=3\/k=4\/k=5\/k=6\/k=7\/k=8\/k=9\/k=10\/k=11\/k=12\/k=13\/k=14\/k=15\/k=16\/k=17\/k=18\/k=19\/k=20\/k=21\/k=22\/k=23\/k=24\/k=25\/k=26\/k=27\/k=28 from by omega) with rfl|rfl|rfl|rfl|rfl|rfl|rfl|rfl|rfl|rfl|rfl|rfl|rfl|rfl|rfl|rfl|rfl|rfl|rfl|rfl|rfl|rfl|rfl|rfl|rfl|rfl|rfl|rfl|rfl<;>first|(cases hg;done)|(simp only [wofGd,List.getD_cons_zero,List.getD_cons_succ,Option.some.injEq,Prod.mk.injEq] at hg;obtain ⟨rfl,rfl⟩:=hg)
  ·have hg0:wofVal m q0 q1 q2 q3 p1 p2 vt nx fa wi hi gg 12=.bool (!true):=hv
   have h9:(q0)=false:=by simpa [wofVal] using hg0
   exact ⟨by show wofVal m q0 q1 q2 q3 p1 p2 vt nx fa wi hi gg 13=undef;simp only [wofVal,List.getD_cons_zero,List.getD_cons_succ,h9,cond_false],wof_keep F dC⟩
  ·have hg0:wofVal m q0 q1 q2 q3 p1 p2 vt nx fa wi hi gg 12=.bool (!true):=hv
   have h9:(q0)=false:=by simpa [wofVal] using hg0
   exact ⟨by show wofVal m q0 q1 q2 q3 p1 p2 vt nx fa wi hi gg 14=undef;simp only [wofVal,List.getD_cons_zero,List.getD_cons_succ,h9,cond_false],wof_keep F dC⟩
  ·have hg0:wofVal m q0 q1 q2 q3 p1 p2 vt nx fa wi hi gg 12=.bool (!true):=hv
   have h9:(q0)=false:=by simpa [wofVal] using hg0
   exact ⟨by show wofVal m q0 q1 q2 q3 p1 p2 vt nx fa wi hi gg 15=undef;simp only [wofVal,List.getD_cons_zero,List.getD_cons_succ,h9,cond_false],wof_keep F dC⟩
  ·have hg0:wofVal m q0 q1 q2 q3 p1 p2 vt nx fa wi hi gg 17=.bool (!true):=hv
   have h9:(q0 && q1)=false:=by simpa [wofVal] using hg0
   exact ⟨by show wofVal m q0 q1 q2 q3 p1 p2 vt nx fa wi hi gg 18=undef;simp only [wofVal,List.getD_cons_zero,List.getD_cons_succ,h9,cond_false],wof_keep F dC⟩
  ·have hg0:wofVal m q0 q1 q2 q3 p1 p2 vt nx fa wi hi gg 17=.bool (!true):=hv
   have h9:(q0 && q1)=false:=by simpa [wofVal] using hg0
   exact ⟨by show wofVal m q0 q1 q2 q3 p1 p2 vt nx fa wi hi gg 19=undef;simp only [wofVal,List.getD_cons_zero,List.getD_cons_succ,h9,cond_false],wof_keep F dC⟩
  ·have hg0:wofVal m q0 q1 q2 q3 p1 p2 vt nx fa wi hi gg 17=.bool (!true):=hv
   have h9:(q0 && q1)=false:=by simpa [wofVal] using hg0
   exact ⟨by show wofVal m q0 q1 q2 q3 p1 p2 vt nx fa wi hi gg 20=undef;simp only [wofVal,List.getD_cons_zero,List.getD_cons_succ,h9,cond_false],wof_keep F dC⟩
  ·have hg0:wofVal m q0 q1 q2 q3 p1 p2 vt nx fa wi hi gg 22=.bool (!true):=hv
   have h9:((q0 && q1) && q2)=false:=by simpa [wofVal] using hg0
   exact ⟨by show wofVal m q0 q1 q2 q3 p1 p2 vt nx fa wi hi gg 23=undef;simp only [wofVal,List.getD_cons_zero,List.getD_cons_succ,h9,cond_false],wof_keep F dC⟩
  ·have hg0:wofVal m q0 q1 q2 q3 p1 p2 vt nx fa wi hi gg 22=.bool (!true):=hv
   have h9:((q0 && q1) && q2)=false:=by simpa [wofVal] using hg0
   exact ⟨by show wofVal m q0 q1 q2 q3 p1 p2 vt nx fa wi hi gg 24=undef;simp only [wofVal,List.getD_cons_zero,List.getD_cons_succ,h9,cond_false],wof_keep F dC⟩
  ·have hg0:wofVal m q0 q1 q2 q3 p1 p2 vt nx fa wi hi gg 22=.bool (!true):=hv
   have h9:((q0 && q1) && q2)=false:=by simpa [wofVal] using hg0
   exact ⟨by show wofVal m q0 q1 q2 q3 p1 p2 vt nx fa wi hi gg 25=undef;simp only [wofVal,List.getD_cons_zero,List.getD_cons_succ,h9,cond_false],wof_keep F dC⟩
 ·intro k hk gg hgd
  rcases (show k=0\/k=1\/k=2\/k=3\/k=4\/k=5\/k=6\/k=7\/k=8\/k=9\/k=10\/k=11\/k=12\/k=13\/k=14\/k=15\/k=16\/k=17\/k=18\/k=19\/k=20\/k=21\/k=22\/k=23\/k=24\/k=25\/k=26\/k=27\/k=28 from by have k9:k<29:=hk;omega) with rfl|rfl|rfl|rfl|rfl|rfl|rfl|rfl|rfl|rfl|rfl|rfl|rfl|rfl|rfl|rfl|rfl|rfl|rfl|rfl|rfl|rfl|rfl|rfl|rfl|rfl|rfl|rfl|rfl
  ·exact .ofo 4 ok.h4 (x:=(.move (.tmp 4),some 12)) (H:=λll fr W F oo hop hd K hK e=>wof_x)
  ·exact .ofo 1 ok.h1 (x:=(.fieldAddr 53 (.tmp 1) 0,some 13)) (H:=λll fr W F oo hop hd K hK e=>wof_x)
  ·exact .of1 1 13 (x:=(.fieldAddr 51 (.tmp 13) 1,some 14)) (H:=λll fr W F oo hop hd K hK e=>wof_x)
  ·refine .of1 2 14 (x:=(.load 3 (.tmp 14),some 15)) (H:=λll fr W F oo hop hd K hK e=>?_)
   obtain ⟨hb1,hb2,hfar⟩:=F.mem
   have u0:=hb1.cell 0
   have u1:=hb1.cell 1
   have u2:=hb1.cell 2
   have u3:=hb1.cell 3
   have u4:=hb1.cell 4
   simp at u0 u1 u2 u3 u4
   exact wof_x
  ·exact .ofo 1 ok.h1 (x:=(.fieldAddr 53 (.tmp 1) 1,some 16)) (H:=λll fr W F oo hop hd K hK e=>wof_x)
  ·refine .of1 4 16 (x:=(.load 3 (.tmp 16),some 17)) (H:=λll fr W F oo hop hd K hK e=>?_)
   obtain ⟨hb1,hb2,hfar⟩:=F.mem
   have u0:=hb1.cell 0
   have u1:=hb1.cell 1
   have u2:=hb1.cell 2
   have u3:=hb1.cell 3
   have u4:=hb1.cell 4
   simp at u0 u1 u2 u3 u4
   exact wof_x
  ·exact .ofo 1 ok.h1 (x:=(.fieldAddr 53 (.tmp 1) 2,some 18)) (H:=λll fr W F oo hop hd K hK e=>wof_x)
  ·refine .of1 6 18 (x:=(.load 3 (.tmp 18),some 19)) (H:=λll fr W F oo hop hd K hK e=>?_)
   obtain ⟨hb1,hb2,hfar⟩:=F.mem
   have u0:=hb1.cell 0
   have u1:=hb1.cell 1
   have u2:=hb1.cell 2
   have u3:=hb1.cell 3
   have u4:=hb1.cell 4
   simp at u0 u1 u2 u3 u4
   exact wof_x
  ·exact .ofo 1 ok.h1 (x:=(.fieldAddr 53 (.tmp 1) 3,some 20)) (H:=λll fr W F oo hop hd K hK e=>wof_x)
  ·refine .of1 8 20 (x:=(.load 3 (.tmp 20),some 21)) (H:=λll fr W F oo hop hd K hK e=>?_)
   obtain ⟨hb1,hb2,hfar⟩:=F.mem
   have u0:=hb1.cell 0
   have u1:=hb1.cell 1
   have u2:=hb1.cell 2
   have u3:=hb1.cell 3
   have u4:=hb1.cell 4
   simp at u0 u1 u2 u3 u4
   exact wof_x
  ·refine .of (x:=(.build 46 #[(0,.tmp 12),(1,.tmp 15),(2,.tmp 17),(3,.tmp 19),(4,.tmp 21)],some 22)) kR λll fr W F oo hop hd K hK=>?_
   have e0:=wof_v F 0 12 dC rfl
   have e3:=wof_v F 3 15 dC rfl
   have e5:=wof_v F 5 17 dC rfl
   have e7:=wof_v F 7 19 dC rfl
   have e9:=wof_v F 9 21 dC rfl
   simp only [wofVal,DG.gz,DG.gs] at e0 e3 e5 e7 e9
   show oo.wp Tryz.prog fr W K Q
   unfold Oper.wp
   simp only [execOp,hop,e0,e3,e5,e7,e9,mA,mC,mN]
   go_simp
   exact hK gg _ (λ_ _ _ _=>rfl) (wof_keep F dC)
  ·exact .ofo 5 ok.h5 (x:=(.move (.tmp 5),some 23)) (H:=λll fr W F oo hop hd K hK e=>wof_x)
  ·exact .of1 11 23 (x:=(.move (.tmp 23),some 24)) (H:=λll fr W F oo hop hd K hK e=>wof_x)
  ·refine .of (x:=(.fieldAddr 53 (.tmp 1) 1,some 25)) kR λll fr W F oo hop hd K hK=>?_
   have e12:=wof_v F 12 24 dC rfl
   simp only [wofVal,DG.gz,DG.gs] at e12
   have s1:=wof_o F 1 ok.h1 dC
   have hgg:wofVal m q0 q1 q2 q3 p1 p2 vt nx fa wi hi gg 12=.bool true:=hgd 12 true rfl
   simp only [wofVal,List.getD_cons_zero,List.getD_cons_succ] at hgg
   obtain rfl:q0=true:=by simpa using hgg
   show oo.wp Tryz.prog fr W K Q
   unfold Oper.wp
   simp only [execOp,hop,e12,s1,mA,mC,mN]
   go_simp
   exact hK gg _ (λ_ _ _ _=>rfl) (wof_keep F dC)
  ·refine .of (x:=(.load 3 (.tmp 25),some 26)) kR λll fr W F oo hop hd K hK=>?_
   have e12:=wof_v F 12 24 dC rfl
   have e13:=wof_v F 13 25 dC rfl
   simp only [wofVal,DG.gz,DG.gs] at e12 e13
   have hgg:wofVal m q0 q1 q2 q3 p1 p2 vt nx fa wi hi gg 12=.bool true:=hgd 12 true rfl
   simp only [wofVal,List.getD_cons_zero,List.getD_cons_succ] at hgg
   obtain rfl:q0=true:=by simpa using hgg
   try simp only [cond_true,cond_false,Bool.and_self,Bool.true_and,Bool.false_and,Bool.and_true,Bool.and_false] at e13
   obtain ⟨hb1,hb2,hfar⟩:=F.mem
   have u0:=hb1.cell 0
   have u1:=hb1.cell 1
   have u2:=hb1.cell 2
   have u3:=hb1.cell 3
   have u4:=hb1.cell 4
   simp at u0 u1 u2 u3 u4
   show oo.wp Tryz.prog fr W K Q
   unfold Oper.wp
   simp only [execOp,hop,e12,e13,mA,mC,mN]
   go_simp
   exact hK gg _ (λ_ _ _ _=>rfl) (wof_keep F dC)
  ·refine .of (x:=(.call {callee:=.value (.func 16),args:=#[.tmp 26,.const (.int .i64 (-64)),.const (.int .i64 64)],argTypes:=#[3,3,3]},some 27)) kR λll fr W F oo hop hd K hK=>?_
   have e12:=wof_v F 12 24 dC rfl
   have e14:=wof_v F 14 26 dC rfl
   simp only [wofVal,DG.gz,DG.gs] at e12 e14
   have hgg:wofVal m q0 q1 q2 q3 p1 p2 vt nx fa wi hi gg 12=.bool true:=hgd 12 true rfl
   simp only [wofVal,List.getD_cons_zero,List.getD_cons_succ] at hgg
   obtain rfl:q0=true:=by simpa using hgg
   try simp only [cond_true,cond_false,Bool.and_self,Bool.true_and,Bool.false_and,Bool.and_true,Bool.and_false] at e14
   show oo.wp Tryz.prog fr W K Q
   unfold Oper.wp
   simp only [execOp,hop,e12,e14,mA,mC,mN]
   go_simp
   simp only [DG.tmps_eval,e14]
   refine (ok.c1 W).mono ?_
   rintro e W2 ⟨rfl,rfl⟩
   exact hK gg _ (λ_ _ _ _=>rfl) (wof_keep F dC)
  ·refine .of (x:=(.pick (.tmp 24) (.tmp 27) (.const (.bool false)),some 28)) kR λll fr W F oo hop hd K hK=>?_
   have e12:=wof_v F 12 24 dC rfl
   have e15:=wof_v F 15 27 dC rfl
   simp only [wofVal,DG.gz,DG.gs] at e12 e15
   cases q0
   all_goals
    try simp only [cond_true,cond_false,Bool.and_self,Bool.true_and,Bool.false_and,Bool.and_true,Bool.and_false] at e12 e15
    show oo.wp Tryz.prog fr W K Q
    unfold Oper.wp
    simp only [execOp,hop,e12,e15,mA,mC,mN]
    go_simp
    exact hK gg _ (λ_ _ _ _=>rfl) (wof_keep F dC)
  ·exact .of1 16 28 (x:=(.move (.tmp 28),some 29)) (H:=λll fr W F oo hop hd K hK e=>wof_x)
  ·refine .of (x:=(.fieldAddr 53 (.tmp 1) 2,some 30)) kR λll fr W F oo hop hd K hK=>?_
   have e17:=wof_v F 17 29 dC rfl
   simp only [wofVal,DG.gz,DG.gs] at e17
   have s1:=wof_o F 1 ok.h1 dC
   have hgg:wofVal m q0 q1 q2 q3 p1 p2 vt nx fa wi hi gg 17=.bool true:=hgd 17 true rfl
   simp only [wofVal,List.getD_cons_zero,List.getD_cons_succ] at hgg
   simp only [Value.bool.injEq,Bool.and_eq_true] at hgg
   obtain ⟨rfl,rfl⟩:=hgg
   show oo.wp Tryz.prog fr W K Q
   unfold Oper.wp
   simp only [execOp,hop,e17,s1,mA,mC,mN]
   go_simp
   exact hK gg _ (λ_ _ _ _=>rfl) (wof_keep F dC)
  ·refine .of (x:=(.load 3 (.tmp 30),some 31)) kR λll fr W F oo hop hd K hK=>?_
   have e17:=wof_v F 17 29 dC rfl
   have e18:=wof_v F 18 30 dC rfl
   simp only [wofVal,DG.gz,DG.gs] at e17 e18
   have hgg:wofVal m q0 q1 q2 q3 p1 p2 vt nx fa wi hi gg 17=.bool true:=hgd 17 true rfl
   simp only [wofVal,List.getD_cons_zero,List.getD_cons_succ] at hgg
   simp only [Value.bool.injEq,Bool.and_eq_true] at hgg
   obtain ⟨rfl,rfl⟩:=hgg
   try simp only [cond_true,cond_false,Bool.and_self,Bool.true_and,Bool.false_and,Bool.and_true,Bool.and_false] at e18
   obtain ⟨hb1,hb2,hfar⟩:=F.mem
   have u0:=hb1.cell 0
   have u1:=hb1.cell 1
   have u2:=hb1.cell 2
   have u3:=hb1.cell 3
   have u4:=hb1.cell 4
   simp at u0 u1 u2 u3 u4
   show oo.wp Tryz.prog fr W K Q
   unfold Oper.wp
   simp only [execOp,hop,e17,e18,mA,mC,mN]
   go_simp
   exact hK gg _ (λ_ _ _ _=>rfl) (wof_keep F dC)
  ·refine .of (x:=(.call {callee:=.value (.func 16),args:=#[.tmp 31,.const (.int .i64 1),.const (.int .i64 1048576)],argTypes:=#[3,3,3]},some 32)) kR λll fr W F oo hop hd K hK=>?_
   have e17:=wof_v F 17 29 dC rfl
   have e19:=wof_v F 19 31 dC rfl
   simp only [wofVal,DG.gz,DG.gs] at e17 e19
   have hgg:wofVal m q0 q1 q2 q3 p1 p2 vt nx fa wi hi gg 17=.bool true:=hgd 17 true rfl
   simp only [wofVal,List.getD_cons_zero,List.getD_cons_succ] at hgg
   simp only [Value.bool.injEq,Bool.and_eq_true] at hgg
   obtain ⟨rfl,rfl⟩:=hgg
   try simp only [cond_true,cond_false,Bool.and_self,Bool.true_and,Bool.false_and,Bool.and_true,Bool.and_false] at e19
   show oo.wp Tryz.prog fr W K Q
   unfold Oper.wp
   simp only [execOp,hop,e17,e19,mA,mC,mN]
   go_simp
   simp only [DG.tmps_eval,e19]
   refine (ok.c2 W).mono ?_
   rintro e W2 ⟨rfl,rfl⟩
   exact hK gg _ (λ_ _ _ _=>rfl) (wof_keep F dC)
  ·refine .of (x:=(.pick (.tmp 29) (.tmp 32) (.const (.bool false)),some 33)) kR λll fr W F oo hop hd K hK=>?_
   have e17:=wof_v F 17 29 dC rfl
   have e20:=wof_v F 20 32 dC rfl
   simp only [wofVal,DG.gz,DG.gs] at e17 e20
   cases q0<;>cases q1
   all_goals
    try simp only [cond_true,cond_false,Bool.and_self,Bool.true_and,Bool.false_and,Bool.and_true,Bool.and_false] at e17 e20
    show oo.wp Tryz.prog fr W K Q
    unfold Oper.wp
    simp only [execOp,hop,e17,e20,mA,mC,mN]
    go_simp
    exact hK gg _ (λ_ _ _ _=>rfl) (wof_keep F dC)
  ·exact .of1 21 33 (x:=(.move (.tmp 33),some 34)) (H:=λll fr W F oo hop hd K hK e=>wof_x)
  ·refine .of (x:=(.fieldAddr 53 (.tmp 1) 3,some 35)) kR λll fr W F oo hop hd K hK=>?_
   have e22:=wof_v F 22 34 dC rfl
   simp only [wofVal,DG.gz,DG.gs] at e22
   have s1:=wof_o F 1 ok.h1 dC
   have hgg:wofVal m q0 q1 q2 q3 p1 p2 vt nx fa wi hi gg 22=.bool true:=hgd 22 true rfl
   simp only [wofVal,List.getD_cons_zero,List.getD_cons_succ] at hgg
   simp only [Value.bool.injEq,Bool.and_eq_true] at hgg
   obtain ⟨⟨rfl,rfl⟩,rfl⟩:=hgg
   show oo.wp Tryz.prog fr W K Q
   unfold Oper.wp
   simp only [execOp,hop,e22,s1,mA,mC,mN]
   go_simp
   exact hK gg _ (λ_ _ _ _=>rfl) (wof_keep F dC)
  ·refine .of (x:=(.load 3 (.tmp 35),some 36)) kR λll fr W F oo hop hd K hK=>?_
   have e22:=wof_v F 22 34 dC rfl
   have e23:=wof_v F 23 35 dC rfl
   simp only [wofVal,DG.gz,DG.gs] at e22 e23
   have hgg:wofVal m q0 q1 q2 q3 p1 p2 vt nx fa wi hi gg 22=.bool true:=hgd 22 true rfl
   simp only [wofVal,List.getD_cons_zero,List.getD_cons_succ] at hgg
   simp only [Value.bool.injEq,Bool.and_eq_true] at hgg
   obtain ⟨⟨rfl,rfl⟩,rfl⟩:=hgg
   try simp only [cond_true,cond_false,Bool.and_self,Bool.true_and,Bool.false_and,Bool.and_true,Bool.and_false] at e23
   obtain ⟨hb1,hb2,hfar⟩:=F.mem
   have u0:=hb1.cell 0
   have u1:=hb1.cell 1
   have u2:=hb1.cell 2
   have u3:=hb1.cell 3
   have u4:=hb1.cell 4
   simp at u0 u1 u2 u3 u4
   show oo.wp Tryz.prog fr W K Q
   unfold Oper.wp
   simp only [execOp,hop,e22,e23,mA,mC,mN]
   go_simp
   exact hK gg _ (λ_ _ _ _=>rfl) (wof_keep F dC)
  ·refine .of (x:=(.call {callee:=.value (.func 16),args:=#[.tmp 36,.const (.int .i64 1),.const (.int .i64 1048576)],argTypes:=#[3,3,3]},some 37)) kR λll fr W F oo hop hd K hK=>?_
   have e22:=wof_v F 22 34 dC rfl
   have e24:=wof_v F 24 36 dC rfl
   simp only [wofVal,DG.gz,DG.gs] at e22 e24
   have hgg:wofVal m q0 q1 q2 q3 p1 p2 vt nx fa wi hi gg 22=.bool true:=hgd 22 true rfl
   simp only [wofVal,List.getD_cons_zero,List.getD_cons_succ] at hgg
   simp only [Value.bool.injEq,Bool.and_eq_true] at hgg
   obtain ⟨⟨rfl,rfl⟩,rfl⟩:=hgg
   try simp only [cond_true,cond_false,Bool.and_self,Bool.true_and,Bool.false_and,Bool.and_true,Bool.and_false] at e24
   show oo.wp Tryz.prog fr W K Q
   unfold Oper.wp
   simp only [execOp,hop,e22,e24,mA,mC,mN]
   go_simp
   simp only [DG.tmps_eval,e24]
   refine (ok.c3 W).mono ?_
   rintro e W2 ⟨rfl,rfl⟩
   exact hK gg _ (λ_ _ _ _=>rfl) (wof_keep F dC)
  ·refine .of (x:=(.pick (.tmp 34) (.tmp 37) (.const (.bool false)),some 38)) kR λll fr W F oo hop hd K hK=>?_
   have e22:=wof_v F 22 34 dC rfl
   have e25:=wof_v F 25 37 dC rfl
   simp only [wofVal,DG.gz,DG.gs] at e22 e25
   cases q0<;>cases q1<;>cases q2
   all_goals
    try simp only [cond_true,cond_false,Bool.and_self,Bool.true_and,Bool.false_and,Bool.and_true,Bool.and_false] at e22 e25
    show oo.wp Tryz.prog fr W K Q
    unfold Oper.wp
    simp only [execOp,hop,e22,e25,mA,mC,mN]
    go_simp
    exact hK gg _ (λ_ _ _ _=>rfl) (wof_keep F dC)
  ·refine .of (x:=(.store 46 (.tmp 2) (.tmp 22),none)) kR λll fr W F oo hop hd K hK=>?_
   have e10:=wof_v F 10 22 dC rfl
   simp only [wofVal,DG.gz,DG.gs] at e10
   have s2:=wof_o F 2 ok.h2 dC
   have hz:27<ll.size:=by rw [wof_z F];decide
   obtain ⟨hb1,hb2,hfar⟩:=F.mem
   rw [if_neg (by rw [show ll.getD 27 false=false from F.not];simp)] at hb2
   have u0:=hb2.cell 0
   have u1:=hb2.cell 1
   have u2:=hb2.cell 2
   have u3:=hb2.cell 3
   have u4:=hb2.cell 4
   simp at u0 u1 u2 u3 u4
   have fz:=λi=>hb2.free i
   show oo.wp Tryz.prog fr W K Q
   unfold Oper.wp
   simp only [execOp,hop,e10,s2,mA,mC,mN]
   go_simp
   refine hK gg _ (λ_ _ _ _=>rfl) (show wofMem m q0 q1 q2 q3 p1 p2 vt nx fa wi hi W0 gg (ll.setIfInBounds 27 true) _ from ?_)
   unfold wofMem
   rw [if_pos (DG.set_eq hz)]
   refine ⟨((((hb1.far ok.ne _).far ok.ne _).far ok.ne _).far ok.ne _).far ok.ne _,?_,((((hfar.set _ _).set _ _).set _ _).set _ _).set _ _⟩
   exact blk_to (((((hb2.put 0 _).put 1 _).put 2 _).put 3 _).put 4 _) sS
  ·exact .of1 26 38 (x:=(.assign (.tmp 38),some 3)) (H:=λll fr W F oo hop hd K hK e=>wof_x)
abbrev wofL (m:Option Nat) (q0 q1 q2 q3:Bool) (p1 p2:Nat) (vt:Value) (nx fa wi hi:Int) (gg:Unit):List (Nat×Value):=[(12,wofVal m q0 q1 q2 q3 p1 p2 vt nx fa wi hi gg 0),(13,wofVal m q0 q1 q2 q3 p1 p2 vt nx fa wi hi gg 1),(14,wofVal m q0 q1 q2 q3 p1 p2 vt nx fa wi hi gg 2),(15,wofVal m q0 q1 q2 q3 p1 p2 vt nx fa wi hi gg 3),(16,wofVal m q0 q1 q2 q3 p1 p2 vt nx fa wi hi gg 4),(17,wofVal m q0 q1 q2 q3 p1 p2 vt nx fa wi hi gg 5),(18,wofVal m q0 q1 q2 q3 p1 p2 vt nx fa wi hi gg 6),(19,wofVal m q0 q1 q2 q3 p1 p2 vt nx fa wi hi gg 7),(20,wofVal m q0 q1 q2 q3 p1 p2 vt nx fa wi hi gg 8),(21,wofVal m q0 q1 q2 q3 p1 p2 vt nx fa wi hi gg 9),(22,wofVal m q0 q1 q2 q3 p1 p2 vt nx fa wi hi gg 10),(23,wofVal m q0 q1 q2 q3 p1 p2 vt nx fa wi hi gg 11),(24,wofVal m q0 q1 q2 q3 p1 p2 vt nx fa wi hi gg 12),(25,wofVal m q0 q1 q2 q3 p1 p2 vt nx fa wi hi gg 13),(26,wofVal m q0 q1 q2 q3 p1 p2 vt nx fa wi hi gg 14),(27,wofVal m q0 q1 q2 q3 p1 p2 vt nx fa wi hi gg 15),(28,wofVal m q0 q1 q2 q3 p1 p2 vt nx fa wi hi gg 16),(29,wofVal m q0 q1 q2 q3 p1 p2 vt nx fa wi hi gg 17),(30,wofVal m q0 q1 q2 q3 p1 p2 vt nx fa wi hi gg 18),(31,wofVal m q0 q1 q2 q3 p1 p2 vt nx fa wi hi gg 19),(32,wofVal m q0 q1 q2 q3 p1 p2 vt nx fa wi hi gg 20),(33,wofVal m q0 q1 q2 q3 p1 p2 vt nx fa wi hi gg 21),(34,wofVal m q0 q1 q2 q3 p1 p2 vt nx fa wi hi gg 22),(35,wofVal m q0 q1 q2 q3 p1 p2 vt nx fa wi hi gg 23),(36,wofVal m q0 q1 q2 q3 p1 p2 vt nx fa wi hi gg 24),(37,wofVal m q0 q1 q2 q3 p1 p2 vt nx fa wi hi gg 25),(38,wofVal m q0 q1 q2 q3 p1 p2 vt nx fa wi hi gg 26),(3,wofVal m q0 q1 q2 q3 p1 p2 vt nx fa wi hi gg 28)]
theorem wof_region (ok:wofOk m q0 q1 q2 q3 p1 p2 vt nx fa wi hi a0 W0) (hz:a0.tmps.size=39) (hd:a0.defers=[]) (g0:Unit) (hm:wofMem m q0 q1 q2 q3 p1 p2 vt nx fa wi hi W0 g0 (Array.replicate 29 false) W)
  (hQ:∀(gg:Unit) (ll:Array Bool) (W':World),(∀k,k<29->ll.getD k false=true)->wofMem m q0 q1 q2 q3 p1 p2 vt nx fa wi hi W0 gg ll W'->Q .normal ⟨DG.setQ a0.tmps (wofL m q0 q1 q2 q3 p1 p2 vt nx fa wi hi gg),[]⟩ W'):
  wpAny Tryz.prog .any wofOps Q 29 (Array.replicate 29 false) a0 W:=
 DH.region2 (c:=wofK m q0 q1 q2 q3 p1 p2 vt nx fa wi hi a0 W0) (wof_ok ok hz) kR hd g0 hm (wofL m q0 q1 q2 q3 p1 p2 vt nx fa wi hi) (λ_=>rfl) hQ
end
theorem worldOf_calls {w:World} {lo:Nat} {vt:Value} {d:M.Wd} (h:StoreAt w lo (.agg #[vt,.int .i64 d.things.next]) d.things) (hin:StoreIn d.things) (hsz:Sized d.things):
  Calls Tryz.prog 11 #[wdV vt d] w λe w'=>∃m,e=.returned (.tuple #[.agg #[.map m,.int .i64 d.things.next,.int .i64 d.fall,.int .i64 d.wide,.int .i64 d.high],.bool (M.goodW d)])/\
   (M.good d.things=true->∃b,m=some b/\w.heap.size<=b/\MapA w' b (M.look (M.entries d.things)) (M.size d.things))/\Below w.heap.size w w':=by
 have HT:=hI (λW (hb:Below w.heap.size w W)=>thingsOf_calls (h.below hb) hin hsz)
 obtain ⟨s,fall,wide,high⟩:=d
 simp only at HT
 obtain ⟨g,hg⟩:∃g,g=M.good s:=⟨_,rfl⟩
 have hgw:M.goodW ⟨s,fall,wide,high⟩=(g && (M.inB fall (-64) 64 && (M.inB wide 1 1048576 && M.inB high 1 1048576))):=by
  unfold M.goodW M.inB
  simp only [←hg]
  cases g<;>simp [Bool.decide_and]
 rw [hgw]
 simp only
 rw [←hg] at HT⊢
 have HB:=hI (λn lo hi W=>inB_calls n lo hi W)
 obtain ⟨b1,e1⟩:∃b,M.inB fall (-64) 64=b:=⟨_,rfl⟩
 obtain ⟨b2,e2⟩:∃b,M.inB wide 1 1048576=b:=⟨_,rfl⟩
 obtain ⟨b3,e3⟩:∃b,M.inB high 1 1048576=b:=⟨_,rfl⟩
 rw [e1,e2,e3]
 have C1:=hI e1
 have C2:=hI e2
 have C3:=hI e3
 clear e1 e2 e3 hgw hg h hin hsz
 go_enter Tryz.func11,Tryz.ntmps11
 go_upto_region 2 with (go_at_call 35;go_loud (refine (HT.out _ bel9).mono ?_;rintro e w1 ⟨m,rfl,hm,hb1⟩;have HM:=hI hm;have kz1:=hb1.size;(try simp at kz1);have K1:Below w.heap.size w w1:=(show Below w.heap.size w _ from bel9).trans (hb1.mono sid9);have b0:Blk w1 w.heap.size 53 (#[vt,.int .i64 s.next,.int .i64 fall,.int .i64 wide,.int .i64 high]):=Blk.below ((Blk.new_at rfl).alloc _) hb1 sid9;have c0:Blk w1 (w.heap.size+1) 46 #[.map none,.int .i64 0,.int .i64 0,.int .i64 0,.int .i64 0]:=Blk.below (Blk.new_at sS) hb1 sid9;clear hm))
 clear hb1
 have B0:=hI b0
 have C0:=hI c0
 have lc0:=c0.lt
 clear b0 c0
 refine DG.wp_named (λA hA=>?_)
 show Code.wp Tryz.prog wofC _ _ _
 rw [wofC_is]
 refine wp_region_any kR ?_
 rw [wofOps_size]
 show wpAny _ _ _ _ _ _ _ w1.drew
 refine wof_region (m:=m) (q0:=g) (q1:=b1) (q2:=b2) (q3:=b3) (p1:=w.heap.size) (p2:=w.heap.size+1) (vt:=vt) (nx:=s.next) (fa:=fall) (wi:=wide) (hi:=high) (W0:=w1.drew) ⟨by rw [hA];rfl,by rw [hA];rfl,by rw [hA];rfl,by rw [hA];rfl,by omega,(λW=>by rw [←C1.out];exact inB_calls _ _ _ W),(λW=>by rw [←C2.out];exact inB_calls _ _ _ W),(λW=>by rw [←C3.out];exact inB_calls _ _ _ W)⟩ rA (by rw [hA]) () (by unfold wofMem;exact ⟨B0.out.drew,by rw [if_neg sS];exact C0.out.drew,FarO.refl _ _⟩) ?_
 intro _ ll W9 hll hmm
 unfold wofMem at hmm
 rw [if_pos (hll 27 dC)] at hmm
 obtain ⟨_,hb9,hf9⟩:=hmm
 rw [hA]
 simp only [wofL,wofVal,List.getD_cons_zero,List.getD_cons_succ]
 simp only [DG.setQ,List.setIfInBounds_toArray,List.set_cons_zero,List.set_cons_succ]
 clear hA A hll
 have hf1:FarO (w.heap.size+1) w1 W9:=hf9
 have y0:=hb9.cell 0
 have y1:=hb9.cell 1
 have y2:=hb9.cell 2
 have y3:=hb9.cell 3
 have y4:=hb9.cell 4
 simp at y0 y1 y2 y3 y4
 have lb9:=hb9.lt
 go_wp2_with fail
 refine bodyPost_ret (v:=.tuple #[.agg #[.map m,.int .i64 s.next,.int .i64 fall,.int .i64 wide,.int .i64 high],.bool (((g && b1) && b2) && b3)]) ?_ rfl ⟨m,by simp only [Bool.and_assoc],λhgt=>?_,?_⟩
 ·simp only [results,Tryz.results11]
  go_simp
 ·obtain ⟨b,rfl,hb,hma⟩:=HM.out hgt
  have hb2:w.heap.size+1+1<=b:=by simpa using hb
  exact ⟨b,rfl,by omega,hma.block (hf1.1 b bO)⟩
 ·exact K1.trans (hf1.below bO)
end Go.Proofs.YtemkbjaojinaoaaGreat
