/- GameRuns: the statement in which the document's game acts; it draws its order. Condition: what the walk has shown ahead of it. -/
import Derived.Test.YtemkbjaojinaoaaGreatShort
import Derived.Test.YtemkbjaojinaoaaGreatBagN7
import Derived.Test.YtemkbjaojinaoaaGreatBagW
import Derived.Test.YtemkbjaojinaoaaGreatBagM1
import Derived.Deep.MidRow
set_option linter.unusedVariables false
set_option linter.unusedSimpArgs false
set_option maxRecDepth 100000
set_option maxHeartbeats 8000000
namespace Go.Proofs.YtemkbjaojinaoaaGreat
open Go.RowKit
noncomputable def r15C:Code:=((Tryz.f4.body.bind (regionOf 15)).getD .skip)
noncomputable def r15Ops:Array Oper:=match r15C with
 | .region _ ops _=>ops
 |_=>#[]
theorem r15C_is:r15C=.region 15 r15Ops true:=by kernel_rfl
theorem r15Ops_size:r15Ops.size=12:=by kernel_rfl
def r15Slot (k:Nat):Option Nat:=([some 84,some 85,some 86,some 87,some 88,some 89,some 90,some 91,some 92,some 93,some 94,some 95]:List (Option Nat)).getD k none
def r15Val (w:World) (l:List M.Act) (rg kk b o cv rb rn rc:Nat) (x:M.Act) (r:M.Reply) (ids met:Value) (G G2:M.Game) (gg:(Value×Value)) (k9:Nat):Value:=([.slice (some ⟨rb,0,none⟩) rn rc,.int .i64 (kk:Int),.pointer (some ⟨rb,kk*4,none⟩),replyV r ids met,.pointer (some ⟨rg,0,none⟩),.slice (some ⟨b,o,none⟩) l.length cv,.int .i64 (kk:Int),.pointer (some ⟨b,o+kk*17,none⟩),actV x,replyV r gg.1 gg.2,.bool true,.bool false]:List Value).getD k9 undef
def r15Needs (k:Nat):List Nat:=([[],[],[0,1],[2],[],[],[],[5,6],[7],[4,8],[3,9],[10]]:List (List Nat)).getD k []
def r15Mem (w:World) (l:List M.Act) (rg kk b o cv rb rn rc:Nat) (x:M.Act) (r:M.Reply) (ids met:Value) (G G2:M.Game) (W0:World) (gg:(Value×Value)) (ll:Array Bool) (W:World):Prop:=if ll.getD 10 false=true then One w W rg G2 else if ll.getD 9 false=true then (One w W rg G2/\IntsAt W 0 gg.1 r.ids/\PairsAt W 0 gg.2 r.met) else W=W0
noncomputable def r15K (w:World) (l:List M.Act) (rg kk b o cv rb rn rc:Nat) (x:M.Act) (r:M.Reply) (ids met:Value) (G G2:M.Game) (a0:Act) (W0:World):DG ((Value×Value)):={P:=Tryz.prog,ops:=r15Ops,a0:=a0,n:=12,slot:=r15Slot,val:=r15Val w l rg kk b o cv rb rn rc x r ids met G G2,needs:=r15Needs,mem:=r15Mem w l rg kk b o cv rb rn rc x r ids met G G2 W0}
section
variable {w:World} {l:List M.Act} {rg kk b o cv rb rn rc:Nat} {x:M.Act} {r:M.Reply} {ids met:Value} {G G2:M.Game}
variable {a0 fr:Act} {W0 W:World} {Q:Exit->Act->World->Prop} {gg:(Value×Value)} {ll:Array Bool} {k:Nat}
structure r15Ok (w:World) (l:List M.Act) (rg kk b o cv rb rn rc:Nat) (x:M.Act) (r:M.Reply) (ids met:Value) (G G2:M.Game) (a0:Act) (W0:World):Prop where
 h9:a0.eval (.tmp 9)=.slice (some ⟨rb,0,none⟩) rn rc
 h15:a0.eval (.tmp 15)=.int .i64 (kk:Int)
 h13:a0.eval (.tmp 13)=.pointer (some ⟨rg,0,none⟩)
 h3:a0.eval (.tmp 3)=.slice (some ⟨b,o,none⟩) l.length cv
 hk:kk<l.length
 hmx:l.length<=9223372036854775807
 hkr:kk<rn
 hmr:rn<=9223372036854775807
 act:∀U,Below w.heap.size w U->ActCells U b (o+kk*17) x
 rep:∀U,Below w.heap.size w U->(U.cell? ⟨rb,kk*4,none⟩=some (.int .i64 r.code)/\U.cell? ⟨rb,kk*4+1,none⟩=some (.int .i64 r.n)/\U.cell? ⟨rb,kk*4+2,none⟩=some (ids)/\U.cell? ⟨rb,kk*4+3,none⟩=some (met))/\IntsAt U 0 ids r.ids/\PairsAt U 0 met r.met
 one:One w W0 rg G
 doc:M.InDoc G
 hx:ActIn x
 hd:M.doAct G x=(G2,r)
theorem r15_bel (ok:r15Ok w l rg kk b o cv rb rn rc x r ids met G G2 a0 W0) (hm:r15Mem w l rg kk b o cv rb rn rc x r ids met G G2 W0 gg ll W):Below w.heap.size w W:=by
 unfold r15Mem at hm
 split at hm
 ·exact hm.bel
 ·split at hm
  ·exact hm.1.bel
  ·subst hm;exact ok.one.bel
theorem r15_v (F:(r15K w l rg kk b o cv rb rn rc x r ids met G G2 a0 W0).Facts k gg ll fr W) (j s:Nat) (h1:j∈r15Needs k) (h2:r15Slot j=some s):fr.eval (.tmp s)=r15Val w l rg kk b o cv rb rn rc x r ids met G G2 gg j:=F.vals j s h1 h2
theorem r15_z (F:(r15K w l rg kk b o cv rb rn rc x r ids met G G2 a0 W0).Facts k gg ll fr W):ll.size=12:=F.size
theorem r15_keep (F:(r15K w l rg kk b o cv rb rn rc x r ids met G G2 a0 W0).Facts k gg ll fr W) (n9:k≠9) (n10:k≠10):r15Mem w l rg kk b o cv rb rn rc x r ids met G G2 W0 gg (ll.setIfInBounds k true) W:=by
 have h9:r15Mem w l rg kk b o cv rb rn rc x r ids met G G2 W0 gg ll W:=F.mem
 unfold r15Mem at h9⊢
 rw [DG.set_ne n9,DG.set_ne n10]
 exact h9
theorem r15_x {p:Prop} (h:p:=by show Oper.wp Tryz.prog oo fr W K Q;unfold Oper.wp;(try simp only [r15K,r15Val,DG.gz,DG.gs] at e);simp only [execOp,hop,e,mA,mC,mN];go_simp;exact hK gg _ (λ_ _ _ _=>rfl) (r15_keep F dC dC)):p:=h
theorem r15_ok (ok:r15Ok w l rg kk b o cv rb rn rc x r ids met G G2 a0 W0) (hz:a0.tmps.size=96):(r15K w l rg kk b o cv rb rn rc x r ids met G G2 a0 W0).Ok Q:=by
 refine DG.ok_of r15Ops_size kR kR (by rfl) hz (by rfl) ?_
 ·intro k hk
  rcases (show k=0\/k=1\/k=2\/k=3\/k=4\/k=5\/k=6\/k=7\/k=8\/k=9\/k=10\/k=11 from by have k9:k<12:=hk;omega) with rfl|rfl|rfl|rfl|rfl|rfl|rfl|rfl|rfl|rfl|rfl|rfl
  ·exact .ofo 9 ok.h9 (x:=(.move (.tmp 9),some 84)) (H:=λgg ll fr W F oo hop hd K hK e=>r15_x)
  ·exact .ofo 15 ok.h15 (x:=(.move (.tmp 15),some 85)) (H:=λgg ll fr W F oo hop hd K hK e=>r15_x)
  ·refine .of2 0 84 1 85 (x:=(.indexAddr 60 (.tmp 84) (.tmp 85),some 86)) (H:=λgg ll fr W F oo hop hd K hK e=>?_)
   have hk:=ok.hkr
   have hmx:=ok.hmr
   have q0:(0:Int)<=(kk:Int):=by omega
   have q1:(kk:Int)<(rn:Int):=by omega
   exact r15_x
  ·refine .of1 2 86 (x:=(.load 35 (.tmp 86),some 87)) (H:=λgg ll fr W F oo hop hd K hK e=>?_)
   have hm:r15Mem w l rg kk b o cv rb rn rc x r ids met G G2 W0 gg ll W:=F.mem
   have hbw:Below w.heap.size w W:=r15_bel ok hm
   obtain ⟨⟨u0,u1,u2,u3⟩,_⟩:=ok.rep W hbw
   exact r15_x
  ·exact .ofo 13 ok.h13 (x:=(.move (.tmp 13),some 88)) (H:=λgg ll fr W F oo hop hd K hK e=>r15_x)
  ·exact .ofo 3 ok.h3 (x:=(.move (.tmp 3),some 89)) (H:=λgg ll fr W F oo hop hd K hK e=>r15_x)
  ·exact .ofo 15 ok.h15 (x:=(.move (.tmp 15),some 90)) (H:=λgg ll fr W F oo hop hd K hK e=>r15_x)
  ·refine .of2 5 89 6 90 (x:=(.indexAddr 22 (.tmp 89) (.tmp 90),some 91)) (H:=λgg ll fr W F oo hop hd K hK e=>?_)
   have hk:=ok.hk
   have hmx:=ok.hmx
   have q0:(0:Int)<=(kk:Int):=by omega
   have q1:(kk:Int)<(l.length:Int):=by omega
   exact r15_x
  ·refine .of (x:=(.load 42 (.tmp 91),some 92)) kR λgg ll fr W F oo hop hd K hK=>?_
   have e7:=r15_v F 7 91 dC rfl
   simp only [r15Val,DG.gz,DG.gs] at e7
   have hm:r15Mem w l rg kk b o cv rb rn rc x r ids met G G2 W0 gg ll W:=F.mem
   have hbw:Below w.heap.size w W:=r15_bel ok hm
   refine wp_load_mid 42 (.tmp 91) hop b (o+kk*17) e7 (actL x) _ (ok.act W hbw) Tryz.underlying42 rfl kR ?_
   rw [hd]
   exact hK gg _ (λ_ _ _ _=>rfl) (r15_keep F dC dC)
  ·refine .of (x:=(.call {callee:=.value (.func 10),args:=#[.tmp 88,.tmp 92],argTypes:=#[27,42]},some 93)) kR λgg ll fr W F oo hop hd K hK=>?_
   have e4:=r15_v F 4 88 dC rfl
   have e8:=r15_v F 8 92 dC rfl
   simp only [r15Val,DG.gz,DG.gs] at e4 e8
   have hm:r15Mem w l rg kk b o cv rb rn rc x r ids met G G2 W0 gg ll W:=F.mem
   have hz:9<ll.size:=by rw [r15_z F];decide
   have l9:ll.getD 9 false=false:=F.not
   have l10:ll.getD 10 false=false:=(F.before (show 9∈r15Needs 10 from by decide))
   have hW:W=W0:=by have q:=hm;unfold r15Mem at q;rw [if_neg (by rw [l10];simp),if_neg (by rw [l9];simp)] at q;exact q
   subst hW
   show oo.wp Tryz.prog fr W K Q
   unfold Oper.wp
   simp only [execOp,hop,e4,e8,mA,mC,mN]
   go_simp
   try simp only [DG.tmps_eval,e4,e8]
   refine (one_rdo ok.one ok.doc ok.hx ok.hd).mono ?_
   rintro e W2 ⟨ids2,met2,rfl,ht2,hi2,hm2⟩
   refine hK (ids2,met2) W2 ?_ (show r15Mem w l rg kk b o cv rb rn rc x r ids met G G2 W (ids2,met2) (ll.setIfInBounds 9 true) W2 from ?_)
   ·intro j hj hne hl
    have hj':j<12:=hj
    rcases (by omega:j=0\/j=1\/j=2\/j=3\/j=4\/j=5\/j=6\/j=7\/j=8\/j=9\/j=10\/j=11) with rfl|rfl|rfl|rfl|rfl|rfl|rfl|rfl|rfl|rfl|rfl|rfl<;>first|rfl|exact absurd rfl hne
   ·unfold r15Mem
    rw [DG.set_ne (i:=9) (k:=10) dC,DG.set_eq hz,l10]
    rw [if_neg sS,if_pos rfl]
    exact ⟨ht2,hi2,hm2⟩
  ·refine .of (x:=(.call {callee:=.value (.func 8),args:=#[.tmp 87,.tmp 93],argTypes:=#[35,35]},some 94)) kR λgg ll fr W F oo hop hd K hK=>?_
   have e3:=r15_v F 3 87 dC rfl
   have e9:=r15_v F 9 93 dC rfl
   simp only [r15Val,DG.gz,DG.gs] at e3 e9
   have hm:r15Mem w l rg kk b o cv rb rn rc x r ids met G G2 W0 gg ll W:=F.mem
   have hz:10<ll.size:=by rw [r15_z F];decide
   have l10:ll.getD 10 false=false:=F.not
   have t9:ll.getD 9 false=true:=F.listed 9 (show 9∈r15Needs 10 from by decide)
   obtain ⟨ht,hi2,hm2⟩:One w W rg G2/\IntsAt W 0 gg.1 r.ids/\PairsAt W 0 gg.2 r.met:=by have q:=hm;unfold r15Mem at q;rw [if_neg (by rw [l10];simp),if_pos t9] at q;exact q
   have hbw:Below w.heap.size w W:=r15_bel ok hm
   obtain ⟨_,hi,hmt⟩:=ok.rep W hbw
   show oo.wp Tryz.prog fr W K Q
   unfold Oper.wp
   simp only [execOp,hop,e3,e9,mA,mC,mN]
   go_simp
   try simp only [DG.tmps_eval,e3,e9]
   refine (refReply_calls hi hmt hi2 hm2).mono ?_
   rintro e W2 ⟨rfl,hb2⟩
   exact hK gg _ (λ_ _ _ _=>rfl) (show r15Mem w l rg kk b o cv rb rn rc x r ids met G G2 W0 gg (ll.setIfInBounds 10 true) W2 from by unfold r15Mem;rw [DG.set_eq hz,if_pos rfl];exact ht.more hb2)
  ·exact .of1 10 94 (x:=(.unOp .not 4 (.tmp 94),some 95)) (H:=λgg ll fr W F oo hop hd K hK e=>r15_x)
abbrev r15L (w:World) (l:List M.Act) (rg kk b o cv rb rn rc:Nat) (x:M.Act) (r:M.Reply) (ids met:Value) (G G2:M.Game) (gg:(Value×Value)):List (Nat×Value):=[(84,r15Val w l rg kk b o cv rb rn rc x r ids met G G2 gg 0),(85,r15Val w l rg kk b o cv rb rn rc x r ids met G G2 gg 1),(86,r15Val w l rg kk b o cv rb rn rc x r ids met G G2 gg 2),(87,r15Val w l rg kk b o cv rb rn rc x r ids met G G2 gg 3),(88,r15Val w l rg kk b o cv rb rn rc x r ids met G G2 gg 4),(89,r15Val w l rg kk b o cv rb rn rc x r ids met G G2 gg 5),(90,r15Val w l rg kk b o cv rb rn rc x r ids met G G2 gg 6),(91,r15Val w l rg kk b o cv rb rn rc x r ids met G G2 gg 7),(92,r15Val w l rg kk b o cv rb rn rc x r ids met G G2 gg 8),(93,r15Val w l rg kk b o cv rb rn rc x r ids met G G2 gg 9),(94,r15Val w l rg kk b o cv rb rn rc x r ids met G G2 gg 10),(95,r15Val w l rg kk b o cv rb rn rc x r ids met G G2 gg 11)]
theorem r15_region (ok:r15Ok w l rg kk b o cv rb rn rc x r ids met G G2 a0 W0) (hz:a0.tmps.size=96) (hd:a0.defers=[]) (g0:(Value×Value)) (hm:r15Mem w l rg kk b o cv rb rn rc x r ids met G G2 W0 g0 (Array.replicate 12 false) W)
  (hQ:∀(gg:(Value×Value)) (ll:Array Bool) (W':World),(∀k,k<12->ll.getD k false=true)->r15Mem w l rg kk b o cv rb rn rc x r ids met G G2 W0 gg ll W'->Q .normal ⟨DG.setQ a0.tmps (r15L w l rg kk b o cv rb rn rc x r ids met G G2 gg),[]⟩ W'):
  wpAny Tryz.prog .any r15Ops Q 12 (Array.replicate 12 false) a0 W:=
 DG.region2 (c:=r15K w l rg kk b o cv rb rn rc x r ids met G G2 a0 W0) (r15_ok ok hz) kR hd g0 hm (r15L w l rg kk b o cv rb rn rc x r ids met G G2) (λ_=>rfl) hQ
end
end Go.Proofs.YtemkbjaojinaoaaGreat
