/- GamePlays: the statement in which both games act; it draws its order. Condition: what the walk has shown ahead of it. -/
import Derived.Test.YtemkbjaojinaoaaGreatShort
import Derived.Test.YtemkbjaojinaoaaGreatBagN7
import Derived.Test.YtemkbjaojinaoaaGreatBagW
import Derived.Test.YtemkbjaojinaoaaGreatBagM1
import Derived.Deep.MidRow
set_option linter.unusedVariables false
set_option linter.unusedSimpArgs false
set_option maxRecDepth 100000
set_option maxHeartbeats 8000000
namespace Go.Proofs.YtemkbjaojinaoaaGreat
open Go.RowKit
noncomputable def p10C:Code:=((Tryz.f3.body.bind (regionOf 10)).getD .skip)
noncomputable def p10Ops:Array Oper:=match p10C with
 | .region _ ops _=>ops
 |_=>#[]
theorem p10C_is:p10C=.region 10 p10Ops true:=by kernel_rfl
theorem p10Ops_size:p10Ops.size=14:=by kernel_rfl
def p10Slot (k:Nat):Option Nat:=([some 51,some 52,some 53,some 54,some 55,some 56,some 57,some 58,some 59,some 60,some 61,some 62,some 63,some 64]:List (Option Nat)).getD k none
def p10Val (w:World) (l:List M.Act) (g rg kk b o cv:Nat) (x:M.Act) (r:M.Reply) (G G2:M.Game) (gg:(Value×Value×Value×Value)) (k9:Nat):Value:=([.pointer (some ⟨g,0,none⟩),.slice (some ⟨b,o,none⟩) l.length cv,.int .i64 (kk:Int),.pointer (some ⟨b,o+kk*17,none⟩),actV x,replyV r gg.1 gg.2.1,.pointer (some ⟨rg,0,none⟩),.slice (some ⟨b,o,none⟩) l.length cv,.int .i64 (kk:Int),.pointer (some ⟨b,o+kk*17,none⟩),actV x,replyV r gg.2.2.1 gg.2.2.2,.bool true,.bool false]:List Value).getD k9 undef
def p10Needs (k:Nat):List Nat:=([[],[],[],[1,2],[3],[0,4],[],[],[],[7,8],[9],[6,10,5],[5,11],[12]]:List (List Nat)).getD k []
def p10Mem (w:World) (l:List M.Act) (g rg kk b o cv:Nat) (x:M.Act) (r:M.Reply) (G G2:M.Game) (W0:World) (gg:(Value×Value×Value×Value)) (ll:Array Bool) (W:World):Prop:=if ll.getD 12 false=true then Two w W g rg G2 G2 (λ_=>False) else if ll.getD 11 false=true then (Two w W g rg G2 G2 (λ_=>False)/\(IntsAt W 0 gg.1 r.ids/\PairsAt W 0 gg.2.1 r.met)/\IntsAt W 0 gg.2.2.1 r.ids/\PairsAt W 0 gg.2.2.2 r.met) else if ll.getD 5 false=true then (Two w W g rg G2 G (λz=>gg.1.ownBlock=some z\/gg.2.1.ownBlock=some z)/\W.ownsRow 0 3 1 gg.1 r.ids.length (r.ids.map (Value.int .i64))/\W.ownsRow 0 71 2 gg.2.1 r.met.length (r.met.flatMap pairL)) else W=W0
noncomputable def p10K (w:World) (l:List M.Act) (g rg kk b o cv:Nat) (x:M.Act) (r:M.Reply) (G G2:M.Game) (a0:Act) (W0:World):DG ((Value×Value×Value×Value)):={P:=Tryz.prog,ops:=p10Ops,a0:=a0,n:=14,slot:=p10Slot,val:=p10Val w l g rg kk b o cv x r G G2,needs:=p10Needs,mem:=p10Mem w l g rg kk b o cv x r G G2 W0}
section
variable {w:World} {l:List M.Act} {g rg kk b o cv:Nat} {x:M.Act} {r:M.Reply} {G G2:M.Game}
variable {a0 fr:Act} {W0 W:World} {Q:Exit->Act->World->Prop} {gg:(Value×Value×Value×Value)} {ll:Array Bool} {k:Nat}
structure p10Ok (w:World) (l:List M.Act) (g rg kk b o cv:Nat) (x:M.Act) (r:M.Reply) (G G2:M.Game) (a0:Act) (W0:World):Prop where
 h9:a0.eval (.tmp 9)=.pointer (some ⟨g,0,none⟩)
 h3:a0.eval (.tmp 3)=.slice (some ⟨b,o,none⟩) l.length cv
 h13:a0.eval (.tmp 13)=.int .i64 (kk:Int)
 h11:a0.eval (.tmp 11)=.pointer (some ⟨rg,0,none⟩)
 hk:kk<l.length
 hmx:l.length<=9223372036854775807
 act:∀U,Below w.heap.size w U->ActCells U b (o+kk*17) x
 two:Two w W0 g rg G G (λ_=>False)
 doc:M.InDoc G
 hx:ActIn x
 hd:M.doAct G x=(G2,r)
theorem p10_bel (ok:p10Ok w l g rg kk b o cv x r G G2 a0 W0) (hm:p10Mem w l g rg kk b o cv x r G G2 W0 gg ll W):Below w.heap.size w W:=by
 unfold p10Mem at hm
 split at hm
 ·exact hm.bel
 ·split at hm
  ·exact hm.1.bel
  ·split at hm
   ·exact hm.1.bel
   ·subst hm;exact ok.two.bel
theorem p10_v (F:(p10K w l g rg kk b o cv x r G G2 a0 W0).Facts k gg ll fr W) (j s:Nat) (h1:j∈p10Needs k) (h2:p10Slot j=some s):fr.eval (.tmp s)=p10Val w l g rg kk b o cv x r G G2 gg j:=F.vals j s h1 h2
theorem p10_z (F:(p10K w l g rg kk b o cv x r G G2 a0 W0).Facts k gg ll fr W):ll.size=14:=F.size
theorem p10_keep (F:(p10K w l g rg kk b o cv x r G G2 a0 W0).Facts k gg ll fr W) (n5:k≠5) (n11:k≠11) (n12:k≠12):p10Mem w l g rg kk b o cv x r G G2 W0 gg (ll.setIfInBounds k true) W:=by
 have h9:p10Mem w l g rg kk b o cv x r G G2 W0 gg ll W:=F.mem
 unfold p10Mem at h9⊢
 rw [DG.set_ne n5,DG.set_ne n11,DG.set_ne n12]
 exact h9
theorem p10_x {p:Prop} (h:p:=by show Oper.wp Tryz.prog oo fr W K Q;unfold Oper.wp;(try simp only [p10K,p10Val,DG.gz,DG.gs] at e);simp only [execOp,hop,e,mA,mC,mN];go_simp;exact hK gg _ (λ_ _ _ _=>rfl) (p10_keep F dC dC dC)):p:=h
theorem p10_ok (ok:p10Ok w l g rg kk b o cv x r G G2 a0 W0) (hz:a0.tmps.size=82):(p10K w l g rg kk b o cv x r G G2 a0 W0).Ok Q:=by
 refine DG.ok_of p10Ops_size kR kR (by rfl) hz (by rfl) ?_
 ·intro k hk
  rcases (show k=0\/k=1\/k=2\/k=3\/k=4\/k=5\/k=6\/k=7\/k=8\/k=9\/k=10\/k=11\/k=12\/k=13 from by have k9:k<14:=hk;omega) with rfl|rfl|rfl|rfl|rfl|rfl|rfl|rfl|rfl|rfl|rfl|rfl|rfl|rfl
  ·exact .ofo 9 ok.h9 (x:=(.move (.tmp 9),some 51)) (H:=λgg ll fr W F oo hop hd K hK e=>p10_x)
  ·exact .ofo 3 ok.h3 (x:=(.move (.tmp 3),some 52)) (H:=λgg ll fr W F oo hop hd K hK e=>p10_x)
  ·exact .ofo 13 ok.h13 (x:=(.move (.tmp 13),some 53)) (H:=λgg ll fr W F oo hop hd K hK e=>p10_x)
  ·refine .of2 1 52 2 53 (x:=(.indexAddr 22 (.tmp 52) (.tmp 53),some 54)) (H:=λgg ll fr W F oo hop hd K hK e=>?_)
   have hk:=ok.hk
   have hmx:=ok.hmx
   have q0:(0:Int)<=(kk:Int):=by omega
   have q1:(kk:Int)<(l.length:Int):=by omega
   exact p10_x
  ·refine .of (x:=(.load 42 (.tmp 54),some 55)) kR λgg ll fr W F oo hop hd K hK=>?_
   have e3:=p10_v F 3 54 dC rfl
   simp only [p10Val,DG.gz,DG.gs] at e3
   have hm:p10Mem w l g rg kk b o cv x r G G2 W0 gg ll W:=F.mem
   have hbw:Below w.heap.size w W:=p10_bel ok hm
   refine wp_load_mid 42 (.tmp 54) hop b (o+kk*17) e3 (actL x) _ (ok.act W hbw) Tryz.underlying42 rfl kR ?_
   rw [hd]
   exact hK gg _ (λ_ _ _ _=>rfl) (p10_keep F dC dC dC)
  ·refine .of (x:=(.call {callee:=.value (.func 9),args:=#[.tmp 51,.tmp 55],argTypes:=#[23,42]},some 56)) kR λgg ll fr W F oo hop hd K hK=>?_
   have e0:=p10_v F 0 51 dC rfl
   have e4:=p10_v F 4 55 dC rfl
   simp only [p10Val,DG.gz,DG.gs] at e0 e4
   have hm:p10Mem w l g rg kk b o cv x r G G2 W0 gg ll W:=F.mem
   have hz:5<ll.size:=by rw [p10_z F];decide
   have l5:ll.getD 5 false=false:=F.not
   have l11:ll.getD 11 false=false:=(F.before (show 5∈p10Needs 11 from by decide))
   have l12:ll.getD 12 false=false:=(F.up (show 11∈p10Needs 12 from by decide) (F.before (show 5∈p10Needs 11 from by decide)))
   have hW:W=W0:=by have q:=hm;unfold p10Mem at q;rw [if_neg (by rw [l12];simp),if_neg (by rw [l11];simp),if_neg (by rw [l5];simp)] at q;exact q
   subst hW
   show oo.wp Tryz.prog fr W K Q
   unfold Oper.wp
   simp only [execOp,hop,e0,e4,mA,mC,mN]
   go_simp
   try simp only [DG.tmps_eval,e0,e4]
   refine (two_do ok.two ok.doc ok.hx ok.hd).mono ?_
   rintro e W2 ⟨ids,met,rfl,ht,hi,hmt⟩
   refine hK (ids,met,gg.2.2) W2 ?_ (show p10Mem w l g rg kk b o cv x r G G2 W (ids,met,gg.2.2) (ll.setIfInBounds 5 true) W2 from ?_)
   ·intro j hj hne hl
    have hj':j<14:=hj
    rcases (by omega:j=0\/j=1\/j=2\/j=3\/j=4\/j=5\/j=6\/j=7\/j=8\/j=9\/j=10\/j=11\/j=12\/j=13) with rfl|rfl|rfl|rfl|rfl|rfl|rfl|rfl|rfl|rfl|rfl|rfl|rfl|rfl<;>first|rfl|exact absurd rfl hne
   ·unfold p10Mem
    rw [DG.set_ne (i:=5) (k:=12) dC,DG.set_ne (i:=5) (k:=11) dC,DG.set_eq hz,l11,l12]
    rw [if_neg sS,if_neg sS,if_pos rfl]
    exact ⟨ht,hi,hmt⟩
  ·exact .ofo 11 ok.h11 (x:=(.move (.tmp 11),some 57)) (H:=λgg ll fr W F oo hop hd K hK e=>p10_x)
  ·exact .ofo 3 ok.h3 (x:=(.move (.tmp 3),some 58)) (H:=λgg ll fr W F oo hop hd K hK e=>p10_x)
  ·exact .ofo 13 ok.h13 (x:=(.move (.tmp 13),some 59)) (H:=λgg ll fr W F oo hop hd K hK e=>p10_x)
  ·refine .of2 7 58 8 59 (x:=(.indexAddr 22 (.tmp 58) (.tmp 59),some 60)) (H:=λgg ll fr W F oo hop hd K hK e=>?_)
   have hk:=ok.hk
   have hmx:=ok.hmx
   have q0:(0:Int)<=(kk:Int):=by omega
   have q1:(kk:Int)<(l.length:Int):=by omega
   exact p10_x
  ·refine .of (x:=(.load 42 (.tmp 60),some 61)) kR λgg ll fr W F oo hop hd K hK=>?_
   have e9:=p10_v F 9 60 dC rfl
   simp only [p10Val,DG.gz,DG.gs] at e9
   have hm:p10Mem w l g rg kk b o cv x r G G2 W0 gg ll W:=F.mem
   have hbw:Below w.heap.size w W:=p10_bel ok hm
   refine wp_load_mid 42 (.tmp 60) hop b (o+kk*17) e9 (actL x) _ (ok.act W hbw) Tryz.underlying42 rfl kR ?_
   rw [hd]
   exact hK gg _ (λ_ _ _ _=>rfl) (p10_keep F dC dC dC)
  ·refine .of (x:=(.call {callee:=.value (.func 10),args:=#[.tmp 57,.tmp 61],argTypes:=#[27,42]},some 62)) kR λgg ll fr W F oo hop hd K hK=>?_
   have e6:=p10_v F 6 57 dC rfl
   have e10:=p10_v F 10 61 dC rfl
   have e5:=p10_v F 5 56 dC rfl
   simp only [p10Val,DG.gz,DG.gs] at e6 e10 e5
   have hm:p10Mem w l g rg kk b o cv x r G G2 W0 gg ll W:=F.mem
   have hz:11<ll.size:=by rw [p10_z F];decide
   have l11:ll.getD 11 false=false:=F.not
   have l12:ll.getD 12 false=false:=(F.before (show 11∈p10Needs 12 from by decide))
   have t5:ll.getD 5 false=true:=F.listed 5 (show 5∈p10Needs 11 from by decide)
   obtain ⟨ht,hi,hmt⟩:Two w W g rg G2 G (λz=>gg.1.ownBlock=some z\/gg.2.1.ownBlock=some z)/\W.ownsRow 0 3 1 gg.1 r.ids.length (r.ids.map (Value.int .i64))/\W.ownsRow 0 71 2 gg.2.1 r.met.length (r.met.flatMap pairL):=by have q:=hm;unfold p10Mem at q;rw [if_neg (by rw [l12];simp),if_neg (by rw [l11];simp),if_pos t5] at q;exact q
   show oo.wp Tryz.prog fr W K Q
   unfold Oper.wp
   simp only [execOp,hop,e6,e10,e5,mA,mC,mN]
   go_simp
   try simp only [DG.tmps_eval,e6,e10]
   refine (two_rdo ht ok.doc ok.hx ok.hd).mono ?_
   rintro e W2 ⟨ids,met,rfl,ht2,hkp,hi2,hm2⟩
   refine hK (gg.1,gg.2.1,ids,met) W2 ?_ (show p10Mem w l g rg kk b o cv x r G G2 W0 (gg.1,gg.2.1,ids,met) (ll.setIfInBounds 11 true) W2 from ?_)
   ·intro j hj hne hl
    have hj':j<14:=hj
    rcases (by omega:j=0\/j=1\/j=2\/j=3\/j=4\/j=5\/j=6\/j=7\/j=8\/j=9\/j=10\/j=11\/j=12\/j=13) with rfl|rfl|rfl|rfl|rfl|rfl|rfl|rfl|rfl|rfl|rfl|rfl|rfl|rfl<;>first|rfl|exact absurd rfl hne
   ·unfold p10Mem
    rw [DG.set_ne (i:=11) (k:=12) dC,DG.set_eq hz,l12]
    rw [if_neg sS,if_pos rfl]
    exact ⟨ht2,⟨Lies.of_owns (own_same hi (λy e=>hkp y (hi.lt y e).2 (.inl e))),Lies.of_owns (own_same hmt (λy e=>hkp y (hmt.lt y e).2 (.inr e)))⟩,hi2,hm2⟩
  ·refine .of (x:=(.call {callee:=.value (.func 8),args:=#[.tmp 56,.tmp 62],argTypes:=#[35,35]},some 63)) kR λgg ll fr W F oo hop hd K hK=>?_
   have e5:=p10_v F 5 56 dC rfl
   have e11:=p10_v F 11 62 dC rfl
   simp only [p10Val,DG.gz,DG.gs] at e5 e11
   have hm:p10Mem w l g rg kk b o cv x r G G2 W0 gg ll W:=F.mem
   have hz:12<ll.size:=by rw [p10_z F];decide
   have l12:ll.getD 12 false=false:=F.not
   have t11:ll.getD 11 false=true:=F.listed 11 (show 11∈p10Needs 12 from by decide)
   obtain ⟨ht,⟨hi,hmt⟩,hi2,hm2⟩:Two w W g rg G2 G2 (λ_=>False)/\(IntsAt W 0 gg.1 r.ids/\PairsAt W 0 gg.2.1 r.met)/\IntsAt W 0 gg.2.2.1 r.ids/\PairsAt W 0 gg.2.2.2 r.met:=by have q:=hm;unfold p10Mem at q;rw [if_neg (by rw [l12];simp),if_pos t11] at q;exact q
   show oo.wp Tryz.prog fr W K Q
   unfold Oper.wp
   simp only [execOp,hop,e5,e11,mA,mC,mN]
   go_simp
   try simp only [DG.tmps_eval,e5,e11]
   refine (refReply_calls hi hmt hi2 hm2).mono ?_
   rintro e W2 ⟨rfl,hb2⟩
   exact hK gg _ (λ_ _ _ _=>rfl) (show p10Mem w l g rg kk b o cv x r G G2 W0 gg (ll.setIfInBounds 12 true) W2 from by unfold p10Mem;rw [DG.set_eq hz,if_pos rfl];exact ht.more hb2)
  ·exact .of1 12 63 (x:=(.unOp .not 4 (.tmp 63),some 64)) (H:=λgg ll fr W F oo hop hd K hK e=>p10_x)
abbrev p10L (w:World) (l:List M.Act) (g rg kk b o cv:Nat) (x:M.Act) (r:M.Reply) (G G2:M.Game) (gg:(Value×Value×Value×Value)):List (Nat×Value):=[(51,p10Val w l g rg kk b o cv x r G G2 gg 0),(52,p10Val w l g rg kk b o cv x r G G2 gg 1),(53,p10Val w l g rg kk b o cv x r G G2 gg 2),(54,p10Val w l g rg kk b o cv x r G G2 gg 3),(55,p10Val w l g rg kk b o cv x r G G2 gg 4),(56,p10Val w l g rg kk b o cv x r G G2 gg 5),(57,p10Val w l g rg kk b o cv x r G G2 gg 6),(58,p10Val w l g rg kk b o cv x r G G2 gg 7),(59,p10Val w l g rg kk b o cv x r G G2 gg 8),(60,p10Val w l g rg kk b o cv x r G G2 gg 9),(61,p10Val w l g rg kk b o cv x r G G2 gg 10),(62,p10Val w l g rg kk b o cv x r G G2 gg 11),(63,p10Val w l g rg kk b o cv x r G G2 gg 12),(64,p10Val w l g rg kk b o cv x r G G2 gg 13)]
theorem p10_region (ok:p10Ok w l g rg kk b o cv x r G G2 a0 W0) (hz:a0.tmps.size=82) (hd:a0.defers=[]) (g0:(Value×Value×Value×Value)) (hm:p10Mem w l g rg kk b o cv x r G G2 W0 g0 (Array.replicate 14 false) W)
  (hQ:∀(gg:(Value×Value×Value×Value)) (ll:Array Bool) (W':World),(∀k,k<14->ll.getD k false=true)->p10Mem w l g rg kk b o cv x r G G2 W0 gg ll W'->Q .normal ⟨DG.setQ a0.tmps (p10L w l g rg kk b o cv x r G G2 gg),[]⟩ W'):
  wpAny Tryz.prog .any p10Ops Q 14 (Array.replicate 14 false) a0 W:=
 DG.region2 (c:=p10K w l g rg kk b o cv x r G G2 a0 W0) (p10_ok ok hz) kR hd g0 hm (p10L w l g rg kk b o cv x r G G2) (λ_=>rfl) hQ
end
end Go.Proofs.YtemkbjaojinaoaaGreat
