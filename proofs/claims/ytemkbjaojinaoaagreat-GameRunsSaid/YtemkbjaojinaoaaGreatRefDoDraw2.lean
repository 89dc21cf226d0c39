/- The document's Do: the statements that write two cells of a thing's box, each operation once. Condition: what the walk has shown ahead of them. -/
import Derived.Test.YtemkbjaojinaoaaGreatShort
import Derived.Test.YtemkbjaojinaoaaGreatBagN2
import Derived.Test.YtemkbjaojinaoaaGreatBagM3
import Derived.Test.YtemkbjaojinaoaaGreatBagM2
set_option linter.unusedVariables false
set_option linter.unusedSimpArgs false
set_option maxRecDepth 100000
set_option maxHeartbeats 8000000
namespace Go.Proofs.YtemkbjaojinaoaaGreat
open Go.RowKit
theorem cell_block {w W:World} {b:Nat} (h:W.heap[b]?=w.heap[b]?) (i:Nat):W.cell? ⟨b,i,none⟩=w.cell? ⟨b,i,none⟩:=by simp only [World.cell?,h]
noncomputable def r76C:Code:=((Tryz.f10.body.bind (regionOf 76)).getD .skip)
noncomputable def r76Ops:Array Oper:=match r76C with
 | .region _ ops _=>ops
 |_=>#[]
theorem r76C_is:r76C=.region 76 r76Ops true:=by kernel_rfl
theorem r76Ops_size:r76Ops.size=20:=by kernel_rfl
def r76Slot (k:Nat):Option Nat:=([some 378,some 379,some 380,some 381,some 382,some 383,some 384,some 385,some 386,some 387,some 388,some 389,some 390,some 391,some 392,some 393,none,some 394,some 395,none]:List (Option Nat)).getD k none
def r76Val (p3 p6:Nat) (m:Int) (r q:M.Row) (gg:Unit) (k9:Nat):Value:=([.pointer (some ⟨p6,1,none⟩),.pointer (some ⟨p6,3,none⟩),.int .i64 r.PX,.pointer (some ⟨p3,4,none⟩),.pointer (some ⟨p3,6,none⟩),.int .i64 q.PX,.int .i64 (M.add r.PX q.PX 16777216),.pointer (some ⟨p6,1,none⟩),.pointer (some ⟨p6,4,none⟩),.int .i64 r.PY,.pointer (some ⟨p3,4,none⟩),.pointer (some ⟨p3,7,none⟩),.int .i64 q.PY,.int .i64 (M.add r.PY q.PY 16777216),.pointer (some ⟨p6,1,none⟩),.pointer (some ⟨p6,3,none⟩),undef,.pointer (some ⟨p6,1,none⟩),.pointer (some ⟨p6,4,none⟩),undef]:List Value).getD k9 undef
def r76Needs (k:Nat):List Nat:=([[],[0],[1],[],[3],[4],[2,5],[],[7],[8],[],[10],[11],[9,12],[],[14],[6,15],[],[17],[13,18]]:List (List Nat)).getD k []
def r76Mem (p3 p6:Nat) (m:Int) (r q:M.Row) (W0:World) (gg:Unit) (ll:Array Bool) (W:World):Prop:=Blk W p6 83 #[.int .i64 m,.int .i64 r.X,.int .i64 r.Y,.int .i64 (if ll.getD 16 false=true then (M.add r.PX q.PX 16777216) else r.PX),.int .i64 (if ll.getD 19 false=true then (M.add r.PY q.PY 16777216) else r.PY),.int .i64 r.W,.int .i64 r.H,.int .i64 r.M,.int .i64 r.R]/\FarO p6 W0 W
noncomputable def r76K (p3 p6:Nat) (m:Int) (r q:M.Row) (a0:Act) (W0:World):DG (Unit):={P:=Tryz.prog,ops:=r76Ops,a0:=a0,n:=20,slot:=r76Slot,val:=r76Val p3 p6 m r q,needs:=r76Needs,mem:=r76Mem p3 p6 m r q W0}
section
variable {p3 p6:Nat} {m:Int} {r q:M.Row}
variable {a0 fr:Act} {W0 W:World} {Q:Exit->Act->World->Prop} {gg:Unit} {ll:Array Bool} {k:Nat}
structure r76Ok (p3 p6:Nat) (m:Int) (r q:M.Row) (a0:Act) (W0:World):Prop where
 h3:a0.eval (.tmp 3)=.pointer (some ⟨p3,0,none⟩)
 h6:a0.eval (.tmp 6)=.pointer (some ⟨p6,0,none⟩)
 ne:p3≠p6
 a6:W0.cell? ⟨p3,6,none⟩=some (.int .i64 q.PX)
 a7:W0.cell? ⟨p3,7,none⟩=some (.int .i64 q.PY)
theorem r76_v (F:(r76K p3 p6 m r q a0 W0).Facts k gg ll fr W) (j s:Nat) (h1:j∈r76Needs k) (h2:r76Slot j=some s):fr.eval (.tmp s)=r76Val p3 p6 m r q gg j:=F.vals j s h1 h2
theorem r76_z (F:(r76K p3 p6 m r q a0 W0).Facts k gg ll fr W):ll.size=20:=F.size
theorem r76_keep (F:(r76K p3 p6 m r q a0 W0).Facts k gg ll fr W) (n16:k≠16) (n19:k≠19):r76Mem p3 p6 m r q W0 gg (ll.setIfInBounds k true) W:=by
 have h9:r76Mem p3 p6 m r q W0 gg ll W:=F.mem
 unfold r76Mem at h9⊢
 rw [DG.set_ne n16,DG.set_ne n19]
 exact h9
theorem r76_x {p:Prop} (h:p:=by show Oper.wp Tryz.prog oo fr W K Q;unfold Oper.wp;(try simp only [r76K,r76Val,DG.gz,DG.gs] at e);simp only [execOp,hop,e,mA,mC,mN];go_simp;exact hK gg _ (λ_ _ _ _=>rfl) (r76_keep F dC dC)):p:=h
theorem r76_ok (ok:r76Ok p3 p6 m r q a0 W0) (hz:a0.tmps.size=406):(r76K p3 p6 m r q a0 W0).Ok Q:=by
 refine DG.ok_of r76Ops_size kR kR (by rfl) hz (by rfl) ?_
 ·intro k hk
  rcases (show k=0\/k=1\/k=2\/k=3\/k=4\/k=5\/k=6\/k=7\/k=8\/k=9\/k=10\/k=11\/k=12\/k=13\/k=14\/k=15\/k=16\/k=17\/k=18\/k=19 from by have k9:k<20:=hk;omega) with rfl|rfl|rfl|rfl|rfl|rfl|rfl|rfl|rfl|rfl|rfl|rfl|rfl|rfl|rfl|rfl|rfl|rfl|rfl|rfl
  ·exact .ofo 6 ok.h6 (x:=(.fieldAddr 83 (.tmp 6) 1,some 378)) (H:=λgg ll fr W F oo hop hd K hK e=>r76_x)
  ·exact .of1 0 378 (x:=(.fieldAddr 38 (.tmp 378) 2,some 379)) (H:=λgg ll fr W F oo hop hd K hK e=>r76_x)
  ·refine .of1 1 379 (x:=(.load 3 (.tmp 379),some 380)) (H:=λgg ll fr W F oo hop hd K hK e=>?_)
   have l16:ll.getD 16 false=false:=(F.up (show 6∈r76Needs 16 from by decide) (F.before (show 2∈r76Needs 6 from by decide)))
   obtain ⟨hb,hf⟩:=F.mem
   have u3:=hb.cell 3
   simp [l16] at u3
   exact r76_x
  ·exact .ofo 3 ok.h3 (x:=(.fieldAddr 42 (.tmp 3) 4,some 381)) (H:=λgg ll fr W F oo hop hd K hK e=>r76_x)
  ·exact .of1 3 381 (x:=(.fieldAddr 38 (.tmp 381) 2,some 382)) (H:=λgg ll fr W F oo hop hd K hK e=>r76_x)
  ·refine .of1 4 382 (x:=(.load 3 (.tmp 382),some 383)) (H:=λgg ll fr W F oo hop hd K hK e=>?_)
   obtain ⟨hb,hf⟩:=F.mem
   have u:W.cell? ⟨p3,6,none⟩=some (.int .i64 q.PX):=(cell_block (hf.1 p3 ok.ne) 6).trans ok.a6
   exact r76_x
  ·refine .of (x:=(.call {callee:=.value (.func 34),args:=#[.tmp 380,.tmp 383,.const (.int .i64 16777216)],argTypes:=#[3,3,3]},some 384)) kR λgg ll fr W F oo hop hd K hK=>?_
   have e2:=r76_v F 2 380 dC rfl
   have e5:=r76_v F 5 383 dC rfl
   simp only [r76Val,DG.gz,DG.gs] at e2 e5
   show oo.wp Tryz.prog fr W K Q
   unfold Oper.wp
   simp only [execOp,hop,e2,e5,mA,mC,mN]
   go_simp
   simp only [DG.tmps_eval,e2,e5]
   refine (addOf_calls _ _ _ W).mono ?_
   rintro e W2 ⟨rfl,rfl⟩
   exact hK gg _ (λ_ _ _ _=>rfl) (r76_keep F dC dC)
  ·exact .ofo 6 ok.h6 (x:=(.fieldAddr 83 (.tmp 6) 1,some 385)) (H:=λgg ll fr W F oo hop hd K hK e=>r76_x)
  ·exact .of1 7 385 (x:=(.fieldAddr 38 (.tmp 385) 3,some 386)) (H:=λgg ll fr W F oo hop hd K hK e=>r76_x)
  ·refine .of1 8 386 (x:=(.load 3 (.tmp 386),some 387)) (H:=λgg ll fr W F oo hop hd K hK e=>?_)
   have l19:ll.getD 19 false=false:=(F.up (show 13∈r76Needs 19 from by decide) (F.before (show 9∈r76Needs 13 from by decide)))
   obtain ⟨hb,hf⟩:=F.mem
   have u4:=hb.cell 4
   simp [l19] at u4
   exact r76_x
  ·exact .ofo 3 ok.h3 (x:=(.fieldAddr 42 (.tmp 3) 4,some 388)) (H:=λgg ll fr W F oo hop hd K hK e=>r76_x)
  ·exact .of1 10 388 (x:=(.fieldAddr 38 (.tmp 388) 3,some 389)) (H:=λgg ll fr W F oo hop hd K hK e=>r76_x)
  ·refine .of1 11 389 (x:=(.load 3 (.tmp 389),some 390)) (H:=λgg ll fr W F oo hop hd K hK e=>?_)
   obtain ⟨hb,hf⟩:=F.mem
   have u:W.cell? ⟨p3,7,none⟩=some (.int .i64 q.PY):=(cell_block (hf.1 p3 ok.ne) 7).trans ok.a7
   exact r76_x
  ·refine .of (x:=(.call {callee:=.value (.func 34),args:=#[.tmp 387,.tmp 390,.const (.int .i64 16777216)],argTypes:=#[3,3,3]},some 391)) kR λgg ll fr W F oo hop hd K hK=>?_
   have e9:=r76_v F 9 387 dC rfl
   have e12:=r76_v F 12 390 dC rfl
   simp only [r76Val,DG.gz,DG.gs] at e9 e12
   show oo.wp Tryz.prog fr W K Q
   unfold Oper.wp
   simp only [execOp,hop,e9,e12,mA,mC,mN]
   go_simp
   simp only [DG.tmps_eval,e9,e12]
   refine (addOf_calls _ _ _ W).mono ?_
   rintro e W2 ⟨rfl,rfl⟩
   exact hK gg _ (λ_ _ _ _=>rfl) (r76_keep F dC dC)
  ·exact .ofo 6 ok.h6 (x:=(.fieldAddr 83 (.tmp 6) 1,some 392)) (H:=λgg ll fr W F oo hop hd K hK e=>r76_x)
  ·exact .of1 14 392 (x:=(.fieldAddr 38 (.tmp 392) 2,some 393)) (H:=λgg ll fr W F oo hop hd K hK e=>r76_x)
  ·refine .of (x:=(.store 3 (.tmp 393) (.tmp 384),none)) kR λgg ll fr W F oo hop hd K hK=>?_
   have e6:=r76_v F 6 384 dC rfl
   have e15:=r76_v F 15 393 dC rfl
   simp only [r76Val,DG.gz,DG.gs] at e6 e15
   have hz:16<ll.size:=by rw [r76_z F];decide
   obtain ⟨hb,hf⟩:=F.mem
   have u3:=hb.cell 3
   simp at u3
   have fz:=λi=>hb.free i
   show oo.wp Tryz.prog fr W K Q
   unfold Oper.wp
   simp only [execOp,hop,e6,e15,mA,mC,mN]
   go_simp
   refine hK gg _ (λ_ _ _ _=>rfl) (show r76Mem p3 p6 m r q W0 gg (ll.setIfInBounds 16 true) _ from ?_)
   unfold r76Mem
   rw [DG.set_eq hz,DG.set_ne (i:=16) (k:=19) dC]
   exact ⟨blk_to (hb.put 3 _) sS,hf.set _ _⟩
  ·exact .ofo 6 ok.h6 (x:=(.fieldAddr 83 (.tmp 6) 1,some 394)) (H:=λgg ll fr W F oo hop hd K hK e=>r76_x)
  ·exact .of1 17 394 (x:=(.fieldAddr 38 (.tmp 394) 3,some 395)) (H:=λgg ll fr W F oo hop hd K hK e=>r76_x)
  ·refine .of (x:=(.store 3 (.tmp 395) (.tmp 391),none)) kR λgg ll fr W F oo hop hd K hK=>?_
   have e13:=r76_v F 13 391 dC rfl
   have e18:=r76_v F 18 395 dC rfl
   simp only [r76Val,DG.gz,DG.gs] at e13 e18
   have hz:19<ll.size:=by rw [r76_z F];decide
   obtain ⟨hb,hf⟩:=F.mem
   have u4:=hb.cell 4
   simp at u4
   have fz:=λi=>hb.free i
   show oo.wp Tryz.prog fr W K Q
   unfold Oper.wp
   simp only [execOp,hop,e13,e18,mA,mC,mN]
   go_simp
   refine hK gg _ (λ_ _ _ _=>rfl) (show r76Mem p3 p6 m r q W0 gg (ll.setIfInBounds 19 true) _ from ?_)
   unfold r76Mem
   rw [DG.set_eq hz,DG.set_ne (i:=19) (k:=16) dC]
   exact ⟨blk_to (hb.put 4 _) sS,hf.set _ _⟩
abbrev r76L (p3 p6:Nat) (m:Int) (r q:M.Row) (gg:Unit):List (Nat×Value):=[(378,r76Val p3 p6 m r q gg 0),(379,r76Val p3 p6 m r q gg 1),(380,r76Val p3 p6 m r q gg 2),(381,r76Val p3 p6 m r q gg 3),(382,r76Val p3 p6 m r q gg 4),(383,r76Val p3 p6 m r q gg 5),(384,r76Val p3 p6 m r q gg 6),(385,r76Val p3 p6 m r q gg 7),(386,r76Val p3 p6 m r q gg 8),(387,r76Val p3 p6 m r q gg 9),(388,r76Val p3 p6 m r q gg 10),(389,r76Val p3 p6 m r q gg 11),(390,r76Val p3 p6 m r q gg 12),(391,r76Val p3 p6 m r q gg 13),(392,r76Val p3 p6 m r q gg 14),(393,r76Val p3 p6 m r q gg 15),(394,r76Val p3 p6 m r q gg 17),(395,r76Val p3 p6 m r q gg 18)]
theorem r76_region (ok:r76Ok p3 p6 m r q a0 W0) (hz:a0.tmps.size=406) (hd:a0.defers=[]) (g0:Unit) (hm:r76Mem p3 p6 m r q W0 g0 (Array.replicate 20 false) W)
  (hQ:∀(gg:Unit) (ll:Array Bool) (W':World),(∀k,k<20->ll.getD k false=true)->r76Mem p3 p6 m r q W0 gg ll W'->Q .normal ⟨DG.setQ a0.tmps (r76L p3 p6 m r q gg),[]⟩ W'):
  wpAny Tryz.prog .any r76Ops Q 20 (Array.replicate 20 false) a0 W:=
 DG.region2 (c:=r76K p3 p6 m r q a0 W0) (r76_ok ok hz) kR hd g0 hm (r76L p3 p6 m r q) (λ_=>rfl) hQ
end
noncomputable def r63C:Code:=((Tryz.f10.body.bind (regionOf 63)).getD .skip)
noncomputable def r63Ops:Array Oper:=match r63C with
 | .region _ ops _=>ops
 |_=>#[]
theorem r63C_is:r63C=.region 63 r63Ops true:=by kernel_rfl
theorem r63Ops_size:r63Ops.size=10:=by kernel_rfl
def r63Slot (k:Nat):Option Nat:=([some 316,some 317,some 318,some 319,some 320,some 321,none,some 322,some 323,none]:List (Option Nat)).getD k none
def r63Val (p12 p13:Nat) (m:Int) (r q:M.Row) (gg:Unit) (k9:Nat):Value:=([.pointer (some ⟨p13,0,none⟩),.int .i64 q.X,.pointer (some ⟨p13,1,none⟩),.int .i64 q.Y,.pointer (some ⟨p12,1,none⟩),.pointer (some ⟨p12,1,none⟩),undef,.pointer (some ⟨p12,1,none⟩),.pointer (some ⟨p12,2,none⟩),undef]:List Value).getD k9 undef
def r63Needs (k:Nat):List Nat:=([[],[0],[],[2],[],[4],[1,5],[],[7],[3,8]]:List (List Nat)).getD k []
def r63Mem (p12 p13:Nat) (m:Int) (r q:M.Row) (W0:World) (gg:Unit) (ll:Array Bool) (W:World):Prop:=Blk W p12 83 #[.int .i64 m,.int .i64 (if ll.getD 6 false=true then q.X else r.X),.int .i64 (if ll.getD 9 false=true then q.Y else r.Y),.int .i64 r.PX,.int .i64 r.PY,.int .i64 r.W,.int .i64 r.H,.int .i64 r.M,.int .i64 r.R]/\FarO p12 W0 W
noncomputable def r63K (p12 p13:Nat) (m:Int) (r q:M.Row) (a0:Act) (W0:World):DG (Unit):={P:=Tryz.prog,ops:=r63Ops,a0:=a0,n:=10,slot:=r63Slot,val:=r63Val p12 p13 m r q,needs:=r63Needs,mem:=r63Mem p12 p13 m r q W0}
section
variable {p12 p13:Nat} {m:Int} {r q:M.Row}
variable {a0 fr:Act} {W0 W:World} {Q:Exit->Act->World->Prop} {gg:Unit} {ll:Array Bool} {k:Nat}
structure r63Ok (p12 p13:Nat) (m:Int) (r q:M.Row) (a0:Act) (W0:World):Prop where
 h12:a0.eval (.tmp 12)=.pointer (some ⟨p12,0,none⟩)
 h13:a0.eval (.tmp 13)=.pointer (some ⟨p13,0,none⟩)
 ne:p13≠p12
 a0:W0.cell? ⟨p13,0,none⟩=some (.int .i64 q.X)
 a1:W0.cell? ⟨p13,1,none⟩=some (.int .i64 q.Y)
theorem r63_v (F:(r63K p12 p13 m r q a0 W0).Facts k gg ll fr W) (j s:Nat) (h1:j∈r63Needs k) (h2:r63Slot j=some s):fr.eval (.tmp s)=r63Val p12 p13 m r q gg j:=F.vals j s h1 h2
theorem r63_z (F:(r63K p12 p13 m r q a0 W0).Facts k gg ll fr W):ll.size=10:=F.size
theorem r63_keep (F:(r63K p12 p13 m r q a0 W0).Facts k gg ll fr W) (n6:k≠6) (n9:k≠9):r63Mem p12 p13 m r q W0 gg (ll.setIfInBounds k true) W:=by
 have h9:r63Mem p12 p13 m r q W0 gg ll W:=F.mem
 unfold r63Mem at h9⊢
 rw [DG.set_ne n6,DG.set_ne n9]
 exact h9
theorem r63_x {p:Prop} (h:p:=by show Oper.wp Tryz.prog oo fr W K Q;unfold Oper.wp;(try simp only [r63K,r63Val,DG.gz,DG.gs] at e);simp only [execOp,hop,e,mA,mC,mN];go_simp;exact hK gg _ (λ_ _ _ _=>rfl) (r63_keep F dC dC)):p:=h
theorem r63_ok (ok:r63Ok p12 p13 m r q a0 W0) (hz:a0.tmps.size=406):(r63K p12 p13 m r q a0 W0).Ok Q:=by
 refine DG.ok_of r63Ops_size kR kR (by rfl) hz (by rfl) ?_
 ·intro k hk
  rcases (show k=0\/k=1\/k=2\/k=3\/k=4\/k=5\/k=6\/k=7\/k=8\/k=9 from by have k9:k<10:=hk;omega) with rfl|rfl|rfl|rfl|rfl|rfl|rfl|rfl|rfl|rfl
  ·exact .ofo 13 ok.h13 (x:=(.fieldAddr 38 (.tmp 13) 0,some 316)) (H:=λgg ll fr W F oo hop hd K hK e=>r63_x)
  ·refine .of1 0 316 (x:=(.load 3 (.tmp 316),some 317)) (H:=λgg ll fr W F oo hop hd K hK e=>?_)
   obtain ⟨hb,hf⟩:=F.mem
   have u:W.cell? ⟨p13,0,none⟩=some (.int .i64 q.X):=(cell_block (hf.1 p13 ok.ne) 0).trans ok.a0
   exact r63_x
  ·exact .ofo 13 ok.h13 (x:=(.fieldAddr 38 (.tmp 13) 1,some 318)) (H:=λgg ll fr W F oo hop hd K hK e=>r63_x)
  ·refine .of1 2 318 (x:=(.load 3 (.tmp 318),some 319)) (H:=λgg ll fr W F oo hop hd K hK e=>?_)
   obtain ⟨hb,hf⟩:=F.mem
   have u:W.cell? ⟨p13,1,none⟩=some (.int .i64 q.Y):=(cell_block (hf.1 p13 ok.ne) 1).trans ok.a1
   exact r63_x
  ·exact .ofo 12 ok.h12 (x:=(.fieldAddr 83 (.tmp 12) 1,some 320)) (H:=λgg ll fr W F oo hop hd K hK e=>r63_x)
  ·exact .of1 4 320 (x:=(.fieldAddr 38 (.tmp 320) 0,some 321)) (H:=λgg ll fr W F oo hop hd K hK e=>r63_x)
  ·refine .of (x:=(.store 3 (.tmp 321) (.tmp 317),none)) kR λgg ll fr W F oo hop hd K hK=>?_
   have e1:=r63_v F 1 317 dC rfl
   have e5:=r63_v F 5 321 dC rfl
   simp only [r63Val,DG.gz,DG.gs] at e1 e5
   have hz:6<ll.size:=by rw [r63_z F];decide
   obtain ⟨hb,hf⟩:=F.mem
   have u1:=hb.cell 1
   simp at u1
   have fz:=λi=>hb.free i
   show oo.wp Tryz.prog fr W K Q
   unfold Oper.wp
   simp only [execOp,hop,e1,e5,mA,mC,mN]
   go_simp
   refine hK gg _ (λ_ _ _ _=>rfl) (show r63Mem p12 p13 m r q W0 gg (ll.setIfInBounds 6 true) _ from ?_)
   unfold r63Mem
   rw [DG.set_eq hz,DG.set_ne (i:=6) (k:=9) dC]
   exact ⟨blk_to (hb.put 1 _) sS,hf.set _ _⟩
  ·exact .ofo 12 ok.h12 (x:=(.fieldAddr 83 (.tmp 12) 1,some 322)) (H:=λgg ll fr W F oo hop hd K hK e=>r63_x)
  ·exact .of1 7 322 (x:=(.fieldAddr 38 (.tmp 322) 1,some 323)) (H:=λgg ll fr W F oo hop hd K hK e=>r63_x)
  ·refine .of (x:=(.store 3 (.tmp 323) (.tmp 319),none)) kR λgg ll fr W F oo hop hd K hK=>?_
   have e3:=r63_v F 3 319 dC rfl
   have e8:=r63_v F 8 323 dC rfl
   simp only [r63Val,DG.gz,DG.gs] at e3 e8
   have hz:9<ll.size:=by rw [r63_z F];decide
   obtain ⟨hb,hf⟩:=F.mem
   have u2:=hb.cell 2
   simp at u2
   have fz:=λi=>hb.free i
   show oo.wp Tryz.prog fr W K Q
   unfold Oper.wp
   simp only [execOp,hop,e3,e8,mA,mC,mN]
   go_simp
   refine hK gg _ (λ_ _ _ _=>rfl) (show r63Mem p12 p13 m r q W0 gg (ll.setIfInBounds 9 true) _ from ?_)
   unfold r63Mem
   rw [DG.set_eq hz,DG.set_ne (i:=9) (k:=6) dC]
   exact ⟨blk_to (hb.put 2 _) sS,hf.set _ _⟩
abbrev r63L (p12 p13:Nat) (m:Int) (r q:M.Row) (gg:Unit):List (Nat×Value):=[(316,r63Val p12 p13 m r q gg 0),(317,r63Val p12 p13 m r q gg 1),(318,r63Val p12 p13 m r q gg 2),(319,r63Val p12 p13 m r q gg 3),(320,r63Val p12 p13 m r q gg 4),(321,r63Val p12 p13 m r q gg 5),(322,r63Val p12 p13 m r q gg 7),(323,r63Val p12 p13 m r q gg 8)]
theorem r63_region (ok:r63Ok p12 p13 m r q a0 W0) (hz:a0.tmps.size=406) (hd:a0.defers=[]) (g0:Unit) (hm:r63Mem p12 p13 m r q W0 g0 (Array.replicate 10 false) W)
  (hQ:∀(gg:Unit) (ll:Array Bool) (W':World),(∀k,k<10->ll.getD k false=true)->r63Mem p12 p13 m r q W0 gg ll W'->Q .normal ⟨DG.setQ a0.tmps (r63L p12 p13 m r q gg),[]⟩ W'):
  wpAny Tryz.prog .any r63Ops Q 10 (Array.replicate 10 false) a0 W:=
 DG.region2 (c:=r63K p12 p13 m r q a0 W0) (r63_ok ok hz) kR hd g0 hm (r63L p12 p13 m r q) (λ_=>rfl) hQ
end
noncomputable def r65C:Code:=((Tryz.f10.body.bind (regionOf 65)).getD .skip)
noncomputable def r65Ops:Array Oper:=match r65C with
 | .region _ ops _=>ops
 |_=>#[]
theorem r65C_is:r65C=.region 65 r65Ops true:=by kernel_rfl
theorem r65Ops_size:r65Ops.size=10:=by kernel_rfl
def r65Slot (k:Nat):Option Nat:=([some 326,some 327,some 328,some 329,some 330,some 331,none,some 332,some 333,none]:List (Option Nat)).getD k none
def r65Val (p12 p13:Nat) (m:Int) (r q:M.Row) (gg:Unit) (k9:Nat):Value:=([.pointer (some ⟨p13,2,none⟩),.int .i64 q.PX,.pointer (some ⟨p13,3,none⟩),.int .i64 q.PY,.pointer (some ⟨p12,1,none⟩),.pointer (some ⟨p12,3,none⟩),undef,.pointer (some ⟨p12,1,none⟩),.pointer (some ⟨p12,4,none⟩),undef]:List Value).getD k9 undef
def r65Needs (k:Nat):List Nat:=([[],[0],[],[2],[],[4],[1,5],[],[7],[3,8]]:List (List Nat)).getD k []
def r65Mem (p12 p13:Nat) (m:Int) (r q:M.Row) (W0:World) (gg:Unit) (ll:Array Bool) (W:World):Prop:=Blk W p12 83 #[.int .i64 m,.int .i64 r.X,.int .i64 r.Y,.int .i64 (if ll.getD 6 false=true then q.PX else r.PX),.int .i64 (if ll.getD 9 false=true then q.PY else r.PY),.int .i64 r.W,.int .i64 r.H,.int .i64 r.M,.int .i64 r.R]/\FarO p12 W0 W
noncomputable def r65K (p12 p13:Nat) (m:Int) (r q:M.Row) (a0:Act) (W0:World):DG (Unit):={P:=Tryz.prog,ops:=r65Ops,a0:=a0,n:=10,slot:=r65Slot,val:=r65Val p12 p13 m r q,needs:=r65Needs,mem:=r65Mem p12 p13 m r q W0}
section
variable {p12 p13:Nat} {m:Int} {r q:M.Row}
variable {a0 fr:Act} {W0 W:World} {Q:Exit->Act->World->Prop} {gg:Unit} {ll:Array Bool} {k:Nat}
structure r65Ok (p12 p13:Nat) (m:Int) (r q:M.Row) (a0:Act) (W0:World):Prop where
 h12:a0.eval (.tmp 12)=.pointer (some ⟨p12,0,none⟩)
 h13:a0.eval (.tmp 13)=.pointer (some ⟨p13,0,none⟩)
 ne:p13≠p12
 a2:W0.cell? ⟨p13,2,none⟩=some (.int .i64 q.PX)
 a3:W0.cell? ⟨p13,3,none⟩=some (.int .i64 q.PY)
theorem r65_v (F:(r65K p12 p13 m r q a0 W0).Facts k gg ll fr W) (j s:Nat) (h1:j∈r65Needs k) (h2:r65Slot j=some s):fr.eval (.tmp s)=r65Val p12 p13 m r q gg j:=F.vals j s h1 h2
theorem r65_z (F:(r65K p12 p13 m r q a0 W0).Facts k gg ll fr W):ll.size=10:=F.size
theorem r65_keep (F:(r65K p12 p13 m r q a0 W0).Facts k gg ll fr W) (n6:k≠6) (n9:k≠9):r65Mem p12 p13 m r q W0 gg (ll.setIfInBounds k true) W:=by
 have h9:r65Mem p12 p13 m r q W0 gg ll W:=F.mem
 unfold r65Mem at h9⊢
 rw [DG.set_ne n6,DG.set_ne n9]
 exact h9
theorem r65_x {p:Prop} (h:p:=by show Oper.wp Tryz.prog oo fr W K Q;unfold Oper.wp;(try simp only [r65K,r65Val,DG.gz,DG.gs] at e);simp only [execOp,hop,e,mA,mC,mN];go_simp;exact hK gg _ (λ_ _ _ _=>rfl) (r65_keep F dC dC)):p:=h
theorem r65_ok (ok:r65Ok p12 p13 m r q a0 W0) (hz:a0.tmps.size=406):(r65K p12 p13 m r q a0 W0).Ok Q:=by
 refine DG.ok_of r65Ops_size kR kR (by rfl) hz (by rfl) ?_
 ·intro k hk
  rcases (show k=0\/k=1\/k=2\/k=3\/k=4\/k=5\/k=6\/k=7\/k=8\/k=9 from by have k9:k<10:=hk;omega) with rfl|rfl|rfl|rfl|rfl|rfl|rfl|rfl|rfl|rfl
  ·exact .ofo 13 ok.h13 (x:=(.fieldAddr 38 (.tmp 13) 2,some 326)) (H:=λgg ll fr W F oo hop hd K hK e=>r65_x)
  ·refine .of1 0 326 (x:=(.load 3 (.tmp 326),some 327)) (H:=λgg ll fr W F oo hop hd K hK e=>?_)
   obtain ⟨hb,hf⟩:=F.mem
   have u:W.cell? ⟨p13,2,none⟩=some (.int .i64 q.PX):=(cell_block (hf.1 p13 ok.ne) 2).trans ok.a2
   exact r65_x
  ·exact .ofo 13 ok.h13 (x:=(.fieldAddr 38 (.tmp 13) 3,some 328)) (H:=λgg ll fr W F oo hop hd K hK e=>r65_x)
  ·refine .of1 2 328 (x:=(.load 3 (.tmp 328),some 329)) (H:=λgg ll fr W F oo hop hd K hK e=>?_)
   obtain ⟨hb,hf⟩:=F.mem
   have u:W.cell? ⟨p13,3,none⟩=some (.int .i64 q.PY):=(cell_block (hf.1 p13 ok.ne) 3).trans ok.a3
   exact r65_x
  ·exact .ofo 12 ok.h12 (x:=(.fieldAddr 83 (.tmp 12) 1,some 330)) (H:=λgg ll fr W F oo hop hd K hK e=>r65_x)
  ·exact .of1 4 330 (x:=(.fieldAddr 38 (.tmp 330) 2,some 331)) (H:=λgg ll fr W F oo hop hd K hK e=>r65_x)
  ·refine .of (x:=(.store 3 (.tmp 331) (.tmp 327),none)) kR λgg ll fr W F oo hop hd K hK=>?_
   have e1:=r65_v F 1 327 dC rfl
   have e5:=r65_v F 5 331 dC rfl
   simp only [r65Val,DG.gz,DG.gs] at e1 e5
   have hz:6<ll.size:=by rw [r65_z F];decide
   obtain ⟨hb,hf⟩:=F.mem
   have u3:=hb.cell 3
   simp at u3
   have fz:=λi=>hb.free i
   show oo.wp Tryz.prog fr W K Q
   unfold Oper.wp
   simp only [execOp,hop,e1,e5,mA,mC,mN]
   go_simp
   refine hK gg _ (λ_ _ _ _=>rfl) (show r65Mem p12 p13 m r q W0 gg (ll.setIfInBounds 6 true) _ from ?_)
   unfold r65Mem
   rw [DG.set_eq hz,DG.set_ne (i:=6) (k:=9) dC]
   exact ⟨blk_to (hb.put 3 _) sS,hf.set _ _⟩
  ·exact .ofo 12 ok.h12 (x:=(.fieldAddr 83 (.tmp 12) 1,some 332)) (H:=λgg ll fr W F oo hop hd K hK e=>r65_x)
  ·exact .of1 7 332 (x:=(.fieldAddr 38 (.tmp 332) 3,some 333)) (H:=λgg ll fr W F oo hop hd K hK e=>r65_x)
  ·refine .of (x:=(.store 3 (.tmp 333) (.tmp 329),none)) kR λgg ll fr W F oo hop hd K hK=>?_
   have e3:=r65_v F 3 329 dC rfl
   have e8:=r65_v F 8 333 dC rfl
   simp only [r65Val,DG.gz,DG.gs] at e3 e8
   have hz:9<ll.size:=by rw [r65_z F];decide
   obtain ⟨hb,hf⟩:=F.mem
   have u4:=hb.cell 4
   simp at u4
   have fz:=λi=>hb.free i
   show oo.wp Tryz.prog fr W K Q
   unfold Oper.wp
   simp only [execOp,hop,e3,e8,mA,mC,mN]
   go_simp
   refine hK gg _ (λ_ _ _ _=>rfl) (show r65Mem p12 p13 m r q W0 gg (ll.setIfInBounds 9 true) _ from ?_)
   unfold r65Mem
   rw [DG.set_eq hz,DG.set_ne (i:=9) (k:=6) dC]
   exact ⟨blk_to (hb.put 4 _) sS,hf.set _ _⟩
abbrev r65L (p12 p13:Nat) (m:Int) (r q:M.Row) (gg:Unit):List (Nat×Value):=[(326,r65Val p12 p13 m r q gg 0),(327,r65Val p12 p13 m r q gg 1),(328,r65Val p12 p13 m r q gg 2),(329,r65Val p12 p13 m r q gg 3),(330,r65Val p12 p13 m r q gg 4),(331,r65Val p12 p13 m r q gg 5),(332,r65Val p12 p13 m r q gg 7),(333,r65Val p12 p13 m r q gg 8)]
theorem r65_region (ok:r65Ok p12 p13 m r q a0 W0) (hz:a0.tmps.size=406) (hd:a0.defers=[]) (g0:Unit) (hm:r65Mem p12 p13 m r q W0 g0 (Array.replicate 10 false) W)
  (hQ:∀(gg:Unit) (ll:Array Bool) (W':World),(∀k,k<10->ll.getD k false=true)->r65Mem p12 p13 m r q W0 gg ll W'->Q .normal ⟨DG.setQ a0.tmps (r65L p12 p13 m r q gg),[]⟩ W'):
  wpAny Tryz.prog .any r65Ops Q 10 (Array.replicate 10 false) a0 W:=
 DG.region2 (c:=r65K p12 p13 m r q a0 W0) (r65_ok ok hz) kR hd g0 hm (r65L p12 p13 m r q) (λ_=>rfl) hQ
end
noncomputable def r67C:Code:=((Tryz.f10.body.bind (regionOf 67)).getD .skip)
noncomputable def r67Ops:Array Oper:=match r67C with
 | .region _ ops _=>ops
 |_=>#[]
theorem r67C_is:r67C=.region 67 r67Ops true:=by kernel_rfl
theorem r67Ops_size:r67Ops.size=10:=by kernel_rfl
def r67Slot (k:Nat):Option Nat:=([some 336,some 337,some 338,some 339,some 340,some 341,none,some 342,some 343,none]:List (Option Nat)).getD k none
def r67Val (p12 p13:Nat) (m:Int) (r q:M.Row) (gg:Unit) (k9:Nat):Value:=([.pointer (some ⟨p13,4,none⟩),.int .i64 q.W,.pointer (some ⟨p13,5,none⟩),.int .i64 q.H,.pointer (some ⟨p12,1,none⟩),.pointer (some ⟨p12,5,none⟩),undef,.pointer (some ⟨p12,1,none⟩),.pointer (some ⟨p12,6,none⟩),undef]:List Value).getD k9 undef
def r67Needs (k:Nat):List Nat:=([[],[0],[],[2],[],[4],[1,5],[],[7],[3,8]]:List (List Nat)).getD k []
def r67Mem (p12 p13:Nat) (m:Int) (r q:M.Row) (W0:World) (gg:Unit) (ll:Array Bool) (W:World):Prop:=Blk W p12 83 #[.int .i64 m,.int .i64 r.X,.int .i64 r.Y,.int .i64 r.PX,.int .i64 r.PY,.int .i64 (if ll.getD 6 false=true then q.W else r.W),.int .i64 (if ll.getD 9 false=true then q.H else r.H),.int .i64 r.M,.int .i64 r.R]/\FarO p12 W0 W
noncomputable def r67K (p12 p13:Nat) (m:Int) (r q:M.Row) (a0:Act) (W0:World):DG (Unit):={P:=Tryz.prog,ops:=r67Ops,a0:=a0,n:=10,slot:=r67Slot,val:=r67Val p12 p13 m r q,needs:=r67Needs,mem:=r67Mem p12 p13 m r q W0}
section
variable {p12 p13:Nat} {m:Int} {r q:M.Row}
variable {a0 fr:Act} {W0 W:World} {Q:Exit->Act->World->Prop} {gg:Unit} {ll:Array Bool} {k:Nat}
structure r67Ok (p12 p13:Nat) (m:Int) (r q:M.Row) (a0:Act) (W0:World):Prop where
 h12:a0.eval (.tmp 12)=.pointer (some ⟨p12,0,none⟩)
 h13:a0.eval (.tmp 13)=.pointer (some ⟨p13,0,none⟩)
 ne:p13≠p12
 a4:W0.cell? ⟨p13,4,none⟩=some (.int .i64 q.W)
 a5:W0.cell? ⟨p13,5,none⟩=some (.int .i64 q.H)
theorem r67_v (F:(r67K p12 p13 m r q a0 W0).Facts k gg ll fr W) (j s:Nat) (h1:j∈r67Needs k) (h2:r67Slot j=some s):fr.eval (.tmp s)=r67Val p12 p13 m r q gg j:=F.vals j s h1 h2
theorem r67_z (F:(r67K p12 p13 m r q a0 W0).Facts k gg ll fr W):ll.size=10:=F.size
theorem r67_keep (F:(r67K p12 p13 m r q a0 W0).Facts k gg ll fr W) (n6:k≠6) (n9:k≠9):r67Mem p12 p13 m r q W0 gg (ll.setIfInBounds k true) W:=by
 have h9:r67Mem p12 p13 m r q W0 gg ll W:=F.mem
 unfold r67Mem at h9⊢
 rw [DG.set_ne n6,DG.set_ne n9]
 exact h9
theorem r67_x {p:Prop} (h:p:=by show Oper.wp Tryz.prog oo fr W K Q;unfold Oper.wp;(try simp only [r67K,r67Val,DG.gz,DG.gs] at e);simp only [execOp,hop,e,mA,mC,mN];go_simp;exact hK gg _ (λ_ _ _ _=>rfl) (r67_keep F dC dC)):p:=h
theorem r67_ok (ok:r67Ok p12 p13 m r q a0 W0) (hz:a0.tmps.size=406):(r67K p12 p13 m r q a0 W0).Ok Q:=by
 refine DG.ok_of r67Ops_size kR kR (by rfl) hz (by rfl) ?_
 ·intro k hk
  rcases (show k=0\/k=1\/k=2\/k=3\/k=4\/k=5\/k=6\/k=7\/k=8\/k=9 from by have k9:k<10:=hk;omega) with rfl|rfl|rfl|rfl|rfl|rfl|rfl|rfl|rfl|rfl
  ·exact .ofo 13 ok.h13 (x:=(.fieldAddr 38 (.tmp 13) 4,some 336)) (H:=λgg ll fr W F oo hop hd K hK e=>r67_x)
  ·refine .of1 0 336 (x:=(.load 3 (.tmp 336),some 337)) (H:=λgg ll fr W F oo hop hd K hK e=>?_)
   obtain ⟨hb,hf⟩:=F.mem
   have u:W.cell? ⟨p13,4,none⟩=some (.int .i64 q.W):=(cell_block (hf.1 p13 ok.ne) 4).trans ok.a4
   exact r67_x
  ·exact .ofo 13 ok.h13 (x:=(.fieldAddr 38 (.tmp 13) 5,some 338)) (H:=λgg ll fr W F oo hop hd K hK e=>r67_x)
  ·refine .of1 2 338 (x:=(.load 3 (.tmp 338),some 339)) (H:=λgg ll fr W F oo hop hd K hK e=>?_)
   obtain ⟨hb,hf⟩:=F.mem
   have u:W.cell? ⟨p13,5,none⟩=some (.int .i64 q.H):=(cell_block (hf.1 p13 ok.ne) 5).trans ok.a5
   exact r67_x
  ·exact .ofo 12 ok.h12 (x:=(.fieldAddr 83 (.tmp 12) 1,some 340)) (H:=λgg ll fr W F oo hop hd K hK e=>r67_x)
  ·exact .of1 4 340 (x:=(.fieldAddr 38 (.tmp 340) 4,some 341)) (H:=λgg ll fr W F oo hop hd K hK e=>r67_x)
  ·refine .of (x:=(.store 3 (.tmp 341) (.tmp 337),none)) kR λgg ll fr W F oo hop hd K hK=>?_
   have e1:=r67_v F 1 337 dC rfl
   have e5:=r67_v F 5 341 dC rfl
   simp only [r67Val,DG.gz,DG.gs] at e1 e5
   have hz:6<ll.size:=by rw [r67_z F];decide
   obtain ⟨hb,hf⟩:=F.mem
   have u5:=hb.cell 5
   simp at u5
   have fz:=λi=>hb.free i
   show oo.wp Tryz.prog fr W K Q
   unfold Oper.wp
   simp only [execOp,hop,e1,e5,mA,mC,mN]
   go_simp
   refine hK gg _ (λ_ _ _ _=>rfl) (show r67Mem p12 p13 m r q W0 gg (ll.setIfInBounds 6 true) _ from ?_)
   unfold r67Mem
   rw [DG.set_eq hz,DG.set_ne (i:=6) (k:=9) dC]
   exact ⟨blk_to (hb.put 5 _) sS,hf.set _ _⟩
  ·exact .ofo 12 ok.h12 (x:=(.fieldAddr 83 (.tmp 12) 1,some 342)) (H:=λgg ll fr W F oo hop hd K hK e=>r67_x)
  ·exact .of1 7 342 (x:=(.fieldAddr 38 (.tmp 342) 5,some 343)) (H:=λgg ll fr W F oo hop hd K hK e=>r67_x)
  ·refine .of (x:=(.store 3 (.tmp 343) (.tmp 339),none)) kR λgg ll fr W F oo hop hd K hK=>?_
   have e3:=r67_v F 3 339 dC rfl
   have e8:=r67_v F 8 343 dC rfl
   simp only [r67Val,DG.gz,DG.gs] at e3 e8
   have hz:9<ll.size:=by rw [r67_z F];decide
   obtain ⟨hb,hf⟩:=F.mem
   have u6:=hb.cell 6
   simp at u6
   have fz:=λi=>hb.free i
   show oo.wp Tryz.prog fr W K Q
   unfold Oper.wp
   simp only [execOp,hop,e3,e8,mA,mC,mN]
   go_simp
   refine hK gg _ (λ_ _ _ _=>rfl) (show r67Mem p12 p13 m r q W0 gg (ll.setIfInBounds 9 true) _ from ?_)
   unfold r67Mem
   rw [DG.set_eq hz,DG.set_ne (i:=9) (k:=6) dC]
   exact ⟨blk_to (hb.put 6 _) sS,hf.set _ _⟩
abbrev r67L (p12 p13:Nat) (m:Int) (r q:M.Row) (gg:Unit):List (Nat×Value):=[(336,r67Val p12 p13 m r q gg 0),(337,r67Val p12 p13 m r q gg 1),(338,r67Val p12 p13 m r q gg 2),(339,r67Val p12 p13 m r q gg 3),(340,r67Val p12 p13 m r q gg 4),(341,r67Val p12 p13 m r q gg 5),(342,r67Val p12 p13 m r q gg 7),(343,r67Val p12 p13 m r q gg 8)]
theorem r67_region (ok:r67Ok p12 p13 m r q a0 W0) (hz:a0.tmps.size=406) (hd:a0.defers=[]) (g0:Unit) (hm:r67Mem p12 p13 m r q W0 g0 (Array.replicate 10 false) W)
  (hQ:∀(gg:Unit) (ll:Array Bool) (W':World),(∀k,k<10->ll.getD k false=true)->r67Mem p12 p13 m r q W0 gg ll W'->Q .normal ⟨DG.setQ a0.tmps (r67L p12 p13 m r q gg),[]⟩ W'):
  wpAny Tryz.prog .any r67Ops Q 10 (Array.replicate 10 false) a0 W:=
 DG.region2 (c:=r67K p12 p13 m r q a0 W0) (r67_ok ok hz) kR hd g0 hm (r67L p12 p13 m r q) (λ_=>rfl) hQ
end
noncomputable def r69C:Code:=((Tryz.f10.body.bind (regionOf 69)).getD .skip)
noncomputable def r69Ops:Array Oper:=match r69C with
 | .region _ ops _=>ops
 |_=>#[]
theorem r69C_is:r69C=.region 69 r69Ops true:=by kernel_rfl
theorem r69Ops_size:r69Ops.size=10:=by kernel_rfl
def r69Slot (k:Nat):Option Nat:=([some 346,some 347,some 348,some 349,some 350,some 351,none,some 352,some 353,none]:List (Option Nat)).getD k none
def r69Val (p12 p13:Nat) (m:Int) (r q:M.Row) (gg:Unit) (k9:Nat):Value:=([.pointer (some ⟨p13,6,none⟩),.int .i64 q.M,.pointer (some ⟨p13,7,none⟩),.int .i64 q.R,.pointer (some ⟨p12,1,none⟩),.pointer (some ⟨p12,7,none⟩),undef,.pointer (some ⟨p12,1,none⟩),.pointer (some ⟨p12,8,none⟩),undef]:List Value).getD k9 undef
def r69Needs (k:Nat):List Nat:=([[],[0],[],[2],[],[4],[1,5],[],[7],[3,8]]:List (List Nat)).getD k []
def r69Mem (p12 p13:Nat) (m:Int) (r q:M.Row) (W0:World) (gg:Unit) (ll:Array Bool) (W:World):Prop:=Blk W p12 83 #[.int .i64 m,.int .i64 r.X,.int .i64 r.Y,.int .i64 r.PX,.int .i64 r.PY,.int .i64 r.W,.int .i64 r.H,.int .i64 (if ll.getD 6 false=true then q.M else r.M),.int .i64 (if ll.getD 9 false=true then q.R else r.R)]/\FarO p12 W0 W
noncomputable def r69K (p12 p13:Nat) (m:Int) (r q:M.Row) (a0:Act) (W0:World):DG (Unit):={P:=Tryz.prog,ops:=r69Ops,a0:=a0,n:=10,slot:=r69Slot,val:=r69Val p12 p13 m r q,needs:=r69Needs,mem:=r69Mem p12 p13 m r q W0}
section
variable {p12 p13:Nat} {m:Int} {r q:M.Row}
variable {a0 fr:Act} {W0 W:World} {Q:Exit->Act->World->Prop} {gg:Unit} {ll:Array Bool} {k:Nat}
structure r69Ok (p12 p13:Nat) (m:Int) (r q:M.Row) (a0:Act) (W0:World):Prop where
 h12:a0.eval (.tmp 12)=.pointer (some ⟨p12,0,none⟩)
 h13:a0.eval (.tmp 13)=.pointer (some ⟨p13,0,none⟩)
 ne:p13≠p12
 a6:W0.cell? ⟨p13,6,none⟩=some (.int .i64 q.M)
 a7:W0.cell? ⟨p13,7,none⟩=some (.int .i64 q.R)
theorem r69_v (F:(r69K p12 p13 m r q a0 W0).Facts k gg ll fr W) (j s:Nat) (h1:j∈r69Needs k) (h2:r69Slot j=some s):fr.eval (.tmp s)=r69Val p12 p13 m r q gg j:=F.vals j s h1 h2
theorem r69_z (F:(r69K p12 p13 m r q a0 W0).Facts k gg ll fr W):ll.size=10:=F.size
theorem r69_keep (F:(r69K p12 p13 m r q a0 W0).Facts k gg ll fr W) (n6:k≠6) (n9:k≠9):r69Mem p12 p13 m r q W0 gg (ll.setIfInBounds k true) W:=by
 have h9:r69Mem p12 p13 m r q W0 gg ll W:=F.mem
 unfold r69Mem at h9⊢
 rw [DG.set_ne n6,DG.set_ne n9]
 exact h9
theorem r69_x {p:Prop} (h:p:=by show Oper.wp Tryz.prog oo fr W K Q;unfold Oper.wp;(try simp only [r69K,r69Val,DG.gz,DG.gs] at e);simp only [execOp,hop,e,mA,mC,mN];go_simp;exact hK gg _ (λ_ _ _ _=>rfl) (r69_keep F dC dC)):p:=h
theorem r69_ok (ok:r69Ok p12 p13 m r q a0 W0) (hz:a0.tmps.size=406):(r69K p12 p13 m r q a0 W0).Ok Q:=by
 refine DG.ok_of r69Ops_size kR kR (by rfl) hz (by rfl) ?_
 ·intro k hk
  rcases (show k=0\/k=1\/k=2\/k=3\/k=4\/k=5\/k=6\/k=7\/k=8\/k=9 from by have k9:k<10:=hk;omega) with rfl|rfl|rfl|rfl|rfl|rfl|rfl|rfl|rfl|rfl
  ·exact .ofo 13 ok.h13 (x:=(.fieldAddr 38 (.tmp 13) 6,some 346)) (H:=λgg ll fr W F oo hop hd K hK e=>r69_x)
  ·refine .of1 0 346 (x:=(.load 3 (.tmp 346),some 347)) (H:=λgg ll fr W F oo hop hd K hK e=>?_)
   obtain ⟨hb,hf⟩:=F.mem
   have u:W.cell? ⟨p13,6,none⟩=some (.int .i64 q.M):=(cell_block (hf.1 p13 ok.ne) 6).trans ok.a6
   exact r69_x
  ·exact .ofo 13 ok.h13 (x:=(.fieldAddr 38 (.tmp 13) 7,some 348)) (H:=λgg ll fr W F oo hop hd K hK e=>r69_x)
  ·refine .of1 2 348 (x:=(.load 3 (.tmp 348),some 349)) (H:=λgg ll fr W F oo hop hd K hK e=>?_)
   obtain ⟨hb,hf⟩:=F.mem
   have u:W.cell? ⟨p13,7,none⟩=some (.int .i64 q.R):=(cell_block (hf.1 p13 ok.ne) 7).trans ok.a7
   exact r69_x
  ·exact .ofo 12 ok.h12 (x:=(.fieldAddr 83 (.tmp 12) 1,some 350)) (H:=λgg ll fr W F oo hop hd K hK e=>r69_x)
  ·exact .of1 4 350 (x:=(.fieldAddr 38 (.tmp 350) 6,some 351)) (H:=λgg ll fr W F oo hop hd K hK e=>r69_x)
  ·refine .of (x:=(.store 3 (.tmp 351) (.tmp 347),none)) kR λgg ll fr W F oo hop hd K hK=>?_
   have e1:=r69_v F 1 347 dC rfl
   have e5:=r69_v F 5 351 dC rfl
   simp only [r69Val,DG.gz,DG.gs] at e1 e5
   have hz:6<ll.size:=by rw [r69_z F];decide
   obtain ⟨hb,hf⟩:=F.mem
   have u7:=hb.cell 7
   simp at u7
   have fz:=λi=>hb.free i
   show oo.wp Tryz.prog fr W K Q
   unfold Oper.wp
   simp only [execOp,hop,e1,e5,mA,mC,mN]
   go_simp
   refine hK gg _ (λ_ _ _ _=>rfl) (show r69Mem p12 p13 m r q W0 gg (ll.setIfInBounds 6 true) _ from ?_)
   unfold r69Mem
   rw [DG.set_eq hz,DG.set_ne (i:=6) (k:=9) dC]
   exact ⟨blk_to (hb.put 7 _) sS,hf.set _ _⟩
  ·exact .ofo 12 ok.h12 (x:=(.fieldAddr 83 (.tmp 12) 1,some 352)) (H:=λgg ll fr W F oo hop hd K hK e=>r69_x)
  ·exact .of1 7 352 (x:=(.fieldAddr 38 (.tmp 352) 7,some 353)) (H:=λgg ll fr W F oo hop hd K hK e=>r69_x)
  ·refine .of (x:=(.store 3 (.tmp 353) (.tmp 349),none)) kR λgg ll fr W F oo hop hd K hK=>?_
   have e3:=r69_v F 3 349 dC rfl
   have e8:=r69_v F 8 353 dC rfl
   simp only [r69Val,DG.gz,DG.gs] at e3 e8
   have hz:9<ll.size:=by rw [r69_z F];decide
   obtain ⟨hb,hf⟩:=F.mem
   have u8:=hb.cell 8
   simp at u8
   have fz:=λi=>hb.free i
   show oo.wp Tryz.prog fr W K Q
   unfold Oper.wp
   simp only [execOp,hop,e3,e8,mA,mC,mN]
   go_simp
   refine hK gg _ (λ_ _ _ _=>rfl) (show r69Mem p12 p13 m r q W0 gg (ll.setIfInBounds 9 true) _ from ?_)
   unfold r69Mem
   rw [DG.set_eq hz,DG.set_ne (i:=9) (k:=6) dC]
   exact ⟨blk_to (hb.put 8 _) sS,hf.set _ _⟩
abbrev r69L (p12 p13:Nat) (m:Int) (r q:M.Row) (gg:Unit):List (Nat×Value):=[(346,r69Val p12 p13 m r q gg 0),(347,r69Val p12 p13 m r q gg 1),(348,r69Val p12 p13 m r q gg 2),(349,r69Val p12 p13 m r q gg 3),(350,r69Val p12 p13 m r q gg 4),(351,r69Val p12 p13 m r q gg 5),(352,r69Val p12 p13 m r q gg 7),(353,r69Val p12 p13 m r q gg 8)]
theorem r69_region (ok:r69Ok p12 p13 m r q a0 W0) (hz:a0.tmps.size=406) (hd:a0.defers=[]) (g0:Unit) (hm:r69Mem p12 p13 m r q W0 g0 (Array.replicate 10 false) W)
  (hQ:∀(gg:Unit) (ll:Array Bool) (W':World),(∀k,k<10->ll.getD k false=true)->r69Mem p12 p13 m r q W0 gg ll W'->Q .normal ⟨DG.setQ a0.tmps (r69L p12 p13 m r q gg),[]⟩ W'):
  wpAny Tryz.prog .any r69Ops Q 10 (Array.replicate 10 false) a0 W:=
 DG.region2 (c:=r69K p12 p13 m r q a0 W0) (r69_ok ok hz) kR hd g0 hm (r69L p12 p13 m r q) (λ_=>rfl) hQ
end
end Go.Proofs.YtemkbjaojinaoaaGreat
