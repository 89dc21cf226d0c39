/- Several small texts in one. No condition of its own: each part says its own. -/
import Derived.Test.YtemkbjaojinaoaaGreatShort
import Derived.Test.YtemkbjaojinaoaaGreatBagS
import Derived.Test.YtemkbjaojinaoaaGreatBagW
import Derived.Great.BuildSlice
import Derived.Laws.Rows
import Derived.BigFrame
set_option linter.unusedVariables false
set_option linter.unusedSimpArgs false
set_option maxRecDepth 100000
set_option maxHeartbeats 60000000
namespace Go.Proofs.YtemkbjaojinaoaaGreat
open Go.RowKit
def regionOf (n:Nat):Code->Option Code
 | .region i ops d=>if i=n then some (.region i ops d) else none
 | .seq a b=>match regionOf n a with
  |some c=>some c
  |none=>regionOf n b
 | .block _ c=>regionOf n c
 | .loop c=>regionOf n c
 | .scope c=>regionOf n c
 | .cond _ a b=>match regionOf n a with
  |some c=>some c
  |none=>regionOf n b
 |_=>none
noncomputable def putLast:Code:=((Tryz.f43.body.bind (regionOf 5)).getD .skip)
noncomputable def putOps:Array Oper:=match putLast with
 | .region _ ops _=>ops
 |_=>#[]
theorem putLast_is:putLast=.region 5 putOps true:=by kernel_rfl
theorem putOps_size:putOps.size=22:=by kernel_rfl
theorem op_at {k:Nat} {x:Op} {d:Option Nat} (h:(putOps[k]?).map (λo=>(o.guard.isNone,o.op,o.dst))=some (true,x,d)):∃o,putOps[k]?=some o/\o.guard=none/\o.op=x/\o.dst=d:=by
 cases ho:putOps[k]? with
 |none=>rw [ho] at h;simp at h
 |some o=>
  rw [ho] at h
  simp only [Option.map_some,Option.some.injEq,Prod.mk.injEq] at h
  exact ⟨o,rfl,by simpa using h.1,h.2.1,h.2.2⟩
def slotK (k:Nat):Nat:=if k=19 then 58 else if k=20 then 59 else 40+k
theorem slot_ne {k j:Nat} (h:k≠j) (hk:k<22/\k≠18/\k≠21) (hj:j<22/\j≠18/\j≠21):slotK k≠slotK j:=by
 unfold slotK;split<;>split<;>(try split)<;>(try split)<;>omega
theorem slot_lt {k:Nat} (hk:k<22/\k≠18/\k≠21):40<=slotK k/\slotK k<60:=by
 unfold slotK;split<;>(try split)<;>omega
structure Gh where
 b47:Nat
 b54:Nat
 v48:Value
 v55:Value
structure PC where
 wc:World
 base:Nat
 g0:Nat
 i:Nat
 rb:Nat
 id:Int
 r:M.Row
 t1:M.Table
 s1:Value
 s2:Value
def PC.val (c:PC) (g:Gh) (k:Nat):Value:=
 if k=4\/k=17 then .pointer (some ⟨c.g0,c.i*3+1,none⟩)
 else if k=11\/k=20 then .pointer (some ⟨c.g0,c.i*3+2,none⟩)
 else if k=5 then c.s1 else if k=6 then .int .i64 c.id else if k=7 then .slice (some ⟨g.b47,0,none⟩) 1 1 else if k=8 then g.v48
 else if k=12 then c.s2 else if k=13 then rowV c.r else if k=14 then .slice (some ⟨g.b54,0,none⟩) 1 1 else if k=15 then g.v55
 else .pointer (some ⟨c.g0,c.i*3,none⟩)
structure PC.Ok (c:PC):Prop where
 hg1:c.g0<c.wc.heap.size
 lrc:c.rb<c.wc.heap.size
 base:c.base<=c.wc.heap.size
 TF:∀j,c.wc.frozen? ⟨c.g0,j,none⟩=false
 T1:c.wc.cell? ⟨c.g0,c.i*3+1,none⟩=some c.s1
 T2:c.wc.cell? ⟨c.g0,c.i*3+2,none⟩=some c.s2
 row:Blk c.wc c.rb 38 (rowC c.r)
 own1:c.wc.ownsRow c.base 3 1 c.s1 c.t1.ids.length (c.t1.ids.map (.int .i64))
 own2:c.wc.ownsRow c.base 38 8 c.s2 c.t1.rows.length (c.t1.rows.flatMap rowL)
 v1:c.s1.ownBlock≠some c.g0
 v2:c.s2.ownBlock≠some c.g0
 f1:c.s1.ownBlock≠some c.rb
 f2:c.s2.ownBlock≠some c.rb
 ne:∀g,c.s1.ownBlock=some g->c.s2.ownBlock≠some g
 n1:c.t1.ids.length<=1000
 n2:c.t1.rows.length<=1000
abbrev PC.Put (c:PC) (a b:Option Value) (W:World):Prop:=PutAt c.base c.wc (c.s1,c.s2) (c.t1.ids++[c.id]) (c.t1.rows++[c.r]) a b W
structure PC.At (c:PC) (g:Gh) (l:Array Bool) (a:Act) (W:World):Prop where
 slots:∀k,k<22/\k≠18/\k≠21->l.getD k false=true->a.eval (.tmp (slotK k))=c.val g k
 put:c.Put (if l.getD 8 false=true then some g.v48 else none) (if l.getD 15 false=true then some g.v55 else none) W
 b47:l.getD 7 false=true->Blk W g.b47 3 #[.int .i64 c.id]/\c.wc.heap.size<=g.b47
 b54:l.getD 14 false=true->Blk W g.b54 38 (rowC c.r)/\c.wc.heap.size<=g.b54
def PC.Stored (c:PC) (g:Gh) (l:Array Bool) (W0 W:World):Prop:=
 (l.getD 18 false=false/\l.getD 21 false=false/\W=W0)\/
 ((∀k∈[5,7,8,12,13,14,15],l.getD k false=true)/\l.getD 18 false=true/\
  ((l.getD 21 false=false/\W=W0.setCell ⟨c.g0,c.i*3+1,none⟩ g.v48)\/(l.getD 21 false=true/\W=(W0.setCell ⟨c.g0,c.i*3+1,none⟩ g.v48).setCell ⟨c.g0,c.i*3+2,none⟩ g.v55)))
structure PC.Inv (c:PC) (l:Array Bool) (a:Act) (W:World):Prop where
 size:l.size=22
 len:a.tmps.size=60
 defers:a.defers=[]
 p10:a.eval (.tmp 10)=.pointer (some ⟨c.g0,c.i*3,none⟩)
 p1:a.eval (.tmp 1)=.int .i64 c.id
 p7:a.eval (.tmp 7)=.pointer (some ⟨c.rb,0,none⟩)
 closed:∀k j,waits .any putOps k j=true->l.getD k false=true->l.getD j false=true
 ghost:∃(g:Gh) (W0:World),c.At g l a W0/\c.Stored g l W0 W
theorem getD_ne {l:Array Bool} {i k:Nat} (h:i≠k):(l.setIfInBounds i true).getD k false=l.getD k false:=by
 by_cases hk:k<l.size
 ·simp [Array.getD,hk,Array.getElem_setIfInBounds,h]
 ·simp [Array.getD,hk]
theorem getD_eq {l:Array Bool} {i:Nat} (h:i<l.size):(l.setIfInBounds i true).getD i false=true:=by
 simp [Array.getD,h]
section
variable {c:PC} {l:Array Bool} {a:Act} {W:World}
theorem slots_put {g g':Gh} {k:Nat} {v:Value} (hs:∀k,k<22/\k≠18/\k≠21->l.getD k false=true->a.eval (.tmp (slotK k))=c.val g k) (hlen:a.tmps.size=60) (hk:k<22/\k≠18/\k≠21)
  (hv:c.val g' k=v) (he:∀j,j≠k->c.val g' j=c.val g j):
  ∀j,j<22/\j≠18/\j≠21->(l.setIfInBounds k true).getD j false=true->(a.put (some (slotK k)) v).eval (.tmp (slotK j))=c.val g' j:=by
 intro j hj hl
 by_cases e:k=j
 ·subst e
  rw [put_same (by rw [hlen];exact (slot_lt hk).2),hv]
 ·rw [put_other (slot_ne e hk hj),he j (λh=>e h.symm)]
  exact hs j hj (by rwa [getD_ne e] at hl)
theorem closed_step {k:Nat} (h:∀k j,waits .any putOps k j=true->l.getD k false=true->l.getD j false=true) (hi:k∈Region.ready .any putOps l):
  ∀k' j,waits .any putOps k' j=true->(l.setIfInBounds k true).getD k' false=true->(l.setIfInBounds k true).getD j false=true:=by
 intro k' j hw hl
 rcases set_getD hl with rfl|hl
 ·exact getD_set (ready_dep hi j hw)
 ·exact getD_set (h k' j hw hl)
theorem PC.Inv.frame {k:Nat} {v:Value} {W':World} (h:c.Inv l a W) (hi:k∈Region.ready .any putOps l) (hk:k<22/\k≠18/\k≠21)
  (hgh:∃(g:Gh) (W0:World),c.At g (l.setIfInBounds k true) (a.put (some (slotK k)) v) W0/\c.Stored g (l.setIfInBounds k true) W0 W'):c.Inv (l.setIfInBounds k true) (a.put (some (slotK k)) v) W':=by
 have h40:=slot_lt hk
 refine ⟨by simp [h.size],by simp [Act.put,h.len],h.defers,?_,?_,?_,closed_step h.closed hi,hgh⟩
 ·rw [put_other bO];exact h.p10
 ·rw [put_other bO];exact h.p1
 ·rw [put_other bO];exact h.p7
theorem PC.Stored.early {g:Gh} {W0:World} (h:c.Stored g l W0 W) {k:Nat} (hk:k∈[5,7,8,12,13,14,15]) (hl:l.getD k true=false):W=W0/\l.getD 18 false=false/\l.getD 21 false=false:=by
 rcases h with ⟨h1,h2,h3⟩|⟨h1,_⟩
 ·exact ⟨h3,h1,h2⟩
 ·have:=h1 k hk
  rw [(getD_two hl).2] at this
  cases this
theorem PC.Inv.pure {k:Nat} {v:Value} (h:c.Inv l a W) (hi:k∈Region.ready .any putOps l) (hk:k<22) (hn:k≠7/\k≠8/\k≠14/\k≠15/\k≠18/\k≠21) (hv:∀g,c.val g k=v):c.Inv (l.setIfInBounds k true) (a.put (some (slotK k)) v) W:=by
 obtain ⟨g,W0,hA,hS⟩:=h.ghost
 refine h.frame hi ⟨hk,hn.2.2.2.2.1,hn.2.2.2.2.2⟩ ⟨g,W0,⟨slots_put hA.slots h.len ⟨hk,hn.2.2.2.2.1,hn.2.2.2.2.2⟩ (hv g) (λ_ _=>rfl),?_,?_,?_⟩,?_⟩
 ·rw [getD_ne hn.2.1,getD_ne hn.2.2.2.1];exact hA.put
 ·rw [getD_ne hn.1];exact hA.b47
 ·rw [getD_ne hn.2.2.1];exact hA.b54
 ·unfold PC.Stored at hS⊢
  rw [getD_ne hn.2.2.2.2.1,getD_ne hn.2.2.2.2.2]
  rcases hS with hS|⟨h1,h2⟩
  ·exact .inl hS
  ·exact .inr ⟨λj hj=>getD_set (h1 j hj),h2⟩
end
theorem wp_nil {o:Oper} {a:Act} {w:World} {K:Act->World->Prop} {Q:Exit->Act->World->Prop} {x:Operand} {ad:Addr} (ho:o.op=.nilCheck x) (hx:a.eval x=.pointer (some ad))
  (hk:K (a.put o.dst (.pointer (some ad))) w):o.wp Tryz.prog a w K Q:=by
 unfold Oper.wp execOp
 simp only [ho,hx]
 go_simp
 exact hk
theorem wp_field1 {o:Oper} {a:Act} {w:World} {K:Act->World->Prop} {Q:Exit->Act->World->Prop} {x:Operand} {b n:Nat} (ho:o.op=.fieldAddr 102 x 1) (hx:a.eval x=.pointer (some ⟨b,n,none⟩))
  (hk:K (a.put o.dst (.pointer (some ⟨b,n+1,none⟩))) w):o.wp Tryz.prog a w K Q:=by
 unfold Oper.wp execOp
 simp only [ho,hx]
 go_simp
 exact hk
theorem wp_field2 {o:Oper} {a:Act} {w:World} {K:Act->World->Prop} {Q:Exit->Act->World->Prop} {x:Operand} {b n:Nat} (ho:o.op=.fieldAddr 102 x 2) (hx:a.eval x=.pointer (some ⟨b,n,none⟩))
  (hk:K (a.put o.dst (.pointer (some ⟨b,n+2,none⟩))) w):o.wp Tryz.prog a w K Q:=by
 unfold Oper.wp execOp
 simp only [ho,hx]
 go_simp
 exact hk
theorem wp_load1 {o:Oper} {a:Act} {w:World} {K:Act->World->Prop} {Q:Exit->Act->World->Prop} {x:Operand} {ad:Addr} {v:Value} (ho:o.op=.load 32 x) (hx:a.eval x=.pointer (some ad)) (hc:w.cell? ad=some v)
  (hk:K (a.put o.dst v) w):o.wp Tryz.prog a w K Q:=by
 unfold Oper.wp execOp
 simp only [ho,hx]
 go_simp
 exact hk
theorem wp_load2 {o:Oper} {a:Act} {w:World} {K:Act->World->Prop} {Q:Exit->Act->World->Prop} {x:Operand} {ad:Addr} {v:Value} (ho:o.op=.load 100 x) (hx:a.eval x=.pointer (some ad)) (hc:w.cell? ad=some v)
  (hk:K (a.put o.dst v) w):o.wp Tryz.prog a w K Q:=by
 unfold Oper.wp execOp
 simp only [ho,hx]
 go_simp
 exact hk
theorem wp_mv {P:Program} {o:Oper} {a:Act} {w:World} {K:Act->World->Prop} {Q:Exit->Act->World->Prop} {x:Operand} (h:o.op=.move x) (hk:K (a.put o.dst (a.eval x)) w):o.wp P a w K Q:=by
 unfold Oper.wp execOp;rw [h];exact hk
theorem wp_build1 {o:Oper} {a:Act} {w:World} {K:Act->World->Prop} {Q:Exit->Act->World->Prop} {id:Int} (ho:o.op=.buildSlice 32 1 #[(0,.tmp 46)]) (hx:a.eval (.tmp 46)=.int .i64 id)
  (hk:K (a.put o.dst (.slice (some ⟨w.heap.size,0,none⟩) 1 1)) (w.alloc (.cells #[.int .i64 id] 3))):o.wp Tryz.prog a w K Q:=by
 unfold Oper.wp execOp
 simp only [ho,mA,mC,mN,hx]
 go_simp
 exact hk
theorem wp_build2 {o:Oper} {a:Act} {w:World} {K:Act->World->Prop} {Q:Exit->Act->World->Prop} {r:M.Row} (ho:o.op=.buildSlice 100 1 #[(0,.tmp 53)]) (hx:a.eval (.tmp 53)=rowV r)
  (hk:K (a.put o.dst (.slice (some ⟨w.heap.size,0,none⟩) 1 1)) (w.alloc (.cells (rowC r) 38))):o.wp Tryz.prog a w K Q:=by
 unfold Oper.wp execOp
 simp only [ho,mA,mC,mN,hx]
 go_simp
 exact hk
theorem wp_store1 {o:Oper} {a:Act} {w:World} {K:Act->World->Prop} {Q:Exit->Act->World->Prop} {p x:Operand} {ad:Addr} {u v:Value} {s:Option Addr} {n m:Nat} (ho:o.op=.store 32 p x) (hd:o.dst=none) (hp:a.eval p=.pointer (some ad)) (hx:a.eval x=v) (hv:v=.slice s n m)
  (hc:w.cell? ad=some u) (hf:w.frozen? ad=false) (hk:K a (w.setCell ad v)):o.wp Tryz.prog a w K Q:=by
 subst hv
 unfold Oper.wp execOp
 simp only [ho,hp,hx]
 go_simp
 exact hk
theorem wp_store2 {o:Oper} {a:Act} {w:World} {K:Act->World->Prop} {Q:Exit->Act->World->Prop} {p x:Operand} {ad:Addr} {u v:Value} {s:Option Addr} {n m:Nat} (ho:o.op=.store 100 p x) (hd:o.dst=none) (hp:a.eval p=.pointer (some ad)) (hx:a.eval x=v) (hv:v=.slice s n m)
  (hc:w.cell? ad=some u) (hf:w.frozen? ad=false) (hk:K a (w.setCell ad v)):o.wp Tryz.prog a w K Q:=by
 subst hv
 unfold Oper.wp execOp
 simp only [ho,hp,hx]
 go_simp
 exact hk
section
variable {c:PC} {l:Array Bool} {a:Act} {W:World} {Q:Exit->Act->World->Prop}
theorem PC.At.cell {g:Gh} (h:c.At g l a W) (ok:c.Ok):W.cell? ⟨c.g0,c.i*3+1,none⟩=some c.s1/\W.cell? ⟨c.g0,c.i*3+2,none⟩=some c.s2/\∀j,W.frozen? ⟨c.g0,j,none⟩=false:=by
 have e:=h.put.block c.g0 ok.hg1 (λ_=>ok.v1) (λ_=>ok.v2)
 exact ⟨(World.cell?_of_block (a:=⟨c.g0,c.i*3+1,none⟩) e).trans ok.T1,(World.cell?_of_block (a:=⟨c.g0,c.i*3+2,none⟩) e).trans ok.T2,λj=>(World.frozen?_of_block (a:=⟨c.g0,j,none⟩) e).trans (ok.TF j)⟩
theorem PC.At.row {g:Gh} (h:c.At g l a W) (ok:c.Ok):Blk W c.rb 38 (rowC c.r):=(h.put.block c.rb ok.lrc (λ_=>ok.f1) (λ_=>ok.f2)).trans ok.row
theorem op0 (h:c.Inv l a W) (hi:0∈Region.ready .any putOps l):wpOp Tryz.prog putOps Q 0 (c.Inv (l.setIfInBounds 0 true)) a W:=by
 obtain ⟨o,ho,hg,hop,hd⟩:=op_at (k:=0) (x:=.move (.tmp 10)) (d:=some 40) kR
 refine wpOp_run ho hg (wp_mv hop ?_)
 rw [h.p10]
 rw [hd]
 exact h.pure (k:=0) hi bO bO (λ_=>rfl)
theorem op1 (h:c.Inv l a W) (hi:1∈Region.ready .any putOps l):wpOp Tryz.prog putOps Q 1 (c.Inv (l.setIfInBounds 1 true)) a W:=by
 obtain ⟨o,ho,hg,hop,hd⟩:=op_at (k:=1) (x:=.move (.tmp 10)) (d:=some 41) kR
 refine wpOp_run ho hg (wp_mv hop ?_)
 rw [h.p10]
 rw [hd]
 exact h.pure (k:=1) hi bO bO (λ_=>rfl)
theorem op2 (h:c.Inv l a W) (hi:2∈Region.ready .any putOps l):wpOp Tryz.prog putOps Q 2 (c.Inv (l.setIfInBounds 2 true)) a W:=by
 obtain ⟨o,ho,hg,hop,hd⟩:=op_at (k:=2) (x:=.move (.tmp 10)) (d:=some 42) kR
 refine wpOp_run ho hg (wp_mv hop ?_)
 rw [h.p10]
 rw [hd]
 exact h.pure (k:=2) hi bO bO (λ_=>rfl)
theorem op9 (h:c.Inv l a W) (hi:9∈Region.ready .any putOps l):wpOp Tryz.prog putOps Q 9 (c.Inv (l.setIfInBounds 9 true)) a W:=by
 obtain ⟨o,ho,hg,hop,hd⟩:=op_at (k:=9) (x:=.move (.tmp 10)) (d:=some 49) kR
 refine wpOp_run ho hg (wp_mv hop ?_)
 rw [h.p10]
 rw [hd]
 exact h.pure (k:=9) hi bO bO (λ_=>rfl)
theorem op6 (h:c.Inv l a W) (hi:6∈Region.ready .any putOps l):wpOp Tryz.prog putOps Q 6 (c.Inv (l.setIfInBounds 6 true)) a W:=by
 obtain ⟨o,ho,hg,hop,hd⟩:=op_at (k:=6) (x:=.move (.tmp 1)) (d:=some 46) kR
 refine wpOp_run ho hg (wp_mv hop ?_)
 rw [h.p1]
 rw [hd]
 exact h.pure (k:=6) hi bO bO (λ_=>rfl)
theorem op3 (h:c.Inv l a W) (hi:3∈Region.ready .any putOps l):wpOp Tryz.prog putOps Q 3 (c.Inv (l.setIfInBounds 3 true)) a W:=by
 obtain ⟨o,ho,hg,hop,hd⟩:=op_at (k:=3) (x:=.nilCheck (.tmp 42)) (d:=some 43) kR
 obtain ⟨g,W0,hA,hS⟩:=h.ghost
 have e:a.eval (.tmp 42)=.pointer (some ⟨c.g0,c.i*3,none⟩):=hA.slots 2 bO (ready_dep hi 2 kR)
 refine wpOp_run ho hg (wp_nil hop e ?_)
 rw [hd]
 exact h.pure (k:=3) hi bO bO (λ_=>rfl)
theorem op10 (h:c.Inv l a W) (hi:10∈Region.ready .any putOps l):wpOp Tryz.prog putOps Q 10 (c.Inv (l.setIfInBounds 10 true)) a W:=by
 obtain ⟨o,ho,hg,hop,hd⟩:=op_at (k:=10) (x:=.nilCheck (.tmp 49)) (d:=some 50) kR
 obtain ⟨g,W0,hA,hS⟩:=h.ghost
 have e:a.eval (.tmp 49)=.pointer (some ⟨c.g0,c.i*3,none⟩):=hA.slots 9 bO (ready_dep hi 9 kR)
 refine wpOp_run ho hg (wp_nil hop e ?_)
 rw [hd]
 exact h.pure (k:=10) hi bO bO (λ_=>rfl)
theorem op16 (h:c.Inv l a W) (hi:16∈Region.ready .any putOps l):wpOp Tryz.prog putOps Q 16 (c.Inv (l.setIfInBounds 16 true)) a W:=by
 obtain ⟨o,ho,hg,hop,hd⟩:=op_at (k:=16) (x:=.nilCheck (.tmp 40)) (d:=some 56) kR
 obtain ⟨g,W0,hA,hS⟩:=h.ghost
 have e:a.eval (.tmp 40)=.pointer (some ⟨c.g0,c.i*3,none⟩):=hA.slots 0 bO (ready_dep hi 0 kR)
 refine wpOp_run ho hg (wp_nil hop e ?_)
 rw [hd]
 exact h.pure (k:=16) hi bO bO (λ_=>rfl)
theorem op19 (h:c.Inv l a W) (hi:19∈Region.ready .any putOps l):wpOp Tryz.prog putOps Q 19 (c.Inv (l.setIfInBounds 19 true)) a W:=by
 obtain ⟨o,ho,hg,hop,hd⟩:=op_at (k:=19) (x:=.nilCheck (.tmp 41)) (d:=some 58) kR
 obtain ⟨g,W0,hA,hS⟩:=h.ghost
 have e:a.eval (.tmp 41)=.pointer (some ⟨c.g0,c.i*3,none⟩):=hA.slots 1 bO (ready_dep hi 1 kR)
 refine wpOp_run ho hg (wp_nil hop e ?_)
 rw [hd]
 exact h.pure (k:=19) hi bO bO (λ_=>rfl)
theorem op4 (h:c.Inv l a W) (hi:4∈Region.ready .any putOps l):wpOp Tryz.prog putOps Q 4 (c.Inv (l.setIfInBounds 4 true)) a W:=by
 obtain ⟨o,ho,hg,hop,hd⟩:=op_at (k:=4) (x:=.fieldAddr 102 (.tmp 43) 1) (d:=some 44) kR
 obtain ⟨g,W0,hA,hS⟩:=h.ghost
 have e:a.eval (.tmp 43)=.pointer (some ⟨c.g0,c.i*3,none⟩):=hA.slots 3 bO (ready_dep hi 3 kR)
 refine wpOp_run ho hg (wp_field1 hop e ?_)
 rw [hd]
 exact h.pure (k:=4) hi bO bO (λ_=>rfl)
theorem op17 (h:c.Inv l a W) (hi:17∈Region.ready .any putOps l):wpOp Tryz.prog putOps Q 17 (c.Inv (l.setIfInBounds 17 true)) a W:=by
 obtain ⟨o,ho,hg,hop,hd⟩:=op_at (k:=17) (x:=.fieldAddr 102 (.tmp 56) 1) (d:=some 57) kR
 obtain ⟨g,W0,hA,hS⟩:=h.ghost
 have e:a.eval (.tmp 56)=.pointer (some ⟨c.g0,c.i*3,none⟩):=hA.slots 16 bO (ready_dep hi 16 kR)
 refine wpOp_run ho hg (wp_field1 hop e ?_)
 rw [hd]
 exact h.pure (k:=17) hi bO bO (λ_=>rfl)
theorem op11 (h:c.Inv l a W) (hi:11∈Region.ready .any putOps l):wpOp Tryz.prog putOps Q 11 (c.Inv (l.setIfInBounds 11 true)) a W:=by
 obtain ⟨o,ho,hg,hop,hd⟩:=op_at (k:=11) (x:=.fieldAddr 102 (.tmp 50) 2) (d:=some 51) kR
 obtain ⟨g,W0,hA,hS⟩:=h.ghost
 have e:a.eval (.tmp 50)=.pointer (some ⟨c.g0,c.i*3,none⟩):=hA.slots 10 bO (ready_dep hi 10 kR)
 refine wpOp_run ho hg (wp_field2 hop e ?_)
 rw [hd]
 exact h.pure (k:=11) hi bO bO (λ_=>rfl)
theorem op20 (h:c.Inv l a W) (hi:20∈Region.ready .any putOps l):wpOp Tryz.prog putOps Q 20 (c.Inv (l.setIfInBounds 20 true)) a W:=by
 obtain ⟨o,ho,hg,hop,hd⟩:=op_at (k:=20) (x:=.fieldAddr 102 (.tmp 58) 2) (d:=some 59) kR
 obtain ⟨g,W0,hA,hS⟩:=h.ghost
 have e:a.eval (.tmp 58)=.pointer (some ⟨c.g0,c.i*3,none⟩):=hA.slots 19 bO (ready_dep hi 19 kR)
 refine wpOp_run ho hg (wp_field2 hop e ?_)
 rw [hd]
 exact h.pure (k:=20) hi bO bO (λ_=>rfl)
theorem op5 (ok:c.Ok) (h:c.Inv l a W) (hi:5∈Region.ready .any putOps l):wpOp Tryz.prog putOps Q 5 (c.Inv (l.setIfInBounds 5 true)) a W:=by
 obtain ⟨o,ho,hg,hop,hd⟩:=op_at (k:=5) (x:=.load 32 (.tmp 44)) (d:=some 45) kR
 obtain ⟨g,W0,hA,hS⟩:=h.ghost
 have e:a.eval (.tmp 44)=.pointer (some ⟨c.g0,c.i*3+1,none⟩):=hA.slots 4 bO (ready_dep hi 4 kR)
 have eW:=(hS.early (k:=5) sS (ready_spec hi).1).1
 subst eW
 refine wpOp_run ho hg (wp_load1 hop e (hA.cell ok).1 ?_)
 rw [hd]
 exact h.pure (k:=5) hi bO bO (λ_=>rfl)
theorem op12 (ok:c.Ok) (h:c.Inv l a W) (hi:12∈Region.ready .any putOps l):wpOp Tryz.prog putOps Q 12 (c.Inv (l.setIfInBounds 12 true)) a W:=by
 obtain ⟨o,ho,hg,hop,hd⟩:=op_at (k:=12) (x:=.load 100 (.tmp 51)) (d:=some 52) kR
 obtain ⟨g,W0,hA,hS⟩:=h.ghost
 have e:a.eval (.tmp 51)=.pointer (some ⟨c.g0,c.i*3+2,none⟩):=hA.slots 11 bO (ready_dep hi 11 kR)
 have eW:=(hS.early (k:=12) sS (ready_spec hi).1).1
 subst eW
 refine wpOp_run ho hg (wp_load2 hop e (hA.cell ok).2.1 ?_)
 rw [hd]
 exact h.pure (k:=12) hi bO bO (λ_=>rfl)
theorem op13 (ok:c.Ok) (h:c.Inv l a W) (hi:13∈Region.ready .any putOps l):wpOp Tryz.prog putOps Q 13 (c.Inv (l.setIfInBounds 13 true)) a W:=by
 obtain ⟨o,ho,hg,hop,hd⟩:=op_at (k:=13) (x:=.load 38 (.tmp 7)) (d:=some 53) kR
 obtain ⟨g,W0,hA,hS⟩:=h.ghost
 have eW:=(hS.early (k:=13) sS (ready_spec hi).1).1
 subst eW
 refine wpOp_run ho hg (wp_load_row 38 _ hop c.rb h.p7 _ (rowC c.r) _ _ (hA.row ok) Tryz.underlying38 rfl kR ?_)
 rw [hd]
 exact h.pure (k:=13) hi bO bO (λ_=>rfl)
theorem op7 (h:c.Inv l a W) (hi:7∈Region.ready .any putOps l):wpOp Tryz.prog putOps Q 7 (c.Inv (l.setIfInBounds 7 true)) a W:=by
 obtain ⟨o,ho,hg,hop,hd⟩:=op_at (k:=7) (x:=.buildSlice 32 1 #[(0,.tmp 46)]) (d:=some 47) kR
 obtain ⟨g,W0,hA,hS⟩:=h.ghost
 have e:a.eval (.tmp 46)=.int .i64 c.id:=hA.slots 6 bO (ready_dep hi 6 kR)
 obtain ⟨eW,e18,e21⟩:=hS.early (k:=7) sS (ready_spec hi).1
 subst eW
 have hb:Below W.heap.size W (W.alloc (.cells #[.int .i64 c.id] 3)):=(Below.refl _ W).alloc lR _
 refine wpOp_run ho hg (wp_build1 hop e ?_)
 rw [hd]
 refine h.frame (k:=7) hi bO ⟨{g with b47:=W.heap.size},_,⟨slots_put hA.slots h.len bO rfl (λj hj=>by unfold PC.val;simp only [hj,if_false]),?_,?_,?_⟩,.inl ⟨?_,?_,rfl⟩⟩
 ·rw [getD_ne bO,getD_ne bO];exact PutAt.step hA.put hb
 ·intro _;exact ⟨Blk.new W _ _,hA.put.size⟩
 ·rw [getD_ne bO];intro hl;exact ⟨(hA.b54 hl).1.alloc _,(hA.b54 hl).2⟩
 ·rw [getD_ne bO];exact e18
 ·rw [getD_ne bO];exact e21
theorem op14 (h:c.Inv l a W) (hi:14∈Region.ready .any putOps l):wpOp Tryz.prog putOps Q 14 (c.Inv (l.setIfInBounds 14 true)) a W:=by
 obtain ⟨o,ho,hg,hop,hd⟩:=op_at (k:=14) (x:=.buildSlice 100 1 #[(0,.tmp 53)]) (d:=some 54) kR
 obtain ⟨g,W0,hA,hS⟩:=h.ghost
 have e:a.eval (.tmp 53)=rowV c.r:=hA.slots 13 bO (ready_dep hi 13 kR)
 obtain ⟨eW,e18,e21⟩:=hS.early (k:=14) sS (ready_spec hi).1
 subst eW
 have hb:Below W.heap.size W (W.alloc (.cells (rowC c.r) 38)):=(Below.refl _ W).alloc lR _
 refine wpOp_run ho hg (wp_build2 hop e ?_)
 rw [hd]
 refine h.frame (k:=14) hi bO ⟨{g with b54:=W.heap.size},_,⟨slots_put hA.slots h.len bO rfl (λj hj=>by unfold PC.val;simp only [hj,if_false]),?_,?_,?_⟩,.inl ⟨?_,?_,rfl⟩⟩
 ·rw [getD_ne bO,getD_ne bO];exact PutAt.step hA.put hb
 ·rw [getD_ne bO];intro hl;exact ⟨(hA.b47 hl).1.alloc _,(hA.b47 hl).2⟩
 ·intro _;exact ⟨Blk.new W _ _,hA.put.size⟩
 ·rw [getD_ne bO];exact e18
 ·rw [getD_ne bO];exact e21
theorem op8 (ok:c.Ok) (h:c.Inv l a W) (hi:8∈Region.ready .any putOps l):wpOp Tryz.prog putOps Q 8 (c.Inv (l.setIfInBounds 8 true)) a W:=by
 obtain ⟨o,ho,hg,hop,hd⟩:=op_at (k:=8) (x:=.call {callee:=.builtin .append,args:=#[.tmp 45,.tmp 47],argTypes:=#[32,32]}) (d:=some 48) kR
 obtain ⟨g,W0,hA,hS⟩:=h.ghost
 have lx:=ready_dep hi 7 kR
 have e5:a.eval (.tmp 45)=c.s1:=hA.slots 5 bO (ready_dep hi 5 kR)
 have e7:a.eval (.tmp 47)=.slice (some ⟨g.b47,0,none⟩) 1 1:=hA.slots 7 bO lx
 obtain ⟨eW,e18,e21⟩:=hS.early (k:=8) sS (ready_spec hi).1
 subst eW
 have lk:=(getD_two (ready_spec hi).1).2
 have hp:=hA.put
 rw [lk] at hp
 simp only [Bool.false_eq_true,if_false] at hp
 obtain ⟨i1,hi1,hz10,hz11,hz12⟩:=info_parts infoInt
 have hbx:=hA.b47 lx
 have hold:∀x,c.s1.ownBlock=some x->x<c.wc.heap.size:=λx hx=>(ok.own1.lt x hx).2
 refine wpOp_step ho λK' hK=>?_
 refine step_append_own_atK2 hg (.tmp 45) (.tmp 47) 32 hop c.base 3 i1 (.int .i64 0) 1 8 Tryz.underlying32 hi1 hz10 hz11 hz12 rfl dC c.s1 c.t1.ids.length (c.t1.ids.map (.int .i64)) (PutAt.oldA hp ok.own1 ok.ne) e5
  ⟨g.b47,0,none⟩ 1 1 ([.int .i64 c.id]) e7 rfl (blk_one hbx.1) (one_int _) (by have:=ok.n1;unfold maxLen;omega) (by have:=ok.n1;omega) (Nat.le_trans ok.base hp.size) ?_
 intro v' w' hown hgrow hloc
 refine hK _ _ ?_
 rw [hd]
 refine h.frame (k:=8) hi bO ⟨{g with v48:=v'},w',⟨slots_put hA.slots h.len bO rfl (λj hj=>by unfold PC.val;simp only [hj,if_false]),?_,?_,?_⟩,.inl ⟨?_,?_,rfl⟩⟩
 ·rw [getD_ne (i:=8) (k:=15) bO,getD_eq (by have:=h.size;omega)]
  exact PutAt.stepA hp hold ok.ne (by simpa using hown) hgrow hloc
 ·rw [getD_ne bO];intro hl
  exact ⟨(hA.b47 hl).1.grown hgrow (λe=>by have:=hold _ e;have:=(hA.b47 hl).2;omega),(hA.b47 hl).2⟩
 ·rw [getD_ne bO];intro hl
  exact ⟨(hA.b54 hl).1.grown hgrow (λe=>by have:=hold _ e;have:=(hA.b54 hl).2;omega),(hA.b54 hl).2⟩
 ·rw [getD_ne bO];exact e18
 ·rw [getD_ne bO];exact e21
theorem op15 (ok:c.Ok) (h:c.Inv l a W) (hi:15∈Region.ready .any putOps l):wpOp Tryz.prog putOps Q 15 (c.Inv (l.setIfInBounds 15 true)) a W:=by
 obtain ⟨o,ho,hg,hop,hd⟩:=op_at (k:=15) (x:=.call {callee:=.builtin .append,args:=#[.tmp 52,.tmp 54],argTypes:=#[100,100]}) (d:=some 55) kR
 obtain ⟨g,W0,hA,hS⟩:=h.ghost
 have lx:=ready_dep hi 14 kR
 have e5:a.eval (.tmp 52)=c.s2:=hA.slots 12 bO (ready_dep hi 12 kR)
 have e7:a.eval (.tmp 54)=.slice (some ⟨g.b54,0,none⟩) 1 1:=hA.slots 14 bO lx
 obtain ⟨eW,e18,e21⟩:=hS.early (k:=15) sS (ready_spec hi).1
 subst eW
 have lk:=(getD_two (ready_spec hi).1).2
 have hp:=hA.put
 rw [lk] at hp
 simp only [Bool.false_eq_true,if_false] at hp
 obtain ⟨i1,hi1,hz10,hz11,hz12⟩:=info_parts infoRow
 have hbx:=hA.b54 lx
 have hold:∀x,c.s2.ownBlock=some x->x<c.wc.heap.size:=λx hx=>(ok.own2.lt x hx).2
 refine wpOp_step ho λK' hK=>?_
 refine step_append_own_atK2 hg (.tmp 52) (.tmp 54) 100 hop c.base 38 i1 (rowV M.row0) 8 64 Tryz.underlying100 hi1 hz10 hz11 hz12 rfl dC c.s2 c.t1.rows.length (c.t1.rows.flatMap rowL) (PutAt.oldB hp ok.own2 ok.ne) e5
  ⟨g.b54,0,none⟩ 1 1 (rowL c.r) e7 rfl (blk_row hbx.1) (one_row _) (by have:=ok.n2;unfold maxLen;omega) (by have:=ok.n2;omega) (Nat.le_trans ok.base hp.size) ?_
 intro v' w' hown hgrow hloc
 refine hK _ _ ?_
 rw [hd]
 refine h.frame (k:=15) hi bO ⟨{g with v55:=v'},w',⟨slots_put hA.slots h.len bO rfl (λj hj=>by unfold PC.val;simp only [hj,if_false]),?_,?_,?_⟩,.inl ⟨?_,?_,rfl⟩⟩
 ·rw [getD_ne (i:=15) (k:=8) bO,getD_eq (by have:=h.size;omega)]
  exact PutAt.stepB hp hold ok.ne (by simpa using hown) hgrow hloc
 ·rw [getD_ne bO];intro hl
  exact ⟨(hA.b47 hl).1.grown hgrow (λe=>by have:=hold _ e;have:=(hA.b47 hl).2;omega),(hA.b47 hl).2⟩
 ·rw [getD_ne bO];intro hl
  exact ⟨(hA.b54 hl).1.grown hgrow (λe=>by have:=hold _ e;have:=(hA.b54 hl).2;omega),(hA.b54 hl).2⟩
 ·rw [getD_ne bO];exact e18
 ·rw [getD_ne bO];exact e21
theorem op18 (ok:c.Ok) (h:c.Inv l a W) (hi:18∈Region.ready .any putOps l):wpOp Tryz.prog putOps Q 18 (c.Inv (l.setIfInBounds 18 true)) a W:=by
 obtain ⟨o,ho,hg,hop,hd⟩:=op_at (k:=18) (x:=.store 32 (.tmp 57) (.tmp 48)) (d:=none) kR
 obtain ⟨g,W0,hA,hS⟩:=h.ghost
 have l8:=ready_dep hi 8 kR
 have l15:=ready_dep hi 15 kR
 have l17:=ready_dep hi 17 kR
 have l12:=h.closed 15 12 kR l15
 have l14:=h.closed 15 14 kR l15
 have l13:=h.closed 14 13 kR l14
 have l5:=h.closed 8 5 kR l8
 have l7:=h.closed 8 7 kR l8
 have l18:=(getD_two (ready_spec hi).1).2
 have e1:a.eval (.tmp 57)=.pointer (some ⟨c.g0,c.i*3+1,none⟩):=hA.slots 17 bO l17
 have e2:a.eval (.tmp 48)=g.v48:=hA.slots 8 bO l8
 obtain ⟨e21,rfl⟩:l.getD 21 false=false/\W=W0:=by
  rcases hS with ⟨_,k1,k2⟩|⟨_,k1,_⟩
  ·exact ⟨k1,k2⟩
  ·rw [l18] at k1;cases k1
 have hp:=hA.put
 rw [l8,l15] at hp
 simp only [if_true] at hp
 obtain ⟨av,cv,hv⟩:=own_form (hp.ids _ rfl).1
 have hc:=hA.cell ok
 refine wpOp_run ho hg (wp_store1 hop hd e1 e2 hv hc.1 (hc.2.2 _) ?_)
 refine ⟨by simp [h.size],h.len,h.defers,h.p10,h.p1,h.p7,closed_step h.closed hi,g,W,⟨λk hk hl=>hA.slots k hk (by rwa [getD_ne bO] at hl),?_,?_,?_⟩,.inr ⟨λk hk=>getD_set ?_,getD_eq (by have:=h.size;omega),.inl ⟨?_,rfl⟩⟩⟩
 ·rw [getD_ne bO,getD_ne bO];exact hA.put
 ·rw [getD_ne bO];exact hA.b47
 ·rw [getD_ne bO];exact hA.b54
 ·simp only [List.mem_cons,List.not_mem_nil,or_false] at hk
  rcases hk with rfl|rfl|rfl|rfl|rfl|rfl|rfl<;>assumption
 ·rw [getD_ne bO];exact e21
theorem op21 (ok:c.Ok) (h:c.Inv l a W) (hi:21∈Region.ready .any putOps l):wpOp Tryz.prog putOps Q 21 (c.Inv (l.setIfInBounds 21 true)) a W:=by
 obtain ⟨o,ho,hg,hop,hd⟩:=op_at (k:=21) (x:=.store 100 (.tmp 59) (.tmp 55)) (d:=none) kR
 obtain ⟨g,W0,hA,hS⟩:=h.ghost
 have l15:=ready_dep hi 15 kR
 have l18:=ready_dep hi 18 kR
 have l20:=ready_dep hi 20 kR
 have l8:=h.closed 15 8 kR l15
 have l21:=(getD_two (ready_spec hi).1).2
 have e1:a.eval (.tmp 59)=.pointer (some ⟨c.g0,c.i*3+2,none⟩):=hA.slots 20 bO l20
 have e2:a.eval (.tmp 55)=g.v55:=hA.slots 15 bO l15
 obtain ⟨hE,rfl⟩:(∀k∈[5,7,8,12,13,14,15],l.getD k false=true)/\W=W0.setCell ⟨c.g0,c.i*3+1,none⟩ g.v48:=by
  rcases hS with ⟨k1,_⟩|⟨k1,_,⟨_,k2⟩|⟨k2,_⟩⟩
  ·rw [l18] at k1;cases k1
  ·exact ⟨k1,k2⟩
  ·rw [l21] at k2;cases k2
 have hp:=hA.put
 rw [l8,l15] at hp
 simp only [if_true] at hp
 obtain ⟨av,cv,hv⟩:=own_form (hp.rows _ rfl).1
 have hc:=hA.cell ok
 refine wpOp_run ho hg (wp_store2 (u:=c.s2) hop hd e1 e2 hv ?_ ?_ ?_)
 ·rw [World.cell?_setCell_other _ _ _ _ (λe=>by injection e;omega)];exact hc.2.1
 ·rw [World.frozen?_setCell];exact hc.2.2 _
 refine ⟨by simp [h.size],h.len,h.defers,h.p10,h.p1,h.p7,closed_step h.closed hi,g,W0,⟨λk hk hl=>hA.slots k hk (by rwa [getD_ne bO] at hl),?_,?_,?_⟩,.inr ⟨λk hk=>getD_set (hE k hk),?_,.inr ⟨getD_eq (by have:=h.size;omega),rfl⟩⟩⟩
 ·rw [getD_ne bO,getD_ne bO];exact hA.put
 ·rw [getD_ne bO];exact hA.b47
 ·rw [getD_ne bO];exact hA.b54
 ·rw [getD_ne bO];exact l18
theorem put_op (ok:c.Ok) {k:Nat} (h:c.Inv l a W) (hi:k∈Region.ready .any putOps l):wpOp Tryz.prog putOps Q k (c.Inv (l.setIfInBounds k true)) a W:=by
 have hk:k<22:=putOps_size▸(ready_spec hi).2.1
 rcases (by omega:k=0\/k=1\/k=2\/k=3\/k=4\/k=5\/k=6\/k=7\/k=8\/k=9\/k=10\/k=11\/k=12\/k=13\/k=14\/k=15\/k=16\/k=17\/k=18\/k=19\/k=20\/k=21) with rfl|rfl|rfl|rfl|rfl|rfl|rfl|rfl|rfl|rfl|rfl|rfl|rfl|rfl|rfl|rfl|rfl|rfl|rfl|rfl|rfl|rfl
 ·exact op0 h hi
 ·exact op1 h hi
 ·exact op2 h hi
 ·exact op3 h hi
 ·exact op4 h hi
 ·exact op5 ok h hi
 ·exact op6 h hi
 ·exact op7 h hi
 ·exact op8 ok h hi
 ·exact op9 h hi
 ·exact op10 h hi
 ·exact op11 h hi
 ·exact op12 ok h hi
 ·exact op13 ok h hi
 ·exact op14 h hi
 ·exact op15 ok h hi
 ·exact op16 h hi
 ·exact op17 h hi
 ·exact op18 ok h hi
 ·exact op19 h hi
 ·exact op20 h hi
 ·exact op21 ok h hi
theorem put_ordered:((List.range 22).all λi=>((putOps[i]?).map λo=>o.after.toList.all λe=> !Region.binds .any e||decide (e.on<i)).getD true)=true:=by kernel_rfl
theorem put_region (ok:c.Ok) (h:c.Inv (Array.replicate 22 false) a W) (hQ:∀(a':Act) (g:Gh) (W0:World),a'.defers=[]->c.Put (some g.v48) (some g.v55) W0->Q .normal a' ((W0.setCell ⟨c.g0,c.i*3+1,none⟩ g.v48).setCell ⟨c.g0,c.i*3+2,none⟩ g.v55)):
  wpAny Tryz.prog .any putOps Q 22 (Array.replicate 22 false) a W:=by
 refine wpAny_inv c.Inv ?_ (λl a w i h hi=>put_op ok h hi) 22 _ _ _ (by unfold Undone;simp) h
 intro l a w h hr
 have all:=all_done hr (by rw [h.size,putOps_size]) (by
  intro i hi o ho e he hb
  have h1:=List.all_eq_true.1 put_ordered i (List.mem_range.2 (putOps_size▸hi))
  rw [ho] at h1
  simp only [Option.map_some,Option.getD_some] at h1
  have h2:=List.all_eq_true.1 h1 e he
  simpa [hb] using h2)
 rw [putOps_size] at all
 obtain ⟨g,W0,hA,hS⟩:=h.ghost
 have hp:=hA.put
 rw [all 8 bO,all 15 bO] at hp
 simp only [if_true] at hp
 rcases hS with ⟨k1,_⟩|⟨_,_,⟨k1,_⟩|⟨_,rfl⟩⟩
 ·rw [all 18 bO] at k1;cases k1
 ·rw [all 21 bO] at k1;cases k1
 ·exact hQ a g W0 h.defers hp
end
def Few (ts:List M.Table):Prop:=ts.length<=1000/\∀t∈ts,t.ids.length<=1000/\t.rows.length<=1000
structure ReadyPut (base sb:Nat) (next:Int) (ts':Int->M.Row->List M.Table) (m:Int) (i rb:Nat) (r:M.Row) (w W:World) (vt:Value) (ts:List M.Table) (hs:List (Value×Value)) (t:M.Table):Prop where
 own:OwnTabs W base vt ts hs
 at_:ts[i]?=some t
 law:∀id q,ts' id q=ts.set i ⟨m,t.ids++[id],t.rows++[q]⟩
 mask:t.mask=m
 few:ts.length<=1001/\t.ids.length<=1000/\t.rows.length<=1000
 box:Blk W sb 51 #[vt,.int .i64 next]
 but:But base sb w W
 row:Blk W rb 38 (rowC r)
 far:rb∉blks vt hs
theorem put_fin2 {base sb g0 cap0 i:Nat} {w wc W W':World} {next m id:Int} {r:M.Row} {ts0 ts:List M.Table} {hs:List (Value×Value)} {p:Value×Value} {t:M.Table} {v5 v6:Value} (hown:OwnTabs wc base (.slice (some ⟨g0,0,none⟩) ts.length cap0) ts hs)
  (hat:ts[i]?=some t) (hp:hs[i]?=some p) (S:PutAt base wc p (t.ids++[id]) (t.rows++[r]) (some v5) (some v6) W) (hmask:t.mask=m) (hlaw:M.putT id m r ts0=ts.set i ⟨m,t.ids++[id],t.rows++[r]⟩)
  (hbx:Blk wc sb 51 #[.slice (some ⟨g0,0,none⟩) ts.length cap0,.int .i64 next]) (hsb:sb<base) (hbut:But base sb w wc)
  (hW:W'=(W.setCell ⟨g0,i*3+1,none⟩ v5).setCell ⟨g0,i*3+2,none⟩ v6\/W'=(W.setCell ⟨g0,i*3+2,none⟩ v6).setCell ⟨g0,i*3+1,none⟩ v5):
  ∃vt',Blk W' sb 51 #[vt',.int .i64 next]/\(∃hs',TabsAtH W' base vt' (M.putT id m r ts0) hs')/\But base sb w W':=by
 obtain ⟨vt',hs',f1,f2,f3⟩:=put_fin (next:=next) hown hat hp S hmask hlaw hbx hsb hbut hW
 exact ⟨vt',f1,⟨hs',f2⟩,f3⟩
theorem put_last {w wc:World} {base sb g0 cap0 i q1 q2:Nat} {next:Int} {ts ts1:List M.Table} {hs1:List (Value×Value)} {t1:M.Table} {a1 a2:Option Addr} {id m:Int} {r:M.Row} {f:Bool} {i1 i2:TypeInfo} (u11 u12 u13 u14 u15 u16 u17 u18 u19 u20 u21 u22 u23 u24 u25 u26 u27 u28 u29 u30 u31 u32 u33 u40 u41 u42 u43 u44 u45 u46 u47 u48 u49 u50 u51 u52 u53 u54 u55 u56 u57 u58 u59:Value)
  (hsb:sb<base) (hbw:base<=w.heap.size) (hat:ts1[i]?=some t1) (hlaw:∀(id:Int) (q:M.Row),M.putT id m q ts=ts1.set i ⟨m,t1.ids++[id],t1.rows++[q]⟩) (hmask:t1.mask=m) (hbut:But base sb w wc)
  (hrow:Blk wc w.heap.size 38 (rowC r)) (hlt:i<ts1.length) (hlen:hs1.length=ts1.length) (hbx:Blk wc sb 51 #[.slice (some ⟨g0,0,none⟩) ts1.length cap0,.int .i64 next]) (hg0:base<=g0) (hg1:g0<wc.heap.size)
  (TF:∀j:Nat,wc.frozen? ⟨g0,j,none⟩=false) (T1:wc.cell? ⟨g0,i*3+1,none⟩=some (Value.slice a1 t1.ids.length q1)) (T2:wc.cell? ⟨g0,i*3+2,none⟩=some (Value.slice a2 t1.rows.length q2))
  (e0:wc.cell? ⟨sb,0,none⟩=some (.slice (some ⟨g0,0,none⟩) ts1.length cap0)) (r0:wc.cell? ⟨w.heap.size,0,none⟩=some (.int .i64 r.X)) (r1:wc.cell? ⟨w.heap.size,1,none⟩=some (.int .i64 r.Y)) (r2:wc.cell? ⟨w.heap.size,2,none⟩=some (.int .i64 r.PX)) (r3:wc.cell? ⟨w.heap.size,3,none⟩=some (.int .i64 r.PY))
  (r4:wc.cell? ⟨w.heap.size,4,none⟩=some (.int .i64 r.W)) (r5:wc.cell? ⟨w.heap.size,5,none⟩=some (.int .i64 r.H)) (r6:wc.cell? ⟨w.heap.size,6,none⟩=some (.int .i64 r.M)) (r7:wc.cell? ⟨w.heap.size,7,none⟩=some (.int .i64 r.R))
  (hbase:base<=wc.heap.size) (hi1:Tryz.prog.info? 3=some i1) (hz10:i1.zero=some (.int .i64 0)) (hz11:i1.size=1) (hz12:i1.bytes=8) (hi2:Tryz.prog.info? 38=some i2) (hz20:i2.zero=some (rowV M.row0)) (hz21:i2.size=8) (hz22:i2.bytes=64)
  (S0:PutAt base wc (Value.slice a1 t1.ids.length q1,Value.slice a2 t1.rows.length q2) (t1.ids++[id]) (t1.rows++[r]) none none wc) (HOWN:Hid (OwnTabs wc base (.slice (some ⟨g0,0,none⟩) ts1.length cap0) ts1 hs1)) (HK:Hid (OwnTab wc base t1 (Value.slice a1 t1.ids.length q1,Value.slice a2 t1.rows.length q2))) (HP:Hid (hs1[i]?=some (Value.slice a1 t1.ids.length q1,Value.slice a2 t1.rows.length q2)))
  (HV:Hid ((Value.slice a1 t1.ids.length q1).ownBlock≠some g0/\(Value.slice a2 t1.rows.length q2).ownBlock≠some g0)) (HNE:∀g,(Value.slice a1 t1.ids.length q1).ownBlock=some g->(Value.slice a2 t1.rows.length q2).ownBlock≠some g) (HOLD1:∀g,(Value.slice a1 t1.ids.length q1).ownBlock=some g->g<wc.heap.size) (HOLD2:∀g,(Value.slice a2 t1.rows.length q2).ownBlock=some g->g<wc.heap.size)
  (HA1:∀g,wc.heap.size<=g->(Value.slice a1 t1.ids.length q1).ownBlock≠some g) (HA2:∀g,wc.heap.size<=g->(Value.slice a2 t1.rows.length q2).ownBlock≠some g) (HFR:Hid ((Value.slice a1 t1.ids.length q1).ownBlock≠some w.heap.size/\(Value.slice a2 t1.rows.length q2).ownBlock≠some w.heap.size)) (hf1:ts1.length<=1001) (hf2:t1.ids.length<=1000) (hf3:t1.rows.length<=1000) (lrc:w.heap.size<wc.heap.size):
  Code.wp Tryz.prog putLast (bodyPost Tryz.prog Tryz.f43 λe w'=>e=.returned (.tuple #[])/\∃vt' hs',Blk w' sb 51 #[vt',.int .i64 next]/\TabsAtH w' base vt' (M.putT id m r ts) hs'/\But base sb w w') ⟨#[.pointer (some ⟨sb,0,none⟩),.int .i64 id,.int .i64 m,rowV r,undef,undef,undef,.pointer (some ⟨w.heap.size,0,none⟩),.int .i64 i,.bool f,.pointer (some ⟨g0,i*3,none⟩),u11,u12,u13,u14,u15,u16,u17,u18,u19,u20,u21,u22,u23,u24,u25,u26,u27,u28,u29,u30,u31,u32,u33,.pointer (some ⟨sb,0,none⟩),.pointer (some ⟨sb,0,none⟩),.pointer (some ⟨sb,0,none⟩),.slice (some ⟨g0,0,none⟩) ts1.length cap0,.int .i64 i,.pointer (some ⟨g0,i*3,none⟩),u40,u41,u42,u43,u44,u45,u46,u47,u48,u49,u50,u51,u52,u53,u54,u55,u56,u57,u58,u59],[]⟩ wc:=by
 rw [putLast_is]
 refine wp_region_any kR ?_
 rw [putOps_size]
 have z:∀k,(Array.replicate 22 false).getD k false=false:=λk=>by
  by_cases hk:k<22<;>simp [Array.getD,hk]
 have no:∀{b:Bool} (q:Prop),b=false->b=true->q:=λq h1 h2=>by rw [h1] at h2;cases h2
 refine put_region (c:=⟨wc,base,g0,i,w.heap.size,id,r,t1,.slice a1 t1.ids.length q1,.slice a2 t1.rows.length q2⟩)
  ⟨hg1,lrc,hbase,TF,T1,T2,hrow,HK.out.ids,HK.out.rows,HV.out.1,HV.out.2,HFR.out.1,HFR.out.2,HNE,hf2,hf3⟩
  ⟨by simp,rfl,rfl,rfl,rfl,rfl,(λk j _ hl=>no _ (z k) hl),⟨0,0,undef,undef⟩,_,⟨(λk _ hl=>no _ (z k) hl),?_,(λhl=>no _ (z 7) hl),(λhl=>no _ (z 14) hl)⟩,.inl ⟨z 18,z 21,rfl⟩⟩ ?_
 ·rw [z,z]
  exact PutAt.step S0 (show Below wc.heap.size wc wc.drew from (Below.refl _ wc).drew)
 ·intro a' g W0 hd hp
  refine bodyPost_end (results_none rfl _ _ _) hd ?_
  obtain ⟨vt',f1,⟨hs',f2⟩,f3⟩:=put_fin2 HOWN.out hat HP.out hp hmask (hlaw id r) hbx hsb hbut (.inl rfl)
  exact ⟨rfl,vt',hs',f1,f2,f3⟩
theorem put_calls {w:World} {base sb:Nat} {vt:Value} {next:Int} {ts:List M.Table} {hs:List (Value×Value)} (h:OwnTabs w base vt ts hs) (hbox:Blk w sb 51 #[vt,.int .i64 next]) (hsb:sb<base) (hbw:base<=w.heap.size)
  (hmk:Masks ts) (hfew:Few ts) (id m:Int) (r:M.Row) (hm:0<=m/\m<=31):
  Calls Tryz.prog 43 #[.pointer (some ⟨sb,0,none⟩),.int .i64 id,.int .i64 m,rowV r] w λe w'=>e=.returned (.tuple #[])/\
   ∃vt' hs',Blk w' sb 51 #[vt',.int .i64 next]/\TabsAtH w' base vt' (M.putT id m r ts) hs'/\But base sb w w':=by
 have HO:=hI h
 have HS:=hI (λW (hb:Below w.heap.size w W)=>search_calls (h.tabs.below hb) hmk m hm (by have:=hfew.1;omega))
 obtain ⟨av,cv,rfl⟩:=own_form h.row
 have HFW:=hI hfew
 have HBX:=hI hbox
 have lsb:sb<w.heap.size:=by omega
 have c0:w.cell? ⟨sb,0,none⟩=some (.slice av ts.length cv):=hbox.cell 0
 have c1:w.cell? ⟨sb,1,none⟩=some (.int .i64 next):=hbox.cell 1
 have cf:=λi=>hbox.free i
 clear h hmk hfew hbox
 go_enter Tryz.func43,Tryz.ntmps43
 go_wp2_with fail
 refine (HS.out _ bel9).mono ?_
 rintro e w1 ⟨i,f,rfl,hst,hf,hb1⟩
 have HB1:Hid (Below w.heap.size w w1):=hI ((show Below w.heap.size w _ from bel9).trans (hb1.mono sS))
 have d0:=below_cell c0 HB1.out
 have d1:=below_cell c1 HB1.out
 have df:=λi=>(HB1.out.frozen (p:=⟨sb,i,none⟩) lsb).trans (cf i)
 have HST:=hI hst
 have HF:=hI hf
 have hz1:=HB1.out.size
 have hil:=hst.1
 have HRB:Hid (Blk w1 w.heap.size 38 (rowC r)):=hI ((Blk.new w 38 (rowC r)).below hb1 sS)
 have lr:=HRB.out.lt
 clear hst hf hb1 c0 c1 cf
 go_upto_if 21 with fail
 go_cut [] (λW=>∃vt1 ts1 hs1 t1,ReadyPut base sb next (λid q=>M.putT id m q ts) m i w.heap.size r w W vt1 ts1 hs1 t1)
 case first=>
  cases f
  ·have hne:=λhx=>(show ¬(∃t,ts[i]?=some t/\t.mask=m) from λhx2=>by have:=HF.out.2 hx2;simp at this) hx
   go_wp2_with fail
   have hown1:(w1.alloc (.cells #[.int .i64 m,.slice none 0 0,.slice none 0 0] 102)).ownsRow base 102 3 (.slice av ts.length cv) ts.length (tabL ts hs):=(own_below HO.out.row HB1.out).alloc _
   have hvb:(Value.slice av ts.length cv).ownBlock≠some w1.heap.size:=λe=>by have:=(HO.out.row.lt _ e).2;omega
   refine (insert_calls (i:=i) (news:=[.int .i64 m,.slice none 0 0,.slice none 0 0]) hown1 (by have:=HFW.out.1;omega) hil sO rfl (heap_alloc_new w1 _) hvb (by
    intro u hu
    simp only [List.mem_cons,List.not_mem_nil,or_false] at hu
    rcases hu with rfl|rfl|rfl<;>rfl) HO.out.one).mono ?_
   rintro e w2 ⟨v',rfl,hin⟩
   have hgr:=hin.2.1
   have hloc:=hin.2.2
   have hz2:=hgr.size
   simp only [World.size_alloc] at hz2 hloc
   have HN:Hid (OwnTabs w2 base v' (ts.take i++⟨m,[],[]⟩::ts.drop i) (hs.take i++nilP::hs.drop i)):=hI (own_insert HO.out hil (HB1.out.alloc bO _) hin)
   obtain ⟨av2,cv2,rfl⟩:=own_form hin.1
   have far:∀g,g<w.heap.size+1->(g<base\/w.heap.size<=g)->w2.heap[g]?=w1.heap[g]?:=λg h1 h2=>by
    rw [hgr.block g sO (λe=>by have:=HO.out.row.lt g e.symm;omega)]
    exact heap_alloc_old w1 _ bO
   have hbx2:Blk w2 sb 51 #[.slice av ts.length cv,.int .i64 next]:=(far sb bO (.inl hsb)).trans (HBX.out.below HB1.out lsb)
   have e0:w2.cell? ⟨sb,0,none⟩=some (.slice av ts.length cv):=hbx2.cell 0
   have e1:w2.cell? ⟨sb,1,none⟩=some (.int .i64 next):=hbx2.cell 1
   have ef:=λi=>hbx2.free i
   have HBX2:=hI hbx2
   have HBUT:Hid (But base sb w w2):=hI (((But.of_below HB1.out hbw).alloc bO _).grown hgr sO (λg hg=>(HO.out.row.lt g hg).1))
   have HR2:Hid (Blk w2 w.heap.size 38 (rowC r)):=hI ((far w.heap.size bO (.inr lR)).trans HRB.out)
   have HLOC:=hI hloc
   clear d0 d1 df hown1 hin hgr hloc far hbx2
   go_wp2_with fail
   go_meet
   refine ⟨_,_,_,⟨m,[],[]⟩,⟨HN.out.same lR (λg h1 h2=>bS _ _ _ _ sO),get_middle _ _ _ _ sO,λid q=>?_,rfl,⟨by have:=HFW.out.1;simp;omega,by simp,by simp⟩,
    HBX2.out.put 0 _,HBUT.out.setCell (.inr rfl) _,HR2.out.far sO _,λhm=>?_⟩⟩
   ·simp only [List.nil_append]
    rw [putT_new HST.out hne,set_middle _ _ _ _ _ sO]
   ·rcases mem_blks hm with e|⟨p,hp,e⟩
    ·rcases HLOC.out with k|⟨nb,k,k2⟩
     ·rw [k] at e
      have:=(HO.out.row.lt _ e).2
      omega
     ·rw [k] at e
      simp only [Option.some.injEq] at e
      omega
    ·have hp2:p∈hs\/p=nilP:=by
      rcases List.mem_append.1 hp with hp|hp
      ·exact .inl (List.mem_of_mem_take hp)
      ·rcases List.mem_cons.1 hp with hp|hp
       ·exact .inr hp
       ·exact .inl (List.mem_of_mem_drop hp)
     rcases hp2 with hp2|rfl
     ·have hmb:w.heap.size∈blks (.slice av ts.length cv) hs:=by
       unfold blks
       refine List.mem_filterMap.2 ?_
       rcases e with e|e
       ·exact ⟨p.1,List.mem_cons_of_mem _ (List.mem_flatMap.2 ⟨p,hp2,by simp⟩),e⟩
       ·exact ⟨p.2,List.mem_cons_of_mem _ (List.mem_flatMap.2 ⟨p,hp2,by simp⟩),e⟩
      have:=(HO.out.blk hmb).2
      omega
     ·rcases e with e|e<;>simp [nilP,Value.ownBlock] at e
  ·go_wp2_with fail
   go_meet
   obtain ⟨t,ht,hmt⟩:=HF.out.1 (by first|rfl|trivial)
   have hfw:=HFW.out.2 t (List.mem_of_getElem? ht)
   refine ⟨_,ts,hs,t,⟨HO.out.same lR (λg h1 h2=>HB1.out.block g h2),ht,λid q=>putT_found HST.out ht hmt id q,hmt,⟨by have:=HFW.out.1;omega,hfw.1,hfw.2⟩,HBX.out.below HB1.out lsb,But.of_below HB1.out hbw,HRB.out,λhm=>?_⟩⟩
   have:=(HO.out.blk hm).2
   omega
 case rest=>
  obtain ⟨vt1,ts1,hs1,t1,⟨hown,hat,hlaw,hmask,hfw,hbx,hbut,hrow,hfar⟩⟩:=hcut
  clear d0 d1 df HRB
  have hlt:=(List.getElem?_eq_some_iff.1 hat).1
  have hlen:=hown.len
  obtain ⟨⟨v1,v2⟩,hp⟩:∃p,hs1[i]?=some p:=⟨_,List.getElem?_eq_getElem bO⟩
  have hk:=hown.each i t1 (v1,v2) hat hp
  obtain ⟨g0,cap0,rfl,hg0,hg1⟩:=own_val hown.row bO
  obtain ⟨x0,x1,x2⟩:=tabL_at ts1 hs1 i hat hp
  have T1:=(hown.row.cellAt (i*3+1) bO).trans x1
  have T2:=(hown.row.cellAt (i*3+2) bO).trans x2
  have TF:=λj=>hown.row.frozenAt j
  obtain ⟨a1,q1,rfl⟩:∃a c,v1=.slice a t1.ids.length c:=own_form hk.ids
  obtain ⟨a2,q2,rfl⟩:∃a c,v2=.slice a t1.rows.length c:=own_form hk.rows
  have e0:wc.cell? ⟨sb,0,none⟩=some (.slice (some ⟨g0,0,none⟩) ts1.length cap0):=hbx.cell 0
  obtain ⟨r0,r1,r2,r3,r4,r5,r6,r7⟩:=row_at hrow
  have hbase:base<=wc.heap.size:=by have:=hbut.size;omega
  obtain ⟨i1,hi1,hz10,hz11,hz12⟩:=info_parts infoInt
  obtain ⟨i2,hi2,hz20,hz21,hz22⟩:=info_parts infoRow
  have S0:=PutAt.start base wc (.slice a1 t1.ids.length q1,.slice a2 t1.rows.length q2) (t1.ids++[id]) (t1.rows++[r])
  have HOWN:=hI hown
  have HK:=hI hk
  have HP:=hI hp
  have HV:Hid ((Value.slice a1 t1.ids.length q1).ownBlock≠some g0/\(Value.slice a2 t1.rows.length q2).ownBlock≠some g0):=hI (blks_vt hown.apart rfl (List.mem_of_getElem? hp))
  have HNE:∀g,(Value.slice a1 t1.ids.length q1).ownBlock=some g->(Value.slice a2 t1.rows.length q2).ownBlock≠some g:=λg hg=>blks_pair hown.apart hp hg
  have HOLD1:∀g,(Value.slice a1 t1.ids.length q1).ownBlock=some g->g<wc.heap.size:=λg hg=>(hk.ids.lt g hg).2
  have HOLD2:∀g,(Value.slice a2 t1.rows.length q2).ownBlock=some g->g<wc.heap.size:=λg hg=>(hk.rows.lt g hg).2
  have HA1:∀g,wc.heap.size<=g->(Value.slice a1 t1.ids.length q1).ownBlock≠some g:=λg hg e=>by have:=HOLD1 g e;omega
  have HA2:∀g,wc.heap.size<=g->(Value.slice a2 t1.rows.length q2).ownBlock≠some g:=λg hg e=>by have:=HOLD2 g e;omega
  have HFR:Hid ((Value.slice a1 t1.ids.length q1).ownBlock≠some w.heap.size/\(Value.slice a2 t1.rows.length q2).ownBlock≠some w.heap.size):=hI
   ⟨λe=>hfar (List.mem_filterMap.2 ⟨_,List.mem_cons_of_mem _ (List.mem_flatMap.2 ⟨_,List.mem_of_getElem? hp,by simp⟩),e⟩),λe=>hfar (List.mem_filterMap.2 ⟨_,List.mem_cons_of_mem _ (List.mem_flatMap.2 ⟨_,List.mem_of_getElem? hp,by simp⟩),e⟩)⟩
  have hf1:=hfw.1
  have hf2:=hfw.2.1
  have hf3:=hfw.2.2
  have lrc:=hrow.lt
  clear hown hk hp x0 x1 x2 hfar hfw
  go_upto_region 5 with fail
  exact put_last _ _ _ _ _ _ _ _ _ _ _ _ _ _ _ _ _ _ _ _ _ _ _ _ _ _ _ _ _ _ _ _ _ _ _ _ _ _ _ _ _ _ _ hsb hbw hat hlaw hmask hbut hrow hlt hlen hbx hg0 hg1 TF T1 T2 e0 r0 r1 r2 r3 r4 r5 r6 r7 hbase hi1 hz10 hz11 hz12 hi2 hz20 hz21 hz22 S0 HOWN HK HP HV HNE HOLD1 HOLD2 HA1 HA2 HFR hf1 hf2 hf3 lrc
end Go.Proofs.YtemkbjaojinaoaaGreat
