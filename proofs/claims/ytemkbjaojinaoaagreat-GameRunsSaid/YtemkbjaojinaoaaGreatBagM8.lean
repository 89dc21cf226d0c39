/- Several small texts in one. No condition of its own: each part says its own. -/
import Derived.Test.YtemkbjaojinaoaaGreatShort
import Derived.Test.YtemkbjaojinaoaaGreatBagM1
import Derived.Test.YtemkbjaojinaoaaGreatBagMb
import Derived.Test.YtemkbjaojinaoaaGreatBagM3
import Derived.Test.YtemkbjaojinaoaaGreatBagM6
set_option linter.unusedVariables false
set_option linter.unusedSimpArgs false
set_option maxRecDepth 100000
set_option maxHeartbeats 8000000
namespace Go.Proofs.YtemkbjaojinaoaaGreat
open Go.RowKit
noncomputable def stoC:Code:=((Tryz.f29.body.bind (regionOf 10)).getD .skip)
noncomputable def stoOps:Array Oper:=match stoC with
 | .region _ ops _=>ops
 |_=>#[]
theorem stoC_is:stoC=.region 10 stoOps true:=by kernel_rfl
theorem stoOps_size:stoOps.size=16:=by kernel_rfl
def stoSlot (k:Nat):Option Nat:=([some 60,some 61,some 62,some 63,some 64,some 65,some 66,some 67,some 68,some 69,some 70,some 71,none,some 72,some 73,none]:List (Option Nat)).getD k none
def stoVal (p6:Nat) (m:Int) (r:M.Row) (vx vy:Int) (gg:Unit) (k9:Nat):Value:=([.pointer (some ⟨p6,1,none⟩),.pointer (some ⟨p6,1,none⟩),.int .i64 r.X,.int .i64 vx,.int .i64 (M.add r.X vx 1048576),.pointer (some ⟨p6,1,none⟩),.pointer (some ⟨p6,2,none⟩),.int .i64 r.Y,.int .i64 vy,.int .i64 (M.add r.Y vy 1048576),.pointer (some ⟨p6,1,none⟩),.pointer (some ⟨p6,1,none⟩),undef,.pointer (some ⟨p6,1,none⟩),.pointer (some ⟨p6,2,none⟩),undef]:List Value).getD k9 undef
def stoNeeds (k:Nat):List Nat:=([[],[0],[1],[],[2,3],[],[5],[6],[],[7,8],[],[10],[4,11],[],[13],[9,14]]:List (List Nat)).getD k []
def stoMem (p6:Nat) (m:Int) (r:M.Row) (vx vy:Int) (W0:World) (gg:Unit) (ll:Array Bool) (W:World):Prop:=Blk W p6 83 #[.int .i64 m,.int .i64 (if ll.getD 12 false=true then (M.add r.X vx 1048576) else r.X),.int .i64 (if ll.getD 15 false=true then (M.add r.Y vy 1048576) else r.Y),.int .i64 r.PX,.int .i64 r.PY,.int .i64 r.W,.int .i64 r.H,.int .i64 r.M,.int .i64 r.R]/\FarO p6 W0 W
noncomputable def stoK (p6:Nat) (m:Int) (r:M.Row) (vx vy:Int) (a0:Act) (W0:World):DG (Unit):={P:=Tryz.prog,ops:=stoOps,a0:=a0,n:=16,slot:=stoSlot,val:=stoVal p6 m r vx vy,needs:=stoNeeds,mem:=stoMem p6 m r vx vy W0}
section
variable {p6:Nat} {m:Int} {r:M.Row} {vx vy:Int}
variable {a0 fr:Act} {W0 W:World} {Q:Exit->Act->World->Prop} {gg:Unit} {ll:Array Bool} {k:Nat}
structure stoOk (p6:Nat) (m:Int) (r:M.Row) (vx vy:Int) (a0:Act) (W0:World):Prop where
 h6:a0.eval (.tmp 6)=.pointer (some ⟨p6,0,none⟩)
 h7:a0.eval (.tmp 7)=.int .i64 vx
 h8:a0.eval (.tmp 8)=.int .i64 vy
theorem sto_v (F:(stoK p6 m r vx vy a0 W0).Facts k gg ll fr W) (j s:Nat) (h1:j∈stoNeeds k) (h2:stoSlot j=some s):fr.eval (.tmp s)=stoVal p6 m r vx vy gg j:=F.vals j s h1 h2
theorem sto_z (F:(stoK p6 m r vx vy a0 W0).Facts k gg ll fr W):ll.size=16:=F.size
theorem sto_keep (F:(stoK p6 m r vx vy a0 W0).Facts k gg ll fr W) (n12:k≠12) (n15:k≠15):stoMem p6 m r vx vy W0 gg (ll.setIfInBounds k true) W:=by
 have h9:stoMem p6 m r vx vy W0 gg ll W:=F.mem
 unfold stoMem at h9⊢
 rw [DG.set_ne n12,DG.set_ne n15]
 exact h9
theorem sto_x {p:Prop} (h:p:=by show Oper.wp Tryz.prog oo fr W K Q;unfold Oper.wp;(try simp only [stoK,stoVal,DG.gz,DG.gs] at e);simp only [execOp,hop,e,mA,mC,mN];go_simp;exact hK gg _ (λ_ _ _ _=>rfl) (sto_keep F dC dC)):p:=h
theorem sto_ok (ok:stoOk p6 m r vx vy a0 W0) (hz:a0.tmps.size=203):(stoK p6 m r vx vy a0 W0).Ok Q:=by
 refine DG.ok_of stoOps_size kR kR (by rfl) hz (by rfl) ?_
 ·intro k hk
  rcases (show k=0\/k=1\/k=2\/k=3\/k=4\/k=5\/k=6\/k=7\/k=8\/k=9\/k=10\/k=11\/k=12\/k=13\/k=14\/k=15 from by have k9:k<16:=hk;omega) with rfl|rfl|rfl|rfl|rfl|rfl|rfl|rfl|rfl|rfl|rfl|rfl|rfl|rfl|rfl|rfl
  ·exact .ofo 6 ok.h6 (x:=(.fieldAddr 83 (.tmp 6) 1,some 60)) (H:=λgg ll fr W F oo hop hd K hK e=>sto_x)
  ·exact .of1 0 60 (x:=(.fieldAddr 38 (.tmp 60) 0,some 61)) (H:=λgg ll fr W F oo hop hd K hK e=>sto_x)
  ·refine .of1 1 61 (x:=(.load 3 (.tmp 61),some 62)) (H:=λgg ll fr W F oo hop hd K hK e=>?_)
   have l12:ll.getD 12 false=false:=by
    cases hx:ll.getD 12 false with
    |false=>rfl
    |true=>have q:=(λh=>(F.closed 4 2 (show 2∈stoNeeds 4 from by decide) (F.closed 12 4 (show 4∈stoNeeds 12 from by decide) h))) hx;rw [F.not] at q;cases q
   obtain ⟨hb,hf⟩:=F.mem
   have u1:=hb.cell 1
   simp [l12] at u1
   exact sto_x
  ·exact .ofo 7 ok.h7 (x:=(.move (.tmp 7),some 63)) (H:=λgg ll fr W F oo hop hd K hK e=>sto_x)
  ·refine .of (x:=(.call {callee:=.value (.func 34),args:=#[.tmp 62,.tmp 63,.const (.int .i64 1048576)],argTypes:=#[3,3,3]},some 64)) kR λgg ll fr W F oo hop hd K hK=>?_
   have e2:=sto_v F 2 62 dC rfl
   have e3:=sto_v F 3 63 dC rfl
   simp only [stoVal,DG.gz,DG.gs] at e2 e3
   show oo.wp Tryz.prog fr W K Q
   unfold Oper.wp
   simp only [execOp,hop,e2,e3,mA,mC,mN]
   go_simp
   simp only [DG.tmps_eval,e2,e3]
   refine (addOf_calls _ _ _ W).mono ?_
   rintro e W2 ⟨rfl,rfl⟩
   exact hK gg _ (λ_ _ _ _=>rfl) (sto_keep F dC dC)
  ·exact .ofo 6 ok.h6 (x:=(.fieldAddr 83 (.tmp 6) 1,some 65)) (H:=λgg ll fr W F oo hop hd K hK e=>sto_x)
  ·exact .of1 5 65 (x:=(.fieldAddr 38 (.tmp 65) 1,some 66)) (H:=λgg ll fr W F oo hop hd K hK e=>sto_x)
  ·refine .of1 6 66 (x:=(.load 3 (.tmp 66),some 67)) (H:=λgg ll fr W F oo hop hd K hK e=>?_)
   have l15:ll.getD 15 false=false:=by
    cases hx:ll.getD 15 false with
    |false=>rfl
    |true=>have q:=(λh=>(F.closed 9 7 (show 7∈stoNeeds 9 from by decide) (F.closed 15 9 (show 9∈stoNeeds 15 from by decide) h))) hx;rw [F.not] at q;cases q
   obtain ⟨hb,hf⟩:=F.mem
   have u2:=hb.cell 2
   simp [l15] at u2
   exact sto_x
  ·exact .ofo 8 ok.h8 (x:=(.move (.tmp 8),some 68)) (H:=λgg ll fr W F oo hop hd K hK e=>sto_x)
  ·refine .of (x:=(.call {callee:=.value (.func 34),args:=#[.tmp 67,.tmp 68,.const (.int .i64 1048576)],argTypes:=#[3,3,3]},some 69)) kR λgg ll fr W F oo hop hd K hK=>?_
   have e7:=sto_v F 7 67 dC rfl
   have e8:=sto_v F 8 68 dC rfl
   simp only [stoVal,DG.gz,DG.gs] at e7 e8
   show oo.wp Tryz.prog fr W K Q
   unfold Oper.wp
   simp only [execOp,hop,e7,e8,mA,mC,mN]
   go_simp
   simp only [DG.tmps_eval,e7,e8]
   refine (addOf_calls _ _ _ W).mono ?_
   rintro e W2 ⟨rfl,rfl⟩
   exact hK gg _ (λ_ _ _ _=>rfl) (sto_keep F dC dC)
  ·exact .ofo 6 ok.h6 (x:=(.fieldAddr 83 (.tmp 6) 1,some 70)) (H:=λgg ll fr W F oo hop hd K hK e=>sto_x)
  ·exact .of1 10 70 (x:=(.fieldAddr 38 (.tmp 70) 0,some 71)) (H:=λgg ll fr W F oo hop hd K hK e=>sto_x)
  ·refine .of (x:=(.store 3 (.tmp 71) (.tmp 64),none)) kR λgg ll fr W F oo hop hd K hK=>?_
   have e4:=sto_v F 4 64 dC rfl
   have e11:=sto_v F 11 71 dC rfl
   simp only [stoVal,DG.gz,DG.gs] at e4 e11
   have hz:12<ll.size:=by rw [sto_z F];decide
   obtain ⟨hb,hf⟩:=F.mem
   have u1:=hb.cell 1
   simp at u1
   have fz:=λi=>hb.free i
   show oo.wp Tryz.prog fr W K Q
   unfold Oper.wp
   simp only [execOp,hop,e4,e11,mA,mC,mN]
   go_simp
   refine hK gg _ (λ_ _ _ _=>rfl) (show stoMem p6 m r vx vy W0 gg (ll.setIfInBounds 12 true) _ from ?_)
   unfold stoMem
   rw [DG.set_eq hz,DG.set_ne (i:=12) (k:=15) dC]
   exact ⟨blk_to (hb.put 1 _) sS,hf.set _ _⟩
  ·exact .ofo 6 ok.h6 (x:=(.fieldAddr 83 (.tmp 6) 1,some 72)) (H:=λgg ll fr W F oo hop hd K hK e=>sto_x)
  ·exact .of1 13 72 (x:=(.fieldAddr 38 (.tmp 72) 1,some 73)) (H:=λgg ll fr W F oo hop hd K hK e=>sto_x)
  ·refine .of (x:=(.store 3 (.tmp 73) (.tmp 69),none)) kR λgg ll fr W F oo hop hd K hK=>?_
   have e9:=sto_v F 9 69 dC rfl
   have e14:=sto_v F 14 73 dC rfl
   simp only [stoVal,DG.gz,DG.gs] at e9 e14
   have hz:15<ll.size:=by rw [sto_z F];decide
   obtain ⟨hb,hf⟩:=F.mem
   have u2:=hb.cell 2
   simp at u2
   have fz:=λi=>hb.free i
   show oo.wp Tryz.prog fr W K Q
   unfold Oper.wp
   simp only [execOp,hop,e9,e14,mA,mC,mN]
   go_simp
   refine hK gg _ (λ_ _ _ _=>rfl) (show stoMem p6 m r vx vy W0 gg (ll.setIfInBounds 15 true) _ from ?_)
   unfold stoMem
   rw [DG.set_eq hz,DG.set_ne (i:=15) (k:=12) dC]
   exact ⟨blk_to (hb.put 2 _) sS,hf.set _ _⟩
abbrev stoL (p6:Nat) (m:Int) (r:M.Row) (vx vy:Int) (gg:Unit):List (Nat×Value):=[(60,stoVal p6 m r vx vy gg 0),(61,stoVal p6 m r vx vy gg 1),(62,stoVal p6 m r vx vy gg 2),(63,stoVal p6 m r vx vy gg 3),(64,stoVal p6 m r vx vy gg 4),(65,stoVal p6 m r vx vy gg 5),(66,stoVal p6 m r vx vy gg 6),(67,stoVal p6 m r vx vy gg 7),(68,stoVal p6 m r vx vy gg 8),(69,stoVal p6 m r vx vy gg 9),(70,stoVal p6 m r vx vy gg 10),(71,stoVal p6 m r vx vy gg 11),(72,stoVal p6 m r vx vy gg 13),(73,stoVal p6 m r vx vy gg 14)]
theorem sto_region (ok:stoOk p6 m r vx vy a0 W0) (hz:a0.tmps.size=203) (hd:a0.defers=[]) (g0:Unit) (hm:stoMem p6 m r vx vy W0 g0 (Array.replicate 16 false) W)
  (hQ:∀(gg:Unit) (ll:Array Bool) (W':World),(∀k,k<16->ll.getD k false=true)->stoMem p6 m r vx vy W0 gg ll W'->Q .normal ⟨DG.setQ a0.tmps (stoL p6 m r vx vy gg),[]⟩ W'):
  wpAny Tryz.prog .any stoOps Q 16 (Array.replicate 16 false) a0 W:=
 DG.region2 (c:=stoK p6 m r vx vy a0 W0) (sto_ok ok hz) kR hd g0 hm (stoL p6 m r vx vy) (λ_=>rfl) hQ
end
noncomputable def stpC:Code:=((Tryz.f29.body.bind (regionOf 17)).getD .skip)
noncomputable def stpOps:Array Oper:=match stpC with
 | .region _ ops _=>ops
 |_=>#[]
theorem stpC_is:stpC=.region 17 stpOps true:=by kernel_rfl
theorem stpOps_size:stpOps.size=14:=by kernel_rfl
def stpSlot (k:Nat):Option Nat:=([some 87,some 88,some 89,some 90,some 91,some 92,some 93,some 94,some 95,some 96,some 12,some 13,none,none]:List (Option Nat)).getD k none
def stpVal (b c p1 p11:Nat) (f:Int->Option M.Th) (next fall wide high pa pb:Int) (ta tb:M.Th) (gg:(Nat×Nat)) (k9:Nat):Value:=([.pointer (some ⟨p1,0,none⟩),.map (some b),.pointer (some ⟨p11,0,none⟩),.int .i64 pa,thV ta,.pointer (some ⟨p1,0,none⟩),.map (some b),.pointer (some ⟨p11,1,none⟩),.int .i64 pb,thV tb,.pointer (some ⟨gg.1,0,none⟩),.pointer (some ⟨gg.2,0,none⟩),undef,undef]:List Value).getD k9 undef
def stpNeeds (k:Nat):List Nat:=([[],[0],[],[2],[1,3],[],[5],[],[7],[6,8],[],[],[4,10],[9,11]]:List (List Nat)).getD k []
def stpMem (b c p1 p11:Nat) (f:Int->Option M.Th) (next fall wide high pa pb:Int) (ta tb:M.Th) (W0:World) (gg:(Nat×Nat)) (ll:Array Bool) (W:World):Prop:=TwoBlk 83 (thC M.th0) (thC ta) (thC tb) 10 11 12 13 W0 gg ll W
noncomputable def stpK (b c p1 p11:Nat) (f:Int->Option M.Th) (next fall wide high pa pb:Int) (ta tb:M.Th) (a0:Act) (W0:World):DG ((Nat×Nat)):={P:=Tryz.prog,ops:=stpOps,a0:=a0,n:=14,slot:=stpSlot,val:=stpVal b c p1 p11 f next fall wide high pa pb ta tb,needs:=stpNeeds,mem:=stpMem b c p1 p11 f next fall wide high pa pb ta tb W0}
section
variable {b c p1 p11:Nat} {f:Int->Option M.Th} {next fall wide high pa pb:Int} {ta tb:M.Th}
variable {a0 fr:Act} {W0 W:World} {Q:Exit->Act->World->Prop} {gg:(Nat×Nat)} {ll:Array Bool} {k:Nat}
structure stpOk (b c p1 p11:Nat) (f:Int->Option M.Th) (next fall wide high pa pb:Int) (ta tb:M.Th) (a0:Act) (W0:World):Prop where
 h1:a0.eval (.tmp 1)=.pointer (some ⟨p1,0,none⟩)
 h11:a0.eval (.tmp 11)=.pointer (some ⟨p11,0,none⟩)
 bw:Blk W0 p1 46 #[.map (some b),.int .i64 next,.int .i64 fall,.int .i64 wide,.int .i64 high]
 bp:Blk W0 p11 71 #[.int .i64 pa,.int .i64 pb]
 map:MapA W0 b f c
 ia:I64 pa
 ib:I64 pb
 ta:(f pa).getD M.th0=ta
 tb:(f pb).getD M.th0=tb
theorem stp_v (F:(stpK b c p1 p11 f next fall wide high pa pb ta tb a0 W0).Facts k gg ll fr W) (j s:Nat) (h1:j∈stpNeeds k) (h2:stpSlot j=some s):fr.eval (.tmp s)=stpVal b c p1 p11 f next fall wide high pa pb ta tb gg j:=F.vals j s h1 h2
theorem stp_z (F:(stpK b c p1 p11 f next fall wide high pa pb ta tb a0 W0).Facts k gg ll fr W):ll.size=14:=F.size
theorem stp_keep (F:(stpK b c p1 p11 f next fall wide high pa pb ta tb a0 W0).Facts k gg ll fr W) (n10:k≠10) (n11:k≠11) (n12:k≠12) (n13:k≠13):stpMem b c p1 p11 f next fall wide high pa pb ta tb W0 gg (ll.setIfInBounds k true) W:=TwoBlk.keep F.mem n10 n11 n12 n13
theorem stp_x {p:Prop} (h:p:=by show Oper.wp Tryz.prog oo fr W K Q;unfold Oper.wp;(try simp only [stpK,stpVal,DG.gz,DG.gs] at e);simp only [execOp,hop,e,mA,mC,mN];go_simp;exact hK gg _ (λ_ _ _ _=>rfl) (stp_keep F dC dC dC dC)):p:=h
theorem stp_ok (ok:stpOk b c p1 p11 f next fall wide high pa pb ta tb a0 W0) (hz:a0.tmps.size=203):(stpK b c p1 p11 f next fall wide high pa pb ta tb a0 W0).Ok Q:=by
 refine DG.ok_of stpOps_size kR kR (by rfl) hz (by rfl) ?_
 ·intro k hk
  rcases (show k=0\/k=1\/k=2\/k=3\/k=4\/k=5\/k=6\/k=7\/k=8\/k=9\/k=10\/k=11\/k=12\/k=13 from by have k9:k<14:=hk;omega) with rfl|rfl|rfl|rfl|rfl|rfl|rfl|rfl|rfl|rfl|rfl|rfl|rfl|rfl
  ·exact .ofo 1 ok.h1 (x:=(.fieldAddr 46 (.tmp 1) 0,some 87)) (H:=λgg ll fr W F oo hop hd K hK e=>stp_x)
  ·refine .of1 0 87 (x:=(.load 44 (.tmp 87),some 88)) (H:=λgg ll fr W F oo hop hd K hK e=>?_)
   have hm:stpMem b c p1 p11 f next fall wide high pa pb ta tb W0 gg ll W:=F.mem
   have hbel:Below W0.heap.size W0 W:=hm.bel
   have hw:=ok.bw.below hbel ok.bw.lt
   have u0:=hw.cell 0
   simp at u0
   exact stp_x
  ·exact .ofo 11 ok.h11 (x:=(.fieldAddr 71 (.tmp 11) 0,some 89)) (H:=λgg ll fr W F oo hop hd K hK e=>stp_x)
  ·refine .of1 2 89 (x:=(.load 3 (.tmp 89),some 90)) (H:=λgg ll fr W F oo hop hd K hK e=>?_)
   have hm:stpMem b c p1 p11 f next fall wide high pa pb ta tb W0 gg ll W:=F.mem
   have hbel:Below W0.heap.size W0 W:=hm.bel
   have hp:=ok.bp.below hbel ok.bp.lt
   have u0:=hp.cell 0
   simp at u0
   exact stp_x
  ·refine .of (x:=(.lookup 44 (.tmp 88) (.tmp 90) false,some 91)) kR λgg ll fr W F oo hop hd K hK=>?_
   have e1:=stp_v F 1 88 dC rfl
   have e3:=stp_v F 3 90 dC rfl
   simp only [stpVal,DG.gz,DG.gs] at e1 e3
   have hm:stpMem b c p1 p11 f next fall wide high pa pb ta tb W0 gg ll W:=F.mem
   have hbel:Below W0.heap.size W0 W:=hm.bel
   have hmw:=ok.map.below hbel ok.map.lt
   have hget:=MapAt.get hmw Tryz.underlying3 Tryz.underlying44 (th_zero W) ok.ia
   rw [ok.ta] at hget
   show oo.wp Tryz.prog fr W K Q
   unfold Oper.wp
   simp only [execOp,hop,hget,Result.andThen,e1,e3,mA,mC,mN]
   go_simp
   exact hK gg _ (λ_ _ _ _=>rfl) (stp_keep F dC dC dC dC)
  ·exact .ofo 1 ok.h1 (x:=(.fieldAddr 46 (.tmp 1) 0,some 92)) (H:=λgg ll fr W F oo hop hd K hK e=>stp_x)
  ·refine .of1 5 92 (x:=(.load 44 (.tmp 92),some 93)) (H:=λgg ll fr W F oo hop hd K hK e=>?_)
   have hm:stpMem b c p1 p11 f next fall wide high pa pb ta tb W0 gg ll W:=F.mem
   have hbel:Below W0.heap.size W0 W:=hm.bel
   have hw:=ok.bw.below hbel ok.bw.lt
   have u0:=hw.cell 0
   simp at u0
   exact stp_x
  ·exact .ofo 11 ok.h11 (x:=(.fieldAddr 71 (.tmp 11) 1,some 94)) (H:=λgg ll fr W F oo hop hd K hK e=>stp_x)
  ·refine .of1 7 94 (x:=(.load 3 (.tmp 94),some 95)) (H:=λgg ll fr W F oo hop hd K hK e=>?_)
   have hm:stpMem b c p1 p11 f next fall wide high pa pb ta tb W0 gg ll W:=F.mem
   have hbel:Below W0.heap.size W0 W:=hm.bel
   have hp:=ok.bp.below hbel ok.bp.lt
   have u0:=hp.cell 1
   simp at u0
   exact stp_x
  ·refine .of (x:=(.lookup 44 (.tmp 93) (.tmp 95) false,some 96)) kR λgg ll fr W F oo hop hd K hK=>?_
   have e6:=stp_v F 6 93 dC rfl
   have e8:=stp_v F 8 95 dC rfl
   simp only [stpVal,DG.gz,DG.gs] at e6 e8
   have hm:stpMem b c p1 p11 f next fall wide high pa pb ta tb W0 gg ll W:=F.mem
   have hbel:Below W0.heap.size W0 W:=hm.bel
   have hmw:=ok.map.below hbel ok.map.lt
   have hget:=MapAt.get hmw Tryz.underlying3 Tryz.underlying44 (th_zero W) ok.ib
   rw [ok.tb] at hget
   show oo.wp Tryz.prog fr W K Q
   unfold Oper.wp
   simp only [execOp,hop,hget,Result.andThen,e6,e8,mA,mC,mN]
   go_simp
   exact hK gg _ (λ_ _ _ _=>rfl) (stp_keep F dC dC dC dC)
  ·refine .of (x:=(.alloc 83,some 12)) kR λgg ll fr W F oo hop hd K hK=>?_
   have hm:stpMem b c p1 p11 f next fall wide high pa pb ta tb W0 gg ll W:=F.mem
   show oo.wp Tryz.prog fr W K Q
   unfold Oper.wp
   simp only [execOp,hop,mA,mC,mN]
   go_simp
   refine hK (W.heap.size,gg.2) _ ?_ (show stpMem b c p1 p11 f next fall wide high pa pb ta tb W0 (W.heap.size,gg.2) (ll.setIfInBounds 10 true) _ from TwoBlk.make1 hm ?_ dC dC dC)
   ·intro j hj hne hl
    have hj':j<14:=hj
    rcases (by omega:j=0\/j=1\/j=2\/j=3\/j=4\/j=5\/j=6\/j=7\/j=8\/j=9\/j=10\/j=11\/j=12\/j=13) with rfl|rfl|rfl|rfl|rfl|rfl|rfl|rfl|rfl|rfl|rfl|rfl|rfl|rfl<;>first|rfl|exact absurd rfl hne
   ·cases hx:ll.getD 12 false with
    |false=>rfl
    |true=>have q:=F.closed 12 10 (show 10∈stpNeeds 12 from by decide) hx;rw [F.not] at q;cases q
  ·refine .of (x:=(.alloc 83,some 13)) kR λgg ll fr W F oo hop hd K hK=>?_
   have hm:stpMem b c p1 p11 f next fall wide high pa pb ta tb W0 gg ll W:=F.mem
   show oo.wp Tryz.prog fr W K Q
   unfold Oper.wp
   simp only [execOp,hop,mA,mC,mN]
   go_simp
   refine hK (gg.1,W.heap.size) _ ?_ (show stpMem b c p1 p11 f next fall wide high pa pb ta tb W0 (gg.1,W.heap.size) (ll.setIfInBounds 11 true) _ from TwoBlk.make2 hm ?_ dC dC dC)
   ·intro j hj hne hl
    have hj':j<14:=hj
    rcases (by omega:j=0\/j=1\/j=2\/j=3\/j=4\/j=5\/j=6\/j=7\/j=8\/j=9\/j=10\/j=11\/j=12\/j=13) with rfl|rfl|rfl|rfl|rfl|rfl|rfl|rfl|rfl|rfl|rfl|rfl|rfl|rfl<;>first|rfl|exact absurd rfl hne
   ·cases hx:ll.getD 13 false with
    |false=>rfl
    |true=>have q:=F.closed 13 11 (show 11∈stpNeeds 13 from by decide) hx;rw [F.not] at q;cases q
  ·refine .of (x:=(.store 83 (.tmp 12) (.tmp 91),none)) kR λgg ll fr W F oo hop hd K hK=>?_
   have e4:=stp_v F 4 91 dC rfl
   have e10:=stp_v F 10 12 dC rfl
   simp only [stpVal,DG.gz,DG.gs] at e4 e10
   have hm:stpMem b c p1 p11 f next fall wide high pa pb ta tb W0 gg ll W:=F.mem
   have hz:12<ll.size:=by rw [stp_z F];decide
   have lm:ll.getD 10 false=true:=F.listed 10 (show 10∈stpNeeds 12 from by decide)
   have hb9:=(hm.one lm).2
   rw [show ll.getD 12 false=false from F.not,if_neg sS] at hb9
   have u0:=hb9.cell 0
   have u1:=hb9.cell 1
   have u2:=hb9.cell 2
   have u3:=hb9.cell 3
   have u4:=hb9.cell 4
   have u5:=hb9.cell 5
   have u6:=hb9.cell 6
   have u7:=hb9.cell 7
   have u8:=hb9.cell 8
   simp at u0 u1 u2 u3 u4 u5 u6 u7 u8
   have fz:=λi=>hb9.free i
   show oo.wp Tryz.prog fr W K Q
   unfold Oper.wp
   simp only [execOp,hop,e4,e10,mA,mC,mN]
   go_simp
   exact hK gg _ (λ_ _ _ _=>rfl) (show stpMem b c p1 p11 f next fall wide high pa pb ta tb W0 gg (ll.setIfInBounds 12 true) _ from TwoBlk.fill1 hm lm hz dC dC dC ((((((((((FarO.refl _ _).set _ _).set _ _).set _ _).set _ _).set _ _).set _ _).set _ _).set _ _).set _ _) (blk_to (((((((((hb9.put 0 _).put 1 _).put 2 _).put 3 _).put 4 _).put 5 _).put 6 _).put 7 _).put 8 _) sS))
  ·refine .of (x:=(.store 83 (.tmp 13) (.tmp 96),none)) kR λgg ll fr W F oo hop hd K hK=>?_
   have e9:=stp_v F 9 96 dC rfl
   have e11:=stp_v F 11 13 dC rfl
   simp only [stpVal,DG.gz,DG.gs] at e9 e11
   have hm:stpMem b c p1 p11 f next fall wide high pa pb ta tb W0 gg ll W:=F.mem
   have hz:13<ll.size:=by rw [stp_z F];decide
   have lm:ll.getD 11 false=true:=F.listed 11 (show 11∈stpNeeds 13 from by decide)
   have hb9:=(hm.two lm).2
   rw [show ll.getD 13 false=false from F.not,if_neg sS] at hb9
   have u0:=hb9.cell 0
   have u1:=hb9.cell 1
   have u2:=hb9.cell 2
   have u3:=hb9.cell 3
   have u4:=hb9.cell 4
   have u5:=hb9.cell 5
   have u6:=hb9.cell 6
   have u7:=hb9.cell 7
   have u8:=hb9.cell 8
   simp at u0 u1 u2 u3 u4 u5 u6 u7 u8
   have fz:=λi=>hb9.free i
   show oo.wp Tryz.prog fr W K Q
   unfold Oper.wp
   simp only [execOp,hop,e9,e11,mA,mC,mN]
   go_simp
   exact hK gg _ (λ_ _ _ _=>rfl) (show stpMem b c p1 p11 f next fall wide high pa pb ta tb W0 gg (ll.setIfInBounds 13 true) _ from TwoBlk.fill2 hm lm hz dC dC dC ((((((((((FarO.refl _ _).set _ _).set _ _).set _ _).set _ _).set _ _).set _ _).set _ _).set _ _).set _ _) (blk_to (((((((((hb9.put 0 _).put 1 _).put 2 _).put 3 _).put 4 _).put 5 _).put 6 _).put 7 _).put 8 _) sS))
abbrev stpL (b c p1 p11:Nat) (f:Int->Option M.Th) (next fall wide high pa pb:Int) (ta tb:M.Th) (gg:(Nat×Nat)):List (Nat×Value):=[(87,stpVal b c p1 p11 f next fall wide high pa pb ta tb gg 0),(88,stpVal b c p1 p11 f next fall wide high pa pb ta tb gg 1),(89,stpVal b c p1 p11 f next fall wide high pa pb ta tb gg 2),(90,stpVal b c p1 p11 f next fall wide high pa pb ta tb gg 3),(91,stpVal b c p1 p11 f next fall wide high pa pb ta tb gg 4),(92,stpVal b c p1 p11 f next fall wide high pa pb ta tb gg 5),(93,stpVal b c p1 p11 f next fall wide high pa pb ta tb gg 6),(94,stpVal b c p1 p11 f next fall wide high pa pb ta tb gg 7),(95,stpVal b c p1 p11 f next fall wide high pa pb ta tb gg 8),(96,stpVal b c p1 p11 f next fall wide high pa pb ta tb gg 9),(12,stpVal b c p1 p11 f next fall wide high pa pb ta tb gg 10),(13,stpVal b c p1 p11 f next fall wide high pa pb ta tb gg 11)]
theorem stp_region (ok:stpOk b c p1 p11 f next fall wide high pa pb ta tb a0 W0) (hz:a0.tmps.size=203) (hd:a0.defers=[]) (g0:(Nat×Nat)) (hm:stpMem b c p1 p11 f next fall wide high pa pb ta tb W0 g0 (Array.replicate 14 false) W)
  (hQ:∀(gg:(Nat×Nat)) (ll:Array Bool) (W':World),(∀k,k<14->ll.getD k false=true)->stpMem b c p1 p11 f next fall wide high pa pb ta tb W0 gg ll W'->Q .normal ⟨DG.setQ a0.tmps (stpL b c p1 p11 f next fall wide high pa pb ta tb gg),[]⟩ W'):
  wpAny Tryz.prog .any stpOps Q 14 (Array.replicate 14 false) a0 W:=
 DG.region2 (c:=stpK b c p1 p11 f next fall wide high pa pb ta tb a0 W0) (stp_ok ok hz) kR hd g0 hm (stpL b c p1 p11 f next fall wide high pa pb ta tb) (λ_=>rfl) hQ
end
noncomputable def stqC:Code:=((Tryz.f29.body.bind (regionOf 19)).getD .skip)
noncomputable def stqOps:Array Oper:=match stqC with
 | .region _ ops _=>ops
 |_=>#[]
theorem stqC_is:stqC=.region 19 stqOps true:=by kernel_rfl
theorem stqOps_size:stqOps.size=16:=by kernel_rfl
def stqSlot (k:Nat):Option Nat:=([some 98,some 99,some 100,some 101,some 102,some 103,some 104,some 97,some 105,some 106,some 107,some 15,some 16,none,none,some 17]:List (Option Nat)).getD k none
def stqVal (p12 p13:Nat) (ta tb:M.Th) (gg:(Nat×Nat)) (k9:Nat):Value:=([.func (.func 59) #[] #[],thV ta,rowV (M.freeRow ta.1 ta.2),.func (.func 59) #[] #[],thV tb,rowV (M.freeRow tb.1 tb.2),.tuple #[rowV (M.meet (M.freeRow ta.1 ta.2) (M.freeRow tb.1 tb.2)).1,rowV (M.meet (M.freeRow ta.1 ta.2) (M.freeRow tb.1 tb.2)).2,.bool (M.meets (M.freeRow ta.1 ta.2) (M.freeRow tb.1 tb.2))],.tuple #[rowV (M.meet (M.freeRow ta.1 ta.2) (M.freeRow tb.1 tb.2)).1,rowV (M.meet (M.freeRow ta.1 ta.2) (M.freeRow tb.1 tb.2)).2,.bool (M.meets (M.freeRow ta.1 ta.2) (M.freeRow tb.1 tb.2))],rowV (M.meet (M.freeRow ta.1 ta.2) (M.freeRow tb.1 tb.2)).1,rowV (M.meet (M.freeRow ta.1 ta.2) (M.freeRow tb.1 tb.2)).2,.bool (M.meets (M.freeRow ta.1 ta.2) (M.freeRow tb.1 tb.2)),.pointer (some ⟨gg.1,0,none⟩),.pointer (some ⟨gg.2,0,none⟩),undef,undef,.bool (M.meets (M.freeRow ta.1 ta.2) (M.freeRow tb.1 tb.2))]:List Value).getD k9 undef
def stqNeeds (k:Nat):List Nat:=([[],[],[0,1],[],[],[3,4],[2,5],[6],[7],[7],[7],[],[],[8,11],[9,12],[10]]:List (List Nat)).getD k []
def stqMem (p12 p13:Nat) (ta tb:M.Th) (W0:World) (gg:(Nat×Nat)) (ll:Array Bool) (W:World):Prop:=TwoBlk 38 (rowC M.row0) (rowC (M.meet (M.freeRow ta.1 ta.2) (M.freeRow tb.1 tb.2)).1) (rowC (M.meet (M.freeRow ta.1 ta.2) (M.freeRow tb.1 tb.2)).2) 11 12 13 14 W0 gg ll W
noncomputable def stqK (p12 p13:Nat) (ta tb:M.Th) (a0:Act) (W0:World):DG ((Nat×Nat)):={P:=Tryz.prog,ops:=stqOps,a0:=a0,n:=16,slot:=stqSlot,val:=stqVal p12 p13 ta tb,needs:=stqNeeds,mem:=stqMem p12 p13 ta tb W0}
section
variable {p12 p13:Nat} {ta tb:M.Th}
variable {a0 fr:Act} {W0 W:World} {Q:Exit->Act->World->Prop} {gg:(Nat×Nat)} {ll:Array Bool} {k:Nat}
structure stqOk (p12 p13:Nat) (ta tb:M.Th) (a0:Act) (W0:World):Prop where
 h12:a0.eval (.tmp 12)=.pointer (some ⟨p12,0,none⟩)
 h13:a0.eval (.tmp 13)=.pointer (some ⟨p13,0,none⟩)
 h14:a0.eval (.tmp 14)=.func (.func 59) #[] #[]
 ba:Blk W0 p12 83 (thC ta)
 bb:Blk W0 p13 83 (thC tb)
 a0:0<=ta.1
 a1:ta.1<=31
 b0:0<=tb.1
 b1:tb.1<=31
theorem stq_v (F:(stqK p12 p13 ta tb a0 W0).Facts k gg ll fr W) (j s:Nat) (h1:j∈stqNeeds k) (h2:stqSlot j=some s):fr.eval (.tmp s)=stqVal p12 p13 ta tb gg j:=F.vals j s h1 h2
theorem stq_z (F:(stqK p12 p13 ta tb a0 W0).Facts k gg ll fr W):ll.size=16:=F.size
theorem stq_keep (F:(stqK p12 p13 ta tb a0 W0).Facts k gg ll fr W) (n11:k≠11) (n12:k≠12) (n13:k≠13) (n14:k≠14):stqMem p12 p13 ta tb W0 gg (ll.setIfInBounds k true) W:=TwoBlk.keep F.mem n11 n12 n13 n14
theorem stq_x {p:Prop} (h:p:=by show Oper.wp Tryz.prog oo fr W K Q;unfold Oper.wp;(try simp only [stqK,stqVal,DG.gz,DG.gs] at e);simp only [execOp,hop,e,mA,mC,mN];go_simp;exact hK gg _ (λ_ _ _ _=>rfl) (stq_keep F dC dC dC dC)):p:=h
theorem stq_ok (ok:stqOk p12 p13 ta tb a0 W0) (hz:a0.tmps.size=203):(stqK p12 p13 ta tb a0 W0).Ok Q:=by
 refine DG.ok_of stqOps_size kR kR (by rfl) hz (by rfl) ?_
 ·intro k hk
  rcases (show k=0\/k=1\/k=2\/k=3\/k=4\/k=5\/k=6\/k=7\/k=8\/k=9\/k=10\/k=11\/k=12\/k=13\/k=14\/k=15 from by have k9:k<16:=hk;omega) with rfl|rfl|rfl|rfl|rfl|rfl|rfl|rfl|rfl|rfl|rfl|rfl|rfl|rfl|rfl|rfl
  ·exact .ofo 14 ok.h14 (x:=(.move (.tmp 14),some 98)) (H:=λgg ll fr W F oo hop hd K hK e=>stq_x)
  ·refine .ofo 12 ok.h12 (x:=(.load 83 (.tmp 12),some 99)) (H:=λgg ll fr W F oo hop hd K hK e=>?_)
   have hm:stqMem p12 p13 ta tb W0 gg ll W:=F.mem
   have hbel:Below W0.heap.size W0 W:=hm.bel
   have hw:=ok.ba.below hbel ok.ba.lt
   have u0:=hw.cell 0
   have u1:=hw.cell 1
   have u2:=hw.cell 2
   have u3:=hw.cell 3
   have u4:=hw.cell 4
   have u5:=hw.cell 5
   have u6:=hw.cell 6
   have u7:=hw.cell 7
   have u8:=hw.cell 8
   simp at u0 u1 u2 u3 u4 u5 u6 u7 u8
   exact stq_x
  ·refine .of (x:=(.call {callee:=.value (.tmp 98),args:=#[.tmp 99],argTypes:=#[83]},some 100)) kR λgg ll fr W F oo hop hd K hK=>?_
   have e0:=stq_v F 0 98 dC rfl
   have e1:=stq_v F 1 99 dC rfl
   simp only [stqVal,DG.gz,DG.gs] at e0 e1
   have hm:stqMem p12 p13 ta tb W0 gg ll W:=F.mem
   show oo.wp Tryz.prog fr W K Q
   unfold Oper.wp
   simp only [execOp,hop,resolve,e0,e1,mA,mC,mN]
   go_simp
   try simp only [DG.tmps_eval,e1]
   refine (free_calls ok.a0 ok.a1 ta.2 W).mono ?_
   rintro e W2 ⟨rfl,hb2⟩
   exact hK gg _ (λ_ _ _ _=>rfl) (show stqMem p12 p13 ta tb W0 gg (ll.setIfInBounds 2 true) W2 from TwoBlk.more hm hb2 dC dC dC dC)
  ·exact .ofo 14 ok.h14 (x:=(.move (.tmp 14),some 101)) (H:=λgg ll fr W F oo hop hd K hK e=>stq_x)
  ·refine .ofo 13 ok.h13 (x:=(.load 83 (.tmp 13),some 102)) (H:=λgg ll fr W F oo hop hd K hK e=>?_)
   have hm:stqMem p12 p13 ta tb W0 gg ll W:=F.mem
   have hbel:Below W0.heap.size W0 W:=hm.bel
   have hw:=ok.bb.below hbel ok.bb.lt
   have u0:=hw.cell 0
   have u1:=hw.cell 1
   have u2:=hw.cell 2
   have u3:=hw.cell 3
   have u4:=hw.cell 4
   have u5:=hw.cell 5
   have u6:=hw.cell 6
   have u7:=hw.cell 7
   have u8:=hw.cell 8
   simp at u0 u1 u2 u3 u4 u5 u6 u7 u8
   exact stq_x
  ·refine .of (x:=(.call {callee:=.value (.tmp 101),args:=#[.tmp 102],argTypes:=#[83]},some 103)) kR λgg ll fr W F oo hop hd K hK=>?_
   have e3:=stq_v F 3 101 dC rfl
   have e4:=stq_v F 4 102 dC rfl
   simp only [stqVal,DG.gz,DG.gs] at e3 e4
   have hm:stqMem p12 p13 ta tb W0 gg ll W:=F.mem
   show oo.wp Tryz.prog fr W K Q
   unfold Oper.wp
   simp only [execOp,hop,resolve,e3,e4,mA,mC,mN]
   go_simp
   try simp only [DG.tmps_eval,e4]
   refine (free_calls ok.b0 ok.b1 tb.2 W).mono ?_
   rintro e W2 ⟨rfl,hb2⟩
   exact hK gg _ (λ_ _ _ _=>rfl) (show stqMem p12 p13 ta tb W0 gg (ll.setIfInBounds 5 true) W2 from TwoBlk.more hm hb2 dC dC dC dC)
  ·refine .of (x:=(.call {callee:=.value (.func 60),args:=#[.tmp 100,.tmp 103],argTypes:=#[38,38]},some 104)) kR λgg ll fr W F oo hop hd K hK=>?_
   have e2:=stq_v F 2 100 dC rfl
   have e5:=stq_v F 5 103 dC rfl
   simp only [stqVal,DG.gz,DG.gs] at e2 e5
   have hm:stqMem p12 p13 ta tb W0 gg ll W:=F.mem
   show oo.wp Tryz.prog fr W K Q
   unfold Oper.wp
   simp only [execOp,hop,e2,e5,mA,mC,mN]
   go_simp
   simp only [DG.tmps_eval,e2,e5]
   refine (meetRows_calls _ _ W).mono ?_
   rintro e W2 ⟨rfl,hb2⟩
   exact hK gg _ (λ_ _ _ _=>rfl) (show stqMem p12 p13 ta tb W0 gg (ll.setIfInBounds 6 true) W2 from TwoBlk.more hm hb2 dC dC dC dC)
  ·exact .of1 6 104 (x:=(.move (.tmp 104),some 97)) (H:=λgg ll fr W F oo hop hd K hK e=>stq_x)
  ·exact .of1 7 97 (x:=(.extract (.tmp 97) 0,some 105)) (H:=λgg ll fr W F oo hop hd K hK e=>stq_x)
  ·exact .of1 7 97 (x:=(.extract (.tmp 97) 1,some 106)) (H:=λgg ll fr W F oo hop hd K hK e=>stq_x)
  ·exact .of1 7 97 (x:=(.extract (.tmp 97) 2,some 107)) (H:=λgg ll fr W F oo hop hd K hK e=>stq_x)
  ·refine .of (x:=(.alloc 38,some 15)) kR λgg ll fr W F oo hop hd K hK=>?_
   have hm:stqMem p12 p13 ta tb W0 gg ll W:=F.mem
   show oo.wp Tryz.prog fr W K Q
   unfold Oper.wp
   simp only [execOp,hop,mA,mC,mN]
   go_simp
   refine hK (W.heap.size,gg.2) _ ?_ (show stqMem p12 p13 ta tb W0 (W.heap.size,gg.2) (ll.setIfInBounds 11 true) _ from TwoBlk.make1 hm ?_ dC dC dC)
   ·intro j hj hne hl
    have hj':j<16:=hj
    rcases (by omega:j=0\/j=1\/j=2\/j=3\/j=4\/j=5\/j=6\/j=7\/j=8\/j=9\/j=10\/j=11\/j=12\/j=13\/j=14\/j=15) with rfl|rfl|rfl|rfl|rfl|rfl|rfl|rfl|rfl|rfl|rfl|rfl|rfl|rfl|rfl|rfl<;>first|rfl|exact absurd rfl hne
   ·cases hx:ll.getD 13 false with
    |false=>rfl
    |true=>have q:=F.closed 13 11 (show 11∈stqNeeds 13 from by decide) hx;rw [F.not] at q;cases q
  ·refine .of (x:=(.alloc 38,some 16)) kR λgg ll fr W F oo hop hd K hK=>?_
   have hm:stqMem p12 p13 ta tb W0 gg ll W:=F.mem
   show oo.wp Tryz.prog fr W K Q
   unfold Oper.wp
   simp only [execOp,hop,mA,mC,mN]
   go_simp
   refine hK (gg.1,W.heap.size) _ ?_ (show stqMem p12 p13 ta tb W0 (gg.1,W.heap.size) (ll.setIfInBounds 12 true) _ from TwoBlk.make2 hm ?_ dC dC dC)
   ·intro j hj hne hl
    have hj':j<16:=hj
    rcases (by omega:j=0\/j=1\/j=2\/j=3\/j=4\/j=5\/j=6\/j=7\/j=8\/j=9\/j=10\/j=11\/j=12\/j=13\/j=14\/j=15) with rfl|rfl|rfl|rfl|rfl|rfl|rfl|rfl|rfl|rfl|rfl|rfl|rfl|rfl|rfl|rfl<;>first|rfl|exact absurd rfl hne
   ·cases hx:ll.getD 14 false with
    |false=>rfl
    |true=>have q:=F.closed 14 12 (show 12∈stqNeeds 14 from by decide) hx;rw [F.not] at q;cases q
  ·refine .of (x:=(.store 38 (.tmp 15) (.tmp 105),none)) kR λgg ll fr W F oo hop hd K hK=>?_
   have e8:=stq_v F 8 105 dC rfl
   have e11:=stq_v F 11 15 dC rfl
   simp only [stqVal,DG.gz,DG.gs] at e8 e11
   have hm:stqMem p12 p13 ta tb W0 gg ll W:=F.mem
   have hz:13<ll.size:=by rw [stq_z F];decide
   have lm:ll.getD 11 false=true:=F.listed 11 (show 11∈stqNeeds 13 from by decide)
   have hb9:=(hm.one lm).2
   rw [show ll.getD 13 false=false from F.not,if_neg sS] at hb9
   have u0:=hb9.cell 0
   have u1:=hb9.cell 1
   have u2:=hb9.cell 2
   have u3:=hb9.cell 3
   have u4:=hb9.cell 4
   have u5:=hb9.cell 5
   have u6:=hb9.cell 6
   have u7:=hb9.cell 7
   simp at u0 u1 u2 u3 u4 u5 u6 u7
   have fz:=λi=>hb9.free i
   show oo.wp Tryz.prog fr W K Q
   unfold Oper.wp
   simp only [execOp,hop,e8,e11,mA,mC,mN]
   go_simp
   exact hK gg _ (λ_ _ _ _=>rfl) (show stqMem p12 p13 ta tb W0 gg (ll.setIfInBounds 13 true) _ from TwoBlk.fill1 hm lm hz dC dC dC (((((((((FarO.refl _ _).set _ _).set _ _).set _ _).set _ _).set _ _).set _ _).set _ _).set _ _) (blk_to ((((((((hb9.put 0 _).put 1 _).put 2 _).put 3 _).put 4 _).put 5 _).put 6 _).put 7 _) sS))
  ·refine .of (x:=(.store 38 (.tmp 16) (.tmp 106),none)) kR λgg ll fr W F oo hop hd K hK=>?_
   have e9:=stq_v F 9 106 dC rfl
   have e12:=stq_v F 12 16 dC rfl
   simp only [stqVal,DG.gz,DG.gs] at e9 e12
   have hm:stqMem p12 p13 ta tb W0 gg ll W:=F.mem
   have hz:14<ll.size:=by rw [stq_z F];decide
   have lm:ll.getD 12 false=true:=F.listed 12 (show 12∈stqNeeds 14 from by decide)
   have hb9:=(hm.two lm).2
   rw [show ll.getD 14 false=false from F.not,if_neg sS] at hb9
   have u0:=hb9.cell 0
   have u1:=hb9.cell 1
   have u2:=hb9.cell 2
   have u3:=hb9.cell 3
   have u4:=hb9.cell 4
   have u5:=hb9.cell 5
   have u6:=hb9.cell 6
   have u7:=hb9.cell 7
   simp at u0 u1 u2 u3 u4 u5 u6 u7
   have fz:=λi=>hb9.free i
   show oo.wp Tryz.prog fr W K Q
   unfold Oper.wp
   simp only [execOp,hop,e9,e12,mA,mC,mN]
   go_simp
   exact hK gg _ (λ_ _ _ _=>rfl) (show stqMem p12 p13 ta tb W0 gg (ll.setIfInBounds 14 true) _ from TwoBlk.fill2 hm lm hz dC dC dC (((((((((FarO.refl _ _).set _ _).set _ _).set _ _).set _ _).set _ _).set _ _).set _ _).set _ _) (blk_to ((((((((hb9.put 0 _).put 1 _).put 2 _).put 3 _).put 4 _).put 5 _).put 6 _).put 7 _) sS))
  ·exact .of1 10 107 (x:=(.assign (.tmp 107),some 17)) (H:=λgg ll fr W F oo hop hd K hK e=>stq_x)
abbrev stqL (p12 p13:Nat) (ta tb:M.Th) (gg:(Nat×Nat)):List (Nat×Value):=[(98,stqVal p12 p13 ta tb gg 0),(99,stqVal p12 p13 ta tb gg 1),(100,stqVal p12 p13 ta tb gg 2),(101,stqVal p12 p13 ta tb gg 3),(102,stqVal p12 p13 ta tb gg 4),(103,stqVal p12 p13 ta tb gg 5),(104,stqVal p12 p13 ta tb gg 6),(97,stqVal p12 p13 ta tb gg 7),(105,stqVal p12 p13 ta tb gg 8),(106,stqVal p12 p13 ta tb gg 9),(107,stqVal p12 p13 ta tb gg 10),(15,stqVal p12 p13 ta tb gg 11),(16,stqVal p12 p13 ta tb gg 12),(17,stqVal p12 p13 ta tb gg 15)]
theorem stq_region (ok:stqOk p12 p13 ta tb a0 W0) (hz:a0.tmps.size=203) (hd:a0.defers=[]) (g0:(Nat×Nat)) (hm:stqMem p12 p13 ta tb W0 g0 (Array.replicate 16 false) W)
  (hQ:∀(gg:(Nat×Nat)) (ll:Array Bool) (W':World),(∀k,k<16->ll.getD k false=true)->stqMem p12 p13 ta tb W0 gg ll W'->Q .normal ⟨DG.setQ a0.tmps (stqL p12 p13 ta tb gg),[]⟩ W'):
  wpAny Tryz.prog .any stqOps Q 16 (Array.replicate 16 false) a0 W:=
 DG.region2 (c:=stqK p12 p13 ta tb a0 W0) (stq_ok ok hz) kR hd g0 hm (stqL p12 p13 ta tb) (λ_=>rfl) hQ
end
end Go.Proofs.YtemkbjaojinaoaaGreat
