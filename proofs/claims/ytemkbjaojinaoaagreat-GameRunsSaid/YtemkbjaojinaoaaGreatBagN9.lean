/- Several small texts in one. No condition of its own: each part says its own. -/
import Derived.Test.YtemkbjaojinaoaaGreatShort
import Derived.Test.YtemkbjaojinaoaaGreatBagN4
set_option linter.unusedVariables false
set_option linter.unusedSimpArgs false
set_option maxRecDepth 100000
set_option maxHeartbeats 8000000
namespace Go.Proofs.YtemkbjaojinaoaaGreat
open Go.RowKit
noncomputable def r53C:Code:=((Tryz.f10.body.bind (regionOf 53)).getD .skip)
theorem wp_frame9' {J:Act->World->Prop} {a:Act} {w:World} (h:∀A,A=a->J A w):J a w:=h a rfl
theorem r53_law {f:Nat->Value} {W:World} {Q:Exit->Act->World->Prop} {m:Int} {p3:Nat} (h3:f 3=.pointer (some ⟨p3,0,none⟩)) (hc:W.cell? ⟨p3,3,none⟩=some (.int .i64 m)) (hs:M.Single m)
  (hQ:∀f9:Nat->Value,f9 11=.bool true->(∀s∈[0,3,4,5,6],f9 s=f s)->Q .normal ⟨fr406 f9,[]⟩ W):Code.wp Tryz.prog r53C Q ⟨fr406 f,[]⟩ W:=by
 have HQ:=hI hQ
 clear hQ
 simp only [fr406,h3]
 rcases hs with rfl|rfl|rfl|rfl|rfl
 all_goals
  conv=>arg 2;whnf
  go_wp2_with fail
  refine wp_frame9' (λA hA=>?_)
  obtain ⟨tm,df⟩:=A
  simp only [Act.mk.injEq] at hA
  obtain ⟨ht,rfl⟩:=hA
  have hz:tm.size=406:=by rw [ht];rfl
  have e11:tm.getD 11 undef=.bool true:=by rw [ht];rfl
  have e0:tm.getD 0 undef=f 0:=by rw [ht];rfl
  have e3:tm.getD 3 undef=f 3:=by rw [ht,h3];rfl
  have e4:tm.getD 4 undef=f 4:=by rw [ht];rfl
  have e5:tm.getD 5 undef=f 5:=by rw [ht];rfl
  have e6:tm.getD 6 undef=f 6:=by rw [ht];rfl
  clear ht
  rw [fr406_of hz]
  refine HQ.out _ e11 (λs hs=>?_)
  rcases List.mem_cons.1 hs with rfl|hs
  ·exact e0
  rcases List.mem_cons.1 hs with rfl|hs
  ·exact e3
  rcases List.mem_cons.1 hs with rfl|hs
  ·exact e4
  rcases List.mem_cons.1 hs with rfl|hs
  ·exact e5
  rcases List.mem_cons.1 hs with rfl|hs
  ·exact e6
  cases hs
theorem M.give_only {m:Int} (hs:M.Single m) (o r:M.Row):(m=1->M.giveRow m o r={o with X:=(M.only m r).X,Y:=(M.only m r).Y})/\(m=2->M.giveRow m o r={o with PX:=(M.only m r).PX,PY:=(M.only m r).PY})/\(m=4->M.giveRow m o r={o with W:=(M.only m r).W,H:=(M.only m r).H})/\(m=8->M.giveRow m o r={o with M:=(M.only m r).M,R:=(M.only m r).R})/\(m=16->M.giveRow m o r=o):=by
 refine ⟨?_,?_,?_,?_,?_⟩<;>rintro rfl
 ·simp [M.giveRow,M.only,M.onlyAt,show M.bit 1 1=true by decide]
 ·simp [M.giveRow,M.only,M.onlyAt,show M.bit 2 2=true by decide]
 ·simp [M.giveRow,M.only,M.onlyAt,show M.bit 4 4=true by decide]
 ·simp [M.giveRow,M.only,M.onlyAt,show M.bit 8 8=true by decide]
 ·simp [M.giveRow]
def blockOf (k:Nat):Code->Option Code
 | .block j a=>if j=k then some (.block j a) else blockOf k a
 | .seq a b=>match blockOf k a with
  |some c=>some c
  |none=>blockOf k b
 | .cond _ a b=>match blockOf k a with
  |some c=>some c
  |none=>blockOf k b
 |_=>none
noncomputable def giveC:Code:=((Tryz.f10.body.bind (blockOf 4))).getD .skip
theorem give_law1 {f:Nat->Value} {W:World} {Q:Exit->Act->World->Prop} {p12 p13:Nat} {m:Int} {r q:M.Row} (h12:f 12=.pointer (some ⟨p12,0,none⟩)) (h13:f 13=.pointer (some ⟨p13,0,none⟩)) (hs:f 313=.int .i64 1) (hp:Blk W p12 83 (thC (m,r))) (hq:Blk W p13 38 (rowC q)) (hne:p13≠p12)
  (hQ:∀(f9:Nat->Value) (U:World),(∀s∈[0,3,4,5,12],f9 s=f s)->Blk U p12 83 (thC (m,{r with X:=q.X,Y:=q.Y}))->FarO p12 W U->Q .normal ⟨fr406 f9,[]⟩ U):Code.wp Tryz.prog giveC Q ⟨fr406 f,[]⟩ W:=by
 have HQ:=hI hQ
 clear hQ
 have e0:f 0=f 0:=rfl
 simp only [fr406,h12,h13,hs]
 conv=>arg 2;whnf
 go_upto_region 63 with fail
 refine DG.wp_named (λA hA=>?_)
 show Code.wp Tryz.prog r63C _ _ _
 rw [r63C_is]
 refine wp_region_any kR ?_
 rw [r63Ops_size]
 show wpAny _ _ _ _ _ _ _ W.drew
 refine r63_region (p12:=p12) (p13:=p13) (m:=m) (r:=r) (q:=q) (W0:=W.drew) ⟨by rw [hA];rfl,by rw [hA];rfl,hne,hq.drew.cell 0,hq.drew.cell 1⟩ rA (by rw [hA]) () (by unfold r63Mem;exact ⟨blk_to hp.drew sS,FarO.refl _ _⟩) ?_
 intro gg ll U hll hmm
 unfold r63Mem at hmm
 rw [if_pos (hll 6 dC),if_pos (hll 9 dC)] at hmm
 obtain ⟨hb8,hf8⟩:=hmm
 refine next_frame rA [0,3,4,5,12] (by rfl) (λf9 k9=>?_)
 have v0:f9 0=f 0:=(k9 0 dC).trans rA
 have v3:f9 3=f 3:=(k9 3 dC).trans rA
 have v4:f9 4=f 4:=(k9 4 dC).trans rA
 have v5:f9 5=f 5:=(k9 5 dC).trans rA
 have v12:f9 12=f 12:=(k9 12 dC).trans (by rw [hA,h12];rfl)
 clear k9 hA A
 simp only [fr406]
 go_wp2_with fail
 refine wp_frame9' (λA hA=>?_)
 obtain ⟨tm,df⟩:=A
 simp only [Act.mk.injEq] at hA
 obtain ⟨ht,rfl⟩:=hA
 have hz:tm.size=406:=by rw [ht];rfl
 have z0:tm.getD 0 undef=f 0:=by rw [ht];first|rfl|exact h12.symm|exact v0
 have z3:tm.getD 3 undef=f 3:=by rw [ht];first|rfl|exact h12.symm|exact v3
 have z4:tm.getD 4 undef=f 4:=by rw [ht];first|rfl|exact h12.symm|exact v4
 have z5:tm.getD 5 undef=f 5:=by rw [ht];first|rfl|exact h12.symm|exact v5
 have z12:tm.getD 12 undef=f 12:=by rw [ht];first|rfl|exact h12.symm|exact v12
 clear ht
 rw [fr406_of hz]
 refine HQ.out _ _ (λs hs=>?_) (blk_to hb8 (by rfl)) (show FarO p12 W.drew U from hf8)
 rcases List.mem_cons.1 hs with rfl|hs
 ·exact z0
 rcases List.mem_cons.1 hs with rfl|hs
 ·exact z3
 rcases List.mem_cons.1 hs with rfl|hs
 ·exact z4
 rcases List.mem_cons.1 hs with rfl|hs
 ·exact z5
 rcases List.mem_cons.1 hs with rfl|hs
 ·exact z12
 cases hs
theorem give_law2 {f:Nat->Value} {W:World} {Q:Exit->Act->World->Prop} {p12 p13:Nat} {m:Int} {r q:M.Row} (h12:f 12=.pointer (some ⟨p12,0,none⟩)) (h13:f 13=.pointer (some ⟨p13,0,none⟩)) (hs:f 313=.int .i64 2) (hp:Blk W p12 83 (thC (m,r))) (hq:Blk W p13 38 (rowC q)) (hne:p13≠p12)
  (hQ:∀(f9:Nat->Value) (U:World),(∀s∈[0,3,4,5,12],f9 s=f s)->Blk U p12 83 (thC (m,{r with PX:=q.PX,PY:=q.PY}))->FarO p12 W U->Q .normal ⟨fr406 f9,[]⟩ U):Code.wp Tryz.prog giveC Q ⟨fr406 f,[]⟩ W:=by
 have HQ:=hI hQ
 clear hQ
 have e0:f 0=f 0:=rfl
 simp only [fr406,h12,h13,hs]
 conv=>arg 2;whnf
 go_upto_region 65 with fail
 refine DG.wp_named (λA hA=>?_)
 show Code.wp Tryz.prog r65C _ _ _
 rw [r65C_is]
 refine wp_region_any kR ?_
 rw [r65Ops_size]
 show wpAny _ _ _ _ _ _ _ W.drew
 refine r65_region (p12:=p12) (p13:=p13) (m:=m) (r:=r) (q:=q) (W0:=W.drew) ⟨by rw [hA];rfl,by rw [hA];rfl,hne,hq.drew.cell 2,hq.drew.cell 3⟩ rA (by rw [hA]) () (by unfold r65Mem;exact ⟨blk_to hp.drew sS,FarO.refl _ _⟩) ?_
 intro gg ll U hll hmm
 unfold r65Mem at hmm
 rw [if_pos (hll 6 dC),if_pos (hll 9 dC)] at hmm
 obtain ⟨hb8,hf8⟩:=hmm
 refine next_frame rA [0,3,4,5,12] (by rfl) (λf9 k9=>?_)
 have v0:f9 0=f 0:=(k9 0 dC).trans rA
 have v3:f9 3=f 3:=(k9 3 dC).trans rA
 have v4:f9 4=f 4:=(k9 4 dC).trans rA
 have v5:f9 5=f 5:=(k9 5 dC).trans rA
 have v12:f9 12=f 12:=(k9 12 dC).trans (by rw [hA,h12];rfl)
 clear k9 hA A
 simp only [fr406]
 go_wp2_with fail
 refine wp_frame9' (λA hA=>?_)
 obtain ⟨tm,df⟩:=A
 simp only [Act.mk.injEq] at hA
 obtain ⟨ht,rfl⟩:=hA
 have hz:tm.size=406:=by rw [ht];rfl
 have z0:tm.getD 0 undef=f 0:=by rw [ht];first|rfl|exact h12.symm|exact v0
 have z3:tm.getD 3 undef=f 3:=by rw [ht];first|rfl|exact h12.symm|exact v3
 have z4:tm.getD 4 undef=f 4:=by rw [ht];first|rfl|exact h12.symm|exact v4
 have z5:tm.getD 5 undef=f 5:=by rw [ht];first|rfl|exact h12.symm|exact v5
 have z12:tm.getD 12 undef=f 12:=by rw [ht];first|rfl|exact h12.symm|exact v12
 clear ht
 rw [fr406_of hz]
 refine HQ.out _ _ (λs hs=>?_) (blk_to hb8 (by rfl)) (show FarO p12 W.drew U from hf8)
 rcases List.mem_cons.1 hs with rfl|hs
 ·exact z0
 rcases List.mem_cons.1 hs with rfl|hs
 ·exact z3
 rcases List.mem_cons.1 hs with rfl|hs
 ·exact z4
 rcases List.mem_cons.1 hs with rfl|hs
 ·exact z5
 rcases List.mem_cons.1 hs with rfl|hs
 ·exact z12
 cases hs
theorem give_law4 {f:Nat->Value} {W:World} {Q:Exit->Act->World->Prop} {p12 p13:Nat} {m:Int} {r q:M.Row} (h12:f 12=.pointer (some ⟨p12,0,none⟩)) (h13:f 13=.pointer (some ⟨p13,0,none⟩)) (hs:f 313=.int .i64 4) (hp:Blk W p12 83 (thC (m,r))) (hq:Blk W p13 38 (rowC q)) (hne:p13≠p12)
  (hQ:∀(f9:Nat->Value) (U:World),(∀s∈[0,3,4,5,12],f9 s=f s)->Blk U p12 83 (thC (m,{r with W:=q.W,H:=q.H}))->FarO p12 W U->Q .normal ⟨fr406 f9,[]⟩ U):Code.wp Tryz.prog giveC Q ⟨fr406 f,[]⟩ W:=by
 have HQ:=hI hQ
 clear hQ
 have e0:f 0=f 0:=rfl
 simp only [fr406,h12,h13,hs]
 conv=>arg 2;whnf
 go_upto_region 67 with fail
 refine DG.wp_named (λA hA=>?_)
 show Code.wp Tryz.prog r67C _ _ _
 rw [r67C_is]
 refine wp_region_any kR ?_
 rw [r67Ops_size]
 show wpAny _ _ _ _ _ _ _ W.drew
 refine r67_region (p12:=p12) (p13:=p13) (m:=m) (r:=r) (q:=q) (W0:=W.drew) ⟨by rw [hA];rfl,by rw [hA];rfl,hne,hq.drew.cell 4,hq.drew.cell 5⟩ rA (by rw [hA]) () (by unfold r67Mem;exact ⟨blk_to hp.drew sS,FarO.refl _ _⟩) ?_
 intro gg ll U hll hmm
 unfold r67Mem at hmm
 rw [if_pos (hll 6 dC),if_pos (hll 9 dC)] at hmm
 obtain ⟨hb8,hf8⟩:=hmm
 refine next_frame rA [0,3,4,5,12] (by rfl) (λf9 k9=>?_)
 have v0:f9 0=f 0:=(k9 0 dC).trans rA
 have v3:f9 3=f 3:=(k9 3 dC).trans rA
 have v4:f9 4=f 4:=(k9 4 dC).trans rA
 have v5:f9 5=f 5:=(k9 5 dC).trans rA
 have v12:f9 12=f 12:=(k9 12 dC).trans (by rw [hA,h12];rfl)
 clear k9 hA A
 simp only [fr406]
 go_wp2_with fail
 refine wp_frame9' (λA hA=>?_)
 obtain ⟨tm,df⟩:=A
 simp only [Act.mk.injEq] at hA
 obtain ⟨ht,rfl⟩:=hA
 have hz:tm.size=406:=by rw [ht];rfl
 have z0:tm.getD 0 undef=f 0:=by rw [ht];first|rfl|exact h12.symm|exact v0
 have z3:tm.getD 3 undef=f 3:=by rw [ht];first|rfl|exact h12.symm|exact v3
 have z4:tm.getD 4 undef=f 4:=by rw [ht];first|rfl|exact h12.symm|exact v4
 have z5:tm.getD 5 undef=f 5:=by rw [ht];first|rfl|exact h12.symm|exact v5
 have z12:tm.getD 12 undef=f 12:=by rw [ht];first|rfl|exact h12.symm|exact v12
 clear ht
 rw [fr406_of hz]
 refine HQ.out _ _ (λs hs=>?_) (blk_to hb8 (by rfl)) (show FarO p12 W.drew U from hf8)
 rcases List.mem_cons.1 hs with rfl|hs
 ·exact z0
 rcases List.mem_cons.1 hs with rfl|hs
 ·exact z3
 rcases List.mem_cons.1 hs with rfl|hs
 ·exact z4
 rcases List.mem_cons.1 hs with rfl|hs
 ·exact z5
 rcases List.mem_cons.1 hs with rfl|hs
 ·exact z12
 cases hs
theorem give_law8 {f:Nat->Value} {W:World} {Q:Exit->Act->World->Prop} {p12 p13:Nat} {m:Int} {r q:M.Row} (h12:f 12=.pointer (some ⟨p12,0,none⟩)) (h13:f 13=.pointer (some ⟨p13,0,none⟩)) (hs:f 313=.int .i64 8) (hp:Blk W p12 83 (thC (m,r))) (hq:Blk W p13 38 (rowC q)) (hne:p13≠p12)
  (hQ:∀(f9:Nat->Value) (U:World),(∀s∈[0,3,4,5,12],f9 s=f s)->Blk U p12 83 (thC (m,{r with M:=q.M,R:=q.R}))->FarO p12 W U->Q .normal ⟨fr406 f9,[]⟩ U):Code.wp Tryz.prog giveC Q ⟨fr406 f,[]⟩ W:=by
 have HQ:=hI hQ
 clear hQ
 have e0:f 0=f 0:=rfl
 simp only [fr406,h12,h13,hs]
 conv=>arg 2;whnf
 go_upto_region 69 with fail
 refine DG.wp_named (λA hA=>?_)
 show Code.wp Tryz.prog r69C _ _ _
 rw [r69C_is]
 refine wp_region_any kR ?_
 rw [r69Ops_size]
 show wpAny _ _ _ _ _ _ _ W.drew
 refine r69_region (p12:=p12) (p13:=p13) (m:=m) (r:=r) (q:=q) (W0:=W.drew) ⟨by rw [hA];rfl,by rw [hA];rfl,hne,hq.drew.cell 6,hq.drew.cell 7⟩ rA (by rw [hA]) () (by unfold r69Mem;exact ⟨blk_to hp.drew sS,FarO.refl _ _⟩) ?_
 intro gg ll U hll hmm
 unfold r69Mem at hmm
 rw [if_pos (hll 6 dC),if_pos (hll 9 dC)] at hmm
 obtain ⟨hb8,hf8⟩:=hmm
 refine next_frame rA [0,3,4,5,12] (by rfl) (λf9 k9=>?_)
 have v0:f9 0=f 0:=(k9 0 dC).trans rA
 have v3:f9 3=f 3:=(k9 3 dC).trans rA
 have v4:f9 4=f 4:=(k9 4 dC).trans rA
 have v5:f9 5=f 5:=(k9 5 dC).trans rA
 have v12:f9 12=f 12:=(k9 12 dC).trans (by rw [hA,h12];rfl)
 clear k9 hA A
 simp only [fr406]
 go_wp2_with fail
 refine wp_frame9' (λA hA=>?_)
 obtain ⟨tm,df⟩:=A
 simp only [Act.mk.injEq] at hA
 obtain ⟨ht,rfl⟩:=hA
 have hz:tm.size=406:=by rw [ht];rfl
 have z0:tm.getD 0 undef=f 0:=by rw [ht];first|rfl|exact h12.symm|exact v0
 have z3:tm.getD 3 undef=f 3:=by rw [ht];first|rfl|exact h12.symm|exact v3
 have z4:tm.getD 4 undef=f 4:=by rw [ht];first|rfl|exact h12.symm|exact v4
 have z5:tm.getD 5 undef=f 5:=by rw [ht];first|rfl|exact h12.symm|exact v5
 have z12:tm.getD 12 undef=f 12:=by rw [ht];first|rfl|exact h12.symm|exact v12
 clear ht
 rw [fr406_of hz]
 refine HQ.out _ _ (λs hs=>?_) (blk_to hb8 (by rfl)) (show FarO p12 W.drew U from hf8)
 rcases List.mem_cons.1 hs with rfl|hs
 ·exact z0
 rcases List.mem_cons.1 hs with rfl|hs
 ·exact z3
 rcases List.mem_cons.1 hs with rfl|hs
 ·exact z4
 rcases List.mem_cons.1 hs with rfl|hs
 ·exact z5
 rcases List.mem_cons.1 hs with rfl|hs
 ·exact z12
 cases hs
theorem give_law16 {f:Nat->Value} {W:World} {Q:Exit->Act->World->Prop} {p12 p13:Nat} {m:Int} {r q:M.Row} (h12:f 12=.pointer (some ⟨p12,0,none⟩)) (h13:f 13=.pointer (some ⟨p13,0,none⟩)) (hs:f 313=.int .i64 16) (hp:Blk W p12 83 (thC (m,r))) (hq:Blk W p13 38 (rowC q)) (hne:p13≠p12)
  (hQ:∀(f9:Nat->Value) (U:World),(∀s∈[0,3,4,5,12],f9 s=f s)->Blk U p12 83 (thC (m,r))->FarO p12 W U->Q .normal ⟨fr406 f9,[]⟩ U):Code.wp Tryz.prog giveC Q ⟨fr406 f,[]⟩ W:=by
 have HQ:=hI hQ
 clear hQ
 have e0:f 0=f 0:=rfl
 simp only [fr406,h12,h13,hs]
 conv=>arg 2;whnf
 go_wp2_with fail
 refine wp_frame9' (λA hA=>?_)
 obtain ⟨tm,df⟩:=A
 simp only [Act.mk.injEq] at hA
 obtain ⟨ht,rfl⟩:=hA
 have hz:tm.size=406:=by rw [ht];rfl
 have z0:tm.getD 0 undef=f 0:=by rw [ht];first|rfl|exact h12.symm
 have z3:tm.getD 3 undef=f 3:=by rw [ht];first|rfl|exact h12.symm
 have z4:tm.getD 4 undef=f 4:=by rw [ht];first|rfl|exact h12.symm
 have z5:tm.getD 5 undef=f 5:=by rw [ht];first|rfl|exact h12.symm
 have z12:tm.getD 12 undef=f 12:=by rw [ht];first|rfl|exact h12.symm
 clear ht
 rw [fr406_of hz]
 refine HQ.out _ _ (λs hs=>?_) hp (FarO.refl _ _)
 rcases List.mem_cons.1 hs with rfl|hs
 ·exact z0
 rcases List.mem_cons.1 hs with rfl|hs
 ·exact z3
 rcases List.mem_cons.1 hs with rfl|hs
 ·exact z4
 rcases List.mem_cons.1 hs with rfl|hs
 ·exact z5
 rcases List.mem_cons.1 hs with rfl|hs
 ·exact z12
 cases hs
theorem give_law {f:Nat->Value} {W:World} {Q:Exit->Act->World->Prop} {p12 p13:Nat} {m mask:Int} {r row:M.Row} (h12:f 12=.pointer (some ⟨p12,0,none⟩)) (h13:f 13=.pointer (some ⟨p13,0,none⟩)) (hsg:M.Single mask) (hs:f 313=.int .i64 mask) (hp:Blk W p12 83 (thC (m,r))) (hq:Blk W p13 38 (rowC (M.only mask row))) (hne:p13≠p12)
  (hQ:∀(f9:Nat->Value) (U:World),(∀s∈[0,3,4,5,12],f9 s=f s)->Blk U p12 83 (thC (m,M.giveRow mask r row))->FarO p12 W U->Q .normal ⟨fr406 f9,[]⟩ U):Code.wp Tryz.prog giveC Q ⟨fr406 f,[]⟩ W:=by
 obtain ⟨g1,g2,g4,g8,g16⟩:=M.give_only hsg r row
 rcases hsg with rfl|rfl|rfl|rfl|rfl
 ·exact give_law1 h12 h13 hs hp hq hne (λf9 U k1 k2 k3=>hQ f9 U k1 (by rw [g1 rfl];exact k2) k3)
 ·exact give_law2 h12 h13 hs hp hq hne (λf9 U k1 k2 k3=>hQ f9 U k1 (by rw [g2 rfl];exact k2) k3)
 ·exact give_law4 h12 h13 hs hp hq hne (λf9 U k1 k2 k3=>hQ f9 U k1 (by rw [g4 rfl];exact k2) k3)
 ·exact give_law8 h12 h13 hs hp hq hne (λf9 U k1 k2 k3=>hQ f9 U k1 (by rw [g8 rfl];exact k2) k3)
 ·exact give_law16 h12 h13 hs hp hq hne (λf9 U k1 k2 k3=>hQ f9 U k1 (by rw [g16 rfl];exact k2) k3)
end Go.Proofs.YtemkbjaojinaoaaGreat
