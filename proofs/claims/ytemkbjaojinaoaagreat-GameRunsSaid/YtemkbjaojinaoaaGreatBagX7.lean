/- Several small texts in one. No condition of its own: each part says its own. -/
import Derived.Test.YtemkbjaojinaoaaGreatShort
import Derived.Test.YtemkbjaojinaoaaGreatStoreRow
import Derived.Deep.RegionHeld3
import Derived.Deep.DrawnRows
import Derived.Test.YtemkbjaojinaoaaGreatBagO
import Derived.Test.YtemkbjaojinaoaaGreatBagW
import Derived.Deep.RegionLaw
set_option linter.unusedVariables false
set_option linter.unusedSimpArgs false
set_option maxRecDepth 100000
set_option maxHeartbeats 40000000
namespace Go.Proofs.YtemkbjaojinaoaaGreat
open Go.RowKit
attribute [local go_sem ↓] Go.wp_at_zero Go.wp_at_succ
theorem two_boxed {W:World} {s t:Nat} {a b:M.Row} (h:Blk W s 38 (rowC a)) (k:Blk W t 38 (rowC b)):W.cell? ⟨s,0,none⟩=some (.int .i64 a.X)/\W.cell? ⟨s,1,none⟩=some (.int .i64 a.Y)/\W.cell? ⟨s,2,none⟩=some (.int .i64 a.PX)/\W.cell? ⟨s,3,none⟩=some (.int .i64 a.PY)/\W.cell? ⟨s,4,none⟩=some (.int .i64 a.W)/\W.cell? ⟨s,5,none⟩=some (.int .i64 a.H)/\W.cell? ⟨s,6,none⟩=some (.int .i64 a.M)/\W.cell? ⟨s,7,none⟩=some (.int .i64 a.R)/\W.cell? ⟨t,0,none⟩=some (.int .i64 b.X)/\W.cell? ⟨t,1,none⟩=some (.int .i64 b.Y)/\W.cell? ⟨t,2,none⟩=some (.int .i64 b.PX)/\W.cell? ⟨t,3,none⟩=some (.int .i64 b.PY)/\W.cell? ⟨t,4,none⟩=some (.int .i64 b.W)/\W.cell? ⟨t,5,none⟩=some (.int .i64 b.H)/\W.cell? ⟨t,6,none⟩=some (.int .i64 b.M)/\W.cell? ⟨t,7,none⟩=some (.int .i64 b.R):=
 ⟨h.cell 0,h.cell 1,h.cell 2,h.cell 3,h.cell 4,h.cell 5,h.cell 6,h.cell 7,k.cell 0,k.cell 1,k.cell 2,k.cell 3,k.cell 4,k.cell 5,k.cell 6,k.cell 7⟩
def TwoBoxes (a b:M.Row) (w0:World) (p q:Value) (W:World):Prop:=
 ∃bx bz,p=.pointer (some ⟨bx,0,none⟩)/\q=.pointer (some ⟨bz,0,none⟩)/\Blk W bx 38 (rowC a)/\Blk W bz 38 (rowC b)/\Below w0.heap.size w0 W
theorem with_calls (r more:M.Row) (mask:Int) (w:World):
  Calls Tryz.prog 75 #[rowV r,rowV more,.int .i64 mask] w λe w'=>e=.returned (rowV (M.withR r more mask))/\Below w.heap.size w w':=by
 have H1:=hI (λW=>only_calls (bits .andNot .i64 31 mask) r W)
 have H2:=hI (λW=>only_calls mask more W)
 unfold M.withR
 obtain ⟨a,ha⟩:∃a,a=M.only (bits .andNot .i64 31 mask) r:=⟨_,rfl⟩
 obtain ⟨b,hb⟩:∃b,b=M.only mask more:=⟨_,rfl⟩
 rw [←ha] at H1⊢
 rw [←hb] at H2⊢
 clear ha hb
 go_enter Tryz.func75,Tryz.ntmps75
 go_upto_region 1 with fail
 have Z:Blk (((w.alloc (.cells (rowC r) 38)).alloc (.cells (rowC more) 38)).alloc (.cells (rowC M.row0) 38)) w.heap.size 38 (rowC r):=((Blk.new w _ _).alloc _).alloc _
 have Y:Blk (((w.alloc (.cells (rowC r) 38)).alloc (.cells (rowC more) 38)).alloc (.cells (rowC M.row0) 38)) (w.heap.size+1) 38 (rowC more):=by
  have h:=(Blk.new (w.alloc (.cells (rowC r) 38)) 38 (rowC more)).alloc (.cells (rowC M.row0) 38);simp at h;exact h
 have V:Blk (((w.alloc (.cells (rowC r) 38)).alloc (.cells (rowC more) 38)).alloc (.cells (rowC M.row0) 38)) (w.heap.size+1+1) 38 (rowC M.row0):=by
  have h:=Blk.new ((w.alloc (.cells (rowC r) 38)).alloc (.cells (rowC more) 38)) 38 (rowC M.row0);simp at h;exact h
 have K:Below w.heap.size w (((w.alloc (.cells (rowC r) 38)).alloc (.cells (rowC more) 38)).alloc (.cells (rowC M.row0) 38)):=(((Below.refl _ w).alloc lR _).alloc sS _).alloc sO _
 have hzW:((((w.alloc (.cells (rowC r) 38)).alloc (.cells (rowC more) 38)).alloc (.cells (rowC M.row0) 38))).heap.size=w.heap.size+1+1+1:=by simp
 refine wp_named λw3 hw3=>?_
 have HZ:Hid (Blk w3 w.heap.size 38 (rowC r)):=hI (by rw [hw3];exact Z)
 have HY:Hid (Blk w3 (w.heap.size+1) 38 (rowC more)):=hI (by rw [hw3];exact Y)
 have HV:Hid (Blk w3 (w.heap.size+1+1) 38 (rowC M.row0)):=hI (by rw [hw3];exact V)
 have HK:Hid (Below w.heap.size w w3):=hI (by rw [hw3];exact K)
 have hz3:w.heap.size+1+1+1=w3.heap.size:=by rw [hw3];exact hzW.symm
 clear K Z Y V hzW hw3
 have lz1:w.heap.size<w3.heap.size:=by omega
 have lz2:w.heap.size+1<w3.heap.size:=by omega
 have lz3:w.heap.size+1+1<w3.heap.size:=by omega
 have HZ3:=hI hz3
 clear hz3
 go_cut [7,8] (λp q W=>TwoBoxes a b w3 p q W)
 case first=>
  go_region_held3 (λW=>W.cell? ⟨w.heap.size,0,none⟩=some (.int .i64 r.X)/\W.cell? ⟨w.heap.size,1,none⟩=some (.int .i64 r.Y)/\W.cell? ⟨w.heap.size,2,none⟩=some (.int .i64 r.PX)/\W.cell? ⟨w.heap.size,3,none⟩=some (.int .i64 r.PY)/\W.cell? ⟨w.heap.size,4,none⟩=some (.int .i64 r.W)/\W.cell? ⟨w.heap.size,5,none⟩=some (.int .i64 r.H)/\W.cell? ⟨w.heap.size,6,none⟩=some (.int .i64 r.M)/\W.cell? ⟨w.heap.size,7,none⟩=some (.int .i64 r.R)/\W.cell? ⟨w.heap.size+1,0,none⟩=some (.int .i64 more.X)/\W.cell? ⟨w.heap.size+1,1,none⟩=some (.int .i64 more.Y)/\W.cell? ⟨w.heap.size+1,2,none⟩=some (.int .i64 more.PX)/\W.cell? ⟨w.heap.size+1,3,none⟩=some (.int .i64 more.PY)/\W.cell? ⟨w.heap.size+1,4,none⟩=some (.int .i64 more.W)/\W.cell? ⟨w.heap.size+1,5,none⟩=some (.int .i64 more.H)/\W.cell? ⟨w.heap.size+1,6,none⟩=some (.int .i64 more.M)/\W.cell? ⟨w.heap.size+1,7,none⟩=some (.int .i64 more.R)) (exact two_boxed (by (repeat first|with_reducible exact HZ.out|with_reducible apply Blk.far (hp:=sid9)|with_reducible apply Blk.drew|with_reducible apply Blk.alloc|with_reducible apply Blk.below (hb:=hb4) (hg:=sid9)|with_reducible apply Blk.below (hb:=hb5) (hg:=sid9))) (by (repeat first|with_reducible exact HY.out|with_reducible apply Blk.far (hp:=sid9)|with_reducible apply Blk.drew|with_reducible apply Blk.alloc|with_reducible apply Blk.below (hb:=hb4) (hg:=sid9)|with_reducible apply Blk.below (hb:=hb5) (hg:=sid9)))) (first|(go_at_call 74;with_reducible refine (H1.out _).mono ?_;rintro e w4 ⟨rfl,hb4⟩;obtain ⟨hc4,hf4⟩:=bcell hb4;have hz4:=hb4.size;(try simp at hz4);(try have pf4_0:w.heap.size<w4.heap.size:=bO);(try have pg4_0:w.heap.size<w4.heap.size+1:=bO);(try have ph4_0:w.heap.size<w4.heap.size+1+1:=bO);(try have pf4_1:w.heap.size+1<w4.heap.size:=bO);(try have pg4_1:w.heap.size+1<w4.heap.size+1:=bO);(try have ph4_1:w.heap.size+1<w4.heap.size+1+1:=bO);(try have pf4_2:w.heap.size+1+1<w4.heap.size:=bO);(try have pg4_2:w.heap.size+1+1<w4.heap.size+1:=bO);(try have ph4_2:w.heap.size+1+1<w4.heap.size+1+1:=bO);(try have pf4_3:w3.heap.size<w4.heap.size:=bO);(try have pg4_3:w3.heap.size<w4.heap.size+1:=bO);(try have ph4_3:w3.heap.size<w4.heap.size+1+1:=bO);(try have pf4_4:w3.heap.size+1<w4.heap.size:=bO);(try have pg4_4:w3.heap.size+1<w4.heap.size+1:=bO);(try have ph4_4:w3.heap.size+1<w4.heap.size+1+1:=bO))|(go_at_call 74;with_reducible refine (H2.out _).mono ?_;rintro e w5 ⟨rfl,hb5⟩;obtain ⟨hc5,hf5⟩:=bcell hb5;have hz5:=hb5.size;(try simp at hz5);(try have pf5_0:w.heap.size<w5.heap.size:=bO);(try have pg5_0:w.heap.size<w5.heap.size+1:=bO);(try have ph5_0:w.heap.size<w5.heap.size+1+1:=bO);(try have pf5_1:w.heap.size+1<w5.heap.size:=bO);(try have pg5_1:w.heap.size+1<w5.heap.size+1:=bO);(try have ph5_1:w.heap.size+1<w5.heap.size+1+1:=bO);(try have pf5_2:w.heap.size+1+1<w5.heap.size:=bO);(try have pg5_2:w.heap.size+1+1<w5.heap.size+1:=bO);(try have ph5_2:w.heap.size+1+1<w5.heap.size+1+1:=bO);(try have pf5_3:w3.heap.size<w5.heap.size:=bO);(try have pg5_3:w3.heap.size<w5.heap.size+1:=bO);(try have ph5_3:w3.heap.size<w5.heap.size+1+1:=bO);(try have pf5_4:w3.heap.size+1<w5.heap.size:=bO);(try have pg5_4:w3.heap.size+1<w5.heap.size+1:=bO);(try have ph5_4:w3.heap.size+1<w5.heap.size+1+1:=bO);(try have pf5_5:w4.heap.size<w5.heap.size:=bO);(try have pg5_5:w4.heap.size<w5.heap.size+1:=bO);(try have ph5_5:w4.heap.size<w5.heap.size+1+1:=bO);(try have pf5_6:w4.heap.size+1<w5.heap.size:=bO);(try have pg5_6:w4.heap.size+1<w5.heap.size+1:=bO);(try have ph5_6:w4.heap.size+1<w5.heap.size+1+1:=bO)))
  all_goals
   go_wp2_with fail
   go_meet
   refine ⟨_,_,rfl,rfl,?_,?_,?_⟩
   ·apply blk_to
    ·repeat first|with_reducible apply Blk.put|with_reducible apply Blk.far (hp:=sid9)|with_reducible apply Blk.drew|with_reducible apply Blk.new_at_w (h:=rO)|with_reducible apply Blk.alloc|with_reducible apply Blk.below (hb:=hb4) (hg:=sid9)|with_reducible apply Blk.below (hb:=hb5) (hg:=sid9)
    ·rfl
   ·apply blk_to
    ·repeat first|with_reducible apply Blk.put|with_reducible apply Blk.far (hp:=sid9)|with_reducible apply Blk.drew|with_reducible apply Blk.new_at_w (h:=rO)|with_reducible apply Blk.alloc|with_reducible apply Blk.below (hb:=hb4) (hg:=sid9)|with_reducible apply Blk.below (hb:=hb5) (hg:=sid9)
    ·rfl
   ·repeat first|with_reducible exact Below.refl _ _|with_reducible apply Below.drew|with_reducible apply Below.setCell (hp:=sid9)|with_reducible apply Below.alloc (hB:=sid9)|with_reducible refine Below.trans ?_ (Below.mono (B':=w3.heap.size) hb4 sid9)|with_reducible refine Below.trans ?_ (Below.mono (B':=w3.heap.size) hb5 sid9)
 case rest=>
  obtain ⟨bx,bz,rfl,rfl,hX,hY,hB⟩:=hcut
  have hV:=HV.out.below hB bO
  have HKF:=hI (HK.out.trans (hB.mono bO))
  obtain ⟨x0,x1,x2,x3,x4,x5,x6,x7⟩:=row_at hX
  obtain ⟨y0,y1,y2,y3,y4,y5,y6,y7⟩:=row_at hY
  obtain ⟨v0,v1,v2,v3,v4,v5,v6,v7⟩:=row_at hV
  have vf:=λi=>hV.free i
  clear hX hY hV hB lz1 lz2 lz3
  go_wp2
  refine bodyPost_ret (v:=rowV (M.plus a b)) ?_ rfl ⟨rfl,?_⟩
  ·simp only [results,Tryz.results75]
   go_simp
   exact ⟨rfl,rfl,rfl,rfl,rfl,rfl,rfl,rfl⟩
  ·repeat first|with_reducible exact HKF.out|with_reducible apply Below.setCell (hp:=sid9)
theorem run_clear_k {P:Program} (w:World) (t e ty:TypeId) (z:Value) (ht:P.underlying t=some (.slice e)) (hv:∀w,(zeroValue e).run P w=.ok z w) (g off n c:Nat) (hn:0<n) (cur:Array Value) (te:TypeId) (zs:List Value)
  (hz:(Builtin.zeroCells z.cells n).toList=zs) (hg:w.heap[g]?=some (.cells cur te (0,0))) (hfit:off+zs.length<=cur.size) (h1:∀v∈zs,v.oneCell'=true):
  (Builtin.clear_ #[t] ty #[.slice (some ⟨g,off,none⟩) n c]).run P w=.ok (.tuple #[]) (w.setRow g (cur.toList.take off++zs++cur.toList.drop (off+zs.length)).toArray):=by
 have hst:=run_storeCells_at (P:=P) g off te zs 0 cur w hg (by simpa using hfit) h1
 rw [Nat.add_zero] at hst
 obtain ⟨m,rfl⟩:∃m,n=m+1:=⟨n-1,by omega⟩
 simp [Builtin.clear_,run_underlying ht,hv,hz,hst]
theorem step_append_runK {P:Program} {ops:Array Oper} {o:Oper} {a:Act} {w:World} {K:Act->World->Prop} {Q:Exit->Act->World->Prop} {E:Prop}
  (hg:o.guard=none) (s x:Operand) (t tn:TypeId) (hop:o.op=Op.call {callee:=Callee.builtin Builtin.append,args:=#[s,x],argTypes:=#[t,tn]})
  (vs vx:Value) (hs:a.eval s=vs) (hx:a.eval x=vx) {v':Value} {w':World} (hr:(Builtin.append_ #[t,tn] o.type #[vs,vx]).run P w=.ok v' w') (hK:K (a.put o.dst v') w'):
  if Region.wanted o (yielded ops a.tmps)=true then Oper.wp P o a w K Q else E:=by
 have hw:Region.wanted o (yielded ops a.tmps)=true:=by simp [Region.wanted,hg]
 rw [if_pos hw]
 unfold Oper.wp
 simp [execOp,hop,resolve,invoke,builtin,hs,hx,hr,Result.andThen]
 exact hK
theorem wpList_clear_run {P:Program} (w:World) {ops:Array Oper} {rest:List Oper} {o:Oper} {a:Act} {Q:Exit->Act->World->Prop} (hgd:o.guard=none) (s:Operand) (t:TypeId)
  (ho:o.op=.call {callee:=.builtin .clear,args:=#[s],argTypes:=#[t]}) (v:Value) (hs:a.eval s=v) {v':Value} {w':World}
  (hr:(Builtin.clear_ #[t] o.type #[v]).run P w=.ok v' w') (h:wpList P ops Q rest (a.put o.dst v') w'):wpList P ops Q (o::rest) a w:=by
 refine wpList_plain hgd λK hK=>?_
 unfold Oper.wp execOp
 simp only [ho,resolve,invoke,builtin,Sem.run_bind,Sem.run_pure,Result.andThen_ok,mA,mC,mN,hs,hr]
 exact hK _ _ h
theorem splice_cut {xs cl zs:List Value} {n i:Nat} (hx:cl.take (n*3)=xs) (hxl:xs.length=n*3) (hi:i<n) (R1:List Value)
  (hR1:R1=cl.take (i*3)++xs.drop ((i+1)*3)++cl.drop (i*3+(xs.drop ((i+1)*3)).length)):
  (R1.take ((n-1)*3)++zs++R1.drop ((n-1)*3+zs.length)).take ((n-1)*3)=xs.take (i*3)++xs.drop ((i+1)*3):=by
 have hd:(xs.drop ((i+1)*3)).length=n*3-(i+1)*3:=by rw [List.length_drop,hxl]
 have hcl:n*3<=cl.length:=by
  have:=congrArg List.length hx
  rw [List.length_take,hxl] at this
  omega
 have e1:R1.take ((n-1)*3)=xs.take (i*3)++xs.drop ((i+1)*3):=by
  rw [hR1]
  have ht:cl.take (i*3)=xs.take (i*3):=by rw [←hx,List.take_take];congr 1;omega
  have hl:(xs.take (i*3)++xs.drop ((i+1)*3)).length=(n-1)*3:=by
   rw [List.length_append,List.length_take,hd,hxl];omega
  rw [ht,List.take_append_of_le_length (by rw [hl];exact Nat.le_refl _),List.take_of_length_le (by rw [hl];exact Nat.le_refl _)]
 have hl2:(R1.take ((n-1)*3)).length=(n-1)*3:=by
  rw [e1,List.length_append,List.length_take,hd,hxl];omega
 rw [List.append_assoc,List.take_append_of_le_length bO,List.take_of_length_le bO,e1]
theorem delete_calls {w:World} {base g n cap i:Nat} {xs:List Value} (h:w.ownsRow base 102 3 (.slice (some ⟨g,0,none⟩) n cap) n xs) (hn:n<=1000000) (hi:i<n) (h2:∀u∈xs,u.oneCell'=true):
  Calls Tryz.prog 73 #[.slice (some ⟨g,0,none⟩) n cap,.int .i64 i,.int .i64 ((i:Int)+1)] w λe w'=>
   e=.returned (.slice (some ⟨g,0,none⟩) (n-1) cap)/\w'.ownsRow base 102 3 (.slice (some ⟨g,0,none⟩) (n-1) cap) (n-1) (xs.take (i*3)++xs.drop ((i+1)*3))/\w.grownBy w' (some g):=by
 obtain ⟨i0,hi0,hz0,hz1,hz2⟩:=info_parts infoTable
 have hxl:=h.1
 rcases h.2 with ⟨e,_⟩|⟨g',cap',cur,e,hbg,hg,hnc,hcm,hcs,htk⟩
 ·simp at e
 simp only [Value.slice.injEq,Option.some.injEq,Addr.mk.injEq,and_true,true_and] at e
 obtain ⟨rfl,rfl⟩:=e
 have hc63:cap<=9223372036854775807:=by unfold maxLen at hcm;omega
 have hcl:cur.toList.length=cap*3:=by simpa using hcs
 have hdl:(xs.drop ((i+1)*3)).length=(n-(i+1))*3:=by rw [List.length_drop,hxl,Nat.sub_mul]
 have hcell:∀j u,xs[j]?=some u->w.cell? ⟨g,j,none⟩=some u:=by
  intro j u hj
  rw [cell_of_row w g j cur _ (0,0) hg]
  rw [←htk,List.getElem?_take] at hj
  split at hj
  ·simpa using hj
  ·cases hj
 obtain ⟨R1,hR1⟩:∃R1,R1=(cur.toList.take (i*3)++xs.drop ((i+1)*3)++cur.toList.drop (i*3+(xs.drop ((i+1)*3)).length)).toArray:=⟨_,rfl⟩
 have hR1s:R1.size=cap*3:=by
  rw [hR1]
  simp only [List.size_toArray,List.length_append,List.length_take,List.length_drop,hcl,hdl,hxl]
  omega
 obtain ⟨zs,hzs⟩:∃zs,zs=(Builtin.zeroCells (Value.agg #[.int .i64 0,.slice none 0 0,.slice none 0 0]).cells 1).toList:=⟨_,rfl⟩
 have hzs':zs=[.int .i64 0,.slice none 0 0,.slice none 0 0]:=by rw [hzs];kernel_rfl
 obtain ⟨R2,hR2⟩:∃R2,R2=(R1.toList.take ((n-1)*3)++zs++R1.toList.drop ((n-1)*3+zs.length)).toArray:=⟨_,rfl⟩
 have hzl:zs.length=3:=by rw [hzs'];rfl
 have hR2s:R2.size=cap*3:=by
  rw [hR2]
  simp only [List.size_toArray,List.length_append,List.length_take,List.length_drop,hzl,Array.length_toList,hR1s]
  omega
 have hap:∀ty (A:Addr),(∀j u,(xs.drop ((i+1)*3))[j]?=some u->w.drew.cell? (A.add j)=some u)->
   (Builtin.append_ #[49,49] ty #[.slice (some ⟨g,0,none⟩) i cap,.slice (some A) (n-(i+1)) (cap-(i+1))]).run Tryz.prog w.drew=.ok (.slice (some ⟨g,0,none⟩) (n-1) cap) (w.drew.setRow g R1):=λty A hA=>by
  have c:=run_append_room (P:=Tryz.prog) w.drew 49 ty 102 i0 Tryz.underlying49 hi0 g i cap cur hg A (n-(i+1)) (cap-(i+1)) (xs.drop ((i+1)*3)) (by rw [hz1,hdl]) hA (λu hu=>h2 u (List.mem_of_mem_drop hu)) bO (by rw [hz1,hdl,hcs];omega)
  rw [hz1,←hR1,show i+(n-(i+1))=n-1 by omega] at c
  exact c
 have hcr:∀(W:World),W.heap=(w.setRow g R1).heap->∀ty dc,(Builtin.clear_ #[49] ty #[.slice (some ⟨g,(n-1)*3,none⟩) 1 dc]).run Tryz.prog W=.ok (.tuple #[]) (W.setRow g R2):=λW hW ty dc=>by
  have hWg:W.heap[g]?=some (.cells R1 102 (0,0)):=by rw [hW];exact setRow_heap w g cur R1 _ _ hg
  have c:=run_clear_k (P:=Tryz.prog) W 49 102 ty _ Tryz.underlying49 Tryz.zeroValue102 g ((n-1)*3) 1 dc bO R1 102 zs hzs.symm hWg (by rw [hzl,hR1s];omega) (by
   intro v hv
   rw [hzs'] at hv
   simp only [List.mem_cons,List.not_mem_nil,or_false] at hv
   rcases hv with rfl|rfl|rfl<;>rfl)
  rw [←hR2] at c
  exact c
 have FIN:∀w',w'.os=w.os->w'.tape=w.tape->w'.output=w.output->w'.heap=((w.setRow g R1).setRow g R2).heap->
   w'.ownsRow base 102 3 (.slice (some ⟨g,0,none⟩) (n-1) cap) (n-1) (xs.take (i*3)++xs.drop ((i+1)*3))/\w.grownBy w' (some g):=by
  intro w' q1 q2 q3 q4
  refine ⟨⟨?_,.inr ⟨g,cap,R2,rfl,hbg,?_,by omega,hcm,hR2s,?_⟩⟩,⟨q1,q2,q3,?_,?_⟩⟩
  ·simp only [List.length_append,List.length_take,hdl,hxl]
   omega
  ·rw [q4]
   exact setRow_heap _ g R1 R2 _ _ (setRow_heap w g cur R1 _ _ hg)
  ·rw [hR2]
   exact splice_cut htk hxl hi R1.toList (by rw [hR1])
  ·rw [q4];simp [World.setRow]
  ·intro k _ hk
   have hk':k≠g:=λe=>hk (by rw [e])
   rw [q4,setRow_other _ g k _ hk',setRow_other _ g k _ hk']
 obtain ⟨A,hA,hsrc⟩:∃A:Addr,(if cap=i+1 then some (⟨g,0,none⟩:Addr) else some ⟨g,(i+1)*3,none⟩)=some A/\(∀j u,(xs.drop ((i+1)*3))[j]?=some u->w.drew.cell? (A.add j)=some u):=by
  by_cases hc:cap=i+1
  ·refine ⟨⟨g,0,none⟩,by simp [hc],λt u hu=>?_⟩
   have h0:(xs.drop ((i+1)*3)).length=0:=by
    rw [hdl]
    have:n-(i+1)=0:=by omega
    rw [this]
   rw [List.length_eq_zero_iff.1 h0] at hu
   simp at hu
  ·refine ⟨⟨g,(i+1)*3,none⟩,by simp [hc],λt u hu=>?_⟩
   rw [Addr.add_lit]
   exact hcell _ _ (by rwa [List.getElem?_drop] at hu)
 have HAP:=hI (λty=>hap ty A hsrc)
 have HCR:=hI hcr
 have HFIN:=hI FIN
 clear hap hcr FIN hR1 hR2 hR1s hR2s hcell hdl hg htk hcs hcl hi0 hz0 hz1 hz2 h hxl h2 hzs hzs' hzl hsrc
 have hw1:IntKind.i64.wrap ((i:Int)+1)=(i:Int)+1:=by rw [IntKind.wrap_i64];omega
 have htn:((i:Int)+1).toNat=i+1:=by omega
 have hb1:(0:Int)<=(i:Int)+1:=by omega
 have hb0:(i:Int)+1<=(n:Int):=by omega
 have hb3:(i:Int)<=(n:Int):=by omega
 have hb4:(i:Int)<=(cap:Int):=by omega
 have hb5:¬(cap=n-1):=by omega
 have hb6:n-(n-1)=1:=by omega
 go_enter Tryz.func73,Tryz.ntmps73
 go_wp2_with fail
 go_region_law (refine step_append_runK rfl _ _ 49 49 rfl _ _ (by simp [Act.eval,Act.put]) (by simp [Act.eval,Act.put,hA]) (HAP.out _) ?_)
 go_wp2_with (refine wpList_clear_run _ rfl _ 49 rfl _ rfl (HCR.out _ (by rfl) _ _) ?_)
 go_ret
 exact ⟨rfl,HFIN.out _ rfl rfl rfl rfl⟩
end Go.Proofs.YtemkbjaojinaoaaGreat
