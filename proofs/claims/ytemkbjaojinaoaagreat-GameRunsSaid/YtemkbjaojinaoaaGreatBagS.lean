/- Several small texts in one. No condition of its own: each part says its own. -/
import Derived.Test.YtemkbjaojinaoaaGreatShort
import Derived.Test.YtemkbjaojinaoaaGreatBagO
import Derived.Test.YtemkbjaojinaoaaGreatBagT1
import Derived.Test.YtemkbjaojinaoaaGreatBagX7
import Derived.Test.YtemkbjaojinaoaaGreatRowCells
import Derived.Deep.DeepCutAuto
set_option linter.unusedVariables false
set_option linter.unusedSimpArgs false
set_option maxRecDepth 100000
namespace Go.Proofs.YtemkbjaojinaoaaGreat
open Go.RowKit
structure But (base sb:Nat) (w w':World):Prop where
 os:w'.os=w.os
 tape:w'.tape=w.tape
 output:w'.output=w.output
 size:w.heap.size<=w'.heap.size
 block:∀g,g<base->g≠sb->w'.heap[g]?=w.heap[g]?
theorem But.refl (base sb:Nat) (w:World):But base sb w w:=⟨rfl,rfl,rfl,Nat.le_refl _,λ_ _ _=>rfl⟩
theorem But.trans {base sb:Nat} {a b c:World} (h:But base sb a b) (k:But base sb b c):But base sb a c:=
 ⟨k.os.trans h.os,k.tape.trans h.tape,k.output.trans h.output,Nat.le_trans h.size k.size,λg h1 h2=>(k.block g h1 h2).trans (h.block g h1 h2)⟩
theorem But.of_below {base sb B:Nat} {a b:World} (h:Below B a b) (hB:base<=B):But base sb a b:=⟨h.os,h.tape,h.output,h.size,λg h1 _=>h.block g bO⟩
theorem But.below {base sb B:Nat} {a b:World} (h:But base sb a b) (h1:B<=base) (h2:B<=sb):Below B a b:=⟨h.os,h.tape,h.output,h.size,λg hg=>h.block g bO bO⟩
theorem But.alloc {base sb:Nat} {a w:World} (h:But base sb a w) (hB:base<=w.heap.size) (o:Obj):But base sb a (w.alloc o):=h.trans (But.of_below ((Below.refl _ w).alloc lR o) hB)
theorem But.drew {base sb:Nat} {a w:World} (h:But base sb a w):But base sb a w.drew:=⟨h.os,h.tape,h.output,h.size,h.block⟩
theorem But.setCell {base sb:Nat} {a w:World} (h:But base sb a w) {p:Addr} (hp:base<=p.block\/p.block=sb) (u:Value):But base sb a (w.setCell p u):=
 h.trans ⟨rfl,rfl,rfl,by simp [World.setCell],λg h1 h2=>bS _ _ _ _ bO⟩
theorem But.grown {base sb:Nat} {a w w':World} {row:Option Nat} (h:But base sb a w) (hg:w.grownBy w' row) (hB:base<=w.heap.size) (hr:∀g,row=some g->base<=g):But base sb a w':=
 h.trans ⟨hg.os,hg.tape,hg.output,hg.size,λg h1 h2=>hg.block g bO (λe=>by have:=hr g e.symm;omega)⟩
theorem OwnTabs.tabs {w:World} {base:Nat} {vt:Value} {ts:List M.Table} {hs:List (Value×Value)} (h:OwnTabs w base vt ts hs):TabsAtH w base vt ts hs:=
 ⟨h.len,Lies.of_owns h.row,λi t p h1 h2=>⟨Lies.of_owns (h.each i t p h1 h2).ids,Lies.of_owns (h.each i t p h1 h2).rows⟩⟩
theorem OwnTabs.one {w:World} {base:Nat} {vt:Value} {ts:List M.Table} {hs:List (Value×Value)} (h:OwnTabs w base vt ts hs):∀u∈tabL ts hs,u.oneCell'=true:=tabL_one h.tabs.one
theorem OwnTabs.blk {w:World} {base:Nat} {vt:Value} {ts:List M.Table} {hs:List (Value×Value)} (h:OwnTabs w base vt ts hs) {g:Nat} (hg:g∈blks vt hs):base<=g/\g<w.heap.size:=by
 rcases mem_blks hg with e|⟨p,hp,e⟩
 ·exact h.row.lt g e
 ·obtain ⟨i,hi,rfl⟩:=List.getElem_of_mem hp
  have hit:i<ts.length:=by rw [←h.len];exact hi
  have hk:=h.each i ts[i] hs[i] (List.getElem?_eq_getElem hit) (List.getElem?_eq_getElem hi)
  rcases e with e|e
  ·exact hk.ids.lt g e
  ·exact hk.rows.lt g e
theorem blks_vt {vt:Value} {hs:List (Value×Value)} (h:(blks vt hs).Nodup) {g:Nat} (hg:vt.ownBlock=some g) {p:Value×Value} (hp:p∈hs):p.1.ownBlock≠some g/\p.2.ownBlock≠some g:=by
 unfold blks at h
 rw [List.filterMap_cons,hg] at h
 simp only [List.nodup_cons] at h
 exact ⟨λe=>h.1 (List.mem_filterMap.2 ⟨p.1,List.mem_flatMap.2 ⟨p,hp,by simp⟩,e⟩),λe=>h.1 (List.mem_filterMap.2 ⟨p.2,List.mem_flatMap.2 ⟨p,hp,by simp⟩,e⟩)⟩
theorem blks_rest {vt:Value} {hs:List (Value×Value)} (h:(blks vt hs).Nodup):((hs.flatMap λh=>[h.1,h.2]).filterMap Value.ownBlock).Nodup:=by
 unfold blks at h
 rw [List.filterMap_cons] at h
 cases e:vt.ownBlock<;>rw [e] at h
 ·exact h
 ·exact (List.nodup_cons.1 h).2
theorem blks_pair {vt:Value} {hs:List (Value×Value)} (h:(blks vt hs).Nodup) {i:Nat} {p:Value×Value} (hp:hs[i]?=some p) {g:Nat} (hg:p.1.ownBlock=some g):p.2.ownBlock≠some g:=by
 intro e
 have h2:=blks_rest h
 have hs2:=M.split_at hp
 rw [hs2,List.flatMap_append,List.flatMap_cons,List.filterMap_append,List.filterMap_append,List.nodup_append] at h2
 have h3:=(List.nodup_append.1 h2.2.1).1
 simp [List.filterMap_cons,hg,e] at h3
theorem blks_two {vt:Value} {hs:List (Value×Value)} (h:(blks vt hs).Nodup) {i j:Nat} (hij:i≠j) {p q:Value×Value} (hp:hs[i]?=some p) (hq:hs[j]?=some q) {u v:Value} (hu:u=p.1\/u=p.2) (hv:v=q.1\/v=q.2) {g:Nat} (hg:u.ownBlock=some g):v.ownBlock≠some g:=by
 have key:∀(i j:Nat) (p q:Value×Value) (u v:Value),i<j->hs[i]?=some p->hs[j]?=some q->(u=p.1\/u=p.2)->(v=q.1\/v=q.2)->u.ownBlock=some g->v.ownBlock≠some g:=by
  intro i j p q u v hlt hp hq hu hv hg e
  have h2:=blks_rest h
  have hs2:=M.split_at hp
  rw [hs2,List.flatMap_append,List.filterMap_append,List.nodup_append] at h2
  have h3:=h2.2.1
  rw [List.flatMap_cons,List.filterMap_append,List.nodup_append] at h3
  have m1:g∈[p.1,p.2].filterMap Value.ownBlock:=List.mem_filterMap.2 ⟨u,by rcases hu with rfl|rfl<;>simp,hg⟩
  have hqm:q∈hs.drop (i+1):=by
   have:(hs.drop (i+1))[j-(i+1)]?=some q:=by rw [List.getElem?_drop];rw [show i+1+(j-(i+1))=j by omega];exact hq
   exact List.mem_of_getElem? this
  have m2:g∈((hs.drop (i+1)).flatMap λh=>[h.1,h.2]).filterMap Value.ownBlock:=List.mem_filterMap.2 ⟨v,List.mem_flatMap.2 ⟨q,hqm,by rcases hv with rfl|rfl<;>simp⟩,e⟩
  exact h3.2.2 g m1 g m2 rfl
 rcases Nat.lt_or_gt_of_ne hij with hlt|hgt
 ·exact key i j p q u v hlt hp hq hu hv hg
 ·intro e
  exact key j i q p v u hgt hq hp hv hu e hg
structure PutAt (base:Nat) (W0:World) (h:Value×Value) (zs:List Int) (rs:List M.Row) (a b:Option Value) (W:World):Prop where
 os:W.os=W0.os
 tape:W.tape=W0.tape
 output:W.output=W0.output
 size:W0.heap.size<=W.heap.size
 block:∀g,g<W0.heap.size->(a≠none->h.1.ownBlock≠some g)->(b≠none->h.2.ownBlock≠some g)->W.heap[g]?=W0.heap[g]?
 ids:∀v,a=some v->W.ownsRow base 3 1 v zs.length (zs.map (Value.int .i64))/\(v.ownBlock=h.1.ownBlock\/∃nb,v.ownBlock=some nb/\W0.heap.size<=nb)
 rows:∀v,b=some v->W.ownsRow base 38 8 v rs.length (rs.flatMap rowL)/\(v.ownBlock=h.2.ownBlock\/∃nb,v.ownBlock=some nb/\W0.heap.size<=nb)
section
variable {base:Nat} {W0:World} {h:Value×Value} {zs:List Int} {rs:List M.Row} {a b:Option Value} {W:World}
theorem PutAt.start (base:Nat) (W0:World) (h:Value×Value) (zs:List Int) (rs:List M.Row):PutAt base W0 h zs rs none none W0:=
 ⟨rfl,rfl,rfl,Nat.le_refl _,λ_ _ _ _=>rfl,λv e=>by simp at e,λv e=>by simp at e⟩
theorem PutAt.step {W':World} (k:PutAt base W0 h zs rs a b W) (hb:Below W.heap.size W W'):PutAt base W0 h zs rs a b W':=
 ⟨hb.os.trans k.os,hb.tape.trans k.tape,hb.output.trans k.output,Nat.le_trans k.size hb.size,λg h1 h2 h3=>(hb.block g (by have:=k.size;omega)).trans (k.block g h1 h2 h3),
  λv e=>⟨own_below (k.ids v e).1 hb,(k.ids v e).2⟩,λv e=>⟨own_below (k.rows v e).1 hb,(k.rows v e).2⟩⟩
theorem PutAt.stepA {W':World} {v:Value} (k:PutAt base W0 h zs rs none b W) (hold:∀g,h.1.ownBlock=some g->g<W0.heap.size) (hne:∀g,h.1.ownBlock=some g->h.2.ownBlock≠some g)
  (hown:W'.ownsRow base 3 1 v zs.length (zs.map (Value.int .i64))) (hg:W.grownBy W' h.1.ownBlock) (hloc:v.ownBlock=h.1.ownBlock\/v.ownBlock=some W.heap.size):PutAt base W0 h zs rs (some v) b W':=by
 refine ⟨hg.os.trans k.os,hg.tape.trans k.tape,hg.output.trans k.output,Nat.le_trans k.size hg.size,?_,?_,?_⟩
 ·intro g h1 h2 h3
  rw [hg.block g (by have:=k.size;omega) (λe=>h2 sS e.symm)]
  exact k.block g h1 sS h3
 ·intro u e
  simp only [Option.some.injEq] at e
  subst e
  exact ⟨hown,hloc.imp id (λe=>⟨_,e,k.size⟩)⟩
 ·intro u e
  obtain ⟨k1,k2⟩:=k.rows u e
  refine ⟨k1.kept hg ?_,k2⟩
  by_cases hu:u.ownBlock=none
  ·exact .inl hu
  ·right
   intro e2
   rcases k2 with k2|⟨nb,k2,k3⟩
   ·obtain ⟨g,hgb⟩:=Option.ne_none_iff_exists'.1 hu
    exact hne g (e2▸hgb) (k2▸hgb)
   ·have:=hold nb (by rw [←e2];exact k2)
    omega
theorem PutAt.stepB {W':World} {v:Value} (k:PutAt base W0 h zs rs a none W) (hold:∀g,h.2.ownBlock=some g->g<W0.heap.size) (hne:∀g,h.1.ownBlock=some g->h.2.ownBlock≠some g)
  (hown:W'.ownsRow base 38 8 v rs.length (rs.flatMap rowL)) (hg:W.grownBy W' h.2.ownBlock) (hloc:v.ownBlock=h.2.ownBlock\/v.ownBlock=some W.heap.size):PutAt base W0 h zs rs a (some v) W':=by
 refine ⟨hg.os.trans k.os,hg.tape.trans k.tape,hg.output.trans k.output,Nat.le_trans k.size hg.size,?_,?_,?_⟩
 ·intro g h1 h2 h3
  rw [hg.block g (by have:=k.size;omega) (λe=>h3 sS e.symm)]
  exact k.block g h1 h2 sS
 ·intro u e
  obtain ⟨k1,k2⟩:=k.ids u e
  refine ⟨k1.kept hg ?_,k2⟩
  by_cases hu:u.ownBlock=none
  ·exact .inl hu
  ·right
   intro e2
   rcases k2 with k2|⟨nb,k2,k3⟩
   ·obtain ⟨g,hgb⟩:=Option.ne_none_iff_exists'.1 hu
    exact hne g (k2▸hgb) (e2▸hgb)
   ·have:=hold nb (by rw [←e2];exact k2)
    omega
 ·intro u e
  simp only [Option.some.injEq] at e
  subst e
  exact ⟨hown,hloc.imp id (λe=>⟨_,e,k.size⟩)⟩
end
theorem step_append_own_atK2 {P:Program} {ops:Array Oper} {o:Oper} {a:Act} {w:World} {K:Act->World->Prop} {Q:Exit->Act->World->Prop} {E:Prop}
  (hgd:o.guard=none) (s x:Operand) (t:TypeId) (hop:o.op=Op.call {callee:=Callee.builtin Builtin.append,args:=#[s,x],argTypes:=#[t,t]})
  (base:Nat) (e:TypeId) (i:TypeInfo) (z:Value) (size bytes:Nat) (ht:P.underlying t=some (.slice e)) (hi:P.info? e=some i) (hz:i.zero=some z)
  (hsize:i.size=size) (hby:i.bytes=bytes) (hzs:z.cells.size=size) (hsz:0<size) (v:Value) (n:Nat) (xs:List Value) (hown:w.ownsRow base e size v n xs) (hs:a.eval s=v)
  (ad:Addr) (m c:Nat) (news:List Value) (hx:a.eval x=.slice (some ad) m c) (hl:news.length=m*size) (hnews:∀j u,news[j]?=some u->w.cell? (ad.add j)=some u) (h1:∀u∈news,u.oneCell'=true)
  (h63:n+m<=maxLen) (hbytes:(n+m)*bytes<=140737488355328) (hbase:base<=w.heap.size)
  (hK:∀v' w',w'.ownsRow base e size v' (n+m) (xs++news)->w.grownBy w' v.ownBlock->(v'.ownBlock=v.ownBlock\/v'.ownBlock=some w.heap.size)->K (a.put o.dst v') w'):
  if Region.wanted o (yielded ops a.tmps)=true then Oper.wp P o a w K Q else E:=by
 have hw:Region.wanted o (yielded ops a.tmps)=true:=by simp [Region.wanted,hgd]
 rw [if_pos hw]
 obtain ⟨v',w',hr,k1,k2,_,k3⟩:=run_append_own_at (P:=P) w base t o.type e i z size bytes ht hi hz hsize hby hzs hsz v n xs hown ad m c news hl hnews h1 h63 hbytes hbase
 unfold Oper.wp
 simp [execOp,hop,resolve,invoke,builtin,hs,hx,hr,Result.andThen]
 exact hK v' w' k1 k2 k3
theorem Blk.grown {w w':World} {g:Nat} {t:TypeId} {cs:Array Value} {row:Option Nat} (h:Blk w g t cs) (hg:w.grownBy w' row) (hne:row≠some g):Blk w' g t cs:=(hg.block g h.lt (λe=>hne e.symm)).trans h
theorem blk_cells {w:World} {g:Nat} {t:TypeId} {cs:List Value} (h:Blk w g t cs.toArray):∀j u,cs[j]?=some u->w.cell? ((⟨g,0,none⟩:Addr).add j)=some u:=by
 intro j u hj
 rw [Addr.add_lit,Nat.zero_add,h.cell j]
 simpa using hj
theorem blk_row {w:World} {g:Nat} {t:TypeId} {r:M.Row} (h:Blk w g t (rowC r)):∀j u,(rowL r)[j]?=some u->w.cell? ((⟨g,0,none⟩:Addr).add j)=some u:=by
 have e:rowC r=(rowL r).toArray:=rfl
 rw [e] at h
 exact blk_cells h
theorem blk_one {w:World} {g:Nat} {t:TypeId} {u:Value} (h:Blk w g t #[u]):∀j x,[u][j]?=some x->w.cell? ((⟨g,0,none⟩:Addr).add j)=some x:=blk_cells (cs:=[u]) h
theorem one_int (z:Int):∀u∈[Value.int .i64 z],u.oneCell'=true:=by
 intro u hu
 simp only [List.mem_singleton] at hu
 subst hu;rfl
theorem one_row (r:M.Row):∀u∈rowL r,u.oneCell'=true:=by
 intro u hu
 simp only [rowL,List.mem_cons,List.not_mem_nil,or_false] at hu
 rcases hu with rfl|rfl|rfl|rfl|rfl|rfl|rfl|rfl<;>rfl
section
variable {base:Nat} {W0 W:World} {h:Value×Value} {zs:List Int} {rs:List M.Row} {a b:Option Value}
theorem PutAt.oldA {n:Nat} {xs:List Value} (k:PutAt base W0 h zs rs none b W) (hown:W0.ownsRow base 3 1 h.1 n xs) (hne:∀g,h.1.ownBlock=some g->h.2.ownBlock≠some g):W.ownsRow base 3 1 h.1 n xs:=
 own_same hown (λg hg=>k.block g (hown.lt g hg).2 (λe=>absurd rfl e) (λ_=>hne g hg))
theorem PutAt.oldB {n:Nat} {xs:List Value} (k:PutAt base W0 h zs rs a none W) (hown:W0.ownsRow base 38 8 h.2 n xs) (hne:∀g,h.1.ownBlock=some g->h.2.ownBlock≠some g):W.ownsRow base 38 8 h.2 n xs:=
 own_same hown (λg hg=>k.block g (hown.lt g hg).2 (λ_ e=>hne g e hg) (λe=>absurd rfl e))
end
theorem put_done {base sb g0 cap0 i:Nat} {wc W W':World} {ts:List M.Table} {hs:List (Value×Value)} {p:Value×Value} {t t':M.Table} {v5 v6:Value} (hown:OwnTabs wc base (.slice (some ⟨g0,0,none⟩) ts.length cap0) ts hs)
  (hat:ts[i]?=some t) (hp:hs[i]?=some p) (S:PutAt base wc p t'.ids t'.rows (some v5) (some v6) W) (hmask:t'.mask=t.mask)
  (hos:W'.os=W.os) (htp:W'.tape=W.tape) (hou:W'.output=W.output) (hsz:W'.heap.size=W.heap.size) (hblk:∀g,g≠g0->W'.heap[g]?=W.heap[g]?)
  (hrow:W.ownsRow base 102 3 (.slice (some ⟨g0,0,none⟩) ts.length cap0) ts.length (tabL ts hs)->W'.ownsRow base 102 3 (.slice (some ⟨g0,0,none⟩) ts.length cap0) ts.length (tabL ts (hs.set i (v5,v6)))):
  TabsAtH W' base (.slice (some ⟨g0,0,none⟩) ts.length cap0) (ts.set i t') (hs.set i (v5,v6))/\But base sb wc W':=by
 have hlt:=(List.getElem?_eq_some_iff.1 hat).1
 have hl:=hown.len
 have hmem:p∈hs:=List.mem_of_getElem? hp
 have hv:=blks_vt hown.apart (g:=g0) rfl hmem
 have k:=hown.each i t p hat hp
 have hrow0:W.ownsRow base 102 3 (.slice (some ⟨g0,0,none⟩) ts.length cap0) ts.length (tabL ts hs):=
  own_same hown.row (λg hg=>by
   have e:g=g0:=by simpa [Value.ownBlock] using hg.symm
   subst e
   exact S.block g (hown.row.lt g hg).2 (λ_=>hv.1) (λ_=>hv.2))
 have hfar:∀(v:Value),(∃nb,v.ownBlock=some nb/\wc.heap.size<=nb)->∀g,v.ownBlock=some g->g≠g0:=by
  rintro v ⟨nb,e1,e2⟩ g hg rfl
  rw [e1] at hg
  simp only [Option.some.injEq] at hg
  have:=(hown.row.lt g rfl).2
  omega
 refine ⟨⟨by simp [hl],?_,?_⟩,?_⟩
 ·have e:tabL (ts.set i t') (hs.set i (v5,v6))=tabL ts (hs.set i (v5,v6)):=by
   clear hrow hrow0 hfar hv hmem k S hown hblk
   induction ts generalizing hs i with
   |nil=>rfl
   |cons a ts ih=>
    match hs,hl,i with
    |q::hs,hl,0=>
     simp only [List.getElem?_cons_zero,Option.some.injEq] at hat
     subst hat
     simp [tabL_cons,hmask]
    |q::hs,hl,i+1=>
     simp only [List.set_cons_succ,tabL_cons]
     rw [ih (by simpa using hat) (by simpa using hp) (by simpa using hlt) (by simpa using hl)]
  rw [e]
  have:=Lies.of_owns (hrow hrow0)
  simpa using this
 ·intro j u q h1 h2
  by_cases hj:j=i
  ·subst hj
   rw [List.getElem?_set_self bO] at h1 h2
   simp only [Option.some.injEq] at h1 h2
   subst h1;subst h2
   obtain ⟨k1,k2⟩:=S.ids v5 rfl
   obtain ⟨k3,k4⟩:=S.rows v6 rfl
   refine ⟨Lies.of_owns (own_same k1 (λg hg=>hblk g ?_)),Lies.of_owns (own_same k3 (λg hg=>hblk g ?_))⟩
   ·rcases k2 with k2|k2
    ·intro e;subst e;exact hv.1 (by rw [←k2];exact hg)
    ·exact hfar v5 k2 g hg
   ·rcases k4 with k4|k4
    ·intro e;subst e;exact hv.2 (by rw [←k4];exact hg)
    ·exact hfar v6 k4 g hg
  ·rw [List.getElem?_set_ne (λe=>hj e.symm)] at h1 h2
   have kj:=hown.each j u q h1 h2
   have hvq:=blks_vt hown.apart (g:=g0) rfl (List.mem_of_getElem? h2)
   have same:∀(x:Value),(x=q.1\/x=q.2)->∀g,x.ownBlock=some g->g<wc.heap.size->W'.heap[g]?=wc.heap[g]?:=by
    intro x hx g hg hgl
    have n0:g≠g0:=by
     intro e;subst e
     rcases hx with rfl|rfl
     ·exact hvq.1 hg
     ·exact hvq.2 hg
    rw [hblk g n0]
    exact S.block g hgl (λ_=>blks_two hown.apart hj h2 hp hx (.inl rfl) hg) (λ_=>blks_two hown.apart hj h2 hp hx (.inr rfl) hg)
   exact ⟨Lies.of_owns (own_same kj.ids (λg hg=>same _ (.inl rfl) g hg (kj.ids.lt g hg).2)),Lies.of_owns (own_same kj.rows (λg hg=>same _ (.inr rfl) g hg (kj.rows.lt g hg).2))⟩
 ·refine ⟨hos.trans S.os,htp.trans S.tape,hou.trans S.output,by rw [hsz];exact S.size,λg h1 h2=>?_⟩
  have hgl:g<wc.heap.size:=by have:=(hown.row.lt g0 rfl);omega
  rw [hblk g (by have:=(hown.row.lt g0 rfl).1;omega)]
  exact S.block g hgl (λ_ e=>by have:=(k.ids.lt g e).1;omega) (λ_ e=>by have:=(k.rows.lt g e).1;omega)
theorem putT_found {ts:List M.Table} {m:Int} {i:Nat} {t:M.Table} (hs:Stands ts m i) (ht:ts[i]?=some t) (hm:t.mask=m) (id:Int) (r:M.Row):
  M.putT id m r ts=ts.set i ⟨m,t.ids++[id],t.rows++[r]⟩:=by
 induction ts generalizing i with
 |nil=>simp at ht
 |cons a ts ih=>
  obtain ⟨h1,h2,h3⟩:=hs
  match i with
  |0=>
   simp only [List.getElem?_cons_zero,Option.some.injEq] at ht
   subst ht
   unfold M.putT
   rw [if_neg bO,if_pos hm]
   rfl
  |i+1=>
   have ha:=h2 0 a sS bO
   unfold M.putT
   rw [if_pos ha,ih (i:=i) ⟨by simp only [List.length_cons] at h1;omega,λk u hu hk=>h2 (k+1) u (by simpa using hu) bO,λk u hu hk=>h3 (k+1) u (by simpa using hu) bO⟩ (by simpa using ht)]
   rfl
theorem putT_new {ts:List M.Table} {m:Int} {i:Nat} (hs:Stands ts m i) (hn:¬∃t,ts[i]?=some t/\t.mask=m) (id:Int) (r:M.Row):
  M.putT id m r ts=ts.take i++⟨m,[id],[r]⟩::ts.drop i:=by
 induction ts generalizing i with
 |nil=>
  obtain ⟨h1,_⟩:=hs
  have:i=0:=by simpa using h1
  subst this
  rfl
 |cons a ts ih=>
  obtain ⟨h1,h2,h3⟩:=hs
  match i with
  |0=>
   have ha:=h3 0 a sS lR
   have hne:a.mask≠m:=λe=>hn ⟨a,by simp,e⟩
   unfold M.putT
   rw [if_neg bO,if_neg hne]
   rfl
  |i+1=>
   have ha:=h2 0 a sS bO
   unfold M.putT
   rw [if_pos ha,ih (i:=i) ⟨by simp only [List.length_cons] at h1;omega,λk u hu hk=>h2 (k+1) u (by simpa using hu) bO,λk u hu hk=>h3 (k+1) u (by simpa using hu) bO⟩ (λ⟨t,h4,h5⟩=>hn ⟨t,by simpa using h4,h5⟩)]
   rfl
theorem tabL_append (ts us:List M.Table) (hs ks:List (Value×Value)) (h:hs.length=ts.length):tabL (ts++us) (hs++ks)=tabL ts hs++tabL us ks:=by
 unfold tabL
 rw [List.zip_append h.symm,List.flatMap_append]
theorem tabL_take (ts:List M.Table) (hs:List (Value×Value)) (i:Nat) (h:hs.length=ts.length):tabL (ts.take i) (hs.take i)=(tabL ts hs).take (i*3):=by
 induction ts generalizing hs i with
 |nil=>simp [tabL]
 |cons t ts ih=>
  match hs,h,i with
  |p::hs,h,0=>simp [tabL]
  |p::hs,h,i+1=>
   rw [List.take_succ_cons,List.take_succ_cons,tabL_cons,tabL_cons,ih hs i (by simpa using h),show (i+1)*3=i*3+3 by omega]
   rfl
theorem tabL_drop (ts:List M.Table) (hs:List (Value×Value)) (i:Nat) (h:hs.length=ts.length):tabL (ts.drop i) (hs.drop i)=(tabL ts hs).drop (i*3):=by
 induction ts generalizing hs i with
 |nil=>simp [tabL]
 |cons t ts ih=>
  match hs,h,i with
  |p::hs,h,0=>simp
  |p::hs,h,i+1=>
   rw [List.drop_succ_cons,List.drop_succ_cons,tabL_cons,ih hs i (by simpa using h),show (i+1)*3=i*3+3 by omega]
   rfl
def nilP:Value×Value:=(.slice none 0 0,.slice none 0 0)
theorem own_insert {w W w':World} {base:Nat} {vt v':Value} {ts:List M.Table} {hs:List (Value×Value)} {i:Nat} {m:Int} (h:OwnTabs w base vt ts hs) (hi:i<=ts.length) (hb:Below w.heap.size w W)
  (hin:Inserted W base vt ts.length i (tabL ts hs) [.int .i64 m,.slice none 0 0,.slice none 0 0] v' w'):OwnTabs w' base v' (ts.take i++⟨m,[],[]⟩::ts.drop i) (hs.take i++nilP::hs.drop i):=by
 obtain ⟨k1,k2,k3⟩:=hin
 have hl:=h.len
 have hlen:(ts.take i++(⟨m,[],[]⟩:M.Table)::ts.drop i).length=ts.length+1:=by simp;omega
 have hrest:∀(u:Value) (p:Value×Value),p∈hs->(u=p.1\/u=p.2)->u.ownBlock=none\/u.ownBlock≠vt.ownBlock:=by
  intro u p hp hu
  cases e:u.ownBlock with
  |none=>exact .inl rfl
  |some g=>
   right
   intro e2
   have:=blks_vt h.apart e2.symm hp
   rcases hu with rfl|rfl
   ·exact this.1 e
   ·exact this.2 e
 have hkeep:∀(t:M.Table) (p:Value×Value),p∈hs->OwnTab w base t p->OwnTab w' base t p:=λt p hp k=>
  ⟨(own_below k.ids hb).kept k2 (hrest _ p hp (.inl rfl)),(own_below k.rows hb).kept k2 (hrest _ p hp (.inr rfl))⟩
 refine ⟨by simp;omega,?_,?_,?_⟩
 ·rw [hlen,tabL_append _ _ _ _ sO,tabL_take _ _ _ hl,nilP,tabL_cons,tabL_drop _ _ _ hl]
  simpa using k1
 ·intro j t p h1 h2
  rcases Nat.lt_trichotomy j i with hj|hj|hj
  ·rw [List.getElem?_append_left sO,List.getElem?_take,if_pos hj] at h1 h2
   exact hkeep t p (List.mem_of_getElem? h2) (h.each j t p h1 h2)
  ·subst hj
   have e1:(ts.take j).length=j:=by simp;omega
   have e2:(hs.take j).length=j:=by simp;omega
   rw [List.getElem?_append_right bO,e1,Nat.sub_self] at h1
   rw [List.getElem?_append_right bO,e2,Nat.sub_self] at h2
   simp only [List.getElem?_cons_zero,Option.some.injEq] at h1 h2
   subst h1;subst h2
   exact ⟨World.ownsRow_nil _ _ _ _,World.ownsRow_nil _ _ _ _⟩
  ·have e1:(ts.take i).length=i:=by simp;omega
   have e2:(hs.take i).length=i:=by simp;omega
   rw [List.getElem?_append_right bO,e1,show j-i=(j-i-1)+1 by omega,List.getElem?_cons_succ,List.getElem?_drop,show i+(j-i-1)=j-1 by omega] at h1
   rw [List.getElem?_append_right bO,e2,show j-i=(j-i-1)+1 by omega,List.getElem?_cons_succ,List.getElem?_drop,show i+(j-i-1)=j-1 by omega] at h2
   exact hkeep t p (List.mem_of_getElem? h2) (h.each (j-1) t p h1 h2)
 ·have e:(hs.take i++nilP::hs.drop i).flatMap (λh=>[h.1,h.2])=(hs.take i).flatMap (λh=>[h.1,h.2])++(.slice none 0 0::.slice none 0 0::(hs.drop i).flatMap (λh=>[h.1,h.2])):=by
   rw [List.flatMap_append,List.flatMap_cons];rfl
  have e2:((hs.take i++nilP::hs.drop i).flatMap (λh=>[h.1,h.2])).filterMap Value.ownBlock=(hs.flatMap (λh=>[h.1,h.2])).filterMap Value.ownBlock:=by
   have e3:hs.flatMap (λh=>[h.1,h.2])=(hs.take i).flatMap (λh=>[h.1,h.2])++(hs.drop i).flatMap (λh=>[h.1,h.2]):=by rw [←List.flatMap_append,List.take_append_drop]
   rw [e,e3,List.filterMap_append,List.filterMap_append]
   simp [List.filterMap_cons,Value.ownBlock]
  have ha:=h.apart
  have ha2:=blks_rest ha
  unfold blks
  rw [List.filterMap_cons]
  rcases k3 with k3|⟨nb,k3,k4⟩
  ·rw [k3]
   unfold blks at ha
   rw [List.filterMap_cons] at ha
   cases e5:vt.ownBlock<;>rw [e5] at ha
   ·simp only [];rw [e2];exact ha
   ·simp only [];rw [e2];exact ha
  ·rw [k3]
   simp only []
   rw [e2,List.nodup_cons]
   refine ⟨λhm=>?_,ha2⟩
   have:nb∈blks vt hs:=by
    unfold blks
    rw [List.filterMap_cons]
    cases vt.ownBlock
    ·exact hm
    ·exact List.mem_cons_of_mem _ hm
   have h1:=(h.blk this).2
   have h2:=hb.size
   omega
theorem insert_calls {w:World} {base:Nat} {vt:Value} {n i vb:Nat} {xs news:List Value} (h:w.ownsRow base 102 3 vt n xs) (hn:n<=1000000) (hi:i<=n) (hb:base<=w.heap.size)
  (hl:news.length=3) (hv:w.heap[vb]?=some (.cells news.toArray 102 (0,0))) (hvb:vt.ownBlock≠some vb) (h1:∀u∈news,u.oneCell'=true) (h2:∀u∈xs,u.oneCell'=true):
  Calls Tryz.prog 72 #[vt,.int .i64 i,.slice (some ⟨vb,0,none⟩) 1 1] w λe w'=>∃v',e=.returned v'/\Inserted w base vt n i xs news v' w':=by
 rcases Nat.lt_or_ge i n with hlt|hge
 ·obtain ⟨g,cap,rfl,hg,hg2⟩:=own_val h bO
  have hcap:n<=cap:=by
   rcases h.2 with ⟨e,_⟩|⟨g',cap',cur,e,_,_,hnc,_⟩
   ·simp at e
   ·simp only [Value.slice.injEq,true_and] at e;omega
  rcases Nat.lt_or_ge n cap with hr|hr
  ·exact insert_shift h hn hlt hr (λe=>hvb (by simp [Value.ownBlock,e])) hl hv h1 h2
  ·obtain rfl:cap=n:=by omega
   exact insert_grow h hn hlt hb hl hv h1 h2
 ·obtain rfl:i=n:=by omega
  exact insert_end h hn hb hl (λj u hj=>by rw [cell_of_row w vb j _ _ (0,0) hv];simpa using hj) h1
theorem set_middle {α:Type} (a b:List α) (x y:α) (i:Nat) (h:a.length=i):(a++x::b).set i y=a++y::b:=by
 subst h
 rw [List.set_append_right _ _ lR,Nat.sub_self]
 rfl
theorem get_middle {α:Type} (a b:List α) (x:α) (i:Nat) (h:a.length=i):(a++x::b)[i]?=some x:=by
 subst h
 rw [List.getElem?_append_right lR,Nat.sub_self]
 rfl
theorem put_fin {base sb g0 cap0 i:Nat} {w wc W W':World} {next m id:Int} {r:M.Row} {ts0 ts:List M.Table} {hs:List (Value×Value)} {p:Value×Value} {t:M.Table} {v5 v6:Value} (hown:OwnTabs wc base (.slice (some ⟨g0,0,none⟩) ts.length cap0) ts hs)
  (hat:ts[i]?=some t) (hp:hs[i]?=some p) (S:PutAt base wc p (t.ids++[id]) (t.rows++[r]) (some v5) (some v6) W) (hmask:t.mask=m) (hlaw:M.putT id m r ts0=ts.set i ⟨m,t.ids++[id],t.rows++[r]⟩)
  (hbx:Blk wc sb 51 #[.slice (some ⟨g0,0,none⟩) ts.length cap0,.int .i64 next]) (hsb:sb<base) (hbut:But base sb w wc)
  (hW:W'=(W.setCell ⟨g0,i*3+1,none⟩ v5).setCell ⟨g0,i*3+2,none⟩ v6\/W'=(W.setCell ⟨g0,i*3+2,none⟩ v6).setCell ⟨g0,i*3+1,none⟩ v5):
  ∃vt' hs',Blk W' sb 51 #[vt',.int .i64 next]/\TabsAtH W' base vt' (M.putT id m r ts0) hs'/\But base sb w W':=by
 have hlt:=(List.getElem?_eq_some_iff.1 hat).1
 have k:=hown.each i t p hat hp
 have hg0:=hown.row.lt g0 rfl
 have far:∀g,g≠g0->W'.heap[g]?=W.heap[g]?:=by
  intro g hg
  rcases hW with rfl|rfl<;>rw [bS _ _ _ _ hg,bS _ _ _ _ hg]
 have fin:=put_done (sb:=sb) (t':=⟨m,t.ids++[id],t.rows++[r]⟩) hown hat hp S hmask.symm (W':=W') (by rcases hW with rfl|rfl<;>rfl) (by rcases hW with rfl|rfl<;>rfl) (by rcases hW with rfl|rfl<;>rfl) (by rcases hW with rfl|rfl<;>simp [World.setCell]) far (by
  intro h
  rcases hW with rfl|rfl
  ·have:=own_put (own_put h (i*3+1) v5) (i*3+2) v6
   rw [tabL_set ts hs i hown.len hlt (v5,v6)] at this
   exact this
  ·have:=own_put (own_put h (i*3+2) v6) (i*3+1) v5
   rw [tabL_set_comm ts hs i hown.len hlt (v5,v6)] at this
   exact this)
 refine ⟨_,_,?_,by rw [hlaw];exact fin.1,hbut.trans fin.2⟩
 exact (far sb bO).trans ((S.block sb hbx.lt (λ_ e=>by have:=(k.ids.lt sb e).1;omega) (λ_ e=>by have:=(k.rows.lt sb e).1;omega)).trans hbx)
theorem rowsL_set (rs:List M.Row) (k:Nat) (r:M.Row) (hk:k<rs.length):
  ((((((((rs.flatMap rowL).set (k*8) (.int .i64 r.X)).set (k*8+1) (.int .i64 r.Y)).set (k*8+2) (.int .i64 r.PX)).set (k*8+3) (.int .i64 r.PY)).set (k*8+4) (.int .i64 r.W)).set (k*8+5) (.int .i64 r.H)).set (k*8+6) (.int .i64 r.M)).set (k*8+7) (.int .i64 r.R)=(rs.set k r).flatMap rowL:=by
 induction rs generalizing k with
 |nil=>simp at hk
 |cons a rs ih=>
  match k with
  |0=>simp [rowL]
  |k+1=>
   have e:∀j,(k+1)*8+j=(k*8+j)+8:=λj=>by omega
   have e0:(k+1)*8=k*8+8:=by omega
   simp only [e]
   rw [e0]
   have hc:∀(l:List Value) (j:Nat) (v:Value),(rowL a++l).set (j+8) v=rowL a++l.set j v:=λl j v=>by simp [rowL]
   rw [List.flatMap_cons,hc,hc,hc,hc,hc,hc,hc,hc,List.set_cons_succ,List.flatMap_cons,ih k (by simpa using hk)]
theorem rowsL_take (rs:List M.Row) (m:Nat):(rs.flatMap rowL).take (m*8)=(rs.take m).flatMap rowL:=by
 induction rs generalizing m with
 |nil=>simp
 |cons a rs ih=>
  match m with
  |0=>simp
  |m+1=>
   have hl:(rowL a).length=8:=rfl
   rw [List.flatMap_cons,List.take_succ_cons,List.flatMap_cons,show (m+1)*8=(rowL a).length+m*8 by omega,List.take_length_add_append,ih]
theorem own_short {w:World} {base:Nat} {e:TypeId} {k n m g cap:Nat} {xs:List Value} (h:w.ownsRow base e k (.slice (some ⟨g,0,none⟩) n cap) n xs) (hm:m<=n):
  w.ownsRow base e k (.slice (some ⟨g,0,none⟩) m cap) m (xs.take (m*k)):=by
 have hle:m*k<=n*k:=Nat.mul_le_mul_right k hm
 refine ⟨by rw [List.length_take,h.1];omega,.inr ?_⟩
 rcases h.2 with ⟨e,_⟩|⟨g',cap',cur,e,hb,hg,hnc,hcm,hcs,htk⟩
 ·simp at e
 simp only [Value.slice.injEq,Option.some.injEq,Addr.mk.injEq,and_true,true_and] at e
 obtain ⟨rfl,rfl⟩:=e
 exact ⟨g,cap,cur,rfl,hb,hg,by omega,hcm,hcs,by rw [←htk,List.take_take];congr 1;omega⟩
theorem without_set_take {α:Type} (l:List α) (k:Nat) (x:α) (hx:l[l.length-1]?=some x):M.without l k=(l.set k x).take (l.length-1):=by
 unfold M.without
 rw [List.getLast?_eq_getElem?,hx]
 simp only [List.dropLast_eq_take,List.length_set]
theorem tabL_mask {ts:List M.Table} {hs:List (Value×Value)} {i:Nat} {t t':M.Table} (hat:ts[i]?=some t) (hm:t'.mask=t.mask) (hl:hs.length=ts.length):tabL (ts.set i t') hs=tabL ts hs:=by
 induction ts generalizing hs i with
 |nil=>rfl
 |cons a ts ih=>
  match hs,hl,i with
  |q::hs,hl,0=>
   simp only [List.getElem?_cons_zero,Option.some.injEq] at hat
   subst hat
   simp [tabL_cons,hm]
  |q::hs,hl,i+1=>
   simp only [List.set_cons_succ,tabL_cons]
   rw [ih (by simpa using hat) (by simpa using hl)]
theorem blks_set {vt:Value} {hs:List (Value×Value)} {i:Nat} {p q:Value×Value} (hp:hs[i]?=some p) (h1:q.1.ownBlock=p.1.ownBlock) (h2:q.2.ownBlock=p.2.ownBlock):blks vt (hs.set i q)=blks vt hs:=by
 have e:∀(hs:List (Value×Value)) (i:Nat),hs[i]?=some p->((hs.set i q).flatMap λh=>[h.1,h.2]).filterMap Value.ownBlock=(hs.flatMap λh=>[h.1,h.2]).filterMap Value.ownBlock:=by
  intro hs
  induction hs with
  |nil=>intro i h;simp at h
  |cons a hs ih=>
   intro i h
   match i with
   |0=>
    simp only [List.getElem?_cons_zero,Option.some.injEq] at h
    subst h
    simp only [List.set_cons_zero,List.flatMap_cons,List.filterMap_append]
    congr 1
    simp [List.filterMap_cons,h1,h2]
   |i+1=>
    simp only [List.set_cons_succ,List.flatMap_cons,List.filterMap_append]
    rw [ih i (by simpa using h)]
 unfold blks
 rw [List.filterMap_cons,List.filterMap_cons,e hs i hp]
theorem OwnTabs.turn {w W:World} {base:Nat} {vt:Value} {ts:List M.Table} {hs:List (Value×Value)} {i:Nat} {t t':M.Table} {p q:Value×Value} (h:OwnTabs w base vt ts hs) (hat:ts[i]?=some t) (hp:hs[i]?=some p)
  (hm:t'.mask=t.mask) (hrow:W.ownsRow base 102 3 vt ts.length (tabL ts (hs.set i q)))
  (hk:OwnTab W base t' q) (h1:q.1.ownBlock=p.1.ownBlock) (h2:q.2.ownBlock=p.2.ownBlock)
  (hsame:∀g,g<w.heap.size->vt.ownBlock≠some g->p.1.ownBlock≠some g->p.2.ownBlock≠some g->W.heap[g]?=w.heap[g]?):OwnTabs W base vt (ts.set i t') (hs.set i q):=by
 have hl:=h.len
 have hlt:=(List.getElem?_eq_some_iff.1 hat).1
 have hlt2:=(List.getElem?_eq_some_iff.1 hp).1
 refine ⟨by simp [hl],?_,?_,by rw [blks_set hp h1 h2];exact h.apart⟩
 ·rw [List.length_set,tabL_mask hat hm (by simp [hl])]
  exact hrow
 ·intro j u x h3 h4
  by_cases hj:j=i
  ·subst hj
   rw [List.getElem?_set_self bO] at h3 h4
   simp only [Option.some.injEq] at h3 h4
   subst h3;subst h4
   exact hk
  ·rw [List.getElem?_set_ne (λe=>hj e.symm)] at h3 h4
   have kj:=h.each j u x h3 h4
   have hvx:=λg (hg:vt.ownBlock=some g)=>blks_vt h.apart hg (List.mem_of_getElem? h4)
   have same:∀(z:Value),(z=x.1\/z=x.2)->∀g,z.ownBlock=some g->g<w.heap.size->W.heap[g]?=w.heap[g]?:=by
    intro z hz g hg hgl
    refine hsame g hgl ?_ (blks_two h.apart hj h4 hp hz (.inl rfl) hg) (blks_two h.apart hj h4 hp hz (.inr rfl) hg)
    intro e
    rcases hz with rfl|rfl
    ·exact (hvx g e).1 hg
    ·exact (hvx g e).2 hg
   exact ⟨own_same kj.ids (λg hg=>same _ (.inl rfl) g hg (kj.ids.lt g hg).2),own_same kj.rows (λg hg=>same _ (.inr rfl) g hg (kj.rows.lt g hg).2)⟩
theorem tabL_erase (ts:List M.Table) (hs:List (Value×Value)) (i:Nat) (h:hs.length=ts.length):tabL (ts.eraseIdx i) (hs.eraseIdx i)=(tabL ts hs).take (i*3)++(tabL ts hs).drop ((i+1)*3):=by
 rw [List.eraseIdx_eq_take_drop_succ,List.eraseIdx_eq_take_drop_succ,tabL_append _ _ _ _ (by simp [h]),tabL_take _ _ _ h,tabL_drop _ _ _ h]
theorem OwnTabs.less {w W:World} {base:Nat} {vt vt':Value} {ts:List M.Table} {hs:List (Value×Value)} {i:Nat} (h:OwnTabs w base vt ts hs) (hi:i<ts.length)
  (hrow:W.ownsRow base 102 3 vt' (ts.length-1) ((tabL ts hs).take (i*3)++(tabL ts hs).drop ((i+1)*3))) (hv:vt'.ownBlock=vt.ownBlock) (hg:w.grownBy W vt.ownBlock):
  OwnTabs W base vt' (ts.eraseIdx i) (hs.eraseIdx i):=by
 have hl:=h.len
 refine ⟨by rw [List.length_eraseIdx,List.length_eraseIdx,hl],?_,?_,?_⟩
 ·rw [List.length_eraseIdx,if_pos hi,tabL_erase _ _ _ hl]
  exact hrow
 ·intro j t p h1 h2
  have key:∀j',ts[j']?=some t->hs[j']?=some p->OwnTab W base t p:=λj' k1 k2=>by
   have kj:=h.each j' t p k1 k2
   have hn:∀u,(u=p.1\/u=p.2)->u.ownBlock=none\/u.ownBlock≠vt.ownBlock:=by
    intro u hu
    cases e:u.ownBlock with
    |none=>exact .inl rfl
    |some g=>
     right
     intro e2
     have:=blks_vt h.apart e2.symm (List.mem_of_getElem? k2)
     rcases hu with rfl|rfl
     ·exact this.1 e
     ·exact this.2 e
   exact ⟨kj.ids.kept hg (hn _ (.inl rfl)),kj.rows.kept hg (hn _ (.inr rfl))⟩
  rw [List.getElem?_eraseIdx] at h1 h2
  split at h1
  ·rw [if_pos (by assumption)] at h2;exact key j h1 h2
  ·rw [if_neg (by assumption)] at h2;exact key (j+1) h1 h2
 ·have hb:=h.apart
  have hsub:(blks vt' (hs.eraseIdx i)).Sublist (blks vt hs):=by
   have e:∀(l:List Value) (v v':Value),v'.ownBlock=v.ownBlock->(v'::l).filterMap Value.ownBlock=(v::l).filterMap Value.ownBlock:=λl v v' e=>by rw [List.filterMap_cons,List.filterMap_cons,e]
   unfold blks
   rw [e _ _ _ hv]
   refine List.Sublist.filterMap _ (List.Sublist.cons_cons _ ?_)
   rw [List.flatMap_def,List.flatMap_def]
   have hs1:(hs.eraseIdx i).Sublist hs:=List.eraseIdx_sublist hs i
   generalize hs.eraseIdx i=ks at hs1
   clear hrow h hb hl
   induction hs1 with
   |slnil=>exact List.Sublist.refl _
   |cons a _ ih=>simp only [mC,List.flatten_cons];exact ih.trans (List.sublist_append_right _ _)
   |cons_cons a _ ih=>simp only [mC,List.flatten_cons];exact List.Sublist.append (List.Sublist.refl _) ih
  exact hb.sublist hsub
theorem cut_swap {w W:World} {base gi gr n ci cr k:Nat} {ids:List Int} {rows:List M.Row} {a:Int} {r:M.Row} (h1:w.ownsRow base 3 1 (.slice (some ⟨gi,0,none⟩) n ci) n (ids.map (.int .i64)))
  (h2:w.ownsRow base 38 8 (.slice (some ⟨gr,0,none⟩) n cr) n (rows.flatMap rowL)) (hne:gi≠gr) (hk:k<rows.length)
  (hW:(((((((((w.setCell ⟨gi,k,none⟩ (.int .i64 a)).setCell ⟨gr,k*8,none⟩ (.int .i64 r.X)).setCell ⟨gr,k*8+1,none⟩ (.int .i64 r.Y)).setCell ⟨gr,k*8+2,none⟩ (.int .i64 r.PX)).setCell ⟨gr,k*8+3,none⟩ (.int .i64 r.PY)).setCell ⟨gr,k*8+4,none⟩ (.int .i64 r.W)).setCell ⟨gr,k*8+5,none⟩ (.int .i64 r.H)).setCell ⟨gr,k*8+6,none⟩ (.int .i64 r.M)).setCell ⟨gr,k*8+7,none⟩ (.int .i64 r.R)).drew=W):
  W.ownsRow base 3 1 (.slice (some ⟨gi,0,none⟩) n ci) n ((ids.set k a).map (.int .i64))/\W.ownsRow base 38 8 (.slice (some ⟨gr,0,none⟩) n cr) n ((rows.set k r).flatMap rowL)/\
  (∀g,g≠gi->g≠gr->W.heap[g]?=w.heap[g]?)/\W.os=w.os/\W.tape=w.tape/\W.output=w.output/\W.heap.size=w.heap.size:=by
 subst hW
 have far:∀(U:World) (b j:Nat) (u:Value) (g:Nat),g≠b->(U.setCell ⟨b,j,none⟩ u).heap[g]?=U.heap[g]?:=λU b j u g hg=>bS _ _ _ _ hg
 have d:∀(U:World),U.drew.heap=U.heap/\U.drew.os=U.os/\U.drew.tape=U.tape/\U.drew.output=U.output:=λ_=>⟨rfl,rfl,rfl,rfl⟩
 have o:∀(U:World) (p:Addr) (u:Value),(U.setCell p u).os=U.os/\(U.setCell p u).tape=U.tape/\(U.setCell p u).output=U.output/\(U.setCell p u).heap.size=U.heap.size:=λ_ _ _=>⟨rfl,rfl,rfl,by simp [World.setCell]⟩
 have o1:=λU p u=>(o U p u).1
 have o2:=λU p u=>(o U p u).2.1
 have o3:=λU p u=>(o U p u).2.2.1
 have o4:=λU p u=>(o U p u).2.2.2
 refine ⟨?_,?_,?_,by rw [(d _).2.1];simp only [o1],by rw [(d _).2.2.1];simp only [o2],by rw [(d _).2.2.2];simp only [o3],by rw [(d _).1];simp only [o4]⟩
 ·rw [List.map_set]
  refine World.ownsRow.drew ?_
  refine own_same (own_put h1 k (.int .i64 a)) (λg hg=>?_)
  have e:g=gi:=by simpa [Value.ownBlock] using hg.symm
  subst e
  rw [far _ _ _ _ _ hne,far _ _ _ _ _ hne,far _ _ _ _ _ hne,far _ _ _ _ _ hne,far _ _ _ _ _ hne,far _ _ _ _ _ hne,far _ _ _ _ _ hne,far _ _ _ _ _ hne]
 ·rw [←rowsL_set _ _ _ hk]
  refine World.ownsRow.drew ?_
  have h3:(w.setCell ⟨gi,k,none⟩ (.int .i64 a)).ownsRow base 38 8 (.slice (some ⟨gr,0,none⟩) n cr) n (rows.flatMap rowL):=own_same h2 (λg hg=>by
   have e:g=gr:=by simpa [Value.ownBlock] using hg.symm
   subst e
   exact far _ _ _ _ _ hne.symm)
  exact own_put (own_put (own_put (own_put (own_put (own_put (own_put (own_put h3 _ _) _ _) _ _) _ _) _ _) _ _) _ _) _ _
 ·intro g n1 n2
  rw [(d _).1]
  rw [far _ _ _ _ _ n2,far _ _ _ _ _ n2,far _ _ _ _ _ n2,far _ _ _ _ _ n2,far _ _ _ _ _ n2,far _ _ _ _ _ n2,far _ _ _ _ _ n2,far _ _ _ _ _ n2,far _ _ _ _ _ n1]
end Go.Proofs.YtemkbjaojinaoaaGreat
