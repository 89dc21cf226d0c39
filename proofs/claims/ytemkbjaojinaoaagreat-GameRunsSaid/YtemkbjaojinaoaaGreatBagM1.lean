/- Several small texts in one. No condition of its own: each part says its own. -/
import Derived.Test.YtemkbjaojinaoaaGreatShort
import Derived.Test.YtemkbjaojinaoaaGreatBagP
import Derived.Maps.OwnSet
import Derived.Maps.OwnOps
import Derived.Maps.RangeWalk
import Derived.WalkKit
import Derived.Test.YtemkbjaojinaoaaGreatBagW
import Derived.Test.YtemkbjaojinaoaaGreatMem
set_option linter.unusedVariables false
set_option linter.unusedSimpArgs false
set_option maxRecDepth 100000
namespace Go.Proofs.YtemkbjaojinaoaaGreat
open Go.RowKit Go.Maps Go.MapKept
abbrev M.Th:=Int×M.Row
def M.th0:M.Th:=(0,⟨0,0,0,0,0,0,0,0⟩)
abbrev thV (t:M.Th):Value:=.agg #[.int .i64 t.1,.int .i64 t.2.X,.int .i64 t.2.Y,.int .i64 t.2.PX,.int .i64 t.2.PY,.int .i64 t.2.W,.int .i64 t.2.H,.int .i64 t.2.M,.int .i64 t.2.R]
def thD (t:M.Th):DataW Unit:=.agg [.lit (.int .i64 t.1),.lit (.int .i64 t.2.X),.lit (.int .i64 t.2.Y),.lit (.int .i64 t.2.PX),.lit (.int .i64 t.2.PY),.lit (.int .i64 t.2.W),.lit (.int .i64 t.2.H),.lit (.int .i64 t.2.M),.lit (.int .i64 t.2.R)]
theorem thV_inj {s t:M.Th} (h:thV s=thV t):s=t:=by
 obtain ⟨m,⟨a,b,c,d,e,f,g,i⟩⟩:=s
 obtain ⟨m',⟨a',b',c',d',e',f',g',i'⟩⟩:=t
 simp only [thV,Value.agg.injEq,Array.mk.injEq,List.cons.injEq,Value.int.injEq,true_and,and_true] at h
 obtain ⟨rfl,rfl,rfl,rfl,rfl,rfl,rfl,rfl,rfl⟩:=h
 rfl
theorem thD_inj {s t:M.Th} (h:thD s=thD t):s=t:=by
 obtain ⟨m,⟨a,b,c,d,e,f,g,i⟩⟩:=s
 obtain ⟨m',⟨a',b',c',d',e',f',g',i'⟩⟩:=t
 simp only [thD,DataW.agg.injEq,List.cons.injEq,DataW.lit.injEq,Lit.int.injEq,true_and,and_true] at h
 obtain ⟨rfl,rfl,rfl,rfl,rfl,rfl,rfl,rfl,rfl⟩:=h
 rfl
open Classical in
noncomputable def thR (v:Value):Option (DataW Unit×List MemPlace):=if h:∃t,v=thV t then some (thD h.choose,[]) else none
theorem thR_mk (t:M.Th):thR (thV t)=some (thD t,[]):=by
 have h:∃s,thV t=thV s:=⟨t,rfl⟩
 unfold thR
 rw [dif_pos h]
 have:=thV_inj h.choose_spec
 rw [←this]
theorem thR_inv {v:Value} {z:DataW Unit×List MemPlace} (h:thR v=some z):∃t,v=thV t/\z=(thD t,[]):=by
 unfold thR at h
 split at h
 ·rename_i hx
  simp only [Option.some.injEq] at h
  exact ⟨hx.choose,hx.choose_spec,h.symm⟩
 ·cases h
def Says (D:DataW Unit) (f:Int->Option M.Th) (c:Nat):Prop:=
 Maps.size D=c/\(∀id,Maps.has D (.int .i64 id)=(f id).isSome)/\∀id t,f id=some t->∀z,D.atKey (.int .i64 id) z=thD t
def MapAt (P:Program) (k:TypeId) (w:World) (b:Nat) (f:Int->Option M.Th) (c:Nat):Prop:=
 ∃D:DataW Unit,w.ownsMap P k thR b c D/\Says D f c
def M.upd (f:Int->Option M.Th) (id:Int) (t:M.Th):Int->Option M.Th:=λj=>if j=id then some t else f j
def M.del (f:Int->Option M.Th) (id:Int):Int->Option M.Th:=λj=>if j=id then none else f j
theorem ownsMap_exact {P:Program} {k:TypeId} {w:World} {b n:Nat} {D:DataW Unit} (h:w.ownsMap P k thR b n D):w.ownsMap P k thR b (Maps.size D) D:=by
 obtain ⟨es,clock,hb,F,hs,hD⟩:=h
 exact ⟨es,clock,hb,F,by rw [hD];simp [Maps.size,length_sorted],hD⟩
section
variable {P:Program} {k e t:TypeId} {w w':World} {b c:Nat} {f:Int->Option M.Th}
theorem MapAt.lt (h:MapAt P k w b f c):b<w.heap.size:=by
 obtain ⟨D,h,_⟩:=h
 exact h.lt
theorem MapAt.block (h:MapAt P k w b f c) (hb:w'.heap[b]?=w.heap[b]?):MapAt P k w' b f c:=by
 obtain ⟨D,⟨es,clock,h1,h2⟩,h3⟩:=h
 exact ⟨D,⟨es,clock,hb.trans h1,h2⟩,h3⟩
theorem MapAt.below (h:MapAt P k w b f c) {B:Nat} (hb:Below B w w') (hB:b<B):MapAt P k w' b f c:=h.block (hb.block b hB)
theorem MapAt.alloc (h:MapAt P k w b f c) (o:Obj):MapAt P k (w.alloc o) b f c:=h.block (Below.heap_alloc w o b h.lt)
theorem MapAt.drew (h:MapAt P k w b f c):MapAt P k w.drew b f c:=h
theorem MapAt.far (h:MapAt P k w b f c) {p:Addr} (hp:b≠p.block) (u:Value):MapAt P k (w.setCell p u) b f c:=h.block (bS w p u b hp)
theorem MapAt.kept {row:Option Nat} (h:MapAt P k w b f c) (hg:w.grownBy w' row) (hne:some b≠row):MapAt P k w' b f c:=h.block (hg.block b h.lt hne)
theorem MapAt.made (P:Program) (k:TypeId) (w:World):MapAt P k (w.alloc (.map #[] 0)) w.heap.size (λ_=>none) 0:=
 ⟨.map [],World.ownsMap_made w P k thR,rfl,λid=>rfl,λid t h=>by cases h⟩
theorem key_i64 (hk:P.underlying k=some (.int .i64)) {id:Int} (h:-9223372036854775808<=id/\id<=9223372036854775807):keyOf P k (.int .i64 id)=some (.int .i64 id):=
 keyOf_int_mk hk (by simp [Lit.wf,IntKind.min,IntKind.max,IntKind.signed,IntKind.bits];exact h)
theorem MapAt.look (h:MapAt P k w b f c) (hk:P.underlying k=some (.int .i64)) (ht:P.underlying t=some (.map k e)) (hz:(zeroValue e).run P w=.ok (thV M.th0) w) {id:Int} (hid:-9223372036854775808<=id/\id<=9223372036854775807):
  (Instr.lookup t (.map (some b)) (.int .i64 id) true).run P w=.ok (.tuple #[thV ((f id).getD M.th0),.bool (f id).isSome]) w:=by
 obtain ⟨D,h,h1,h2,h3⟩:=h
 obtain ⟨v,ps,hr,hv⟩:=h.look_ok (int_keyed hk) ht hz (thR_mk M.th0) (key_i64 hk hid)
 obtain ⟨q,rfl,hq⟩:=thR_inv hv
 rw [hr,h2]
 simp only [Prod.mk.injEq] at hq
 cases hf:f id with
 |some x=>
  rw [h3 id x hf] at hq
  rw [thD_inj hq.1]
  rfl
 |none=>
  rw [atKey_of_not_has (by rw [h2,hf];rfl)] at hq
  rw [←thD_inj hq.1]
  rfl
theorem MapAt.get (h:MapAt P k w b f c) (hk:P.underlying k=some (.int .i64)) (ht:P.underlying t=some (.map k e)) (hz:(zeroValue e).run P w=.ok (thV M.th0) w) {id:Int} (hid:-9223372036854775808<=id/\id<=9223372036854775807):
  (Instr.lookup t (.map (some b)) (.int .i64 id) false).run P w=.ok (thV ((f id).getD M.th0)) w:=by
 obtain ⟨D,h,h1,h2,h3⟩:=h
 obtain ⟨v,ps,hr,hv⟩:=h.lookup (int_keyed hk) ht hz (thR_mk M.th0) (key_i64 hk hid)
 obtain ⟨q,rfl,hq⟩:=thR_inv hv
 rw [hr]
 simp only [Prod.mk.injEq] at hq
 cases hf:f id with
 |some x=>
  rw [h3 id x hf] at hq
  rw [thD_inj hq.1]
  rfl
 |none=>
  rw [atKey_of_not_has (by rw [h2,hf];rfl)] at hq
  rw [←thD_inj hq.1]
  rfl
theorem MapAt.len (h:MapAt P k w b f c) (ht:P.underlying t=some (.map k e)) (ty:TypeId):(Builtin.len_ #[t] ty #[.map (some b)]).run P w=.ok (.int .i64 c) w:=by
 obtain ⟨D,h,h1,h2,h3⟩:=h
 rw [h.len ht ty,h1]
theorem Says.put {D:DataW Unit} (h:Says D f c) (hT:Tidy D) (id:Int) (q:M.Th):Says (D.put (.int .i64 id) (thD q)) (M.upd f id q) (if (f id).isSome then c else c+1):=by
 obtain ⟨h1,h2,h3⟩:=h
 have hki:WideAt.IsKeyLit (.int .i64 id):=trivial
 refine ⟨?_,λj=>?_,λj x hx z=>?_⟩
 ·rw [size_put hT,h2,h1]
 ·by_cases hj:j=id
  ·subst hj
   rw [has_put_same hT.isMap hki]
   simp [M.upd]
  ·rw [has_put_other (by simpa using hj),h2]
   simp [M.upd,hj]
 ·by_cases hj:j=id
  ·subst hj
   rw [atKey_put_same hT.isMap hki]
   simp only [M.upd,if_true,Option.some.injEq] at hx
   rw [hx]
  ·rw [atKey_put_other (by simpa using hj)]
   simp only [M.upd,if_neg hj] at hx
   exact h3 j x hx z
theorem Says.del {D:DataW Unit} (h:Says D f c) (hT:Tidy D) (id:Int):Says (D.del (.int .i64 id)) (M.del f id) (if (f id).isSome then c-1 else c):=by
 obtain ⟨h1,h2,h3⟩:=h
 have hki:WideAt.IsKeyLit (.int .i64 id):=trivial
 refine ⟨?_,λj=>?_,λj x hx z=>?_⟩
 ·have:=size_del hT (k:=.int .i64 id)
  rw [h2,h1] at this
  split at this<;>simp_all<;>omega
 ·by_cases hj:j=id
  ·subst hj
   rw [has_del_same]
   simp [M.del]
  ·rw [has_del_other (by simpa using hj),h2]
   simp [M.del,hj]
 ·by_cases hj:j=id
  ·subst hj
   simp [M.del] at hx
  ·rw [atKey_del_other (by simpa using hj)]
   simp only [M.del,if_neg hj] at hx
   exact h3 j x hx z
theorem MapAt.put (h:MapAt P k w b f c) (hk:P.underlying k=some (.int .i64)) (ht:P.underlying t=some (.map k e)) (hc:c<maxLen) {id:Int} (hid:-9223372036854775808<=id/\id<=9223372036854775807) (q:M.Th):
  ∃w',(Instr.mapUpdate t (.map (some b)) (.int .i64 id) (thV q)).run P w=.ok () w'/\MapAt P k w' b (M.upd f id q) (if (f id).isSome then c else c+1)/\w.mapTurned w' b:=by
 obtain ⟨D,h,hS⟩:=h
 obtain ⟨w',hr,ho,hm⟩:=h.store (int_keyed hk) ht hc (key_i64 hk hid) (thR_mk q)
 have hS':=hS.put (h.tidy (int_keyed hk)) id q
 refine ⟨w',hr,⟨_,?_,hS'⟩,hm⟩
 have:=ownsMap_exact ho
 rw [hS'.1] at this
 exact this
theorem MapAt.drop (h:MapAt P k w b f c) (hk:P.underlying k=some (.int .i64)) (ht:P.underlying t=some (.map k e)) {id:Int} (hid:-9223372036854775808<=id/\id<=9223372036854775807) (ty:TypeId):
  ∃w',(Builtin.delete_ #[t,k] ty #[.map (some b),.int .i64 id]).run P w=.ok (.tuple #[]) w'/\MapAt P k w' b (M.del f id) (if (f id).isSome then c-1 else c)/\w.mapTurned w' b:=by
 obtain ⟨D,h,hS⟩:=h
 obtain ⟨w',hr,ho,hm⟩:=h.drop (int_keyed hk) ht (key_i64 hk hid) ty
 have hS':=hS.del (h.tidy (int_keyed hk)) id
 refine ⟨w',hr,⟨_,?_,hS'⟩,hm⟩
 have:=ownsMap_exact ho
 rw [hS'.1] at this
 exact this
theorem below_turned {B:Nat} {a:World} (h:Below B a w) (hm:w.mapTurned w' b) (hB:B<=w.heap.size) (hb:B<=b):Below B a w':=
 h.grown hm.grown hB (λj hj=>by simp only [Option.some.injEq] at hj;omega)
end
section
variable {P:Program} {k:TypeId} {w w':World} {b b' c c':Nat} {f:Int->Option M.Th}
theorem MapAt.count (h:MapAt P k w b f c) (h':MapAt P k w' b' f c') (hk:P.underlying k=some (.int .i64)):c=c':=by
 have key:∀{w:World} {b c:Nat},MapAt P k w b f c->∃L:List Int,L.Nodup/\L.length=c/\∀z,z∈L↔(f z).isSome=true:=by
  intro w b c h
  obtain ⟨D,⟨es,clock,hb,F,hs,rfl⟩,h1,h2,h3⟩:=h
  have K:=Maps.fit_keys F
  have A:=Maps.fit_apart (int_keyed hk) F
  have hp:=WideShapes.sorted_perm (es.toList.map (WideElems.rg P k thR))
  generalize es.toList.map (WideElems.rg P k thR)=l at K A h1 h2 h3 hp
  have hall:∀p∈l,∃z,p.1=.int .i64 z:=λp hp=>by
   obtain ⟨v,hv⟩:=K p hp
   obtain ⟨z,_,e,_⟩:=keyOf_int_inv hk hv
   exact ⟨z,e⟩
  refine ⟨l.map λp=>match p.1 with| .int _ z=>z|_=>0,?_,?_,λz=>?_⟩
  ·unfold List.Nodup
   rw [List.pairwise_map]
   have:l.Pairwise (λp q=>p∈l/\q∈l/\p.1≠q.1):=A.imp_of_mem (λha hb hne=>⟨ha,hb,hne⟩)
   refine this.imp ?_
   rintro p q ⟨hp,hq,hne⟩
   obtain ⟨x,hx⟩:=hall p hp
   obtain ⟨y,hy⟩:=hall q hq
   rw [hx,hy] at hne⊢
   simpa using hne
  ·rw [List.length_map,←h1]
   simp [Maps.size,length_sorted]
  ·rw [←h2 z]
   show _↔(l.foldr DataW.insert []).any (λp=>p.1.sameKey (.int .i64 z))=true
   rw [List.any_eq_true]
   constructor
   ·intro hz
    obtain ⟨p,hpm,e⟩:=List.mem_map.1 hz
    obtain ⟨x,hx⟩:=hall p hpm
    rw [hx] at e
    simp only at e
    subst e
    exact ⟨p,hp.mem_iff.2 hpm,by rw [hx];exact WideAt.sameKey_self trivial⟩
   ·rintro ⟨p,hpm,e⟩
    refine List.mem_map.2 ⟨p,hp.mem_iff.1 hpm,?_⟩
    rw [WideAt.sameKey_eq e]
 obtain ⟨L,n1,l1,m1⟩:=key h
 obtain ⟨L',n2,l2,m2⟩:=key h'
 rw [←l1,←l2]
 exact (List.perm_ext_iff_of_nodup n1 n2|>.2 (λz=>by rw [m1,m2])).length_eq
end
def RangeAt (P:Program) (k:TypeId) (w:World) (b r:Nat) (f:Int->Option M.Th) (c:Nat) (left:Int->Bool) (n:Nat):Prop:=
 ∃(D:DataW Unit) (lf:Lit->Bool),w.ranges P k thR b r c D lf n/\Says D f c/\∀id,lf (.int .i64 id)=left id
section
variable {P:Program} {k e t:TypeId} {w w':World} {b r c n:Nat} {f:Int->Option M.Th} {left:Int->Bool}
theorem RangeAt.block (h:RangeAt P k w b r f c left n) (hb:w'.heap[b]?=w.heap[b]?) (hr:w'.heap[r]?=w.heap[r]?):RangeAt P k w' b r f c left n:=by
 obtain ⟨D,lf,⟨es,clock,since,seen,c0,h1,h2,h3,h4,h5,h6⟩,hS⟩:=h
 exact ⟨D,lf,⟨es,clock,since,seen,c0,hb.trans h1,h2,h3,h4,hr.trans h5,h6⟩,hS⟩
theorem RangeAt.map (h:RangeAt P k w b r f c left n):MapAt P k w b f c:=by
 obtain ⟨D,lf,hr,hS,_⟩:=h
 exact ⟨D,hr.owns,hS⟩
theorem RangeAt.lt (h:RangeAt P k w b r f c left n):r<w.heap.size:=by
 obtain ⟨D,lf,hr,hS,_⟩:=h
 exact hr.lt
theorem RangeAt.below (h:RangeAt P k w b r f c left n) {B:Nat} (hb:Below B w w') (h1:b<B) (h2:r<B):RangeAt P k w' b r f c left n:=h.block (hb.block b h1) (hb.block r h2)
theorem MapAt.range (h:MapAt P k w b f c) (hk:P.underlying k=some (.int .i64)) (ht:P.underlying t=some (.map k e)):
  ∃w',(Instr.range t (.map (some b))).run P w=.ok (.pointer (some ⟨w.heap.size,0,none⟩)) w'/\RangeAt P k w' b w.heap.size f c (λid=>(f id).isSome) c/\w.grownBy w' none/\w'.heap.size=w.heap.size+1:=by
 obtain ⟨D,h,hS⟩:=h
 obtain ⟨w',hr,hg,h1,h2⟩:=h.range (int_keyed hk) ht
 rw [hS.1] at hg
 exact ⟨w',hr,⟨D,_,hg,hS,hS.2.1⟩,h1,h2⟩
theorem RangeAt.next (h:RangeAt P k w b r f c left n) (hk:P.underlying k=some (.int .i64)) (ty:TypeId):
  (n=0/\(∀id,left id=false)/\(Instr.next (.pointer (some ⟨r,0,none⟩)) false ty).run P w=.ok (.tuple #[.bool false]) w)\/
  ∃id q w' n',(-9223372036854775808<=id/\id<=9223372036854775807)/\left id=true/\f id=some q/\(Instr.next (.pointer (some ⟨r,0,none⟩)) false ty).run P w=.ok (.tuple #[.bool true,.int .i64 id,thV q]) w'/\
   RangeAt P k w' b r f c (λj=>left j && !(j==id)) n'/\n'<n/\w.grownBy w' (some r)/\w'.heap.size=w.heap.size/\(Instr.entry (.pointer (some ⟨r,0,none⟩))).run P w'=.ok (.tuple #[.int .i64 id,thV q]) w':=by
 obtain ⟨D,lf,hr,hS,hl⟩:=h
 rcases hr.next (int_keyed hk) ty with ⟨h0,h1,h2⟩|⟨key,v,kl,y,w',n',g1,g2,g3,g4,g5,g6,g7,g8,g9,g10⟩
 ·exact .inl ⟨h0,λid=>by rw [←hl];exact h1 _,h2⟩
 ·obtain ⟨id,rfl,rfl,hw⟩:=keyOf_int_inv hk g1
  obtain ⟨q,rfl,rfl⟩:=thR_inv g3
  have hid:-9223372036854775808<=id/\id<=9223372036854775807:=by
   simp [Lit.wf,IntKind.min,IntKind.max,IntKind.signed,IntKind.bits] at hw
   exact ⟨hw.1,hw.2⟩
  have hhas:Maps.has D (.int .i64 id)=true:=has_true_of_atKey g4
  rw [hS.2.1] at hhas
  obtain ⟨q',hq'⟩:=Option.isSome_iff_exists.1 hhas
  have hqq:=(hS.2.2 id q' hq' .nil).symm.trans (g4 .nil)
  have e1:=thD_inj hqq
  subst e1
  refine .inr ⟨id,q',w',n',hid,by rw [←hl];exact g2,hq',g5,⟨D,_,g6,hS,λj=>?_⟩,g7,g8,g9,g10⟩
  rw [hl]
  by_cases hj:j=id
  ·subst hj
   rw [WideAt.sameKey_self (show WideAt.IsKeyLit (.int .i64 j) from trivial)]
   simp
  ·rw [sameKey_ne (by simpa using hj)]
   simp [hj]
end
section
variable {P:Program} (w:World) {ops:Array Oper} {rest:List Oper} {o:Oper} {a:Act} {Q:Exit->Act->World->Prop}
theorem wpList_th_look (hg:o.guard=none) (m x:Operand) (t:TypeId) (hop:o.op=Op.lookup t m x true) (k e:TypeId) (hk:P.underlying k=some (.int .i64)) (ht:P.underlying t=some (.map k e)) (hz:(zeroValue e).run P w=.ok (thV M.th0) w)
  (b:Nat) (f:Int->Option M.Th) (c:Nat) (hm:a.eval m=.map (some b)) (h:MapAt P k w b f c) (id:Int) (hx:a.eval x=.int .i64 id) (hid:-9223372036854775808<=id/\id<=9223372036854775807)
  (hK:wpList P ops Q rest (a.put o.dst (.tuple #[thV ((f id).getD M.th0),.bool (f id).isSome])) w):wpList P ops Q (o::rest) a w:=by
 refine wpList_plain hg λK' hK'=>?_
 unfold Oper.wp
 simp [execOp,hop,hm,hx,h.look hk ht hz hid,Result.andThen]
 exact hK' _ _ hK
theorem wpList_th_get (hg:o.guard=none) (m x:Operand) (t:TypeId) (hop:o.op=Op.lookup t m x false) (k e:TypeId) (hk:P.underlying k=some (.int .i64)) (ht:P.underlying t=some (.map k e)) (hz:(zeroValue e).run P w=.ok (thV M.th0) w)
  (b:Nat) (f:Int->Option M.Th) (c:Nat) (hm:a.eval m=.map (some b)) (h:MapAt P k w b f c) (id:Int) (hx:a.eval x=.int .i64 id) (hid:-9223372036854775808<=id/\id<=9223372036854775807)
  (hK:wpList P ops Q rest (a.put o.dst (thV ((f id).getD M.th0))) w):wpList P ops Q (o::rest) a w:=by
 refine wpList_plain hg λK' hK'=>?_
 unfold Oper.wp
 simp [execOp,hop,hm,hx,h.get hk ht hz hid,Result.andThen]
 exact hK' _ _ hK
theorem wpList_th_len (hg:o.guard=none) (m:Operand) (t:TypeId) (hop:o.op=Op.call {callee:=Callee.builtin Builtin.len,args:=#[m],argTypes:=#[t]}) (k e:TypeId) (ht:P.underlying t=some (.map k e))
  (b:Nat) (f:Int->Option M.Th) (c:Nat) (hm:a.eval m=.map (some b)) (h:MapAt P k w b f c) (hK:wpList P ops Q rest (a.put o.dst (.int .i64 c)) w):wpList P ops Q (o::rest) a w:=by
 refine wpList_plain hg λK' hK'=>?_
 unfold Oper.wp
 simp [execOp,hop,resolve,invoke,builtin,hm,h.len ht o.type,Result.andThen]
 exact hK' _ _ hK
theorem wpList_th_put (hg:o.guard=none) (m x v:Operand) (t:TypeId) (hop:o.op=Op.mapUpdate t m x v) (k e:TypeId) (hk:P.underlying k=some (.int .i64)) (ht:P.underlying t=some (.map k e))
  (b:Nat) (f:Int->Option M.Th) (c:Nat) (hm:a.eval m=.map (some b)) (h:MapAt P k w b f c) (hc:c<maxLen) (id:Int) (q:M.Th) (hx:a.eval x=.int .i64 id) (hid:-9223372036854775808<=id/\id<=9223372036854775807) (hv:a.eval v=thV q)
  (hK:∀w',MapAt P k w' b (M.upd f id q) (if (f id).isSome then c else c+1)->w.mapTurned w' b->wpList P ops Q rest (a.put o.dst undef) w'):wpList P ops Q (o::rest) a w:=by
 refine wpList_plain hg λK' hK'=>?_
 obtain ⟨w',hrun,r1,r2⟩:=h.put hk ht hc hid q
 unfold Oper.wp
 simp [execOp,hop,hm,hx,hv,hrun,Result.andThen]
 exact hK' _ _ (hK w' r1 r2)
theorem wpList_th_range (hg:o.guard=none) (m:Operand) (t:TypeId) (hop:o.op=Op.range t m) (k e:TypeId) (hk:P.underlying k=some (.int .i64)) (ht:P.underlying t=some (.map k e))
  (b:Nat) (f:Int->Option M.Th) (c:Nat) (hm:a.eval m=.map (some b)) (h:MapAt P k w b f c)
  (hK:∀w',RangeAt P k w' b w.heap.size f c (λid=>(f id).isSome) c->w.grownBy w' none->w'.heap.size=w.heap.size+1->wpList P ops Q rest (a.put o.dst (.pointer (some ⟨w.heap.size,0,none⟩))) w'):wpList P ops Q (o::rest) a w:=by
 refine wpList_plain hg λK' hK'=>?_
 obtain ⟨w',hrun,r1,r2,r3⟩:=h.range hk ht
 unfold Oper.wp
 simp [execOp,hop,hm,hrun,Result.andThen]
 exact hK' _ _ (hK w' r1 r2 r3)
theorem wpList_th_next (hg:o.guard=none) (it:Operand) (hop:o.op=Op.next it false) (k:TypeId) (hk:P.underlying k=some (.int .i64)) (b r:Nat) (f:Int->Option M.Th) (c:Nat) (left:Int->Bool) (n:Nat)
  (hit:a.eval it=.pointer (some ⟨r,0,none⟩)) (h:RangeAt P k w b r f c left n)
  (hDone:n=0->(∀id,left id=false)->wpList P ops Q rest (a.put o.dst (.tuple #[.bool false])) w)
  (hMore:∀(id:Int) (q:M.Th) (w':World) (n':Nat),(-9223372036854775808<=id/\id<=9223372036854775807)->left id=true->f id=some q->RangeAt P k w' b r f c (λj=>left j && !(j==id)) n'->n'<n->
   w.grownBy w' (some r)->w'.heap.size=w.heap.size->(Instr.entry (.pointer (some ⟨r,0,none⟩))).run P w'=.ok (.tuple #[.int .i64 id,thV q]) w'->wpList P ops Q rest (a.put o.dst (.tuple #[.bool true,.int .i64 id,thV q])) w'):wpList P ops Q (o::rest) a w:=by
 refine wpList_plain hg λK' hK'=>?_
 unfold Oper.wp
 rcases h.next hk o.type with ⟨h0,hl,hrun⟩|⟨id,q,w',n',g1,g2,g3,g4,g5,g6,g7,g8,g9⟩
 ·simp [execOp,hop,hit,hrun,Result.andThen]
  exact hK' _ _ (hDone h0 hl)
 ·simp [execOp,hop,hit,g4,Result.andThen]
  exact hK' _ _ (hMore id q w' n' g1 g2 g3 g5 g6 g7 g8 g9)
end
end Go.Proofs.YtemkbjaojinaoaaGreat
namespace Go.Proofs.YtemkbjaojinaoaaGreat.M
open Go.RowKit
theorem look_upd (E:List Entry) (id m:Int) (r:Row):look ((id,m,r)::E)=upd (look E) id (m,r):=by
 funext j
 rw [look_cons]
 unfold upd
 by_cases h:j=id
 ·subst h;simp
 ·rw [if_neg (λe=>h e.symm),if_neg h]
theorem look_of_perm {s:Store} (g:GoodS s) {E:List Entry} (hp:(entries s).Perm E):look (entries s)=look E:=by
 funext j
 exact look_perm hp g.nodup j
theorem upd_upd (f:Int->Option Th) (id:Int) (a b:Th):upd (upd f id a) id b=upd f id b:=by
 funext j;unfold upd;split<;>rfl
theorem del_upd (f:Int->Option Th) (id:Int) (a:Th) (h:f id=none):del (upd f id a) id=f:=by
 funext j;unfold upd del
 by_cases hj:j=id
 ·subst hj;simp [h]
 ·simp [hj]
theorem spawn_three {s:Store} (g:GoodS s) (m:Int) (r:Row):
  (goodRow m r=false/\spawn s m r=(s,0,2))\/(goodRow m r=true/\(10<=size s\/1048576<=s.next)/\spawn s m r=(s,0,5))\/
  (goodRow m r=true/\(size s<10/\s.next<1048576)/\(spawn s m r).2=(s.next,0)/\GoodS (spawn s m r).1/\(spawn s m r).1.next=s.next+1/\look (entries (spawn s m r).1)=upd (look (entries s)) s.next (m,r)):=by
 have hg:=(good_iff s).2 g
 cases hr:goodRow m r with
 |false=>
  left
  refine ⟨rfl,?_⟩
  unfold spawn
  rw [if_neg (by rw [hg];simp),if_pos hr]
 |true=>
  right
  by_cases hf:10<=size s\/1048576<=s.next
  ·left
   refine ⟨rfl,hf,?_⟩
   unfold spawn
   rw [if_neg (by rw [hg];simp),if_neg (by rw [hr];simp),if_pos hf]
  ·right
   have e:spawn s m r=(put {s with next:=s.next+1} s.next m r,s.next,0):=by
    unfold spawn
    rw [if_neg (by rw [hg];simp),if_neg (by rw [hr];simp),if_neg hf]
   have h0:(spawn s m r).2.2=0:=by rw [e]
   obtain ⟨k1,k2,k3⟩:=spawn_good h0
   refine ⟨rfl,by omega,by rw [e],k1,by rw [e];rfl,?_⟩
   rw [look_of_perm k1 k2,look_upd]
theorem kill_two {s:Store} (g:GoodS s) (id:Int):(look (entries s) id=none/\kill s id=(s,3))\/
  (∃p,look (entries s) id=some p/\(kill s id).2=0/\GoodS (kill s id).1/\(kill s id).1.next=s.next/\look (entries (kill s id).1)=del (look (entries s)) id):=by
 have hg:=(good_iff s).2 g
 cases hf:find s id with
 |none=>
  left
  refine ⟨(find_none g.form).1 hf,?_⟩
  unfold kill
  rw [if_neg (by rw [hg];simp),hf]
 |some p=>
  right
  have e:(kill s id).2=0:=by unfold kill;rw [if_neg (by rw [hg];simp),hf]
  obtain ⟨m,r,E,_,k1,k2,k3,k4,k5⟩:=kill_ok e
  refine ⟨_,k5,e,k1,k2,?_⟩
  have hn:id∉E.map (·.1):=by
   have:=(k3.map (·.1)).nodup_iff.1 g.nodup
   simp only [mC,List.nodup_cons] at this
   exact this.1
  rw [look_of_perm k1 k4,look_of_perm g k3,look_upd,del_upd _ _ _ (look_none.2 hn)]
theorem find_was {s:Store} (g:GoodS s) {id:Int} {p:Th} (h:look (entries s) id=some p):∃i k,find s id=some (i,k)/\maskAt s i=p.1/\rowAt s i k=p.2:=by
 cases hf:find s id with
 |none=>rw [(find_none g.form).1 hf] at h;cases h
 |some q=>
  obtain ⟨i,k⟩:=q
  obtain ⟨t,r,a1,a2,a3,a4,a5⟩:=find_some g.form g.nodup hf
  rw [h] at a4
  obtain rfl:p=(t.mask,r):=by simpa using a4
  refine ⟨i,k,rfl,by unfold maskAt;rw [a1],?_⟩
  unfold rowAt
  rw [a1]
  show t.rows.getD k row0=r
  rw [List.getD_eq_getElem?_getD,a3]
  rfl
theorem set_two {s:Store} (g:GoodS s) {id:Int} {p:Th} (h:look (entries s) id=some p) (r:Row):
  (goodRow p.1 r=false/\set s id r=(s,2))\/(goodRow p.1 r=true/\(set s id r).2=0/\GoodS (set s id r).1/\(set s id r).1.next=s.next/\look (entries (set s id r).1)=upd (look (entries s)) id (p.1,r)):=by
 have hg:=(good_iff s).2 g
 obtain ⟨i,k,hf,hm,hq⟩:=find_was g h
 cases hr:goodRow p.1 r with
 |false=>
  left
  refine ⟨rfl,?_⟩
  unfold set
  rw [if_neg (by rw [hg];simp),hf]
  simp only [hm,hr,if_true]
 |true=>
  right
  have e:(set s id r).2=0:=by
   unfold set
   rw [if_neg (by rw [hg];simp),hf]
   simp only [hm,hr,Bool.true_eq_false,if_false]
  obtain ⟨m,q,E,_,k1,k2,k3,k4,k5,k6⟩:=set_ok e
  rw [h] at k6
  obtain rfl:p=(m,q):=by simpa using k6
  refine ⟨rfl,e,k1,k2,?_⟩
  rw [look_of_perm k1 k5,look_of_perm g k4,look_upd,look_upd,upd_upd]
theorem change_two {s:Store} (g:GoodS s) {id:Int} {p:Th} (h:look (entries s) id=some p) (m:Int) (r:Row):
  (goodRow m (changed p.1 m p.2 r)=false/\change s id m r=(s,2))\/(goodRow m (changed p.1 m p.2 r)=true/\(change s id m r).2=0/\GoodS (change s id m r).1/\(change s id m r).1.next=s.next/\look (entries (change s id m r).1)=upd (look (entries s)) id (m,changed p.1 m p.2 r)):=by
 have hg:=(good_iff s).2 g
 obtain ⟨i,k,hf,hm,hq⟩:=find_was g h
 cases hr:goodRow m (changed p.1 m p.2 r) with
 |false=>
  left
  refine ⟨rfl,?_⟩
  unfold change
  rw [if_neg (by rw [hg];simp),hf]
  simp only [hm,hq,hr,if_true]
 |true=>
  right
  have e:(change s id m r).2=0:=by
   unfold change
   rw [if_neg (by rw [hg];simp),hf]
   simp only [hm,hq,hr,Bool.true_eq_false,if_false]
  obtain ⟨m1,q,E,_,k1,k2,k3,k4,k5,k6⟩:=change_ok e
  rw [h] at k6
  obtain rfl:p=(m1,q):=by simpa using k6
  refine ⟨rfl,e,k1,k2,?_⟩
  rw [look_of_perm k1 k5,look_of_perm g k4,look_upd,look_upd,upd_upd]
theorem good_thing {s:Store} (g:GoodS s) {id:Int} {p:Th} (h:look (entries s) id=some p):(0<=id/\id<s.next)/\goodRow p.1 p.2=true:=by
 have:=(look_some g.nodup).1 (show look (entries s) id=some (p.1,p.2) from h)
 exact g.goodE.1 _ this
theorem fits_in {m:Int} {r:Row} (h:goodRow m r=true):(0<=m/\m<=31)/\RowIn r:=by
 have k:=goodRow_fits.1 h
 obtain ⟨lo,hi,p1,q1,p2,q2,p4,q4,p8,q8⟩:=k
 have o:∀{x:Int},-1000000000<=x->x<=1000000000->Ok64 x:=λa b=>⟨by omega,by omega⟩
 refine ⟨by omega,⟨?_,?_⟩,⟨?_,?_⟩,⟨?_,?_⟩,?_,?_⟩<;>refine o ?_ ?_
 all_goals
  cases h1:bit m 1<;>cases h2:bit m 2<;>cases h4:bit m 4<;>cases h8:bit m 8<;>simp_all<;>omega
section
variable {α:Type}
def Hole (l:List α) (k:Nat) (out:List α):Prop:=∃x,out=l.take k++x::l.drop k
theorem hole_start (l:List α) (p:α):Hole l l.length (l++[p]):=⟨p,by simp⟩
theorem hole_len {l out:List α} {k:Nat} (h:Hole l k out) (hk:k<=l.length):out.length=l.length+1:=by
 obtain ⟨x,rfl⟩:=h
 simp only [List.length_append,List.length_take,List.length_cons,List.length_drop]
 omega
theorem hole_at {l out:List α} {k j:Nat} (h:Hole l k out) (hk:k<=l.length) (hj:j<k):out[j]?=l[j]?:=by
 obtain ⟨x,rfl⟩:=h
 rw [List.getElem?_append_left (by rw [List.length_take];omega),List.getElem?_take,if_pos hj]
theorem hole_set {l out:List α} {k:Nat} (h:Hole l k out) (hk:k<=l.length) (p:α):out.set k p=l.take k++p::l.drop k:=by
 obtain ⟨x,rfl⟩:=h
 have e:(l.take k).length=k:=by rw [List.length_take];omega
 rw [List.set_append_right _ _ bO,e,Nat.sub_self,List.set_cons_zero]
theorem hole_go {l out:List α} {k:Nat} {y:α} (h:Hole l (k+1) out) (hk:k+1<=l.length) (hy:l[k]?=some y):Hole l k (out.set (k+1) y):=by
 refine ⟨y,?_⟩
 rw [hole_set h hk]
 have hlt:k<l.length:=by omega
 rw [List.take_add_one,hy,List.append_assoc]
 rw [show l.drop k=y::l.drop (k+1) from by
  rw [List.drop_eq_getElem_cons hlt]
  congr 1
  have:=List.getElem?_eq_getElem hlt
  rw [this] at hy
  simpa using hy]
 rfl
theorem ins_ok (le:α->α->Bool) (tr:∀a b c,le a b=true->le b c=true->le a c=true) (tot:∀a b,(le a b||le b a)=true) {l:List α} (s:l.Pairwise (λa b=>le a b=true)) {p:α} {k:Nat} (hk:k<=l.length)
  (h1:∀q∈l.drop k,le q p=false) (h2:∀j q,j+1=k->l[j]?=some q->le q p=true):
  (l.take k++p::l.drop k).Pairwise (λa b=>le a b=true)/\(l.take k++p::l.drop k).Perm (l++[p]):=by
 constructor
 ·have s':(l.take k++l.drop k).Pairwise (λa b=>le a b=true):=by rw [List.take_append_drop];exact s
  rw [List.pairwise_append] at s'⊢
  obtain ⟨s1,s2,s3⟩:=s'
  have up:∀q∈l.drop k,le p q=true:=λq hq=>by
   have:=tot p q
   rw [h1 q hq] at this
   simpa using this
  have lo:∀q∈l.take k,le q p=true:=by
   intro q hq
   cases k with
   |zero=>simp at hq
   |succ j=>
    have hlt:j<l.length:=by omega
    have hj:=h2 j l[j] rfl (List.getElem?_eq_getElem hlt)
    rw [List.take_add_one,List.getElem?_eq_getElem hlt] at hq
    simp only [Option.toList_some,List.mem_append,List.mem_singleton] at hq
    rcases hq with hq|rfl
    ·rw [List.take_add_one,List.getElem?_eq_getElem hlt] at s1
     simp only [Option.toList_some,List.pairwise_append,List.mem_singleton] at s1
     exact tr _ _ _ (s1.2.2 q hq _ rfl) hj
    ·exact hj
  refine ⟨s1,List.pairwise_cons.2 ⟨λq hq=>up q hq,s2⟩,λa ha b hb=>?_⟩
  rcases List.mem_cons.1 hb with rfl|hb
  ·exact lo a ha
  ·exact s3 a ha b hb
 ·refine List.perm_middle.trans ?_
  rw [List.take_append_drop]
  exact (List.perm_append_singleton p l).symm
end
theorem meets1_snoc (seen:List Box) (a b:Box):meets1 (seen++[a]) b=meets1 seen b++(if meetB a b=true then [pairOf a.id b.id] else []):=by
 unfold meets1
 rw [List.filter_append,List.map_append]
 simp only [List.filter_cons,List.filter_nil]
 split<;>rfl
theorem pairs_of_sorted {l:List Box} (g:goodB l=true) {out:List Pr} (hp:out.Perm (allP l)) (s:out.Pairwise (λa b=>leP a b=true)):out=pairs l:=by
 unfold pairs
 rw [if_pos g]
 exact sortP_of hp s
theorem look_of_sorted {l:List Box} (g:goodB l=true) {b:Box} {out:List Int} (hp:out.Perm ((l.filter λa=>meetB a b).map (·.id))) (s:out.Pairwise (λa b=>decide (a<=b)=true)):out=lookB l b:=by
 unfold lookB
 rw [if_pos g]
 refine List.Perm.eq_of_pairwise (le:=λa b:Int=>a<=b) (λa b _ _ h1 h2=>by omega) (s.imp sS) ?_ (hp.trans (List.mergeSort_perm _ _).symm)
 exact (List.pairwise_mergeSort (le:=λa b:Int=>decide (a<=b)) (by intro a b c;simp;omega) (by intro a b;simp;omega) _).imp sS
def goTh (h:Int->Row->Row) (t:Th):Th:=if moves t.1=true then (t.1,h t.1 t.2) else t
def goS (h:Int->Row->Row) (L:Int->Option Th) (id:Int):Int->Option Th:=
 if moves ((L id).getD th0).1=true then upd L id (((L id).getD th0).1,h ((L id).getD th0).1 ((L id).getD th0).2) else L
theorem moves_th0:moves th0.1=false:=by decide
theorem goS_at (h:Int->Row->Row) (L:Int->Option Th) (id j:Int):goS h L id j=if j=id then (L j).map (goTh h) else L j:=by
 unfold goS
 cases hL:L id with
 |none=>
  simp only [Option.getD_none]
  rw [if_neg (by rw [moves_th0];simp)]
  by_cases hj:j=id
  ·subst hj;rw [if_pos rfl,hL];rfl
  ·rw [if_neg hj]
 |some t=>
  simp only [Option.getD_some]
  by_cases hj:j=id
  ·subst hj
   rw [if_pos rfl,hL]
   unfold goTh
   simp only [Option.map_some]
   by_cases hm:moves t.1=true
   ·rw [if_pos hm,if_pos hm];simp [upd]
   ·rw [if_neg hm,if_neg hm];exact hL
  ·rw [if_neg hj]
   split
   ·simp [upd,hj]
   ·rfl
theorem foldS_at (h:Int->Row->Row) (zs:List Int) (hn:zs.Nodup) (L:Int->Option Th) (j:Int):zs.foldl (goS h) L j=if j∈zs then (L j).map (goTh h) else L j:=by
 induction zs generalizing L with
 |nil=>simp
 |cons a zs ih=>
  obtain ⟨h1,h2⟩:=List.nodup_cons.1 hn
  rw [List.foldl_cons,ih h2,goS_at]
  by_cases hj:j=a
  ·subst hj
   rw [if_neg h1,if_pos rfl,if_pos sS]
  ·rw [if_neg hj]
   by_cases hz:j∈zs
   ·rw [if_pos hz,if_pos (by simp [hz])]
   ·rw [if_neg hz,if_neg (by simp [hj,hz])]
theorem foldT_at {h:Int->Row->Row} (hfit:∀m r,Fits m r->moves m=true->Fits m (h m r)) {f:Store->Int->Store}
  (hf:∀s,GoodS s->∀id m q,at_ s id=some (m,q)->f s id=(set s id (h m q)).1) (l:List Int) (hn:l.Nodup) {s:Store} (g:GoodS s) (hl:∀id∈l,Mover s id):
  GoodS (l.foldl f s)/\(l.foldl f s).next=s.next/\∀j,at_ (l.foldl f s) j=if j∈l then (at_ s j).map (goTh h) else at_ s j:=by
 induction l generalizing s with
 |nil=>exact ⟨g,rfl,λj=>by simp⟩
 |cons a l ih=>
  obtain ⟨h1,h2⟩:=List.nodup_cons.1 hn
  obtain ⟨m,q,e,hm⟩:=hl a sS
  have e1:=hf s g a m q e
  obtain ⟨_,g1,n1,a1⟩:=set_at g e (goodRow_fits.2 (hfit m q (at_fits g e) hm))
  rw [←e1] at g1 n1 a1
  have hl2:∀id∈l,Mover (f s a) id:=by
   intro id hid
   obtain ⟨m',q',e',hm'⟩:=hl id (List.mem_cons_of_mem _ hid)
   refine ⟨m',q',?_,hm'⟩
   rw [a1,if_neg (λe=>by subst e;exact h1 hid)]
   exact e'
  obtain ⟨k1,k2,k3⟩:=ih h2 g1 hl2
  refine ⟨k1,k2.trans n1,λj=>?_⟩
  rw [List.foldl_cons,k3,a1]
  by_cases hj:j=a
  ·subst hj
   rw [if_neg h1,if_pos rfl,if_pos sS,e]
   unfold goTh
   simp only [Option.map_some]
   rw [if_pos hm]
  ·rw [if_neg hj]
   by_cases hz:j∈l
   ·rw [if_pos hz,if_pos (by simp [hz])]
   ·rw [if_neg hz,if_neg (by simp [hj,hz])]
def Keys (zs:List Int) (L:Int->Option Th):Prop:=zs.Nodup/\∀z,z∈zs↔(L z).isSome=true
theorem all_same {h:Int->Row->Row} (hfit:∀m r,Fits m r->moves m=true->Fits m (h m r)) {f:Store->Int->Store}
  (hf:∀s,GoodS s->∀id m q,at_ s id=some (m,q)->f s id=(set s id (h m q)).1) {s:Store} (g:GoodS s) {zs:List Int} (hz:Keys zs (at_ s)):
  at_ ((query s 11).foldl f s)=zs.foldl (goS h) (at_ s):=by
 funext j
 obtain ⟨_,_,k⟩:=foldT_at hfit hf (query s 11) (query_nodup g 11) g (λid hid=>(query_mover g).1 hid)
 rw [k,foldS_at h zs hz.1]
 cases hj:at_ s j with
 |none=>simp
 |some t=>
  rw [if_pos ((hz.2 j).2 (by rw [hj];rfl))]
  simp only [Option.map_some]
  by_cases hm:moves t.1=true
  ·rw [if_pos ((query_mover g).2 ⟨t.1,t.2,hj,hm⟩)]
  ·rw [if_neg (λhq=>by
    obtain ⟨m,q,e,hmv⟩:=(query_mover g).1 hq
    rw [hj] at e
    simp only [Option.some.injEq] at e
    subst e
    exact hm hmv)]
   unfold goTh
   rw [if_neg hm]
theorem gone_same {w:Wd} (g:GoodS w.things) {zs:List Int} (hz:Keys zs (at_ w.things)):at_ (gone w)=zs.foldl (goS (goneRow w.fall)) (at_ w.things):=by
 unfold gone
 refine all_same (λm r hf hm=>gone_fits hf hm) (λs gs id m q e=>?_) g hz
 unfold goOn
 rw [get_at gs,e]
 rfl
theorem ends_same {w:Wd} (gw:GoodWd w) {zs:List Int} (hz:Keys zs (at_ (met w).1)):at_ (ends w)=zs.foldl (goS (λ_ r=>walledRow w.wide w.high r)) (at_ (met w).1):=by
 unfold ends
 refine all_same (λm r hf hm=>walled_fits hf hm gw.wide gw.high) (λs gs id m q e=>?_) (kept_met gw.things).good hz
 unfold walled
 rw [get_at gs,e]
 rfl
def metS (st:(Int->Option Th)×List Pr) (p:Pr):(Int->Option Th)×List Pr:=
 let a:=(st.1 p.1).getD th0
 let b:=(st.1 p.2).getD th0
 let fa:=freeRow a.1 a.2
 let fb:=freeRow b.1 b.2
 if meets fa fb then
  let L1:=if moves a.1 then upd st.1 p.1 (a.1,(meet fa fb).1) else st.1
  (if moves b.1 then upd L1 p.2 (b.1,(meet fa fb).2) else L1,st.2++[p])
 else st
theorem set_upd {s:Store} (g:GoodS s) {id m:Int} {q r:Row} (h:at_ s id=some (m,q)) (hr:goodRow m r=true):at_ (set s id r).1=upd (at_ s) id (m,r):=by
 obtain ⟨_,_,_,a1⟩:=set_at g h hr
 funext o
 rw [a1]
 rfl
theorem back_upd {s:Store} (g:GoodS s) {id m:Int} {q x:Row} (h:at_ s id=some (m,q)) (hb:SameBody x (freeRow m q)) (hi:InBounds x):
  at_ (backTo s id m x)=if moves m then upd (at_ s) id (m,x) else at_ s:=by
 unfold backTo
 by_cases hm:moves m=true
 ·rw [if_pos hm,if_pos hm]
  have e:freeRow m q=q:=by unfold freeRow;rw [if_pos hm]
  rw [e] at hb
  exact set_upd g h (goodRow_fits.2 (met_fits (at_fits g h) hm hb hi))
 ·rw [if_neg hm,if_neg hm]
theorem metS_step {s:Store} (g:GoodS s) (k:List Pr) {p:Pr} (h1:∃m r,at_ s p.1=some (m,r)) (h2:∃m r,at_ s p.2=some (m,r)) (hne:p.1≠p.2):
  at_ (meetStep (s,k) p).1=(metS (at_ s,k) p).1/\(meetStep (s,k) p).2=(metS (at_ s,k) p).2:=by
 obtain ⟨m1,r1,e1⟩:=h1
 obtain ⟨m2,r2,e2⟩:=h2
 rw [meetStep_eq e1 e2 g]
 unfold metS
 simp only [e1,e2,Option.getD_some]
 have f1:=freeRow_in (m:=m1) (at_fits g e1).inBounds
 have f2:=freeRow_in (m:=m2) (at_fits g e2).inBounds
 have i:=meet_in f1 f2
 have b:=meet_body (freeRow m1 r1) (freeRow m2 r2)
 cases hmt:meets (freeRow m1 r1) (freeRow m2 r2)
 ·exact ⟨rfl,rfl⟩
 ·simp only [cond_true,if_true,and_true]
  have u1:=back_upd g e1 b.1 i.1
  have g1:=(kept_backTo g e1 b.1 i.1).good
  have e3:at_ (backTo s p.1 m1 (meet (freeRow m1 r1) (freeRow m2 r2)).1) p.2=some (m2,r2):=by
   rw [u1]
   split
   ·rw [show upd (at_ s) p.1 (m1,(meet (freeRow m1 r1) (freeRow m2 r2)).1) p.2=at_ s p.2 from if_neg (λe=>hne e.symm)];exact e2
   ·exact e2
  rw [back_upd g1 e3 b.2 i.2,u1]
theorem metS_fold {s:Store} (g:GoodS s) (l:List Pr) (k:List Pr) (hl:∀p∈l,(∃m r,at_ s p.1=some (m,r))/\(∃m r,at_ s p.2=some (m,r))/\p.1<p.2):
  at_ (l.foldl meetStep (s,k)).1=(l.foldl metS (at_ s,k)).1/\(l.foldl meetStep (s,k)).2=(l.foldl metS (at_ s,k)).2:=by
 induction l generalizing s k with
 |nil=>exact ⟨rfl,rfl⟩
 |cons p l ih=>
  obtain ⟨h1,h2,h3⟩:=hl p sS
  have k1:=kept_meetStep g k h1 h2 bO
  obtain ⟨a1,a2⟩:=metS_step g k h1 h2 bO
  rw [List.foldl_cons,List.foldl_cons]
  rcases hs:meetStep (s,k) p with ⟨s1,l1⟩
  rw [hs] at k1 a1 a2
  simp only at a1 a2 k1
  have e:metS (at_ s,k) p=(at_ s1,l1):=by rw [a1,a2]
  rw [e]
  refine ih k1.good l1 (λq hq=>?_)
  obtain ⟨a,b,c⟩:=hl q (List.mem_cons_of_mem _ hq)
  exact ⟨k1.isThere a,k1.isThere b,c⟩
theorem met_same {w:Wd} (g:GoodS w.things):at_ (met w).1=((pairs (boxes (gone w))).foldl metS (at_ (gone w),[])).1/\(met w).2=((pairs (boxes (gone w))).foldl metS (at_ (gone w),[])).2:=by
 unfold met
 exact metS_fold (kept_gone g).good _ _ (λp hp=>pairs_at (kept_gone g).good hp)
theorem one_tab:∀m:Fin 32,one m.val=true->m.val=1\/m.val=2\/m.val=4\/m.val=8\/m.val=16:=by decide+kernel
def Single (m:Int):Prop:=m=1\/m=2\/m=4\/m=8\/m=16
theorem one_iff {m:Int}:one m=true↔Single m:=by
 constructor
 ·intro h
  have hb:0<m/\m<=31:=by
   unfold one at h
   simp only [Bool.and_eq_true,decide_eq_true_eq] at h
   exact ⟨h.1,h.2.1⟩
  obtain ⟨f,rfl⟩:=fin_of (m:=m) bO hb.2
  have:=one_tab f h
  unfold Single
  omega
 ·rintro (rfl|rfl|rfl|rfl|rfl)<;>decide+kernel
theorem xor_tab:∀w:Fin 32,∀p:Fin 5,bits .xor .i64 w.val (2 ^ p.val:Int)=if bit w.val (2 ^ p.val:Int)=true then (w.val:Int)-2 ^ p.val else (w.val:Int)+2 ^ p.val:=by decide
theorem xor_single {w m:Int} (h0:0<=w) (h1:w<=31) (hs:Single m):bits .xor .i64 w m=if bit w m=true then w-m else w+m:=by
 obtain ⟨f,rfl⟩:=fin_of h0 h1
 rcases hs with rfl|rfl|rfl|rfl|rfl
 ·exact xor_tab f 0
 ·exact xor_tab f 1
 ·exact xor_tab f 2
 ·exact xor_tab f 3
 ·exact xor_tab f 4
theorem bits_tab:∀w:Fin 32,∀p:Fin 5,∀q:Fin 4,bit (bits .xor .i64 w.val (2 ^ p.val:Int)) (2 ^ q.val:Int)=(bit w.val (2 ^ q.val:Int) !=decide (p.val=q.val)):=by decide
theorem bnd_tab:∀w:Fin 32,∀p:Fin 5,0<=bits .xor .i64 w.val (2 ^ p.val:Int)/\bits .xor .i64 w.val (2 ^ p.val:Int)<=31:=by decide
theorem xor_bnd {w m:Int} (h0:0<=w) (h1:w<=31) (hs:Single m):0<=bits .xor .i64 w m/\bits .xor .i64 w m<=31:=by
 obtain ⟨f,rfl⟩:=fin_of h0 h1
 rcases hs with rfl|rfl|rfl|rfl|rfl
 ·exact bnd_tab f 0
 ·exact bnd_tab f 1
 ·exact bnd_tab f 2
 ·exact bnd_tab f 3
 ·exact bnd_tab f 4
def giveRow (mask:Int) (old r:Row):Row:=
 {X:=if mask=1 then r.X else old.X,Y:=if mask=1 then r.Y else old.Y,PX:=if mask=2 then r.PX else old.PX,PY:=if mask=2 then r.PY else old.PY,
  W:=if mask=4 then r.W else old.W,H:=if mask=4 then r.H else old.H,M:=if mask=8 then r.M else old.M,R:=if mask=8 then r.R else old.R}
theorem bits_single {w m:Int} (h0:0<=w) (h1:w<=31) (hs:Single m):bit (bits .xor .i64 w m) 1=(bit w 1 !=decide (m=1))/\bit (bits .xor .i64 w m) 2=(bit w 2 !=decide (m=2))/\bit (bits .xor .i64 w m) 4=(bit w 4 !=decide (m=4))/\bit (bits .xor .i64 w m) 8=(bit w 8 !=decide (m=8)):=by
 obtain ⟨f,rfl⟩:=fin_of h0 h1
 rcases hs with rfl|rfl|rfl|rfl|rfl
 ·exact ⟨bits_tab f 0 0,bits_tab f 0 1,bits_tab f 0 2,bits_tab f 0 3⟩
 ·exact ⟨bits_tab f 1 0,bits_tab f 1 1,bits_tab f 1 2,bits_tab f 1 3⟩
 ·exact ⟨bits_tab f 2 0,bits_tab f 2 1,bits_tab f 2 2,bits_tab f 2 3⟩
 ·exact ⟨bits_tab f 3 0,bits_tab f 3 1,bits_tab f 3 2,bits_tab f 3 3⟩
 ·exact ⟨bits_tab f 4 0,bits_tab f 4 1,bits_tab f 4 2,bits_tab f 4 3⟩
theorem give_row {w m:Int} {old r:Row} (hf:Fits w old) (hs:Single m) (hb:bit w m=false) (hr:RowIn r):changed w (bits .xor .i64 w m) old r=giveRow m old r:=by
 have w0:0<=w:=by have:=hf.lo;omega
 obtain ⟨x0,x1⟩:=xor_bnd w0 hf.hi hs
 obtain ⟨b1,b2,b4,b8⟩:=bits_single w0 hf.hi hs
 rw [changed_eq x0 x1 w0 hf.hi (fits_in (goodRow_fits.2 hf)).2 hr,b1,b2,b4,b8]
 obtain ⟨_,_,p1,_,p2,_,p4,_,p8,_⟩:=hf
 unfold giveRow
 rcases hs with rfl|rfl|rfl|rfl|rfl
 all_goals
  cases c1:bit w 1<;>cases c2:bit w 2<;>cases c4:bit w 4<;>cases c8:bit w 8<;>simp_all
theorem take_row {w m:Int} {old r:Row} (hf:Fits w old) (hs:Single m) (hb:bit w m=true) (hr:RowIn r):changed w (bits .xor .i64 w m) old r=only (w-m) old:=by
 have w0:0<=w:=by have:=hf.lo;omega
 obtain ⟨x0,x1⟩:=xor_bnd w0 hf.hi hs
 obtain ⟨b1,b2,b4,b8⟩:=bits_single w0 hf.hi hs
 have e:w-m=bits .xor .i64 w m:=by rw [xor_single w0 hf.hi hs,if_pos hb]
 rw [changed_eq x0 x1 w0 hf.hi (fits_in (goodRow_fits.2 hf)).2 hr,e]
 unfold only onlyAt
 rw [b1,b2,b4,b8]
 rcases hs with rfl|rfl|rfl|rfl|rfl
 all_goals
  cases c1:bit w 1<;>cases c2:bit w 2<;>cases c4:bit w 4<;>cases c8:bit w 8<;>simp_all
theorem change_ref {s:Store} (g:GoodS s) (kind:Int) (hk:kind=3\/kind=4) (id n mask:Int) (row:Row) (box:Box) (hr:RowIn row) {p:Th} (h:at_ s id=some p):
  (¬Single mask/\changeG s ⟨kind,id,n,mask,row,box⟩=(s,1))\/(Single mask/\bit p.1 mask=(kind==3)/\changeG s ⟨kind,id,n,mask,row,box⟩=(s,1))\/
  (Single mask/\bit p.1 mask=(kind==4)/\∃q:Th,q=(if kind=4 then (p.1-mask,only (p.1-mask) p.2) else (p.1+mask,giveRow mask p.2 row))/\
   ((goodRow q.1 q.2=false/\changeG s ⟨kind,id,n,mask,row,box⟩=(s,2))\/(goodRow q.1 q.2=true/\(changeG s ⟨kind,id,n,mask,row,box⟩).2=0/\GoodS (changeG s ⟨kind,id,n,mask,row,box⟩).1/\(changeG s ⟨kind,id,n,mask,row,box⟩).1.next=s.next/\at_ (changeG s ⟨kind,id,n,mask,row,box⟩).1=upd (at_ s) id q))):=by
 have hf:Fits p.1 p.2:=at_fits g h
 have w0:0<=p.1:=by have:=hf.lo;omega
 have eg:get s id=(p.1,p.2,true):=by rw [get_at g,h];rfl
 have ec:changeG s ⟨kind,id,n,mask,row,box⟩=if (one mask && (bit p.1 mask==(kind==4)))=false then (s,1) else change s id (bits .xor .i64 p.1 mask) row:=by
  unfold changeG
  simp only [eg]
  rfl
 by_cases hs:Single mask
 ·right
  rw [one_iff.2 hs] at ec
  by_cases hb:bit p.1 mask=(kind==4)
  ·right
   refine ⟨hs,hb,_,rfl,?_⟩
   have ec2:changeG s ⟨kind,id,n,mask,row,box⟩=change s id (bits .xor .i64 p.1 mask) row:=by
    rw [ec,if_neg (by rw [hb];simp)]
   rw [ec2]
   have hq:(if kind=4 then (p.1-mask,only (p.1-mask) p.2) else (p.1+mask,giveRow mask p.2 row):Th)=(bits .xor .i64 p.1 mask,changed p.1 (bits .xor .i64 p.1 mask) p.2 row):=by
    rcases hk with rfl|rfl
    ·have hb':bit p.1 mask=false:=by rw [hb];decide
     rw [if_neg dC,give_row hf hs hb' hr,xor_single w0 hf.hi hs,if_neg (by rw [hb'];simp)]
    ·have hb':bit p.1 mask=true:=by rw [hb];decide
     rw [if_pos rfl,take_row hf hs hb' hr,xor_single w0 hf.hi hs,if_pos hb']
   rw [hq]
   rcases change_two g (show look (entries s) id=some p from h) (bits .xor .i64 p.1 mask) row with ⟨k1,k2⟩|⟨k1,k2,k3,k4,k5⟩
   ·exact .inl ⟨k1,k2⟩
   ·exact .inr ⟨k1,k2,k3,k4,k5⟩
  ·left
   refine ⟨hs,?_,?_⟩
   ·rcases hk with rfl|rfl<;>cases hc:bit p.1 mask<;>simp_all
   ·rw [ec,if_pos (by simpa using hb)]
 ·left
  refine ⟨hs,?_⟩
  rw [ec]
  have:one mask=false:=by
   cases ho:one mask with
   |false=>rfl
   |true=>exact absurd (one_iff.1 ho) hs
  rw [this]
  rfl
theorem change_none2 {s:Store} (g:GoodS s) (a:Act) (h:at_ s a.id=none):changeG s a=(s,3):=by
 have eg:get s a.id=(0,row0,false):=by rw [get_at g,h];rfl
 unfold changeG
 rw [if_pos (by rw [eg])]
theorem kick_none {s:Store} (g:GoodS s) (a:Act) (h:at_ s a.id=none):kickG s a=(s,3):=by
 have eg:get s a.id=(0,row0,false):=by rw [get_at g,h];rfl
 unfold kickG
 rw [if_pos (by rw [eg])]
theorem kick_fits {m:Int} {r q:Row} (h:Fits m r) (h2:bit m 2=true):Fits m (kickRow r q):=by
 obtain ⟨lo,hi,p1,q1,p2,q2,p4,q4,p8,q8⟩:=h
 have a:=add_in r.PX q.PX 16777216 bO bO
 have b:=add_in r.PY q.PY 16777216 bO bO
 exact ⟨lo,hi,p1,q1,(λe=>by rw [h2] at e;cases e),λ_=>⟨a.1,a.2,b.1,b.2⟩,p4,q4,p8,q8⟩
theorem kick_ref {s:Store} (g:GoodS s) (a:Act) {p:Th} (h:at_ s a.id=some p):
  (bit p.1 2=false/\kickG s a=(s,1))\/(bit p.1 2=true/\(kickG s a).2=0/\GoodS (kickG s a).1/\(kickG s a).1.next=s.next/\at_ (kickG s a).1=upd (at_ s) a.id (p.1,kickRow p.2 a.row)):=by
 have hf:Fits p.1 p.2:=at_fits g h
 have eg:get s a.id=(p.1,p.2,true):=by rw [get_at g,h];rfl
 have ec:kickG s a=if bit p.1 2=false then (s,1) else set s a.id (kickRow p.2 a.row):=by
  unfold kickG
  simp only [eg]
  rfl
 cases hb:bit p.1 2 with
 |false=>exact .inl ⟨rfl,by rw [ec,hb,if_pos rfl]⟩
 |true=>
  right
  have ec2:kickG s a=set s a.id (kickRow p.2 a.row):=by rw [ec,hb,if_neg sS]
  rw [ec2]
  rcases set_two g (show look (entries s) a.id=some p from h) (kickRow p.2 a.row) with ⟨k1,_⟩|⟨k1,k2,k3,k4,k5⟩
  ·rw [goodRow_fits.2 (kick_fits hf hb)] at k1;cases k1
  ·exact ⟨rfl,k2,k3,k4,k5⟩
theorem and0_tab:∀m:Fin 32,bits .and .i64 m.val 0=0:=by decide
def allIds (s:Store):List Int:=query s 0
theorem allIds_mem {s:Store} (g:GoodS s) (z:Int):z∈allIds s↔(at_ s z).isSome=true:=by
 unfold allIds
 rw [mem_query_at g]
 constructor
 ·rintro ⟨n,r,h,_⟩;rw [h];rfl
 ·intro h
  obtain ⟨⟨n,r⟩,h⟩:=Option.isSome_iff_exists.1 h
  refine ⟨n,r,h,?_⟩
  have hf:=at_fits g h
  obtain ⟨f,rfl⟩:=fin_of (m:=n) (by have:=hf.lo;omega) hf.hi
  exact and0_tab f
theorem allIds_nodup {s:Store} (g:GoodS s):(allIds s).Nodup:=query_nodup g 0
theorem allIds_len {s:Store} (g:GoodS s):(allIds s).length=size s:=by
 rw [size_len g.form]
 have hn:((entries s).map (·.1)).Nodup:=g.nodup
 have hp:(allIds s).Perm ((entries s).map (·.1)):=List.perm_ext_iff_of_nodup (allIds_nodup g) hn|>.2 (λz=>by
  rw [allIds_mem g]
  unfold at_
  cases h:look (entries s) z with
  |none=>simp only [Option.isSome_none,Bool.false_eq_true,false_iff];exact look_none.1 h
  |some t=>
   simp only [Option.isSome_some,true_iff]
   apply Classical.byContradiction
   intro k
   rw [look_none.2 k] at h
   cases h)
 rw [hp.length_eq,List.length_map]
theorem size_same {s t:Store} (gs:GoodS s) (gt:GoodS t) (h:∀z,(at_ t z).isSome=(at_ s z).isSome):size t=size s:=by
 rw [←allIds_len gs,←allIds_len gt]
 exact (List.perm_ext_iff_of_nodup (allIds_nodup gt) (allIds_nodup gs)|>.2 (λz=>by rw [allIds_mem gt,allIds_mem gs,h])).length_eq
theorem size_more {s t:Store} (gs:GoodS s) (gt:GoodS t) {id:Int} {x:Th} (hn:at_ s id=none) (h:at_ t=upd (at_ s) id x):size t=size s+1:=by
 rw [←allIds_len gs,←allIds_len gt]
 have hi:id∉allIds s:=by rw [allIds_mem gs,hn];simp
 refine (List.perm_ext_iff_of_nodup (allIds_nodup gt) (l₂:=id::allIds s) (List.nodup_cons.2 ⟨hi,allIds_nodup gs⟩)|>.2 (λz=>?_)).length_eq
 rw [allIds_mem gt,h,List.mem_cons,allIds_mem gs]
 unfold upd
 by_cases hz:z=id
 ·subst hz;simp
 ·simp [hz]
theorem size_as {s t:Store} (gs:GoodS s) (gt:GoodS t) {id:Int} {x:Th} (hn:(at_ s id).isSome=true) (h:at_ t=upd (at_ s) id x):size t=size s:=by
 refine size_same gs gt (λz=>?_)
 rw [h]
 unfold upd
 by_cases hz:z=id
 ·subst hz;simp [hn]
 ·simp [hz]
theorem size_less {s t:Store} (gs:GoodS s) (gt:GoodS t) {id:Int} (hn:(at_ s id).isSome=true) (h:at_ t=del (at_ s) id):size t=size s-1:=by
 rw [←allIds_len gs,←allIds_len gt]
 have hi:id∉allIds t:=by rw [allIds_mem gt,h];simp [del]
 have:=(List.perm_ext_iff_of_nodup (allIds_nodup gs) (l₂:=id::allIds t) (List.nodup_cons.2 ⟨hi,allIds_nodup gt⟩)|>.2 (λz=>by
  rw [allIds_mem gs,List.mem_cons,allIds_mem gt,h]
  unfold del
  by_cases hz:z=id
  ·subst hz;simp [hn]
  ·simp [hz])).length_eq
 rw [this,List.length_cons]
 omega
theorem at_next {s:Store} (g:GoodS s):at_ s s.next=none:=by
 cases h:at_ s s.next with
 |none=>rfl
 |some p=>have:=(good_thing g (show look (entries s) s.next=some p from h)).1;omega
def lastM (s:Store):Nat->Int
 |0=>0
 |n+1=>match s.tables[n]? with|some t=>t.mask|none=>0
theorem lastM_succ {s:Store} {n:Nat} {t:Table} (h:s.tables[n]?=some t):lastM s (n+1)=t.mask:=by simp [lastM,h]
def alike (s:Store):Store:=⟨s.tables,wrap64 (s.next-1)+1⟩
theorem alike_eq {s:Store} (h:0<=s.next) (h1:s.next<=9223372036854775807):alike s=s:=by
 unfold alike
 rw [IntWalk.wrap64_in _ bO]
 simp
theorem alike_bad {s:Store} (h:good (alike s)=false):good s=false:=by
 cases hg:good s
 ·rfl
 ·have g:=(good_iff s).1 hg
  rw [alike_eq g.2.2.2.2.1 (by have:=g.2.2.2.2.2;omega),hg] at h
  cases h
theorem good_last {s:Store} (h:Upto (alike s) s.tables.length):good s=(decide (((idsT s.tables).length:Int)<=10) && decide (0<=s.next/\s.next<=1048576)):=by
 by_cases hn:0<=s.next/\s.next<=1048576
 ·rw [alike_eq hn.1 bO] at h
  obtain ⟨a,b,c⟩:=h
  rw [List.take_length] at a b c
  rw [decide_eq_true hn,Bool.and_true,Bool.eq_iff_iff,good_iff,decide_eq_true_eq]
  unfold GoodS
  constructor
  ·intro g;have:=g.2.2.2.1;omega
  ·intro g;exact ⟨a,b,c,by omega,hn.1,hn.2⟩
 ·rw [decide_eq_false hn,Bool.and_false]
  cases hg:good s
  ·rfl
  ·have g:=(good_iff s).1 hg
   exact absurd ⟨g.2.2.2.2.1,g.2.2.2.2.2⟩ hn
theorem ok_mask {next:Int} {t:Table} (h:TableOk next t):1<=t.mask/\t.mask<=31:=by
 obtain ⟨h1,h2,h3,h4⟩:=h
 obtain ⟨r,l,e⟩:∃r l,t.rows=r::l:=by
  cases hr:t.rows with
  |nil=>rw [hr] at h2;exact absurd (List.length_eq_zero_iff.1 h2) h1
  |cons r l=>exact ⟨r,l,rfl⟩
 have:=h4 r (by rw [e];simp)
 unfold goodRow at this
 simp only [Bool.and_eq_true,decide_eq_true_eq] at this
 exact this.1
theorem bad_first {s:Store} {n:Nat} {t:Table} (ht:s.tables[n]?=some t) (h:t.mask<=0):good s=false:=by
 cases hg:good s
 ·rfl
 ·have g:=(good_iff s).1 hg
  have:=ok_mask (g.1 t (List.mem_of_getElem? ht))
  omega
theorem bad_last {s:Store} {n:Nat} {t:Table} (ht:s.tables[n]?=some t) (h:t.mask<=lastM s n):good s=false:=by
 cases n with
 |zero=>exact bad_first ht h
 |succ n=>
  obtain ⟨p,hp⟩:∃p,s.tables[n]?=some p:=⟨_,List.getElem?_eq_getElem (by have:=(List.getElem?_eq_some_iff.1 ht).1;omega)⟩
  rw [lastM_succ hp] at h
  exact bad_mask ht bO (p:=p) (by simpa using hp) h
theorem last_up {s:Store} {n:Nat} {t:Table} (h:¬t.mask<=lastM s n):∀p,0<n->s.tables[n-1]?=some p->p.mask<t.mask:=by
 intro p hn hp
 obtain ⟨m,rfl⟩:∃m,n=m+1:=⟨n-1,by omega⟩
 simp only [Nat.add_sub_cancel] at hp
 rw [lastM_succ hp] at h
 omega
theorem ids_le (l:List Table) (N:Nat) (h:∀t∈l,t.ids.length<=N):(idsT l).length<=l.length*N:=by
 induction l with
 |nil=>simp [idsT]
 |cons t l ih=>
  have e:(idsT (t::l)).length=t.ids.length+(idsT l).length:=by simp [idsT]
  have:=h t sS
  have:=ih (λt ht=>h t (by simp [ht]))
  rw [e,List.length_cons,Nat.succ_mul]
  omega
theorem upto_small {s:Store} {n:Nat} (h:Upto s n) (hs:∀t∈s.tables,t.ids.length<=17592186044416):(idsT (s.tables.take n)).length<=562949953421312:=by
 have hm:(s.tables.take n).length<=32:=by
  have h1:((s.tables.take n).map (·.mask)).Nodup:=by
   unfold List.Nodup
   rw [List.pairwise_map]
   exact h.2.1.imp (λh=>by omega)
  have:=nodup_bound ((s.tables.take n).map (·.mask)) 32 h1 (λm hm=>by
   obtain ⟨t,ht,rfl⟩:=List.mem_map.1 hm
   have:=ok_mask (h.1 t ht)
   omega)
  rwa [List.length_map] at this
 have:=ids_le (s.tables.take n) 17592186044416 (λt ht=>hs t (List.mem_of_mem_take ht))
 have h3:(s.tables.take n).length*17592186044416<=32*17592186044416:=Nat.mul_le_mul_right _ hm
 omega
theorem look_snoc {E:List Entry} {id m:Int} {r:Row} (h:id∉E.map (·.1)):look (E++[(id,m,r)])=upd (look E) id (m,r):=by
 funext j
 unfold upd
 have hn:=look_none.2 h
 unfold look at hn⊢
 rw [List.find?_append]
 by_cases hj:j=id
 ·subst hj
  rw [if_pos rfl]
  simp only [Option.map_eq_none_iff] at hn
  rw [hn]
  simp
 ·rw [if_neg hj]
  cases hf:E.find? λe=>e.1==j with
  |some x=>simp
  |none=>
   have:¬id=j:=λe=>hj e.symm
   simp [this]
def taken (s:Store) (n k:Nat) (t:Table):List Entry:=entriesT (s.tables.take n)++t.entries.take k
theorem taken_zero (s:Store) (n:Nat) (t:Table):taken s n 0 t=entriesT (s.tables.take n):=by simp [taken]
theorem taken_succ {s:Store} {n k:Nat} {t:Table} {id:Int} {r:Row} (hi:t.ids[k]?=some id) (hr:t.rows[k]?=some r):taken s n (k+1) t=taken s n k t++[(id,t.mask,r)]:=by
 unfold taken
 rw [take_snoc (t:=(id,t.mask,r)),List.append_assoc]
 unfold Table.entries
 have hz:(t.ids.zip t.rows)[k]?=some (id,r):=List.getElem?_zip_eq_some.2 ⟨hi,hr⟩
 rw [List.getElem?_map,hz]
 rfl
theorem taken_all {s:Store} {n:Nat} {t:Table} (ht:s.tables[n]?=some t) (hl:t.ids.length=t.rows.length):taken s n t.ids.length t=entriesT (s.tables.take (n+1)):=by
 unfold taken
 have he:t.entries.take t.ids.length=t.entries:=List.take_of_length_le (by rw [entries_len t hl];exact Nat.le_refl _)
 rw [take_snoc ht,entriesT_append,he]
 simp [entriesT]
theorem taken_ids {s:Store} {n k:Nat} {t:Table} (he:∀u∈s.tables.take n,u.ids.length=u.rows.length) (hl:t.ids.length=t.rows.length):(taken s n k t).map (·.1)=idsT (s.tables.take n)++t.ids.take k:=by
 unfold taken
 rw [List.map_append,entriesT_ids _ he,List.map_take,entries_ids t hl]
theorem upto_even {s:Store} {n:Nat} (h:Upto s n):∀u∈s.tables.take n,u.ids.length=u.rows.length:=λu hu=>(h.1 u hu).2.1
theorem look_some_iff {E:List Entry} {id:Int}:(look E id).isSome=decide (id∈E.map (·.1)):=by
 by_cases h:id∈E.map (·.1)
 ·rw [decide_eq_true h]
  cases hl:look E id with
  |some x=>rfl
  |none=>exact absurd h (look_none.1 hl)
 ·rw [decide_eq_false h,look_none.2 h]
  rfl
end Go.Proofs.YtemkbjaojinaoaaGreat.M
namespace Go.Proofs.YtemkbjaojinaoaaGreat
open Go Go.RowKit
structure DG (γ:Type) where
 P:Program
 ops:Array Oper
 a0:Act
 n:Nat
 slot:Nat->Option Nat
 val:γ->Nat->Value
 needs:Nat->List Nat
 mem:γ->Array Bool->World->Prop
namespace DG
variable {γ:Type} (c:DG γ)
structure Inv (l:Array Bool) (a:Act) (W:World):Prop where
 size:l.size=c.n
 len:a.tmps.size=c.a0.tmps.size
 defers:a.defers=c.a0.defers
 other:∀s:Nat,(∀k,k<c.n->c.slot k≠some s)->a.eval (.tmp s)=c.a0.eval (.tmp s)
 closed:∀k j,j∈c.needs k->l.getD k false=true->l.getD j false=true
 ghost:∃g:γ,(∀k s,k<c.n->c.slot k=some s->l.getD k false=true->a.eval (.tmp s)=c.val g k)/\c.mem g l W
structure Facts (k:Nat) (g:γ) (l:Array Bool) (a:Act) (W:World):Prop where
 vals:∀j s,j∈c.needs k->c.slot j=some s->a.eval (.tmp s)=c.val g j
 other:∀s:Nat,(∀k,k<c.n->c.slot k≠some s)->a.eval (.tmp s)=c.a0.eval (.tmp s)
 listed:∀j,j∈c.needs k->l.getD j false=true
 closed:∀k j,j∈c.needs k->l.getD k false=true->l.getD j false=true
 not:l.getD k false=false
 size:l.size=c.n
 mem:c.mem g l W
def StepOk (Q:Exit->Act->World->Prop) (k:Nat):Prop:=
 ∀g l a W,c.Facts k g l a W->∀o,c.ops[k]?=some o->∀K:Act->World->Prop,(∀g' W',(∀j,j<c.n->j≠k->l.getD j false=true->c.val g' j=c.val g j)->c.mem g' (l.setIfInBounds k true) W'->K (a.put (c.slot k) (c.val g' k)) W')->o.wp c.P a W K Q
structure Ok (Q:Exit->Act->World->Prop):Prop where
 size:c.ops.size=c.n
 guards:∀k,k<c.n->∀o,c.ops[k]?=some o->o.guard=none
 waits:∀k,k<c.n->∀j∈c.needs k,waits .any c.ops k j=true
 step:∀k,k<c.n->c.StepOk Q k
 inj:∀j k s,j<c.n->k<c.n->c.slot j=some s->c.slot k=some s->j=k
 room:∀k s,k<c.n->c.slot k=some s->s<c.a0.tmps.size
variable {c} {l:Array Bool} {a:Act} {W:World} {Q:Exit->Act->World->Prop}
theorem set_ne {l:Array Bool} {i k:Nat} (h:i≠k):(l.setIfInBounds i true).getD k false=l.getD k false:=by
 by_cases hk:k<l.size
 ·simp [Array.getD,hk,Array.getElem_setIfInBounds,h]
 ·simp [Array.getD,hk]
theorem set_eq {l:Array Bool} {i:Nat} (h:i<l.size):(l.setIfInBounds i true).getD i false=true:=by
 simp [Array.getD,h]
theorem step (ok:c.Ok Q) {k:Nat} (h:c.Inv l a W) (hi:k∈Region.ready .any c.ops l):wpOp c.P c.ops Q k (c.Inv (l.setIfInBounds k true)) a W:=by
 have hk:k<c.n:=ok.size▸(ready_spec hi).2.1
 obtain ⟨o,ho⟩:∃o,c.ops[k]?=some o:=⟨_,Array.getElem?_eq_getElem (by have:=ok.size;omega)⟩
 have hnot:=(getD_two (ready_spec hi).1).2
 obtain ⟨g,hv,hm0⟩:=h.ghost
 have F:c.Facts k g l a W:=⟨λj s hj hs=>by
  have hl:=ready_dep hi j (ok.waits k hk j hj)
  have hjn:j<c.n:=by
   by_cases hjs:j<l.size
   ·have:=h.size;omega
   ·simp [Array.getD,hjs] at hl
  exact hv j s hjn hs hl,h.other,λj hj=>ready_dep hi j (ok.waits k hk j hj),h.closed,hnot,h.size,hm0⟩
 refine wpOp_run ho (ok.guards k hk o ho) (ok.step k hk g l a W F o ho _ (λg' W' hg' hm=>?_))
 refine ⟨by simp [h.size],?_,?_,?_,?_,g',?_,hm⟩
 ·cases hsl:c.slot k with
  |none=>exact h.len
  |some t=>simp [Act.put,h.len]
 ·cases hsl:c.slot k with
  |none=>exact h.defers
  |some t=>exact h.defers
 ·intro s hs
  cases hsl:c.slot k with
  |none=>exact h.other s hs
  |some t=>rw [put_other (λe=>hs k hk (by rw [hsl,e]))];exact h.other s hs
 ·intro k' j hj hl
  rcases set_getD hl with rfl|hl
  ·exact getD_set (ready_dep hi j (ok.waits _ hk j hj))
  ·exact getD_set (h.closed k' j hj hl)
 ·intro j s hj hs hl
  by_cases hjk:k=j
  ·subst hjk
   rw [hs,put_same (by have:=ok.room k s hk hs;have:=h.len;omega)]
  ·rw [set_ne hjk] at hl
   rw [hg' j hj (λe=>hjk e.symm) hl]
   cases hsl:c.slot k with
   |none=>exact hv j s hj hs hl
   |some t=>
    rw [put_other (λe=>hjk (ok.inj k j s hk hj (by rw [hsl,e]) hs))]
    exact hv j s hj hs hl
theorem region (ok:c.Ok Q) (hord:((List.range c.n).all λi=>((c.ops[i]?).map λo=>o.after.toList.all λe=> !Region.binds .any e||decide (e.on<i)).getD true)=true)
  (g0:γ) (hW:c.mem g0 (Array.replicate c.n false) W)
  (hQ:∀(a':Act) (g:γ) (l:Array Bool) (W':World),a'.tmps.size=c.a0.tmps.size->a'.defers=c.a0.defers->(∀s:Nat,(∀k,k<c.n->c.slot k≠some s)->a'.eval (.tmp s)=c.a0.eval (.tmp s))->
   (∀k s,k<c.n->c.slot k=some s->a'.eval (.tmp s)=c.val g k)->(∀k,k<c.n->l.getD k false=true)->c.mem g l W'->Q .normal a' W'):
  wpAny c.P .any c.ops Q c.n (Array.replicate c.n false) c.a0 W:=by
 have z:∀k,(Array.replicate c.n false).getD k false=false:=λk=>by
  by_cases hk:k<c.n<;>simp [Array.getD,hk]
 have no:∀{b:Bool} {q:Prop},b=false->b=true->q:=λh1 h2=>by rw [h1] at h2;cases h2
 refine wpAny_inv c.Inv ?_ (λd a w i h hi=>step ok h hi) c.n _ _ _ (by unfold Undone;simp) ⟨by simp,rfl,rfl,λ_ _=>rfl,λk j _ hl=>no (z k) hl,g0,λk s _ _ hl=>no (z k) hl,hW⟩
 intro d a w h hr
 have all:=all_done hr (by rw [h.size,ok.size]) (by
  intro i hi o ho e he hb
  have h1:=List.all_eq_true.1 hord i (List.mem_range.2 (ok.size▸hi))
  rw [ho] at h1
  simp only [Option.map_some,Option.getD_some] at h1
  have h2:=List.all_eq_true.1 h1 e he
  simpa [hb] using h2)
 rw [ok.size] at all
 obtain ⟨g,hv,hm⟩:=h.ghost
 exact hQ a g d w h.len h.defers h.other (λk s hk hs=>hv k s hk hs (all k hk)) all hm
theorem gz {α:Type} {d x:α} {l:List α}:(x::l).getD 0 d=x:=List.getD_cons_zero
theorem gs {α:Type} {d x:α} {l:List α} {n:Nat}:(x::l).getD (n+1) d=l.getD n d:=List.getD_cons_succ
theorem tmps_eval (a:Act) (s:Nat):a.tmps[s]?.getD undef=a.eval (.tmp s):=by simp [Act.eval]
def setQ (A:Array Value):List (Nat×Value)->Array Value
 |[]=>A
 |p::L=>setQ (A.setIfInBounds p.1 p.2) L
theorem setQ_size (A:Array Value) (L:List (Nat×Value)):(setQ A L).size=A.size:=by
 induction L generalizing A with
 |nil=>rfl
 |cons p L ih=>rw [setQ,ih];simp
theorem setQ_get (tm A:Array Value) (S:List Nat) (i:Nat) (hi:i<A.size):(setQ A (S.map λs=>(s,tm.getD s undef)))[i]?=if i∈S then some (tm.getD i undef) else A[i]?:=by
 induction S generalizing A with
 |nil=>simp [setQ]
 |cons s S ih=>
  rw [mC,setQ,ih _ (by simpa using hi)]
  by_cases h1:i∈S
  ·rw [if_pos h1,if_pos (List.mem_cons_of_mem _ h1)]
  ·rw [if_neg h1,Array.getElem?_setIfInBounds]
   by_cases h2:s=i
   ·subst h2
    simp [hi]
   ·rw [if_neg h2,if_neg (by simp only [List.mem_cons,not_or];exact ⟨λe=>h2 e.symm,h1⟩)]
theorem frameQ {tm A:Array Value} {n:Nat} (S:List Nat) (hz:tm.size=n) (hA:A.size=n) (h:∀i,i∉S->tm.getD i undef=A.getD i undef):tm=setQ A (S.map λs=>(s,tm.getD s undef)):=by
 apply Array.ext_getElem?
 intro i
 by_cases hi:i<n
 ·rw [setQ_get _ _ _ _ bO]
  have e:tm[i]?=some (tm.getD i undef):=by simp [Array.getD,hz,hi]
  rw [e]
  by_cases h1:i∈S
  ·rw [if_pos h1]
  ·rw [if_neg h1,h i h1]
   simp [Array.getD,hA,hi]
 ·rw [Array.getElem?_eq_none bO,Array.getElem?_eq_none (by rw [setQ_size];omega)]
theorem wp_named {P:Program} {c:Code} {Q:Exit->Act->World->Prop} {a:Act} {w:World} (h:∀A,A=a->c.wp P Q A w):c.wp P Q a w:=h a rfl
theorem StepOk.of {k:Nat} {x:Op×Option Nat} (hx:(c.ops[k]?).map (λo=>(o.op,o.dst))=some x) (H:∀g l a W,c.Facts k g l a W->∀o:Oper,o.op=x.1->o.dst=x.2->∀K:Act->World->Prop,(∀g' W',(∀j,j<c.n->j≠k->l.getD j false=true->c.val g' j=c.val g j)->c.mem g' (l.setIfInBounds k true) W'->K (a.put (c.slot k) (c.val g' k)) W')->o.wp c.P a W K Q):c.StepOk Q k:=
 λg l a W F o ho K hK=>H g l a W F o (by rw [ho] at hx;simp only [Option.map_some,Option.some.injEq] at hx;rw [←hx]) (by rw [ho] at hx;simp only [Option.map_some,Option.some.injEq] at hx;rw [←hx]) K hK
theorem StepOk.ofo {k:Nat} (s:Nat) {v:Value} (h:c.a0.eval (.tmp s)=v) {x:Op×Option Nat} (hx:(c.ops[k]?).map (λo=>(o.op,o.dst))=some x:=by kernel_rfl) (hc:((List.range c.n).all λi=>c.slot i !=some s)=true:=by rfl)
  (H:∀g l a W,c.Facts k g l a W->∀o:Oper,o.op=x.1->o.dst=x.2->∀K:Act->World->Prop,(∀g' W',(∀j,j<c.n->j≠k->l.getD j false=true->c.val g' j=c.val g j)->c.mem g' (l.setIfInBounds k true) W'->K (a.put (c.slot k) (c.val g' k)) W')->a.eval (.tmp s)=v->o.wp c.P a W K Q):c.StepOk Q k:=
 .of hx λg l a W F o h1 h2 K hK=>H g l a W F o h1 h2 K hK ((F.other s (λi hi=>by simpa using List.all_eq_true.1 hc i (List.mem_range.2 hi))).trans h)
theorem StepOk.of1 {k:Nat} (j s:Nat) {x:Op×Option Nat} (hx:(c.ops[k]?).map (λo=>(o.op,o.dst))=some x:=by kernel_rfl) (h:(c.needs k).contains j=true:=by rfl) (hs:c.slot j=some s:=by rfl)
  (H:∀g l a W,c.Facts k g l a W->∀o:Oper,o.op=x.1->o.dst=x.2->∀K:Act->World->Prop,(∀g' W',(∀j,j<c.n->j≠k->l.getD j false=true->c.val g' j=c.val g j)->c.mem g' (l.setIfInBounds k true) W'->K (a.put (c.slot k) (c.val g' k)) W')->a.eval (.tmp s)=c.val g j->o.wp c.P a W K Q):c.StepOk Q k:=
 .of hx λg l a W F o h1 h2 K hK=>H g l a W F o h1 h2 K hK (F.vals j s (by simpa using h) hs)
theorem StepOk.of2 {k:Nat} (j s i t:Nat) {x:Op×Option Nat} (hx:(c.ops[k]?).map (λo=>(o.op,o.dst))=some x:=by kernel_rfl) (h:((c.needs k).contains j && (c.needs k).contains i)=true:=by rfl) (hs:c.slot j=some s:=by rfl) (ht:c.slot i=some t:=by rfl)
  (H:∀g l a W,c.Facts k g l a W->∀o:Oper,o.op=x.1->o.dst=x.2->∀K:Act->World->Prop,(∀g' W',(∀j,j<c.n->j≠k->l.getD j false=true->c.val g' j=c.val g j)->c.mem g' (l.setIfInBounds k true) W'->K (a.put (c.slot k) (c.val g' k)) W')->a.eval (.tmp s)=c.val g j/\a.eval (.tmp t)=c.val g i->o.wp c.P a W K Q):c.StepOk Q k:=by
 have h9:=by simpa only [Bool.and_eq_true] using h
 exact .of hx λg l a W F o h1 h2 K hK=>H g l a W F o h1 h2 K hK ⟨F.vals j s (by simpa using h9.1) hs,F.vals i t (by simpa using h9.2) ht⟩
theorem ok_of {N:Nat} (hs:c.ops.size=c.n) (hg:(c.ops.toList.all λo=>o.guard.isNone)=true) (hw:((List.range c.n).all λk=>(c.needs k).all λj=>waits .any c.ops k j)=true)
  (hi:((List.range c.n).all λj=>(List.range c.n).all λk=>match c.slot j,c.slot k with|some s,some t=>s !=t||j==k|_,_=>true)=true) (hz:c.a0.tmps.size=N)
  (hr:((List.range c.n).all λj=>match c.slot j with|some s=>decide (s<N)|none=>true)=true) (hst:∀k,k<c.n->c.StepOk Q k):c.Ok Q where
 size:=hs
 guards:=λk _ o ho=>by simpa using List.all_eq_true.1 hg o (List.mem_of_getElem? (by rw [Array.getElem?_toList];exact ho))
 waits:=λk hk j hj=>List.all_eq_true.1 (List.all_eq_true.1 hw k (List.mem_range.2 hk)) j hj
 step:=hst
 inj:=λj k s hj hk h1 h2=>by
  have:=List.all_eq_true.1 (List.all_eq_true.1 hi j (List.mem_range.2 hj)) k (List.mem_range.2 hk)
  rw [h1,h2] at this
  simpa using this
 room:=λk s hk h1=>by
  have:=List.all_eq_true.1 hr k (List.mem_range.2 hk)
  rw [h1] at this
  rw [hz]
  simpa using this
theorem filter_congr {α β:Type} {f g:α->Option β}:∀{l:List α},(∀k∈l,f k=g k)->l.filterMap f=l.filterMap g
 |[],_=>rfl
 |a::l,h=>by
  rw [List.filterMap_cons,List.filterMap_cons,h a sS,filter_congr (λk hk=>h k (List.mem_cons_of_mem _ hk))]
theorem frame_slots {n:Nat} {slot:Nat->Option Nat} {V:Nat->Value} {tm A:Array Value} (hz:tm.size=A.size) (ho:∀s:Nat,(∀k,k<n->slot k≠some s)->tm.getD s undef=A.getD s undef) (hv:∀k s,k<n->slot k=some s->tm.getD s undef=V k):
  tm=setQ A ((List.range n).filterMap λk=>(slot k).map λs=>(s,V k)):=by
 have h:=frameQ (n:=A.size) ((List.range n).filterMap slot) hz rfl (λi hi=>ho i (λk hk e=>hi (List.mem_filterMap.2 ⟨k,List.mem_range.2 hk,e⟩)))
 refine h.trans (congrArg (setQ A) ?_)
 rw [List.map_filterMap]
 refine filter_congr λk hk=>?_
 cases e:slot k with
 |none=>rfl
 |some s=>simp only [Option.map_some];rw [hv k s (List.mem_range.1 hk) e]
theorem region2 (ok:c.Ok Q) (hord:((List.range c.n).all λi=>((c.ops[i]?).map λo=>o.after.toList.all λe=> !Region.binds .any e||decide (e.on<i)).getD true)=true) (hd:c.a0.defers=[]) (g0:γ) (hW:c.mem g0 (Array.replicate c.n false) W)
  (L:γ->List (Nat×Value)) (hL:∀g,L g=(List.range c.n).filterMap λk=>(c.slot k).map λs=>(s,c.val g k))
  (hQ:∀(g:γ) (l:Array Bool) (W':World),(∀k,k<c.n->l.getD k false=true)->c.mem g l W'->Q .normal ⟨setQ c.a0.tmps (L g),[]⟩ W'):wpAny c.P .any c.ops Q c.n (Array.replicate c.n false) c.a0 W:=by
 refine region ok hord g0 hW ?_
 intro a' g l W' h1 h2 h3 hv hl hm'
 obtain ⟨tm,df⟩:=a'
 obtain rfl:df=[]:=h2.trans hd
 have ht:=frame_slots (n:=c.n) (slot:=c.slot) (V:=c.val g) (tm:=tm) (A:=c.a0.tmps) h1 (λs hs=>h3 s hs) (λk s hk e=>hv k s hk e)
 rw [ht,←hL]
 exact hQ g l W' hl hm'
end DG
end Go.Proofs.YtemkbjaojinaoaaGreat
namespace Go.Proofs.YtemkbjaojinaoaaGreat
open Go Go.RowKit
structure DH (γ:Type) where
 gd:Nat->Option (Nat×Bool)
 P:Program
 ops:Array Oper
 a0:Act
 n:Nat
 slot:Nat->Option Nat
 val:γ->Nat->Value
 needs:Nat->List Nat
 mem:γ->Array Bool->World->Prop
namespace DH
variable {γ:Type} (c:DH γ)
structure Inv (l:Array Bool) (a:Act) (W:World):Prop where
 size:l.size=c.n
 len:a.tmps.size=c.a0.tmps.size
 defers:a.defers=c.a0.defers
 other:∀s:Nat,(∀k,k<c.n->c.slot k≠some s)->a.eval (.tmp s)=c.a0.eval (.tmp s)
 closed:∀k j,j∈c.needs k->l.getD k false=true->l.getD j false=true
 ghost:∃g:γ,(∀k s,k<c.n->c.slot k=some s->l.getD k false=true->a.eval (.tmp s)=c.val g k)/\c.mem g l W
structure Facts (k:Nat) (g:γ) (l:Array Bool) (a:Act) (W:World):Prop where
 vals:∀j s,j∈c.needs k->c.slot j=some s->a.eval (.tmp s)=c.val g j
 other:∀s:Nat,(∀k,k<c.n->c.slot k≠some s)->a.eval (.tmp s)=c.a0.eval (.tmp s)
 listed:∀j,j∈c.needs k->l.getD j false=true
 closed:∀k j,j∈c.needs k->l.getD k false=true->l.getD j false=true
 not:l.getD k false=false
 size:l.size=c.n
 mem:c.mem g l W
def StepOk (Q:Exit->Act->World->Prop) (k:Nat) (g:γ):Prop:=
 ∀l a W,c.Facts k g l a W->∀o,c.ops[k]?=some o->∀K:Act->World->Prop,(∀g' W',(∀j,j<c.n->j≠k->l.getD j false=true->c.val g' j=c.val g j)->c.mem g' (l.setIfInBounds k true) W'->K (a.put (c.slot k) (c.val g' k)) W')->o.wp c.P a W K Q
structure Ok (Q:Exit->Act->World->Prop):Prop where
 size:c.ops.size=c.n
 guards:∀k,k<c.n->∀o,c.ops[k]?=some o->o.guard=c.gd k
 dsts:∀k,k<c.n->∀o,c.ops[k]?=some o->o.dst=c.slot k
 gneed:∀k j b,k<c.n->c.gd k=some (j,b)->j∈c.needs k/\j<c.n/\∃s,c.slot j=some s
 gbool:∀k j b g,k<c.n->c.gd k=some (j,b)->∃x:Bool,c.val g j=.bool x
 skip:∀k j b g l a W,k<c.n->c.gd k=some (j,b)->c.val g j=.bool (!b)->c.Facts k g l a W->c.val g k=undef/\c.mem g (l.setIfInBounds k true) W
 waits:∀k,k<c.n->∀j∈c.needs k,waits .any c.ops k j=true
 step:∀k,k<c.n->∀g,(∀j b,c.gd k=some (j,b)->c.val g j=.bool b)->c.StepOk Q k g
 inj:∀j k s,j<c.n->k<c.n->c.slot j=some s->c.slot k=some s->j=k
 room:∀k s,k<c.n->c.slot k=some s->s<c.a0.tmps.size
variable {c} {l:Array Bool} {a:Act} {W:World} {Q:Exit->Act->World->Prop}
theorem set_ne {l:Array Bool} {i k:Nat} (h:i≠k):(l.setIfInBounds i true).getD k false=l.getD k false:=by
 by_cases hk:k<l.size
 ·simp [Array.getD,hk,Array.getElem_setIfInBounds,h]
 ·simp [Array.getD,hk]
theorem set_eq {l:Array Bool} {i:Nat} (h:i<l.size):(l.setIfInBounds i true).getD i false=true:=by
 simp [Array.getD,h]
theorem step_done (ok:c.Ok Q) {k:Nat} {o:Oper} {g g':γ} {W':World} (h:c.Inv l a W) (hi:k∈Region.ready .any c.ops l) (ho:c.ops[k]?=some o) (hk:k<c.n) (hnot:l.getD k false=false) (hv:∀j s,j<c.n->c.slot j=some s->l.getD j false=true->a.eval (.tmp s)=c.val g j)
  (hg':∀j,j<c.n->j≠k->l.getD j false=true->c.val g' j=c.val g j) (hm:c.mem g' (l.setIfInBounds k true) W'):c.Inv (l.setIfInBounds k true) (a.put (c.slot k) (c.val g' k)) W':=by
 refine ⟨by simp [h.size],?_,?_,?_,?_,g',?_,hm⟩
 ·cases hsl:c.slot k with
  |none=>exact h.len
  |some t=>simp [Act.put,h.len]
 ·cases hsl:c.slot k with
  |none=>exact h.defers
  |some t=>exact h.defers
 ·intro s hs
  cases hsl:c.slot k with
  |none=>exact h.other s hs
  |some t=>rw [put_other (λe=>hs k hk (by rw [hsl,e]))];exact h.other s hs
 ·intro k' j hj hl
  rcases set_getD hl with rfl|hl
  ·exact getD_set (ready_dep hi j (ok.waits _ hk j hj))
  ·exact getD_set (h.closed k' j hj hl)
 ·intro j s hj hs hl
  by_cases hjk:k=j
  ·subst hjk
   rw [hs,put_same (by have:=ok.room k s hk hs;have:=h.len;omega)]
  ·rw [set_ne hjk] at hl
   rw [hg' j hj (λe=>hjk e.symm) hl]
   cases hsl:c.slot k with
   |none=>exact hv j s hj hs hl
   |some t=>
    rw [put_other (λe=>hjk (ok.inj k j s hk hj (by rw [hsl,e]) hs))]
    exact hv j s hj hs hl
theorem step (ok:c.Ok Q) {k:Nat} (h:c.Inv l a W) (hi:k∈Region.ready .any c.ops l):wpOp c.P c.ops Q k (c.Inv (l.setIfInBounds k true)) a W:=by
 have hk:k<c.n:=ok.size▸(ready_spec hi).2.1
 obtain ⟨o,ho⟩:∃o,c.ops[k]?=some o:=⟨_,Array.getElem?_eq_getElem (by have:=ok.size;omega)⟩
 have hnot:=(getD_two (ready_spec hi).1).2
 obtain ⟨g,hv,hm0⟩:=h.ghost
 have F:c.Facts k g l a W:=⟨λj s hj hs=>by
  have hl:=ready_dep hi j (ok.waits k hk j hj)
  have hjn:j<c.n:=by
   by_cases hjs:j<l.size
   ·have:=h.size;omega
   ·simp [Array.getD,hjs] at hl
  exact hv j s hjn hs hl,h.other,λj hj=>ready_dep hi j (ok.waits k hk j hj),h.closed,hnot,h.size,hm0⟩
 refine wpOp_step ho λK' hK=>?_
 have hfin:∀g' W',(∀j,j<c.n->j≠k->l.getD j false=true->c.val g' j=c.val g j)->c.mem g' (l.setIfInBounds k true) W'->K' (a.put (c.slot k) (c.val g' k)) W':=λg' W' hg' hm=>hK _ _ (step_done ok h hi ho hk hnot hv hg' hm)
 have hgd:=ok.guards k hk o ho
 cases hg:c.gd k with
 |none=>
  rw [if_pos (by simp [Region.wanted,hgd,hg])]
  exact ok.step k hk g (λj b e=>by rw [hg] at e;cases e) l a W F o ho _ hfin
 |some p=>
  obtain ⟨j,b⟩:=p
  obtain ⟨hj,hjn,s,hs⟩:=ok.gneed k j b hk hg
  obtain ⟨x,hx⟩:=ok.gbool k j b g hk hg
  have hval:=(F.vals j s hj hs).trans hx
  have hy:yielded c.ops a.tmps j=some x:=by
   obtain ⟨oj,hoj⟩:∃o,c.ops[j]?=some o:=⟨_,Array.getElem?_eq_getElem (by have:=ok.size;omega)⟩
   have hdj:=(ok.dsts j hjn oj hoj).trans hs
   have ht:a.tmps[s]?=some (.bool x):=by
    have h5:a.tmps[s]?.getD undef=.bool x:=by simpa [Act.eval] using hval
    cases h6:a.tmps[s]? with
    |none=>rw [h6] at h5;cases h5
    |some u=>rw [h6] at h5;simpa using h5
   simp [yielded,hoj,hdj,ht]
  have hw:Region.wanted o (yielded c.ops a.tmps)=(some x==some b):=by
   unfold Region.wanted
   rw [hgd,hg]
   simp only [hy]
  by_cases hxb:x=b
  ·subst hxb
   rw [hw,if_pos sS]
   exact ok.step k hk g (λj' b' e=>by rw [hg] at e;simp only [Option.some.injEq,Prod.mk.injEq] at e;obtain ⟨rfl,rfl⟩:=e;exact hx) l a W F o ho _ hfin
  ·rw [hw,if_neg (by simpa using hxb)]
   obtain ⟨e1,e2⟩:=ok.skip k j b g l a W hk hg (by rw [hx];cases x<;>cases b<;>simp_all) F
   have:=hfin g W (λ_ _ _ _=>rfl) e2
   rw [e1] at this
   rw [ok.dsts k hk o ho]
   exact this
theorem region (ok:c.Ok Q) (hord:((List.range c.n).all λi=>((c.ops[i]?).map λo=>o.after.toList.all λe=> !Region.binds .any e||decide (e.on<i)).getD true)=true)
  (g0:γ) (hW:c.mem g0 (Array.replicate c.n false) W)
  (hQ:∀(a':Act) (g:γ) (l:Array Bool) (W':World),a'.tmps.size=c.a0.tmps.size->a'.defers=c.a0.defers->(∀s:Nat,(∀k,k<c.n->c.slot k≠some s)->a'.eval (.tmp s)=c.a0.eval (.tmp s))->
   (∀k s,k<c.n->c.slot k=some s->a'.eval (.tmp s)=c.val g k)->(∀k,k<c.n->l.getD k false=true)->c.mem g l W'->Q .normal a' W'):
  wpAny c.P .any c.ops Q c.n (Array.replicate c.n false) c.a0 W:=by
 have z:∀k,(Array.replicate c.n false).getD k false=false:=λk=>by
  by_cases hk:k<c.n<;>simp [Array.getD,hk]
 have no:∀{b:Bool} {q:Prop},b=false->b=true->q:=λh1 h2=>by rw [h1] at h2;cases h2
 refine wpAny_inv c.Inv ?_ (λd a w i h hi=>step ok h hi) c.n _ _ _ (by unfold Undone;simp) ⟨by simp,rfl,rfl,λ_ _=>rfl,λk j _ hl=>no (z k) hl,g0,λk s _ _ hl=>no (z k) hl,hW⟩
 intro d a w h hr
 have all:=all_done hr (by rw [h.size,ok.size]) (by
  intro i hi o ho e he hb
  have h1:=List.all_eq_true.1 hord i (List.mem_range.2 (ok.size▸hi))
  rw [ho] at h1
  simp only [Option.map_some,Option.getD_some] at h1
  have h2:=List.all_eq_true.1 h1 e he
  simpa [hb] using h2)
 rw [ok.size] at all
 obtain ⟨g,hv,hm⟩:=h.ghost
 exact hQ a g d w h.len h.defers h.other (λk s hk hs=>hv k s hk hs (all k hk)) all hm
theorem StepOk.of {k:Nat} {g:γ} {x:Op×Option Nat} (hx:(c.ops[k]?).map (λo=>(o.op,o.dst))=some x) (H:∀l a W,c.Facts k g l a W->∀o:Oper,o.op=x.1->o.dst=x.2->∀K:Act->World->Prop,(∀g' W',(∀j,j<c.n->j≠k->l.getD j false=true->c.val g' j=c.val g j)->c.mem g' (l.setIfInBounds k true) W'->K (a.put (c.slot k) (c.val g' k)) W')->o.wp c.P a W K Q):c.StepOk Q k g:=
 λl a W F o ho K hK=>H l a W F o (by rw [ho] at hx;simp only [Option.map_some,Option.some.injEq] at hx;rw [←hx]) (by rw [ho] at hx;simp only [Option.map_some,Option.some.injEq] at hx;rw [←hx]) K hK
theorem StepOk.ofo {k:Nat} {g:γ} (s:Nat) {v:Value} (h:c.a0.eval (.tmp s)=v) {x:Op×Option Nat} (hx:(c.ops[k]?).map (λo=>(o.op,o.dst))=some x:=by kernel_rfl) (hc:((List.range c.n).all λi=>c.slot i !=some s)=true:=by rfl)
  (H:∀l a W,c.Facts k g l a W->∀o:Oper,o.op=x.1->o.dst=x.2->∀K:Act->World->Prop,(∀g' W',(∀j,j<c.n->j≠k->l.getD j false=true->c.val g' j=c.val g j)->c.mem g' (l.setIfInBounds k true) W'->K (a.put (c.slot k) (c.val g' k)) W')->a.eval (.tmp s)=v->o.wp c.P a W K Q):c.StepOk Q k g:=
 .of hx λl a W F o h1 h2 K hK=>H l a W F o h1 h2 K hK ((F.other s (λi hi=>by simpa using List.all_eq_true.1 hc i (List.mem_range.2 hi))).trans h)
theorem StepOk.of1 {k:Nat} {g:γ} (j s:Nat) {x:Op×Option Nat} (hx:(c.ops[k]?).map (λo=>(o.op,o.dst))=some x:=by kernel_rfl) (h:(c.needs k).contains j=true:=by rfl) (hs:c.slot j=some s:=by rfl)
  (H:∀l a W,c.Facts k g l a W->∀o:Oper,o.op=x.1->o.dst=x.2->∀K:Act->World->Prop,(∀g' W',(∀j,j<c.n->j≠k->l.getD j false=true->c.val g' j=c.val g j)->c.mem g' (l.setIfInBounds k true) W'->K (a.put (c.slot k) (c.val g' k)) W')->a.eval (.tmp s)=c.val g j->o.wp c.P a W K Q):c.StepOk Q k g:=
 .of hx λl a W F o h1 h2 K hK=>H l a W F o h1 h2 K hK (F.vals j s (by simpa using h) hs)
theorem StepOk.of2 {k:Nat} {g:γ} (j s i t:Nat) {x:Op×Option Nat} (hx:(c.ops[k]?).map (λo=>(o.op,o.dst))=some x:=by kernel_rfl) (h:((c.needs k).contains j && (c.needs k).contains i)=true:=by rfl) (hs:c.slot j=some s:=by rfl) (ht:c.slot i=some t:=by rfl)
  (H:∀l a W,c.Facts k g l a W->∀o:Oper,o.op=x.1->o.dst=x.2->∀K:Act->World->Prop,(∀g' W',(∀j,j<c.n->j≠k->l.getD j false=true->c.val g' j=c.val g j)->c.mem g' (l.setIfInBounds k true) W'->K (a.put (c.slot k) (c.val g' k)) W')->a.eval (.tmp s)=c.val g j/\a.eval (.tmp t)=c.val g i->o.wp c.P a W K Q):c.StepOk Q k g:=by
 have h9:=by simpa only [Bool.and_eq_true] using h
 exact .of hx λl a W F o h1 h2 K hK=>H l a W F o h1 h2 K hK ⟨F.vals j s (by simpa using h9.1) hs,F.vals i t (by simpa using h9.2) ht⟩
theorem ok_of {N:Nat} (hs:c.ops.size=c.n) (hg:((List.range c.n).all λk=>(c.ops[k]?).map (·.guard)==some (c.gd k))=true) (hds:((List.range c.n).all λk=>(c.ops[k]?).map (·.dst)==some (c.slot k))=true)
  (hn:((List.range c.n).all λk=>match c.gd k with|some (j,_)=>(c.needs k).contains j && decide (j<c.n) && (c.slot j).isSome|none=>true)=true) (hw:((List.range c.n).all λk=>(c.needs k).all λj=>waits .any c.ops k j)=true)
  (hi:((List.range c.n).all λj=>(List.range c.n).all λk=>match c.slot j,c.slot k with|some s,some t=>s !=t||j==k|_,_=>true)=true) (hz:c.a0.tmps.size=N)
  (hr:((List.range c.n).all λj=>match c.slot j with|some s=>decide (s<N)|none=>true)=true)
  (gbool:∀k j b g,k<c.n->c.gd k=some (j,b)->∃x:Bool,c.val g j=.bool x)
  (skip:∀k j b g l a W,k<c.n->c.gd k=some (j,b)->c.val g j=.bool (!b)->c.Facts k g l a W->c.val g k=undef/\c.mem g (l.setIfInBounds k true) W)
  (hst:∀k,k<c.n->∀g,(∀j b,c.gd k=some (j,b)->c.val g j=.bool b)->c.StepOk Q k g):c.Ok Q where
 size:=hs
 guards:=λk hk o ho=>by
  have h2:=eq_of_beq (List.all_eq_true.1 hg k (List.mem_range.2 hk))
  rw [ho] at h2
  simpa using h2
 dsts:=λk hk o ho=>by
  have h2:=eq_of_beq (List.all_eq_true.1 hds k (List.mem_range.2 hk))
  rw [ho] at h2
  simpa using h2
 gneed:=λk j b hk hg'=>by
  have h2:=List.all_eq_true.1 hn k (List.mem_range.2 hk)
  rw [hg'] at h2
  simp only [Bool.and_eq_true,decide_eq_true_eq,List.contains_iff_mem] at h2
  exact ⟨h2.1.1,h2.1.2,Option.isSome_iff_exists.1 h2.2⟩
 gbool:=gbool
 skip:=skip
 waits:=λk hk j hj=>List.all_eq_true.1 (List.all_eq_true.1 hw k (List.mem_range.2 hk)) j hj
 step:=hst
 inj:=λj k s hj hk h1 h2=>by
  have:=List.all_eq_true.1 (List.all_eq_true.1 hi j (List.mem_range.2 hj)) k (List.mem_range.2 hk)
  rw [h1,h2] at this
  simpa using this
 room:=λk s hk h1=>by
  have:=List.all_eq_true.1 hr k (List.mem_range.2 hk)
  rw [h1] at this
  rw [hz]
  simpa using this
theorem region2 (ok:c.Ok Q) (hord:((List.range c.n).all λi=>((c.ops[i]?).map λo=>o.after.toList.all λe=> !Region.binds .any e||decide (e.on<i)).getD true)=true) (hd:c.a0.defers=[]) (g0:γ) (hW:c.mem g0 (Array.replicate c.n false) W)
  (L:γ->List (Nat×Value)) (hL:∀g,L g=(List.range c.n).filterMap λk=>(c.slot k).map λs=>(s,c.val g k))
  (hQ:∀(g:γ) (l:Array Bool) (W':World),(∀k,k<c.n->l.getD k false=true)->c.mem g l W'->Q .normal ⟨DG.setQ c.a0.tmps (L g),[]⟩ W'):wpAny c.P .any c.ops Q c.n (Array.replicate c.n false) c.a0 W:=by
 refine region ok hord g0 hW ?_
 intro a' g l W' h1 h2 h3 hv hl hm'
 obtain ⟨tm,df⟩:=a'
 obtain rfl:df=[]:=h2.trans hd
 have ht:=DG.frame_slots (n:=c.n) (slot:=c.slot) (V:=c.val g) (tm:=tm) (A:=c.a0.tmps) h1 (λs hs=>h3 s hs) (λk s hk e=>hv k s hk e)
 rw [ht,←hL]
 exact hQ g l W' hl hm'
end DH
end Go.Proofs.YtemkbjaojinaoaaGreat
