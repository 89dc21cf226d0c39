/- Several small texts in one. No condition of its own: each part says its own. -/
import Derived.Test.YtemkbjaojinaoaaGreatShort
import Derived.Test.YtemkbjaojinaoaaGreatBagP
import Derived.Lib.Slices
import Derived.Maps.OwnSet
import Derived.Test.YtemkbjaojinaoaaGreatMem
import Derived.Deep.Slices
import Derived.Test.YtemkbjaojinaoaaGreatBase
import Derived.Maps.OwnOps
import Derived.Laws.CopyRow
import Derived.Laws.IdiomCopy
import Derived.Laws.CopyOwn
import Derived.Lib.SliceRun
import Derived.Lib.JoinLaws
import Derived.Lib.AppendZeros
import Derived.Lib.Overlaps
import Derived.Laws.Externs
import Derived.Shelf.Spec.SlicesInsert
import Derived.RegionTactic
import Derived.NoCompiler
set_option linter.unusedVariables false
set_option linter.unusedSimpArgs false
set_option maxRecDepth 100000
namespace Go.Proofs.YtemkbjaojinaoaaGreat.M
open Go.RowKit
theorem idxFrom_eq (x:Int) (zs:List Int) (i:Nat):Lib.idxFrom zs x i=if x∈zs then ((i+zs.idxOf x:Nat):Int) else -1:=by
 induction zs generalizing i with
 |nil=>simp [Lib.idxFrom]
 |cons z zs ih=>
  unfold Lib.idxFrom
  by_cases h:z=x
  ·subst h;simp
  ·rw [if_neg h,ih]
   have h':x≠z:=λe=>h e.symm
   by_cases hm:x∈zs
   ·have hb:(z==x)=false:=by simpa using h
    rw [if_pos hm,if_pos (List.mem_cons_of_mem _ hm),List.idxOf_cons,hb]
    simp only [cond_false]
    congr 1;omega
   ·rw [if_neg hm,if_neg (by simp [h',hm])]
theorem idxOf_eq (x:Int) (zs:List Int):Lib.idxOf zs x=if x∈zs then ((zs.idxOf x:Nat):Int) else -1:=by
 unfold Lib.idxOf
 rw [idxFrom_eq]
 simp
def found (s:Store) (id:Int):Int×Int×Bool:=
 match find s id with
 |none=>(0,0,false)
 |some (i,k)=>((i:Int),(k:Int),true)
theorem find_skip {s:Store} {id:Int} {n:Nat} (h:∀j t,j<n->s.tables[j]?=some t->id∉t.ids) {t:Table} (ht:s.tables[n]?=some t) (hm:id∈t.ids):
  find s id=some (n,t.ids.idxOf id):=by
 obtain ⟨l,nx⟩:=s
 unfold find
 simp only at *
 induction l generalizing n with
 |nil=>simp at ht
 |cons a l ih=>
  match n with
  |0=>
   simp only [List.getElem?_cons_zero,Option.some.injEq] at ht
   subst ht
   unfold findT
   rw [if_pos hm]
  |n+1=>
   have ha:id∉a.ids:=h 0 a bO sS
   unfold findT
   rw [if_neg ha,ih (n:=n) (λj t hj ht=>h (j+1) t bO (by simpa using ht)) (by simpa using ht)]
   rfl
theorem find_miss {s:Store} {id:Int} (h:∀j t,j<s.tables.length->s.tables[j]?=some t->id∉t.ids):find s id=none:=by
 unfold find
 rw [findT_none]
 intro hm
 unfold idsT at hm
 obtain ⟨t,ht,hm⟩:=List.mem_flatMap.1 hm
 obtain ⟨j,hj,rfl⟩:=List.getElem_of_mem ht
 exact h j _ hj (List.getElem?_eq_getElem hj) hm
def sizeW (l:List Table):Int:=l.foldl (λn t=>wrap64 (n+(t.ids.length:Int))) 0
theorem sizeW_step {l:List Table} {n:Nat} {t:Table} (h:l[n]?=some t):sizeW (l.take (n+1))=wrap64 (sizeW (l.take n)+(t.ids.length:Int)):=by
 unfold sizeW
 rw [List.take_add_one,h]
 simp
theorem sizeW_eq (l:List Table) (h:(idsT l).length<=4611686018427387904):sizeW l=((idsT l).length:Int):=by
 have key:∀(l:List Table) (n:Nat),n+(idsT l).length<=4611686018427387904->l.foldl (λn t=>wrap64 (n+(t.ids.length:Int))) (n:Int)=((n+(idsT l).length:Nat):Int):=by
  intro l
  induction l with
  |nil=>intro n _;simp [idsT]
  |cons t l ih=>
   intro n hn
   have e:(idsT (t::l)).length=t.ids.length+(idsT l).length:=by simp [idsT]
   rw [e] at hn⊢
   rw [List.foldl_cons,IntWalk.wrap64_in _ bO]
   have:=ih (n+t.ids.length) bO
   rw [show ((n:Int)+(t.ids.length:Int))=((n+t.ids.length:Nat):Int) by omega,this]
   congr 1
   omega
 have:=key l 0 bO
 unfold sizeW
 simpa using this
def Upto (s:Store) (n:Nat):Prop:=
 (∀t∈s.tables.take n,TableOk s.next t)/\(s.tables.take n).Pairwise (λa b=>a.mask<b.mask)/\(idsT (s.tables.take n)).Nodup
def Inner (s:Store) (n k:Nat) (t:Table):Prop:=
 (∀i∈t.ids.take k,0<=i/\i<s.next)/\(∀r∈t.rows.take k,goodRow t.mask r=true)/\(idsT (s.tables.take n)++t.ids.take k).Nodup
theorem upto_zero (s:Store):Upto s 0:=by simp [Upto,idsT]
theorem inner_zero {s:Store} {n:Nat} (h:Upto s n) (t:Table):Inner s n 0 t:=by simp [Inner,h.2.2]
theorem take_snoc {α:Type} {l:List α} {n:Nat} {t:α} (h:l[n]?=some t):l.take (n+1)=l.take n++[t]:=by rw [List.take_add_one,h];rfl
theorem idsT_append (a b:List Table):idsT (a++b)=idsT a++idsT b:=by simp [idsT]
theorem idsT_one (t:Table):idsT [t]=t.ids:=by simp [idsT]
theorem inner_step {s:Store} {n k:Nat} {t:Table} {id:Int} {r:Row} (h:Inner s n k t) (hi:t.ids[k]?=some id) (hr:t.rows[k]?=some r) (h0:0<=id) (h1:id<s.next)
  (hn:id∉idsT (s.tables.take n)++t.ids.take k) (hg:goodRow t.mask r=true):Inner s n (k+1) t:=by
 obtain ⟨a,b,c⟩:=h
 unfold Inner
 rw [take_snoc hi,take_snoc hr]
 refine ⟨?_,?_,?_⟩
 ·intro i hm
  rcases List.mem_append.1 hm with hm|hm
  ·exact a i hm
  ·simp only [List.mem_singleton] at hm;subst hm;exact ⟨h0,h1⟩
 ·intro q hm
  rcases List.mem_append.1 hm with hm|hm
  ·exact b q hm
  ·simp only [List.mem_singleton] at hm;subst hm;exact hg
 ·rw [←List.append_assoc,List.nodup_append]
  refine ⟨c,by simp,?_⟩
  intro x hx y hy e
  simp only [List.mem_singleton] at hy
  subst hy;subst e
  exact hn hx
theorem upto_step {s:Store} {n:Nat} {t:Table} (h:Upto s n) (ht:s.tables[n]?=some t) (h0:t.ids.length≠0) (hl:t.ids.length=t.rows.length)
  (hm:∀p,0<n->s.tables[n-1]?=some p->p.mask<t.mask) (hi:Inner s n t.ids.length t):Upto s (n+1):=by
 obtain ⟨a,b,c⟩:=h
 obtain ⟨i1,i2,i3⟩:=hi
 rw [List.take_length] at i1 i3
 rw [hl,List.take_length] at i2
 unfold Upto
 rw [take_snoc ht]
 refine ⟨?_,?_,?_⟩
 ·intro x hx
  rcases List.mem_append.1 hx with hx|hx
  ·exact a x hx
  ·simp only [List.mem_singleton] at hx
   subst hx
   exact ⟨λe=>h0 (by rw [e];rfl),hl,i1,i2⟩
 ·rw [List.pairwise_append]
  refine ⟨b,by simp,?_⟩
  intro x hx y hy
  simp only [List.mem_singleton] at hy
  subst hy
  have hlt:=(List.getElem?_eq_some_iff.1 ht).1
  obtain ⟨j,hj,rfl⟩:=List.getElem_of_mem hx
  simp only [List.length_take] at hj
  have hpos:0<n:=by omega
  obtain ⟨p,hp⟩:∃p,s.tables[n-1]?=some p:=⟨_,List.getElem?_eq_getElem bO⟩
  have h1:=hm p hpos hp
  rw [List.pairwise_iff_getElem] at b
  rw [List.getElem_take]
  have hp':=(List.getElem?_eq_some_iff.1 hp).2
  rcases Nat.lt_or_ge j (n-1) with hj2|hj2
  ·have:=b j (n-1) sO sO hj2
   rw [List.getElem_take,List.getElem_take,hp'] at this
   omega
  ·have e:j=n-1:=by omega
   subst e
   rw [hp'];exact h1
 ·rw [idsT_append,idsT_one];exact i3
theorem not_good {s:Store} (h:¬GoodS s):good s=false:=by simp [good,h]
theorem bad_len {s:Store} {n:Nat} {t:Table} (ht:s.tables[n]?=some t) (h:t.ids.length=0\/t.ids.length≠t.rows.length):good s=false:=by
 refine not_good λg=>?_
 obtain ⟨a,b,_⟩:=g.1 t (List.mem_of_getElem? ht)
 rcases h with h|h
 ·exact a (List.length_eq_zero_iff.1 h)
 ·exact h b
theorem bad_mask {s:Store} {n:Nat} {t p:Table} (ht:s.tables[n]?=some t) (hn:0<n) (hp:s.tables[n-1]?=some p) (h:t.mask<=p.mask):good s=false:=by
 refine not_good λg=>?_
 have:=g.2.1
 rw [List.pairwise_iff_getElem] at this
 obtain ⟨h1,h2⟩:=List.getElem?_eq_some_iff.1 ht
 obtain ⟨h3,h4⟩:=List.getElem?_eq_some_iff.1 hp
 have:=this (n-1) n h3 h1 bO
 rw [h2,h4] at this
 omega
theorem bad_id {s:Store} {n k:Nat} {t:Table} {id:Int} (ht:s.tables[n]?=some t) (hi:t.ids[k]?=some id) (h:id<0\/s.next<=id):good s=false:=by
 refine not_good λg=>?_
 obtain ⟨_,_,a,_⟩:=g.1 t (List.mem_of_getElem? ht)
 have:=a id (List.mem_of_getElem? hi)
 omega
theorem bad_row {s:Store} {n k:Nat} {t:Table} {r:Row} (ht:s.tables[n]?=some t) (hr:t.rows[k]?=some r) (h:goodRow t.mask r=false):good s=false:=by
 refine not_good λg=>?_
 obtain ⟨_,_,_,a⟩:=g.1 t (List.mem_of_getElem? ht)
 have:=a r (List.mem_of_getElem? hr)
 rw [h] at this;simp at this
theorem bad_twice {s:Store} {n k:Nat} {t:Table} {id:Int} (ht:s.tables[n]?=some t) (hi:t.ids[k]?=some id) (h:id∈idsT (s.tables.take n)++t.ids.take k):good s=false:=by
 refine not_good λg=>?_
 have hn:=g.2.2.1
 have e:s.tables=s.tables.take n++(t::s.tables.drop (n+1)):=split_at ht
 have e2:t.ids=t.ids.take k++(id::t.ids.drop (k+1)):=split_at hi
 rw [e,idsT_append] at hn
 have e3:idsT (t::s.tables.drop (n+1))=t.ids++idsT (s.tables.drop (n+1)):=by simp [idsT]
 rw [e3,e2] at hn
 have:(idsT (s.tables.take n)++t.ids.take k++(id::(t.ids.drop (k+1)++idsT (s.tables.drop (n+1))))).Nodup:=by
  simpa [List.append_assoc] using hn
 rw [List.nodup_append] at this
 exact this.2.2 id h id sS rfl
def Pass (s:Store) (n:Nat) (t:Table):Prop:=t.ids.length≠0/\t.ids.length=t.rows.length/\∀p,0<n->s.tables[n-1]?=some p->p.mask<t.mask
def Tested (s:Store) (n:Nat) (t:Table) (bad:Bool):Prop:=if bad then good s=false else Pass s n t
def Tested1 (s:Store) (n k:Nat) (t:Table) (id:Int) (r:Row) (bad:Bool):Prop:=
 if bad then good s=false else ((0<=id/\id<s.next)/\id∉idsT (s.tables.take n)++t.ids.take k/\goodRow t.mask r=true)
theorem nodup_bound (l:List Int) (N:Nat) (hn:l.Nodup) (h:∀i∈l,0<=i/\i<(N:Int)):l.length<=N:=by
 induction N generalizing l with
 |zero=>
  cases l with
  |nil=>simp
  |cons a l=>have:=h a sS;omega
 |succ N ih=>
  have h1:=ih (l.erase (N:Int)) (hn.erase _) (λi hi=>by
   have:=(hn.mem_erase_iff).1 hi
   have:=h i this.2
   have hne:i≠(N:Int):=by rename_i t;exact t.1
   omega)
  have:=List.length_erase_le (a:=(N:Int)) (l:=l)
  have:l.length<=(l.erase (N:Int)).length+1:=by
   by_cases hm:(N:Int)∈l
   ·rw [List.length_erase_of_mem hm];omega
   ·rw [List.erase_of_not_mem hm];omega
  omega
theorem upto_ids {s:Store} {n:Nat} (h:Upto s n):∀i∈idsT (s.tables.take n),0<=i/\i<s.next:=by
 intro i hi
 unfold idsT at hi
 obtain ⟨t,ht,hm⟩:=List.mem_flatMap.1 hi
 exact (h.1 t ht).2.2.1 i hm
theorem upto_count {s:Store} {n:Nat} (h:Upto s n):((idsT (s.tables.take n)).length:Int)<=max 0 s.next:=by
 have:=nodup_bound _ s.next.toNat h.2.2 (λi hi=>by have:=upto_ids h i hi;omega)
 omega
theorem inner_count {s:Store} {n k:Nat} {t:Table} {id:Int} (h:Upto s n) (hi:Inner s n k t) (h0:0<=id) (h1:id<s.next) (hn:id∉idsT (s.tables.take n)++t.ids.take k):
  ((idsT (s.tables.take n)++t.ids.take k).length:Int)<s.next:=by
 have:=nodup_bound (id::(idsT (s.tables.take n)++t.ids.take k)) s.next.toNat (List.nodup_cons.2 ⟨hn,hi.2.2⟩) (λi hm=>by
  rcases List.mem_cons.1 hm with rfl|hm
  ·omega
  ·rcases List.mem_append.1 hm with hm|hm
   ·have:=upto_ids h i hm;omega
   ·have:=hi.1 i hm;omega)
 simp only [List.length_cons] at this
 omega
theorem good_end {s:Store} (h:Upto s s.tables.length):good s=(decide (sizeW s.tables<=10) && (decide (0<=s.next) && decide (s.next<=1048576))):=by
 have hc:=upto_count h
 obtain ⟨a,b,c⟩:=h
 rw [List.take_length] at a b c hc
 by_cases hx:s.next<=1048576
 ·have e:=sizeW_eq s.tables bO
  unfold good
  rw [e,Bool.eq_iff_iff]
  simp only [decide_eq_true_eq,Bool.and_eq_true]
  constructor
  ·rintro ⟨_,_,_,d,e,f⟩;omega
  ·rintro ⟨d,e,f⟩;exact ⟨a,b,c,by omega,e,f⟩
 ·rw [not_good (λg=>hx g.2.2.2.2.2),decide_eq_false hx]
  simp
theorem tested1_row {s:Store} {n k:Nat} {t:Table} {id:Int} {r:Row} {g:Bool} (hg:g=goodRow t.mask r) (ht:s.tables[n]?=some t) (hr:t.rows[k]?=some r) (h0:¬id<0) (h1:¬s.next<=id)
  (hn:id∉idsT (s.tables.take n)++t.ids.take k):Tested1 s n k t id r (!g):=by
 cases g
 ·exact bad_row ht hr hg.symm
 ·exact ⟨⟨by omega,by omega⟩,hn,hg.symm⟩
def keysOf (l:List Int):List Lit:=l.map (Lit.int .i64)
theorem keysOf_key (l:List Int):∀x∈keysOf l,WideAt.IsKeyLit x:=by
 intro x hx
 obtain ⟨z,_,rfl⟩:=List.mem_map.1 hx
 trivial
open Go.Maps in
theorem atKey_setOf {H:Type} (u d:DataW H) (l:List Int) (z:Int):(setOf u (keysOf l)).atKey (.int .i64 z) d=if z∈l then u else d:=by
 have key:∀(r:List Int),(setOf u (keysOf r.reverse)).atKey (.int .i64 z) d=if z∈r.reverse then u else d:=by
  intro r
  induction r with
  |nil=>simp [setOf,DataW.atKey,keysOf]
  |cons x r ih=>
   have e1:keysOf (r.reverse++[x])=keysOf r.reverse++[Lit.int .i64 x]:=by simp [keysOf]
   rw [List.reverse_cons,e1,setOf_snoc]
   have hm:IsMap (setOf u (keysOf r.reverse)):=(tidy_setOf u _ (keysOf_key _)).isMap
   by_cases e:z=x
   ·subst e
    rw [atKey_put_same hm (keysOf_key [z] _ (by simp [keysOf])),if_pos sS]
   ·rw [atKey_put_other (by simpa using e),ih]
    have:(z∈r.reverse++[x])↔z∈r.reverse:=by simp [e]
    simp only [this]
 have:=key l.reverse
 simpa using this
end Go.Proofs.YtemkbjaojinaoaaGreat.M
namespace Go.Proofs.YtemkbjaojinaoaaGreat
open Go.RowKit
def Lies (w:World) (lo:Nat) (v:Value) (n k:Nat) (xs:List Value):Prop:=
 xs.length=n*k/\n<=maxLen/\∃a cap,v=.slice a n cap/\(xs≠[]->∃b o,a=some ⟨b,o,none⟩/\lo<=b/\∀j u,xs[j]?=some u->w.cell? ⟨b,o+j,none⟩=some u)
theorem cell_lt {w:World} {b o:Nat} {v:Value} (h:w.cell? ⟨b,o,none⟩=some v):b<w.heap.size:=by
 unfold World.cell? at h
 by_cases hb:b<w.heap.size
 ·exact hb
 ·have:w.heap[b]?=none:=Array.getElem?_eq_none bO
  simp [this] at h
theorem below_cell {w w':World} {b o:Nat} {v:Value} (h:w.cell? ⟨b,o,none⟩=some v) (hb:Below w.heap.size w w'):w'.cell? ⟨b,o,none⟩=some v:=
 (hb.cell (p:=⟨b,o,none⟩) (cell_lt h)).trans h
theorem Lies.below {w w':World} {lo:Nat} {v:Value} {n k:Nat} {xs:List Value} (h:Lies w lo v n k xs) (hb:Below w.heap.size w w'):Lies w' lo v n k xs:=by
 obtain ⟨h1,hm,a,cap,h2,h3⟩:=h
 refine ⟨h1,hm,a,cap,h2,λhne=>?_⟩
 obtain ⟨b,o,e,hl,hc⟩:=h3 hne
 exact ⟨b,o,e,hl,λj u hj=>below_cell (hc j u hj) hb⟩
theorem Lies.mono {w:World} {lo lo':Nat} {v:Value} {n k:Nat} {xs:List Value} (h:Lies w lo v n k xs) (hl:lo'<=lo):Lies w lo' v n k xs:=by
 obtain ⟨h1,hm,a,cap,h2,h3⟩:=h
 refine ⟨h1,hm,a,cap,h2,λhne=>?_⟩
 obtain ⟨b,o,e,hl2,hc⟩:=h3 hne
 exact ⟨b,o,e,Nat.le_trans hl hl2,hc⟩
theorem Lies.drew {w:World} {lo:Nat} {v:Value} {n k:Nat} {xs:List Value} (h:Lies w lo v n k xs):Lies w.drew lo v n k xs:=h
theorem Lies.of_owns {w:World} {base:Nat} {e:TypeId} {n k:Nat} {v:Value} {xs:List Value} (h:w.ownsRow base e k v n xs):Lies w base v n k xs:=by
 have hl:=h.1
 rcases h.2 with ⟨rfl,rfl⟩|⟨g,cap,cur,rfl,hg,hb,hn,hm,hs,ht⟩
 ·exact ⟨hl,Nat.zero_le _,none,0,rfl,λhne=>absurd (List.length_eq_zero_iff.1 (by simpa using hl)) hne⟩
 ·refine ⟨hl,Nat.le_trans hn hm,_,cap,rfl,λhne=>⟨g,0,rfl,hg,λj u hj=>?_⟩⟩
  have:=h.cells (g:=g) rfl j u hj
  rw [Nat.zero_add]
  rw [show (Addr.add ⟨g,0,none⟩ j:Addr)=⟨g,j,none⟩ by simp [Addr.add];intro e;rw [e]] at this
  exact this
theorem Lies.len {w:World} {lo:Nat} {v:Value} {n k:Nat} {xs:List Value} (h:Lies w lo v n k xs):xs.length=n*k:=h.1
def IntsAt (w:World) (lo:Nat) (v:Value) (zs:List Int):Prop:=Lies w lo v zs.length 1 (zs.map (Value.int .i64))
def rowL (r:M.Row):List Value:=[.int .i64 r.X,.int .i64 r.Y,.int .i64 r.PX,.int .i64 r.PY,.int .i64 r.W,.int .i64 r.H,.int .i64 r.M,.int .i64 r.R]
def RowsAt (w:World) (lo:Nat) (v:Value) (rs:List M.Row):Prop:=Lies w lo v rs.length 8 (rs.flatMap rowL)
def tabL (ts:List M.Table) (hs:List (Value×Value)):List Value:=(ts.zip hs).flatMap λp=>[.int .i64 p.1.mask,p.2.1,p.2.2]
def TabAt (w:World) (lo:Nat) (t:M.Table) (h:Value×Value):Prop:=IntsAt w lo h.1 t.ids/\RowsAt w lo h.2 t.rows
def TabsAtH (w:World) (lo:Nat) (v:Value) (ts:List M.Table) (hs:List (Value×Value)):Prop:=
 hs.length=ts.length/\Lies w lo v ts.length 3 (tabL ts hs)/\∀(i:Nat) (t:M.Table) (h:Value×Value),ts[i]?=some t->hs[i]?=some h->TabAt w lo t h
def TabsAt (w:World) (lo:Nat) (v:Value) (ts:List M.Table):Prop:=∃hs,TabsAtH w lo v ts hs
def Sized (s:M.Store):Prop:=s.tables.length*56<=140737488351232/\∀t∈s.tables,t.ids.length*8<=140737488351232/\t.rows.length*64<=140737488351232
def StoreAt (w:World) (lo:Nat) (v:Value) (s:M.Store):Prop:=∃vt,v=.agg #[vt,.int .i64 s.next]/\TabsAt w lo vt s.tables
section
variable {w w':World} {lo:Nat} {v:Value}
theorem IntsAt.below {zs:List Int} (h:IntsAt w lo v zs) (hb:Below w.heap.size w w'):IntsAt w' lo v zs:=Lies.below h hb
theorem RowsAt.below {rs:List M.Row} (h:RowsAt w lo v rs) (hb:Below w.heap.size w w'):RowsAt w' lo v rs:=Lies.below h hb
theorem TabAt.below {t:M.Table} {p:Value×Value} (h:TabAt w lo t p) (hb:Below w.heap.size w w'):TabAt w' lo t p:=⟨h.1.below hb,h.2.below hb⟩
theorem TabsAtH.below {ts:List M.Table} {hs:List (Value×Value)} (h:TabsAtH w lo v ts hs) (hb:Below w.heap.size w w'):TabsAtH w' lo v ts hs:=
 ⟨h.1,h.2.1.below hb,λi t p h1 h2=>(h.2.2 i t p h1 h2).below hb⟩
theorem TabsAt.below {ts:List M.Table} (h:TabsAt w lo v ts) (hb:Below w.heap.size w w'):TabsAt w' lo v ts:=by
 obtain ⟨hs,h⟩:=h
 exact ⟨hs,h.below hb⟩
theorem StoreAt.below {s:M.Store} (h:StoreAt w lo v s) (hb:Below w.heap.size w w'):StoreAt w' lo v s:=by
 obtain ⟨vt,e,h⟩:=h
 exact ⟨vt,e,h.below hb⟩
theorem IntsAt.mono {zs:List Int} {lo':Nat} (h:IntsAt w lo v zs) (hl:lo'<=lo):IntsAt w lo' v zs:=Lies.mono h hl
theorem RowsAt.mono {rs:List M.Row} {lo':Nat} (h:RowsAt w lo v rs) (hl:lo'<=lo):RowsAt w lo' v rs:=Lies.mono h hl
theorem StoreAt.mono {s:M.Store} {lo':Nat} (h:StoreAt w lo v s) (hl:lo'<=lo):StoreAt w lo' v s:=by
 obtain ⟨vt,e,hs,h1,h2,h3⟩:=h
 exact ⟨vt,e,hs,h1,h2.mono hl,λi t p a b=>⟨(h3 i t p a b).1.mono hl,(h3 i t p a b).2.mono hl⟩⟩
end
theorem tabL_cons (t:M.Table) (ts:List M.Table) (h:Value×Value) (hs:List (Value×Value)):tabL (t::ts) (h::hs)=.int .i64 t.mask::h.1::h.2::tabL ts hs:=by simp [tabL]
theorem tabL_length (ts:List M.Table) (hs:List (Value×Value)) (h:hs.length=ts.length):(tabL ts hs).length=ts.length*3:=by
 induction ts generalizing hs with
 |nil=>simp [tabL]
 |cons t ts ih=>
  match hs,h with
  |p::hs,h=>
   rw [tabL_cons]
   simp only [List.length_cons] at h⊢
   rw [ih hs bO]
   omega
theorem tabL_at (ts:List M.Table) (hs:List (Value×Value)) (i:Nat) {t:M.Table} {p:Value×Value} (h1:ts[i]?=some t) (h2:hs[i]?=some p):
  (tabL ts hs)[i*3]?=some (.int .i64 t.mask)/\(tabL ts hs)[i*3+1]?=some p.1/\(tabL ts hs)[i*3+2]?=some p.2:=by
 induction ts generalizing hs i with
 |nil=>simp at h1
 |cons t' ts ih=>
  match hs,i with
  |[],i=>simp at h2
  |p'::hs,0=>
   simp only [List.getElem?_cons_zero,Option.some.injEq] at h1 h2
   subst h1;subst h2
   rw [tabL_cons]
   simp
  |p'::hs,i+1=>
   simp only [List.getElem?_cons_succ] at h1 h2
   obtain ⟨a,b,c⟩:=ih hs i h1 h2
   rw [tabL_cons]
   have e0:(i+1)*3=i*3+3:=by omega
   rw [e0]
   exact ⟨a,b,c⟩
theorem rowsL_length (rs:List M.Row):(rs.flatMap rowL).length=rs.length*8:=by
 induction rs with
 |nil=>rfl
 |cons r rs ih=>rw [List.flatMap_cons,List.length_append,ih];simp [rowL];omega
theorem rowsL_at (rs:List M.Row) (i j:Nat) {r:M.Row} (h:rs[i]?=some r) (hj:j<8):(rs.flatMap rowL)[i*8+j]?=(rowL r)[j]?:=by
 induction rs generalizing i with
 |nil=>simp at h
 |cons a rs ih=>
  have h8:(rowL a).length=8:=rfl
  rw [List.flatMap_cons]
  match i with
  |0=>
   simp only [List.getElem?_cons_zero,Option.some.injEq] at h
   subst h
   rw [List.getElem?_append_left bO]
   simp
  |i+1=>
   simp only [List.getElem?_cons_succ] at h
   rw [List.getElem?_append_right bO,h8,←ih i h]
   congr 1
   omega
theorem TabsAtH.at {w:World} {lo:Nat} {v:Value} {ts:List M.Table} {hs:List (Value×Value)} (h:TabsAtH w lo v ts hs) {i:Nat} {t:M.Table} (hi:ts[i]?=some t):
  ∃b o cap p,v=.slice (some ⟨b,o,none⟩) ts.length cap/\lo<=b/\hs[i]?=some p/\w.cell? ⟨b,o+i*3,none⟩=some (.int .i64 t.mask)/\w.cell? ⟨b,o+i*3+1,none⟩=some p.1/\
   w.cell? ⟨b,o+i*3+2,none⟩=some p.2/\TabAt w lo t p:=by
 obtain ⟨h1,⟨h2,hm,a,cap,e,h3⟩,h4⟩:=h
 have hlt:=(List.getElem?_eq_some_iff.1 hi).1
 obtain ⟨p,hp⟩:∃p,hs[i]?=some p:=⟨_,List.getElem?_eq_getElem bO⟩
 obtain ⟨q0,q1,q2⟩:=tabL_at ts hs i hi hp
 obtain ⟨b,o,ea,hl,hc⟩:=h3 (by intro e;rw [e] at q0;simp at q0)
 subst ea
 exact ⟨b,o,cap,p,e,hl,hp,hc _ _ q0,hc _ _ q1,hc _ _ q2,h4 i t p hi hp⟩
theorem RowsAt.at {w:World} {lo:Nat} {v:Value} {rs:List M.Row} (h:RowsAt w lo v rs) {i:Nat} {r:M.Row} (hi:rs[i]?=some r):
  ∃b o cap,v=.slice (some ⟨b,o,none⟩) rs.length cap/\lo<=b/\∀j u,(rowL r)[j]?=some u->w.cell? ⟨b,o+i*8+j,none⟩=some u:=by
 obtain ⟨h2,hmx,a,cap,e,h3⟩:=h
 have q0:=rowsL_at rs i 0 hi bO
 obtain ⟨b,o,ea,hl,hc⟩:=h3 (by intro e;rw [e] at q0;simp [rowL] at q0)
 subst ea
 refine ⟨b,o,cap,e,hl,λj u hj=>?_⟩
 have hj8:j<8:=(List.getElem?_eq_some_iff.1 hj).1
 rw [Nat.add_assoc]
 exact hc _ _ (by rw [rowsL_at rs i j hi hj8];exact hj)
def RowCells (w:World) (b o i:Nat) (r:M.Row):Prop:=w.cell? ⟨b,o+i*8,none⟩=some (.int .i64 r.X)/\w.cell? ⟨b,o+i*8+1,none⟩=some (.int .i64 r.Y)/\w.cell? ⟨b,o+i*8+2,none⟩=some (.int .i64 r.PX)/\w.cell? ⟨b,o+i*8+3,none⟩=some (.int .i64 r.PY)/\w.cell? ⟨b,o+i*8+4,none⟩=some (.int .i64 r.W)/\w.cell? ⟨b,o+i*8+5,none⟩=some (.int .i64 r.H)/\w.cell? ⟨b,o+i*8+6,none⟩=some (.int .i64 r.M)/\w.cell? ⟨b,o+i*8+7,none⟩=some (.int .i64 r.R)
theorem RowsAt.at8 {w:World} {lo:Nat} {v:Value} {rs:List M.Row} (h:RowsAt w lo v rs) {i:Nat} {r:M.Row} (hi:rs[i]?=some r):
  ∃b o cap,v=.slice (some ⟨b,o,none⟩) rs.length cap/\lo<=b/\RowCells w b o i r:=by
 obtain ⟨b,o,cap,e,hl,hc⟩:=h.at hi
 exact ⟨b,o,cap,e,hl,hc 0 _ rfl,hc 1 _ rfl,hc 2 _ rfl,hc 3 _ rfl,hc 4 _ rfl,hc 5 _ rfl,hc 6 _ rfl,hc 7 _ rfl⟩
theorem RowCells.below {w w':World} {b o i:Nat} {r:M.Row} (h:RowCells w b o i r) (hb:Below w.heap.size w w'):RowCells w' b o i r:=by
 obtain ⟨h0,h1,h2,h3,h4,h5,h6,h7⟩:=h
 exact ⟨below_cell h0 hb,below_cell h1 hb,below_cell h2 hb,below_cell h3 hb,below_cell h4 hb,below_cell h5 hb,below_cell h6 hb,below_cell h7 hb⟩
theorem IntsAt.at {w:World} {lo:Nat} {v:Value} {zs:List Int} (h:IntsAt w lo v zs) {i:Nat} {z:Int} (hi:zs[i]?=some z):
  ∃b o cap,v=.slice (some ⟨b,o,none⟩) zs.length cap/\lo<=b/\w.cell? ⟨b,o+i,none⟩=some (.int .i64 z):=by
 obtain ⟨h2,hmx,a,cap,e,h3⟩:=h
 have hm:(zs.map (Value.int .i64))[i]?=some (.int .i64 z):=by simp [hi]
 obtain ⟨b,o,ea,hl,hc⟩:=h3 (by intro e;rw [e] at hm;simp at hm)
 subst ea
 exact ⟨b,o,cap,e,hl,hc _ _ hm⟩
theorem IntsAt.val {w:World} {lo:Nat} {v:Value} {zs:List Int} (h:IntsAt w lo v zs):∃a cap,v=.slice a zs.length cap:=by
 obtain ⟨h2,hmx,a,cap,e,h3⟩:=h
 exact ⟨a,cap,e⟩
theorem RowsAt.val {w:World} {lo:Nat} {v:Value} {rs:List M.Row} (h:RowsAt w lo v rs):∃a cap,v=.slice a rs.length cap:=by
 obtain ⟨h2,hmx,a,cap,e,h3⟩:=h
 exact ⟨a,cap,e⟩
theorem TabsAtH.val {w:World} {lo:Nat} {v:Value} {ts:List M.Table} {hs:List (Value×Value)} (h:TabsAtH w lo v ts hs):∃a cap,v=.slice a ts.length cap:=by
 obtain ⟨_,⟨h2,hm,a,cap,e,h3⟩,_⟩:=h
 exact ⟨a,cap,e⟩
theorem TabsAtH.at2 {w:World} {lo:Nat} {v:Value} {ts:List M.Table} {hs:List (Value×Value)} (h:TabsAtH w lo v ts hs) {i:Nat} {t:M.Table} (hi:ts[i]?=some t):
  ∃b o cap a1 cp1 a2 cp2,v=.slice (some ⟨b,o,none⟩) ts.length cap/\lo<=b/\hs[i]?=some (.slice a1 t.ids.length cp1,.slice a2 t.rows.length cp2)/\w.cell? ⟨b,o+i*3,none⟩=some (.int .i64 t.mask)/\
   w.cell? ⟨b,o+i*3+1,none⟩=some (.slice a1 t.ids.length cp1)/\w.cell? ⟨b,o+i*3+2,none⟩=some (.slice a2 t.rows.length cp2)/\IntsAt w lo (.slice a1 t.ids.length cp1) t.ids/\RowsAt w lo (.slice a2 t.rows.length cp2) t.rows:=by
 obtain ⟨b,o,cap,⟨p1,p2⟩,e,hl,hp,c0,c1,c2,hi⟩:=h.at hi
 obtain ⟨a1,cp1,e1⟩:=hi.1.val
 obtain ⟨a2,cp2,e2⟩:=hi.2.val
 simp only at e1 e2
 subst e1;subst e2
 exact ⟨b,o,cap,a1,cp1,a2,cp2,e,hl,hp,c0,c1,c2,hi.1,hi.2⟩
theorem IntsAt.max {w:World} {lo:Nat} {v:Value} {zs:List Int} (h:IntsAt w lo v zs):zs.length<=maxLen:=h.2.1
theorem RowsAt.max {w:World} {lo:Nat} {v:Value} {rs:List M.Row} (h:RowsAt w lo v rs):rs.length<=maxLen:=h.2.1
theorem TabsAtH.max {w:World} {lo:Nat} {v:Value} {ts:List M.Table} {hs:List (Value×Value)} (h:TabsAtH w lo v ts hs):ts.length<=maxLen:=h.2.1.2.1
end Go.Proofs.YtemkbjaojinaoaaGreat
namespace Go.Proofs.YtemkbjaojinaoaaGreat
open Go.ChangeShapes Go.WideShapes Go.ChangeAt Go.RowKit Go.Deep
section
variable {H:Type} {enc:TypeId×Value->H} {w:World} {spare:Nat->Bool} {held:Bool} {fuel:Nat}
theorem addr_none {a:Addr} {i:Nat} {v:Value} (h:w.cell? (a.add i)=some v):a.spot=none\/i≠0:=by
 by_cases hi:i=0
 ·subst hi
  left
  have e:a.add 0=a:=by simp [Addr.add]
  rw [e] at h
  unfold World.cell? at h
  cases hs:a.spot with
  |none=>rfl
  |some s=>rw [hs] at h;cases hb:w.heap[a.block]? with
   |none=>simp [hb] at h
   |some o=>cases o<;>simp [hb] at h
 ·exact .inr hi
theorem lies_of {α:Type} {k len cap:Nat} {a:Addr} (f:α->List Value) (xs:List α) (hk:0<k) (hf:∀x∈xs,(f x).length=k) (hm:cap<=maxLen) (hl:len<=cap) (hx:xs.length=len)
  (hc:∀i x,xs[i]?=some x->∀j,j<k->w.cell? (a.add (i*k+j))=(f x)[j]?):Lies w 0 (.slice (some a) len cap) len k (xs.flatMap f):=by
 have hlen:∀ys:List α,(∀x∈ys,(f x).length=k)->(ys.flatMap f).length=ys.length*k:=by
  intro ys
  induction ys with
  |nil=>intro _;simp
  |cons y ys ih=>
   intro h
   rw [List.flatMap_cons,List.length_append,h y sS,ih (λx hx=>h x (List.mem_cons_of_mem _ hx)),List.length_cons,Nat.succ_mul]
   omega
 have hat:∀(ys:List α),(∀x∈ys,(f x).length=k)->∀(i j:Nat) (y:α),ys[i]?=some y->j<k->(ys.flatMap f)[i*k+j]?=(f y)[j]?:=by
  intro ys
  induction ys with
  |nil=>intro _ i j y h;simp at h
  |cons z ys ih=>
   intro h i j y hy hj
   have hz:=h z sS
   rw [List.flatMap_cons]
   match i with
   |0=>
    simp only [List.getElem?_cons_zero,Option.some.injEq] at hy
    subst hy
    rw [Nat.zero_mul,Nat.zero_add,List.getElem?_append_left bO]
   |i+1=>
    simp only [List.getElem?_cons_succ] at hy
    have e:(i+1)*k+j-(f z).length=i*k+j:=by rw [hz,Nat.succ_mul];omega
    rw [List.getElem?_append_right (by rw [hz,Nat.succ_mul];omega),e]
    exact ih (λx hx=>h x (List.mem_cons_of_mem _ hx)) i j y hy hj
 refine ⟨by rw [hlen xs hf,hx],Nat.le_trans hl hm,some a,cap,rfl,λhne=>?_⟩
 have hpos:0<xs.length:=by
  rcases Nat.eq_zero_or_pos xs.length with h|h
  ·rw [List.length_eq_zero_iff] at h;subst h;simp at hne
  ·exact h
 have hs:a.spot=none:=by
  have h0:=hc 0 xs[0] (List.getElem?_eq_getElem hpos) 0 hk
  have hk0:=hf xs[0] (List.getElem_mem hpos)
  rw [List.getElem?_eq_getElem bO] at h0
  rcases addr_none h0 with h|h
  ·exact h
  ·simp at h
 obtain ⟨b,o,sp⟩:=a
 simp only at hs
 subst hs
 refine ⟨b,o,rfl,Nat.zero_le _,λj u hj=>?_⟩
 have hj2:j<xs.length*k:=by rw [←hlen xs hf];exact (List.getElem?_eq_some_iff.1 hj).1
 have hi:j / k<xs.length:=by rw [Nat.div_lt_iff_lt_mul hk];exact hj2
 have hr:j % k<k:=Nat.mod_lt _ hk
 have hjk:j / k*k+j % k=j:=by rw [Nat.mul_comm];exact Nat.div_add_mod j k
 have h1:=hc (j / k) xs[j / k] (List.getElem?_eq_getElem hi) (j % k) hr
 have h2:=hat xs hf (j / k) (j % k) xs[j / k] (List.getElem?_eq_getElem hi) hr
 rw [hjk] at h1 h2
 rw [h2] at hj
 rw [hj] at h1
 rw [←h1]
 congr 1
 unfold Addr.add
 split<;>simp_all
theorem cells_at {base:Nat} {a:Addr} {n:Nat} {cs:List Value} (h:w.cells? base a n=some cs):cs.length=n/\∀j,j<n->w.cell? (a.add j)=cs[j]?:=by
 obtain ⟨_,h1,h2⟩:=World.cells?_some h
 exact ⟨h1,h2⟩
def TabIn (t:M.Table):Prop:=I64 t.mask/\(∀z∈t.ids,I64 z)/\∀r∈t.rows,RowOk r
def StoreIn (s:M.Store):Prop:=I64 s.next/\∀t∈s.tables,TabIn t
theorem three {α:Type} {l:List α} (h:l.length=3):∃a b c,l=[a,b,c]:=by
 match l,h with
 |[a,b,c],_=>exact ⟨a,b,c,rfl⟩
theorem two {α:Type} {l:List α} (h:l.length=2):∃a b,l=[a,b]:=by
 match l,h with
 |[a,b],_=>exact ⟨a,b,rfl⟩
end
end Go.Proofs.YtemkbjaojinaoaaGreat
namespace Go.Proofs.YtemkbjaojinaoaaGreat
open Go.RowKit
def boxL (b:M.Box):List Value:=[.int .i64 b.id,.int .i64 b.x1,.int .i64 b.y1,.int .i64 b.x2,.int .i64 b.y2]
abbrev boxC (b:M.Box):Array Value:=#[.int .i64 b.id,.int .i64 b.x1,.int .i64 b.y1,.int .i64 b.x2,.int .i64 b.y2]
abbrev boxV (b:M.Box):Value:=.agg (boxC b)
def pairL (p:M.Pr):List Value:=[.int .i64 p.1,.int .i64 p.2]
abbrev pairV (p:M.Pr):Value:=.agg #[.int .i64 p.1,.int .i64 p.2]
def BoxesAt5 (w:World) (lo:Nat) (v:Value) (bs:List M.Box):Prop:=Lies w lo v bs.length 5 (bs.flatMap boxL)
def PairsAt (w:World) (lo:Nat) (v:Value) (ps:List M.Pr):Prop:=Lies w lo v ps.length 2 (ps.flatMap pairL)
theorem flat_at {α:Type} (f:α->List Value) (k:Nat) (hf:∀x,(f x).length=k) (l:List α) (i j:Nat) {x:α} (h:l[i]?=some x) (hj:j<k):(l.flatMap f)[i*k+j]?=(f x)[j]?:=by
 induction l generalizing i with
 |nil=>simp at h
 |cons a l ih=>
  have hk:=hf a
  rw [List.flatMap_cons]
  cases i with
  |zero=>
   simp only [List.getElem?_cons_zero,Option.some.injEq] at h
   subst h
   rw [Nat.zero_mul,Nat.zero_add,List.getElem?_append_left bO]
  |succ i=>
   simp only [List.getElem?_cons_succ] at h
   rw [List.getElem?_append_right (by rw [hk,Nat.succ_mul];omega),hk,show (i+1)*k+j-k=i*k+j by rw [Nat.succ_mul];omega]
   exact ih i h
theorem flat_len {α:Type} (f:α->List Value) (k:Nat) (hf:∀x,(f x).length=k) (l:List α):(l.flatMap f).length=l.length*k:=by
 induction l with
 |nil=>simp
 |cons a l ih=>rw [List.flatMap_cons,List.length_append,ih,hf,List.length_cons,Nat.succ_mul];omega
theorem boxes_len (l:List M.Box):(l.flatMap boxL).length=l.length*5:=flat_len boxL 5 (λ_=>rfl) l
theorem pairs_len (l:List M.Pr):(l.flatMap pairL).length=l.length*2:=flat_len pairL 2 (λ_=>rfl) l
def BoxCells (w:World) (b o i:Nat) (r:M.Box):Prop:=w.cell? ⟨b,o+i*5,none⟩=some (.int .i64 r.id)/\w.cell? ⟨b,o+i*5+1,none⟩=some (.int .i64 r.x1)/\w.cell? ⟨b,o+i*5+2,none⟩=some (.int .i64 r.y1)/\w.cell? ⟨b,o+i*5+3,none⟩=some (.int .i64 r.x2)/\w.cell? ⟨b,o+i*5+4,none⟩=some (.int .i64 r.y2)
theorem BoxCells.below {w w':World} {b o i:Nat} {r:M.Box} (h:BoxCells w b o i r) (hb:Below w.heap.size w w'):BoxCells w' b o i r:=by
 obtain ⟨h0,h1,h2,h3,h4⟩:=h
 exact ⟨below_cell h0 hb,below_cell h1 hb,below_cell h2 hb,below_cell h3 hb,below_cell h4 hb⟩
theorem BoxesAt5.below {w w':World} {lo:Nat} {v:Value} {bs:List M.Box} (h:BoxesAt5 w lo v bs) (hb:Below w.heap.size w w'):BoxesAt5 w' lo v bs:=Lies.below h hb
theorem PairsAt.below {w w':World} {lo:Nat} {v:Value} {bs:List M.Pr} (h:PairsAt w lo v bs) (hb:Below w.heap.size w w'):PairsAt w' lo v bs:=Lies.below h hb
theorem BoxesAt5.val {w:World} {lo:Nat} {v:Value} {bs:List M.Box} (h:BoxesAt5 w lo v bs):∃a cap,v=.slice a bs.length cap:=by
 obtain ⟨h2,hmx,a,cap,e,h3⟩:=h
 exact ⟨a,cap,e⟩
theorem PairsAt.val {w:World} {lo:Nat} {v:Value} {bs:List M.Pr} (h:PairsAt w lo v bs):∃a cap,v=.slice a bs.length cap:=by
 obtain ⟨h2,hmx,a,cap,e,h3⟩:=h
 exact ⟨a,cap,e⟩
theorem BoxesAt5.max {w:World} {lo:Nat} {v:Value} {bs:List M.Box} (h:BoxesAt5 w lo v bs):bs.length<=maxLen:=h.2.1
theorem PairsAt.max {w:World} {lo:Nat} {v:Value} {bs:List M.Pr} (h:PairsAt w lo v bs):bs.length<=maxLen:=h.2.1
theorem BoxesAt5.at5 {w:World} {lo:Nat} {v:Value} {bs:List M.Box} (h:BoxesAt5 w lo v bs) {i:Nat} {r:M.Box} (hi:bs[i]?=some r):
  ∃b o cap,v=.slice (some ⟨b,o,none⟩) bs.length cap/\lo<=b/\BoxCells w b o i r:=by
 obtain ⟨h2,hmx,a,cap,e,h3⟩:=h
 have hm:=flat_at boxL 5 (λ_=>rfl) bs i 0 hi bO
 obtain ⟨b,o,ea,hl,hc⟩:=h3 (by intro e;rw [e] at hm;simp [boxL] at hm)
 subst ea
 have hx:∀j u,(boxL r)[j]?=some u->j<5->w.cell? ⟨b,o+i*5+j,none⟩=some u:=by
  intro j u hu hj
  rw [Nat.add_assoc]
  exact hc _ _ ((flat_at boxL 5 (λ_=>rfl) bs i j hi hj).trans hu)
 exact ⟨b,o,cap,e,hl,hx 0 _ rfl bO,hx 1 _ rfl bO,hx 2 _ rfl bO,hx 3 _ rfl bO,hx 4 _ rfl bO⟩
theorem PairsAt.at2 {w:World} {lo:Nat} {v:Value} {bs:List M.Pr} (h:PairsAt w lo v bs) {i:Nat} {r:M.Pr} (hi:bs[i]?=some r):
  ∃b o cap,v=.slice (some ⟨b,o,none⟩) bs.length cap/\lo<=b/\w.cell? ⟨b,o+i*2,none⟩=some (.int .i64 r.1)/\w.cell? ⟨b,o+i*2+1,none⟩=some (.int .i64 r.2):=by
 obtain ⟨h2,hmx,a,cap,e,h3⟩:=h
 have hm:=flat_at pairL 2 (λ_=>rfl) bs i 0 hi bO
 obtain ⟨b,o,ea,hl,hc⟩:=h3 (by intro e;rw [e] at hm;simp [pairL] at hm)
 subst ea
 have hx:∀j u,(pairL r)[j]?=some u->j<2->w.cell? ⟨b,o+i*2+j,none⟩=some u:=by
  intro j u hu hj
  rw [Nat.add_assoc]
  exact hc _ _ ((flat_at pairL 2 (λ_=>rfl) bs i j hi hj).trans hu)
 exact ⟨b,o,cap,e,hl,hx 0 _ rfl bO,hx 1 _ rfl bO⟩
theorem boxes_one (bs:List M.Box):∀u∈bs.flatMap boxL,u.oneCell'=true:=by
 intro u hu
 obtain ⟨r,_,hr⟩:=List.mem_flatMap.1 hu
 simp only [boxL,List.mem_cons,List.not_mem_nil,or_false] at hr
 rcases hr with rfl|rfl|rfl|rfl|rfl<;>rfl
theorem pairs_one (bs:List M.Pr):∀u∈bs.flatMap pairL,u.oneCell'=true:=by
 intro u hu
 obtain ⟨r,_,hr⟩:=List.mem_flatMap.1 hu
 simp only [pairL,List.mem_cons,List.not_mem_nil,or_false] at hr
 rcases hr with rfl|rfl<;>rfl
end Go.Proofs.YtemkbjaojinaoaaGreat
namespace Go.Proofs.YtemkbjaojinaoaaGreat
open Go.ChangeShapes Go.WideShapes Go.ChangeAt Go.RowKit Go.Deep
def BoxIn (b:M.Box):Prop:=I64 b.id/\I64 b.x1/\I64 b.y1/\I64 b.x2/\I64 b.y2
def M.box0:M.Box:=⟨0,0,0,0,0⟩
section
variable {H:Type} {enc:TypeId×Value->H} {w:World} {base:Nat} {spare:Nat->Bool} {held:Bool} {fuel:Nat}
theorem five {α:Type} {l:List α} (h:l.length=5):∃a b c d e,l=[a,b,c,d,e]:=by
 match l,h with
 |[a,b,c,d,e],_=>exact ⟨a,b,c,d,e,rfl⟩
def CapOk (v:Value):Prop:=∃a n c,v=.slice a n c/\n<=c/\c<=maxLen
end
abbrev actC (a:M.Act):Array Value:=#[.int .i64 a.kind,.int .i64 a.id,.int .i64 a.n,.int .i64 a.mask,.int .i64 a.row.X,.int .i64 a.row.Y,.int .i64 a.row.PX,.int .i64 a.row.PY,.int .i64 a.row.W,.int .i64 a.row.H,.int .i64 a.row.M,.int .i64 a.row.R,.int .i64 a.box.id,.int .i64 a.box.x1,.int .i64 a.box.y1,.int .i64 a.box.x2,.int .i64 a.box.y2]
abbrev actV (a:M.Act):Value:=.agg (actC a)
def ActIn (a:M.Act):Prop:=(I64 a.kind/\I64 a.id/\I64 a.n/\I64 a.mask)/\RowOk a.row/\(I64 a.box.id/\I64 a.box.x1/\I64 a.box.y1/\I64 a.box.x2/\I64 a.box.y2)
section
variable {H:Type} {enc:TypeId×Value->H} {w:World} {base:Nat} {spare:Nat->Bool} {held:Bool} {fuel:Nat}
theorem seventeen {l:List Value} (h:l.length=17):∃a0 a1 a2 a3 a4 a5 a6 a7 a8 a9 a10 a11 a12 a13 a14 a15 a16,l=[a0,a1,a2,a3,a4,a5,a6,a7,a8,a9,a10,a11,a12,a13,a14,a15,a16]:=by
 match l,h with
 |[a0,a1,a2,a3,a4,a5,a6,a7,a8,a9,a10,a11,a12,a13,a14,a15,a16],_=>exact ⟨a0,a1,a2,a3,a4,a5,a6,a7,a8,a9,a10,a11,a12,a13,a14,a15,a16,rfl⟩
theorem six {α:Type} {l:List α} (h:l.length=6):∃a b c d e f,l=[a,b,c,d,e,f]:=by
 match l,h with
 |[a,b,c,d,e,f],_=>exact ⟨a,b,c,d,e,f,rfl⟩
theorem five5 {α:Type} {l:List α} (h:l.length=5):∃a b c d e,l=[a,b,c,d,e]:=by
 match l,h with
 |[a,b,c,d,e],_=>exact ⟨a,b,c,d,e,rfl⟩
theorem abox_of_cells {cs:List Value} {n:Nat} {y:DataW H×List MemPlace} (h:DataW.trod enc Tryz.prog w base spare held n 40 cs=some y):
  ∃b:M.Box,cs=[.int .i64 b.id,.int .i64 b.x1,.int .i64 b.y1,.int .i64 b.x2,.int .i64 b.y2]/\(I64 b.id/\I64 b.x1/\I64 b.y1/\I64 b.x2/\I64 b.y2):=by
 obtain ⟨xs,n,_,_,hlen,hxl,hg⟩:=DataW.trod_struct Tryz.underlying40 h
 have hc:Tryz.prog.cellsOf 40=5:=by kernel_rfl
 have c1:Tryz.prog.cellsOf 3=1:=by kernel_rfl
 rw [hc] at hlen
 obtain ⟨a0,a1,a2,a3,a4,rfl⟩:=five5 hlen
 obtain ⟨b0,b1,b2,b3,b4,rfl⟩:=five5 (l:=xs) hxl
 obtain ⟨x0,rfl,h0⟩:=cell_i64 Tryz.underlying3 (by simpa [c1] using hg 0 _ rfl)
 obtain ⟨x1,rfl,h1⟩:=cell_i64 Tryz.underlying3 (by simpa [c1] using hg 1 _ rfl)
 obtain ⟨x2,rfl,h2⟩:=cell_i64 Tryz.underlying3 (by simpa [c1] using hg 2 _ rfl)
 obtain ⟨x3,rfl,h3⟩:=cell_i64 Tryz.underlying3 (by simpa [c1] using hg 3 _ rfl)
 obtain ⟨x4,rfl,h4⟩:=cell_i64 Tryz.underlying3 (by simpa [c1] using hg 4 _ rfl)
 exact ⟨⟨x0,x1,x2,x3,x4⟩,rfl,h0,h1,h2,h3,h4⟩
theorem act_of_cells {cs:List Value} {n:Nat} {y:DataW H×List MemPlace} (h:DataW.trod enc Tryz.prog w base spare held n 42 cs=some y):∃a:M.Act,cs=(actC a).toList/\ActIn a:=by
 obtain ⟨xs,n,_,_,hlen,hxl,hg⟩:=DataW.trod_struct Tryz.underlying42 h
 have hc:Tryz.prog.cellsOf 42=17:=by kernel_rfl
 have c1:Tryz.prog.cellsOf 3=1:=by kernel_rfl
 have c8:Tryz.prog.cellsOf 38=8:=by kernel_rfl
 have c5:Tryz.prog.cellsOf 40=5:=by kernel_rfl
 rw [hc] at hlen
 obtain ⟨a0,a1,a2,a3,a4,a5,a6,a7,a8,a9,a10,a11,a12,a13,a14,a15,a16,rfl⟩:=seventeen hlen
 obtain ⟨b0,b1,b2,b3,b4,b5,rfl⟩:=six (l:=xs) hxl
 obtain ⟨x0,rfl,h0⟩:=cell_i64 Tryz.underlying3 (by simpa [c1] using hg 0 _ rfl)
 obtain ⟨x1,rfl,h1⟩:=cell_i64 Tryz.underlying3 (by simpa [c1] using hg 1 _ rfl)
 obtain ⟨x2,rfl,h2⟩:=cell_i64 Tryz.underlying3 (by simpa [c1] using hg 2 _ rfl)
 obtain ⟨x3,rfl,h3⟩:=cell_i64 Tryz.underlying3 (by simpa [c1] using hg 3 _ rfl)
 obtain ⟨r,er,hr⟩:=row_of_cells (cs:=[a4,a5,a6,a7,a8,a9,a10,a11]) (by simpa [c8] using hg 4 _ rfl)
 obtain ⟨b,eb,hb⟩:=abox_of_cells (cs:=[a12,a13,a14,a15,a16]) (by simpa [c5] using hg 5 _ rfl)
 simp only [List.cons.injEq,and_true] at er eb
 obtain ⟨rfl,rfl,rfl,rfl,rfl,rfl,rfl,rfl⟩:=er
 obtain ⟨rfl,rfl,rfl,rfl,rfl⟩:=eb
 exact ⟨⟨x0,x1,x2,x3,r,b⟩,rfl,⟨h0,h1,h2,h3⟩,hr,hb⟩
end
end Go.Proofs.YtemkbjaojinaoaaGreat
namespace Go.Proofs.YtemkbjaojinaoaaGreat
open Go.Maps (Keyed)
theorem plainElem_bool_inv {H:Type} {P:Program} {e:TypeId} (he:P.underlying e=some .bool) {v:Value} {z:DataW H×List MemPlace} (h:plainElem P e v=some z):∃x,v=.bool x/\z=(.lit (.bool x),[]):=by
 unfold plainElem at h
 rw [he] at h
 cases v<;>simp at h
 exact ⟨_,rfl,h.symm⟩
end Go.Proofs.YtemkbjaojinaoaaGreat
namespace Go.Proofs.YtemkbjaojinaoaaGreat
open Go.RowKit
theorem run_copy_k {P:Program} (w:World) (dT sT ty elem:TypeId) (k g off dLen dCap:Nat) (ad:Addr) (sLen sCap:Nat) (cur:Array Value) (t:TypeId) (cs:List Value)
  (hu:P.underlying dT=some (.slice elem)) (hsz:(P.info? elem).map (·.size)=some k) (hg:w.heap[g]?=some (.cells cur t (0,0))) (hn:cs.length=Nat.min sLen dLen*k)
  (hsrc:∀j v,cs[j]?=some v->w.cell? (ad.add j)=some v) (hfit:off+cs.length<=cur.size) (h1:∀v∈cs,v.oneCell'=true):
  (Builtin.copy_ #[dT,sT] ty #[.slice (some ⟨g,off,none⟩) dLen dCap,.slice (some ad) sLen sCap]).run P w=.ok (goInt (Nat.min sLen dLen)) (w.setRow g (cur.toList.take off++cs++cur.toList.drop (off+cs.length)).toArray):=by
 have hst:=run_storeCells_at (P:=P) g off t cs 0 cur w hg (by simpa using hfit) h1
 rw [Nat.add_zero] at hst
 cases hq:P.info? elem with
 |none=>simp [hq] at hsz
 |some i=>
  have hi:i.size=k:=by simpa [hq] using hsz
  have hf:=run_firstCells_some (P:=P) w k (Nat.min sLen dLen) ad sLen sCap cs hn hsrc
  simp [Builtin.copy_,run_underlying hu,Builtin.lenOf,sizeOf,typeInfo,hq,hi,hf,hst]
theorem row_eql (a b:M.Row) (w:World):(binOp .eql 38 (rowV a) (rowV b)).run Tryz.prog w=.ok (.bool (decide (a=b))) w:=by
 have hS:Tryz.prog.underlying 38=some (.struct (Tryz.prog.fieldsOf 38)):=by kernel_rfl
 have hp:Tryz.prog.stoodInHeld 38=false:=by kernel_rfl
 obtain ⟨a0,a1,a2,a3,a4,a5,a6,a7⟩:=a
 obtain ⟨b0,b1,b2,b3,b4,b5,b6,b7⟩:=b
 rw [run_eql_struct,show (10000:Nat)=9999+1 from rfl,run_equalIn_agg w 9999 38 _ _ hS hp]
 simp only [Program.fieldsOf,Tryz.underlying38]
 go_simp
 clear hS hp
 (repeat' split)<;>simp_all
end Go.Proofs.YtemkbjaojinaoaaGreat
namespace Go.Proofs.YtemkbjaojinaoaaGreat
open Go
def Undone (l:Array Bool):Nat:=l.toList.count false
theorem ready_spec {md:Region.Mode} {ops:Array Oper} {l:Array Bool} {i:Nat} (h:i∈Region.ready md ops l):
  l.getD i true=false/\i<ops.size/\∀o,ops[i]?=some o->∀e∈o.after.toList,Region.binds md e=true->l.getD e.on false=true:=by
 unfold Region.ready at h
 simp only [List.mem_filter,List.mem_range,Bool.and_eq_true,Bool.not_eq_true'] at h
 obtain ⟨h1,h2,h3⟩:=h
 refine ⟨h2,h1,λo ho e he hb=>?_⟩
 rw [ho] at h3
 simp only [Option.map_some,Option.getD_some] at h3
 have h4:=(Array.all_eq_true'.1 h3) e (by simpa using he)
 simpa [hb] using h4
theorem ready_of {md:Region.Mode} {ops:Array Oper} {l:Array Bool} {i:Nat} (h1:i<ops.size) (h2:l.getD i true=false)
  (h3:∀o,ops[i]?=some o->∀e∈o.after.toList,Region.binds md e=true->l.getD e.on false=true):i∈Region.ready md ops l:=by
 unfold Region.ready
 simp only [List.mem_filter,List.mem_range,Bool.and_eq_true,Bool.not_eq_true']
 refine ⟨h1,h2,?_⟩
 rw [Array.getElem?_eq_getElem h1]
 simp only [Option.map_some,Option.getD_some]
 rw [Array.all_eq_true']
 intro e he
 cases hb:Region.binds md e
 ·rfl
 ·simpa using h3 _ (Array.getElem?_eq_getElem h1) e (by simpa using he) hb
def waits (md:Region.Mode) (ops:Array Oper) (i j:Nat):Bool:=((ops[i]?).map λo=>o.after.toList.any λe=>Region.binds md e && e.on==j).getD false
theorem ready_dep {md:Region.Mode} {ops:Array Oper} {l:Array Bool} {i:Nat} (h:i∈Region.ready md ops l) (j:Nat) (hw:waits md ops i j=true):l.getD j false=true:=by
 obtain ⟨h1,h2,h3⟩:=ready_spec h
 unfold waits at hw
 rw [Array.getElem?_eq_getElem h2] at hw
 simp only [Option.map_some,Option.getD_some,List.any_eq_true,Bool.and_eq_true,beq_iff_eq] at hw
 obtain ⟨e,he,hb,rfl⟩:=hw
 exact h3 _ (Array.getElem?_eq_getElem h2) e he hb
theorem getD_two {l:Array Bool} {i:Nat} (h:l.getD i true=false):i<l.size/\l.getD i false=false:=by
 by_cases hi:i<l.size
 ·refine ⟨hi,?_⟩
  simp [Array.getD,hi] at h⊢
  exact h
 ·simp [Array.getD,hi] at h
theorem undone_step {l:Array Bool} {i n:Nat} (h:l.getD i true=false) (hn:Undone l<=n+1):Undone (l.setIfInBounds i true)<=n:=by
 obtain ⟨hi,h2⟩:=getD_two h
 unfold Undone at *
 have e:l[i]=false:=by simpa [Array.getD,hi] using h
 rw [Array.toList_setIfInBounds,List.count_set (by simpa using hi)]
 have e2:l.toList[i]'(by simpa using hi)=false:=by simpa using e
 rw [e2]
 have hpos:0<l.toList.count false:=List.count_pos_iff.2 (by rw [←e2];exact List.getElem_mem _)
 rw [if_pos (by rfl),if_neg dC]
 omega
theorem wpAny_inv {P:Program} {md:Region.Mode} {ops:Array Oper} {Q:Exit->Act->World->Prop} (Inv:Array Bool->Act->World->Prop)
  (hfin:∀l a w,Inv l a w->Region.ready md ops l=[]->Q .normal a w)
  (hstep:∀l a w i,Inv l a w->i∈Region.ready md ops l->wpOp P ops Q i (Inv (l.setIfInBounds i true)) a w):
  ∀n l a w,Undone l<=n->Inv l a w->wpAny P md ops Q n l a w:=by
 intro n
 induction n with
 |zero=>
  intro l a w hn h
  have hr:Region.ready md ops l=[]:=by
   rw [List.eq_nil_iff_forall_not_mem]
   intro i hi
   obtain ⟨h1,h2,_⟩:=ready_spec hi
   obtain ⟨h3,h4⟩:=getD_two h1
   have e2:l.toList[i]'(by simpa using h3)=false:=by simpa [Array.getD,h3] using h1
   have hpos:0<l.toList.count false:=List.count_pos_iff.2 (by rw [←e2];exact List.getElem_mem _)
   unfold Undone at hn
   omega
  exact ⟨hr,hfin l a w h hr⟩
 |succ n ih=>
  intro l a w hn h
  refine ⟨λhr=>hfin l a w h hr,λi hi=>?_⟩
  exact wpOp_mono (λa' w' h'=>ih _ a' w' (undone_step (ready_spec hi).1 hn) h') (hstep l a w i h hi)
theorem all_done {md:Region.Mode} {ops:Array Oper} {l:Array Bool} (hr:Region.ready md ops l=[]) (hs:l.size=ops.size)
  (hd:∀i,i<ops.size->∀o,ops[i]?=some o->∀e∈o.after.toList,Region.binds md e=true->e.on<i):∀i,i<ops.size->l.getD i false=true:=by
 intro i
 induction i using Nat.strongRecOn with
 |ind i ih=>
  intro hi
  cases hx:l.getD i false with
  |true=>rfl
  |false=>
   exfalso
   have hm:i∈Region.ready md ops l:=by
    refine ready_of hi ?_ ?_
    ·have:i<l.size:=by omega
     simp [Array.getD,this] at hx⊢
     exact hx
    ·intro o ho e he hb
     have:=hd i hi o ho e he hb
     exact ih e.on this bO
   rw [hr] at hm
   cases hm
theorem wpOp_run {P:Program} {ops:Array Oper} {Q:Exit->Act->World->Prop} {i:Nat} {o:Oper} {K:Act->World->Prop} {a:Act} {w:World} (ho:ops[i]?=some o) (hg:o.guard=none) (h:o.wp P a w K Q):wpOp P ops Q i K a w:=by
 refine wpOp_step ho λK' hK=>?_
 rw [if_pos (by simp [Region.wanted,hg])]
 exact Oper.wp_mono hK h
theorem put_same {a:Act} {t:Nat} {v:Value} (h:t<a.tmps.size):(a.put (some t) v).eval (.tmp t)=v:=by
 simp [Act.eval,Act.put,h]
theorem put_other {a:Act} {t s:Nat} {v:Value} (h:t≠s):(a.put (some t) v).eval (.tmp s)=a.eval (.tmp s):=by
 simp [Act.eval,Act.put,Array.getElem?_setIfInBounds,h]
theorem set_getD {l:Array Bool} {i k:Nat} (h:(l.setIfInBounds i true).getD k false=true):k=i\/l.getD k false=true:=by
 by_cases e:k=i
 ·exact .inl e
 ·right
  by_cases hk:k<l.size
  ·simp [Array.getD,hk,Array.getElem_setIfInBounds,Ne.symm e] at h⊢
   exact h
  ·simp [Array.getD,hk] at h
theorem getD_set {l:Array Bool} {i k:Nat} (h:l.getD k false=true):(l.setIfInBounds i true).getD k false=true:=by
 by_cases hk:k<l.size
 ·simp [Array.getD,hk,Array.getElem_setIfInBounds] at h⊢
  by_cases e:i=k
  ·simp [e]
  ·simp [e,h]
 ·simp [Array.getD,hk] at h
end Go.Proofs.YtemkbjaojinaoaaGreat
namespace Go.Proofs.YtemkbjaojinaoaaGreat
open Go.ChangeShapes Go.WideShapes Go.ChangeAt Go.RowKit Go.Deep
def actL (a:M.Act):List Value:=(actC a).toList
def M.act0:M.Act:=⟨0,0,0,0,M.row0,⟨0,0,0,0,0⟩⟩
def ActsAt (w:World) (lo:Nat) (v:Value) (xs:List M.Act):Prop:=Lies w lo v xs.length 17 (xs.flatMap actL)
theorem acts_len (l:List M.Act):(l.flatMap actL).length=l.length*17:=flat_len actL 17 (λ_=>rfl) l
def ActCells (w:World) (b o:Nat) (x:M.Act):Prop:=∀j u,(actL x)[j]?=some u->w.cell? ⟨b,o+j,none⟩=some u
theorem ActCells.below {w w':World} {b o:Nat} {x:M.Act} (h:ActCells w b o x) (hb:Below w.heap.size w w'):ActCells w' b o x:=λj u hj=>below_cell (h j u hj) hb
theorem ActsAt.below {w w':World} {lo:Nat} {v:Value} {xs:List M.Act} (h:ActsAt w lo v xs) (hb:Below w.heap.size w w'):ActsAt w' lo v xs:=Lies.below h hb
theorem ActsAt.val {w:World} {lo:Nat} {v:Value} {xs:List M.Act} (h:ActsAt w lo v xs):∃a cap,v=.slice a xs.length cap:=by
 obtain ⟨h2,hmx,a,cap,e,h3⟩:=h
 exact ⟨a,cap,e⟩
theorem ActsAt.max {w:World} {lo:Nat} {v:Value} {xs:List M.Act} (h:ActsAt w lo v xs):xs.length<=maxLen:=h.2.1
theorem ActsAt.at {w:World} {lo:Nat} {v:Value} {xs:List M.Act} (h:ActsAt w lo v xs) {i:Nat} {x:M.Act} (hi:xs[i]?=some x):
  ∃b o cap,v=.slice (some ⟨b,o,none⟩) xs.length cap/\lo<=b/\ActCells w b (o+i*17) x:=by
 obtain ⟨h2,hmx,a,cap,e,h3⟩:=h
 have hm:=flat_at actL 17 (λ_=>rfl) xs i 0 hi bO
 obtain ⟨b,o,ea,hl,hc⟩:=h3 (by intro e;rw [e] at hm;simp [actL] at hm)
 subst ea
 refine ⟨b,o,cap,e,hl,λj u hu=>?_⟩
 have hj:j<17:=by
  have:=(List.getElem?_eq_some_iff.1 hu).1
  simpa [actL] using this
 rw [Nat.add_assoc]
 exact hc _ _ ((flat_at actL 17 (λ_=>rfl) xs i j hi hj).trans hu)
theorem ActCells.all {w:World} {b o:Nat} {x:M.Act} (h:ActCells w b o x):w.cell? ⟨b,o,none⟩=some (.int .i64 x.kind)/\w.cell? ⟨b,o+1,none⟩=some (.int .i64 x.id)/\w.cell? ⟨b,o+2,none⟩=some (.int .i64 x.n)/\w.cell? ⟨b,o+3,none⟩=some (.int .i64 x.mask)/\
  w.cell? ⟨b,o+4,none⟩=some (.int .i64 x.row.X)/\w.cell? ⟨b,o+5,none⟩=some (.int .i64 x.row.Y)/\w.cell? ⟨b,o+6,none⟩=some (.int .i64 x.row.PX)/\w.cell? ⟨b,o+7,none⟩=some (.int .i64 x.row.PY)/\w.cell? ⟨b,o+8,none⟩=some (.int .i64 x.row.W)/\w.cell? ⟨b,o+9,none⟩=some (.int .i64 x.row.H)/\w.cell? ⟨b,o+10,none⟩=some (.int .i64 x.row.M)/\w.cell? ⟨b,o+11,none⟩=some (.int .i64 x.row.R)/\
  w.cell? ⟨b,o+12,none⟩=some (.int .i64 x.box.id)/\w.cell? ⟨b,o+13,none⟩=some (.int .i64 x.box.x1)/\w.cell? ⟨b,o+14,none⟩=some (.int .i64 x.box.y1)/\w.cell? ⟨b,o+15,none⟩=some (.int .i64 x.box.x2)/\w.cell? ⟨b,o+16,none⟩=some (.int .i64 x.box.y2):=
 ⟨h 0 _ rfl,h 1 _ rfl,h 2 _ rfl,h 3 _ rfl,h 4 _ rfl,h 5 _ rfl,h 6 _ rfl,h 7 _ rfl,h 8 _ rfl,h 9 _ rfl,h 10 _ rfl,h 11 _ rfl,h 12 _ rfl,h 13 _ rfl,h 14 _ rfl,h 15 _ rfl,h 16 _ rfl⟩
theorem acts_one (xs:List M.Act):∀u∈xs.flatMap actL,u.oneCell'=true:=by
 intro u hu
 obtain ⟨r,_,hr⟩:=List.mem_flatMap.1 hu
 simp only [actL,List.mem_cons,List.not_mem_nil,or_false] at hr
 rcases hr with rfl|rfl|rfl|rfl|rfl|rfl|rfl|rfl|rfl|rfl|rfl|rfl|rfl|rfl|rfl|rfl|rfl<;>rfl
section
variable {H:Type} {enc:TypeId×Value->H} {w:World} {base:Nat} {spare:Nat->Bool} {held:Bool} {fuel:Nat}
theorem open_actsAt {v:Value} {x:DataW H×List MemPlace} (h:DataW.trod enc Tryz.prog w 0 spare held fuel 22 [v]=some x):∃rs,ActsAt w 0 v rs/\∀r∈rs,ActIn r:=by
 rcases open_slice Tryz.underlying22 h with ⟨e,_⟩|⟨a,len,cap,m,n,D,Pl,e,hb,hl,hm,hmm,_,hx⟩
 ·obtain rfl:v=.slice none 0 0:=by simpa using e
  exact ⟨[],⟨rfl,Nat.zero_le _,none,0,rfl,λh=>absurd rfl h⟩,by simp⟩
 ·obtain rfl:v=.slice (some a) len cap:=by simpa using e
  have c5:Tryz.prog.cellsOf 42=17:=by kernel_rfl
  have hlm:len<=m:=by rw [hmm];split<;>omega
  haveI:Inhabited M.Act:=⟨M.act0⟩
  obtain ⟨f,hf⟩:=choose_lt (α:=M.Act) (n:=len) (p:=λi r=>(∀j,j<17->w.cell? (a.add (i*17+j))=(actL r)[j]?)/\ActIn r) (λi hi=>by
   obtain ⟨cs',h1,h2⟩:=hx i bO
   obtain ⟨r,rfl,hr⟩:=act_of_cells h2
   rw [c5] at h1
   obtain ⟨_,h3⟩:=cells_at h1
   refine ⟨r,λj hj=>?_,hr⟩
   have:=h3 j hj
   rw [add_add] at this
   exact this)
  refine ⟨(List.range len).map f,?_,?_⟩
  ·have:=lies_of (w:=w) (k:=17) (len:=len) (cap:=cap) (a:=a) actL ((List.range len).map f) bO (λ_ _=>rfl) hm hl sS (by
    intro i x hi j hj
    simp only [List.getElem?_map] at hi
    rcases Nat.lt_or_ge i len with hlt|hge
    ·rw [List.getElem?_range hlt] at hi
     simp only [Option.map_some,Option.some.injEq] at hi
     subst hi
     exact (hf i hlt).1 j hj
    ·rw [List.getElem?_eq_none (by simpa using hge)] at hi;simp at hi)
   unfold ActsAt
   simpa using this
  ·intro z hz
   obtain ⟨i,hi,rfl⟩:=List.mem_map.1 hz
   exact (hf i (by simpa using hi)).2
theorem open_acts {r:Reach} {b0:Nat} {v:Value} {d:DataW H} {p:List MemPlace} (hv:Value.okWide Tryz.prog w r b0 22 v)
  (h:DataW.Trod enc Tryz.prog w 0 spare held 22 v d p):∃xs,ActsAt w 0 v xs/\∀r∈xs,ActIn r:=by
 obtain ⟨a,len,cap,rfl⟩:=okWide_slice Tryz.underlying22 hv
 obtain ⟨fuel,hf⟩:=h
 have hf2:DataW.trod enc Tryz.prog w 0 spare held fuel 22 [.slice a len cap]=some (d,p):=by simpa [Value.cells] using hf
 exact open_actsAt hf2
end
end Go.Proofs.YtemkbjaojinaoaaGreat
