/- Several small texts in one. No condition of its own: each part says its own. -/
import Derived.Test.YtemkbjaojinaoaaGreatShort
import Derived.WalkKit
set_option linter.unusedVariables false
set_option linter.unusedSimpArgs false
set_option maxRecDepth 100000
namespace Go.Proofs.YtemkbjaojinaoaaGreat.M
structure Row where
 X:Int
 Y:Int
 PX:Int
 PY:Int
 W:Int
 H:Int
 M:Int
 R:Int
deriving DecidableEq
def within (n most:Int):Int:=if n< -most then -most else if most<n then most else n
def capped (most:Int):Int:=if most<0 then 0 else if 1099511627776<most then 1099511627776 else most
def add (a b most:Int):Int:=within (within a (capped most)+within b (capped most)) (capped most)
def part (n a b:Int):Int:=
 if within b 268435456=0 then 0 else (within n 268435456*within a 268435456).tdiv (within b 268435456)
theorem within_bd (n most:Int) (h:0<=most):-most<=within n most/\within n most<=most:=by
 unfold within;split<;>(try split)<;>omega
theorem within_id (n most:Int) (h1:-most<=n) (h2:n<=most):within n most=n:=by
 unfold within;rw [if_neg bO,if_neg bO]
theorem capped_bd (most:Int):0<=capped most/\capped most<=1099511627776:=by
 unfold capped;split<;>(try split)<;>omega
theorem capped_id (most:Int) (h1:0<=most) (h2:most<=1099511627776):capped most=most:=by
 unfold capped;rw [if_neg bO,if_neg bO]
theorem mul_bd (a b x y:Int) (h1:-x<=a) (h2:a<=x) (h3:-y<=b) (h4:b<=y):-(x*y)<=a*b/\a*b<=x*y:=by
 have hx:0<=x:=by omega
 have hy:0<=y:=by omega
 have ha:a.natAbs<=x.natAbs:=by omega
 have hb:b.natAbs<=y.natAbs:=by omega
 have hm:(a*b).natAbs<=(x*y).natAbs:=by rw [Int.natAbs_mul,Int.natAbs_mul];exact Nat.mul_le_mul ha hb
 have hp:0<=x*y:=Int.mul_nonneg hx hy
 omega
theorem tdiv_bd (a b x:Int) (h1:-x<=a) (h2:a<=x):-x<=a.tdiv b/\a.tdiv b<=x:=by
 have hle:(a.tdiv b).natAbs<=a.natAbs:=by rw [Int.natAbs_tdiv];exact Nat.div_le_self _ _
 generalize a.tdiv b=q at *
 omega
theorem part_bd (n a b:Int):-72057594037927936<=part n a b/\part n a b<=72057594037927936:=by
 unfold part
 split
 ·omega
 ·have h1:=within_bd n 268435456 bO
  have h2:=within_bd a 268435456 bO
  have h:=mul_bd (within n 268435456) (within a 268435456) 268435456 268435456 bO bO bO bO
  exact tdiv_bd _ _ _ bO bO
end Go.Proofs.YtemkbjaojinaoaaGreat.M
namespace Go.Proofs.YtemkbjaojinaoaaGreat.M
open Go.RowKit
structure Table where
 mask:Int
 ids:List Int
 rows:List Row
deriving DecidableEq
structure Store where
 tables:List Table
 next:Int
deriving DecidableEq
def row0:Row:=⟨0,0,0,0,0,0,0,0⟩
def bit (m p:Int):Bool:=bits .and .i64 m p !=0
def isPart (is:Bool) (a b lo hi:Int):Bool:=
 if is then decide (lo<=a/\a<=hi/\lo<=b/\b<=hi) else decide (a=0/\(b=0\/(lo=1/\hi=9)))
def goodRow (mask:Int) (r:Row):Bool:=
 decide (1<=mask/\mask<=31) && (isPart (bit mask 1) r.X r.Y (-1048576) 1048576 && (isPart (bit mask 2) r.PX r.PY (-16777216) 16777216 &&
  (isPart (bit mask 4) r.W r.H 1 4096 && (isPart (bit mask 8) r.M 1 1 9 && ((bit mask 8 && (decide (0<=r.R) && decide (r.R<=256)))||decide (r.R=0))))))
def onlyAt (b1 b2 b4 b8:Bool) (r:Row):Row:=
 ⟨if b1 then r.X else 0,if b1 then r.Y else 0,if b2 then r.PX else 0,if b2 then r.PY else 0,if b4 then r.W else 0,if b4 then r.H else 0,if b8 then r.M else 0,if b8 then r.R else 0⟩
def only (mask:Int) (r:Row):Row:=onlyAt (bit mask 1) (bit mask 2) (bit mask 4) (bit mask 8) r
def plus (a b:Row):Row:=
 ⟨wrap64 (a.X+b.X),wrap64 (a.Y+b.Y),wrap64 (a.PX+b.PX),wrap64 (a.PY+b.PY),wrap64 (a.W+b.W),wrap64 (a.H+b.H),wrap64 (a.M+b.M),wrap64 (a.R+b.R)⟩
def withR (r more:Row) (mask:Int):Row:=plus (only (bits .andNot .i64 31 mask) r) (only mask more)
abbrev Entry:=Int×Int×Row
def Table.entries (t:Table):List Entry:=(t.ids.zip t.rows).map λp=>(p.1,t.mask,p.2)
def entriesT (l:List Table):List Entry:=l.flatMap Table.entries
def entries (s:Store):List Entry:=entriesT s.tables
def idsT (l:List Table):List Int:=l.flatMap Table.ids
def TableOk (next:Int) (t:Table):Prop:=
 t.ids≠[]/\t.ids.length=t.rows.length/\(∀i∈t.ids,0<=i/\i<next)/\∀r∈t.rows,goodRow t.mask r=true
instance (next:Int) (t:Table):Decidable (TableOk next t):=by unfold TableOk;exact inferInstance
def GoodS (s:Store):Prop:=
 (∀t∈s.tables,TableOk s.next t)/\s.tables.Pairwise (λa b=>a.mask<b.mask)/\(idsT s.tables).Nodup/\(idsT s.tables).length<=10/\0<=s.next/\s.next<=1048576
instance (s:Store):Decidable (GoodS s):=by unfold GoodS;exact inferInstance
def good (s:Store):Bool:=decide (GoodS s)
theorem good_iff (s:Store):good s=true↔GoodS s:=by simp [good]
def findT (id:Int):List Table->Option (Nat×Nat)
 |[]=>none
 |t::ts=>if id∈t.ids then some (0,t.ids.idxOf id) else (findT id ts).map λp=>(p.1+1,p.2)
def find (s:Store) (id:Int):Option (Nat×Nat):=findT id s.tables
def get (s:Store) (id:Int):Int×Row×Bool:=
 match find s id with
 |none=>(0,row0,false)
 |some (i,k)=>
  match s.tables[i]? with
  |none=>(0,row0,false)
  |some t=>if h:k<t.rows.length then (t.mask,t.rows[k],true) else (0,row0,false)
def size (s:Store):Nat:=(idsT s.tables).length
def putT (id m:Int) (r:Row):List Table->List Table
 |[]=>[⟨m,[id],[r]⟩]
 |t::ts=>if t.mask<m then t::putT id m r ts else if t.mask=m then ⟨m,t.ids++[id],t.rows++[r]⟩::ts else ⟨m,[id],[r]⟩::t::ts
def put (s:Store) (id m:Int) (r:Row):Store:={s with tables:=putT id m r s.tables}
def without {α:Type} (l:List α) (k:Nat):List α:=
 match l.getLast? with
 |none=>[]
 |some x=>(l.set k x).dropLast
def cutT (l:List Table) (i k:Nat):List Table:=
 match l[i]? with
 |none=>l
 |some t=>if t.ids.length=1 then l.eraseIdx i else l.set i ⟨t.mask,without t.ids k,without t.rows k⟩
def cut (s:Store) (i k:Nat):Store:={s with tables:=cutT s.tables i k}
def setT (l:List Table) (i k:Nat) (r:Row):List Table:=
 match l[i]? with
 |none=>l
 |some t=>l.set i ⟨t.mask,t.ids,t.rows.set k r⟩
def maskAt (s:Store) (i:Nat):Int:=match s.tables[i]? with|none=>0|some t=>t.mask
def rowAt (s:Store) (i k:Nat):Row:=match s.tables[i]? with|none=>row0|some t=>t.rows.getD k row0
def spawn (s:Store) (m:Int) (r:Row):Store×Int×Int:=
 if good s=false then (s,0,1) else if goodRow m r=false then (s,0,2) else if 10<=size s\/1048576<=s.next then (s,0,5)
 else (put {s with next:=s.next+1} s.next m r,s.next,0)
def kill (s:Store) (id:Int):Store×Int:=
 if good s=false then (s,1) else match find s id with
 |none=>(s,3)
 |some (i,k)=>(cut s i k,0)
def set (s:Store) (id:Int) (r:Row):Store×Int:=
 if good s=false then (s,1) else match find s id with
 |none=>(s,3)
 |some (i,k)=>if goodRow (maskAt s i) r=false then (s,2) else ({s with tables:=setT s.tables i k r},0)
def changed (was m:Int) (old r:Row):Row:=only m (withR old r (bits .andNot .i64 m was))
def change (s:Store) (id m:Int) (r:Row):Store×Int:=
 if good s=false then (s,1) else match find s id with
 |none=>(s,3)
 |some (i,k)=>
  let row:=changed (maskAt s i) m (rowAt s i k) r
  if goodRow m row=false then (s,2) else (put (cut s i k) id m row,0)
def query (s:Store) (m:Int):List Int:=
 (s.tables.flatMap λt=>if bits .and .i64 t.mask m=m then t.ids else []).mergeSort (λa b=>decide (a<=b))
def look (l:List Entry) (id:Int):Option (Int×Row):=(l.find? λe=>e.1==id).map Prod.snd
theorem look_none {l:List Entry} {id:Int}:look l id=none↔id∉l.map (·.1):=by
 simp only [look,Option.map_eq_none_iff,List.find?_eq_none,beq_iff_eq,List.mem_map,not_exists,not_and]
theorem look_some {l:List Entry} {id m:Int} {r:Row} (hn:(l.map (·.1)).Nodup):look l id=some (m,r)↔(id,m,r)∈l:=by
 induction l with
 |nil=>simp [look]
 |cons e l ih=>
  simp only [mC,List.nodup_cons] at hn
  unfold look
  rw [List.find?_cons]
  by_cases h:e.1=id
  ·simp only [beq_iff_eq.2 h,Option.map_some,Option.some.injEq]
   constructor
   ·intro h2;rw [←h2,←h];simp
   ·intro h2
    rcases List.mem_cons.1 h2 with h3|h3
    ·rw [←h3]
    ·exact absurd (List.mem_map.2 ⟨_,h3,rfl⟩) (h▸hn.1)
  ·have hb:(e.1==id)=false:=by simpa using h
   simp only [hb]
   rw [show Option.map Prod.snd (l.find? λe=>e.1==id)=look l id from rfl,ih hn.2]
   constructor
   ·exact λh2=>List.mem_cons_of_mem _ h2
   ·intro h2
    rcases List.mem_cons.1 h2 with h3|h3
    ·exact absurd (by rw [←h3]) h
    ·exact h3
theorem look_perm {l l':List Entry} (hp:l.Perm l') (hn:(l.map (·.1)).Nodup) (id:Int):look l id=look l' id:=by
 have hn':(l'.map (·.1)).Nodup:=(hp.map _).nodup_iff.1 hn
 cases h:look l id with
 |none=>
  have:=look_none.1 h
  exact (look_none.2 (λh2=>this ((hp.map _).mem_iff.2 h2))).symm
 |some p=>
  obtain ⟨m,r⟩:=p
  exact ((look_some hn').2 (hp.mem_iff.1 ((look_some hn).1 h))).symm
theorem without_concat {α:Type} (a:List α) (x:α) (k:Nat) (h:k<=a.length):without (a++[x]) k=if k<a.length then a.set k x else a:=by
 unfold without
 simp only [List.getLast?_append,List.getLast?_singleton,Option.some_or]
 split
 ·rename_i hk
  rw [List.set_append_left _ _ hk,List.dropLast_concat]
 ·rename_i hk
  rw [List.set_append_right _ _ bO]
  have:k-a.length=0:=by omega
  rw [this];simp
theorem concat_of {α:Type} {l:List α} (h:l≠[]):∃a x,l=a++[x]:=⟨l.dropLast,l.getLast h,(List.dropLast_concat_getLast h).symm⟩
theorem without_set {α:Type} (l:List α) (k:Nat) (h:k<l.length) (r:α):without (l.set k r) k=without l k:=by
 obtain ⟨a,x,rfl⟩:=concat_of (l:=l) (by intro e;subst e;simp at h)
 simp at h
 by_cases hk:k<a.length
 ·rw [List.set_append_left _ _ hk,without_concat _ _ _ sO,without_concat _ _ _ bO,if_pos (by simpa using hk),if_pos hk,List.set_set]
 ·have e:k-a.length=0:=by omega
  rw [List.set_append_right _ _ bO,e,List.set_cons_zero,without_concat _ _ _ bO,without_concat _ _ _ bO,if_neg hk,if_neg hk]
theorem without_perm {α:Type} (l:List α) (k:Nat) (h:k<l.length):l.Perm (l[k]::without l k):=by
 obtain ⟨a,x,rfl⟩:=concat_of (l:=l) (by intro e;subst e;simp at h)
 have hw:=without_concat a x k (by simp at h;omega)
 rw [hw]
 split
 ·rename_i hk
  rw [List.getElem_append_left hk]
  refine (List.perm_append_singleton x a).trans ?_
  have h1:a=a.take k++a[k]::a.drop (k+1):=by rw [←List.drop_eq_getElem_cons hk,List.take_append_drop]
  have h2:a.set k x=a.take k++x::a.drop (k+1):=by rw [List.set_eq_take_append_cons_drop,if_pos hk]
  rw [h2]
  conv=>lhs;rw [h1]
  have p1:(x::(a.take k++a[k]::a.drop (k+1))).Perm (x::a[k]::(a.take k++a.drop (k+1))):=List.Perm.cons _ List.perm_middle
  have p2:(a[k]::(a.take k++x::a.drop (k+1))).Perm (a[k]::x::(a.take k++a.drop (k+1))):=List.Perm.cons _ List.perm_middle
  exact p1.trans ((List.Perm.swap _ _ _).trans p2.symm)
 ·rename_i hk
  have hk':k=a.length:=by simp at h;omega
  subst hk'
  rw [List.getElem_append_right lR]
  simp
theorem without_length {α:Type} (l:List α) (k:Nat):(without l k).length=l.length-1:=by
 unfold without
 split
 ·rename_i h;rw [List.getLast?_eq_none_iff] at h;subst h;rfl
 ·simp
theorem without_map {α β:Type} (f:α->β) (l:List α) (k:Nat):without (l.map f) k=(without l k).map f:=by
 unfold without
 rw [List.getLast?_map]
 cases l.getLast? with
 |none=>rfl
 |some x=>simp [List.map_set]
theorem without_zip {α β:Type} (a:List α) (b:List β) (k:Nat) (h:a.length=b.length):without (a.zip b) k=(without a k).zip (without b k):=by
 have ea:a=(a.zip b).map Prod.fst:=(List.map_fst_zip bO).symm
 have eb:b=(a.zip b).map Prod.snd:=(List.map_snd_zip bO).symm
 generalize a.zip b=z at ea eb
 subst ea;subst eb
 rw [without_map,without_map,List.zip_map_left,List.zip_map_right]
 generalize without z k=y
 induction y with
 |nil=>rfl
 |cons c y ih=>
  simp only [List.zip_cons_cons,mC,←ih]
  rfl
def Even (l:List Table):Prop:=∀t∈l,t.ids.length=t.rows.length
theorem entries_ids (t:Table) (h:t.ids.length=t.rows.length):t.entries.map (·.1)=t.ids:=by
 unfold Table.entries
 rw [List.map_map]
 exact List.map_fst_zip bO
theorem entriesT_ids (l:List Table) (h:Even l):(entriesT l).map (·.1)=idsT l:=by
 induction l with
 |nil=>rfl
 |cons t l ih=>
  have h1:=entries_ids t (h t sS)
  have h2:=ih (λx hx=>h x (List.mem_cons_of_mem _ hx))
  unfold entriesT idsT at h2⊢
  simp only [List.flatMap_cons,List.map_append,h1,h2]
theorem mem_entries {t:Table} {e:Entry}:e∈t.entries↔(e.1,e.2.2)∈t.ids.zip t.rows/\e.2.1=t.mask:=by
 obtain ⟨a,b,c⟩:=e
 unfold Table.entries
 simp only [List.mem_map,Prod.mk.injEq,Prod.exists]
 constructor
 ·rintro ⟨x,y,h,rfl,rfl,rfl⟩;exact ⟨h,rfl⟩
 ·rintro ⟨h,rfl⟩;exact ⟨_,_,h,rfl,rfl,rfl⟩
theorem entries_len (t:Table) (h:t.ids.length=t.rows.length):t.entries.length=t.ids.length:=by
 simp [Table.entries,h]
theorem findT_none (id:Int) (l:List Table):findT id l=none↔id∉idsT l:=by
 induction l with
 |nil=>simp [findT,idsT]
 |cons t l ih=>
  unfold findT
  by_cases h:id∈t.ids
  ·rw [if_pos h];simp [idsT,h]
  ·rw [if_neg h,Option.map_eq_none_iff,ih];simp [idsT,h]
theorem findT_at {id:Int} {l:List Table} {i k:Nat} (h:findT id l=some (i,k)):
  ∃t,l[i]?=some t/\t∈l/\∃hk:k<t.ids.length,t.ids[k]=id:=by
 induction l generalizing i with
 |nil=>simp [findT] at h
 |cons t l ih=>
  unfold findT at h
  by_cases hm:id∈t.ids
  ·rw [if_pos hm] at h
   simp only [Option.some.injEq,Prod.mk.injEq] at h
   obtain ⟨rfl,rfl⟩:=h
   refine ⟨t,rfl,by simp,List.idxOf_lt_length_of_mem hm,?_⟩
   exact List.getElem_idxOf (List.idxOf_lt_length_of_mem hm)
  ·rw [if_neg hm,Option.map_eq_some_iff] at h
   obtain ⟨⟨i',k'⟩,h1,h2⟩:=h
   simp only [Prod.mk.injEq] at h2
   obtain ⟨rfl,rfl⟩:=h2
   obtain ⟨t',a,b,c⟩:=ih h1
   exact ⟨t',by simpa using a,List.mem_cons_of_mem _ b,c⟩
theorem split_at {α:Type} {l:List α} {i:Nat} {t:α} (h:l[i]?=some t):l=l.take i++t::l.drop (i+1):=by
 obtain ⟨h1,h2⟩:=List.getElem?_eq_some_iff.1 h
 rw [←h2,←List.drop_eq_getElem_cons h1,List.take_append_drop]
theorem entriesT_append (a b:List Table):entriesT (a++b)=entriesT a++entriesT b:=by simp [entriesT]
theorem entriesT_cons (t:Table) (b:List Table):entriesT (t::b)=t.entries++entriesT b:=by simp [entriesT]
theorem cutT_perm {l:List Table} (he:Even l) {i k:Nat} {t:Table} (h:l[i]?=some t) (hk:k<t.ids.length) (hr:k<t.rows.length):
  (entriesT l).Perm ((t.ids[k],t.mask,t.rows[k])::entriesT (cutT l i k)):=by
 have hs:=split_at h
 have hlen:t.ids.length=t.rows.length:=he t (List.mem_of_getElem? h)
 have hin:i<l.length:=(List.getElem?_eq_some_iff.1 h).1
 unfold cutT
 rw [h]
 simp only
 have hw:t.entries.Perm ((t.ids[k],t.mask,t.rows[k])::(Table.mk t.mask (without t.ids k) (without t.rows k)).entries):=by
  unfold Table.entries
  have hz:k<(t.ids.zip t.rows).length:=by simp;omega
  have hp:=(without_perm (t.ids.zip t.rows) k hz).map (λp=>(p.1,t.mask,p.2))
  rw [mC,without_zip _ _ _ hlen] at hp
  simpa using hp
 have key:(entriesT l).Perm ((t.ids[k],t.mask,t.rows[k])::entriesT (l.take i++⟨t.mask,without t.ids k,without t.rows k⟩::l.drop (i+1))):=by
  conv=>lhs;rw [hs]
  rw [entriesT_append,entriesT_append,entriesT_cons,entriesT_cons]
  refine List.Perm.trans ?_ List.perm_middle
  exact List.Perm.append_left _ ((hw.append_right _))
 split
 ·rename_i h1
  have e0:without t.ids k=[]:=List.length_eq_zero_iff.1 (by rw [without_length];omega)
  have:entriesT (l.take i++⟨t.mask,without t.ids k,without t.rows k⟩::l.drop (i+1))=entriesT (l.eraseIdx i):=by
   rw [entriesT_append,entriesT_cons,List.eraseIdx_eq_take_drop_succ,entriesT_append]
   simp [Table.entries,e0]
  rw [←this];exact key
 ·rw [List.set_eq_take_append_cons_drop,if_pos hin];exact key
theorem putT_perm (l:List Table) (he:Even l) (id m:Int) (r:Row):(entriesT (putT id m r l)).Perm ((id,m,r)::entriesT l):=by
 induction l with
 |nil=>simp [putT,entriesT,Table.entries]
 |cons t l ih=>
  have h2:=ih (λx hx=>he x (List.mem_cons_of_mem _ hx))
  have hl:=he t sS
  unfold putT
  split
  ·rw [entriesT_cons,entriesT_cons]
   exact (List.Perm.append_left _ h2).trans List.perm_middle
  ·split
   ·rename_i hm
    rw [entriesT_cons,entriesT_cons]
    have:(Table.mk m (t.ids++[id]) (t.rows++[r])).entries=t.entries++[(id,m,r)]:=by
     unfold Table.entries
     rw [List.zip_append hl,List.map_append,hm];rfl
    rw [this,List.append_assoc]
    exact List.perm_middle
   ·rw [entriesT_cons];simp [Table.entries]
theorem putT_even (l:List Table) (he:Even l) (id m:Int) (r:Row):Even (putT id m r l):=by
 induction l with
 |nil=>intro t ht;simp [putT] at ht;subst ht;rfl
 |cons t l ih=>
  have h2:=ih (λx hx=>he x (List.mem_cons_of_mem _ hx))
  have hl:=he t sS
  unfold putT
  intro x hx
  split at hx
  ·rcases List.mem_cons.1 hx with rfl|h
   ·exact hl
   ·exact h2 x h
  ·split at hx
   ·rcases List.mem_cons.1 hx with rfl|h
    ·simp [hl]
    ·exact he x (List.mem_cons_of_mem _ h)
   ·rcases List.mem_cons.1 hx with rfl|h
    ·rfl
    ·exact he x h
theorem setT_perm {l:List Table} (he:Even l) {i k:Nat} {t:Table} (h:l[i]?=some t) (hk:k<t.ids.length) (hr:k<t.rows.length) (r:Row):
  (entriesT (setT l i k r)).Perm ((t.ids[k],t.mask,r)::entriesT (cutT l i k)):=by
 have hlen:t.ids.length=t.rows.length:=he t (List.mem_of_getElem? h)
 have hin:i<l.length:=(List.getElem?_eq_some_iff.1 h).1
 have he':Even (setT l i k r):=by
  unfold setT;rw [h];simp only
  intro x hx
  rcases List.mem_or_eq_of_mem_set hx with h1|rfl
  ·exact he x h1
  ·simp [hlen]
 have hs:(setT l i k r)[i]?=some ⟨t.mask,t.ids,t.rows.set k r⟩:=by
  unfold setT;rw [h];simp [hin]
 have hp:=cutT_perm he' hs (k:=k) (by simpa using hk) (by simpa using hr)
 have hc:entriesT (cutT (setT l i k r) i k)=entriesT (cutT l i k):=by
  unfold cutT
  rw [hs,h]
  simp only
  unfold setT;rw [h];simp only
  split
  ·rw [List.eraseIdx_set_eq]
  ·rw [List.set_set]
   have:without (t.rows.set k r) k=without t.rows k:=without_set _ _ hr _
   rw [this]
 rw [hc] at hp
 simpa using hp
def Form (l:List Table):Prop:=(∀t∈l,t.ids≠[]/\t.ids.length=t.rows.length)/\l.Pairwise (λa b=>a.mask<b.mask)
def GoodE (next:Int) (E:List Entry):Prop:=
 (∀e∈E,(0<=e.1/\e.1<next)/\goodRow e.2.1 e.2.2=true)/\(E.map (·.1)).Nodup/\E.length<=10/\0<=next/\next<=1048576
theorem Form.even {l:List Table} (h:Form l):Even l:=λt ht=>(h.1 t ht).2
theorem GoodE.perm {next:Int} {E E':List Entry} (h:GoodE next E) (hp:E.Perm E'):GoodE next E':=
 ⟨λe he=>h.1 e (hp.mem_iff.2 he),(hp.map _).nodup_iff.1 h.2.1,by rw [←hp.length_eq];exact h.2.2.1,h.2.2.2⟩
theorem entriesT_len (l:List Table) (h:Even l):(entriesT l).length=(idsT l).length:=by
 rw [←entriesT_ids l h,List.length_map]
theorem mem_entriesT {l:List Table} {e:Entry}:e∈entriesT l↔∃t∈l,e∈t.entries:=by simp [entriesT]
theorem good_split (s:Store):GoodS s↔Form s.tables/\GoodE s.next (entries s):=by
 unfold GoodS GoodE
 constructor
 ·rintro ⟨h1,h2,h3,h4,h5,h6⟩
  have he:Even s.tables:=λt ht=>(h1 t ht).2.1
  refine ⟨⟨λt ht=>⟨(h1 t ht).1,(h1 t ht).2.1⟩,h2⟩,?_,?_,?_,h5,h6⟩
  ·intro e hm
   obtain ⟨t,ht,hm⟩:=mem_entriesT.1 hm
   obtain ⟨hz,hmask⟩:=mem_entries.1 hm
   obtain ⟨_,_,a,b⟩:=h1 t ht
   refine ⟨a _ (List.of_mem_zip hz).1,?_⟩
   rw [hmask];exact b _ (List.of_mem_zip hz).2
  ·rw [entries,entriesT_ids _ he];exact h3
  ·rw [entries,entriesT_len _ he];exact h4
 ·rintro ⟨⟨f1,f2⟩,g1,g2,g3,g4,g5⟩
  have he:Even s.tables:=λt ht=>(f1 t ht).2
  rw [entries,entriesT_ids _ he] at g2
  rw [entries,entriesT_len _ he] at g3
  refine ⟨λt ht=>⟨(f1 t ht).1,(f1 t ht).2,?_,?_⟩,f2,g2,g3,g4,g5⟩
  ·intro i hi
   obtain ⟨k,hk,rfl⟩:=List.getElem_of_mem hi
   have hk2:k<t.rows.length:=by rw [←he t ht];exact hk
   refine (g1 (t.ids[k],t.mask,t.rows[k]) (mem_entriesT.2 ⟨t,ht,mem_entries.2 ⟨?_,rfl⟩⟩)).1
   have hz:k<(t.ids.zip t.rows).length:=by simp;omega
   have:=List.getElem_mem hz
   rwa [List.getElem_zip] at this
  ·intro r hr
   obtain ⟨k,hk,rfl⟩:=List.getElem_of_mem hr
   have hk2:k<t.ids.length:=by rw [he t ht];exact hk
   refine (g1 (t.ids[k],t.mask,t.rows[k]) (mem_entriesT.2 ⟨t,ht,mem_entries.2 ⟨?_,rfl⟩⟩)).2
   have hz:k<(t.ids.zip t.rows).length:=by simp;omega
   have:=List.getElem_mem hz
   rwa [List.getElem_zip] at this
theorem putT_mask_mem {l:List Table} {id m:Int} {r:Row} {t:Table} (h:t∈putT id m r l):t.mask=m\/∃u∈l,u.mask=t.mask:=by
 induction l with
 |nil=>simp [putT] at h;subst h;exact .inl rfl
 |cons a l ih=>
  unfold putT at h
  split at h
  ·rcases List.mem_cons.1 h with rfl|h
   ·exact .inr ⟨_,by simp,rfl⟩
   ·rcases ih h with h|⟨u,hu,e⟩
    ·exact .inl h
    ·exact .inr ⟨u,List.mem_cons_of_mem _ hu,e⟩
  ·split at h
   ·rcases List.mem_cons.1 h with rfl|h
    ·exact .inl rfl
    ·exact .inr ⟨_,List.mem_cons_of_mem _ h,rfl⟩
   ·rcases List.mem_cons.1 h with rfl|h
    ·exact .inl rfl
    ·exact .inr ⟨_,h,rfl⟩
theorem putT_form {l:List Table} (h:Form l) (id m:Int) (r:Row):Form (putT id m r l):=by
 refine ⟨λt ht=>⟨?_,putT_even l h.even id m r t ht⟩,?_⟩
 ·have h1:=h.1
  clear h
  induction l with
  |nil=>simp [putT] at ht;subst ht;simp
  |cons a l ih=>
   have h2:=λx hx=>h1 x (List.mem_cons_of_mem _ hx)
   unfold putT at ht
   split at ht
   ·rcases List.mem_cons.1 ht with rfl|ht
    ·exact (h1 _ sS).1
    ·exact ih ht h2
   ·split at ht
    ·rcases List.mem_cons.1 ht with rfl|ht
     ·simp
     ·exact (h2 _ ht).1
    ·rcases List.mem_cons.1 ht with rfl|ht
     ·simp
     ·exact (h1 _ ht).1
 ·have h1:=h.2
  clear h
  induction l with
  |nil=>simp [putT]
  |cons a l ih=>
   obtain ⟨p1,p2⟩:=List.pairwise_cons.1 h1
   unfold putT
   split
   ·rename_i hlt
    refine List.pairwise_cons.2 ⟨λt ht=>?_,ih p2⟩
    rcases putT_mask_mem ht with e|⟨u,hu,e⟩
    ·rw [e];exact hlt
    ·rw [←e];exact p1 u hu
   ·split
    ·rename_i hlt e
     refine List.pairwise_cons.2 ⟨λt ht=>?_,p2⟩
     have:=p1 t ht
     simp only;omega
    ·rename_i hlt e
     refine List.pairwise_cons.2 ⟨λt ht=>?_,h1⟩
     simp only
     rcases List.mem_cons.1 ht with rfl|ht
     ·omega
     ·have:=p1 t ht;omega
theorem set_mask_pairwise {l:List Table} (h:l.Pairwise (λa b=>a.mask<b.mask)) {i:Nat} {t u:Table} (hi:l[i]?=some t) (e:u.mask=t.mask):
  (l.set i u).Pairwise (λa b=>a.mask<b.mask):=by
 rw [←List.pairwise_map (f:=Table.mask) (R:=(· < ·))] at h⊢
 have:(l.set i u).map Table.mask=l.map Table.mask:=by
  rw [List.map_set,e]
  apply List.ext_getElem?
  intro j
  rw [List.getElem?_set]
  split
  ·rename_i e2;subst e2
   split
   ·rw [List.getElem?_map,hi];rfl
   ·rename_i e2;simp at e2;rw [List.getElem?_eq_none (by simpa using e2)]
  ·rfl
 rw [this];exact h
theorem setT_form {l:List Table} (h:Form l) (i k:Nat) (r:Row):Form (setT l i k r):=by
 unfold setT
 split
 ·exact h
 ·rename_i t hi
  refine ⟨λx hx=>?_,set_mask_pairwise h.2 hi rfl⟩
  rcases List.mem_or_eq_of_mem_set hx with h1|rfl
  ·exact h.1 x h1
  ·have:=h.1 t (List.mem_of_getElem? hi)
   exact ⟨this.1,by simpa using this.2⟩
theorem cutT_form {l:List Table} (h:Form l) (i k:Nat):Form (cutT l i k):=by
 unfold cutT
 split
 ·exact h
 ·rename_i t hi
  split
  ·exact ⟨λx hx=>h.1 x (List.mem_of_mem_eraseIdx hx),h.2.sublist (List.eraseIdx_sublist _ _)⟩
  ·rename_i h1
   refine ⟨λx hx=>?_,set_mask_pairwise h.2 hi rfl⟩
   rcases List.mem_or_eq_of_mem_set hx with h2|rfl
   ·exact h.1 x h2
   ·have:=h.1 t (List.mem_of_getElem? hi)
    refine ⟨?_,by rw [without_length,without_length,this.2]⟩
    intro e
    have e2:=without_length t.ids k
    have e':without t.ids k=[]:=e
    rw [e'] at e2
    have:t.ids.length≠0:=λe3=>this.1 (List.length_eq_zero_iff.1 e3)
    simp at e2;omega
def asGot:Option (Int×Row)->Int×Row×Bool
 |none=>(0,row0,false)
 |some (m,r)=>(m,r,true)
theorem find_some {s:Store} (h:Form s.tables) (hn:((entries s).map (·.1)).Nodup) {id:Int} {i k:Nat} (hf:find s id=some (i,k)):
  ∃t r,s.tables[i]?=some t/\t.ids[k]?=some id/\t.rows[k]?=some r/\look (entries s) id=some (t.mask,r)/\
   (entries s).Perm ((id,t.mask,r)::entries (cut s i k)):=by
 obtain ⟨t,h1,h2,hk,h3⟩:=findT_at hf
 have hl:=h.even t h2
 have hk2:k<t.rows.length:=by omega
 have hp:=cutT_perm h.even h1 hk hk2
 rw [h3] at hp
 refine ⟨t,t.rows[k],h1,by rw [List.getElem?_eq_getElem hk,h3],List.getElem?_eq_getElem hk2,?_,hp⟩
 exact (look_some hn).2 (hp.mem_iff.2 sS)
theorem find_none {s:Store} (h:Form s.tables) {id:Int}:find s id=none↔look (entries s) id=none:=by
 rw [look_none,entries,entriesT_ids _ h.even]
 exact findT_none _ _
theorem get_look {s:Store} (h:Form s.tables) (hn:((entries s).map (·.1)).Nodup) (id:Int):get s id=asGot (look (entries s) id):=by
 unfold get
 cases hf:find s id with
 |none=>rw [(find_none h).1 hf];rfl
 |some p=>
  obtain ⟨i,k⟩:=p
  obtain ⟨t,r,h1,h2,h3,h4,h5⟩:=find_some h hn hf
  rw [h4]
  obtain ⟨h6,h7⟩:=List.getElem?_eq_some_iff.1 h3
  simp only [h1,h6,dif_pos,h7]
  rfl
theorem size_len {s:Store} (h:Form s.tables):size s=(entries s).length:=(entriesT_len _ h.even).symm
theorem look_cons (e:Entry) (l:List Entry) (id:Int):look (e::l) id=if e.1=id then some (e.2.1,e.2.2) else look l id:=by
 unfold look
 rw [List.find?_cons]
 by_cases h:e.1=id
 ·simp [h]
 ·have hb:(e.1==id)=false:=by simpa using h
  rw [if_neg h];simp [hb]
theorem spawn_ok {s:Store} {m:Int} {r:Row} (h:(spawn s m r).2.2=0):
  GoodS s/\goodRow m r=true/\size s<10/\s.next<1048576/\(spawn s m r).2.1=s.next/\(spawn s m r).1=put {s with next:=s.next+1} s.next m r:=by
 unfold spawn at h⊢
 split at h
 ·simp at h
 ·rename_i h1
  split at h
  ·simp at h
  ·rename_i h2
   split at h
   ·simp at h
   ·rename_i h3
    rw [if_neg h1,if_neg h2,if_neg h3]
    exact ⟨(good_iff s).1 (by simpa using h1),by simpa using h2,by omega,by omega,rfl,rfl⟩
theorem put_good {s:Store} {id m:Int} {r:Row} {E:List Entry} (hf:Form s.tables) (hp:(entries s).Perm E) (hg:GoodE s.next ((id,m,r)::E)):
  GoodS (put s id m r)/\(entries (put s id m r)).Perm ((id,m,r)::E):=by
 have h1:=putT_perm s.tables hf.even id m r
 have h2:(entries (put s id m r)).Perm ((id,m,r)::E):=h1.trans (List.Perm.cons _ hp)
 exact ⟨(good_split _).2 ⟨putT_form hf id m r,hg.perm h2.symm⟩,h2⟩
theorem spawn_good {s:Store} {m:Int} {r:Row} (h:(spawn s m r).2.2=0):
  GoodS (spawn s m r).1/\(entries (spawn s m r).1).Perm ((s.next,m,r)::entries s)/\s.next∉(entries s).map (·.1):=by
 obtain ⟨g,hr,hs,hn,_,e⟩:=spawn_ok h
 obtain ⟨hf,g1,g2,g3,g4,g5⟩:=(good_split s).1 g
 have hfresh:s.next∉(entries s).map (·.1):=by
  intro hm
  obtain ⟨x,hx,e⟩:=List.mem_map.1 hm
  have:=(g1 x hx).1
  omega
 rw [e]
 have:=put_good (s:={s with next:=s.next+1}) (id:=s.next) (m:=m) (r:=r) (E:=entries s) hf (List.Perm.refl _) (by
  refine ⟨?_,?_,?_,by simp only;omega,by simp only;omega⟩
  ·intro x hx
   rcases List.mem_cons.1 hx with rfl|hx
   ·exact ⟨by simp only;omega,hr⟩
   ·have:=g1 x hx
    exact ⟨by simp only;omega,this.2⟩
  ·simp only [mC,List.nodup_cons]
   exact ⟨hfresh,g2⟩
  ·rw [size_len hf] at hs;simp only [List.length_cons];omega)
 exact ⟨this.1,this.2,hfresh⟩
theorem kill_ok {s:Store} {id:Int} (h:(kill s id).2=0):∃m r E,GoodS s/\GoodS (kill s id).1/\(kill s id).1.next=s.next/\
  (entries s).Perm ((id,m,r)::E)/\(entries (kill s id).1).Perm E/\look (entries s) id=some (m,r):=by
 unfold kill at h⊢
 split at h
 ·simp at h
 ·rename_i h1
  have g:=(good_iff s).1 (by simpa using h1)
  obtain ⟨hf,g1,g2,g3,g4,g5⟩:=(good_split s).1 g
  rw [if_neg h1]
  split at h
  ·simp at h
  ·rename_i i k hfd
   obtain ⟨t,r,a1,a2,a3,a4,a5⟩:=find_some hf g2 hfd
   refine ⟨t.mask,r,entries (cut s i k),g,?_,rfl,a5,List.Perm.refl _,a4⟩
   have hg:GoodE s.next ((id,t.mask,r)::entries (cut s i k)):=GoodE.perm ⟨g1,g2,g3,g4,g5⟩ a5
   obtain ⟨b1,b2,b3,b4⟩:=hg
   simp only [mC,List.nodup_cons,List.length_cons] at b2 b3
   exact (good_split _).2 ⟨cutT_form hf i k,λe he=>b1 e (List.mem_cons_of_mem _ he),b2.2,by show (entries (cut s i k)).length<=10;omega,b4⟩
theorem GoodE.swap {next:Int} {id m m':Int} {r r':Row} {E:List Entry} (h:GoodE next ((id,m,r)::E)) (hr:goodRow m' r'=true):GoodE next ((id,m',r')::E):=by
 obtain ⟨b1,b2,b3,b4⟩:=h
 refine ⟨λe he=>?_,b2,b3,b4⟩
 rcases List.mem_cons.1 he with rfl|he
 ·exact ⟨(b1 (id,m,r) sS).1,hr⟩
 ·exact b1 e (List.mem_cons_of_mem _ he)
theorem set_ok {s:Store} {id:Int} {r:Row} (h:(set s id r).2=0):∃m q E,GoodS s/\GoodS (set s id r).1/\(set s id r).1.next=s.next/\goodRow m r=true/\
  (entries s).Perm ((id,m,q)::E)/\(entries (set s id r).1).Perm ((id,m,r)::E)/\look (entries s) id=some (m,q):=by
 unfold set at h⊢
 split at h
 ·simp at h
 ·rename_i h1
  have g:=(good_iff s).1 (by simpa using h1)
  obtain ⟨hf,g1,g2,g3,g4,g5⟩:=(good_split s).1 g
  rw [if_neg h1]
  split at h
  ·simp at h
  ·rename_i i k hfd
   obtain ⟨t,q,a1,a2,a3,a4,a5⟩:=find_some hf g2 hfd
   have hm:maskAt s i=t.mask:=by unfold maskAt;rw [a1]
   simp only [hm] at h⊢
   split at h
   ·simp at h
   ·rename_i h2
    rw [if_neg h2]
    have hg:GoodE s.next ((id,t.mask,q)::entries (cut s i k)):=GoodE.perm ⟨g1,g2,g3,g4,g5⟩ a5
    have hr:goodRow t.mask r=true:=by simpa using h2
    obtain ⟨k1,k2⟩:=List.getElem?_eq_some_iff.1 a2
    obtain ⟨k3,k4⟩:=List.getElem?_eq_some_iff.1 a3
    have hp:=setT_perm hf.even a1 k1 k3 r
    rw [k2] at hp
    refine ⟨t.mask,q,entries (cut s i k),g,?_,rfl,hr,a5,hp,a4⟩
    exact (good_split _).2 ⟨setT_form hf i k r,(hg.swap hr).perm hp.symm⟩
theorem change_ok {s:Store} {id m':Int} {r:Row} (h:(change s id m' r).2=0):∃m q E,GoodS s/\GoodS (change s id m' r).1/\(change s id m' r).1.next=s.next/\
  goodRow m' (changed m m' q r)=true/\
  (entries s).Perm ((id,m,q)::E)/\(entries (change s id m' r).1).Perm ((id,m',changed m m' q r)::E)/\look (entries s) id=some (m,q):=by
 unfold change at h⊢
 split at h
 ·simp at h
 ·rename_i h1
  have g:=(good_iff s).1 (by simpa using h1)
  obtain ⟨hf,g1,g2,g3,g4,g5⟩:=(good_split s).1 g
  rw [if_neg h1]
  split at h
  ·simp at h
  ·rename_i i k hfd
   obtain ⟨t,q,a1,a2,a3,a4,a5⟩:=find_some hf g2 hfd
   have hm:maskAt s i=t.mask:=by unfold maskAt;rw [a1]
   have hq:rowAt s i k=q:=by unfold rowAt;rw [a1];simp [a3]
   simp only [hm,hq] at h⊢
   split at h
   ·simp at h
   ·rename_i h2
    rw [if_neg h2]
    have hg:GoodE s.next ((id,t.mask,q)::entries (cut s i k)):=GoodE.perm ⟨g1,g2,g3,g4,g5⟩ a5
    have hr:goodRow m' (changed t.mask m' q r)=true:=by simpa using h2
    have hpg:=put_good (s:=cut s i k) (id:=id) (m:=m') (r:=changed t.mask m' q r) (cutT_form hf i k) (List.Perm.refl _) (hg.swap hr)
    exact ⟨t.mask,q,entries (cut s i k),g,hpg.1,rfl,hr,a5,hpg.2,a4⟩
structure Box where
 id:Int
 x1:Int
 y1:Int
 x2:Int
 y2:Int
deriving DecidableEq
def meetB (a b:Box):Bool:=decide (a.x1<b.x2) && (decide (b.x1<a.x2) && (decide (a.y1<b.y2) && decide (b.y1<a.y2)))
theorem meetB_comm (a b:Box):meetB a b=meetB b a:=by
 unfold meetB
 rw [Bool.eq_iff_iff]
 simp only [Bool.and_eq_true,decide_eq_true_eq]
 omega
def GoodB (l:List Box):Prop:=(∀b∈l,b.x1<b.x2/\b.y1<b.y2)/\(l.map (·.id)).Nodup
instance (l:List Box):Decidable (GoodB l):=by unfold GoodB;exact inferInstance
def goodB (l:List Box):Bool:=decide (GoodB l)
abbrev Pr:=Int×Int
def pairOf (a b:Int):Pr:=(min a b,max a b)
theorem pairOf_comm (a b:Int):pairOf a b=pairOf b a:=by unfold pairOf;rw [Int.min_comm,Int.max_comm]
def meets1 (seen:List Box) (b:Box):List Pr:=(seen.filter λa=>meetB a b).map λa=>pairOf a.id b.id
def stepP (s:List Box×List Pr) (b:Box):List Box×List Pr:=(s.1++[b],s.2++meets1 s.1 b)
def allP (l:List Box):List Pr:=(l.foldl stepP ([],[])).2
theorem fold_seen (l:List Box) (s:List Box×List Pr):(l.foldl stepP s).1=s.1++l:=by
 induction l generalizing s with
 |nil=>simp
 |cons a l ih=>rw [List.foldl_cons,ih];simp [stepP]
theorem allP_snoc (l:List Box) (b:Box):allP (l++[b])=allP l++meets1 l b:=by
 unfold allP
 rw [List.foldl_append,List.foldl_cons,List.foldl_nil]
 show (l.foldl stepP ([],[])).2++meets1 (l.foldl stepP ([],[])).1 b=_
 rw [fold_seen];rfl
theorem snocInd {α:Type} {motive:List α->Prop} (l:List α) (nil:motive []) (snoc:∀l a,motive l->motive (l++[a])):motive l:=by
 have h:∀l:List α,motive l.reverse:=by
  intro l
  induction l with
  |nil=>exact nil
  |cons a l ih=>rw [List.reverse_cons];exact snoc _ _ ih
 rw [←List.reverse_reverse l];exact h _
theorem allP_nil:allP []=[]:=rfl
theorem allP_cons (a:Box) (l:List Box):(allP (a::l)).Perm (((l.filter λb=>meetB a b).map λb=>pairOf a.id b.id)++allP l):=by
 induction l using snocInd with
 |nil=>exact List.Perm.refl _
 |snoc l b ih=>
  rw [←List.cons_append,allP_snoc,allP_snoc,List.filter_append,List.map_append]
  have h1:meets1 (a::l) b=((if meetB a b then [pairOf a.id b.id] else [])++meets1 l b):=by
   unfold meets1
   rw [List.filter_cons]
   split<;>rfl
  have h2:(([b].filter λb=>meetB a b).map λb=>pairOf a.id b.id)=(if meetB a b then [pairOf a.id b.id] else []):=by
   rw [List.filter_cons]
   split<;>rfl
  rw [h1,h2]
  generalize (if meetB a b then [pairOf a.id b.id] else [])=z
  refine (ih.append_right _).trans ?_
  rw [List.append_assoc,List.append_assoc]
  refine List.Perm.append_left _ ?_
  rw [←List.append_assoc,←List.append_assoc]
  exact List.Perm.append_right _ List.perm_append_comm
theorem allP_perm {l l':List Box} (h:l.Perm l'):(allP l).Perm (allP l'):=by
 induction h with
 |nil=>exact List.Perm.refl _
 |cons a h ih=>exact (allP_cons a _).trans ((((h.filter _).map _).append ih).trans (allP_cons a _).symm)
 |swap a b l=>
  have e:∀a b:Box,(allP (a::b::l)).Perm ((if meetB a b then [pairOf a.id b.id] else [])++(((l.filter λc=>meetB a c).map λc=>pairOf a.id c.id)++(((l.filter λc=>meetB b c).map λc=>pairOf b.id c.id)++allP l))):=by
   intro a b
   refine (allP_cons a _).trans ?_
   rw [List.filter_cons]
   split
   ·rw [mC,List.singleton_append,List.cons_append]
    exact List.Perm.cons _ (List.Perm.append_left _ (allP_cons b l))
   ·rw [List.nil_append]
    exact List.Perm.append_left _ (allP_cons b l)
  refine (e b a).trans (List.Perm.trans ?_ (e a b).symm)
  rw [meetB_comm b a,pairOf_comm b.id a.id]
  refine List.Perm.append_left _ ?_
  rw [←List.append_assoc,←List.append_assoc]
  exact List.Perm.append_right _ List.perm_append_comm
 |trans _ _ h1 h2=>exact h1.trans h2
def leP (p q:Pr):Bool:=decide (p.1<q.1)||(decide (p.1=q.1) && decide (p.2<=q.2))
theorem leP_iff {p q:Pr}:leP p q=true↔p.1<q.1\/(p.1=q.1/\p.2<=q.2):=by simp [leP]
theorem leP_trans (a b c:Pr):leP a b=true->leP b c=true->leP a c=true:=by
 simp only [leP_iff];omega
theorem leP_total (a b:Pr):(leP a b||leP b a)=true:=by
 simp only [Bool.or_eq_true,leP_iff];omega
theorem leP_anti {a b:Pr} (h1:leP a b=true) (h2:leP b a=true):a=b:=by
 rw [leP_iff] at h1 h2
 exact Prod.ext bO bO
def sortP (l:List Pr):List Pr:=l.mergeSort leP
theorem sorted_eq {l l':List Pr} (h:l.Perm l') (s:l.Pairwise (λa b=>leP a b=true)) (s':l'.Pairwise (λa b=>leP a b=true)):l=l':=
 List.Perm.eq_of_pairwise (le:=λa b=>leP a b=true) (λa b _ _=>leP_anti) s s' h
theorem sortP_perm {l l':List Pr} (h:l.Perm l'):sortP l=sortP l':=
 sorted_eq (((List.mergeSort_perm _ _).trans h).trans (List.mergeSort_perm _ _).symm) (List.pairwise_mergeSort leP_trans leP_total _) (List.pairwise_mergeSort leP_trans leP_total _)
theorem sortP_of {l l':List Pr} (h:l'.Perm l) (s:l'.Pairwise (λa b=>leP a b=true)):l'=sortP l:=
 sorted_eq (h.trans (List.mergeSort_perm _ _).symm) s (List.pairwise_mergeSort leP_trans leP_total _)
def pairs (l:List Box):List Pr:=if goodB l then sortP (allP l) else []
def lookB (l:List Box) (b:Box):List Int:=if goodB l then ((l.filter λa=>meetB a b).map (·.id)).mergeSort (λa b=>decide (a<=b)) else []
theorem meets1_open {seen op:List Box} {b:Box} (h:op.filter (λa=>meetB a b)=seen.filter (λa=>meetB a b)):meets1 op b=meets1 seen b:=by
 unfold meets1;rw [h]
theorem open_step (seen:List Box) (e:Int) (b:Box) (h:e<=b.x1):
  ((seen.filter λa=>decide (e<a.x2)).filter λa=> !decide (a.x2<=b.x1))=seen.filter λa=>decide (b.x1<a.x2):=by
 rw [List.filter_filter]
 apply List.filter_congr
 intro a _
 rw [Bool.eq_iff_iff]
 simp only [Bool.and_eq_true,Bool.not_eq_true',decide_eq_false_iff_not,decide_eq_true_eq]
 omega
theorem open_meets (seen:List Box) (b:Box):(seen.filter λa=>decide (b.x1<a.x2)).filter (λa=>meetB a b)=seen.filter λa=>meetB a b:=by
 rw [List.filter_filter]
 apply List.filter_congr
 intro a _
 unfold meetB
 rw [Bool.eq_iff_iff]
 simp only [Bool.and_eq_true,decide_eq_true_eq]
 omega
theorem goodB_perm {l l':List Box} (h:l.Perm l'):goodB l=goodB l':=by
 unfold goodB
 rw [decide_eq_decide]
 unfold GoodB
 exact and_congr ⟨λg b hb=>g b (h.mem_iff.2 hb),λg b hb=>g b (h.mem_iff.1 hb)⟩ (h.map _).nodup_iff
theorem mem_allP {l:List Box} {p:Pr}:p∈allP l↔∃i j:Nat,j<i/\∃a b,l[j]?=some a/\l[i]?=some b/\meetB a b=true/\p=pairOf a.id b.id:=by
 induction l using snocInd with
 |nil=>simp [allP_nil]
 |snoc l c ih=>
  rw [allP_snoc,List.mem_append,ih]
  constructor
  ·rintro (⟨i,j,hji,a,b,ha,hb,hm,hp⟩|h)
   ·refine ⟨i,j,hji,a,b,?_,?_,hm,hp⟩
    ·rw [List.getElem?_append_left (List.getElem?_eq_some_iff.1 ha).1];exact ha
    ·rw [List.getElem?_append_left (List.getElem?_eq_some_iff.1 hb).1];exact hb
   ·unfold meets1 at h
    obtain ⟨a,ha,rfl⟩:=List.mem_map.1 h
    obtain ⟨h1,h2⟩:=List.mem_filter.1 ha
    obtain ⟨j,hj,rfl⟩:=List.getElem_of_mem h1
    refine ⟨l.length,j,hj,l[j],c,?_,by simp,h2,rfl⟩
    rw [List.getElem?_append_left hj,List.getElem?_eq_getElem hj]
  ·rintro ⟨i,j,hji,a,b,ha,hb,hm,hp⟩
   have hi:=(List.getElem?_eq_some_iff.1 hb).1
   simp at hi
   have hj:j<l.length:=by omega
   rw [List.getElem?_append_left hj] at ha
   by_cases hil:i<l.length
   ·rw [List.getElem?_append_left hil] at hb
    exact .inl ⟨i,j,hji,a,b,ha,hb,hm,hp⟩
   ·have e:i=l.length:=by omega
    subst e
    rw [List.getElem?_append_right lR] at hb
    simp at hb
    subst hb
    refine .inr ?_
    unfold meets1
    exact List.mem_map.2 ⟨a,List.mem_filter.2 ⟨List.mem_of_getElem? ha,hm⟩,hp.symm⟩
end Go.Proofs.YtemkbjaojinaoaaGreat.M
namespace Go.Proofs.YtemkbjaojinaoaaGreat.M
def abs (x:Int):Int:=if x<0 then -x else x
def number (r:Row):Bool:=decide ((-1048576<=r.X/\r.X<=1048576)/\(-1048576<=r.Y/\r.Y<=1048576)/\(-16777216<=r.PX/\r.PX<=16777216)/\(-16777216<=r.PY/\r.PY<=16777216))
def body (r:Row):Bool:=
 number r && decide (1<=r.W/\r.W<=4096/\1<=r.H/\r.H<=4096/\0<=r.M/\r.M<=9/\0<=r.R/\r.R<=256/\(0<r.M\/r.PX=0/\r.PY=0))
def depth (wa wb xa xb:Int):Int:=wa+wb-abs (xa-xb)
theorem eq_within (n most:Int) (h:0<=most):n=within n most↔-most<=n/\n<=most:=by
 have:=within_bd n most h
 constructor
 ·intro e;omega
 ·intro e;rw [within_id n most e.1 e.2]
theorem number_eq (r:Row):number r=(decide (r.X=within r.X 1048576) && (decide (r.Y=within r.Y 1048576) && (decide (r.PX=within r.PX 16777216) && decide (r.PY=within r.PY 16777216)))):=by
 rw [Bool.eq_iff_iff]
 simp only [number,decide_eq_true_eq,Bool.and_eq_true,eq_within _ _ (show (0:Int)<=1048576 by omega),eq_within _ _ (show (0:Int)<=16777216 by omega)]
def mOf (aM bM:Int):Int:=if aM=0 then bM else if bM=0 then aM else aM*bM
def nOf (aM bM:Int):Int:=if aM=0 then 1 else if bM=0 then 1 else aM+bM
def least (a b:Int):Int:=if b<a then b else a
def jOf (near way aM bM aR bR:Int):Int:=part (near*mOf aM bM) (256+least aR bR) (nOf aM bM*256)*way
def halfOf (depth aM bM:Int):Int:=if bM=0 then depth else if aM=0 then 0 else depth / 2
def wayOf (a b:Int):Int:=if b<a then -1 else 1
def pa (p way depth aM bM:Int):Int:=if 0<aM then add p (-halfOf depth aM bM*way) 1048576 else p
def pb (p way depth aM bM:Int):Int:=if 0<bM then add p ((depth-halfOf depth aM bM)*way) 1048576 else p
def qa (q near way aM bM aR bR:Int):Int:=if 0<near/\0<aM then add q (-jOf near way aM bM aR bR) 16777216 else q
def qb (q near way aM bM aR bR:Int):Int:=if 0<near/\0<bM then add q (jOf near way aM bM aR bR) 16777216 else q
def meetX (a b:Row):Row×Row:=
 let way:=wayOf a.X b.X
 let dx:=depth a.W b.W a.X b.X
 let near:=(part a.PX 1 a.M-part b.PX 1 b.M)*way
 ({a with X:=pa a.X way dx a.M b.M,PX:=qa a.PX near way a.M b.M a.R b.R},{b with X:=pb b.X way dx a.M b.M,PX:=qb b.PX near way a.M b.M a.R b.R})
def meetY (a b:Row):Row×Row:=
 let way:=wayOf a.Y b.Y
 let dy:=depth a.H b.H a.Y b.Y
 let near:=(part a.PY 1 a.M-part b.PY 1 b.M)*way
 ({a with Y:=pa a.Y way dy a.M b.M,PY:=qa a.PY near way a.M b.M a.R b.R},{b with Y:=pb b.Y way dy a.M b.M,PY:=qb b.PY near way a.M b.M a.R b.R})
def meetR (a b:Row):Row×Row:=if depth a.W b.W a.X b.X<depth a.H b.H a.Y b.Y then meetX a b else meetY a b
def meets (a b:Row):Bool:=body a && body b && decide (1<=depth a.W b.W a.X b.X) && decide (1<=depth a.H b.H a.Y b.Y)
def meet (a b:Row):Row×Row:=
 if meets a b=false then (a,b)
 else if a.M=0/\b.M=0 then (a,b)
 else meetR a b
theorem mOf_bd (a b:Int) (ha:0<=a/\a<=9) (hb:0<=b/\b<=9):0<=mOf a b/\mOf a b<=81:=by
 have h:=Int.mul_nonneg ha.1 hb.1
 have h':=mul_bd a b 9 9 bO bO bO bO
 unfold mOf
 (repeat' split)<;>omega
theorem nOf_bd (a b:Int) (ha:0<=a/\a<=9) (hb:0<=b/\b<=9):0<=nOf a b/\nOf a b<=18:=by
 unfold nOf
 (repeat' split)<;>omega
end Go.Proofs.YtemkbjaojinaoaaGreat.M
namespace Go.Proofs.YtemkbjaojinaoaaGreat
namespace M
def far (half wide:Int):Int:=if wide-half<half then half else wide-half
def wallA (at_ half wide:Int):Int:=if at_<half then half else if far half wide<at_ then far half wide else at_
def wallP (at_ push half wide back:Int):Int:=
 if at_<half then part (abs push) (within back 256) 256 else if far half wide<at_ then -part (abs push) (within back 256) 256 else push
end M
end Go.Proofs.YtemkbjaojinaoaaGreat
namespace Go.Proofs.YtemkbjaojinaoaaGreat.M
open Go.RowKit
structure Wd where
 things:Store
 fall:Int
 wide:Int
 high:Int
deriving DecidableEq
def goodW (w:Wd):Bool:=good w.things && decide ((-64<=w.fall/\w.fall<=64)/\(1<=w.wide/\w.wide<=1048576)/\(1<=w.high/\w.high<=1048576))
def moves (m:Int):Bool:=bits .and .i64 m 11==11
def boxOf (id:Int) (r:Row):Box:=⟨id,r.X-r.W,r.Y-r.H,r.X+r.W,r.Y+r.H⟩
def boxes (s:Store):List Box:=(query s 5).map λid=>boxOf id (get s id).2.1
def goneRow (fall m:Int) (r:Row):Row:=
 let py:=if bit m 16 then add r.PY (fall*r.M) 16777216 else r.PY
 {r with X:=add r.X (part r.PX 1 r.M) 1048576,Y:=add r.Y (part py 1 r.M) 1048576,PY:=py}
def goOn (fall:Int) (s:Store) (id:Int):Store:=(set s id (goneRow fall (get s id).1 (get s id).2.1)).1
def freeRow (m:Int) (r:Row):Row:=if moves m then r else {r with PX:=0,PY:=0,M:=0}
def backTo (s:Store) (id m:Int) (r:Row):Store:=if moves m then (set s id r).1 else s
def meetStep (s:Store×List Pr) (p:Pr):Store×List Pr:=
 let a:=get s.1 p.1
 let b:=get s.1 p.2
 let fa:=freeRow a.1 a.2.1
 let fb:=freeRow b.1 b.2.1
 if meets fa fb then (backTo (backTo s.1 p.1 a.1 (meet fa fb).1) p.2 b.1 (meet fa fb).2,s.2++[p]) else s
def walledRow (wide high:Int) (r:Row):Row:=
 {r with X:=wallA r.X r.W wide,PX:=wallP r.X r.PX r.W wide r.R,Y:=wallA r.Y r.H high,PY:=wallP r.Y r.PY r.H high r.R}
def walled (wide high:Int) (s:Store) (id:Int):Store:=(set s id (walledRow wide high (get s id).2.1)).1
def gone (w:Wd):Store:=(query w.things 11).foldl (goOn w.fall) w.things
def met (w:Wd):Store×List Pr:=(pairs (boxes (gone w))).foldl meetStep (gone w,[])
def ends (w:Wd):Store:=(query (met w).1 11).foldl (walled w.wide w.high) (met w).1
def step (w:Wd):Wd×List Pr×Int:=if goodW w then ({w with things:=ends w},(met w).2,0) else (w,[],1)
structure Act where
 kind:Int
 id:Int
 n:Int
 mask:Int
 row:Row
 box:Box
deriving DecidableEq
structure Reply where
 code:Int
 n:Int
 ids:List Int
 met:List Pr
deriving DecidableEq
structure Game where
 w:Wd
 saves:List Wd
 acts:Int
deriving DecidableEq
def no (e:Int):Reply:=⟨e,0,[],[]⟩
def one (m:Int):Bool:=decide (0<m) && (decide (m<=31) && (bits .and .i64 m (wrap64 (m-1))==0))
def stepN:Nat->Wd×List Pr->Wd×List Pr
 |0,s=>s
 |k+1,s=>stepN k ((step s.1).1,s.2++(step s.1).2.1)
def withThings (g:Game) (s:Store):Game:={g with w:={g.w with things:=s}}
def doAct (g0:Game) (a:Act):Game×Reply:=
 if 150<=g0.acts then (g0,no 5) else
 let g:={g0 with acts:=g0.acts+1}
 let s:=g.w.things
 if a.kind=1 then (withThings g (spawn s a.mask a.row).1,⟨(spawn s a.mask a.row).2.2,(spawn s a.mask a.row).2.1,[],[]⟩)
 else if a.kind=2 then (withThings g (kill s a.id).1,no (kill s a.id).2)
 else if a.kind=3\/a.kind=4 then
  let t:=get s a.id
  if t.2.2=false then (g,no 3)
  else if (one a.mask && ((bits .and .i64 t.1 a.mask !=0)==(a.kind==4)))=false then (g,no 1)
  else (withThings g (change s a.id (bits .xor .i64 t.1 a.mask) a.row).1,no (change s a.id (bits .xor .i64 t.1 a.mask) a.row).2)
 else if a.kind=5 then
  let t:=get s a.id
  if t.2.2=false then (g,no 3)
  else if bit t.1 2=false then (g,no 1)
  else
   let r:={t.2.1 with PX:=add t.2.1.PX a.row.PX 16777216,PY:=add t.2.1.PY a.row.PY 16777216}
   (withThings g (set s a.id r).1,no (set s a.id r).2)
 else if a.kind=6 then
  if a.n<1\/8<a.n then (g,no 2)
  else ({g with w:=(stepN a.n.toNat (g.w,[])).1},⟨0,(stepN a.n.toNat (g.w,[])).2.length,[],(stepN a.n.toNat (g.w,[])).2⟩)
 else if a.kind=7 then
  if 3<=g.saves.length then (g,no 5) else ({g with saves:=g.saves++[g.w]},⟨0,g.saves.length,[],[]⟩)
 else if a.kind=8 then
  if a.n<0\/g.saves.length<=a.n then (g,no 3) else ({g with w:=g.saves.getD a.n.toNat g.w},no 0)
 else if a.kind=9 then (g,⟨0,0,lookB (boxes s) a.box,[]⟩)
 else (g,no 4)
def row14 (x:Int):Row:=⟨x,500,14,0,0,0,2,0⟩
def st14 (x:Int):Store:=⟨[⟨11,[0],[row14 x]⟩],1⟩
def wd14 (x:Int):Wd:=⟨st14 x,0,1000,1000⟩
theorem spawn14:spawn ⟨[],0⟩ 11 (row14 500)=(st14 500,0,0):=by decide
theorem get14b:get (st14 514) 0=(11,row14 514,true):=by decide
theorem query14 (x:Int):query (st14 x) 11=[0]:=by
 show ((if bits .and .i64 11 11=11 then [(0:Int)] else [])++[]).mergeSort _=_
 rw [if_pos dC]
 exact List.mergeSort_singleton _
theorem boxes14 (x:Int):boxes (st14 x)=[]:=by
 have:query (st14 x) 5=[]:=by
  show ((if bits .and .i64 11 5=5 then [(0:Int)] else [])++[]).mergeSort _=_
  rw [if_neg dC]
  exact List.mergeSort_nil
 unfold boxes
 rw [this]
 rfl
theorem pairs_none:pairs []=[]:=by
 unfold pairs
 rw [if_pos dC,allP_nil]
 exact List.mergeSort_nil
theorem step_move {x y:Int} (hg:goodW (wd14 x)=true) (h1:goOn 0 (st14 x) 0=st14 y) (h2:walled 1000 1000 (st14 y) 0=st14 y):step (wd14 x)=(wd14 y,[],0):=by
 have g:gone (wd14 x)=st14 y:=by
  show (query (st14 x) 11).foldl (goOn 0) (st14 x)=_
  rw [query14]
  exact h1
 have m:met (wd14 x)=(st14 y,[]):=by
  unfold met
  rw [g,boxes14,pairs_none]
  rfl
 have e:ends (wd14 x)=st14 y:=by
  show (query (met (wd14 x)).1 11).foldl (walled 1000 1000) (met (wd14 x)).1=_
  rw [m]
  show (query (st14 y) 11).foldl (walled 1000 1000) (st14 y)=_
  rw [query14]
  exact h2
 unfold step
 rw [if_pos hg,e,m]
 rfl
theorem step14:step (wd14 500)=(wd14 507,[],0):=step_move dC dC dC
theorem step14b:step (wd14 507)=(wd14 514,[],0):=step_move dC dC dC
theorem bit_tab:∀m w:Fin 32,∀p:Fin 4,bit (bits .andNot .i64 31 (bits .andNot .i64 m.val w.val)) (2 ^ p.val:Int)= !(bit m.val (2 ^ p.val:Int) && !bit w.val (2 ^ p.val:Int))/\
  bit (bits .andNot .i64 m.val w.val) (2 ^ p.val:Int)=(bit m.val (2 ^ p.val:Int) && !bit w.val (2 ^ p.val:Int)):=by decide
theorem fin_of {m:Int} (h0:0<=m) (h1:m<=31):∃f:Fin 32,(f.val:Int)=m:=⟨⟨m.toNat,by omega⟩,by simp;omega⟩
theorem bit_other {m w:Int} (m0:0<=m) (m1:m<=31) (w0:0<=w) (w1:w<=31) {p:Int} (hp:p=1\/p=2\/p=4\/p=8):
  bit (bits .andNot .i64 31 (bits .andNot .i64 m w)) p= !(bit m p && !bit w p)/\bit (bits .andNot .i64 m w) p=(bit m p && !bit w p):=by
 obtain ⟨a,rfl⟩:=fin_of m0 m1
 obtain ⟨b,rfl⟩:=fin_of w0 w1
 rcases hp with rfl|rfl|rfl|rfl
 ·exact bit_tab a b 0
 ·exact bit_tab a b 1
 ·exact bit_tab a b 2
 ·exact bit_tab a b 3
def Ok64 (n:Int):Prop:=-9223372036854775808<=n/\n<=9223372036854775807
def RowIn (r:Row):Prop:=(Ok64 r.X/\Ok64 r.Y)/\(Ok64 r.PX/\Ok64 r.PY)/\(Ok64 r.W/\Ok64 r.H)/\(Ok64 r.M/\Ok64 r.R)
theorem wrap_ok {n:Int} (h:Ok64 n):wrap64 n=n:=IntWalk.wrap64_in n h
theorem one_changed {a b x y:Int} {bm bw:Bool} (hx:Ok64 x) (hy:Ok64 y):
  (if bm then wrap64 ((if (!(bm && !bw))=true then x else 0)+(if (bm && !bw)=true then y else 0)) else 0)=if bm then (if bw then x else y) else 0:=by
 cases bm<;>cases bw<;>simp [wrap_ok hx,wrap_ok hy]
theorem changed_eq {was m:Int} {old r:Row} (m0:0<=m) (m1:m<=31) (w0:0<=was) (w1:was<=31) (ho:RowIn old) (hr:RowIn r):
  changed was m old r=⟨if bit m 1 then (if bit was 1 then old.X else r.X) else 0,if bit m 1 then (if bit was 1 then old.Y else r.Y) else 0,
   if bit m 2 then (if bit was 2 then old.PX else r.PX) else 0,if bit m 2 then (if bit was 2 then old.PY else r.PY) else 0,
   if bit m 4 then (if bit was 4 then old.W else r.W) else 0,if bit m 4 then (if bit was 4 then old.H else r.H) else 0,
   if bit m 8 then (if bit was 8 then old.M else r.M) else 0,if bit m 8 then (if bit was 8 then old.R else r.R) else 0⟩:=by
 obtain ⟨⟨o1,o2⟩,⟨o3,o4⟩,⟨o5,o6⟩,o7,o8⟩:=ho
 obtain ⟨⟨r1,r2⟩,⟨r3,r4⟩,⟨r5,r6⟩,r7,r8⟩:=hr
 obtain ⟨a1,b1⟩:=bit_other m0 m1 w0 w1 (p:=1) sS
 obtain ⟨a2,b2⟩:=bit_other m0 m1 w0 w1 (p:=2) sS
 obtain ⟨a4,b4⟩:=bit_other m0 m1 w0 w1 (p:=4) sS
 obtain ⟨a8,b8⟩:=bit_other m0 m1 w0 w1 (p:=8) sS
 unfold changed withR plus only onlyAt
 simp only [a1,b1,a2,b2,a4,b4,a8,b8]
 have h1:=λ(x y:Int) (hx:Ok64 x) (hy:Ok64 y) (bm bw:Bool)=>one_changed (a:=0) (b:=0) (bm:=bm) (bw:=bw) hx hy
 rw [h1 _ _ o1 r1,h1 _ _ o2 r2,h1 _ _ o3 r3,h1 _ _ o4 r4,h1 _ _ o5 r5,h1 _ _ o6 r6,h1 _ _ o7 r7,h1 _ _ o8 r8]
theorem isPart_yes {is:Bool} {a b lo hi:Int} (h:isPart is a b lo hi=true) (hz:(lo=1/\hi=9)->is=false->b=0):
  (is=false->a=0/\b=0)/\(is=true->lo<=a/\a<=hi/\lo<=b/\b<=hi):=by
 unfold isPart at h
 cases is
 ·simp only [Bool.false_eq_true,if_false,decide_eq_true_eq] at h
  refine ⟨λ_=>⟨h.1,?_⟩,λh=>by simp at h⟩
  rcases h.2 with h|h
  ·exact h
  ·exact hz h rfl
 ·simp only [if_true,decide_eq_true_eq] at h
  exact ⟨λh=>by simp at h,λ_=>h⟩
structure Fits (m:Int) (r:Row):Prop where
 lo:1<=m
 hi:m<=31
 p1:bit m 1=false->r.X=0/\r.Y=0
 q1:bit m 1=true→-1048576<=r.X/\r.X<=1048576∧-1048576<=r.Y/\r.Y<=1048576
 p2:bit m 2=false->r.PX=0/\r.PY=0
 q2:bit m 2=true→-16777216<=r.PX/\r.PX<=16777216∧-16777216<=r.PY/\r.PY<=16777216
 p4:bit m 4=false->r.W=0/\r.H=0
 q4:bit m 4=true->1<=r.W/\r.W<=4096/\1<=r.H/\r.H<=4096
 p8:bit m 8=false->r.M=0/\r.R=0
 q8:bit m 8=true->1<=r.M/\r.M<=9/\0<=r.R/\r.R<=256
theorem goodRow_fits {m:Int} {r:Row}:goodRow m r=true↔Fits m r:=by
 unfold goodRow
 simp only [Bool.and_eq_true,Bool.or_eq_true,decide_eq_true_eq]
 constructor
 ·rintro ⟨⟨lo,hi⟩,h1,h2,h4,h8,hR⟩
  have e1:=isPart_yes h1 bO
  have e2:=isPart_yes h2 bO
  have e4:=isPart_yes h4 bO
  have f8:(bit m 8=false->r.M=0)/\(bit m 8=true->1<=r.M/\r.M<=9):=by
   unfold isPart at h8
   cases hb:bit m 8<;>rw [hb] at h8<;>simp at h8<;>simp<;>omega
  refine ⟨lo,hi,e1.1,e1.2,e2.1,e2.2,e4.1,e4.2,λh=>⟨f8.1 h,?_⟩,λh=>⟨(f8.2 h).1,(f8.2 h).2,?_⟩⟩
  ·rw [h] at hR;simpa using hR
  ·rcases hR with hR|hR<;>omega
 ·rintro ⟨lo,hi,p1,q1,p2,q2,p4,q4,p8,q8⟩
  refine ⟨⟨lo,hi⟩,?_,?_,?_,?_,?_⟩
  ·unfold isPart;cases hb:bit m 1
   ·have:=p1 hb;simp [this.1,this.2]
   ·have:=q1 hb;simp;omega
  ·unfold isPart;cases hb:bit m 2
   ·have:=p2 hb;simp [this.1,this.2]
   ·have:=q2 hb;simp;omega
  ·unfold isPart;cases hb:bit m 4
   ·have:=p4 hb;simp [this.1,this.2]
   ·have:=q4 hb;simp;omega
  ·unfold isPart;cases hb:bit m 8
   ·have:=p8 hb;simp [this.1]
   ·have:=q8 hb;simp;omega
  ·cases hb:bit m 8
   ·right;exact (p8 hb).2
   ·left;have:=q8 hb;simp;omega
theorem Fits.rowIn {m:Int} {r:Row} (h:Fits m r):RowIn r:=by
 obtain ⟨lo,hi,p1,q1,p2,q2,p4,q4,p8,q8⟩:=h
 unfold RowIn Ok64
 refine ⟨?_,?_,?_,?_⟩
 ·cases hb:bit m 1
  ·have:=p1 hb;omega
  ·have:=q1 hb;omega
 ·cases hb:bit m 2
  ·have:=p2 hb;omega
  ·have:=q2 hb;omega
 ·cases hb:bit m 4
  ·have:=p4 hb;omega
  ·have:=q4 hb;omega
 ·cases hb:bit m 8
  ·have:=p8 hb;omega
  ·have:=q8 hb;omega
theorem GoodS.form {s:Store} (h:GoodS s):Form s.tables:=((good_split s).1 h).1
theorem GoodS.goodE {s:Store} (h:GoodS s):GoodE s.next (entries s):=((good_split s).1 h).2
theorem GoodS.nodup {s:Store} (h:GoodS s):((entries s).map (·.1)).Nodup:=h.goodE.2.1
theorem GoodS.get {s:Store} (h:GoodS s) (id:Int):M.get s id=asGot (look (entries s) id):=get_look h.form h.nodup id
theorem GoodS.size {s:Store} (h:GoodS s):M.size s=(entries s).length:=size_len h.form
theorem look_rest {s:Store} (g:GoodS s) {id m:Int} {r:Row} {E:List Entry} (hp:(entries s).Perm ((id,m,r)::E)) {o:Int} (ho:id≠o):look (entries s) o=look E o:=by
 rw [look_perm hp g.nodup,look_cons,if_neg ho]
theorem mem_query {s:Store} (g:GoodS s) {m id:Int}:id∈query s m↔∃n r,look (entries s) id=some (n,r)/\bits .and .i64 n m=m:=by
 unfold query
 rw [List.mem_mergeSort]
 simp only [List.mem_flatMap]
 constructor
 ·rintro ⟨t,ht,hm⟩
  split at hm
  ·rename_i hb
   obtain ⟨k,hk,rfl⟩:=List.getElem_of_mem hm
   have hl:=g.form.even t ht
   refine ⟨t.mask,t.rows[k]'bO,?_,hb⟩
   refine (look_some g.nodup).2 (mem_entriesT.2 ⟨t,ht,mem_entries.2 ⟨?_,rfl⟩⟩)
   have hz:k<(t.ids.zip t.rows).length:=by simp;omega
   have:=List.getElem_mem hz
   rwa [List.getElem_zip] at this
  ·simp at hm
 ·rintro ⟨n,r,hl,hb⟩
  obtain ⟨t,ht,he⟩:=mem_entriesT.1 ((look_some g.nodup).1 hl)
  obtain ⟨hz,hm⟩:=mem_entries.1 he
  simp only at hz hm
  refine ⟨t,ht,?_⟩
  rw [←hm,if_pos hb]
  exact (List.of_mem_zip hz).1
theorem query_sub {l:List Table} (m:Int):(l.flatMap λt=>if bits .and .i64 t.mask m=m then t.ids else []).Sublist (idsT l):=by
 induction l with
 |nil=>exact List.Sublist.refl _
 |cons t l ih=>
  unfold idsT at ih⊢
  rw [List.flatMap_cons,List.flatMap_cons]
  refine List.Sublist.append ?_ ih
  split
  ·exact List.Sublist.refl _
  ·exact List.nil_sublist _
theorem query_nodup {s:Store} (g:GoodS s) (m:Int):(query s m).Nodup:=
 (List.mergeSort_perm _ _).nodup_iff.2 ((query_sub m).nodup g.2.2.1)
theorem query_sorted (s:Store) (m:Int):(query s m).Pairwise (λa b=>a<=b):=by
 have:=List.pairwise_mergeSort (le:=λa b:Int=>decide (a<=b)) (by intro a b c;simp;omega) (by intro a b;simp;omega) (s.tables.flatMap λt=>if bits .and .i64 t.mask m=m then t.ids else [])
 exact this.imp sS
theorem query_asc {s:Store} (g:GoodS s) (m:Int):(query s m).Pairwise (λa b=>a<b):=by
 have h1:=query_sorted s m
 have h2:=query_nodup g m
 exact (h1.and h2).imp (by intro a b h;have:=h.1;have:=h.2;omega)
theorem query_len (s:Store) (m:Int):(query s m).length=(s.tables.flatMap λt=>if bits .and .i64 t.mask m=m then t.ids else []).length:=List.length_mergeSort _
def at_ (s:Store) (id:Int):Option (Int×Row):=look (entries s) id
theorem moves_tab:∀m:Fin 32,moves m.val=true->bit m.val 1=true/\bit m.val 2=true/\bit m.val 8=true:=by decide
theorem moves_bits {m:Int} (h0:0<=m) (h1:m<=31) (h:moves m=true):bit m 1=true/\bit m 2=true/\bit m 8=true:=by
 obtain ⟨f,rfl⟩:=fin_of h0 h1
 exact moves_tab f h
theorem has5_tab:∀m:Fin 32,bits .and .i64 m.val 5=5->bit m.val 1=true/\bit m.val 4=true:=by decide
theorem has5_bits {m:Int} (h0:0<=m) (h1:m<=31) (h:bits .and .i64 m 5=5):bit m 1=true/\bit m 4=true:=by
 obtain ⟨f,rfl⟩:=fin_of h0 h1
 exact has5_tab f h
theorem at_fits {s:Store} (g:GoodS s) {id m:Int} {r:Row} (h:at_ s id=some (m,r)):Fits m r:=
 goodRow_fits.1 (g.goodE.1 _ ((look_some g.nodup).1 h)).2
theorem at_id {s:Store} (g:GoodS s) {id m:Int} {r:Row} (h:at_ s id=some (m,r)):0<=id/\id<s.next:=(g.goodE.1 _ ((look_some g.nodup).1 h)).1
theorem get_at {s:Store} (g:GoodS s) (id:Int):get s id=asGot (at_ s id):=g.get id
theorem set_at {s:Store} (g:GoodS s) {id m:Int} {q r:Row} (h:at_ s id=some (m,q)) (hr:goodRow m r=true):
  (set s id r).2=0/\GoodS (set s id r).1/\(set s id r).1.next=s.next/\∀o,at_ (set s id r).1 o=if o=id then some (m,r) else at_ s o:=by
 have hz:(set s id r).2=0:=by
  unfold set
  rw [if_neg (by simp [(good_iff s).2 g])]
  cases hf:find s id with
  |none=>unfold at_ at h;rw [(find_none g.form).1 hf] at h;simp at h
  |some p=>
   obtain ⟨i,k⟩:=p
   obtain ⟨t,r',a1,a2,a3,a4,a5⟩:=find_some g.form g.nodup hf
   unfold at_ at h
   rw [h] at a4
   simp only [Option.some.injEq,Prod.mk.injEq] at a4
   obtain ⟨e1,e2⟩:=a4
   have hm:maskAt s i=m:=by unfold maskAt;rw [a1];exact e1.symm
   simp only [hm]
   rw [if_neg (by simp [hr])]
 obtain ⟨m1,q1,E,_,gx,hn,_,hp,hpx,hl⟩:=set_ok hz
 unfold at_ at h
 rw [h] at hl
 simp only [Option.some.injEq,Prod.mk.injEq] at hl
 obtain ⟨rfl,rfl⟩:=hl
 refine ⟨hz,gx,hn,λo=>?_⟩
 unfold at_
 rw [look_perm hpx gx.nodup,look_cons]
 split
 ·rename_i e;simp only at e;rw [if_pos e.symm]
 ·rename_i e
  simp only at e
  rw [if_neg (λe'=>e e'.symm),look_rest g hp e]
structure Alike (s t:Store):Prop where
 gs:GoodS s
 gt:GoodS t
 next:s.next=t.next
 at_:∀o,M.at_ s o=M.at_ t o
theorem sorted_int_eq {l l':List Int} (h:∀x,x∈l↔x∈l') (s:l.Pairwise (λa b=>a<b)) (s':l'.Pairwise (λa b=>a<b)):l=l':=by
 have n:l.Nodup:=s.imp (by intro a b h;omega)
 have n':l'.Nodup:=s'.imp (by intro a b h;omega)
 exact List.Perm.eq_of_pairwise (le:=λa b=>a<b) (λa b _ _ h1 h2=>by omega) s s' ((List.perm_ext_iff_of_nodup n n').2 h)
theorem mem_query_at {s:Store} (g:GoodS s) {m id:Int}:id∈query s m↔∃n r,at_ s id=some (n,r)/\bits .and .i64 n m=m:=mem_query g
theorem Alike.query {s t:Store} (h:Alike s t) (m:Int):M.query s m=M.query t m:=
 sorted_int_eq (λx=>by rw [mem_query_at h.gs,mem_query_at h.gt];simp only [h.at_]) (query_asc h.gs m) (query_asc h.gt m)
theorem Alike.get {s t:Store} (h:Alike s t) (id:Int):M.get s id=M.get t id:=by rw [get_at h.gs,get_at h.gt,h.at_]
theorem Alike.boxes {s t:Store} (h:Alike s t):M.boxes s=M.boxes t:=by
 unfold M.boxes
 rw [h.query]
 exact List.map_congr_left (λid _=>by rw [h.get])
theorem Alike.set {s t:Store} (h:Alike s t) (id:Int) (r:Row):Alike (M.set s id r).1 (M.set t id r).1:=by
 cases ha:M.at_ s id with
 |none=>
  have hb:=(h.at_ id).symm.trans ha
  have e:∀x:Store,GoodS x->M.at_ x id=none->(M.set x id r).1=x:=by
   intro x gx hx
   unfold M.set
   rw [if_neg (by simp [(good_iff x).2 gx])]
   rw [(find_none gx.form).2 hx]
  rw [e s h.gs ha,e t h.gt hb]
  exact h
 |some p=>
  obtain ⟨m,q⟩:=p
  have hb:=(h.at_ id).symm.trans ha
  by_cases hr:goodRow m r=true
  ·obtain ⟨_,g1,n1,a1⟩:=set_at h.gs ha hr
   obtain ⟨_,g2,n2,a2⟩:=set_at h.gt hb hr
   exact ⟨g1,g2,by rw [n1,n2,h.next],λo=>by rw [a1,a2,h.at_]⟩
  ·have e:∀x:Store,GoodS x->M.at_ x id=some (m,q)->(M.set x id r).1=x:=by
    intro x gx hx
    unfold M.set
    rw [if_neg (by simp [(good_iff x).2 gx])]
    cases hf:M.find x id with
    |none=>rfl
    |some p=>
     obtain ⟨i,k⟩:=p
     obtain ⟨u,r',a1,a2,a3,a4,a5⟩:=find_some gx.form gx.nodup hf
     unfold M.at_ at hx
     rw [hx] at a4
     simp only [Option.some.injEq,Prod.mk.injEq] at a4
     have hm:maskAt x i=m:=by unfold maskAt;rw [a1];exact a4.1.symm
     simp only [hm]
     rw [if_pos (by simpa using hr)]
   rw [e s h.gs ha,e t h.gt hb]
   exact h
theorem Alike.goOn {s t:Store} (h:Alike s t) (fall id:Int):Alike (M.goOn fall s id) (M.goOn fall t id):=by
 unfold M.goOn
 rw [h.get]
 exact h.set _ _
theorem Alike.walled {s t:Store} (h:Alike s t) (wide high id:Int):Alike (M.walled wide high s id) (M.walled wide high t id):=by
 unfold M.walled
 rw [h.get]
 exact h.set _ _
theorem Alike.backTo {s t:Store} (h:Alike s t) (id m:Int) (r:Row):Alike (M.backTo s id m r) (M.backTo t id m r):=by
 unfold M.backTo
 split
 ·exact h.set _ _
 ·exact h
theorem Alike.meetStep {s t:Store} (h:Alike s t) (l:List Pr) (p:Pr):Alike (M.meetStep (s,l) p).1 (M.meetStep (t,l) p).1/\(M.meetStep (s,l) p).2=(M.meetStep (t,l) p).2:=by
 unfold M.meetStep
 simp only [h.get]
 split
 ·exact ⟨(h.backTo _ _ _).backTo _ _ _,rfl⟩
 ·exact ⟨h,rfl⟩
theorem Alike.fold {f:Store->Int->Store} (hf:∀s t,Alike s t->∀id,Alike (f s id) (f t id)) {s t:Store} (h:Alike s t) (l:List Int):Alike (l.foldl f s) (l.foldl f t):=by
 induction l generalizing s t with
 |nil=>exact h
 |cons a l ih=>exact ih (hf s t h a)
theorem add_in (a b most:Int) (h0:0<=most) (h1:most<=1099511627776):-most<=add a b most/\add a b most<=most:=by
 unfold add
 rw [capped_id most h0 h1]
 exact within_bd _ _ h0
theorem gone_fits {fall m:Int} {r:Row} (h:Fits m r) (hm:moves m=true):Fits m (goneRow fall m r):=by
 obtain ⟨b1,b2,b8⟩:=moves_bits (by have:=h.lo;omega) h.hi hm
 have a1:=add_in r.X (part r.PX 1 r.M) 1048576 bO bO
 obtain ⟨lo,hi,p1,q1,p2,q2,p4,q4,p8,q8⟩:=h
 have k2:=q2 b2
 unfold goneRow
 refine ⟨lo,hi,λe=>by simp [b1] at e,λ_=>⟨a1.1,a1.2,?_⟩,λe=>by simp [b2] at e,λ_=>⟨k2.1,k2.2.1,?_⟩,p4,q4,p8,q8⟩
 ·exact add_in _ _ 1048576 bO bO
 ·simp only
  split
  ·exact add_in _ _ 16777216 bO bO
  ·exact k2.2.2
theorem tdiv256 {a b:Int} (ha:0<=a) (hb:0<=b) (hb2:b<=256):0<=(a*b).tdiv 256/\(a*b).tdiv 256<=a:=by
 have h1:0<=a*b:=Int.mul_nonneg ha hb
 have h2:a*b<=a*256:=Int.mul_le_mul_of_nonneg_left hb2 ha
 rw [Int.tdiv_eq_ediv_of_nonneg h1]
 omega
theorem wallP_in {x p half wide back:Int} (hp:-16777216<=p/\p<=16777216) (hb:0<=back) (hb2:back<=256):-16777216<=wallP x p half wide back/\wallP x p half wide back<=16777216:=by
 have ha:0<=abs p/\abs p<=16777216:=by unfold abs;split<;>omega
 have h1:part (abs p) (within back 256) 256=(abs p*back).tdiv 256:=by
  unfold part
  rw [within_id back 256 bO bO,within_id (abs p) 268435456 bO bO,within_id back 268435456 bO bO,within_id 256 268435456 bO bO,if_neg bO]
 have h2:=tdiv256 ha.1 hb hb2
 unfold wallP
 rw [h1]
 split
 ·omega
 ·split<;>omega
theorem wallA_in {x half wide:Int} (hx:-1048576<=x/\x<=1048576) (hh:0<=half/\half<=4096) (hw:1<=wide/\wide<=1048576):-1048576<=wallA x half wide/\wallA x half wide<=1048576:=by
 unfold wallA far
 (repeat' split)<;>omega
theorem Fits.half {m:Int} {r:Row} (h:Fits m r):(0<=r.W/\r.W<=4096)/\(0<=r.H/\r.H<=4096):=by
 cases hb:bit m 4
 ·have:=h.p4 hb;omega
 ·have:=h.q4 hb;omega
theorem walled_fits {wide high m:Int} {r:Row} (h:Fits m r) (hm:moves m=true) (hw:1<=wide/\wide<=1048576) (hh:1<=high/\high<=1048576):Fits m (walledRow wide high r):=by
 obtain ⟨b1,b2,b8⟩:=moves_bits (by have:=h.lo;omega) h.hi hm
 have hhalf:=h.half
 obtain ⟨lo,hi,p1,q1,p2,q2,p4,q4,p8,q8⟩:=h
 have k1:=q1 b1
 have k2:=q2 b2
 have k8:=q8 b8
 unfold walledRow
 have a1:=wallA_in (x:=r.X) (half:=r.W) (wide:=wide) ⟨k1.1,k1.2.1⟩ hhalf.1 hw
 have a2:=wallA_in (x:=r.Y) (half:=r.H) (wide:=high) ⟨k1.2.2.1,k1.2.2.2⟩ hhalf.2 hh
 have a3:=wallP_in (x:=r.X) (p:=r.PX) (half:=r.W) (wide:=wide) (back:=r.R) ⟨k2.1,k2.2.1⟩ k8.2.2.1 k8.2.2.2
 have a4:=wallP_in (x:=r.Y) (p:=r.PY) (half:=r.H) (wide:=high) (back:=r.R) ⟨k2.2.2.1,k2.2.2.2⟩ k8.2.2.1 k8.2.2.2
 exact ⟨lo,hi,λe=>by simp [b1] at e,λ_=>⟨a1.1,a1.2,a2.1,a2.2⟩,λe=>by simp [b2] at e,λ_=>⟨a3.1,a3.2,a4.1,a4.2⟩,p4,q4,p8,q8⟩
structure SameBody (r q:Row):Prop where
 w:r.W=q.W
 h:r.H=q.H
 m:r.M=q.M
 r:r.R=q.R
theorem SameBody.refl (r:Row):SameBody r r:=⟨rfl,rfl,rfl,rfl⟩
theorem SameBody.trans {a b c:Row} (h:SameBody a b) (k:SameBody b c):SameBody a c:=⟨h.w.trans k.w,h.h.trans k.h,h.m.trans k.m,h.r.trans k.r⟩
theorem meet_body (a b:Row):SameBody (meet a b).1 a/\SameBody (meet a b).2 b:=by
 unfold meet
 split
 ·exact ⟨.refl _,.refl _⟩
 ·split
  ·exact ⟨.refl _,.refl _⟩
  ·unfold meetR
   split
   ·exact ⟨⟨rfl,rfl,rfl,rfl⟩,⟨rfl,rfl,rfl,rfl⟩⟩
   ·exact ⟨⟨rfl,rfl,rfl,rfl⟩,⟨rfl,rfl,rfl,rfl⟩⟩
def InBounds (r:Row):Prop:=(-1048576<=r.X/\r.X<=1048576∧-1048576<=r.Y/\r.Y<=1048576)/\(-16777216<=r.PX/\r.PX<=16777216∧-16777216<=r.PY/\r.PY<=16777216)
theorem meet_in {a b:Row} (ha:InBounds a) (hb:InBounds b):InBounds (meet a b).1/\InBounds (meet a b).2:=by
 have P:∀x y z u v:Int,(-1048576<=x/\x<=1048576)->(-1048576<=pa x y z u v/\pa x y z u v<=1048576)/\(-1048576<=pb x y z u v/\pb x y z u v<=1048576):=by
  intro x y z u v h
  unfold pa pb
  constructor<;>split<;>first|exact h|exact add_in _ _ _ bO bO
 have Q:∀q n y u v c d:Int,(-16777216<=q/\q<=16777216)->(-16777216<=qa q n y u v c d/\qa q n y u v c d<=16777216)/\(-16777216<=qb q n y u v c d/\qb q n y u v c d<=16777216):=by
  intro q n y u v c d h
  unfold qa qb
  constructor<;>split<;>first|exact h|exact add_in _ _ _ bO bO
 unfold meet
 split
 ·exact ⟨ha,hb⟩
 ·split
  ·exact ⟨ha,hb⟩
  ·obtain ⟨⟨a1,a2,a3,a4⟩,a5,a6,a7,a8⟩:=ha
   obtain ⟨⟨b1,b2,b3,b4⟩,b5,b6,b7,b8⟩:=hb
   unfold meetR
   split
   ·unfold meetX
    exact ⟨⟨⟨(P _ _ _ _ _ ⟨a1,a2⟩).1.1,(P _ _ _ _ _ ⟨a1,a2⟩).1.2,a3,a4⟩,(Q _ _ _ _ _ _ _ ⟨a5,a6⟩).1.1,(Q _ _ _ _ _ _ _ ⟨a5,a6⟩).1.2,a7,a8⟩,
     ⟨⟨(P _ _ _ _ _ ⟨b1,b2⟩).2.1,(P _ _ _ _ _ ⟨b1,b2⟩).2.2,b3,b4⟩,(Q _ _ _ _ _ _ _ ⟨b5,b6⟩).2.1,(Q _ _ _ _ _ _ _ ⟨b5,b6⟩).2.2,b7,b8⟩⟩
   ·unfold meetY
    exact ⟨⟨⟨a1,a2,(P _ _ _ _ _ ⟨a3,a4⟩).1.1,(P _ _ _ _ _ ⟨a3,a4⟩).1.2⟩,a5,a6,(Q _ _ _ _ _ _ _ ⟨a7,a8⟩).1.1,(Q _ _ _ _ _ _ _ ⟨a7,a8⟩).1.2⟩,
     ⟨⟨b1,b2,(P _ _ _ _ _ ⟨b3,b4⟩).2.1,(P _ _ _ _ _ ⟨b3,b4⟩).2.2⟩,b5,b6,(Q _ _ _ _ _ _ _ ⟨b7,b8⟩).2.1,(Q _ _ _ _ _ _ _ ⟨b7,b8⟩).2.2⟩⟩
theorem Fits.inBounds {m:Int} {r:Row} (h:Fits m r):InBounds r:=by
 refine ⟨?_,?_⟩
 ·cases hb:bit m 1
  ·have:=h.p1 hb;omega
  ·have:=h.q1 hb;omega
 ·cases hb:bit m 2
  ·have:=h.p2 hb;omega
  ·have:=h.q2 hb;omega
theorem freeRow_in {m:Int} {r:Row} (h:InBounds r):InBounds (freeRow m r):=by
 unfold freeRow
 split
 ·exact h
 ·exact ⟨h.1,by simp⟩
theorem met_fits {m:Int} {r x:Row} (h:Fits m r) (hm:moves m=true) (hb:SameBody x r) (hi:InBounds x):Fits m x:=by
 obtain ⟨b1,b2,b8⟩:=moves_bits (by have:=h.lo;omega) h.hi hm
 obtain ⟨lo,hh,p1,q1,p2,q2,p4,q4,p8,q8⟩:=h
 obtain ⟨e1,e2,e3,e4⟩:=hb
 rw [←e1,←e2] at p4 q4
 rw [←e3,←e4] at p8 q8
 exact ⟨lo,hh,λe=>by simp [b1] at e,λ_=>hi.1,λe=>by simp [b2] at e,λ_=>hi.2,p4,q4,p8,q8⟩
structure Kept (s t:Store):Prop where
 good:GoodS t
 next:t.next=s.next
 gone:∀id,at_ s id=none->at_ t id=none
 kept:∀id m q,at_ s id=some (m,q)->∃r,at_ t id=some (m,r)/\(moves m=false->r=q)/\SameBody r q
theorem Kept.refl {s:Store} (g:GoodS s):Kept s s:=⟨g,rfl,λ_ h=>h,λid m q h=>⟨q,h,λ_=>rfl,.refl q⟩⟩
theorem Kept.trans {s t u:Store} (h:Kept s t) (k:Kept t u):Kept s u:=by
 refine ⟨k.good,k.next.trans h.next,λid e=>k.gone id (h.gone id e),λid m q e=>?_⟩
 obtain ⟨r,e1,f1,b1⟩:=h.kept id m q e
 obtain ⟨r',e2,f2,b2⟩:=k.kept id m r e1
 exact ⟨r',e2,λhm=>(f2 hm).trans (f1 hm),b2.trans b1⟩
theorem Kept.set {s:Store} (g:GoodS s) {id m:Int} {q r:Row} (h:at_ s id=some (m,q)) (hm:moves m=true) (hr:Fits m r) (hb:SameBody r q):Kept s (M.set s id r).1:=by
 obtain ⟨_,g1,n1,a1⟩:=set_at g h (goodRow_fits.2 hr)
 refine ⟨g1,n1,λo e=>?_,λo m' q' e=>?_⟩
 ·rw [a1,if_neg (λe'=>by subst e';rw [h] at e;simp at e)];exact e
 ·rw [a1]
  by_cases ho:o=id
  ·subst ho
   rw [h] at e
   simp only [Option.some.injEq,Prod.mk.injEq] at e
   obtain ⟨rfl,rfl⟩:=e
   exact ⟨r,if_pos rfl,λe=>by rw [hm] at e;simp at e,hb⟩
  ·exact ⟨q',by rw [if_neg ho];exact e,λ_=>rfl,.refl _⟩
def Mover (s:Store) (id:Int):Prop:=∃m q,at_ s id=some (m,q)/\moves m=true
theorem Kept.mover {s t:Store} (h:Kept s t) {id:Int} (hm:Mover s id):Mover t id:=by
 obtain ⟨m,q,e,hmv⟩:=hm
 obtain ⟨r,e2,_,_⟩:=h.kept id m q e
 exact ⟨m,r,e2,hmv⟩
theorem query_mover {s:Store} (g:GoodS s) {id:Int}:id∈query s 11↔Mover s id:=by
 rw [mem_query_at g]
 unfold Mover moves
 simp only [beq_iff_eq]
theorem kept_goOn {s:Store} (g:GoodS s) (fall:Int) {id:Int} (h:Mover s id):Kept s (goOn fall s id):=by
 obtain ⟨m,q,e,hm⟩:=h
 unfold goOn
 rw [get_at g,e]
 exact Kept.set g e hm (gone_fits (at_fits g e) hm) ⟨rfl,rfl,rfl,rfl⟩
theorem kept_walled {s:Store} (g:GoodS s) {wide high:Int} (hw:1<=wide/\wide<=1048576) (hh:1<=high/\high<=1048576) {id:Int} (h:Mover s id):Kept s (walled wide high s id):=by
 obtain ⟨m,q,e,hm⟩:=h
 unfold walled
 rw [get_at g,e]
 exact Kept.set g e hm (walled_fits (at_fits g e) hm hw hh) ⟨rfl,rfl,rfl,rfl⟩
theorem Kept.fold {f:Store->Int->Store} {s:Store} (g:GoodS s) (l:List Int) (hl:∀id∈l,Mover s id) (hf:∀t,GoodS t->∀id,Mover t id->Kept t (f t id)):Kept s (l.foldl f s):=by
 induction l generalizing s with
 |nil=>exact .refl g
 |cons a l ih=>
  have h1:=hf s g a (hl a sS)
  exact h1.trans (ih h1.good (λid hid=>h1.mover (hl id (List.mem_cons_of_mem _ hid))))
theorem kept_gone {w:Wd} (g:GoodS w.things):Kept w.things (gone w):=
 Kept.fold g _ (λid h=>(query_mover g).1 h) (λt gt id h=>kept_goOn gt _ h)
theorem kept_backTo {s:Store} (g:GoodS s) {id m:Int} {q x:Row} (h:at_ s id=some (m,q)) (hb:SameBody x (freeRow m q)) (hi:InBounds x):Kept s (backTo s id m x):=by
 unfold backTo
 split
 ·rename_i hm
  have e:freeRow m q=q:=by unfold freeRow;rw [if_pos hm]
  rw [e] at hb
  exact Kept.set g h hm (met_fits (at_fits g h) hm hb hi) hb
 ·exact .refl g
theorem boxes_at {s:Store} (g:GoodS s) {b:Box} (h:b∈boxes s):∃m r,at_ s b.id=some (m,r)/\bits .and .i64 m 5=5/\b=boxOf b.id r:=by
 unfold boxes at h
 obtain ⟨id,hid,rfl⟩:=List.mem_map.1 h
 obtain ⟨m,r,e,hm⟩:=(mem_query_at g).1 hid
 have e2:(boxOf id (get s id).2.1).id=id:=rfl
 rw [e2,get_at g,e]
 exact ⟨m,r,rfl,hm,rfl⟩
theorem pair_ids {a b:Int}:∀p:Pr,p=pairOf a b->(p.1=a/\p.2=b)\/(p.1=b/\p.2=a):=by
 rintro p rfl
 unfold pairOf
 simp only
 omega
theorem pairs_at {s:Store} (g:GoodS s) {p:Pr} (h:p∈pairs (boxes s)):(∃m r,at_ s p.1=some (m,r))/\(∃m r,at_ s p.2=some (m,r))/\p.1<p.2:=by
 unfold pairs at h
 split at h
 ·rename_i hg
  have hg':GoodB (boxes s):=by simpa [goodB] using hg
  unfold sortP at h
  rw [List.mem_mergeSort] at h
  obtain ⟨i,j,hji,a,b,ha,hb,hm,hp⟩:=mem_allP.1 h
  obtain ⟨m1,r1,e1,_⟩:=boxes_at g (List.mem_of_getElem? ha)
  obtain ⟨m2,r2,e2,_⟩:=boxes_at g (List.mem_of_getElem? hb)
  have hne:a.id≠b.id:=by
   intro e
   obtain ⟨x1,x2⟩:=List.getElem?_eq_some_iff.1 ha
   obtain ⟨y1,y2⟩:=List.getElem?_eq_some_iff.1 hb
   have:=(List.nodup_iff_pairwise_ne.1 hg'.2)
   rw [List.pairwise_iff_getElem] at this
   have h3:=this j i (by simpa using x1) (by simpa using y1) hji
   simp only [List.getElem_map,x2,y2] at h3
   exact h3 e
  have hlt:p.1<p.2:=by rw [hp];unfold pairOf;simp only;omega
  rcases pair_ids p hp with ⟨q1,q2⟩|⟨q1,q2⟩
  ·exact ⟨by rw [q1];exact ⟨_,_,e1⟩,by rw [q2];exact ⟨_,_,e2⟩,hlt⟩
  ·exact ⟨by rw [q1];exact ⟨_,_,e2⟩,by rw [q2];exact ⟨_,_,e1⟩,hlt⟩
 ·simp at h
theorem meetStep_eq {s:Store} {k:List Pr} {p:Pr} {m1 m2:Int} {r1 r2:Row} (h1:at_ s p.1=some (m1,r1)) (h2:at_ s p.2=some (m2,r2)) (g:GoodS s):
  meetStep (s,k) p=bif meets (freeRow m1 r1) (freeRow m2 r2) then (backTo (backTo s p.1 m1 (meet (freeRow m1 r1) (freeRow m2 r2)).1) p.2 m2 (meet (freeRow m1 r1) (freeRow m2 r2)).2,k++[p]) else (s,k):=by
 have e1:get s p.1=(m1,r1,true):=by rw [get_at g,h1];rfl
 have e2:get s p.2=(m2,r2,true):=by rw [get_at g,h2];rfl
 unfold meetStep
 simp only [e1,e2]
 cases meets (freeRow m1 r1) (freeRow m2 r2)<;>rfl
theorem kept_meetStep {s:Store} (g:GoodS s) (k:List Pr) {p:Pr} (h1:∃m r,at_ s p.1=some (m,r)) (h2:∃m r,at_ s p.2=some (m,r)) (hne:p.1≠p.2):Kept s (meetStep (s,k) p).1:=by
 obtain ⟨m1,r1,e1⟩:=h1
 obtain ⟨m2,r2,e2⟩:=h2
 rw [meetStep_eq e1 e2 g]
 cases hmt:meets (freeRow m1 r1) (freeRow m2 r2)
 ·exact .refl g
 ·simp only [cond_true]
  have f1:=freeRow_in (m:=m1) (at_fits g e1).inBounds
  have f2:=freeRow_in (m:=m2) (at_fits g e2).inBounds
  have i:=meet_in f1 f2
  have b:=meet_body (freeRow m1 r1) (freeRow m2 r2)
  have k1:=kept_backTo g e1 b.1 i.1
  obtain ⟨r2',e2',hf,hb⟩:=k1.kept _ _ _ e2
  have e3:at_ (backTo s p.1 m1 (meet (freeRow m1 r1) (freeRow m2 r2)).1) p.2=some (m2,r2):=by
   unfold backTo
   split
   ·rename_i hm
    have e0:freeRow m1 r1=r1:=by unfold freeRow;rw [if_pos hm]
    have b1:=b.1
    rw [e0] at b1
    have hx:Fits m1 (meet (freeRow m1 r1) (freeRow m2 r2)).1:=by
     rw [e0];exact met_fits (at_fits g e1) hm b1 (by rw [e0] at i;exact i.1)
    obtain ⟨_,_,_,a1⟩:=set_at g e1 (goodRow_fits.2 hx)
    rw [a1,if_neg (λe=>hne e.symm)];exact e2
   ·exact e2
  exact k1.trans (kept_backTo k1.good e3 b.2 i.2)
theorem Kept.isThere {s t:Store} (h:Kept s t) {id:Int} (ht:∃m r,at_ s id=some (m,r)):∃m r,at_ t id=some (m,r):=by
 obtain ⟨m,q,e⟩:=ht
 obtain ⟨r,e2,_,_⟩:=h.kept id m q e
 exact ⟨m,r,e2⟩
theorem kept_foldMeet {s:Store} (g:GoodS s) (l:List Pr) (k:List Pr) (hl:∀p∈l,(∃m r,at_ s p.1=some (m,r))/\(∃m r,at_ s p.2=some (m,r))/\p.1<p.2):
  Kept s (l.foldl meetStep (s,k)).1:=by
 induction l generalizing s k with
 |nil=>exact .refl g
 |cons p l ih=>
  obtain ⟨h1,h2,h3⟩:=hl p sS
  have k1:=kept_meetStep g k h1 h2 bO
  rw [List.foldl_cons]
  rcases hs:meetStep (s,k) p with ⟨s1,l1⟩
  rw [hs] at k1
  refine k1.trans (ih k1.good l1 (λq hq=>?_))
  obtain ⟨a,b,c⟩:=hl q (List.mem_cons_of_mem _ hq)
  exact ⟨k1.isThere a,k1.isThere b,c⟩
theorem kept_met {w:Wd} (g:GoodS w.things):Kept w.things (met w).1:=by
 have h1:=kept_gone g
 refine h1.trans ?_
 unfold met
 exact kept_foldMeet h1.good _ _ (λp hp=>pairs_at h1.good hp)
structure GoodWd (w:Wd):Prop where
 things:GoodS w.things
 fall:-64<=w.fall/\w.fall<=64
 wide:1<=w.wide/\w.wide<=1048576
 high:1<=w.high/\w.high<=1048576
theorem goodW_iff {w:Wd}:goodW w=true↔GoodWd w:=by
 unfold goodW
 simp only [Bool.and_eq_true,decide_eq_true_eq,good_iff]
 exact ⟨λh=>⟨h.1,h.2.1,h.2.2.1,h.2.2.2⟩,λh=>⟨h.1,h.2,h.3,h.4⟩⟩
theorem kept_ends {w:Wd} (g:GoodWd w):Kept w.things (ends w):=by
 have h1:=kept_met g.things
 refine h1.trans ?_
 unfold ends
 exact Kept.fold h1.good _ (λid h=>(query_mover h1.good).1 h) (λt gt id h=>kept_walled gt g.wide g.high h)
theorem step_kept {w:Wd} (g:GoodWd w):(step w).2.2=0/\Kept w.things (step w).1.things/\GoodWd (step w).1/\(step w).1.fall=w.fall/\(step w).1.wide=w.wide/\(step w).1.high=w.high:=by
 unfold step
 rw [if_pos (goodW_iff.2 g)]
 have h:=kept_ends g
 exact ⟨rfl,h,⟨h.good,g.fall,g.wide,g.high⟩,rfl,rfl,rfl⟩
theorem step_bad {w:Wd} (g:goodW w=false):step w=(w,[],1):=by
 unfold step
 rw [g];rfl
theorem Kept.size {s t:Store} (g:GoodS s) (h:Kept s t):M.size t=M.size s:=by
 have e8:((entries t).map (λe:Entry=>e.1)).length=(entries t).length:=List.length_map ..
 have e9:((entries s).map (λe:Entry=>e.1)).length=(entries s).length:=List.length_map ..
 rw [h.good.size,g.size,←e8,←e9]
 refine List.Perm.length_eq ((List.perm_ext_iff_of_nodup h.good.nodup g.nodup).2 (λid=>?_))
 have e1:=@look_none (entries s) id
 have e2:=@look_none (entries t) id
 cases hs:look (entries s) id with
 |none=>
  have:=h.gone id hs
  unfold at_ at this
  exact ⟨λm=>absurd m (e2.1 this),λm=>absurd m (e1.1 hs)⟩
 |some p=>
  obtain ⟨m,q⟩:=p
  obtain ⟨r,e3,_⟩:=h.kept id m q hs
  unfold at_ at e3
  have h1:id∈(entries s).map (·.1):=by
   false_or_by_contra
   rename_i hn
   rw [e1.2 hn] at hs;simp at hs
  have h2:id∈(entries t).map (·.1):=by
   false_or_by_contra
   rename_i hn
   rw [e2.2 hn] at e3;simp at e3
  exact ⟨λ_=>h1,λ_=>h2⟩
end Go.Proofs.YtemkbjaojinaoaaGreat.M
namespace Go.Proofs.YtemkbjaojinaoaaGreat.M
theorem add_mid (a b most x:Int) (hm:0<=most/\most<=1099511627776) (h1:-x<=a/\a<=x) (h2:-(most-x)<=b/\b<=most-x) (hx:0<=x/\x<=most):add a b most=a+b:=by
 unfold add
 rw [capped_id most bO bO,within_id a _ bO bO,within_id b _ bO bO,within_id _ _ bO bO]
end Go.Proofs.YtemkbjaojinaoaaGreat.M
namespace Go.Proofs.YtemkbjaojinaoaaGreat.M
open Go.RowKit
def wt (m:Int):Int:=2520 / m
theorem kick {near aM bM aR bR:Int} (hn:0<near/\near<=400000) (ha:1<=aM/\aM<=9) (hb:1<=bM/\bM<=9) (ra:0<=aR/\aR<=256) (rb:0<=bR/\bR<=256):
  ∃j,(∀way,jOf near way aM bM aR bR=j*way)/\0<=j/\j<=3600000/\j*(aM+bM)<=2*(near*(aM*bM)):=by
 have hm:mOf aM bM=aM*bM:=by unfold mOf;rw [if_neg bO,if_neg bO]
 have hN:nOf aM bM=aM+bM:=by unfold nOf;rw [if_neg bO,if_neg bO]
 have hl:0<=least aR bR/\least aR bR<=256:=by unfold least;split<;>omega
 have m0:=Int.mul_nonneg (show 0<=aM by omega) (show 0<=bM by omega)
 have m1:=mul_bd aM bM 9 9 bO bO bO bO
 have m2:=mul_bd near (aM*bM) 400000 81 bO bO bO bO
 have m3:0<=near*(aM*bM):=Int.mul_nonneg bO m0
 have e1:aM*bM<=9*bM:=Int.mul_le_mul_of_nonneg_right ha.2 bO
 have e2:aM*bM<=aM*9:=Int.mul_le_mul_of_nonneg_left hb.2 bO
 have e4:near*(2*(aM*bM))<=near*(9*(aM+bM)):=Int.mul_le_mul_of_nonneg_left bO bO
 generalize aM*bM=m at *
 obtain ⟨n,hn'⟩:∃n,n=aM+bM:=⟨_,rfl⟩
 rw [←hn'] at hN e4⊢
 have hn2:2<=n/\n<=18:=by omega
 refine ⟨part (near*m) (256+least aR bR) (n*256),λway=>by unfold jOf;rw [hm,hN],?_⟩
 have hp:part (near*m) (256+least aR bR) (n*256)=(near*m*(256+least aR bR)) / (n*256):=by
  unfold part
  rw [within_id (n*256) _ bO bO,if_neg bO,within_id (near*m) _ bO bO,within_id _ _ bO bO]
  exact Int.tdiv_eq_ediv_of_nonneg (Int.mul_nonneg m3 bO)
 have h3:0<=(near*m)*(256+least aR bR):=Int.mul_nonneg m3 bO
 have h4:(near*m)*(256+least aR bR)<=(near*m)*512:=Int.mul_le_mul_of_nonneg_left bO m3
 have h5:=Int.ediv_mul_le (near*m*(256+least aR bR)) (show n*256≠0 by omega)
 have h6:0<=(near*m*(256+least aR bR)) / (n*256):=Int.ediv_nonneg h3 bO
 rw [hp]
 generalize (near*m*(256+least aR bR)) / (n*256)=j at *
 have h7:j*(n*256)=(j*n)*256:=by rw [Int.mul_assoc]
 have h8:near*(2*m)=2*(near*m):=by rw [Int.mul_left_comm]
 have h9:near*(9*n)=(9*near)*n:=by rw [Int.mul_left_comm,Int.mul_assoc]
 have h10:j*n<=2*(near*m):=by omega
 refine ⟨h6,?_,h10⟩
 have h11:j*n<=(9*near)*n:=by omega
 have h12:j<=9*near:=Int.le_of_mul_le_mul_right h11 bO
 omega
theorem swing (q1 q2 J wa wb:Int):wa*((q1-J)*(q1-J))+wb*((q2+J)*(q2+J))=wa*(q1*q1)+wb*(q2*q2)+(J*J*(wa+wb)-2*(J*(wa*q1-wb*q2))):=by grind
def SWING:Int:=36288000000
def enX (r:Row):Int:=wt r.M*(r.PX*r.PX)
def enY (r:Row):Int:=wt r.M*(r.PY*r.PY)
structure Slow (r:Row):Prop where
 px:-200000<=r.PX/\r.PX<=200000
 py:-200000<=r.PY/\r.PY<=200000
structure Near (d:Int) (r q:Row):Prop where
 x:-d<=r.X-q.X/\r.X-q.X<=d
 y:-d<=r.Y-q.Y/\r.Y-q.Y<=d
theorem Near.refl (r:Row) (d:Int) (h:0<=d):Near d r r:=⟨by omega,by omega⟩
theorem Near.trans {d e:Int} {a b c:Row} (h:Near d a b) (k:Near e b c):Near (d+e) a c:=by
 obtain ⟨h1,h2⟩:=h
 obtain ⟨k1,k2⟩:=k
 exact ⟨by omega,by omega⟩
def sumOf (f:Entry->Int) (s:Store):Int:=((entries s).map f).sum
def pxf (e:Entry):Int:=if moves e.2.1 then e.2.2.PX else 0
def pyf (e:Entry):Int:=if moves e.2.1 then e.2.2.PY else 0
def exf (e:Entry):Int:=if moves e.2.1 then enX e.2.2 else 0
def eyf (e:Entry):Int:=if moves e.2.1 then enY e.2.2 else 0
structure Calm (r:Row):Prop where
 px:-16384<=r.PX/\r.PX<=16384
 py:-16384<=r.PY/\r.PY<=16384
structure Free (w:Wd):Prop where
 loose:∀id m r,at_ w.things id=some (m,r)->moves m=false->bit m 4=false
 light:∀id m r,at_ w.things id=some (m,r)->bit m 16=false
 calm:∀id m r,at_ w.things id=some (m,r)->Calm r
 far:∀id m r,at_ w.things id=some (m,r)->moves m=true->(110000<=r.X/\r.X<=w.wide-110000)/\(110000<=r.Y/\r.Y<=w.high-110000)
structure Inv (w:Wd) (n:Nat) (c:Int->Nat) (t:Store):Prop where
 kept:Kept w.things t
 px:sumOf pxf t=sumOf pxf w.things
 py:sumOf pyf t=sumOf pyf w.things
 ex:sumOf exf t<=6764573491200+n*SWING
 ey:sumOf eyf t<=6764573491200+n*SWING
 near:∀id m q r,at_ w.things id=some (m,q)->at_ t id=some (m,r)->moves m=true->Near (16384+4096*(c id:Int)) r q
structure Gone (w:Wd) (l:List Int) (t:Store):Prop where
 kept:Kept w.things t
 px:sumOf pxf t=sumOf pxf w.things
 py:sumOf pyf t=sumOf pyf w.things
 ex:sumOf exf t=sumOf exf w.things
 ey:sumOf eyf t=sumOf eyf w.things
 near:∀id m q r,at_ w.things id=some (m,q)->at_ t id=some (m,r)->moves m=true->Near 16384 r q/\(id∈l->r=q)
def cnt (id:Int) (l:List Pr):Nat:=l.countP λp=>decide (p.1=id)||decide (p.2=id)
theorem allP_len (l:List Box):2*(allP l).length+l.length<=l.length*l.length:=by
 induction l using snocInd with
 |nil=>simp [allP_nil]
 |snoc l b ih=>
  rw [allP_snoc]
  have h1:(meets1 l b).length<=l.length:=by unfold meets1;rw [List.length_map];exact List.length_filter_le _ _
  simp only [List.length_append,List.length_cons,List.length_nil]
  have h2:(l.length+(0+1))*(l.length+(0+1))=l.length*l.length+2*l.length+1:=by grind
  omega
theorem one_id (l:List Box) (id:Int) (hn:(l.map (·.id)).Nodup):l.countP (λa=>decide (a.id=id))<=if id∈l.map (·.id) then 1 else 0:=by
 induction l with
 |nil=>simp
 |cons a l ih=>
  rw [mC,List.nodup_cons] at hn
  have:=ih hn.2
  rw [List.countP_cons]
  by_cases h:a.id=id
  ·rw [if_neg (by rw [←h];exact hn.1)] at this
   simp only [h,decide_true,if_true,mC,List.mem_cons,true_or]
   omega
  ·have e:(id∈(a::l).map (·.id))↔id∈l.map (·.id):=by
    rw [mC,List.mem_cons]
    exact ⟨λx=>x.resolve_left (λy=>h y.symm),.inr⟩
   simp only [h,decide_false,Bool.false_eq_true,if_false,e]
   omega
theorem cnt_append (id:Int) (a b:List Pr):cnt id (a++b)=cnt id a+cnt id b:=by unfold cnt;exact List.countP_append
theorem cnt_meets1 (id:Int) (l:List Box) (b:Box) (hb:b.id≠id):cnt id (meets1 l b)<=l.countP (λa=>decide (a.id=id)):=by
 unfold cnt meets1
 rw [List.countP_map]
 refine Nat.le_trans (List.Sublist.countP_le (List.filter_sublist)) ?_
 apply List.countP_mono_left
 intro a _ h
 simp only [Function.comp_apply,pairOf,Bool.or_eq_true,decide_eq_true_eq] at h⊢
 omega
theorem cnt_none (id:Int) (l:List Box) (h:id∉l.map (·.id)):cnt id (allP l)=0:=by
 induction l using snocInd with
 |nil=>rfl
 |snoc l b ih=>
  rw [List.map_append,List.mem_append] at h
  have h1:b.id≠id:=λe=>h (.inr (by simp [e]))
  have h2:=cnt_meets1 id l b h1
  have h3:l.countP (λa=>decide (a.id=id))=0:=by
   rw [List.countP_eq_zero]
   intro a ha e
   exact h (.inl (List.mem_map.2 ⟨a,ha,by simpa using e⟩))
  rw [allP_snoc,cnt_append,ih (λx=>h (.inl x))]
  omega
theorem cnt_all (id:Int) (l:List Box) (hn:(l.map (·.id)).Nodup):cnt id (allP l)<=l.length-1:=by
 induction l using snocInd with
 |nil=>exact Nat.zero_le _
 |snoc l b ih=>
  rw [List.map_append,List.nodup_append] at hn
  obtain ⟨n1,_,n3⟩:=hn
  have hi:=ih n1
  rw [allP_snoc,cnt_append]
  simp only [List.length_append,List.length_cons,List.length_nil]
  by_cases h:b.id=id
  ·have h0:=cnt_none id l (λhm=>n3 id hm b.id sS h.symm)
   have h1:cnt id (meets1 l b)<=l.length:=by
    unfold cnt meets1
    refine Nat.le_trans List.countP_le_length ?_
    rw [List.length_map];exact List.length_filter_le _ _
   omega
  ·have h2:=cnt_meets1 id l b h
   have h3:=one_id l id n1
   by_cases hm:id∈l.map (·.id)
   ·rw [if_pos hm] at h3
    have:0<l.length:=by
     rcases List.mem_map.1 hm with ⟨a,ha,_⟩
     exact List.length_pos_of_mem ha
    omega
   ·rw [if_neg hm] at h3
    have h0:=cnt_none id l hm
    omega
theorem query_few {s:Store} (g:GoodS s) (m:Int):(query s m).length<=10:=by
 have h:=(query_sub (l:=s.tables) m).length_le
 have h2:(idsT s.tables).length<=10:=g.2.2.2.1
 rw [query_len]
 omega
theorem pairs_few {s:Store} (g:GoodS s):(pairs (boxes s)).length<=45/\∀id,cnt id (pairs (boxes s))<=9:=by
 unfold pairs
 split
 ·rename_i hg
  have hg':GoodB (boxes s):=by simpa [goodB] using hg
  have hl:(boxes s).length<=10:=by unfold boxes;rw [List.length_map];exact query_few g 5
  unfold sortP
  constructor
  ·rw [List.length_mergeSort]
   have:=allP_len (boxes s)
   have h2:(boxes s).length*(boxes s).length<=10*(boxes s).length:=Nat.mul_le_mul_right _ hl
   omega
  ·intro id
   have h1:cnt id ((allP (boxes s)).mergeSort leP)=cnt id (allP (boxes s)):=(List.mergeSort_perm _ _).countP_eq _
   rw [h1]
   have:=cnt_all id (boxes s) hg'.2
   omega
 ·exact ⟨by simp,λid=>by simp [cnt]⟩
theorem stepN_good (k:Nat) (s:Wd×List Pr) (g:GoodWd s.1):GoodWd (stepN k s).1/\Kept s.1.things (stepN k s).1.things/\(stepN k s).1.fall=s.1.fall/\(stepN k s).1.wide=s.1.wide/\(stepN k s).1.high=s.1.high:=by
 induction k generalizing s with
 |zero=>exact ⟨g,.refl g.things,rfl,rfl,rfl⟩
 |succ k ih=>
  obtain ⟨_,k1,g1,f1,w1,h1⟩:=step_kept g
  obtain ⟨g2,k2,f2,w2,h2⟩:=ih ((step s.1).1,s.2++(step s.1).2.1) g1
  exact ⟨g2,k1.trans k2,f2.trans f1,w2.trans w1,h2.trans h1⟩
theorem stepN_add (a b:Nat) (s:Wd×List Pr):stepN (a+b) s=stepN b (stepN a s):=by
 induction a generalizing s with
 |zero=>rw [Nat.zero_add];rfl
 |succ a ih=>rw [Nat.succ_add];exact ih _
structure GoodG (g:Game):Prop where
 w:GoodWd g.w
 saves:∀s∈g.saves,GoodWd s
theorem things_good {w:Wd} (g:GoodWd w) {s:Store} (h:GoodS s):GoodWd {w with things:=s}:=⟨h,g.fall,g.wide,g.high⟩
theorem spawn_keeps {s:Store} (g:GoodS s) (m:Int) (r:Row):GoodS (spawn s m r).1:=by
 by_cases h:(spawn s m r).2.2=0
 ·exact (spawn_good h).1
 ·have:(spawn s m r).1=s:=by
   unfold spawn at h⊢
   split
   ·rfl
   ·rename_i h1
    split
    ·rfl
    ·rename_i h2
     split
     ·rfl
     ·rename_i h3
      rw [if_neg h1,if_neg h2,if_neg h3] at h
      exact absurd rfl h
  rw [this];exact g
theorem kill_keeps {s:Store} (g:GoodS s) (id:Int):GoodS (kill s id).1:=by
 by_cases h:(kill s id).2=0
 ·obtain ⟨_,_,_,_,h,_⟩:=kill_ok h
  exact h
 ·have:(kill s id).1=s:=by
   unfold kill at h⊢
   split
   ·rfl
   ·split
    ·rfl
    ·rename_i h1 _ _ _ h2
     rw [if_neg h1,h2] at h
     exact absurd rfl h
  rw [this];exact g
theorem change_keeps {s:Store} (g:GoodS s) (id m:Int) (r:Row):GoodS (change s id m r).1:=by
 by_cases h:(change s id m r).2=0
 ·obtain ⟨_,_,_,_,h,_⟩:=change_ok h
  exact h
 ·have:(change s id m r).1=s:=by
   unfold change at h⊢
   split
   ·rfl
   ·split
    ·rfl
    ·rename_i h1 _ _ _ h2
     rw [if_neg h1,h2] at h
     simp only at h⊢
     split
     ·rfl
     ·rename_i h3
      rw [if_neg h3] at h
      exact absurd rfl h
  rw [this];exact g
theorem set_keeps {s:Store} (g:GoodS s) (id:Int) (r:Row):GoodS (set s id r).1:=by
 by_cases h:(set s id r).2=0
 ·obtain ⟨_,_,_,_,h,_⟩:=set_ok h
  exact h
 ·have:(set s id r).1=s:=by
   unfold set at h⊢
   split
   ·rfl
   ·split
    ·rfl
    ·rename_i h1 _ _ _ h2
     rw [if_neg h1,h2] at h
     simp only at h⊢
     split
     ·rfl
     ·rename_i h3
      rw [if_neg h3] at h
      exact absurd rfl h
  rw [this];exact g
theorem GoodG.things {g:Game} (h:GoodG g) {s:Store} (hs:GoodS s) (k:Int):GoodG (withThings {g with acts:=k} s):=⟨things_good h.w hs,h.saves⟩
theorem doAct_good {g:Game} (h:GoodG g) (a:Act):GoodG (doAct g a).1:=by
 unfold doAct
 split
 ·exact h
 ·simp only
  split
  ·exact h.things (spawn_keeps h.w.things _ _) _
  ·split
   ·exact h.things (kill_keeps h.w.things _) _
   ·split
    ·split
     ·exact ⟨h.w,h.saves⟩
     ·split
      ·exact ⟨h.w,h.saves⟩
      ·exact h.things (change_keeps h.w.things _ _ _) _
    ·split
     ·split
      ·exact ⟨h.w,h.saves⟩
      ·split
       ·exact ⟨h.w,h.saves⟩
       ·exact h.things (set_keeps h.w.things _ _) _
     ·split
      ·split
       ·exact ⟨h.w,h.saves⟩
       ·exact ⟨(stepN_good _ _ h.w).1,h.saves⟩
      ·split
       ·split
        ·exact ⟨h.w,h.saves⟩
        ·refine ⟨h.w,λs hs=>?_⟩
         simp only [List.mem_append,List.mem_singleton] at hs
         rcases hs with hs|rfl
         ·exact h.saves s hs
         ·exact h.w
       ·split
        ·split
         ·exact ⟨h.w,h.saves⟩
         ·rename_i hn
          refine ⟨?_,h.saves⟩
          have hlt:a.n.toNat<g.saves.length:=by omega
          show GoodWd (g.saves.getD a.n.toNat g.w)
          rw [List.getD_eq_getElem?_getD,List.getElem?_eq_getElem hlt]
          exact h.saves _ (List.getElem_mem hlt)
        ·split
         ·exact ⟨h.w,h.saves⟩
         ·exact ⟨h.w,h.saves⟩
theorem set_good {s:Store} (g:GoodS s) (id:Int) (r:Row):GoodS (set s id r).1:=by
 by_cases h:(set s id r).2=0
 ·obtain ⟨_,_,_,_,k,_⟩:=set_ok h
  exact k
 ·have e:(set s id r).1=s:=by
   revert h
   unfold set
   split
   ·intro _;rfl
   ·split
    ·intro _;rfl
    ·split
     ·intro _;rfl
     ·intro h;exact absurd rfl h
  rw [e];exact g
theorem fits_small {m:Int} {r:Row} (hf:Fits m r):((-1048576<=r.X/\r.X<=1048576)/\(-1048576<=r.Y/\r.Y<=1048576))/\((-16777216<=r.PX/\r.PX<=16777216)/\(-16777216<=r.PY/\r.PY<=16777216))/\((0<=r.W/\r.W<=4096)/\(0<=r.H/\r.H<=4096))/\((0<=r.M/\r.M<=9)/\(0<=r.R/\r.R<=256)):=by
 have a1:(-1048576<=r.X/\r.X<=1048576)/\(-1048576<=r.Y/\r.Y<=1048576):=by
  cases h:bit m 1
  ·have:=hf.p1 h;omega
  ·have:=hf.q1 h;omega
 have a2:(-16777216<=r.PX/\r.PX<=16777216)/\(-16777216<=r.PY/\r.PY<=16777216):=by
  cases h:bit m 2
  ·have:=hf.p2 h;omega
  ·have:=hf.q2 h;omega
 have a4:(0<=r.W/\r.W<=4096)/\(0<=r.H/\r.H<=4096):=by
  cases h:bit m 4
  ·have:=hf.p4 h;omega
  ·have:=hf.q4 h;omega
 have a8:(0<=r.M/\r.M<=9)/\(0<=r.R/\r.R<=256):=by
  cases h:bit m 8
  ·have:=hf.p8 h;omega
  ·have:=hf.q8 h;omega
 exact ⟨a1,a2,a4,a8⟩
def Small (r:Row):Prop:=((-1048576<=r.X/\r.X<=1048576)/\(-1048576<=r.Y/\r.Y<=1048576))/\((-16777216<=r.PX/\r.PX<=16777216)/\(-16777216<=r.PY/\r.PY<=16777216))/\((0<=r.W/\r.W<=4096)/\(0<=r.H/\r.H<=4096))/\((0<=r.M/\r.M<=9)/\(0<=r.R/\r.R<=256))
theorem get_small {s:Store} (g:GoodS s) (id:Int):Small (get s id).2.1:=by
 rw [get_at g]
 cases e:at_ s id with
 |none=>unfold Small asGot row0;simp
 |some p=>
  obtain ⟨m,r⟩:=p
  exact fits_small (at_fits g e)
theorem backTo_good {s:Store} (g:GoodS s) (id m:Int) (r:Row):GoodS (backTo s id m r):=by
 unfold backTo
 split
 ·exact set_good g _ _
 ·exact g
def selT (m:Int) (l:List Table):List Int:=l.flatMap λt=>if bits .and .i64 t.mask m=m then t.ids else []
theorem selT_step {l:List Table} {n:Nat} {t:Table} (m:Int) (h:l[n]?=some t):selT m (l.take (n+1))=selT m (l.take n)++(if bits .and .i64 t.mask m=m then t.ids else []):=by
 unfold selT
 rw [List.take_add_one,h]
 simp
theorem selT_le (m:Int) (l:List Table):(selT m l).length<=(idsT l).length:=(query_sub m).length_le
theorem selT_len {l:List Table} {n:Nat} {t:Table} (m:Int) (h:l[n]?=some t):(selT m (l.take n)).length+t.ids.length<=(idsT l).length:=by
 have h1:=selT_le m (l.take n)
 have h2:l=l.take n++t::l.drop (n+1):=by
  obtain ⟨hl,e⟩:=List.getElem?_eq_some_iff.1 h
  rw [←e,←List.drop_eq_getElem_cons hl,List.take_append_drop]
 have h3:(idsT l).length=(idsT (l.take n)).length+t.ids.length+(idsT (l.drop (n+1))).length:=by
  conv=>lhs;rw [h2]
  unfold idsT
  simp
  omega
 omega
structure PlainAct (a:Act):Prop where
 save:a.kind≠7
 load:a.kind≠8
theorem doAct_acts (g:Game) (a:Act):(doAct g a).1.acts=if 150<=g.acts then g.acts else g.acts+1:=by
 unfold doAct
 split
 ·rfl
 ·simp only
  (repeat' split)<;>rfl
theorem doAct_saves {g:Game} {a:Act} (h:a.kind≠7):(doAct g a).1.saves=g.saves:=by
 unfold doAct
 split
 ·rfl
 ·simp only
  (repeat' split)<;>first|rfl|(exact absurd ‹_› h)
theorem doAct_alike {g h:Game} (hw:g.w=h.w) {a:Act} (ha:PlainAct a) (hg:g.acts<150) (hh:h.acts<150):(doAct g a).2=(doAct h a).2/\(doAct g a).1.w=(doAct h a).1.w:=by
 obtain ⟨gw,gs,ga⟩:=g
 obtain ⟨hw',hs,ha'⟩:=h
 simp only at hw hg hh
 subst hw
 have h7:=ha.save
 have h8:=ha.load
 unfold doAct
 have g1:¬(150<=(Game.mk gw gs ga).acts):=by show ¬(150<=ga);omega
 have g2:¬(150<=(Game.mk gw hs ha').acts):=by show ¬(150<=ha');omega
 rw [if_neg g1,if_neg g2]
 by_cases k1:a.kind=1
 ·simp only [if_pos k1];exact ⟨by trivial,by trivial⟩
 by_cases k2:a.kind=2
 ·simp only [if_neg k1,if_pos k2];exact ⟨by trivial,by trivial⟩
 by_cases k3:a.kind=3\/a.kind=4
 ·simp only [if_neg k1,if_neg k2,if_pos k3]
  by_cases c1:(get gw.things a.id).2.2=false
  ·simp only [if_pos c1];exact ⟨by trivial,by trivial⟩
  ·simp only [if_neg c1]
   by_cases c2:(one a.mask && ((bits .and .i64 (get gw.things a.id).1 a.mask !=0)==(a.kind==4)))=false
   ·simp only [if_pos c2];exact ⟨by trivial,by trivial⟩
   ·simp only [if_neg c2];exact ⟨by trivial,by trivial⟩
 by_cases k5:a.kind=5
 ·simp only [if_neg k1,if_neg k2,if_neg k3,if_pos k5]
  by_cases c1:(get gw.things a.id).2.2=false
  ·simp only [if_pos c1];exact ⟨by trivial,by trivial⟩
  ·simp only [if_neg c1]
   by_cases c2:bit (get gw.things a.id).1 2=false
   ·simp only [if_pos c2];exact ⟨by trivial,by trivial⟩
   ·simp only [if_neg c2];exact ⟨by trivial,by trivial⟩
 by_cases k6:a.kind=6
 ·simp only [if_neg k1,if_neg k2,if_neg k3,if_neg k5,if_pos k6]
  by_cases c1:a.n<1\/8<a.n
  ·simp only [if_pos c1];exact ⟨by trivial,by trivial⟩
  ·simp only [if_neg c1];exact ⟨by trivial,by trivial⟩
 by_cases k9:a.kind=9
 ·simp only [if_neg k1,if_neg k2,if_neg k3,if_neg k5,if_neg k6,if_neg h7,if_neg h8,if_pos k9];exact ⟨by trivial,by trivial⟩
 ·simp only [if_neg k1,if_neg k2,if_neg k3,if_neg k5,if_neg k6,if_neg h7,if_neg h8,if_neg k9];exact ⟨by trivial,by trivial⟩
def runActs (g:Game):List Act->Game×List Reply
 |[]=>(g,[])
 |a::l=>((runActs (doAct g a).1 l).1,(doAct g a).2::(runActs (doAct g a).1 l).2)
theorem runActs_len (g:Game) (l:List Act):(runActs g l).2.length=l.length:=by
 induction l generalizing g with
 |nil=>rfl
 |cons a l ih=>simp [runActs,ih]
theorem runActs_append (g:Game) (l k:List Act):runActs g (l++k)=((runActs (runActs g l).1 k).1,(runActs g l).2++(runActs (runActs g l).1 k).2):=by
 induction l generalizing g with
 |nil=>rfl
 |cons a l ih=>simp [runActs,ih]
theorem runActs_take (g:Game) (l:List Act) (k:Nat):(runActs g (l.take k)).2=(runActs g l).2.take k:=by
 induction l generalizing g k with
 |nil=>simp [runActs]
 |cons a l ih=>
  cases k with
  |zero=>simp [runActs]
  |succ k=>simp [runActs,ih]
theorem runActs_acts (g:Game) (l:List Act) (h:g.acts+l.length<=150):(runActs g l).1.acts=g.acts+l.length:=by
 induction l generalizing g with
 |nil=>simp [runActs]
 |cons a l ih=>
  simp only [List.length_cons] at h
  have e:=doAct_acts g a
  rw [if_neg bO] at e
  simp only [runActs,List.length_cons]
  rw [ih _ (by rw [e];omega),e]
  omega
theorem runActs_saves (g:Game) (l:List Act) (h:∀a∈l,a.kind≠7):(runActs g l).1.saves=g.saves:=by
 induction l generalizing g with
 |nil=>rfl
 |cons a l ih=>
  simp only [runActs]
  rw [ih _ (λb hb=>h b (List.mem_cons_of_mem _ hb)),doAct_saves (h a sS)]
theorem runActs_alike {g h:Game} (hw:g.w=h.w) {l:List Act} (hl:∀a∈l,PlainAct a) (hg:g.acts+l.length<=150) (hh:h.acts+l.length<=150):(runActs g l).2=(runActs h l).2/\(runActs g l).1.w=(runActs h l).1.w:=by
 induction l generalizing g h with
 |nil=>exact ⟨rfl,hw⟩
 |cons a l ih=>
  simp only [List.length_cons] at hg hh
  obtain ⟨e1,e2⟩:=doAct_alike hw (hl a sS) bO bO
  have a1:=doAct_acts g a
  have a2:=doAct_acts h a
  rw [if_neg bO] at a1 a2
  obtain ⟨e3,e4⟩:=ih e2 (λb hb=>hl b (List.mem_cons_of_mem _ hb)) (by rw [a1];omega) (by rw [a2];omega)
  simp only [runActs]
  exact ⟨by rw [e1,e3],e4⟩
theorem runActs_good {g:Game} (h:GoodG g) (l:List Act):GoodG (runActs g l).1:=by
 induction l generalizing g with
 |nil=>exact h
 |cons a l ih=>exact ih (doAct_good h a)
theorem doAct_save {g:Game} {a:Act} (ha:a.kind=7) (hc:(doAct g a).2.code=0):g.saves.length<3/\(doAct g a).2=⟨0,g.saves.length,[],[]⟩/\(doAct g a).1={g with saves:=g.saves++[g.w],acts:=g.acts+1}:=by
 revert hc
 unfold doAct
 split
 ·intro h;simp [no] at h
 ·simp only [ha]
  simp only [show ¬((7:Int)=1) by decide,show ¬((7:Int)=2) by decide,show ¬((7:Int)=3\/(7:Int)=4) by decide,show ¬((7:Int)=5) by decide,show ¬((7:Int)=6) by decide,if_false,if_true]
  split
  ·intro h;simp [no] at h
  ·intro _
   exact ⟨by omega,rfl,rfl⟩
theorem doAct_load {g:Game} {a:Act} (ha:a.kind=8) (hg:g.acts<150) {k:Nat} (hn:a.n=k) {w:Wd} (hk:g.saves[k]?=some w):(doAct g a).2=no 0/\(doAct g a).1.w=w:=by
 have hlt:=(List.getElem?_eq_some_iff.1 hk).1
 unfold doAct
 rw [if_neg bO]
 simp only [ha]
 simp only [show ¬((8:Int)=1) by decide,show ¬((8:Int)=2) by decide,show ¬((8:Int)=3\/(8:Int)=4) by decide,show ¬((8:Int)=5) by decide,show ¬((8:Int)=6) by decide,show ¬((8:Int)=7) by decide,if_false,if_true]
 rw [if_neg bO]
 refine ⟨rfl,?_⟩
 show g.saves.getD a.n.toNat g.w=w
 rw [hn,Int.toNat_natCast,List.getD_eq_getElem?_getD,hk]
 rfl
theorem again {g:Game} {s:Act} (hs:s.kind=7) (hc:(doAct g s).2.code=0) {l:List Act} (hl:∀a∈l,PlainAct a) (hn:g.acts+2*l.length+2<=150) {b:Act} (hb:b.kind=8) (hbn:b.n=(doAct g s).2.n):
  let g1:=(doAct g s).1
  let g2:=(runActs g1 l).1
  let g3:=(doAct g2 b).1
  (doAct g2 b).2.code=0/\g3.w=g1.w/\(runActs g3 l).2=(runActs g1 l).2/\(runActs g3 l).1.w=g2.w:=by
 obtain ⟨h1,h2,h3⟩:=doAct_save hs hc
 have hbn':b.n=(g.saves.length:Int):=by rw [hbn,h2]
 simp only
 have e1:(doAct g s).1.acts=g.acts+1:=by rw [h3]
 have e2:(doAct g s).1.w=g.w:=by rw [h3]
 have e3:(runActs (doAct g s).1 l).1.saves=g.saves++[g.w]:=by rw [runActs_saves _ _ (λa ha=>(hl a ha).save),h3]
 have e4:=runActs_acts (doAct g s).1 l (by rw [e1];omega)
 obtain ⟨f1,f2⟩:=doAct_load (g:=(runActs (doAct g s).1 l).1) hb (by rw [e4,e1];omega) hbn' (w:=g.w) (by rw [e3];simp)
 have e5:=doAct_acts (runActs (doAct g s).1 l).1 b
 rw [if_neg (by rw [e4,e1];omega)] at e5
 obtain ⟨k1,k2⟩:=runActs_alike (g:=(doAct (runActs (doAct g s).1 l).1 b).1) (h:=(doAct g s).1) (by rw [f2,e2]) hl (by rw [e5,e4,e1];omega) (by rw [e1];omega)
 exact ⟨by rw [f1];rfl,by rw [f2,e2],k1,k2⟩
def more (g:Game):Game:={g with acts:=g.acts+1}
def changeG (s:Store) (a:Act):Store×Int:=
 if (get s a.id).2.2=false then (s,3)
 else if (one a.mask && ((bits .and .i64 (get s a.id).1 a.mask !=0)==(a.kind==4)))=false then (s,1)
 else change s a.id (bits .xor .i64 (get s a.id).1 a.mask) a.row
def kickRow (r q:Row):Row:={r with PX:=add r.PX q.PX 16777216,PY:=add r.PY q.PY 16777216}
def kickG (s:Store) (a:Act):Store×Int:=
 if (get s a.id).2.2=false then (s,3)
 else if bit (get s a.id).1 2=false then (s,1)
 else set s a.id (kickRow (get s a.id).2.1 a.row)
theorem doAct_change {g:Game} {a:Act} (hg:g.acts<150) (hk:a.kind=3\/a.kind=4):doAct g a=(withThings (more g) (changeG g.w.things a).1,no (changeG g.w.things a).2):=by
 unfold doAct
 rw [if_neg bO]
 simp only
 rw [if_neg bO,if_neg bO,if_pos hk]
 unfold changeG
 split
 ·rfl
 ·split
  ·rfl
  ·rfl
theorem doAct_kick {g:Game} {a:Act} (hg:g.acts<150) (hk:a.kind=5):doAct g a=(withThings (more g) (kickG g.w.things a).1,no (kickG g.w.things a).2):=by
 unfold doAct
 rw [if_neg bO]
 simp only
 rw [if_neg bO,if_neg bO,if_neg bO,if_pos hk]
 unfold kickG
 split
 ·rfl
 ·split
  ·rfl
  ·rfl
def stepG (g:Game) (n:Int):Game×Reply:=
 if n<1\/8<n then (g,no 2) else ({g with w:=(stepN n.toNat (g.w,[])).1},⟨0,(stepN n.toNat (g.w,[])).2.length,[],(stepN n.toNat (g.w,[])).2⟩)
theorem doAct_step {g:Game} {a:Act} (hg:g.acts<150) (hk:a.kind=6):doAct g a=stepG (more g) a.n:=by
 unfold doAct
 rw [if_neg bO]
 simp only
 rw [if_neg bO,if_neg bO,if_neg bO,if_neg bO,if_pos hk]
 unfold stepG
 rfl
theorem foldMeet_len (l:List Pr) (t:Store×List Pr):(l.foldl meetStep t).2.length<=t.2.length+l.length:=by
 induction l generalizing t with
 |nil=>simp
 |cons p l ih=>
  rw [List.foldl_cons,List.length_cons]
  refine Nat.le_trans (ih _) ?_
  have:(meetStep t p).2.length<=t.2.length+1:=by
   unfold meetStep
   simp only
   split
   ·simp
   ·omega
  omega
theorem step_few {d:Wd} (g:GoodWd d):(step d).2.1.length<=45:=by
 unfold step
 rw [if_pos (goodW_iff.2 g)]
 have h1:=foldMeet_len (pairs (boxes (gone d))) (gone d,[])
 have h2:=(pairs_few (kept_gone g.things).good).1
 have e:(met d).2=((pairs (boxes (gone d))).foldl meetStep (gone d,[])).2:=rfl
 simp only [e]
 simp only [List.length_nil] at h1
 omega
theorem stepN_last (k:Nat) (s:Wd×List Pr):stepN (k+1) s=((step (stepN k s).1).1,(stepN k s).2++(step (stepN k s).1).2.1):=by
 rw [stepN_add]
 rfl
def box14:Box:=⟨0,0,0,0,0⟩
def game14 (x:Int) (k:Int):Game:=⟨wd14 x,[],k⟩
def new14:Game:=⟨⟨⟨[],0⟩,0,1000,1000⟩,[],0⟩
theorem alive1:doAct new14 ⟨1,0,0,11,row14 500,box14⟩=(game14 500 1,⟨0,0,[],[]⟩):=by
 unfold doAct
 rw [if_neg dC]
 simp only
 rw [if_pos trivial]
 rw [show spawn new14.w.things 11 (row14 500)=(st14 500,0,0) from spawn14]
 rfl
theorem alive2:doAct (game14 500 1) ⟨6,0,2,0,row0,box14⟩=(game14 514 2,⟨0,0,[],[]⟩):=by
 rw [doAct_step dC rfl]
 have e:stepN 2 (wd14 500,[])=(wd14 514,[]):=by
  show stepN 1 ((step (wd14 500)).1,[]++(step (wd14 500)).2.1)=_
  rw [step14]
  show stepN 0 ((step (wd14 507)).1,([]++[])++(step (wd14 507)).2.1)=_
  rw [step14b]
  rfl
 have h:stepG (more (game14 500 1)) 2=({more (game14 500 1) with w:=(stepN 2 (wd14 500,[])).1},⟨0,(stepN 2 (wd14 500,[])).2.length,[],(stepN 2 (wd14 500,[])).2⟩):=by
  unfold stepG
  rw [if_neg dC]
  rfl
 show stepG (more (game14 500 1)) 2=_
 rw [h,e]
 rfl
theorem alive3:get (game14 514 2).w.things 0=(11,row14 514,true):=get14b
theorem goodG14:GoodG new14:=⟨goodW_iff.1 dC,λw h=>by cases h⟩
theorem doAct_acts0 {g:Game} (a:Act) (h:0<=g.acts):0<=(doAct g a).1.acts:=by
 rw [doAct_acts]
 split<;>omega
def runK (g:Game) (l:List Act) (k:Nat):Game×List Reply:=runActs g (l.take k)
theorem runK_succ (g:Game) {l:List Act} {k:Nat} {x:Act} (h:l[k]?=some x):runK g l (k+1)=((doAct (runK g l k).1 x).1,(runK g l k).2++[(doAct (runK g l k).1 x).2]):=by
 unfold runK
 rw [List.take_add_one,h,runActs_append]
 rfl
theorem runK_len (g:Game) (l:List Act) {k:Nat} (hk:k<=l.length):(runK g l k).2.length=k:=by
 unfold runK
 rw [runActs_len,List.length_take]
 omega
theorem runK_all (g:Game) (l:List Act):runK g l l.length=runActs g l:=by
 unfold runK
 rw [List.take_length]
theorem runK_good {g:Game} (h:GoodG g) (l:List Act) (k:Nat):GoodG (runK g l k).1:=runActs_good h _
theorem runActs_acts0 {g:Game} (h:0<=g.acts) (l:List Act):0<=(runActs g l).1.acts:=by
 induction l generalizing g with
 |nil=>exact h
 |cons a l ih=>exact ih (doAct_acts0 a h)
theorem runK_acts0 {g:Game} (h:0<=g.acts) (l:List Act) (k:Nat):0<=(runK g l k).1.acts:=runActs_acts0 h _
theorem run_at (g:Game) {l:List Act} {k:Nat} {x:Act} (h:l[k]?=some x):(runActs g l).2[k]?=some (doAct (runK g l k).1 x).2:=by
 have hlt:=(List.getElem?_eq_some_iff.1 h).1
 have e:=runK_succ g h
 have e2:=runActs_take g l (k+1)
 have e3:(runK g l (k+1)).2=(runActs g l).2.take (k+1):=e2
 rw [e] at e3
 have hl:(runK g l k).2.length=k:=runK_len g l bO
 have:((runActs g l).2.take (k+1))[k]?=some (doAct (runK g l k).1 x).2:=by
  rw [←e3,List.getElem?_append_right bO,hl,Nat.sub_self]
  rfl
 rw [List.getElem?_take] at this
 split at this
 ·exact this
 ·cases this
structure InDoc (g:Game):Prop where
 good:GoodG g
 few:g.saves.length<=3
 lo:0<=g.acts
 hi:g.acts<=150
theorem doAct_few {g:Game} (a:Act) (h:g.saves.length<=3):(doAct g a).1.saves.length<=3:=by
 by_cases hk:a.kind=7
 ·obtain ⟨kind,id,n,mask,row,box⟩:=a
  simp only at hk
  subst hk
  unfold doAct
  by_cases h1:150<=g.acts
  ·rw [if_pos h1]
   exact h
  ·rw [if_neg h1]
   simp only
   rw [if_neg bO,if_neg bO,if_neg bO,if_neg bO,if_neg bO,if_pos trivial]
   by_cases h2:3<=g.saves.length
   ·rw [if_pos h2]
    exact h
   ·rw [if_neg h2]
    show (g.saves++[g.w]).length<=3
    rw [List.length_append]
    simp
    omega
 ·rw [doAct_saves hk]
  exact h
theorem InDoc.next {g:Game} (h:InDoc g) (a:Act):InDoc (doAct g a).1:=by
 refine ⟨doAct_good h.good a,doAct_few a h.few,?_,?_⟩
 ·rw [doAct_acts]
  have:=h.lo
  split<;>omega
 ·rw [doAct_acts]
  have:=h.hi
  split<;>omega
theorem InDoc.all {g:Game} (h:InDoc g) (l:List Act):InDoc (runActs g l).1:=by
 induction l generalizing g with
 |nil=>exact h
 |cons a l ih=>exact ih (h.next a)
theorem InDoc.kth {g:Game} (h:InDoc g) (l:List Act) (k:Nat):InDoc (runK g l k).1:=h.all _
theorem inDoc_new {wide high fall:Int} (hg:goodW ⟨⟨[],0⟩,fall,wide,high⟩=true):InDoc ⟨⟨⟨[],0⟩,fall,wide,high⟩,[],0⟩:=
 ⟨⟨goodW_iff.1 hg,λs hs=>by cases hs⟩,by simp,by simp,by simp⟩
end Go.Proofs.YtemkbjaojinaoaaGreat.M
