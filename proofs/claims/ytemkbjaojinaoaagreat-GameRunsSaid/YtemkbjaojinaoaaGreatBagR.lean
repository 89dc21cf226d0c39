/- Several small texts in one. No condition of its own: each part says its own. -/
import Derived.Test.YtemkbjaojinaoaaGreatShort
import Derived.Test.YtemkbjaojinaoaaGreatBagW
import Derived.Laws.Tables
import Derived.Laws.Rows
import Derived.Laws.CopyOwn
import Derived.Deep.MidRow
import Derived.Test.YtemkbjaojinaoaaGreatBagH
import Derived.Test.YtemkbjaojinaoaaGreatBagA
import Derived.Maps.AppendAt
import Derived.Test.YtemkbjaojinaoaaGreatBagP
set_option linter.unusedVariables false
set_option linter.unusedSimpArgs false
set_option maxRecDepth 100000
set_option maxHeartbeats 8000000
namespace Go.Proofs.YtemkbjaojinaoaaGreat
open Go.RowKit
section
variable {ops:Array Oper} {rest:List Oper} {op:Oper} {a:Act} {w:World} {Q:Exit->Act->World->Prop} {x:M.Act}
theorem wpList_load_act (hgd:op.guard=none) (s:Operand) (ho:op.op=.load 42 s) (b o:Nat) (hs:a.eval s=.pointer (some ⟨b,o,none⟩)) (hc:ActCells w b o x) (h:wpList Tryz.prog ops Q rest (a.put op.dst (actV x)) w):wpList Tryz.prog ops Q (op::rest) a w:=
 wpList_load_mid hgd 42 s ho b o hs (actL x) _ hc Tryz.underlying42 rfl kR h
theorem wpList_load_actB (hgd:op.guard=none) (s:Operand) (ho:op.op=.load 42 s) (g:Nat) (hs:a.eval s=.pointer (some ⟨g,0,none⟩)) (hB:Blk w g 42 (actC x)) (h:wpList Tryz.prog ops Q rest (a.put op.dst (actV x)) w):wpList Tryz.prog ops Q (op::rest) a w:=
 wpList_load_row hgd 42 s ho g hs 42 (actC x) (0,0) _ hB Tryz.underlying42 rfl kR h
theorem wpList_store_actB (hgd:op.guard=none) (s y:Operand) (ho:op.op=.store 42 s y) (g:Nat) (hs:a.eval s=.pointer (some ⟨g,0,none⟩)) (hy:a.eval y=actV x) {old:Array Value} (hB:Blk w g 42 old) (hsz:old.size=17)
  (h:∀W,Blk W g 42 (actC x)->(∀k,k≠g->W.heap[k]?=w.heap[k]?)->W.heap.size=w.heap.size->(∀{B:Nat} {w0:World},Below B w0 w->B<=g->Below B w0 W)->wpList Tryz.prog ops Q rest (a.put op.dst undef) W):wpList Tryz.prog ops Q (op::rest) a w:=
 wpList_store_row hgd 42 s y ho g (actC x) hs hy 42 old hB kR hsz (show (actL x).toArray.all (·.oneCell')=true from all_oneCell_toArray (λv hv=>acts_one [x] v (by simpa using hv)))
  (h _ (setRow_heap w g old (actC x) 42 (0,0) hB) (λk hk=>setRow_other w g k _ hk) (setRow_size w g _) (λhb h1=>below_setRow hb h1 _))
end
theorem infoAct:(Tryz.prog.info? 42).map (λi=>(i.zero,i.size,i.bytes))=some (some (actV ⟨0,0,0,0,⟨0,0,0,0,0,0,0,0⟩,⟨0,0,0,0,0⟩⟩),17,136):=by kernel_rfl
theorem run_append_acts {w:World} {lo:Nat} {v:Value} {l:List M.Act} (h:ActsAt w lo v l) (hl:l.length*136<=140737488355328) (ty:TypeId):
  ∃v' w',(Builtin.append_ #[22,22] ty #[.slice none 0 0,v]).run Tryz.prog w=.ok v' w'/\w'.ownsRow w.heap.size 42 17 v' l.length (l.flatMap actL)/\Below w.heap.size w w':=by
 obtain ⟨i0,hi,hz0,hz1,hz2⟩:=info_parts infoAct
 obtain ⟨h1,hm,a,cap,rfl,hc⟩:=h
 cases a with
 |none=>
  have hx:l.flatMap actL=[]:=by
   rcases List.eq_nil_or_concat (l.flatMap actL) with e|⟨xs,y,e⟩
   ·exact e
   ·obtain ⟨b,o,hb,_⟩:=hc (by rw [e];simp)
    cases hb
  have h0:l.length=0:=by
   have:=acts_len l
   rw [hx] at this
   simp only [List.length_nil] at this
   omega
  rw [hx,h0]
  exact ⟨_,w,run_append_none w w.heap.size _ ty _ i0 17 Tryz.underlying22 hi hz1 _ 0 [] oN cap,World.ownsRow_nil _ _ _ _,Below.refl _ _⟩
 |some ad=>
  have hcc:∀j u,(l.flatMap actL)[j]?=some u->w.cell? (ad.add j)=some u:=by
   intro j u hj
   obtain ⟨b,o,hb,_,hcell⟩:=hc (by intro e;rw [e] at hj;simp at hj)
   simp only [Option.some.injEq] at hb
   subst hb
   rw [Addr.add_mid]
   exact hcell j u hj
  obtain ⟨v',w',hr,k1,k2,_,_⟩:=run_append_own_at (P:=Tryz.prog) w w.heap.size 22 ty 42 i0 _ 17 136 Tryz.underlying22 hi hz0 hz1 hz2 rfl bO (.slice none 0 0) 0 [] oN ad l.length cap (l.flatMap actL) (acts_len l) hcc (acts_one l) (by unfold maxLen;omega) bO lR
  refine ⟨v',w',hr,by simpa using k1,(Below.refl _ w).grown k2 lR (λk hk=>by cases hk)⟩
theorem wpList_append_acts {ops:Array Oper} {rest:List Oper} {o:Oper} {a:Act} {w:World} {Q:Exit->Act->World->Prop} (hgd:o.guard=none) (s x:Operand)
  (ho:o.op=.call {callee:=.builtin .append,args:=#[s,x],argTypes:=#[22,22]}) (hs:a.eval s=.slice none 0 0) {lo:Nat} {v:Value} {l:List M.Act} (hx:a.eval x=v) (hv:ActsAt w lo v l) (hl:l.length*136<=140737488355328)
  (h:∀v' w',w'.ownsRow w.heap.size 42 17 v' l.length (l.flatMap actL)->Below w.heap.size w w'->wpList Tryz.prog ops Q rest (a.put o.dst v') w'):wpList Tryz.prog ops Q (o::rest) a w:=by
 refine wpList_plain hgd λK hK=>?_
 obtain ⟨v',w',hr,h2,h3⟩:=run_append_acts hv hl o.type
 unfold Oper.wp execOp
 simp only [ho,resolve,invoke,builtin,Sem.run_bind,Sem.run_pure,Result.andThen_ok,mA,mC,mN,hs,hx,hr]
 exact hK _ _ (h v' w' h2 h3)
theorem ActsAt.of_own {w:World} {base:Nat} {v:Value} {l:List M.Act} (h:w.ownsRow base 42 17 v l.length (l.flatMap actL)):ActsAt w base v l:=Lies.of_owns h
theorem ActsAt.take {w:World} {lo:Nat} {a:Option Addr} {n c:Nat} {l:List M.Act} (h:ActsAt w lo (.slice a n c) l) {k:Nat} (hk:k<=l.length):ActsAt w lo (.slice a k c) (l.take k):=by
 obtain ⟨h1,hm,a',cap,e,hc⟩:=h
 obtain ⟨rfl,rfl,rfl⟩:a=a'/\n=l.length/\c=cap:=by simpa using e
 have hlen:(l.take k).length=k:=by rw [List.length_take];omega
 refine ⟨acts_len _,by rw [hlen];omega,a,c,by rw [hlen],λhne=>?_⟩
 have hpre:∀(j:Nat) (u:Value),((l.take k).flatMap actL)[j]?=some u->(l.flatMap actL)[j]?=some u:=by
  intro j u hj
  have e2:l.flatMap actL=(l.take k).flatMap actL++(l.drop k).flatMap actL:=by rw [←List.flatMap_append,List.take_append_drop]
  rw [e2,List.getElem?_append_left (List.getElem?_eq_some_iff.1 hj).1]
  exact hj
 obtain ⟨b,o,ea,hl2,hcell⟩:=hc (by
  intro e3
  obtain ⟨u,hu⟩:∃u,((l.take k).flatMap actL)[0]?=some u:=⟨_,List.getElem?_eq_getElem (List.length_pos_iff.2 hne)⟩
  have:=hpre 0 u hu
  rw [e3] at this
  simp at this)
 exact ⟨b,o,ea,hl2,λj u hj=>hcell j u (hpre j u hj)⟩
section
variable {H:Type} {enc:TypeId×Value->H} {w:World} {base:Nat} {spare:Nat->Bool} {held:Bool} {fuel:Nat}
open Go.ChangeShapes Go.WideShapes Go.ChangeAt Go.RowKit Go.Deep
end
def repL (p:M.Reply×(Value×Value)):List Value:=[.int .i64 p.1.code,.int .i64 p.1.n,p.2.1,p.2.2]
def repsL (rs:List M.Reply) (hr:List (Value×Value)):List Value:=(rs.zip hr).flatMap repL
theorem repsL_snoc (rs:List M.Reply) (hr:List (Value×Value)) (h:hr.length=rs.length) (r:M.Reply) (p:Value×Value):repsL (rs++[r]) (hr++[p])=repsL rs hr++[.int .i64 r.code,.int .i64 r.n,p.1,p.2]:=by
 unfold repsL
 rw [List.zip_append h.symm,List.flatMap_append]
 rfl
theorem repsL_at {rs:List M.Reply} {hr:List (Value×Value)} {i:Nat} {r:M.Reply} {p:Value×Value} (h1:rs[i]?=some r) (h2:hr[i]?=some p):
  (repsL rs hr)[i*4]?=some (.int .i64 r.code)/\(repsL rs hr)[i*4+1]?=some (.int .i64 r.n)/\(repsL rs hr)[i*4+2]?=some p.1/\(repsL rs hr)[i*4+3]?=some p.2:=by
 have hz:(rs.zip hr)[i]?=some (r,p):=List.getElem?_zip_eq_some.2 ⟨h1,h2⟩
 have k:=λj hj=>flat_at repL 4 (λ_=>rfl) (rs.zip hr) i j hz hj
 exact ⟨k 0 bO,k 1 bO,k 2 bO,k 3 bO⟩
structure OwnReps (w:World) (Q:Nat->Prop) (base:Nat) (vo:Value) (rs:List M.Reply) (hr:List (Value×Value)):Prop where
 len:hr.length=rs.length
 row:w.ownsRow base 35 4 vo rs.length (repsL rs hr)
 each:∀(i:Nat) (r:M.Reply) (p:Value×Value),rs[i]?=some r->hr[i]?=some p->w.ownsRow base 3 1 p.1 r.ids.length (r.ids.map (Value.int .i64))/\w.ownsRow base 71 2 p.2 r.met.length (r.met.flatMap pairL)
 off:∀b,Q b->vo.ownBlock≠some b
 offe:∀(i:Nat) (p:Value×Value),hr[i]?=some p->∀b,Q b\/vo.ownBlock=some b->p.1.ownBlock≠some b/\p.2.ownBlock≠some b
section
variable {w W:World} {Q R:Nat->Prop} {base:Nat} {vo vo':Value} {rs:List M.Reply} {hr:List (Value×Value)}
theorem OwnReps.nil (w:World) (Q:Nat->Prop) (base:Nat):OwnReps w Q base (.slice none 0 0) [] []:=
 ⟨rfl,World.ownsRow_nil _ _ _ _,(λi r p h _=>by simp at h),(λb _ e=>by cases e),λi p h=>by simp at h⟩
theorem OwnReps.old (h:OwnReps w Q base vo rs hr) {i:Nat} {p:Value×Value} (hp:hr[i]?=some p):(∀b,p.1.ownBlock=some b->b<w.heap.size)/\(∀b,p.2.ownBlock=some b->b<w.heap.size):=by
 have hlt:=(List.getElem?_eq_some_iff.1 hp).1
 have hl:=h.len
 obtain ⟨k1,k2⟩:=h.each i rs[i] p (List.getElem?_eq_getElem bO) hp
 exact ⟨λb e=>(k1.lt b e).2,λb e=>(k2.lt b e).2⟩
theorem OwnReps.only (h:OwnReps w Q base vo rs hr) (ho:Only Q w W) (hR:∀b,R b->Q b\/w.heap.size<=b):OwnReps W R base vo rs hr:=by
 refine ⟨h.len,own_only h.row ho h.off,λi r p h1 h2=>?_,λb q e=>?_,λi p hp b q=>?_⟩
 ·obtain ⟨k1,k2⟩:=h.each i r p h1 h2
  exact ⟨own_only k1 ho (λb q=>(h.offe i p h2 b (.inl q)).1),own_only k2 ho (λb q=>(h.offe i p h2 b (.inl q)).2)⟩
 ·rcases hR b q with k|k
  ·exact h.off b k e
  ·have:=(h.row.lt b e).2;omega
 ·rcases q with q|q
  ·rcases hR b q with k|k
   ·exact h.offe i p hp b (.inl k)
   ·obtain ⟨o1,o2⟩:=h.old hp
    exact ⟨λe=>by have:=o1 b e;omega,λe=>by have:=o2 b e;omega⟩
  ·exact h.offe i p hp b (.inr q)
theorem OwnReps.below (h:OwnReps w Q base vo rs hr) (hb:Below w.heap.size w W):OwnReps W Q base vo rs hr:=
 ⟨h.len,own_below h.row hb,λi r p h1 h2=>⟨own_below (h.each i r p h1 h2).1 hb,own_below (h.each i r p h1 h2).2 hb⟩,h.off,h.offe⟩
theorem OwnReps.less (h:OwnReps w Q base vo rs hr) (hq:∀b,R b->Q b):OwnReps w R base vo rs hr:=
 ⟨h.len,h.row,h.each,λb q=>h.off b (hq b q),λi p hp b q=>h.offe i p hp b (q.imp (hq b) id)⟩
theorem OwnReps.snoc {r:M.Reply} {p:Value×Value} (h:OwnReps w Q base vo rs hr) (hrow:W.ownsRow base 35 4 vo' (rs.length+1) (repsL rs hr++[.int .i64 r.code,.int .i64 r.n,p.1,p.2]))
  (hsame:∀g,g<w.heap.size->vo.ownBlock≠some g->W.heap[g]?=w.heap[g]?) (k1:w.ownsRow base 3 1 p.1 r.ids.length (r.ids.map (Value.int .i64))) (k2:w.ownsRow base 71 2 p.2 r.met.length (r.met.flatMap pairL))
  (q1:∀b,Q b\/vo.ownBlock=some b->p.1.ownBlock≠some b/\p.2.ownBlock≠some b) (hQ:∀b,Q b->b<w.heap.size) (hat:vo'.ownBlock=vo.ownBlock\/∃n,vo'.ownBlock=some n/\w.heap.size<=n):
  OwnReps W Q base vo' (rs++[r]) (hr++[p]):=by
 have hl:=h.len
 refine ⟨by simp [hl],?_,?_,?_,?_⟩
 ·rw [List.length_append,List.length_singleton,repsL_snoc rs hr hl]
  exact hrow
 ·intro i r' p' h1 h2
  rcases Nat.lt_or_ge i rs.length with hi|hi
  ·rw [List.getElem?_append_left hi] at h1
   rw [List.getElem?_append_left bO] at h2
   obtain ⟨k1,k2⟩:=h.each i r' p' h1 h2
   exact ⟨own_same k1 (λg e=>hsame g (k1.lt g e).2 (λe2=>(h.offe i p' h2 g (.inr e2)).1 e)),own_same k2 (λg e=>hsame g (k2.lt g e).2 (λe2=>(h.offe i p' h2 g (.inr e2)).2 e))⟩
  ·rw [List.getElem?_append_right hi] at h1
   rw [List.getElem?_append_right bO] at h2
   have hlt:=(List.getElem?_eq_some_iff.1 h1).1
   simp only [List.length_singleton] at hlt
   rw [show i-rs.length=0 by omega] at h1
   rw [show i-hr.length=0 by omega] at h2
   simp only [List.getElem?_cons_zero,Option.some.injEq] at h1 h2
   subst h1;subst h2
   exact ⟨own_same k1 (λg e=>hsame g (k1.lt g e).2 (λe2=>(q1 g (.inr e2)).1 e)),own_same k2 (λg e=>hsame g (k2.lt g e).2 (λe2=>(q1 g (.inr e2)).2 e))⟩
 ·intro b q e
  rcases hat with k|⟨n,k,hn⟩
  ·exact h.off b q (k▸e)
  ·rw [k] at e
   simp only [Option.some.injEq] at e
   have:=hQ b q
   omega
 ·have hnew:∀(p':Value×Value),(∀b,Q b\/vo.ownBlock=some b->p'.1.ownBlock≠some b/\p'.2.ownBlock≠some b)->(∀b,p'.1.ownBlock=some b->b<w.heap.size)->(∀b,p'.2.ownBlock=some b->b<w.heap.size)->∀b,Q b\/vo'.ownBlock=some b->p'.1.ownBlock≠some b/\p'.2.ownBlock≠some b:=by
   intro p' ha o1 o2 b q
   rcases q with q|q
   ·exact ha b (.inl q)
   ·rcases hat with k|⟨n,k,hn⟩
    ·exact ha b (.inr (k▸q))
    ·rw [k] at q
     simp only [Option.some.injEq] at q
     exact ⟨λe=>by have:=o1 b e;omega,λe=>by have:=o2 b e;omega⟩
  intro i p' hp
  rcases Nat.lt_or_ge i hr.length with hi|hi
  ·rw [List.getElem?_append_left hi] at hp
   exact hnew p' (h.offe i p' hp) (h.old hp).1 (h.old hp).2
  ·rw [List.getElem?_append_right hi] at hp
   have hlt:=(List.getElem?_eq_some_iff.1 hp).1
   simp only [List.length_singleton] at hlt
   rw [show i-hr.length=0 by omega] at hp
   simp only [List.getElem?_cons_zero,Option.some.injEq] at hp
   subst hp
   exact hnew p q1 (λb e=>(k1.lt b e).2) (λb e=>(k2.lt b e).2)
end
theorem reps_round {w2 w3 w9:World} {o:Obj} {Q Q3:Nat->Prop} {g:Nat} {G':M.Game} {a3:Option Addr} {c3:Nat} {sv3:Value} {hs3:List Value} {base k:Nat} {rs:List M.Reply} {r:M.Reply} {hr:List (Value×Value)} {oa a9 ai am:Option Addr} {oc c9 ci cm:Nat}
  (HG3:GameAt w3 Q3 g G' a3 c3 sv3 hs3) (HQ3:∀b,Q3 b->(Q b\/w2.heap.size<=b)/\b<w3.heap.size/\(Value.slice ai r.ids.length ci).ownBlock≠some b/\(Value.slice am r.met.length cm).ownBlock≠some b) (HO3:Only Q w2 w3)
  (HI3:w3.ownsRow w2.heap.size 3 1 (.slice ai r.ids.length ci) r.ids.length (r.ids.map (Value.int .i64))) (HM3:w3.ownsRow w2.heap.size 71 2 (.slice am r.met.length cm) r.met.length (r.met.flatMap pairL))
  (HR2:OwnReps w2 Q base (.slice oa k oc) rs hr) (hlen:rs.length=k) (hb:base<=w2.heap.size) (HO9:w9.ownsRow base 35 4 (.slice a9 (k+1) c9) (k+1) (repsL rs hr++[.int .i64 r.code,.int .i64 r.n,.slice ai r.ids.length ci,.slice am r.met.length cm]))
  (HG9:(w3.alloc o).grownBy w9 (Value.slice oa k oc).ownBlock) (HA9:(Value.slice a9 (k+1) c9).ownBlock=(Value.slice oa k oc).ownBlock\/(Value.slice a9 (k+1) c9).ownBlock=some (w3.alloc o).heap.size):
  GameAt w9 Q3 g G' a3 c3 sv3 hs3/\OwnReps w9 Q3 base (.slice a9 (k+1) c9) (rs++[r]) (hr++[(.slice ai r.ids.length ci,.slice am r.met.length cm)])/\w3.heap.size<=w9.heap.size/\(∀{B:Nat} {w:World},Below B w w3->B<=w3.heap.size->B<=base->Below B w w9):=by
 have HR3:=HR2.only HO3 (R:=Q3) (λb q=>(HQ3 b q).1)
 have hz3:=HO3.size
 have kz9:=HG9.size
 rw [World.size_alloc] at kz9
 have same9:∀b,b<w3.heap.size->(Value.slice oa k oc).ownBlock≠some b->w9.heap[b]?=w3.heap[b]?:=λb h1 h2=>(HG9.block b (by rw [World.size_alloc];omega) (λe=>h2 e.symm)).trans (Below.heap_alloc _ _ b h1)
 refine ⟨HG3.keep bO (λb h1 q=>same9 b h1 (HR3.off b q)),?_,by omega,λhB h1 h2=>(hB.alloc h1 _).grown HG9 (by rw [World.size_alloc];omega) (λk hk=>by have:=(HR2.row.lt k hk).1;omega)⟩
 refine HR3.snoc ?_ (λb h1 h2=>same9 b h1 h2) (own_lower HI3 hb) (own_lower HM3 hb) ?_ (λb q=>(HQ3 b q).2.1) ?_
 ·rw [hlen]
  exact HO9
 ·intro b q
  rcases q with q|q
  ·exact (HQ3 b q).2.2
  ·have h1:=(HR2.row.lt b q).2
   exact ⟨λe=>by have:=(HI3.lt b e).1;omega,λe=>by have:=(HM3.lt b e).1;omega⟩
 ·rcases HA9 with q|q
  ·exact .inl q
  ·exact .inr ⟨_,q,by rw [World.size_alloc];omega⟩
theorem infoReply:(Tryz.prog.info? 35).map (λi=>(i.zero,i.size,i.bytes))=some (some (.agg #[.int .i64 0,.int .i64 0,.slice none 0 0,.slice none 0 0]),4,64):=by kernel_rfl
theorem run_calls {w:World} {lo:Nat} {v:Value} {l:List M.Act} (h:ActsAt w lo v l) (hin:∀x∈l,ActIn x) (hl:l.length<=150) {wide high fall:Int} (hg:M.goodW ⟨⟨[],0⟩,fall,wide,high⟩=true):
  Calls Tryz.prog 14 #[.int .i64 wide,.int .i64 high,.int .i64 fall,v] w λe w'=>∃a c hr,e=.returned (.tuple #[.slice a l.length c,.int .i64 0])/\OwnReps w' (λ_=>False) w.heap.size (.slice a l.length c) (M.runActs ⟨⟨⟨[],0⟩,fall,wide,high⟩,[],0⟩ l).2 hr/\Below w.heap.size w w':=by
 obtain ⟨av,cv,rfl⟩:=h.val
 have HL:=hI h
 have HIN0:=hI hin
 have HN:=hI (λW=>new_calls wide high fall W hg)
 have HG0:Hid (M.GoodG ⟨⟨⟨[],0⟩,fall,wide,high⟩,[],0⟩):=hI ⟨M.goodW_iff.1 hg,λs hs=>by cases hs⟩
 obtain ⟨G0,hG0⟩:∃G0,G0=(⟨⟨⟨[],0⟩,fall,wide,high⟩,[],0⟩:M.Game):=⟨_,rfl⟩
 have ha0:G0.acts=0:=by rw [hG0]
 rw [←hG0] at HN HG0⊢
 have HA0:=hI ha0
 obtain ⟨i0,hi,hz0,hz1,hz2⟩:=info_parts infoReply
 have HIN:=hI (And.intro hi (And.intro hz0 (And.intro hz1 hz2)))
 have q150:decide ((150:Int)<(l.length:Int))=false:=by rw [decide_eq_false_iff_not];omega
 have q150':decide (150<l.length)=false:=by rw [decide_eq_false_iff_not];omega
 clear h hin hg hG0 ha0 hi hz0 hz1 hz2
 go_enter Tryz.func14,Tryz.ntmps14
 go_wp2_with (go_at_call 5;go_loud (refine (HN.out _).mono ?_;rintro e w1 ⟨g,rfl,hg1,hb1⟩;have HGA1:=hI hg1;have K1:=hb1;have kz1:=hb1.size;have lg1:=hg1.inQ.1;clear hg1 hb1))
 go_loopg [12,30] l.length (λgh o i wr=>∃(k:Nat) (Q:Nat->Prop) (a:Option Addr) (c:Nat) (sv:Value) (hs:List Value) (oa:Option Addr) (oc:Nat) (hr:List (Value×Value)),k<=l.length/\i=.int .i64 k/\o=.slice oa k oc/\gh=l.length-k/\GameAt wr Q g (M.runK G0 l k).1 a c sv hs/\(∀b,Q b->w.heap.size<=b/\b<wr.heap.size)/\OwnReps wr Q w.heap.size (.slice oa k oc) (M.runK G0 l k).2 hr/\Below w.heap.size w wr)
 case atStart=>exact ⟨0,_,none,0,_,[],none,0,[],Nat.zero_le _,rfl,rfl,rfl,HGA1.out,(λb q=>q),OwnReps.nil _ _ _,K1⟩
 case round=>
  obtain ⟨wo,hwo⟩:∃wo,wo=wr:=⟨_,rfl⟩
  subst hwo
  obtain ⟨k,Q,a,c,sv,hs,oa,oc,hr,hk,rfl,rfl,hgk,hga,hQ,hre,hb⟩:=hrel
  have HK:=hI hgk
  have HGA:=hI hga
  have HQ:=hI hQ
  have HRE:=hI hre
  have HB:=hI hb
  have ko:=hb.size
  clear hgk hga hQ hre hb K1
  rcases Nat.lt_or_ge k l.length with hlt|hge
  ·obtain ⟨x,hx⟩:∃x,l[k]?=some x:=⟨_,List.getElem?_eq_getElem hlt⟩
   obtain ⟨b,o,cap,ev,hlo,hc⟩:=(HL.out.below HB.out).at hx
   obtain ⟨rfl,rfl⟩:av=some ⟨b,o,none⟩/\cv=cap:=by simpa using ev
   obtain ⟨G',r,hd⟩:∃G' r,M.doAct (M.runK G0 l k).1 x=(G',r):=⟨_,_,rfl⟩
   have HS:=M.runK_succ G0 hx
   rw [hd] at HS
   have HG':Hid (G'=(M.runK G0 l (k+1)).1):=hI (by rw [HS])
   have HR':Hid ((M.runK G0 l (k+1)).2=(M.runK G0 l k).2++[r]):=hI (by rw [HS])
   have HLEN:Hid ((M.runK G0 l k).2.length=k):=hI (M.runK_len G0 l bO)
   have HXI:=hI (HIN0.out x (List.mem_of_getElem? hx))
   have HDD:=hI hd
   have HC:=hI hc
   have lb:b<wo.heap.size:=cell_lt (hc 0 _ rfl)
   clear ev hlo hc hx hd HS
   go_upto_region 10 with (first|(refine wpList_load_act (x:=x) rfl (.tmp 32) rfl b (o+k*17) (by rfl) HC.out ?_)|(refine wpList_store_actB (x:=x) rfl (.tmp 14) (.tmp 33) rfl wo.heap.size (by rfl) (by rfl) (Blk.new_at rfl) rfl ?_;intro WS hBS hOS hZS hLS;have KS:Below wo.heap.size wo WS:=hLS ((Below.refl _ wo).alloc lR _) lR;clear hOS hZS hLS))
   refine wp_called (λW2 hW2=>?_)
   have bA:Blk W2 wo.heap.size 42 (actC x):=by rw [hW2];exact hBS
   have K2:Below wo.heap.size wo W2:=by rw [hW2];exact KS
   have kz2:=K2.size
   have HGA2:=hI (HGA.out.below K2)
   have HR2:=hI (HRE.out.below K2)
   have HE3:=hI (do_calls2 HGA2.out (λb q=>by have:=(HQ.out b q).2;omega) (M.runK_good HG0.out l k) (M.runK_acts0 (by rw [HA0.out];exact Int.le_refl _) l k) HXI.out HDD.out)
   have HBA:=hI bA
   have HK2:=hI K2
   clear hW2 hBS KS bA K2
   go_wp2_with (first|(refine wpList_load_actB (x:=x) rfl (.tmp 14) rfl wo.heap.size (by rfl) HBA.out ?_)|(go_at_call_of 9 g;go_loud (refine HE3.out.mono ?_;rintro e w3 ⟨ai3,ci3,am3,cm3,Q3,a3,c3,sv3,hs3,rfl,hg3,hQ3,ho3,hi3,hm3⟩;have HG3:=hI hg3;have HQ3:=hI hQ3;have HO3:=hI ho3;have HI3:=hI hi3;have HM3:=hI hm3;have kz3:=ho3.size;(try simp at kz3);have HR3:=hI (HR2.out.only ho3 (λb q=>(hQ3 b q).1));have HROW:Hid (w3.ownsRow w.heap.size 35 4 (.slice oa k oc) k (repsL (M.runK G0 l k).2 hr)):=hI (by have:=HR3.out.row;rw [HLEN.out] at this;exact this);clear hg3 hQ3 ho3 hi3 hm3))|(at_builtin;refine wpList_append_own_at _ rfl (.tmp 34) (.tmp 38) _ rfl w.heap.size 35 i0 _ 4 64 Tryz.underlying60 HIN.out.1 HIN.out.2.1 HIN.out.2.2.1 HIN.out.2.2.2 rfl bO _ k _ rfl (own_below HROW.out (show Below w3.heap.size w3 _ from bel9)) ⟨w3.heap.size,0,none⟩ 1 1 [.int .i64 r.code,.int .i64 r.n,.slice ai3 r.ids.length ci3,.slice am3 r.met.length cm3] rfl rfl (by intro j u hu;rw [Addr.add_lit];match j,hu with|0,hu=>(simp at hu;subst hu;simp)|1,hu=>(simp at hu;subst hu;simp)|2,hu=>(simp at hu;subst hu;simp)|3,hu=>(simp at hu;subst hu;simp)|j+4,hu=>simp at hu) (by intro u hu;simp at hu;rcases hu with rfl|rfl|rfl|rfl<;>rfl) (by unfold maxLen;omega) bO sO ?_;intro v9 w9 hown9 hg9 _ hat9;obtain ⟨a9,c9,rfl⟩:=own_form hown9;have HO9:=hI hown9;have HG9:=hI hg9;have HA9:=hI hat9;have kz9:=hg9.size;(try simp at kz9);clear hown9 hg9 hat9))
   go_roundg (l.length-(k+1))
   case measure=>rw [HK.out];omega
   case rel=>
     obtain ⟨hG9,hR9,hz9,hB9⟩:=reps_round HG3.out HQ3.out HO3.out HI3.out HM3.out HR2.out HLEN.out bO HO9.out HG9.out HA9.out
     rw [HG'.out] at hG9
     rw [←HR'.out] at hR9
     exact ⟨k+1,Q3,a3,c3,sv3,hs3,a9,c9,_,by omega,by go_num,rfl,rfl,hG9,(λb q=>⟨by rcases (HQ3.out b q).1 with k|k<;>first|exact (HQ.out b k).1|omega,by have:=(HQ3.out b q).2.1;omega⟩),hR9,hB9 ((HB.out.trans (HK2.out.mono ko)).trans (HO3.out.below bO (λb q=>(HQ.out b q).1))) bO lR⟩
  ·obtain rfl:k=l.length:=by omega
   have q9:decide ((l.length:Int)<(l.length:Int))=false:=decide_eq_false bO
   go_wp2_with fail
   go_ret2
   have hR:=HRE.out
   rw [M.runK_all] at hR
   exact ⟨oa,oc,hr,rfl,hR.less (λb q=>q.elim),HB.out⟩
end Go.Proofs.YtemkbjaojinaoaaGreat
